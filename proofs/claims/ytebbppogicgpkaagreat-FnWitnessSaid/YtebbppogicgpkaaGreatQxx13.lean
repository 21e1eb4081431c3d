/- Contracts of functions. -/
import Derived.Test.YtebbppogicgpkaaGreatQxx0
namespace Go.Sep
set_option maxHeartbeats 16000000
open Go.Proofs
set_option linter.unusedSimpArgs false
set_option linter.unusedVariables false
set_option maxRecDepth 100000
structure Step where
 op:Int
 r:Int
 a:Int
 b:Int
 n:Int
 deriving DecidableEq,Inhabited
def stepC (x:Step):List AV:=[.int .i64 x.op,.int .i64 x.r,.int .i64 x.a,.int .i64 x.b,.int .i64 x.n]
def steps (l:List Step):List (List AV):=l.map stepC
theorem steps_nil:steps []=[]:=rfl
theorem steps_length (l:List Step):(steps l).length=l.length:=by simp [steps]
theorem steps_append (l k:List Step):steps l++steps k=steps (l++k):=by simp [steps]
theorem steps_one (op_:Int) (r_:Int) (a_:Int) (b_:Int) (n_:Int):[[.int .i64 op_,.int .i64 r_,.int .i64 a_,.int .i64 b_,.int .i64 n_]]=steps [⟨op_,r_,a_,b_,n_⟩]:=rfl
theorem steps_drop (l:List Step) (n:Nat):(steps l).drop n=steps (l.drop n):=by simp [steps]
theorem steps_take (l:List Step) (n:Nat):(steps l).take n=steps (l.take n):=by simp [steps]
theorem steps_set (l:List Step) (i:Nat) (op_:Int) (r_:Int) (a_:Int) (b_:Int) (n_:Int):(steps l).set i [.int .i64 op_,.int .i64 r_,.int .i64 a_,.int .i64 b_,.int .i64 n_]=steps (l.set i ⟨op_,r_,a_,b_,n_⟩):=by simp [steps,stepC]
theorem steps_getD (l:List Step) (i:Nat) (h:i<l.length):(steps l).getD i []=[.int .i64 (l.getD i default).op,.int .i64 (l.getD i default).r,.int .i64 (l.getD i default).a,.int .i64 (l.getD i default).b,.int .i64 (l.getD i default).n]:=by simp [steps,stepC,List.getD_eq_getElem?_getD,h]
theorem steps_bnd (A:Nat→Prop) (l:List Step):bndr A (steps l)↔True:=by
 simp only [iff_true]
 induction l with
 | nil=>trivial
 | cons x l ih=>exact ⟨by simp [stepC,bnds,bnd,nf_sl,qA9,qAw,qAb,qAs,qAy,qB5,qAo,wents_bnd,progs_bnd,qBi,bys_bnd],ih⟩
theorem steps_nb (l:List Step):nbr (steps l)↔True:=by
 simp only [iff_true]
 induction l with
 | nil=>trivial
 | cons x l ih=>exact ⟨by simp [stepC,nbs,nb,qAt,qBj,qAm,qBa,qBg,qB9,qB0,wents_nb,progs_nb,sources_nb,bys_nb],ih⟩
theorem steps_bw :∀(l:List Step),bwR (steps l)=steps l
 | []=>rfl
 | x::l=>by
  have:=steps_bw l
  simp only [steps,List.map_cons,bwR] at this⊢
  rw [this]
  simp [stepC,bwL,bwC,qAv,qBd,qAi,qB4,qBb,qBf,qAr,wents_bw,progs_bw,qBk,bys_bw]
theorem steps_free (l:List Step):free (steps l)↔True:=by
 simp only [iff_true]
 intro r hr c hc
 simp only [steps,List.mem_map] at hr
 obtain ⟨x,_,rfl⟩:=hr
 simp [stepC] at hc
 rcases hc with rfl | rfl | rfl | rfl | rfl<;>rfl
def codes (m:Mode) (l:List (List Step)):List (List AV):=l.map fun b=>[.sl m 5 (steps b)]
theorem codes_nil (m:Mode):codes m []=[]:=rfl
theorem codes_length (m:Mode) (l:List (List Step)):(codes m l).length=l.length:=by simp [codes]
theorem codes_append (m:Mode) (l k:List (List Step)):codes m l++codes m k=codes m (l++k):=by simp [codes]
theorem codes_drop (m:Mode) (l:List (List Step)) (n:Nat):(codes m l).drop n=codes m (l.drop n):=by simp [codes]
theorem codes_take (m:Mode) (l:List (List Step)) (n:Nat):(codes m l).take n=codes m (l.take n):=by simp [codes]
theorem codes_set (m:Mode) (l:List (List Step)) (i:Nat) (b_:List Step):(codes m l).set i [.sl m 5 (steps b_)]=codes m (l.set i b_):=by simp [codes]
theorem codes_getD (m:Mode) (l:List (List Step)) (i:Nat) (h:i<l.length):(codes m l).getD i []=[.sl m 5 (steps (l.getD i []))]:=by simp [codes,List.getD_eq_getElem?_getD,h]
theorem codes_bnd (A:Nat→Prop) (m:Mode) (l:List (List Step)):bndr A (codes m l)↔True:=by
 simp only [iff_true]
 induction l with
 | nil=>trivial
 | cons x l ih=>exact ⟨by simp [bnds,bnd,nf_sl,qA9,qAw,qAb,qAs,qAy,qB5,qAo,wents_bnd,progs_bnd,qBi,bys_bnd,steps_bnd],ih⟩
theorem codes_nb (l:List (List Step)):nbr (codes .own l)↔True:=by
 simp only [iff_true]
 induction l with
 | nil=>trivial
 | cons x l ih=>exact ⟨by simp [nbs,nb,qAt,qBj,qAm,qBa,qBg,qB9,qB0,wents_nb,progs_nb,sources_nb,bys_nb,steps_nb],ih⟩
theorem codes_bw (m:Mode) :∀(l:List (List Step)),bwR (codes m l)=codes .bw l
 | []=>rfl
 | x::l=>by
  have:=codes_bw m l
  simp only [codes,List.map_cons,bwR] at this⊢
  rw [this]
  simp [bwL,bwC,qAv,qBd,qAi,qB4,qBb,qBf,qAr,wents_bw,progs_bw,qBk,bys_bw,steps_bw]
theorem codes_free (l:List (List Step)):free (codes .bw l)↔True:=by
 simp only [iff_true]
 intro r hr c hc
 simp only [codes,List.mem_map] at hr
 obtain ⟨x,_,rfl⟩:=hr
 simp [] at hc
 rcases hc with rfl<;>rfl
structure Write where
 v:Int
 view:List Int
 deriving DecidableEq,Inhabited
def writeC (m:Mode) (x:Write):List AV:=[.int .i64 x.v,.sl m 1 (ints x.view)]
def writes (m:Mode) (l:List Write):List (List AV):=l.map (writeC m)
theorem writes_nil (m:Mode):writes m []=[]:=rfl
theorem writes_length (m:Mode) (l:List Write):(writes m l).length=l.length:=by simp [writes]
theorem writes_append (m:Mode) (l k:List Write):writes m l++writes m k=writes m (l++k):=by simp [writes]
theorem writes_drop (m:Mode) (l:List Write) (n:Nat):(writes m l).drop n=writes m (l.drop n):=by simp [writes]
theorem writes_take (m:Mode) (l:List Write) (n:Nat):(writes m l).take n=writes m (l.take n):=by simp [writes]
theorem writes_set (m:Mode) (l:List Write) (i:Nat) (v_:Int) (view_:List Int):(writes m l).set i [.int .i64 v_,.sl m 1 (ints view_)]=writes m (l.set i ⟨v_,view_⟩):=by simp [writes,writeC]
theorem writes_getD (m:Mode) (l:List Write) (i:Nat) (h:i<l.length):(writes m l).getD i []=[.int .i64 (l.getD i default).v,.sl m 1 (ints (l.getD i default).view)]:=by simp [writes,writeC,List.getD_eq_getElem?_getD,h]
theorem writes_bnd (A:Nat→Prop) (m:Mode) (l:List Write):bndr A (writes m l)↔True:=by
 simp only [iff_true]
 induction l with
 | nil=>trivial
 | cons x l ih=>exact ⟨by simp [writeC,bnds,bnd,nf_sl,qA9,qAw,qAb,qAs,qAy,qB5,qAo,wents_bnd,progs_bnd,qBi,bys_bnd,steps_bnd,codes_bnd],ih⟩
theorem writes_nb (l:List Write):nbr (writes .own l)↔True:=by
 simp only [iff_true]
 induction l with
 | nil=>trivial
 | cons x l ih=>exact ⟨by simp [writeC,nbs,nb,qAt,qBj,qAm,qBa,qBg,qB9,qB0,wents_nb,progs_nb,sources_nb,bys_nb,steps_nb,codes_nb],ih⟩
theorem writes_bw (m:Mode) :∀(l:List Write),bwR (writes m l)=writes .bw l
 | []=>rfl
 | x::l=>by
  have:=writes_bw m l
  simp only [writes,List.map_cons,bwR] at this⊢
  rw [this]
  simp [writeC,bwL,bwC,qAv,qBd,qAi,qB4,qBb,qBf,qAr,wents_bw,progs_bw,qBk,bys_bw,steps_bw,codes_bw]
theorem writes_free (l:List Write):free (writes .bw l)↔True:=by
 simp only [iff_true]
 intro r hr c hc
 simp only [writes,List.mem_map] at hr
 obtain ⟨x,_,rfl⟩:=hr
 simp [writeC] at hc
 rcases hc with rfl | rfl<;>rfl
def cels (m:Mode) (l:List (List Write)):List (List AV):=l.map fun b=>[.sl m 2 (writes m b)]
theorem cels_nil (m:Mode):cels m []=[]:=rfl
theorem cels_length (m:Mode) (l:List (List Write)):(cels m l).length=l.length:=by simp [cels]
theorem cels_append (m:Mode) (l k:List (List Write)):cels m l++cels m k=cels m (l++k):=by simp [cels]
theorem cels_drop (m:Mode) (l:List (List Write)) (n:Nat):(cels m l).drop n=cels m (l.drop n):=by simp [cels]
theorem cels_take (m:Mode) (l:List (List Write)) (n:Nat):(cels m l).take n=cels m (l.take n):=by simp [cels]
theorem cels_set (m:Mode) (l:List (List Write)) (i:Nat) (b_:List Write):(cels m l).set i [.sl m 2 (writes m b_)]=cels m (l.set i b_):=by simp [cels]
theorem cels_getD (m:Mode) (l:List (List Write)) (i:Nat) (h:i<l.length):(cels m l).getD i []=[.sl m 2 (writes m (l.getD i []))]:=by simp [cels,List.getD_eq_getElem?_getD,h]
theorem cels_bnd (A:Nat→Prop) (m:Mode) (l:List (List Write)):bndr A (cels m l)↔True:=by
 simp only [iff_true]
 induction l with
 | nil=>trivial
 | cons x l ih=>exact ⟨by simp [bnds,bnd,nf_sl,qA9,qAw,qAb,qAs,qAy,qB5,qAo,wents_bnd,progs_bnd,qBi,bys_bnd,steps_bnd,codes_bnd,writes_bnd],ih⟩
theorem cels_nb (l:List (List Write)):nbr (cels .own l)↔True:=by
 simp only [iff_true]
 induction l with
 | nil=>trivial
 | cons x l ih=>exact ⟨by simp [nbs,nb,qAt,qBj,qAm,qBa,qBg,qB9,qB0,wents_nb,progs_nb,sources_nb,bys_nb,steps_nb,codes_nb,writes_nb],ih⟩
theorem cels_bw (m:Mode) :∀(l:List (List Write)),bwR (cels m l)=cels .bw l
 | []=>rfl
 | x::l=>by
  have:=cels_bw m l
  simp only [cels,List.map_cons,bwR] at this⊢
  rw [this]
  simp [bwL,bwC,qAv,qBd,qAi,qB4,qBb,qBf,qAr,wents_bw,progs_bw,qBk,bys_bw,steps_bw,codes_bw,writes_bw]
theorem cels_free (l:List (List Write)):free (cels .bw l)↔True:=by
 simp only [iff_true]
 intro r hr c hc
 simp only [cels,List.mem_map] at hr
 obtain ⟨x,_,rfl⟩:=hr
 simp [] at hc
 rcases hc with rfl<;>rfl
structure Core where
 at_:Int
 regs:List Int
 view:List Int
 st:Int
 deriving DecidableEq,Inhabited
def coreC (m:Mode) (x:Core):List AV:=[.int .i64 x.at_,.sl m 1 (ints x.regs),.sl m 1 (ints x.view),.int .i64 x.st]
def cores (m:Mode) (l:List Core):List (List AV):=l.map (coreC m)
theorem cores_nil (m:Mode):cores m []=[]:=rfl
theorem cores_length (m:Mode) (l:List Core):(cores m l).length=l.length:=by simp [cores]
theorem cores_append (m:Mode) (l k:List Core):cores m l++cores m k=cores m (l++k):=by simp [cores]
theorem cores_drop (m:Mode) (l:List Core) (n:Nat):(cores m l).drop n=cores m (l.drop n):=by simp [cores]
theorem cores_take (m:Mode) (l:List Core) (n:Nat):(cores m l).take n=cores m (l.take n):=by simp [cores]
theorem cores_set (m:Mode) (l:List Core) (i:Nat) (at__:Int) (regs_:List Int) (view_:List Int) (st_:Int):(cores m l).set i [.int .i64 at__,.sl m 1 (ints regs_),.sl m 1 (ints view_),.int .i64 st_]=cores m (l.set i ⟨at__,regs_,view_,st_⟩):=by simp [cores,coreC]
theorem cores_getD (m:Mode) (l:List Core) (i:Nat) (h:i<l.length):(cores m l).getD i []=[.int .i64 (l.getD i default).at_,.sl m 1 (ints (l.getD i default).regs),.sl m 1 (ints (l.getD i default).view),.int .i64 (l.getD i default).st]:=by simp [cores,coreC,List.getD_eq_getElem?_getD,h]
theorem cores_bnd (A:Nat→Prop) (m:Mode) (l:List Core):bndr A (cores m l)↔True:=by
 simp only [iff_true]
 induction l with
 | nil=>trivial
 | cons x l ih=>exact ⟨by simp [coreC,bnds,bnd,nf_sl,qA9,qAw,qAb,qAs,qAy,qB5,qAo,wents_bnd,progs_bnd,qBi,bys_bnd,steps_bnd,codes_bnd,writes_bnd,cels_bnd],ih⟩
theorem cores_nb (l:List Core):nbr (cores .own l)↔True:=by
 simp only [iff_true]
 induction l with
 | nil=>trivial
 | cons x l ih=>exact ⟨by simp [coreC,nbs,nb,qAt,qBj,qAm,qBa,qBg,qB9,qB0,wents_nb,progs_nb,sources_nb,bys_nb,steps_nb,codes_nb,writes_nb,cels_nb],ih⟩
theorem cores_bw (m:Mode) :∀(l:List Core),bwR (cores m l)=cores .bw l
 | []=>rfl
 | x::l=>by
  have:=cores_bw m l
  simp only [cores,List.map_cons,bwR] at this⊢
  rw [this]
  simp [coreC,bwL,bwC,qAv,qBd,qAi,qB4,qBb,qBf,qAr,wents_bw,progs_bw,qBk,bys_bw,steps_bw,codes_bw,writes_bw,cels_bw]
theorem cores_free (l:List Core):free (cores .bw l)↔True:=by
 simp only [iff_true]
 intro r hr c hc
 simp only [cores,List.mem_map] at hr
 obtain ⟨x,_,rfl⟩:=hr
 simp [coreC] at hc
 rcases hc with rfl | rfl | rfl | rfl<;>rfl
structure Pick where
 who:Int
 late:Int
 deriving DecidableEq,Inhabited
def pickC (x:Pick):List AV:=[.int .i64 x.who,.int .i64 x.late]
def pcks (l:List Pick):List (List AV):=l.map pickC
theorem pcks_nil:pcks []=[]:=rfl
theorem pcks_length (l:List Pick):(pcks l).length=l.length:=by simp [pcks]
theorem pcks_append (l k:List Pick):pcks l++pcks k=pcks (l++k):=by simp [pcks]
theorem pcks_drop (l:List Pick) (n:Nat):(pcks l).drop n=pcks (l.drop n):=by simp [pcks]
theorem pcks_take (l:List Pick) (n:Nat):(pcks l).take n=pcks (l.take n):=by simp [pcks]
theorem pcks_set (l:List Pick) (i:Nat) (who_:Int) (late_:Int):(pcks l).set i [.int .i64 who_,.int .i64 late_]=pcks (l.set i ⟨who_,late_⟩):=by simp [pcks,pickC]
theorem pcks_getD (l:List Pick) (i:Nat) (h:i<l.length):(pcks l).getD i []=[.int .i64 (l.getD i default).who,.int .i64 (l.getD i default).late]:=by simp [pcks,pickC,List.getD_eq_getElem?_getD,h]
theorem pcks_bnd (A:Nat→Prop) (l:List Pick):bndr A (pcks l)↔True:=by
 simp only [iff_true]
 induction l with
 | nil=>trivial
 | cons x l ih=>exact ⟨by simp [pickC,bnds,bnd,nf_sl,qA9,qAw,qAb,qAs,qAy,qB5,qAo,wents_bnd,progs_bnd,qBi,bys_bnd,steps_bnd,codes_bnd,writes_bnd,cels_bnd,cores_bnd],ih⟩
theorem pcks_nb (l:List Pick):nbr (pcks l)↔True:=by
 simp only [iff_true]
 induction l with
 | nil=>trivial
 | cons x l ih=>exact ⟨by simp [pickC,nbs,nb,qAt,qBj,qAm,qBa,qBg,qB9,qB0,wents_nb,progs_nb,sources_nb,bys_nb,steps_nb,codes_nb,writes_nb,cels_nb,cores_nb],ih⟩
theorem pcks_bw :∀(l:List Pick),bwR (pcks l)=pcks l
 | []=>rfl
 | x::l=>by
  have:=pcks_bw l
  simp only [pcks,List.map_cons,bwR] at this⊢
  rw [this]
  simp [pickC,bwL,bwC,qAv,qBd,qAi,qB4,qBb,qBf,qAr,wents_bw,progs_bw,qBk,bys_bw,steps_bw,codes_bw,writes_bw,cels_bw,cores_bw]
theorem pcks_free (l:List Pick):free (pcks l)↔True:=by
 simp only [iff_true]
 intro r hr c hc
 simp only [pcks,List.mem_map] at hr
 obtain ⟨x,_,rfl⟩:=hr
 simp [pickC] at hc
 rcases hc with rfl | rfl<;>rfl
structure Memory where
 cells:List (List Write)
 deriving DecidableEq,Inhabited
def memoryC (m:Mode) (x:Memory):List AV:=[.sl m 1 (cels m x.cells)]
def memories (m:Mode) (l:List Memory):List (List AV):=l.map (memoryC m)
theorem memories_nil (m:Mode):memories m []=[]:=rfl
theorem memories_length (m:Mode) (l:List Memory):(memories m l).length=l.length:=by simp [memories]
theorem memories_append (m:Mode) (l k:List Memory):memories m l++memories m k=memories m (l++k):=by simp [memories]
theorem memories_drop (m:Mode) (l:List Memory) (n:Nat):(memories m l).drop n=memories m (l.drop n):=by simp [memories]
theorem memories_take (m:Mode) (l:List Memory) (n:Nat):(memories m l).take n=memories m (l.take n):=by simp [memories]
theorem memories_set (m:Mode) (l:List Memory) (i:Nat) (cells_:List (List Write)):(memories m l).set i [.sl m 1 (cels m cells_)]=memories m (l.set i ⟨cells_⟩):=by simp [memories,memoryC]
theorem memories_bnd (A:Nat→Prop) (m:Mode) (l:List Memory):bndr A (memories m l)↔True:=by
 simp only [iff_true]
 induction l with
 | nil=>trivial
 | cons x l ih=>exact ⟨by simp [memoryC,bnds,bnd,nf_sl,qA9,qAw,qAb,qAs,qAy,qB5,qAo,wents_bnd,progs_bnd,qBi,bys_bnd,steps_bnd,codes_bnd,writes_bnd,cels_bnd,cores_bnd,pcks_bnd],ih⟩
theorem memories_nb (l:List Memory):nbr (memories .own l)↔True:=by
 simp only [iff_true]
 induction l with
 | nil=>trivial
 | cons x l ih=>exact ⟨by simp [memoryC,nbs,nb,qAt,qBj,qAm,qBa,qBg,qB9,qB0,wents_nb,progs_nb,sources_nb,bys_nb,steps_nb,codes_nb,writes_nb,cels_nb,cores_nb,pcks_nb],ih⟩
theorem memories_bw (m:Mode) :∀(l:List Memory),bwR (memories m l)=memories .bw l
 | []=>rfl
 | x::l=>by
  have:=memories_bw m l
  simp only [memories,List.map_cons,bwR] at this⊢
  rw [this]
  simp [memoryC,bwL,bwC,qAv,qBd,qAi,qB4,qBb,qBf,qAr,wents_bw,progs_bw,qBk,bys_bw,steps_bw,codes_bw,writes_bw,cels_bw,cores_bw,pcks_bw]
theorem memories_free (l:List Memory):free (memories .bw l)↔True:=by
 simp only [iff_true]
 intro r hr c hc
 simp only [memories,List.mem_map] at hr
 obtain ⟨x,_,rfl⟩:=hr
 simp [memoryC] at hc
 rcases hc with rfl<;>rfl
structure Machine where
 codes:List (List Step)
 cores:List Core
 mem:Memory
 tr:List Note
 deriving DecidableEq,Inhabited
def machineC (m:Mode) (x:Machine):List AV:=[.sl m 1 (codes m x.codes),.sl m 4 (cores m x.cores),.sl m 1 (cels m x.mem.cells),.sl m 2 (notes x.tr)]
structure Em where
 list:List Step
 from_:Int
 base:Int
 room:Int
 deriving Inhabited
def emC (m:Mode) (x:Em):List AV:=[.sl m 5 (steps x.list),.int .i64 x.from_,.int .i64 x.base,.int .i64 x.room]
theorem fS2:((∀l,(steps l).length=l.length)∧(∀m l,(codes m l).length=l.length)∧(∀m l,(writes m l).length=l.length)∧(∀m l,(cels m l).length=l.length)∧(∀m l,(cores m l).length=l.length)∧(∀l,(pcks l).length=l.length)∧(∀m l,(memories m l).length=l.length)):=⟨by intros; simp [steps_length],by intros; simp [codes_length],by intros; simp [writes_length],by intros; simp [cels_length],by intros; simp [cores_length],by intros; simp [pcks_length],by intros; simp [memories_length]⟩
attribute [go_sem] steps_length steps_append steps_drop steps_take steps_set stepC codes_length codes_append codes_drop codes_take codes_set writes_length writes_append writes_drop writes_take writes_set writeC cels_length cels_append cels_drop cels_take cels_set cores_length cores_append cores_drop cores_take cores_set coreC pcks_length pcks_append pcks_drop pcks_take pcks_set pickC memories_length memories_append memories_drop memories_take memories_set memoryC machineC emC
attribute [simp] steps_nil steps_bw steps_bnd steps_nb steps_length steps_take steps_drop steps_free codes_nil codes_bw codes_bnd codes_nb codes_length codes_take codes_drop codes_free writes_nil writes_bw writes_bnd writes_nb writes_length writes_take writes_drop writes_free cels_nil cels_bw cels_bnd cels_nb cels_length cels_take cels_drop cels_free cores_nil cores_bw cores_bnd cores_nb cores_length cores_take cores_drop cores_free pcks_nil pcks_bw pcks_bnd pcks_nb pcks_length pcks_take pcks_drop pcks_free memories_nil memories_bw memories_bnd memories_nb memories_length memories_take memories_drop memories_free stepC writeC coreC pickC memoryC machineC emC
end Go.Sep
