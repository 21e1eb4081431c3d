/- Contracts of functions. -/
import Derived.Test.YtjbknbgdfhihcaaGreatJxx0
namespace Go.Sep
set_option maxHeartbeats 16000000
open Go.Proofs
set_option linter.unusedSimpArgs false
set_option linter.unusedVariables false
set_option maxRecDepth 100000
structure Step where
 op:Int
 r:Int
 a:Int
 b:Int
 n:Int
 deriving DecidableEq,Inhabited
def stepC (x:Step):List AV:=[.int .i64 x.op,.int .i64 x.r,.int .i64 x.a,.int .i64 x.b,.int .i64 x.n]
def steps (l:List Step):List (List AV):=l.map stepC
theorem steps_nil:steps []=[]:=rfl
theorem steps_length (l:List Step):(steps l).length=l.length:=by simp [steps]
theorem qAr (l k:List Step):steps l++steps k=steps (l++k):=by simp [steps]
theorem steps_drop (l:List Step) (n:Nat):(steps l).drop n=steps (l.drop n):=by simp [steps]
theorem steps_take (l:List Step) (n:Nat):(steps l).take n=steps (l.take n):=by simp [steps]
theorem steps_set (l:List Step) (i:Nat) (op_:Int) (r_:Int) (a_:Int) (b_:Int) (n_:Int):(steps l).set i [.int .i64 op_,.int .i64 r_,.int .i64 a_,.int .i64 b_,.int .i64 n_]=steps (l.set i ⟨op_,r_,a_,b_,n_⟩):=by simp [steps,stepC]
theorem qC6 (l:List Step) (i:Nat) (h:i<l.length):(steps l).getD i []=[.int .i64 (l.getD i default).op,.int .i64 (l.getD i default).r,.int .i64 (l.getD i default).a,.int .i64 (l.getD i default).b,.int .i64 (l.getD i default).n]:=by simp [steps,stepC,List.getD_eq_getElem?_getD,h]
theorem steps_bnd (A:Nat→Prop) (l:List Step):bndr A (steps l)↔True:=by
 simp only [iff_true]
 induction l with
 | nil=>trivial
 | cons x l ih=>exact ⟨by simp [stepC,bnds,bnd,nf_sl,qAo,qCi,qBl,qCb,qCj,qCr,qBw,qDe,qDo,qCw,bys_bnd],ih⟩
theorem steps_nb (l:List Step):nbr (steps l)↔True:=by
 simp only [iff_true]
 induction l with
 | nil=>trivial
 | cons x l ih=>exact ⟨by simp [stepC,nbs,nb,qBy,qDh,qBz,qCz,qDc,qCy,qCf,wents_nb,progs_nb,qDl,bys_nb],ih⟩
theorem steps_bw :∀(l:List Step),bwR (steps l)=steps l
 | []=>rfl
 | x::l=>by
  have:=steps_bw l
  simp only [steps,List.map_cons,bwR] at this⊢
  rw [this]
  simp [stepC,bwL,bwC,qC1,qD9,qBs,qCn,qD1,qDb,qC5,qDs,progs_bw,qD7,bys_bw]
theorem steps_free (l:List Step):free (steps l)↔True:=by
 simp only [iff_true]
 intro r hr c hc
 simp only [steps,List.mem_map] at hr
 obtain ⟨x,_,rfl⟩:=hr
 simp [stepC] at hc
 rcases hc with rfl | rfl | rfl | rfl | rfl<;>rfl
def codes (m:Mode) (l:List (List Step)):List (List AV):=l.map fun b=>[.sl m 5 (steps b)]
theorem codes_nil (m:Mode):codes m []=[]:=rfl
theorem qBr (m:Mode) (l:List (List Step)):(codes m l).length=l.length:=by simp [codes]
theorem codes_append (m:Mode) (l k:List (List Step)):codes m l++codes m k=codes m (l++k):=by simp [codes]
theorem codes_drop (m:Mode) (l:List (List Step)) (n:Nat):(codes m l).drop n=codes m (l.drop n):=by simp [codes]
theorem codes_take (m:Mode) (l:List (List Step)) (n:Nat):(codes m l).take n=codes m (l.take n):=by simp [codes]
theorem codes_set (m:Mode) (l:List (List Step)) (i:Nat) (b_:List Step):(codes m l).set i [.sl m 5 (steps b_)]=codes m (l.set i b_):=by simp [codes]
theorem qBu (m:Mode) (l:List (List Step)) (i:Nat) (h:i<l.length):(codes m l).getD i []=[.sl m 5 (steps (l.getD i []))]:=by simp [codes,List.getD_eq_getElem?_getD,h]
theorem codes_bnd (A:Nat→Prop) (m:Mode) (l:List (List Step)):bndr A (codes m l)↔True:=by
 simp only [iff_true]
 induction l with
 | nil=>trivial
 | cons x l ih=>exact ⟨by simp [bnds,bnd,nf_sl,qAo,qCi,qBl,qCb,qCj,qCr,qBw,qDe,qDo,qCw,bys_bnd,steps_bnd],ih⟩
theorem codes_nb (l:List (List Step)):nbr (codes .own l)↔True:=by
 simp only [iff_true]
 induction l with
 | nil=>trivial
 | cons x l ih=>exact ⟨by simp [nbs,nb,qBy,qDh,qBz,qCz,qDc,qCy,qCf,wents_nb,progs_nb,qDl,bys_nb,steps_nb],ih⟩
theorem codes_bw (m:Mode) :∀(l:List (List Step)),bwR (codes m l)=codes .bw l
 | []=>rfl
 | x::l=>by
  have:=codes_bw m l
  simp only [codes,List.map_cons,bwR] at this⊢
  rw [this]
  simp [bwL,bwC,qC1,qD9,qBs,qCn,qD1,qDb,qC5,qDs,progs_bw,qD7,bys_bw,steps_bw]
theorem codes_free (l:List (List Step)):free (codes .bw l)↔True:=by
 simp only [iff_true]
 intro r hr c hc
 simp only [codes,List.mem_map] at hr
 obtain ⟨x,_,rfl⟩:=hr
 simp [] at hc
 rcases hc with rfl<;>rfl
structure Write where
 v:Int
 view:List Int
 deriving DecidableEq,Inhabited
def writeC (m:Mode) (x:Write):List AV:=[.int .i64 x.v,.sl m 1 (ints x.view)]
def writes (m:Mode) (l:List Write):List (List AV):=l.map (writeC m)
theorem writes_nil (m:Mode):writes m []=[]:=rfl
theorem writes_length (m:Mode) (l:List Write):(writes m l).length=l.length:=by simp [writes]
theorem writes_append (m:Mode) (l k:List Write):writes m l++writes m k=writes m (l++k):=by simp [writes]
theorem writes_drop (m:Mode) (l:List Write) (n:Nat):(writes m l).drop n=writes m (l.drop n):=by simp [writes]
theorem writes_take (m:Mode) (l:List Write) (n:Nat):(writes m l).take n=writes m (l.take n):=by simp [writes]
theorem writes_set (m:Mode) (l:List Write) (i:Nat) (v_:Int) (view_:List Int):(writes m l).set i [.int .i64 v_,.sl m 1 (ints view_)]=writes m (l.set i ⟨v_,view_⟩):=by simp [writes,writeC]
theorem qCa (m:Mode) (l:List Write) (i:Nat) (h:i<l.length):(writes m l).getD i []=[.int .i64 (l.getD i default).v,.sl m 1 (ints (l.getD i default).view)]:=by simp [writes,writeC,List.getD_eq_getElem?_getD,h]
theorem writes_bnd (A:Nat→Prop) (m:Mode) (l:List Write):bndr A (writes m l)↔True:=by
 simp only [iff_true]
 induction l with
 | nil=>trivial
 | cons x l ih=>exact ⟨by simp [writeC,bnds,bnd,nf_sl,qAo,qCi,qBl,qCb,qCj,qCr,qBw,qDe,qDo,qCw,bys_bnd,steps_bnd,codes_bnd],ih⟩
theorem writes_nb (l:List Write):nbr (writes .own l)↔True:=by
 simp only [iff_true]
 induction l with
 | nil=>trivial
 | cons x l ih=>exact ⟨by simp [writeC,nbs,nb,qBy,qDh,qBz,qCz,qDc,qCy,qCf,wents_nb,progs_nb,qDl,bys_nb,steps_nb,codes_nb],ih⟩
theorem writes_bw (m:Mode) :∀(l:List Write),bwR (writes m l)=writes .bw l
 | []=>rfl
 | x::l=>by
  have:=writes_bw m l
  simp only [writes,List.map_cons,bwR] at this⊢
  rw [this]
  simp [writeC,bwL,bwC,qC1,qD9,qBs,qCn,qD1,qDb,qC5,qDs,progs_bw,qD7,bys_bw,steps_bw,codes_bw]
theorem writes_free (l:List Write):free (writes .bw l)↔True:=by
 simp only [iff_true]
 intro r hr c hc
 simp only [writes,List.mem_map] at hr
 obtain ⟨x,_,rfl⟩:=hr
 simp [writeC] at hc
 rcases hc with rfl | rfl<;>rfl
def cels (m:Mode) (l:List (List Write)):List (List AV):=l.map fun b=>[.sl m 2 (writes m b)]
theorem cels_nil (m:Mode):cels m []=[]:=rfl
theorem qAj (m:Mode) (l:List (List Write)):(cels m l).length=l.length:=by simp [cels]
theorem cels_append (m:Mode) (l k:List (List Write)):cels m l++cels m k=cels m (l++k):=by simp [cels]
theorem cels_drop (m:Mode) (l:List (List Write)) (n:Nat):(cels m l).drop n=cels m (l.drop n):=by simp [cels]
theorem cels_take (m:Mode) (l:List (List Write)) (n:Nat):(cels m l).take n=cels m (l.take n):=by simp [cels]
theorem qB8 (m:Mode) (l:List (List Write)) (i:Nat) (b_:List Write):(cels m l).set i [.sl m 2 (writes m b_)]=cels m (l.set i b_):=by simp [cels]
theorem qAu (m:Mode) (l:List (List Write)) (i:Nat) (h:i<l.length):(cels m l).getD i []=[.sl m 2 (writes m (l.getD i []))]:=by simp [cels,List.getD_eq_getElem?_getD,h]
theorem cels_bnd (A:Nat→Prop) (m:Mode) (l:List (List Write)):bndr A (cels m l)↔True:=by
 simp only [iff_true]
 induction l with
 | nil=>trivial
 | cons x l ih=>exact ⟨by simp [bnds,bnd,nf_sl,qAo,qCi,qBl,qCb,qCj,qCr,qBw,qDe,qDo,qCw,bys_bnd,steps_bnd,codes_bnd,writes_bnd],ih⟩
theorem cels_nb (l:List (List Write)):nbr (cels .own l)↔True:=by
 simp only [iff_true]
 induction l with
 | nil=>trivial
 | cons x l ih=>exact ⟨by simp [nbs,nb,qBy,qDh,qBz,qCz,qDc,qCy,qCf,wents_nb,progs_nb,qDl,bys_nb,steps_nb,codes_nb,writes_nb],ih⟩
theorem cels_bw (m:Mode) :∀(l:List (List Write)),bwR (cels m l)=cels .bw l
 | []=>rfl
 | x::l=>by
  have:=cels_bw m l
  simp only [cels,List.map_cons,bwR] at this⊢
  rw [this]
  simp [bwL,bwC,qC1,qD9,qBs,qCn,qD1,qDb,qC5,qDs,progs_bw,qD7,bys_bw,steps_bw,codes_bw,writes_bw]
theorem cels_free (l:List (List Write)):free (cels .bw l)↔True:=by
 simp only [iff_true]
 intro r hr c hc
 simp only [cels,List.mem_map] at hr
 obtain ⟨x,_,rfl⟩:=hr
 simp [] at hc
 rcases hc with rfl<;>rfl
structure Core where
 at_:Int
 regs:List Int
 view:List Int
 st:Int
 deriving DecidableEq,Inhabited
def coreC (m:Mode) (x:Core):List AV:=[.int .i64 x.at_,.sl m 1 (ints x.regs),.sl m 1 (ints x.view),.int .i64 x.st]
def cores (m:Mode) (l:List Core):List (List AV):=l.map (coreC m)
theorem cores_nil (m:Mode):cores m []=[]:=rfl
theorem qAx (m:Mode) (l:List Core):(cores m l).length=l.length:=by simp [cores]
theorem cores_append (m:Mode) (l k:List Core):cores m l++cores m k=cores m (l++k):=by simp [cores]
theorem cores_drop (m:Mode) (l:List Core) (n:Nat):(cores m l).drop n=cores m (l.drop n):=by simp [cores]
theorem cores_take (m:Mode) (l:List Core) (n:Nat):(cores m l).take n=cores m (l.take n):=by simp [cores]
theorem qA3 (m:Mode) (l:List Core) (i:Nat) (at__:Int) (regs_:List Int) (view_:List Int) (st_:Int):(cores m l).set i [.int .i64 at__,.sl m 1 (ints regs_),.sl m 1 (ints view_),.int .i64 st_]=cores m (l.set i ⟨at__,regs_,view_,st_⟩):=by simp [cores,coreC]
theorem qAv (m:Mode) (l:List Core) (i:Nat) (h:i<l.length):(cores m l).getD i []=[.int .i64 (l.getD i default).at_,.sl m 1 (ints (l.getD i default).regs),.sl m 1 (ints (l.getD i default).view),.int .i64 (l.getD i default).st]:=by simp [cores,coreC,List.getD_eq_getElem?_getD,h]
theorem cores_bnd (A:Nat→Prop) (m:Mode) (l:List Core):bndr A (cores m l)↔True:=by
 simp only [iff_true]
 induction l with
 | nil=>trivial
 | cons x l ih=>exact ⟨by simp [coreC,bnds,bnd,nf_sl,qAo,qCi,qBl,qCb,qCj,qCr,qBw,qDe,qDo,qCw,bys_bnd,steps_bnd,codes_bnd,writes_bnd,cels_bnd],ih⟩
theorem cores_nb (l:List Core):nbr (cores .own l)↔True:=by
 simp only [iff_true]
 induction l with
 | nil=>trivial
 | cons x l ih=>exact ⟨by simp [coreC,nbs,nb,qBy,qDh,qBz,qCz,qDc,qCy,qCf,wents_nb,progs_nb,qDl,bys_nb,steps_nb,codes_nb,writes_nb,cels_nb],ih⟩
theorem cores_bw (m:Mode) :∀(l:List Core),bwR (cores m l)=cores .bw l
 | []=>rfl
 | x::l=>by
  have:=cores_bw m l
  simp only [cores,List.map_cons,bwR] at this⊢
  rw [this]
  simp [coreC,bwL,bwC,qC1,qD9,qBs,qCn,qD1,qDb,qC5,qDs,progs_bw,qD7,bys_bw,steps_bw,codes_bw,writes_bw,cels_bw]
theorem cores_free (l:List Core):free (cores .bw l)↔True:=by
 simp only [iff_true]
 intro r hr c hc
 simp only [cores,List.mem_map] at hr
 obtain ⟨x,_,rfl⟩:=hr
 simp [coreC] at hc
 rcases hc with rfl | rfl | rfl | rfl<;>rfl
structure Pick where
 who:Int
 late:Int
 deriving DecidableEq,Inhabited
def pickC (x:Pick):List AV:=[.int .i64 x.who,.int .i64 x.late]
def pcks (l:List Pick):List (List AV):=l.map pickC
theorem pcks_nil:pcks []=[]:=rfl
theorem pcks_length (l:List Pick):(pcks l).length=l.length:=by simp [pcks]
theorem pcks_append (l k:List Pick):pcks l++pcks k=pcks (l++k):=by simp [pcks]
theorem pcks_drop (l:List Pick) (n:Nat):(pcks l).drop n=pcks (l.drop n):=by simp [pcks]
theorem pcks_take (l:List Pick) (n:Nat):(pcks l).take n=pcks (l.take n):=by simp [pcks]
theorem pcks_set (l:List Pick) (i:Nat) (who_:Int) (late_:Int):(pcks l).set i [.int .i64 who_,.int .i64 late_]=pcks (l.set i ⟨who_,late_⟩):=by simp [pcks,pickC]
theorem pcks_bnd (A:Nat→Prop) (l:List Pick):bndr A (pcks l)↔True:=by
 simp only [iff_true]
 induction l with
 | nil=>trivial
 | cons x l ih=>exact ⟨by simp [pickC,bnds,bnd,nf_sl,qAo,qCi,qBl,qCb,qCj,qCr,qBw,qDe,qDo,qCw,bys_bnd,steps_bnd,codes_bnd,writes_bnd,cels_bnd,cores_bnd],ih⟩
theorem pcks_nb (l:List Pick):nbr (pcks l)↔True:=by
 simp only [iff_true]
 induction l with
 | nil=>trivial
 | cons x l ih=>exact ⟨by simp [pickC,nbs,nb,qBy,qDh,qBz,qCz,qDc,qCy,qCf,wents_nb,progs_nb,qDl,bys_nb,steps_nb,codes_nb,writes_nb,cels_nb,cores_nb],ih⟩
theorem pcks_bw :∀(l:List Pick),bwR (pcks l)=pcks l
 | []=>rfl
 | x::l=>by
  have:=pcks_bw l
  simp only [pcks,List.map_cons,bwR] at this⊢
  rw [this]
  simp [pickC,bwL,bwC,qC1,qD9,qBs,qCn,qD1,qDb,qC5,qDs,progs_bw,qD7,bys_bw,steps_bw,codes_bw,writes_bw,cels_bw,cores_bw]
theorem pcks_free (l:List Pick):free (pcks l)↔True:=by
 simp only [iff_true]
 intro r hr c hc
 simp only [pcks,List.mem_map] at hr
 obtain ⟨x,_,rfl⟩:=hr
 simp [pickC] at hc
 rcases hc with rfl | rfl<;>rfl
structure Memory where
 cells:List (List Write)
 deriving DecidableEq,Inhabited
def memoryC (m:Mode) (x:Memory):List AV:=[.sl m 1 (cels m x.cells)]
def memories (m:Mode) (l:List Memory):List (List AV):=l.map (memoryC m)
theorem memories_nil (m:Mode):memories m []=[]:=rfl
theorem memories_length (m:Mode) (l:List Memory):(memories m l).length=l.length:=by simp [memories]
theorem memories_append (m:Mode) (l k:List Memory):memories m l++memories m k=memories m (l++k):=by simp [memories]
theorem memories_drop (m:Mode) (l:List Memory) (n:Nat):(memories m l).drop n=memories m (l.drop n):=by simp [memories]
theorem memories_take (m:Mode) (l:List Memory) (n:Nat):(memories m l).take n=memories m (l.take n):=by simp [memories]
theorem memories_set (m:Mode) (l:List Memory) (i:Nat) (cells_:List (List Write)):(memories m l).set i [.sl m 1 (cels m cells_)]=memories m (l.set i ⟨cells_⟩):=by simp [memories,memoryC]
theorem memories_bnd (A:Nat→Prop) (m:Mode) (l:List Memory):bndr A (memories m l)↔True:=by
 simp only [iff_true]
 induction l with
 | nil=>trivial
 | cons x l ih=>exact ⟨by simp [memoryC,bnds,bnd,nf_sl,qAo,qCi,qBl,qCb,qCj,qCr,qBw,qDe,qDo,qCw,bys_bnd,steps_bnd,codes_bnd,writes_bnd,cels_bnd,cores_bnd,pcks_bnd],ih⟩
theorem memories_nb (l:List Memory):nbr (memories .own l)↔True:=by
 simp only [iff_true]
 induction l with
 | nil=>trivial
 | cons x l ih=>exact ⟨by simp [memoryC,nbs,nb,qBy,qDh,qBz,qCz,qDc,qCy,qCf,wents_nb,progs_nb,qDl,bys_nb,steps_nb,codes_nb,writes_nb,cels_nb,cores_nb,pcks_nb],ih⟩
theorem memories_bw (m:Mode) :∀(l:List Memory),bwR (memories m l)=memories .bw l
 | []=>rfl
 | x::l=>by
  have:=memories_bw m l
  simp only [memories,List.map_cons,bwR] at this⊢
  rw [this]
  simp [memoryC,bwL,bwC,qC1,qD9,qBs,qCn,qD1,qDb,qC5,qDs,progs_bw,qD7,bys_bw,steps_bw,codes_bw,writes_bw,cels_bw,cores_bw,pcks_bw]
theorem memories_free (l:List Memory):free (memories .bw l)↔True:=by
 simp only [iff_true]
 intro r hr c hc
 simp only [memories,List.mem_map] at hr
 obtain ⟨x,_,rfl⟩:=hr
 simp [memoryC] at hc
 rcases hc with rfl<;>rfl
structure Machine where
 codes:List (List Step)
 cores:List Core
 mem:Memory
 tr:List Note
 deriving DecidableEq,Inhabited
def machineC (m:Mode) (x:Machine):List AV:=[.sl m 1 (codes m x.codes),.sl m 4 (cores m x.cores),.sl m 1 (cels m x.mem.cells),.sl m 2 (notes x.tr)]
theorem fS2:((∀l,(steps l).length=l.length)∧(∀m l,(codes m l).length=l.length)∧(∀m l,(writes m l).length=l.length)∧(∀m l,(cels m l).length=l.length)∧(∀m l,(cores m l).length=l.length)∧(∀l,(pcks l).length=l.length)∧(∀m l,(memories m l).length=l.length)):=⟨by intros; simp [steps_length],by intros; simp [qBr],by intros; simp [writes_length],by intros; simp [qAj],by intros; simp [qAx],by intros; simp [pcks_length],by intros; simp [memories_length]⟩
attribute [go_sem] steps_length qAr steps_drop steps_take steps_set stepC qBr codes_append codes_drop codes_take codes_set writes_length writes_append writes_drop writes_take writes_set writeC qAj cels_append cels_drop cels_take qB8 qAx cores_append cores_drop cores_take qA3 coreC pcks_length pcks_append pcks_drop pcks_take pcks_set pickC memories_length memories_append memories_drop memories_take memories_set memoryC machineC
attribute [simp] steps_nil steps_bw steps_bnd steps_nb steps_length steps_take steps_drop steps_free codes_nil codes_bw codes_bnd codes_nb qBr codes_take codes_drop codes_free writes_nil writes_bw writes_bnd writes_nb writes_length writes_take writes_drop writes_free cels_nil cels_bw cels_bnd cels_nb qAj cels_take cels_drop cels_free cores_nil cores_bw cores_bnd cores_nb qAx cores_take cores_drop cores_free pcks_nil pcks_bw pcks_bnd pcks_nb pcks_length pcks_take pcks_drop pcks_free memories_nil memories_bw memories_bnd memories_nb memories_length memories_take memories_drop memories_free stepC writeC coreC pickC memoryC machineC
def m262:MFn:=⟨19,[.t 2],kr [xb 1 0,xI 2 0] (.seq (kr [xa 3 0 1,xl 4 3] (.blk 0 (kr [bI 6 .eql 4 5,xv 5 6] (.cond 5 (kR [xI 2 29]) (kr [bI 8 .eql 4 7,xv 7 8] (.cond 7 (kR [xI 2 31]) (kr [bI 10 .eql 4 6,xv 9 10] (.cond 9 (kR [xI 2 30]) (kr [bI 12 .eql 4 8,xv 11 12] (.cond 11 (kR [xI 2 32]) (kr [bI 14 .eql 4 9,xv 13 14] (kF 13 [xI 2 13])))))))))))) (kR [xa 15 0 1,xl 16 15,xc3 17 59 (.t 16) (xi 1) (xi 13),xc1 18 78 (.t 17),xv 2 18]))⟩
def m285:MFn:=⟨19,[.t 2],kr [xb 1 0,xI 2 0] (.seq (kr [xa 3 0 1,xl 4 3] (.blk 0 (kr [bI 6 .eql 4 5,xv 5 6] (.cond 5 (kR [xI 2 29]) (kr [bI 8 .eql 4 7,xv 7 8] (.cond 7 (kR [xI 2 31]) (kr [bI 10 .eql 4 6,xv 9 10] (.cond 9 (kR [xI 2 30]) (kr [bI 12 .eql 4 8,xv 11 12] (.cond 11 (kR [xI 2 32]) (kr [bI 14 .eql 4 9,xv 13 14] (kF 13 [xI 2 13])))))))))))) (kR [xa 15 0 1,xl 16 15,xc3 17 64 (.t 16) (xi 1) (xi 13),xc1 18 85 (.t 17),xv 2 18]))⟩
attribute [local go_sem] e_nil
def emitSize (x:Ins):Int:=if x.op=5 then 29 else if x.op=7 then 31 else if x.op=6 then 30 else if x.op=8 then 32 else if x.op=9 then 13 else numb (within x.op 1 13)
theorem qAz (x:Ins):CallOk Tryz.prog num 262 [.agg (insC x)] [] (.int .i64 (emitSize x)):=by
 refine EN m262 Tryz.func218 ?_
 unfold m262
 repeat' (first
  | (simp only [go_sem,seval])
  | (refine qA1 (fun hc=>?_) (fun hc=>?_)<;>((try simp only [Bool.not_eq_true',Bool.not_eq_false',ne_eq,Bool.not_eq_true,Bool.not_eq_false] at hc)<;>(try simp only [hc])))
  | (refine qB4 (fun hc=>?_) (fun hc=>?_)<;>((try simp only [Bool.not_eq_true',Bool.not_eq_false',ne_eq,Bool.not_eq_true,Bool.not_eq_false] at hc)<;>(try simp only [hc])))
  | (refine qAy (fun hc=>?_) (fun hc=>?_)<;>((try simp only [Bool.not_eq_true',Bool.not_eq_false',ne_eq,Bool.not_eq_true,Bool.not_eq_false] at hc)<;>(try simp only [hc])))
  | (refine qC8 (qAk x.op 1 13) rfl rfl rfl rfl ?_)
  | (refine qBi (qAk x.op 1 13) rfl rfl rfl rfl ?_)
  | (refine qC8 (qD3 (within x.op 1 13)) rfl rfl rfl rfl ?_)
  | (refine qBi (qD3 (within x.op 1 13)) rfl rfl rfl rfl ?_)
  | (refine ⟨by first | omega | (simp; done),?_⟩)
  | fail)
 all_goals (refine fz ?_; simp [FinS,nilL,nilV,oneOr,-List.drop_one])
 all_goals (simp_all [emitSize]; done)
theorem qCp (x:Ins):CallOk Tryz.prog num 285 [.agg (insC x)] [] (.int .i64 (emitSize x)):=by
 refine EN m285 Tryz.func187 ?_
 unfold m285
 repeat' (first
  | (simp only [go_sem,seval])
  | (refine qA1 (fun hc=>?_) (fun hc=>?_)<;>((try simp only [Bool.not_eq_true',Bool.not_eq_false',ne_eq,Bool.not_eq_true,Bool.not_eq_false] at hc)<;>(try simp only [hc])))
  | (refine qB4 (fun hc=>?_) (fun hc=>?_)<;>((try simp only [Bool.not_eq_true',Bool.not_eq_false',ne_eq,Bool.not_eq_true,Bool.not_eq_false] at hc)<;>(try simp only [hc])))
  | (refine qAy (fun hc=>?_) (fun hc=>?_)<;>((try simp only [Bool.not_eq_true',Bool.not_eq_false',ne_eq,Bool.not_eq_true,Bool.not_eq_false] at hc)<;>(try simp only [hc])))
  | (refine qC8 (qAq x.op 1 13) rfl rfl rfl rfl ?_)
  | (refine qBi (qAq x.op 1 13) rfl rfl rfl rfl ?_)
  | (refine qC8 (l4Bit_ok (within x.op 1 13)) rfl rfl rfl rfl ?_)
  | (refine qBi (l4Bit_ok (within x.op 1 13)) rfl rfl rfl rfl ?_)
  | (refine ⟨by first | omega | (simp; done),?_⟩)
  | fail)
 all_goals (refine fz ?_; simp [FinS,nilL,nilV,oneOr,-List.drop_one])
 all_goals (simp_all [emitSize]; done)
def m268:MFn:=⟨65,[.t 4],kr [xb 2 0,xF 4] (kr [xI 5 0] (.seq (kr [xa 6 0 2,xl 7 6,xc3 8 59 (.t 7) (xi 5) (xi 7)] (.cond 8 (xr [xo 5 (.mv (.c (.int .i64 (-1))))]) (.skip))) (.seq (.seq (.dreg (.only 0 [] (xa 9 0 2) (.only 1 [] (xl 10 9) (.only 2 [] (xc3 11 59 (.t 10) (xi 1) (xi 13)) (.only 3 [] (xN 12 11) (.only 4 [] (xv 13 12) (.take 5 (xg 14 (.load 5 true (.t 2)) 13 false) (.only 6 [] (xg 15 (.load 5 true (.t 2)) 13 false) (.only 7 [] (xg 16 (.call 310 [false] [.t 15]) 13 false) (.only 8 [5] (xg 17 (.eqS true [true,true,true,true,true] (.t 14) (.t 16)) 13 false) (.only 9 [8,5] (xQ 18 13 17) (.only 10 [9,8,5] (xv 19 18) (.only 11 [10,9,8,5] (za 20 1 2 19) (.only 12 [10,9,8,5] (zl 21 1 20 19) (.only 13 [10,9,8,5] (xg 22 (.call 59 [false,false,false] [.t 21,xi 0,xi 7]) 19 false) (.only 14 [10,9,8,5] (zN 23 22 19) (.only 15 [10,9,8,5] (xQ 24 19 23) (.only 16 [13,10,9,8,5] (xv 25 24) (.take 17 (za 26 2 2 25) (.take 18 (zl 27 1 26 25) (.only 19 [16,13,10,9,8,5] (zv 28 5 25) (.only 20 [16,18,13,17,10,9,8,5] (xg 29 (.call 59 [false,false,false] [.t 27,.t 28,xi 7]) 25 false) (.only 21 [16,20,13,18,10,17,9,8,5] (zN 30 29 25) (.only 22 [16,21,13,20,10,18,9,17,8,5] (xQ 31 25 30) (.only 23 [20,16,18,13,17,10,9,8,5] (xv 32 31) (.only 24 [23,20,16,18,13,17,10,9,8,5] (za 33 3 2 32) (.only 25 [23,20,16,18,13,17,10,9,8,5] (zl 34 1 33 32) (.only 26 [23,20,16,18,13,17,10,9,8,5] (xg 35 (.call 59 [false,false,false] [.t 34,xi 0,xi 7]) 32 false) (.only 27 [23,20,16,18,13,17,10,9,8,5] (zN 36 35 32) (.only 28 [23,20,16,18,13,17,10,9,8,5] (xQ 37 32 36) (.done))))))))))))))))))))))))))))))) (kF 37 [xF 4])) (.seq (kr [xa 38 0 2,xl 39 38] (.blk 0 (kr [bI 41 .eql 39 1,xv 40 41] (.cond 40 (kR [xa 42 4 2,xl 43 42,xc3 44 59 (.t 43) (.c (.int .i64 (-1000000000))) (xi 1000000000),xv 4 44]) (.seq (kr [bI 46 .eql 39 5,xv 45 46] (.cond 45 (.skip) (kr [bI 47 .eql 39 6,xv 45 47] (.cond 45 (.skip) (kr [bI 48 .eql 39 7,xv 45 48] (.cond 45 (.skip) (xr [bI 49 .eql 39 8,xv 45 49]))))))) (.cond 45 (kR [xa 50 4 2,xl 51 50,xc1 52 311 (.t 51),xv 4 52]) (.seq (kr [bI 54 .eql 39 10,xv 53 54] (.cond 53 (.skip) (xr [bI 55 .eql 39 11,xv 53 55]))) (kF 53 [xa 56 4 2,xl 57 56,bI 58 .geq 57 0,xv 59 58,ya 60 4 2 59,yl 61 1 60 59,yv 62 1 59,xg 63 (.bin .lss (.t 61) (.t 62)) 59 true,xP 64 59 63,xv 4 64])))))))) (kR [xT 4])))))⟩
def m301:MFn:=⟨5,[.t 2],kr [xF 2] (kR [xv 3 0,xc3 4 64 (.t 3) (xi 0) (xi 7),xv 2 4])⟩
def m310:MFn:=⟨83,[.cell 2 5 true],kr [xb 1 0,xo 2 (.alloc [xz,xz,xz,xz,xz])] (kr [xa 4 0 1,xl 5 4,xo 6 (.build [xz,xz,xz,xz,xz] [(0,1,.t 5)]),xo 3 (.alloc [xz,xz,xz,xz,xz]),xS 5 3 6] (.seq (kr [xa 7 0 1,xl 8 7] (.blk 0 (kr [bI 10 .eql 8 1,xv 9 10] (.cond 9 (.dreg (.take 0 (xa 11 1 1) (.take 1 (xl 12 11) (.take 2 (xa 13 4 1) (.take 3 (xl 14 13) (.only 4 [0,1] (xa 15 1 3) (.only 5 [0,1] (xS 1 15 12) (.only 6 [0,1,2,3] (xa 16 4 3) (.only 7 [0,1,2,3] (xS 1 16 14) (.done)))))))))) (.seq (kr [bI 18 .eql 8 2,xv 17 18] (.cond 17 (.skip) (kr [bI 19 .eql 8 3,xv 17 19] (.cond 17 (.skip) (xr [bI 20 .eql 8 4,xv 17 20]))))) (.cond 17 (.dreg (.take 0 (xa 21 1 1) (.take 1 (xl 22 21) (.take 2 (xa 23 2 1) (.take 3 (xl 24 23) (.take 4 (xa 25 3 1) (.take 5 (xl 26 25) (.only 6 [0,1] (xa 27 1 3) (.only 7 [0,1] (xS 1 27 22) (.only 8 [0,1,2,3] (xa 28 2 3) (.only 9 [0,1,2,3] (xS 1 28 24) (.only 10 [0,1,2,3,4,5] (xa 29 3 3) (.only 11 [0,1,2,3,4,5] (xS 1 29 26) (.done)))))))))))))) (kr [bI 31 .eql 8 5,xv 30 31] (.cond 30 (.dreg (.take 0 (xa 32 1 1) (.take 1 (xl 33 32) (.take 2 (xa 34 2 1) (.take 3 (xl 35 34) (.take 4 (xa 36 4 1) (.take 5 (xl 37 36) (.only 6 [0,1] (xa 38 1 3) (.only 7 [0,1] (xS 1 38 33) (.only 8 [0,1,2,3] (xa 39 2 3) (.only 9 [0,1,2,3] (xS 1 39 35) (.only 10 [0,1,2,3,4,5] (xa 40 4 3) (.only 11 [0,1,2,3,4,5] (xS 1 40 37) (.done)))))))))))))) (.seq (kr [bI 42 .eql 8 6,xv 41 42] (.cond 41 (.skip) (xr [bI 43 .eql 8 7,xv 41 43]))) (.cond 41 (.dreg (.take 0 (xa 44 2 1) (.take 1 (xl 45 44) (.take 2 (xa 46 3 1) (.take 3 (xl 47 46) (.take 4 (xa 48 4 1) (.take 5 (xl 49 48) (.only 6 [0,1] (xa 50 2 3) (.only 7 [0,1] (xS 1 50 45) (.only 8 [0,1,2,3] (xa 51 3 3) (.only 9 [0,1,2,3] (xS 1 51 47) (.only 10 [0,1,2,3,4,5] (xa 52 4 3) (.only 11 [0,1,2,3,4,5] (xS 1 52 49) (.done)))))))))))))) (kr [bI 54 .eql 8 8,xv 53 54] (.cond 53 (.dreg (.take 0 (xa 55 1 1) (.take 1 (xl 56 55) (.take 2 (xa 57 3 1) (.take 3 (xl 58 57) (.take 4 (xa 59 4 1) (.take 5 (xl 60 59) (.only 6 [0,1] (xa 61 1 3) (.only 7 [0,1] (xS 1 61 56) (.only 8 [0,1,2,3] (xa 62 3 3) (.only 9 [0,1,2,3] (xS 1 62 58) (.only 10 [0,1,2,3,4,5] (xa 63 4 3) (.only 11 [0,1,2,3,4,5] (xS 1 63 60) (.done)))))))))))))) (kr [bI 65 .eql 8 9,xv 64 65] (.cond 64 (xr [xa 66 2 1,xl 67 66,xa 68 2 3,xS 1 68 67]) (kr [bI 70 .eql 8 10,xv 69 70] (.cond 69 (xr [xa 71 4 1,xl 72 71,xa 73 4 3,xS 1 73 72]) (kr [bI 75 .eql 8 11,xv 74 75] (.cond 74 (.dreg (.take 0 (xa 76 2 1) (.take 1 (xl 77 76) (.take 2 (xa 78 4 1) (.take 3 (xl 79 78) (.only 4 [0,1] (xa 80 2 3) (.only 5 [0,1] (xS 1 80 77) (.only 6 [0,1,2,3] (xa 81 4 3) (.only 7 [0,1,2,3] (xS 1 81 79) (.done)))))))))) (.skip))))))))))))))))))) (kR [xm 82 5 3,xS 5 2 82])))⟩
def m311:MFn:=⟨5,[.t 2],kr [xF 2] (kR [xv 3 0,xc3 4 59 (.t 3) (xi 0) (xi 23),xv 2 4])⟩
def stepOk (x:Step) (pl:Int):Bool :=
 within x.r 0 7&&within x.b 0 7&&(within x.a 0 7||((decide (x.op=5)||decide (x.op=6)||decide (x.op=7))&&decide (x.a=-1))) &&
 (if x.op=1 then within x.n (-1000000000) 1000000000&&decide (x.a=0)&&decide (x.b=0)
  else if x.op=2∨x.op=3∨x.op=4 then decide (x.n=0)
  else if x.op=5 then within x.n 0 23&&decide (x.b=0)
  else if x.op=6∨x.op=7 then within x.n 0 23&&decide (x.r=0)
  else if x.op=8 then within x.n 0 23&&decide (x.a=0)
  else if x.op=9 then decide (x.r=0)&&decide (x.b=0)&&decide (x.n=0)
  else if x.op=10 then decide (0≤x.n)&&decide (x.n<pl)&&decide (x.r=0)&&decide (x.a=0)&&decide (x.b=0)
  else if x.op=11 then decide (0≤x.n)&&decide (x.n<pl)&&decide (x.r=0)&&decide (x.b=0)
  else if x.op=12∨x.op=13 then decide (x.r=0)&&(decide (x.a=0)&&(decide (x.b=0)&&decide (x.n=0)))
  else false)
def stepNamed (x:Step):Step :=
 if x.op=1 then ⟨x.op,x.r,0,0,x.n⟩
 else if x.op=2∨x.op=3∨x.op=4 then ⟨x.op,x.r,x.a,x.b,0⟩
 else if x.op=5 then ⟨x.op,x.r,x.a,0,x.n⟩
 else if x.op=6∨x.op=7 then ⟨x.op,0,x.a,x.b,x.n⟩
 else if x.op=8 then ⟨x.op,x.r,0,x.b,x.n⟩
 else if x.op=9 then ⟨x.op,0,x.a,0,0⟩
 else if x.op=10 then ⟨x.op,0,0,0,x.n⟩
 else if x.op=11 then ⟨x.op,0,x.a,0,x.n⟩
 else ⟨x.op,0,0,0,0⟩
def stepOkF (x:Step) (pl:Int):Bool :=
 within x.op 1 13&&(decide (x.op=(stepNamed x).op)&&(decide (x.r=(stepNamed x).r)&&(decide (x.a=(stepNamed x).a)&&(decide (x.b=(stepNamed x).b)&&decide (x.n=(stepNamed x).n))))) &&
 within x.r 0 7&&within x.a (if within x.op 5 7=true then -1 else 0) 7&&within x.b 0 7 &&
 (if x.op=1 then within x.n (-1000000000) 1000000000
  else if x.op=5∨x.op=6∨x.op=7∨x.op=8 then within x.n 0 23
  else if x.op=10∨x.op=11 then decide (0≤x.n)&&decide (x.n<pl)
  else true)
theorem isCell_ok (n:Int):CallOk Tryz.prog num 311 [.int .i64 n] [] (.bool (within n 0 23)):=by
 refine EN m311 Tryz.func200 ?_
 unfold m311
 simp only [go_sem,seval]
 repeat refine K ?_
 refine CA [] (qAk n 0 23) ?_
 try simp only [go_sem,seval]
 repeat refine K ?_
 refine fz ?_; simp [FinS,nilL,nilV,oneOr,-List.drop_one]
theorem qDt (n:Int):CallOk Tryz.prog num 301 [.int .i64 n] [] (.bool (within n 0 7)):=by
 refine EN m301 Tryz.func233 ?_
 unfold m301
 simp only [go_sem,seval]
 repeat refine K ?_
 refine CA [] (qAq n 0 7) ?_
 try simp only [go_sem,seval]
 repeat refine K ?_
 refine fz ?_; simp [FinS,nilL,nilV,oneOr,-List.drop_one]
theorem stepNamed_ok (x:Step):CallOk Tryz.prog num 310 [.agg (stepC x)] [] (.agg (stepC (stepNamed x))):=by
 refine EN m310 Tryz.func237 ?_
 unfold m310
 repeat' (first
  | (simp only [go_sem,seval])
  | (refine qA1 (fun hc=>?_) (fun hc=>?_)<;>((try simp only [Bool.not_eq_true',Bool.not_eq_false',ne_eq,Bool.not_eq_true,Bool.not_eq_false] at hc)<;>(try simp only [hc])))
  | (refine qB4 (fun hc=>?_) (fun hc=>?_)<;>((try simp only [Bool.not_eq_true',Bool.not_eq_false',ne_eq,Bool.not_eq_true,Bool.not_eq_false] at hc)<;>(try simp only [hc])))
  | (refine qAy (fun hc=>?_) (fun hc=>?_)<;>((try simp only [Bool.not_eq_true',Bool.not_eq_false',ne_eq,Bool.not_eq_true,Bool.not_eq_false] at hc)<;>(try simp only [hc])))
  | (refine ⟨by first | omega | (simp; done),?_⟩)
  | fail)
 all_goals (refine fz ?_; simp [FinS,nilL,nilV,oneOr,-List.drop_one])
 all_goals (try (simp_all [stepNamed]; done))
theorem stepOkF_eq (x:Step) (pl:Int):stepOkF x pl=stepOk x pl:=by
 obtain ⟨op,r,a,b,n⟩:=x
 by_cases h:1≤op∧op≤13
 ·obtain rfl | rfl | rfl | rfl | rfl | rfl | rfl | rfl | rfl | rfl | rfl | rfl | rfl:op=1∨op=2∨op=3∨op=4∨op=5∨op=6∨op=7∨op=8∨op=9∨op=10∨op=11∨op=12∨op=13:=by omega
  all_goals (rw [Bool.eq_iff_iff]; simp [stepOkF,stepOk,stepNamed,within_eq]; try omega)
 ·have h1 :¬op=1:=by omega
  have h2 :¬op=2:=by omega
  have h3 :¬op=3:=by omega
  have h4 :¬op=4:=by omega
  have h5 :¬op=5:=by omega
  have h6 :¬op=6:=by omega
  have h7 :¬op=7:=by omega
  have h8 :¬op=8:=by omega
  have h9 :¬op=9:=by omega
  have h10 :¬op=10:=by omega
  have h11 :¬op=11:=by omega
  have h12 :¬op=12:=by omega
  have h13 :¬op=13:=by omega
  have hw:within op 1 13=false:=by rw [within_eq]; simp; omega
  simp [stepOkF,stepOk,hw,h1,h2,h3,h4,h5,h6,h7,h8,h9,h10,h11,h12,h13]
theorem implStepOk_ok (x:Step) (pl:Int):CallOk Tryz.prog num 268 [.agg (stepC x),.int .i64 pl] [] (.bool (stepOk x pl)):=by
 rw [←stepOkF_eq]
 refine EN m268 Tryz.func199 ?_
 unfold m268
 simp only [go_sem,seval]
 repeat refine K ?_
 refine CA [] (qAk x.op 5 7) ?_
 try simp only [go_sem,seval]
 repeat refine K ?_
 cases hm:within x.op 5 7
 ·try simp only [go_sem,seval,hm]
  repeat refine K ?_
  refine DA [] (qAk x.op 1 13) ?_
  try simp only [go_sem,seval]
  repeat refine K ?_
  cases h1:within x.op 1 13
  ·try simp only [go_sem,seval,h1]
   repeat refine K ?_
   refine fz ?_; simp [FinS,nilL,nilV,oneOr,-List.drop_one]
   simp [stepOkF,h1]
  try simp only [go_sem,seval,h1]
  repeat refine K ?_
  refine DA [] (stepNamed_ok x) ?_
  try simp only [go_sem,seval]
  repeat refine K ?_
  try simp only [go_sem,seval]
  repeat refine K ?_
  generalize hE:(decide (x.op=(stepNamed x).op)&&(decide (x.r=(stepNamed x).r)&&(decide (x.a=(stepNamed x).a)&&(decide (x.b=(stepNamed x).b)&&decide (x.n=(stepNamed x).n)))))=E
  cases E
  ·try simp only [go_sem,seval,hE]
   repeat refine K ?_
   refine fz ?_; simp [FinS,nilL,nilV,oneOr,-List.drop_one]
   simp only [stepOkF,hE]
   simp
  try simp only [go_sem,seval,hE]
  repeat refine K ?_
  refine DA [] (qAk x.r 0 7) ?_
  try simp only [go_sem,seval]
  repeat refine K ?_
  cases hr:within x.r 0 7
  ·try simp only [go_sem,seval,hr]
   repeat refine K ?_
   refine fz ?_; simp [FinS,nilL,nilV,oneOr,-List.drop_one]
   simp [stepOkF,hr]
  try simp only [go_sem,seval,hr]
  repeat refine K ?_
  refine DA [] (qAk x.a (0) 7) ?_
  try simp only [go_sem,seval]
  repeat refine K ?_
  generalize ha:within x.a (0) 7=A
  cases A
  ·try simp only [go_sem,seval,ha]
   repeat refine K ?_
   refine fz ?_; simp [FinS,nilL,nilV,oneOr,-List.drop_one]
   simp [stepOkF,hm,ha]
  try simp only [go_sem,seval,ha]
  repeat refine K ?_
  refine DA [] (qAk x.b 0 7) ?_
  try simp only [go_sem,seval]
  repeat refine K ?_
  cases hb:within x.b 0 7
  ·try simp only [go_sem,seval,hb]
   repeat refine K ?_
   refine fz ?_; simp [FinS,nilL,nilV,oneOr,-List.drop_one]
   simp [stepOkF,hb]
  try simp only [go_sem,seval,hb]
  repeat refine K ?_
  have hF:stepOkF x pl=(if x.op=1 then within x.n (-1000000000) 1000000000
   else if x.op=5∨x.op=6∨x.op=7∨x.op=8 then within x.n 0 23
   else if x.op=10∨x.op=11 then decide (0≤x.n)&&decide (x.n<pl)
   else true):=by
   unfold stepOkF
   rw [h1,hE,hr,hm,hb]
   simp [ha]
  rw [hF]
  clear hF
  repeat' (first
   | (simp only [go_sem,seval])
   | (refine qA1 (fun hc=>?_) (fun hc=>?_)<;>((try simp only [Bool.not_eq_true',Bool.not_eq_false',ne_eq,Bool.not_eq_true,Bool.not_eq_false] at hc)<;>(try simp only [hc])))
   | (refine qB4 (fun hc=>?_) (fun hc=>?_)<;>((try simp only [Bool.not_eq_true',Bool.not_eq_false',ne_eq,Bool.not_eq_true,Bool.not_eq_false] at hc)<;>(try simp only [hc])))
   | (refine qAy (fun hc=>?_) (fun hc=>?_)<;>((try simp only [Bool.not_eq_true',Bool.not_eq_false',ne_eq,Bool.not_eq_true,Bool.not_eq_false] at hc)<;>(try simp only [hc])))
   | (refine qC8 (qAk _ _ _) rfl rfl rfl rfl ?_)
   | (refine qBi (qAk _ _ _) rfl rfl rfl rfl ?_)
   | (refine qC8 (isCell_ok _) rfl rfl rfl rfl ?_)
   | (refine qBi (isCell_ok _) rfl rfl rfl rfl ?_)
   | (refine ⟨by first | omega | (simp; done),?_⟩)
   | fail)
  all_goals (refine fz ?_; simp [FinS,nilL,nilV,oneOr,-List.drop_one])
  all_goals (try (simp_all; done))
 ·try simp only [go_sem,seval,hm]
  repeat refine K ?_
  refine DA [] (qAk x.op 1 13) ?_
  try simp only [go_sem,seval]
  repeat refine K ?_
  cases h1:within x.op 1 13
  ·try simp only [go_sem,seval,h1]
   repeat refine K ?_
   refine fz ?_; simp [FinS,nilL,nilV,oneOr,-List.drop_one]
   simp [stepOkF,h1]
  try simp only [go_sem,seval,h1]
  repeat refine K ?_
  refine DA [] (stepNamed_ok x) ?_
  try simp only [go_sem,seval]
  repeat refine K ?_
  try simp only [go_sem,seval]
  repeat refine K ?_
  generalize hE:(decide (x.op=(stepNamed x).op)&&(decide (x.r=(stepNamed x).r)&&(decide (x.a=(stepNamed x).a)&&(decide (x.b=(stepNamed x).b)&&decide (x.n=(stepNamed x).n)))))=E
  cases E
  ·try simp only [go_sem,seval,hE]
   repeat refine K ?_
   refine fz ?_; simp [FinS,nilL,nilV,oneOr,-List.drop_one]
   simp only [stepOkF,hE]
   simp
  try simp only [go_sem,seval,hE]
  repeat refine K ?_
  refine DA [] (qAk x.r 0 7) ?_
  try simp only [go_sem,seval]
  repeat refine K ?_
  cases hr:within x.r 0 7
  ·try simp only [go_sem,seval,hr]
   repeat refine K ?_
   refine fz ?_; simp [FinS,nilL,nilV,oneOr,-List.drop_one]
   simp [stepOkF,hr]
  try simp only [go_sem,seval,hr]
  repeat refine K ?_
  refine DA [] (qAk x.a (-1) 7) ?_
  try simp only [go_sem,seval]
  repeat refine K ?_
  generalize ha:within x.a (-1) 7=A
  cases A
  ·try simp only [go_sem,seval,ha]
   repeat refine K ?_
   refine fz ?_; simp [FinS,nilL,nilV,oneOr,-List.drop_one]
   simp [stepOkF,hm,ha]
  try simp only [go_sem,seval,ha]
  repeat refine K ?_
  refine DA [] (qAk x.b 0 7) ?_
  try simp only [go_sem,seval]
  repeat refine K ?_
  cases hb:within x.b 0 7
  ·try simp only [go_sem,seval,hb]
   repeat refine K ?_
   refine fz ?_; simp [FinS,nilL,nilV,oneOr,-List.drop_one]
   simp [stepOkF,hb]
  try simp only [go_sem,seval,hb]
  repeat refine K ?_
  have hF:stepOkF x pl=(if x.op=1 then within x.n (-1000000000) 1000000000
   else if x.op=5∨x.op=6∨x.op=7∨x.op=8 then within x.n 0 23
   else if x.op=10∨x.op=11 then decide (0≤x.n)&&decide (x.n<pl)
   else true):=by
   unfold stepOkF
   rw [h1,hE,hr,hm,hb]
   simp [ha]
  rw [hF]
  clear hF
  repeat' (first
   | (simp only [go_sem,seval])
   | (refine qA1 (fun hc=>?_) (fun hc=>?_)<;>((try simp only [Bool.not_eq_true',Bool.not_eq_false',ne_eq,Bool.not_eq_true,Bool.not_eq_false] at hc)<;>(try simp only [hc])))
   | (refine qB4 (fun hc=>?_) (fun hc=>?_)<;>((try simp only [Bool.not_eq_true',Bool.not_eq_false',ne_eq,Bool.not_eq_true,Bool.not_eq_false] at hc)<;>(try simp only [hc])))
   | (refine qAy (fun hc=>?_) (fun hc=>?_)<;>((try simp only [Bool.not_eq_true',Bool.not_eq_false',ne_eq,Bool.not_eq_true,Bool.not_eq_false] at hc)<;>(try simp only [hc])))
   | (refine qC8 (qAk _ _ _) rfl rfl rfl rfl ?_)
   | (refine qBi (qAk _ _ _) rfl rfl rfl rfl ?_)
   | (refine qC8 (isCell_ok _) rfl rfl rfl rfl ?_)
   | (refine qBi (isCell_ok _) rfl rfl rfl rfl ?_)
   | (refine ⟨by first | omega | (simp; done),?_⟩)
   | fail)
  all_goals (refine fz ?_; simp [FinS,nilL,nilV,oneOr,-List.drop_one])
  all_goals (try (simp_all; done))
def m261:MFn:=⟨161,[.t 4],kr [xb 2 0,xF 4] (kr [xa 8 0 2,xl 9 8,bI 10 .eql 9 5,xv 11 10,za 12 0 2 11,zl 13 1 12 11,zI 14 .eql 13 6 11,xQ 15 11 14,xv 16 15,za 17 0 2 16,zl 18 1 17 16,zI 19 .eql 18 7 16,xQ 20 16 19,xv 5 20] (.seq (kr [xa 21 1 2,xl 22 21,xc1 23 301 (.t 22),xN 24 23,xv 25 24,za 26 3 2 25,zl 27 1 26 25,xg 28 (.call 301 [false] [.t 27]) 25 false,zN 29 28 25,xQ 30 25 29,xv 31 30,za 32 2 2 31,zl 33 1 32 31,xg 34 (.call 301 [false] [.t 33]) 31 false,zN 35 34 31,zv 36 35 31,yv 37 5 36,yN 38 37 36,yv 39 38 36,za 40 2 2 39,zl 41 1 40 39,xg 42 (.bin .neq (.t 41) (.c (.int .i64 (-1)))) 39 false,xg 43 (.pick (.t 39) (.c (.bool true)) (.t 42)) 36 true,xg 44 (.pick (.t 36) (.t 43) (.c (.bool false))) 31 false,xQ 45 31 44] (kF 45 [xF 4])) (kr [xa 46 4 2,xl 47 46,bI 48 .geq 47 0,xv 49 48,ya 50 4 2 49,yl 51 1 50 49,yv 52 1 49,xg 53 (.bin .lss (.t 51) (.t 52)) 49 true,xP 54 49 53,xv 6 54] (kr [xa 55 4 2,xl 56 55,xc3 57 64 (.t 56) (xi 0) (xi 23),xv 7 57] (.seq (kr [xa 58 0 2,xl 59 58] (.blk 0 (kr [bI 61 .eql 59 1,xv 60 61] (.cond 60 (kR [xa 62 4 2,xl 63 62,xc3 64 64 (.t 63) (.c (.int .i64 (-1000000000))) (xi 1000000000),xv 65 64,ya 66 2 2 65,yl 67 1 66 65,yI 68 .eql 67 0 65,xP 69 65 68,xv 70 69,ya 71 3 2 70,yl 72 1 71 70,yI 73 .eql 72 0 70,xP 74 70 73,xv 4 74]) (.seq (kr [bI 76 .eql 59 2,xv 75 76] (.cond 75 (.skip) (kr [bI 77 .eql 59 3,xv 75 77] (.cond 75 (.skip) (xr [bI 78 .eql 59 4,xv 75 78]))))) (.cond 75 (kR [xa 79 4 2,xl 80 79,bI 81 .eql 80 0,xv 4 81]) (kr [bI 83 .eql 59 5,xv 82 83] (.cond 82 (kR [xv 84 7,xv 85 84,ya 86 3 2 85,yl 87 1 86 85,yI 88 .eql 87 0 85,xP 89 85 88,xv 4 89]) (.seq (kr [bI 91 .eql 59 6,xv 90 91] (.cond 90 (.skip) (xr [bI 92 .eql 59 7,xv 90 92]))) (.cond 90 (kR [xv 93 7,xv 94 93,ya 95 1 2 94,yl 96 1 95 94,yI 97 .eql 96 0 94,xP 98 94 97,xv 4 98]) (kr [bI 100 .eql 59 8,xv 99 100] (.cond 99 (kR [xv 101 7,xv 102 101,ya 103 2 2 102,yl 104 1 103 102,yI 105 .eql 104 0 102,xP 106 102 105,xv 4 106]) (kr [bI 108 .eql 59 9,xv 107 108] (.cond 107 (kR [xa 109 1 2,xl 110 109,bI 111 .eql 110 0,xv 112 111,ya 113 3 2 112,yl 114 1 113 112,yI 115 .eql 114 0 112,xP 116 112 115,xv 117 116,ya 118 4 2 117,yl 119 1 118 117,yI 120 .eql 119 0 117,xP 121 117 120,xv 4 121]) (kr [bI 123 .eql 59 10,xv 122 123] (.cond 122 (kR [xv 124 6,xv 125 124,ya 126 1 2 125,yl 127 1 126 125,yI 128 .eql 127 0 125,xP 129 125 128,xv 130 129,ya 131 2 2 130,yl 132 1 131 130,yI 133 .eql 132 0 130,xP 134 130 133,xv 135 134,ya 136 3 2 135,yl 137 1 136 135,yI 138 .eql 137 0 135,xP 139 135 138,xv 4 139]) (kr [bI 141 .eql 59 11,xv 140 141] (.cond 140 (kR [xv 142 6,xv 143 142,ya 144 1 2 143,yl 145 1 144 143,yI 146 .eql 145 0 143,xP 147 143 146,xv 148 147,ya 149 3 2 148,yl 150 1 149 148,yI 151 .eql 150 0 148,xP 152 148 151,xv 4 152]) (.seq (kr [bI 154 .eql 59 12,xv 153 154] (.cond 153 (.skip) (xr [bI 155 .eql 59 13,xv 153 155]))) (kF 153 [xm 156 5 2,xa 157 0 2,xl 158 157,xo 159 (.build [xz,xz,xz,xz,xz] [(0,1,.t 158)]),xo 160 (.eqS false [true,true,true,true,true] (.t 156) (.t 159)),xv 4 160])))))))))))))))))))) (kR [xF 4]))))))⟩
theorem specStepOk_ok (x:Step) (pl:Int):CallOk Tryz.prog num 261 [.agg (stepC x),.int .i64 pl] [] (.bool (stepOk x pl)):=by
 refine EN m261 Tryz.func194 ?_
 unfold m261
 have hz:within 0 0 7=true:=by decide
 by_cases e5:x.op=5
 ·skip
  simp only [go_sem,seval,e5]
  repeat refine K ?_
  refine CA [] (qDt x.r) ?_
  try simp only [go_sem,seval]
  repeat refine K ?_
  cases hr:within x.r 0 7
  ·try simp only [go_sem,seval,hr]
   repeat refine K ?_
   refine fz ?_; simp [FinS,nilL,nilV,oneOr,-List.drop_one]
   simp [stepOk,hr]
  try simp only [go_sem,seval,hr,e5]
  repeat refine K ?_
  refine CA [] (qDt x.b) ?_
  try simp only [go_sem,seval]
  repeat refine K ?_
  cases hb:within x.b 0 7
  ·try simp only [go_sem,seval,hb]
   repeat refine K ?_
   refine fz ?_; simp [FinS,nilL,nilV,oneOr,-List.drop_one]
   simp [stepOk,hb]
  try simp only [go_sem,seval,hb,e5]
  repeat refine K ?_
  refine CA [] (qDt x.a) ?_
  try simp only [go_sem,seval]
  repeat refine K ?_
  cases ha:within x.a 0 7
  ·by_cases ha1:x.a=-1
   ·try simp only [go_sem,seval,ha,ha1,e5]
    repeat refine K ?_
    by_cases hn:0≤x.n
    all_goals
     try simp only [go_sem,seval,hn,e5,ha,ha1]
     repeat refine K ?_
     refine CA [] (qAq x.n 0 23) ?_
     try simp only [go_sem,seval]
     repeat refine K ?_
     cases hc:within x.n 0 23
     ·try simp only [go_sem,seval,hc,e5,ha,ha1]
      repeat refine K ?_
      refine fz ?_; simp [FinS,nilL,nilV,oneOr,-List.drop_one]
      simp [stepOk,hc,hr,hb,e5,ha,ha1]
     try simp only [go_sem,seval,hc,e5,ha,ha1]
     repeat refine K ?_
     refine fz ?_; simp [FinS,nilL,nilV,oneOr,-List.drop_one]
     simp [stepOk,hc,hr,hb,e5,ha,ha1]
   ·try simp only [go_sem,seval,ha,ha1,e5]
    repeat refine K ?_
    refine fz ?_; simp [FinS,nilL,nilV,oneOr,-List.drop_one]
    simp [stepOk,ha,ha1]
  try simp only [go_sem,seval,ha,e5]
  repeat refine K ?_
  by_cases hn:0≤x.n
  all_goals
   try simp only [go_sem,seval,hn,e5,ha]
   repeat refine K ?_
   refine CA [] (qAq x.n 0 23) ?_
   try simp only [go_sem,seval]
   repeat refine K ?_
   cases hc:within x.n 0 23
   ·try simp only [go_sem,seval,hc,e5,ha]
    repeat refine K ?_
    refine fz ?_; simp [FinS,nilL,nilV,oneOr,-List.drop_one]
    simp [stepOk,hc,hr,hb,e5,ha]
   try simp only [go_sem,seval,hc,e5,ha]
   repeat refine K ?_
   refine fz ?_; simp [FinS,nilL,nilV,oneOr,-List.drop_one]
   simp [stepOk,hc,hr,hb,e5,ha]
 by_cases e6:x.op=6
 ·skip
  simp only [go_sem,seval,e6]
  repeat refine K ?_
  refine CA [] (qDt x.r) ?_
  try simp only [go_sem,seval]
  repeat refine K ?_
  cases hr:within x.r 0 7
  ·try simp only [go_sem,seval,hr]
   repeat refine K ?_
   refine fz ?_; simp [FinS,nilL,nilV,oneOr,-List.drop_one]
   simp [stepOk,hr]
  try simp only [go_sem,seval,hr,e6]
  repeat refine K ?_
  refine CA [] (qDt x.b) ?_
  try simp only [go_sem,seval]
  repeat refine K ?_
  cases hb:within x.b 0 7
  ·try simp only [go_sem,seval,hb]
   repeat refine K ?_
   refine fz ?_; simp [FinS,nilL,nilV,oneOr,-List.drop_one]
   simp [stepOk,hb]
  try simp only [go_sem,seval,hb,e6]
  repeat refine K ?_
  refine CA [] (qDt x.a) ?_
  try simp only [go_sem,seval]
  repeat refine K ?_
  cases ha:within x.a 0 7
  ·by_cases ha1:x.a=-1
   ·try simp only [go_sem,seval,ha,ha1,e6]
    repeat refine K ?_
    by_cases hn:0≤x.n
    all_goals
     try simp only [go_sem,seval,hn,e6,ha,ha1]
     repeat refine K ?_
     refine CA [] (qAq x.n 0 23) ?_
     try simp only [go_sem,seval]
     repeat refine K ?_
     cases hc:within x.n 0 23
     ·try simp only [go_sem,seval,hc,e6,ha,ha1]
      repeat refine K ?_
      refine fz ?_; simp [FinS,nilL,nilV,oneOr,-List.drop_one]
      simp [stepOk,hc,hr,hb,e6,ha,ha1]
     try simp only [go_sem,seval,hc,e6,ha,ha1]
     repeat refine K ?_
     refine fz ?_; simp [FinS,nilL,nilV,oneOr,-List.drop_one]
     simp [stepOk,hc,hr,hb,e6,ha,ha1]
   ·try simp only [go_sem,seval,ha,ha1,e6]
    repeat refine K ?_
    refine fz ?_; simp [FinS,nilL,nilV,oneOr,-List.drop_one]
    simp [stepOk,ha,ha1]
  try simp only [go_sem,seval,ha,e6]
  repeat refine K ?_
  by_cases hn:0≤x.n
  all_goals
   try simp only [go_sem,seval,hn,e6,ha]
   repeat refine K ?_
   refine CA [] (qAq x.n 0 23) ?_
   try simp only [go_sem,seval]
   repeat refine K ?_
   cases hc:within x.n 0 23
   ·try simp only [go_sem,seval,hc,e6,ha]
    repeat refine K ?_
    refine fz ?_; simp [FinS,nilL,nilV,oneOr,-List.drop_one]
    simp [stepOk,hc,hr,hb,e6,ha]
   try simp only [go_sem,seval,hc,e6,ha]
   repeat refine K ?_
   refine fz ?_; simp [FinS,nilL,nilV,oneOr,-List.drop_one]
   simp [stepOk,hc,hr,hb,e6,ha]
 by_cases e7:x.op=7
 ·skip
  simp only [go_sem,seval,e7]
  repeat refine K ?_
  refine CA [] (qDt x.r) ?_
  try simp only [go_sem,seval]
  repeat refine K ?_
  cases hr:within x.r 0 7
  ·try simp only [go_sem,seval,hr]
   repeat refine K ?_
   refine fz ?_; simp [FinS,nilL,nilV,oneOr,-List.drop_one]
   simp [stepOk,hr]
  try simp only [go_sem,seval,hr,e7]
  repeat refine K ?_
  refine CA [] (qDt x.b) ?_
  try simp only [go_sem,seval]
  repeat refine K ?_
  cases hb:within x.b 0 7
  ·try simp only [go_sem,seval,hb]
   repeat refine K ?_
   refine fz ?_; simp [FinS,nilL,nilV,oneOr,-List.drop_one]
   simp [stepOk,hb]
  try simp only [go_sem,seval,hb,e7]
  repeat refine K ?_
  refine CA [] (qDt x.a) ?_
  try simp only [go_sem,seval]
  repeat refine K ?_
  cases ha:within x.a 0 7
  ·by_cases ha1:x.a=-1
   ·try simp only [go_sem,seval,ha,ha1,e7]
    repeat refine K ?_
    by_cases hn:0≤x.n
    all_goals
     try simp only [go_sem,seval,hn,e7,ha,ha1]
     repeat refine K ?_
     refine CA [] (qAq x.n 0 23) ?_
     try simp only [go_sem,seval]
     repeat refine K ?_
     cases hc:within x.n 0 23
     ·try simp only [go_sem,seval,hc,e7,ha,ha1]
      repeat refine K ?_
      refine fz ?_; simp [FinS,nilL,nilV,oneOr,-List.drop_one]
      simp [stepOk,hc,hr,hb,e7,ha,ha1]
     try simp only [go_sem,seval,hc,e7,ha,ha1]
     repeat refine K ?_
     refine fz ?_; simp [FinS,nilL,nilV,oneOr,-List.drop_one]
     simp [stepOk,hc,hr,hb,e7,ha,ha1]
   ·try simp only [go_sem,seval,ha,ha1,e7]
    repeat refine K ?_
    refine fz ?_; simp [FinS,nilL,nilV,oneOr,-List.drop_one]
    simp [stepOk,ha,ha1]
  try simp only [go_sem,seval,ha,e7]
  repeat refine K ?_
  by_cases hn:0≤x.n
  all_goals
   try simp only [go_sem,seval,hn,e7,ha]
   repeat refine K ?_
   refine CA [] (qAq x.n 0 23) ?_
   try simp only [go_sem,seval]
   repeat refine K ?_
   cases hc:within x.n 0 23
   ·try simp only [go_sem,seval,hc,e7,ha]
    repeat refine K ?_
    refine fz ?_; simp [FinS,nilL,nilV,oneOr,-List.drop_one]
    simp [stepOk,hc,hr,hb,e7,ha]
   try simp only [go_sem,seval,hc,e7,ha]
   repeat refine K ?_
   refine fz ?_; simp [FinS,nilL,nilV,oneOr,-List.drop_one]
   simp [stepOk,hc,hr,hb,e7,ha]
 simp only [go_sem,seval,e5,e6,e7]
 repeat refine K ?_
 refine CA [] (qDt x.r) ?_
 try simp only [go_sem,seval]
 repeat refine K ?_
 cases hr:within x.r 0 7
 ·try simp only [go_sem,seval,hr]
  repeat refine K ?_
  refine fz ?_; simp [FinS,nilL,nilV,oneOr,-List.drop_one]
  simp [stepOk,hr]
 try simp only [go_sem,seval,hr,e5,e6,e7]
 repeat refine K ?_
 refine CA [] (qDt x.b) ?_
 try simp only [go_sem,seval]
 repeat refine K ?_
 cases hb:within x.b 0 7
 ·try simp only [go_sem,seval,hb]
  repeat refine K ?_
  refine fz ?_; simp [FinS,nilL,nilV,oneOr,-List.drop_one]
  simp [stepOk,hb]
 try simp only [go_sem,seval,hb,e5,e6,e7]
 repeat refine K ?_
 refine CA [] (qDt x.a) ?_
 try simp only [go_sem,seval]
 repeat refine K ?_
 cases ha:within x.a 0 7
 ·try simp only [go_sem,seval,ha,e5,e6,e7]
  repeat refine K ?_
  refine fz ?_; simp [FinS,nilL,nilV,oneOr,-List.drop_one]
  simp [ha,e5,e6,e7,stepOk]
 try simp only [go_sem,seval,ha,e5,e6,e7]
 repeat refine K ?_
 by_cases hn:0≤x.n
 all_goals
  try simp only [go_sem,seval,hn]
  repeat refine K ?_
  refine CA [] (qAq x.n 0 23) ?_
  try simp only [go_sem,seval]
  repeat refine K ?_
  by_cases e1:x.op=1
  ·skip
   try simp only [go_sem,seval,e5,e6,e7,ha,hn,e1]
   repeat refine K ?_
   refine CA [] (qAq x.n (-1000000000) 1000000000) ?_
   try simp only [go_sem,seval]
   repeat refine K ?_
   cases hw:within x.n (-1000000000) 1000000000
   ·try simp only [go_sem,seval,hw]
    repeat refine K ?_
    refine fz ?_; simp [FinS,nilL,nilV,oneOr,-List.drop_one]
    simp [stepOk,hw,hr,hb,e5,e6,e7,ha,hn,e1]
   try simp only [go_sem,seval,hw]
   repeat refine K ?_
   by_cases q0:x.a=0
   case neg =>
    try simp only [go_sem,seval,q0,e5,e6,e7,ha,hn,e1,hw]
    repeat refine K ?_
    refine fz ?_; simp [FinS,nilL,nilV,oneOr,-List.drop_one]
    simp [stepOk,hr,hb,e5,e6,e7,ha,hn,e1,hw,q0]
   by_cases q1:x.b=0
   case neg =>
    try simp only [go_sem,seval,q1,e5,e6,e7,ha,hn,e1,hw,q0]
    repeat refine K ?_
    refine fz ?_; simp [FinS,nilL,nilV,oneOr,-List.drop_one]
    simp [stepOk,hr,hb,e5,e6,e7,ha,hn,e1,hw,q0,q1]
   try simp only [go_sem,seval,e5,e6,e7,ha,hn,e1,hw,q0,q1]
   repeat refine K ?_
   refine fz ?_; simp [FinS,nilL,nilV,oneOr,-List.drop_one]
   simp [stepOk,hr,hb,hz,e5,e6,e7,ha,hn,e1,hw,q0,q1]
  by_cases e2:x.op=2
  ·skip
   try simp only [go_sem,seval,e5,e6,e7,ha,hn,e1,e2]
   repeat refine K ?_
   refine fz ?_; simp [FinS,nilL,nilV,oneOr,-List.drop_one]
   simp [stepOk,hr,hb,e5,e6,e7,ha,hn,e1,e2]
  by_cases e3:x.op=3
  ·skip
   try simp only [go_sem,seval,e5,e6,e7,ha,hn,e1,e2,e3]
   repeat refine K ?_
   refine fz ?_; simp [FinS,nilL,nilV,oneOr,-List.drop_one]
   simp [stepOk,hr,hb,e5,e6,e7,ha,hn,e1,e2,e3]
  by_cases e4:x.op=4
  ·skip
   try simp only [go_sem,seval,e5,e6,e7,ha,hn,e1,e2,e3,e4]
   repeat refine K ?_
   refine fz ?_; simp [FinS,nilL,nilV,oneOr,-List.drop_one]
   simp [stepOk,hr,hb,e5,e6,e7,ha,hn,e1,e2,e3,e4]
  by_cases e8:x.op=8
  ·skip
   cases hc:within x.n 0 23
   ·try simp only [go_sem,seval,hc,e5,e6,e7,ha,hn,e1,e2,e3,e4,e8]
    repeat refine K ?_
    refine fz ?_; simp [FinS,nilL,nilV,oneOr,-List.drop_one]
    simp [stepOk,hc,hr,hb,e5,e6,e7,ha,hn,e1,e2,e3,e4,e8]
   try simp only [go_sem,seval,hc,e5,e6,e7,ha,hn,e1,e2,e3,e4,e8]
   repeat refine K ?_
   refine fz ?_; simp [FinS,nilL,nilV,oneOr,-List.drop_one]
   simp [stepOk,hc,hr,hb,e5,e6,e7,ha,hn,e1,e2,e3,e4,e8]
  by_cases e9:x.op=9
  ·skip
   try simp only [go_sem,seval,e5,e6,e7,ha,hn,e1,e2,e3,e4,e8,e9]
   repeat refine K ?_
   by_cases q0:x.r=0
   case neg =>
    try simp only [go_sem,seval,q0,e5,e6,e7,ha,hn,e1,e2,e3,e4,e8,e9]
    repeat refine K ?_
    refine fz ?_; simp [FinS,nilL,nilV,oneOr,-List.drop_one]
    simp [stepOk,hr,hb,e5,e6,e7,ha,hn,e1,e2,e3,e4,e8,e9,q0]
   by_cases q1:x.b=0
   case neg =>
    try simp only [go_sem,seval,q1,e5,e6,e7,ha,hn,e1,e2,e3,e4,e8,e9,q0]
    repeat refine K ?_
    refine fz ?_; simp [FinS,nilL,nilV,oneOr,-List.drop_one]
    simp [stepOk,hr,hb,e5,e6,e7,ha,hn,e1,e2,e3,e4,e8,e9,q0,q1]
   by_cases q2:x.n=0
   case neg =>
    try simp only [go_sem,seval,q2,e5,e6,e7,ha,hn,e1,e2,e3,e4,e8,e9,q0,q1]
    repeat refine K ?_
    refine fz ?_; simp [FinS,nilL,nilV,oneOr,-List.drop_one]
    simp [stepOk,hr,hb,e5,e6,e7,ha,hn,e1,e2,e3,e4,e8,e9,q0,q1,q2]
   try simp only [go_sem,seval,e5,e6,e7,ha,hn,e1,e2,e3,e4,e8,e9,q0,q1,q2]
   repeat refine K ?_
   refine fz ?_; simp [FinS,nilL,nilV,oneOr,-List.drop_one]
   simp [stepOk,hr,hb,hz,e5,e6,e7,ha,hn,e1,e2,e3,e4,e8,e9,q0,q1,q2]
  by_cases e10:x.op=10
  ·skip
   by_cases hp:x.n<pl
   all_goals
    try simp only [go_sem,seval,hp,e5,e6,e7,ha,hn,e1,e2,e3,e4,e8,e9,e10]
    repeat refine K ?_
    repeat' (first
     | (simp only [go_sem,seval,hp,hn])
     | (refine qA1 (fun hc=>?_) (fun hc=>?_)<;>((try simp only [Bool.not_eq_true',Bool.not_eq_false',ne_eq,Bool.not_eq_true,Bool.not_eq_false] at hc)<;>(try simp only [hc])))
     | (refine qB4 (fun hc=>?_) (fun hc=>?_)<;>((try simp only [Bool.not_eq_true',Bool.not_eq_false',ne_eq,Bool.not_eq_true,Bool.not_eq_false] at hc)<;>(try simp only [hc])))
     | (refine qAy (fun hc=>?_) (fun hc=>?_)<;>((try simp only [Bool.not_eq_true',Bool.not_eq_false',ne_eq,Bool.not_eq_true,Bool.not_eq_false] at hc)<;>(try simp only [hc])))
     | (refine ⟨by first | omega | (simp; done),?_⟩)
     | fail)
    all_goals (refine fz ?_; simp [FinS,nilL,nilV,oneOr,-List.drop_one])
    all_goals (simp [stepOk,hr,hb,hp,e5,e6,e7,ha,hn,e1,e2,e3,e4,e8,e9,e10, *]; try omega)
  by_cases e11:x.op=11
  ·skip
   by_cases hp:x.n<pl
   all_goals
    try simp only [go_sem,seval,hp,e5,e6,e7,ha,hn,e1,e2,e3,e4,e8,e9,e10,e11]
    repeat refine K ?_
    repeat' (first
     | (simp only [go_sem,seval,hp,hn])
     | (refine qA1 (fun hc=>?_) (fun hc=>?_)<;>((try simp only [Bool.not_eq_true',Bool.not_eq_false',ne_eq,Bool.not_eq_true,Bool.not_eq_false] at hc)<;>(try simp only [hc])))
     | (refine qB4 (fun hc=>?_) (fun hc=>?_)<;>((try simp only [Bool.not_eq_true',Bool.not_eq_false',ne_eq,Bool.not_eq_true,Bool.not_eq_false] at hc)<;>(try simp only [hc])))
     | (refine qAy (fun hc=>?_) (fun hc=>?_)<;>((try simp only [Bool.not_eq_true',Bool.not_eq_false',ne_eq,Bool.not_eq_true,Bool.not_eq_false] at hc)<;>(try simp only [hc])))
     | (refine ⟨by first | omega | (simp; done),?_⟩)
     | fail)
    all_goals (refine fz ?_; simp [FinS,nilL,nilV,oneOr,-List.drop_one])
    all_goals (simp [stepOk,hr,hb,hp,e5,e6,e7,ha,hn,e1,e2,e3,e4,e8,e9,e10,e11, *]; try omega)
  by_cases e12:x.op=12
  ·skip
   try simp only [go_sem,seval,e5,e6,e7,ha,hn,e1,e2,e3,e4,e8,e9,e10,e11,e12]
   repeat refine K ?_
   refine fz ?_; simp [FinS,nilL,nilV,oneOr,-List.drop_one]
   simp [stepOk,hr,hb,e5,e6,e7,ha,hn,e1,e2,e3,e4,e8,e9,e10,e11,e12]
  by_cases e13:x.op=13
  ·skip
   try simp only [go_sem,seval,e5,e6,e7,ha,hn,e1,e2,e3,e4,e8,e9,e10,e11,e12,e13]
   repeat refine K ?_
   refine fz ?_; simp [FinS,nilL,nilV,oneOr,-List.drop_one]
   simp [stepOk,hr,hb,e5,e6,e7,ha,hn,e1,e2,e3,e4,e8,e9,e10,e11,e12,e13]
  try simp only [go_sem,seval,e5,e6,e7,ha,hn,e1,e2,e3,e4,e8,e9,e10,e11,e12,e13]
  repeat refine K ?_
  refine fz ?_; simp [FinS,nilL,nilV,oneOr,-List.drop_one]
  simp [stepOk,e5,e6,e7,ha,hn,e1,e2,e3,e4,e8,e9,e10,e11,e12,e13]
end Go.Sep
