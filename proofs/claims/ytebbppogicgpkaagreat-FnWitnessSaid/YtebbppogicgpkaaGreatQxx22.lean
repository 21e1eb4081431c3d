/- Contracts of functions. -/
import Derived.Test.YtebbppogicgpkaaGreatQxx21
namespace Go.Sep
set_option maxHeartbeats 16000000
open Go.Proofs
set_option linter.unusedSimpArgs false
set_option linter.unusedVariables false
set_option maxRecDepth 100000
open Nat renaming reduceAdd → qA, reduceMul → qB, reduceEqDiff → qC, reduceBEq → qD
open Int renaming reduceToNat → qE, reduceEq → qF, reduceLT → qG, reduceLE → qH
open List renaming getD_eq_getElem?_getD → gD
def m372:MFn:=⟨22,[.t 2],kr [xo 2 (.mv (.c (.nil)))] (kr [xo 5 (.mkSl [.nil] 0 []),xv 3 5] (.seq (kr [xI 4 0] (.blk 0 (.loop (.seq (kr [xv 6 4,xv 7 0,xe 8 7,bT 9 .lss 6 8] (kX 9 0)) (.seq (.blk 1 (xr [xv 12 3,xo 13 (.mkSl [xz,xz,xz,xz,xz] 0 []),xv 14 0,xv 15 4,xD 16 1 14 15,xl 17 16,xA 18 5 40 13 17,xo 19 (.mkSl [.nil] 1 [(0,.t 18)]),xA 20 1 24 12 19,xv 3 20])) (xr [xv 10 4,bI 11 .add 10 1,xv 4 11])))))) (kR [xv 21 3,xv 2 21])))⟩
theorem codes_next (l:List (List Step)) (i:Nat) (h:i<l.length):codes .own (l.take i)++[[AV.sl .own 5 (steps (l.getD i []))]]=codes .own (l.take (i+1)):=by
 rw [List.take_succ_eq_append_getElem h,←codes_append]
 simp [codes,List.getD_eq_getElem?_getD,h]
theorem l8Codes_ok (l:List (List Step)) (h1:l.length<2^40) (h2 :∀c∈l,c.length<2^40):CallOk Tryz.prog num 372 [.sl .bw 1 (codes .bw l)] [] (.sl .own 1 (codes .own l)):=by
 refine EN m372 Tryz.func155 ?_
 unfold m372
 simp only [go_sem,seval]
 repeat refine K ?_
 refine loop_intro (ι:=Nat) (fun i=>.mk [(0,.sl .bw 1 (codes .bw l)),(3,.ns 10 0 i),(4,.int .i64 i)] [(10,1,codes .own (l.take i))] 11) (fun i=>i≤l.length) (fun i=>l.length-i) 0 (by simp) ?_ ?_
 ·refine Sub.shape [] id (by omega) ?_ ?_ ?_ ?_<;>simp [ints_rep]
 ·rintro i hi
  simp only [go_sem,seval]
  refine branch_intro (fun hc=>?_) (fun hc=>?_)
  ·simp only [decide_eq_true_eq] at hc
   have hl':i<l.length:=by omega
   have hlt:(l.take i).length=i:=by simp; omega
   have hr:=h2 _ (getD_mem l i [] hl')
   simp only [go_sem,seval,wrap_succ (i:=i) (by omega),codes_getD .bw l i hl',hlt]
   repeat refine K ?_
   refine back_intro (i+1) ?_ hl' (by omega)
   refine Sub.trans (Sub.foldLast 14 0 12 rfl (by simp [-gD]<;>omega) rfl (by decide) (by decide) rfl) ?_
   simp only [fS,fS2,qA,qC,codes_next l i hl']
   refine Sub.shape [] (fun n=>if n=10 then 14 else n) (by omega) ?_ ?_ ?_ ?_<;>simp [ints_rep]
  ·simp only [decide_eq_false_iff_not] at hc
   obtain rfl:i=l.length:=by omega
   have hie:l.take l.length=l:=List.take_length
   simp only [go_sem,seval,hie]
   repeat refine K ?_
   refine fz ?_; simp [FinS,nilL,nilV,oneOr,-List.drop_one]
def machF (k:Int) (m:Machine):FP:=[(0,some (1,codes .own m.codes),some (1,codes .own (mks wStepS markStepSF k m.codes))),(1,some (4,cores .own m.cores),some (4,cores .own (mks wCore markCoreF (k+tots wStepS m.codes) m.cores))),(2,some (1,cels .own m.mem.cells),some (1,cels .own (mks wWriteS markWriteSF (k+tots wStepS m.codes+tots wCore m.cores) m.mem.cells))),(3,some (2,notes m.tr),some (2,notes (mks wNote markNoteF (k+tots wStepS m.codes+tots wCore m.cores+tots wWriteS m.mem.cells) m.tr)))]
attribute [go_sem] machF
attribute [simp] machF
theorem emit_size {caps:List Int} {x:Ins} {f:Int} {starts:List Int} (h:insOk x starts.length caps.length=true) (hb:within x.op 5 9=true→¬base caps x.n<0):((emit caps x f starts).length:Int)=emitSize x:=by
 have ho:=(insOk_op h).1
 unfold emit emitSize
 rw [if_pos h]
 split
 ·rename_i hw
  rw [if_neg (hb hw)]
  rw [within_iff] at hw
  have hc:x.op=5∨x.op=6∨x.op=7∨x.op=8∨x.op=9:=by omega
  rcases hc with hc | hc | hc | hc | hc<;>simp [hc,lockL,sendL,takeL,closeL,shutL,letL]
 ·rename_i hw
  have hw :¬(5≤x.op∧x.op≤9):=fun e=>hw (within_iff.2 e)
  rw [if_neg (by omega),if_neg (by omega),if_neg (by omega),if_neg (by omega),if_neg (by omega),ho]
  simp [numb]
theorem emit_one {caps:List Int} {x:Ins} {f:Int} {starts:List Int} {j:Nat} (h:insOk x starts.length caps.length=true) (h8:((emit caps x f starts).getD j default).op=8):emitSize x≠1:=by
 have ho:=(insOk_op h).1
 unfold emit at h8
 rw [if_pos h] at h8
 unfold emitSize
 split at h8
 ·rename_i hw
  rw [within_iff] at hw
  have hc:x.op=5∨x.op=6∨x.op=7∨x.op=8∨x.op=9:=by omega
  rcases hc with hc | hc | hc | hc | hc<;>simp [hc]
 ·exfalso
  cases j with
  | zero =>
   simp only [List.getD_cons_zero] at h8
   unfold single at h8
   repeat' split at h8
   all_goals (simp at h8)
  | succ j =>
   simp [List.getD_eq_getElem?_getD] at h8
   exact absurd h8 (by decide)
theorem body_ins {b:List Ins} {n:Nat} (h:bodyOk b n=true) (i:Nat) (hi:i<b.length):insOk (b.getD i default) b.length n=true:=by
 unfold bodyOk at h
 simp only [Bool.and_eq_true,List.all_eq_true] at h
 exact h.1.2 _ (getD_mem b i default hi)
theorem lie_base {caps:List Int} (hl:lieOk caps=true) {n:Int} (h:0≤n∧n<caps.length) :¬base caps n<0:=by
 unfold base
 have hw:within n 0 ((caps.length:Int)-1)=true:=by rw [within_iff]; omega
 rw [hl,hw]
 unfold lieOk at hl
 simp only [Bool.and_eq_true] at hl
 have:=sumC_take_le hl.1 n.toNat
 simp only [Bool.and_self,if_true]
 omega
theorem emit_at {caps:List Int} {b:List Ins} (hb:bodyOk b caps.length=true) (hl:lieOk caps=true) (i:Nat) (hi:i<b.length) (f:Int):((emit caps (b.getD i default) f (startsOf b)).length:Int)=emitSize (b.getD i default):=by
 have h:=body_ins hb i hi
 refine emit_size (by rw [startsOf,startsN_length]; exact h) fun hw=>lie_base hl ?_
 exact insOk_chan h hw
theorem compN_size {caps:List Int} {b:List Ins} (hb:bodyOk b caps.length=true) (hl:lieOk caps=true) :∀i,i≤b.length→((compN caps b i).length:Int)=szB (b.take i)
 | 0,_=>by simp [compN,szB]
 | i+1,hi=>by
  have:=compN_size hb hl i (by omega)
  have:=emit_at hb hl i (by omega) (szB (b.take i))
  rw [szB_take b i (by omega)]
  simp only [compN,List.length_append]
  omega
theorem compN_at {caps:List Int} {b:List Ins} (hb:bodyOk b caps.length=true) (hl:lieOk caps=true) :∀(n:Nat),n≤b.length→∀at_:Nat,at_<(compN caps b n).length→
  ∃i,i<n∧szB (b.take i)≤at_∧(at_:Int)<szB (b.take (i+1))∧(((compN caps b n).getD at_ default).op=8→emitSize (b.getD i default)≠1)
 | 0,_,at_,h=>by simp [compN] at h
 | n+1,hn,at_,h=>by
  by_cases hc:at_<(compN caps b n).length
  ·obtain ⟨i,h1,h2,h3,h4⟩:=compN_at hb hl n (by omega) at_ hc
   refine ⟨i,by omega,h2,h3,fun h8=>h4 ?_⟩
   rw [←h8,compN,List.getD_eq_getElem?_getD,List.getD_eq_getElem?_getD,List.getElem?_append_left hc]
  ·have hs:=compN_size hb hl n (by omega)
   have he:=emit_at hb hl n (by omega) (szB (b.take n))
   have hz:=szB_take b n (by omega)
   simp only [compN,List.length_append] at h
   refine ⟨n,by omega,by omega,by omega,fun h8=>?_⟩
   rw [compN,List.getD_eq_getElem?_getD,List.getElem?_append_right (by omega),←List.getD_eq_getElem?_getD] at h8
   exact emit_one (by rw [startsOf,startsN_length]; exact body_ins hb n (by omega)) h8
theorem placeAt_in :∀(b:List Ins) (off k at_:Int) (i:Nat),i<b.length→off+szB (b.take i)≤at_→at_<off+szB (b.take (i+1))→(placeAt b off k at_).1=k+i
 | [],_,_,_,i,h,_,_=>by simp at h
 | x::l,off,k,at_,0,_,h1,h2=>by
  simp only [List.take_zero,szB,List.take_succ_cons] at h1 h2
  unfold placeAt
  rw [if_pos (by omega)]
  simp
 | x::l,off,k,at_,i+1,h,h1,h2=>by
  simp only [List.take_succ_cons,szB] at h1 h2
  have hl:=(szB_le (l.take i)).1
  unfold placeAt
  rw [if_neg (by omega)]
  rw [placeAt_in l (off+emitSize x) (k+1) at_ i (by simpa using h) (by omega) (by omega)]
  push_cast
  omega
theorem comp_at {caps:List Int} {b:List Ins} (hb:bodyOk b caps.length=true) (hl:lieOk caps=true) {at_:Int} (h0:0≤at_) (h1:at_<((comp caps b).length:Int)) :
  0≤(placeAt b 0 0 at_).1∧(placeAt b 0 0 at_).1.toNat<b.length∧(((comp caps b).getD at_.toNat default).op=8→emitSize (b.getD (placeAt b 0 0 at_).1.toNat default)≠1):=by
 obtain ⟨i,g1,g2,g3,g4⟩:=compN_at hb hl b.length (Nat.le_refl _) at_.toNat (by unfold comp at h1; omega)
 have hp:=placeAt_in b 0 0 at_ i g1 (by omega) (by omega)
 rw [hp]
 have e:((0:Int)+(i:Int)).toNat=i:=by omega
 rw [e]
 exact ⟨by omega,g1,g4⟩
def commitsI (p:Prog) (s:Step) (regs:List Int) (who at_:Int):Bool :=
 decide (who<p.bods.length)&&decide (0≤(placeAt (p.bods.getD who.toNat []) 0 0 at_).1) &&
  ((decide (s.op=8)&&within s.r 0 (regs.length-1)&&decide (regs.getD s.r.toNat 0=0))||decide (emitSize ((p.bods.getD who.toNat []).getD (placeAt (p.bods.getD who.toNat []) 0 0 at_).1.toNat default)=1))
def commitsS (p:Prog) (s:Step) (regs:List Int) (who at_:Int):Bool :=
 if s.op=8 then decide (regs.getD s.r.toNat 0=0)
 else decide (0≤(placeOf p who at_).1)&&decide (emitSize ((p.bods.getD who.toNat []).getD (placeOf p who at_).1.toNat default)=1)
theorem commits_eq {p:Prog} (hp:progOk p=true) (hl:lieOk p.caps=true) {i:Nat} (hi:i<p.bods.length) {at_:Int} (h0:0≤at_) (h1:at_<((comp p.caps (p.bods.getD i [])).length:Int)) {regs:List Int} (hr:regs.length=8)
  (hs:within ((comp p.caps (p.bods.getD i [])).getD at_.toNat default).r 0 7=true) :
  commitsI p ((comp p.caps (p.bods.getD i [])).getD at_.toNat default) regs i at_=commitsS p ((comp p.caps (p.bods.getD i [])).getD at_.toNat default) regs i at_:=by
 have hb:=(progOk_caps hp).2.2.2.2 _ (getD_mem p.bods i [] hi)
 obtain ⟨a1,a2,a3⟩:=comp_at hb hl h0 h1
 have hpl:placeOf p i at_=placeAt (p.bods.getD i []) 0 0 at_:=by
  unfold placeOf
  have hw:within (i:Int) 0 ((p.bods.length:Int)-1)=true:=by rw [within_iff]; omega
  rw [hp,hw]
  rfl
 unfold commitsI commitsS
 rw [hpl]
 generalize (comp p.caps (p.bods.getD i [])).getD at_.toNat default=s at *
 simp only [Int.toNat_natCast]
 have d1:decide ((i:Int)<(p.bods.length:Int))=true:=by simp; exact hi
 have d2:decide (0≤(placeAt (p.bods.getD i []) 0 0 at_).1)=true:=by simpa using a1
 have d3:within s.r 0 ((regs.length:Int)-1)=true:=by rw [hr]; exact hs
 rw [d1,d2,d3]
 by_cases h8:s.op=8
 ·have h9:decide (emitSize ((p.bods.getD i []).getD (placeAt (p.bods.getD i []) 0 0 at_).1.toNat default)=1)=false:=by simpa [-List.getD_eq_getElem?_getD] using a3 h8
  rw [h9]
  simp [h8]
 ·simp [h8]
def did (p:Prog) (m:Machine) (x:Pick):Bool:=decide ((mstep m x).2=0)&&commitsI p (stepAt m x.who.toNat) (coreAt (mstep m x).1 x.who.toNat).regs x.who (coreAt m x.who.toNat).at_
def worder (p:Prog):Machine→List Pick→List Int
 | _,[]=>[]
 | m,x::l=>(if did p m x then [x.who] else [])++worder p (mstep m x).1 l
theorem worder_snoc (p:Prog) :∀(m:Machine) (l:List Pick) (x:Pick),worder p m (l++[x])=worder p m l++(if did p (mrun m l) x then [x.who] else [])
 | _,[],_=>by simp only [worder,mrun,List.nil_append,List.append_nil]; rfl
 | m,y::l,x=>by simp only [List.cons_append,worder,mrun,worder_snoc p _ l x,List.append_assoc]; rfl
theorem worder_len (p:Prog) :∀(m:Machine) (l:List Pick),(worder p m l).length≤l.length
 | _,[]=>by simp [worder]
 | m,y::l=>by
  have:=worder_len p (mstep m y).1 l
  simp only [worder,List.length_append,List.length_cons]
  split<;>simp<;>omega
def m236:MFn:=⟨63,[.t 10],kr [xb 5 0,xb 6 1,xF 10] (.seq (kr [xv 14 3,xa 15 1 5,xl 16 15,xe 17 16,bT 18 .geq 14 17] (kF 18 [xF 10])) (kr [xa 20 1 5,xl 21 20,xv 22 3,xD 23 1 21 22,xl 24 23,xv 25 4,xc2 26 280 (.t 24) (.t 25),xv 19 26,xX 27 19 0,xX 28 19 1,xv 11 27,xv 12 28] (.seq (kr [xv 29 11,bI 30 .lss 29 0] (kF 30 [xF 10])) (kr [xa 31 0 6,xl 32 31,bI 33 .eql 32 8,xv 34 33,ya 35 1 6 34,yl 36 1 35 34,yv 37 2 34,ye 38 37 34,yI 39 .sub 38 1 34,xg 40 (.call 59 [false,false,false] [.t 36,xi 0,.t 39]) 34 true,xP 41 34 40,xv 42 41,yv 43 2 42,ya 44 1 6 42,yl 45 1 44 42,xg 46 (.iad 1 (.t 43) (.t 45)) 42 true,yl 47 1 46 42,yI 48 .eql 47 0 42,xP 49 42 48,xv 13 49] (kR [xv 50 13,xv 51 50,za 52 1 5 51,zl 53 1 52 51,zv 54 3 51,xg 55 (.iad 1 (.t 53) (.t 54)) 51 false,zl 56 1 55 51,zv 57 11 51,xg 58 (.iad 5 (.t 56) (.t 57)) 51 false,xg 59 (.load 5 true (.t 58)) 51 false,xg 60 (.call 262 [false] [.t 59]) 51 false,zI 61 .eql 60 1 51,xQ 62 51 61,xv 10 62])))))⟩
theorem placeAt_lt :∀(b:List Ins) (off k at_:Int),(placeAt b off k at_).1=-1∨(k≤(placeAt b off k at_).1∧(placeAt b off k at_).1<k+b.length)
 | [],_,_,_=>.inl rfl
 | x::l,off,k,at_=>by
  unfold placeAt
  split
  ·exact .inr ⟨Int.le_refl _,by simp only [List.length_cons]; omega⟩
  ·rcases placeAt_lt l (off+emitSize x) (k+1) at_ with h | ⟨h1,h2⟩
   ·exact .inl h
   ·exact .inr ⟨by omega,by simp only [List.length_cons]; omega⟩
theorem implCommitsOf_ok (p:Prog) (s:Step) (regs:List Int) (who at_:Int) (hp:SmallP p) (hw:0≤who) (hr:regs.length<2^40):CallOk Tryz.prog num 236 [.agg (progC .bw p),.agg (stepC s),.sl .bw 1 (ints regs),.int .i64 who,.int .i64 at_] [] (.bool (commitsI p s regs who at_)):=by
 refine EN m236 Tryz.func135 ?_
 unfold m236
 obtain ⟨i,rfl⟩:=Int.eq_ofNat_of_zero_le hw
 by_cases hb:(i:Int)<p.bods.length
 case neg =>
  have hb':(p.bods.length:Int)≤i:=by omega
  simp only [go_sem,seval,hb']
  repeat refine K ?_
  refine fz ?_; simp [FinS,nilL,nilV,oneOr,-List.drop_one]
  simp [commitsI,hb]
 have hb' :¬(p.bods.length:Int)≤i:=by omega
 have hbi:i<p.bods.length:=by omega
 have hbl:=hp.body _ (getD_mem p.bods i [] hbi)
 have hbg:=bodies_getD .bw p.bods i hbi
 have hpl:=placeAt_lt (p.bods.getD i []) 0 0 at_
 have hci:commitsI p s regs i at_=(decide (0≤(placeAt (p.bods.getD i []) 0 0 at_).1) &&
  ((decide (s.op=8)&&within s.r 0 (regs.length-1)&&decide (regs.getD s.r.toNat 0=0))||decide (emitSize ((p.bods.getD i []).getD (placeAt (p.bods.getD i []) 0 0 at_).1.toNat default)=1))):=by
  have d:decide ((i:Int)<(p.bods.length:Int))=true:=by simpa using hbi
  unfold commitsI
  rw [d,Bool.true_and]
  rfl
 rw [hci]
 simp only [go_sem,seval,hb',hbg]
 repeat refine K ?_
 refine CA [] (implPlaceAt_ok (p.bods.getD i []) at_ hbl) ?_
 try simp only [go_sem,seval]
 repeat refine K ?_
 generalize hpl2:(placeAt (p.bods.getD i []) 0 0 at_).1=pl at *
 by_cases h0:pl<0
 ·try simp only [go_sem,seval,h0]
  repeat refine K ?_
  refine fz ?_; simp [FinS,nilL,nilV,oneOr,-List.drop_one]
  have :¬0≤pl:=by omega
  simp [this]
 have h0':0≤pl:=by omega
 obtain ⟨j,rfl⟩:=Int.eq_ofNat_of_zero_le h0'
 have hj:j<(p.bods.getD i []).length:=by omega
 have hig:=inss_getD (p.bods.getD i []) j hj
 have d0:decide (0≤(j:Int))=true:=by simp
 rw [d0,Bool.true_and]
 simp only [Int.toNat_natCast]
 have w1:IntKind.i64.wrap ((regs.length:Int)-1)=regs.length-1:=wrap64 (by omega) (by omega)
 generalize hbd:p.bods.getD i []=b at *
 try simp only [go_sem,seval,h0]
 repeat refine K ?_
 by_cases h8:s.op=8
 ·simp only [go_sem,seval,h8,w1]
  repeat refine K ?_
  refine CA [] (within_ok s.r 0 (regs.length-1)) ?_
  try simp only [go_sem,seval]
  repeat refine K ?_
  cases hwi:within s.r 0 (regs.length-1)
  ·try simp only [go_sem,seval,hwi,hb',hbg,hig]
   repeat refine K ?_
   refine CA [] (implEmitSize_ok (b.getD j default)) ?_
   try simp only [go_sem,seval]
   repeat refine K ?_
   try simp only [go_sem,seval]
   repeat refine K ?_
   refine fz ?_; simp [FinS,nilL,nilV,oneOr,-List.drop_one]
  have hwi':=within_iff.1 hwi
  have hrl:s.r.toNat<regs.length:=by omega
  try simp only [go_sem,seval,hwi,ints_getD regs s.r.toNat hrl]
  repeat refine K ?_
  by_cases hz:regs.getD s.r.toNat 0=0
  ·try simp only [go_sem,seval,hz]
   repeat refine K ?_
   refine fz ?_; simp [FinS,nilL,nilV,oneOr,-List.drop_one]
  ·try simp only [go_sem,seval,hz,hb',hbg,hig]
   repeat refine K ?_
   refine CA [] (implEmitSize_ok (b.getD j default)) ?_
   try simp only [go_sem,seval]
   repeat refine K ?_
   try simp only [go_sem,seval]
   repeat refine K ?_
   refine fz ?_; simp [FinS,nilL,nilV,oneOr,-List.drop_one]
 ·simp only [go_sem,seval,h8,hb',hbg,hig]
  repeat refine K ?_
  refine CA [] (implEmitSize_ok (b.getD j default)) ?_
  try simp only [go_sem,seval]
  repeat refine K ?_
  try simp only [go_sem,seval]
  repeat refine K ?_
  refine fz ?_; simp [FinS,nilL,nilV,oneOr,-List.drop_one]
end Go.Sep
