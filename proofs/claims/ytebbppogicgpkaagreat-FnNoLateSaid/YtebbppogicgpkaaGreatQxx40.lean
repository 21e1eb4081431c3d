/- Contracts of functions. -/
import Derived.Test.YtebbppogicgpkaaGreatQxx2
namespace Go.Sep
set_option maxHeartbeats 16000000
open Go.Proofs
set_option linter.unusedSimpArgs false
set_option linter.unusedVariables false
set_option maxRecDepth 100000
open Nat renaming reduceAdd → qA, reduceMul → qB, reduceEqDiff → qC, reduceBEq → qD
open Int renaming reduceToNat → qE, reduceEq → qF, reduceLT → qG, reduceLE → qH
open List renaming getD_eq_getElem?_getD → gD
def m443:MFn:=⟨63,[.t 4],kr [xb 2 0,xF 4] (kr [xm 16 2 2,xv 17 1,xc2 18 407 (.t 16) (.t 17),xv 15 18,xX 19 15 0,xX 20 15 1,xX 21 15 2,xo 6 (.alloc [.nil,.nil,.nil,.nil]),xv 5 19,xS 4 6 20,xv 7 21] (.seq (kr [xv 22 7,xN 23 22] (kF 23 [xF 4])) (kr [xo 24 (.mkSl [xz,xz] 0 []),xv 8 24] (.seq (kr [xv 25 1,xe 26 25,xI 27 0] (.blk 0 (.loop (kr [bT 28 .lss 27 26] (.seq (kX 28 0) (.seq (.blk 1 (kr [xD 29 2 25 27,xm 30 2 29,xo 10 (.alloc [xz,xz]),xS 2 10 30] (xr [xv 31 8,xa 32 0 10,xl 33 32,xo 34 (.build [xz,xz] [(0,1,.t 33)]),xo 35 (.mkSl [xz,xz] 1 [(0,.t 34)]),xA 36 2 16 31 35,xv 8 36]))) (xr [bI 37 .add 27 1,xv 27 37]))))))) (kr [xm 39 2 2,xv 40 8,xc2 41 407 (.t 39) (.t 40),xv 38 41,xX 42 38 0,xX 43 38 1,xX 44 38 2,xo 12 (.alloc [.nil,.nil,.nil,.nil]),xv 11 42,xS 4 12 43,xv 13 44] (kr [xo 14 (.mv (.c (.fn 464 [])))] (kR [xv 45 5,xv 46 11,xc2 47 34 (.t 45) (.t 46),xv 48 47,ya 49 3 6 48,yl 50 1 49 48,ya 51 3 12 48,yl 52 1 51 48,xg 53 (.call 419 [false,false] [.t 50,.t 52]) 48 true,xP 54 48 53,xv 55 54,ya 56 1 6 55,yl 57 1 56 55,ya 58 1 12 55,yl 59 1 58 55,yv 60 14 55,xg 61 (.call 465 [false,false,false] [.t 57,.t 59,.t 60]) 55 true,xP 62 55 61,xv 4 62])))))))⟩
def m464:MFn:=⟨17,[.t 4],kr [xb 2 0,xb 3 1,xF 4] (kR [xa 5 0 2,xl 6 5,xa 7 0 3,xl 8 7,bT 9 .eql 6 8,xv 10 9,ya 11 1 2 10,yl 12 1 11 10,ya 13 1 3 10,yl 14 1 13 10,xg 15 (.call 34 [false,false] [.t 12,.t 14]) 10 true,xP 16 10 15,xv 4 16])⟩
def m465:MFn:=⟨32,[.t 6],kr [xF 6] (.seq (kr [xv 10 0,xe 11 10,xv 12 1,xe 13 12,bT 14 .neq 11 13] (kF 14 [xF 6])) (.seq (kr [xv 15 0,xe 16 15,xI 17 0] (.blk 0 (.loop (kr [bT 18 .lss 17 16] (.seq (kX 18 0) (.seq (.blk 1 (kr [xv 19 17,xD 20 4 15 17,xm 21 4 20,xo 8 (.alloc [.int .i64 0,.nil,.nil,.int .i64 0]),xv 7 19,xS 4 8 21] (kr [xv 22 1,xv 23 7,xD 24 4 22 23,xm 25 4 24,xo 9 (.alloc [.int .i64 0,.nil,.nil,.int .i64 0]),xS 4 9 25] (kr [xv 26 2,xm 27 4 8,xm 28 4 9,xo 29 (.calv (.t 26) [.t 27,.t 28]),xN 30 29] (kF 30 [xF 6]))))) (xr [bI 31 .add 17 1,xv 17 31]))))))) (kR [xT 6])))⟩
def judgeLate (p:Prog) (l:List Pick):Bool:=(witness p l).2.2
def soonP (l:List Pick):List Pick:=l.map fun x=>⟨x.who,0⟩
theorem soonP_length (l:List Pick):(soonP l).length=l.length:=by simp [soonP]
theorem soonP_ok (l:List Pick) :∀x∈soonP l,pkOk x:=by
 intro x hx
 unfold soonP at hx
 obtain ⟨y,_,rfl⟩:=List.mem_map.1 hx
 unfold pkOk
 simp only
 omega
theorem soonP_same (p:Prog) (l:List Pick):witness p (soonP l)=witness p l:=witness_late (by simp [soonP])
theorem soonP_snoc (l:List Pick) (i:Nat) (h:i<l.length):pcks (soonP (l.take i))++[[.int .i64 (l.getD i default).who,.int .i64 0]]=pcks (soonP (l.take (i+1))):=by
 rw [take_snoc l default i h]
 simp [soonP,pcks,pickC]
theorem soonP_take (l:List Pick) (i:Nat) (h:i≤l.length):(soonP (l.take i)).length=i:=by
 rw [soonP_length,List.length_take]
 omega
theorem lateSame_ok (a b:Core) (h:a.regs.length<2^40):CallOk Tryz.prog num 464 [.agg (coreC .bw a),.agg (coreC .bw b)] [] (.bool (decide (a.at_=b.at_)&&decide (a.regs=b.regs))):=by
 refine EN m464 Tryz.func87 ?_
 unfold m464
 simp only [go_sem,seval]
 repeat refine K ?_
 by_cases h0:a.at_=b.at_
 ·try simp only [go_sem,seval,h0]
  repeat refine K ?_
  refine CA [] (slicesEqual_ok a.regs b.regs (by omega)) ?_
  try simp only [go_sem,seval]
  repeat refine K ?_
  try simp only [go_sem,seval]
  repeat refine K ?_
  refine fz ?_; simp [FinS,nilL,nilV,oneOr,-List.drop_one]
  all_goals simp [h0]
 ·try simp only [go_sem,seval,h0]
  repeat refine K ?_
  refine fz ?_; simp [FinS,nilL,nilV,oneOr,-List.drop_one]
  all_goals simp [h0]
theorem coresEqualFn_ok (l:List Core) (hl:l.length<2^40) (hr :∀K∈l,K.regs.length<2^40):CallOk Tryz.prog num 465 [.sl .bw 4 (cores .bw l),.sl .bw 4 (cores .bw l),.fn 464 []] [] (.bool true):=by
 refine EN m465 Tryz.func89 ?_
 unfold m465
 simp only [go_sem,seval]
 repeat refine K ?_
 refine loop_intro (ι:=Nat) (fun i=>.mk [(1,.sl .bw 4 (cores .bw l)),(2,.fn 464 []),(15,.sl .bw 4 (cores .bw l)),(16,.int .i64 l.length),(17,.int .i64 i)] [] 10) (fun i=>i≤l.length) (fun i=>l.length-i) 0 (by simp) ?_ ?_
 ·refine Sub.shape [] id (by omega) ?_ ?_ ?_ ?_<;>simp [ints_rep]
 ·intro i hi
  simp only [go_sem,seval]
  refine branch_intro (fun hc=>?_) (fun hc=>?_)
  ·simp only [decide_eq_true_eq] at hc
   have hi':i<l.length:=by omega
   have hg:=cores_getD .bw l i hi'
   have hK:=hr _ (getD_mem l i default hi')
   have hf:=lateSame_ok (l.getD i default) (l.getD i default) hK
   simp only [go_sem,seval,hg,e_calv]
   repeat refine K ?_
   refine CAV [] (hf) ?_
   try simp only [go_sem,seval]
   repeat refine K ?_
   try simp only [go_sem,seval,wrap_succ (i:=i) (by omega)]
   repeat refine K ?_
   refine back_intro (i+1) (Sub.shape [] id (by omega) ?_ ?_ ?_ ?_) ?_ ?_
   any_goals (first | omega | (simp [ints_rep]; done))
  ·simp only [decide_eq_false_iff_not] at hc
   simp only [go_sem,seval]
   repeat refine K ?_
   refine fz ?_; simp [FinS,nilL,nilV,oneOr,-List.drop_one]
theorem implJudgeLate_ok (p:Prog) (l:List Pick) (hp:SmallP p) (hl:l.length<2^40) (hx :∀x∈l,pkOk x):CallOk Tryz.prog num 443 [.agg (progC .bw p),.sl .bw 2 (pcks l)] [] (.bool (judgeLate p l)):=by
 refine EN m443 Tryz.func30 ?_
 unfold m443
 have hw:=implWitness_ok p l hp hl hx
 have hw2:=implWitness_ok p (soonP l) hp (by rw [soonP_length]; exact hl) (soonP_ok l)
 rw [soonP_same] at hw2
 have hz:=(witness_z p l).1
 have hm:=witness_sm p l
 unfold judgeLate
 generalize witness p l=w at *
 obtain ⟨o,m,b⟩:=w
 simp only at hz hm hw hw2⊢
 simp only [go_sem,seval]
 repeat refine K ?_
 refine CA [] (hw) ?_
 try simp only [go_sem,seval]
 repeat refine K ?_
 cases b
 ·try simp only [go_sem,seval]
  repeat refine K ?_
  refine fz ?_; simp [FinS,nilL,nilV,oneOr,-List.drop_one]
 try simp only [go_sem,seval]
 repeat refine K ?_
 refine loop_intro (ι:=Nat) (fun i=>.mk [(2,.ptr 10 0 0),(5,.ns 11 0 o.length),(6,.ptr 16 0 0),(8,.ns 17 0 i),(25,.sl .bw 2 (pcks l)),(26,.int .i64 l.length),(27,.int .i64 i)] [(10,2,[progC .bw p]),(11,1,ints o),(16,4,[machineC .own m]),(17,2,pcks (soonP (l.take i)))] 18) (fun i=>i≤l.length) (fun i=>l.length-i) 0 (by simp) ?_ ?_
 ·refine Sub.trans (Sub.fold1 16 0 12 rfl (by simp [-gD]<;>omega) rfl (by decide) (by decide) rfl) ?_
  simp only [fS,fS2,qA,qC]
  refine Sub.trans (Sub.fold1 16 1 13 rfl (by simp [-gD]<;>omega) rfl (by decide) (by decide) rfl) ?_
  simp only [fS,fS2,qA,qC]
  refine Sub.trans (Sub.fold1 16 2 14 rfl (by simp [-gD]<;>omega) rfl (by decide) (by decide) rfl) ?_
  simp only [fS,fS2,qA,qC]
  refine Sub.trans (Sub.fold1 16 3 15 rfl (by simp [-gD]<;>omega) rfl (by decide) (by decide) rfl) ?_
  simp only [fS,fS2,qA,qC]
  refine Sub.shape [] id (by omega) ?_ ?_ ?_ ?_<;>simp [ints_rep]
  all_goals (first | exact .inl rfl | skip)
 ·intro i hi
  have hst:=soonP_take l i hi
  simp only [go_sem,seval]
  refine branch_intro (fun hc=>?_) (fun hc=>?_)
  ·simp only [decide_eq_true_eq] at hc
   have hi':i<l.length:=by omega
   have hsn:=soonP_snoc l i hi'
   simp only [go_sem,seval,pcks_getD l i hi',hst,hsn,wrap_succ (i:=i) (by omega)]
   repeat refine K ?_
   refine back_intro (i+1) ?_ hi' (by omega)
   refine Sub.shape [] (fun n=>if n=17 then 20 else n) (by omega) ?_ ?_ ?_ ?_<;>simp [ints_rep]
  ·simp only [decide_eq_false_iff_not] at hc
   have he:i=l.length:=by omega
   subst he
   rw [List.take_length]
   rw [List.take_length] at hst
   have htk:List.take l.length (soonP l)=soonP l:=List.take_of_length_le (by omega)
   simp only [go_sem,seval,hst,htk]
   repeat refine K ?_
   refine CA [] (hw2) ?_
   try simp only [go_sem,seval]
   repeat refine K ?_
   refine CA [] (slicesEqual_ok o o (by omega)) ?_
   try simp only [go_sem,seval]
   repeat refine K ?_
   try simp only [go_sem,seval]
   repeat refine K ?_
   refine CA [] (notesEqual_ok m.tr m.tr (by have:=hm.tr; omega)) ?_
   try simp only [go_sem,seval]
   repeat refine K ?_
   try simp only [go_sem,seval]
   repeat refine K ?_
   refine CA [] (coresEqualFn_ok m.cores (by have:=hm.cores; omega) (fun K hK=>by have:=hm.regs K hK; omega)) ?_
   try simp only [go_sem,seval]
   repeat refine K ?_
   try simp only [go_sem,seval]
   repeat refine K ?_
   refine fz ?_; simp [FinS,nilL,nilV,oneOr,-List.drop_one]
end Go.Sep
