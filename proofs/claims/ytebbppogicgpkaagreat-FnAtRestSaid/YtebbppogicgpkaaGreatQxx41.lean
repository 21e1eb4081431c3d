/- Contracts of functions. -/
import Derived.Test.YtebbppogicgpkaaGreatQxx37
namespace Go.Sep
set_option maxHeartbeats 16000000
open Go.Proofs
set_option linter.unusedSimpArgs false
set_option linter.unusedVariables false
set_option maxRecDepth 100000
open Nat renaming reduceAdd → qA, reduceMul → qB, reduceEqDiff → qC, reduceBEq → qD
open Int renaming reduceToNat → qE, reduceEq → qF, reduceLT → qG, reduceLE → qH
open List renaming getD_eq_getElem?_getD → gD
def m444:MFn:=⟨86,[.t 2],kr [xF 2] (.seq (kr [xv 14 0,xc1 15 19 (.t 14)] (kF 15 [xT 2])) (kr [xv 17 0,xo 18 (.call 439 [true] [.t 17]),xv 16 18,xX 19 16 0,xX 20 16 1,xo 3 (.alloc [.nil,.nil]),xS 2 3 19,xv 4 20] (kr [xm 22 2 3,xv 23 4,xc2 24 407 (.t 22) (.t 23),xv 21 24,xX 25 21 0,xX 26 21 1,xX 27 21 2,xo 6 (.alloc [.nil,.nil,.nil,.nil]),xv 5 25,xS 4 6 26,xv 7 27] (kr [xm 29 2 3,xv 30 4,xc2 31 406 (.t 29) (.t 30),xv 28 31,xX 32 28 0,xX 33 28 1,xX 34 28 2,xo 9 (.alloc [.nil,.nil,.nil,.nil]),xv 8 32,xS 4 9 33,xv 10 34] (.seq (kr [xv 35 7,xv 36 10,xo 37 (.eqB true (.t 35) (.t 36))] (kF 37 [xF 2])) (.seq (kr [xv 38 7,xN 39 38] (kF 39 [xT 2])) (kr [xm 40 2 3,xm 41 4 6,xc2 42 401 (.t 40) (.t 41),xo 11 (.alloc [.nil,.nil,.nil,.nil]),xS 4 11 42] (.seq (kr [xa 43 1 11,xl 44 43,xe 45 44,xa 46 1 6,xl 47 46,xe 48 47,bT 49 .neq 45 48] (kF 49 [xF 2])) (.seq (kr [xI 12 0] (.blk 0 (.loop (.seq (kr [xv 50 12,xa 51 1 11,xl 52 51,xe 53 52,bT 54 .lss 50 53] (kX 54 0)) (.seq (.blk 1 (kr [xa 57 1 11,xl 58 57,xv 59 12,xD 60 4 58 59,xa 61 3 60,xl 62 61,bI 63 .eql 62 0,xv 64 63,xg 65 (.load 2 true (.t 3)) 64 true,xg 66 (.load 4 true (.t 11)) 64 true,yv 67 12 64,xg 68 (.call 445 [false,false,false] [.t 65,.t 66,.t 67]) 64 true,yN 69 68 64,xP 70 64 69] (kF 70 [xF 2]))) (xr [xv 55 12,bI 56 .add 55 1,xv 12 56])))))) (.seq (kr [xI 13 0] (.blk 2 (.loop (.seq (kr [xv 71 13,xa 72 0 3,xl 73 72,xe 74 73,bT 75 .lss 71 74] (kX 75 2)) (.seq (.blk 3 (kr [xa 78 2 11,xm 79 1 78,xa 80 0 3,xl 81 80,xv 82 13,xc3 83 424 (.t 79) (.t 81) (.t 82)] (kF 83 [xF 2]))) (xr [xv 76 13,bI 77 .add 76 1,xv 13 77])))))) (kR [xm 84 4 11,xc1 85 235 (.t 84),xv 2 85])))))))))))⟩
theorem fnAtRest_ok (code:List Int):CallOk Tryz.prog num 444 [.sl .fz 1 (bys code)] [] (.bool true):=by
 refine EN m444 Tryz.func6 ?_
 unfold m444
 simp only [go_sem,seval]
 repeat refine K ?_
 refine CA [] (big_ok code) ?_
 try simp only [go_sem,seval]
 repeat refine K ?_
 by_cases hbig:(1048576:Int)<code.length
 ·try simp only [go_sem,seval,hbig]
  repeat refine K ?_
  refine fz ?_; simp [FinS,nilL,nilV,oneOr,-List.drop_one]
 have hb:code.length<2^62:=by omega
 try simp only [go_sem,seval,hbig]
 repeat refine K ?_
 refine CA [] (drawPlayed_ok code hb) ?_
 try simp only [go_sem,seval]
 repeat refine K ?_
 obtain ⟨hp,hl,hx⟩:=playedF_ok code
 generalize playedF code=w at hp hl hx
 obtain ⟨p,l⟩:=w
 simp only at hp hl hx⊢
 have hpp:=smallP_of hp
 have cw:=implWitness_ok p l hpp (by omega) hx
 have cs:=specWitness_ok p l hpp (by omega) hx
 have hz:=(witness_z p l).1
 have hm:=witness_sm p l
 have hn:=@witness_none p l
 have hI:=@wit_inv p l
 have hR:=fun h=>@wit_room p l h (by omega)
 generalize witness p l=W at *
 obtain ⟨o,m,b⟩:=W
 simp only at cw cs hz hm hn hI hR
 have eb:(b==b)=true:=by simp
 try simp only [go_sem,seval]
 repeat refine K ?_
 refine CA [] (cw) ?_
 try simp only [go_sem,seval]
 repeat refine K ?_
 try simp only [go_sem,seval]
 repeat refine K ?_
 refine CA [] (cs) ?_
 try simp only [go_sem,seval]
 repeat refine K ?_
 try simp only [go_sem,seval,eb]
 repeat refine K ?_
 cases b
 ·try simp only [go_sem,seval]
  repeat refine K ?_
  refine fz ?_; simp [FinS,nilL,nilV,oneOr,-List.drop_one]
 obtain ⟨h1,h2,h3⟩:=hI rfl
 have crt:=implRestTop_ok p m hpp hm
 rw [restR_inv h1] at crt
 obtain ⟨s',g1,g2⟩:=rest_settles h1 (hR rfl)
 have hcl:=(fRest_ok p ((qA8 m).2 h1.mok)).2
 have hrm:SmallM (fRest p m):=smallM_of (n:=4000000) (machineOk_z ((qA8 _).2 g1.mok)) (by omega)
 have hmo:=(qA8 _).2 g1.mok
 have hcap:=hpp.caps
 rw [←hcl] at g2
 generalize fRest p m=r at *
 have hcr:=hrm.cores
 try simp only [go_sem,seval]
 repeat refine K ?_
 refine CA [] (crt) ?_
 try simp only [go_sem,seval]
 repeat refine K ?_
 try simp only [go_sem,seval,←hcl]
 repeat refine K ?_
 refine loop_intro (ι:=Nat) (fun i=>.mk [(3,.ptr 13 0 0),(11,.ptr 30 0 0),(12,.int .i64 i)] [(13,2,[progC .own p]),(30,4,[machineC .own r])] 31) (fun i=>i≤r.cores.length) (fun i=>r.cores.length-i) 0 (by simp) ?_ ?_
 ·refine Sub.trans (Sub.fold1 13 0 10 rfl (by simp [-gD]<;>omega) rfl (by decide) (by decide) rfl) ?_
  simp only [fS,qA,qC]
  refine Sub.trans (Sub.fold1 13 1 11 rfl (by simp [-gD]<;>omega) rfl (by decide) (by decide) rfl) ?_
  simp only [fS,qA,qC]
  refine Sub.trans (Sub.fold1 30 0 26 rfl (by simp [-gD]<;>omega) rfl (by decide) (by decide) rfl) ?_
  simp only [fS,qA,qC]
  refine Sub.trans (Sub.fold1 30 1 27 rfl (by simp [-gD]<;>omega) rfl (by decide) (by decide) rfl) ?_
  simp only [fS,qA,qC]
  refine Sub.trans (Sub.fold1 30 2 28 rfl (by simp [-gD]<;>omega) rfl (by decide) (by decide) rfl) ?_
  simp only [fS,qA,qC]
  refine Sub.trans (Sub.fold1 30 3 29 rfl (by simp [-gD]<;>omega) rfl (by decide) (by decide) rfl) ?_
  simp only [fS,qA,qC]
  refine Sub.shape [] id (by omega) ?_ ?_ ?_ ?_<;>simp [ints_rep]
 ·intro i hi
  simp only [go_sem,seval]
  refine branch_intro (fun hc=>?_) (fun hc=>?_)
  ·simp only [decide_eq_true_eq] at hc
   have hil:i<r.cores.length:=by omega
   have hgc:=cores_getD .own r.cores i hil
   have hbt:=need_between g1 hil (g2 i hil)
   have hk:coreAt r i=r.cores.getD i default:=rfl
   rw [hk] at hbt
   have cb:=implBetweenTop_ok p r i hpp hcr hil
   simp only [go_sem,seval,hgc]
   repeat refine K ?_
   by_cases hst:(r.cores.getD i default).st=0
   ·rw [hbt hst] at cb
    try simp only [go_sem,seval,hst]
    repeat refine K ?_
    refine CA [] (cb) ?_
    try simp only [go_sem,seval]
    repeat refine K ?_
    try simp only [go_sem,seval,wrap_succ (i:=i) (by omega)]
    repeat refine K ?_
    refine back_intro (i+1) ?_ hil (by omega)
    refine Sub.trans (Sub.fold1 13 0 32 rfl (by simp [-gD]<;>omega) rfl (by decide) (by decide) rfl) ?_
    simp only [fS,qA,qC]
    refine Sub.trans (Sub.fold1 13 1 33 rfl (by simp [-gD]<;>omega) rfl (by decide) (by decide) rfl) ?_
    simp only [fS,qA,qC]
    refine Sub.trans (Sub.fold1 30 0 34 rfl (by simp [-gD]<;>omega) rfl (by decide) (by decide) rfl) ?_
    simp only [fS,qA,qC]
    refine Sub.trans (Sub.fold1 30 2 35 rfl (by simp [-gD]<;>omega) rfl (by decide) (by decide) rfl) ?_
    simp only [fS,qA,qC]
    refine Sub.trans (Sub.fold1 30 3 36 rfl (by simp [-gD]<;>omega) rfl (by decide) (by decide) rfl) ?_
    simp only [fS,qA,qC]
    refine Sub.trans (Sub.fold1 30 1 31 rfl (by simp [-gD]<;>omega) rfl (by decide) (by decide) rfl) ?_
    simp only [fS,qA,qC]
    refine Sub.shape [] id (by omega) ?_ ?_ ?_ ?_<;>simp [ints_rep]
   ·try simp only [go_sem,seval,hst,wrap_succ (i:=i) (by omega)]
    repeat refine K ?_
    refine back_intro (i+1) ?_ hil (by omega)
    refine Sub.trans (Sub.fold1 30 1 31 rfl (by simp [-gD]<;>omega) rfl (by decide) (by decide) rfl) ?_
    simp only [fS,qA,qC]
    refine Sub.shape [] id (by omega) ?_ ?_ ?_ ?_<;>simp [ints_rep]
  ·simp only [decide_eq_false_iff_not] at hc
   simp only [go_sem,seval]
   repeat refine K ?_
   refine loop_intro (ι:=Nat) (fun i=>.mk [(3,.ptr 13 0 0),(11,.ptr 30 0 0),(13,.int .i64 i)] [(13,2,[progC .own p]),(30,4,[machineC .own r])] 31) (fun i=>i≤p.caps.length) (fun i=>p.caps.length-i) 0 (by simp) ?_ ?_
   ·refine Sub.trans (Sub.fold1 30 1 31 rfl (by simp [-gD]<;>omega) rfl (by decide) (by decide) rfl) ?_
    simp only [fS,qA,qC]
    refine Sub.shape [] id (by omega) ?_ ?_ ?_ ?_<;>simp [ints_rep]
   ·intro j hj
    simp only [go_sem,seval]
    refine branch_intro (fun hc=>?_) (fun hc=>?_)
    ·simp only [decide_eq_true_eq] at hc
     have hjl:j<p.caps.length:=by omega
     have clk:=implLocked_ok r.mem.cells p.caps j hrm.mem hcap
     rw [rest_unlocked g1 g2 hjl] at clk
     simp only [go_sem,seval]
     repeat refine K ?_
     refine CA [] (clk) ?_
     try simp only [go_sem,seval]
     repeat refine K ?_
     try simp only [go_sem,seval,wrap_succ (i:=j) (by omega)]
     repeat refine K ?_
     refine back_intro (j+1) ?_ hjl (by omega)
     refine Sub.trans (Sub.fold1 13 0 31 rfl (by simp [-gD]<;>omega) rfl (by decide) (by decide) rfl) ?_
     simp only [fS,qA,qC]
     refine Sub.trans (Sub.fold1 30 2 32 rfl (by simp [-gD]<;>omega) rfl (by decide) (by decide) rfl) ?_
     simp only [fS,qA,qC]
     refine Sub.shape [] id (by omega) ?_ ?_ ?_ ?_<;>simp [ints_rep]
    ·have cmo:=implMachineOk_ok r hrm
     rw [hmo] at cmo
     simp only [go_sem,seval]
     repeat refine K ?_
     refine CA [] (cmo) ?_
     try simp only [go_sem,seval]
     repeat refine K ?_
     try simp only [go_sem,seval]
     repeat refine K ?_
     refine fz ?_; simp [FinS,nilL,nilV,oneOr,-List.drop_one]
end Go.Sep
