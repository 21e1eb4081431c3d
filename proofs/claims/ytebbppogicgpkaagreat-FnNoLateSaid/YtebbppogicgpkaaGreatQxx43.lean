/- Contracts of functions. -/
import Derived.Test.YtebbppogicgpkaaGreatQxx40
namespace Go.Sep
set_option maxHeartbeats 16000000
open Go.Proofs
set_option linter.unusedSimpArgs false
set_option linter.unusedVariables false
set_option maxRecDepth 100000
open Nat renaming reduceAdd → qA, reduceMul → qB, reduceEqDiff → qC, reduceBEq → qD
open Int renaming reduceToNat → qE, reduceEq → qF, reduceLT → qG, reduceLE → qH
open List renaming getD_eq_getElem?_getD → gD
def m442:MFn:=⟨120,[.t 2],kr [xF 2] (.seq (kr [xv 17 0,xc1 18 19 (.t 17)] (kF 18 [xT 2])) (kr [xv 20 0,xo 21 (.call 439 [true] [.t 20]),xv 19 21,xX 22 19 0,xX 23 19 1,xo 3 (.alloc [.nil,.nil]),xS 2 3 22,xv 4 23] (kr [xm 25 2 3,xv 26 4,xc2 27 407 (.t 25) (.t 26),xv 24 27,xX 28 24 0,xX 29 24 1,xX 30 24 2,xo 6 (.alloc [.nil,.nil,.nil,.nil]),xv 5 28,xS 4 6 29,xv 7 30] (kr [xm 32 2 3,xv 33 4,xc2 34 406 (.t 32) (.t 33),xv 31 34,xX 35 31 0,xX 36 31 1,xX 37 31 2,xo 9 (.alloc [.nil,.nil,.nil,.nil]),xv 8 35,xS 4 9 36,xv 10 37] (.seq (kr [xv 38 7,xv 39 10,xo 40 (.eqB true (.t 38) (.t 39))] (kF 40 [xF 2])) (.seq (kr [xv 41 7,xN 42 41] (kF 42 [xT 2])) (kr [xo 43 (.mkSl [xz,xz] 0 []),xv 11 43] (.seq (kr [xI 12 0] (.blk 0 (.loop (.seq (kr [xv 44 12,xv 45 4,xe 46 45,bT 47 .lss 44 46] (kX 47 0)) (.seq (.blk 1 (.dreg (.take 0 (xv 50 11) (.take 1 (xv 51 4) (.take 2 (xv 52 12) (.take 3 (xD 53 2 51 52) (.take 4 (xa 54 0 53) (.take 5 (xl 55 54) (.take 6 (xv 56 0) (.only 7 [] (xv 57 12) (.only 8 [6] (xc2 58 184 (.t 56) (.t 57)) (.only 9 [5,8,4,6,3,1,2] (xo 59 (.build [xz,xz] [(0,1,.t 55),(1,1,.t 58)])) (.only 10 [9,5,8,4,6,3,1,2] (xo 60 (.mkSl [xz,xz] 1 [(0,.t 59)])) (.only 11 [0,8,10,6,9,5,4,3,1,2] (xA 61 2 16 50 60) (.only 12 [0,1,2,3,4,5,6] (xv 11 61) (.done)))))))))))))))) (xr [xv 48 12,bI 49 .add 48 1,xv 12 49])))))) (kr [xm 63 2 3,xv 64 11,xc2 65 407 (.t 63) (.t 64),xv 62 65,xX 66 62 0,xX 67 62 1,xX 68 62 2,xo 14 (.alloc [.nil,.nil,.nil,.nil]),xv 13 66,xS 4 14 67,xv 15 68] (.seq (kr [xv 69 5,xv 70 13,xc2 71 23 (.t 69) (.t 70),xN 72 71,xv 73 72,za 74 3 6 73,zl 75 1 74 73,za 76 3 14 73,zl 77 1 76 73,xg 78 (.call 160 [false,false] [.t 75,.t 77]) 73 false,zN 79 78 73,xQ 80 73 79] (kF 80 [xF 2])) (.seq (kr [xI 16 0] (.blk 2 (.loop (.seq (kr [xv 81 16,xa 82 1 6,xl 83 82,xe 84 83,bT 85 .lss 81 84] (kX 85 2)) (.seq (.blk 3 (.seq (.dreg (.take 0 (xa 88 1 6) (.take 1 (xl 89 88) (.take 2 (xv 90 16) (.take 3 (xD 91 4 89 90) (.take 4 (xa 92 0 91) (.take 5 (xl 93 92) (.take 6 (xa 94 1 14) (.take 7 (xl 95 94) (.only 8 [] (xv 96 16) (.only 9 [7,6] (xD 97 4 95 96) (.only 10 [9,7,6] (xa 98 0 97) (.only 11 [10,9,7,6] (xl 99 98) (.only 12 [5,11,4,10,3,9,1,2,7,0,6] (bT 100 .neq 93 99) (.only 13 [12,5,11,4,10,3,9,1,2,7,0,6] (xv 101 100) (.take 14 (za 102 1 6 101) (.take 15 (zl 103 1 102 101) (.take 16 (zv 104 16 101) (.take 17 (xg 105 (.iad 4 (.t 103) (.t 104)) 101 false) (.take 18 (za 106 1 105 101) (.take 19 (zl 107 1 106 101) (.take 20 (za 108 1 14 101) (.take 21 (zl 109 1 108 101) (.only 22 [13,12,5,11,4,10,3,9,1,2,7,0,6] (zv 110 16 101) (.only 23 [13,21,12,20,5,11,4,10,3,9,1,2,7,0,6] (xg 111 (.iad 4 (.t 109) (.t 110)) 101 false) (.only 24 [13,23,12,21,5,11,20,4,10,3,9,1,2,7,0,6] (za 112 1 111 101) (.only 25 [13,24,12,23,5,11,21,4,10,20,3,9,1,2,7,0,6] (zl 113 1 112 101) (.only 26 [13,19,25,12,18,24,5,11,17,23,4,10,15,16,21,3,9,14,20,1,2,7,0,6] (xg 114 (.call 23 [false,false] [.t 107,.t 113]) 101 false) (.only 27 [13,26,12,19,25,5,11,18,24,4,10,17,23,3,9,15,16,21,1,2,7,14,20,0,6] (zN 115 114 101) (.only 28 [13,27,12,26,5,11,19,25,4,10,18,24,3,9,17,23,1,2,7,15,16,21,0,6,14,20] (xQ 116 101 115) (.done))))))))))))))))))))))))))))))) (kF 116 [xF 2]))) (xr [xv 86 16,bI 87 .add 86 1,xv 16 87])))))) (kR [xm 117 2 3,xv 118 4,xc2 119 443 (.t 117) (.t 118),xv 2 119]))))))))))))⟩
def lateN (code:List Int) (l:List Pick) (i:Nat):List Pick:=(List.range i).map fun j=>⟨(l.getD j default).who,atF code j⟩
def lateP (code:List Int) (l:List Pick):List Pick:=lateN code l l.length
theorem lateN_length (code:List Int) (l:List Pick) (i:Nat):(lateN code l i).length=i:=by simp [lateN]
theorem lateP_length (code:List Int) (l:List Pick):(lateP code l).length=l.length:=lateN_length code l _
theorem lateN_snoc (code:List Int) (l:List Pick) (i:Nat):pcks (lateN code l i)++[[.int .i64 (l.getD i default).who,.int .i64 (atF code i)]]=pcks (lateN code l (i+1)):=by
 unfold lateN
 rw [List.range_succ,List.map_append]
 simp [pcks,pickC]
theorem lateP_who (code:List Int) (l:List Pick):(lateP code l).map (·.who)=l.map (·.who):=by
 refine List.ext_getElem (by rw [List.length_map,List.length_map,lateP_length]) fun i h1 h2=>?_
 have h3:i<l.length:=by simpa using h2
 simp [lateP,lateN,List.getD_eq_getElem?_getD,h3]
theorem lateP_ok (code:List Int) (l:List Pick) (hby :∀x∈code,isByte x) :∀x∈lateP code l,pkOk x:=by
 intro x hx
 unfold lateP lateN at hx
 obtain ⟨j,_,rfl⟩:=List.mem_map.1 hx
 have:=atF_pos code j hby
 unfold pkOk
 simp only
 omega
theorem fnNoLate_ok (code:List Int) (hby :∀x∈code,isByte x):CallOk Tryz.prog num 442 [.sl .fz 1 (bys code)] [] (.bool true):=by
 refine EN m442 Tryz.func5 ?_
 unfold m442
 simp only [go_sem,seval]
 repeat refine K ?_
 refine CA [] (big_ok code) ?_
 try simp only [go_sem,seval]
 repeat refine K ?_
 by_cases hbig:(1048576:Int)<code.length
 ·try simp only [go_sem,seval,hbig]
  repeat refine K ?_
  refine fz ?_; simp [FinS,nilL,nilV,oneOr,-List.drop_one]
 have hb:code.length<2^62:=by omega
 try simp only [go_sem,seval,hbig]
 repeat refine K ?_
 refine CA [] (drawPlayed_ok code hb) ?_
 try simp only [go_sem,seval]
 repeat refine K ?_
 obtain ⟨hp,hl,hx⟩:=playedF_ok code
 generalize playedF code=w at hp hl hx
 obtain ⟨p,l⟩:=w
 simp only at hp hl hx⊢
 have hpp:=smallP_of hp
 have cw:=implWitness_ok p l hpp (by omega) hx
 have cs:=specWitness_ok p l hpp (by omega) hx
 have hz:=(witness_z p l).1
 have hm:=witness_sm p l
 have hn:=@witness_none p l
 have hI:=@wit_inv p l
 have hR:=fun h=>@wit_room p l h (by omega)
 have ej:=implJudgeLate_ok p l hpp (by omega) hx
 have hlt:=witness_late (p:=p) (lateP_who code l)
 have cl:=implWitness_ok p (lateP code l) hpp (by rw [lateP_length]; omega) (lateP_ok code l hby)
 rw [hlt] at cl
 clear hlt
 unfold judgeLate at ej
 generalize witness p l=W at *
 obtain ⟨o,m,b⟩:=W
 simp only at cw cs hz hm hn hI hR
 have eb:(b==b)=true:=by simp
 try simp only [go_sem,seval]
 repeat refine K ?_
 refine CA [] (cw) ?_
 try simp only [go_sem,seval]
 repeat refine K ?_
 try simp only [go_sem,seval]
 repeat refine K ?_
 refine CA [] (cs) ?_
 try simp only [go_sem,seval]
 repeat refine K ?_
 try simp only [go_sem,seval,eb]
 repeat refine K ?_
 cases b
 ·try simp only [go_sem,seval]
  repeat refine K ?_
  refine fz ?_; simp [FinS,nilL,nilV,oneOr,-List.drop_one]
 try simp only [go_sem,seval]
 repeat refine K ?_
 refine loop_intro (ι:=Nat) (fun i=>.mk [(0,.sl .fz 1 (bys code)),(3,.ptr 13 0 0),(4,.ns 12 0 l.length),(5,.ns 14 0 o.length),(6,.ptr 19 0 0),(11,.ns 26 0 i),(12,.int .i64 i)] [(13,2,[progC .own p]),(12,2,pcks l),(14,1,ints o),(19,4,[machineC .own m]),(26,2,pcks (lateN code l i))] 27) (fun i=>i≤l.length) (fun i=>l.length-i) 0 (by simp) ?_ ?_
 ·refine Sub.trans (Sub.fold1 13 0 10 rfl (by simp [-gD]<;>omega) rfl (by decide) (by decide) rfl) ?_
  simp only [fS,fS2,qA,qC]
  refine Sub.trans (Sub.fold1 13 1 11 rfl (by simp [-gD]<;>omega) rfl (by decide) (by decide) rfl) ?_
  simp only [fS,fS2,qA,qC]
  refine Sub.trans (Sub.fold1 19 0 15 rfl (by simp [-gD]<;>omega) rfl (by decide) (by decide) rfl) ?_
  simp only [fS,fS2,qA,qC]
  refine Sub.trans (Sub.fold1 19 1 16 rfl (by simp [-gD]<;>omega) rfl (by decide) (by decide) rfl) ?_
  simp only [fS,fS2,qA,qC]
  refine Sub.trans (Sub.fold1 19 2 17 rfl (by simp [-gD]<;>omega) rfl (by decide) (by decide) rfl) ?_
  simp only [fS,fS2,qA,qC]
  refine Sub.trans (Sub.fold1 19 3 18 rfl (by simp [-gD]<;>omega) rfl (by decide) (by decide) rfl) ?_
  simp only [fS,fS2,qA,qC]
  refine Sub.shape [] id (by omega) ?_ ?_ ?_ ?_<;>simp [ints_rep]
  all_goals (first | rfl | exact .inl rfl | skip)
 ·intro i hi
  have hll:=lateN_length code l i
  simp only [go_sem,seval]
  refine branch_intro (fun hc=>?_) (fun hc=>?_)
  ·simp only [decide_eq_true_eq] at hc
   have hil:i<l.length:=by omega
   have hsn:=lateN_snoc code l i
   simp only [go_sem,seval,pcks_getD l i hil]
   repeat refine K ?_
   refine DA [] (at_ok code i hb (by omega) hby) ?_
   try simp only [go_sem,seval]
   repeat refine K ?_
   try simp only [go_sem,seval,hll,hsn,wrap_succ (i:=i) (by omega)]
   repeat refine K ?_
   refine back_intro (i+1) ?_ hil (by omega)
   refine Sub.shape [] (fun n=>if n=26 then 28 else n) (by omega) ?_ ?_ ?_ ?_<;>simp [ints_rep]
  ·simp only [decide_eq_false_iff_not] at hc
   have he:i=l.length:=by omega
   subst he
   have hle:lateN code l l.length=lateP code l:=rfl
   rw [hle]
   rw [hle] at hll
   have htk:List.take l.length (lateP code l)=lateP code l:=List.take_of_length_le (by omega)
   have hcl:=hm.cores
   simp only [go_sem,seval,hll,htk]
   repeat refine K ?_
   refine CA [] (cl) ?_
   try simp only [go_sem,seval]
   repeat refine K ?_
   try simp only [go_sem,seval]
   repeat refine K ?_
   refine CA [] (sameInts_ok o o (by omega)) ?_
   try simp only [go_sem,seval]
   repeat refine K ?_
   try simp only [go_sem,seval]
   repeat refine K ?_
   refine CA [] (sameNotes_ok m.tr m.tr (by have:=hm.tr; omega)) ?_
   try simp only [go_sem,seval]
   repeat refine K ?_
   try simp only [go_sem,seval]
   repeat refine K ?_
   refine loop_intro (ι:=Nat) (fun i=>.mk [(3,.ptr 13 0 0),(4,.ns 12 0 l.length),(6,.ptr 19 0 0),(14,.ptr 34 0 0),(16,.int .i64 i)] [(13,2,[progC .own p]),(12,2,pcks l),(19,4,[machineC .own m]),(34,4,[machineC .own m])] 35) (fun i=>i≤m.cores.length) (fun i=>m.cores.length-i) 0 (by simp) ?_ ?_
   ·refine Sub.trans (Sub.fold1 13 0 27 rfl (by simp [-gD]<;>omega) rfl (by decide) (by decide) rfl) ?_
    simp only [fS,fS2,qA,qC]
    refine Sub.trans (Sub.fold1 13 1 28 rfl (by simp [-gD]<;>omega) rfl (by decide) (by decide) rfl) ?_
    simp only [fS,fS2,qA,qC]
    refine Sub.trans (Sub.fold1 19 3 35 rfl (by simp [-gD]<;>omega) rfl (by decide) (by decide) rfl) ?_
    simp only [fS,fS2,qA,qC]
    refine Sub.trans (Sub.fold1 34 0 30 rfl (by simp [-gD]<;>omega) rfl (by decide) (by decide) rfl) ?_
    simp only [fS,fS2,qA,qC]
    refine Sub.trans (Sub.fold1 34 1 31 rfl (by simp [-gD]<;>omega) rfl (by decide) (by decide) rfl) ?_
    simp only [fS,fS2,qA,qC]
    refine Sub.trans (Sub.fold1 34 2 32 rfl (by simp [-gD]<;>omega) rfl (by decide) (by decide) rfl) ?_
    simp only [fS,fS2,qA,qC]
    refine Sub.trans (Sub.fold1 34 3 33 rfl (by simp [-gD]<;>omega) rfl (by decide) (by decide) rfl) ?_
    simp only [fS,fS2,qA,qC]
    refine Sub.shape [] id (by omega) ?_ ?_ ?_ ?_<;>simp [ints_rep]
   ·intro j hj
    simp only [go_sem,seval]
    refine branch_intro (fun hc=>?_) (fun hc=>?_)
    ·simp only [decide_eq_true_eq] at hc
     have hjl:j<m.cores.length:=by omega
     have hgc:=cores_getD .own m.cores j hjl
     have hrg:=hm.regs _ (getD_mem m.cores j default hjl)
     simp only [go_sem,seval,hgc]
     repeat refine K ?_
     refine DA [] (sameInts_ok (m.cores.getD j default).regs (m.cores.getD j default).regs (by omega)) ?_
     try simp only [go_sem,seval]
     repeat refine K ?_
     have gw :∀r,((cores .own m.cores).set j r).getD j []=r:=fun r=>getD_set_self _ _ _ _ (by rw [cores_length]; exact hjl)
     try simp only [go_sem,seval,gw,wrap_succ (i:=j) (by omega)]
     repeat refine K ?_
     refine back_intro (j+1) ?_ hjl (by omega)
     refine Sub.trans (Sub.foldAt 35 1 37 rfl (by simp [-gD]<;>omega) rfl (by decide) (by decide) rfl (by simp<;>omega)) ?_
     simp only [fS,fS2,qA,qC,cores_set,set_getD_self m.cores j default hjl]
     refine Sub.trans (Sub.foldAt 36 1 38 rfl (by simp [-gD]<;>omega) rfl (by decide) (by decide) rfl (by simp<;>omega)) ?_
     simp only [fS,fS2,qA,qC,cores_set,set_getD_self m.cores j default hjl]
     refine Sub.trans (Sub.fold1 19 1 35 rfl (by simp [-gD]<;>omega) rfl (by decide) (by decide) rfl) ?_
     simp only [fS,fS2,qA,qC]
     refine Sub.trans (Sub.fold1 34 1 36 rfl (by simp [-gD]<;>omega) rfl (by decide) (by decide) rfl) ?_
     simp only [fS,fS2,qA,qC]
     refine Sub.shape [] id (by omega) ?_ ?_ ?_ ?_<;>simp [ints_rep]
    ·simp only [go_sem,seval]
     repeat refine K ?_
     refine CA [] (ej) ?_
     try simp only [go_sem,seval]
     repeat refine K ?_
     try simp only [go_sem,seval]
     repeat refine K ?_
     refine fz ?_; simp [FinS,nilL,nilV,oneOr,-List.drop_one]
end Go.Sep
