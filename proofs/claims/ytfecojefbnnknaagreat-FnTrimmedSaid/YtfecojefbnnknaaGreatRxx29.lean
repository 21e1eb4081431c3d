/- Contracts of functions. -/
import Derived.Test.YtfecojefbnnknaaGreatRxx6
namespace Go.Sep
set_option maxHeartbeats 16000000
open Go.Proofs
set_option linter.unusedSimpArgs false
set_option linter.unusedVariables false
set_option maxRecDepth 100000
def m504:MFn:=⟨29,[.t 2],kr [xb 1 0,xI 2 0] (kr [xI 3 0] (.seq (kr [xa 8 1 1,xl 9 8,xe 10 9,xI 11 0] (.blk 0 (.loop (kr [bT 12 .lss 11 10] (.seq (kX 12 0) (.seq (.blk 1 (kr [xD 13 1 9 11,xl 14 13,xv 5 14] (kr [xv 15 5,xe 16 15,xI 17 0] (.blk 2 (.loop (kr [bT 18 .lss 17 16] (.seq (kX 18 2) (.seq (.blk 3 (kr [xD 19 5 15 17,xm 20 5 19,xo 7 (.alloc [xz,xz,xz,xz,xz]),xS 5 7 20] (kr [xa 21 0 7,xl 22 21,bI 23 .neq 22 11] (.cond 23 (xr [xv 24 3,bI 25 .add 24 1,xv 3 25]) (.skip))))) (xr [bI 26 .add 17 1,xv 17 26]))))))))) (xr [bI 27 .add 11 1,xv 11 27]))))))) (kR [xv 28 3,xv 2 28])))⟩
def m505:MFn:=⟨37,[.t 2],kr [xb 1 0,xI 2 0] (kr [xI 3 0] (.seq (kr [xI 4 0] (.blk 0 (.loop (.seq (kr [xv 6 4,xa 7 1 1,xl 8 7,xe 9 8,bT 10 .lss 6 9] (kX 10 0)) (.seq (.blk 1 (kr [xI 5 0] (.blk 2 (.loop (.seq (kr [xv 13 5,xa 14 1 1,xl 15 14,xv 16 4,xD 17 1 15 16,xl 18 17,xe 19 18,bT 20 .lss 13 19] (kX 20 2)) (.seq (.blk 3 (xr [xv 23 3,xa 24 1 1,xl 25 24,xv 26 4,xD 27 1 25 26,xl 28 27,xv 29 5,xD 30 5 28 29,xa 31 0 30,xl 32 31,bI 33 .neq 32 11,xc1 34 85 (.t 33),bT 35 .add 23 34,xv 3 35])) (xr [xv 21 5,bI 22 .add 21 1,xv 5 22]))))))) (xr [xv 11 4,bI 12 .add 11 1,xv 4 12])))))) (kR [xv 36 3,xv 2 36])))⟩
def wAs (x:Ins):Bool:=!decide (x.op=11)
def lV (l:List Ins) (i:Nat):Nat:=((l.take i).filter wAs).length
def nH (bs:List (List Ins)) (i:Nat):Nat:=((bs.take i).map fun b=>lV b b.length).sum
theorem pQ (l:List Ins) {i:Nat} (h:i<l.length):lV l (i+1)=lV l i+if (l.getD i default).op=11 then 0 else 1:=by
 unfold lV
 rw [jX l default i h,List.filter_append,List.length_append]
 congr 1
 simp only [List.filter_cons,List.filter_nil,wAs]
 generalize l.getD i default=x
 by_cases e:x.op=11
 ·simp [e]
 ·simp [e]
theorem kU (bs:List (List Ins)) {i:Nat} (h:i<bs.length):nH bs (i+1)=nH bs i+lV (bs.getD i []) (bs.getD i []).length:=by
 unfold nH
 rw [jX bs [] i h,List.map_append,List.sum_append]
 simp
theorem qKt (l:List Ins) (i:Nat):lV l i≤l.length:=by
 unfold lV
 refine Nat.le_trans (List.length_filter_le _ _) ?_
 rw [List.length_take]
 omega
def eW (p:wQ):Nat:=nH p.bods p.bods.length
theorem qKs (bs:List (List Ins)) {n:Nat} (h :∀b∈bs,b.length≤n) :∀i,i≤bs.length→nH bs i≤i*n
 | 0,_=>by simp [nH]
 | i+1,hi=>by
  have h1:=qKs bs h i (by omega)
  have h2:=qKt (bs.getD i []) (bs.getD i []).length
  have h3:=h _ (yB bs i [] (by omega))
  rw [kU bs (by omega),Nat.succ_mul]
  omega
theorem kJ (p:wQ) (hp:p.bods.length≤1000) (hb :∀b∈p.bods,b.length≤1000):qY Tryz.prog num 504 [.agg (jY .bw p)] [] (.int .i64 (eW p)):=by
 have hle:=qKs p.bods hb
 refine EN m504 Tryz.func21 ?_
 unfold m504
 simp only [go_sem,seval]
 repeat refine K ?_
 refine qZ (ι:=Nat) (fun i=>.mk [(3,.int .i64 (nH p.bods i)),(9,.sl .bw 1 (yT .bw p.bods)),(10,.int .i64 p.bods.length),(11,.int .i64 i)] [] 11) (fun i=>i≤p.bods.length) (fun i=>p.bods.length-i) 0 (by simp) ?_ ?_
 ·refine Sub.shape [] id (by omega) ?_ ?_ ?_ ?_<;>simp [qK]
  all_goals (first | rfl | exact .inl rfl)
 ·intro i hi
  simp only [go_sem,seval]
  refine qP (fun hc=>?_) (fun hc=>?_)
  ·simp only [decide_eq_true_eq] at hc
   have hil:i<p.bods.length:=by omega
   have hg:=wB .bw p.bods i hil
   have hst:=kU p.bods hil
   have hbl:=hb _ (yB p.bods i [] hil)
   have hl1:=hle i hi
   have hl2:i*1000≤1000*1000:=Nat.mul_le_mul_right _ (by omega)
   generalize p.bods.getD i []=b at *
   simp only [go_sem,seval,hg]
   repeat refine K ?_
   refine qZ (ι:=Nat) (fun j=>.mk [(3,.int .i64 ((nH p.bods i+lV b j:Nat):Int)),(9,.sl .bw 1 (yT .bw p.bods)),(10,.int .i64 p.bods.length),(11,.int .i64 i),(15,.sl .bw 5 (yV b)),(16,.int .i64 b.length),(17,.int .i64 j)] [] 11) (fun j=>j≤b.length) (fun j=>b.length-j) 0 (by simp) ?_ ?_
   ·refine Sub.shape [] id (by omega) ?_ ?_ ?_ ?_<;>simp [qK]
    all_goals (first | rfl | exact .inl rfl | simp [lV])
   ·intro j hj
    have hsn:=qKt b j
    simp only [go_sem,seval]
    refine qP (fun hc2=>?_) (fun hc2=>?_)
    ·simp only [decide_eq_true_eq] at hc2
     have hjl:j<b.length:=by omega
     have hgi:=jQ b j hjl
     have hnx:=pQ b hjl
     generalize b.getD j default=x at hgi hnx
     by_cases h11:x.op=11
     ·rw [if_pos h11,Nat.add_zero] at hnx
      simp only [go_sem,seval,hgi,h11,qN (i:=j) (by omega)]
      repeat refine K ?_
      refine qM (j+1) ?_ ?_ ?_
      ·rw [hnx]
       refine Sub.shape [] id (by omega) ?_ ?_ ?_ ?_<;>simp [qK]
      ·exact hjl
      ·omega
     ·rw [if_neg h11] at hnx
      simp only [go_sem,seval,hgi,h11,qN (i:=j) (by omega),qN (i:=nH p.bods i+lV b j) (by omega)]
      repeat refine K ?_
      refine qM (j+1) ?_ ?_ ?_
      ·rw [hnx]
       refine Sub.shape [] id (by omega) ?_ ?_ ?_ ?_<;>simp [qK]
       all_goals omega
      ·exact hjl
      ·omega
    ·simp only [decide_eq_false_iff_not] at hc2
     have hje:j=b.length:=by omega
     subst hje
     simp only [go_sem,seval,qN (i:=i) (by omega)]
     repeat refine K ?_
     refine qM (i+1) ?_ ?_ ?_
     ·rw [hst]
      refine Sub.shape [] id (by omega) ?_ ?_ ?_ ?_<;>simp [qK]
     ·exact hil
     ·omega
  ·simp only [decide_eq_false_iff_not] at hc
   have hie:i=p.bods.length:=by omega
   subst hie
   simp only [go_sem,seval]
   repeat refine K ?_
   refine fz ?_; simp [yQ,wJ,wK,wR,-List.drop_one]
   try rfl
theorem qHe (p:wQ) (hp:p.bods.length≤1000) (hb :∀b∈p.bods,b.length≤1000):qY Tryz.prog num 505 [.agg (jY .bw p)] [] (.int .i64 (eW p)):=by
 have hle:=qKs p.bods hb
 refine EN m505 Tryz.func22 ?_
 unfold m505
 simp only [go_sem,seval]
 repeat refine K ?_
 refine qZ (ι:=Nat) (fun i=>.mk [(1,.ptr 10 0 0),(3,.int .i64 (nH p.bods i)),(4,.int .i64 i)] [(10,2,[jY .bw p])] 11) (fun i=>i≤p.bods.length) (fun i=>p.bods.length-i) 0 (by simp) ?_ ?_
 ·refine Sub.shape [] id (by omega) ?_ ?_ ?_ ?_<;>simp [qK]
  all_goals (first | rfl | exact .inl rfl)
 ·intro i hi
  simp only [go_sem,seval]
  refine qP (fun hc=>?_) (fun hc=>?_)
  ·simp only [decide_eq_true_eq] at hc
   have hil:i<p.bods.length:=by omega
   have hg:=wB .bw p.bods i hil
   have hst:=kU p.bods hil
   have hbl:=hb _ (yB p.bods i [] hil)
   have hl1:=hle i hi
   have hl2:i*1000≤1000*1000:=Nat.mul_le_mul_right _ (by omega)
   generalize p.bods.getD i []=b at *
   simp only [go_sem,seval,hg]
   repeat refine K ?_
   refine qZ (ι:=Nat) (fun j=>.mk [(1,.ptr 10 0 0),(3,.int .i64 ((nH p.bods i+lV b j:Nat):Int)),(4,.int .i64 i),(5,.int .i64 j)] [(10,2,[jY .bw p])] 11) (fun j=>j≤b.length) (fun j=>b.length-j) 0 (by simp) ?_ ?_
   ·refine Sub.shape [] id (by omega) ?_ ?_ ?_ ?_<;>simp [qK]
    all_goals (first | rfl | exact .inl rfl | simp [lV])
   ·intro j hj
    have hsn:=qKt b j
    simp only [go_sem,seval,hg]
    repeat refine K ?_
    refine qP (fun hc2=>?_) (fun hc2=>?_)
    ·simp only [decide_eq_true_eq] at hc2
     have hjl:j<b.length:=by omega
     have hgi:=jQ b j hjl
     have hnx:=pQ b hjl
     generalize b.getD j default=x at hgi hnx
     simp only [go_sem,seval,hg,hgi,hil]
     repeat refine K ?_
     refine CA [] (qWd (!decide (x.op=11))) ?_
     try simp only [go_sem,seval]
     repeat refine K ?_
     have w0:IntKind.i64.wrap ((nH p.bods i:Int)+(lV b j:Int)+vV false)=(nH p.bods i:Int)+(lV b j:Int):=by
      rw [show vV false=0 from rfl,Int.add_zero]
      exact yL (by omega) (by omega)
     have w1:IntKind.i64.wrap ((nH p.bods i:Int)+(lV b j:Int)+vV true)=(nH p.bods i:Int)+(lV b j:Int)+1:=by
      rw [show vV true=1 from rfl]
      exact yL (by omega) (by omega)
     by_cases h11:x.op=11
     ·rw [if_pos h11] at hnx
      try simp only [go_sem,seval,h11,w0,qN (i:=j) (by omega)]
      repeat refine K ?_
      refine qM (j+1) ?_ ?_ ?_
      ·rw [hnx]
       refine Sub.shape [] id (by omega) ?_ ?_ ?_ ?_<;>simp [qK]
       all_goals (try exact w0)
      ·exact hjl
      ·omega
     ·rw [if_neg h11] at hnx
      try simp only [go_sem,seval,h11,w1,qN (i:=j) (by omega)]
      repeat refine K ?_
      refine qM (j+1) ?_ ?_ ?_
      ·rw [hnx]
       refine Sub.shape [] id (by omega) ?_ ?_ ?_ ?_<;>simp [qK]
       all_goals (try omega)
      ·exact hjl
      ·omega
    ·simp only [decide_eq_false_iff_not] at hc2
     have hje:j=b.length:=by omega
     subst hje
     simp only [go_sem,seval,qN (i:=i) (by omega)]
     repeat refine K ?_
     refine qM (i+1) ?_ ?_ ?_
     ·rw [hst]
      refine Sub.shape [] id (by omega) ?_ ?_ ?_ ?_<;>simp [qK]
     ·exact hil
     ·omega
  ·simp only [decide_eq_false_iff_not] at hc
   have hie:i=p.bods.length:=by omega
   subst hie
   simp only [go_sem,seval]
   repeat refine K ?_
   refine fz ?_; simp [yQ,wJ,wK,wR,-List.drop_one]
   try rfl
end Go.Sep
