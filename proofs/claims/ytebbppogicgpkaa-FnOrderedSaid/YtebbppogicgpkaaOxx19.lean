/- Contracts of functions. -/
import Derived.Test.YtebbppogicgpkaaOxx15
import Derived.Test.YtebbppogicgpkaaOxx18
namespace Go.Sep
set_option maxHeartbeats 16000000
open Go.Proofs
set_option linter.unusedSimpArgs false
set_option linter.unusedVariables false
set_option maxRecDepth 100000
open List renaming getD_eq_getElem?_getD → gD
@[simp] def qVg (m:qK):AV:=.agg [.ns 0 0 m.codes.length,.ns 1 0 m.cores.length,.ns 2 0 m.mem.cells.length,.ns 3 0 m.tr.length]
@[simp] def qVj (m:qK):FP:=[(0,some (1,codes .own m.codes),none),(1,some (4,cores .own m.cores),none),(2,some (1,jT .own m.mem.cells),none),(3,some (2,yW m.tr),none)]
@[simp] def qVh (m:qK):FP:=[(0,some (1,codes .own m.codes),some (1,codes .own m.codes)),(1,some (4,cores .own m.cores),some (4,cores .own m.cores)),(2,some (1,jT .own m.mem.cells),some (1,jT .own m.mem.cells)),(3,some (2,yW m.tr),some (2,yW m.tr))]
attribute [go_sem] qVj qVg qVh
def qPq (x:gI):Prop:=-(2^63)≤x.late∧x.late<2^63
theorem qMr {m:qK} {x:gI} (h:qL x.who 0 (m.cores.length-1)=false):wS m x=(m,2):=by
 have hc:xL m x.who=2:=by
  unfold xL
  rw [h]
  rfl
 unfold wS
 rw [hc]
 rfl
theorem qP9 (m:qK) (l:List gI) (i:Nat) (h:i<l.length):iK m (l.take (i+1))=(wS (iK m (l.take i)) (l.getD i default)).1:=by
 rw [zC l default i h,qHh]
def m346:MFn:=⟨21,[],kr [xI 6 0] (.blk 0 (.loop (.seq (kr [xv 7 6,xv 8 2,bT 9 .lss 7 8,xv 10 9,yv 11 6 10,yI 12 .lss 11 4000 10,xP 13 10 12] (kX 13 0)) (.seq (.blk 1 (kr [xv 16 0,xv 17 1,xo 18 (.build [xz,xz] [(0,1,.t 17)]),xo 19 (.call 359 [true,false] [.t 16,.t 18]),bI 20 .neq 19 0] (.cond 20 (.ret) (.skip)))) (xr [xv 14 6,bI 15 .add 14 1,xv 6 15])))))⟩
def dS (yT:Int):Nat:=(min yT 4000).toNat
theorem qJ8 {n i:Nat} (h:i<n) (m:qK) (who:Int) (hc:(wS m ⟨who,0⟩).2=0):uV (n-i) m who=uV (n-(i+1)) (wS m ⟨who,0⟩).1 who:=by
 obtain ⟨j,rfl⟩:=Nat.exists_eq_add_of_lt h
 have e1:i+j+1-i=j+1:=by omega
 have e2:i+j+1-(i+1)=j:=by omega
 rw [e1,e2]
 conv=>lhs; unfold uV
 rw [if_pos hc]
theorem qJ7 {n i:Nat} (h:i<n) (m:qK) (who:Int) (hc:(wS m ⟨who,0⟩).2≠0):uV (n-i) m who=m:=by
 obtain ⟨j,rfl⟩:=Nat.exists_eq_add_of_lt h
 have e1:i+j+1-i=j+1:=by omega
 rw [e1]
 unfold uV
 rw [if_neg hc]
 exact qKt hc
theorem qEz (m:qK) (who yT:Int) (h:wJ m=true):wD Try.prog num 346 [.ptr 0 0 0,.int .i64 who,.int .i64 yT] [(0,some (4,[qS .own m]),some (4,[qS .own (uV (dS yT) m who)]))] (.tup []):=by
 refine EH m346 Try.func16 ?_
 unfold m346
 simp only [go_sem,seval]
 refine wL (ι:=Nat×qK) (fun q=>.mk [(0,.ptr 0 0 0),(1,.int .i64 who),(2,.int .i64 yT),(6,.int .i64 q.1)] [(0,4,[qS .own q.2])] 10) (fun q=>q.1≤dS yT∧wJ q.2=true∧uV (dS yT-q.1) q.2 who=uV (dS yT) m who) (fun q=>dS yT-q.1) (0,m) ⟨by simp,h,rfl⟩ ?_ ?_
 ·refine Sub.shape [] id (by omega) ?_ ?_ ?_ ?_<;>simp [qP]
 ·rintro ⟨i,M⟩ ⟨hi,hM,he⟩
  simp only at hi hM he
  have hb:i≤4000:=by unfold dS at hi; omega
  by_cases hlt:i<dS yT
  case neg =>
   have hfin:M=uV (dS yT) m who:=by
    rw [←he]
    have:dS yT-i=0:=by omega
    rw [this]
    rfl
   rw [←hfin]
   by_cases h1:(i:Int)<yT
   ·have h2 :¬(i:Int)<4000:=by unfold dS at hlt; omega
    simp only [go_sem,seval,h1,h2]
    rw [qDe]
    apply jV (by decide)
    ·exact Sub.refl _
    ·simp [-List.drop_one,-gD,qS]<;>(first | rfl | exact ⟨rfl,rfl⟩ | exact ⟨rfl,rfl,rfl⟩ | skip)
   ·simp only [go_sem,seval,h1]
    rw [qDe]
    apply jV (by decide)
    ·exact Sub.refl _
    ·simp [-List.drop_one,-gD,qS]<;>(first | rfl | exact ⟨rfl,rfl⟩ | exact ⟨rfl,rfl,rfl⟩ | skip)
  have h1:(i:Int)<yT:=by unfold dS at hlt; omega
  have h2:(i:Int)<4000:=by unfold dS at hlt; omega
  simp only [go_sem,seval,h1,h2]
  refine CA [(0,0)] (qC5 M ⟨who,0⟩ hM (by simp)) ?_
  try simp only [go_sem,seval]
  by_cases hc:(wS M ⟨who,0⟩).2=0
  ·try simp only [go_sem,seval,hc,wB (i:=i) (by omega)]
   refine wC (i+1,(wS M ⟨who,0⟩).1) ?_ ⟨hlt,zR _ hM,by rw [←qJ8 hlt M who hc]; exact he⟩ (by simp only; omega)
   refine Sub.shape [] id (by omega) ?_ ?_ ?_ ?_<;>simp [qP]
  ·try simp only [go_sem,seval,hc]
   have hfin:uV (dS yT) m who=(wS M ⟨who,0⟩).1:=by
    rw [←he,qJ7 hlt M who hc,qKt hc]
   rw [hfin]
   apply jV (by decide)
   ·exact Sub.refl _
   ·simp [-List.drop_one,-gD,qS]<;>(first | rfl | exact ⟨rfl,rfl⟩ | exact ⟨rfl,rfl,rfl⟩ | skip)
end Go.Sep
