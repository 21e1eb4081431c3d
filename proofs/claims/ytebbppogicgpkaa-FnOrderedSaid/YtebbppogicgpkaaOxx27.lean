/- Contracts of functions. -/
import Derived.Test.YtebbppogicgpkaaOxx26
namespace Go.Sep
set_option maxHeartbeats 16000000
open Go.Proofs
set_option linter.unusedSimpArgs false
set_option linter.unusedVariables false
set_option maxRecDepth 100000
def m19:MFn:=⟨6,[.t 2],kr [xF 2] (kR [xv 3 0,xe 4 3,bI 5 .gtr 4 1048576,xv 2 5])⟩
def m184:MFn:=⟨20,[.t 4],kr [xI 4 0] (.seq (kr [xv 5 1,xv 6 0,xe 7 6,bT 8 .lss 5 7] (kF 8 [xv 9 0,xv 10 1,xD 11 1 9 10,xl 12 11,xo 13 (.cvi .i64 (.t 12)),xv 4 13])) (kR [xv 14 1,bI 15 .mul 14 7,xv 16 0,xe 17 16,bT 18 .add 15 17,bI 19 .rem 18 256,xv 4 19]))⟩
def rV (x:Int):Prop:=0≤x∧x<256
theorem qUs (code:List Int):wD Try.prog num 19 [.sl .bw 1 (bys code)] [] (.bool (decide ((1048576:Int)<code.length))):=by
 refine EN m19 Try.func4 ?_
 unfold m19
 simp only [go_sem,seval]
 repeat refine K ?_
 refine fz ?_; simp [yB,qW,qZ,wG,-List.drop_one]
theorem qV4 (l:List UInt8) :∀x∈l.map (fun n=>(n.toNat:Int)),rV x:=fun x hx=>by
 obtain ⟨n,_,rfl⟩:=List.mem_map.1 hx
 have:=n.toNat_lt
 exact ⟨by omega,by omega⟩
def atF (code:List Int) (i:Nat):Int:=if i<code.length then code.getD i 0 else Int.tmod ((i:Int)*7+code.length) 256
theorem qOz (code:List Int) (i:Nat) (hb:code.length<2^62) (hi:i<2^30) (hby :∀x∈code,rV x):wD Try.prog num 184 [.sl .bw 1 (bys code),.int .i64 i] [] (.int .i64 (atF code i)):=by
 refine EN m184 Try.func5 ?_
 unfold m184
 by_cases h:i<code.length
 ·have hx:=hby _ (yQ code i 0 h)
  unfold rV at hx
  have q:IntKind.i64.wrap (code.getD i 0)=code.getD i 0:=yP (by omega) (by omega)
  have hh:(i:Int)<code.length:=by omega
  simp only [go_sem,seval,hh,qSy code i h,q]
  repeat refine K ?_
  refine fz ?_; simp [yB,qW,qZ,wG,-List.drop_one]
  simp [atF,h]
 ·have hh :¬(i:Int)<code.length:=by omega
  have q1:IntKind.i64.wrap ((i:Int)*7)=(i:Int)*7:=yP (by omega) (by omega)
  have q2:IntKind.i64.wrap ((i:Int)*7+code.length)=(i:Int)*7+code.length:=yP (by omega) (by omega)
  have q3:IntKind.i64.wrap (Int.tmod ((i:Int)*7+code.length) 256)=Int.tmod ((i:Int)*7+code.length) 256:=by
   have h1:=Int.tmod_nonneg (a:=(i:Int)*7+code.length) 256 (by omega)
   have h2:=Int.tmod_lt_of_pos ((i:Int)*7+code.length) (b:=256) (by omega)
   exact yP (by omega) (by omega)
  simp only [go_sem,seval,hh,q1,q2,q3]
  repeat refine K ?_
  refine fz ?_; simp [yB,qW,qZ,wG,-List.drop_one]
  simp [atF,h]
theorem qAe (code:List Int) (i:Nat) (hby :∀x∈code,rV x):0≤atF code i∧atF code i<256:=by
 unfold atF
 split
 ·rename_i h
  have hx:=hby _ (yQ code i 0 h)
  unfold rV at hx
  omega
 ·exact ⟨Int.tmod_nonneg _ (by omega),Int.tmod_lt_of_pos _ (by omega)⟩
theorem Inv.lens {p:wN} {m:qK} {s:qV} (h:Inv p m s):m.cores.length=p.bods.length∧s.ths.length=p.bods.length∧s.chs.length=p.caps.length:=by
 have hs:=(vU p s).1 h.src
 have hl:m.codes.length=p.bods.length:=by rw [h.codes,List.length_map]
 have hc:=h.mok.cores
 exact ⟨by omega,hs.2.1,hs.2.2.1⟩
def xW (code:List Int) (i:Nat):List gI:=(List.range i).map fun j=>⟨Int.tmod (atF code (j/5+j%3)) 2,Int.tmod (atF code j) 4⟩
theorem zQ (code:List Int) (i:Nat):(xW code i).length=i:=by simp [xW]
theorem qG7 (code:List Int) (i:Nat):aN (xW code i)++[[.int .i64 (Int.tmod (atF code (i/5+i%3)) 2),.int .i64 (Int.tmod (atF code i) 4)]]=aN (xW code (i+1)):=by
 unfold xW
 rw [List.range_succ,List.map_append]
 simp [aN,nC]
theorem qKo (code:List Int) (i:Nat) (hby :∀x∈code,rV x) :∀x∈xW code i,qPq x:=by
 intro x hx
 unfold xW at hx
 obtain ⟨j,_,rfl⟩:=List.mem_map.1 hx
 have:=qAe code j hby
 have h1:=Int.tmod_nonneg (a:=atF code j) 4 this.1
 have h2:=Int.tmod_lt_of_pos (atF code j) (b:=4) (by omega)
 unfold qPq
 simp only
 omega
theorem qBy {n k:Nat} (hn:1≤n) (hn4:n≤4) (hk1:2≤k) (hk:k≤7):(launch (vF n k)).2=true∧vD (vF n k)=true:=by
 have h1:n=1∨n=2∨n=3∨n=4:=by omega
 have h2:k=2∨k=3∨k=4∨k=5∨k=6∨k=7:=by omega
 rcases h1 with rfl | rfl | rfl | rfl<;>rcases h2 with rfl | rfl | rfl | rfl | rfl | rfl<;>exact ⟨by decide +kernel,by decide +kernel⟩
theorem qMj {n k:Nat} (hn:1≤n) (hn4:n≤4) (hk1:2≤k) (hk:k≤7) :∀s who,wF (vF n k) s=true→Ord n k s→Ord n k (qY (vF n k) s who).1 :=
 fun _ who hs h=>Ord.step hn hn4 (by omega) hk h hs who
theorem qTl {n k:Nat} (hn:1≤n) (hn4:n≤4) (hk1:2≤k) (hk:k≤7) (l:List gI) (hl:l.length≤4000) :
  (yG (vF n k) l).2.2=true∧(∃q,q≤k∧(yG (vF n k) l).2.1.tr=nY q)∧
  ∃q,q≤k∧(kY (vF n k) (yG (vF n k) l).2.1 60).1.tr=nY q∧(2≤(kY (vF n k) (yG (vF n k) l).2.1 60).2→q=k):=by
 obtain ⟨h1,h2⟩:=qBy hn hn4 hk1 hk
 have hw:(yG (vF n k) l).2.2=true:=by
  unfold yG
  rw [h1,decide_eq_true (show ((l.length:Nat):Int)≤4000 by omega)]
  rfl
 have hb:=qMj hn hn4 hk1 hk
 have hI0:=Inv.launch h1
 obtain ⟨g1,g2,g3,g4,g5,g6⟩:=kN hw
 have e2:(yG (vF n k) l).2.1=iK (launch (vF n k)).1 l:=by rw [g5]
 have hO0:=Ord.new hn hn4 h2
 have hI1:=(hI0.run l).1
 have hO1:=(Ord.run hn hn4 (by omega) hk (bU (vF n k) (launch (vF n k)).1 l) hO0 (zK h2)).1
 rw [←e2] at hI1
 refine ⟨hw,?_,?_⟩
 ·obtain ⟨q,q1,q2,_⟩:=hO1.trace
  exact ⟨q,q1,by rw [hI1.tr,q2]⟩
 ·have hB:vT (vF n k) (Ord n k) (yG (vF n k) l).2.1:=⟨_,hI1,hO1⟩
  have hm:=(yH _).2 hI1.mok
  have hl1:=hI1.lens.1
  generalize (yG (vF n k) l).2.1=m at *
  obtain ⟨s,f1,f2⟩:=vT.finN hb m.cores.length (tY 60) hB
  obtain ⟨q,q1,q2,q3⟩:=f2.trace
  unfold kY
  rw [hm,decide_eq_true hl1]
  refine ⟨q,q1,by show (finN _ _ _ _).tr=_; rw [f1.tr,q2],fun h=>?_⟩
  have hlen:m.cores.length=2:=by rw [hl1]; rfl
  have hlf:=f1.lens.1
  have hb2:(vF n k).bods.length=2:=rfl
  have h':2≤zP (finN (vF n k) m.cores.length (tY 60) m) m.cores.length:=h
  generalize finN (vF n k) m.cores.length (tY 60) m=F at *
  rw [hlen] at h'
  simp only [zP] at h'
  refine q3 (f1.over (by omega) ?_) (f1.over (by omega) ?_)
  ·intro e
   rw [if_pos e] at h'
   split at h'<;>omega
  ·intro e
   rw [if_pos e] at h'
   split at h'<;>omega
theorem qHa (q:Nat):(nY q).length=q:=by simp [nY]
theorem qMl {q i:Nat} (h:i<q):(nY q).getD i default=⟨1,(i:Int)⟩:=by
 unfold nY
 rw [List.getD_eq_getElem?_getD,List.getElem?_map,List.getElem?_range h]
 rfl
end Go.Sep
