/- Contracts of functions. -/
import Derived.Test.YtebbppogicgpkaaGreatUxx19
open List renaming drop_one → qZ8, getD_eq_getElem?_getD → qXq, getElem_of_mem → qZk, take_of_length_le → qXx
namespace Go.Sep
set_option maxHeartbeats 16000000
open Go.Proofs
set_option linter.unusedSimpArgs false
set_option linter.unusedVariables false
set_option maxRecDepth 100000
open Nat renaming reduceAdd → qA, reduceMul → qB, reduceEqDiff → qC, reduceBEq → qD
open Int renaming reduceToNat → qE, reduceEq → qF, reduceLT → qG, reduceLE → qH
open List renaming getD_eq_getElem?_getD → gD
def m98:MFn:=⟨10,[.t 4],kr [xI 4 0] (.seq (kr [xv 5 0,xv 6 1,bT 7 .gtr 5 6] (kF 7 [xv 8 0,xv 4 8])) (kR [xv 9 1,xv 4 9]))⟩
def m368:MFn:=⟨14,[.t 4],kr [xF 4] (kR [xv 5 0,xk 6 5,xa 7 0 6,xl 8 7,xv 9 1,xD 10 1 8 9,xl 11 10,xe 12 11,bI 13 .lss 12 4000,xv 4 13])⟩
def m377:MFn:=⟨58,[.t 10,.t 11],kr [xI 10 0,xo 11 (.mv (.c (.nil)))] (kr [xv 16 0,xk 17 16,xa 18 0 17,xl 19 18,xv 20 2,xD 21 1 19 20,xl 22 21,xe 23 22,bI 24 .sub 23 1,xv 12 24] (kr [xv 25 12,xv 26 3,xo 27 (.mx (.t 26) (xi 0)),bT 28 .sub 25 27,xv 29 1,xv 30 2,xD 31 1 29 30,xl 32 31,xo 33 (.mx (.t 28) (.t 32)),xv 13 33] (kr [xv 34 1,xc1 35 36 (.t 34),xv 14 35] (kr [xv 36 14,xv 37 2,xv 38 13,xD 39 1 36 37,xS 1 39 38] (kr [xv 40 0,xk 41 40,xa 42 0 41,xl 43 42,xv 44 2,xD 45 1 43 44,xl 46 45,xv 47 13,xD 48 2 46 47,xm 49 2 48,xo 15 (.alloc [.int .i64 0,.nil]),xS 2 15 49] (.seq (kr [xv 50 4] (.cond 50 (xr [xv 51 14,xa 52 1 15,xl 53 52,xc2 54 382 (.t 51) (.t 53),xv 14 54]) (.skip))) (kR [xa 55 0 15,xl 56 55,xv 57 14,xv 10 56,xv 11 57])))))))⟩
def m378:MFn:=⟨56,[.t 10],kr [xo 10 (.mv (.c (.nil)))] (kr [xv 13 1,xc1 14 36 (.t 13),xv 11 14] (kr [xv 15 11,xv 16 2,xv 17 0,xk 18 17,xa 19 0 18,xl 20 19,xv 21 2,xD 22 1 20 21,xl 23 22,xe 24 23,xD 25 1 15 16,xS 1 25 24] (kr [xo 26 (.mkS [xz] 8 (xi 24) (xi 24)),xv 12 26] (kr [xv 27 12,xv 28 2,xv 29 11,xv 30 2,xD 31 1 29 30,xl 32 31,xD 33 1 27 28,xS 1 33 32] (.seq (kr [xv 34 4] (.cond 34 (xr [xv 35 11,xc1 36 36 (.t 35),xv 12 36]) (.skip))) (.seq (.dreg (.take 0 (xv 37 0) (.take 1 (xk 38 37) (.take 2 (xa 39 0 38) (.take 3 (xl 40 39) (.take 4 (xv 41 2) (.take 5 (xv 42 0) (.take 6 (xk 43 42) (.take 7 (xa 44 0 43) (.take 8 (xl 45 44) (.take 9 (xv 46 2) (.take 10 (xD 47 1 45 46) (.take 11 (xl 48 47) (.take 12 (xv 49 3) (.only 13 [] (xv 50 12) (.only 14 [12] (xo 51 (.build [.int .i64 0,.nil] [(0,1,.t 49),(1,1,.t 50)])) (.only 15 [14,12] (xo 52 (.mkSl [.int .i64 0,.nil] 1 [(0,.t 51)])) (.only 16 [11,15,10,14,8,9,12,7,6,5] (xA 53 2 32 48 52) (.only 17 [0,1,2,3,4,5,6,7,8,9,10,11,12] (xD 54 1 40 41) (.only 18 [0,1,2,3,4,5,6,7,8,9,10,11,12] (xS 1 54 53) (.done))))))))))))))))))))) (kR [xv 55 11,xv 10 55])))))))⟩
def m381:MFn:=⟨33,[.t 4],kr [xo 4 (.mv (.c (.nil)))] (kr [xo 7 (.mkSl [xz] 0 []),xv 5 7] (.seq (kr [xI 6 0] (.blk 0 (.loop (.seq (kr [xv 8 6,xv 9 0,xe 10 9,bT 11 .lss 8 10,xv 12 11,yv 13 6 12,yv 14 1 12,ye 15 14 12,xg 16 (.bin .lss (.t 13) (.t 15)) 12 true,xP 17 12 16] (kX 17 0)) (.seq (.blk 1 (.dreg (.take 0 (xv 20 5) (.take 1 (xv 21 0) (.take 2 (xv 22 6) (.take 3 (xD 23 1 21 22) (.take 4 (xl 24 23) (.take 5 (xv 25 1) (.only 6 [] (xv 26 6) (.only 7 [5] (xD 27 1 25 26) (.only 8 [7,5] (xl 28 27) (.only 9 [4,8,3,7,1,2,5] (xc2 29 98 (.t 24) (.t 28)) (.only 10 [9,4,8,3,7,1,2,5] (xo 30 (.mkSl [xz] 1 [(0,.t 29)])) (.only 11 [0,9,4,8,3,7,1,2,5] (xA 31 1 8 20 30) (.only 12 [0,1,2,3,4,5] (xv 5 31) (.done)))))))))))))))) (xr [xv 18 6,bI 19 .add 18 1,xv 6 19])))))) (kR [xv 32 5,xv 4 32])))⟩
def m382:MFn:=⟨33,[.t 4],kr [xo 4 (.mv (.c (.nil)))] (kr [xo 7 (.mkSl [xz] 0 []),xv 5 7] (.seq (kr [xI 6 0] (.blk 0 (.loop (.seq (kr [xv 8 6,xv 9 0,xe 10 9,bT 11 .lss 8 10,xv 12 11,yv 13 6 12,yv 14 1 12,ye 15 14 12,xg 16 (.bin .lss (.t 13) (.t 15)) 12 true,xP 17 12 16] (kX 17 0)) (.seq (.blk 1 (.dreg (.take 0 (xv 20 5) (.take 1 (xv 21 0) (.take 2 (xv 22 6) (.take 3 (xD 23 1 21 22) (.take 4 (xl 24 23) (.take 5 (xv 25 1) (.only 6 [] (xv 26 6) (.only 7 [5] (xD 27 1 25 26) (.only 8 [7,5] (xl 28 27) (.only 9 [4,8,3,7,1,2,5] (xo 29 (.mx (.t 24) (.t 28))) (.only 10 [9,4,8,3,7,1,2,5] (xo 30 (.mkSl [xz] 1 [(0,.t 29)])) (.only 11 [0,10,9,4,8,3,7,1,2,5] (xA 31 1 8 20 30) (.only 12 [0,1,2,3,4,5] (xv 5 31) (.done)))))))))))))))) (xr [xv 18 6,bI 19 .add 18 1,xv 6 19])))))) (kR [xv 32 5,xv 4 32])))⟩
theorem qO0 {m:qY} (h:jJ m=true):sJ m≤4000000:=by
 have h:=(jM m).1 h
 have n4:=h.n4
 have hc:=h.cores
 have h1:mV qGe m.codes≤800*m.codes.length:=qC2 (fun b hb=>by
  obtain ⟨i,hi,rfl⟩:=qZk hb
  have hk:=(h.core i (by omega)).code
  have e:m.codes.getD i []=m.codes[i]:=by simp [qXq,hi]
  rw [e] at hk
  unfold gA at hk
  simp only [Bool.and_eq_true,qO] at hk
  have:=hk.1.1.2
  simp only [qGe]
  omega)
 have h2:mV qGf m.cores≤32*m.cores.length:=qC2 (fun b hb=>by
  obtain ⟨i,hi,rfl⟩:=qZk hb
  have hk:=h.core i hi
  have e:qJ m i=m.cores[i]:=by simp [qJ,qXq,hi]
  have k1:=hk.regs
  have k2:=hk.view.1
  rw [e] at k1 k2
  simp only [qGf]
  omega)
 have h3:mV pO m.mem.cells≤100000*m.mem.cells.length:=qC2 (fun b hb=>by
  obtain ⟨i,hi,rfl⟩:=qZk hb
  have hl:=h.mem.len
  have hk:=(h.mem.cell i (by omega)).2
  have hv:=h.mem.view i (by omega)
  have e:m.mem.cells.getD i []=m.mem.cells[i]:=by simp [qXq,hi]
  rw [e] at hk hv
  have:mV qGd m.mem.cells[i]≤24*m.mem.cells[i].length:=qC2 (fun w hw=>by
   have:=(hv w hw).1
   simp only [qGd]
   omega)
  simp only [pO]
  omega)
 have h4:=h.tr
 unfold bJ at h4
 simp only [Bool.and_eq_true,decide_eq_true_eq] at h4
 have h5:=h.mem.len
 unfold sJ qWi
 omega
def cO:qY→List uF→qY
 | m,[]=>m
 | m,x::l=>cO (yG m x).1 l
theorem qKl :∀(m:qY) (l:List uF) (x:uF),cO m (l++[x])=(yG (cO m l) x).1
 | _,[],_=>rfl
 | m,y::l,x=>by simp only [List.cons_append,cO,qKl _ l x]
theorem qCo :∀{m:qY} (l:List uF),jJ m=true→jJ (cO m l)=true
 | _,[],h=>h
 | _,x::l,h=>qCo l (mL x h)
theorem qVr (m:qY) (i:Nat) (late:Int):(mdo m i late).cores.length=m.cores.length∧(mdo m i late).codes=m.codes:=by
 unfold mdo fH stop jL
 repeat' (first | split | (simp only; split))
 all_goals simp
theorem qEa (m:qY) (x:uF):(yG m x).1.cores.length=m.cores.length∧(yG m x).1.codes=m.codes:=by
 unfold yG
 split
 ·exact qVr _ _ _
 ·exact ⟨rfl,rfl⟩
theorem qNt :∀(m:qY) (l:List uF),(cO m l).cores.length=m.cores.length∧(cO m l).codes=m.codes
 | _,[]=>⟨rfl,rfl⟩
 | m,x::l=>by
  have h1:=qEa m x
  have h2:=qNt (yG m x).1 l
  exact ⟨by rw [cO,h2.1,h1.1],by rw [cO,h2.2,h1.2]⟩
theorem qU4 {m:qY} {x:uF} (h:(yG m x).2≠0):(yG m x).1=m:=by
 unfold yG at h⊢
 split
 ·rename_i hc
  rw [if_pos hc] at h
  exact absurd rfl h
 ·rfl
theorem CAN {P:Program} {num:Nat→Nat} {fin:AS→Prop} {f nx:Nat} {ps:List Bool} {xs:List Arg} {t:List (Nat×AV)} {h:yC} {fp:FP} {res:AV} {vargs:List AV} {dst:Option Nat} {k:List It} (σ:List (Nat×Nat)) (hc:qU P num f vargs fp res)
  (hk:vc P num fin k (.mk (dS t dst (yH nx (vP (rnm σ) res)).1) (aC h (fp.map (fun x=>(rnm σ x.1,aQ (rnm σ) x.2.1,aQ (rnm σ) x.2.2))++fresh (yH nx (vP (rnm σ) res)).2.1)) (yH nx (vP (rnm σ) res)).2.2))
  (hv:qR (kN (ixm σ) h ps (xs.map (Arg.ev (wQ t)))) vargs:=by first | omega | (simp [qR,qS]; done) | (simp [qR,qS, *]; done))
  (hvo:dT h (fun n =>∃x∈fp,x.2.1≠none∧n=rnm σ x.1∧ixm σ n=x.1) (fun n =>∃x∈fp,n=rnm σ x.1) ps (xs.map (Arg.ev (wQ t))):=by first | omega | (simp [qR,qS]; done) | (simp [qR,qS, *]; done))
  (hnd:(fp.map (fun x=>rnm σ x.1)).Nodup:=by first | (simp [qR,qS]; done) | (simp [qR,qS, *]; done))
  (hpre :∀x∈fp,wE h (rnm σ x.1)=aQ (rnm σ) x.2.1∧(x.2.1=none→nx≤rnm σ x.1)∧rnm σ x.1<nx:=by first | (simp [qR,qS]; done) | (simp [qR,qS, *]; done))
  (hnb :∀x∈fp,(∀r,x.2.1=some r→okR (fun k =>∃y∈fp,y.1=k∧y.2.1≠none) r.2)∧(∀r,x.2.2=some r→okR (fun k =>∃y∈fp,y.1=k∧y.2.2≠none) r.2):=by first | (simp [qR,qS]; done) | (simp [qR,qS, *]; done))
  (hres:okV (fun k =>∃x∈fp,x.1=k∧x.2.2≠none) res:=by first | (simp [qR,qS]; done) | (simp [qR,qS, *]; done)):pG P num fin (.call f ps xs) dst k (.mk t h nx) :=
 kU (qL8 σ hc hv hvo hnd hpre hnb hres) hk
theorem DAN {P:Program} {num:Nat→Nat} {fin:AS→Prop} {f nx:Nat} {ps:List Bool} {xs:List Arg} {t:List (Nat×AV)} {h:yC} {fp:FP} {res:AV} {vargs:List AV} {pend:List (Nat×List Nat)} {dst:Option Nat} {tr:gL} {k:List It} (σ:List (Nat×Nat)) (hc:qU P num f vargs fp res)
  (hk:vc P num fin (.draw tr pend::k) (.mk (dS t dst (yH nx (vP (rnm σ) res)).1) (aC h (fp.map (fun x=>(rnm σ x.1,aQ (rnm σ) x.2.1,aQ (rnm σ) x.2.2))++fresh (yH nx (vP (rnm σ) res)).2.1)) (yH nx (vP (rnm σ) res)).2.2))
  (hv:qR (kN (ixm σ) h ps (xs.map (Arg.ev (wQ t)))) vargs:=by first | omega | (simp [qR,qS]; done) | (simp [qR,qS, *]; done))
  (hvo:dT h (fun n =>∃x∈fp,x.2.1≠none∧n=rnm σ x.1∧ixm σ n=x.1) (fun n =>∃x∈fp,n=rnm σ x.1) ps (xs.map (Arg.ev (wQ t))):=by first | omega | (simp [qR,qS]; done) | (simp [qR,qS, *]; done))
  (hnd:(fp.map (fun x=>rnm σ x.1)).Nodup:=by first | (simp [qR,qS]; done) | (simp [qR,qS, *]; done))
  (hpre :∀x∈fp,wE h (rnm σ x.1)=aQ (rnm σ) x.2.1∧(x.2.1=none→nx≤rnm σ x.1)∧rnm σ x.1<nx:=by first | (simp [qR,qS]; done) | (simp [qR,qS, *]; done))
  (hnb :∀x∈fp,(∀r,x.2.1=some r→okR (fun k =>∃y∈fp,y.1=k∧y.2.1≠none) r.2)∧(∀r,x.2.2=some r→okR (fun k =>∃y∈fp,y.1=k∧y.2.2≠none) r.2):=by first | (simp [qR,qS]; done) | (simp [qR,qS, *]; done))
  (hres:okV (fun k =>∃x∈fp,x.1=k∧x.2.2≠none) res:=by first | (simp [qR,qS]; done) | (simp [qR,qS, *]; done))
  (ha:apart pend (fp.map (fun x=>(rnm σ x.1,aQ (rnm σ) x.2.1,aQ (rnm σ) x.2.2))++fresh (yH nx (vP (rnm σ) res)).2.1):=by first | (simp [qR,qS]; done) | (simp [qR,qS, *]; done)):qOp P num fin (.call f ps xs) pend dst tr k t h nx :=
 tN (qL8 σ hc hv hvo hnd hpre hnb hres) ha hk
mutual
theorem qVl :∀(v:AV),vP id v=v
 | .ptr ..=>rfl
 | .ns ..=>rfl
 | .agg cs=>by simp only [vP,qG4 cs]
 | .tup cs=>by simp only [vP,qG4 cs]
 | .any | .int _ _ | .bool _ | .str _ | .fn _ _ | .nilp | .fptr _ _ _ | .nil | .nilI | .ifc | .sl _ _ _=>by simp only [vP]
theorem qG4 :∀(l:List AV),fF id l=l
 | []=>rfl
 | c::cs=>by simp only [fF,qVl c,qG4 cs]
end
theorem qCm {A B:Nat→Prop} (hf :∀n,A n→B n) {l:List (List AV)} (h:okR A l):jU B l:=by
 have e :∀(l:List (List AV)),fE id l=l:=fun l=>by
  induction l with
  | nil=>rfl
  | cons r l ih =>
   have hL :∀(r:List AV),fF id r=r:=fun r=>qG4 r
   simp only [fE,hL,ih]
 have:=qH3 (f:=id) (B:=B) hf l h
 rwa [e] at this
mutual
theorem qTw {A B:Nat→Prop} (hf :∀n,A n→B n) :∀(v:AV),okV A v→okV B v
 | .ptr nm _ _,h=>hf nm h
 | .ns nm _ _,h=>hf nm h
 | .agg cs,h=>by simp only [okV] at h⊢; exact qCn hf cs h
 | .tup cs,h=>by simp only [okV] at h⊢; exact qCn hf cs h
 | .any,_=>trivial
 | .int _ _,h | .bool _,h | .str _,h | .fn _ _,h | .nilp,h | .fptr _ _ _,h | .nil,h | .nilI,h | .ifc,h | .sl _ _ _,h=>by simpa only [okV] using h
theorem qCn {A B:Nat→Prop} (hf :∀n,A n→B n) :∀(l:List AV),okL A l→okL B l
 | [],_=>trivial
 | c::cs,h=>⟨qTw hf c h.1,qCn hf cs h.2⟩
end
theorem qCl {A B:Nat→Prop} (hf :∀n,A n→B n) :∀{l:List (List AV)},okR A l→okR B l
 | [],_=>trivial
 | r::l,h=>⟨qCn hf r h.1,qCl hf h.2⟩
theorem qKz (f:Nat→Nat) (l:List bZ):fE f (cores .own l)=cores .own l:=iX f _ ((kP l).2 trivial)
theorem qT1 {A:Nat→Prop} (l:List bZ):okR A (cores .own l)↔True:=by simp [hP _ ((kP l).2 trivial)]
theorem qAf {A:Nat→Prop} (l:List bZ) (i:Nat) (r:List AV) (h:okL A r):okR A ((cores .own l).set i r):=qG5 _ _ _ (hP _ ((kP l).2 trivial)) h
theorem qOt (f:Nat→Nat) (l:List (List wY)):fE f (jT .own l)=jT .own l:=iX f _ ((rR l).2 trivial)
theorem qV0 {A:Nat→Prop} (l:List (List wY)):okR A (jT .own l)↔True:=by simp [hP _ ((rR l).2 trivial)]
theorem pF {A:Nat→Prop} (l:List (List wY)) (i:Nat) (r:List AV) (h:okL A r):okR A ((jT .own l).set i r):=qG5 _ _ _ (hP _ ((rR l).2 trivial)) h
theorem qL2 (f:Nat→Nat) (l:List (List yK)):fE f (codes .own l)=codes .own l:=iX f _ ((kT l).2 trivial)
theorem qL3 {A:Nat→Prop} (l:List (List yK)) (i:Nat) (r:List AV) (h:okL A r):okR A ((codes .own l).set i r):=qG5 _ _ _ (hP _ ((kT l).2 trivial)) h
theorem qGg (f:Nat→Nat) (l:List wY):fE f (vZ .own l)=vZ .own l:=iX f _ ((iG l).2 trivial)
theorem qP5 {A:Nat→Prop} (l:List wY):okR A (vZ .own l)↔True:=by simp [hP _ ((iG l).2 trivial)]
theorem qOe (f:Nat→Nat) (l:List Int):fE f (wS l)=wS l:=iX f _ ((dI l).2 trivial)
theorem qUe {A:Nat→Prop} (l:List Int):okR A (wS l)↔True:=by simp [hP _ ((dI l).2 trivial)]
attribute [go_sem] aQ fE qH2 qKz qOt qL2 qGg qOe
attribute [simp] aQ fE qH2 qKz qOt qL2 qGg qOe okR qT1 qV0 qP5 qUe qAf pF qL3
theorem F1 (nm f k:Nat) {off:Nat} {t:List (Nat×AV)} {h:yC} {nx sz sz' len:Nat} {rows':List (List AV)} {r:List AV} {s':AS} (hr:Sub (.mk t (del (put h nm (sz,[r.set f (.sl .own sz' (eA off len rows'))])) k) nx) s')
  (hk:wE h k=some (sz',rows'):=by rfl) (hnm:wE h nm=some (sz,[r]):=by rfl) (hne:k≠nm:=by decide) (hk10:10≤k:=by decide)
  (hf:r[f]?=some (.ns k off len):=by rfl) (hlen:off+len≤rows'.length:=by (simp [-List.getD_eq_getElem?_getD]<;>omega)):Sub (.mk t h nx) s':=Sub.trans (Sub.fold1 nm f k hk hlen hnm hne hk10 hf) hr
theorem FA (nm f k:Nat) {off i:Nat} {t:List (Nat×AV)} {h:yC} {nx sz sz' len:Nat} {l rows':List (List AV)} {r:List AV} {s':AS} (hr:Sub (.mk t (del (put h nm (sz,l.set i (r.set f (.sl .own sz' (eA off len rows'))))) k) nx) s')
  (hk:wE h k=some (sz',rows'):=by rfl) (hnm:wE h nm=some (sz,l.set i r):=by rfl) (hne:k≠nm:=by decide) (hk10:10≤k:=by decide)
  (hf:r[f]?=some (.ns k off len):=by rfl) (hlen:off+len≤rows'.length:=by (simp [-List.getD_eq_getElem?_getD]<;>omega)) (hi:i<l.length:=by (simp<;>omega)):Sub (.mk t h nx) s':=Sub.trans (Sub.foldAt nm f k hk hlen hnm hne hk10 hf hi) hr
theorem qOb :∀(a b:List Int) (x y:Int),a.length=b.length→join (a++[x]) (b++[y])=join a b++[max x y]
 | [],[],_,_,_=>rfl
 | [],_::_,_,_,h=>by simp at h
 | _::_,[],_,_,h=>by simp at h
 | a::l,b::k,x,y,h=>by simp only [List.cons_append,join,qOb l k x y (by simpa using h)]
theorem qKp (a b:List Int) (i:Nat) (ha:i<a.length) (hb:i<b.length):join (a.take (i+1)) (b.take (i+1))=join (a.take i) (b.take i)++[max (a.getD i 0) (b.getD i 0)]:=by
 rw [uZ a 0 i ha,uZ b 0 i hb,qOb _ _ _ _ (by simp; omega)]
theorem qHv :∀(a b:List Int),(join a b).length=min a.length b.length
 | [],_=>by simp [join]
 | _::_,[]=>by simp [join]
 | a::l,b::k=>by simp only [join,List.length_cons,qHv l k]; omega
theorem tD :∀(a b:List Int) (i:Nat),a.length≤i∨b.length≤i→join (a.take i) (b.take i)=join a b
 | [],_,_,_=>by simp [join]
 | _::_,[],_,_=>by simp [join]
 | a::l,b::k,0,h=>by simp at h
 | a::l,b::k,i+1,h=>by simp only [List.take_succ_cons,join,tD l k i (by simpa using h)]
theorem qA8 (a b:Int):qU Tryz.prog num 98 [.int .i64 a,.int .i64 b] [] (.int .i64 (max a b)):=by
 refine EN m98 Tryz.func133 ?_
 unfold m98
 by_cases h:b<a
 ·simp only [go_sem,seval,h]
  refine fz ?_; simp [wA,qR,qS,qN,-qZ8]
  omega
 ·simp only [go_sem,seval,h]
  refine fz ?_; simp [wA,qR,qS,qN,-qZ8]
  omega
theorem qPl (x y:Int):(if y>x then y else x)=max x y:=by split<;>omega
theorem qOi (a b:List Int) (h1:a.length<2^40):qU Tryz.prog num 382 [.sl .bw 1 (wS a),.sl .bw 1 (wS b)] [] (.sl .own 1 (wS (join a b))):=by
 refine EN m382 Tryz.func228 ?_
 unfold m382
 simp only [go_sem,seval]
 refine wC (ι:=Nat) (fun i=>.mk [(0,.sl .bw 1 (wS a)),(1,.sl .bw 1 (wS b)),(5,.ns 10 0 i),(6,.int .i64 i)] [(10,1,wS (join (a.take i) (b.take i)))] 11) (fun i=>i≤a.length∧i≤b.length) (fun i=>a.length-i) 0 (by simp) ?_ ?_
 ·refine Sub.shape [] id (by omega) ?_ ?_ ?_ ?_<;>simp [qM]
  all_goals simp [join,wS]
 ·rintro i ⟨hi,hj⟩
  have hlt:(join (a.take i) (b.take i)).length=i:=by rw [qHv]; simp; omega
  by_cases hc1:(i:Int)<a.length
  case neg =>
   have hd:join (a.take i) (b.take i)=join a b:=tD a b i (by omega)
   simp only [go_sem,seval,hc1,hlt]
   refine fz ?_; simp [wA,qR,qS,qN,-qZ8]
   rw [hd] at hlt⊢
   simp [hlt]
  by_cases hc2:(i:Int)<b.length
  case neg =>
   have hd:join (a.take i) (b.take i)=join a b:=tD a b i (by omega)
   simp only [go_sem,seval,hc1,hc2,hlt]
   refine fz ?_; simp [wA,qR,qS,qN,-qZ8]
   rw [hd] at hlt⊢
   simp [hlt]
  have g1:i<a.length:=by omega
  have g2:i<b.length:=by omega
  simp only [go_sem,seval,hc1,hc2,hlt,qPl,qI a i g1,qI b i g2,qV (i:=i) (by omega)]
  repeat refine K ?_
  have hn:=qKp a b i g1 g2
  refine qW (i+1) ?_ ⟨g1,g2⟩ (by omega)
  rw [hn]
  refine Sub.shape [] (fun n=>if n=10 then 12 else n) (by omega) ?_ ?_ ?_ ?_<;>simp [qM]
  exact .inl (by simp [wS])
theorem qN6 (a b:List Int) (h1:a.length<2^40):qU Tryz.prog num 381 [.sl .bw 1 (wS a),.sl .bw 1 (wS b)] [] (.sl .own 1 (wS (join a b))):=by
 refine EN m381 Tryz.func214 ?_
 unfold m381
 simp only [go_sem,seval]
 refine wC (ι:=Nat) (fun i=>.mk [(0,.sl .bw 1 (wS a)),(1,.sl .bw 1 (wS b)),(5,.ns 10 0 i),(6,.int .i64 i)] [(10,1,wS (join (a.take i) (b.take i)))] 11) (fun i=>i≤a.length∧i≤b.length) (fun i=>a.length-i) 0 (by simp) ?_ ?_
 ·refine Sub.shape [] id (by omega) ?_ ?_ ?_ ?_<;>simp [qM]
  all_goals simp [join,wS]
 ·rintro i ⟨hi,hj⟩
  have hlt:(join (a.take i) (b.take i)).length=i:=by rw [qHv]; simp; omega
  by_cases hc1:(i:Int)<a.length
  case neg =>
   have hd:join (a.take i) (b.take i)=join a b:=tD a b i (by omega)
   simp only [go_sem,seval,hc1,hlt]
   refine fz ?_; simp [wA,qR,qS,qN,-qZ8]
   rw [hd] at hlt⊢
   simp [hlt]
  by_cases hc2:(i:Int)<b.length
  case neg =>
   have hd:join (a.take i) (b.take i)=join a b:=tD a b i (by omega)
   simp only [go_sem,seval,hc1,hc2,hlt]
   refine fz ?_; simp [wA,qR,qS,qN,-qZ8]
   rw [hd] at hlt⊢
   simp [hlt]
  have g1:i<a.length:=by omega
  have g2:i<b.length:=by omega
  simp only [go_sem,seval,hc1,hc2,hlt,qPl,qI a i g1,qI b i g2,qV (i:=i) (by omega)]
  repeat refine K ?_
  refine DA [] (qA8 (a.getD i 0) (b.getD i 0)) ?_
  try simp only [go_sem,seval]
  repeat refine K ?_
  try simp only [go_sem,seval,hlt,qV (i:=i) (by omega)]
  have hn:=qKp a b i g1 g2
  refine qW (i+1) ?_ ⟨g1,g2⟩ (by omega)
  rw [hn]
  refine Sub.shape [] (fun n=>if n=10 then 12 else n) (by omega) ?_ ?_ ?_ ?_<;>simp [qM]
  exact .inl (by simp [wS])
def qNo (k:Nat):Prop:=k=0∨k=1∨k=2
def cP (cds:List (List yK)) (n1:Nat) (cs cs':List (List wY)) (tr:List aP) (R:List (List AV)) (v:List Int):FP :=
 [(0,some (4,[[.sl .own 1 (codes .own cds),.ns 1 0 n1,.sl .own 1 (jT .own cs),.sl .own 2 (jZ tr)]]),some (4,[[.sl .own 1 (codes .own cds),.ns 1 0 n1,.sl .own 1 (jT .own cs'),.sl .own 2 (jZ tr)]])),
  (1,some (4,R),some (4,R)),(2,some (1,wS v),some (1,wS v))]
theorem qVq {cds:List (List yK)} {n1:Nat} {cs cs':List (List wY)} {tr:List aP} {R:List (List AV)} {v:List Int} (hR:okR qNo R):HB (vW (cP cds n1 cs cs' tr R v)) 10:=by
 have:jU (· < 10) R:=qCm (fun n hn=>by rcases hn with rfl | rfl | rfl<;>decide) hR
 refine vY _ _ _ _ (vY _ _ _ _ (vY _ _ _ _ ((mP _).2 trivial) (by decide) (by simp [jB])) (by decide) this) (by decide) ?_
 simp [jB,jU,vL,bnd]
theorem qFc (cds:List (List yK)) (n1:Nat) (cs:List (List wY)) (tr:List aP) (R:List (List AV)) (hR:okR qNo R) (view:List Int) (cell:Nat) (late:Int) (hold:Bool) (hm:lR cs) (hv:VOk cs view) (hc:cell<24) (hl:-(2^63)≤late∧late<2^63) :
  qU Tryz.prog num 377 [.ptr 0 0 2,.ns 2 0 view.length,.int .i64 cell,.int .i64 late,.bool hold] (cP cds n1 cs cs tr R view) (.tup [.int .i64 (load cs view cell late hold).1,.sl .own 1 (wS (load cs view cell late hold).2)]):=by
 refine EH m377 Tryz.func205 (hh:=qVq hR) ?_
 unfold m377
 have hcl:cell<cs.length:=by rw [hm.len]; exact hc
 have hvl:=hv.1
 have hvc:cell<view.length:=by omega
 have hlc:=hm.cell cell hc
 have hv2:=hv.2 cell hc
 have hat:=qM7 (late:=late) hv hc
 have hcg:=vG .own cs cell hcl
 generalize hcd:cs.getD cell []=c at *
 have w1:IntKind.i64.wrap ((c.length:Int)-1)=c.length-1:=wK (by omega) (by omega)
 have w2:IntKind.i64.wrap ((c.length:Int)-1-max late 0)=c.length-1-max late 0:=wK (by omega) (by omega)
 have hwl :∀i,i<c.length→(c.getD i default).view.length=24:=fun i hi=>(hm.view cell hc _ (by rw [hcd]; exact yB c i default hi)).1
 simp only [go_sem,seval,cP,hcg,w1,w2,qPl,qI view cell hvc]
 repeat refine K ?_
 have he:max ((c.length:Int)-1-max late 0) (view.getD cell 0)=qCr cs view cell late:=by unfold qCr; rw [hcd]
 generalize hla:qCr cs view cell late=at_ at *
 obtain ⟨a,rfl⟩:=Int.eq_ofNat_of_zero_le hat.1
 have ha:a<c.length:=by omega
 have hwg:=fK .own c a ha
 have hwa:=hwl a ha
 refine CA [] (eZ view (by omega)) ?_
 try simp only [go_sem,seval]
 repeat refine K ?_
 have gt :∀r,((jT .own cs).set cell r).getD cell []=r:=fun r=>wH _ _ _ _ (by rw [yF]; exact hcl)
 have gw :∀r,((vZ .own c).set a r).getD a []=r:=fun r=>wH _ _ _ _ (by rw [cS]; exact ha)
 try simp only [go_sem,seval,hcg,he,hwg,gt,gw,qI view cell hvc]
 repeat refine K ?_
 have hself:(vZ .own c).set a [.int .i64 (c.getD a default).v,.sl .own 1 (wS (c.getD a default).view)]=vZ .own c:=by rw [←hwg,wR _ _ _ (by rw [cS]; exact ha)]
 have hselfc:(jT .own cs).set cell [.sl .own 2 (vZ .own c)]=jT .own cs:=by rw [←hcg,wR _ _ _ (by rw [yF]; exact hcl)]
 have hld:load cs view cell late hold=((c.getD a default).v,if hold then join (view.set cell a) (c.getD a default).view else view.set cell a):=by
  rw [qM6,hcd,hla]
  rfl
 rw [hld]
 cases hold
 ·simp only [go_sem,seval,hcg,hwg,gt,gw]
  apply wG (by simp)
  ·refine Sub.trans (Sub.foldAt 11 1 13 rfl (by simp [-gD]<;>omega) rfl (by decide) (by decide) rfl (by simp<;>omega)) ?_
   simp only [fS,fS2,qA,qC,hself]
   refine Sub.trans (Sub.foldAt 10 0 11 rfl (by simp [-gD]<;>omega) rfl (by decide) (by decide) rfl (by simp<;>omega)) ?_
   simp only [fS,fS2,qA,qC,hselfc]
   refine Sub.trans (Sub.fold1 0 2 10 rfl (by simp [-gD]<;>omega) rfl (by decide) (by decide) rfl) ?_
   simp only [fS,fS2,qA,qC]
   exact Sub.refl _
  ·simp [-qZ8,-gD,cP]<;>(first | rfl | exact ⟨rfl,rfl⟩ | exact ⟨rfl,rfl,rfl⟩ | skip)
 simp only [go_sem,seval,hcg,hwg,gt,gw]
 have hj:=qOi (view.set cell a) (c.getD a default).view (by simp; omega)
 have htk :∀x:Int,(view.set cell x).take view.length=view.set cell x:=fun x=>qXx (by simp)
 clear hvl hwa
 refine CA [] (hj) ?_
 try simp only [go_sem,seval]
 apply wG (by simp)
 ·refine Sub.trans (Sub.foldAt 11 1 13 rfl (by simp [-gD]<;>omega) rfl (by decide) (by decide) rfl (by simp<;>omega)) ?_
  simp only [fS,fS2,qA,qC,hself]
  refine Sub.trans (Sub.foldAt 10 0 11 rfl (by simp [-gD]<;>omega) rfl (by decide) (by decide) rfl (by simp<;>omega)) ?_
  simp only [fS,fS2,qA,qC,hselfc]
  refine Sub.trans (Sub.fold1 0 2 10 rfl (by simp [-gD]<;>omega) rfl (by decide) (by decide) rfl) ?_
  simp only [fS,fS2,qA,qC]
  exact Sub.refl _
 ·simp [-qZ8,-gD,cP]<;>(first | rfl | exact ⟨rfl,rfl⟩ | exact ⟨rfl,rfl,rfl⟩ | skip)
theorem aR (c:List wY) (v:Int) (l:List Int):vZ .own c++[[.int .i64 v,.sl .own 1 (wS l)]]=vZ .own (c++[⟨v,l⟩]):=by simp [vZ,sK]
theorem qBl (cds:List (List yK)) (n1:Nat) (cs:List (List wY)) (tr:List aP) (R:List (List AV)) (hR:okR qNo R) (cell:Nat) (hc:cell<cs.length) :
  qU Tryz.prog num 368 [.ptr 0 0 2,.int .i64 cell] [(0,some (4,[[.sl .own 1 (codes .own cds),.ns 1 0 n1,.sl .own 1 (jT .own cs),.sl .own 2 (jZ tr)]]),some (4,[[.sl .own 1 (codes .own cds),.ns 1 0 n1,.sl .own 1 (jT .own cs),.sl .own 2 (jZ tr)]])),(1,some (4,R),some (4,R))] (.bool (decide (((cs.getD cell []).length:Int)<4000))):=by
 have hb:jU (· < 10) R:=qCm (fun n hn=>by rcases hn with rfl | rfl | rfl<;>decide) hR
 refine EH m368 Tryz.func177 (hh:=vY _ _ _ _ (vY _ _ _ _ ((mP _).2 trivial) (by decide) hb) (by decide) (by simp [jB,jU,vL,bnd])) ?_
 unfold m368
 have hcg:=vG .own cs cell hc
 have hselfc:(jT .own cs).set cell [.sl .own 2 (vZ .own (cs.getD cell []))]=jT .own cs:=by rw [←hcg,wR _ _ _ (by rw [yF]; exact hc)]
 simp only [go_sem,seval,hcg]
 repeat refine K ?_
 apply wF
 ·refine Sub.trans (Sub.foldAt 10 0 11 rfl (by simp [-gD]<;>omega) rfl (by decide) (by decide) rfl (by simp<;>omega)) ?_
  simp only [fS,fS2,qA,qC,hselfc]
  refine Sub.trans (Sub.fold1 0 2 10 rfl (by simp [-gD]<;>omega) rfl (by decide) (by decide) rfl) ?_
  simp only [fS,fS2,qA,qC]
  exact Sub.refl _
 ·simp [-qZ8,-gD,uA]<;>(first | rfl | exact ⟨rfl,rfl⟩ | exact ⟨rfl,rfl,rfl⟩ | skip)
def z24:List Int:=List.replicate 24 0
@[simp] theorem gV:z24.length=24:=rfl
theorem cM:[[AV.int .i64 0],[AV.int .i64 0],[AV.int .i64 0],[AV.int .i64 0],[AV.int .i64 0],[AV.int .i64 0],[AV.int .i64 0],[AV.int .i64 0],[AV.int .i64 0],[AV.int .i64 0],[AV.int .i64 0],[AV.int .i64 0],[AV.int .i64 0],[AV.int .i64 0],[AV.int .i64 0],[AV.int .i64 0],[AV.int .i64 0],[AV.int .i64 0],[AV.int .i64 0],[AV.int .i64 0],[AV.int .i64 0],[AV.int .i64 0],[AV.int .i64 0],[AV.int .i64 0]]=wS z24:=rfl
def qRe (k:Nat):Prop:=k=0∨k=1∨k=2∨k=3
def qHm (cds:List (List yK)) (n1:Nat) (cs cs':List (List wY)) (tr:List aP) (R:List (List AV)) (v x0:List Int):FP:=cP cds n1 cs cs' tr R v++[(3,some (1,wS x0),some (1,wS x0))]
theorem qU6 {cds:List (List yK)} {n1:Nat} {cs cs':List (List wY)} {tr:List aP} {R:List (List AV)} {v x0:List Int} (hR:okR qRe R):HB (vW (qHm cds n1 cs cs' tr R v x0)) 10:=by
 have:jU (· < 10) R:=qCm (fun n hn=>by rcases hn with rfl | rfl | rfl | rfl<;>decide) hR
 refine vY _ _ _ _ (vY _ _ _ _ (vY _ _ _ _ (vY _ _ _ _ ((mP _).2 trivial) (by decide) (by simp [jB])) (by decide) (by simp [jB])) (by decide) this) (by decide) ?_
 simp [jB,jU,vL,bnd]
theorem qJp (cds:List (List yK)) (n1:Nat) (cs:List (List wY)) (tr:List aP) (R:List (List AV)) (hR:okR qRe R) (view x0:List Int) (cell:Nat) (v:Int) (go:Bool) (hm:lR cs) (hv:VOk cs view) (hc:cell<24) :
  qU Tryz.prog num 378 [.ptr 0 0 2,.ns 2 0 view.length,.int .i64 cell,.int .i64 v,.bool go] (qHm cds n1 cs (store cs view cell v go).1 tr R view x0) (.sl .own 1 (wS (store cs view cell v go).2)):=by
 refine EH m378 Tryz.func206 (hh:=qU6 hR) ?_
 unfold m378
 have hcl:cell<cs.length:=by rw [hm.len]; exact hc
 have hvl:=hv.1
 have hvc:cell<view.length:=by omega
 have hlc:=hm.cell cell hc
 have hcg:=vG .own cs cell hcl
 have hst:store cs view cell v go=(cs.set cell (cs.getD cell []++[⟨v,if go then view.set cell ((cs.getD cell []).length:Int) else z24.set cell ((cs.getD cell []).length:Int)⟩]),view.set cell ((cs.getD cell []).length:Int)):=rfl
 rw [hst]
 have gt :∀r,((jT .own cs).set cell r).getD cell []=r:=fun r=>wH _ _ _ _ (by rw [yF]; exact hcl)
 generalize hcd:cs.getD cell []=c at *
 have gv:(view.set cell (c.length:Int)).getD cell 0=c.length:=wH _ _ _ _ hvc
 have g24:cell<z24.length:=by rw [gV]; exact hc
 have hvs:cell<(view.set cell (c.length:Int)).length:=by simpa using hvc
 have hi:=qI (view.set cell (c.length:Int)) cell hvs
 have hi2:=qI view cell hvc
 have hi3:=qI z24 cell g24
 simp only [go_sem,seval,qHm,cP]
 refine CA [] (eZ view (by omega)) ?_
 try simp only [go_sem,seval]
 repeat refine K ?_
 try simp only [go_sem,seval,hcg,gt,hi,hi2,cM,gV,hi3,gv]
 repeat refine K ?_
 cases go
 ·simp only [go_sem,seval,hcg,gt,hi,cM,gV,hi3,gv]
  repeat refine K ?_
  apply wF
  ·refine Sub.trans (Sub.foldLast 15 1 13 rfl (by simp [-gD]<;>omega) rfl (by decide) (by decide) rfl) ?_
   simp only [fS,fS2,qA,qC,aR,gV]
   refine Sub.trans (Sub.foldAt 11 0 15 rfl (by simp [-gD]<;>omega) rfl (by decide) (by decide) rfl (by simp<;>omega)) ?_
   simp only [fS,fS2,qA,qC,vR]
   refine Sub.trans (Sub.fold1 0 2 11 rfl (by simp [-gD]<;>omega) rfl (by decide) (by decide) rfl) ?_
   simp only [fS,fS2,qA,qC]
   exact Sub.refl _
  ·simp [-qZ8,-gD,qHm,cP]<;>(first | rfl | exact ⟨rfl,rfl⟩ | exact ⟨rfl,rfl,rfl⟩ | skip)
 simp only [go_sem,seval,hcg,gt,hi,cM,gV,hi3,gv]
 have hcp:=eZ (view.set cell (c.length:Int)) (by simp; omega)
 have htk :∀x:Int,(view.set cell x).take view.length=view.set cell x:=fun x=>qXx (by simp)
 clear hvl
 refine CA [] (hcp) ?_
 try simp only [go_sem,seval]
 repeat refine K ?_
 try simp only [go_sem,seval,hcg,gt,hi,cM,gV,hi3,gv]
 repeat refine K ?_
 apply wF
 ·refine Sub.trans (Sub.foldLast 16 1 14 rfl (by simp [-gD]<;>omega) rfl (by decide) (by decide) rfl) ?_
  simp only [fS,fS2,qA,qC,aR]
  refine Sub.trans (Sub.foldAt 11 0 16 rfl (by simp [-gD]<;>omega) rfl (by decide) (by decide) rfl (by simp<;>omega)) ?_
  simp only [fS,fS2,qA,qC,vR]
  refine Sub.trans (Sub.fold1 0 2 11 rfl (by simp [-gD]<;>omega) rfl (by decide) (by decide) rfl) ?_
  simp only [fS,fS2,qA,qC]
  exact Sub.refl _
 ·simp [-qZ8,-gD,qHm,cP]<;>(first | rfl | exact ⟨rfl,rfl⟩ | exact ⟨rfl,rfl,rfl⟩ | skip)
def qRd (k:Nat):Prop:=k=0∨k=1∨k=2∨k=3∨k=4
def qHl (cds:List (List yK)) (n1:Nat) (cs cs':List (List wY)) (tr:List aP) (R:List (List AV)) (v x0 x1:List Int):FP:=cP cds n1 cs cs' tr R v++[(3,some (1,wS x0),some (1,wS x0)),(4,some (1,wS x1),some (1,wS x1))]
theorem qU5 {cds:List (List yK)} {n1:Nat} {cs cs':List (List wY)} {tr:List aP} {R:List (List AV)} {v x0 x1:List Int} (hR:okR qRd R):HB (vW (qHl cds n1 cs cs' tr R v x0 x1)) 10:=by
 have:jU (· < 10) R:=qCm (fun n hn=>by rcases hn with rfl | rfl | rfl | rfl | rfl<;>decide) hR
 refine vY _ _ _ _ (vY _ _ _ _ (vY _ _ _ _ (vY _ _ _ _ (vY _ _ _ _ ((mP _).2 trivial) (by decide) (by simp [jB])) (by decide) (by simp [jB])) (by decide) (by simp [jB])) (by decide) this) (by decide) ?_
 simp [jB,jU,vL,bnd]
theorem qJo (cds:List (List yK)) (n1:Nat) (cs:List (List wY)) (tr:List aP) (R:List (List AV)) (hR:okR qRd R) (view x0 x1:List Int) (cell:Nat) (v:Int) (go:Bool) (hm:lR cs) (hv:VOk cs view) (hc:cell<24) :
  qU Tryz.prog num 378 [.ptr 0 0 2,.ns 2 0 view.length,.int .i64 cell,.int .i64 v,.bool go] (qHl cds n1 cs (store cs view cell v go).1 tr R view x0 x1) (.sl .own 1 (wS (store cs view cell v go).2)):=by
 refine EH m378 Tryz.func206 (hh:=qU5 hR) ?_
 unfold m378
 have hcl:cell<cs.length:=by rw [hm.len]; exact hc
 have hvl:=hv.1
 have hvc:cell<view.length:=by omega
 have hlc:=hm.cell cell hc
 have hcg:=vG .own cs cell hcl
 have hst:store cs view cell v go=(cs.set cell (cs.getD cell []++[⟨v,if go then view.set cell ((cs.getD cell []).length:Int) else z24.set cell ((cs.getD cell []).length:Int)⟩]),view.set cell ((cs.getD cell []).length:Int)):=rfl
 rw [hst]
 have gt :∀r,((jT .own cs).set cell r).getD cell []=r:=fun r=>wH _ _ _ _ (by rw [yF]; exact hcl)
 generalize hcd:cs.getD cell []=c at *
 have gv:(view.set cell (c.length:Int)).getD cell 0=c.length:=wH _ _ _ _ hvc
 have g24:cell<z24.length:=by rw [gV]; exact hc
 have hvs:cell<(view.set cell (c.length:Int)).length:=by simpa using hvc
 have hi:=qI (view.set cell (c.length:Int)) cell hvs
 have hi2:=qI view cell hvc
 have hi3:=qI z24 cell g24
 simp only [go_sem,seval,qHl,cP]
 refine CA [] (eZ view (by omega)) ?_
 try simp only [go_sem,seval]
 repeat refine K ?_
 try simp only [go_sem,seval,hcg,gt,hi,hi2,cM,gV,hi3,gv]
 repeat refine K ?_
 cases go
 ·simp only [go_sem,seval,hcg,gt,hi,cM,gV,hi3,gv]
  repeat refine K ?_
  apply wF
  ·refine Sub.trans (Sub.foldLast 15 1 13 rfl (by simp [-gD]<;>omega) rfl (by decide) (by decide) rfl) ?_
   simp only [fS,fS2,qA,qC,aR,gV]
   refine Sub.trans (Sub.foldAt 11 0 15 rfl (by simp [-gD]<;>omega) rfl (by decide) (by decide) rfl (by simp<;>omega)) ?_
   simp only [fS,fS2,qA,qC,vR]
   refine Sub.trans (Sub.fold1 0 2 11 rfl (by simp [-gD]<;>omega) rfl (by decide) (by decide) rfl) ?_
   simp only [fS,fS2,qA,qC]
   exact Sub.refl _
  ·simp [-qZ8,-gD,qHl,cP]<;>(first | rfl | exact ⟨rfl,rfl⟩ | exact ⟨rfl,rfl,rfl⟩ | skip)
 simp only [go_sem,seval,hcg,gt,hi,cM,gV,hi3,gv]
 have hcp:=eZ (view.set cell (c.length:Int)) (by simp; omega)
 have htk :∀x:Int,(view.set cell x).take view.length=view.set cell x:=fun x=>qXx (by simp)
 clear hvl
 refine CA [] (hcp) ?_
 try simp only [go_sem,seval]
 repeat refine K ?_
 try simp only [go_sem,seval,hcg,gt,hi,cM,gV,hi3,gv]
 repeat refine K ?_
 apply wF
 ·refine Sub.trans (Sub.foldLast 16 1 14 rfl (by simp [-gD]<;>omega) rfl (by decide) (by decide) rfl) ?_
  simp only [fS,fS2,qA,qC,aR]
  refine Sub.trans (Sub.foldAt 11 0 16 rfl (by simp [-gD]<;>omega) rfl (by decide) (by decide) rfl (by simp<;>omega)) ?_
  simp only [fS,fS2,qA,qC,vR]
  refine Sub.trans (Sub.fold1 0 2 11 rfl (by simp [-gD]<;>omega) rfl (by decide) (by decide) rfl) ?_
  simp only [fS,fS2,qA,qC]
  exact Sub.refl _
 ·simp [-qZ8,-gD,qHl,cP]<;>(first | rfl | exact ⟨rfl,rfl⟩ | exact ⟨rfl,rfl,rfl⟩ | skip)
end Go.Sep
