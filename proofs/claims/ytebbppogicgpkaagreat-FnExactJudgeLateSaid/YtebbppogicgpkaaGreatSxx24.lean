/- Contracts of functions. -/
import Derived.Test.YtebbppogicgpkaaGreatSxx23
namespace Go.Sep
set_option maxHeartbeats 16000000
open Go.Proofs
set_option linter.unusedSimpArgs false
set_option linter.unusedVariables false
set_option maxRecDepth 100000
open Nat renaming reduceAdd → qA, reduceMul → qB, reduceEqDiff → qC, reduceBEq → qD
open Int renaming reduceToNat → qE, reduceEq → qF, reduceLT → qG, reduceLE → qH
open List renaming getD_eq_getElem?_getD → gD
def m98:MFn:=⟨10,[.t 4],kr [xI 4 0] (.seq (kr [xv 5 0,xv 6 1,bT 7 .gtr 5 6] (kF 7 [xv 8 0,xv 4 8])) (kR [xv 9 1,xv 4 9]))⟩
def m368:MFn:=⟨14,[.t 4],kr [xF 4] (kR [xv 5 0,xk 6 5,xa 7 0 6,xl 8 7,xv 9 1,xD 10 1 8 9,xl 11 10,xe 12 11,bI 13 .lss 12 4000,xv 4 13])⟩
def m377:MFn:=⟨58,[.t 10,.t 11],kr [xI 10 0,xo 11 (.mv (.c (.nil)))] (kr [xv 16 0,xk 17 16,xa 18 0 17,xl 19 18,xv 20 2,xD 21 1 19 20,xl 22 21,xe 23 22,bI 24 .sub 23 1,xv 12 24] (kr [xv 25 12,xv 26 3,xo 27 (.mx (.t 26) (xi 0)),bT 28 .sub 25 27,xv 29 1,xv 30 2,xD 31 1 29 30,xl 32 31,xo 33 (.mx (.t 28) (.t 32)),xv 13 33] (kr [xv 34 1,xc1 35 36 (.t 34),xv 14 35] (kr [xv 36 14,xv 37 2,xv 38 13,xD 39 1 36 37,xS 1 39 38] (kr [xv 40 0,xk 41 40,xa 42 0 41,xl 43 42,xv 44 2,xD 45 1 43 44,xl 46 45,xv 47 13,xD 48 2 46 47,xm 49 2 48,xo 15 (.alloc [.int .i64 0,.nil]),xS 2 15 49] (.seq (kr [xv 50 4] (.cond 50 (xr [xv 51 14,xa 52 1 15,xl 53 52,xc2 54 382 (.t 51) (.t 53),xv 14 54]) (.skip))) (kR [xa 55 0 15,xl 56 55,xv 57 14,xv 10 56,xv 11 57])))))))⟩
def m378:MFn:=⟨56,[.t 10],kr [xo 10 (.mv (.c (.nil)))] (kr [xv 13 1,xc1 14 36 (.t 13),xv 11 14] (kr [xv 15 11,xv 16 2,xv 17 0,xk 18 17,xa 19 0 18,xl 20 19,xv 21 2,xD 22 1 20 21,xl 23 22,xe 24 23,xD 25 1 15 16,xS 1 25 24] (kr [xo 26 (.mkS [xz] 8 (xi 24) (xi 24)),xv 12 26] (kr [xv 27 12,xv 28 2,xv 29 11,xv 30 2,xD 31 1 29 30,xl 32 31,xD 33 1 27 28,xS 1 33 32] (.seq (kr [xv 34 4] (.cond 34 (xr [xv 35 11,xc1 36 36 (.t 35),xv 12 36]) (.skip))) (.seq (.dreg (.take 0 (xv 37 0) (.take 1 (xk 38 37) (.take 2 (xa 39 0 38) (.take 3 (xl 40 39) (.take 4 (xv 41 2) (.take 5 (xv 42 0) (.take 6 (xk 43 42) (.take 7 (xa 44 0 43) (.take 8 (xl 45 44) (.take 9 (xv 46 2) (.take 10 (xD 47 1 45 46) (.take 11 (xl 48 47) (.take 12 (xv 49 3) (.only 13 [] (xv 50 12) (.only 14 [12] (xo 51 (.build [.int .i64 0,.nil] [(0,1,.t 49),(1,1,.t 50)])) (.only 15 [14,12] (xo 52 (.mkSl [.int .i64 0,.nil] 1 [(0,.t 51)])) (.only 16 [11,15,10,14,8,9,12,7,6,5] (xA 53 2 32 48 52) (.only 17 [0,1,2,3,4,5,6,7,8,9,10,11,12] (xD 54 1 40 41) (.only 18 [0,1,2,3,4,5,6,7,8,9,10,11,12] (xS 1 54 53) (.done))))))))))))))))))))) (kR [xv 55 11,xv 10 55])))))))⟩
def m381:MFn:=⟨33,[.t 4],kr [xo 4 (.mv (.c (.nil)))] (kr [xo 7 (.mkSl [xz] 0 []),xv 5 7] (.seq (kr [xI 6 0] (.blk 0 (.loop (.seq (kr [xv 8 6,xv 9 0,xe 10 9,bT 11 .lss 8 10,xv 12 11,yv 13 6 12,yv 14 1 12,ye 15 14 12,xg 16 (.bin .lss (.t 13) (.t 15)) 12 true,xP 17 12 16] (kX 17 0)) (.seq (.blk 1 (.dreg (.take 0 (xv 20 5) (.take 1 (xv 21 0) (.take 2 (xv 22 6) (.take 3 (xD 23 1 21 22) (.take 4 (xl 24 23) (.take 5 (xv 25 1) (.only 6 [] (xv 26 6) (.only 7 [5] (xD 27 1 25 26) (.only 8 [7,5] (xl 28 27) (.only 9 [4,8,3,7,1,2,5] (xc2 29 98 (.t 24) (.t 28)) (.only 10 [9,4,8,3,7,1,2,5] (xo 30 (.mkSl [xz] 1 [(0,.t 29)])) (.only 11 [0,9,4,8,3,7,1,2,5] (xA 31 1 8 20 30) (.only 12 [0,1,2,3,4,5] (xv 5 31) (.done)))))))))))))))) (xr [xv 18 6,bI 19 .add 18 1,xv 6 19])))))) (kR [xv 32 5,xv 4 32])))⟩
def m382:MFn:=⟨33,[.t 4],kr [xo 4 (.mv (.c (.nil)))] (kr [xo 7 (.mkSl [xz] 0 []),xv 5 7] (.seq (kr [xI 6 0] (.blk 0 (.loop (.seq (kr [xv 8 6,xv 9 0,xe 10 9,bT 11 .lss 8 10,xv 12 11,yv 13 6 12,yv 14 1 12,ye 15 14 12,xg 16 (.bin .lss (.t 13) (.t 15)) 12 true,xP 17 12 16] (kX 17 0)) (.seq (.blk 1 (.dreg (.take 0 (xv 20 5) (.take 1 (xv 21 0) (.take 2 (xv 22 6) (.take 3 (xD 23 1 21 22) (.take 4 (xl 24 23) (.take 5 (xv 25 1) (.only 6 [] (xv 26 6) (.only 7 [5] (xD 27 1 25 26) (.only 8 [7,5] (xl 28 27) (.only 9 [4,8,3,7,1,2,5] (xo 29 (.mx (.t 24) (.t 28))) (.only 10 [9,4,8,3,7,1,2,5] (xo 30 (.mkSl [xz] 1 [(0,.t 29)])) (.only 11 [0,10,9,4,8,3,7,1,2,5] (xA 31 1 8 20 30) (.only 12 [0,1,2,3,4,5] (xv 5 31) (.done)))))))))))))))) (xr [xv 18 6,bI 19 .add 18 1,xv 6 19])))))) (kR [xv 32 5,xv 4 32])))⟩
theorem qGo {m:qO} (h:wP m=true):pB m≤4000000:=by
 have h:=(yO m).1 h
 have n4:=h.n4
 have hc:=h.cores
 have h1:nP qHt m.codes≤800*m.codes.length:=qCs (fun b hb=>by
  obtain ⟨i,hi,rfl⟩:=List.getElem_of_mem hb
  have hk:=(h.core i (by omega)).code
  have e:m.codes.getD i []=m.codes[i]:=by simp [List.getD_eq_getElem?_getD,hi]
  rw [e] at hk
  unfold bV at hk
  simp only [Bool.and_eq_true,qN] at hk
  have:=hk.1.1.2
  simp only [qHt]
  omega)
 have h2:nP qHu m.cores≤32*m.cores.length:=qCs (fun b hb=>by
  obtain ⟨i,hi,rfl⟩:=List.getElem_of_mem hb
  have hk:=h.core i hi
  have e:qJ m i=m.cores[i]:=by simp [qJ,List.getD_eq_getElem?_getD,hi]
  have k1:=hk.regs
  have k2:=hk.view.1
  rw [e] at k1 k2
  simp only [qHu]
  omega)
 have h3:nP rJ m.mem.cells≤100000*m.mem.cells.length:=qCs (fun b hb=>by
  obtain ⟨i,hi,rfl⟩:=List.getElem_of_mem hb
  have hl:=h.mem.len
  have hk:=(h.mem.cell i (by omega)).2
  have hv:=h.mem.view i (by omega)
  have e:m.mem.cells.getD i []=m.mem.cells[i]:=by simp [List.getD_eq_getElem?_getD,hi]
  rw [e] at hk hv
  have:nP qHs m.mem.cells[i]≤24*m.mem.cells[i].length:=qCs (fun w hw=>by
   have:=(hv w hw).1
   simp only [qHs]
   omega)
  simp only [rJ]
  omega)
 have h4:=h.tr
 unfold bY at h4
 simp only [Bool.and_eq_true,decide_eq_true_eq] at h4
 have h5:=h.mem.len
 unfold pB wB2
 omega
def aV:qO→List vD→qO
 | m,[]=>m
 | m,x::l=>aV (wZ m x).1 l
theorem qN0 :∀(m:qO) (l:List vD) (x:vD),aV m (l++[x])=(wZ (aV m l) x).1
 | _,[],_=>rfl
 | m,y::l,x=>by simp only [List.cons_append,aV,qN0 _ l x]
theorem qDl :∀{m:qO} (l:List vD),wP m=true→wP (aV m l)=true
 | _,[],h=>h
 | _,x::l,h=>qDl l (aA x h)
theorem wAe (m:qO) (i:Nat) (late:Int):(mdo m i late).cores.length=m.cores.length∧(mdo m i late).codes=m.codes:=by
 unfold mdo fF stop jM
 repeat' (first | split | (simp only; split))
 all_goals simp
theorem iZ (m:qO) (x:vD):(wZ m x).1.cores.length=m.cores.length∧(wZ m x).1.codes=m.codes:=by
 unfold wZ
 split
 ·exact wAe _ _ _
 ·exact ⟨rfl,rfl⟩
theorem qQr :∀(m:qO) (l:List vD),(aV m l).cores.length=m.cores.length∧(aV m l).codes=m.codes
 | _,[]=>⟨rfl,rfl⟩
 | m,x::l=>by
  have h1:=iZ m x
  have h2:=qQr (wZ m x).1 l
  exact ⟨by rw [aV,h2.1,h1.1],by rw [aV,h2.2,h1.2]⟩
theorem qJb {m:qO} {x:vD} (h:(wZ m x).2≠0):(wZ m x).1=m:=by
 unfold wZ at h⊢
 split
 ·rename_i hc
  rw [if_pos hc] at h
  exact absurd rfl h
 ·rfl
theorem CAN {P:Program} {num:Nat→Nat} {fin:AS→Prop} {f nx:Nat} {ps:List Bool} {xs:List Arg} {t:List (Nat×AV)} {h:yD} {fp:FP} {res:AV} {vargs:List AV} {dst:Option Nat} {k:List It} (σ:List (Nat×Nat)) (hc:qW P num f vargs fp res)
  (hk:vc P num fin k (.mk (dE t dst (yJ nx (jQ (rnm σ) res)).1) (zY h (fp.map (fun x=>(rnm σ x.1,aU (rnm σ) x.2.1,aU (rnm σ) x.2.2))++fresh (yJ nx (jQ (rnm σ) res)).2.1)) (yJ nx (jQ (rnm σ) res)).2.2))
  (hv:qU (iI (ixm σ) h ps (xs.map (Arg.ev (wL t)))) vargs:=by first | omega | (simp [qU,qV]; done) | (simp [qU,qV, *]; done))
  (hvo:gP h (fun n =>∃x∈fp,x.2.1≠none∧n=rnm σ x.1∧ixm σ n=x.1) (fun n =>∃x∈fp,n=rnm σ x.1) ps (xs.map (Arg.ev (wL t))):=by first | omega | (simp [qU,qV]; done) | (simp [qU,qV, *]; done))
  (hnd:(fp.map (fun x=>rnm σ x.1)).Nodup:=by first | (simp [qU,qV]; done) | (simp [qU,qV, *]; done))
  (hpre :∀x∈fp,qY h (rnm σ x.1)=aU (rnm σ) x.2.1∧(x.2.1=none→nx≤rnm σ x.1)∧rnm σ x.1<nx:=by first | (simp [qU,qV]; done) | (simp [qU,qV, *]; done))
  (hnb :∀x∈fp,(∀r,x.2.1=some r→okR (fun k =>∃y∈fp,y.1=k∧y.2.1≠none) r.2)∧(∀r,x.2.2=some r→okR (fun k =>∃y∈fp,y.1=k∧y.2.2≠none) r.2):=by first | (simp [qU,qV]; done) | (simp [qU,qV, *]; done))
  (hres:okV (fun k =>∃x∈fp,x.1=k∧x.2.2≠none) res:=by first | (simp [qU,qV]; done) | (simp [qU,qV, *]; done)):rC P num fin (.call f ps xs) dst k (.mk t h nx) :=
 hX (qNl σ hc hv hvo hnd hpre hnb hres) hk
theorem DAN {P:Program} {num:Nat→Nat} {fin:AS→Prop} {f nx:Nat} {ps:List Bool} {xs:List Arg} {t:List (Nat×AV)} {h:yD} {fp:FP} {res:AV} {vargs:List AV} {pend:List (Nat×List Nat)} {dst:Option Nat} {tr:gI} {k:List It} (σ:List (Nat×Nat)) (hc:qW P num f vargs fp res)
  (hk:vc P num fin (.draw tr pend::k) (.mk (dE t dst (yJ nx (jQ (rnm σ) res)).1) (zY h (fp.map (fun x=>(rnm σ x.1,aU (rnm σ) x.2.1,aU (rnm σ) x.2.2))++fresh (yJ nx (jQ (rnm σ) res)).2.1)) (yJ nx (jQ (rnm σ) res)).2.2))
  (hv:qU (iI (ixm σ) h ps (xs.map (Arg.ev (wL t)))) vargs:=by first | omega | (simp [qU,qV]; done) | (simp [qU,qV, *]; done))
  (hvo:gP h (fun n =>∃x∈fp,x.2.1≠none∧n=rnm σ x.1∧ixm σ n=x.1) (fun n =>∃x∈fp,n=rnm σ x.1) ps (xs.map (Arg.ev (wL t))):=by first | omega | (simp [qU,qV]; done) | (simp [qU,qV, *]; done))
  (hnd:(fp.map (fun x=>rnm σ x.1)).Nodup:=by first | (simp [qU,qV]; done) | (simp [qU,qV, *]; done))
  (hpre :∀x∈fp,qY h (rnm σ x.1)=aU (rnm σ) x.2.1∧(x.2.1=none→nx≤rnm σ x.1)∧rnm σ x.1<nx:=by first | (simp [qU,qV]; done) | (simp [qU,qV, *]; done))
  (hnb :∀x∈fp,(∀r,x.2.1=some r→okR (fun k =>∃y∈fp,y.1=k∧y.2.1≠none) r.2)∧(∀r,x.2.2=some r→okR (fun k =>∃y∈fp,y.1=k∧y.2.2≠none) r.2):=by first | (simp [qU,qV]; done) | (simp [qU,qV, *]; done))
  (hres:okV (fun k =>∃x∈fp,x.1=k∧x.2.2≠none) res:=by first | (simp [qU,qV]; done) | (simp [qU,qV, *]; done))
  (ha:apart pend (fp.map (fun x=>(rnm σ x.1,aU (rnm σ) x.2.1,aU (rnm σ) x.2.2))++fresh (yJ nx (jQ (rnm σ) res)).2.1):=by first | (simp [qU,qV]; done) | (simp [qU,qV, *]; done)):qRp P num fin (.call f ps xs) pend dst tr k t h nx :=
 qAk (qNl σ hc hv hvo hnd hpre hnb hres) ha hk
mutual
theorem wA8 :∀(v:AV),jQ id v=v
 | .ptr ..=>rfl
 | .ns ..=>rfl
 | .agg cs=>by simp only [jQ,qHj cs]
 | .tup cs=>by simp only [jQ,qHj cs]
 | .any | .int _ _ | .bool _ | .str _ | .fn _ _ | .nilp | .fptr _ _ _ | .nil | .nilI | .ifc | .sl _ _ _=>by simp only [jQ]
theorem qHj :∀(l:List AV),xE id l=l
 | []=>rfl
 | c::cs=>by simp only [xE,wA8 c,qHj cs]
end
theorem qDf {A B:Nat→Prop} (hf :∀n,A n→B n) {l:List (List AV)} (h:okR A l):jT B l:=by
 have e :∀(l:List (List AV)),aN id l=l:=fun l=>by
  induction l with
  | nil=>rfl
  | cons r l ih =>
   have hL :∀(r:List AV),xE id r=r:=fun r=>qHj r
   simp only [aN,hL,ih]
 have:=qIq (f:=id) (B:=B) hf l h
 rwa [e] at this
mutual
theorem qYj {A B:Nat→Prop} (hf :∀n,A n→B n) :∀(v:AV),okV A v→okV B v
 | .ptr nm _ _,h=>hf nm h
 | .ns nm _ _,h=>hf nm h
 | .agg cs,h=>by simp only [okV] at h⊢; exact qDg hf cs h
 | .tup cs,h=>by simp only [okV] at h⊢; exact qDg hf cs h
 | .any,_=>trivial
 | .int _ _,h | .bool _,h | .str _,h | .fn _ _,h | .nilp,h | .fptr _ _ _,h | .nil,h | .nilI,h | .ifc,h | .sl _ _ _,h=>by simpa only [okV] using h
theorem qDg {A B:Nat→Prop} (hf :∀n,A n→B n) :∀(l:List AV),okL A l→okL B l
 | [],_=>trivial
 | c::cs,h=>⟨qYj hf c h.1,qDg hf cs h.2⟩
end
theorem qDe {A B:Nat→Prop} (hf :∀n,A n→B n) :∀{l:List (List AV)},okR A l→okR B l
 | [],_=>trivial
 | r::l,h=>⟨qDg hf r h.1,qDe hf h.2⟩
theorem qNc (f:Nat→Nat) (l:List uS):aN f (cores .own l)=cores .own l:=kN f _ ((lH l).2 trivial)
theorem qX7 {A:Nat→Prop} (l:List uS):okR A (cores .own l)↔True:=by simp [fD _ ((lH l).2 trivial)]
theorem qBa {A:Nat→Prop} (l:List uS) (i:Nat) (r:List AV) (h:okL A r):okR A ((cores .own l).set i r):=qDd _ _ _ (fD _ ((lH l).2 trivial)) h
theorem qRt (f:Nat→Nat) (l:List (List wY)):aN f (jC .own l)=jC .own l:=kN f _ ((sR l).2 trivial)
theorem qZh {A:Nat→Prop} (l:List (List wY)):okR A (jC .own l)↔True:=by simp [fD _ ((sR l).2 trivial)]
theorem rB {A:Nat→Prop} (l:List (List wY)) (i:Nat) (r:List AV) (h:okL A r):okR A ((jC .own l).set i r):=qDd _ _ _ (fD _ ((sR l).2 trivial)) h
theorem qNf (f:Nat→Nat) (l:List (List yK)):aN f (codes .own l)=codes .own l:=kN f _ ((iL l).2 trivial)
theorem qXb {A:Nat→Prop} (l:List (List yK)):okR A (codes .own l)↔True:=by simp [fD _ ((iL l).2 trivial)]
theorem qNg {A:Nat→Prop} (l:List (List yK)) (i:Nat) (r:List AV) (h:okL A r):okR A ((codes .own l).set i r):=qDd _ _ _ (fD _ ((iL l).2 trivial)) h
theorem qHv (f:Nat→Nat) (l:List wY):aN f (yX .own l)=yX .own l:=kN f _ ((fY l).2 trivial)
theorem qSa {A:Nat→Prop} (l:List wY):okR A (yX .own l)↔True:=by simp [fD _ ((fY l).2 trivial)]
theorem qS9 {A:Nat→Prop} (l:List wY) (i:Nat) (r:List AV) (h:okL A r):okR A ((yX .own l).set i r):=qDd _ _ _ (fD _ ((fY l).2 trivial)) h
theorem qR8 (f:Nat→Nat) (l:List Int):aN f (wN l)=wN l:=kN f _ ((bR l).2 trivial)
theorem qZ0 {A:Nat→Prop} (l:List Int):okR A (wN l)↔True:=by simp [fD _ ((bR l).2 trivial)]
attribute [go_sem] aU aN qIp qNc qRt qNf qHv qR8
attribute [simp] aU aN qIp qNc qRt qNf qHv qR8 okR qX7 qZh qXb qSa qZ0 qBa rB qNg qS9
theorem F1 (nm f k:Nat) {off:Nat} {t:List (Nat×AV)} {h:yD} {nx sz sz' len:Nat} {rows':List (List AV)} {r:List AV} {s':AS} (hr:Sub (.mk t (del (put h nm (sz,[r.set f (.sl .own sz' (aK off len rows'))])) k) nx) s')
  (hk:qY h k=some (sz',rows'):=by rfl) (hnm:qY h nm=some (sz,[r]):=by rfl) (hne:k≠nm:=by decide) (hk10:10≤k:=by decide)
  (hf:r[f]?=some (.ns k off len):=by rfl) (hlen:off+len≤rows'.length:=by (simp [-List.getD_eq_getElem?_getD]<;>omega)):Sub (.mk t h nx) s':=Sub.trans (Sub.fold1 nm f k hk hlen hnm hne hk10 hf) hr
theorem FA (nm f k:Nat) {off i:Nat} {t:List (Nat×AV)} {h:yD} {nx sz sz' len:Nat} {l rows':List (List AV)} {r:List AV} {s':AS} (hr:Sub (.mk t (del (put h nm (sz,l.set i (r.set f (.sl .own sz' (aK off len rows'))))) k) nx) s')
  (hk:qY h k=some (sz',rows'):=by rfl) (hnm:qY h nm=some (sz,l.set i r):=by rfl) (hne:k≠nm:=by decide) (hk10:10≤k:=by decide)
  (hf:r[f]?=some (.ns k off len):=by rfl) (hlen:off+len≤rows'.length:=by (simp [-List.getD_eq_getElem?_getD]<;>omega)) (hi:i<l.length:=by (simp<;>omega)):Sub (.mk t h nx) s':=Sub.trans (Sub.foldAt nm f k hk hlen hnm hne hk10 hf hi) hr
theorem qR6 :∀(a b:List Int) (x y:Int),a.length=b.length→join (a++[x]) (b++[y])=join a b++[max x y]
 | [],[],_,_,_=>rfl
 | [],_::_,_,_,h=>by simp at h
 | _::_,[],_,_,h=>by simp at h
 | a::l,b::k,x,y,h=>by simp only [List.cons_append,join,qR6 l k x y (by simpa using h)]
theorem qN4 (a b:List Int) (i:Nat) (ha:i<a.length) (hb:i<b.length):join (a.take (i+1)) (b.take (i+1))=join (a.take i) (b.take i)++[max (a.getD i 0) (b.getD i 0)]:=by
 rw [bO a 0 i ha,bO b 0 i hb,qR6 _ _ _ _ (by simp; omega)]
theorem qJl :∀(a b:List Int),(join a b).length=min a.length b.length
 | [],_=>by simp [join]
 | _::_,[]=>by simp [join]
 | a::l,b::k=>by simp only [join,List.length_cons,qJl l k]; omega
theorem qA8 :∀(a b:List Int) (i:Nat),a.length≤i∨b.length≤i→join (a.take i) (b.take i)=join a b
 | [],_,_,_=>by simp [join]
 | _::_,[],_,_=>by simp [join]
 | a::l,b::k,0,h=>by simp at h
 | a::l,b::k,i+1,h=>by simp only [List.take_succ_cons,join,qA8 l k i (by simpa using h)]
theorem qB5 (a b:Int):qW Tryz.prog num 98 [.int .i64 a,.int .i64 b] [] (.int .i64 (max a b)):=by
 refine EN m98 Tryz.func133 ?_
 unfold m98
 by_cases h:b<a
 ·simp only [go_sem,seval,h]
  refine fz ?_; simp [qZ,qU,qV,qQ,-List.drop_one]
  omega
 ·simp only [go_sem,seval,h]
  refine fz ?_; simp [qZ,qU,qV,qQ,-List.drop_one]
  omega
theorem qSw (x y:Int):(if y>x then y else x)=max x y:=by split<;>omega
theorem qRc (a b:List Int) (h1:a.length<2^40):qW Tryz.prog num 382 [.sl .bw 1 (wN a),.sl .bw 1 (wN b)] [] (.sl .own 1 (wN (join a b))):=by
 refine EN m382 Tryz.func228 ?_
 unfold m382
 simp only [go_sem,seval]
 refine qX (ι:=Nat) (fun i=>.mk [(0,.sl .bw 1 (wN a)),(1,.sl .bw 1 (wN b)),(5,.ns 10 0 i),(6,.int .i64 i)] [(10,1,wN (join (a.take i) (b.take i)))] 11) (fun i=>i≤a.length∧i≤b.length) (fun i=>a.length-i) 0 (by simp) ?_ ?_
 ·refine Sub.shape [] id (by omega) ?_ ?_ ?_ ?_<;>simp [qK]
  all_goals simp [join,wN]
 ·rintro i ⟨hi,hj⟩
  have hlt:(join (a.take i) (b.take i)).length=i:=by rw [qJl]; simp; omega
  by_cases hc1:(i:Int)<a.length
  case neg =>
   have hd:join (a.take i) (b.take i)=join a b:=qA8 a b i (by omega)
   simp only [go_sem,seval,hc1,hlt]
   refine fz ?_; simp [qZ,qU,qV,qQ,-List.drop_one]
   rw [hd] at hlt⊢
   simp [hlt]
  by_cases hc2:(i:Int)<b.length
  case neg =>
   have hd:join (a.take i) (b.take i)=join a b:=qA8 a b i (by omega)
   simp only [go_sem,seval,hc1,hc2,hlt]
   refine fz ?_; simp [qZ,qU,qV,qQ,-List.drop_one]
   rw [hd] at hlt⊢
   simp [hlt]
  have g1:i<a.length:=by omega
  have g2:i<b.length:=by omega
  simp only [go_sem,seval,hc1,hc2,hlt,qSw,qI a i g1,qI b i g2,qS (i:=i) (by omega)]
  repeat refine K ?_
  have hn:=qN4 a b i g1 g2
  refine qT (i+1) ?_ ⟨g1,g2⟩ (by omega)
  rw [hn]
  refine Sub.shape [] (fun n=>if n=10 then 12 else n) (by omega) ?_ ?_ ?_ ?_<;>simp [qK]
  exact .inl (by simp [wN])
theorem qQ0 (a b:List Int) (h1:a.length<2^40):qW Tryz.prog num 381 [.sl .bw 1 (wN a),.sl .bw 1 (wN b)] [] (.sl .own 1 (wN (join a b))):=by
 refine EN m381 Tryz.func214 ?_
 unfold m381
 simp only [go_sem,seval]
 refine qX (ι:=Nat) (fun i=>.mk [(0,.sl .bw 1 (wN a)),(1,.sl .bw 1 (wN b)),(5,.ns 10 0 i),(6,.int .i64 i)] [(10,1,wN (join (a.take i) (b.take i)))] 11) (fun i=>i≤a.length∧i≤b.length) (fun i=>a.length-i) 0 (by simp) ?_ ?_
 ·refine Sub.shape [] id (by omega) ?_ ?_ ?_ ?_<;>simp [qK]
  all_goals simp [join,wN]
 ·rintro i ⟨hi,hj⟩
  have hlt:(join (a.take i) (b.take i)).length=i:=by rw [qJl]; simp; omega
  by_cases hc1:(i:Int)<a.length
  case neg =>
   have hd:join (a.take i) (b.take i)=join a b:=qA8 a b i (by omega)
   simp only [go_sem,seval,hc1,hlt]
   refine fz ?_; simp [qZ,qU,qV,qQ,-List.drop_one]
   rw [hd] at hlt⊢
   simp [hlt]
  by_cases hc2:(i:Int)<b.length
  case neg =>
   have hd:join (a.take i) (b.take i)=join a b:=qA8 a b i (by omega)
   simp only [go_sem,seval,hc1,hc2,hlt]
   refine fz ?_; simp [qZ,qU,qV,qQ,-List.drop_one]
   rw [hd] at hlt⊢
   simp [hlt]
  have g1:i<a.length:=by omega
  have g2:i<b.length:=by omega
  simp only [go_sem,seval,hc1,hc2,hlt,qSw,qI a i g1,qI b i g2,qS (i:=i) (by omega)]
  repeat refine K ?_
  refine DA [] (qB5 (a.getD i 0) (b.getD i 0)) ?_
  try simp only [go_sem,seval]
  repeat refine K ?_
  try simp only [go_sem,seval,hlt,qS (i:=i) (by omega)]
  have hn:=qN4 a b i g1 g2
  refine qT (i+1) ?_ ⟨g1,g2⟩ (by omega)
  rw [hn]
  refine Sub.shape [] (fun n=>if n=10 then 12 else n) (by omega) ?_ ?_ ?_ ?_<;>simp [qK]
  exact .inl (by simp [wN])
def qQm (k:Nat):Prop:=k=0∨k=1∨k=2
def fE (cds:List (List yK)) (n1:Nat) (cs cs':List (List wY)) (tr:List xJ) (R:List (List AV)) (v:List Int):FP :=
 [(0,some (4,[[.sl .own 1 (codes .own cds),.ns 1 0 n1,.sl .own 1 (jC .own cs),.sl .own 2 (jK tr)]]),some (4,[[.sl .own 1 (codes .own cds),.ns 1 0 n1,.sl .own 1 (jC .own cs'),.sl .own 2 (jK tr)]])),
  (1,some (4,R),some (4,R)),(2,some (1,wN v),some (1,wN v))]
theorem wAd {cds:List (List yK)} {n1:Nat} {cs cs':List (List wY)} {tr:List xJ} {R:List (List AV)} {v:List Int} (hR:okR qQm R):HB (vG (fE cds n1 cs cs' tr R v)) 10:=by
 have:jT (· < 10) R:=qDf (fun n hn=>by rcases hn with rfl | rfl | rfl<;>decide) hR
 refine uJ _ _ _ _ (uJ _ _ _ _ (uJ _ _ _ _ ((oZ _).2 trivial) (by decide) (by simp [yT])) (by decide) this) (by decide) ?_
 simp [yT,jT,vK,bnd]
theorem qGr (cds:List (List yK)) (n1:Nat) (cs:List (List wY)) (tr:List xJ) (R:List (List AV)) (hR:okR qQm R) (view:List Int) (cell:Nat) (late:Int) (hold:Bool) (hm:nM cs) (hv:VOk cs view) (hc:cell<24) (hl:-(2^63)≤late∧late<2^63) :
  qW Tryz.prog num 377 [.ptr 0 0 2,.ns 2 0 view.length,.int .i64 cell,.int .i64 late,.bool hold] (fE cds n1 cs cs tr R view) (.tup [.int .i64 (load cs view cell late hold).1,.sl .own 1 (wN (load cs view cell late hold).2)]):=by
 refine EH m377 Tryz.func205 (hh:=wAd hR) ?_
 unfold m377
 have hcl:cell<cs.length:=by rw [hm.len]; exact hc
 have hvl:=hv.1
 have hvc:cell<view.length:=by omega
 have hlc:=hm.cell cell hc
 have hv2:=hv.2 cell hc
 have hat:=qOv (late:=late) hv hc
 have hcg:=vE .own cs cell hcl
 generalize hcd:cs.getD cell []=c at *
 have w1:IntKind.i64.wrap ((c.length:Int)-1)=c.length-1:=wJ (by omega) (by omega)
 have w2:IntKind.i64.wrap ((c.length:Int)-1-max late 0)=c.length-1-max late 0:=wJ (by omega) (by omega)
 have hwl :∀i,i<c.length→(c.getD i default).view.length=24:=fun i hi=>(hm.view cell hc _ (by rw [hcd]; exact wU c i default hi)).1
 simp only [go_sem,seval,fE,hcg,w1,w2,qSw,qI view cell hvc]
 repeat refine K ?_
 have he:max ((c.length:Int)-1-max late 0) (view.getD cell 0)=qDq cs view cell late:=by unfold qDq; rw [hcd]
 generalize hla:qDq cs view cell late=at_ at *
 obtain ⟨a,rfl⟩:=Int.eq_ofNat_of_zero_le hat.1
 have ha:a<c.length:=by omega
 have hwg:=eY .own c a ha
 have hwa:=hwl a ha
 refine CA [] (zJ view (by omega)) ?_
 try simp only [go_sem,seval]
 repeat refine K ?_
 have gt :∀r,((jC .own cs).set cell r).getD cell []=r:=fun r=>wF _ _ _ _ (by rw [yF]; exact hcl)
 have gw :∀r,((yX .own c).set a r).getD a []=r:=fun r=>wF _ _ _ _ (by rw [fI]; exact ha)
 try simp only [go_sem,seval,hcg,he,hwg,gt,gw,qI view cell hvc]
 repeat refine K ?_
 have hself:(yX .own c).set a [.int .i64 (c.getD a default).v,.sl .own 1 (wN (c.getD a default).view)]=yX .own c:=by rw [←hwg,wR _ _ _ (by rw [fI]; exact ha)]
 have hselfc:(jC .own cs).set cell [.sl .own 2 (yX .own c)]=jC .own cs:=by rw [←hcg,wR _ _ _ (by rw [yF]; exact hcl)]
 have hld:load cs view cell late hold=((c.getD a default).v,if hold then join (view.set cell a) (c.getD a default).view else view.set cell a):=by
  rw [qOu,hcd,hla]
  rfl
 rw [hld]
 cases hold
 ·simp only [go_sem,seval,hcg,hwg,gt,gw]
  apply wS (by simp)
  ·refine Sub.trans (Sub.foldAt 11 1 13 rfl (by simp [-gD]<;>omega) rfl (by decide) (by decide) rfl (by simp<;>omega)) ?_
   simp only [fS,fS2,qA,qC,hself]
   refine Sub.trans (Sub.foldAt 10 0 11 rfl (by simp [-gD]<;>omega) rfl (by decide) (by decide) rfl (by simp<;>omega)) ?_
   simp only [fS,fS2,qA,qC,hselfc]
   refine Sub.trans (Sub.fold1 0 2 10 rfl (by simp [-gD]<;>omega) rfl (by decide) (by decide) rfl) ?_
   simp only [fS,fS2,qA,qC]
   exact Sub.refl _
  ·simp [-List.drop_one,-gD,fE]<;>(first | rfl | exact ⟨rfl,rfl⟩ | exact ⟨rfl,rfl,rfl⟩ | skip)
 simp only [go_sem,seval,hcg,hwg,gt,gw]
 have hj:=qRc (view.set cell a) (c.getD a default).view (by simp; omega)
 have htk :∀x:Int,(view.set cell x).take view.length=view.set cell x:=fun x=>List.take_of_length_le (by simp)
 clear hvl hwa
 refine CA [] (hj) ?_
 try simp only [go_sem,seval]
 apply wS (by simp)
 ·refine Sub.trans (Sub.foldAt 11 1 13 rfl (by simp [-gD]<;>omega) rfl (by decide) (by decide) rfl (by simp<;>omega)) ?_
  simp only [fS,fS2,qA,qC,hself]
  refine Sub.trans (Sub.foldAt 10 0 11 rfl (by simp [-gD]<;>omega) rfl (by decide) (by decide) rfl (by simp<;>omega)) ?_
  simp only [fS,fS2,qA,qC,hselfc]
  refine Sub.trans (Sub.fold1 0 2 10 rfl (by simp [-gD]<;>omega) rfl (by decide) (by decide) rfl) ?_
  simp only [fS,fS2,qA,qC]
  exact Sub.refl _
 ·simp [-List.drop_one,-gD,fE]<;>(first | rfl | exact ⟨rfl,rfl⟩ | exact ⟨rfl,rfl,rfl⟩ | skip)
theorem aW (c:List wY) (v:Int) (l:List Int):yX .own c++[[.int .i64 v,.sl .own 1 (wN l)]]=yX .own (c++[⟨v,l⟩]):=by simp [yX,mM]
theorem qCg (cds:List (List yK)) (n1:Nat) (cs:List (List wY)) (tr:List xJ) (R:List (List AV)) (hR:okR qQm R) (cell:Nat) (hc:cell<cs.length) :
  qW Tryz.prog num 368 [.ptr 0 0 2,.int .i64 cell] [(0,some (4,[[.sl .own 1 (codes .own cds),.ns 1 0 n1,.sl .own 1 (jC .own cs),.sl .own 2 (jK tr)]]),some (4,[[.sl .own 1 (codes .own cds),.ns 1 0 n1,.sl .own 1 (jC .own cs),.sl .own 2 (jK tr)]])),(1,some (4,R),some (4,R))] (.bool (decide (((cs.getD cell []).length:Int)<4000))):=by
 have hb:jT (· < 10) R:=qDf (fun n hn=>by rcases hn with rfl | rfl | rfl<;>decide) hR
 refine EH m368 Tryz.func177 (hh:=uJ _ _ _ _ (uJ _ _ _ _ ((oZ _).2 trivial) (by decide) hb) (by decide) (by simp [yT,jT,vK,bnd])) ?_
 unfold m368
 have hcg:=vE .own cs cell hc
 have hselfc:(jC .own cs).set cell [.sl .own 2 (yX .own (cs.getD cell []))]=jC .own cs:=by rw [←hcg,wR _ _ _ (by rw [yF]; exact hc)]
 simp only [go_sem,seval,hcg]
 repeat refine K ?_
 apply wE
 ·refine Sub.trans (Sub.foldAt 10 0 11 rfl (by simp [-gD]<;>omega) rfl (by decide) (by decide) rfl (by simp<;>omega)) ?_
  simp only [fS,fS2,qA,qC,hselfc]
  refine Sub.trans (Sub.fold1 0 2 10 rfl (by simp [-gD]<;>omega) rfl (by decide) (by decide) rfl) ?_
  simp only [fS,fS2,qA,qC]
  exact Sub.refl _
 ·simp [-List.drop_one,-gD,gU]<;>(first | rfl | exact ⟨rfl,rfl⟩ | exact ⟨rfl,rfl,rfl⟩ | skip)
def z24:List Int:=List.replicate 24 0
@[simp] theorem gR:z24.length=24:=rfl
theorem fB:[[AV.int .i64 0],[AV.int .i64 0],[AV.int .i64 0],[AV.int .i64 0],[AV.int .i64 0],[AV.int .i64 0],[AV.int .i64 0],[AV.int .i64 0],[AV.int .i64 0],[AV.int .i64 0],[AV.int .i64 0],[AV.int .i64 0],[AV.int .i64 0],[AV.int .i64 0],[AV.int .i64 0],[AV.int .i64 0],[AV.int .i64 0],[AV.int .i64 0],[AV.int .i64 0],[AV.int .i64 0],[AV.int .i64 0],[AV.int .i64 0],[AV.int .i64 0],[AV.int .i64 0]]=wN z24:=rfl
def qV4 (k:Nat):Prop:=k=0∨k=1∨k=2∨k=3
def qJe (cds:List (List yK)) (n1:Nat) (cs cs':List (List wY)) (tr:List xJ) (R:List (List AV)) (v x0:List Int):FP:=fE cds n1 cs cs' tr R v++[(3,some (1,wN x0),some (1,wN x0))]
theorem qYt {cds:List (List yK)} {n1:Nat} {cs cs':List (List wY)} {tr:List xJ} {R:List (List AV)} {v x0:List Int} (hR:okR qV4 R):HB (vG (qJe cds n1 cs cs' tr R v x0)) 10:=by
 have:jT (· < 10) R:=qDf (fun n hn=>by rcases hn with rfl | rfl | rfl | rfl<;>decide) hR
 refine uJ _ _ _ _ (uJ _ _ _ _ (uJ _ _ _ _ (uJ _ _ _ _ ((oZ _).2 trivial) (by decide) (by simp [yT])) (by decide) (by simp [yT])) (by decide) this) (by decide) ?_
 simp [yT,jT,vK,bnd]
theorem qLz (cds:List (List yK)) (n1:Nat) (cs:List (List wY)) (tr:List xJ) (R:List (List AV)) (hR:okR qV4 R) (view x0:List Int) (cell:Nat) (v:Int) (go:Bool) (hm:nM cs) (hv:VOk cs view) (hc:cell<24) :
  qW Tryz.prog num 378 [.ptr 0 0 2,.ns 2 0 view.length,.int .i64 cell,.int .i64 v,.bool go] (qJe cds n1 cs (store cs view cell v go).1 tr R view x0) (.sl .own 1 (wN (store cs view cell v go).2)):=by
 refine EH m378 Tryz.func206 (hh:=qYt hR) ?_
 unfold m378
 have hcl:cell<cs.length:=by rw [hm.len]; exact hc
 have hvl:=hv.1
 have hvc:cell<view.length:=by omega
 have hlc:=hm.cell cell hc
 have hcg:=vE .own cs cell hcl
 have hst:store cs view cell v go=(cs.set cell (cs.getD cell []++[⟨v,if go then view.set cell ((cs.getD cell []).length:Int) else z24.set cell ((cs.getD cell []).length:Int)⟩]),view.set cell ((cs.getD cell []).length:Int)):=rfl
 rw [hst]
 have gt :∀r,((jC .own cs).set cell r).getD cell []=r:=fun r=>wF _ _ _ _ (by rw [yF]; exact hcl)
 generalize hcd:cs.getD cell []=c at *
 have gv:(view.set cell (c.length:Int)).getD cell 0=c.length:=wF _ _ _ _ hvc
 have g24:cell<z24.length:=by rw [gR]; exact hc
 have hvs:cell<(view.set cell (c.length:Int)).length:=by simpa using hvc
 have hi:=qI (view.set cell (c.length:Int)) cell hvs
 have hi2:=qI view cell hvc
 have hi3:=qI z24 cell g24
 simp only [go_sem,seval,qJe,fE]
 refine CA [] (zJ view (by omega)) ?_
 try simp only [go_sem,seval]
 repeat refine K ?_
 try simp only [go_sem,seval,hcg,gt,hi,hi2,fB,gR,hi3,gv]
 repeat refine K ?_
 cases go
 ·simp only [go_sem,seval,hcg,gt,hi,fB,gR,hi3,gv]
  repeat refine K ?_
  apply wE
  ·refine Sub.trans (Sub.foldLast 15 1 13 rfl (by simp [-gD]<;>omega) rfl (by decide) (by decide) rfl) ?_
   simp only [fS,fS2,qA,qC,aW,gR]
   refine Sub.trans (Sub.foldAt 11 0 15 rfl (by simp [-gD]<;>omega) rfl (by decide) (by decide) rfl (by simp<;>omega)) ?_
   simp only [fS,fS2,qA,qC,vP]
   refine Sub.trans (Sub.fold1 0 2 11 rfl (by simp [-gD]<;>omega) rfl (by decide) (by decide) rfl) ?_
   simp only [fS,fS2,qA,qC]
   exact Sub.refl _
  ·simp [-List.drop_one,-gD,qJe,fE]<;>(first | rfl | exact ⟨rfl,rfl⟩ | exact ⟨rfl,rfl,rfl⟩ | skip)
 simp only [go_sem,seval,hcg,gt,hi,fB,gR,hi3,gv]
 have hcp:=zJ (view.set cell (c.length:Int)) (by simp; omega)
 have htk :∀x:Int,(view.set cell x).take view.length=view.set cell x:=fun x=>List.take_of_length_le (by simp)
 clear hvl
 refine CA [] (hcp) ?_
 try simp only [go_sem,seval]
 repeat refine K ?_
 try simp only [go_sem,seval,hcg,gt,hi,fB,gR,hi3,gv]
 repeat refine K ?_
 apply wE
 ·refine Sub.trans (Sub.foldLast 16 1 14 rfl (by simp [-gD]<;>omega) rfl (by decide) (by decide) rfl) ?_
  simp only [fS,fS2,qA,qC,aW]
  refine Sub.trans (Sub.foldAt 11 0 16 rfl (by simp [-gD]<;>omega) rfl (by decide) (by decide) rfl (by simp<;>omega)) ?_
  simp only [fS,fS2,qA,qC,vP]
  refine Sub.trans (Sub.fold1 0 2 11 rfl (by simp [-gD]<;>omega) rfl (by decide) (by decide) rfl) ?_
  simp only [fS,fS2,qA,qC]
  exact Sub.refl _
 ·simp [-List.drop_one,-gD,qJe,fE]<;>(first | rfl | exact ⟨rfl,rfl⟩ | exact ⟨rfl,rfl,rfl⟩ | skip)
def qV3 (k:Nat):Prop:=k=0∨k=1∨k=2∨k=3∨k=4
def qJd (cds:List (List yK)) (n1:Nat) (cs cs':List (List wY)) (tr:List xJ) (R:List (List AV)) (v x0 x1:List Int):FP:=fE cds n1 cs cs' tr R v++[(3,some (1,wN x0),some (1,wN x0)),(4,some (1,wN x1),some (1,wN x1))]
theorem qYs {cds:List (List yK)} {n1:Nat} {cs cs':List (List wY)} {tr:List xJ} {R:List (List AV)} {v x0 x1:List Int} (hR:okR qV3 R):HB (vG (qJd cds n1 cs cs' tr R v x0 x1)) 10:=by
 have:jT (· < 10) R:=qDf (fun n hn=>by rcases hn with rfl | rfl | rfl | rfl | rfl<;>decide) hR
 refine uJ _ _ _ _ (uJ _ _ _ _ (uJ _ _ _ _ (uJ _ _ _ _ (uJ _ _ _ _ ((oZ _).2 trivial) (by decide) (by simp [yT])) (by decide) (by simp [yT])) (by decide) (by simp [yT])) (by decide) this) (by decide) ?_
 simp [yT,jT,vK,bnd]
theorem qLy (cds:List (List yK)) (n1:Nat) (cs:List (List wY)) (tr:List xJ) (R:List (List AV)) (hR:okR qV3 R) (view x0 x1:List Int) (cell:Nat) (v:Int) (go:Bool) (hm:nM cs) (hv:VOk cs view) (hc:cell<24) :
  qW Tryz.prog num 378 [.ptr 0 0 2,.ns 2 0 view.length,.int .i64 cell,.int .i64 v,.bool go] (qJd cds n1 cs (store cs view cell v go).1 tr R view x0 x1) (.sl .own 1 (wN (store cs view cell v go).2)):=by
 refine EH m378 Tryz.func206 (hh:=qYs hR) ?_
 unfold m378
 have hcl:cell<cs.length:=by rw [hm.len]; exact hc
 have hvl:=hv.1
 have hvc:cell<view.length:=by omega
 have hlc:=hm.cell cell hc
 have hcg:=vE .own cs cell hcl
 have hst:store cs view cell v go=(cs.set cell (cs.getD cell []++[⟨v,if go then view.set cell ((cs.getD cell []).length:Int) else z24.set cell ((cs.getD cell []).length:Int)⟩]),view.set cell ((cs.getD cell []).length:Int)):=rfl
 rw [hst]
 have gt :∀r,((jC .own cs).set cell r).getD cell []=r:=fun r=>wF _ _ _ _ (by rw [yF]; exact hcl)
 generalize hcd:cs.getD cell []=c at *
 have gv:(view.set cell (c.length:Int)).getD cell 0=c.length:=wF _ _ _ _ hvc
 have g24:cell<z24.length:=by rw [gR]; exact hc
 have hvs:cell<(view.set cell (c.length:Int)).length:=by simpa using hvc
 have hi:=qI (view.set cell (c.length:Int)) cell hvs
 have hi2:=qI view cell hvc
 have hi3:=qI z24 cell g24
 simp only [go_sem,seval,qJd,fE]
 refine CA [] (zJ view (by omega)) ?_
 try simp only [go_sem,seval]
 repeat refine K ?_
 try simp only [go_sem,seval,hcg,gt,hi,hi2,fB,gR,hi3,gv]
 repeat refine K ?_
 cases go
 ·simp only [go_sem,seval,hcg,gt,hi,fB,gR,hi3,gv]
  repeat refine K ?_
  apply wE
  ·refine Sub.trans (Sub.foldLast 15 1 13 rfl (by simp [-gD]<;>omega) rfl (by decide) (by decide) rfl) ?_
   simp only [fS,fS2,qA,qC,aW,gR]
   refine Sub.trans (Sub.foldAt 11 0 15 rfl (by simp [-gD]<;>omega) rfl (by decide) (by decide) rfl (by simp<;>omega)) ?_
   simp only [fS,fS2,qA,qC,vP]
   refine Sub.trans (Sub.fold1 0 2 11 rfl (by simp [-gD]<;>omega) rfl (by decide) (by decide) rfl) ?_
   simp only [fS,fS2,qA,qC]
   exact Sub.refl _
  ·simp [-List.drop_one,-gD,qJd,fE]<;>(first | rfl | exact ⟨rfl,rfl⟩ | exact ⟨rfl,rfl,rfl⟩ | skip)
 simp only [go_sem,seval,hcg,gt,hi,fB,gR,hi3,gv]
 have hcp:=zJ (view.set cell (c.length:Int)) (by simp; omega)
 have htk :∀x:Int,(view.set cell x).take view.length=view.set cell x:=fun x=>List.take_of_length_le (by simp)
 clear hvl
 refine CA [] (hcp) ?_
 try simp only [go_sem,seval]
 repeat refine K ?_
 try simp only [go_sem,seval,hcg,gt,hi,fB,gR,hi3,gv]
 repeat refine K ?_
 apply wE
 ·refine Sub.trans (Sub.foldLast 16 1 14 rfl (by simp [-gD]<;>omega) rfl (by decide) (by decide) rfl) ?_
  simp only [fS,fS2,qA,qC,aW]
  refine Sub.trans (Sub.foldAt 11 0 16 rfl (by simp [-gD]<;>omega) rfl (by decide) (by decide) rfl (by simp<;>omega)) ?_
  simp only [fS,fS2,qA,qC,vP]
  refine Sub.trans (Sub.fold1 0 2 11 rfl (by simp [-gD]<;>omega) rfl (by decide) (by decide) rfl) ?_
  simp only [fS,fS2,qA,qC]
  exact Sub.refl _
 ·simp [-List.drop_one,-gD,qJd,fE]<;>(first | rfl | exact ⟨rfl,rfl⟩ | exact ⟨rfl,rfl,rfl⟩ | skip)
end Go.Sep
