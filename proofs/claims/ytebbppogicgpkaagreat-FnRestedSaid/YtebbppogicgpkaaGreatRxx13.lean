/- Contracts of functions. -/
import Derived.Test.YtebbppogicgpkaaGreatRxx12
namespace Go.Sep
set_option maxHeartbeats 16000000
open Go.Proofs
set_option linter.unusedSimpArgs false
set_option linter.unusedVariables false
set_option maxRecDepth 100000
open Nat renaming reduceAdd → qA, reduceMul → qB, reduceEqDiff → qC, reduceBEq → qD
open Int renaming reduceToNat → qE, reduceEq → qF, reduceLT → qG, reduceLE → qH
open List renaming getD_eq_getElem?_getD → gD
def m98:MFn:=⟨10,[.t 4],kr [xI 4 0] (.seq (kr [xv 5 0,xv 6 1,bT 7 .gtr 5 6] (kF 7 [xv 8 0,xv 4 8])) (kR [xv 9 1,xv 4 9]))⟩
def m368:MFn:=⟨14,[.t 4],kr [xF 4] (kR [xv 5 0,xk 6 5,xa 7 0 6,xl 8 7,xv 9 1,xD 10 1 8 9,xl 11 10,xe 12 11,bI 13 .lss 12 4000,xv 4 13])⟩
def m377:MFn:=⟨58,[.t 10,.t 11],kr [xI 10 0,xo 11 (.mv (.c (.nil)))] (kr [xv 16 0,xk 17 16,xa 18 0 17,xl 19 18,xv 20 2,xD 21 1 19 20,xl 22 21,xe 23 22,bI 24 .sub 23 1,xv 12 24] (kr [xv 25 12,xv 26 3,xo 27 (.mx (.t 26) (xi 0)),bT 28 .sub 25 27,xv 29 1,xv 30 2,xD 31 1 29 30,xl 32 31,xo 33 (.mx (.t 28) (.t 32)),xv 13 33] (kr [xv 34 1,xc1 35 36 (.t 34),xv 14 35] (kr [xv 36 14,xv 37 2,xv 38 13,xD 39 1 36 37,xS 1 39 38] (kr [xv 40 0,xk 41 40,xa 42 0 41,xl 43 42,xv 44 2,xD 45 1 43 44,xl 46 45,xv 47 13,xD 48 2 46 47,xm 49 2 48,xo 15 (.alloc [.int .i64 0,.nil]),xS 2 15 49] (.seq (kr [xv 50 4] (.cond 50 (xr [xv 51 14,xa 52 1 15,xl 53 52,xc2 54 382 (.t 51) (.t 53),xv 14 54]) (.skip))) (kR [xa 55 0 15,xl 56 55,xv 57 14,xv 10 56,xv 11 57])))))))⟩
def m378:MFn:=⟨56,[.t 10],kr [xo 10 (.mv (.c (.nil)))] (kr [xv 13 1,xc1 14 36 (.t 13),xv 11 14] (kr [xv 15 11,xv 16 2,xv 17 0,xk 18 17,xa 19 0 18,xl 20 19,xv 21 2,xD 22 1 20 21,xl 23 22,xe 24 23,xD 25 1 15 16,xS 1 25 24] (kr [xo 26 (.mkS [xz] 8 (xi 24) (xi 24)),xv 12 26] (kr [xv 27 12,xv 28 2,xv 29 11,xv 30 2,xD 31 1 29 30,xl 32 31,xD 33 1 27 28,xS 1 33 32] (.seq (kr [xv 34 4] (.cond 34 (xr [xv 35 11,xc1 36 36 (.t 35),xv 12 36]) (.skip))) (.seq (.dreg (.take 0 (xv 37 0) (.take 1 (xk 38 37) (.take 2 (xa 39 0 38) (.take 3 (xl 40 39) (.take 4 (xv 41 2) (.take 5 (xv 42 0) (.take 6 (xk 43 42) (.take 7 (xa 44 0 43) (.take 8 (xl 45 44) (.take 9 (xv 46 2) (.take 10 (xD 47 1 45 46) (.take 11 (xl 48 47) (.take 12 (xv 49 3) (.only 13 [] (xv 50 12) (.only 14 [12] (xo 51 (.build [.int .i64 0,.nil] [(0,1,.t 49),(1,1,.t 50)])) (.only 15 [14,12] (xo 52 (.mkSl [.int .i64 0,.nil] 1 [(0,.t 51)])) (.only 16 [11,15,10,14,8,9,12,7,6,5] (xA 53 2 32 48 52) (.only 17 [0,1,2,3,4,5,6,7,8,9,10,11,12] (xD 54 1 40 41) (.only 18 [0,1,2,3,4,5,6,7,8,9,10,11,12] (xS 1 54 53) (.done))))))))))))))))))))) (kR [xv 55 11,xv 10 55])))))))⟩
def m381:MFn:=⟨33,[.t 4],kr [xo 4 (.mv (.c (.nil)))] (kr [xo 7 (.mkSl [xz] 0 []),xv 5 7] (.seq (kr [xI 6 0] (.blk 0 (.loop (.seq (kr [xv 8 6,xv 9 0,xe 10 9,bT 11 .lss 8 10,xv 12 11,yv 13 6 12,yv 14 1 12,ye 15 14 12,xg 16 (.bin .lss (.t 13) (.t 15)) 12 true,xP 17 12 16] (kX 17 0)) (.seq (.blk 1 (.dreg (.take 0 (xv 20 5) (.take 1 (xv 21 0) (.take 2 (xv 22 6) (.take 3 (xD 23 1 21 22) (.take 4 (xl 24 23) (.take 5 (xv 25 1) (.only 6 [] (xv 26 6) (.only 7 [5] (xD 27 1 25 26) (.only 8 [7,5] (xl 28 27) (.only 9 [4,8,3,7,1,2,5] (xc2 29 98 (.t 24) (.t 28)) (.only 10 [9,4,8,3,7,1,2,5] (xo 30 (.mkSl [xz] 1 [(0,.t 29)])) (.only 11 [0,9,4,8,3,7,1,2,5] (xA 31 1 8 20 30) (.only 12 [0,1,2,3,4,5] (xv 5 31) (.done)))))))))))))))) (xr [xv 18 6,bI 19 .add 18 1,xv 6 19])))))) (kR [xv 32 5,xv 4 32])))⟩
def m382:MFn:=⟨33,[.t 4],kr [xo 4 (.mv (.c (.nil)))] (kr [xo 7 (.mkSl [xz] 0 []),xv 5 7] (.seq (kr [xI 6 0] (.blk 0 (.loop (.seq (kr [xv 8 6,xv 9 0,xe 10 9,bT 11 .lss 8 10,xv 12 11,yv 13 6 12,yv 14 1 12,ye 15 14 12,xg 16 (.bin .lss (.t 13) (.t 15)) 12 true,xP 17 12 16] (kX 17 0)) (.seq (.blk 1 (.dreg (.take 0 (xv 20 5) (.take 1 (xv 21 0) (.take 2 (xv 22 6) (.take 3 (xD 23 1 21 22) (.take 4 (xl 24 23) (.take 5 (xv 25 1) (.only 6 [] (xv 26 6) (.only 7 [5] (xD 27 1 25 26) (.only 8 [7,5] (xl 28 27) (.only 9 [4,8,3,7,1,2,5] (xo 29 (.mx (.t 24) (.t 28))) (.only 10 [9,4,8,3,7,1,2,5] (xo 30 (.mkSl [xz] 1 [(0,.t 29)])) (.only 11 [0,10,9,4,8,3,7,1,2,5] (xA 31 1 8 20 30) (.only 12 [0,1,2,3,4,5] (xv 5 31) (.done)))))))))))))))) (xr [xv 18 6,bI 19 .add 18 1,xv 6 19])))))) (kR [xv 32 5,xv 4 32])))⟩
theorem qE9 {m:qK} (h:qX m=true):pF m≤4000000:=by
 have h:=(wT m).1 h
 have n4:=h.n4
 have hc:=h.cores
 have h1:lN qFi m.codes≤800*m.codes.length:=qAp (fun b hb=>by
  obtain ⟨i,hi,rfl⟩:=List.getElem_of_mem hb
  have hk:=(h.core i (by omega)).code
  have e:m.codes.getD i []=m.codes[i]:=by simp [List.getD_eq_getElem?_getD,hi]
  rw [e] at hk
  unfold uB at hk
  simp only [Bool.and_eq_true,qM] at hk
  have:=hk.1.1.2
  simp only [qFi]
  omega)
 have h2:lN qFj m.cores≤32*m.cores.length:=qAp (fun b hb=>by
  obtain ⟨i,hi,rfl⟩:=List.getElem_of_mem hb
  have hk:=h.core i hi
  have e:qJ m i=m.cores[i]:=by simp [qJ,List.getD_eq_getElem?_getD,hi]
  have k1:=hk.regs
  have k2:=hk.view.1
  rw [e] at k1 k2
  simp only [qFj]
  omega)
 have h3:lN nM m.mem.cells≤100000*m.mem.cells.length:=qAp (fun b hb=>by
  obtain ⟨i,hi,rfl⟩:=List.getElem_of_mem hb
  have hl:=h.mem.len
  have hk:=(h.mem.cell i (by omega)).2
  have hv:=h.mem.view i (by omega)
  have e:m.mem.cells.getD i []=m.mem.cells[i]:=by simp [List.getD_eq_getElem?_getD,hi]
  rw [e] at hk hv
  have:lN qFh m.mem.cells[i]≤24*m.mem.cells[i].length:=qAp (fun w hw=>by
   have:=(hv w hw).1
   simp only [qFh]
   omega)
  simp only [nM]
  omega)
 have h4:=h.tr
 unfold uY at h4
 simp only [Bool.and_eq_true,decide_eq_true_eq] at h4
 have h5:=h.mem.len
 unfold pF qY0
 omega
theorem qJp {m:qK} (h:qX m=true):aG m:=qJq (qE9 h) (by omega)
def eJ:qK→List bB→qK
 | m,[]=>m
 | m,x::l=>eJ (wL m x).1 l
def cE:qK→List bB→List Int
 | _,[]=>[]
 | m,x::l=>(wL m x).2::cE (wL m x).1 l
theorem qK2 :∀(m:qK) (l:List bB) (x:bB),eJ m (l++[x])=(wL (eJ m l) x).1
 | _,[],_=>rfl
 | m,y::l,x=>by simp only [List.cons_append,eJ,qK2 _ l x]
theorem qE7 :∀(m:qK) (l:List bB) (x:bB),cE m (l++[x])=cE m l++[(wL (eJ m l) x).2]
 | _,[],_=>rfl
 | m,y::l,x=>by simp only [List.cons_append,cE,eJ,qE7 _ l x]
theorem mR :∀(m:qK) (l:List bB),(cE m l).length=l.length
 | _,[]=>rfl
 | m,y::l=>by simp only [cE,List.length_cons,mR _ l]
theorem qBh :∀{m:qK} (l:List bB),qX m=true→qX (eJ m l)=true
 | _,[],h=>h
 | _,x::l,h=>qBh l (dK x h)
theorem qX7 (m:qK) (i:Nat) (late:Int):(mdo m i late).cores.length=m.cores.length∧(mdo m i late).codes=m.codes:=by
 unfold mdo eR stop yU
 repeat' (first | split | (simp only; split))
 all_goals simp
theorem cK (m:qK) (x:bB):(wL m x).1.cores.length=m.cores.length∧(wL m x).1.codes=m.codes:=by
 unfold wL
 split
 ·exact qX7 _ _ _
 ·exact ⟨rfl,rfl⟩
theorem qGn :∀(m:qK) (l:List bB),(eJ m l).cores.length=m.cores.length∧(eJ m l).codes=m.codes
 | _,[]=>⟨rfl,rfl⟩
 | m,x::l=>by
  have h1:=cK m x
  have h2:=qGn (wL m x).1 l
  exact ⟨by rw [eJ,h2.1,h1.1],by rw [eJ,h2.2,h1.2]⟩
def vA:Nat→qK→Int→qK
 | 0,m,_=>m
 | n+1,m,who=>if (wL m ⟨who,0⟩).2=0 then vA n (wL m ⟨who,0⟩).1 who else (wL m ⟨who,0⟩).1
theorem qBg {m:qK} {x:bB} (h:(wL m x).2≠0):(wL m x).1=m:=by
 unfold wL at h⊢
 split
 ·rename_i hc
  rw [if_pos hc] at h
  exact absurd rfl h
 ·rfl
theorem oE :∀(n:Nat) {m:qK} (who:Int),qX m=true→qX (vA n m who)=true
 | 0,_,_,h=>h
 | n+1,m,who,h=>by
  unfold vA
  split
  ·exact oE n who (dK _ h)
  ·exact dK _ h
theorem qE8 :∀(n:Nat) (m:qK) (who:Int),(vA n m who).cores.length=m.cores.length∧(vA n m who).codes=m.codes
 | 0,_,_=>⟨rfl,rfl⟩
 | n+1,m,who=>by
  have h1:=cK m ⟨who,0⟩
  have h2:=qE8 n (wL m ⟨who,0⟩).1 who
  unfold vA
  split
  ·exact ⟨by rw [h2.1,h1.1],by rw [h2.2,h1.2]⟩
  ·exact h1
theorem CAN {P:Program} {num:Nat→Nat} {fin:AS→Prop} {f nx:Nat} {ps:List Bool} {xs:List Arg} {t:List (Nat×AV)} {h:wZ} {fp:FP} {res:AV} {vargs:List AV} {dst:Option Nat} {k:List It} (σ:List (Nat×Nat)) (hc:qZ P num f vargs fp res)
  (hk:vc P num fin k (.mk (gM t dst (yG nx (jK (rnm σ) res)).1) (zW h (fp.map (fun x=>(rnm σ x.1,xR (rnm σ) x.2.1,xR (rnm σ) x.2.2))++fresh (yG nx (jK (rnm σ) res)).2.1)) (yG nx (jK (rnm σ) res)).2.2))
  (hv:wA (kB (ixm σ) h ps (xs.map (Arg.ev (wH t)))) vargs:=by first | omega | (simp [wA,wB]; done) | (simp [wA,wB, *]; done))
  (hvo:dN h (fun n =>∃x∈fp,x.2.1≠none∧n=rnm σ x.1∧ixm σ n=x.1) (fun n =>∃x∈fp,n=rnm σ x.1) ps (xs.map (Arg.ev (wH t))):=by first | omega | (simp [wA,wB]; done) | (simp [wA,wB, *]; done))
  (hnd:(fp.map (fun x=>rnm σ x.1)).Nodup:=by first | (simp [wA,wB]; done) | (simp [wA,wB, *]; done))
  (hpre :∀x∈fp,qU h (rnm σ x.1)=xR (rnm σ) x.2.1∧(x.2.1=none→nx≤rnm σ x.1)∧rnm σ x.1<nx:=by first | (simp [wA,wB]; done) | (simp [wA,wB, *]; done))
  (hnb :∀x∈fp,(∀r,x.2.1=some r→okR (fun k =>∃y∈fp,y.1=k∧y.2.1≠none) r.2)∧(∀r,x.2.2=some r→okR (fun k =>∃y∈fp,y.1=k∧y.2.2≠none) r.2):=by first | (simp [wA,wB]; done) | (simp [wA,wB, *]; done))
  (hres:okV (fun k =>∃x∈fp,x.1=k∧x.2.2≠none) res:=by first | (simp [wA,wB]; done) | (simp [wA,wB, *]; done)):rT P num fin (.call f ps xs) dst k (.mk t h nx) :=
 mE (qKp σ hc hv hvo hnd hpre hnb hres) hk
theorem DAN {P:Program} {num:Nat→Nat} {fin:AS→Prop} {f nx:Nat} {ps:List Bool} {xs:List Arg} {t:List (Nat×AV)} {h:wZ} {fp:FP} {res:AV} {vargs:List AV} {pend:List (Nat×List Nat)} {dst:Option Nat} {tr:bC} {k:List It} (σ:List (Nat×Nat)) (hc:qZ P num f vargs fp res)
  (hk:vc P num fin (.draw tr pend::k) (.mk (gM t dst (yG nx (jK (rnm σ) res)).1) (zW h (fp.map (fun x=>(rnm σ x.1,xR (rnm σ) x.2.1,xR (rnm σ) x.2.2))++fresh (yG nx (jK (rnm σ) res)).2.1)) (yG nx (jK (rnm σ) res)).2.2))
  (hv:wA (kB (ixm σ) h ps (xs.map (Arg.ev (wH t)))) vargs:=by first | omega | (simp [wA,wB]; done) | (simp [wA,wB, *]; done))
  (hvo:dN h (fun n =>∃x∈fp,x.2.1≠none∧n=rnm σ x.1∧ixm σ n=x.1) (fun n =>∃x∈fp,n=rnm σ x.1) ps (xs.map (Arg.ev (wH t))):=by first | omega | (simp [wA,wB]; done) | (simp [wA,wB, *]; done))
  (hnd:(fp.map (fun x=>rnm σ x.1)).Nodup:=by first | (simp [wA,wB]; done) | (simp [wA,wB, *]; done))
  (hpre :∀x∈fp,qU h (rnm σ x.1)=xR (rnm σ) x.2.1∧(x.2.1=none→nx≤rnm σ x.1)∧rnm σ x.1<nx:=by first | (simp [wA,wB]; done) | (simp [wA,wB, *]; done))
  (hnb :∀x∈fp,(∀r,x.2.1=some r→okR (fun k =>∃y∈fp,y.1=k∧y.2.1≠none) r.2)∧(∀r,x.2.2=some r→okR (fun k =>∃y∈fp,y.1=k∧y.2.2≠none) r.2):=by first | (simp [wA,wB]; done) | (simp [wA,wB, *]; done))
  (hres:okV (fun k =>∃x∈fp,x.1=k∧x.2.2≠none) res:=by first | (simp [wA,wB]; done) | (simp [wA,wB, *]; done))
  (ha:apart pend (fp.map (fun x=>(rnm σ x.1,xR (rnm σ) x.2.1,xR (rnm σ) x.2.2))++fresh (yG nx (jK (rnm σ) res)).2.1):=by first | (simp [wA,wB]; done) | (simp [wA,wB, *]; done)):qOx P num fin (.call f ps xs) pend dst tr k t h nx :=
 mB (qKp σ hc hv hvo hnd hpre hnb hres) ha hk
mutual
theorem qX0 :∀(v:AV),jK id v=v
 | .ptr ..=>rfl
 | .ns ..=>rfl
 | .agg cs=>by simp only [jK,qF8 cs]
 | .tup cs=>by simp only [jK,qF8 cs]
 | .any | .int _ _ | .bool _ | .str _ | .fn _ _ | .nilp | .fptr _ _ _ | .nil | .nilI | .ifc | .sl _ _ _=>by simp only [jK]
theorem qF8 :∀(l:List AV),xU id l=l
 | []=>rfl
 | c::cs=>by simp only [xU,qX0 c,qF8 cs]
end
theorem qBb {A B:Nat→Prop} (hf :∀n,A n→B n) {l:List (List AV)} (h:okR A l):jL B l:=by
 have e :∀(l:List (List AV)),zZ id l=l:=fun l=>by
  induction l with
  | nil=>rfl
  | cons r l ih =>
   have hL :∀(r:List AV),xU id r=r:=fun r=>qF8 r
   simp only [zZ,hL,ih]
 have:=qG8 (f:=id) (B:=B) hf l h
 rwa [e] at this
mutual
theorem qV5 {A B:Nat→Prop} (hf :∀n,A n→B n) :∀(v:AV),okV A v→okV B v
 | .ptr nm _ _,h=>hf nm h
 | .ns nm _ _,h=>hf nm h
 | .agg cs,h=>by simp only [okV] at h⊢; exact qBc hf cs h
 | .tup cs,h=>by simp only [okV] at h⊢; exact qBc hf cs h
 | .any,_=>trivial
 | .int _ _,h | .bool _,h | .str _,h | .fn _ _,h | .nilp,h | .fptr _ _ _,h | .nil,h | .nilI,h | .ifc,h | .sl _ _ _,h=>by simpa only [okV] using h
theorem qBc {A B:Nat→Prop} (hf :∀n,A n→B n) :∀(l:List AV),okL A l→okL B l
 | [],_=>trivial
 | c::cs,h=>⟨qV5 hf c h.1,qBc hf cs h.2⟩
end
theorem qBa {A B:Nat→Prop} (hf :∀n,A n→B n) :∀{l:List (List AV)},okR A l→okR B l
 | [],_=>trivial
 | r::l,h=>⟨qBc hf r h.1,qBa hf h.2⟩
theorem qKh (f:Nat→Nat) (l:List uE):zZ f (cores .own l)=cores .own l:=fW f _ ((iF l).2 trivial)
theorem qU2 {A:Nat→Prop} (l:List uE):okR A (cores .own l)↔True:=by simp [eO _ ((iF l).2 trivial)]
theorem sT {A:Nat→Prop} (l:List uE) (i:Nat) (r:List AV) (h:okL A r):okR A ((cores .own l).set i r):=qB9 _ _ _ (eO _ ((iF l).2 trivial)) h
theorem qP1 (f:Nat→Nat) (l:List (List wR)):zZ f (yP .own l)=yP .own l:=fW f _ ((oP l).2 trivial)
theorem qW9 {A:Nat→Prop} (l:List (List wR)):okR A (yP .own l)↔True:=by simp [eO _ ((oP l).2 trivial)]
theorem nI {A:Nat→Prop} (l:List (List wR)) (i:Nat) (r:List AV) (h:okL A r):okR A ((yP .own l).set i r):=qB9 _ _ _ (eO _ ((oP l).2 trivial)) h
theorem qKk (f:Nat→Nat) (l:List (List yC)):zZ f (codes .own l)=codes .own l:=fW f _ ((fB l).2 trivial)
theorem qU5 {A:Nat→Prop} (l:List (List yC)):okR A (codes .own l)↔True:=by simp [eO _ ((fB l).2 trivial)]
theorem qKl {A:Nat→Prop} (l:List (List yC)) (i:Nat) (r:List AV) (h:okL A r):okR A ((codes .own l).set i r):=qB9 _ _ _ (eO _ ((fB l).2 trivial)) h
theorem qFk (f:Nat→Nat) (l:List wR):zZ f (yK .own l)=yK .own l:=fW f _ ((cJ l).2 trivial)
theorem qPi {A:Nat→Prop} (l:List wR):okR A (yK .own l)↔True:=by simp [eO _ ((cJ l).2 trivial)]
theorem qPh {A:Nat→Prop} (l:List wR) (i:Nat) (r:List AV) (h:okL A r):okR A ((yK .own l).set i r):=qB9 _ _ _ (eO _ ((cJ l).2 trivial)) h
theorem qOn (f:Nat→Nat) (l:List Int):zZ f (wK l)=wK l:=fW f _ ((bX l).2 trivial)
theorem qVl {A:Nat→Prop} (l:List Int):okR A (wK l)↔True:=by simp [eO _ ((bX l).2 trivial)]
attribute [go_sem] xR zZ qG7 qKh qP1 qKk qFk qOn
attribute [simp] xR zZ qG7 qKh qP1 qKk qFk qOn okR qU2 qW9 qU5 qPi qVl sT nI qKl qPh
theorem F1 (nm f k:Nat) {off:Nat} {t:List (Nat×AV)} {h:wZ} {nx sz sz' len:Nat} {rows':List (List AV)} {r:List AV} {s':AS} (hr:Sub (.mk t (del (put h nm (sz,[r.set f (.sl .own sz' (bV off len rows'))])) k) nx) s')
  (hk:qU h k=some (sz',rows'):=by rfl) (hnm:qU h nm=some (sz,[r]):=by rfl) (hne:k≠nm:=by decide) (hk10:10≤k:=by decide)
  (hf:r[f]?=some (.ns k off len):=by rfl) (hlen:off+len≤rows'.length:=by (simp [-List.getD_eq_getElem?_getD]<;>omega)):Sub (.mk t h nx) s':=Sub.trans (Sub.fold1 nm f k hk hlen hnm hne hk10 hf) hr
theorem FA (nm f k:Nat) {off i:Nat} {t:List (Nat×AV)} {h:wZ} {nx sz sz' len:Nat} {l rows':List (List AV)} {r:List AV} {s':AS} (hr:Sub (.mk t (del (put h nm (sz,l.set i (r.set f (.sl .own sz' (bV off len rows'))))) k) nx) s')
  (hk:qU h k=some (sz',rows'):=by rfl) (hnm:qU h nm=some (sz,l.set i r):=by rfl) (hne:k≠nm:=by decide) (hk10:10≤k:=by decide)
  (hf:r[f]?=some (.ns k off len):=by rfl) (hlen:off+len≤rows'.length:=by (simp [-List.getD_eq_getElem?_getD]<;>omega)) (hi:i<l.length:=by (simp<;>omega)):Sub (.mk t h nx) s':=Sub.trans (Sub.foldAt nm f k hk hlen hnm hne hk10 hf hi) hr
theorem qOk :∀(a b:List Int) (x y:Int),a.length=b.length→join (a++[x]) (b++[y])=join a b++[max x y]
 | [],[],_,_,_=>rfl
 | [],_::_,_,_,h=>by simp at h
 | _::_,[],_,_,h=>by simp at h
 | a::l,b::k,x,y,h=>by simp only [List.cons_append,join,qOk l k x y (by simpa using h)]
theorem qK5 (a b:List Int) (i:Nat) (ha:i<a.length) (hb:i<b.length):join (a.take (i+1)) (b.take (i+1))=join (a.take i) (b.take i)++[max (a.getD i 0) (b.getD i 0)]:=by
 rw [xG a 0 i ha,xG b 0 i hb,qOk _ _ _ _ (by simp; omega)]
theorem qH1 :∀(a b:List Int),(join a b).length=min a.length b.length
 | [],_=>by simp [join]
 | _::_,[]=>by simp [join]
 | a::l,b::k=>by simp only [join,List.length_cons,qH1 l k]; omega
theorem rD :∀(a b:List Int) (i:Nat),a.length≤i∨b.length≤i→join (a.take i) (b.take i)=join a b
 | [],_,_,_=>by simp [join]
 | _::_,[],_,_=>by simp [join]
 | a::l,b::k,0,h=>by simp at h
 | a::l,b::k,i+1,h=>by simp only [List.take_succ_cons,join,rD l k i (by simpa using h)]
theorem sN (a b:Int):qZ Tryz.prog num 98 [.int .i64 a,.int .i64 b] [] (.int .i64 (max a b)):=by
 refine EN m98 Tryz.func133 ?_
 unfold m98
 by_cases h:b<a
 ·simp only [go_sem,seval,h]
  refine fz ?_; simp [wJ,wA,wB,qY,-List.drop_one]
  omega
 ·simp only [go_sem,seval,h]
  refine fz ?_; simp [wJ,wA,wB,qY,-List.drop_one]
  omega
theorem qQ3 (x y:Int):(if y>x then y else x)=max x y:=by split<;>omega
theorem qOq (a b:List Int) (h1:a.length<2^40):qZ Tryz.prog num 382 [.sl .bw 1 (wK a),.sl .bw 1 (wK b)] [] (.sl .own 1 (wK (join a b))):=by
 refine EN m382 Tryz.func228 ?_
 unfold m382
 simp only [go_sem,seval]
 refine wC (ι:=Nat) (fun i=>.mk [(0,.sl .bw 1 (wK a)),(1,.sl .bw 1 (wK b)),(5,.ns 10 0 i),(6,.int .i64 i)] [(10,1,wK (join (a.take i) (b.take i)))] 11) (fun i=>i≤a.length∧i≤b.length) (fun i=>a.length-i) 0 (by simp) ?_ ?_
 ·refine Sub.shape [] id (by omega) ?_ ?_ ?_ ?_<;>simp [qP]
  all_goals simp [join,wK]
 ·rintro i ⟨hi,hj⟩
  have hlt:(join (a.take i) (b.take i)).length=i:=by rw [qH1]; simp; omega
  by_cases hc1:(i:Int)<a.length
  case neg =>
   have hd:join (a.take i) (b.take i)=join a b:=rD a b i (by omega)
   simp only [go_sem,seval,hc1,hlt]
   refine fz ?_; simp [wJ,wA,wB,qY,-List.drop_one]
   rw [hd] at hlt⊢
   simp [hlt]
  by_cases hc2:(i:Int)<b.length
  case neg =>
   have hd:join (a.take i) (b.take i)=join a b:=rD a b i (by omega)
   simp only [go_sem,seval,hc1,hc2,hlt]
   refine fz ?_; simp [wJ,wA,wB,qY,-List.drop_one]
   rw [hd] at hlt⊢
   simp [hlt]
  have g1:i<a.length:=by omega
  have g2:i<b.length:=by omega
  simp only [go_sem,seval,hc1,hc2,hlt,qQ3,qI a i g1,qI b i g2,qR (i:=i) (by omega)]
  repeat refine K ?_
  have hn:=qK5 a b i g1 g2
  refine qT (i+1) ?_ ⟨g1,g2⟩ (by omega)
  rw [hn]
  refine Sub.shape [] (fun n=>if n=10 then 12 else n) (by omega) ?_ ?_ ?_ ?_<;>simp [qP]
  exact .inl (by simp [wK])
theorem qNb (a b:List Int) (h1:a.length<2^40):qZ Tryz.prog num 381 [.sl .bw 1 (wK a),.sl .bw 1 (wK b)] [] (.sl .own 1 (wK (join a b))):=by
 refine EN m381 Tryz.func214 ?_
 unfold m381
 simp only [go_sem,seval]
 refine wC (ι:=Nat) (fun i=>.mk [(0,.sl .bw 1 (wK a)),(1,.sl .bw 1 (wK b)),(5,.ns 10 0 i),(6,.int .i64 i)] [(10,1,wK (join (a.take i) (b.take i)))] 11) (fun i=>i≤a.length∧i≤b.length) (fun i=>a.length-i) 0 (by simp) ?_ ?_
 ·refine Sub.shape [] id (by omega) ?_ ?_ ?_ ?_<;>simp [qP]
  all_goals simp [join,wK]
 ·rintro i ⟨hi,hj⟩
  have hlt:(join (a.take i) (b.take i)).length=i:=by rw [qH1]; simp; omega
  by_cases hc1:(i:Int)<a.length
  case neg =>
   have hd:join (a.take i) (b.take i)=join a b:=rD a b i (by omega)
   simp only [go_sem,seval,hc1,hlt]
   refine fz ?_; simp [wJ,wA,wB,qY,-List.drop_one]
   rw [hd] at hlt⊢
   simp [hlt]
  by_cases hc2:(i:Int)<b.length
  case neg =>
   have hd:join (a.take i) (b.take i)=join a b:=rD a b i (by omega)
   simp only [go_sem,seval,hc1,hc2,hlt]
   refine fz ?_; simp [wJ,wA,wB,qY,-List.drop_one]
   rw [hd] at hlt⊢
   simp [hlt]
  have g1:i<a.length:=by omega
  have g2:i<b.length:=by omega
  simp only [go_sem,seval,hc1,hc2,hlt,qQ3,qI a i g1,qI b i g2,qR (i:=i) (by omega)]
  repeat refine K ?_
  refine DA [] (sN (a.getD i 0) (b.getD i 0)) ?_
  try simp only [go_sem,seval]
  repeat refine K ?_
  try simp only [go_sem,seval,hlt,qR (i:=i) (by omega)]
  have hn:=qK5 a b i g1 g2
  refine qT (i+1) ?_ ⟨g1,g2⟩ (by omega)
  rw [hn]
  refine Sub.shape [] (fun n=>if n=10 then 12 else n) (by omega) ?_ ?_ ?_ ?_<;>simp [qP]
  exact .inl (by simp [wK])
def qNz (k:Nat):Prop:=k=0∨k=1∨k=2
def eP (cds:List (List yC)) (n1:Nat) (cs cs':List (List wR)) (tr:List xO) (R:List (List AV)) (v:List Int):FP :=
 [(0,some (4,[[.sl .own 1 (codes .own cds),.ns 1 0 n1,.sl .own 1 (yP .own cs),.sl .own 2 (jG tr)]]),some (4,[[.sl .own 1 (codes .own cds),.ns 1 0 n1,.sl .own 1 (yP .own cs'),.sl .own 2 (jG tr)]])),
  (1,some (4,R),some (4,R)),(2,some (1,wK v),some (1,wK v))]
theorem qX6 {cds:List (List yC)} {n1:Nat} {cs cs':List (List wR)} {tr:List xO} {R:List (List AV)} {v:List Int} (hR:okR qNz R):HB (vF (eP cds n1 cs cs' tr R v)) 10:=by
 have:jL (· < 10) R:=qBb (fun n hn=>by rcases hn with rfl | rfl | rfl<;>decide) hR
 refine vS _ _ _ _ (vS _ _ _ _ (vS _ _ _ _ ((mS _).2 trivial) (by decide) (by simp [yR])) (by decide) this) (by decide) ?_
 simp [yR,jL,jX,bnd]
theorem qEg (cds:List (List yC)) (n1:Nat) (cs:List (List wR)) (tr:List xO) (R:List (List AV)) (hR:okR qNz R) (view:List Int) (cell:Nat) (late:Int) (hold:Bool) (hm:mU cs) (hv:VOk cs view) (hc:cell<24) (hl:-(2^63)≤late∧late<2^63) :
  qZ Tryz.prog num 377 [.ptr 0 0 2,.ns 2 0 view.length,.int .i64 cell,.int .i64 late,.bool hold] (eP cds n1 cs cs tr R view) (.tup [.int .i64 (load cs view cell late hold).1,.sl .own 1 (wK (load cs view cell late hold).2)]):=by
 refine EH m377 Tryz.func205 (hh:=qX6 hR) ?_
 unfold m377
 have hcl:cell<cs.length:=by rw [hm.len]; exact hc
 have hvl:=hv.1
 have hvc:cell<view.length:=by omega
 have hlc:=hm.cell cell hc
 have hv2:=hv.2 cell hc
 have hat:=qLy (late:=late) hv hc
 have hcg:=jM .own cs cell hcl
 generalize hcd:cs.getD cell []=c at *
 have w1:IntKind.i64.wrap ((c.length:Int)-1)=c.length-1:=wM (by omega) (by omega)
 have w2:IntKind.i64.wrap ((c.length:Int)-1-max late 0)=c.length-1-max late 0:=wM (by omega) (by omega)
 have hwl :∀i,i<c.length→(c.getD i default).view.length=24:=fun i hi=>(hm.view cell hc _ (by rw [hcd]; exact wX c i default hi)).1
 simp only [go_sem,seval,eP,hcg,w1,w2,qQ3,qI view cell hvc]
 repeat refine K ?_
 have he:max ((c.length:Int)-1-max late 0) (view.getD cell 0)=qBl cs view cell late:=by unfold qBl; rw [hcd]
 generalize hla:qBl cs view cell late=at_ at *
 obtain ⟨a,rfl⟩:=Int.eq_ofNat_of_zero_le hat.1
 have ha:a<c.length:=by omega
 have hwg:=eB .own c a ha
 have hwa:=hwl a ha
 refine CA [] (xY view (by omega)) ?_
 try simp only [go_sem,seval]
 repeat refine K ?_
 have gt :∀r,((yP .own cs).set cell r).getD cell []=r:=fun r=>wE _ _ _ _ (by rw [yA]; exact hcl)
 have gw :∀r,((yK .own c).set a r).getD a []=r:=fun r=>wE _ _ _ _ (by rw [eT]; exact ha)
 try simp only [go_sem,seval,hcg,he,hwg,gt,gw,qI view cell hvc]
 repeat refine K ?_
 have hself:(yK .own c).set a [.int .i64 (c.getD a default).v,.sl .own 1 (wK (c.getD a default).view)]=yK .own c:=by rw [←hwg,wI _ _ _ (by rw [eT]; exact ha)]
 have hselfc:(yP .own cs).set cell [.sl .own 2 (yK .own c)]=yP .own cs:=by rw [←hcg,wI _ _ _ (by rw [yA]; exact hcl)]
 have hld:load cs view cell late hold=((c.getD a default).v,if hold then join (view.set cell a) (c.getD a default).view else view.set cell a):=by
  rw [qLx,hcd,hla]
  rfl
 rw [hld]
 cases hold
 ·simp only [go_sem,seval,hcg,hwg,gt,gw]
  apply wN (by simp)
  ·refine Sub.trans (Sub.foldAt 11 1 13 rfl (by simp [-gD]<;>omega) rfl (by decide) (by decide) rfl (by simp<;>omega)) ?_
   simp only [fS,fS2,qA,qC,hself]
   refine Sub.trans (Sub.foldAt 10 0 11 rfl (by simp [-gD]<;>omega) rfl (by decide) (by decide) rfl (by simp<;>omega)) ?_
   simp only [fS,fS2,qA,qC,hselfc]
   refine Sub.trans (Sub.fold1 0 2 10 rfl (by simp [-gD]<;>omega) rfl (by decide) (by decide) rfl) ?_
   simp only [fS,fS2,qA,qC]
   exact Sub.refl _
  ·simp [-List.drop_one,-gD,eP]<;>(first | rfl | exact ⟨rfl,rfl⟩ | exact ⟨rfl,rfl,rfl⟩ | skip)
 simp only [go_sem,seval,hcg,hwg,gt,gw]
 have hj:=qOq (view.set cell a) (c.getD a default).view (by simp; omega)
 have htk :∀x:Int,(view.set cell x).take view.length=view.set cell x:=fun x=>List.take_of_length_le (by simp)
 clear hvl hwa
 refine CA [] (hj) ?_
 try simp only [go_sem,seval]
 apply wN (by simp)
 ·refine Sub.trans (Sub.foldAt 11 1 13 rfl (by simp [-gD]<;>omega) rfl (by decide) (by decide) rfl (by simp<;>omega)) ?_
  simp only [fS,fS2,qA,qC,hself]
  refine Sub.trans (Sub.foldAt 10 0 11 rfl (by simp [-gD]<;>omega) rfl (by decide) (by decide) rfl (by simp<;>omega)) ?_
  simp only [fS,fS2,qA,qC,hselfc]
  refine Sub.trans (Sub.fold1 0 2 10 rfl (by simp [-gD]<;>omega) rfl (by decide) (by decide) rfl) ?_
  simp only [fS,fS2,qA,qC]
  exact Sub.refl _
 ·simp [-List.drop_one,-gD,eP]<;>(first | rfl | exact ⟨rfl,rfl⟩ | exact ⟨rfl,rfl,rfl⟩ | skip)
theorem xW (c:List wR) (v:Int) (l:List Int):yK .own c++[[.int .i64 v,.sl .own 1 (wK l)]]=yK .own (c++[⟨v,l⟩]):=by simp [yK,kM]
theorem qAe (cds:List (List yC)) (n1:Nat) (cs:List (List wR)) (tr:List xO) (R:List (List AV)) (hR:okR qNz R) (cell:Nat) (hc:cell<cs.length) :
  qZ Tryz.prog num 368 [.ptr 0 0 2,.int .i64 cell] [(0,some (4,[[.sl .own 1 (codes .own cds),.ns 1 0 n1,.sl .own 1 (yP .own cs),.sl .own 2 (jG tr)]]),some (4,[[.sl .own 1 (codes .own cds),.ns 1 0 n1,.sl .own 1 (yP .own cs),.sl .own 2 (jG tr)]])),(1,some (4,R),some (4,R))] (.bool (decide (((cs.getD cell []).length:Int)<4000))):=by
 have hb:jL (· < 10) R:=qBb (fun n hn=>by rcases hn with rfl | rfl | rfl<;>decide) hR
 refine EH m368 Tryz.func177 (hh:=vS _ _ _ _ (vS _ _ _ _ ((mS _).2 trivial) (by decide) hb) (by decide) (by simp [yR,jL,jX,bnd])) ?_
 unfold m368
 have hcg:=jM .own cs cell hc
 have hselfc:(yP .own cs).set cell [.sl .own 2 (yK .own (cs.getD cell []))]=yP .own cs:=by rw [←hcg,wI _ _ _ (by rw [yA]; exact hc)]
 simp only [go_sem,seval,hcg]
 repeat refine K ?_
 apply wD
 ·refine Sub.trans (Sub.foldAt 10 0 11 rfl (by simp [-gD]<;>omega) rfl (by decide) (by decide) rfl (by simp<;>omega)) ?_
  simp only [fS,fS2,qA,qC,hselfc]
  refine Sub.trans (Sub.fold1 0 2 10 rfl (by simp [-gD]<;>omega) rfl (by decide) (by decide) rfl) ?_
  simp only [fS,fS2,qA,qC]
  exact Sub.refl _
 ·simp [-List.drop_one,-gD,eY]<;>(first | rfl | exact ⟨rfl,rfl⟩ | exact ⟨rfl,rfl,rfl⟩ | skip)
def z24:List Int:=List.replicate 24 0
@[simp] theorem bK:z24.length=24:=rfl
theorem cB:[[AV.int .i64 0],[AV.int .i64 0],[AV.int .i64 0],[AV.int .i64 0],[AV.int .i64 0],[AV.int .i64 0],[AV.int .i64 0],[AV.int .i64 0],[AV.int .i64 0],[AV.int .i64 0],[AV.int .i64 0],[AV.int .i64 0],[AV.int .i64 0],[AV.int .i64 0],[AV.int .i64 0],[AV.int .i64 0],[AV.int .i64 0],[AV.int .i64 0],[AV.int .i64 0],[AV.int .i64 0],[AV.int .i64 0],[AV.int .i64 0],[AV.int .i64 0],[AV.int .i64 0]]=wK z24:=rfl
def qRx (k:Nat):Prop:=k=0∨k=1∨k=2∨k=3
def qGq (cds:List (List yC)) (n1:Nat) (cs cs':List (List wR)) (tr:List xO) (R:List (List AV)) (v x0:List Int):FP:=eP cds n1 cs cs' tr R v++[(3,some (1,wK x0),some (1,wK x0))]
theorem qVf {cds:List (List yC)} {n1:Nat} {cs cs':List (List wR)} {tr:List xO} {R:List (List AV)} {v x0:List Int} (hR:okR qRx R):HB (vF (qGq cds n1 cs cs' tr R v x0)) 10:=by
 have:jL (· < 10) R:=qBb (fun n hn=>by rcases hn with rfl | rfl | rfl | rfl<;>decide) hR
 refine vS _ _ _ _ (vS _ _ _ _ (vS _ _ _ _ (vS _ _ _ _ ((mS _).2 trivial) (by decide) (by simp [yR])) (by decide) (by simp [yR])) (by decide) this) (by decide) ?_
 simp [yR,jL,jX,bnd]
theorem qJ1 (cds:List (List yC)) (n1:Nat) (cs:List (List wR)) (tr:List xO) (R:List (List AV)) (hR:okR qRx R) (view x0:List Int) (cell:Nat) (v:Int) (go:Bool) (hm:mU cs) (hv:VOk cs view) (hc:cell<24) :
  qZ Tryz.prog num 378 [.ptr 0 0 2,.ns 2 0 view.length,.int .i64 cell,.int .i64 v,.bool go] (qGq cds n1 cs (store cs view cell v go).1 tr R view x0) (.sl .own 1 (wK (store cs view cell v go).2)):=by
 refine EH m378 Tryz.func206 (hh:=qVf hR) ?_
 unfold m378
 have hcl:cell<cs.length:=by rw [hm.len]; exact hc
 have hvl:=hv.1
 have hvc:cell<view.length:=by omega
 have hlc:=hm.cell cell hc
 have hcg:=jM .own cs cell hcl
 have hst:store cs view cell v go=(cs.set cell (cs.getD cell []++[⟨v,if go then view.set cell ((cs.getD cell []).length:Int) else z24.set cell ((cs.getD cell []).length:Int)⟩]),view.set cell ((cs.getD cell []).length:Int)):=rfl
 rw [hst]
 have gt :∀r,((yP .own cs).set cell r).getD cell []=r:=fun r=>wE _ _ _ _ (by rw [yA]; exact hcl)
 generalize hcd:cs.getD cell []=c at *
 have gv:(view.set cell (c.length:Int)).getD cell 0=c.length:=wE _ _ _ _ hvc
 have g24:cell<z24.length:=by rw [bK]; exact hc
 have hvs:cell<(view.set cell (c.length:Int)).length:=by simpa using hvc
 have hi:=qI (view.set cell (c.length:Int)) cell hvs
 have hi2:=qI view cell hvc
 have hi3:=qI z24 cell g24
 simp only [go_sem,seval,qGq,eP]
 refine CA [] (xY view (by omega)) ?_
 try simp only [go_sem,seval]
 repeat refine K ?_
 try simp only [go_sem,seval,hcg,gt,hi,hi2,cB,bK,hi3,gv]
 repeat refine K ?_
 cases go
 ·simp only [go_sem,seval,hcg,gt,hi,cB,bK,hi3,gv]
  repeat refine K ?_
  apply wD
  ·refine Sub.trans (Sub.foldLast 15 1 13 rfl (by simp [-gD]<;>omega) rfl (by decide) (by decide) rfl) ?_
   simp only [fS,fS2,qA,qC,xW,bK]
   refine Sub.trans (Sub.foldAt 11 0 15 rfl (by simp [-gD]<;>omega) rfl (by decide) (by decide) rfl (by simp<;>omega)) ?_
   simp only [fS,fS2,qA,qC,jW]
   refine Sub.trans (Sub.fold1 0 2 11 rfl (by simp [-gD]<;>omega) rfl (by decide) (by decide) rfl) ?_
   simp only [fS,fS2,qA,qC]
   exact Sub.refl _
  ·simp [-List.drop_one,-gD,qGq,eP]<;>(first | rfl | exact ⟨rfl,rfl⟩ | exact ⟨rfl,rfl,rfl⟩ | skip)
 simp only [go_sem,seval,hcg,gt,hi,cB,bK,hi3,gv]
 have hcp:=xY (view.set cell (c.length:Int)) (by simp; omega)
 have htk :∀x:Int,(view.set cell x).take view.length=view.set cell x:=fun x=>List.take_of_length_le (by simp)
 clear hvl
 refine CA [] (hcp) ?_
 try simp only [go_sem,seval]
 repeat refine K ?_
 try simp only [go_sem,seval,hcg,gt,hi,cB,bK,hi3,gv]
 repeat refine K ?_
 apply wD
 ·refine Sub.trans (Sub.foldLast 16 1 14 rfl (by simp [-gD]<;>omega) rfl (by decide) (by decide) rfl) ?_
  simp only [fS,fS2,qA,qC,xW]
  refine Sub.trans (Sub.foldAt 11 0 16 rfl (by simp [-gD]<;>omega) rfl (by decide) (by decide) rfl (by simp<;>omega)) ?_
  simp only [fS,fS2,qA,qC,jW]
  refine Sub.trans (Sub.fold1 0 2 11 rfl (by simp [-gD]<;>omega) rfl (by decide) (by decide) rfl) ?_
  simp only [fS,fS2,qA,qC]
  exact Sub.refl _
 ·simp [-List.drop_one,-gD,qGq,eP]<;>(first | rfl | exact ⟨rfl,rfl⟩ | exact ⟨rfl,rfl,rfl⟩ | skip)
def qRw (k:Nat):Prop:=k=0∨k=1∨k=2∨k=3∨k=4
def qGp (cds:List (List yC)) (n1:Nat) (cs cs':List (List wR)) (tr:List xO) (R:List (List AV)) (v x0 x1:List Int):FP:=eP cds n1 cs cs' tr R v++[(3,some (1,wK x0),some (1,wK x0)),(4,some (1,wK x1),some (1,wK x1))]
theorem qVe {cds:List (List yC)} {n1:Nat} {cs cs':List (List wR)} {tr:List xO} {R:List (List AV)} {v x0 x1:List Int} (hR:okR qRw R):HB (vF (qGp cds n1 cs cs' tr R v x0 x1)) 10:=by
 have:jL (· < 10) R:=qBb (fun n hn=>by rcases hn with rfl | rfl | rfl | rfl | rfl<;>decide) hR
 refine vS _ _ _ _ (vS _ _ _ _ (vS _ _ _ _ (vS _ _ _ _ (vS _ _ _ _ ((mS _).2 trivial) (by decide) (by simp [yR])) (by decide) (by simp [yR])) (by decide) (by simp [yR])) (by decide) this) (by decide) ?_
 simp [yR,jL,jX,bnd]
theorem qJ0 (cds:List (List yC)) (n1:Nat) (cs:List (List wR)) (tr:List xO) (R:List (List AV)) (hR:okR qRw R) (view x0 x1:List Int) (cell:Nat) (v:Int) (go:Bool) (hm:mU cs) (hv:VOk cs view) (hc:cell<24) :
  qZ Tryz.prog num 378 [.ptr 0 0 2,.ns 2 0 view.length,.int .i64 cell,.int .i64 v,.bool go] (qGp cds n1 cs (store cs view cell v go).1 tr R view x0 x1) (.sl .own 1 (wK (store cs view cell v go).2)):=by
 refine EH m378 Tryz.func206 (hh:=qVe hR) ?_
 unfold m378
 have hcl:cell<cs.length:=by rw [hm.len]; exact hc
 have hvl:=hv.1
 have hvc:cell<view.length:=by omega
 have hlc:=hm.cell cell hc
 have hcg:=jM .own cs cell hcl
 have hst:store cs view cell v go=(cs.set cell (cs.getD cell []++[⟨v,if go then view.set cell ((cs.getD cell []).length:Int) else z24.set cell ((cs.getD cell []).length:Int)⟩]),view.set cell ((cs.getD cell []).length:Int)):=rfl
 rw [hst]
 have gt :∀r,((yP .own cs).set cell r).getD cell []=r:=fun r=>wE _ _ _ _ (by rw [yA]; exact hcl)
 generalize hcd:cs.getD cell []=c at *
 have gv:(view.set cell (c.length:Int)).getD cell 0=c.length:=wE _ _ _ _ hvc
 have g24:cell<z24.length:=by rw [bK]; exact hc
 have hvs:cell<(view.set cell (c.length:Int)).length:=by simpa using hvc
 have hi:=qI (view.set cell (c.length:Int)) cell hvs
 have hi2:=qI view cell hvc
 have hi3:=qI z24 cell g24
 simp only [go_sem,seval,qGp,eP]
 refine CA [] (xY view (by omega)) ?_
 try simp only [go_sem,seval]
 repeat refine K ?_
 try simp only [go_sem,seval,hcg,gt,hi,hi2,cB,bK,hi3,gv]
 repeat refine K ?_
 cases go
 ·simp only [go_sem,seval,hcg,gt,hi,cB,bK,hi3,gv]
  repeat refine K ?_
  apply wD
  ·refine Sub.trans (Sub.foldLast 15 1 13 rfl (by simp [-gD]<;>omega) rfl (by decide) (by decide) rfl) ?_
   simp only [fS,fS2,qA,qC,xW,bK]
   refine Sub.trans (Sub.foldAt 11 0 15 rfl (by simp [-gD]<;>omega) rfl (by decide) (by decide) rfl (by simp<;>omega)) ?_
   simp only [fS,fS2,qA,qC,jW]
   refine Sub.trans (Sub.fold1 0 2 11 rfl (by simp [-gD]<;>omega) rfl (by decide) (by decide) rfl) ?_
   simp only [fS,fS2,qA,qC]
   exact Sub.refl _
  ·simp [-List.drop_one,-gD,qGp,eP]<;>(first | rfl | exact ⟨rfl,rfl⟩ | exact ⟨rfl,rfl,rfl⟩ | skip)
 simp only [go_sem,seval,hcg,gt,hi,cB,bK,hi3,gv]
 have hcp:=xY (view.set cell (c.length:Int)) (by simp; omega)
 have htk :∀x:Int,(view.set cell x).take view.length=view.set cell x:=fun x=>List.take_of_length_le (by simp)
 clear hvl
 refine CA [] (hcp) ?_
 try simp only [go_sem,seval]
 repeat refine K ?_
 try simp only [go_sem,seval,hcg,gt,hi,cB,bK,hi3,gv]
 repeat refine K ?_
 apply wD
 ·refine Sub.trans (Sub.foldLast 16 1 14 rfl (by simp [-gD]<;>omega) rfl (by decide) (by decide) rfl) ?_
  simp only [fS,fS2,qA,qC,xW]
  refine Sub.trans (Sub.foldAt 11 0 16 rfl (by simp [-gD]<;>omega) rfl (by decide) (by decide) rfl (by simp<;>omega)) ?_
  simp only [fS,fS2,qA,qC,jW]
  refine Sub.trans (Sub.fold1 0 2 11 rfl (by simp [-gD]<;>omega) rfl (by decide) (by decide) rfl) ?_
  simp only [fS,fS2,qA,qC]
  exact Sub.refl _
 ·simp [-List.drop_one,-gD,qGp,eP]<;>(first | rfl | exact ⟨rfl,rfl⟩ | exact ⟨rfl,rfl,rfl⟩ | skip)
end Go.Sep
