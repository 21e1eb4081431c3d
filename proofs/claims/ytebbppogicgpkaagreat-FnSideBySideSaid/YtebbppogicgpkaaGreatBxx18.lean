/- Contracts of functions. -/
import Derived.Test.YtebbppogicgpkaaGreatBxx17
namespace Go.Sep
set_option maxHeartbeats 16000000
open Go.Proofs
set_option linter.unusedSimpArgs false
set_option linter.unusedVariables false
set_option maxRecDepth 100000
open Nat renaming reduceAdd → qA, reduceMul → qB, reduceEqDiff → qC, reduceBEq → qD
open Int renaming reduceToNat → qE, reduceEq → qF, reduceLT → qG, reduceLE → qH
open List renaming getD_eq_getElem?_getD → gD
def m98:MFn:=⟨10,[.t 4],kr [xI 4 0] (.seq (kr [xv 5 0,xv 6 1,bT 7 .gtr 5 6] (kF 7 [xv 8 0,xv 4 8])) (kR [xv 9 1,xv 4 9]))⟩
def m381:MFn:=⟨33,[.t 4],kr [xo 4 (.mv (.c (.nil)))] (kr [xo 7 (.mkSl [xz] 0 []),xv 5 7] (.seq (kr [xI 6 0] (.blk 0 (.loop (.seq (kr [xv 8 6,xv 9 0,xe 10 9,bT 11 .lss 8 10,xv 12 11,yv 13 6 12,yv 14 1 12,ye 15 14 12,xg 16 (.bin .lss (.t 13) (.t 15)) 12 true,xP 17 12 16] (kX 17 0)) (.seq (.blk 1 (.dreg (.take 0 (xv 20 5) (.take 1 (xv 21 0) (.take 2 (xv 22 6) (.take 3 (xD 23 1 21 22) (.take 4 (xl 24 23) (.take 5 (xv 25 1) (.only 6 [] (xv 26 6) (.only 7 [5] (xD 27 1 25 26) (.only 8 [7,5] (xl 28 27) (.only 9 [4,8,3,7,1,2,5] (xc2 29 98 (.t 24) (.t 28)) (.only 10 [9,4,8,3,7,1,2,5] (xo 30 (.mkSl [xz] 1 [(0,.t 29)])) (.only 11 [0,9,4,8,3,7,1,2,5] (xA 31 1 8 20 30) (.only 12 [0,1,2,3,4,5] (xv 5 31) (.done)))))))))))))))) (xr [xv 18 6,bI 19 .add 18 1,xv 6 19])))))) (kR [xv 32 5,xv 4 32])))⟩
theorem sK {m:qO} (h:yY m=true):nV m≤4000000:=by
 have h:=(jD m).1 h
 have n4:=h.n4
 have hc:=h.cores
 have h1:mK qF9 m.codes≤800*m.codes.length:=qBa (fun b hb=>by
  obtain ⟨i,hi,rfl⟩:=List.getElem_of_mem hb
  have hk:=(h.core i (by omega)).code
  have e:m.codes.getD i []=m.codes[i]:=by simp [List.getD_eq_getElem?_getD,hi]
  rw [e] at hk
  unfold bV at hk
  simp only [Bool.and_eq_true,qK] at hk
  have:=hk.1.1.2
  simp only [qF9]
  omega)
 have h2:mK qFa m.cores≤32*m.cores.length:=qBa (fun b hb=>by
  obtain ⟨i,hi,rfl⟩:=List.getElem_of_mem hb
  have hk:=h.core i hi
  have e:qJ m i=m.cores[i]:=by simp [qJ,List.getD_eq_getElem?_getD,hi]
  have k1:=hk.regs
  have k2:=hk.view.1
  rw [e] at k1 k2
  simp only [qFa]
  omega)
 have h3:mK oS m.mem.cells≤100000*m.mem.cells.length:=qBa (fun b hb=>by
  obtain ⟨i,hi,rfl⟩:=List.getElem_of_mem hb
  have hl:=h.mem.len
  have hk:=(h.mem.cell i (by omega)).2
  have hv:=h.mem.view i (by omega)
  have e:m.mem.cells.getD i []=m.mem.cells[i]:=by simp [List.getD_eq_getElem?_getD,hi]
  rw [e] at hk hv
  have:mK qF8 m.mem.cells[i]≤24*m.mem.cells[i].length:=qBa (fun w hw=>by
   have:=(hv w hw).1
   simp only [qF8]
   omega)
  simp only [oS]
  omega)
 have h4:=h.tr
 unfold uR at h4
 simp only [Bool.and_eq_true,decide_eq_true_eq] at h4
 have h5:=h.mem.len
 unfold nV qX0
 omega
theorem qS1 {m:qO} (h:yY m=true):fC m:=qCv (sK h) (by omega)
def kZ:qO→List dK→qO
 | m,[]=>m
 | m,x::l=>kZ (yJ m x).1 l
theorem qJq :∀(m:qO) (l:List dK) (x:dK),kZ m (l++[x])=(yJ (kZ m l) x).1
 | _,[],_=>rfl
 | m,y::l,x=>by simp only [List.cons_append,kZ,qJq _ l x]
theorem qF3 :∀{m:qO} (l:List dK),yY m=true→yY (kZ m l)=true
 | _,[],h=>h
 | _,x::l,h=>qF3 l (lX x h)
theorem qWa (m:qO) (i:Nat) (late:Int):(mdo m i late).cores.length=m.cores.length∧(mdo m i late).codes=m.codes:=by
 unfold mdo lD stop vT
 repeat' (first | split | (simp only; split))
 all_goals simp
theorem qJp (m:qO) (x:dK):(yJ m x).1.cores.length=m.cores.length∧(yJ m x).1.codes=m.codes:=by
 unfold yJ
 split
 ·exact qWa _ _ _
 ·exact ⟨rfl,rfl⟩
theorem qN9 :∀(m:qO) (l:List dK),(kZ m l).cores.length=m.cores.length∧(kZ m l).codes=m.codes
 | _,[]=>⟨rfl,rfl⟩
 | m,x::l=>by
  have h1:=qJp m x
  have h2:=qN9 (yJ m x).1 l
  exact ⟨by rw [kZ,h2.1,h1.1],by rw [kZ,h2.2,h1.2]⟩
theorem qUk {m:qO} {x:dK} (h:(yJ m x).2≠0):(yJ m x).1=m:=by
 unfold yJ at h⊢
 split
 ·rename_i hc
  rw [if_pos hc] at h
  exact absurd rfl h
 ·rfl
theorem DAN {P:Program} {num:Nat→Nat} {fin:AS→Prop} {f nx:Nat} {ps:List Bool} {xs:List Arg} {t:List (Nat×AV)} {h:wW} {fp:FP} {res:AV} {vargs:List AV} {pend:List (Nat×List Nat)} {dst:Option Nat} {tr:bY} {k:List It} (σ:List (Nat×Nat)) (hc:qU P num f vargs fp res)
  (hk:vc P num fin (.draw tr pend::k) (.mk (dN t dst (yM nx (vU (rnm σ) res)).1) (aE h (fp.map (fun x=>(rnm σ x.1,eH (rnm σ) x.2.1,eH (rnm σ) x.2.2))++fresh (yM nx (vU (rnm σ) res)).2.1)) (yM nx (vU (rnm σ) res)).2.2))
  (hv:qQ (mB (ixm σ) h ps (xs.map (Arg.ev (wK t)))) vargs:=by first | omega | (simp [qQ,qR]; done) | (simp [qQ,qR, *]; done))
  (hvo:zX h (fun n =>∃x∈fp,x.2.1≠none∧n=rnm σ x.1∧ixm σ n=x.1) (fun n =>∃x∈fp,n=rnm σ x.1) ps (xs.map (Arg.ev (wK t))):=by first | omega | (simp [qQ,qR]; done) | (simp [qQ,qR, *]; done))
  (hnd:(fp.map (fun x=>rnm σ x.1)).Nodup:=by first | (simp [qQ,qR]; done) | (simp [qQ,qR, *]; done))
  (hpre :∀x∈fp,qW h (rnm σ x.1)=eH (rnm σ) x.2.1∧(x.2.1=none→nx≤rnm σ x.1)∧rnm σ x.1<nx:=by first | (simp [qQ,qR]; done) | (simp [qQ,qR, *]; done))
  (hnb :∀x∈fp,(∀r,x.2.1=some r→okR (fun k =>∃y∈fp,y.1=k∧y.2.1≠none) r.2)∧(∀r,x.2.2=some r→okR (fun k =>∃y∈fp,y.1=k∧y.2.2≠none) r.2):=by first | (simp [qQ,qR]; done) | (simp [qQ,qR, *]; done))
  (hres:okV (fun k =>∃x∈fp,x.1=k∧x.2.2≠none) res:=by first | (simp [qQ,qR]; done) | (simp [qQ,qR, *]; done))
  (ha:apart pend (fp.map (fun x=>(rnm σ x.1,eH (rnm σ) x.2.1,eH (rnm σ) x.2.2))++fresh (yM nx (vU (rnm σ) res)).2.1):=by first | (simp [qQ,qR]; done) | (simp [qQ,qR, *]; done)):qO2 P num fin (.call f ps xs) pend dst tr k t h nx :=
 sU (qTg σ hc hv hvo hnd hpre hnb hres) ha hk
mutual
theorem qW4 :∀(v:AV),vU id v=v
 | .ptr ..=>rfl
 | .ns ..=>rfl
 | .agg cs=>by simp only [vU,qF2 cs]
 | .tup cs=>by simp only [vU,qF2 cs]
 | .any | .int _ _ | .bool _ | .str _ | .fn _ _ | .nilp | .fptr _ _ _ | .nil | .nilI | .ifc | .sl _ _ _=>by simp only [vU]
theorem qF2 :∀(l:List AV),cZ id l=l
 | []=>rfl
 | c::cs=>by simp only [cZ,qW4 c,qF2 cs]
end
theorem qW6 {A B:Nat→Prop} (hf :∀n,A n→B n) {l:List (List AV)} (h:okR A l):jW B l:=by
 have e :∀(l:List (List AV)),cY id l=l:=fun l=>by
  induction l with
  | nil=>rfl
  | cons r l ih =>
   have hL :∀(r:List AV),cZ id r=r:=fun r=>qF2 r
   simp only [cY,hL,ih]
 have:=qFz (f:=id) (B:=B) hf l h
 rwa [e] at this
theorem qK5 (f:Nat→Nat) (l:List bC):cY f (cores .own l)=cores .own l:=iP f _ ((oJ l).2 trivial)
theorem qT6 {A:Nat→Prop} (l:List bC):okR A (cores .own l)↔True:=by simp [fW _ ((oJ l).2 trivial)]
theorem qT5 {A:Nat→Prop} (l:List bC) (i:Nat) (r:List AV) (h:okL A r):okR A ((cores .own l).set i r):=qBu _ _ _ (fW _ ((oJ l).2 trivial)) h
theorem qO5 (f:Nat→Nat) (l:List (List wO)):cY f (jO .own l)=jO .own l:=iP f _ ((pU l).2 trivial)
theorem qVf {A:Nat→Prop} (l:List (List wO)):okR A (jO .own l)↔True:=by simp [fW _ ((pU l).2 trivial)]
theorem oM {A:Nat→Prop} (l:List (List wO)) (i:Nat) (r:List AV) (h:okL A r):okR A ((jO .own l).set i r):=qBu _ _ _ (fW _ ((pU l).2 trivial)) h
theorem qK8 (f:Nat→Nat) (l:List (List yC)):cY f (codes .own l)=codes .own l:=iP f _ ((hU l).2 trivial)
theorem qTa {A:Nat→Prop} (l:List (List yC)):okR A (codes .own l)↔True:=by simp [fW _ ((hU l).2 trivial)]
theorem qK9 {A:Nat→Prop} (l:List (List yC)) (i:Nat) (r:List AV) (h:okL A r):okR A ((codes .own l).set i r):=qBu _ _ _ (fW _ ((hU l).2 trivial)) h
theorem qFb (f:Nat→Nat) (l:List wO):cY f (jH .own l)=jH .own l:=iP f _ ((fE l).2 trivial)
theorem qOn {A:Nat→Prop} (l:List wO):okR A (jH .own l)↔True:=by simp [fW _ ((fE l).2 trivial)]
theorem qOm {A:Nat→Prop} (l:List wO) (i:Nat) (r:List AV) (h:okL A r):okR A ((jH .own l).set i r):=qBu _ _ _ (fW _ ((fE l).2 trivial)) h
theorem qNs (f:Nat→Nat) (l:List Int):cY f (wT l)=wT l:=iP f _ ((gT l).2 trivial)
theorem qUs {A:Nat→Prop} (l:List Int):okR A (wT l)↔True:=by simp [fW _ ((gT l).2 trivial)]
attribute [go_sem] eH cY qFy qK5 qO5 qK8 qFb qNs
attribute [simp] eH cY qFy qK5 qO5 qK8 qFb qNs okR qT6 qVf qTa qOn qUs qT5 oM qK9 qOm
theorem F1 (nm f k:Nat) {off:Nat} {t:List (Nat×AV)} {h:wW} {nx sz sz' len:Nat} {rows':List (List AV)} {r:List AV} {s':AS} (hr:Sub (.mk t (del (put h nm (sz,[r.set f (.sl .own sz' (eM off len rows'))])) k) nx) s')
  (hk:qW h k=some (sz',rows'):=by rfl) (hnm:qW h nm=some (sz,[r]):=by rfl) (hne:k≠nm:=by decide) (hk10:10≤k:=by decide)
  (hf:r[f]?=some (.ns k off len):=by rfl) (hlen:off+len≤rows'.length:=by (simp [-List.getD_eq_getElem?_getD]<;>omega)):Sub (.mk t h nx) s':=Sub.trans (Sub.fold1 nm f k hk hlen hnm hne hk10 hf) hr
theorem FA (nm f k:Nat) {off i:Nat} {t:List (Nat×AV)} {h:wW} {nx sz sz' len:Nat} {l rows':List (List AV)} {r:List AV} {s':AS} (hr:Sub (.mk t (del (put h nm (sz,l.set i (r.set f (.sl .own sz' (eM off len rows'))))) k) nx) s')
  (hk:qW h k=some (sz',rows'):=by rfl) (hnm:qW h nm=some (sz,l.set i r):=by rfl) (hne:k≠nm:=by decide) (hk10:10≤k:=by decide)
  (hf:r[f]?=some (.ns k off len):=by rfl) (hlen:off+len≤rows'.length:=by (simp [-List.getD_eq_getElem?_getD]<;>omega)) (hi:i<l.length:=by (simp<;>omega)):Sub (.mk t h nx) s':=Sub.trans (Sub.foldAt nm f k hk hlen hnm hne hk10 hf hi) hr
theorem qNp :∀(a b:List Int) (x y:Int),a.length=b.length→join (a++[x]) (b++[y])=join a b++[max x y]
 | [],[],_,_,_=>rfl
 | [],_::_,_,_,h=>by simp at h
 | _::_,[],_,_,h=>by simp at h
 | a::l,b::k,x,y,h=>by simp only [List.cons_append,join,qNp l k x y (by simpa using h)]
theorem qSy (a b:List Int) (i:Nat) (ha:i<a.length) (hb:i<b.length):join (a.take (i+1)) (b.take (i+1))=join (a.take i) (b.take i)++[max (a.getD i 0) (b.getD i 0)]:=by
 rw [uH a 0 i ha,uH b 0 i hb,qNp _ _ _ _ (by simp; omega)]
theorem qNo :∀(a b:List Int),(join a b).length=min a.length b.length
 | [],_=>by simp [join]
 | _::_,[]=>by simp [join]
 | a::l,b::k=>by simp only [join,List.length_cons,qNo l k]; omega
theorem qGw :∀(a b:List Int) (i:Nat),a.length≤i∨b.length≤i→join (a.take i) (b.take i)=join a b
 | [],_,_,_=>by simp [join]
 | _::_,[],_,_=>by simp [join]
 | a::l,b::k,0,h=>by simp at h
 | a::l,b::k,i+1,h=>by simp only [List.take_succ_cons,join,qGw l k i (by simpa using h)]
theorem tP (a b:Int):qU Tryz.prog num 98 [.int .i64 a,.int .i64 b] [] (.int .i64 (max a b)):=by
 refine EN m98 Tryz.func133 ?_
 unfold m98
 by_cases h:b<a
 ·simp only [go_sem,seval,h]
  refine fz ?_; simp [qZ,qQ,qR,qN,-List.drop_one]
  omega
 ·simp only [go_sem,seval,h]
  refine fz ?_; simp [qZ,qQ,qR,qN,-List.drop_one]
  omega
theorem qX6 (x y:Int):(if y>x then y else x)=max x y:=by split<;>omega
theorem qMo (a b:List Int) (h1:a.length<2^40):qU Tryz.prog num 381 [.sl .bw 1 (wT a),.sl .bw 1 (wT b)] [] (.sl .own 1 (wT (join a b))):=by
 refine EN m381 Tryz.func214 ?_
 unfold m381
 simp only [go_sem,seval]
 refine wB (ι:=Nat) (fun i=>.mk [(0,.sl .bw 1 (wT a)),(1,.sl .bw 1 (wT b)),(5,.ns 10 0 i),(6,.int .i64 i)] [(10,1,wT (join (a.take i) (b.take i)))] 11) (fun i=>i≤a.length∧i≤b.length) (fun i=>a.length-i) 0 (by simp) ?_ ?_
 ·refine Sub.shape [] id (by omega) ?_ ?_ ?_ ?_<;>simp [qM]
  all_goals simp [join,wT]
 ·rintro i ⟨hi,hj⟩
  have hlt:(join (a.take i) (b.take i)).length=i:=by rw [qNo]; simp; omega
  by_cases hc1:(i:Int)<a.length
  case neg =>
   have hd:join (a.take i) (b.take i)=join a b:=qGw a b i (by omega)
   simp only [go_sem,seval,hc1,hlt]
   refine fz ?_; simp [qZ,qQ,qR,qN,-List.drop_one]
   rw [hd] at hlt⊢
   simp [hlt]
  by_cases hc2:(i:Int)<b.length
  case neg =>
   have hd:join (a.take i) (b.take i)=join a b:=qGw a b i (by omega)
   simp only [go_sem,seval,hc1,hc2,hlt]
   refine fz ?_; simp [qZ,qQ,qR,qN,-List.drop_one]
   rw [hd] at hlt⊢
   simp [hlt]
  have g1:i<a.length:=by omega
  have g2:i<b.length:=by omega
  simp only [go_sem,seval,hc1,hc2,hlt,qX6,qI a i g1,qI b i g2,qS (i:=i) (by omega)]
  repeat refine K ?_
  refine DA [] (tP (a.getD i 0) (b.getD i 0)) ?_
  try simp only [go_sem,seval]
  repeat refine K ?_
  try simp only [go_sem,seval,hlt,qS (i:=i) (by omega)]
  have hn:=qSy a b i g1 g2
  refine qT (i+1) ?_ ⟨g1,g2⟩ (by omega)
  rw [hn]
  refine Sub.shape [] (fun n=>if n=10 then 12 else n) (by omega) ?_ ?_ ?_ ?_<;>simp [qM]
  exact .inl (by simp [wT])
def qXo (k:Nat):Prop:=k=0∨k=1∨k=2
def mL (cds:List (List yC)) (n1:Nat) (cs cs':List (List wO)) (tr:List aT) (R:List (List AV)) (v:List Int):FP :=
 [(0,some (4,[[.sl .own 1 (codes .own cds),.ns 1 0 n1,.sl .own 1 (jO .own cs),.sl .own 2 (jL tr)]]),some (4,[[.sl .own 1 (codes .own cds),.ns 1 0 n1,.sl .own 1 (jO .own cs'),.sl .own 2 (jL tr)]])),
  (1,some (4,R),some (4,R)),(2,some (1,wT v),some (1,wT v))]
theorem mP (c:List wO) (v:Int) (l:List Int):jH .own c++[[.int .i64 v,.sl .own 1 (wT l)]]=jH .own (c++[⟨v,l⟩]):=by simp [jH,nL]
def z24:List Int:=List.replicate 24 0
@[simp] theorem iM:z24.length=24:=rfl
theorem rR:[[AV.int .i64 0],[AV.int .i64 0],[AV.int .i64 0],[AV.int .i64 0],[AV.int .i64 0],[AV.int .i64 0],[AV.int .i64 0],[AV.int .i64 0],[AV.int .i64 0],[AV.int .i64 0],[AV.int .i64 0],[AV.int .i64 0],[AV.int .i64 0],[AV.int .i64 0],[AV.int .i64 0],[AV.int .i64 0],[AV.int .i64 0],[AV.int .i64 0],[AV.int .i64 0],[AV.int .i64 0],[AV.int .i64 0],[AV.int .i64 0],[AV.int .i64 0],[AV.int .i64 0]]=wT z24:=rfl
def qWm (cds:List (List yC)) (n1:Nat) (cs cs':List (List wO)) (tr:List aT) (R:List (List AV)) (v x0:List Int):FP:=mL cds n1 cs cs' tr R v++[(3,some (1,wT x0),some (1,wT x0))]
def qWl (cds:List (List yC)) (n1:Nat) (cs cs':List (List wO)) (tr:List aT) (R:List (List AV)) (v x0 x1:List Int):FP:=mL cds n1 cs cs' tr R v++[(3,some (1,wT x0),some (1,wT x0)),(4,some (1,wT x1),some (1,wT x1))]
def m372:MFn:=⟨22,[.t 2],kr [xo 2 (.mv (.c (.nil)))] (kr [xo 5 (.mkSl [.nil] 0 []),xv 3 5] (.seq (kr [xI 4 0] (.blk 0 (.loop (.seq (kr [xv 6 4,xv 7 0,xe 8 7,bT 9 .lss 6 8] (kX 9 0)) (.seq (.blk 1 (xr [xv 12 3,xo 13 (.mkSl [xz,xz,xz,xz,xz] 0 []),xv 14 0,xv 15 4,xD 16 1 14 15,xl 17 16,xA 18 5 40 13 17,xo 19 (.mkSl [.nil] 1 [(0,.t 18)]),xA 20 1 24 12 19,xv 3 20])) (xr [xv 10 4,bI 11 .add 10 1,xv 4 11])))))) (kR [xv 21 3,xv 2 21])))⟩
theorem qAy (l:List (List yC)) (i:Nat) (h:i<l.length):codes .own (l.take i)++[[AV.sl .own 5 (yO (l.getD i []))]]=codes .own (l.take (i+1)):=by
 rw [List.take_succ_eq_append_getElem h,←qCc]
 simp [codes,List.getD_eq_getElem?_getD,h]
theorem qPg (l:List (List yC)) (h1:l.length<2^40) (h2 :∀c∈l,c.length<2^40):qU Tryz.prog num 372 [.sl .bw 1 (codes .bw l)] [] (.sl .own 1 (codes .own l)):=by
 refine EN m372 Tryz.func155 ?_
 unfold m372
 simp only [go_sem,seval]
 refine wB (ι:=Nat) (fun i=>.mk [(0,.sl .bw 1 (codes .bw l)),(3,.ns 10 0 i),(4,.int .i64 i)] [(10,1,codes .own (l.take i))] 11) (fun i=>i≤l.length) (fun i=>l.length-i) 0 (by simp) ?_ ?_
 ·refine Sub.shape [] id (by omega) ?_ ?_ ?_ ?_<;>simp [qM]
 ·rintro i hi
  simp only [go_sem,seval]
  refine qP (fun hc=>?_) (fun hc=>?_)
  ·simp only [decide_eq_true_eq] at hc
   have hl':i<l.length:=by omega
   have hlt:(l.take i).length=i:=by simp; omega
   have hr:=h2 _ (wY l i [] hl')
   simp only [go_sem,seval,qS (i:=i) (by omega),fB .bw l i hl',hlt]
   repeat refine K ?_
   refine qT (i+1) ?_ hl' (by omega)
   refine Sub.trans (Sub.foldLast 14 0 12 rfl (by simp [-gD]<;>omega) rfl (by decide) (by decide) rfl) ?_
   simp only [fS,fS2,qA,qC,qAy l i hl']
   refine Sub.shape [] (fun n=>if n=10 then 14 else n) (by omega) ?_ ?_ ?_ ?_<;>simp [qM]
  ·simp only [decide_eq_false_iff_not] at hc
   obtain rfl:i=l.length:=by omega
   have hie:l.take l.length=l:=List.take_length
   simp only [go_sem,seval,hie]
   refine fz ?_; simp [qZ,qQ,qR,qN,-List.drop_one]
def qWo (k:Int) (m:qO):FP:=[(0,some (1,codes .own m.codes),some (1,codes .own (mks qKr qPc k m.codes))),(1,some (4,cores .own m.cores),some (4,cores .own (mks qTr qSq (k+mK qKr m.codes) m.cores))),(2,some (1,jO .own m.mem.cells),some (1,jO .own (mks qQg qNf (k+mK qKr m.codes+mK qTr m.cores) m.mem.cells))),(3,some (2,jL m.tr),some (2,jL (mks qXj qSp (k+mK qKr m.codes+mK qTr m.cores+mK qQg m.mem.cells) m.tr)))]
attribute [go_sem] qWo
attribute [simp] qWo
end Go.Sep
