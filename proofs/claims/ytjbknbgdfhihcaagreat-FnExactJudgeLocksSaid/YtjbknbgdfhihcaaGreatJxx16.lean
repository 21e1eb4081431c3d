/- Contracts of functions. -/
import Derived.Test.YtjbknbgdfhihcaaGreatJxx13
namespace Go.Sep
set_option maxHeartbeats 16000000
open Go.Proofs
set_option linter.unusedSimpArgs false
set_option linter.unusedVariables false
set_option maxRecDepth 100000
open Nat renaming reduceAdd → qA, reduceMul → qB, reduceEqDiff → qC, reduceBEq → qD
open Int renaming reduceToNat → qE, reduceEq → qF, reduceLT → qG, reduceLE → qH
open List renaming getD_eq_getElem?_getD → gD
def m98:MFn:=⟨10,[.t 4],kr [xI 4 0] (.seq (kr [xv 5 0,xv 6 1,bT 7 .gtr 5 6] (kF 7 [xv 8 0,xv 4 8])) (kR [xv 9 1,xv 4 9]))⟩
def m368:MFn:=⟨14,[.t 4],kr [xF 4] (kR [xv 5 0,xk 6 5,xa 7 0 6,xl 8 7,xv 9 1,xD 10 1 8 9,xl 11 10,xe 12 11,bI 13 .lss 12 4000,xv 4 13])⟩
def m377:MFn:=⟨58,[.t 10,.t 11],kr [xI 10 0,xo 11 (.mv (.c (.nil)))] (kr [xv 16 0,xk 17 16,xa 18 0 17,xl 19 18,xv 20 2,xD 21 1 19 20,xl 22 21,xe 23 22,bI 24 .sub 23 1,xv 12 24] (kr [xv 25 12,xv 26 3,xo 27 (.mx (.t 26) (xi 0)),bT 28 .sub 25 27,xv 29 1,xv 30 2,xD 31 1 29 30,xl 32 31,xo 33 (.mx (.t 28) (.t 32)),xv 13 33] (kr [xv 34 1,xc1 35 36 (.t 34),xv 14 35] (kr [xv 36 14,xv 37 2,xv 38 13,xD 39 1 36 37,xS 1 39 38] (kr [xv 40 0,xk 41 40,xa 42 0 41,xl 43 42,xv 44 2,xD 45 1 43 44,xl 46 45,xv 47 13,xD 48 2 46 47,xm 49 2 48,xo 15 (.alloc [.int .i64 0,.nil]),xS 2 15 49] (.seq (kr [xv 50 4] (.cond 50 (xr [xv 51 14,xa 52 1 15,xl 53 52,xc2 54 382 (.t 51) (.t 53),xv 14 54]) (.skip))) (kR [xa 55 0 15,xl 56 55,xv 57 14,xv 10 56,xv 11 57])))))))⟩
def m378:MFn:=⟨56,[.t 10],kr [xo 10 (.mv (.c (.nil)))] (kr [xv 13 1,xc1 14 36 (.t 13),xv 11 14] (kr [xv 15 11,xv 16 2,xv 17 0,xk 18 17,xa 19 0 18,xl 20 19,xv 21 2,xD 22 1 20 21,xl 23 22,xe 24 23,xD 25 1 15 16,xS 1 25 24] (kr [xo 26 (.mkS [xz] 8 (xi 24) (xi 24)),xv 12 26] (kr [xv 27 12,xv 28 2,xv 29 11,xv 30 2,xD 31 1 29 30,xl 32 31,xD 33 1 27 28,xS 1 33 32] (.seq (kr [xv 34 4] (.cond 34 (xr [xv 35 11,xc1 36 36 (.t 35),xv 12 36]) (.skip))) (.seq (.dreg (.take 0 (xv 37 0) (.take 1 (xk 38 37) (.take 2 (xa 39 0 38) (.take 3 (xl 40 39) (.take 4 (xv 41 2) (.take 5 (xv 42 0) (.take 6 (xk 43 42) (.take 7 (xa 44 0 43) (.take 8 (xl 45 44) (.take 9 (xv 46 2) (.take 10 (xD 47 1 45 46) (.take 11 (xl 48 47) (.take 12 (xv 49 3) (.only 13 [] (xv 50 12) (.only 14 [12] (xo 51 (.build [.int .i64 0,.nil] [(0,1,.t 49),(1,1,.t 50)])) (.only 15 [14,12] (xo 52 (.mkSl [.int .i64 0,.nil] 1 [(0,.t 51)])) (.only 16 [11,15,10,14,8,9,12,7,6,5] (xA 53 2 32 48 52) (.only 17 [0,1,2,3,4,5,6,7,8,9,10,11,12] (xD 54 1 40 41) (.only 18 [0,1,2,3,4,5,6,7,8,9,10,11,12] (xS 1 54 53) (.done))))))))))))))))))))) (kR [xv 55 11,xv 10 55])))))))⟩
def m381:MFn:=⟨33,[.t 4],kr [xo 4 (.mv (.c (.nil)))] (kr [xo 7 (.mkSl [xz] 0 []),xv 5 7] (.seq (kr [xI 6 0] (.blk 0 (.loop (.seq (kr [xv 8 6,xv 9 0,xe 10 9,bT 11 .lss 8 10,xv 12 11,yv 13 6 12,yv 14 1 12,ye 15 14 12,xg 16 (.bin .lss (.t 13) (.t 15)) 12 true,xP 17 12 16] (kX 17 0)) (.seq (.blk 1 (.dreg (.take 0 (xv 20 5) (.take 1 (xv 21 0) (.take 2 (xv 22 6) (.take 3 (xD 23 1 21 22) (.take 4 (xl 24 23) (.take 5 (xv 25 1) (.only 6 [] (xv 26 6) (.only 7 [5] (xD 27 1 25 26) (.only 8 [7,5] (xl 28 27) (.only 9 [4,8,3,7,1,2,5] (xc2 29 98 (.t 24) (.t 28)) (.only 10 [9,4,8,3,7,1,2,5] (xo 30 (.mkSl [xz] 1 [(0,.t 29)])) (.only 11 [0,9,4,8,3,7,1,2,5] (xA 31 1 8 20 30) (.only 12 [0,1,2,3,4,5] (xv 5 31) (.done)))))))))))))))) (xr [xv 18 6,bI 19 .add 18 1,xv 6 19])))))) (kR [xv 32 5,xv 4 32])))⟩
def m382:MFn:=⟨33,[.t 4],kr [xo 4 (.mv (.c (.nil)))] (kr [xo 7 (.mkSl [xz] 0 []),xv 5 7] (.seq (kr [xI 6 0] (.blk 0 (.loop (.seq (kr [xv 8 6,xv 9 0,xe 10 9,bT 11 .lss 8 10,xv 12 11,yv 13 6 12,yv 14 1 12,ye 15 14 12,xg 16 (.bin .lss (.t 13) (.t 15)) 12 true,xP 17 12 16] (kX 17 0)) (.seq (.blk 1 (.dreg (.take 0 (xv 20 5) (.take 1 (xv 21 0) (.take 2 (xv 22 6) (.take 3 (xD 23 1 21 22) (.take 4 (xl 24 23) (.take 5 (xv 25 1) (.only 6 [] (xv 26 6) (.only 7 [5] (xD 27 1 25 26) (.only 8 [7,5] (xl 28 27) (.only 9 [4,8,3,7,1,2,5] (xo 29 (.mx (.t 24) (.t 28))) (.only 10 [9,4,8,3,7,1,2,5] (xo 30 (.mkSl [xz] 1 [(0,.t 29)])) (.only 11 [0,10,9,4,8,3,7,1,2,5] (xA 31 1 8 20 30) (.only 12 [0,1,2,3,4,5] (xv 5 31) (.done)))))))))))))))) (xr [xv 18 6,bI 19 .add 18 1,xv 6 19])))))) (kR [xv 32 5,xv 4 32])))⟩
theorem machineOk_z {m:Machine} (h:machineOk m=true):zMachine m≤4000000:=by
 have h:=(qC0 m).1 h
 have n4:=h.n4
 have hc:=h.cores
 have h1:tots zStepS m.codes≤800*m.codes.length:=tots_le (fun b hb=>by
  obtain ⟨i,hi,rfl⟩:=List.getElem_of_mem hb
  have hk:=(h.core i (by omega)).code
  have e:m.codes.getD i []=m.codes[i]:=by simp [List.getD_eq_getElem?_getD,hi]
  rw [e] at hk
  unfold codeOk at hk
  simp only [Bool.and_eq_true,within_iff] at hk
  have:=hk.1.1.2
  simp only [zStepS]
  omega)
 have h2:tots zCore m.cores≤32*m.cores.length:=tots_le (fun b hb=>by
  obtain ⟨i,hi,rfl⟩:=List.getElem_of_mem hb
  have hk:=h.core i hi
  have e:coreAt m i=m.cores[i]:=by simp [coreAt,List.getD_eq_getElem?_getD,hi]
  have k1:=hk.regs
  have k2:=hk.view.1
  rw [e] at k1 k2
  simp only [zCore]
  omega)
 have h3:tots zWriteS m.mem.cells≤100000*m.mem.cells.length:=tots_le (fun b hb=>by
  obtain ⟨i,hi,rfl⟩:=List.getElem_of_mem hb
  have hl:=h.mem.len
  have hk:=(h.mem.cell i (by omega)).2
  have hv:=h.mem.view i (by omega)
  have e:m.mem.cells.getD i []=m.mem.cells[i]:=by simp [List.getD_eq_getElem?_getD,hi]
  rw [e] at hk hv
  have:tots zWrite m.mem.cells[i]≤24*m.mem.cells[i].length:=tots_le (fun w hw=>by
   have:=(hv w hw).1
   simp only [zWrite]
   omega)
  simp only [zWriteS]
  omega)
 have h4:=h.tr
 unfold notesOk at h4
 simp only [Bool.and_eq_true,decide_eq_true_eq] at h4
 have h5:=h.mem.len
 unfold zMachine zMem
 omega
def mrun:Machine→List Pick→Machine
 | m,[]=>m
 | m,x::l=>mrun (mstep m x).1 l
theorem mrun_snoc :∀(m:Machine) (l:List Pick) (x:Pick),mrun m (l++[x])=(mstep (mrun m l) x).1
 | _,[],_=>rfl
 | m,y::l,x=>by simp only [List.cons_append,mrun,mrun_snoc _ l x]
theorem mrun_ok :∀{m:Machine} (l:List Pick),machineOk m=true→machineOk (mrun m l)=true
 | _,[],h=>h
 | _,x::l,h=>mrun_ok l (mstep_ok x h)
theorem mdo_len (m:Machine) (i:Nat) (late:Int):(mdo m i late).cores.length=m.cores.length∧(mdo m i late).codes=m.codes:=by
 unfold mdo goOn stop setK
 repeat' (first | split | (simp only; split))
 all_goals simp
theorem mstep_len (m:Machine) (x:Pick):(mstep m x).1.cores.length=m.cores.length∧(mstep m x).1.codes=m.codes:=by
 unfold mstep
 split
 ·exact mdo_len _ _ _
 ·exact ⟨rfl,rfl⟩
theorem mrun_len :∀(m:Machine) (l:List Pick),(mrun m l).cores.length=m.cores.length∧(mrun m l).codes=m.codes
 | _,[]=>⟨rfl,rfl⟩
 | m,x::l=>by
  have h1:=mstep_len m x
  have h2:=mrun_len (mstep m x).1 l
  exact ⟨by rw [mrun,h2.1,h1.1],by rw [mrun,h2.2,h1.2]⟩
theorem mstep_no {m:Machine} {x:Pick} (h:(mstep m x).2≠0):(mstep m x).1=m:=by
 unfold mstep at h⊢
 split
 ·rename_i hc
  rw [if_pos hc] at h
  exact absurd rfl h
 ·rfl
theorem CAN {P:Program} {num:Nat→Nat} {fin:AS→Prop} {f nx:Nat} {ps:List Bool} {xs:List Arg} {t:List (Nat×AV)} {h:Heap} {fp:FP} {res:AV} {vargs:List AV} {dst:Option Nat} {k:List It} (σ:List (Nat×Nat)) (hc:CallOk P num f vargs fp res)
  (hk:vc P num fin k (.mk (putD t dst (openV nx (renV (rnm σ) res)).1) (app1 h (fp.map (fun x=>(rnm σ x.1,renO (rnm σ) x.2.1,renO (rnm σ) x.2.2))++fresh (openV nx (renV (rnm σ) res)).2.1)) (openV nx (renV (rnm σ) res)).2.2))
  (hv:nilL (hand (ixm σ) h ps (xs.map (Arg.ev (lookT t)))) vargs:=by first | omega | (simp [nilL,nilV]; done) | (simp [nilL,nilV, *]; done))
  (hvo:handOk h (fun n =>∃x∈fp,x.2.1≠none∧n=rnm σ x.1∧ixm σ n=x.1) (fun n =>∃x∈fp,n=rnm σ x.1) ps (xs.map (Arg.ev (lookT t))):=by first | omega | (simp [nilL,nilV]; done) | (simp [nilL,nilV, *]; done))
  (hnd:(fp.map (fun x=>rnm σ x.1)).Nodup:=by first | (simp [nilL,nilV]; done) | (simp [nilL,nilV, *]; done))
  (hpre :∀x∈fp,look h (rnm σ x.1)=renO (rnm σ) x.2.1∧(x.2.1=none→nx≤rnm σ x.1)∧rnm σ x.1<nx:=by first | (simp [nilL,nilV]; done) | (simp [nilL,nilV, *]; done))
  (hnb :∀x∈fp,(∀r,x.2.1=some r→okR (fun k =>∃y∈fp,y.1=k∧y.2.1≠none) r.2)∧(∀r,x.2.2=some r→okR (fun k =>∃y∈fp,y.1=k∧y.2.2≠none) r.2):=by first | (simp [nilL,nilV]; done) | (simp [nilL,nilV, *]; done))
  (hres:okV (fun k =>∃x∈fp,x.1=k∧x.2.2≠none) res:=by first | (simp [nilL,nilV]; done) | (simp [nilL,nilV, *]; done)):calls P num fin (.call f ps xs) dst k (.mk t h nx) :=
 calls_intro (call_okN0 σ hc hv hvo hnd hpre hnb hres) hk
theorem DAN {P:Program} {num:Nat→Nat} {fin:AS→Prop} {f nx:Nat} {ps:List Bool} {xs:List Arg} {t:List (Nat×AV)} {h:Heap} {fp:FP} {res:AV} {vargs:List AV} {pend:List (Nat×List Nat)} {dst:Option Nat} {tr:DTree} {k:List It} (σ:List (Nat×Nat)) (hc:CallOk P num f vargs fp res)
  (hk:vc P num fin (.draw tr pend::k) (.mk (putD t dst (openV nx (renV (rnm σ) res)).1) (app1 h (fp.map (fun x=>(rnm σ x.1,renO (rnm σ) x.2.1,renO (rnm σ) x.2.2))++fresh (openV nx (renV (rnm σ) res)).2.1)) (openV nx (renV (rnm σ) res)).2.2))
  (hv:nilL (hand (ixm σ) h ps (xs.map (Arg.ev (lookT t)))) vargs:=by first | omega | (simp [nilL,nilV]; done) | (simp [nilL,nilV, *]; done))
  (hvo:handOk h (fun n =>∃x∈fp,x.2.1≠none∧n=rnm σ x.1∧ixm σ n=x.1) (fun n =>∃x∈fp,n=rnm σ x.1) ps (xs.map (Arg.ev (lookT t))):=by first | omega | (simp [nilL,nilV]; done) | (simp [nilL,nilV, *]; done))
  (hnd:(fp.map (fun x=>rnm σ x.1)).Nodup:=by first | (simp [nilL,nilV]; done) | (simp [nilL,nilV, *]; done))
  (hpre :∀x∈fp,look h (rnm σ x.1)=renO (rnm σ) x.2.1∧(x.2.1=none→nx≤rnm σ x.1)∧rnm σ x.1<nx:=by first | (simp [nilL,nilV]; done) | (simp [nilL,nilV, *]; done))
  (hnb :∀x∈fp,(∀r,x.2.1=some r→okR (fun k =>∃y∈fp,y.1=k∧y.2.1≠none) r.2)∧(∀r,x.2.2=some r→okR (fun k =>∃y∈fp,y.1=k∧y.2.2≠none) r.2):=by first | (simp [nilL,nilV]; done) | (simp [nilL,nilV, *]; done))
  (hres:okV (fun k =>∃x∈fp,x.1=k∧x.2.2≠none) res:=by first | (simp [nilL,nilV]; done) | (simp [nilL,nilV, *]; done))
  (ha:apart pend (fp.map (fun x=>(rnm σ x.1,renO (rnm σ) x.2.1,renO (rnm σ) x.2.2))++fresh (openV nx (renV (rnm σ) res)).2.1):=by first | (simp [nilL,nilV]; done) | (simp [nilL,nilV, *]; done)):dcall P num fin (.call f ps xs) pend dst tr k t h nx :=
 dcall_intro (call_okN0 σ hc hv hvo hnd hpre hnb hres) ha hk
mutual
theorem renV_id :∀(v:AV),renV id v=v
 | .ptr ..=>rfl
 | .ns ..=>rfl
 | .agg cs=>by simp only [renV,renL_id cs]
 | .tup cs=>by simp only [renV,renL_id cs]
 | .any | .int _ _ | .bool _ | .str _ | .fn _ _ | .nilp | .fptr _ _ _ | .nil | .nilI | .ifc | .sl _ _ _=>by simp only [renV]
theorem renL_id :∀(l:List AV),renL id l=l
 | []=>rfl
 | c::cs=>by simp only [renL,renV_id c,renL_id cs]
end
theorem okR_bnd {A B:Nat→Prop} (hf :∀n,A n→B n) {l:List (List AV)} (h:okR A l):bndr B l:=by
 have e :∀(l:List (List AV)),renR id l=l:=fun l=>by
  induction l with
  | nil=>rfl
  | cons r l ih =>
   have hL :∀(r:List AV),renL id r=r:=fun r=>renL_id r
   simp only [renR,hL,ih]
 have:=renR_bnd (f:=id) (B:=B) hf l h
 rwa [e] at this
mutual
theorem okV_mono {A B:Nat→Prop} (hf :∀n,A n→B n) :∀(v:AV),okV A v→okV B v
 | .ptr nm _ _,h=>hf nm h
 | .ns nm _ _,h=>hf nm h
 | .agg cs,h=>by simp only [okV] at h⊢; exact okL_mono hf cs h
 | .tup cs,h=>by simp only [okV] at h⊢; exact okL_mono hf cs h
 | .any,_=>trivial
 | .int _ _,h | .bool _,h | .str _,h | .fn _ _,h | .nilp,h | .fptr _ _ _,h | .nil,h | .nilI,h | .ifc,h | .sl _ _ _,h=>by simpa only [okV] using h
theorem okL_mono {A B:Nat→Prop} (hf :∀n,A n→B n) :∀(l:List AV),okL A l→okL B l
 | [],_=>trivial
 | c::cs,h=>⟨okV_mono hf c h.1,okL_mono hf cs h.2⟩
end
theorem okR_mono {A B:Nat→Prop} (hf :∀n,A n→B n) :∀{l:List (List AV)},okR A l→okR B l
 | [],_=>trivial
 | r::l,h=>⟨okL_mono hf r h.1,okR_mono hf h.2⟩
theorem F1 (nm f k:Nat) {off:Nat} {t:List (Nat×AV)} {h:Heap} {nx sz sz' len:Nat} {rows':List (List AV)} {r:List AV} {s':AS} (hr:Sub (.mk t (del (put h nm (sz,[r.set f (.sl .own sz' (partR off len rows'))])) k) nx) s')
  (hk:look h k=some (sz',rows'):=by rfl) (hnm:look h nm=some (sz,[r]):=by rfl) (hne:k≠nm:=by decide) (hk10:10≤k:=by decide)
  (hf:r[f]?=some (.ns k off len):=by rfl) (hlen:off+len≤rows'.length:=by (simp [-List.getD_eq_getElem?_getD]<;>omega)):Sub (.mk t h nx) s':=Sub.trans (Sub.fold1 nm f k hk hlen hnm hne hk10 hf) hr
theorem FA (nm f k:Nat) {off i:Nat} {t:List (Nat×AV)} {h:Heap} {nx sz sz' len:Nat} {l rows':List (List AV)} {r:List AV} {s':AS} (hr:Sub (.mk t (del (put h nm (sz,l.set i (r.set f (.sl .own sz' (partR off len rows'))))) k) nx) s')
  (hk:look h k=some (sz',rows'):=by rfl) (hnm:look h nm=some (sz,l.set i r):=by rfl) (hne:k≠nm:=by decide) (hk10:10≤k:=by decide)
  (hf:r[f]?=some (.ns k off len):=by rfl) (hlen:off+len≤rows'.length:=by (simp [-List.getD_eq_getElem?_getD]<;>omega)) (hi:i<l.length:=by (simp<;>omega)):Sub (.mk t h nx) s':=Sub.trans (Sub.foldAt nm f k hk hlen hnm hne hk10 hf hi) hr
theorem join_app :∀(a b:List Int) (x y:Int),a.length=b.length→join (a++[x]) (b++[y])=join a b++[max x y]
 | [],[],_,_,_=>rfl
 | [],_::_,_,_,h=>by simp at h
 | _::_,[],_,_,h=>by simp at h
 | a::l,b::k,x,y,h=>by simp only [List.cons_append,join,join_app l k x y (by simpa using h)]
theorem join_take (a b:List Int) (i:Nat) (ha:i<a.length) (hb:i<b.length):join (a.take (i+1)) (b.take (i+1))=join (a.take i) (b.take i)++[max (a.getD i 0) (b.getD i 0)]:=by
 rw [qBm a 0 i ha,qBm b 0 i hb,join_app _ _ _ _ (by simp; omega)]
theorem join_min :∀(a b:List Int),(join a b).length=min a.length b.length
 | [],_=>by simp [join]
 | _::_,[]=>by simp [join]
 | a::l,b::k=>by simp only [join,List.length_cons,join_min l k]; omega
theorem join_cut :∀(a b:List Int) (i:Nat),a.length≤i∨b.length≤i→join (a.take i) (b.take i)=join a b
 | [],_,_,_=>by simp [join]
 | _::_,[],_,_=>by simp [join]
 | a::l,b::k,0,h=>by simp at h
 | a::l,b::k,i+1,h=>by simp only [List.take_succ_cons,join,join_cut l k i (by simpa using h)]
theorem l1MaxI_ok (a b:Int):CallOk Tryz.prog num 98 [.int .i64 a,.int .i64 b] [] (.int .i64 (max a b)):=by
 refine EN m98 Tryz.func234 ?_
 unfold m98
 by_cases h:b<a
 ·simp only [go_sem,seval,h]
  repeat refine K ?_
  refine fz ?_; simp [FinS,nilL,nilV,oneOr,-List.drop_one]
  omega
 ·simp only [go_sem,seval,h]
  repeat refine K ?_
  refine fz ?_; simp [FinS,nilL,nilV,oneOr,-List.drop_one]
  omega
theorem mx_max (x y:Int):(if y>x then y else x)=max x y:=by split<;>omega
theorem implJoin_ok (a b:List Int) (h1:a.length<2^40):CallOk Tryz.prog num 382 [.sl .bw 1 (ints a),.sl .bw 1 (ints b)] [] (.sl .own 1 (ints (join a b))):=by
 refine EN m382 Tryz.func238 ?_
 unfold m382
 simp only [go_sem,seval]
 repeat refine K ?_
 refine qA8 (ι:=Nat) (fun i=>.mk [(0,.sl .bw 1 (ints a)),(1,.sl .bw 1 (ints b)),(5,.ns 10 0 i),(6,.int .i64 i)] [(10,1,ints (join (a.take i) (b.take i)))] 11) (fun i=>i≤a.length∧i≤b.length) (fun i=>a.length-i) 0 (by simp) ?_ ?_
 ·refine Sub.shape [] id (by omega) ?_ ?_ ?_ ?_<;>simp [qA2]
  all_goals simp [join,ints]
 ·rintro i ⟨hi,hj⟩
  have hlt:(join (a.take i) (b.take i)).length=i:=by rw [join_min]; simp; omega
  by_cases hc1:(i:Int)<a.length
  case neg =>
   have hd:join (a.take i) (b.take i)=join a b:=join_cut a b i (by omega)
   simp only [go_sem,seval,hc1,hlt]
   repeat refine K ?_
   refine fz ?_; simp [FinS,nilL,nilV,oneOr,-List.drop_one]
   rw [hd] at hlt⊢
   simp [hlt]
  by_cases hc2:(i:Int)<b.length
  case neg =>
   have hd:join (a.take i) (b.take i)=join a b:=join_cut a b i (by omega)
   simp only [go_sem,seval,hc1,hc2,hlt]
   repeat refine K ?_
   refine fz ?_; simp [FinS,nilL,nilV,oneOr,-List.drop_one]
   rw [hd] at hlt⊢
   simp [hlt]
  have g1:i<a.length:=by omega
  have g2:i<b.length:=by omega
  simp only [go_sem,seval,hc1,hc2,hlt,mx_max,qA0 a i g1,qA0 b i g2,qA7 (i:=i) (by omega)]
  repeat refine K ?_
  try simp only [go_sem,seval,hlt,qA7 (i:=i) (by omega)]
  repeat refine K ?_
  have hn:=join_take a b i g1 g2
  refine qA6 (i+1) ?_ ⟨g1,g2⟩ (by omega)
  rw [hn]
  refine Sub.shape [] (fun n=>if n=10 then 12 else n) (by omega) ?_ ?_ ?_ ?_<;>simp [qA2]
  exact .inl (by simp [ints])
theorem specJoin_ok (a b:List Int) (h1:a.length<2^40):CallOk Tryz.prog num 381 [.sl .bw 1 (ints a),.sl .bw 1 (ints b)] [] (.sl .own 1 (ints (join a b))):=by
 refine EN m381 Tryz.func235 ?_
 unfold m381
 simp only [go_sem,seval]
 repeat refine K ?_
 refine qA8 (ι:=Nat) (fun i=>.mk [(0,.sl .bw 1 (ints a)),(1,.sl .bw 1 (ints b)),(5,.ns 10 0 i),(6,.int .i64 i)] [(10,1,ints (join (a.take i) (b.take i)))] 11) (fun i=>i≤a.length∧i≤b.length) (fun i=>a.length-i) 0 (by simp) ?_ ?_
 ·refine Sub.shape [] id (by omega) ?_ ?_ ?_ ?_<;>simp [qA2]
  all_goals simp [join,ints]
 ·rintro i ⟨hi,hj⟩
  have hlt:(join (a.take i) (b.take i)).length=i:=by rw [join_min]; simp; omega
  by_cases hc1:(i:Int)<a.length
  case neg =>
   have hd:join (a.take i) (b.take i)=join a b:=join_cut a b i (by omega)
   simp only [go_sem,seval,hc1,hlt]
   repeat refine K ?_
   refine fz ?_; simp [FinS,nilL,nilV,oneOr,-List.drop_one]
   rw [hd] at hlt⊢
   simp [hlt]
  by_cases hc2:(i:Int)<b.length
  case neg =>
   have hd:join (a.take i) (b.take i)=join a b:=join_cut a b i (by omega)
   simp only [go_sem,seval,hc1,hc2,hlt]
   repeat refine K ?_
   refine fz ?_; simp [FinS,nilL,nilV,oneOr,-List.drop_one]
   rw [hd] at hlt⊢
   simp [hlt]
  have g1:i<a.length:=by omega
  have g2:i<b.length:=by omega
  simp only [go_sem,seval,hc1,hc2,hlt,mx_max,qA0 a i g1,qA0 b i g2,qA7 (i:=i) (by omega)]
  repeat refine K ?_
  refine DA [] (l1MaxI_ok (a.getD i 0) (b.getD i 0)) ?_
  try simp only [go_sem,seval]
  repeat refine K ?_
  try simp only [go_sem,seval,hlt,qA7 (i:=i) (by omega)]
  repeat refine K ?_
  have hn:=join_take a b i g1 g2
  refine qA6 (i+1) ?_ ⟨g1,g2⟩ (by omega)
  rw [hn]
  refine Sub.shape [] (fun n=>if n=10 then 12 else n) (by omega) ?_ ?_ ?_ ?_<;>simp [qA2]
  exact .inl (by simp [ints])
def nmOk (k:Nat):Prop:=k=0∨k=1∨k=2
theorem memF_hb {cds:List (List Step)} {n1:Nat} {cs cs':List (List Write)} {tr:List Note} {R:List (List AV)} {v:List Int} (hR:okR nmOk R):HB (preH (memF cds n1 cs cs' tr R v)) 10:=by
 have:bndr (· < 10) R:=okR_bnd (fun n hn=>by rcases hn with rfl | rfl | rfl<;>decide) hR
 refine qBd _ _ _ _ (qBd _ _ _ _ (qBd _ _ _ _ ((hb_nil _).2 trivial) (by decide) (by simp [qAo])) (by decide) this) (by decide) ?_
 simp [qAo,bndr,bnds,bnd]
theorem implLoad_ok (cds:List (List Step)) (n1:Nat) (cs:List (List Write)) (tr:List Note) (R:List (List AV)) (hR:okR nmOk R) (view:List Int) (cell:Nat) (late:Int) (hold:Bool) (hm:MmOk cs) (hv:VOk cs view) (hc:cell<24) (hl:-(2^63)≤late∧late<2^63) :
  CallOk Tryz.prog num 377 [.ptr 0 0 2,.ns 2 0 view.length,.int .i64 cell,.int .i64 late,.bool hold] (memF cds n1 cs cs tr R view) (.tup [.int .i64 (load cs view cell late hold).1,.sl .own 1 (ints (load cs view cell late hold).2)]):=by
 refine EH m377 Tryz.func201 (hh:=memF_hb hR) ?_
 unfold m377
 have hcl:cell<cs.length:=by rw [hm.len]; exact hc
 have hvl:=hv.1
 have hvc:cell<view.length:=by omega
 have hlc:=hm.cell cell hc
 have hv2:=hv.2 cell hc
 have hat:=ldAt_in (late:=late) hv hc
 have hcg:=qAu .own cs cell hcl
 generalize hcd:cs.getD cell []=c at *
 have w1:IntKind.i64.wrap ((c.length:Int)-1)=c.length-1:=qAg (by omega) (by omega)
 have w2:IntKind.i64.wrap ((c.length:Int)-1-max late 0)=c.length-1-max late 0:=qAg (by omega) (by omega)
 have hwl :∀i,i<c.length→(c.getD i default).view.length=24:=fun i hi=>(hm.view cell hc _ (by rw [hcd]; exact qAd c i default hi)).1
 simp only [go_sem,seval,memF,hcg,w1,w2,mx_max,qA0 view cell hvc]
 repeat refine K ?_
 have he:max ((c.length:Int)-1-max late 0) (view.getD cell 0)=ldAt cs view cell late:=by unfold ldAt; rw [hcd]
 generalize hla:ldAt cs view cell late=at_ at *
 obtain ⟨a,rfl⟩:=Int.eq_ofNat_of_zero_le hat.1
 have ha:a<c.length:=by omega
 have hwg:=qCa .own c a ha
 have hwa:=hwl a ha
 refine CA [] (qDy view (by omega)) ?_
 try simp only [go_sem,seval]
 repeat refine K ?_
 have gt :∀r,((cels .own cs).set cell r).getD cell []=r:=fun r=>qAb _ _ _ _ (by rw [qAj]; exact hcl)
 have gw :∀r,((writes .own c).set a r).getD a []=r:=fun r=>qAb _ _ _ _ (by rw [writes_length]; exact ha)
 try simp only [go_sem,seval,hcg,he,hwg,gt,gw,qA0 view cell hvc]
 repeat refine K ?_
 have hself:(writes .own c).set a [.int .i64 (c.getD a default).v,.sl .own 1 (ints (c.getD a default).view)]=writes .own c:=by rw [←hwg,qAf _ _ _ (by rw [writes_length]; exact ha)]
 have hselfc:(cels .own cs).set cell [.sl .own 2 (writes .own c)]=cels .own cs:=by rw [←hcg,qAf _ _ _ (by rw [qAj]; exact hcl)]
 have hld:load cs view cell late hold=((c.getD a default).v,if hold then join (view.set cell a) (c.getD a default).view else view.set cell a):=by
  rw [load_eq,hcd,hla]
  rfl
 rw [hld]
 cases hold
 ·simp only [go_sem,seval,hcg,hwg,gt,gw]
  repeat refine K ?_
  apply qAc (by simp)
  ·refine Sub.trans (Sub.foldAt 11 1 13 rfl (by simp [-gD]<;>omega) rfl (by decide) (by decide) rfl (by simp<;>omega)) ?_
   simp only [fS,fS2,qA,qC,hself]
   refine Sub.trans (Sub.foldAt 10 0 11 rfl (by simp [-gD]<;>omega) rfl (by decide) (by decide) rfl (by simp<;>omega)) ?_
   simp only [fS,fS2,qA,qC,hselfc]
   refine Sub.trans (Sub.fold1 0 2 10 rfl (by simp [-gD]<;>omega) rfl (by decide) (by decide) rfl) ?_
   simp only [fS,fS2,qA,qC]
   exact Sub.refl _
  ·simp [-List.drop_one,-gD,memF]<;>(first | rfl | exact ⟨rfl,rfl⟩ | exact ⟨rfl,rfl,rfl⟩ | skip)
 simp only [go_sem,seval,hcg,hwg,gt,gw]
 repeat refine K ?_
 have hj:=implJoin_ok (view.set cell a) (c.getD a default).view (by simp; omega)
 have htk :∀x:Int,(view.set cell x).take view.length=view.set cell x:=fun x=>List.take_of_length_le (by simp)
 clear hvl hwa
 refine CA [] (hj) ?_
 try simp only [go_sem,seval]
 repeat refine K ?_
 try simp only [go_sem,seval,hcg,hwg,gt,gw]
 repeat refine K ?_
 apply qAc (by simp)
 ·refine Sub.trans (Sub.foldAt 11 1 13 rfl (by simp [-gD]<;>omega) rfl (by decide) (by decide) rfl (by simp<;>omega)) ?_
  simp only [fS,fS2,qA,qC,hself]
  refine Sub.trans (Sub.foldAt 10 0 11 rfl (by simp [-gD]<;>omega) rfl (by decide) (by decide) rfl (by simp<;>omega)) ?_
  simp only [fS,fS2,qA,qC,hselfc]
  refine Sub.trans (Sub.fold1 0 2 10 rfl (by simp [-gD]<;>omega) rfl (by decide) (by decide) rfl) ?_
  simp only [fS,fS2,qA,qC]
  exact Sub.refl _
 ·simp [-List.drop_one,-gD,memF]<;>(first | rfl | exact ⟨rfl,rfl⟩ | exact ⟨rfl,rfl,rfl⟩ | skip)
theorem qDd (c:List Write) (v:Int) (l:List Int):writes .own c++[[.int .i64 v,.sl .own 1 (ints l)]]=writes .own (c++[⟨v,l⟩]):=by simp [writes,writeC]
theorem hasRoom_ok (cds:List (List Step)) (n1:Nat) (cs:List (List Write)) (tr:List Note) (R:List (List AV)) (hR:okR nmOk R) (cell:Nat) (hc:cell<cs.length) :
  CallOk Tryz.prog num 368 [.ptr 0 0 2,.int .i64 cell] [(0,some (4,[[.sl .own 1 (codes .own cds),.ns 1 0 n1,.sl .own 1 (cels .own cs),.sl .own 2 (notes tr)]]),some (4,[[.sl .own 1 (codes .own cds),.ns 1 0 n1,.sl .own 1 (cels .own cs),.sl .own 2 (notes tr)]])),(1,some (4,R),some (4,R))] (.bool (decide (((cs.getD cell []).length:Int)<4000))):=by
 have hb:bndr (· < 10) R:=okR_bnd (fun n hn=>by rcases hn with rfl | rfl | rfl<;>decide) hR
 refine EH m368 Tryz.func144 (hh:=qBd _ _ _ _ (qBd _ _ _ _ ((hb_nil _).2 trivial) (by decide) hb) (by decide) (by simp [qAo,bndr,bnds,bnd])) ?_
 unfold m368
 have hcg:=qAu .own cs cell hc
 have hselfc:(cels .own cs).set cell [.sl .own 2 (writes .own (cs.getD cell []))]=cels .own cs:=by rw [←hcg,qAf _ _ _ (by rw [qAj]; exact hc)]
 simp only [go_sem,seval,hcg]
 repeat refine K ?_
 apply qAi
 ·refine Sub.trans (Sub.foldAt 10 0 11 rfl (by simp [-gD]<;>omega) rfl (by decide) (by decide) rfl (by simp<;>omega)) ?_
  simp only [fS,fS2,qA,qC,hselfc]
  refine Sub.trans (Sub.fold1 0 2 10 rfl (by simp [-gD]<;>omega) rfl (by decide) (by decide) rfl) ?_
  simp only [fS,fS2,qA,qC]
  exact Sub.refl _
 ·simp [-List.drop_one,-gD,qB7]<;>(first | rfl | exact ⟨rfl,rfl⟩ | exact ⟨rfl,rfl,rfl⟩ | skip)
theorem zero24:[[AV.int .i64 0],[AV.int .i64 0],[AV.int .i64 0],[AV.int .i64 0],[AV.int .i64 0],[AV.int .i64 0],[AV.int .i64 0],[AV.int .i64 0],[AV.int .i64 0],[AV.int .i64 0],[AV.int .i64 0],[AV.int .i64 0],[AV.int .i64 0],[AV.int .i64 0],[AV.int .i64 0],[AV.int .i64 0],[AV.int .i64 0],[AV.int .i64 0],[AV.int .i64 0],[AV.int .i64 0],[AV.int .i64 0],[AV.int .i64 0],[AV.int .i64 0],[AV.int .i64 0]]=ints z24:=rfl
def nmOk4 (k:Nat):Prop:=k=0∨k=1∨k=2∨k=3
theorem memF4_hb {cds:List (List Step)} {n1:Nat} {cs cs':List (List Write)} {tr:List Note} {R:List (List AV)} {v x0:List Int} (hR:okR nmOk4 R):HB (preH (memF4 cds n1 cs cs' tr R v x0)) 10:=by
 have:bndr (· < 10) R:=okR_bnd (fun n hn=>by rcases hn with rfl | rfl | rfl | rfl<;>decide) hR
 refine qBd _ _ _ _ (qBd _ _ _ _ (qBd _ _ _ _ (qBd _ _ _ _ ((hb_nil _).2 trivial) (by decide) (by simp [qAo])) (by decide) (by simp [qAo])) (by decide) this) (by decide) ?_
 simp [qAo,bndr,bnds,bnd]
theorem implStore4_ok (cds:List (List Step)) (n1:Nat) (cs:List (List Write)) (tr:List Note) (R:List (List AV)) (hR:okR nmOk4 R) (view x0:List Int) (cell:Nat) (v:Int) (go:Bool) (hm:MmOk cs) (hv:VOk cs view) (hc:cell<24) :
  CallOk Tryz.prog num 378 [.ptr 0 0 2,.ns 2 0 view.length,.int .i64 cell,.int .i64 v,.bool go] (memF4 cds n1 cs (store cs view cell v go).1 tr R view x0) (.sl .own 1 (ints (store cs view cell v go).2)):=by
 refine EH m378 Tryz.func202 (hh:=memF4_hb hR) ?_
 unfold m378
 have hcl:cell<cs.length:=by rw [hm.len]; exact hc
 have hvl:=hv.1
 have hvc:cell<view.length:=by omega
 have hlc:=hm.cell cell hc
 have hcg:=qAu .own cs cell hcl
 have hst:store cs view cell v go=(cs.set cell (cs.getD cell []++[⟨v,if go then view.set cell ((cs.getD cell []).length:Int) else z24.set cell ((cs.getD cell []).length:Int)⟩]),view.set cell ((cs.getD cell []).length:Int)):=rfl
 rw [hst]
 have gt :∀r,((cels .own cs).set cell r).getD cell []=r:=fun r=>qAb _ _ _ _ (by rw [qAj]; exact hcl)
 generalize hcd:cs.getD cell []=c at *
 have gv:(view.set cell (c.length:Int)).getD cell 0=c.length:=qAb _ _ _ _ hvc
 have g24:cell<z24.length:=by rw [qCe]; exact hc
 have hvs:cell<(view.set cell (c.length:Int)).length:=by simpa using hvc
 have hi:=qA0 (view.set cell (c.length:Int)) cell hvs
 have hi2:=qA0 view cell hvc
 have hi3:=qA0 z24 cell g24
 simp only [go_sem,seval,memF4,memF]
 repeat refine K ?_
 refine CA [] (qDy view (by omega)) ?_
 try simp only [go_sem,seval]
 repeat refine K ?_
 try simp only [go_sem,seval,hcg,gt,hi,hi2,zero24,qCe,hi3,gv]
 repeat refine K ?_
 cases go
 ·simp only [go_sem,seval,hcg,gt,hi,zero24,qCe,hi3,gv]
  repeat refine K ?_
  apply qAi
  ·refine Sub.trans (Sub.foldLast 15 1 13 rfl (by simp [-gD]<;>omega) rfl (by decide) (by decide) rfl) ?_
   simp only [fS,fS2,qA,qC,qDd,qCe]
   refine Sub.trans (Sub.foldAt 11 0 15 rfl (by simp [-gD]<;>omega) rfl (by decide) (by decide) rfl (by simp<;>omega)) ?_
   simp only [fS,fS2,qA,qC,qB8]
   refine Sub.trans (Sub.fold1 0 2 11 rfl (by simp [-gD]<;>omega) rfl (by decide) (by decide) rfl) ?_
   simp only [fS,fS2,qA,qC]
   exact Sub.refl _
  ·simp [-List.drop_one,-gD,memF4,memF]<;>(first | rfl | exact ⟨rfl,rfl⟩ | exact ⟨rfl,rfl,rfl⟩ | skip)
 simp only [go_sem,seval,hcg,gt,hi,zero24,qCe,hi3,gv]
 repeat refine K ?_
 have hcp:=qDy (view.set cell (c.length:Int)) (by simp; omega)
 have htk :∀x:Int,(view.set cell x).take view.length=view.set cell x:=fun x=>List.take_of_length_le (by simp)
 clear hvl
 refine CA [] (hcp) ?_
 try simp only [go_sem,seval]
 repeat refine K ?_
 try simp only [go_sem,seval,hcg,gt,hi,zero24,qCe,hi3,gv]
 repeat refine K ?_
 apply qAi
 ·refine Sub.trans (Sub.foldLast 16 1 14 rfl (by simp [-gD]<;>omega) rfl (by decide) (by decide) rfl) ?_
  simp only [fS,fS2,qA,qC,qDd]
  refine Sub.trans (Sub.foldAt 11 0 16 rfl (by simp [-gD]<;>omega) rfl (by decide) (by decide) rfl (by simp<;>omega)) ?_
  simp only [fS,fS2,qA,qC,qB8]
  refine Sub.trans (Sub.fold1 0 2 11 rfl (by simp [-gD]<;>omega) rfl (by decide) (by decide) rfl) ?_
  simp only [fS,fS2,qA,qC]
  exact Sub.refl _
 ·simp [-List.drop_one,-gD,memF4,memF]<;>(first | rfl | exact ⟨rfl,rfl⟩ | exact ⟨rfl,rfl,rfl⟩ | skip)
def nmOk5 (k:Nat):Prop:=k=0∨k=1∨k=2∨k=3∨k=4
theorem memF5_hb {cds:List (List Step)} {n1:Nat} {cs cs':List (List Write)} {tr:List Note} {R:List (List AV)} {v x0 x1:List Int} (hR:okR nmOk5 R):HB (preH (memF5 cds n1 cs cs' tr R v x0 x1)) 10:=by
 have:bndr (· < 10) R:=okR_bnd (fun n hn=>by rcases hn with rfl | rfl | rfl | rfl | rfl<;>decide) hR
 refine qBd _ _ _ _ (qBd _ _ _ _ (qBd _ _ _ _ (qBd _ _ _ _ (qBd _ _ _ _ ((hb_nil _).2 trivial) (by decide) (by simp [qAo])) (by decide) (by simp [qAo])) (by decide) (by simp [qAo])) (by decide) this) (by decide) ?_
 simp [qAo,bndr,bnds,bnd]
theorem implStore5_ok (cds:List (List Step)) (n1:Nat) (cs:List (List Write)) (tr:List Note) (R:List (List AV)) (hR:okR nmOk5 R) (view x0 x1:List Int) (cell:Nat) (v:Int) (go:Bool) (hm:MmOk cs) (hv:VOk cs view) (hc:cell<24) :
  CallOk Tryz.prog num 378 [.ptr 0 0 2,.ns 2 0 view.length,.int .i64 cell,.int .i64 v,.bool go] (memF5 cds n1 cs (store cs view cell v go).1 tr R view x0 x1) (.sl .own 1 (ints (store cs view cell v go).2)):=by
 refine EH m378 Tryz.func202 (hh:=memF5_hb hR) ?_
 unfold m378
 have hcl:cell<cs.length:=by rw [hm.len]; exact hc
 have hvl:=hv.1
 have hvc:cell<view.length:=by omega
 have hlc:=hm.cell cell hc
 have hcg:=qAu .own cs cell hcl
 have hst:store cs view cell v go=(cs.set cell (cs.getD cell []++[⟨v,if go then view.set cell ((cs.getD cell []).length:Int) else z24.set cell ((cs.getD cell []).length:Int)⟩]),view.set cell ((cs.getD cell []).length:Int)):=rfl
 rw [hst]
 have gt :∀r,((cels .own cs).set cell r).getD cell []=r:=fun r=>qAb _ _ _ _ (by rw [qAj]; exact hcl)
 generalize hcd:cs.getD cell []=c at *
 have gv:(view.set cell (c.length:Int)).getD cell 0=c.length:=qAb _ _ _ _ hvc
 have g24:cell<z24.length:=by rw [qCe]; exact hc
 have hvs:cell<(view.set cell (c.length:Int)).length:=by simpa using hvc
 have hi:=qA0 (view.set cell (c.length:Int)) cell hvs
 have hi2:=qA0 view cell hvc
 have hi3:=qA0 z24 cell g24
 simp only [go_sem,seval,memF5,memF]
 repeat refine K ?_
 refine CA [] (qDy view (by omega)) ?_
 try simp only [go_sem,seval]
 repeat refine K ?_
 try simp only [go_sem,seval,hcg,gt,hi,hi2,zero24,qCe,hi3,gv]
 repeat refine K ?_
 cases go
 ·simp only [go_sem,seval,hcg,gt,hi,zero24,qCe,hi3,gv]
  repeat refine K ?_
  apply qAi
  ·refine Sub.trans (Sub.foldLast 15 1 13 rfl (by simp [-gD]<;>omega) rfl (by decide) (by decide) rfl) ?_
   simp only [fS,fS2,qA,qC,qDd,qCe]
   refine Sub.trans (Sub.foldAt 11 0 15 rfl (by simp [-gD]<;>omega) rfl (by decide) (by decide) rfl (by simp<;>omega)) ?_
   simp only [fS,fS2,qA,qC,qB8]
   refine Sub.trans (Sub.fold1 0 2 11 rfl (by simp [-gD]<;>omega) rfl (by decide) (by decide) rfl) ?_
   simp only [fS,fS2,qA,qC]
   exact Sub.refl _
  ·simp [-List.drop_one,-gD,memF5,memF]<;>(first | rfl | exact ⟨rfl,rfl⟩ | exact ⟨rfl,rfl,rfl⟩ | skip)
 simp only [go_sem,seval,hcg,gt,hi,zero24,qCe,hi3,gv]
 repeat refine K ?_
 have hcp:=qDy (view.set cell (c.length:Int)) (by simp; omega)
 have htk :∀x:Int,(view.set cell x).take view.length=view.set cell x:=fun x=>List.take_of_length_le (by simp)
 clear hvl
 refine CA [] (hcp) ?_
 try simp only [go_sem,seval]
 repeat refine K ?_
 try simp only [go_sem,seval,hcg,gt,hi,zero24,qCe,hi3,gv]
 repeat refine K ?_
 apply qAi
 ·refine Sub.trans (Sub.foldLast 16 1 14 rfl (by simp [-gD]<;>omega) rfl (by decide) (by decide) rfl) ?_
  simp only [fS,fS2,qA,qC,qDd]
  refine Sub.trans (Sub.foldAt 11 0 16 rfl (by simp [-gD]<;>omega) rfl (by decide) (by decide) rfl (by simp<;>omega)) ?_
  simp only [fS,fS2,qA,qC,qB8]
  refine Sub.trans (Sub.fold1 0 2 11 rfl (by simp [-gD]<;>omega) rfl (by decide) (by decide) rfl) ?_
  simp only [fS,fS2,qA,qC]
  exact Sub.refl _
 ·simp [-List.drop_one,-gD,memF5,memF]<;>(first | rfl | exact ⟨rfl,rfl⟩ | exact ⟨rfl,rfl,rfl⟩ | skip)
def m372:MFn:=⟨22,[.t 2],kr [xo 2 (.mv (.c (.nil)))] (kr [xo 5 (.mkSl [.nil] 0 []),xv 3 5] (.seq (kr [xI 4 0] (.blk 0 (.loop (.seq (kr [xv 6 4,xv 7 0,xe 8 7,bT 9 .lss 6 8] (kX 9 0)) (.seq (.blk 1 (xr [xv 12 3,xo 13 (.mkSl [xz,xz,xz,xz,xz] 0 []),xv 14 0,xv 15 4,xD 16 1 14 15,xl 17 16,xA 18 5 40 13 17,xo 19 (.mkSl [.nil] 1 [(0,.t 18)]),xA 20 1 24 12 19,xv 3 20])) (xr [xv 10 4,bI 11 .add 10 1,xv 4 11])))))) (kR [xv 21 3,xv 2 21])))⟩
theorem codes_next (l:List (List Step)) (i:Nat) (h:i<l.length):codes .own (l.take i)++[[AV.sl .own 5 (steps (l.getD i []))]]=codes .own (l.take (i+1)):=by
 rw [List.take_succ_eq_append_getElem h,←codes_append]
 simp [codes,List.getD_eq_getElem?_getD,h]
theorem l8Codes_ok (l:List (List Step)) (h1:l.length<2^40) (h2 :∀c∈l,c.length<2^40):CallOk Tryz.prog num 372 [.sl .bw 1 (codes .bw l)] [] (.sl .own 1 (codes .own l)):=by
 refine EN m372 Tryz.func122 ?_
 unfold m372
 simp only [go_sem,seval]
 repeat refine K ?_
 refine qA8 (ι:=Nat) (fun i=>.mk [(0,.sl .bw 1 (codes .bw l)),(3,.ns 10 0 i),(4,.int .i64 i)] [(10,1,codes .own (l.take i))] 11) (fun i=>i≤l.length) (fun i=>l.length-i) 0 (by simp) ?_ ?_
 ·refine Sub.shape [] id (by omega) ?_ ?_ ?_ ?_<;>simp [qA2]
 ·rintro i hi
  simp only [go_sem,seval]
  refine qA1 (fun hc=>?_) (fun hc=>?_)
  ·simp only [decide_eq_true_eq] at hc
   have hl':i<l.length:=by omega
   have hlt:(l.take i).length=i:=by simp; omega
   have hr:=h2 _ (qAd l i [] hl')
   simp only [go_sem,seval,qA7 (i:=i) (by omega),qBu .bw l i hl',hlt]
   repeat refine K ?_
   refine qA6 (i+1) ?_ hl' (by omega)
   refine Sub.trans (Sub.foldLast 14 0 12 rfl (by simp [-gD]<;>omega) rfl (by decide) (by decide) rfl) ?_
   simp only [fS,fS2,qA,qC,codes_next l i hl']
   refine Sub.shape [] (fun n=>if n=10 then 14 else n) (by omega) ?_ ?_ ?_ ?_<;>simp [qA2]
  ·simp only [decide_eq_false_iff_not] at hc
   obtain rfl:i=l.length:=by omega
   have hie:l.take l.length=l:=List.take_length
   simp only [go_sem,seval,hie]
   repeat refine K ?_
   refine fz ?_; simp [FinS,nilL,nilV,oneOr,-List.drop_one]
theorem emit_size {caps:List Int} {x:Ins} {f:Int} {starts:List Int} (h:insOk x starts.length caps.length=true) (hb:within x.op 5 9=true→¬base caps x.n<0):((emit caps x f starts).length:Int)=emitSize x:=by
 have ho:=(insOk_op h).1
 unfold emit emitSize
 rw [if_pos h]
 split
 ·rename_i hw
  rw [if_neg (hb hw)]
  rw [within_iff] at hw
  have hc:x.op=5∨x.op=6∨x.op=7∨x.op=8∨x.op=9:=by omega
  rcases hc with hc | hc | hc | hc | hc<;>simp [hc,lockL,sendL,takeL,closeL,shutL,letL]
 ·rename_i hw
  have hw :¬(5≤x.op∧x.op≤9):=fun e=>hw (within_iff.2 e)
  rw [if_neg (by omega),if_neg (by omega),if_neg (by omega),if_neg (by omega),if_neg (by omega),ho]
  simp [numb]
theorem emit_one {caps:List Int} {x:Ins} {f:Int} {starts:List Int} {j:Nat} (h:insOk x starts.length caps.length=true) (h8:((emit caps x f starts).getD j default).op=8):emitSize x≠1:=by
 have ho:=(insOk_op h).1
 unfold emit at h8
 rw [if_pos h] at h8
 unfold emitSize
 split at h8
 ·rename_i hw
  rw [within_iff] at hw
  have hc:x.op=5∨x.op=6∨x.op=7∨x.op=8∨x.op=9:=by omega
  rcases hc with hc | hc | hc | hc | hc<;>simp [hc]
 ·exfalso
  cases j with
  | zero =>
   simp only [List.getD_cons_zero] at h8
   unfold single at h8
   repeat' split at h8
   all_goals (simp at h8)
  | succ j =>
   simp [List.getD_eq_getElem?_getD] at h8
   exact absurd h8 (by decide)
theorem body_ins {b:List Ins} {n:Nat} (h:bodyOk b n=true) (i:Nat) (hi:i<b.length):insOk (b.getD i default) b.length n=true:=by
 unfold bodyOk at h
 simp only [Bool.and_eq_true,List.all_eq_true] at h
 exact h.1.2 _ (qAd b i default hi)
theorem lie_base {caps:List Int} (hl:lieOk caps=true) {n:Int} (h:0≤n∧n<caps.length) :¬base caps n<0:=by
 unfold base
 have hw:within n 0 ((caps.length:Int)-1)=true:=by rw [within_iff]; omega
 rw [hl,hw]
 unfold lieOk at hl
 simp only [Bool.and_eq_true] at hl
 have:=qCv hl.1 n.toNat
 simp only [Bool.and_self,if_true]
 omega
theorem emit_at {caps:List Int} {b:List Ins} (hb:bodyOk b caps.length=true) (hl:lieOk caps=true) (i:Nat) (hi:i<b.length) (f:Int):((emit caps (b.getD i default) f (startsOf b)).length:Int)=emitSize (b.getD i default):=by
 have h:=body_ins hb i hi
 refine emit_size (by rw [startsOf,qB0]; exact h) fun hw=>lie_base hl ?_
 exact insOk_chan h hw
theorem compN_size {caps:List Int} {b:List Ins} (hb:bodyOk b caps.length=true) (hl:lieOk caps=true) :∀i,i≤b.length→((compN caps b i).length:Int)=szB (b.take i)
 | 0,_=>by simp [compN,szB]
 | i+1,hi=>by
  have:=compN_size hb hl i (by omega)
  have:=emit_at hb hl i (by omega) (szB (b.take i))
  rw [szB_take b i (by omega)]
  simp only [compN,List.length_append]
  omega
theorem compN_at {caps:List Int} {b:List Ins} (hb:bodyOk b caps.length=true) (hl:lieOk caps=true) :∀(n:Nat),n≤b.length→∀at_:Nat,at_<(compN caps b n).length→
  ∃i,i<n∧szB (b.take i)≤at_∧(at_:Int)<szB (b.take (i+1))∧(((compN caps b n).getD at_ default).op=8→emitSize (b.getD i default)≠1)
 | 0,_,at_,h=>by simp [compN] at h
 | n+1,hn,at_,h=>by
  by_cases hc:at_<(compN caps b n).length
  ·obtain ⟨i,h1,h2,h3,h4⟩:=compN_at hb hl n (by omega) at_ hc
   refine ⟨i,by omega,h2,h3,fun h8=>h4 ?_⟩
   rw [←h8,compN,List.getD_eq_getElem?_getD,List.getD_eq_getElem?_getD,List.getElem?_append_left hc]
  ·have hs:=compN_size hb hl n (by omega)
   have he:=emit_at hb hl n (by omega) (szB (b.take n))
   have hz:=szB_take b n (by omega)
   simp only [compN,List.length_append] at h
   refine ⟨n,by omega,by omega,by omega,fun h8=>?_⟩
   rw [compN,List.getD_eq_getElem?_getD,List.getElem?_append_right (by omega),←List.getD_eq_getElem?_getD] at h8
   exact emit_one (by rw [startsOf,qB0]; exact body_ins hb n (by omega)) h8
theorem placeAt_in :∀(b:List Ins) (off k at_:Int) (i:Nat),i<b.length→off+szB (b.take i)≤at_→at_<off+szB (b.take (i+1))→(placeAt b off k at_).1=k+i
 | [],_,_,_,i,h,_,_=>by simp at h
 | x::l,off,k,at_,0,_,h1,h2=>by
  simp only [List.take_zero,szB,List.take_succ_cons] at h1 h2
  unfold placeAt
  rw [if_pos (by omega)]
  simp
 | x::l,off,k,at_,i+1,h,h1,h2=>by
  simp only [List.take_succ_cons,szB] at h1 h2
  have hl:=(szB_le (l.take i)).1
  unfold placeAt
  rw [if_neg (by omega)]
  rw [placeAt_in l (off+emitSize x) (k+1) at_ i (by simpa using h) (by omega) (by omega)]
  push_cast
  omega
theorem comp_at {caps:List Int} {b:List Ins} (hb:bodyOk b caps.length=true) (hl:lieOk caps=true) {at_:Int} (h0:0≤at_) (h1:at_<((comp caps b).length:Int)) :
  0≤(placeAt b 0 0 at_).1∧(placeAt b 0 0 at_).1.toNat<b.length∧(((comp caps b).getD at_.toNat default).op=8→emitSize (b.getD (placeAt b 0 0 at_).1.toNat default)≠1):=by
 obtain ⟨i,g1,g2,g3,g4⟩:=compN_at hb hl b.length (Nat.le_refl _) at_.toNat (by unfold comp at h1; omega)
 have hp:=placeAt_in b 0 0 at_ i g1 (by omega) (by omega)
 rw [hp]
 have e:((0:Int)+(i:Int)).toNat=i:=by omega
 rw [e]
 exact ⟨by omega,g1,g4⟩
def commitsI (p:Prog) (s:Step) (regs:List Int) (who at_:Int):Bool :=
 decide (who<p.bods.length)&&decide (0≤(placeAt (p.bods.getD who.toNat []) 0 0 at_).1) &&
  ((decide (s.op=8)&&within s.r 0 (regs.length-1)&&decide (regs.getD s.r.toNat 0=0))||decide (emitSize ((p.bods.getD who.toNat []).getD (placeAt (p.bods.getD who.toNat []) 0 0 at_).1.toNat default)=1))
def commitsS (p:Prog) (s:Step) (regs:List Int) (who at_:Int):Bool :=
 if s.op=8 then decide (regs.getD s.r.toNat 0=0)
 else decide (0≤(placeOf p who at_).1)&&decide (emitSize ((p.bods.getD who.toNat []).getD (placeOf p who at_).1.toNat default)=1)
theorem commits_eq {p:Prog} (hp:progOk p=true) (hl:lieOk p.caps=true) {i:Nat} (hi:i<p.bods.length) {at_:Int} (h0:0≤at_) (h1:at_<((comp p.caps (p.bods.getD i [])).length:Int)) {regs:List Int} (hr:regs.length=8)
  (hs:within ((comp p.caps (p.bods.getD i [])).getD at_.toNat default).r 0 7=true) :
  commitsI p ((comp p.caps (p.bods.getD i [])).getD at_.toNat default) regs i at_=commitsS p ((comp p.caps (p.bods.getD i [])).getD at_.toNat default) regs i at_:=by
 have hb:=(progOk_caps hp).2.2.2.2 _ (qAd p.bods i [] hi)
 obtain ⟨a1,a2,a3⟩:=comp_at hb hl h0 h1
 have hpl:placeOf p i at_=placeAt (p.bods.getD i []) 0 0 at_:=by
  unfold placeOf
  have hw:within (i:Int) 0 ((p.bods.length:Int)-1)=true:=by rw [within_iff]; omega
  rw [hp,hw]
  rfl
 unfold commitsI commitsS
 rw [hpl]
 generalize (comp p.caps (p.bods.getD i [])).getD at_.toNat default=s at *
 simp only [Int.toNat_natCast]
 have d1:decide ((i:Int)<(p.bods.length:Int))=true:=by simp; exact hi
 have d2:decide (0≤(placeAt (p.bods.getD i []) 0 0 at_).1)=true:=by simpa using a1
 have d3:within s.r 0 ((regs.length:Int)-1)=true:=by rw [hr]; exact hs
 rw [d1,d2,d3]
 by_cases h8:s.op=8
 ·have h9:decide (emitSize ((p.bods.getD i []).getD (placeAt (p.bods.getD i []) 0 0 at_).1.toNat default)=1)=false:=by simpa [-List.getD_eq_getElem?_getD] using a3 h8
  rw [h9]
  simp [h8]
 ·simp [h8]
def did (p:Prog) (m:Machine) (x:Pick):Bool:=decide ((mstep m x).2=0)&&commitsI p (stepAt m x.who.toNat) (coreAt (mstep m x).1 x.who.toNat).regs x.who (coreAt m x.who.toNat).at_
def worder (p:Prog):Machine→List Pick→List Int
 | _,[]=>[]
 | m,x::l=>(if did p m x then [x.who] else [])++worder p (mstep m x).1 l
theorem worder_snoc (p:Prog) :∀(m:Machine) (l:List Pick) (x:Pick),worder p m (l++[x])=worder p m l++(if did p (mrun m l) x then [x.who] else [])
 | _,[],_=>by simp only [worder,mrun,List.nil_append,List.append_nil]; rfl
 | m,y::l,x=>by simp only [List.cons_append,worder,mrun,worder_snoc p _ l x,List.append_assoc]; rfl
theorem worder_len (p:Prog) :∀(m:Machine) (l:List Pick),(worder p m l).length≤l.length
 | _,[]=>by simp [worder]
 | m,y::l=>by
  have:=worder_len p (mstep m y).1 l
  simp only [worder,List.length_append,List.length_cons]
  split<;>simp<;>omega
def m236:MFn:=⟨63,[.t 10],kr [xb 5 0,xb 6 1,xF 10] (.seq (kr [xv 14 3,xa 15 1 5,xl 16 15,xe 17 16,bT 18 .geq 14 17] (kF 18 [xF 10])) (kr [xa 20 1 5,xl 21 20,xv 22 3,xD 23 1 21 22,xl 24 23,xv 25 4,xc2 26 280 (.t 24) (.t 25),xv 19 26,xX 27 19 0,xX 28 19 1,xv 11 27,xv 12 28] (.seq (kr [xv 29 11,bI 30 .lss 29 0] (kF 30 [xF 10])) (kr [xa 31 0 6,xl 32 31,bI 33 .eql 32 8,xv 34 33,ya 35 1 6 34,yl 36 1 35 34,yv 37 2 34,ye 38 37 34,yI 39 .sub 38 1 34,xg 40 (.call 59 [false,false,false] [.t 36,xi 0,.t 39]) 34 true,xP 41 34 40,xv 42 41,yv 43 2 42,ya 44 1 6 42,yl 45 1 44 42,xg 46 (.iad 1 (.t 43) (.t 45)) 42 true,yl 47 1 46 42,yI 48 .eql 47 0 42,xP 49 42 48,xv 13 49] (kR [xv 50 13,xv 51 50,za 52 1 5 51,zl 53 1 52 51,zv 54 3 51,xg 55 (.iad 1 (.t 53) (.t 54)) 51 false,zl 56 1 55 51,zv 57 11 51,xg 58 (.iad 5 (.t 56) (.t 57)) 51 false,xg 59 (.load 5 true (.t 58)) 51 false,xg 60 (.call 262 [false] [.t 59]) 51 false,zI 61 .eql 60 1 51,xQ 62 51 61,xv 10 62])))))⟩
theorem placeAt_lt :∀(b:List Ins) (off k at_:Int),(placeAt b off k at_).1=-1∨(k≤(placeAt b off k at_).1∧(placeAt b off k at_).1<k+b.length)
 | [],_,_,_=>.inl rfl
 | x::l,off,k,at_=>by
  unfold placeAt
  split
  ·exact .inr ⟨Int.le_refl _,by simp only [List.length_cons]; omega⟩
  ·rcases placeAt_lt l (off+emitSize x) (k+1) at_ with h | ⟨h1,h2⟩
   ·exact .inl h
   ·exact .inr ⟨by omega,by simp only [List.length_cons]; omega⟩
theorem implCommitsOf_ok (p:Prog) (s:Step) (regs:List Int) (who at_:Int) (hp:SmallP p) (hw:0≤who) (hr:regs.length<2^40):CallOk Tryz.prog num 236 [.agg (progC .bw p),.agg (stepC s),.sl .bw 1 (ints regs),.int .i64 who,.int .i64 at_] [] (.bool (commitsI p s regs who at_)):=by
 refine EN m236 Tryz.func188 ?_
 unfold m236
 obtain ⟨i,rfl⟩:=Int.eq_ofNat_of_zero_le hw
 by_cases hb:(i:Int)<p.bods.length
 case neg =>
  have hb':(p.bods.length:Int)≤i:=by omega
  simp only [go_sem,seval,hb']
  repeat refine K ?_
  refine fz ?_; simp [FinS,nilL,nilV,oneOr,-List.drop_one]
  simp [commitsI,hb]
 have hb' :¬(p.bods.length:Int)≤i:=by omega
 have hbi:i<p.bods.length:=by omega
 have hbl:=hp.body _ (qAd p.bods i [] hbi)
 have hbg:=qA9 .bw p.bods i hbi
 have hpl:=placeAt_lt (p.bods.getD i []) 0 0 at_
 have hci:commitsI p s regs i at_=(decide (0≤(placeAt (p.bods.getD i []) 0 0 at_).1) &&
  ((decide (s.op=8)&&within s.r 0 (regs.length-1)&&decide (regs.getD s.r.toNat 0=0))||decide (emitSize ((p.bods.getD i []).getD (placeAt (p.bods.getD i []) 0 0 at_).1.toNat default)=1))):=by
  have d:decide ((i:Int)<(p.bods.length:Int))=true:=by simpa using hbi
  unfold commitsI
  rw [d,Bool.true_and]
  rfl
 rw [hci]
 simp only [go_sem,seval,hb',hbg]
 repeat refine K ?_
 refine CA [] (implPlaceAt_ok (p.bods.getD i []) at_ hbl) ?_
 try simp only [go_sem,seval]
 repeat refine K ?_
 generalize hpl2:(placeAt (p.bods.getD i []) 0 0 at_).1=pl at *
 by_cases h0:pl<0
 ·try simp only [go_sem,seval,h0]
  repeat refine K ?_
  refine fz ?_; simp [FinS,nilL,nilV,oneOr,-List.drop_one]
  have :¬0≤pl:=by omega
  simp [this]
 have h0':0≤pl:=by omega
 obtain ⟨j,rfl⟩:=Int.eq_ofNat_of_zero_le h0'
 have hj:j<(p.bods.getD i []).length:=by omega
 have hig:=qBh (p.bods.getD i []) j hj
 have d0:decide (0≤(j:Int))=true:=by simp
 rw [d0,Bool.true_and]
 simp only [Int.toNat_natCast]
 have w1:IntKind.i64.wrap ((regs.length:Int)-1)=regs.length-1:=qAg (by omega) (by omega)
 generalize hbd:p.bods.getD i []=b at *
 try simp only [go_sem,seval,h0]
 repeat refine K ?_
 by_cases h8:s.op=8
 ·simp only [go_sem,seval,h8,w1]
  repeat refine K ?_
  refine CA [] (qAk s.r 0 (regs.length-1)) ?_
  try simp only [go_sem,seval]
  repeat refine K ?_
  cases hwi:within s.r 0 (regs.length-1)
  ·try simp only [go_sem,seval,hwi,hb',hbg,hig]
   repeat refine K ?_
   refine CA [] (qAz (b.getD j default)) ?_
   try simp only [go_sem,seval]
   repeat refine K ?_
   try simp only [go_sem,seval]
   repeat refine K ?_
   refine fz ?_; simp [FinS,nilL,nilV,oneOr,-List.drop_one]
  have hwi':=within_iff.1 hwi
  have hrl:s.r.toNat<regs.length:=by omega
  try simp only [go_sem,seval,hwi,qA0 regs s.r.toNat hrl]
  repeat refine K ?_
  by_cases hz:regs.getD s.r.toNat 0=0
  ·try simp only [go_sem,seval,hz]
   repeat refine K ?_
   refine fz ?_; simp [FinS,nilL,nilV,oneOr,-List.drop_one]
  ·try simp only [go_sem,seval,hz,hb',hbg,hig]
   repeat refine K ?_
   refine CA [] (qAz (b.getD j default)) ?_
   try simp only [go_sem,seval]
   repeat refine K ?_
   try simp only [go_sem,seval]
   repeat refine K ?_
   refine fz ?_; simp [FinS,nilL,nilV,oneOr,-List.drop_one]
 ·simp only [go_sem,seval,h8,hb',hbg,hig]
  repeat refine K ?_
  refine CA [] (qAz (b.getD j default)) ?_
  try simp only [go_sem,seval]
  repeat refine K ?_
  try simp only [go_sem,seval]
  repeat refine K ?_
  refine fz ?_; simp [FinS,nilL,nilV,oneOr,-List.drop_one]
end Go.Sep
