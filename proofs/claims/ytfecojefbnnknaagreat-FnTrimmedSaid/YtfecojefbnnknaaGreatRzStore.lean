/- The executor of symbolic states: the texts Core Heap Frame Exec Run Tri Chk, one after the other. No condition. -/
import Derived.Calls
import Derived.Orders
import Derived.Laws.Sem
import Derived.Laws.World
import Derived.KernelRfl
import Derived.Laws.Strings
import Derived.Laws.StructEq
open Bool renaming and_eq_true → wBp, false_eq_true → wBl, or_eq_true → wC0
open List renaming all_append → wCl, all_cons → wC1, append_assoc → wC3, cons_append → wBd, drop_drop → wCc, drop_left' → wBx, drop_of_length_le → wBz, ext_getElem? → wC2, flatMap_cons → wCe, flatten_cons → wC8, getD_eq_getElem?_getD → wBr, getElem?_append_left → wC4, getElem?_append_right → wBf, getElem?_eq_none → wCa, getElem_mem → wCj, length_append → wC5, length_cons → wBk, length_drop → wCd, length_nil → wBg, length_take → wBi, map_cons → wBm, mem_append → wCp, mem_cons → wBn, mem_cons_of_mem → wCk, mem_cons_self → wCi, mem_of_mem_drop → wCg, mem_of_mem_take → wCh, mem_singleton → wC6, nodup_append → wCf, nodup_cons → wCb, replicate → wBj, replicate_succ → wC7, sublist_append_left → wCn, sublist_append_right → wCm, sublist_cons_self → wCo, take_append_drop → wBv, take_left' → wBw, take_of_length_le → wBy
open Nat renaming add_assoc → wBq, add_mul → wBh, le_refl → wBo, min_eq_left → wBe, mul_le_mul_right → wC9
open Option renaming bind_some → wBu, map_none → wBt, map_some → wBs
namespace Go.Sep
set_option maxHeartbeats 16000000
set_option linter.unusedVariables false
set_option linter.unusedSimpArgs false
inductive Mode where
 | own | bw | fz
 deriving DecidableEq
inductive AV where
 | any
 | int (k:IntKind) (n:Int)
 | bool (b:Bool)
 | str (s:ByteArray)
 | fn (f:Nat) (cap:List AV)
 | nilp
 | ptr (nm i f:Nat)
 | fptr (m:Mode) (cells:List AV) (f:Nat)
 | nil
 | nilI
 | ifc
 | ns (nm off len:Nat)
 | sl (m:Mode) (sz:Nat) (rows:List (List AV))
 | agg (cells:List AV)
 | tup (vs:List AV)
abbrev Row:=Nat×List (List AV)
abbrev wT:=List (Nat×Row)
def yS:AV→Bool
 | .any | .agg _ | .tup _=>false
 | _=>true
structure qH7 where
 block:Nat
 off:Nat
 cap:Nat
 sz:Nat
inductive vG where
 | dead | nilp | at (p:qH7)
structure Env where
 num:Nat→Nat
 w:World
 w0:World
 φ:Nat→vG
 Fr:Nat→Prop
 Bo:Nat→Prop
def Env.frozen (e:Env):Mode→Nat→Prop
 | .own,_=>False
 | .bw,b=>e.Fr b∨e.Bo b
 | .fz,b=>e.Fr b
def hY (w:World) (p:qH7) (len:Nat):Prop :=
 0<p.sz∧len≤p.cap∧∃arr ty,w.heap[p.block]?=some (.cells arr ty (0,0))∧p.off+p.cap*p.sz≤arr.size
mutual
def RV (e:Env):AV→Value→List Nat→Prop
 | .any,_,L=>L=[]
 | .int k n,v,L=>v=.int k n∧L=[]
 | .bool b,v,L=>v=.bool b∧L=[]
 | .str s,v,L=>v=.string s∧L=[]
 | .fn f cap,v,L =>∃vs:List Value,v=.func (.func (e.num f)) #[] vs.toArray∧RVs e cap vs L∧L=[]
 | .nilp,v,L=>v=.pointer none∧L=[]
 | .ptr nm i f,v,L=>L=[]∧(match e.φ nm with
  | .dead =>∃a,v=.pointer a
  | .nilp=>False
  | .at p=>v=.pointer (some ⟨p.block,p.off+i*p.sz+f,none⟩))
 | .fptr m cells f,v,L=>L=[]∧∃b o vs,v=.pointer (some ⟨b,o+f,none⟩)∧e.frozen m b∧vs.length=cells.length∧
   (∀j,j<cells.length→e.w0.cell? ⟨b,o+j,none⟩=vs[j]?)∧RVs e cells vs []
 | .nil,v,L=>v=.slice none 0 0∧L=[]
 | .nilI,v,L=>v=.nilIface∧L=[]
 | .ifc,v,L=>(∃t u,v=.iface t u)∧L=[]
 | .ns nm off len,v,L=>L=[]∧(match e.φ nm with
  | .dead =>∃a l c,v=.slice a l c
  | .nilp=>off=0∧len=0∧∃a,v=.slice a 0 0
  | .at p=>off+len≤p.cap∧∃a,v=.slice (some a) len (p.cap-off)∧(off<p.cap→a=⟨p.block,p.off+off*p.sz,none⟩))
 | .sl .own sz rows,v,L=>(rows=[]∧L=[]∧∃a,v=.slice a 0 0)∨∃p Lr,(p.sz=sz∧0<p.cap)∧v=.slice (some ⟨p.block,p.off,none⟩) rows.length p.cap∧
   hY e.w p rows.length∧yM e e.w p.block p.off p.sz rows Lr∧L=p.block::Lr
 | .sl m sz rows,v,L=>L=[]∧((rows=[]∧∃a c,v=.slice a 0 c∧(a=none→c=0))∨∃b o c,v=.slice (some ⟨b,o,none⟩) rows.length c∧rows.length≤c∧
   e.frozen m b∧yM e e.w0 b o sz rows [])
 | .agg cs,v,L =>∃vs:List Value,v=.agg vs.toArray∧RVs e cs vs L
 | .tup cs,v,L =>∃vs:List Value,v=.tuple vs.toArray∧RVs e cs vs L
def RVs (e:Env):List AV→List Value→List Nat→Prop
 | [],vs,L=>vs=[]∧L=[]
 | c::cs,vs,L =>∃v vs' L1 L2,vs=v::vs'∧RV e c v L1∧RVs e cs vs' L2∧L=L1++L2
def yM (e:Env) (W:World) (b o sz:Nat):List (List AV)→List Nat→Prop
 | [],L=>L=[]
 | r::rs,L =>∃vs L1 L2,(r.length=sz∧r.all yS=true)∧vs.length=sz∧(∀j,j<sz→W.cell? ⟨b,o+j,none⟩=vs[j]?)∧RVs e r vs L1∧yM e W b (o+sz) sz rs L2∧L=L1++L2
end
mutual
def bnd (A:Nat→Prop):AV→Prop
 | .fn _ cap=>jK A cap
 | .ptr nm _ _=>A nm
 | .fptr _ cells _=>jK A cells
 | .ns nm _ _=>A nm
 | .sl _ _ rows=>yW A rows
 | .agg cs=>jK A cs
 | .tup cs=>jK A cs
 | _=>True
def jK (A:Nat→Prop):List AV→Prop
 | []=>True
 | c::cs=>bnd A c∧jK A cs
def yW (A:Nat→Prop):List (List AV)→Prop
 | []=>True
 | r::rs=>jK A r∧yW A rs
end
theorem jV {A:Nat→Prop} {l:List AV}:jK A l↔∀x∈l,bnd A x:=by
 induction l with
 | nil=>simp [jK]
 | cons a l ih=>simp [jK,ih]
theorem yE {A:Nat→Prop} {l:List (List AV)}:yW A l↔∀x∈l,jK A x:=by
 induction l with
 | nil=>simp [yW]
 | cons a l ih=>simp [yW,ih]
mutual
theorem lO {A B:Nat→Prop} (h :∀n,A n→B n) :∀(v:AV),bnd A v→bnd B v
 | .fn _ cap,hb=>xC h cap hb
 | .ptr nm _ _,hb=>h nm hb
 | .fptr _ cells _,hb=>xC h cells hb
 | .ns nm _ _,hb=>h nm hb
 | .sl _ _ rows,hb=>uV h rows hb
 | .agg cs,hb=>xC h cs hb
 | .tup cs,hb=>xC h cs hb
 | .any,_ | .int _ _,_ | .bool _,_ | .str _,_ | .nilp,_ | .nil,_ | .nilI,_ | .ifc,_=>trivial
theorem xC {A B:Nat→Prop} (h :∀n,A n→B n) :∀(l:List AV),jK A l→jK B l
 | [],_=>trivial
 | c::cs,hb=>⟨lO h c hb.1,xC h cs hb.2⟩
theorem uV {A B:Nat→Prop} (h :∀n,A n→B n) :∀(l:List (List AV)),yW A l→yW B l
 | [],_=>trivial
 | c::cs,hb=>⟨xC h c hb.1,uV h cs hb.2⟩
end
structure dI (e e':Env) (A:Nat→Prop) (L:List Nat):Prop where
 num:e'.num=e.num
 fr :∀m b,e.frozen m b→e'.frozen m b
 cells :∀b,e.Fr b∨e.Bo b→∀o,e'.w0.cell? ⟨b,o,none⟩=e.w0.cell? ⟨b,o,none⟩
 φ :∀nm,A nm→e'.φ nm=e.φ nm∨e'.φ nm=.dead
 own :∀b∈L,e'.w.heap[b]?=e.w.heap[b]?
theorem dI.sub {e e':Env} {A:Nat→Prop} {L L':List Nat} (k:dI e e' A L) (h :∀b∈L',b∈L):dI e e' A L' :=
 ⟨k.num,k.fr,k.cells,k.φ,fun b hb=>k.own b (h b hb)⟩
theorem Env.frozen_or {e:Env} {m:Mode} {b:Nat} (h:e.frozen m b):e.Fr b∨e.Bo b:=by
 cases m<;>simp [Env.frozen] at h
 ·exact h
 ·exact .inl h
theorem uZ {w w':World} {b:Nat} (h:w'.heap[b]?=w.heap[b]?) (o:Nat):w'.cell? ⟨b,o,none⟩=w.cell? ⟨b,o,none⟩:=by
 simp only [World.cell?,h]
theorem hY.keep {w w':World} {p:qH7} {len:Nat} (h:w'.heap[p.block]?=w.heap[p.block]?) (ho:hY w p len):hY w' p len:=by
 obtain ⟨h1,h2,arr,ty,h3,h4⟩:=ho
 exact ⟨h1,h2,arr,ty,by rw [h,h3],h4⟩
mutual
theorem iS {e e':Env} {A:Nat→Prop} :∀(v:AV) {c:Value} {L:List Nat},dI e e' A L→bnd A v→RV e v c L→RV e' v c L
 | .any,_,_,_,_,h=>h
 | .int ..,_,_,_,_,h=>h
 | .bool ..,_,_,_,_,h=>h
 | .str ..,_,_,_,_,h=>h
 | .nilp,_,_,_,_,h=>h
 | .nil,_,_,_,_,h=>h
 | .nilI,_,_,_,_,h=>h
 | .ifc,_,_,_,_,h=>h
 | .fn f cap,_,_,k,hb,h=>by
  simp only [RV] at h⊢
  obtain ⟨vs,h1,h2,h3⟩:=h
  exact ⟨vs,by rw [k.num]; exact h1,zD cap k hb h2,h3⟩
 | .ptr nm i f,_,_,k,hb,h=>by
  simp only [RV] at h⊢
  refine ⟨h.1,?_⟩
  rcases k.φ nm hb with hp | hp
  ·rw [hp]; exact h.2
  ·rw [hp]
   obtain ⟨_,h⟩:=h
   cases hq:e.φ nm<;>rw [hq] at h
   ·exact h
   ·exact h.elim
   ·exact ⟨_,h⟩
 | .fptr m cells f,_,_,k,hb,h=>by
  simp only [RV] at h⊢
  obtain ⟨h0,b,o,vs,h1,h2,h3,h4,h5⟩:=h
  subst h0
  exact ⟨rfl,b,o,vs,h1,k.fr m b h2,h3,fun j hj=>by rw [k.cells b (Env.frozen_or h2)]; exact h4 j hj,zD cells k hb h5⟩
 | .ns nm off len,_,_,k,hb,h=>by
  simp only [RV] at h⊢
  refine ⟨h.1,?_⟩
  rcases k.φ nm hb with hp | hp
  ·rw [hp]; exact h.2
  ·rw [hp]
   obtain ⟨_,h⟩:=h
   cases hq:e.φ nm<;>rw [hq] at h
   ·exact h
   ·obtain ⟨_,_,a,h⟩:=h
    exact ⟨_,_,_,h⟩
   ·obtain ⟨_,a,h,_⟩:=h
    exact ⟨_,_,_,h⟩
 | .sl .own sz rows,_,_,k,hb,h=>by
  simp only [RV] at h⊢
  rcases h with h | ⟨p,Lr,h0,h1,h2,h3,h4⟩
  ·exact .inl h
  ·subst h4
   refine .inr ⟨p,Lr,h0,h1,h2.keep (k.own _ (by simp)),?_,rfl⟩
   exact uJ rows (k.sub (by simp +contextual)) hb (fun hne o'=>uZ (k.own _ (by simp)) o') h3
 | .sl .bw sz rows,_,_,k,hb,h=>by
  simp only [RV] at h⊢
  obtain ⟨h0,h⟩:=h
  subst h0
  refine ⟨rfl,?_⟩
  rcases h with h | ⟨b,o,c,h1,h2,h3,h4⟩
  ·exact .inl h
  ·exact .inr ⟨b,o,c,h1,h2,k.fr _ b h3,uJ rows k hb (fun _ o'=>k.cells b (Env.frozen_or h3) o') h4⟩
 | .sl .fz sz rows,_,_,k,hb,h=>by
  simp only [RV] at h⊢
  obtain ⟨h0,h⟩:=h
  subst h0
  refine ⟨rfl,?_⟩
  rcases h with h | ⟨b,o,c,h1,h2,h3,h4⟩
  ·exact .inl h
  ·exact .inr ⟨b,o,c,h1,h2,k.fr _ b h3,uJ rows k hb (fun _ o'=>k.cells b (Env.frozen_or h3) o') h4⟩
 | .agg cs,_,_,k,hb,h=>by
  simp only [RV] at h⊢
  obtain ⟨vs,h1,h2⟩:=h
  exact ⟨vs,h1,zD cs k hb h2⟩
 | .tup cs,_,_,k,hb,h=>by
  simp only [RV] at h⊢
  obtain ⟨vs,h1,h2⟩:=h
  exact ⟨vs,h1,zD cs k hb h2⟩
theorem zD {e e':Env} {A:Nat→Prop} :∀(l:List AV) {cs:List Value} {L:List Nat},dI e e' A L→jK A l→RVs e l cs L→RVs e' l cs L
 | [],_,_,_,_,h=>by simpa only [RVs] using h
 | c::cs,_,_,k,hb,h=>by
  simp only [RVs] at h⊢
  obtain ⟨v,vs',L1,L2,h1,h2,h3,h4⟩:=h
  subst h4
  exact ⟨v,vs',L1,L2,h1,iS c (k.sub (by simp +contextual)) hb.1 h2,zD cs (k.sub (by simp +contextual)) hb.2 h3,rfl⟩
theorem uJ {e e':Env} {A:Nat→Prop} :∀(rs:List (List AV)) {W W':World} {b o sz:Nat} {L:List Nat},dI e e' A L→yW A rs→
  (rs≠[]→∀o',W'.cell? ⟨b,o',none⟩=W.cell? ⟨b,o',none⟩)→yM e W b o sz rs L→yM e' W' b o sz rs L
 | [],_,_,_,_,_,_,_,_,_,h=>by simpa only [yM] using h
 | r::rs,W,W',b,o,sz,L,k,hb,hW,h=>by
  simp only [yM] at h⊢
  obtain ⟨vs,L1,L2,h1,h2,h3,h4,h5,h6⟩:=h
  subst h6
  exact ⟨vs,L1,L2,h1,h2,fun j hj=>by rw [hW (by simp)]; exact h3 j hj,zD r (k.sub (by simp +contextual)) hb.1 h4,
   uJ rs (k.sub (by simp +contextual)) hb.2 (fun _=>hW (by simp)) h5,rfl⟩
end
end Go.Sep
namespace Go.Sep
set_option linter.unusedVariables false
set_option linter.unusedSimpArgs false
theorem uI {e:Env} :∀(xs ys:List AV) {cs:List Value} {L:List Nat},
  RVs e (xs++ys) cs L↔∃c1 c2 L1 L2,cs=c1++c2∧L=L1++L2∧RVs e xs c1 L1∧RVs e ys c2 L2
 | [],ys,cs,L=>by
  simp only [List.nil_append,RVs]
  constructor
  ·intro h; exact ⟨[],cs,[],L,rfl,rfl,⟨rfl,rfl⟩,h⟩
  ·rintro ⟨c1,c2,L1,L2,rfl,rfl,⟨rfl,rfl⟩,h⟩; exact h
 | x::xs,ys,cs,L=>by
  simp only [wBd,RVs]
  constructor
  ·rintro ⟨v,vs',L1,L2,rfl,h2,h3,rfl⟩
   obtain ⟨c1,c2,L3,L4,rfl,rfl,h4,h5⟩:=(uI xs ys).1 h3
   exact ⟨v::c1,c2,L1++L3,L4,by simp,by simp,⟨v,c1,L1,L3,rfl,h2,h4,rfl⟩,h5⟩
  ·rintro ⟨c1,c2,L1,L2,rfl,rfl,⟨v,vs',L3,L4,rfl,h2,h3,rfl⟩,h5⟩
   exact ⟨v,vs'++c2,L3,L4++L2,by simp,h2,(uI xs ys).2 ⟨vs',c2,L4,L2,rfl,rfl,h3,h5⟩,by simp⟩
theorem yU {e:Env} :∀{xs:List AV} {cs:List Value} {L:List Nat},RVs e xs cs L→cs.length=xs.length
 | [],_,_,h=>by simp only [RVs] at h; simp [h.1]
 | x::xs,_,_,h=>by
  simp only [RVs] at h
  obtain ⟨v,vs',L1,L2,rfl,h2,h3,rfl⟩:=h
  simp [yU h3]
theorem qZe {e:Env} {xs:List AV} {cs:List Value} {L:List Nat} (h:RVs e xs cs L) (j:Nat) (hj:j<xs.length) :
  ∃v L1 L2 L3,cs[j]?=some v∧RV e xs[j] v L2∧L=L1++(L2++L3):=by
 have hs:xs=xs.take j++(xs[j]::xs.drop (j+1)):=by simp
 rw [hs] at h
 obtain ⟨c1,c2,L1,L2,rfl,rfl,h4,h5⟩:=(uI _ _).1 h
 simp only [RVs] at h5
 obtain ⟨v,vs',L3,L4,rfl,h6,h7,rfl⟩:=h5
 have hl:=yU h4
 simp [wBe (Nat.le_of_lt hj)] at hl
 refine ⟨v,L1,L3,L4,?_,h6,rfl⟩
 rw [wBf (by omega),hl]
 simp
theorem cG {e:Env} {xs:List AV} {cs:List Value} (h:RVs e xs cs []) (j:Nat) (hj:j<xs.length) :
  ∃v,cs[j]?=some v∧RV e xs[j] v []:=by
 obtain ⟨v,L1,L2,L3,h1,h2,h3⟩:=qZe h j hj
 have:L2=[]:=by
  have:=h3.symm
  simp at this
  exact this.2.1
 subst this
 exact ⟨v,h1,h2⟩
theorem jM {e:Env} {W:World} {b sz:Nat} :∀(xs ys:List (List AV)) {o:Nat} {L:List Nat},
  yM e W b o sz (xs++ys) L↔∃L1 L2,yM e W b o sz xs L1∧yM e W b (o+xs.length*sz) sz ys L2∧L=L1++L2
 | [],ys,o,L=>by
  simp only [List.nil_append,yM,wBg,Nat.zero_mul,Nat.add_zero]
  constructor
  ·intro h; exact ⟨[],L,rfl,h,rfl⟩
  ·rintro ⟨L1,L2,rfl,h,rfl⟩; exact h
 | x::xs,ys,o,L=>by
  simp only [wBd,yM]
  have ho:o+sz+xs.length*sz=o+(x::xs).length*sz:=by simp [Nat.add_mul]; omega
  constructor
  ·rintro ⟨vs,L1,L2,h1,h2,h3,h4,h5,rfl⟩
   obtain ⟨L3,L4,h6,h7,rfl⟩:=(jM xs ys).1 h5
   rw [ho] at h7
   exact ⟨L1++L3,L4,⟨vs,L1,L3,h1,h2,h3,h4,h6,rfl⟩,h7,by simp⟩
  ·rintro ⟨L1,L2,⟨vs,L3,L4,h1,h2,h3,h4,h6,rfl⟩,h7,rfl⟩
   rw [←ho] at h7
   exact ⟨vs,L3,L4++L2,h1,h2,h3,h4,(jM xs ys).2 ⟨L4,L2,h6,h7,rfl⟩,by simp⟩
theorem cH {e:Env} {W:World} {b o sz:Nat} {xs:List (List AV)} {L:List Nat} (i:Nat) (hi:i<xs.length) (h:yM e W b o sz xs L) :
  ∃vs L1 L2 L3,(xs[i].length=sz∧xs[i].all yS=true)∧vs.length=sz∧(∀j,j<sz→W.cell? ⟨b,o+i*sz+j,none⟩=vs[j]?)∧RVs e xs[i] vs L2∧
   yM e W b o sz (xs.take i) L1∧yM e W b (o+(i+1)*sz) sz (xs.drop (i+1)) L3∧L=L1++(L2++L3):=by
 have hs:xs=xs.take i++(xs[i]::xs.drop (i+1)):=by simp
 rw [hs] at h
 obtain ⟨L1,L2,h1,h2,rfl⟩:=(jM _ _).1 h
 simp only [yM,wBi,wBe (Nat.le_of_lt hi)] at h2
 obtain ⟨vs,L3,L4,h3,h4,h5,h6,h7,rfl⟩:=h2
 refine ⟨vs,L1,L3,L4,h3,h4,h5,h6,h1,?_,rfl⟩
 rw [show o+(i+1)*sz=o+i*sz+sz by rw [wBh]; omega]
 exact h7
theorem tK {e:Env} {W:World} {b o sz:Nat} {xs:List (List AV)} {r:List AV} {vs:List Value} {L1 L2 L3:List Nat} (i:Nat) (hi:i<xs.length)
  (h1:r.length=sz∧r.all yS=true) (h2:vs.length=sz) (h3 :∀j,j<sz→W.cell? ⟨b,o+i*sz+j,none⟩=vs[j]?) (h4:RVs e r vs L2)
  (h5:yM e W b o sz (xs.take i) L1) (h6:yM e W b (o+(i+1)*sz) sz (xs.drop (i+1)) L3):yM e W b o sz (xs.set i r) (L1++(L2++L3)):=by
 have hs:xs.set i r=xs.take i++(r::xs.drop (i+1)):=by rw [List.set_eq_take_append_cons_drop,if_pos hi]
 rw [hs]
 refine (jM _ _).2 ⟨L1,L2++L3,h5,?_,rfl⟩
 simp only [yM,wBi,wBe (Nat.le_of_lt hi)]
 refine ⟨vs,L2,L3,h1,h2,h3,h4,?_,rfl⟩
 rw [show o+(i+1)*sz=o+i*sz+sz by rw [wBh]; omega] at h6
 exact h6
theorem iU {e:Env} {W W':World} {b sz:Nat} :∀(xs:List (List AV)) {o:Nat} {L:List Nat},(∀j,o≤j→j<o+xs.length*sz→W'.cell? ⟨b,j,none⟩=W.cell? ⟨b,j,none⟩)→
  yM e W b o sz xs L→yM e W' b o sz xs L
 | [],_,_,_,h=>by simpa only [yM] using h
 | x::xs,o,L,hc,h=>by
  simp only [yM] at h⊢
  obtain ⟨vs,L1,L2,h1,h2,h3,h4,h5,h6⟩:=h
  have hm:(x::xs).length*sz=sz+xs.length*sz:=by simp [Nat.add_mul]; omega
  rw [hm] at hc
  exact ⟨vs,L1,L2,h1,h2,fun j hj=>by rw [hc _ (by omega) (by omega)]; exact h3 j hj,h4,iU xs (fun j a c=>hc j (by omega) (by omega)) h5,h6⟩
def gI (e:Env) (s:vG) (row:Row) (L:List Nat):Prop :=
 match s with
 | .dead=>False
 | .nilp=>row.2=[]∧L=[]
 | .at p=>p.sz=row.1∧hY e.w p row.2.length∧∃Lr,yM e e.w p.block p.off p.sz row.2 Lr∧L=p.block::Lr
def qQ:wT→Nat→Option Row
 | [],_=>none
 | (m,r)::h,n=>if n=m then some r else qQ h n
def uX (e:Env) (nm:Nat) (row:Row) (L:List Nat):Prop:=gI e (e.φ nm) row L
theorem uX.keep {e e':Env} {A:Nat→Prop} {nm:Nat} {row:Row} {L:List Nat} (k:dI e e' A L) (hφ:e'.φ nm=e.φ nm) (hb:yW A row.2) (h:uX e nm row L):uX e' nm row L:=by
 unfold uX gI at h⊢
 rw [hφ]
 cases hp:e.φ nm with
 | dead=>rw [hp] at h; exact h
 | nilp=>rw [hp] at h; exact h
 | «at» p =>
  rw [hp] at h
  obtain ⟨h0,h1,Lr,h2,rfl⟩:=h
  exact ⟨h0,h1.keep (k.own _ (by simp)),Lr,uJ row.2 (k.sub (by simp +contextual)) hb (fun _ o=>uZ (k.own _ (by simp)) o) h2,rfl⟩
structure RH (e:Env) (H:Nat→Option Row) (Lf:Nat→List Nat):Prop where
 row :∀nm row,H nm=some row→uX e nm row (Lf nm)
 nodup :∀nm,H nm≠none→(Lf nm).Nodup
 blk :∀nm,H nm≠none→∀b∈Lf nm,b<e.w.heap.size∧¬e.Fr b∧¬e.Bo b
 dis :∀n m,H n≠none→H m≠none→n≠m→∀b∈Lf n,b∉Lf m
 dead :∀nm,H nm=none→e.φ nm=.dead
end Go.Sep
namespace Go.Sep
set_option linter.unusedVariables false
set_option linter.unusedSimpArgs false
def gH (w w':World):Prop:=w'.os=w.os∧w'.tape=w.tape∧w'.output=w.output
theorem gH.refl (w:World):gH w w:=⟨rfl,rfl,rfl⟩
theorem gH.trans {w w' w'':World} (h:gH w w') (h':gH w' w''):gH w w'':=⟨h'.1.trans h.1,h'.2.1.trans h.2.1,h'.2.2.trans h.2.2⟩
structure dP (e:Env) (H:Nat→Option Row) (Lf:Nat→List Nat) (F:Nat→Prop) (e':Env) (H':Nat→Option Row) (Lf':Nat→List Nat):Prop where
 num:e'.num=e.num
 w0:e'.w0=e.w0
 Fr:e'.Fr=e.Fr
 Bo:e'.Bo=e.Bo
 io:gH e.w e'.w
 size:e.w.heap.size≤e'.w.heap.size
 keep :∀b,b<e.w.heap.size→(∀nm,F nm→H nm≠none→b∉Lf nm)→e'.w.heap[b]?=e.w.heap[b]?
 φ :∀nm,¬F nm→e'.φ nm=e.φ nm
 φF :∀nm,F nm→H nm≠none→e'.φ nm=e.φ nm∨e'.φ nm=.dead
 rest :∀nm,¬F nm→H' nm=H nm
 row :∀nm row,F nm→H' nm=some row→uX e' nm row (Lf' nm)
 nodup :∀nm,F nm→H' nm≠none→(Lf' nm).Nodup
 blk :∀nm,F nm→H' nm≠none→∀b∈Lf' nm,b<e'.w.heap.size∧(e.w.heap.size≤b∨∃m,F m∧H m≠none∧b∈Lf m)
 dis :∀n m,F n→F m→H' n≠none→H' m≠none→n≠m→∀b∈Lf' n,b∉Lf' m
 dead :∀nm,F nm→H' nm=none→e'.φ nm=.dead
open Classical in
noncomputable def mix (F:Nat→Prop) (Lf Lf':Nat→List Nat) (nm:Nat):List Nat:=if F nm then Lf' nm else Lf nm
theorem iK {F:Nat→Prop} {Lf Lf':Nat→List Nat} {nm:Nat} (h:F nm):mix F Lf Lf' nm=Lf' nm:=by simp [mix,h]
theorem cS {F:Nat→Prop} {Lf Lf':Nat→List Nat} {nm:Nat} (h :¬F nm):mix F Lf Lf' nm=Lf nm:=by simp [mix,h]
structure Ok (e:Env) (L0:List Nat) (H:Nat→Option Row) (Lf:Nat→List Nat):Prop where
 size0:e.w0.heap.size≤e.w.heap.size
 io0:gH e.w0 e.w
 fr :∀b,e.Fr b∨e.Bo b→b<e.w0.heap.size∧b∉L0
 keep0 :∀b,b<e.w0.heap.size→b∉L0→e.w.heap[b]?=e.w0.heap[b]?
 own0 :∀nm,H nm≠none→∀b∈Lf nm,b∈L0∨e.w0.heap.size≤b
 rh:RH e H Lf
theorem Ok.frozen_cell {e:Env} {L0:List Nat} {H:Nat→Option Row} {Lf:Nat→List Nat} (h:Ok e L0 H Lf) {b:Nat} (hb:e.Fr b∨e.Bo b) (o:Nat) :
  e.w.cell? ⟨b,o,none⟩=e.w0.cell? ⟨b,o,none⟩ :=
 uZ (h.keep0 b (h.fr b hb).1 (h.fr b hb).2) o
theorem dP.keeps {e e':Env} {H H':Nat→Option Row} {Lf Lf':Nat→List Nat} {F A:Nat→Prop} {L:List Nat} (t:dP e H Lf F e' H' Lf')
  (hφ :∀nm,A nm→F nm→H nm=none→e'.φ nm=.dead) (hd :∀nm,H nm=none→e.φ nm=.dead)
  (hL :∀b∈L,b<e.w.heap.size∧∀nm,F nm→H nm≠none→b∉Lf nm):dI e e' A L where
 num:=t.num
 fr m b h:=by cases m<;>simp_all [Env.frozen,t.Fr,t.Bo]
 cells b h o:=by rw [t.w0]
 φ nm hn:=by
  by_cases hF:F nm
  ·by_cases hH:H nm=none
   ·exact .inr (hφ nm hn hF hH)
   ·exact t.φF nm hF hH
  ·exact .inl (t.φ nm hF)
 own b hb:=t.keep b (hL b hb).1 (hL b hb).2
theorem dP.ok {e e':Env} {L0:List Nat} {H H':Nat→Option Row} {Lf Lf':Nat→List Nat} {F A:Nat→Prop} (t:dP e H Lf F e' H' Lf') (h:Ok e L0 H Lf)
  (hb :∀nm row,H nm=some row→yW A row.2) (hφ :∀nm,A nm→F nm→H nm=none→e'.φ nm=.dead):Ok e' L0 H' (mix F Lf Lf') where
 size0:=by rw [t.w0]; exact Nat.le_trans h.size0 t.size
 io0:=by rw [t.w0]; exact h.io0.trans t.io
 fr b hb:=by rw [t.w0]; rw [t.Fr,t.Bo] at hb; exact h.fr b hb
 keep0 b h1 h2:=by
  rw [t.w0] at h1⊢
  rw [t.keep b (Nat.lt_of_lt_of_le h1 h.size0) (fun nm _ hn hm=>?_)]
  ·exact h.keep0 b h1 h2
  ·rcases h.own0 nm hn b hm with h3 | h3
   ·exact h2 h3
   ·omega
 own0 nm hn b hb':=by
  rw [t.w0]
  by_cases hF:F nm
  ·rw [iK hF] at hb'
   obtain ⟨_,h3 | ⟨m,h4,h5,h6⟩⟩:=t.blk nm hF hn b hb'
   ·exact .inr (Nat.le_trans h.size0 h3)
   ·exact h.own0 m h5 b h6
  ·rw [cS hF] at hb'
   rw [t.rest nm hF] at hn
   exact h.own0 nm hn b hb'
 rh:={
  row:=fun nm row hr=>by
   by_cases hF:F nm
   ·rw [iK hF]; exact t.row nm row hF hr
   ·rw [cS hF]
    rw [t.rest nm hF] at hr
    refine (h.rh.row nm row hr).keep (t.keeps hφ h.rh.dead ?_) (t.φ nm hF) (hb nm row hr)
    intro b hb'
    refine ⟨(h.rh.blk nm (by simp [hr]) b hb').1,fun m hm hn=>?_⟩
    exact h.rh.dis nm m (by simp [hr]) hn (fun he=>hF (he▸hm)) b hb'
  nodup:=fun nm hn=>by
   by_cases hF:F nm
   ·rw [iK hF]; exact t.nodup nm hF hn
   ·rw [cS hF]; rw [t.rest nm hF] at hn; exact h.rh.nodup nm hn
  blk:=fun nm hn b hb'=>by
   rw [t.Fr,t.Bo]
   by_cases hF:F nm
   ·rw [iK hF] at hb'
    obtain ⟨h2,h3 | ⟨m,h4,h5,h6⟩⟩:=t.blk nm hF hn b hb'
    ·refine ⟨h2,?_,?_⟩
     ·intro hf; have:=(h.fr b (.inl hf)).1; have:=h.size0; omega
     ·intro hf; have:=(h.fr b (.inr hf)).1; have:=h.size0; omega
    ·exact ⟨h2,(h.rh.blk m h5 b h6).2⟩
   ·rw [cS hF] at hb'
    rw [t.rest nm hF] at hn
    have:=h.rh.blk nm hn b hb'
    exact ⟨Nat.lt_of_lt_of_le this.1 t.size,this.2⟩
  dis:=fun n m hn hm hne b hb1 hb2=>by
   by_cases hF:F n<;>by_cases hG:F m
   ·rw [iK hF] at hb1; rw [iK hG] at hb2
    exact t.dis n m hF hG hn hm hne b hb1 hb2
   ·rw [iK hF] at hb1; rw [cS hG] at hb2
    rw [t.rest m hG] at hm
    obtain ⟨_,h3 | ⟨k,h4,h5,h6⟩⟩:=t.blk n hF hn b hb1
    ·have:=(h.rh.blk m hm b hb2).1; omega
    ·exact h.rh.dis k m h5 hm (fun he=>hG (he▸h4)) b h6 hb2
   ·rw [cS hF] at hb1; rw [iK hG] at hb2
    rw [t.rest n hF] at hn
    obtain ⟨_,h3 | ⟨k,h4,h5,h6⟩⟩:=t.blk m hG hm b hb2
    ·have:=(h.rh.blk n hn b hb1).1; omega
    ·exact h.rh.dis k n h5 hn (fun he=>hF (he▸h4)) b h6 hb1
   ·rw [cS hF] at hb1; rw [cS hG] at hb2
    rw [t.rest n hF] at hn; rw [t.rest m hG] at hm
    exact h.rh.dis n m hn hm hne b hb1 hb2
  dead:=fun nm hn=>by
   by_cases hF:F nm
   ·exact t.dead nm hF hn
   ·rw [t.φ nm hF]; rw [t.rest nm hF] at hn; exact h.rh.dead nm hn}
end Go.Sep
namespace Go.Sep
set_option linter.unusedVariables false
set_option linter.unusedSimpArgs false
inductive Arg where
 | t (n:Nat)
 | c (v:AV)
inductive MOp where
 | mv (x:Arg)
 | pick (c a b:Arg)
 | alloc (zero:List AV)
 | box (x:Arg)
 | build (zero:List AV) (parts:List (Nat×Nat×Arg))
 | mkSl (zero:List AV) (len:Nat) (parts:List (Nat×Arg))
 | load (n:Nat) (ag:Bool) (a:Arg)
 | store (n:Nat) (a v:Arg)
 | nilck (x:Arg)
 | bin (op:BinOp) (x y:Arg)
 | eqS (neg:Bool) (ks:List Bool) (x y:Arg)
 | eqB (neg:Bool) (x y:Arg)
 | neNil (x:Arg)
 | un (op:UnOp) (x:Arg)
 | cvi (k:IntKind) (x:Arg)
 | cvs (x:Arg)
 | mkS (zero:List AV) (bytes:Nat) (l c:Arg)
 | cut (sz:Nat) (x:Arg) (lo hi:Option Arg)
 | cutS (x:Arg) (lo hi:Option Arg)
 | fad (off:Nat) (x:Arg)
 | fld (off n:Nat) (ag:Bool) (x:Arg)
 | iad (sz:Nat) (x i:Arg)
 | idx (x i:Arg)
 | ext (x:Arg) (i:Nat)
 | len (x:Arg)
 | lenS (x:Arg)
 | mx (x y:Arg)
 | app (sz bytes:Nat) (s x:Arg)
 | clr (zero:List AV) (x:Arg)
 | call (f:Nat) (ps:List Bool) (xs:List Arg)
 | calv (g:Arg) (xs:List Arg)
structure yC where
 dst:Option Nat
 op:MOp
 guard:Option (Nat×Bool):=none
inductive vZ where
 | done
 | take (i:Nat) (o:yC) (k:vZ)
 | only (i:Nat) (deps:List Nat) (o:yC) (k:vZ)
 | both (i:Nat) (di:List Nat) (o:yC) (k:vZ) (j:Nat) (dj:List Nat) (p:yC) (l:vZ)
 | tri (i:Nat) (di:List Nat) (o:yC) (k:vZ) (j:Nat) (dj:List Nat) (p:yC) (l:vZ) (m:Nat) (dm:List Nat) (q:yC) (r:vZ)
inductive bK where
 | skip
 | dreg (tr:vZ)
 | reg (draw:Bool) (ops:List yC)
 | seq (a b:bK)
 | cond (x:Nat) (a b:bK)
 | blk (id:Nat) (a:bK)
 | loop (a:bK)
 | exit (id:Nat)
 | ret
inductive qE1 where
 | t (n:Nat)
 | cell (a n:Nat) (ag:Bool)
structure MFn where
 ntmps:Nat
 results:List qE1
 body:bK
inductive AS where
 | mk (t:List (Nat×AV)) (h:wT) (nx:Nat)
 | bad
def wD:List (Nat×AV)→Nat→AV
 | [],_=>.any
 | (m,v)::l,n=>if n=m then v else wD l n
def qYf (l:List (Nat×AV)) (n:Nat) (v:AV):List (Nat×AV):=(n,v)::l
def bS (l:List (Nat×AV)):Option Nat→AV→List (Nat×AV)
 | none,_=>l
 | some n,v=>qYf l n v
def Arg.ev (ρ:Nat→AV):Arg→AV
 | .t n=>ρ n
 | .c v=>v
def put:wT→Nat→Row→wT
 | [],n,r=>[(n,r)]
 | (m,s)::h,n,r=>if n=m then (m,r)::h else (m,s)::put h n r
def del:wT→Nat→wT
 | [],_=>[]
 | (m,s)::h,n=>if n=m then del h n else (m,s)::del h n
abbrev FP:=List (Nat×Option Row×Option Row)
def dR (h:wT):FP→wT
 | []=>h
 | (n,_,some r)::fp=>dR (put h n r) fp
 | (n,_,none)::fp=>dR (del h n) fp
def cellsOf:AV→List AV
 | .agg cs=>cs
 | v=>[v]
def yX:Nat→List AV→List AV×List (Nat×Row)×Nat
 | n,[]=>([],[],n)
 | n,.sl .own sz rows::l=>(.ns n 0 rows.length::(yX (n+1) l).1,(n,(sz,rows))::(yX (n+1) l).2.1,(yX (n+1) l).2.2)
 | n,v::l=>(v::(yX n l).1,(yX n l).2.1,(yX n l).2.2)
def fresh (l:List (Nat×Row)):FP:=l.map fun x=>(x.1,none,some x.2)
def gF (r:List AV) (f:Nat) (cs:List AV):List AV:=r.take f++cs++r.drop (f+cs.length)
def qJf (ρ:Nat→AV):List AV→List (Nat×Nat×Arg)→List AV
 | cs,[]=>cs
 | cs,(off,_,x)::l=>qJf ρ (gF cs off (cellsOf (x.ev ρ))) l
def qC6 (ρ:Nat→AV) (n:Nat):List (Nat×Nat×Arg)→Prop
 | []=>True
 | (off,sz,x)::l=>((cellsOf (x.ev ρ)).length=sz∧(cellsOf (x.ev ρ)).all yS=true∧off+sz≤n)∧qC6 ρ n l
def qAr (ρ:Nat→AV):List (List AV)→List (Nat×Arg)→List (List AV)
 | rs,[]=>rs
 | rs,(i,x)::l=>qAr ρ (rs.set i (cellsOf (x.ev ρ))) l
def rG (ρ:Nat→AV) (n sz:Nat):List (Nat×Arg)→Prop
 | []=>True
 | (i,x)::l=>(i<n∧(cellsOf (x.ev ρ)).length=sz∧(cellsOf (x.ev ρ)).all yS=true)∧rG ρ n sz l
def qAh:AV→Bool
 | .sl .own _ _=>true
 | .agg _ | .tup _ | .fn _ _=>true
 | _=>false
def free (rows:List (List AV)):Prop :=∀r∈rows,∀c∈r,qAh c=false
def eqC:List Bool→List AV→List AV→Option Bool
 | [],[],[]=>some true
 | true::ks,.int k a::xs,.int k' b::ys=>if k=k' then (eqC ks xs ys).map (fun r=>decide (a=b)&&r) else none
 | false::ks,.bool a::xs,.bool b::ys=>(eqC ks xs ys).map (fun r=>(a==b)&&r)
 | _,_,_=>none
abbrev Out:=Option (Prop×AV×FP×Nat)
def ok (v:AV) (n:Nat):Out:=some (True,v,[],n)
def qP1 (k:IntKind) (a b:Int):Int:=k.wrap (BitVec.ofInt k.bits a &&& BitVec.ofInt k.bits b).toNat
def bOr (k:IntKind) (a b:Int):Int:=k.wrap (BitVec.ofInt k.bits a ||| BitVec.ofInt k.bits b).toNat
def wAh (k:IntKind) (a b:Int):Int:=k.wrap (BitVec.ofInt k.bits a ^^^ BitVec.ofInt k.bits b).toNat
def qUt (k:IntKind) (a b:Int):Int:=k.wrap (a*2^(min b.toNat k.bits))
def qP0 (k:IntKind) (a b:Int):Int:=a.fdiv (2^(min b.toNat k.bits))
def qF0 (op:BinOp) (k:IntKind) (a b:Int):Option (Prop×AV) :=
 match op with
 | .shl=>some (0≤b,.int k (qUt k a b))
 | .shr=>some (0≤b,.int k (qP0 k a b))
 | _=>none
def qCf (op:BinOp) (x y:AV):Option (Prop×AV) :=
 match x,y with
 | .int k a,.int k' b =>
  if k=k' then
   match op with
   | .add=>some (True,.int k (k.wrap (a+b)))
   | .sub=>some (True,.int k (k.wrap (a-b)))
   | .mul=>some (True,.int k (k.wrap (a*b)))
   | .quo=>some (b≠0,.int k (k.wrap (a.tdiv b)))
   | .rem=>some (b≠0,.int k (a.tmod b))
   | .eql=>some (True,.bool (decide (a=b)))
   | .neq=>some (True,.bool (!decide (a=b)))
   | .lss=>some (True,.bool (decide (a<b)))
   | .leq=>some (True,.bool (decide (a≤b)))
   | .gtr=>some (True,.bool (decide (b<a)))
   | .geq=>some (True,.bool (decide (b≤a)))
   | .and=>some (True,.int k (qP1 k a b))
   | .or=>some (True,.int k (bOr k a b))
   | .xor=>some (True,.int k (wAh k a b))
   | .shl=>some (0≤b,.int k (qUt k a b))
   | .shr=>some (0≤b,.int k (qP0 k a b))
   | _=>none
  else qF0 op k a b
 | .str a,.str b =>
  match op with
  | .add=>some (((a.size+b.size:Nat):Int)≤9223372036854775807,.str (a++b))
  | .eql=>some (True,.bool (decide (a=b)))
  | .neq=>some (True,.bool (!decide (a=b)))
  | _=>none
 | _,_=>none
def kT (h:wT) (sz:Nat):AV→Option (Prop×List (List AV)×FP)
 | .nil=>some (True,[],[])
 | .ns nm off len=>(qQ h nm).map fun row=>(row.1=sz∧off+len≤row.2.length∧free ((row.2.drop off).take len),(row.2.drop off).take len,[(nm,some row,some row)])
 | .sl .bw s rows=>some (s=sz∧free rows,rows,[])
 | .sl .fz s rows=>some (s=sz∧free rows,rows,[])
 | _=>none
def eR:List (List AV)→Option (List UInt8)
 | []=>some []
 | [.int .u8 n]::l=>(eR l).map (UInt8.ofNat n.toNat::·)
 | _=>none
def aJ (ρ:Nat→AV) (d:Int):Option Arg→Option Int
 | none=>some d
 | some a=>match a.ev ρ with
  | .int _ n=>some n
  | _=>none
def wO (ρ:Nat→AV) (h:wT) (nx:Nat):MOp→Out
 | .mv x=>ok (x.ev ρ) nx
 | .pick c a b=>match c.ev ρ with
  | .bool q=>match a.ev ρ,b.ev ρ with
   | .bool x,.bool y=>ok (.bool (bif q then x else y)) nx
   | x,y=>ok (bif q then x else y) nx
  | _=>none
 | .alloc zero=>some (0<zero.length,.ptr nx 0 0,[(nx,none,some (zero.length,[zero]))],nx+1)
 | .box x=>some ((cellsOf (x.ev ρ)).all yS=true∧0<(cellsOf (x.ev ρ)).length,.ptr nx 0 0,[(nx,none,some ((cellsOf (x.ev ρ)).length,[cellsOf (x.ev ρ)]))],nx+1)
 | .build zero parts=>some (qC6 ρ zero.length parts,.agg (qJf ρ zero parts),[],nx)
 | .mkSl zero len parts=>some (rG ρ len zero.length parts,.ns nx 0 len,[(nx,none,some (zero.length,qAr ρ (wBj len zero) parts))],nx+1)
 | .load n ag a=>match a.ev ρ with
  | .ptr nm i f=>(qQ h nm).map fun row =>
   let o:=yX nx (((row.2.getD i []).drop f).take n)
   (i<row.2.length∧f+n≤(row.2.getD i []).length,if ag then .agg o.1 else o.1.getD 0 .any,
    (nm,some row,some (if o.2.1.isEmpty then row else (row.1,row.2.set i (gF (row.2.getD i []) f o.1))))::fresh o.2.1,o.2.2)
  | .fptr m cells f=>some (f+n≤cells.length,if ag then .agg ((cells.drop f).take n) else ((cells.drop f).take n).getD 0 .any,[],nx)
  | _=>none
 | .store n a v=>match a.ev ρ with
  | .ptr nm i f=>(qQ h nm).map fun row =>
   ((cellsOf (v.ev ρ)).length=n∧(cellsOf (v.ev ρ)).all yS=true∧i<row.2.length∧f+n≤(row.2.getD i []).length,.any,
    [(nm,some row,some (row.1,row.2.set i (gF (row.2.getD i []) f (cellsOf (v.ev ρ)))))],nx)
  | _=>none
 | .nilck x=>match x.ev ρ with
  | .ptr nm i f=>(qQ h nm).map fun row=>(True,.ptr nm i f,[(nm,some row,some row)],nx)
  | .fptr m cs f=>ok (.fptr m cs f) nx
  | _=>none
 | .bin op x y=>(qCf op (x.ev ρ) (y.ev ρ)).map fun r=>(r.1,r.2,[],nx)
 | .eqS neg ks x y=>match x.ev ρ,y.ev ρ with
  | .agg xs,.agg ys=>(eqC ks xs ys).map fun r=>(True,.bool (if neg then !r else r),[],nx)
  | _,_=>none
 | .eqB neg x y=>match x.ev ρ,y.ev ρ with
  | .bool a,.bool b=>ok (.bool (if neg then !(a==b) else a==b)) nx
  | _,_=>none
 | .neNil x=>match x.ev ρ with
  | .nilI=>ok (.bool false) nx
  | .ifc=>ok (.bool true) nx
  | _=>none
 | .un op x=>match op,x.ev ρ with
  | .not,.bool b=>ok (.bool !b) nx
  | .neg,.int k n=>ok (.int k (k.wrap (0-n))) nx
  | _,_=>none
 | .cvi k x=>match x.ev ρ with
  | .int _ n=>ok (.int k (k.wrap n)) nx
  | _=>none
 | .cvs x=>(kT h 1 (x.ev ρ)).bind fun r=>(eR r.2.1).map fun l=>(r.1,.str ⟨l.toArray⟩,r.2.2,nx)
 | .mkS zero bytes l c=>match l.ev ρ,c.ev ρ with
  | .int .i64 a,.int .i64 b=>some (a=b∧0≤a∧(bytes:Int)*a≤2^47∧a≤2^47,.ns nx 0 a.toNat,[(nx,none,some (zero.length,wBj a.toNat zero))],nx+1)
  | _,_=>none
 | .cut sz x lo hi=>(aJ ρ 0 lo).bind fun l =>
   match x.ev ρ with
   | .nil=>(aJ ρ 0 hi).map fun h=>(l=0∧h=0,.nil,[],nx)
   | .ns nm off len=>(qQ h nm).bind fun row=>(aJ ρ len hi).map fun h =>
     (row.1=sz∧off+len≤row.2.length∧0≤l∧l≤h∧h≤len,.ns nm (off+l.toNat) (h.toNat-l.toNat),[(nm,some row,some row)],nx)
   | .sl .bw s rows=>(aJ ρ rows.length hi).map fun h=>(s=sz∧0≤l∧l≤h∧h≤rows.length,.sl .bw s ((rows.drop l.toNat).take (h.toNat-l.toNat)),[],nx)
   | .sl .fz s rows=>(aJ ρ rows.length hi).map fun h=>(s=sz∧0≤l∧l≤h∧h≤rows.length,.sl .fz s ((rows.drop l.toNat).take (h.toNat-l.toNat)),[],nx)
   | _=>none
 | .cutS x lo hi=>(aJ ρ 0 lo).bind fun l =>
   match x.ev ρ with
   | .str s=>(aJ ρ s.size hi).map fun h=>(0≤l∧l≤h∧h≤s.size,.str (s.extract l.toNat h.toNat),[],nx)
   | _=>none
 | .fad off x=>match x.ev ρ with
  | .ptr nm i f=>(qQ h nm).map fun row=>(True,.ptr nm i (f+off),[(nm,some row,some row)],nx)
  | .fptr m cs f=>ok (.fptr m cs (f+off)) nx
  | _=>none
 | .fld off n ag x=>match x.ev ρ with
  | .agg cs=>some (off+n≤cs.length,if ag then .agg ((cs.drop off).take n) else cs.getD off .any,[],nx)
  | _=>none
 | .iad sz x i=>match x.ev ρ,i.ev ρ with
  | .ns nm off len,.int _ j=>(qQ h nm).map fun row=>(row.1=sz∧off+len≤row.2.length∧0≤j∧j<len,.ptr nm (off+j.toNat) 0,[(nm,some row,some row)],nx)
  | .sl .bw s rows,.int _ j=>some (s=sz∧0≤j∧j<rows.length,.fptr .bw (rows.getD j.toNat []) 0,[],nx)
  | .sl .fz s rows,.int _ j=>some (s=sz∧0≤j∧j<rows.length,.fptr .fz (rows.getD j.toNat []) 0,[],nx)
  | _,_=>none
 | .idx x i=>match x.ev ρ,i.ev ρ with
  | .str s,.int _ j=>some (0≤j∧j<s.size,.int .u8 ((s.data.getD j.toNat 0).toNat:Nat),[],nx)
  | _,_=>none
 | .ext x i=>match x.ev ρ with
  | .tup vs=>some (i<vs.length,vs.getD i .any,[],nx)
  | _=>none
 | .len x=>match x.ev ρ with
  | .nil=>ok (.int .i64 0) nx
  | .ns nm off l=>(qQ h nm).map fun row=>(True,.int .i64 l,[(nm,some row,some row)],nx)
  | .sl .bw _ rows=>ok (.int .i64 rows.length) nx
  | .sl .fz _ rows=>ok (.int .i64 rows.length) nx
  | _=>none
 | .lenS x=>match x.ev ρ with
  | .str s=>ok (.int .i64 s.size) nx
  | _=>none
 | .mx x y=>match x.ev ρ,y.ev ρ with
  | .int k a,.int k' b=>if k=k' then ok (.int k (if b>a then b else a)) nx else none
  | _,_=>none
 | .app sz bytes s x=>(kT h sz (x.ev ρ)).bind fun r =>
  match s.ev ρ with
  | .nil=>some (r.1∧0<sz∧bytes*r.2.1.length≤2^47∧r.2.1.length≤2^47,.ns nx 0 r.2.1.length,r.2.2++[(nx,none,some (sz,r.2.1))],nx+1)
  | .ns nm off len=>(qQ h nm).map fun row=>(r.1∧0<sz∧row.1=sz∧off+len=row.2.length∧(∀x∈r.2.2,x.1≠nm)∧bytes*(len+r.2.1.length)≤2^47∧len+r.2.1.length≤2^47,
    .ns nx 0 (len+r.2.1.length),r.2.2++[(nm,some row,none),(nx,none,some (sz,row.2.drop off++r.2.1))],nx+1)
  | _=>none
 | .clr zero x=>match x.ev ρ with
  | .ns nm off len=>(qQ h nm).map fun row=>(row.1=zero.length∧off+len=row.2.length,.any,[(nm,some row,some (row.1,row.2.take off++wBj len zero))],nx)
  | _=>none
 | .call _ _ _ | .calv _ _=>none
def xL:MOp→Bool
 | .alloc _ | .box _ | .mkSl .. | .store .. | .mkS .. | .app .. | .clr .. | .call .. | .calv ..=>false
 | _=>true
def qFy:MOp→Bool
 | .call .. | .calv ..=>true
 | _=>false
end Go.Sep
namespace Go.Sep
set_option linter.unusedVariables false
set_option linter.unusedSimpArgs false
theorem cL (b o j:Nat):(⟨b,o,none⟩:Addr).add j=⟨b,o+j,none⟩:=by
 unfold Addr.add
 by_cases h:j=0
 ·simp [h]
 ·simp [h]
theorem qHk {P:Program} {w:World} {a:Addr} {v:Value} (h:w.cell? a=some v):(load a).run P w=.ok v w:=by
 simp [run_load,h]
theorem iF {P:Program} {w:World} {b o:Nat} :∀(n i:Nat) (vs:List Value) (acc:Array Value),vs.length=n→
  (∀j,j<n→w.cell? ⟨b,o+(i+j),none⟩=vs[j]?)→(loadCellsFrom ⟨b,o,none⟩ i n acc).run P w=.ok (acc++vs.toArray) w
 | 0,i,vs,acc,hl,h=>by
  have:vs=[]:=List.length_eq_zero_iff.1 hl
  subst this
  simp [loadCellsFrom]
 | n+1,i,[],acc,hl,h=>by simp at hl
 | n+1,i,v::vs,acc,hl,h=>by
  have h0:w.cell? ⟨b,o+i,none⟩=some v:=by simpa using h 0 (by omega)
  simp only [loadCellsFrom,cL,Sem.run_bind,qHk h0,Result.andThen_ok]
  rw [iF n (i+1) vs (acc.push v) (by simpa using hl) (fun j hj=>by
   have:=h (j+1) (by omega)
   rw [show o+(i+1+j)=o+(i+(j+1)) by omega]
   simpa using this)]
  simp
theorem eL {P:Program} {w:World} {b o n:Nat} {vs:List Value} (hl:vs.length=n) (h :∀j,j<n→w.cell? ⟨b,o+j,none⟩=vs[j]?) :
  (loadCells ⟨b,o,none⟩ n).run P w=.ok vs.toArray w:=by
 unfold loadCells
 rw [iF n 0 vs #[] hl (by simpa using h)]
 simp
def vU (arr:Array Value) (o:Nat):List Value→Array Value
 | []=>arr
 | v::vs=>vU (arr.setIfInBounds o v) (o+1) vs
theorem pJ (arr:Array Value) (o:Nat) (vs:List Value):(vU arr o vs).size=arr.size:=by
 induction vs generalizing arr o with
 | nil=>rfl
 | cons v vs ih=>simp [vU,ih]
theorem xE (arr:Array Value) (o:Nat) (vs:List Value) (k:Nat) (h:k<o∨o+vs.length≤k):(vU arr o vs)[k]?=arr[k]?:=by
 induction vs generalizing arr o with
 | nil=>rfl
 | cons v vs ih =>
  simp only [vU]
  simp only [wBk] at h
  rw [ih _ _ (by omega),Array.getElem?_setIfInBounds_ne (by omega)]
theorem rO (arr:Array Value) (o:Nat) (vs:List Value) (j:Nat) (hj:j<vs.length) (h:o+vs.length≤arr.size):(vU arr o vs)[o+j]?=vs[j]?:=by
 induction vs generalizing arr o j with
 | nil=>simp at hj
 | cons v vs ih =>
  simp only [vU,wBk] at h hj⊢
  cases j with
  | zero =>
   rw [xE _ _ _ _ (by omega)]
   have:o<arr.size:=by omega
   simp [this]
  | succ j =>
   rw [show o+(j+1)=o+1+j by omega,ih _ _ j (by omega) (by simp; omega)]
   simp
def World.setBlk (w:World) (b:Nat) (o:Obj):World:={w with heap:=w.heap.setIfInBounds b o}
theorem iD (w:World) (b:Nat) (o:Obj):(World.setBlk w b o).heap.size=w.heap.size:=by simp [World.setBlk]
theorem zU (w:World) (b c:Nat) (o:Obj) (h:b≠c):(World.setBlk w b o).heap[c]?=w.heap[c]?:=by
 simp [World.setBlk,Array.getElem?_setIfInBounds_ne h]
theorem pR (w:World) (b:Nat) (o:Obj) (h:b<w.heap.size):(World.setBlk w b o).heap[b]?=some o:=by
 simp [World.setBlk,h]
theorem qMs {w:World} {b o:Nat} {arr:Array Value} {ty:TypeId} {fz:Nat×Nat} {v:Value} (h:w.heap[b]?=some (.cells arr ty fz)) :
  w.setCell ⟨b,o,none⟩ v=World.setBlk w b (.cells (arr.setIfInBounds o v) ty fz):=by
 have hb:=(Array.getElem?_eq_some_iff.1 h).1
 have hv:=(Array.getElem?_eq_some_iff.1 h).2
 unfold World.setCell World.setBlk
 congr 1
 apply Array.ext_getElem?
 intro i
 rw [Array.getElem?_modify]
 by_cases hi:b=i
 ·subst hi
  simp [hb,hv]
 ·simp [hi,Array.getElem?_setIfInBounds_ne hi]
theorem zP {w:World} {b o:Nat} {arr:Array Value} {ty:TypeId} {fz:Nat×Nat} (h:w.heap[b]?=some (.cells arr ty fz)):w.cell? ⟨b,o,none⟩=arr[o]?:=by
 simp [World.cell?,h]
theorem qHj (w:World) (b:Nat) (o o':Obj):World.setBlk (World.setBlk w b o) b o'=World.setBlk w b o':=by
 simp [World.setBlk]
theorem aM {P:Program} {b ty:Nat} :∀(vs:List Value) (w:World) (o i:Nat) (arr:Array Value),w.heap[b]?=some (.cells arr ty (0,0))→(∀v∈vs,v.oneCell'=true)→
  o+i+vs.length≤arr.size→(storeCells ⟨b,o,none⟩ vs i).run P w=.ok () (World.setBlk w b (.cells (vU arr (o+i) vs) ty (0,0)))
 | [],w,o,i,arr,hb,hv,hs=>by
  have h1:=(Array.getElem?_eq_some_iff.1 hb).1
  have h2:=(Array.getElem?_eq_some_iff.1 hb).2
  have:World.setBlk w b (.cells (vU arr (o+i) []) ty (0,0))=w:=by
   unfold World.setBlk vU
   congr 1
   apply Array.ext_getElem?
   intro k
   by_cases hk:b=k
   ·subst hk; simp [h1,h2]
   ·simp [Array.getElem?_setIfInBounds_ne hk]
  rw [this]
  simp [storeCells]
 | v::vs,w,o,i,arr,hb,hv,hs=>by
  simp only [wBk] at hs
  have hc:w.cell? ⟨b,o+i,none⟩=some (arr[o+i]'(by omega)):=by rw [zP hb]; exact Array.getElem?_eq_getElem (by omega)
  have hf:w.frozen? ⟨b,o+i,none⟩=false:=by simp [World.frozen?,hb]
  have h1:=(Array.getElem?_eq_some_iff.1 hb).1
  unfold storeCells
  simp only [cL,Sem.run_bind]
  rw [run_store P w _ v .plain (hv v (by simp))]
  simp only [hc,hf,wBl,if_false,Result.andThen_ok]
  rw [qMs hb]
  have hb':(World.setBlk w b (.cells (arr.setIfInBounds (o+i) v) ty (0,0))).heap[b]?=some (.cells (arr.setIfInBounds (o+i) v) ty (0,0)):=pR _ _ _ h1
  rw [aM vs _ o (i+1) _ hb' (fun u hu=>hv u (by simp [hu])) (by simp; omega)]
  rw [qHj]
  rfl
theorem aB {P:Program} {w:World} (t:TypeId) (cs:Array Value):(newRow t cs).run P w=.ok ⟨w.heap.size,0,none⟩ (w.alloc (.cells cs t)):=by
 simp [newRow]
theorem wM {P:Program} {w:World} {t:TypeId} {d:TypeDesc} (h:P.underlying t=some d):(underlying t).run P w=.ok d w:=by
 simp [underlying,h]
theorem zF {P:Program} {w:World} {t:TypeId} {i:TypeInfo} (h:P.info? t=some i):(typeInfo t).run P w=.ok i w:=by
 simp [typeInfo,h]
theorem uM {P:Program} {w:World} {t:TypeId} {i:TypeInfo} (h:P.info? t=some i):(sizeOf t).run P w=.ok i.size w:=by
 simp [sizeOf,zF h]
theorem dW {P:Program} {w:World} {t:TypeId} {i:TypeInfo} {z:Value} (h:P.info? t=some i) (hz:i.zero=some z):(zeroValue t).run P w=.ok z w:=by
 simp [zeroValue,zF h,hz]
def qDx (P:Program) (t:TypeId):Option Bool:=(P.underlying t).map fun | .struct _ | .array _ _=>true | _=>false
theorem qBg {P:Program} {w:World} {t:TypeId} {ag:Bool} (h:qDx P t=some ag):(isAgg t).run P w=.ok ag w:=by
 unfold qDx at h
 cases hu:P.underlying t with
 | none=>simp [hu] at h
 | some d =>
  simp [hu] at h
  subst h
  cases d<;>simp [isAgg,wM hu]
theorem nU {P:Program} {w:World} {t:TypeId} {ag:Bool} {i:TypeInfo} {b o:Nat} {vs:List Value} (h:qDx P t=some ag) (hi:P.info? t=some i)
  (h1:ag=false→i.size=1) (hl:vs.length=i.size) (hc :∀j,j<i.size→w.cell? ⟨b,o+j,none⟩=vs[j]?) :
  (loadVar t ⟨b,o,none⟩).run P w=.ok (if ag then .agg vs.toArray else vs.getD 0 undef) w:=by
 unfold loadVar
 simp only [Sem.run_bind,qBg h,Result.andThen_ok]
 cases ag with
 | true=>simp [uM hi,eL hl hc]
 | false =>
  have h0:=h1 rfl
  have hc0:w.cell? ⟨b,o,none⟩=vs[0]?:=by simpa using hc 0 (by omega)
  have:0<vs.length:=by omega
  rw [List.getElem?_eq_getElem this] at hc0
  simp [run_load,hc0,this]
theorem qKw {P:Program} {w:World} {t:TypeId} {i:TypeInfo} {b o:Nat} {v:Value} {arr:Array Value} {ty:TypeId} (hi:P.info? t=some i) (hl:v.cells.size=i.size)
  (hb:w.heap[b]?=some (.cells arr ty (0,0))) (hv :∀u∈v.cells.toList,u.oneCell'=true) (hs:o+i.size≤arr.size) :
  (storeVar t ⟨b,o,none⟩ v).run P w=.ok () (World.setBlk w b (.cells (vU arr o v.cells.toList) ty (0,0))):=by
 unfold storeVar
 simp only [Sem.run_bind,uM hi,Result.andThen_ok]
 rw [if_neg (by simpa using hl)]
 rw [aM v.cells.toList w o 0 arr hb hv (by simp; omega)]
 simp
end Go.Sep
namespace Go.Sep
set_option linter.unusedVariables false
set_option linter.unusedSimpArgs false
mutual
def qAy:AV→Value→Bool
 | .bool c,v=>(match v with | .bool b=>b==c | _=>false)
 | .int k m,v=>(match v with | .int k' n=>k==k'&&n==m | _=>false)
 | .str t,v=>(match v with | .string s=>decide (s=t) | _=>false)
 | .nil,v=>(match v with | .slice none 0 0=>true | _=>false)
 | .nilp,v=>(match v with | .pointer none=>true | _=>false)
 | .nilI,v=>(match v with | .nilIface=>true | _=>false)
 | .agg ds,v=>(match v with | .agg cs=>pF ds cs.toList | _=>false)
 | _,_=>false
def pF:List AV→List Value→Bool
 | [],vs=>(match vs with | []=>true | _=>false)
 | d::ds,vs=>(match vs with | v::vs=>qAy d v&&pF ds vs | _=>false)
end
def uT (num:Nat→Nat):Operand→Arg→Bool
 | .tmp t,.t n=>t==n
 | .const v,.c d=>qAy d v
 | .func f,.c (.fn g [])=>f==num g
 | _,_=>false
def qDb (num:Nat→Nat):List Operand→List Arg→Bool
 | [],[]=>true
 | x::xs,y::ys=>uT num x y&&qDb num xs ys
 | _,_=>false
def upH (H:Nat→Option Row):FP→Nat→Option Row
 | []=>H
 | (n,_,r)::fp=>upH (fun m=>if m=n then r else H m) fp
def Tri (P:Program) (num:Nat→Nat) (o:Oper) (ρ:Nat→AV) (v:AV) (fp:FP):Prop :=
 ∀(e:Env) (L0:List Nat) (H:Nat→Option Row) (Lf:Nat→List Nat) (A:Nat→Prop) (a:Act) (K:Act→World→Prop) (Q:Exit→Act→World→Prop),
  e.num=num→Ok e L0 H Lf→(∀x∈fp,H x.1=x.2.1)→(∀t,bnd A (ρ t))→(∀nm row,H nm=some row→yW A row.2)→(∀x∈fp,x.2.1=none→¬A x.1)→(∀t,RV e (ρ t) (a.tmps.getD t undef) [])→
  (∀e' Lf' v',dP e H Lf (fun n=>n∈fp.map (·.1)) e' (upH H fp) Lf'→RV e' v v' []→K (a.put o.dst v') e'.w)→
  o.wp P a e.w K Q
theorem xM {P:Program} {o:Oper} {a:Act} {w w':World} {v:Value} {K:Act→World→Prop} {Q:Exit→Act→World→Prop}
  (h:(execOp a.eval o).run P w=.ok (.value v) w') (k:K (a.put o.dst v) w'):o.wp P a w K Q:=by
 unfold Oper.wp
 rw [h]
 exact k
theorem qPc {P:Program} {o:Oper} {a:Act} {w w':World} {K:Act→World→Prop} {Q:Exit→Act→World→Prop}
  (h:(execOp a.eval o).run P w=.ok .skip w') (k:K (a.put o.dst undef) w'):o.wp P a w K Q:=by
 unfold Oper.wp
 rw [h]
 exact k
theorem kO {H:Nat→Option Row} :∀{fp:FP} {n:Nat},n∉fp.map (·.1)→upH H fp n=H n
 | [],_,_=>rfl
 | (m,p,r)::fp,n,h=>by
  simp only [wBm,wBn,not_or] at h
  simp only [upH]
  rw [kO h.2,if_neg h.1]
theorem tN {H:Nat→Option Row} :∀{fp:FP},(∀x∈fp,H x.1=x.2.1)→(∀x∈fp,x.2.2=x.2.1)→upH H fp=H
 | [],_,_=>rfl
 | (m,p,r)::fp,h1,h2=>by
  simp only [upH]
  have hr:r=H m:=by
   have a:=h1 (m,p,r) (by simp)
   have b:=h2 (m,p,r) (by simp)
   simp at a b
   rw [b,a]
  have:(fun k=>if k=m then r else H k)=H:=by
   funext k
   by_cases hk:k=m
   ·rw [if_pos hk,hk,hr]
   ·rw [if_neg hk]
  rw [this]
  exact tN (fun x hx=>h1 x (by simp [hx])) (fun x hx=>h2 x (by simp [hx]))
theorem dP.refl {e:Env} {L0:List Nat} {H:Nat→Option Row} {Lf:Nat→List Nat} (F:Nat→Prop) (h:Ok e L0 H Lf):dP e H Lf F e H Lf where
 num:=rfl
 w0:=rfl
 Fr:=rfl
 Bo:=rfl
 io:=gH.refl _
 size:=wBo _
 keep _ _ _:=rfl
 φ _ _:=rfl
 φF _ _ _:=.inl rfl
 rest _ _:=rfl
 row nm row _ hr:=h.rh.row nm row hr
 nodup nm _ hn:=h.rh.nodup nm hn
 blk nm hF hn b hb:=⟨(h.rh.blk nm hn b hb).1,.inr ⟨nm,hF,hn,hb⟩⟩
 dis n m _ _ hn hm hne b hb:=h.rh.dis n m hn hm hne b hb
 dead nm _ hn:=h.rh.dead nm hn
def nL (e:Env) (fp:FP) (w':World):Prop :=
 (∀b,e.Fr b∨e.Bo b→∀o,w'.cell? ⟨b,o,none⟩=e.w.cell? ⟨b,o,none⟩)∧∀x∈fp,∀q,e.φ x.1=.at q→w'.heap[q.block]?=e.w.heap[q.block]?
theorem nL.of_heap {e:Env} {fp:FP} {w':World} (h:w'.heap=e.w.heap):nL e fp w':=⟨fun b _ o=>uZ (by rw [h]) o,fun _ _ q _=>by rw [h]⟩
theorem nL.refl (e:Env) (fp:FP):nL e fp e.w:=⟨fun _ _ _=>rfl,fun _ _ _ _=>rfl⟩
def aV (P:Program) (num:Nat→Nat) (o:Oper) (ρ:Nat→AV) (v:AV) (fp:FP):Prop :=
 ∀(e:Env) (L0:List Nat) (H:Nat→Option Row) (Lf:Nat→List Nat) (A:Nat→Prop) (a:Act),
  e.num=num→Ok e L0 H Lf→(∀x∈fp,H x.1=x.2.1)→(∀t,bnd A (ρ t))→(∀nm row,H nm=some row→yW A row.2)→(∀x∈fp,x.2.1=none→¬A x.1)→(∀t,RV e (ρ t) (a.tmps.getD t undef) [])→
  ∃v',(∀w',nL e fp w'→(execOp a.eval o).run P w'=.ok (.value v') w')∧∃e' Lf',e'.w=e.w∧dP e H Lf (fun n=>n∈fp.map (·.1)) e' (upH H fp) Lf'∧RV e' v v' []
theorem aV.tri {P:Program} {num:Nat→Nat} {o:Oper} {ρ:Nat→AV} {v:AV} {fp:FP} (h:aV P num o ρ v fp):Tri P num o ρ v fp:=by
 intro e L0 H Lf A a K Q hn hk hpre hb hbh hf ht k
 obtain ⟨v',h1,e',Lf',h2,h3,h4⟩:=h e L0 H Lf A a hn hk hpre hb hbh hf ht
 have:=k e' Lf' v' h3 h4
 rw [h2] at this
 exact xM (h1 e.w (nL.refl e fp)) this
theorem Tri.of_read {P:Program} {num:Nat→Nat} {o:Oper} {ρ:Nat→AV} {v:AV} {fp:FP} (hfp :∀x∈fp,x.2.2=x.2.1)
  (h :∀(e:Env) (L0:List Nat) (H:Nat→Option Row) (Lf:Nat→List Nat) (a:Act),e.num=num→Ok e L0 H Lf→(∀x∈fp,H x.1=x.2.1)→(∀t,RV e (ρ t) (a.tmps.getD t undef) [])→
   ∃v',(∀w',nL e fp w'→(execOp a.eval o).run P w'=.ok (.value v') w')∧RV e v v' []):aV P num o ρ v fp:=by
 intro e L0 H Lf A a hn hk hpre _ _ _ ht
 obtain ⟨v',hr,hv⟩:=h e L0 H Lf a hn hk hpre ht
 refine ⟨v',hr,e,Lf,rfl,?_,hv⟩
 rw [tN hpre hfp]
 exact dP.refl _ hk
mutual
theorem qP4 {e:Env} :∀{d:AV} {v:Value},qAy d v=true→RV e d v []
 | .bool c,v,h=>by cases v<;>simp_all [qAy,RV]
 | .int k m,v,h=>by cases v<;>simp_all [qAy,RV]
 | .str t,v,h=>by cases v<;>simp_all [qAy,RV]
 | .nil,v,h=>by
  simp only [qAy] at h
  split at h
  ·simp [RV]
  ·simp at h
 | .nilp,v,h=>by
  simp only [qAy] at h
  split at h
  ·simp [RV]
  ·simp at h
 | .nilI,v,h=>by
  simp only [qAy] at h
  split at h
  ·simp [RV]
  ·simp at h
 | .agg ds,v,h=>by
  simp only [qAy] at h
  split at h
  ·rename_i cs
   simp only [RV]
   exact ⟨cs.toList,rfl,gY h⟩
  ·simp at h
 | .any,_,h | .fn _ _,_,h | .ptr _ _ _,_,h | .fptr _ _ _,_,h | .ifc,_,h | .ns _ _ _,_,h | .sl _ _ _,_,h | .tup _,_,h=>by simp [qAy] at h
theorem gY {e:Env} :∀{ds:List AV} {vs:List Value},pF ds vs=true→RVs e ds vs []
 | [],vs,h=>by
  cases vs<;>simp_all [pF,RVs]
 | d::ds,vs,h=>by
  cases vs with
  | nil=>simp [pF] at h
  | cons v vs =>
   simp only [pF,wBp] at h
   simp only [RVs]
   exact ⟨v,vs,[],[],rfl,qP4 h.1,gY h.2,rfl⟩
end
theorem yF {e:Env} {ρ:Nat→AV} {a:Act} {x:Operand} {y:Arg} (ht :∀t,RV e (ρ t) (a.tmps.getD t undef) []) (h:uT e.num x y=true) :
  RV e (y.ev ρ) (a.eval x) []:=by
 cases x with
 | tmp t =>
  cases y with
  | t n=>simp [uT] at h; subst h; exact ht t
  | c d=>simp [uT] at h
 | const v =>
  cases y with
  | t n=>simp [uT] at h
  | c d=>exact qP4 h
 | global g=>cases y<;>simp [uT] at h
 | func f =>
  cases y with
  | t n=>simp [uT] at h
  | c d =>
   cases d with
   | fn g cap =>
    cases cap with
    | nil=>simp [uT] at h; subst h; simp [Arg.ev,RV,RVs,Act.eval]
    | cons=>simp [uT] at h
   | _=>simp [uT] at h
end Go.Sep
namespace Go.Sep
set_option linter.unusedVariables false
set_option linter.unusedSimpArgs false
def mR (P:Program) (t:TypeId) (zero:List AV):Bool :=
 match P.info? t with
 | some i=>i.size==zero.length&&zero.all yS&&(match i.zero with
  | some z=>pF zero z.cells.toList
  | none=>false)
 | none=>false
def fI (P:Program) (t:TypeId) (n:Nat):Bool:=(P.info? t).map (·.size)==some n
def qEf (P:Program) (t:TypeId) (n:Nat):Bool:=(P.info? t).map (·.bytes)==some n
def bX (P:Program) (t:TypeId):Option TypeId :=
 match P.underlying t with
 | some (.slice e)=>some e
 | _=>none
def fieldsOf (P:Program) (t:TypeId):Option (Array Field) :=
 match P.underlying t with
 | some (.struct fs)=>some fs
 | _=>none
def qFx (P:Program) (t:TypeId):Bool:=match P.underlying t with | some .string=>true | _=>false
def qLe (P:Program) (t:TypeId):Bool:=match P.underlying t with | some .bool=>true | _=>false
def qWh (P:Program) (t:TypeId):Bool:=match P.underlying t with | some (.int _)=>true | _=>false
def qLd (P:Program) (t:TypeId):Bool:=match P.underlying t with | some (.interface _)=>true | _=>false
def qHy (num:Nat→Nat):Option Operand→Option Arg→Bool
 | none,none=>true
 | some x,some y=>uT num x y
 | _,_=>false
def aT (P:Program) (num:Nat→Nat) (fs:Array Field):List (Nat×Operand)→List (Nat×Nat×Arg)→Bool
 | [],[]=>true
 | (i,x)::ps,(off,sz,y)::qs=>(match fs[i]? with | some f=>f.offset==off&&fI P f.type sz | none=>false)&&uT num x y&&aT P num fs ps qs
 | _,_=>false
def cV (num:Nat→Nat):List (Nat×Operand)→List (Nat×Arg)→Bool
 | [],[]=>true
 | (i,x)::ps,(j,y)::qs=>i==j&&uT num x y&&cV num ps qs
 | _,_=>false
def eG (P:Program):Nat→List Bool→List Field→Bool
 | _,[],[]=>true
 | i,k::ks,f::fs=>f.name != "_"&&f.offset==i&&(if k then qWh P f.type else qLe P f.type)&&eG P (i+1) ks fs
 | _,_,_=>false
def wW (P:Program) (num:Nat→Nat):MOp→Op→Bool
 | .mv y,op=>(match op with | .move x | .assign x=>uT num x y | _=>false)
 | .pick c a b,op=>(match op with | .pick c' a' b'=>uT num c' c&&uT num a' a&&uT num b' b | _=>false)
 | .alloc zero,op=>(match op with | .alloc t=>mR P t zero | _=>false)
 | .box y,op=>(match op with | .box _ x=>uT num x y | _=>false)
 | .build zero parts,op=>(match op with
  | .build t ps=>mR P t zero&&(match fieldsOf P t with
   | some fs=>fs.toList.all (fun f=>(P.info? f.type).isSome)&&aT P num fs ps.toList parts
   | none=>false)
  | _=>false)
 | .mkSl zero len parts,op=>(match op with
  | .buildSlice t l ps=>l==len&&(match bX P t with
   | some el=>mR P el zero&&decide (0<zero.length)&&decide (len*zero.length≤2^24)&&cV num ps.toList parts
   | none=>false)
  | _=>false)
 | .load n ag y,op=>(match op with | .load t x=>uT num x y&&fI P t n&&qDx P t==some ag&&(ag||n==1) | _=>false)
 | .store n y z,op=>(match op with | .store t x v=>uT num x y&&uT num v z&&fI P t n | _=>false)
 | .nilck y,op=>(match op with | .nilCheck x=>uT num x y | _=>false)
 | .bin b y z,op=>(match op with | .binOp b' t x v _=>b==b'&&uT num x y&&uT num v z | _=>false)
 | .eqS neg ks y z,op=>(match op with
  | .binOp b t x v _=>(if neg then b==.neq else b==.eql)&&uT num x y&&uT num v z&&(match fieldsOf P t with
   | some fs=>eG P 0 ks fs.toList&&!P.stoodInHeld t&&!P.eqGuardType P.depth t
   | none=>false)
  | _=>false)
 | .eqB neg y z,op=>(match op with | .binOp b t x v _=>(if neg then b==.neq else b==.eql)&&uT num x y&&uT num v z&&qLe P t | _=>false)
 | .neNil y,op=>(match op with | .binOp .neq t x (.const .nilIface) _=>uT num x y&&qLd P t | _=>false)
 | .un u y,op=>(match op with | .unOp u' _ x=>u==u'&&uT num x y | _=>false)
 | .cvi k y,op=>(match op with | .convert s d x=>uT num x y&&(match P.underlying s,P.underlying d with | some _,some (.int k')=>k==k' | _,_=>false) | _=>false)
 | .cvs y,op=>(match op with | .convert s d x=>uT num x y&&qFx P d&&(match bX P s with | some el=>(match P.underlying el with | some (.int .u8)=>true | _=>false) | none=>false) | _=>false)
 | .mkS zero bytes l c,op=>(match op with
  | .makeSlice t l' c'=>uT num l' l&&uT num c' c&&(match bX P t with | some el=>mR P el zero&&decide (0<zero.length)&&qEf P el bytes | none=>false)
  | _=>false)
 | .cut sz y lo hi,op=>(match op with
  | .slice t x l h none=>uT num x y&&qHy num l lo&&qHy num h hi&&(match bX P t with | some el=>fI P el sz | none=>false)
  | _=>false)
 | .cutS y lo hi,op=>(match op with | .slice t x l h none=>uT num x y&&qHy num l lo&&qHy num h hi&&qFx P t | _=>false)
 | .fad off y,op=>(match op with
  | .fieldAddr s x f=>uT num x y&&(match fieldsOf P s with | some fs=>(match fs[f]? with | some g=>g.offset==off&&(match P.info? g.type with | some i=>i.size != 0 | none=>false) | none=>false) | none=>false)
  | _=>false)
 | .fld off n ag y,op=>(match op with
  | .field t x f=>uT num x y&&(match fieldsOf P t with | some fs=>(match fs[f]? with | some g=>g.offset==off&&fI P g.type n&&qDx P g.type==some ag&&(ag||n==1) | none=>false) | none=>false)
  | _=>false)
 | .iad sz y z,op=>(match op with | .indexAddr t x i=>uT num x y&&uT num i z&&(match bX P t with | some el=>fI P el sz | none=>false) | _=>false)
 | .idx y z,op=>(match op with | .index t x i=>uT num x y&&uT num i z&&qFx P t | _=>false)
 | .ext y i,op=>(match op with | .extract x j=>uT num x y&&i==j | _=>false)
 | .len y,op=>(match op with | .call {callee:=.builtin .len,args,argTypes}=>(match args.toList,argTypes[0]? with | [x],some t=>uT num x y&&(bX P t).isSome | _,_=>false) | _=>false)
 | .lenS y,op=>(match op with | .call {callee:=.builtin .len,args,argTypes}=>(match args.toList,argTypes[0]? with | [x],some t=>uT num x y&&qFx P t | _,_=>false) | _=>false)
 | .mx y z,op=>(match op with | .call {callee:=.builtin .max,args,argTypes}=>(match args.toList with | [x,v]=>uT num x y&&uT num v z | _=>false) | _=>false)
 | .app sz bytes y z,op=>(match op with
  | .call {callee:=.builtin .append,args,argTypes}=>(match args.toList,argTypes[0]?,argTypes[1]? with
   | [x,v],some t,some u=>uT num x y&&uT num v z&&(bX P u).isSome&&(match bX P t with | some el=>fI P el sz&&qEf P el bytes&&(match P.info? el with | some i=>(match i.zero with | some z=>z.cells.size==sz | none=>false) | none=>false) | none=>false)
   | _,_,_=>false)
  | _=>false)
 | .clr zero y,op=>(match op with | .call {callee:=.builtin .clear,args,argTypes}=>(match args.toList,argTypes[0]? with | [x],some t=>uT num x y&&(match bX P t with | some el=>mR P el zero | none=>false) | _,_=>false) | _=>false)
 | .call g _ ys,op=>(match op with | .call {callee:=.value (.func f),args,argTypes}=>f==num g&&qDb num args.toList ys | _=>false)
 | .calv y ys,op=>(match op with | .call {callee:=.value x,args,argTypes}=>uT num x y&&qDb num args.toList ys | _=>false)
def qAz (P:Program) (num:Nat→Nat) (ops:Array Oper) (m:yC) (o:Oper):Bool :=
 o.dst==m.dst&&wW P num m.op o.op &&
 (match o.guard,m.guard with
 | none,none=>true
 | some (j,w),some (t,w')=>w==w'&&(ops[j]?).bind (·.dst)==some t
 | _,_=>false)
def lK (P:Program) (num:Nat→Nat) (ops:Array Oper):List yC→List Oper→Bool
 | [],[]=>true
 | m::ms,o::os=>qAz P num ops m o&&lK P num ops ms os
 | _,_=>false
end Go.Sep
namespace Go.Sep
set_option linter.unusedVariables false
set_option linter.unusedSimpArgs false
section
variable {P:Program} {num:Nat→Nat} {o:Oper} {ρ:Nat→AV} {h:wT} {nx nx':Nat} {p:Prop} {v:AV} {fp:FP}
theorem xJ {v':AV} {n:Nat} (hp:ok v' n=some (p,v,fp,nx')):v=v'∧fp=[]:=by
 simp [ok] at hp
 exact ⟨hp.2.1.symm,hp.2.2.1⟩
theorem jF {m:MOp} (h :∀(e:Env) (a:Act),e.num=num→(∀t,RV e (ρ t) (a.tmps.getD t undef) [])→∃v',(∀w,(execOp a.eval o).run P w=.ok (.value v') w)∧RV e v v' []) :
  aV P num o ρ v []:=by
 refine Tri.of_read (by simp) ?_
 intro e L0 H Lf a hn hk _ ht
 obtain ⟨v',h1,h2⟩:=h e a hn ht
 exact ⟨v',fun w _=>h1 w,h2⟩
theorem qVe {x:Arg} (hc:wW P num (.mv x) o.op=true) (hp:wO ρ h nx (.mv x)=some (p,v,fp,nx')):aV P num o ρ v fp:=by
 simp only [wO] at hp
 obtain ⟨rfl,rfl⟩:=xJ hp
 refine jF (m:=.mv x) ?_
 intro e a hn ht
 subst hn
 simp only [wW] at hc
 split at hc
 ·rename_i y hop
  exact ⟨a.eval y,fun w=>by simp [execOp,hop],yF ht hc⟩
 ·rename_i y hop
  exact ⟨a.eval y,fun w=>by simp [execOp,hop],yF ht hc⟩
 ·simp at hc
theorem aD {e:Env} {k:IntKind} {n:Int} {c:Value} {L:List Nat} (h:RV e (.int k n) c L):c=.int k n:=by simp only [RV] at h; exact h.1
theorem iT {e:Env} {b:Bool} {c:Value} {L:List Nat} (h:RV e (.bool b) c L):c=.bool b:=by simp only [RV] at h; exact h.1
theorem qH4 {e:Env} {s:ByteArray} {c:Value} {L:List Nat} (h:RV e (.str s) c L):c=.string s:=by simp only [RV] at h; exact h.1
theorem qMc {c x y:Arg} (hc:wW P num (.pick c x y) o.op=true) (hp:wO ρ h nx (.pick c x y)=some (p,v,fp,nx')):aV P num o ρ v fp:=by
 simp only [wW] at hc
 split at hc
 ·rename_i c' a' b' hop
  simp only [wBp] at hc
  obtain ⟨⟨h1,h2⟩,h3⟩:=hc
  simp only [wO] at hp
  split at hp
  ·rename_i q hq
   have hv:fp=[]∧v=(bif q then x.ev ρ else y.ev ρ):=by
    split at hp
    ·rename_i a b ha hb
     obtain ⟨rfl,rfl⟩:=xJ hp
     rw [ha,hb]
     cases q<;>simp
    ·obtain ⟨rfl,rfl⟩:=xJ hp
     exact ⟨rfl,rfl⟩
   obtain ⟨rfl,rfl⟩:=hv
   refine jF (m:=.mv x) ?_
   intro e a hn ht
   subst hn
   have e1:=yF (ρ:=ρ) ht h1
   rw [hq] at e1
   have e1:=iT e1
   refine ⟨if q then a.eval a' else a.eval b',?_,?_⟩
   ·intro w; simp only [execOp,hop,Sem.run_bind,Sem.run_pure,asBool,e1,Result.andThen_ok]
   ·cases q
    ·exact yF ht h3
    ·exact yF ht h2
  ·simp at hp
 ·simp at hc
theorem kP {nm:Nat} {row:Row} (h :∀(e:Env) (L0:List Nat) (H:Nat→Option Row) (Lf:Nat→List Nat) (a:Act),e.num=num→Ok e L0 H Lf→uX e nm row (Lf nm)→(∀t,RV e (ρ t) (a.tmps.getD t undef) [])→
  ∃v',(∀w,(execOp a.eval o).run P w=.ok (.value v') w)∧RV e v v' []):aV P num o ρ v [(nm,some row,some row)]:=by
 refine Tri.of_read (by simp) ?_
 intro e L0 H Lf a hn hk hpre ht
 have:=hpre (nm,some row,some row) (by simp)
 obtain ⟨v',h1,h2⟩:=h e L0 H Lf a hn hk (hk.rh.row nm row this) ht
 exact ⟨v',fun w _=>h1 w,h2⟩
theorem sM {e:Env} {nm i f:Nat} {row:Row} {L L':List Nat} {c:Value} (hr:uX e nm row L) (h:RV e (.ptr nm i f) c L') :
  ∃p,e.φ nm=.at p∧c=.pointer (some ⟨p.block,p.off+i*p.sz+f,none⟩):=by
 simp only [RV] at h
 obtain ⟨_,h⟩:=h
 unfold uX gI at hr
 cases hq:e.φ nm with
 | dead=>rw [hq] at hr; exact hr.elim
 | nilp=>rw [hq] at h; exact h.elim
 | «at» p=>rw [hq] at h; exact ⟨p,rfl,h⟩
theorem qH5 {e:Env} {nm i f:Nat} {p:qH7} (hq:e.φ nm=.at p):RV e (.ptr nm i f) (.pointer (some ⟨p.block,p.off+i*p.sz+f,none⟩)) []:=by
 simp only [RV,hq,and_self]
theorem qI6 {x:Arg} (hc:wW P num (.nilck x) o.op=true) (hp:wO ρ h nx (.nilck x)=some (p,v,fp,nx')):aV P num o ρ v fp:=by
 simp only [wW] at hc
 split at hc
 ·rename_i y hop
  simp only [wO] at hp
  split at hp
  ·rename_i nm i f hx
   cases hl:qQ h nm with
   | none=>simp [hl] at hp
   | some row =>
    simp [hl] at hp
    obtain ⟨_,rfl,rfl,_⟩:=hp
    refine kP ?_
    intro e L0 H Lf a hn hk hr ht
    subst hn
    have h1:=yF (ρ:=ρ) ht hc
    rw [hx] at h1
    obtain ⟨q,hq,h2⟩:=sM hr h1
    exact ⟨_,fun w=>by simp [execOp,hop,h2],qH5 hq⟩
  ·rename_i m cs f hx
   obtain ⟨rfl,rfl⟩:=xJ hp
   refine jF (m:=.mv x) ?_
   intro e a hn ht
   subst hn
   have h1:=yF (ρ:=ρ) ht hc
   rw [hx] at h1
   have h2:=h1
   simp only [RV] at h2
   obtain ⟨_,b,o',vs,h2,_⟩:=h2
   exact ⟨_,fun w=>by simp [execOp,hop,h2],h2▸h1⟩
  ·simp at hp
 ·simp at hc
theorem dD {t:TypeId} {n:Nat} (h:fI P t n=true) :∃i,P.info? t=some i∧i.size=n:=by
 simp [fI] at h
 exact h
theorem qB1 {t:TypeId} {n:Nat} (h:qEf P t n=true) :∃i,P.info? t=some i∧i.bytes=n:=by
 simp [qEf] at h
 exact h
theorem dG {t el:TypeId} (h:bX P t=some el):P.underlying t=some (.slice el):=by
 unfold bX at h
 split at h
 ·simp at h; subst h; assumption
 ·simp at h
theorem xV {t:TypeId} {fs:Array Field} (h:fieldsOf P t=some fs):P.underlying t=some (.struct fs):=by
 unfold fieldsOf at h
 split at h
 ·simp at h; subst h; assumption
 ·simp at h
theorem sT {t:TypeId} (h:qFx P t=true):P.underlying t=some .string:=by
 unfold qFx at h
 split at h
 ·assumption
 ·simp at h
theorem oV {t:TypeId} (h:qLe P t=true):P.underlying t=some .bool:=by
 unfold qLe at h
 split at h
 ·assumption
 ·simp at h
theorem qCr {w:World} {s:TypeId} {f b o':Nat} {fs:Array Field} {g:Field} {i:TypeInfo} (h1:P.underlying s=some (.struct fs)) (h2:fs[f]?=some g) (h3:P.info? g.type=some i) (h4:i.size≠0) :
  (Instr.fieldAt s (.pointer (some ⟨b,o',none⟩)) f).run P w=.ok (.pointer (some ⟨b,o'+g.offset,none⟩)) w:=by
 simp [Instr.fieldAt,wM h1,h2,Instr.sureAddr,fieldPlace,uM h3,h4,cL]
theorem qRg {off:Nat} {x:Arg} (hc:wW P num (.fad off x) o.op=true) (hp:wO ρ h nx (.fad off x)=some (p,v,fp,nx')):aV P num o ρ v fp:=by
 simp only [wW] at hc
 split at hc
 ·rename_i s y f hop
  simp only [wBp] at hc
  obtain ⟨hc,h5⟩:=hc
  cases hfs:fieldsOf P s with
  | none=>simp [hfs] at h5
  | some fs =>
   simp only [hfs] at h5
   cases hg:fs[f]? with
   | none=>simp [hg] at h5
   | some g =>
    simp only [hg,wBp,beq_iff_eq] at h5
    obtain ⟨h6,h7⟩:=h5
    cases hi:P.info? g.type with
    | none=>simp [hi] at h7
    | some i =>
     simp only [hi,bne_iff_ne,ne_eq] at h7
     simp only [wO] at hp
     split at hp
     ·rename_i nm i' f' hx
      cases hl:qQ h nm with
      | none=>simp [hl] at hp
      | some row =>
       simp [hl] at hp
       obtain ⟨_,rfl,rfl,_⟩:=hp
       refine kP ?_
       intro e L0 H Lf a hn hk hr ht
       subst hn
       have h1:=yF (ρ:=ρ) ht hc
       rw [hx] at h1
       obtain ⟨q,hq,h2⟩:=sM hr h1
       refine ⟨_,?_,qH5 hq⟩
       intro w
       simp only [execOp,hop,h2,Sem.run_bind,qCr (xV hfs) hg hi h7,Result.andThen_ok,Sem.run_pure,h6]
       rw [wBq]
     ·rename_i m cs f' hx
      obtain ⟨rfl,rfl⟩:=xJ hp
      refine jF (m:=.mv x) ?_
      intro e a hn ht
      subst hn
      have h1:=yF (ρ:=ρ) ht hc
      rw [hx] at h1
      simp only [RV] at h1⊢
      obtain ⟨_,b,o',vs,h2,h3⟩:=h1
      refine ⟨.pointer (some ⟨b,o'+f'+off,none⟩),?_,trivial,b,o',vs,by rw [wBq],h3⟩
      intro w
      simp only [execOp,hop,h2,Sem.run_bind,qCr (xV hfs) hg hi h7,Result.andThen_ok,Sem.run_pure,h6]
     ·simp at hp
 ·simp at hc
theorem qVc {u:UnOp} {x:Arg} (hc:wW P num (.un u x) o.op=true) (hp:wO ρ h nx (.un u x)=some (p,v,fp,nx')):aV P num o ρ v fp:=by
 simp only [wW] at hc
 split at hc
 ·rename_i u' t y hop
  simp only [wBp,beq_iff_eq] at hc
  obtain ⟨rfl,hc⟩:=hc
  simp only [wO] at hp
  split at hp
  ·rename_i b hx
   obtain ⟨rfl,rfl⟩:=xJ hp
   refine jF (m:=.mv x) ?_
   intro e a hn ht
   subst hn
   have h1:=yF (ρ:=ρ) ht hc
   rw [hx] at h1
   exact ⟨.bool !b,fun w=>by simp [execOp,hop,iT h1,Op.unary],by simp [RV]⟩
  ·rename_i k n hx
   obtain ⟨rfl,rfl⟩:=xJ hp
   refine jF (m:=.mv x) ?_
   intro e a hn ht
   subst hn
   have h1:=yF (ρ:=ρ) ht hc
   rw [hx] at h1
   exact ⟨.int k (k.wrap (0-n)),fun w=>by simp [execOp,hop,aD h1,Op.unary,Op.intArith],by simp [RV]⟩
  ·simp at hp
 ·simp at hc
theorem qRl {k:IntKind} {x:Arg} (hc:wW P num (.cvi k x) o.op=true) (hp:wO ρ h nx (.cvi k x)=some (p,v,fp,nx')):aV P num o ρ v fp:=by
 simp only [wW] at hc
 split at hc
 ·rename_i s d y hop
  simp only [wBp] at hc
  obtain ⟨hc,h5⟩:=hc
  split at h5
  ·rename_i ds k' hs hd
   simp only [beq_iff_eq] at h5
   subst h5
   simp only [wO] at hp
   split at hp
   ·rename_i k2 n hx
    obtain ⟨rfl,rfl⟩:=xJ hp
    refine jF (m:=.mv x) ?_
    intro e a hn ht
    subst hn
    have h1:=yF (ρ:=ρ) ht hc
    rw [hx] at h1
    exact ⟨.int k (k.wrap n),fun w=>by simp [execOp,hop,aD h1,convert,wM hs,wM hd,Conv.intToInt],by simp [RV]⟩
   ·simp at hp
  ·simp at h5
 ·simp at hc
theorem qRh {x:Arg} {i:Nat} (hc:wW P num (.ext x i) o.op=true) (hp:wO ρ h nx (.ext x i)=some (p,v,fp,nx')) (hpp:p):aV P num o ρ v fp:=by
 simp only [wW] at hc
 split at hc
 ·rename_i y j hop
  simp only [wBp,beq_iff_eq] at hc
  obtain ⟨hc,rfl⟩:=hc
  simp only [wO] at hp
  split at hp
  ·rename_i vs hx
   simp only [Option.some.injEq,Prod.mk.injEq] at hp
   obtain ⟨rfl,rfl,rfl,_⟩:=hp
   refine jF (m:=.mv x) ?_
   intro e a hn ht
   subst hn
   have h1:=yF (ρ:=ρ) ht hc
   rw [hx] at h1
   simp only [RV] at h1
   obtain ⟨cs,h1,h2⟩:=h1
   obtain ⟨c,h3,h4⟩:=cG h2 i hpp
   refine ⟨c,fun w=>by simp [execOp,hop,h1,Instr.extract,h3],?_⟩
   simpa [wBr,hpp] using h4
  ·simp at hp
 ·simp at hc
theorem qMd {x:Arg} (hc:wW P num (.lenS x) o.op=true) (hp:wO ρ h nx (.lenS x)=some (p,v,fp,nx')):aV P num o ρ v fp:=by
 simp only [wW] at hc
 split at hc
 ·rename_i args tys hop
  split at hc
  ·rename_i y t ha htys
   simp only [wBp] at hc
   obtain ⟨hc,hs⟩:=hc
   simp only [wO] at hp
   split at hp
   ·rename_i s hx
    obtain ⟨rfl,rfl⟩:=xJ hp
    refine jF (m:=.mv x) ?_
    intro e a hn ht
    subst hn
    have h1:=yF (ρ:=ρ) ht hc
    rw [hx] at h1
    have hargs:args = #[y]:=Array.toList_inj.1 ha
    subst hargs
    exact ⟨.int .i64 s.size,fun w=>by simp [execOp,hop,resolve,invoke,builtin,Builtin.len_,htys,wM (sT hs),qH4 h1,goInt],by simp [RV]⟩
   ·simp at hp
  ·simp at hc
 ·simp at hc
theorem qRc {x:Arg} (hc:wW P num (.len x) o.op=true) (hp:wO ρ h nx (.len x)=some (p,v,fp,nx')):aV P num o ρ v fp:=by
 simp only [wW] at hc
 split at hc
 ·rename_i args tys hop
  split at hc
  ·rename_i y t ha htys
   simp only [wBp] at hc
   obtain ⟨hc,hs⟩:=hc
   obtain ⟨el,hel⟩:=Option.isSome_iff_exists.1 hs
   have hargs:args = #[y]:=Array.toList_inj.1 ha
   subst hargs
   have key :∀(a:Act) (w:World) (A:Option Addr) (l c:Nat),a.eval y=.slice A l c→(execOp a.eval o).run P w=.ok (.value (.int .i64 l)) w:=by
    intro a w A l c hv
    simp [execOp,hop,resolve,invoke,builtin,Builtin.len_,htys,wM (dG hel),hv,goInt]
   simp only [wO] at hp
   split at hp
   ·rename_i hx
    obtain ⟨rfl,rfl⟩:=xJ hp
    refine jF (m:=.mv x) ?_
    intro e a hn ht
    subst hn
    have h1:=yF (ρ:=ρ) ht hc
    rw [hx] at h1
    simp only [RV] at h1
    exact ⟨.int .i64 0,fun w=>key a w _ _ _ h1.1,by simp [RV]⟩
   ·rename_i nm off l hx
    cases hl:qQ h nm with
    | none=>simp [hl] at hp
    | some row =>
     simp only [hl,wBs,Option.some.injEq,Prod.mk.injEq] at hp
     obtain ⟨_,rfl,rfl,_⟩:=hp
     refine kP ?_
     intro e L0 H Lf a hn hk hr ht
     subst hn
     have h1:=yF (ρ:=ρ) ht hc
     rw [hx] at h1
     simp only [RV] at h1
     obtain ⟨_,h1⟩:=h1
     unfold uX gI at hr
     cases hq:e.φ nm with
     | dead=>rw [hq] at hr; exact hr.elim
     | nilp =>
      rw [hq] at h1
      obtain ⟨_,h2,_,h3⟩:=h1
      subst h2
      exact ⟨.int .i64 0,fun w=>key a w _ _ _ h3,by simp [RV]⟩
     | «at» q =>
      rw [hq] at h1
      obtain ⟨_,A,h3,_⟩:=h1
      exact ⟨.int .i64 l,fun w=>key a w _ _ _ h3,by simp [RV]⟩
   ·rename_i sz rows hx
    obtain ⟨rfl,rfl⟩:=xJ hp
    refine jF (m:=.mv x) ?_
    intro e a hn ht
    subst hn
    have h1:=yF (ρ:=ρ) ht hc
    rw [hx] at h1
    simp only [RV] at h1
    refine ⟨.int .i64 rows.length,?_,by simp [RV]⟩
    rcases h1.2 with ⟨rfl,A,c,h2,_⟩ | ⟨b,o',c,h2,_⟩
    ·exact fun w=>key a w _ _ _ h2
    ·exact fun w=>key a w _ _ _ h2
   ·rename_i sz rows hx
    obtain ⟨rfl,rfl⟩:=xJ hp
    refine jF (m:=.mv x) ?_
    intro e a hn ht
    subst hn
    have h1:=yF (ρ:=ρ) ht hc
    rw [hx] at h1
    simp only [RV] at h1
    refine ⟨.int .i64 rows.length,?_,by simp [RV]⟩
    rcases h1.2 with ⟨rfl,A,c,h2,_⟩ | ⟨b,o',c,h2,_⟩
    ·exact fun w=>key a w _ _ _ h2
    ·exact fun w=>key a w _ _ _ h2
   ·simp at hp
  ·simp at hc
 ·simp at hc
theorem qVd {x z:Arg} (hc:wW P num (.mx x z) o.op=true) (hp:wO ρ h nx (.mx x z)=some (p,v,fp,nx')):aV P num o ρ v fp:=by
 simp only [wW] at hc
 split at hc
 ·rename_i args tys hop
  split at hc
  ·rename_i y u ha
   simp only [wBp] at hc
   obtain ⟨hc,hs⟩:=hc
   have hargs:args = #[y,u]:=Array.toList_inj.1 ha
   subst hargs
   simp only [wO] at hp
   split at hp
   ·rename_i k m k' n hx hz
    split at hp
    ·rename_i hk
     subst hk
     obtain ⟨rfl,rfl⟩:=xJ hp
     refine jF (m:=.mv x) ?_
     intro e a hn ht
     subst hn
     have h1:=yF (ρ:=ρ) ht hc
     rw [hx] at h1
     have h2:=yF (ρ:=ρ) ht hs
     rw [hz] at h2
     exact ⟨.int k (if n>m then n else m),fun w=>by simp [execOp,hop,resolve,invoke,builtin,Builtin.max_,Builtin.max2,aD h1,aD h2],by simp [RV]⟩
    ·simp at hp
   ·simp at hp
  ·simp at hc
 ·simp at hc
theorem qRd {x z:Arg} (hc:wW P num (.idx x z) o.op=true) (hp:wO ρ h nx (.idx x z)=some (p,v,fp,nx')) (hpp:p):aV P num o ρ v fp:=by
 simp only [wW] at hc
 split at hc
 ·rename_i t y u hop
  simp only [wBp] at hc
  obtain ⟨⟨h1,h2⟩,h3⟩:=hc
  simp only [wO] at hp
  split at hp
  ·rename_i s k j hx hz
   simp only [Option.some.injEq,Prod.mk.injEq] at hp
   obtain ⟨rfl,rfl,rfl,_⟩:=hp
   obtain ⟨p1,p2⟩:=hpp
   refine jF (m:=.mv x) ?_
   intro e a hn ht
   subst hn
   have g1:=yF (ρ:=ρ) ht h1
   rw [hx] at g1
   have g2:=yF (ρ:=ρ) ht h2
   rw [hz] at g2
   have hj:j.toNat<s.size:=by omega
   have hs:s[j.toNat]?=some s[j.toNat]:=by simp [hj]
   refine ⟨.int .u8 ((s.data.getD j.toNat 0).toNat:Nat),?_,by simp [RV]⟩
   have hd:s.data.getD j.toNat 0=s[j.toNat]:=by
    unfold Array.getD
    rw [dif_pos (show j.toNat<s.data.size from hj)]
    rfl
   rw [hd]
   intro w
   simp [execOp,hop,qH4 g1,aD g2,Instr.index,asIntOf,wM (sT h3),p1,hs]
  ·simp at hp
 ·simp at hc
theorem qRj {neg:Bool} {x z:Arg} (hc:wW P num (.eqB neg x z) o.op=true) (hp:wO ρ h nx (.eqB neg x z)=some (p,v,fp,nx')):aV P num o ρ v fp:=by
 simp only [wW] at hc
 split at hc
 ·rename_i b t y u _ hop
  simp only [wBp] at hc
  obtain ⟨⟨⟨h0,h1⟩,h2⟩,h3⟩:=hc
  simp only [wO] at hp
  split at hp
  ·rename_i c d hx hz
   obtain ⟨rfl,rfl⟩:=xJ hp
   refine jF (m:=.mv x) ?_
   intro e a hn ht
   subst hn
   have g1:=yF (ρ:=ρ) ht h1
   rw [hx] at g1
   have g2:=yF (ρ:=ρ) ht h2
   rw [hz] at g2
   refine ⟨.bool (if neg then !(c==d) else c==d),?_,by simp [RV]⟩
   have he :∀w,(Op.equal t (.bool c) (.bool d)).run P w=.ok (c==d) w:=by
    intro w
    unfold Op.equal Op.maxDepth Op.equalIn
    simp [wM (oV h3)]
   intro w
   cases neg
   ·simp at h0
    subst h0
    simp [execOp,hop,iT g1,iT g2,eqGuard,binOp,he]
   ·simp at h0
    subst h0
    simp [execOp,hop,iT g1,iT g2,eqGuard,binOp,he]
  ·simp at hp
 ·simp at hc
theorem qLc {t:TypeId} (h:qLd P t=true) :∃ms,P.underlying t=some (.interface ms):=by
 unfold qLd at h
 split at h
 ·exact ⟨_,by assumption⟩
 ·simp at h
theorem qI7 {x:Arg} (hc:wW P num (.neNil x) o.op=true) (hp:wO ρ h nx (.neNil x)=some (p,v,fp,nx')):aV P num o ρ v fp:=by
 simp only [wW] at hc
 split at hc
 ·rename_i t y _ hop
  simp only [wBp] at hc
  obtain ⟨h1,h3⟩:=hc
  obtain ⟨ms,h3⟩:=qLc h3
  simp only [wO] at hp
  split at hp
  ·rename_i hx
   obtain ⟨rfl,rfl⟩:=xJ hp
   refine jF (m:=.mv x) ?_
   intro e a hn ht
   subst hn
   have g1:=yF (ρ:=ρ) ht h1
   rw [hx] at g1
   simp only [RV] at g1
   refine ⟨.bool false,?_,by simp [RV]⟩
   have he :∀w,(Op.equal t .nilIface .nilIface).run P w=.ok true w:=by
    intro w
    unfold Op.equal Op.maxDepth Op.equalIn
    simp [wM h3]
   have hk:a.eval (.const .nilIface)=.nilIface:=rfl
   intro w
   simp [execOp,hop,g1.1,hk,eqGuard,binOp,he]
  ·rename_i hx
   obtain ⟨rfl,rfl⟩:=xJ hp
   refine jF (m:=.mv x) ?_
   intro e a hn ht
   subst hn
   have g1:=yF (ρ:=ρ) ht h1
   rw [hx] at g1
   simp only [RV] at g1
   obtain ⟨⟨t',u',g1⟩,_⟩:=g1
   refine ⟨.bool true,?_,by simp [RV]⟩
   have he :∀w,(Op.equal t (.iface t' u') .nilIface).run P w=.ok false w:=by
    intro w
    unfold Op.equal Op.maxDepth Op.equalIn
    simp [wM h3]
   have hk:a.eval (.const .nilIface)=.nilIface:=rfl
   intro w
   simp [execOp,hop,g1,hk,eqGuard,binOp,he]
  ·simp at hp
 ·simp at hc
end
end Go.Sep
namespace Go.Sep
set_option linter.unusedVariables false
set_option linter.unusedSimpArgs false
section
variable {P:Program} {num:Nat→Nat} {o:Oper} {ρ:Nat→AV} {h:wT} {nx nx':Nat} {p:Prop} {v:AV} {fp:FP}
def vOf:AV→Value
 | .int k n=>.int k n
 | .bool b=>.bool b
 | .str s=>.string s
 | _=>undef
theorem qF4 {w:World} {op:BinOp} {t:TypeId} {k k':IntKind} {a b:Int} {v:AV} (h:qCf op (.int k a) (.int k' b)=some (p,v)) (hp:p) :
  (binOp op t (.int k a) (.int k' b)).run P w=.ok (vOf v) w∧∀e,RV e v (vOf v) []:=by
 by_cases hk:k=k'
 case neg =>
  simp only [qCf,if_neg hk,qF0] at h
  cases op<;>simp only [Option.some.injEq,Prod.mk.injEq,reduceCtorEq] at h<;>obtain ⟨hq,rfl⟩:=h<;>refine ⟨?_,fun e=>by simp only [vOf,RV,and_self]⟩
  case shl=>subst hq; simp [vOf,binOp,Op.shift,qUt,qP0,show¬b<0 by omega]
  case shr=>subst hq; simp [vOf,binOp,Op.shift,qUt,qP0,show¬b<0 by omega]
 subst hk
 simp only [qCf,if_true] at h
 cases op<;>simp only [Option.some.injEq,Prod.mk.injEq,reduceCtorEq] at h<;>obtain ⟨hq,rfl⟩:=h<;>refine ⟨?_,fun e=>by simp only [vOf,RV,and_self]⟩
 case quo=>subst hq; simp [vOf,binOp,Op.intDiv,show¬b=0 from hp]
 case rem=>subst hq; simp [vOf,binOp,Op.intDiv,show¬b=0 from hp]
 case shl=>subst hq; simp [vOf,binOp,Op.shift,qUt,qP0,show¬b<0 by omega]
 case shr=>subst hq; simp [vOf,binOp,Op.shift,qUt,qP0,show¬b<0 by omega]
 case eql=>simp [vOf,binOp,Op.intCmp]; rfl
 case neq=>simp [vOf,binOp,Op.intCmp]; rfl
 all_goals simp [vOf,binOp,Op.intArith,Op.intBits,Op.intCmp,qP1,bOr,wAh]
theorem toList_eq {a b:ByteArray}:(a.toList==b.toList)=decide (a=b):=by
 rw [Bool.eq_iff_iff]
 simp only [beq_iff_eq,decide_eq_true_eq]
 constructor
 ·intro h
  rw [Go.ByteArray.toList_eq,Go.ByteArray.toList_eq] at h
  have:=Array.toList_inj.1 h
  cases a; cases b; simp_all
 ·intro h; rw [h]
theorem qF3 {w:World} {op:BinOp} {t:TypeId} {a b:ByteArray} {v:AV} (h:qCf op (.str a) (.str b)=some (p,v)) (hp:p) :
  (binOp op t (.string a) (.string b)).run P w=.ok (vOf v) w∧∀e,RV e v (vOf v) []:=by
 simp only [qCf] at h
 cases op<;>simp only [Option.some.injEq,Prod.mk.injEq,reduceCtorEq] at h<;>obtain ⟨hq,rfl⟩:=h<;>refine ⟨?_,fun e=>by simp only [vOf,RV,and_self]⟩
 case add =>
  subst hq
  have :¬(((a.size+b.size:Nat):Int)>IntKind.i64.max):=by
   have:IntKind.i64.max=9223372036854775807:=by decide
   rw [this]; omega
  simp only [binOp,Op.stringOp,if_neg this,Sem.run_pure,vOf]
 case eql=>simp only [binOp,Op.stringOp,toList_eq,Sem.run_pure,vOf]
 case neq=>simp only [binOp,Op.stringOp,toList_eq,Sem.run_pure,vOf]
theorem qR4 {op:BinOp} {x y v:AV} (h:qCf op x y=some (p,v)):(∃k k' a b,x=.int k a∧y=.int k' b)∨∃a b,x=.str a∧y=.str b:=by
 unfold qCf at h
 split at h
 ·exact .inl ⟨_,_,_,_,rfl,rfl⟩
 ·exact .inr ⟨_,_,rfl,rfl⟩
 ·simp at h
theorem qRn {b:BinOp} {x z:Arg} (hc:wW P num (.bin b x z) o.op=true) (hp:wO ρ h nx (.bin b x z)=some (p,v,fp,nx')) (hpp:p):aV P num o ρ v fp:=by
 simp only [wW] at hc
 split at hc
 ·rename_i b' t y u _ hop
  simp only [wBp,beq_iff_eq] at hc
  obtain ⟨⟨rfl,h1⟩,h2⟩:=hc
  simp only [wO] at hp
  cases hb:qCf b (x.ev ρ) (z.ev ρ) with
  | none=>simp [hb] at hp
  | some r =>
   obtain ⟨q,r⟩:=r
   simp only [hb,wBs,Option.some.injEq,Prod.mk.injEq] at hp
   obtain ⟨rfl,rfl,rfl,_⟩:=hp
   refine jF (m:=.mv x) ?_
   intro e a hn ht
   subst hn
   have g1:=yF (ρ:=ρ) ht h1
   have g2:=yF (ρ:=ρ) ht h2
   rcases qR4 hb with ⟨k,k',m,n,e1,e2⟩ | ⟨m,n,e1,e2⟩
   ·rw [e1,e2] at hb
    rw [e1] at g1; rw [e2] at g2
    have hr:=fun w=>(qF4 (P:=P) (w:=w) (t:=t) hb hpp).1
    have hv:=(qF4 (P:=P) (w:=e.w) (t:=t) hb hpp).2
    refine ⟨_,?_,hv e⟩
    intro w
    simp only [execOp,hop,aD g1,aD g2,eqGuard,Sem.run_bind]
    cases b<;>simp [hr]
   ·rw [e1,e2] at hb
    rw [e1] at g1; rw [e2] at g2
    have hr:=fun w=>(qF3 (P:=P) (w:=w) (t:=t) hb hpp).1
    have hv:=(qF3 (P:=P) (w:=e.w) (t:=t) hb hpp).2
    refine ⟨_,?_,hv e⟩
    intro w
    simp only [execOp,hop,qH4 g1,qH4 g2,eqGuard,Sem.run_bind]
    cases b<;>simp [hr]
 ·simp at hc
theorem nT {w:World} {k:IntKind} {n:Int} {y:Nat} {c:BoundsCode} (h:0≤n∧n≤y):(Instr.sliceBound (.int k n) y c).run P w=.ok n.toNat w:=by
 simp [Instr.sliceBound,asIntOf,h]
theorem nB {e:Env} {a:Act} {w:World} {isS:Bool} {len cap:Nat} {lo hi:Option Arg} {lo' hi':Option Operand} {l m:Int}
  (ht :∀t,RV e (ρ t) (a.tmps.getD t undef) []) (h1:qHy e.num lo' lo=true) (h2:qHy e.num hi' hi=true) (hl:aJ ρ 0 lo=some l) (hh:aJ ρ len hi=some m)
  (b1:0≤l) (b2:l≤m) (b3:m≤len) (b4:len≤cap) :
  (Instr.sliceBounds isS len cap (lo'.map a.eval) (hi'.map a.eval) none).run P w=.ok (l.toNat,m.toNat,cap) w:=by
 have key :∀{x:Option Arg} {x':Option Operand} {d:Int} {n:Int},qHy e.num x' x=true→aJ ρ d x=some n→(x'=none∧n=d)∨∃y k,x'=some y∧a.eval y=.int k n:=by
  intro x x' d n hc hb
  cases x with
  | none =>
   cases x' with
   | none=>simp [aJ] at hb; exact .inl ⟨rfl,hb.symm⟩
   | some y=>simp [qHy] at hc
  | some z =>
   cases x' with
   | none=>simp [qHy] at hc
   | some y =>
    simp only [qHy] at hc
    simp only [aJ] at hb
    have g:=yF (ρ:=ρ) ht hc
    split at hb
    ·rename_i k q hq
     simp at hb
     subst hb
     rw [hq] at g
     exact .inr ⟨y,k,rfl,aD g⟩
    ·simp at hb
 have hlo :∀w',(match lo'.map a.eval with
   | some v=>Instr.sliceBound v m.toNat .sliceB
   | none=>pure 0).run P w'=.ok l.toNat w':=by
  intro w'
  rcases key h1 hl with ⟨rfl,h3⟩ | ⟨y,k,rfl,h3⟩
  ·simp [h3]
  ·simp only [wBs,h3]
   exact nT ⟨by omega,by omega⟩
 have hlo' :∀w',(match lo'.map a.eval with
   | some v=>do
    let l←Instr.sliceBound v m.toNat .sliceB
    pure (l,m.toNat,cap)
   | none=>do
    let l←pure 0
    pure (l,m.toNat,cap)).run P w'=.ok (l.toNat,m.toNat,cap) w':=by
  intro w'
  have:=hlo w'
  cases hx:lo'.map a.eval with
  | none=>rw [hx] at this; simp at this; simp [this]
  | some v=>rw [hx] at this; simp only at this; simp [this]
 unfold Instr.sliceBounds
 simp only [Sem.run_bind,Sem.run_pure,Result.andThen_ok,Option.isSome_none,wBl,if_false]
 rcases key h2 hh with ⟨rfl,h3⟩ | ⟨y,k,rfl,h3⟩
 ·subst h3
  simp only [wBt,Sem.run_bind,Sem.run_pure,Result.andThen_ok]
  exact hlo' w
 ·simp only [wBs,h3,Sem.run_bind]
  rw [nT ⟨by omega,by omega⟩]
  exact hlo' w
theorem qMe {x:Arg} {lo hi:Option Arg} (hc:wW P num (.cutS x lo hi) o.op=true) (hp:wO ρ h nx (.cutS x lo hi)=some (p,v,fp,nx')) (hpp:p):aV P num o ρ v fp:=by
 simp only [wW] at hc
 split at hc
 ·rename_i t y l' h' hop
  simp only [wBp] at hc
  obtain ⟨⟨⟨h1,h2⟩,h3⟩,h4⟩:=hc
  simp only [wO] at hp
  cases hl:aJ ρ 0 lo with
  | none=>simp [hl] at hp
  | some l =>
   simp only [hl,wBu] at hp
   split at hp
   ·rename_i s hx
    cases hh:aJ ρ s.size hi with
    | none=>simp [hh] at hp
    | some m =>
     simp only [hh,wBs,Option.some.injEq,Prod.mk.injEq] at hp
     obtain ⟨rfl,rfl,rfl,_⟩:=hp
     obtain ⟨p1,p2,p3⟩:=hpp
     refine jF (m:=.mv x) ?_
     intro e a hn ht
     subst hn
     have g1:=yF (ρ:=ρ) ht h1
     rw [hx] at g1
     refine ⟨.string (s.extract l.toNat m.toNat),?_,by simp [RV]⟩
     intro w
     simp only [execOp,hop,qH4 g1,Sem.run_bind,Instr.sliceAt,wM (sT h4),Result.andThen_ok,Instr.slice,wBt,Option.isSome_none,wBl,if_false]
     rw [nB (isS:=false) ht h2 h3 hl hh p1 p2 p3 (wBo _)]
     simp
   ·simp at hp
 ·simp at hc
end
end Go.Sep
namespace Go.Sep
set_option linter.unusedVariables false
set_option linter.unusedSimpArgs false
section
variable {P:Program} {num:Nat→Nat} {o:Oper} {ρ:Nat→AV} {h:wT} {nx nx':Nat} {p:Prop} {v:AV} {fp:FP}
theorem wY {a b:List Nat} (h:[]=a++b):a=[]∧b=[]:=by
 have:=h.symm
 simpa using this
theorem sF {e:Env} {cs:List AV} {vs:List Value} (n:Nat) (h:RVs e cs vs []):RVs e (cs.take n) (vs.take n) []∧RVs e (cs.drop n) (vs.drop n) []:=by
 have hl:=yU h
 by_cases hn:n≤cs.length
 ·rw [←wBv n cs] at h
  obtain ⟨c1,c2,L1,L2,h1,h2,h3,h4⟩:=(uI _ _).1 h
  obtain ⟨rfl,rfl⟩:=wY h2
  have h5:=yU h3
  rw [wBi,wBe hn] at h5
  subst h1
  rw [wBw h5,wBx h5]
  exact ⟨h3,h4⟩
 ·rw [wBy (by omega),wBy (by omega),wBz (by omega),wBz (by omega)]
  exact ⟨h,by simp [RVs]⟩
theorem qH2 {e:Env} {cs:List AV} {vs:List Value} (n:Nat) (h:RVs e cs vs []):RVs e (cs.take n) (vs.take n) []:=(sF n h).1
theorem qH3 {e:Env} {cs:List AV} {vs:List Value} (n:Nat) (h:RVs e cs vs []):RVs e (cs.drop n) (vs.drop n) []:=(sF n h).2
theorem qVl {w:World} {t:TypeId} {cs:List Value} {off n:Nat} {ag:Bool} {i:TypeInfo} (hag:qDx P t=some ag) (hi:P.info? t=some i) (hn:i.size=n) (h1:ag=true∨n=1) (hl:off+n≤cs.length) :
  (part t cs.toArray off).run P w=.ok (if ag then .agg ((cs.drop off).take n).toArray else cs.getD off undef) w:=by
 subst hn
 unfold part
 simp only [Sem.run_bind,qBg hag,Result.andThen_ok]
 cases ag with
 | true=>simp [uM hi]
 | false =>
  simp at h1
  have:off<cs.length:=by omega
  simp [this]
theorem qRf {off n:Nat} {ag:Bool} {x:Arg} (hc:wW P num (.fld off n ag x) o.op=true) (hp:wO ρ h nx (.fld off n ag x)=some (p,v,fp,nx')) (hpp:p):aV P num o ρ v fp:=by
 simp only [wW] at hc
 split at hc
 ·rename_i t y f hop
  simp only [wBp] at hc
  obtain ⟨hc,h5⟩:=hc
  cases hfs:fieldsOf P t with
  | none=>simp [hfs] at h5
  | some fs =>
   simp only [hfs] at h5
   cases hg:fs[f]? with
   | none=>simp [hg] at h5
   | some g =>
    simp only [hg,wBp,beq_iff_eq,wC0] at h5
    obtain ⟨⟨⟨h6,h7⟩,h8⟩,h9⟩:=h5
    obtain ⟨i,hi,hin⟩:=dD h7
    simp only [wO] at hp
    split at hp
    ·rename_i cs hx
     simp only [Option.some.injEq,Prod.mk.injEq] at hp
     obtain ⟨rfl,rfl,rfl,_⟩:=hp
     refine jF (m:=.mv x) ?_
     intro e a hn ht
     subst hn
     have g1:=yF (ρ:=ρ) ht hc
     rw [hx] at g1
     simp only [RV] at g1
     obtain ⟨vs,g1,g2⟩:=g1
     have hl:=yU g2
     refine ⟨if ag then .agg ((vs.drop off).take n).toArray else vs.getD off undef,?_,?_⟩
     ·intro w
      simp only [execOp,hop,g1,Sem.run_bind,Instr.field,wM (xV hfs),Result.andThen_ok,hg,asAgg,Sem.run_pure]
      rw [h6,qVl h8 hi hin h9 (by omega)]
      rfl
     ·cases ag with
      | true =>
       simp only [if_true,RV]
       exact ⟨_,rfl,qH2 n (qH3 off g2)⟩
      | false =>
       simp at h9
       subst h9
       obtain ⟨c,h10,h11⟩:=cG g2 off (by omega)
       simp only [wBl,if_false]
       have e1:vs.getD off undef=c:=by simp [wBr,h10]
       have e2:cs.getD off .any=cs[off]'(by omega):=by
        have:off<cs.length:=by omega
        simp [wBr,this]
       rw [e1,e2]
       exact h11
    ·simp at hp
 ·simp at hc
theorem qGi {e:Env} {v:AV} {c:Value} {L:List Nat} (hv:yS v=true) (h:RV e v c L):c.oneCell'=true:=by
 cases v
 case sl m sz rows =>
  cases m<;>simp only [RV] at h
  ·rcases h with ⟨_,_,_,rfl⟩ | ⟨p,Lr,_,rfl,_⟩<;>rfl
  ·rcases h.2 with ⟨_,a,c,rfl,_⟩ | ⟨b,o,c,rfl,_⟩<;>rfl
  ·rcases h.2 with ⟨_,a,c,rfl,_⟩ | ⟨b,o,c,rfl,_⟩<;>rfl
 case any=>simp [yS] at hv
 case agg=>simp [yS] at hv
 case tup=>simp [yS] at hv
 all_goals simp only [RV] at h
 case int=>obtain ⟨rfl,_⟩:=h; rfl
 case bool=>obtain ⟨rfl,_⟩:=h; rfl
 case str=>obtain ⟨rfl,_⟩:=h; rfl
 case fn=>obtain ⟨vs,rfl,_⟩:=h; rfl
 case nilp=>obtain ⟨rfl,_⟩:=h; rfl
 case ptr nm i f =>
  obtain ⟨_,h⟩:=h
  cases hq:e.φ nm<;>rw [hq] at h
  ·obtain ⟨a,rfl⟩:=h; rfl
  ·exact h.elim
  ·subst h; rfl
 case fptr=>obtain ⟨_,b,o,vs,rfl,_⟩:=h; rfl
 case nil=>obtain ⟨rfl,_⟩:=h; rfl
 case nilI=>obtain ⟨rfl,_⟩:=h; rfl
 case ifc=>obtain ⟨⟨t,u,rfl⟩,_⟩:=h; rfl
 case ns nm off len =>
  obtain ⟨_,h⟩:=h
  cases hq:e.φ nm<;>rw [hq] at h
  ·obtain ⟨a,l,c,rfl⟩:=h; rfl
  ·obtain ⟨_,_,_,rfl⟩:=h; rfl
  ·obtain ⟨_,a,rfl,_⟩:=h; rfl
theorem iP {e:Env} {v:AV} {c:Value} (hv:(cellsOf v).all yS=true) (h:RV e v c []):RVs e (cellsOf v) c.cells.toList []:=by
 cases v
 case agg cs =>
  simp only [RV] at h
  obtain ⟨vs,rfl,h⟩:=h
  simpa [cellsOf,Value.cells] using h
 all_goals
  simp only [cellsOf,wC1,List.all_nil,Bool.and_true] at hv
  have hc:=qGi hv h
  have:c.cells = #[c]:=by cases c<;>first | rfl | simp [Value.oneCell'] at hc
  rw [this]
  simp only [cellsOf,RVs]
  exact ⟨c,[],[],[],rfl,h,⟨rfl,rfl⟩,rfl⟩
theorem qC9 {e:Env} :∀{l:List AV} {vs:List Value} {L:List Nat},l.all yS=true→RVs e l vs L→∀u∈vs,u.oneCell'=true
 | [],vs,L,_,h=>by simp only [RVs] at h; simp [h.1]
 | c::l,vs,L,hl,h=>by
  simp only [RVs] at h
  obtain ⟨v,vs',L1,L2,rfl,h2,h3,rfl⟩:=h
  simp only [wC1,wBp] at hl
  intro u hu
  rcases List.mem_cons.1 hu with rfl | hu
  ·exact qGi hl.1 h2
  ·exact qC9 hl.2 h3 u hu
theorem qR7 {e:Env} {cs ds:List AV} {vs us:List Value} {f:Nat} (h1:RVs e cs vs []) (h2:RVs e ds us []) (hf:f+ds.length≤cs.length) :
  RVs e (gF cs f ds) (vs.take f++us++vs.drop (f+us.length)) []:=by
 unfold gF
 have hu:=yU h2
 rw [hu]
 refine (uI _ _).2 ⟨vs.take f++us,vs.drop (f+ds.length),[],[],rfl,rfl,(uI _ _).2 ⟨_,_,[],[],rfl,rfl,qH2 f h1,h2⟩,qH3 _ h1⟩
theorem iZ {α:Type} (cs ds:List α) (f:Nat) (hf:f+ds.length≤cs.length):(cs.take f++ds++cs.drop (f+ds.length)).length=cs.length:=by
 simp
 omega
theorem qDo (arr:Array Value) (f:Nat) (us:List Value) (hf:f+us.length≤arr.size):(vU arr f us).toList=arr.toList.take f++us++arr.toList.drop (f+us.length):=by
 apply wC2
 intro k
 rw [Array.getElem?_toList]
 by_cases h1:k<f
 ·rw [xE _ _ _ _ (.inl h1)]
  rw [wC3,wC4 (by simp; omega)]
  simp [h1]
 ·by_cases h2:k<f+us.length
  ·obtain ⟨j,rfl⟩ :∃j,k=f+j:=⟨k-f,by omega⟩
   rw [rO _ _ _ _ (by omega) hf]
   have:(List.take f arr.toList).length=f:=by simp; omega
   rw [wC3,wBf (by omega),this,wC4 (by omega)]
   simp
  ·rw [xE _ _ _ _ (.inr (by omega))]
   have:(List.take f arr.toList++us).length=f+us.length:=by simp; omega
   rw [wBf (by omega),this]
   simp
   congr 1
   omega
theorem qD1 (vc:List Value) :∀(cs:Array Value) (off k:Nat),(vc.zipIdx k).foldl (fun cs (c,j)=>cs.setIfInBounds (off+j) c) cs=vU cs (off+k) vc:=by
 induction vc with
 | nil=>intro cs off k; rfl
 | cons v vc ih =>
  intro cs off k
  simp only [List.zipIdx_cons,List.foldl_cons,vU]
  rw [ih,wBq]
theorem qG4 {e:Env} {a:Act} {fs:Array Field} {places:Array (Nat×Nat)} (hpl :∀(i:Nat) (f:Field) (n:Nat),fs[i]?=some f→fI P f.type n=true→places[i]?=some (f.offset,n))
  (ht :∀t,RV e (ρ t) (a.tmps.getD t undef) []) :∀(parts:List (Nat×Nat×Arg)) (ps:List (Nat×Operand)) (cs:List AV) (arr:Array Value),aT P e.num fs ps parts=true→
   qC6 ρ cs.length parts→RVs e cs arr.toList []→∃arr',Instr.fill (places[·]?) arr (ps.map fun x=>(x.1,a.eval x.2))=some arr'∧RVs e (qJf ρ cs parts) arr'.toList []
 | [],ps,cs,arr,hc,_,h=>by
  cases ps with
  | nil=>exact ⟨arr,rfl,h⟩
  | cons=>simp [aT] at hc
 | (off,sz,y)::parts,ps,cs,arr,hc,hf,h=>by
  cases ps with
  | nil=>simp [aT] at hc
  | cons q ps =>
   obtain ⟨i,x⟩:=q
   simp only [aT,wBp] at hc
   obtain ⟨⟨h1,h2⟩,h3⟩:=hc
   simp only [qC6] at hf
   obtain ⟨⟨f1,f2,f3⟩,f4⟩:=hf
   cases hg:fs[i]? with
   | none=>simp [hg] at h1
   | some f =>
    simp only [hg,wBp,beq_iff_eq] at h1
    obtain ⟨rfl,h5⟩:=h1
    have g:=iP f2 (yF (ρ:=ρ) ht h2)
    have gl:=yU g
    have hl:=yU h
    have hs:=qDo arr f.offset (a.eval x).cells.toList (by simp at gl hl⊢; omega)
    have hr:RVs e (gF cs f.offset (cellsOf (y.ev ρ))) (vU arr f.offset (a.eval x).cells.toList).toList []:=by
     rw [hs]
     exact qR7 h g (by omega)
    have hlen:(gF cs f.offset (cellsOf (y.ev ρ))).length=cs.length:=iZ _ _ _ (by omega)
    obtain ⟨arr',h6,h7⟩:=qG4 hpl ht parts ps _ _ h3 (by rw [hlen]; exact f4) hr
    refine ⟨arr',?_,h7⟩
    simp only [wBm,Instr.fill,hpl i f sz hg h5]
    have hsz:(a.eval x).cells.size=sz:=by simp at gl; omega
    have ha:arr.size=cs.length:=by simpa using hl
    have hcond :¬(((a.eval x).cells.size≠sz||f.offset+(a.eval x).cells.size>arr.size)=true):=by
     simp [hsz,ha]; omega
    rw [if_neg hcond]
    have hz:(a.eval x).cells.zipIdx.foldl (fun cs (c,j)=>cs.setIfInBounds (f.offset+j) c) arr=vU arr f.offset (a.eval x).cells.toList:=by
     rw [←Array.foldl_toList,Array.toList_zipIdx,qD1]
     simp
    rw [hz]
    exact h6
theorem rV {α β:Type} {w:World} (g:α→Sem β) (k:α→β) :∀(l:List α),(∀x∈l,(g x).run P w=.ok (k x) w)→(l.mapM g).run P w=.ok (l.map k) w
 | [],_=>by simp
 | x::l,h=>by
  rw [List.mapM_cons]
  simp only [Sem.run_bind,h x (by simp),Result.andThen_ok,rV g k l (fun y hy=>h y (by simp [hy])),Sem.run_pure,wBm]
theorem qF2 {α β:Type} {w:World} (g:α→Sem β) (k:α→β) (l:Array α) (h :∀x∈l.toList,(g x).run P w=.ok (k x) w):(l.mapM g).run P w=.ok (l.map k) w:=by
 rw [Array.mapM_eq_mapM_toList,Sem.run_map,rV g k l.toList h]
 simp only [Result.andThen_ok]
 rw [←Array.toList_map,Array.toArray_toList]
theorem uY {t:TypeId} {zero:List AV} (h:mR P t zero=true) :∃i z,P.info? t=some i∧i.size=zero.length∧i.zero=some z∧pF zero z.cells.toList=true∧zero.all yS=true:=by
 unfold mR at h
 cases hi:P.info? t with
 | none=>simp [hi] at h
 | some i =>
  simp only [hi,wBp,beq_iff_eq] at h
  cases hz:i.zero with
  | none=>simp [hz] at h
  | some z =>
   simp only [hz] at h
   exact ⟨i,z,rfl,h.1.1,hz,h.2,h.1.2⟩
theorem qI8 {zero:List AV} {parts:List (Nat×Nat×Arg)} (hc:wW P num (.build zero parts) o.op=true) (hp:wO ρ h nx (.build zero parts)=some (p,v,fp,nx')) (hpp:p):aV P num o ρ v fp:=by
 simp only [wW] at hc
 split at hc
 ·rename_i t ps hop
  simp only [wBp] at hc
  obtain ⟨h1,h2⟩:=hc
  obtain ⟨i,z,hi,hs,hz,hzv,hzo⟩:=uY h1
  cases hfs:fieldsOf P t with
  | none=>simp [hfs] at h2
  | some fs =>
   simp only [hfs,wBp,List.all_eq_true] at h2
   obtain ⟨h3,h4⟩:=h2
   simp only [wO,Option.some.injEq,Prod.mk.injEq] at hp
   obtain ⟨rfl,rfl,rfl,_⟩:=hp
   refine jF (m:=.mv (.t 0)) ?_
   intro e a hn ht
   subst hn
   have hm :∀w,(fs.mapM fun (f:Field)=>do pure (f.offset,←sizeOf f.type)).run P w=.ok (fs.map fun (f:Field)=>(f.offset,((P.info? f.type).map (·.size)).getD 0)) w:=by
    intro w
    refine qF2 _ _ fs ?_
    intro f hf
    obtain ⟨j,hj⟩:=Option.isSome_iff_exists.1 (h3 f hf)
    simp [uM hj,hj]
   obtain ⟨arr',h5,h6⟩:=qG4 (P:=P) (ρ:=ρ) (e:=e) (a:=a) (fs:=fs) (places:=fs.map fun (f:Field)=>(f.offset,((P.info? f.type).map (·.size)).getD 0)) (fun i f n hf hn=>by
    obtain ⟨j,hj,hjn⟩:=dD hn
    simp [hf,hj,hjn]) ht parts ps.toList zero z.cells h4 hpp (gY hzv)
   refine ⟨.agg arr',?_,?_⟩
   ·intro w
    simp only [execOp,hop,Sem.run_bind,Instr.build,dW hi hz,wM (xV hfs),Result.andThen_ok]
    rw [hm]
    simp only [Result.andThen_ok]
    have e1:(ps.map fun (i,x)=>(i,a.eval x)).toList=ps.toList.map fun x=>(x.1,a.eval x.2):=by simp
    rw [e1,h5]
    rfl
   ·simp only [RV]
    exact ⟨arr'.toList,by simp,h6⟩
 ·simp at hc
end
end Go.Sep
namespace Go.Sep
set_option linter.unusedVariables false
set_option linter.unusedSimpArgs false
section
variable {P:Program} {num:Nat→Nat} {o:Oper} {ρ:Nat→AV} {h:wT} {nx nx':Nat} {p:Prop} {v:AV} {fp:FP}
theorem qQa {t:TypeId} (h:qWh P t=true) :∃k,P.underlying t=some (.int k):=by
 unfold qWh at h
 split at h
 ·exact ⟨_,by assumption⟩
 ·simp at h
theorem qA2 {w:World} {t:TypeId} {cs:Array Value} {off:Nat} {c:Value} (hag:qDx P t=some false) (hc:cs[off]?=some c):(part t cs off).run P w=.ok c w:=by
 unfold part
 simp [qBg hag,hc]
theorem qA3 {w:World} {d:Nat} {e:Env} :∀(ks:List Bool) (xs ys:List AV) (r:Bool) (fs:List Field) (i:Nat) (vs us:List Value) (pre pre':List Value),eqC ks xs ys=some r→eG P i ks fs=true→
  RVs e xs vs []→RVs e ys us []→pre.length=i→pre'.length=i→(Op.eqFields (d+1) (pre++vs).toArray (pre'++us).toArray fs).run P w=.ok r w
 | [],xs,ys,r,fs,i,vs,us,pre,pre',he,hf,h1,h2,hp,hp'=>by
  cases fs with
  | cons=>simp [eG] at hf
  | nil =>
   cases xs with
   | cons x xs=>simp [eqC] at he
   | nil =>
    cases ys with
    | cons=>simp [eqC] at he
    | nil =>
     simp [eqC] at he
     subst he
     simp [Op.eqFields]
 | k::ks,xs,ys,r,fs,i,vs,us,pre,pre',he,hf,h1,h2,hp,hp'=>by
  cases fs with
  | nil=>simp [eG] at hf
  | cons f fs =>
   cases xs with
   | nil=>cases k<;>simp [eqC] at he
   | cons x xs =>
    cases ys with
    | nil=>cases k<;>cases x<;>simp [eqC] at he
    | cons y ys =>
     simp only [eG,wBp,bne_iff_ne,ne_eq,beq_iff_eq] at hf
     obtain ⟨⟨⟨hn,ho⟩,ht⟩,hf⟩:=hf
     simp only [RVs] at h1 h2
     obtain ⟨v,vs',L1,L2,rfl,g1,g2,g3⟩:=h1
     obtain ⟨u,us',L3,L4,rfl,g4,g5,g6⟩:=h2
     obtain ⟨rfl,rfl⟩:=wY g3
     obtain ⟨rfl,rfl⟩:=wY g6
     have c1:(pre++v::vs').toArray[f.offset]?=some v:=by simp [ho,←hp]
     have c2:(pre'++u::us').toArray[f.offset]?=some u:=by simp [ho,←hp']
     have key:qDx P f.type=some false∧∃q r',r=(q&&r')∧eqC ks xs ys=some r'∧(Op.equalIn (d+1) f.type v u).run P w=.ok q w:=by
      cases k with
      | true =>
       obtain ⟨k',hk⟩:=qQa ht
       refine ⟨by simp [qDx,hk],?_⟩
       cases x with
       | int k1 a =>
        cases y with
        | int k2 b =>
         simp only [eqC] at he
         split at he
         ·rename_i hkk
          subst hkk
          cases hr:eqC ks xs ys with
          | none=>simp [hr] at he
          | some r' =>
           simp [hr] at he
           refine ⟨decide (a=b),r',he.symm,rfl,?_⟩
           rw [aD g1,aD g4,run_equalIn_int w d f.type k1 k' a b hk]
           rfl
         ·simp at he
        | _=>simp [eqC] at he
       | _=>cases y<;>simp [eqC] at he
      | false =>
       refine ⟨by simp [qDx,oV ht],?_⟩
       cases x with
       | bool a =>
        cases y with
        | bool b =>
         simp only [eqC] at he
         cases hr:eqC ks xs ys with
         | none=>simp [hr] at he
         | some r' =>
          simp [hr] at he
          refine ⟨a==b,r',he.symm,rfl,?_⟩
          rw [iT g1,iT g4,run_equalIn_bool' w d f.type a b (oV ht)]
        | _=>simp [eqC] at he
       | _=>cases y<;>simp [eqC] at he
     obtain ⟨hag,q,r',rfl,hr',hq⟩:=key
     simp only [Op.eqFields]
     rw [if_pos hn]
     simp only [Sem.run_bind,qA2 hag c1,qA2 hag c2,Result.andThen_ok,hq]
     cases q with
     | false=>simp
     | true =>
      simp only [Bool.not_true,wBl,if_false,Bool.true_and]
      have:=qA3 (w:=w) (d:=d) ks xs ys r' fs (i+1) vs' us' (pre++[v]) (pre'++[u]) hr' hf g2 g5 (by simp [hp]) (by simp [hp'])
      simpa using this
theorem qRi {neg:Bool} {ks:List Bool} {x z:Arg} (hc:wW P num (.eqS neg ks x z) o.op=true) (hp:wO ρ h nx (.eqS neg ks x z)=some (p,v,fp,nx')):aV P num o ρ v fp:=by
 simp only [wW] at hc
 split at hc
 ·rename_i b t y u _ hop
  simp only [wBp] at hc
  obtain ⟨⟨⟨h0,h1⟩,h2⟩,h3⟩:=hc
  cases hfs:fieldsOf P t with
  | none=>simp [hfs] at h3
  | some fs =>
   simp only [hfs,wBp,Bool.not_eq_true'] at h3
   obtain ⟨⟨h4,h5⟩,h6⟩:=h3
   simp only [wO] at hp
   split at hp
   ·rename_i xs ys hx hz
    cases hr:eqC ks xs ys with
    | none=>simp [hr] at hp
    | some r =>
     simp only [hr,wBs,Option.some.injEq,Prod.mk.injEq] at hp
     obtain ⟨rfl,rfl,rfl,_⟩:=hp
     refine jF (m:=.mv x) ?_
     intro e a hn ht
     subst hn
     have g1:=yF (ρ:=ρ) ht h1
     rw [hx] at g1
     have g2:=yF (ρ:=ρ) ht h2
     rw [hz] at g2
     simp only [RV] at g1 g2
     obtain ⟨vs,g1,g3⟩:=g1
     obtain ⟨us,g2,g4⟩:=g2
     have hu:=xV hfs
     have hpf:P.fieldsOf t=fs:=by simp [Program.fieldsOf,hu]
     have key :∀w,(Op.equalIn 10000 t (.agg vs.toArray) (.agg us.toArray)).run P w=.ok r w:=by
      intro w
      rw [run_equalIn_agg w 9999 t vs.toArray us.toArray (by rw [hpf]; exact hu) h5,hpf]
      simpa using qA3 (w:=w) (d:=9998) (e:=e) ks xs ys r fs.toList 0 vs us [] [] hr h4 g3 g4 rfl rfl
     refine ⟨.bool (if neg then !r else r),?_,by simp [RV]⟩
     intro w
     cases neg
     ·simp at h0
      subst h0
      simp only [execOp,hop,g1,g2,Sem.run_bind,run_eqGuard_agg w .eql t y u vs.toArray us.toArray h6,Result.andThen_ok,run_eql_struct,key]
      rfl
     ·simp at h0
      subst h0
      simp only [execOp,hop,g1,g2,Sem.run_bind,run_eqGuard_agg w .neq t y u vs.toArray us.toArray h6,Result.andThen_ok,run_neq_struct,key]
      rfl
   ·simp at hp
 ·simp at hc
theorem qIr {e:Env} {nm off len:Nat} {row:Row} {L L':List Nat} {c:Value} (hr:uX e nm row L) (h:RV e (.ns nm off len) c L') :
  (e.φ nm=.nilp∧row.2=[]∧off=0∧len=0∧∃a,c=.slice a 0 0)∨
  ∃q a Lr,e.φ nm=.at q∧q.sz=row.1∧hY e.w q row.2.length∧yM e e.w q.block q.off q.sz row.2 Lr∧L=q.block::Lr∧off+len≤q.cap∧
   c=.slice (some a) len (q.cap-off)∧(off<q.cap→a=⟨q.block,q.off+off*q.sz,none⟩):=by
 simp only [RV] at h
 obtain ⟨_,h⟩:=h
 unfold uX gI at hr
 cases hq:e.φ nm with
 | dead=>rw [hq] at hr; exact hr.elim
 | nilp=>rw [hq] at hr h; exact .inl ⟨rfl,hr.1,h⟩
 | «at» q =>
  rw [hq] at hr h
  obtain ⟨h1,h2,Lr,h3,h4⟩:=hr
  obtain ⟨h5,a,h6,h7⟩:=h
  exact .inr ⟨q,a,Lr,rfl,h1,h2,h3,h4,h5,h6,h7⟩
theorem qRe {sz:Nat} {x z:Arg} (hc:wW P num (.iad sz x z) o.op=true) (hp:wO ρ h nx (.iad sz x z)=some (p,v,fp,nx')) (hpp:p):aV P num o ρ v fp:=by
 simp only [wW] at hc
 split at hc
 ·rename_i t y u hop
  simp only [wBp] at hc
  obtain ⟨⟨h1,h2⟩,h3⟩:=hc
  cases hel:bX P t with
  | none=>simp [hel] at h3
  | some el =>
   simp only [hel] at h3
   obtain ⟨i,hi,hs⟩:=dD h3
   have hu:=dG hel
   have key :∀(a:Act) (w:World) (A:Addr) (l c:Nat) (k:IntKind) (j:Int),a.eval y=.slice (some A) l c→a.eval u=.int k j→0≤j→j<l→
     (execOp a.eval o).run P w=.ok (.value (.pointer (some (A.add (j.toNat*sz))))) w:=by
    intro a w A l c k j e1 e2 h4 h5
    simp [execOp,hop,e1,e2,Instr.indexAt,asIntOf,wM hu,h4,h5,uM hi,hs]
   simp only [wO] at hp
   split at hp
   ·rename_i nm off len k j hx hz
    cases hl:qQ h nm with
    | none=>simp [hl] at hp
    | some row =>
     simp only [hl,wBs,Option.some.injEq,Prod.mk.injEq] at hp
     obtain ⟨rfl,rfl,rfl,_⟩:=hp
     obtain ⟨p1,p2,p3,p4⟩:=hpp
     refine kP ?_
     intro e L0 H Lf a hn hk hr ht
     subst hn
     have g1:=yF (ρ:=ρ) ht h1
     rw [hx] at g1
     have g2:=yF (ρ:=ρ) ht h2
     rw [hz] at g2
     rcases qIr hr g1 with ⟨_,_,_,rfl,_⟩ | ⟨q,A,Lr,hq,q1,q2,q3,q4,q5,q6,q7⟩
     ·omega
     ·have hA:=q7 (by omega)
      refine ⟨_,fun w=>key a w A len _ k j q6 (aD g2) p3 p4,?_⟩
      rw [hA,cL]
      have:q.off+off*q.sz+j.toNat*sz=q.off+(off+j.toNat)*q.sz+0:=by
       rw [q1,p1,wBh]; omega
      rw [this]
      exact qH5 hq
   ·rename_i s rows k j hx hz
    simp only [Option.some.injEq,Prod.mk.injEq] at hp
    obtain ⟨rfl,rfl,rfl,_⟩:=hp
    obtain ⟨p1,p3,p4⟩:=hpp
    refine jF (m:=.mv x) ?_
    intro e a hn ht
    subst hn
    have g1:=yF (ρ:=ρ) ht h1
    rw [hx] at g1
    have g2:=yF (ρ:=ρ) ht h2
    rw [hz] at g2
    simp only [RV] at g1
    rcases g1.2 with ⟨rfl,_⟩ | ⟨b,o',c,q1,q2,q3,q4⟩
    ·simp at p4; omega
    ·obtain ⟨vs,L1,L2,L3,r1,r2,r3,r4,_,_,r5⟩:=cH j.toNat (by omega) q4
     obtain ⟨_,r5⟩:=wY r5
     obtain ⟨rfl,_⟩:=wY r5.symm
     refine ⟨_,fun w=>key a w _ rows.length c k j q1 (aD g2) p3 p4,?_⟩
     have hg:rows.getD j.toNat []=rows[j.toNat]'(by omega):=by
      have:j.toNat<rows.length:=by omega
      simp [wBr,this]
     rw [hg,cL]
     simp only [RV,true_and]
     subst p1
     exact ⟨b,o'+j.toNat*s,vs,rfl,q3,by omega,fun j' hj'=>r3 j' (by omega),r4⟩
   ·rename_i s rows k j hx hz
    simp only [Option.some.injEq,Prod.mk.injEq] at hp
    obtain ⟨rfl,rfl,rfl,_⟩:=hp
    obtain ⟨p1,p3,p4⟩:=hpp
    refine jF (m:=.mv x) ?_
    intro e a hn ht
    subst hn
    have g1:=yF (ρ:=ρ) ht h1
    rw [hx] at g1
    have g2:=yF (ρ:=ρ) ht h2
    rw [hz] at g2
    simp only [RV] at g1
    rcases g1.2 with ⟨rfl,_⟩ | ⟨b,o',c,q1,q2,q3,q4⟩
    ·simp at p4; omega
    ·obtain ⟨vs,L1,L2,L3,r1,r2,r3,r4,_,_,r5⟩:=cH j.toNat (by omega) q4
     obtain ⟨_,r5⟩:=wY r5
     obtain ⟨rfl,_⟩:=wY r5.symm
     refine ⟨_,fun w=>key a w _ rows.length c k j q1 (aD g2) p3 p4,?_⟩
     have hg:rows.getD j.toNat []=rows[j.toNat]'(by omega):=by
      have:j.toNat<rows.length:=by omega
      simp [wBr,this]
     rw [hg,cL]
     simp only [RV,true_and]
     subst p1
     exact ⟨b,o'+j.toNat*s,vs,rfl,q3,by omega,fun j' hj'=>r3 j' (by omega),r4⟩
   ·simp at hp
 ·simp at hc
theorem qK4 {e:Env} {W:World} {b o' sz:Nat} {rows:List (List AV)} (l n:Nat) (hl:l≤rows.length) (h:yM e W b o' sz rows []):yM e W b (o'+l*sz) sz ((rows.drop l).take n) []:=by
 have h1:rows=rows.take l++rows.drop l:=by simp
 rw [h1] at h
 obtain ⟨L1,L2,_,h2,h3⟩:=(jM _ _).1 h
 obtain ⟨_,rfl⟩:=wY h3
 rw [wBi,wBe hl] at h2
 have h4:rows.drop l=(rows.drop l).take n++(rows.drop l).drop n:=(wBv n _).symm
 rw [h4] at h2
 obtain ⟨L3,L4,h5,_,h6⟩:=(jM _ _).1 h2
 obtain ⟨rfl,_⟩:=wY h6
 exact h5
theorem qRm {sz:Nat} {x:Arg} {lo hi:Option Arg} (hc:wW P num (.cut sz x lo hi) o.op=true) (hp:wO ρ h nx (.cut sz x lo hi)=some (p,v,fp,nx')) (hpp:p):aV P num o ρ v fp:=by
 simp only [wW] at hc
 split at hc
 ·rename_i t y l' h' hop
  simp only [wBp] at hc
  obtain ⟨⟨⟨h1,h2⟩,h3⟩,h4⟩:=hc
  cases hel:bX P t with
  | none=>simp [hel] at h4
  | some el =>
   simp only [hel] at h4
   obtain ⟨i,hi',hs⟩:=dD h4
   have hu:=dG hel
   have key :∀(e:Env) (a:Act) (w:World) (A:Option Addr) (len c:Nat) (l m:Int),e.num=num→(∀t,RV e (ρ t) (a.tmps.getD t undef) [])→a.eval y=.slice A len c→aJ ρ 0 lo=some l→aJ ρ len hi=some m→0≤l→l≤m→m≤len→len≤c→
     (execOp a.eval o).run P w=.ok (.value (.slice (if c=l.toNat then A else A.map (·.add (l.toNat*sz))) (m.toNat-l.toNat) (c-l.toNat))) w:=by
    intro e a w A len c l m hn ht e1 e2 e3 b1 b2 b3 b4
    subst hn
    simp only [execOp,hop,e1,Sem.run_bind,Instr.sliceAt,wM hu,Result.andThen_ok,Instr.slice,wBt]
    rw [nB (isS:=true) ht h2 h3 e2 e3 b1 b2 b3 b4]
    simp [uM hi',hs]
   simp only [wO] at hp
   cases hl:aJ ρ 0 lo with
   | none=>simp [hl] at hp
   | some l =>
    simp only [hl,wBu] at hp
    split at hp
    ·rename_i hx
     cases hh:aJ ρ 0 hi with
     | none=>simp [hh] at hp
     | some m =>
      simp only [hh,wBs,Option.some.injEq,Prod.mk.injEq] at hp
      obtain ⟨rfl,rfl,rfl,_⟩:=hp
      obtain ⟨rfl,rfl⟩:=hpp
      refine jF (m:=.mv x) ?_
      intro e a hn ht
      subst hn
      have g1:=yF (ρ:=ρ) ht h1
      rw [hx] at g1
      simp only [RV] at g1
      exact ⟨_,fun w=>key e a w none 0 0 0 0 rfl ht g1.1 hl hh (by omega) (by omega) (by omega) (by omega),by simp [RV]⟩
    ·rename_i nm off len hx
     cases hlk:qQ h nm with
     | none=>simp [hlk] at hp
     | some row =>
      cases hh:aJ ρ len hi with
      | none=>simp [hlk,hh] at hp
      | some m =>
       simp only [hlk,hh,wBu,wBs,Option.some.injEq,Prod.mk.injEq] at hp
       obtain ⟨rfl,rfl,rfl,_⟩:=hp
       obtain ⟨p1,p2,p3,p4,p5⟩:=hpp
       refine kP ?_
       intro e L0 H Lf a hn hk hr ht
       subst hn
       have g1:=yF (ρ:=ρ) ht h1
       rw [hx] at g1
       rcases qIr hr g1 with ⟨hq,_,rfl,rfl,aa,g2⟩ | ⟨q,A,Lr,hq,q1,q2,q3,q4,q5,q6,q7⟩
       ·have hl0:l=0:=by omega
        have hm0:m=0:=by omega
        subst hl0 hm0
        refine ⟨_,fun w=>key e a w aa 0 0 0 0 rfl ht g2 hl hh (by omega) (by omega) (by omega) (by omega),?_⟩
        simp [RV,hq]
       ·refine ⟨_,fun w=>key e a w (some A) len _ l m rfl ht q6 hl hh p3 p4 p5 (by omega),?_⟩
        simp only [RV,hq,true_and]
        refine ⟨by omega,?_⟩
        by_cases hcap:q.cap-off=l.toNat
        ·rw [if_pos hcap]
         exact ⟨A,by rw [show q.cap-(off+l.toNat)=q.cap-off-l.toNat by omega],fun hlt=>by omega⟩
        ·rw [if_neg hcap]
         refine ⟨A.add (l.toNat*sz),by rw [show q.cap-(off+l.toNat)=q.cap-off-l.toNat by omega]; rfl,fun hlt=>?_⟩
         rw [q7 (by omega),cL,←p1,←q1,wBh,wBq]
    ·rename_i s rows hx
     cases hh:aJ ρ rows.length hi with
     | none=>simp [hh] at hp
     | some m =>
      simp only [hh,wBs,Option.some.injEq,Prod.mk.injEq] at hp
      obtain ⟨rfl,rfl,rfl,_⟩:=hp
      obtain ⟨p1,p3,p4,p5⟩:=hpp
      refine jF (m:=.mv x) ?_
      intro e a hn ht
      subst hn
      have g1:=yF (ρ:=ρ) ht h1
      rw [hx] at g1
      simp only [RV] at g1
      rcases g1.2 with ⟨rfl,A,c,q1,q2⟩ | ⟨b,o',c,q1,q2,q3,q4⟩
      ·simp only [wBg] at hh p5
       have hl0:l=0:=by omega
       have hm0:m=0:=by omega
       subst hl0 hm0
       refine ⟨_,fun w=>key e a w A 0 c 0 0 rfl ht q1 hl hh (by omega) (by omega) (by omega) (by omega),?_⟩
       simp only [RV,true_and]
       refine .inl ⟨by simp,_,_,rfl,?_⟩
       intro hA
       cases A with
       | none=>have:=q2 rfl; omega
       | some A=>split at hA<;>simp at hA
      ·refine ⟨_,fun w=>key e a w _ rows.length c l m rfl ht q1 hl hh p3 p4 p5 q2,?_⟩
       simp only [RV,true_and]
       have hlen:((rows.drop l.toNat).take (m.toNat-l.toNat)).length=m.toNat-l.toNat:=by simp; omega
       by_cases hz:m.toNat-l.toNat=0
       ·refine .inl ⟨List.length_eq_zero_iff.1 (by omega),_,_,by rw [hz],?_⟩
        intro hA
        split at hA<;>simp at hA
       ·refine .inr ⟨b,o'+l.toNat*s,c-l.toNat,?_,by omega,q3,qK4 _ _ (by omega) q4⟩
        rw [if_neg (by omega),hlen,p1]
        simp [cL]
    ·rename_i s rows hx
     cases hh:aJ ρ rows.length hi with
     | none=>simp [hh] at hp
     | some m =>
      simp only [hh,wBs,Option.some.injEq,Prod.mk.injEq] at hp
      obtain ⟨rfl,rfl,rfl,_⟩:=hp
      obtain ⟨p1,p3,p4,p5⟩:=hpp
      refine jF (m:=.mv x) ?_
      intro e a hn ht
      subst hn
      have g1:=yF (ρ:=ρ) ht h1
      rw [hx] at g1
      simp only [RV] at g1
      rcases g1.2 with ⟨rfl,A,c,q1,q2⟩ | ⟨b,o',c,q1,q2,q3,q4⟩
      ·simp only [wBg] at hh p5
       have hl0:l=0:=by omega
       have hm0:m=0:=by omega
       subst hl0 hm0
       refine ⟨_,fun w=>key e a w A 0 c 0 0 rfl ht q1 hl hh (by omega) (by omega) (by omega) (by omega),?_⟩
       simp only [RV,true_and]
       refine .inl ⟨by simp,_,_,rfl,?_⟩
       intro hA
       cases A with
       | none=>have:=q2 rfl; omega
       | some A=>split at hA<;>simp at hA
      ·refine ⟨_,fun w=>key e a w _ rows.length c l m rfl ht q1 hl hh p3 p4 p5 q2,?_⟩
       simp only [RV,true_and]
       have hlen:((rows.drop l.toNat).take (m.toNat-l.toNat)).length=m.toNat-l.toNat:=by simp; omega
       by_cases hz:m.toNat-l.toNat=0
       ·refine .inl ⟨List.length_eq_zero_iff.1 (by omega),_,_,by rw [hz],?_⟩
        intro hA
        split at hA<;>simp at hA
       ·refine .inr ⟨b,o'+l.toNat*s,c-l.toNat,?_,by omega,q3,qK4 _ _ (by omega) q4⟩
        rw [if_neg (by omega),hlen,p1]
        simp [cL]
    ·simp at hp
 ·simp at hc
end
end Go.Sep
namespace Go.Sep
set_option linter.unusedVariables false
set_option linter.unusedSimpArgs false
def vD (e:Env) (sz:Nat):List (List AV)→List Value→List Nat→Prop
 | [],vs,L=>vs=[]∧L=[]
 | r::rs,vs,L =>∃v1 v2 L1 L2,vs=v1++v2∧(r.length=sz∧r.all yS=true)∧RVs e r v1 L1∧vD e sz rs v2 L2∧L=L1++L2
theorem vF {e:Env} {sz:Nat} :∀{rows:List (List AV)} {vs:List Value} {L:List Nat},vD e sz rows vs L→vs.length=rows.length*sz
 | [],_,_,h=>by simp only [vD] at h; simp [h.1]
 | r::rs,_,_,h=>by
  simp only [vD] at h
  obtain ⟨v1,v2,L1,L2,rfl,h1,h2,h3,rfl⟩:=h
  rw [wC5,yU h2,vF h3,h1.1,wBk,wBh]
  omega
theorem mY {e:Env} {sz:Nat} :∀{xs ys:List (List AV)} {vs us:List Value} {L M:List Nat},vD e sz xs vs L→vD e sz ys us M→vD e sz (xs++ys) (vs++us) (L++M)
 | [],ys,vs,us,L,M,h1,h2=>by simp only [vD] at h1; obtain ⟨rfl,rfl⟩:=h1; exact h2
 | r::rs,ys,vs,us,L,M,h1,h2=>by
  simp only [vD] at h1
  obtain ⟨v1,v2,L1,L2,rfl,g1,g2,g3,rfl⟩:=h1
  simp only [wBd,vD]
  exact ⟨v1,v2++us,L1,L2++M,by simp,g1,g2,mY g3 h2,by simp⟩
theorem eK {e e':Env} {A:Nat→Prop} {sz:Nat} :∀{rows:List (List AV)} {vs:List Value} {L:List Nat},dI e e' A L→yW A rows→vD e sz rows vs L→vD e' sz rows vs L
 | [],_,_,_,_,h=>h
 | r::rs,_,_,k,hb,h=>by
  simp only [vD] at h⊢
  obtain ⟨v1,v2,L1,L2,rfl,g1,g2,g3,rfl⟩:=h
  exact ⟨v1,v2,L1,L2,rfl,g1,zD r (k.sub (by simp +contextual)) hb.1 g2,eK (k.sub (by simp +contextual)) hb.2 g3,rfl⟩
theorem hZ {e:Env} {W:World} {b sz:Nat} :∀{rows:List (List AV)} {vs:List Value} {L:List Nat} {o:Nat},vD e sz rows vs L→(∀j,j<vs.length→W.cell? ⟨b,o+j,none⟩=vs[j]?)→yM e W b o sz rows L
 | [],_,_,_,h,_=>by simp only [vD] at h; simp only [yM]; exact h.2
 | r::rs,_,_,o,h,hc=>by
  simp only [vD] at h
  obtain ⟨v1,v2,L1,L2,rfl,g1,g2,g3,rfl⟩:=h
  have hl:=yU g2
  simp only [yM]
  refine ⟨v1,L1,L2,g1,by omega,fun j hj=>?_,g2,hZ g3 (fun j hj=>?_),rfl⟩
  ·rw [hc j (by simp; omega),wC4 (by omega)]
  ·have:=hc (sz+j) (by simp; omega)
   rw [←wBq] at this
   rw [this,wBf (by omega)]
   congr 1
   omega
theorem lW {e:Env} {W:World} {b sz:Nat} :∀{rows:List (List AV)} {L:List Nat} {o:Nat},yM e W b o sz rows L→∃vs,vD e sz rows vs L∧∀j,j<vs.length→W.cell? ⟨b,o+j,none⟩=vs[j]?
 | [],_,_,h=>by simp only [yM] at h; exact ⟨[],⟨rfl,h⟩,by simp⟩
 | r::rs,_,o,h=>by
  simp only [yM] at h
  obtain ⟨v1,L1,L2,h1,h2,h3,h4,h5,rfl⟩:=h
  obtain ⟨v2,h6,h7⟩:=lW h5
  refine ⟨v1++v2,⟨v1,v2,L1,L2,rfl,h1,h4,h6,rfl⟩,fun j hj=>?_⟩
  by_cases hjs:j<sz
  ·rw [h3 j hjs,wC4 (by omega)]
  ·rw [wBf (by omega),h2]
   have:=h7 (j-sz) (by simp at hj; omega)
   rw [←this]
   congr 2
   omega
theorem lR (H:Nat→Option Row) :∀(a b:FP),upH H (a++b)=upH (upH H a) b
 | [],b=>rfl
 | (n,p,r)::a,b=>by simp only [wBd,upH]; exact lR _ a b
theorem qCg {w w1:World} {ob:Obj} (h:w1.heap=w.heap) {b:Nat} (hb:b<w.heap.size):(w1.alloc ob).heap[b]?=w.heap[b]?:=by
 simp only [World.alloc,h]
 rw [Array.getElem?_push_lt hb]
 simp [hb]
theorem qJz {w w1:World} {ob:Obj} (h:w1.heap=w.heap):(w1.alloc ob).heap[w.heap.size]?=some ob:=by
 simp [World.alloc,h]
theorem Tri.of_new {P:Program} {num:Nat→Nat} {o:Oper} {ρ:Nat→AV} {v:AV} {rd:FP} {nx sz:Nat} {rows:List (List AV)} (hrd :∀x∈rd,x.2.2=x.2.1) (hnx:nx∉rd.map (·.1))
  (h :∀(e:Env) (L0:List Nat) (H:Nat→Option Row) (Lf:Nat→List Nat) (A:Nat→Prop) (a:Act),e.num=num→Ok e L0 H Lf→(∀x∈rd,H x.1=x.2.1)→(∀t,bnd A (ρ t))→(∀nm row,H nm=some row→yW A row.2)→
   (∀t,RV e (ρ t) (a.tmps.getD t undef) [])→
   ∃(w1:World) (arr:Array Value) (ty cap:Nat) (vals:List Value) (v':Value),(execOp a.eval o).run P e.w=.ok (.value v') (w1.alloc (.cells arr ty))∧(w1.heap=e.w.heap∧gH e.w w1)∧yW A rows∧vD e sz rows vals []∧(∀j,j<vals.length→arr[j]?=vals[j]?)∧
    0<sz∧rows.length≤cap∧cap*sz≤arr.size∧(∀e':Env,e'.φ nx=.at ⟨e.w.heap.size,0,cap,sz⟩→RV e' v v' [])) :
  Tri P num o ρ v (rd++[(nx,none,some (sz,rows))]):=by
 intro e L0 H Lf A a K Q hn hk hpre hbt hbh hfr ht k
 obtain ⟨w1,arr,ty,cap,vals,v',hr,⟨hw,hio⟩,hb,hfl,hc,hsz,hcap,hroom,hv⟩:=h e L0 H Lf A a hn hk (fun x hx=>hpre x (by simp [hx])) hbt hbh ht
 have hnone:H nx=none:=hpre (nx,none,some (sz,rows)) (by simp)
 have hnA :¬A nx:=hfr (nx,none,some (sz,rows)) (by simp) rfl
 let e':Env:={e with w:=w1.alloc (.cells arr ty),φ:=fun n=>if n=nx then .at ⟨e.w.heap.size,0,cap,sz⟩ else e.φ n}
 have φn :∀nm,nm≠nx→e'.φ nm=e.φ nm:=fun nm h=>if_neg h
 have φx:e'.φ nx=.at ⟨e.w.heap.size,0,cap,sz⟩:=if_pos rfl
 have hH :∀n,upH H (rd++[(nx,none,some (sz,rows))]) n=if n=nx then some (sz,rows) else H n:=by
  intro n
  rw [lR,tN (fun x hx=>hpre x (by simp [hx])) hrd]
  rfl
 have hsize:e'.w.heap.size=e.w.heap.size+1:=by
  show (w1.alloc _).heap.size=_
  simp [hw]
 have keep :∀b,b<e.w.heap.size→e'.w.heap[b]?=e.w.heap[b]?:=fun b hb=>qCg hw hb
 have kp :∀L:List Nat,(∀b∈L,b<e.w.heap.size)→dI e e' A L:=fun L hL=>{
  num:=rfl
  fr:=fun m b h=>by cases m<;>exact h
  cells:=fun b _ o=>rfl
  φ:=fun nm hA=>.inl (φn nm (fun he=>hnA (he▸hA)))
  own:=fun b hb=>keep b (hL b hb)}
 have hother :∀nm row,nm≠nx→H nm=some row→uX e' nm row (Lf nm):=fun nm row hne hrow =>
  (hk.rh.row nm row hrow).keep (kp _ (fun b hb=>(hk.rh.blk nm (by simp [hrow]) b hb).1)) (φn nm hne) (hbh nm row hrow)
 refine xM (w':=e'.w) hr (k e' (fun n=>if n=nx then [e.w.heap.size] else Lf n) v' ?_ (hv e' φx))
 refine {num:=rfl,w0:=rfl,Fr:=rfl,Bo:=rfl,io:=hio,size:=by omega,keep:=fun b hb _=>keep b hb,φ:=?_,φF:=?_,rest:=?_,row:=?_,nodup:=?_,blk:=?_,dis:=?_,dead:=?_}
 ·intro nm hF
  exact φn nm (fun he=>hF (by simp [he]))
 ·intro nm _ hne
  exact .inl (φn nm (fun he=>hne (he▸hnone)))
 ·intro nm hF
  rw [hH,if_neg (fun he=>hF (by simp [he]))]
 ·intro nm row _ hrow
  rw [hH] at hrow
  by_cases hne:nm=nx
  ·subst hne
   rw [if_pos rfl] at hrow
   simp only [Option.some.injEq] at hrow
   subst hrow
   simp only [if_true]
   have hblk:e'.w.heap[e.w.heap.size]?=some (.cells arr ty (0,0)):=qJz hw
   unfold uX gI
   rw [φx]
   refine ⟨rfl,⟨hsz,hcap,arr,ty,hblk,by simpa using hroom⟩,[],?_,rfl⟩
   refine hZ (eK (kp [] (by simp)) hb hfl) (fun j hj=>?_)
   rw [zP hblk,Nat.zero_add]
   exact hc j hj
  ·rw [if_neg hne] at hrow
   simp only [if_neg hne]
   exact hother nm row hne hrow
 ·intro nm _ hne
  rw [hH] at hne
  by_cases he:nm=nx
  ·simp [he]
  ·rw [if_neg he] at hne
   simp only [if_neg he]
   exact hk.rh.nodup nm hne
 ·intro nm hF hne b hb
  rw [hH] at hne
  by_cases he:nm=nx
  ·simp only [if_pos he,wC6] at hb
   exact ⟨by omega,.inl (by omega)⟩
  ·rw [if_neg he] at hne
   simp only [if_neg he] at hb
   exact ⟨by have:=(hk.rh.blk nm hne b hb).1; omega,.inr ⟨nm,hF,hne,hb⟩⟩
 ·intro n m _ _ hn hm hne b hb1 hb2
  rw [hH] at hn hm
  by_cases h1:n=nx<;>by_cases h2:m=nx
  ·exact hne (h1.trans h2.symm)
  ·simp only [if_pos h1,if_neg h2,wC6] at hb1 hb2 hm
   have:=(hk.rh.blk m hm b hb2).1; omega
  ·simp only [if_pos h2,if_neg h1,wC6] at hb1 hb2 hn
   have:=(hk.rh.blk n hn b hb1).1; omega
  ·simp only [if_neg h1,if_neg h2] at hb1 hb2 hn hm
   exact hk.rh.dis n m hn hm hne b hb1 hb2
 ·intro nm _ hno
  rw [hH] at hno
  by_cases he:nm=nx
  ·simp [he] at hno
  ·rw [if_neg he] at hno
   rw [φn nm he]
   exact hk.rh.dead nm hno
section
variable {P:Program} {num:Nat→Nat} {o:Oper} {ρ:Nat→AV} {h:wT} {nx nx':Nat} {p:Prop} {v:AV} {fp:FP}
mutual
theorem qOh {A:Nat→Prop} :∀{d:AV} {v:Value},qAy d v=true→bnd A d
 | .agg ds,v,h=>by
  simp only [qAy] at h
  split at h
  ·exact zG h
  ·simp at h
 | .bool _,_,_ | .int _ _,_,_ | .str _,_,_ | .nil,_,_ | .nilp,_,_ | .nilI,_,_=>trivial
 | .any,_,h | .fn _ _,_,h | .ptr _ _ _,_,h | .fptr _ _ _,_,h | .ifc,_,h | .ns _ _ _,_,h | .sl _ _ _,_,h | .tup _,_,h=>by simp [qAy] at h
theorem zG {A:Nat→Prop} :∀{ds:List AV} {vs:List Value},pF ds vs=true→jK A ds
 | [],_,_=>trivial
 | d::ds,vs,h=>by
  cases vs with
  | nil=>simp [pF] at h
  | cons v vs =>
   simp only [pF,wBp] at h
   exact ⟨qOh h.1,zG h.2⟩
end
theorem uH {A:Nat→Prop} {x:Operand} {y:Arg} (ht :∀t,bnd A (ρ t)) (h:uT num x y=true):bnd A (y.ev ρ):=by
 cases y with
 | t n=>exact ht n
 | c d =>
  cases x with
  | tmp t=>simp [uT] at h
  | const v=>exact qOh h
  | global g=>simp [uT] at h
  | func f =>
   cases d with
   | fn g cap=>cases cap<;>simp [uT] at h; trivial
   | _=>simp [uT] at h
theorem aH {A:Nat→Prop} {v:AV} (h:bnd A v):jK A (cellsOf v):=by
 cases v<;>first | exact h | exact ⟨h,trivial⟩
theorem qSw {zero:List AV} (hc:wW P num (.alloc zero) o.op=true) (hp:wO ρ h nx (.alloc zero)=some (p,v,fp,nx')) (h0:p):Tri P num o ρ v fp:=by
 simp only [wW] at hc
 split at hc
 ·rename_i t hop
  obtain ⟨i,z,hi,hs,hz,hzv,hzo⟩:=uY hc
  simp only [wO,Option.some.injEq,Prod.mk.injEq] at hp
  obtain ⟨rfl,rfl,rfl,_⟩:=hp
  refine Tri.of_new (rd:=[]) (by simp) (by simp) ?_
  intro e L0 H Lf A a hn hk _ _ _ ht
  have hl:=yU (gY (e:=e) hzv)
  refine ⟨e.w,z.cells,t,1,z.cells.toList,.pointer (some ⟨e.w.heap.size,0,none⟩),?_,⟨rfl,gH.refl _⟩,⟨zG hzv,trivial⟩,?_,?_,h0,by simp,?_,?_⟩
  ·simp only [execOp,hop,Sem.run_bind,Instr.alloc,dW hi hz,Result.andThen_ok,newVar]
   rw [aB]
   rfl
  ·exact ⟨z.cells.toList,[],[],[],by simp,⟨rfl,hzo⟩,gY hzv,⟨rfl,rfl⟩,rfl⟩
  ·intro j _; simp
  ·simp at hl⊢; omega
  ·intro e' hφ
   simpa using qH5 (i:=0) (f:=0) hφ
 ·simp at hc
theorem qY2 {x:Arg} (hc:wW P num (.box x) o.op=true) (hp:wO ρ h nx (.box x)=some (p,v,fp,nx')) (hpp:p):Tri P num o ρ v fp:=by
 simp only [wW] at hc
 split at hc
 ·rename_i t y hop
  simp only [wO,Option.some.injEq,Prod.mk.injEq] at hp
  obtain ⟨rfl,rfl,rfl,_⟩:=hp
  obtain ⟨p1,p2⟩:=hpp
  refine Tri.of_new (rd:=[]) (by simp) (by simp) ?_
  intro e L0 H Lf A a hn hk _ hbt _ ht
  subst hn
  have g:=iP p1 (yF (ρ:=ρ) ht hc)
  have hl:=yU g
  refine ⟨e.w,(a.eval y).cells,t,1,(a.eval y).cells.toList,.pointer (some ⟨e.w.heap.size,0,none⟩),?_,⟨rfl,gH.refl _⟩,⟨aH (uH hbt hc),trivial⟩,?_,?_,p2,by simp,?_,?_⟩
  ·simp only [execOp,hop,Sem.run_bind,Instr.box,newVar]
   rw [aB]
   rfl
  ·exact ⟨(a.eval y).cells.toList,[],[],[],by simp,⟨rfl,p1⟩,g,⟨rfl,rfl⟩,rfl⟩
  ·intro j _; simp
  ·simp at hl⊢; omega
  ·intro e' hφ
   simpa using qH5 (i:=0) (f:=0) hφ
 ·simp at hc
end
end Go.Sep
namespace Go.Sep
set_option linter.unusedVariables false
set_option linter.unusedSimpArgs false
theorem qD2 {α:Type} (l:List α) :∀(n j:Nat),j<n*l.length→(wBj n l).flatten[j]?=l[j%l.length]?
 | 0,j,h=>by simp at h
 | n+1,j,h=>by
  rw [wC7,wC8]
  by_cases hj:j<l.length
  ·rw [wC4 hj,Nat.mod_eq_of_lt hj]
  ·rw [wBf (by omega),qD2 l n (j-l.length) (by rw [wBh] at h; omega)]
   have:j=(j-l.length)+l.length:=by omega
   conv=>rhs; rw [this,Nat.add_mod_right]
theorem qB8 {zc:Array Value} {n m:Nat} (hm:m=zc.size) (j:Nat) (hj:j<n*m):((Array.range (n*m)).map (zc[· % zc.size]!))[j]?=(wBj n zc.toList).flatten[j]?:=by
 subst hm
 have hpos:0<zc.size:=by
  rcases Nat.eq_zero_or_pos zc.size with h | h
  ·simp [h] at hj
  ·exact h
 have h1:=Nat.mod_lt j hpos
 rw [qD2 zc.toList n j (by simpa using hj)]
 simp [hj,h1]
theorem zE {e:Env} {sz:Nat} {z:List AV} {zc:List Value} (h:RVs e z zc []) (hs:z.length=sz∧z.all yS=true) :∀(n:Nat),vD e sz (wBj n z) (wBj n zc).flatten []
 | 0=>⟨rfl,rfl⟩
 | n+1=>by
  rw [wC7,wC7,wC8]
  exact ⟨zc,_,[],[],rfl,hs,h,zE h hs n,rfl⟩
theorem qK7 {e:Env} {sz:Nat} {r:List AV} {us:List Value} (hr:RVs e r us []) (hs:r.length=sz∧r.all yS=true) :∀{rows:List (List AV)} {vs:List Value} (i:Nat),i<rows.length→vD e sz rows vs []→
  vD e sz (rows.set i r) (vs.take (i*sz)++us++vs.drop (i*sz+us.length)) []
 | [],_,i,hi,_=>by simp at hi
 | q::rows,vs,i,hi,h=>by
  simp only [vD] at h
  obtain ⟨v1,v2,L1,L2,rfl,h1,h2,h3,h4⟩:=h
  obtain ⟨rfl,rfl⟩:=wY h4
  have hl:=yU h2
  have hu:=yU hr
  cases i with
  | zero =>
   simp only [List.set_cons_zero,vD]
   refine ⟨us,v2,[],[],?_,hs,hr,h3,rfl⟩
   rw [hu,hs.1,←h1.1,←hl]
   simp
  | succ i =>
   simp only [List.set_cons_succ,vD]
   refine ⟨v1,_,[],[],?_,h1,h2,qK7 hr hs i (by simpa using hi) h3,rfl⟩
   have e1:(i+1)*sz=v1.length+i*sz:=by rw [wBh]; omega
   rw [e1,List.take_append,List.drop_append,wBy (by omega),wBz (by omega)]
   have e2:v1.length+i*sz-v1.length=i*sz:=by omega
   have e3:v1.length+i*sz+us.length-v1.length=i*sz+us.length:=by omega
   rw [e2,e3]
   simp
section
variable {P:Program} {num:Nat→Nat} {o:Oper} {ρ:Nat→AV} {h:wT} {nx nx':Nat} {p:Prop} {v:AV} {fp:FP}
theorem qJd {e:Env} {a:Act} {sz n:Nat} (ht :∀t,RV e (ρ t) (a.tmps.getD t undef) []) :∀(parts:List (Nat×Arg)) (ps:List (Nat×Operand)) (rows:List (List AV)) (arr:Array Value),cV e.num ps parts=true→
   rG ρ n sz parts→rows.length=n→vD e sz rows arr.toList []→∃arr',Instr.fill (fun i=>some (i*sz,sz)) arr (ps.map fun x=>(x.1,a.eval x.2))=some arr'∧vD e sz (qAr ρ rows parts) arr'.toList []
 | [],ps,rows,arr,hc,_,_,h=>by
  cases ps with
  | nil=>exact ⟨arr,rfl,h⟩
  | cons=>simp [cV] at hc
 | (i,y)::parts,ps,rows,arr,hc,hf,hn,h=>by
  cases ps with
  | nil=>simp [cV] at hc
  | cons q ps =>
   obtain ⟨j,x⟩:=q
   simp only [cV,wBp,beq_iff_eq] at hc
   obtain ⟨⟨rfl,h2⟩,h3⟩:=hc
   simp only [rG] at hf
   obtain ⟨⟨f1,f2,f3⟩,f4⟩:=hf
   have g:=iP f3 (yF (ρ:=ρ) ht h2)
   have gl:=yU g
   have hl:=vF h
   have hmul:(j+1)*sz≤n*sz:=wC9 _ f1
   rw [wBh] at hmul
   have harr:arr.size=n*sz:=by rw [←hn]; simpa using hl
   have hus:(a.eval x).cells.toList.length=sz:=by omega
   have hs:=qDo arr (j*sz) (a.eval x).cells.toList (by rw [harr,hus]; omega)
   have hr:vD e sz (rows.set j (cellsOf (y.ev ρ))) (vU arr (j*sz) (a.eval x).cells.toList).toList []:=by
    rw [hs]
    exact qK7 g ⟨f2,f3⟩ j (by omega) h
   obtain ⟨arr',h6,h7⟩:=qJd ht parts ps _ _ h3 f4 (by simpa using hn) hr
   refine ⟨arr',?_,h7⟩
   simp only [wBm,Instr.fill]
   have hsz:(a.eval x).cells.size=sz:=by simpa using hus
   have hcond :¬(((a.eval x).cells.size≠sz||j*sz+(a.eval x).cells.size>arr.size)=true):=by
    simp [hsz,harr]; omega
   rw [if_neg hcond]
   have hz:(a.eval x).cells.zipIdx.foldl (fun cs (c,k)=>cs.setIfInBounds (j*sz+k) c) arr=vU arr (j*sz) (a.eval x).cells.toList:=by
    rw [←Array.foldl_toList,Array.toList_zipIdx,qD1]
    simp
   rw [hz]
   exact h6
theorem qC5 {A:Nat→Prop} (ht :∀t,bnd A (ρ t)) :∀(parts:List (Nat×Arg)) (ps:List (Nat×Operand)) (rows:List (List AV)),cV num ps parts=true→yW A rows→yW A (qAr ρ rows parts)
 | [],_,rows,_,hb=>hb
 | (i,y)::parts,ps,rows,hc,hb=>by
  cases ps with
  | nil=>simp [cV] at hc
  | cons q ps =>
   obtain ⟨j,x⟩:=q
   simp only [cV,wBp] at hc
   simp only [qAr]
   refine qC5 ht parts ps _ hc.2 ?_
   rw [yE] at hb⊢
   intro r hr
   rcases List.mem_or_eq_of_mem_set hr with h | h
   ·exact hb r h
   ·rw [h]; exact aH (uH ht hc.1.2)
theorem qAq {l:List (Nat×Arg)} :∀{rows:List (List AV)},(qAr ρ rows l).length=rows.length:=by
 induction l with
 | nil=>intro rows; rfl
 | cons x l ih=>obtain ⟨i,y⟩:=x; intro rows; simp [qAr,ih]
theorem xR {A:Nat→Prop} {z:List AV} (h:jK A z) (n:Nat):yW A (wBj n z):=by
 rw [yE]
 intro r hr
 rw [(List.mem_replicate.1 hr).2]
 exact h
theorem qR8 {e:Env} {nm len:Nat} {q:qH7} (hq:e.φ nm=.at q) (h0:q.off=0) (hl:len≤q.cap):RV e (.ns nm 0 len) (.slice (some ⟨q.block,0,none⟩) len q.cap) []:=by
 simp only [RV,hq,true_and]
 exact ⟨by omega,_,rfl,fun _=>by simp [h0]⟩
theorem qVf {zero:List AV} {len:Nat} {parts:List (Nat×Arg)} (hc:wW P num (.mkSl zero len parts) o.op=true) (hp:wO ρ h nx (.mkSl zero len parts)=some (p,v,fp,nx')) (hpp:p):Tri P num o ρ v fp:=by
 simp only [wW] at hc
 split at hc
 ·rename_i t l ps hop
  simp only [wBp,beq_iff_eq] at hc
  obtain ⟨rfl,hc⟩:=hc
  cases hel:bX P t with
  | none=>simp [hel] at hc
  | some el =>
   simp only [hel,wBp,decide_eq_true_eq] at hc
   obtain ⟨⟨⟨h1,h2⟩,h3⟩,h4⟩:=hc
   obtain ⟨i,z,hi,hs,hz,hzv,hzo⟩:=uY h1
   simp only [wO,Option.some.injEq,Prod.mk.injEq] at hp
   obtain ⟨rfl,rfl,rfl,_⟩:=hp
   refine Tri.of_new (rd:=[]) (by simp) (by simp) ?_
   intro e L0 H Lf A a hn hk _ hbt _ ht
   subst hn
   have hzl:=yU (gY (e:=e) hzv)
   have hzs:z.cells.size=zero.length:=by simpa using hzl
   have hf0:vD e zero.length (wBj l zero) ((Array.range (l*zero.length)).map (z.cells[· % z.cells.size]!)).toList []:=by
    have:=zE (e:=e) (gY hzv) ⟨rfl,hzo⟩ l
    have e1:((Array.range (l*zero.length)).map (z.cells[· % z.cells.size]!)).toList=(wBj l z.cells.toList).flatten:=by
     apply wC2
     intro j
     by_cases hj:j<l*zero.length
     ·rw [Array.getElem?_toList]
      exact qB8 hzs.symm j hj
     ·rw [wCa (by simp; omega),wCa (by simp [hzs]; omega)]
    rw [e1]
    exact this
   obtain ⟨arr',g1,g2⟩:=qJd (n:=l) ht parts ps.toList _ _ h4 hpp (by simp) hf0
   have hl2:=vF g2
   rw [qAq] at hl2
   simp only [List.length_replicate,Array.length_toList] at hl2
   refine ⟨e.w,arr',el,l,arr'.toList,.slice (some ⟨e.w.heap.size,0,none⟩) l l,?_,⟨rfl,gH.refl _⟩,qC5 hbt parts ps.toList _ h4 (xR (zG hzv) l),g2,?_,h2,?_,?_,?_⟩
   ·simp only [execOp,hop,Sem.run_bind,Instr.buildSlice,wM (dG hel),Result.andThen_ok,uM hi,hs]
    rw [if_neg (by omega)]
    have e2:(ps.map fun (i,x)=>(i,a.eval x)).toList=ps.toList.map fun x=>(x.1,a.eval x.2):=by simp
    by_cases hl0:l*zero.length=0
    ·rw [if_pos hl0,e2]
     have hl1:l=0:=by rcases Nat.mul_eq_zero.1 hl0 with h | h<;>omega
     simp only [hl0] at g1
     simp only [Sem.run_bind,Sem.run_pure,Result.andThen_ok,hl0]
     have e3:(Array.range 0).map (fun x=>(#[]:Array Value)[x%(#[]:Array Value).size]!)=(Array.range 0).map (z.cells[· % z.cells.size]!):=by simp
     rw [e3,g1]
     simp only [Sem.run_bind]
     rw [aB]
     rfl
    ·rw [if_neg hl0,e2]
     simp only [Sem.run_bind,dW hi hz,Result.andThen_ok,Sem.run_pure]
     rw [g1]
     simp only [Sem.run_bind]
     rw [aB]
     rfl
   ·intro j _; simp
   ·simp [qAq]
   ·omega
   ·intro e' hφ
    exact qR8 hφ rfl (wBo _)
 ·simp at hc
theorem qPb {n:Int} (h0:0≤n) (h1:n≤2^47):IntKind.i64.wrap n=n:=by
 unfold IntKind.wrap
 simp only [IntKind.bits,IntKind.signed]
 have:n%(2^64:Int)=n:=Int.emod_eq_of_lt h0 (by omega)
 simp only [this]
 rw [if_neg]
 simp
 omega
theorem qY0 {zero:List AV} {bytes:Nat} {l c:Arg} (hc:wW P num (.mkS zero bytes l c) o.op=true) (hp:wO ρ h nx (.mkS zero bytes l c)=some (p,v,fp,nx')) (hpp:p):Tri P num o ρ v fp:=by
 simp only [wW] at hc
 split at hc
 ·rename_i t l' c' hop
  simp only [wBp] at hc
  obtain ⟨⟨h1,h2⟩,hc⟩:=hc
  cases hel:bX P t with
  | none=>simp [hel] at hc
  | some el =>
   simp only [hel,wBp,decide_eq_true_eq] at hc
   obtain ⟨⟨h3,h4⟩,h5⟩:=hc
   obtain ⟨i,z,hi,hs,hz,hzv,hzo⟩:=uY h3
   obtain ⟨i',hi',hb⟩:=qB1 h5
   rw [hi] at hi'
   simp only [Option.some.injEq] at hi'
   subst hi'
   simp only [wO] at hp
   split at hp
   ·rename_i m n hx hy
    simp only [Option.some.injEq,Prod.mk.injEq] at hp
    obtain ⟨rfl,rfl,rfl,_⟩:=hp
    obtain ⟨rfl,p2,p3,p4⟩:=hpp
    refine Tri.of_new (rd:=[]) (by simp) (by simp) ?_
    intro e L0 H Lf A a hn hk _ hbt _ ht
    subst hn
    have hzl:=yU (gY (e:=e) hzv)
    have hzs:z.cells.size=zero.length:=by simpa using hzl
    have g1:=yF (ρ:=ρ) ht h1
    rw [hx] at g1
    have g2:=yF (ρ:=ρ) ht h2
    rw [hy] at g2
    have e1:=aD g1
    have e2:=aD g2
    refine ⟨e.w,(Array.range (m.toNat*zero.length)).map (z.cells[· % z.cells.size]!),el,m.toNat,(wBj m.toNat z.cells.toList).flatten,.slice (some ⟨e.w.heap.size,0,none⟩) m.toNat m.toNat,?_,⟨rfl,gH.refl _⟩,xR (zG hzv) _,
     zE (gY hzv) ⟨rfl,hzo⟩ _,?_,h4,by simp,by simp,?_⟩
    ·simp only [execOp,hop,Sem.run_bind,Instr.makeSlice,wM (dG hel),Result.andThen_ok,e1,e2,asInt,asIntOf,Sem.run_pure,zF hi,hb]
     have w1:=qPb p2 p4
     simp only [w1]
     have t0:(decide (m<0)||decide ((bytes:Int)*m>2^48))=false:=by
      simp
      omega
     have t1 :¬((((decide (m<0)||decide ((bytes:Int)*m>2^48))||decide (m<0))||decide (m>m))=true):=by
      rw [t0]; simp; omega
     rw [if_neg t1]
     simp only [Sem.run_bind,run_askRoom,Result.andThen_ok,uM hi,hs]
     by_cases hl0:m.toNat*zero.length=0
     ·rw [if_pos hl0]
      simp only [Sem.run_bind,Sem.run_pure,Result.andThen_ok,hl0]
      rw [aB]
      simp only [Result.andThen_ok]
      have e3:(Array.range 0).map (fun x=>(#[]:Array Value)[x%(#[]:Array Value).size]!)=(Array.range 0).map (z.cells[· % z.cells.size]!):=by simp
      rw [e3]
     ·rw [if_neg hl0]
      simp only [Sem.run_bind,dW hi hz,Result.andThen_ok,Sem.run_pure]
      rw [aB]
      rfl
    ·intro j hj
     refine qB8 hzs.symm j ?_
     have:=vF (zE (e:=e) (gY hzv) ⟨rfl,hzo⟩ m.toNat)
     rw [this] at hj
     simpa using hj
    ·intro e' hφ
     exact qR8 hφ rfl (wBo _)
   ·simp at hp
 ·simp at hc
end
end Go.Sep
namespace Go.Sep
set_option linter.unusedVariables false
set_option linter.unusedSimpArgs false
def iX (sz:Nat):Value→vG
 | .slice (some a) _ c=>if c=0 then .nilp else .at ⟨a.block,a.off,c,sz⟩
 | _=>.nilp
theorem eX :∀(l:List AV) (n:Nat),n≤(yX n l).2.2∧∀x∈(yX n l).2.1,n≤x.1∧x.1<(yX n l).2.2
 | [],n=>by simp [yX]
 | v::l,n=>by
  have h0:=eX l n
  have h1:=eX l (n+1)
  cases v
  case sl m sz rows =>
   cases m
   ·simp only [yX]
    refine ⟨by omega,fun x hx=>?_⟩
    rcases List.mem_cons.1 hx with rfl | hx
    ·exact ⟨wBo _,by show n<_; omega⟩
    ·have:=h1.2 x hx; omega
   all_goals simpa only [yX] using h0
  all_goals simpa only [yX] using h0
theorem oF :∀(l:List AV) (n:Nat),((yX n l).2.1.map (·.1)).Nodup
 | [],n=>by simp [yX]
 | v::l,n=>by
  have h0:=oF l n
  have h1:=oF l (n+1)
  cases v
  case sl m sz rows =>
   cases m
   ·simp only [yX,wBm,wCb]
    refine ⟨?_,h1⟩
    intro hm
    obtain ⟨x,hx,hxn⟩:=List.mem_map.1 hm
    have:=(eX l (n+1)).2 x hx
    omega
   all_goals simpa only [yX] using h0
  all_goals simpa only [yX] using h0
theorem mB :∀(l:List AV) (n:Nat),(yX n l).1.length=l.length
 | [],n=>rfl
 | v::l,n=>by
  cases v
  case sl m sz rows=>cases m<;>simp [yX,mB l]
  all_goals simp [yX,mB l]
theorem qFh :∀(l:List AV) (n:Nat),l.all yS=true→(yX n l).1.all yS=true
 | [],n,_=>rfl
 | v::l,n,h=>by
  simp only [wC1,wBp] at h
  cases v
  case sl m sz rows=>cases m<;>simp [yX,qFh l _ h.2]<;>rfl
  all_goals (simp only [yX,wC1,qFh l _ h.2,Bool.and_true]; exact h.1)
theorem sQ :∀(l:List AV) (n:Nat),(yX n l).2.1=[]→(yX n l).1=l
 | [],n,_=>rfl
 | v::l,n,h=>by
  cases v
  case sl m sz rows =>
   cases m
   ·simp [yX] at h
   all_goals (simp only [yX] at h⊢; rw [sQ l n h])
  all_goals (simp only [yX] at h⊢; rw [sQ l n h])
theorem qCa {e:Env} {v:AV} {c:Value} {L:List Nat} (hv:yS v=true) (hs :∀sz rows,v≠.sl .own sz rows) (h:RV e v c L):L=[]:=by
 cases v
 case sl m sz rows =>
  cases m
  ·exact absurd rfl (hs sz rows)
  all_goals (simp only [RV] at h; exact h.1)
 case agg=>simp [yS] at hv
 case tup=>simp [yS] at hv
 all_goals simp only [RV] at h
 case any=>exact h
 case fn=>obtain ⟨_,_,_,h⟩:=h; exact h
 all_goals first | exact h.2 | exact h.1
theorem qN3 {e:Env} {sz:Nat} {rows:List (List AV)} {c:Value} {L:List Nat} (h:RV e (.sl .own sz rows) c L):gI e (iX sz c) (sz,rows) L∧
  (∀e':Env,∀n,e'.φ n=iX sz c→RV e' (.ns n 0 rows.length) c []):=by
 simp only [RV] at h
 rcases h with ⟨rfl,rfl,a,rfl⟩ | ⟨p,Lr,⟨rfl,hc⟩,rfl,h2,h3,rfl⟩
 ·have hs:iX sz (.slice a 0 0)=.nilp:=by cases a<;>simp [iX]
  rw [hs]
  refine ⟨⟨rfl,rfl⟩,fun e' n hφ=>?_⟩
  simp only [RV,hφ,wBg,true_and]
  exact ⟨a,rfl⟩
 ·have hs:iX p.sz (.slice (some ⟨p.block,p.off,none⟩) rows.length p.cap)=.at ⟨p.block,p.off,p.cap,p.sz⟩:=by
   simp only [iX]
   rw [if_neg (by omega)]
  rw [hs]
  refine ⟨⟨rfl,h2,Lr,h3,rfl⟩,fun e' n hφ=>?_⟩
  simp only [RV,hφ,true_and]
  exact ⟨by simpa using h2.2.1,_,rfl,fun _=>by simp⟩
theorem gI.keep {e e':Env} {A:Nat→Prop} {s:vG} {row:Row} {L:List Nat} (k:dI e e' A L) (hb:yW A row.2) (h:gI e s row L):gI e' s row L:=by
 unfold gI at h⊢
 cases s with
 | dead=>exact h
 | nilp=>exact h
 | «at» p =>
  obtain ⟨h0,h1,Lr,h2,rfl⟩:=h
  exact ⟨h0,h1.keep (k.own _ (by simp)),Lr,uJ row.2 (k.sub (by simp +contextual)) hb (fun _ o=>uZ (k.own _ (by simp)) o) h2,rfl⟩
theorem lZ {e:Env} {A:Nat→Prop} :∀(l:List AV) (vs:List Value) (L:List Nat) (n:Nat),RVs e l vs L→l.all yS=true→jK A l→
  ∃S:List (Nat×vG×List Nat),S.map (·.1)=(yX n l).2.1.map (·.1)∧L=S.flatMap (·.2.2)∧
   ∀e',(∀x∈S,e'.φ x.1=x.2.1)→dI e e' A L→RVs e' (yX n l).1 vs []∧∀x∈S,∀row,(x.1,row)∈(yX n l).2.1→gI e' x.2.1 row x.2.2
 | [],vs,L,n,h,_,_=>by
  simp only [RVs] at h
  obtain ⟨rfl,rfl⟩:=h
  exact ⟨[],rfl,rfl,fun e' _ _=>⟨by simp [yX,RVs],by simp⟩⟩
 | v::l,vs,L,n,h,hok,hb=>by
  simp only [RVs] at h
  obtain ⟨c,vs',L1,L2,rfl,h1,h2,rfl⟩:=h
  simp only [wC1,wBp] at hok
  by_cases hv :∃sz rows,v=.sl .own sz rows
  ·obtain ⟨sz,rows,rfl⟩:=hv
   obtain ⟨S,s1,s2,s3⟩:=lZ l vs' L2 (n+1) h2 hok.2 hb.2
   obtain ⟨o1,o2⟩:=qN3 h1
   refine ⟨(n,iX sz c,L1)::S,by simp [yX,s1],by simp [s2],fun e' he hk=>?_⟩
   obtain ⟨g1,g2⟩:=s3 e' (fun x hx=>he x (by simp [hx])) (hk.sub (by simp +contextual))
   refine ⟨?_,fun x hx row hr=>?_⟩
   ·simp only [yX,RVs]
    exact ⟨c,vs',[],[],rfl,o2 e' n (he (n,iX sz c,L1) (by simp)),g1,rfl⟩
   ·simp only [yX] at hr
    rcases List.mem_cons.1 hx with rfl | hx
    ·rcases List.mem_cons.1 hr with hr | hr
     ·simp only [Prod.mk.injEq,true_and] at hr
      subst hr
      exact o1.keep (hk.sub (by simp +contextual)) hb.1
     ·have:=((eX l (n+1)).2 _ hr).1
      simp at this; omega
    ·rcases List.mem_cons.1 hr with hr | hr
     ·have hm:x.1∈S.map (·.1):=List.mem_map.2 ⟨x,hx,rfl⟩
      rw [s1] at hm
      obtain ⟨y,hy,hyx⟩:=List.mem_map.1 hm
      have:=((eX l (n+1)).2 y hy).1
      simp only [Prod.mk.injEq] at hr
      omega
     ·exact g2 x hx row hr
  ·have hf:=qCa hok.1 (fun sz rows he=>hv ⟨sz,rows,he⟩) h1
   subst hf
   have ho:yX n (v::l)=(v::(yX n l).1,(yX n l).2.1,(yX n l).2.2):=by
    cases v
    case sl m sz rows =>
     cases m
     ·exact absurd ⟨_,_,rfl⟩ hv
     all_goals rfl
    all_goals rfl
   rw [ho]
   obtain ⟨S,s1,s2,s3⟩:=lZ l vs' L2 n h2 hok.2 hb.2
   refine ⟨S,s1,by simpa using s2,fun e' he hk=>?_⟩
   obtain ⟨g1,g2⟩:=s3 e' he (hk.sub (by simp +contextual))
   refine ⟨?_,g2⟩
   simp only [RVs]
   exact ⟨c,vs',[],[],rfl,iS v (hk.sub (by simp)) hb.1 h1,g1,rfl⟩
theorem tI {e:Env} {r:List AV} {vs:List Value} {L:List Nat} (f n:Nat) (h:RVs e r vs L) (hf:f+n≤r.length) :
  ∃La Lm Lc,L=La++(Lm++Lc)∧RVs e (r.take f) (vs.take f) La∧RVs e ((r.drop f).take n) ((vs.drop f).take n) Lm∧RVs e (r.drop (f+n)) (vs.drop (f+n)) Lc:=by
 have h0:r=r.take f++((r.drop f).take n++r.drop (f+n)):=by
  rw [←wCc,wBv,wBv]
 rw [h0] at h
 obtain ⟨c1,c2,La,L2,h1,h2,h3,h4⟩:=(uI _ _).1 h
 obtain ⟨c3,c4,Lm,Lc,h5,h6,h7,h8⟩:=(uI _ _).1 h4
 have l1:=yU h3
 have l2:=yU h7
 rw [wBi,wBe (by omega)] at l1
 rw [wBi,wCd,wBe (by omega)] at l2
 subst h5
 subst h1
 refine ⟨La,Lm,Lc,by rw [h2,h6],?_,?_,?_⟩
 ·rw [wBw l1]; exact h3
 ·rw [wBx l1,wBw l2]; exact h7
 ·have:List.drop (f+n) (c1++(c3++c4))=c4:=by rw [←wCc,wBx l1,wBx l2]
  rw [this]; exact h8
mutual
theorem qB3 :∀(v:AV),bnd (fun _=>True) v
 | .fn _ cap=>fE cap
 | .fptr _ cells _=>fE cells
 | .sl _ _ rows=>rL rows
 | .agg cs=>fE cs
 | .tup cs=>fE cs
 | .ptr _ _ _ | .ns _ _ _ | .any | .int _ _ | .bool _ | .str _ | .nilp | .nil | .nilI | .ifc=>trivial
theorem fE :∀(l:List AV),jK (fun _=>True) l
 | []=>trivial
 | c::cs=>⟨qB3 c,fE cs⟩
theorem rL :∀(l:List (List AV)),yW (fun _=>True) l
 | []=>trivial
 | c::cs=>⟨fE c,rL cs⟩
end
theorem iJ {α β:Type} {f:α→List β} {l:List α} {x:α} (h:(l.flatMap f).Nodup) (hx:x∈l):(f x).Nodup:=by
 induction l with
 | nil=>simp at hx
 | cons y l ih =>
  rw [wCe,wCf] at h
  rcases List.mem_cons.1 hx with rfl | hx
  ·exact h.1
  ·exact ih h.2.1 hx
theorem sA {α β:Type} {f:α→List β} {l:List α} {x y:α} {b:β} (h:(l.flatMap f).Nodup) (hx:x∈l) (hy:y∈l) (hne:x≠y) (h1:b∈f x) (h2:b∈f y):False:=by
 induction l with
 | nil=>simp at hx
 | cons z l ih =>
  rw [wCe,wCf] at h
  rcases List.mem_cons.1 hx with ex | hx'<;>rcases List.mem_cons.1 hy with ey | hy'
  ·exact hne (ex.trans ey.symm)
  ·exact h.2.2 b (ex▸h1) b (List.mem_flatMap.2 ⟨y,hy',h2⟩) rfl
  ·exact h.2.2 b (ey▸h2) b (List.mem_flatMap.2 ⟨x,hx',h1⟩) rfl
  ·exact ih h.2.1 hx' hy'
section
variable {P:Program} {num:Nat→Nat} {o:Oper} {ρ:Nat→AV} {h:wT} {nx nx':Nat} {p:Prop} {v:AV} {fp:FP}
theorem fU {α:Type} {l:List α} {i:Nat} {d:α} (h:i<l.length):l.getD i d=l[i]:=by
 simp [wBr,h]
theorem qGw {e:Env} {q:qH7} {row:Row} {i f n:Nat} {Lr:List Nat} (hq:q.sz=row.1) (hr:yM e e.w q.block q.off q.sz row.2 Lr) (hi:i<row.2.length) (hf:f+n≤(row.2.getD i []).length) :
  ∃vs L1 L2 L3,((row.2.getD i []).length=q.sz∧(row.2.getD i []).all yS=true)∧vs.length=q.sz∧(∀j,j<q.sz→e.w.cell? ⟨q.block,q.off+i*q.sz+j,none⟩=vs[j]?)∧RVs e (row.2.getD i []) vs L2∧
   yM e e.w q.block q.off q.sz (row.2.take i) L1∧yM e e.w q.block (q.off+(i+1)*q.sz) q.sz (row.2.drop (i+1)) L3∧Lr=L1++(L2++L3)∧
   ((vs.drop f).take n).length=n∧(∀j,j<n→e.w.cell? ⟨q.block,q.off+i*q.sz+f+j,none⟩=((vs.drop f).take n)[j]?):=by
 obtain ⟨vs,L1,L2,L3,h1,h2,h3,h4,h5,h6,h7⟩:=cH i hi hr
 rw [fU hi] at hf⊢
 refine ⟨vs,L1,L2,L3,h1,h2,h3,h4,h5,h6,h7,by simp; omega,fun j hj=>?_⟩
 rw [show q.off+i*q.sz+f+j=q.off+i*q.sz+(f+j) by omega,h3 _ (by omega)]
 simp [hj]
theorem qEq {n:Nat} {ag:Bool} {x:Arg} {m:Mode} {cells:List AV} {f:Nat} (hc:wW P num (.load n ag x) o.op=true) (hx:x.ev ρ=.fptr m cells f) (hf:f+n≤cells.length) :
  aV P num o ρ (if ag then .agg ((cells.drop f).take n) else ((cells.drop f).take n).getD 0 .any) []:=by
 simp only [wW] at hc
 split at hc
 ·rename_i t y hop
  simp only [wBp,wC0,beq_iff_eq] at hc
  obtain ⟨⟨⟨h1,h2⟩,h3⟩,h4⟩:=hc
  obtain ⟨i,hi,hs⟩:=dD h2
  refine Tri.of_read (by simp) ?_
  intro e L0 H Lf a hn hk _ ht
  subst hn
  have g:=yF (ρ:=ρ) ht h1
  rw [hx] at g
  simp only [RV] at g
  obtain ⟨_,b,o',vs,g1,g2,g3,g4,g5⟩:=g
  have hl:((vs.drop f).take n).length=i.size:=by rw [hs]; simp; omega
  have hcell :∀w',nL e [] w'→∀j,j<i.size→w'.cell? ⟨b,o'+f+j,none⟩=((vs.drop f).take n)[j]?:=by
   intro w' hw' j hj
   rw [hw'.1 b (Env.frozen_or g2),hk.frozen_cell (Env.frozen_or g2),wBq,g4 _ (by omega)]
   simp [show j<n by omega]
  have hrv:=qH2 n (qH3 f g5)
  refine ⟨if ag then .agg ((vs.drop f).take n).toArray else ((vs.drop f).take n).getD 0 undef,?_,?_⟩
  ·intro w' hw'
   simp only [execOp,hop,g1,Sem.run_bind,Instr.loadAt,Instr.sureAddr,Sem.run_pure,Result.andThen_ok]
   rw [nU h3 hi (fun ha=>by rcases h4 with h4 | h4<;>simp_all) hl (hcell w' hw')]
   rfl
  ·cases ag with
   | true=>simp only [if_true,RV]; exact ⟨_,rfl,hrv⟩
   | false =>
    simp at h4
    subst h4
    simp only [wBl,if_false]
    obtain ⟨c,r1,r2⟩:=cG hrv 0 (by simp; omega)
    have e1:((vs.drop f).take 1).getD 0 undef=c:=by rw [wBr,r1]; rfl
    rw [e1,fU (by simp; omega)]
    exact r2
 ·simp at hc
theorem qCq {w:World} {a:Act} {n:Nat} {ag:Bool} {y:Operand} {t:TypeId} {i:TypeInfo} {b o':Nat} {vs:List Value} (hop:o.op=.load t y) (hi:P.info? t=some i) (hs:i.size=n) (h3:qDx P t=some ag) (h4:ag=true∨n=1)
  (hy:a.eval y=.pointer (some ⟨b,o',none⟩)) (hl:vs.length=n) (hcell :∀j,j<n→w.cell? ⟨b,o'+j,none⟩=vs[j]?) :
  (execOp a.eval o).run P w=.ok (.value (if ag then .agg vs.toArray else vs.getD 0 undef)) w:=by
 subst hs
 simp only [execOp,hop,hy,Sem.run_bind,Instr.loadAt,Instr.sureAddr,Sem.run_pure,Result.andThen_ok]
 rw [nU h3 hi (fun ha=>by rcases h4 with h4 | h4<;>simp_all) hl hcell]
 rfl
theorem qCi {e:Env} {n:Nat} {ag:Bool} {cs:List AV} {vs:List Value} (h4:ag=true∨n=1) (hl:cs.length=n) (h:RVs e cs vs []) :
  RV e (if ag then .agg cs else cs.getD 0 .any) (if ag then .agg vs.toArray else vs.getD 0 undef) []:=by
 cases ag with
 | true=>simp only [if_true,RV]; exact ⟨_,rfl,h⟩
 | false =>
  simp at h4
  subst h4
  simp only [wBl,if_false]
  obtain ⟨c,r1,r2⟩:=cG h 0 (by omega)
  have e1:vs.getD 0 undef=c:=by rw [wBr,r1]; rfl
  rw [e1,fU (by omega)]
  exact r2
theorem bY {H:Nat→Option Row} :∀{l:List (Nat×Row)} {n:Nat},(l.map (·.1)).Nodup→(∀row,(n,row)∈l→upH H (fresh l) n=some row)∧(n∉l.map (·.1)→upH H (fresh l) n=H n)
 | [],n,_=>⟨by simp,fun _=>rfl⟩
 | (m,r)::l,n,hnd=>by
  simp only [wBm,wCb] at hnd
  have ih:=bY (H:=fun k=>if k=m then some r else H k) (l:=l) (n:=n) hnd.2
  refine ⟨fun row hr=>?_,fun hn=>?_⟩
  ·show upH _ (fresh l) n=_
   rcases List.mem_cons.1 hr with hr | hr
   ·simp only [Prod.mk.injEq] at hr
    obtain ⟨rfl,rfl⟩:=hr
    rw [ih.2 hnd.1,if_pos rfl]
   ·exact ih.1 row hr
  ·simp only [wBm,wBn,not_or] at hn
   show upH _ (fresh l) n=_
   rw [ih.2 hn.2,if_neg hn.1]
def iY (S:List (Nat×vG×List Nat)) (φ:Nat→vG) (n:Nat):vG:=match S.find? (·.1==n) with
 | some x=>x.2.1
 | none=>φ n
def pI (S:List (Nat×vG×List Nat)) (Lf:Nat→List Nat) (n:Nat):List Nat:=match S.find? (·.1==n) with
 | some x=>x.2.2
 | none=>Lf n
theorem qAp {S:List (Nat×vG×List Nat)} (hnd:(S.map (·.1)).Nodup) {x:Nat×vG×List Nat} (hx:x∈S):S.find? (·.1==x.1)=some x:=by
 induction S with
 | nil=>simp at hx
 | cons y S ih =>
  simp only [wBm,wCb] at hnd
  rcases List.mem_cons.1 hx with rfl | hx
  ·simp
  ·have:y.1≠x.1:=fun he=>hnd.1 (List.mem_map.2 ⟨x,hx,he.symm⟩)
   simp [this,ih hnd.2 hx]
theorem qC4 {S:List (Nat×vG×List Nat)} {n:Nat} (h:n∉S.map (·.1)):S.find? (·.1==n)=none:=by
 rw [List.find?_eq_none]
 intro x hx
 simp
 exact fun he=>h (List.mem_map.2 ⟨x,hx,he⟩)
theorem qEp {n:Nat} {ag:Bool} {x:Arg} {nm i f:Nat} {row:Row} (hc:wW P num (.load n ag x) o.op=true) (hx:x.ev ρ=.ptr nm i f) (hi:i<row.2.length) (hf:f+n≤(row.2.getD i []).length) :
  aV P num o ρ (if ag then .agg (yX nx (((row.2.getD i []).drop f).take n)).1 else (yX nx (((row.2.getD i []).drop f).take n)).1.getD 0 .any)
   ((nm,some row,some (if (yX nx (((row.2.getD i []).drop f).take n)).2.1.isEmpty then row else (row.1,row.2.set i (gF (row.2.getD i []) f (yX nx (((row.2.getD i []).drop f).take n)).1))))::fresh (yX nx (((row.2.getD i []).drop f).take n)).2.1):=by
 simp only [wW] at hc
 split at hc
 ·rename_i t y hop
  simp only [wBp,wC0,beq_iff_eq] at hc
  obtain ⟨⟨⟨h1,h2⟩,h3⟩,h4⟩:=hc
  obtain ⟨ti,hti,hs⟩:=dD h2
  generalize hol:yX nx (((row.2.getD i []).drop f).take n)=ol
  have hlen0:(((row.2.getD i []).drop f).take n).length=n:=by rw [wBi,wCd]; omega
  have olen:ol.1.length=n:=by rw [←hol,mB,hlen0]
  by_cases hno:ol.2.1=[]
  ·rw [hno]
   have h5:ol.1=((row.2.getD i []).drop f).take n:=by rw [←hol]; exact sQ _ _ (by rw [hol]; exact hno)
   simp only [List.isEmpty_nil,if_true]
   refine Tri.of_read (by simp [fresh]) ?_
   intro e L0 H Lf a hn hk hpre ht
   subst hn
   have hr:=hk.rh.row nm row (hpre (nm,some row,some row) (by simp [fresh]))
   have g:=yF (ρ:=ρ) ht h1
   rw [hx] at g
   obtain ⟨q,hq,g2⟩:=sM hr g
   have hr':=hr
   unfold uX gI at hr'
   rw [hq] at hr'
   obtain ⟨q1,q2,Lr,q3,q4⟩:=hr'
   obtain ⟨vs,L1,L2,L3,r1,r2,r3,r4,r5,r6,r7,r8,r9⟩:=qGw q1 q3 hi hf
   refine ⟨_,fun w' hw'=>qCq hop hti hs h3 h4 g2 r8 (fun j hj=>by rw [uZ (hw'.2 (nm,some row,some row) (by simp [fresh]) q hq)]; exact r9 j hj),qCi h4 olen ?_⟩
   obtain ⟨La,Lm,Lc,s1,s2,s3,s4⟩:=tI f n r4 hf
   have hall:(((row.2.getD i []).drop f).take n).all yS=true:=List.all_eq_true.2 fun c hc=>List.all_eq_true.1 r1.2 c (wCg (wCh hc))
   obtain ⟨S,t1,t2,t3⟩:=lZ (A:=fun _=>True) _ _ _ nx s3 hall (jV.2 fun c _=>qB3 c)
   have hS:S=[]:=by
    have:(yX nx (((row.2.getD i []).drop f).take n)).2.1=[]:=by rw [hol]; exact hno
    rw [this] at t1
    simpa using t1
   subst hS
   rw [h5]
   simp only [List.flatMap_nil] at t2
   subst t2
   exact s3
  ·have hne:ol.2.1.isEmpty=false:=by cases h:ol.2.1 with | nil=>exact absurd h hno | cons=>rfl
   simp only [hne,wBl,if_false]
   intro e L0 H Lf A a hn hk hpre hbt hbh hfr ht
   subst hn
   have hrow:H nm=some row:=hpre _ wCi
   have hr:=hk.rh.row nm row hrow
   have g:=yF (ρ:=ρ) ht h1
   rw [hx] at g
   obtain ⟨q,hq,g2⟩:=sM hr g
   have hr':=hr
   unfold uX gI at hr'
   rw [hq] at hr'
   obtain ⟨q1,q2,Lr,q3,q4⟩:=hr'
   obtain ⟨vs,L1,L2,L3,r1,r2,r3,r4,r5,r6,r7,r8,r9⟩:=qGw q1 q3 hi hf
   obtain ⟨La,Lm,Lc,s1,s2,s3,s4⟩:=tI f n r4 hf
   have hrb:=hbh nm row hrow
   have hrb1:jK A (row.2.getD i []):=by rw [fU hi]; exact yE.1 hrb _ (wCj hi)
   have hall:(((row.2.getD i []).drop f).take n).all yS=true:=List.all_eq_true.2 fun c hc=>List.all_eq_true.1 r1.2 c (wCg (wCh hc))
   obtain ⟨S,t1,t2,t3⟩:=lZ (A:=A) _ _ _ nx s3 hall (jV.2 fun c hc=>jV.1 hrb1 c (wCg (wCh hc)))
   rw [hol] at t1 t3
   have nd:(ol.2.1.map (·.1)).Nodup:=by rw [←hol]; exact oF _ _
   have ndS:(S.map (·.1)).Nodup:=by rw [t1]; exact nd
   have hfresh :∀m,m∈ol.2.1.map (·.1)→H m=none∧¬A m:=by
    intro m hm
    obtain ⟨y',hy,rfl⟩:=List.mem_map.1 hm
    have hmem:(y'.1,none,some y'.2)∈fresh ol.2.1:=List.mem_map.2 ⟨y',hy,rfl⟩
    exact ⟨hpre _ (wCk _ hmem),hfr _ (wCk _ hmem) rfl⟩
   have hnmS:nm∉ol.2.1.map (·.1):=fun hm=>by have:=(hfresh nm hm).1; rw [hrow] at this; simp at this
   let e':Env:={e with φ:=iY S e.φ}
   have φS :∀z∈S,e'.φ z.1=z.2.1:=fun z hz=>by show iY S e.φ z.1=_; unfold iY; rw [qAp ndS hz]
   have φn :∀m,m∉S.map (·.1)→e'.φ m=e.φ m:=fun m hm=>by show iY S e.φ m=_; unfold iY; rw [qC4 hm]
   have kp :∀L,dI e e' A L:=fun L=>{
    num:=rfl
    fr:=fun m b h=>by cases m<;>exact h
    cells:=fun b _ o=>rfl
    φ:=fun m hA=>.inl (φn m (fun hm=>(hfresh m (by rw [←t1]; exact hm)).2 hA))
    own:=fun b _=>rfl}
   obtain ⟨u1,u2⟩:=t3 e' φS (kp _)
   let Lf':Nat→List Nat:=fun m=>if m=nm then q.block::(L1++((La++Lc)++L3)) else pI S Lf m
   have LfS :∀z∈S,Lf' z.1=z.2.2:=fun z hz=>by
    have hz1:z.1≠nm:=fun he=>hnmS (by rw [←t1]; exact List.mem_map.2 ⟨z,hz,he⟩)
    show (if z.1=nm then _ else pI S Lf z.1)=_
    rw [if_neg hz1]; unfold pI; rw [qAp ndS hz]
   have LfN:Lf' nm=q.block::(L1++((La++Lc)++L3)):=if_pos rfl
   have hLf:Lf nm=q.block::(L1++((La++(Lm++Lc))++L3)):=by rw [q4,r7,s1]
   have hnd:=hk.rh.nodup nm (by simp [hrow])
   rw [hLf] at hnd
   have hblk:=hk.rh.blk nm (by simp [hrow])
   rw [hLf] at hblk
   have subLm :∀z∈S,∀b∈z.2.2,b∈Lm:=fun z hz b hb=>by rw [t2]; exact List.mem_flatMap.2 ⟨z,hz,hb⟩
   have hH :∀m,upH H ((nm,some row,some (row.1,row.2.set i (gF (row.2.getD i []) f ol.1)))::fresh ol.2.1) m=if m=nm then some (row.1,row.2.set i (gF (row.2.getD i []) f ol.1)) else upH H (fresh ol.2.1) m:=by
    intro m
    show upH (fun k=>if k=nm then _ else H k) (fresh ol.2.1) m=_
    by_cases hm:m∈ol.2.1.map (·.1)
    ·obtain ⟨y',hy,rfl⟩:=List.mem_map.1 hm
     have hne':y'.1≠nm:=fun he=>hnmS (he▸hm)
     rw [(bY nd).1 y'.2 hy,if_neg hne',(bY nd).1 y'.2 hy]
    ·rw [(bY nd).2 hm,(bY nd).2 hm]
   have iB :∀m,m∈((nm,some row,some (row.1,row.2.set i (gF (row.2.getD i []) f ol.1)))::fresh ol.2.1:FP).map (·.1)↔m=nm∨m∈S.map (·.1):=by
    intro m
    rw [t1]
    simp [fresh]
   have hrv:RVs e' ol.1 ((vs.drop f).take n) []:=u1
   refine ⟨_,fun w' hw'=>qCq hop hti hs h3 h4 g2 r8 (fun j hj=>by rw [uZ (hw'.2 _ wCi q hq)]; exact r9 j hj),e',Lf',rfl,?_,qCi h4 olen hrv⟩
   refine {num:=rfl,w0:=rfl,Fr:=rfl,Bo:=rfl,io:=gH.refl _,size:=wBo _,keep:=fun b _ _=>rfl,φ:=?_,φF:=?_,rest:=?_,row:=?_,nodup:=?_,blk:=?_,dis:=?_,dead:=?_}
   ·intro m hm
    exact φn m (fun h=>hm ((iB m).2 (.inr h)))
   ·intro m hm hH'
    refine .inl (φn m (fun h=>?_))
    exact hH' (hfresh m (by rw [←t1]; exact h)).1
   ·intro m hm
    have hm':m≠nm∧m∉S.map (·.1):=by
     refine ⟨fun h=>hm ((iB m).2 (.inl h)),fun h=>hm ((iB m).2 (.inr h))⟩
    rw [hH,if_neg hm'.1,(bY nd).2 (by rw [←t1]; exact hm'.2)]
   ·intro m row' hm hrow'
    rw [hH] at hrow'
    by_cases he:m=nm
    ·subst he
     rw [if_pos rfl] at hrow'
     simp only [Option.some.injEq] at hrow'
     subst hrow'
     have hφ:e'.φ m=.at q:=by rw [φn m (by rw [t1]; exact hnmS)]; exact hq
     rw [LfN]
     unfold uX gI
     rw [hφ]
     refine ⟨q1,?_,_,?_,rfl⟩
     ·simp only [List.length_set]; exact q2
     ·have hrlen:(gF (row.2.getD i []) f ol.1).length=q.sz∧(gF (row.2.getD i []) f ol.1).all yS=true:=by
       refine ⟨?_,?_⟩
       ·rw [←r1.1]; exact iZ _ _ _ (by rw [olen]; exact hf)
       ·have:=qFh (((row.2.getD i []).drop f).take n) nx hall
        rw [hol] at this
        unfold gF
        simp only [wCl,wBp]
        exact ⟨⟨List.all_eq_true.2 fun c hc=>List.all_eq_true.1 r1.2 c (wCh hc),this⟩,List.all_eq_true.2 fun c hc=>List.all_eq_true.1 r1.2 c (wCg hc)⟩
      have hb1:yW A (row.2.take i):=yE.2 fun r hr=>yE.1 hrb r (wCh hr)
      have hb3:yW A (row.2.drop (i+1)):=yE.2 fun r hr=>yE.1 hrb r (wCg hr)
      refine tK (vs:=vs) i hi hrlen r2 r3 ?_ (uJ _ (kp _) hb1 (fun _ _=>rfl) r5) (uJ _ (kp _) hb3 (fun _ _=>rfl) r6)
      have hvs:vs=vs.take f++(vs.drop f).take n++vs.drop (f+n):=by
       rw [wC3,←wCc,wBv,wBv]
      rw [hvs]
      unfold gF
      rw [olen]
      refine (uI _ _).2 ⟨_,_,La,Lc,rfl,rfl,(uI _ _).2 ⟨_,_,La,[],rfl,by simp,?_,hrv⟩,?_⟩
      ·exact zD _ (kp _) (jV.2 fun c hc=>jV.1 hrb1 c (wCh hc)) s2
      ·exact zD _ (kp _) (jV.2 fun c hc=>jV.1 hrb1 c (wCg hc)) s4
    ·rw [if_neg he] at hrow'
     have hmS:m∈S.map (·.1):=((iB m).1 hm).resolve_left he
     obtain ⟨z,hz,rfl⟩:=List.mem_map.1 hmS
     have hz':z.1∈ol.2.1.map (·.1):=by rw [←t1]; exact hmS
     obtain ⟨y',hy,hyz⟩:=List.mem_map.1 hz'
     have hy2:(z.1,y'.2)∈ol.2.1:=by rw [←hyz]; exact hy
     rw [(bY nd).1 y'.2 hy2] at hrow'
     simp only [Option.some.injEq] at hrow'
     subst hrow'
     rw [LfS z hz]
     unfold uX
     rw [φS z hz]
     exact u2 z hz y'.2 hy2
   ·intro m hm _
    rcases (iB m).1 hm with rfl | hmS
    ·rw [LfN]
     exact hnd.sublist (List.Sublist.cons_cons _ ((List.Sublist.refl _).append (((List.Sublist.refl _).append (wCm _ _)).append (List.Sublist.refl _))))
    ·obtain ⟨z,hz,rfl⟩:=List.mem_map.1 hmS
     rw [LfS z hz]
     have hLm:Lm.Nodup:=by
      refine hnd.sublist ?_
      exact (((wCn Lm Lc).trans (wCm La _)).trans (wCn _ L3)).trans ((wCm L1 _).trans (wCo _ _))
     rw [t2] at hLm
     exact iJ (f:=fun x:Nat×vG×List Nat=>x.2.2) hLm hz
   ·intro m hm _ b hb
    rcases (iB m).1 hm with rfl | hmS
    ·rw [LfN] at hb
     have hb':b∈Lf m:=by
      rw [hLf]
      simp only [wBn,wCp] at hb⊢
      rcases hb with h | h | (h | h) | h
      ·exact .inl h
      ·exact .inr (.inl h)
      ·exact .inr (.inr (.inl (.inl h)))
      ·exact .inr (.inr (.inl (.inr (.inr h))))
      ·exact .inr (.inr (.inr h))
     exact ⟨(hk.rh.blk m (by simp [hrow]) b hb').1,.inr ⟨m,hm,by simp [hrow],hb'⟩⟩
    ·obtain ⟨z,hz,rfl⟩:=List.mem_map.1 hmS
     rw [LfS z hz] at hb
     have hb':b∈Lf nm:=by
      rw [hLf]
      have:=subLm z hz b hb
      simp [this]
     exact ⟨(hk.rh.blk nm (by simp [hrow]) b hb').1,.inr ⟨nm,(iB nm).2 (.inl rfl),by simp [hrow],hb'⟩⟩
   ·have key :∀z∈S,∀b∈z.2.2,b∉q.block::(L1++((La++Lc)++L3)):=by
     intro z hz b hb hb2
     have hm:=subLm z hz b hb
     rw [wCb] at hnd
     obtain ⟨n1,n2⟩:=hnd
     rw [wCf] at n2
     obtain ⟨_,n3,n4⟩:=n2
     rw [wCf] at n3
     obtain ⟨n5,_,n6⟩:=n3
     rw [wCf] at n5
     obtain ⟨_,n7,n8⟩:=n5
     rw [wCf] at n7
     obtain ⟨_,_,n9⟩:=n7
     rcases List.mem_cons.1 hb2 with h | h
     ·subst h; exact n1 (by simp [hm])
     ·rcases List.mem_append.1 h with h | h
      ·exact n4 b h b (by simp [hm]) rfl
      ·rcases List.mem_append.1 h with h | h
       ·rcases List.mem_append.1 h with h | h
        ·exact n8 b h b (by simp [hm]) rfl
        ·exact n9 b hm b h rfl
       ·exact n6 b (by simp [hm]) b h rfl
    intro m1 m2 hm1 hm2 _ _ hne' b hb1 hb2
    rcases (iB m1).1 hm1 with rfl | h1'<;>rcases (iB m2).1 hm2 with rfl | h2'
    ·exact hne' rfl
    ·obtain ⟨z,hz,rfl⟩:=List.mem_map.1 h2'
     rw [LfN] at hb1; rw [LfS z hz] at hb2
     exact key z hz b hb2 hb1
    ·obtain ⟨z,hz,rfl⟩:=List.mem_map.1 h1'
     rw [LfN] at hb2; rw [LfS z hz] at hb1
     exact key z hz b hb1 hb2
    ·obtain ⟨z,hz,rfl⟩:=List.mem_map.1 h1'
     obtain ⟨z2,hz2,rfl⟩:=List.mem_map.1 h2'
     rw [LfS z hz] at hb1; rw [LfS z2 hz2] at hb2
     have hLm:Lm.Nodup:=by
      refine hnd.sublist ?_
      exact (((wCn Lm Lc).trans (wCm La _)).trans (wCn _ L3)).trans ((wCm L1 _).trans (wCo _ _))
     rw [t2] at hLm
     exact sA (f:=fun x:Nat×vG×List Nat=>x.2.2) hLm hz hz2 (fun he=>hne' (by rw [he])) hb1 hb2
   ·intro m hm hno'
    rw [hH] at hno'
    rcases (iB m).1 hm with rfl | hmS
    ·simp at hno'
    ·obtain ⟨z,hz,rfl⟩:=List.mem_map.1 hmS
     have hz':z.1∈ol.2.1.map (·.1):=by rw [←t1]; exact hmS
     obtain ⟨y',hy,hyz⟩:=List.mem_map.1 hz'
     have hy2:(z.1,y'.2)∈ol.2.1:=by rw [←hyz]; exact hy
     have hne':z.1≠nm:=fun he=>hnmS (he▸hz')
     rw [if_neg hne',(bY nd).1 y'.2 hy2] at hno'
     simp at hno'
 ·simp at hc
end
end Go.Sep
namespace Go.Sep
set_option linter.unusedVariables false
set_option linter.unusedSimpArgs false
section
variable {P:Program} {num:Nat→Nat} {o:Oper} {ρ:Nat→AV} {h:wT} {nx nx':Nat} {p:Prop} {v:AV} {fp:FP}
theorem qIj (w:World) (b:Nat) (o:Obj):gH w (World.setBlk w b o):=⟨rfl,rfl,rfl⟩
theorem dP.one {e:Env} {L0:List Nat} {H:Nat→Option Row} {Lf:Nat→List Nat} {nm:Nat} {row row':Row} {w':World} {L':List Nat} {b:Nat} (hk:Ok e L0 H Lf) (hrow:H nm=some row) (hb:b∈Lf nm)
  (hio:gH e.w w') (hs:w'.heap.size=e.w.heap.size) (hw :∀c,c≠b→w'.heap[c]?=e.w.heap[c]?) (hr:uX {e with w:=w'} nm row' L') (hnd:L'.Nodup) (hsub :∀c∈L',c∈Lf nm) :
  dP e H Lf (fun n=>n∈([(nm,some row,some row')]:FP).map (·.1)) {e with w:=w'} (upH H [(nm,some row,some row')]) (fun n=>if n=nm then L' else Lf n):=by
 have hF :∀n,n∈([(nm,some row,some row')]:FP).map (·.1)↔n=nm:=by simp
 have hH :∀n,upH H [(nm,some row,some row')] n=if n=nm then some row' else H n:=fun n=>rfl
 refine {num:=rfl,w0:=rfl,Fr:=rfl,Bo:=rfl,io:=hio,size:=by simp [hs],keep:=?_,φ:=fun _ _=>rfl,φF:=fun _ _ _=>.inl rfl,rest:=?_,row:=?_,nodup:=?_,blk:=?_,dis:=?_,dead:=?_}
 ·intro c _ hc
  exact hw c (fun he=>hc nm ((hF nm).2 rfl) (by simp [hrow]) (he▸hb))
 ·intro n hn
  rw [hH,if_neg (fun he=>hn ((hF n).2 he))]
 ·intro n r hn hr'
  obtain rfl:=(hF n).1 hn
  rw [hH,if_pos rfl] at hr'
  simp only [Option.some.injEq] at hr'
  subst hr'
  simpa using hr
 ·intro n hn _
  obtain rfl:=(hF n).1 hn
  simpa using hnd
 ·intro n hn _ c hc
  obtain rfl:=(hF n).1 hn
  simp only [if_true] at hc
  exact ⟨by simp only [hs]; exact (hk.rh.blk n (by simp [hrow]) c (hsub c hc)).1,.inr ⟨n,hn,by simp [hrow],hsub c hc⟩⟩
 ·intro n m hn hm _ _ hne
  exact absurd (((hF n).1 hn).trans ((hF m).1 hm).symm) hne
 ·intro n hn hno
  obtain rfl:=(hF n).1 hn
  rw [hH,if_pos rfl] at hno
  simp at hno
theorem qSv {n:Nat} {x z:Arg} {nm i f:Nat} {row:Row} (hc:wW P num (.store n x z) o.op=true) (hx:x.ev ρ=.ptr nm i f) (hi:i<row.2.length) (hf:f+n≤(row.2.getD i []).length)
  (hz:(cellsOf (z.ev ρ)).length=n) (hzo:(cellsOf (z.ev ρ)).all yS=true) :
  Tri P num o ρ .any [(nm,some row,some (row.1,row.2.set i (gF (row.2.getD i []) f (cellsOf (z.ev ρ)))))]:=by
 simp only [wW] at hc
 split at hc
 ·rename_i t y u hop
  simp only [wBp] at hc
  obtain ⟨⟨h1,h2⟩,h3⟩:=hc
  obtain ⟨ti,hti,hs⟩:=dD h3
  intro e L0 H Lf A a K Q hn hk hpre hbt hbh hfr ht k
  subst hn
  have hrow:H nm=some row:=hpre _ wCi
  have hr:=hk.rh.row nm row hrow
  have g:=yF (ρ:=ρ) ht h1
  rw [hx] at g
  have gz:=iP hzo (yF (ρ:=ρ) ht h2)
  have gzl:=yU gz
  obtain ⟨q,hq,g2⟩:=sM hr g
  have hr':=hr
  unfold uX gI at hr'
  rw [hq] at hr'
  obtain ⟨q1,q2,Lr,q3,q4⟩:=hr'
  obtain ⟨vs,L1,L2,L3,r1,r2,r3,r4,r5,r6,r7,r8,r9⟩:=qGw q1 q3 hi hf
  obtain ⟨La,Lm,Lc,s1,s2,s3,s4⟩:=tI f n r4 hf
  have hrb:=hbh nm row hrow
  have hrb1:jK A (row.2.getD i []):=by rw [fU hi]; exact yE.1 hrb _ (wCj hi)
  obtain ⟨sz0,q5,arr,ty,q6,q7⟩:=q2
  have husz:(a.eval u).cells.size=n:=by simp at gzl; omega
  have husl:(a.eval u).cells.toList.length=n:=by simpa using husz
  have hroom:q.off+i*q.sz+f+n≤arr.size:=by
   have h5:(i+1)*q.sz≤q.cap*q.sz:=wC9 _ (by omega)
   rw [wBh] at h5
   have h6:=r1.1
   omega
  have hrun:(execOp a.eval o).run P e.w=.ok .skip (World.setBlk e.w q.block (.cells (vU arr (q.off+i*q.sz+f) (a.eval u).cells.toList) ty (0,0))):=by
   simp only [execOp,hop,g2,Sem.run_bind,Instr.storeAt,Instr.sureAddr,Sem.run_pure,Result.andThen_ok]
   rw [qKw hti (by rw [hs]; exact husz) q6 (qC9 hzo gz) (by rw [hs]; exact hroom)]
   rfl
  have hbl:q.block<e.w.heap.size:=(Array.getElem?_eq_some_iff.1 q6).1
  have hLf:Lf nm=q.block::(L1++((La++(Lm++Lc))++L3)):=by rw [q4,r7,s1]
  have hnd:=hk.rh.nodup nm (by simp [hrow])
  rw [hLf] at hnd
  have hnb :∀b∈L1++((La++(Lm++Lc))++L3),b≠q.block:=fun b hb he=>(List.nodup_cons.1 hnd).1 (he▸hb)
  have kp :∀L:List Nat,(∀b∈L,b∈L1++((La++(Lm++Lc))++L3))→dI e {e with w:=World.setBlk e.w q.block (.cells (vU arr (q.off+i*q.sz+f) (a.eval u).cells.toList) ty (0,0))} A L:=fun L hL=>{
   num:=rfl
   fr:=fun m b h=>by cases m<;>exact h
   cells:=fun b _ o=>rfl
   φ:=fun nm hA=>.inl rfl
   own:=fun b hb=>zU _ _ _ _ (fun he=>hnb b (hL b hb) he.symm)}
  have hblk:(World.setBlk e.w q.block (.cells (vU arr (q.off+i*q.sz+f) (a.eval u).cells.toList) ty (0,0))).heap[q.block]?=some (.cells (vU arr (q.off+i*q.sz+f) (a.eval u).cells.toList) ty (0,0)):=pR _ _ _ hbl
  have hcell :∀j,j<q.off+i*q.sz+f∨q.off+i*q.sz+f+n≤j→(World.setBlk e.w q.block (.cells (vU arr (q.off+i*q.sz+f) (a.eval u).cells.toList) ty (0,0))).cell? ⟨q.block,j,none⟩=e.w.cell? ⟨q.block,j,none⟩:=by
   intro j hj
   rw [zP hblk,zP q6,xE _ _ _ _ (by rw [husl]; exact hj)]
  refine qPc hrun (k _ _ undef (dP.one (b:=q.block) (L':=q.block::(L1++((La++Lc)++L3))) hk hrow (by rw [hLf]; simp) (qIj _ _ _) (iD _ _ _) (fun c hc=>zU _ _ _ _ (fun he=>hc he.symm)) ?_ ?_ ?_) (by simp [RV]))
  ·unfold uX gI
   simp only [hq]
   refine ⟨q1,⟨sz0,by simpa using q5,_,ty,hblk,by rw [pJ]; exact q7⟩,_,?_,rfl⟩
   have hb1:yW A (row.2.take i):=yE.2 fun r hr=>yE.1 hrb r (wCh hr)
   have hb3:yW A (row.2.drop (i+1)):=yE.2 fun r hr=>yE.1 hrb r (wCg hr)
   have htl:(row.2.take i).length=i:=by simp; omega
   have hdl:(row.2.drop (i+1)).length=row.2.length-(i+1):=by simp
   have m1:(i+1)*q.sz=i*q.sz+q.sz:=by rw [wBh]; omega
   have r11:=r1.1
   have hrlen:(gF (row.2.getD i []) f (cellsOf (z.ev ρ))).length=q.sz∧(gF (row.2.getD i []) f (cellsOf (z.ev ρ))).all yS=true:=by
    refine ⟨by rw [←r1.1]; exact iZ _ _ _ (by rw [hz]; exact hf),?_⟩
    unfold gF
    simp only [wCl,wBp]
    exact ⟨⟨List.all_eq_true.2 fun c hc=>List.all_eq_true.1 r1.2 c (wCh hc),hzo⟩,List.all_eq_true.2 fun c hc=>List.all_eq_true.1 r1.2 c (wCg hc)⟩
   refine tK (vs:=vs.take f++(a.eval u).cells.toList++vs.drop (f+n)) i hi hrlen (by simp; omega) ?_ ?_
    (iU _ (fun j h1 h2=>hcell j (.inl ?_)) (uJ _ (kp _ (by simp +contextual)) hb1 (fun _ _=>rfl) r5))
    (iU _ (fun j h1 h2=>hcell j (.inr ?_)) (uJ _ (kp _ (by simp +contextual)) hb3 (fun _ _=>rfl) r6))
   ·intro j hj
    by_cases j1:j<f
    ·rw [hcell _ (.inl (by omega)),r3 j hj,wC3,wC4 (by simp; omega)]
     simp [j1]
    ·by_cases j2:j<f+n
     ·rw [zP hblk,show q.off+i*q.sz+j=q.off+i*q.sz+f+(j-f) by omega,rO _ _ _ _ (by omega) (by rw [husl]; exact hroom)]
      have e1:(vs.take f).length=f:=by simp; omega
      rw [wC3,wBf (by omega),e1,wC4 (by omega)]
     ·rw [hcell _ (.inr (by omega)),r3 j hj]
      have e1:(vs.take f++(a.eval u).cells.toList).length=f+n:=by rw [wC5,husl]; simp; omega
      rw [wBf (by omega),e1]
      simp
      congr 1
      omega
   ·unfold gF
    rw [hz]
    refine (uI _ _).2 ⟨_,_,La,Lc,rfl,rfl,(uI _ _).2 ⟨_,_,La,[],rfl,by simp,?_,?_⟩,?_⟩
    ·exact zD _ (kp _ (by simp +contextual)) (jV.2 fun c hc=>jV.1 hrb1 c (wCh hc)) s2
    ·exact zD _ (kp _ (by simp)) (aH (uH hbt h2)) gz
    ·exact zD _ (kp _ (by simp +contextual)) (jV.2 fun c hc=>jV.1 hrb1 c (wCg hc)) s4
   ·rw [htl] at h2
    omega
   ·omega
  ·exact hnd.sublist (List.Sublist.cons_cons _ ((List.Sublist.refl _).append (((List.Sublist.refl _).append (wCm _ _)).append (List.Sublist.refl _))))
  ·intro b hb
   rw [hLf]
   simp only [wBn,wCp] at hb⊢
   rcases hb with h | h | (h | h) | h
   ·exact .inl h
   ·exact .inr (.inl h)
   ·exact .inr (.inr (.inl (.inl h)))
   ·exact .inr (.inr (.inl (.inr (.inr h))))
   ·exact .inr (.inr (.inr h))
 ·simp at hc
end
end Go.Sep

