/- The executor of symbolic states: the texts Core Heap Frame Exec Run Tri Chk, one after the other. No condition. -/
import Derived.Calls
import Derived.Orders
import Derived.Laws.Sem
import Derived.Laws.World
import Derived.KernelRfl
import Derived.Laws.Strings
import Derived.Laws.StructEq
open Bool renaming and_eq_true → qZ8, false_eq_true → qZ4, or_eq_true → qZj
open List renaming all_append → wA4, all_cons → qZk, append_assoc → qZm, cons_append → qYw, drop_drop → qZv, drop_left' → qZg, drop_of_length_le → qZi, ext_getElem? → qZl, flatMap_cons → qZx, flatten_cons → qZr, getD_eq_getElem?_getD → qZa, getElem?_append_left → qZn, getElem?_append_right → qYy, getElem?_eq_none → qZt, getElem_mem → wA2, length_append → qZo, length_cons → qZ3, length_drop → qZw, length_nil → qYz, length_take → qZ1, map_cons → qZ5, mem_append → wA8, mem_cons → qZ6, mem_cons_of_mem → wA3, mem_cons_self → wA1, mem_of_mem_drop → qZz, mem_of_mem_take → wA0, mem_singleton → qZp, nodup_append → qZy, nodup_cons → qZu, replicate → qZ2, replicate_succ → qZq, sublist_append_left → wA6, sublist_append_right → wA5, sublist_cons_self → wA7, take_append_drop → qZe, take_left' → qZf, take_of_length_le → qZh
open Nat renaming add_assoc → qZ9, add_mul → qZ0, le_refl → qZ7, min_eq_left → qYx, mul_le_mul_right → qZs
open Option renaming bind_some → qZd, map_none → qZc, map_some → qZb
namespace Go.Sep
set_option maxHeartbeats 16000000
set_option linter.unusedVariables false
set_option linter.unusedSimpArgs false
inductive Mode where
 | own | bw | fz
 deriving DecidableEq
inductive AV where
 | any
 | int (k:IntKind) (n:Int)
 | bool (b:Bool)
 | str (s:ByteArray)
 | fn (f:Nat) (cap:List AV)
 | nilp
 | ptr (nm i f:Nat)
 | fptr (m:Mode) (cells:List AV) (f:Nat)
 | nil
 | nilI
 | ifc
 | ns (nm off len:Nat)
 | sl (m:Mode) (sz:Nat) (rows:List (List AV))
 | agg (cells:List AV)
 | tup (vs:List AV)
abbrev Row:=Nat×List (List AV)
abbrev wM:=List (Nat×Row)
def yK:AV→Bool
 | .any | .agg _ | .tup _=>false
 | _=>true
structure qFj where
 block:Nat
 off:Nat
 cap:Nat
 sz:Nat
inductive jY where
 | dead | nilp | at (p:qFj)
structure Env where
 num:Nat→Nat
 w:World
 w0:World
 φ:Nat→jY
 Fr:Nat→Prop
 Bo:Nat→Prop
def Env.frozen (e:Env):Mode→Nat→Prop
 | .own,_=>False
 | .bw,b=>e.Fr b∨e.Bo b
 | .fz,b=>e.Fr b
def fH (w:World) (p:qFj) (len:Nat):Prop :=
 0<p.sz∧len≤p.cap∧∃arr ty,w.heap[p.block]?=some (.cells arr ty (0,0))∧p.off+p.cap*p.sz≤arr.size
mutual
def RV (e:Env):AV→Value→List Nat→Prop
 | .any,_,L=>L=[]
 | .int k n,v,L=>v=.int k n∧L=[]
 | .bool b,v,L=>v=.bool b∧L=[]
 | .str s,v,L=>v=.string s∧L=[]
 | .fn f cap,v,L =>∃vs:List Value,v=.func (.func (e.num f)) #[] vs.toArray∧RVs e cap vs L∧L=[]
 | .nilp,v,L=>v=.pointer none∧L=[]
 | .ptr nm i f,v,L=>L=[]∧(match e.φ nm with
  | .dead =>∃a,v=.pointer a
  | .nilp=>False
  | .at p=>v=.pointer (some ⟨p.block,p.off+i*p.sz+f,none⟩))
 | .fptr m cells f,v,L=>L=[]∧∃b o vs,v=.pointer (some ⟨b,o+f,none⟩)∧e.frozen m b∧vs.length=cells.length∧
   (∀j,j<cells.length→e.w0.cell? ⟨b,o+j,none⟩=vs[j]?)∧RVs e cells vs []
 | .nil,v,L=>v=.slice none 0 0∧L=[]
 | .nilI,v,L=>v=.nilIface∧L=[]
 | .ifc,v,L=>(∃t u,v=.iface t u)∧L=[]
 | .ns nm off len,v,L=>L=[]∧(match e.φ nm with
  | .dead =>∃a l c,v=.slice a l c
  | .nilp=>off=0∧len=0∧∃a,v=.slice a 0 0
  | .at p=>off+len≤p.cap∧∃a,v=.slice (some a) len (p.cap-off)∧(off<p.cap→a=⟨p.block,p.off+off*p.sz,none⟩))
 | .sl .own sz rows,v,L=>(rows=[]∧L=[]∧∃a,v=.slice a 0 0)∨∃p Lr,(p.sz=sz∧0<p.cap)∧v=.slice (some ⟨p.block,p.off,none⟩) rows.length p.cap∧
   fH e.w p rows.length∧yH e e.w p.block p.off p.sz rows Lr∧L=p.block::Lr
 | .sl m sz rows,v,L=>L=[]∧((rows=[]∧∃a c,v=.slice a 0 c∧(a=none→c=0))∨∃b o c,v=.slice (some ⟨b,o,none⟩) rows.length c∧rows.length≤c∧
   e.frozen m b∧yH e e.w0 b o sz rows [])
 | .agg cs,v,L =>∃vs:List Value,v=.agg vs.toArray∧RVs e cs vs L
 | .tup cs,v,L =>∃vs:List Value,v=.tuple vs.toArray∧RVs e cs vs L
def RVs (e:Env):List AV→List Value→List Nat→Prop
 | [],vs,L=>vs=[]∧L=[]
 | c::cs,vs,L =>∃v vs' L1 L2,vs=v::vs'∧RV e c v L1∧RVs e cs vs' L2∧L=L1++L2
def yH (e:Env) (W:World) (b o sz:Nat):List (List AV)→List Nat→Prop
 | [],L=>L=[]
 | r::rs,L =>∃vs L1 L2,(r.length=sz∧r.all yK=true)∧vs.length=sz∧(∀j,j<sz→W.cell? ⟨b,o+j,none⟩=vs[j]?)∧RVs e r vs L1∧yH e W b (o+sz) sz rs L2∧L=L1++L2
end
mutual
def bnd (A:Nat→Prop):AV→Prop
 | .fn _ cap=>yX A cap
 | .ptr nm _ _=>A nm
 | .fptr _ cells _=>yX A cells
 | .ns nm _ _=>A nm
 | .sl _ _ rows=>yM A rows
 | .agg cs=>yX A cs
 | .tup cs=>yX A cs
 | _=>True
def yX (A:Nat→Prop):List AV→Prop
 | []=>True
 | c::cs=>bnd A c∧yX A cs
def yM (A:Nat→Prop):List (List AV)→Prop
 | []=>True
 | r::rs=>yX A r∧yM A rs
end
theorem jL {A:Nat→Prop} {l:List AV}:yX A l↔∀x∈l,bnd A x:=by
 induction l with
 | nil=>simp [yX]
 | cons a l ih=>simp [yX,ih]
theorem yC {A:Nat→Prop} {l:List (List AV)}:yM A l↔∀x∈l,yX A x:=by
 induction l with
 | nil=>simp [yM]
 | cons a l ih=>simp [yM,ih]
mutual
theorem kN {A B:Nat→Prop} (h :∀n,A n→B n) :∀(v:AV),bnd A v→bnd B v
 | .fn _ cap,hb=>zO h cap hb
 | .ptr nm _ _,hb=>h nm hb
 | .fptr _ cells _,hb=>zO h cells hb
 | .ns nm _ _,hb=>h nm hb
 | .sl _ _ rows,hb=>uO h rows hb
 | .agg cs,hb=>zO h cs hb
 | .tup cs,hb=>zO h cs hb
 | .any,_ | .int _ _,_ | .bool _,_ | .str _,_ | .nilp,_ | .nil,_ | .nilI,_ | .ifc,_=>trivial
theorem zO {A B:Nat→Prop} (h :∀n,A n→B n) :∀(l:List AV),yX A l→yX B l
 | [],_=>trivial
 | c::cs,hb=>⟨kN h c hb.1,zO h cs hb.2⟩
theorem uO {A B:Nat→Prop} (h :∀n,A n→B n) :∀(l:List (List AV)),yM A l→yM B l
 | [],_=>trivial
 | c::cs,hb=>⟨zO h c hb.1,uO h cs hb.2⟩
end
structure dC (e e':Env) (A:Nat→Prop) (L:List Nat):Prop where
 num:e'.num=e.num
 fr :∀m b,e.frozen m b→e'.frozen m b
 cells :∀b,e.Fr b∨e.Bo b→∀o,e'.w0.cell? ⟨b,o,none⟩=e.w0.cell? ⟨b,o,none⟩
 φ :∀nm,A nm→e'.φ nm=e.φ nm∨e'.φ nm=.dead
 own :∀b∈L,e'.w.heap[b]?=e.w.heap[b]?
theorem dC.sub {e e':Env} {A:Nat→Prop} {L L':List Nat} (k:dC e e' A L) (h :∀b∈L',b∈L):dC e e' A L' :=
 ⟨k.num,k.fr,k.cells,k.φ,fun b hb=>k.own b (h b hb)⟩
theorem Env.frozen_or {e:Env} {m:Mode} {b:Nat} (h:e.frozen m b):e.Fr b∨e.Bo b:=by
 cases m<;>simp [Env.frozen] at h
 ·exact h
 ·exact .inl h
theorem uT {w w':World} {b:Nat} (h:w'.heap[b]?=w.heap[b]?) (o:Nat):w'.cell? ⟨b,o,none⟩=w.cell? ⟨b,o,none⟩:=by
 simp only [World.cell?,h]
theorem fH.keep {w w':World} {p:qFj} {len:Nat} (h:w'.heap[p.block]?=w.heap[p.block]?) (ho:fH w p len):fH w' p len:=by
 obtain ⟨h1,h2,arr,ty,h3,h4⟩:=ho
 exact ⟨h1,h2,arr,ty,by rw [h,h3],h4⟩
mutual
theorem hB {e e':Env} {A:Nat→Prop} :∀(v:AV) {c:Value} {L:List Nat},dC e e' A L→bnd A v→RV e v c L→RV e' v c L
 | .any,_,_,_,_,h=>h
 | .int ..,_,_,_,_,h=>h
 | .bool ..,_,_,_,_,h=>h
 | .str ..,_,_,_,_,h=>h
 | .nilp,_,_,_,_,h=>h
 | .nil,_,_,_,_,h=>h
 | .nilI,_,_,_,_,h=>h
 | .ifc,_,_,_,_,h=>h
 | .fn f cap,_,_,k,hb,h=>by
  simp only [RV] at h⊢
  obtain ⟨vs,h1,h2,h3⟩:=h
  exact ⟨vs,by rw [k.num]; exact h1,dT cap k hb h2,h3⟩
 | .ptr nm i f,_,_,k,hb,h=>by
  simp only [RV] at h⊢
  refine ⟨h.1,?_⟩
  rcases k.φ nm hb with hp | hp
  ·rw [hp]; exact h.2
  ·rw [hp]
   obtain ⟨_,h⟩:=h
   cases hq:e.φ nm<;>rw [hq] at h
   ·exact h
   ·exact h.elim
   ·exact ⟨_,h⟩
 | .fptr m cells f,_,_,k,hb,h=>by
  simp only [RV] at h⊢
  obtain ⟨h0,b,o,vs,h1,h2,h3,h4,h5⟩:=h
  subst h0
  exact ⟨rfl,b,o,vs,h1,k.fr m b h2,h3,fun j hj=>by rw [k.cells b (Env.frozen_or h2)]; exact h4 j hj,dT cells k hb h5⟩
 | .ns nm off len,_,_,k,hb,h=>by
  simp only [RV] at h⊢
  refine ⟨h.1,?_⟩
  rcases k.φ nm hb with hp | hp
  ·rw [hp]; exact h.2
  ·rw [hp]
   obtain ⟨_,h⟩:=h
   cases hq:e.φ nm<;>rw [hq] at h
   ·exact h
   ·obtain ⟨_,_,a,h⟩:=h
    exact ⟨_,_,_,h⟩
   ·obtain ⟨_,a,h,_⟩:=h
    exact ⟨_,_,_,h⟩
 | .sl .own sz rows,_,_,k,hb,h=>by
  simp only [RV] at h⊢
  rcases h with h | ⟨p,Lr,h0,h1,h2,h3,h4⟩
  ·exact .inl h
  ·subst h4
   refine .inr ⟨p,Lr,h0,h1,h2.keep (k.own _ (by simp)),?_,rfl⟩
   exact uC rows (k.sub (by simp +contextual)) hb (fun hne o'=>uT (k.own _ (by simp)) o') h3
 | .sl .bw sz rows,_,_,k,hb,h=>by
  simp only [RV] at h⊢
  obtain ⟨h0,h⟩:=h
  subst h0
  refine ⟨rfl,?_⟩
  rcases h with h | ⟨b,o,c,h1,h2,h3,h4⟩
  ·exact .inl h
  ·exact .inr ⟨b,o,c,h1,h2,k.fr _ b h3,uC rows k hb (fun _ o'=>k.cells b (Env.frozen_or h3) o') h4⟩
 | .sl .fz sz rows,_,_,k,hb,h=>by
  simp only [RV] at h⊢
  obtain ⟨h0,h⟩:=h
  subst h0
  refine ⟨rfl,?_⟩
  rcases h with h | ⟨b,o,c,h1,h2,h3,h4⟩
  ·exact .inl h
  ·exact .inr ⟨b,o,c,h1,h2,k.fr _ b h3,uC rows k hb (fun _ o'=>k.cells b (Env.frozen_or h3) o') h4⟩
 | .agg cs,_,_,k,hb,h=>by
  simp only [RV] at h⊢
  obtain ⟨vs,h1,h2⟩:=h
  exact ⟨vs,h1,dT cs k hb h2⟩
 | .tup cs,_,_,k,hb,h=>by
  simp only [RV] at h⊢
  obtain ⟨vs,h1,h2⟩:=h
  exact ⟨vs,h1,dT cs k hb h2⟩
theorem dT {e e':Env} {A:Nat→Prop} :∀(l:List AV) {cs:List Value} {L:List Nat},dC e e' A L→yX A l→RVs e l cs L→RVs e' l cs L
 | [],_,_,_,_,h=>by simpa only [RVs] using h
 | c::cs,_,_,k,hb,h=>by
  simp only [RVs] at h⊢
  obtain ⟨v,vs',L1,L2,h1,h2,h3,h4⟩:=h
  subst h4
  exact ⟨v,vs',L1,L2,h1,hB c (k.sub (by simp +contextual)) hb.1 h2,dT cs (k.sub (by simp +contextual)) hb.2 h3,rfl⟩
theorem uC {e e':Env} {A:Nat→Prop} :∀(rs:List (List AV)) {W W':World} {b o sz:Nat} {L:List Nat},dC e e' A L→yM A rs→
  (rs≠[]→∀o',W'.cell? ⟨b,o',none⟩=W.cell? ⟨b,o',none⟩)→yH e W b o sz rs L→yH e' W' b o sz rs L
 | [],_,_,_,_,_,_,_,_,_,h=>by simpa only [yH] using h
 | r::rs,W,W',b,o,sz,L,k,hb,hW,h=>by
  simp only [yH] at h⊢
  obtain ⟨vs,L1,L2,h1,h2,h3,h4,h5,h6⟩:=h
  subst h6
  exact ⟨vs,L1,L2,h1,h2,fun j hj=>by rw [hW (by simp)]; exact h3 j hj,dT r (k.sub (by simp +contextual)) hb.1 h4,
   uC rs (k.sub (by simp +contextual)) hb.2 (fun _=>hW (by simp)) h5,rfl⟩
end
end Go.Sep
namespace Go.Sep
set_option linter.unusedVariables false
set_option linter.unusedSimpArgs false
theorem uB {e:Env} :∀(xs ys:List AV) {cs:List Value} {L:List Nat},
  RVs e (xs++ys) cs L↔∃c1 c2 L1 L2,cs=c1++c2∧L=L1++L2∧RVs e xs c1 L1∧RVs e ys c2 L2
 | [],ys,cs,L=>by
  simp only [List.nil_append,RVs]
  constructor
  ·intro h; exact ⟨[],cs,[],L,rfl,rfl,⟨rfl,rfl⟩,h⟩
  ·rintro ⟨c1,c2,L1,L2,rfl,rfl,⟨rfl,rfl⟩,h⟩; exact h
 | x::xs,ys,cs,L=>by
  simp only [qYw,RVs]
  constructor
  ·rintro ⟨v,vs',L1,L2,rfl,h2,h3,rfl⟩
   obtain ⟨c1,c2,L3,L4,rfl,rfl,h4,h5⟩:=(uB xs ys).1 h3
   exact ⟨v::c1,c2,L1++L3,L4,by simp,by simp,⟨v,c1,L1,L3,rfl,h2,h4,rfl⟩,h5⟩
  ·rintro ⟨c1,c2,L1,L2,rfl,rfl,⟨v,vs',L3,L4,rfl,h2,h3,rfl⟩,h5⟩
   exact ⟨v,vs'++c2,L3,L4++L2,by simp,h2,(uB xs ys).2 ⟨vs',c2,L4,L2,rfl,rfl,h3,h5⟩,by simp⟩
theorem yP {e:Env} :∀{xs:List AV} {cs:List Value} {L:List Nat},RVs e xs cs L→cs.length=xs.length
 | [],_,_,h=>by simp only [RVs] at h; simp [h.1]
 | x::xs,_,_,h=>by
  simp only [RVs] at h
  obtain ⟨v,vs',L1,L2,rfl,h2,h3,rfl⟩:=h
  simp [yP h3]
theorem qWw {e:Env} {xs:List AV} {cs:List Value} {L:List Nat} (h:RVs e xs cs L) (j:Nat) (hj:j<xs.length) :
  ∃v L1 L2 L3,cs[j]?=some v∧RV e xs[j] v L2∧L=L1++(L2++L3):=by
 have hs:xs=xs.take j++(xs[j]::xs.drop (j+1)):=by simp
 rw [hs] at h
 obtain ⟨c1,c2,L1,L2,rfl,rfl,h4,h5⟩:=(uB _ _).1 h
 simp only [RVs] at h5
 obtain ⟨v,vs',L3,L4,rfl,h6,h7,rfl⟩:=h5
 have hl:=yP h4
 simp [qYx (Nat.le_of_lt hj)] at hl
 refine ⟨v,L1,L3,L4,?_,h6,rfl⟩
 rw [qYy (by omega),hl]
 simp
theorem eO {e:Env} {xs:List AV} {cs:List Value} (h:RVs e xs cs []) (j:Nat) (hj:j<xs.length) :
  ∃v,cs[j]?=some v∧RV e xs[j] v []:=by
 obtain ⟨v,L1,L2,L3,h1,h2,h3⟩:=qWw h j hj
 have:L2=[]:=by
  have:=h3.symm
  simp at this
  exact this.2.1
 subst this
 exact ⟨v,h1,h2⟩
theorem jD {e:Env} {W:World} {b sz:Nat} :∀(xs ys:List (List AV)) {o:Nat} {L:List Nat},
  yH e W b o sz (xs++ys) L↔∃L1 L2,yH e W b o sz xs L1∧yH e W b (o+xs.length*sz) sz ys L2∧L=L1++L2
 | [],ys,o,L=>by
  simp only [List.nil_append,yH,qYz,Nat.zero_mul,Nat.add_zero]
  constructor
  ·intro h; exact ⟨[],L,rfl,h,rfl⟩
  ·rintro ⟨L1,L2,rfl,h,rfl⟩; exact h
 | x::xs,ys,o,L=>by
  simp only [qYw,yH]
  have ho:o+sz+xs.length*sz=o+(x::xs).length*sz:=by simp [Nat.add_mul]; omega
  constructor
  ·rintro ⟨vs,L1,L2,h1,h2,h3,h4,h5,rfl⟩
   obtain ⟨L3,L4,h6,h7,rfl⟩:=(jD xs ys).1 h5
   rw [ho] at h7
   exact ⟨L1++L3,L4,⟨vs,L1,L3,h1,h2,h3,h4,h6,rfl⟩,h7,by simp⟩
  ·rintro ⟨L1,L2,⟨vs,L3,L4,h1,h2,h3,h4,h6,rfl⟩,h7,rfl⟩
   rw [←ho] at h7
   exact ⟨vs,L3,L4++L2,h1,h2,h3,h4,(jD xs ys).2 ⟨L4,L2,h6,h7,rfl⟩,by simp⟩
theorem eP {e:Env} {W:World} {b o sz:Nat} {xs:List (List AV)} {L:List Nat} (i:Nat) (hi:i<xs.length) (h:yH e W b o sz xs L) :
  ∃vs L1 L2 L3,(xs[i].length=sz∧xs[i].all yK=true)∧vs.length=sz∧(∀j,j<sz→W.cell? ⟨b,o+i*sz+j,none⟩=vs[j]?)∧RVs e xs[i] vs L2∧
   yH e W b o sz (xs.take i) L1∧yH e W b (o+(i+1)*sz) sz (xs.drop (i+1)) L3∧L=L1++(L2++L3):=by
 have hs:xs=xs.take i++(xs[i]::xs.drop (i+1)):=by simp
 rw [hs] at h
 obtain ⟨L1,L2,h1,h2,rfl⟩:=(jD _ _).1 h
 simp only [yH,qZ1,qYx (Nat.le_of_lt hi)] at h2
 obtain ⟨vs,L3,L4,h3,h4,h5,h6,h7,rfl⟩:=h2
 refine ⟨vs,L1,L3,L4,h3,h4,h5,h6,h1,?_,rfl⟩
 rw [show o+(i+1)*sz=o+i*sz+sz by rw [qZ0]; omega]
 exact h7
theorem rG {e:Env} {W:World} {b o sz:Nat} {xs:List (List AV)} {r:List AV} {vs:List Value} {L1 L2 L3:List Nat} (i:Nat) (hi:i<xs.length)
  (h1:r.length=sz∧r.all yK=true) (h2:vs.length=sz) (h3 :∀j,j<sz→W.cell? ⟨b,o+i*sz+j,none⟩=vs[j]?) (h4:RVs e r vs L2)
  (h5:yH e W b o sz (xs.take i) L1) (h6:yH e W b (o+(i+1)*sz) sz (xs.drop (i+1)) L3):yH e W b o sz (xs.set i r) (L1++(L2++L3)):=by
 have hs:xs.set i r=xs.take i++(r::xs.drop (i+1)):=by rw [List.set_eq_take_append_cons_drop,if_pos hi]
 rw [hs]
 refine (jD _ _).2 ⟨L1,L2++L3,h5,?_,rfl⟩
 simp only [yH,qZ1,qYx (Nat.le_of_lt hi)]
 refine ⟨vs,L2,L3,h1,h2,h3,h4,?_,rfl⟩
 rw [show o+(i+1)*sz=o+i*sz+sz by rw [qZ0]; omega] at h6
 exact h6
theorem hP {e:Env} {W W':World} {b sz:Nat} :∀(xs:List (List AV)) {o:Nat} {L:List Nat},(∀j,o≤j→j<o+xs.length*sz→W'.cell? ⟨b,j,none⟩=W.cell? ⟨b,j,none⟩)→
  yH e W b o sz xs L→yH e W' b o sz xs L
 | [],_,_,_,h=>by simpa only [yH] using h
 | x::xs,o,L,hc,h=>by
  simp only [yH] at h⊢
  obtain ⟨vs,L1,L2,h1,h2,h3,h4,h5,h6⟩:=h
  have hm:(x::xs).length*sz=sz+xs.length*sz:=by simp [Nat.add_mul]; omega
  rw [hm] at hc
  exact ⟨vs,L1,L2,h1,h2,fun j hj=>by rw [hc _ (by omega) (by omega)]; exact h3 j hj,h4,hP xs (fun j a c=>hc j (by omega) (by omega)) h5,h6⟩
def bY (e:Env) (s:jY) (row:Row) (L:List Nat):Prop :=
 match s with
 | .dead=>False
 | .nilp=>row.2=[]∧L=[]
 | .at p=>p.sz=row.1∧fH e.w p row.2.length∧∃Lr,yH e e.w p.block p.off p.sz row.2 Lr∧L=p.block::Lr
def qM:wM→Nat→Option Row
 | [],_=>none
 | (m,r)::h,n=>if n=m then some r else qM h n
def uQ (e:Env) (nm:Nat) (row:Row) (L:List Nat):Prop:=bY e (e.φ nm) row L
theorem uQ.keep {e e':Env} {A:Nat→Prop} {nm:Nat} {row:Row} {L:List Nat} (k:dC e e' A L) (hφ:e'.φ nm=e.φ nm) (hb:yM A row.2) (h:uQ e nm row L):uQ e' nm row L:=by
 unfold uQ bY at h⊢
 rw [hφ]
 cases hp:e.φ nm with
 | dead=>rw [hp] at h; exact h
 | nilp=>rw [hp] at h; exact h
 | «at» p =>
  rw [hp] at h
  obtain ⟨h0,h1,Lr,h2,rfl⟩:=h
  exact ⟨h0,h1.keep (k.own _ (by simp)),Lr,uC row.2 (k.sub (by simp +contextual)) hb (fun _ o=>uT (k.own _ (by simp)) o) h2,rfl⟩
structure RH (e:Env) (H:Nat→Option Row) (Lf:Nat→List Nat):Prop where
 row :∀nm row,H nm=some row→uQ e nm row (Lf nm)
 nodup :∀nm,H nm≠none→(Lf nm).Nodup
 blk :∀nm,H nm≠none→∀b∈Lf nm,b<e.w.heap.size∧¬e.Fr b∧¬e.Bo b
 dis :∀n m,H n≠none→H m≠none→n≠m→∀b∈Lf n,b∉Lf m
 dead :∀nm,H nm=none→e.φ nm=.dead
end Go.Sep
namespace Go.Sep
set_option linter.unusedVariables false
set_option linter.unusedSimpArgs false
def bX (w w':World):Prop:=w'.os=w.os∧w'.tape=w.tape∧w'.output=w.output
theorem bX.refl (w:World):bX w w:=⟨rfl,rfl,rfl⟩
theorem bX.trans {w w' w'':World} (h:bX w w') (h':bX w' w''):bX w w'':=⟨h'.1.trans h.1,h'.2.1.trans h.2.1,h'.2.2.trans h.2.2⟩
structure dH (e:Env) (H:Nat→Option Row) (Lf:Nat→List Nat) (F:Nat→Prop) (e':Env) (H':Nat→Option Row) (Lf':Nat→List Nat):Prop where
 num:e'.num=e.num
 w0:e'.w0=e.w0
 Fr:e'.Fr=e.Fr
 Bo:e'.Bo=e.Bo
 io:bX e.w e'.w
 size:e.w.heap.size≤e'.w.heap.size
 keep :∀b,b<e.w.heap.size→(∀nm,F nm→H nm≠none→b∉Lf nm)→e'.w.heap[b]?=e.w.heap[b]?
 φ :∀nm,¬F nm→e'.φ nm=e.φ nm
 φF :∀nm,F nm→H nm≠none→e'.φ nm=e.φ nm∨e'.φ nm=.dead
 rest :∀nm,¬F nm→H' nm=H nm
 row :∀nm row,F nm→H' nm=some row→uQ e' nm row (Lf' nm)
 nodup :∀nm,F nm→H' nm≠none→(Lf' nm).Nodup
 blk :∀nm,F nm→H' nm≠none→∀b∈Lf' nm,b<e'.w.heap.size∧(e.w.heap.size≤b∨∃m,F m∧H m≠none∧b∈Lf m)
 dis :∀n m,F n→F m→H' n≠none→H' m≠none→n≠m→∀b∈Lf' n,b∉Lf' m
 dead :∀nm,F nm→H' nm=none→e'.φ nm=.dead
open Classical in
noncomputable def mix (F:Nat→Prop) (Lf Lf':Nat→List Nat) (nm:Nat):List Nat:=if F nm then Lf' nm else Lf nm
theorem fT {F:Nat→Prop} {Lf Lf':Nat→List Nat} {nm:Nat} (h:F nm):mix F Lf Lf' nm=Lf' nm:=by simp [mix,h]
theorem eZ {F:Nat→Prop} {Lf Lf':Nat→List Nat} {nm:Nat} (h :¬F nm):mix F Lf Lf' nm=Lf nm:=by simp [mix,h]
structure Ok (e:Env) (L0:List Nat) (H:Nat→Option Row) (Lf:Nat→List Nat):Prop where
 size0:e.w0.heap.size≤e.w.heap.size
 io0:bX e.w0 e.w
 fr :∀b,e.Fr b∨e.Bo b→b<e.w0.heap.size∧b∉L0
 keep0 :∀b,b<e.w0.heap.size→b∉L0→e.w.heap[b]?=e.w0.heap[b]?
 own0 :∀nm,H nm≠none→∀b∈Lf nm,b∈L0∨e.w0.heap.size≤b
 rh:RH e H Lf
theorem Ok.frozen_cell {e:Env} {L0:List Nat} {H:Nat→Option Row} {Lf:Nat→List Nat} (h:Ok e L0 H Lf) {b:Nat} (hb:e.Fr b∨e.Bo b) (o:Nat) :
  e.w.cell? ⟨b,o,none⟩=e.w0.cell? ⟨b,o,none⟩ :=
 uT (h.keep0 b (h.fr b hb).1 (h.fr b hb).2) o
theorem dH.keeps {e e':Env} {H H':Nat→Option Row} {Lf Lf':Nat→List Nat} {F A:Nat→Prop} {L:List Nat} (t:dH e H Lf F e' H' Lf')
  (hφ :∀nm,A nm→F nm→H nm=none→e'.φ nm=.dead) (hd :∀nm,H nm=none→e.φ nm=.dead)
  (hL :∀b∈L,b<e.w.heap.size∧∀nm,F nm→H nm≠none→b∉Lf nm):dC e e' A L where
 num:=t.num
 fr m b h:=by cases m<;>simp_all [Env.frozen,t.Fr,t.Bo]
 cells b h o:=by rw [t.w0]
 φ nm hn:=by
  by_cases hF:F nm
  ·by_cases hH:H nm=none
   ·exact .inr (hφ nm hn hF hH)
   ·exact t.φF nm hF hH
  ·exact .inl (t.φ nm hF)
 own b hb:=t.keep b (hL b hb).1 (hL b hb).2
theorem dH.ok {e e':Env} {L0:List Nat} {H H':Nat→Option Row} {Lf Lf':Nat→List Nat} {F A:Nat→Prop} (t:dH e H Lf F e' H' Lf') (h:Ok e L0 H Lf)
  (hb :∀nm row,H nm=some row→yM A row.2) (hφ :∀nm,A nm→F nm→H nm=none→e'.φ nm=.dead):Ok e' L0 H' (mix F Lf Lf') where
 size0:=by rw [t.w0]; exact Nat.le_trans h.size0 t.size
 io0:=by rw [t.w0]; exact h.io0.trans t.io
 fr b hb:=by rw [t.w0]; rw [t.Fr,t.Bo] at hb; exact h.fr b hb
 keep0 b h1 h2:=by
  rw [t.w0] at h1⊢
  rw [t.keep b (Nat.lt_of_lt_of_le h1 h.size0) (fun nm _ hn hm=>?_)]
  ·exact h.keep0 b h1 h2
  ·rcases h.own0 nm hn b hm with h3 | h3
   ·exact h2 h3
   ·omega
 own0 nm hn b hb':=by
  rw [t.w0]
  by_cases hF:F nm
  ·rw [fT hF] at hb'
   obtain ⟨_,h3 | ⟨m,h4,h5,h6⟩⟩:=t.blk nm hF hn b hb'
   ·exact .inr (Nat.le_trans h.size0 h3)
   ·exact h.own0 m h5 b h6
  ·rw [eZ hF] at hb'
   rw [t.rest nm hF] at hn
   exact h.own0 nm hn b hb'
 rh:={
  row:=fun nm row hr=>by
   by_cases hF:F nm
   ·rw [fT hF]; exact t.row nm row hF hr
   ·rw [eZ hF]
    rw [t.rest nm hF] at hr
    refine (h.rh.row nm row hr).keep (t.keeps hφ h.rh.dead ?_) (t.φ nm hF) (hb nm row hr)
    intro b hb'
    refine ⟨(h.rh.blk nm (by simp [hr]) b hb').1,fun m hm hn=>?_⟩
    exact h.rh.dis nm m (by simp [hr]) hn (fun he=>hF (he▸hm)) b hb'
  nodup:=fun nm hn=>by
   by_cases hF:F nm
   ·rw [fT hF]; exact t.nodup nm hF hn
   ·rw [eZ hF]; rw [t.rest nm hF] at hn; exact h.rh.nodup nm hn
  blk:=fun nm hn b hb'=>by
   rw [t.Fr,t.Bo]
   by_cases hF:F nm
   ·rw [fT hF] at hb'
    obtain ⟨h2,h3 | ⟨m,h4,h5,h6⟩⟩:=t.blk nm hF hn b hb'
    ·refine ⟨h2,?_,?_⟩
     ·intro hf; have:=(h.fr b (.inl hf)).1; have:=h.size0; omega
     ·intro hf; have:=(h.fr b (.inr hf)).1; have:=h.size0; omega
    ·exact ⟨h2,(h.rh.blk m h5 b h6).2⟩
   ·rw [eZ hF] at hb'
    rw [t.rest nm hF] at hn
    have:=h.rh.blk nm hn b hb'
    exact ⟨Nat.lt_of_lt_of_le this.1 t.size,this.2⟩
  dis:=fun n m hn hm hne b hb1 hb2=>by
   by_cases hF:F n<;>by_cases hG:F m
   ·rw [fT hF] at hb1; rw [fT hG] at hb2
    exact t.dis n m hF hG hn hm hne b hb1 hb2
   ·rw [fT hF] at hb1; rw [eZ hG] at hb2
    rw [t.rest m hG] at hm
    obtain ⟨_,h3 | ⟨k,h4,h5,h6⟩⟩:=t.blk n hF hn b hb1
    ·have:=(h.rh.blk m hm b hb2).1; omega
    ·exact h.rh.dis k m h5 hm (fun he=>hG (he▸h4)) b h6 hb2
   ·rw [eZ hF] at hb1; rw [fT hG] at hb2
    rw [t.rest n hF] at hn
    obtain ⟨_,h3 | ⟨k,h4,h5,h6⟩⟩:=t.blk m hG hm b hb2
    ·have:=(h.rh.blk n hn b hb1).1; omega
    ·exact h.rh.dis k n h5 hn (fun he=>hF (he▸h4)) b h6 hb1
   ·rw [eZ hF] at hb1; rw [eZ hG] at hb2
    rw [t.rest n hF] at hn; rw [t.rest m hG] at hm
    exact h.rh.dis n m hn hm hne b hb1 hb2
  dead:=fun nm hn=>by
   by_cases hF:F nm
   ·exact t.dead nm hF hn
   ·rw [t.φ nm hF]; rw [t.rest nm hF] at hn; exact h.rh.dead nm hn}
end Go.Sep
namespace Go.Sep
set_option linter.unusedVariables false
set_option linter.unusedSimpArgs false
inductive Arg where
 | t (n:Nat)
 | c (v:AV)
inductive MOp where
 | mv (x:Arg)
 | pick (c a b:Arg)
 | alloc (zero:List AV)
 | box (x:Arg)
 | build (zero:List AV) (parts:List (Nat×Nat×Arg))
 | mkSl (zero:List AV) (len:Nat) (parts:List (Nat×Arg))
 | load (n:Nat) (ag:Bool) (a:Arg)
 | store (n:Nat) (a v:Arg)
 | nilck (x:Arg)
 | bin (op:BinOp) (x y:Arg)
 | eqS (neg:Bool) (ks:List Bool) (x y:Arg)
 | eqB (neg:Bool) (x y:Arg)
 | neNil (x:Arg)
 | un (op:UnOp) (x:Arg)
 | cvi (k:IntKind) (x:Arg)
 | cvs (x:Arg)
 | mkS (zero:List AV) (bytes:Nat) (l c:Arg)
 | cut (sz:Nat) (x:Arg) (lo hi:Option Arg)
 | cutS (x:Arg) (lo hi:Option Arg)
 | fad (off:Nat) (x:Arg)
 | fld (off n:Nat) (ag:Bool) (x:Arg)
 | iad (sz:Nat) (x i:Arg)
 | idx (x i:Arg)
 | ext (x:Arg) (i:Nat)
 | len (x:Arg)
 | lenS (x:Arg)
 | mx (x y:Arg)
 | app (sz bytes:Nat) (s x:Arg)
 | clr (zero:List AV) (x:Arg)
 | call (f:Nat) (ps:List Bool) (xs:List Arg)
 | calv (g:Arg) (xs:List Arg)
structure yA where
 dst:Option Nat
 op:MOp
 guard:Option (Nat×Bool):=none
inductive vT where
 | done
 | take (i:Nat) (o:yA) (k:vT)
 | only (i:Nat) (deps:List Nat) (o:yA) (k:vT)
 | both (i:Nat) (di:List Nat) (o:yA) (k:vT) (j:Nat) (dj:List Nat) (p:yA) (l:vT)
 | tri (i:Nat) (di:List Nat) (o:yA) (k:vT) (j:Nat) (dj:List Nat) (p:yA) (l:vT) (m:Nat) (dm:List Nat) (q:yA) (r:vT)
inductive bA where
 | skip
 | dreg (tr:vT)
 | reg (draw:Bool) (ops:List yA)
 | seq (a b:bA)
 | cond (x:Nat) (a b:bA)
 | blk (id:Nat) (a:bA)
 | loop (a:bA)
 | exit (id:Nat)
 | ret
inductive qCl where
 | t (n:Nat)
 | cell (a n:Nat) (ag:Bool)
structure MFn where
 ntmps:Nat
 results:List qCl
 body:bA
inductive AS where
 | mk (t:List (Nat×AV)) (h:wM) (nx:Nat)
 | bad
def qV:List (Nat×AV)→Nat→AV
 | [],_=>.any
 | (m,v)::l,n=>if n=m then v else qV l n
def qW0 (l:List (Nat×AV)) (n:Nat) (v:AV):List (Nat×AV):=(n,v)::l
def bH (l:List (Nat×AV)):Option Nat→AV→List (Nat×AV)
 | none,_=>l
 | some n,v=>qW0 l n v
def Arg.ev (ρ:Nat→AV):Arg→AV
 | .t n=>ρ n
 | .c v=>v
def put:wM→Nat→Row→wM
 | [],n,r=>[(n,r)]
 | (m,s)::h,n,r=>if n=m then (m,r)::h else (m,s)::put h n r
def del:wM→Nat→wM
 | [],_=>[]
 | (m,s)::h,n=>if n=m then del h n else (m,s)::del h n
abbrev FP:=List (Nat×Option Row×Option Row)
def dJ (h:wM):FP→wM
 | []=>h
 | (n,_,some r)::fp=>dJ (put h n r) fp
 | (n,_,none)::fp=>dJ (del h n) fp
def cellsOf:AV→List AV
 | .agg cs=>cs
 | v=>[v]
def yR:Nat→List AV→List AV×List (Nat×Row)×Nat
 | n,[]=>([],[],n)
 | n,.sl .own sz rows::l=>(.ns n 0 rows.length::(yR (n+1) l).1,(n,(sz,rows))::(yR (n+1) l).2.1,(yR (n+1) l).2.2)
 | n,v::l=>(v::(yR n l).1,(yR n l).2.1,(yR n l).2.2)
def fresh (l:List (Nat×Row)):FP:=l.map fun x=>(x.1,none,some x.2)
def bU (r:List AV) (f:Nat) (cs:List AV):List AV:=r.take f++cs++r.drop (f+cs.length)
def qHi (ρ:Nat→AV):List AV→List (Nat×Nat×Arg)→List AV
 | cs,[]=>cs
 | cs,(off,_,x)::l=>qHi ρ (bU cs off (cellsOf (x.ev ρ))) l
def qAt (ρ:Nat→AV) (n:Nat):List (Nat×Nat×Arg)→Prop
 | []=>True
 | (off,sz,x)::l=>((cellsOf (x.ev ρ)).length=sz∧(cellsOf (x.ev ρ)).all yK=true∧off+sz≤n)∧qAt ρ n l
def tC (ρ:Nat→AV):List (List AV)→List (Nat×Arg)→List (List AV)
 | rs,[]=>rs
 | rs,(i,x)::l=>tC ρ (rs.set i (cellsOf (x.ev ρ))) l
def oT (ρ:Nat→AV) (n sz:Nat):List (Nat×Arg)→Prop
 | []=>True
 | (i,x)::l=>(i<n∧(cellsOf (x.ev ρ)).length=sz∧(cellsOf (x.ev ρ)).all yK=true)∧oT ρ n sz l
def sR:AV→Bool
 | .sl .own _ _=>true
 | .agg _ | .tup _ | .fn _ _=>true
 | _=>false
def free (rows:List (List AV)):Prop :=∀r∈rows,∀c∈r,sR c=false
def eqC:List Bool→List AV→List AV→Option Bool
 | [],[],[]=>some true
 | true::ks,.int k a::xs,.int k' b::ys=>if k=k' then (eqC ks xs ys).map (fun r=>decide (a=b)&&r) else none
 | false::ks,.bool a::xs,.bool b::ys=>(eqC ks xs ys).map (fun r=>(a==b)&&r)
 | _,_,_=>none
abbrev Out:=Option (Prop×AV×FP×Nat)
def ok (v:AV) (n:Nat):Out:=some (True,v,[],n)
def qMf (k:IntKind) (a b:Int):Int:=k.wrap (BitVec.ofInt k.bits a &&& BitVec.ofInt k.bits b).toNat
def bOr (k:IntKind) (a b:Int):Int:=k.wrap (BitVec.ofInt k.bits a ||| BitVec.ofInt k.bits b).toNat
def qY1 (k:IntKind) (a b:Int):Int:=k.wrap (BitVec.ofInt k.bits a ^^^ BitVec.ofInt k.bits b).toNat
def qSb (k:IntKind) (a b:Int):Int:=k.wrap (a*2^(min b.toNat k.bits))
def qMe (k:IntKind) (a b:Int):Int:=a.fdiv (2^(min b.toNat k.bits))
def qDh (op:BinOp) (k:IntKind) (a b:Int):Option (Prop×AV) :=
 match op with
 | .shl=>some (0≤b,.int k (qSb k a b))
 | .shr=>some (0≤b,.int k (qMe k a b))
 | _=>none
def qB0 (op:BinOp) (x y:AV):Option (Prop×AV) :=
 match x,y with
 | .int k a,.int k' b =>
  if k=k' then
   match op with
   | .add=>some (True,.int k (k.wrap (a+b)))
   | .sub=>some (True,.int k (k.wrap (a-b)))
   | .mul=>some (True,.int k (k.wrap (a*b)))
   | .quo=>some (b≠0,.int k (k.wrap (a.tdiv b)))
   | .rem=>some (b≠0,.int k (a.tmod b))
   | .eql=>some (True,.bool (decide (a=b)))
   | .neq=>some (True,.bool (!decide (a=b)))
   | .lss=>some (True,.bool (decide (a<b)))
   | .leq=>some (True,.bool (decide (a≤b)))
   | .gtr=>some (True,.bool (decide (b<a)))
   | .geq=>some (True,.bool (decide (b≤a)))
   | .and=>some (True,.int k (qMf k a b))
   | .or=>some (True,.int k (bOr k a b))
   | .xor=>some (True,.int k (qY1 k a b))
   | .shl=>some (0≤b,.int k (qSb k a b))
   | .shr=>some (0≤b,.int k (qMe k a b))
   | _=>none
  else qDh op k a b
 | .str a,.str b =>
  match op with
  | .add=>some (((a.size+b.size:Nat):Int)≤9223372036854775807,.str (a++b))
  | .eql=>some (True,.bool (decide (a=b)))
  | .neq=>some (True,.bool (!decide (a=b)))
  | _=>none
 | _,_=>none
def iT (h:wM) (sz:Nat):AV→Option (Prop×List (List AV)×FP)
 | .nil=>some (True,[],[])
 | .ns nm off len=>(qM h nm).map fun row=>(row.1=sz∧off+len≤row.2.length∧free ((row.2.drop off).take len),(row.2.drop off).take len,[(nm,some row,some row)])
 | .sl .bw s rows=>some (s=sz∧free rows,rows,[])
 | .sl .fz s rows=>some (s=sz∧free rows,rows,[])
 | _=>none
def eC:List (List AV)→Option (List UInt8)
 | []=>some []
 | [.int .u8 n]::l=>(eC l).map (UInt8.ofNat n.toNat::·)
 | _=>none
def xU (ρ:Nat→AV) (d:Int):Option Arg→Option Int
 | none=>some d
 | some a=>match a.ev ρ with
  | .int _ n=>some n
  | _=>none
def wH (ρ:Nat→AV) (h:wM) (nx:Nat):MOp→Out
 | .mv x=>ok (x.ev ρ) nx
 | .pick c a b=>match c.ev ρ with
  | .bool q=>match a.ev ρ,b.ev ρ with
   | .bool x,.bool y=>ok (.bool (bif q then x else y)) nx
   | x,y=>ok (bif q then x else y) nx
  | _=>none
 | .alloc zero=>some (0<zero.length,.ptr nx 0 0,[(nx,none,some (zero.length,[zero]))],nx+1)
 | .box x=>some ((cellsOf (x.ev ρ)).all yK=true∧0<(cellsOf (x.ev ρ)).length,.ptr nx 0 0,[(nx,none,some ((cellsOf (x.ev ρ)).length,[cellsOf (x.ev ρ)]))],nx+1)
 | .build zero parts=>some (qAt ρ zero.length parts,.agg (qHi ρ zero parts),[],nx)
 | .mkSl zero len parts=>some (oT ρ len zero.length parts,.ns nx 0 len,[(nx,none,some (zero.length,tC ρ (qZ2 len zero) parts))],nx+1)
 | .load n ag a=>match a.ev ρ with
  | .ptr nm i f=>(qM h nm).map fun row =>
   let o:=yR nx (((row.2.getD i []).drop f).take n)
   (i<row.2.length∧f+n≤(row.2.getD i []).length,if ag then .agg o.1 else o.1.getD 0 .any,
    (nm,some row,some (if o.2.1.isEmpty then row else (row.1,row.2.set i (bU (row.2.getD i []) f o.1))))::fresh o.2.1,o.2.2)
  | .fptr m cells f=>some (f+n≤cells.length,if ag then .agg ((cells.drop f).take n) else ((cells.drop f).take n).getD 0 .any,[],nx)
  | _=>none
 | .store n a v=>match a.ev ρ with
  | .ptr nm i f=>(qM h nm).map fun row =>
   ((cellsOf (v.ev ρ)).length=n∧(cellsOf (v.ev ρ)).all yK=true∧i<row.2.length∧f+n≤(row.2.getD i []).length,.any,
    [(nm,some row,some (row.1,row.2.set i (bU (row.2.getD i []) f (cellsOf (v.ev ρ)))))],nx)
  | _=>none
 | .nilck x=>match x.ev ρ with
  | .ptr nm i f=>(qM h nm).map fun row=>(True,.ptr nm i f,[(nm,some row,some row)],nx)
  | .fptr m cs f=>ok (.fptr m cs f) nx
  | _=>none
 | .bin op x y=>(qB0 op (x.ev ρ) (y.ev ρ)).map fun r=>(r.1,r.2,[],nx)
 | .eqS neg ks x y=>match x.ev ρ,y.ev ρ with
  | .agg xs,.agg ys=>(eqC ks xs ys).map fun r=>(True,.bool (if neg then !r else r),[],nx)
  | _,_=>none
 | .eqB neg x y=>match x.ev ρ,y.ev ρ with
  | .bool a,.bool b=>ok (.bool (if neg then !(a==b) else a==b)) nx
  | _,_=>none
 | .neNil x=>match x.ev ρ with
  | .nilI=>ok (.bool false) nx
  | .ifc=>ok (.bool true) nx
  | _=>none
 | .un op x=>match op,x.ev ρ with
  | .not,.bool b=>ok (.bool !b) nx
  | .neg,.int k n=>ok (.int k (k.wrap (0-n))) nx
  | _,_=>none
 | .cvi k x=>match x.ev ρ with
  | .int _ n=>ok (.int k (k.wrap n)) nx
  | _=>none
 | .cvs x=>(iT h 1 (x.ev ρ)).bind fun r=>(eC r.2.1).map fun l=>(r.1,.str ⟨l.toArray⟩,r.2.2,nx)
 | .mkS zero bytes l c=>match l.ev ρ,c.ev ρ with
  | .int .i64 a,.int .i64 b=>some (a=b∧0≤a∧(bytes:Int)*a≤2^47∧a≤2^47,.ns nx 0 a.toNat,[(nx,none,some (zero.length,qZ2 a.toNat zero))],nx+1)
  | _,_=>none
 | .cut sz x lo hi=>(xU ρ 0 lo).bind fun l =>
   match x.ev ρ with
   | .nil=>(xU ρ 0 hi).map fun h=>(l=0∧h=0,.nil,[],nx)
   | .ns nm off len=>(qM h nm).bind fun row=>(xU ρ len hi).map fun h =>
     (row.1=sz∧off+len≤row.2.length∧0≤l∧l≤h∧h≤len,.ns nm (off+l.toNat) (h.toNat-l.toNat),[(nm,some row,some row)],nx)
   | .sl .bw s rows=>(xU ρ rows.length hi).map fun h=>(s=sz∧0≤l∧l≤h∧h≤rows.length,.sl .bw s ((rows.drop l.toNat).take (h.toNat-l.toNat)),[],nx)
   | .sl .fz s rows=>(xU ρ rows.length hi).map fun h=>(s=sz∧0≤l∧l≤h∧h≤rows.length,.sl .fz s ((rows.drop l.toNat).take (h.toNat-l.toNat)),[],nx)
   | _=>none
 | .cutS x lo hi=>(xU ρ 0 lo).bind fun l =>
   match x.ev ρ with
   | .str s=>(xU ρ s.size hi).map fun h=>(0≤l∧l≤h∧h≤s.size,.str (s.extract l.toNat h.toNat),[],nx)
   | _=>none
 | .fad off x=>match x.ev ρ with
  | .ptr nm i f=>(qM h nm).map fun row=>(True,.ptr nm i (f+off),[(nm,some row,some row)],nx)
  | .fptr m cs f=>ok (.fptr m cs (f+off)) nx
  | _=>none
 | .fld off n ag x=>match x.ev ρ with
  | .agg cs=>some (off+n≤cs.length,if ag then .agg ((cs.drop off).take n) else cs.getD off .any,[],nx)
  | _=>none
 | .iad sz x i=>match x.ev ρ,i.ev ρ with
  | .ns nm off len,.int _ j=>(qM h nm).map fun row=>(row.1=sz∧off+len≤row.2.length∧0≤j∧j<len,.ptr nm (off+j.toNat) 0,[(nm,some row,some row)],nx)
  | .sl .bw s rows,.int _ j=>some (s=sz∧0≤j∧j<rows.length,.fptr .bw (rows.getD j.toNat []) 0,[],nx)
  | .sl .fz s rows,.int _ j=>some (s=sz∧0≤j∧j<rows.length,.fptr .fz (rows.getD j.toNat []) 0,[],nx)
  | _,_=>none
 | .idx x i=>match x.ev ρ,i.ev ρ with
  | .str s,.int _ j=>some (0≤j∧j<s.size,.int .u8 ((s.data.getD j.toNat 0).toNat:Nat),[],nx)
  | _,_=>none
 | .ext x i=>match x.ev ρ with
  | .tup vs=>some (i<vs.length,vs.getD i .any,[],nx)
  | _=>none
 | .len x=>match x.ev ρ with
  | .nil=>ok (.int .i64 0) nx
  | .ns nm off l=>(qM h nm).map fun row=>(True,.int .i64 l,[(nm,some row,some row)],nx)
  | .sl .bw _ rows=>ok (.int .i64 rows.length) nx
  | .sl .fz _ rows=>ok (.int .i64 rows.length) nx
  | _=>none
 | .lenS x=>match x.ev ρ with
  | .str s=>ok (.int .i64 s.size) nx
  | _=>none
 | .mx x y=>match x.ev ρ,y.ev ρ with
  | .int k a,.int k' b=>if k=k' then ok (.int k (if b>a then b else a)) nx else none
  | _,_=>none
 | .app sz bytes s x=>(iT h sz (x.ev ρ)).bind fun r =>
  match s.ev ρ with
  | .nil=>some (r.1∧0<sz∧bytes*r.2.1.length≤2^47∧r.2.1.length≤2^47,.ns nx 0 r.2.1.length,r.2.2++[(nx,none,some (sz,r.2.1))],nx+1)
  | .ns nm off len=>(qM h nm).map fun row=>(r.1∧0<sz∧row.1=sz∧off+len=row.2.length∧(∀x∈r.2.2,x.1≠nm)∧bytes*(len+r.2.1.length)≤2^47∧len+r.2.1.length≤2^47,
    .ns nx 0 (len+r.2.1.length),r.2.2++[(nm,some row,none),(nx,none,some (sz,row.2.drop off++r.2.1))],nx+1)
  | _=>none
 | .clr zero x=>match x.ev ρ with
  | .ns nm off len=>(qM h nm).map fun row=>(row.1=zero.length∧off+len=row.2.length,.any,[(nm,some row,some (row.1,row.2.take off++qZ2 len zero))],nx)
  | _=>none
 | .call _ _ _ | .calv _ _=>none
def zS:MOp→Bool
 | .alloc _ | .box _ | .mkSl .. | .store .. | .mkS .. | .app .. | .clr .. | .call .. | .calv ..=>false
 | _=>true
def qEg:MOp→Bool
 | .call .. | .calv ..=>true
 | _=>false
end Go.Sep
namespace Go.Sep
set_option linter.unusedVariables false
set_option linter.unusedSimpArgs false
theorem eR (b o j:Nat):(⟨b,o,none⟩:Addr).add j=⟨b,o+j,none⟩:=by
 unfold Addr.add
 by_cases h:j=0
 ·simp [h]
 ·simp [h]
theorem qFt {P:Program} {w:World} {a:Addr} {v:Value} (h:w.cell? a=some v):(load a).run P w=.ok v w:=by
 simp [run_load,h]
theorem fN {P:Program} {w:World} {b o:Nat} :∀(n i:Nat) (vs:List Value) (acc:Array Value),vs.length=n→
  (∀j,j<n→w.cell? ⟨b,o+(i+j),none⟩=vs[j]?)→(loadCellsFrom ⟨b,o,none⟩ i n acc).run P w=.ok (acc++vs.toArray) w
 | 0,i,vs,acc,hl,h=>by
  have:vs=[]:=List.length_eq_zero_iff.1 hl
  subst this
  simp [loadCellsFrom]
 | n+1,i,[],acc,hl,h=>by simp at hl
 | n+1,i,v::vs,acc,hl,h=>by
  have h0:w.cell? ⟨b,o+i,none⟩=some v:=by simpa using h 0 (by omega)
  simp only [loadCellsFrom,eR,Sem.run_bind,qFt h0,Result.andThen_ok]
  rw [fN n (i+1) vs (acc.push v) (by simpa using hl) (fun j hj=>by
   have:=h (j+1) (by omega)
   rw [show o+(i+1+j)=o+(i+(j+1)) by omega]
   simpa using this)]
  simp
theorem aV {P:Program} {w:World} {b o n:Nat} {vs:List Value} (hl:vs.length=n) (h :∀j,j<n→w.cell? ⟨b,o+j,none⟩=vs[j]?) :
  (loadCells ⟨b,o,none⟩ n).run P w=.ok vs.toArray w:=by
 unfold loadCells
 rw [fN n 0 vs #[] hl (by simpa using h)]
 simp
def vO (arr:Array Value) (o:Nat):List Value→Array Value
 | []=>arr
 | v::vs=>vO (arr.setIfInBounds o v) (o+1) vs
theorem oA (arr:Array Value) (o:Nat) (vs:List Value):(vO arr o vs).size=arr.size:=by
 induction vs generalizing arr o with
 | nil=>rfl
 | cons v vs ih=>simp [vO,ih]
theorem zP (arr:Array Value) (o:Nat) (vs:List Value) (k:Nat) (h:k<o∨o+vs.length≤k):(vO arr o vs)[k]?=arr[k]?:=by
 induction vs generalizing arr o with
 | nil=>rfl
 | cons v vs ih =>
  simp only [vO]
  simp only [qZ3] at h
  rw [ih _ _ (by omega),Array.getElem?_setIfInBounds_ne (by omega)]
theorem oZ (arr:Array Value) (o:Nat) (vs:List Value) (j:Nat) (hj:j<vs.length) (h:o+vs.length≤arr.size):(vO arr o vs)[o+j]?=vs[j]?:=by
 induction vs generalizing arr o j with
 | nil=>simp at hj
 | cons v vs ih =>
  simp only [vO,qZ3] at h hj⊢
  cases j with
  | zero =>
   rw [zP _ _ _ _ (by omega)]
   have:o<arr.size:=by omega
   simp [this]
  | succ j =>
   rw [show o+(j+1)=o+1+j by omega,ih _ _ j (by omega) (by simp; omega)]
   simp
def World.setBlk (w:World) (b:Nat) (o:Obj):World:={w with heap:=w.heap.setIfInBounds b o}
theorem fM (w:World) (b:Nat) (o:Obj):(World.setBlk w b o).heap.size=w.heap.size:=by simp [World.setBlk]
theorem zJ (w:World) (b c:Nat) (o:Obj) (h:b≠c):(World.setBlk w b o).heap[c]?=w.heap[c]?:=by
 simp [World.setBlk,Array.getElem?_setIfInBounds_ne h]
theorem oF (w:World) (b:Nat) (o:Obj) (h:b<w.heap.size):(World.setBlk w b o).heap[b]?=some o:=by
 simp [World.setBlk,h]
theorem qKk {w:World} {b o:Nat} {arr:Array Value} {ty:TypeId} {fz:Nat×Nat} {v:Value} (h:w.heap[b]?=some (.cells arr ty fz)) :
  w.setCell ⟨b,o,none⟩ v=World.setBlk w b (.cells (arr.setIfInBounds o v) ty fz):=by
 have hb:=(Array.getElem?_eq_some_iff.1 h).1
 have hv:=(Array.getElem?_eq_some_iff.1 h).2
 unfold World.setCell World.setBlk
 congr 1
 apply Array.ext_getElem?
 intro i
 rw [Array.getElem?_modify]
 by_cases hi:b=i
 ·subst hi
  simp [hb,hv]
 ·simp [hi,Array.getElem?_setIfInBounds_ne hi]
theorem zG {w:World} {b o:Nat} {arr:Array Value} {ty:TypeId} {fz:Nat×Nat} (h:w.heap[b]?=some (.cells arr ty fz)):w.cell? ⟨b,o,none⟩=arr[o]?:=by
 simp [World.cell?,h]
theorem qFs (w:World) (b:Nat) (o o':Obj):World.setBlk (World.setBlk w b o) b o'=World.setBlk w b o':=by
 simp [World.setBlk]
theorem xY {P:Program} {b ty:Nat} :∀(vs:List Value) (w:World) (o i:Nat) (arr:Array Value),w.heap[b]?=some (.cells arr ty (0,0))→(∀v∈vs,v.oneCell'=true)→
  o+i+vs.length≤arr.size→(storeCells ⟨b,o,none⟩ vs i).run P w=.ok () (World.setBlk w b (.cells (vO arr (o+i) vs) ty (0,0)))
 | [],w,o,i,arr,hb,hv,hs=>by
  have h1:=(Array.getElem?_eq_some_iff.1 hb).1
  have h2:=(Array.getElem?_eq_some_iff.1 hb).2
  have:World.setBlk w b (.cells (vO arr (o+i) []) ty (0,0))=w:=by
   unfold World.setBlk vO
   congr 1
   apply Array.ext_getElem?
   intro k
   by_cases hk:b=k
   ·subst hk; simp [h1,h2]
   ·simp [Array.getElem?_setIfInBounds_ne hk]
  rw [this]
  simp [storeCells]
 | v::vs,w,o,i,arr,hb,hv,hs=>by
  simp only [qZ3] at hs
  have hc:w.cell? ⟨b,o+i,none⟩=some (arr[o+i]'(by omega)):=by rw [zG hb]; exact Array.getElem?_eq_getElem (by omega)
  have hf:w.frozen? ⟨b,o+i,none⟩=false:=by simp [World.frozen?,hb]
  have h1:=(Array.getElem?_eq_some_iff.1 hb).1
  unfold storeCells
  simp only [eR,Sem.run_bind]
  rw [run_store P w _ v .plain (hv v (by simp))]
  simp only [hc,hf,qZ4,if_false,Result.andThen_ok]
  rw [qKk hb]
  have hb':(World.setBlk w b (.cells (arr.setIfInBounds (o+i) v) ty (0,0))).heap[b]?=some (.cells (arr.setIfInBounds (o+i) v) ty (0,0)):=oF _ _ _ h1
  rw [xY vs _ o (i+1) _ hb' (fun u hu=>hv u (by simp [hu])) (by simp; omega)]
  rw [qFs]
  rfl
theorem xG {P:Program} {w:World} (t:TypeId) (cs:Array Value):(newRow t cs).run P w=.ok ⟨w.heap.size,0,none⟩ (w.alloc (.cells cs t)):=by
 simp [newRow]
theorem wF {P:Program} {w:World} {t:TypeId} {d:TypeDesc} (h:P.underlying t=some d):(underlying t).run P w=.ok d w:=by
 simp [underlying,h]
theorem dW {P:Program} {w:World} {t:TypeId} {i:TypeInfo} (h:P.info? t=some i):(typeInfo t).run P w=.ok i w:=by
 simp [typeInfo,h]
theorem uF {P:Program} {w:World} {t:TypeId} {i:TypeInfo} (h:P.info? t=some i):(sizeOf t).run P w=.ok i.size w:=by
 simp [sizeOf,dW h]
theorem dN {P:Program} {w:World} {t:TypeId} {i:TypeInfo} {z:Value} (h:P.info? t=some i) (hz:i.zero=some z):(zeroValue t).run P w=.ok z w:=by
 simp [zeroValue,dW h,hz]
def qCh (P:Program) (t:TypeId):Option Bool:=(P.underlying t).map fun | .struct _ | .array _ _=>true | _=>false
theorem qA4 {P:Program} {w:World} {t:TypeId} {ag:Bool} (h:qCh P t=some ag):(isAgg t).run P w=.ok ag w:=by
 unfold qCh at h
 cases hu:P.underlying t with
 | none=>simp [hu] at h
 | some d =>
  simp [hu] at h
  subst h
  cases d<;>simp [isAgg,wF hu]
theorem mM {P:Program} {w:World} {t:TypeId} {ag:Bool} {i:TypeInfo} {b o:Nat} {vs:List Value} (h:qCh P t=some ag) (hi:P.info? t=some i)
  (h1:ag=false→i.size=1) (hl:vs.length=i.size) (hc :∀j,j<i.size→w.cell? ⟨b,o+j,none⟩=vs[j]?) :
  (loadVar t ⟨b,o,none⟩).run P w=.ok (if ag then .agg vs.toArray else vs.getD 0 undef) w:=by
 unfold loadVar
 simp only [Sem.run_bind,qA4 h,Result.andThen_ok]
 cases ag with
 | true=>simp [uF hi,aV hl hc]
 | false =>
  have h0:=h1 rfl
  have hc0:w.cell? ⟨b,o,none⟩=vs[0]?:=by simpa using hc 0 (by omega)
  have:0<vs.length:=by omega
  rw [List.getElem?_eq_getElem this] at hc0
  simp [run_load,hc0,this]
theorem qIq {P:Program} {w:World} {t:TypeId} {i:TypeInfo} {b o:Nat} {v:Value} {arr:Array Value} {ty:TypeId} (hi:P.info? t=some i) (hl:v.cells.size=i.size)
  (hb:w.heap[b]?=some (.cells arr ty (0,0))) (hv :∀u∈v.cells.toList,u.oneCell'=true) (hs:o+i.size≤arr.size) :
  (storeVar t ⟨b,o,none⟩ v).run P w=.ok () (World.setBlk w b (.cells (vO arr o v.cells.toList) ty (0,0))):=by
 unfold storeVar
 simp only [Sem.run_bind,uF hi,Result.andThen_ok]
 rw [if_neg (by simpa using hl)]
 rw [xY v.cells.toList w o 0 arr hb hv (by simp; omega)]
 simp
end Go.Sep
namespace Go.Sep
set_option linter.unusedVariables false
set_option linter.unusedSimpArgs false
mutual
def tK:AV→Value→Bool
 | .bool c,v=>(match v with | .bool b=>b==c | _=>false)
 | .int k m,v=>(match v with | .int k' n=>k==k'&&n==m | _=>false)
 | .str t,v=>(match v with | .string s=>decide (s=t) | _=>false)
 | .nil,v=>(match v with | .slice none 0 0=>true | _=>false)
 | .nilp,v=>(match v with | .pointer none=>true | _=>false)
 | .nilI,v=>(match v with | .nilIface=>true | _=>false)
 | .agg ds,v=>(match v with | .agg cs=>nU ds cs.toList | _=>false)
 | _,_=>false
def nU:List AV→List Value→Bool
 | [],vs=>(match vs with | []=>true | _=>false)
 | d::ds,vs=>(match vs with | v::vs=>tK d v&&nU ds vs | _=>false)
end
def uM (num:Nat→Nat):Operand→Arg→Bool
 | .tmp t,.t n=>t==n
 | .const v,.c d=>tK d v
 | .func f,.c (.fn g [])=>f==num g
 | _,_=>false
def qBy (num:Nat→Nat):List Operand→List Arg→Bool
 | [],[]=>true
 | x::xs,y::ys=>uM num x y&&qBy num xs ys
 | _,_=>false
def upH (H:Nat→Option Row):FP→Nat→Option Row
 | []=>H
 | (n,_,r)::fp=>upH (fun m=>if m=n then r else H m) fp
def Tri (P:Program) (num:Nat→Nat) (o:Oper) (ρ:Nat→AV) (v:AV) (fp:FP):Prop :=
 ∀(e:Env) (L0:List Nat) (H:Nat→Option Row) (Lf:Nat→List Nat) (A:Nat→Prop) (a:Act) (K:Act→World→Prop) (Q:Exit→Act→World→Prop),
  e.num=num→Ok e L0 H Lf→(∀x∈fp,H x.1=x.2.1)→(∀t,bnd A (ρ t))→(∀nm row,H nm=some row→yM A row.2)→(∀x∈fp,x.2.1=none→¬A x.1)→(∀t,RV e (ρ t) (a.tmps.getD t undef) [])→
  (∀e' Lf' v',dH e H Lf (fun n=>n∈fp.map (·.1)) e' (upH H fp) Lf'→RV e' v v' []→K (a.put o.dst v') e'.w)→
  o.wp P a e.w K Q
theorem zT {P:Program} {o:Oper} {a:Act} {w w':World} {v:Value} {K:Act→World→Prop} {Q:Exit→Act→World→Prop}
  (h:(execOp a.eval o).run P w=.ok (.value v) w') (k:K (a.put o.dst v) w'):o.wp P a w K Q:=by
 unfold Oper.wp
 rw [h]
 exact k
theorem qMo {P:Program} {o:Oper} {a:Act} {w w':World} {K:Act→World→Prop} {Q:Exit→Act→World→Prop}
  (h:(execOp a.eval o).run P w=.ok .skip w') (k:K (a.put o.dst undef) w'):o.wp P a w K Q:=by
 unfold Oper.wp
 rw [h]
 exact k
theorem iP {H:Nat→Option Row} :∀{fp:FP} {n:Nat},n∉fp.map (·.1)→upH H fp n=H n
 | [],_,_=>rfl
 | (m,p,r)::fp,n,h=>by
  simp only [qZ5,qZ6,not_or] at h
  simp only [upH]
  rw [iP h.2,if_neg h.1]
theorem rJ {H:Nat→Option Row} :∀{fp:FP},(∀x∈fp,H x.1=x.2.1)→(∀x∈fp,x.2.2=x.2.1)→upH H fp=H
 | [],_,_=>rfl
 | (m,p,r)::fp,h1,h2=>by
  simp only [upH]
  have hr:r=H m:=by
   have a:=h1 (m,p,r) (by simp)
   have b:=h2 (m,p,r) (by simp)
   simp at a b
   rw [b,a]
  have:(fun k=>if k=m then r else H k)=H:=by
   funext k
   by_cases hk:k=m
   ·rw [if_pos hk,hk,hr]
   ·rw [if_neg hk]
  rw [this]
  exact rJ (fun x hx=>h1 x (by simp [hx])) (fun x hx=>h2 x (by simp [hx]))
theorem dH.refl {e:Env} {L0:List Nat} {H:Nat→Option Row} {Lf:Nat→List Nat} (F:Nat→Prop) (h:Ok e L0 H Lf):dH e H Lf F e H Lf where
 num:=rfl
 w0:=rfl
 Fr:=rfl
 Bo:=rfl
 io:=bX.refl _
 size:=qZ7 _
 keep _ _ _:=rfl
 φ _ _:=rfl
 φF _ _ _:=.inl rfl
 rest _ _:=rfl
 row nm row _ hr:=h.rh.row nm row hr
 nodup nm _ hn:=h.rh.nodup nm hn
 blk nm hF hn b hb:=⟨(h.rh.blk nm hn b hb).1,.inr ⟨nm,hF,hn,hb⟩⟩
 dis n m _ _ hn hm hne b hb:=h.rh.dis n m hn hm hne b hb
 dead nm _ hn:=h.rh.dead nm hn
def mE (e:Env) (fp:FP) (w':World):Prop :=
 (∀b,e.Fr b∨e.Bo b→∀o,w'.cell? ⟨b,o,none⟩=e.w.cell? ⟨b,o,none⟩)∧∀x∈fp,∀q,e.φ x.1=.at q→w'.heap[q.block]?=e.w.heap[q.block]?
theorem mE.of_heap {e:Env} {fp:FP} {w':World} (h:w'.heap=e.w.heap):mE e fp w':=⟨fun b _ o=>uT (by rw [h]) o,fun _ _ q _=>by rw [h]⟩
theorem mE.refl (e:Env) (fp:FP):mE e fp e.w:=⟨fun _ _ _=>rfl,fun _ _ _ _=>rfl⟩
def aI (P:Program) (num:Nat→Nat) (o:Oper) (ρ:Nat→AV) (v:AV) (fp:FP):Prop :=
 ∀(e:Env) (L0:List Nat) (H:Nat→Option Row) (Lf:Nat→List Nat) (A:Nat→Prop) (a:Act),
  e.num=num→Ok e L0 H Lf→(∀x∈fp,H x.1=x.2.1)→(∀t,bnd A (ρ t))→(∀nm row,H nm=some row→yM A row.2)→(∀x∈fp,x.2.1=none→¬A x.1)→(∀t,RV e (ρ t) (a.tmps.getD t undef) [])→
  ∃v',(∀w',mE e fp w'→(execOp a.eval o).run P w'=.ok (.value v') w')∧∃e' Lf',e'.w=e.w∧dH e H Lf (fun n=>n∈fp.map (·.1)) e' (upH H fp) Lf'∧RV e' v v' []
theorem aI.tri {P:Program} {num:Nat→Nat} {o:Oper} {ρ:Nat→AV} {v:AV} {fp:FP} (h:aI P num o ρ v fp):Tri P num o ρ v fp:=by
 intro e L0 H Lf A a K Q hn hk hpre hb hbh hf ht k
 obtain ⟨v',h1,e',Lf',h2,h3,h4⟩:=h e L0 H Lf A a hn hk hpre hb hbh hf ht
 have:=k e' Lf' v' h3 h4
 rw [h2] at this
 exact zT (h1 e.w (mE.refl e fp)) this
theorem Tri.of_read {P:Program} {num:Nat→Nat} {o:Oper} {ρ:Nat→AV} {v:AV} {fp:FP} (hfp :∀x∈fp,x.2.2=x.2.1)
  (h :∀(e:Env) (L0:List Nat) (H:Nat→Option Row) (Lf:Nat→List Nat) (a:Act),e.num=num→Ok e L0 H Lf→(∀x∈fp,H x.1=x.2.1)→(∀t,RV e (ρ t) (a.tmps.getD t undef) [])→
   ∃v',(∀w',mE e fp w'→(execOp a.eval o).run P w'=.ok (.value v') w')∧RV e v v' []):aI P num o ρ v fp:=by
 intro e L0 H Lf A a hn hk hpre _ _ _ ht
 obtain ⟨v',hr,hv⟩:=h e L0 H Lf a hn hk hpre ht
 refine ⟨v',hr,e,Lf,rfl,?_,hv⟩
 rw [rJ hpre hfp]
 exact dH.refl _ hk
mutual
theorem qMi {e:Env} :∀{d:AV} {v:Value},tK d v=true→RV e d v []
 | .bool c,v,h=>by cases v<;>simp_all [tK,RV]
 | .int k m,v,h=>by cases v<;>simp_all [tK,RV]
 | .str t,v,h=>by cases v<;>simp_all [tK,RV]
 | .nil,v,h=>by
  simp only [tK] at h
  split at h
  ·simp [RV]
  ·simp at h
 | .nilp,v,h=>by
  simp only [tK] at h
  split at h
  ·simp [RV]
  ·simp at h
 | .nilI,v,h=>by
  simp only [tK] at h
  split at h
  ·simp [RV]
  ·simp at h
 | .agg ds,v,h=>by
  simp only [tK] at h
  split at h
  ·rename_i cs
   simp only [RV]
   exact ⟨cs.toList,rfl,gM h⟩
  ·simp at h
 | .any,_,h | .fn _ _,_,h | .ptr _ _ _,_,h | .fptr _ _ _,_,h | .ifc,_,h | .ns _ _ _,_,h | .sl _ _ _,_,h | .tup _,_,h=>by simp [tK] at h
theorem gM {e:Env} :∀{ds:List AV} {vs:List Value},nU ds vs=true→RVs e ds vs []
 | [],vs,h=>by
  cases vs<;>simp_all [nU,RVs]
 | d::ds,vs,h=>by
  cases vs with
  | nil=>simp [nU] at h
  | cons v vs =>
   simp only [nU,qZ8] at h
   simp only [RVs]
   exact ⟨v,vs,[],[],rfl,qMi h.1,gM h.2,rfl⟩
end
theorem yD {e:Env} {ρ:Nat→AV} {a:Act} {x:Operand} {y:Arg} (ht :∀t,RV e (ρ t) (a.tmps.getD t undef) []) (h:uM e.num x y=true) :
  RV e (y.ev ρ) (a.eval x) []:=by
 cases x with
 | tmp t =>
  cases y with
  | t n=>simp [uM] at h; subst h; exact ht t
  | c d=>simp [uM] at h
 | const v =>
  cases y with
  | t n=>simp [uM] at h
  | c d=>exact qMi h
 | global g=>cases y<;>simp [uM] at h
 | func f =>
  cases y with
  | t n=>simp [uM] at h
  | c d =>
   cases d with
   | fn g cap =>
    cases cap with
    | nil=>simp [uM] at h; subst h; simp [Arg.ev,RV,RVs,Act.eval]
    | cons=>simp [uM] at h
   | _=>simp [uM] at h
end Go.Sep
namespace Go.Sep
set_option linter.unusedVariables false
set_option linter.unusedSimpArgs false
def lQ (P:Program) (t:TypeId) (zero:List AV):Bool :=
 match P.info? t with
 | some i=>i.size==zero.length&&zero.all yK&&(match i.zero with
  | some z=>nU zero z.cells.toList
  | none=>false)
 | none=>false
def cQ (P:Program) (t:TypeId) (n:Nat):Bool:=(P.info? t).map (·.size)==some n
def qCy (P:Program) (t:TypeId) (n:Nat):Bool:=(P.info? t).map (·.bytes)==some n
def bM (P:Program) (t:TypeId):Option TypeId :=
 match P.underlying t with
 | some (.slice e)=>some e
 | _=>none
def fieldsOf (P:Program) (t:TypeId):Option (Array Field) :=
 match P.underlying t with
 | some (.struct fs)=>some fs
 | _=>none
def qEf (P:Program) (t:TypeId):Bool:=match P.underlying t with | some .string=>true | _=>false
def qJ8 (P:Program) (t:TypeId):Bool:=match P.underlying t with | some .bool=>true | _=>false
def qU4 (P:Program) (t:TypeId):Bool:=match P.underlying t with | some (.int _)=>true | _=>false
def qJ7 (P:Program) (t:TypeId):Bool:=match P.underlying t with | some (.interface _)=>true | _=>false
def qG4 (num:Nat→Nat):Option Operand→Option Arg→Bool
 | none,none=>true
 | some x,some y=>uM num x y
 | _,_=>false
def aH (P:Program) (num:Nat→Nat) (fs:Array Field):List (Nat×Operand)→List (Nat×Nat×Arg)→Bool
 | [],[]=>true
 | (i,x)::ps,(off,sz,y)::qs=>(match fs[i]? with | some f=>f.offset==off&&cQ P f.type sz | none=>false)&&uM num x y&&aH P num fs ps qs
 | _,_=>false
def cC (num:Nat→Nat):List (Nat×Operand)→List (Nat×Arg)→Bool
 | [],[]=>true
 | (i,x)::ps,(j,y)::qs=>i==j&&uM num x y&&cC num ps qs
 | _,_=>false
def aR (P:Program):Nat→List Bool→List Field→Bool
 | _,[],[]=>true
 | i,k::ks,f::fs=>f.name != "_"&&f.offset==i&&(if k then qU4 P f.type else qJ8 P f.type)&&aR P (i+1) ks fs
 | _,_,_=>false
def wV (P:Program) (num:Nat→Nat):MOp→Op→Bool
 | .mv y,op=>(match op with | .move x | .assign x=>uM num x y | _=>false)
 | .pick c a b,op=>(match op with | .pick c' a' b'=>uM num c' c&&uM num a' a&&uM num b' b | _=>false)
 | .alloc zero,op=>(match op with | .alloc t=>lQ P t zero | _=>false)
 | .box y,op=>(match op with | .box _ x=>uM num x y | _=>false)
 | .build zero parts,op=>(match op with
  | .build t ps=>lQ P t zero&&(match fieldsOf P t with
   | some fs=>fs.toList.all (fun f=>(P.info? f.type).isSome)&&aH P num fs ps.toList parts
   | none=>false)
  | _=>false)
 | .mkSl zero len parts,op=>(match op with
  | .buildSlice t l ps=>l==len&&(match bM P t with
   | some el=>lQ P el zero&&decide (0<zero.length)&&decide (len*zero.length≤2^24)&&cC num ps.toList parts
   | none=>false)
  | _=>false)
 | .load n ag y,op=>(match op with | .load t x=>uM num x y&&cQ P t n&&qCh P t==some ag&&(ag||n==1) | _=>false)
 | .store n y z,op=>(match op with | .store t x v=>uM num x y&&uM num v z&&cQ P t n | _=>false)
 | .nilck y,op=>(match op with | .nilCheck x=>uM num x y | _=>false)
 | .bin b y z,op=>(match op with | .binOp b' t x v _=>b==b'&&uM num x y&&uM num v z | _=>false)
 | .eqS neg ks y z,op=>(match op with
  | .binOp b t x v _=>(if neg then b==.neq else b==.eql)&&uM num x y&&uM num v z&&(match fieldsOf P t with
   | some fs=>aR P 0 ks fs.toList&&!P.stoodInHeld t&&!P.eqGuardType P.depth t
   | none=>false)
  | _=>false)
 | .eqB neg y z,op=>(match op with | .binOp b t x v _=>(if neg then b==.neq else b==.eql)&&uM num x y&&uM num v z&&qJ8 P t | _=>false)
 | .neNil y,op=>(match op with | .binOp .neq t x (.const .nilIface) _=>uM num x y&&qJ7 P t | _=>false)
 | .un u y,op=>(match op with | .unOp u' _ x=>u==u'&&uM num x y | _=>false)
 | .cvi k y,op=>(match op with | .convert s d x=>uM num x y&&(match P.underlying s,P.underlying d with | some _,some (.int k')=>k==k' | _,_=>false) | _=>false)
 | .cvs y,op=>(match op with | .convert s d x=>uM num x y&&qEf P d&&(match bM P s with | some el=>(match P.underlying el with | some (.int .u8)=>true | _=>false) | none=>false) | _=>false)
 | .mkS zero bytes l c,op=>(match op with
  | .makeSlice t l' c'=>uM num l' l&&uM num c' c&&(match bM P t with | some el=>lQ P el zero&&decide (0<zero.length)&&qCy P el bytes | none=>false)
  | _=>false)
 | .cut sz y lo hi,op=>(match op with
  | .slice t x l h none=>uM num x y&&qG4 num l lo&&qG4 num h hi&&(match bM P t with | some el=>cQ P el sz | none=>false)
  | _=>false)
 | .cutS y lo hi,op=>(match op with | .slice t x l h none=>uM num x y&&qG4 num l lo&&qG4 num h hi&&qEf P t | _=>false)
 | .fad off y,op=>(match op with
  | .fieldAddr s x f=>uM num x y&&(match fieldsOf P s with | some fs=>(match fs[f]? with | some g=>g.offset==off&&(match P.info? g.type with | some i=>i.size != 0 | none=>false) | none=>false) | none=>false)
  | _=>false)
 | .fld off n ag y,op=>(match op with
  | .field t x f=>uM num x y&&(match fieldsOf P t with | some fs=>(match fs[f]? with | some g=>g.offset==off&&cQ P g.type n&&qCh P g.type==some ag&&(ag||n==1) | none=>false) | none=>false)
  | _=>false)
 | .iad sz y z,op=>(match op with | .indexAddr t x i=>uM num x y&&uM num i z&&(match bM P t with | some el=>cQ P el sz | none=>false) | _=>false)
 | .idx y z,op=>(match op with | .index t x i=>uM num x y&&uM num i z&&qEf P t | _=>false)
 | .ext y i,op=>(match op with | .extract x j=>uM num x y&&i==j | _=>false)
 | .len y,op=>(match op with | .call {callee:=.builtin .len,args,argTypes}=>(match args.toList,argTypes[0]? with | [x],some t=>uM num x y&&(bM P t).isSome | _,_=>false) | _=>false)
 | .lenS y,op=>(match op with | .call {callee:=.builtin .len,args,argTypes}=>(match args.toList,argTypes[0]? with | [x],some t=>uM num x y&&qEf P t | _,_=>false) | _=>false)
 | .mx y z,op=>(match op with | .call {callee:=.builtin .max,args,argTypes}=>(match args.toList with | [x,v]=>uM num x y&&uM num v z | _=>false) | _=>false)
 | .app sz bytes y z,op=>(match op with
  | .call {callee:=.builtin .append,args,argTypes}=>(match args.toList,argTypes[0]?,argTypes[1]? with
   | [x,v],some t,some u=>uM num x y&&uM num v z&&(bM P u).isSome&&(match bM P t with | some el=>cQ P el sz&&qCy P el bytes&&(match P.info? el with | some i=>(match i.zero with | some z=>z.cells.size==sz | none=>false) | none=>false) | none=>false)
   | _,_,_=>false)
  | _=>false)
 | .clr zero y,op=>(match op with | .call {callee:=.builtin .clear,args,argTypes}=>(match args.toList,argTypes[0]? with | [x],some t=>uM num x y&&(match bM P t with | some el=>lQ P el zero | none=>false) | _,_=>false) | _=>false)
 | .call g _ ys,op=>(match op with | .call {callee:=.value (.func f),args,argTypes}=>f==num g&&qBy num args.toList ys | _=>false)
 | .calv y ys,op=>(match op with | .call {callee:=.value x,args,argTypes}=>uM num x y&&qBy num args.toList ys | _=>false)
def tL (P:Program) (num:Nat→Nat) (ops:Array Oper) (m:yA) (o:Oper):Bool :=
 o.dst==m.dst&&wV P num m.op o.op &&
 (match o.guard,m.guard with
 | none,none=>true
 | some (j,w),some (t,w')=>w==w'&&(ops[j]?).bind (·.dst)==some t
 | _,_=>false)
def kI (P:Program) (num:Nat→Nat) (ops:Array Oper):List yA→List Oper→Bool
 | [],[]=>true
 | m::ms,o::os=>tL P num ops m o&&kI P num ops ms os
 | _,_=>false
end Go.Sep
namespace Go.Sep
set_option linter.unusedVariables false
set_option linter.unusedSimpArgs false
section
variable {P:Program} {num:Nat→Nat} {o:Oper} {ρ:Nat→AV} {h:wM} {nx nx':Nat} {p:Prop} {v:AV} {fp:FP}
theorem zR {v':AV} {n:Nat} (hp:ok v' n=some (p,v,fp,nx')):v=v'∧fp=[]:=by
 simp [ok] at hp
 exact ⟨hp.2.1.symm,hp.2.2.1⟩
theorem yY {m:MOp} (h :∀(e:Env) (a:Act),e.num=num→(∀t,RV e (ρ t) (a.tmps.getD t undef) [])→∃v',(∀w,(execOp a.eval o).run P w=.ok (.value v') w)∧RV e v v' []) :
  aI P num o ρ v []:=by
 refine Tri.of_read (by simp) ?_
 intro e L0 H Lf a hn hk _ ht
 obtain ⟨v',h1,h2⟩:=h e a hn ht
 exact ⟨v',fun w _=>h1 w,h2⟩
theorem qSw {x:Arg} (hc:wV P num (.mv x) o.op=true) (hp:wH ρ h nx (.mv x)=some (p,v,fp,nx')):aI P num o ρ v fp:=by
 simp only [wH] at hp
 obtain ⟨rfl,rfl⟩:=zR hp
 refine yY (m:=.mv x) ?_
 intro e a hn ht
 subst hn
 simp only [wV] at hc
 split at hc
 ·rename_i y hop
  exact ⟨a.eval y,fun w=>by simp [execOp,hop],yD ht hc⟩
 ·rename_i y hop
  exact ⟨a.eval y,fun w=>by simp [execOp,hop],yD ht hc⟩
 ·simp at hc
theorem xJ {e:Env} {k:IntKind} {n:Int} {c:Value} {L:List Nat} (h:RV e (.int k n) c L):c=.int k n:=by simp only [RV] at h; exact h.1
theorem hO {e:Env} {b:Bool} {c:Value} {L:List Nat} (h:RV e (.bool b) c L):c=.bool b:=by simp only [RV] at h; exact h.1
theorem qFg {e:Env} {s:ByteArray} {c:Value} {L:List Nat} (h:RV e (.str s) c L):c=.string s:=by simp only [RV] at h; exact h.1
theorem qK8 {c x y:Arg} (hc:wV P num (.pick c x y) o.op=true) (hp:wH ρ h nx (.pick c x y)=some (p,v,fp,nx')):aI P num o ρ v fp:=by
 simp only [wV] at hc
 split at hc
 ·rename_i c' a' b' hop
  simp only [qZ8] at hc
  obtain ⟨⟨h1,h2⟩,h3⟩:=hc
  simp only [wH] at hp
  split at hp
  ·rename_i q hq
   have hv:fp=[]∧v=(bif q then x.ev ρ else y.ev ρ):=by
    split at hp
    ·rename_i a b ha hb
     obtain ⟨rfl,rfl⟩:=zR hp
     rw [ha,hb]
     cases q<;>simp
    ·obtain ⟨rfl,rfl⟩:=zR hp
     exact ⟨rfl,rfl⟩
   obtain ⟨rfl,rfl⟩:=hv
   refine yY (m:=.mv x) ?_
   intro e a hn ht
   subst hn
   have e1:=yD (ρ:=ρ) ht h1
   rw [hq] at e1
   have e1:=hO e1
   refine ⟨if q then a.eval a' else a.eval b',?_,?_⟩
   ·intro w; simp only [execOp,hop,Sem.run_bind,Sem.run_pure,asBool,e1,Result.andThen_ok]
   ·cases q
    ·exact yD ht h3
    ·exact yD ht h2
  ·simp at hp
 ·simp at hc
theorem iQ {nm:Nat} {row:Row} (h :∀(e:Env) (L0:List Nat) (H:Nat→Option Row) (Lf:Nat→List Nat) (a:Act),e.num=num→Ok e L0 H Lf→uQ e nm row (Lf nm)→(∀t,RV e (ρ t) (a.tmps.getD t undef) [])→
  ∃v',(∀w,(execOp a.eval o).run P w=.ok (.value v') w)∧RV e v v' []):aI P num o ρ v [(nm,some row,some row)]:=by
 refine Tri.of_read (by simp) ?_
 intro e L0 H Lf a hn hk hpre ht
 have:=hpre (nm,some row,some row) (by simp)
 obtain ⟨v',h1,h2⟩:=h e L0 H Lf a hn hk (hk.rh.row nm row this) ht
 exact ⟨v',fun w _=>h1 w,h2⟩
theorem pP {e:Env} {nm i f:Nat} {row:Row} {L L':List Nat} {c:Value} (hr:uQ e nm row L) (h:RV e (.ptr nm i f) c L') :
  ∃p,e.φ nm=.at p∧c=.pointer (some ⟨p.block,p.off+i*p.sz+f,none⟩):=by
 simp only [RV] at h
 obtain ⟨_,h⟩:=h
 unfold uQ bY at hr
 cases hq:e.φ nm with
 | dead=>rw [hq] at hr; exact hr.elim
 | nilp=>rw [hq] at h; exact h.elim
 | «at» p=>rw [hq] at h; exact ⟨p,rfl,h⟩
theorem qFh {e:Env} {nm i f:Nat} {p:qFj} (hq:e.φ nm=.at p):RV e (.ptr nm i f) (.pointer (some ⟨p.block,p.off+i*p.sz+f,none⟩)) []:=by
 simp only [RV,hq,and_self]
theorem qGd {x:Arg} (hc:wV P num (.nilck x) o.op=true) (hp:wH ρ h nx (.nilck x)=some (p,v,fp,nx')):aI P num o ρ v fp:=by
 simp only [wV] at hc
 split at hc
 ·rename_i y hop
  simp only [wH] at hp
  split at hp
  ·rename_i nm i f hx
   cases hl:qM h nm with
   | none=>simp [hl] at hp
   | some row =>
    simp [hl] at hp
    obtain ⟨_,rfl,rfl,_⟩:=hp
    refine iQ ?_
    intro e L0 H Lf a hn hk hr ht
    subst hn
    have h1:=yD (ρ:=ρ) ht hc
    rw [hx] at h1
    obtain ⟨q,hq,h2⟩:=pP hr h1
    exact ⟨_,fun w=>by simp [execOp,hop,h2],qFh hq⟩
  ·rename_i m cs f hx
   obtain ⟨rfl,rfl⟩:=zR hp
   refine yY (m:=.mv x) ?_
   intro e a hn ht
   subst hn
   have h1:=yD (ρ:=ρ) ht hc
   rw [hx] at h1
   have h2:=h1
   simp only [RV] at h2
   obtain ⟨_,b,o',vs,h2,_⟩:=h2
   exact ⟨_,fun w=>by simp [execOp,hop,h2],h2▸h1⟩
  ·simp at hp
 ·simp at hc
theorem gU {t:TypeId} {n:Nat} (h:cQ P t n=true) :∃i,P.info? t=some i∧i.size=n:=by
 simp [cQ] at h
 exact h
theorem tN {t:TypeId} {n:Nat} (h:qCy P t n=true) :∃i,P.info? t=some i∧i.bytes=n:=by
 simp [qCy] at h
 exact h
theorem dB {t el:TypeId} (h:bM P t=some el):P.underlying t=some (.slice el):=by
 unfold bM at h
 split at h
 ·simp at h; subst h; assumption
 ·simp at h
theorem zY {t:TypeId} {fs:Array Field} (h:fieldsOf P t=some fs):P.underlying t=some (.struct fs):=by
 unfold fieldsOf at h
 split at h
 ·simp at h; subst h; assumption
 ·simp at h
theorem pV {t:TypeId} (h:qEf P t=true):P.underlying t=some .string:=by
 unfold qEf at h
 split at h
 ·assumption
 ·simp at h
theorem nJ {t:TypeId} (h:qJ8 P t=true):P.underlying t=some .bool:=by
 unfold qJ8 at h
 split at h
 ·assumption
 ·simp at h
theorem qBc {w:World} {s:TypeId} {f b o':Nat} {fs:Array Field} {g:Field} {i:TypeInfo} (h1:P.underlying s=some (.struct fs)) (h2:fs[f]?=some g) (h3:P.info? g.type=some i) (h4:i.size≠0) :
  (Instr.fieldAt s (.pointer (some ⟨b,o',none⟩)) f).run P w=.ok (.pointer (some ⟨b,o'+g.offset,none⟩)) w:=by
 simp [Instr.fieldAt,wF h1,h2,Instr.sureAddr,fieldPlace,uF h3,h4,eR]
theorem qOv {off:Nat} {x:Arg} (hc:wV P num (.fad off x) o.op=true) (hp:wH ρ h nx (.fad off x)=some (p,v,fp,nx')):aI P num o ρ v fp:=by
 simp only [wV] at hc
 split at hc
 ·rename_i s y f hop
  simp only [qZ8] at hc
  obtain ⟨hc,h5⟩:=hc
  cases hfs:fieldsOf P s with
  | none=>simp [hfs] at h5
  | some fs =>
   simp only [hfs] at h5
   cases hg:fs[f]? with
   | none=>simp [hg] at h5
   | some g =>
    simp only [hg,qZ8,beq_iff_eq] at h5
    obtain ⟨h6,h7⟩:=h5
    cases hi:P.info? g.type with
    | none=>simp [hi] at h7
    | some i =>
     simp only [hi,bne_iff_ne,ne_eq] at h7
     simp only [wH] at hp
     split at hp
     ·rename_i nm i' f' hx
      cases hl:qM h nm with
      | none=>simp [hl] at hp
      | some row =>
       simp [hl] at hp
       obtain ⟨_,rfl,rfl,_⟩:=hp
       refine iQ ?_
       intro e L0 H Lf a hn hk hr ht
       subst hn
       have h1:=yD (ρ:=ρ) ht hc
       rw [hx] at h1
       obtain ⟨q,hq,h2⟩:=pP hr h1
       refine ⟨_,?_,qFh hq⟩
       intro w
       simp only [execOp,hop,h2,Sem.run_bind,qBc (zY hfs) hg hi h7,Result.andThen_ok,Sem.run_pure,h6]
       rw [qZ9]
     ·rename_i m cs f' hx
      obtain ⟨rfl,rfl⟩:=zR hp
      refine yY (m:=.mv x) ?_
      intro e a hn ht
      subst hn
      have h1:=yD (ρ:=ρ) ht hc
      rw [hx] at h1
      simp only [RV] at h1⊢
      obtain ⟨_,b,o',vs,h2,h3⟩:=h1
      refine ⟨.pointer (some ⟨b,o'+f'+off,none⟩),?_,trivial,b,o',vs,by rw [qZ9],h3⟩
      intro w
      simp only [execOp,hop,h2,Sem.run_bind,qBc (zY hfs) hg hi h7,Result.andThen_ok,Sem.run_pure,h6]
     ·simp at hp
 ·simp at hc
theorem qSu {u:UnOp} {x:Arg} (hc:wV P num (.un u x) o.op=true) (hp:wH ρ h nx (.un u x)=some (p,v,fp,nx')):aI P num o ρ v fp:=by
 simp only [wV] at hc
 split at hc
 ·rename_i u' t y hop
  simp only [qZ8,beq_iff_eq] at hc
  obtain ⟨rfl,hc⟩:=hc
  simp only [wH] at hp
  split at hp
  ·rename_i b hx
   obtain ⟨rfl,rfl⟩:=zR hp
   refine yY (m:=.mv x) ?_
   intro e a hn ht
   subst hn
   have h1:=yD (ρ:=ρ) ht hc
   rw [hx] at h1
   exact ⟨.bool !b,fun w=>by simp [execOp,hop,hO h1,Op.unary],by simp [RV]⟩
  ·rename_i k n hx
   obtain ⟨rfl,rfl⟩:=zR hp
   refine yY (m:=.mv x) ?_
   intro e a hn ht
   subst hn
   have h1:=yD (ρ:=ρ) ht hc
   rw [hx] at h1
   exact ⟨.int k (k.wrap (0-n)),fun w=>by simp [execOp,hop,xJ h1,Op.unary,Op.intArith],by simp [RV]⟩
  ·simp at hp
 ·simp at hc
theorem qP0 {k:IntKind} {x:Arg} (hc:wV P num (.cvi k x) o.op=true) (hp:wH ρ h nx (.cvi k x)=some (p,v,fp,nx')):aI P num o ρ v fp:=by
 simp only [wV] at hc
 split at hc
 ·rename_i s d y hop
  simp only [qZ8] at hc
  obtain ⟨hc,h5⟩:=hc
  split at h5
  ·rename_i ds k' hs hd
   simp only [beq_iff_eq] at h5
   subst h5
   simp only [wH] at hp
   split at hp
   ·rename_i k2 n hx
    obtain ⟨rfl,rfl⟩:=zR hp
    refine yY (m:=.mv x) ?_
    intro e a hn ht
    subst hn
    have h1:=yD (ρ:=ρ) ht hc
    rw [hx] at h1
    exact ⟨.int k (k.wrap n),fun w=>by simp [execOp,hop,xJ h1,convert,wF hs,wF hd,Conv.intToInt],by simp [RV]⟩
   ·simp at hp
  ·simp at h5
 ·simp at hc
theorem qOw {x:Arg} {i:Nat} (hc:wV P num (.ext x i) o.op=true) (hp:wH ρ h nx (.ext x i)=some (p,v,fp,nx')) (hpp:p):aI P num o ρ v fp:=by
 simp only [wV] at hc
 split at hc
 ·rename_i y j hop
  simp only [qZ8,beq_iff_eq] at hc
  obtain ⟨hc,rfl⟩:=hc
  simp only [wH] at hp
  split at hp
  ·rename_i vs hx
   simp only [Option.some.injEq,Prod.mk.injEq] at hp
   obtain ⟨rfl,rfl,rfl,_⟩:=hp
   refine yY (m:=.mv x) ?_
   intro e a hn ht
   subst hn
   have h1:=yD (ρ:=ρ) ht hc
   rw [hx] at h1
   simp only [RV] at h1
   obtain ⟨cs,h1,h2⟩:=h1
   obtain ⟨c,h3,h4⟩:=eO h2 i hpp
   refine ⟨c,fun w=>by simp [execOp,hop,h1,Instr.extract,h3],?_⟩
   simpa [qZa,hpp] using h4
  ·simp at hp
 ·simp at hc
theorem qK9 {x:Arg} (hc:wV P num (.lenS x) o.op=true) (hp:wH ρ h nx (.lenS x)=some (p,v,fp,nx')):aI P num o ρ v fp:=by
 simp only [wV] at hc
 split at hc
 ·rename_i args tys hop
  split at hc
  ·rename_i y t ha htys
   simp only [qZ8] at hc
   obtain ⟨hc,hs⟩:=hc
   simp only [wH] at hp
   split at hp
   ·rename_i s hx
    obtain ⟨rfl,rfl⟩:=zR hp
    refine yY (m:=.mv x) ?_
    intro e a hn ht
    subst hn
    have h1:=yD (ρ:=ρ) ht hc
    rw [hx] at h1
    have hargs:args = #[y]:=Array.toList_inj.1 ha
    subst hargs
    exact ⟨.int .i64 s.size,fun w=>by simp [execOp,hop,resolve,invoke,builtin,Builtin.len_,htys,wF (pV hs),qFg h1,goInt],by simp [RV]⟩
   ·simp at hp
  ·simp at hc
 ·simp at hc
theorem qOr {x:Arg} (hc:wV P num (.len x) o.op=true) (hp:wH ρ h nx (.len x)=some (p,v,fp,nx')):aI P num o ρ v fp:=by
 simp only [wV] at hc
 split at hc
 ·rename_i args tys hop
  split at hc
  ·rename_i y t ha htys
   simp only [qZ8] at hc
   obtain ⟨hc,hs⟩:=hc
   obtain ⟨el,hel⟩:=Option.isSome_iff_exists.1 hs
   have hargs:args = #[y]:=Array.toList_inj.1 ha
   subst hargs
   have key :∀(a:Act) (w:World) (A:Option Addr) (l c:Nat),a.eval y=.slice A l c→(execOp a.eval o).run P w=.ok (.value (.int .i64 l)) w:=by
    intro a w A l c hv
    simp [execOp,hop,resolve,invoke,builtin,Builtin.len_,htys,wF (dB hel),hv,goInt]
   simp only [wH] at hp
   split at hp
   ·rename_i hx
    obtain ⟨rfl,rfl⟩:=zR hp
    refine yY (m:=.mv x) ?_
    intro e a hn ht
    subst hn
    have h1:=yD (ρ:=ρ) ht hc
    rw [hx] at h1
    simp only [RV] at h1
    exact ⟨.int .i64 0,fun w=>key a w _ _ _ h1.1,by simp [RV]⟩
   ·rename_i nm off l hx
    cases hl:qM h nm with
    | none=>simp [hl] at hp
    | some row =>
     simp only [hl,qZb,Option.some.injEq,Prod.mk.injEq] at hp
     obtain ⟨_,rfl,rfl,_⟩:=hp
     refine iQ ?_
     intro e L0 H Lf a hn hk hr ht
     subst hn
     have h1:=yD (ρ:=ρ) ht hc
     rw [hx] at h1
     simp only [RV] at h1
     obtain ⟨_,h1⟩:=h1
     unfold uQ bY at hr
     cases hq:e.φ nm with
     | dead=>rw [hq] at hr; exact hr.elim
     | nilp =>
      rw [hq] at h1
      obtain ⟨_,h2,_,h3⟩:=h1
      subst h2
      exact ⟨.int .i64 0,fun w=>key a w _ _ _ h3,by simp [RV]⟩
     | «at» q =>
      rw [hq] at h1
      obtain ⟨_,A,h3,_⟩:=h1
      exact ⟨.int .i64 l,fun w=>key a w _ _ _ h3,by simp [RV]⟩
   ·rename_i sz rows hx
    obtain ⟨rfl,rfl⟩:=zR hp
    refine yY (m:=.mv x) ?_
    intro e a hn ht
    subst hn
    have h1:=yD (ρ:=ρ) ht hc
    rw [hx] at h1
    simp only [RV] at h1
    refine ⟨.int .i64 rows.length,?_,by simp [RV]⟩
    rcases h1.2 with ⟨rfl,A,c,h2,_⟩ | ⟨b,o',c,h2,_⟩
    ·exact fun w=>key a w _ _ _ h2
    ·exact fun w=>key a w _ _ _ h2
   ·rename_i sz rows hx
    obtain ⟨rfl,rfl⟩:=zR hp
    refine yY (m:=.mv x) ?_
    intro e a hn ht
    subst hn
    have h1:=yD (ρ:=ρ) ht hc
    rw [hx] at h1
    simp only [RV] at h1
    refine ⟨.int .i64 rows.length,?_,by simp [RV]⟩
    rcases h1.2 with ⟨rfl,A,c,h2,_⟩ | ⟨b,o',c,h2,_⟩
    ·exact fun w=>key a w _ _ _ h2
    ·exact fun w=>key a w _ _ _ h2
   ·simp at hp
  ·simp at hc
 ·simp at hc
theorem qSv {x z:Arg} (hc:wV P num (.mx x z) o.op=true) (hp:wH ρ h nx (.mx x z)=some (p,v,fp,nx')):aI P num o ρ v fp:=by
 simp only [wV] at hc
 split at hc
 ·rename_i args tys hop
  split at hc
  ·rename_i y u ha
   simp only [qZ8] at hc
   obtain ⟨hc,hs⟩:=hc
   have hargs:args = #[y,u]:=Array.toList_inj.1 ha
   subst hargs
   simp only [wH] at hp
   split at hp
   ·rename_i k m k' n hx hz
    split at hp
    ·rename_i hk
     subst hk
     obtain ⟨rfl,rfl⟩:=zR hp
     refine yY (m:=.mv x) ?_
     intro e a hn ht
     subst hn
     have h1:=yD (ρ:=ρ) ht hc
     rw [hx] at h1
     have h2:=yD (ρ:=ρ) ht hs
     rw [hz] at h2
     exact ⟨.int k (if n>m then n else m),fun w=>by simp [execOp,hop,resolve,invoke,builtin,Builtin.max_,Builtin.max2,xJ h1,xJ h2],by simp [RV]⟩
    ·simp at hp
   ·simp at hp
  ·simp at hc
 ·simp at hc
theorem qOs {x z:Arg} (hc:wV P num (.idx x z) o.op=true) (hp:wH ρ h nx (.idx x z)=some (p,v,fp,nx')) (hpp:p):aI P num o ρ v fp:=by
 simp only [wV] at hc
 split at hc
 ·rename_i t y u hop
  simp only [qZ8] at hc
  obtain ⟨⟨h1,h2⟩,h3⟩:=hc
  simp only [wH] at hp
  split at hp
  ·rename_i s k j hx hz
   simp only [Option.some.injEq,Prod.mk.injEq] at hp
   obtain ⟨rfl,rfl,rfl,_⟩:=hp
   obtain ⟨p1,p2⟩:=hpp
   refine yY (m:=.mv x) ?_
   intro e a hn ht
   subst hn
   have g1:=yD (ρ:=ρ) ht h1
   rw [hx] at g1
   have g2:=yD (ρ:=ρ) ht h2
   rw [hz] at g2
   have hj:j.toNat<s.size:=by omega
   have hs:s[j.toNat]?=some s[j.toNat]:=by simp [hj]
   refine ⟨.int .u8 ((s.data.getD j.toNat 0).toNat:Nat),?_,by simp [RV]⟩
   have hd:s.data.getD j.toNat 0=s[j.toNat]:=by
    unfold Array.getD
    rw [dif_pos (show j.toNat<s.data.size from hj)]
    rfl
   rw [hd]
   intro w
   simp [execOp,hop,qFg g1,xJ g2,Instr.index,asIntOf,wF (pV h3),p1,hs]
  ·simp at hp
 ·simp at hc
theorem qOy {neg:Bool} {x z:Arg} (hc:wV P num (.eqB neg x z) o.op=true) (hp:wH ρ h nx (.eqB neg x z)=some (p,v,fp,nx')):aI P num o ρ v fp:=by
 simp only [wV] at hc
 split at hc
 ·rename_i b t y u _ hop
  simp only [qZ8] at hc
  obtain ⟨⟨⟨h0,h1⟩,h2⟩,h3⟩:=hc
  simp only [wH] at hp
  split at hp
  ·rename_i c d hx hz
   obtain ⟨rfl,rfl⟩:=zR hp
   refine yY (m:=.mv x) ?_
   intro e a hn ht
   subst hn
   have g1:=yD (ρ:=ρ) ht h1
   rw [hx] at g1
   have g2:=yD (ρ:=ρ) ht h2
   rw [hz] at g2
   refine ⟨.bool (if neg then !(c==d) else c==d),?_,by simp [RV]⟩
   have he :∀w,(Op.equal t (.bool c) (.bool d)).run P w=.ok (c==d) w:=by
    intro w
    unfold Op.equal Op.maxDepth Op.equalIn
    simp [wF (nJ h3)]
   intro w
   cases neg
   ·simp at h0
    subst h0
    simp [execOp,hop,hO g1,hO g2,eqGuard,binOp,he]
   ·simp at h0
    subst h0
    simp [execOp,hop,hO g1,hO g2,eqGuard,binOp,he]
  ·simp at hp
 ·simp at hc
theorem qJ6 {t:TypeId} (h:qJ7 P t=true) :∃ms,P.underlying t=some (.interface ms):=by
 unfold qJ7 at h
 split at h
 ·exact ⟨_,by assumption⟩
 ·simp at h
theorem qGe {x:Arg} (hc:wV P num (.neNil x) o.op=true) (hp:wH ρ h nx (.neNil x)=some (p,v,fp,nx')):aI P num o ρ v fp:=by
 simp only [wV] at hc
 split at hc
 ·rename_i t y _ hop
  simp only [qZ8] at hc
  obtain ⟨h1,h3⟩:=hc
  obtain ⟨ms,h3⟩:=qJ6 h3
  simp only [wH] at hp
  split at hp
  ·rename_i hx
   obtain ⟨rfl,rfl⟩:=zR hp
   refine yY (m:=.mv x) ?_
   intro e a hn ht
   subst hn
   have g1:=yD (ρ:=ρ) ht h1
   rw [hx] at g1
   simp only [RV] at g1
   refine ⟨.bool false,?_,by simp [RV]⟩
   have he :∀w,(Op.equal t .nilIface .nilIface).run P w=.ok true w:=by
    intro w
    unfold Op.equal Op.maxDepth Op.equalIn
    simp [wF h3]
   have hk:a.eval (.const .nilIface)=.nilIface:=rfl
   intro w
   simp [execOp,hop,g1.1,hk,eqGuard,binOp,he]
  ·rename_i hx
   obtain ⟨rfl,rfl⟩:=zR hp
   refine yY (m:=.mv x) ?_
   intro e a hn ht
   subst hn
   have g1:=yD (ρ:=ρ) ht h1
   rw [hx] at g1
   simp only [RV] at g1
   obtain ⟨⟨t',u',g1⟩,_⟩:=g1
   refine ⟨.bool true,?_,by simp [RV]⟩
   have he :∀w,(Op.equal t (.iface t' u') .nilIface).run P w=.ok false w:=by
    intro w
    unfold Op.equal Op.maxDepth Op.equalIn
    simp [wF h3]
   have hk:a.eval (.const .nilIface)=.nilIface:=rfl
   intro w
   simp [execOp,hop,g1,hk,eqGuard,binOp,he]
  ·simp at hp
 ·simp at hc
end
end Go.Sep
namespace Go.Sep
set_option linter.unusedVariables false
set_option linter.unusedSimpArgs false
section
variable {P:Program} {num:Nat→Nat} {o:Oper} {ρ:Nat→AV} {h:wM} {nx nx':Nat} {p:Prop} {v:AV} {fp:FP}
def vOf:AV→Value
 | .int k n=>.int k n
 | .bool b=>.bool b
 | .str s=>.string s
 | _=>undef
theorem qDk {w:World} {op:BinOp} {t:TypeId} {k k':IntKind} {a b:Int} {v:AV} (h:qB0 op (.int k a) (.int k' b)=some (p,v)) (hp:p) :
  (binOp op t (.int k a) (.int k' b)).run P w=.ok (vOf v) w∧∀e,RV e v (vOf v) []:=by
 by_cases hk:k=k'
 case neg =>
  simp only [qB0,if_neg hk,qDh] at h
  cases op<;>simp only [Option.some.injEq,Prod.mk.injEq,reduceCtorEq] at h<;>obtain ⟨hq,rfl⟩:=h<;>refine ⟨?_,fun e=>by simp only [vOf,RV,and_self]⟩
  case shl=>subst hq; simp [vOf,binOp,Op.shift,qSb,qMe,show¬b<0 by omega]
  case shr=>subst hq; simp [vOf,binOp,Op.shift,qSb,qMe,show¬b<0 by omega]
 subst hk
 simp only [qB0,if_true] at h
 cases op<;>simp only [Option.some.injEq,Prod.mk.injEq,reduceCtorEq] at h<;>obtain ⟨hq,rfl⟩:=h<;>refine ⟨?_,fun e=>by simp only [vOf,RV,and_self]⟩
 case quo=>subst hq; simp [vOf,binOp,Op.intDiv,show¬b=0 from hp]
 case rem=>subst hq; simp [vOf,binOp,Op.intDiv,show¬b=0 from hp]
 case shl=>subst hq; simp [vOf,binOp,Op.shift,qSb,qMe,show¬b<0 by omega]
 case shr=>subst hq; simp [vOf,binOp,Op.shift,qSb,qMe,show¬b<0 by omega]
 case eql=>simp [vOf,binOp,Op.intCmp]; rfl
 case neq=>simp [vOf,binOp,Op.intCmp]; rfl
 all_goals simp [vOf,binOp,Op.intArith,Op.intBits,Op.intCmp,qMf,bOr,qY1]
theorem toList_eq {a b:ByteArray}:(a.toList==b.toList)=decide (a=b):=by
 rw [Bool.eq_iff_iff]
 simp only [beq_iff_eq,decide_eq_true_eq]
 constructor
 ·intro h
  rw [Go.ByteArray.toList_eq,Go.ByteArray.toList_eq] at h
  have:=Array.toList_inj.1 h
  cases a; cases b; simp_all
 ·intro h; rw [h]
theorem qDj {w:World} {op:BinOp} {t:TypeId} {a b:ByteArray} {v:AV} (h:qB0 op (.str a) (.str b)=some (p,v)) (hp:p) :
  (binOp op t (.string a) (.string b)).run P w=.ok (vOf v) w∧∀e,RV e v (vOf v) []:=by
 simp only [qB0] at h
 cases op<;>simp only [Option.some.injEq,Prod.mk.injEq,reduceCtorEq] at h<;>obtain ⟨hq,rfl⟩:=h<;>refine ⟨?_,fun e=>by simp only [vOf,RV,and_self]⟩
 case add =>
  subst hq
  have :¬(((a.size+b.size:Nat):Int)>IntKind.i64.max):=by
   have:IntKind.i64.max=9223372036854775807:=by decide
   rw [this]; omega
  simp only [binOp,Op.stringOp,if_neg this,Sem.run_pure,vOf]
 case eql=>simp only [binOp,Op.stringOp,toList_eq,Sem.run_pure,vOf]
 case neq=>simp only [binOp,Op.stringOp,toList_eq,Sem.run_pure,vOf]
theorem qOh {op:BinOp} {x y v:AV} (h:qB0 op x y=some (p,v)):(∃k k' a b,x=.int k a∧y=.int k' b)∨∃a b,x=.str a∧y=.str b:=by
 unfold qB0 at h
 split at h
 ·exact .inl ⟨_,_,_,_,rfl,rfl⟩
 ·exact .inr ⟨_,_,rfl,rfl⟩
 ·simp at h
theorem qP2 {b:BinOp} {x z:Arg} (hc:wV P num (.bin b x z) o.op=true) (hp:wH ρ h nx (.bin b x z)=some (p,v,fp,nx')) (hpp:p):aI P num o ρ v fp:=by
 simp only [wV] at hc
 split at hc
 ·rename_i b' t y u _ hop
  simp only [qZ8,beq_iff_eq] at hc
  obtain ⟨⟨rfl,h1⟩,h2⟩:=hc
  simp only [wH] at hp
  cases hb:qB0 b (x.ev ρ) (z.ev ρ) with
  | none=>simp [hb] at hp
  | some r =>
   obtain ⟨q,r⟩:=r
   simp only [hb,qZb,Option.some.injEq,Prod.mk.injEq] at hp
   obtain ⟨rfl,rfl,rfl,_⟩:=hp
   refine yY (m:=.mv x) ?_
   intro e a hn ht
   subst hn
   have g1:=yD (ρ:=ρ) ht h1
   have g2:=yD (ρ:=ρ) ht h2
   rcases qOh hb with ⟨k,k',m,n,e1,e2⟩ | ⟨m,n,e1,e2⟩
   ·rw [e1,e2] at hb
    rw [e1] at g1; rw [e2] at g2
    have hr:=fun w=>(qDk (P:=P) (w:=w) (t:=t) hb hpp).1
    have hv:=(qDk (P:=P) (w:=e.w) (t:=t) hb hpp).2
    refine ⟨_,?_,hv e⟩
    intro w
    simp only [execOp,hop,xJ g1,xJ g2,eqGuard,Sem.run_bind]
    cases b<;>simp [hr]
   ·rw [e1,e2] at hb
    rw [e1] at g1; rw [e2] at g2
    have hr:=fun w=>(qDj (P:=P) (w:=w) (t:=t) hb hpp).1
    have hv:=(qDj (P:=P) (w:=e.w) (t:=t) hb hpp).2
    refine ⟨_,?_,hv e⟩
    intro w
    simp only [execOp,hop,qFg g1,qFg g2,eqGuard,Sem.run_bind]
    cases b<;>simp [hr]
 ·simp at hc
theorem mL {w:World} {k:IntKind} {n:Int} {y:Nat} {c:BoundsCode} (h:0≤n∧n≤y):(Instr.sliceBound (.int k n) y c).run P w=.ok n.toNat w:=by
 simp [Instr.sliceBound,asIntOf,h]
theorem lX {e:Env} {a:Act} {w:World} {isS:Bool} {len cap:Nat} {lo hi:Option Arg} {lo' hi':Option Operand} {l m:Int}
  (ht :∀t,RV e (ρ t) (a.tmps.getD t undef) []) (h1:qG4 e.num lo' lo=true) (h2:qG4 e.num hi' hi=true) (hl:xU ρ 0 lo=some l) (hh:xU ρ len hi=some m)
  (b1:0≤l) (b2:l≤m) (b3:m≤len) (b4:len≤cap) :
  (Instr.sliceBounds isS len cap (lo'.map a.eval) (hi'.map a.eval) none).run P w=.ok (l.toNat,m.toNat,cap) w:=by
 have key :∀{x:Option Arg} {x':Option Operand} {d:Int} {n:Int},qG4 e.num x' x=true→xU ρ d x=some n→(x'=none∧n=d)∨∃y k,x'=some y∧a.eval y=.int k n:=by
  intro x x' d n hc hb
  cases x with
  | none =>
   cases x' with
   | none=>simp [xU] at hb; exact .inl ⟨rfl,hb.symm⟩
   | some y=>simp [qG4] at hc
  | some z =>
   cases x' with
   | none=>simp [qG4] at hc
   | some y =>
    simp only [qG4] at hc
    simp only [xU] at hb
    have g:=yD (ρ:=ρ) ht hc
    split at hb
    ·rename_i k q hq
     simp at hb
     subst hb
     rw [hq] at g
     exact .inr ⟨y,k,rfl,xJ g⟩
    ·simp at hb
 have hlo :∀w',(match lo'.map a.eval with
   | some v=>Instr.sliceBound v m.toNat .sliceB
   | none=>pure 0).run P w'=.ok l.toNat w':=by
  intro w'
  rcases key h1 hl with ⟨rfl,h3⟩ | ⟨y,k,rfl,h3⟩
  ·simp [h3]
  ·simp only [qZb,h3]
   exact mL ⟨by omega,by omega⟩
 have hlo' :∀w',(match lo'.map a.eval with
   | some v=>do
    let l←Instr.sliceBound v m.toNat .sliceB
    pure (l,m.toNat,cap)
   | none=>do
    let l←pure 0
    pure (l,m.toNat,cap)).run P w'=.ok (l.toNat,m.toNat,cap) w':=by
  intro w'
  have:=hlo w'
  cases hx:lo'.map a.eval with
  | none=>rw [hx] at this; simp at this; simp [this]
  | some v=>rw [hx] at this; simp only at this; simp [this]
 unfold Instr.sliceBounds
 simp only [Sem.run_bind,Sem.run_pure,Result.andThen_ok,Option.isSome_none,qZ4,if_false]
 rcases key h2 hh with ⟨rfl,h3⟩ | ⟨y,k,rfl,h3⟩
 ·subst h3
  simp only [qZc,Sem.run_bind,Sem.run_pure,Result.andThen_ok]
  exact hlo' w
 ·simp only [qZb,h3,Sem.run_bind]
  rw [mL ⟨by omega,by omega⟩]
  exact hlo' w
theorem qKa {x:Arg} {lo hi:Option Arg} (hc:wV P num (.cutS x lo hi) o.op=true) (hp:wH ρ h nx (.cutS x lo hi)=some (p,v,fp,nx')) (hpp:p):aI P num o ρ v fp:=by
 simp only [wV] at hc
 split at hc
 ·rename_i t y l' h' hop
  simp only [qZ8] at hc
  obtain ⟨⟨⟨h1,h2⟩,h3⟩,h4⟩:=hc
  simp only [wH] at hp
  cases hl:xU ρ 0 lo with
  | none=>simp [hl] at hp
  | some l =>
   simp only [hl,qZd] at hp
   split at hp
   ·rename_i s hx
    cases hh:xU ρ s.size hi with
    | none=>simp [hh] at hp
    | some m =>
     simp only [hh,qZb,Option.some.injEq,Prod.mk.injEq] at hp
     obtain ⟨rfl,rfl,rfl,_⟩:=hp
     obtain ⟨p1,p2,p3⟩:=hpp
     refine yY (m:=.mv x) ?_
     intro e a hn ht
     subst hn
     have g1:=yD (ρ:=ρ) ht h1
     rw [hx] at g1
     refine ⟨.string (s.extract l.toNat m.toNat),?_,by simp [RV]⟩
     intro w
     simp only [execOp,hop,qFg g1,Sem.run_bind,Instr.sliceAt,wF (pV h4),Result.andThen_ok,Instr.slice,qZc,Option.isSome_none,qZ4,if_false]
     rw [lX (isS:=false) ht h2 h3 hl hh p1 p2 p3 (qZ7 _)]
     simp
   ·simp at hp
 ·simp at hc
end
end Go.Sep
namespace Go.Sep
set_option linter.unusedVariables false
set_option linter.unusedSimpArgs false
section
variable {P:Program} {num:Nat→Nat} {o:Oper} {ρ:Nat→AV} {h:wM} {nx nx':Nat} {p:Prop} {v:AV} {fp:FP}
theorem wX {a b:List Nat} (h:[]=a++b):a=[]∧b=[]:=by
 have:=h.symm
 simpa using this
theorem pK {e:Env} {cs:List AV} {vs:List Value} (n:Nat) (h:RVs e cs vs []):RVs e (cs.take n) (vs.take n) []∧RVs e (cs.drop n) (vs.drop n) []:=by
 have hl:=yP h
 by_cases hn:n≤cs.length
 ·rw [←qZe n cs] at h
  obtain ⟨c1,c2,L1,L2,h1,h2,h3,h4⟩:=(uB _ _).1 h
  obtain ⟨rfl,rfl⟩:=wX h2
  have h5:=yP h3
  rw [qZ1,qYx hn] at h5
  subst h1
  rw [qZf h5,qZg h5]
  exact ⟨h3,h4⟩
 ·rw [qZh (by omega),qZh (by omega),qZi (by omega),qZi (by omega)]
  exact ⟨h,by simp [RVs]⟩
theorem qFe {e:Env} {cs:List AV} {vs:List Value} (n:Nat) (h:RVs e cs vs []):RVs e (cs.take n) (vs.take n) []:=(pK n h).1
theorem qFf {e:Env} {cs:List AV} {vs:List Value} (n:Nat) (h:RVs e cs vs []):RVs e (cs.drop n) (vs.drop n) []:=(pK n h).2
theorem qT4 {w:World} {t:TypeId} {cs:List Value} {off n:Nat} {ag:Bool} {i:TypeInfo} (hag:qCh P t=some ag) (hi:P.info? t=some i) (hn:i.size=n) (h1:ag=true∨n=1) (hl:off+n≤cs.length) :
  (part t cs.toArray off).run P w=.ok (if ag then .agg ((cs.drop off).take n).toArray else cs.getD off undef) w:=by
 subst hn
 unfold part
 simp only [Sem.run_bind,qA4 hag,Result.andThen_ok]
 cases ag with
 | true=>simp [uF hi]
 | false =>
  simp at h1
  have:off<cs.length:=by omega
  simp [this]
theorem qOu {off n:Nat} {ag:Bool} {x:Arg} (hc:wV P num (.fld off n ag x) o.op=true) (hp:wH ρ h nx (.fld off n ag x)=some (p,v,fp,nx')) (hpp:p):aI P num o ρ v fp:=by
 simp only [wV] at hc
 split at hc
 ·rename_i t y f hop
  simp only [qZ8] at hc
  obtain ⟨hc,h5⟩:=hc
  cases hfs:fieldsOf P t with
  | none=>simp [hfs] at h5
  | some fs =>
   simp only [hfs] at h5
   cases hg:fs[f]? with
   | none=>simp [hg] at h5
   | some g =>
    simp only [hg,qZ8,beq_iff_eq,qZj] at h5
    obtain ⟨⟨⟨h6,h7⟩,h8⟩,h9⟩:=h5
    obtain ⟨i,hi,hin⟩:=gU h7
    simp only [wH] at hp
    split at hp
    ·rename_i cs hx
     simp only [Option.some.injEq,Prod.mk.injEq] at hp
     obtain ⟨rfl,rfl,rfl,_⟩:=hp
     refine yY (m:=.mv x) ?_
     intro e a hn ht
     subst hn
     have g1:=yD (ρ:=ρ) ht hc
     rw [hx] at g1
     simp only [RV] at g1
     obtain ⟨vs,g1,g2⟩:=g1
     have hl:=yP g2
     refine ⟨if ag then .agg ((vs.drop off).take n).toArray else vs.getD off undef,?_,?_⟩
     ·intro w
      simp only [execOp,hop,g1,Sem.run_bind,Instr.field,wF (zY hfs),Result.andThen_ok,hg,asAgg,Sem.run_pure]
      rw [h6,qT4 h8 hi hin h9 (by omega)]
      rfl
     ·cases ag with
      | true =>
       simp only [if_true,RV]
       exact ⟨_,rfl,qFe n (qFf off g2)⟩
      | false =>
       simp at h9
       subst h9
       obtain ⟨c,h10,h11⟩:=eO g2 off (by omega)
       simp only [qZ4,if_false]
       have e1:vs.getD off undef=c:=by simp [qZa,h10]
       have e2:cs.getD off .any=cs[off]'(by omega):=by
        have:off<cs.length:=by omega
        simp [qZa,this]
       rw [e1,e2]
       exact h11
    ·simp at hp
 ·simp at hc
theorem qF0 {e:Env} {v:AV} {c:Value} {L:List Nat} (hv:yK v=true) (h:RV e v c L):c.oneCell'=true:=by
 cases v
 case sl m sz rows =>
  cases m<;>simp only [RV] at h
  ·rcases h with ⟨_,_,_,rfl⟩ | ⟨p,Lr,_,rfl,_⟩<;>rfl
  ·rcases h.2 with ⟨_,a,c,rfl,_⟩ | ⟨b,o,c,rfl,_⟩<;>rfl
  ·rcases h.2 with ⟨_,a,c,rfl,_⟩ | ⟨b,o,c,rfl,_⟩<;>rfl
 case any=>simp [yK] at hv
 case agg=>simp [yK] at hv
 case tup=>simp [yK] at hv
 all_goals simp only [RV] at h
 case int=>obtain ⟨rfl,_⟩:=h; rfl
 case bool=>obtain ⟨rfl,_⟩:=h; rfl
 case str=>obtain ⟨rfl,_⟩:=h; rfl
 case fn=>obtain ⟨vs,rfl,_⟩:=h; rfl
 case nilp=>obtain ⟨rfl,_⟩:=h; rfl
 case ptr nm i f =>
  obtain ⟨_,h⟩:=h
  cases hq:e.φ nm<;>rw [hq] at h
  ·obtain ⟨a,rfl⟩:=h; rfl
  ·exact h.elim
  ·subst h; rfl
 case fptr=>obtain ⟨_,b,o,vs,rfl,_⟩:=h; rfl
 case nil=>obtain ⟨rfl,_⟩:=h; rfl
 case nilI=>obtain ⟨rfl,_⟩:=h; rfl
 case ifc=>obtain ⟨⟨t,u,rfl⟩,_⟩:=h; rfl
 case ns nm off len =>
  obtain ⟨_,h⟩:=h
  cases hq:e.φ nm<;>rw [hq] at h
  ·obtain ⟨a,l,c,rfl⟩:=h; rfl
  ·obtain ⟨_,_,_,rfl⟩:=h; rfl
  ·obtain ⟨_,a,rfl,_⟩:=h; rfl
theorem fY {e:Env} {v:AV} {c:Value} (hv:(cellsOf v).all yK=true) (h:RV e v c []):RVs e (cellsOf v) c.cells.toList []:=by
 cases v
 case agg cs =>
  simp only [RV] at h
  obtain ⟨vs,rfl,h⟩:=h
  simpa [cellsOf,Value.cells] using h
 all_goals
  simp only [cellsOf,qZk,List.all_nil,Bool.and_true] at hv
  have hc:=qF0 hv h
  have:c.cells = #[c]:=by cases c<;>first | rfl | simp [Value.oneCell'] at hc
  rw [this]
  simp only [cellsOf,RVs]
  exact ⟨c,[],[],[],rfl,h,⟨rfl,rfl⟩,rfl⟩
theorem qAv {e:Env} :∀{l:List AV} {vs:List Value} {L:List Nat},l.all yK=true→RVs e l vs L→∀u∈vs,u.oneCell'=true
 | [],vs,L,_,h=>by simp only [RVs] at h; simp [h.1]
 | c::l,vs,L,hl,h=>by
  simp only [RVs] at h
  obtain ⟨v,vs',L1,L2,rfl,h2,h3,rfl⟩:=h
  simp only [qZk,qZ8] at hl
  intro u hu
  rcases List.mem_cons.1 hu with rfl | hu
  ·exact qF0 hl.1 h2
  ·exact qAv hl.2 h3 u hu
theorem qOk {e:Env} {cs ds:List AV} {vs us:List Value} {f:Nat} (h1:RVs e cs vs []) (h2:RVs e ds us []) (hf:f+ds.length≤cs.length) :
  RVs e (bU cs f ds) (vs.take f++us++vs.drop (f+us.length)) []:=by
 unfold bU
 have hu:=yP h2
 rw [hu]
 refine (uB _ _).2 ⟨vs.take f++us,vs.drop (f+ds.length),[],[],rfl,rfl,(uB _ _).2 ⟨_,_,[],[],rfl,rfl,qFe f h1,h2⟩,qFf _ h1⟩
theorem iB {α:Type} (cs ds:List α) (f:Nat) (hf:f+ds.length≤cs.length):(cs.take f++ds++cs.drop (f+ds.length)).length=cs.length:=by
 simp
 omega
theorem qC9 (arr:Array Value) (f:Nat) (us:List Value) (hf:f+us.length≤arr.size):(vO arr f us).toList=arr.toList.take f++us++arr.toList.drop (f+us.length):=by
 apply qZl
 intro k
 rw [Array.getElem?_toList]
 by_cases h1:k<f
 ·rw [zP _ _ _ _ (.inl h1)]
  rw [qZm,qZn (by simp; omega)]
  simp [h1]
 ·by_cases h2:k<f+us.length
  ·obtain ⟨j,rfl⟩ :∃j,k=f+j:=⟨k-f,by omega⟩
   rw [oZ _ _ _ _ (by omega) hf]
   have:(List.take f arr.toList).length=f:=by simp; omega
   rw [qZm,qYy (by omega),this,qZn (by omega)]
   simp
  ·rw [zP _ _ _ _ (.inr (by omega))]
   have:(List.take f arr.toList++us).length=f+us.length:=by simp; omega
   rw [qYy (by omega),this]
   simp
   congr 1
   omega
theorem qBo (vc:List Value) :∀(cs:Array Value) (off k:Nat),(vc.zipIdx k).foldl (fun cs (c,j)=>cs.setIfInBounds (off+j) c) cs=vO cs (off+k) vc:=by
 induction vc with
 | nil=>intro cs off k; rfl
 | cons v vc ih =>
  intro cs off k
  simp only [List.zipIdx_cons,List.foldl_cons,vO]
  rw [ih,qZ9]
theorem qEm {e:Env} {a:Act} {fs:Array Field} {places:Array (Nat×Nat)} (hpl :∀(i:Nat) (f:Field) (n:Nat),fs[i]?=some f→cQ P f.type n=true→places[i]?=some (f.offset,n))
  (ht :∀t,RV e (ρ t) (a.tmps.getD t undef) []) :∀(parts:List (Nat×Nat×Arg)) (ps:List (Nat×Operand)) (cs:List AV) (arr:Array Value),aH P e.num fs ps parts=true→
   qAt ρ cs.length parts→RVs e cs arr.toList []→∃arr',Instr.fill (places[·]?) arr (ps.map fun x=>(x.1,a.eval x.2))=some arr'∧RVs e (qHi ρ cs parts) arr'.toList []
 | [],ps,cs,arr,hc,_,h=>by
  cases ps with
  | nil=>exact ⟨arr,rfl,h⟩
  | cons=>simp [aH] at hc
 | (off,sz,y)::parts,ps,cs,arr,hc,hf,h=>by
  cases ps with
  | nil=>simp [aH] at hc
  | cons q ps =>
   obtain ⟨i,x⟩:=q
   simp only [aH,qZ8] at hc
   obtain ⟨⟨h1,h2⟩,h3⟩:=hc
   simp only [qAt] at hf
   obtain ⟨⟨f1,f2,f3⟩,f4⟩:=hf
   cases hg:fs[i]? with
   | none=>simp [hg] at h1
   | some f =>
    simp only [hg,qZ8,beq_iff_eq] at h1
    obtain ⟨rfl,h5⟩:=h1
    have g:=fY f2 (yD (ρ:=ρ) ht h2)
    have gl:=yP g
    have hl:=yP h
    have hs:=qC9 arr f.offset (a.eval x).cells.toList (by simp at gl hl⊢; omega)
    have hr:RVs e (bU cs f.offset (cellsOf (y.ev ρ))) (vO arr f.offset (a.eval x).cells.toList).toList []:=by
     rw [hs]
     exact qOk h g (by omega)
    have hlen:(bU cs f.offset (cellsOf (y.ev ρ))).length=cs.length:=iB _ _ _ (by omega)
    obtain ⟨arr',h6,h7⟩:=qEm hpl ht parts ps _ _ h3 (by rw [hlen]; exact f4) hr
    refine ⟨arr',?_,h7⟩
    simp only [qZ5,Instr.fill,hpl i f sz hg h5]
    have hsz:(a.eval x).cells.size=sz:=by simp at gl; omega
    have ha:arr.size=cs.length:=by simpa using hl
    have hcond :¬(((a.eval x).cells.size≠sz||f.offset+(a.eval x).cells.size>arr.size)=true):=by
     simp [hsz,ha]; omega
    rw [if_neg hcond]
    have hz:(a.eval x).cells.zipIdx.foldl (fun cs (c,j)=>cs.setIfInBounds (f.offset+j) c) arr=vO arr f.offset (a.eval x).cells.toList:=by
     rw [←Array.foldl_toList,Array.toList_zipIdx,qBo]
     simp
    rw [hz]
    exact h6
theorem pD {α β:Type} {w:World} (g:α→Sem β) (k:α→β) :∀(l:List α),(∀x∈l,(g x).run P w=.ok (k x) w)→(l.mapM g).run P w=.ok (l.map k) w
 | [],_=>by simp
 | x::l,h=>by
  rw [List.mapM_cons]
  simp only [Sem.run_bind,h x (by simp),Result.andThen_ok,pD g k l (fun y hy=>h y (by simp [hy])),Sem.run_pure,qZ5]
theorem qDi {α β:Type} {w:World} (g:α→Sem β) (k:α→β) (l:Array α) (h :∀x∈l.toList,(g x).run P w=.ok (k x) w):(l.mapM g).run P w=.ok (l.map k) w:=by
 rw [Array.mapM_eq_mapM_toList,Sem.run_map,pD g k l.toList h]
 simp only [Result.andThen_ok]
 rw [←Array.toList_map,Array.toArray_toList]
theorem uS {t:TypeId} {zero:List AV} (h:lQ P t zero=true) :∃i z,P.info? t=some i∧i.size=zero.length∧i.zero=some z∧nU zero z.cells.toList=true∧zero.all yK=true:=by
 unfold lQ at h
 cases hi:P.info? t with
 | none=>simp [hi] at h
 | some i =>
  simp only [hi,qZ8,beq_iff_eq] at h
  cases hz:i.zero with
  | none=>simp [hz] at h
  | some z =>
   simp only [hz] at h
   exact ⟨i,z,rfl,h.1.1,hz,h.2,h.1.2⟩
theorem qGf {zero:List AV} {parts:List (Nat×Nat×Arg)} (hc:wV P num (.build zero parts) o.op=true) (hp:wH ρ h nx (.build zero parts)=some (p,v,fp,nx')) (hpp:p):aI P num o ρ v fp:=by
 simp only [wV] at hc
 split at hc
 ·rename_i t ps hop
  simp only [qZ8] at hc
  obtain ⟨h1,h2⟩:=hc
  obtain ⟨i,z,hi,hs,hz,hzv,hzo⟩:=uS h1
  cases hfs:fieldsOf P t with
  | none=>simp [hfs] at h2
  | some fs =>
   simp only [hfs,qZ8,List.all_eq_true] at h2
   obtain ⟨h3,h4⟩:=h2
   simp only [wH,Option.some.injEq,Prod.mk.injEq] at hp
   obtain ⟨rfl,rfl,rfl,_⟩:=hp
   refine yY (m:=.mv (.t 0)) ?_
   intro e a hn ht
   subst hn
   have hm :∀w,(fs.mapM fun (f:Field)=>do pure (f.offset,←sizeOf f.type)).run P w=.ok (fs.map fun (f:Field)=>(f.offset,((P.info? f.type).map (·.size)).getD 0)) w:=by
    intro w
    refine qDi _ _ fs ?_
    intro f hf
    obtain ⟨j,hj⟩:=Option.isSome_iff_exists.1 (h3 f hf)
    simp [uF hj,hj]
   obtain ⟨arr',h5,h6⟩:=qEm (P:=P) (ρ:=ρ) (e:=e) (a:=a) (fs:=fs) (places:=fs.map fun (f:Field)=>(f.offset,((P.info? f.type).map (·.size)).getD 0)) (fun i f n hf hn=>by
    obtain ⟨j,hj,hjn⟩:=gU hn
    simp [hf,hj,hjn]) ht parts ps.toList zero z.cells h4 hpp (gM hzv)
   refine ⟨.agg arr',?_,?_⟩
   ·intro w
    simp only [execOp,hop,Sem.run_bind,Instr.build,dN hi hz,wF (zY hfs),Result.andThen_ok]
    rw [hm]
    simp only [Result.andThen_ok]
    have e1:(ps.map fun (i,x)=>(i,a.eval x)).toList=ps.toList.map fun x=>(x.1,a.eval x.2):=by simp
    rw [e1,h5]
    rfl
   ·simp only [RV]
    exact ⟨arr'.toList,by simp,h6⟩
 ·simp at hc
end
end Go.Sep
namespace Go.Sep
set_option linter.unusedVariables false
set_option linter.unusedSimpArgs false
section
variable {P:Program} {num:Nat→Nat} {o:Oper} {ρ:Nat→AV} {h:wM} {nx nx':Nat} {p:Prop} {v:AV} {fp:FP}
theorem qNn {t:TypeId} (h:qU4 P t=true) :∃k,P.underlying t=some (.int k):=by
 unfold qU4 at h
 split at h
 ·exact ⟨_,by assumption⟩
 ·simp at h
theorem sA {w:World} {t:TypeId} {cs:Array Value} {off:Nat} {c:Value} (hag:qCh P t=some false) (hc:cs[off]?=some c):(part t cs off).run P w=.ok c w:=by
 unfold part
 simp [qA4 hag,hc]
theorem sB {w:World} {d:Nat} {e:Env} :∀(ks:List Bool) (xs ys:List AV) (r:Bool) (fs:List Field) (i:Nat) (vs us:List Value) (pre pre':List Value),eqC ks xs ys=some r→aR P i ks fs=true→
  RVs e xs vs []→RVs e ys us []→pre.length=i→pre'.length=i→(Op.eqFields (d+1) (pre++vs).toArray (pre'++us).toArray fs).run P w=.ok r w
 | [],xs,ys,r,fs,i,vs,us,pre,pre',he,hf,h1,h2,hp,hp'=>by
  cases fs with
  | cons=>simp [aR] at hf
  | nil =>
   cases xs with
   | cons x xs=>simp [eqC] at he
   | nil =>
    cases ys with
    | cons=>simp [eqC] at he
    | nil =>
     simp [eqC] at he
     subst he
     simp [Op.eqFields]
 | k::ks,xs,ys,r,fs,i,vs,us,pre,pre',he,hf,h1,h2,hp,hp'=>by
  cases fs with
  | nil=>simp [aR] at hf
  | cons f fs =>
   cases xs with
   | nil=>cases k<;>simp [eqC] at he
   | cons x xs =>
    cases ys with
    | nil=>cases k<;>cases x<;>simp [eqC] at he
    | cons y ys =>
     simp only [aR,qZ8,bne_iff_ne,ne_eq,beq_iff_eq] at hf
     obtain ⟨⟨⟨hn,ho⟩,ht⟩,hf⟩:=hf
     simp only [RVs] at h1 h2
     obtain ⟨v,vs',L1,L2,rfl,g1,g2,g3⟩:=h1
     obtain ⟨u,us',L3,L4,rfl,g4,g5,g6⟩:=h2
     obtain ⟨rfl,rfl⟩:=wX g3
     obtain ⟨rfl,rfl⟩:=wX g6
     have c1:(pre++v::vs').toArray[f.offset]?=some v:=by simp [ho,←hp]
     have c2:(pre'++u::us').toArray[f.offset]?=some u:=by simp [ho,←hp']
     have key:qCh P f.type=some false∧∃q r',r=(q&&r')∧eqC ks xs ys=some r'∧(Op.equalIn (d+1) f.type v u).run P w=.ok q w:=by
      cases k with
      | true =>
       obtain ⟨k',hk⟩:=qNn ht
       refine ⟨by simp [qCh,hk],?_⟩
       cases x with
       | int k1 a =>
        cases y with
        | int k2 b =>
         simp only [eqC] at he
         split at he
         ·rename_i hkk
          subst hkk
          cases hr:eqC ks xs ys with
          | none=>simp [hr] at he
          | some r' =>
           simp [hr] at he
           refine ⟨decide (a=b),r',he.symm,rfl,?_⟩
           rw [xJ g1,xJ g4,run_equalIn_int w d f.type k1 k' a b hk]
           rfl
         ·simp at he
        | _=>simp [eqC] at he
       | _=>cases y<;>simp [eqC] at he
      | false =>
       refine ⟨by simp [qCh,nJ ht],?_⟩
       cases x with
       | bool a =>
        cases y with
        | bool b =>
         simp only [eqC] at he
         cases hr:eqC ks xs ys with
         | none=>simp [hr] at he
         | some r' =>
          simp [hr] at he
          refine ⟨a==b,r',he.symm,rfl,?_⟩
          rw [hO g1,hO g4,run_equalIn_bool' w d f.type a b (nJ ht)]
        | _=>simp [eqC] at he
       | _=>cases y<;>simp [eqC] at he
     obtain ⟨hag,q,r',rfl,hr',hq⟩:=key
     simp only [Op.eqFields]
     rw [if_pos hn]
     simp only [Sem.run_bind,sA hag c1,sA hag c2,Result.andThen_ok,hq]
     cases q with
     | false=>simp
     | true =>
      simp only [Bool.not_true,qZ4,if_false,Bool.true_and]
      have:=sB (w:=w) (d:=d) ks xs ys r' fs (i+1) vs' us' (pre++[v]) (pre'++[u]) hr' hf g2 g5 (by simp [hp]) (by simp [hp'])
      simpa using this
theorem qOx {neg:Bool} {ks:List Bool} {x z:Arg} (hc:wV P num (.eqS neg ks x z) o.op=true) (hp:wH ρ h nx (.eqS neg ks x z)=some (p,v,fp,nx')):aI P num o ρ v fp:=by
 simp only [wV] at hc
 split at hc
 ·rename_i b t y u _ hop
  simp only [qZ8] at hc
  obtain ⟨⟨⟨h0,h1⟩,h2⟩,h3⟩:=hc
  cases hfs:fieldsOf P t with
  | none=>simp [hfs] at h3
  | some fs =>
   simp only [hfs,qZ8,Bool.not_eq_true'] at h3
   obtain ⟨⟨h4,h5⟩,h6⟩:=h3
   simp only [wH] at hp
   split at hp
   ·rename_i xs ys hx hz
    cases hr:eqC ks xs ys with
    | none=>simp [hr] at hp
    | some r =>
     simp only [hr,qZb,Option.some.injEq,Prod.mk.injEq] at hp
     obtain ⟨rfl,rfl,rfl,_⟩:=hp
     refine yY (m:=.mv x) ?_
     intro e a hn ht
     subst hn
     have g1:=yD (ρ:=ρ) ht h1
     rw [hx] at g1
     have g2:=yD (ρ:=ρ) ht h2
     rw [hz] at g2
     simp only [RV] at g1 g2
     obtain ⟨vs,g1,g3⟩:=g1
     obtain ⟨us,g2,g4⟩:=g2
     have hu:=zY hfs
     have hpf:P.fieldsOf t=fs:=by simp [Program.fieldsOf,hu]
     have key :∀w,(Op.equalIn 10000 t (.agg vs.toArray) (.agg us.toArray)).run P w=.ok r w:=by
      intro w
      rw [run_equalIn_agg w 9999 t vs.toArray us.toArray (by rw [hpf]; exact hu) h5,hpf]
      simpa using sB (w:=w) (d:=9998) (e:=e) ks xs ys r fs.toList 0 vs us [] [] hr h4 g3 g4 rfl rfl
     refine ⟨.bool (if neg then !r else r),?_,by simp [RV]⟩
     intro w
     cases neg
     ·simp at h0
      subst h0
      simp only [execOp,hop,g1,g2,Sem.run_bind,run_eqGuard_agg w .eql t y u vs.toArray us.toArray h6,Result.andThen_ok,run_eql_struct,key]
      rfl
     ·simp at h0
      subst h0
      simp only [execOp,hop,g1,g2,Sem.run_bind,run_eqGuard_agg w .neq t y u vs.toArray us.toArray h6,Result.andThen_ok,run_neq_struct,key]
      rfl
   ·simp at hp
 ·simp at hc
theorem qGy {e:Env} {nm off len:Nat} {row:Row} {L L':List Nat} {c:Value} (hr:uQ e nm row L) (h:RV e (.ns nm off len) c L') :
  (e.φ nm=.nilp∧row.2=[]∧off=0∧len=0∧∃a,c=.slice a 0 0)∨
  ∃q a Lr,e.φ nm=.at q∧q.sz=row.1∧fH e.w q row.2.length∧yH e e.w q.block q.off q.sz row.2 Lr∧L=q.block::Lr∧off+len≤q.cap∧
   c=.slice (some a) len (q.cap-off)∧(off<q.cap→a=⟨q.block,q.off+off*q.sz,none⟩):=by
 simp only [RV] at h
 obtain ⟨_,h⟩:=h
 unfold uQ bY at hr
 cases hq:e.φ nm with
 | dead=>rw [hq] at hr; exact hr.elim
 | nilp=>rw [hq] at hr h; exact .inl ⟨rfl,hr.1,h⟩
 | «at» q =>
  rw [hq] at hr h
  obtain ⟨h1,h2,Lr,h3,h4⟩:=hr
  obtain ⟨h5,a,h6,h7⟩:=h
  exact .inr ⟨q,a,Lr,rfl,h1,h2,h3,h4,h5,h6,h7⟩
theorem qOt {sz:Nat} {x z:Arg} (hc:wV P num (.iad sz x z) o.op=true) (hp:wH ρ h nx (.iad sz x z)=some (p,v,fp,nx')) (hpp:p):aI P num o ρ v fp:=by
 simp only [wV] at hc
 split at hc
 ·rename_i t y u hop
  simp only [qZ8] at hc
  obtain ⟨⟨h1,h2⟩,h3⟩:=hc
  cases hel:bM P t with
  | none=>simp [hel] at h3
  | some el =>
   simp only [hel] at h3
   obtain ⟨i,hi,hs⟩:=gU h3
   have hu:=dB hel
   have key :∀(a:Act) (w:World) (A:Addr) (l c:Nat) (k:IntKind) (j:Int),a.eval y=.slice (some A) l c→a.eval u=.int k j→0≤j→j<l→
     (execOp a.eval o).run P w=.ok (.value (.pointer (some (A.add (j.toNat*sz))))) w:=by
    intro a w A l c k j e1 e2 h4 h5
    simp [execOp,hop,e1,e2,Instr.indexAt,asIntOf,wF hu,h4,h5,uF hi,hs]
   simp only [wH] at hp
   split at hp
   ·rename_i nm off len k j hx hz
    cases hl:qM h nm with
    | none=>simp [hl] at hp
    | some row =>
     simp only [hl,qZb,Option.some.injEq,Prod.mk.injEq] at hp
     obtain ⟨rfl,rfl,rfl,_⟩:=hp
     obtain ⟨p1,p2,p3,p4⟩:=hpp
     refine iQ ?_
     intro e L0 H Lf a hn hk hr ht
     subst hn
     have g1:=yD (ρ:=ρ) ht h1
     rw [hx] at g1
     have g2:=yD (ρ:=ρ) ht h2
     rw [hz] at g2
     rcases qGy hr g1 with ⟨_,_,_,rfl,_⟩ | ⟨q,A,Lr,hq,q1,q2,q3,q4,q5,q6,q7⟩
     ·omega
     ·have hA:=q7 (by omega)
      refine ⟨_,fun w=>key a w A len _ k j q6 (xJ g2) p3 p4,?_⟩
      rw [hA,eR]
      have:q.off+off*q.sz+j.toNat*sz=q.off+(off+j.toNat)*q.sz+0:=by
       rw [q1,p1,qZ0]; omega
      rw [this]
      exact qFh hq
   ·rename_i s rows k j hx hz
    simp only [Option.some.injEq,Prod.mk.injEq] at hp
    obtain ⟨rfl,rfl,rfl,_⟩:=hp
    obtain ⟨p1,p3,p4⟩:=hpp
    refine yY (m:=.mv x) ?_
    intro e a hn ht
    subst hn
    have g1:=yD (ρ:=ρ) ht h1
    rw [hx] at g1
    have g2:=yD (ρ:=ρ) ht h2
    rw [hz] at g2
    simp only [RV] at g1
    rcases g1.2 with ⟨rfl,_⟩ | ⟨b,o',c,q1,q2,q3,q4⟩
    ·simp at p4; omega
    ·obtain ⟨vs,L1,L2,L3,r1,r2,r3,r4,_,_,r5⟩:=eP j.toNat (by omega) q4
     obtain ⟨_,r5⟩:=wX r5
     obtain ⟨rfl,_⟩:=wX r5.symm
     refine ⟨_,fun w=>key a w _ rows.length c k j q1 (xJ g2) p3 p4,?_⟩
     have hg:rows.getD j.toNat []=rows[j.toNat]'(by omega):=by
      have:j.toNat<rows.length:=by omega
      simp [qZa,this]
     rw [hg,eR]
     simp only [RV,true_and]
     subst p1
     exact ⟨b,o'+j.toNat*s,vs,rfl,q3,by omega,fun j' hj'=>r3 j' (by omega),r4⟩
   ·rename_i s rows k j hx hz
    simp only [Option.some.injEq,Prod.mk.injEq] at hp
    obtain ⟨rfl,rfl,rfl,_⟩:=hp
    obtain ⟨p1,p3,p4⟩:=hpp
    refine yY (m:=.mv x) ?_
    intro e a hn ht
    subst hn
    have g1:=yD (ρ:=ρ) ht h1
    rw [hx] at g1
    have g2:=yD (ρ:=ρ) ht h2
    rw [hz] at g2
    simp only [RV] at g1
    rcases g1.2 with ⟨rfl,_⟩ | ⟨b,o',c,q1,q2,q3,q4⟩
    ·simp at p4; omega
    ·obtain ⟨vs,L1,L2,L3,r1,r2,r3,r4,_,_,r5⟩:=eP j.toNat (by omega) q4
     obtain ⟨_,r5⟩:=wX r5
     obtain ⟨rfl,_⟩:=wX r5.symm
     refine ⟨_,fun w=>key a w _ rows.length c k j q1 (xJ g2) p3 p4,?_⟩
     have hg:rows.getD j.toNat []=rows[j.toNat]'(by omega):=by
      have:j.toNat<rows.length:=by omega
      simp [qZa,this]
     rw [hg,eR]
     simp only [RV,true_and]
     subst p1
     exact ⟨b,o'+j.toNat*s,vs,rfl,q3,by omega,fun j' hj'=>r3 j' (by omega),r4⟩
   ·simp at hp
 ·simp at hc
theorem qI3 {e:Env} {W:World} {b o' sz:Nat} {rows:List (List AV)} (l n:Nat) (hl:l≤rows.length) (h:yH e W b o' sz rows []):yH e W b (o'+l*sz) sz ((rows.drop l).take n) []:=by
 have h1:rows=rows.take l++rows.drop l:=by simp
 rw [h1] at h
 obtain ⟨L1,L2,_,h2,h3⟩:=(jD _ _).1 h
 obtain ⟨_,rfl⟩:=wX h3
 rw [qZ1,qYx hl] at h2
 have h4:rows.drop l=(rows.drop l).take n++(rows.drop l).drop n:=(qZe n _).symm
 rw [h4] at h2
 obtain ⟨L3,L4,h5,_,h6⟩:=(jD _ _).1 h2
 obtain ⟨rfl,_⟩:=wX h6
 exact h5
theorem qP1 {sz:Nat} {x:Arg} {lo hi:Option Arg} (hc:wV P num (.cut sz x lo hi) o.op=true) (hp:wH ρ h nx (.cut sz x lo hi)=some (p,v,fp,nx')) (hpp:p):aI P num o ρ v fp:=by
 simp only [wV] at hc
 split at hc
 ·rename_i t y l' h' hop
  simp only [qZ8] at hc
  obtain ⟨⟨⟨h1,h2⟩,h3⟩,h4⟩:=hc
  cases hel:bM P t with
  | none=>simp [hel] at h4
  | some el =>
   simp only [hel] at h4
   obtain ⟨i,hi',hs⟩:=gU h4
   have hu:=dB hel
   have key :∀(e:Env) (a:Act) (w:World) (A:Option Addr) (len c:Nat) (l m:Int),e.num=num→(∀t,RV e (ρ t) (a.tmps.getD t undef) [])→a.eval y=.slice A len c→xU ρ 0 lo=some l→xU ρ len hi=some m→0≤l→l≤m→m≤len→len≤c→
     (execOp a.eval o).run P w=.ok (.value (.slice (if c=l.toNat then A else A.map (·.add (l.toNat*sz))) (m.toNat-l.toNat) (c-l.toNat))) w:=by
    intro e a w A len c l m hn ht e1 e2 e3 b1 b2 b3 b4
    subst hn
    simp only [execOp,hop,e1,Sem.run_bind,Instr.sliceAt,wF hu,Result.andThen_ok,Instr.slice,qZc]
    rw [lX (isS:=true) ht h2 h3 e2 e3 b1 b2 b3 b4]
    simp [uF hi',hs]
   simp only [wH] at hp
   cases hl:xU ρ 0 lo with
   | none=>simp [hl] at hp
   | some l =>
    simp only [hl,qZd] at hp
    split at hp
    ·rename_i hx
     cases hh:xU ρ 0 hi with
     | none=>simp [hh] at hp
     | some m =>
      simp only [hh,qZb,Option.some.injEq,Prod.mk.injEq] at hp
      obtain ⟨rfl,rfl,rfl,_⟩:=hp
      obtain ⟨rfl,rfl⟩:=hpp
      refine yY (m:=.mv x) ?_
      intro e a hn ht
      subst hn
      have g1:=yD (ρ:=ρ) ht h1
      rw [hx] at g1
      simp only [RV] at g1
      exact ⟨_,fun w=>key e a w none 0 0 0 0 rfl ht g1.1 hl hh (by omega) (by omega) (by omega) (by omega),by simp [RV]⟩
    ·rename_i nm off len hx
     cases hlk:qM h nm with
     | none=>simp [hlk] at hp
     | some row =>
      cases hh:xU ρ len hi with
      | none=>simp [hlk,hh] at hp
      | some m =>
       simp only [hlk,hh,qZd,qZb,Option.some.injEq,Prod.mk.injEq] at hp
       obtain ⟨rfl,rfl,rfl,_⟩:=hp
       obtain ⟨p1,p2,p3,p4,p5⟩:=hpp
       refine iQ ?_
       intro e L0 H Lf a hn hk hr ht
       subst hn
       have g1:=yD (ρ:=ρ) ht h1
       rw [hx] at g1
       rcases qGy hr g1 with ⟨hq,_,rfl,rfl,aa,g2⟩ | ⟨q,A,Lr,hq,q1,q2,q3,q4,q5,q6,q7⟩
       ·have hl0:l=0:=by omega
        have hm0:m=0:=by omega
        subst hl0 hm0
        refine ⟨_,fun w=>key e a w aa 0 0 0 0 rfl ht g2 hl hh (by omega) (by omega) (by omega) (by omega),?_⟩
        simp [RV,hq]
       ·refine ⟨_,fun w=>key e a w (some A) len _ l m rfl ht q6 hl hh p3 p4 p5 (by omega),?_⟩
        simp only [RV,hq,true_and]
        refine ⟨by omega,?_⟩
        by_cases hcap:q.cap-off=l.toNat
        ·rw [if_pos hcap]
         exact ⟨A,by rw [show q.cap-(off+l.toNat)=q.cap-off-l.toNat by omega],fun hlt=>by omega⟩
        ·rw [if_neg hcap]
         refine ⟨A.add (l.toNat*sz),by rw [show q.cap-(off+l.toNat)=q.cap-off-l.toNat by omega]; rfl,fun hlt=>?_⟩
         rw [q7 (by omega),eR,←p1,←q1,qZ0,qZ9]
    ·rename_i s rows hx
     cases hh:xU ρ rows.length hi with
     | none=>simp [hh] at hp
     | some m =>
      simp only [hh,qZb,Option.some.injEq,Prod.mk.injEq] at hp
      obtain ⟨rfl,rfl,rfl,_⟩:=hp
      obtain ⟨p1,p3,p4,p5⟩:=hpp
      refine yY (m:=.mv x) ?_
      intro e a hn ht
      subst hn
      have g1:=yD (ρ:=ρ) ht h1
      rw [hx] at g1
      simp only [RV] at g1
      rcases g1.2 with ⟨rfl,A,c,q1,q2⟩ | ⟨b,o',c,q1,q2,q3,q4⟩
      ·simp only [qYz] at hh p5
       have hl0:l=0:=by omega
       have hm0:m=0:=by omega
       subst hl0 hm0
       refine ⟨_,fun w=>key e a w A 0 c 0 0 rfl ht q1 hl hh (by omega) (by omega) (by omega) (by omega),?_⟩
       simp only [RV,true_and]
       refine .inl ⟨by simp,_,_,rfl,?_⟩
       intro hA
       cases A with
       | none=>have:=q2 rfl; omega
       | some A=>split at hA<;>simp at hA
      ·refine ⟨_,fun w=>key e a w _ rows.length c l m rfl ht q1 hl hh p3 p4 p5 q2,?_⟩
       simp only [RV,true_and]
       have hlen:((rows.drop l.toNat).take (m.toNat-l.toNat)).length=m.toNat-l.toNat:=by simp; omega
       by_cases hz:m.toNat-l.toNat=0
       ·refine .inl ⟨List.length_eq_zero_iff.1 (by omega),_,_,by rw [hz],?_⟩
        intro hA
        split at hA<;>simp at hA
       ·refine .inr ⟨b,o'+l.toNat*s,c-l.toNat,?_,by omega,q3,qI3 _ _ (by omega) q4⟩
        rw [if_neg (by omega),hlen,p1]
        simp [eR]
    ·rename_i s rows hx
     cases hh:xU ρ rows.length hi with
     | none=>simp [hh] at hp
     | some m =>
      simp only [hh,qZb,Option.some.injEq,Prod.mk.injEq] at hp
      obtain ⟨rfl,rfl,rfl,_⟩:=hp
      obtain ⟨p1,p3,p4,p5⟩:=hpp
      refine yY (m:=.mv x) ?_
      intro e a hn ht
      subst hn
      have g1:=yD (ρ:=ρ) ht h1
      rw [hx] at g1
      simp only [RV] at g1
      rcases g1.2 with ⟨rfl,A,c,q1,q2⟩ | ⟨b,o',c,q1,q2,q3,q4⟩
      ·simp only [qYz] at hh p5
       have hl0:l=0:=by omega
       have hm0:m=0:=by omega
       subst hl0 hm0
       refine ⟨_,fun w=>key e a w A 0 c 0 0 rfl ht q1 hl hh (by omega) (by omega) (by omega) (by omega),?_⟩
       simp only [RV,true_and]
       refine .inl ⟨by simp,_,_,rfl,?_⟩
       intro hA
       cases A with
       | none=>have:=q2 rfl; omega
       | some A=>split at hA<;>simp at hA
      ·refine ⟨_,fun w=>key e a w _ rows.length c l m rfl ht q1 hl hh p3 p4 p5 q2,?_⟩
       simp only [RV,true_and]
       have hlen:((rows.drop l.toNat).take (m.toNat-l.toNat)).length=m.toNat-l.toNat:=by simp; omega
       by_cases hz:m.toNat-l.toNat=0
       ·refine .inl ⟨List.length_eq_zero_iff.1 (by omega),_,_,by rw [hz],?_⟩
        intro hA
        split at hA<;>simp at hA
       ·refine .inr ⟨b,o'+l.toNat*s,c-l.toNat,?_,by omega,q3,qI3 _ _ (by omega) q4⟩
        rw [if_neg (by omega),hlen,p1]
        simp [eR]
    ·simp at hp
 ·simp at hc
end
end Go.Sep
namespace Go.Sep
set_option linter.unusedVariables false
set_option linter.unusedSimpArgs false
def jV (e:Env) (sz:Nat):List (List AV)→List Value→List Nat→Prop
 | [],vs,L=>vs=[]∧L=[]
 | r::rs,vs,L =>∃v1 v2 L1 L2,vs=v1++v2∧(r.length=sz∧r.all yK=true)∧RVs e r v1 L1∧jV e sz rs v2 L2∧L=L1++L2
theorem jX {e:Env} {sz:Nat} :∀{rows:List (List AV)} {vs:List Value} {L:List Nat},jV e sz rows vs L→vs.length=rows.length*sz
 | [],_,_,h=>by simp only [jV] at h; simp [h.1]
 | r::rs,_,_,h=>by
  simp only [jV] at h
  obtain ⟨v1,v2,L1,L2,rfl,h1,h2,h3,rfl⟩:=h
  rw [qZo,yP h2,jX h3,h1.1,qZ3,qZ0]
  omega
theorem lV {e:Env} {sz:Nat} :∀{xs ys:List (List AV)} {vs us:List Value} {L M:List Nat},jV e sz xs vs L→jV e sz ys us M→jV e sz (xs++ys) (vs++us) (L++M)
 | [],ys,vs,us,L,M,h1,h2=>by simp only [jV] at h1; obtain ⟨rfl,rfl⟩:=h1; exact h2
 | r::rs,ys,vs,us,L,M,h1,h2=>by
  simp only [jV] at h1
  obtain ⟨v1,v2,L1,L2,rfl,g1,g2,g3,rfl⟩:=h1
  simp only [qYw,jV]
  exact ⟨v1,v2++us,L1,L2++M,by simp,g1,g2,lV g3 h2,by simp⟩
theorem aU {e e':Env} {A:Nat→Prop} {sz:Nat} :∀{rows:List (List AV)} {vs:List Value} {L:List Nat},dC e e' A L→yM A rows→jV e sz rows vs L→jV e' sz rows vs L
 | [],_,_,_,_,h=>h
 | r::rs,_,_,k,hb,h=>by
  simp only [jV] at h⊢
  obtain ⟨v1,v2,L1,L2,rfl,g1,g2,g3,rfl⟩:=h
  exact ⟨v1,v2,L1,L2,rfl,g1,dT r (k.sub (by simp +contextual)) hb.1 g2,aU (k.sub (by simp +contextual)) hb.2 g3,rfl⟩
theorem fI {e:Env} {W:World} {b sz:Nat} :∀{rows:List (List AV)} {vs:List Value} {L:List Nat} {o:Nat},jV e sz rows vs L→(∀j,j<vs.length→W.cell? ⟨b,o+j,none⟩=vs[j]?)→yH e W b o sz rows L
 | [],_,_,_,h,_=>by simp only [jV] at h; simp only [yH]; exact h.2
 | r::rs,_,_,o,h,hc=>by
  simp only [jV] at h
  obtain ⟨v1,v2,L1,L2,rfl,g1,g2,g3,rfl⟩:=h
  have hl:=yP g2
  simp only [yH]
  refine ⟨v1,L1,L2,g1,by omega,fun j hj=>?_,g2,fI g3 (fun j hj=>?_),rfl⟩
  ·rw [hc j (by simp; omega),qZn (by omega)]
  ·have:=hc (sz+j) (by simp; omega)
   rw [←qZ9] at this
   rw [this,qYy (by omega)]
   congr 1
   omega
theorem kV {e:Env} {W:World} {b sz:Nat} :∀{rows:List (List AV)} {L:List Nat} {o:Nat},yH e W b o sz rows L→∃vs,jV e sz rows vs L∧∀j,j<vs.length→W.cell? ⟨b,o+j,none⟩=vs[j]?
 | [],_,_,h=>by simp only [yH] at h; exact ⟨[],⟨rfl,h⟩,by simp⟩
 | r::rs,_,o,h=>by
  simp only [yH] at h
  obtain ⟨v1,L1,L2,h1,h2,h3,h4,h5,rfl⟩:=h
  obtain ⟨v2,h6,h7⟩:=kV h5
  refine ⟨v1++v2,⟨v1,v2,L1,L2,rfl,h1,h4,h6,rfl⟩,fun j hj=>?_⟩
  by_cases hjs:j<sz
  ·rw [h3 j hjs,qZn (by omega)]
  ·rw [qYy (by omega),h2]
   have:=h7 (j-sz) (by simp at hj; omega)
   rw [←this]
   congr 2
   omega
theorem kQ (H:Nat→Option Row) :∀(a b:FP),upH H (a++b)=upH (upH H a) b
 | [],b=>rfl
 | (n,p,r)::a,b=>by simp only [qYw,upH]; exact kQ _ a b
theorem qB1 {w w1:World} {ob:Obj} (h:w1.heap=w.heap) {b:Nat} (hb:b<w.heap.size):(w1.alloc ob).heap[b]?=w.heap[b]?:=by
 simp only [World.alloc,h]
 rw [Array.getElem?_push_lt hb]
 simp [hb]
theorem qHy {w w1:World} {ob:Obj} (h:w1.heap=w.heap):(w1.alloc ob).heap[w.heap.size]?=some ob:=by
 simp [World.alloc,h]
theorem Tri.of_new {P:Program} {num:Nat→Nat} {o:Oper} {ρ:Nat→AV} {v:AV} {rd:FP} {nx sz:Nat} {rows:List (List AV)} (hrd :∀x∈rd,x.2.2=x.2.1) (hnx:nx∉rd.map (·.1))
  (h :∀(e:Env) (L0:List Nat) (H:Nat→Option Row) (Lf:Nat→List Nat) (A:Nat→Prop) (a:Act),e.num=num→Ok e L0 H Lf→(∀x∈rd,H x.1=x.2.1)→(∀t,bnd A (ρ t))→(∀nm row,H nm=some row→yM A row.2)→
   (∀t,RV e (ρ t) (a.tmps.getD t undef) [])→
   ∃(w1:World) (arr:Array Value) (ty cap:Nat) (vals:List Value) (v':Value),(execOp a.eval o).run P e.w=.ok (.value v') (w1.alloc (.cells arr ty))∧(w1.heap=e.w.heap∧bX e.w w1)∧yM A rows∧jV e sz rows vals []∧(∀j,j<vals.length→arr[j]?=vals[j]?)∧
    0<sz∧rows.length≤cap∧cap*sz≤arr.size∧(∀e':Env,e'.φ nx=.at ⟨e.w.heap.size,0,cap,sz⟩→RV e' v v' [])) :
  Tri P num o ρ v (rd++[(nx,none,some (sz,rows))]):=by
 intro e L0 H Lf A a K Q hn hk hpre hbt hbh hfr ht k
 obtain ⟨w1,arr,ty,cap,vals,v',hr,⟨hw,hio⟩,hb,hfl,hc,hsz,hcap,hroom,hv⟩:=h e L0 H Lf A a hn hk (fun x hx=>hpre x (by simp [hx])) hbt hbh ht
 have hnone:H nx=none:=hpre (nx,none,some (sz,rows)) (by simp)
 have hnA :¬A nx:=hfr (nx,none,some (sz,rows)) (by simp) rfl
 let e':Env:={e with w:=w1.alloc (.cells arr ty),φ:=fun n=>if n=nx then .at ⟨e.w.heap.size,0,cap,sz⟩ else e.φ n}
 have φn :∀nm,nm≠nx→e'.φ nm=e.φ nm:=fun nm h=>if_neg h
 have φx:e'.φ nx=.at ⟨e.w.heap.size,0,cap,sz⟩:=if_pos rfl
 have hH :∀n,upH H (rd++[(nx,none,some (sz,rows))]) n=if n=nx then some (sz,rows) else H n:=by
  intro n
  rw [kQ,rJ (fun x hx=>hpre x (by simp [hx])) hrd]
  rfl
 have hsize:e'.w.heap.size=e.w.heap.size+1:=by
  show (w1.alloc _).heap.size=_
  simp [hw]
 have keep :∀b,b<e.w.heap.size→e'.w.heap[b]?=e.w.heap[b]?:=fun b hb=>qB1 hw hb
 have kp :∀L:List Nat,(∀b∈L,b<e.w.heap.size)→dC e e' A L:=fun L hL=>{
  num:=rfl
  fr:=fun m b h=>by cases m<;>exact h
  cells:=fun b _ o=>rfl
  φ:=fun nm hA=>.inl (φn nm (fun he=>hnA (he▸hA)))
  own:=fun b hb=>keep b (hL b hb)}
 have hother :∀nm row,nm≠nx→H nm=some row→uQ e' nm row (Lf nm):=fun nm row hne hrow =>
  (hk.rh.row nm row hrow).keep (kp _ (fun b hb=>(hk.rh.blk nm (by simp [hrow]) b hb).1)) (φn nm hne) (hbh nm row hrow)
 refine zT (w':=e'.w) hr (k e' (fun n=>if n=nx then [e.w.heap.size] else Lf n) v' ?_ (hv e' φx))
 refine {num:=rfl,w0:=rfl,Fr:=rfl,Bo:=rfl,io:=hio,size:=by omega,keep:=fun b hb _=>keep b hb,φ:=?_,φF:=?_,rest:=?_,row:=?_,nodup:=?_,blk:=?_,dis:=?_,dead:=?_}
 ·intro nm hF
  exact φn nm (fun he=>hF (by simp [he]))
 ·intro nm _ hne
  exact .inl (φn nm (fun he=>hne (he▸hnone)))
 ·intro nm hF
  rw [hH,if_neg (fun he=>hF (by simp [he]))]
 ·intro nm row _ hrow
  rw [hH] at hrow
  by_cases hne:nm=nx
  ·subst hne
   rw [if_pos rfl] at hrow
   simp only [Option.some.injEq] at hrow
   subst hrow
   simp only [if_true]
   have hblk:e'.w.heap[e.w.heap.size]?=some (.cells arr ty (0,0)):=qHy hw
   unfold uQ bY
   rw [φx]
   refine ⟨rfl,⟨hsz,hcap,arr,ty,hblk,by simpa using hroom⟩,[],?_,rfl⟩
   refine fI (aU (kp [] (by simp)) hb hfl) (fun j hj=>?_)
   rw [zG hblk,Nat.zero_add]
   exact hc j hj
  ·rw [if_neg hne] at hrow
   simp only [if_neg hne]
   exact hother nm row hne hrow
 ·intro nm _ hne
  rw [hH] at hne
  by_cases he:nm=nx
  ·simp [he]
  ·rw [if_neg he] at hne
   simp only [if_neg he]
   exact hk.rh.nodup nm hne
 ·intro nm hF hne b hb
  rw [hH] at hne
  by_cases he:nm=nx
  ·simp only [if_pos he,qZp] at hb
   exact ⟨by omega,.inl (by omega)⟩
  ·rw [if_neg he] at hne
   simp only [if_neg he] at hb
   exact ⟨by have:=(hk.rh.blk nm hne b hb).1; omega,.inr ⟨nm,hF,hne,hb⟩⟩
 ·intro n m _ _ hn hm hne b hb1 hb2
  rw [hH] at hn hm
  by_cases h1:n=nx<;>by_cases h2:m=nx
  ·exact hne (h1.trans h2.symm)
  ·simp only [if_pos h1,if_neg h2,qZp] at hb1 hb2 hm
   have:=(hk.rh.blk m hm b hb2).1; omega
  ·simp only [if_pos h2,if_neg h1,qZp] at hb1 hb2 hn
   have:=(hk.rh.blk n hn b hb1).1; omega
  ·simp only [if_neg h1,if_neg h2] at hb1 hb2 hn hm
   exact hk.rh.dis n m hn hm hne b hb1 hb2
 ·intro nm _ hno
  rw [hH] at hno
  by_cases he:nm=nx
  ·simp [he] at hno
  ·rw [if_neg he] at hno
   rw [φn nm he]
   exact hk.rh.dead nm hno
section
variable {P:Program} {num:Nat→Nat} {o:Oper} {ρ:Nat→AV} {h:wM} {nx nx':Nat} {p:Prop} {v:AV} {fp:FP}
mutual
theorem qLx {A:Nat→Prop} :∀{d:AV} {v:Value},tK d v=true→bnd A d
 | .agg ds,v,h=>by
  simp only [tK] at h
  split at h
  ·exact dX h
  ·simp at h
 | .bool _,_,_ | .int _ _,_,_ | .str _,_,_ | .nil,_,_ | .nilp,_,_ | .nilI,_,_=>trivial
 | .any,_,h | .fn _ _,_,h | .ptr _ _ _,_,h | .fptr _ _ _,_,h | .ifc,_,h | .ns _ _ _,_,h | .sl _ _ _,_,h | .tup _,_,h=>by simp [tK] at h
theorem dX {A:Nat→Prop} :∀{ds:List AV} {vs:List Value},nU ds vs=true→yX A ds
 | [],_,_=>trivial
 | d::ds,vs,h=>by
  cases vs with
  | nil=>simp [nU] at h
  | cons v vs =>
   simp only [nU,qZ8] at h
   exact ⟨qLx h.1,dX h.2⟩
end
theorem uA {A:Nat→Prop} {x:Operand} {y:Arg} (ht :∀t,bnd A (ρ t)) (h:uM num x y=true):bnd A (y.ev ρ):=by
 cases y with
 | t n=>exact ht n
 | c d =>
  cases x with
  | tmp t=>simp [uM] at h
  | const v=>exact qLx h
  | global g=>simp [uM] at h
  | func f =>
   cases d with
   | fn g cap=>cases cap<;>simp [uM] at h; trivial
   | _=>simp [uM] at h
theorem xO {A:Nat→Prop} {v:AV} (h:bnd A v):yX A (cellsOf v):=by
 cases v<;>first | exact h | exact ⟨h,trivial⟩
theorem qQb {zero:List AV} (hc:wV P num (.alloc zero) o.op=true) (hp:wH ρ h nx (.alloc zero)=some (p,v,fp,nx')) (h0:p):Tri P num o ρ v fp:=by
 simp only [wV] at hc
 split at hc
 ·rename_i t hop
  obtain ⟨i,z,hi,hs,hz,hzv,hzo⟩:=uS hc
  simp only [wH,Option.some.injEq,Prod.mk.injEq] at hp
  obtain ⟨rfl,rfl,rfl,_⟩:=hp
  refine Tri.of_new (rd:=[]) (by simp) (by simp) ?_
  intro e L0 H Lf A a hn hk _ _ _ ht
  have hl:=yP (gM (e:=e) hzv)
  refine ⟨e.w,z.cells,t,1,z.cells.toList,.pointer (some ⟨e.w.heap.size,0,none⟩),?_,⟨rfl,bX.refl _⟩,⟨dX hzv,trivial⟩,?_,?_,h0,by simp,?_,?_⟩
  ·simp only [execOp,hop,Sem.run_bind,Instr.alloc,dN hi hz,Result.andThen_ok,newVar]
   rw [xG]
   rfl
  ·exact ⟨z.cells.toList,[],[],[],by simp,⟨rfl,hzo⟩,gM hzv,⟨rfl,rfl⟩,rfl⟩
  ·intro j _; simp
  ·simp at hl⊢; omega
  ·intro e' hφ
   simpa using qFh (i:=0) (f:=0) hφ
 ·simp at hc
theorem qVo {x:Arg} (hc:wV P num (.box x) o.op=true) (hp:wH ρ h nx (.box x)=some (p,v,fp,nx')) (hpp:p):Tri P num o ρ v fp:=by
 simp only [wV] at hc
 split at hc
 ·rename_i t y hop
  simp only [wH,Option.some.injEq,Prod.mk.injEq] at hp
  obtain ⟨rfl,rfl,rfl,_⟩:=hp
  obtain ⟨p1,p2⟩:=hpp
  refine Tri.of_new (rd:=[]) (by simp) (by simp) ?_
  intro e L0 H Lf A a hn hk _ hbt _ ht
  subst hn
  have g:=fY p1 (yD (ρ:=ρ) ht hc)
  have hl:=yP g
  refine ⟨e.w,(a.eval y).cells,t,1,(a.eval y).cells.toList,.pointer (some ⟨e.w.heap.size,0,none⟩),?_,⟨rfl,bX.refl _⟩,⟨xO (uA hbt hc),trivial⟩,?_,?_,p2,by simp,?_,?_⟩
  ·simp only [execOp,hop,Sem.run_bind,Instr.box,newVar]
   rw [xG]
   rfl
  ·exact ⟨(a.eval y).cells.toList,[],[],[],by simp,⟨rfl,p1⟩,g,⟨rfl,rfl⟩,rfl⟩
  ·intro j _; simp
  ·simp at hl⊢; omega
  ·intro e' hφ
   simpa using qFh (i:=0) (f:=0) hφ
 ·simp at hc
end
end Go.Sep
namespace Go.Sep
set_option linter.unusedVariables false
set_option linter.unusedSimpArgs false
theorem qBp {α:Type} (l:List α) :∀(n j:Nat),j<n*l.length→(qZ2 n l).flatten[j]?=l[j%l.length]?
 | 0,j,h=>by simp at h
 | n+1,j,h=>by
  rw [qZq,qZr]
  by_cases hj:j<l.length
  ·rw [qZn hj,Nat.mod_eq_of_lt hj]
  ·rw [qYy (by omega),qBp l n (j-l.length) (by rw [qZ0] at h; omega)]
   have:j=(j-l.length)+l.length:=by omega
   conv=>rhs; rw [this,Nat.add_mod_right]
theorem tW {zc:Array Value} {n m:Nat} (hm:m=zc.size) (j:Nat) (hj:j<n*m):((Array.range (n*m)).map (zc[· % zc.size]!))[j]?=(qZ2 n zc.toList).flatten[j]?:=by
 subst hm
 have hpos:0<zc.size:=by
  rcases Nat.eq_zero_or_pos zc.size with h | h
  ·simp [h] at hj
  ·exact h
 have h1:=Nat.mod_lt j hpos
 rw [qBp zc.toList n j (by simpa using hj)]
 simp [hj,h1]
theorem dU {e:Env} {sz:Nat} {z:List AV} {zc:List Value} (h:RVs e z zc []) (hs:z.length=sz∧z.all yK=true) :∀(n:Nat),jV e sz (qZ2 n z) (qZ2 n zc).flatten []
 | 0=>⟨rfl,rfl⟩
 | n+1=>by
  rw [qZq,qZq,qZr]
  exact ⟨zc,_,[],[],rfl,hs,h,dU h hs n,rfl⟩
theorem qI6 {e:Env} {sz:Nat} {r:List AV} {us:List Value} (hr:RVs e r us []) (hs:r.length=sz∧r.all yK=true) :∀{rows:List (List AV)} {vs:List Value} (i:Nat),i<rows.length→jV e sz rows vs []→
  jV e sz (rows.set i r) (vs.take (i*sz)++us++vs.drop (i*sz+us.length)) []
 | [],_,i,hi,_=>by simp at hi
 | q::rows,vs,i,hi,h=>by
  simp only [jV] at h
  obtain ⟨v1,v2,L1,L2,rfl,h1,h2,h3,h4⟩:=h
  obtain ⟨rfl,rfl⟩:=wX h4
  have hl:=yP h2
  have hu:=yP hr
  cases i with
  | zero =>
   simp only [List.set_cons_zero,jV]
   refine ⟨us,v2,[],[],?_,hs,hr,h3,rfl⟩
   rw [hu,hs.1,←h1.1,←hl]
   simp
  | succ i =>
   simp only [List.set_cons_succ,jV]
   refine ⟨v1,_,[],[],?_,h1,h2,qI6 hr hs i (by simpa using hi) h3,rfl⟩
   have e1:(i+1)*sz=v1.length+i*sz:=by rw [qZ0]; omega
   rw [e1,List.take_append,List.drop_append,qZh (by omega),qZi (by omega)]
   have e2:v1.length+i*sz-v1.length=i*sz:=by omega
   have e3:v1.length+i*sz+us.length-v1.length=i*sz+us.length:=by omega
   rw [e2,e3]
   simp
section
variable {P:Program} {num:Nat→Nat} {o:Oper} {ρ:Nat→AV} {h:wM} {nx nx':Nat} {p:Prop} {v:AV} {fp:FP}
theorem qHg {e:Env} {a:Act} {sz n:Nat} (ht :∀t,RV e (ρ t) (a.tmps.getD t undef) []) :∀(parts:List (Nat×Arg)) (ps:List (Nat×Operand)) (rows:List (List AV)) (arr:Array Value),cC e.num ps parts=true→
   oT ρ n sz parts→rows.length=n→jV e sz rows arr.toList []→∃arr',Instr.fill (fun i=>some (i*sz,sz)) arr (ps.map fun x=>(x.1,a.eval x.2))=some arr'∧jV e sz (tC ρ rows parts) arr'.toList []
 | [],ps,rows,arr,hc,_,_,h=>by
  cases ps with
  | nil=>exact ⟨arr,rfl,h⟩
  | cons=>simp [cC] at hc
 | (i,y)::parts,ps,rows,arr,hc,hf,hn,h=>by
  cases ps with
  | nil=>simp [cC] at hc
  | cons q ps =>
   obtain ⟨j,x⟩:=q
   simp only [cC,qZ8,beq_iff_eq] at hc
   obtain ⟨⟨rfl,h2⟩,h3⟩:=hc
   simp only [oT] at hf
   obtain ⟨⟨f1,f2,f3⟩,f4⟩:=hf
   have g:=fY f3 (yD (ρ:=ρ) ht h2)
   have gl:=yP g
   have hl:=jX h
   have hmul:(j+1)*sz≤n*sz:=qZs _ f1
   rw [qZ0] at hmul
   have harr:arr.size=n*sz:=by rw [←hn]; simpa using hl
   have hus:(a.eval x).cells.toList.length=sz:=by omega
   have hs:=qC9 arr (j*sz) (a.eval x).cells.toList (by rw [harr,hus]; omega)
   have hr:jV e sz (rows.set j (cellsOf (y.ev ρ))) (vO arr (j*sz) (a.eval x).cells.toList).toList []:=by
    rw [hs]
    exact qI6 g ⟨f2,f3⟩ j (by omega) h
   obtain ⟨arr',h6,h7⟩:=qHg ht parts ps _ _ h3 f4 (by simpa using hn) hr
   refine ⟨arr',?_,h7⟩
   simp only [qZ5,Instr.fill]
   have hsz:(a.eval x).cells.size=sz:=by simpa using hus
   have hcond :¬(((a.eval x).cells.size≠sz||j*sz+(a.eval x).cells.size>arr.size)=true):=by
    simp [hsz,harr]; omega
   rw [if_neg hcond]
   have hz:(a.eval x).cells.zipIdx.foldl (fun cs (c,k)=>cs.setIfInBounds (j*sz+k) c) arr=vO arr (j*sz) (a.eval x).cells.toList:=by
    rw [←Array.foldl_toList,Array.toList_zipIdx,qBo]
    simp
   rw [hz]
   exact h6
theorem qAs {A:Nat→Prop} (ht :∀t,bnd A (ρ t)) :∀(parts:List (Nat×Arg)) (ps:List (Nat×Operand)) (rows:List (List AV)),cC num ps parts=true→yM A rows→yM A (tC ρ rows parts)
 | [],_,rows,_,hb=>hb
 | (i,y)::parts,ps,rows,hc,hb=>by
  cases ps with
  | nil=>simp [cC] at hc
  | cons q ps =>
   obtain ⟨j,x⟩:=q
   simp only [cC,qZ8] at hc
   simp only [tC]
   refine qAs ht parts ps _ hc.2 ?_
   rw [yC] at hb⊢
   intro r hr
   rcases List.mem_or_eq_of_mem_set hr with h | h
   ·exact hb r h
   ·rw [h]; exact xO (uA ht hc.1.2)
theorem sZ {l:List (Nat×Arg)} :∀{rows:List (List AV)},(tC ρ rows l).length=rows.length:=by
 induction l with
 | nil=>intro rows; rfl
 | cons x l ih=>obtain ⟨i,y⟩:=x; intro rows; simp [tC,ih]
theorem zV {A:Nat→Prop} {z:List AV} (h:yX A z) (n:Nat):yM A (qZ2 n z):=by
 rw [yC]
 intro r hr
 rw [(List.mem_replicate.1 hr).2]
 exact h
theorem qOl {e:Env} {nm len:Nat} {q:qFj} (hq:e.φ nm=.at q) (h0:q.off=0) (hl:len≤q.cap):RV e (.ns nm 0 len) (.slice (some ⟨q.block,0,none⟩) len q.cap) []:=by
 simp only [RV,hq,true_and]
 exact ⟨by omega,_,rfl,fun _=>by simp [h0]⟩
theorem qSx {zero:List AV} {len:Nat} {parts:List (Nat×Arg)} (hc:wV P num (.mkSl zero len parts) o.op=true) (hp:wH ρ h nx (.mkSl zero len parts)=some (p,v,fp,nx')) (hpp:p):Tri P num o ρ v fp:=by
 simp only [wV] at hc
 split at hc
 ·rename_i t l ps hop
  simp only [qZ8,beq_iff_eq] at hc
  obtain ⟨rfl,hc⟩:=hc
  cases hel:bM P t with
  | none=>simp [hel] at hc
  | some el =>
   simp only [hel,qZ8,decide_eq_true_eq] at hc
   obtain ⟨⟨⟨h1,h2⟩,h3⟩,h4⟩:=hc
   obtain ⟨i,z,hi,hs,hz,hzv,hzo⟩:=uS h1
   simp only [wH,Option.some.injEq,Prod.mk.injEq] at hp
   obtain ⟨rfl,rfl,rfl,_⟩:=hp
   refine Tri.of_new (rd:=[]) (by simp) (by simp) ?_
   intro e L0 H Lf A a hn hk _ hbt _ ht
   subst hn
   have hzl:=yP (gM (e:=e) hzv)
   have hzs:z.cells.size=zero.length:=by simpa using hzl
   have hf0:jV e zero.length (qZ2 l zero) ((Array.range (l*zero.length)).map (z.cells[· % z.cells.size]!)).toList []:=by
    have:=dU (e:=e) (gM hzv) ⟨rfl,hzo⟩ l
    have e1:((Array.range (l*zero.length)).map (z.cells[· % z.cells.size]!)).toList=(qZ2 l z.cells.toList).flatten:=by
     apply qZl
     intro j
     by_cases hj:j<l*zero.length
     ·rw [Array.getElem?_toList]
      exact tW hzs.symm j hj
     ·rw [qZt (by simp; omega),qZt (by simp [hzs]; omega)]
    rw [e1]
    exact this
   obtain ⟨arr',g1,g2⟩:=qHg (n:=l) ht parts ps.toList _ _ h4 hpp (by simp) hf0
   have hl2:=jX g2
   rw [sZ] at hl2
   simp only [List.length_replicate,Array.length_toList] at hl2
   refine ⟨e.w,arr',el,l,arr'.toList,.slice (some ⟨e.w.heap.size,0,none⟩) l l,?_,⟨rfl,bX.refl _⟩,qAs hbt parts ps.toList _ h4 (zV (dX hzv) l),g2,?_,h2,?_,?_,?_⟩
   ·simp only [execOp,hop,Sem.run_bind,Instr.buildSlice,wF (dB hel),Result.andThen_ok,uF hi,hs]
    rw [if_neg (by omega)]
    have e2:(ps.map fun (i,x)=>(i,a.eval x)).toList=ps.toList.map fun x=>(x.1,a.eval x.2):=by simp
    by_cases hl0:l*zero.length=0
    ·rw [if_pos hl0,e2]
     have hl1:l=0:=by rcases Nat.mul_eq_zero.1 hl0 with h | h<;>omega
     simp only [hl0] at g1
     simp only [Sem.run_bind,Sem.run_pure,Result.andThen_ok,hl0]
     have e3:(Array.range 0).map (fun x=>(#[]:Array Value)[x%(#[]:Array Value).size]!)=(Array.range 0).map (z.cells[· % z.cells.size]!):=by simp
     rw [e3,g1]
     simp only [Sem.run_bind]
     rw [xG]
     rfl
    ·rw [if_neg hl0,e2]
     simp only [Sem.run_bind,dN hi hz,Result.andThen_ok,Sem.run_pure]
     rw [g1]
     simp only [Sem.run_bind]
     rw [xG]
     rfl
   ·intro j _; simp
   ·simp [sZ]
   ·omega
   ·intro e' hφ
    exact qOl hφ rfl (qZ7 _)
 ·simp at hc
theorem qMn {n:Int} (h0:0≤n) (h1:n≤2^47):IntKind.i64.wrap n=n:=by
 unfold IntKind.wrap
 simp only [IntKind.bits,IntKind.signed]
 have:n%(2^64:Int)=n:=Int.emod_eq_of_lt h0 (by omega)
 simp only [this]
 rw [if_neg]
 simp
 omega
theorem qVm {zero:List AV} {bytes:Nat} {l c:Arg} (hc:wV P num (.mkS zero bytes l c) o.op=true) (hp:wH ρ h nx (.mkS zero bytes l c)=some (p,v,fp,nx')) (hpp:p):Tri P num o ρ v fp:=by
 simp only [wV] at hc
 split at hc
 ·rename_i t l' c' hop
  simp only [qZ8] at hc
  obtain ⟨⟨h1,h2⟩,hc⟩:=hc
  cases hel:bM P t with
  | none=>simp [hel] at hc
  | some el =>
   simp only [hel,qZ8,decide_eq_true_eq] at hc
   obtain ⟨⟨h3,h4⟩,h5⟩:=hc
   obtain ⟨i,z,hi,hs,hz,hzv,hzo⟩:=uS h3
   obtain ⟨i',hi',hb⟩:=tN h5
   rw [hi] at hi'
   simp only [Option.some.injEq] at hi'
   subst hi'
   simp only [wH] at hp
   split at hp
   ·rename_i m n hx hy
    simp only [Option.some.injEq,Prod.mk.injEq] at hp
    obtain ⟨rfl,rfl,rfl,_⟩:=hp
    obtain ⟨rfl,p2,p3,p4⟩:=hpp
    refine Tri.of_new (rd:=[]) (by simp) (by simp) ?_
    intro e L0 H Lf A a hn hk _ hbt _ ht
    subst hn
    have hzl:=yP (gM (e:=e) hzv)
    have hzs:z.cells.size=zero.length:=by simpa using hzl
    have g1:=yD (ρ:=ρ) ht h1
    rw [hx] at g1
    have g2:=yD (ρ:=ρ) ht h2
    rw [hy] at g2
    have e1:=xJ g1
    have e2:=xJ g2
    refine ⟨e.w,(Array.range (m.toNat*zero.length)).map (z.cells[· % z.cells.size]!),el,m.toNat,(qZ2 m.toNat z.cells.toList).flatten,.slice (some ⟨e.w.heap.size,0,none⟩) m.toNat m.toNat,?_,⟨rfl,bX.refl _⟩,zV (dX hzv) _,
     dU (gM hzv) ⟨rfl,hzo⟩ _,?_,h4,by simp,by simp,?_⟩
    ·simp only [execOp,hop,Sem.run_bind,Instr.makeSlice,wF (dB hel),Result.andThen_ok,e1,e2,asInt,asIntOf,Sem.run_pure,dW hi,hb]
     have w1:=qMn p2 p4
     simp only [w1]
     have t0:(decide (m<0)||decide ((bytes:Int)*m>2^48))=false:=by
      simp
      omega
     have t1 :¬((((decide (m<0)||decide ((bytes:Int)*m>2^48))||decide (m<0))||decide (m>m))=true):=by
      rw [t0]; simp; omega
     rw [if_neg t1]
     simp only [Sem.run_bind,run_askRoom,Result.andThen_ok,uF hi,hs]
     by_cases hl0:m.toNat*zero.length=0
     ·rw [if_pos hl0]
      simp only [Sem.run_bind,Sem.run_pure,Result.andThen_ok,hl0]
      rw [xG]
      simp only [Result.andThen_ok]
      have e3:(Array.range 0).map (fun x=>(#[]:Array Value)[x%(#[]:Array Value).size]!)=(Array.range 0).map (z.cells[· % z.cells.size]!):=by simp
      rw [e3]
     ·rw [if_neg hl0]
      simp only [Sem.run_bind,dN hi hz,Result.andThen_ok,Sem.run_pure]
      rw [xG]
      rfl
    ·intro j hj
     refine tW hzs.symm j ?_
     have:=jX (dU (e:=e) (gM hzv) ⟨rfl,hzo⟩ m.toNat)
     rw [this] at hj
     simpa using hj
    ·intro e' hφ
     exact qOl hφ rfl (qZ7 _)
   ·simp at hp
 ·simp at hc
end
end Go.Sep
namespace Go.Sep
set_option linter.unusedVariables false
set_option linter.unusedSimpArgs false
def hZ (sz:Nat):Value→jY
 | .slice (some a) _ c=>if c=0 then .nilp else .at ⟨a.block,a.off,c,sz⟩
 | _=>.nilp
theorem eF :∀(l:List AV) (n:Nat),n≤(yR n l).2.2∧∀x∈(yR n l).2.1,n≤x.1∧x.1<(yR n l).2.2
 | [],n=>by simp [yR]
 | v::l,n=>by
  have h0:=eF l n
  have h1:=eF l (n+1)
  cases v
  case sl m sz rows =>
   cases m
   ·simp only [yR]
    refine ⟨by omega,fun x hx=>?_⟩
    rcases List.mem_cons.1 hx with rfl | hx
    ·exact ⟨qZ7 _,by show n<_; omega⟩
    ·have:=h1.2 x hx; omega
   all_goals simpa only [yR] using h0
  all_goals simpa only [yR] using h0
theorem mX :∀(l:List AV) (n:Nat),((yR n l).2.1.map (·.1)).Nodup
 | [],n=>by simp [yR]
 | v::l,n=>by
  have h0:=mX l n
  have h1:=mX l (n+1)
  cases v
  case sl m sz rows =>
   cases m
   ·simp only [yR,qZ5,qZu]
    refine ⟨?_,h1⟩
    intro hm
    obtain ⟨x,hx,hxn⟩:=List.mem_map.1 hm
    have:=(eF l (n+1)).2 x hx
    omega
   all_goals simpa only [yR] using h0
  all_goals simpa only [yR] using h0
theorem lB :∀(l:List AV) (n:Nat),(yR n l).1.length=l.length
 | [],n=>rfl
 | v::l,n=>by
  cases v
  case sl m sz rows=>cases m<;>simp [yR,lB l]
  all_goals simp [yR,lB l]
theorem qDy :∀(l:List AV) (n:Nat),l.all yK=true→(yR n l).1.all yK=true
 | [],n,_=>rfl
 | v::l,n,h=>by
  simp only [qZk,qZ8] at h
  cases v
  case sl m sz rows=>cases m<;>simp [yR,qDy l _ h.2]<;>rfl
  all_goals (simp only [yR,qZk,qDy l _ h.2,Bool.and_true]; exact h.1)
theorem pT :∀(l:List AV) (n:Nat),(yR n l).2.1=[]→(yR n l).1=l
 | [],n,_=>rfl
 | v::l,n,h=>by
  cases v
  case sl m sz rows =>
   cases m
   ·simp [yR] at h
   all_goals (simp only [yR] at h⊢; rw [pT l n h])
  all_goals (simp only [yR] at h⊢; rw [pT l n h])
theorem qAw {e:Env} {v:AV} {c:Value} {L:List Nat} (hv:yK v=true) (hs :∀sz rows,v≠.sl .own sz rows) (h:RV e v c L):L=[]:=by
 cases v
 case sl m sz rows =>
  cases m
  ·exact absurd rfl (hs sz rows)
  all_goals (simp only [RV] at h; exact h.1)
 case agg=>simp [yK] at hv
 case tup=>simp [yK] at hv
 all_goals simp only [RV] at h
 case any=>exact h
 case fn=>obtain ⟨_,_,_,h⟩:=h; exact h
 all_goals first | exact h.2 | exact h.1
theorem qKr {e:Env} {sz:Nat} {rows:List (List AV)} {c:Value} {L:List Nat} (h:RV e (.sl .own sz rows) c L):bY e (hZ sz c) (sz,rows) L∧
  (∀e':Env,∀n,e'.φ n=hZ sz c→RV e' (.ns n 0 rows.length) c []):=by
 simp only [RV] at h
 rcases h with ⟨rfl,rfl,a,rfl⟩ | ⟨p,Lr,⟨rfl,hc⟩,rfl,h2,h3,rfl⟩
 ·have hs:hZ sz (.slice a 0 0)=.nilp:=by cases a<;>simp [hZ]
  rw [hs]
  refine ⟨⟨rfl,rfl⟩,fun e' n hφ=>?_⟩
  simp only [RV,hφ,qYz,true_and]
  exact ⟨a,rfl⟩
 ·have hs:hZ p.sz (.slice (some ⟨p.block,p.off,none⟩) rows.length p.cap)=.at ⟨p.block,p.off,p.cap,p.sz⟩:=by
   simp only [hZ]
   rw [if_neg (by omega)]
  rw [hs]
  refine ⟨⟨rfl,h2,Lr,h3,rfl⟩,fun e' n hφ=>?_⟩
  simp only [RV,hφ,true_and]
  exact ⟨by simpa using h2.2.1,_,rfl,fun _=>by simp⟩
theorem bY.keep {e e':Env} {A:Nat→Prop} {s:jY} {row:Row} {L:List Nat} (k:dC e e' A L) (hb:yM A row.2) (h:bY e s row L):bY e' s row L:=by
 unfold bY at h⊢
 cases s with
 | dead=>exact h
 | nilp=>exact h
 | «at» p =>
  obtain ⟨h0,h1,Lr,h2,rfl⟩:=h
  exact ⟨h0,h1.keep (k.own _ (by simp)),Lr,uC row.2 (k.sub (by simp +contextual)) hb (fun _ o=>uT (k.own _ (by simp)) o) h2,rfl⟩
theorem kZ {e:Env} {A:Nat→Prop} :∀(l:List AV) (vs:List Value) (L:List Nat) (n:Nat),RVs e l vs L→l.all yK=true→yX A l→
  ∃S:List (Nat×jY×List Nat),S.map (·.1)=(yR n l).2.1.map (·.1)∧L=S.flatMap (·.2.2)∧
   ∀e',(∀x∈S,e'.φ x.1=x.2.1)→dC e e' A L→RVs e' (yR n l).1 vs []∧∀x∈S,∀row,(x.1,row)∈(yR n l).2.1→bY e' x.2.1 row x.2.2
 | [],vs,L,n,h,_,_=>by
  simp only [RVs] at h
  obtain ⟨rfl,rfl⟩:=h
  exact ⟨[],rfl,rfl,fun e' _ _=>⟨by simp [yR,RVs],by simp⟩⟩
 | v::l,vs,L,n,h,hok,hb=>by
  simp only [RVs] at h
  obtain ⟨c,vs',L1,L2,rfl,h1,h2,rfl⟩:=h
  simp only [qZk,qZ8] at hok
  by_cases hv :∃sz rows,v=.sl .own sz rows
  ·obtain ⟨sz,rows,rfl⟩:=hv
   obtain ⟨S,s1,s2,s3⟩:=kZ l vs' L2 (n+1) h2 hok.2 hb.2
   obtain ⟨o1,o2⟩:=qKr h1
   refine ⟨(n,hZ sz c,L1)::S,by simp [yR,s1],by simp [s2],fun e' he hk=>?_⟩
   obtain ⟨g1,g2⟩:=s3 e' (fun x hx=>he x (by simp [hx])) (hk.sub (by simp +contextual))
   refine ⟨?_,fun x hx row hr=>?_⟩
   ·simp only [yR,RVs]
    exact ⟨c,vs',[],[],rfl,o2 e' n (he (n,hZ sz c,L1) (by simp)),g1,rfl⟩
   ·simp only [yR] at hr
    rcases List.mem_cons.1 hx with rfl | hx
    ·rcases List.mem_cons.1 hr with hr | hr
     ·simp only [Prod.mk.injEq,true_and] at hr
      subst hr
      exact o1.keep (hk.sub (by simp +contextual)) hb.1
     ·have:=((eF l (n+1)).2 _ hr).1
      simp at this; omega
    ·rcases List.mem_cons.1 hr with hr | hr
     ·have hm:x.1∈S.map (·.1):=List.mem_map.2 ⟨x,hx,rfl⟩
      rw [s1] at hm
      obtain ⟨y,hy,hyx⟩:=List.mem_map.1 hm
      have:=((eF l (n+1)).2 y hy).1
      simp only [Prod.mk.injEq] at hr
      omega
     ·exact g2 x hx row hr
  ·have hf:=qAw hok.1 (fun sz rows he=>hv ⟨sz,rows,he⟩) h1
   subst hf
   have ho:yR n (v::l)=(v::(yR n l).1,(yR n l).2.1,(yR n l).2.2):=by
    cases v
    case sl m sz rows =>
     cases m
     ·exact absurd ⟨_,_,rfl⟩ hv
     all_goals rfl
    all_goals rfl
   rw [ho]
   obtain ⟨S,s1,s2,s3⟩:=kZ l vs' L2 n h2 hok.2 hb.2
   refine ⟨S,s1,by simpa using s2,fun e' he hk=>?_⟩
   obtain ⟨g1,g2⟩:=s3 e' he (hk.sub (by simp +contextual))
   refine ⟨?_,g2⟩
   simp only [RVs]
   exact ⟨c,vs',[],[],rfl,hB v (hk.sub (by simp)) hb.1 h1,g1,rfl⟩
theorem rE {e:Env} {r:List AV} {vs:List Value} {L:List Nat} (f n:Nat) (h:RVs e r vs L) (hf:f+n≤r.length) :
  ∃La Lm Lc,L=La++(Lm++Lc)∧RVs e (r.take f) (vs.take f) La∧RVs e ((r.drop f).take n) ((vs.drop f).take n) Lm∧RVs e (r.drop (f+n)) (vs.drop (f+n)) Lc:=by
 have h0:r=r.take f++((r.drop f).take n++r.drop (f+n)):=by
  rw [←qZv,qZe,qZe]
 rw [h0] at h
 obtain ⟨c1,c2,La,L2,h1,h2,h3,h4⟩:=(uB _ _).1 h
 obtain ⟨c3,c4,Lm,Lc,h5,h6,h7,h8⟩:=(uB _ _).1 h4
 have l1:=yP h3
 have l2:=yP h7
 rw [qZ1,qYx (by omega)] at l1
 rw [qZ1,qZw,qYx (by omega)] at l2
 subst h5
 subst h1
 refine ⟨La,Lm,Lc,by rw [h2,h6],?_,?_,?_⟩
 ·rw [qZf l1]; exact h3
 ·rw [qZg l1,qZf l2]; exact h7
 ·have:List.drop (f+n) (c1++(c3++c4))=c4:=by rw [←qZv,qZg l1,qZg l2]
  rw [this]; exact h8
mutual
theorem tP :∀(v:AV),bnd (fun _=>True) v
 | .fn _ cap=>cM cap
 | .fptr _ cells _=>cM cells
 | .sl _ _ rows=>oX rows
 | .agg cs=>cM cs
 | .tup cs=>cM cs
 | .ptr _ _ _ | .ns _ _ _ | .any | .int _ _ | .bool _ | .str _ | .nilp | .nil | .nilI | .ifc=>trivial
theorem cM :∀(l:List AV),yX (fun _=>True) l
 | []=>trivial
 | c::cs=>⟨tP c,cM cs⟩
theorem oX :∀(l:List (List AV)),yM (fun _=>True) l
 | []=>trivial
 | c::cs=>⟨cM c,oX cs⟩
end
theorem fR {α β:Type} {f:α→List β} {l:List α} {x:α} (h:(l.flatMap f).Nodup) (hx:x∈l):(f x).Nodup:=by
 induction l with
 | nil=>simp at hx
 | cons y l ih =>
  rw [qZx,qZy] at h
  rcases List.mem_cons.1 hx with rfl | hx
  ·exact h.1
  ·exact ih h.2.1 hx
theorem pH {α β:Type} {f:α→List β} {l:List α} {x y:α} {b:β} (h:(l.flatMap f).Nodup) (hx:x∈l) (hy:y∈l) (hne:x≠y) (h1:b∈f x) (h2:b∈f y):False:=by
 induction l with
 | nil=>simp at hx
 | cons z l ih =>
  rw [qZx,qZy] at h
  rcases List.mem_cons.1 hx with ex | hx'<;>rcases List.mem_cons.1 hy with ey | hy'
  ·exact hne (ex.trans ey.symm)
  ·exact h.2.2 b (ex▸h1) b (List.mem_flatMap.2 ⟨y,hy',h2⟩) rfl
  ·exact h.2.2 b (ey▸h2) b (List.mem_flatMap.2 ⟨x,hx',h1⟩) rfl
  ·exact ih h.2.1 hx' hy'
section
variable {P:Program} {num:Nat→Nat} {o:Oper} {ρ:Nat→AV} {h:wM} {nx nx':Nat} {p:Prop} {v:AV} {fp:FP}
theorem fA {α:Type} {l:List α} {i:Nat} {d:α} (h:i<l.length):l.getD i d=l[i]:=by
 simp [qZa,h]
theorem qF8 {e:Env} {q:qFj} {row:Row} {i f n:Nat} {Lr:List Nat} (hq:q.sz=row.1) (hr:yH e e.w q.block q.off q.sz row.2 Lr) (hi:i<row.2.length) (hf:f+n≤(row.2.getD i []).length) :
  ∃vs L1 L2 L3,((row.2.getD i []).length=q.sz∧(row.2.getD i []).all yK=true)∧vs.length=q.sz∧(∀j,j<q.sz→e.w.cell? ⟨q.block,q.off+i*q.sz+j,none⟩=vs[j]?)∧RVs e (row.2.getD i []) vs L2∧
   yH e e.w q.block q.off q.sz (row.2.take i) L1∧yH e e.w q.block (q.off+(i+1)*q.sz) q.sz (row.2.drop (i+1)) L3∧Lr=L1++(L2++L3)∧
   ((vs.drop f).take n).length=n∧(∀j,j<n→e.w.cell? ⟨q.block,q.off+i*q.sz+f+j,none⟩=((vs.drop f).take n)[j]?):=by
 obtain ⟨vs,L1,L2,L3,h1,h2,h3,h4,h5,h6,h7⟩:=eP i hi hr
 rw [fA hi] at hf⊢
 refine ⟨vs,L1,L2,L3,h1,h2,h3,h4,h5,h6,h7,by simp; omega,fun j hj=>?_⟩
 rw [show q.off+i*q.sz+f+j=q.off+i*q.sz+(f+j) by omega,h3 _ (by omega)]
 simp [hj]
theorem qD8 {n:Nat} {ag:Bool} {x:Arg} {m:Mode} {cells:List AV} {f:Nat} (hc:wV P num (.load n ag x) o.op=true) (hx:x.ev ρ=.fptr m cells f) (hf:f+n≤cells.length) :
  aI P num o ρ (if ag then .agg ((cells.drop f).take n) else ((cells.drop f).take n).getD 0 .any) []:=by
 simp only [wV] at hc
 split at hc
 ·rename_i t y hop
  simp only [qZ8,qZj,beq_iff_eq] at hc
  obtain ⟨⟨⟨h1,h2⟩,h3⟩,h4⟩:=hc
  obtain ⟨i,hi,hs⟩:=gU h2
  refine Tri.of_read (by simp) ?_
  intro e L0 H Lf a hn hk _ ht
  subst hn
  have g:=yD (ρ:=ρ) ht h1
  rw [hx] at g
  simp only [RV] at g
  obtain ⟨_,b,o',vs,g1,g2,g3,g4,g5⟩:=g
  have hl:((vs.drop f).take n).length=i.size:=by rw [hs]; simp; omega
  have hcell :∀w',mE e [] w'→∀j,j<i.size→w'.cell? ⟨b,o'+f+j,none⟩=((vs.drop f).take n)[j]?:=by
   intro w' hw' j hj
   rw [hw'.1 b (Env.frozen_or g2),hk.frozen_cell (Env.frozen_or g2),qZ9,g4 _ (by omega)]
   simp [show j<n by omega]
  have hrv:=qFe n (qFf f g5)
  refine ⟨if ag then .agg ((vs.drop f).take n).toArray else ((vs.drop f).take n).getD 0 undef,?_,?_⟩
  ·intro w' hw'
   simp only [execOp,hop,g1,Sem.run_bind,Instr.loadAt,Instr.sureAddr,Sem.run_pure,Result.andThen_ok]
   rw [mM h3 hi (fun ha=>by rcases h4 with h4 | h4<;>simp_all) hl (hcell w' hw')]
   rfl
  ·cases ag with
   | true=>simp only [if_true,RV]; exact ⟨_,rfl,hrv⟩
   | false =>
    simp at h4
    subst h4
    simp only [qZ4,if_false]
    obtain ⟨c,r1,r2⟩:=eO hrv 0 (by simp; omega)
    have e1:((vs.drop f).take 1).getD 0 undef=c:=by rw [qZa,r1]; rfl
    rw [e1,fA (by simp; omega)]
    exact r2
 ·simp at hc
theorem qBb {w:World} {a:Act} {n:Nat} {ag:Bool} {y:Operand} {t:TypeId} {i:TypeInfo} {b o':Nat} {vs:List Value} (hop:o.op=.load t y) (hi:P.info? t=some i) (hs:i.size=n) (h3:qCh P t=some ag) (h4:ag=true∨n=1)
  (hy:a.eval y=.pointer (some ⟨b,o',none⟩)) (hl:vs.length=n) (hcell :∀j,j<n→w.cell? ⟨b,o'+j,none⟩=vs[j]?) :
  (execOp a.eval o).run P w=.ok (.value (if ag then .agg vs.toArray else vs.getD 0 undef)) w:=by
 subst hs
 simp only [execOp,hop,hy,Sem.run_bind,Instr.loadAt,Instr.sureAddr,Sem.run_pure,Result.andThen_ok]
 rw [mM h3 hi (fun ha=>by rcases h4 with h4 | h4<;>simp_all) hl hcell]
 rfl
theorem qB3 {e:Env} {n:Nat} {ag:Bool} {cs:List AV} {vs:List Value} (h4:ag=true∨n=1) (hl:cs.length=n) (h:RVs e cs vs []) :
  RV e (if ag then .agg cs else cs.getD 0 .any) (if ag then .agg vs.toArray else vs.getD 0 undef) []:=by
 cases ag with
 | true=>simp only [if_true,RV]; exact ⟨_,rfl,h⟩
 | false =>
  simp at h4
  subst h4
  simp only [qZ4,if_false]
  obtain ⟨c,r1,r2⟩:=eO h 0 (by omega)
  have e1:vs.getD 0 undef=c:=by rw [qZa,r1]; rfl
  rw [e1,fA (by omega)]
  exact r2
theorem bN {H:Nat→Option Row} :∀{l:List (Nat×Row)} {n:Nat},(l.map (·.1)).Nodup→(∀row,(n,row)∈l→upH H (fresh l) n=some row)∧(n∉l.map (·.1)→upH H (fresh l) n=H n)
 | [],n,_=>⟨by simp,fun _=>rfl⟩
 | (m,r)::l,n,hnd=>by
  simp only [qZ5,qZu] at hnd
  have ih:=bN (H:=fun k=>if k=m then some r else H k) (l:=l) (n:=n) hnd.2
  refine ⟨fun row hr=>?_,fun hn=>?_⟩
  ·show upH _ (fresh l) n=_
   rcases List.mem_cons.1 hr with hr | hr
   ·simp only [Prod.mk.injEq] at hr
    obtain ⟨rfl,rfl⟩:=hr
    rw [ih.2 hnd.1,if_pos rfl]
   ·exact ih.1 row hr
  ·simp only [qZ5,qZ6,not_or] at hn
   show upH _ (fresh l) n=_
   rw [ih.2 hn.2,if_neg hn.1]
def iA (S:List (Nat×jY×List Nat)) (φ:Nat→jY) (n:Nat):jY:=match S.find? (·.1==n) with
 | some x=>x.2.1
 | none=>φ n
def nZ (S:List (Nat×jY×List Nat)) (Lf:Nat→List Nat) (n:Nat):List Nat:=match S.find? (·.1==n) with
 | some x=>x.2.2
 | none=>Lf n
theorem sY {S:List (Nat×jY×List Nat)} (hnd:(S.map (·.1)).Nodup) {x:Nat×jY×List Nat} (hx:x∈S):S.find? (·.1==x.1)=some x:=by
 induction S with
 | nil=>simp at hx
 | cons y S ih =>
  simp only [qZ5,qZu] at hnd
  rcases List.mem_cons.1 hx with rfl | hx
  ·simp
  ·have:y.1≠x.1:=fun he=>hnd.1 (List.mem_map.2 ⟨x,hx,he.symm⟩)
   simp [this,ih hnd.2 hx]
theorem qAr {S:List (Nat×jY×List Nat)} {n:Nat} (h:n∉S.map (·.1)):S.find? (·.1==n)=none:=by
 rw [List.find?_eq_none]
 intro x hx
 simp
 exact fun he=>h (List.mem_map.2 ⟨x,hx,he⟩)
theorem qD7 {n:Nat} {ag:Bool} {x:Arg} {nm i f:Nat} {row:Row} (hc:wV P num (.load n ag x) o.op=true) (hx:x.ev ρ=.ptr nm i f) (hi:i<row.2.length) (hf:f+n≤(row.2.getD i []).length) :
  aI P num o ρ (if ag then .agg (yR nx (((row.2.getD i []).drop f).take n)).1 else (yR nx (((row.2.getD i []).drop f).take n)).1.getD 0 .any)
   ((nm,some row,some (if (yR nx (((row.2.getD i []).drop f).take n)).2.1.isEmpty then row else (row.1,row.2.set i (bU (row.2.getD i []) f (yR nx (((row.2.getD i []).drop f).take n)).1))))::fresh (yR nx (((row.2.getD i []).drop f).take n)).2.1):=by
 simp only [wV] at hc
 split at hc
 ·rename_i t y hop
  simp only [qZ8,qZj,beq_iff_eq] at hc
  obtain ⟨⟨⟨h1,h2⟩,h3⟩,h4⟩:=hc
  obtain ⟨ti,hti,hs⟩:=gU h2
  generalize hol:yR nx (((row.2.getD i []).drop f).take n)=ol
  have hlen0:(((row.2.getD i []).drop f).take n).length=n:=by rw [qZ1,qZw]; omega
  have olen:ol.1.length=n:=by rw [←hol,lB,hlen0]
  by_cases hno:ol.2.1=[]
  ·rw [hno]
   have h5:ol.1=((row.2.getD i []).drop f).take n:=by rw [←hol]; exact pT _ _ (by rw [hol]; exact hno)
   simp only [List.isEmpty_nil,if_true]
   refine Tri.of_read (by simp [fresh]) ?_
   intro e L0 H Lf a hn hk hpre ht
   subst hn
   have hr:=hk.rh.row nm row (hpre (nm,some row,some row) (by simp [fresh]))
   have g:=yD (ρ:=ρ) ht h1
   rw [hx] at g
   obtain ⟨q,hq,g2⟩:=pP hr g
   have hr':=hr
   unfold uQ bY at hr'
   rw [hq] at hr'
   obtain ⟨q1,q2,Lr,q3,q4⟩:=hr'
   obtain ⟨vs,L1,L2,L3,r1,r2,r3,r4,r5,r6,r7,r8,r9⟩:=qF8 q1 q3 hi hf
   refine ⟨_,fun w' hw'=>qBb hop hti hs h3 h4 g2 r8 (fun j hj=>by rw [uT (hw'.2 (nm,some row,some row) (by simp [fresh]) q hq)]; exact r9 j hj),qB3 h4 olen ?_⟩
   obtain ⟨La,Lm,Lc,s1,s2,s3,s4⟩:=rE f n r4 hf
   have hall:(((row.2.getD i []).drop f).take n).all yK=true:=List.all_eq_true.2 fun c hc=>List.all_eq_true.1 r1.2 c (qZz (wA0 hc))
   obtain ⟨S,t1,t2,t3⟩:=kZ (A:=fun _=>True) _ _ _ nx s3 hall (jL.2 fun c _=>tP c)
   have hS:S=[]:=by
    have:(yR nx (((row.2.getD i []).drop f).take n)).2.1=[]:=by rw [hol]; exact hno
    rw [this] at t1
    simpa using t1
   subst hS
   rw [h5]
   simp only [List.flatMap_nil] at t2
   subst t2
   exact s3
  ·have hne:ol.2.1.isEmpty=false:=by cases h:ol.2.1 with | nil=>exact absurd h hno | cons=>rfl
   simp only [hne,qZ4,if_false]
   intro e L0 H Lf A a hn hk hpre hbt hbh hfr ht
   subst hn
   have hrow:H nm=some row:=hpre _ wA1
   have hr:=hk.rh.row nm row hrow
   have g:=yD (ρ:=ρ) ht h1
   rw [hx] at g
   obtain ⟨q,hq,g2⟩:=pP hr g
   have hr':=hr
   unfold uQ bY at hr'
   rw [hq] at hr'
   obtain ⟨q1,q2,Lr,q3,q4⟩:=hr'
   obtain ⟨vs,L1,L2,L3,r1,r2,r3,r4,r5,r6,r7,r8,r9⟩:=qF8 q1 q3 hi hf
   obtain ⟨La,Lm,Lc,s1,s2,s3,s4⟩:=rE f n r4 hf
   have hrb:=hbh nm row hrow
   have hrb1:yX A (row.2.getD i []):=by rw [fA hi]; exact yC.1 hrb _ (wA2 hi)
   have hall:(((row.2.getD i []).drop f).take n).all yK=true:=List.all_eq_true.2 fun c hc=>List.all_eq_true.1 r1.2 c (qZz (wA0 hc))
   obtain ⟨S,t1,t2,t3⟩:=kZ (A:=A) _ _ _ nx s3 hall (jL.2 fun c hc=>jL.1 hrb1 c (qZz (wA0 hc)))
   rw [hol] at t1 t3
   have nd:(ol.2.1.map (·.1)).Nodup:=by rw [←hol]; exact mX _ _
   have ndS:(S.map (·.1)).Nodup:=by rw [t1]; exact nd
   have hfresh :∀m,m∈ol.2.1.map (·.1)→H m=none∧¬A m:=by
    intro m hm
    obtain ⟨y',hy,rfl⟩:=List.mem_map.1 hm
    have hmem:(y'.1,none,some y'.2)∈fresh ol.2.1:=List.mem_map.2 ⟨y',hy,rfl⟩
    exact ⟨hpre _ (wA3 _ hmem),hfr _ (wA3 _ hmem) rfl⟩
   have hnmS:nm∉ol.2.1.map (·.1):=fun hm=>by have:=(hfresh nm hm).1; rw [hrow] at this; simp at this
   let e':Env:={e with φ:=iA S e.φ}
   have φS :∀z∈S,e'.φ z.1=z.2.1:=fun z hz=>by show iA S e.φ z.1=_; unfold iA; rw [sY ndS hz]
   have φn :∀m,m∉S.map (·.1)→e'.φ m=e.φ m:=fun m hm=>by show iA S e.φ m=_; unfold iA; rw [qAr hm]
   have kp :∀L,dC e e' A L:=fun L=>{
    num:=rfl
    fr:=fun m b h=>by cases m<;>exact h
    cells:=fun b _ o=>rfl
    φ:=fun m hA=>.inl (φn m (fun hm=>(hfresh m (by rw [←t1]; exact hm)).2 hA))
    own:=fun b _=>rfl}
   obtain ⟨u1,u2⟩:=t3 e' φS (kp _)
   let Lf':Nat→List Nat:=fun m=>if m=nm then q.block::(L1++((La++Lc)++L3)) else nZ S Lf m
   have LfS :∀z∈S,Lf' z.1=z.2.2:=fun z hz=>by
    have hz1:z.1≠nm:=fun he=>hnmS (by rw [←t1]; exact List.mem_map.2 ⟨z,hz,he⟩)
    show (if z.1=nm then _ else nZ S Lf z.1)=_
    rw [if_neg hz1]; unfold nZ; rw [sY ndS hz]
   have LfN:Lf' nm=q.block::(L1++((La++Lc)++L3)):=if_pos rfl
   have hLf:Lf nm=q.block::(L1++((La++(Lm++Lc))++L3)):=by rw [q4,r7,s1]
   have hnd:=hk.rh.nodup nm (by simp [hrow])
   rw [hLf] at hnd
   have hblk:=hk.rh.blk nm (by simp [hrow])
   rw [hLf] at hblk
   have subLm :∀z∈S,∀b∈z.2.2,b∈Lm:=fun z hz b hb=>by rw [t2]; exact List.mem_flatMap.2 ⟨z,hz,hb⟩
   have hH :∀m,upH H ((nm,some row,some (row.1,row.2.set i (bU (row.2.getD i []) f ol.1)))::fresh ol.2.1) m=if m=nm then some (row.1,row.2.set i (bU (row.2.getD i []) f ol.1)) else upH H (fresh ol.2.1) m:=by
    intro m
    show upH (fun k=>if k=nm then _ else H k) (fresh ol.2.1) m=_
    by_cases hm:m∈ol.2.1.map (·.1)
    ·obtain ⟨y',hy,rfl⟩:=List.mem_map.1 hm
     have hne':y'.1≠nm:=fun he=>hnmS (he▸hm)
     rw [(bN nd).1 y'.2 hy,if_neg hne',(bN nd).1 y'.2 hy]
    ·rw [(bN nd).2 hm,(bN nd).2 hm]
   have fK :∀m,m∈((nm,some row,some (row.1,row.2.set i (bU (row.2.getD i []) f ol.1)))::fresh ol.2.1:FP).map (·.1)↔m=nm∨m∈S.map (·.1):=by
    intro m
    rw [t1]
    simp [fresh]
   have hrv:RVs e' ol.1 ((vs.drop f).take n) []:=u1
   refine ⟨_,fun w' hw'=>qBb hop hti hs h3 h4 g2 r8 (fun j hj=>by rw [uT (hw'.2 _ wA1 q hq)]; exact r9 j hj),e',Lf',rfl,?_,qB3 h4 olen hrv⟩
   refine {num:=rfl,w0:=rfl,Fr:=rfl,Bo:=rfl,io:=bX.refl _,size:=qZ7 _,keep:=fun b _ _=>rfl,φ:=?_,φF:=?_,rest:=?_,row:=?_,nodup:=?_,blk:=?_,dis:=?_,dead:=?_}
   ·intro m hm
    exact φn m (fun h=>hm ((fK m).2 (.inr h)))
   ·intro m hm hH'
    refine .inl (φn m (fun h=>?_))
    exact hH' (hfresh m (by rw [←t1]; exact h)).1
   ·intro m hm
    have hm':m≠nm∧m∉S.map (·.1):=by
     refine ⟨fun h=>hm ((fK m).2 (.inl h)),fun h=>hm ((fK m).2 (.inr h))⟩
    rw [hH,if_neg hm'.1,(bN nd).2 (by rw [←t1]; exact hm'.2)]
   ·intro m row' hm hrow'
    rw [hH] at hrow'
    by_cases he:m=nm
    ·subst he
     rw [if_pos rfl] at hrow'
     simp only [Option.some.injEq] at hrow'
     subst hrow'
     have hφ:e'.φ m=.at q:=by rw [φn m (by rw [t1]; exact hnmS)]; exact hq
     rw [LfN]
     unfold uQ bY
     rw [hφ]
     refine ⟨q1,?_,_,?_,rfl⟩
     ·simp only [List.length_set]; exact q2
     ·have hrlen:(bU (row.2.getD i []) f ol.1).length=q.sz∧(bU (row.2.getD i []) f ol.1).all yK=true:=by
       refine ⟨?_,?_⟩
       ·rw [←r1.1]; exact iB _ _ _ (by rw [olen]; exact hf)
       ·have:=qDy (((row.2.getD i []).drop f).take n) nx hall
        rw [hol] at this
        unfold bU
        simp only [wA4,qZ8]
        exact ⟨⟨List.all_eq_true.2 fun c hc=>List.all_eq_true.1 r1.2 c (wA0 hc),this⟩,List.all_eq_true.2 fun c hc=>List.all_eq_true.1 r1.2 c (qZz hc)⟩
      have hb1:yM A (row.2.take i):=yC.2 fun r hr=>yC.1 hrb r (wA0 hr)
      have hb3:yM A (row.2.drop (i+1)):=yC.2 fun r hr=>yC.1 hrb r (qZz hr)
      refine rG (vs:=vs) i hi hrlen r2 r3 ?_ (uC _ (kp _) hb1 (fun _ _=>rfl) r5) (uC _ (kp _) hb3 (fun _ _=>rfl) r6)
      have hvs:vs=vs.take f++(vs.drop f).take n++vs.drop (f+n):=by
       rw [qZm,←qZv,qZe,qZe]
      rw [hvs]
      unfold bU
      rw [olen]
      refine (uB _ _).2 ⟨_,_,La,Lc,rfl,rfl,(uB _ _).2 ⟨_,_,La,[],rfl,by simp,?_,hrv⟩,?_⟩
      ·exact dT _ (kp _) (jL.2 fun c hc=>jL.1 hrb1 c (wA0 hc)) s2
      ·exact dT _ (kp _) (jL.2 fun c hc=>jL.1 hrb1 c (qZz hc)) s4
    ·rw [if_neg he] at hrow'
     have hmS:m∈S.map (·.1):=((fK m).1 hm).resolve_left he
     obtain ⟨z,hz,rfl⟩:=List.mem_map.1 hmS
     have hz':z.1∈ol.2.1.map (·.1):=by rw [←t1]; exact hmS
     obtain ⟨y',hy,hyz⟩:=List.mem_map.1 hz'
     have hy2:(z.1,y'.2)∈ol.2.1:=by rw [←hyz]; exact hy
     rw [(bN nd).1 y'.2 hy2] at hrow'
     simp only [Option.some.injEq] at hrow'
     subst hrow'
     rw [LfS z hz]
     unfold uQ
     rw [φS z hz]
     exact u2 z hz y'.2 hy2
   ·intro m hm _
    rcases (fK m).1 hm with rfl | hmS
    ·rw [LfN]
     exact hnd.sublist (List.Sublist.cons_cons _ ((List.Sublist.refl _).append (((List.Sublist.refl _).append (wA5 _ _)).append (List.Sublist.refl _))))
    ·obtain ⟨z,hz,rfl⟩:=List.mem_map.1 hmS
     rw [LfS z hz]
     have hLm:Lm.Nodup:=by
      refine hnd.sublist ?_
      exact (((wA6 Lm Lc).trans (wA5 La _)).trans (wA6 _ L3)).trans ((wA5 L1 _).trans (wA7 _ _))
     rw [t2] at hLm
     exact fR (f:=fun x:Nat×jY×List Nat=>x.2.2) hLm hz
   ·intro m hm _ b hb
    rcases (fK m).1 hm with rfl | hmS
    ·rw [LfN] at hb
     have hb':b∈Lf m:=by
      rw [hLf]
      simp only [qZ6,wA8] at hb⊢
      rcases hb with h | h | (h | h) | h
      ·exact .inl h
      ·exact .inr (.inl h)
      ·exact .inr (.inr (.inl (.inl h)))
      ·exact .inr (.inr (.inl (.inr (.inr h))))
      ·exact .inr (.inr (.inr h))
     exact ⟨(hk.rh.blk m (by simp [hrow]) b hb').1,.inr ⟨m,hm,by simp [hrow],hb'⟩⟩
    ·obtain ⟨z,hz,rfl⟩:=List.mem_map.1 hmS
     rw [LfS z hz] at hb
     have hb':b∈Lf nm:=by
      rw [hLf]
      have:=subLm z hz b hb
      simp [this]
     exact ⟨(hk.rh.blk nm (by simp [hrow]) b hb').1,.inr ⟨nm,(fK nm).2 (.inl rfl),by simp [hrow],hb'⟩⟩
   ·have key :∀z∈S,∀b∈z.2.2,b∉q.block::(L1++((La++Lc)++L3)):=by
     intro z hz b hb hb2
     have hm:=subLm z hz b hb
     rw [qZu] at hnd
     obtain ⟨n1,n2⟩:=hnd
     rw [qZy] at n2
     obtain ⟨_,n3,n4⟩:=n2
     rw [qZy] at n3
     obtain ⟨n5,_,n6⟩:=n3
     rw [qZy] at n5
     obtain ⟨_,n7,n8⟩:=n5
     rw [qZy] at n7
     obtain ⟨_,_,n9⟩:=n7
     rcases List.mem_cons.1 hb2 with h | h
     ·subst h; exact n1 (by simp [hm])
     ·rcases List.mem_append.1 h with h | h
      ·exact n4 b h b (by simp [hm]) rfl
      ·rcases List.mem_append.1 h with h | h
       ·rcases List.mem_append.1 h with h | h
        ·exact n8 b h b (by simp [hm]) rfl
        ·exact n9 b hm b h rfl
       ·exact n6 b (by simp [hm]) b h rfl
    intro m1 m2 hm1 hm2 _ _ hne' b hb1 hb2
    rcases (fK m1).1 hm1 with rfl | h1'<;>rcases (fK m2).1 hm2 with rfl | h2'
    ·exact hne' rfl
    ·obtain ⟨z,hz,rfl⟩:=List.mem_map.1 h2'
     rw [LfN] at hb1; rw [LfS z hz] at hb2
     exact key z hz b hb2 hb1
    ·obtain ⟨z,hz,rfl⟩:=List.mem_map.1 h1'
     rw [LfN] at hb2; rw [LfS z hz] at hb1
     exact key z hz b hb1 hb2
    ·obtain ⟨z,hz,rfl⟩:=List.mem_map.1 h1'
     obtain ⟨z2,hz2,rfl⟩:=List.mem_map.1 h2'
     rw [LfS z hz] at hb1; rw [LfS z2 hz2] at hb2
     have hLm:Lm.Nodup:=by
      refine hnd.sublist ?_
      exact (((wA6 Lm Lc).trans (wA5 La _)).trans (wA6 _ L3)).trans ((wA5 L1 _).trans (wA7 _ _))
     rw [t2] at hLm
     exact pH (f:=fun x:Nat×jY×List Nat=>x.2.2) hLm hz hz2 (fun he=>hne' (by rw [he])) hb1 hb2
   ·intro m hm hno'
    rw [hH] at hno'
    rcases (fK m).1 hm with rfl | hmS
    ·simp at hno'
    ·obtain ⟨z,hz,rfl⟩:=List.mem_map.1 hmS
     have hz':z.1∈ol.2.1.map (·.1):=by rw [←t1]; exact hmS
     obtain ⟨y',hy,hyz⟩:=List.mem_map.1 hz'
     have hy2:(z.1,y'.2)∈ol.2.1:=by rw [←hyz]; exact hy
     have hne':z.1≠nm:=fun he=>hnmS (he▸hz')
     rw [if_neg hne',(bN nd).1 y'.2 hy2] at hno'
     simp at hno'
 ·simp at hc
end
end Go.Sep
namespace Go.Sep
set_option linter.unusedVariables false
set_option linter.unusedSimpArgs false
section
variable {P:Program} {num:Nat→Nat} {o:Oper} {ρ:Nat→AV} {h:wM} {nx nx':Nat} {p:Prop} {v:AV} {fp:FP}
theorem qGo (w:World) (b:Nat) (o:Obj):bX w (World.setBlk w b o):=⟨rfl,rfl,rfl⟩
theorem dH.one {e:Env} {L0:List Nat} {H:Nat→Option Row} {Lf:Nat→List Nat} {nm:Nat} {row row':Row} {w':World} {L':List Nat} {b:Nat} (hk:Ok e L0 H Lf) (hrow:H nm=some row) (hb:b∈Lf nm)
  (hio:bX e.w w') (hs:w'.heap.size=e.w.heap.size) (hw :∀c,c≠b→w'.heap[c]?=e.w.heap[c]?) (hr:uQ {e with w:=w'} nm row' L') (hnd:L'.Nodup) (hsub :∀c∈L',c∈Lf nm) :
  dH e H Lf (fun n=>n∈([(nm,some row,some row')]:FP).map (·.1)) {e with w:=w'} (upH H [(nm,some row,some row')]) (fun n=>if n=nm then L' else Lf n):=by
 have hF :∀n,n∈([(nm,some row,some row')]:FP).map (·.1)↔n=nm:=by simp
 have hH :∀n,upH H [(nm,some row,some row')] n=if n=nm then some row' else H n:=fun n=>rfl
 refine {num:=rfl,w0:=rfl,Fr:=rfl,Bo:=rfl,io:=hio,size:=by simp [hs],keep:=?_,φ:=fun _ _=>rfl,φF:=fun _ _ _=>.inl rfl,rest:=?_,row:=?_,nodup:=?_,blk:=?_,dis:=?_,dead:=?_}
 ·intro c _ hc
  exact hw c (fun he=>hc nm ((hF nm).2 rfl) (by simp [hrow]) (he▸hb))
 ·intro n hn
  rw [hH,if_neg (fun he=>hn ((hF n).2 he))]
 ·intro n r hn hr'
  obtain rfl:=(hF n).1 hn
  rw [hH,if_pos rfl] at hr'
  simp only [Option.some.injEq] at hr'
  subst hr'
  simpa using hr
 ·intro n hn _
  obtain rfl:=(hF n).1 hn
  simpa using hnd
 ·intro n hn _ c hc
  obtain rfl:=(hF n).1 hn
  simp only [if_true] at hc
  exact ⟨by simp only [hs]; exact (hk.rh.blk n (by simp [hrow]) c (hsub c hc)).1,.inr ⟨n,hn,by simp [hrow],hsub c hc⟩⟩
 ·intro n m hn hm _ _ hne
  exact absurd (((hF n).1 hn).trans ((hF m).1 hm).symm) hne
 ·intro n hn hno
  obtain rfl:=(hF n).1 hn
  rw [hH,if_pos rfl] at hno
  simp at hno
theorem qQa {n:Nat} {x z:Arg} {nm i f:Nat} {row:Row} (hc:wV P num (.store n x z) o.op=true) (hx:x.ev ρ=.ptr nm i f) (hi:i<row.2.length) (hf:f+n≤(row.2.getD i []).length)
  (hz:(cellsOf (z.ev ρ)).length=n) (hzo:(cellsOf (z.ev ρ)).all yK=true) :
  Tri P num o ρ .any [(nm,some row,some (row.1,row.2.set i (bU (row.2.getD i []) f (cellsOf (z.ev ρ)))))]:=by
 simp only [wV] at hc
 split at hc
 ·rename_i t y u hop
  simp only [qZ8] at hc
  obtain ⟨⟨h1,h2⟩,h3⟩:=hc
  obtain ⟨ti,hti,hs⟩:=gU h3
  intro e L0 H Lf A a K Q hn hk hpre hbt hbh hfr ht k
  subst hn
  have hrow:H nm=some row:=hpre _ wA1
  have hr:=hk.rh.row nm row hrow
  have g:=yD (ρ:=ρ) ht h1
  rw [hx] at g
  have gz:=fY hzo (yD (ρ:=ρ) ht h2)
  have gzl:=yP gz
  obtain ⟨q,hq,g2⟩:=pP hr g
  have hr':=hr
  unfold uQ bY at hr'
  rw [hq] at hr'
  obtain ⟨q1,q2,Lr,q3,q4⟩:=hr'
  obtain ⟨vs,L1,L2,L3,r1,r2,r3,r4,r5,r6,r7,r8,r9⟩:=qF8 q1 q3 hi hf
  obtain ⟨La,Lm,Lc,s1,s2,s3,s4⟩:=rE f n r4 hf
  have hrb:=hbh nm row hrow
  have hrb1:yX A (row.2.getD i []):=by rw [fA hi]; exact yC.1 hrb _ (wA2 hi)
  obtain ⟨sz0,q5,arr,ty,q6,q7⟩:=q2
  have husz:(a.eval u).cells.size=n:=by simp at gzl; omega
  have husl:(a.eval u).cells.toList.length=n:=by simpa using husz
  have hroom:q.off+i*q.sz+f+n≤arr.size:=by
   have h5:(i+1)*q.sz≤q.cap*q.sz:=qZs _ (by omega)
   rw [qZ0] at h5
   have h6:=r1.1
   omega
  have hrun:(execOp a.eval o).run P e.w=.ok .skip (World.setBlk e.w q.block (.cells (vO arr (q.off+i*q.sz+f) (a.eval u).cells.toList) ty (0,0))):=by
   simp only [execOp,hop,g2,Sem.run_bind,Instr.storeAt,Instr.sureAddr,Sem.run_pure,Result.andThen_ok]
   rw [qIq hti (by rw [hs]; exact husz) q6 (qAv hzo gz) (by rw [hs]; exact hroom)]
   rfl
  have hbl:q.block<e.w.heap.size:=(Array.getElem?_eq_some_iff.1 q6).1
  have hLf:Lf nm=q.block::(L1++((La++(Lm++Lc))++L3)):=by rw [q4,r7,s1]
  have hnd:=hk.rh.nodup nm (by simp [hrow])
  rw [hLf] at hnd
  have hnb :∀b∈L1++((La++(Lm++Lc))++L3),b≠q.block:=fun b hb he=>(List.nodup_cons.1 hnd).1 (he▸hb)
  have kp :∀L:List Nat,(∀b∈L,b∈L1++((La++(Lm++Lc))++L3))→dC e {e with w:=World.setBlk e.w q.block (.cells (vO arr (q.off+i*q.sz+f) (a.eval u).cells.toList) ty (0,0))} A L:=fun L hL=>{
   num:=rfl
   fr:=fun m b h=>by cases m<;>exact h
   cells:=fun b _ o=>rfl
   φ:=fun nm hA=>.inl rfl
   own:=fun b hb=>zJ _ _ _ _ (fun he=>hnb b (hL b hb) he.symm)}
  have hblk:(World.setBlk e.w q.block (.cells (vO arr (q.off+i*q.sz+f) (a.eval u).cells.toList) ty (0,0))).heap[q.block]?=some (.cells (vO arr (q.off+i*q.sz+f) (a.eval u).cells.toList) ty (0,0)):=oF _ _ _ hbl
  have hcell :∀j,j<q.off+i*q.sz+f∨q.off+i*q.sz+f+n≤j→(World.setBlk e.w q.block (.cells (vO arr (q.off+i*q.sz+f) (a.eval u).cells.toList) ty (0,0))).cell? ⟨q.block,j,none⟩=e.w.cell? ⟨q.block,j,none⟩:=by
   intro j hj
   rw [zG hblk,zG q6,zP _ _ _ _ (by rw [husl]; exact hj)]
  refine qMo hrun (k _ _ undef (dH.one (b:=q.block) (L':=q.block::(L1++((La++Lc)++L3))) hk hrow (by rw [hLf]; simp) (qGo _ _ _) (fM _ _ _) (fun c hc=>zJ _ _ _ _ (fun he=>hc he.symm)) ?_ ?_ ?_) (by simp [RV]))
  ·unfold uQ bY
   simp only [hq]
   refine ⟨q1,⟨sz0,by simpa using q5,_,ty,hblk,by rw [oA]; exact q7⟩,_,?_,rfl⟩
   have hb1:yM A (row.2.take i):=yC.2 fun r hr=>yC.1 hrb r (wA0 hr)
   have hb3:yM A (row.2.drop (i+1)):=yC.2 fun r hr=>yC.1 hrb r (qZz hr)
   have htl:(row.2.take i).length=i:=by simp; omega
   have hdl:(row.2.drop (i+1)).length=row.2.length-(i+1):=by simp
   have m1:(i+1)*q.sz=i*q.sz+q.sz:=by rw [qZ0]; omega
   have r11:=r1.1
   have hrlen:(bU (row.2.getD i []) f (cellsOf (z.ev ρ))).length=q.sz∧(bU (row.2.getD i []) f (cellsOf (z.ev ρ))).all yK=true:=by
    refine ⟨by rw [←r1.1]; exact iB _ _ _ (by rw [hz]; exact hf),?_⟩
    unfold bU
    simp only [wA4,qZ8]
    exact ⟨⟨List.all_eq_true.2 fun c hc=>List.all_eq_true.1 r1.2 c (wA0 hc),hzo⟩,List.all_eq_true.2 fun c hc=>List.all_eq_true.1 r1.2 c (qZz hc)⟩
   refine rG (vs:=vs.take f++(a.eval u).cells.toList++vs.drop (f+n)) i hi hrlen (by simp; omega) ?_ ?_
    (hP _ (fun j h1 h2=>hcell j (.inl ?_)) (uC _ (kp _ (by simp +contextual)) hb1 (fun _ _=>rfl) r5))
    (hP _ (fun j h1 h2=>hcell j (.inr ?_)) (uC _ (kp _ (by simp +contextual)) hb3 (fun _ _=>rfl) r6))
   ·intro j hj
    by_cases j1:j<f
    ·rw [hcell _ (.inl (by omega)),r3 j hj,qZm,qZn (by simp; omega)]
     simp [j1]
    ·by_cases j2:j<f+n
     ·rw [zG hblk,show q.off+i*q.sz+j=q.off+i*q.sz+f+(j-f) by omega,oZ _ _ _ _ (by omega) (by rw [husl]; exact hroom)]
      have e1:(vs.take f).length=f:=by simp; omega
      rw [qZm,qYy (by omega),e1,qZn (by omega)]
     ·rw [hcell _ (.inr (by omega)),r3 j hj]
      have e1:(vs.take f++(a.eval u).cells.toList).length=f+n:=by rw [qZo,husl]; simp; omega
      rw [qYy (by omega),e1]
      simp
      congr 1
      omega
   ·unfold bU
    rw [hz]
    refine (uB _ _).2 ⟨_,_,La,Lc,rfl,rfl,(uB _ _).2 ⟨_,_,La,[],rfl,by simp,?_,?_⟩,?_⟩
    ·exact dT _ (kp _ (by simp +contextual)) (jL.2 fun c hc=>jL.1 hrb1 c (wA0 hc)) s2
    ·exact dT _ (kp _ (by simp)) (xO (uA hbt h2)) gz
    ·exact dT _ (kp _ (by simp +contextual)) (jL.2 fun c hc=>jL.1 hrb1 c (qZz hc)) s4
   ·rw [htl] at h2
    omega
   ·omega
  ·exact hnd.sublist (List.Sublist.cons_cons _ ((List.Sublist.refl _).append (((List.Sublist.refl _).append (wA5 _ _)).append (List.Sublist.refl _))))
  ·intro b hb
   rw [hLf]
   simp only [qZ6,wA8] at hb⊢
   rcases hb with h | h | (h | h) | h
   ·exact .inl h
   ·exact .inr (.inl h)
   ·exact .inr (.inr (.inl (.inl h)))
   ·exact .inr (.inr (.inl (.inr (.inr h))))
   ·exact .inr (.inr (.inr h))
 ·simp at hc
end
end Go.Sep

