/- The executor of symbolic states: the texts Core Heap Frame Exec Run Tri Chk, one after the other. No condition. -/
import Derived.Calls
import Derived.Orders
import Derived.Laws.Sem
import Derived.Laws.World
import Derived.KernelRfl
import Derived.Laws.Strings
import Derived.Laws.StructEq
open Bool renaming and_eq_true → qZu, false_eq_true → qZq, or_eq_true → wA5
open List renaming all_append → wAq, all_cons → wA6, append_assoc → wA8, cons_append → qZi, drop_drop → wAh, drop_left' → wA2, drop_of_length_le → wA4, ext_getElem? → wA7, flatMap_cons → wAj, flatten_cons → wAd, getD_eq_getElem?_getD → qZw, getElem?_append_left → wA9, getElem?_append_right → qZk, getElem?_eq_none → wAf, getElem_mem → wAo, length_append → wAa, length_cons → qZp, length_drop → wAi, length_nil → qZl, length_take → qZn, map_cons → qZr, mem_append → wAu, mem_cons → qZs, mem_cons_of_mem → wAp, mem_cons_self → wAn, mem_of_mem_drop → wAl, mem_of_mem_take → wAm, mem_singleton → wAb, nodup_append → wAk, nodup_cons → wAg, replicate → qZo, replicate_succ → wAc, sublist_append_left → wAs, sublist_append_right → wAr, sublist_cons_self → wAt, take_append_drop → wA0, take_left' → wA1, take_of_length_le → wA3
open Nat renaming add_assoc → qZv, add_mul → qZm, le_refl → qZt, min_eq_left → qZj, mul_le_mul_right → wAe
open Option renaming bind_some → qZz, map_none → qZy, map_some → qZx
namespace Go.Sep
set_option maxHeartbeats 16000000
set_option linter.unusedVariables false
set_option linter.unusedSimpArgs false
inductive Mode where
 | own | bw | fz
 deriving DecidableEq
inductive AV where
 | any
 | int (k:IntKind) (n:Int)
 | bool (b:Bool)
 | str (s:ByteArray)
 | fn (f:Nat) (cap:List AV)
 | nilp
 | ptr (nm i f:Nat)
 | fptr (m:Mode) (cells:List AV) (f:Nat)
 | nil
 | nilI
 | ifc
 | ns (nm off len:Nat)
 | sl (m:Mode) (sz:Nat) (rows:List (List AV))
 | agg (cells:List AV)
 | tup (vs:List AV)
abbrev Row:=Nat×List (List AV)
abbrev wT:=List (Nat×Row)
def yM:AV→Bool
 | .any | .agg _ | .tup _=>false
 | _=>true
structure qG0 where
 block:Nat
 off:Nat
 cap:Nat
 sz:Nat
inductive vA where
 | dead | nilp | at (p:qG0)
structure Env where
 num:Nat→Nat
 w:World
 w0:World
 φ:Nat→vA
 Fr:Nat→Prop
 Bo:Nat→Prop
def Env.frozen (e:Env):Mode→Nat→Prop
 | .own,_=>False
 | .bw,b=>e.Fr b∨e.Bo b
 | .fz,b=>e.Fr b
def fF (w:World) (p:qG0) (len:Nat):Prop :=
 0<p.sz∧len≤p.cap∧∃arr ty,w.heap[p.block]?=some (.cells arr ty (0,0))∧p.off+p.cap*p.sz≤arr.size
mutual
def RV (e:Env):AV→Value→List Nat→Prop
 | .any,_,L=>L=[]
 | .int k n,v,L=>v=.int k n∧L=[]
 | .bool b,v,L=>v=.bool b∧L=[]
 | .str s,v,L=>v=.string s∧L=[]
 | .fn f cap,v,L =>∃vs:List Value,v=.func (.func (e.num f)) #[] vs.toArray∧RVs e cap vs L∧L=[]
 | .nilp,v,L=>v=.pointer none∧L=[]
 | .ptr nm i f,v,L=>L=[]∧(match e.φ nm with
  | .dead =>∃a,v=.pointer a
  | .nilp=>False
  | .at p=>v=.pointer (some ⟨p.block,p.off+i*p.sz+f,none⟩))
 | .fptr m cells f,v,L=>L=[]∧∃b o vs,v=.pointer (some ⟨b,o+f,none⟩)∧e.frozen m b∧vs.length=cells.length∧
   (∀j,j<cells.length→e.w0.cell? ⟨b,o+j,none⟩=vs[j]?)∧RVs e cells vs []
 | .nil,v,L=>v=.slice none 0 0∧L=[]
 | .nilI,v,L=>v=.nilIface∧L=[]
 | .ifc,v,L=>(∃t u,v=.iface t u)∧L=[]
 | .ns nm off len,v,L=>L=[]∧(match e.φ nm with
  | .dead =>∃a l c,v=.slice a l c
  | .nilp=>off=0∧len=0∧∃a,v=.slice a 0 0
  | .at p=>off+len≤p.cap∧∃a,v=.slice (some a) len (p.cap-off)∧(off<p.cap→a=⟨p.block,p.off+off*p.sz,none⟩))
 | .sl .own sz rows,v,L=>(rows=[]∧L=[]∧∃a,v=.slice a 0 0)∨∃p Lr,(p.sz=sz∧0<p.cap)∧v=.slice (some ⟨p.block,p.off,none⟩) rows.length p.cap∧
   fF e.w p rows.length∧yK e e.w p.block p.off p.sz rows Lr∧L=p.block::Lr
 | .sl m sz rows,v,L=>L=[]∧((rows=[]∧∃a c,v=.slice a 0 c∧(a=none→c=0))∨∃b o c,v=.slice (some ⟨b,o,none⟩) rows.length c∧rows.length≤c∧
   e.frozen m b∧yK e e.w0 b o sz rows [])
 | .agg cs,v,L =>∃vs:List Value,v=.agg vs.toArray∧RVs e cs vs L
 | .tup cs,v,L =>∃vs:List Value,v=.tuple vs.toArray∧RVs e cs vs L
def RVs (e:Env):List AV→List Value→List Nat→Prop
 | [],vs,L=>vs=[]∧L=[]
 | c::cs,vs,L =>∃v vs' L1 L2,vs=v::vs'∧RV e c v L1∧RVs e cs vs' L2∧L=L1++L2
def yK (e:Env) (W:World) (b o sz:Nat):List (List AV)→List Nat→Prop
 | [],L=>L=[]
 | r::rs,L =>∃vs L1 L2,(r.length=sz∧r.all yM=true)∧vs.length=sz∧(∀j,j<sz→W.cell? ⟨b,o+j,none⟩=vs[j]?)∧RVs e r vs L1∧yK e W b (o+sz) sz rs L2∧L=L1++L2
end
mutual
def bnd (A:Nat→Prop):AV→Prop
 | .fn _ cap=>jF A cap
 | .ptr nm _ _=>A nm
 | .fptr _ cells _=>jF A cells
 | .ns nm _ _=>A nm
 | .sl _ _ rows=>yQ A rows
 | .agg cs=>jF A cs
 | .tup cs=>jF A cs
 | _=>True
def jF (A:Nat→Prop):List AV→Prop
 | []=>True
 | c::cs=>bnd A c∧jF A cs
def yQ (A:Nat→Prop):List (List AV)→Prop
 | []=>True
 | r::rs=>jF A r∧yQ A rs
end
theorem jO {A:Nat→Prop} {l:List AV}:jF A l↔∀x∈l,bnd A x:=by
 induction l with
 | nil=>simp [jF]
 | cons a l ih=>simp [jF,ih]
theorem yC {A:Nat→Prop} {l:List (List AV)}:yQ A l↔∀x∈l,jF A x:=by
 induction l with
 | nil=>simp [yQ]
 | cons a l ih=>simp [yQ,ih]
mutual
theorem kE {A B:Nat→Prop} (h :∀n,A n→B n) :∀(v:AV),bnd A v→bnd B v
 | .fn _ cap,hb=>zS h cap hb
 | .ptr nm _ _,hb=>h nm hb
 | .fptr _ cells _,hb=>zS h cells hb
 | .ns nm _ _,hb=>h nm hb
 | .sl _ _ rows,hb=>uR h rows hb
 | .agg cs,hb=>zS h cs hb
 | .tup cs,hb=>zS h cs hb
 | .any,_ | .int _ _,_ | .bool _,_ | .str _,_ | .nilp,_ | .nil,_ | .nilI,_ | .ifc,_=>trivial
theorem zS {A B:Nat→Prop} (h :∀n,A n→B n) :∀(l:List AV),jF A l→jF B l
 | [],_=>trivial
 | c::cs,hb=>⟨kE h c hb.1,zS h cs hb.2⟩
theorem uR {A B:Nat→Prop} (h :∀n,A n→B n) :∀(l:List (List AV)),yQ A l→yQ B l
 | [],_=>trivial
 | c::cs,hb=>⟨zS h c hb.1,uR h cs hb.2⟩
end
structure dD (e e':Env) (A:Nat→Prop) (L:List Nat):Prop where
 num:e'.num=e.num
 fr :∀m b,e.frozen m b→e'.frozen m b
 cells :∀b,e.Fr b∨e.Bo b→∀o,e'.w0.cell? ⟨b,o,none⟩=e.w0.cell? ⟨b,o,none⟩
 φ :∀nm,A nm→e'.φ nm=e.φ nm∨e'.φ nm=.dead
 own :∀b∈L,e'.w.heap[b]?=e.w.heap[b]?
theorem dD.sub {e e':Env} {A:Nat→Prop} {L L':List Nat} (k:dD e e' A L) (h :∀b∈L',b∈L):dD e e' A L' :=
 ⟨k.num,k.fr,k.cells,k.φ,fun b hb=>k.own b (h b hb)⟩
theorem Env.frozen_or {e:Env} {m:Mode} {b:Nat} (h:e.frozen m b):e.Fr b∨e.Bo b:=by
 cases m<;>simp [Env.frozen] at h
 ·exact h
 ·exact .inl h
theorem uV {w w':World} {b:Nat} (h:w'.heap[b]?=w.heap[b]?) (o:Nat):w'.cell? ⟨b,o,none⟩=w.cell? ⟨b,o,none⟩:=by
 simp only [World.cell?,h]
theorem fF.keep {w w':World} {p:qG0} {len:Nat} (h:w'.heap[p.block]?=w.heap[p.block]?) (ho:fF w p len):fF w' p len:=by
 obtain ⟨h1,h2,arr,ty,h3,h4⟩:=ho
 exact ⟨h1,h2,arr,ty,by rw [h,h3],h4⟩
mutual
theorem fV {e e':Env} {A:Nat→Prop} :∀(v:AV) {c:Value} {L:List Nat},dD e e' A L→bnd A v→RV e v c L→RV e' v c L
 | .any,_,_,_,_,h=>h
 | .int ..,_,_,_,_,h=>h
 | .bool ..,_,_,_,_,h=>h
 | .str ..,_,_,_,_,h=>h
 | .nilp,_,_,_,_,h=>h
 | .nil,_,_,_,_,h=>h
 | .nilI,_,_,_,_,h=>h
 | .ifc,_,_,_,_,h=>h
 | .fn f cap,_,_,k,hb,h=>by
  simp only [RV] at h⊢
  obtain ⟨vs,h1,h2,h3⟩:=h
  exact ⟨vs,by rw [k.num]; exact h1,dW cap k hb h2,h3⟩
 | .ptr nm i f,_,_,k,hb,h=>by
  simp only [RV] at h⊢
  refine ⟨h.1,?_⟩
  rcases k.φ nm hb with hp | hp
  ·rw [hp]; exact h.2
  ·rw [hp]
   obtain ⟨_,h⟩:=h
   cases hq:e.φ nm<;>rw [hq] at h
   ·exact h
   ·exact h.elim
   ·exact ⟨_,h⟩
 | .fptr m cells f,_,_,k,hb,h=>by
  simp only [RV] at h⊢
  obtain ⟨h0,b,o,vs,h1,h2,h3,h4,h5⟩:=h
  subst h0
  exact ⟨rfl,b,o,vs,h1,k.fr m b h2,h3,fun j hj=>by rw [k.cells b (Env.frozen_or h2)]; exact h4 j hj,dW cells k hb h5⟩
 | .ns nm off len,_,_,k,hb,h=>by
  simp only [RV] at h⊢
  refine ⟨h.1,?_⟩
  rcases k.φ nm hb with hp | hp
  ·rw [hp]; exact h.2
  ·rw [hp]
   obtain ⟨_,h⟩:=h
   cases hq:e.φ nm<;>rw [hq] at h
   ·exact h
   ·obtain ⟨_,_,a,h⟩:=h
    exact ⟨_,_,_,h⟩
   ·obtain ⟨_,a,h,_⟩:=h
    exact ⟨_,_,_,h⟩
 | .sl .own sz rows,_,_,k,hb,h=>by
  simp only [RV] at h⊢
  rcases h with h | ⟨p,Lr,h0,h1,h2,h3,h4⟩
  ·exact .inl h
  ·subst h4
   refine .inr ⟨p,Lr,h0,h1,h2.keep (k.own _ (by simp)),?_,rfl⟩
   exact uD rows (k.sub (by simp +contextual)) hb (fun hne o'=>uV (k.own _ (by simp)) o') h3
 | .sl .bw sz rows,_,_,k,hb,h=>by
  simp only [RV] at h⊢
  obtain ⟨h0,h⟩:=h
  subst h0
  refine ⟨rfl,?_⟩
  rcases h with h | ⟨b,o,c,h1,h2,h3,h4⟩
  ·exact .inl h
  ·exact .inr ⟨b,o,c,h1,h2,k.fr _ b h3,uD rows k hb (fun _ o'=>k.cells b (Env.frozen_or h3) o') h4⟩
 | .sl .fz sz rows,_,_,k,hb,h=>by
  simp only [RV] at h⊢
  obtain ⟨h0,h⟩:=h
  subst h0
  refine ⟨rfl,?_⟩
  rcases h with h | ⟨b,o,c,h1,h2,h3,h4⟩
  ·exact .inl h
  ·exact .inr ⟨b,o,c,h1,h2,k.fr _ b h3,uD rows k hb (fun _ o'=>k.cells b (Env.frozen_or h3) o') h4⟩
 | .agg cs,_,_,k,hb,h=>by
  simp only [RV] at h⊢
  obtain ⟨vs,h1,h2⟩:=h
  exact ⟨vs,h1,dW cs k hb h2⟩
 | .tup cs,_,_,k,hb,h=>by
  simp only [RV] at h⊢
  obtain ⟨vs,h1,h2⟩:=h
  exact ⟨vs,h1,dW cs k hb h2⟩
theorem dW {e e':Env} {A:Nat→Prop} :∀(l:List AV) {cs:List Value} {L:List Nat},dD e e' A L→jF A l→RVs e l cs L→RVs e' l cs L
 | [],_,_,_,_,h=>by simpa only [RVs] using h
 | c::cs,_,_,k,hb,h=>by
  simp only [RVs] at h⊢
  obtain ⟨v,vs',L1,L2,h1,h2,h3,h4⟩:=h
  subst h4
  exact ⟨v,vs',L1,L2,h1,fV c (k.sub (by simp +contextual)) hb.1 h2,dW cs (k.sub (by simp +contextual)) hb.2 h3,rfl⟩
theorem uD {e e':Env} {A:Nat→Prop} :∀(rs:List (List AV)) {W W':World} {b o sz:Nat} {L:List Nat},dD e e' A L→yQ A rs→
  (rs≠[]→∀o',W'.cell? ⟨b,o',none⟩=W.cell? ⟨b,o',none⟩)→yK e W b o sz rs L→yK e' W' b o sz rs L
 | [],_,_,_,_,_,_,_,_,_,h=>by simpa only [yK] using h
 | r::rs,W,W',b,o,sz,L,k,hb,hW,h=>by
  simp only [yK] at h⊢
  obtain ⟨vs,L1,L2,h1,h2,h3,h4,h5,h6⟩:=h
  subst h6
  exact ⟨vs,L1,L2,h1,h2,fun j hj=>by rw [hW (by simp)]; exact h3 j hj,dW r (k.sub (by simp +contextual)) hb.1 h4,
   uD rs (k.sub (by simp +contextual)) hb.2 (fun _=>hW (by simp)) h5,rfl⟩
end
end Go.Sep
namespace Go.Sep
set_option linter.unusedVariables false
set_option linter.unusedSimpArgs false
theorem uC {e:Env} :∀(xs ys:List AV) {cs:List Value} {L:List Nat},
  RVs e (xs++ys) cs L↔∃c1 c2 L1 L2,cs=c1++c2∧L=L1++L2∧RVs e xs c1 L1∧RVs e ys c2 L2
 | [],ys,cs,L=>by
  simp only [List.nil_append,RVs]
  constructor
  ·intro h; exact ⟨[],cs,[],L,rfl,rfl,⟨rfl,rfl⟩,h⟩
  ·rintro ⟨c1,c2,L1,L2,rfl,rfl,⟨rfl,rfl⟩,h⟩; exact h
 | x::xs,ys,cs,L=>by
  simp only [qZi,RVs]
  constructor
  ·rintro ⟨v,vs',L1,L2,rfl,h2,h3,rfl⟩
   obtain ⟨c1,c2,L3,L4,rfl,rfl,h4,h5⟩:=(uC xs ys).1 h3
   exact ⟨v::c1,c2,L1++L3,L4,by simp,by simp,⟨v,c1,L1,L3,rfl,h2,h4,rfl⟩,h5⟩
  ·rintro ⟨c1,c2,L1,L2,rfl,rfl,⟨v,vs',L3,L4,rfl,h2,h3,rfl⟩,h5⟩
   exact ⟨v,vs'++c2,L3,L4++L2,by simp,h2,(uC xs ys).2 ⟨vs',c2,L4,L2,rfl,rfl,h3,h5⟩,by simp⟩
theorem yP {e:Env} :∀{xs:List AV} {cs:List Value} {L:List Nat},RVs e xs cs L→cs.length=xs.length
 | [],_,_,h=>by simp only [RVs] at h; simp [h.1]
 | x::xs,_,_,h=>by
  simp only [RVs] at h
  obtain ⟨v,vs',L1,L2,rfl,h2,h3,rfl⟩:=h
  simp [yP h3]
theorem qXj {e:Env} {xs:List AV} {cs:List Value} {L:List Nat} (h:RVs e xs cs L) (j:Nat) (hj:j<xs.length) :
  ∃v L1 L2 L3,cs[j]?=some v∧RV e xs[j] v L2∧L=L1++(L2++L3):=by
 have hs:xs=xs.take j++(xs[j]::xs.drop (j+1)):=by simp
 rw [hs] at h
 obtain ⟨c1,c2,L1,L2,rfl,rfl,h4,h5⟩:=(uC _ _).1 h
 simp only [RVs] at h5
 obtain ⟨v,vs',L3,L4,rfl,h6,h7,rfl⟩:=h5
 have hl:=yP h4
 simp [qZj (Nat.le_of_lt hj)] at hl
 refine ⟨v,L1,L3,L4,?_,h6,rfl⟩
 rw [qZk (by omega),hl]
 simp
theorem eP {e:Env} {xs:List AV} {cs:List Value} (h:RVs e xs cs []) (j:Nat) (hj:j<xs.length) :
  ∃v,cs[j]?=some v∧RV e xs[j] v []:=by
 obtain ⟨v,L1,L2,L3,h1,h2,h3⟩:=qXj h j hj
 have:L2=[]:=by
  have:=h3.symm
  simp at this
  exact this.2.1
 subst this
 exact ⟨v,h1,h2⟩
theorem jG {e:Env} {W:World} {b sz:Nat} :∀(xs ys:List (List AV)) {o:Nat} {L:List Nat},
  yK e W b o sz (xs++ys) L↔∃L1 L2,yK e W b o sz xs L1∧yK e W b (o+xs.length*sz) sz ys L2∧L=L1++L2
 | [],ys,o,L=>by
  simp only [List.nil_append,yK,qZl,Nat.zero_mul,Nat.add_zero]
  constructor
  ·intro h; exact ⟨[],L,rfl,h,rfl⟩
  ·rintro ⟨L1,L2,rfl,h,rfl⟩; exact h
 | x::xs,ys,o,L=>by
  simp only [qZi,yK]
  have ho:o+sz+xs.length*sz=o+(x::xs).length*sz:=by simp [Nat.add_mul]; omega
  constructor
  ·rintro ⟨vs,L1,L2,h1,h2,h3,h4,h5,rfl⟩
   obtain ⟨L3,L4,h6,h7,rfl⟩:=(jG xs ys).1 h5
   rw [ho] at h7
   exact ⟨L1++L3,L4,⟨vs,L1,L3,h1,h2,h3,h4,h6,rfl⟩,h7,by simp⟩
  ·rintro ⟨L1,L2,⟨vs,L3,L4,h1,h2,h3,h4,h6,rfl⟩,h7,rfl⟩
   rw [←ho] at h7
   exact ⟨vs,L3,L4++L2,h1,h2,h3,h4,(jG xs ys).2 ⟨L4,L2,h6,h7,rfl⟩,by simp⟩
theorem eQ {e:Env} {W:World} {b o sz:Nat} {xs:List (List AV)} {L:List Nat} (i:Nat) (hi:i<xs.length) (h:yK e W b o sz xs L) :
  ∃vs L1 L2 L3,(xs[i].length=sz∧xs[i].all yM=true)∧vs.length=sz∧(∀j,j<sz→W.cell? ⟨b,o+i*sz+j,none⟩=vs[j]?)∧RVs e xs[i] vs L2∧
   yK e W b o sz (xs.take i) L1∧yK e W b (o+(i+1)*sz) sz (xs.drop (i+1)) L3∧L=L1++(L2++L3):=by
 have hs:xs=xs.take i++(xs[i]::xs.drop (i+1)):=by simp
 rw [hs] at h
 obtain ⟨L1,L2,h1,h2,rfl⟩:=(jG _ _).1 h
 simp only [yK,qZn,qZj (Nat.le_of_lt hi)] at h2
 obtain ⟨vs,L3,L4,h3,h4,h5,h6,h7,rfl⟩:=h2
 refine ⟨vs,L1,L3,L4,h3,h4,h5,h6,h1,?_,rfl⟩
 rw [show o+(i+1)*sz=o+i*sz+sz by rw [qZm]; omega]
 exact h7
theorem rM {e:Env} {W:World} {b o sz:Nat} {xs:List (List AV)} {r:List AV} {vs:List Value} {L1 L2 L3:List Nat} (i:Nat) (hi:i<xs.length)
  (h1:r.length=sz∧r.all yM=true) (h2:vs.length=sz) (h3 :∀j,j<sz→W.cell? ⟨b,o+i*sz+j,none⟩=vs[j]?) (h4:RVs e r vs L2)
  (h5:yK e W b o sz (xs.take i) L1) (h6:yK e W b (o+(i+1)*sz) sz (xs.drop (i+1)) L3):yK e W b o sz (xs.set i r) (L1++(L2++L3)):=by
 have hs:xs.set i r=xs.take i++(r::xs.drop (i+1)):=by rw [List.set_eq_take_append_cons_drop,if_pos hi]
 rw [hs]
 refine (jG _ _).2 ⟨L1,L2++L3,h5,?_,rfl⟩
 simp only [yK,qZn,qZj (Nat.le_of_lt hi)]
 refine ⟨vs,L2,L3,h1,h2,h3,h4,?_,rfl⟩
 rw [show o+(i+1)*sz=o+i*sz+sz by rw [qZm]; omega] at h6
 exact h6
theorem fX {e:Env} {W W':World} {b sz:Nat} :∀(xs:List (List AV)) {o:Nat} {L:List Nat},(∀j,o≤j→j<o+xs.length*sz→W'.cell? ⟨b,j,none⟩=W.cell? ⟨b,j,none⟩)→
  yK e W b o sz xs L→yK e W' b o sz xs L
 | [],_,_,_,h=>by simpa only [yK] using h
 | x::xs,o,L,hc,h=>by
  simp only [yK] at h⊢
  obtain ⟨vs,L1,L2,h1,h2,h3,h4,h5,h6⟩:=h
  have hm:(x::xs).length*sz=sz+xs.length*sz:=by simp [Nat.add_mul]; omega
  rw [hm] at hc
  exact ⟨vs,L1,L2,h1,h2,fun j hj=>by rw [hc _ (by omega) (by omega)]; exact h3 j hj,h4,fX xs (fun j a c=>hc j (by omega) (by omega)) h5,h6⟩
def gF (e:Env) (s:vA) (row:Row) (L:List Nat):Prop :=
 match s with
 | .dead=>False
 | .nilp=>row.2=[]∧L=[]
 | .at p=>p.sz=row.1∧fF e.w p row.2.length∧∃Lr,yK e e.w p.block p.off p.sz row.2 Lr∧L=p.block::Lr
def qN:wT→Nat→Option Row
 | [],_=>none
 | (m,r)::h,n=>if n=m then some r else qN h n
def uT (e:Env) (nm:Nat) (row:Row) (L:List Nat):Prop:=gF e (e.φ nm) row L
theorem uT.keep {e e':Env} {A:Nat→Prop} {nm:Nat} {row:Row} {L:List Nat} (k:dD e e' A L) (hφ:e'.φ nm=e.φ nm) (hb:yQ A row.2) (h:uT e nm row L):uT e' nm row L:=by
 unfold uT gF at h⊢
 rw [hφ]
 cases hp:e.φ nm with
 | dead=>rw [hp] at h; exact h
 | nilp=>rw [hp] at h; exact h
 | «at» p =>
  rw [hp] at h
  obtain ⟨h0,h1,Lr,h2,rfl⟩:=h
  exact ⟨h0,h1.keep (k.own _ (by simp)),Lr,uD row.2 (k.sub (by simp +contextual)) hb (fun _ o=>uV (k.own _ (by simp)) o) h2,rfl⟩
structure RH (e:Env) (H:Nat→Option Row) (Lf:Nat→List Nat):Prop where
 row :∀nm row,H nm=some row→uT e nm row (Lf nm)
 nodup :∀nm,H nm≠none→(Lf nm).Nodup
 blk :∀nm,H nm≠none→∀b∈Lf nm,b<e.w.heap.size∧¬e.Fr b∧¬e.Bo b
 dis :∀n m,H n≠none→H m≠none→n≠m→∀b∈Lf n,b∉Lf m
 dead :∀nm,H nm=none→e.φ nm=.dead
end Go.Sep
namespace Go.Sep
set_option linter.unusedVariables false
set_option linter.unusedSimpArgs false
def gE (w w':World):Prop:=w'.os=w.os∧w'.tape=w.tape∧w'.output=w.output
theorem gE.refl (w:World):gE w w:=⟨rfl,rfl,rfl⟩
theorem gE.trans {w w' w'':World} (h:gE w w') (h':gE w' w''):gE w w'':=⟨h'.1.trans h.1,h'.2.1.trans h.2.1,h'.2.2.trans h.2.2⟩
structure dI (e:Env) (H:Nat→Option Row) (Lf:Nat→List Nat) (F:Nat→Prop) (e':Env) (H':Nat→Option Row) (Lf':Nat→List Nat):Prop where
 num:e'.num=e.num
 w0:e'.w0=e.w0
 Fr:e'.Fr=e.Fr
 Bo:e'.Bo=e.Bo
 io:gE e.w e'.w
 size:e.w.heap.size≤e'.w.heap.size
 keep :∀b,b<e.w.heap.size→(∀nm,F nm→H nm≠none→b∉Lf nm)→e'.w.heap[b]?=e.w.heap[b]?
 φ :∀nm,¬F nm→e'.φ nm=e.φ nm
 φF :∀nm,F nm→H nm≠none→e'.φ nm=e.φ nm∨e'.φ nm=.dead
 rest :∀nm,¬F nm→H' nm=H nm
 row :∀nm row,F nm→H' nm=some row→uT e' nm row (Lf' nm)
 nodup :∀nm,F nm→H' nm≠none→(Lf' nm).Nodup
 blk :∀nm,F nm→H' nm≠none→∀b∈Lf' nm,b<e'.w.heap.size∧(e.w.heap.size≤b∨∃m,F m∧H m≠none∧b∈Lf m)
 dis :∀n m,F n→F m→H' n≠none→H' m≠none→n≠m→∀b∈Lf' n,b∉Lf' m
 dead :∀nm,F nm→H' nm=none→e'.φ nm=.dead
open Classical in
noncomputable def mix (F:Nat→Prop) (Lf Lf':Nat→List Nat) (nm:Nat):List Nat:=if F nm then Lf' nm else Lf nm
theorem fO {F:Nat→Prop} {Lf Lf':Nat→List Nat} {nm:Nat} (h:F nm):mix F Lf Lf' nm=Lf' nm:=by simp [mix,h]
theorem cA {F:Nat→Prop} {Lf Lf':Nat→List Nat} {nm:Nat} (h :¬F nm):mix F Lf Lf' nm=Lf nm:=by simp [mix,h]
structure Ok (e:Env) (L0:List Nat) (H:Nat→Option Row) (Lf:Nat→List Nat):Prop where
 size0:e.w0.heap.size≤e.w.heap.size
 io0:gE e.w0 e.w
 fr :∀b,e.Fr b∨e.Bo b→b<e.w0.heap.size∧b∉L0
 keep0 :∀b,b<e.w0.heap.size→b∉L0→e.w.heap[b]?=e.w0.heap[b]?
 own0 :∀nm,H nm≠none→∀b∈Lf nm,b∈L0∨e.w0.heap.size≤b
 rh:RH e H Lf
theorem Ok.frozen_cell {e:Env} {L0:List Nat} {H:Nat→Option Row} {Lf:Nat→List Nat} (h:Ok e L0 H Lf) {b:Nat} (hb:e.Fr b∨e.Bo b) (o:Nat) :
  e.w.cell? ⟨b,o,none⟩=e.w0.cell? ⟨b,o,none⟩ :=
 uV (h.keep0 b (h.fr b hb).1 (h.fr b hb).2) o
theorem dI.keeps {e e':Env} {H H':Nat→Option Row} {Lf Lf':Nat→List Nat} {F A:Nat→Prop} {L:List Nat} (t:dI e H Lf F e' H' Lf')
  (hφ :∀nm,A nm→F nm→H nm=none→e'.φ nm=.dead) (hd :∀nm,H nm=none→e.φ nm=.dead)
  (hL :∀b∈L,b<e.w.heap.size∧∀nm,F nm→H nm≠none→b∉Lf nm):dD e e' A L where
 num:=t.num
 fr m b h:=by cases m<;>simp_all [Env.frozen,t.Fr,t.Bo]
 cells b h o:=by rw [t.w0]
 φ nm hn:=by
  by_cases hF:F nm
  ·by_cases hH:H nm=none
   ·exact .inr (hφ nm hn hF hH)
   ·exact t.φF nm hF hH
  ·exact .inl (t.φ nm hF)
 own b hb:=t.keep b (hL b hb).1 (hL b hb).2
theorem dI.ok {e e':Env} {L0:List Nat} {H H':Nat→Option Row} {Lf Lf':Nat→List Nat} {F A:Nat→Prop} (t:dI e H Lf F e' H' Lf') (h:Ok e L0 H Lf)
  (hb :∀nm row,H nm=some row→yQ A row.2) (hφ :∀nm,A nm→F nm→H nm=none→e'.φ nm=.dead):Ok e' L0 H' (mix F Lf Lf') where
 size0:=by rw [t.w0]; exact Nat.le_trans h.size0 t.size
 io0:=by rw [t.w0]; exact h.io0.trans t.io
 fr b hb:=by rw [t.w0]; rw [t.Fr,t.Bo] at hb; exact h.fr b hb
 keep0 b h1 h2:=by
  rw [t.w0] at h1⊢
  rw [t.keep b (Nat.lt_of_lt_of_le h1 h.size0) (fun nm _ hn hm=>?_)]
  ·exact h.keep0 b h1 h2
  ·rcases h.own0 nm hn b hm with h3 | h3
   ·exact h2 h3
   ·omega
 own0 nm hn b hb':=by
  rw [t.w0]
  by_cases hF:F nm
  ·rw [fO hF] at hb'
   obtain ⟨_,h3 | ⟨m,h4,h5,h6⟩⟩:=t.blk nm hF hn b hb'
   ·exact .inr (Nat.le_trans h.size0 h3)
   ·exact h.own0 m h5 b h6
  ·rw [cA hF] at hb'
   rw [t.rest nm hF] at hn
   exact h.own0 nm hn b hb'
 rh:={
  row:=fun nm row hr=>by
   by_cases hF:F nm
   ·rw [fO hF]; exact t.row nm row hF hr
   ·rw [cA hF]
    rw [t.rest nm hF] at hr
    refine (h.rh.row nm row hr).keep (t.keeps hφ h.rh.dead ?_) (t.φ nm hF) (hb nm row hr)
    intro b hb'
    refine ⟨(h.rh.blk nm (by simp [hr]) b hb').1,fun m hm hn=>?_⟩
    exact h.rh.dis nm m (by simp [hr]) hn (fun he=>hF (he▸hm)) b hb'
  nodup:=fun nm hn=>by
   by_cases hF:F nm
   ·rw [fO hF]; exact t.nodup nm hF hn
   ·rw [cA hF]; rw [t.rest nm hF] at hn; exact h.rh.nodup nm hn
  blk:=fun nm hn b hb'=>by
   rw [t.Fr,t.Bo]
   by_cases hF:F nm
   ·rw [fO hF] at hb'
    obtain ⟨h2,h3 | ⟨m,h4,h5,h6⟩⟩:=t.blk nm hF hn b hb'
    ·refine ⟨h2,?_,?_⟩
     ·intro hf; have:=(h.fr b (.inl hf)).1; have:=h.size0; omega
     ·intro hf; have:=(h.fr b (.inr hf)).1; have:=h.size0; omega
    ·exact ⟨h2,(h.rh.blk m h5 b h6).2⟩
   ·rw [cA hF] at hb'
    rw [t.rest nm hF] at hn
    have:=h.rh.blk nm hn b hb'
    exact ⟨Nat.lt_of_lt_of_le this.1 t.size,this.2⟩
  dis:=fun n m hn hm hne b hb1 hb2=>by
   by_cases hF:F n<;>by_cases hG:F m
   ·rw [fO hF] at hb1; rw [fO hG] at hb2
    exact t.dis n m hF hG hn hm hne b hb1 hb2
   ·rw [fO hF] at hb1; rw [cA hG] at hb2
    rw [t.rest m hG] at hm
    obtain ⟨_,h3 | ⟨k,h4,h5,h6⟩⟩:=t.blk n hF hn b hb1
    ·have:=(h.rh.blk m hm b hb2).1; omega
    ·exact h.rh.dis k m h5 hm (fun he=>hG (he▸h4)) b h6 hb2
   ·rw [cA hF] at hb1; rw [fO hG] at hb2
    rw [t.rest n hF] at hn
    obtain ⟨_,h3 | ⟨k,h4,h5,h6⟩⟩:=t.blk m hG hm b hb2
    ·have:=(h.rh.blk n hn b hb1).1; omega
    ·exact h.rh.dis k n h5 hn (fun he=>hF (he▸h4)) b h6 hb1
   ·rw [cA hF] at hb1; rw [cA hG] at hb2
    rw [t.rest n hF] at hn; rw [t.rest m hG] at hm
    exact h.rh.dis n m hn hm hne b hb1 hb2
  dead:=fun nm hn=>by
   by_cases hF:F nm
   ·exact t.dead nm hF hn
   ·rw [t.φ nm hF]; rw [t.rest nm hF] at hn; exact h.rh.dead nm hn}
end Go.Sep
namespace Go.Sep
set_option linter.unusedVariables false
set_option linter.unusedSimpArgs false
inductive Arg where
 | t (n:Nat)
 | c (v:AV)
inductive MOp where
 | mv (x:Arg)
 | pick (c a b:Arg)
 | alloc (zero:List AV)
 | box (x:Arg)
 | build (zero:List AV) (parts:List (Nat×Nat×Arg))
 | mkSl (zero:List AV) (len:Nat) (parts:List (Nat×Arg))
 | load (n:Nat) (ag:Bool) (a:Arg)
 | store (n:Nat) (a v:Arg)
 | nilck (x:Arg)
 | bin (op:BinOp) (x y:Arg)
 | eqS (neg:Bool) (ks:List Bool) (x y:Arg)
 | eqB (neg:Bool) (x y:Arg)
 | neNil (x:Arg)
 | un (op:UnOp) (x:Arg)
 | cvi (k:IntKind) (x:Arg)
 | cvs (x:Arg)
 | mkS (zero:List AV) (bytes:Nat) (l c:Arg)
 | cut (sz:Nat) (x:Arg) (lo hi:Option Arg)
 | cutS (x:Arg) (lo hi:Option Arg)
 | fad (off:Nat) (x:Arg)
 | fld (off n:Nat) (ag:Bool) (x:Arg)
 | iad (sz:Nat) (x i:Arg)
 | idx (x i:Arg)
 | ext (x:Arg) (i:Nat)
 | len (x:Arg)
 | lenS (x:Arg)
 | mx (x y:Arg)
 | app (sz bytes:Nat) (s x:Arg)
 | clr (zero:List AV) (x:Arg)
 | call (f:Nat) (ps:List Bool) (xs:List Arg)
 | calv (g:Arg) (xs:List Arg)
structure yA where
 dst:Option Nat
 op:MOp
 guard:Option (Nat×Bool):=none
inductive uI where
 | done
 | take (i:Nat) (o:yA) (k:uI)
 | only (i:Nat) (deps:List Nat) (o:yA) (k:uI)
 | both (i:Nat) (di:List Nat) (o:yA) (k:uI) (j:Nat) (dj:List Nat) (p:yA) (l:uI)
 | tri (i:Nat) (di:List Nat) (o:yA) (k:uI) (j:Nat) (dj:List Nat) (p:yA) (l:uI) (m:Nat) (dm:List Nat) (q:yA) (r:uI)
inductive bF where
 | skip
 | dreg (tr:uI)
 | reg (draw:Bool) (ops:List yA)
 | seq (a b:bF)
 | cond (x:Nat) (a b:bF)
 | blk (id:Nat) (a:bF)
 | loop (a:bF)
 | exit (id:Nat)
 | ret
inductive qCx where
 | t (n:Nat)
 | cell (a n:Nat) (ag:Bool)
structure MFn where
 ntmps:Nat
 results:List qCx
 body:bF
inductive AS where
 | mk (t:List (Nat×AV)) (h:wT) (nx:Nat)
 | bad
def wB:List (Nat×AV)→Nat→AV
 | [],_=>.any
 | (m,v)::l,n=>if n=m then v else wB l n
def qWm (l:List (Nat×AV)) (n:Nat) (v:AV):List (Nat×AV):=(n,v)::l
def bX (l:List (Nat×AV)):Option Nat→AV→List (Nat×AV)
 | none,_=>l
 | some n,v=>qWm l n v
def Arg.ev (ρ:Nat→AV):Arg→AV
 | .t n=>ρ n
 | .c v=>v
def put:wT→Nat→Row→wT
 | [],n,r=>[(n,r)]
 | (m,s)::h,n,r=>if n=m then (m,r)::h else (m,s)::put h n r
def del:wT→Nat→wT
 | [],_=>[]
 | (m,s)::h,n=>if n=m then del h n else (m,s)::del h n
abbrev FP:=List (Nat×Option Row×Option Row)
def dQ (h:wT):FP→wT
 | []=>h
 | (n,_,some r)::fp=>dQ (put h n r) fp
 | (n,_,none)::fp=>dQ (del h n) fp
def cellsOf:AV→List AV
 | .agg cs=>cs
 | v=>[v]
def yR:Nat→List AV→List AV×List (Nat×Row)×Nat
 | n,[]=>([],[],n)
 | n,.sl .own sz rows::l=>(.ns n 0 rows.length::(yR (n+1) l).1,(n,(sz,rows))::(yR (n+1) l).2.1,(yR (n+1) l).2.2)
 | n,v::l=>(v::(yR n l).1,(yR n l).2.1,(yR n l).2.2)
def fresh (l:List (Nat×Row)):FP:=l.map fun x=>(x.1,none,some x.2)
def bZ (r:List AV) (f:Nat) (cs:List AV):List AV:=r.take f++cs++r.drop (f+cs.length)
def qHv (ρ:Nat→AV):List AV→List (Nat×Nat×Arg)→List AV
 | cs,[]=>cs
 | cs,(off,_,x)::l=>qHv ρ (bZ cs off (cellsOf (x.ev ρ))) l
def qB2 (ρ:Nat→AV) (n:Nat):List (Nat×Nat×Arg)→Prop
 | []=>True
 | (off,sz,x)::l=>((cellsOf (x.ev ρ)).length=sz∧(cellsOf (x.ev ρ)).all yM=true∧off+sz≤n)∧qB2 ρ n l
def tI (ρ:Nat→AV):List (List AV)→List (Nat×Arg)→List (List AV)
 | rs,[]=>rs
 | rs,(i,x)::l=>tI ρ (rs.set i (cellsOf (x.ev ρ))) l
def oQ (ρ:Nat→AV) (n sz:Nat):List (Nat×Arg)→Prop
 | []=>True
 | (i,x)::l=>(i<n∧(cellsOf (x.ev ρ)).length=sz∧(cellsOf (x.ev ρ)).all yM=true)∧oQ ρ n sz l
def sW:AV→Bool
 | .sl .own _ _=>true
 | .agg _ | .tup _ | .fn _ _=>true
 | _=>false
def free (rows:List (List AV)):Prop :=∀r∈rows,∀c∈r,sW c=false
def eqC:List Bool→List AV→List AV→Option Bool
 | [],[],[]=>some true
 | true::ks,.int k a::xs,.int k' b::ys=>if k=k' then (eqC ks xs ys).map (fun r=>decide (a=b)&&r) else none
 | false::ks,.bool a::xs,.bool b::ys=>(eqC ks xs ys).map (fun r=>(a==b)&&r)
 | _,_,_=>none
abbrev Out:=Option (Prop×AV×FP×Nat)
def ok (v:AV) (n:Nat):Out:=some (True,v,[],n)
def qN0 (k:IntKind) (a b:Int):Int:=k.wrap (BitVec.ofInt k.bits a &&& BitVec.ofInt k.bits b).toNat
def bOr (k:IntKind) (a b:Int):Int:=k.wrap (BitVec.ofInt k.bits a ||| BitVec.ofInt k.bits b).toNat
def qYk (k:IntKind) (a b:Int):Int:=k.wrap (BitVec.ofInt k.bits a ^^^ BitVec.ofInt k.bits b).toNat
def qSw (k:IntKind) (a b:Int):Int:=k.wrap (a*2^(min b.toNat k.bits))
def qMz (k:IntKind) (a b:Int):Int:=a.fdiv (2^(min b.toNat k.bits))
def qDu (op:BinOp) (k:IntKind) (a b:Int):Option (Prop×AV) :=
 match op with
 | .shl=>some (0≤b,.int k (qSw k a b))
 | .shr=>some (0≤b,.int k (qMz k a b))
 | _=>none
def qBa (op:BinOp) (x y:AV):Option (Prop×AV) :=
 match x,y with
 | .int k a,.int k' b =>
  if k=k' then
   match op with
   | .add=>some (True,.int k (k.wrap (a+b)))
   | .sub=>some (True,.int k (k.wrap (a-b)))
   | .mul=>some (True,.int k (k.wrap (a*b)))
   | .quo=>some (b≠0,.int k (k.wrap (a.tdiv b)))
   | .rem=>some (b≠0,.int k (a.tmod b))
   | .eql=>some (True,.bool (decide (a=b)))
   | .neq=>some (True,.bool (!decide (a=b)))
   | .lss=>some (True,.bool (decide (a<b)))
   | .leq=>some (True,.bool (decide (a≤b)))
   | .gtr=>some (True,.bool (decide (b<a)))
   | .geq=>some (True,.bool (decide (b≤a)))
   | .and=>some (True,.int k (qN0 k a b))
   | .or=>some (True,.int k (bOr k a b))
   | .xor=>some (True,.int k (qYk k a b))
   | .shl=>some (0≤b,.int k (qSw k a b))
   | .shr=>some (0≤b,.int k (qMz k a b))
   | _=>none
  else qDu op k a b
 | .str a,.str b =>
  match op with
  | .add=>some (((a.size+b.size:Nat):Int)≤9223372036854775807,.str (a++b))
  | .eql=>some (True,.bool (decide (a=b)))
  | .neq=>some (True,.bool (!decide (a=b)))
  | _=>none
 | _,_=>none
def iN (h:wT) (sz:Nat):AV→Option (Prop×List (List AV)×FP)
 | .nil=>some (True,[],[])
 | .ns nm off len=>(qN h nm).map fun row=>(row.1=sz∧off+len≤row.2.length∧free ((row.2.drop off).take len),(row.2.drop off).take len,[(nm,some row,some row)])
 | .sl .bw s rows=>some (s=sz∧free rows,rows,[])
 | .sl .fz s rows=>some (s=sz∧free rows,rows,[])
 | _=>none
def eE:List (List AV)→Option (List UInt8)
 | []=>some []
 | [.int .u8 n]::l=>(eE l).map (UInt8.ofNat n.toNat::·)
 | _=>none
def xY (ρ:Nat→AV) (d:Int):Option Arg→Option Int
 | none=>some d
 | some a=>match a.ev ρ with
  | .int _ n=>some n
  | _=>none
def wO (ρ:Nat→AV) (h:wT) (nx:Nat):MOp→Out
 | .mv x=>ok (x.ev ρ) nx
 | .pick c a b=>match c.ev ρ with
  | .bool q=>match a.ev ρ,b.ev ρ with
   | .bool x,.bool y=>ok (.bool (bif q then x else y)) nx
   | x,y=>ok (bif q then x else y) nx
  | _=>none
 | .alloc zero=>some (0<zero.length,.ptr nx 0 0,[(nx,none,some (zero.length,[zero]))],nx+1)
 | .box x=>some ((cellsOf (x.ev ρ)).all yM=true∧0<(cellsOf (x.ev ρ)).length,.ptr nx 0 0,[(nx,none,some ((cellsOf (x.ev ρ)).length,[cellsOf (x.ev ρ)]))],nx+1)
 | .build zero parts=>some (qB2 ρ zero.length parts,.agg (qHv ρ zero parts),[],nx)
 | .mkSl zero len parts=>some (oQ ρ len zero.length parts,.ns nx 0 len,[(nx,none,some (zero.length,tI ρ (qZo len zero) parts))],nx+1)
 | .load n ag a=>match a.ev ρ with
  | .ptr nm i f=>(qN h nm).map fun row =>
   let o:=yR nx (((row.2.getD i []).drop f).take n)
   (i<row.2.length∧f+n≤(row.2.getD i []).length,if ag then .agg o.1 else o.1.getD 0 .any,
    (nm,some row,some (if o.2.1.isEmpty then row else (row.1,row.2.set i (bZ (row.2.getD i []) f o.1))))::fresh o.2.1,o.2.2)
  | .fptr m cells f=>some (f+n≤cells.length,if ag then .agg ((cells.drop f).take n) else ((cells.drop f).take n).getD 0 .any,[],nx)
  | _=>none
 | .store n a v=>match a.ev ρ with
  | .ptr nm i f=>(qN h nm).map fun row =>
   ((cellsOf (v.ev ρ)).length=n∧(cellsOf (v.ev ρ)).all yM=true∧i<row.2.length∧f+n≤(row.2.getD i []).length,.any,
    [(nm,some row,some (row.1,row.2.set i (bZ (row.2.getD i []) f (cellsOf (v.ev ρ)))))],nx)
  | _=>none
 | .nilck x=>match x.ev ρ with
  | .ptr nm i f=>(qN h nm).map fun row=>(True,.ptr nm i f,[(nm,some row,some row)],nx)
  | .fptr m cs f=>ok (.fptr m cs f) nx
  | _=>none
 | .bin op x y=>(qBa op (x.ev ρ) (y.ev ρ)).map fun r=>(r.1,r.2,[],nx)
 | .eqS neg ks x y=>match x.ev ρ,y.ev ρ with
  | .agg xs,.agg ys=>(eqC ks xs ys).map fun r=>(True,.bool (if neg then !r else r),[],nx)
  | _,_=>none
 | .eqB neg x y=>match x.ev ρ,y.ev ρ with
  | .bool a,.bool b=>ok (.bool (if neg then !(a==b) else a==b)) nx
  | _,_=>none
 | .neNil x=>match x.ev ρ with
  | .nilI=>ok (.bool false) nx
  | .ifc=>ok (.bool true) nx
  | _=>none
 | .un op x=>match op,x.ev ρ with
  | .not,.bool b=>ok (.bool !b) nx
  | .neg,.int k n=>ok (.int k (k.wrap (0-n))) nx
  | _,_=>none
 | .cvi k x=>match x.ev ρ with
  | .int _ n=>ok (.int k (k.wrap n)) nx
  | _=>none
 | .cvs x=>(iN h 1 (x.ev ρ)).bind fun r=>(eE r.2.1).map fun l=>(r.1,.str ⟨l.toArray⟩,r.2.2,nx)
 | .mkS zero bytes l c=>match l.ev ρ,c.ev ρ with
  | .int .i64 a,.int .i64 b=>some (a=b∧0≤a∧(bytes:Int)*a≤2^47∧a≤2^47,.ns nx 0 a.toNat,[(nx,none,some (zero.length,qZo a.toNat zero))],nx+1)
  | _,_=>none
 | .cut sz x lo hi=>(xY ρ 0 lo).bind fun l =>
   match x.ev ρ with
   | .nil=>(xY ρ 0 hi).map fun h=>(l=0∧h=0,.nil,[],nx)
   | .ns nm off len=>(qN h nm).bind fun row=>(xY ρ len hi).map fun h =>
     (row.1=sz∧off+len≤row.2.length∧0≤l∧l≤h∧h≤len,.ns nm (off+l.toNat) (h.toNat-l.toNat),[(nm,some row,some row)],nx)
   | .sl .bw s rows=>(xY ρ rows.length hi).map fun h=>(s=sz∧0≤l∧l≤h∧h≤rows.length,.sl .bw s ((rows.drop l.toNat).take (h.toNat-l.toNat)),[],nx)
   | .sl .fz s rows=>(xY ρ rows.length hi).map fun h=>(s=sz∧0≤l∧l≤h∧h≤rows.length,.sl .fz s ((rows.drop l.toNat).take (h.toNat-l.toNat)),[],nx)
   | _=>none
 | .cutS x lo hi=>(xY ρ 0 lo).bind fun l =>
   match x.ev ρ with
   | .str s=>(xY ρ s.size hi).map fun h=>(0≤l∧l≤h∧h≤s.size,.str (s.extract l.toNat h.toNat),[],nx)
   | _=>none
 | .fad off x=>match x.ev ρ with
  | .ptr nm i f=>(qN h nm).map fun row=>(True,.ptr nm i (f+off),[(nm,some row,some row)],nx)
  | .fptr m cs f=>ok (.fptr m cs (f+off)) nx
  | _=>none
 | .fld off n ag x=>match x.ev ρ with
  | .agg cs=>some (off+n≤cs.length,if ag then .agg ((cs.drop off).take n) else cs.getD off .any,[],nx)
  | _=>none
 | .iad sz x i=>match x.ev ρ,i.ev ρ with
  | .ns nm off len,.int _ j=>(qN h nm).map fun row=>(row.1=sz∧off+len≤row.2.length∧0≤j∧j<len,.ptr nm (off+j.toNat) 0,[(nm,some row,some row)],nx)
  | .sl .bw s rows,.int _ j=>some (s=sz∧0≤j∧j<rows.length,.fptr .bw (rows.getD j.toNat []) 0,[],nx)
  | .sl .fz s rows,.int _ j=>some (s=sz∧0≤j∧j<rows.length,.fptr .fz (rows.getD j.toNat []) 0,[],nx)
  | _,_=>none
 | .idx x i=>match x.ev ρ,i.ev ρ with
  | .str s,.int _ j=>some (0≤j∧j<s.size,.int .u8 ((s.data.getD j.toNat 0).toNat:Nat),[],nx)
  | _,_=>none
 | .ext x i=>match x.ev ρ with
  | .tup vs=>some (i<vs.length,vs.getD i .any,[],nx)
  | _=>none
 | .len x=>match x.ev ρ with
  | .nil=>ok (.int .i64 0) nx
  | .ns nm off l=>(qN h nm).map fun row=>(True,.int .i64 l,[(nm,some row,some row)],nx)
  | .sl .bw _ rows=>ok (.int .i64 rows.length) nx
  | .sl .fz _ rows=>ok (.int .i64 rows.length) nx
  | _=>none
 | .lenS x=>match x.ev ρ with
  | .str s=>ok (.int .i64 s.size) nx
  | _=>none
 | .mx x y=>match x.ev ρ,y.ev ρ with
  | .int k a,.int k' b=>if k=k' then ok (.int k (if b>a then b else a)) nx else none
  | _,_=>none
 | .app sz bytes s x=>(iN h sz (x.ev ρ)).bind fun r =>
  match s.ev ρ with
  | .nil=>some (r.1∧0<sz∧bytes*r.2.1.length≤2^47∧r.2.1.length≤2^47,.ns nx 0 r.2.1.length,r.2.2++[(nx,none,some (sz,r.2.1))],nx+1)
  | .ns nm off len=>(qN h nm).map fun row=>(r.1∧0<sz∧row.1=sz∧off+len=row.2.length∧(∀x∈r.2.2,x.1≠nm)∧bytes*(len+r.2.1.length)≤2^47∧len+r.2.1.length≤2^47,
    .ns nx 0 (len+r.2.1.length),r.2.2++[(nm,some row,none),(nx,none,some (sz,row.2.drop off++r.2.1))],nx+1)
  | _=>none
 | .clr zero x=>match x.ev ρ with
  | .ns nm off len=>(qN h nm).map fun row=>(row.1=zero.length∧off+len=row.2.length,.any,[(nm,some row,some (row.1,row.2.take off++qZo len zero))],nx)
  | _=>none
 | .call _ _ _ | .calv _ _=>none
def zX:MOp→Bool
 | .alloc _ | .box _ | .mkSl .. | .store .. | .mkS .. | .app .. | .clr .. | .call .. | .calv ..=>false
 | _=>true
def qEs:MOp→Bool
 | .call .. | .calv ..=>true
 | _=>false
end Go.Sep
namespace Go.Sep
set_option linter.unusedVariables false
set_option linter.unusedSimpArgs false
theorem eT (b o j:Nat):(⟨b,o,none⟩:Addr).add j=⟨b,o+j,none⟩:=by
 unfold Addr.add
 by_cases h:j=0
 ·simp [h]
 ·simp [h]
theorem qGb {P:Program} {w:World} {a:Addr} {v:Value} (h:w.cell? a=some v):(load a).run P w=.ok v w:=by
 simp [run_load,h]
theorem fK {P:Program} {w:World} {b o:Nat} :∀(n i:Nat) (vs:List Value) (acc:Array Value),vs.length=n→
  (∀j,j<n→w.cell? ⟨b,o+(i+j),none⟩=vs[j]?)→(loadCellsFrom ⟨b,o,none⟩ i n acc).run P w=.ok (acc++vs.toArray) w
 | 0,i,vs,acc,hl,h=>by
  have:vs=[]:=List.length_eq_zero_iff.1 hl
  subst this
  simp [loadCellsFrom]
 | n+1,i,[],acc,hl,h=>by simp at hl
 | n+1,i,v::vs,acc,hl,h=>by
  have h0:w.cell? ⟨b,o+i,none⟩=some v:=by simpa using h 0 (by omega)
  simp only [loadCellsFrom,eT,Sem.run_bind,qGb h0,Result.andThen_ok]
  rw [fK n (i+1) vs (acc.push v) (by simpa using hl) (fun j hj=>by
   have:=h (j+1) (by omega)
   rw [show o+(i+1+j)=o+(i+(j+1)) by omega]
   simpa using this)]
  simp
theorem aZ {P:Program} {w:World} {b o n:Nat} {vs:List Value} (hl:vs.length=n) (h :∀j,j<n→w.cell? ⟨b,o+j,none⟩=vs[j]?) :
  (loadCells ⟨b,o,none⟩ n).run P w=.ok vs.toArray w:=by
 unfold loadCells
 rw [fK n 0 vs #[] hl (by simpa using h)]
 simp
def vQ (arr:Array Value) (o:Nat):List Value→Array Value
 | []=>arr
 | v::vs=>vQ (arr.setIfInBounds o v) (o+1) vs
theorem nU (arr:Array Value) (o:Nat) (vs:List Value):(vQ arr o vs).size=arr.size:=by
 induction vs generalizing arr o with
 | nil=>rfl
 | cons v vs ih=>simp [vQ,ih]
theorem zT (arr:Array Value) (o:Nat) (vs:List Value) (k:Nat) (h:k<o∨o+vs.length≤k):(vQ arr o vs)[k]?=arr[k]?:=by
 induction vs generalizing arr o with
 | nil=>rfl
 | cons v vs ih =>
  simp only [vQ]
  simp only [qZp] at h
  rw [ih _ _ (by omega),Array.getElem?_setIfInBounds_ne (by omega)]
theorem oW (arr:Array Value) (o:Nat) (vs:List Value) (j:Nat) (hj:j<vs.length) (h:o+vs.length≤arr.size):(vQ arr o vs)[o+j]?=vs[j]?:=by
 induction vs generalizing arr o j with
 | nil=>simp at hj
 | cons v vs ih =>
  simp only [vQ,qZp] at h hj⊢
  cases j with
  | zero =>
   rw [zT _ _ _ _ (by omega)]
   have:o<arr.size:=by omega
   simp [this]
  | succ j =>
   rw [show o+(j+1)=o+1+j by omega,ih _ _ j (by omega) (by simp; omega)]
   simp
def World.setBlk (w:World) (b:Nat) (o:Obj):World:={w with heap:=w.heap.setIfInBounds b o}
theorem fJ (w:World) (b:Nat) (o:Obj):(World.setBlk w b o).heap.size=w.heap.size:=by simp [World.setBlk]
theorem zM (w:World) (b c:Nat) (o:Obj) (h:b≠c):(World.setBlk w b o).heap[c]?=w.heap[c]?:=by
 simp [World.setBlk,Array.getElem?_setIfInBounds_ne h]
theorem oC (w:World) (b:Nat) (o:Obj) (h:b<w.heap.size):(World.setBlk w b o).heap[b]?=some o:=by
 simp [World.setBlk,h]
theorem qL5 {w:World} {b o:Nat} {arr:Array Value} {ty:TypeId} {fz:Nat×Nat} {v:Value} (h:w.heap[b]?=some (.cells arr ty fz)) :
  w.setCell ⟨b,o,none⟩ v=World.setBlk w b (.cells (arr.setIfInBounds o v) ty fz):=by
 have hb:=(Array.getElem?_eq_some_iff.1 h).1
 have hv:=(Array.getElem?_eq_some_iff.1 h).2
 unfold World.setCell World.setBlk
 congr 1
 apply Array.ext_getElem?
 intro i
 rw [Array.getElem?_modify]
 by_cases hi:b=i
 ·subst hi
  simp [hb,hv]
 ·simp [hi,Array.getElem?_setIfInBounds_ne hi]
theorem zK {w:World} {b o:Nat} {arr:Array Value} {ty:TypeId} {fz:Nat×Nat} (h:w.heap[b]?=some (.cells arr ty fz)):w.cell? ⟨b,o,none⟩=arr[o]?:=by
 simp [World.cell?,h]
theorem qGa (w:World) (b:Nat) (o o':Obj):World.setBlk (World.setBlk w b o) b o'=World.setBlk w b o':=by
 simp [World.setBlk]
theorem aD {P:Program} {b ty:Nat} :∀(vs:List Value) (w:World) (o i:Nat) (arr:Array Value),w.heap[b]?=some (.cells arr ty (0,0))→(∀v∈vs,v.oneCell'=true)→
  o+i+vs.length≤arr.size→(storeCells ⟨b,o,none⟩ vs i).run P w=.ok () (World.setBlk w b (.cells (vQ arr (o+i) vs) ty (0,0)))
 | [],w,o,i,arr,hb,hv,hs=>by
  have h1:=(Array.getElem?_eq_some_iff.1 hb).1
  have h2:=(Array.getElem?_eq_some_iff.1 hb).2
  have:World.setBlk w b (.cells (vQ arr (o+i) []) ty (0,0))=w:=by
   unfold World.setBlk vQ
   congr 1
   apply Array.ext_getElem?
   intro k
   by_cases hk:b=k
   ·subst hk; simp [h1,h2]
   ·simp [Array.getElem?_setIfInBounds_ne hk]
  rw [this]
  simp [storeCells]
 | v::vs,w,o,i,arr,hb,hv,hs=>by
  simp only [qZp] at hs
  have hc:w.cell? ⟨b,o+i,none⟩=some (arr[o+i]'(by omega)):=by rw [zK hb]; exact Array.getElem?_eq_getElem (by omega)
  have hf:w.frozen? ⟨b,o+i,none⟩=false:=by simp [World.frozen?,hb]
  have h1:=(Array.getElem?_eq_some_iff.1 hb).1
  unfold storeCells
  simp only [eT,Sem.run_bind]
  rw [run_store P w _ v .plain (hv v (by simp))]
  simp only [hc,hf,qZq,if_false,Result.andThen_ok]
  rw [qL5 hb]
  have hb':(World.setBlk w b (.cells (arr.setIfInBounds (o+i) v) ty (0,0))).heap[b]?=some (.cells (arr.setIfInBounds (o+i) v) ty (0,0)):=oC _ _ _ h1
  rw [aD vs _ o (i+1) _ hb' (fun u hu=>hv u (by simp [hu])) (by simp; omega)]
  rw [qGa]
  rfl
theorem xL {P:Program} {w:World} (t:TypeId) (cs:Array Value):(newRow t cs).run P w=.ok ⟨w.heap.size,0,none⟩ (w.alloc (.cells cs t)):=by
 simp [newRow]
theorem wK {P:Program} {w:World} {t:TypeId} {d:TypeDesc} (h:P.underlying t=some d):(underlying t).run P w=.ok d w:=by
 simp [underlying,h]
theorem dY {P:Program} {w:World} {t:TypeId} {i:TypeInfo} (h:P.info? t=some i):(typeInfo t).run P w=.ok i w:=by
 simp [typeInfo,h]
theorem uG {P:Program} {w:World} {t:TypeId} {i:TypeInfo} (h:P.info? t=some i):(sizeOf t).run P w=.ok i.size w:=by
 simp [sizeOf,dY h]
theorem dN {P:Program} {w:World} {t:TypeId} {i:TypeInfo} {z:Value} (h:P.info? t=some i) (hz:i.zero=some z):(zeroValue t).run P w=.ok z w:=by
 simp [zeroValue,dY h,hz]
def qCt (P:Program) (t:TypeId):Option Bool:=(P.underlying t).map fun | .struct _ | .array _ _=>true | _=>false
theorem qA9 {P:Program} {w:World} {t:TypeId} {ag:Bool} (h:qCt P t=some ag):(isAgg t).run P w=.ok ag w:=by
 unfold qCt at h
 cases hu:P.underlying t with
 | none=>simp [hu] at h
 | some d =>
  simp [hu] at h
  subst h
  cases d<;>simp [isAgg,wK hu]
theorem mF {P:Program} {w:World} {t:TypeId} {ag:Bool} {i:TypeInfo} {b o:Nat} {vs:List Value} (h:qCt P t=some ag) (hi:P.info? t=some i)
  (h1:ag=false→i.size=1) (hl:vs.length=i.size) (hc :∀j,j<i.size→w.cell? ⟨b,o+j,none⟩=vs[j]?) :
  (loadVar t ⟨b,o,none⟩).run P w=.ok (if ag then .agg vs.toArray else vs.getD 0 undef) w:=by
 unfold loadVar
 simp only [Sem.run_bind,qA9 h,Result.andThen_ok]
 cases ag with
 | true=>simp [uG hi,aZ hl hc]
 | false =>
  have h0:=h1 rfl
  have hc0:w.cell? ⟨b,o,none⟩=vs[0]?:=by simpa using hc 0 (by omega)
  have:0<vs.length:=by omega
  rw [List.getElem?_eq_getElem this] at hc0
  simp [run_load,hc0,this]
theorem qJ8 {P:Program} {w:World} {t:TypeId} {i:TypeInfo} {b o:Nat} {v:Value} {arr:Array Value} {ty:TypeId} (hi:P.info? t=some i) (hl:v.cells.size=i.size)
  (hb:w.heap[b]?=some (.cells arr ty (0,0))) (hv :∀u∈v.cells.toList,u.oneCell'=true) (hs:o+i.size≤arr.size) :
  (storeVar t ⟨b,o,none⟩ v).run P w=.ok () (World.setBlk w b (.cells (vQ arr o v.cells.toList) ty (0,0))):=by
 unfold storeVar
 simp only [Sem.run_bind,uG hi,Result.andThen_ok]
 rw [if_neg (by simpa using hl)]
 rw [aD v.cells.toList w o 0 arr hb hv (by simp; omega)]
 simp
end Go.Sep
namespace Go.Sep
set_option linter.unusedVariables false
set_option linter.unusedSimpArgs false
mutual
def tP:AV→Value→Bool
 | .bool c,v=>(match v with | .bool b=>b==c | _=>false)
 | .int k m,v=>(match v with | .int k' n=>k==k'&&n==m | _=>false)
 | .str t,v=>(match v with | .string s=>decide (s=t) | _=>false)
 | .nil,v=>(match v with | .slice none 0 0=>true | _=>false)
 | .nilp,v=>(match v with | .pointer none=>true | _=>false)
 | .nilI,v=>(match v with | .nilIface=>true | _=>false)
 | .agg ds,v=>(match v with | .agg cs=>nP ds cs.toList | _=>false)
 | _,_=>false
def nP:List AV→List Value→Bool
 | [],vs=>(match vs with | []=>true | _=>false)
 | d::ds,vs=>(match vs with | v::vs=>tP d v&&nP ds vs | _=>false)
end
def uP (num:Nat→Nat):Operand→Arg→Bool
 | .tmp t,.t n=>t==n
 | .const v,.c d=>tP d v
 | .func f,.c (.fn g [])=>f==num g
 | _,_=>false
def qC9 (num:Nat→Nat):List Operand→List Arg→Bool
 | [],[]=>true
 | x::xs,y::ys=>uP num x y&&qC9 num xs ys
 | _,_=>false
def upH (H:Nat→Option Row):FP→Nat→Option Row
 | []=>H
 | (n,_,r)::fp=>upH (fun m=>if m=n then r else H m) fp
def Tri (P:Program) (num:Nat→Nat) (o:Oper) (ρ:Nat→AV) (v:AV) (fp:FP):Prop :=
 ∀(e:Env) (L0:List Nat) (H:Nat→Option Row) (Lf:Nat→List Nat) (A:Nat→Prop) (a:Act) (K:Act→World→Prop) (Q:Exit→Act→World→Prop),
  e.num=num→Ok e L0 H Lf→(∀x∈fp,H x.1=x.2.1)→(∀t,bnd A (ρ t))→(∀nm row,H nm=some row→yQ A row.2)→(∀x∈fp,x.2.1=none→¬A x.1)→(∀t,RV e (ρ t) (a.tmps.getD t undef) [])→
  (∀e' Lf' v',dI e H Lf (fun n=>n∈fp.map (·.1)) e' (upH H fp) Lf'→RV e' v v' []→K (a.put o.dst v') e'.w)→
  o.wp P a e.w K Q
theorem zY {P:Program} {o:Oper} {a:Act} {w w':World} {v:Value} {K:Act→World→Prop} {Q:Exit→Act→World→Prop}
  (h:(execOp a.eval o).run P w=.ok (.value v) w') (k:K (a.put o.dst v) w'):o.wp P a w K Q:=by
 unfold Oper.wp
 rw [h]
 exact k
theorem qN9 {P:Program} {o:Oper} {a:Act} {w w':World} {K:Act→World→Prop} {Q:Exit→Act→World→Prop}
  (h:(execOp a.eval o).run P w=.ok .skip w') (k:K (a.put o.dst undef) w'):o.wp P a w K Q:=by
 unfold Oper.wp
 rw [h]
 exact k
theorem iI {H:Nat→Option Row} :∀{fp:FP} {n:Nat},n∉fp.map (·.1)→upH H fp n=H n
 | [],_,_=>rfl
 | (m,p,r)::fp,n,h=>by
  simp only [qZr,qZs,not_or] at h
  simp only [upH]
  rw [iI h.2,if_neg h.1]
theorem rQ {H:Nat→Option Row} :∀{fp:FP},(∀x∈fp,H x.1=x.2.1)→(∀x∈fp,x.2.2=x.2.1)→upH H fp=H
 | [],_,_=>rfl
 | (m,p,r)::fp,h1,h2=>by
  simp only [upH]
  have hr:r=H m:=by
   have a:=h1 (m,p,r) (by simp)
   have b:=h2 (m,p,r) (by simp)
   simp at a b
   rw [b,a]
  have:(fun k=>if k=m then r else H k)=H:=by
   funext k
   by_cases hk:k=m
   ·rw [if_pos hk,hk,hr]
   ·rw [if_neg hk]
  rw [this]
  exact rQ (fun x hx=>h1 x (by simp [hx])) (fun x hx=>h2 x (by simp [hx]))
theorem dI.refl {e:Env} {L0:List Nat} {H:Nat→Option Row} {Lf:Nat→List Nat} (F:Nat→Prop) (h:Ok e L0 H Lf):dI e H Lf F e H Lf where
 num:=rfl
 w0:=rfl
 Fr:=rfl
 Bo:=rfl
 io:=gE.refl _
 size:=qZt _
 keep _ _ _:=rfl
 φ _ _:=rfl
 φF _ _ _:=.inl rfl
 rest _ _:=rfl
 row nm row _ hr:=h.rh.row nm row hr
 nodup nm _ hn:=h.rh.nodup nm hn
 blk nm hF hn b hb:=⟨(h.rh.blk nm hn b hb).1,.inr ⟨nm,hF,hn,hb⟩⟩
 dis n m _ _ hn hm hne b hb:=h.rh.dis n m hn hm hne b hb
 dead nm _ hn:=h.rh.dead nm hn
def lX (e:Env) (fp:FP) (w':World):Prop :=
 (∀b,e.Fr b∨e.Bo b→∀o,w'.cell? ⟨b,o,none⟩=e.w.cell? ⟨b,o,none⟩)∧∀x∈fp,∀q,e.φ x.1=.at q→w'.heap[q.block]?=e.w.heap[q.block]?
theorem lX.of_heap {e:Env} {fp:FP} {w':World} (h:w'.heap=e.w.heap):lX e fp w':=⟨fun b _ o=>uV (by rw [h]) o,fun _ _ q _=>by rw [h]⟩
theorem lX.refl (e:Env) (fp:FP):lX e fp e.w:=⟨fun _ _ _=>rfl,fun _ _ _ _=>rfl⟩
def aM (P:Program) (num:Nat→Nat) (o:Oper) (ρ:Nat→AV) (v:AV) (fp:FP):Prop :=
 ∀(e:Env) (L0:List Nat) (H:Nat→Option Row) (Lf:Nat→List Nat) (A:Nat→Prop) (a:Act),
  e.num=num→Ok e L0 H Lf→(∀x∈fp,H x.1=x.2.1)→(∀t,bnd A (ρ t))→(∀nm row,H nm=some row→yQ A row.2)→(∀x∈fp,x.2.1=none→¬A x.1)→(∀t,RV e (ρ t) (a.tmps.getD t undef) [])→
  ∃v',(∀w',lX e fp w'→(execOp a.eval o).run P w'=.ok (.value v') w')∧∃e' Lf',e'.w=e.w∧dI e H Lf (fun n=>n∈fp.map (·.1)) e' (upH H fp) Lf'∧RV e' v v' []
theorem aM.tri {P:Program} {num:Nat→Nat} {o:Oper} {ρ:Nat→AV} {v:AV} {fp:FP} (h:aM P num o ρ v fp):Tri P num o ρ v fp:=by
 intro e L0 H Lf A a K Q hn hk hpre hb hbh hf ht k
 obtain ⟨v',h1,e',Lf',h2,h3,h4⟩:=h e L0 H Lf A a hn hk hpre hb hbh hf ht
 have:=k e' Lf' v' h3 h4
 rw [h2] at this
 exact zY (h1 e.w (lX.refl e fp)) this
theorem Tri.of_read {P:Program} {num:Nat→Nat} {o:Oper} {ρ:Nat→AV} {v:AV} {fp:FP} (hfp :∀x∈fp,x.2.2=x.2.1)
  (h :∀(e:Env) (L0:List Nat) (H:Nat→Option Row) (Lf:Nat→List Nat) (a:Act),e.num=num→Ok e L0 H Lf→(∀x∈fp,H x.1=x.2.1)→(∀t,RV e (ρ t) (a.tmps.getD t undef) [])→
   ∃v',(∀w',lX e fp w'→(execOp a.eval o).run P w'=.ok (.value v') w')∧RV e v v' []):aM P num o ρ v fp:=by
 intro e L0 H Lf A a hn hk hpre _ _ _ ht
 obtain ⟨v',hr,hv⟩:=h e L0 H Lf a hn hk hpre ht
 refine ⟨v',hr,e,Lf,rfl,?_,hv⟩
 rw [rQ hpre hfp]
 exact dI.refl _ hk
mutual
theorem qN3 {e:Env} :∀{d:AV} {v:Value},tP d v=true→RV e d v []
 | .bool c,v,h=>by cases v<;>simp_all [tP,RV]
 | .int k m,v,h=>by cases v<;>simp_all [tP,RV]
 | .str t,v,h=>by cases v<;>simp_all [tP,RV]
 | .nil,v,h=>by
  simp only [tP] at h
  split at h
  ·simp [RV]
  ·simp at h
 | .nilp,v,h=>by
  simp only [tP] at h
  split at h
  ·simp [RV]
  ·simp at h
 | .nilI,v,h=>by
  simp only [tP] at h
  split at h
  ·simp [RV]
  ·simp at h
 | .agg ds,v,h=>by
  simp only [tP] at h
  split at h
  ·rename_i cs
   simp only [RV]
   exact ⟨cs.toList,rfl,gT h⟩
  ·simp at h
 | .any,_,h | .fn _ _,_,h | .ptr _ _ _,_,h | .fptr _ _ _,_,h | .ifc,_,h | .ns _ _ _,_,h | .sl _ _ _,_,h | .tup _,_,h=>by simp [tP] at h
theorem gT {e:Env} :∀{ds:List AV} {vs:List Value},nP ds vs=true→RVs e ds vs []
 | [],vs,h=>by
  cases vs<;>simp_all [nP,RVs]
 | d::ds,vs,h=>by
  cases vs with
  | nil=>simp [nP] at h
  | cons v vs =>
   simp only [nP,qZu] at h
   simp only [RVs]
   exact ⟨v,vs,[],[],rfl,qN3 h.1,gT h.2,rfl⟩
end
theorem yD {e:Env} {ρ:Nat→AV} {a:Act} {x:Operand} {y:Arg} (ht :∀t,RV e (ρ t) (a.tmps.getD t undef) []) (h:uP e.num x y=true) :
  RV e (y.ev ρ) (a.eval x) []:=by
 cases x with
 | tmp t =>
  cases y with
  | t n=>simp [uP] at h; subst h; exact ht t
  | c d=>simp [uP] at h
 | const v =>
  cases y with
  | t n=>simp [uP] at h
  | c d=>exact qN3 h
 | global g=>cases y<;>simp [uP] at h
 | func f =>
  cases y with
  | t n=>simp [uP] at h
  | c d =>
   cases d with
   | fn g cap =>
    cases cap with
    | nil=>simp [uP] at h; subst h; simp [Arg.ev,RV,RVs,Act.eval]
    | cons=>simp [uP] at h
   | _=>simp [uP] at h
end Go.Sep
namespace Go.Sep
set_option linter.unusedVariables false
set_option linter.unusedSimpArgs false
def lJ (P:Program) (t:TypeId) (zero:List AV):Bool :=
 match P.info? t with
 | some i=>i.size==zero.length&&zero.all yM&&(match i.zero with
  | some z=>nP zero z.cells.toList
  | none=>false)
 | none=>false
def cQ (P:Program) (t:TypeId) (n:Nat):Bool:=(P.info? t).map (·.size)==some n
def qDb (P:Program) (t:TypeId) (n:Nat):Bool:=(P.info? t).map (·.bytes)==some n
def bP (P:Program) (t:TypeId):Option TypeId :=
 match P.underlying t with
 | some (.slice e)=>some e
 | _=>none
def fieldsOf (P:Program) (t:TypeId):Option (Array Field) :=
 match P.underlying t with
 | some (.struct fs)=>some fs
 | _=>none
def qEr (P:Program) (t:TypeId):Bool:=match P.underlying t with | some .string=>true | _=>false
def qJq (P:Program) (t:TypeId):Bool:=match P.underlying t with | some .bool=>true | _=>false
def qUj (P:Program) (t:TypeId):Bool:=match P.underlying t with | some (.int _)=>true | _=>false
def qJp (P:Program) (t:TypeId):Bool:=match P.underlying t with | some (.interface _)=>true | _=>false
def qGn (num:Nat→Nat):Option Operand→Option Arg→Bool
 | none,none=>true
 | some x,some y=>uP num x y
 | _,_=>false
def aK (P:Program) (num:Nat→Nat) (fs:Array Field):List (Nat×Operand)→List (Nat×Nat×Arg)→Bool
 | [],[]=>true
 | (i,x)::ps,(off,sz,y)::qs=>(match fs[i]? with | some f=>f.offset==off&&cQ P f.type sz | none=>false)&&uP num x y&&aK P num fs ps qs
 | _,_=>false
def cD (num:Nat→Nat):List (Nat×Operand)→List (Nat×Arg)→Bool
 | [],[]=>true
 | (i,x)::ps,(j,y)::qs=>i==j&&uP num x y&&cD num ps qs
 | _,_=>false
def aV (P:Program):Nat→List Bool→List Field→Bool
 | _,[],[]=>true
 | i,k::ks,f::fs=>f.name != "_"&&f.offset==i&&(if k then qUj P f.type else qJq P f.type)&&aV P (i+1) ks fs
 | _,_,_=>false
def wX (P:Program) (num:Nat→Nat):MOp→Op→Bool
 | .mv y,op=>(match op with | .move x | .assign x=>uP num x y | _=>false)
 | .pick c a b,op=>(match op with | .pick c' a' b'=>uP num c' c&&uP num a' a&&uP num b' b | _=>false)
 | .alloc zero,op=>(match op with | .alloc t=>lJ P t zero | _=>false)
 | .box y,op=>(match op with | .box _ x=>uP num x y | _=>false)
 | .build zero parts,op=>(match op with
  | .build t ps=>lJ P t zero&&(match fieldsOf P t with
   | some fs=>fs.toList.all (fun f=>(P.info? f.type).isSome)&&aK P num fs ps.toList parts
   | none=>false)
  | _=>false)
 | .mkSl zero len parts,op=>(match op with
  | .buildSlice t l ps=>l==len&&(match bP P t with
   | some el=>lJ P el zero&&decide (0<zero.length)&&decide (len*zero.length≤2^24)&&cD num ps.toList parts
   | none=>false)
  | _=>false)
 | .load n ag y,op=>(match op with | .load t x=>uP num x y&&cQ P t n&&qCt P t==some ag&&(ag||n==1) | _=>false)
 | .store n y z,op=>(match op with | .store t x v=>uP num x y&&uP num v z&&cQ P t n | _=>false)
 | .nilck y,op=>(match op with | .nilCheck x=>uP num x y | _=>false)
 | .bin b y z,op=>(match op with | .binOp b' t x v _=>b==b'&&uP num x y&&uP num v z | _=>false)
 | .eqS neg ks y z,op=>(match op with
  | .binOp b t x v _=>(if neg then b==.neq else b==.eql)&&uP num x y&&uP num v z&&(match fieldsOf P t with
   | some fs=>aV P 0 ks fs.toList&&!P.stoodInHeld t&&!P.eqGuardType P.depth t
   | none=>false)
  | _=>false)
 | .eqB neg y z,op=>(match op with | .binOp b t x v _=>(if neg then b==.neq else b==.eql)&&uP num x y&&uP num v z&&qJq P t | _=>false)
 | .neNil y,op=>(match op with | .binOp .neq t x (.const .nilIface) _=>uP num x y&&qJp P t | _=>false)
 | .un u y,op=>(match op with | .unOp u' _ x=>u==u'&&uP num x y | _=>false)
 | .cvi k y,op=>(match op with | .convert s d x=>uP num x y&&(match P.underlying s,P.underlying d with | some _,some (.int k')=>k==k' | _,_=>false) | _=>false)
 | .cvs y,op=>(match op with | .convert s d x=>uP num x y&&qEr P d&&(match bP P s with | some el=>(match P.underlying el with | some (.int .u8)=>true | _=>false) | none=>false) | _=>false)
 | .mkS zero bytes l c,op=>(match op with
  | .makeSlice t l' c'=>uP num l' l&&uP num c' c&&(match bP P t with | some el=>lJ P el zero&&decide (0<zero.length)&&qDb P el bytes | none=>false)
  | _=>false)
 | .cut sz y lo hi,op=>(match op with
  | .slice t x l h none=>uP num x y&&qGn num l lo&&qGn num h hi&&(match bP P t with | some el=>cQ P el sz | none=>false)
  | _=>false)
 | .cutS y lo hi,op=>(match op with | .slice t x l h none=>uP num x y&&qGn num l lo&&qGn num h hi&&qEr P t | _=>false)
 | .fad off y,op=>(match op with
  | .fieldAddr s x f=>uP num x y&&(match fieldsOf P s with | some fs=>(match fs[f]? with | some g=>g.offset==off&&(match P.info? g.type with | some i=>i.size != 0 | none=>false) | none=>false) | none=>false)
  | _=>false)
 | .fld off n ag y,op=>(match op with
  | .field t x f=>uP num x y&&(match fieldsOf P t with | some fs=>(match fs[f]? with | some g=>g.offset==off&&cQ P g.type n&&qCt P g.type==some ag&&(ag||n==1) | none=>false) | none=>false)
  | _=>false)
 | .iad sz y z,op=>(match op with | .indexAddr t x i=>uP num x y&&uP num i z&&(match bP P t with | some el=>cQ P el sz | none=>false) | _=>false)
 | .idx y z,op=>(match op with | .index t x i=>uP num x y&&uP num i z&&qEr P t | _=>false)
 | .ext y i,op=>(match op with | .extract x j=>uP num x y&&i==j | _=>false)
 | .len y,op=>(match op with | .call {callee:=.builtin .len,args,argTypes}=>(match args.toList,argTypes[0]? with | [x],some t=>uP num x y&&(bP P t).isSome | _,_=>false) | _=>false)
 | .lenS y,op=>(match op with | .call {callee:=.builtin .len,args,argTypes}=>(match args.toList,argTypes[0]? with | [x],some t=>uP num x y&&qEr P t | _,_=>false) | _=>false)
 | .mx y z,op=>(match op with | .call {callee:=.builtin .max,args,argTypes}=>(match args.toList with | [x,v]=>uP num x y&&uP num v z | _=>false) | _=>false)
 | .app sz bytes y z,op=>(match op with
  | .call {callee:=.builtin .append,args,argTypes}=>(match args.toList,argTypes[0]?,argTypes[1]? with
   | [x,v],some t,some u=>uP num x y&&uP num v z&&(bP P u).isSome&&(match bP P t with | some el=>cQ P el sz&&qDb P el bytes&&(match P.info? el with | some i=>(match i.zero with | some z=>z.cells.size==sz | none=>false) | none=>false) | none=>false)
   | _,_,_=>false)
  | _=>false)
 | .clr zero y,op=>(match op with | .call {callee:=.builtin .clear,args,argTypes}=>(match args.toList,argTypes[0]? with | [x],some t=>uP num x y&&(match bP P t with | some el=>lJ P el zero | none=>false) | _,_=>false) | _=>false)
 | .call g _ ys,op=>(match op with | .call {callee:=.value (.func f),args,argTypes}=>f==num g&&qC9 num args.toList ys | _=>false)
 | .calv y ys,op=>(match op with | .call {callee:=.value x,args,argTypes}=>uP num x y&&qC9 num args.toList ys | _=>false)
def tQ (P:Program) (num:Nat→Nat) (ops:Array Oper) (m:yA) (o:Oper):Bool :=
 o.dst==m.dst&&wX P num m.op o.op &&
 (match o.guard,m.guard with
 | none,none=>true
 | some (j,w),some (t,w')=>w==w'&&(ops[j]?).bind (·.dst)==some t
 | _,_=>false)
def iZ (P:Program) (num:Nat→Nat) (ops:Array Oper):List yA→List Oper→Bool
 | [],[]=>true
 | m::ms,o::os=>tQ P num ops m o&&iZ P num ops ms os
 | _,_=>false
end Go.Sep
namespace Go.Sep
set_option linter.unusedVariables false
set_option linter.unusedSimpArgs false
section
variable {P:Program} {num:Nat→Nat} {o:Oper} {ρ:Nat→AV} {h:wT} {nx nx':Nat} {p:Prop} {v:AV} {fp:FP}
theorem zV {v':AV} {n:Nat} (hp:ok v' n=some (p,v,fp,nx')):v=v'∧fp=[]:=by
 simp [ok] at hp
 exact ⟨hp.2.1.symm,hp.2.2.1⟩
theorem yZ {m:MOp} (h :∀(e:Env) (a:Act),e.num=num→(∀t,RV e (ρ t) (a.tmps.getD t undef) [])→∃v',(∀w,(execOp a.eval o).run P w=.ok (.value v') w)∧RV e v v' []) :
  aM P num o ρ v []:=by
 refine Tri.of_read (by simp) ?_
 intro e L0 H Lf a hn hk _ ht
 obtain ⟨v',h1,h2⟩:=h e a hn ht
 exact ⟨v',fun w _=>h1 w,h2⟩
theorem qTh {x:Arg} (hc:wX P num (.mv x) o.op=true) (hp:wO ρ h nx (.mv x)=some (p,v,fp,nx')):aM P num o ρ v fp:=by
 simp only [wO] at hp
 obtain ⟨rfl,rfl⟩:=zV hp
 refine yZ (m:=.mv x) ?_
 intro e a hn ht
 subst hn
 simp only [wX] at hc
 split at hc
 ·rename_i y hop
  exact ⟨a.eval y,fun w=>by simp [execOp,hop],yD ht hc⟩
 ·rename_i y hop
  exact ⟨a.eval y,fun w=>by simp [execOp,hop],yD ht hc⟩
 ·simp at hc
theorem xO {e:Env} {k:IntKind} {n:Int} {c:Value} {L:List Nat} (h:RV e (.int k n) c L):c=.int k n:=by simp only [RV] at h; exact h.1
theorem fW {e:Env} {b:Bool} {c:Value} {L:List Nat} (h:RV e (.bool b) c L):c=.bool b:=by simp only [RV] at h; exact h.1
theorem qFx {e:Env} {s:ByteArray} {c:Value} {L:List Nat} (h:RV e (.str s) c L):c=.string s:=by simp only [RV] at h; exact h.1
theorem qKo {c x y:Arg} (hc:wX P num (.pick c x y) o.op=true) (hp:wO ρ h nx (.pick c x y)=some (p,v,fp,nx')):aM P num o ρ v fp:=by
 simp only [wX] at hc
 split at hc
 ·rename_i c' a' b' hop
  simp only [qZu] at hc
  obtain ⟨⟨h1,h2⟩,h3⟩:=hc
  simp only [wO] at hp
  split at hp
  ·rename_i q hq
   have hv:fp=[]∧v=(bif q then x.ev ρ else y.ev ρ):=by
    split at hp
    ·rename_i a b ha hb
     obtain ⟨rfl,rfl⟩:=zV hp
     rw [ha,hb]
     cases q<;>simp
    ·obtain ⟨rfl,rfl⟩:=zV hp
     exact ⟨rfl,rfl⟩
   obtain ⟨rfl,rfl⟩:=hv
   refine yZ (m:=.mv x) ?_
   intro e a hn ht
   subst hn
   have e1:=yD (ρ:=ρ) ht h1
   rw [hq] at e1
   have e1:=fW e1
   refine ⟨if q then a.eval a' else a.eval b',?_,?_⟩
   ·intro w; simp only [execOp,hop,Sem.run_bind,Sem.run_pure,asBool,e1,Result.andThen_ok]
   ·cases q
    ·exact yD ht h3
    ·exact yD ht h2
  ·simp at hp
 ·simp at hc
theorem iK {nm:Nat} {row:Row} (h :∀(e:Env) (L0:List Nat) (H:Nat→Option Row) (Lf:Nat→List Nat) (a:Act),e.num=num→Ok e L0 H Lf→uT e nm row (Lf nm)→(∀t,RV e (ρ t) (a.tmps.getD t undef) [])→
  ∃v',(∀w,(execOp a.eval o).run P w=.ok (.value v') w)∧RV e v v' []):aM P num o ρ v [(nm,some row,some row)]:=by
 refine Tri.of_read (by simp) ?_
 intro e L0 H Lf a hn hk hpre ht
 have:=hpre (nm,some row,some row) (by simp)
 obtain ⟨v',h1,h2⟩:=h e L0 H Lf a hn hk (hk.rh.row nm row this) ht
 exact ⟨v',fun w _=>h1 w,h2⟩
theorem pS {e:Env} {nm i f:Nat} {row:Row} {L L':List Nat} {c:Value} (hr:uT e nm row L) (h:RV e (.ptr nm i f) c L') :
  ∃p,e.φ nm=.at p∧c=.pointer (some ⟨p.block,p.off+i*p.sz+f,none⟩):=by
 simp only [RV] at h
 obtain ⟨_,h⟩:=h
 unfold uT gF at hr
 cases hq:e.φ nm with
 | dead=>rw [hq] at hr; exact hr.elim
 | nilp=>rw [hq] at h; exact h.elim
 | «at» p=>rw [hq] at h; exact ⟨p,rfl,h⟩
theorem qFy {e:Env} {nm i f:Nat} {p:qG0} (hq:e.φ nm=.at p):RV e (.ptr nm i f) (.pointer (some ⟨p.block,p.off+i*p.sz+f,none⟩)) []:=by
 simp only [RV,hq,and_self]
theorem qGu {x:Arg} (hc:wX P num (.nilck x) o.op=true) (hp:wO ρ h nx (.nilck x)=some (p,v,fp,nx')):aM P num o ρ v fp:=by
 simp only [wX] at hc
 split at hc
 ·rename_i y hop
  simp only [wO] at hp
  split at hp
  ·rename_i nm i f hx
   cases hl:qN h nm with
   | none=>simp [hl] at hp
   | some row =>
    simp [hl] at hp
    obtain ⟨_,rfl,rfl,_⟩:=hp
    refine iK ?_
    intro e L0 H Lf a hn hk hr ht
    subst hn
    have h1:=yD (ρ:=ρ) ht hc
    rw [hx] at h1
    obtain ⟨q,hq,h2⟩:=pS hr h1
    exact ⟨_,fun w=>by simp [execOp,hop,h2],qFy hq⟩
  ·rename_i m cs f hx
   obtain ⟨rfl,rfl⟩:=zV hp
   refine yZ (m:=.mv x) ?_
   intro e a hn ht
   subst hn
   have h1:=yD (ρ:=ρ) ht hc
   rw [hx] at h1
   have h2:=h1
   simp only [RV] at h2
   obtain ⟨_,b,o',vs,h2,_⟩:=h2
   exact ⟨_,fun w=>by simp [execOp,hop,h2],h2▸h1⟩
  ·simp at hp
 ·simp at hc
theorem gY {t:TypeId} {n:Nat} (h:cQ P t n=true) :∃i,P.info? t=some i∧i.size=n:=by
 simp [cQ] at h
 exact h
theorem tS {t:TypeId} {n:Nat} (h:qDb P t n=true) :∃i,P.info? t=some i∧i.bytes=n:=by
 simp [qDb] at h
 exact h
theorem dC {t el:TypeId} (h:bP P t=some el):P.underlying t=some (.slice el):=by
 unfold bP at h
 split at h
 ·simp at h; subst h; assumption
 ·simp at h
theorem xE {t:TypeId} {fs:Array Field} (h:fieldsOf P t=some fs):P.underlying t=some (.struct fs):=by
 unfold fieldsOf at h
 split at h
 ·simp at h; subst h; assumption
 ·simp at h
theorem rA {t:TypeId} (h:qEr P t=true):P.underlying t=some .string:=by
 unfold qEr at h
 split at h
 ·assumption
 ·simp at h
theorem nG {t:TypeId} (h:qJq P t=true):P.underlying t=some .bool:=by
 unfold qJq at h
 split at h
 ·assumption
 ·simp at h
theorem qBo {w:World} {s:TypeId} {f b o':Nat} {fs:Array Field} {g:Field} {i:TypeInfo} (h1:P.underlying s=some (.struct fs)) (h2:fs[f]?=some g) (h3:P.info? g.type=some i) (h4:i.size≠0) :
  (Instr.fieldAt s (.pointer (some ⟨b,o',none⟩)) f).run P w=.ok (.pointer (some ⟨b,o'+g.offset,none⟩)) w:=by
 simp [Instr.fieldAt,wK h1,h2,Instr.sureAddr,fieldPlace,uG h3,h4,eT]
theorem qPb {off:Nat} {x:Arg} (hc:wX P num (.fad off x) o.op=true) (hp:wO ρ h nx (.fad off x)=some (p,v,fp,nx')):aM P num o ρ v fp:=by
 simp only [wX] at hc
 split at hc
 ·rename_i s y f hop
  simp only [qZu] at hc
  obtain ⟨hc,h5⟩:=hc
  cases hfs:fieldsOf P s with
  | none=>simp [hfs] at h5
  | some fs =>
   simp only [hfs] at h5
   cases hg:fs[f]? with
   | none=>simp [hg] at h5
   | some g =>
    simp only [hg,qZu,beq_iff_eq] at h5
    obtain ⟨h6,h7⟩:=h5
    cases hi:P.info? g.type with
    | none=>simp [hi] at h7
    | some i =>
     simp only [hi,bne_iff_ne,ne_eq] at h7
     simp only [wO] at hp
     split at hp
     ·rename_i nm i' f' hx
      cases hl:qN h nm with
      | none=>simp [hl] at hp
      | some row =>
       simp [hl] at hp
       obtain ⟨_,rfl,rfl,_⟩:=hp
       refine iK ?_
       intro e L0 H Lf a hn hk hr ht
       subst hn
       have h1:=yD (ρ:=ρ) ht hc
       rw [hx] at h1
       obtain ⟨q,hq,h2⟩:=pS hr h1
       refine ⟨_,?_,qFy hq⟩
       intro w
       simp only [execOp,hop,h2,Sem.run_bind,qBo (xE hfs) hg hi h7,Result.andThen_ok,Sem.run_pure,h6]
       rw [qZv]
     ·rename_i m cs f' hx
      obtain ⟨rfl,rfl⟩:=zV hp
      refine yZ (m:=.mv x) ?_
      intro e a hn ht
      subst hn
      have h1:=yD (ρ:=ρ) ht hc
      rw [hx] at h1
      simp only [RV] at h1⊢
      obtain ⟨_,b,o',vs,h2,h3⟩:=h1
      refine ⟨.pointer (some ⟨b,o'+f'+off,none⟩),?_,trivial,b,o',vs,by rw [qZv],h3⟩
      intro w
      simp only [execOp,hop,h2,Sem.run_bind,qBo (xE hfs) hg hi h7,Result.andThen_ok,Sem.run_pure,h6]
     ·simp at hp
 ·simp at hc
theorem qTf {u:UnOp} {x:Arg} (hc:wX P num (.un u x) o.op=true) (hp:wO ρ h nx (.un u x)=some (p,v,fp,nx')):aM P num o ρ v fp:=by
 simp only [wX] at hc
 split at hc
 ·rename_i u' t y hop
  simp only [qZu,beq_iff_eq] at hc
  obtain ⟨rfl,hc⟩:=hc
  simp only [wO] at hp
  split at hp
  ·rename_i b hx
   obtain ⟨rfl,rfl⟩:=zV hp
   refine yZ (m:=.mv x) ?_
   intro e a hn ht
   subst hn
   have h1:=yD (ρ:=ρ) ht hc
   rw [hx] at h1
   exact ⟨.bool !b,fun w=>by simp [execOp,hop,fW h1,Op.unary],by simp [RV]⟩
  ·rename_i k n hx
   obtain ⟨rfl,rfl⟩:=zV hp
   refine yZ (m:=.mv x) ?_
   intro e a hn ht
   subst hn
   have h1:=yD (ρ:=ρ) ht hc
   rw [hx] at h1
   exact ⟨.int k (k.wrap (0-n)),fun w=>by simp [execOp,hop,xO h1,Op.unary,Op.intArith],by simp [RV]⟩
  ·simp at hp
 ·simp at hc
theorem qPg {k:IntKind} {x:Arg} (hc:wX P num (.cvi k x) o.op=true) (hp:wO ρ h nx (.cvi k x)=some (p,v,fp,nx')):aM P num o ρ v fp:=by
 simp only [wX] at hc
 split at hc
 ·rename_i s d y hop
  simp only [qZu] at hc
  obtain ⟨hc,h5⟩:=hc
  split at h5
  ·rename_i ds k' hs hd
   simp only [beq_iff_eq] at h5
   subst h5
   simp only [wO] at hp
   split at hp
   ·rename_i k2 n hx
    obtain ⟨rfl,rfl⟩:=zV hp
    refine yZ (m:=.mv x) ?_
    intro e a hn ht
    subst hn
    have h1:=yD (ρ:=ρ) ht hc
    rw [hx] at h1
    exact ⟨.int k (k.wrap n),fun w=>by simp [execOp,hop,xO h1,convert,wK hs,wK hd,Conv.intToInt],by simp [RV]⟩
   ·simp at hp
  ·simp at h5
 ·simp at hc
theorem qPc {x:Arg} {i:Nat} (hc:wX P num (.ext x i) o.op=true) (hp:wO ρ h nx (.ext x i)=some (p,v,fp,nx')) (hpp:p):aM P num o ρ v fp:=by
 simp only [wX] at hc
 split at hc
 ·rename_i y j hop
  simp only [qZu,beq_iff_eq] at hc
  obtain ⟨hc,rfl⟩:=hc
  simp only [wO] at hp
  split at hp
  ·rename_i vs hx
   simp only [Option.some.injEq,Prod.mk.injEq] at hp
   obtain ⟨rfl,rfl,rfl,_⟩:=hp
   refine yZ (m:=.mv x) ?_
   intro e a hn ht
   subst hn
   have h1:=yD (ρ:=ρ) ht hc
   rw [hx] at h1
   simp only [RV] at h1
   obtain ⟨cs,h1,h2⟩:=h1
   obtain ⟨c,h3,h4⟩:=eP h2 i hpp
   refine ⟨c,fun w=>by simp [execOp,hop,h1,Instr.extract,h3],?_⟩
   simpa [qZw,hpp] using h4
  ·simp at hp
 ·simp at hc
theorem qKp {x:Arg} (hc:wX P num (.lenS x) o.op=true) (hp:wO ρ h nx (.lenS x)=some (p,v,fp,nx')):aM P num o ρ v fp:=by
 simp only [wX] at hc
 split at hc
 ·rename_i args tys hop
  split at hc
  ·rename_i y t ha htys
   simp only [qZu] at hc
   obtain ⟨hc,hs⟩:=hc
   simp only [wO] at hp
   split at hp
   ·rename_i s hx
    obtain ⟨rfl,rfl⟩:=zV hp
    refine yZ (m:=.mv x) ?_
    intro e a hn ht
    subst hn
    have h1:=yD (ρ:=ρ) ht hc
    rw [hx] at h1
    have hargs:args = #[y]:=Array.toList_inj.1 ha
    subst hargs
    exact ⟨.int .i64 s.size,fun w=>by simp [execOp,hop,resolve,invoke,builtin,Builtin.len_,htys,wK (rA hs),qFx h1,goInt],by simp [RV]⟩
   ·simp at hp
  ·simp at hc
 ·simp at hc
theorem qP7 {x:Arg} (hc:wX P num (.len x) o.op=true) (hp:wO ρ h nx (.len x)=some (p,v,fp,nx')):aM P num o ρ v fp:=by
 simp only [wX] at hc
 split at hc
 ·rename_i args tys hop
  split at hc
  ·rename_i y t ha htys
   simp only [qZu] at hc
   obtain ⟨hc,hs⟩:=hc
   obtain ⟨el,hel⟩:=Option.isSome_iff_exists.1 hs
   have hargs:args = #[y]:=Array.toList_inj.1 ha
   subst hargs
   have key :∀(a:Act) (w:World) (A:Option Addr) (l c:Nat),a.eval y=.slice A l c→(execOp a.eval o).run P w=.ok (.value (.int .i64 l)) w:=by
    intro a w A l c hv
    simp [execOp,hop,resolve,invoke,builtin,Builtin.len_,htys,wK (dC hel),hv,goInt]
   simp only [wO] at hp
   split at hp
   ·rename_i hx
    obtain ⟨rfl,rfl⟩:=zV hp
    refine yZ (m:=.mv x) ?_
    intro e a hn ht
    subst hn
    have h1:=yD (ρ:=ρ) ht hc
    rw [hx] at h1
    simp only [RV] at h1
    exact ⟨.int .i64 0,fun w=>key a w _ _ _ h1.1,by simp [RV]⟩
   ·rename_i nm off l hx
    cases hl:qN h nm with
    | none=>simp [hl] at hp
    | some row =>
     simp only [hl,qZx,Option.some.injEq,Prod.mk.injEq] at hp
     obtain ⟨_,rfl,rfl,_⟩:=hp
     refine iK ?_
     intro e L0 H Lf a hn hk hr ht
     subst hn
     have h1:=yD (ρ:=ρ) ht hc
     rw [hx] at h1
     simp only [RV] at h1
     obtain ⟨_,h1⟩:=h1
     unfold uT gF at hr
     cases hq:e.φ nm with
     | dead=>rw [hq] at hr; exact hr.elim
     | nilp =>
      rw [hq] at h1
      obtain ⟨_,h2,_,h3⟩:=h1
      subst h2
      exact ⟨.int .i64 0,fun w=>key a w _ _ _ h3,by simp [RV]⟩
     | «at» q =>
      rw [hq] at h1
      obtain ⟨_,A,h3,_⟩:=h1
      exact ⟨.int .i64 l,fun w=>key a w _ _ _ h3,by simp [RV]⟩
   ·rename_i sz rows hx
    obtain ⟨rfl,rfl⟩:=zV hp
    refine yZ (m:=.mv x) ?_
    intro e a hn ht
    subst hn
    have h1:=yD (ρ:=ρ) ht hc
    rw [hx] at h1
    simp only [RV] at h1
    refine ⟨.int .i64 rows.length,?_,by simp [RV]⟩
    rcases h1.2 with ⟨rfl,A,c,h2,_⟩ | ⟨b,o',c,h2,_⟩
    ·exact fun w=>key a w _ _ _ h2
    ·exact fun w=>key a w _ _ _ h2
   ·rename_i sz rows hx
    obtain ⟨rfl,rfl⟩:=zV hp
    refine yZ (m:=.mv x) ?_
    intro e a hn ht
    subst hn
    have h1:=yD (ρ:=ρ) ht hc
    rw [hx] at h1
    simp only [RV] at h1
    refine ⟨.int .i64 rows.length,?_,by simp [RV]⟩
    rcases h1.2 with ⟨rfl,A,c,h2,_⟩ | ⟨b,o',c,h2,_⟩
    ·exact fun w=>key a w _ _ _ h2
    ·exact fun w=>key a w _ _ _ h2
   ·simp at hp
  ·simp at hc
 ·simp at hc
theorem qTg {x z:Arg} (hc:wX P num (.mx x z) o.op=true) (hp:wO ρ h nx (.mx x z)=some (p,v,fp,nx')):aM P num o ρ v fp:=by
 simp only [wX] at hc
 split at hc
 ·rename_i args tys hop
  split at hc
  ·rename_i y u ha
   simp only [qZu] at hc
   obtain ⟨hc,hs⟩:=hc
   have hargs:args = #[y,u]:=Array.toList_inj.1 ha
   subst hargs
   simp only [wO] at hp
   split at hp
   ·rename_i k m k' n hx hz
    split at hp
    ·rename_i hk
     subst hk
     obtain ⟨rfl,rfl⟩:=zV hp
     refine yZ (m:=.mv x) ?_
     intro e a hn ht
     subst hn
     have h1:=yD (ρ:=ρ) ht hc
     rw [hx] at h1
     have h2:=yD (ρ:=ρ) ht hs
     rw [hz] at h2
     exact ⟨.int k (if n>m then n else m),fun w=>by simp [execOp,hop,resolve,invoke,builtin,Builtin.max_,Builtin.max2,xO h1,xO h2],by simp [RV]⟩
    ·simp at hp
   ·simp at hp
  ·simp at hc
 ·simp at hc
theorem qP8 {x z:Arg} (hc:wX P num (.idx x z) o.op=true) (hp:wO ρ h nx (.idx x z)=some (p,v,fp,nx')) (hpp:p):aM P num o ρ v fp:=by
 simp only [wX] at hc
 split at hc
 ·rename_i t y u hop
  simp only [qZu] at hc
  obtain ⟨⟨h1,h2⟩,h3⟩:=hc
  simp only [wO] at hp
  split at hp
  ·rename_i s k j hx hz
   simp only [Option.some.injEq,Prod.mk.injEq] at hp
   obtain ⟨rfl,rfl,rfl,_⟩:=hp
   obtain ⟨p1,p2⟩:=hpp
   refine yZ (m:=.mv x) ?_
   intro e a hn ht
   subst hn
   have g1:=yD (ρ:=ρ) ht h1
   rw [hx] at g1
   have g2:=yD (ρ:=ρ) ht h2
   rw [hz] at g2
   have hj:j.toNat<s.size:=by omega
   have hs:s[j.toNat]?=some s[j.toNat]:=by simp [hj]
   refine ⟨.int .u8 ((s.data.getD j.toNat 0).toNat:Nat),?_,by simp [RV]⟩
   have hd:s.data.getD j.toNat 0=s[j.toNat]:=by
    unfold Array.getD
    rw [dif_pos (show j.toNat<s.data.size from hj)]
    rfl
   rw [hd]
   intro w
   simp [execOp,hop,qFx g1,xO g2,Instr.index,asIntOf,wK (rA h3),p1,hs]
  ·simp at hp
 ·simp at hc
theorem qPe {neg:Bool} {x z:Arg} (hc:wX P num (.eqB neg x z) o.op=true) (hp:wO ρ h nx (.eqB neg x z)=some (p,v,fp,nx')):aM P num o ρ v fp:=by
 simp only [wX] at hc
 split at hc
 ·rename_i b t y u _ hop
  simp only [qZu] at hc
  obtain ⟨⟨⟨h0,h1⟩,h2⟩,h3⟩:=hc
  simp only [wO] at hp
  split at hp
  ·rename_i c d hx hz
   obtain ⟨rfl,rfl⟩:=zV hp
   refine yZ (m:=.mv x) ?_
   intro e a hn ht
   subst hn
   have g1:=yD (ρ:=ρ) ht h1
   rw [hx] at g1
   have g2:=yD (ρ:=ρ) ht h2
   rw [hz] at g2
   refine ⟨.bool (if neg then !(c==d) else c==d),?_,by simp [RV]⟩
   have he :∀w,(Op.equal t (.bool c) (.bool d)).run P w=.ok (c==d) w:=by
    intro w
    unfold Op.equal Op.maxDepth Op.equalIn
    simp [wK (nG h3)]
   intro w
   cases neg
   ·simp at h0
    subst h0
    simp [execOp,hop,fW g1,fW g2,eqGuard,binOp,he]
   ·simp at h0
    subst h0
    simp [execOp,hop,fW g1,fW g2,eqGuard,binOp,he]
  ·simp at hp
 ·simp at hc
theorem qJo {t:TypeId} (h:qJp P t=true) :∃ms,P.underlying t=some (.interface ms):=by
 unfold qJp at h
 split at h
 ·exact ⟨_,by assumption⟩
 ·simp at h
theorem qGv {x:Arg} (hc:wX P num (.neNil x) o.op=true) (hp:wO ρ h nx (.neNil x)=some (p,v,fp,nx')):aM P num o ρ v fp:=by
 simp only [wX] at hc
 split at hc
 ·rename_i t y _ hop
  simp only [qZu] at hc
  obtain ⟨h1,h3⟩:=hc
  obtain ⟨ms,h3⟩:=qJo h3
  simp only [wO] at hp
  split at hp
  ·rename_i hx
   obtain ⟨rfl,rfl⟩:=zV hp
   refine yZ (m:=.mv x) ?_
   intro e a hn ht
   subst hn
   have g1:=yD (ρ:=ρ) ht h1
   rw [hx] at g1
   simp only [RV] at g1
   refine ⟨.bool false,?_,by simp [RV]⟩
   have he :∀w,(Op.equal t .nilIface .nilIface).run P w=.ok true w:=by
    intro w
    unfold Op.equal Op.maxDepth Op.equalIn
    simp [wK h3]
   have hk:a.eval (.const .nilIface)=.nilIface:=rfl
   intro w
   simp [execOp,hop,g1.1,hk,eqGuard,binOp,he]
  ·rename_i hx
   obtain ⟨rfl,rfl⟩:=zV hp
   refine yZ (m:=.mv x) ?_
   intro e a hn ht
   subst hn
   have g1:=yD (ρ:=ρ) ht h1
   rw [hx] at g1
   simp only [RV] at g1
   obtain ⟨⟨t',u',g1⟩,_⟩:=g1
   refine ⟨.bool true,?_,by simp [RV]⟩
   have he :∀w,(Op.equal t (.iface t' u') .nilIface).run P w=.ok false w:=by
    intro w
    unfold Op.equal Op.maxDepth Op.equalIn
    simp [wK h3]
   have hk:a.eval (.const .nilIface)=.nilIface:=rfl
   intro w
   simp [execOp,hop,g1,hk,eqGuard,binOp,he]
  ·simp at hp
 ·simp at hc
end
end Go.Sep
namespace Go.Sep
set_option linter.unusedVariables false
set_option linter.unusedSimpArgs false
section
variable {P:Program} {num:Nat→Nat} {o:Oper} {ρ:Nat→AV} {h:wT} {nx nx':Nat} {p:Prop} {v:AV} {fp:FP}
def vOf:AV→Value
 | .int k n=>.int k n
 | .bool b=>.bool b
 | .str s=>.string s
 | _=>undef
theorem qDx {w:World} {op:BinOp} {t:TypeId} {k k':IntKind} {a b:Int} {v:AV} (h:qBa op (.int k a) (.int k' b)=some (p,v)) (hp:p) :
  (binOp op t (.int k a) (.int k' b)).run P w=.ok (vOf v) w∧∀e,RV e v (vOf v) []:=by
 by_cases hk:k=k'
 case neg =>
  simp only [qBa,if_neg hk,qDu] at h
  cases op<;>simp only [Option.some.injEq,Prod.mk.injEq,reduceCtorEq] at h<;>obtain ⟨hq,rfl⟩:=h<;>refine ⟨?_,fun e=>by simp only [vOf,RV,and_self]⟩
  case shl=>subst hq; simp [vOf,binOp,Op.shift,qSw,qMz,show¬b<0 by omega]
  case shr=>subst hq; simp [vOf,binOp,Op.shift,qSw,qMz,show¬b<0 by omega]
 subst hk
 simp only [qBa,if_true] at h
 cases op<;>simp only [Option.some.injEq,Prod.mk.injEq,reduceCtorEq] at h<;>obtain ⟨hq,rfl⟩:=h<;>refine ⟨?_,fun e=>by simp only [vOf,RV,and_self]⟩
 case quo=>subst hq; simp [vOf,binOp,Op.intDiv,show¬b=0 from hp]
 case rem=>subst hq; simp [vOf,binOp,Op.intDiv,show¬b=0 from hp]
 case shl=>subst hq; simp [vOf,binOp,Op.shift,qSw,qMz,show¬b<0 by omega]
 case shr=>subst hq; simp [vOf,binOp,Op.shift,qSw,qMz,show¬b<0 by omega]
 case eql=>simp [vOf,binOp,Op.intCmp]; rfl
 case neq=>simp [vOf,binOp,Op.intCmp]; rfl
 all_goals simp [vOf,binOp,Op.intArith,Op.intBits,Op.intCmp,qN0,bOr,qYk]
theorem toList_eq {a b:ByteArray}:(a.toList==b.toList)=decide (a=b):=by
 rw [Bool.eq_iff_iff]
 simp only [beq_iff_eq,decide_eq_true_eq]
 constructor
 ·intro h
  rw [Go.ByteArray.toList_eq,Go.ByteArray.toList_eq] at h
  have:=Array.toList_inj.1 h
  cases a; cases b; simp_all
 ·intro h; rw [h]
theorem qDw {w:World} {op:BinOp} {t:TypeId} {a b:ByteArray} {v:AV} (h:qBa op (.str a) (.str b)=some (p,v)) (hp:p) :
  (binOp op t (.string a) (.string b)).run P w=.ok (vOf v) w∧∀e,RV e v (vOf v) []:=by
 simp only [qBa] at h
 cases op<;>simp only [Option.some.injEq,Prod.mk.injEq,reduceCtorEq] at h<;>obtain ⟨hq,rfl⟩:=h<;>refine ⟨?_,fun e=>by simp only [vOf,RV,and_self]⟩
 case add =>
  subst hq
  have :¬(((a.size+b.size:Nat):Int)>IntKind.i64.max):=by
   have:IntKind.i64.max=9223372036854775807:=by decide
   rw [this]; omega
  simp only [binOp,Op.stringOp,if_neg this,Sem.run_pure,vOf]
 case eql=>simp only [binOp,Op.stringOp,toList_eq,Sem.run_pure,vOf]
 case neq=>simp only [binOp,Op.stringOp,toList_eq,Sem.run_pure,vOf]
theorem qOz {op:BinOp} {x y v:AV} (h:qBa op x y=some (p,v)):(∃k k' a b,x=.int k a∧y=.int k' b)∨∃a b,x=.str a∧y=.str b:=by
 unfold qBa at h
 split at h
 ·exact .inl ⟨_,_,_,_,rfl,rfl⟩
 ·exact .inr ⟨_,_,rfl,rfl⟩
 ·simp at h
theorem qPi {b:BinOp} {x z:Arg} (hc:wX P num (.bin b x z) o.op=true) (hp:wO ρ h nx (.bin b x z)=some (p,v,fp,nx')) (hpp:p):aM P num o ρ v fp:=by
 simp only [wX] at hc
 split at hc
 ·rename_i b' t y u _ hop
  simp only [qZu,beq_iff_eq] at hc
  obtain ⟨⟨rfl,h1⟩,h2⟩:=hc
  simp only [wO] at hp
  cases hb:qBa b (x.ev ρ) (z.ev ρ) with
  | none=>simp [hb] at hp
  | some r =>
   obtain ⟨q,r⟩:=r
   simp only [hb,qZx,Option.some.injEq,Prod.mk.injEq] at hp
   obtain ⟨rfl,rfl,rfl,_⟩:=hp
   refine yZ (m:=.mv x) ?_
   intro e a hn ht
   subst hn
   have g1:=yD (ρ:=ρ) ht h1
   have g2:=yD (ρ:=ρ) ht h2
   rcases qOz hb with ⟨k,k',m,n,e1,e2⟩ | ⟨m,n,e1,e2⟩
   ·rw [e1,e2] at hb
    rw [e1] at g1; rw [e2] at g2
    have hr:=fun w=>(qDx (P:=P) (w:=w) (t:=t) hb hpp).1
    have hv:=(qDx (P:=P) (w:=e.w) (t:=t) hb hpp).2
    refine ⟨_,?_,hv e⟩
    intro w
    simp only [execOp,hop,xO g1,xO g2,eqGuard,Sem.run_bind]
    cases b<;>simp [hr]
   ·rw [e1,e2] at hb
    rw [e1] at g1; rw [e2] at g2
    have hr:=fun w=>(qDw (P:=P) (w:=w) (t:=t) hb hpp).1
    have hv:=(qDw (P:=P) (w:=e.w) (t:=t) hb hpp).2
    refine ⟨_,?_,hv e⟩
    intro w
    simp only [execOp,hop,qFx g1,qFx g2,eqGuard,Sem.run_bind]
    cases b<;>simp [hr]
 ·simp at hc
theorem mE {w:World} {k:IntKind} {n:Int} {y:Nat} {c:BoundsCode} (h:0≤n∧n≤y):(Instr.sliceBound (.int k n) y c).run P w=.ok n.toNat w:=by
 simp [Instr.sliceBound,asIntOf,h]
theorem lR {e:Env} {a:Act} {w:World} {isS:Bool} {len cap:Nat} {lo hi:Option Arg} {lo' hi':Option Operand} {l m:Int}
  (ht :∀t,RV e (ρ t) (a.tmps.getD t undef) []) (h1:qGn e.num lo' lo=true) (h2:qGn e.num hi' hi=true) (hl:xY ρ 0 lo=some l) (hh:xY ρ len hi=some m)
  (b1:0≤l) (b2:l≤m) (b3:m≤len) (b4:len≤cap) :
  (Instr.sliceBounds isS len cap (lo'.map a.eval) (hi'.map a.eval) none).run P w=.ok (l.toNat,m.toNat,cap) w:=by
 have key :∀{x:Option Arg} {x':Option Operand} {d:Int} {n:Int},qGn e.num x' x=true→xY ρ d x=some n→(x'=none∧n=d)∨∃y k,x'=some y∧a.eval y=.int k n:=by
  intro x x' d n hc hb
  cases x with
  | none =>
   cases x' with
   | none=>simp [xY] at hb; exact .inl ⟨rfl,hb.symm⟩
   | some y=>simp [qGn] at hc
  | some z =>
   cases x' with
   | none=>simp [qGn] at hc
   | some y =>
    simp only [qGn] at hc
    simp only [xY] at hb
    have g:=yD (ρ:=ρ) ht hc
    split at hb
    ·rename_i k q hq
     simp at hb
     subst hb
     rw [hq] at g
     exact .inr ⟨y,k,rfl,xO g⟩
    ·simp at hb
 have hlo :∀w',(match lo'.map a.eval with
   | some v=>Instr.sliceBound v m.toNat .sliceB
   | none=>pure 0).run P w'=.ok l.toNat w':=by
  intro w'
  rcases key h1 hl with ⟨rfl,h3⟩ | ⟨y,k,rfl,h3⟩
  ·simp [h3]
  ·simp only [qZx,h3]
   exact mE ⟨by omega,by omega⟩
 have hlo' :∀w',(match lo'.map a.eval with
   | some v=>do
    let l←Instr.sliceBound v m.toNat .sliceB
    pure (l,m.toNat,cap)
   | none=>do
    let l←pure 0
    pure (l,m.toNat,cap)).run P w'=.ok (l.toNat,m.toNat,cap) w':=by
  intro w'
  have:=hlo w'
  cases hx:lo'.map a.eval with
  | none=>rw [hx] at this; simp at this; simp [this]
  | some v=>rw [hx] at this; simp only at this; simp [this]
 unfold Instr.sliceBounds
 simp only [Sem.run_bind,Sem.run_pure,Result.andThen_ok,Option.isSome_none,qZq,if_false]
 rcases key h2 hh with ⟨rfl,h3⟩ | ⟨y,k,rfl,h3⟩
 ·subst h3
  simp only [qZy,Sem.run_bind,Sem.run_pure,Result.andThen_ok]
  exact hlo' w
 ·simp only [qZx,h3,Sem.run_bind]
  rw [mE ⟨by omega,by omega⟩]
  exact hlo' w
theorem qKq {x:Arg} {lo hi:Option Arg} (hc:wX P num (.cutS x lo hi) o.op=true) (hp:wO ρ h nx (.cutS x lo hi)=some (p,v,fp,nx')) (hpp:p):aM P num o ρ v fp:=by
 simp only [wX] at hc
 split at hc
 ·rename_i t y l' h' hop
  simp only [qZu] at hc
  obtain ⟨⟨⟨h1,h2⟩,h3⟩,h4⟩:=hc
  simp only [wO] at hp
  cases hl:xY ρ 0 lo with
  | none=>simp [hl] at hp
  | some l =>
   simp only [hl,qZz] at hp
   split at hp
   ·rename_i s hx
    cases hh:xY ρ s.size hi with
    | none=>simp [hh] at hp
    | some m =>
     simp only [hh,qZx,Option.some.injEq,Prod.mk.injEq] at hp
     obtain ⟨rfl,rfl,rfl,_⟩:=hp
     obtain ⟨p1,p2,p3⟩:=hpp
     refine yZ (m:=.mv x) ?_
     intro e a hn ht
     subst hn
     have g1:=yD (ρ:=ρ) ht h1
     rw [hx] at g1
     refine ⟨.string (s.extract l.toNat m.toNat),?_,by simp [RV]⟩
     intro w
     simp only [execOp,hop,qFx g1,Sem.run_bind,Instr.sliceAt,wK (rA h4),Result.andThen_ok,Instr.slice,qZy,Option.isSome_none,qZq,if_false]
     rw [lR (isS:=false) ht h2 h3 hl hh p1 p2 p3 (qZt _)]
     simp
   ·simp at hp
 ·simp at hc
end
end Go.Sep
namespace Go.Sep
set_option linter.unusedVariables false
set_option linter.unusedSimpArgs false
section
variable {P:Program} {num:Nat→Nat} {o:Oper} {ρ:Nat→AV} {h:wT} {nx nx':Nat} {p:Prop} {v:AV} {fp:FP}
theorem wY {a b:List Nat} (h:[]=a++b):a=[]∧b=[]:=by
 have:=h.symm
 simpa using this
theorem pN {e:Env} {cs:List AV} {vs:List Value} (n:Nat) (h:RVs e cs vs []):RVs e (cs.take n) (vs.take n) []∧RVs e (cs.drop n) (vs.drop n) []:=by
 have hl:=yP h
 by_cases hn:n≤cs.length
 ·rw [←wA0 n cs] at h
  obtain ⟨c1,c2,L1,L2,h1,h2,h3,h4⟩:=(uC _ _).1 h
  obtain ⟨rfl,rfl⟩:=wY h2
  have h5:=yP h3
  rw [qZn,qZj hn] at h5
  subst h1
  rw [wA1 h5,wA2 h5]
  exact ⟨h3,h4⟩
 ·rw [wA3 (by omega),wA3 (by omega),wA4 (by omega),wA4 (by omega)]
  exact ⟨h,by simp [RVs]⟩
theorem qFv {e:Env} {cs:List AV} {vs:List Value} (n:Nat) (h:RVs e cs vs []):RVs e (cs.take n) (vs.take n) []:=(pN n h).1
theorem qFw {e:Env} {cs:List AV} {vs:List Value} (n:Nat) (h:RVs e cs vs []):RVs e (cs.drop n) (vs.drop n) []:=(pN n h).2
theorem qTo {w:World} {t:TypeId} {cs:List Value} {off n:Nat} {ag:Bool} {i:TypeInfo} (hag:qCt P t=some ag) (hi:P.info? t=some i) (hn:i.size=n) (h1:ag=true∨n=1) (hl:off+n≤cs.length) :
  (part t cs.toArray off).run P w=.ok (if ag then .agg ((cs.drop off).take n).toArray else cs.getD off undef) w:=by
 subst hn
 unfold part
 simp only [Sem.run_bind,qA9 hag,Result.andThen_ok]
 cases ag with
 | true=>simp [uG hi]
 | false =>
  simp at h1
  have:off<cs.length:=by omega
  simp [this]
theorem qPa {off n:Nat} {ag:Bool} {x:Arg} (hc:wX P num (.fld off n ag x) o.op=true) (hp:wO ρ h nx (.fld off n ag x)=some (p,v,fp,nx')) (hpp:p):aM P num o ρ v fp:=by
 simp only [wX] at hc
 split at hc
 ·rename_i t y f hop
  simp only [qZu] at hc
  obtain ⟨hc,h5⟩:=hc
  cases hfs:fieldsOf P t with
  | none=>simp [hfs] at h5
  | some fs =>
   simp only [hfs] at h5
   cases hg:fs[f]? with
   | none=>simp [hg] at h5
   | some g =>
    simp only [hg,qZu,beq_iff_eq,wA5] at h5
    obtain ⟨⟨⟨h6,h7⟩,h8⟩,h9⟩:=h5
    obtain ⟨i,hi,hin⟩:=gY h7
    simp only [wO] at hp
    split at hp
    ·rename_i cs hx
     simp only [Option.some.injEq,Prod.mk.injEq] at hp
     obtain ⟨rfl,rfl,rfl,_⟩:=hp
     refine yZ (m:=.mv x) ?_
     intro e a hn ht
     subst hn
     have g1:=yD (ρ:=ρ) ht hc
     rw [hx] at g1
     simp only [RV] at g1
     obtain ⟨vs,g1,g2⟩:=g1
     have hl:=yP g2
     refine ⟨if ag then .agg ((vs.drop off).take n).toArray else vs.getD off undef,?_,?_⟩
     ·intro w
      simp only [execOp,hop,g1,Sem.run_bind,Instr.field,wK (xE hfs),Result.andThen_ok,hg,asAgg,Sem.run_pure]
      rw [h6,qTo h8 hi hin h9 (by omega)]
      rfl
     ·cases ag with
      | true =>
       simp only [if_true,RV]
       exact ⟨_,rfl,qFv n (qFw off g2)⟩
      | false =>
       simp at h9
       subst h9
       obtain ⟨c,h10,h11⟩:=eP g2 off (by omega)
       simp only [qZq,if_false]
       have e1:vs.getD off undef=c:=by simp [qZw,h10]
       have e2:cs.getD off .any=cs[off]'(by omega):=by
        have:off<cs.length:=by omega
        simp [qZw,this]
       rw [e1,e2]
       exact h11
    ·simp at hp
 ·simp at hc
theorem qFc {e:Env} {v:AV} {c:Value} {L:List Nat} (hv:yM v=true) (h:RV e v c L):c.oneCell'=true:=by
 cases v
 case sl m sz rows =>
  cases m<;>simp only [RV] at h
  ·rcases h with ⟨_,_,_,rfl⟩ | ⟨p,Lr,_,rfl,_⟩<;>rfl
  ·rcases h.2 with ⟨_,a,c,rfl,_⟩ | ⟨b,o,c,rfl,_⟩<;>rfl
  ·rcases h.2 with ⟨_,a,c,rfl,_⟩ | ⟨b,o,c,rfl,_⟩<;>rfl
 case any=>simp [yM] at hv
 case agg=>simp [yM] at hv
 case tup=>simp [yM] at hv
 all_goals simp only [RV] at h
 case int=>obtain ⟨rfl,_⟩:=h; rfl
 case bool=>obtain ⟨rfl,_⟩:=h; rfl
 case str=>obtain ⟨rfl,_⟩:=h; rfl
 case fn=>obtain ⟨vs,rfl,_⟩:=h; rfl
 case nilp=>obtain ⟨rfl,_⟩:=h; rfl
 case ptr nm i f =>
  obtain ⟨_,h⟩:=h
  cases hq:e.φ nm<;>rw [hq] at h
  ·obtain ⟨a,rfl⟩:=h; rfl
  ·exact h.elim
  ·subst h; rfl
 case fptr=>obtain ⟨_,b,o,vs,rfl,_⟩:=h; rfl
 case nil=>obtain ⟨rfl,_⟩:=h; rfl
 case nilI=>obtain ⟨rfl,_⟩:=h; rfl
 case ifc=>obtain ⟨⟨t,u,rfl⟩,_⟩:=h; rfl
 case ns nm off len =>
  obtain ⟨_,h⟩:=h
  cases hq:e.φ nm<;>rw [hq] at h
  ·obtain ⟨a,l,c,rfl⟩:=h; rfl
  ·obtain ⟨_,_,_,rfl⟩:=h; rfl
  ·obtain ⟨_,a,rfl,_⟩:=h; rfl
theorem fR {e:Env} {v:AV} {c:Value} (hv:(cellsOf v).all yM=true) (h:RV e v c []):RVs e (cellsOf v) c.cells.toList []:=by
 cases v
 case agg cs =>
  simp only [RV] at h
  obtain ⟨vs,rfl,h⟩:=h
  simpa [cellsOf,Value.cells] using h
 all_goals
  simp only [cellsOf,wA6,List.all_nil,Bool.and_true] at hv
  have hc:=qFc hv h
  have:c.cells = #[c]:=by cases c<;>first | rfl | simp [Value.oneCell'] at hc
  rw [this]
  simp only [cellsOf,RVs]
  exact ⟨c,[],[],[],rfl,h,⟨rfl,rfl⟩,rfl⟩
theorem qB5 {e:Env} :∀{l:List AV} {vs:List Value} {L:List Nat},l.all yM=true→RVs e l vs L→∀u∈vs,u.oneCell'=true
 | [],vs,L,_,h=>by simp only [RVs] at h; simp [h.1]
 | c::l,vs,L,hl,h=>by
  simp only [RVs] at h
  obtain ⟨v,vs',L1,L2,rfl,h2,h3,rfl⟩:=h
  simp only [wA6,qZu] at hl
  intro u hu
  rcases List.mem_cons.1 hu with rfl | hu
  ·exact qFc hl.1 h2
  ·exact qB5 hl.2 h3 u hu
theorem qP2 {e:Env} {cs ds:List AV} {vs us:List Value} {f:Nat} (h1:RVs e cs vs []) (h2:RVs e ds us []) (hf:f+ds.length≤cs.length) :
  RVs e (bZ cs f ds) (vs.take f++us++vs.drop (f+us.length)) []:=by
 unfold bZ
 have hu:=yP h2
 rw [hu]
 refine (uC _ _).2 ⟨vs.take f++us,vs.drop (f+ds.length),[],[],rfl,rfl,(uC _ _).2 ⟨_,_,[],[],rfl,rfl,qFv f h1,h2⟩,qFw _ h1⟩
theorem hP {α:Type} (cs ds:List α) (f:Nat) (hf:f+ds.length≤cs.length):(cs.take f++ds++cs.drop (f+ds.length)).length=cs.length:=by
 simp
 omega
theorem qCm (arr:Array Value) (f:Nat) (us:List Value) (hf:f+us.length≤arr.size):(vQ arr f us).toList=arr.toList.take f++us++arr.toList.drop (f+us.length):=by
 apply wA7
 intro k
 rw [Array.getElem?_toList]
 by_cases h1:k<f
 ·rw [zT _ _ _ _ (.inl h1)]
  rw [wA8,wA9 (by simp; omega)]
  simp [h1]
 ·by_cases h2:k<f+us.length
  ·obtain ⟨j,rfl⟩ :∃j,k=f+j:=⟨k-f,by omega⟩
   rw [oW _ _ _ _ (by omega) hf]
   have:(List.take f arr.toList).length=f:=by simp; omega
   rw [wA8,qZk (by omega),this,wA9 (by omega)]
   simp
  ·rw [zT _ _ _ _ (.inr (by omega))]
   have:(List.take f arr.toList++us).length=f+us.length:=by simp; omega
   rw [qZk (by omega),this]
   simp
   congr 1
   omega
theorem qBz (vc:List Value) :∀(cs:Array Value) (off k:Nat),(vc.zipIdx k).foldl (fun cs (c,j)=>cs.setIfInBounds (off+j) c) cs=vQ cs (off+k) vc:=by
 induction vc with
 | nil=>intro cs off k; rfl
 | cons v vc ih =>
  intro cs off k
  simp only [List.zipIdx_cons,List.foldl_cons,vQ]
  rw [ih,qZv]
theorem qEy {e:Env} {a:Act} {fs:Array Field} {places:Array (Nat×Nat)} (hpl :∀(i:Nat) (f:Field) (n:Nat),fs[i]?=some f→cQ P f.type n=true→places[i]?=some (f.offset,n))
  (ht :∀t,RV e (ρ t) (a.tmps.getD t undef) []) :∀(parts:List (Nat×Nat×Arg)) (ps:List (Nat×Operand)) (cs:List AV) (arr:Array Value),aK P e.num fs ps parts=true→
   qB2 ρ cs.length parts→RVs e cs arr.toList []→∃arr',Instr.fill (places[·]?) arr (ps.map fun x=>(x.1,a.eval x.2))=some arr'∧RVs e (qHv ρ cs parts) arr'.toList []
 | [],ps,cs,arr,hc,_,h=>by
  cases ps with
  | nil=>exact ⟨arr,rfl,h⟩
  | cons=>simp [aK] at hc
 | (off,sz,y)::parts,ps,cs,arr,hc,hf,h=>by
  cases ps with
  | nil=>simp [aK] at hc
  | cons q ps =>
   obtain ⟨i,x⟩:=q
   simp only [aK,qZu] at hc
   obtain ⟨⟨h1,h2⟩,h3⟩:=hc
   simp only [qB2] at hf
   obtain ⟨⟨f1,f2,f3⟩,f4⟩:=hf
   cases hg:fs[i]? with
   | none=>simp [hg] at h1
   | some f =>
    simp only [hg,qZu,beq_iff_eq] at h1
    obtain ⟨rfl,h5⟩:=h1
    have g:=fR f2 (yD (ρ:=ρ) ht h2)
    have gl:=yP g
    have hl:=yP h
    have hs:=qCm arr f.offset (a.eval x).cells.toList (by simp at gl hl⊢; omega)
    have hr:RVs e (bZ cs f.offset (cellsOf (y.ev ρ))) (vQ arr f.offset (a.eval x).cells.toList).toList []:=by
     rw [hs]
     exact qP2 h g (by omega)
    have hlen:(bZ cs f.offset (cellsOf (y.ev ρ))).length=cs.length:=hP _ _ _ (by omega)
    obtain ⟨arr',h6,h7⟩:=qEy hpl ht parts ps _ _ h3 (by rw [hlen]; exact f4) hr
    refine ⟨arr',?_,h7⟩
    simp only [qZr,Instr.fill,hpl i f sz hg h5]
    have hsz:(a.eval x).cells.size=sz:=by simp at gl; omega
    have ha:arr.size=cs.length:=by simpa using hl
    have hcond :¬(((a.eval x).cells.size≠sz||f.offset+(a.eval x).cells.size>arr.size)=true):=by
     simp [hsz,ha]; omega
    rw [if_neg hcond]
    have hz:(a.eval x).cells.zipIdx.foldl (fun cs (c,j)=>cs.setIfInBounds (f.offset+j) c) arr=vQ arr f.offset (a.eval x).cells.toList:=by
     rw [←Array.foldl_toList,Array.toList_zipIdx,qBz]
     simp
    rw [hz]
    exact h6
theorem pC {α β:Type} {w:World} (g:α→Sem β) (k:α→β) :∀(l:List α),(∀x∈l,(g x).run P w=.ok (k x) w)→(l.mapM g).run P w=.ok (l.map k) w
 | [],_=>by simp
 | x::l,h=>by
  rw [List.mapM_cons]
  simp only [Sem.run_bind,h x (by simp),Result.andThen_ok,pC g k l (fun y hy=>h y (by simp [hy])),Sem.run_pure,qZr]
theorem qDv {α β:Type} {w:World} (g:α→Sem β) (k:α→β) (l:Array α) (h :∀x∈l.toList,(g x).run P w=.ok (k x) w):(l.mapM g).run P w=.ok (l.map k) w:=by
 rw [Array.mapM_eq_mapM_toList,Sem.run_map,pC g k l.toList h]
 simp only [Result.andThen_ok]
 rw [←Array.toList_map,Array.toArray_toList]
theorem uU {t:TypeId} {zero:List AV} (h:lJ P t zero=true) :∃i z,P.info? t=some i∧i.size=zero.length∧i.zero=some z∧nP zero z.cells.toList=true∧zero.all yM=true:=by
 unfold lJ at h
 cases hi:P.info? t with
 | none=>simp [hi] at h
 | some i =>
  simp only [hi,qZu,beq_iff_eq] at h
  cases hz:i.zero with
  | none=>simp [hz] at h
  | some z =>
   simp only [hz] at h
   exact ⟨i,z,rfl,h.1.1,hz,h.2,h.1.2⟩
theorem qGw {zero:List AV} {parts:List (Nat×Nat×Arg)} (hc:wX P num (.build zero parts) o.op=true) (hp:wO ρ h nx (.build zero parts)=some (p,v,fp,nx')) (hpp:p):aM P num o ρ v fp:=by
 simp only [wX] at hc
 split at hc
 ·rename_i t ps hop
  simp only [qZu] at hc
  obtain ⟨h1,h2⟩:=hc
  obtain ⟨i,z,hi,hs,hz,hzv,hzo⟩:=uU h1
  cases hfs:fieldsOf P t with
  | none=>simp [hfs] at h2
  | some fs =>
   simp only [hfs,qZu,List.all_eq_true] at h2
   obtain ⟨h3,h4⟩:=h2
   simp only [wO,Option.some.injEq,Prod.mk.injEq] at hp
   obtain ⟨rfl,rfl,rfl,_⟩:=hp
   refine yZ (m:=.mv (.t 0)) ?_
   intro e a hn ht
   subst hn
   have hm :∀w,(fs.mapM fun (f:Field)=>do pure (f.offset,←sizeOf f.type)).run P w=.ok (fs.map fun (f:Field)=>(f.offset,((P.info? f.type).map (·.size)).getD 0)) w:=by
    intro w
    refine qDv _ _ fs ?_
    intro f hf
    obtain ⟨j,hj⟩:=Option.isSome_iff_exists.1 (h3 f hf)
    simp [uG hj,hj]
   obtain ⟨arr',h5,h6⟩:=qEy (P:=P) (ρ:=ρ) (e:=e) (a:=a) (fs:=fs) (places:=fs.map fun (f:Field)=>(f.offset,((P.info? f.type).map (·.size)).getD 0)) (fun i f n hf hn=>by
    obtain ⟨j,hj,hjn⟩:=gY hn
    simp [hf,hj,hjn]) ht parts ps.toList zero z.cells h4 hpp (gT hzv)
   refine ⟨.agg arr',?_,?_⟩
   ·intro w
    simp only [execOp,hop,Sem.run_bind,Instr.build,dN hi hz,wK (xE hfs),Result.andThen_ok]
    rw [hm]
    simp only [Result.andThen_ok]
    have e1:(ps.map fun (i,x)=>(i,a.eval x)).toList=ps.toList.map fun x=>(x.1,a.eval x.2):=by simp
    rw [e1,h5]
    rfl
   ·simp only [RV]
    exact ⟨arr'.toList,by simp,h6⟩
 ·simp at hc
end
end Go.Sep
namespace Go.Sep
set_option linter.unusedVariables false
set_option linter.unusedSimpArgs false
section
variable {P:Program} {num:Nat→Nat} {o:Oper} {ρ:Nat→AV} {h:wT} {nx nx':Nat} {p:Prop} {v:AV} {fp:FP}
theorem qO6 {t:TypeId} (h:qUj P t=true) :∃k,P.underlying t=some (.int k):=by
 unfold qUj at h
 split at h
 ·exact ⟨_,by assumption⟩
 ·simp at h
theorem sE {w:World} {t:TypeId} {cs:Array Value} {off:Nat} {c:Value} (hag:qCt P t=some false) (hc:cs[off]?=some c):(part t cs off).run P w=.ok c w:=by
 unfold part
 simp [qA9 hag,hc]
theorem sF {w:World} {d:Nat} {e:Env} :∀(ks:List Bool) (xs ys:List AV) (r:Bool) (fs:List Field) (i:Nat) (vs us:List Value) (pre pre':List Value),eqC ks xs ys=some r→aV P i ks fs=true→
  RVs e xs vs []→RVs e ys us []→pre.length=i→pre'.length=i→(Op.eqFields (d+1) (pre++vs).toArray (pre'++us).toArray fs).run P w=.ok r w
 | [],xs,ys,r,fs,i,vs,us,pre,pre',he,hf,h1,h2,hp,hp'=>by
  cases fs with
  | cons=>simp [aV] at hf
  | nil =>
   cases xs with
   | cons x xs=>simp [eqC] at he
   | nil =>
    cases ys with
    | cons=>simp [eqC] at he
    | nil =>
     simp [eqC] at he
     subst he
     simp [Op.eqFields]
 | k::ks,xs,ys,r,fs,i,vs,us,pre,pre',he,hf,h1,h2,hp,hp'=>by
  cases fs with
  | nil=>simp [aV] at hf
  | cons f fs =>
   cases xs with
   | nil=>cases k<;>simp [eqC] at he
   | cons x xs =>
    cases ys with
    | nil=>cases k<;>cases x<;>simp [eqC] at he
    | cons y ys =>
     simp only [aV,qZu,bne_iff_ne,ne_eq,beq_iff_eq] at hf
     obtain ⟨⟨⟨hn,ho⟩,ht⟩,hf⟩:=hf
     simp only [RVs] at h1 h2
     obtain ⟨v,vs',L1,L2,rfl,g1,g2,g3⟩:=h1
     obtain ⟨u,us',L3,L4,rfl,g4,g5,g6⟩:=h2
     obtain ⟨rfl,rfl⟩:=wY g3
     obtain ⟨rfl,rfl⟩:=wY g6
     have c1:(pre++v::vs').toArray[f.offset]?=some v:=by simp [ho,←hp]
     have c2:(pre'++u::us').toArray[f.offset]?=some u:=by simp [ho,←hp']
     have key:qCt P f.type=some false∧∃q r',r=(q&&r')∧eqC ks xs ys=some r'∧(Op.equalIn (d+1) f.type v u).run P w=.ok q w:=by
      cases k with
      | true =>
       obtain ⟨k',hk⟩:=qO6 ht
       refine ⟨by simp [qCt,hk],?_⟩
       cases x with
       | int k1 a =>
        cases y with
        | int k2 b =>
         simp only [eqC] at he
         split at he
         ·rename_i hkk
          subst hkk
          cases hr:eqC ks xs ys with
          | none=>simp [hr] at he
          | some r' =>
           simp [hr] at he
           refine ⟨decide (a=b),r',he.symm,rfl,?_⟩
           rw [xO g1,xO g4,run_equalIn_int w d f.type k1 k' a b hk]
           rfl
         ·simp at he
        | _=>simp [eqC] at he
       | _=>cases y<;>simp [eqC] at he
      | false =>
       refine ⟨by simp [qCt,nG ht],?_⟩
       cases x with
       | bool a =>
        cases y with
        | bool b =>
         simp only [eqC] at he
         cases hr:eqC ks xs ys with
         | none=>simp [hr] at he
         | some r' =>
          simp [hr] at he
          refine ⟨a==b,r',he.symm,rfl,?_⟩
          rw [fW g1,fW g4,run_equalIn_bool' w d f.type a b (nG ht)]
        | _=>simp [eqC] at he
       | _=>cases y<;>simp [eqC] at he
     obtain ⟨hag,q,r',rfl,hr',hq⟩:=key
     simp only [Op.eqFields]
     rw [if_pos hn]
     simp only [Sem.run_bind,sE hag c1,sE hag c2,Result.andThen_ok,hq]
     cases q with
     | false=>simp
     | true =>
      simp only [Bool.not_true,qZq,if_false,Bool.true_and]
      have:=sF (w:=w) (d:=d) ks xs ys r' fs (i+1) vs' us' (pre++[v]) (pre'++[u]) hr' hf g2 g5 (by simp [hp]) (by simp [hp'])
      simpa using this
theorem qPd {neg:Bool} {ks:List Bool} {x z:Arg} (hc:wX P num (.eqS neg ks x z) o.op=true) (hp:wO ρ h nx (.eqS neg ks x z)=some (p,v,fp,nx')):aM P num o ρ v fp:=by
 simp only [wX] at hc
 split at hc
 ·rename_i b t y u _ hop
  simp only [qZu] at hc
  obtain ⟨⟨⟨h0,h1⟩,h2⟩,h3⟩:=hc
  cases hfs:fieldsOf P t with
  | none=>simp [hfs] at h3
  | some fs =>
   simp only [hfs,qZu,Bool.not_eq_true'] at h3
   obtain ⟨⟨h4,h5⟩,h6⟩:=h3
   simp only [wO] at hp
   split at hp
   ·rename_i xs ys hx hz
    cases hr:eqC ks xs ys with
    | none=>simp [hr] at hp
    | some r =>
     simp only [hr,qZx,Option.some.injEq,Prod.mk.injEq] at hp
     obtain ⟨rfl,rfl,rfl,_⟩:=hp
     refine yZ (m:=.mv x) ?_
     intro e a hn ht
     subst hn
     have g1:=yD (ρ:=ρ) ht h1
     rw [hx] at g1
     have g2:=yD (ρ:=ρ) ht h2
     rw [hz] at g2
     simp only [RV] at g1 g2
     obtain ⟨vs,g1,g3⟩:=g1
     obtain ⟨us,g2,g4⟩:=g2
     have hu:=xE hfs
     have hpf:P.fieldsOf t=fs:=by simp [Program.fieldsOf,hu]
     have key :∀w,(Op.equalIn 10000 t (.agg vs.toArray) (.agg us.toArray)).run P w=.ok r w:=by
      intro w
      rw [run_equalIn_agg w 9999 t vs.toArray us.toArray (by rw [hpf]; exact hu) h5,hpf]
      simpa using sF (w:=w) (d:=9998) (e:=e) ks xs ys r fs.toList 0 vs us [] [] hr h4 g3 g4 rfl rfl
     refine ⟨.bool (if neg then !r else r),?_,by simp [RV]⟩
     intro w
     cases neg
     ·simp at h0
      subst h0
      simp only [execOp,hop,g1,g2,Sem.run_bind,run_eqGuard_agg w .eql t y u vs.toArray us.toArray h6,Result.andThen_ok,run_eql_struct,key]
      rfl
     ·simp at h0
      subst h0
      simp only [execOp,hop,g1,g2,Sem.run_bind,run_eqGuard_agg w .neq t y u vs.toArray us.toArray h6,Result.andThen_ok,run_neq_struct,key]
      rfl
   ·simp at hp
 ·simp at hc
theorem qHe {e:Env} {nm off len:Nat} {row:Row} {L L':List Nat} {c:Value} (hr:uT e nm row L) (h:RV e (.ns nm off len) c L') :
  (e.φ nm=.nilp∧row.2=[]∧off=0∧len=0∧∃a,c=.slice a 0 0)∨
  ∃q a Lr,e.φ nm=.at q∧q.sz=row.1∧fF e.w q row.2.length∧yK e e.w q.block q.off q.sz row.2 Lr∧L=q.block::Lr∧off+len≤q.cap∧
   c=.slice (some a) len (q.cap-off)∧(off<q.cap→a=⟨q.block,q.off+off*q.sz,none⟩):=by
 simp only [RV] at h
 obtain ⟨_,h⟩:=h
 unfold uT gF at hr
 cases hq:e.φ nm with
 | dead=>rw [hq] at hr; exact hr.elim
 | nilp=>rw [hq] at hr h; exact .inl ⟨rfl,hr.1,h⟩
 | «at» q =>
  rw [hq] at hr h
  obtain ⟨h1,h2,Lr,h3,h4⟩:=hr
  obtain ⟨h5,a,h6,h7⟩:=h
  exact .inr ⟨q,a,Lr,rfl,h1,h2,h3,h4,h5,h6,h7⟩
theorem qP9 {sz:Nat} {x z:Arg} (hc:wX P num (.iad sz x z) o.op=true) (hp:wO ρ h nx (.iad sz x z)=some (p,v,fp,nx')) (hpp:p):aM P num o ρ v fp:=by
 simp only [wX] at hc
 split at hc
 ·rename_i t y u hop
  simp only [qZu] at hc
  obtain ⟨⟨h1,h2⟩,h3⟩:=hc
  cases hel:bP P t with
  | none=>simp [hel] at h3
  | some el =>
   simp only [hel] at h3
   obtain ⟨i,hi,hs⟩:=gY h3
   have hu:=dC hel
   have key :∀(a:Act) (w:World) (A:Addr) (l c:Nat) (k:IntKind) (j:Int),a.eval y=.slice (some A) l c→a.eval u=.int k j→0≤j→j<l→
     (execOp a.eval o).run P w=.ok (.value (.pointer (some (A.add (j.toNat*sz))))) w:=by
    intro a w A l c k j e1 e2 h4 h5
    simp [execOp,hop,e1,e2,Instr.indexAt,asIntOf,wK hu,h4,h5,uG hi,hs]
   simp only [wO] at hp
   split at hp
   ·rename_i nm off len k j hx hz
    cases hl:qN h nm with
    | none=>simp [hl] at hp
    | some row =>
     simp only [hl,qZx,Option.some.injEq,Prod.mk.injEq] at hp
     obtain ⟨rfl,rfl,rfl,_⟩:=hp
     obtain ⟨p1,p2,p3,p4⟩:=hpp
     refine iK ?_
     intro e L0 H Lf a hn hk hr ht
     subst hn
     have g1:=yD (ρ:=ρ) ht h1
     rw [hx] at g1
     have g2:=yD (ρ:=ρ) ht h2
     rw [hz] at g2
     rcases qHe hr g1 with ⟨_,_,_,rfl,_⟩ | ⟨q,A,Lr,hq,q1,q2,q3,q4,q5,q6,q7⟩
     ·omega
     ·have hA:=q7 (by omega)
      refine ⟨_,fun w=>key a w A len _ k j q6 (xO g2) p3 p4,?_⟩
      rw [hA,eT]
      have:q.off+off*q.sz+j.toNat*sz=q.off+(off+j.toNat)*q.sz+0:=by
       rw [q1,p1,qZm]; omega
      rw [this]
      exact qFy hq
   ·rename_i s rows k j hx hz
    simp only [Option.some.injEq,Prod.mk.injEq] at hp
    obtain ⟨rfl,rfl,rfl,_⟩:=hp
    obtain ⟨p1,p3,p4⟩:=hpp
    refine yZ (m:=.mv x) ?_
    intro e a hn ht
    subst hn
    have g1:=yD (ρ:=ρ) ht h1
    rw [hx] at g1
    have g2:=yD (ρ:=ρ) ht h2
    rw [hz] at g2
    simp only [RV] at g1
    rcases g1.2 with ⟨rfl,_⟩ | ⟨b,o',c,q1,q2,q3,q4⟩
    ·simp at p4; omega
    ·obtain ⟨vs,L1,L2,L3,r1,r2,r3,r4,_,_,r5⟩:=eQ j.toNat (by omega) q4
     obtain ⟨_,r5⟩:=wY r5
     obtain ⟨rfl,_⟩:=wY r5.symm
     refine ⟨_,fun w=>key a w _ rows.length c k j q1 (xO g2) p3 p4,?_⟩
     have hg:rows.getD j.toNat []=rows[j.toNat]'(by omega):=by
      have:j.toNat<rows.length:=by omega
      simp [qZw,this]
     rw [hg,eT]
     simp only [RV,true_and]
     subst p1
     exact ⟨b,o'+j.toNat*s,vs,rfl,q3,by omega,fun j' hj'=>r3 j' (by omega),r4⟩
   ·rename_i s rows k j hx hz
    simp only [Option.some.injEq,Prod.mk.injEq] at hp
    obtain ⟨rfl,rfl,rfl,_⟩:=hp
    obtain ⟨p1,p3,p4⟩:=hpp
    refine yZ (m:=.mv x) ?_
    intro e a hn ht
    subst hn
    have g1:=yD (ρ:=ρ) ht h1
    rw [hx] at g1
    have g2:=yD (ρ:=ρ) ht h2
    rw [hz] at g2
    simp only [RV] at g1
    rcases g1.2 with ⟨rfl,_⟩ | ⟨b,o',c,q1,q2,q3,q4⟩
    ·simp at p4; omega
    ·obtain ⟨vs,L1,L2,L3,r1,r2,r3,r4,_,_,r5⟩:=eQ j.toNat (by omega) q4
     obtain ⟨_,r5⟩:=wY r5
     obtain ⟨rfl,_⟩:=wY r5.symm
     refine ⟨_,fun w=>key a w _ rows.length c k j q1 (xO g2) p3 p4,?_⟩
     have hg:rows.getD j.toNat []=rows[j.toNat]'(by omega):=by
      have:j.toNat<rows.length:=by omega
      simp [qZw,this]
     rw [hg,eT]
     simp only [RV,true_and]
     subst p1
     exact ⟨b,o'+j.toNat*s,vs,rfl,q3,by omega,fun j' hj'=>r3 j' (by omega),r4⟩
   ·simp at hp
 ·simp at hc
theorem qIh {e:Env} {W:World} {b o' sz:Nat} {rows:List (List AV)} (l n:Nat) (hl:l≤rows.length) (h:yK e W b o' sz rows []):yK e W b (o'+l*sz) sz ((rows.drop l).take n) []:=by
 have h1:rows=rows.take l++rows.drop l:=by simp
 rw [h1] at h
 obtain ⟨L1,L2,_,h2,h3⟩:=(jG _ _).1 h
 obtain ⟨_,rfl⟩:=wY h3
 rw [qZn,qZj hl] at h2
 have h4:rows.drop l=(rows.drop l).take n++(rows.drop l).drop n:=(wA0 n _).symm
 rw [h4] at h2
 obtain ⟨L3,L4,h5,_,h6⟩:=(jG _ _).1 h2
 obtain ⟨rfl,_⟩:=wY h6
 exact h5
theorem qPh {sz:Nat} {x:Arg} {lo hi:Option Arg} (hc:wX P num (.cut sz x lo hi) o.op=true) (hp:wO ρ h nx (.cut sz x lo hi)=some (p,v,fp,nx')) (hpp:p):aM P num o ρ v fp:=by
 simp only [wX] at hc
 split at hc
 ·rename_i t y l' h' hop
  simp only [qZu] at hc
  obtain ⟨⟨⟨h1,h2⟩,h3⟩,h4⟩:=hc
  cases hel:bP P t with
  | none=>simp [hel] at h4
  | some el =>
   simp only [hel] at h4
   obtain ⟨i,hi',hs⟩:=gY h4
   have hu:=dC hel
   have key :∀(e:Env) (a:Act) (w:World) (A:Option Addr) (len c:Nat) (l m:Int),e.num=num→(∀t,RV e (ρ t) (a.tmps.getD t undef) [])→a.eval y=.slice A len c→xY ρ 0 lo=some l→xY ρ len hi=some m→0≤l→l≤m→m≤len→len≤c→
     (execOp a.eval o).run P w=.ok (.value (.slice (if c=l.toNat then A else A.map (·.add (l.toNat*sz))) (m.toNat-l.toNat) (c-l.toNat))) w:=by
    intro e a w A len c l m hn ht e1 e2 e3 b1 b2 b3 b4
    subst hn
    simp only [execOp,hop,e1,Sem.run_bind,Instr.sliceAt,wK hu,Result.andThen_ok,Instr.slice,qZy]
    rw [lR (isS:=true) ht h2 h3 e2 e3 b1 b2 b3 b4]
    simp [uG hi',hs]
   simp only [wO] at hp
   cases hl:xY ρ 0 lo with
   | none=>simp [hl] at hp
   | some l =>
    simp only [hl,qZz] at hp
    split at hp
    ·rename_i hx
     cases hh:xY ρ 0 hi with
     | none=>simp [hh] at hp
     | some m =>
      simp only [hh,qZx,Option.some.injEq,Prod.mk.injEq] at hp
      obtain ⟨rfl,rfl,rfl,_⟩:=hp
      obtain ⟨rfl,rfl⟩:=hpp
      refine yZ (m:=.mv x) ?_
      intro e a hn ht
      subst hn
      have g1:=yD (ρ:=ρ) ht h1
      rw [hx] at g1
      simp only [RV] at g1
      exact ⟨_,fun w=>key e a w none 0 0 0 0 rfl ht g1.1 hl hh (by omega) (by omega) (by omega) (by omega),by simp [RV]⟩
    ·rename_i nm off len hx
     cases hlk:qN h nm with
     | none=>simp [hlk] at hp
     | some row =>
      cases hh:xY ρ len hi with
      | none=>simp [hlk,hh] at hp
      | some m =>
       simp only [hlk,hh,qZz,qZx,Option.some.injEq,Prod.mk.injEq] at hp
       obtain ⟨rfl,rfl,rfl,_⟩:=hp
       obtain ⟨p1,p2,p3,p4,p5⟩:=hpp
       refine iK ?_
       intro e L0 H Lf a hn hk hr ht
       subst hn
       have g1:=yD (ρ:=ρ) ht h1
       rw [hx] at g1
       rcases qHe hr g1 with ⟨hq,_,rfl,rfl,aa,g2⟩ | ⟨q,A,Lr,hq,q1,q2,q3,q4,q5,q6,q7⟩
       ·have hl0:l=0:=by omega
        have hm0:m=0:=by omega
        subst hl0 hm0
        refine ⟨_,fun w=>key e a w aa 0 0 0 0 rfl ht g2 hl hh (by omega) (by omega) (by omega) (by omega),?_⟩
        simp [RV,hq]
       ·refine ⟨_,fun w=>key e a w (some A) len _ l m rfl ht q6 hl hh p3 p4 p5 (by omega),?_⟩
        simp only [RV,hq,true_and]
        refine ⟨by omega,?_⟩
        by_cases hcap:q.cap-off=l.toNat
        ·rw [if_pos hcap]
         exact ⟨A,by rw [show q.cap-(off+l.toNat)=q.cap-off-l.toNat by omega],fun hlt=>by omega⟩
        ·rw [if_neg hcap]
         refine ⟨A.add (l.toNat*sz),by rw [show q.cap-(off+l.toNat)=q.cap-off-l.toNat by omega]; rfl,fun hlt=>?_⟩
         rw [q7 (by omega),eT,←p1,←q1,qZm,qZv]
    ·rename_i s rows hx
     cases hh:xY ρ rows.length hi with
     | none=>simp [hh] at hp
     | some m =>
      simp only [hh,qZx,Option.some.injEq,Prod.mk.injEq] at hp
      obtain ⟨rfl,rfl,rfl,_⟩:=hp
      obtain ⟨p1,p3,p4,p5⟩:=hpp
      refine yZ (m:=.mv x) ?_
      intro e a hn ht
      subst hn
      have g1:=yD (ρ:=ρ) ht h1
      rw [hx] at g1
      simp only [RV] at g1
      rcases g1.2 with ⟨rfl,A,c,q1,q2⟩ | ⟨b,o',c,q1,q2,q3,q4⟩
      ·simp only [qZl] at hh p5
       have hl0:l=0:=by omega
       have hm0:m=0:=by omega
       subst hl0 hm0
       refine ⟨_,fun w=>key e a w A 0 c 0 0 rfl ht q1 hl hh (by omega) (by omega) (by omega) (by omega),?_⟩
       simp only [RV,true_and]
       refine .inl ⟨by simp,_,_,rfl,?_⟩
       intro hA
       cases A with
       | none=>have:=q2 rfl; omega
       | some A=>split at hA<;>simp at hA
      ·refine ⟨_,fun w=>key e a w _ rows.length c l m rfl ht q1 hl hh p3 p4 p5 q2,?_⟩
       simp only [RV,true_and]
       have hlen:((rows.drop l.toNat).take (m.toNat-l.toNat)).length=m.toNat-l.toNat:=by simp; omega
       by_cases hz:m.toNat-l.toNat=0
       ·refine .inl ⟨List.length_eq_zero_iff.1 (by omega),_,_,by rw [hz],?_⟩
        intro hA
        split at hA<;>simp at hA
       ·refine .inr ⟨b,o'+l.toNat*s,c-l.toNat,?_,by omega,q3,qIh _ _ (by omega) q4⟩
        rw [if_neg (by omega),hlen,p1]
        simp [eT]
    ·rename_i s rows hx
     cases hh:xY ρ rows.length hi with
     | none=>simp [hh] at hp
     | some m =>
      simp only [hh,qZx,Option.some.injEq,Prod.mk.injEq] at hp
      obtain ⟨rfl,rfl,rfl,_⟩:=hp
      obtain ⟨p1,p3,p4,p5⟩:=hpp
      refine yZ (m:=.mv x) ?_
      intro e a hn ht
      subst hn
      have g1:=yD (ρ:=ρ) ht h1
      rw [hx] at g1
      simp only [RV] at g1
      rcases g1.2 with ⟨rfl,A,c,q1,q2⟩ | ⟨b,o',c,q1,q2,q3,q4⟩
      ·simp only [qZl] at hh p5
       have hl0:l=0:=by omega
       have hm0:m=0:=by omega
       subst hl0 hm0
       refine ⟨_,fun w=>key e a w A 0 c 0 0 rfl ht q1 hl hh (by omega) (by omega) (by omega) (by omega),?_⟩
       simp only [RV,true_and]
       refine .inl ⟨by simp,_,_,rfl,?_⟩
       intro hA
       cases A with
       | none=>have:=q2 rfl; omega
       | some A=>split at hA<;>simp at hA
      ·refine ⟨_,fun w=>key e a w _ rows.length c l m rfl ht q1 hl hh p3 p4 p5 q2,?_⟩
       simp only [RV,true_and]
       have hlen:((rows.drop l.toNat).take (m.toNat-l.toNat)).length=m.toNat-l.toNat:=by simp; omega
       by_cases hz:m.toNat-l.toNat=0
       ·refine .inl ⟨List.length_eq_zero_iff.1 (by omega),_,_,by rw [hz],?_⟩
        intro hA
        split at hA<;>simp at hA
       ·refine .inr ⟨b,o'+l.toNat*s,c-l.toNat,?_,by omega,q3,qIh _ _ (by omega) q4⟩
        rw [if_neg (by omega),hlen,p1]
        simp [eT]
    ·simp at hp
 ·simp at hc
end
end Go.Sep
namespace Go.Sep
set_option linter.unusedVariables false
set_option linter.unusedSimpArgs false
def jW (e:Env) (sz:Nat):List (List AV)→List Value→List Nat→Prop
 | [],vs,L=>vs=[]∧L=[]
 | r::rs,vs,L =>∃v1 v2 L1 L2,vs=v1++v2∧(r.length=sz∧r.all yM=true)∧RVs e r v1 L1∧jW e sz rs v2 L2∧L=L1++L2
theorem jY {e:Env} {sz:Nat} :∀{rows:List (List AV)} {vs:List Value} {L:List Nat},jW e sz rows vs L→vs.length=rows.length*sz
 | [],_,_,h=>by simp only [jW] at h; simp [h.1]
 | r::rs,_,_,h=>by
  simp only [jW] at h
  obtain ⟨v1,v2,L1,L2,rfl,h1,h2,h3,rfl⟩:=h
  rw [wAa,yP h2,jY h3,h1.1,qZp,qZm]
  omega
theorem lP {e:Env} {sz:Nat} :∀{xs ys:List (List AV)} {vs us:List Value} {L M:List Nat},jW e sz xs vs L→jW e sz ys us M→jW e sz (xs++ys) (vs++us) (L++M)
 | [],ys,vs,us,L,M,h1,h2=>by simp only [jW] at h1; obtain ⟨rfl,rfl⟩:=h1; exact h2
 | r::rs,ys,vs,us,L,M,h1,h2=>by
  simp only [jW] at h1
  obtain ⟨v1,v2,L1,L2,rfl,g1,g2,g3,rfl⟩:=h1
  simp only [qZi,jW]
  exact ⟨v1,v2++us,L1,L2++M,by simp,g1,g2,lP g3 h2,by simp⟩
theorem aY {e e':Env} {A:Nat→Prop} {sz:Nat} :∀{rows:List (List AV)} {vs:List Value} {L:List Nat},dD e e' A L→yQ A rows→jW e sz rows vs L→jW e' sz rows vs L
 | [],_,_,_,_,h=>h
 | r::rs,_,_,k,hb,h=>by
  simp only [jW] at h⊢
  obtain ⟨v1,v2,L1,L2,rfl,g1,g2,g3,rfl⟩:=h
  exact ⟨v1,v2,L1,L2,rfl,g1,dW r (k.sub (by simp +contextual)) hb.1 g2,aY (k.sub (by simp +contextual)) hb.2 g3,rfl⟩
theorem fG {e:Env} {W:World} {b sz:Nat} :∀{rows:List (List AV)} {vs:List Value} {L:List Nat} {o:Nat},jW e sz rows vs L→(∀j,j<vs.length→W.cell? ⟨b,o+j,none⟩=vs[j]?)→yK e W b o sz rows L
 | [],_,_,_,h,_=>by simp only [jW] at h; simp only [yK]; exact h.2
 | r::rs,_,_,o,h,hc=>by
  simp only [jW] at h
  obtain ⟨v1,v2,L1,L2,rfl,g1,g2,g3,rfl⟩:=h
  have hl:=yP g2
  simp only [yK]
  refine ⟨v1,L1,L2,g1,by omega,fun j hj=>?_,g2,fG g3 (fun j hj=>?_),rfl⟩
  ·rw [hc j (by simp; omega),wA9 (by omega)]
  ·have:=hc (sz+j) (by simp; omega)
   rw [←qZv] at this
   rw [this,qZk (by omega)]
   congr 1
   omega
theorem kN {e:Env} {W:World} {b sz:Nat} :∀{rows:List (List AV)} {L:List Nat} {o:Nat},yK e W b o sz rows L→∃vs,jW e sz rows vs L∧∀j,j<vs.length→W.cell? ⟨b,o+j,none⟩=vs[j]?
 | [],_,_,h=>by simp only [yK] at h; exact ⟨[],⟨rfl,h⟩,by simp⟩
 | r::rs,_,o,h=>by
  simp only [yK] at h
  obtain ⟨v1,L1,L2,h1,h2,h3,h4,h5,rfl⟩:=h
  obtain ⟨v2,h6,h7⟩:=kN h5
  refine ⟨v1++v2,⟨v1,v2,L1,L2,rfl,h1,h4,h6,rfl⟩,fun j hj=>?_⟩
  by_cases hjs:j<sz
  ·rw [h3 j hjs,wA9 (by omega)]
  ·rw [qZk (by omega),h2]
   have:=h7 (j-sz) (by simp at hj; omega)
   rw [←this]
   congr 2
   omega
theorem kI (H:Nat→Option Row) :∀(a b:FP),upH H (a++b)=upH (upH H a) b
 | [],b=>rfl
 | (n,p,r)::a,b=>by simp only [qZi,upH]; exact kI _ a b
theorem qBb {w w1:World} {ob:Obj} (h:w1.heap=w.heap) {b:Nat} (hb:b<w.heap.size):(w1.alloc ob).heap[b]?=w.heap[b]?:=by
 simp only [World.alloc,h]
 rw [Array.getElem?_push_lt hb]
 simp [hb]
theorem qIc {w w1:World} {ob:Obj} (h:w1.heap=w.heap):(w1.alloc ob).heap[w.heap.size]?=some ob:=by
 simp [World.alloc,h]
theorem Tri.of_new {P:Program} {num:Nat→Nat} {o:Oper} {ρ:Nat→AV} {v:AV} {rd:FP} {nx sz:Nat} {rows:List (List AV)} (hrd :∀x∈rd,x.2.2=x.2.1) (hnx:nx∉rd.map (·.1))
  (h :∀(e:Env) (L0:List Nat) (H:Nat→Option Row) (Lf:Nat→List Nat) (A:Nat→Prop) (a:Act),e.num=num→Ok e L0 H Lf→(∀x∈rd,H x.1=x.2.1)→(∀t,bnd A (ρ t))→(∀nm row,H nm=some row→yQ A row.2)→
   (∀t,RV e (ρ t) (a.tmps.getD t undef) [])→
   ∃(w1:World) (arr:Array Value) (ty cap:Nat) (vals:List Value) (v':Value),(execOp a.eval o).run P e.w=.ok (.value v') (w1.alloc (.cells arr ty))∧(w1.heap=e.w.heap∧gE e.w w1)∧yQ A rows∧jW e sz rows vals []∧(∀j,j<vals.length→arr[j]?=vals[j]?)∧
    0<sz∧rows.length≤cap∧cap*sz≤arr.size∧(∀e':Env,e'.φ nx=.at ⟨e.w.heap.size,0,cap,sz⟩→RV e' v v' [])) :
  Tri P num o ρ v (rd++[(nx,none,some (sz,rows))]):=by
 intro e L0 H Lf A a K Q hn hk hpre hbt hbh hfr ht k
 obtain ⟨w1,arr,ty,cap,vals,v',hr,⟨hw,hio⟩,hb,hfl,hc,hsz,hcap,hroom,hv⟩:=h e L0 H Lf A a hn hk (fun x hx=>hpre x (by simp [hx])) hbt hbh ht
 have hnone:H nx=none:=hpre (nx,none,some (sz,rows)) (by simp)
 have hnA :¬A nx:=hfr (nx,none,some (sz,rows)) (by simp) rfl
 let e':Env:={e with w:=w1.alloc (.cells arr ty),φ:=fun n=>if n=nx then .at ⟨e.w.heap.size,0,cap,sz⟩ else e.φ n}
 have φn :∀nm,nm≠nx→e'.φ nm=e.φ nm:=fun nm h=>if_neg h
 have φx:e'.φ nx=.at ⟨e.w.heap.size,0,cap,sz⟩:=if_pos rfl
 have hH :∀n,upH H (rd++[(nx,none,some (sz,rows))]) n=if n=nx then some (sz,rows) else H n:=by
  intro n
  rw [kI,rQ (fun x hx=>hpre x (by simp [hx])) hrd]
  rfl
 have hsize:e'.w.heap.size=e.w.heap.size+1:=by
  show (w1.alloc _).heap.size=_
  simp [hw]
 have keep :∀b,b<e.w.heap.size→e'.w.heap[b]?=e.w.heap[b]?:=fun b hb=>qBb hw hb
 have kp :∀L:List Nat,(∀b∈L,b<e.w.heap.size)→dD e e' A L:=fun L hL=>{
  num:=rfl
  fr:=fun m b h=>by cases m<;>exact h
  cells:=fun b _ o=>rfl
  φ:=fun nm hA=>.inl (φn nm (fun he=>hnA (he▸hA)))
  own:=fun b hb=>keep b (hL b hb)}
 have hother :∀nm row,nm≠nx→H nm=some row→uT e' nm row (Lf nm):=fun nm row hne hrow =>
  (hk.rh.row nm row hrow).keep (kp _ (fun b hb=>(hk.rh.blk nm (by simp [hrow]) b hb).1)) (φn nm hne) (hbh nm row hrow)
 refine zY (w':=e'.w) hr (k e' (fun n=>if n=nx then [e.w.heap.size] else Lf n) v' ?_ (hv e' φx))
 refine {num:=rfl,w0:=rfl,Fr:=rfl,Bo:=rfl,io:=hio,size:=by omega,keep:=fun b hb _=>keep b hb,φ:=?_,φF:=?_,rest:=?_,row:=?_,nodup:=?_,blk:=?_,dis:=?_,dead:=?_}
 ·intro nm hF
  exact φn nm (fun he=>hF (by simp [he]))
 ·intro nm _ hne
  exact .inl (φn nm (fun he=>hne (he▸hnone)))
 ·intro nm hF
  rw [hH,if_neg (fun he=>hF (by simp [he]))]
 ·intro nm row _ hrow
  rw [hH] at hrow
  by_cases hne:nm=nx
  ·subst hne
   rw [if_pos rfl] at hrow
   simp only [Option.some.injEq] at hrow
   subst hrow
   simp only [if_true]
   have hblk:e'.w.heap[e.w.heap.size]?=some (.cells arr ty (0,0)):=qIc hw
   unfold uT gF
   rw [φx]
   refine ⟨rfl,⟨hsz,hcap,arr,ty,hblk,by simpa using hroom⟩,[],?_,rfl⟩
   refine fG (aY (kp [] (by simp)) hb hfl) (fun j hj=>?_)
   rw [zK hblk,Nat.zero_add]
   exact hc j hj
  ·rw [if_neg hne] at hrow
   simp only [if_neg hne]
   exact hother nm row hne hrow
 ·intro nm _ hne
  rw [hH] at hne
  by_cases he:nm=nx
  ·simp [he]
  ·rw [if_neg he] at hne
   simp only [if_neg he]
   exact hk.rh.nodup nm hne
 ·intro nm hF hne b hb
  rw [hH] at hne
  by_cases he:nm=nx
  ·simp only [if_pos he,wAb] at hb
   exact ⟨by omega,.inl (by omega)⟩
  ·rw [if_neg he] at hne
   simp only [if_neg he] at hb
   exact ⟨by have:=(hk.rh.blk nm hne b hb).1; omega,.inr ⟨nm,hF,hne,hb⟩⟩
 ·intro n m _ _ hn hm hne b hb1 hb2
  rw [hH] at hn hm
  by_cases h1:n=nx<;>by_cases h2:m=nx
  ·exact hne (h1.trans h2.symm)
  ·simp only [if_pos h1,if_neg h2,wAb] at hb1 hb2 hm
   have:=(hk.rh.blk m hm b hb2).1; omega
  ·simp only [if_pos h2,if_neg h1,wAb] at hb1 hb2 hn
   have:=(hk.rh.blk n hn b hb1).1; omega
  ·simp only [if_neg h1,if_neg h2] at hb1 hb2 hn hm
   exact hk.rh.dis n m hn hm hne b hb1 hb2
 ·intro nm _ hno
  rw [hH] at hno
  by_cases he:nm=nx
  ·simp [he] at hno
  ·rw [if_neg he] at hno
   rw [φn nm he]
   exact hk.rh.dead nm hno
section
variable {P:Program} {num:Nat→Nat} {o:Oper} {ρ:Nat→AV} {h:wT} {nx nx':Nat} {p:Prop} {v:AV} {fp:FP}
mutual
theorem qMj {A:Nat→Prop} :∀{d:AV} {v:Value},tP d v=true→bnd A d
 | .agg ds,v,h=>by
  simp only [tP] at h
  split at h
  ·exact dZ h
  ·simp at h
 | .bool _,_,_ | .int _ _,_,_ | .str _,_,_ | .nil,_,_ | .nilp,_,_ | .nilI,_,_=>trivial
 | .any,_,h | .fn _ _,_,h | .ptr _ _ _,_,h | .fptr _ _ _,_,h | .ifc,_,h | .ns _ _ _,_,h | .sl _ _ _,_,h | .tup _,_,h=>by simp [tP] at h
theorem dZ {A:Nat→Prop} :∀{ds:List AV} {vs:List Value},nP ds vs=true→jF A ds
 | [],_,_=>trivial
 | d::ds,vs,h=>by
  cases vs with
  | nil=>simp [nP] at h
  | cons v vs =>
   simp only [nP,qZu] at h
   exact ⟨qMj h.1,dZ h.2⟩
end
theorem uB {A:Nat→Prop} {x:Operand} {y:Arg} (ht :∀t,bnd A (ρ t)) (h:uP num x y=true):bnd A (y.ev ρ):=by
 cases y with
 | t n=>exact ht n
 | c d =>
  cases x with
  | tmp t=>simp [uP] at h
  | const v=>exact qMj h
  | global g=>simp [uP] at h
  | func f =>
   cases d with
   | fn g cap=>cases cap<;>simp [uP] at h; trivial
   | _=>simp [uP] at h
theorem xV {A:Nat→Prop} {v:AV} (h:bnd A v):jF A (cellsOf v):=by
 cases v<;>first | exact h | exact ⟨h,trivial⟩
theorem qQt {zero:List AV} (hc:wX P num (.alloc zero) o.op=true) (hp:wO ρ h nx (.alloc zero)=some (p,v,fp,nx')) (h0:p):Tri P num o ρ v fp:=by
 simp only [wX] at hc
 split at hc
 ·rename_i t hop
  obtain ⟨i,z,hi,hs,hz,hzv,hzo⟩:=uU hc
  simp only [wO,Option.some.injEq,Prod.mk.injEq] at hp
  obtain ⟨rfl,rfl,rfl,_⟩:=hp
  refine Tri.of_new (rd:=[]) (by simp) (by simp) ?_
  intro e L0 H Lf A a hn hk _ _ _ ht
  have hl:=yP (gT (e:=e) hzv)
  refine ⟨e.w,z.cells,t,1,z.cells.toList,.pointer (some ⟨e.w.heap.size,0,none⟩),?_,⟨rfl,gE.refl _⟩,⟨dZ hzv,trivial⟩,?_,?_,h0,by simp,?_,?_⟩
  ·simp only [execOp,hop,Sem.run_bind,Instr.alloc,dN hi hz,Result.andThen_ok,newVar]
   rw [xL]
   rfl
  ·exact ⟨z.cells.toList,[],[],[],by simp,⟨rfl,hzo⟩,gT hzv,⟨rfl,rfl⟩,rfl⟩
  ·intro j _; simp
  ·simp at hl⊢; omega
  ·intro e' hφ
   simpa using qFy (i:=0) (f:=0) hφ
 ·simp at hc
theorem qW8 {x:Arg} (hc:wX P num (.box x) o.op=true) (hp:wO ρ h nx (.box x)=some (p,v,fp,nx')) (hpp:p):Tri P num o ρ v fp:=by
 simp only [wX] at hc
 split at hc
 ·rename_i t y hop
  simp only [wO,Option.some.injEq,Prod.mk.injEq] at hp
  obtain ⟨rfl,rfl,rfl,_⟩:=hp
  obtain ⟨p1,p2⟩:=hpp
  refine Tri.of_new (rd:=[]) (by simp) (by simp) ?_
  intro e L0 H Lf A a hn hk _ hbt _ ht
  subst hn
  have g:=fR p1 (yD (ρ:=ρ) ht hc)
  have hl:=yP g
  refine ⟨e.w,(a.eval y).cells,t,1,(a.eval y).cells.toList,.pointer (some ⟨e.w.heap.size,0,none⟩),?_,⟨rfl,gE.refl _⟩,⟨xV (uB hbt hc),trivial⟩,?_,?_,p2,by simp,?_,?_⟩
  ·simp only [execOp,hop,Sem.run_bind,Instr.box,newVar]
   rw [xL]
   rfl
  ·exact ⟨(a.eval y).cells.toList,[],[],[],by simp,⟨rfl,p1⟩,g,⟨rfl,rfl⟩,rfl⟩
  ·intro j _; simp
  ·simp at hl⊢; omega
  ·intro e' hφ
   simpa using qFy (i:=0) (f:=0) hφ
 ·simp at hc
end
end Go.Sep
namespace Go.Sep
set_option linter.unusedVariables false
set_option linter.unusedSimpArgs false
theorem qC0 {α:Type} (l:List α) :∀(n j:Nat),j<n*l.length→(qZo n l).flatten[j]?=l[j%l.length]?
 | 0,j,h=>by simp at h
 | n+1,j,h=>by
  rw [wAc,wAd]
  by_cases hj:j<l.length
  ·rw [wA9 hj,Nat.mod_eq_of_lt hj]
  ·rw [qZk (by omega),qC0 l n (j-l.length) (by rw [qZm] at h; omega)]
   have:j=(j-l.length)+l.length:=by omega
   conv=>rhs; rw [this,Nat.add_mod_right]
theorem qA1 {zc:Array Value} {n m:Nat} (hm:m=zc.size) (j:Nat) (hj:j<n*m):((Array.range (n*m)).map (zc[· % zc.size]!))[j]?=(qZo n zc.toList).flatten[j]?:=by
 subst hm
 have hpos:0<zc.size:=by
  rcases Nat.eq_zero_or_pos zc.size with h | h
  ·simp [h] at hj
  ·exact h
 have h1:=Nat.mod_lt j hpos
 rw [qC0 zc.toList n j (by simpa using hj)]
 simp [hj,h1]
theorem dX {e:Env} {sz:Nat} {z:List AV} {zc:List Value} (h:RVs e z zc []) (hs:z.length=sz∧z.all yM=true) :∀(n:Nat),jW e sz (qZo n z) (qZo n zc).flatten []
 | 0=>⟨rfl,rfl⟩
 | n+1=>by
  rw [wAc,wAc,wAd]
  exact ⟨zc,_,[],[],rfl,hs,h,dX h hs n,rfl⟩
theorem qIk {e:Env} {sz:Nat} {r:List AV} {us:List Value} (hr:RVs e r us []) (hs:r.length=sz∧r.all yM=true) :∀{rows:List (List AV)} {vs:List Value} (i:Nat),i<rows.length→jW e sz rows vs []→
  jW e sz (rows.set i r) (vs.take (i*sz)++us++vs.drop (i*sz+us.length)) []
 | [],_,i,hi,_=>by simp at hi
 | q::rows,vs,i,hi,h=>by
  simp only [jW] at h
  obtain ⟨v1,v2,L1,L2,rfl,h1,h2,h3,h4⟩:=h
  obtain ⟨rfl,rfl⟩:=wY h4
  have hl:=yP h2
  have hu:=yP hr
  cases i with
  | zero =>
   simp only [List.set_cons_zero,jW]
   refine ⟨us,v2,[],[],?_,hs,hr,h3,rfl⟩
   rw [hu,hs.1,←h1.1,←hl]
   simp
  | succ i =>
   simp only [List.set_cons_succ,jW]
   refine ⟨v1,_,[],[],?_,h1,h2,qIk hr hs i (by simpa using hi) h3,rfl⟩
   have e1:(i+1)*sz=v1.length+i*sz:=by rw [qZm]; omega
   rw [e1,List.take_append,List.drop_append,wA3 (by omega),wA4 (by omega)]
   have e2:v1.length+i*sz-v1.length=i*sz:=by omega
   have e3:v1.length+i*sz+us.length-v1.length=i*sz+us.length:=by omega
   rw [e2,e3]
   simp
section
variable {P:Program} {num:Nat→Nat} {o:Oper} {ρ:Nat→AV} {h:wT} {nx nx':Nat} {p:Prop} {v:AV} {fp:FP}
theorem qHt {e:Env} {a:Act} {sz n:Nat} (ht :∀t,RV e (ρ t) (a.tmps.getD t undef) []) :∀(parts:List (Nat×Arg)) (ps:List (Nat×Operand)) (rows:List (List AV)) (arr:Array Value),cD e.num ps parts=true→
   oQ ρ n sz parts→rows.length=n→jW e sz rows arr.toList []→∃arr',Instr.fill (fun i=>some (i*sz,sz)) arr (ps.map fun x=>(x.1,a.eval x.2))=some arr'∧jW e sz (tI ρ rows parts) arr'.toList []
 | [],ps,rows,arr,hc,_,_,h=>by
  cases ps with
  | nil=>exact ⟨arr,rfl,h⟩
  | cons=>simp [cD] at hc
 | (i,y)::parts,ps,rows,arr,hc,hf,hn,h=>by
  cases ps with
  | nil=>simp [cD] at hc
  | cons q ps =>
   obtain ⟨j,x⟩:=q
   simp only [cD,qZu,beq_iff_eq] at hc
   obtain ⟨⟨rfl,h2⟩,h3⟩:=hc
   simp only [oQ] at hf
   obtain ⟨⟨f1,f2,f3⟩,f4⟩:=hf
   have g:=fR f3 (yD (ρ:=ρ) ht h2)
   have gl:=yP g
   have hl:=jY h
   have hmul:(j+1)*sz≤n*sz:=wAe _ f1
   rw [qZm] at hmul
   have harr:arr.size=n*sz:=by rw [←hn]; simpa using hl
   have hus:(a.eval x).cells.toList.length=sz:=by omega
   have hs:=qCm arr (j*sz) (a.eval x).cells.toList (by rw [harr,hus]; omega)
   have hr:jW e sz (rows.set j (cellsOf (y.ev ρ))) (vQ arr (j*sz) (a.eval x).cells.toList).toList []:=by
    rw [hs]
    exact qIk g ⟨f2,f3⟩ j (by omega) h
   obtain ⟨arr',h6,h7⟩:=qHt ht parts ps _ _ h3 f4 (by simpa using hn) hr
   refine ⟨arr',?_,h7⟩
   simp only [qZr,Instr.fill]
   have hsz:(a.eval x).cells.size=sz:=by simpa using hus
   have hcond :¬(((a.eval x).cells.size≠sz||j*sz+(a.eval x).cells.size>arr.size)=true):=by
    simp [hsz,harr]; omega
   rw [if_neg hcond]
   have hz:(a.eval x).cells.zipIdx.foldl (fun cs (c,k)=>cs.setIfInBounds (j*sz+k) c) arr=vQ arr (j*sz) (a.eval x).cells.toList:=by
    rw [←Array.foldl_toList,Array.toList_zipIdx,qBz]
    simp
   rw [hz]
   exact h6
theorem qB1 {A:Nat→Prop} (ht :∀t,bnd A (ρ t)) :∀(parts:List (Nat×Arg)) (ps:List (Nat×Operand)) (rows:List (List AV)),cD num ps parts=true→yQ A rows→yQ A (tI ρ rows parts)
 | [],_,rows,_,hb=>hb
 | (i,y)::parts,ps,rows,hc,hb=>by
  cases ps with
  | nil=>simp [cD] at hc
  | cons q ps =>
   obtain ⟨j,x⟩:=q
   simp only [cD,qZu] at hc
   simp only [tI]
   refine qB1 ht parts ps _ hc.2 ?_
   rw [yC] at hb⊢
   intro r hr
   rcases List.mem_or_eq_of_mem_set hr with h | h
   ·exact hb r h
   ·rw [h]; exact xV (uB ht hc.1.2)
theorem tH {l:List (Nat×Arg)} :∀{rows:List (List AV)},(tI ρ rows l).length=rows.length:=by
 induction l with
 | nil=>intro rows; rfl
 | cons x l ih=>obtain ⟨i,y⟩:=x; intro rows; simp [tI,ih]
theorem xB {A:Nat→Prop} {z:List AV} (h:jF A z) (n:Nat):yQ A (qZo n z):=by
 rw [yC]
 intro r hr
 rw [(List.mem_replicate.1 hr).2]
 exact h
theorem qP3 {e:Env} {nm len:Nat} {q:qG0} (hq:e.φ nm=.at q) (h0:q.off=0) (hl:len≤q.cap):RV e (.ns nm 0 len) (.slice (some ⟨q.block,0,none⟩) len q.cap) []:=by
 simp only [RV,hq,true_and]
 exact ⟨by omega,_,rfl,fun _=>by simp [h0]⟩
theorem qTi {zero:List AV} {len:Nat} {parts:List (Nat×Arg)} (hc:wX P num (.mkSl zero len parts) o.op=true) (hp:wO ρ h nx (.mkSl zero len parts)=some (p,v,fp,nx')) (hpp:p):Tri P num o ρ v fp:=by
 simp only [wX] at hc
 split at hc
 ·rename_i t l ps hop
  simp only [qZu,beq_iff_eq] at hc
  obtain ⟨rfl,hc⟩:=hc
  cases hel:bP P t with
  | none=>simp [hel] at hc
  | some el =>
   simp only [hel,qZu,decide_eq_true_eq] at hc
   obtain ⟨⟨⟨h1,h2⟩,h3⟩,h4⟩:=hc
   obtain ⟨i,z,hi,hs,hz,hzv,hzo⟩:=uU h1
   simp only [wO,Option.some.injEq,Prod.mk.injEq] at hp
   obtain ⟨rfl,rfl,rfl,_⟩:=hp
   refine Tri.of_new (rd:=[]) (by simp) (by simp) ?_
   intro e L0 H Lf A a hn hk _ hbt _ ht
   subst hn
   have hzl:=yP (gT (e:=e) hzv)
   have hzs:z.cells.size=zero.length:=by simpa using hzl
   have hf0:jW e zero.length (qZo l zero) ((Array.range (l*zero.length)).map (z.cells[· % z.cells.size]!)).toList []:=by
    have:=dX (e:=e) (gT hzv) ⟨rfl,hzo⟩ l
    have e1:((Array.range (l*zero.length)).map (z.cells[· % z.cells.size]!)).toList=(qZo l z.cells.toList).flatten:=by
     apply wA7
     intro j
     by_cases hj:j<l*zero.length
     ·rw [Array.getElem?_toList]
      exact qA1 hzs.symm j hj
     ·rw [wAf (by simp; omega),wAf (by simp [hzs]; omega)]
    rw [e1]
    exact this
   obtain ⟨arr',g1,g2⟩:=qHt (n:=l) ht parts ps.toList _ _ h4 hpp (by simp) hf0
   have hl2:=jY g2
   rw [tH] at hl2
   simp only [List.length_replicate,Array.length_toList] at hl2
   refine ⟨e.w,arr',el,l,arr'.toList,.slice (some ⟨e.w.heap.size,0,none⟩) l l,?_,⟨rfl,gE.refl _⟩,qB1 hbt parts ps.toList _ h4 (xB (dZ hzv) l),g2,?_,h2,?_,?_,?_⟩
   ·simp only [execOp,hop,Sem.run_bind,Instr.buildSlice,wK (dC hel),Result.andThen_ok,uG hi,hs]
    rw [if_neg (by omega)]
    have e2:(ps.map fun (i,x)=>(i,a.eval x)).toList=ps.toList.map fun x=>(x.1,a.eval x.2):=by simp
    by_cases hl0:l*zero.length=0
    ·rw [if_pos hl0,e2]
     have hl1:l=0:=by rcases Nat.mul_eq_zero.1 hl0 with h | h<;>omega
     simp only [hl0] at g1
     simp only [Sem.run_bind,Sem.run_pure,Result.andThen_ok,hl0]
     have e3:(Array.range 0).map (fun x=>(#[]:Array Value)[x%(#[]:Array Value).size]!)=(Array.range 0).map (z.cells[· % z.cells.size]!):=by simp
     rw [e3,g1]
     simp only [Sem.run_bind]
     rw [xL]
     rfl
    ·rw [if_neg hl0,e2]
     simp only [Sem.run_bind,dN hi hz,Result.andThen_ok,Sem.run_pure]
     rw [g1]
     simp only [Sem.run_bind]
     rw [xL]
     rfl
   ·intro j _; simp
   ·simp [tH]
   ·omega
   ·intro e' hφ
    exact qP3 hφ rfl (qZt _)
 ·simp at hc
theorem qN8 {n:Int} (h0:0≤n) (h1:n≤2^47):IntKind.i64.wrap n=n:=by
 unfold IntKind.wrap
 simp only [IntKind.bits,IntKind.signed]
 have:n%(2^64:Int)=n:=Int.emod_eq_of_lt h0 (by omega)
 simp only [this]
 rw [if_neg]
 simp
 omega
theorem qW6 {zero:List AV} {bytes:Nat} {l c:Arg} (hc:wX P num (.mkS zero bytes l c) o.op=true) (hp:wO ρ h nx (.mkS zero bytes l c)=some (p,v,fp,nx')) (hpp:p):Tri P num o ρ v fp:=by
 simp only [wX] at hc
 split at hc
 ·rename_i t l' c' hop
  simp only [qZu] at hc
  obtain ⟨⟨h1,h2⟩,hc⟩:=hc
  cases hel:bP P t with
  | none=>simp [hel] at hc
  | some el =>
   simp only [hel,qZu,decide_eq_true_eq] at hc
   obtain ⟨⟨h3,h4⟩,h5⟩:=hc
   obtain ⟨i,z,hi,hs,hz,hzv,hzo⟩:=uU h3
   obtain ⟨i',hi',hb⟩:=tS h5
   rw [hi] at hi'
   simp only [Option.some.injEq] at hi'
   subst hi'
   simp only [wO] at hp
   split at hp
   ·rename_i m n hx hy
    simp only [Option.some.injEq,Prod.mk.injEq] at hp
    obtain ⟨rfl,rfl,rfl,_⟩:=hp
    obtain ⟨rfl,p2,p3,p4⟩:=hpp
    refine Tri.of_new (rd:=[]) (by simp) (by simp) ?_
    intro e L0 H Lf A a hn hk _ hbt _ ht
    subst hn
    have hzl:=yP (gT (e:=e) hzv)
    have hzs:z.cells.size=zero.length:=by simpa using hzl
    have g1:=yD (ρ:=ρ) ht h1
    rw [hx] at g1
    have g2:=yD (ρ:=ρ) ht h2
    rw [hy] at g2
    have e1:=xO g1
    have e2:=xO g2
    refine ⟨e.w,(Array.range (m.toNat*zero.length)).map (z.cells[· % z.cells.size]!),el,m.toNat,(qZo m.toNat z.cells.toList).flatten,.slice (some ⟨e.w.heap.size,0,none⟩) m.toNat m.toNat,?_,⟨rfl,gE.refl _⟩,xB (dZ hzv) _,
     dX (gT hzv) ⟨rfl,hzo⟩ _,?_,h4,by simp,by simp,?_⟩
    ·simp only [execOp,hop,Sem.run_bind,Instr.makeSlice,wK (dC hel),Result.andThen_ok,e1,e2,asInt,asIntOf,Sem.run_pure,dY hi,hb]
     have w1:=qN8 p2 p4
     simp only [w1]
     have t0:(decide (m<0)||decide ((bytes:Int)*m>2^48))=false:=by
      simp
      omega
     have t1 :¬((((decide (m<0)||decide ((bytes:Int)*m>2^48))||decide (m<0))||decide (m>m))=true):=by
      rw [t0]; simp; omega
     rw [if_neg t1]
     simp only [Sem.run_bind,run_askRoom,Result.andThen_ok,uG hi,hs]
     by_cases hl0:m.toNat*zero.length=0
     ·rw [if_pos hl0]
      simp only [Sem.run_bind,Sem.run_pure,Result.andThen_ok,hl0]
      rw [xL]
      simp only [Result.andThen_ok]
      have e3:(Array.range 0).map (fun x=>(#[]:Array Value)[x%(#[]:Array Value).size]!)=(Array.range 0).map (z.cells[· % z.cells.size]!):=by simp
      rw [e3]
     ·rw [if_neg hl0]
      simp only [Sem.run_bind,dN hi hz,Result.andThen_ok,Sem.run_pure]
      rw [xL]
      rfl
    ·intro j hj
     refine qA1 hzs.symm j ?_
     have:=jY (dX (e:=e) (gT hzv) ⟨rfl,hzo⟩ m.toNat)
     rw [this] at hj
     simpa using hj
    ·intro e' hφ
     exact qP3 hφ rfl (qZt _)
   ·simp at hp
 ·simp at hc
end
end Go.Sep
namespace Go.Sep
set_option linter.unusedVariables false
set_option linter.unusedSimpArgs false
def hB (sz:Nat):Value→vA
 | .slice (some a) _ c=>if c=0 then .nilp else .at ⟨a.block,a.off,c,sz⟩
 | _=>.nilp
theorem eH :∀(l:List AV) (n:Nat),n≤(yR n l).2.2∧∀x∈(yR n l).2.1,n≤x.1∧x.1<(yR n l).2.2
 | [],n=>by simp [yR]
 | v::l,n=>by
  have h0:=eH l n
  have h1:=eH l (n+1)
  cases v
  case sl m sz rows =>
   cases m
   ·simp only [yR]
    refine ⟨by omega,fun x hx=>?_⟩
    rcases List.mem_cons.1 hx with rfl | hx
    ·exact ⟨qZt _,by show n<_; omega⟩
    ·have:=h1.2 x hx; omega
   all_goals simpa only [yR] using h0
  all_goals simpa only [yR] using h0
theorem mR :∀(l:List AV) (n:Nat),((yR n l).2.1.map (·.1)).Nodup
 | [],n=>by simp [yR]
 | v::l,n=>by
  have h0:=mR l n
  have h1:=mR l (n+1)
  cases v
  case sl m sz rows =>
   cases m
   ·simp only [yR,qZr,wAg]
    refine ⟨?_,h1⟩
    intro hm
    obtain ⟨x,hx,hxn⟩:=List.mem_map.1 hm
    have:=(eH l (n+1)).2 x hx
    omega
   all_goals simpa only [yR] using h0
  all_goals simpa only [yR] using h0
theorem kU :∀(l:List AV) (n:Nat),(yR n l).1.length=l.length
 | [],n=>rfl
 | v::l,n=>by
  cases v
  case sl m sz rows=>cases m<;>simp [yR,kU l]
  all_goals simp [yR,kU l]
theorem qE9 :∀(l:List AV) (n:Nat),l.all yM=true→(yR n l).1.all yM=true
 | [],n,_=>rfl
 | v::l,n,h=>by
  simp only [wA6,qZu] at h
  cases v
  case sl m sz rows=>cases m<;>simp [yR,qE9 l _ h.2]<;>rfl
  all_goals (simp only [yR,wA6,qE9 l _ h.2,Bool.and_true]; exact h.1)
theorem pX :∀(l:List AV) (n:Nat),(yR n l).2.1=[]→(yR n l).1=l
 | [],n,_=>rfl
 | v::l,n,h=>by
  cases v
  case sl m sz rows =>
   cases m
   ·simp [yR] at h
   all_goals (simp only [yR] at h⊢; rw [pX l n h])
  all_goals (simp only [yR] at h⊢; rw [pX l n h])
theorem qB6 {e:Env} {v:AV} {c:Value} {L:List Nat} (hv:yM v=true) (hs :∀sz rows,v≠.sl .own sz rows) (h:RV e v c L):L=[]:=by
 cases v
 case sl m sz rows =>
  cases m
  ·exact absurd rfl (hs sz rows)
  all_goals (simp only [RV] at h; exact h.1)
 case agg=>simp [yM] at hv
 case tup=>simp [yM] at hv
 all_goals simp only [RV] at h
 case any=>exact h
 case fn=>obtain ⟨_,_,_,h⟩:=h; exact h
 all_goals first | exact h.2 | exact h.1
theorem qLc {e:Env} {sz:Nat} {rows:List (List AV)} {c:Value} {L:List Nat} (h:RV e (.sl .own sz rows) c L):gF e (hB sz c) (sz,rows) L∧
  (∀e':Env,∀n,e'.φ n=hB sz c→RV e' (.ns n 0 rows.length) c []):=by
 simp only [RV] at h
 rcases h with ⟨rfl,rfl,a,rfl⟩ | ⟨p,Lr,⟨rfl,hc⟩,rfl,h2,h3,rfl⟩
 ·have hs:hB sz (.slice a 0 0)=.nilp:=by cases a<;>simp [hB]
  rw [hs]
  refine ⟨⟨rfl,rfl⟩,fun e' n hφ=>?_⟩
  simp only [RV,hφ,qZl,true_and]
  exact ⟨a,rfl⟩
 ·have hs:hB p.sz (.slice (some ⟨p.block,p.off,none⟩) rows.length p.cap)=.at ⟨p.block,p.off,p.cap,p.sz⟩:=by
   simp only [hB]
   rw [if_neg (by omega)]
  rw [hs]
  refine ⟨⟨rfl,h2,Lr,h3,rfl⟩,fun e' n hφ=>?_⟩
  simp only [RV,hφ,true_and]
  exact ⟨by simpa using h2.2.1,_,rfl,fun _=>by simp⟩
theorem gF.keep {e e':Env} {A:Nat→Prop} {s:vA} {row:Row} {L:List Nat} (k:dD e e' A L) (hb:yQ A row.2) (h:gF e s row L):gF e' s row L:=by
 unfold gF at h⊢
 cases s with
 | dead=>exact h
 | nilp=>exact h
 | «at» p =>
  obtain ⟨h0,h1,Lr,h2,rfl⟩:=h
  exact ⟨h0,h1.keep (k.own _ (by simp)),Lr,uD row.2 (k.sub (by simp +contextual)) hb (fun _ o=>uV (k.own _ (by simp)) o) h2,rfl⟩
theorem kS {e:Env} {A:Nat→Prop} :∀(l:List AV) (vs:List Value) (L:List Nat) (n:Nat),RVs e l vs L→l.all yM=true→jF A l→
  ∃S:List (Nat×vA×List Nat),S.map (·.1)=(yR n l).2.1.map (·.1)∧L=S.flatMap (·.2.2)∧
   ∀e',(∀x∈S,e'.φ x.1=x.2.1)→dD e e' A L→RVs e' (yR n l).1 vs []∧∀x∈S,∀row,(x.1,row)∈(yR n l).2.1→gF e' x.2.1 row x.2.2
 | [],vs,L,n,h,_,_=>by
  simp only [RVs] at h
  obtain ⟨rfl,rfl⟩:=h
  exact ⟨[],rfl,rfl,fun e' _ _=>⟨by simp [yR,RVs],by simp⟩⟩
 | v::l,vs,L,n,h,hok,hb=>by
  simp only [RVs] at h
  obtain ⟨c,vs',L1,L2,rfl,h1,h2,rfl⟩:=h
  simp only [wA6,qZu] at hok
  by_cases hv :∃sz rows,v=.sl .own sz rows
  ·obtain ⟨sz,rows,rfl⟩:=hv
   obtain ⟨S,s1,s2,s3⟩:=kS l vs' L2 (n+1) h2 hok.2 hb.2
   obtain ⟨o1,o2⟩:=qLc h1
   refine ⟨(n,hB sz c,L1)::S,by simp [yR,s1],by simp [s2],fun e' he hk=>?_⟩
   obtain ⟨g1,g2⟩:=s3 e' (fun x hx=>he x (by simp [hx])) (hk.sub (by simp +contextual))
   refine ⟨?_,fun x hx row hr=>?_⟩
   ·simp only [yR,RVs]
    exact ⟨c,vs',[],[],rfl,o2 e' n (he (n,hB sz c,L1) (by simp)),g1,rfl⟩
   ·simp only [yR] at hr
    rcases List.mem_cons.1 hx with rfl | hx
    ·rcases List.mem_cons.1 hr with hr | hr
     ·simp only [Prod.mk.injEq,true_and] at hr
      subst hr
      exact o1.keep (hk.sub (by simp +contextual)) hb.1
     ·have:=((eH l (n+1)).2 _ hr).1
      simp at this; omega
    ·rcases List.mem_cons.1 hr with hr | hr
     ·have hm:x.1∈S.map (·.1):=List.mem_map.2 ⟨x,hx,rfl⟩
      rw [s1] at hm
      obtain ⟨y,hy,hyx⟩:=List.mem_map.1 hm
      have:=((eH l (n+1)).2 y hy).1
      simp only [Prod.mk.injEq] at hr
      omega
     ·exact g2 x hx row hr
  ·have hf:=qB6 hok.1 (fun sz rows he=>hv ⟨sz,rows,he⟩) h1
   subst hf
   have ho:yR n (v::l)=(v::(yR n l).1,(yR n l).2.1,(yR n l).2.2):=by
    cases v
    case sl m sz rows =>
     cases m
     ·exact absurd ⟨_,_,rfl⟩ hv
     all_goals rfl
    all_goals rfl
   rw [ho]
   obtain ⟨S,s1,s2,s3⟩:=kS l vs' L2 n h2 hok.2 hb.2
   refine ⟨S,s1,by simpa using s2,fun e' he hk=>?_⟩
   obtain ⟨g1,g2⟩:=s3 e' he (hk.sub (by simp +contextual))
   refine ⟨?_,g2⟩
   simp only [RVs]
   exact ⟨c,vs',[],[],rfl,fV v (hk.sub (by simp)) hb.1 h1,g1,rfl⟩
theorem rK {e:Env} {r:List AV} {vs:List Value} {L:List Nat} (f n:Nat) (h:RVs e r vs L) (hf:f+n≤r.length) :
  ∃La Lm Lc,L=La++(Lm++Lc)∧RVs e (r.take f) (vs.take f) La∧RVs e ((r.drop f).take n) ((vs.drop f).take n) Lm∧RVs e (r.drop (f+n)) (vs.drop (f+n)) Lc:=by
 have h0:r=r.take f++((r.drop f).take n++r.drop (f+n)):=by
  rw [←wAh,wA0,wA0]
 rw [h0] at h
 obtain ⟨c1,c2,La,L2,h1,h2,h3,h4⟩:=(uC _ _).1 h
 obtain ⟨c3,c4,Lm,Lc,h5,h6,h7,h8⟩:=(uC _ _).1 h4
 have l1:=yP h3
 have l2:=yP h7
 rw [qZn,qZj (by omega)] at l1
 rw [qZn,wAi,qZj (by omega)] at l2
 subst h5
 subst h1
 refine ⟨La,Lm,Lc,by rw [h2,h6],?_,?_,?_⟩
 ·rw [wA1 l1]; exact h3
 ·rw [wA2 l1,wA1 l2]; exact h7
 ·have:List.drop (f+n) (c1++(c3++c4))=c4:=by rw [←wAh,wA2 l1,wA2 l2]
  rw [this]; exact h8
mutual
theorem tV :∀(v:AV),bnd (fun _=>True) v
 | .fn _ cap=>cN cap
 | .fptr _ cells _=>cN cells
 | .sl _ _ rows=>oU rows
 | .agg cs=>cN cs
 | .tup cs=>cN cs
 | .ptr _ _ _ | .ns _ _ _ | .any | .int _ _ | .bool _ | .str _ | .nilp | .nil | .nilI | .ifc=>trivial
theorem cN :∀(l:List AV),jF (fun _=>True) l
 | []=>trivial
 | c::cs=>⟨tV c,cN cs⟩
theorem oU :∀(l:List (List AV)),yQ (fun _=>True) l
 | []=>trivial
 | c::cs=>⟨cN c,oU cs⟩
end
theorem fN {α β:Type} {f:α→List β} {l:List α} {x:α} (h:(l.flatMap f).Nodup) (hx:x∈l):(f x).Nodup:=by
 induction l with
 | nil=>simp at hx
 | cons y l ih =>
  rw [wAj,wAk] at h
  rcases List.mem_cons.1 hx with rfl | hx
  ·exact h.1
  ·exact ih h.2.1 hx
theorem pI {α β:Type} {f:α→List β} {l:List α} {x y:α} {b:β} (h:(l.flatMap f).Nodup) (hx:x∈l) (hy:y∈l) (hne:x≠y) (h1:b∈f x) (h2:b∈f y):False:=by
 induction l with
 | nil=>simp at hx
 | cons z l ih =>
  rw [wAj,wAk] at h
  rcases List.mem_cons.1 hx with ex | hx'<;>rcases List.mem_cons.1 hy with ey | hy'
  ·exact hne (ex.trans ey.symm)
  ·exact h.2.2 b (ex▸h1) b (List.mem_flatMap.2 ⟨y,hy',h2⟩) rfl
  ·exact h.2.2 b (ey▸h2) b (List.mem_flatMap.2 ⟨x,hx',h1⟩) rfl
  ·exact ih h.2.1 hx' hy'
section
variable {P:Program} {num:Nat→Nat} {o:Oper} {ρ:Nat→AV} {h:wT} {nx nx':Nat} {p:Prop} {v:AV} {fp:FP}
theorem cZ {α:Type} {l:List α} {i:Nat} {d:α} (h:i<l.length):l.getD i d=l[i]:=by
 simp [qZw,h]
theorem qFp {e:Env} {q:qG0} {row:Row} {i f n:Nat} {Lr:List Nat} (hq:q.sz=row.1) (hr:yK e e.w q.block q.off q.sz row.2 Lr) (hi:i<row.2.length) (hf:f+n≤(row.2.getD i []).length) :
  ∃vs L1 L2 L3,((row.2.getD i []).length=q.sz∧(row.2.getD i []).all yM=true)∧vs.length=q.sz∧(∀j,j<q.sz→e.w.cell? ⟨q.block,q.off+i*q.sz+j,none⟩=vs[j]?)∧RVs e (row.2.getD i []) vs L2∧
   yK e e.w q.block q.off q.sz (row.2.take i) L1∧yK e e.w q.block (q.off+(i+1)*q.sz) q.sz (row.2.drop (i+1)) L3∧Lr=L1++(L2++L3)∧
   ((vs.drop f).take n).length=n∧(∀j,j<n→e.w.cell? ⟨q.block,q.off+i*q.sz+f+j,none⟩=((vs.drop f).take n)[j]?):=by
 obtain ⟨vs,L1,L2,L3,h1,h2,h3,h4,h5,h6,h7⟩:=eQ i hi hr
 rw [cZ hi] at hf⊢
 refine ⟨vs,L1,L2,L3,h1,h2,h3,h4,h5,h6,h7,by simp; omega,fun j hj=>?_⟩
 rw [show q.off+i*q.sz+f+j=q.off+i*q.sz+(f+j) by omega,h3 _ (by omega)]
 simp [hj]
theorem qDk {n:Nat} {ag:Bool} {x:Arg} {m:Mode} {cells:List AV} {f:Nat} (hc:wX P num (.load n ag x) o.op=true) (hx:x.ev ρ=.fptr m cells f) (hf:f+n≤cells.length) :
  aM P num o ρ (if ag then .agg ((cells.drop f).take n) else ((cells.drop f).take n).getD 0 .any) []:=by
 simp only [wX] at hc
 split at hc
 ·rename_i t y hop
  simp only [qZu,wA5,beq_iff_eq] at hc
  obtain ⟨⟨⟨h1,h2⟩,h3⟩,h4⟩:=hc
  obtain ⟨i,hi,hs⟩:=gY h2
  refine Tri.of_read (by simp) ?_
  intro e L0 H Lf a hn hk _ ht
  subst hn
  have g:=yD (ρ:=ρ) ht h1
  rw [hx] at g
  simp only [RV] at g
  obtain ⟨_,b,o',vs,g1,g2,g3,g4,g5⟩:=g
  have hl:((vs.drop f).take n).length=i.size:=by rw [hs]; simp; omega
  have hcell :∀w',lX e [] w'→∀j,j<i.size→w'.cell? ⟨b,o'+f+j,none⟩=((vs.drop f).take n)[j]?:=by
   intro w' hw' j hj
   rw [hw'.1 b (Env.frozen_or g2),hk.frozen_cell (Env.frozen_or g2),qZv,g4 _ (by omega)]
   simp [show j<n by omega]
  have hrv:=qFv n (qFw f g5)
  refine ⟨if ag then .agg ((vs.drop f).take n).toArray else ((vs.drop f).take n).getD 0 undef,?_,?_⟩
  ·intro w' hw'
   simp only [execOp,hop,g1,Sem.run_bind,Instr.loadAt,Instr.sureAddr,Sem.run_pure,Result.andThen_ok]
   rw [mF h3 hi (fun ha=>by rcases h4 with h4 | h4<;>simp_all) hl (hcell w' hw')]
   rfl
  ·cases ag with
   | true=>simp only [if_true,RV]; exact ⟨_,rfl,hrv⟩
   | false =>
    simp at h4
    subst h4
    simp only [qZq,if_false]
    obtain ⟨c,r1,r2⟩:=eP hrv 0 (by simp; omega)
    have e1:((vs.drop f).take 1).getD 0 undef=c:=by rw [qZw,r1]; rfl
    rw [e1,cZ (by simp; omega)]
    exact r2
 ·simp at hc
theorem qBn {w:World} {a:Act} {n:Nat} {ag:Bool} {y:Operand} {t:TypeId} {i:TypeInfo} {b o':Nat} {vs:List Value} (hop:o.op=.load t y) (hi:P.info? t=some i) (hs:i.size=n) (h3:qCt P t=some ag) (h4:ag=true∨n=1)
  (hy:a.eval y=.pointer (some ⟨b,o',none⟩)) (hl:vs.length=n) (hcell :∀j,j<n→w.cell? ⟨b,o'+j,none⟩=vs[j]?) :
  (execOp a.eval o).run P w=.ok (.value (if ag then .agg vs.toArray else vs.getD 0 undef)) w:=by
 subst hs
 simp only [execOp,hop,hy,Sem.run_bind,Instr.loadAt,Instr.sureAddr,Sem.run_pure,Result.andThen_ok]
 rw [mF h3 hi (fun ha=>by rcases h4 with h4 | h4<;>simp_all) hl hcell]
 rfl
theorem qBd {e:Env} {n:Nat} {ag:Bool} {cs:List AV} {vs:List Value} (h4:ag=true∨n=1) (hl:cs.length=n) (h:RVs e cs vs []) :
  RV e (if ag then .agg cs else cs.getD 0 .any) (if ag then .agg vs.toArray else vs.getD 0 undef) []:=by
 cases ag with
 | true=>simp only [if_true,RV]; exact ⟨_,rfl,h⟩
 | false =>
  simp at h4
  subst h4
  simp only [qZq,if_false]
  obtain ⟨c,r1,r2⟩:=eP h 0 (by omega)
  have e1:vs.getD 0 undef=c:=by rw [qZw,r1]; rfl
  rw [e1,cZ (by omega)]
  exact r2
theorem bQ {H:Nat→Option Row} :∀{l:List (Nat×Row)} {n:Nat},(l.map (·.1)).Nodup→(∀row,(n,row)∈l→upH H (fresh l) n=some row)∧(n∉l.map (·.1)→upH H (fresh l) n=H n)
 | [],n,_=>⟨by simp,fun _=>rfl⟩
 | (m,r)::l,n,hnd=>by
  simp only [qZr,wAg] at hnd
  have ih:=bQ (H:=fun k=>if k=m then some r else H k) (l:=l) (n:=n) hnd.2
  refine ⟨fun row hr=>?_,fun hn=>?_⟩
  ·show upH _ (fresh l) n=_
   rcases List.mem_cons.1 hr with hr | hr
   ·simp only [Prod.mk.injEq] at hr
    obtain ⟨rfl,rfl⟩:=hr
    rw [ih.2 hnd.1,if_pos rfl]
   ·exact ih.1 row hr
  ·simp only [qZr,qZs,not_or] at hn
   show upH _ (fresh l) n=_
   rw [ih.2 hn.2,if_neg hn.1]
def hO (S:List (Nat×vA×List Nat)) (φ:Nat→vA) (n:Nat):vA:=match S.find? (·.1==n) with
 | some x=>x.2.1
 | none=>φ n
def nT (S:List (Nat×vA×List Nat)) (Lf:Nat→List Nat) (n:Nat):List Nat:=match S.find? (·.1==n) with
 | some x=>x.2.2
 | none=>Lf n
theorem tG {S:List (Nat×vA×List Nat)} (hnd:(S.map (·.1)).Nodup) {x:Nat×vA×List Nat} (hx:x∈S):S.find? (·.1==x.1)=some x:=by
 induction S with
 | nil=>simp at hx
 | cons y S ih =>
  simp only [qZr,wAg] at hnd
  rcases List.mem_cons.1 hx with rfl | hx
  ·simp
  ·have:y.1≠x.1:=fun he=>hnd.1 (List.mem_map.2 ⟨x,hx,he.symm⟩)
   simp [this,ih hnd.2 hx]
theorem qB0 {S:List (Nat×vA×List Nat)} {n:Nat} (h:n∉S.map (·.1)):S.find? (·.1==n)=none:=by
 rw [List.find?_eq_none]
 intro x hx
 simp
 exact fun he=>h (List.mem_map.2 ⟨x,hx,he⟩)
theorem qDj {n:Nat} {ag:Bool} {x:Arg} {nm i f:Nat} {row:Row} (hc:wX P num (.load n ag x) o.op=true) (hx:x.ev ρ=.ptr nm i f) (hi:i<row.2.length) (hf:f+n≤(row.2.getD i []).length) :
  aM P num o ρ (if ag then .agg (yR nx (((row.2.getD i []).drop f).take n)).1 else (yR nx (((row.2.getD i []).drop f).take n)).1.getD 0 .any)
   ((nm,some row,some (if (yR nx (((row.2.getD i []).drop f).take n)).2.1.isEmpty then row else (row.1,row.2.set i (bZ (row.2.getD i []) f (yR nx (((row.2.getD i []).drop f).take n)).1))))::fresh (yR nx (((row.2.getD i []).drop f).take n)).2.1):=by
 simp only [wX] at hc
 split at hc
 ·rename_i t y hop
  simp only [qZu,wA5,beq_iff_eq] at hc
  obtain ⟨⟨⟨h1,h2⟩,h3⟩,h4⟩:=hc
  obtain ⟨ti,hti,hs⟩:=gY h2
  generalize hol:yR nx (((row.2.getD i []).drop f).take n)=ol
  have hlen0:(((row.2.getD i []).drop f).take n).length=n:=by rw [qZn,wAi]; omega
  have olen:ol.1.length=n:=by rw [←hol,kU,hlen0]
  by_cases hno:ol.2.1=[]
  ·rw [hno]
   have h5:ol.1=((row.2.getD i []).drop f).take n:=by rw [←hol]; exact pX _ _ (by rw [hol]; exact hno)
   simp only [List.isEmpty_nil,if_true]
   refine Tri.of_read (by simp [fresh]) ?_
   intro e L0 H Lf a hn hk hpre ht
   subst hn
   have hr:=hk.rh.row nm row (hpre (nm,some row,some row) (by simp [fresh]))
   have g:=yD (ρ:=ρ) ht h1
   rw [hx] at g
   obtain ⟨q,hq,g2⟩:=pS hr g
   have hr':=hr
   unfold uT gF at hr'
   rw [hq] at hr'
   obtain ⟨q1,q2,Lr,q3,q4⟩:=hr'
   obtain ⟨vs,L1,L2,L3,r1,r2,r3,r4,r5,r6,r7,r8,r9⟩:=qFp q1 q3 hi hf
   refine ⟨_,fun w' hw'=>qBn hop hti hs h3 h4 g2 r8 (fun j hj=>by rw [uV (hw'.2 (nm,some row,some row) (by simp [fresh]) q hq)]; exact r9 j hj),qBd h4 olen ?_⟩
   obtain ⟨La,Lm,Lc,s1,s2,s3,s4⟩:=rK f n r4 hf
   have hall:(((row.2.getD i []).drop f).take n).all yM=true:=List.all_eq_true.2 fun c hc=>List.all_eq_true.1 r1.2 c (wAl (wAm hc))
   obtain ⟨S,t1,t2,t3⟩:=kS (A:=fun _=>True) _ _ _ nx s3 hall (jO.2 fun c _=>tV c)
   have hS:S=[]:=by
    have:(yR nx (((row.2.getD i []).drop f).take n)).2.1=[]:=by rw [hol]; exact hno
    rw [this] at t1
    simpa using t1
   subst hS
   rw [h5]
   simp only [List.flatMap_nil] at t2
   subst t2
   exact s3
  ·have hne:ol.2.1.isEmpty=false:=by cases h:ol.2.1 with | nil=>exact absurd h hno | cons=>rfl
   simp only [hne,qZq,if_false]
   intro e L0 H Lf A a hn hk hpre hbt hbh hfr ht
   subst hn
   have hrow:H nm=some row:=hpre _ wAn
   have hr:=hk.rh.row nm row hrow
   have g:=yD (ρ:=ρ) ht h1
   rw [hx] at g
   obtain ⟨q,hq,g2⟩:=pS hr g
   have hr':=hr
   unfold uT gF at hr'
   rw [hq] at hr'
   obtain ⟨q1,q2,Lr,q3,q4⟩:=hr'
   obtain ⟨vs,L1,L2,L3,r1,r2,r3,r4,r5,r6,r7,r8,r9⟩:=qFp q1 q3 hi hf
   obtain ⟨La,Lm,Lc,s1,s2,s3,s4⟩:=rK f n r4 hf
   have hrb:=hbh nm row hrow
   have hrb1:jF A (row.2.getD i []):=by rw [cZ hi]; exact yC.1 hrb _ (wAo hi)
   have hall:(((row.2.getD i []).drop f).take n).all yM=true:=List.all_eq_true.2 fun c hc=>List.all_eq_true.1 r1.2 c (wAl (wAm hc))
   obtain ⟨S,t1,t2,t3⟩:=kS (A:=A) _ _ _ nx s3 hall (jO.2 fun c hc=>jO.1 hrb1 c (wAl (wAm hc)))
   rw [hol] at t1 t3
   have nd:(ol.2.1.map (·.1)).Nodup:=by rw [←hol]; exact mR _ _
   have ndS:(S.map (·.1)).Nodup:=by rw [t1]; exact nd
   have hfresh :∀m,m∈ol.2.1.map (·.1)→H m=none∧¬A m:=by
    intro m hm
    obtain ⟨y',hy,rfl⟩:=List.mem_map.1 hm
    have hmem:(y'.1,none,some y'.2)∈fresh ol.2.1:=List.mem_map.2 ⟨y',hy,rfl⟩
    exact ⟨hpre _ (wAp _ hmem),hfr _ (wAp _ hmem) rfl⟩
   have hnmS:nm∉ol.2.1.map (·.1):=fun hm=>by have:=(hfresh nm hm).1; rw [hrow] at this; simp at this
   let e':Env:={e with φ:=hO S e.φ}
   have φS :∀z∈S,e'.φ z.1=z.2.1:=fun z hz=>by show hO S e.φ z.1=_; unfold hO; rw [tG ndS hz]
   have φn :∀m,m∉S.map (·.1)→e'.φ m=e.φ m:=fun m hm=>by show hO S e.φ m=_; unfold hO; rw [qB0 hm]
   have kp :∀L,dD e e' A L:=fun L=>{
    num:=rfl
    fr:=fun m b h=>by cases m<;>exact h
    cells:=fun b _ o=>rfl
    φ:=fun m hA=>.inl (φn m (fun hm=>(hfresh m (by rw [←t1]; exact hm)).2 hA))
    own:=fun b _=>rfl}
   obtain ⟨u1,u2⟩:=t3 e' φS (kp _)
   let Lf':Nat→List Nat:=fun m=>if m=nm then q.block::(L1++((La++Lc)++L3)) else nT S Lf m
   have LfS :∀z∈S,Lf' z.1=z.2.2:=fun z hz=>by
    have hz1:z.1≠nm:=fun he=>hnmS (by rw [←t1]; exact List.mem_map.2 ⟨z,hz,he⟩)
    show (if z.1=nm then _ else nT S Lf z.1)=_
    rw [if_neg hz1]; unfold nT; rw [tG ndS hz]
   have LfN:Lf' nm=q.block::(L1++((La++Lc)++L3)):=if_pos rfl
   have hLf:Lf nm=q.block::(L1++((La++(Lm++Lc))++L3)):=by rw [q4,r7,s1]
   have hnd:=hk.rh.nodup nm (by simp [hrow])
   rw [hLf] at hnd
   have hblk:=hk.rh.blk nm (by simp [hrow])
   rw [hLf] at hblk
   have subLm :∀z∈S,∀b∈z.2.2,b∈Lm:=fun z hz b hb=>by rw [t2]; exact List.mem_flatMap.2 ⟨z,hz,hb⟩
   have hH :∀m,upH H ((nm,some row,some (row.1,row.2.set i (bZ (row.2.getD i []) f ol.1)))::fresh ol.2.1) m=if m=nm then some (row.1,row.2.set i (bZ (row.2.getD i []) f ol.1)) else upH H (fresh ol.2.1) m:=by
    intro m
    show upH (fun k=>if k=nm then _ else H k) (fresh ol.2.1) m=_
    by_cases hm:m∈ol.2.1.map (·.1)
    ·obtain ⟨y',hy,rfl⟩:=List.mem_map.1 hm
     have hne':y'.1≠nm:=fun he=>hnmS (he▸hm)
     rw [(bQ nd).1 y'.2 hy,if_neg hne',(bQ nd).1 y'.2 hy]
    ·rw [(bQ nd).2 hm,(bQ nd).2 hm]
   have fI :∀m,m∈((nm,some row,some (row.1,row.2.set i (bZ (row.2.getD i []) f ol.1)))::fresh ol.2.1:FP).map (·.1)↔m=nm∨m∈S.map (·.1):=by
    intro m
    rw [t1]
    simp [fresh]
   have hrv:RVs e' ol.1 ((vs.drop f).take n) []:=u1
   refine ⟨_,fun w' hw'=>qBn hop hti hs h3 h4 g2 r8 (fun j hj=>by rw [uV (hw'.2 _ wAn q hq)]; exact r9 j hj),e',Lf',rfl,?_,qBd h4 olen hrv⟩
   refine {num:=rfl,w0:=rfl,Fr:=rfl,Bo:=rfl,io:=gE.refl _,size:=qZt _,keep:=fun b _ _=>rfl,φ:=?_,φF:=?_,rest:=?_,row:=?_,nodup:=?_,blk:=?_,dis:=?_,dead:=?_}
   ·intro m hm
    exact φn m (fun h=>hm ((fI m).2 (.inr h)))
   ·intro m hm hH'
    refine .inl (φn m (fun h=>?_))
    exact hH' (hfresh m (by rw [←t1]; exact h)).1
   ·intro m hm
    have hm':m≠nm∧m∉S.map (·.1):=by
     refine ⟨fun h=>hm ((fI m).2 (.inl h)),fun h=>hm ((fI m).2 (.inr h))⟩
    rw [hH,if_neg hm'.1,(bQ nd).2 (by rw [←t1]; exact hm'.2)]
   ·intro m row' hm hrow'
    rw [hH] at hrow'
    by_cases he:m=nm
    ·subst he
     rw [if_pos rfl] at hrow'
     simp only [Option.some.injEq] at hrow'
     subst hrow'
     have hφ:e'.φ m=.at q:=by rw [φn m (by rw [t1]; exact hnmS)]; exact hq
     rw [LfN]
     unfold uT gF
     rw [hφ]
     refine ⟨q1,?_,_,?_,rfl⟩
     ·simp only [List.length_set]; exact q2
     ·have hrlen:(bZ (row.2.getD i []) f ol.1).length=q.sz∧(bZ (row.2.getD i []) f ol.1).all yM=true:=by
       refine ⟨?_,?_⟩
       ·rw [←r1.1]; exact hP _ _ _ (by rw [olen]; exact hf)
       ·have:=qE9 (((row.2.getD i []).drop f).take n) nx hall
        rw [hol] at this
        unfold bZ
        simp only [wAq,qZu]
        exact ⟨⟨List.all_eq_true.2 fun c hc=>List.all_eq_true.1 r1.2 c (wAm hc),this⟩,List.all_eq_true.2 fun c hc=>List.all_eq_true.1 r1.2 c (wAl hc)⟩
      have hb1:yQ A (row.2.take i):=yC.2 fun r hr=>yC.1 hrb r (wAm hr)
      have hb3:yQ A (row.2.drop (i+1)):=yC.2 fun r hr=>yC.1 hrb r (wAl hr)
      refine rM (vs:=vs) i hi hrlen r2 r3 ?_ (uD _ (kp _) hb1 (fun _ _=>rfl) r5) (uD _ (kp _) hb3 (fun _ _=>rfl) r6)
      have hvs:vs=vs.take f++(vs.drop f).take n++vs.drop (f+n):=by
       rw [wA8,←wAh,wA0,wA0]
      rw [hvs]
      unfold bZ
      rw [olen]
      refine (uC _ _).2 ⟨_,_,La,Lc,rfl,rfl,(uC _ _).2 ⟨_,_,La,[],rfl,by simp,?_,hrv⟩,?_⟩
      ·exact dW _ (kp _) (jO.2 fun c hc=>jO.1 hrb1 c (wAm hc)) s2
      ·exact dW _ (kp _) (jO.2 fun c hc=>jO.1 hrb1 c (wAl hc)) s4
    ·rw [if_neg he] at hrow'
     have hmS:m∈S.map (·.1):=((fI m).1 hm).resolve_left he
     obtain ⟨z,hz,rfl⟩:=List.mem_map.1 hmS
     have hz':z.1∈ol.2.1.map (·.1):=by rw [←t1]; exact hmS
     obtain ⟨y',hy,hyz⟩:=List.mem_map.1 hz'
     have hy2:(z.1,y'.2)∈ol.2.1:=by rw [←hyz]; exact hy
     rw [(bQ nd).1 y'.2 hy2] at hrow'
     simp only [Option.some.injEq] at hrow'
     subst hrow'
     rw [LfS z hz]
     unfold uT
     rw [φS z hz]
     exact u2 z hz y'.2 hy2
   ·intro m hm _
    rcases (fI m).1 hm with rfl | hmS
    ·rw [LfN]
     exact hnd.sublist (List.Sublist.cons_cons _ ((List.Sublist.refl _).append (((List.Sublist.refl _).append (wAr _ _)).append (List.Sublist.refl _))))
    ·obtain ⟨z,hz,rfl⟩:=List.mem_map.1 hmS
     rw [LfS z hz]
     have hLm:Lm.Nodup:=by
      refine hnd.sublist ?_
      exact (((wAs Lm Lc).trans (wAr La _)).trans (wAs _ L3)).trans ((wAr L1 _).trans (wAt _ _))
     rw [t2] at hLm
     exact fN (f:=fun x:Nat×vA×List Nat=>x.2.2) hLm hz
   ·intro m hm _ b hb
    rcases (fI m).1 hm with rfl | hmS
    ·rw [LfN] at hb
     have hb':b∈Lf m:=by
      rw [hLf]
      simp only [qZs,wAu] at hb⊢
      rcases hb with h | h | (h | h) | h
      ·exact .inl h
      ·exact .inr (.inl h)
      ·exact .inr (.inr (.inl (.inl h)))
      ·exact .inr (.inr (.inl (.inr (.inr h))))
      ·exact .inr (.inr (.inr h))
     exact ⟨(hk.rh.blk m (by simp [hrow]) b hb').1,.inr ⟨m,hm,by simp [hrow],hb'⟩⟩
    ·obtain ⟨z,hz,rfl⟩:=List.mem_map.1 hmS
     rw [LfS z hz] at hb
     have hb':b∈Lf nm:=by
      rw [hLf]
      have:=subLm z hz b hb
      simp [this]
     exact ⟨(hk.rh.blk nm (by simp [hrow]) b hb').1,.inr ⟨nm,(fI nm).2 (.inl rfl),by simp [hrow],hb'⟩⟩
   ·have key :∀z∈S,∀b∈z.2.2,b∉q.block::(L1++((La++Lc)++L3)):=by
     intro z hz b hb hb2
     have hm:=subLm z hz b hb
     rw [wAg] at hnd
     obtain ⟨n1,n2⟩:=hnd
     rw [wAk] at n2
     obtain ⟨_,n3,n4⟩:=n2
     rw [wAk] at n3
     obtain ⟨n5,_,n6⟩:=n3
     rw [wAk] at n5
     obtain ⟨_,n7,n8⟩:=n5
     rw [wAk] at n7
     obtain ⟨_,_,n9⟩:=n7
     rcases List.mem_cons.1 hb2 with h | h
     ·subst h; exact n1 (by simp [hm])
     ·rcases List.mem_append.1 h with h | h
      ·exact n4 b h b (by simp [hm]) rfl
      ·rcases List.mem_append.1 h with h | h
       ·rcases List.mem_append.1 h with h | h
        ·exact n8 b h b (by simp [hm]) rfl
        ·exact n9 b hm b h rfl
       ·exact n6 b (by simp [hm]) b h rfl
    intro m1 m2 hm1 hm2 _ _ hne' b hb1 hb2
    rcases (fI m1).1 hm1 with rfl | h1'<;>rcases (fI m2).1 hm2 with rfl | h2'
    ·exact hne' rfl
    ·obtain ⟨z,hz,rfl⟩:=List.mem_map.1 h2'
     rw [LfN] at hb1; rw [LfS z hz] at hb2
     exact key z hz b hb2 hb1
    ·obtain ⟨z,hz,rfl⟩:=List.mem_map.1 h1'
     rw [LfN] at hb2; rw [LfS z hz] at hb1
     exact key z hz b hb1 hb2
    ·obtain ⟨z,hz,rfl⟩:=List.mem_map.1 h1'
     obtain ⟨z2,hz2,rfl⟩:=List.mem_map.1 h2'
     rw [LfS z hz] at hb1; rw [LfS z2 hz2] at hb2
     have hLm:Lm.Nodup:=by
      refine hnd.sublist ?_
      exact (((wAs Lm Lc).trans (wAr La _)).trans (wAs _ L3)).trans ((wAr L1 _).trans (wAt _ _))
     rw [t2] at hLm
     exact pI (f:=fun x:Nat×vA×List Nat=>x.2.2) hLm hz hz2 (fun he=>hne' (by rw [he])) hb1 hb2
   ·intro m hm hno'
    rw [hH] at hno'
    rcases (fI m).1 hm with rfl | hmS
    ·simp at hno'
    ·obtain ⟨z,hz,rfl⟩:=List.mem_map.1 hmS
     have hz':z.1∈ol.2.1.map (·.1):=by rw [←t1]; exact hmS
     obtain ⟨y',hy,hyz⟩:=List.mem_map.1 hz'
     have hy2:(z.1,y'.2)∈ol.2.1:=by rw [←hyz]; exact hy
     have hne':z.1≠nm:=fun he=>hnmS (he▸hz')
     rw [if_neg hne',(bQ nd).1 y'.2 hy2] at hno'
     simp at hno'
 ·simp at hc
end
end Go.Sep
namespace Go.Sep
set_option linter.unusedVariables false
set_option linter.unusedSimpArgs false
section
variable {P:Program} {num:Nat→Nat} {o:Oper} {ρ:Nat→AV} {h:wT} {nx nx':Nat} {p:Prop} {v:AV} {fp:FP}
theorem qH4 (w:World) (b:Nat) (o:Obj):gE w (World.setBlk w b o):=⟨rfl,rfl,rfl⟩
theorem dI.one {e:Env} {L0:List Nat} {H:Nat→Option Row} {Lf:Nat→List Nat} {nm:Nat} {row row':Row} {w':World} {L':List Nat} {b:Nat} (hk:Ok e L0 H Lf) (hrow:H nm=some row) (hb:b∈Lf nm)
  (hio:gE e.w w') (hs:w'.heap.size=e.w.heap.size) (hw :∀c,c≠b→w'.heap[c]?=e.w.heap[c]?) (hr:uT {e with w:=w'} nm row' L') (hnd:L'.Nodup) (hsub :∀c∈L',c∈Lf nm) :
  dI e H Lf (fun n=>n∈([(nm,some row,some row')]:FP).map (·.1)) {e with w:=w'} (upH H [(nm,some row,some row')]) (fun n=>if n=nm then L' else Lf n):=by
 have hF :∀n,n∈([(nm,some row,some row')]:FP).map (·.1)↔n=nm:=by simp
 have hH :∀n,upH H [(nm,some row,some row')] n=if n=nm then some row' else H n:=fun n=>rfl
 refine {num:=rfl,w0:=rfl,Fr:=rfl,Bo:=rfl,io:=hio,size:=by simp [hs],keep:=?_,φ:=fun _ _=>rfl,φF:=fun _ _ _=>.inl rfl,rest:=?_,row:=?_,nodup:=?_,blk:=?_,dis:=?_,dead:=?_}
 ·intro c _ hc
  exact hw c (fun he=>hc nm ((hF nm).2 rfl) (by simp [hrow]) (he▸hb))
 ·intro n hn
  rw [hH,if_neg (fun he=>hn ((hF n).2 he))]
 ·intro n r hn hr'
  obtain rfl:=(hF n).1 hn
  rw [hH,if_pos rfl] at hr'
  simp only [Option.some.injEq] at hr'
  subst hr'
  simpa using hr
 ·intro n hn _
  obtain rfl:=(hF n).1 hn
  simpa using hnd
 ·intro n hn _ c hc
  obtain rfl:=(hF n).1 hn
  simp only [if_true] at hc
  exact ⟨by simp only [hs]; exact (hk.rh.blk n (by simp [hrow]) c (hsub c hc)).1,.inr ⟨n,hn,by simp [hrow],hsub c hc⟩⟩
 ·intro n m hn hm _ _ hne
  exact absurd (((hF n).1 hn).trans ((hF m).1 hm).symm) hne
 ·intro n hn hno
  obtain rfl:=(hF n).1 hn
  rw [hH,if_pos rfl] at hno
  simp at hno
theorem qQs {n:Nat} {x z:Arg} {nm i f:Nat} {row:Row} (hc:wX P num (.store n x z) o.op=true) (hx:x.ev ρ=.ptr nm i f) (hi:i<row.2.length) (hf:f+n≤(row.2.getD i []).length)
  (hz:(cellsOf (z.ev ρ)).length=n) (hzo:(cellsOf (z.ev ρ)).all yM=true) :
  Tri P num o ρ .any [(nm,some row,some (row.1,row.2.set i (bZ (row.2.getD i []) f (cellsOf (z.ev ρ)))))]:=by
 simp only [wX] at hc
 split at hc
 ·rename_i t y u hop
  simp only [qZu] at hc
  obtain ⟨⟨h1,h2⟩,h3⟩:=hc
  obtain ⟨ti,hti,hs⟩:=gY h3
  intro e L0 H Lf A a K Q hn hk hpre hbt hbh hfr ht k
  subst hn
  have hrow:H nm=some row:=hpre _ wAn
  have hr:=hk.rh.row nm row hrow
  have g:=yD (ρ:=ρ) ht h1
  rw [hx] at g
  have gz:=fR hzo (yD (ρ:=ρ) ht h2)
  have gzl:=yP gz
  obtain ⟨q,hq,g2⟩:=pS hr g
  have hr':=hr
  unfold uT gF at hr'
  rw [hq] at hr'
  obtain ⟨q1,q2,Lr,q3,q4⟩:=hr'
  obtain ⟨vs,L1,L2,L3,r1,r2,r3,r4,r5,r6,r7,r8,r9⟩:=qFp q1 q3 hi hf
  obtain ⟨La,Lm,Lc,s1,s2,s3,s4⟩:=rK f n r4 hf
  have hrb:=hbh nm row hrow
  have hrb1:jF A (row.2.getD i []):=by rw [cZ hi]; exact yC.1 hrb _ (wAo hi)
  obtain ⟨sz0,q5,arr,ty,q6,q7⟩:=q2
  have husz:(a.eval u).cells.size=n:=by simp at gzl; omega
  have husl:(a.eval u).cells.toList.length=n:=by simpa using husz
  have hroom:q.off+i*q.sz+f+n≤arr.size:=by
   have h5:(i+1)*q.sz≤q.cap*q.sz:=wAe _ (by omega)
   rw [qZm] at h5
   have h6:=r1.1
   omega
  have hrun:(execOp a.eval o).run P e.w=.ok .skip (World.setBlk e.w q.block (.cells (vQ arr (q.off+i*q.sz+f) (a.eval u).cells.toList) ty (0,0))):=by
   simp only [execOp,hop,g2,Sem.run_bind,Instr.storeAt,Instr.sureAddr,Sem.run_pure,Result.andThen_ok]
   rw [qJ8 hti (by rw [hs]; exact husz) q6 (qB5 hzo gz) (by rw [hs]; exact hroom)]
   rfl
  have hbl:q.block<e.w.heap.size:=(Array.getElem?_eq_some_iff.1 q6).1
  have hLf:Lf nm=q.block::(L1++((La++(Lm++Lc))++L3)):=by rw [q4,r7,s1]
  have hnd:=hk.rh.nodup nm (by simp [hrow])
  rw [hLf] at hnd
  have hnb :∀b∈L1++((La++(Lm++Lc))++L3),b≠q.block:=fun b hb he=>(List.nodup_cons.1 hnd).1 (he▸hb)
  have kp :∀L:List Nat,(∀b∈L,b∈L1++((La++(Lm++Lc))++L3))→dD e {e with w:=World.setBlk e.w q.block (.cells (vQ arr (q.off+i*q.sz+f) (a.eval u).cells.toList) ty (0,0))} A L:=fun L hL=>{
   num:=rfl
   fr:=fun m b h=>by cases m<;>exact h
   cells:=fun b _ o=>rfl
   φ:=fun nm hA=>.inl rfl
   own:=fun b hb=>zM _ _ _ _ (fun he=>hnb b (hL b hb) he.symm)}
  have hblk:(World.setBlk e.w q.block (.cells (vQ arr (q.off+i*q.sz+f) (a.eval u).cells.toList) ty (0,0))).heap[q.block]?=some (.cells (vQ arr (q.off+i*q.sz+f) (a.eval u).cells.toList) ty (0,0)):=oC _ _ _ hbl
  have hcell :∀j,j<q.off+i*q.sz+f∨q.off+i*q.sz+f+n≤j→(World.setBlk e.w q.block (.cells (vQ arr (q.off+i*q.sz+f) (a.eval u).cells.toList) ty (0,0))).cell? ⟨q.block,j,none⟩=e.w.cell? ⟨q.block,j,none⟩:=by
   intro j hj
   rw [zK hblk,zK q6,zT _ _ _ _ (by rw [husl]; exact hj)]
  refine qN9 hrun (k _ _ undef (dI.one (b:=q.block) (L':=q.block::(L1++((La++Lc)++L3))) hk hrow (by rw [hLf]; simp) (qH4 _ _ _) (fJ _ _ _) (fun c hc=>zM _ _ _ _ (fun he=>hc he.symm)) ?_ ?_ ?_) (by simp [RV]))
  ·unfold uT gF
   simp only [hq]
   refine ⟨q1,⟨sz0,by simpa using q5,_,ty,hblk,by rw [nU]; exact q7⟩,_,?_,rfl⟩
   have hb1:yQ A (row.2.take i):=yC.2 fun r hr=>yC.1 hrb r (wAm hr)
   have hb3:yQ A (row.2.drop (i+1)):=yC.2 fun r hr=>yC.1 hrb r (wAl hr)
   have htl:(row.2.take i).length=i:=by simp; omega
   have hdl:(row.2.drop (i+1)).length=row.2.length-(i+1):=by simp
   have m1:(i+1)*q.sz=i*q.sz+q.sz:=by rw [qZm]; omega
   have r11:=r1.1
   have hrlen:(bZ (row.2.getD i []) f (cellsOf (z.ev ρ))).length=q.sz∧(bZ (row.2.getD i []) f (cellsOf (z.ev ρ))).all yM=true:=by
    refine ⟨by rw [←r1.1]; exact hP _ _ _ (by rw [hz]; exact hf),?_⟩
    unfold bZ
    simp only [wAq,qZu]
    exact ⟨⟨List.all_eq_true.2 fun c hc=>List.all_eq_true.1 r1.2 c (wAm hc),hzo⟩,List.all_eq_true.2 fun c hc=>List.all_eq_true.1 r1.2 c (wAl hc)⟩
   refine rM (vs:=vs.take f++(a.eval u).cells.toList++vs.drop (f+n)) i hi hrlen (by simp; omega) ?_ ?_
    (fX _ (fun j h1 h2=>hcell j (.inl ?_)) (uD _ (kp _ (by simp +contextual)) hb1 (fun _ _=>rfl) r5))
    (fX _ (fun j h1 h2=>hcell j (.inr ?_)) (uD _ (kp _ (by simp +contextual)) hb3 (fun _ _=>rfl) r6))
   ·intro j hj
    by_cases j1:j<f
    ·rw [hcell _ (.inl (by omega)),r3 j hj,wA8,wA9 (by simp; omega)]
     simp [j1]
    ·by_cases j2:j<f+n
     ·rw [zK hblk,show q.off+i*q.sz+j=q.off+i*q.sz+f+(j-f) by omega,oW _ _ _ _ (by omega) (by rw [husl]; exact hroom)]
      have e1:(vs.take f).length=f:=by simp; omega
      rw [wA8,qZk (by omega),e1,wA9 (by omega)]
     ·rw [hcell _ (.inr (by omega)),r3 j hj]
      have e1:(vs.take f++(a.eval u).cells.toList).length=f+n:=by rw [wAa,husl]; simp; omega
      rw [qZk (by omega),e1]
      simp
      congr 1
      omega
   ·unfold bZ
    rw [hz]
    refine (uC _ _).2 ⟨_,_,La,Lc,rfl,rfl,(uC _ _).2 ⟨_,_,La,[],rfl,by simp,?_,?_⟩,?_⟩
    ·exact dW _ (kp _ (by simp +contextual)) (jO.2 fun c hc=>jO.1 hrb1 c (wAm hc)) s2
    ·exact dW _ (kp _ (by simp)) (xV (uB hbt h2)) gz
    ·exact dW _ (kp _ (by simp +contextual)) (jO.2 fun c hc=>jO.1 hrb1 c (wAl hc)) s4
   ·rw [htl] at h2
    omega
   ·omega
  ·exact hnd.sublist (List.Sublist.cons_cons _ ((List.Sublist.refl _).append (((List.Sublist.refl _).append (wAr _ _)).append (List.Sublist.refl _))))
  ·intro b hb
   rw [hLf]
   simp only [qZs,wAu] at hb⊢
   rcases hb with h | h | (h | h) | h
   ·exact .inl h
   ·exact .inr (.inl h)
   ·exact .inr (.inr (.inl (.inl h)))
   ·exact .inr (.inr (.inl (.inr (.inr h))))
   ·exact .inr (.inr (.inr h))
 ·simp at hc
end
end Go.Sep

