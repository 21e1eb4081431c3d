/- The symbolic values of the executor, and what it means that a value of the model's memory is one of them. No program in sight. -/
import Derived.Calls
import Derived.Orders
import Derived.Laws.Sem
import Derived.Laws.World
import Derived.KernelRfl
namespace Go.Sep
set_option linter.unusedVariables false
set_option linter.unusedSimpArgs false

inductive Mode where
  | own | bw | fz
  deriving DecidableEq

/-- Symbolic values. 'ns': a slice of a named row of our own; 'sl': a slice told by what it holds (own: nobody else holds it; bw: borrowed for this call; fz: never written any more); 'ptr': an address in a named row; 'fptr': an address of an element that is never written. -/
inductive AV where
  | any
  | int (k : IntKind) (n : Int)
  | bool (b : Bool)
  | str (s : ByteArray)
  | fn (f : Nat) (cap : List AV)
  | nilp
  | ptr (nm i f : Nat)
  | fptr (m : Mode) (cells : List AV) (f : Nat)
  | nil
  | nilI
  | ifc
  | ns (nm off len : Nat)
  | sl (m : Mode) (sz : Nat) (rows : List (List AV))
  | agg (cells : List AV)
  | tup (vs : List AV)

/-- How many cells an element has, and the elements. -/
abbrev Row := Nat × List (List AV)
abbrev Heap := List (Nat × Row)

/-- What may stand in one cell of memory. -/
def cellOk : AV → Bool
  | .any | .agg _ | .tup _ => false
  | _ => true

structure Place where
  block : Nat
  off : Nat
  cap : Nat
  sz : Nat

inductive Spot where
  | dead | nilp | at (p : Place)

structure Env where
  num : Nat → Nat
  w : World
  w0 : World
  φ : Nat → Spot
  Fr : Nat → Prop
  Bo : Nat → Prop

def Env.frozen (e : Env) : Mode → Nat → Prop
  | .own, _ => False
  | .bw, b => e.Fr b ∨ e.Bo b
  | .fz, b => e.Fr b

/-- A row's block is our own: it lies there, is not frozen, and has room for the whole capacity. -/
def OwnBlk (w : World) (p : Place) (len : Nat) : Prop :=
  0 < p.sz ∧ len ≤ p.cap ∧ ∃ arr ty, w.heap[p.block]? = some (.cells arr ty (0, 0)) ∧ p.off + p.cap * p.sz ≤ arr.size

mutual
/-- v is the symbolic value, and L are the blocks that it owns. -/
def RV (e : Env) : AV → Value → List Nat → Prop
  | .any, _, L => L = []
  | .int k n, v, L => v = .int k n ∧ L = []
  | .bool b, v, L => v = .bool b ∧ L = []
  | .str s, v, L => v = .string s ∧ L = []
  | .fn f cap, v, L => ∃ vs : List Value, v = .func (.func (e.num f)) #[] vs.toArray ∧ RVs e cap vs L ∧ L = []
  | .nilp, v, L => v = .pointer none ∧ L = []
  | .ptr nm i f, v, L => L = [] ∧ (match e.φ nm with
    | .dead => ∃ a, v = .pointer a
    | .nilp => False
    | .at p => v = .pointer (some ⟨p.block, p.off + i * p.sz + f, none⟩))
  | .fptr m cells f, v, L => L = [] ∧ ∃ b o vs, v = .pointer (some ⟨b, o + f, none⟩) ∧ e.frozen m b ∧ vs.length = cells.length ∧
      (∀ j, j < cells.length → e.w0.cell? ⟨b, o + j, none⟩ = vs[j]?) ∧ RVs e cells vs []
  | .nil, v, L => v = .slice none 0 0 ∧ L = []
  | .nilI, v, L => v = .nilIface ∧ L = []
  | .ifc, v, L => (∃ t u, v = .iface t u) ∧ L = []
  | .ns nm off len, v, L => L = [] ∧ (match e.φ nm with
    | .dead => ∃ a l c, v = .slice a l c
    | .nilp => off = 0 ∧ len = 0 ∧ ∃ a, v = .slice a 0 0
    | .at p => off + len ≤ p.cap ∧ ∃ a, v = .slice (some a) len (p.cap - off) ∧ (off < p.cap → a = ⟨p.block, p.off + off * p.sz, none⟩))
  | .sl .own sz rows, v, L => (rows = [] ∧ L = [] ∧ ∃ a, v = .slice a 0 0) ∨ ∃ p Lr, (p.sz = sz ∧ 0 < p.cap) ∧ v = .slice (some ⟨p.block, p.off, none⟩) rows.length p.cap ∧
      OwnBlk e.w p rows.length ∧ RRows e e.w p.block p.off p.sz rows Lr ∧ L = p.block :: Lr
  | .sl m sz rows, v, L => L = [] ∧ ((rows = [] ∧ ∃ a c, v = .slice a 0 c ∧ (a = none → c = 0)) ∨ ∃ b o c, v = .slice (some ⟨b, o, none⟩) rows.length c ∧ rows.length ≤ c ∧
      e.frozen m b ∧ RRows e e.w0 b o sz rows [])
  | .agg cs, v, L => ∃ vs : List Value, v = .agg vs.toArray ∧ RVs e cs vs L
  | .tup cs, v, L => ∃ vs : List Value, v = .tuple vs.toArray ∧ RVs e cs vs L
def RVs (e : Env) : List AV → List Value → List Nat → Prop
  | [], vs, L => vs = [] ∧ L = []
  | c :: cs, vs, L => ∃ v vs' L1 L2, vs = v :: vs' ∧ RV e c v L1 ∧ RVs e cs vs' L2 ∧ L = L1 ++ L2
def RRows (e : Env) (W : World) (b o sz : Nat) : List (List AV) → List Nat → Prop
  | [], L => L = []
  | r :: rs, L => ∃ vs L1 L2, (r.length = sz ∧ r.all cellOk = true) ∧ vs.length = sz ∧ (∀ j, j < sz → W.cell? ⟨b, o + j, none⟩ = vs[j]?) ∧ RVs e r vs L1 ∧ RRows e W b (o + sz) sz rs L2 ∧ L = L1 ++ L2
end


mutual
/-- All names in it are among A. -/
def bnd (A : Nat → Prop) : AV → Prop
  | .fn _ cap => bnds A cap
  | .ptr nm _ _ => A nm
  | .fptr _ cells _ => bnds A cells
  | .ns nm _ _ => A nm
  | .sl _ _ rows => bndr A rows
  | .agg cs => bnds A cs
  | .tup cs => bnds A cs
  | _ => True
def bnds (A : Nat → Prop) : List AV → Prop
  | [] => True
  | c :: cs => bnd A c ∧ bnds A cs
def bndr (A : Nat → Prop) : List (List AV) → Prop
  | [] => True
  | r :: rs => bnds A r ∧ bndr A rs
end

theorem bnds_iff {A : Nat → Prop} {l : List AV} : bnds A l ↔ ∀ x ∈ l, bnd A x := by
  induction l with
  | nil => simp [bnds]
  | cons a l ih => simp [bnds, ih]

theorem bndr_iff {A : Nat → Prop} {l : List (List AV)} : bndr A l ↔ ∀ x ∈ l, bnds A x := by
  induction l with
  | nil => simp [bndr]
  | cons a l ih => simp [bndr, ih]

mutual
theorem bnd_mono {A B : Nat → Prop} (h : ∀ n, A n → B n) : ∀ (v : AV), bnd A v → bnd B v
  | .fn _ cap, hb => bnds_mono h cap hb
  | .ptr nm _ _, hb => h nm hb
  | .fptr _ cells _, hb => bnds_mono h cells hb
  | .ns nm _ _, hb => h nm hb
  | .sl _ _ rows, hb => bndr_mono h rows hb
  | .agg cs, hb => bnds_mono h cs hb
  | .tup cs, hb => bnds_mono h cs hb
  | .any, _ | .int _ _, _ | .bool _, _ | .str _, _ | .nilp, _ | .nil, _ | .nilI, _ | .ifc, _ => trivial
theorem bnds_mono {A B : Nat → Prop} (h : ∀ n, A n → B n) : ∀ (l : List AV), bnds A l → bnds B l
  | [], _ => trivial
  | c :: cs, hb => ⟨bnd_mono h c hb.1, bnds_mono h cs hb.2⟩
theorem bndr_mono {A B : Nat → Prop} (h : ∀ n, A n → B n) : ∀ (l : List (List AV)), bndr A l → bndr B l
  | [], _ => trivial
  | c :: cs, hb => ⟨bnds_mono h c hb.1, bndr_mono h cs hb.2⟩
end

/-- e' tells of all that e tells, as far as the names A and the blocks L go. -/
structure Keeps (e e' : Env) (A : Nat → Prop) (L : List Nat) : Prop where
  num : e'.num = e.num
  fr : ∀ m b, e.frozen m b → e'.frozen m b
  cells : ∀ b, e.Fr b ∨ e.Bo b → ∀ o, e'.w0.cell? ⟨b, o, none⟩ = e.w0.cell? ⟨b, o, none⟩
  φ : ∀ nm, A nm → e'.φ nm = e.φ nm ∨ e'.φ nm = .dead
  own : ∀ b ∈ L, e'.w.heap[b]? = e.w.heap[b]?

theorem Keeps.sub {e e' : Env} {A : Nat → Prop} {L L' : List Nat} (k : Keeps e e' A L) (h : ∀ b ∈ L', b ∈ L) : Keeps e e' A L' :=
  ⟨k.num, k.fr, k.cells, k.φ, fun b hb => k.own b (h b hb)⟩

theorem Env.frozen_or {e : Env} {m : Mode} {b : Nat} (h : e.frozen m b) : e.Fr b ∨ e.Bo b := by
  cases m <;> simp [Env.frozen] at h
  · exact h
  · exact .inl h

theorem cell_of_heap {w w' : World} {b : Nat} (h : w'.heap[b]? = w.heap[b]?) (o : Nat) : w'.cell? ⟨b, o, none⟩ = w.cell? ⟨b, o, none⟩ := by
  simp only [World.cell?, h]

theorem OwnBlk.keep {w w' : World} {p : Place} {len : Nat} (h : w'.heap[p.block]? = w.heap[p.block]?) (ho : OwnBlk w p len) : OwnBlk w' p len := by
  obtain ⟨h1, h2, arr, ty, h3, h4⟩ := ho
  exact ⟨h1, h2, arr, ty, by rw [h, h3], h4⟩

mutual
theorem RV_keep {e e' : Env} {A : Nat → Prop} : ∀ (v : AV) {c : Value} {L : List Nat}, Keeps e e' A L → bnd A v → RV e v c L → RV e' v c L
  | .any, _, _, _, _, h => h
  | .int .., _, _, _, _, h => h
  | .bool .., _, _, _, _, h => h
  | .str .., _, _, _, _, h => h
  | .nilp, _, _, _, _, h => h
  | .nil, _, _, _, _, h => h
  | .nilI, _, _, _, _, h => h
  | .ifc, _, _, _, _, h => h
  | .fn f cap, _, _, k, hb, h => by
    simp only [RV] at h ⊢
    obtain ⟨vs, h1, h2, h3⟩ := h
    exact ⟨vs, by rw [k.num]; exact h1, RVs_keep cap k hb h2, h3⟩
  | .ptr nm i f, _, _, k, hb, h => by
    simp only [RV] at h ⊢
    refine ⟨h.1, ?_⟩
    rcases k.φ nm hb with hp | hp
    · rw [hp]; exact h.2
    · rw [hp]
      obtain ⟨_, h⟩ := h
      cases hq : e.φ nm <;> rw [hq] at h
      · exact h
      · exact h.elim
      · exact ⟨_, h⟩
  | .fptr m cells f, _, _, k, hb, h => by
    simp only [RV] at h ⊢
    obtain ⟨h0, b, o, vs, h1, h2, h3, h4, h5⟩ := h
    subst h0
    exact ⟨rfl, b, o, vs, h1, k.fr m b h2, h3, fun j hj => by rw [k.cells b (Env.frozen_or h2)]; exact h4 j hj, RVs_keep cells k hb h5⟩
  | .ns nm off len, _, _, k, hb, h => by
    simp only [RV] at h ⊢
    refine ⟨h.1, ?_⟩
    rcases k.φ nm hb with hp | hp
    · rw [hp]; exact h.2
    · rw [hp]
      obtain ⟨_, h⟩ := h
      cases hq : e.φ nm <;> rw [hq] at h
      · exact h
      · obtain ⟨_, _, a, h⟩ := h
        exact ⟨_, _, _, h⟩
      · obtain ⟨_, a, h, _⟩ := h
        exact ⟨_, _, _, h⟩
  | .sl .own sz rows, _, _, k, hb, h => by
    simp only [RV] at h ⊢
    rcases h with h | ⟨p, Lr, h0, h1, h2, h3, h4⟩
    · exact .inl h
    · subst h4
      refine .inr ⟨p, Lr, h0, h1, h2.keep (k.own _ (by simp)), ?_, rfl⟩
      exact RRows_keep rows (k.sub (by simp +contextual)) hb (fun hne o' => cell_of_heap (k.own _ (by simp)) o') h3
  | .sl .bw sz rows, _, _, k, hb, h => by
    simp only [RV] at h ⊢
    obtain ⟨h0, h⟩ := h
    subst h0
    refine ⟨rfl, ?_⟩
    rcases h with h | ⟨b, o, c, h1, h2, h3, h4⟩
    · exact .inl h
    · exact .inr ⟨b, o, c, h1, h2, k.fr _ b h3, RRows_keep rows k hb (fun _ o' => k.cells b (Env.frozen_or h3) o') h4⟩
  | .sl .fz sz rows, _, _, k, hb, h => by
    simp only [RV] at h ⊢
    obtain ⟨h0, h⟩ := h
    subst h0
    refine ⟨rfl, ?_⟩
    rcases h with h | ⟨b, o, c, h1, h2, h3, h4⟩
    · exact .inl h
    · exact .inr ⟨b, o, c, h1, h2, k.fr _ b h3, RRows_keep rows k hb (fun _ o' => k.cells b (Env.frozen_or h3) o') h4⟩
  | .agg cs, _, _, k, hb, h => by
    simp only [RV] at h ⊢
    obtain ⟨vs, h1, h2⟩ := h
    exact ⟨vs, h1, RVs_keep cs k hb h2⟩
  | .tup cs, _, _, k, hb, h => by
    simp only [RV] at h ⊢
    obtain ⟨vs, h1, h2⟩ := h
    exact ⟨vs, h1, RVs_keep cs k hb h2⟩
theorem RVs_keep {e e' : Env} {A : Nat → Prop} : ∀ (l : List AV) {cs : List Value} {L : List Nat}, Keeps e e' A L → bnds A l → RVs e l cs L → RVs e' l cs L
  | [], _, _, _, _, h => by simpa only [RVs] using h
  | c :: cs, _, _, k, hb, h => by
    simp only [RVs] at h ⊢
    obtain ⟨v, vs', L1, L2, h1, h2, h3, h4⟩ := h
    subst h4
    exact ⟨v, vs', L1, L2, h1, RV_keep c (k.sub (by simp +contextual)) hb.1 h2, RVs_keep cs (k.sub (by simp +contextual)) hb.2 h3, rfl⟩
theorem RRows_keep {e e' : Env} {A : Nat → Prop} : ∀ (rs : List (List AV)) {W W' : World} {b o sz : Nat} {L : List Nat}, Keeps e e' A L → bndr A rs →
    (rs ≠ [] → ∀ o', W'.cell? ⟨b, o', none⟩ = W.cell? ⟨b, o', none⟩) → RRows e W b o sz rs L → RRows e' W' b o sz rs L
  | [], _, _, _, _, _, _, _, _, _, h => by simpa only [RRows] using h
  | r :: rs, W, W', b, o, sz, L, k, hb, hW, h => by
    simp only [RRows] at h ⊢
    obtain ⟨vs, L1, L2, h1, h2, h3, h4, h5, h6⟩ := h
    subst h6
    exact ⟨vs, L1, L2, h1, h2, fun j hj => by rw [hW (by simp)]; exact h3 j hj, RVs_keep r (k.sub (by simp +contextual)) hb.1 h4,
      RRows_keep rs (k.sub (by simp +contextual)) hb.2 (fun _ => hW (by simp)) h5, rfl⟩
end

end Go.Sep
