/- The executor of symbolic states: the texts Core Heap Frame Exec Run Tri Chk, one after the other. No condition. -/
import Derived.Calls
import Derived.Orders
import Derived.Laws.Sem
import Derived.Laws.World
import Derived.KernelRfl
/- The symbolic values of the executor, and what it means that a value of the model's memory is one of them. No program in sight. -/
namespace Go.Sep
set_option linter.unusedVariables false
set_option linter.unusedSimpArgs false

inductive Mode where
  | own | bw | fz
  deriving DecidableEq

/-- Symbolic values. 'ns': a slice of a named row of our own; 'sl': a slice told by what it holds (own: nobody else holds it; bw: borrowed for this call; fz: never written any more); 'ptr': an address in a named row; 'fptr': an address of an element that is never written. -/
inductive AV where
  | any
  | int (k : IntKind) (n : Int)
  | bool (b : Bool)
  | str (s : ByteArray)
  | fn (f : Nat) (cap : List AV)
  | nilp
  | ptr (nm i f : Nat)
  | fptr (m : Mode) (cells : List AV) (f : Nat)
  | nil
  | nilI
  | ifc
  | ns (nm off len : Nat)
  | sl (m : Mode) (sz : Nat) (rows : List (List AV))
  | agg (cells : List AV)
  | tup (vs : List AV)

/-- How many cells an element has, and the elements. -/
abbrev Row := Nat × List (List AV)
abbrev Heap := List (Nat × Row)

/-- What may stand in one cell of memory. -/
def cellOk : AV → Bool
  | .any | .agg _ | .tup _ => false
  | _ => true

structure Place where
  block : Nat
  off : Nat
  cap : Nat
  sz : Nat

inductive Spot where
  | dead | nilp | at (p : Place)

structure Env where
  num : Nat → Nat
  w : World
  w0 : World
  φ : Nat → Spot
  Fr : Nat → Prop
  Bo : Nat → Prop

def Env.frozen (e : Env) : Mode → Nat → Prop
  | .own, _ => False
  | .bw, b => e.Fr b ∨ e.Bo b
  | .fz, b => e.Fr b

/-- A row's block is our own: it lies there, is not frozen, and has room for the whole capacity. -/
def OwnBlk (w : World) (p : Place) (len : Nat) : Prop :=
  0 < p.sz ∧ len ≤ p.cap ∧ ∃ arr ty, w.heap[p.block]? = some (.cells arr ty (0, 0)) ∧ p.off + p.cap * p.sz ≤ arr.size

mutual
/-- v is the symbolic value, and L are the blocks that it owns. -/
def RV (e : Env) : AV → Value → List Nat → Prop
  | .any, _, L => L = []
  | .int k n, v, L => v = .int k n ∧ L = []
  | .bool b, v, L => v = .bool b ∧ L = []
  | .str s, v, L => v = .string s ∧ L = []
  | .fn f cap, v, L => ∃ vs : List Value, v = .func (.func (e.num f)) #[] vs.toArray ∧ RVs e cap vs L ∧ L = []
  | .nilp, v, L => v = .pointer none ∧ L = []
  | .ptr nm i f, v, L => L = [] ∧ (match e.φ nm with
    | .dead => ∃ a, v = .pointer a
    | .nilp => False
    | .at p => v = .pointer (some ⟨p.block, p.off + i * p.sz + f, none⟩))
  | .fptr m cells f, v, L => L = [] ∧ ∃ b o vs, v = .pointer (some ⟨b, o + f, none⟩) ∧ e.frozen m b ∧ vs.length = cells.length ∧
      (∀ j, j < cells.length → e.w0.cell? ⟨b, o + j, none⟩ = vs[j]?) ∧ RVs e cells vs []
  | .nil, v, L => v = .slice none 0 0 ∧ L = []
  | .nilI, v, L => v = .nilIface ∧ L = []
  | .ifc, v, L => (∃ t u, v = .iface t u) ∧ L = []
  | .ns nm off len, v, L => L = [] ∧ (match e.φ nm with
    | .dead => ∃ a l c, v = .slice a l c
    | .nilp => off = 0 ∧ len = 0 ∧ ∃ a, v = .slice a 0 0
    | .at p => off + len ≤ p.cap ∧ ∃ a, v = .slice (some a) len (p.cap - off) ∧ (off < p.cap → a = ⟨p.block, p.off + off * p.sz, none⟩))
  | .sl .own sz rows, v, L => (rows = [] ∧ L = [] ∧ ∃ a, v = .slice a 0 0) ∨ ∃ p Lr, (p.sz = sz ∧ 0 < p.cap) ∧ v = .slice (some ⟨p.block, p.off, none⟩) rows.length p.cap ∧
      OwnBlk e.w p rows.length ∧ RRows e e.w p.block p.off p.sz rows Lr ∧ L = p.block :: Lr
  | .sl m sz rows, v, L => L = [] ∧ ((rows = [] ∧ ∃ a c, v = .slice a 0 c ∧ (a = none → c = 0)) ∨ ∃ b o c, v = .slice (some ⟨b, o, none⟩) rows.length c ∧ rows.length ≤ c ∧
      e.frozen m b ∧ RRows e e.w0 b o sz rows [])
  | .agg cs, v, L => ∃ vs : List Value, v = .agg vs.toArray ∧ RVs e cs vs L
  | .tup cs, v, L => ∃ vs : List Value, v = .tuple vs.toArray ∧ RVs e cs vs L
def RVs (e : Env) : List AV → List Value → List Nat → Prop
  | [], vs, L => vs = [] ∧ L = []
  | c :: cs, vs, L => ∃ v vs' L1 L2, vs = v :: vs' ∧ RV e c v L1 ∧ RVs e cs vs' L2 ∧ L = L1 ++ L2
def RRows (e : Env) (W : World) (b o sz : Nat) : List (List AV) → List Nat → Prop
  | [], L => L = []
  | r :: rs, L => ∃ vs L1 L2, (r.length = sz ∧ r.all cellOk = true) ∧ vs.length = sz ∧ (∀ j, j < sz → W.cell? ⟨b, o + j, none⟩ = vs[j]?) ∧ RVs e r vs L1 ∧ RRows e W b (o + sz) sz rs L2 ∧ L = L1 ++ L2
end


mutual
/-- All names in it are among A. -/
def bnd (A : Nat → Prop) : AV → Prop
  | .fn _ cap => bnds A cap
  | .ptr nm _ _ => A nm
  | .fptr _ cells _ => bnds A cells
  | .ns nm _ _ => A nm
  | .sl _ _ rows => bndr A rows
  | .agg cs => bnds A cs
  | .tup cs => bnds A cs
  | _ => True
def bnds (A : Nat → Prop) : List AV → Prop
  | [] => True
  | c :: cs => bnd A c ∧ bnds A cs
def bndr (A : Nat → Prop) : List (List AV) → Prop
  | [] => True
  | r :: rs => bnds A r ∧ bndr A rs
end

theorem bnds_iff {A : Nat → Prop} {l : List AV} : bnds A l ↔ ∀ x ∈ l, bnd A x := by
  induction l with
  | nil => simp [bnds]
  | cons a l ih => simp [bnds, ih]

theorem bndr_iff {A : Nat → Prop} {l : List (List AV)} : bndr A l ↔ ∀ x ∈ l, bnds A x := by
  induction l with
  | nil => simp [bndr]
  | cons a l ih => simp [bndr, ih]

mutual
theorem bnd_mono {A B : Nat → Prop} (h : ∀ n, A n → B n) : ∀ (v : AV), bnd A v → bnd B v
  | .fn _ cap, hb => bnds_mono h cap hb
  | .ptr nm _ _, hb => h nm hb
  | .fptr _ cells _, hb => bnds_mono h cells hb
  | .ns nm _ _, hb => h nm hb
  | .sl _ _ rows, hb => bndr_mono h rows hb
  | .agg cs, hb => bnds_mono h cs hb
  | .tup cs, hb => bnds_mono h cs hb
  | .any, _ | .int _ _, _ | .bool _, _ | .str _, _ | .nilp, _ | .nil, _ | .nilI, _ | .ifc, _ => trivial
theorem bnds_mono {A B : Nat → Prop} (h : ∀ n, A n → B n) : ∀ (l : List AV), bnds A l → bnds B l
  | [], _ => trivial
  | c :: cs, hb => ⟨bnd_mono h c hb.1, bnds_mono h cs hb.2⟩
theorem bndr_mono {A B : Nat → Prop} (h : ∀ n, A n → B n) : ∀ (l : List (List AV)), bndr A l → bndr B l
  | [], _ => trivial
  | c :: cs, hb => ⟨bnds_mono h c hb.1, bndr_mono h cs hb.2⟩
end

/-- e' tells of all that e tells, as far as the names A and the blocks L go. -/
structure Keeps (e e' : Env) (A : Nat → Prop) (L : List Nat) : Prop where
  num : e'.num = e.num
  fr : ∀ m b, e.frozen m b → e'.frozen m b
  cells : ∀ b, e.Fr b ∨ e.Bo b → ∀ o, e'.w0.cell? ⟨b, o, none⟩ = e.w0.cell? ⟨b, o, none⟩
  φ : ∀ nm, A nm → e'.φ nm = e.φ nm ∨ e'.φ nm = .dead
  own : ∀ b ∈ L, e'.w.heap[b]? = e.w.heap[b]?

theorem Keeps.sub {e e' : Env} {A : Nat → Prop} {L L' : List Nat} (k : Keeps e e' A L) (h : ∀ b ∈ L', b ∈ L) : Keeps e e' A L' :=
  ⟨k.num, k.fr, k.cells, k.φ, fun b hb => k.own b (h b hb)⟩

theorem Env.frozen_or {e : Env} {m : Mode} {b : Nat} (h : e.frozen m b) : e.Fr b ∨ e.Bo b := by
  cases m <;> simp [Env.frozen] at h
  · exact h
  · exact .inl h

theorem cell_of_heap {w w' : World} {b : Nat} (h : w'.heap[b]? = w.heap[b]?) (o : Nat) : w'.cell? ⟨b, o, none⟩ = w.cell? ⟨b, o, none⟩ := by
  simp only [World.cell?, h]

theorem OwnBlk.keep {w w' : World} {p : Place} {len : Nat} (h : w'.heap[p.block]? = w.heap[p.block]?) (ho : OwnBlk w p len) : OwnBlk w' p len := by
  obtain ⟨h1, h2, arr, ty, h3, h4⟩ := ho
  exact ⟨h1, h2, arr, ty, by rw [h, h3], h4⟩

mutual
theorem RV_keep {e e' : Env} {A : Nat → Prop} : ∀ (v : AV) {c : Value} {L : List Nat}, Keeps e e' A L → bnd A v → RV e v c L → RV e' v c L
  | .any, _, _, _, _, h => h
  | .int .., _, _, _, _, h => h
  | .bool .., _, _, _, _, h => h
  | .str .., _, _, _, _, h => h
  | .nilp, _, _, _, _, h => h
  | .nil, _, _, _, _, h => h
  | .nilI, _, _, _, _, h => h
  | .ifc, _, _, _, _, h => h
  | .fn f cap, _, _, k, hb, h => by
    simp only [RV] at h ⊢
    obtain ⟨vs, h1, h2, h3⟩ := h
    exact ⟨vs, by rw [k.num]; exact h1, RVs_keep cap k hb h2, h3⟩
  | .ptr nm i f, _, _, k, hb, h => by
    simp only [RV] at h ⊢
    refine ⟨h.1, ?_⟩
    rcases k.φ nm hb with hp | hp
    · rw [hp]; exact h.2
    · rw [hp]
      obtain ⟨_, h⟩ := h
      cases hq : e.φ nm <;> rw [hq] at h
      · exact h
      · exact h.elim
      · exact ⟨_, h⟩
  | .fptr m cells f, _, _, k, hb, h => by
    simp only [RV] at h ⊢
    obtain ⟨h0, b, o, vs, h1, h2, h3, h4, h5⟩ := h
    subst h0
    exact ⟨rfl, b, o, vs, h1, k.fr m b h2, h3, fun j hj => by rw [k.cells b (Env.frozen_or h2)]; exact h4 j hj, RVs_keep cells k hb h5⟩
  | .ns nm off len, _, _, k, hb, h => by
    simp only [RV] at h ⊢
    refine ⟨h.1, ?_⟩
    rcases k.φ nm hb with hp | hp
    · rw [hp]; exact h.2
    · rw [hp]
      obtain ⟨_, h⟩ := h
      cases hq : e.φ nm <;> rw [hq] at h
      · exact h
      · obtain ⟨_, _, a, h⟩ := h
        exact ⟨_, _, _, h⟩
      · obtain ⟨_, a, h, _⟩ := h
        exact ⟨_, _, _, h⟩
  | .sl .own sz rows, _, _, k, hb, h => by
    simp only [RV] at h ⊢
    rcases h with h | ⟨p, Lr, h0, h1, h2, h3, h4⟩
    · exact .inl h
    · subst h4
      refine .inr ⟨p, Lr, h0, h1, h2.keep (k.own _ (by simp)), ?_, rfl⟩
      exact RRows_keep rows (k.sub (by simp +contextual)) hb (fun hne o' => cell_of_heap (k.own _ (by simp)) o') h3
  | .sl .bw sz rows, _, _, k, hb, h => by
    simp only [RV] at h ⊢
    obtain ⟨h0, h⟩ := h
    subst h0
    refine ⟨rfl, ?_⟩
    rcases h with h | ⟨b, o, c, h1, h2, h3, h4⟩
    · exact .inl h
    · exact .inr ⟨b, o, c, h1, h2, k.fr _ b h3, RRows_keep rows k hb (fun _ o' => k.cells b (Env.frozen_or h3) o') h4⟩
  | .sl .fz sz rows, _, _, k, hb, h => by
    simp only [RV] at h ⊢
    obtain ⟨h0, h⟩ := h
    subst h0
    refine ⟨rfl, ?_⟩
    rcases h with h | ⟨b, o, c, h1, h2, h3, h4⟩
    · exact .inl h
    · exact .inr ⟨b, o, c, h1, h2, k.fr _ b h3, RRows_keep rows k hb (fun _ o' => k.cells b (Env.frozen_or h3) o') h4⟩
  | .agg cs, _, _, k, hb, h => by
    simp only [RV] at h ⊢
    obtain ⟨vs, h1, h2⟩ := h
    exact ⟨vs, h1, RVs_keep cs k hb h2⟩
  | .tup cs, _, _, k, hb, h => by
    simp only [RV] at h ⊢
    obtain ⟨vs, h1, h2⟩ := h
    exact ⟨vs, h1, RVs_keep cs k hb h2⟩
theorem RVs_keep {e e' : Env} {A : Nat → Prop} : ∀ (l : List AV) {cs : List Value} {L : List Nat}, Keeps e e' A L → bnds A l → RVs e l cs L → RVs e' l cs L
  | [], _, _, _, _, h => by simpa only [RVs] using h
  | c :: cs, _, _, k, hb, h => by
    simp only [RVs] at h ⊢
    obtain ⟨v, vs', L1, L2, h1, h2, h3, h4⟩ := h
    subst h4
    exact ⟨v, vs', L1, L2, h1, RV_keep c (k.sub (by simp +contextual)) hb.1 h2, RVs_keep cs (k.sub (by simp +contextual)) hb.2 h3, rfl⟩
theorem RRows_keep {e e' : Env} {A : Nat → Prop} : ∀ (rs : List (List AV)) {W W' : World} {b o sz : Nat} {L : List Nat}, Keeps e e' A L → bndr A rs →
    (rs ≠ [] → ∀ o', W'.cell? ⟨b, o', none⟩ = W.cell? ⟨b, o', none⟩) → RRows e W b o sz rs L → RRows e' W' b o sz rs L
  | [], _, _, _, _, _, _, _, _, _, h => by simpa only [RRows] using h
  | r :: rs, W, W', b, o, sz, L, k, hb, hW, h => by
    simp only [RRows] at h ⊢
    obtain ⟨vs, L1, L2, h1, h2, h3, h4, h5, h6⟩ := h
    subst h6
    exact ⟨vs, L1, L2, h1, h2, fun j hj => by rw [hW (by simp)]; exact h3 j hj, RVs_keep r (k.sub (by simp +contextual)) hb.1 h4,
      RRows_keep rs (k.sub (by simp +contextual)) hb.2 (fun _ => hW (by simp)) h5, rfl⟩
end

end Go.Sep

/- Rows by name: how they lie in the model's memory, and what a step that touches some of them leaves of the others. -/
namespace Go.Sep
set_option linter.unusedVariables false
set_option linter.unusedSimpArgs false

theorem RVs_append {e : Env} : ∀ (xs ys : List AV) {cs : List Value} {L : List Nat},
    RVs e (xs ++ ys) cs L ↔ ∃ c1 c2 L1 L2, cs = c1 ++ c2 ∧ L = L1 ++ L2 ∧ RVs e xs c1 L1 ∧ RVs e ys c2 L2
  | [], ys, cs, L => by
    simp only [List.nil_append, RVs]
    constructor
    · intro h; exact ⟨[], cs, [], L, rfl, rfl, ⟨rfl, rfl⟩, h⟩
    · rintro ⟨c1, c2, L1, L2, rfl, rfl, ⟨rfl, rfl⟩, h⟩; exact h
  | x :: xs, ys, cs, L => by
    simp only [List.cons_append, RVs]
    constructor
    · rintro ⟨v, vs', L1, L2, rfl, h2, h3, rfl⟩
      obtain ⟨c1, c2, L3, L4, rfl, rfl, h4, h5⟩ := (RVs_append xs ys).1 h3
      exact ⟨v :: c1, c2, L1 ++ L3, L4, by simp, by simp, ⟨v, c1, L1, L3, rfl, h2, h4, rfl⟩, h5⟩
    · rintro ⟨c1, c2, L1, L2, rfl, rfl, ⟨v, vs', L3, L4, rfl, h2, h3, rfl⟩, h5⟩
      exact ⟨v, vs' ++ c2, L3, L4 ++ L2, by simp, h2, (RVs_append xs ys).2 ⟨vs', c2, L4, L2, rfl, rfl, h3, h5⟩, by simp⟩

theorem RVs_length {e : Env} : ∀ {xs : List AV} {cs : List Value} {L : List Nat}, RVs e xs cs L → cs.length = xs.length
  | [], _, _, h => by simp only [RVs] at h; simp [h.1]
  | x :: xs, _, _, h => by
    simp only [RVs] at h
    obtain ⟨v, vs', L1, L2, rfl, h2, h3, rfl⟩ := h
    simp [RVs_length h3]

/-- One of several values. -/
theorem RVs_get {e : Env} {xs : List AV} {cs : List Value} {L : List Nat} (h : RVs e xs cs L) (j : Nat) (hj : j < xs.length) :
    ∃ v L1 L2 L3, cs[j]? = some v ∧ RV e xs[j] v L2 ∧ L = L1 ++ (L2 ++ L3) := by
  have hs : xs = xs.take j ++ (xs[j] :: xs.drop (j + 1)) := by simp
  rw [hs] at h
  obtain ⟨c1, c2, L1, L2, rfl, rfl, h4, h5⟩ := (RVs_append _ _).1 h
  simp only [RVs] at h5
  obtain ⟨v, vs', L3, L4, rfl, h6, h7, rfl⟩ := h5
  have hl := RVs_length h4
  simp [Nat.min_eq_left (Nat.le_of_lt hj)] at hl
  refine ⟨v, L1, L3, L4, ?_, h6, rfl⟩
  rw [List.getElem?_append_right (by omega), hl]
  simp

theorem RVs_nil_get {e : Env} {xs : List AV} {cs : List Value} (h : RVs e xs cs []) (j : Nat) (hj : j < xs.length) :
    ∃ v, cs[j]? = some v ∧ RV e xs[j] v [] := by
  obtain ⟨v, L1, L2, L3, h1, h2, h3⟩ := RVs_get h j hj
  have : L2 = [] := by
    have := h3.symm
    simp at this
    exact this.2.1
  subst this
  exact ⟨v, h1, h2⟩

theorem RRows_append {e : Env} {W : World} {b sz : Nat} : ∀ (xs ys : List (List AV)) {o : Nat} {L : List Nat},
    RRows e W b o sz (xs ++ ys) L ↔ ∃ L1 L2, RRows e W b o sz xs L1 ∧ RRows e W b (o + xs.length * sz) sz ys L2 ∧ L = L1 ++ L2
  | [], ys, o, L => by
    simp only [List.nil_append, RRows, List.length_nil, Nat.zero_mul, Nat.add_zero]
    constructor
    · intro h; exact ⟨[], L, rfl, h, rfl⟩
    · rintro ⟨L1, L2, rfl, h, rfl⟩; exact h
  | x :: xs, ys, o, L => by
    simp only [List.cons_append, RRows]
    have ho : o + sz + xs.length * sz = o + (x :: xs).length * sz := by simp [Nat.add_mul]; omega
    constructor
    · rintro ⟨vs, L1, L2, h1, h2, h3, h4, h5, rfl⟩
      obtain ⟨L3, L4, h6, h7, rfl⟩ := (RRows_append xs ys).1 h5
      rw [ho] at h7
      exact ⟨L1 ++ L3, L4, ⟨vs, L1, L3, h1, h2, h3, h4, h6, rfl⟩, h7, by simp⟩
    · rintro ⟨L1, L2, ⟨vs, L3, L4, h1, h2, h3, h4, h6, rfl⟩, h7, rfl⟩
      rw [← ho] at h7
      exact ⟨vs, L3, L4 ++ L2, h1, h2, h3, h4, (RRows_append xs ys).2 ⟨L4, L2, h6, h7, rfl⟩, by simp⟩

theorem RRows_split {e : Env} {W : World} {b o sz : Nat} {xs : List (List AV)} {L : List Nat} (i : Nat) (hi : i < xs.length) (h : RRows e W b o sz xs L) :
    ∃ vs L1 L2 L3, (xs[i].length = sz ∧ xs[i].all cellOk = true) ∧ vs.length = sz ∧ (∀ j, j < sz → W.cell? ⟨b, o + i * sz + j, none⟩ = vs[j]?) ∧ RVs e xs[i] vs L2 ∧
      RRows e W b o sz (xs.take i) L1 ∧ RRows e W b (o + (i + 1) * sz) sz (xs.drop (i + 1)) L3 ∧ L = L1 ++ (L2 ++ L3) := by
  have hs : xs = xs.take i ++ (xs[i] :: xs.drop (i + 1)) := by simp
  rw [hs] at h
  obtain ⟨L1, L2, h1, h2, rfl⟩ := (RRows_append _ _).1 h
  simp only [RRows, List.length_take, Nat.min_eq_left (Nat.le_of_lt hi)] at h2
  obtain ⟨vs, L3, L4, h3, h4, h5, h6, h7, rfl⟩ := h2
  refine ⟨vs, L1, L3, L4, h3, h4, h5, h6, h1, ?_, rfl⟩
  rw [show o + (i + 1) * sz = o + i * sz + sz by rw [Nat.add_mul]; omega]
  exact h7

theorem RRows_join {e : Env} {W : World} {b o sz : Nat} {xs : List (List AV)} {r : List AV} {vs : List Value} {L1 L2 L3 : List Nat} (i : Nat) (hi : i < xs.length)
    (h1 : r.length = sz ∧ r.all cellOk = true) (h2 : vs.length = sz) (h3 : ∀ j, j < sz → W.cell? ⟨b, o + i * sz + j, none⟩ = vs[j]?) (h4 : RVs e r vs L2)
    (h5 : RRows e W b o sz (xs.take i) L1) (h6 : RRows e W b (o + (i + 1) * sz) sz (xs.drop (i + 1)) L3) : RRows e W b o sz (xs.set i r) (L1 ++ (L2 ++ L3)) := by
  have hs : xs.set i r = xs.take i ++ (r :: xs.drop (i + 1)) := by rw [List.set_eq_take_append_cons_drop, if_pos hi]
  rw [hs]
  refine (RRows_append _ _).2 ⟨L1, L2 ++ L3, h5, ?_, rfl⟩
  simp only [RRows, List.length_take, Nat.min_eq_left (Nat.le_of_lt hi)]
  refine ⟨vs, L2, L3, h1, h2, h3, h4, ?_, rfl⟩
  rw [show o + (i + 1) * sz = o + i * sz + sz by rw [Nat.add_mul]; omega] at h6
  exact h6

/-- The cells of other places do not matter. -/
theorem RRows_cells {e : Env} {W W' : World} {b sz : Nat} : ∀ (xs : List (List AV)) {o : Nat} {L : List Nat}, (∀ j, o ≤ j → j < o + xs.length * sz → W'.cell? ⟨b, j, none⟩ = W.cell? ⟨b, j, none⟩) →
    RRows e W b o sz xs L → RRows e W' b o sz xs L
  | [], _, _, _, h => by simpa only [RRows] using h
  | x :: xs, o, L, hc, h => by
    simp only [RRows] at h ⊢
    obtain ⟨vs, L1, L2, h1, h2, h3, h4, h5, h6⟩ := h
    have hm : (x :: xs).length * sz = sz + xs.length * sz := by simp [Nat.add_mul]; omega
    rw [hm] at hc
    exact ⟨vs, L1, L2, h1, h2, fun j hj => by rw [hc _ (by omega) (by omega)]; exact h3 j hj, h4, RRows_cells xs (fun j a c => hc j (by omega) (by omega)) h5, h6⟩

def RowSp (e : Env) (s : Spot) (row : Row) (L : List Nat) : Prop :=
  match s with
  | .dead => False
  | .nilp => row.2 = [] ∧ L = []
  | .at p => p.sz = row.1 ∧ OwnBlk e.w p row.2.length ∧ ∃ Lr, RRows e e.w p.block p.off p.sz row.2 Lr ∧ L = p.block :: Lr

def look : Heap → Nat → Option Row
  | [], _ => none
  | (m, r) :: h, n => if n = m then some r else look h n

/-- A named row as it lies in memory; L: its block, and those that it owns besides. -/
def RowAt (e : Env) (nm : Nat) (row : Row) (L : List Nat) : Prop := RowSp e (e.φ nm) row L

theorem RowAt.keep {e e' : Env} {A : Nat → Prop} {nm : Nat} {row : Row} {L : List Nat} (k : Keeps e e' A L) (hφ : e'.φ nm = e.φ nm) (hb : bndr A row.2) (h : RowAt e nm row L) : RowAt e' nm row L := by
  unfold RowAt RowSp at h ⊢
  rw [hφ]
  cases hp : e.φ nm with
  | dead => rw [hp] at h; exact h
  | nilp => rw [hp] at h; exact h
  | «at» p =>
    rw [hp] at h
    obtain ⟨h0, h1, Lr, h2, rfl⟩ := h
    exact ⟨h0, h1.keep (k.own _ (by simp)), Lr, RRows_keep row.2 (k.sub (by simp +contextual)) hb (fun _ o => cell_of_heap (k.own _ (by simp)) o) h2, rfl⟩

/-- The rows of H lie in memory, each with blocks of its own. -/
structure RH (e : Env) (H : Nat → Option Row) (Lf : Nat → List Nat) : Prop where
  row : ∀ nm row, H nm = some row → RowAt e nm row (Lf nm)
  nodup : ∀ nm, H nm ≠ none → (Lf nm).Nodup
  blk : ∀ nm, H nm ≠ none → ∀ b ∈ Lf nm, b < e.w.heap.size ∧ ¬ e.Fr b ∧ ¬ e.Bo b
  dis : ∀ n m, H n ≠ none → H m ≠ none → n ≠ m → ∀ b ∈ Lf n, b ∉ Lf m
  dead : ∀ nm, H nm = none → e.φ nm = .dead

end Go.Sep

/- A step touches some rows; all others lie as they lay. -/
namespace Go.Sep
set_option linter.unusedVariables false
set_option linter.unusedSimpArgs false

/-- The outside world is as it was. -/
def SameIo (w w' : World) : Prop := w'.os = w.os ∧ w'.tape = w.tape ∧ w'.output = w.output

theorem SameIo.refl (w : World) : SameIo w w := ⟨rfl, rfl, rfl⟩
theorem SameIo.trans {w w' w'' : World} (h : SameIo w w') (h' : SameIo w' w'') : SameIo w w'' := ⟨h'.1.trans h.1, h'.2.1.trans h.2.1, h'.2.2.trans h.2.2⟩

/-- From e to e' the rows of the names F turn from H to H'; all else lies as it lay. -/
structure Turns (e : Env) (H : Nat → Option Row) (Lf : Nat → List Nat) (F : Nat → Prop) (e' : Env) (H' : Nat → Option Row) (Lf' : Nat → List Nat) : Prop where
  num : e'.num = e.num
  w0 : e'.w0 = e.w0
  Fr : e'.Fr = e.Fr
  Bo : e'.Bo = e.Bo
  io : SameIo e.w e'.w
  size : e.w.heap.size ≤ e'.w.heap.size
  keep : ∀ b, b < e.w.heap.size → (∀ nm, F nm → H nm ≠ none → b ∉ Lf nm) → e'.w.heap[b]? = e.w.heap[b]?
  φ : ∀ nm, ¬ F nm → e'.φ nm = e.φ nm
  φF : ∀ nm, F nm → H nm ≠ none → e'.φ nm = e.φ nm ∨ e'.φ nm = .dead
  rest : ∀ nm, ¬ F nm → H' nm = H nm
  row : ∀ nm row, F nm → H' nm = some row → RowAt e' nm row (Lf' nm)
  nodup : ∀ nm, F nm → H' nm ≠ none → (Lf' nm).Nodup
  blk : ∀ nm, F nm → H' nm ≠ none → ∀ b ∈ Lf' nm, b < e'.w.heap.size ∧ (e.w.heap.size ≤ b ∨ ∃ m, F m ∧ H m ≠ none ∧ b ∈ Lf m)
  dis : ∀ n m, F n → F m → H' n ≠ none → H' m ≠ none → n ≠ m → ∀ b ∈ Lf' n, b ∉ Lf' m
  dead : ∀ nm, F nm → H' nm = none → e'.φ nm = .dead

open Classical in
noncomputable def mix (F : Nat → Prop) (Lf Lf' : Nat → List Nat) (nm : Nat) : List Nat := if F nm then Lf' nm else Lf nm

theorem mix_pos {F : Nat → Prop} {Lf Lf' : Nat → List Nat} {nm : Nat} (h : F nm) : mix F Lf Lf' nm = Lf' nm := by simp [mix, h]
theorem mix_neg {F : Nat → Prop} {Lf Lf' : Nat → List Nat} {nm : Nat} (h : ¬ F nm) : mix F Lf Lf' nm = Lf nm := by simp [mix, h]

/-- What holds of the world in which a call began: w0, its own blocks L0. -/
structure Ok (e : Env) (L0 : List Nat) (H : Nat → Option Row) (Lf : Nat → List Nat) : Prop where
  size0 : e.w0.heap.size ≤ e.w.heap.size
  io0 : SameIo e.w0 e.w
  fr : ∀ b, e.Fr b ∨ e.Bo b → b < e.w0.heap.size ∧ b ∉ L0
  keep0 : ∀ b, b < e.w0.heap.size → b ∉ L0 → e.w.heap[b]? = e.w0.heap[b]?
  own0 : ∀ nm, H nm ≠ none → ∀ b ∈ Lf nm, b ∈ L0 ∨ e.w0.heap.size ≤ b
  rh : RH e H Lf

theorem Ok.frozen_cell {e : Env} {L0 : List Nat} {H : Nat → Option Row} {Lf : Nat → List Nat} (h : Ok e L0 H Lf) {b : Nat} (hb : e.Fr b ∨ e.Bo b) (o : Nat) :
    e.w.cell? ⟨b, o, none⟩ = e.w0.cell? ⟨b, o, none⟩ :=
  cell_of_heap (h.keep0 b (h.fr b hb).1 (h.fr b hb).2) o

/-- e' keeps what e tells, of the names A, besides the touched rows' blocks. -/
theorem Turns.keeps {e e' : Env} {H H' : Nat → Option Row} {Lf Lf' : Nat → List Nat} {F A : Nat → Prop} {L : List Nat} (t : Turns e H Lf F e' H' Lf')
    (hφ : ∀ nm, A nm → F nm → H nm = none → e'.φ nm = .dead) (hd : ∀ nm, H nm = none → e.φ nm = .dead)
    (hL : ∀ b ∈ L, b < e.w.heap.size ∧ ∀ nm, F nm → H nm ≠ none → b ∉ Lf nm) : Keeps e e' A L where
  num := t.num
  fr m b h := by cases m <;> simp_all [Env.frozen, t.Fr, t.Bo]
  cells b h o := by rw [t.w0]
  φ nm hn := by
    by_cases hF : F nm
    · by_cases hH : H nm = none
      · exact .inr (hφ nm hn hF hH)
      · exact t.φF nm hF hH
    · exact .inl (t.φ nm hF)
  own b hb := t.keep b (hL b hb).1 (hL b hb).2

theorem Turns.ok {e e' : Env} {L0 : List Nat} {H H' : Nat → Option Row} {Lf Lf' : Nat → List Nat} {F A : Nat → Prop} (t : Turns e H Lf F e' H' Lf') (h : Ok e L0 H Lf)
    (hb : ∀ nm row, H nm = some row → bndr A row.2) (hφ : ∀ nm, A nm → F nm → H nm = none → e'.φ nm = .dead) : Ok e' L0 H' (mix F Lf Lf') where
  size0 := by rw [t.w0]; exact Nat.le_trans h.size0 t.size
  io0 := by rw [t.w0]; exact h.io0.trans t.io
  fr b hb := by rw [t.w0]; rw [t.Fr, t.Bo] at hb; exact h.fr b hb
  keep0 b h1 h2 := by
    rw [t.w0] at h1 ⊢
    rw [t.keep b (Nat.lt_of_lt_of_le h1 h.size0) (fun nm _ hn hm => ?_)]
    · exact h.keep0 b h1 h2
    · rcases h.own0 nm hn b hm with h3 | h3
      · exact h2 h3
      · omega
  own0 nm hn b hb' := by
    rw [t.w0]
    by_cases hF : F nm
    · rw [mix_pos hF] at hb'
      obtain ⟨_, h3 | ⟨m, h4, h5, h6⟩⟩ := t.blk nm hF hn b hb'
      · exact .inr (Nat.le_trans h.size0 h3)
      · exact h.own0 m h5 b h6
    · rw [mix_neg hF] at hb'
      rw [t.rest nm hF] at hn
      exact h.own0 nm hn b hb'
  rh := {
    row := fun nm row hr => by
      by_cases hF : F nm
      · rw [mix_pos hF]; exact t.row nm row hF hr
      · rw [mix_neg hF]
        rw [t.rest nm hF] at hr
        refine (h.rh.row nm row hr).keep (t.keeps hφ h.rh.dead ?_) (t.φ nm hF) (hb nm row hr)
        intro b hb'
        refine ⟨(h.rh.blk nm (by simp [hr]) b hb').1, fun m hm hn => ?_⟩
        exact h.rh.dis nm m (by simp [hr]) hn (fun he => hF (he ▸ hm)) b hb'
    nodup := fun nm hn => by
      by_cases hF : F nm
      · rw [mix_pos hF]; exact t.nodup nm hF hn
      · rw [mix_neg hF]; rw [t.rest nm hF] at hn; exact h.rh.nodup nm hn
    blk := fun nm hn b hb' => by
      rw [t.Fr, t.Bo]
      by_cases hF : F nm
      · rw [mix_pos hF] at hb'
        obtain ⟨h2, h3 | ⟨m, h4, h5, h6⟩⟩ := t.blk nm hF hn b hb'
        · refine ⟨h2, ?_, ?_⟩
          · intro hf; have := (h.fr b (.inl hf)).1; have := h.size0; omega
          · intro hf; have := (h.fr b (.inr hf)).1; have := h.size0; omega
        · exact ⟨h2, (h.rh.blk m h5 b h6).2⟩
      · rw [mix_neg hF] at hb'
        rw [t.rest nm hF] at hn
        have := h.rh.blk nm hn b hb'
        exact ⟨Nat.lt_of_lt_of_le this.1 t.size, this.2⟩
    dis := fun n m hn hm hne b hb1 hb2 => by
      by_cases hF : F n <;> by_cases hG : F m
      · rw [mix_pos hF] at hb1; rw [mix_pos hG] at hb2
        exact t.dis n m hF hG hn hm hne b hb1 hb2
      · rw [mix_pos hF] at hb1; rw [mix_neg hG] at hb2
        rw [t.rest m hG] at hm
        obtain ⟨_, h3 | ⟨k, h4, h5, h6⟩⟩ := t.blk n hF hn b hb1
        · have := (h.rh.blk m hm b hb2).1; omega
        · exact h.rh.dis k m h5 hm (fun he => hG (he ▸ h4)) b h6 hb2
      · rw [mix_neg hF] at hb1; rw [mix_pos hG] at hb2
        rw [t.rest n hF] at hn
        obtain ⟨_, h3 | ⟨k, h4, h5, h6⟩⟩ := t.blk m hG hm b hb2
        · have := (h.rh.blk n hn b hb1).1; omega
        · exact h.rh.dis k n h5 hn (fun he => hF (he ▸ h4)) b h6 hb1
      · rw [mix_neg hF] at hb1; rw [mix_neg hG] at hb2
        rw [t.rest n hF] at hn; rw [t.rest m hG] at hm
        exact h.rh.dis n m hn hm hne b hb1 hb2
    dead := fun nm hn => by
      by_cases hF : F nm
      · exact t.dead nm hF hn
      · rw [t.φ nm hF]; rw [t.rest nm hF] at hn; exact h.rh.dead nm hn }

end Go.Sep

/- The executor: operations in a small form of their own, and what each of them does to symbolic values and named rows. -/
namespace Go.Sep
set_option linter.unusedVariables false
set_option linter.unusedSimpArgs false

inductive Arg where
  | t (n : Nat)
  | c (v : AV)

inductive MOp where
  | mv (x : Arg)
  | pick (c a b : Arg)
  | alloc (zero : List AV)
  | box (x : Arg)
  | build (zero : List AV) (parts : List (Nat × Nat × Arg))
  | mkSl (zero : List AV) (len : Nat) (parts : List (Nat × Arg))
  | load (n : Nat) (ag : Bool) (a : Arg)
  | store (n : Nat) (a v : Arg)
  | nilck (x : Arg)
  | bin (op : BinOp) (x y : Arg)
  | eqS (neg : Bool) (ks : List Bool) (x y : Arg)
  | eqB (neg : Bool) (x y : Arg)
  | neNil (x : Arg)
  | un (op : UnOp) (x : Arg)
  | cvi (k : IntKind) (x : Arg)
  | cvs (x : Arg)
  | mkS (zero : List AV) (bytes : Nat) (l c : Arg)
  | cut (sz : Nat) (x : Arg) (lo hi : Option Arg)
  | cutS (x : Arg) (lo hi : Option Arg)
  | fad (off : Nat) (x : Arg)
  | fld (off n : Nat) (ag : Bool) (x : Arg)
  | iad (sz : Nat) (x i : Arg)
  | idx (x i : Arg)
  | ext (x : Arg) (i : Nat)
  | len (x : Arg)
  | lenS (x : Arg)
  | mx (x y : Arg)
  | app (sz bytes : Nat) (s x : Arg)
  | clr (zero : List AV) (x : Arg)
  | call (f : Nat) (ps : List Bool) (xs : List Arg)
  | calv (g : Arg) (xs : List Arg)

structure MOper where
  dst : Option Nat
  op : MOp
  guard : Option (Nat × Bool) := none

/-- The order in which a drawn region is walked: reads that are taken early; the one that may come up; two that may come up. -/
inductive DTree where
  | done
  | take (i : Nat) (o : MOper) (k : DTree)
  | only (i : Nat) (deps : List Nat) (o : MOper) (k : DTree)
  | both (i : Nat) (di : List Nat) (o : MOper) (k : DTree) (j : Nat) (dj : List Nat) (p : MOper) (l : DTree)
  | tri (i : Nat) (di : List Nat) (o : MOper) (k : DTree) (j : Nat) (dj : List Nat) (p : MOper) (l : DTree) (m : Nat) (dm : List Nat) (q : MOper) (r : DTree)

inductive MCode where
  | skip
  | dreg (tr : DTree)
  | reg (draw : Bool) (ops : List MOper)
  | seq (a b : MCode)
  | cond (x : Nat) (a b : MCode)
  | blk (id : Nat) (a : MCode)
  | loop (a : MCode)
  | exit (id : Nat)
  | ret

inductive MRes where
  | t (n : Nat)
  | cell (a n : Nat) (ag : Bool)

structure MFn where
  ntmps : Nat
  results : List MRes
  body : MCode

/-- The state: temporaries, named rows, the next name. (Two constructors: so no state but one that is told opens by itself.) -/
inductive AS where
  | mk (t : List (Nat × AV)) (h : Heap) (nx : Nat)
  | bad

def lookT : List (Nat × AV) → Nat → AV
  | [], _ => .any
  | (m, v) :: l, n => if n = m then v else lookT l n

def putT (l : List (Nat × AV)) (n : Nat) (v : AV) : List (Nat × AV) := (n, v) :: l

def putD (l : List (Nat × AV)) : Option Nat → AV → List (Nat × AV)
  | none, _ => l
  | some n, v => putT l n v

def Arg.ev (ρ : Nat → AV) : Arg → AV
  | .t n => ρ n
  | .c v => v

def put : Heap → Nat → Row → Heap
  | [], n, r => [(n, r)]
  | (m, s) :: h, n, r => if n = m then (m, r) :: h else (m, s) :: put h n r

def del : Heap → Nat → Heap
  | [], _ => []
  | (m, s) :: h, n => if n = m then del h n else (m, s) :: del h n

/-- What a step does to the rows: their names, as they were, as they are. -/
abbrev FP := List (Nat × Option Row × Option Row)

def app1 (h : Heap) : FP → Heap
  | [] => h
  | (n, _, some r) :: fp => app1 (put h n r) fp
  | (n, _, none) :: fp => app1 (del h n) fp

def cellsOf : AV → List AV
  | .agg cs => cs
  | v => [v]

/-- Slices of our own that stand in cells get names. -/
def openL : Nat → List AV → List AV × List (Nat × Row) × Nat
  | n, [] => ([], [], n)
  | n, .sl .own sz rows :: l => (.ns n 0 rows.length :: (openL (n + 1) l).1, (n, (sz, rows)) :: (openL (n + 1) l).2.1, (openL (n + 1) l).2.2)
  | n, v :: l => (v :: (openL n l).1, (openL n l).2.1, (openL n l).2.2)

def fresh (l : List (Nat × Row)) : FP := l.map fun x => (x.1, none, some x.2)

def splice (r : List AV) (f : Nat) (cs : List AV) : List AV := r.take f ++ cs ++ r.drop (f + cs.length)

def fillA (ρ : Nat → AV) : List AV → List (Nat × Nat × Arg) → List AV
  | cs, [] => cs
  | cs, (off, _, x) :: l => fillA ρ (splice cs off (cellsOf (x.ev ρ))) l

def fillOk (ρ : Nat → AV) (n : Nat) : List (Nat × Nat × Arg) → Prop
  | [] => True
  | (off, sz, x) :: l => ((cellsOf (x.ev ρ)).length = sz ∧ (cellsOf (x.ev ρ)).all cellOk = true ∧ off + sz ≤ n) ∧ fillOk ρ n l

def fillR (ρ : Nat → AV) : List (List AV) → List (Nat × Arg) → List (List AV)
  | rs, [] => rs
  | rs, (i, x) :: l => fillR ρ (rs.set i (cellsOf (x.ev ρ))) l

def fillROk (ρ : Nat → AV) (n sz : Nat) : List (Nat × Arg) → Prop
  | [] => True
  | (i, x) :: l => (i < n ∧ (cellsOf (x.ev ρ)).length = sz ∧ (cellsOf (x.ev ρ)).all cellOk = true) ∧ fillROk ρ n sz l

def isOwn : AV → Bool
  | .sl .own _ _ => true
  | .agg _ | .tup _ | .fn _ _ => true
  | _ => false

/-- No cell owns anything. -/
def free (rows : List (List AV)) : Prop := ∀ r ∈ rows, ∀ c ∈ r, isOwn c = false

/-- Are cells alike, whole numbers (true) and bools (false)? -/
def eqC : List Bool → List AV → List AV → Option Bool
  | [], [], [] => some true
  | true :: ks, .int k a :: xs, .int k' b :: ys => if k = k' then (eqC ks xs ys).map (fun r => decide (a = b) && r) else none
  | false :: ks, .bool a :: xs, .bool b :: ys => (eqC ks xs ys).map (fun r => (a == b) && r)
  | _, _, _ => none

abbrev Out := Option (Prop × AV × FP × Nat)

def ok (v : AV) (n : Nat) : Out := some (True, v, [], n)

def bAnd (k : IntKind) (a b : Int) : Int := k.wrap (BitVec.ofInt k.bits a &&& BitVec.ofInt k.bits b).toNat
def bOr (k : IntKind) (a b : Int) : Int := k.wrap (BitVec.ofInt k.bits a ||| BitVec.ofInt k.bits b).toNat
def bXor (k : IntKind) (a b : Int) : Int := k.wrap (BitVec.ofInt k.bits a ^^^ BitVec.ofInt k.bits b).toNat
def bShl (k : IntKind) (a b : Int) : Int := k.wrap (a * 2 ^ (min b.toNat k.bits))
def bShr (k : IntKind) (a b : Int) : Int := a.fdiv (2 ^ (min b.toNat k.bits))

/-- A shift by a number of another kind. -/
def shiftA (op : BinOp) (k : IntKind) (a b : Int) : Option (Prop × AV) :=
  match op with
  | .shl => some (0 ≤ b, .int k (bShl k a b))
  | .shr => some (0 ≤ b, .int k (bShr k a b))
  | _ => none

def binA (op : BinOp) (x y : AV) : Option (Prop × AV) :=
  match x, y with
  | .int k a, .int k' b =>
    if k = k' then
      match op with
      | .add => some (True, .int k (k.wrap (a + b)))
      | .sub => some (True, .int k (k.wrap (a - b)))
      | .mul => some (True, .int k (k.wrap (a * b)))
      | .quo => some (b ≠ 0, .int k (k.wrap (a.tdiv b)))
      | .rem => some (b ≠ 0, .int k (a.tmod b))
      | .eql => some (True, .bool (decide (a = b)))
      | .neq => some (True, .bool (!decide (a = b)))
      | .lss => some (True, .bool (decide (a < b)))
      | .leq => some (True, .bool (decide (a ≤ b)))
      | .gtr => some (True, .bool (decide (b < a)))
      | .geq => some (True, .bool (decide (b ≤ a)))
      | .and => some (True, .int k (bAnd k a b))
      | .or => some (True, .int k (bOr k a b))
      | .xor => some (True, .int k (bXor k a b))
      | .shl => some (0 ≤ b, .int k (bShl k a b))
      | .shr => some (0 ≤ b, .int k (bShr k a b))
      | _ => none
    else shiftA op k a b
  | .str a, .str b =>
    match op with
    | .add => some (((a.size + b.size : Nat) : Int) ≤ 9223372036854775807, .str (a ++ b))
    | .eql => some (True, .bool (decide (a = b)))
    | .neq => some (True, .bool (!decide (a = b)))
    | _ => none
  | _, _ => none

/-- The elements of a slice, its rows that are read, the conditions. -/
def srcA (h : Heap) (sz : Nat) : AV → Option (Prop × List (List AV) × FP)
  | .nil => some (True, [], [])
  | .ns nm off len => (look h nm).map fun row => (row.1 = sz ∧ off + len ≤ row.2.length ∧ free ((row.2.drop off).take len), (row.2.drop off).take len, [(nm, some row, some row)])
  | .sl .bw s rows => some (s = sz ∧ free rows, rows, [])
  | .sl .fz s rows => some (s = sz ∧ free rows, rows, [])
  | _ => none

def bytesOf : List (List AV) → Option (List UInt8)
  | [] => some []
  | [.int .u8 n] :: l => (bytesOf l).map (UInt8.ofNat n.toNat :: ·)
  | _ => none

/-- A bound of a cut; the default, where there is none. -/
def bnd? (ρ : Nat → AV) (d : Int) : Option Arg → Option Int
  | none => some d
  | some a => match a.ev ρ with
    | .int _ n => some n
    | _ => none

/-- What an operation does: a condition, its value, the rows, the next name. -/
def plan (ρ : Nat → AV) (h : Heap) (nx : Nat) : MOp → Out
  | .mv x => ok (x.ev ρ) nx
  | .pick c a b => match c.ev ρ with
    | .bool q => match a.ev ρ, b.ev ρ with
      | .bool x, .bool y => ok (.bool (bif q then x else y)) nx
      | x, y => ok (bif q then x else y) nx
    | _ => none
  | .alloc zero => some (0 < zero.length, .ptr nx 0 0, [(nx, none, some (zero.length, [zero]))], nx + 1)
  | .box x => some ((cellsOf (x.ev ρ)).all cellOk = true ∧ 0 < (cellsOf (x.ev ρ)).length, .ptr nx 0 0, [(nx, none, some ((cellsOf (x.ev ρ)).length, [cellsOf (x.ev ρ)]))], nx + 1)
  | .build zero parts => some (fillOk ρ zero.length parts, .agg (fillA ρ zero parts), [], nx)
  | .mkSl zero len parts => some (fillROk ρ len zero.length parts, .ns nx 0 len, [(nx, none, some (zero.length, fillR ρ (List.replicate len zero) parts))], nx + 1)
  | .load n ag a => match a.ev ρ with
    | .ptr nm i f => (look h nm).map fun row =>
      let o := openL nx (((row.2.getD i []).drop f).take n)
      (i < row.2.length ∧ f + n ≤ (row.2.getD i []).length, if ag then .agg o.1 else o.1.getD 0 .any,
        (nm, some row, some (if o.2.1.isEmpty then row else (row.1, row.2.set i (splice (row.2.getD i []) f o.1)))) :: fresh o.2.1, o.2.2)
    | .fptr m cells f => some (f + n ≤ cells.length, if ag then .agg ((cells.drop f).take n) else ((cells.drop f).take n).getD 0 .any, [], nx)
    | _ => none
  | .store n a v => match a.ev ρ with
    | .ptr nm i f => (look h nm).map fun row =>
      ((cellsOf (v.ev ρ)).length = n ∧ (cellsOf (v.ev ρ)).all cellOk = true ∧ i < row.2.length ∧ f + n ≤ (row.2.getD i []).length, .any,
        [(nm, some row, some (row.1, row.2.set i (splice (row.2.getD i []) f (cellsOf (v.ev ρ)))))], nx)
    | _ => none
  | .nilck x => match x.ev ρ with
    | .ptr nm i f => (look h nm).map fun row => (True, .ptr nm i f, [(nm, some row, some row)], nx)
    | .fptr m cs f => ok (.fptr m cs f) nx
    | _ => none
  | .bin op x y => (binA op (x.ev ρ) (y.ev ρ)).map fun r => (r.1, r.2, [], nx)
  | .eqS neg ks x y => match x.ev ρ, y.ev ρ with
    | .agg xs, .agg ys => (eqC ks xs ys).map fun r => (True, .bool (if neg then !r else r), [], nx)
    | _, _ => none
  | .eqB neg x y => match x.ev ρ, y.ev ρ with
    | .bool a, .bool b => ok (.bool (if neg then !(a == b) else a == b)) nx
    | _, _ => none
  | .neNil x => match x.ev ρ with
    | .nilI => ok (.bool false) nx
    | .ifc => ok (.bool true) nx
    | _ => none
  | .un op x => match op, x.ev ρ with
    | .not, .bool b => ok (.bool !b) nx
    | .neg, .int k n => ok (.int k (k.wrap (0 - n))) nx
    | _, _ => none
  | .cvi k x => match x.ev ρ with
    | .int _ n => ok (.int k (k.wrap n)) nx
    | _ => none
  | .cvs x => (srcA h 1 (x.ev ρ)).bind fun r => (bytesOf r.2.1).map fun l => (r.1, .str ⟨l.toArray⟩, r.2.2, nx)
  | .mkS zero bytes l c => match l.ev ρ, c.ev ρ with
    | .int .i64 a, .int .i64 b => some (a = b ∧ 0 ≤ a ∧ (bytes : Int) * a ≤ 2 ^ 47 ∧ a ≤ 2 ^ 47, .ns nx 0 a.toNat, [(nx, none, some (zero.length, List.replicate a.toNat zero))], nx + 1)
    | _, _ => none
  | .cut sz x lo hi => (bnd? ρ 0 lo).bind fun l =>
      match x.ev ρ with
      | .nil => (bnd? ρ 0 hi).map fun h => (l = 0 ∧ h = 0, .nil, [], nx)
      | .ns nm off len => (look h nm).bind fun row => (bnd? ρ len hi).map fun h =>
          (row.1 = sz ∧ off + len ≤ row.2.length ∧ 0 ≤ l ∧ l ≤ h ∧ h ≤ len, .ns nm (off + l.toNat) (h.toNat - l.toNat), [(nm, some row, some row)], nx)
      | .sl .bw s rows => (bnd? ρ rows.length hi).map fun h => (s = sz ∧ 0 ≤ l ∧ l ≤ h ∧ h ≤ rows.length, .sl .bw s ((rows.drop l.toNat).take (h.toNat - l.toNat)), [], nx)
      | .sl .fz s rows => (bnd? ρ rows.length hi).map fun h => (s = sz ∧ 0 ≤ l ∧ l ≤ h ∧ h ≤ rows.length, .sl .fz s ((rows.drop l.toNat).take (h.toNat - l.toNat)), [], nx)
      | _ => none
  | .cutS x lo hi => (bnd? ρ 0 lo).bind fun l =>
      match x.ev ρ with
      | .str s => (bnd? ρ s.size hi).map fun h => (0 ≤ l ∧ l ≤ h ∧ h ≤ s.size, .str (s.extract l.toNat h.toNat), [], nx)
      | _ => none
  | .fad off x => match x.ev ρ with
    | .ptr nm i f => (look h nm).map fun row => (True, .ptr nm i (f + off), [(nm, some row, some row)], nx)
    | .fptr m cs f => ok (.fptr m cs (f + off)) nx
    | _ => none
  | .fld off n ag x => match x.ev ρ with
    | .agg cs => some (off + n ≤ cs.length, if ag then .agg ((cs.drop off).take n) else cs.getD off .any, [], nx)
    | _ => none
  | .iad sz x i => match x.ev ρ, i.ev ρ with
    | .ns nm off len, .int _ j => (look h nm).map fun row => (row.1 = sz ∧ off + len ≤ row.2.length ∧ 0 ≤ j ∧ j < len, .ptr nm (off + j.toNat) 0, [(nm, some row, some row)], nx)
    | .sl .bw s rows, .int _ j => some (s = sz ∧ 0 ≤ j ∧ j < rows.length, .fptr .bw (rows.getD j.toNat []) 0, [], nx)
    | .sl .fz s rows, .int _ j => some (s = sz ∧ 0 ≤ j ∧ j < rows.length, .fptr .fz (rows.getD j.toNat []) 0, [], nx)
    | _, _ => none
  | .idx x i => match x.ev ρ, i.ev ρ with
    | .str s, .int _ j => some (0 ≤ j ∧ j < s.size, .int .u8 ((s.data.getD j.toNat 0).toNat : Nat), [], nx)
    | _, _ => none
  | .ext x i => match x.ev ρ with
    | .tup vs => some (i < vs.length, vs.getD i .any, [], nx)
    | _ => none
  | .len x => match x.ev ρ with
    | .nil => ok (.int .i64 0) nx
    | .ns nm off l => (look h nm).map fun row => (True, .int .i64 l, [(nm, some row, some row)], nx)
    | .sl .bw _ rows => ok (.int .i64 rows.length) nx
    | .sl .fz _ rows => ok (.int .i64 rows.length) nx
    | _ => none
  | .lenS x => match x.ev ρ with
    | .str s => ok (.int .i64 s.size) nx
    | _ => none
  | .mx x y => match x.ev ρ, y.ev ρ with
    | .int k a, .int k' b => if k = k' then ok (.int k (if b > a then b else a)) nx else none
    | _, _ => none
  | .app sz bytes s x => (srcA h sz (x.ev ρ)).bind fun r =>
    match s.ev ρ with
    | .nil => some (r.1 ∧ 0 < sz ∧ bytes * r.2.1.length ≤ 2 ^ 47 ∧ r.2.1.length ≤ 2 ^ 47, .ns nx 0 r.2.1.length, r.2.2 ++ [(nx, none, some (sz, r.2.1))], nx + 1)
    | .ns nm off len => (look h nm).map fun row => (r.1 ∧ 0 < sz ∧ row.1 = sz ∧ off + len = row.2.length ∧ (∀ x ∈ r.2.2, x.1 ≠ nm) ∧ bytes * (len + r.2.1.length) ≤ 2 ^ 47 ∧ len + r.2.1.length ≤ 2 ^ 47,
        .ns nx 0 (len + r.2.1.length), r.2.2 ++ [(nm, some row, none), (nx, none, some (sz, row.2.drop off ++ r.2.1))], nx + 1)
    | _ => none
  | .clr zero x => match x.ev ρ with
    | .ns nm off len => (look h nm).map fun row => (row.1 = zero.length ∧ off + len = row.2.length, .any, [(nm, some row, some (row.1, row.2.take off ++ List.replicate len zero))], nx)
    | _ => none
  | .call _ _ _ | .calv _ _ => none

def isRead : MOp → Bool
  | .alloc _ | .box _ | .mkSl .. | .store .. | .mkS .. | .app .. | .clr .. | .call .. | .calv .. => false
  | _ => true

def isCall : MOp → Bool
  | .call .. | .calv .. => true
  | _ => false

end Go.Sep

/- How the model's loads and stores run at cells that are known. -/
namespace Go.Sep
set_option linter.unusedVariables false
set_option linter.unusedSimpArgs false

theorem add_mk (b o j : Nat) : (⟨b, o, none⟩ : Addr).add j = ⟨b, o + j, none⟩ := by
  unfold Addr.add
  by_cases h : j = 0
  · simp [h]
  · simp [h]

theorem run_load_some {P : Program} {w : World} {a : Addr} {v : Value} (h : w.cell? a = some v) : (load a).run P w = .ok v w := by
  simp [run_load, h]

theorem run_loadCellsFrom {P : Program} {w : World} {b o : Nat} : ∀ (n i : Nat) (vs : List Value) (acc : Array Value), vs.length = n →
    (∀ j, j < n → w.cell? ⟨b, o + (i + j), none⟩ = vs[j]?) → (loadCellsFrom ⟨b, o, none⟩ i n acc).run P w = .ok (acc ++ vs.toArray) w
  | 0, i, vs, acc, hl, h => by
    have : vs = [] := List.length_eq_zero_iff.1 hl
    subst this
    simp [loadCellsFrom]
  | n + 1, i, [], acc, hl, h => by simp at hl
  | n + 1, i, v :: vs, acc, hl, h => by
    have h0 : w.cell? ⟨b, o + i, none⟩ = some v := by simpa using h 0 (by omega)
    simp only [loadCellsFrom, add_mk, Sem.run_bind, run_load_some h0, Result.andThen_ok]
    rw [run_loadCellsFrom n (i + 1) vs (acc.push v) (by simpa using hl) (fun j hj => by
      have := h (j + 1) (by omega)
      rw [show o + (i + 1 + j) = o + (i + (j + 1)) by omega]
      simpa using this)]
    simp

theorem run_loadCells {P : Program} {w : World} {b o n : Nat} {vs : List Value} (hl : vs.length = n) (h : ∀ j, j < n → w.cell? ⟨b, o + j, none⟩ = vs[j]?) :
    (loadCells ⟨b, o, none⟩ n).run P w = .ok vs.toArray w := by
  unfold loadCells
  rw [run_loadCellsFrom n 0 vs #[] hl (by simpa using h)]
  simp

/-- An array some of whose cells are set. -/
def arrSet (arr : Array Value) (o : Nat) : List Value → Array Value
  | [] => arr
  | v :: vs => arrSet (arr.setIfInBounds o v) (o + 1) vs

theorem arrSet_size (arr : Array Value) (o : Nat) (vs : List Value) : (arrSet arr o vs).size = arr.size := by
  induction vs generalizing arr o with
  | nil => rfl
  | cons v vs ih => simp [arrSet, ih]

theorem arrSet_other (arr : Array Value) (o : Nat) (vs : List Value) (k : Nat) (h : k < o ∨ o + vs.length ≤ k) : (arrSet arr o vs)[k]? = arr[k]? := by
  induction vs generalizing arr o with
  | nil => rfl
  | cons v vs ih =>
    simp only [arrSet]
    simp only [List.length_cons] at h
    rw [ih _ _ (by omega), Array.getElem?_setIfInBounds_ne (by omega)]

theorem arrSet_at (arr : Array Value) (o : Nat) (vs : List Value) (j : Nat) (hj : j < vs.length) (h : o + vs.length ≤ arr.size) : (arrSet arr o vs)[o + j]? = vs[j]? := by
  induction vs generalizing arr o j with
  | nil => simp at hj
  | cons v vs ih =>
    simp only [arrSet, List.length_cons] at h hj ⊢
    cases j with
    | zero =>
      rw [arrSet_other _ _ _ _ (by omega)]
      have : o < arr.size := by omega
      simp [this]
    | succ j =>
      rw [show o + (j + 1) = o + 1 + j by omega, ih _ _ j (by omega) (by simp; omega)]
      simp

/-- A world one of whose blocks is another row. -/
def World.setBlk (w : World) (b : Nat) (o : Obj) : World := { w with heap := w.heap.setIfInBounds b o }

theorem setBlk_size (w : World) (b : Nat) (o : Obj) : (World.setBlk w b o).heap.size = w.heap.size := by simp [World.setBlk]
theorem setBlk_other (w : World) (b c : Nat) (o : Obj) (h : b ≠ c) : (World.setBlk w b o).heap[c]? = w.heap[c]? := by
  simp [World.setBlk, Array.getElem?_setIfInBounds_ne h]
theorem setBlk_at (w : World) (b : Nat) (o : Obj) (h : b < w.heap.size) : (World.setBlk w b o).heap[b]? = some o := by
  simp [World.setBlk, h]

theorem setCell_blk {w : World} {b o : Nat} {arr : Array Value} {ty : TypeId} {fz : Nat × Nat} {v : Value} (h : w.heap[b]? = some (.cells arr ty fz)) :
    w.setCell ⟨b, o, none⟩ v = World.setBlk w b (.cells (arr.setIfInBounds o v) ty fz) := by
  have hb := (Array.getElem?_eq_some_iff.1 h).1
  have hv := (Array.getElem?_eq_some_iff.1 h).2
  unfold World.setCell World.setBlk
  congr 1
  apply Array.ext_getElem?
  intro i
  rw [Array.getElem?_modify]
  by_cases hi : b = i
  · subst hi
    simp [hb, hv]
  · simp [hi, Array.getElem?_setIfInBounds_ne hi]

theorem cell_blk {w : World} {b o : Nat} {arr : Array Value} {ty : TypeId} {fz : Nat × Nat} (h : w.heap[b]? = some (.cells arr ty fz)) : w.cell? ⟨b, o, none⟩ = arr[o]? := by
  simp [World.cell?, h]

theorem setBlk_setBlk (w : World) (b : Nat) (o o' : Obj) : World.setBlk (World.setBlk w b o) b o' = World.setBlk w b o' := by
  simp [World.setBlk]

theorem run_storeCells {P : Program} {b ty : Nat} : ∀ (vs : List Value) (w : World) (o i : Nat) (arr : Array Value), w.heap[b]? = some (.cells arr ty (0, 0)) → (∀ v ∈ vs, v.oneCell' = true) →
    o + i + vs.length ≤ arr.size → (storeCells ⟨b, o, none⟩ vs i).run P w = .ok () (World.setBlk w b (.cells (arrSet arr (o + i) vs) ty (0, 0)))
  | [], w, o, i, arr, hb, hv, hs => by
    have h1 := (Array.getElem?_eq_some_iff.1 hb).1
    have h2 := (Array.getElem?_eq_some_iff.1 hb).2
    have : World.setBlk w b (.cells (arrSet arr (o + i) []) ty (0, 0)) = w := by
      unfold World.setBlk arrSet
      congr 1
      apply Array.ext_getElem?
      intro k
      by_cases hk : b = k
      · subst hk; simp [h1, h2]
      · simp [Array.getElem?_setIfInBounds_ne hk]
    rw [this]
    simp [storeCells]
  | v :: vs, w, o, i, arr, hb, hv, hs => by
    simp only [List.length_cons] at hs
    have hc : w.cell? ⟨b, o + i, none⟩ = some (arr[o + i]'(by omega)) := by rw [cell_blk hb]; exact Array.getElem?_eq_getElem (by omega)
    have hf : w.frozen? ⟨b, o + i, none⟩ = false := by simp [World.frozen?, hb]
    have h1 := (Array.getElem?_eq_some_iff.1 hb).1
    unfold storeCells
    simp only [add_mk, Sem.run_bind]
    rw [run_store P w _ v .plain (hv v (by simp))]
    simp only [hc, hf, Bool.false_eq_true, if_false, Result.andThen_ok]
    rw [setCell_blk hb]
    have hb' : (World.setBlk w b (.cells (arr.setIfInBounds (o + i) v) ty (0, 0))).heap[b]? = some (.cells (arr.setIfInBounds (o + i) v) ty (0, 0)) := setBlk_at _ _ _ h1
    rw [run_storeCells vs _ o (i + 1) _ hb' (fun u hu => hv u (by simp [hu])) (by simp; omega)]
    rw [setBlk_setBlk]
    rfl

theorem run_newRow {P : Program} {w : World} (t : TypeId) (cs : Array Value) : (newRow t cs).run P w = .ok ⟨w.heap.size, 0, none⟩ (w.alloc (.cells cs t)) := by
  simp [newRow]

theorem run_underlying' {P : Program} {w : World} {t : TypeId} {d : TypeDesc} (h : P.underlying t = some d) : (underlying t).run P w = .ok d w := by
  simp [underlying, h]
theorem run_typeInfo' {P : Program} {w : World} {t : TypeId} {i : TypeInfo} (h : P.info? t = some i) : (typeInfo t).run P w = .ok i w := by
  simp [typeInfo, h]
theorem run_sizeOf' {P : Program} {w : World} {t : TypeId} {i : TypeInfo} (h : P.info? t = some i) : (sizeOf t).run P w = .ok i.size w := by
  simp [sizeOf, run_typeInfo' h]
theorem run_zeroValue' {P : Program} {w : World} {t : TypeId} {i : TypeInfo} {z : Value} (h : P.info? t = some i) (hz : i.zero = some z) : (zeroValue t).run P w = .ok z w := by
  simp [zeroValue, run_typeInfo' h, hz]

/-- Is a value of this type several cells? -/
def aggB (P : Program) (t : TypeId) : Option Bool := (P.underlying t).map fun | .struct _ | .array _ _ => true | _ => false

theorem run_isAgg {P : Program} {w : World} {t : TypeId} {ag : Bool} (h : aggB P t = some ag) : (isAgg t).run P w = .ok ag w := by
  unfold aggB at h
  cases hu : P.underlying t with
  | none => simp [hu] at h
  | some d =>
    simp [hu] at h
    subst h
    cases d <;> simp [isAgg, run_underlying' hu]

theorem run_loadVar {P : Program} {w : World} {t : TypeId} {ag : Bool} {i : TypeInfo} {b o : Nat} {vs : List Value} (h : aggB P t = some ag) (hi : P.info? t = some i)
    (h1 : ag = false → i.size = 1) (hl : vs.length = i.size) (hc : ∀ j, j < i.size → w.cell? ⟨b, o + j, none⟩ = vs[j]?) :
    (loadVar t ⟨b, o, none⟩).run P w = .ok (if ag then .agg vs.toArray else vs.getD 0 undef) w := by
  unfold loadVar
  simp only [Sem.run_bind, run_isAgg h, Result.andThen_ok]
  cases ag with
  | true => simp [run_sizeOf' hi, run_loadCells hl hc]
  | false =>
    have h0 := h1 rfl
    have hc0 : w.cell? ⟨b, o, none⟩ = vs[0]? := by simpa using hc 0 (by omega)
    have : 0 < vs.length := by omega
    rw [List.getElem?_eq_getElem this] at hc0
    simp [run_load, hc0, this]

theorem run_storeVar {P : Program} {w : World} {t : TypeId} {i : TypeInfo} {b o : Nat} {v : Value} {arr : Array Value} {ty : TypeId} (hi : P.info? t = some i) (hl : v.cells.size = i.size)
    (hb : w.heap[b]? = some (.cells arr ty (0, 0))) (hv : ∀ u ∈ v.cells.toList, u.oneCell' = true) (hs : o + i.size ≤ arr.size) :
    (storeVar t ⟨b, o, none⟩ v).run P w = .ok () (World.setBlk w b (.cells (arrSet arr o v.cells.toList) ty (0, 0))) := by
  unfold storeVar
  simp only [Sem.run_bind, run_sizeOf' hi, Result.andThen_ok]
  rw [if_neg (by simpa using hl)]
  rw [run_storeCells v.cells.toList w o 0 arr hb hv (by simp; omega)]
  simp

end Go.Sep

/- When an operation of the model is one of the executor's; what it means that the executor tells right what it does. -/
namespace Go.Sep
set_option linter.unusedVariables false
set_option linter.unusedSimpArgs false

mutual
def chkV : AV → Value → Bool
  | .bool c, v => (match v with | .bool b => b == c | _ => false)
  | .int k m, v => (match v with | .int k' n => k == k' && n == m | _ => false)
  | .str t, v => (match v with | .string s => decide (s = t) | _ => false)
  | .nil, v => (match v with | .slice none 0 0 => true | _ => false)
  | .nilp, v => (match v with | .pointer none => true | _ => false)
  | .nilI, v => (match v with | .nilIface => true | _ => false)
  | .agg ds, v => (match v with | .agg cs => chkVs ds cs.toList | _ => false)
  | _, _ => false
def chkVs : List AV → List Value → Bool
  | [], vs => (match vs with | [] => true | _ => false)
  | d :: ds, vs => (match vs with | v :: vs => chkV d v && chkVs ds vs | _ => false)
end

def chkA (num : Nat → Nat) : Operand → Arg → Bool
  | .tmp t, .t n => t == n
  | .const v, .c d => chkV d v
  | .func f, .c (.fn g []) => f == num g
  | _, _ => false

def chkAs (num : Nat → Nat) : List Operand → List Arg → Bool
  | [], [] => true
  | x :: xs, y :: ys => chkA num x y && chkAs num xs ys
  | _, _ => false

def upH (H : Nat → Option Row) : FP → Nat → Option Row
  | [] => H
  | (n, _, r) :: fp => upH (fun m => if m = n then r else H m) fp

/-- An operation, told right: whatever the world, its value and its rows are as told, and all else lies as it lay. -/
def Tri (P : Program) (num : Nat → Nat) (o : Oper) (ρ : Nat → AV) (v : AV) (fp : FP) : Prop :=
  ∀ (e : Env) (L0 : List Nat) (H : Nat → Option Row) (Lf : Nat → List Nat) (A : Nat → Prop) (a : Act) (K : Act → World → Prop) (Q : Exit → Act → World → Prop),
    e.num = num → Ok e L0 H Lf → (∀ x ∈ fp, H x.1 = x.2.1) → (∀ t, bnd A (ρ t)) → (∀ nm row, H nm = some row → bndr A row.2) → (∀ x ∈ fp, x.2.1 = none → ¬ A x.1) → (∀ t, RV e (ρ t) (a.tmps.getD t undef) []) →
    (∀ e' Lf' v', Turns e H Lf (fun n => n ∈ fp.map (·.1)) e' (upH H fp) Lf' → RV e' v v' [] → K (a.put o.dst v') e'.w) →
    o.wp P a e.w K Q

theorem wp_value {P : Program} {o : Oper} {a : Act} {w w' : World} {v : Value} {K : Act → World → Prop} {Q : Exit → Act → World → Prop}
    (h : (execOp a.eval o).run P w = .ok (.value v) w') (k : K (a.put o.dst v) w') : o.wp P a w K Q := by
  unfold Oper.wp
  rw [h]
  exact k

theorem wp_skipped {P : Program} {o : Oper} {a : Act} {w w' : World} {K : Act → World → Prop} {Q : Exit → Act → World → Prop}
    (h : (execOp a.eval o).run P w = .ok .skip w') (k : K (a.put o.dst undef) w') : o.wp P a w K Q := by
  unfold Oper.wp
  rw [h]
  exact k

theorem upH_none {H : Nat → Option Row} : ∀ {fp : FP} {n : Nat}, n ∉ fp.map (·.1) → upH H fp n = H n
  | [], _, _ => rfl
  | (m, p, r) :: fp, n, h => by
    simp only [List.map_cons, List.mem_cons, not_or] at h
    simp only [upH]
    rw [upH_none h.2, if_neg h.1]

theorem upH_same {H : Nat → Option Row} : ∀ {fp : FP}, (∀ x ∈ fp, H x.1 = x.2.1) → (∀ x ∈ fp, x.2.2 = x.2.1) → upH H fp = H
  | [], _, _ => rfl
  | (m, p, r) :: fp, h1, h2 => by
    simp only [upH]
    have hr : r = H m := by
      have a := h1 (m, p, r) (by simp)
      have b := h2 (m, p, r) (by simp)
      simp at a b
      rw [b, a]
    have : (fun k => if k = m then r else H k) = H := by
      funext k
      by_cases hk : k = m
      · rw [if_pos hk, hk, hr]
      · rw [if_neg hk]
    rw [this]
    exact upH_same (fun x hx => h1 x (by simp [hx])) (fun x hx => h2 x (by simp [hx]))

/-- Nothing turns. -/
theorem Turns.refl {e : Env} {L0 : List Nat} {H : Nat → Option Row} {Lf : Nat → List Nat} (F : Nat → Prop) (h : Ok e L0 H Lf) : Turns e H Lf F e H Lf where
  num := rfl
  w0 := rfl
  Fr := rfl
  Bo := rfl
  io := SameIo.refl _
  size := Nat.le_refl _
  keep _ _ _ := rfl
  φ _ _ := rfl
  φF _ _ _ := .inl rfl
  rest _ _ := rfl
  row nm row _ hr := h.rh.row nm row hr
  nodup nm _ hn := h.rh.nodup nm hn
  blk nm hF hn b hb := ⟨(h.rh.blk nm hn b hb).1, .inr ⟨nm, hF, hn, hb⟩⟩
  dis n m _ _ hn hm hne b hb := h.rh.dis n m hn hm hne b hb
  dead nm _ hn := h.rh.dead nm hn

/-- Worlds in which a read reads the same: what is frozen, and the rows of its names. -/
def Same (e : Env) (fp : FP) (w' : World) : Prop :=
  (∀ b, e.Fr b ∨ e.Bo b → ∀ o, w'.cell? ⟨b, o, none⟩ = e.w.cell? ⟨b, o, none⟩) ∧ ∀ x ∈ fp, ∀ q, e.φ x.1 = .at q → w'.heap[q.block]? = e.w.heap[q.block]?

theorem Same.of_heap {e : Env} {fp : FP} {w' : World} (h : w'.heap = e.w.heap) : Same e fp w' := ⟨fun b _ o => cell_of_heap (by rw [h]) o, fun _ _ q _ => by rw [h]⟩

theorem Same.refl (e : Env) (fp : FP) : Same e fp e.w := ⟨fun _ _ _ => rfl, fun _ _ _ _ => rfl⟩

/-- A read, told right: one value in all such worlds; and what it does to the names. -/
def TriR (P : Program) (num : Nat → Nat) (o : Oper) (ρ : Nat → AV) (v : AV) (fp : FP) : Prop :=
  ∀ (e : Env) (L0 : List Nat) (H : Nat → Option Row) (Lf : Nat → List Nat) (A : Nat → Prop) (a : Act),
    e.num = num → Ok e L0 H Lf → (∀ x ∈ fp, H x.1 = x.2.1) → (∀ t, bnd A (ρ t)) → (∀ nm row, H nm = some row → bndr A row.2) → (∀ x ∈ fp, x.2.1 = none → ¬ A x.1) → (∀ t, RV e (ρ t) (a.tmps.getD t undef) []) →
    ∃ v', (∀ w', Same e fp w' → (execOp a.eval o).run P w' = .ok (.value v') w') ∧ ∃ e' Lf', e'.w = e.w ∧ Turns e H Lf (fun n => n ∈ fp.map (·.1)) e' (upH H fp) Lf' ∧ RV e' v v' []

theorem TriR.tri {P : Program} {num : Nat → Nat} {o : Oper} {ρ : Nat → AV} {v : AV} {fp : FP} (h : TriR P num o ρ v fp) : Tri P num o ρ v fp := by
  intro e L0 H Lf A a K Q hn hk hpre hb hbh hf ht k
  obtain ⟨v', h1, e', Lf', h2, h3, h4⟩ := h e L0 H Lf A a hn hk hpre hb hbh hf ht
  have := k e' Lf' v' h3 h4
  rw [h2] at this
  exact wp_value (h1 e.w (Same.refl e fp)) this

/-- An operation that turns no row. -/
theorem Tri.of_read {P : Program} {num : Nat → Nat} {o : Oper} {ρ : Nat → AV} {v : AV} {fp : FP} (hfp : ∀ x ∈ fp, x.2.2 = x.2.1)
    (h : ∀ (e : Env) (L0 : List Nat) (H : Nat → Option Row) (Lf : Nat → List Nat) (a : Act), e.num = num → Ok e L0 H Lf → (∀ x ∈ fp, H x.1 = x.2.1) → (∀ t, RV e (ρ t) (a.tmps.getD t undef) []) →
      ∃ v', (∀ w', Same e fp w' → (execOp a.eval o).run P w' = .ok (.value v') w') ∧ RV e v v' []) : TriR P num o ρ v fp := by
  intro e L0 H Lf A a hn hk hpre _ _ _ ht
  obtain ⟨v', hr, hv⟩ := h e L0 H Lf a hn hk hpre ht
  refine ⟨v', hr, e, Lf, rfl, ?_, hv⟩
  rw [upH_same hpre hfp]
  exact Turns.refl _ hk

mutual
theorem RV_const {e : Env} : ∀ {d : AV} {v : Value}, chkV d v = true → RV e d v []
  | .bool c, v, h => by cases v <;> simp_all [chkV, RV]
  | .int k m, v, h => by cases v <;> simp_all [chkV, RV]
  | .str t, v, h => by cases v <;> simp_all [chkV, RV]
  | .nil, v, h => by
    simp only [chkV] at h
    split at h
    · simp [RV]
    · simp at h
  | .nilp, v, h => by
    simp only [chkV] at h
    split at h
    · simp [RV]
    · simp at h
  | .nilI, v, h => by
    simp only [chkV] at h
    split at h
    · simp [RV]
    · simp at h
  | .agg ds, v, h => by
    simp only [chkV] at h
    split at h
    · rename_i cs
      simp only [RV]
      exact ⟨cs.toList, rfl, RVs_const h⟩
    · simp at h
  | .any, _, h | .fn _ _, _, h | .ptr _ _ _, _, h | .fptr _ _ _, _, h | .ifc, _, h | .ns _ _ _, _, h | .sl _ _ _, _, h | .tup _, _, h => by simp [chkV] at h
theorem RVs_const {e : Env} : ∀ {ds : List AV} {vs : List Value}, chkVs ds vs = true → RVs e ds vs []
  | [], vs, h => by
    cases vs <;> simp_all [chkVs, RVs]
  | d :: ds, vs, h => by
    cases vs with
    | nil => simp [chkVs] at h
    | cons v vs =>
      simp only [chkVs, Bool.and_eq_true] at h
      simp only [RVs]
      exact ⟨v, vs, [], [], rfl, RV_const h.1, RVs_const h.2, rfl⟩
end

theorem RV_arg {e : Env} {ρ : Nat → AV} {a : Act} {x : Operand} {y : Arg} (ht : ∀ t, RV e (ρ t) (a.tmps.getD t undef) []) (h : chkA e.num x y = true) :
    RV e (y.ev ρ) (a.eval x) [] := by
  cases x with
  | tmp t =>
    cases y with
    | t n => simp [chkA] at h; subst h; exact ht t
    | c d => simp [chkA] at h
  | const v =>
    cases y with
    | t n => simp [chkA] at h
    | c d => exact RV_const h
  | global g => cases y <;> simp [chkA] at h
  | func f =>
    cases y with
    | t n => simp [chkA] at h
    | c d =>
      cases d with
      | fn g cap =>
        cases cap with
        | nil => simp [chkA] at h; subst h; simp [Arg.ev, RV, RVs, Act.eval]
        | cons => simp [chkA] at h
      | _ => simp [chkA] at h

end Go.Sep

/- The check that the model's code is the executor's code: by looking alone. -/
namespace Go.Sep
set_option linter.unusedVariables false
set_option linter.unusedSimpArgs false

def chkZero (P : Program) (t : TypeId) (zero : List AV) : Bool :=
  match P.info? t with
  | some i => i.size == zero.length && zero.all cellOk && (match i.zero with
    | some z => chkVs zero z.cells.toList
    | none => false)
  | none => false

def sizeIs (P : Program) (t : TypeId) (n : Nat) : Bool := (P.info? t).map (·.size) == some n
def bytesIs (P : Program) (t : TypeId) (n : Nat) : Bool := (P.info? t).map (·.bytes) == some n

def elemOf? (P : Program) (t : TypeId) : Option TypeId :=
  match P.underlying t with
  | some (.slice e) => some e
  | _ => none

def fieldsOf (P : Program) (t : TypeId) : Option (Array Field) :=
  match P.underlying t with
  | some (.struct fs) => some fs
  | _ => none

def isStr (P : Program) (t : TypeId) : Bool := match P.underlying t with | some .string => true | _ => false
def isBool (P : Program) (t : TypeId) : Bool := match P.underlying t with | some .bool => true | _ => false
def isInt (P : Program) (t : TypeId) : Bool := match P.underlying t with | some (.int _) => true | _ => false
def isIface (P : Program) (t : TypeId) : Bool := match P.underlying t with | some (.interface _) => true | _ => false

def chkO (num : Nat → Nat) : Option Operand → Option Arg → Bool
  | none, none => true
  | some x, some y => chkA num x y
  | _, _ => false

def chkParts (P : Program) (num : Nat → Nat) (fs : Array Field) : List (Nat × Operand) → List (Nat × Nat × Arg) → Bool
  | [], [] => true
  | (i, x) :: ps, (off, sz, y) :: qs => (match fs[i]? with | some f => f.offset == off && sizeIs P f.type sz | none => false) && chkA num x y && chkParts P num fs ps qs
  | _, _ => false

def chkRows (num : Nat → Nat) : List (Nat × Operand) → List (Nat × Arg) → Bool
  | [], [] => true
  | (i, x) :: ps, (j, y) :: qs => i == j && chkA num x y && chkRows num ps qs
  | _, _ => false

/-- Fields of one cell each, of whole numbers (true) or bools (false), one behind the other. -/
def flatFields (P : Program) : Nat → List Bool → List Field → Bool
  | _, [], [] => true
  | i, k :: ks, f :: fs => f.name != "_" && f.offset == i && (if k then isInt P f.type else isBool P f.type) && flatFields P (i + 1) ks fs
  | _, _, _ => false

def chkOp (P : Program) (num : Nat → Nat) : MOp → Op → Bool
  | .mv y, op => (match op with | .move x | .assign x => chkA num x y | _ => false)
  | .pick c a b, op => (match op with | .pick c' a' b' => chkA num c' c && chkA num a' a && chkA num b' b | _ => false)
  | .alloc zero, op => (match op with | .alloc t => chkZero P t zero | _ => false)
  | .box y, op => (match op with | .box _ x => chkA num x y | _ => false)
  | .build zero parts, op => (match op with
    | .build t ps => chkZero P t zero && (match fieldsOf P t with
      | some fs => fs.toList.all (fun f => (P.info? f.type).isSome) && chkParts P num fs ps.toList parts
      | none => false)
    | _ => false)
  | .mkSl zero len parts, op => (match op with
    | .buildSlice t l ps => l == len && (match elemOf? P t with
      | some el => chkZero P el zero && decide (0 < zero.length) && decide (len * zero.length ≤ 2 ^ 24) && chkRows num ps.toList parts
      | none => false)
    | _ => false)
  | .load n ag y, op => (match op with | .load t x => chkA num x y && sizeIs P t n && aggB P t == some ag && (ag || n == 1) | _ => false)
  | .store n y z, op => (match op with | .store t x v => chkA num x y && chkA num v z && sizeIs P t n | _ => false)
  | .nilck y, op => (match op with | .nilCheck x => chkA num x y | _ => false)
  | .bin b y z, op => (match op with | .binOp b' t x v _ => b == b' && chkA num x y && chkA num v z | _ => false)
  | .eqS neg ks y z, op => (match op with
    | .binOp b t x v _ => (if neg then b == .neq else b == .eql) && chkA num x y && chkA num v z && (match fieldsOf P t with
      | some fs => flatFields P 0 ks fs.toList && !P.stoodInHeld t && !P.eqGuardType P.depth t
      | none => false)
    | _ => false)
  | .eqB neg y z, op => (match op with | .binOp b t x v _ => (if neg then b == .neq else b == .eql) && chkA num x y && chkA num v z && isBool P t | _ => false)
  | .neNil y, op => (match op with | .binOp .neq t x (.const .nilIface) _ => chkA num x y && isIface P t | _ => false)
  | .un u y, op => (match op with | .unOp u' _ x => u == u' && chkA num x y | _ => false)
  | .cvi k y, op => (match op with | .convert s d x => chkA num x y && (match P.underlying s, P.underlying d with | some _, some (.int k') => k == k' | _, _ => false) | _ => false)
  | .cvs y, op => (match op with | .convert s d x => chkA num x y && isStr P d && (match elemOf? P s with | some el => (match P.underlying el with | some (.int .u8) => true | _ => false) | none => false) | _ => false)
  | .mkS zero bytes l c, op => (match op with
    | .makeSlice t l' c' => chkA num l' l && chkA num c' c && (match elemOf? P t with | some el => chkZero P el zero && decide (0 < zero.length) && bytesIs P el bytes | none => false)
    | _ => false)
  | .cut sz y lo hi, op => (match op with
    | .slice t x l h none => chkA num x y && chkO num l lo && chkO num h hi && (match elemOf? P t with | some el => sizeIs P el sz | none => false)
    | _ => false)
  | .cutS y lo hi, op => (match op with | .slice t x l h none => chkA num x y && chkO num l lo && chkO num h hi && isStr P t | _ => false)
  | .fad off y, op => (match op with
    | .fieldAddr s x f => chkA num x y && (match fieldsOf P s with | some fs => (match fs[f]? with | some g => g.offset == off && (match P.info? g.type with | some i => i.size != 0 | none => false) | none => false) | none => false)
    | _ => false)
  | .fld off n ag y, op => (match op with
    | .field t x f => chkA num x y && (match fieldsOf P t with | some fs => (match fs[f]? with | some g => g.offset == off && sizeIs P g.type n && aggB P g.type == some ag && (ag || n == 1) | none => false) | none => false)
    | _ => false)
  | .iad sz y z, op => (match op with | .indexAddr t x i => chkA num x y && chkA num i z && (match elemOf? P t with | some el => sizeIs P el sz | none => false) | _ => false)
  | .idx y z, op => (match op with | .index t x i => chkA num x y && chkA num i z && isStr P t | _ => false)
  | .ext y i, op => (match op with | .extract x j => chkA num x y && i == j | _ => false)
  | .len y, op => (match op with | .call { callee := .builtin .len, args, argTypes } => (match args.toList, argTypes[0]? with | [x], some t => chkA num x y && (elemOf? P t).isSome | _, _ => false) | _ => false)
  | .lenS y, op => (match op with | .call { callee := .builtin .len, args, argTypes } => (match args.toList, argTypes[0]? with | [x], some t => chkA num x y && isStr P t | _, _ => false) | _ => false)
  | .mx y z, op => (match op with | .call { callee := .builtin .max, args, argTypes } => (match args.toList with | [x, v] => chkA num x y && chkA num v z | _ => false) | _ => false)
  | .app sz bytes y z, op => (match op with
    | .call { callee := .builtin .append, args, argTypes } => (match args.toList, argTypes[0]?, argTypes[1]? with
      | [x, v], some t, some u => chkA num x y && chkA num v z && (elemOf? P u).isSome && (match elemOf? P t with | some el => sizeIs P el sz && bytesIs P el bytes && (match P.info? el with | some i => (match i.zero with | some z => z.cells.size == sz | none => false) | none => false) | none => false)
      | _, _, _ => false)
    | _ => false)
  | .clr zero y, op => (match op with | .call { callee := .builtin .clear, args, argTypes } => (match args.toList, argTypes[0]? with | [x], some t => chkA num x y && (match elemOf? P t with | some el => chkZero P el zero | none => false) | _, _ => false) | _ => false)
  | .call g _ ys, op => (match op with | .call { callee := .value (.func f), args, argTypes } => f == num g && chkAs num args.toList ys | _ => false)
  | .calv y ys, op => (match op with | .call { callee := .value x, args, argTypes } => chkA num x y && chkAs num args.toList ys | _ => false)

def chkOper (P : Program) (num : Nat → Nat) (ops : Array Oper) (m : MOper) (o : Oper) : Bool :=
  o.dst == m.dst && chkOp P num m.op o.op &&
  (match o.guard, m.guard with
  | none, none => true
  | some (j, w), some (t, w') => w == w' && (ops[j]?).bind (·.dst) == some t
  | _, _ => false)

def chkOpers (P : Program) (num : Nat → Nat) (ops : Array Oper) : List MOper → List Oper → Bool
  | [], [] => true
  | m :: ms, o :: os => chkOper P num ops m o && chkOpers P num ops ms os
  | _, _ => false

end Go.Sep
