/- What a law's parameters hold, read by the kit, told by symbolic values: whatever their types. -/
import Derived.Test.YtoijhndfkfliiaaRow2
import Derived.ChangeArms
import Derived.WideShapes
import Derived.DataReads
namespace Go.Sep
open Go.WideShapes
set_option linter.unusedVariables false
set_option linter.unusedSimpArgs false

/-- What stands in the n cells of a value of type t, read by the kit, is told by c of some x, of which Q holds. -/
def Reading (P : Program) (num : Nat → Nat) (t : TypeId) (n : Nat) {α : Type} (c : α → List AV) (Q : α → Prop) : Prop :=
  P.cellsOf t = n ∧ (∀ x, (c x).length = n ∧ (c x).all cellOk = true) ∧
  ∀ {H : Type} (enc : TypeId × Value → H) (W : World) (held : Bool) (fuel : Nat) (cs : List Value) (y : DataW H × List MemPlace),
    DataW.trod enc P W 0 (fun _ => true) held fuel t cs = some y → ∃ x, Q x ∧ RVs (entry num W) (c x) cs []

theorem choose_list {α : Type} {R : Nat → α → Prop} : ∀ n, (∀ i, i < n → ∃ x, R i x) → ∃ l : List α, l.length = n ∧ ∀ i x, l[i]? = some x → R i x
  | 0, _ => ⟨[], rfl, by simp⟩
  | n + 1, h => by
    obtain ⟨l, hl, hr⟩ := choose_list n (fun i hi => h i (by omega))
    obtain ⟨x, hx⟩ := h n (by omega)
    refine ⟨l ++ [x], by simp [hl], fun i y hy => ?_⟩
    rcases Nat.lt_trichotomy i n with hi | hi | hi
    · rw [List.getElem?_append_left (by omega)] at hy
      exact hr i y hy
    · subst hi
      rw [List.getElem?_append_right (by omega)] at hy
      simp [hl] at hy
      subst hy
      exact hx
    · rw [List.getElem?_eq_none (by simp; omega)] at hy
      simp at hy

section
variable {P : Program} {num : Nat → Nat} {t : TypeId}

theorem read_int (ht : P.underlying t = some (.int .i64)) (hc : P.cellsOf t = 1) : Reading P num t 1 (fun n : Int => [.int .i64 n]) (fun n => -(2 ^ 63) ≤ n ∧ n < 2 ^ 63) := by
  refine ⟨hc, fun _ => ⟨rfl, rfl⟩, fun {H} enc W held fuel cs y h => ?_⟩
  obtain ⟨n, rfl, _, hw⟩ := DataW.trod_int ht h
  refine ⟨n, ?_, by simp [RVs, RV]⟩
  simp only [Lit.wf, IntKind.min, IntKind.max, IntKind.signed, IntKind.bits, Bool.and_eq_true, decide_eq_true_eq, if_true] at hw
  omega

theorem read_u8 (ht : P.underlying t = some (.int .u8)) (hc : P.cellsOf t = 1) : Reading P num t 1 (fun n : UInt8 => [.int .u8 n.toNat]) (fun _ => True) := by
  refine ⟨hc, fun _ => ⟨rfl, rfl⟩, fun {H} enc W held fuel cs y h => ?_⟩
  obtain ⟨n, rfl, _, hw⟩ := DataW.trod_int ht h
  simp only [Lit.wf, IntKind.min, IntKind.max, IntKind.signed, IntKind.bits, Bool.and_eq_true, decide_eq_true_eq, if_false, Bool.false_eq_true] at hw
  refine ⟨UInt8.ofNat n.toNat, trivial, ?_⟩
  have : ((UInt8.ofNat n.toNat).toNat : Int) = n := by
    rw [UInt8.toNat_ofNat']
    omega
  simp only [RVs, RV, this]
  exact ⟨_, _, [], [], rfl, ⟨rfl, rfl⟩, ⟨rfl, rfl⟩, rfl⟩

theorem read_bool (ht : P.underlying t = some .bool) (hc : P.cellsOf t = 1) : Reading P num t 1 (fun b : Bool => [.bool b]) (fun _ => True) := by
  refine ⟨hc, fun _ => ⟨rfl, rfl⟩, fun {H} enc W held fuel cs y h => ?_⟩
  obtain ⟨b, rfl, _⟩ := DataW.trod_bool ht h
  exact ⟨b, trivial, by simp [RVs, RV]⟩

theorem read_str (ht : P.underlying t = some .string) (hc : P.cellsOf t = 1) : Reading P num t 1 (fun s : ByteArray => [.str s]) (fun s => s.size < 2 ^ 63) := by
  refine ⟨hc, fun _ => ⟨rfl, rfl⟩, fun {H} enc W held fuel cs y h => ?_⟩
  obtain ⟨s, rfl, _, hs⟩ := DataW.trod_string ht h
  refine ⟨s, ?_, by simp [RVs, RV]⟩
  unfold maxLen at hs
  omega

theorem rrows_of {e : Env} {W : World} {α : Type} {c : α → List AV} {b m : Nat} (hc : ∀ x, (c x).length = m ∧ (c x).all cellOk = true) : ∀ (l : List α) (o : Nat),
    (∀ i x, l[i]? = some x → ∃ cs, cs.length = m ∧ (∀ j, j < m → W.cell? ⟨b, o + i * m + j, none⟩ = cs[j]?) ∧ RVs e (c x) cs []) → RRows e W b o m (l.map c) []
  | [], o, _ => by simp [RRows]
  | x :: l, o, h => by
    obtain ⟨cs, h1, h2, h3⟩ := h 0 x (by simp)
    have ih := rrows_of (e := e) hc l (o + m) (fun i y hy => by
      obtain ⟨ds, k1, k2, k3⟩ := h (i + 1) y (by simpa using hy)
      refine ⟨ds, k1, fun j hj => ?_, k3⟩
      have := k2 j hj
      rw [Nat.succ_mul] at this
      rw [← this]
      congr 2
      omega)
    simp only [List.map_cons, RRows]
    exact ⟨cs, [], [], hc x, h1, fun j hj => by have := h2 j hj; simpa using this, h3, ih, rfl⟩

theorem read_sl {e : TypeId} {m : Nat} {α : Type} {c : α → List AV} {Q : α → Prop} (ht : P.underlying t = some (.slice e)) (hc : P.cellsOf t = 1) (hm : 0 < m) (he : Reading P num e m c Q) :
    Reading P num t 1 (fun l : List α => [.sl .bw m (l.map c)]) (fun l => l.length < 2 ^ 63 ∧ ∀ x ∈ l, Q x) := by
  refine ⟨hc, fun _ => ⟨rfl, rfl⟩, fun {H} enc W held fuel cs y h => ?_⟩
  obtain ⟨he1, he2, he3⟩ := he
  rcases DataW.trod_slice ht h with ⟨rfl, _⟩ | ⟨a, len, cap, elems, rest, n, _, rfl, _, _, hl, hx, hlen, hel, _⟩
  · refine ⟨[], by simp, ?_⟩
    simp only [RVs, RV]
    exact ⟨_, _, [], [], rfl, ⟨rfl, .inl ⟨rfl, none, 0, rfl, fun _ => rfl⟩⟩, ⟨rfl, rfl⟩, rfl⟩
  · have key : ∀ i, i < len → ∃ x, Q x ∧ ∃ ds, ds.length = m ∧ (∀ j, j < m → W.cell? ((a.add (i * m)).add j) = ds[j]?) ∧ RVs (entry num W) (c x) ds [] := by
      intro i hi
      have h1 := hel i hi
      rw [List.getElem?_eq_getElem (by omega), he1] at h1
      obtain ⟨ds, h2, h3⟩ := Option.bind_eq_some_iff.1 h1
      obtain ⟨x, h4, h5⟩ := he3 enc W held _ _ _ h3
      obtain ⟨h6, h7, h8⟩ := World.cells?_some h2
      exact ⟨x, h4, ds, h7, h8, h5⟩
    obtain ⟨l, hl1, hl2⟩ := choose_list len key
    refine ⟨l, ⟨by unfold maxLen at hx; omega, fun x hx' => ?_⟩, ?_⟩
    · obtain ⟨i, hi, rfl⟩ := List.getElem_of_mem hx'
      exact (hl2 i _ (List.getElem?_eq_getElem hi)).1
    · simp only [RVs, RV]
      refine ⟨_, _, [], [], rfl, ⟨rfl, ?_⟩, ⟨rfl, rfl⟩, rfl⟩
      by_cases hz : len = 0
      · subst hz
        have : l = [] := List.length_eq_zero_iff.1 hl1
        subst this
        exact .inl ⟨rfl, some a, cap, rfl, by simp⟩
      · obtain ⟨b, o, sp⟩ := a
        have h0 : 0 < l.length := by omega
        obtain ⟨_, ds0, k1, k2, _⟩ := hl2 0 _ (List.getElem?_eq_getElem h0)
        have k3 := k2 0 hm
        rw [List.getElem?_eq_getElem (by omega)] at k3
        simp only [Nat.zero_mul, Addr.add, if_true] at k3
        unfold World.cell? at k3
        have hb : b < W.heap.size := by
          rcases Nat.lt_or_ge b W.heap.size with h | h
          · exact h
          · simp [Array.getElem?_eq_none h] at k3
        have hsp : sp = none := by
          cases sp with
          | none => rfl
          | some s => simp at k3; split at k3 <;> simp at k3
        subst hsp
        refine .inr ⟨b, o, cap, by simp [hl1], by simp [hl1]; omega, .inr hb, rrows_of he2 l o (fun i x hx' => ?_)⟩
        obtain ⟨_, ds, p1, p2, p3⟩ := hl2 i x hx'
        exact ⟨ds, p1, fun j hj => by have := p2 j hj; rw [add_mk, add_mk] at this; exact this, p3⟩

theorem RVs_app {e : Env} : ∀ (l m : List AV) {cs ds : List Value}, RVs e l cs [] → RVs e m ds [] → RVs e (l ++ m) (cs ++ ds) []
  | [], m, cs, ds, h1, h2 => by
    simp only [RVs] at h1
    obtain ⟨rfl, _⟩ := h1
    exact h2
  | a :: l, m, cs, ds, h1, h2 => by
    simp only [RVs, List.cons_append] at h1 ⊢
    obtain ⟨v, vs, L1, L2, rfl, k1, k2, k3⟩ := h1
    have hL1 : L1 = [] := (nil_of_append k3).1
    have hL2 : L2 = [] := (nil_of_append k3).2
    subst hL1 hL2
    exact ⟨v, vs ++ ds, [], [], rfl, k1, RVs_app l m k2 h2, rfl⟩

/-- The fields of a struct, from one on, read by the kit. -/
def ReadFs (P : Program) (num : Nat → Nat) (fs : List Field) (off n : Nat) {α : Type} (c : α → List AV) (Q : α → Prop) : Prop :=
  (∀ x, (c x).length = n ∧ (c x).all cellOk = true) ∧
  ∀ {H : Type} (enc : TypeId × Value → H) (W : World) (held : Bool) (fuel : Nat) (cs : List Value), cs.length = off + n →
    (∀ f ∈ fs, ∃ y, DataW.trod enc P W 0 (fun _ => true) held fuel f.type ((cs.drop f.offset).take (P.cellsOf f.type)) = some y) → ∃ x, Q x ∧ RVs (entry num W) (c x) (cs.drop off) []

theorem read_fs0 (off : Nat) : ReadFs P num [] off 0 (fun _ : Unit => []) (fun _ => True) := by
  refine ⟨fun _ => ⟨rfl, rfl⟩, fun {H} enc W held fuel cs hl _ => ⟨(), trivial, ?_⟩⟩
  simp only [RVs]
  exact ⟨List.drop_eq_nil_of_le (by omega), trivial⟩

theorem read_fs {f : Field} {fs : List Field} {off m n : Nat} {α β : Type} {c : α → List AV} {d : β → List AV} {Q : α → Prop} {R : β → Prop} (hf : f.offset = off) (h1 : Reading P num f.type m c Q) (h2 : ReadFs P num fs (off + m) n d R) :
    ReadFs P num (f :: fs) off (m + n) (fun x : α × β => c x.1 ++ d x.2) (fun x => Q x.1 ∧ R x.2) := by
  obtain ⟨a1, a2, a3⟩ := h1
  obtain ⟨b1, b2⟩ := h2
  refine ⟨fun x => ⟨by simp [(a2 x.1).1, (b1 x.2).1], by simp [(a2 x.1).2, (b1 x.2).2]⟩, fun {H} enc W held fuel cs hl h => ?_⟩
  obtain ⟨y, hy⟩ := h f (by simp)
  rw [hf, a1] at hy
  obtain ⟨x1, q1, r1⟩ := a3 enc W held fuel _ y hy
  obtain ⟨x2, q2, r2⟩ := b2 enc W held fuel cs (by omega) (fun g hg => h g (by simp [hg]))
  refine ⟨(x1, x2), ⟨q1, q2⟩, ?_⟩
  have : cs.drop off = (cs.drop off).take m ++ cs.drop (off + m) := by
    rw [← List.drop_drop, List.take_append_drop]
  rw [this]
  exact RVs_app _ _ r1 r2

theorem read_st {fs : Array Field} {n : Nat} {α : Type} {c : α → List AV} {Q : α → Prop} (ht : P.underlying t = some (.struct fs)) (hc : P.cellsOf t = n) (h : ReadFs P num fs.toList 0 n c Q) : Reading P num t n c Q := by
  obtain ⟨b1, b2⟩ := h
  refine ⟨hc, b1, fun {H} enc W held fuel cs y h => ?_⟩
  obtain ⟨xs, k, _, _, h1, h2, h3⟩ := DataW.trod_struct ht h
  obtain ⟨x, q, r⟩ := b2 enc W held k cs (by omega) (fun f hf => by
    obtain ⟨i, hi, rfl⟩ := List.getElem_of_mem hf
    have hi' : i < fs.size := by simpa using hi
    have := h3 i fs[i] (by simp [hi'])
    rw [List.getElem?_eq_getElem (by omega)] at this
    exact ⟨_, by simpa using this⟩)
  exact ⟨x, q, by simpa using r⟩

/-- The same, told by other words. -/
theorem Reading.map {n : Nat} {α β : Type} {c : α → List AV} {d : β → List AV} {Q : α → Prop} {R : β → Prop} (h : Reading P num t n c Q) (f : α → β) (hd : ∀ x, (d x).length = n ∧ (d x).all cellOk = true) (he : ∀ x, c x = d (f x)) (hq : ∀ x, Q x → R (f x)) : Reading P num t n d R := by
  obtain ⟨h1, h2, h3⟩ := h
  refine ⟨h1, hd, fun {H} enc W held fuel cs y h => ?_⟩
  obtain ⟨x, q, r⟩ := h3 enc W held fuel cs y h
  exact ⟨f x, hq x q, he x ▸ r⟩

/-- A parameter in one cell. -/
theorem Reading.one {α : Type} {c : α → List AV} {Q : α → Prop} {H : Type} {enc : TypeId × Value → H} {W : World} {held : Bool} {v : Value} {d : DataW H} {p : List MemPlace} (h : Reading P num t 1 c Q) (hv : v.cells = #[v]) (ht : DataW.Trod enc P W 0 (fun _ => true) held t v d p) :
    ∃ x, Q x ∧ RV (entry num W) ((c x).getD 0 .any) v [] := by
  obtain ⟨fuel, hf⟩ := ht
  obtain ⟨x, q, r⟩ := h.2.2 enc W held fuel _ _ hf
  rw [hv] at r
  have hl := (h.2.1 x).1
  match hcx : c x, hl with
  | [a], _ =>
    rw [hcx] at r
    simp only [RVs] at r
    obtain ⟨v', vs', L1, L2, h1, h2, h3, h4⟩ := r
    have hL1 : L1 = [] := (nil_of_append h4).1
    subst hL1
    simp only [List.cons.injEq] at h1
    rw [h1.1]
    exact ⟨x, q, by simpa [hcx] using h2⟩

/-- A parameter that is a struct. -/
theorem Reading.agg {n : Nat} {α : Type} {c : α → List AV} {Q : α → Prop} {H : Type} {enc : TypeId × Value → H} {W : World} {held : Bool} {vs : Array Value} {d : DataW H} {p : List MemPlace} (h : Reading P num t n c Q) (ht : DataW.Trod enc P W 0 (fun _ => true) held t (.agg vs) d p) :
    ∃ x, Q x ∧ RV (entry num W) (.agg (c x)) (.agg vs) [] := by
  obtain ⟨fuel, hf⟩ := ht
  obtain ⟨x, q, r⟩ := h.2.2 enc W held fuel _ _ hf
  refine ⟨x, q, ?_⟩
  simp only [RV]
  exact ⟨vs.toList, by simp, by simpa [Value.cells] using r⟩

theorem RVs_one {e : Env} {a : AV} {as : List AV} {v : Value} {vs : List Value} (h1 : RV e a v []) (h2 : RVs e as vs []) : RVs e (a :: as) (v :: vs) [] := by
  simp only [RVs]
  exact ⟨_, _, [], [], rfl, h1, h2, rfl⟩
theorem RVs_zero {e : Env} : RVs e [] [] [] := by simp [RVs]

end
/-- The callee's memory, where a law begins: all that lies there is never written any more. -/
def entryF (num : Nat → Nat) (W : World) : Env := { num := num, w := W, w0 := W, φ := fun _ => .dead, Fr := fun b => b < W.heap.size, Bo := fun _ => False }

theorem entryF_ok (num : Nat → Nat) (W : World) : Ok (entryF num W) (blks (fun _ => []) (preH [])) (look (preH [])) (fun _ => []) where
  size0 := Nat.le_refl _
  io0 := SameIo.refl _
  fr b hb := by rcases hb with hb | hb; exact ⟨hb, by simp [blks, preH]⟩; exact hb.elim
  keep0 _ _ _ := rfl
  own0 nm hn := by simp [preH, look] at hn
  rh := { row := fun nm row hr => by simp [preH, look] at hr, nodup := fun nm hn => by simp [preH, look] at hn, blk := fun nm hn => by simp [preH, look] at hn, dis := fun n m hn => by simp [preH, look] at hn, dead := fun _ _ => rfl }

theorem RVs_plain {e e' : Env} : ∀ (cs : List AV), (∀ c ∈ cs, ∃ k n, c = .int k n) → ∀ {vs : List Value} {L : List Nat}, RVs e cs vs L → RVs e' cs vs L
  | [], _, vs, L, h => by simpa only [RVs] using h
  | c :: cs, hc, vs, L, h => by
    obtain ⟨k, n, rfl⟩ := hc c (by simp)
    simp only [RVs, RV] at h ⊢
    obtain ⟨v, vs', L1, L2, h1, h2, h3, h4⟩ := h
    exact ⟨v, vs', L1, L2, h1, h2, RVs_plain cs (fun c hc' => hc c (by simp [hc'])) h3, h4⟩

theorem RRows_plain {e e' : Env} {W : World} {b sz : Nat} : ∀ (rs : List (List AV)) (o : Nat), (∀ r ∈ rs, ∀ c ∈ r, ∃ k n, c = .int k n) → ∀ {L : List Nat}, RRows e W b o sz rs L → RRows e' W b o sz rs L
  | [], _, _, L, h => by simpa only [RRows] using h
  | r :: rs, o, hc, L, h => by
    simp only [RRows] at h ⊢
    obtain ⟨vs, L1, L2, h1, h2, h3, h4, h5, h6⟩ := h
    exact ⟨vs, L1, L2, h1, h2, h3, RVs_plain r (hc r (by simp)) h4, RRows_plain rs _ (fun r hr => hc r (by simp [hr])) h5, h6⟩

theorem RV_frozen {num : Nat → Nat} {W : World} {sz : Nat} {rows : List (List AV)} {v : Value} (hc : ∀ r ∈ rows, ∀ c ∈ r, ∃ k n, c = .int k n) (h : RV (entry num W) (.sl .bw sz rows) v []) : RV (entryF num W) (.sl .fz sz rows) v [] := by
  simp only [RV, true_and] at h ⊢
  rcases h with h | ⟨b, o, c, h1, h2, h3, h4⟩
  · exact .inl h
  · refine .inr ⟨b, o, c, h1, h2, ?_, RRows_plain rows o hc h4⟩
    rcases h3 with h3 | h3
    · exact h3.elim
    · exact h3

end Go.Sep
