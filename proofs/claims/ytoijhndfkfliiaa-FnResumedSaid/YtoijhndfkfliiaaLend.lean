/- What is lent may be taken for what is never written any more, where nothing of it comes back. -/
import Derived.Test.YtoijhndfkfliiaaPlain
namespace Go.Sep
set_option linter.unusedVariables false
set_option linter.unusedSimpArgs false

mutual
/-- All slices in it are of these modes. -/
def okM (M : Mode → Prop) : AV → Prop
  | .sl m _ rows => M m ∧ okMr M rows
  | .fptr m cells _ => M m ∧ okMs M cells
  | .fn _ cap => okMs M cap
  | .agg cs => okMs M cs
  | .tup cs => okMs M cs
  | _ => True
def okMs (M : Mode → Prop) : List AV → Prop
  | [] => True
  | c :: cs => okM M c ∧ okMs M cs
def okMr (M : Mode → Prop) : List (List AV) → Prop
  | [] => True
  | r :: rs => okMs M r ∧ okMr M rs
end

mutual
theorem okM_true : ∀ (v : AV), okM (fun _ => True) v
  | .sl _ _ rows => by simp only [okM]; exact ⟨trivial, okMr_true rows⟩
  | .fptr _ cells _ => by simp only [okM]; exact ⟨trivial, okMs_true cells⟩
  | .fn _ cap => by simp only [okM]; exact okMs_true cap
  | .agg cs => by simp only [okM]; exact okMs_true cs
  | .tup cs => by simp only [okM]; exact okMs_true cs
  | .any | .int _ _ | .bool _ | .str _ | .nilp | .ptr _ _ _ | .nil | .nilI | .ifc | .ns _ _ _ => by simp only [okM]
theorem okMs_true : ∀ (l : List AV), okMs (fun _ => True) l
  | [] => by simp only [okMs]
  | c :: cs => by simp only [okMs]; exact ⟨okM_true c, okMs_true cs⟩
theorem okMr_true : ∀ (l : List (List AV)), okMr (fun _ => True) l
  | [] => by simp only [okMr]
  | r :: rs => by simp only [okMr]; exact ⟨okMs_true r, okMr_true rs⟩
end

/-- Two memories that are alike but for what is frozen in them. -/
structure Alike (e e' : Env) (M : Mode → Prop) : Prop where
  num : e'.num = e.num
  w : e'.w = e.w
  w0 : e'.w0 = e.w0
  φ : e'.φ = e.φ
  fr : ∀ m, M m → ∀ b, e.frozen m b → e'.frozen m b

mutual
theorem RV_alike {e e' : Env} {M : Mode → Prop} (h : Alike e e' M) : ∀ (v : AV) {x : Value} {L : List Nat}, okM M v → RV e v x L → RV e' v x L
  | .any, x, L, _, hv => by simpa only [RV] using hv
  | .int _ _, x, L, _, hv => by simpa only [RV] using hv
  | .bool _, x, L, _, hv => by simpa only [RV] using hv
  | .str _, x, L, _, hv => by simpa only [RV] using hv
  | .nilp, x, L, _, hv => by simpa only [RV] using hv
  | .nil, x, L, _, hv => by simpa only [RV] using hv
  | .nilI, x, L, _, hv => by simpa only [RV] using hv
  | .ifc, x, L, _, hv => by simpa only [RV] using hv
  | .ptr _ _ _, x, L, _, hv => by simp only [RV] at hv ⊢; rw [h.φ]; exact hv
  | .ns _ _ _, x, L, _, hv => by simp only [RV] at hv ⊢; rw [h.φ]; exact hv
  | .fn f cap, x, L, ho, hv => by
    simp only [RV, okM] at hv ho ⊢
    obtain ⟨vs, h1, h2, h3⟩ := hv
    exact ⟨vs, by rw [h.num]; exact h1, RVs_alike h cap ho h2, h3⟩
  | .fptr m cells f, x, L, ho, hv => by
    simp only [RV, okM] at hv ho ⊢
    obtain ⟨h0, b, o, vs, h1, h2, h3, h4, h5⟩ := hv
    exact ⟨h0, b, o, vs, h1, h.fr m ho.1 b h2, h3, by rw [h.w0]; exact h4, RVs_alike h cells ho.2 h5⟩
  | .sl .own sz rows, x, L, ho, hv => by
    simp only [RV, okM] at hv ho ⊢
    rcases hv with hv | ⟨p, Lr, h1, h2, h3, h4, h5⟩
    · exact .inl hv
    · exact .inr ⟨p, Lr, h1, h2, by rw [h.w]; exact h3, by rw [h.w]; exact RRows_alike h rows ho.2 h4, h5⟩
  | .sl .bw sz rows, x, L, ho, hv => by
    simp only [RV, okM] at hv ho ⊢
    obtain ⟨h0, hv⟩ := hv
    refine ⟨h0, ?_⟩
    rcases hv with hv | ⟨b, o, c, h1, h2, h3, h4⟩
    · exact .inl hv
    · exact .inr ⟨b, o, c, h1, h2, h.fr _ ho.1 b h3, by rw [h.w0]; exact RRows_alike h rows ho.2 h4⟩
  | .sl .fz sz rows, x, L, ho, hv => by
    simp only [RV, okM] at hv ho ⊢
    obtain ⟨h0, hv⟩ := hv
    refine ⟨h0, ?_⟩
    rcases hv with hv | ⟨b, o, c, h1, h2, h3, h4⟩
    · exact .inl hv
    · exact .inr ⟨b, o, c, h1, h2, h.fr _ ho.1 b h3, by rw [h.w0]; exact RRows_alike h rows ho.2 h4⟩
  | .agg cs, x, L, ho, hv => by
    simp only [RV, okM] at hv ho ⊢
    obtain ⟨vs, h1, h2⟩ := hv
    exact ⟨vs, h1, RVs_alike h cs ho h2⟩
  | .tup cs, x, L, ho, hv => by
    simp only [RV, okM] at hv ho ⊢
    obtain ⟨vs, h1, h2⟩ := hv
    exact ⟨vs, h1, RVs_alike h cs ho h2⟩
theorem RVs_alike {e e' : Env} {M : Mode → Prop} (h : Alike e e' M) : ∀ (l : List AV) {xs : List Value} {L : List Nat}, okMs M l → RVs e l xs L → RVs e' l xs L
  | [], xs, L, _, hv => by simpa only [RVs] using hv
  | c :: cs, xs, L, ho, hv => by
    simp only [RVs, okMs] at hv ho ⊢
    obtain ⟨v, vs', L1, L2, h1, h2, h3, h4⟩ := hv
    exact ⟨v, vs', L1, L2, h1, RV_alike h c ho.1 h2, RVs_alike h cs ho.2 h3, h4⟩
theorem RRows_alike {e e' : Env} {M : Mode → Prop} (h : Alike e e' M) {W : World} {b o sz : Nat} : ∀ (l : List (List AV)) {L : List Nat}, okMr M l → RRows e W b o sz l L → RRows e' W b o sz l L
  | [], L, _, hv => by simpa only [RRows] using hv
  | r :: rs, L, ho, hv => by
    simp only [RRows, okMr] at hv ho ⊢
    obtain ⟨vs, L1, L2, h1, h2, h3, h4, h5, h6⟩ := hv
    exact ⟨vs, L1, L2, h1, h2, h3, RVs_alike h r ho.1 h4, RRows_alike h rs ho.2 h5, h6⟩
end

theorem CallOk.lend {P : Program} {num : Nat → Nat} {f : Nat} {args args' : List AV} {res : AV} (hc : CallOk P num f args [] res)
    (ha : ∀ (e : Env) (cs : List Value), (∀ b, ¬ e.Bo b) → RVs e args' cs [] → RVs e args cs []) (hr : okM (fun m => m = .own) res) : CallOk P num f args' [] res := by
  refine ⟨hc.1, fun e Lf cs hnum hw0 hok hargs => ?_⟩
  let eF : Env := { num := e.num, w := e.w, w0 := e.w0, φ := e.φ, Fr := fun b => e.Fr b ∨ e.Bo b, Bo := fun _ => False }
  have hal : Alike e eF (fun _ => True) := { num := rfl, w := rfl, w0 := rfl, φ := rfl, fr := fun m _ b hb => (match m, hb with | .own, hb => hb | .bw, hb => .inl hb | .fz, hb => .inl hb) }
  have hokF : Ok eF (blks Lf (preH [])) (look (preH [])) Lf := {
    size0 := hok.size0
    io0 := hok.io0
    fr := fun b hb => hok.fr b (by rcases hb with h | h; exact h; exact h.elim)
    keep0 := hok.keep0
    own0 := hok.own0
    rh := { row := fun nm row hr => by simp [preH, look] at hr, nodup := fun nm hn => by simp [preH, look] at hn, blk := fun nm hn => by simp [preH, look] at hn, dis := fun n m hn => by simp [preH, look] at hn, dead := hok.rh.dead } }
  have hargsF : RVs eF args cs [] := ha eF cs (fun b h => h) (RVs_alike hal args' (okMs_true _) hargs)
  refine Calls.mono (hc.2 eF Lf cs hnum hw0 hokF hargsF) ?_
  intro en w' hen
  cases en with
  | panicked ch => exact hen.elim
  | outgrown => exact hen.elim
  | returned v =>
    obtain ⟨e', Lf', L, hw, T, hv, hn, hb, hd⟩ := hen
    refine ⟨{ num := e'.num, w := e'.w, w0 := e'.w0, φ := e'.φ, Fr := e.Fr, Bo := e.Bo }, Lf', L, hw, { num := T.num, w0 := T.w0, Fr := rfl, Bo := rfl, io := T.io, size := T.size, keep := T.keep, φ := T.φ, φF := T.φF, rest := T.rest, row := fun nm row hn' => by simp at hn', nodup := T.nodup, blk := T.blk, dis := T.dis, dead := T.dead }, ?_, hn, hb, hd⟩
    exact RV_alike (e := e') (e' := { num := e'.num, w := e'.w, w0 := e'.w0, φ := e'.φ, Fr := e.Fr, Bo := e.Bo }) (M := fun m => m = .own) { num := rfl, w := rfl, w0 := rfl, φ := rfl, fr := fun m hm b hb => by subst hm; exact hb.elim } res hr hv

/-- Alone in a memory where nothing is but lent: what is lent is never written. -/
theorem lend_sl {e : Env} (hB : ∀ b, ¬ e.Bo b) {sz : Nat} {rows : List (List AV)} {v : Value} {L : List Nat} (h : RV e (.sl .bw sz rows) v L) : RV e (.sl .fz sz rows) v L := by
  simp only [RV] at h ⊢
  obtain ⟨h0, h⟩ := h
  refine ⟨h0, ?_⟩
  rcases h with h | ⟨b, o, c, h1, h2, h3, h4⟩
  · exact .inl h
  · exact .inr ⟨b, o, c, h1, h2, h3.elim id (fun h => (hB b h).elim), h4⟩

end Go.Sep
