/- Bytes turned into a string; then all operations together: what the executor tells of an operation is so. -/
import Derived.Test.YtoijhndfkfliiaaApp2
import Derived.Laws.BytesString
namespace Go.Sep
set_option linter.unusedVariables false
set_option linter.unusedSimpArgs false

section
variable {P : Program} {num : Nat → Nat} {o : Oper} {ρ : Nat → AV} {h : Heap} {nx nx' : Nat} {p : Prop} {v : AV} {fp : FP}

theorem src_same {sz : Nat} {d : AV} {cond : Prop} {xs : List (List AV)} {rd : FP} {r : Nat × Option Row × Option Row} (hs : srcA h sz d = some (cond, xs, rd)) (hr : r ∈ rd) : r.2.2 = r.2.1 := by
  unfold srcA at hs
  split at hs
  · simp only [Option.some.injEq, Prod.mk.injEq] at hs
    obtain ⟨_, _, rfl⟩ := hs
    simp at hr
  · rename_i nm off len
    cases hl : look h nm with
    | none => simp [hl] at hs
    | some row =>
      simp only [hl, Option.map_some, Option.some.injEq, Prod.mk.injEq] at hs
      obtain ⟨_, _, rfl⟩ := hs
      simp only [List.mem_singleton] at hr
      subst hr
      rfl
  · simp only [Option.some.injEq, Prod.mk.injEq] at hs
    obtain ⟨_, _, rfl⟩ := hs
    simp at hr
  · simp only [Option.some.injEq, Prod.mk.injEq] at hs
    obtain ⟨_, _, rfl⟩ := hs
    simp at hr
  · simp at hs

theorem src_slice {e : Env} {sz : Nat} {d : AV} {c : Value} {cond : Prop} {xs : List (List AV)} {rd : FP} (hs : srcA h sz d = some (cond, xs, rd)) (hv : RV e d c []) : ∃ a l k, c = .slice a l k := by
  unfold srcA at hs
  split at hs
  · simp only [RV] at hv
    exact ⟨_, _, _, hv.1⟩
  · simp only [RV] at hv
    obtain ⟨_, hv⟩ := hv
    split at hv
    · exact hv
    · obtain ⟨_, _, a, hv⟩ := hv
      exact ⟨_, _, _, hv⟩
    · obtain ⟨_, a, hv, _⟩ := hv
      exact ⟨_, _, _, hv⟩
  · simp only [RV] at hv
    rcases hv.2 with ⟨_, a, c', hv, _⟩ | ⟨b, o', c', hv, _⟩ <;> exact ⟨_, _, _, hv⟩
  · simp only [RV] at hv
    rcases hv.2 with ⟨_, a, c', hv, _⟩ | ⟨b, o', c', hv, _⟩ <;> exact ⟨_, _, _, hv⟩
  · simp at hs

def byteInts : List (List AV) → List Int
  | [.int _ n] :: l => n :: byteInts l
  | _ => []

theorem bytes_flat {e : Env} : ∀ {xs : List (List AV)} {vals : List Value} {L : List Nat} {l : List UInt8}, bytesOf xs = some l → FlatV e 1 xs vals L → vals = (byteInts xs).map (Value.int .u8) ∧ l = (byteInts xs).map (fun n => UInt8.ofNat n.toNat) ∧ (byteInts xs).length = xs.length
  | [], _, _, _, hb, h => by
    simp only [bytesOf, Option.some.injEq] at hb
    subst hb
    simp only [FlatV] at h
    simp [h.1, byteInts]
  | r :: rs, vals, L, l, hb, h => by
    unfold bytesOf at hb
    split at hb
    · rename_i hx; simp at hx
    · rename_i n l' hx
      simp only [List.cons.injEq] at hx
      obtain ⟨rfl, rfl⟩ := hx
      cases hl : bytesOf rs with
      | none => simp [hl] at hb
      | some l1 =>
        simp only [hl, Option.map_some, Option.some.injEq] at hb
        subst hb
        simp only [FlatV] at h
        obtain ⟨v1, v2, L1, L2, rfl, h1, h2, h3, rfl⟩ := h
        simp only [RVs, RV] at h2
        obtain ⟨v, vs', M1, M2, rfl, ⟨rfl, _⟩, ⟨rfl, _⟩, _⟩ := h2
        obtain ⟨g1, g2, g3⟩ := bytes_flat hl h3
        simp [byteInts, g1, g2, g3]
    · simp at hb

theorem push_bytes : ∀ (ns : List Int) (s : ByteArray), ns.foldl (fun r n => r.push (UInt8.ofNat n.toNat)) s = ⟨s.data ++ (ns.map (fun n => UInt8.ofNat n.toNat)).toArray⟩
  | [], s => by simp
  | n :: ns, s => by
    simp only [List.foldl_cons, push_bytes ns]
    simp [ByteArray.push]

theorem tri_cvs {x : Arg} (hc : chkOp P num (.cvs x) o.op = true) (hp : plan ρ h nx (.cvs x) = some (p, v, fp, nx')) (hpp : p) : TriR P num o ρ v fp := by
  simp only [chkOp] at hc
  split at hc
  · rename_i s d y hop
    simp only [Bool.and_eq_true] at hc
    obtain ⟨⟨hc, hd⟩, h5⟩ := hc
    cases hel : elemOf? P s with
    | none => simp [hel] at h5
    | some el =>
      simp only [hel] at h5
      have hu := elemOf_some hel
      have hu8 : P.underlying el = some (.int .u8) := by
        split at h5
        · assumption
        · simp at h5
      have hds : P.underlying d = some .string := by
        unfold isStr at hd
        split at hd
        · assumption
        · simp at hd
      simp only [plan] at hp
      cases hsrc : srcA h 1 (x.ev ρ) with
      | none => simp [hsrc] at hp
      | some r =>
        obtain ⟨cond, xs, rd⟩ := r
        simp only [hsrc, Option.bind_some] at hp
        cases hb : bytesOf xs with
        | none => simp [hb] at hp
        | some l =>
          simp only [hb, Option.map_some, Option.some.injEq, Prod.mk.injEq] at hp
          obtain ⟨rfl, rfl, rfl, _⟩ := hp
          refine Tri.of_read ?_ ?_
          · exact fun r hr => src_same hsrc hr
          · intro e L0 H Lf a hn hk hpre ht
            subst hn
            have h1 := RV_arg (ρ := ρ) ht hc
            obtain ⟨ad, ln, cp, hv⟩ := src_slice hsrc h1
            obtain ⟨s1, s2, vals, s3, s4⟩ := src_run hk hsrc hpp hpre h1
            obtain ⟨g1, g2, g3⟩ := bytes_flat hb s3
            refine ⟨.string ⟨l.toArray⟩, ?_, by simp [RV]⟩
            have hln : ln = xs.length := by
              rw [hv] at s2
              simp only [Builtin.lenOf] at s2
              have := congrArg (fun m => Sem.run P m e.w) s2
              simpa [Sem.run_pure] using this
            intro w' hw'
            have h4 := s4 w' hw'
            rw [hv] at h4
            simp only [execOp, hop, Sem.run_bind, hv]
            rw [run_convert_bytes_string w' s d el ad ln cp hu hu8 hds]
            cases ad with
            | none =>
              simp only [Builtin.firstCells, Sem.run_pure] at h4
              have hvals : vals = [] := by simpa using (Result.ok.inj h4).1.symm
              rw [hvals] at g1
              have : byteInts xs = [] := by simpa using g1.symm
              rw [this] at g2
              subst g2
              simp [Conv.bytesToString, Sem.run_pure]
              rfl
            | some ad =>
              simp only [Builtin.firstCells, Nat.mul_one] at h4
              rw [← hln, g1] at h4
              rw [run_bytesToString w' ad ln cp (byteInts xs) h4, push_bytes, g2]
              simp [Sem.run_pure]
  · simp at hc

end
end Go.Sep
