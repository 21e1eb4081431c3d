/- Calls whose arguments and result are plain values: nothing is lent, nothing handed over. -/
import Derived.Test.YtoijhndfkfliiaaFold
namespace Go.Sep
set_option linter.unusedVariables false
set_option linter.unusedSimpArgs false

mutual
def plainV : AV → Bool
  | .int _ _ | .bool _ | .str _ => true
  | .agg cs | .tup cs => plainL cs
  | _ => false
def plainL : List AV → Bool
  | [] => true
  | c :: cs => plainV c && plainL cs
end

mutual
theorem plainV_bw (h : Heap) : ∀ (v : AV), plainV v = true → bwT h v = v
  | .int _ _, _ | .bool _, _ | .str _, _ => by simp [bwT, bwC]
  | .agg cs, hp => by simp only [plainV] at hp; simp only [bwT, plainL_bw h cs hp]
  | .tup cs, hp => by simp only [plainV] at hp; simp only [bwT, plainL_bw h cs hp]
  | .any, hp | .fn _ _, hp | .nilp, hp | .ptr _ _ _, hp | .fptr _ _ _, hp | .nil, hp | .nilI, hp | .ifc, hp | .ns _ _ _, hp | .sl _ _ _, hp => by simp [plainV] at hp
theorem plainL_bw (h : Heap) : ∀ (l : List AV), plainL l = true → bwTs h l = l
  | [], _ => by simp [bwTs]
  | c :: cs, hp => by
    simp only [plainL, Bool.and_eq_true] at hp
    simp only [bwTs, plainV_bw h c hp.1, plainL_bw h cs hp.2]
end
mutual
theorem plainV_ok (h : Heap) (F : Nat → Prop) : ∀ (v : AV), plainV v = true → bwOk h F v
  | .int _ _, _ | .bool _, _ | .str _, _ => by simp [bwOk, bnd]
  | .agg cs, hp => by simp only [plainV] at hp; simp only [bwOk]; exact plainL_ok h F cs hp
  | .tup cs, hp => by simp only [plainV] at hp; simp only [bwOk]; exact plainL_ok h F cs hp
  | .any, hp | .fn _ _, hp | .nilp, hp | .ptr _ _ _, hp | .fptr _ _ _, hp | .nil, hp | .nilI, hp | .ifc, hp | .ns _ _ _, hp | .sl _ _ _, hp => by simp [plainV] at hp
theorem plainL_ok (h : Heap) (F : Nat → Prop) : ∀ (l : List AV), plainL l = true → bwOks h F l
  | [], _ => by simp [bwOks]
  | c :: cs, hp => by
    simp only [plainL, Bool.and_eq_true] at hp
    simp only [bwOks]
    exact ⟨plainV_ok h F c hp.1, plainL_ok h F cs hp.2⟩
end
mutual
theorem plainV_okV (A : Nat → Prop) : ∀ (v : AV), plainV v = true → okV A v
  | .int _ _, _ | .bool _, _ | .str _, _ => by simp [okV, nb]
  | .agg cs, hp => by simp only [plainV] at hp; simp only [okV]; exact plainL_okL A cs hp
  | .tup cs, hp => by simp only [plainV] at hp; simp only [okV]; exact plainL_okL A cs hp
  | .any, hp | .fn _ _, hp | .nilp, hp | .ptr _ _ _, hp | .fptr _ _ _, hp | .nil, hp | .nilI, hp | .ifc, hp | .ns _ _ _, hp | .sl _ _ _, hp => by simp [plainV] at hp
theorem plainL_okL (A : Nat → Prop) : ∀ (l : List AV), plainL l = true → okL A l
  | [], _ => by simp [okL]
  | c :: cs, hp => by
    simp only [plainL, Bool.and_eq_true] at hp
    simp only [okL]
    exact ⟨plainV_okV A c hp.1, plainL_okL A cs hp.2⟩
end
mutual
theorem plainV_ren (f : Nat → Nat) : ∀ (v : AV), plainV v = true → renV f v = v
  | .int _ _, _ | .bool _, _ | .str _, _ => by simp [renV]
  | .agg cs, hp => by simp only [plainV] at hp; simp only [renV, plainL_ren f cs hp]
  | .tup cs, hp => by simp only [plainV] at hp; simp only [renV, plainL_ren f cs hp]
  | .any, hp | .fn _ _, hp | .nilp, hp | .ptr _ _ _, hp | .fptr _ _ _, hp | .nil, hp | .nilI, hp | .ifc, hp | .ns _ _ _, hp | .sl _ _ _, hp => by simp [plainV] at hp
theorem plainL_ren (f : Nat → Nat) : ∀ (l : List AV), plainL l = true → renL f l = l
  | [], _ => by simp [renL]
  | c :: cs, hp => by
    simp only [plainL, Bool.and_eq_true] at hp
    simp only [renL, plainV_ren f c hp.1, plainL_ren f cs hp.2]
end
mutual
theorem plainV_open (n : Nat) : ∀ (v : AV), plainV v = true → openV n v = (v, [], n)
  | .int _ _, _ | .bool _, _ | .str _, _ => by simp [openV]
  | .agg cs, hp => by simp only [plainV] at hp; simp only [openV, plainL_open n cs hp]
  | .tup cs, hp => by simp only [plainV] at hp; simp only [openV, plainL_open n cs hp]
  | .any, hp | .fn _ _, hp | .nilp, hp | .ptr _ _ _, hp | .fptr _ _ _, hp | .nil, hp | .nilI, hp | .ifc, hp | .ns _ _ _, hp | .sl _ _ _, hp => by simp [plainV] at hp
theorem plainL_open (n : Nat) : ∀ (l : List AV), plainL l = true → openVs n l = (l, [], n)
  | [], _ => by simp [openVs]
  | c :: cs, hp => by
    simp only [plainL, Bool.and_eq_true] at hp
    simp only [openVs, plainV_open n c hp.1, plainL_open n cs hp.2, List.append_nil]
end
mutual
theorem nilV_refl : ∀ (v : AV), nilV v v
  | .nil => by simp [nilV]
  | .agg cs => by simp only [nilV]; exact ⟨cs, rfl, nilL_refl cs⟩
  | .tup cs => by simp only [nilV]; exact ⟨cs, rfl, nilL_refl cs⟩
  | .any | .int _ _ | .bool _ | .str _ | .fn _ _ | .nilp | .ptr _ _ _ | .fptr _ _ _ | .nilI | .ifc | .ns _ _ _ | .sl _ _ _ => by simp [nilV]
theorem nilL_refl : ∀ (l : List AV), nilL l l
  | [] => by simp [nilL]
  | c :: cs => by simp only [nilL]; exact ⟨c, cs, rfl, nilV_refl c, nilL_refl cs⟩
end

def noPass : List Bool → Bool
  | [] => true
  | b :: bs => !b && noPass bs

theorem hand_plain (ix : Nat → Nat) (h : Heap) : ∀ (ps : List Bool) (vs : List AV), noPass ps = true → plainL vs = true → hand ix h ps vs = vs
  | [], [], _, _ => by simp [hand]
  | [], v :: vs, hn, hp => by
    simp only [plainL, Bool.and_eq_true] at hp
    simp only [hand, plainV_bw h v hp.1, hand_plain ix h [] vs hn hp.2]
  | false :: ps, [], _, _ => by simp [hand]
  | false :: ps, v :: vs, hn, hp => by
    simp only [plainL, Bool.and_eq_true] at hp
    simp only [noPass, Bool.not_false, Bool.true_and] at hn
    simp only [hand, plainV_bw h v hp.1, hand_plain ix h ps vs hn hp.2]
  | true :: ps, vs, hn, _ => by simp [noPass] at hn

theorem handOk_plain (h : Heap) (A F : Nat → Prop) : ∀ (ps : List Bool) (vs : List AV), noPass ps = true → plainL vs = true → handOk h A F ps vs
  | [], [], _, _ => by simp [handOk]
  | [], v :: vs, hn, hp => by
    simp only [plainL, Bool.and_eq_true] at hp
    simp only [handOk]
    exact ⟨plainV_ok h F v hp.1, handOk_plain h A F [] vs hn hp.2⟩
  | false :: ps, [], _, _ => by simp [handOk]
  | false :: ps, v :: vs, hn, hp => by
    simp only [plainL, Bool.and_eq_true] at hp
    simp only [noPass, Bool.not_false, Bool.true_and] at hn
    simp only [handOk]
    exact ⟨plainV_ok h F v hp.1, handOk_plain h A F ps vs hn hp.2⟩
  | true :: ps, vs, hn, _ => by simp [noPass] at hn

section
variable {P : Program} {num : Nat → Nat} {fin : AS → Prop}

theorem callR_plain {f nx : Nat} {ps : List Bool} {xs : List Arg} {t : List (Nat × AV)} {h : Heap} {res : AV} {vs : List AV} (hc : CallOk P num f vs [] res) (hx : xs.map (Arg.ev (lookT t)) = vs) (hn : noPass ps = true) (hp : plainL vs = true) (hr : plainV res = true) :
    CallR P num (.call f ps xs) t h nx res [] nx := by
  have := call_ok0 (P := P) (num := num) (nx := nx) (h := h) (ps := ps) (xs := xs) (t := t) [] hc (by rw [hx, hand_plain _ _ _ _ hn hp]; exact nilL_refl _) (by rw [hx]; exact handOk_plain _ _ _ _ _ hn hp) (by simp) (by simp) (by simp) (plainV_okV _ _ hr)
  rw [plainV_ren _ _ hr, plainV_open _ _ hr] at this
  simpa [fresh] using this

/-- A call of plain values. -/
theorem call_plain {f nx : Nat} {ps : List Bool} {xs : List Arg} {t : List (Nat × AV)} {h : Heap} {res : AV} {vs : List AV} {dst : Option Nat} {k : List It} (hc : CallOk P num f vs [] res) (hx : xs.map (Arg.ev (lookT t)) = vs) (hn : noPass ps = true) (hp : plainL vs = true) (hr : plainV res = true)
    (hk : vc P num fin k (.mk (putD t dst res) h nx)) : calls P num fin (.call f ps xs) dst k (.mk t h nx) :=
  calls_intro (callR_plain hc hx hn hp hr) hk

theorem apart_nil (pend : List (Nat × List Nat)) : apart pend [] := fun _ _ _ _ x hx => by simp at hx

theorem dcall_plain {f nx : Nat} {ps : List Bool} {xs : List Arg} {t : List (Nat × AV)} {h : Heap} {res : AV} {vs : List AV} {pend : List (Nat × List Nat)} {dst : Option Nat} {tr : DTree} {k : List It} (hc : CallOk P num f vs [] res) (hx : xs.map (Arg.ev (lookT t)) = vs) (hn : noPass ps = true) (hp : plainL vs = true) (hr : plainV res = true)
    (hk : vc P num fin (.draw tr pend :: k) (.mk (putD t dst res) h nx)) : dcall P num fin (.call f ps xs) pend dst tr k t h nx :=
  dcall_intro (callR_plain hc hx hn hp hr) (apart_nil pend) hk
end
end Go.Sep
