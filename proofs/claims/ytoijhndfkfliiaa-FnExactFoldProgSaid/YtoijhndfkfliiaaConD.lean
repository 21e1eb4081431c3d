/- Contracts of functions. -/
import Derived.Test.YtoijhndfkfliiaaCont
import Derived.Test.YtoijhndfkfliiaaCong
import Derived.Test.YtoijhndfkfliiaaConK
namespace Go.Sep
open Go.Proofs
set_option linter.unusedSimpArgs false
set_option linter.unusedVariables false
set_option maxRecDepth 100000
open Nat renaming reduceAdd → qA, reduceMul → qB, reduceEqDiff → qC, reduceBEq → qD
open Int renaming reduceToNat → qE, reduceEq → qF, reduceLT → qG, reduceLE → qH
open List renaming getD_eq_getElem?_getD → gD

structure Known where
  is_ : Bool
  v : Int
  deriving DecidableEq, Inhabited
def knownC (x : Known) : List AV := [.bool x.is_, .int .i64 x.v]
def knowns (l : List Known) : List (List AV) := l.map knownC
theorem knowns_nil : knowns [] = [] := rfl
theorem knowns_length (l : List Known) : (knowns l).length = l.length := by simp [knowns]
theorem knowns_append (l k : List Known) : knowns l ++ knowns k = knowns (l ++ k) := by simp [knowns]
theorem knowns_one (is__ : Bool) (v_ : Int) : [[.bool is__, .int .i64 v_]] = knowns [⟨is__, v_⟩] := rfl
theorem knowns_drop (l : List Known) (n : Nat) : (knowns l).drop n = knowns (l.drop n) := by simp [knowns]
theorem knowns_take (l : List Known) (n : Nat) : (knowns l).take n = knowns (l.take n) := by simp [knowns]
theorem knowns_rep (n : Nat) (is__ : Bool) (v_ : Int) : List.replicate n [.bool is__, .int .i64 v_] = knowns (List.replicate n ⟨is__, v_⟩) := by simp [knowns, knownC]
theorem knowns_set (l : List Known) (i : Nat) (is__ : Bool) (v_ : Int) : (knowns l).set i [.bool is__, .int .i64 v_] = knowns (l.set i ⟨is__, v_⟩) := by simp [knowns, knownC]
theorem knowns_getD (l : List Known) (i : Nat) (h : i < l.length) : (knowns l).getD i [] = [.bool (l.getD i default).is_, .int .i64 (l.getD i default).v] := by simp [knowns, knownC, List.getD_eq_getElem?_getD, h]
theorem knowns_bnd (A : Nat → Prop) (l : List Known) : bndr A (knowns l) ↔ True := by
  simp only [iff_true]
  induction l with
  | nil => trivial
  | cons x l ih => exact ⟨by simp [knownC,  bnds, bnd, nf_sl, ints_bnd, inss_bnd, bodies_bnd, intss_bnd, chans_bnd, notes_bnd, threads_bnd, wents_bnd, progs_bnd, sources_bnd, bys_bnd], ih⟩
theorem knowns_nb (l : List Known) : nbr (knowns l) ↔ True := by
  simp only [iff_true]
  induction l with
  | nil => trivial
  | cons x l ih => exact ⟨by simp [knownC,  nbs, nb, ints_nb, inss_nb, bodies_nb, intss_nb, chans_nb, notes_nb, threads_nb, wents_nb, progs_nb, sources_nb, bys_nb], ih⟩
theorem knowns_bw : ∀ (l : List Known), bwR (knowns l) = knowns l
  | [] => rfl
  | x :: l => by
    have := knowns_bw l
    simp only [knowns, List.map_cons, bwR] at this ⊢
    rw [this]
    simp [knownC,  bwL, bwC, ints_bw, inss_bw, bodies_bw, intss_bw, chans_bw, notes_bw, threads_bw, wents_bw, progs_bw, sources_bw, bys_bw]
theorem knowns_free (l : List Known) : free (knowns l) ↔ True := by
  simp only [iff_true]
  intro r hr c hc
  simp only [knowns, List.mem_map] at hr
  obtain ⟨x, _, rfl⟩ := hr
  simp [knownC] at hc
  rcases hc with rfl | rfl <;> rfl

def knownss (m : Mode) (l : List (List Known)) : List (List AV) := l.map fun b => [.sl m 2 (knowns b)]
theorem knownss_nil (m : Mode) : knownss m [] = [] := rfl
theorem knownss_length (m : Mode) (l : List (List Known)) : (knownss m l).length = l.length := by simp [knownss]
theorem knownss_append (m : Mode) (l k : List (List Known)) : knownss m l ++ knownss m k = knownss m (l ++ k) := by simp [knownss]
theorem knownss_one (m : Mode) (b_ : List Known) : [[.sl m 2 (knowns b_)]] = knownss m [b_] := rfl
theorem knownss_drop (m : Mode) (l : List (List Known)) (n : Nat) : (knownss m l).drop n = knownss m (l.drop n) := by simp [knownss]
theorem knownss_take (m : Mode) (l : List (List Known)) (n : Nat) : (knownss m l).take n = knownss m (l.take n) := by simp [knownss]
theorem knownss_rep (m : Mode) (n : Nat) (b_ : List Known) : List.replicate n [.sl m 2 (knowns b_)] = knownss m (List.replicate n b_) := by simp [knownss]
theorem knownss_set (m : Mode) (l : List (List Known)) (i : Nat) (b_ : List Known) : (knownss m l).set i [.sl m 2 (knowns b_)] = knownss m (l.set i b_) := by simp [knownss]
theorem knownss_getD (m : Mode) (l : List (List Known)) (i : Nat) (h : i < l.length) : (knownss m l).getD i [] = [.sl m 2 (knowns (l.getD i []))] := by simp [knownss, List.getD_eq_getElem?_getD, h]
theorem knownss_bnd (A : Nat → Prop) (m : Mode) (l : List (List Known)) : bndr A (knownss m l) ↔ True := by
  simp only [iff_true]
  induction l with
  | nil => trivial
  | cons x l ih => exact ⟨by simp [ bnds, bnd, nf_sl, ints_bnd, inss_bnd, bodies_bnd, intss_bnd, chans_bnd, notes_bnd, threads_bnd, wents_bnd, progs_bnd, sources_bnd, bys_bnd, knowns_bnd], ih⟩
theorem knownss_nb (l : List (List Known)) : nbr (knownss .own l) ↔ True := by
  simp only [iff_true]
  induction l with
  | nil => trivial
  | cons x l ih => exact ⟨by simp [ nbs, nb, ints_nb, inss_nb, bodies_nb, intss_nb, chans_nb, notes_nb, threads_nb, wents_nb, progs_nb, sources_nb, bys_nb, knowns_nb], ih⟩
theorem knownss_bw (m : Mode) : ∀ (l : List (List Known)), bwR (knownss m l) = knownss .bw l
  | [] => rfl
  | x :: l => by
    have := knownss_bw m l
    simp only [knownss, List.map_cons, bwR] at this ⊢
    rw [this]
    simp [ bwL, bwC, ints_bw, inss_bw, bodies_bw, intss_bw, chans_bw, notes_bw, threads_bw, wents_bw, progs_bw, sources_bw, bys_bw, knowns_bw]
theorem knownss_free (l : List (List Known)) : free (knownss .bw l) ↔ True := by
  simp only [iff_true]
  intro r hr c hc
  simp only [knownss, List.mem_map] at hr
  obtain ⟨x, _, rfl⟩ := hr
  simp [] at hc
  rcases hc with rfl <;> rfl

def notess (m : Mode) (l : List (List Note)) : List (List AV) := l.map fun b => [.sl m 2 (notes b)]
theorem notess_nil (m : Mode) : notess m [] = [] := rfl
theorem notess_length (m : Mode) (l : List (List Note)) : (notess m l).length = l.length := by simp [notess]
theorem notess_append (m : Mode) (l k : List (List Note)) : notess m l ++ notess m k = notess m (l ++ k) := by simp [notess]
theorem notess_one (m : Mode) (b_ : List Note) : [[.sl m 2 (notes b_)]] = notess m [b_] := rfl
theorem notess_drop (m : Mode) (l : List (List Note)) (n : Nat) : (notess m l).drop n = notess m (l.drop n) := by simp [notess]
theorem notess_take (m : Mode) (l : List (List Note)) (n : Nat) : (notess m l).take n = notess m (l.take n) := by simp [notess]
theorem notess_rep (m : Mode) (n : Nat) (b_ : List Note) : List.replicate n [.sl m 2 (notes b_)] = notess m (List.replicate n b_) := by simp [notess]
theorem notess_set (m : Mode) (l : List (List Note)) (i : Nat) (b_ : List Note) : (notess m l).set i [.sl m 2 (notes b_)] = notess m (l.set i b_) := by simp [notess]
theorem notess_getD (m : Mode) (l : List (List Note)) (i : Nat) (h : i < l.length) : (notess m l).getD i [] = [.sl m 2 (notes (l.getD i []))] := by simp [notess, List.getD_eq_getElem?_getD, h]
theorem notess_bnd (A : Nat → Prop) (m : Mode) (l : List (List Note)) : bndr A (notess m l) ↔ True := by
  simp only [iff_true]
  induction l with
  | nil => trivial
  | cons x l ih => exact ⟨by simp [ bnds, bnd, nf_sl, ints_bnd, inss_bnd, bodies_bnd, intss_bnd, chans_bnd, notes_bnd, threads_bnd, wents_bnd, progs_bnd, sources_bnd, bys_bnd, knowns_bnd, knownss_bnd], ih⟩
theorem notess_nb (l : List (List Note)) : nbr (notess .own l) ↔ True := by
  simp only [iff_true]
  induction l with
  | nil => trivial
  | cons x l ih => exact ⟨by simp [ nbs, nb, ints_nb, inss_nb, bodies_nb, intss_nb, chans_nb, notes_nb, threads_nb, wents_nb, progs_nb, sources_nb, bys_nb, knowns_nb, knownss_nb], ih⟩
theorem notess_bw (m : Mode) : ∀ (l : List (List Note)), bwR (notess m l) = notess .bw l
  | [] => rfl
  | x :: l => by
    have := notess_bw m l
    simp only [notess, List.map_cons, bwR] at this ⊢
    rw [this]
    simp [ bwL, bwC, ints_bw, inss_bw, bodies_bw, intss_bw, chans_bw, notes_bw, threads_bw, wents_bw, progs_bw, sources_bw, bys_bw, knowns_bw, knownss_bw]
theorem notess_free (l : List (List Note)) : free (notess .bw l) ↔ True := by
  simp only [iff_true]
  intro r hr c hc
  simp only [notess, List.mem_map] at hr
  obtain ⟨x, _, rfl⟩ := hr
  simp [] at hc
  rcases hc with rfl <;> rfl

def boolsR (l : List Bool) : List (List AV) := l.map fun b => [.bool b]
theorem boolsR_nil : boolsR [] = [] := rfl
theorem boolsR_length (l : List Bool) : (boolsR l).length = l.length := by simp [boolsR]
theorem boolsR_append (l k : List Bool) : boolsR l ++ boolsR k = boolsR (l ++ k) := by simp [boolsR]
theorem boolsR_one (b_ : Bool) : [[.bool b_]] = boolsR [b_] := rfl
theorem boolsR_drop (l : List Bool) (n : Nat) : (boolsR l).drop n = boolsR (l.drop n) := by simp [boolsR]
theorem boolsR_take (l : List Bool) (n : Nat) : (boolsR l).take n = boolsR (l.take n) := by simp [boolsR]
theorem boolsR_rep (n : Nat) (b_ : Bool) : List.replicate n [.bool b_] = boolsR (List.replicate n b_) := by simp [boolsR]
theorem boolsR_set (l : List Bool) (i : Nat) (b_ : Bool) : (boolsR l).set i [.bool b_] = boolsR (l.set i b_) := by simp [boolsR]
theorem boolsR_getD (l : List Bool) (i : Nat) (h : i < l.length) : (boolsR l).getD i [] = [.bool (l.getD i false)] := by simp [boolsR, List.getD_eq_getElem?_getD, h]
theorem boolsR_bnd (A : Nat → Prop) (l : List Bool) : bndr A (boolsR l) ↔ True := by
  simp only [iff_true]
  induction l with
  | nil => trivial
  | cons x l ih => exact ⟨by simp [ bnds, bnd, nf_sl, ints_bnd, inss_bnd, bodies_bnd, intss_bnd, chans_bnd, notes_bnd, threads_bnd, wents_bnd, progs_bnd, sources_bnd, bys_bnd, knowns_bnd, knownss_bnd, notess_bnd], ih⟩
theorem boolsR_nb (l : List Bool) : nbr (boolsR l) ↔ True := by
  simp only [iff_true]
  induction l with
  | nil => trivial
  | cons x l ih => exact ⟨by simp [ nbs, nb, ints_nb, inss_nb, bodies_nb, intss_nb, chans_nb, notes_nb, threads_nb, wents_nb, progs_nb, sources_nb, bys_nb, knowns_nb, knownss_nb, notess_nb], ih⟩
theorem boolsR_bw : ∀ (l : List Bool), bwR (boolsR l) = boolsR l
  | [] => rfl
  | x :: l => by
    have := boolsR_bw l
    simp only [boolsR, List.map_cons, bwR] at this ⊢
    rw [this]
    simp [ bwL, bwC, ints_bw, inss_bw, bodies_bw, intss_bw, chans_bw, notes_bw, threads_bw, wents_bw, progs_bw, sources_bw, bys_bw, knowns_bw, knownss_bw, notess_bw]
theorem boolsR_free (l : List Bool) : free (boolsR l) ↔ True := by
  simp only [iff_true]
  intro r hr c hc
  simp only [boolsR, List.mem_map] at hr
  obtain ⟨x, _, rfl⟩ := hr
  simp [] at hc
  rcases hc with rfl <;> rfl
/-- What a fold leaves, brought to order: with the second part of the data. -/
theorem fS3 : ((∀ l, (knowns l).length = l.length) ∧ (∀ m l, (knownss m l).length = l.length) ∧ (∀ m l, (notess m l).length = l.length) ∧ (∀ l, (boolsR l).length = l.length)) := ⟨by intros; simp [knowns_length], by intros; simp [knownss_length], by intros; simp [notess_length], by intros; simp [boolsR_length]⟩

attribute [go_sem] knowns_length knowns_append knowns_drop knowns_take knowns_set knownC knownss_length knownss_append knownss_drop knownss_take knownss_set notess_length notess_append notess_drop notess_take notess_set boolsR_length boolsR_append boolsR_drop boolsR_take boolsR_set
attribute [simp] knowns_nil knowns_bw knowns_bnd knowns_nb knowns_length knowns_take knowns_drop knowns_free knownss_nil knownss_bw knownss_bnd knownss_nb knownss_length knownss_take knownss_drop knownss_free notess_nil notess_bw notess_bnd notess_nb notess_length notess_take notess_drop notess_free boolsR_nil boolsR_bw boolsR_bnd boolsR_nb boolsR_length boolsR_take boolsR_drop boolsR_free knownC

-- S3
/-- What is told of a place's registers; [] where none comes. -/
abbrev KV := List Known
abbrev KS := List KV
def kno : Known := ⟨false, 0⟩
def sets (x : Ins) : List Int := if x.op = 1 ∨ x.op = 2 ∨ x.op = 3 ∨ x.op = 4 ∨ x.op = 7 then [x.r] else if x.op = 6 ∨ x.op = 8 then [x.r, x.b] else []
def three (op : Int) : Bool := decide (op = 2) || decide (op = 3) || decide (op = 4)
def behind (x : Ins) (k : KV) : KV :=
  let out := (sets x).foldl (fun o r => o.set r.toNat kno) k
  if x.op = 1 then out.set x.r.toNat ⟨true, x.n⟩
  else if three x.op && (k.getD x.a.toNat default).is_ && (k.getD x.b.toNat default).is_ then out.set x.r.toNat ⟨true, compute x.op (k.getD x.a.toNat default).v (k.getD x.b.toNat default).v⟩
  else out
def meet1 (a b : Known) : Known := if a.is_ && !decide (a = b) then kno else a
def less1 (a b : Known) : Bool := a.is_ && !decide (a = b)
def meetK : KV → KV → KV
  | a :: l, b :: k => meet1 a b :: meetK l k
  | l, _ => l
def lessK : KV → KV → Bool
  | a :: l, b :: k => less1 a b || lessK l k
  | _, _ => false
def nextOf (l : List Ins) (at_ : Nat) : List Int :=
  let x : Ins := l.getD at_ default
  if x.op = 13 then [] else if x.op = 11 then [x.n]
  else if x.op = 12 then (if x.n < (at_ : Int) + 1 then [x.n, (at_ : Int) + 1] else if (at_ : Int) + 1 < x.n then [(at_ : Int) + 1, x.n] else [(at_ : Int) + 1])
  else [(at_ : Int) + 1]
def WfV (k : KV) : Prop := k.length = 4 ∧ ∀ a ∈ k, a.is_ = false → a = kno
/-- b tells no more than a. -/
def kle (a b : Known) : Prop := b = kno ∨ a = b
def vle (a b : KV) : Prop := a.length = b.length ∧ ∀ i, i < a.length → kle (a.getD i default) (b.getD i default)
theorem kle_refl (a : Known) : kle a a := .inr rfl
theorem kle_trans {a b c : Known} (h : kle a b) (k : kle b c) : kle a c := by
  rcases k with rfl | rfl
  · exact .inl rfl
  · exact h
theorem kle_anti {a b : Known} (h : kle a b) (k : kle b a) : a = b := by
  rcases h with rfl | rfl
  · rcases k with rfl | h
    · rfl
    · exact h.symm
  · rfl
theorem vle_refl (a : KV) : vle a a := ⟨rfl, fun _ _ => kle_refl _⟩
theorem vle_trans {a b c : KV} (h : vle a b) (k : vle b c) : vle a c := ⟨h.1.trans k.1, fun i hi => kle_trans (h.2 i hi) (k.2 i (h.1 ▸ hi))⟩
theorem vle_anti {a b : KV} (h : vle a b) (k : vle b a) : a = b := by
  apply List.ext_getElem h.1
  intro i h1 h2
  have e := kle_anti (h.2 i h1) (k.2 i h2)
  simpa [List.getD_eq_getElem?_getD, h1, h2] using e
theorem getD_set_if {α : Type} (l : List α) (i j : Nat) (a d : α) (hi : i < l.length) : (l.set i a).getD j d = if j = i then a else l.getD j d := by
  by_cases h : j = i
  · subst h
    simp [List.getD_eq_getElem?_getD, hi]
  · rw [if_neg h]
    simp [List.getD_eq_getElem?_getD, List.getElem?_set, show ¬ i = j from fun e => h e.symm]
theorem wf_at {k : KV} (h : WfV k) (i : Nat) (hk : (k.getD i default).is_ = false) : k.getD i default = kno := by
  by_cases hi : i < k.length
  · exact h.2 _ (getD_mem k i default hi) hk
  · rw [List.getD_eq_getElem?_getD, List.getElem?_eq_none (by omega)]
    rfl
theorem wf_set {k : KV} (h : WfV k) (i : Nat) {a : Known} (ha : a.is_ = false → a = kno) : WfV (k.set i a) := by
  refine ⟨by rw [List.length_set]; exact h.1, fun b hb => ?_⟩
  rcases List.mem_or_eq_of_mem_set hb with hb | rfl
  · exact h.2 b hb
  · exact ha
theorem wf_init : WfV [⟨true, 0⟩, ⟨true, 0⟩, ⟨true, 0⟩, ⟨true, 0⟩] := ⟨rfl, fun a ha h => by
  simp at ha
  subst ha
  simp at h⟩
theorem wf_none : WfV (List.replicate 4 kno) := ⟨rfl, fun a ha _ => List.eq_of_mem_replicate ha⟩
/-- A place's registers are registers. -/
structure RegsOk (x : Ins) : Prop where
  r : 0 ≤ x.r ∧ x.r.toNat < 4
  a : 0 ≤ x.a ∧ x.a.toNat < 4
  b : 0 ≤ x.b ∧ x.b.toNat < 4
theorem regs_of {x : Ins} {pl ch : Int} (h : insOk x pl ch = true) : RegsOk x := by
  unfold insOk at h
  simp only [Bool.and_eq_true, within_iff] at h
  obtain ⟨⟨⟨⟨h1, h2⟩, h3⟩, _⟩, _⟩ := h
  exact ⟨by omega, by omega, by omega⟩
theorem foldl_sets_wf {k : KV} (h : WfV k) : ∀ (s : List Int) (o : KV), WfV o → WfV (s.foldl (fun o r => o.set r.toNat kno) o)
  | [], o, ho => ho
  | r :: s, o, ho => foldl_sets_wf h s _ (wf_set ho _ fun _ => rfl)
theorem behind_wf (x : Ins) {k : KV} (h : WfV k) : WfV (behind x k) := by
  have hf := foldl_sets_wf h (sets x) k h
  unfold behind
  simp only
  split
  · exact wf_set hf _ (by simp)
  · split
    · exact wf_set hf _ (by simp)
    · exact hf
theorem vle_set {a b : KV} (h : vle a b) (i : Nat) {c d : Known} (hc : kle c d) : vle (a.set i c) (b.set i d) := by
  refine ⟨by simp [h.1], fun j hj => ?_⟩
  rw [List.length_set] at hj
  by_cases hi : i < a.length
  · rw [getD_set_if _ _ _ _ _ hi, getD_set_if _ _ _ _ _ (h.1 ▸ hi)]
    split
    · exact hc
    · exact h.2 j hj
  · rw [List.set_eq_of_length_le (by omega), List.set_eq_of_length_le (by have := h.1; omega)]
    exact h.2 j hj
theorem vle_sets : ∀ (s : List Int) {a b : KV}, vle a b → vle (s.foldl (fun o r => o.set r.toNat kno) a) (s.foldl (fun o r => o.set r.toNat kno) b)
  | [], _, _, h => h
  | r :: s, _, _, h => vle_sets s (vle_set h _ (kle_refl _))
theorem sets_at : ∀ (s : List Int) (r : Int) (k : KV), r ∈ s → r.toNat < k.length → (s.foldl (fun o r => o.set r.toNat kno) k).getD r.toNat default = kno
  | [], r, k, h, _ => by simp at h
  | q :: s, r, k, h, hr => by
    simp only [List.foldl_cons]
    by_cases hs : r ∈ s
    · exact sets_at s r _ hs (by simpa using hr)
    · have e : r = q := by
        rcases List.mem_cons.1 h with h | h
        · exact h
        · exact absurd h hs
      subst e
      have hne : ∀ (t : List Int) (o : KV), o.getD r.toNat default = kno → r.toNat < o.length → (t.foldl (fun o r => o.set r.toNat kno) o).getD r.toNat default = kno := by
        intro t
        induction t with
        | nil => intro o ho _; exact ho
        | cons p t ih =>
          intro o ho hl
          refine ih _ ?_ (by simpa using hl)
          by_cases hp : p.toNat < o.length
          · rw [getD_set_if _ _ _ _ _ hp]
            split
            · rfl
            · exact ho
          · have e : (fun (o : KV) (r : Int) => o.set r.toNat kno) o p = o := List.set_eq_of_length_le (by omega)
            rw [e]
            exact ho
      exact hne s _ (by rw [getD_set_if _ _ _ _ _ hr, if_pos rfl]) (by simpa using hr)
theorem behind_mono {x : Ins} (hx : RegsOk x) {a b : KV} (ha : WfV a) (hb : WfV b) (h : vle a b) : vle (behind x a) (behind x b) := by
  have hs := vle_sets (sets x) h
  unfold behind
  simp only
  split
  · exact vle_set hs _ (kle_refl _)
  · have la := h.2 x.a.toNat (by rw [ha.1]; exact hx.a.2)
    have lb := h.2 x.b.toNat (by rw [ha.1]; exact hx.b.2)
    by_cases hk : three x.op && (b.getD x.a.toNat default).is_ && (b.getD x.b.toNat default).is_
    · have hk' := hk
      simp only [Bool.and_eq_true] at hk'
      have ea : a.getD x.a.toNat default = b.getD x.a.toNat default := by
        rcases la with e | e
        · rw [e] at hk'; simp [kno] at hk'
        · exact e
      have eb : a.getD x.b.toNat default = b.getD x.b.toNat default := by
        rcases lb with e | e
        · rw [e] at hk'; simp [kno] at hk'
        · exact e
      rw [ea, eb, if_pos hk, if_pos hk]
      exact vle_set hs _ (kle_refl _)
    · rw [if_neg hk]
      split
      · rename_i ht
        simp only [Bool.and_eq_true] at ht
        have h3 : x.r ∈ sets x := by
          have := ht.1.1
          unfold three at this
          simp at this
          unfold sets
          rw [if_pos (by omega)]
          simp
        have hz := sets_at (sets x) x.r b h3 (by rw [hb.1]; exact hx.r.2)
        have hlen : ∀ (s : List Int) (o : KV), (s.foldl (fun o r => o.set r.toNat kno) o).length = o.length := by
          intro s
          induction s with
          | nil => intro o; rfl
          | cons p s ih => intro o; simp only [List.foldl_cons]; rw [ih]; simp
        refine ⟨by simp [hlen, h.1], fun j hj => ?_⟩
        rw [List.length_set] at hj
        have hj0 : x.r.toNat < ((sets x).foldl (fun o r => o.set r.toNat kno) a).length := by rw [hlen, ha.1]; exact hx.r.2
        rw [getD_set_if _ _ _ _ _ hj0]
        split
        · rename_i e
          rw [e, hz]
          exact .inl rfl
        · exact hs.2 j hj
      · exact hs
theorem meetK_length : ∀ (a b : KV), (meetK a b).length = a.length
  | [], _ => by simp [meetK]
  | _ :: _, [] => by simp [meetK]
  | a :: l, b :: k => by simp [meetK, meetK_length l k]
theorem meetK_at : ∀ (a b : KV) (i : Nat), i < a.length → i < b.length → (meetK a b).getD i default = meet1 (a.getD i default) (b.getD i default)
  | [], _, i, h, _ => by simp at h
  | _ :: _, [], i, _, h => by simp at h
  | a :: l, b :: k, 0, _, _ => by simp [meetK]
  | a :: l, b :: k, i + 1, h, g => by
    simp only [meetK, List.getD_cons_succ]
    exact meetK_at l k i (by simpa using h) (by simpa using g)
theorem meet_wf {a : KV} (b : KV) (ha : WfV a) : WfV (meetK a b) := by
  refine ⟨by rw [meetK_length]; exact ha.1, ?_⟩
  have : ∀ (a b : KV), (∀ x ∈ a, x.is_ = false → x = kno) → ∀ x ∈ meetK a b, x.is_ = false → x = kno := by
    intro a
    induction a with
    | nil => intro b _ x hx; simp [meetK] at hx
    | cons c l ih =>
      intro b h
      cases b with
      | nil => simpa [meetK] using h
      | cons d k =>
        intro x hx hf
        simp only [meetK] at hx
        rcases List.mem_cons.1 hx with rfl | hx
        · unfold meet1 at hf ⊢
          split
          · rfl
          · rename_i hc
            rw [if_neg hc] at hf
            exact h c (by simp) hf
        · exact ih k (fun y hy => h y (by simp [hy])) x hx hf
  exact this a b ha.2
theorem meet_le1 {a b : KV} (ha : WfV a) (hb : WfV b) : vle a (meetK a b) := by
  refine ⟨(meetK_length a b).symm, fun i hi => ?_⟩
  rw [meetK_at a b i hi (by rw [hb.1, ← ha.1]; exact hi)]
  unfold meet1
  split
  · exact .inl rfl
  · exact kle_refl _
theorem meet_le2 {a b : KV} (ha : WfV a) (hb : WfV b) : vle b (meetK a b) := by
  refine ⟨by rw [meetK_length, ha.1, hb.1], fun i hi => ?_⟩
  have hia : i < a.length := by rw [ha.1, ← hb.1]; exact hi
  rw [meetK_at a b i hia hi]
  unfold meet1
  split
  · exact .inl rfl
  · rename_i hc
    cases hk : (a.getD i default).is_ with
    | false => rw [wf_at ha i hk]; exact .inl rfl
    | true =>
      rw [hk] at hc
      simp only [Bool.true_and, Bool.not_eq_true', decide_eq_false_iff_not, Decidable.not_not] at hc
      exact .inr hc.symm
theorem meet_least {a b c : KV} (ha : vle a c) (hb : vle b c) : vle (meetK a b) c := by
  refine ⟨by rw [meetK_length]; exact ha.1, fun i hi => ?_⟩
  rw [meetK_length] at hi
  have hib : i < b.length := by rw [hb.1, ← ha.1]; exact hi
  rw [meetK_at a b i hi hib]
  unfold meet1
  split
  · rename_i hc
    simp only [Bool.and_eq_true, Bool.not_eq_true', decide_eq_false_iff_not] at hc
    rcases ha.2 i hi with e | e
    · exact .inl e
    · rcases hb.2 i hib with e' | e'
      · exact .inl e'
      · exact absurd (e.trans e'.symm) hc.2
  · exact ha.2 i hi
theorem less_false : ∀ {a b : KV}, lessK a b = false → meetK a b = a
  | [], _, _ => by simp [meetK]
  | _ :: _, [], _ => by simp [meetK]
  | a :: l, b :: k, h => by
    simp only [lessK, Bool.or_eq_false_iff] at h
    simp only [meetK, less_false h.2]
    unfold meet1
    have := h.1
    unfold less1 at this
    rw [if_neg (by rw [this]; simp)]
/-- How many registers are known. -/
def cnt : KV → Nat
  | [] => 0
  | a :: l => (if a.is_ then 1 else 0) + cnt l
theorem cnt_le : ∀ (a : KV), cnt a ≤ a.length
  | [] => by simp [cnt]
  | a :: l => by
    have := cnt_le l
    simp only [cnt, List.length_cons]
    split <;> omega
theorem meet_cnt : ∀ (a b : KV), cnt (meetK a b) ≤ cnt a ∧ (lessK a b = true → cnt (meetK a b) < cnt a)
  | [], _ => by simp [meetK, lessK, cnt]
  | _ :: _, [] => by simp [meetK, lessK]
  | a :: l, b :: k => by
    have ih := meet_cnt l k
    have h1 : (if (meet1 a b).is_ then 1 else 0) ≤ (if a.is_ then 1 else 0 : Nat) := by
      unfold meet1
      split
      · simp [kno]
      · exact Nat.le_refl _
    simp only [meetK, lessK, cnt]
    refine ⟨by have := ih.1; omega, fun h => ?_⟩
    rw [Bool.or_eq_true] at h
    rcases h with h | h
    · have h2 : (if (meet1 a b).is_ then 1 else 0) < (if a.is_ then 1 else 0 : Nat) := by
        unfold less1 at h
        unfold meet1
        rw [if_pos h]
        simp only [Bool.and_eq_true] at h
        simp [kno, h.1]
      have := ih.1
      omega
    · have := ih.2 h
      omega

-- S3
def kinit : KV := [⟨true, 0⟩, ⟨true, 0⟩, ⟨true, 0⟩, ⟨true, 0⟩]
def bl (a b : KV) : Prop := a = [] ∨ (b ≠ [] ∧ vle a b)
theorem bl_refl (a : KV) : bl a a := by
  by_cases h : a = []
  · exact .inl h
  · exact .inr ⟨h, vle_refl a⟩
theorem bl_trans {a b c : KV} (h : bl a b) (k : bl b c) : bl a c := by
  rcases h with h | ⟨h1, h2⟩
  · exact .inl h
  · rcases k with k | ⟨k1, k2⟩
    · exact absurd k h1
    · exact .inr ⟨k1, vle_trans h2 k2⟩
theorem bl_anti {a b : KV} (h : bl a b) (k : bl b a) : a = b := by
  rcases h with rfl | ⟨h1, h2⟩
  · rcases k with rfl | ⟨k1, _⟩
    · rfl
    · exact absurd rfl k1
  · rcases k with rfl | ⟨_, k2⟩
    · exact absurd rfl h1
    · exact vle_anti h2 k2
abbrev kat (S : KS) (i : Nat) : KV := S.getD i []
def EOk (l : List Ins) (S : KS) (a : Nat) : Prop := kat S a ≠ [] → ∀ n ∈ nextOf l a, kat S n.toNat ≠ [] ∧ vle (behind (l.getD a default) (kat S a)) (kat S n.toNat)
structure KPost (l : List Ins) (T : KS) : Prop where
  len : T.length = l.length
  wf : ∀ i, kat T i = [] ∨ WfV (kat T i)
  init : kat T 0 ≠ [] ∧ vle kinit (kat T 0)
  edge : ∀ a, a < l.length → EOk l T a
structure KInv (l : List Ins) (S : KS) : Prop where
  len : S.length = l.length
  wf : ∀ i, kat S i = [] ∨ WfV (kat S i)
  init : kat S 0 ≠ [] ∧ vle kinit (kat S 0)
  least : ∀ T, KPost l T → ∀ i, bl (kat S i) (kat T i)
structure IsLfp (l : List Ins) (S : KS) : Prop where
  inv : KInv l S
  edge : ∀ a, a < l.length → EOk l S a
theorem IsLfp.post {l : List Ins} {S : KS} (h : IsLfp l S) : KPost l S := ⟨h.inv.len, h.inv.wf, h.inv.init, h.edge⟩
theorem lfp_unique {l : List Ins} {S T : KS} (h : IsLfp l S) (k : IsLfp l T) : S = T := by
  apply List.ext_getElem (h.inv.len.trans k.inv.len.symm)
  intro i h1 h2
  have e := bl_anti (h.inv.least T k.post i) (k.inv.least S h.post i)
  simpa [kat, List.getD_eq_getElem?_getD, h1, h2] using e
/-- What comes to a place, met with what was told there. -/
def upd (S : KS) (out : KV) (n : Nat) : KS := S.set n (if kat S n = [] then out else meetK (kat S n) out)
def updD (S : KS) (out : KV) (n : Nat) : Bool := decide (kat S n = []) || lessK (kat S n) out
theorem upd_at (S : KS) (out : KV) (n i : Nat) (h : n < S.length) : kat (upd S out n) i = if i = n then (if kat S n = [] then out else meetK (kat S n) out) else kat S i := getD_set_if _ _ _ _ _ h
theorem upd_length (S : KS) (out : KV) (n : Nat) : (upd S out n).length = S.length := List.length_set
theorem wf_ne {a : KV} (h : WfV a) : a ≠ [] := fun e => by have := h.1; rw [e] at this; simp at this
theorem upd_le {S : KS} {out : KV} {n : Nat} (hn : n < S.length) (hw : kat S n = [] ∨ WfV (kat S n)) (ho : WfV out) (i : Nat) : bl (kat S i) (kat (upd S out n) i) := by
  rw [upd_at S out n i hn]
  split
  · rename_i e
    subst e
    split
    · rename_i h; exact .inl h
    · rename_i h
      have hw' : WfV (kat S i) := hw.resolve_left h
      exact .inr ⟨wf_ne (meet_wf _ hw'), meet_le1 hw' ho⟩
  · exact bl_refl _
theorem upd_new {S : KS} {out : KV} {n : Nat} (hn : n < S.length) (hw : kat S n = [] ∨ WfV (kat S n)) (ho : WfV out) : kat (upd S out n) n ≠ [] ∧ vle out (kat (upd S out n) n) := by
  rw [upd_at S out n n hn, if_pos rfl]
  split
  · exact ⟨wf_ne ho, vle_refl _⟩
  · rename_i h
    have hw' : WfV (kat S n) := hw.resolve_left h
    exact ⟨wf_ne (meet_wf _ hw'), meet_le2 hw' ho⟩
theorem upd_same {S : KS} {out : KV} {n : Nat} (h : updD S out n = false) : upd S out n = S := by
  unfold updD at h
  simp only [Bool.or_eq_false_iff, decide_eq_false_iff_not] at h
  unfold upd
  rw [if_neg h.1, less_false h.2]
  by_cases hn : n < S.length
  · apply List.ext_getElem (by simp)
    intro i h1 h2
    rw [List.getElem_set]
    split
    · rename_i e
      subst e
      simp [kat, List.getD_eq_getElem?_getD, hn]
    · rfl
  · exact List.set_eq_of_length_le (by omega)
def wS (v : KV) : Nat := if v = [] then 5 else cnt v
def mS (S : KS) : Nat := tots wS S
theorem tots_set {α : Type} (w : α → Nat) (d : α) : ∀ (l : List α) (i : Nat) (a : α), i < l.length → tots w (l.set i a) + w (l.getD i d) = tots w l + w a
  | [], i, a, h => by simp at h
  | x :: l, 0, a, h => by simp [tots]; omega
  | x :: l, i + 1, a, h => by
    have := tots_set w d l i a (by simpa using h)
    simp only [List.set_cons_succ, tots, List.getD_cons_succ]
    omega
theorem upd_meas {S : KS} {out : KV} {n : Nat} (hn : n < S.length) (hw : kat S n = [] ∨ WfV (kat S n)) (ho : WfV out) : mS (upd S out n) ≤ mS S ∧ (updD S out n = true → mS (upd S out n) < mS S) := by
  have ht := tots_set wS [] S n (if kat S n = [] then out else meetK (kat S n) out) hn
  have e : tots wS (upd S out n) = mS (upd S out n) := rfl
  have hk : S.getD n [] = kat S n := rfl
  unfold upd at e ⊢
  unfold updD mS at *
  rw [hk] at ht
  by_cases h : kat S n = []
  · rw [if_pos h] at ht ⊢
    have h1 : wS (kat S n) = 5 := by unfold wS; rw [if_pos h]
    have h2 : wS out ≤ 4 := by unfold wS; rw [if_neg (wf_ne ho)]; have := cnt_le out; rw [ho.1] at this; exact this
    exact ⟨by omega, fun _ => by omega⟩
  · rw [if_neg h] at ht ⊢
    have hw' : WfV (kat S n) := hw.resolve_left h
    have h1 : wS (kat S n) = cnt (kat S n) := by unfold wS; rw [if_neg h]
    have h2 : wS (meetK (kat S n) out) = cnt (meetK (kat S n) out) := by unfold wS; rw [if_neg (wf_ne (meet_wf _ hw'))]
    have hm := meet_cnt (kat S n) out
    refine ⟨by have := hm.1; omega, fun hd => ?_⟩
    rw [Bool.or_eq_true] at hd
    rcases hd with hd | hd
    · exact absurd (by simpa using hd) h
    · have := hm.2 hd
      omega
theorem upd_inv {l : List Ins} {S : KS} {out : KV} {n : Nat} (h : KInv l S) (hn : n < l.length) (ho : WfV out) (hl : ∀ T, KPost l T → kat T n ≠ [] ∧ vle out (kat T n)) : KInv l (upd S out n) := by
  have hn' : n < S.length := by rw [h.len]; exact hn
  refine ⟨by rw [upd_length]; exact h.len, fun i => ?_, ?_, fun T hT i => ?_⟩
  · rw [upd_at S out n i hn']
    split
    · split
      · exact .inr ho
      · rename_i e
        exact .inr (meet_wf _ ((h.wf n).resolve_left e))
    · exact h.wf i
  · have hb := upd_le hn' (h.wf n) ho 0
    rcases hb with hb | hb
    · exact absurd hb h.init.1
    · exact ⟨hb.1, vle_trans h.init.2 hb.2⟩
  · rw [upd_at S out n i hn']
    split
    · rename_i e
      subst e
      have hT' := hl T hT
      split
      · exact .inr hT'
      · rename_i e
        have hb := h.least T hT i
        rcases hb with hb | hb
        · exact absurd hb e
        · exact .inr ⟨hb.1, meet_least hb.2 hT'.2⟩
    · exact h.least T hT i
theorem out_le {l : List Ins} {S : KS} {a : Nat} (h : KInv l S) (ha : a < l.length) (hx : RegsOk (l.getD a default)) (hs : kat S a ≠ []) (T : KS) (hT : KPost l T) (n : Int) (hn : n ∈ nextOf l a) : kat T n.toNat ≠ [] ∧ vle (behind (l.getD a default) (kat S a)) (kat T n.toNat) := by
  have hb := h.least T hT a
  rcases hb with hb | hb
  · exact absurd hb hs
  · have he := hT.edge a ha hb.1 n hn
    exact ⟨he.1, vle_trans (behind_mono hx ((h.wf a).resolve_left hs) ((hT.wf a).resolve_left hb.1) hb.2) he.2⟩
theorem eok_keep {l : List Ins} {S S' : KS} {a : Nat} (hle : ∀ i, bl (kat S i) (kat S' i)) (ha : kat S' a = kat S a) (h : EOk l S a) : EOk l S' a := by
  intro hs n hn
  rw [ha] at hs ⊢
  obtain ⟨h1, h2⟩ := h hs n hn
  rcases hle n.toNat with e | e
  · exact absurd e h1
  · exact ⟨e.1, vle_trans h2 e.2⟩
/-- The places next to one of a right body are places. -/
theorem next_in {l : List Ins} (h : bodyOk l 3 = true) {a : Nat} (ha : a < l.length) : ∀ n ∈ nextOf l a, 0 ≤ n ∧ n.toNat < l.length := by
  unfold bodyOk at h
  simp only [Bool.and_eq_true, List.all_eq_true, Bool.or_eq_true, decide_eq_true_eq] at h
  obtain ⟨⟨⟨_, hl⟩, hall⟩, hlast⟩ := h
  have hx := hall _ (getD_mem l a default ha)
  have hnl : (l.getD a default).op ≠ 13 → (l.getD a default).op ≠ 11 → a + 1 < l.length := fun h1 h2 => by
    apply Nat.lt_of_le_of_ne ha
    intro e
    have : l.length - 1 = a := by omega
    unfold lastOp at hlast
    rw [this] at hlast
    rcases hlast with h3 | h3
    · exact h1 h3
    · exact h2 h3
  have hj : ((l.getD a default).op = 11 ∨ (l.getD a default).op = 12) → 0 ≤ (l.getD a default).n ∧ (l.getD a default).n < l.length := fun ho => by
    unfold insOk at hx
    rcases ho with ho | ho
    · simp only [ho, Bool.and_eq_true] at hx
      simp [-List.getD_eq_getElem?_getD] at hx
      omega
    · simp only [ho, Bool.and_eq_true] at hx
      simp [-List.getD_eq_getElem?_getD] at hx
      omega
  intro n hn
  unfold nextOf at hn
  simp only at hn
  generalize (l.getD a default) = x at *
  split at hn
  · simp at hn
  · rename_i h13
    split at hn
    · rename_i h11
      have := hj (.inl h11)
      simp at hn
      omega
    · rename_i h11
      have hn1 := hnl h13 h11
      split at hn
      · rename_i h12
        have := hj (.inr h12)
        split at hn
        · simp at hn
          omega
        · split at hn
          · simp at hn
            omega
          · simp at hn
            omega
      · simp at hn
        omega
theorem body_regs {l : List Ins} (h : bodyOk l 3 = true) {a : Nat} (ha : a < l.length) : RegsOk (l.getD a default) := by
  unfold bodyOk at h
  simp only [Bool.and_eq_true, List.all_eq_true] at h
  exact regs_of (h.1.2 _ (getD_mem l a default ha))
theorem body_len {l : List Ins} {ch : Int} (h : bodyOk l ch = true) : 1 ≤ l.length ∧ l.length ≤ 24 := by
  unfold bodyOk at h
  simp only [Bool.and_eq_true, within_iff] at h
  omega
def kstart (n : Nat) : KS := (List.replicate n []).set 0 kinit
theorem kstart_at (n i : Nat) (h : 0 < n) : kat (kstart n) i = if i = 0 then kinit else [] := by
  unfold kstart kat
  rw [getD_set_if _ _ _ _ _ (by simpa using h)]
  split
  · rfl
  · simp [List.getD_eq_getElem?_getD, List.getElem?_replicate]
    split <;> rfl
theorem kstart_inv {l : List Ins} (h : 0 < l.length) : KInv l (kstart l.length) := by
  refine ⟨by simp [kstart], fun i => ?_, ?_, fun T hT i => ?_⟩
  · rw [kstart_at _ _ h]
    split
    · exact .inr wf_init
    · exact .inl rfl
  · rw [kstart_at _ _ h, if_pos rfl]
    exact ⟨wf_ne wf_init, vle_refl _⟩
  · rw [kstart_at _ _ h]
    split
    · rename_i e
      subst e
      exact .inr hT.init
    · exact .inl rfl
theorem lfp_from {l : List Ins} (hb : bodyOk l 3 = true) : ∀ (m : Nat) (S : KS), KInv l S → mS S = m → ∃ K, IsLfp l K := by
  intro m
  induction m using Nat.strongRecOn with
  | ind m ih =>
    intro S hS hm
    by_cases he : ∀ a, a < l.length → EOk l S a
    · exact ⟨S, hS, he⟩
    · have ⟨a, ha⟩ := Classical.not_forall.1 he
      have ⟨ha1, ha2⟩ := Classical.not_imp.1 ha
      unfold EOk at ha2
      have ⟨hs, h3⟩ := Classical.not_imp.1 ha2
      have ⟨n, h4⟩ := Classical.not_forall.1 h3
      have ⟨hn, h5⟩ := Classical.not_imp.1 h4
      have hni := (next_in hb ha1 n hn).2
      have hwo := behind_wf (l.getD a default) ((hS.wf a).resolve_left hs)
      have hni' : n.toNat < S.length := by rw [hS.len]; exact hni
      have hd : updD S (behind (l.getD a default) (kat S a)) n.toNat = true := by
        cases h6 : updD S (behind (l.getD a default) (kat S a)) n.toNat with
        | true => rfl
        | false =>
          have e := upd_same h6
          have hnew := upd_new hni' (hS.wf n.toNat) hwo
          rw [e] at hnew
          exact absurd hnew h5
      have hmm := (upd_meas hni' (hS.wf n.toNat) hwo).2 hd
      exact ih _ (by omega) _ (upd_inv hS hni hwo fun T hT => out_le hS ha1 (body_regs hb ha1) hs T hT n hn) rfl
theorem lfp_exists {l : List Ins} (hb : bodyOk l 3 = true) : ∃ K, IsLfp l K := lfp_from hb _ _ (kstart_inv (body_len hb).1) rfl
def fillK (S : KS) : KS := S.map fun v => if v = [] then List.replicate 4 kno else v
def knownRes (l : List Ins) (K : KS) : KS := if bodyOk l 3 then fillK K else []


end Go.Sep
