/- The law FnJudges returns true for all arguments, and its arguments read as before. No condition. -/
import Derived.Test.YtebbppogicgpkaaGreatRows
import Derived.Test.YtebbppogicgpkaaGreatShutFnJudges
import Derived.Test.YtebbppogicgpkaaGreatUxx38
import Derived.Test.YtebbppogicgpkaaGreatUzRead
import Derived.WalkKit
import Derived.ProofKit
import Derived.OpenShut
import Derived.ShutString
import Derived.ChangeOld
import Derived.Below
import Derived.SizedLaws
namespace Go.Sep
open Bool renaming and_eq_true → qXo
open List renaming all_cons → qY0, flatMap_cons → qYd, getD_eq_getElem?_getD → qXq, getElem?_eq_getElem → qZ7, getElem?_eq_none → qY9, getElem_mem → qYi, length_set → qZ5, map_append → qZ1, map_cons → qXl, map_map → qZ3, mem_append → qYo, mem_cons_of_mem → qYj, mem_map → qZ4, mem_or_eq_of_mem_set → qZ6, mem_singleton → qY5, nodup_cons → qYa, nodup_nil → qZ0, replicate → qXi, take_append_drop → qXu
open Nat renaming le_refl → qXn, le_trans → qZ2, lt_of_lt_of_le → qYp
open Go.RowKit
open Go.WideShapes
variable {P:Program} {num:Nat→Nat} {t:TypeId}
theorem qMu.map {n:Nat} {α β:Type} {c:α→List AV} {d:β→List AV} {Q:α→Prop} {R:β→Prop} (h:qMu P num t n c Q) (f:α→β) (hd :∀x,(d x).length=n∧(d x).all jW=true) (he :∀x,c x=d (f x)) (hq :∀x,Q x→R (f x)):qMu P num t n d R:=by
 obtain ⟨h1,h2,h3⟩:=h
 refine ⟨h1,hd,fun {H} enc W held fuel cs y h=>?_⟩
 obtain ⟨x,q,r⟩:=h3 enc W held fuel cs y h
 exact ⟨f x,hq x q,he x▸r⟩
theorem qMu.one {α:Type} {c:α→List AV} {Q:α→Prop} {H:Type} {enc:TypeId×Value→H} {W:World} {held:Bool} {v:Value} {d:DataW H} {p:List MemPlace} (h:qMu P num t 1 c Q) (hv:v.cells = #[v]) (ht:DataW.Trod enc P W 0 (fun _=>true) held t v d p) :
  ∃x,Q x∧RV (qUl num W) ((c x).getD 0 .any) v []:=by
 obtain ⟨fuel,hf⟩:=ht
 obtain ⟨x,q,r⟩:=h.2.2 enc W held fuel _ _ hf
 rw [hv] at r
 have hl:=(h.2.1 x).1
 match hcx:c x,hl with
 | [a],_ =>
  rw [hcx] at r
  simp only [RVs] at r
  obtain ⟨v',vs',L1,L2,h1,h2,h3,h4⟩:=r
  have hL1:L1=[]:=(yU h4).1
  subst hL1
  simp only [List.cons.injEq] at h1
  rw [h1.1]
  exact ⟨x,q,by simpa [hcx] using h2⟩
end Go.Sep
namespace Go.Proofs.YtebbppogicgpkaaGreat.fnJudges
open Go.ChangeShapes Go.WideShapes Go.ChangeAt Go.RowKit
open Go.ChangeMaps (open_string shut_string)
set_option linter.unusedVariables false
set_option linter.unusedSimpArgs false
theorem own : ownKnob Tryz.prog.godebug = none := by kernel_rfl
theorem laidOut : laidOutB Tryz.prog = true := by kernel_rfl
set_option maxRecDepth 100000 in
theorem lifted (os : Os) (started : os.Started) (H : Type) (enc : TypeId × Value → H) :
  ReturnsInHanded {} Tryz.checked os 12 .any (Rows.fnJudgesSpec.pre6 enc Tryz.prog Tryz.f12 Rows.fnJudgesRow.domain false) (Rows.fnJudgesSpec.post enc Tryz.prog Tryz.f12 false true false false) := by
 refine returnsInHanded_of_change_sized (C := Tryz.checked) own started (by kernel_rfl) Tryz.func12
  (ChangeSpec.witness6 (enc := enc) (C := Tryz.checked) false ⟨#[], #[.slice none 0 0], []⟩ 8 (by kernel_rfl) (by kernel_rfl) (by kernel_rfl) (by kernel_rfl)) ?_
 intro W base args ds gs before hval0 hW hcnd hsz0 _
 have hsz : (DataW.weightsEach Tryz.prog (Tryz.f12.params.toList ++ Rows.fnJudgesSpec.plain.varTypes Tryz.prog) (ds ++ gs)).all (· ≤ reachBytes) = true := hsz0
 have hval : ∀ (j : Nat) t v, Tryz.f12.params[j]? = some t → args[j]? = some v → Value.okWide Tryz.prog W .any base t v := hval0
 have hW' := hW
 obtain ⟨p, q, hA0, hV, rfl, hfz, hnd⟩ := hW
 have hA : DataW.TrodAll enc Tryz.prog W 0 (fun _ => true) true Tryz.f12.params.toList args.toList ds p := hA0
 rw [Tryz.params12] at hA hval hsz
 obtain ⟨v0, vs0, d0, ds0, p0, q0, hargs, rfl, rfl, h0, r0⟩ := trodAll_cons hA
 obtain ⟨rfl, rfl, rfl⟩ := trodAll_nil r0
 obtain rfl : args = #[v0] := by cases args; simp_all
 obtain ⟨rfl, rfl⟩ := trodVars_none hV
 obtain ⟨_, _, _, rfl⟩ := okWide_slice Tryz.underlying22 (hval 0 22 v0 rfl rfl)
 have k0 := h0
 have lt0 : ∀ x ∈ p0, x.block < W.heap.size := by obtain ⟨m, hm⟩ := k0; exact DataW.trod_lt m _ _ _ hm
 obtain ⟨x0, q0', s0⟩ := (Go.Sep.qX8 Tryz.underlying22 (by kernel_rfl) (by decide) (Go.Sep.qX7 Tryz.underlying5 (by kernel_rfl))).one rfl h0
 have s0 := Go.Sep.qWy (by intro r hr c hc; obtain ⟨x, _, rfl⟩ := List.mem_map.1 hr; rw [List.mem_singleton.1 hc]; exact ⟨_, _, rfl⟩) s0
 rw [show (x0.map fun n : UInt8 => [Go.Sep.AV.int .u8 n.toNat]) = Go.Sep.bys (x0.map fun n => (n.toNat : Int)) by simp [Go.Sep.bys]] at s0
 have hc := (Go.Sep.qW7 (x0.map fun n => (n.toNat : Int))).2 (Go.Sep.qUk Go.Sep.num W) (fun _ => []) _ rfl rfl (Go.Sep.qWx _ _) (Go.Sep.qX9 s0 Go.Sep.qX5)
 refine Calls.mono hc fun e W' he => ?_
 obtain ⟨he, bel⟩ : e = .returned (.bool true) ∧ Below W.heap.size W W' := by
  cases e with
  | returned v => obtain ⟨h1, h2⟩ := Go.Sep.qVa he; exact ⟨by rw [h1], h2⟩
  | panicked c => exact he.elim
  | outgrown => exact he.elim
 subst he
 exact ⟨_, rfl, _, _, _, [], _, [], hW', trodAll_mk1 (shut_bool Tryz.underlying4 _), (trodAll_cons_mk (Below.trod laidOut (by kernel_rfl) (of_decide_eq_true (by kernel_rfl)) k0 bel lt0) trodAll_mk0), rfl, bel.frame _, fun h => by cases h⟩
set_option maxRecDepth 100000 in
theorem closed : joinedFacts Tryz.prog 12 Tryz.f12 Rows.fnJudgesSpec Rows.fnJudgesRow = true := by
 unfold joinedFacts
 rw [x0, x1, x2, x3, x4, x5, x6, x7, x8, x9, x10, x11, x12, x13, x14, x15, x16, x17, x18, x19, x20, x21, x22, x23, x24, x25, x26, x27, x29, x30, x31]
 kernel_rfl
theorem named : Tryz.prog.funcNamed Rows.fnJudgesRow.func = some 12 := by kernel_rfl
theorem inst : Tryz.f12.isInstance Tryz.prog Rows.fnJudgesRow.origin Rows.fnJudgesRow.targs := of_decide_eq_true (by kernel_rfl)
theorem over : Rows.fnJudgesRow.holds Tryz.pinned (OpenSpec.ofChange Rows.fnJudgesSpec) :=
 OpenClaim.holds_of_wide 12 Tryz.f12 rfl rfl rfl rfl rfl rfl rfl ⟨rfl, rfl, rfl, rfl, rfl⟩ rfl rfl rfl rfl rfl named Tryz.func12 closed
  inst (by unfold Func.isWrapper; first | (rw [if_pos (by decide +kernel)]; kernel_rfl) | (rw [if_neg (by decide +kernel)]; exact ⟨rfl, rfl⟩))
  (fun os started H enc _ => lifted os started H enc)
theorem proved : Rows.FnJudgesSaid := over
end Go.Proofs.YtebbppogicgpkaaGreat.fnJudges
namespace Go.Proofs.YtebbppogicgpkaaGreat
theorem fnJudges_holds : Rows.FnJudgesSaid := fnJudges.proved
end Go.Proofs.YtebbppogicgpkaaGreat
