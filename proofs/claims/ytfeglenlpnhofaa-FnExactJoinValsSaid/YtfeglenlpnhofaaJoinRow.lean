/- FnExactJoinVals: for every two Vals the law returns true: the program's JoinVals is the specification's, field by field. No conditions. -/
import Derived.Test.YtfeglenlpnhofaaRows
import Derived.Test.YtfeglenlpnhofaaOpenVal
import Derived.Test.YtfeglenlpnhofaaJoinLaw
import Derived.Test.YtfeglenlpnhofaaJoinPure
import Derived.WalkKit
import Derived.ProofKit
import Derived.OpenShut
import Derived.ChangeOld
import Derived.Below
import Derived.Carry
import Derived.SizedLaws
namespace Go.Proofs.Ytfeglenlpnhofaa.fnExactJoinVals
open Go.ChangeShapes Go.WideShapes Go.ChangeAt Go.RowKit Go.Proofs.Ytfeglenlpnhofaa.Mine
theorem own : ownKnob Try.prog.godebug = none := by kernel_rfl
theorem laidOut : laidOutB Try.prog = true := by kernel_rfl
set_option maxRecDepth 100000 in
theorem lifted (os : Os) (started : os.Started) (H : Type) (enc : TypeId × Value → H) :
    ReturnsInHanded {} Try.checked os 4 .any (Rows.fnExactJoinValsSpec.pre6 enc Try.prog Try.f4 Rows.fnExactJoinValsRow.domain false) (Rows.fnExactJoinValsSpec.post enc Try.prog Try.f4 false true false false) := by
  refine returnsInHanded_of_change (C := Try.checked) own started (by kernel_rfl) Try.func4
    (ChangeSpec.witness6 (enc := enc) (C := Try.checked) false ⟨#[], #[.agg #[.int .i64 0, .bool false, .int .i64 0, .int .i64 0, .int .i64 0, .int .i64 0], .agg #[.int .i64 0, .bool false, .int .i64 0, .int .i64 0, .int .i64 0, .int .i64 0]], []⟩ 8 (by kernel_rfl) (by kernel_rfl) (by kernel_rfl) (by kernel_rfl)) ?_
  intro W base args ds gs before hval0 hW _ _
  have hval : ∀ (j : Nat) t v, Try.f4.params[j]? = some t → args[j]? = some v → Value.okWide Try.prog W .any base t v := hval0
  have hW' := hW
  obtain ⟨p, q, hA0, hV, rfl, _, _⟩ := hW
  have hA : DataW.TrodAll enc Try.prog W 0 (fun _ => true) true Try.f4.params.toList args.toList ds p := hA0
  rw [Try.params4] at hA hval
  obtain ⟨v0, v1, d0, d1, p0, p1, rfl, rfl, rfl, h0, h1⟩ := trodAll_two hA
  obtain ⟨rfl, rfl⟩ := trodVars_none hV
  clear hA0 hval0
  have hlt0 : ∀ x ∈ p0, x.block < W.heap.size := fun x hx => hW'.lt x (by simp [hx])
  have k0 := h0
  have hlt1 : ∀ x ∈ p1, x.block < W.heap.size := fun x hx => hW'.lt x (by simp [hx])
  have k1 := h1
  obtain ⟨⟨x00, x01, x02, x03, x04, x05⟩, cs0, rfl, hk0, _⟩ := open_agg Try.underlying24 opens24 (hval 0 24 v0 rfl rfl) h0
  obtain rfl := k24cells hk0
  obtain ⟨⟨x10, x11, x12, x13, x14, x15⟩, cs1, rfl, hk1, _⟩ := open_agg Try.underlying24 opens24 (hval 1 24 v1 rfl rfl) h1
  obtain rfl := k24cells hk1
  refine (joins x00 x01 x02 x03 x04 x05 x10 x11 x12 x13 x14 x15 W).mono fun e W' ⟨he, bel⟩ => ?_
  subst he
  exact ⟨_, rfl, _, _, _, [], (p0 ++ p1), [], hW', trodAll_mk1 (shut_bool Try.underlying4 _), trodAll_mk2 (Below.trod laidOut (by kernel_rfl) (of_decide_eq_true (by kernel_rfl)) k0 bel hlt0) (Below.trod laidOut (by kernel_rfl) (of_decide_eq_true (by kernel_rfl)) k1 bel hlt1), rfl, bel.frame _, fun h => by cases h⟩
theorem over : Rows.fnExactJoinValsRow.holds Try.pinned (OpenSpec.ofChange Rows.fnExactJoinValsSpec) :=
  OpenClaim.holds_of_wide 4 Try.f4 rfl rfl rfl rfl rfl rfl rfl ⟨rfl, rfl, rfl, rfl, rfl⟩ rfl rfl rfl rfl rfl (by kernel_rfl) Try.func4 (by kernel_rfl)
    (of_decide_eq_true (by kernel_rfl)) (by unfold Func.isWrapper; first | (rw [if_pos (by decide +kernel)]; kernel_rfl) | (rw [if_neg (by decide +kernel)]; exact ⟨rfl, rfl⟩))
    (fun os started H enc _ => lifted os started H enc)
theorem proved : Rows.FnExactJoinValsSaid := over
#print axioms proved
end Go.Proofs.Ytfeglenlpnhofaa.fnExactJoinVals
namespace Go.Proofs.Ytfeglenlpnhofaa
/-- The row, under a short name, for the claim. -/
theorem fnExactJoinVals_holds : Rows.FnExactJoinValsSaid := fnExactJoinVals.proved
end Go.Proofs.Ytfeglenlpnhofaa
