/- FnExactValidMach: for every Mach the law returns true: the program's ValidMach is the specification's, and it writes into no argument. No conditions. -/
import Derived.Test.YtfeglenlpnhofaaRows
import Derived.Test.YtfeglenlpnhofaaMachLaw
import Derived.WalkKit
import Derived.ProofKit
import Derived.OpenShut
import Derived.ChangeOld
import Derived.Below
import Derived.Carry
import Derived.SizedLaws
namespace Go.Proofs.Ytfeglenlpnhofaa.fnExactValidMach
open Go.ChangeShapes Go.WideShapes Go.ChangeAt Go.RowKit Go.Proofs.Ytfeglenlpnhofaa.Mine
theorem own : ownKnob Try.prog.godebug = none := by kernel_rfl
theorem laidOut : laidOutB Try.prog = true := by kernel_rfl
set_option maxRecDepth 100000 in
theorem lifted (os : Os) (started : os.Started) (H : Type) (enc : TypeId × Value → H) :
    ReturnsInHanded {} Try.checked os 8 .any (Rows.fnExactValidMachSpec.pre6 enc Try.prog Try.f8 Rows.fnExactValidMachRow.domain false) (Rows.fnExactValidMachSpec.post enc Try.prog Try.f8 false true false false) := by
  refine returnsInHanded_of_change (C := Try.checked) own started (by kernel_rfl) Try.func8
    (ChangeSpec.witness6 (enc := enc) (C := Try.checked) false ⟨#[], #[.agg #[.slice none 0 0, .bool false, .bool false, .bool false, .bool false, .slice none 0 0, .int .i64 0, .int .i64 0, .slice none 0 0]], []⟩ 8 (by kernel_rfl) (by kernel_rfl) (by kernel_rfl) (by kernel_rfl)) ?_
  intro W base args ds gs before hval0 hW _ _
  have hval : ∀ (j : Nat) t v, Try.f8.params[j]? = some t → args[j]? = some v → Value.okWide Try.prog W .any base t v := hval0
  have hW' := hW
  obtain ⟨p, q, hA0, hV, rfl, _, _⟩ := hW
  have hA : DataW.TrodAll enc Try.prog W 0 (fun _ => true) true Try.f8.params.toList args.toList ds p := hA0
  rw [Try.params8] at hA hval
  obtain ⟨v0, d0, rfl, rfl, h0⟩ := trodAll_one hA
  obtain ⟨rfl, rfl⟩ := trodVars_none hV
  clear hA0 hval0
  have hlt0 : ∀ x ∈ p, x.block < W.heap.size := fun x hx => hW'.lt x (by simp [hx])
  have k0 := h0
  obtain ⟨s0, cs0, rfl, hk0, _⟩ := open_agg Try.underlying69 Mk.opens69 (hval 0 69 v0 rfl rfl) h0
  obtain ⟨A0, b0, A5, b5, A8, b8, rfl, l0, r0, l5, r5, l8, r8⟩ := Mk.machcells hk0
  refine (Mk.law_calls A0 b0 s0.1 s0.2.1 s0.2.2.1 s0.2.2.2.1 s0.2.2.2.2.1 A5 b5 s0.2.2.2.2.2.1 s0.2.2.2.2.2.2.1 s0.2.2.2.2.2.2.2.1 A8 b8 s0.2.2.2.2.2.2.2.2 W r0 l0 r5 l5 r8 l8).mono fun e W' ⟨he, bel⟩ => ?_
  subst he
  exact ⟨_, rfl, _, _, _, [], p, [], hW', trodAll_mk1 (shut_bool Try.underlying4 _), trodAll_mk1 (Below.trod laidOut (by kernel_rfl) (of_decide_eq_true (by kernel_rfl)) k0 bel hlt0), rfl, bel.frame _, fun h => by cases h⟩
theorem over : Rows.fnExactValidMachRow.holds Try.pinned (OpenSpec.ofChange Rows.fnExactValidMachSpec) :=
  OpenClaim.holds_of_wide 8 Try.f8 rfl rfl rfl rfl rfl rfl rfl ⟨rfl, rfl, rfl, rfl, rfl⟩ rfl rfl rfl rfl rfl (by kernel_rfl) Try.func8 (by kernel_rfl)
    (of_decide_eq_true (by kernel_rfl)) (by unfold Func.isWrapper; first | (rw [if_pos (by decide +kernel)]; kernel_rfl) | (rw [if_neg (by decide +kernel)]; exact ⟨rfl, rfl⟩))
    (fun os started H enc _ => lifted os started H enc)
theorem proved : Rows.FnExactValidMachSaid := over
#print axioms proved
end Go.Proofs.Ytfeglenlpnhofaa.fnExactValidMach
namespace Go.Proofs.Ytfeglenlpnhofaa
/-- The row, under a short name, for the claim. -/
theorem fnExactValidMach_holds : Rows.FnExactValidMachSaid := fnExactValidMach.proved
end Go.Proofs.Ytfeglenlpnhofaa
