/- FnExactSamePublic: for every Sig and every two Machs the law returns true: the program's SamePublic is the specification's, and it writes into no argument. No conditions. -/
import Derived.Test.YtfeglenlpnhofaaRows
import Derived.Test.YtfeglenlpnhofaaSamLaw
import Derived.WalkKit
import Derived.ProofKit
import Derived.OpenShut
import Derived.ChangeOld
import Derived.Below
import Derived.Carry
import Derived.SizedLaws
namespace Go.Proofs.Ytfeglenlpnhofaa.fnExactSamePublic
open Go.ChangeShapes Go.WideShapes Go.ChangeAt Go.RowKit Go.Proofs.Ytfeglenlpnhofaa.Mine
theorem own : ownKnob Try.prog.godebug = none := by kernel_rfl
theorem laidOut : laidOutB Try.prog = true := by kernel_rfl
set_option maxRecDepth 100000 in
theorem lifted (os : Os) (started : os.Started) (H : Type) (enc : TypeId × Value → H) :
    ReturnsInHanded {} Try.checked os 10 .any (Rows.fnExactSamePublicSpec.pre6 enc Try.prog Try.f10 Rows.fnExactSamePublicRow.domain false) (Rows.fnExactSamePublicSpec.post enc Try.prog Try.f10 false true false false) := by
  refine returnsInHanded_of_change (C := Try.checked) own started (by kernel_rfl) Try.func10
    (ChangeSpec.witness6 (enc := enc) (C := Try.checked) false ⟨#[], #[.agg #[.slice none 0 0, .slice none 0 0], .agg #[.slice none 0 0, .bool false, .bool false, .bool false, .bool false, .slice none 0 0, .int .i64 0, .int .i64 0, .slice none 0 0], .agg #[.slice none 0 0, .bool false, .bool false, .bool false, .bool false, .slice none 0 0, .int .i64 0, .int .i64 0, .slice none 0 0]], []⟩ 8 (by kernel_rfl) (by kernel_rfl) (by kernel_rfl) (by kernel_rfl)) ?_
  intro W base args ds gs before hval0 hW _ _
  have hval : ∀ (j : Nat) t v, Try.f10.params[j]? = some t → args[j]? = some v → Value.okWide Try.prog W .any base t v := hval0
  have hW' := hW
  obtain ⟨p, q, hA0, hV, rfl, _, _⟩ := hW
  have hA : DataW.TrodAll enc Try.prog W 0 (fun _ => true) true Try.f10.params.toList args.toList ds p := hA0
  rw [Try.params10] at hA hval
  obtain ⟨v0, v1, v2, d0, d1, d2, p0, p1, p2, rfl, rfl, rfl, h0, h1, h2⟩ := trodAll_three hA
  obtain ⟨rfl, rfl⟩ := trodVars_none hV
  clear hA0 hval0
  have hlt0 : ∀ x ∈ p0, x.block < W.heap.size := fun x hx => hW'.lt x (by simp [hx])
  have k0 := h0
  have hlt1 : ∀ x ∈ p1, x.block < W.heap.size := fun x hx => hW'.lt x (by simp [hx])
  have k1 := h1
  have hlt2 : ∀ x ∈ p2, x.block < W.heap.size := fun x hx => hW'.lt x (by simp [hx])
  have k2 := h2
  obtain ⟨s0, cs0, rfl, hk0, _⟩ := open_agg Try.underlying47 Mk.opens47 (hval 0 47 v0 rfl rfl) h0
  obtain ⟨A00, b00, A01, b01, rfl, l00, r00, l01, r01⟩ := Mk.sigcells hk0
  obtain ⟨s1, cs1, rfl, hk1, _⟩ := open_agg Try.underlying69 Mk.opens69 (hval 1 69 v1 rfl rfl) h1
  obtain ⟨A10, b10, A15, b15, A18, b18, rfl, l10, r10, l15, r15, l18, r18⟩ := Mk.machcells hk1
  obtain ⟨s2, cs2, rfl, hk2, _⟩ := open_agg Try.underlying69 Mk.opens69 (hval 2 69 v2 rfl rfl) h2
  obtain ⟨A20, b20, A25, b25, A28, b28, rfl, l20, r20, l25, r25, l28, r28⟩ := Mk.machcells hk2
  refine (Mk.sam_law A00 b00 s0.1 A01 b01 s0.2 A10 b10 s1.1 s1.2.1 s1.2.2.1 s1.2.2.2.1 s1.2.2.2.2.1 A15 b15 s1.2.2.2.2.2.1 s1.2.2.2.2.2.2.1 s1.2.2.2.2.2.2.2.1 A18 b18 s1.2.2.2.2.2.2.2.2 A20 b20 s2.1 s2.2.1 s2.2.2.1 s2.2.2.2.1 s2.2.2.2.2.1 A25 b25 s2.2.2.2.2.2.1 s2.2.2.2.2.2.2.1 s2.2.2.2.2.2.2.2.1 A28 b28 s2.2.2.2.2.2.2.2.2 W r00 l00 r01 l01 r10 l10 r15 l15 r18 l18 r20 l20 r25 l25 r28 l28).mono fun e W' ⟨he, bel⟩ => ?_
  subst he
  exact ⟨_, rfl, _, _, _, [], (p0 ++ (p1 ++ p2)), [], hW', trodAll_mk1 (shut_bool Try.underlying4 _), trodAll_mk3 (Below.trod laidOut (by kernel_rfl) (of_decide_eq_true (by kernel_rfl)) k0 bel hlt0) (Below.trod laidOut (by kernel_rfl) (of_decide_eq_true (by kernel_rfl)) k1 bel hlt1) (Below.trod laidOut (by kernel_rfl) (of_decide_eq_true (by kernel_rfl)) k2 bel hlt2), rfl, bel.frame _, fun h => by cases h⟩
theorem over : Rows.fnExactSamePublicRow.holds Try.pinned (OpenSpec.ofChange Rows.fnExactSamePublicSpec) :=
  OpenClaim.holds_of_wide 10 Try.f10 rfl rfl rfl rfl rfl rfl rfl ⟨rfl, rfl, rfl, rfl, rfl⟩ rfl rfl rfl rfl rfl (by kernel_rfl) Try.func10 (by kernel_rfl)
    (of_decide_eq_true (by kernel_rfl)) (by unfold Func.isWrapper; first | (rw [if_pos (by decide +kernel)]; kernel_rfl) | (rw [if_neg (by decide +kernel)]; exact ⟨rfl, rfl⟩))
    (fun os started H enc _ => lifted os started H enc)
theorem proved : Rows.FnExactSamePublicSaid := over
#print axioms proved
end Go.Proofs.Ytfeglenlpnhofaa.fnExactSamePublic
namespace Go.Proofs.Ytfeglenlpnhofaa
/-- The row, under a short name, for the claim. -/
theorem fnExactSamePublic_holds : Rows.FnExactSamePublicSaid := fnExactSamePublic.proved
end Go.Proofs.Ytfeglenlpnhofaa
