/- The program's JoinVals, as printed, is the specification's 'sj' at every two Vals. No conditions. -/
import Derived.Test.YtfeglenlpnhofaaPFnExactJoinValsx
import Derived.Test.YtfeglenlpnhofaaSpecJoin
import Derived.Test.YtfeglenlpnhofaaJoinLaw
namespace Go.Proofs.Ytfeglenlpnhofaa.Mine
open Go.RowKit Go.Proofs.YtfeglenlpnhofaaW.PrintWords Go.Proofs.YtfeglenlpnhofaaW.PrintLast Go.Proofs.YtfeglenlpnhofaaW.PrintMore

theorem mn_if (x y : Int) : mn x y = if y < x then y else x := by unfold mn; split <;> omega
theorem mx_if (x y : Int) : mx x y = if x < y then y else x := by unfold mx; split <;> omega
theorem ij (a0 : Int) (a1 : Bool) (a2 a3 a4 a5 b0 : Int) (b1 : Bool) (b2 b3 b4 b5 : Int) : PFnExactJoinVals.impl_JoinVals.f 1 a0 a1 a2 a3 a4 a5 b0 b1 b2 b3 b4 b5 = some (sj a0 a1 a2 a3 a4 a5 b0 b1 b2 b3 b4 b5) := by
  have hj : ∀ x : Bool, x = sjPtr a0 a3 b0 b3 → PFnExactJoinVals.impl_JoinVals.j0 1 x a0 a1 a2 a3 a4 a5 b0 b1 b2 b3 b4 b5 = some (sj a0 a1 a2 a3 a4 a5 b0 b1 b2 b3 b4 b5) := by
    rintro x rfl
    unfold PFnExactJoinVals.impl_JoinVals.j0 sj sjMax
    simp only [mn_if, mx_if]
    by_cases h : sjPtr a0 a3 b0 b3 = true
    · rw [if_pos h, if_pos h]
    · rw [if_neg h, if_neg h]
      cases a1 <;> by_cases h0 : a0 = 0 <;> by_cases k0 : b0 = 0 <;> by_cases h2 : a2 = -1 <;> by_cases k2 : b2 = -1 <;> simp [h0, k0, h2, k2]
  unfold PFnExactJoinVals.impl_JoinVals.f
  by_cases h0 : a0 = 1
  · rw [if_pos h0]
    by_cases k0 : b0 = 1
    · rw [if_pos k0]; exact hj (a3 == b3) (by simp [sjPtr, h0, k0])
    · rw [if_neg k0]; exact hj false (by simp [sjPtr, k0])
  · rw [if_neg h0]; exact hj false (by simp [sjPtr, h0])
/-- The law's call: true at every two Vals. -/
theorem joins (a0 : Int) (a1 : Bool) (a2 a3 a4 a5 b0 : Int) (b1 : Bool) (b2 b3 b4 b5 : Int) (w : World) :
    Calls Try.prog 4 #[.agg #[.int .i64 a0, .bool a1, .int .i64 a2, .int .i64 a3, .int .i64 a4, .int .i64 a5], .agg #[.int .i64 b0, .bool b1, .int .i64 b2, .int .i64 b3, .int .i64 b4, .int .i64 b5]] w fun e w' => e = .returned (.bool true) ∧ Below w.heap.size w w' := by
  have hs := fun w => sj_calls a0 a1 a2 a3 a4 a5 b0 b1 b2 b3 b4 b5 w
  have hi := fun w => PFnExactJoinVals.impl_JoinVals.calls 1 a0 a1 a2 a3 a4 a5 b0 b1 b2 b3 b4 b5 _ _ _ _ _ _ w (ij a0 a1 a2 a3 a4 a5 b0 b1 b2 b3 b4 b5)
  exact law4 a0 a1 a2 a3 a4 a5 b0 b1 b2 b3 b4 b5 _ _ _ _ _ _ w hs hi
end Go.Proofs.Ytfeglenlpnhofaa.Mine
