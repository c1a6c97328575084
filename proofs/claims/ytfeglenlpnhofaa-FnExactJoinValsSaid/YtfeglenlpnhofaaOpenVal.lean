/- An argument of the type Val is six numbers and bools. No conditions. -/
import Derived.Test.YtfeglenlpnhofaaOpen
namespace Go.Proofs.Ytfeglenlpnhofaa.Mine
open Go.RowKit Go.ChangeShapes Go.WideShapes Go.Deep Go.Proofs.YtfeglenlpnhofaaW.PrintWords

abbrev kVal : Kd (Int × Bool × Int × Int × Int × Int) := Kd.pair (Kd.int .i64) (Kd.pair Kd.bool (Kd.pair (Kd.int .i64) (Kd.pair (Kd.int .i64) (Kd.pair (Kd.int .i64) (Kd.int .i64)))))
theorem opens24 : Opens Try.prog kVal 24 (fun x => (Lit.int .i64 x.1).wf = true ∧ True ∧ (Lit.int .i64 x.2.2.1).wf = true ∧ (Lit.int .i64 x.2.2.2.1).wf = true ∧ (Lit.int .i64 x.2.2.2.2.1).wf = true ∧ (Lit.int .i64 x.2.2.2.2.2).wf = true) :=
  (opens_struct Try.underlying24 (opensF_cons (opens_int Try.underlying2) rfl (by kernel_rfl) (opensF_cons (opens_bool Try.underlying4) rfl (by kernel_rfl) (opensF_cons (opens_int Try.underlying2) rfl (by kernel_rfl) (opensF_cons (opens_int Try.underlying2) rfl (by kernel_rfl) (opensF_cons (opens_int Try.underlying2) rfl (by kernel_rfl) (opensF_last (opens_int Try.underlying2) rfl (by kernel_rfl))))))) (by kernel_rfl) : Opens Try.prog kVal 24 _).imp (fun _ h => h)
theorem k24cells {w : World} {a : Int} {b : Bool} {c d e f : Int} {cs : List Value} (h : kVal.K w (a, b, c, d, e, f) cs) : cs = [.int .i64 a, .bool b, .int .i64 c, .int .i64 d, .int .i64 e, .int .i64 f] := by
  obtain ⟨_, _, rfl, rfl, ⟨_, _, rfl, rfl, ⟨_, _, rfl, rfl, ⟨_, _, rfl, rfl, ⟨_, _, rfl, rfl, rfl⟩⟩⟩⟩⟩ := h
  rfl
end Go.Proofs.Ytfeglenlpnhofaa.Mine
