/- The program's search through what was seen: slices.ContainsFunc at ValidMach's own function. -/
import Derived.Test.YtfeglenlpnhofaaMkGood
namespace Go.Proofs.Ytfeglenlpnhofaa.Mk
open Go.RowKit Go.Proofs.YtfeglenlpnhofaaW.PrintWords Go.Proofs.YtfeglenlpnhofaaW.PrintLast Go.Proofs.YtfeglenlpnhofaaW.PrintMore Go.Proofs.Ytfeglenlpnhofaa.Mine
set_option linter.unusedSimpArgs false
set_option linter.unusedVariables false

set_option maxRecDepth 100000 in
theorem pred_calls (k v : Int) (w : World) : Calls Try.prog 60 #[.agg #[.int .i64 k, .int .u64 v]] w fun e w' => e = .returned (.bool (!inB k 1 3)) ∧ Below w.heap.size w w' := by
  unfold inB
  by_cases h : k < 1
  · go_enter Try.func60, Try.ntmps60
    go_wp2
    go_ret
    exact ⟨by simp <;> omega, by repeat (first | exact Below.refl _ _ | apply below_alloc)⟩
  · by_cases h2 : 3 < k
    · go_enter Try.func60, Try.ntmps60
      go_wp2
      go_ret
      exact ⟨by simp <;> omega, by repeat (first | exact Below.refl _ _ | apply below_alloc)⟩
    · go_enter Try.func60, Try.ntmps60
      go_wp2
      go_ret
      exact ⟨by simp <;> omega, by repeat (first | exact Below.refl _ _ | apply below_alloc)⟩
def Found (os : List S102) (w : World) (e : Ending) (w' : World) : Prop := ∃ r : Int, e = .returned (.int .i64 r) ∧ -1 ≤ r ∧ r ≤ 9223372036854775807 ∧ decide (0 ≤ r) = !allFrom (obsOk os) os.length 0 ∧ Below w.heap.size w w'
set_option maxRecDepth 100000 in
set_option maxHeartbeats 1000000 in
theorem index_calls (A : Option Addr) (c n : Nat) (os : List S102) (hn : n = os.length) (w : World) (h : Kd.C k102 w A n os) : Calls Try.prog 76 #[.slice A n c, .func (.func 60) #[] #[]] w (Found os w) := by
  have hM : n ≤ 9223372036854775807 := h.2.1
  have H8 := Aside0.mk hn
  have r8 := Aside0.mk h
  clear hn h
  go_enter Try.func76, Try.ntmps76
  go_wp2_with fail
  go_loopg [8] n (fun q v8 wr => ∃ j : Nat, v8 = .int .i64 j ∧ Aside0 (j + q = n) ∧ Aside0 (allFrom (obsOk os) n 0 = allFrom (obsOk os) n j) ∧ Aside0 (Below w.heap.size w wr))
  case atStart => exact ⟨0, rfl, ⟨by omega⟩, ⟨rfl⟩, ⟨Below.refl _ _⟩⟩
  case round =>
    obtain ⟨j, rfl, hj, HQ, HV⟩ := hrel
    by_cases hjk : j < n
    · obtain ⟨ad, ead, y0, y1⟩ := obsAt2 r8.out j (by have := H8.out; omega)
      cases ead
      have y0 := keepC' y0 HV.out
      have y1 := keepC' y1 HV.out
      obtain ⟨x, hx⟩ : ∃ x, x = (os.getD j z102).f0 := ⟨_, rfl⟩
      rw [← hx] at y0
      obtain ⟨v, hv⟩ : ∃ x, x = (os.getD j z102).f1 := ⟨_, rfl⟩
      rw [← hv] at y1
      clear hv
      have HX := Aside0.mk hx
      clear hx
      have HP : Aside0 (∀ w : World, Calls Try.prog 60 #[.agg #[.int .i64 x, .int .u64 v]] w fun e w' => e = .returned (.bool (!inB x 1 3)) ∧ Below w.heap.size w w') := ⟨fun w => pred_calls x v w⟩
      cases ho : inB x 1 3 with
      | true =>
        have hQ : obsOk os j = true := by unfold obsOk; rw [← HX.out, ho]
        have HQ2 := Aside0.mk (show allFrom (obsOk os) n 0 = allFrom (obsOk os) n (j + 1) by rw [HQ.out, allFrom_step hjk, hQ, Bool.true_and])
        clear hQ HQ
        go_wp2_with (first | (go_at_call 60; refine (HP.out _).mono ?_; rintro e w' ⟨rfl, hb⟩))
        go_roundg (n - (j + 1))
        case measure => have := hj.out; omega
        case rel => exact ⟨j + 1, by go_num, ⟨by omega⟩, HQ2, ⟨below_step HV.out hb⟩⟩
      | false =>
        have hQ : obsOk os j = false := by unfold obsOk; rw [← HX.out, ho]
        have HQ2 := Aside0.mk (show allFrom (obsOk os) os.length 0 = false by rw [← H8.out, HQ.out, allFrom_step hjk, hQ]; rfl)
        clear hQ HQ
        go_wp2_with (first | (go_at_call 60; refine (HP.out _).mono ?_; rintro e w' ⟨rfl, hb⟩))
        go_ret
        exact ⟨(j : Int), rfl, by omega, by omega, by rw [HQ2.out]; simp, below_step HV.out hb⟩
    · have ej : j = n := by have := hj.out; omega
      have HQ2 := Aside0.mk (show allFrom (obsOk os) os.length 0 = true by rw [← H8.out, HQ.out, ej, allFrom_end])
      clear ej HQ
      go_wp2
      go_ret
      exact ⟨-1, rfl, by omega, by omega, by rw [HQ2.out]; rfl, HV.out⟩
set_option maxRecDepth 100000 in
theorem contains_calls (A : Option Addr) (c n : Nat) (os : List S102) (hn : n = os.length) (w : World) (h : Kd.C k102 w A n os) : Calls Try.prog 59 #[.slice A n c, .func (.func 60) #[] #[]] w fun e w' => e = .returned (.bool (!allFrom (obsOk os) os.length 0)) ∧ Below w.heap.size w w' := by
  have HI := Aside0.mk (index_calls A c n os hn)
  have r8 := Aside0.mk h
  clear hn h
  go_enter Try.func59, Try.ntmps59
  go_wp2_with fail
  refine (HI.out _ r8.out).mono ?_
  rintro e w' ⟨r, rfl, hr1, hr2, hr, hb⟩
  have HR := Aside0.mk hr
  clear hr
  go_wp2
  go_ret
  exact ⟨by simpa using HR.out, hb⟩
end Go.Proofs.Ytfeglenlpnhofaa.Mk
