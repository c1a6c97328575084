/- The specification's JoinVals (function 11): at every two Vals it returns the Val that 'sj' tells, and nothing that was in memory changes. No conditions. -/
import Derived.Test.YtfeglenlpnhofaaBase
namespace Go.Proofs.Ytfeglenlpnhofaa.Mine
open Go.RowKit Go.Proofs.YtfeglenlpnhofaaW.PrintWords Go.Proofs.YtfeglenlpnhofaaW.PrintLast Go.Proofs.YtfeglenlpnhofaaW.PrintMore

def sjPtr (a0 a3 b0 b3 : Int) : Bool := (a0 == 1) && (b0 == 1) && (a3 == b3)
def sjMax (a0 a2 b0 b2 : Int) : Int := if a0 = 0 ∧ b0 = 0 ∧ a2 ≠ -1 ∧ b2 ≠ -1 then (if a2 < b2 then b2 else a2) else -1
/-- The join: kind, secret, max, heap, low, high. -/
def sj (a0 : Int) (a1 : Bool) (a2 a3 a4 a5 b0 : Int) (b1 : Bool) (b2 b3 b4 b5 : Int) : Int × Bool × Int × Int × Int × Int :=
  if sjPtr a0 a3 b0 b3 = true then (1, false, 0, a3, if b4 < a4 then b4 else a4, if a5 < b5 then b5 else a5)
  else (0, a1 || b1, sjMax a0 a2 b0 b2, 0, 0, 0)
def vOf (x : Int × Bool × Int × Int × Int × Int) : Value := .agg #[.int .i64 x.1, .bool x.2.1, .int .i64 x.2.2.1, .int .i64 x.2.2.2.1, .int .i64 x.2.2.2.2.1, .int .i64 x.2.2.2.2.2]

set_option maxRecDepth 100000 in
set_option maxHeartbeats 4000000 in
theorem sj_ptr (a1 : Bool) (a2 a3 a4 a5 : Int) (b1 : Bool) (b2 b4 b5 : Int) (w : World) :
    Calls Try.prog 11 #[.agg #[.int .i64 1, .bool a1, .int .i64 a2, .int .i64 a3, .int .i64 a4, .int .i64 a5], .agg #[.int .i64 1, .bool b1, .int .i64 b2, .int .i64 a3, .int .i64 b4, .int .i64 b5]] w
      fun e w' => e = .returned (.agg #[.int .i64 1, .bool false, .int .i64 0, .int .i64 a3, .int .i64 (if b4 < a4 then b4 else a4), .int .i64 (if a5 < b5 then b5 else a5)]) ∧ Below w.heap.size w w' := by
  by_cases h4 : b4 < a4
  · rw [if_pos h4]
    by_cases h5 : a5 < b5
    · rw [if_pos h5]
      go_enter Try.func11, Try.ntmps11
      go_wp2
      exact bodyPost_ret (v := .agg #[.int .i64 1, .bool false, .int .i64 0, .int .i64 a3, .int .i64 b4, .int .i64 b5]) (by simp [results, Try.results11, go_sem]) rfl ⟨by simp, (by repeat (first | exact Below.refl _ _ | apply below_alloc | (refine Below.setCell ?_ (by simp; omega) _)))⟩
    · rw [if_neg h5]
      go_enter Try.func11, Try.ntmps11
      go_wp2
      exact bodyPost_ret (v := .agg #[.int .i64 1, .bool false, .int .i64 0, .int .i64 a3, .int .i64 b4, .int .i64 a5]) (by simp [results, Try.results11, go_sem]) rfl ⟨by simp, (by repeat (first | exact Below.refl _ _ | apply below_alloc | (refine Below.setCell ?_ (by simp; omega) _)))⟩
  · rw [if_neg h4]
    by_cases h5 : a5 < b5
    · rw [if_pos h5]
      go_enter Try.func11, Try.ntmps11
      go_wp2
      exact bodyPost_ret (v := .agg #[.int .i64 1, .bool false, .int .i64 0, .int .i64 a3, .int .i64 a4, .int .i64 b5]) (by simp [results, Try.results11, go_sem]) rfl ⟨by simp, (by repeat (first | exact Below.refl _ _ | apply below_alloc | (refine Below.setCell ?_ (by simp; omega) _)))⟩
    · rw [if_neg h5]
      go_enter Try.func11, Try.ntmps11
      go_wp2
      exact bodyPost_ret (v := .agg #[.int .i64 1, .bool false, .int .i64 0, .int .i64 a3, .int .i64 a4, .int .i64 a5]) (by simp [results, Try.results11, go_sem]) rfl ⟨by simp, (by repeat (first | exact Below.refl _ _ | apply below_alloc | (refine Below.setCell ?_ (by simp; omega) _)))⟩

set_option maxRecDepth 100000 in
set_option maxHeartbeats 4000000 in
theorem sj_num (a0 : Int) (a1 : Bool) (a2 a3 a4 a5 b0 : Int) (b1 : Bool) (b2 b3 b4 b5 : Int) (w : World) (hp : sjPtr a0 a3 b0 b3 = false) :
    Calls Try.prog 11 #[.agg #[.int .i64 a0, .bool a1, .int .i64 a2, .int .i64 a3, .int .i64 a4, .int .i64 a5], .agg #[.int .i64 b0, .bool b1, .int .i64 b2, .int .i64 b3, .int .i64 b4, .int .i64 b5]] w
      fun e w' => e = .returned (.agg #[.int .i64 0, .bool (a1 || b1), .int .i64 (sjMax a0 a2 b0 b2), .int .i64 0, .int .i64 0, .int .i64 0]) ∧ Below w.heap.size w w' := by
  cases c0 : (a0 == 1)
  · clear hp
    cases k0 : (a0 == 0)
    · have hm : sjMax a0 a2 b0 b2 = -1 := by unfold sjMax; rw [if_neg (by rintro ⟨h, _⟩; simp [h] at k0)]
      rw [hm]; clear hm
      cases a1
      · go_enter Try.func11, Try.ntmps11
        go_wp2
        exact bodyPost_ret (v := .agg #[.int .i64 0, .bool b1, .int .i64 (-1), .int .i64 0, .int .i64 0, .int .i64 0]) (by simp [results, Try.results11, go_sem]) rfl ⟨by simp, (by repeat (first | exact Below.refl _ _ | apply below_alloc | (refine Below.setCell ?_ (by simp; omega) _)))⟩
      · go_enter Try.func11, Try.ntmps11
        go_wp2
        exact bodyPost_ret (v := .agg #[.int .i64 0, .bool true, .int .i64 (-1), .int .i64 0, .int .i64 0, .int .i64 0]) (by simp [results, Try.results11, go_sem]) rfl ⟨by simp, (by repeat (first | exact Below.refl _ _ | apply below_alloc | (refine Below.setCell ?_ (by simp; omega) _)))⟩
    · cases k1 : (b0 == 0)
      · have hm : sjMax a0 a2 b0 b2 = -1 := by unfold sjMax; rw [if_neg (by rintro ⟨_, h, _⟩; simp [h] at k1)]
        rw [hm]; clear hm
        cases a1
        · go_enter Try.func11, Try.ntmps11
          go_wp2
          exact bodyPost_ret (v := .agg #[.int .i64 0, .bool b1, .int .i64 (-1), .int .i64 0, .int .i64 0, .int .i64 0]) (by simp [results, Try.results11, go_sem]) rfl ⟨by simp, (by repeat (first | exact Below.refl _ _ | apply below_alloc | (refine Below.setCell ?_ (by simp; omega) _)))⟩
        · go_enter Try.func11, Try.ntmps11
          go_wp2
          exact bodyPost_ret (v := .agg #[.int .i64 0, .bool true, .int .i64 (-1), .int .i64 0, .int .i64 0, .int .i64 0]) (by simp [results, Try.results11, go_sem]) rfl ⟨by simp, (by repeat (first | exact Below.refl _ _ | apply below_alloc | (refine Below.setCell ?_ (by simp; omega) _)))⟩
      · cases k2 : (a2 != -1)
        · have hm : sjMax a0 a2 b0 b2 = -1 := by unfold sjMax; rw [if_neg (by rintro ⟨_, _, h, _⟩; simp [h] at k2)]
          rw [hm]; clear hm
          cases a1
          · go_enter Try.func11, Try.ntmps11
            go_wp2
            exact bodyPost_ret (v := .agg #[.int .i64 0, .bool b1, .int .i64 (-1), .int .i64 0, .int .i64 0, .int .i64 0]) (by simp [results, Try.results11, go_sem]) rfl ⟨by simp, (by repeat (first | exact Below.refl _ _ | apply below_alloc | (refine Below.setCell ?_ (by simp; omega) _)))⟩
          · go_enter Try.func11, Try.ntmps11
            go_wp2
            exact bodyPost_ret (v := .agg #[.int .i64 0, .bool true, .int .i64 (-1), .int .i64 0, .int .i64 0, .int .i64 0]) (by simp [results, Try.results11, go_sem]) rfl ⟨by simp, (by repeat (first | exact Below.refl _ _ | apply below_alloc | (refine Below.setCell ?_ (by simp; omega) _)))⟩
        · cases k3 : (b2 != -1)
          · have hm : sjMax a0 a2 b0 b2 = -1 := by unfold sjMax; rw [if_neg (by rintro ⟨_, _, _, h⟩; simp [h] at k3)]
            rw [hm]; clear hm
            cases a1
            · go_enter Try.func11, Try.ntmps11
              go_wp2
              exact bodyPost_ret (v := .agg #[.int .i64 0, .bool b1, .int .i64 (-1), .int .i64 0, .int .i64 0, .int .i64 0]) (by simp [results, Try.results11, go_sem]) rfl ⟨by simp, (by repeat (first | exact Below.refl _ _ | apply below_alloc | (refine Below.setCell ?_ (by simp; omega) _)))⟩
            · go_enter Try.func11, Try.ntmps11
              go_wp2
              exact bodyPost_ret (v := .agg #[.int .i64 0, .bool true, .int .i64 (-1), .int .i64 0, .int .i64 0, .int .i64 0]) (by simp [results, Try.results11, go_sem]) rfl ⟨by simp, (by repeat (first | exact Below.refl _ _ | apply below_alloc | (refine Below.setCell ?_ (by simp; omega) _)))⟩
          · by_cases k4 : a2 < b2
            · have hm : sjMax a0 a2 b0 b2 = b2 := by unfold sjMax; rw [if_pos ⟨by simpa using k0, by simpa using k1, by simpa using k2, by simpa using k3⟩, if_pos k4]
              rw [hm]; clear hm
              cases a1
              · go_enter Try.func11, Try.ntmps11
                go_wp2
                exact bodyPost_ret (v := .agg #[.int .i64 0, .bool b1, .int .i64 b2, .int .i64 0, .int .i64 0, .int .i64 0]) (by simp [results, Try.results11, go_sem]) rfl ⟨by simp, (by repeat (first | exact Below.refl _ _ | apply below_alloc | (refine Below.setCell ?_ (by simp; omega) _)))⟩
              · go_enter Try.func11, Try.ntmps11
                go_wp2
                exact bodyPost_ret (v := .agg #[.int .i64 0, .bool true, .int .i64 b2, .int .i64 0, .int .i64 0, .int .i64 0]) (by simp [results, Try.results11, go_sem]) rfl ⟨by simp, (by repeat (first | exact Below.refl _ _ | apply below_alloc | (refine Below.setCell ?_ (by simp; omega) _)))⟩
            · have hm : sjMax a0 a2 b0 b2 = a2 := by unfold sjMax; rw [if_pos ⟨by simpa using k0, by simpa using k1, by simpa using k2, by simpa using k3⟩, if_neg k4]
              rw [hm]; clear hm
              cases a1
              · go_enter Try.func11, Try.ntmps11
                go_wp2
                exact bodyPost_ret (v := .agg #[.int .i64 0, .bool b1, .int .i64 a2, .int .i64 0, .int .i64 0, .int .i64 0]) (by simp [results, Try.results11, go_sem]) rfl ⟨by simp, (by repeat (first | exact Below.refl _ _ | apply below_alloc | (refine Below.setCell ?_ (by simp; omega) _)))⟩
              · go_enter Try.func11, Try.ntmps11
                go_wp2
                exact bodyPost_ret (v := .agg #[.int .i64 0, .bool true, .int .i64 a2, .int .i64 0, .int .i64 0, .int .i64 0]) (by simp [results, Try.results11, go_sem]) rfl ⟨by simp, (by repeat (first | exact Below.refl _ _ | apply below_alloc | (refine Below.setCell ?_ (by simp; omega) _)))⟩
  · cases c1 : (b0 == 1)
    · clear hp
      have k0 : (a0 == 0) = false := by have := eq_of_beq c0; subst this; rfl
      have hm : sjMax a0 a2 b0 b2 = -1 := by unfold sjMax; rw [if_neg (by rintro ⟨h, _⟩; simp [h] at k0)]
      rw [hm]; clear hm
      cases a1
      · go_enter Try.func11, Try.ntmps11
        go_wp2
        exact bodyPost_ret (v := .agg #[.int .i64 0, .bool b1, .int .i64 (-1), .int .i64 0, .int .i64 0, .int .i64 0]) (by simp [results, Try.results11, go_sem]) rfl ⟨by simp, (by repeat (first | exact Below.refl _ _ | apply below_alloc | (refine Below.setCell ?_ (by simp; omega) _)))⟩
      · go_enter Try.func11, Try.ntmps11
        go_wp2
        exact bodyPost_ret (v := .agg #[.int .i64 0, .bool true, .int .i64 (-1), .int .i64 0, .int .i64 0, .int .i64 0]) (by simp [results, Try.results11, go_sem]) rfl ⟨by simp, (by repeat (first | exact Below.refl _ _ | apply below_alloc | (refine Below.setCell ?_ (by simp; omega) _)))⟩
    · have c2 : (a3 == b3) = false := by rw [sjPtr, c0, c1] at hp; simpa using hp
      clear hp
      have k0 : (a0 == 0) = false := by have := eq_of_beq c0; subst this; rfl
      have hm : sjMax a0 a2 b0 b2 = -1 := by unfold sjMax; rw [if_neg (by rintro ⟨h, _⟩; simp [h] at k0)]
      rw [hm]; clear hm
      cases a1
      · go_enter Try.func11, Try.ntmps11
        go_wp2
        exact bodyPost_ret (v := .agg #[.int .i64 0, .bool b1, .int .i64 (-1), .int .i64 0, .int .i64 0, .int .i64 0]) (by simp [results, Try.results11, go_sem]) rfl ⟨by simp, (by repeat (first | exact Below.refl _ _ | apply below_alloc | (refine Below.setCell ?_ (by simp; omega) _)))⟩
      · go_enter Try.func11, Try.ntmps11
        go_wp2
        exact bodyPost_ret (v := .agg #[.int .i64 0, .bool true, .int .i64 (-1), .int .i64 0, .int .i64 0, .int .i64 0]) (by simp [results, Try.results11, go_sem]) rfl ⟨by simp, (by repeat (first | exact Below.refl _ _ | apply below_alloc | (refine Below.setCell ?_ (by simp; omega) _)))⟩

theorem sj_calls (a0 : Int) (a1 : Bool) (a2 a3 a4 a5 b0 : Int) (b1 : Bool) (b2 b3 b4 b5 : Int) (w : World) :
    Calls Try.prog 11 #[.agg #[.int .i64 a0, .bool a1, .int .i64 a2, .int .i64 a3, .int .i64 a4, .int .i64 a5], .agg #[.int .i64 b0, .bool b1, .int .i64 b2, .int .i64 b3, .int .i64 b4, .int .i64 b5]] w
      fun e w' => e = .returned (vOf (sj a0 a1 a2 a3 a4 a5 b0 b1 b2 b3 b4 b5)) ∧ Below w.heap.size w w' := by
  cases hp : sjPtr a0 a3 b0 b3 with
  | true =>
    have e : sj a0 a1 a2 a3 a4 a5 b0 b1 b2 b3 b4 b5 = (1, false, 0, a3, if b4 < a4 then b4 else a4, if a5 < b5 then b5 else a5) := by unfold sj; rw [if_pos hp]
    rw [e]
    have hh : a0 = 1 ∧ b0 = 1 ∧ a3 = b3 := by simpa [sjPtr, and_assoc] using hp
    obtain ⟨rfl, rfl, rfl⟩ := hh
    exact sj_ptr a1 a2 a3 a4 a5 b1 b2 b4 b5 w
  | false =>
    have e : sj a0 a1 a2 a3 a4 a5 b0 b1 b2 b3 b4 b5 = (0, a1 || b1, sjMax a0 a2 b0 b2, 0, 0, 0) := by unfold sj; rw [if_neg (by rw [hp]; simp)]
    rw [e]
    exact sj_num a0 a1 a2 a3 a4 a5 b0 b1 b2 b3 b4 b5 w hp
end Go.Proofs.Ytfeglenlpnhofaa.Mine
