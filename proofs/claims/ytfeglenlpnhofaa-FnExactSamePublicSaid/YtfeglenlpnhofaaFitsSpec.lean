/- The specification's Fits (function 33) out of its callees' contracts: all of the tests, one behind the other; nothing that was in memory changes. -/
import Derived.Test.YtfeglenlpnhofaaBase
namespace Go.Proofs.Ytfeglenlpnhofaa.Mine
open Go.RowKit Go.Proofs.YtfeglenlpnhofaaW.PrintWords Go.Proofs.YtfeglenlpnhofaaW.PrintLast Go.Proofs.YtfeglenlpnhofaaW.PrintMore

set_option linter.unusedSimpArgs false
set_option linter.unusedVariables false
set_option maxRecDepth 100000 in
set_option maxHeartbeats 8000000 in
theorem fits_spec (n00 n01 n0 n5 n8 : Nat) (z c hz hc : Bool) (pc st : Int) (s0 s1 a0 a5 a8 : Option Addr) (e0 e1 c0 c5 c8 : Nat) (B1 B2 B3 B4 G : Bool) (R : World → Prop)
    (mR : ∀ w w' : World, Below w.heap.size w w' → R w → R w')
    (hG : G = (B1 && (B2 && (decide (st = 0) && (decide (pc = 0) && (decide (n8 = 0) && (!hz && (!hc && (B3 && B4)))))))))
    (h1 : ∀ w : World, R w → Calls Try.prog 19 #[.agg #[.slice s0 n00 e0, .slice s1 n01 e1]] w fun e w' => e = .returned (.bool B1) ∧ Below w.heap.size w w')
    (h2 : ∀ w : World, R w → Calls Try.prog 29 #[.agg #[.slice a0 n0 c0, .bool z, .bool c, .bool hz, .bool hc, .slice a5 n5 c5, .int .i64 pc, .int .i64 st, .slice a8 n8 c8]] w fun e w' => e = .returned (.bool B2) ∧ Below w.heap.size w w')
    (h3 : B1 = true → ∀ w : World, R w → Calls Try.prog 64 #[.agg #[.slice s0 n00 e0, .slice s1 n01 e1], .agg #[.slice a0 n0 c0, .bool z, .bool c, .bool hz, .bool hc, .slice a5 n5 c5, .int .i64 pc, .int .i64 st, .slice a8 n8 c8]] w fun e w' => e = .returned (.bool B3) ∧ Below w.heap.size w w')
    (h4 : B1 = true → B2 = true → B3 = true → ∀ w : World, R w → Calls Try.prog 65 #[.slice s1 n01 e1, .agg #[.slice a0 n0 c0, .bool z, .bool c, .bool hz, .bool hc, .slice a5 n5 c5, .int .i64 pc, .int .i64 st, .slice a8 n8 c8]] w fun e w' => e = .returned (.bool B4) ∧ Below w.heap.size w w')
    (w : World) (hR : R w) : Calls Try.prog 33 #[.agg #[.slice s0 n00 e0, .slice s1 n01 e1], .agg #[.slice a0 n0 c0, .bool z, .bool c, .bool hz, .bool hc, .slice a5 n5 c5, .int .i64 pc, .int .i64 st, .slice a8 n8 c8]] w fun e w' => e = .returned (.bool G) ∧ Below w.heap.size w w' := by
  have H_mR := Aside0.mk mR
  have H_h1 := Aside0.mk h1
  have H_h2 := Aside0.mk h2
  have H_h3 := Aside0.mk h3
  have H_h4 := Aside0.mk h4
  have HG := Aside0.mk hG
  clear mR h1 h2 h3 h4 hG
  have HB := Below.refl w.heap.size w
  go_enter Try.func33, Try.ntmps33
  go_upto_region 1 with (first | ((with_reducible refine gate_dst (N := 2) rfl ?_); refine box_event ?hg (N := 2) ?hd (cs := #[.slice s0 n00 e0, .slice s1 n01 e1]) (t := 53) ?hr ?_; (case hd => rfl); (case hg => rfl); (case hr => first | (go_simp; done) | (go_simp; rfl)); intro g0 hg W0 hbox hb; have kb_ := below_step HB hb; clear HB; have HB := kb_; clear kb_ hb hg; have BK0 := hbox; clear hbox) | ((with_reducible refine gate_dst (N := 3) rfl ?_); refine box_event ?hg (N := 3) ?hd (cs := #[.slice a0 n0 c0, .bool z, .bool c, .bool hz, .bool hc, .slice a5 n5 c5, .int .i64 pc, .int .i64 st, .slice a8 n8 c8]) (t := 40) ?hr ?_; (case hd => rfl); (case hg => rfl); (case hr => first | (go_simp; done) | (go_simp; rfl)); intro g1 hg W1 hbox hb; have k0_ := blk_below BK0 hb; clear BK0; have BK0 := k0_; clear k0_; have kb_ := below_step HB hb; clear HB; have HB := kb_; clear kb_ hb hg; have BK1 := hbox; clear hbox))
  have HR := H_mR.out _ _ HB hR
  clear hR
  cases B1 with
  | false =>
    have y0 : W1.cell? ⟨g0, 0, none⟩ = some (.slice s0 n00 e0) := (blk_cell BK0 0).trans rfl
    have y1 : W1.cell? ⟨g0, 1, none⟩ = some (.slice s1 n01 e1) := (blk_cell BK0 1).trans rfl
    go_wp2_with fail
    refine (H_h1.out _ HR).mono ?_
    rintro e V1 ⟨rfl, hb⟩
    clear y0 y1
    have k_ := below_step HB hb
    clear HB
    have HB := k_
    clear k_
    have k_ := blk_below BK0 hb
    clear BK0
    have BK0 := k_
    clear k_
    have k_ := blk_below BK1 hb
    clear BK1
    have BK1 := k_
    clear k_
    have k_ := H_mR.out _ _ hb HR
    clear HR
    have HR := k_
    clear k_
    clear hb
    go_wp2
    go_ret
    exact ⟨by rw [HG.out]; simp, HB⟩
  | true =>
    have y0 : W1.cell? ⟨g0, 0, none⟩ = some (.slice s0 n00 e0) := (blk_cell BK0 0).trans rfl
    have y1 : W1.cell? ⟨g0, 1, none⟩ = some (.slice s1 n01 e1) := (blk_cell BK0 1).trans rfl
    go_wp2_with fail
    refine (H_h1.out _ HR).mono ?_
    rintro e V2 ⟨rfl, hb⟩
    clear y0 y1
    have k_ := below_step HB hb
    clear HB
    have HB := k_
    clear k_
    have k_ := blk_below BK0 hb
    clear BK0
    have BK0 := k_
    clear k_
    have k_ := blk_below BK1 hb
    clear BK1
    have BK1 := k_
    clear k_
    have k_ := H_mR.out _ _ hb HR
    clear HR
    have HR := k_
    clear k_
    clear hb
    cases B2 with
    | false =>
      have z_0 : V2.cell? ⟨g1, 0, none⟩ = some (.slice a0 n0 c0) := (blk_cell BK1 0).trans rfl
      have z_1 : V2.cell? ⟨g1, 1, none⟩ = some (.bool z) := (blk_cell BK1 1).trans rfl
      have z_2 : V2.cell? ⟨g1, 2, none⟩ = some (.bool c) := (blk_cell BK1 2).trans rfl
      have z_3 : V2.cell? ⟨g1, 3, none⟩ = some (.bool hz) := (blk_cell BK1 3).trans rfl
      have z_4 : V2.cell? ⟨g1, 4, none⟩ = some (.bool hc) := (blk_cell BK1 4).trans rfl
      have z_5 : V2.cell? ⟨g1, 5, none⟩ = some (.slice a5 n5 c5) := (blk_cell BK1 5).trans rfl
      have z_6 : V2.cell? ⟨g1, 6, none⟩ = some (.int .i64 pc) := (blk_cell BK1 6).trans rfl
      have z_7 : V2.cell? ⟨g1, 7, none⟩ = some (.int .i64 st) := (blk_cell BK1 7).trans rfl
      have z_8 : V2.cell? ⟨g1, 8, none⟩ = some (.slice a8 n8 c8) := (blk_cell BK1 8).trans rfl
      go_wp2_with fail
      refine (H_h2.out _ HR).mono ?_
      rintro e V3 ⟨rfl, hb⟩
      clear z_0 z_1 z_2 z_3 z_4 z_5 z_6 z_7 z_8
      have k_ := below_step HB hb
      clear HB
      have HB := k_
      clear k_
      have k_ := blk_below BK0 hb
      clear BK0
      have BK0 := k_
      clear k_
      have k_ := blk_below BK1 hb
      clear BK1
      have BK1 := k_
      clear k_
      have k_ := H_mR.out _ _ hb HR
      clear HR
      have HR := k_
      clear k_
      clear hb
      go_wp2
      go_ret
      exact ⟨by rw [HG.out]; simp, HB⟩
    | true =>
      have z_0 : V2.cell? ⟨g1, 0, none⟩ = some (.slice a0 n0 c0) := (blk_cell BK1 0).trans rfl
      have z_1 : V2.cell? ⟨g1, 1, none⟩ = some (.bool z) := (blk_cell BK1 1).trans rfl
      have z_2 : V2.cell? ⟨g1, 2, none⟩ = some (.bool c) := (blk_cell BK1 2).trans rfl
      have z_3 : V2.cell? ⟨g1, 3, none⟩ = some (.bool hz) := (blk_cell BK1 3).trans rfl
      have z_4 : V2.cell? ⟨g1, 4, none⟩ = some (.bool hc) := (blk_cell BK1 4).trans rfl
      have z_5 : V2.cell? ⟨g1, 5, none⟩ = some (.slice a5 n5 c5) := (blk_cell BK1 5).trans rfl
      have z_6 : V2.cell? ⟨g1, 6, none⟩ = some (.int .i64 pc) := (blk_cell BK1 6).trans rfl
      have z_7 : V2.cell? ⟨g1, 7, none⟩ = some (.int .i64 st) := (blk_cell BK1 7).trans rfl
      have z_8 : V2.cell? ⟨g1, 8, none⟩ = some (.slice a8 n8 c8) := (blk_cell BK1 8).trans rfl
      go_wp2_with fail
      refine (H_h2.out _ HR).mono ?_
      rintro e V4 ⟨rfl, hb⟩
      clear z_0 z_1 z_2 z_3 z_4 z_5 z_6 z_7 z_8
      have k_ := below_step HB hb
      clear HB
      have HB := k_
      clear k_
      have k_ := blk_below BK0 hb
      clear BK0
      have BK0 := k_
      clear k_
      have k_ := blk_below BK1 hb
      clear BK1
      have BK1 := k_
      clear k_
      have k_ := H_mR.out _ _ hb HR
      clear HR
      have HR := k_
      clear k_
      clear hb
      by_cases q : st = 0
      rotate_left
      · have q1 : (st == 0) = false := by simp [q]
        have q2 : decide (st = 0) = false := by simp [q]
        have z_0 : V4.cell? ⟨g1, 0, none⟩ = some (.slice a0 n0 c0) := (blk_cell BK1 0).trans rfl
        have z_1 : V4.cell? ⟨g1, 1, none⟩ = some (.bool z) := (blk_cell BK1 1).trans rfl
        have z_2 : V4.cell? ⟨g1, 2, none⟩ = some (.bool c) := (blk_cell BK1 2).trans rfl
        have z_3 : V4.cell? ⟨g1, 3, none⟩ = some (.bool hz) := (blk_cell BK1 3).trans rfl
        have z_4 : V4.cell? ⟨g1, 4, none⟩ = some (.bool hc) := (blk_cell BK1 4).trans rfl
        have z_5 : V4.cell? ⟨g1, 5, none⟩ = some (.slice a5 n5 c5) := (blk_cell BK1 5).trans rfl
        have z_6 : V4.cell? ⟨g1, 6, none⟩ = some (.int .i64 pc) := (blk_cell BK1 6).trans rfl
        have z_7 : V4.cell? ⟨g1, 7, none⟩ = some (.int .i64 st) := (blk_cell BK1 7).trans rfl
        have z_8 : V4.cell? ⟨g1, 8, none⟩ = some (.slice a8 n8 c8) := (blk_cell BK1 8).trans rfl
        go_wp2
        go_ret
        exact ⟨by rw [HG.out]; simp [q2], HB⟩
      subst q
      by_cases q : pc = 0
      rotate_left
      · have q1 : (pc == 0) = false := by simp [q]
        have q2 : decide (pc = 0) = false := by simp [q]
        have z_0 : V4.cell? ⟨g1, 0, none⟩ = some (.slice a0 n0 c0) := (blk_cell BK1 0).trans rfl
        have z_1 : V4.cell? ⟨g1, 1, none⟩ = some (.bool z) := (blk_cell BK1 1).trans rfl
        have z_2 : V4.cell? ⟨g1, 2, none⟩ = some (.bool c) := (blk_cell BK1 2).trans rfl
        have z_3 : V4.cell? ⟨g1, 3, none⟩ = some (.bool hz) := (blk_cell BK1 3).trans rfl
        have z_4 : V4.cell? ⟨g1, 4, none⟩ = some (.bool hc) := (blk_cell BK1 4).trans rfl
        have z_5 : V4.cell? ⟨g1, 5, none⟩ = some (.slice a5 n5 c5) := (blk_cell BK1 5).trans rfl
        have z_6 : V4.cell? ⟨g1, 6, none⟩ = some (.int .i64 pc) := (blk_cell BK1 6).trans rfl
        have z_7 : V4.cell? ⟨g1, 7, none⟩ = some (.int .i64 0) := (blk_cell BK1 7).trans rfl
        have z_8 : V4.cell? ⟨g1, 8, none⟩ = some (.slice a8 n8 c8) := (blk_cell BK1 8).trans rfl
        go_wp2
        go_ret
        exact ⟨by rw [HG.out]; simp [q2], HB⟩
      subst q
      by_cases q : n8 = 0
      rotate_left
      · have q1 : ((n8 : Int) == 0) = false := by simp [q]
        have q2 : decide (n8 = 0) = false := by simp [q]
        have z_0 : V4.cell? ⟨g1, 0, none⟩ = some (.slice a0 n0 c0) := (blk_cell BK1 0).trans rfl
        have z_1 : V4.cell? ⟨g1, 1, none⟩ = some (.bool z) := (blk_cell BK1 1).trans rfl
        have z_2 : V4.cell? ⟨g1, 2, none⟩ = some (.bool c) := (blk_cell BK1 2).trans rfl
        have z_3 : V4.cell? ⟨g1, 3, none⟩ = some (.bool hz) := (blk_cell BK1 3).trans rfl
        have z_4 : V4.cell? ⟨g1, 4, none⟩ = some (.bool hc) := (blk_cell BK1 4).trans rfl
        have z_5 : V4.cell? ⟨g1, 5, none⟩ = some (.slice a5 n5 c5) := (blk_cell BK1 5).trans rfl
        have z_6 : V4.cell? ⟨g1, 6, none⟩ = some (.int .i64 0) := (blk_cell BK1 6).trans rfl
        have z_7 : V4.cell? ⟨g1, 7, none⟩ = some (.int .i64 0) := (blk_cell BK1 7).trans rfl
        have z_8 : V4.cell? ⟨g1, 8, none⟩ = some (.slice a8 n8 c8) := (blk_cell BK1 8).trans rfl
        go_wp2
        go_ret
        exact ⟨by rw [HG.out]; simp [q2], HB⟩
      subst q
      cases hz with
      | true =>
        have z_0 : V4.cell? ⟨g1, 0, none⟩ = some (.slice a0 n0 c0) := (blk_cell BK1 0).trans rfl
        have z_1 : V4.cell? ⟨g1, 1, none⟩ = some (.bool z) := (blk_cell BK1 1).trans rfl
        have z_2 : V4.cell? ⟨g1, 2, none⟩ = some (.bool c) := (blk_cell BK1 2).trans rfl
        have z_3 : V4.cell? ⟨g1, 3, none⟩ = some (.bool true) := (blk_cell BK1 3).trans rfl
        have z_4 : V4.cell? ⟨g1, 4, none⟩ = some (.bool hc) := (blk_cell BK1 4).trans rfl
        have z_5 : V4.cell? ⟨g1, 5, none⟩ = some (.slice a5 n5 c5) := (blk_cell BK1 5).trans rfl
        have z_6 : V4.cell? ⟨g1, 6, none⟩ = some (.int .i64 0) := (blk_cell BK1 6).trans rfl
        have z_7 : V4.cell? ⟨g1, 7, none⟩ = some (.int .i64 0) := (blk_cell BK1 7).trans rfl
        have z_8 : V4.cell? ⟨g1, 8, none⟩ = some (.slice a8 0 c8) := (blk_cell BK1 8).trans rfl
        go_wp2
        go_ret
        exact ⟨by rw [HG.out]; simp, HB⟩
      | false =>
        cases hc with
        | true =>
          have z_0 : V4.cell? ⟨g1, 0, none⟩ = some (.slice a0 n0 c0) := (blk_cell BK1 0).trans rfl
          have z_1 : V4.cell? ⟨g1, 1, none⟩ = some (.bool z) := (blk_cell BK1 1).trans rfl
          have z_2 : V4.cell? ⟨g1, 2, none⟩ = some (.bool c) := (blk_cell BK1 2).trans rfl
          have z_3 : V4.cell? ⟨g1, 3, none⟩ = some (.bool false) := (blk_cell BK1 3).trans rfl
          have z_4 : V4.cell? ⟨g1, 4, none⟩ = some (.bool true) := (blk_cell BK1 4).trans rfl
          have z_5 : V4.cell? ⟨g1, 5, none⟩ = some (.slice a5 n5 c5) := (blk_cell BK1 5).trans rfl
          have z_6 : V4.cell? ⟨g1, 6, none⟩ = some (.int .i64 0) := (blk_cell BK1 6).trans rfl
          have z_7 : V4.cell? ⟨g1, 7, none⟩ = some (.int .i64 0) := (blk_cell BK1 7).trans rfl
          have z_8 : V4.cell? ⟨g1, 8, none⟩ = some (.slice a8 0 c8) := (blk_cell BK1 8).trans rfl
          go_wp2
          go_ret
          exact ⟨by rw [HG.out]; simp, HB⟩
        | false =>
          cases B3 with
          | false =>
            have y0 : V4.cell? ⟨g0, 0, none⟩ = some (.slice s0 n00 e0) := (blk_cell BK0 0).trans rfl
            have y1 : V4.cell? ⟨g0, 1, none⟩ = some (.slice s1 n01 e1) := (blk_cell BK0 1).trans rfl
            have z_0 : V4.cell? ⟨g1, 0, none⟩ = some (.slice a0 n0 c0) := (blk_cell BK1 0).trans rfl
            have z_1 : V4.cell? ⟨g1, 1, none⟩ = some (.bool z) := (blk_cell BK1 1).trans rfl
            have z_2 : V4.cell? ⟨g1, 2, none⟩ = some (.bool c) := (blk_cell BK1 2).trans rfl
            have z_3 : V4.cell? ⟨g1, 3, none⟩ = some (.bool false) := (blk_cell BK1 3).trans rfl
            have z_4 : V4.cell? ⟨g1, 4, none⟩ = some (.bool false) := (blk_cell BK1 4).trans rfl
            have z_5 : V4.cell? ⟨g1, 5, none⟩ = some (.slice a5 n5 c5) := (blk_cell BK1 5).trans rfl
            have z_6 : V4.cell? ⟨g1, 6, none⟩ = some (.int .i64 0) := (blk_cell BK1 6).trans rfl
            have z_7 : V4.cell? ⟨g1, 7, none⟩ = some (.int .i64 0) := (blk_cell BK1 7).trans rfl
            have z_8 : V4.cell? ⟨g1, 8, none⟩ = some (.slice a8 0 c8) := (blk_cell BK1 8).trans rfl
            go_wp2_with fail
            refine (H_h3.out (by trivial) _ HR).mono ?_
            rintro e V5 ⟨rfl, hb⟩
            clear y0 y1 z_0 z_1 z_2 z_3 z_4 z_5 z_6 z_7 z_8
            have k_ := below_step HB hb
            clear HB
            have HB := k_
            clear k_
            have k_ := blk_below BK0 hb
            clear BK0
            have BK0 := k_
            clear k_
            have k_ := blk_below BK1 hb
            clear BK1
            have BK1 := k_
            clear k_
            have k_ := H_mR.out _ _ hb HR
            clear HR
            have HR := k_
            clear k_
            clear hb
            go_wp2
            go_ret
            exact ⟨by rw [HG.out]; simp, HB⟩
          | true =>
            have y0 : V4.cell? ⟨g0, 0, none⟩ = some (.slice s0 n00 e0) := (blk_cell BK0 0).trans rfl
            have y1 : V4.cell? ⟨g0, 1, none⟩ = some (.slice s1 n01 e1) := (blk_cell BK0 1).trans rfl
            have z_0 : V4.cell? ⟨g1, 0, none⟩ = some (.slice a0 n0 c0) := (blk_cell BK1 0).trans rfl
            have z_1 : V4.cell? ⟨g1, 1, none⟩ = some (.bool z) := (blk_cell BK1 1).trans rfl
            have z_2 : V4.cell? ⟨g1, 2, none⟩ = some (.bool c) := (blk_cell BK1 2).trans rfl
            have z_3 : V4.cell? ⟨g1, 3, none⟩ = some (.bool false) := (blk_cell BK1 3).trans rfl
            have z_4 : V4.cell? ⟨g1, 4, none⟩ = some (.bool false) := (blk_cell BK1 4).trans rfl
            have z_5 : V4.cell? ⟨g1, 5, none⟩ = some (.slice a5 n5 c5) := (blk_cell BK1 5).trans rfl
            have z_6 : V4.cell? ⟨g1, 6, none⟩ = some (.int .i64 0) := (blk_cell BK1 6).trans rfl
            have z_7 : V4.cell? ⟨g1, 7, none⟩ = some (.int .i64 0) := (blk_cell BK1 7).trans rfl
            have z_8 : V4.cell? ⟨g1, 8, none⟩ = some (.slice a8 0 c8) := (blk_cell BK1 8).trans rfl
            go_wp2_with fail
            refine (H_h3.out (by trivial) _ HR).mono ?_
            rintro e V6 ⟨rfl, hb⟩
            clear y0 y1 z_0 z_1 z_2 z_3 z_4 z_5 z_6 z_7 z_8
            have k_ := below_step HB hb
            clear HB
            have HB := k_
            clear k_
            have k_ := blk_below BK0 hb
            clear BK0
            have BK0 := k_
            clear k_
            have k_ := blk_below BK1 hb
            clear BK1
            have BK1 := k_
            clear k_
            have k_ := H_mR.out _ _ hb HR
            clear HR
            have HR := k_
            clear k_
            clear hb
            have y0 : V6.cell? ⟨g0, 0, none⟩ = some (.slice s0 n00 e0) := (blk_cell BK0 0).trans rfl
            have y1 : V6.cell? ⟨g0, 1, none⟩ = some (.slice s1 n01 e1) := (blk_cell BK0 1).trans rfl
            have z_0 : V6.cell? ⟨g1, 0, none⟩ = some (.slice a0 n0 c0) := (blk_cell BK1 0).trans rfl
            have z_1 : V6.cell? ⟨g1, 1, none⟩ = some (.bool z) := (blk_cell BK1 1).trans rfl
            have z_2 : V6.cell? ⟨g1, 2, none⟩ = some (.bool c) := (blk_cell BK1 2).trans rfl
            have z_3 : V6.cell? ⟨g1, 3, none⟩ = some (.bool false) := (blk_cell BK1 3).trans rfl
            have z_4 : V6.cell? ⟨g1, 4, none⟩ = some (.bool false) := (blk_cell BK1 4).trans rfl
            have z_5 : V6.cell? ⟨g1, 5, none⟩ = some (.slice a5 n5 c5) := (blk_cell BK1 5).trans rfl
            have z_6 : V6.cell? ⟨g1, 6, none⟩ = some (.int .i64 0) := (blk_cell BK1 6).trans rfl
            have z_7 : V6.cell? ⟨g1, 7, none⟩ = some (.int .i64 0) := (blk_cell BK1 7).trans rfl
            have z_8 : V6.cell? ⟨g1, 8, none⟩ = some (.slice a8 0 c8) := (blk_cell BK1 8).trans rfl
            go_wp2_with fail
            refine (H_h4.out (by trivial) (by trivial) (by trivial) _ HR).mono ?_
            rintro e V7 ⟨rfl, hb⟩
            clear y0 y1 z_0 z_1 z_2 z_3 z_4 z_5 z_6 z_7 z_8
            have k_ := below_step HB hb
            clear HB
            have HB := k_
            clear k_
            have k_ := blk_below BK0 hb
            clear BK0
            have BK0 := k_
            clear k_
            have k_ := blk_below BK1 hb
            clear BK1
            have BK1 := k_
            clear k_
            have k_ := H_mR.out _ _ hb HR
            clear HR
            have HR := k_
            clear k_
            clear hb
            go_wp2
            go_ret
            exact ⟨by rw [HG.out]; simp, HB⟩
end Go.Proofs.Ytfeglenlpnhofaa.Mine
