/- The program's Fits (function 34) out of its callees' contracts: the tests, the heaplets, the registers; nothing that was in memory changes. -/
import Derived.Test.YtfeglenlpnhofaaFitsPure
namespace Go.Proofs.Ytfeglenlpnhofaa.Mk
open Go.RowKit Go.Proofs.YtfeglenlpnhofaaW.PrintWords Go.Proofs.YtfeglenlpnhofaaW.PrintLast Go.Proofs.YtfeglenlpnhofaaW.PrintMore Go.Proofs.Ytfeglenlpnhofaa.Mine

set_option linter.unusedSimpArgs false
set_option linter.unusedVariables false
theorem sigAt {w : World} {A : Option Addr} {n : Nat} {hs : List S89} (h : Kd.C k89 w A n hs) (k : Nat) (hk : k < hs.length) : ∃ ad, A = some ad ∧ w.cell? (ad.add (k * 3)) = some (.int .i64 (hs.getD k z89).f0) ∧ w.cell? ⟨(ad.add (k * 3)).block, (ad.add (k * 3)).off + 1, none⟩ = some (.bool (hs.getD k z89).f1) ∧ w.cell? ⟨(ad.add (k * 3)).block, (ad.add (k * 3)).off + 2, none⟩ = some (.bool (hs.getD k z89).f2) := by
  have hn : k < n := by have := h.1; omega
  obtain ⟨ad, e, h0, h1, h2⟩ := at_T89 h (k : Int) (by omega) (by omega)
  rw [Int.toNat_natCast] at h0 h1 h2
  exact ⟨ad, e, h0, h1, h2⟩
theorem valAt {w : World} {A : Option Addr} {n : Nat} {rs : List S25} (h : Kd.C k25 w A n rs) (k : Nat) (hk : k < rs.length) : ∃ ad, A = some ad ∧ w.cell? (ad.add (k * 6)) = some (.int .i64 (rs.getD k z25).f0) ∧ w.cell? ⟨(ad.add (k * 6)).block, (ad.add (k * 6)).off + 1, none⟩ = some (.bool (rs.getD k z25).f1) ∧ w.cell? ⟨(ad.add (k * 6)).block, (ad.add (k * 6)).off + 2, none⟩ = some (.int .i64 (rs.getD k z25).f2) ∧ w.cell? ⟨(ad.add (k * 6)).block, (ad.add (k * 6)).off + 3, none⟩ = some (.int .i64 (rs.getD k z25).f3) ∧ w.cell? ⟨(ad.add (k * 6)).block, (ad.add (k * 6)).off + 4, none⟩ = some (.int .i64 (rs.getD k z25).f4) ∧ w.cell? ⟨(ad.add (k * 6)).block, (ad.add (k * 6)).off + 5, none⟩ = some (.int .i64 (rs.getD k z25).f5) := by
  have hn : k < n := by have := h.1; omega
  obtain ⟨ad, e, h0, h1, h2, h3, h4, h5⟩ := at_T25 h (k : Int) (by omega) (by omega)
  rw [Int.toNat_natCast] at h0 h1 h2 h3 h4 h5
  exact ⟨ad, e, h0, h1, h2, h3, h4, h5⟩
theorem regAt {w : World} {A : Option Addr} {n : Nat} {xs : List Int} (h : Kd.C (Kd.int .u64) w A n xs) (k : Nat) (hk : k < xs.length) : ∃ ad, A = some ad ∧ w.cell? (ad.add k) = some (.int .u64 (xs.getD k 0)) := by
  have hn : k < n := by have := h.1; omega
  obtain ⟨ad, e, h0⟩ := Kd.at_int h (k : Int) (by omega) (by omega)
  rw [Int.toNat_natCast] at h0
  exact ⟨ad, e, h0⟩

set_option maxRecDepth 100000 in
set_option maxHeartbeats 8000000 in
theorem impl_fits (hs : List S89) (rs : List S25) (xs : List Int) (ms : List S35) (n00 n01 n0 n5 n8 : Nat) (z c hz hc : Bool) (pc st : Int) (s0 s1 a0 a5 a8 : Option Addr) (e0 e1 c0 c5 c8 : Nat) (B1 B2 G : Bool) (R : World → Prop)
    (e00 : n00 = hs.length) (e01 : n01 = rs.length) (e0' : n0 = xs.length) (e5 : n5 = ms.length) (q00 : n00 ≤ e0) (q01 : n01 ≤ e1) (q0 : n0 ≤ c0) (q5 : n5 ≤ c5)
    (mR : ∀ w w' : World, Below w.heap.size w w' → R w → R w')
    (hK : ∀ w : World, R w → Kd.C k89 w s0 n00 hs ∧ Kd.C k25 w s1 n01 rs ∧ Kd.C (Kd.int .u64) w a0 n0 xs ∧ Kd.C k35 w a5 n5 ms)
    (hG : G = (B1 && (B2 && (decide (st = 0) && (decide (pc = 0) && (decide (n8 = 0) && (!hz && (!hc && (decide (n5 = n00) && (allFrom (eqH hs ms) n00 0 && allFrom (okR rs xs ms) n01 0))))))))))
    (h1 : ∀ w : World, R w → Calls Try.prog 21 #[.agg #[.slice s0 n00 e0, .slice s1 n01 e1]] w fun e w' => e = .returned (.bool B1) ∧ Below w.heap.size w w')
    (h2 : ∀ w : World, R w → Calls Try.prog 31 #[.agg #[.slice a0 n0 c0, .bool z, .bool c, .bool hz, .bool hc, .slice a5 n5 c5, .int .i64 pc, .int .i64 st, .slice a8 n8 c8]] w fun e w' => e = .returned (.bool B2) ∧ Below w.heap.size w w')
    (h8 : B1 = true → B2 = true → n01 = 8 ∧ n0 = 8)
    (h4 : B1 = true → B2 = true → n5 = n00 → ∀ i : Nat, i < n01 → ∀ w : World, R w → Calls Try.prog 66 #[.agg #[.int .i64 (rs.getD i z25).f0, .bool (rs.getD i z25).f1, .int .i64 (rs.getD i z25).f2, .int .i64 (rs.getD i z25).f3, .int .i64 (rs.getD i z25).f4, .int .i64 (rs.getD i z25).f5], .int .u64 (xs.getD i 0), .slice a5 n5 c5] w fun e w' => e = .returned (.bool (okR rs xs ms i)) ∧ Below w.heap.size w w')
    (w : World) (hR : R w) : Calls Try.prog 34 #[.agg #[.slice s0 n00 e0, .slice s1 n01 e1], .agg #[.slice a0 n0 c0, .bool z, .bool c, .bool hz, .bool hc, .slice a5 n5 c5, .int .i64 pc, .int .i64 st, .slice a8 n8 c8]] w fun e w' => e = .returned (.bool G) ∧ Below w.heap.size w w' := by
  have H_mR := Aside0.mk mR
  have H_hK := Aside0.mk hK
  have H_h1 := Aside0.mk h1
  have H_h2 := Aside0.mk h2
  have H_h8 := Aside0.mk h8
  have H_h4 := Aside0.mk h4
  have H_e00 := Aside0.mk e00
  have H_e01 := Aside0.mk e01
  have H_e0' := Aside0.mk e0'
  have H_e5 := Aside0.mk e5
  have HG := Aside0.mk hG
  have hM : n00 ≤ 9223372036854775807 ∧ n01 ≤ 9223372036854775807 ∧ n0 ≤ 9223372036854775807 ∧ n5 ≤ 9223372036854775807 := ⟨(hK w hR).1.2.1, (hK w hR).2.1.2.1, (hK w hR).2.2.1.2.1, (hK w hR).2.2.2.2.1⟩
  obtain ⟨hM00, hM01, hM0, hM5⟩ := hM
  clear mR hK h1 h2 h8 h4 hG e00 e01 e0' e5
  have HB := Below.refl w.heap.size w
  go_enter Try.func34, Try.ntmps34
  go_upto_region 1 with (first | ((with_reducible refine gate_dst (N := 2) rfl ?_); refine box_event ?hg (N := 2) ?hd (cs := #[.slice s0 n00 e0, .slice s1 n01 e1]) (t := 53) ?hr ?_; (case hd => rfl); (case hg => rfl); (case hr => first | (go_simp; done) | (go_simp; rfl)); intro g0 hg W0 hbox hb; have kb_ := below_step HB hb; clear HB; have HB := kb_; clear kb_ hb hg; have BK0 := hbox; clear hbox) | ((with_reducible refine gate_dst (N := 3) rfl ?_); refine box_event ?hg (N := 3) ?hd (cs := #[.slice a0 n0 c0, .bool z, .bool c, .bool hz, .bool hc, .slice a5 n5 c5, .int .i64 pc, .int .i64 st, .slice a8 n8 c8]) (t := 40) ?hr ?_; (case hd => rfl); (case hg => rfl); (case hr => first | (go_simp; done) | (go_simp; rfl)); intro g1 hg W1 hbox hb; have k0_ := blk_below BK0 hb; clear BK0; have BK0 := k0_; clear k0_; have kb_ := below_step HB hb; clear HB; have HB := kb_; clear kb_ hb hg; have BK1 := hbox; clear hbox))
  have HR := H_mR.out _ _ HB hR
  clear hR
  cases B1 with
  | false =>
    have y0 : W1.cell? ⟨g0, 0, none⟩ = some (.slice s0 n00 e0) := (blk_cell BK0 0).trans rfl
    have y1 : W1.cell? ⟨g0, 1, none⟩ = some (.slice s1 n01 e1) := (blk_cell BK0 1).trans rfl
    go_wp2_with fail
    refine (H_h1.out _ HR).mono ?_
    rintro e V1 ⟨rfl, hb⟩
    clear y0 y1
    have k_ := below_step HB hb
    clear HB
    have HB := k_
    clear k_
    have k_ := blk_below BK0 hb
    clear BK0
    have BK0 := k_
    clear k_
    have k_ := blk_below BK1 hb
    clear BK1
    have BK1 := k_
    clear k_
    have k_ := H_mR.out _ _ hb HR
    clear HR
    have HR := k_
    clear k_
    clear hb
    go_wp2
    go_ret
    exact ⟨by rw [HG.out]; simp, HB⟩
  | true =>
    have y0 : W1.cell? ⟨g0, 0, none⟩ = some (.slice s0 n00 e0) := (blk_cell BK0 0).trans rfl
    have y1 : W1.cell? ⟨g0, 1, none⟩ = some (.slice s1 n01 e1) := (blk_cell BK0 1).trans rfl
    go_wp2_with fail
    refine (H_h1.out _ HR).mono ?_
    rintro e V2 ⟨rfl, hb⟩
    clear y0 y1
    have k_ := below_step HB hb
    clear HB
    have HB := k_
    clear k_
    have k_ := blk_below BK0 hb
    clear BK0
    have BK0 := k_
    clear k_
    have k_ := blk_below BK1 hb
    clear BK1
    have BK1 := k_
    clear k_
    have k_ := H_mR.out _ _ hb HR
    clear HR
    have HR := k_
    clear k_
    clear hb
    cases B2 with
    | false =>
      have z_0 : V2.cell? ⟨g1, 0, none⟩ = some (.slice a0 n0 c0) := (blk_cell BK1 0).trans rfl
      have z_1 : V2.cell? ⟨g1, 1, none⟩ = some (.bool z) := (blk_cell BK1 1).trans rfl
      have z_2 : V2.cell? ⟨g1, 2, none⟩ = some (.bool c) := (blk_cell BK1 2).trans rfl
      have z_3 : V2.cell? ⟨g1, 3, none⟩ = some (.bool hz) := (blk_cell BK1 3).trans rfl
      have z_4 : V2.cell? ⟨g1, 4, none⟩ = some (.bool hc) := (blk_cell BK1 4).trans rfl
      have z_5 : V2.cell? ⟨g1, 5, none⟩ = some (.slice a5 n5 c5) := (blk_cell BK1 5).trans rfl
      have z_6 : V2.cell? ⟨g1, 6, none⟩ = some (.int .i64 pc) := (blk_cell BK1 6).trans rfl
      have z_7 : V2.cell? ⟨g1, 7, none⟩ = some (.int .i64 st) := (blk_cell BK1 7).trans rfl
      have z_8 : V2.cell? ⟨g1, 8, none⟩ = some (.slice a8 n8 c8) := (blk_cell BK1 8).trans rfl
      go_wp2_with fail
      refine (H_h2.out _ HR).mono ?_
      rintro e V3 ⟨rfl, hb⟩
      clear z_0 z_1 z_2 z_3 z_4 z_5 z_6 z_7 z_8
      have k_ := below_step HB hb
      clear HB
      have HB := k_
      clear k_
      have k_ := blk_below BK0 hb
      clear BK0
      have BK0 := k_
      clear k_
      have k_ := blk_below BK1 hb
      clear BK1
      have BK1 := k_
      clear k_
      have k_ := H_mR.out _ _ hb HR
      clear HR
      have HR := k_
      clear k_
      clear hb
      go_wp2
      go_ret
      exact ⟨by rw [HG.out]; simp, HB⟩
    | true =>
      have z_0 : V2.cell? ⟨g1, 0, none⟩ = some (.slice a0 n0 c0) := (blk_cell BK1 0).trans rfl
      have z_1 : V2.cell? ⟨g1, 1, none⟩ = some (.bool z) := (blk_cell BK1 1).trans rfl
      have z_2 : V2.cell? ⟨g1, 2, none⟩ = some (.bool c) := (blk_cell BK1 2).trans rfl
      have z_3 : V2.cell? ⟨g1, 3, none⟩ = some (.bool hz) := (blk_cell BK1 3).trans rfl
      have z_4 : V2.cell? ⟨g1, 4, none⟩ = some (.bool hc) := (blk_cell BK1 4).trans rfl
      have z_5 : V2.cell? ⟨g1, 5, none⟩ = some (.slice a5 n5 c5) := (blk_cell BK1 5).trans rfl
      have z_6 : V2.cell? ⟨g1, 6, none⟩ = some (.int .i64 pc) := (blk_cell BK1 6).trans rfl
      have z_7 : V2.cell? ⟨g1, 7, none⟩ = some (.int .i64 st) := (blk_cell BK1 7).trans rfl
      have z_8 : V2.cell? ⟨g1, 8, none⟩ = some (.slice a8 n8 c8) := (blk_cell BK1 8).trans rfl
      go_wp2_with fail
      refine (H_h2.out _ HR).mono ?_
      rintro e V4 ⟨rfl, hb⟩
      clear z_0 z_1 z_2 z_3 z_4 z_5 z_6 z_7 z_8
      have k_ := below_step HB hb
      clear HB
      have HB := k_
      clear k_
      have k_ := blk_below BK0 hb
      clear BK0
      have BK0 := k_
      clear k_
      have k_ := blk_below BK1 hb
      clear BK1
      have BK1 := k_
      clear k_
      have k_ := H_mR.out _ _ hb HR
      clear HR
      have HR := k_
      clear k_
      clear hb
      by_cases q : st = 0
      rotate_left
      · have q1 : (st != 0) = true := by simp [q]
        have q2 : decide (st = 0) = false := by simp [q]
        have z_0 : V4.cell? ⟨g1, 0, none⟩ = some (.slice a0 n0 c0) := (blk_cell BK1 0).trans rfl
        have z_1 : V4.cell? ⟨g1, 1, none⟩ = some (.bool z) := (blk_cell BK1 1).trans rfl
        have z_2 : V4.cell? ⟨g1, 2, none⟩ = some (.bool c) := (blk_cell BK1 2).trans rfl
        have z_3 : V4.cell? ⟨g1, 3, none⟩ = some (.bool hz) := (blk_cell BK1 3).trans rfl
        have z_4 : V4.cell? ⟨g1, 4, none⟩ = some (.bool hc) := (blk_cell BK1 4).trans rfl
        have z_5 : V4.cell? ⟨g1, 5, none⟩ = some (.slice a5 n5 c5) := (blk_cell BK1 5).trans rfl
        have z_6 : V4.cell? ⟨g1, 6, none⟩ = some (.int .i64 pc) := (blk_cell BK1 6).trans rfl
        have z_7 : V4.cell? ⟨g1, 7, none⟩ = some (.int .i64 st) := (blk_cell BK1 7).trans rfl
        have z_8 : V4.cell? ⟨g1, 8, none⟩ = some (.slice a8 n8 c8) := (blk_cell BK1 8).trans rfl
        go_wp2
        go_ret
        exact ⟨by rw [HG.out]; simp [q2], HB⟩
      subst q
      by_cases q : pc = 0
      rotate_left
      · have q1 : (pc != 0) = true := by simp [q]
        have q2 : decide (pc = 0) = false := by simp [q]
        have z_0 : V4.cell? ⟨g1, 0, none⟩ = some (.slice a0 n0 c0) := (blk_cell BK1 0).trans rfl
        have z_1 : V4.cell? ⟨g1, 1, none⟩ = some (.bool z) := (blk_cell BK1 1).trans rfl
        have z_2 : V4.cell? ⟨g1, 2, none⟩ = some (.bool c) := (blk_cell BK1 2).trans rfl
        have z_3 : V4.cell? ⟨g1, 3, none⟩ = some (.bool hz) := (blk_cell BK1 3).trans rfl
        have z_4 : V4.cell? ⟨g1, 4, none⟩ = some (.bool hc) := (blk_cell BK1 4).trans rfl
        have z_5 : V4.cell? ⟨g1, 5, none⟩ = some (.slice a5 n5 c5) := (blk_cell BK1 5).trans rfl
        have z_6 : V4.cell? ⟨g1, 6, none⟩ = some (.int .i64 pc) := (blk_cell BK1 6).trans rfl
        have z_7 : V4.cell? ⟨g1, 7, none⟩ = some (.int .i64 0) := (blk_cell BK1 7).trans rfl
        have z_8 : V4.cell? ⟨g1, 8, none⟩ = some (.slice a8 n8 c8) := (blk_cell BK1 8).trans rfl
        go_wp2
        go_ret
        exact ⟨by rw [HG.out]; simp [q2], HB⟩
      subst q
      by_cases q : n8 = 0
      rotate_left
      · have q1 : decide ((0 : Int) < (n8 : Int)) = true := by simp; omega
        have q2 : decide (n8 = 0) = false := by simp [q]
        have z_0 : V4.cell? ⟨g1, 0, none⟩ = some (.slice a0 n0 c0) := (blk_cell BK1 0).trans rfl
        have z_1 : V4.cell? ⟨g1, 1, none⟩ = some (.bool z) := (blk_cell BK1 1).trans rfl
        have z_2 : V4.cell? ⟨g1, 2, none⟩ = some (.bool c) := (blk_cell BK1 2).trans rfl
        have z_3 : V4.cell? ⟨g1, 3, none⟩ = some (.bool hz) := (blk_cell BK1 3).trans rfl
        have z_4 : V4.cell? ⟨g1, 4, none⟩ = some (.bool hc) := (blk_cell BK1 4).trans rfl
        have z_5 : V4.cell? ⟨g1, 5, none⟩ = some (.slice a5 n5 c5) := (blk_cell BK1 5).trans rfl
        have z_6 : V4.cell? ⟨g1, 6, none⟩ = some (.int .i64 0) := (blk_cell BK1 6).trans rfl
        have z_7 : V4.cell? ⟨g1, 7, none⟩ = some (.int .i64 0) := (blk_cell BK1 7).trans rfl
        have z_8 : V4.cell? ⟨g1, 8, none⟩ = some (.slice a8 n8 c8) := (blk_cell BK1 8).trans rfl
        go_wp2
        go_ret
        exact ⟨by rw [HG.out]; simp [q2], HB⟩
      subst q
      cases hz with
      | true =>
        have z_0 : V4.cell? ⟨g1, 0, none⟩ = some (.slice a0 n0 c0) := (blk_cell BK1 0).trans rfl
        have z_1 : V4.cell? ⟨g1, 1, none⟩ = some (.bool z) := (blk_cell BK1 1).trans rfl
        have z_2 : V4.cell? ⟨g1, 2, none⟩ = some (.bool c) := (blk_cell BK1 2).trans rfl
        have z_3 : V4.cell? ⟨g1, 3, none⟩ = some (.bool true) := (blk_cell BK1 3).trans rfl
        have z_4 : V4.cell? ⟨g1, 4, none⟩ = some (.bool hc) := (blk_cell BK1 4).trans rfl
        have z_5 : V4.cell? ⟨g1, 5, none⟩ = some (.slice a5 n5 c5) := (blk_cell BK1 5).trans rfl
        have z_6 : V4.cell? ⟨g1, 6, none⟩ = some (.int .i64 0) := (blk_cell BK1 6).trans rfl
        have z_7 : V4.cell? ⟨g1, 7, none⟩ = some (.int .i64 0) := (blk_cell BK1 7).trans rfl
        have z_8 : V4.cell? ⟨g1, 8, none⟩ = some (.slice a8 0 c8) := (blk_cell BK1 8).trans rfl
        go_wp2
        go_ret
        exact ⟨by rw [HG.out]; simp, HB⟩
      | false =>
        cases hc with
        | true =>
          have z_0 : V4.cell? ⟨g1, 0, none⟩ = some (.slice a0 n0 c0) := (blk_cell BK1 0).trans rfl
          have z_1 : V4.cell? ⟨g1, 1, none⟩ = some (.bool z) := (blk_cell BK1 1).trans rfl
          have z_2 : V4.cell? ⟨g1, 2, none⟩ = some (.bool c) := (blk_cell BK1 2).trans rfl
          have z_3 : V4.cell? ⟨g1, 3, none⟩ = some (.bool false) := (blk_cell BK1 3).trans rfl
          have z_4 : V4.cell? ⟨g1, 4, none⟩ = some (.bool true) := (blk_cell BK1 4).trans rfl
          have z_5 : V4.cell? ⟨g1, 5, none⟩ = some (.slice a5 n5 c5) := (blk_cell BK1 5).trans rfl
          have z_6 : V4.cell? ⟨g1, 6, none⟩ = some (.int .i64 0) := (blk_cell BK1 6).trans rfl
          have z_7 : V4.cell? ⟨g1, 7, none⟩ = some (.int .i64 0) := (blk_cell BK1 7).trans rfl
          have z_8 : V4.cell? ⟨g1, 8, none⟩ = some (.slice a8 0 c8) := (blk_cell BK1 8).trans rfl
          go_wp2
          go_ret
          exact ⟨by rw [HG.out]; simp, HB⟩
        | false =>
          by_cases q : n5 = n00
          rotate_left
          · have q1 : ((n5 : Int) != (n00 : Int)) = true := by simp; omega
            have q2 : decide (n5 = n00) = false := by simp [q]
            have y0 : V4.cell? ⟨g0, 0, none⟩ = some (.slice s0 n00 e0) := (blk_cell BK0 0).trans rfl
            have y1 : V4.cell? ⟨g0, 1, none⟩ = some (.slice s1 n01 e1) := (blk_cell BK0 1).trans rfl
            have z_0 : V4.cell? ⟨g1, 0, none⟩ = some (.slice a0 n0 c0) := (blk_cell BK1 0).trans rfl
            have z_1 : V4.cell? ⟨g1, 1, none⟩ = some (.bool z) := (blk_cell BK1 1).trans rfl
            have z_2 : V4.cell? ⟨g1, 2, none⟩ = some (.bool c) := (blk_cell BK1 2).trans rfl
            have z_3 : V4.cell? ⟨g1, 3, none⟩ = some (.bool false) := (blk_cell BK1 3).trans rfl
            have z_4 : V4.cell? ⟨g1, 4, none⟩ = some (.bool false) := (blk_cell BK1 4).trans rfl
            have z_5 : V4.cell? ⟨g1, 5, none⟩ = some (.slice a5 n5 c5) := (blk_cell BK1 5).trans rfl
            have z_6 : V4.cell? ⟨g1, 6, none⟩ = some (.int .i64 0) := (blk_cell BK1 6).trans rfl
            have z_7 : V4.cell? ⟨g1, 7, none⟩ = some (.int .i64 0) := (blk_cell BK1 7).trans rfl
            have z_8 : V4.cell? ⟨g1, 8, none⟩ = some (.slice a8 0 c8) := (blk_cell BK1 8).trans rfl
            go_wp2
            go_ret
            exact ⟨by rw [HG.out]; simp [q2], HB⟩
          subst q
          have HG2 := Aside0.mk (show G = (allFrom (eqH hs ms) n5 0 && allFrom (okR rs xs ms) n01 0) by rw [HG.out]; simp)
          clear HG
          have H_h8' := Aside0.mk (H_h8.out (by trivial) (by trivial))
          have H_h4' := Aside0.mk (H_h4.out (by trivial) (by trivial) (by trivial))
          clear H_h8 H_h4 H_h1 H_h2
          have y0 : V4.cell? ⟨g0, 0, none⟩ = some (.slice s0 n5 e0) := (blk_cell BK0 0).trans rfl
          have y1 : V4.cell? ⟨g0, 1, none⟩ = some (.slice s1 n01 e1) := (blk_cell BK0 1).trans rfl
          have z_0 : V4.cell? ⟨g1, 0, none⟩ = some (.slice a0 n0 c0) := (blk_cell BK1 0).trans rfl
          have z_1 : V4.cell? ⟨g1, 1, none⟩ = some (.bool z) := (blk_cell BK1 1).trans rfl
          have z_2 : V4.cell? ⟨g1, 2, none⟩ = some (.bool c) := (blk_cell BK1 2).trans rfl
          have z_3 : V4.cell? ⟨g1, 3, none⟩ = some (.bool false) := (blk_cell BK1 3).trans rfl
          have z_4 : V4.cell? ⟨g1, 4, none⟩ = some (.bool false) := (blk_cell BK1 4).trans rfl
          have z_5 : V4.cell? ⟨g1, 5, none⟩ = some (.slice a5 n5 c5) := (blk_cell BK1 5).trans rfl
          have z_6 : V4.cell? ⟨g1, 6, none⟩ = some (.int .i64 0) := (blk_cell BK1 6).trans rfl
          have z_7 : V4.cell? ⟨g1, 7, none⟩ = some (.int .i64 0) := (blk_cell BK1 7).trans rfl
          have z_8 : V4.cell? ⟨g1, 8, none⟩ = some (.slice a8 0 c8) := (blk_cell BK1 8).trans rfl
          go_wp2_with fail
          clear y0 y1 z_0 z_1 z_2 z_3 z_4 z_5 z_6 z_7 z_8
          have HBa := Aside0.mk HB
          have BKa := Aside0.mk BK0
          have BKb := Aside0.mk BK1
          have HRa := Aside0.mk HR
          clear HB BK0 BK1 HR
          go_loopg [53] n5 (fun q v53 wr => ∃ k : Nat, v53 = .int .i64 k ∧ Aside0 (k + q = n5) ∧ Aside0 (allFrom (eqH hs ms) n5 0 = allFrom (eqH hs ms) n5 k) ∧ Aside0 (Below V4.heap.size V4 wr))
          case atStart => exact ⟨0, rfl, ⟨by omega⟩, ⟨rfl⟩, ⟨Below.refl _ _⟩⟩
          case round =>
            obtain ⟨k, rfl, hk, HP, HV⟩ := hrel
            by_cases hlt : k < n5
            · have hlt' : (k : Int) < (n5 : Int) := by omega
              have hRr := H_mR.out _ _ HV.out HRa.out
              obtain ⟨ad, ead, y0, y1, y2⟩ := sigAt (H_hK.out _ hRr).1 k (by have := H_e00.out; omega)
              cases ead
              obtain ⟨u, hu⟩ : ∃ u, u = hs.getD k z89 := ⟨_, rfl⟩
              rw [← hu] at y0 y1 y2
              have HU := Aside0.mk hu
              have HRr := Aside0.mk hRr
              clear hu hRr
              go_upto_region 6 with fail
              obtain ⟨V4, hWW⟩ : ∃ q : World, q = wr.alloc (.cells #[.int .i64 u.f0, .bool u.f1, .bool u.f2] 89) := ⟨_, rfl⟩
              have hb4 : Below wr.heap.size wr V4 := by rw [hWW]; exact below_alloc (Below.refl _ _) _
              have BK4 := Aside0.mk (show V4.heap[wr.heap.size]? = some (.cells #[.int .i64 u.f0, .bool u.f1, .bool u.f2] 89 (0, 0)) by rw [hWW]; exact blk_new _ _)
              rw [← hWW]
              clear hWW
              obtain ⟨g4, hg4⟩ : ∃ g, g = wr.heap.size := ⟨_, rfl⟩
              rw [← hg4] at BK4 ⊢
              clear hg4 y0 y1 y2
              have HV4 := Aside0.mk (below_step HV.out hb4)
              have hR4 := H_mR.out _ _ hb4 HRr.out
              obtain ⟨ad2, A2, c2, ead, x0, x1, x2, l2, r2⟩ := heapAt (H_hK.out _ hR4).2.2.2 k (by have := H_e5.out; omega)
              cases ead
              obtain ⟨y, hy⟩ : ∃ y, y = ms.getD k z35 := ⟨_, rfl⟩
              unfold hAt at x0 x1 x2 l2 r2
              rw [← hy] at x0 x1 x2 l2 r2
              obtain ⟨m, hm⟩ : ∃ m : Nat, m = y.f2.length := ⟨_, rfl⟩
              rw [← hm] at x2
              have hm63 : m ≤ 9223372036854775807 := hm ▸ r2.2.1
              have HQ := Aside0.mk (show eqH hs ms k = (decide (u.f0 = (m : Int)) && (u.f2 == y.f1)) by unfold eqH; rw [← HU.out, ← hy, hm])
              clear hm hy l2 r2 HV hb4 HRr hR4 x0
              have y0 : V4.cell? ⟨g4, 0, none⟩ = some (.int .i64 u.f0) := (blk_cell BK4.out 0).trans rfl
              have y2 : V4.cell? ⟨g4, 2, none⟩ = some (.bool u.f2) := (blk_cell BK4.out 2).trans rfl
              have z_5 : V4.cell? ⟨g1, 5, none⟩ = some (.slice (some ad2) n5 c5) := (blk_cell (blk_below BKb.out HV4.out) 5).trans rfl
              have HW := Below.refl V4.heap.size V4
              go_cut [78] (fun s78 wx => s78 = .bool (!eqH hs ms k) ∧ Below V4.heap.size V4 wx)
              case first =>
                by_cases q : u.f0 = (m : Int)
                · have q1 : ((m : Int) != u.f0) = false := by simp [q]
                  have q3 : decide (u.f0 = (m : Int)) = true := by simp [q]
                  clear q
                  go_quiet (fail)
                  go_wp2_with fail
                  go_meet
                  exact ⟨by rw [HQ.out, q3]; cases u.f2 <;> cases y.f1 <;> rfl, by exact pw_below_drewN (Below.refl _ _) _⟩
                · have q1 : ((m : Int) != u.f0) = true := by simp; omega
                  have q3 : decide (u.f0 = (m : Int)) = false := by simp [q]
                  clear q
                  go_quiet (fail)
                  go_wp2_with fail
                  go_meet
                  exact ⟨by rw [HQ.out, q3]; rfl, by exact pw_below_drewN (Below.refl _ _) _⟩
              case rest =>
                obtain ⟨rfl, hb⟩ := hcut
                obtain ⟨V5, hW⟩ : ∃ x : World, x = wc := ⟨_, rfl⟩
                rw [← hW] at hb ⊢
                clear hW HW
                have HV5 := Aside0.mk (below_step HV4.out hb)
                clear hb HV4 y0 y2 z_5 x1 x2
                cases ho : eqH hs ms k with
                | false =>
                  have hg : G = false := fail_of HG2.out HP.out hlt ho
                  subst hg
                  clear ho HG2 HP HQ
                  go_wp2
                  go_ret
                  exact ⟨rfl, below_step HBa.out HV5.out⟩
                | true =>
                  have HP2 := Aside0.mk (show allFrom (eqH hs ms) n5 0 = allFrom (eqH hs ms) n5 (k + 1) by rw [HP.out, allFrom_step hlt, ho, Bool.true_and])
                  clear ho HP HQ
                  go_wp2
                  go_roundg (n5 - (k + 1))
                  case measure => have := hk.out; omega
                  case rel => exact ⟨k + 1, by go_num, ⟨by omega⟩, HP2, HV5⟩
            · have hge : ¬ ((k : Int) < (n5 : Int)) := by omega
              have hP : allFrom (eqH hs ms) n5 0 = true := by rw [HP.out, show k = n5 by have := hk.out; omega, allFrom_end]
              have HG3 := Aside0.mk (show G = (allFrom (okR rs xs ms) n01 0 && true) by rw [HG2.out, hP, Bool.true_and, Bool.and_true])
              clear hP HP HG2
              have hb := HV.out
              obtain ⟨W5, hW⟩ : ∃ x : World, x = wr := ⟨_, rfl⟩
              rw [← hW] at hb ⊢
              have HBc := Aside0.mk (below_step HBa.out hb)
              have BKc := Aside0.mk (blk_below BKa.out hb)
              have BKd := Aside0.mk (blk_below BKb.out hb)
              have HRc := Aside0.mk (H_mR.out _ _ hb HRa.out)
              clear hb HV HBa BKa BKb HRa hW
              have y1 : W5.cell? ⟨g0, 1, none⟩ = some (.slice s1 n01 e1) := (blk_cell BKc.out 1).trans rfl
              go_wp2_with fail
              clear y1
              go_loopg [83] n01 (fun q v83 wr => ∃ j : Nat, v83 = .int .i64 j ∧ Aside0 (j + q = n01) ∧ Aside0 (allFrom (okR rs xs ms) n01 0 = allFrom (okR rs xs ms) n01 j) ∧ Aside0 (Below W5.heap.size W5 wr))
              case atStart => exact ⟨0, rfl, ⟨by omega⟩, ⟨rfl⟩, ⟨Below.refl _ _⟩⟩
              case round =>
                obtain ⟨j, rfl, hj, HP, HV⟩ := hrel
                by_cases hjt : j < n01
                · have hjt' : (j : Int) < (n01 : Int) := by omega
                  have hRr := H_mR.out _ _ HV.out HRc.out
                  obtain ⟨ad, ead, y0, y1, y2, y3, y4, y5⟩ := valAt (H_hK.out _ hRr).2.1 j (by have := H_e01.out; omega)
                  cases ead
                  have hS := H_h4'.out j hjt
                  have hok : okR rs xs ms j = holdsV (rs.getD j z25) (xs.getD j 0) ms := rfl
                  obtain ⟨u, hu⟩ : ∃ u, u = rs.getD j z25 := ⟨_, rfl⟩
                  obtain ⟨b, hb_⟩ : ∃ b, b = okR rs xs ms j := ⟨_, rfl⟩
                  rw [← hu] at y0 y1 y2 y3 y4 y5 hS
                  rw [← hb_] at hS
                  have HRr := Aside0.mk hRr
                  have HO := Aside0.mk hb_
                  clear hu hRr hok hb_
                  go_upto_region 12 with fail
                  obtain ⟨V4, hWW⟩ : ∃ q : World, q = wr.alloc (.cells #[.int .i64 u.f0, .bool u.f1, .int .i64 u.f2, .int .i64 u.f3, .int .i64 u.f4, .int .i64 u.f5] 25) := ⟨_, rfl⟩
                  have hb4 : Below wr.heap.size wr V4 := by rw [hWW]; exact below_alloc (Below.refl _ _) _
                  have BK4 := Aside0.mk (show V4.heap[wr.heap.size]? = some (.cells #[.int .i64 u.f0, .bool u.f1, .int .i64 u.f2, .int .i64 u.f3, .int .i64 u.f4, .int .i64 u.f5] 25 (0, 0)) by rw [hWW]; exact blk_new _ _)
                  rw [← hWW]
                  clear hWW
                  obtain ⟨g4, hg4⟩ : ∃ g, g = wr.heap.size := ⟨_, rfl⟩
                  rw [← hg4] at BK4 ⊢
                  clear hg4 y0 y1 y2 y3 y4 y5
                  have HV4 := Aside0.mk (below_step HV.out hb4)
                  have hR4 := H_mR.out _ _ hb4 HRr.out
                  obtain ⟨ad2, ead, x0⟩ := regAt (H_hK.out _ hR4).2.2.1 j (by have := H_e0'.out; have := H_h8'.out; omega)
                  cases ead
                  have hj0 : (j : Int) < (n0 : Int) := by have := H_h8'.out; omega
                  obtain ⟨x, hx⟩ : ∃ x, x = xs.getD j 0 := ⟨_, rfl⟩
                  rw [← hx] at x0 hS
                  clear hx
                  have HS := Aside0.mk hS
                  have HR4 := Aside0.mk hR4
                  clear hS hR4 HRr hb4 HV
                  have BK1 := Aside0.mk (blk_below BKd.out HV4.out)
                  have HX := Aside0.mk x0
                  clear x0
                  have HW := Below.refl V4.heap.size V4
                  have HK : ∀ w1 : World, Below V4.heap.size V4 w1 → w1.cell? ⟨g4, 0, none⟩ = some (.int .i64 u.f0) ∧ w1.cell? ⟨g4, 1, none⟩ = some (.bool u.f1) ∧ w1.cell? ⟨g4, 2, none⟩ = some (.int .i64 u.f2) ∧ w1.cell? ⟨g4, 3, none⟩ = some (.int .i64 u.f3) ∧ w1.cell? ⟨g4, 4, none⟩ = some (.int .i64 u.f4) ∧ w1.cell? ⟨g4, 5, none⟩ = some (.int .i64 u.f5) ∧ w1.cell? ⟨g1, 0, none⟩ = some (.slice (some ad2) n0 c0) ∧ w1.cell? ⟨g1, 5, none⟩ = some (.slice a5 n5 c5) ∧ w1.cell? (ad2.add j) = some (.int .u64 x) ∧ Below V4.heap.size V4 w1 := fun w1 hb => ⟨(blk_cell (blk_below BK4.out hb) 0).trans rfl, (blk_cell (blk_below BK4.out hb) 1).trans rfl, (blk_cell (blk_below BK4.out hb) 2).trans rfl, (blk_cell (blk_below BK4.out hb) 3).trans rfl, (blk_cell (blk_below BK4.out hb) 4).trans rfl, (blk_cell (blk_below BK4.out hb) 5).trans rfl, (blk_cell (blk_below BK1.out hb) 0).trans rfl, (blk_cell (blk_below BK1.out hb) 5).trans rfl, keepC' HX.out hb, hb⟩
                  have HK := Aside0.mk HK
                  go_cut [97] (fun s97 wx => s97 = .bool (!b) ∧ Below V4.heap.size V4 wx)
                  case first =>
                    go_region_held3 (fun w1 => w1.cell? ⟨g4, 0, none⟩ = some (.int .i64 u.f0) ∧ w1.cell? ⟨g4, 1, none⟩ = some (.bool u.f1) ∧ w1.cell? ⟨g4, 2, none⟩ = some (.int .i64 u.f2) ∧ w1.cell? ⟨g4, 3, none⟩ = some (.int .i64 u.f3) ∧ w1.cell? ⟨g4, 4, none⟩ = some (.int .i64 u.f4) ∧ w1.cell? ⟨g4, 5, none⟩ = some (.int .i64 u.f5) ∧ w1.cell? ⟨g1, 0, none⟩ = some (.slice (some ad2) n0 c0) ∧ w1.cell? ⟨g1, 5, none⟩ = some (.slice a5 n5 c5) ∧ w1.cell? (ad2.add j) = some (.int .u64 x) ∧ Below V4.heap.size V4 w1) (((with_reducible refine HK.out _ ?_); (repeat (with_reducible first | assumption | apply below_drew1 | apply below_alloc))))
                      (first | (go_at_call 66; refine (HS.out _ (H_mR.out _ _ (by (repeat (with_reducible first | assumption | apply below_drew1 | apply below_alloc))) HR4.out)).mono ?_; rintro e w' ⟨rfl, hb⟩; have HBk : Below V4.heap.size V4 w' := below_step (by (repeat (with_reducible first | assumption | apply below_drew1 | apply below_alloc))) hb))
                    all_goals
                      go_wp2_with fail
                      go_meet
                      exact ⟨rfl, by with_reducible assumption⟩
                  case rest =>
                    obtain ⟨rfl, hb⟩ := hcut
                    obtain ⟨V5, hW⟩ : ∃ x : World, x = wc := ⟨_, rfl⟩
                    rw [← hW] at hb ⊢
                    clear hW HW HK
                    have HV5 := Aside0.mk (below_step HV4.out hb)
                    clear hb HV4
                    cases b with
                    | false =>
                      have hg : G = false := fail_of HG3.out HP.out hjt HO.out.symm
                      subst hg
                      clear HG3 HP HO
                      go_wp2
                      go_ret
                      exact ⟨rfl, below_step HBc.out HV5.out⟩
                    | true =>
                      have HP2 := Aside0.mk (show allFrom (okR rs xs ms) n01 0 = allFrom (okR rs xs ms) n01 (j + 1) by rw [HP.out, allFrom_step hjt, ← HO.out, Bool.true_and])
                      clear HP HO
                      go_wp2
                      go_roundg (n01 - (j + 1))
                      case measure => have := hj.out; omega
                      case rel => exact ⟨j + 1, by go_num, ⟨by omega⟩, HP2, HV5⟩
                · have hge : ¬ ((j : Int) < (n01 : Int)) := by omega
                  have hg : G = true := by rw [HG3.out, HP.out, show j = n01 by have := hj.out; omega, allFrom_end]; rfl
                  subst hg
                  clear HG3 HP
                  go_wp2
                  go_ret
                  exact ⟨rfl, below_step HBc.out HV.out⟩
end Go.Proofs.Ytfeglenlpnhofaa.Mk
