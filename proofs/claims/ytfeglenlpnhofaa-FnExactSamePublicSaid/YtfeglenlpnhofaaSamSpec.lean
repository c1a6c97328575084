/- The specification's SamePublic (function 35) out of Fits and the readings of its lists; nothing that was in memory changes. -/
import Derived.Test.YtfeglenlpnhofaaSamPure
namespace Go.Proofs.Ytfeglenlpnhofaa.Mk
open Go.RowKit Go.Proofs.YtfeglenlpnhofaaW.PrintWords Go.Proofs.YtfeglenlpnhofaaW.PrintLast Go.Proofs.YtfeglenlpnhofaaW.PrintMore Go.Proofs.Ytfeglenlpnhofaa.Mine

set_option linter.unusedSimpArgs false
set_option linter.unusedVariables false
set_option maxRecDepth 100000 in
set_option maxHeartbeats 8000000 in
theorem sam_spec (hs : List S89) (rs : List S25) (xs ys : List Int) (ms ns : List S35) (n00 n01 n0 n5 n8 m0 m5 m8 : Nat) (z c hz hc z' c' hz' hc' : Bool) (pc st pc' st' : Int) (s0 s1 a0 a5 a8 b0 b5 b8 : Option Addr) (e0 e1 c0 c5 c8 d0 d5 d8 : Nat) (B1 B2 G : Bool) (R : World → Prop)
    (e00 : n00 = hs.length) (e01 : n01 = rs.length) (f0 : n0 = xs.length) (f5 : n5 = ms.length) (g0' : m0 = ys.length) (g5' : m5 = ns.length) (q00 : n00 ≤ e0) (q01 : n01 ≤ e1) (q0 : n0 ≤ c0) (q5 : n5 ≤ c5) (r0 : m0 ≤ d0) (r5 : m5 ≤ d5)
    (mR : ∀ w w' : World, Below w.heap.size w w' → R w → R w')
    (hK : ∀ w : World, R w → Kd.C k89 w s0 n00 hs ∧ Kd.C k25 w s1 n01 rs ∧ Kd.C (Kd.int .u64) w a0 n0 xs ∧ Kd.C k35 w a5 n5 ms ∧ Kd.C (Kd.int .u64) w b0 m0 ys ∧ Kd.C k35 w b5 m5 ns)
    (hG : G = (B1 && (B2 && (allFrom (regEq rs xs ys) 8 0 && allFrom (heapEq hs ms ns) n00 0))))
    (h1 : ∀ w : World, R w → Calls Try.prog 33 #[.agg #[.slice s0 n00 e0, .slice s1 n01 e1], .agg #[.slice a0 n0 c0, .bool z, .bool c, .bool hz, .bool hc, .slice a5 n5 c5, .int .i64 pc, .int .i64 st, .slice a8 n8 c8]] w fun e w' => e = .returned (.bool B1) ∧ Below w.heap.size w w')
    (h2 : ∀ w : World, R w → Calls Try.prog 33 #[.agg #[.slice s0 n00 e0, .slice s1 n01 e1], .agg #[.slice b0 m0 d0, .bool z', .bool c', .bool hz', .bool hc', .slice b5 m5 d5, .int .i64 pc', .int .i64 st', .slice b8 m8 d8]] w fun e w' => e = .returned (.bool B2) ∧ Below w.heap.size w w')
    (hL : B1 = true → B2 = true → n01 = 8 ∧ n0 = 8 ∧ m0 = 8 ∧ n5 = n00 ∧ m5 = n00)
    (w : World) (hR : R w) : Calls Try.prog 35 #[.agg #[.slice s0 n00 e0, .slice s1 n01 e1], .agg #[.slice a0 n0 c0, .bool z, .bool c, .bool hz, .bool hc, .slice a5 n5 c5, .int .i64 pc, .int .i64 st, .slice a8 n8 c8], .agg #[.slice b0 m0 d0, .bool z', .bool c', .bool hz', .bool hc', .slice b5 m5 d5, .int .i64 pc', .int .i64 st', .slice b8 m8 d8]] w fun e w' => e = .returned (.bool G) ∧ Below w.heap.size w w' := by
  have H_mR := Aside0.mk mR
  have H_hK := Aside0.mk hK
  have H_h1 := Aside0.mk h1
  have H_h2 := Aside0.mk h2
  have H_hL := Aside0.mk hL
  have H_e00 := Aside0.mk e00
  have H_e01 := Aside0.mk e01
  have H_f0 := Aside0.mk f0
  have H_f5 := Aside0.mk f5
  have H_g0' := Aside0.mk g0'
  have H_g5' := Aside0.mk g5'
  have HG := Aside0.mk hG
  have hM : (n00 ≤ 9223372036854775807 ∧ n01 ≤ 9223372036854775807 ∧ n0 ≤ 9223372036854775807) ∧ n5 ≤ 9223372036854775807 ∧ m0 ≤ 9223372036854775807 ∧ m5 ≤ 9223372036854775807 := ⟨⟨(hK w hR).1.2.1, (hK w hR).2.1.2.1, (hK w hR).2.2.1.2.1⟩, (hK w hR).2.2.2.1.2.1, (hK w hR).2.2.2.2.1.2.1, (hK w hR).2.2.2.2.2.2.1⟩
  obtain ⟨⟨hM00, hM01, hM0⟩, hM5, hN0, hN5⟩ := hM
  clear hG mR hK h1 h2 hL e00 e01 f0 f5 g0' g5'
  have HB := Below.refl w.heap.size w
  go_enter Try.func35, Try.ntmps35
  go_upto_region 1 with (first | ((with_reducible refine gate_dst (N := 3) rfl ?_); refine box_event ?hg (N := 3) ?hd (cs := #[.slice s0 n00 e0, .slice s1 n01 e1]) (t := 53) ?hr ?_; (case hd => rfl); (case hg => rfl); (case hr => first | (go_simp; done) | (go_simp; rfl)); intro g0 hg W0 hbox hb; have kb_ := below_step HB hb; clear HB; have HB := kb_; clear kb_ hb hg; have BK0 := hbox; clear hbox) | ((with_reducible refine gate_dst (N := 4) rfl ?_); refine box_event ?hg (N := 4) ?hd (cs := #[.slice a0 n0 c0, .bool z, .bool c, .bool hz, .bool hc, .slice a5 n5 c5, .int .i64 pc, .int .i64 st, .slice a8 n8 c8]) (t := 40) ?hr ?_; (case hd => rfl); (case hg => rfl); (case hr => first | (go_simp; done) | (go_simp; rfl)); intro g1 hg W1 hbox hb; have k0_ := blk_below BK0 hb; clear BK0; have BK0 := k0_; clear k0_; have kb_ := below_step HB hb; clear HB; have HB := kb_; clear kb_ hb hg; have BK1 := hbox; clear hbox) | ((with_reducible refine gate_dst (N := 5) rfl ?_); refine box_event ?hg (N := 5) ?hd (cs := #[.slice b0 m0 d0, .bool z', .bool c', .bool hz', .bool hc', .slice b5 m5 d5, .int .i64 pc', .int .i64 st', .slice b8 m8 d8]) (t := 40) ?hr ?_; (case hd => rfl); (case hg => rfl); (case hr => first | (go_simp; done) | (go_simp; rfl)); intro g2 hg W2 hbox hb; have k0_ := blk_below BK0 hb; clear BK0; have BK0 := k0_; clear k0_; have k1_ := blk_below BK1 hb; clear BK1; have BK1 := k1_; clear k1_; have kb_ := below_step HB hb; clear HB; have HB := kb_; clear kb_ hb hg; have BK2 := hbox; clear hbox))
  have HR := H_mR.out _ _ HB hR
  clear hR
  cases B1 with
  | false =>
    have y0 : W2.cell? ⟨g0, 0, none⟩ = some (.slice s0 n00 e0) := (blk_cell BK0 0).trans rfl
    have y1 : W2.cell? ⟨g0, 1, none⟩ = some (.slice s1 n01 e1) := (blk_cell BK0 1).trans rfl
    have z_0 : W2.cell? ⟨g1, 0, none⟩ = some (.slice a0 n0 c0) := (blk_cell BK1 0).trans rfl
    have z_1 : W2.cell? ⟨g1, 1, none⟩ = some (.bool z) := (blk_cell BK1 1).trans rfl
    have z_2 : W2.cell? ⟨g1, 2, none⟩ = some (.bool c) := (blk_cell BK1 2).trans rfl
    have z_3 : W2.cell? ⟨g1, 3, none⟩ = some (.bool hz) := (blk_cell BK1 3).trans rfl
    have z_4 : W2.cell? ⟨g1, 4, none⟩ = some (.bool hc) := (blk_cell BK1 4).trans rfl
    have z_5 : W2.cell? ⟨g1, 5, none⟩ = some (.slice a5 n5 c5) := (blk_cell BK1 5).trans rfl
    have z_6 : W2.cell? ⟨g1, 6, none⟩ = some (.int .i64 pc) := (blk_cell BK1 6).trans rfl
    have z_7 : W2.cell? ⟨g1, 7, none⟩ = some (.int .i64 st) := (blk_cell BK1 7).trans rfl
    have z_8 : W2.cell? ⟨g1, 8, none⟩ = some (.slice a8 n8 c8) := (blk_cell BK1 8).trans rfl
    go_wp2_with fail
    refine (H_h1.out _ HR).mono ?_
    rintro e V1 ⟨rfl, hb⟩
    clear y0 y1 z_0 z_1 z_2 z_3 z_4 z_5 z_6 z_7 z_8
    have k_ := below_step HB hb
    clear HB
    have HB := k_
    clear k_
    have k_ := blk_below BK0 hb
    clear BK0
    have BK0 := k_
    clear k_
    have k_ := blk_below BK1 hb
    clear BK1
    have BK1 := k_
    clear k_
    have k_ := blk_below BK2 hb
    clear BK2
    have BK2 := k_
    clear k_
    have k_ := H_mR.out _ _ hb HR
    clear HR
    have HR := k_
    clear k_
    clear hb
    go_wp2
    go_ret
    exact ⟨by rw [HG.out]; simp, HB⟩
  | true =>
    have y0 : W2.cell? ⟨g0, 0, none⟩ = some (.slice s0 n00 e0) := (blk_cell BK0 0).trans rfl
    have y1 : W2.cell? ⟨g0, 1, none⟩ = some (.slice s1 n01 e1) := (blk_cell BK0 1).trans rfl
    have z_0 : W2.cell? ⟨g1, 0, none⟩ = some (.slice a0 n0 c0) := (blk_cell BK1 0).trans rfl
    have z_1 : W2.cell? ⟨g1, 1, none⟩ = some (.bool z) := (blk_cell BK1 1).trans rfl
    have z_2 : W2.cell? ⟨g1, 2, none⟩ = some (.bool c) := (blk_cell BK1 2).trans rfl
    have z_3 : W2.cell? ⟨g1, 3, none⟩ = some (.bool hz) := (blk_cell BK1 3).trans rfl
    have z_4 : W2.cell? ⟨g1, 4, none⟩ = some (.bool hc) := (blk_cell BK1 4).trans rfl
    have z_5 : W2.cell? ⟨g1, 5, none⟩ = some (.slice a5 n5 c5) := (blk_cell BK1 5).trans rfl
    have z_6 : W2.cell? ⟨g1, 6, none⟩ = some (.int .i64 pc) := (blk_cell BK1 6).trans rfl
    have z_7 : W2.cell? ⟨g1, 7, none⟩ = some (.int .i64 st) := (blk_cell BK1 7).trans rfl
    have z_8 : W2.cell? ⟨g1, 8, none⟩ = some (.slice a8 n8 c8) := (blk_cell BK1 8).trans rfl
    go_wp2_with fail
    refine (H_h1.out _ HR).mono ?_
    rintro e V2 ⟨rfl, hb⟩
    clear y0 y1 z_0 z_1 z_2 z_3 z_4 z_5 z_6 z_7 z_8
    have k_ := below_step HB hb
    clear HB
    have HB := k_
    clear k_
    have k_ := blk_below BK0 hb
    clear BK0
    have BK0 := k_
    clear k_
    have k_ := blk_below BK1 hb
    clear BK1
    have BK1 := k_
    clear k_
    have k_ := blk_below BK2 hb
    clear BK2
    have BK2 := k_
    clear k_
    have k_ := H_mR.out _ _ hb HR
    clear HR
    have HR := k_
    clear k_
    clear hb
    cases B2 with
    | false =>
      have y0 : V2.cell? ⟨g0, 0, none⟩ = some (.slice s0 n00 e0) := (blk_cell BK0 0).trans rfl
      have y1 : V2.cell? ⟨g0, 1, none⟩ = some (.slice s1 n01 e1) := (blk_cell BK0 1).trans rfl
      have u_0 : V2.cell? ⟨g2, 0, none⟩ = some (.slice b0 m0 d0) := (blk_cell BK2 0).trans rfl
      have u_1 : V2.cell? ⟨g2, 1, none⟩ = some (.bool z') := (blk_cell BK2 1).trans rfl
      have u_2 : V2.cell? ⟨g2, 2, none⟩ = some (.bool c') := (blk_cell BK2 2).trans rfl
      have u_3 : V2.cell? ⟨g2, 3, none⟩ = some (.bool hz') := (blk_cell BK2 3).trans rfl
      have u_4 : V2.cell? ⟨g2, 4, none⟩ = some (.bool hc') := (blk_cell BK2 4).trans rfl
      have u_5 : V2.cell? ⟨g2, 5, none⟩ = some (.slice b5 m5 d5) := (blk_cell BK2 5).trans rfl
      have u_6 : V2.cell? ⟨g2, 6, none⟩ = some (.int .i64 pc') := (blk_cell BK2 6).trans rfl
      have u_7 : V2.cell? ⟨g2, 7, none⟩ = some (.int .i64 st') := (blk_cell BK2 7).trans rfl
      have u_8 : V2.cell? ⟨g2, 8, none⟩ = some (.slice b8 m8 d8) := (blk_cell BK2 8).trans rfl
      go_wp2_with fail
      refine (H_h2.out _ HR).mono ?_
      rintro e V3 ⟨rfl, hb⟩
      clear y0 y1 u_0 u_1 u_2 u_3 u_4 u_5 u_6 u_7 u_8
      have k_ := below_step HB hb
      clear HB
      have HB := k_
      clear k_
      have k_ := blk_below BK0 hb
      clear BK0
      have BK0 := k_
      clear k_
      have k_ := blk_below BK1 hb
      clear BK1
      have BK1 := k_
      clear k_
      have k_ := blk_below BK2 hb
      clear BK2
      have BK2 := k_
      clear k_
      have k_ := H_mR.out _ _ hb HR
      clear HR
      have HR := k_
      clear k_
      clear hb
      go_wp2
      go_ret
      exact ⟨by rw [HG.out]; simp, HB⟩
    | true =>
      have y0 : V2.cell? ⟨g0, 0, none⟩ = some (.slice s0 n00 e0) := (blk_cell BK0 0).trans rfl
      have y1 : V2.cell? ⟨g0, 1, none⟩ = some (.slice s1 n01 e1) := (blk_cell BK0 1).trans rfl
      have u_0 : V2.cell? ⟨g2, 0, none⟩ = some (.slice b0 m0 d0) := (blk_cell BK2 0).trans rfl
      have u_1 : V2.cell? ⟨g2, 1, none⟩ = some (.bool z') := (blk_cell BK2 1).trans rfl
      have u_2 : V2.cell? ⟨g2, 2, none⟩ = some (.bool c') := (blk_cell BK2 2).trans rfl
      have u_3 : V2.cell? ⟨g2, 3, none⟩ = some (.bool hz') := (blk_cell BK2 3).trans rfl
      have u_4 : V2.cell? ⟨g2, 4, none⟩ = some (.bool hc') := (blk_cell BK2 4).trans rfl
      have u_5 : V2.cell? ⟨g2, 5, none⟩ = some (.slice b5 m5 d5) := (blk_cell BK2 5).trans rfl
      have u_6 : V2.cell? ⟨g2, 6, none⟩ = some (.int .i64 pc') := (blk_cell BK2 6).trans rfl
      have u_7 : V2.cell? ⟨g2, 7, none⟩ = some (.int .i64 st') := (blk_cell BK2 7).trans rfl
      have u_8 : V2.cell? ⟨g2, 8, none⟩ = some (.slice b8 m8 d8) := (blk_cell BK2 8).trans rfl
      go_wp2_with fail
      refine (H_h2.out _ HR).mono ?_
      rintro e V4 ⟨rfl, hb⟩
      clear y0 y1 u_0 u_1 u_2 u_3 u_4 u_5 u_6 u_7 u_8
      have k_ := below_step HB hb
      clear HB
      have HB := k_
      clear k_
      have k_ := blk_below BK0 hb
      clear BK0
      have BK0 := k_
      clear k_
      have k_ := blk_below BK1 hb
      clear BK1
      have BK1 := k_
      clear k_
      have k_ := blk_below BK2 hb
      clear BK2
      have BK2 := k_
      clear k_
      have k_ := H_mR.out _ _ hb HR
      clear HR
      have HR := k_
      clear k_
      clear hb
      have HG2 := Aside0.mk (show G = (allFrom (regEq rs xs ys) 8 0 && allFrom (heapEq hs ms ns) n00 0) by rw [HG.out]; simp)
      clear HG
      have HL := Aside0.mk (H_hL.out (by trivial) (by trivial))
      clear H_hL H_h1 H_h2
      go_wp2_with fail
      have k_ := Aside0.mk HB
      clear HB
      have HB := k_
      clear k_
      have k_ := Aside0.mk BK0
      clear BK0
      have BK0 := k_
      clear k_
      have k_ := Aside0.mk BK1
      clear BK1
      have BK1 := k_
      clear k_
      have k_ := Aside0.mk BK2
      clear BK2
      have BK2 := k_
      clear k_
      have k_ := Aside0.mk HR
      clear HR
      have HR := k_
      clear k_
      go_loopg [7] 8 (fun q v7 wr => ∃ k : Nat, v7 = .int .i64 k ∧ Aside0 (k + q = 8) ∧ Aside0 (allFrom (regEq rs xs ys) 8 0 = allFrom (regEq rs xs ys) 8 k) ∧ Aside0 (Below V4.heap.size V4 wr))
      case atStart => exact ⟨0, rfl, ⟨by omega⟩, ⟨rfl⟩, ⟨Below.refl _ _⟩⟩
      case round =>
        obtain ⟨k, rfl, hk, HP, HV⟩ := hrel
        by_cases hlt : k < 8
        · have hlt' : (k : Int) < 8 := by omega
          obtain ⟨hl1, hl2, hl3, hl4, hl5⟩ := HL.out
          have t01 : (k : Int) < (n01 : Int) := by omega
          have t0 : (k : Int) < (n0 : Int) := by omega
          have t2 : (k : Int) < (m0 : Int) := by omega
          have u01 : k < rs.length := by have := H_e01.out; omega
          have u0 : k < xs.length := by have := H_f0.out; omega
          have u2 : k < ys.length := by have := H_g0'.out; omega
          clear hl1 hl2 hl3 hl4 hl5
          have hRr := H_mR.out _ _ HV.out HR.out
          have hKr := H_hK.out _ hRr
          obtain ⟨ad, ead, x0, x1, x2, x3, x4, x5⟩ := valA hKr.2.1 k u01
          cases ead
          clear x0 x2 x3 x4 x5
          obtain ⟨ad1, ead, p0⟩ := regAt' hKr.2.2.1 k u0
          cases ead
          obtain ⟨ad2, ead, p1⟩ := regAt' hKr.2.2.2.2.1 k u2
          cases ead
          clear hKr hRr u01 u0 u2
          have HQ : Aside0 (regEq rs xs ys k = ((rs.getD k z25).f1 || !(xs.getD k 0 != ys.getD k 0))) := ⟨rfl⟩
          obtain ⟨sc, hsc⟩ : ∃ b, b = (rs.getD k z25).f1 := ⟨_, rfl⟩
          obtain ⟨x, hx⟩ : ∃ x, x = xs.getD k 0 := ⟨_, rfl⟩
          obtain ⟨y, hy⟩ : ∃ x, x = ys.getD k 0 := ⟨_, rfl⟩
          rw [← hsc] at x1
          rw [← hx] at p0
          rw [← hy] at p1
          have HQ2 := Aside0.mk (show regEq rs xs ys k = (sc || !(x != y)) by rw [HQ.out, ← hsc, ← hx, ← hy])
          clear hsc hx hy HQ
          go_upto_region 6 with fail
          have y1 : wr.cell? ⟨g0, 1, none⟩ = some (.slice (some ad) n01 e1) := (blk_cell (blk_below BK0.out HV.out) 1).trans rfl
          have z_0 : wr.cell? ⟨g1, 0, none⟩ = some (.slice (some ad1) n0 c0) := (blk_cell (blk_below BK1.out HV.out) 0).trans rfl
          have u_0 : wr.cell? ⟨g2, 0, none⟩ = some (.slice (some ad2) m0 d0) := (blk_cell (blk_below BK2.out HV.out) 0).trans rfl
          have HW := Below.refl wr.heap.size wr
          go_cut [42] (fun s42 wx => s42 = .bool (!regEq rs xs ys k) ∧ Below wr.heap.size wr wx)
          case first =>
            cases sc with
            | true =>
              go_quiet (fail)
              go_wp2_with fail
              go_meet
              exact ⟨by rw [HQ2.out]; simp, by exact pw_below_drewN (Below.refl _ _) _⟩
            | false =>
              go_quiet (fail)
              go_wp2_with fail
              go_meet
              exact ⟨by rw [HQ2.out]; simp, by exact pw_below_drewN (Below.refl _ _) _⟩
          case rest =>
            obtain ⟨rfl, hb⟩ := hcut
            obtain ⟨V5, hW⟩ : ∃ x : World, x = wc := ⟨_, rfl⟩
            rw [← hW] at hb ⊢
            clear hW HW
            have HV5 := Aside0.mk (below_step HV.out hb)
            clear hb HV y1 z_0 u_0 x1 p0 p1 t01 t0 t2 HQ2
            cases ho : (regEq rs xs ys) k with
            | false =>
              have hg : G = false := fail_of HG2.out HP.out hlt ho
              subst hg
              clear ho HG2 HP
              go_wp2
              go_ret
              exact ⟨rfl, below_step HB.out HV5.out⟩
            | true =>
              have HP2 := Aside0.mk (show allFrom (regEq rs xs ys) 8 0 = allFrom (regEq rs xs ys) 8 (k + 1) by rw [HP.out, allFrom_step (by have := HL.out; omega), ho, Bool.true_and])
              clear ho HP
              go_wp2
              go_roundg (8 - (k + 1))
              case measure => have := hk.out; omega
              case rel => exact ⟨k + 1, by go_num, ⟨by omega⟩, HP2, HV5⟩
        · have hge : ¬ ((k : Int) < 8) := by omega
          have hP : allFrom (regEq rs xs ys) 8 0 = true := by rw [HP.out, show k = 8 by have := hk.out; omega, allFrom_end]
          have HG3 := Aside0.mk (show G = (allFrom (heapEq hs ms ns) n00 0 && true) by rw [HG2.out, hP, Bool.true_and, Bool.and_true])
          clear hP HP HG2
          have hb := HV.out
          obtain ⟨W5, hW⟩ : ∃ x : World, x = wr := ⟨_, rfl⟩
          rw [← hW] at hb ⊢
          have k_ := Aside0.mk (below_step HB.out hb)
          clear HB
          have HB := k_
          clear k_
          have k_ := Aside0.mk (blk_below BK0.out hb)
          clear BK0
          have BK0 := k_
          clear k_
          have k_ := Aside0.mk (blk_below BK1.out hb)
          clear BK1
          have BK1 := k_
          clear k_
          have k_ := Aside0.mk (blk_below BK2.out hb)
          clear BK2
          have BK2 := k_
          clear k_
          have k_ := Aside0.mk (H_mR.out _ _ hb HR.out)
          clear HR
          have HR := k_
          clear k_
          clear hb HV hW
          go_wp2_with fail
          go_loopg [8] n5 (fun q v8 wr => ∃ j : Nat, v8 = .int .i64 j ∧ Aside0 (j + q = n5) ∧ Aside0 (allFrom (heapEq hs ms ns) n00 0 = allFrom (heapEq hs ms ns) n00 j) ∧ Aside0 (Below W5.heap.size W5 wr))
          case atStart => exact ⟨0, rfl, ⟨by omega⟩, ⟨rfl⟩, ⟨Below.refl _ _⟩⟩
          case round =>
            obtain ⟨j, rfl, hk, HP, HV⟩ := hrel
            by_cases hlt : j < n5
            · have hlt' : (j : Int) < (n5 : Int) := by omega
              obtain ⟨hl1, hl2, hl3, hl4, hl5⟩ := HL.out
              have t00 : (j : Int) < (n00 : Int) := by omega
              have t5 : (j : Int) < (n5 : Int) := by omega
              have t6 : (j : Int) < (m5 : Int) := by omega
              have u00 : j < hs.length := by have := H_e00.out; omega
              have u5 : j < ms.length := by have := H_f5.out; omega
              have u6 : j < ns.length := by have := H_g5'.out; omega
              clear hl1 hl2 hl3 hl4 hl5
              have hRr := H_mR.out _ _ HV.out HR.out
              have hKr := H_hK.out _ hRr
              obtain ⟨ad, ead, x0, x1, x2⟩ := sigA hKr.1 j u00
              cases ead
              clear x0 x2
              obtain ⟨ad1, A1, k1, ead, p0, p1, p2, l1, r1⟩ := heapA hKr.2.2.2.1 j u5
              cases ead
              obtain ⟨ad2, A2, k2, ead, q0', q1, q2, l2, r2⟩ := heapA hKr.2.2.2.2.2 j u6
              cases ead
              unfold hA_ at p0 p1 p2 l1 r1 q0' q1 q2 l2 r2
              clear p1 q1 hKr hRr u00 u5 u6
              have HQ : Aside0 (heapEq hs ms ns j = (!((ms.getD j z35).f0 != (ns.getD j z35).f0) && ((hs.getD j z89).f1 || strEq (ms.getD j z35).f2 (ns.getD j z35).f2))) := ⟨rfl⟩
              obtain ⟨sc, hsc⟩ : ∃ b, b = (hs.getD j z89).f1 := ⟨_, rfl⟩
              obtain ⟨x, hx⟩ : ∃ x, x = ms.getD j z35 := ⟨_, rfl⟩
              obtain ⟨y, hy⟩ : ∃ x, x = ns.getD j z35 := ⟨_, rfl⟩
              rw [← hsc] at x1
              rw [← hx] at p0 p2 l1 r1
              rw [← hy] at q0' q2 l2 r2
              have HQ2 := Aside0.mk (show heapEq hs ms ns j = (!(x.f0 != y.f0) && (sc || strEq x.f2 y.f2)) by rw [HQ.out, ← hsc, ← hx, ← hy])
              clear hsc hx hy HQ
              obtain ⟨nx, hnx⟩ : ∃ n : Nat, n = x.f2.length := ⟨_, rfl⟩
              obtain ⟨ny, hny⟩ : ∃ n : Nat, n = y.f2.length := ⟨_, rfl⟩
              rw [← hnx] at p2 l1 r1
              rw [← hny] at q2 l2 r2
              have HC := Aside0.mk (fun nq : Nat => And.intro (Kd.C_string (P := Try.prog) (A := A1) (c := k1) Try.underlying30 Try.underlying5 Try.underlying9 (Kd.C_below r1 (pw_below_drewN (Below.refl _ _) nq))) (Kd.C_string (P := Try.prog) (A := A2) (c := k2) Try.underlying30 Try.underlying5 Try.underlying9 (Kd.C_below r2 (pw_below_drewN (Below.refl _ _) nq))))
              clear l1 r1 l2 r2 hnx hny
              have z_5 : wr.cell? ⟨g1, 5, none⟩ = some (.slice (some ad1) n5 c5) := (blk_cell (blk_below BK1.out HV.out) 5).trans rfl
              go_upto_region 11 with fail
              have y0 : wr.cell? ⟨g0, 0, none⟩ = some (.slice (some ad) n00 e0) := (blk_cell (blk_below BK0.out HV.out) 0).trans rfl
              have u_5 : wr.cell? ⟨g2, 5, none⟩ = some (.slice (some ad2) m5 d5) := (blk_cell (blk_below BK2.out HV.out) 5).trans rfl
              have HW := Below.refl wr.heap.size wr
              go_cut [88] (fun s88 wx => s88 = .bool (!heapEq hs ms ns j) ∧ Below wr.heap.size wr wx)
              case first =>
                cases hb0 : (x.f0 != y.f0) with
                | true =>
                  go_quiet (fail)
                  go_wp2_with fail
                  go_meet
                  exact ⟨by rw [HQ2.out, hb0]; rfl, by exact pw_below_drewN (Below.refl _ _) _⟩
                | false =>
                  cases sc with
                  | true =>
                    go_quiet (fail)
                    go_wp2_with fail
                    go_meet
                    exact ⟨by rw [HQ2.out, hb0]; rfl, by exact pw_below_drewN (Below.refl _ _) _⟩
                  | false =>
                    have hc1 := fun nq => (HC.out nq).1
                    have hc2 := fun nq => (HC.out nq).2
                    go_quiet (fail)
                    go_wp2_with fail
                    go_meet
                    exact ⟨by rw [HQ2.out, hb0]; simp [strEq], by exact pw_below_drewN (Below.refl _ _) _⟩
              case rest =>
                obtain ⟨rfl, hb⟩ := hcut
                obtain ⟨V5, hW⟩ : ∃ x : World, x = wc := ⟨_, rfl⟩
                rw [← hW] at hb ⊢
                clear hW HW
                have HV5 := Aside0.mk (below_step HV.out hb)
                clear hb HV y0 z_5 u_5 x1 p0 p2 q0' q2 HQ2 HC t00 t5 t6
                cases ho : (heapEq hs ms ns) j with
                | false =>
                  have hg : G = false := fail_of HG3.out HP.out (by have := HL.out; omega) ho
                  subst hg
                  clear ho HG3 HP
                  go_wp2
                  go_ret
                  exact ⟨rfl, below_step HB.out HV5.out⟩
                | true =>
                  have HP2 := Aside0.mk (show allFrom (heapEq hs ms ns) n00 0 = allFrom (heapEq hs ms ns) n00 (j + 1) by rw [HP.out, allFrom_step (by have := HL.out; omega), ho, Bool.true_and])
                  clear ho HP
                  go_wp2
                  go_roundg (n5 - (j + 1))
                  case measure => have := hk.out; omega
                  case rel => exact ⟨j + 1, by go_num, ⟨by omega⟩, HP2, HV5⟩
            · have hge : ¬ ((j : Int) < (n5 : Int)) := by omega
              have hg : G = true := by rw [HG3.out, HP.out, show j = n00 by have := hk.out; have := HL.out; omega, allFrom_end]; rfl
              have z_5 : wr.cell? ⟨g1, 5, none⟩ = some (.slice a5 n5 c5) := (blk_cell (blk_below BK1.out HV.out) 5).trans rfl
              subst hg
              clear HG3 HP
              go_wp2
              go_ret
              exact ⟨rfl, below_step HB.out HV.out⟩
end Go.Proofs.Ytfeglenlpnhofaa.Mk
