/- The program's ValidMach (function 31) answers 'machGood' at every machine. -/
import Derived.Test.YtfeglenlpnhofaaMkFind
namespace Go.Proofs.Ytfeglenlpnhofaa.Mk
open Go.RowKit Go.Proofs.YtfeglenlpnhofaaW.PrintWords Go.Proofs.YtfeglenlpnhofaaW.PrintLast Go.Proofs.YtfeglenlpnhofaaW.PrintMore Go.Proofs.Ytfeglenlpnhofaa.Mine
set_option linter.unusedSimpArgs false
set_option linter.unusedVariables false

set_option maxRecDepth 100000 in
set_option maxHeartbeats 8000000 in
theorem impl_mach (n0 : Nat) (z c hz hc : Bool) (hs : List S35) (pc st : Int) (os : List S102) (a0 a5 a8 : Option Addr) (c0 c5 c8 : Nat) (w : World) (r5 : Kd.C k35 w a5 hs.length hs) (q5 : hs.length ≤ c5) (r8 : Kd.C k102 w a8 os.length os) :
    Calls Try.prog 31 #[.agg #[.slice a0 n0 c0, .bool z, .bool c, .bool hz, .bool hc, .slice a5 hs.length c5, .int .i64 pc, .int .i64 st, .slice a8 os.length c8]] w fun e w' => e = .returned (.bool (machGood n0 z c hz hc hs pc st os)) ∧ Below w.heap.size w w' := by
  have HB := Below.refl w.heap.size w
  obtain ⟨n5, hn5⟩ : ∃ n, n = hs.length := ⟨_, rfl⟩
  obtain ⟨n8, hn8⟩ : ∃ n, n = os.length := ⟨_, rfl⟩
  have hM : n5 ≤ 9223372036854775807 ∧ n8 ≤ 9223372036854775807 := ⟨hn5 ▸ r5.2.1, hn8 ▸ r8.2.1⟩
  obtain ⟨hM5, hM8⟩ := hM
  obtain ⟨G, hG⟩ : ∃ G, G = machGood n0 z c hz hc hs pc st os := ⟨_, rfl⟩
  rw [← hG]
  rw [← hn5] at r5 q5 ⊢
  rw [← hn8] at r8 ⊢
  have hGf : hdB n0 z c hz hc n5 pc st n8 = false → G = false := fun h => by rw [hG]; exact good_hd (by rw [← hn5, ← hn8]; exact h)
  have hGt : hdB n0 z c hz hc n5 pc st n8 = true → G = (allFrom (heapsOk hs) n5 0 && allFrom (obsOk os) n8 0) := fun h => by rw [hG]; unfold machGood; rw [← hn5, ← hn8, h, Bool.true_and]
  have HGf := Aside0.mk hGf
  have HGt := Aside0.mk hGt
  have H5 := Aside0.mk hn5
  have H8 := Aside0.mk hn8
  clear hGf hGt hn5 hn8 hG
  go_enter Try.func31, Try.ntmps31
  go_upto_region 1 with (first | ((with_reducible refine gate_dst (N := 1) rfl ?_); refine box_event ?hg (N := 1) ?hd (cs := #[.slice a0 n0 c0, .bool z, .bool c, .bool hz, .bool hc, .slice a5 n5 c5, .int .i64 pc, .int .i64 st, .slice a8 n8 c8]) (t := 40) ?hr ?_; (case hd => rfl); (case hg => rfl); (case hr => first | (go_simp; done) | (go_simp; rfl)); intro g0 hg W hbox hb; have kb_ := below_step HB hb; clear HB; have HB := kb_; clear kb_ hb hg; have BK0 := hbox; clear hbox))
  have r5' := Kd.C_below r5 HB
  have r8' := Kd.C_below r8 HB
  clear r5 r8
  have HW := Below.refl W.heap.size W
  have BK0 := Aside0.mk BK0
  have r5 := Aside0.mk r5'
  have r8 := Aside0.mk r8'
  clear r5' r8'
  have Q5 := Aside0.mk q5
  go_cut [0, 61] (fun s0 s61 wx => s61 = .bool (!hdB n0 z c hz hc n5 pc st n8) ∧ Below W.heap.size W wx)
  case first =>
    have z0 : W.cell? ⟨g0, 0, none⟩ = some (.slice a0 n0 c0) := (blk_cell BK0.out 0).trans rfl
    have z1 : W.cell? ⟨g0, 1, none⟩ = some (.bool z) := (blk_cell BK0.out 1).trans rfl
    have z2 : W.cell? ⟨g0, 2, none⟩ = some (.bool c) := (blk_cell BK0.out 2).trans rfl
    have z3 : W.cell? ⟨g0, 3, none⟩ = some (.bool hz) := (blk_cell BK0.out 3).trans rfl
    have z4 : W.cell? ⟨g0, 4, none⟩ = some (.bool hc) := (blk_cell BK0.out 4).trans rfl
    have z5 : W.cell? ⟨g0, 5, none⟩ = some (.slice a5 n5 c5) := (blk_cell BK0.out 5).trans rfl
    have z6 : W.cell? ⟨g0, 6, none⟩ = some (.int .i64 pc) := (blk_cell BK0.out 6).trans rfl
    have z7 : W.cell? ⟨g0, 7, none⟩ = some (.int .i64 st) := (blk_cell BK0.out 7).trans rfl
    have z8 : W.cell? ⟨g0, 8, none⟩ = some (.slice a8 n8 c8) := (blk_cell BK0.out 8).trans rfl
    go_wp2
    all_goals
      go_meet
      refine ⟨?_, HW⟩
      unfold hdB inB
      congr 1
      rw [Bool.eq_iff_iff]
      simp [*]
      try omega
  case rest =>
    obtain ⟨rfl, hbx⟩ := hcut
    obtain ⟨V, hV⟩ : ∃ x : World, x = wc := ⟨_, rfl⟩
    rw [← hV] at hbx ⊢
    clear hV HW
    have k_ := Aside0.mk (blk_below BK0.out hbx)
    clear BK0
    have BK0 := k_
    clear k_
    have k_ := Aside0.mk (Kd.C_below r5.out hbx)
    clear r5
    have r5 := k_
    clear k_
    have k_ := Aside0.mk (Kd.C_below r8.out hbx)
    clear r8
    have r8 := k_
    clear k_
    have HB2 := Aside0.mk (below_step HB hbx)
    clear HB hbx
    cases hd : hdB n0 z c hz hc n5 pc st n8 with
    | false =>
      have hg := HGf.out hd
      subst hg
      clear hd HGf HGt
      go_wp2
      go_ret
      exact ⟨rfl, HB2.out⟩
    | true =>
      have HG := Aside0.mk (HGt.out hd)
      clear hd HGf HGt
      have z5 : V.cell? ⟨g0, 5, none⟩ = some (.slice a5 n5 c5) := (blk_cell BK0.out 5).trans rfl
      go_wp2_with fail
      clear z5
      go_loopg [65] n5 (fun q v65 wr => ∃ k : Nat, v65 = .int .i64 k ∧ k + q = n5 ∧ Aside0 (allFrom (heapsOk hs) n5 0 = allFrom (heapsOk hs) n5 k) ∧ Aside0 (Below V.heap.size V wr))
      case atStart => exact ⟨0, rfl, by omega, ⟨rfl⟩, ⟨Below.refl _ _⟩⟩
      case round =>
        obtain ⟨k, rfl, hk, HP, HV⟩ := hrel
        have hk := Aside0.mk hk
        by_cases hlt : k < n5
        · obtain ⟨ad, A2, c2, ead, y0, y1, y2, l2, r2⟩ := heapAt r5.out k (by have := H5.out; omega)
          cases ead
          obtain ⟨x, hx⟩ : ∃ x, x = hAt hs k := ⟨_, rfl⟩
          rw [← hx] at y0 y1 y2 l2 r2
          obtain ⟨m, hm⟩ : ∃ m : Nat, m = x.f2.length := ⟨_, rfl⟩
          rw [← hm] at y2
          have hm63 : m ≤ 9223372036854775807 := hm ▸ r2.2.1
          have HM := Aside0.mk hm
          clear hm l2 r2
          have HX := Aside0.mk hx
          have y0 := keepC' y0 HV.out
          have y1 := keepC' y1 HV.out
          have y2 := keepC' y2 HV.out
          clear hx
          go_upto_region 6 with fail
          obtain ⟨V4, hWW⟩ : ∃ q : World, q = wr.alloc (.cells #[.int .u64 x.f0, .bool x.f1, .slice A2 m c2] 35) := ⟨_, rfl⟩
          have hb4 : Below wr.heap.size wr V4 := by rw [hWW]; exact below_alloc (Below.refl _ _) _
          have BK4 := Aside0.mk (show V4.heap[wr.heap.size]? = some (.cells #[.int .u64 x.f0, .bool x.f1, .slice A2 m c2] 35 (0, 0)) by rw [hWW]; exact blk_new _ _)
          rw [← hWW]
          clear hWW
          obtain ⟨g4, hg4⟩ : ∃ g, g = wr.heap.size := ⟨_, rfl⟩
          rw [← hg4] at BK4 ⊢
          clear hg4 y0 y1 y2
          have HV4 := Aside0.mk (below_step HV.out hb4)
          clear HV hb4
          have y0 : V4.cell? ⟨g4, 0, none⟩ = some (.int .u64 x.f0) := (blk_cell BK4.out 0).trans rfl
          have y2 : V4.cell? ⟨g4, 2, none⟩ = some (.slice A2 m c2) := (blk_cell BK4.out 2).trans rfl
          have eA : okA x = decide ((m : Int) < 1) := by unfold okA lenI; rw [HM.out]
          have eB : okB x = decide (4096 < (m : Int)) := by unfold okB lenI; rw [HM.out]
          have eC : okC x = decide (IntKind.u64.wrap (18446744073709551615 - (m : Int)) < x.f0) := by unfold okC lenI; rw [HM.out]
          have HE := Aside0.mk (show (okA x || okB x || okC x) = (decide ((m : Int) < 1) || decide (4096 < (m : Int)) || decide (IntKind.u64.wrap (18446744073709551615 - (m : Int)) < x.f0)) by rw [eA, eB, eC])
          clear eA eB eC
          go_upto_region 7 with fail
          go_cut [86] (fun s86 wx => s86 = .bool (okA x || okB x || okC x) ∧ wx = V4)
          case first =>
            go_wp2
            all_goals
              go_meet
              refine ⟨?_, rfl⟩
              rw [HE.out]
              first
                | (rw [IntWalk.u64_in (18446744073709551615 - (m : Int)) (by omega)]; done)
                | (congr 1; rw [Bool.eq_iff_iff]; simp [*]; done)
                | (congr 1; rw [Bool.eq_iff_iff]; simp; omega)
          case rest =>
            obtain ⟨rfl, hbw⟩ := hcut
            rw [hbw]
            clear hbw
            have HV5 := HV4
            clear HV4
            cases ho : (okA x || okB x || okC x) with
            | true =>
              have hP : heapsOk hs k = false := by unfold heapsOk heapOk; rw [← HX.out, ho]; rfl
              have hg : G = false := fail_of HG.out HP.out hlt hP
              subst hg
              clear ho hP HG HP y0 y2
              go_wp2
              go_ret
              exact ⟨rfl, below_step HB2.out HV5.out⟩
            | false =>
              have HO := Aside0.mk ho
              clear ho y0 y2
              have z5 : V4.cell? ⟨g0, 5, none⟩ = some (.slice (some ad) n5 c5) := (blk_cell (blk_below BK0.out HV5.out) 5).trans rfl
              have hkc : k ≤ c5 := by have := Q5.out; omega
              go_wp2_with fail
              clear z5
              go_loopg [92] k (fun q v92 wr2 => ∃ j : Nat, v92 = .int .i64 j ∧ Aside0 (j + q = k) ∧ Aside0 (allFrom (fun j => !lap x (hAt hs j)) k 0 = allFrom (fun j => !lap x (hAt hs j)) k j) ∧ Aside0 (Below V4.heap.size V4 wr2))
              case atStart => exact ⟨0, rfl, ⟨by omega⟩, ⟨rfl⟩, ⟨Below.refl _ _⟩⟩
              case round =>
                obtain ⟨j, rfl, hj, HQ, HV6⟩ := hrel
                by_cases hjk : j < k
                · obtain ⟨ad2, B2, d2, ead, y0, y1, y2, l2, r2⟩ := heapAt r5.out j (by have := H5.out; omega)
                  injection ead with ead
                  subst ead
                  obtain ⟨y, hy⟩ : ∃ y, y = hAt hs j := ⟨_, rfl⟩
                  rw [← hy] at y0 y1 y2 l2 r2
                  obtain ⟨m2, hm⟩ : ∃ m : Nat, m = y.f2.length := ⟨_, rfl⟩
                  rw [← hm] at y2
                  have hm263 : m2 ≤ 9223372036854775807 := hm ▸ r2.2.1
                  have HV := Aside0.mk (below_step HV5.out HV6.out)
                  have HM2 := Aside0.mk hm
                  clear hm l2 r2
                  have HY := Aside0.mk hy
                  have y0 := keepC' y0 HV.out
                  have y1 := keepC' y1 HV.out
                  have y2 := keepC' y2 HV.out
                  clear hy
                  go_upto_region 12 with fail
                  obtain ⟨V6, hWW⟩ : ∃ q : World, q = wr.alloc (.cells #[.int .u64 y.f0, .bool y.f1, .slice B2 m2 d2] 35) := ⟨_, rfl⟩
                  have hb4 : Below wr.heap.size wr V6 := by rw [hWW]; exact below_alloc (Below.refl _ _) _
                  have BK6 := Aside0.mk (show V6.heap[wr.heap.size]? = some (.cells #[.int .u64 y.f0, .bool y.f1, .slice B2 m2 d2] 35 (0, 0)) by rw [hWW]; exact blk_new _ _)
                  rw [← hWW]
                  clear hWW
                  obtain ⟨g6, hg6⟩ : ∃ g, g = wr.heap.size := ⟨_, rfl⟩
                  rw [← hg6] at BK6 ⊢
                  clear hg6 y0 y1 y2
                  have HV7 := Aside0.mk (below_step HV6.out hb4)
                  clear hb4 HV HV6
                  have u0 : V6.cell? ⟨g4, 0, none⟩ = some (.int .u64 x.f0) := (blk_cell (blk_below BK4.out HV7.out) 0).trans rfl
                  have u2 : V6.cell? ⟨g4, 2, none⟩ = some (.slice A2 m c2) := (blk_cell (blk_below BK4.out HV7.out) 2).trans rfl
                  have y0 : V6.cell? ⟨g6, 0, none⟩ = some (.int .u64 y.f0) := (blk_cell BK6.out 0).trans rfl
                  have y2 : V6.cell? ⟨g6, 2, none⟩ = some (.slice B2 m2 d2) := (blk_cell BK6.out 2).trans rfl
                  have eA : lapA x y = decide (x.f0 < IntKind.u64.wrap (y.f0 + (m2 : Int))) := by unfold lapA lenI; rw [HM2.out]
                  have eB : lapA y x = decide (y.f0 < IntKind.u64.wrap (x.f0 + (m : Int))) := by unfold lapA lenI; rw [HM.out]
                  have HE2 := Aside0.mk (show lap x y = (decide (x.f0 < IntKind.u64.wrap (y.f0 + (m2 : Int))) && decide (y.f0 < IntKind.u64.wrap (x.f0 + (m : Int)))) by unfold lap; rw [eA, eB])
                  clear eA eB
                  go_cut [114] (fun s114 wx => s114 = .bool (lap x y) ∧ wx = V6)
                  case first =>
                    go_wp2
                    all_goals
                      go_meet
                      refine ⟨?_, rfl⟩
                      rw [HE2.out]
                      first
                        | done
                        | (congr 1; rw [Bool.eq_iff_iff]; simp [*]; done)
                        | (congr 1; rw [Bool.eq_iff_iff]; simp; omega)
                  case rest =>
                    obtain ⟨rfl, hbw⟩ := hcut
                    rw [hbw]
                    clear hbw u0 u2 y0 y2
                    cases hl : lap x y with
                    | true =>
                      have hQ : (!lap x (hAt hs j)) = false := by rw [← HY.out, hl]; rfl
                      have hA : allFrom (fun j => !lap x (hAt hs j)) k 0 = false := by rw [HQ.out, allFrom_step hjk, hQ]; rfl
                      have hP : heapsOk hs k = false := by unfold heapsOk; rw [← HX.out, hA, Bool.and_false]
                      have hg : G = false := fail_of HG.out HP.out hlt hP
                      subst hg
                      have HBz := Aside0.mk (below_step (below_step HB2.out HV5.out) HV7.out)
                      clear hl hQ hA hP HG HP HQ
                      go_wp2
                      go_ret
                      exact ⟨rfl, HBz.out⟩
                    | false =>
                      have hQ : (!lap x (hAt hs j)) = true := by rw [← HY.out, hl]; rfl
                      have HQ2 := Aside0.mk (show allFrom (fun j => !lap x (hAt hs j)) k 0 = allFrom (fun j => !lap x (hAt hs j)) k (j + 1) by rw [HQ.out, allFrom_step hjk, hQ, Bool.true_and])
                      clear hl hQ HQ
                      go_wp2
                      go_roundg (k - (j + 1))
                      case measure => have := hj.out; omega
                      case rel => exact ⟨j + 1, by go_num, ⟨by omega⟩, HQ2, HV7⟩
                · have ej : j = k := by have := hj.out; omega
                  have hA : allFrom (fun j => !lap x (hAt hs j)) k 0 = true := by rw [HQ.out, ej, allFrom_end]
                  have hP : heapsOk hs k = true := by unfold heapsOk heapOk; rw [← HX.out, hA, HO.out]; rfl
                  have HP2 := Aside0.mk (show allFrom (heapsOk hs) n5 0 = allFrom (heapsOk hs) n5 (k + 1) by rw [HP.out, allFrom_step hlt, hP, Bool.true_and])
                  have HV8 := Aside0.mk (below_step HV5.out HV6.out)
                  clear ej hA hP HP HQ
                  go_wp2
                  go_roundg (n5 - (k + 1))
                  case measure => have := hk.out; omega
                  case rel => exact ⟨k + 1, by go_num, by omega, HP2, HV8⟩
        · have ek : k = n5 := by have := hk.out; omega
          have hP : allFrom (heapsOk hs) n5 0 = true := by rw [HP.out, ek, allFrom_end]
          have HG2 := Aside0.mk (show G = allFrom (obsOk os) os.length 0 by rw [HG.out, hP, Bool.true_and, H8.out])
          have hlt2 : n5 ≤ k := by omega
          have z8 : wr.cell? ⟨g0, 8, none⟩ = some (.slice a8 n8 c8) := (blk_cell (blk_below BK0.out HV.out) 8).trans rfl
          have HC := Aside0.mk (contains_calls a8 c8 n8 os H8.out wr (Kd.C_below r8.out HV.out))
          clear ek hP HP HG
          go_wp2_with (first | (go_at_call 59; refine (HC.out).mono ?_; rintro e w' ⟨rfl, hb⟩))
          go_ret
          exact ⟨by rw [HG2.out]; simp, below_step (below_step HB2.out HV.out) hb⟩
end Go.Proofs.Ytfeglenlpnhofaa.Mk
