/- The specification's ValidMach (function 29) answers 'machGood' at every machine. -/
import Derived.Test.YtfeglenlpnhofaaMkGood
namespace Go.Proofs.Ytfeglenlpnhofaa.Mk
open Go.RowKit Go.Proofs.YtfeglenlpnhofaaW.PrintWords Go.Proofs.YtfeglenlpnhofaaW.PrintLast Go.Proofs.YtfeglenlpnhofaaW.PrintMore Go.Proofs.Ytfeglenlpnhofaa.Mine

set_option linter.unusedSimpArgs false
set_option linter.unusedVariables false
set_option maxRecDepth 100000 in
set_option maxHeartbeats 8000000 in
theorem spec_mach (n0 : Nat) (z c hz hc : Bool) (hs : List S35) (pc st : Int) (os : List S102) (a0 a5 a8 : Option Addr) (c0 c5 c8 : Nat) (w : World) (r5 : Kd.C k35 w a5 hs.length hs) (r8 : Kd.C k102 w a8 os.length os) :
    Calls Try.prog 29 #[.agg #[.slice a0 n0 c0, .bool z, .bool c, .bool hz, .bool hc, .slice a5 hs.length c5, .int .i64 pc, .int .i64 st, .slice a8 os.length c8]] w fun e w' => e = .returned (.bool (machGood n0 z c hz hc hs pc st os)) ∧ Below w.heap.size w w' := by
  have HB := Below.refl w.heap.size w
  obtain ⟨n5, hn5⟩ : ∃ n, n = hs.length := ⟨_, rfl⟩
  obtain ⟨n8, hn8⟩ : ∃ n, n = os.length := ⟨_, rfl⟩
  have hM : n5 ≤ 9223372036854775807 ∧ n8 ≤ 9223372036854775807 := ⟨hn5 ▸ r5.2.1, hn8 ▸ r8.2.1⟩
  obtain ⟨hM5, hM8⟩ := hM
  obtain ⟨G, hG⟩ : ∃ G, G = machGood n0 z c hz hc hs pc st os := ⟨_, rfl⟩
  rw [← hG]
  rw [← hn5] at r5 ⊢
  rw [← hn8] at r8 ⊢
  have hGf : hdB n0 z c hz hc n5 pc st n8 = false → G = false := fun h => by rw [hG]; exact good_hd (by rw [← hn5, ← hn8]; exact h)
  have hGt : hdB n0 z c hz hc n5 pc st n8 = true → G = (allFrom (heapsOk hs) n5 0 && allFrom (obsOk os) n8 0) := fun h => by rw [hG]; unfold machGood; rw [← hn5, ← hn8, h, Bool.true_and]
  have HGf := Aside0.mk hGf
  have HGt := Aside0.mk hGt
  have H5 := Aside0.mk hn5
  have H8 := Aside0.mk hn8
  clear hGf hGt hn5 hn8 hG
  go_enter Try.func29, Try.ntmps29
  go_upto_region 1 with (first | ((with_reducible refine gate_dst (N := 1) rfl ?_); refine box_event ?hg (N := 1) ?hd (cs := #[.slice a0 n0 c0, .bool z, .bool c, .bool hz, .bool hc, .slice a5 n5 c5, .int .i64 pc, .int .i64 st, .slice a8 n8 c8]) (t := 40) ?hr ?_; (case hd => rfl); (case hg => rfl); (case hr => first | (go_simp; done) | (go_simp; rfl)); intro g0 hg W hbox hb; have kb_ := below_step HB hb; clear HB; have HB := kb_; clear kb_ hb hg; have BK0 := hbox; clear hbox))
  have r5' := Kd.C_below r5 HB
  have r8' := Kd.C_below r8 HB
  clear r5 r8
  have HW := Below.refl W.heap.size W
  have BK0 := Aside0.mk BK0
  have r5 := Aside0.mk r5'
  have r8 := Aside0.mk r8'
  clear r5' r8'
  go_cut [0, 53] (fun s0 s53 wx => s53 = .bool (!hdB n0 z c hz hc n5 pc st n8) ∧ Below W.heap.size W wx)
  case first =>
    have z0 : W.cell? ⟨g0, 0, none⟩ = some (.slice a0 n0 c0) := (blk_cell BK0.out 0).trans rfl
    have z1 : W.cell? ⟨g0, 1, none⟩ = some (.bool z) := (blk_cell BK0.out 1).trans rfl
    have z2 : W.cell? ⟨g0, 2, none⟩ = some (.bool c) := (blk_cell BK0.out 2).trans rfl
    have z3 : W.cell? ⟨g0, 3, none⟩ = some (.bool hz) := (blk_cell BK0.out 3).trans rfl
    have z4 : W.cell? ⟨g0, 4, none⟩ = some (.bool hc) := (blk_cell BK0.out 4).trans rfl
    have z5 : W.cell? ⟨g0, 5, none⟩ = some (.slice a5 n5 c5) := (blk_cell BK0.out 5).trans rfl
    have z6 : W.cell? ⟨g0, 6, none⟩ = some (.int .i64 pc) := (blk_cell BK0.out 6).trans rfl
    have z7 : W.cell? ⟨g0, 7, none⟩ = some (.int .i64 st) := (blk_cell BK0.out 7).trans rfl
    have z8 : W.cell? ⟨g0, 8, none⟩ = some (.slice a8 n8 c8) := (blk_cell BK0.out 8).trans rfl
    go_wp2_with (first | (go_at_call 44; refine (in_calls _ _ _ _).mono ?_; rintro e w' ⟨rfl, rfl⟩))
    all_goals
      go_meet
      refine ⟨?_, HW⟩
      unfold hdB
      congr 1
      rw [Bool.eq_iff_iff]
      simp [*]
      try omega
  case rest =>
    obtain ⟨rfl, hbx⟩ := hcut
    obtain ⟨V, hV⟩ : ∃ x : World, x = wc := ⟨_, rfl⟩
    rw [← hV] at hbx ⊢
    clear hV HW
    have k_ := Aside0.mk (blk_below BK0.out hbx)
    clear BK0
    have BK0 := k_
    clear k_
    have k_ := Aside0.mk (Kd.C_below r5.out hbx)
    clear r5
    have r5 := k_
    clear k_
    have k_ := Aside0.mk (Kd.C_below r8.out hbx)
    clear r8
    have r8 := k_
    clear k_
    have HB2 := Aside0.mk (below_step HB hbx)
    clear HB hbx
    cases hd : hdB n0 z c hz hc n5 pc st n8 with
    | false =>
      have hg := HGf.out hd
      subst hg
      clear hd HGf HGt
      go_wp2
      go_ret
      exact ⟨rfl, HB2.out⟩
    | true =>
      have HG := Aside0.mk (HGt.out hd)
      clear hd HGf HGt
      go_wp2_with fail
      go_loopg [3] n5 (fun q v3 wr => ∃ k : Nat, v3 = .int .i64 k ∧ k + q = n5 ∧ Aside0 (allFrom (heapsOk hs) n5 0 = allFrom (heapsOk hs) n5 k) ∧ Aside0 (Below V.heap.size V wr))
      case atStart => exact ⟨0, rfl, by omega, ⟨rfl⟩, ⟨Below.refl _ _⟩⟩
      case round =>
        obtain ⟨k, rfl, hk, HP, HV⟩ := hrel
        have hk := Aside0.mk hk
        by_cases hlt : k < n5
        · obtain ⟨ad, A2, c2, ead, y0, y1, y2, l2, r2⟩ := heapAt r5.out k (by have := H5.out; omega)
          cases ead
          obtain ⟨x, hx⟩ : ∃ x, x = hAt hs k := ⟨_, rfl⟩
          rw [← hx] at y0 y1 y2 l2 r2
          obtain ⟨m, hm⟩ : ∃ m : Nat, m = x.f2.length := ⟨_, rfl⟩
          rw [← hm] at y2
          have hm63 : m ≤ 9223372036854775807 := hm ▸ r2.2.1
          have HM := Aside0.mk hm
          have Hsz : ∀ w1 : World, Below wr.heap.size wr w1 → Calls Try.prog 55 #[.agg #[.int .u64 x.f0, .bool x.f1, .slice A2 m c2]] w1 fun e w' => e = .returned (.int .u64 (m : Int)) ∧ Below w1.heap.size w1 w' := fun w1 hb => by
            rw [hm]; exact size_calls x.f0 x.f1 A2 c2 x.f2 w1 (Kd.C_below (Kd.C_below r2 HV.out) hb) l2
          have Hsz := Aside0.mk Hsz
          clear hm l2 r2
          have HX := Aside0.mk hx
          have y0 := keepC' y0 HV.out
          have y1 := keepC' y1 HV.out
          have y2 := keepC' y2 HV.out
          clear hx
          have z5 : wr.cell? ⟨g0, 5, none⟩ = some (.slice (some ad) n5 c5) := (blk_cell (blk_below BK0.out HV.out) 5).trans rfl
          go_upto_region 7 with fail
          obtain ⟨V4, hWW⟩ : ∃ q : World, q = wr.alloc (.cells #[.int .u64 x.f0, .bool x.f1, .slice A2 m c2] 35) := ⟨_, rfl⟩
          have hb4 : Below wr.heap.size wr V4 := by rw [hWW]; exact below_alloc (Below.refl _ _) _
          have BK4 := Aside0.mk (show V4.heap[wr.heap.size]? = some (.cells #[.int .u64 x.f0, .bool x.f1, .slice A2 m c2] 35 (0, 0)) by rw [hWW]; exact blk_new _ _)
          rw [← hWW]
          clear hWW
          obtain ⟨g4, hg4⟩ : ∃ g, g = wr.heap.size := ⟨_, rfl⟩
          rw [← hg4] at BK4 ⊢
          clear hg4 y0 y1 y2 z5
          have HV4 := Aside0.mk (below_step HV.out hb4)
          have hsz : ∀ w1 : World, Below V4.heap.size V4 w1 → Calls Try.prog 55 #[.agg #[.int .u64 x.f0, .bool x.f1, .slice A2 m c2]] w1 fun e w' => e = .returned (.int .u64 (m : Int)) ∧ Below w1.heap.size w1 w' := fun w1 hb => Hsz.out w1 (below_step hb4 hb)
          clear HV hb4 Hsz
          have Hsz := Aside0.mk hsz
          clear hsz
          have HW := Below.refl V4.heap.size V4
          go_cut [83] (fun s83 wx => s83 = .bool (okA x || okB x || okC x) ∧ Below V4.heap.size V4 wx)
          case first =>
            have HK : ∀ w1 : World, Below V4.heap.size V4 w1 → w1.cell? ⟨g4, 0, none⟩ = some (.int .u64 x.f0) ∧ w1.cell? ⟨g4, 1, none⟩ = some (.bool x.f1) ∧ w1.cell? ⟨g4, 2, none⟩ = some (.slice A2 m c2) ∧ Below V4.heap.size V4 w1 := fun w1 hb => ⟨(blk_cell (blk_below BK4.out hb) 0).trans rfl, (blk_cell (blk_below BK4.out hb) 1).trans rfl, (blk_cell (blk_below BK4.out hb) 2).trans rfl, hb⟩
            have HK := Aside0.mk HK
            have eA : okA x = decide ((m : Int) < 1) := by unfold okA lenI; rw [HM.out]
            have eB : okB x = decide (4096 < (m : Int)) := by unfold okB lenI; rw [HM.out]
            have eC : okC x = decide (IntKind.u64.wrap (18446744073709551615 - (m : Int)) < x.f0) := by unfold okC lenI; rw [HM.out]
            have HE := Aside0.mk (show (okA x || okB x || okC x) = (decide ((m : Int) < 1) || decide (4096 < (m : Int)) || decide (IntKind.u64.wrap (18446744073709551615 - (m : Int)) < x.f0)) by rw [eA, eB, eC])
            clear eA eB eC
            by_cases hA : m < 1
            · have hA' : decide ((m : Int) < 1) = true := decide_eq_true (by omega)
              obtain ⟨y0, y1, y2, _⟩ := HK.out V4 (Below.refl _ _)
              go_quiet (fail)
              go_wp2_with fail
              go_meet
              exact ⟨by rw [HE.out]; simp [hA'], by exact pw_below_drewN (Below.refl _ _) _⟩
            · have hA' : decide ((m : Int) < 1) = false := decide_eq_false (by omega)
              by_cases hB : 4096 < m
              · have hB' : decide (4096 < (m : Int)) = true := decide_eq_true (by omega)
                obtain ⟨y0, y1, y2, _⟩ := HK.out V4 (Below.refl _ _)
                go_quiet (fail)
                go_wp2_with fail
                go_meet
                exact ⟨by rw [HE.out]; simp [hB'], by exact pw_below_drewN (Below.refl _ _) _⟩
              · have hB' : decide (4096 < (m : Int)) = false := decide_eq_false (by omega)
                go_region_held3 (fun w1 => w1.cell? ⟨g4, 0, none⟩ = some (.int .u64 x.f0) ∧ w1.cell? ⟨g4, 1, none⟩ = some (.bool x.f1) ∧ w1.cell? ⟨g4, 2, none⟩ = some (.slice A2 m c2) ∧ Below V4.heap.size V4 w1) (((with_reducible refine HK.out _ ?_); (repeat (with_reducible first | assumption | apply below_drew1 | apply below_alloc)))) (first | (go_at_call 55; refine (Hsz.out _ (by (repeat (with_reducible first | assumption | apply below_drew1 | apply below_alloc)))).mono ?_; rintro e w' ⟨rfl, hb⟩; have HBk : Below V4.heap.size V4 w' := below_step (by (repeat (with_reducible first | assumption | apply below_drew1 | apply below_alloc))) hb))
                all_goals
                  go_wp2_with fail
                  go_meet
                  refine ⟨?_, by with_reducible assumption⟩
                  rw [HE.out, hA', hB', Bool.false_or, Bool.false_or]
          case rest =>
            obtain ⟨rfl, hb⟩ := hcut
            obtain ⟨V5, hWW⟩ : ∃ q : World, q = wc := ⟨_, rfl⟩
            rw [← hWW] at hb ⊢
            clear hWW HW
            have k1 := Aside0.mk (below_step HV4.out hb)
            have k2 := Aside0.mk (blk_below BK4.out hb)
            have k3 : ∀ w1 : World, Below V5.heap.size V5 w1 → Calls Try.prog 55 #[.agg #[.int .u64 x.f0, .bool x.f1, .slice A2 m c2]] w1 fun e w' => e = .returned (.int .u64 (m : Int)) ∧ Below w1.heap.size w1 w' := fun w1 hb1 => Hsz.out w1 (below_step hb hb1)
            have k3 := Aside0.mk k3
            clear HV4 BK4 Hsz hb
            have HV5 := k1
            have BK4 := k2
            have Hsz := k3
            clear k1 k2 k3
            cases ho : (okA x || okB x || okC x) with
            | true =>
              have hP : heapsOk hs k = false := by unfold heapsOk heapOk; rw [← HX.out, ho]; rfl
              have hg : G = false := fail_of HG.out HP.out hlt hP
              subst hg
              clear ho hP HG HP
              go_wp2
              go_ret
              exact ⟨rfl, below_step HB2.out HV5.out⟩
            | false =>
              have HO := Aside0.mk ho
              clear ho
              go_wp2_with fail
              go_loopg [5] k (fun q v5 wr2 => ∃ j : Nat, v5 = .int .i64 j ∧ Aside0 (j + q = k) ∧ Aside0 (allFrom (fun j => !lap x (hAt hs j)) k 0 = allFrom (fun j => !lap x (hAt hs j)) k j) ∧ Aside0 (Below V5.heap.size V5 wr2))
              case atStart => exact ⟨0, rfl, ⟨by omega⟩, ⟨rfl⟩, ⟨Below.refl _ _⟩⟩
              case round =>
                obtain ⟨j, rfl, hj, HQ, HV6⟩ := hrel
                by_cases hjk : j < k
                · obtain ⟨ad2, B2, d2, ead, y0, y1, y2, l2, r2⟩ := heapAt r5.out j (by have := H5.out; omega)
                  injection ead with ead
                  subst ead
                  obtain ⟨y, hy⟩ : ∃ y, y = hAt hs j := ⟨_, rfl⟩
                  rw [← hy] at y0 y1 y2 l2 r2
                  obtain ⟨m2, hm⟩ : ∃ m : Nat, m = y.f2.length := ⟨_, rfl⟩
                  rw [← hm] at y2
                  have hm263 : m2 ≤ 9223372036854775807 := hm ▸ r2.2.1
                  have HV := Aside0.mk (below_step HV5.out HV6.out)
                  have HM2 := Aside0.mk hm
                  have Hsz2 : ∀ w1 : World, Below wr.heap.size wr w1 → Calls Try.prog 55 #[.agg #[.int .u64 y.f0, .bool y.f1, .slice B2 m2 d2]] w1 fun e w' => e = .returned (.int .u64 (m2 : Int)) ∧ Below w1.heap.size w1 w' := fun w1 hb => by
                    rw [hm]; exact size_calls y.f0 y.f1 B2 d2 y.f2 w1 (Kd.C_below (Kd.C_below r2 HV.out) hb) l2
                  have Hsz2 := Aside0.mk Hsz2
                  clear hm l2 r2
                  have HY := Aside0.mk hy
                  have y0 := keepC' y0 HV.out
                  have y1 := keepC' y1 HV.out
                  have y2 := keepC' y2 HV.out
                  clear hy
                  have z5 : wr.cell? ⟨g0, 5, none⟩ = some (.slice (some ad) n5 c5) := (blk_cell (blk_below BK0.out HV.out) 5).trans rfl
                  go_upto_region 13 with fail
                  obtain ⟨V6, hWW⟩ : ∃ q : World, q = wr.alloc (.cells #[.int .u64 y.f0, .bool y.f1, .slice B2 m2 d2] 35) := ⟨_, rfl⟩
                  have hb4 : Below wr.heap.size wr V6 := by rw [hWW]; exact below_alloc (Below.refl _ _) _
                  have BK6 := Aside0.mk (show V6.heap[wr.heap.size]? = some (.cells #[.int .u64 y.f0, .bool y.f1, .slice B2 m2 d2] 35 (0, 0)) by rw [hWW]; exact blk_new _ _)
                  rw [← hWW]
                  clear hWW
                  obtain ⟨g6, hg6⟩ : ∃ g, g = wr.heap.size := ⟨_, rfl⟩
                  rw [← hg6] at BK6 ⊢
                  clear hg6 y0 y1 y2 z5
                  have HV7 := Aside0.mk (below_step HV6.out hb4)
                  have BK4' := Aside0.mk (blk_below BK4.out HV7.out)
                  have hsz : ∀ w1 : World, Below V6.heap.size V6 w1 → Calls Try.prog 55 #[.agg #[.int .u64 y.f0, .bool y.f1, .slice B2 m2 d2]] w1 fun e w' => e = .returned (.int .u64 (m2 : Int)) ∧ Below w1.heap.size w1 w' := fun w1 hb => Hsz2.out w1 (below_step hb4 hb)
                  have hsz' : ∀ w1 : World, Below V6.heap.size V6 w1 → Calls Try.prog 55 #[.agg #[.int .u64 x.f0, .bool x.f1, .slice A2 m c2]] w1 fun e w' => e = .returned (.int .u64 (m : Int)) ∧ Below w1.heap.size w1 w' := fun w1 hb => Hsz.out w1 (below_step HV7.out hb)
                  clear hb4 Hsz2 HV HV6
                  have Hsz2 := Aside0.mk hsz
                  have HszO := Hsz
                  clear Hsz
                  have Hsz := Aside0.mk hsz'
                  clear hsz hsz'
                  have HW := Below.refl V6.heap.size V6
                  go_cut [111] (fun s111 wx => s111 = .bool (lap x y) ∧ Below V6.heap.size V6 wx)
                  case first =>
                    have HK : ∀ w1 : World, Below V6.heap.size V6 w1 → w1.cell? ⟨g4, 0, none⟩ = some (.int .u64 x.f0) ∧ w1.cell? ⟨g4, 1, none⟩ = some (.bool x.f1) ∧ w1.cell? ⟨g4, 2, none⟩ = some (.slice A2 m c2) ∧ w1.cell? ⟨g6, 0, none⟩ = some (.int .u64 y.f0) ∧ w1.cell? ⟨g6, 1, none⟩ = some (.bool y.f1) ∧ w1.cell? ⟨g6, 2, none⟩ = some (.slice B2 m2 d2) ∧ Below V6.heap.size V6 w1 := fun w1 hb => ⟨(blk_cell (blk_below BK4'.out hb) 0).trans rfl, (blk_cell (blk_below BK4'.out hb) 1).trans rfl, (blk_cell (blk_below BK4'.out hb) 2).trans rfl, (blk_cell (blk_below BK6.out hb) 0).trans rfl, (blk_cell (blk_below BK6.out hb) 1).trans rfl, (blk_cell (blk_below BK6.out hb) 2).trans rfl, hb⟩
                    have HK := Aside0.mk HK
                    have eA : lapA x y = decide (x.f0 < IntKind.u64.wrap (y.f0 + (m2 : Int))) := by unfold lapA lenI; rw [HM2.out]
                    have eB : lapA y x = decide (y.f0 < IntKind.u64.wrap (x.f0 + (m : Int))) := by unfold lapA lenI; rw [HM.out]
                    have HE := Aside0.mk (show lap x y = (decide (x.f0 < IntKind.u64.wrap (y.f0 + (m2 : Int))) && decide (y.f0 < IntKind.u64.wrap (x.f0 + (m : Int)))) by unfold lap; rw [eA, eB])
                    clear eA eB
                    cases hA : decide (x.f0 < IntKind.u64.wrap (y.f0 + (m2 : Int))) with
                    | false =>
                      refine start_ (n := 18) (S := fun w1 => w1.cell? ⟨g4, 0, none⟩ = some (.int .u64 x.f0) ∧ w1.cell? ⟨g4, 1, none⟩ = some (.bool x.f1) ∧ w1.cell? ⟨g4, 2, none⟩ = some (.slice A2 m c2) ∧ w1.cell? ⟨g6, 0, none⟩ = some (.int .u64 y.f0) ∧ w1.cell? ⟨g6, 1, none⟩ = some (.bool y.f1) ∧ w1.cell? ⟨g6, 2, none⟩ = some (.slice B2 m2 d2) ∧ Below V6.heap.size V6 w1) (ds := []) #[false, false, false, false, false, false, false, false, false, false, false, false, false, false, false, false, false, false] (by kernel_rfl) rfl rfl (HK.out _ (below_drew1 HW)) (fun hHeld => ?_)
                      refine pure_ (i := 0) (N := some 94) (v := ?_) (a' := ?_) #[true, false, false, false, false, false, false, false, false, false, false, false, false, false, false, false, false, false] rfl rfl (by kernel_rfl) (fun _ _ _ h => h) (Or.inl ⟨by rfl, ?_⟩) ?_ ?_
                      rotate_left
                      · intro w'
                        go_simp
                        with_reducible rfl
                      rotate_left
                      · simp only [Act.put, List.setIfInBounds_toArray, List.set_cons_zero, List.set_cons_succ, i64_w, i32_w]
                        rfl
                      refine pure_ (i := 2) (N := some 96) (v := ?_) (a' := ?_) #[true, false, true, false, false, false, false, false, false, false, false, false, false, false, false, false, false, false] rfl rfl (by kernel_rfl) (fun _ _ _ h => h) (Or.inl ⟨by rfl, ?_⟩) ?_ ?_
                      rotate_left
                      · intro w'
                        go_simp
                        with_reducible rfl
                      rotate_left
                      · simp only [Act.put, List.setIfInBounds_toArray, List.set_cons_zero, List.set_cons_succ, i64_w, i32_w]
                        rfl
                      refine take_ (i := 1) (N := some 95) (v := ?_) (a' := ?_) #[true, true, true, false, false, false, false, false, false, false, false, false, false, false, false, false, false, false] rfl rfl (by kernel_rfl) (fun _ _ _ h => h) (Or.inl ⟨by rfl, ?_⟩) hHeld ?_ ?_
                      rotate_left
                      · rintro w' ⟨s0, s1, s2, s3, s4, s5, s6⟩
                        go_simp
                        with_reducible rfl
                      rotate_left
                      · simp only [Act.put, List.setIfInBounds_toArray, List.set_cons_zero, List.set_cons_succ, i64_w, i32_w]
                        rfl
                      refine take_ (i := 3) (N := some 97) (v := ?_) (a' := ?_) #[true, true, true, true, false, false, false, false, false, false, false, false, false, false, false, false, false, false] rfl rfl (by kernel_rfl) (fun _ _ _ h => h) (Or.inl ⟨by rfl, ?_⟩) hHeld ?_ ?_
                      rotate_left
                      · rintro w' ⟨s0, s1, s2, s3, s4, s5, s6⟩
                        go_simp
                        with_reducible rfl
                      rotate_left
                      · simp only [Act.put, List.setIfInBounds_toArray, List.set_cons_zero, List.set_cons_succ, i64_w, i32_w]
                        rfl
                      refine take_ (i := 4) (N := some 98) (v := ?_) (a' := ?_) #[true, true, true, true, true, false, false, false, false, false, false, false, false, false, false, false, false, false] rfl rfl (by kernel_rfl) (fun _ _ _ h => h) (Or.inl ⟨by rfl, ?_⟩) hHeld ?_ ?_
                      rotate_left
                      · rintro w' ⟨s0, s1, s2, s3, s4, s5, s6⟩
                        go_simp
                        with_reducible rfl
                      rotate_left
                      · simp only [Act.put, List.setIfInBounds_toArray, List.set_cons_zero, List.set_cons_succ, i64_w, i32_w]
                        rfl
                      refine one_ (i := 5) (N := some 99) #[true, true, true, true, true, true, false, false, false, false, false, false, false, false, false, false, false, false] rfl rfl (by kernel_rfl) (by decide) (fun K hK => ?_)
                      refine goes_ Try.func55 (by kernel_rfl) rfl #[.agg #[.int .u64 y.f0, .bool y.f1, .slice B2 m2 d2]] (by rfl) rfl rfl (by (try simp only [List.map_toArray, List.map_cons, List.map_nil]); first | done | rfl) ?_
                      refine (Hsz2.out _ hHeld.2.2.2.2.2.2).mono ?_
                      rintro e w' ⟨rfl, hb⟩
                      have HBk : Below V6.heap.size V6 w' := below_step hHeld.2.2.2.2.2.2 hb
                      refine ⟨_, rfl, ?_⟩
                      clear hHeld hb
                      refine hK.out _ _ (HK.out _ HBk) (fun hHeld => ?_)
                      clear hK K
                      refine norm_ (a' := ?_) ?_ ?_
                      rotate_left
                      · show Act.put _ (some 99) _ = _
                        simp only [Act.put, List.setIfInBounds_toArray, List.set_cons_zero, List.set_cons_succ, i64_w, i32_w]
                        rfl
                      refine pure_ (i := 6) (N := some 100) (v := ?_) (a' := ?_) #[true, true, true, true, true, true, true, false, false, false, false, false, false, false, false, false, false, false] rfl rfl (by kernel_rfl) (fun _ _ _ h => h) (Or.inl ⟨by rfl, ?_⟩) ?_ ?_
                      rotate_left
                      · intro w'
                        go_simp
                        with_reducible rfl
                      rotate_left
                      · simp only [Act.put, List.setIfInBounds_toArray, List.set_cons_zero, List.set_cons_succ, i64_w, i32_w]
                        rfl
                      refine pure_ (i := 7) (N := some 101) (v := ?_) (a' := ?_) #[true, true, true, true, true, true, true, true, false, false, false, false, false, false, false, false, false, false] rfl rfl (by kernel_rfl) (fun _ _ _ h => h) (Or.inl ⟨by rfl, ?_⟩) ?_ ?_
                      rotate_left
                      · intro w'
                        go_simp
                        with_reducible rfl
                      rotate_left
                      · simp only [Act.put, List.setIfInBounds_toArray, List.set_cons_zero, List.set_cons_succ, i64_w, i32_w]
                        rfl
                      refine pure_ (i := 8) (N := some 102) (v := ?_) (a' := ?_) #[true, true, true, true, true, true, true, true, true, false, false, false, false, false, false, false, false, false] rfl rfl (by kernel_rfl) (fun _ _ _ h => h) (Or.inl ⟨by rfl, ?_⟩) ?_ ?_
                      rotate_left
                      · intro w'
                        go_simp
                        with_reducible rfl
                      rotate_left
                      · simp only [Act.put, List.setIfInBounds_toArray, List.set_cons_zero, List.set_cons_succ, i64_w, i32_w]
                        rfl
                      refine pure_ (i := 9) (N := some 103) (v := undef) (a' := ?_) #[true, true, true, true, true, true, true, true, true, true, false, false, false, false, false, false, false, false] rfl rfl (by kernel_rfl) (fun _ _ _ h => h) (Or.inr ⟨by rfl, rfl⟩) ?_ ?_
                      rotate_left
                      · simp only [Act.put, List.setIfInBounds_toArray, List.set_cons_zero, List.set_cons_succ, i64_w, i32_w]
                        rfl
                      refine pure_ (i := 10) (N := some 104) (v := undef) (a' := ?_) #[true, true, true, true, true, true, true, true, true, true, true, false, false, false, false, false, false, false] rfl rfl (by kernel_rfl) (fun _ _ _ h => h) (Or.inr ⟨by rfl, rfl⟩) ?_ ?_
                      rotate_left
                      · simp only [Act.put, List.setIfInBounds_toArray, List.set_cons_zero, List.set_cons_succ, i64_w, i32_w]
                        rfl
                      refine pure_ (i := 11) (N := some 105) (v := undef) (a' := ?_) #[true, true, true, true, true, true, true, true, true, true, true, true, false, false, false, false, false, false] rfl rfl (by kernel_rfl) (fun _ _ _ h => h) (Or.inr ⟨by rfl, rfl⟩) ?_ ?_
                      rotate_left
                      · simp only [Act.put, List.setIfInBounds_toArray, List.set_cons_zero, List.set_cons_succ, i64_w, i32_w]
                        rfl
                      refine pure_ (i := 12) (N := some 106) (v := undef) (a' := ?_) #[true, true, true, true, true, true, true, true, true, true, true, true, true, false, false, false, false, false] rfl rfl (by kernel_rfl) (fun _ _ _ h => h) (Or.inr ⟨by rfl, rfl⟩) ?_ ?_
                      rotate_left
                      · simp only [Act.put, List.setIfInBounds_toArray, List.set_cons_zero, List.set_cons_succ, i64_w, i32_w]
                        rfl
                      refine pure_ (i := 13) (N := some 107) (v := undef) (a' := ?_) #[true, true, true, true, true, true, true, true, true, true, true, true, true, true, false, false, false, false] rfl rfl (by kernel_rfl) (fun _ _ _ h => h) (Or.inr ⟨by rfl, rfl⟩) ?_ ?_
                      rotate_left
                      · simp only [Act.put, List.setIfInBounds_toArray, List.set_cons_zero, List.set_cons_succ, i64_w, i32_w]
                        rfl
                      refine pure_ (i := 14) (N := some 108) (v := undef) (a' := ?_) #[true, true, true, true, true, true, true, true, true, true, true, true, true, true, true, false, false, false] rfl rfl (by kernel_rfl) (fun _ _ _ h => h) (Or.inr ⟨by rfl, rfl⟩) ?_ ?_
                      rotate_left
                      · simp only [Act.put, List.setIfInBounds_toArray, List.set_cons_zero, List.set_cons_succ, i64_w, i32_w]
                        rfl
                      refine pure_ (i := 15) (N := some 109) (v := undef) (a' := ?_) #[true, true, true, true, true, true, true, true, true, true, true, true, true, true, true, true, false, false] rfl rfl (by kernel_rfl) (fun _ _ _ h => h) (Or.inr ⟨by rfl, rfl⟩) ?_ ?_
                      rotate_left
                      · simp only [Act.put, List.setIfInBounds_toArray, List.set_cons_zero, List.set_cons_succ, i64_w, i32_w]
                        rfl
                      refine pure_ (i := 16) (N := some 110) (v := undef) (a' := ?_) #[true, true, true, true, true, true, true, true, true, true, true, true, true, true, true, true, true, false] rfl rfl (by kernel_rfl) (fun _ _ _ h => h) (Or.inr ⟨by rfl, rfl⟩) ?_ ?_
                      rotate_left
                      · simp only [Act.put, List.setIfInBounds_toArray, List.set_cons_zero, List.set_cons_succ, i64_w, i32_w]
                        rfl
                      refine pure_ (i := 17) (N := some 111) (v := ?_) (a' := ?_) #[true, true, true, true, true, true, true, true, true, true, true, true, true, true, true, true, true, true] rfl rfl (by kernel_rfl) (fun _ _ _ h => h) (Or.inl ⟨by rfl, ?_⟩) ?_ ?_
                      rotate_left
                      · intro w'
                        go_simp
                        with_reducible rfl
                      rotate_left
                      · simp only [Act.put, List.setIfInBounds_toArray, List.set_cons_zero, List.set_cons_succ, i64_w, i32_w]
                        rfl
                      refine done_ (by kernel_rfl) ?_
                      go_wp2_with fail
                      go_meet
                      refine ⟨?_, HBk⟩
                      rw [HE.out, hA, Bool.false_and]
                    | true =>
                      go_region_held3 (fun w1 => w1.cell? ⟨g4, 0, none⟩ = some (.int .u64 x.f0) ∧ w1.cell? ⟨g4, 1, none⟩ = some (.bool x.f1) ∧ w1.cell? ⟨g4, 2, none⟩ = some (.slice A2 m c2) ∧ w1.cell? ⟨g6, 0, none⟩ = some (.int .u64 y.f0) ∧ w1.cell? ⟨g6, 1, none⟩ = some (.bool y.f1) ∧ w1.cell? ⟨g6, 2, none⟩ = some (.slice B2 m2 d2) ∧ Below V6.heap.size V6 w1) (((with_reducible refine HK.out _ ?_); (repeat (with_reducible first | assumption | apply below_drew1 | apply below_alloc)))) (first | (go_at_call_of 55 (Value.slice B2 m2 d2); refine (Hsz2.out _ (by (repeat (with_reducible first | assumption | apply below_drew1 | apply below_alloc)))).mono ?_; rintro e w' ⟨rfl, hb⟩; have HBk : Below V6.heap.size V6 w' := below_step (by (repeat (with_reducible first | assumption | apply below_drew1 | apply below_alloc))) hb) | (go_at_call_of 55 (Value.slice A2 m c2); refine (Hsz.out _ (by (repeat (with_reducible first | assumption | apply below_drew1 | apply below_alloc)))).mono ?_; rintro e w' ⟨rfl, hb⟩; have HBk : Below V6.heap.size V6 w' := below_step (by (repeat (with_reducible first | assumption | apply below_drew1 | apply below_alloc))) hb))
                      all_goals
                        go_wp2_with fail
                        go_meet
                        refine ⟨?_, by with_reducible assumption⟩
                        rw [HE.out, hA, Bool.true_and]
                  case rest =>
                    obtain ⟨rfl, hb⟩ := hcut
                    cases hl : lap x y with
                    | true =>
                      have hQ : (!lap x (hAt hs j)) = false := by rw [← HY.out, hl]; rfl
                      have hA : allFrom (fun j => !lap x (hAt hs j)) k 0 = false := by rw [HQ.out, allFrom_step hjk, hQ]; rfl
                      have hP : heapsOk hs k = false := by unfold heapsOk; rw [← HX.out, hA, Bool.and_false]
                      have hg : G = false := fail_of HG.out HP.out hlt hP
                      subst hg
                      have HBz := Aside0.mk (below_step (below_step (below_step HB2.out HV5.out) HV7.out) hb)
                      clear hl hQ hA hP HG HP HQ hb HW
                      go_wp2
                      go_ret
                      exact ⟨rfl, HBz.out⟩
                    | false =>
                      have hQ : (!lap x (hAt hs j)) = true := by rw [← HY.out, hl]; rfl
                      have HQ2 := Aside0.mk (show allFrom (fun j => !lap x (hAt hs j)) k 0 = allFrom (fun j => !lap x (hAt hs j)) k (j + 1) by rw [HQ.out, allFrom_step hjk, hQ, Bool.true_and])
                      have HV8 := Aside0.mk (below_step HV7.out hb)
                      clear hl hQ HQ hb HW HV7
                      go_wp2
                      go_roundg (k - (j + 1))
                      case measure => have := hj.out; omega
                      case rel => exact ⟨j + 1, by go_num, ⟨by omega⟩, HQ2, HV8⟩
                · have ej : j = k := by have := hj.out; omega
                  have hA : allFrom (fun j => !lap x (hAt hs j)) k 0 = true := by rw [HQ.out, ej, allFrom_end]
                  have hP : heapsOk hs k = true := by unfold heapsOk heapOk; rw [← HX.out, hA, HO.out]; rfl
                  have HP2 := Aside0.mk (show allFrom (heapsOk hs) n5 0 = allFrom (heapsOk hs) n5 (k + 1) by rw [HP.out, allFrom_step hlt, hP, Bool.true_and])
                  have HV8 := Aside0.mk (below_step HV5.out HV6.out)
                  clear ej hA hP HP HQ
                  go_wp2
                  go_roundg (n5 - (k + 1))
                  case measure => have := hk.out; omega
                  case rel => exact ⟨k + 1, by go_num, by omega, HP2, HV8⟩
        · have ek : k = n5 := by have := hk.out; omega
          have hP : allFrom (heapsOk hs) n5 0 = true := by rw [HP.out, ek, allFrom_end]
          have HG2 := Aside0.mk (show G = allFrom (obsOk os) n8 0 by rw [HG.out, hP, Bool.true_and])
          have hlt2 : n5 ≤ k := by omega
          have z5 : wr.cell? ⟨g0, 5, none⟩ = some (.slice a5 n5 c5) := (blk_cell (blk_below BK0.out HV.out) 5).trans rfl
          clear ek hP HP HG
          go_wp2_with fail
          clear z5
          go_loopg [7] n8 (fun q v7 wr2 => ∃ j : Nat, v7 = .int .i64 j ∧ Aside0 (j + q = n8) ∧ Aside0 (allFrom (obsOk os) n8 0 = allFrom (obsOk os) n8 j) ∧ Aside0 (Below V.heap.size V wr2))
          case atStart => exact ⟨0, rfl, ⟨by omega⟩, ⟨rfl⟩, HV⟩
          case round =>
            obtain ⟨j, rfl, hj, HQ, HV2⟩ := hrel
            have z8 : wr.cell? ⟨g0, 8, none⟩ = some (.slice a8 n8 c8) := (blk_cell (blk_below BK0.out HV2.out) 8).trans rfl
            by_cases hjk : j < n8
            · obtain ⟨ad, ead, y0⟩ := obsAt r8.out j (by have := H8.out; omega)
              cases ead
              have y0 := keepC' y0 HV2.out
              obtain ⟨x, hx⟩ : ∃ x, x = (os.getD j z102).f0 := ⟨_, rfl⟩
              rw [← hx] at y0
              have HX := Aside0.mk hx
              clear hx
              cases ho : inB x 1 3 with
              | true =>
                have hQ : obsOk os j = true := by unfold obsOk; rw [← HX.out, ho]
                have HQ2 := Aside0.mk (show allFrom (obsOk os) n8 0 = allFrom (obsOk os) n8 (j + 1) by rw [HQ.out, allFrom_step hjk, hQ, Bool.true_and])
                clear hQ HQ
                go_wp2_with (first | (go_at_call 44; refine (in_calls _ _ _ _).mono ?_; rintro e w' ⟨rfl, rfl⟩))
                go_roundg (n8 - (j + 1))
                case measure => have := hj.out; omega
                case rel => exact ⟨j + 1, by go_num, ⟨by omega⟩, HQ2, HV2⟩
              | false =>
                have hQ : obsOk os j = false := by unfold obsOk; rw [← HX.out, ho]
                have hg : G = false := by rw [HG2.out, HQ.out, allFrom_step hjk, hQ]; rfl
                subst hg
                clear hQ HQ HG2
                go_wp2_with (first | (go_at_call 44; refine (in_calls _ _ _ _).mono ?_; rintro e w' ⟨rfl, rfl⟩))
                go_ret
                exact ⟨rfl, below_step HB2.out HV2.out⟩
            · have ej : j = n8 := by have := hj.out; omega
              have hg : G = true := by rw [HG2.out, HQ.out, ej, allFrom_end]
              subst hg
              clear ej HQ HG2
              go_wp2
              go_ret
              exact ⟨rfl, below_step HB2.out HV2.out⟩
end Go.Proofs.Ytfeglenlpnhofaa.Mk
