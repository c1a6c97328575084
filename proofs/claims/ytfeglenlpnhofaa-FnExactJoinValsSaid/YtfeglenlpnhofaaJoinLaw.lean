/- The law FnExactJoinVals (function 4): called with any two Vals it returns true, and nothing that was in memory changes, if the specification's and the program's JoinVals give the same Val. -/
import Derived.Test.YtfeglenlpnhofaaPFnExactJoinValsx
import Derived.Test.YtfeglenlpnhofaaMem

namespace Go.Proofs.Ytfeglenlpnhofaa.Mine
open Go.RowKit Go.Proofs.YtfeglenlpnhofaaW.PrintWords Go.Proofs.YtfeglenlpnhofaaW.PrintLast Go.Proofs.YtfeglenlpnhofaaW.PrintMore

theorem eqVal_same (a0 : Int) (a1 : Bool) (a2 a3 a4 a5 : Int) : PFnExactJoinVals.laws_eqVal.f a0 a1 a2 a3 a4 a5 a0 a1 a2 a3 a4 a5 = some true := by
  simp [PFnExactJoinVals.laws_eqVal.f]
set_option maxRecDepth 100000 in
set_option maxHeartbeats 4000000 in
theorem law4 (a0 : Int) (a1 : Bool) (a2 a3 a4 a5 : Int) (b0 : Int) (b1 : Bool) (b2 b3 b4 b5 : Int) (c0 : Int) (c1 : Bool) (c2 c3 c4 c5 : Int) (w : World)
    (hs : ∀ w, Calls Try.prog 11 #[.agg #[.int .i64 a0, .bool a1, .int .i64 a2, .int .i64 a3, .int .i64 a4, .int .i64 a5], .agg #[.int .i64 b0, .bool b1, .int .i64 b2, .int .i64 b3, .int .i64 b4, .int .i64 b5]] w fun e w' => e = .returned (.agg #[.int .i64 c0, .bool c1, .int .i64 c2, .int .i64 c3, .int .i64 c4, .int .i64 c5]) ∧ Below w.heap.size w w')
    (hi : ∀ w, Calls Try.prog 13 #[.agg #[.int .i64 a0, .bool a1, .int .i64 a2, .int .i64 a3, .int .i64 a4, .int .i64 a5], .agg #[.int .i64 b0, .bool b1, .int .i64 b2, .int .i64 b3, .int .i64 b4, .int .i64 b5]] w fun e w' => e = .returned (.agg #[.int .i64 c0, .bool c1, .int .i64 c2, .int .i64 c3, .int .i64 c4, .int .i64 c5]) ∧ Below w.heap.size w w') :
    Calls Try.prog 4 #[.agg #[.int .i64 a0, .bool a1, .int .i64 a2, .int .i64 a3, .int .i64 a4, .int .i64 a5], .agg #[.int .i64 b0, .bool b1, .int .i64 b2, .int .i64 b3, .int .i64 b4, .int .i64 b5]] w fun e w' => e = .returned (.bool true) ∧ Below w.heap.size w w' := by
  have Hs := Aside0.mk hs
  have Hi := Aside0.mk hi
  clear hs hi
  go_enter Try.func4, Try.ntmps4
  go_upto_region 1 with fail
  obtain ⟨W, hW, h0, h1, h2, h3, h4, h5, k0, k1, k2, k3, k4, k5, hBW⟩ := two_box a0 a1 a2 a3 a4 a5 b0 b1 b2 b3 b4 b5 24 w
  rw [← hW]
  clear hW
  obtain ⟨g0, hg0⟩ : ∃ g, g = w.heap.size := ⟨_, rfl⟩
  obtain ⟨g1, hg1⟩ : ∃ g, g = w.heap.size + 1 := ⟨_, rfl⟩
  rw [← hg0] at h0 h1 h2 h3 h4 h5
  rw [← hg1] at k0 k1 k2 k3 k4 k5
  have HS : SS g0 g1 a0 a1 a2 a3 a4 a5 b0 b1 b2 b3 b4 b5 W W := ⟨h0, h1, h2, h3, h4, h5, k0, k1, k2, k3, k4, k5, Below.refl _ _⟩
  rw [← hg1, ← hg0]
  have HB := Aside0.mk hBW
  clear hg0 hg1 h0 h1 h2 h3 h4 h5 k0 k1 k2 k3 k4 k5 hBW
  have HW := Below.refl W.heap.size W
  go_cut [5] (fun s5 wx => ∃ g : Nat, s5 = .pointer (some ⟨g, 0, none⟩) ∧ wx.cell? ⟨g, 0, none⟩ = some (.int .i64 c0) ∧ wx.cell? ⟨g, 1, none⟩ = some (.bool c1) ∧ wx.cell? ⟨g, 2, none⟩ = some (.int .i64 c2) ∧ wx.cell? ⟨g, 3, none⟩ = some (.int .i64 c3) ∧ wx.cell? ⟨g, 4, none⟩ = some (.int .i64 c4) ∧ wx.cell? ⟨g, 5, none⟩ = some (.int .i64 c5) ∧ Below W.heap.size W wx)
  case first =>
    go_region_held3 (fun w1 => w1.cell? ⟨g0, 0, none⟩ = some (.int .i64 a0) ∧ w1.cell? ⟨g0, 1, none⟩ = some (.bool a1) ∧ w1.cell? ⟨g0, 2, none⟩ = some (.int .i64 a2) ∧ w1.cell? ⟨g0, 3, none⟩ = some (.int .i64 a3) ∧ w1.cell? ⟨g0, 4, none⟩ = some (.int .i64 a4) ∧ w1.cell? ⟨g0, 5, none⟩ = some (.int .i64 a5) ∧ w1.cell? ⟨g1, 0, none⟩ = some (.int .i64 b0) ∧ w1.cell? ⟨g1, 1, none⟩ = some (.bool b1) ∧ w1.cell? ⟨g1, 2, none⟩ = some (.int .i64 b2) ∧ w1.cell? ⟨g1, 3, none⟩ = some (.int .i64 b3) ∧ w1.cell? ⟨g1, 4, none⟩ = some (.int .i64 b4) ∧ w1.cell? ⟨g1, 5, none⟩ = some (.int .i64 b5) ∧ Below W.heap.size W w1) (((with_reducible refine keepS ?_ HS); (repeat (with_reducible first | assumption | apply below_drew1 | apply below_alloc | refine below_set ?_ (by first | exact Nat.le_refl _ | exact bsz (by assumption))))))
      (first
        | (go_at_call 12; refine (PFnExactJoinVals.laws_toVal.calls _ _ _ _ _ _ _ _ _ _ _ _ _ rfl).mono ?_; rintro e w' ⟨rfl, hb⟩; have HBk : Below W.heap.size W w' := below_step (by (repeat (with_reducible first | assumption | apply below_drew1 | apply below_alloc))) hb; (try (have hn := New6.of_alloc hb)); (try (have hn := New6.of_allocD hb)); (try (have hn := New6.below (by with_reducible assumption) hb)))
        | (go_at_call 11; refine (Hs.out _).mono ?_; rintro e w' ⟨rfl, hb⟩; have HBk : Below W.heap.size W w' := below_step (by (repeat (with_reducible first | assumption | apply below_drew1 | apply below_alloc))) hb; (try (have hn := New6.of_alloc hb; obtain ⟨⟨n0, n1, n2, n3, n4, n5⟩, f0, f1, f2, f3, f4, f5⟩ := hn)); (try (have hn := New6.of_allocD hb; obtain ⟨⟨n0, n1, n2, n3, n4, n5⟩, f0, f1, f2, f3, f4, f5⟩ := hn)); (try (have hn := New6.below (by with_reducible assumption) hb; obtain ⟨⟨n0, n1, n2, n3, n4, n5⟩, f0, f1, f2, f3, f4, f5⟩ := hn))))
    all_goals
      go_wp2_with fail
      go_meet
      exact ⟨_, rfl, by simp [go_sem, *], by simp [go_sem, *], by simp [go_sem, *], by simp [go_sem, *], by simp [go_sem, *], by simp [go_sem, *], sb (g0 := g0) (g1 := g1) (a0 := a0) (a1 := a1) (a2 := a2) (a3 := a3) (a4 := a4) (a5 := a5) (b0 := b0) (b1 := b1) (b2 := b2) (b3 := b3) (b4 := b4) (b5 := b5) (by assumption)⟩
  case rest =>
    obtain ⟨g, rfl, c0g, c1g, c2g, c3g, c4g, c5g, hBx⟩ := hcut
    obtain ⟨W2, hW2⟩ : ∃ x : World, x = wc := ⟨_, rfl⟩
    rw [← hW2] at c0g c1g c2g c3g c4g c5g hBx ⊢
    have HB2 := Aside0.mk (below_step HB.out hBx)
    have HS2 := moveS hBx HS
    have HC := Aside0.mk (And.intro c0g (And.intro c1g (And.intro c2g (And.intro c3g (And.intro c4g c5g)))))
    clear HB HS HW hBx hW2 c0g c1g c2g c3g c4g c5g
    have HS := HS2
    clear HS2
    have HW := Below.refl W2.heap.size W2
    go_upto_region 2 with fail
    go_cut [6] (fun s6 wx => ∃ g : Nat, s6 = .pointer (some ⟨g, 0, none⟩) ∧ wx.cell? ⟨g, 0, none⟩ = some (.int .i64 c0) ∧ wx.cell? ⟨g, 1, none⟩ = some (.bool c1) ∧ wx.cell? ⟨g, 2, none⟩ = some (.int .i64 c2) ∧ wx.cell? ⟨g, 3, none⟩ = some (.int .i64 c3) ∧ wx.cell? ⟨g, 4, none⟩ = some (.int .i64 c4) ∧ wx.cell? ⟨g, 5, none⟩ = some (.int .i64 c5) ∧ Below W2.heap.size W2 wx)
    case first =>
      go_region_held3 (fun w1 => w1.cell? ⟨g0, 0, none⟩ = some (.int .i64 a0) ∧ w1.cell? ⟨g0, 1, none⟩ = some (.bool a1) ∧ w1.cell? ⟨g0, 2, none⟩ = some (.int .i64 a2) ∧ w1.cell? ⟨g0, 3, none⟩ = some (.int .i64 a3) ∧ w1.cell? ⟨g0, 4, none⟩ = some (.int .i64 a4) ∧ w1.cell? ⟨g0, 5, none⟩ = some (.int .i64 a5) ∧ w1.cell? ⟨g1, 0, none⟩ = some (.int .i64 b0) ∧ w1.cell? ⟨g1, 1, none⟩ = some (.bool b1) ∧ w1.cell? ⟨g1, 2, none⟩ = some (.int .i64 b2) ∧ w1.cell? ⟨g1, 3, none⟩ = some (.int .i64 b3) ∧ w1.cell? ⟨g1, 4, none⟩ = some (.int .i64 b4) ∧ w1.cell? ⟨g1, 5, none⟩ = some (.int .i64 b5) ∧ Below W2.heap.size W2 w1) (((with_reducible refine keepS ?_ HS); (repeat (with_reducible first | assumption | apply below_drew1 | apply below_alloc | refine below_set ?_ (by first | exact Nat.le_refl _ | exact bsz (by assumption))))))
        (first
          | (go_at_call 12; refine (PFnExactJoinVals.laws_toVal.calls _ _ _ _ _ _ _ _ _ _ _ _ _ rfl).mono ?_; rintro e w' ⟨rfl, hb⟩; have HBk : Below W2.heap.size W2 w' := below_step (by (repeat (with_reducible first | assumption | apply below_drew1 | apply below_alloc))) hb; (try (have hn := New6.of_alloc hb)); (try (have hn := New6.of_allocD hb)); (try (have hn := New6.below (by with_reducible assumption) hb)))
          | (go_at_call 13; refine (Hi.out _).mono ?_; rintro e w' ⟨rfl, hb⟩; have HBk : Below W2.heap.size W2 w' := below_step (by (repeat (with_reducible first | assumption | apply below_drew1 | apply below_alloc))) hb; (try (have hn := New6.of_alloc hb; obtain ⟨⟨n0, n1, n2, n3, n4, n5⟩, f0, f1, f2, f3, f4, f5⟩ := hn)); (try (have hn := New6.of_allocD hb; obtain ⟨⟨n0, n1, n2, n3, n4, n5⟩, f0, f1, f2, f3, f4, f5⟩ := hn)); (try (have hn := New6.below (by with_reducible assumption) hb; obtain ⟨⟨n0, n1, n2, n3, n4, n5⟩, f0, f1, f2, f3, f4, f5⟩ := hn))))
      all_goals
        go_wp2_with fail
        go_meet
        exact ⟨_, rfl, by simp [go_sem, *], by simp [go_sem, *], by simp [go_sem, *], by simp [go_sem, *], by simp [go_sem, *], by simp [go_sem, *], sb (g0 := g0) (g1 := g1) (a0 := a0) (a1 := a1) (a2 := a2) (a3 := a3) (a4 := a4) (a5 := a5) (b0 := b0) (b1 := b1) (b2 := b2) (b3 := b3) (b4 := b4) (b5 := b5) (by assumption)⟩
    case rest =>
      obtain ⟨h, rfl, e0, e1, e2, e3, e4, e5, hBx⟩ := hcut
      obtain ⟨c0g, c1g, c2g, c3g, c4g, c5g⟩ := HC.out
      have i0 := keepC c0g hBx
      have i1 := keepC c1g hBx
      have i2 := keepC c2g hBx
      have i3 := keepC c3g hBx
      have i4 := keepC c4g hBx
      have i5 := keepC c5g hBx
      have HB3 := Aside0.mk (below_step HB2.out hBx)
      clear HB2 HC HS HW hBx c0g c1g c2g c3g c4g c5g
      go_wp2_with (go_at_call 14; refine (PFnExactJoinVals.laws_eqVal.calls _ _ _ _ _ _ _ _ _ _ _ _ true _ (eqVal_same _ _ _ _ _ _)).mono ?_; rintro e w' ⟨rfl, hb⟩)
      go_ret
      exact ⟨rfl, below_step HB3.out hb⟩
end Go.Proofs.Ytfeglenlpnhofaa.Mine
