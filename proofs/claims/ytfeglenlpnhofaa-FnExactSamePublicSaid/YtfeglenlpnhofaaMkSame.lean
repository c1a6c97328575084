/- The laws' comparisons (eqVal, eqValS, eqHeapSig, eqHeapSigS, eqSig; eqUint64S, eqByteS, eqHeap, eqHeapS, eqObs, eqObsS) at arguments that hold the same: true, and nothing that was in memory changes. -/
import Derived.Test.YtfeglenlpnhofaaMk0
import Derived.Test.YtfeglenlpnhofaaAt
namespace Go.Proofs.Ytfeglenlpnhofaa.Mk
open Go.RowKit Go.Proofs.YtfeglenlpnhofaaW.PrintWords Go.Proofs.YtfeglenlpnhofaaW.PrintLast Go.Proofs.YtfeglenlpnhofaaW.PrintMore
set_option linter.unusedSimpArgs false
set_option linter.unusedVariables false

theorem keepA {W w1 : World} {a : Addr} {v : Value} (h : W.cell? a = some v) (hb : Below W.heap.size W w1) : w1.cell? a = some v := (hb.cell (World.block_lt_of_cell? W _ h)).trans h
theorem regAt' {kd : IntKind} {w : World} {A : Option Addr} {n : Nat} {xs : List Int} (h : Kd.C (Kd.int kd) w A n xs) (k : Nat) (hk : k < xs.length) : ∃ ad, A = some ad ∧ w.cell? (ad.add k) = some (.int kd (xs.getD k 0)) := by
  have hn : k < n := by have := h.1; omega
  obtain ⟨ad, e, h0⟩ := Kd.at_int h (k : Int) (by omega) (by omega)
  rw [Int.toNat_natCast] at h0
  exact ⟨ad, e, h0⟩

set_option maxRecDepth 100000 in
theorem sameVal (a : Int) (b : Bool) (c : Int) (d : Int) (f : Int) (g : Int) (w : World) : Calls Try.prog 14 #[.agg #[.int .i64 a, .bool b, .int .i64 c, .int .i64 d, .int .i64 f, .int .i64 g], .agg #[.int .i64 a, .bool b, .int .i64 c, .int .i64 d, .int .i64 f, .int .i64 g]] w fun e w' => e = .returned (.bool true) ∧ Below w.heap.size w w' := by
  have ka : (a != a) = false := by simp
  have kb : (b != b) = false := by simp
  have kc : (c != c) = false := by simp
  have kd : (d != d) = false := by simp
  have kf : (f != f) = false := by simp
  have kg : (g != g) = false := by simp
  go_enter Try.func14, Try.ntmps14
  go_wp2
  go_ret
  exact ⟨rfl, by repeat (first | exact Below.refl _ _ | apply below_alloc)⟩

set_option maxRecDepth 100000 in
theorem sameHeapSig (a : Int) (b : Bool) (c : Bool) (w : World) : Calls Try.prog 72 #[.agg #[.int .i64 a, .bool b, .bool c], .agg #[.int .i64 a, .bool b, .bool c]] w fun e w' => e = .returned (.bool true) ∧ Below w.heap.size w w' := by
  have ka : (a != a) = false := by simp
  have kb : (b != b) = false := by simp
  have kc : (c != c) = false := by simp
  go_enter Try.func72, Try.ntmps72
  go_wp2
  go_ret
  exact ⟨rfl, by repeat (first | exact Below.refl _ _ | apply below_alloc)⟩

set_option maxRecDepth 100000 in
theorem sameObs (a : Int) (b : Int) (w : World) : Calls Try.prog 78 #[.agg #[.int .i64 a, .int .u64 b], .agg #[.int .i64 a, .int .u64 b]] w fun e w' => e = .returned (.bool true) ∧ Below w.heap.size w w' := by
  have ka : (a != a) = false := by simp
  have kb : (b != b) = false := by simp
  go_enter Try.func78, Try.ntmps78
  go_wp2
  go_ret
  exact ⟨rfl, by repeat (first | exact Below.refl _ _ | apply below_alloc)⟩

set_option maxRecDepth 100000 in
set_option maxHeartbeats 4000000 in
theorem sameUint64S (xs : List Int) (n : Nat) (A B : Option Addr) (c d : Nat) (hn : n = xs.length) (w : World) (h : Kd.C (Kd.int .u64) w A n xs) (h' : Kd.C (Kd.int .u64) w B n xs) : Calls Try.prog 61 #[.slice A n c, .slice B n d] w fun e w' => e = .returned (.bool true) ∧ Below w.heap.size w w' := by
  have hM : n ≤ 9223372036854775807 := h.2.1
  have kn : ((n : Int) != (n : Int)) = false := by simp
  have H := Aside0.mk h
  have H' := Aside0.mk h'
  have HN := Aside0.mk hn
  clear h h' hn
  go_enter Try.func61, Try.ntmps61
  go_wp2_with fail
  go_loopg [5] n (fun q v5 wr => ∃ k : Nat, v5 = .int .i64 k ∧ Aside0 (k + q = n) ∧ Aside0 (Below w.heap.size w wr))
  case atStart => exact ⟨0, rfl, ⟨by omega⟩, ⟨Below.refl _ _⟩⟩
  case round =>
    obtain ⟨k, rfl, hk, HV⟩ := hrel
    by_cases hlt : k < n
    · have hlt' : (k : Int) < (n : Int) := by omega
      obtain ⟨adx, ead, x0⟩ := regAt' (Kd.C_below H.out HV.out) k (by have := HN.out; omega)
      cases ead
      obtain ⟨ady, ead, y0⟩ := regAt' (Kd.C_below H'.out HV.out) k (by have := HN.out; omega)
      cases ead
      obtain ⟨u, hu⟩ : ∃ u, u = xs.getD k 0 := ⟨_, rfl⟩
      rw [← hu] at x0 y0
      clear hu
      have ku : (u != u) = false := by simp
      go_upto_region 6 with fail
      have HW := Below.refl wr.heap.size wr
      go_cut [25] (fun s25 wx => s25 = .bool false ∧ Below wr.heap.size wr wx)
      case first =>
        go_quiet (fail)
        go_wp2_with fail
        go_meet
        exact ⟨rfl, by exact pw_below_drewN (Below.refl _ _) _⟩
      case rest =>
        obtain ⟨rfl, hb⟩ := hcut
        obtain ⟨V5, hW⟩ : ∃ x : World, x = wc := ⟨_, rfl⟩
        rw [← hW] at hb ⊢
        clear hW HW
        have HV5 := Aside0.mk (below_step HV.out hb)
        clear hb HV
        go_wp2
        go_roundg (n - (k + 1))
        case measure => have := hk.out; omega
        case rel => exact ⟨k + 1, by go_num, ⟨by omega⟩, HV5⟩
    · have hge : ¬ ((k : Int) < (n : Int)) := by omega
      go_wp2
      go_ret
      exact ⟨rfl, HV.out⟩

set_option maxRecDepth 100000 in
set_option maxHeartbeats 4000000 in
theorem sameByteS (xs : List Int) (n : Nat) (A B : Option Addr) (c d : Nat) (hn : n = xs.length) (w : World) (h : Kd.C (Kd.int .u8) w A n xs) (h' : Kd.C (Kd.int .u8) w B n xs) : Calls Try.prog 82 #[.slice A n c, .slice B n d] w fun e w' => e = .returned (.bool true) ∧ Below w.heap.size w w' := by
  have hM : n ≤ 9223372036854775807 := h.2.1
  have kn : ((n : Int) != (n : Int)) = false := by simp
  have H := Aside0.mk h
  have H' := Aside0.mk h'
  have HN := Aside0.mk hn
  clear h h' hn
  go_enter Try.func82, Try.ntmps82
  go_wp2_with fail
  go_loopg [5] n (fun q v5 wr => ∃ k : Nat, v5 = .int .i64 k ∧ Aside0 (k + q = n) ∧ Aside0 (Below w.heap.size w wr))
  case atStart => exact ⟨0, rfl, ⟨by omega⟩, ⟨Below.refl _ _⟩⟩
  case round =>
    obtain ⟨k, rfl, hk, HV⟩ := hrel
    by_cases hlt : k < n
    · have hlt' : (k : Int) < (n : Int) := by omega
      obtain ⟨adx, ead, x0⟩ := regAt' (Kd.C_below H.out HV.out) k (by have := HN.out; omega)
      cases ead
      obtain ⟨ady, ead, y0⟩ := regAt' (Kd.C_below H'.out HV.out) k (by have := HN.out; omega)
      cases ead
      obtain ⟨u, hu⟩ : ∃ u, u = xs.getD k 0 := ⟨_, rfl⟩
      rw [← hu] at x0 y0
      clear hu
      have ku : (u != u) = false := by simp
      go_upto_region 6 with fail
      have HW := Below.refl wr.heap.size wr
      go_cut [25] (fun s25 wx => s25 = .bool false ∧ Below wr.heap.size wr wx)
      case first =>
        go_quiet (fail)
        go_wp2_with fail
        go_meet
        exact ⟨rfl, by exact pw_below_drewN (Below.refl _ _) _⟩
      case rest =>
        obtain ⟨rfl, hb⟩ := hcut
        obtain ⟨V5, hW⟩ : ∃ x : World, x = wc := ⟨_, rfl⟩
        rw [← hW] at hb ⊢
        clear hW HW
        have HV5 := Aside0.mk (below_step HV.out hb)
        clear hb HV
        go_wp2
        go_roundg (n - (k + 1))
        case measure => have := hk.out; omega
        case rel => exact ⟨k + 1, by go_num, ⟨by omega⟩, HV5⟩
    · have hge : ¬ ((k : Int) < (n : Int)) := by omega
      go_wp2
      go_ret
      exact ⟨rfl, HV.out⟩

set_option maxRecDepth 100000 in
theorem sameHeap (a : Int) (b : Bool) (xs : List Int) (n : Nat) (A B : Option Addr) (c d : Nat) (hn : n = xs.length) (w : World) (h : Kd.C (Kd.int .u8) w A n xs) (h' : Kd.C (Kd.int .u8) w B n xs) : Calls Try.prog 77 #[.agg #[.int .u64 a, .bool b, .slice A n c], .agg #[.int .u64 a, .bool b, .slice B n d]] w fun e w' => e = .returned (.bool true) ∧ Below w.heap.size w w' := by
  have ka : (a != a) = false := by simp
  have kb : (b != b) = false := by simp
  have HE := Aside0.mk (fun (w1 : World) (hb : Below w.heap.size w w1) => sameByteS xs n A B c d hn w1 (Kd.C_below h hb) (Kd.C_below h' hb))
  clear h h' hn
  go_enter Try.func77, Try.ntmps77
  go_wp2_with fail
  refine (HE.out _ (below_alloc (below_alloc (Below.refl _ _) _) _)).mono ?_
  rintro e w' ⟨rfl, hb⟩
  have HB := Aside0.mk (below_step (below_alloc (below_alloc (Below.refl w.heap.size w) _) _) hb)
  clear hb
  go_wp2
  go_ret
  exact ⟨rfl, HB.out⟩

set_option maxRecDepth 100000 in
set_option maxHeartbeats 4000000 in
theorem sameValS (xs : List S25) (n : Nat) (A B : Option Addr) (c d : Nat) (hn : n = xs.length) (w : World) (h : Kd.C k25 w A n xs) (h' : Kd.C k25 w B n xs) : Calls Try.prog 50 #[.slice A n c, .slice B n d] w fun e w' => e = .returned (.bool true) ∧ Below w.heap.size w w' := by
  have hM : n ≤ 9223372036854775807 := h.2.1
  have kn : ((n : Int) != (n : Int)) = false := by simp
  have H := Aside0.mk h
  have H' := Aside0.mk h'
  have HN := Aside0.mk hn
  clear h h' hn
  go_enter Try.func50, Try.ntmps50
  go_wp2_with fail
  go_loopg [5] n (fun q v5 wr => ∃ k : Nat, v5 = .int .i64 k ∧ Aside0 (k + q = n) ∧ Aside0 (Below w.heap.size w wr))
  case atStart => exact ⟨0, rfl, ⟨by omega⟩, ⟨Below.refl _ _⟩⟩
  case round =>
    obtain ⟨k, rfl, hk, HV⟩ := hrel
    by_cases hlt : k < n
    · have hlt' : (k : Int) < (n : Int) := by omega
      obtain ⟨adx, ead, x0, x1, x2, x3, x4, x5⟩ := valA (Kd.C_below H.out HV.out) k (by have := HN.out; omega)
      cases ead
      obtain ⟨ady, ead, y0, y1, y2, y3, y4, y5⟩ := valA (Kd.C_below H'.out HV.out) k (by have := HN.out; omega)
      cases ead
      obtain ⟨u, hu⟩ : ∃ u, u = xs.getD k z25 := ⟨_, rfl⟩
      rw [← hu] at x0 x1 x2 x3 x4 x5 y0 y1 y2 y3 y4 y5
      clear hu
      go_upto_region 6 with fail
      have HW := Below.refl wr.heap.size wr
      have HK : ∀ w1 : World, Below wr.heap.size wr w1 → w1.cell? (adx.add (k * 6)) = some (.int .i64 u.f0) ∧ w1.cell? ⟨(adx.add (k * 6)).block, (adx.add (k * 6)).off + 1, none⟩ = some (.bool u.f1) ∧ w1.cell? ⟨(adx.add (k * 6)).block, (adx.add (k * 6)).off + 2, none⟩ = some (.int .i64 u.f2) ∧ w1.cell? ⟨(adx.add (k * 6)).block, (adx.add (k * 6)).off + 3, none⟩ = some (.int .i64 u.f3) ∧ w1.cell? ⟨(adx.add (k * 6)).block, (adx.add (k * 6)).off + 4, none⟩ = some (.int .i64 u.f4) ∧ w1.cell? ⟨(adx.add (k * 6)).block, (adx.add (k * 6)).off + 5, none⟩ = some (.int .i64 u.f5) ∧ w1.cell? (ady.add (k * 6)) = some (.int .i64 u.f0) ∧ w1.cell? ⟨(ady.add (k * 6)).block, (ady.add (k * 6)).off + 1, none⟩ = some (.bool u.f1) ∧ w1.cell? ⟨(ady.add (k * 6)).block, (ady.add (k * 6)).off + 2, none⟩ = some (.int .i64 u.f2) ∧ w1.cell? ⟨(ady.add (k * 6)).block, (ady.add (k * 6)).off + 3, none⟩ = some (.int .i64 u.f3) ∧ w1.cell? ⟨(ady.add (k * 6)).block, (ady.add (k * 6)).off + 4, none⟩ = some (.int .i64 u.f4) ∧ w1.cell? ⟨(ady.add (k * 6)).block, (ady.add (k * 6)).off + 5, none⟩ = some (.int .i64 u.f5) ∧ Below wr.heap.size wr w1 := fun w1 hb => ⟨keepA x0 hb, keepA x1 hb, keepA x2 hb, keepA x3 hb, keepA x4 hb, keepA x5 hb, keepA y0 hb, keepA y1 hb, keepA y2 hb, keepA y3 hb, keepA y4 hb, keepA y5 hb, hb⟩
      have HK := Aside0.mk HK
      clear x0 x1 x2 x3 x4 x5 y0 y1 y2 y3 y4 y5
      go_cut [26] (fun s26 wx => s26 = .bool false ∧ Below wr.heap.size wr wx)
      case first =>
        go_region_held3 (fun w1 => w1.cell? (adx.add (k * 6)) = some (.int .i64 u.f0) ∧ w1.cell? ⟨(adx.add (k * 6)).block, (adx.add (k * 6)).off + 1, none⟩ = some (.bool u.f1) ∧ w1.cell? ⟨(adx.add (k * 6)).block, (adx.add (k * 6)).off + 2, none⟩ = some (.int .i64 u.f2) ∧ w1.cell? ⟨(adx.add (k * 6)).block, (adx.add (k * 6)).off + 3, none⟩ = some (.int .i64 u.f3) ∧ w1.cell? ⟨(adx.add (k * 6)).block, (adx.add (k * 6)).off + 4, none⟩ = some (.int .i64 u.f4) ∧ w1.cell? ⟨(adx.add (k * 6)).block, (adx.add (k * 6)).off + 5, none⟩ = some (.int .i64 u.f5) ∧ w1.cell? (ady.add (k * 6)) = some (.int .i64 u.f0) ∧ w1.cell? ⟨(ady.add (k * 6)).block, (ady.add (k * 6)).off + 1, none⟩ = some (.bool u.f1) ∧ w1.cell? ⟨(ady.add (k * 6)).block, (ady.add (k * 6)).off + 2, none⟩ = some (.int .i64 u.f2) ∧ w1.cell? ⟨(ady.add (k * 6)).block, (ady.add (k * 6)).off + 3, none⟩ = some (.int .i64 u.f3) ∧ w1.cell? ⟨(ady.add (k * 6)).block, (ady.add (k * 6)).off + 4, none⟩ = some (.int .i64 u.f4) ∧ w1.cell? ⟨(ady.add (k * 6)).block, (ady.add (k * 6)).off + 5, none⟩ = some (.int .i64 u.f5) ∧ Below wr.heap.size wr w1) (((with_reducible refine HK.out _ ?_); (repeat (with_reducible first | assumption | apply below_drew1 | apply below_alloc))))
          (first | (go_at_call 14; refine (sameVal _ _ _ _ _ _ _).mono ?_; rintro e w' ⟨rfl, hb⟩; have HBk : Below wr.heap.size wr w' := below_step (by (repeat (with_reducible first | assumption | apply below_drew1 | apply below_alloc))) hb))
        all_goals
          go_wp2_with fail
          go_meet
          exact ⟨rfl, by with_reducible assumption⟩
      case rest =>
        obtain ⟨rfl, hb⟩ := hcut
        obtain ⟨V5, hW⟩ : ∃ x : World, x = wc := ⟨_, rfl⟩
        rw [← hW] at hb ⊢
        clear hW HW
        have HV5 := Aside0.mk (below_step HV.out hb)
        clear hb HV
        go_wp2
        go_roundg (n - (k + 1))
        case measure => have := hk.out; omega
        case rel => exact ⟨k + 1, by go_num, ⟨by omega⟩, HV5⟩
    · have hge : ¬ ((k : Int) < (n : Int)) := by omega
      go_wp2
      go_ret
      exact ⟨rfl, HV.out⟩

set_option maxRecDepth 100000 in
set_option maxHeartbeats 4000000 in
theorem sameHeapSigS (xs : List S89) (n : Nat) (A B : Option Addr) (c d : Nat) (hn : n = xs.length) (w : World) (h : Kd.C k89 w A n xs) (h' : Kd.C k89 w B n xs) : Calls Try.prog 49 #[.slice A n c, .slice B n d] w fun e w' => e = .returned (.bool true) ∧ Below w.heap.size w w' := by
  have hM : n ≤ 9223372036854775807 := h.2.1
  have kn : ((n : Int) != (n : Int)) = false := by simp
  have H := Aside0.mk h
  have H' := Aside0.mk h'
  have HN := Aside0.mk hn
  clear h h' hn
  go_enter Try.func49, Try.ntmps49
  go_wp2_with fail
  go_loopg [5] n (fun q v5 wr => ∃ k : Nat, v5 = .int .i64 k ∧ Aside0 (k + q = n) ∧ Aside0 (Below w.heap.size w wr))
  case atStart => exact ⟨0, rfl, ⟨by omega⟩, ⟨Below.refl _ _⟩⟩
  case round =>
    obtain ⟨k, rfl, hk, HV⟩ := hrel
    by_cases hlt : k < n
    · have hlt' : (k : Int) < (n : Int) := by omega
      obtain ⟨adx, ead, x0, x1, x2⟩ := sigA (Kd.C_below H.out HV.out) k (by have := HN.out; omega)
      cases ead
      obtain ⟨ady, ead, y0, y1, y2⟩ := sigA (Kd.C_below H'.out HV.out) k (by have := HN.out; omega)
      cases ead
      obtain ⟨u, hu⟩ : ∃ u, u = xs.getD k z89 := ⟨_, rfl⟩
      rw [← hu] at x0 x1 x2 y0 y1 y2
      clear hu
      go_upto_region 6 with fail
      have HW := Below.refl wr.heap.size wr
      have HK : ∀ w1 : World, Below wr.heap.size wr w1 → w1.cell? (adx.add (k * 3)) = some (.int .i64 u.f0) ∧ w1.cell? ⟨(adx.add (k * 3)).block, (adx.add (k * 3)).off + 1, none⟩ = some (.bool u.f1) ∧ w1.cell? ⟨(adx.add (k * 3)).block, (adx.add (k * 3)).off + 2, none⟩ = some (.bool u.f2) ∧ w1.cell? (ady.add (k * 3)) = some (.int .i64 u.f0) ∧ w1.cell? ⟨(ady.add (k * 3)).block, (ady.add (k * 3)).off + 1, none⟩ = some (.bool u.f1) ∧ w1.cell? ⟨(ady.add (k * 3)).block, (ady.add (k * 3)).off + 2, none⟩ = some (.bool u.f2) ∧ Below wr.heap.size wr w1 := fun w1 hb => ⟨keepA x0 hb, keepA x1 hb, keepA x2 hb, keepA y0 hb, keepA y1 hb, keepA y2 hb, hb⟩
      have HK := Aside0.mk HK
      clear x0 x1 x2 y0 y1 y2
      go_cut [26] (fun s26 wx => s26 = .bool false ∧ Below wr.heap.size wr wx)
      case first =>
        go_region_held3 (fun w1 => w1.cell? (adx.add (k * 3)) = some (.int .i64 u.f0) ∧ w1.cell? ⟨(adx.add (k * 3)).block, (adx.add (k * 3)).off + 1, none⟩ = some (.bool u.f1) ∧ w1.cell? ⟨(adx.add (k * 3)).block, (adx.add (k * 3)).off + 2, none⟩ = some (.bool u.f2) ∧ w1.cell? (ady.add (k * 3)) = some (.int .i64 u.f0) ∧ w1.cell? ⟨(ady.add (k * 3)).block, (ady.add (k * 3)).off + 1, none⟩ = some (.bool u.f1) ∧ w1.cell? ⟨(ady.add (k * 3)).block, (ady.add (k * 3)).off + 2, none⟩ = some (.bool u.f2) ∧ Below wr.heap.size wr w1) (((with_reducible refine HK.out _ ?_); (repeat (with_reducible first | assumption | apply below_drew1 | apply below_alloc))))
          (first | (go_at_call 72; refine (sameHeapSig _ _ _ _).mono ?_; rintro e w' ⟨rfl, hb⟩; have HBk : Below wr.heap.size wr w' := below_step (by (repeat (with_reducible first | assumption | apply below_drew1 | apply below_alloc))) hb))
        all_goals
          go_wp2_with fail
          go_meet
          exact ⟨rfl, by with_reducible assumption⟩
      case rest =>
        obtain ⟨rfl, hb⟩ := hcut
        obtain ⟨V5, hW⟩ : ∃ x : World, x = wc := ⟨_, rfl⟩
        rw [← hW] at hb ⊢
        clear hW HW
        have HV5 := Aside0.mk (below_step HV.out hb)
        clear hb HV
        go_wp2
        go_roundg (n - (k + 1))
        case measure => have := hk.out; omega
        case rel => exact ⟨k + 1, by go_num, ⟨by omega⟩, HV5⟩
    · have hge : ¬ ((k : Int) < (n : Int)) := by omega
      go_wp2
      go_ret
      exact ⟨rfl, HV.out⟩

set_option maxRecDepth 100000 in
set_option maxHeartbeats 4000000 in
theorem sameObsS (xs : List S102) (n : Nat) (A B : Option Addr) (c d : Nat) (hn : n = xs.length) (w : World) (h : Kd.C k102 w A n xs) (h' : Kd.C k102 w B n xs) : Calls Try.prog 63 #[.slice A n c, .slice B n d] w fun e w' => e = .returned (.bool true) ∧ Below w.heap.size w w' := by
  have hM : n ≤ 9223372036854775807 := h.2.1
  have kn : ((n : Int) != (n : Int)) = false := by simp
  have H := Aside0.mk h
  have H' := Aside0.mk h'
  have HN := Aside0.mk hn
  clear h h' hn
  go_enter Try.func63, Try.ntmps63
  go_wp2_with fail
  go_loopg [5] n (fun q v5 wr => ∃ k : Nat, v5 = .int .i64 k ∧ Aside0 (k + q = n) ∧ Aside0 (Below w.heap.size w wr))
  case atStart => exact ⟨0, rfl, ⟨by omega⟩, ⟨Below.refl _ _⟩⟩
  case round =>
    obtain ⟨k, rfl, hk, HV⟩ := hrel
    by_cases hlt : k < n
    · have hlt' : (k : Int) < (n : Int) := by omega
      obtain ⟨adx, ead, x0, x1⟩ := obsA (Kd.C_below H.out HV.out) k (by have := HN.out; omega)
      cases ead
      obtain ⟨ady, ead, y0, y1⟩ := obsA (Kd.C_below H'.out HV.out) k (by have := HN.out; omega)
      cases ead
      obtain ⟨u, hu⟩ : ∃ u, u = xs.getD k z102 := ⟨_, rfl⟩
      rw [← hu] at x0 x1 y0 y1
      clear hu
      go_upto_region 6 with fail
      have HW := Below.refl wr.heap.size wr
      have HK : ∀ w1 : World, Below wr.heap.size wr w1 → w1.cell? (adx.add (k * 2)) = some (.int .i64 u.f0) ∧ w1.cell? ⟨(adx.add (k * 2)).block, (adx.add (k * 2)).off + 1, none⟩ = some (.int .u64 u.f1) ∧ w1.cell? (ady.add (k * 2)) = some (.int .i64 u.f0) ∧ w1.cell? ⟨(ady.add (k * 2)).block, (ady.add (k * 2)).off + 1, none⟩ = some (.int .u64 u.f1) ∧ Below wr.heap.size wr w1 := fun w1 hb => ⟨keepA x0 hb, keepA x1 hb, keepA y0 hb, keepA y1 hb, hb⟩
      have HK := Aside0.mk HK
      clear x0 x1 y0 y1
      go_cut [26] (fun s26 wx => s26 = .bool false ∧ Below wr.heap.size wr wx)
      case first =>
        go_region_held3 (fun w1 => w1.cell? (adx.add (k * 2)) = some (.int .i64 u.f0) ∧ w1.cell? ⟨(adx.add (k * 2)).block, (adx.add (k * 2)).off + 1, none⟩ = some (.int .u64 u.f1) ∧ w1.cell? (ady.add (k * 2)) = some (.int .i64 u.f0) ∧ w1.cell? ⟨(ady.add (k * 2)).block, (ady.add (k * 2)).off + 1, none⟩ = some (.int .u64 u.f1) ∧ Below wr.heap.size wr w1) (((with_reducible refine HK.out _ ?_); (repeat (with_reducible first | assumption | apply below_drew1 | apply below_alloc))))
          (first | (go_at_call 78; refine (sameObs _ _ _).mono ?_; rintro e w' ⟨rfl, hb⟩; have HBk : Below wr.heap.size wr w' := below_step (by (repeat (with_reducible first | assumption | apply below_drew1 | apply below_alloc))) hb))
        all_goals
          go_wp2_with fail
          go_meet
          exact ⟨rfl, by with_reducible assumption⟩
      case rest =>
        obtain ⟨rfl, hb⟩ := hcut
        obtain ⟨V5, hW⟩ : ∃ x : World, x = wc := ⟨_, rfl⟩
        rw [← hW] at hb ⊢
        clear hW HW
        have HV5 := Aside0.mk (below_step HV.out hb)
        clear hb HV
        go_wp2
        go_roundg (n - (k + 1))
        case measure => have := hk.out; omega
        case rel => exact ⟨k + 1, by go_num, ⟨by omega⟩, HV5⟩
    · have hge : ¬ ((k : Int) < (n : Int)) := by omega
      go_wp2
      go_ret
      exact ⟨rfl, HV.out⟩

set_option maxRecDepth 100000 in
set_option maxHeartbeats 4000000 in
theorem sameHeapS (xs : List S35) (n : Nat) (A B : Option Addr) (c d : Nat) (hn : n = xs.length) (w : World) (h : Kd.C k35 w A n xs) (h' : Kd.C k35 w B n xs) : Calls Try.prog 62 #[.slice A n c, .slice B n d] w fun e w' => e = .returned (.bool true) ∧ Below w.heap.size w w' := by
  have hM : n ≤ 9223372036854775807 := h.2.1
  have kn : ((n : Int) != (n : Int)) = false := by simp
  have H := Aside0.mk h
  have H' := Aside0.mk h'
  have HN := Aside0.mk hn
  clear h h' hn
  go_enter Try.func62, Try.ntmps62
  go_wp2_with fail
  go_loopg [5] n (fun q v5 wr => ∃ k : Nat, v5 = .int .i64 k ∧ Aside0 (k + q = n) ∧ Aside0 (Below w.heap.size w wr))
  case atStart => exact ⟨0, rfl, ⟨by omega⟩, ⟨Below.refl _ _⟩⟩
  case round =>
    obtain ⟨k, rfl, hk, HV⟩ := hrel
    by_cases hlt : k < n
    · have hlt' : (k : Int) < (n : Int) := by omega
      obtain ⟨adx, Ax, cx, ead, x0, x1, x2, lx, rx⟩ := heapA (Kd.C_below H.out HV.out) k (by have := HN.out; omega)
      cases ead
      obtain ⟨ady, Ay, cy, ead, y0, y1, y2, ly, ry⟩ := heapA (Kd.C_below H'.out HV.out) k (by have := HN.out; omega)
      cases ead
      unfold hA_ at x0 x1 x2 y0 y1 y2 lx rx ly ry
      obtain ⟨u, hu⟩ : ∃ u, u = xs.getD k z35 := ⟨_, rfl⟩
      rw [← hu] at x0 x1 x2 y0 y1 y2 lx rx ly ry
      clear hu
      obtain ⟨m, hm⟩ : ∃ m : Nat, m = u.f2.length := ⟨_, rfl⟩
      rw [← hm] at x2 y2 rx ry
      have HE := Aside0.mk (fun (w1 : World) (hb : Below wr.heap.size wr w1) => sameHeap u.f0 u.f1 u.f2 m Ax Ay cx cy hm w1 (Kd.C_below rx hb) (Kd.C_below ry hb))
      clear hm lx rx ly ry
      go_upto_region 6 with fail
      have HW := Below.refl wr.heap.size wr
      have HK : ∀ w1 : World, Below wr.heap.size wr w1 → w1.cell? (adx.add (k * 3)) = some (.int .u64 u.f0) ∧ w1.cell? ⟨(adx.add (k * 3)).block, (adx.add (k * 3)).off + 1, none⟩ = some (.bool u.f1) ∧ w1.cell? ⟨(adx.add (k * 3)).block, (adx.add (k * 3)).off + 2, none⟩ = some (.slice Ax m cx) ∧ w1.cell? (ady.add (k * 3)) = some (.int .u64 u.f0) ∧ w1.cell? ⟨(ady.add (k * 3)).block, (ady.add (k * 3)).off + 1, none⟩ = some (.bool u.f1) ∧ w1.cell? ⟨(ady.add (k * 3)).block, (ady.add (k * 3)).off + 2, none⟩ = some (.slice Ay m cy) ∧ Below wr.heap.size wr w1 := fun w1 hb => ⟨keepA x0 hb, keepA x1 hb, keepA x2 hb, keepA y0 hb, keepA y1 hb, keepA y2 hb, hb⟩
      have HK := Aside0.mk HK
      clear x0 x1 x2 y0 y1 y2
      go_cut [26] (fun s26 wx => s26 = .bool false ∧ Below wr.heap.size wr wx)
      case first =>
        go_region_held3 (fun w1 => w1.cell? (adx.add (k * 3)) = some (.int .u64 u.f0) ∧ w1.cell? ⟨(adx.add (k * 3)).block, (adx.add (k * 3)).off + 1, none⟩ = some (.bool u.f1) ∧ w1.cell? ⟨(adx.add (k * 3)).block, (adx.add (k * 3)).off + 2, none⟩ = some (.slice Ax m cx) ∧ w1.cell? (ady.add (k * 3)) = some (.int .u64 u.f0) ∧ w1.cell? ⟨(ady.add (k * 3)).block, (ady.add (k * 3)).off + 1, none⟩ = some (.bool u.f1) ∧ w1.cell? ⟨(ady.add (k * 3)).block, (ady.add (k * 3)).off + 2, none⟩ = some (.slice Ay m cy) ∧ Below wr.heap.size wr w1) (((with_reducible refine HK.out _ ?_); (repeat (with_reducible first | assumption | apply below_drew1 | apply below_alloc))))
          (first | (go_at_call 77; refine (HE.out _ (by (repeat (with_reducible first | assumption | apply below_drew1 | apply below_alloc)))).mono ?_; rintro e w' ⟨rfl, hb⟩; have HBk : Below wr.heap.size wr w' := below_step (by (repeat (with_reducible first | assumption | apply below_drew1 | apply below_alloc))) hb))
        all_goals
          go_wp2_with fail
          go_meet
          exact ⟨rfl, by with_reducible assumption⟩
      case rest =>
        obtain ⟨rfl, hb⟩ := hcut
        obtain ⟨V5, hW⟩ : ∃ x : World, x = wc := ⟨_, rfl⟩
        rw [← hW] at hb ⊢
        clear hW HW
        have HV5 := Aside0.mk (below_step HV.out hb)
        clear hb HV
        go_wp2
        go_roundg (n - (k + 1))
        case measure => have := hk.out; omega
        case rel => exact ⟨k + 1, by go_num, ⟨by omega⟩, HV5⟩
    · have hge : ¬ ((k : Int) < (n : Int)) := by omega
      go_wp2
      go_ret
      exact ⟨rfl, HV.out⟩

set_option maxRecDepth 100000 in
theorem sameSig (hs : List S89) (rs : List S25) (n m : Nat) (a0 a1 b0 b1 : Option Addr) (ac0 ac1 bc0 bc1 : Nat) (hn : n = hs.length) (hm : m = rs.length) (w : World) (h0 : Kd.C k89 w a0 n hs) (h1 : Kd.C k25 w a1 m rs) (g0 : Kd.C k89 w b0 n hs) (g1 : Kd.C k25 w b1 m rs) : Calls Try.prog 22 #[.agg #[.slice a0 n ac0, .slice a1 m ac1], .agg #[.slice b0 n bc0, .slice b1 m bc1]] w fun e w' => e = .returned (.bool true) ∧ Below w.heap.size w w' := by
  have HE := Aside0.mk (fun (w1 : World) (hb : Below w.heap.size w w1) => sameHeapSigS hs n a0 b0 ac0 bc0 hn w1 (Kd.C_below h0 hb) (Kd.C_below g0 hb))
  have HF := Aside0.mk (fun (w1 : World) (hb : Below w.heap.size w w1) => sameValS rs m a1 b1 ac1 bc1 hm w1 (Kd.C_below h1 hb) (Kd.C_below g1 hb))
  clear h0 h1 g0 g1 hn hm
  have HB := Below.refl w.heap.size w
  go_enter Try.func22, Try.ntmps22
  go_upto_region 1 with (first | ((with_reducible refine gate_dst (N := 2) rfl ?_); refine box_event ?hg (N := 2) ?hd (cs := #[.slice a0 n ac0, .slice a1 m ac1]) (t := 53) ?hr ?_; (case hd => rfl); (case hg => rfl); (case hr => first | (go_simp; done) | (go_simp; rfl)); intro g0 hg Wg0 hbox hb; have kb_ := below_step HB hb; clear HB; have HB := kb_; clear kb_ hb hg; have Bg0 := hbox; clear hbox) | ((with_reducible refine gate_dst (N := 3) rfl ?_); refine box_event ?hg (N := 3) ?hd (cs := #[.slice b0 n bc0, .slice b1 m bc1]) (t := 53) ?hr ?_; (case hd => rfl); (case hg => rfl); (case hr => first | (go_simp; done) | (go_simp; rfl)); intro g1 hg Wg1 hbox hb; have k0_ := blk_below Bg0 hb; clear Bg0; have Bg0 := k0_; clear k0_; have kb_ := below_step HB hb; clear HB; have HB := kb_; clear kb_ hb hg; have Bg1 := hbox; clear hbox))
  have g0_0 : Wg1.cell? ⟨g0, 0, none⟩ = some (.slice a0 n ac0) := (blk_cell Bg0 0).trans rfl
  have g0_1 : Wg1.cell? ⟨g0, 1, none⟩ = some (.slice a1 m ac1) := (blk_cell Bg0 1).trans rfl
  have g1_0 : Wg1.cell? ⟨g1, 0, none⟩ = some (.slice b0 n bc0) := (blk_cell Bg1 0).trans rfl
  have g1_1 : Wg1.cell? ⟨g1, 1, none⟩ = some (.slice b1 m bc1) := (blk_cell Bg1 1).trans rfl
  go_wp2_with fail
  refine (HE.out _ HB).mono ?_
  rintro e V1 ⟨rfl, hb⟩
  clear g0_0 g0_1 g1_0 g1_1
  have k_ := blk_below Bg0 hb
  clear Bg0
  have Bg0 := k_
  clear k_
  have k_ := blk_below Bg1 hb
  clear Bg1
  have Bg1 := k_
  clear k_
  have k_ := below_step HB hb
  clear HB
  have HB := k_
  clear k_
  clear hb
  have g0_0 : V1.cell? ⟨g0, 0, none⟩ = some (.slice a0 n ac0) := (blk_cell Bg0 0).trans rfl
  have g0_1 : V1.cell? ⟨g0, 1, none⟩ = some (.slice a1 m ac1) := (blk_cell Bg0 1).trans rfl
  have g1_0 : V1.cell? ⟨g1, 0, none⟩ = some (.slice b0 n bc0) := (blk_cell Bg1 0).trans rfl
  have g1_1 : V1.cell? ⟨g1, 1, none⟩ = some (.slice b1 m bc1) := (blk_cell Bg1 1).trans rfl
  go_wp2_with fail
  refine (HF.out _ HB).mono ?_
  rintro e V2 ⟨rfl, hb⟩
  clear g0_0 g0_1 g1_0 g1_1
  have k_ := blk_below Bg0 hb
  clear Bg0
  have Bg0 := k_
  clear k_
  have k_ := blk_below Bg1 hb
  clear Bg1
  have Bg1 := k_
  clear k_
  have k_ := below_step HB hb
  clear HB
  have HB := k_
  clear k_
  clear hb
  go_wp2
  go_ret
  exact ⟨rfl, HB⟩
end Go.Proofs.Ytfeglenlpnhofaa.Mk
