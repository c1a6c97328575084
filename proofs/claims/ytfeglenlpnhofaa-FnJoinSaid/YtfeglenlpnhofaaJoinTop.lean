/- The law FnJoin (function 5) out of its callees' contracts: it returns true, and nothing that was in memory changes. -/
import Derived.Test.YtfeglenlpnhofaaMem

namespace Go.Proofs.Ytfeglenlpnhofaa.Mine
open Go.RowKit Go.Proofs.YtfeglenlpnhofaaW.PrintWords Go.Proofs.YtfeglenlpnhofaaW.PrintLast Go.Proofs.YtfeglenlpnhofaaW.PrintMore

set_option maxRecDepth 100000 in
theorem join_long (A0 : Option Addr) (n0 c0 : Nat) (A1 : Option Addr) (n1 c1 : Nat) (w : World) (h : 1048576 < n0 ∨ 1048576 < n1) :
    Calls Try.prog 5 #[.slice A0 n0 c0, .slice A1 n1 c1] w fun e w' => e = .returned (.bool true) ∧ Below w.heap.size w w' := by
  by_cases h0 : 1048576 < n0
  · clear h
    have h0' : (1048576 : Int) < (n0 : Int) := by omega
    go_enter Try.func5, Try.ntmps5
    go_wp2
    go_ret
    exact ⟨rfl, Below.refl _ _⟩
  · have h1 : 1048576 < n1 := by omega
    clear h
    have h1' : (1048576 : Int) < (n1 : Int) := by omega
    go_enter Try.func5, Try.ntmps5
    go_wp2
    go_ret
    exact ⟨rfl, Below.refl _ _⟩

set_option linter.unusedSimpArgs false
set_option linter.unusedVariables false
/-- Six cells of a block. -/
def B6 (w : World) (g : Nat) (a0 : Int) (a1 : Bool) (a2 a3 a4 a5 : Int) : Prop := w.cell? ⟨g, 0, none⟩ = some (.int .i64 a0) ∧ w.cell? ⟨g, 1, none⟩ = some (.bool a1) ∧ w.cell? ⟨g, 2, none⟩ = some (.int .i64 a2) ∧ w.cell? ⟨g, 3, none⟩ = some (.int .i64 a3) ∧ w.cell? ⟨g, 4, none⟩ = some (.int .i64 a4) ∧ w.cell? ⟨g, 5, none⟩ = some (.int .i64 a5)
theorem B6.below {W w1 : World} {g : Nat} {a0 : Int} {a1 : Bool} {a2 a3 a4 a5 : Int} (h : B6 W g a0 a1 a2 a3 a4 a5) (hb : Below W.heap.size W w1) : B6 w1 g a0 a1 a2 a3 a4 a5 := by
  obtain ⟨h0, h1, h2, h3, h4, h5⟩ := h
  exact ⟨keepC h0 hb, keepC h1 hb, keepC h2 hb, keepC h3 hb, keepC h4 hb, keepC h5 hb⟩
theorem B6.new (W : World) (t : TypeId) (a0 : Int) (a1 : Bool) (a2 a3 a4 a5 : Int) : B6 (W.alloc (.cells #[.int .i64 a0, .bool a1, .int .i64 a2, .int .i64 a3, .int .i64 a4, .int .i64 a5] t)) W.heap.size a0 a1 a2 a3 a4 a5 := by
  refine ⟨?_, ?_, ?_, ?_, ?_, ?_⟩ <;> simp [go_sem]
theorem two_new (a0 : Int) (a1 : Bool) (a2 a3 a4 a5 : Int) (b0 : Int) (b1 : Bool) (b2 b3 b4 b5 : Int) (t : TypeId) (w w' : World) (hb : Below w.heap.size w w') : B6 ((w'.alloc (.cells #[.int .i64 a0, .bool a1, .int .i64 a2, .int .i64 a3, .int .i64 a4, .int .i64 a5] t)).alloc (.cells #[.int .i64 b0, .bool b1, .int .i64 b2, .int .i64 b3, .int .i64 b4, .int .i64 b5] t)) w'.heap.size a0 a1 a2 a3 a4 a5 ∧ B6 ((w'.alloc (.cells #[.int .i64 a0, .bool a1, .int .i64 a2, .int .i64 a3, .int .i64 a4, .int .i64 a5] t)).alloc (.cells #[.int .i64 b0, .bool b1, .int .i64 b2, .int .i64 b3, .int .i64 b4, .int .i64 b5] t)) (w'.heap.size + 1) b0 b1 b2 b3 b4 b5 ∧ Below w.heap.size w ((w'.alloc (.cells #[.int .i64 a0, .bool a1, .int .i64 a2, .int .i64 a3, .int .i64 a4, .int .i64 a5] t)).alloc (.cells #[.int .i64 b0, .bool b1, .int .i64 b2, .int .i64 b3, .int .i64 b4, .int .i64 b5] t)) := by
  refine ⟨⟨?_, ?_, ?_, ?_, ?_, ?_⟩, ⟨?_, ?_, ?_, ?_, ?_, ?_⟩, below_alloc (below_alloc hb _) _⟩ <;> simp [go_sem]

/-- Two heaps with no bytes. -/
def Two (w : World) (p : Option Addr) : Prop := ∃ g : Nat, p = some ⟨g, 0, none⟩ ∧ w.cell? ⟨g, 0, none⟩ = some (.int .u64 1000) ∧ w.cell? ⟨g, 1, none⟩ = some (.bool false) ∧ w.cell? ⟨g, 2, none⟩ = some (.slice none 0 0) ∧ w.cell? ⟨g, 3, none⟩ = some (.int .u64 5000) ∧ w.cell? ⟨g, 4, none⟩ = some (.bool false) ∧ w.cell? ⟨g, 5, none⟩ = some (.slice none 0 0)
/-- The nine cells of the machine that the law makes. -/
def B9 (w : World) (g : Nat) (p : Option Addr) : Prop := w.cell? ⟨g, 0, none⟩ = some (.slice none 0 0) ∧ w.cell? ⟨g, 1, none⟩ = some (.bool false) ∧ w.cell? ⟨g, 2, none⟩ = some (.bool false) ∧ w.cell? ⟨g, 3, none⟩ = some (.bool false) ∧ w.cell? ⟨g, 4, none⟩ = some (.bool false) ∧ w.cell? ⟨g, 5, none⟩ = some (.slice p 2 2) ∧ w.cell? ⟨g, 6, none⟩ = some (.int .i64 0) ∧ w.cell? ⟨g, 7, none⟩ = some (.int .i64 0) ∧ w.cell? ⟨g, 8, none⟩ = some (.slice none 0 0)
theorem B9.below {W w1 : World} {g : Nat} {p : Option Addr} (h : B9 W g p) (hb : Below W.heap.size W w1) : B9 w1 g p := by
  obtain ⟨h0, h1, h2, h3, h4, h5, h6, h7, h8⟩ := h
  exact ⟨keepC h0 hb, keepC h1 hb, keepC h2 hb, keepC h3 hb, keepC h4 hb, keepC h5 hb, keepC h6 hb, keepC h7 hb, keepC h8 hb⟩
theorem two_made (V : World) : B9 ((V.alloc (.cells #[.int .u64 1000, .bool false, .slice none 0 0, .int .u64 5000, .bool false, .slice none 0 0] 35)).alloc (.cells #[.slice none 0 0, .bool false, .bool false, .bool false, .bool false, .slice (some ⟨V.heap.size, 0, none⟩) 2 2, .int .i64 0, .int .i64 0, .slice none 0 0] 40)) (V.heap.size + 1) (some ⟨V.heap.size, 0, none⟩) ∧ Two ((V.alloc (.cells #[.int .u64 1000, .bool false, .slice none 0 0, .int .u64 5000, .bool false, .slice none 0 0] 35)).alloc (.cells #[.slice none 0 0, .bool false, .bool false, .bool false, .bool false, .slice (some ⟨V.heap.size, 0, none⟩) 2 2, .int .i64 0, .int .i64 0, .slice none 0 0] 40)) (some ⟨V.heap.size, 0, none⟩) ∧ Below V.heap.size V ((V.alloc (.cells #[.int .u64 1000, .bool false, .slice none 0 0, .int .u64 5000, .bool false, .slice none 0 0] 35)).alloc (.cells #[.slice none 0 0, .bool false, .bool false, .bool false, .bool false, .slice (some ⟨V.heap.size, 0, none⟩) 2 2, .int .i64 0, .int .i64 0, .slice none 0 0] 40)) := by
  refine ⟨⟨?_, ?_, ?_, ?_, ?_, ?_, ?_, ?_, ?_⟩, ⟨_, rfl, ?_, ?_, ?_, ?_, ?_, ?_⟩, below_alloc (below_alloc (Below.refl _ _) _) _⟩ <;> simp [go_sem]
theorem Two.below {W w1 : World} {p : Option Addr} (h : Two W p) (hb : Below W.heap.size W w1) : Two w1 p := by
  obtain ⟨g, e, h0, h1, h2, h3, h4, h5⟩ := h
  exact ⟨g, e, keepC h0 hb, keepC h1 hb, keepC h2 hb, keepC h3 hb, keepC h4 hb, keepC h5 hb⟩
set_option maxRecDepth 100000 in
set_option maxHeartbeats 8000000 in
theorem join_walk (a0 : Int) (a1 : Bool) (a2 a3 a4 a5 : Int) (b0 : Int) (b1 : Bool) (b2 b3 b4 b5 : Int) (c0 : Int) (c1 : Bool) (c2 c3 c4 c5 : Int) (A : Option Addr) (n m : Nat) (A' : Option Addr) (n' m' : Nat) (R R' : World → Prop) (Fa Fb Fc : Int → Bool) (w : World)
    (mR : ∀ w w' : World, Below w.heap.size w w' → R' w → R' w')
    (hd : ∀ w, R w → Calls Try.prog 15 #[.slice A n m] w fun e w' => e = .returned (.tuple #[.agg #[.int .i64 a0, .bool a1, .int .i64 a2, .int .i64 a3, .int .i64 a4, .int .i64 a5], .agg #[.int .i64 b0, .bool b1, .int .i64 b2, .int .i64 b3, .int .i64 b4, .int .i64 b5]]) ∧ Below w.heap.size w w')
    (hs : ∀ w, Calls Try.prog 11 #[.agg #[.int .i64 a0, .bool a1, .int .i64 a2, .int .i64 a3, .int .i64 a4, .int .i64 a5], .agg #[.int .i64 b0, .bool b1, .int .i64 b2, .int .i64 b3, .int .i64 b4, .int .i64 b5]] w fun e w' => e = .returned (.agg #[.int .i64 c0, .bool c1, .int .i64 c2, .int .i64 c3, .int .i64 c4, .int .i64 c5]) ∧ Below w.heap.size w w')
    (hi : ∀ w, Calls Try.prog 13 #[.agg #[.int .i64 a0, .bool a1, .int .i64 a2, .int .i64 a3, .int .i64 a4, .int .i64 a5], .agg #[.int .i64 b0, .bool b1, .int .i64 b2, .int .i64 b3, .int .i64 b4, .int .i64 b5]] w fun e w' => e = .returned (.agg #[.int .i64 c0, .bool c1, .int .i64 c2, .int .i64 c3, .int .i64 c4, .int .i64 c5]) ∧ Below w.heap.size w w')
    (hr : ∀ w, Calls Try.prog 13 #[.agg #[.int .i64 b0, .bool b1, .int .i64 b2, .int .i64 b3, .int .i64 b4, .int .i64 b5], .agg #[.int .i64 a0, .bool a1, .int .i64 a2, .int .i64 a3, .int .i64 a4, .int .i64 a5]] w fun e w' => e = .returned (.agg #[.int .i64 c0, .bool c1, .int .i64 c2, .int .i64 c3, .int .i64 c4, .int .i64 c5]) ∧ Below w.heap.size w w')
    (ht : ∀ (w : World) (k : Nat), R' w → k < 16 → Calls Try.prog 16 #[.slice A' n' m', .int .i64 k] w fun e w' => ∃ r : Int, e = .returned (.int .i64 r) ∧ Below w.heap.size w w')
    (ha : a0 < 2 → ∀ (w : World) (p : Option Addr) (x : Int), Two w p → Calls Try.prog 17 #[.agg #[.int .i64 a0, .bool a1, .int .i64 a2, .int .i64 a3, .int .i64 a4, .int .i64 a5], .int .u64 x, .agg #[.slice none 0 0, .bool false, .bool false, .bool false, .bool false, .slice p 2 2, .int .i64 0, .int .i64 0, .slice none 0 0]] w fun e w' => e = .returned (.bool (Fa x)) ∧ Below w.heap.size w w')
    (hb : a0 < 2 → ∀ (w : World) (p : Option Addr) (x : Int), Two w p → Calls Try.prog 17 #[.agg #[.int .i64 b0, .bool b1, .int .i64 b2, .int .i64 b3, .int .i64 b4, .int .i64 b5], .int .u64 x, .agg #[.slice none 0 0, .bool false, .bool false, .bool false, .bool false, .slice p 2 2, .int .i64 0, .int .i64 0, .slice none 0 0]] w fun e w' => e = .returned (.bool (Fb x)) ∧ Below w.heap.size w w')
    (hc : a0 < 2 → ∀ (w : World) (p : Option Addr) (x : Int), Two w p → Calls Try.prog 17 #[.agg #[.int .i64 c0, .bool c1, .int .i64 c2, .int .i64 c3, .int .i64 c4, .int .i64 c5], .int .u64 x, .agg #[.slice none 0 0, .bool false, .bool false, .bool false, .bool false, .slice p 2 2, .int .i64 0, .int .i64 0, .slice none 0 0]] w fun e w' => e = .returned (.bool (Fc x)) ∧ Below w.heap.size w w')
    (hF : a0 < 2 → ∀ x, (Fa x || Fb x) = true → Fc x = true) (hS : c1 = ((a1 || b1) && (c0 == 0)))
    (hR : R w) (hR' : R' w) (hn : n ≤ 1048576) (hn' : n' ≤ 1048576) :
    Calls Try.prog 5 #[.slice A n m, .slice A' n' m'] w fun e w' => e = .returned (.bool true) ∧ Below w.heap.size w w' := by
  have H_hd := Aside0.mk hd
  have H_hs := Aside0.mk hs
  have H_hi := Aside0.mk hi
  have H_hr := Aside0.mk hr
  have H_ht := Aside0.mk ht
  have H_ha := Aside0.mk ha
  have H_hb := Aside0.mk hb
  have H_hc := Aside0.mk hc
  have H_hF := Aside0.mk hF
  have H_hS := Aside0.mk hS
  have H_mR := Aside0.mk mR
  clear hd hs hi hr ht ha hb hc hF hS mR
  have HR := Aside0.mk hR
  have HR' := Aside0.mk hR'
  clear hR hR'
  have k0 : ¬ ((1048576 : Int) < (n : Int)) := by omega
  have k1 : ¬ ((1048576 : Int) < (n' : Int)) := by omega
  go_enter Try.func5, Try.ntmps5
  go_upto_region 3 with fail
  go_cut [5, 6] (fun s5 s6 wx => ∃ g0 g1 : Nat, s5 = .pointer (some ⟨g0, 0, none⟩) ∧ s6 = .pointer (some ⟨g1, 0, none⟩) ∧ B6 wx g0 a0 a1 a2 a3 a4 a5 ∧ B6 wx g1 b0 b1 b2 b3 b4 b5 ∧ Below w.heap.size w wx)
  case first =>
    go_wp2_with (go_at_call 15; refine (H_hd.out _ HR.out).mono ?_; rintro e w' ⟨rfl, hb⟩)
    go_meet
    exact ⟨_, _, rfl, rfl, two_new _ _ _ _ _ _ _ _ _ _ _ _ _ _ _ hb⟩
  case rest =>
    obtain ⟨g0, g1, rfl, rfl, BA, BB, hb⟩ := hcut
    obtain ⟨W, hW⟩ : ∃ x : World, x = wc := ⟨_, rfl⟩
    rw [← hW] at BA BB hb ⊢
    clear hW k0 k1
    have HB := Aside0.mk hb
    have HR1 := Aside0.mk (H_mR.out _ _ hb HR'.out)
    clear hb HR HR'
    have HR := HR1
    clear HR1
    go_upto_region 4 with fail
    go_cut [7] (fun s7 wx => ∃ g2 : Nat, s7 = .pointer (some ⟨g2, 0, none⟩) ∧ B6 wx g2 c0 c1 c2 c3 c4 c5 ∧ Below W.heap.size W wx)
    case first =>
      obtain ⟨h0, h1, h2, h3, h4, h5⟩ := BA
      obtain ⟨i0, i1, i2, i3, i4, i5⟩ := BB
      go_wp2_with (go_at_call 13; refine (H_hi.out _).mono ?_; rintro e w' ⟨rfl, hb⟩)
      go_meet
      exact ⟨_, rfl, B6.new _ _ _ _ _ _ _ _, below_alloc hb _⟩
    case rest =>
      obtain ⟨g2, rfl, BC, hb⟩ := hcut
      obtain ⟨V, hW⟩ : ∃ x : World, x = wc := ⟨_, rfl⟩
      rw [← hW] at BC hb ⊢
      clear hW
      have BA2 := BA.below hb
      have BB2 := BB.below hb
      clear BA BB
      have HB2 := Aside0.mk (below_step HB.out hb)
      have HR1 := Aside0.mk (H_mR.out _ _ hb HR.out)
      clear hb HR HB
      have HR := HR1
      clear HR1
      have HW := Below.refl V.heap.size V
      have HK : ∀ w1 : World, Below V.heap.size V w1 → w1.cell? ⟨g0, 0, none⟩ = some (.int .i64 a0) ∧ w1.cell? ⟨g0, 1, none⟩ = some (.bool a1) ∧ w1.cell? ⟨g0, 2, none⟩ = some (.int .i64 a2) ∧ w1.cell? ⟨g0, 3, none⟩ = some (.int .i64 a3) ∧ w1.cell? ⟨g0, 4, none⟩ = some (.int .i64 a4) ∧ w1.cell? ⟨g0, 5, none⟩ = some (.int .i64 a5) ∧ w1.cell? ⟨g1, 0, none⟩ = some (.int .i64 b0) ∧ w1.cell? ⟨g1, 1, none⟩ = some (.bool b1) ∧ w1.cell? ⟨g1, 2, none⟩ = some (.int .i64 b2) ∧ w1.cell? ⟨g1, 3, none⟩ = some (.int .i64 b3) ∧ w1.cell? ⟨g1, 4, none⟩ = some (.int .i64 b4) ∧ w1.cell? ⟨g1, 5, none⟩ = some (.int .i64 b5) ∧ w1.cell? ⟨g2, 0, none⟩ = some (.int .i64 c0) ∧ w1.cell? ⟨g2, 1, none⟩ = some (.bool c1) ∧ w1.cell? ⟨g2, 2, none⟩ = some (.int .i64 c2) ∧ w1.cell? ⟨g2, 3, none⟩ = some (.int .i64 c3) ∧ w1.cell? ⟨g2, 4, none⟩ = some (.int .i64 c4) ∧ w1.cell? ⟨g2, 5, none⟩ = some (.int .i64 c5) ∧ Below V.heap.size V w1 := by
        intro w1 hb
        obtain ⟨h0, h1, h2, h3, h4, h5⟩ := BA2.below hb
        obtain ⟨i0, i1, i2, i3, i4, i5⟩ := BB2.below hb
        obtain ⟨j0, j1, j2, j3, j4, j5⟩ := BC.below hb
        exact ⟨h0, h1, h2, h3, h4, h5, i0, i1, i2, i3, i4, i5, j0, j1, j2, j3, j4, j5, hb⟩
      have HK := Aside0.mk HK
      have BA := Aside0.mk BA2
      have BB := Aside0.mk BB2
      have BC := Aside0.mk BC
      clear BA2 BB2
      go_upto_region 5 with fail
      go_cut [43] (fun s43 wx => s43 = .bool false ∧ Below V.heap.size V wx)
      case first =>
        by_cases q : a0 < 2
        · have hq : decide (a0 < 2) = true := decide_eq_true q
          go_region_held3 (fun w1 => w1.cell? ⟨g0, 0, none⟩ = some (.int .i64 a0) ∧ w1.cell? ⟨g0, 1, none⟩ = some (.bool a1) ∧ w1.cell? ⟨g0, 2, none⟩ = some (.int .i64 a2) ∧ w1.cell? ⟨g0, 3, none⟩ = some (.int .i64 a3) ∧ w1.cell? ⟨g0, 4, none⟩ = some (.int .i64 a4) ∧ w1.cell? ⟨g0, 5, none⟩ = some (.int .i64 a5) ∧ w1.cell? ⟨g1, 0, none⟩ = some (.int .i64 b0) ∧ w1.cell? ⟨g1, 1, none⟩ = some (.bool b1) ∧ w1.cell? ⟨g1, 2, none⟩ = some (.int .i64 b2) ∧ w1.cell? ⟨g1, 3, none⟩ = some (.int .i64 b3) ∧ w1.cell? ⟨g1, 4, none⟩ = some (.int .i64 b4) ∧ w1.cell? ⟨g1, 5, none⟩ = some (.int .i64 b5) ∧ w1.cell? ⟨g2, 0, none⟩ = some (.int .i64 c0) ∧ w1.cell? ⟨g2, 1, none⟩ = some (.bool c1) ∧ w1.cell? ⟨g2, 2, none⟩ = some (.int .i64 c2) ∧ w1.cell? ⟨g2, 3, none⟩ = some (.int .i64 c3) ∧ w1.cell? ⟨g2, 4, none⟩ = some (.int .i64 c4) ∧ w1.cell? ⟨g2, 5, none⟩ = some (.int .i64 c5) ∧ Below V.heap.size V w1) (((with_reducible refine HK.out _ ?_); (repeat (with_reducible first | assumption | apply below_drew1 | apply below_alloc))))
            (first | (go_at_call 11; refine (H_hs.out _).mono ?_; rintro e w' ⟨rfl, hb⟩; have HBk : Below V.heap.size V w' := below_step (by (repeat (with_reducible first | assumption | apply below_drew1 | apply below_alloc))) hb) | (go_at_call 13; refine (H_hr.out _).mono ?_; rintro e w' ⟨rfl, hb⟩; have HBk : Below V.heap.size V w' := below_step (by (repeat (with_reducible first | assumption | apply below_drew1 | apply below_alloc))) hb))
          all_goals
          go_wp2_with fail
          go_meet
          exact ⟨rfl, by with_reducible assumption⟩
        · have hq : decide (a0 < 2) = false := decide_eq_false q
          refine start_ (n := 17) (S := (fun w1 => w1.cell? ⟨g0, 0, none⟩ = some (.int .i64 a0) ∧ w1.cell? ⟨g0, 1, none⟩ = some (.bool a1) ∧ w1.cell? ⟨g0, 2, none⟩ = some (.int .i64 a2) ∧ w1.cell? ⟨g0, 3, none⟩ = some (.int .i64 a3) ∧ w1.cell? ⟨g0, 4, none⟩ = some (.int .i64 a4) ∧ w1.cell? ⟨g0, 5, none⟩ = some (.int .i64 a5) ∧ w1.cell? ⟨g1, 0, none⟩ = some (.int .i64 b0) ∧ w1.cell? ⟨g1, 1, none⟩ = some (.bool b1) ∧ w1.cell? ⟨g1, 2, none⟩ = some (.int .i64 b2) ∧ w1.cell? ⟨g1, 3, none⟩ = some (.int .i64 b3) ∧ w1.cell? ⟨g1, 4, none⟩ = some (.int .i64 b4) ∧ w1.cell? ⟨g1, 5, none⟩ = some (.int .i64 b5) ∧ w1.cell? ⟨g2, 0, none⟩ = some (.int .i64 c0) ∧ w1.cell? ⟨g2, 1, none⟩ = some (.bool c1) ∧ w1.cell? ⟨g2, 2, none⟩ = some (.int .i64 c2) ∧ w1.cell? ⟨g2, 3, none⟩ = some (.int .i64 c3) ∧ w1.cell? ⟨g2, 4, none⟩ = some (.int .i64 c4) ∧ w1.cell? ⟨g2, 5, none⟩ = some (.int .i64 c5) ∧ Below V.heap.size V w1)) (ds := []) #[false, false, false, false, false, false, false, false, false, false, false, false, false, false, false, false, false] (by kernel_rfl) rfl rfl (HK.out _ (below_drew1 HW)) (fun hHeld => ?_)
          refine take_ (i := 0) (N := some 27) (v := ?_) (a' := ?_) #[true, false, false, false, false, false, false, false, false, false, false, false, false, false, false, false, false] rfl rfl (by kernel_rfl) (fun _ _ _ h => h) (Or.inl ⟨by rfl, ?_⟩) hHeld ?_ ?_
          rotate_left
          · rintro w' ⟨s0, s1, s2, s3, s4, s5, s6, s7, s8, s9, s10, s11, s12, s13, s14, s15, s16, s17, s18⟩
            go_simp
            with_reducible rfl
          rotate_left
          · simp only [Act.put, List.setIfInBounds_toArray, List.set_cons_zero, List.set_cons_succ, i64_w, i32_w]
            rfl
          refine take_ (i := 1) (N := some 28) (v := ?_) (a' := ?_) #[true, true, false, false, false, false, false, false, false, false, false, false, false, false, false, false, false] rfl rfl (by kernel_rfl) (fun _ _ _ h => h) (Or.inl ⟨by rfl, ?_⟩) hHeld ?_ ?_
          rotate_left
          · rintro w' ⟨s0, s1, s2, s3, s4, s5, s6, s7, s8, s9, s10, s11, s12, s13, s14, s15, s16, s17, s18⟩
            go_simp
            with_reducible rfl
          rotate_left
          · simp only [Act.put, List.setIfInBounds_toArray, List.set_cons_zero, List.set_cons_succ, i64_w, i32_w]
            rfl
          refine take_ (i := 2) (N := some 29) (v := ?_) (a' := ?_) #[true, true, true, false, false, false, false, false, false, false, false, false, false, false, false, false, false] rfl rfl (by kernel_rfl) (fun _ _ _ h => h) (Or.inl ⟨by rfl, ?_⟩) hHeld ?_ ?_
          rotate_left
          · rintro w' ⟨s0, s1, s2, s3, s4, s5, s6, s7, s8, s9, s10, s11, s12, s13, s14, s15, s16, s17, s18⟩
            go_simp
            with_reducible rfl
          rotate_left
          · simp only [Act.put, List.setIfInBounds_toArray, List.set_cons_zero, List.set_cons_succ, i64_w, i32_w]
            rfl
          refine one_ (i := 3) (N := some 30) #[true, true, true, true, false, false, false, false, false, false, false, false, false, false, false, false, false] rfl rfl (by kernel_rfl) (by decide) (fun K hK => ?_)
          refine goes_ Try.func11 (by kernel_rfl) rfl #[.agg #[.int .i64 a0, .bool a1, .int .i64 a2, .int .i64 a3, .int .i64 a4, .int .i64 a5], .agg #[.int .i64 b0, .bool b1, .int .i64 b2, .int .i64 b3, .int .i64 b4, .int .i64 b5]] (by rfl) rfl rfl (by (try simp only [List.map_toArray, List.map_cons, List.map_nil]); first | done | rfl) ?_
          refine (H_hs.out _).mono ?_
          rintro e w' ⟨rfl, hb⟩
          have HBk : Below V.heap.size V w' := below_step (hHeld.2.2.2.2.2.2.2.2.2.2.2.2.2.2.2.2.2.2) hb
          refine ⟨_, rfl, ?_⟩
          clear hHeld hb
          refine hK.out _ _ (HK.out _ HBk) (fun hHeld => ?_)
          clear hK K
          refine norm_ (a' := ?_) ?_ ?_
          rotate_left
          · show Act.put _ (some 30) _ = _
            simp only [Act.put, List.setIfInBounds_toArray, List.set_cons_zero, List.set_cons_succ, i64_w, i32_w]
            rfl
          refine pure_ (i := 4) (N := some 31) (v := ?_) (a' := ?_) #[true, true, true, true, true, false, false, false, false, false, false, false, false, false, false, false, false] rfl rfl (by kernel_rfl) (fun _ _ _ h => h) (Or.inl ⟨by rfl, ?_⟩) ?_ ?_
          rotate_left
          · intro w'
            go_simp
            with_reducible rfl
          rotate_left
          · simp only [Act.put, List.setIfInBounds_toArray, List.set_cons_zero, List.set_cons_succ, i64_w, i32_w]
            rfl
          refine pure_ (i := 5) (N := some 32) (v := ?_) (a' := ?_) #[true, true, true, true, true, true, false, false, false, false, false, false, false, false, false, false, false] rfl rfl (by kernel_rfl) (fun _ _ _ h => h) (Or.inl ⟨by rfl, ?_⟩) ?_ ?_
          rotate_left
          · intro w'
            go_simp
            with_reducible rfl
          rotate_left
          · simp only [Act.put, List.setIfInBounds_toArray, List.set_cons_zero, List.set_cons_succ, i64_w, i32_w]
            rfl
          refine pure_ (i := 6) (N := some 33) (v := ?_) (a' := ?_) #[true, true, true, true, true, true, true, false, false, false, false, false, false, false, false, false, false] rfl rfl (by kernel_rfl) (fun _ _ _ h => h) (Or.inl ⟨by rfl, ?_⟩) ?_ ?_
          rotate_left
          · intro w'
            go_simp
            with_reducible rfl
          rotate_left
          · simp only [Act.put, List.setIfInBounds_toArray, List.set_cons_zero, List.set_cons_succ, i64_w, i32_w]
            rfl
          refine take_ (i := 7) (N := some 34) (v := ?_) (a' := ?_) #[true, true, true, true, true, true, true, true, false, false, false, false, false, false, false, false, false] rfl rfl (by kernel_rfl) (fun _ _ _ h => h) (Or.inl ⟨by rfl, ?_⟩) hHeld ?_ ?_
          rotate_left
          · rintro w' ⟨s0, s1, s2, s3, s4, s5, s6, s7, s8, s9, s10, s11, s12, s13, s14, s15, s16, s17, s18⟩
            go_simp
            with_reducible rfl
          rotate_left
          · simp only [Act.put, List.setIfInBounds_toArray, List.set_cons_zero, List.set_cons_succ, i64_w, i32_w]
            rfl
          refine pure_ (i := 8) (N := some 35) (v := ?_) (a' := ?_) #[true, true, true, true, true, true, true, true, true, false, false, false, false, false, false, false, false] rfl rfl (by kernel_rfl) (fun _ _ _ h => h) (Or.inl ⟨by rfl, ?_⟩) ?_ ?_
          rotate_left
          · intro w'
            go_simp
            with_reducible rfl
          rotate_left
          · simp only [Act.put, List.setIfInBounds_toArray, List.set_cons_zero, List.set_cons_succ, i64_w, i32_w]
            rfl
          refine pure_ (i := 9) (N := some 36) (v := ?_) (a' := ?_) #[true, true, true, true, true, true, true, true, true, true, false, false, false, false, false, false, false] rfl rfl (by kernel_rfl) (fun _ _ _ h => h) (Or.inl ⟨by rfl, ?_⟩) ?_ ?_
          rotate_left
          · intro w'
            go_simp
            with_reducible rfl
          rotate_left
          · simp only [Act.put, List.setIfInBounds_toArray, List.set_cons_zero, List.set_cons_succ, i64_w, i32_w]
            rfl
          refine pure_ (i := 10) (N := some 37) (v := undef) (a' := ?_) #[true, true, true, true, true, true, true, true, true, true, true, false, false, false, false, false, false] rfl rfl (by kernel_rfl) (fun _ _ _ h => h) (Or.inr ⟨by rfl, rfl⟩) ?_ ?_
          rotate_left
          · simp only [Act.put, List.setIfInBounds_toArray, List.set_cons_zero, List.set_cons_succ, i64_w, i32_w]
            rfl
          refine pure_ (i := 11) (N := some 38) (v := undef) (a' := ?_) #[true, true, true, true, true, true, true, true, true, true, true, true, false, false, false, false, false] rfl rfl (by kernel_rfl) (fun _ _ _ h => h) (Or.inr ⟨by rfl, rfl⟩) ?_ ?_
          rotate_left
          · simp only [Act.put, List.setIfInBounds_toArray, List.set_cons_zero, List.set_cons_succ, i64_w, i32_w]
            rfl
          refine pure_ (i := 12) (N := some 39) (v := undef) (a' := ?_) #[true, true, true, true, true, true, true, true, true, true, true, true, true, false, false, false, false] rfl rfl (by kernel_rfl) (fun _ _ _ h => h) (Or.inr ⟨by rfl, rfl⟩) ?_ ?_
          rotate_left
          · simp only [Act.put, List.setIfInBounds_toArray, List.set_cons_zero, List.set_cons_succ, i64_w, i32_w]
            rfl
          refine pure_ (i := 13) (N := some 40) (v := undef) (a' := ?_) #[true, true, true, true, true, true, true, true, true, true, true, true, true, true, false, false, false] rfl rfl (by kernel_rfl) (fun _ _ _ h => h) (Or.inr ⟨by rfl, rfl⟩) ?_ ?_
          rotate_left
          · simp only [Act.put, List.setIfInBounds_toArray, List.set_cons_zero, List.set_cons_succ, i64_w, i32_w]
            rfl
          refine pure_ (i := 14) (N := some 41) (v := undef) (a' := ?_) #[true, true, true, true, true, true, true, true, true, true, true, true, true, true, true, false, false] rfl rfl (by kernel_rfl) (fun _ _ _ h => h) (Or.inr ⟨by rfl, rfl⟩) ?_ ?_
          rotate_left
          · simp only [Act.put, List.setIfInBounds_toArray, List.set_cons_zero, List.set_cons_succ, i64_w, i32_w]
            rfl
          refine pure_ (i := 15) (N := some 42) (v := ?_) (a' := ?_) #[true, true, true, true, true, true, true, true, true, true, true, true, true, true, true, true, false] rfl rfl (by kernel_rfl) (fun _ _ _ h => h) (Or.inl ⟨by rfl, ?_⟩) ?_ ?_
          rotate_left
          · intro w'
            go_simp
            with_reducible rfl
          rotate_left
          · simp only [Act.put, List.setIfInBounds_toArray, List.set_cons_zero, List.set_cons_succ, i64_w, i32_w]
            rfl
          refine pure_ (i := 16) (N := some 43) (v := ?_) (a' := ?_) #[true, true, true, true, true, true, true, true, true, true, true, true, true, true, true, true, true] rfl rfl (by kernel_rfl) (fun _ _ _ h => h) (Or.inl ⟨by rfl, ?_⟩) ?_ ?_
          rotate_left
          · intro w'
            go_simp
            with_reducible rfl
          rotate_left
          · simp only [Act.put, List.setIfInBounds_toArray, List.set_cons_zero, List.set_cons_succ, i64_w, i32_w]
            rfl
          refine done_ (by kernel_rfl) ?_
          go_wp2_with fail
          go_meet
          exact ⟨rfl, by with_reducible assumption⟩
      case rest =>
        obtain ⟨rfl, hb⟩ := hcut
        obtain ⟨V3, hW⟩ : ∃ x : World, x = wc := ⟨_, rfl⟩
        rw [← hW] at hb ⊢
        clear hW HK HW
        have k_ := Aside0.mk (BA.out.below hb)
        clear BA
        have BA := k_
        clear k_
        have k_ := Aside0.mk (BB.out.below hb)
        clear BB
        have BB := k_
        clear k_
        have k_ := Aside0.mk (BC.out.below hb)
        clear BC
        have BC := k_
        clear k_
        have k_ := Aside0.mk (below_step HB2.out hb)
        clear HB2
        have HB := k_
        clear k_
        have k_ := Aside0.mk (H_mR.out _ _ hb HR.out)
        clear HR hb
        have HR := k_
        clear k_
        by_cases q : 1 < a0
        · obtain ⟨h0, h1, h2, h3, h4, h5⟩ := BA.out
          go_wp2
          go_ret
          exact ⟨rfl, HB.out⟩
        · have HF := Aside0.mk (H_hF.out (by omega))
          have H2_ha := Aside0.mk (H_ha.out (by omega))
          clear H_ha
          have H2_hb := Aside0.mk (H_hb.out (by omega))
          clear H_hb
          have H2_hc := Aside0.mk (H_hc.out (by omega))
          clear H_hc
          have h0 := BA.out.1
          go_upto_region 9 with fail
          clear h0
          go_cut [8] (fun s8 wx => ∃ (g : Nat) (p : Option Addr), s8 = .pointer (some ⟨g, 0, none⟩) ∧ B9 wx g p ∧ Two wx p ∧ Below V3.heap.size V3 wx)
          case first =>
            go_wp2_with fail
            go_meet
            exact ⟨_, _, rfl, two_made _⟩
          case rest =>
            obtain ⟨g3, p, rfl, BM, BT, hb⟩ := hcut
            obtain ⟨V4, hW⟩ : ∃ x : World, x = wc := ⟨_, rfl⟩
            rw [← hW] at BM BT hb ⊢
            clear hW
            have k_ := Aside0.mk (BA.out.below hb)
            clear BA
            have BA := k_
            clear k_
            have k_ := Aside0.mk (BB.out.below hb)
            clear BB
            have BB := k_
            clear k_
            have k_ := Aside0.mk (BC.out.below hb)
            clear BC
            have BC := k_
            clear k_
            have k_ := Aside0.mk (below_step HB.out hb)
            clear HB
            have HB := k_
            clear k_
            have k_ := Aside0.mk (H_mR.out _ _ hb HR.out)
            clear HR
            have HR := k_
            clear k_
            clear hb
            have BM := Aside0.mk BM
            have BT := Aside0.mk BT
            go_wp2_with fail
            go_loopg [9] 16 (fun q v9 wr => ∃ k : Nat, v9 = .int .i64 k ∧ Aside0 (k + q = 16) ∧ Aside0 (Below V4.heap.size V4 wr))
            case atStart => exact ⟨0, rfl, ⟨by omega⟩, ⟨Below.refl _ _⟩⟩
            case round =>
              obtain ⟨k, rfl, hk, HV⟩ := hrel
              by_cases hlt : k < 16
              · have hlt' : (k : Int) < 16 := by omega
                have CA := Aside0.mk (BA.out.below HV.out)
                have CB := Aside0.mk (BB.out.below HV.out)
                have CC := Aside0.mk (BC.out.below HV.out)
                have CM := Aside0.mk (BM.out.below HV.out)
                have CT := Aside0.mk (BT.out.below HV.out)
                have HRr := Aside0.mk (H_mR.out _ _ HV.out HR.out)
                go_upto_if 61 with (first | (go_at_call 16; refine (H_ht.out _ k HRr.out hlt).mono ?_; rintro e w1 ⟨r, rfl, hb⟩))
                have k_ := Aside0.mk (CA.out.below hb)
                clear CA
                have CA := k_
                clear k_
                have k_ := Aside0.mk (CB.out.below hb)
                clear CB
                have CB := k_
                clear k_
                have k_ := Aside0.mk (CC.out.below hb)
                clear CC
                have CC := k_
                clear k_
                have k_ := Aside0.mk (CM.out.below hb)
                clear CM
                have CM := k_
                clear k_
                have k_ := Aside0.mk (CT.out.below hb)
                clear CT
                have CT := k_
                clear k_
                have HV1 := Aside0.mk (below_step HV.out hb)
                clear HV hb HRr
                go_cut [10] (fun s10 wx => ∃ x : Int, s10 = .int .u64 x ∧ wx = w1)
                case first =>
                  go_wp2
                  all_goals
                    go_meet
                    exact ⟨_, rfl, rfl⟩
                case rest =>
                  obtain ⟨x, rfl, hw⟩ := hcut
                  rw [hw]
                  clear hw
                  go_upto_if 66 with fail
                  go_cut [10] (fun s10 wx => ∃ x : Int, s10 = .int .u64 x ∧ wx = w1)
                  case first =>
                    go_wp2
                    all_goals
                      go_meet
                      exact ⟨_, rfl, rfl⟩
                  case rest =>
                    obtain ⟨x, rfl, hw⟩ := hcut
                    rw [hw]
                    clear hw
                    cases fa : Fa x with
                    | true =>
                      have fc : Fc x = true := HF.out x (by rw [fa]; rfl)
                      obtain ⟨h0, h1, h2, h3, h4, h5⟩ := CA.out
                      obtain ⟨m0, m1, m2, m3, m4, m5, m6, m7, m8⟩ := CM.out
                      go_wp2_with fail
                      refine (H2_ha.out _ _ _ CT.out).mono ?_
                      rintro e w2 ⟨rfl, hb⟩
                      clear h0 h1 h2 h3 h4 h5 m0 m1 m2 m3 m4 m5 m6 m7 m8
                      have k_ := Aside0.mk (CC.out.below hb)
                      clear CC
                      have CC := k_
                      clear k_
                      have k_ := Aside0.mk (CM.out.below hb)
                      clear CM
                      have CM := k_
                      clear k_
                      have k_ := Aside0.mk (CT.out.below hb)
                      clear CT
                      have CT := k_
                      clear k_
                      have k_ := Aside0.mk (below_step HV1.out hb)
                      clear HV1
                      have HV1 := k_
                      clear k_
                      clear hb
                      rw [fa]
                      obtain ⟨j0, j1, j2, j3, j4, j5⟩ := CC.out
                      obtain ⟨m0, m1, m2, m3, m4, m5, m6, m7, m8⟩ := CM.out
                      go_wp2_with fail
                      refine (H2_hc.out _ _ _ CT.out).mono ?_
                      rintro e w3 ⟨rfl, hb⟩
                      clear j0 j1 j2 j3 j4 j5 m0 m1 m2 m3 m4 m5 m6 m7 m8
                      have k_ := Aside0.mk (below_step HV1.out hb)
                      clear HV1
                      have HV1 := k_
                      clear k_
                      clear hb
                      rw [fc]
                      go_wp2
                      go_roundg (16 - (k + 1))
                      case measure => have := hk.out; omega
                      case rel => exact ⟨k + 1, by go_num, ⟨by omega⟩, HV1⟩
                    | false =>
                      obtain ⟨h0, h1, h2, h3, h4, h5⟩ := CA.out
                      obtain ⟨m0, m1, m2, m3, m4, m5, m6, m7, m8⟩ := CM.out
                      go_wp2_with fail
                      refine (H2_ha.out _ _ _ CT.out).mono ?_
                      rintro e w2 ⟨rfl, hb⟩
                      clear h0 h1 h2 h3 h4 h5 m0 m1 m2 m3 m4 m5 m6 m7 m8
                      have k_ := Aside0.mk (CB.out.below hb)
                      clear CB
                      have CB := k_
                      clear k_
                      have k_ := Aside0.mk (CC.out.below hb)
                      clear CC
                      have CC := k_
                      clear k_
                      have k_ := Aside0.mk (CM.out.below hb)
                      clear CM
                      have CM := k_
                      clear k_
                      have k_ := Aside0.mk (CT.out.below hb)
                      clear CT
                      have CT := k_
                      clear k_
                      have k_ := Aside0.mk (below_step HV1.out hb)
                      clear HV1
                      have HV1 := k_
                      clear k_
                      clear hb
                      rw [fa]
                      cases fb : Fb x with
                      | true =>
                        have fc : Fc x = true := HF.out x (by rw [fb, Bool.or_true])
                        obtain ⟨i0, i1, i2, i3, i4, i5⟩ := CB.out
                        obtain ⟨m0, m1, m2, m3, m4, m5, m6, m7, m8⟩ := CM.out
                        go_wp2_with fail
                        refine (H2_hb.out _ _ _ CT.out).mono ?_
                        rintro e w3 ⟨rfl, hb⟩
                        clear i0 i1 i2 i3 i4 i5 m0 m1 m2 m3 m4 m5 m6 m7 m8
                        have k_ := Aside0.mk (CC.out.below hb)
                        clear CC
                        have CC := k_
                        clear k_
                        have k_ := Aside0.mk (CM.out.below hb)
                        clear CM
                        have CM := k_
                        clear k_
                        have k_ := Aside0.mk (CT.out.below hb)
                        clear CT
                        have CT := k_
                        clear k_
                        have k_ := Aside0.mk (below_step HV1.out hb)
                        clear HV1
                        have HV1 := k_
                        clear k_
                        clear hb
                        rw [fb]
                        obtain ⟨j0, j1, j2, j3, j4, j5⟩ := CC.out
                        obtain ⟨m0, m1, m2, m3, m4, m5, m6, m7, m8⟩ := CM.out
                        go_wp2_with fail
                        refine (H2_hc.out _ _ _ CT.out).mono ?_
                        rintro e w4 ⟨rfl, hb⟩
                        clear j0 j1 j2 j3 j4 j5 m0 m1 m2 m3 m4 m5 m6 m7 m8
                        have k_ := Aside0.mk (below_step HV1.out hb)
                        clear HV1
                        have HV1 := k_
                        clear k_
                        clear hb
                        rw [fc]
                        go_wp2
                        go_roundg (16 - (k + 1))
                        case measure => have := hk.out; omega
                        case rel => exact ⟨k + 1, by go_num, ⟨by omega⟩, HV1⟩
                      | false =>
                        obtain ⟨i0, i1, i2, i3, i4, i5⟩ := CB.out
                        obtain ⟨m0, m1, m2, m3, m4, m5, m6, m7, m8⟩ := CM.out
                        go_wp2_with fail
                        refine (H2_hb.out _ _ _ CT.out).mono ?_
                        rintro e w3 ⟨rfl, hb⟩
                        clear i0 i1 i2 i3 i4 i5 m0 m1 m2 m3 m4 m5 m6 m7 m8
                        have k_ := Aside0.mk (below_step HV1.out hb)
                        clear HV1
                        have HV1 := k_
                        clear k_
                        clear hb
                        rw [fb]
                        go_wp2
                        go_roundg (16 - (k + 1))
                        case measure => have := hk.out; omega
                        case rel => exact ⟨k + 1, by go_num, ⟨by omega⟩, HV1⟩
              · have CA := BA.out.below HV.out
                have CB := BB.out.below HV.out
                have CC := BC.out.below HV.out
                have hge : ¬ ((k : Int) < 16) := by omega
                have HBz := Aside0.mk (below_step HB.out HV.out)
                have hc1 := H_hS.out
                clear H_hS
                cases qc : (c0 == 0) <;> cases a1 <;> cases b1
                all_goals
                  rw [qc] at hc1
                  simp only [Bool.or_true, Bool.or_false, Bool.true_or, Bool.false_or, Bool.or_self, Bool.and_true, Bool.and_false, Bool.true_and, Bool.false_and, Bool.and_self] at hc1
                  subst hc1
                  obtain ⟨h0, h1, h2, h3, h4, h5⟩ := CA
                  obtain ⟨i0, i1, i2, i3, i4, i5⟩ := CB
                  obtain ⟨j0, j1, j2, j3, j4, j5⟩ := CC
                  go_wp2
                  go_ret
                  exact ⟨rfl, HBz.out⟩
end Go.Proofs.Ytfeglenlpnhofaa.Mine
