/- The walk of the law FnExactValidMach (function 8) out of its callees' contracts: it returns true, and nothing that was in memory changes. -/
import Derived.Test.YtfeglenlpnhofaaBase
namespace Go.Proofs.Ytfeglenlpnhofaa.Mine
open Go.RowKit Go.Proofs.YtfeglenlpnhofaaW.PrintWords Go.Proofs.YtfeglenlpnhofaaW.PrintLast Go.Proofs.YtfeglenlpnhofaaW.PrintMore

set_option maxRecDepth 100000 in
set_option maxHeartbeats 8000000 in
theorem vmach_out0 (n00 : Nat) (x01 : Bool) (x02 : Bool) (x03 : Bool) (x04 : Bool) (n05 : Nat) (x06 : Int) (x07 : Int) (n08 : Nat) (l1 : Int) (a00 : Option Addr) (a0c0 : Nat) (a05 : Option Addr) (a0c5 : Nat) (a08 : Option Addr) (a0c8 : Nat) (A0 : World → Prop)
    (mA0 : ∀ w w' : World, Below w.heap.size w w' → A0 w → A0 w')
    (hsz0 : ∀ w : World, A0 w → Calls Try.prog 28 #[.agg #[.slice a00 n00 a0c0, .bool x01, .bool x02, .bool x03, .bool x04, .slice a05 n05 a0c5, .int .i64 x06, .int .i64 x07, .slice a08 n08 a0c8], .int .i64 1048576] w fun e w' => e = .returned (.int .i64 l1) ∧ Below w.heap.size w w')
    (w : World) (hA0 : A0 w) (hl0 : l1 < 0) :
    Calls Try.prog 8 #[.agg #[.slice a00 n00 a0c0, .bool x01, .bool x02, .bool x03, .bool x04, .slice a05 n05 a0c5, .int .i64 x06, .int .i64 x07, .slice a08 n08 a0c8]] w fun e w' => e = .returned (.bool true) ∧ Below w.heap.size w w' := by
  have H_mA0 := Aside0.mk mA0
  have H_hsz0 := Aside0.mk hsz0
  clear mA0 hsz0
  have HB := Below.refl w.heap.size w
  go_enter Try.func8, Try.ntmps8
  go_upto_region 1 with (first | ((with_reducible refine gate_dst (N := 1) rfl ?_); refine box_event ?hg (N := 1) ?hd (cs := #[.slice a00 n00 a0c0, .bool x01, .bool x02, .bool x03, .bool x04, .slice a05 n05 a0c5, .int .i64 x06, .int .i64 x07, .slice a08 n08 a0c8]) (t := 69) ?hr ?_; (case hd => rfl); (case hg => rfl); (case hr => first | (go_simp; done) | (go_simp; rfl)); intro g0 hg W0 hbox hb; have kb_ := below_step HB hb; clear HB; have HB := kb_; clear kb_ hb hg; have BK0 := hbox; clear hbox))
  have HA0 := H_mA0.out _ _ HB hA0
  clear hA0
  obtain ⟨W, hWW⟩ : ∃ W, W = W0 := ⟨_, rfl⟩
  rw [← hWW] at HB BK0 HA0 ⊢
  clear hWW
  have z0_0 : W.cell? ⟨g0, 0, none⟩ = some (.slice a00 n00 a0c0) := (blk_cell BK0 0).trans rfl
  have z0_1 : W.cell? ⟨g0, 1, none⟩ = some (.bool x01) := (blk_cell BK0 1).trans rfl
  have z0_2 : W.cell? ⟨g0, 2, none⟩ = some (.bool x02) := (blk_cell BK0 2).trans rfl
  have z0_3 : W.cell? ⟨g0, 3, none⟩ = some (.bool x03) := (blk_cell BK0 3).trans rfl
  have z0_4 : W.cell? ⟨g0, 4, none⟩ = some (.bool x04) := (blk_cell BK0 4).trans rfl
  have z0_5 : W.cell? ⟨g0, 5, none⟩ = some (.slice a05 n05 a0c5) := (blk_cell BK0 5).trans rfl
  have z0_6 : W.cell? ⟨g0, 6, none⟩ = some (.int .i64 x06) := (blk_cell BK0 6).trans rfl
  have z0_7 : W.cell? ⟨g0, 7, none⟩ = some (.int .i64 x07) := (blk_cell BK0 7).trans rfl
  have z0_8 : W.cell? ⟨g0, 8, none⟩ = some (.slice a08 n08 a0c8) := (blk_cell BK0 8).trans rfl
  go_wp2_with fail
  refine (H_hsz0.out _ HA0).mono ?_
  rintro e V1 ⟨rfl, hb⟩
  clear z0_0 z0_1 z0_2 z0_3 z0_4 z0_5 z0_6 z0_7 z0_8
  have k_ := below_step HB hb
  clear HB
  have HB := k_
  clear k_
  have k_ := blk_below BK0 hb
  clear BK0
  have BK0 := k_
  clear k_
  have k_ := H_mA0.out _ _ hb HA0
  clear HA0
  have HA0 := k_
  clear k_
  clear hb
  go_wp2
  go_ret
  exact ⟨rfl, HB⟩

set_option maxRecDepth 100000 in
set_option maxHeartbeats 8000000 in
theorem vmach_main (n00 : Nat) (x01 : Bool) (x02 : Bool) (x03 : Bool) (x04 : Bool) (n05 : Nat) (x06 : Int) (x07 : Int) (n08 : Nat) (b : Bool) (l1 : Int) (a00 : Option Addr) (a0c0 : Nat) (a05 : Option Addr) (a0c5 : Nat) (a08 : Option Addr) (a0c8 : Nat) (A0 : World → Prop) (R0 : World → Option Addr → Nat → Option Addr → Nat → Option Addr → Nat → Prop)
    (mA0 : ∀ w w' : World, Below w.heap.size w w' → A0 w → A0 w')
    (mR0 : ∀ (w w' : World) p0 pc0 p5 pc5 p8 pc8, Below w.heap.size w w' → R0 w p0 pc0 p5 pc5 p8 pc8 → R0 w' p0 pc0 p5 pc5 p8 pc8)
    (hsz0 : ∀ w : World, A0 w → Calls Try.prog 28 #[.agg #[.slice a00 n00 a0c0, .bool x01, .bool x02, .bool x03, .bool x04, .slice a05 n05 a0c5, .int .i64 x06, .int .i64 x07, .slice a08 n08 a0c8], .int .i64 1048576] w fun e w' => e = .returned (.int .i64 l1) ∧ Below w.heap.size w w')
    (hto0 : ∀ w : World, A0 w → Calls Try.prog 30 #[.agg #[.slice a00 n00 a0c0, .bool x01, .bool x02, .bool x03, .bool x04, .slice a05 n05 a0c5, .int .i64 x06, .int .i64 x07, .slice a08 n08 a0c8]] w fun e w' => ∃ p0 pc0 p5 pc5 p8 pc8, e = .returned (.agg #[.slice p0 n00 pc0, .bool x01, .bool x02, .bool x03, .bool x04, .slice p5 n05 pc5, .int .i64 x06, .int .i64 x07, .slice p8 n08 pc8]) ∧ R0 w' p0 pc0 p5 pc5 p8 pc8 ∧ Below w.heap.size w w')
    (heq0 : ∀ (w : World) p0 pc0 p5 pc5 p8 pc8 q0 qc0 q5 qc5 q8 qc8, R0 w p0 pc0 p5 pc5 p8 pc8 → R0 w q0 qc0 q5 qc5 q8 qc8 → Calls Try.prog 32 #[.agg #[.slice p0 n00 pc0, .bool x01, .bool x02, .bool x03, .bool x04, .slice p5 n05 pc5, .int .i64 x06, .int .i64 x07, .slice p8 n08 pc8], .agg #[.slice q0 n00 qc0, .bool x01, .bool x02, .bool x03, .bool x04, .slice q5 n05 qc5, .int .i64 x06, .int .i64 x07, .slice q8 n08 qc8]] w fun e w' => e = .returned (.bool true) ∧ Below w.heap.size w w')
    (hspec : ∀ (w : World) p00 p0c0 p05 p0c5 p08 p0c8, R0 w p00 p0c0 p05 p0c5 p08 p0c8 → Calls Try.prog 29 #[.agg #[.slice p00 n00 p0c0, .bool x01, .bool x02, .bool x03, .bool x04, .slice p05 n05 p0c5, .int .i64 x06, .int .i64 x07, .slice p08 n08 p0c8]] w fun e w' => e = .returned (.bool b) ∧ Below w.heap.size w w')
    (himpl : ∀ (w : World) p00 p0c0 p05 p0c5 p08 p0c8, R0 w p00 p0c0 p05 p0c5 p08 p0c8 → Calls Try.prog 31 #[.agg #[.slice p00 n00 p0c0, .bool x01, .bool x02, .bool x03, .bool x04, .slice p05 n05 p0c5, .int .i64 x06, .int .i64 x07, .slice p08 n08 p0c8]] w fun e w' => e = .returned (.bool b) ∧ Below w.heap.size w w')
    (w : World) (hA0 : A0 w) (hl0 : 0 ≤ l1) :
    Calls Try.prog 8 #[.agg #[.slice a00 n00 a0c0, .bool x01, .bool x02, .bool x03, .bool x04, .slice a05 n05 a0c5, .int .i64 x06, .int .i64 x07, .slice a08 n08 a0c8]] w fun e w' => e = .returned (.bool true) ∧ Below w.heap.size w w' := by
  have H_mA0 := Aside0.mk mA0
  have H_mR0 := Aside0.mk mR0
  have H_hsz0 := Aside0.mk hsz0
  have H_hto0 := Aside0.mk hto0
  have H_heq0 := Aside0.mk heq0
  have H_hspec := Aside0.mk hspec
  have H_himpl := Aside0.mk himpl
  clear mA0 mR0 hsz0 hto0 heq0 hspec himpl
  have HB := Below.refl w.heap.size w
  go_enter Try.func8, Try.ntmps8
  go_upto_region 1 with (first | ((with_reducible refine gate_dst (N := 1) rfl ?_); refine box_event ?hg (N := 1) ?hd (cs := #[.slice a00 n00 a0c0, .bool x01, .bool x02, .bool x03, .bool x04, .slice a05 n05 a0c5, .int .i64 x06, .int .i64 x07, .slice a08 n08 a0c8]) (t := 69) ?hr ?_; (case hd => rfl); (case hg => rfl); (case hr => first | (go_simp; done) | (go_simp; rfl)); intro g0 hg W0 hbox hb; have kb_ := below_step HB hb; clear HB; have HB := kb_; clear kb_ hb hg; have BK0 := hbox; clear hbox))
  have HA0 := H_mA0.out _ _ HB hA0
  clear hA0
  obtain ⟨W, hWW⟩ : ∃ W, W = W0 := ⟨_, rfl⟩
  rw [← hWW] at HB BK0 HA0 ⊢
  clear hWW
  have z0_0 : W.cell? ⟨g0, 0, none⟩ = some (.slice a00 n00 a0c0) := (blk_cell BK0 0).trans rfl
  have z0_1 : W.cell? ⟨g0, 1, none⟩ = some (.bool x01) := (blk_cell BK0 1).trans rfl
  have z0_2 : W.cell? ⟨g0, 2, none⟩ = some (.bool x02) := (blk_cell BK0 2).trans rfl
  have z0_3 : W.cell? ⟨g0, 3, none⟩ = some (.bool x03) := (blk_cell BK0 3).trans rfl
  have z0_4 : W.cell? ⟨g0, 4, none⟩ = some (.bool x04) := (blk_cell BK0 4).trans rfl
  have z0_5 : W.cell? ⟨g0, 5, none⟩ = some (.slice a05 n05 a0c5) := (blk_cell BK0 5).trans rfl
  have z0_6 : W.cell? ⟨g0, 6, none⟩ = some (.int .i64 x06) := (blk_cell BK0 6).trans rfl
  have z0_7 : W.cell? ⟨g0, 7, none⟩ = some (.int .i64 x07) := (blk_cell BK0 7).trans rfl
  have z0_8 : W.cell? ⟨g0, 8, none⟩ = some (.slice a08 n08 a0c8) := (blk_cell BK0 8).trans rfl
  go_wp2_with fail
  refine (H_hsz0.out _ HA0).mono ?_
  rintro e V1 ⟨rfl, hb⟩
  clear z0_0 z0_1 z0_2 z0_3 z0_4 z0_5 z0_6 z0_7 z0_8
  have k_ := below_step HB hb
  clear HB
  have HB := k_
  clear k_
  have k_ := blk_below BK0 hb
  clear BK0
  have BK0 := k_
  clear k_
  have k_ := H_mA0.out _ _ hb HA0
  clear HA0
  have HA0 := k_
  clear k_
  clear hb
  have z0_0 : V1.cell? ⟨g0, 0, none⟩ = some (.slice a00 n00 a0c0) := (blk_cell BK0 0).trans rfl
  have z0_1 : V1.cell? ⟨g0, 1, none⟩ = some (.bool x01) := (blk_cell BK0 1).trans rfl
  have z0_2 : V1.cell? ⟨g0, 2, none⟩ = some (.bool x02) := (blk_cell BK0 2).trans rfl
  have z0_3 : V1.cell? ⟨g0, 3, none⟩ = some (.bool x03) := (blk_cell BK0 3).trans rfl
  have z0_4 : V1.cell? ⟨g0, 4, none⟩ = some (.bool x04) := (blk_cell BK0 4).trans rfl
  have z0_5 : V1.cell? ⟨g0, 5, none⟩ = some (.slice a05 n05 a0c5) := (blk_cell BK0 5).trans rfl
  have z0_6 : V1.cell? ⟨g0, 6, none⟩ = some (.int .i64 x06) := (blk_cell BK0 6).trans rfl
  have z0_7 : V1.cell? ⟨g0, 7, none⟩ = some (.int .i64 x07) := (blk_cell BK0 7).trans rfl
  have z0_8 : V1.cell? ⟨g0, 8, none⟩ = some (.slice a08 n08 a0c8) := (blk_cell BK0 8).trans rfl
  go_wp2_with fail
  refine (H_hto0.out _ HA0).mono ?_
  rintro e V2 ⟨t0, tc0, t5, tc5, t8, tc8, rfl, hR0, hb⟩
  clear z0_0 z0_1 z0_2 z0_3 z0_4 z0_5 z0_6 z0_7 z0_8
  have k_ := below_step HB hb
  clear HB
  have HB := k_
  clear k_
  have k_ := blk_below BK0 hb
  clear BK0
  have BK0 := k_
  clear k_
  have k_ := H_mA0.out _ _ hb HA0
  clear HA0
  have HA0 := k_
  clear k_
  clear hb
  go_wp2_with fail
  refine (H_hspec.out _ _ _ _ _ _ _ hR0).mono ?_
  rintro e V3 ⟨rfl, hb⟩
  clear hR0
  have k_ := below_step HB hb
  clear HB
  have HB := k_
  clear k_
  have k_ := blk_below BK0 hb
  clear BK0
  have BK0 := k_
  clear k_
  have k_ := H_mA0.out _ _ hb HA0
  clear HA0
  have HA0 := k_
  clear k_
  clear hb
  go_upto_region 6 with fail
  have z0_0 : V3.cell? ⟨g0, 0, none⟩ = some (.slice a00 n00 a0c0) := (blk_cell BK0 0).trans rfl
  have z0_1 : V3.cell? ⟨g0, 1, none⟩ = some (.bool x01) := (blk_cell BK0 1).trans rfl
  have z0_2 : V3.cell? ⟨g0, 2, none⟩ = some (.bool x02) := (blk_cell BK0 2).trans rfl
  have z0_3 : V3.cell? ⟨g0, 3, none⟩ = some (.bool x03) := (blk_cell BK0 3).trans rfl
  have z0_4 : V3.cell? ⟨g0, 4, none⟩ = some (.bool x04) := (blk_cell BK0 4).trans rfl
  have z0_5 : V3.cell? ⟨g0, 5, none⟩ = some (.slice a05 n05 a0c5) := (blk_cell BK0 5).trans rfl
  have z0_6 : V3.cell? ⟨g0, 6, none⟩ = some (.int .i64 x06) := (blk_cell BK0 6).trans rfl
  have z0_7 : V3.cell? ⟨g0, 7, none⟩ = some (.int .i64 x07) := (blk_cell BK0 7).trans rfl
  have z0_8 : V3.cell? ⟨g0, 8, none⟩ = some (.slice a08 n08 a0c8) := (blk_cell BK0 8).trans rfl
  go_wp2_with fail
  refine (H_hto0.out _ HA0).mono ?_
  rintro e V4 ⟨y00, y0c0, y05, y0c5, y08, y0c8, rfl, HX0, hb⟩
  clear z0_0 z0_1 z0_2 z0_3 z0_4 z0_5 z0_6 z0_7 z0_8
  have k_ := below_step HB hb
  clear HB
  have HB := k_
  clear k_
  have k_ := blk_below BK0 hb
  clear BK0
  have BK0 := k_
  clear k_
  have k_ := H_mA0.out _ _ hb HA0
  clear HA0
  have HA0 := k_
  clear k_
  clear hb
  go_upto_region 7 with fail
  obtain ⟨V5, hWW⟩ : ∃ x : World, x = V4.alloc (.cells #[.slice y00 n00 y0c0, .bool x01, .bool x02, .bool x03, .bool x04, .slice y05 n05 y0c5, .int .i64 x06, .int .i64 x07, .slice y08 n08 y0c8] 40) := ⟨_, rfl⟩
  have hb : Below V4.heap.size V4 V5 := by rw [hWW]; exact below_alloc (Below.refl _ _) _
  have BX0 : V5.heap[V4.heap.size]? = some (.cells #[.slice y00 n00 y0c0, .bool x01, .bool x02, .bool x03, .bool x04, .slice y05 n05 y0c5, .int .i64 x06, .int .i64 x07, .slice y08 n08 y0c8] 40 (0, 0)) := by rw [hWW]; exact blk_new _ _
  rw [← hWW]
  clear hWW
  obtain ⟨h0, hh0⟩ : ∃ g, g = V4.heap.size := ⟨_, rfl⟩
  rw [← hh0] at BX0 ⊢
  clear hh0
  have k_ := below_step HB hb
  clear HB
  have HB := k_
  clear k_
  have k_ := blk_below BK0 hb
  clear BK0
  have BK0 := k_
  clear k_
  have k_ := H_mA0.out _ _ hb HA0
  clear HA0
  have HA0 := k_
  clear k_
  have k_ := H_mR0.out _ _ _ _ _ _ _ _ hb HX0
  clear HX0
  have HX0 := k_
  clear k_
  clear hb
  have z0_0 : V5.cell? ⟨h0, 0, none⟩ = some (.slice y00 n00 y0c0) := (blk_cell BX0 0).trans rfl
  have z0_1 : V5.cell? ⟨h0, 1, none⟩ = some (.bool x01) := (blk_cell BX0 1).trans rfl
  have z0_2 : V5.cell? ⟨h0, 2, none⟩ = some (.bool x02) := (blk_cell BX0 2).trans rfl
  have z0_3 : V5.cell? ⟨h0, 3, none⟩ = some (.bool x03) := (blk_cell BX0 3).trans rfl
  have z0_4 : V5.cell? ⟨h0, 4, none⟩ = some (.bool x04) := (blk_cell BX0 4).trans rfl
  have z0_5 : V5.cell? ⟨h0, 5, none⟩ = some (.slice y05 n05 y0c5) := (blk_cell BX0 5).trans rfl
  have z0_6 : V5.cell? ⟨h0, 6, none⟩ = some (.int .i64 x06) := (blk_cell BX0 6).trans rfl
  have z0_7 : V5.cell? ⟨h0, 7, none⟩ = some (.int .i64 x07) := (blk_cell BX0 7).trans rfl
  have z0_8 : V5.cell? ⟨h0, 8, none⟩ = some (.slice y08 n08 y0c8) := (blk_cell BX0 8).trans rfl
  go_wp2_with fail
  refine (H_himpl.out _ _ _ _ _ _ _ HX0).mono ?_
  rintro e V6 ⟨rfl, hb⟩
  clear z0_0 z0_1 z0_2 z0_3 z0_4 z0_5 z0_6 z0_7 z0_8
  have k_ := below_step HB hb
  clear HB
  have HB := k_
  clear k_
  have k_ := blk_below BK0 hb
  clear BK0
  have BK0 := k_
  clear k_
  have k_ := H_mA0.out _ _ hb HA0
  clear HA0
  have HA0 := k_
  clear k_
  have k_ := H_mR0.out _ _ _ _ _ _ _ _ hb HX0
  clear HX0
  have HX0 := k_
  clear k_
  have k_ := blk_below BX0 hb
  clear BX0
  have BX0 := k_
  clear k_
  clear hb
  have hbb : (b != b) = false := by simp
  go_upto_region 10 with fail
  have HW := Below.refl V6.heap.size V6
  go_cut [26] (fun s26 wx => s26 = .bool false ∧ Below V6.heap.size V6 wx)
  case first =>
    have HK : ∀ w1 : World, Below V6.heap.size V6 w1 → w1.cell? ⟨h0, 0, none⟩ = some (.slice y00 n00 y0c0) ∧ w1.cell? ⟨h0, 1, none⟩ = some (.bool x01) ∧ w1.cell? ⟨h0, 2, none⟩ = some (.bool x02) ∧ w1.cell? ⟨h0, 3, none⟩ = some (.bool x03) ∧ w1.cell? ⟨h0, 4, none⟩ = some (.bool x04) ∧ w1.cell? ⟨h0, 5, none⟩ = some (.slice y05 n05 y0c5) ∧ w1.cell? ⟨h0, 6, none⟩ = some (.int .i64 x06) ∧ w1.cell? ⟨h0, 7, none⟩ = some (.int .i64 x07) ∧ w1.cell? ⟨h0, 8, none⟩ = some (.slice y08 n08 y0c8) ∧ w1.cell? ⟨g0, 0, none⟩ = some (.slice a00 n00 a0c0) ∧ w1.cell? ⟨g0, 1, none⟩ = some (.bool x01) ∧ w1.cell? ⟨g0, 2, none⟩ = some (.bool x02) ∧ w1.cell? ⟨g0, 3, none⟩ = some (.bool x03) ∧ w1.cell? ⟨g0, 4, none⟩ = some (.bool x04) ∧ w1.cell? ⟨g0, 5, none⟩ = some (.slice a05 n05 a0c5) ∧ w1.cell? ⟨g0, 6, none⟩ = some (.int .i64 x06) ∧ w1.cell? ⟨g0, 7, none⟩ = some (.int .i64 x07) ∧ w1.cell? ⟨g0, 8, none⟩ = some (.slice a08 n08 a0c8) ∧ Below V6.heap.size V6 w1 := fun w1 hb => ⟨(blk_cell (blk_below BX0 hb) 0).trans rfl, (blk_cell (blk_below BX0 hb) 1).trans rfl, (blk_cell (blk_below BX0 hb) 2).trans rfl, (blk_cell (blk_below BX0 hb) 3).trans rfl, (blk_cell (blk_below BX0 hb) 4).trans rfl, (blk_cell (blk_below BX0 hb) 5).trans rfl, (blk_cell (blk_below BX0 hb) 6).trans rfl, (blk_cell (blk_below BX0 hb) 7).trans rfl, (blk_cell (blk_below BX0 hb) 8).trans rfl, (blk_cell (blk_below BK0 hb) 0).trans rfl, (blk_cell (blk_below BK0 hb) 1).trans rfl, (blk_cell (blk_below BK0 hb) 2).trans rfl, (blk_cell (blk_below BK0 hb) 3).trans rfl, (blk_cell (blk_below BK0 hb) 4).trans rfl, (blk_cell (blk_below BK0 hb) 5).trans rfl, (blk_cell (blk_below BK0 hb) 6).trans rfl, (blk_cell (blk_below BK0 hb) 7).trans rfl, (blk_cell (blk_below BK0 hb) 8).trans rfl, hb⟩
    have HK := Aside0.mk HK
    go_region_held3 (fun w1 => w1.cell? ⟨h0, 0, none⟩ = some (.slice y00 n00 y0c0) ∧ w1.cell? ⟨h0, 1, none⟩ = some (.bool x01) ∧ w1.cell? ⟨h0, 2, none⟩ = some (.bool x02) ∧ w1.cell? ⟨h0, 3, none⟩ = some (.bool x03) ∧ w1.cell? ⟨h0, 4, none⟩ = some (.bool x04) ∧ w1.cell? ⟨h0, 5, none⟩ = some (.slice y05 n05 y0c5) ∧ w1.cell? ⟨h0, 6, none⟩ = some (.int .i64 x06) ∧ w1.cell? ⟨h0, 7, none⟩ = some (.int .i64 x07) ∧ w1.cell? ⟨h0, 8, none⟩ = some (.slice y08 n08 y0c8) ∧ w1.cell? ⟨g0, 0, none⟩ = some (.slice a00 n00 a0c0) ∧ w1.cell? ⟨g0, 1, none⟩ = some (.bool x01) ∧ w1.cell? ⟨g0, 2, none⟩ = some (.bool x02) ∧ w1.cell? ⟨g0, 3, none⟩ = some (.bool x03) ∧ w1.cell? ⟨g0, 4, none⟩ = some (.bool x04) ∧ w1.cell? ⟨g0, 5, none⟩ = some (.slice a05 n05 a0c5) ∧ w1.cell? ⟨g0, 6, none⟩ = some (.int .i64 x06) ∧ w1.cell? ⟨g0, 7, none⟩ = some (.int .i64 x07) ∧ w1.cell? ⟨g0, 8, none⟩ = some (.slice a08 n08 a0c8) ∧ Below V6.heap.size V6 w1) (((with_reducible refine HK.out _ ?_); (repeat (with_reducible first | assumption | apply below_drew1 | apply below_alloc))))
      (first
        | (go_at_call 30; refine (H_hto0.out _ (H_mA0.out _ _ (by (repeat (with_reducible first | assumption | apply below_drew1 | apply below_alloc))) HA0)).mono ?_; rintro e w' ⟨t00, t0c0, t05, t0c5, t08, t0c8, rfl, hRn, hb⟩; (try (have hR0 := H_mR0.out _ _ _ _ _ _ _ _ hb hR0)); have hR0 := hRn; have HBk : Below V6.heap.size V6 w' := below_step (by (repeat (with_reducible first | assumption | apply below_drew1 | apply below_alloc))) hb)
        | (go_at_call 32; refine (H_heq0.out _ _ _ _ _ _ _ _ _ _ _ _ _ (H_mR0.out _ _ _ _ _ _ _ _ HBk HX0) hR0).mono ?_; rintro e w' ⟨rfl, hb⟩; have HBk : Below V6.heap.size V6 w' := below_step (by (repeat (with_reducible first | assumption | apply below_drew1 | apply below_alloc))) hb)
      )
    all_goals
      go_wp2_with fail
      go_meet
      exact ⟨rfl, by with_reducible assumption⟩
  case rest =>
    obtain ⟨rfl, hb⟩ := hcut
    obtain ⟨V7, hWW⟩ : ∃ x : World, x = wc := ⟨_, rfl⟩
    rw [← hWW] at hb ⊢
    clear hWW HW
    have k_ := below_step HB hb
    clear HB
    have HB := k_
    clear k_
    have k_ := blk_below BK0 hb
    clear BK0
    have BK0 := k_
    clear k_
    have k_ := H_mA0.out _ _ hb HA0
    clear HA0
    have HA0 := k_
    clear k_
    have k_ := H_mR0.out _ _ _ _ _ _ _ _ hb HX0
    clear HX0
    have HX0 := k_
    clear k_
    have k_ := blk_below BX0 hb
    clear BX0
    have BX0 := k_
    clear k_
    clear hb
    go_wp2
    go_ret
    exact ⟨rfl, HB⟩
end Go.Proofs.Ytfeglenlpnhofaa.Mine
