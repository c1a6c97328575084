/- The walk of the law FnExactFits (function 9) out of its callees' contracts: it returns true, and nothing that was in memory changes. -/
import Derived.Test.YtfeglenlpnhofaaBase
namespace Go.Proofs.Ytfeglenlpnhofaa.Mine
open Go.RowKit Go.Proofs.YtfeglenlpnhofaaW.PrintWords Go.Proofs.YtfeglenlpnhofaaW.PrintLast Go.Proofs.YtfeglenlpnhofaaW.PrintMore

set_option maxRecDepth 100000 in
set_option maxHeartbeats 8000000 in
theorem fits_out0 (n00 : Nat) (n01 : Nat) (n10 : Nat) (x11 : Bool) (x12 : Bool) (x13 : Bool) (x14 : Bool) (n15 : Nat) (x16 : Int) (x17 : Int) (n18 : Nat) (l1 : Int) (a00 : Option Addr) (a0c0 : Nat) (a01 : Option Addr) (a0c1 : Nat) (a10 : Option Addr) (a1c0 : Nat) (a15 : Option Addr) (a1c5 : Nat) (a18 : Option Addr) (a1c8 : Nat) (A0 : World → Prop) (A1 : World → Prop)
    (mA0 : ∀ w w' : World, Below w.heap.size w w' → A0 w → A0 w')
    (hsz0 : ∀ w : World, A0 w → Calls Try.prog 18 #[.agg #[.slice a00 n00 a0c0, .slice a01 n01 a0c1], .int .i64 1048576] w fun e w' => e = .returned (.int .i64 l1) ∧ Below w.heap.size w w')
    (mA1 : ∀ w w' : World, Below w.heap.size w w' → A1 w → A1 w')
    (w : World) (hA0 : A0 w) (hA1 : A1 w) (hl0 : l1 < 0) :
    Calls Try.prog 9 #[.agg #[.slice a00 n00 a0c0, .slice a01 n01 a0c1], .agg #[.slice a10 n10 a1c0, .bool x11, .bool x12, .bool x13, .bool x14, .slice a15 n15 a1c5, .int .i64 x16, .int .i64 x17, .slice a18 n18 a1c8]] w fun e w' => e = .returned (.bool true) ∧ Below w.heap.size w w' := by
  have H_mA0 := Aside0.mk mA0
  have H_hsz0 := Aside0.mk hsz0
  have H_mA1 := Aside0.mk mA1
  clear mA0 hsz0 mA1
  have HB := Below.refl w.heap.size w
  go_enter Try.func9, Try.ntmps9
  go_upto_region 1 with (first | ((with_reducible refine gate_dst (N := 2) rfl ?_); refine box_event ?hg (N := 2) ?hd (cs := #[.slice a00 n00 a0c0, .slice a01 n01 a0c1]) (t := 47) ?hr ?_; (case hd => rfl); (case hg => rfl); (case hr => first | (go_simp; done) | (go_simp; rfl)); intro g0 hg W0 hbox hb; have kb_ := below_step HB hb; clear HB; have HB := kb_; clear kb_ hb hg; have BK0 := hbox; clear hbox) | ((with_reducible refine gate_dst (N := 3) rfl ?_); refine box_event ?hg (N := 3) ?hd (cs := #[.slice a10 n10 a1c0, .bool x11, .bool x12, .bool x13, .bool x14, .slice a15 n15 a1c5, .int .i64 x16, .int .i64 x17, .slice a18 n18 a1c8]) (t := 69) ?hr ?_; (case hd => rfl); (case hg => rfl); (case hr => first | (go_simp; done) | (go_simp; rfl)); intro g1 hg W1 hbox hb; have k0_ := blk_below BK0 hb; clear BK0; have BK0 := k0_; clear k0_; have kb_ := below_step HB hb; clear HB; have HB := kb_; clear kb_ hb hg; have BK1 := hbox; clear hbox))
  have HA0 := H_mA0.out _ _ HB hA0
  have HA1 := H_mA1.out _ _ HB hA1
  clear hA0 hA1
  obtain ⟨W, hWW⟩ : ∃ W, W = W1 := ⟨_, rfl⟩
  rw [← hWW] at HB BK0 HA0 BK1 HA1 ⊢
  clear hWW
  have z0_0 : W.cell? ⟨g0, 0, none⟩ = some (.slice a00 n00 a0c0) := (blk_cell BK0 0).trans rfl
  have z0_1 : W.cell? ⟨g0, 1, none⟩ = some (.slice a01 n01 a0c1) := (blk_cell BK0 1).trans rfl
  go_wp2_with fail
  refine (H_hsz0.out _ HA0).mono ?_
  rintro e V1 ⟨rfl, hb⟩
  clear z0_0 z0_1
  have k_ := below_step HB hb
  clear HB
  have HB := k_
  clear k_
  have k_ := blk_below BK0 hb
  clear BK0
  have BK0 := k_
  clear k_
  have k_ := blk_below BK1 hb
  clear BK1
  have BK1 := k_
  clear k_
  have k_ := H_mA0.out _ _ hb HA0
  clear HA0
  have HA0 := k_
  clear k_
  have k_ := H_mA1.out _ _ hb HA1
  clear HA1
  have HA1 := k_
  clear k_
  clear hb
  go_wp2
  go_ret
  exact ⟨rfl, HB⟩

set_option maxRecDepth 100000 in
set_option maxHeartbeats 8000000 in
theorem fits_out1 (n00 : Nat) (n01 : Nat) (n10 : Nat) (x11 : Bool) (x12 : Bool) (x13 : Bool) (x14 : Bool) (n15 : Nat) (x16 : Int) (x17 : Int) (n18 : Nat) (l1 l2 : Int) (a00 : Option Addr) (a0c0 : Nat) (a01 : Option Addr) (a0c1 : Nat) (a10 : Option Addr) (a1c0 : Nat) (a15 : Option Addr) (a1c5 : Nat) (a18 : Option Addr) (a1c8 : Nat) (A0 : World → Prop) (A1 : World → Prop)
    (mA0 : ∀ w w' : World, Below w.heap.size w w' → A0 w → A0 w')
    (hsz0 : ∀ w : World, A0 w → Calls Try.prog 18 #[.agg #[.slice a00 n00 a0c0, .slice a01 n01 a0c1], .int .i64 1048576] w fun e w' => e = .returned (.int .i64 l1) ∧ Below w.heap.size w w')
    (mA1 : ∀ w w' : World, Below w.heap.size w w' → A1 w → A1 w')
    (hsz1 : ∀ w : World, A1 w → Calls Try.prog 28 #[.agg #[.slice a10 n10 a1c0, .bool x11, .bool x12, .bool x13, .bool x14, .slice a15 n15 a1c5, .int .i64 x16, .int .i64 x17, .slice a18 n18 a1c8], .int .i64 l1] w fun e w' => e = .returned (.int .i64 l2) ∧ Below w.heap.size w w')
    (w : World) (hA0 : A0 w) (hA1 : A1 w) (hl0 : 0 ≤ l1) (hl1 : l2 < 0) :
    Calls Try.prog 9 #[.agg #[.slice a00 n00 a0c0, .slice a01 n01 a0c1], .agg #[.slice a10 n10 a1c0, .bool x11, .bool x12, .bool x13, .bool x14, .slice a15 n15 a1c5, .int .i64 x16, .int .i64 x17, .slice a18 n18 a1c8]] w fun e w' => e = .returned (.bool true) ∧ Below w.heap.size w w' := by
  have H_mA0 := Aside0.mk mA0
  have H_hsz0 := Aside0.mk hsz0
  have H_mA1 := Aside0.mk mA1
  have H_hsz1 := Aside0.mk hsz1
  clear mA0 hsz0 mA1 hsz1
  have HB := Below.refl w.heap.size w
  go_enter Try.func9, Try.ntmps9
  go_upto_region 1 with (first | ((with_reducible refine gate_dst (N := 2) rfl ?_); refine box_event ?hg (N := 2) ?hd (cs := #[.slice a00 n00 a0c0, .slice a01 n01 a0c1]) (t := 47) ?hr ?_; (case hd => rfl); (case hg => rfl); (case hr => first | (go_simp; done) | (go_simp; rfl)); intro g0 hg W0 hbox hb; have kb_ := below_step HB hb; clear HB; have HB := kb_; clear kb_ hb hg; have BK0 := hbox; clear hbox) | ((with_reducible refine gate_dst (N := 3) rfl ?_); refine box_event ?hg (N := 3) ?hd (cs := #[.slice a10 n10 a1c0, .bool x11, .bool x12, .bool x13, .bool x14, .slice a15 n15 a1c5, .int .i64 x16, .int .i64 x17, .slice a18 n18 a1c8]) (t := 69) ?hr ?_; (case hd => rfl); (case hg => rfl); (case hr => first | (go_simp; done) | (go_simp; rfl)); intro g1 hg W1 hbox hb; have k0_ := blk_below BK0 hb; clear BK0; have BK0 := k0_; clear k0_; have kb_ := below_step HB hb; clear HB; have HB := kb_; clear kb_ hb hg; have BK1 := hbox; clear hbox))
  have HA0 := H_mA0.out _ _ HB hA0
  have HA1 := H_mA1.out _ _ HB hA1
  clear hA0 hA1
  obtain ⟨W, hWW⟩ : ∃ W, W = W1 := ⟨_, rfl⟩
  rw [← hWW] at HB BK0 HA0 BK1 HA1 ⊢
  clear hWW
  have z0_0 : W.cell? ⟨g0, 0, none⟩ = some (.slice a00 n00 a0c0) := (blk_cell BK0 0).trans rfl
  have z0_1 : W.cell? ⟨g0, 1, none⟩ = some (.slice a01 n01 a0c1) := (blk_cell BK0 1).trans rfl
  go_wp2_with fail
  refine (H_hsz0.out _ HA0).mono ?_
  rintro e V1 ⟨rfl, hb⟩
  clear z0_0 z0_1
  have k_ := below_step HB hb
  clear HB
  have HB := k_
  clear k_
  have k_ := blk_below BK0 hb
  clear BK0
  have BK0 := k_
  clear k_
  have k_ := blk_below BK1 hb
  clear BK1
  have BK1 := k_
  clear k_
  have k_ := H_mA0.out _ _ hb HA0
  clear HA0
  have HA0 := k_
  clear k_
  have k_ := H_mA1.out _ _ hb HA1
  clear HA1
  have HA1 := k_
  clear k_
  clear hb
  have z1_0 : V1.cell? ⟨g1, 0, none⟩ = some (.slice a10 n10 a1c0) := (blk_cell BK1 0).trans rfl
  have z1_1 : V1.cell? ⟨g1, 1, none⟩ = some (.bool x11) := (blk_cell BK1 1).trans rfl
  have z1_2 : V1.cell? ⟨g1, 2, none⟩ = some (.bool x12) := (blk_cell BK1 2).trans rfl
  have z1_3 : V1.cell? ⟨g1, 3, none⟩ = some (.bool x13) := (blk_cell BK1 3).trans rfl
  have z1_4 : V1.cell? ⟨g1, 4, none⟩ = some (.bool x14) := (blk_cell BK1 4).trans rfl
  have z1_5 : V1.cell? ⟨g1, 5, none⟩ = some (.slice a15 n15 a1c5) := (blk_cell BK1 5).trans rfl
  have z1_6 : V1.cell? ⟨g1, 6, none⟩ = some (.int .i64 x16) := (blk_cell BK1 6).trans rfl
  have z1_7 : V1.cell? ⟨g1, 7, none⟩ = some (.int .i64 x17) := (blk_cell BK1 7).trans rfl
  have z1_8 : V1.cell? ⟨g1, 8, none⟩ = some (.slice a18 n18 a1c8) := (blk_cell BK1 8).trans rfl
  go_wp2_with fail
  refine (H_hsz1.out _ HA1).mono ?_
  rintro e V2 ⟨rfl, hb⟩
  clear z1_0 z1_1 z1_2 z1_3 z1_4 z1_5 z1_6 z1_7 z1_8
  have k_ := below_step HB hb
  clear HB
  have HB := k_
  clear k_
  have k_ := blk_below BK0 hb
  clear BK0
  have BK0 := k_
  clear k_
  have k_ := blk_below BK1 hb
  clear BK1
  have BK1 := k_
  clear k_
  have k_ := H_mA0.out _ _ hb HA0
  clear HA0
  have HA0 := k_
  clear k_
  have k_ := H_mA1.out _ _ hb HA1
  clear HA1
  have HA1 := k_
  clear k_
  clear hb
  go_wp2
  go_ret
  exact ⟨rfl, HB⟩

set_option maxRecDepth 100000 in
set_option maxHeartbeats 8000000 in
theorem fits_main (n00 : Nat) (n01 : Nat) (n10 : Nat) (x11 : Bool) (x12 : Bool) (x13 : Bool) (x14 : Bool) (n15 : Nat) (x16 : Int) (x17 : Int) (n18 : Nat) (b : Bool) (l1 l2 : Int) (a00 : Option Addr) (a0c0 : Nat) (a01 : Option Addr) (a0c1 : Nat) (a10 : Option Addr) (a1c0 : Nat) (a15 : Option Addr) (a1c5 : Nat) (a18 : Option Addr) (a1c8 : Nat) (A0 : World → Prop) (A1 : World → Prop) (R0 : World → Option Addr → Nat → Option Addr → Nat → Prop) (R1 : World → Option Addr → Nat → Option Addr → Nat → Option Addr → Nat → Prop)
    (mA0 : ∀ w w' : World, Below w.heap.size w w' → A0 w → A0 w')
    (mR0 : ∀ (w w' : World) p0 pc0 p1 pc1, Below w.heap.size w w' → R0 w p0 pc0 p1 pc1 → R0 w' p0 pc0 p1 pc1)
    (hsz0 : ∀ w : World, A0 w → Calls Try.prog 18 #[.agg #[.slice a00 n00 a0c0, .slice a01 n01 a0c1], .int .i64 1048576] w fun e w' => e = .returned (.int .i64 l1) ∧ Below w.heap.size w w')
    (hto0 : ∀ w : World, A0 w → Calls Try.prog 20 #[.agg #[.slice a00 n00 a0c0, .slice a01 n01 a0c1]] w fun e w' => ∃ p0 pc0 p1 pc1, e = .returned (.agg #[.slice p0 n00 pc0, .slice p1 n01 pc1]) ∧ R0 w' p0 pc0 p1 pc1 ∧ Below w.heap.size w w')
    (heq0 : ∀ (w : World) p0 pc0 p1 pc1 q0 qc0 q1 qc1, R0 w p0 pc0 p1 pc1 → R0 w q0 qc0 q1 qc1 → Calls Try.prog 22 #[.agg #[.slice p0 n00 pc0, .slice p1 n01 pc1], .agg #[.slice q0 n00 qc0, .slice q1 n01 qc1]] w fun e w' => e = .returned (.bool true) ∧ Below w.heap.size w w')
    (mA1 : ∀ w w' : World, Below w.heap.size w w' → A1 w → A1 w')
    (mR1 : ∀ (w w' : World) p0 pc0 p5 pc5 p8 pc8, Below w.heap.size w w' → R1 w p0 pc0 p5 pc5 p8 pc8 → R1 w' p0 pc0 p5 pc5 p8 pc8)
    (hsz1 : ∀ w : World, A1 w → Calls Try.prog 28 #[.agg #[.slice a10 n10 a1c0, .bool x11, .bool x12, .bool x13, .bool x14, .slice a15 n15 a1c5, .int .i64 x16, .int .i64 x17, .slice a18 n18 a1c8], .int .i64 l1] w fun e w' => e = .returned (.int .i64 l2) ∧ Below w.heap.size w w')
    (hto1 : ∀ w : World, A1 w → Calls Try.prog 30 #[.agg #[.slice a10 n10 a1c0, .bool x11, .bool x12, .bool x13, .bool x14, .slice a15 n15 a1c5, .int .i64 x16, .int .i64 x17, .slice a18 n18 a1c8]] w fun e w' => ∃ p0 pc0 p5 pc5 p8 pc8, e = .returned (.agg #[.slice p0 n10 pc0, .bool x11, .bool x12, .bool x13, .bool x14, .slice p5 n15 pc5, .int .i64 x16, .int .i64 x17, .slice p8 n18 pc8]) ∧ R1 w' p0 pc0 p5 pc5 p8 pc8 ∧ Below w.heap.size w w')
    (heq1 : ∀ (w : World) p0 pc0 p5 pc5 p8 pc8 q0 qc0 q5 qc5 q8 qc8, R1 w p0 pc0 p5 pc5 p8 pc8 → R1 w q0 qc0 q5 qc5 q8 qc8 → Calls Try.prog 32 #[.agg #[.slice p0 n10 pc0, .bool x11, .bool x12, .bool x13, .bool x14, .slice p5 n15 pc5, .int .i64 x16, .int .i64 x17, .slice p8 n18 pc8], .agg #[.slice q0 n10 qc0, .bool x11, .bool x12, .bool x13, .bool x14, .slice q5 n15 qc5, .int .i64 x16, .int .i64 x17, .slice q8 n18 qc8]] w fun e w' => e = .returned (.bool true) ∧ Below w.heap.size w w')
    (hspec : ∀ (w : World) p00 p0c0 p01 p0c1 p10 p1c0 p15 p1c5 p18 p1c8, R0 w p00 p0c0 p01 p0c1 → R1 w p10 p1c0 p15 p1c5 p18 p1c8 → Calls Try.prog 33 #[.agg #[.slice p00 n00 p0c0, .slice p01 n01 p0c1], .agg #[.slice p10 n10 p1c0, .bool x11, .bool x12, .bool x13, .bool x14, .slice p15 n15 p1c5, .int .i64 x16, .int .i64 x17, .slice p18 n18 p1c8]] w fun e w' => e = .returned (.bool b) ∧ Below w.heap.size w w')
    (himpl : ∀ (w : World) p00 p0c0 p01 p0c1 p10 p1c0 p15 p1c5 p18 p1c8, R0 w p00 p0c0 p01 p0c1 → R1 w p10 p1c0 p15 p1c5 p18 p1c8 → Calls Try.prog 34 #[.agg #[.slice p00 n00 p0c0, .slice p01 n01 p0c1], .agg #[.slice p10 n10 p1c0, .bool x11, .bool x12, .bool x13, .bool x14, .slice p15 n15 p1c5, .int .i64 x16, .int .i64 x17, .slice p18 n18 p1c8]] w fun e w' => e = .returned (.bool b) ∧ Below w.heap.size w w')
    (w : World) (hA0 : A0 w) (hA1 : A1 w) (hl0 : 0 ≤ l1) (hl1 : 0 ≤ l2) :
    Calls Try.prog 9 #[.agg #[.slice a00 n00 a0c0, .slice a01 n01 a0c1], .agg #[.slice a10 n10 a1c0, .bool x11, .bool x12, .bool x13, .bool x14, .slice a15 n15 a1c5, .int .i64 x16, .int .i64 x17, .slice a18 n18 a1c8]] w fun e w' => e = .returned (.bool true) ∧ Below w.heap.size w w' := by
  have H_mA0 := Aside0.mk mA0
  have H_mR0 := Aside0.mk mR0
  have H_hsz0 := Aside0.mk hsz0
  have H_hto0 := Aside0.mk hto0
  have H_heq0 := Aside0.mk heq0
  have H_mA1 := Aside0.mk mA1
  have H_mR1 := Aside0.mk mR1
  have H_hsz1 := Aside0.mk hsz1
  have H_hto1 := Aside0.mk hto1
  have H_heq1 := Aside0.mk heq1
  have H_hspec := Aside0.mk hspec
  have H_himpl := Aside0.mk himpl
  clear mA0 mR0 hsz0 hto0 heq0 mA1 mR1 hsz1 hto1 heq1 hspec himpl
  have HB := Below.refl w.heap.size w
  go_enter Try.func9, Try.ntmps9
  go_upto_region 1 with (first | ((with_reducible refine gate_dst (N := 2) rfl ?_); refine box_event ?hg (N := 2) ?hd (cs := #[.slice a00 n00 a0c0, .slice a01 n01 a0c1]) (t := 47) ?hr ?_; (case hd => rfl); (case hg => rfl); (case hr => first | (go_simp; done) | (go_simp; rfl)); intro g0 hg W0 hbox hb; have kb_ := below_step HB hb; clear HB; have HB := kb_; clear kb_ hb hg; have BK0 := hbox; clear hbox) | ((with_reducible refine gate_dst (N := 3) rfl ?_); refine box_event ?hg (N := 3) ?hd (cs := #[.slice a10 n10 a1c0, .bool x11, .bool x12, .bool x13, .bool x14, .slice a15 n15 a1c5, .int .i64 x16, .int .i64 x17, .slice a18 n18 a1c8]) (t := 69) ?hr ?_; (case hd => rfl); (case hg => rfl); (case hr => first | (go_simp; done) | (go_simp; rfl)); intro g1 hg W1 hbox hb; have k0_ := blk_below BK0 hb; clear BK0; have BK0 := k0_; clear k0_; have kb_ := below_step HB hb; clear HB; have HB := kb_; clear kb_ hb hg; have BK1 := hbox; clear hbox))
  have HA0 := H_mA0.out _ _ HB hA0
  have HA1 := H_mA1.out _ _ HB hA1
  clear hA0 hA1
  obtain ⟨W, hWW⟩ : ∃ W, W = W1 := ⟨_, rfl⟩
  rw [← hWW] at HB BK0 HA0 BK1 HA1 ⊢
  clear hWW
  have z0_0 : W.cell? ⟨g0, 0, none⟩ = some (.slice a00 n00 a0c0) := (blk_cell BK0 0).trans rfl
  have z0_1 : W.cell? ⟨g0, 1, none⟩ = some (.slice a01 n01 a0c1) := (blk_cell BK0 1).trans rfl
  go_wp2_with fail
  refine (H_hsz0.out _ HA0).mono ?_
  rintro e V1 ⟨rfl, hb⟩
  clear z0_0 z0_1
  have k_ := below_step HB hb
  clear HB
  have HB := k_
  clear k_
  have k_ := blk_below BK0 hb
  clear BK0
  have BK0 := k_
  clear k_
  have k_ := blk_below BK1 hb
  clear BK1
  have BK1 := k_
  clear k_
  have k_ := H_mA0.out _ _ hb HA0
  clear HA0
  have HA0 := k_
  clear k_
  have k_ := H_mA1.out _ _ hb HA1
  clear HA1
  have HA1 := k_
  clear k_
  clear hb
  have z1_0 : V1.cell? ⟨g1, 0, none⟩ = some (.slice a10 n10 a1c0) := (blk_cell BK1 0).trans rfl
  have z1_1 : V1.cell? ⟨g1, 1, none⟩ = some (.bool x11) := (blk_cell BK1 1).trans rfl
  have z1_2 : V1.cell? ⟨g1, 2, none⟩ = some (.bool x12) := (blk_cell BK1 2).trans rfl
  have z1_3 : V1.cell? ⟨g1, 3, none⟩ = some (.bool x13) := (blk_cell BK1 3).trans rfl
  have z1_4 : V1.cell? ⟨g1, 4, none⟩ = some (.bool x14) := (blk_cell BK1 4).trans rfl
  have z1_5 : V1.cell? ⟨g1, 5, none⟩ = some (.slice a15 n15 a1c5) := (blk_cell BK1 5).trans rfl
  have z1_6 : V1.cell? ⟨g1, 6, none⟩ = some (.int .i64 x16) := (blk_cell BK1 6).trans rfl
  have z1_7 : V1.cell? ⟨g1, 7, none⟩ = some (.int .i64 x17) := (blk_cell BK1 7).trans rfl
  have z1_8 : V1.cell? ⟨g1, 8, none⟩ = some (.slice a18 n18 a1c8) := (blk_cell BK1 8).trans rfl
  go_wp2_with fail
  refine (H_hsz1.out _ HA1).mono ?_
  rintro e V2 ⟨rfl, hb⟩
  clear z1_0 z1_1 z1_2 z1_3 z1_4 z1_5 z1_6 z1_7 z1_8
  have k_ := below_step HB hb
  clear HB
  have HB := k_
  clear k_
  have k_ := blk_below BK0 hb
  clear BK0
  have BK0 := k_
  clear k_
  have k_ := blk_below BK1 hb
  clear BK1
  have BK1 := k_
  clear k_
  have k_ := H_mA0.out _ _ hb HA0
  clear HA0
  have HA0 := k_
  clear k_
  have k_ := H_mA1.out _ _ hb HA1
  clear HA1
  have HA1 := k_
  clear k_
  clear hb
  go_upto_region 8 with fail
  have HW := Below.refl V2.heap.size V2
  go_cut [6] (fun s6 wx => s6 = .bool b ∧ Below V2.heap.size V2 wx)
  case first =>
    have HK : ∀ w1 : World, Below V2.heap.size V2 w1 → w1.cell? ⟨g0, 0, none⟩ = some (.slice a00 n00 a0c0) ∧ w1.cell? ⟨g0, 1, none⟩ = some (.slice a01 n01 a0c1) ∧ w1.cell? ⟨g1, 0, none⟩ = some (.slice a10 n10 a1c0) ∧ w1.cell? ⟨g1, 1, none⟩ = some (.bool x11) ∧ w1.cell? ⟨g1, 2, none⟩ = some (.bool x12) ∧ w1.cell? ⟨g1, 3, none⟩ = some (.bool x13) ∧ w1.cell? ⟨g1, 4, none⟩ = some (.bool x14) ∧ w1.cell? ⟨g1, 5, none⟩ = some (.slice a15 n15 a1c5) ∧ w1.cell? ⟨g1, 6, none⟩ = some (.int .i64 x16) ∧ w1.cell? ⟨g1, 7, none⟩ = some (.int .i64 x17) ∧ w1.cell? ⟨g1, 8, none⟩ = some (.slice a18 n18 a1c8) ∧ Below V2.heap.size V2 w1 := fun w1 hb => ⟨(blk_cell (blk_below BK0 hb) 0).trans rfl, (blk_cell (blk_below BK0 hb) 1).trans rfl, (blk_cell (blk_below BK1 hb) 0).trans rfl, (blk_cell (blk_below BK1 hb) 1).trans rfl, (blk_cell (blk_below BK1 hb) 2).trans rfl, (blk_cell (blk_below BK1 hb) 3).trans rfl, (blk_cell (blk_below BK1 hb) 4).trans rfl, (blk_cell (blk_below BK1 hb) 5).trans rfl, (blk_cell (blk_below BK1 hb) 6).trans rfl, (blk_cell (blk_below BK1 hb) 7).trans rfl, (blk_cell (blk_below BK1 hb) 8).trans rfl, hb⟩
    have HK := Aside0.mk HK
    go_region_held3 (fun w1 => w1.cell? ⟨g0, 0, none⟩ = some (.slice a00 n00 a0c0) ∧ w1.cell? ⟨g0, 1, none⟩ = some (.slice a01 n01 a0c1) ∧ w1.cell? ⟨g1, 0, none⟩ = some (.slice a10 n10 a1c0) ∧ w1.cell? ⟨g1, 1, none⟩ = some (.bool x11) ∧ w1.cell? ⟨g1, 2, none⟩ = some (.bool x12) ∧ w1.cell? ⟨g1, 3, none⟩ = some (.bool x13) ∧ w1.cell? ⟨g1, 4, none⟩ = some (.bool x14) ∧ w1.cell? ⟨g1, 5, none⟩ = some (.slice a15 n15 a1c5) ∧ w1.cell? ⟨g1, 6, none⟩ = some (.int .i64 x16) ∧ w1.cell? ⟨g1, 7, none⟩ = some (.int .i64 x17) ∧ w1.cell? ⟨g1, 8, none⟩ = some (.slice a18 n18 a1c8) ∧ Below V2.heap.size V2 w1) (((with_reducible refine HK.out _ ?_); (repeat (with_reducible first | assumption | apply below_drew1 | apply below_alloc))))
      (first
        | (go_at_call 20; refine (H_hto0.out _ (H_mA0.out _ _ (by (repeat (with_reducible first | assumption | apply below_drew1 | apply below_alloc))) HA0)).mono ?_; rintro e w' ⟨t00, t0c0, t01, t0c1, rfl, hRn, hb⟩; (try (have hR0 := H_mR0.out _ _ _ _ _ _ hb hR0)); (try (have hR1 := H_mR1.out _ _ _ _ _ _ _ _ hb hR1)); have hR0 := hRn; have HBk : Below V2.heap.size V2 w' := below_step (by (repeat (with_reducible first | assumption | apply below_drew1 | apply below_alloc))) hb)
        | (go_at_call 30; refine (H_hto1.out _ (H_mA1.out _ _ (by (repeat (with_reducible first | assumption | apply below_drew1 | apply below_alloc))) HA1)).mono ?_; rintro e w' ⟨t10, t1c0, t15, t1c5, t18, t1c8, rfl, hRn, hb⟩; (try (have hR0 := H_mR0.out _ _ _ _ _ _ hb hR0)); (try (have hR1 := H_mR1.out _ _ _ _ _ _ _ _ hb hR1)); have hR1 := hRn; have HBk : Below V2.heap.size V2 w' := below_step (by (repeat (with_reducible first | assumption | apply below_drew1 | apply below_alloc))) hb)
        | (go_at_call 33; refine (H_hspec.out _ _ _ _ _ _ _ _ _ _ _ hR0 hR1).mono ?_; rintro e w' ⟨rfl, hb⟩; have HBk : Below V2.heap.size V2 w' := below_step (by (repeat (with_reducible first | assumption | apply below_drew1 | apply below_alloc))) hb)
      )
    all_goals
      go_wp2_with fail
      go_meet
      exact ⟨rfl, by with_reducible assumption⟩
  case rest =>
    obtain ⟨rfl, hb⟩ := hcut
    obtain ⟨V3, hWW⟩ : ∃ x : World, x = wc := ⟨_, rfl⟩
    rw [← hWW] at hb ⊢
    clear hWW HW
    have k_ := below_step HB hb
    clear HB
    have HB := k_
    clear k_
    have k_ := blk_below BK0 hb
    clear BK0
    have BK0 := k_
    clear k_
    have k_ := blk_below BK1 hb
    clear BK1
    have BK1 := k_
    clear k_
    have k_ := H_mA0.out _ _ hb HA0
    clear HA0
    have HA0 := k_
    clear k_
    have k_ := H_mA1.out _ _ hb HA1
    clear HA1
    have HA1 := k_
    clear k_
    clear hb
    go_upto_region 9 with fail
    have z0_0 : V3.cell? ⟨g0, 0, none⟩ = some (.slice a00 n00 a0c0) := (blk_cell BK0 0).trans rfl
    have z0_1 : V3.cell? ⟨g0, 1, none⟩ = some (.slice a01 n01 a0c1) := (blk_cell BK0 1).trans rfl
    go_wp2_with fail
    refine (H_hto0.out _ HA0).mono ?_
    rintro e V4 ⟨y00, y0c0, y01, y0c1, rfl, HX0, hb⟩
    clear z0_0 z0_1
    have k_ := below_step HB hb
    clear HB
    have HB := k_
    clear k_
    have k_ := blk_below BK0 hb
    clear BK0
    have BK0 := k_
    clear k_
    have k_ := blk_below BK1 hb
    clear BK1
    have BK1 := k_
    clear k_
    have k_ := H_mA0.out _ _ hb HA0
    clear HA0
    have HA0 := k_
    clear k_
    have k_ := H_mA1.out _ _ hb HA1
    clear HA1
    have HA1 := k_
    clear k_
    clear hb
    go_upto_region 10 with fail
    obtain ⟨V5, hWW⟩ : ∃ x : World, x = V4.alloc (.cells #[.slice y00 n00 y0c0, .slice y01 n01 y0c1] 53) := ⟨_, rfl⟩
    have hb : Below V4.heap.size V4 V5 := by rw [hWW]; exact below_alloc (Below.refl _ _) _
    have BX0 : V5.heap[V4.heap.size]? = some (.cells #[.slice y00 n00 y0c0, .slice y01 n01 y0c1] 53 (0, 0)) := by rw [hWW]; exact blk_new _ _
    rw [← hWW]
    clear hWW
    obtain ⟨h0, hh0⟩ : ∃ g, g = V4.heap.size := ⟨_, rfl⟩
    rw [← hh0] at BX0 ⊢
    clear hh0
    have k_ := below_step HB hb
    clear HB
    have HB := k_
    clear k_
    have k_ := blk_below BK0 hb
    clear BK0
    have BK0 := k_
    clear k_
    have k_ := blk_below BK1 hb
    clear BK1
    have BK1 := k_
    clear k_
    have k_ := H_mA0.out _ _ hb HA0
    clear HA0
    have HA0 := k_
    clear k_
    have k_ := H_mA1.out _ _ hb HA1
    clear HA1
    have HA1 := k_
    clear k_
    have k_ := H_mR0.out _ _ _ _ _ _ hb HX0
    clear HX0
    have HX0 := k_
    clear k_
    clear hb
    go_upto_region 10 with fail
    have z1_0 : V5.cell? ⟨g1, 0, none⟩ = some (.slice a10 n10 a1c0) := (blk_cell BK1 0).trans rfl
    have z1_1 : V5.cell? ⟨g1, 1, none⟩ = some (.bool x11) := (blk_cell BK1 1).trans rfl
    have z1_2 : V5.cell? ⟨g1, 2, none⟩ = some (.bool x12) := (blk_cell BK1 2).trans rfl
    have z1_3 : V5.cell? ⟨g1, 3, none⟩ = some (.bool x13) := (blk_cell BK1 3).trans rfl
    have z1_4 : V5.cell? ⟨g1, 4, none⟩ = some (.bool x14) := (blk_cell BK1 4).trans rfl
    have z1_5 : V5.cell? ⟨g1, 5, none⟩ = some (.slice a15 n15 a1c5) := (blk_cell BK1 5).trans rfl
    have z1_6 : V5.cell? ⟨g1, 6, none⟩ = some (.int .i64 x16) := (blk_cell BK1 6).trans rfl
    have z1_7 : V5.cell? ⟨g1, 7, none⟩ = some (.int .i64 x17) := (blk_cell BK1 7).trans rfl
    have z1_8 : V5.cell? ⟨g1, 8, none⟩ = some (.slice a18 n18 a1c8) := (blk_cell BK1 8).trans rfl
    go_wp2_with fail
    refine (H_hto1.out _ HA1).mono ?_
    rintro e V6 ⟨y10, y1c0, y15, y1c5, y18, y1c8, rfl, HX1, hb⟩
    clear z1_0 z1_1 z1_2 z1_3 z1_4 z1_5 z1_6 z1_7 z1_8
    have k_ := below_step HB hb
    clear HB
    have HB := k_
    clear k_
    have k_ := blk_below BK0 hb
    clear BK0
    have BK0 := k_
    clear k_
    have k_ := blk_below BK1 hb
    clear BK1
    have BK1 := k_
    clear k_
    have k_ := H_mA0.out _ _ hb HA0
    clear HA0
    have HA0 := k_
    clear k_
    have k_ := H_mA1.out _ _ hb HA1
    clear HA1
    have HA1 := k_
    clear k_
    have k_ := H_mR0.out _ _ _ _ _ _ hb HX0
    clear HX0
    have HX0 := k_
    clear k_
    have k_ := blk_below BX0 hb
    clear BX0
    have BX0 := k_
    clear k_
    clear hb
    go_upto_region 11 with fail
    obtain ⟨V7, hWW⟩ : ∃ x : World, x = V6.alloc (.cells #[.slice y10 n10 y1c0, .bool x11, .bool x12, .bool x13, .bool x14, .slice y15 n15 y1c5, .int .i64 x16, .int .i64 x17, .slice y18 n18 y1c8] 40) := ⟨_, rfl⟩
    have hb : Below V6.heap.size V6 V7 := by rw [hWW]; exact below_alloc (Below.refl _ _) _
    have BX1 : V7.heap[V6.heap.size]? = some (.cells #[.slice y10 n10 y1c0, .bool x11, .bool x12, .bool x13, .bool x14, .slice y15 n15 y1c5, .int .i64 x16, .int .i64 x17, .slice y18 n18 y1c8] 40 (0, 0)) := by rw [hWW]; exact blk_new _ _
    rw [← hWW]
    clear hWW
    obtain ⟨h1, hh1⟩ : ∃ g, g = V6.heap.size := ⟨_, rfl⟩
    rw [← hh1] at BX1 ⊢
    clear hh1
    have k_ := below_step HB hb
    clear HB
    have HB := k_
    clear k_
    have k_ := blk_below BK0 hb
    clear BK0
    have BK0 := k_
    clear k_
    have k_ := blk_below BK1 hb
    clear BK1
    have BK1 := k_
    clear k_
    have k_ := H_mA0.out _ _ hb HA0
    clear HA0
    have HA0 := k_
    clear k_
    have k_ := H_mA1.out _ _ hb HA1
    clear HA1
    have HA1 := k_
    clear k_
    have k_ := H_mR0.out _ _ _ _ _ _ hb HX0
    clear HX0
    have HX0 := k_
    clear k_
    have k_ := blk_below BX0 hb
    clear BX0
    have BX0 := k_
    clear k_
    have k_ := H_mR1.out _ _ _ _ _ _ _ _ hb HX1
    clear HX1
    have HX1 := k_
    clear k_
    clear hb
    have z0_0 : V7.cell? ⟨h0, 0, none⟩ = some (.slice y00 n00 y0c0) := (blk_cell BX0 0).trans rfl
    have z0_1 : V7.cell? ⟨h0, 1, none⟩ = some (.slice y01 n01 y0c1) := (blk_cell BX0 1).trans rfl
    have z1_0 : V7.cell? ⟨h1, 0, none⟩ = some (.slice y10 n10 y1c0) := (blk_cell BX1 0).trans rfl
    have z1_1 : V7.cell? ⟨h1, 1, none⟩ = some (.bool x11) := (blk_cell BX1 1).trans rfl
    have z1_2 : V7.cell? ⟨h1, 2, none⟩ = some (.bool x12) := (blk_cell BX1 2).trans rfl
    have z1_3 : V7.cell? ⟨h1, 3, none⟩ = some (.bool x13) := (blk_cell BX1 3).trans rfl
    have z1_4 : V7.cell? ⟨h1, 4, none⟩ = some (.bool x14) := (blk_cell BX1 4).trans rfl
    have z1_5 : V7.cell? ⟨h1, 5, none⟩ = some (.slice y15 n15 y1c5) := (blk_cell BX1 5).trans rfl
    have z1_6 : V7.cell? ⟨h1, 6, none⟩ = some (.int .i64 x16) := (blk_cell BX1 6).trans rfl
    have z1_7 : V7.cell? ⟨h1, 7, none⟩ = some (.int .i64 x17) := (blk_cell BX1 7).trans rfl
    have z1_8 : V7.cell? ⟨h1, 8, none⟩ = some (.slice y18 n18 y1c8) := (blk_cell BX1 8).trans rfl
    go_wp2_with fail
    refine (H_himpl.out _ _ _ _ _ _ _ _ _ _ _ HX0 HX1).mono ?_
    rintro e V8 ⟨rfl, hb⟩
    clear z0_0 z0_1 z1_0 z1_1 z1_2 z1_3 z1_4 z1_5 z1_6 z1_7 z1_8
    have k_ := below_step HB hb
    clear HB
    have HB := k_
    clear k_
    have k_ := blk_below BK0 hb
    clear BK0
    have BK0 := k_
    clear k_
    have k_ := blk_below BK1 hb
    clear BK1
    have BK1 := k_
    clear k_
    have k_ := H_mA0.out _ _ hb HA0
    clear HA0
    have HA0 := k_
    clear k_
    have k_ := H_mA1.out _ _ hb HA1
    clear HA1
    have HA1 := k_
    clear k_
    have k_ := H_mR0.out _ _ _ _ _ _ hb HX0
    clear HX0
    have HX0 := k_
    clear k_
    have k_ := blk_below BX0 hb
    clear BX0
    have BX0 := k_
    clear k_
    have k_ := H_mR1.out _ _ _ _ _ _ _ _ hb HX1
    clear HX1
    have HX1 := k_
    clear k_
    have k_ := blk_below BX1 hb
    clear BX1
    have BX1 := k_
    clear k_
    clear hb
    have hbb : (b != b) = false := by simp
    go_upto_region 14 with fail
    have HW := Below.refl V8.heap.size V8
    go_cut [39] (fun s39 wx => s39 = .bool false ∧ Below V8.heap.size V8 wx)
    case first =>
      have HK : ∀ w1 : World, Below V8.heap.size V8 w1 → w1.cell? ⟨h0, 0, none⟩ = some (.slice y00 n00 y0c0) ∧ w1.cell? ⟨h0, 1, none⟩ = some (.slice y01 n01 y0c1) ∧ w1.cell? ⟨g0, 0, none⟩ = some (.slice a00 n00 a0c0) ∧ w1.cell? ⟨g0, 1, none⟩ = some (.slice a01 n01 a0c1) ∧ Below V8.heap.size V8 w1 := fun w1 hb => ⟨(blk_cell (blk_below BX0 hb) 0).trans rfl, (blk_cell (blk_below BX0 hb) 1).trans rfl, (blk_cell (blk_below BK0 hb) 0).trans rfl, (blk_cell (blk_below BK0 hb) 1).trans rfl, hb⟩
      have HK := Aside0.mk HK
      go_region_held3 (fun w1 => w1.cell? ⟨h0, 0, none⟩ = some (.slice y00 n00 y0c0) ∧ w1.cell? ⟨h0, 1, none⟩ = some (.slice y01 n01 y0c1) ∧ w1.cell? ⟨g0, 0, none⟩ = some (.slice a00 n00 a0c0) ∧ w1.cell? ⟨g0, 1, none⟩ = some (.slice a01 n01 a0c1) ∧ Below V8.heap.size V8 w1) (((with_reducible refine HK.out _ ?_); (repeat (with_reducible first | assumption | apply below_drew1 | apply below_alloc))))
        (first
          | (go_at_call 20; refine (H_hto0.out _ (H_mA0.out _ _ (by (repeat (with_reducible first | assumption | apply below_drew1 | apply below_alloc))) HA0)).mono ?_; rintro e w' ⟨t00, t0c0, t01, t0c1, rfl, hRn, hb⟩; (try (have hR0 := H_mR0.out _ _ _ _ _ _ hb hR0)); (try (have hR1 := H_mR1.out _ _ _ _ _ _ _ _ hb hR1)); have hR0 := hRn; have HBk : Below V8.heap.size V8 w' := below_step (by (repeat (with_reducible first | assumption | apply below_drew1 | apply below_alloc))) hb)
          | (go_at_call 22; refine (H_heq0.out _ _ _ _ _ _ _ _ _ (H_mR0.out _ _ _ _ _ _ HBk HX0) hR0).mono ?_; rintro e w' ⟨rfl, hb⟩; have HBk : Below V8.heap.size V8 w' := below_step (by (repeat (with_reducible first | assumption | apply below_drew1 | apply below_alloc))) hb)
        )
      all_goals
        go_wp2_with fail
        go_meet
        exact ⟨rfl, by with_reducible assumption⟩
    case rest =>
      obtain ⟨rfl, hb⟩ := hcut
      obtain ⟨V9, hWW⟩ : ∃ x : World, x = wc := ⟨_, rfl⟩
      rw [← hWW] at hb ⊢
      clear hWW HW
      have k_ := below_step HB hb
      clear HB
      have HB := k_
      clear k_
      have k_ := blk_below BK0 hb
      clear BK0
      have BK0 := k_
      clear k_
      have k_ := blk_below BK1 hb
      clear BK1
      have BK1 := k_
      clear k_
      have k_ := H_mA0.out _ _ hb HA0
      clear HA0
      have HA0 := k_
      clear k_
      have k_ := H_mA1.out _ _ hb HA1
      clear HA1
      have HA1 := k_
      clear k_
      have k_ := H_mR0.out _ _ _ _ _ _ hb HX0
      clear HX0
      have HX0 := k_
      clear k_
      have k_ := blk_below BX0 hb
      clear BX0
      have BX0 := k_
      clear k_
      have k_ := H_mR1.out _ _ _ _ _ _ _ _ hb HX1
      clear HX1
      have HX1 := k_
      clear k_
      have k_ := blk_below BX1 hb
      clear BX1
      have BX1 := k_
      clear k_
      clear hb
      go_upto_region 16 with fail
      have HW := Below.refl V9.heap.size V9
      go_cut [44] (fun s44 wx => s44 = .bool false ∧ Below V9.heap.size V9 wx)
      case first =>
        have HK : ∀ w1 : World, Below V9.heap.size V9 w1 → w1.cell? ⟨h1, 0, none⟩ = some (.slice y10 n10 y1c0) ∧ w1.cell? ⟨h1, 1, none⟩ = some (.bool x11) ∧ w1.cell? ⟨h1, 2, none⟩ = some (.bool x12) ∧ w1.cell? ⟨h1, 3, none⟩ = some (.bool x13) ∧ w1.cell? ⟨h1, 4, none⟩ = some (.bool x14) ∧ w1.cell? ⟨h1, 5, none⟩ = some (.slice y15 n15 y1c5) ∧ w1.cell? ⟨h1, 6, none⟩ = some (.int .i64 x16) ∧ w1.cell? ⟨h1, 7, none⟩ = some (.int .i64 x17) ∧ w1.cell? ⟨h1, 8, none⟩ = some (.slice y18 n18 y1c8) ∧ w1.cell? ⟨g1, 0, none⟩ = some (.slice a10 n10 a1c0) ∧ w1.cell? ⟨g1, 1, none⟩ = some (.bool x11) ∧ w1.cell? ⟨g1, 2, none⟩ = some (.bool x12) ∧ w1.cell? ⟨g1, 3, none⟩ = some (.bool x13) ∧ w1.cell? ⟨g1, 4, none⟩ = some (.bool x14) ∧ w1.cell? ⟨g1, 5, none⟩ = some (.slice a15 n15 a1c5) ∧ w1.cell? ⟨g1, 6, none⟩ = some (.int .i64 x16) ∧ w1.cell? ⟨g1, 7, none⟩ = some (.int .i64 x17) ∧ w1.cell? ⟨g1, 8, none⟩ = some (.slice a18 n18 a1c8) ∧ Below V9.heap.size V9 w1 := fun w1 hb => ⟨(blk_cell (blk_below BX1 hb) 0).trans rfl, (blk_cell (blk_below BX1 hb) 1).trans rfl, (blk_cell (blk_below BX1 hb) 2).trans rfl, (blk_cell (blk_below BX1 hb) 3).trans rfl, (blk_cell (blk_below BX1 hb) 4).trans rfl, (blk_cell (blk_below BX1 hb) 5).trans rfl, (blk_cell (blk_below BX1 hb) 6).trans rfl, (blk_cell (blk_below BX1 hb) 7).trans rfl, (blk_cell (blk_below BX1 hb) 8).trans rfl, (blk_cell (blk_below BK1 hb) 0).trans rfl, (blk_cell (blk_below BK1 hb) 1).trans rfl, (blk_cell (blk_below BK1 hb) 2).trans rfl, (blk_cell (blk_below BK1 hb) 3).trans rfl, (blk_cell (blk_below BK1 hb) 4).trans rfl, (blk_cell (blk_below BK1 hb) 5).trans rfl, (blk_cell (blk_below BK1 hb) 6).trans rfl, (blk_cell (blk_below BK1 hb) 7).trans rfl, (blk_cell (blk_below BK1 hb) 8).trans rfl, hb⟩
        have HK := Aside0.mk HK
        go_region_held3 (fun w1 => w1.cell? ⟨h1, 0, none⟩ = some (.slice y10 n10 y1c0) ∧ w1.cell? ⟨h1, 1, none⟩ = some (.bool x11) ∧ w1.cell? ⟨h1, 2, none⟩ = some (.bool x12) ∧ w1.cell? ⟨h1, 3, none⟩ = some (.bool x13) ∧ w1.cell? ⟨h1, 4, none⟩ = some (.bool x14) ∧ w1.cell? ⟨h1, 5, none⟩ = some (.slice y15 n15 y1c5) ∧ w1.cell? ⟨h1, 6, none⟩ = some (.int .i64 x16) ∧ w1.cell? ⟨h1, 7, none⟩ = some (.int .i64 x17) ∧ w1.cell? ⟨h1, 8, none⟩ = some (.slice y18 n18 y1c8) ∧ w1.cell? ⟨g1, 0, none⟩ = some (.slice a10 n10 a1c0) ∧ w1.cell? ⟨g1, 1, none⟩ = some (.bool x11) ∧ w1.cell? ⟨g1, 2, none⟩ = some (.bool x12) ∧ w1.cell? ⟨g1, 3, none⟩ = some (.bool x13) ∧ w1.cell? ⟨g1, 4, none⟩ = some (.bool x14) ∧ w1.cell? ⟨g1, 5, none⟩ = some (.slice a15 n15 a1c5) ∧ w1.cell? ⟨g1, 6, none⟩ = some (.int .i64 x16) ∧ w1.cell? ⟨g1, 7, none⟩ = some (.int .i64 x17) ∧ w1.cell? ⟨g1, 8, none⟩ = some (.slice a18 n18 a1c8) ∧ Below V9.heap.size V9 w1) (((with_reducible refine HK.out _ ?_); (repeat (with_reducible first | assumption | apply below_drew1 | apply below_alloc))))
          (first
            | (go_at_call 30; refine (H_hto1.out _ (H_mA1.out _ _ (by (repeat (with_reducible first | assumption | apply below_drew1 | apply below_alloc))) HA1)).mono ?_; rintro e w' ⟨t10, t1c0, t15, t1c5, t18, t1c8, rfl, hRn, hb⟩; (try (have hR0 := H_mR0.out _ _ _ _ _ _ hb hR0)); (try (have hR1 := H_mR1.out _ _ _ _ _ _ _ _ hb hR1)); have hR1 := hRn; have HBk : Below V9.heap.size V9 w' := below_step (by (repeat (with_reducible first | assumption | apply below_drew1 | apply below_alloc))) hb)
            | (go_at_call 32; refine (H_heq1.out _ _ _ _ _ _ _ _ _ _ _ _ _ (H_mR1.out _ _ _ _ _ _ _ _ HBk HX1) hR1).mono ?_; rintro e w' ⟨rfl, hb⟩; have HBk : Below V9.heap.size V9 w' := below_step (by (repeat (with_reducible first | assumption | apply below_drew1 | apply below_alloc))) hb)
          )
        all_goals
          go_wp2_with fail
          go_meet
          exact ⟨rfl, by with_reducible assumption⟩
      case rest =>
        obtain ⟨rfl, hb⟩ := hcut
        obtain ⟨V10, hWW⟩ : ∃ x : World, x = wc := ⟨_, rfl⟩
        rw [← hWW] at hb ⊢
        clear hWW HW
        have k_ := below_step HB hb
        clear HB
        have HB := k_
        clear k_
        have k_ := blk_below BK0 hb
        clear BK0
        have BK0 := k_
        clear k_
        have k_ := blk_below BK1 hb
        clear BK1
        have BK1 := k_
        clear k_
        have k_ := H_mA0.out _ _ hb HA0
        clear HA0
        have HA0 := k_
        clear k_
        have k_ := H_mA1.out _ _ hb HA1
        clear HA1
        have HA1 := k_
        clear k_
        have k_ := H_mR0.out _ _ _ _ _ _ hb HX0
        clear HX0
        have HX0 := k_
        clear k_
        have k_ := blk_below BX0 hb
        clear BX0
        have BX0 := k_
        clear k_
        have k_ := H_mR1.out _ _ _ _ _ _ _ _ hb HX1
        clear HX1
        have HX1 := k_
        clear k_
        have k_ := blk_below BX1 hb
        clear BX1
        have BX1 := k_
        clear k_
        clear hb
        go_wp2
        go_ret
        exact ⟨rfl, HB⟩
end Go.Proofs.Ytfeglenlpnhofaa.Mine
