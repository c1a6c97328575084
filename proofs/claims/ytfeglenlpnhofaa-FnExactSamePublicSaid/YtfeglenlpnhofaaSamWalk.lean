/- The walk of the law FnExactSamePublic (function 10) out of its callees' contracts: it returns true, and nothing that was in memory changes. -/
import Derived.Test.YtfeglenlpnhofaaBase
namespace Go.Proofs.Ytfeglenlpnhofaa.Mine
open Go.RowKit Go.Proofs.YtfeglenlpnhofaaW.PrintWords Go.Proofs.YtfeglenlpnhofaaW.PrintLast Go.Proofs.YtfeglenlpnhofaaW.PrintMore

set_option maxRecDepth 100000 in
set_option maxHeartbeats 8000000 in
theorem samep_out0 (n00 : Nat) (n01 : Nat) (n10 : Nat) (x11 : Bool) (x12 : Bool) (x13 : Bool) (x14 : Bool) (n15 : Nat) (x16 : Int) (x17 : Int) (n18 : Nat) (n20 : Nat) (x21 : Bool) (x22 : Bool) (x23 : Bool) (x24 : Bool) (n25 : Nat) (x26 : Int) (x27 : Int) (n28 : Nat) (l1 : Int) (a00 : Option Addr) (a0c0 : Nat) (a01 : Option Addr) (a0c1 : Nat) (a10 : Option Addr) (a1c0 : Nat) (a15 : Option Addr) (a1c5 : Nat) (a18 : Option Addr) (a1c8 : Nat) (a20 : Option Addr) (a2c0 : Nat) (a25 : Option Addr) (a2c5 : Nat) (a28 : Option Addr) (a2c8 : Nat) (A0 : World → Prop) (A1 : World → Prop) (A2 : World → Prop)
    (mA0 : ∀ w w' : World, Below w.heap.size w w' → A0 w → A0 w')
    (hsz0 : ∀ w : World, A0 w → Calls Try.prog 18 #[.agg #[.slice a00 n00 a0c0, .slice a01 n01 a0c1], .int .i64 1048576] w fun e w' => e = .returned (.int .i64 l1) ∧ Below w.heap.size w w')
    (mA1 : ∀ w w' : World, Below w.heap.size w w' → A1 w → A1 w')
    (mA2 : ∀ w w' : World, Below w.heap.size w w' → A2 w → A2 w')
    (w : World) (hA0 : A0 w) (hA1 : A1 w) (hA2 : A2 w) (hl0 : l1 < 0) :
    Calls Try.prog 10 #[.agg #[.slice a00 n00 a0c0, .slice a01 n01 a0c1], .agg #[.slice a10 n10 a1c0, .bool x11, .bool x12, .bool x13, .bool x14, .slice a15 n15 a1c5, .int .i64 x16, .int .i64 x17, .slice a18 n18 a1c8], .agg #[.slice a20 n20 a2c0, .bool x21, .bool x22, .bool x23, .bool x24, .slice a25 n25 a2c5, .int .i64 x26, .int .i64 x27, .slice a28 n28 a2c8]] w fun e w' => e = .returned (.bool true) ∧ Below w.heap.size w w' := by
  have H_mA0 := Aside0.mk mA0
  have H_hsz0 := Aside0.mk hsz0
  have H_mA1 := Aside0.mk mA1
  have H_mA2 := Aside0.mk mA2
  clear mA0 hsz0 mA1 mA2
  have HB := Below.refl w.heap.size w
  go_enter Try.func10, Try.ntmps10
  go_upto_region 1 with (first | ((with_reducible refine gate_dst (N := 3) rfl ?_); refine box_event ?hg (N := 3) ?hd (cs := #[.slice a00 n00 a0c0, .slice a01 n01 a0c1]) (t := 47) ?hr ?_; (case hd => rfl); (case hg => rfl); (case hr => first | (go_simp; done) | (go_simp; rfl)); intro g0 hg W0 hbox hb; have kb_ := below_step HB hb; clear HB; have HB := kb_; clear kb_ hb hg; have BK0 := hbox; clear hbox) | ((with_reducible refine gate_dst (N := 4) rfl ?_); refine box_event ?hg (N := 4) ?hd (cs := #[.slice a10 n10 a1c0, .bool x11, .bool x12, .bool x13, .bool x14, .slice a15 n15 a1c5, .int .i64 x16, .int .i64 x17, .slice a18 n18 a1c8]) (t := 69) ?hr ?_; (case hd => rfl); (case hg => rfl); (case hr => first | (go_simp; done) | (go_simp; rfl)); intro g1 hg W1 hbox hb; have k0_ := blk_below BK0 hb; clear BK0; have BK0 := k0_; clear k0_; have kb_ := below_step HB hb; clear HB; have HB := kb_; clear kb_ hb hg; have BK1 := hbox; clear hbox) | ((with_reducible refine gate_dst (N := 5) rfl ?_); refine box_event ?hg (N := 5) ?hd (cs := #[.slice a20 n20 a2c0, .bool x21, .bool x22, .bool x23, .bool x24, .slice a25 n25 a2c5, .int .i64 x26, .int .i64 x27, .slice a28 n28 a2c8]) (t := 69) ?hr ?_; (case hd => rfl); (case hg => rfl); (case hr => first | (go_simp; done) | (go_simp; rfl)); intro g2 hg W2 hbox hb; have k0_ := blk_below BK0 hb; clear BK0; have BK0 := k0_; clear k0_; have k1_ := blk_below BK1 hb; clear BK1; have BK1 := k1_; clear k1_; have kb_ := below_step HB hb; clear HB; have HB := kb_; clear kb_ hb hg; have BK2 := hbox; clear hbox))
  have HA0 := H_mA0.out _ _ HB hA0
  have HA1 := H_mA1.out _ _ HB hA1
  have HA2 := H_mA2.out _ _ HB hA2
  clear hA0 hA1 hA2
  obtain ⟨W, hWW⟩ : ∃ W, W = W2 := ⟨_, rfl⟩
  rw [← hWW] at HB BK0 HA0 BK1 HA1 BK2 HA2 ⊢
  clear hWW
  have z0_0 : W.cell? ⟨g0, 0, none⟩ = some (.slice a00 n00 a0c0) := (blk_cell BK0 0).trans rfl
  have z0_1 : W.cell? ⟨g0, 1, none⟩ = some (.slice a01 n01 a0c1) := (blk_cell BK0 1).trans rfl
  go_wp2_with fail
  refine (H_hsz0.out _ HA0).mono ?_
  rintro e V1 ⟨rfl, hb⟩
  clear z0_0 z0_1
  have k_ := below_step HB hb
  clear HB
  have HB := k_
  clear k_
  have k_ := blk_below BK0 hb
  clear BK0
  have BK0 := k_
  clear k_
  have k_ := blk_below BK1 hb
  clear BK1
  have BK1 := k_
  clear k_
  have k_ := blk_below BK2 hb
  clear BK2
  have BK2 := k_
  clear k_
  have k_ := H_mA0.out _ _ hb HA0
  clear HA0
  have HA0 := k_
  clear k_
  have k_ := H_mA1.out _ _ hb HA1
  clear HA1
  have HA1 := k_
  clear k_
  have k_ := H_mA2.out _ _ hb HA2
  clear HA2
  have HA2 := k_
  clear k_
  clear hb
  go_wp2
  go_ret
  exact ⟨rfl, HB⟩

set_option maxRecDepth 100000 in
set_option maxHeartbeats 8000000 in
theorem samep_out1 (n00 : Nat) (n01 : Nat) (n10 : Nat) (x11 : Bool) (x12 : Bool) (x13 : Bool) (x14 : Bool) (n15 : Nat) (x16 : Int) (x17 : Int) (n18 : Nat) (n20 : Nat) (x21 : Bool) (x22 : Bool) (x23 : Bool) (x24 : Bool) (n25 : Nat) (x26 : Int) (x27 : Int) (n28 : Nat) (l1 l2 : Int) (a00 : Option Addr) (a0c0 : Nat) (a01 : Option Addr) (a0c1 : Nat) (a10 : Option Addr) (a1c0 : Nat) (a15 : Option Addr) (a1c5 : Nat) (a18 : Option Addr) (a1c8 : Nat) (a20 : Option Addr) (a2c0 : Nat) (a25 : Option Addr) (a2c5 : Nat) (a28 : Option Addr) (a2c8 : Nat) (A0 : World → Prop) (A1 : World → Prop) (A2 : World → Prop)
    (mA0 : ∀ w w' : World, Below w.heap.size w w' → A0 w → A0 w')
    (hsz0 : ∀ w : World, A0 w → Calls Try.prog 18 #[.agg #[.slice a00 n00 a0c0, .slice a01 n01 a0c1], .int .i64 1048576] w fun e w' => e = .returned (.int .i64 l1) ∧ Below w.heap.size w w')
    (mA1 : ∀ w w' : World, Below w.heap.size w w' → A1 w → A1 w')
    (hsz1 : ∀ w : World, A1 w → Calls Try.prog 28 #[.agg #[.slice a10 n10 a1c0, .bool x11, .bool x12, .bool x13, .bool x14, .slice a15 n15 a1c5, .int .i64 x16, .int .i64 x17, .slice a18 n18 a1c8], .int .i64 l1] w fun e w' => e = .returned (.int .i64 l2) ∧ Below w.heap.size w w')
    (mA2 : ∀ w w' : World, Below w.heap.size w w' → A2 w → A2 w')
    (w : World) (hA0 : A0 w) (hA1 : A1 w) (hA2 : A2 w) (hl0 : 0 ≤ l1) (hl1 : l2 < 0) :
    Calls Try.prog 10 #[.agg #[.slice a00 n00 a0c0, .slice a01 n01 a0c1], .agg #[.slice a10 n10 a1c0, .bool x11, .bool x12, .bool x13, .bool x14, .slice a15 n15 a1c5, .int .i64 x16, .int .i64 x17, .slice a18 n18 a1c8], .agg #[.slice a20 n20 a2c0, .bool x21, .bool x22, .bool x23, .bool x24, .slice a25 n25 a2c5, .int .i64 x26, .int .i64 x27, .slice a28 n28 a2c8]] w fun e w' => e = .returned (.bool true) ∧ Below w.heap.size w w' := by
  have H_mA0 := Aside0.mk mA0
  have H_hsz0 := Aside0.mk hsz0
  have H_mA1 := Aside0.mk mA1
  have H_hsz1 := Aside0.mk hsz1
  have H_mA2 := Aside0.mk mA2
  clear mA0 hsz0 mA1 hsz1 mA2
  have HB := Below.refl w.heap.size w
  go_enter Try.func10, Try.ntmps10
  go_upto_region 1 with (first | ((with_reducible refine gate_dst (N := 3) rfl ?_); refine box_event ?hg (N := 3) ?hd (cs := #[.slice a00 n00 a0c0, .slice a01 n01 a0c1]) (t := 47) ?hr ?_; (case hd => rfl); (case hg => rfl); (case hr => first | (go_simp; done) | (go_simp; rfl)); intro g0 hg W0 hbox hb; have kb_ := below_step HB hb; clear HB; have HB := kb_; clear kb_ hb hg; have BK0 := hbox; clear hbox) | ((with_reducible refine gate_dst (N := 4) rfl ?_); refine box_event ?hg (N := 4) ?hd (cs := #[.slice a10 n10 a1c0, .bool x11, .bool x12, .bool x13, .bool x14, .slice a15 n15 a1c5, .int .i64 x16, .int .i64 x17, .slice a18 n18 a1c8]) (t := 69) ?hr ?_; (case hd => rfl); (case hg => rfl); (case hr => first | (go_simp; done) | (go_simp; rfl)); intro g1 hg W1 hbox hb; have k0_ := blk_below BK0 hb; clear BK0; have BK0 := k0_; clear k0_; have kb_ := below_step HB hb; clear HB; have HB := kb_; clear kb_ hb hg; have BK1 := hbox; clear hbox) | ((with_reducible refine gate_dst (N := 5) rfl ?_); refine box_event ?hg (N := 5) ?hd (cs := #[.slice a20 n20 a2c0, .bool x21, .bool x22, .bool x23, .bool x24, .slice a25 n25 a2c5, .int .i64 x26, .int .i64 x27, .slice a28 n28 a2c8]) (t := 69) ?hr ?_; (case hd => rfl); (case hg => rfl); (case hr => first | (go_simp; done) | (go_simp; rfl)); intro g2 hg W2 hbox hb; have k0_ := blk_below BK0 hb; clear BK0; have BK0 := k0_; clear k0_; have k1_ := blk_below BK1 hb; clear BK1; have BK1 := k1_; clear k1_; have kb_ := below_step HB hb; clear HB; have HB := kb_; clear kb_ hb hg; have BK2 := hbox; clear hbox))
  have HA0 := H_mA0.out _ _ HB hA0
  have HA1 := H_mA1.out _ _ HB hA1
  have HA2 := H_mA2.out _ _ HB hA2
  clear hA0 hA1 hA2
  obtain ⟨W, hWW⟩ : ∃ W, W = W2 := ⟨_, rfl⟩
  rw [← hWW] at HB BK0 HA0 BK1 HA1 BK2 HA2 ⊢
  clear hWW
  have z0_0 : W.cell? ⟨g0, 0, none⟩ = some (.slice a00 n00 a0c0) := (blk_cell BK0 0).trans rfl
  have z0_1 : W.cell? ⟨g0, 1, none⟩ = some (.slice a01 n01 a0c1) := (blk_cell BK0 1).trans rfl
  go_wp2_with fail
  refine (H_hsz0.out _ HA0).mono ?_
  rintro e V1 ⟨rfl, hb⟩
  clear z0_0 z0_1
  have k_ := below_step HB hb
  clear HB
  have HB := k_
  clear k_
  have k_ := blk_below BK0 hb
  clear BK0
  have BK0 := k_
  clear k_
  have k_ := blk_below BK1 hb
  clear BK1
  have BK1 := k_
  clear k_
  have k_ := blk_below BK2 hb
  clear BK2
  have BK2 := k_
  clear k_
  have k_ := H_mA0.out _ _ hb HA0
  clear HA0
  have HA0 := k_
  clear k_
  have k_ := H_mA1.out _ _ hb HA1
  clear HA1
  have HA1 := k_
  clear k_
  have k_ := H_mA2.out _ _ hb HA2
  clear HA2
  have HA2 := k_
  clear k_
  clear hb
  have z1_0 : V1.cell? ⟨g1, 0, none⟩ = some (.slice a10 n10 a1c0) := (blk_cell BK1 0).trans rfl
  have z1_1 : V1.cell? ⟨g1, 1, none⟩ = some (.bool x11) := (blk_cell BK1 1).trans rfl
  have z1_2 : V1.cell? ⟨g1, 2, none⟩ = some (.bool x12) := (blk_cell BK1 2).trans rfl
  have z1_3 : V1.cell? ⟨g1, 3, none⟩ = some (.bool x13) := (blk_cell BK1 3).trans rfl
  have z1_4 : V1.cell? ⟨g1, 4, none⟩ = some (.bool x14) := (blk_cell BK1 4).trans rfl
  have z1_5 : V1.cell? ⟨g1, 5, none⟩ = some (.slice a15 n15 a1c5) := (blk_cell BK1 5).trans rfl
  have z1_6 : V1.cell? ⟨g1, 6, none⟩ = some (.int .i64 x16) := (blk_cell BK1 6).trans rfl
  have z1_7 : V1.cell? ⟨g1, 7, none⟩ = some (.int .i64 x17) := (blk_cell BK1 7).trans rfl
  have z1_8 : V1.cell? ⟨g1, 8, none⟩ = some (.slice a18 n18 a1c8) := (blk_cell BK1 8).trans rfl
  go_wp2_with fail
  refine (H_hsz1.out _ HA1).mono ?_
  rintro e V2 ⟨rfl, hb⟩
  clear z1_0 z1_1 z1_2 z1_3 z1_4 z1_5 z1_6 z1_7 z1_8
  have k_ := below_step HB hb
  clear HB
  have HB := k_
  clear k_
  have k_ := blk_below BK0 hb
  clear BK0
  have BK0 := k_
  clear k_
  have k_ := blk_below BK1 hb
  clear BK1
  have BK1 := k_
  clear k_
  have k_ := blk_below BK2 hb
  clear BK2
  have BK2 := k_
  clear k_
  have k_ := H_mA0.out _ _ hb HA0
  clear HA0
  have HA0 := k_
  clear k_
  have k_ := H_mA1.out _ _ hb HA1
  clear HA1
  have HA1 := k_
  clear k_
  have k_ := H_mA2.out _ _ hb HA2
  clear HA2
  have HA2 := k_
  clear k_
  clear hb
  go_wp2
  go_ret
  exact ⟨rfl, HB⟩

set_option maxRecDepth 100000 in
set_option maxHeartbeats 8000000 in
theorem samep_out2 (n00 : Nat) (n01 : Nat) (n10 : Nat) (x11 : Bool) (x12 : Bool) (x13 : Bool) (x14 : Bool) (n15 : Nat) (x16 : Int) (x17 : Int) (n18 : Nat) (n20 : Nat) (x21 : Bool) (x22 : Bool) (x23 : Bool) (x24 : Bool) (n25 : Nat) (x26 : Int) (x27 : Int) (n28 : Nat) (l1 l2 l3 : Int) (a00 : Option Addr) (a0c0 : Nat) (a01 : Option Addr) (a0c1 : Nat) (a10 : Option Addr) (a1c0 : Nat) (a15 : Option Addr) (a1c5 : Nat) (a18 : Option Addr) (a1c8 : Nat) (a20 : Option Addr) (a2c0 : Nat) (a25 : Option Addr) (a2c5 : Nat) (a28 : Option Addr) (a2c8 : Nat) (A0 : World → Prop) (A1 : World → Prop) (A2 : World → Prop)
    (mA0 : ∀ w w' : World, Below w.heap.size w w' → A0 w → A0 w')
    (hsz0 : ∀ w : World, A0 w → Calls Try.prog 18 #[.agg #[.slice a00 n00 a0c0, .slice a01 n01 a0c1], .int .i64 1048576] w fun e w' => e = .returned (.int .i64 l1) ∧ Below w.heap.size w w')
    (mA1 : ∀ w w' : World, Below w.heap.size w w' → A1 w → A1 w')
    (hsz1 : ∀ w : World, A1 w → Calls Try.prog 28 #[.agg #[.slice a10 n10 a1c0, .bool x11, .bool x12, .bool x13, .bool x14, .slice a15 n15 a1c5, .int .i64 x16, .int .i64 x17, .slice a18 n18 a1c8], .int .i64 l1] w fun e w' => e = .returned (.int .i64 l2) ∧ Below w.heap.size w w')
    (mA2 : ∀ w w' : World, Below w.heap.size w w' → A2 w → A2 w')
    (hsz2 : ∀ w : World, A2 w → Calls Try.prog 28 #[.agg #[.slice a20 n20 a2c0, .bool x21, .bool x22, .bool x23, .bool x24, .slice a25 n25 a2c5, .int .i64 x26, .int .i64 x27, .slice a28 n28 a2c8], .int .i64 l2] w fun e w' => e = .returned (.int .i64 l3) ∧ Below w.heap.size w w')
    (w : World) (hA0 : A0 w) (hA1 : A1 w) (hA2 : A2 w) (hl0 : 0 ≤ l1) (hl1 : 0 ≤ l2) (hl2 : l3 < 0) :
    Calls Try.prog 10 #[.agg #[.slice a00 n00 a0c0, .slice a01 n01 a0c1], .agg #[.slice a10 n10 a1c0, .bool x11, .bool x12, .bool x13, .bool x14, .slice a15 n15 a1c5, .int .i64 x16, .int .i64 x17, .slice a18 n18 a1c8], .agg #[.slice a20 n20 a2c0, .bool x21, .bool x22, .bool x23, .bool x24, .slice a25 n25 a2c5, .int .i64 x26, .int .i64 x27, .slice a28 n28 a2c8]] w fun e w' => e = .returned (.bool true) ∧ Below w.heap.size w w' := by
  have H_mA0 := Aside0.mk mA0
  have H_hsz0 := Aside0.mk hsz0
  have H_mA1 := Aside0.mk mA1
  have H_hsz1 := Aside0.mk hsz1
  have H_mA2 := Aside0.mk mA2
  have H_hsz2 := Aside0.mk hsz2
  clear mA0 hsz0 mA1 hsz1 mA2 hsz2
  have HB := Below.refl w.heap.size w
  go_enter Try.func10, Try.ntmps10
  go_upto_region 1 with (first | ((with_reducible refine gate_dst (N := 3) rfl ?_); refine box_event ?hg (N := 3) ?hd (cs := #[.slice a00 n00 a0c0, .slice a01 n01 a0c1]) (t := 47) ?hr ?_; (case hd => rfl); (case hg => rfl); (case hr => first | (go_simp; done) | (go_simp; rfl)); intro g0 hg W0 hbox hb; have kb_ := below_step HB hb; clear HB; have HB := kb_; clear kb_ hb hg; have BK0 := hbox; clear hbox) | ((with_reducible refine gate_dst (N := 4) rfl ?_); refine box_event ?hg (N := 4) ?hd (cs := #[.slice a10 n10 a1c0, .bool x11, .bool x12, .bool x13, .bool x14, .slice a15 n15 a1c5, .int .i64 x16, .int .i64 x17, .slice a18 n18 a1c8]) (t := 69) ?hr ?_; (case hd => rfl); (case hg => rfl); (case hr => first | (go_simp; done) | (go_simp; rfl)); intro g1 hg W1 hbox hb; have k0_ := blk_below BK0 hb; clear BK0; have BK0 := k0_; clear k0_; have kb_ := below_step HB hb; clear HB; have HB := kb_; clear kb_ hb hg; have BK1 := hbox; clear hbox) | ((with_reducible refine gate_dst (N := 5) rfl ?_); refine box_event ?hg (N := 5) ?hd (cs := #[.slice a20 n20 a2c0, .bool x21, .bool x22, .bool x23, .bool x24, .slice a25 n25 a2c5, .int .i64 x26, .int .i64 x27, .slice a28 n28 a2c8]) (t := 69) ?hr ?_; (case hd => rfl); (case hg => rfl); (case hr => first | (go_simp; done) | (go_simp; rfl)); intro g2 hg W2 hbox hb; have k0_ := blk_below BK0 hb; clear BK0; have BK0 := k0_; clear k0_; have k1_ := blk_below BK1 hb; clear BK1; have BK1 := k1_; clear k1_; have kb_ := below_step HB hb; clear HB; have HB := kb_; clear kb_ hb hg; have BK2 := hbox; clear hbox))
  have HA0 := H_mA0.out _ _ HB hA0
  have HA1 := H_mA1.out _ _ HB hA1
  have HA2 := H_mA2.out _ _ HB hA2
  clear hA0 hA1 hA2
  obtain ⟨W, hWW⟩ : ∃ W, W = W2 := ⟨_, rfl⟩
  rw [← hWW] at HB BK0 HA0 BK1 HA1 BK2 HA2 ⊢
  clear hWW
  have z0_0 : W.cell? ⟨g0, 0, none⟩ = some (.slice a00 n00 a0c0) := (blk_cell BK0 0).trans rfl
  have z0_1 : W.cell? ⟨g0, 1, none⟩ = some (.slice a01 n01 a0c1) := (blk_cell BK0 1).trans rfl
  go_wp2_with fail
  refine (H_hsz0.out _ HA0).mono ?_
  rintro e V1 ⟨rfl, hb⟩
  clear z0_0 z0_1
  have k_ := below_step HB hb
  clear HB
  have HB := k_
  clear k_
  have k_ := blk_below BK0 hb
  clear BK0
  have BK0 := k_
  clear k_
  have k_ := blk_below BK1 hb
  clear BK1
  have BK1 := k_
  clear k_
  have k_ := blk_below BK2 hb
  clear BK2
  have BK2 := k_
  clear k_
  have k_ := H_mA0.out _ _ hb HA0
  clear HA0
  have HA0 := k_
  clear k_
  have k_ := H_mA1.out _ _ hb HA1
  clear HA1
  have HA1 := k_
  clear k_
  have k_ := H_mA2.out _ _ hb HA2
  clear HA2
  have HA2 := k_
  clear k_
  clear hb
  have z1_0 : V1.cell? ⟨g1, 0, none⟩ = some (.slice a10 n10 a1c0) := (blk_cell BK1 0).trans rfl
  have z1_1 : V1.cell? ⟨g1, 1, none⟩ = some (.bool x11) := (blk_cell BK1 1).trans rfl
  have z1_2 : V1.cell? ⟨g1, 2, none⟩ = some (.bool x12) := (blk_cell BK1 2).trans rfl
  have z1_3 : V1.cell? ⟨g1, 3, none⟩ = some (.bool x13) := (blk_cell BK1 3).trans rfl
  have z1_4 : V1.cell? ⟨g1, 4, none⟩ = some (.bool x14) := (blk_cell BK1 4).trans rfl
  have z1_5 : V1.cell? ⟨g1, 5, none⟩ = some (.slice a15 n15 a1c5) := (blk_cell BK1 5).trans rfl
  have z1_6 : V1.cell? ⟨g1, 6, none⟩ = some (.int .i64 x16) := (blk_cell BK1 6).trans rfl
  have z1_7 : V1.cell? ⟨g1, 7, none⟩ = some (.int .i64 x17) := (blk_cell BK1 7).trans rfl
  have z1_8 : V1.cell? ⟨g1, 8, none⟩ = some (.slice a18 n18 a1c8) := (blk_cell BK1 8).trans rfl
  go_wp2_with fail
  refine (H_hsz1.out _ HA1).mono ?_
  rintro e V2 ⟨rfl, hb⟩
  clear z1_0 z1_1 z1_2 z1_3 z1_4 z1_5 z1_6 z1_7 z1_8
  have k_ := below_step HB hb
  clear HB
  have HB := k_
  clear k_
  have k_ := blk_below BK0 hb
  clear BK0
  have BK0 := k_
  clear k_
  have k_ := blk_below BK1 hb
  clear BK1
  have BK1 := k_
  clear k_
  have k_ := blk_below BK2 hb
  clear BK2
  have BK2 := k_
  clear k_
  have k_ := H_mA0.out _ _ hb HA0
  clear HA0
  have HA0 := k_
  clear k_
  have k_ := H_mA1.out _ _ hb HA1
  clear HA1
  have HA1 := k_
  clear k_
  have k_ := H_mA2.out _ _ hb HA2
  clear HA2
  have HA2 := k_
  clear k_
  clear hb
  have z2_0 : V2.cell? ⟨g2, 0, none⟩ = some (.slice a20 n20 a2c0) := (blk_cell BK2 0).trans rfl
  have z2_1 : V2.cell? ⟨g2, 1, none⟩ = some (.bool x21) := (blk_cell BK2 1).trans rfl
  have z2_2 : V2.cell? ⟨g2, 2, none⟩ = some (.bool x22) := (blk_cell BK2 2).trans rfl
  have z2_3 : V2.cell? ⟨g2, 3, none⟩ = some (.bool x23) := (blk_cell BK2 3).trans rfl
  have z2_4 : V2.cell? ⟨g2, 4, none⟩ = some (.bool x24) := (blk_cell BK2 4).trans rfl
  have z2_5 : V2.cell? ⟨g2, 5, none⟩ = some (.slice a25 n25 a2c5) := (blk_cell BK2 5).trans rfl
  have z2_6 : V2.cell? ⟨g2, 6, none⟩ = some (.int .i64 x26) := (blk_cell BK2 6).trans rfl
  have z2_7 : V2.cell? ⟨g2, 7, none⟩ = some (.int .i64 x27) := (blk_cell BK2 7).trans rfl
  have z2_8 : V2.cell? ⟨g2, 8, none⟩ = some (.slice a28 n28 a2c8) := (blk_cell BK2 8).trans rfl
  go_wp2_with fail
  refine (H_hsz2.out _ HA2).mono ?_
  rintro e V3 ⟨rfl, hb⟩
  clear z2_0 z2_1 z2_2 z2_3 z2_4 z2_5 z2_6 z2_7 z2_8
  have k_ := below_step HB hb
  clear HB
  have HB := k_
  clear k_
  have k_ := blk_below BK0 hb
  clear BK0
  have BK0 := k_
  clear k_
  have k_ := blk_below BK1 hb
  clear BK1
  have BK1 := k_
  clear k_
  have k_ := blk_below BK2 hb
  clear BK2
  have BK2 := k_
  clear k_
  have k_ := H_mA0.out _ _ hb HA0
  clear HA0
  have HA0 := k_
  clear k_
  have k_ := H_mA1.out _ _ hb HA1
  clear HA1
  have HA1 := k_
  clear k_
  have k_ := H_mA2.out _ _ hb HA2
  clear HA2
  have HA2 := k_
  clear k_
  clear hb
  go_wp2
  go_ret
  exact ⟨rfl, HB⟩

set_option maxRecDepth 100000 in
set_option maxHeartbeats 8000000 in
theorem samep_main (n00 : Nat) (n01 : Nat) (n10 : Nat) (x11 : Bool) (x12 : Bool) (x13 : Bool) (x14 : Bool) (n15 : Nat) (x16 : Int) (x17 : Int) (n18 : Nat) (n20 : Nat) (x21 : Bool) (x22 : Bool) (x23 : Bool) (x24 : Bool) (n25 : Nat) (x26 : Int) (x27 : Int) (n28 : Nat) (b : Bool) (l1 l2 l3 : Int) (a00 : Option Addr) (a0c0 : Nat) (a01 : Option Addr) (a0c1 : Nat) (a10 : Option Addr) (a1c0 : Nat) (a15 : Option Addr) (a1c5 : Nat) (a18 : Option Addr) (a1c8 : Nat) (a20 : Option Addr) (a2c0 : Nat) (a25 : Option Addr) (a2c5 : Nat) (a28 : Option Addr) (a2c8 : Nat) (A0 : World → Prop) (A1 : World → Prop) (A2 : World → Prop) (R0 : World → Option Addr → Nat → Option Addr → Nat → Prop) (R1 : World → Option Addr → Nat → Option Addr → Nat → Option Addr → Nat → Prop) (R2 : World → Option Addr → Nat → Option Addr → Nat → Option Addr → Nat → Prop)
    (mA0 : ∀ w w' : World, Below w.heap.size w w' → A0 w → A0 w')
    (mR0 : ∀ (w w' : World) p0 pc0 p1 pc1, Below w.heap.size w w' → R0 w p0 pc0 p1 pc1 → R0 w' p0 pc0 p1 pc1)
    (hsz0 : ∀ w : World, A0 w → Calls Try.prog 18 #[.agg #[.slice a00 n00 a0c0, .slice a01 n01 a0c1], .int .i64 1048576] w fun e w' => e = .returned (.int .i64 l1) ∧ Below w.heap.size w w')
    (hto0 : ∀ w : World, A0 w → Calls Try.prog 20 #[.agg #[.slice a00 n00 a0c0, .slice a01 n01 a0c1]] w fun e w' => ∃ p0 pc0 p1 pc1, e = .returned (.agg #[.slice p0 n00 pc0, .slice p1 n01 pc1]) ∧ R0 w' p0 pc0 p1 pc1 ∧ Below w.heap.size w w')
    (heq0 : ∀ (w : World) p0 pc0 p1 pc1 q0 qc0 q1 qc1, R0 w p0 pc0 p1 pc1 → R0 w q0 qc0 q1 qc1 → Calls Try.prog 22 #[.agg #[.slice p0 n00 pc0, .slice p1 n01 pc1], .agg #[.slice q0 n00 qc0, .slice q1 n01 qc1]] w fun e w' => e = .returned (.bool true) ∧ Below w.heap.size w w')
    (mA1 : ∀ w w' : World, Below w.heap.size w w' → A1 w → A1 w')
    (mR1 : ∀ (w w' : World) p0 pc0 p5 pc5 p8 pc8, Below w.heap.size w w' → R1 w p0 pc0 p5 pc5 p8 pc8 → R1 w' p0 pc0 p5 pc5 p8 pc8)
    (hsz1 : ∀ w : World, A1 w → Calls Try.prog 28 #[.agg #[.slice a10 n10 a1c0, .bool x11, .bool x12, .bool x13, .bool x14, .slice a15 n15 a1c5, .int .i64 x16, .int .i64 x17, .slice a18 n18 a1c8], .int .i64 l1] w fun e w' => e = .returned (.int .i64 l2) ∧ Below w.heap.size w w')
    (hto1 : ∀ w : World, A1 w → Calls Try.prog 30 #[.agg #[.slice a10 n10 a1c0, .bool x11, .bool x12, .bool x13, .bool x14, .slice a15 n15 a1c5, .int .i64 x16, .int .i64 x17, .slice a18 n18 a1c8]] w fun e w' => ∃ p0 pc0 p5 pc5 p8 pc8, e = .returned (.agg #[.slice p0 n10 pc0, .bool x11, .bool x12, .bool x13, .bool x14, .slice p5 n15 pc5, .int .i64 x16, .int .i64 x17, .slice p8 n18 pc8]) ∧ R1 w' p0 pc0 p5 pc5 p8 pc8 ∧ Below w.heap.size w w')
    (heq1 : ∀ (w : World) p0 pc0 p5 pc5 p8 pc8 q0 qc0 q5 qc5 q8 qc8, R1 w p0 pc0 p5 pc5 p8 pc8 → R1 w q0 qc0 q5 qc5 q8 qc8 → Calls Try.prog 32 #[.agg #[.slice p0 n10 pc0, .bool x11, .bool x12, .bool x13, .bool x14, .slice p5 n15 pc5, .int .i64 x16, .int .i64 x17, .slice p8 n18 pc8], .agg #[.slice q0 n10 qc0, .bool x11, .bool x12, .bool x13, .bool x14, .slice q5 n15 qc5, .int .i64 x16, .int .i64 x17, .slice q8 n18 qc8]] w fun e w' => e = .returned (.bool true) ∧ Below w.heap.size w w')
    (mA2 : ∀ w w' : World, Below w.heap.size w w' → A2 w → A2 w')
    (mR2 : ∀ (w w' : World) p0 pc0 p5 pc5 p8 pc8, Below w.heap.size w w' → R2 w p0 pc0 p5 pc5 p8 pc8 → R2 w' p0 pc0 p5 pc5 p8 pc8)
    (hsz2 : ∀ w : World, A2 w → Calls Try.prog 28 #[.agg #[.slice a20 n20 a2c0, .bool x21, .bool x22, .bool x23, .bool x24, .slice a25 n25 a2c5, .int .i64 x26, .int .i64 x27, .slice a28 n28 a2c8], .int .i64 l2] w fun e w' => e = .returned (.int .i64 l3) ∧ Below w.heap.size w w')
    (hto2 : ∀ w : World, A2 w → Calls Try.prog 30 #[.agg #[.slice a20 n20 a2c0, .bool x21, .bool x22, .bool x23, .bool x24, .slice a25 n25 a2c5, .int .i64 x26, .int .i64 x27, .slice a28 n28 a2c8]] w fun e w' => ∃ p0 pc0 p5 pc5 p8 pc8, e = .returned (.agg #[.slice p0 n20 pc0, .bool x21, .bool x22, .bool x23, .bool x24, .slice p5 n25 pc5, .int .i64 x26, .int .i64 x27, .slice p8 n28 pc8]) ∧ R2 w' p0 pc0 p5 pc5 p8 pc8 ∧ Below w.heap.size w w')
    (heq2 : ∀ (w : World) p0 pc0 p5 pc5 p8 pc8 q0 qc0 q5 qc5 q8 qc8, R2 w p0 pc0 p5 pc5 p8 pc8 → R2 w q0 qc0 q5 qc5 q8 qc8 → Calls Try.prog 32 #[.agg #[.slice p0 n20 pc0, .bool x21, .bool x22, .bool x23, .bool x24, .slice p5 n25 pc5, .int .i64 x26, .int .i64 x27, .slice p8 n28 pc8], .agg #[.slice q0 n20 qc0, .bool x21, .bool x22, .bool x23, .bool x24, .slice q5 n25 qc5, .int .i64 x26, .int .i64 x27, .slice q8 n28 qc8]] w fun e w' => e = .returned (.bool true) ∧ Below w.heap.size w w')
    (hspec : ∀ (w : World) p00 p0c0 p01 p0c1 p10 p1c0 p15 p1c5 p18 p1c8 p20 p2c0 p25 p2c5 p28 p2c8, R0 w p00 p0c0 p01 p0c1 → R1 w p10 p1c0 p15 p1c5 p18 p1c8 → R2 w p20 p2c0 p25 p2c5 p28 p2c8 → Calls Try.prog 35 #[.agg #[.slice p00 n00 p0c0, .slice p01 n01 p0c1], .agg #[.slice p10 n10 p1c0, .bool x11, .bool x12, .bool x13, .bool x14, .slice p15 n15 p1c5, .int .i64 x16, .int .i64 x17, .slice p18 n18 p1c8], .agg #[.slice p20 n20 p2c0, .bool x21, .bool x22, .bool x23, .bool x24, .slice p25 n25 p2c5, .int .i64 x26, .int .i64 x27, .slice p28 n28 p2c8]] w fun e w' => e = .returned (.bool b) ∧ Below w.heap.size w w')
    (himpl : ∀ (w : World) p00 p0c0 p01 p0c1 p10 p1c0 p15 p1c5 p18 p1c8 p20 p2c0 p25 p2c5 p28 p2c8, R0 w p00 p0c0 p01 p0c1 → R1 w p10 p1c0 p15 p1c5 p18 p1c8 → R2 w p20 p2c0 p25 p2c5 p28 p2c8 → Calls Try.prog 36 #[.agg #[.slice p00 n00 p0c0, .slice p01 n01 p0c1], .agg #[.slice p10 n10 p1c0, .bool x11, .bool x12, .bool x13, .bool x14, .slice p15 n15 p1c5, .int .i64 x16, .int .i64 x17, .slice p18 n18 p1c8], .agg #[.slice p20 n20 p2c0, .bool x21, .bool x22, .bool x23, .bool x24, .slice p25 n25 p2c5, .int .i64 x26, .int .i64 x27, .slice p28 n28 p2c8]] w fun e w' => e = .returned (.bool b) ∧ Below w.heap.size w w')
    (w : World) (hA0 : A0 w) (hA1 : A1 w) (hA2 : A2 w) (hl0 : 0 ≤ l1) (hl1 : 0 ≤ l2) (hl2 : 0 ≤ l3) :
    Calls Try.prog 10 #[.agg #[.slice a00 n00 a0c0, .slice a01 n01 a0c1], .agg #[.slice a10 n10 a1c0, .bool x11, .bool x12, .bool x13, .bool x14, .slice a15 n15 a1c5, .int .i64 x16, .int .i64 x17, .slice a18 n18 a1c8], .agg #[.slice a20 n20 a2c0, .bool x21, .bool x22, .bool x23, .bool x24, .slice a25 n25 a2c5, .int .i64 x26, .int .i64 x27, .slice a28 n28 a2c8]] w fun e w' => e = .returned (.bool true) ∧ Below w.heap.size w w' := by
  have H_mA0 := Aside0.mk mA0
  have H_mR0 := Aside0.mk mR0
  have H_hsz0 := Aside0.mk hsz0
  have H_hto0 := Aside0.mk hto0
  have H_heq0 := Aside0.mk heq0
  have H_mA1 := Aside0.mk mA1
  have H_mR1 := Aside0.mk mR1
  have H_hsz1 := Aside0.mk hsz1
  have H_hto1 := Aside0.mk hto1
  have H_heq1 := Aside0.mk heq1
  have H_mA2 := Aside0.mk mA2
  have H_mR2 := Aside0.mk mR2
  have H_hsz2 := Aside0.mk hsz2
  have H_hto2 := Aside0.mk hto2
  have H_heq2 := Aside0.mk heq2
  have H_hspec := Aside0.mk hspec
  have H_himpl := Aside0.mk himpl
  clear mA0 mR0 hsz0 hto0 heq0 mA1 mR1 hsz1 hto1 heq1 mA2 mR2 hsz2 hto2 heq2 hspec himpl
  have HB := Below.refl w.heap.size w
  go_enter Try.func10, Try.ntmps10
  go_upto_region 1 with (first | ((with_reducible refine gate_dst (N := 3) rfl ?_); refine box_event ?hg (N := 3) ?hd (cs := #[.slice a00 n00 a0c0, .slice a01 n01 a0c1]) (t := 47) ?hr ?_; (case hd => rfl); (case hg => rfl); (case hr => first | (go_simp; done) | (go_simp; rfl)); intro g0 hg W0 hbox hb; have kb_ := below_step HB hb; clear HB; have HB := kb_; clear kb_ hb hg; have BK0 := hbox; clear hbox) | ((with_reducible refine gate_dst (N := 4) rfl ?_); refine box_event ?hg (N := 4) ?hd (cs := #[.slice a10 n10 a1c0, .bool x11, .bool x12, .bool x13, .bool x14, .slice a15 n15 a1c5, .int .i64 x16, .int .i64 x17, .slice a18 n18 a1c8]) (t := 69) ?hr ?_; (case hd => rfl); (case hg => rfl); (case hr => first | (go_simp; done) | (go_simp; rfl)); intro g1 hg W1 hbox hb; have k0_ := blk_below BK0 hb; clear BK0; have BK0 := k0_; clear k0_; have kb_ := below_step HB hb; clear HB; have HB := kb_; clear kb_ hb hg; have BK1 := hbox; clear hbox) | ((with_reducible refine gate_dst (N := 5) rfl ?_); refine box_event ?hg (N := 5) ?hd (cs := #[.slice a20 n20 a2c0, .bool x21, .bool x22, .bool x23, .bool x24, .slice a25 n25 a2c5, .int .i64 x26, .int .i64 x27, .slice a28 n28 a2c8]) (t := 69) ?hr ?_; (case hd => rfl); (case hg => rfl); (case hr => first | (go_simp; done) | (go_simp; rfl)); intro g2 hg W2 hbox hb; have k0_ := blk_below BK0 hb; clear BK0; have BK0 := k0_; clear k0_; have k1_ := blk_below BK1 hb; clear BK1; have BK1 := k1_; clear k1_; have kb_ := below_step HB hb; clear HB; have HB := kb_; clear kb_ hb hg; have BK2 := hbox; clear hbox))
  have HA0 := H_mA0.out _ _ HB hA0
  have HA1 := H_mA1.out _ _ HB hA1
  have HA2 := H_mA2.out _ _ HB hA2
  clear hA0 hA1 hA2
  obtain ⟨W, hWW⟩ : ∃ W, W = W2 := ⟨_, rfl⟩
  rw [← hWW] at HB BK0 HA0 BK1 HA1 BK2 HA2 ⊢
  clear hWW
  have z0_0 : W.cell? ⟨g0, 0, none⟩ = some (.slice a00 n00 a0c0) := (blk_cell BK0 0).trans rfl
  have z0_1 : W.cell? ⟨g0, 1, none⟩ = some (.slice a01 n01 a0c1) := (blk_cell BK0 1).trans rfl
  go_wp2_with fail
  refine (H_hsz0.out _ HA0).mono ?_
  rintro e V1 ⟨rfl, hb⟩
  clear z0_0 z0_1
  have k_ := below_step HB hb
  clear HB
  have HB := k_
  clear k_
  have k_ := blk_below BK0 hb
  clear BK0
  have BK0 := k_
  clear k_
  have k_ := blk_below BK1 hb
  clear BK1
  have BK1 := k_
  clear k_
  have k_ := blk_below BK2 hb
  clear BK2
  have BK2 := k_
  clear k_
  have k_ := H_mA0.out _ _ hb HA0
  clear HA0
  have HA0 := k_
  clear k_
  have k_ := H_mA1.out _ _ hb HA1
  clear HA1
  have HA1 := k_
  clear k_
  have k_ := H_mA2.out _ _ hb HA2
  clear HA2
  have HA2 := k_
  clear k_
  clear hb
  have z1_0 : V1.cell? ⟨g1, 0, none⟩ = some (.slice a10 n10 a1c0) := (blk_cell BK1 0).trans rfl
  have z1_1 : V1.cell? ⟨g1, 1, none⟩ = some (.bool x11) := (blk_cell BK1 1).trans rfl
  have z1_2 : V1.cell? ⟨g1, 2, none⟩ = some (.bool x12) := (blk_cell BK1 2).trans rfl
  have z1_3 : V1.cell? ⟨g1, 3, none⟩ = some (.bool x13) := (blk_cell BK1 3).trans rfl
  have z1_4 : V1.cell? ⟨g1, 4, none⟩ = some (.bool x14) := (blk_cell BK1 4).trans rfl
  have z1_5 : V1.cell? ⟨g1, 5, none⟩ = some (.slice a15 n15 a1c5) := (blk_cell BK1 5).trans rfl
  have z1_6 : V1.cell? ⟨g1, 6, none⟩ = some (.int .i64 x16) := (blk_cell BK1 6).trans rfl
  have z1_7 : V1.cell? ⟨g1, 7, none⟩ = some (.int .i64 x17) := (blk_cell BK1 7).trans rfl
  have z1_8 : V1.cell? ⟨g1, 8, none⟩ = some (.slice a18 n18 a1c8) := (blk_cell BK1 8).trans rfl
  go_wp2_with fail
  refine (H_hsz1.out _ HA1).mono ?_
  rintro e V2 ⟨rfl, hb⟩
  clear z1_0 z1_1 z1_2 z1_3 z1_4 z1_5 z1_6 z1_7 z1_8
  have k_ := below_step HB hb
  clear HB
  have HB := k_
  clear k_
  have k_ := blk_below BK0 hb
  clear BK0
  have BK0 := k_
  clear k_
  have k_ := blk_below BK1 hb
  clear BK1
  have BK1 := k_
  clear k_
  have k_ := blk_below BK2 hb
  clear BK2
  have BK2 := k_
  clear k_
  have k_ := H_mA0.out _ _ hb HA0
  clear HA0
  have HA0 := k_
  clear k_
  have k_ := H_mA1.out _ _ hb HA1
  clear HA1
  have HA1 := k_
  clear k_
  have k_ := H_mA2.out _ _ hb HA2
  clear HA2
  have HA2 := k_
  clear k_
  clear hb
  have z2_0 : V2.cell? ⟨g2, 0, none⟩ = some (.slice a20 n20 a2c0) := (blk_cell BK2 0).trans rfl
  have z2_1 : V2.cell? ⟨g2, 1, none⟩ = some (.bool x21) := (blk_cell BK2 1).trans rfl
  have z2_2 : V2.cell? ⟨g2, 2, none⟩ = some (.bool x22) := (blk_cell BK2 2).trans rfl
  have z2_3 : V2.cell? ⟨g2, 3, none⟩ = some (.bool x23) := (blk_cell BK2 3).trans rfl
  have z2_4 : V2.cell? ⟨g2, 4, none⟩ = some (.bool x24) := (blk_cell BK2 4).trans rfl
  have z2_5 : V2.cell? ⟨g2, 5, none⟩ = some (.slice a25 n25 a2c5) := (blk_cell BK2 5).trans rfl
  have z2_6 : V2.cell? ⟨g2, 6, none⟩ = some (.int .i64 x26) := (blk_cell BK2 6).trans rfl
  have z2_7 : V2.cell? ⟨g2, 7, none⟩ = some (.int .i64 x27) := (blk_cell BK2 7).trans rfl
  have z2_8 : V2.cell? ⟨g2, 8, none⟩ = some (.slice a28 n28 a2c8) := (blk_cell BK2 8).trans rfl
  go_wp2_with fail
  refine (H_hsz2.out _ HA2).mono ?_
  rintro e V3 ⟨rfl, hb⟩
  clear z2_0 z2_1 z2_2 z2_3 z2_4 z2_5 z2_6 z2_7 z2_8
  have k_ := below_step HB hb
  clear HB
  have HB := k_
  clear k_
  have k_ := blk_below BK0 hb
  clear BK0
  have BK0 := k_
  clear k_
  have k_ := blk_below BK1 hb
  clear BK1
  have BK1 := k_
  clear k_
  have k_ := blk_below BK2 hb
  clear BK2
  have BK2 := k_
  clear k_
  have k_ := H_mA0.out _ _ hb HA0
  clear HA0
  have HA0 := k_
  clear k_
  have k_ := H_mA1.out _ _ hb HA1
  clear HA1
  have HA1 := k_
  clear k_
  have k_ := H_mA2.out _ _ hb HA2
  clear HA2
  have HA2 := k_
  clear k_
  clear hb
  go_upto_region 11 with fail
  have HW := Below.refl V3.heap.size V3
  go_cut [8] (fun s8 wx => s8 = .bool b ∧ Below V3.heap.size V3 wx)
  case first =>
    have HK : ∀ w1 : World, Below V3.heap.size V3 w1 → w1.cell? ⟨g0, 0, none⟩ = some (.slice a00 n00 a0c0) ∧ w1.cell? ⟨g0, 1, none⟩ = some (.slice a01 n01 a0c1) ∧ w1.cell? ⟨g1, 0, none⟩ = some (.slice a10 n10 a1c0) ∧ w1.cell? ⟨g1, 1, none⟩ = some (.bool x11) ∧ w1.cell? ⟨g1, 2, none⟩ = some (.bool x12) ∧ w1.cell? ⟨g1, 3, none⟩ = some (.bool x13) ∧ w1.cell? ⟨g1, 4, none⟩ = some (.bool x14) ∧ w1.cell? ⟨g1, 5, none⟩ = some (.slice a15 n15 a1c5) ∧ w1.cell? ⟨g1, 6, none⟩ = some (.int .i64 x16) ∧ w1.cell? ⟨g1, 7, none⟩ = some (.int .i64 x17) ∧ w1.cell? ⟨g1, 8, none⟩ = some (.slice a18 n18 a1c8) ∧ w1.cell? ⟨g2, 0, none⟩ = some (.slice a20 n20 a2c0) ∧ w1.cell? ⟨g2, 1, none⟩ = some (.bool x21) ∧ w1.cell? ⟨g2, 2, none⟩ = some (.bool x22) ∧ w1.cell? ⟨g2, 3, none⟩ = some (.bool x23) ∧ w1.cell? ⟨g2, 4, none⟩ = some (.bool x24) ∧ w1.cell? ⟨g2, 5, none⟩ = some (.slice a25 n25 a2c5) ∧ w1.cell? ⟨g2, 6, none⟩ = some (.int .i64 x26) ∧ w1.cell? ⟨g2, 7, none⟩ = some (.int .i64 x27) ∧ w1.cell? ⟨g2, 8, none⟩ = some (.slice a28 n28 a2c8) ∧ Below V3.heap.size V3 w1 := fun w1 hb => ⟨(blk_cell (blk_below BK0 hb) 0).trans rfl, (blk_cell (blk_below BK0 hb) 1).trans rfl, (blk_cell (blk_below BK1 hb) 0).trans rfl, (blk_cell (blk_below BK1 hb) 1).trans rfl, (blk_cell (blk_below BK1 hb) 2).trans rfl, (blk_cell (blk_below BK1 hb) 3).trans rfl, (blk_cell (blk_below BK1 hb) 4).trans rfl, (blk_cell (blk_below BK1 hb) 5).trans rfl, (blk_cell (blk_below BK1 hb) 6).trans rfl, (blk_cell (blk_below BK1 hb) 7).trans rfl, (blk_cell (blk_below BK1 hb) 8).trans rfl, (blk_cell (blk_below BK2 hb) 0).trans rfl, (blk_cell (blk_below BK2 hb) 1).trans rfl, (blk_cell (blk_below BK2 hb) 2).trans rfl, (blk_cell (blk_below BK2 hb) 3).trans rfl, (blk_cell (blk_below BK2 hb) 4).trans rfl, (blk_cell (blk_below BK2 hb) 5).trans rfl, (blk_cell (blk_below BK2 hb) 6).trans rfl, (blk_cell (blk_below BK2 hb) 7).trans rfl, (blk_cell (blk_below BK2 hb) 8).trans rfl, hb⟩
    have HK := Aside0.mk HK
    go_region_held3 (fun w1 => w1.cell? ⟨g0, 0, none⟩ = some (.slice a00 n00 a0c0) ∧ w1.cell? ⟨g0, 1, none⟩ = some (.slice a01 n01 a0c1) ∧ w1.cell? ⟨g1, 0, none⟩ = some (.slice a10 n10 a1c0) ∧ w1.cell? ⟨g1, 1, none⟩ = some (.bool x11) ∧ w1.cell? ⟨g1, 2, none⟩ = some (.bool x12) ∧ w1.cell? ⟨g1, 3, none⟩ = some (.bool x13) ∧ w1.cell? ⟨g1, 4, none⟩ = some (.bool x14) ∧ w1.cell? ⟨g1, 5, none⟩ = some (.slice a15 n15 a1c5) ∧ w1.cell? ⟨g1, 6, none⟩ = some (.int .i64 x16) ∧ w1.cell? ⟨g1, 7, none⟩ = some (.int .i64 x17) ∧ w1.cell? ⟨g1, 8, none⟩ = some (.slice a18 n18 a1c8) ∧ w1.cell? ⟨g2, 0, none⟩ = some (.slice a20 n20 a2c0) ∧ w1.cell? ⟨g2, 1, none⟩ = some (.bool x21) ∧ w1.cell? ⟨g2, 2, none⟩ = some (.bool x22) ∧ w1.cell? ⟨g2, 3, none⟩ = some (.bool x23) ∧ w1.cell? ⟨g2, 4, none⟩ = some (.bool x24) ∧ w1.cell? ⟨g2, 5, none⟩ = some (.slice a25 n25 a2c5) ∧ w1.cell? ⟨g2, 6, none⟩ = some (.int .i64 x26) ∧ w1.cell? ⟨g2, 7, none⟩ = some (.int .i64 x27) ∧ w1.cell? ⟨g2, 8, none⟩ = some (.slice a28 n28 a2c8) ∧ Below V3.heap.size V3 w1) (((with_reducible refine HK.out _ ?_); (repeat (with_reducible first | assumption | apply below_drew1 | apply below_alloc))))
      (first
        | (go_at_call 20; (with_reducible refine (H_hto0.out _ (H_mA0.out _ _ (by (repeat (with_reducible first | assumption | apply below_drew1 | apply below_alloc))) HA0)).mono ?_); rintro e w' ⟨t00, t0c0, t01, t0c1, rfl, hRn, hb⟩; (try (have hR0 := H_mR0.out _ _ _ _ _ _ hb hR0)); (try (have hR1 := H_mR1.out _ _ _ _ _ _ _ _ hb hR1)); (try (have hR2 := H_mR2.out _ _ _ _ _ _ _ _ hb hR2)); have hR0 := hRn; have HBk : Below V3.heap.size V3 w' := below_step (by (repeat (with_reducible first | assumption | apply below_drew1 | apply below_alloc))) hb)
        | (go_at_call 30; (with_reducible refine (H_hto1.out _ (H_mA1.out _ _ (by (repeat (with_reducible first | assumption | apply below_drew1 | apply below_alloc))) HA1)).mono ?_); rintro e w' ⟨t10, t1c0, t15, t1c5, t18, t1c8, rfl, hRn, hb⟩; (try (have hR0 := H_mR0.out _ _ _ _ _ _ hb hR0)); (try (have hR1 := H_mR1.out _ _ _ _ _ _ _ _ hb hR1)); (try (have hR2 := H_mR2.out _ _ _ _ _ _ _ _ hb hR2)); have hR1 := hRn; have HBk : Below V3.heap.size V3 w' := below_step (by (repeat (with_reducible first | assumption | apply below_drew1 | apply below_alloc))) hb)
        | (go_at_call 30; (with_reducible refine (H_hto2.out _ (H_mA2.out _ _ (by (repeat (with_reducible first | assumption | apply below_drew1 | apply below_alloc))) HA2)).mono ?_); rintro e w' ⟨t20, t2c0, t25, t2c5, t28, t2c8, rfl, hRn, hb⟩; (try (have hR0 := H_mR0.out _ _ _ _ _ _ hb hR0)); (try (have hR1 := H_mR1.out _ _ _ _ _ _ _ _ hb hR1)); (try (have hR2 := H_mR2.out _ _ _ _ _ _ _ _ hb hR2)); have hR2 := hRn; have HBk : Below V3.heap.size V3 w' := below_step (by (repeat (with_reducible first | assumption | apply below_drew1 | apply below_alloc))) hb)
        | (go_at_call 35; refine (H_hspec.out _ _ _ _ _ _ _ _ _ _ _ _ _ _ _ _ _ hR0 hR1 hR2).mono ?_; rintro e w' ⟨rfl, hb⟩; have HBk : Below V3.heap.size V3 w' := below_step (by (repeat (with_reducible first | assumption | apply below_drew1 | apply below_alloc))) hb)
      )
    all_goals
      go_wp2_with fail
      go_meet
      exact ⟨rfl, by with_reducible assumption⟩
  case rest =>
    obtain ⟨rfl, hb⟩ := hcut
    obtain ⟨V4, hWW⟩ : ∃ x : World, x = wc := ⟨_, rfl⟩
    rw [← hWW] at hb ⊢
    clear hWW HW
    have k_ := below_step HB hb
    clear HB
    have HB := k_
    clear k_
    have k_ := blk_below BK0 hb
    clear BK0
    have BK0 := k_
    clear k_
    have k_ := blk_below BK1 hb
    clear BK1
    have BK1 := k_
    clear k_
    have k_ := blk_below BK2 hb
    clear BK2
    have BK2 := k_
    clear k_
    have k_ := H_mA0.out _ _ hb HA0
    clear HA0
    have HA0 := k_
    clear k_
    have k_ := H_mA1.out _ _ hb HA1
    clear HA1
    have HA1 := k_
    clear k_
    have k_ := H_mA2.out _ _ hb HA2
    clear HA2
    have HA2 := k_
    clear k_
    clear hb
    go_upto_region 12 with fail
    have z0_0 : V4.cell? ⟨g0, 0, none⟩ = some (.slice a00 n00 a0c0) := (blk_cell BK0 0).trans rfl
    have z0_1 : V4.cell? ⟨g0, 1, none⟩ = some (.slice a01 n01 a0c1) := (blk_cell BK0 1).trans rfl
    go_wp2_with fail
    refine (H_hto0.out _ HA0).mono ?_
    rintro e V5 ⟨y00, y0c0, y01, y0c1, rfl, HX0, hb⟩
    clear z0_0 z0_1
    have k_ := below_step HB hb
    clear HB
    have HB := k_
    clear k_
    have k_ := blk_below BK0 hb
    clear BK0
    have BK0 := k_
    clear k_
    have k_ := blk_below BK1 hb
    clear BK1
    have BK1 := k_
    clear k_
    have k_ := blk_below BK2 hb
    clear BK2
    have BK2 := k_
    clear k_
    have k_ := H_mA0.out _ _ hb HA0
    clear HA0
    have HA0 := k_
    clear k_
    have k_ := H_mA1.out _ _ hb HA1
    clear HA1
    have HA1 := k_
    clear k_
    have k_ := H_mA2.out _ _ hb HA2
    clear HA2
    have HA2 := k_
    clear k_
    clear hb
    go_upto_region 13 with fail
    obtain ⟨V6, hWW⟩ : ∃ x : World, x = V5.alloc (.cells #[.slice y00 n00 y0c0, .slice y01 n01 y0c1] 53) := ⟨_, rfl⟩
    have hb : Below V5.heap.size V5 V6 := by rw [hWW]; exact below_alloc (Below.refl _ _) _
    have BX0 : V6.heap[V5.heap.size]? = some (.cells #[.slice y00 n00 y0c0, .slice y01 n01 y0c1] 53 (0, 0)) := by rw [hWW]; exact blk_new _ _
    rw [← hWW]
    clear hWW
    obtain ⟨h0, hh0⟩ : ∃ g, g = V5.heap.size := ⟨_, rfl⟩
    rw [← hh0] at BX0 ⊢
    clear hh0
    have k_ := below_step HB hb
    clear HB
    have HB := k_
    clear k_
    have k_ := blk_below BK0 hb
    clear BK0
    have BK0 := k_
    clear k_
    have k_ := blk_below BK1 hb
    clear BK1
    have BK1 := k_
    clear k_
    have k_ := blk_below BK2 hb
    clear BK2
    have BK2 := k_
    clear k_
    have k_ := H_mA0.out _ _ hb HA0
    clear HA0
    have HA0 := k_
    clear k_
    have k_ := H_mA1.out _ _ hb HA1
    clear HA1
    have HA1 := k_
    clear k_
    have k_ := H_mA2.out _ _ hb HA2
    clear HA2
    have HA2 := k_
    clear k_
    have k_ := H_mR0.out _ _ _ _ _ _ hb HX0
    clear HX0
    have HX0 := k_
    clear k_
    clear hb
    go_upto_region 13 with fail
    have z1_0 : V6.cell? ⟨g1, 0, none⟩ = some (.slice a10 n10 a1c0) := (blk_cell BK1 0).trans rfl
    have z1_1 : V6.cell? ⟨g1, 1, none⟩ = some (.bool x11) := (blk_cell BK1 1).trans rfl
    have z1_2 : V6.cell? ⟨g1, 2, none⟩ = some (.bool x12) := (blk_cell BK1 2).trans rfl
    have z1_3 : V6.cell? ⟨g1, 3, none⟩ = some (.bool x13) := (blk_cell BK1 3).trans rfl
    have z1_4 : V6.cell? ⟨g1, 4, none⟩ = some (.bool x14) := (blk_cell BK1 4).trans rfl
    have z1_5 : V6.cell? ⟨g1, 5, none⟩ = some (.slice a15 n15 a1c5) := (blk_cell BK1 5).trans rfl
    have z1_6 : V6.cell? ⟨g1, 6, none⟩ = some (.int .i64 x16) := (blk_cell BK1 6).trans rfl
    have z1_7 : V6.cell? ⟨g1, 7, none⟩ = some (.int .i64 x17) := (blk_cell BK1 7).trans rfl
    have z1_8 : V6.cell? ⟨g1, 8, none⟩ = some (.slice a18 n18 a1c8) := (blk_cell BK1 8).trans rfl
    go_wp2_with fail
    refine (H_hto1.out _ HA1).mono ?_
    rintro e V7 ⟨y10, y1c0, y15, y1c5, y18, y1c8, rfl, HX1, hb⟩
    clear z1_0 z1_1 z1_2 z1_3 z1_4 z1_5 z1_6 z1_7 z1_8
    have k_ := below_step HB hb
    clear HB
    have HB := k_
    clear k_
    have k_ := blk_below BK0 hb
    clear BK0
    have BK0 := k_
    clear k_
    have k_ := blk_below BK1 hb
    clear BK1
    have BK1 := k_
    clear k_
    have k_ := blk_below BK2 hb
    clear BK2
    have BK2 := k_
    clear k_
    have k_ := H_mA0.out _ _ hb HA0
    clear HA0
    have HA0 := k_
    clear k_
    have k_ := H_mA1.out _ _ hb HA1
    clear HA1
    have HA1 := k_
    clear k_
    have k_ := H_mA2.out _ _ hb HA2
    clear HA2
    have HA2 := k_
    clear k_
    have k_ := H_mR0.out _ _ _ _ _ _ hb HX0
    clear HX0
    have HX0 := k_
    clear k_
    have k_ := blk_below BX0 hb
    clear BX0
    have BX0 := k_
    clear k_
    clear hb
    go_upto_region 14 with fail
    obtain ⟨V8, hWW⟩ : ∃ x : World, x = V7.alloc (.cells #[.slice y10 n10 y1c0, .bool x11, .bool x12, .bool x13, .bool x14, .slice y15 n15 y1c5, .int .i64 x16, .int .i64 x17, .slice y18 n18 y1c8] 40) := ⟨_, rfl⟩
    have hb : Below V7.heap.size V7 V8 := by rw [hWW]; exact below_alloc (Below.refl _ _) _
    have BX1 : V8.heap[V7.heap.size]? = some (.cells #[.slice y10 n10 y1c0, .bool x11, .bool x12, .bool x13, .bool x14, .slice y15 n15 y1c5, .int .i64 x16, .int .i64 x17, .slice y18 n18 y1c8] 40 (0, 0)) := by rw [hWW]; exact blk_new _ _
    rw [← hWW]
    clear hWW
    obtain ⟨h1, hh1⟩ : ∃ g, g = V7.heap.size := ⟨_, rfl⟩
    rw [← hh1] at BX1 ⊢
    clear hh1
    have k_ := below_step HB hb
    clear HB
    have HB := k_
    clear k_
    have k_ := blk_below BK0 hb
    clear BK0
    have BK0 := k_
    clear k_
    have k_ := blk_below BK1 hb
    clear BK1
    have BK1 := k_
    clear k_
    have k_ := blk_below BK2 hb
    clear BK2
    have BK2 := k_
    clear k_
    have k_ := H_mA0.out _ _ hb HA0
    clear HA0
    have HA0 := k_
    clear k_
    have k_ := H_mA1.out _ _ hb HA1
    clear HA1
    have HA1 := k_
    clear k_
    have k_ := H_mA2.out _ _ hb HA2
    clear HA2
    have HA2 := k_
    clear k_
    have k_ := H_mR0.out _ _ _ _ _ _ hb HX0
    clear HX0
    have HX0 := k_
    clear k_
    have k_ := blk_below BX0 hb
    clear BX0
    have BX0 := k_
    clear k_
    have k_ := H_mR1.out _ _ _ _ _ _ _ _ hb HX1
    clear HX1
    have HX1 := k_
    clear k_
    clear hb
    go_upto_region 14 with fail
    have z2_0 : V8.cell? ⟨g2, 0, none⟩ = some (.slice a20 n20 a2c0) := (blk_cell BK2 0).trans rfl
    have z2_1 : V8.cell? ⟨g2, 1, none⟩ = some (.bool x21) := (blk_cell BK2 1).trans rfl
    have z2_2 : V8.cell? ⟨g2, 2, none⟩ = some (.bool x22) := (blk_cell BK2 2).trans rfl
    have z2_3 : V8.cell? ⟨g2, 3, none⟩ = some (.bool x23) := (blk_cell BK2 3).trans rfl
    have z2_4 : V8.cell? ⟨g2, 4, none⟩ = some (.bool x24) := (blk_cell BK2 4).trans rfl
    have z2_5 : V8.cell? ⟨g2, 5, none⟩ = some (.slice a25 n25 a2c5) := (blk_cell BK2 5).trans rfl
    have z2_6 : V8.cell? ⟨g2, 6, none⟩ = some (.int .i64 x26) := (blk_cell BK2 6).trans rfl
    have z2_7 : V8.cell? ⟨g2, 7, none⟩ = some (.int .i64 x27) := (blk_cell BK2 7).trans rfl
    have z2_8 : V8.cell? ⟨g2, 8, none⟩ = some (.slice a28 n28 a2c8) := (blk_cell BK2 8).trans rfl
    go_wp2_with fail
    refine (H_hto2.out _ HA2).mono ?_
    rintro e V9 ⟨y20, y2c0, y25, y2c5, y28, y2c8, rfl, HX2, hb⟩
    clear z2_0 z2_1 z2_2 z2_3 z2_4 z2_5 z2_6 z2_7 z2_8
    have k_ := below_step HB hb
    clear HB
    have HB := k_
    clear k_
    have k_ := blk_below BK0 hb
    clear BK0
    have BK0 := k_
    clear k_
    have k_ := blk_below BK1 hb
    clear BK1
    have BK1 := k_
    clear k_
    have k_ := blk_below BK2 hb
    clear BK2
    have BK2 := k_
    clear k_
    have k_ := H_mA0.out _ _ hb HA0
    clear HA0
    have HA0 := k_
    clear k_
    have k_ := H_mA1.out _ _ hb HA1
    clear HA1
    have HA1 := k_
    clear k_
    have k_ := H_mA2.out _ _ hb HA2
    clear HA2
    have HA2 := k_
    clear k_
    have k_ := H_mR0.out _ _ _ _ _ _ hb HX0
    clear HX0
    have HX0 := k_
    clear k_
    have k_ := blk_below BX0 hb
    clear BX0
    have BX0 := k_
    clear k_
    have k_ := H_mR1.out _ _ _ _ _ _ _ _ hb HX1
    clear HX1
    have HX1 := k_
    clear k_
    have k_ := blk_below BX1 hb
    clear BX1
    have BX1 := k_
    clear k_
    clear hb
    go_upto_region 15 with fail
    obtain ⟨V10, hWW⟩ : ∃ x : World, x = V9.alloc (.cells #[.slice y20 n20 y2c0, .bool x21, .bool x22, .bool x23, .bool x24, .slice y25 n25 y2c5, .int .i64 x26, .int .i64 x27, .slice y28 n28 y2c8] 40) := ⟨_, rfl⟩
    have hb : Below V9.heap.size V9 V10 := by rw [hWW]; exact below_alloc (Below.refl _ _) _
    have BX2 : V10.heap[V9.heap.size]? = some (.cells #[.slice y20 n20 y2c0, .bool x21, .bool x22, .bool x23, .bool x24, .slice y25 n25 y2c5, .int .i64 x26, .int .i64 x27, .slice y28 n28 y2c8] 40 (0, 0)) := by rw [hWW]; exact blk_new _ _
    rw [← hWW]
    clear hWW
    obtain ⟨h2, hh2⟩ : ∃ g, g = V9.heap.size := ⟨_, rfl⟩
    rw [← hh2] at BX2 ⊢
    clear hh2
    have k_ := below_step HB hb
    clear HB
    have HB := k_
    clear k_
    have k_ := blk_below BK0 hb
    clear BK0
    have BK0 := k_
    clear k_
    have k_ := blk_below BK1 hb
    clear BK1
    have BK1 := k_
    clear k_
    have k_ := blk_below BK2 hb
    clear BK2
    have BK2 := k_
    clear k_
    have k_ := H_mA0.out _ _ hb HA0
    clear HA0
    have HA0 := k_
    clear k_
    have k_ := H_mA1.out _ _ hb HA1
    clear HA1
    have HA1 := k_
    clear k_
    have k_ := H_mA2.out _ _ hb HA2
    clear HA2
    have HA2 := k_
    clear k_
    have k_ := H_mR0.out _ _ _ _ _ _ hb HX0
    clear HX0
    have HX0 := k_
    clear k_
    have k_ := blk_below BX0 hb
    clear BX0
    have BX0 := k_
    clear k_
    have k_ := H_mR1.out _ _ _ _ _ _ _ _ hb HX1
    clear HX1
    have HX1 := k_
    clear k_
    have k_ := blk_below BX1 hb
    clear BX1
    have BX1 := k_
    clear k_
    have k_ := H_mR2.out _ _ _ _ _ _ _ _ hb HX2
    clear HX2
    have HX2 := k_
    clear k_
    clear hb
    have z0_0 : V10.cell? ⟨h0, 0, none⟩ = some (.slice y00 n00 y0c0) := (blk_cell BX0 0).trans rfl
    have z0_1 : V10.cell? ⟨h0, 1, none⟩ = some (.slice y01 n01 y0c1) := (blk_cell BX0 1).trans rfl
    have z1_0 : V10.cell? ⟨h1, 0, none⟩ = some (.slice y10 n10 y1c0) := (blk_cell BX1 0).trans rfl
    have z1_1 : V10.cell? ⟨h1, 1, none⟩ = some (.bool x11) := (blk_cell BX1 1).trans rfl
    have z1_2 : V10.cell? ⟨h1, 2, none⟩ = some (.bool x12) := (blk_cell BX1 2).trans rfl
    have z1_3 : V10.cell? ⟨h1, 3, none⟩ = some (.bool x13) := (blk_cell BX1 3).trans rfl
    have z1_4 : V10.cell? ⟨h1, 4, none⟩ = some (.bool x14) := (blk_cell BX1 4).trans rfl
    have z1_5 : V10.cell? ⟨h1, 5, none⟩ = some (.slice y15 n15 y1c5) := (blk_cell BX1 5).trans rfl
    have z1_6 : V10.cell? ⟨h1, 6, none⟩ = some (.int .i64 x16) := (blk_cell BX1 6).trans rfl
    have z1_7 : V10.cell? ⟨h1, 7, none⟩ = some (.int .i64 x17) := (blk_cell BX1 7).trans rfl
    have z1_8 : V10.cell? ⟨h1, 8, none⟩ = some (.slice y18 n18 y1c8) := (blk_cell BX1 8).trans rfl
    have z2_0 : V10.cell? ⟨h2, 0, none⟩ = some (.slice y20 n20 y2c0) := (blk_cell BX2 0).trans rfl
    have z2_1 : V10.cell? ⟨h2, 1, none⟩ = some (.bool x21) := (blk_cell BX2 1).trans rfl
    have z2_2 : V10.cell? ⟨h2, 2, none⟩ = some (.bool x22) := (blk_cell BX2 2).trans rfl
    have z2_3 : V10.cell? ⟨h2, 3, none⟩ = some (.bool x23) := (blk_cell BX2 3).trans rfl
    have z2_4 : V10.cell? ⟨h2, 4, none⟩ = some (.bool x24) := (blk_cell BX2 4).trans rfl
    have z2_5 : V10.cell? ⟨h2, 5, none⟩ = some (.slice y25 n25 y2c5) := (blk_cell BX2 5).trans rfl
    have z2_6 : V10.cell? ⟨h2, 6, none⟩ = some (.int .i64 x26) := (blk_cell BX2 6).trans rfl
    have z2_7 : V10.cell? ⟨h2, 7, none⟩ = some (.int .i64 x27) := (blk_cell BX2 7).trans rfl
    have z2_8 : V10.cell? ⟨h2, 8, none⟩ = some (.slice y28 n28 y2c8) := (blk_cell BX2 8).trans rfl
    go_wp2_with fail
    refine (H_himpl.out _ _ _ _ _ _ _ _ _ _ _ _ _ _ _ _ _ HX0 HX1 HX2).mono ?_
    rintro e V11 ⟨rfl, hb⟩
    clear z0_0 z0_1 z1_0 z1_1 z1_2 z1_3 z1_4 z1_5 z1_6 z1_7 z1_8 z2_0 z2_1 z2_2 z2_3 z2_4 z2_5 z2_6 z2_7 z2_8
    have k_ := below_step HB hb
    clear HB
    have HB := k_
    clear k_
    have k_ := blk_below BK0 hb
    clear BK0
    have BK0 := k_
    clear k_
    have k_ := blk_below BK1 hb
    clear BK1
    have BK1 := k_
    clear k_
    have k_ := blk_below BK2 hb
    clear BK2
    have BK2 := k_
    clear k_
    have k_ := H_mA0.out _ _ hb HA0
    clear HA0
    have HA0 := k_
    clear k_
    have k_ := H_mA1.out _ _ hb HA1
    clear HA1
    have HA1 := k_
    clear k_
    have k_ := H_mA2.out _ _ hb HA2
    clear HA2
    have HA2 := k_
    clear k_
    have k_ := H_mR0.out _ _ _ _ _ _ hb HX0
    clear HX0
    have HX0 := k_
    clear k_
    have k_ := blk_below BX0 hb
    clear BX0
    have BX0 := k_
    clear k_
    have k_ := H_mR1.out _ _ _ _ _ _ _ _ hb HX1
    clear HX1
    have HX1 := k_
    clear k_
    have k_ := blk_below BX1 hb
    clear BX1
    have BX1 := k_
    clear k_
    have k_ := H_mR2.out _ _ _ _ _ _ _ _ hb HX2
    clear HX2
    have HX2 := k_
    clear k_
    have k_ := blk_below BX2 hb
    clear BX2
    have BX2 := k_
    clear k_
    clear hb
    have hbb : (b != b) = false := by simp
    go_upto_region 18 with fail
    have HW := Below.refl V11.heap.size V11
    go_cut [52] (fun s52 wx => s52 = .bool false ∧ Below V11.heap.size V11 wx)
    case first =>
      have HK : ∀ w1 : World, Below V11.heap.size V11 w1 → w1.cell? ⟨h0, 0, none⟩ = some (.slice y00 n00 y0c0) ∧ w1.cell? ⟨h0, 1, none⟩ = some (.slice y01 n01 y0c1) ∧ w1.cell? ⟨g0, 0, none⟩ = some (.slice a00 n00 a0c0) ∧ w1.cell? ⟨g0, 1, none⟩ = some (.slice a01 n01 a0c1) ∧ Below V11.heap.size V11 w1 := fun w1 hb => ⟨(blk_cell (blk_below BX0 hb) 0).trans rfl, (blk_cell (blk_below BX0 hb) 1).trans rfl, (blk_cell (blk_below BK0 hb) 0).trans rfl, (blk_cell (blk_below BK0 hb) 1).trans rfl, hb⟩
      have HK := Aside0.mk HK
      go_region_held3 (fun w1 => w1.cell? ⟨h0, 0, none⟩ = some (.slice y00 n00 y0c0) ∧ w1.cell? ⟨h0, 1, none⟩ = some (.slice y01 n01 y0c1) ∧ w1.cell? ⟨g0, 0, none⟩ = some (.slice a00 n00 a0c0) ∧ w1.cell? ⟨g0, 1, none⟩ = some (.slice a01 n01 a0c1) ∧ Below V11.heap.size V11 w1) (((with_reducible refine HK.out _ ?_); (repeat (with_reducible first | assumption | apply below_drew1 | apply below_alloc))))
        (first
          | (go_at_call 20; (with_reducible refine (H_hto0.out _ (H_mA0.out _ _ (by (repeat (with_reducible first | assumption | apply below_drew1 | apply below_alloc))) HA0)).mono ?_); rintro e w' ⟨t00, t0c0, t01, t0c1, rfl, hRn, hb⟩; (try (have hR0 := H_mR0.out _ _ _ _ _ _ hb hR0)); (try (have hR1 := H_mR1.out _ _ _ _ _ _ _ _ hb hR1)); (try (have hR2 := H_mR2.out _ _ _ _ _ _ _ _ hb hR2)); have hR0 := hRn; have HBk : Below V11.heap.size V11 w' := below_step (by (repeat (with_reducible first | assumption | apply below_drew1 | apply below_alloc))) hb)
          | (go_at_call 22; refine (H_heq0.out _ _ _ _ _ _ _ _ _ (H_mR0.out _ _ _ _ _ _ HBk HX0) hR0).mono ?_; rintro e w' ⟨rfl, hb⟩; have HBk : Below V11.heap.size V11 w' := below_step (by (repeat (with_reducible first | assumption | apply below_drew1 | apply below_alloc))) hb)
        )
      all_goals
        go_wp2_with fail
        go_meet
        exact ⟨rfl, by with_reducible assumption⟩
    case rest =>
      obtain ⟨rfl, hb⟩ := hcut
      obtain ⟨V12, hWW⟩ : ∃ x : World, x = wc := ⟨_, rfl⟩
      rw [← hWW] at hb ⊢
      clear hWW HW
      have k_ := below_step HB hb
      clear HB
      have HB := k_
      clear k_
      have k_ := blk_below BK0 hb
      clear BK0
      have BK0 := k_
      clear k_
      have k_ := blk_below BK1 hb
      clear BK1
      have BK1 := k_
      clear k_
      have k_ := blk_below BK2 hb
      clear BK2
      have BK2 := k_
      clear k_
      have k_ := H_mA0.out _ _ hb HA0
      clear HA0
      have HA0 := k_
      clear k_
      have k_ := H_mA1.out _ _ hb HA1
      clear HA1
      have HA1 := k_
      clear k_
      have k_ := H_mA2.out _ _ hb HA2
      clear HA2
      have HA2 := k_
      clear k_
      have k_ := H_mR0.out _ _ _ _ _ _ hb HX0
      clear HX0
      have HX0 := k_
      clear k_
      have k_ := blk_below BX0 hb
      clear BX0
      have BX0 := k_
      clear k_
      have k_ := H_mR1.out _ _ _ _ _ _ _ _ hb HX1
      clear HX1
      have HX1 := k_
      clear k_
      have k_ := blk_below BX1 hb
      clear BX1
      have BX1 := k_
      clear k_
      have k_ := H_mR2.out _ _ _ _ _ _ _ _ hb HX2
      clear HX2
      have HX2 := k_
      clear k_
      have k_ := blk_below BX2 hb
      clear BX2
      have BX2 := k_
      clear k_
      clear hb
      go_upto_region 20 with fail
      have HW := Below.refl V12.heap.size V12
      go_cut [57] (fun s57 wx => s57 = .bool false ∧ Below V12.heap.size V12 wx)
      case first =>
        have HK : ∀ w1 : World, Below V12.heap.size V12 w1 → w1.cell? ⟨h1, 0, none⟩ = some (.slice y10 n10 y1c0) ∧ w1.cell? ⟨h1, 1, none⟩ = some (.bool x11) ∧ w1.cell? ⟨h1, 2, none⟩ = some (.bool x12) ∧ w1.cell? ⟨h1, 3, none⟩ = some (.bool x13) ∧ w1.cell? ⟨h1, 4, none⟩ = some (.bool x14) ∧ w1.cell? ⟨h1, 5, none⟩ = some (.slice y15 n15 y1c5) ∧ w1.cell? ⟨h1, 6, none⟩ = some (.int .i64 x16) ∧ w1.cell? ⟨h1, 7, none⟩ = some (.int .i64 x17) ∧ w1.cell? ⟨h1, 8, none⟩ = some (.slice y18 n18 y1c8) ∧ w1.cell? ⟨g1, 0, none⟩ = some (.slice a10 n10 a1c0) ∧ w1.cell? ⟨g1, 1, none⟩ = some (.bool x11) ∧ w1.cell? ⟨g1, 2, none⟩ = some (.bool x12) ∧ w1.cell? ⟨g1, 3, none⟩ = some (.bool x13) ∧ w1.cell? ⟨g1, 4, none⟩ = some (.bool x14) ∧ w1.cell? ⟨g1, 5, none⟩ = some (.slice a15 n15 a1c5) ∧ w1.cell? ⟨g1, 6, none⟩ = some (.int .i64 x16) ∧ w1.cell? ⟨g1, 7, none⟩ = some (.int .i64 x17) ∧ w1.cell? ⟨g1, 8, none⟩ = some (.slice a18 n18 a1c8) ∧ Below V12.heap.size V12 w1 := fun w1 hb => ⟨(blk_cell (blk_below BX1 hb) 0).trans rfl, (blk_cell (blk_below BX1 hb) 1).trans rfl, (blk_cell (blk_below BX1 hb) 2).trans rfl, (blk_cell (blk_below BX1 hb) 3).trans rfl, (blk_cell (blk_below BX1 hb) 4).trans rfl, (blk_cell (blk_below BX1 hb) 5).trans rfl, (blk_cell (blk_below BX1 hb) 6).trans rfl, (blk_cell (blk_below BX1 hb) 7).trans rfl, (blk_cell (blk_below BX1 hb) 8).trans rfl, (blk_cell (blk_below BK1 hb) 0).trans rfl, (blk_cell (blk_below BK1 hb) 1).trans rfl, (blk_cell (blk_below BK1 hb) 2).trans rfl, (blk_cell (blk_below BK1 hb) 3).trans rfl, (blk_cell (blk_below BK1 hb) 4).trans rfl, (blk_cell (blk_below BK1 hb) 5).trans rfl, (blk_cell (blk_below BK1 hb) 6).trans rfl, (blk_cell (blk_below BK1 hb) 7).trans rfl, (blk_cell (blk_below BK1 hb) 8).trans rfl, hb⟩
        have HK := Aside0.mk HK
        go_region_held3 (fun w1 => w1.cell? ⟨h1, 0, none⟩ = some (.slice y10 n10 y1c0) ∧ w1.cell? ⟨h1, 1, none⟩ = some (.bool x11) ∧ w1.cell? ⟨h1, 2, none⟩ = some (.bool x12) ∧ w1.cell? ⟨h1, 3, none⟩ = some (.bool x13) ∧ w1.cell? ⟨h1, 4, none⟩ = some (.bool x14) ∧ w1.cell? ⟨h1, 5, none⟩ = some (.slice y15 n15 y1c5) ∧ w1.cell? ⟨h1, 6, none⟩ = some (.int .i64 x16) ∧ w1.cell? ⟨h1, 7, none⟩ = some (.int .i64 x17) ∧ w1.cell? ⟨h1, 8, none⟩ = some (.slice y18 n18 y1c8) ∧ w1.cell? ⟨g1, 0, none⟩ = some (.slice a10 n10 a1c0) ∧ w1.cell? ⟨g1, 1, none⟩ = some (.bool x11) ∧ w1.cell? ⟨g1, 2, none⟩ = some (.bool x12) ∧ w1.cell? ⟨g1, 3, none⟩ = some (.bool x13) ∧ w1.cell? ⟨g1, 4, none⟩ = some (.bool x14) ∧ w1.cell? ⟨g1, 5, none⟩ = some (.slice a15 n15 a1c5) ∧ w1.cell? ⟨g1, 6, none⟩ = some (.int .i64 x16) ∧ w1.cell? ⟨g1, 7, none⟩ = some (.int .i64 x17) ∧ w1.cell? ⟨g1, 8, none⟩ = some (.slice a18 n18 a1c8) ∧ Below V12.heap.size V12 w1) (((with_reducible refine HK.out _ ?_); (repeat (with_reducible first | assumption | apply below_drew1 | apply below_alloc))))
          (first
            | (go_at_call 30; (with_reducible refine (H_hto1.out _ (H_mA1.out _ _ (by (repeat (with_reducible first | assumption | apply below_drew1 | apply below_alloc))) HA1)).mono ?_); rintro e w' ⟨t10, t1c0, t15, t1c5, t18, t1c8, rfl, hRn, hb⟩; (try (have hR0 := H_mR0.out _ _ _ _ _ _ hb hR0)); (try (have hR1 := H_mR1.out _ _ _ _ _ _ _ _ hb hR1)); (try (have hR2 := H_mR2.out _ _ _ _ _ _ _ _ hb hR2)); have hR1 := hRn; have HBk : Below V12.heap.size V12 w' := below_step (by (repeat (with_reducible first | assumption | apply below_drew1 | apply below_alloc))) hb)
            | (go_at_call 32; refine (H_heq1.out _ _ _ _ _ _ _ _ _ _ _ _ _ (H_mR1.out _ _ _ _ _ _ _ _ HBk HX1) hR1).mono ?_; rintro e w' ⟨rfl, hb⟩; have HBk : Below V12.heap.size V12 w' := below_step (by (repeat (with_reducible first | assumption | apply below_drew1 | apply below_alloc))) hb)
          )
        all_goals
          go_wp2_with fail
          go_meet
          exact ⟨rfl, by with_reducible assumption⟩
      case rest =>
        obtain ⟨rfl, hb⟩ := hcut
        obtain ⟨V13, hWW⟩ : ∃ x : World, x = wc := ⟨_, rfl⟩
        rw [← hWW] at hb ⊢
        clear hWW HW
        have k_ := below_step HB hb
        clear HB
        have HB := k_
        clear k_
        have k_ := blk_below BK0 hb
        clear BK0
        have BK0 := k_
        clear k_
        have k_ := blk_below BK1 hb
        clear BK1
        have BK1 := k_
        clear k_
        have k_ := blk_below BK2 hb
        clear BK2
        have BK2 := k_
        clear k_
        have k_ := H_mA0.out _ _ hb HA0
        clear HA0
        have HA0 := k_
        clear k_
        have k_ := H_mA1.out _ _ hb HA1
        clear HA1
        have HA1 := k_
        clear k_
        have k_ := H_mA2.out _ _ hb HA2
        clear HA2
        have HA2 := k_
        clear k_
        have k_ := H_mR0.out _ _ _ _ _ _ hb HX0
        clear HX0
        have HX0 := k_
        clear k_
        have k_ := blk_below BX0 hb
        clear BX0
        have BX0 := k_
        clear k_
        have k_ := H_mR1.out _ _ _ _ _ _ _ _ hb HX1
        clear HX1
        have HX1 := k_
        clear k_
        have k_ := blk_below BX1 hb
        clear BX1
        have BX1 := k_
        clear k_
        have k_ := H_mR2.out _ _ _ _ _ _ _ _ hb HX2
        clear HX2
        have HX2 := k_
        clear k_
        have k_ := blk_below BX2 hb
        clear BX2
        have BX2 := k_
        clear k_
        clear hb
        go_upto_region 22 with fail
        have HW := Below.refl V13.heap.size V13
        go_cut [62] (fun s62 wx => s62 = .bool false ∧ Below V13.heap.size V13 wx)
        case first =>
          have HK : ∀ w1 : World, Below V13.heap.size V13 w1 → w1.cell? ⟨h2, 0, none⟩ = some (.slice y20 n20 y2c0) ∧ w1.cell? ⟨h2, 1, none⟩ = some (.bool x21) ∧ w1.cell? ⟨h2, 2, none⟩ = some (.bool x22) ∧ w1.cell? ⟨h2, 3, none⟩ = some (.bool x23) ∧ w1.cell? ⟨h2, 4, none⟩ = some (.bool x24) ∧ w1.cell? ⟨h2, 5, none⟩ = some (.slice y25 n25 y2c5) ∧ w1.cell? ⟨h2, 6, none⟩ = some (.int .i64 x26) ∧ w1.cell? ⟨h2, 7, none⟩ = some (.int .i64 x27) ∧ w1.cell? ⟨h2, 8, none⟩ = some (.slice y28 n28 y2c8) ∧ w1.cell? ⟨g2, 0, none⟩ = some (.slice a20 n20 a2c0) ∧ w1.cell? ⟨g2, 1, none⟩ = some (.bool x21) ∧ w1.cell? ⟨g2, 2, none⟩ = some (.bool x22) ∧ w1.cell? ⟨g2, 3, none⟩ = some (.bool x23) ∧ w1.cell? ⟨g2, 4, none⟩ = some (.bool x24) ∧ w1.cell? ⟨g2, 5, none⟩ = some (.slice a25 n25 a2c5) ∧ w1.cell? ⟨g2, 6, none⟩ = some (.int .i64 x26) ∧ w1.cell? ⟨g2, 7, none⟩ = some (.int .i64 x27) ∧ w1.cell? ⟨g2, 8, none⟩ = some (.slice a28 n28 a2c8) ∧ Below V13.heap.size V13 w1 := fun w1 hb => ⟨(blk_cell (blk_below BX2 hb) 0).trans rfl, (blk_cell (blk_below BX2 hb) 1).trans rfl, (blk_cell (blk_below BX2 hb) 2).trans rfl, (blk_cell (blk_below BX2 hb) 3).trans rfl, (blk_cell (blk_below BX2 hb) 4).trans rfl, (blk_cell (blk_below BX2 hb) 5).trans rfl, (blk_cell (blk_below BX2 hb) 6).trans rfl, (blk_cell (blk_below BX2 hb) 7).trans rfl, (blk_cell (blk_below BX2 hb) 8).trans rfl, (blk_cell (blk_below BK2 hb) 0).trans rfl, (blk_cell (blk_below BK2 hb) 1).trans rfl, (blk_cell (blk_below BK2 hb) 2).trans rfl, (blk_cell (blk_below BK2 hb) 3).trans rfl, (blk_cell (blk_below BK2 hb) 4).trans rfl, (blk_cell (blk_below BK2 hb) 5).trans rfl, (blk_cell (blk_below BK2 hb) 6).trans rfl, (blk_cell (blk_below BK2 hb) 7).trans rfl, (blk_cell (blk_below BK2 hb) 8).trans rfl, hb⟩
          have HK := Aside0.mk HK
          go_region_held3 (fun w1 => w1.cell? ⟨h2, 0, none⟩ = some (.slice y20 n20 y2c0) ∧ w1.cell? ⟨h2, 1, none⟩ = some (.bool x21) ∧ w1.cell? ⟨h2, 2, none⟩ = some (.bool x22) ∧ w1.cell? ⟨h2, 3, none⟩ = some (.bool x23) ∧ w1.cell? ⟨h2, 4, none⟩ = some (.bool x24) ∧ w1.cell? ⟨h2, 5, none⟩ = some (.slice y25 n25 y2c5) ∧ w1.cell? ⟨h2, 6, none⟩ = some (.int .i64 x26) ∧ w1.cell? ⟨h2, 7, none⟩ = some (.int .i64 x27) ∧ w1.cell? ⟨h2, 8, none⟩ = some (.slice y28 n28 y2c8) ∧ w1.cell? ⟨g2, 0, none⟩ = some (.slice a20 n20 a2c0) ∧ w1.cell? ⟨g2, 1, none⟩ = some (.bool x21) ∧ w1.cell? ⟨g2, 2, none⟩ = some (.bool x22) ∧ w1.cell? ⟨g2, 3, none⟩ = some (.bool x23) ∧ w1.cell? ⟨g2, 4, none⟩ = some (.bool x24) ∧ w1.cell? ⟨g2, 5, none⟩ = some (.slice a25 n25 a2c5) ∧ w1.cell? ⟨g2, 6, none⟩ = some (.int .i64 x26) ∧ w1.cell? ⟨g2, 7, none⟩ = some (.int .i64 x27) ∧ w1.cell? ⟨g2, 8, none⟩ = some (.slice a28 n28 a2c8) ∧ Below V13.heap.size V13 w1) (((with_reducible refine HK.out _ ?_); (repeat (with_reducible first | assumption | apply below_drew1 | apply below_alloc))))
            (first
              | (go_at_call 30; (with_reducible refine (H_hto2.out _ (H_mA2.out _ _ (by (repeat (with_reducible first | assumption | apply below_drew1 | apply below_alloc))) HA2)).mono ?_); rintro e w' ⟨t20, t2c0, t25, t2c5, t28, t2c8, rfl, hRn, hb⟩; (try (have hR0 := H_mR0.out _ _ _ _ _ _ hb hR0)); (try (have hR1 := H_mR1.out _ _ _ _ _ _ _ _ hb hR1)); (try (have hR2 := H_mR2.out _ _ _ _ _ _ _ _ hb hR2)); have hR2 := hRn; have HBk : Below V13.heap.size V13 w' := below_step (by (repeat (with_reducible first | assumption | apply below_drew1 | apply below_alloc))) hb)
              | (go_at_call 32; refine (H_heq2.out _ _ _ _ _ _ _ _ _ _ _ _ _ (H_mR2.out _ _ _ _ _ _ _ _ HBk HX2) hR2).mono ?_; rintro e w' ⟨rfl, hb⟩; have HBk : Below V13.heap.size V13 w' := below_step (by (repeat (with_reducible first | assumption | apply below_drew1 | apply below_alloc))) hb)
            )
          all_goals
            go_wp2_with fail
            go_meet
            exact ⟨rfl, by with_reducible assumption⟩
        case rest =>
          obtain ⟨rfl, hb⟩ := hcut
          obtain ⟨V14, hWW⟩ : ∃ x : World, x = wc := ⟨_, rfl⟩
          rw [← hWW] at hb ⊢
          clear hWW HW
          have k_ := below_step HB hb
          clear HB
          have HB := k_
          clear k_
          have k_ := blk_below BK0 hb
          clear BK0
          have BK0 := k_
          clear k_
          have k_ := blk_below BK1 hb
          clear BK1
          have BK1 := k_
          clear k_
          have k_ := blk_below BK2 hb
          clear BK2
          have BK2 := k_
          clear k_
          have k_ := H_mA0.out _ _ hb HA0
          clear HA0
          have HA0 := k_
          clear k_
          have k_ := H_mA1.out _ _ hb HA1
          clear HA1
          have HA1 := k_
          clear k_
          have k_ := H_mA2.out _ _ hb HA2
          clear HA2
          have HA2 := k_
          clear k_
          have k_ := H_mR0.out _ _ _ _ _ _ hb HX0
          clear HX0
          have HX0 := k_
          clear k_
          have k_ := blk_below BX0 hb
          clear BX0
          have BX0 := k_
          clear k_
          have k_ := H_mR1.out _ _ _ _ _ _ _ _ hb HX1
          clear HX1
          have HX1 := k_
          clear k_
          have k_ := blk_below BX1 hb
          clear BX1
          have BX1 := k_
          clear k_
          have k_ := H_mR2.out _ _ _ _ _ _ _ _ hb HX2
          clear HX2
          have HX2 := k_
          clear k_
          have k_ := blk_below BX2 hb
          clear BX2
          have BX2 := k_
          clear k_
          clear hb
          go_wp2
          go_ret
          exact ⟨rfl, HB⟩
end Go.Proofs.Ytfeglenlpnhofaa.Mine
