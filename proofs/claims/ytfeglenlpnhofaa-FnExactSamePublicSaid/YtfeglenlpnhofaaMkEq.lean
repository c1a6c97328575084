/- eqMach (function 32) at two machines that hold the same: true, and nothing that was in memory changes. -/
import Derived.Test.YtfeglenlpnhofaaMkSame
import Derived.Test.YtfeglenlpnhofaaLoops
namespace Go.Proofs.Ytfeglenlpnhofaa.Mk
open Go.RowKit Go.Proofs.YtfeglenlpnhofaaW.PrintWords Go.Proofs.YtfeglenlpnhofaaW.PrintLast Go.Proofs.YtfeglenlpnhofaaW.PrintMore Go.Proofs.Ytfeglenlpnhofaa.Mine

set_option maxRecDepth 100000 in
set_option maxHeartbeats 4000000 in
theorem eqMach_walk (n0 n5 n8 : Nat) (z c hz hc : Bool) (pc st : Int) (a0 a5 a8 b0 b5 b8 : Option Addr) (c0 c5 c8 d0 d5 d8 : Nat) (R0 R5 R8 S0 S5 S8 : World → Prop)
    (m0 : ∀ w w' : World, Below w.heap.size w w' → R5 w → R5 w') (m1 : ∀ w w' : World, Below w.heap.size w w' → S5 w → S5 w') (m2 : ∀ w w' : World, Below w.heap.size w w' → R8 w → R8 w') (m3 : ∀ w w' : World, Below w.heap.size w w' → S8 w → S8 w')
    (m4 : ∀ w w' : World, Below w.heap.size w w' → R0 w → R0 w') (m5 : ∀ w w' : World, Below w.heap.size w w' → S0 w → S0 w')
    (e0 : ∀ w : World, R0 w → S0 w → Calls Try.prog 61 #[.slice a0 n0 c0, .slice b0 n0 d0] w fun e w' => e = .returned (.bool true) ∧ Below w.heap.size w w')
    (e5 : ∀ w : World, R5 w → S5 w → Calls Try.prog 62 #[.slice a5 n5 c5, .slice b5 n5 d5] w fun e w' => e = .returned (.bool true) ∧ Below w.heap.size w w')
    (e8 : ∀ w : World, R8 w → S8 w → Calls Try.prog 63 #[.slice a8 n8 c8, .slice b8 n8 d8] w fun e w' => e = .returned (.bool true) ∧ Below w.heap.size w w')
    (w : World) (r0 : R0 w) (s0 : S0 w) (r5 : R5 w) (s5 : S5 w) (r8 : R8 w) (s8 : S8 w) :
    Calls Try.prog 32 #[.agg #[.slice a0 n0 c0, .bool z, .bool c, .bool hz, .bool hc, .slice a5 n5 c5, .int .i64 pc, .int .i64 st, .slice a8 n8 c8], .agg #[.slice b0 n0 d0, .bool z, .bool c, .bool hz, .bool hc, .slice b5 n5 d5, .int .i64 pc, .int .i64 st, .slice b8 n8 d8]] w fun e w' => e = .returned (.bool true) ∧ Below w.heap.size w w' := by
  have Hm0 := Aside0.mk m0
  have Hm1 := Aside0.mk m1
  have Hm2 := Aside0.mk m2
  have Hm3 := Aside0.mk m3
  have Hm4 := Aside0.mk m4
  have Hm5 := Aside0.mk m5
  have He0 := Aside0.mk e0
  have He5 := Aside0.mk e5
  have He8 := Aside0.mk e8
  clear m0 m1 m2 m3 m4 m5 e0 e5 e8
  have HB := Below.refl w.heap.size w
  have kz : (z != z) = false := by simp
  have kc : (c != c) = false := by simp
  have khz : (hz != hz) = false := by simp
  have khc : (hc != hc) = false := by simp
  have kpc : (pc != pc) = false := by simp
  have kst : (st != st) = false := by simp
  go_enter Try.func32, Try.ntmps32
  go_upto_region 1 with (first | ((with_reducible refine gate_dst (N := 2) rfl ?_); refine box_event ?hg (N := 2) ?hd (cs := #[.slice a0 n0 c0, .bool z, .bool c, .bool hz, .bool hc, .slice a5 n5 c5, .int .i64 pc, .int .i64 st, .slice a8 n8 c8]) (t := 40) ?hr ?_; (case hd => rfl); (case hg => rfl); (case hr => first | (go_simp; done) | (go_simp; rfl)); intro g0 hg W0 hbox hb; have kb_ := below_step HB hb; clear HB; have HB := kb_; clear kb_ hb hg; have BK0 := hbox; clear hbox) | ((with_reducible refine gate_dst (N := 3) rfl ?_); refine box_event ?hg (N := 3) ?hd (cs := #[.slice b0 n0 d0, .bool z, .bool c, .bool hz, .bool hc, .slice b5 n5 d5, .int .i64 pc, .int .i64 st, .slice b8 n8 d8]) (t := 40) ?hr ?_; (case hd => rfl); (case hg => rfl); (case hr => first | (go_simp; done) | (go_simp; rfl)); intro g1 hg W1 hbox hb; have k0_ := blk_below BK0 hb; clear BK0; have BK0 := k0_; clear k0_; have kb_ := below_step HB hb; clear HB; have HB := kb_; clear kb_ hb hg; have BK1 := hbox; clear hbox))
  have r0' := Hm4.out _ _ HB r0
  have s0' := Hm5.out _ _ HB s0
  have r5' := Hm0.out _ _ HB r5
  have s5' := Hm1.out _ _ HB s5
  have r8' := Hm2.out _ _ HB r8
  have s8' := Hm3.out _ _ HB s8
  clear r0 s0 r5 s5 r8 s8
  have z0 : W1.cell? ⟨g0, 0, none⟩ = some (.slice a0 n0 c0) := (blk_cell BK0 0).trans rfl
  have z1 : W1.cell? ⟨g0, 1, none⟩ = some (.bool z) := (blk_cell BK0 1).trans rfl
  have z2 : W1.cell? ⟨g0, 2, none⟩ = some (.bool c) := (blk_cell BK0 2).trans rfl
  have z3 : W1.cell? ⟨g0, 3, none⟩ = some (.bool hz) := (blk_cell BK0 3).trans rfl
  have z4 : W1.cell? ⟨g0, 4, none⟩ = some (.bool hc) := (blk_cell BK0 4).trans rfl
  have z5 : W1.cell? ⟨g0, 5, none⟩ = some (.slice a5 n5 c5) := (blk_cell BK0 5).trans rfl
  have z6 : W1.cell? ⟨g0, 6, none⟩ = some (.int .i64 pc) := (blk_cell BK0 6).trans rfl
  have z7 : W1.cell? ⟨g0, 7, none⟩ = some (.int .i64 st) := (blk_cell BK0 7).trans rfl
  have z8 : W1.cell? ⟨g0, 8, none⟩ = some (.slice a8 n8 c8) := (blk_cell BK0 8).trans rfl
  have y0 : W1.cell? ⟨g1, 0, none⟩ = some (.slice b0 n0 d0) := (blk_cell BK1 0).trans rfl
  have y1 : W1.cell? ⟨g1, 1, none⟩ = some (.bool z) := (blk_cell BK1 1).trans rfl
  have y2 : W1.cell? ⟨g1, 2, none⟩ = some (.bool c) := (blk_cell BK1 2).trans rfl
  have y3 : W1.cell? ⟨g1, 3, none⟩ = some (.bool hz) := (blk_cell BK1 3).trans rfl
  have y4 : W1.cell? ⟨g1, 4, none⟩ = some (.bool hc) := (blk_cell BK1 4).trans rfl
  have y5 : W1.cell? ⟨g1, 5, none⟩ = some (.slice b5 n5 d5) := (blk_cell BK1 5).trans rfl
  have y6 : W1.cell? ⟨g1, 6, none⟩ = some (.int .i64 pc) := (blk_cell BK1 6).trans rfl
  have y7 : W1.cell? ⟨g1, 7, none⟩ = some (.int .i64 st) := (blk_cell BK1 7).trans rfl
  have y8 : W1.cell? ⟨g1, 8, none⟩ = some (.slice b8 n8 d8) := (blk_cell BK1 8).trans rfl
  go_wp2_with fail
  refine (He0.out _ r0' s0').mono ?_
  rintro e V0 ⟨rfl, hb⟩
  clear z0 y0 z1 y1 z2 y2 z3 y3 z4 y4 z5 y5 z6 y6 z7 y7 z8 y8
  have k_ := blk_below BK0 hb
  clear BK0
  have BK0 := k_
  clear k_
  have k_ := blk_below BK1 hb
  clear BK1
  have BK1 := k_
  clear k_
  have k_ := below_step HB hb
  clear HB
  have HB := k_
  clear k_
  have k_ := Hm4.out _ _ hb r0'
  clear r0'
  have r0' := k_
  clear k_
  have k_ := Hm5.out _ _ hb s0'
  clear s0'
  have s0' := k_
  clear k_
  have k_ := Hm0.out _ _ hb r5'
  clear r5'
  have r5' := k_
  clear k_
  have k_ := Hm1.out _ _ hb s5'
  clear s5'
  have s5' := k_
  clear k_
  have k_ := Hm2.out _ _ hb r8'
  clear r8'
  have r8' := k_
  clear k_
  have k_ := Hm3.out _ _ hb s8'
  clear s8'
  have s8' := k_
  clear k_
  clear hb
  have z0 : V0.cell? ⟨g0, 0, none⟩ = some (.slice a0 n0 c0) := (blk_cell BK0 0).trans rfl
  have z1 : V0.cell? ⟨g0, 1, none⟩ = some (.bool z) := (blk_cell BK0 1).trans rfl
  have z2 : V0.cell? ⟨g0, 2, none⟩ = some (.bool c) := (blk_cell BK0 2).trans rfl
  have z3 : V0.cell? ⟨g0, 3, none⟩ = some (.bool hz) := (blk_cell BK0 3).trans rfl
  have z4 : V0.cell? ⟨g0, 4, none⟩ = some (.bool hc) := (blk_cell BK0 4).trans rfl
  have z5 : V0.cell? ⟨g0, 5, none⟩ = some (.slice a5 n5 c5) := (blk_cell BK0 5).trans rfl
  have z6 : V0.cell? ⟨g0, 6, none⟩ = some (.int .i64 pc) := (blk_cell BK0 6).trans rfl
  have z7 : V0.cell? ⟨g0, 7, none⟩ = some (.int .i64 st) := (blk_cell BK0 7).trans rfl
  have z8 : V0.cell? ⟨g0, 8, none⟩ = some (.slice a8 n8 c8) := (blk_cell BK0 8).trans rfl
  have y0 : V0.cell? ⟨g1, 0, none⟩ = some (.slice b0 n0 d0) := (blk_cell BK1 0).trans rfl
  have y1 : V0.cell? ⟨g1, 1, none⟩ = some (.bool z) := (blk_cell BK1 1).trans rfl
  have y2 : V0.cell? ⟨g1, 2, none⟩ = some (.bool c) := (blk_cell BK1 2).trans rfl
  have y3 : V0.cell? ⟨g1, 3, none⟩ = some (.bool hz) := (blk_cell BK1 3).trans rfl
  have y4 : V0.cell? ⟨g1, 4, none⟩ = some (.bool hc) := (blk_cell BK1 4).trans rfl
  have y5 : V0.cell? ⟨g1, 5, none⟩ = some (.slice b5 n5 d5) := (blk_cell BK1 5).trans rfl
  have y6 : V0.cell? ⟨g1, 6, none⟩ = some (.int .i64 pc) := (blk_cell BK1 6).trans rfl
  have y7 : V0.cell? ⟨g1, 7, none⟩ = some (.int .i64 st) := (blk_cell BK1 7).trans rfl
  have y8 : V0.cell? ⟨g1, 8, none⟩ = some (.slice b8 n8 d8) := (blk_cell BK1 8).trans rfl
  go_wp2_with fail
  refine (He5.out _ r5' s5').mono ?_
  rintro e V1 ⟨rfl, hb⟩
  clear z0 y0 z1 y1 z2 y2 z3 y3 z4 y4 z5 y5 z6 y6 z7 y7 z8 y8
  have k_ := blk_below BK0 hb
  clear BK0
  have BK0 := k_
  clear k_
  have k_ := blk_below BK1 hb
  clear BK1
  have BK1 := k_
  clear k_
  have k_ := below_step HB hb
  clear HB
  have HB := k_
  clear k_
  have k_ := Hm4.out _ _ hb r0'
  clear r0'
  have r0' := k_
  clear k_
  have k_ := Hm5.out _ _ hb s0'
  clear s0'
  have s0' := k_
  clear k_
  have k_ := Hm0.out _ _ hb r5'
  clear r5'
  have r5' := k_
  clear k_
  have k_ := Hm1.out _ _ hb s5'
  clear s5'
  have s5' := k_
  clear k_
  have k_ := Hm2.out _ _ hb r8'
  clear r8'
  have r8' := k_
  clear k_
  have k_ := Hm3.out _ _ hb s8'
  clear s8'
  have s8' := k_
  clear k_
  clear hb
  have z0 : V1.cell? ⟨g0, 0, none⟩ = some (.slice a0 n0 c0) := (blk_cell BK0 0).trans rfl
  have z1 : V1.cell? ⟨g0, 1, none⟩ = some (.bool z) := (blk_cell BK0 1).trans rfl
  have z2 : V1.cell? ⟨g0, 2, none⟩ = some (.bool c) := (blk_cell BK0 2).trans rfl
  have z3 : V1.cell? ⟨g0, 3, none⟩ = some (.bool hz) := (blk_cell BK0 3).trans rfl
  have z4 : V1.cell? ⟨g0, 4, none⟩ = some (.bool hc) := (blk_cell BK0 4).trans rfl
  have z5 : V1.cell? ⟨g0, 5, none⟩ = some (.slice a5 n5 c5) := (blk_cell BK0 5).trans rfl
  have z6 : V1.cell? ⟨g0, 6, none⟩ = some (.int .i64 pc) := (blk_cell BK0 6).trans rfl
  have z7 : V1.cell? ⟨g0, 7, none⟩ = some (.int .i64 st) := (blk_cell BK0 7).trans rfl
  have z8 : V1.cell? ⟨g0, 8, none⟩ = some (.slice a8 n8 c8) := (blk_cell BK0 8).trans rfl
  have y0 : V1.cell? ⟨g1, 0, none⟩ = some (.slice b0 n0 d0) := (blk_cell BK1 0).trans rfl
  have y1 : V1.cell? ⟨g1, 1, none⟩ = some (.bool z) := (blk_cell BK1 1).trans rfl
  have y2 : V1.cell? ⟨g1, 2, none⟩ = some (.bool c) := (blk_cell BK1 2).trans rfl
  have y3 : V1.cell? ⟨g1, 3, none⟩ = some (.bool hz) := (blk_cell BK1 3).trans rfl
  have y4 : V1.cell? ⟨g1, 4, none⟩ = some (.bool hc) := (blk_cell BK1 4).trans rfl
  have y5 : V1.cell? ⟨g1, 5, none⟩ = some (.slice b5 n5 d5) := (blk_cell BK1 5).trans rfl
  have y6 : V1.cell? ⟨g1, 6, none⟩ = some (.int .i64 pc) := (blk_cell BK1 6).trans rfl
  have y7 : V1.cell? ⟨g1, 7, none⟩ = some (.int .i64 st) := (blk_cell BK1 7).trans rfl
  have y8 : V1.cell? ⟨g1, 8, none⟩ = some (.slice b8 n8 d8) := (blk_cell BK1 8).trans rfl
  go_wp2_with fail
  refine (He8.out _ r8' s8').mono ?_
  rintro e V2 ⟨rfl, hb⟩
  clear z0 y0 z1 y1 z2 y2 z3 y3 z4 y4 z5 y5 z6 y6 z7 y7 z8 y8
  have k_ := blk_below BK0 hb
  clear BK0
  have BK0 := k_
  clear k_
  have k_ := blk_below BK1 hb
  clear BK1
  have BK1 := k_
  clear k_
  have k_ := below_step HB hb
  clear HB
  have HB := k_
  clear k_
  have k_ := Hm4.out _ _ hb r0'
  clear r0'
  have r0' := k_
  clear k_
  have k_ := Hm5.out _ _ hb s0'
  clear s0'
  have s0' := k_
  clear k_
  have k_ := Hm0.out _ _ hb r5'
  clear r5'
  have r5' := k_
  clear k_
  have k_ := Hm1.out _ _ hb s5'
  clear s5'
  have s5' := k_
  clear k_
  have k_ := Hm2.out _ _ hb r8'
  clear r8'
  have r8' := k_
  clear k_
  have k_ := Hm3.out _ _ hb s8'
  clear s8'
  have s8' := k_
  clear k_
  clear hb
  go_wp2
  go_ret
  exact ⟨rfl, HB⟩

/-- Two machines that hold the same lists. -/
theorem eqMach_calls (rs : List Int) (hs : List S35) (os : List S102)
    (z c hz hc : Bool) (pc st : Int) (a0 a5 a8 b0 b5 b8 : Option Addr) (c0 c5 c8 d0 d5 d8 : Nat) (w : World)
    (r0 : Kd.C (Kd.int .u64) w a0 rs.length rs) (r5 : Kd.C k35 w a5 hs.length hs) (r8 : Kd.C k102 w a8 os.length os)
    (s0 : Kd.C (Kd.int .u64) w b0 rs.length rs) (s5 : Kd.C k35 w b5 hs.length hs) (s8 : Kd.C k102 w b8 os.length os) :
    Calls Try.prog 32 #[.agg #[.slice a0 rs.length c0, .bool z, .bool c, .bool hz, .bool hc, .slice a5 hs.length c5, .int .i64 pc, .int .i64 st, .slice a8 os.length c8], .agg #[.slice b0 rs.length d0, .bool z, .bool c, .bool hz, .bool hc, .slice b5 hs.length d5, .int .i64 pc, .int .i64 st, .slice b8 os.length d8]] w
      fun e w' => e = .returned (.bool true) ∧ Below w.heap.size w w' :=
  eqMach_walk rs.length hs.length os.length z c hz hc pc st a0 a5 a8 b0 b5 b8 c0 c5 c8 d0 d5 d8
    (fun w => Kd.C (Kd.int .u64) w a0 rs.length rs) (fun w => Kd.C k35 w a5 hs.length hs) (fun w => Kd.C k102 w a8 os.length os)
    (fun w => Kd.C (Kd.int .u64) w b0 rs.length rs) (fun w => Kd.C k35 w b5 hs.length hs) (fun w => Kd.C k102 w b8 os.length os)
    (fun _ _ hb h => Kd.C_below h hb) (fun _ _ hb h => Kd.C_below h hb) (fun _ _ hb h => Kd.C_below h hb) (fun _ _ hb h => Kd.C_below h hb) (fun _ _ hb h => Kd.C_below h hb) (fun _ _ hb h => Kd.C_below h hb)
    (fun w h k => sameUint64S rs rs.length a0 b0 c0 d0 rfl w h k)
    (fun w h k => sameHeapS hs hs.length a5 b5 c5 d5 rfl w h k)
    (fun w h k => sameObsS os os.length a8 b8 c8 d8 rfl w h k)
    w r0 s0 r5 s5 r8 s8
end Go.Proofs.Ytfeglenlpnhofaa.Mk
