/- The contract of DrawJoinVals: the lines are the kit's print.sh's, written for this seat, under a namespace of this claim. -/
import Derived.Test.YtfeglenlpnhofaaJn0
import Derived.Test.YtfeglenlpnhofaaJn2
import Derived.Test.YtfeglenlpnhofaaJn3
namespace Go.Proofs.Ytfeglenlpnhofaa.Jn
open Go.RowKit Go.Proofs.YtfeglenlpnhofaaW.PrintWords Go.Proofs.YtfeglenlpnhofaaW.PrintLast Go.Proofs.YtfeglenlpnhofaaW.PrintMore
attribute [local go_sem] max2_int min2_int max_two min_two max_three min_three max_four min_four   -- for this text's walks alone
set_option linter.unusedVariables false
set_option linter.unusedSimpArgs false

/-! ### spec_DrawJoinVals: function 15 -/
mutual
def spec_DrawJoinVals.j0 : Nat → Int → List Int → Int → Int → Int → Bool → Int → Int → Int → Int → Int → Bool → Int → Int → Int → Int → Option (Int × Bool × Int × Int × Int × Int × Int × Bool × Int × Int × Int × Int)
  | 0, _, _, _, _, _, _, _, _, _, _, _, _, _, _, _, _ => none
  | k + 1, x7, x174000, x174001, x174002, x183000, x183001, x183002, x183003, x183004, x183005, x192000, x192001, x192002, x192003, x192004, x192005 => if x7 < 2 then (spec_DrawJoinVals.j1 k true x174000 x174001 x174002 x183000 x183001 x183002 x183003 x183004 x183005 x192000 x192001 x192002 x192003 x192004 x192005) else (spec_DrawJoinVals.j1 k (x7 == 4) x174000 x174001 x174002 x183000 x183001 x183002 x183003 x183004 x183005 x192000 x192001 x192002 x192003 x192004 x192005)
def spec_DrawJoinVals.j1 : Nat → Bool → List Int → Int → Int → Int → Bool → Int → Int → Int → Int → Int → Bool → Int → Int → Int → Int → Option (Int × Bool × Int × Int × Int × Int × Int × Bool × Int × Int × Int × Int)
  | 0, _, _, _, _, _, _, _, _, _, _, _, _, _, _, _, _ => none
  | k + 1, x25, x174000, x174001, x174002, x183000, x183001, x183002, x183003, x183004, x183005, x192000, x192001, x192002, x192003, x192004, x192005 => if x25 = true then ((spec_l4DrawPtr.f x174000 x174001 x174002 2).bind fun bt203 => ((spec_l1Once.f x174000 bt203.2.2.2.2.2.2.1 bt203.2.2.2.2.2.2.2 20).bind fun bt211 => (if bt211.1 = true then (some (2, x183001, x183002, x183003, x183004, x183005, bt203.1, bt203.2.1, bt203.2.2.1, bt203.2.2.2.1, bt203.2.2.2.2.1, bt203.2.2.2.2.2.1)) else (some (x183000, x183001, x183002, x183003, x183004, x183005, bt203.1, bt203.2.1, bt203.2.2.1, bt203.2.2.2.1, bt203.2.2.2.2.1, bt203.2.2.2.2.2.1))))) else ((spec_l1Once.f x174000 x174001 x174002 20).bind fun bt214 => (if bt214.1 = true then (some (2, x183001, x183002, x183003, x183004, x183005, x192000, x192001, x192002, x192003, x192004, x192005)) else (some (x183000, x183001, x183002, x183003, x183004, x183005, x192000, x192001, x192002, x192003, x192004, x192005))))
end
def spec_DrawJoinVals.f (k : Nat) (l0 : List Int) : Option (Int × Bool × Int × Int × Int × Int × Int × Bool × Int × Int × Int × Int) := (spec_l1New.f k l0).bind fun bt170 => ((spec_l4DrawNum.f k bt170.1 bt170.2.1 bt170.2.2).bind fun bt174 => ((spec_l4DrawNum.f k bt170.1 bt174.2.2.2.2.2.2.1 bt174.2.2.2.2.2.2.2).bind fun bt183 => ((spec_l1Below.f bt170.1 bt183.2.2.2.2.2.2.1 bt183.2.2.2.2.2.2.2 6).bind fun bt192 => (if bt192.1 < 3 then ((spec_l4DrawPtr.f bt170.1 bt192.2.1 bt192.2.2 2).bind fun bt195 => (spec_DrawJoinVals.j0 k bt192.1 bt170.1 bt195.2.2.2.2.2.2.1 bt195.2.2.2.2.2.2.2 bt195.1 bt195.2.1 bt195.2.2.1 bt195.2.2.2.1 bt195.2.2.2.2.1 bt195.2.2.2.2.2.1 bt183.1 bt183.2.1 bt183.2.2.1 bt183.2.2.2.1 bt183.2.2.2.2.1 bt183.2.2.2.2.2.1)) else (spec_DrawJoinVals.j0 k bt192.1 bt170.1 bt192.2.1 bt192.2.2 bt174.1 bt174.2.1 bt174.2.2.1 bt174.2.2.2.1 bt174.2.2.2.2.1 bt174.2.2.2.2.2.1 bt183.1 bt183.2.1 bt183.2.2.1 bt183.2.2.2.1 bt183.2.2.2.2.1 bt183.2.2.2.2.2.1)))))
theorem spec_DrawJoinVals.mono_l : ∀ k, (∀ y0 y1 y2 y3 y4 y5 y6 y7 y8 y9 y10 y11 y12 y13 y14 y15, LeO (spec_DrawJoinVals.j0 k y0 y1 y2 y3 y4 y5 y6 y7 y8 y9 y10 y11 y12 y13 y14 y15) (spec_DrawJoinVals.j0 (k + 1) y0 y1 y2 y3 y4 y5 y6 y7 y8 y9 y10 y11 y12 y13 y14 y15)) ∧ (∀ y0 y1 y2 y3 y4 y5 y6 y7 y8 y9 y10 y11 y12 y13 y14 y15, LeO (spec_DrawJoinVals.j1 k y0 y1 y2 y3 y4 y5 y6 y7 y8 y9 y10 y11 y12 y13 y14 y15) (spec_DrawJoinVals.j1 (k + 1) y0 y1 y2 y3 y4 y5 y6 y7 y8 y9 y10 y11 y12 y13 y14 y15))
  | 0 => ⟨fun _ _ _ _ _ _ _ _ _ _ _ _ _ _ _ _ r h => by simp [spec_DrawJoinVals.j0] at h, fun _ _ _ _ _ _ _ _ _ _ _ _ _ _ _ _ r h => by simp [spec_DrawJoinVals.j1] at h⟩
  | k + 1 => by
    obtain ⟨ih0, ih1⟩ := spec_DrawJoinVals.mono_l k
    refine ⟨?_, ?_⟩
    · intro y0 y1 y2 y3 y4 y5 y6 y7 y8 y9 y10 y11 y12 y13 y14 y15
      unfold spec_DrawJoinVals.j0
      repeat' first
      | (with_reducible exact ih0 _ _ _ _ _ _ _ _ _ _ _ _ _ _ _ _)
      | (with_reducible exact ih1 _ _ _ _ _ _ _ _ _ _ _ _ _ _ _ _)
      | (with_reducible exact spec_l1New.mono _ _)
      | (with_reducible exact spec_l4DrawNum.mono _ _ _ _)
      | (with_reducible exact LeO.refl _)
      | (with_reducible exact LeO.none _)
      | (with_reducible refine LeO.ite ?_ ?_)
      | (with_reducible refine LeO.bind ?_ (fun _ => ?_))
      | exact ih0 _ _ _ _ _ _ _ _ _ _ _ _ _ _ _ _
      | exact ih1 _ _ _ _ _ _ _ _ _ _ _ _ _ _ _ _
      | exact spec_l1New.mono _ _
      | exact spec_l4DrawNum.mono _ _ _ _
      | exact LeO.none _
      | refine LeO.ite ?_ ?_
      | refine LeO.bind ?_ (fun _ => ?_)
    · intro y0 y1 y2 y3 y4 y5 y6 y7 y8 y9 y10 y11 y12 y13 y14 y15
      unfold spec_DrawJoinVals.j1
      repeat' first
      | (with_reducible exact ih0 _ _ _ _ _ _ _ _ _ _ _ _ _ _ _ _)
      | (with_reducible exact ih1 _ _ _ _ _ _ _ _ _ _ _ _ _ _ _ _)
      | (with_reducible exact spec_l1New.mono _ _)
      | (with_reducible exact spec_l4DrawNum.mono _ _ _ _)
      | (with_reducible exact LeO.refl _)
      | (with_reducible exact LeO.none _)
      | (with_reducible refine LeO.ite ?_ ?_)
      | (with_reducible refine LeO.bind ?_ (fun _ => ?_))
      | exact ih0 _ _ _ _ _ _ _ _ _ _ _ _ _ _ _ _
      | exact ih1 _ _ _ _ _ _ _ _ _ _ _ _ _ _ _ _
      | exact spec_l1New.mono _ _
      | exact spec_l4DrawNum.mono _ _ _ _
      | exact LeO.none _
      | refine LeO.ite ?_ ?_
      | refine LeO.bind ?_ (fun _ => ?_)
theorem spec_DrawJoinVals.mono : ∀ a0 k, LeO (spec_DrawJoinVals.f k a0) (spec_DrawJoinVals.f (k + 1) a0) := by
  intro a0 k
  obtain ⟨ih0, ih1⟩ := spec_DrawJoinVals.mono_l k
  unfold spec_DrawJoinVals.f
  repeat' first
      | (with_reducible exact ih0 _ _ _ _ _ _ _ _ _ _ _ _ _ _ _ _)
      | (with_reducible exact ih1 _ _ _ _ _ _ _ _ _ _ _ _ _ _ _ _)
      | (with_reducible exact spec_l1New.mono _ _)
      | (with_reducible exact spec_l4DrawNum.mono _ _ _ _)
      | (with_reducible exact LeO.refl _)
      | (with_reducible exact LeO.none _)
      | (with_reducible refine LeO.ite ?_ ?_)
      | (with_reducible refine LeO.bind ?_ (fun _ => ?_))
      | exact ih0 _ _ _ _ _ _ _ _ _ _ _ _ _ _ _ _
      | exact ih1 _ _ _ _ _ _ _ _ _ _ _ _ _ _ _ _
      | exact spec_l1New.mono _ _
      | exact spec_l4DrawNum.mono _ _ _ _
      | exact LeO.none _
      | refine LeO.ite ?_ ?_
      | refine LeO.bind ?_ (fun _ => ?_)
set_option maxHeartbeats 8000000 in
set_option maxRecDepth 100000 in
theorem spec_DrawJoinVals.calls (k : Nat) (A0 : Option Addr) (c0 : Nat) (l0 : List Int) (r1 : Int) (r2 : Bool) (r3 : Int) (r4 : Int) (r5 : Int) (r6 : Int) (r7 : Int) (r8 : Bool) (r9 : Int) (r10 : Int) (r11 : Int) (r12 : Int) (w : World) (hr0 : Kd.C (Kd.int .u8) w A0 l0.length l0) (hc0 : l0.length ≤ c0) (h : spec_DrawJoinVals.f k l0 = some (r1, r2, r3, r4, r5, r6, r7, r8, r9, r10, r11, r12)) :
    Calls Try.prog 15 #[.slice A0 l0.length c0] w fun e w' => e = .returned (.tuple #[.agg #[.int .i64 r1, .bool r2, .int .i64 r3, .int .i64 r4, .int .i64 r5, .int .i64 r6], .agg #[.int .i64 r7, .bool r8, .int .i64 r9, .int .i64 r10, .int .i64 r11, .int .i64 r12]]) ∧ Below w.heap.size w w' := by
  have hu25 := Try.underlying25
  have HR0 := Aside0.mk hr0
  have HC0 := Aside0.mk hc0
  clear hr0 hc0
  have HB := Aside0.mk (Below.refl w.heap.size w)
  have H : ((spec_l1New.f k l0).bind fun bt170 => ((spec_l4DrawNum.f k bt170.1 bt170.2.1 bt170.2.2).bind fun bt174 => ((spec_l4DrawNum.f k bt170.1 bt174.2.2.2.2.2.2.1 bt174.2.2.2.2.2.2.2).bind fun bt183 => ((spec_l1Below.f bt170.1 bt183.2.2.2.2.2.2.1 bt183.2.2.2.2.2.2.2 6).bind fun bt192 => (if bt192.1 < 3 then ((spec_l4DrawPtr.f bt170.1 bt192.2.1 bt192.2.2 2).bind fun bt195 => (spec_DrawJoinVals.j0 k bt192.1 bt170.1 bt195.2.2.2.2.2.2.1 bt195.2.2.2.2.2.2.2 bt195.1 bt195.2.1 bt195.2.2.1 bt195.2.2.2.1 bt195.2.2.2.2.1 bt195.2.2.2.2.2.1 bt183.1 bt183.2.1 bt183.2.2.1 bt183.2.2.2.1 bt183.2.2.2.2.1 bt183.2.2.2.2.2.1)) else (spec_DrawJoinVals.j0 k bt192.1 bt170.1 bt192.2.1 bt192.2.2 bt174.1 bt174.2.1 bt174.2.2.1 bt174.2.2.2.1 bt174.2.2.2.2.1 bt174.2.2.2.2.2.1 bt183.1 bt183.2.1 bt183.2.2.1 bt183.2.2.2.1 bt183.2.2.2.2.1 bt183.2.2.2.2.2.1)))))) = some (r1, r2, r3, r4, r5, r6, r7, r8, r9, r10, r11, r12) := h
  clear h
  replace H := Option.bind_eq_some_iff.mp H
  obtain ⟨⟨t170, t171, t172⟩, A20, H⟩ := H
  replace H : ((spec_l4DrawNum.f k t170 t171 t172).bind fun bt174 => ((spec_l4DrawNum.f k t170 bt174.2.2.2.2.2.2.1 bt174.2.2.2.2.2.2.2).bind fun bt183 => ((spec_l1Below.f t170 bt183.2.2.2.2.2.2.1 bt183.2.2.2.2.2.2.2 6).bind fun bt192 => (if bt192.1 < 3 then ((spec_l4DrawPtr.f t170 bt192.2.1 bt192.2.2 2).bind fun bt195 => (spec_DrawJoinVals.j0 k bt192.1 t170 bt195.2.2.2.2.2.2.1 bt195.2.2.2.2.2.2.2 bt195.1 bt195.2.1 bt195.2.2.1 bt195.2.2.2.1 bt195.2.2.2.2.1 bt195.2.2.2.2.2.1 bt183.1 bt183.2.1 bt183.2.2.1 bt183.2.2.2.1 bt183.2.2.2.2.1 bt183.2.2.2.2.2.1)) else (spec_DrawJoinVals.j0 k bt192.1 t170 bt192.2.1 bt192.2.2 bt174.1 bt174.2.1 bt174.2.2.1 bt174.2.2.2.1 bt174.2.2.2.2.1 bt174.2.2.2.2.2.1 bt183.1 bt183.2.1 bt183.2.2.1 bt183.2.2.2.1 bt183.2.2.2.2.1 bt183.2.2.2.2.2.1))))) = some (r1, r2, r3, r4, r5, r6, r7, r8, r9, r10, r11, r12) := H
  have A2 := Aside0.mk A20
  clear A20
  replace H := Option.bind_eq_some_iff.mp H
  obtain ⟨⟨t174, t175, t176, t177, t178, t179, t180, t181⟩, A30, H⟩ := H
  replace H : ((spec_l4DrawNum.f k t170 t180 t181).bind fun bt183 => ((spec_l1Below.f t170 bt183.2.2.2.2.2.2.1 bt183.2.2.2.2.2.2.2 6).bind fun bt192 => (if bt192.1 < 3 then ((spec_l4DrawPtr.f t170 bt192.2.1 bt192.2.2 2).bind fun bt195 => (spec_DrawJoinVals.j0 k bt192.1 t170 bt195.2.2.2.2.2.2.1 bt195.2.2.2.2.2.2.2 bt195.1 bt195.2.1 bt195.2.2.1 bt195.2.2.2.1 bt195.2.2.2.2.1 bt195.2.2.2.2.2.1 bt183.1 bt183.2.1 bt183.2.2.1 bt183.2.2.2.1 bt183.2.2.2.2.1 bt183.2.2.2.2.2.1)) else (spec_DrawJoinVals.j0 k bt192.1 t170 bt192.2.1 bt192.2.2 t174 t175 t176 t177 t178 t179 bt183.1 bt183.2.1 bt183.2.2.1 bt183.2.2.2.1 bt183.2.2.2.2.1 bt183.2.2.2.2.2.1)))) = some (r1, r2, r3, r4, r5, r6, r7, r8, r9, r10, r11, r12) := H
  have A3 := Aside0.mk A30
  clear A30
  replace H := Option.bind_eq_some_iff.mp H
  obtain ⟨⟨t183, t184, t185, t186, t187, t188, t189, t190⟩, A40, H⟩ := H
  replace H : ((spec_l1Below.f t170 t189 t190 6).bind fun bt192 => (if bt192.1 < 3 then ((spec_l4DrawPtr.f t170 bt192.2.1 bt192.2.2 2).bind fun bt195 => (spec_DrawJoinVals.j0 k bt192.1 t170 bt195.2.2.2.2.2.2.1 bt195.2.2.2.2.2.2.2 bt195.1 bt195.2.1 bt195.2.2.1 bt195.2.2.2.1 bt195.2.2.2.2.1 bt195.2.2.2.2.2.1 t183 t184 t185 t186 t187 t188)) else (spec_DrawJoinVals.j0 k bt192.1 t170 bt192.2.1 bt192.2.2 t174 t175 t176 t177 t178 t179 t183 t184 t185 t186 t187 t188))) = some (r1, r2, r3, r4, r5, r6, r7, r8, r9, r10, r11, r12) := H
  have A4 := Aside0.mk A40
  clear A40
  replace H := Option.bind_eq_some_iff.mp H
  obtain ⟨⟨t192, t193, t194⟩, A50, H⟩ := H
  replace H : (if t192 < 3 then ((spec_l4DrawPtr.f t170 t193 t194 2).bind fun bt195 => (spec_DrawJoinVals.j0 k t192 t170 bt195.2.2.2.2.2.2.1 bt195.2.2.2.2.2.2.2 bt195.1 bt195.2.1 bt195.2.2.1 bt195.2.2.2.1 bt195.2.2.2.2.1 bt195.2.2.2.2.2.1 t183 t184 t185 t186 t187 t188)) else (spec_DrawJoinVals.j0 k t192 t170 t193 t194 t174 t175 t176 t177 t178 t179 t183 t184 t185 t186 t187 t188)) = some (r1, r2, r3, r4, r5, r6, r7, r8, r9, r10, r11, r12) := H
  have A5 := Aside0.mk A50
  clear A50
  have HC6 := Aside0.mk H
  clear H
  go_enter Try.func15, Try.ntmps15
  go_upto_if 17 with (first | ((with_reducible refine gate_dst (N := 2) rfl ?_); refine box_event ?hg (N := 2) ?hd (cs := #[.int .i64 0, .bool false, .int .i64 0, .int .i64 0, .int .i64 0, .int .i64 0]) (t := 25) ?hr ?_; (case hd => rfl); (case hg => rfl); (case hr => first | (go_simp; done) | (go_simp; rfl)); intro gb168 hg w7 hbox hb; have n0_ := Aside0.mk (below_step (by repeat (first | (with_reducible first | exact HB.out | apply below_alloc | apply pw_below_drewN | apply below_drew1) | exact HB.out)) hb); have n1_ := Aside0.mk (hbox); have n2_ := Aside0.mk ((by rw [hg]; exact (below_size (by repeat (first | (with_reducible first | exact HB.out | apply below_alloc | apply pw_below_drewN | apply below_drew1) | exact HB.out))) : w.heap.size ≤ gb168)); have n3_ := Aside0.mk ((by rw [hg]; exact (below_size (by repeat (first | (with_reducible first | exact HB.out | apply below_alloc | apply pw_below_drewN | apply below_drew1) | exact HB.out))) : w.heap.size ≤ gb168)); clear HB; have HB := n0_; have BK168 := n1_; have GW168 := n2_; have GE168 := n3_; clear n0_ n1_ n2_ n3_; clear hb hbox hg) | ((with_reducible refine gate_dst (N := 3) rfl ?_); refine box_event ?hg (N := 3) ?hd (cs := #[.int .i64 0, .bool false, .int .i64 0, .int .i64 0, .int .i64 0, .int .i64 0]) (t := 25) ?hr ?_; (case hd => rfl); (case hg => rfl); (case hr => first | (go_simp; done) | (go_simp; rfl)); intro gb169 hg w8 hbox hb; have n0_ := Aside0.mk (blk_below (g := gb168) (o := .cells #[.int .i64 0, .bool false, .int .i64 0, .int .i64 0, .int .i64 0, .int .i64 0] 25 (0, 0)) (by (with_reducible repeat (first | refine blk_drewN ?_ _ | refine blk_drew ?_ | refine blk_alloc ?_ _)); exact BK168.out) hb); have n1_ := Aside0.mk (below_step (by repeat (first | (with_reducible first | exact HB.out | apply below_alloc | apply pw_below_drewN | apply below_drew1 | refine below_set ?_ GE168.out) | exact HB.out)) hb); have n2_ := Aside0.mk (hbox); have n3_ := Aside0.mk ((by rw [hg]; exact (below_size (by repeat (first | (with_reducible first | exact HB.out | apply below_alloc | apply pw_below_drewN | apply below_drew1 | refine below_set ?_ GE168.out) | exact HB.out))) : w.heap.size ≤ gb169)); have n4_ := Aside0.mk ((by rw [hg]; exact (below_size (by repeat (first | (with_reducible first | exact HB.out | apply below_alloc | apply pw_below_drewN | apply below_drew1 | refine below_set ?_ GE168.out) | exact HB.out))) : w.heap.size ≤ gb169)); have n5_ := Aside0.mk ((by rw [hg]; exact Nat.ne_of_lt (blk_lt (g := gb168) (o := .cells #[.int .i64 0, .bool false, .int .i64 0, .int .i64 0, .int .i64 0, .int .i64 0] 25 (0, 0)) (by (with_reducible repeat (first | refine blk_drewN ?_ _ | refine blk_drew ?_ | refine blk_alloc ?_ _)); exact BK168.out)) : gb168 ≠ gb169)); have n6_ := Aside0.mk ((by rw [hg]; exact Nat.ne_of_gt (blk_lt (g := gb168) (o := .cells #[.int .i64 0, .bool false, .int .i64 0, .int .i64 0, .int .i64 0, .int .i64 0] 25 (0, 0)) (by (with_reducible repeat (first | refine blk_drewN ?_ _ | refine blk_drew ?_ | refine blk_alloc ?_ _)); exact BK168.out)) : gb169 ≠ gb168)); clear BK168; clear HB; have BK168 := n0_; have HB := n1_; have BK169 := n2_; have GW169 := n3_; have GE169 := n4_; have NB168_169 := n5_; have NB169_168 := n6_; clear n0_ n1_ n2_ n3_ n4_ n5_ n6_; clear hb hbox hg) | ((with_reducible refine gate_callee (f := 37) rfl ?_); refine goesL_ (some 9) rfl rfl Try.func37 (by kernel_rfl) rfl #[.slice A0 l0.length c0] rfl (by (try simp only [List.map_toArray, List.map_cons, List.map_nil]); first | done | rfl | (simp only [List.length_drop, List.length_take]; rfl)) ?_; (with_reducible refine (spec_l1New.calls k _ _ l0 t170 t171 t172 w _ ?side1 ?side2 ?side3 A2.out).mono ?_); (case side1 => repeat (first | (with_reducible first | exact HB.out | apply below_alloc | apply pw_below_drewN | apply below_drew1 | refine below_set ?_ GE168.out | refine below_set ?_ GE169.out) | exact HB.out)); (case side2 => exact HR0.out); (case side3 => exact HC0.out); rintro e w9 ⟨g173, rfl, hi, hb, hb2⟩; refine ⟨_, rfl, ?_⟩; have n0_ := Aside0.mk (blk_below (g := gb168) (o := .cells #[.int .i64 0, .bool false, .int .i64 0, .int .i64 0, .int .i64 0, .int .i64 0] 25 (0, 0)) (by (with_reducible repeat (first | refine blk_drewN ?_ _ | refine blk_drew ?_ | refine blk_alloc ?_ _)); exact BK168.out) hb2); have n1_ := Aside0.mk (blk_below (g := gb169) (o := .cells #[.int .i64 0, .bool false, .int .i64 0, .int .i64 0, .int .i64 0, .int .i64 0] 25 (0, 0)) (by (with_reducible repeat (first | refine blk_drewN ?_ _ | refine blk_drew ?_ | refine blk_alloc ?_ _)); exact BK169.out) hb2); have n2_ := Aside0.mk (hb); have n3_ := Aside0.mk (hi); have n4_ := Aside0.mk (IsS114.ne_blk hi (blk_below (g := gb168) (o := .cells #[.int .i64 0, .bool false, .int .i64 0, .int .i64 0, .int .i64 0, .int .i64 0] 25 (0, 0)) (by (with_reducible repeat (first | refine blk_drewN ?_ _ | refine blk_drew ?_ | refine blk_alloc ?_ _)); exact BK168.out) hb2) (by decide)); have n5_ := Aside0.mk (Ne.symm (IsS114.ne_blk hi (blk_below (g := gb168) (o := .cells #[.int .i64 0, .bool false, .int .i64 0, .int .i64 0, .int .i64 0, .int .i64 0] 25 (0, 0)) (by (with_reducible repeat (first | refine blk_drewN ?_ _ | refine blk_drew ?_ | refine blk_alloc ?_ _)); exact BK168.out) hb2) (by decide))); have n6_ := Aside0.mk (IsS114.ne_blk hi (blk_below (g := gb169) (o := .cells #[.int .i64 0, .bool false, .int .i64 0, .int .i64 0, .int .i64 0, .int .i64 0] 25 (0, 0)) (by (with_reducible repeat (first | refine blk_drewN ?_ _ | refine blk_drew ?_ | refine blk_alloc ?_ _)); exact BK169.out) hb2) (by decide)); have n7_ := Aside0.mk (Ne.symm (IsS114.ne_blk hi (blk_below (g := gb169) (o := .cells #[.int .i64 0, .bool false, .int .i64 0, .int .i64 0, .int .i64 0, .int .i64 0] 25 (0, 0)) (by (with_reducible repeat (first | refine blk_drewN ?_ _ | refine blk_drew ?_ | refine blk_alloc ?_ _)); exact BK169.out) hb2) (by decide))); clear BK168; clear BK169; clear HB; have BK168 := n0_; have BK169 := n1_; have HB := n2_; have HI173 := n3_; have NB173_168 := n4_; have NB168_173 := n5_; have NB173_169 := n6_; have NB169_173 := n7_; clear n0_ n1_ n2_ n3_ n4_ n5_ n6_ n7_; (try clear hb); (try clear hb2); (try clear hk); (try clear hi)) | ((with_reducible refine gate_callee (f := 38) rfl ?_); refine goesL_ (some 11) rfl rfl Try.func38 (by kernel_rfl) rfl #[.pointer (some ⟨g173, 0, none⟩)] rfl (by (try simp only [List.map_toArray, List.map_cons, List.map_nil]); first | done | rfl | (simp only [List.length_drop, List.length_take]; rfl)) ?_; (with_reducible refine (spec_l4DrawNum.calls k g173 t170 t171 t172 t174 t175 t176 t177 t178 t179 t180 t181 w _ ?side1 ?side2 A3.out).mono ?_); (case side1 => repeat (first | (with_reducible first | exact HI173.out | apply IsS114.alloc | apply IsS114.drewN | apply IsS114.drew | apply IsS114.set_1 | apply IsS114.set_2 | refine IsS114.far ?_ NB173_168.out _ | refine IsS114.far ?_ NB173_169.out _) | exact HI173.out)); (case side2 => repeat (first | (with_reducible first | exact HB.out | apply below_alloc | apply pw_below_drewN | apply below_drew1 | refine below_set ?_ (IsS114.ge HI173.out) | refine below_set ?_ GE168.out | refine below_set ?_ GE169.out) | exact HB.out)); rintro e w10 ⟨rfl, hi, hb, hk⟩; refine ⟨_, rfl, ?_⟩; have n0_ := Aside0.mk (KeepBut.blk hk (g' := gb168) (o := .cells #[.int .i64 0, .bool false, .int .i64 0, .int .i64 0, .int .i64 0, .int .i64 0] 25 (0, 0)) (by (with_reducible repeat (first | refine blk_drewN ?_ _ | refine blk_drew ?_ | refine blk_alloc ?_ _)); exact BK168.out) NB168_173.out (by simp)); have n1_ := Aside0.mk (KeepBut.blk hk (g' := gb169) (o := .cells #[.int .i64 0, .bool false, .int .i64 0, .int .i64 0, .int .i64 0, .int .i64 0] 25 (0, 0)) (by (with_reducible repeat (first | refine blk_drewN ?_ _ | refine blk_drew ?_ | refine blk_alloc ?_ _)); exact BK169.out) NB169_173.out (by simp)); have n2_ := Aside0.mk (hb); have n3_ := Aside0.mk (hi); clear BK168; clear BK169; clear HB; clear HI173; have BK168 := n0_; have BK169 := n1_; have HB := n2_; have HI173 := n3_; clear n0_ n1_ n2_ n3_; (try clear hb); (try clear hb2); (try clear hk); (try clear hi)) | ((with_reducible refine gate_dst (N := 5) rfl ?_); refine box_event ?hg (N := 5) ?hd (cs := #[.int .i64 0, .bool false, .int .i64 0, .int .i64 0, .int .i64 0, .int .i64 0]) (t := 25) ?hr ?_; (case hd => rfl); (case hg => rfl); (case hr => first | (go_simp; done) | (go_simp; rfl)); intro gb182 hg w11 hbox hb; have n0_ := Aside0.mk (blk_below (g := gb168) (o := .cells #[.int .i64 0, .bool false, .int .i64 0, .int .i64 0, .int .i64 0, .int .i64 0] 25 (0, 0)) (by (with_reducible repeat (first | refine blk_drewN ?_ _ | refine blk_drew ?_ | refine blk_alloc ?_ _)); exact BK168.out) hb); have n1_ := Aside0.mk (blk_below (g := gb169) (o := .cells #[.int .i64 0, .bool false, .int .i64 0, .int .i64 0, .int .i64 0, .int .i64 0] 25 (0, 0)) (by (with_reducible repeat (first | refine blk_drewN ?_ _ | refine blk_drew ?_ | refine blk_alloc ?_ _)); exact BK169.out) hb); have n2_ := Aside0.mk (IsS114.below (by repeat (first | (with_reducible first | exact HI173.out | apply IsS114.alloc | apply IsS114.drewN | apply IsS114.drew | apply IsS114.set_1 | apply IsS114.set_2 | refine IsS114.far ?_ NB173_168.out _ | refine IsS114.far ?_ NB173_169.out _) | exact HI173.out)) hb); have n3_ := Aside0.mk (below_step (by repeat (first | (with_reducible first | exact HB.out | apply below_alloc | apply pw_below_drewN | apply below_drew1 | refine below_set ?_ (IsS114.ge HI173.out) | refine below_set ?_ GE168.out | refine below_set ?_ GE169.out) | exact HB.out)) hb); have n4_ := Aside0.mk (hbox); have n5_ := Aside0.mk ((by rw [hg]; exact (below_size (by repeat (first | (with_reducible first | exact HB.out | apply below_alloc | apply pw_below_drewN | apply below_drew1 | refine below_set ?_ (IsS114.ge HI173.out) | refine below_set ?_ GE168.out | refine below_set ?_ GE169.out) | exact HB.out))) : w.heap.size ≤ gb182)); have n6_ := Aside0.mk ((by rw [hg]; exact (below_size (by repeat (first | (with_reducible first | exact HB.out | apply below_alloc | apply pw_below_drewN | apply below_drew1 | refine below_set ?_ (IsS114.ge HI173.out) | refine below_set ?_ GE168.out | refine below_set ?_ GE169.out) | exact HB.out))) : w.heap.size ≤ gb182)); have n7_ := Aside0.mk ((by rw [hg]; exact Nat.ne_of_lt (blk_lt (g := gb168) (o := .cells #[.int .i64 0, .bool false, .int .i64 0, .int .i64 0, .int .i64 0, .int .i64 0] 25 (0, 0)) (by (with_reducible repeat (first | refine blk_drewN ?_ _ | refine blk_drew ?_ | refine blk_alloc ?_ _)); exact BK168.out)) : gb168 ≠ gb182)); have n8_ := Aside0.mk ((by rw [hg]; exact Nat.ne_of_gt (blk_lt (g := gb168) (o := .cells #[.int .i64 0, .bool false, .int .i64 0, .int .i64 0, .int .i64 0, .int .i64 0] 25 (0, 0)) (by (with_reducible repeat (first | refine blk_drewN ?_ _ | refine blk_drew ?_ | refine blk_alloc ?_ _)); exact BK168.out)) : gb182 ≠ gb168)); have n9_ := Aside0.mk ((by rw [hg]; exact Nat.ne_of_lt (blk_lt (g := gb169) (o := .cells #[.int .i64 0, .bool false, .int .i64 0, .int .i64 0, .int .i64 0, .int .i64 0] 25 (0, 0)) (by (with_reducible repeat (first | refine blk_drewN ?_ _ | refine blk_drew ?_ | refine blk_alloc ?_ _)); exact BK169.out)) : gb169 ≠ gb182)); have n10_ := Aside0.mk ((by rw [hg]; exact Nat.ne_of_gt (blk_lt (g := gb169) (o := .cells #[.int .i64 0, .bool false, .int .i64 0, .int .i64 0, .int .i64 0, .int .i64 0] 25 (0, 0)) (by (with_reducible repeat (first | refine blk_drewN ?_ _ | refine blk_drew ?_ | refine blk_alloc ?_ _)); exact BK169.out)) : gb182 ≠ gb169)); have n11_ := Aside0.mk ((by rw [hg]; exact Nat.ne_of_lt (IsS114.lt (show IsS114 w _ g173 t170 t180 t181 from by repeat (first | (with_reducible first | exact HI173.out | apply IsS114.alloc | apply IsS114.drewN | apply IsS114.drew | apply IsS114.set_1 | apply IsS114.set_2 | refine IsS114.far ?_ NB173_168.out _ | refine IsS114.far ?_ NB173_169.out _) | exact HI173.out))) : g173 ≠ gb182)); have n12_ := Aside0.mk ((by rw [hg]; exact Nat.ne_of_gt (IsS114.lt (show IsS114 w _ g173 t170 t180 t181 from by repeat (first | (with_reducible first | exact HI173.out | apply IsS114.alloc | apply IsS114.drewN | apply IsS114.drew | apply IsS114.set_1 | apply IsS114.set_2 | refine IsS114.far ?_ NB173_168.out _ | refine IsS114.far ?_ NB173_169.out _) | exact HI173.out))) : gb182 ≠ g173)); clear BK168; clear BK169; clear HI173; clear HB; have BK168 := n0_; have BK169 := n1_; have HI173 := n2_; have HB := n3_; have BK182 := n4_; have GW182 := n5_; have GE182 := n6_; have NB168_182 := n7_; have NB182_168 := n8_; have NB169_182 := n9_; have NB182_169 := n10_; have NB173_182 := n11_; have NB182_173 := n12_; clear n0_ n1_ n2_ n3_ n4_ n5_ n6_ n7_ n8_ n9_ n10_ n11_ n12_; clear hb hbox hg; have hnb12 := NB182_168.out; have hnc12 := NB168_182.out; have hnb13 := NB182_169.out; have hnc13 := NB169_182.out; have hnb14 := NB182_173.out; have hnc14 := NB173_182.out; have hcz15_0 : w11.cell? ⟨gb182, 0, none⟩ = some (.int .i64 0) := (blk_cell BK182.out 0).trans rfl; have hcz15_1 : w11.cell? ⟨gb182, 1, none⟩ = some (.bool false) := (blk_cell BK182.out 1).trans rfl; have hcz15_2 : w11.cell? ⟨gb182, 2, none⟩ = some (.int .i64 0) := (blk_cell BK182.out 2).trans rfl; have hcz15_3 : w11.cell? ⟨gb182, 3, none⟩ = some (.int .i64 0) := (blk_cell BK182.out 3).trans rfl; have hcz15_4 : w11.cell? ⟨gb182, 4, none⟩ = some (.int .i64 0) := (blk_cell BK182.out 4).trans rfl; have hcz15_5 : w11.cell? ⟨gb182, 5, none⟩ = some (.int .i64 0) := (blk_cell BK182.out 5).trans rfl; have hfz15_0 := blk_frozen BK182.out 0; have hfz15_1 := blk_frozen BK182.out 1; have hfz15_2 := blk_frozen BK182.out 2; have hfz15_3 := blk_frozen BK182.out 3; have hfz15_4 := blk_frozen BK182.out 4; have hfz15_5 := blk_frozen BK182.out 5) | ((with_reducible refine gate_callee (f := 38) rfl ?_); refine goesL_ (some 13) rfl rfl Try.func38 (by kernel_rfl) rfl #[.pointer (some ⟨g173, 0, none⟩)] rfl (by (try simp only [List.map_toArray, List.map_cons, List.map_nil]); first | done | rfl | (simp only [List.length_drop, List.length_take]; rfl)) ?_; (with_reducible refine (spec_l4DrawNum.calls k g173 t170 t180 t181 t183 t184 t185 t186 t187 t188 t189 t190 w _ ?side1 ?side2 A4.out).mono ?_); (case side1 => repeat (first | (with_reducible first | exact HI173.out | apply IsS114.alloc | apply IsS114.drewN | apply IsS114.drew | apply IsS114.set_1 | apply IsS114.set_2 | refine IsS114.far ?_ NB173_168.out _ | refine IsS114.far ?_ NB173_169.out _ | refine IsS114.far ?_ NB173_182.out _) | exact HI173.out)); (case side2 => repeat (first | (with_reducible first | exact HB.out | apply below_alloc | apply pw_below_drewN | apply below_drew1 | refine below_set ?_ (IsS114.ge HI173.out) | refine below_set ?_ GE168.out | refine below_set ?_ GE169.out | refine below_set ?_ GE182.out) | exact HB.out)); rintro e w16 ⟨rfl, hi, hb, hk⟩; refine ⟨_, rfl, ?_⟩; have n0_ := Aside0.mk (KeepBut.blk hk (g' := gb168) (o := .cells #[.int .i64 0, .bool false, .int .i64 0, .int .i64 0, .int .i64 0, .int .i64 0] 25 (0, 0)) (by (with_reducible repeat (first | refine blk_drewN ?_ _ | refine blk_drew ?_ | refine blk_alloc ?_ _)); refine blk_far ?_ NB168_182.out _; (with_reducible repeat (first | refine blk_drewN ?_ _ | refine blk_drew ?_ | refine blk_alloc ?_ _)); refine blk_far ?_ NB168_182.out _; (with_reducible repeat (first | refine blk_drewN ?_ _ | refine blk_drew ?_ | refine blk_alloc ?_ _)); refine blk_far ?_ NB168_182.out _; (with_reducible repeat (first | refine blk_drewN ?_ _ | refine blk_drew ?_ | refine blk_alloc ?_ _)); refine blk_far ?_ NB168_182.out _; (with_reducible repeat (first | refine blk_drewN ?_ _ | refine blk_drew ?_ | refine blk_alloc ?_ _)); refine blk_far ?_ NB168_182.out _; (with_reducible repeat (first | refine blk_drewN ?_ _ | refine blk_drew ?_ | refine blk_alloc ?_ _)); refine blk_far ?_ NB168_182.out _; (with_reducible repeat (first | refine blk_drewN ?_ _ | refine blk_drew ?_ | refine blk_alloc ?_ _)); exact BK168.out) NB168_173.out (by simp)); have n1_ := Aside0.mk (KeepBut.blk hk (g' := gb169) (o := .cells #[.int .i64 0, .bool false, .int .i64 0, .int .i64 0, .int .i64 0, .int .i64 0] 25 (0, 0)) (by (with_reducible repeat (first | refine blk_drewN ?_ _ | refine blk_drew ?_ | refine blk_alloc ?_ _)); refine blk_far ?_ NB169_182.out _; (with_reducible repeat (first | refine blk_drewN ?_ _ | refine blk_drew ?_ | refine blk_alloc ?_ _)); refine blk_far ?_ NB169_182.out _; (with_reducible repeat (first | refine blk_drewN ?_ _ | refine blk_drew ?_ | refine blk_alloc ?_ _)); refine blk_far ?_ NB169_182.out _; (with_reducible repeat (first | refine blk_drewN ?_ _ | refine blk_drew ?_ | refine blk_alloc ?_ _)); refine blk_far ?_ NB169_182.out _; (with_reducible repeat (first | refine blk_drewN ?_ _ | refine blk_drew ?_ | refine blk_alloc ?_ _)); refine blk_far ?_ NB169_182.out _; (with_reducible repeat (first | refine blk_drewN ?_ _ | refine blk_drew ?_ | refine blk_alloc ?_ _)); refine blk_far ?_ NB169_182.out _; (with_reducible repeat (first | refine blk_drewN ?_ _ | refine blk_drew ?_ | refine blk_alloc ?_ _)); exact BK169.out) NB169_173.out (by simp)); have n2_ := Aside0.mk (KeepBut.blk hk (g' := gb182) (o := .cells #[.int .i64 t174, .bool t175, .int .i64 t176, .int .i64 t177, .int .i64 t178, .int .i64 t179] 25 (0, 0)) (by (with_reducible repeat (first | refine blk_drewN ?_ _ | refine blk_drew ?_ | refine blk_alloc ?_ _)); refine blk_put (cs := #[.int .i64 t174, .bool t175, .int .i64 t176, .int .i64 t177, .int .i64 t178, .int .i64 0]) ?_ 5 _ rfl; (with_reducible repeat (first | refine blk_drewN ?_ _ | refine blk_drew ?_ | refine blk_alloc ?_ _)); refine blk_put (cs := #[.int .i64 t174, .bool t175, .int .i64 t176, .int .i64 t177, .int .i64 0, .int .i64 0]) ?_ 4 _ rfl; (with_reducible repeat (first | refine blk_drewN ?_ _ | refine blk_drew ?_ | refine blk_alloc ?_ _)); refine blk_put (cs := #[.int .i64 t174, .bool t175, .int .i64 t176, .int .i64 0, .int .i64 0, .int .i64 0]) ?_ 3 _ rfl; (with_reducible repeat (first | refine blk_drewN ?_ _ | refine blk_drew ?_ | refine blk_alloc ?_ _)); refine blk_put (cs := #[.int .i64 t174, .bool t175, .int .i64 0, .int .i64 0, .int .i64 0, .int .i64 0]) ?_ 2 _ rfl; (with_reducible repeat (first | refine blk_drewN ?_ _ | refine blk_drew ?_ | refine blk_alloc ?_ _)); refine blk_put (cs := #[.int .i64 t174, .bool false, .int .i64 0, .int .i64 0, .int .i64 0, .int .i64 0]) ?_ 1 _ rfl; (with_reducible repeat (first | refine blk_drewN ?_ _ | refine blk_drew ?_ | refine blk_alloc ?_ _)); refine blk_put (cs := #[.int .i64 0, .bool false, .int .i64 0, .int .i64 0, .int .i64 0, .int .i64 0]) ?_ 0 _ rfl; (with_reducible repeat (first | refine blk_drewN ?_ _ | refine blk_drew ?_ | refine blk_alloc ?_ _)); exact BK182.out) NB182_173.out (by simp)); have n3_ := Aside0.mk (hb); have n4_ := Aside0.mk (hi); clear BK168; clear BK169; clear BK182; clear HB; clear HI173; have BK168 := n0_; have BK169 := n1_; have BK182 := n2_; have HB := n3_; have HI173 := n4_; clear n0_ n1_ n2_ n3_ n4_; (try clear hb); (try clear hb2); (try clear hk); (try clear hi)) | ((with_reducible refine gate_dst (N := 6) rfl ?_); refine box_event ?hg (N := 6) ?hd (cs := #[.int .i64 0, .bool false, .int .i64 0, .int .i64 0, .int .i64 0, .int .i64 0]) (t := 25) ?hr ?_; (case hd => rfl); (case hg => rfl); (case hr => first | (go_simp; done) | (go_simp; rfl)); intro gb191 hg w17 hbox hb; have n0_ := Aside0.mk (blk_below (g := gb168) (o := .cells #[.int .i64 0, .bool false, .int .i64 0, .int .i64 0, .int .i64 0, .int .i64 0] 25 (0, 0)) (by (with_reducible repeat (first | refine blk_drewN ?_ _ | refine blk_drew ?_ | refine blk_alloc ?_ _)); exact BK168.out) hb); have n1_ := Aside0.mk (blk_below (g := gb169) (o := .cells #[.int .i64 0, .bool false, .int .i64 0, .int .i64 0, .int .i64 0, .int .i64 0] 25 (0, 0)) (by (with_reducible repeat (first | refine blk_drewN ?_ _ | refine blk_drew ?_ | refine blk_alloc ?_ _)); exact BK169.out) hb); have n2_ := Aside0.mk (IsS114.below (by repeat (first | (with_reducible first | exact HI173.out | apply IsS114.alloc | apply IsS114.drewN | apply IsS114.drew | apply IsS114.set_1 | apply IsS114.set_2 | refine IsS114.far ?_ NB173_168.out _ | refine IsS114.far ?_ NB173_169.out _ | refine IsS114.far ?_ NB173_182.out _) | exact HI173.out)) hb); have n3_ := Aside0.mk (blk_below (g := gb182) (o := .cells #[.int .i64 t174, .bool t175, .int .i64 t176, .int .i64 t177, .int .i64 t178, .int .i64 t179] 25 (0, 0)) (by (with_reducible repeat (first | refine blk_drewN ?_ _ | refine blk_drew ?_ | refine blk_alloc ?_ _)); exact BK182.out) hb); have n4_ := Aside0.mk (below_step (by repeat (first | (with_reducible first | exact HB.out | apply below_alloc | apply pw_below_drewN | apply below_drew1 | refine below_set ?_ (IsS114.ge HI173.out) | refine below_set ?_ GE168.out | refine below_set ?_ GE169.out | refine below_set ?_ GE182.out) | exact HB.out)) hb); have n5_ := Aside0.mk (hbox); have n6_ := Aside0.mk ((by rw [hg]; exact (below_size (by repeat (first | (with_reducible first | exact HB.out | apply below_alloc | apply pw_below_drewN | apply below_drew1 | refine below_set ?_ (IsS114.ge HI173.out) | refine below_set ?_ GE168.out | refine below_set ?_ GE169.out | refine below_set ?_ GE182.out) | exact HB.out))) : w.heap.size ≤ gb191)); have n7_ := Aside0.mk ((by rw [hg]; exact (below_size (by repeat (first | (with_reducible first | exact HB.out | apply below_alloc | apply pw_below_drewN | apply below_drew1 | refine below_set ?_ (IsS114.ge HI173.out) | refine below_set ?_ GE168.out | refine below_set ?_ GE169.out | refine below_set ?_ GE182.out) | exact HB.out))) : w.heap.size ≤ gb191)); have n8_ := Aside0.mk ((by rw [hg]; exact Nat.ne_of_lt (blk_lt (g := gb168) (o := .cells #[.int .i64 0, .bool false, .int .i64 0, .int .i64 0, .int .i64 0, .int .i64 0] 25 (0, 0)) (by (with_reducible repeat (first | refine blk_drewN ?_ _ | refine blk_drew ?_ | refine blk_alloc ?_ _)); exact BK168.out)) : gb168 ≠ gb191)); have n9_ := Aside0.mk ((by rw [hg]; exact Nat.ne_of_gt (blk_lt (g := gb168) (o := .cells #[.int .i64 0, .bool false, .int .i64 0, .int .i64 0, .int .i64 0, .int .i64 0] 25 (0, 0)) (by (with_reducible repeat (first | refine blk_drewN ?_ _ | refine blk_drew ?_ | refine blk_alloc ?_ _)); exact BK168.out)) : gb191 ≠ gb168)); have n10_ := Aside0.mk ((by rw [hg]; exact Nat.ne_of_lt (blk_lt (g := gb169) (o := .cells #[.int .i64 0, .bool false, .int .i64 0, .int .i64 0, .int .i64 0, .int .i64 0] 25 (0, 0)) (by (with_reducible repeat (first | refine blk_drewN ?_ _ | refine blk_drew ?_ | refine blk_alloc ?_ _)); exact BK169.out)) : gb169 ≠ gb191)); have n11_ := Aside0.mk ((by rw [hg]; exact Nat.ne_of_gt (blk_lt (g := gb169) (o := .cells #[.int .i64 0, .bool false, .int .i64 0, .int .i64 0, .int .i64 0, .int .i64 0] 25 (0, 0)) (by (with_reducible repeat (first | refine blk_drewN ?_ _ | refine blk_drew ?_ | refine blk_alloc ?_ _)); exact BK169.out)) : gb191 ≠ gb169)); have n12_ := Aside0.mk ((by rw [hg]; exact Nat.ne_of_lt (blk_lt (g := gb182) (o := .cells #[.int .i64 t174, .bool t175, .int .i64 t176, .int .i64 t177, .int .i64 t178, .int .i64 t179] 25 (0, 0)) (by (with_reducible repeat (first | refine blk_drewN ?_ _ | refine blk_drew ?_ | refine blk_alloc ?_ _)); exact BK182.out)) : gb182 ≠ gb191)); have n13_ := Aside0.mk ((by rw [hg]; exact Nat.ne_of_gt (blk_lt (g := gb182) (o := .cells #[.int .i64 t174, .bool t175, .int .i64 t176, .int .i64 t177, .int .i64 t178, .int .i64 t179] 25 (0, 0)) (by (with_reducible repeat (first | refine blk_drewN ?_ _ | refine blk_drew ?_ | refine blk_alloc ?_ _)); exact BK182.out)) : gb191 ≠ gb182)); have n14_ := Aside0.mk ((by rw [hg]; exact Nat.ne_of_lt (IsS114.lt (show IsS114 w _ g173 t170 t189 t190 from by repeat (first | (with_reducible first | exact HI173.out | apply IsS114.alloc | apply IsS114.drewN | apply IsS114.drew | apply IsS114.set_1 | apply IsS114.set_2 | refine IsS114.far ?_ NB173_168.out _ | refine IsS114.far ?_ NB173_169.out _ | refine IsS114.far ?_ NB173_182.out _) | exact HI173.out))) : g173 ≠ gb191)); have n15_ := Aside0.mk ((by rw [hg]; exact Nat.ne_of_gt (IsS114.lt (show IsS114 w _ g173 t170 t189 t190 from by repeat (first | (with_reducible first | exact HI173.out | apply IsS114.alloc | apply IsS114.drewN | apply IsS114.drew | apply IsS114.set_1 | apply IsS114.set_2 | refine IsS114.far ?_ NB173_168.out _ | refine IsS114.far ?_ NB173_169.out _ | refine IsS114.far ?_ NB173_182.out _) | exact HI173.out))) : gb191 ≠ g173)); clear BK168; clear BK169; clear HI173; clear BK182; clear HB; have BK168 := n0_; have BK169 := n1_; have HI173 := n2_; have BK182 := n3_; have HB := n4_; have BK191 := n5_; have GW191 := n6_; have GE191 := n7_; have NB168_191 := n8_; have NB191_168 := n9_; have NB169_191 := n10_; have NB191_169 := n11_; have NB182_191 := n12_; have NB191_182 := n13_; have NB173_191 := n14_; have NB191_173 := n15_; clear n0_ n1_ n2_ n3_ n4_ n5_ n6_ n7_ n8_ n9_ n10_ n11_ n12_ n13_ n14_ n15_; clear hb hbox hg; have hnb18 := NB191_168.out; have hnc18 := NB168_191.out; have hnb19 := NB191_169.out; have hnc19 := NB169_191.out; have hnb20 := NB191_182.out; have hnc20 := NB182_191.out; have hnb21 := NB191_173.out; have hnc21 := NB173_191.out; have hcz22_0 : w17.cell? ⟨gb191, 0, none⟩ = some (.int .i64 0) := (blk_cell BK191.out 0).trans rfl; have hcz22_1 : w17.cell? ⟨gb191, 1, none⟩ = some (.bool false) := (blk_cell BK191.out 1).trans rfl; have hcz22_2 : w17.cell? ⟨gb191, 2, none⟩ = some (.int .i64 0) := (blk_cell BK191.out 2).trans rfl; have hcz22_3 : w17.cell? ⟨gb191, 3, none⟩ = some (.int .i64 0) := (blk_cell BK191.out 3).trans rfl; have hcz22_4 : w17.cell? ⟨gb191, 4, none⟩ = some (.int .i64 0) := (blk_cell BK191.out 4).trans rfl; have hcz22_5 : w17.cell? ⟨gb191, 5, none⟩ = some (.int .i64 0) := (blk_cell BK191.out 5).trans rfl; have hfz22_0 := blk_frozen BK191.out 0; have hfz22_1 := blk_frozen BK191.out 1; have hfz22_2 := blk_frozen BK191.out 2; have hfz22_3 := blk_frozen BK191.out 3; have hfz22_4 := blk_frozen BK191.out 4; have hfz22_5 := blk_frozen BK191.out 5) | ((with_reducible refine gate_callee (f := 39) rfl ?_); refine goesL_ (some 15) rfl rfl Try.func39 (by kernel_rfl) rfl #[.pointer (some ⟨g173, 0, none⟩), .int .i64 6] rfl (by (try simp only [List.map_toArray, List.map_cons, List.map_nil]); first | done | rfl | (simp only [List.length_drop, List.length_take]; rfl)) ?_; (with_reducible refine (spec_l1Below.calls g173 t170 t189 t190 6 t192 t193 t194 w _ ?side1 ?side2 A5.out).mono ?_); (case side1 => repeat (first | (with_reducible first | exact HI173.out | apply IsS114.alloc | apply IsS114.drewN | apply IsS114.drew | apply IsS114.set_1 | apply IsS114.set_2 | refine IsS114.far ?_ NB173_168.out _ | refine IsS114.far ?_ NB173_169.out _ | refine IsS114.far ?_ NB173_182.out _ | refine IsS114.far ?_ NB173_191.out _) | exact HI173.out)); (case side2 => repeat (first | (with_reducible first | exact HB.out | apply below_alloc | apply pw_below_drewN | apply below_drew1 | refine below_set ?_ (IsS114.ge HI173.out) | refine below_set ?_ GE168.out | refine below_set ?_ GE169.out | refine below_set ?_ GE182.out | refine below_set ?_ GE191.out) | exact HB.out)); rintro e w23 ⟨rfl, hi, hb, hk⟩; refine ⟨_, rfl, ?_⟩; have n0_ := Aside0.mk (KeepBut.blk hk (g' := gb168) (o := .cells #[.int .i64 0, .bool false, .int .i64 0, .int .i64 0, .int .i64 0, .int .i64 0] 25 (0, 0)) (by (with_reducible repeat (first | refine blk_drewN ?_ _ | refine blk_drew ?_ | refine blk_alloc ?_ _)); refine blk_far ?_ NB168_191.out _; (with_reducible repeat (first | refine blk_drewN ?_ _ | refine blk_drew ?_ | refine blk_alloc ?_ _)); refine blk_far ?_ NB168_191.out _; (with_reducible repeat (first | refine blk_drewN ?_ _ | refine blk_drew ?_ | refine blk_alloc ?_ _)); refine blk_far ?_ NB168_191.out _; (with_reducible repeat (first | refine blk_drewN ?_ _ | refine blk_drew ?_ | refine blk_alloc ?_ _)); refine blk_far ?_ NB168_191.out _; (with_reducible repeat (first | refine blk_drewN ?_ _ | refine blk_drew ?_ | refine blk_alloc ?_ _)); refine blk_far ?_ NB168_191.out _; (with_reducible repeat (first | refine blk_drewN ?_ _ | refine blk_drew ?_ | refine blk_alloc ?_ _)); refine blk_far ?_ NB168_191.out _; (with_reducible repeat (first | refine blk_drewN ?_ _ | refine blk_drew ?_ | refine blk_alloc ?_ _)); exact BK168.out) NB168_173.out (by simp)); have n1_ := Aside0.mk (KeepBut.blk hk (g' := gb169) (o := .cells #[.int .i64 0, .bool false, .int .i64 0, .int .i64 0, .int .i64 0, .int .i64 0] 25 (0, 0)) (by (with_reducible repeat (first | refine blk_drewN ?_ _ | refine blk_drew ?_ | refine blk_alloc ?_ _)); refine blk_far ?_ NB169_191.out _; (with_reducible repeat (first | refine blk_drewN ?_ _ | refine blk_drew ?_ | refine blk_alloc ?_ _)); refine blk_far ?_ NB169_191.out _; (with_reducible repeat (first | refine blk_drewN ?_ _ | refine blk_drew ?_ | refine blk_alloc ?_ _)); refine blk_far ?_ NB169_191.out _; (with_reducible repeat (first | refine blk_drewN ?_ _ | refine blk_drew ?_ | refine blk_alloc ?_ _)); refine blk_far ?_ NB169_191.out _; (with_reducible repeat (first | refine blk_drewN ?_ _ | refine blk_drew ?_ | refine blk_alloc ?_ _)); refine blk_far ?_ NB169_191.out _; (with_reducible repeat (first | refine blk_drewN ?_ _ | refine blk_drew ?_ | refine blk_alloc ?_ _)); refine blk_far ?_ NB169_191.out _; (with_reducible repeat (first | refine blk_drewN ?_ _ | refine blk_drew ?_ | refine blk_alloc ?_ _)); exact BK169.out) NB169_173.out (by simp)); have n2_ := Aside0.mk (KeepBut.blk hk (g' := gb182) (o := .cells #[.int .i64 t174, .bool t175, .int .i64 t176, .int .i64 t177, .int .i64 t178, .int .i64 t179] 25 (0, 0)) (by (with_reducible repeat (first | refine blk_drewN ?_ _ | refine blk_drew ?_ | refine blk_alloc ?_ _)); refine blk_far ?_ NB182_191.out _; (with_reducible repeat (first | refine blk_drewN ?_ _ | refine blk_drew ?_ | refine blk_alloc ?_ _)); refine blk_far ?_ NB182_191.out _; (with_reducible repeat (first | refine blk_drewN ?_ _ | refine blk_drew ?_ | refine blk_alloc ?_ _)); refine blk_far ?_ NB182_191.out _; (with_reducible repeat (first | refine blk_drewN ?_ _ | refine blk_drew ?_ | refine blk_alloc ?_ _)); refine blk_far ?_ NB182_191.out _; (with_reducible repeat (first | refine blk_drewN ?_ _ | refine blk_drew ?_ | refine blk_alloc ?_ _)); refine blk_far ?_ NB182_191.out _; (with_reducible repeat (first | refine blk_drewN ?_ _ | refine blk_drew ?_ | refine blk_alloc ?_ _)); refine blk_far ?_ NB182_191.out _; (with_reducible repeat (first | refine blk_drewN ?_ _ | refine blk_drew ?_ | refine blk_alloc ?_ _)); exact BK182.out) NB182_173.out (by simp)); have n3_ := Aside0.mk (KeepBut.blk hk (g' := gb191) (o := .cells #[.int .i64 t183, .bool t184, .int .i64 t185, .int .i64 t186, .int .i64 t187, .int .i64 t188] 25 (0, 0)) (by (with_reducible repeat (first | refine blk_drewN ?_ _ | refine blk_drew ?_ | refine blk_alloc ?_ _)); refine blk_put (cs := #[.int .i64 t183, .bool t184, .int .i64 t185, .int .i64 t186, .int .i64 t187, .int .i64 0]) ?_ 5 _ rfl; (with_reducible repeat (first | refine blk_drewN ?_ _ | refine blk_drew ?_ | refine blk_alloc ?_ _)); refine blk_put (cs := #[.int .i64 t183, .bool t184, .int .i64 t185, .int .i64 t186, .int .i64 0, .int .i64 0]) ?_ 4 _ rfl; (with_reducible repeat (first | refine blk_drewN ?_ _ | refine blk_drew ?_ | refine blk_alloc ?_ _)); refine blk_put (cs := #[.int .i64 t183, .bool t184, .int .i64 t185, .int .i64 0, .int .i64 0, .int .i64 0]) ?_ 3 _ rfl; (with_reducible repeat (first | refine blk_drewN ?_ _ | refine blk_drew ?_ | refine blk_alloc ?_ _)); refine blk_put (cs := #[.int .i64 t183, .bool t184, .int .i64 0, .int .i64 0, .int .i64 0, .int .i64 0]) ?_ 2 _ rfl; (with_reducible repeat (first | refine blk_drewN ?_ _ | refine blk_drew ?_ | refine blk_alloc ?_ _)); refine blk_put (cs := #[.int .i64 t183, .bool false, .int .i64 0, .int .i64 0, .int .i64 0, .int .i64 0]) ?_ 1 _ rfl; (with_reducible repeat (first | refine blk_drewN ?_ _ | refine blk_drew ?_ | refine blk_alloc ?_ _)); refine blk_put (cs := #[.int .i64 0, .bool false, .int .i64 0, .int .i64 0, .int .i64 0, .int .i64 0]) ?_ 0 _ rfl; (with_reducible repeat (first | refine blk_drewN ?_ _ | refine blk_drew ?_ | refine blk_alloc ?_ _)); exact BK191.out) NB191_173.out (by simp)); have n4_ := Aside0.mk (hb); have n5_ := Aside0.mk (hi); clear BK168; clear BK169; clear BK182; clear BK191; clear HB; clear HI173; have BK168 := n0_; have BK169 := n1_; have BK182 := n2_; have BK191 := n3_; have HB := n4_; have HI173 := n5_; clear n0_ n1_ n2_ n3_ n4_ n5_; (try clear hb); (try clear hb2); (try clear hk); (try clear hi)))
  (try simp only [Act.put, List.setIfInBounds_toArray, List.set_cons_zero, List.set_cons_succ])
  go_cut [] (fun wc => ∃ (kq : Nat) (x174001_5 : Int) (x174002_5 : Int) (x183000_5 : Int) (x183001_5 : Bool) (x183002_5 : Int) (x183003_5 : Int) (x183004_5 : Int) (x183005_5 : Int), Aside0 (spec_DrawJoinVals.j0 kq t192 t170 x174001_5 x174002_5 x183000_5 x183001_5 x183002_5 x183003_5 x183004_5 x183005_5 t183 t184 t185 t186 t187 t188 = some (r1, r2, r3, r4, r5, r6, r7, r8, r9, r10, r11, r12)) ∧ Aside0 (kq ≤ k) ∧ Aside0 (wc.heap[gb168]? = some (.cells #[.int .i64 0, .bool false, .int .i64 0, .int .i64 0, .int .i64 0, .int .i64 0] 25 (0, 0))) ∧ Aside0 (wc.heap[gb169]? = some (.cells #[.int .i64 0, .bool false, .int .i64 0, .int .i64 0, .int .i64 0, .int .i64 0] 25 (0, 0))) ∧ Aside0 (wc.heap[gb182]? = some (.cells #[.int .i64 x183000_5, .bool x183001_5, .int .i64 x183002_5, .int .i64 x183003_5, .int .i64 x183004_5, .int .i64 x183005_5] 25 (0, 0))) ∧ Aside0 (wc.heap[gb191]? = some (.cells #[.int .i64 t183, .bool t184, .int .i64 t185, .int .i64 t186, .int .i64 t187, .int .i64 t188] 25 (0, 0))) ∧ Aside0 (IsS114 w wc g173 t170 x174001_5 x174002_5) ∧ Aside0 (Below w.heap.size w wc))
  case first =>
    have H := HC6.out
    clear HC6
    by_cases c24 : t192 < 3
    · rw [if_pos c24] at H
      have c24b0 : decide (t192 < 3) = true := decide_eq_true c24
      clear c24
      (first | rw [c24b0] | (simp only [i64_w, i32_w]; rw [c24b0]) | skip)
      replace H := Option.bind_eq_some_iff.mp H
      obtain ⟨⟨t195, t196, t197, t198, t199, t200, t201, t202⟩, A250, H⟩ := H
      replace H : (spec_DrawJoinVals.j0 k t192 t170 t201 t202 t195 t196 t197 t198 t199 t200 t183 t184 t185 t186 t187 t188) = some (r1, r2, r3, r4, r5, r6, r7, r8, r9, r10, r11, r12) := H
      have A25 := Aside0.mk A250
      clear A250
      have H' := Aside0.mk H
      clear H
      go_wp2_with (first | ((with_reducible refine gate_callee (f := 40) rfl ?_); refine goesL_ (some 19) rfl rfl Try.func40 (by kernel_rfl) rfl #[.pointer (some ⟨g173, 0, none⟩), .int .i64 2] rfl (by (try simp only [List.map_toArray, List.map_cons, List.map_nil]); first | done | rfl | (simp only [List.length_drop, List.length_take]; rfl)) ?_; (with_reducible refine (spec_l4DrawPtr.calls g173 t170 t193 t194 2 t195 t196 t197 t198 t199 t200 t201 t202 w _ ?side1 ?side2 A25.out).mono ?_); (case side1 => repeat (first | (with_reducible first | exact HI173.out | apply IsS114.alloc | apply IsS114.drewN | apply IsS114.drew | apply IsS114.set_1 | apply IsS114.set_2 | refine IsS114.far ?_ NB173_168.out _ | refine IsS114.far ?_ NB173_169.out _ | refine IsS114.far ?_ NB173_182.out _ | refine IsS114.far ?_ NB173_191.out _) | exact HI173.out)); (case side2 => repeat (first | (with_reducible first | exact HB.out | apply below_alloc | apply pw_below_drewN | apply below_drew1 | refine below_set ?_ (IsS114.ge HI173.out) | refine below_set ?_ GE168.out | refine below_set ?_ GE169.out | refine below_set ?_ GE182.out | refine below_set ?_ GE191.out) | exact HB.out)); rintro e w26 ⟨rfl, hi, hb, hk⟩; refine ⟨_, rfl, ?_⟩; have n0_ := Aside0.mk (KeepBut.blk hk (g' := gb168) (o := .cells #[.int .i64 0, .bool false, .int .i64 0, .int .i64 0, .int .i64 0, .int .i64 0] 25 (0, 0)) (by (with_reducible repeat (first | refine blk_drewN ?_ _ | refine blk_drew ?_ | refine blk_alloc ?_ _)); exact BK168.out) NB168_173.out (by simp)); have n1_ := Aside0.mk (KeepBut.blk hk (g' := gb169) (o := .cells #[.int .i64 0, .bool false, .int .i64 0, .int .i64 0, .int .i64 0, .int .i64 0] 25 (0, 0)) (by (with_reducible repeat (first | refine blk_drewN ?_ _ | refine blk_drew ?_ | refine blk_alloc ?_ _)); exact BK169.out) NB169_173.out (by simp)); have n2_ := Aside0.mk (KeepBut.blk hk (g' := gb182) (o := .cells #[.int .i64 t174, .bool t175, .int .i64 t176, .int .i64 t177, .int .i64 t178, .int .i64 t179] 25 (0, 0)) (by (with_reducible repeat (first | refine blk_drewN ?_ _ | refine blk_drew ?_ | refine blk_alloc ?_ _)); exact BK182.out) NB182_173.out (by simp)); have n3_ := Aside0.mk (KeepBut.blk hk (g' := gb191) (o := .cells #[.int .i64 t183, .bool t184, .int .i64 t185, .int .i64 t186, .int .i64 t187, .int .i64 t188] 25 (0, 0)) (by (with_reducible repeat (first | refine blk_drewN ?_ _ | refine blk_drew ?_ | refine blk_alloc ?_ _)); exact BK191.out) NB191_173.out (by simp)); have n4_ := Aside0.mk (hb); have n5_ := Aside0.mk (hi); clear BK168; clear BK169; clear BK182; clear BK191; clear HB; clear HI173; have BK168 := n0_; have BK169 := n1_; have BK182 := n2_; have BK191 := n3_; have HB := n4_; have HI173 := n5_; clear n0_ n1_ n2_ n3_ n4_ n5_; (try clear hb); (try clear hb2); (try clear hk); (try clear hi); have hnb27 := NB182_168.out; have hnc27 := NB168_182.out; have hnb28 := NB182_169.out; have hnc28 := NB169_182.out; have hnb29 := NB182_191.out; have hnc29 := NB191_182.out; have hnb30 := NB182_173.out; have hnc30 := NB173_182.out; have hcz31_0 : w26.cell? ⟨gb182, 0, none⟩ = some (.int .i64 t174) := (blk_cell BK182.out 0).trans rfl; have hcz31_1 : w26.cell? ⟨gb182, 1, none⟩ = some (.bool t175) := (blk_cell BK182.out 1).trans rfl; have hcz31_2 : w26.cell? ⟨gb182, 2, none⟩ = some (.int .i64 t176) := (blk_cell BK182.out 2).trans rfl; have hcz31_3 : w26.cell? ⟨gb182, 3, none⟩ = some (.int .i64 t177) := (blk_cell BK182.out 3).trans rfl; have hcz31_4 : w26.cell? ⟨gb182, 4, none⟩ = some (.int .i64 t178) := (blk_cell BK182.out 4).trans rfl; have hcz31_5 : w26.cell? ⟨gb182, 5, none⟩ = some (.int .i64 t179) := (blk_cell BK182.out 5).trans rfl; have hfz31_0 := blk_frozen BK182.out 0; have hfz31_1 := blk_frozen BK182.out 1; have hfz31_2 := blk_frozen BK182.out 2; have hfz31_3 := blk_frozen BK182.out 3; have hfz31_4 := blk_frozen BK182.out 4; have hfz31_5 := blk_frozen BK182.out 5))
      go_meet
      case rel => exact ⟨_, (t201), (t202), (t195), (t196), (t197), (t198), (t199), (t200), H', ⟨by first | omega | exact Nat.le_refl _⟩, ⟨by (with_reducible repeat (first | refine blk_drewN ?_ _ | refine blk_drew ?_ | refine blk_alloc ?_ _)); refine blk_far ?_ NB168_182.out _; (with_reducible repeat (first | refine blk_drewN ?_ _ | refine blk_drew ?_ | refine blk_alloc ?_ _)); refine blk_far ?_ NB168_182.out _; (with_reducible repeat (first | refine blk_drewN ?_ _ | refine blk_drew ?_ | refine blk_alloc ?_ _)); refine blk_far ?_ NB168_182.out _; (with_reducible repeat (first | refine blk_drewN ?_ _ | refine blk_drew ?_ | refine blk_alloc ?_ _)); refine blk_far ?_ NB168_182.out _; (with_reducible repeat (first | refine blk_drewN ?_ _ | refine blk_drew ?_ | refine blk_alloc ?_ _)); refine blk_far ?_ NB168_182.out _; (with_reducible repeat (first | refine blk_drewN ?_ _ | refine blk_drew ?_ | refine blk_alloc ?_ _)); refine blk_far ?_ NB168_182.out _; (with_reducible repeat (first | refine blk_drewN ?_ _ | refine blk_drew ?_ | refine blk_alloc ?_ _)); exact BK168.out⟩, ⟨by (with_reducible repeat (first | refine blk_drewN ?_ _ | refine blk_drew ?_ | refine blk_alloc ?_ _)); refine blk_far ?_ NB169_182.out _; (with_reducible repeat (first | refine blk_drewN ?_ _ | refine blk_drew ?_ | refine blk_alloc ?_ _)); refine blk_far ?_ NB169_182.out _; (with_reducible repeat (first | refine blk_drewN ?_ _ | refine blk_drew ?_ | refine blk_alloc ?_ _)); refine blk_far ?_ NB169_182.out _; (with_reducible repeat (first | refine blk_drewN ?_ _ | refine blk_drew ?_ | refine blk_alloc ?_ _)); refine blk_far ?_ NB169_182.out _; (with_reducible repeat (first | refine blk_drewN ?_ _ | refine blk_drew ?_ | refine blk_alloc ?_ _)); refine blk_far ?_ NB169_182.out _; (with_reducible repeat (first | refine blk_drewN ?_ _ | refine blk_drew ?_ | refine blk_alloc ?_ _)); refine blk_far ?_ NB169_182.out _; (with_reducible repeat (first | refine blk_drewN ?_ _ | refine blk_drew ?_ | refine blk_alloc ?_ _)); exact BK169.out⟩, ⟨by (with_reducible repeat (first | refine blk_drewN ?_ _ | refine blk_drew ?_ | refine blk_alloc ?_ _)); refine blk_put (cs := #[.int .i64 t195, .bool t196, .int .i64 t197, .int .i64 t198, .int .i64 t199, .int .i64 t179]) ?_ 5 _ rfl; (with_reducible repeat (first | refine blk_drewN ?_ _ | refine blk_drew ?_ | refine blk_alloc ?_ _)); refine blk_put (cs := #[.int .i64 t195, .bool t196, .int .i64 t197, .int .i64 t198, .int .i64 t178, .int .i64 t179]) ?_ 4 _ rfl; (with_reducible repeat (first | refine blk_drewN ?_ _ | refine blk_drew ?_ | refine blk_alloc ?_ _)); refine blk_put (cs := #[.int .i64 t195, .bool t196, .int .i64 t197, .int .i64 t177, .int .i64 t178, .int .i64 t179]) ?_ 3 _ rfl; (with_reducible repeat (first | refine blk_drewN ?_ _ | refine blk_drew ?_ | refine blk_alloc ?_ _)); refine blk_put (cs := #[.int .i64 t195, .bool t196, .int .i64 t176, .int .i64 t177, .int .i64 t178, .int .i64 t179]) ?_ 2 _ rfl; (with_reducible repeat (first | refine blk_drewN ?_ _ | refine blk_drew ?_ | refine blk_alloc ?_ _)); refine blk_put (cs := #[.int .i64 t195, .bool t175, .int .i64 t176, .int .i64 t177, .int .i64 t178, .int .i64 t179]) ?_ 1 _ rfl; (with_reducible repeat (first | refine blk_drewN ?_ _ | refine blk_drew ?_ | refine blk_alloc ?_ _)); refine blk_put (cs := #[.int .i64 t174, .bool t175, .int .i64 t176, .int .i64 t177, .int .i64 t178, .int .i64 t179]) ?_ 0 _ rfl; (with_reducible repeat (first | refine blk_drewN ?_ _ | refine blk_drew ?_ | refine blk_alloc ?_ _)); exact BK182.out⟩, ⟨by (with_reducible repeat (first | refine blk_drewN ?_ _ | refine blk_drew ?_ | refine blk_alloc ?_ _)); refine blk_far ?_ NB191_182.out _; (with_reducible repeat (first | refine blk_drewN ?_ _ | refine blk_drew ?_ | refine blk_alloc ?_ _)); refine blk_far ?_ NB191_182.out _; (with_reducible repeat (first | refine blk_drewN ?_ _ | refine blk_drew ?_ | refine blk_alloc ?_ _)); refine blk_far ?_ NB191_182.out _; (with_reducible repeat (first | refine blk_drewN ?_ _ | refine blk_drew ?_ | refine blk_alloc ?_ _)); refine blk_far ?_ NB191_182.out _; (with_reducible repeat (first | refine blk_drewN ?_ _ | refine blk_drew ?_ | refine blk_alloc ?_ _)); refine blk_far ?_ NB191_182.out _; (with_reducible repeat (first | refine blk_drewN ?_ _ | refine blk_drew ?_ | refine blk_alloc ?_ _)); refine blk_far ?_ NB191_182.out _; (with_reducible repeat (first | refine blk_drewN ?_ _ | refine blk_drew ?_ | refine blk_alloc ?_ _)); exact BK191.out⟩, ⟨by repeat (first | (with_reducible first | exact HI173.out | apply IsS114.alloc | apply IsS114.drewN | apply IsS114.drew | apply IsS114.set_1 | apply IsS114.set_2 | refine IsS114.far ?_ NB173_168.out _ | refine IsS114.far ?_ NB173_169.out _ | refine IsS114.far ?_ NB173_182.out _ | refine IsS114.far ?_ NB173_191.out _) | exact HI173.out)⟩, ⟨by repeat (first | (with_reducible first | exact HB.out | apply below_alloc | apply pw_below_drewN | apply below_drew1 | refine below_set ?_ (IsS114.ge HI173.out) | refine below_set ?_ GE168.out | refine below_set ?_ GE169.out | refine below_set ?_ GE182.out | refine below_set ?_ GE191.out) | exact HB.out)⟩⟩
    · rw [if_neg c24] at H
      have c24b0 : decide (t192 < 3) = false := decide_eq_false c24
      clear c24
      (first | rw [c24b0] | (simp only [i64_w, i32_w]; rw [c24b0]) | skip)
      have H' := Aside0.mk H
      clear H
      go_wp2
      go_meet
      case rel => exact ⟨_, (t193), (t194), (t174), (t175), (t176), (t177), (t178), (t179), H', ⟨by first | omega | exact Nat.le_refl _⟩, ⟨by (with_reducible repeat (first | refine blk_drewN ?_ _ | refine blk_drew ?_ | refine blk_alloc ?_ _)); exact BK168.out⟩, ⟨by (with_reducible repeat (first | refine blk_drewN ?_ _ | refine blk_drew ?_ | refine blk_alloc ?_ _)); exact BK169.out⟩, ⟨by (with_reducible repeat (first | refine blk_drewN ?_ _ | refine blk_drew ?_ | refine blk_alloc ?_ _)); exact BK182.out⟩, ⟨by (with_reducible repeat (first | refine blk_drewN ?_ _ | refine blk_drew ?_ | refine blk_alloc ?_ _)); exact BK191.out⟩, ⟨by repeat (first | (with_reducible first | exact HI173.out | apply IsS114.alloc | apply IsS114.drewN | apply IsS114.drew | apply IsS114.set_1 | apply IsS114.set_2 | refine IsS114.far ?_ NB173_168.out _ | refine IsS114.far ?_ NB173_169.out _ | refine IsS114.far ?_ NB173_182.out _ | refine IsS114.far ?_ NB173_191.out _) | exact HI173.out)⟩, ⟨by repeat (first | (with_reducible first | exact HB.out | apply below_alloc | apply pw_below_drewN | apply below_drew1 | refine below_set ?_ (IsS114.ge HI173.out) | refine below_set ?_ GE168.out | refine below_set ?_ GE169.out | refine below_set ?_ GE182.out | refine below_set ?_ GE191.out) | exact HB.out)⟩⟩
  case rest =>
    clear HC6
    try clear c1
    try clear c2
    try clear p2
    try clear c3
    try clear c4
    try clear c12
    try clear c13
    try clear c14
    try clear c15
    try clear c18
    try clear c19
    try clear c20
    try clear c21
    try clear c24
    try clear c24b0
    try clear c27
    try clear c28
    try clear c29
    try clear c30
    try clear hcz15_0
    try clear hcz15_1
    try clear hcz15_2
    try clear hcz15_3
    try clear hcz15_4
    try clear hcz15_5
    try clear hcz22_0
    try clear hcz22_1
    try clear hcz22_2
    try clear hcz22_3
    try clear hcz22_4
    try clear hcz22_5
    try clear hcz31_0
    try clear hcz31_1
    try clear hcz31_2
    try clear hcz31_3
    try clear hcz31_4
    try clear hcz31_5
    try clear hfz15_0
    try clear hfz15_1
    try clear hfz15_2
    try clear hfz15_3
    try clear hfz15_4
    try clear hfz15_5
    try clear hfz22_0
    try clear hfz22_1
    try clear hfz22_2
    try clear hfz22_3
    try clear hfz22_4
    try clear hfz22_5
    try clear hfz31_0
    try clear hfz31_1
    try clear hfz31_2
    try clear hfz31_3
    try clear hfz31_4
    try clear hfz31_5
    obtain ⟨kq, x174001_5, x174002_5, x183000_5, x183001_5, x183002_5, x183003_5, x183004_5, x183005_5, HA, HJ5, BK168, BK169, BK182, BK191, HI173, HB⟩ := hcut
    cases kq with
    | zero => exact absurd HA.out (by simp [spec_DrawJoinVals.j0])
    | succ kj5 =>
      have H := HA.out
      clear HA
      simp only [spec_DrawJoinVals.j0] at H
      have HC32 := Aside0.mk H
      clear H
      go_upto_region 7 with (fail)
      go_cut [25] (fun v25 wc => ∃ (kq : Nat) (x25_31 : Bool), v25 = .bool x25_31 ∧ Aside0 (spec_DrawJoinVals.j1 kq x25_31 t170 x174001_5 x174002_5 x183000_5 x183001_5 x183002_5 x183003_5 x183004_5 x183005_5 t183 t184 t185 t186 t187 t188 = some (r1, r2, r3, r4, r5, r6, r7, r8, r9, r10, r11, r12)) ∧ Aside0 (kq ≤ kj5) ∧ Aside0 (wc.heap[gb168]? = some (.cells #[.int .i64 0, .bool false, .int .i64 0, .int .i64 0, .int .i64 0, .int .i64 0] 25 (0, 0))) ∧ Aside0 (wc.heap[gb169]? = some (.cells #[.int .i64 0, .bool false, .int .i64 0, .int .i64 0, .int .i64 0, .int .i64 0] 25 (0, 0))) ∧ Aside0 (wc.heap[gb182]? = some (.cells #[.int .i64 x183000_5, .bool x183001_5, .int .i64 x183002_5, .int .i64 x183003_5, .int .i64 x183004_5, .int .i64 x183005_5] 25 (0, 0))) ∧ Aside0 (wc.heap[gb191]? = some (.cells #[.int .i64 t183, .bool t184, .int .i64 t185, .int .i64 t186, .int .i64 t187, .int .i64 t188] 25 (0, 0))) ∧ Aside0 (IsS114 w wc g173 t170 x174001_5 x174002_5) ∧ Aside0 (Below w.heap.size w wc))
      case first =>
        have H := HC32.out
        clear HC32
        by_cases c33 : t192 < 2
        · rw [if_pos c33] at H
          have c33b0 : decide (t192 < 2) = true := decide_eq_true c33
          clear c33
          (first | rw [c33b0] | (simp only [i64_w, i32_w]; rw [c33b0]) | skip)
          have H' := Aside0.mk H
          clear H
          go_wp2
          go_meet
          case rel => exact ⟨_, (true), (by first | rfl | (simp; done) | (simp [*]; done)), H', ⟨by have := HJ5.out; first | omega | exact Nat.le_refl _⟩, ⟨by (with_reducible repeat (first | refine blk_drewN ?_ _ | refine blk_drew ?_ | refine blk_alloc ?_ _)); exact BK168.out⟩, ⟨by (with_reducible repeat (first | refine blk_drewN ?_ _ | refine blk_drew ?_ | refine blk_alloc ?_ _)); exact BK169.out⟩, ⟨by (with_reducible repeat (first | refine blk_drewN ?_ _ | refine blk_drew ?_ | refine blk_alloc ?_ _)); exact BK182.out⟩, ⟨by (with_reducible repeat (first | refine blk_drewN ?_ _ | refine blk_drew ?_ | refine blk_alloc ?_ _)); exact BK191.out⟩, ⟨by repeat (first | (with_reducible first | exact HI173.out | apply IsS114.alloc | apply IsS114.drewN | apply IsS114.drew | apply IsS114.set_1 | apply IsS114.set_2 | refine IsS114.far ?_ NB173_168.out _ | refine IsS114.far ?_ NB173_169.out _ | refine IsS114.far ?_ NB173_182.out _ | refine IsS114.far ?_ NB173_191.out _) | exact HI173.out)⟩, ⟨by repeat (first | (with_reducible first | exact HB.out | apply below_alloc | apply pw_below_drewN | apply below_drew1 | refine below_set ?_ (IsS114.ge HI173.out) | refine below_set ?_ GE168.out | refine below_set ?_ GE169.out | refine below_set ?_ GE182.out | refine below_set ?_ GE191.out) | exact HB.out)⟩⟩
        · rw [if_neg c33] at H
          have c33b0 : decide (t192 < 2) = false := decide_eq_false c33
          clear c33
          (first | rw [c33b0] | (simp only [i64_w, i32_w]; rw [c33b0]) | skip)
          have H' := Aside0.mk H
          clear H
          go_wp2
          go_meet
          case rel => exact ⟨_, ((t192 == 4)), (by first | rfl | (simp; done) | (simp [*]; done)), H', ⟨by have := HJ5.out; first | omega | exact Nat.le_refl _⟩, ⟨by (with_reducible repeat (first | refine blk_drewN ?_ _ | refine blk_drew ?_ | refine blk_alloc ?_ _)); exact BK168.out⟩, ⟨by (with_reducible repeat (first | refine blk_drewN ?_ _ | refine blk_drew ?_ | refine blk_alloc ?_ _)); exact BK169.out⟩, ⟨by (with_reducible repeat (first | refine blk_drewN ?_ _ | refine blk_drew ?_ | refine blk_alloc ?_ _)); exact BK182.out⟩, ⟨by (with_reducible repeat (first | refine blk_drewN ?_ _ | refine blk_drew ?_ | refine blk_alloc ?_ _)); exact BK191.out⟩, ⟨by repeat (first | (with_reducible first | exact HI173.out | apply IsS114.alloc | apply IsS114.drewN | apply IsS114.drew | apply IsS114.set_1 | apply IsS114.set_2 | refine IsS114.far ?_ NB173_168.out _ | refine IsS114.far ?_ NB173_169.out _ | refine IsS114.far ?_ NB173_182.out _ | refine IsS114.far ?_ NB173_191.out _) | exact HI173.out)⟩, ⟨by repeat (first | (with_reducible first | exact HB.out | apply below_alloc | apply pw_below_drewN | apply below_drew1 | refine below_set ?_ (IsS114.ge HI173.out) | refine below_set ?_ GE168.out | refine below_set ?_ GE169.out | refine below_set ?_ GE182.out | refine below_set ?_ GE191.out) | exact HB.out)⟩⟩
      case rest =>
        clear HC32
        try clear c1
        try clear c2
        try clear p2
        try clear c3
        try clear c4
        try clear c12
        try clear c13
        try clear c14
        try clear c15
        try clear c18
        try clear c19
        try clear c20
        try clear c21
        try clear c24
        try clear c24b0
        try clear c27
        try clear c28
        try clear c29
        try clear c30
        try clear c33
        try clear c33b0
        try clear hcz15_0
        try clear hcz15_1
        try clear hcz15_2
        try clear hcz15_3
        try clear hcz15_4
        try clear hcz15_5
        try clear hcz22_0
        try clear hcz22_1
        try clear hcz22_2
        try clear hcz22_3
        try clear hcz22_4
        try clear hcz22_5
        try clear hcz31_0
        try clear hcz31_1
        try clear hcz31_2
        try clear hcz31_3
        try clear hcz31_4
        try clear hcz31_5
        try clear hfz15_0
        try clear hfz15_1
        try clear hfz15_2
        try clear hfz15_3
        try clear hfz15_4
        try clear hfz15_5
        try clear hfz22_0
        try clear hfz22_1
        try clear hfz22_2
        try clear hfz22_3
        try clear hfz22_4
        try clear hfz22_5
        try clear hfz31_0
        try clear hfz31_1
        try clear hfz31_2
        try clear hfz31_3
        try clear hfz31_4
        try clear hfz31_5
        try clear p2
        obtain ⟨kq, x25_31, rfl, HA, HJ31, BK168, BK169, BK182, BK191, HI173, HB⟩ := hcut
        cases kq with
        | zero => exact absurd HA.out (by simp [spec_DrawJoinVals.j1])
        | succ kj31 =>
          have H := HA.out
          clear HA
          simp only [spec_DrawJoinVals.j1] at H
          by_cases c34 : x25_31 = true
          · subst c34
            have H1 : ((spec_l4DrawPtr.f t170 x174001_5 x174002_5 2).bind fun bt203 => ((spec_l1Once.f t170 bt203.2.2.2.2.2.2.1 bt203.2.2.2.2.2.2.2 20).bind fun bt211 => (if bt211.1 = true then (some (2, x183001_5, x183002_5, x183003_5, x183004_5, x183005_5, bt203.1, bt203.2.1, bt203.2.2.1, bt203.2.2.2.1, bt203.2.2.2.2.1, bt203.2.2.2.2.2.1)) else (some (x183000_5, x183001_5, x183002_5, x183003_5, x183004_5, x183005_5, bt203.1, bt203.2.1, bt203.2.2.1, bt203.2.2.2.1, bt203.2.2.2.2.1, bt203.2.2.2.2.2.1))))) = some (r1, r2, r3, r4, r5, r6, r7, r8, r9, r10, r11, r12) := by rw [if_pos rfl] at H; exact H
            clear H
            have H := H1
            clear H1
            replace H := Option.bind_eq_some_iff.mp H
            obtain ⟨⟨t203, t204, t205, t206, t207, t208, t209, t210⟩, A350, H⟩ := H
            replace H : ((spec_l1Once.f t170 t209 t210 20).bind fun bt211 => (if bt211.1 = true then (some (2, x183001_5, x183002_5, x183003_5, x183004_5, x183005_5, t203, t204, t205, t206, t207, t208)) else (some (x183000_5, x183001_5, x183002_5, x183003_5, x183004_5, x183005_5, t203, t204, t205, t206, t207, t208)))) = some (r1, r2, r3, r4, r5, r6, r7, r8, r9, r10, r11, r12) := H
            have A35 := Aside0.mk A350
            clear A350
            replace H := Option.bind_eq_some_iff.mp H
            obtain ⟨⟨t211, t212, t213⟩, A360, H⟩ := H
            replace H : (if t211 = true then (some (2, x183001_5, x183002_5, x183003_5, x183004_5, x183005_5, t203, t204, t205, t206, t207, t208)) else (some (x183000_5, x183001_5, x183002_5, x183003_5, x183004_5, x183005_5, t203, t204, t205, t206, t207, t208))) = some (r1, r2, r3, r4, r5, r6, r7, r8, r9, r10, r11, r12) := H
            have A36 := Aside0.mk A360
            clear A360
            by_cases c37 : t211 = true
            · subst c37
              have H1 : (some (2, x183001_5, x183002_5, x183003_5, x183004_5, x183005_5, t203, t204, t205, t206, t207, t208)) = some (r1, r2, r3, r4, r5, r6, r7, r8, r9, r10, r11, r12) := by rw [if_pos rfl] at H; exact H
              clear H
              have H := H1
              clear H1
              simp only [Option.some.injEq, Prod.mk.injEq] at H
              obtain ⟨rfl, rfl, rfl, rfl, rfl, rfl, rfl, rfl, rfl, rfl, rfl, rfl⟩ := H
              try go_wp2_with (first | ((with_reducible refine gate_callee (f := 40) rfl ?_); refine goesL_ (some 27) rfl rfl Try.func40 (by kernel_rfl) rfl #[.pointer (some ⟨g173, 0, none⟩), .int .i64 2] rfl (by (try simp only [List.map_toArray, List.map_cons, List.map_nil]); first | done | rfl | (simp only [List.length_drop, List.length_take]; rfl)) ?_; (with_reducible refine (spec_l4DrawPtr.calls g173 t170 x174001_5 x174002_5 2 t203 t204 t205 t206 t207 t208 t209 t210 w _ ?side1 ?side2 A35.out).mono ?_); (case side1 => repeat (first | (with_reducible first | exact HI173.out | apply IsS114.alloc | apply IsS114.drewN | apply IsS114.drew | apply IsS114.set_1 | apply IsS114.set_2 | refine IsS114.far ?_ NB173_168.out _ | refine IsS114.far ?_ NB173_169.out _ | refine IsS114.far ?_ NB173_182.out _ | refine IsS114.far ?_ NB173_191.out _) | exact HI173.out)); (case side2 => repeat (first | (with_reducible first | exact HB.out | apply below_alloc | apply pw_below_drewN | apply below_drew1 | refine below_set ?_ (IsS114.ge HI173.out) | refine below_set ?_ GE168.out | refine below_set ?_ GE169.out | refine below_set ?_ GE182.out | refine below_set ?_ GE191.out) | exact HB.out)); rintro e w38 ⟨rfl, hi, hb, hk⟩; refine ⟨_, rfl, ?_⟩; have n0_ := Aside0.mk (KeepBut.blk hk (g' := gb168) (o := .cells #[.int .i64 0, .bool false, .int .i64 0, .int .i64 0, .int .i64 0, .int .i64 0] 25 (0, 0)) (by (with_reducible repeat (first | refine blk_drewN ?_ _ | refine blk_drew ?_ | refine blk_alloc ?_ _)); exact BK168.out) NB168_173.out (by simp)); have n1_ := Aside0.mk (KeepBut.blk hk (g' := gb169) (o := .cells #[.int .i64 0, .bool false, .int .i64 0, .int .i64 0, .int .i64 0, .int .i64 0] 25 (0, 0)) (by (with_reducible repeat (first | refine blk_drewN ?_ _ | refine blk_drew ?_ | refine blk_alloc ?_ _)); exact BK169.out) NB169_173.out (by simp)); have n2_ := Aside0.mk (KeepBut.blk hk (g' := gb182) (o := .cells #[.int .i64 x183000_5, .bool x183001_5, .int .i64 x183002_5, .int .i64 x183003_5, .int .i64 x183004_5, .int .i64 x183005_5] 25 (0, 0)) (by (with_reducible repeat (first | refine blk_drewN ?_ _ | refine blk_drew ?_ | refine blk_alloc ?_ _)); exact BK182.out) NB182_173.out (by simp)); have n3_ := Aside0.mk (KeepBut.blk hk (g' := gb191) (o := .cells #[.int .i64 t183, .bool t184, .int .i64 t185, .int .i64 t186, .int .i64 t187, .int .i64 t188] 25 (0, 0)) (by (with_reducible repeat (first | refine blk_drewN ?_ _ | refine blk_drew ?_ | refine blk_alloc ?_ _)); exact BK191.out) NB191_173.out (by simp)); have n4_ := Aside0.mk (hb); have n5_ := Aside0.mk (hi); clear BK168; clear BK169; clear BK182; clear BK191; clear HB; clear HI173; have BK168 := n0_; have BK169 := n1_; have BK182 := n2_; have BK191 := n3_; have HB := n4_; have HI173 := n5_; clear n0_ n1_ n2_ n3_ n4_ n5_; (try clear hb); (try clear hb2); (try clear hk); (try clear hi); have hnb39 := NB191_168.out; have hnc39 := NB168_191.out; have hnb40 := NB191_169.out; have hnc40 := NB169_191.out; have hnb41 := NB191_182.out; have hnc41 := NB182_191.out; have hnb42 := NB191_173.out; have hnc42 := NB173_191.out; have hcz43_0 : w38.cell? ⟨gb191, 0, none⟩ = some (.int .i64 t183) := (blk_cell BK191.out 0).trans rfl; have hcz43_1 : w38.cell? ⟨gb191, 1, none⟩ = some (.bool t184) := (blk_cell BK191.out 1).trans rfl; have hcz43_2 : w38.cell? ⟨gb191, 2, none⟩ = some (.int .i64 t185) := (blk_cell BK191.out 2).trans rfl; have hcz43_3 : w38.cell? ⟨gb191, 3, none⟩ = some (.int .i64 t186) := (blk_cell BK191.out 3).trans rfl; have hcz43_4 : w38.cell? ⟨gb191, 4, none⟩ = some (.int .i64 t187) := (blk_cell BK191.out 4).trans rfl; have hcz43_5 : w38.cell? ⟨gb191, 5, none⟩ = some (.int .i64 t188) := (blk_cell BK191.out 5).trans rfl; have hfz43_0 := blk_frozen BK191.out 0; have hfz43_1 := blk_frozen BK191.out 1; have hfz43_2 := blk_frozen BK191.out 2; have hfz43_3 := blk_frozen BK191.out 3; have hfz43_4 := blk_frozen BK191.out 4; have hfz43_5 := blk_frozen BK191.out 5) | ((with_reducible refine gate_callee (f := 41) rfl ?_); refine goesL_ (some 29) rfl rfl Try.func41 (by kernel_rfl) rfl #[.pointer (some ⟨g173, 0, none⟩), .int .i64 20] rfl (by (try simp only [List.map_toArray, List.map_cons, List.map_nil]); first | done | rfl | (simp only [List.length_drop, List.length_take]; rfl)) ?_; (with_reducible refine (spec_l1Once.calls g173 t170 t209 t210 20 true t212 t213 w _ ?side1 ?side2 A36.out).mono ?_); (case side1 => repeat (first | (with_reducible first | exact HI173.out | apply IsS114.alloc | apply IsS114.drewN | apply IsS114.drew | apply IsS114.set_1 | apply IsS114.set_2 | refine IsS114.far ?_ NB173_168.out _ | refine IsS114.far ?_ NB173_169.out _ | refine IsS114.far ?_ NB173_182.out _ | refine IsS114.far ?_ NB173_191.out _) | exact HI173.out)); (case side2 => repeat (first | (with_reducible first | exact HB.out | apply below_alloc | apply pw_below_drewN | apply below_drew1 | refine below_set ?_ (IsS114.ge HI173.out) | refine below_set ?_ GE168.out | refine below_set ?_ GE169.out | refine below_set ?_ GE182.out | refine below_set ?_ GE191.out) | exact HB.out)); rintro e w44 ⟨rfl, hi, hb, hk⟩; refine ⟨_, rfl, ?_⟩; have n0_ := Aside0.mk (KeepBut.blk hk (g' := gb168) (o := .cells #[.int .i64 0, .bool false, .int .i64 0, .int .i64 0, .int .i64 0, .int .i64 0] 25 (0, 0)) (by (with_reducible repeat (first | refine blk_drewN ?_ _ | refine blk_drew ?_ | refine blk_alloc ?_ _)); refine blk_far ?_ NB168_191.out _; (with_reducible repeat (first | refine blk_drewN ?_ _ | refine blk_drew ?_ | refine blk_alloc ?_ _)); refine blk_far ?_ NB168_191.out _; (with_reducible repeat (first | refine blk_drewN ?_ _ | refine blk_drew ?_ | refine blk_alloc ?_ _)); refine blk_far ?_ NB168_191.out _; (with_reducible repeat (first | refine blk_drewN ?_ _ | refine blk_drew ?_ | refine blk_alloc ?_ _)); refine blk_far ?_ NB168_191.out _; (with_reducible repeat (first | refine blk_drewN ?_ _ | refine blk_drew ?_ | refine blk_alloc ?_ _)); refine blk_far ?_ NB168_191.out _; (with_reducible repeat (first | refine blk_drewN ?_ _ | refine blk_drew ?_ | refine blk_alloc ?_ _)); refine blk_far ?_ NB168_191.out _; (with_reducible repeat (first | refine blk_drewN ?_ _ | refine blk_drew ?_ | refine blk_alloc ?_ _)); exact BK168.out) NB168_173.out (by simp)); have n1_ := Aside0.mk (KeepBut.blk hk (g' := gb169) (o := .cells #[.int .i64 0, .bool false, .int .i64 0, .int .i64 0, .int .i64 0, .int .i64 0] 25 (0, 0)) (by (with_reducible repeat (first | refine blk_drewN ?_ _ | refine blk_drew ?_ | refine blk_alloc ?_ _)); refine blk_far ?_ NB169_191.out _; (with_reducible repeat (first | refine blk_drewN ?_ _ | refine blk_drew ?_ | refine blk_alloc ?_ _)); refine blk_far ?_ NB169_191.out _; (with_reducible repeat (first | refine blk_drewN ?_ _ | refine blk_drew ?_ | refine blk_alloc ?_ _)); refine blk_far ?_ NB169_191.out _; (with_reducible repeat (first | refine blk_drewN ?_ _ | refine blk_drew ?_ | refine blk_alloc ?_ _)); refine blk_far ?_ NB169_191.out _; (with_reducible repeat (first | refine blk_drewN ?_ _ | refine blk_drew ?_ | refine blk_alloc ?_ _)); refine blk_far ?_ NB169_191.out _; (with_reducible repeat (first | refine blk_drewN ?_ _ | refine blk_drew ?_ | refine blk_alloc ?_ _)); refine blk_far ?_ NB169_191.out _; (with_reducible repeat (first | refine blk_drewN ?_ _ | refine blk_drew ?_ | refine blk_alloc ?_ _)); exact BK169.out) NB169_173.out (by simp)); have n2_ := Aside0.mk (KeepBut.blk hk (g' := gb182) (o := .cells #[.int .i64 x183000_5, .bool x183001_5, .int .i64 x183002_5, .int .i64 x183003_5, .int .i64 x183004_5, .int .i64 x183005_5] 25 (0, 0)) (by (with_reducible repeat (first | refine blk_drewN ?_ _ | refine blk_drew ?_ | refine blk_alloc ?_ _)); refine blk_far ?_ NB182_191.out _; (with_reducible repeat (first | refine blk_drewN ?_ _ | refine blk_drew ?_ | refine blk_alloc ?_ _)); refine blk_far ?_ NB182_191.out _; (with_reducible repeat (first | refine blk_drewN ?_ _ | refine blk_drew ?_ | refine blk_alloc ?_ _)); refine blk_far ?_ NB182_191.out _; (with_reducible repeat (first | refine blk_drewN ?_ _ | refine blk_drew ?_ | refine blk_alloc ?_ _)); refine blk_far ?_ NB182_191.out _; (with_reducible repeat (first | refine blk_drewN ?_ _ | refine blk_drew ?_ | refine blk_alloc ?_ _)); refine blk_far ?_ NB182_191.out _; (with_reducible repeat (first | refine blk_drewN ?_ _ | refine blk_drew ?_ | refine blk_alloc ?_ _)); refine blk_far ?_ NB182_191.out _; (with_reducible repeat (first | refine blk_drewN ?_ _ | refine blk_drew ?_ | refine blk_alloc ?_ _)); exact BK182.out) NB182_173.out (by simp)); have n3_ := Aside0.mk (KeepBut.blk hk (g' := gb191) (o := .cells #[.int .i64 t203, .bool t204, .int .i64 t205, .int .i64 t206, .int .i64 t207, .int .i64 t208] 25 (0, 0)) (by (with_reducible repeat (first | refine blk_drewN ?_ _ | refine blk_drew ?_ | refine blk_alloc ?_ _)); refine blk_put (cs := #[.int .i64 t203, .bool t204, .int .i64 t205, .int .i64 t206, .int .i64 t207, .int .i64 t188]) ?_ 5 _ rfl; (with_reducible repeat (first | refine blk_drewN ?_ _ | refine blk_drew ?_ | refine blk_alloc ?_ _)); refine blk_put (cs := #[.int .i64 t203, .bool t204, .int .i64 t205, .int .i64 t206, .int .i64 t187, .int .i64 t188]) ?_ 4 _ rfl; (with_reducible repeat (first | refine blk_drewN ?_ _ | refine blk_drew ?_ | refine blk_alloc ?_ _)); refine blk_put (cs := #[.int .i64 t203, .bool t204, .int .i64 t205, .int .i64 t186, .int .i64 t187, .int .i64 t188]) ?_ 3 _ rfl; (with_reducible repeat (first | refine blk_drewN ?_ _ | refine blk_drew ?_ | refine blk_alloc ?_ _)); refine blk_put (cs := #[.int .i64 t203, .bool t204, .int .i64 t185, .int .i64 t186, .int .i64 t187, .int .i64 t188]) ?_ 2 _ rfl; (with_reducible repeat (first | refine blk_drewN ?_ _ | refine blk_drew ?_ | refine blk_alloc ?_ _)); refine blk_put (cs := #[.int .i64 t203, .bool t184, .int .i64 t185, .int .i64 t186, .int .i64 t187, .int .i64 t188]) ?_ 1 _ rfl; (with_reducible repeat (first | refine blk_drewN ?_ _ | refine blk_drew ?_ | refine blk_alloc ?_ _)); refine blk_put (cs := #[.int .i64 t183, .bool t184, .int .i64 t185, .int .i64 t186, .int .i64 t187, .int .i64 t188]) ?_ 0 _ rfl; (with_reducible repeat (first | refine blk_drewN ?_ _ | refine blk_drew ?_ | refine blk_alloc ?_ _)); exact BK191.out) NB191_173.out (by simp)); have n4_ := Aside0.mk (hb); have n5_ := Aside0.mk (hi); clear BK168; clear BK169; clear BK182; clear BK191; clear HB; clear HI173; have BK168 := n0_; have BK169 := n1_; have BK182 := n2_; have BK191 := n3_; have HB := n4_; have HI173 := n5_; clear n0_ n1_ n2_ n3_ n4_ n5_; (try clear hb); (try clear hb2); (try clear hk); (try clear hi); have hnb45 := NB182_168.out; have hnc45 := NB168_182.out; have hnb46 := NB182_169.out; have hnc46 := NB169_182.out; have hnb47 := NB182_173.out; have hnc47 := NB173_182.out; have hcz48_0 : w44.cell? ⟨gb182, 0, none⟩ = some (.int .i64 x183000_5) := (blk_cell BK182.out 0).trans rfl; have hcz48_1 : w44.cell? ⟨gb182, 1, none⟩ = some (.bool x183001_5) := (blk_cell BK182.out 1).trans rfl; have hcz48_2 : w44.cell? ⟨gb182, 2, none⟩ = some (.int .i64 x183002_5) := (blk_cell BK182.out 2).trans rfl; have hcz48_3 : w44.cell? ⟨gb182, 3, none⟩ = some (.int .i64 x183003_5) := (blk_cell BK182.out 3).trans rfl; have hcz48_4 : w44.cell? ⟨gb182, 4, none⟩ = some (.int .i64 x183004_5) := (blk_cell BK182.out 4).trans rfl; have hcz48_5 : w44.cell? ⟨gb182, 5, none⟩ = some (.int .i64 x183005_5) := (blk_cell BK182.out 5).trans rfl; have hfz48_0 := blk_frozen BK182.out 0; have hfz48_1 := blk_frozen BK182.out 1; have hfz48_2 := blk_frozen BK182.out 2; have hfz48_3 := blk_frozen BK182.out 3; have hfz48_4 := blk_frozen BK182.out 4; have hfz48_5 := blk_frozen BK182.out 5))
              have n0_ : Aside0 ((w44.setCell ⟨gb182, 0, none⟩ (.int .i64 2)).heap[gb168]? = some (.cells #[.int .i64 0, .bool false, .int .i64 0, .int .i64 0, .int .i64 0, .int .i64 0] 25 (0, 0))) := ⟨by (with_reducible repeat (first | refine blk_drewN ?_ _ | refine blk_drew ?_ | refine blk_alloc ?_ _)); refine blk_far ?_ NB168_182.out _; (with_reducible repeat (first | refine blk_drewN ?_ _ | refine blk_drew ?_ | refine blk_alloc ?_ _)); exact BK168.out⟩
              have n1_ : Aside0 ((w44.setCell ⟨gb182, 0, none⟩ (.int .i64 2)).heap[gb169]? = some (.cells #[.int .i64 0, .bool false, .int .i64 0, .int .i64 0, .int .i64 0, .int .i64 0] 25 (0, 0))) := ⟨by (with_reducible repeat (first | refine blk_drewN ?_ _ | refine blk_drew ?_ | refine blk_alloc ?_ _)); refine blk_far ?_ NB169_182.out _; (with_reducible repeat (first | refine blk_drewN ?_ _ | refine blk_drew ?_ | refine blk_alloc ?_ _)); exact BK169.out⟩
              have n2_ : Aside0 ((w44.setCell ⟨gb182, 0, none⟩ (.int .i64 2)).heap[gb182]? = some (.cells #[.int .i64 2, .bool x183001_5, .int .i64 x183002_5, .int .i64 x183003_5, .int .i64 x183004_5, .int .i64 x183005_5] 25 (0, 0))) := ⟨by (with_reducible repeat (first | refine blk_drewN ?_ _ | refine blk_drew ?_ | refine blk_alloc ?_ _)); refine blk_put (cs := #[.int .i64 x183000_5, .bool x183001_5, .int .i64 x183002_5, .int .i64 x183003_5, .int .i64 x183004_5, .int .i64 x183005_5]) ?_ 0 _ rfl; (with_reducible repeat (first | refine blk_drewN ?_ _ | refine blk_drew ?_ | refine blk_alloc ?_ _)); exact BK182.out⟩
              have n3_ : Aside0 ((w44.setCell ⟨gb182, 0, none⟩ (.int .i64 2)).heap[gb191]? = some (.cells #[.int .i64 t203, .bool t204, .int .i64 t205, .int .i64 t206, .int .i64 t207, .int .i64 t208] 25 (0, 0))) := ⟨by (with_reducible repeat (first | refine blk_drewN ?_ _ | refine blk_drew ?_ | refine blk_alloc ?_ _)); refine blk_far ?_ NB191_182.out _; (with_reducible repeat (first | refine blk_drewN ?_ _ | refine blk_drew ?_ | refine blk_alloc ?_ _)); exact BK191.out⟩
              have n4_ : Aside0 (IsS114 w (w44.setCell ⟨gb182, 0, none⟩ (.int .i64 2)) g173 t170 t212 t213) := ⟨by repeat (first | (with_reducible first | exact HI173.out | apply IsS114.alloc | apply IsS114.drewN | apply IsS114.drew | apply IsS114.set_1 | apply IsS114.set_2 | refine IsS114.far ?_ NB173_168.out _ | refine IsS114.far ?_ NB173_169.out _ | refine IsS114.far ?_ NB173_182.out _ | refine IsS114.far ?_ NB173_191.out _) | exact HI173.out)⟩
              have n5_ : Aside0 (Below w.heap.size w (w44.setCell ⟨gb182, 0, none⟩ (.int .i64 2))) := ⟨by repeat (first | (with_reducible first | exact HB.out | apply below_alloc | apply pw_below_drewN | apply below_drew1 | refine below_set ?_ (IsS114.ge HI173.out) | refine below_set ?_ GE168.out | refine below_set ?_ GE169.out | refine below_set ?_ GE182.out | refine below_set ?_ GE191.out) | exact HB.out)⟩
              (try clear BK168)
              (try clear BK169)
              (try clear BK182)
              (try clear BK191)
              (try clear HI173)
              (try clear HB)
              generalize (w44.setCell ⟨gb182, 0, none⟩ (.int .i64 2)) = w49 at n0_ n1_ n2_ n3_ n4_ n5_ ⊢
              have BK168 := n0_
              have BK169 := n1_
              have BK182 := n2_
              have BK191 := n3_
              have HI173 := n4_
              have HB := n5_
              clear n0_ n1_ n2_ n3_ n4_ n5_
              have n0_ := Aside0.mk (blk_drew BK168.out)
              have n1_ := Aside0.mk (blk_drew BK169.out)
              have n2_ := Aside0.mk (blk_drew BK182.out)
              have n3_ := Aside0.mk (blk_drew BK191.out)
              have n4_ := Aside0.mk (IsS114.drew HI173.out)
              have n5_ := Aside0.mk (below_drew1 HB.out)
              clear BK168
              clear BK169
              clear BK182
              clear BK191
              clear HI173
              clear HB
              have BK168 := n0_
              have BK169 := n1_
              have BK182 := n2_
              have BK191 := n3_
              have HI173 := n4_
              have HB := n5_
              clear n0_ n1_ n2_ n3_ n4_ n5_
              refine start_ (n := 4) (S := fun w' => w'.cell? ⟨gb182, 0, none⟩ = some (.int .i64 2) ∧ w'.cell? ⟨gb182, 1, none⟩ = some (.bool x183001_5) ∧ w'.cell? ⟨gb182, 2, none⟩ = some (.int .i64 x183002_5) ∧ w'.cell? ⟨gb182, 3, none⟩ = some (.int .i64 x183003_5) ∧ w'.cell? ⟨gb182, 4, none⟩ = some (.int .i64 x183004_5) ∧ w'.cell? ⟨gb182, 5, none⟩ = some (.int .i64 x183005_5) ∧ w'.cell? ⟨gb191, 0, none⟩ = some (.int .i64 t203) ∧ w'.cell? ⟨gb191, 1, none⟩ = some (.bool t204) ∧ w'.cell? ⟨gb191, 2, none⟩ = some (.int .i64 t205) ∧ w'.cell? ⟨gb191, 3, none⟩ = some (.int .i64 t206) ∧ w'.cell? ⟨gb191, 4, none⟩ = some (.int .i64 t207) ∧ w'.cell? ⟨gb191, 5, none⟩ = some (.int .i64 t208)) (ds := []) #[false, false, false, false] (by kernel_rfl) rfl rfl ⟨(blk_cell BK182.out 0).trans rfl, (blk_cell BK182.out 1).trans rfl, (blk_cell BK182.out 2).trans rfl, (blk_cell BK182.out 3).trans rfl, (blk_cell BK182.out 4).trans rfl, (blk_cell BK182.out 5).trans rfl, (blk_cell BK191.out 0).trans rfl, (blk_cell BK191.out 1).trans rfl, (blk_cell BK191.out 2).trans rfl, (blk_cell BK191.out 3).trans rfl, (blk_cell BK191.out 4).trans rfl, (blk_cell BK191.out 5).trans rfl⟩ (fun hHeld => ?_)
              generalize w49.drew = w50 at BK168 BK169 BK182 BK191 HI173 HB hHeld ⊢
              refine take_ (i := 0) (N := some 31) (v := ?_) (a' := ?_) #[true, false, false, false] rfl rfl (by kernel_rfl) (fun _ _ _ h => h) (Or.inl ⟨by rfl, ?_⟩) hHeld ?_ ?_
              rotate_left
              · rintro w' ⟨s0, s1, s2, s3, s4, s5, s6, s7, s8, s9, s10, s11⟩
                go_simp
                with_reducible rfl
              rotate_left
              · simp only [Act.put, List.setIfInBounds_toArray, List.set_cons_zero, List.set_cons_succ, i64_w, i32_w]
                rfl
              refine take_ (i := 1) (N := some 32) (v := ?_) (a' := ?_) #[true, true, false, false] rfl rfl (by kernel_rfl) (fun _ _ _ h => h) (Or.inl ⟨by rfl, ?_⟩) hHeld ?_ ?_
              rotate_left
              · rintro w' ⟨s0, s1, s2, s3, s4, s5, s6, s7, s8, s9, s10, s11⟩
                go_simp
                with_reducible rfl
              rotate_left
              · simp only [Act.put, List.setIfInBounds_toArray, List.set_cons_zero, List.set_cons_succ, i64_w, i32_w]
                rfl
              refine one_ (i := 2) (N := none) #[true, true, true, false] rfl rfl (by kernel_rfl) (by decide) (fun K hK => ?_)
              have hs51 : w50.cell? ⟨gb168, 0, none⟩ = some (.int .i64 0) := (blk_cell BK168.out 0).trans rfl
              have hfs51 := blk_frozen BK168.out 0
              have hns51_1 := NB169_168.out
              have hns51_2 := NB182_168.out
              have hns51_3 := NB191_168.out
              have hms51_1 := NB168_169.out
              have hms51_2 := NB168_182.out
              have hms51_3 := NB168_191.out
              have hs52 : w50.cell? ⟨gb168, 1, none⟩ = some (.bool false) := (blk_cell BK168.out 1).trans rfl
              have hfs52 := blk_frozen BK168.out 1
              have hns52_1 := NB169_168.out
              have hns52_2 := NB182_168.out
              have hns52_3 := NB191_168.out
              have hms52_1 := NB168_169.out
              have hms52_2 := NB168_182.out
              have hms52_3 := NB168_191.out
              have hs53 : w50.cell? ⟨gb168, 2, none⟩ = some (.int .i64 0) := (blk_cell BK168.out 2).trans rfl
              have hfs53 := blk_frozen BK168.out 2
              have hns53_1 := NB169_168.out
              have hns53_2 := NB182_168.out
              have hns53_3 := NB191_168.out
              have hms53_1 := NB168_169.out
              have hms53_2 := NB168_182.out
              have hms53_3 := NB168_191.out
              have hs54 : w50.cell? ⟨gb168, 3, none⟩ = some (.int .i64 0) := (blk_cell BK168.out 3).trans rfl
              have hfs54 := blk_frozen BK168.out 3
              have hns54_1 := NB169_168.out
              have hns54_2 := NB182_168.out
              have hns54_3 := NB191_168.out
              have hms54_1 := NB168_169.out
              have hms54_2 := NB168_182.out
              have hms54_3 := NB168_191.out
              have hs55 : w50.cell? ⟨gb168, 4, none⟩ = some (.int .i64 0) := (blk_cell BK168.out 4).trans rfl
              have hfs55 := blk_frozen BK168.out 4
              have hns55_1 := NB169_168.out
              have hns55_2 := NB182_168.out
              have hns55_3 := NB191_168.out
              have hms55_1 := NB168_169.out
              have hms55_2 := NB168_182.out
              have hms55_3 := NB168_191.out
              have hs56 : w50.cell? ⟨gb168, 5, none⟩ = some (.int .i64 0) := (blk_cell BK168.out 5).trans rfl
              have hfs56 := blk_frozen BK168.out 5
              have hns56_1 := NB169_168.out
              have hns56_2 := NB182_168.out
              have hns56_3 := NB191_168.out
              have hms56_1 := NB168_169.out
              have hms56_2 := NB168_182.out
              have hms56_3 := NB168_191.out
              refine skip_ (w1 := ?_) (by rfl) rfl ?_ ?_
              rotate_left
              · go_simp
                rfl
              refine hK.out _ _ ⟨((cell_far (p := ⟨gb168, _, none⟩) NB182_168.out _).trans (((cell_far (p := ⟨gb168, _, none⟩) NB182_168.out _).trans (((cell_far (p := ⟨gb168, _, none⟩) NB182_168.out _).trans (((cell_far (p := ⟨gb168, _, none⟩) NB182_168.out _).trans (((cell_far (p := ⟨gb168, _, none⟩) NB182_168.out _).trans (((cell_far (p := ⟨gb168, _, none⟩) NB182_168.out _).trans (hHeld.1)))))))))))), ((cell_far (p := ⟨gb168, _, none⟩) NB182_168.out _).trans (((cell_far (p := ⟨gb168, _, none⟩) NB182_168.out _).trans (((cell_far (p := ⟨gb168, _, none⟩) NB182_168.out _).trans (((cell_far (p := ⟨gb168, _, none⟩) NB182_168.out _).trans (((cell_far (p := ⟨gb168, _, none⟩) NB182_168.out _).trans (((cell_far (p := ⟨gb168, _, none⟩) NB182_168.out _).trans (hHeld.2.1)))))))))))), ((cell_far (p := ⟨gb168, _, none⟩) NB182_168.out _).trans (((cell_far (p := ⟨gb168, _, none⟩) NB182_168.out _).trans (((cell_far (p := ⟨gb168, _, none⟩) NB182_168.out _).trans (((cell_far (p := ⟨gb168, _, none⟩) NB182_168.out _).trans (((cell_far (p := ⟨gb168, _, none⟩) NB182_168.out _).trans (((cell_far (p := ⟨gb168, _, none⟩) NB182_168.out _).trans (hHeld.2.2.1)))))))))))), ((cell_far (p := ⟨gb168, _, none⟩) NB182_168.out _).trans (((cell_far (p := ⟨gb168, _, none⟩) NB182_168.out _).trans (((cell_far (p := ⟨gb168, _, none⟩) NB182_168.out _).trans (((cell_far (p := ⟨gb168, _, none⟩) NB182_168.out _).trans (((cell_far (p := ⟨gb168, _, none⟩) NB182_168.out _).trans (((cell_far (p := ⟨gb168, _, none⟩) NB182_168.out _).trans (hHeld.2.2.2.1)))))))))))), ((cell_far (p := ⟨gb168, _, none⟩) NB182_168.out _).trans (((cell_far (p := ⟨gb168, _, none⟩) NB182_168.out _).trans (((cell_far (p := ⟨gb168, _, none⟩) NB182_168.out _).trans (((cell_far (p := ⟨gb168, _, none⟩) NB182_168.out _).trans (((cell_far (p := ⟨gb168, _, none⟩) NB182_168.out _).trans (((cell_far (p := ⟨gb168, _, none⟩) NB182_168.out _).trans (hHeld.2.2.2.2.1)))))))))))), ((cell_far (p := ⟨gb168, _, none⟩) NB182_168.out _).trans (((cell_far (p := ⟨gb168, _, none⟩) NB182_168.out _).trans (((cell_far (p := ⟨gb168, _, none⟩) NB182_168.out _).trans (((cell_far (p := ⟨gb168, _, none⟩) NB182_168.out _).trans (((cell_far (p := ⟨gb168, _, none⟩) NB182_168.out _).trans (((cell_far (p := ⟨gb168, _, none⟩) NB182_168.out _).trans (hHeld.2.2.2.2.2.1)))))))))))), ((cell_far (p := ⟨gb168, _, none⟩) NB191_168.out _).trans (((cell_far (p := ⟨gb168, _, none⟩) NB191_168.out _).trans (((cell_far (p := ⟨gb168, _, none⟩) NB191_168.out _).trans (((cell_far (p := ⟨gb168, _, none⟩) NB191_168.out _).trans (((cell_far (p := ⟨gb168, _, none⟩) NB191_168.out _).trans (((cell_far (p := ⟨gb168, _, none⟩) NB191_168.out _).trans (hHeld.2.2.2.2.2.2.1)))))))))))), ((cell_far (p := ⟨gb168, _, none⟩) NB191_168.out _).trans (((cell_far (p := ⟨gb168, _, none⟩) NB191_168.out _).trans (((cell_far (p := ⟨gb168, _, none⟩) NB191_168.out _).trans (((cell_far (p := ⟨gb168, _, none⟩) NB191_168.out _).trans (((cell_far (p := ⟨gb168, _, none⟩) NB191_168.out _).trans (((cell_far (p := ⟨gb168, _, none⟩) NB191_168.out _).trans (hHeld.2.2.2.2.2.2.2.1)))))))))))), ((cell_far (p := ⟨gb168, _, none⟩) NB191_168.out _).trans (((cell_far (p := ⟨gb168, _, none⟩) NB191_168.out _).trans (((cell_far (p := ⟨gb168, _, none⟩) NB191_168.out _).trans (((cell_far (p := ⟨gb168, _, none⟩) NB191_168.out _).trans (((cell_far (p := ⟨gb168, _, none⟩) NB191_168.out _).trans (((cell_far (p := ⟨gb168, _, none⟩) NB191_168.out _).trans (hHeld.2.2.2.2.2.2.2.2.1)))))))))))), ((cell_far (p := ⟨gb168, _, none⟩) NB191_168.out _).trans (((cell_far (p := ⟨gb168, _, none⟩) NB191_168.out _).trans (((cell_far (p := ⟨gb168, _, none⟩) NB191_168.out _).trans (((cell_far (p := ⟨gb168, _, none⟩) NB191_168.out _).trans (((cell_far (p := ⟨gb168, _, none⟩) NB191_168.out _).trans (((cell_far (p := ⟨gb168, _, none⟩) NB191_168.out _).trans (hHeld.2.2.2.2.2.2.2.2.2.1)))))))))))), ((cell_far (p := ⟨gb168, _, none⟩) NB191_168.out _).trans (((cell_far (p := ⟨gb168, _, none⟩) NB191_168.out _).trans (((cell_far (p := ⟨gb168, _, none⟩) NB191_168.out _).trans (((cell_far (p := ⟨gb168, _, none⟩) NB191_168.out _).trans (((cell_far (p := ⟨gb168, _, none⟩) NB191_168.out _).trans (((cell_far (p := ⟨gb168, _, none⟩) NB191_168.out _).trans (hHeld.2.2.2.2.2.2.2.2.2.2.1)))))))))))), ((cell_far (p := ⟨gb168, _, none⟩) NB191_168.out _).trans (((cell_far (p := ⟨gb168, _, none⟩) NB191_168.out _).trans (((cell_far (p := ⟨gb168, _, none⟩) NB191_168.out _).trans (((cell_far (p := ⟨gb168, _, none⟩) NB191_168.out _).trans (((cell_far (p := ⟨gb168, _, none⟩) NB191_168.out _).trans (((cell_far (p := ⟨gb168, _, none⟩) NB191_168.out _).trans (hHeld.2.2.2.2.2.2.2.2.2.2.2))))))))))))⟩ (fun hHeld => ?_)
              clear hK K
              refine one_ (i := 3) (N := none) #[true, true, true, true] rfl rfl (by kernel_rfl) (by decide) (fun K hK => ?_)
              have hs57 : w50.cell? ⟨gb169, 0, none⟩ = some (.int .i64 0) := (blk_cell BK169.out 0).trans rfl
              have hfs57 := blk_frozen BK169.out 0
              have hns57_0 := NB168_169.out
              have hns57_2 := NB182_169.out
              have hns57_3 := NB191_169.out
              have hms57_0 := NB169_168.out
              have hms57_2 := NB169_182.out
              have hms57_3 := NB169_191.out
              have hs58 : w50.cell? ⟨gb169, 1, none⟩ = some (.bool false) := (blk_cell BK169.out 1).trans rfl
              have hfs58 := blk_frozen BK169.out 1
              have hns58_0 := NB168_169.out
              have hns58_2 := NB182_169.out
              have hns58_3 := NB191_169.out
              have hms58_0 := NB169_168.out
              have hms58_2 := NB169_182.out
              have hms58_3 := NB169_191.out
              have hs59 : w50.cell? ⟨gb169, 2, none⟩ = some (.int .i64 0) := (blk_cell BK169.out 2).trans rfl
              have hfs59 := blk_frozen BK169.out 2
              have hns59_0 := NB168_169.out
              have hns59_2 := NB182_169.out
              have hns59_3 := NB191_169.out
              have hms59_0 := NB169_168.out
              have hms59_2 := NB169_182.out
              have hms59_3 := NB169_191.out
              have hs60 : w50.cell? ⟨gb169, 3, none⟩ = some (.int .i64 0) := (blk_cell BK169.out 3).trans rfl
              have hfs60 := blk_frozen BK169.out 3
              have hns60_0 := NB168_169.out
              have hns60_2 := NB182_169.out
              have hns60_3 := NB191_169.out
              have hms60_0 := NB169_168.out
              have hms60_2 := NB169_182.out
              have hms60_3 := NB169_191.out
              have hs61 : w50.cell? ⟨gb169, 4, none⟩ = some (.int .i64 0) := (blk_cell BK169.out 4).trans rfl
              have hfs61 := blk_frozen BK169.out 4
              have hns61_0 := NB168_169.out
              have hns61_2 := NB182_169.out
              have hns61_3 := NB191_169.out
              have hms61_0 := NB169_168.out
              have hms61_2 := NB169_182.out
              have hms61_3 := NB169_191.out
              have hs62 : w50.cell? ⟨gb169, 5, none⟩ = some (.int .i64 0) := (blk_cell BK169.out 5).trans rfl
              have hfs62 := blk_frozen BK169.out 5
              have hns62_0 := NB168_169.out
              have hns62_2 := NB182_169.out
              have hns62_3 := NB191_169.out
              have hms62_0 := NB169_168.out
              have hms62_2 := NB169_182.out
              have hms62_3 := NB169_191.out
              refine skip_ (w1 := ?_) (by rfl) rfl ?_ ?_
              rotate_left
              · go_simp
                rfl
              refine hK.out _ _ ⟨((cell_far (p := ⟨gb169, _, none⟩) NB182_169.out _).trans (((cell_far (p := ⟨gb169, _, none⟩) NB182_169.out _).trans (((cell_far (p := ⟨gb169, _, none⟩) NB182_169.out _).trans (((cell_far (p := ⟨gb169, _, none⟩) NB182_169.out _).trans (((cell_far (p := ⟨gb169, _, none⟩) NB182_169.out _).trans (((cell_far (p := ⟨gb169, _, none⟩) NB182_169.out _).trans (hHeld.1)))))))))))), ((cell_far (p := ⟨gb169, _, none⟩) NB182_169.out _).trans (((cell_far (p := ⟨gb169, _, none⟩) NB182_169.out _).trans (((cell_far (p := ⟨gb169, _, none⟩) NB182_169.out _).trans (((cell_far (p := ⟨gb169, _, none⟩) NB182_169.out _).trans (((cell_far (p := ⟨gb169, _, none⟩) NB182_169.out _).trans (((cell_far (p := ⟨gb169, _, none⟩) NB182_169.out _).trans (hHeld.2.1)))))))))))), ((cell_far (p := ⟨gb169, _, none⟩) NB182_169.out _).trans (((cell_far (p := ⟨gb169, _, none⟩) NB182_169.out _).trans (((cell_far (p := ⟨gb169, _, none⟩) NB182_169.out _).trans (((cell_far (p := ⟨gb169, _, none⟩) NB182_169.out _).trans (((cell_far (p := ⟨gb169, _, none⟩) NB182_169.out _).trans (((cell_far (p := ⟨gb169, _, none⟩) NB182_169.out _).trans (hHeld.2.2.1)))))))))))), ((cell_far (p := ⟨gb169, _, none⟩) NB182_169.out _).trans (((cell_far (p := ⟨gb169, _, none⟩) NB182_169.out _).trans (((cell_far (p := ⟨gb169, _, none⟩) NB182_169.out _).trans (((cell_far (p := ⟨gb169, _, none⟩) NB182_169.out _).trans (((cell_far (p := ⟨gb169, _, none⟩) NB182_169.out _).trans (((cell_far (p := ⟨gb169, _, none⟩) NB182_169.out _).trans (hHeld.2.2.2.1)))))))))))), ((cell_far (p := ⟨gb169, _, none⟩) NB182_169.out _).trans (((cell_far (p := ⟨gb169, _, none⟩) NB182_169.out _).trans (((cell_far (p := ⟨gb169, _, none⟩) NB182_169.out _).trans (((cell_far (p := ⟨gb169, _, none⟩) NB182_169.out _).trans (((cell_far (p := ⟨gb169, _, none⟩) NB182_169.out _).trans (((cell_far (p := ⟨gb169, _, none⟩) NB182_169.out _).trans (hHeld.2.2.2.2.1)))))))))))), ((cell_far (p := ⟨gb169, _, none⟩) NB182_169.out _).trans (((cell_far (p := ⟨gb169, _, none⟩) NB182_169.out _).trans (((cell_far (p := ⟨gb169, _, none⟩) NB182_169.out _).trans (((cell_far (p := ⟨gb169, _, none⟩) NB182_169.out _).trans (((cell_far (p := ⟨gb169, _, none⟩) NB182_169.out _).trans (((cell_far (p := ⟨gb169, _, none⟩) NB182_169.out _).trans (hHeld.2.2.2.2.2.1)))))))))))), ((cell_far (p := ⟨gb169, _, none⟩) NB191_169.out _).trans (((cell_far (p := ⟨gb169, _, none⟩) NB191_169.out _).trans (((cell_far (p := ⟨gb169, _, none⟩) NB191_169.out _).trans (((cell_far (p := ⟨gb169, _, none⟩) NB191_169.out _).trans (((cell_far (p := ⟨gb169, _, none⟩) NB191_169.out _).trans (((cell_far (p := ⟨gb169, _, none⟩) NB191_169.out _).trans (hHeld.2.2.2.2.2.2.1)))))))))))), ((cell_far (p := ⟨gb169, _, none⟩) NB191_169.out _).trans (((cell_far (p := ⟨gb169, _, none⟩) NB191_169.out _).trans (((cell_far (p := ⟨gb169, _, none⟩) NB191_169.out _).trans (((cell_far (p := ⟨gb169, _, none⟩) NB191_169.out _).trans (((cell_far (p := ⟨gb169, _, none⟩) NB191_169.out _).trans (((cell_far (p := ⟨gb169, _, none⟩) NB191_169.out _).trans (hHeld.2.2.2.2.2.2.2.1)))))))))))), ((cell_far (p := ⟨gb169, _, none⟩) NB191_169.out _).trans (((cell_far (p := ⟨gb169, _, none⟩) NB191_169.out _).trans (((cell_far (p := ⟨gb169, _, none⟩) NB191_169.out _).trans (((cell_far (p := ⟨gb169, _, none⟩) NB191_169.out _).trans (((cell_far (p := ⟨gb169, _, none⟩) NB191_169.out _).trans (((cell_far (p := ⟨gb169, _, none⟩) NB191_169.out _).trans (hHeld.2.2.2.2.2.2.2.2.1)))))))))))), ((cell_far (p := ⟨gb169, _, none⟩) NB191_169.out _).trans (((cell_far (p := ⟨gb169, _, none⟩) NB191_169.out _).trans (((cell_far (p := ⟨gb169, _, none⟩) NB191_169.out _).trans (((cell_far (p := ⟨gb169, _, none⟩) NB191_169.out _).trans (((cell_far (p := ⟨gb169, _, none⟩) NB191_169.out _).trans (((cell_far (p := ⟨gb169, _, none⟩) NB191_169.out _).trans (hHeld.2.2.2.2.2.2.2.2.2.1)))))))))))), ((cell_far (p := ⟨gb169, _, none⟩) NB191_169.out _).trans (((cell_far (p := ⟨gb169, _, none⟩) NB191_169.out _).trans (((cell_far (p := ⟨gb169, _, none⟩) NB191_169.out _).trans (((cell_far (p := ⟨gb169, _, none⟩) NB191_169.out _).trans (((cell_far (p := ⟨gb169, _, none⟩) NB191_169.out _).trans (((cell_far (p := ⟨gb169, _, none⟩) NB191_169.out _).trans (hHeld.2.2.2.2.2.2.2.2.2.2.1)))))))))))), ((cell_far (p := ⟨gb169, _, none⟩) NB191_169.out _).trans (((cell_far (p := ⟨gb169, _, none⟩) NB191_169.out _).trans (((cell_far (p := ⟨gb169, _, none⟩) NB191_169.out _).trans (((cell_far (p := ⟨gb169, _, none⟩) NB191_169.out _).trans (((cell_far (p := ⟨gb169, _, none⟩) NB191_169.out _).trans (((cell_far (p := ⟨gb169, _, none⟩) NB191_169.out _).trans (hHeld.2.2.2.2.2.2.2.2.2.2.2))))))))))))⟩ (fun hHeld => ?_)
              clear hK K
              refine done_ (by kernel_rfl) ?_
              try go_wp2
              refine bodyPost_ret (results_cc rfl _ _ gb168 gb169 25 25 #[.int .i64 2, .bool x183001_5, .int .i64 x183002_5, .int .i64 x183003_5, .int .i64 x183004_5, .int .i64 x183005_5] #[.int .i64 t203, .bool t204, .int .i64 t205, .int .i64 t206, .int .i64 t207, .int .i64 t208] (0, 0) (0, 0) _ _ rfl (by (with_reducible repeat (first | refine blk_drewN ?_ _ | refine blk_drew ?_ | refine blk_alloc ?_ _)); refine blk_far ?_ NB168_169.out _; (with_reducible repeat (first | refine blk_drewN ?_ _ | refine blk_drew ?_ | refine blk_alloc ?_ _)); refine blk_far ?_ NB168_169.out _; (with_reducible repeat (first | refine blk_drewN ?_ _ | refine blk_drew ?_ | refine blk_alloc ?_ _)); refine blk_far ?_ NB168_169.out _; (with_reducible repeat (first | refine blk_drewN ?_ _ | refine blk_drew ?_ | refine blk_alloc ?_ _)); refine blk_far ?_ NB168_169.out _; (with_reducible repeat (first | refine blk_drewN ?_ _ | refine blk_drew ?_ | refine blk_alloc ?_ _)); refine blk_far ?_ NB168_169.out _; (with_reducible repeat (first | refine blk_drewN ?_ _ | refine blk_drew ?_ | refine blk_alloc ?_ _)); refine blk_far ?_ NB168_169.out _; (with_reducible repeat (first | refine blk_drewN ?_ _ | refine blk_drew ?_ | refine blk_alloc ?_ _)); refine blk_put (cs := #[.int .i64 2, .bool x183001_5, .int .i64 x183002_5, .int .i64 x183003_5, .int .i64 x183004_5, .int .i64 0]) ?_ 5 _ rfl; (with_reducible repeat (first | refine blk_drewN ?_ _ | refine blk_drew ?_ | refine blk_alloc ?_ _)); refine blk_put (cs := #[.int .i64 2, .bool x183001_5, .int .i64 x183002_5, .int .i64 x183003_5, .int .i64 0, .int .i64 0]) ?_ 4 _ rfl; (with_reducible repeat (first | refine blk_drewN ?_ _ | refine blk_drew ?_ | refine blk_alloc ?_ _)); refine blk_put (cs := #[.int .i64 2, .bool x183001_5, .int .i64 x183002_5, .int .i64 0, .int .i64 0, .int .i64 0]) ?_ 3 _ rfl; (with_reducible repeat (first | refine blk_drewN ?_ _ | refine blk_drew ?_ | refine blk_alloc ?_ _)); refine blk_put (cs := #[.int .i64 2, .bool x183001_5, .int .i64 0, .int .i64 0, .int .i64 0, .int .i64 0]) ?_ 2 _ rfl; (with_reducible repeat (first | refine blk_drewN ?_ _ | refine blk_drew ?_ | refine blk_alloc ?_ _)); refine blk_put (cs := #[.int .i64 2, .bool false, .int .i64 0, .int .i64 0, .int .i64 0, .int .i64 0]) ?_ 1 _ rfl; (with_reducible repeat (first | refine blk_drewN ?_ _ | refine blk_drew ?_ | refine blk_alloc ?_ _)); refine blk_put (cs := #[.int .i64 0, .bool false, .int .i64 0, .int .i64 0, .int .i64 0, .int .i64 0]) ?_ 0 _ rfl; (with_reducible repeat (first | refine blk_drewN ?_ _ | refine blk_drew ?_ | refine blk_alloc ?_ _)); exact BK168.out) Try.underlying25 rfl (by kernel_rfl) rfl (by (with_reducible repeat (first | refine blk_drewN ?_ _ | refine blk_drew ?_ | refine blk_alloc ?_ _)); refine blk_put (cs := #[.int .i64 t203, .bool t204, .int .i64 t205, .int .i64 t206, .int .i64 t207, .int .i64 0]) ?_ 5 _ rfl; (with_reducible repeat (first | refine blk_drewN ?_ _ | refine blk_drew ?_ | refine blk_alloc ?_ _)); refine blk_put (cs := #[.int .i64 t203, .bool t204, .int .i64 t205, .int .i64 t206, .int .i64 0, .int .i64 0]) ?_ 4 _ rfl; (with_reducible repeat (first | refine blk_drewN ?_ _ | refine blk_drew ?_ | refine blk_alloc ?_ _)); refine blk_put (cs := #[.int .i64 t203, .bool t204, .int .i64 t205, .int .i64 0, .int .i64 0, .int .i64 0]) ?_ 3 _ rfl; (with_reducible repeat (first | refine blk_drewN ?_ _ | refine blk_drew ?_ | refine blk_alloc ?_ _)); refine blk_put (cs := #[.int .i64 t203, .bool t204, .int .i64 0, .int .i64 0, .int .i64 0, .int .i64 0]) ?_ 2 _ rfl; (with_reducible repeat (first | refine blk_drewN ?_ _ | refine blk_drew ?_ | refine blk_alloc ?_ _)); refine blk_put (cs := #[.int .i64 t203, .bool false, .int .i64 0, .int .i64 0, .int .i64 0, .int .i64 0]) ?_ 1 _ rfl; (with_reducible repeat (first | refine blk_drewN ?_ _ | refine blk_drew ?_ | refine blk_alloc ?_ _)); refine blk_put (cs := #[.int .i64 0, .bool false, .int .i64 0, .int .i64 0, .int .i64 0, .int .i64 0]) ?_ 0 _ rfl; (with_reducible repeat (first | refine blk_drewN ?_ _ | refine blk_drew ?_ | refine blk_alloc ?_ _)); refine blk_far ?_ NB169_168.out _; (with_reducible repeat (first | refine blk_drewN ?_ _ | refine blk_drew ?_ | refine blk_alloc ?_ _)); refine blk_far ?_ NB169_168.out _; (with_reducible repeat (first | refine blk_drewN ?_ _ | refine blk_drew ?_ | refine blk_alloc ?_ _)); refine blk_far ?_ NB169_168.out _; (with_reducible repeat (first | refine blk_drewN ?_ _ | refine blk_drew ?_ | refine blk_alloc ?_ _)); refine blk_far ?_ NB169_168.out _; (with_reducible repeat (first | refine blk_drewN ?_ _ | refine blk_drew ?_ | refine blk_alloc ?_ _)); refine blk_far ?_ NB169_168.out _; (with_reducible repeat (first | refine blk_drewN ?_ _ | refine blk_drew ?_ | refine blk_alloc ?_ _)); refine blk_far ?_ NB169_168.out _; (with_reducible repeat (first | refine blk_drewN ?_ _ | refine blk_drew ?_ | refine blk_alloc ?_ _)); exact BK169.out) Try.underlying25 rfl (by kernel_rfl)) rfl ?_
              exact ⟨by first | rfl | (simp [errW_none, errW_some] <;> rfl) | (simp [*, errW_none, errW_some] <;> rfl), by repeat (first | (with_reducible first | exact HB.out | apply below_alloc | apply pw_below_drewN | apply below_drew1 | refine below_set ?_ (IsS114.ge HI173.out) | refine below_set ?_ GE168.out | refine below_set ?_ GE169.out | refine below_set ?_ GE182.out | refine below_set ?_ GE191.out) | exact HB.out)⟩
            · replace c37 := Bool.eq_false_iff.mpr c37
              subst c37
              have H1 : (some (x183000_5, x183001_5, x183002_5, x183003_5, x183004_5, x183005_5, t203, t204, t205, t206, t207, t208)) = some (r1, r2, r3, r4, r5, r6, r7, r8, r9, r10, r11, r12) := by rw [if_neg (show ¬ (false = true) by decide)] at H; exact H
              clear H
              have H := H1
              clear H1
              simp only [Option.some.injEq, Prod.mk.injEq] at H
              obtain ⟨rfl, rfl, rfl, rfl, rfl, rfl, rfl, rfl, rfl, rfl, rfl, rfl⟩ := H
              try go_wp2_with (first | ((with_reducible refine gate_callee (f := 40) rfl ?_); refine goesL_ (some 27) rfl rfl Try.func40 (by kernel_rfl) rfl #[.pointer (some ⟨g173, 0, none⟩), .int .i64 2] rfl (by (try simp only [List.map_toArray, List.map_cons, List.map_nil]); first | done | rfl | (simp only [List.length_drop, List.length_take]; rfl)) ?_; (with_reducible refine (spec_l4DrawPtr.calls g173 t170 x174001_5 x174002_5 2 t203 t204 t205 t206 t207 t208 t209 t210 w _ ?side1 ?side2 A35.out).mono ?_); (case side1 => repeat (first | (with_reducible first | exact HI173.out | apply IsS114.alloc | apply IsS114.drewN | apply IsS114.drew | apply IsS114.set_1 | apply IsS114.set_2 | refine IsS114.far ?_ NB173_168.out _ | refine IsS114.far ?_ NB173_169.out _ | refine IsS114.far ?_ NB173_182.out _ | refine IsS114.far ?_ NB173_191.out _) | exact HI173.out)); (case side2 => repeat (first | (with_reducible first | exact HB.out | apply below_alloc | apply pw_below_drewN | apply below_drew1 | refine below_set ?_ (IsS114.ge HI173.out) | refine below_set ?_ GE168.out | refine below_set ?_ GE169.out | refine below_set ?_ GE182.out | refine below_set ?_ GE191.out) | exact HB.out)); rintro e w63 ⟨rfl, hi, hb, hk⟩; refine ⟨_, rfl, ?_⟩; have n0_ := Aside0.mk (KeepBut.blk hk (g' := gb168) (o := .cells #[.int .i64 0, .bool false, .int .i64 0, .int .i64 0, .int .i64 0, .int .i64 0] 25 (0, 0)) (by (with_reducible repeat (first | refine blk_drewN ?_ _ | refine blk_drew ?_ | refine blk_alloc ?_ _)); exact BK168.out) NB168_173.out (by simp)); have n1_ := Aside0.mk (KeepBut.blk hk (g' := gb169) (o := .cells #[.int .i64 0, .bool false, .int .i64 0, .int .i64 0, .int .i64 0, .int .i64 0] 25 (0, 0)) (by (with_reducible repeat (first | refine blk_drewN ?_ _ | refine blk_drew ?_ | refine blk_alloc ?_ _)); exact BK169.out) NB169_173.out (by simp)); have n2_ := Aside0.mk (KeepBut.blk hk (g' := gb182) (o := .cells #[.int .i64 x183000_5, .bool x183001_5, .int .i64 x183002_5, .int .i64 x183003_5, .int .i64 x183004_5, .int .i64 x183005_5] 25 (0, 0)) (by (with_reducible repeat (first | refine blk_drewN ?_ _ | refine blk_drew ?_ | refine blk_alloc ?_ _)); exact BK182.out) NB182_173.out (by simp)); have n3_ := Aside0.mk (KeepBut.blk hk (g' := gb191) (o := .cells #[.int .i64 t183, .bool t184, .int .i64 t185, .int .i64 t186, .int .i64 t187, .int .i64 t188] 25 (0, 0)) (by (with_reducible repeat (first | refine blk_drewN ?_ _ | refine blk_drew ?_ | refine blk_alloc ?_ _)); exact BK191.out) NB191_173.out (by simp)); have n4_ := Aside0.mk (hb); have n5_ := Aside0.mk (hi); clear BK168; clear BK169; clear BK182; clear BK191; clear HB; clear HI173; have BK168 := n0_; have BK169 := n1_; have BK182 := n2_; have BK191 := n3_; have HB := n4_; have HI173 := n5_; clear n0_ n1_ n2_ n3_ n4_ n5_; (try clear hb); (try clear hb2); (try clear hk); (try clear hi); have hnb64 := NB191_168.out; have hnc64 := NB168_191.out; have hnb65 := NB191_169.out; have hnc65 := NB169_191.out; have hnb66 := NB191_182.out; have hnc66 := NB182_191.out; have hnb67 := NB191_173.out; have hnc67 := NB173_191.out; have hcz68_0 : w63.cell? ⟨gb191, 0, none⟩ = some (.int .i64 t183) := (blk_cell BK191.out 0).trans rfl; have hcz68_1 : w63.cell? ⟨gb191, 1, none⟩ = some (.bool t184) := (blk_cell BK191.out 1).trans rfl; have hcz68_2 : w63.cell? ⟨gb191, 2, none⟩ = some (.int .i64 t185) := (blk_cell BK191.out 2).trans rfl; have hcz68_3 : w63.cell? ⟨gb191, 3, none⟩ = some (.int .i64 t186) := (blk_cell BK191.out 3).trans rfl; have hcz68_4 : w63.cell? ⟨gb191, 4, none⟩ = some (.int .i64 t187) := (blk_cell BK191.out 4).trans rfl; have hcz68_5 : w63.cell? ⟨gb191, 5, none⟩ = some (.int .i64 t188) := (blk_cell BK191.out 5).trans rfl; have hfz68_0 := blk_frozen BK191.out 0; have hfz68_1 := blk_frozen BK191.out 1; have hfz68_2 := blk_frozen BK191.out 2; have hfz68_3 := blk_frozen BK191.out 3; have hfz68_4 := blk_frozen BK191.out 4; have hfz68_5 := blk_frozen BK191.out 5) | ((with_reducible refine gate_callee (f := 41) rfl ?_); refine goesL_ (some 29) rfl rfl Try.func41 (by kernel_rfl) rfl #[.pointer (some ⟨g173, 0, none⟩), .int .i64 20] rfl (by (try simp only [List.map_toArray, List.map_cons, List.map_nil]); first | done | rfl | (simp only [List.length_drop, List.length_take]; rfl)) ?_; (with_reducible refine (spec_l1Once.calls g173 t170 t209 t210 20 false t212 t213 w _ ?side1 ?side2 A36.out).mono ?_); (case side1 => repeat (first | (with_reducible first | exact HI173.out | apply IsS114.alloc | apply IsS114.drewN | apply IsS114.drew | apply IsS114.set_1 | apply IsS114.set_2 | refine IsS114.far ?_ NB173_168.out _ | refine IsS114.far ?_ NB173_169.out _ | refine IsS114.far ?_ NB173_182.out _ | refine IsS114.far ?_ NB173_191.out _) | exact HI173.out)); (case side2 => repeat (first | (with_reducible first | exact HB.out | apply below_alloc | apply pw_below_drewN | apply below_drew1 | refine below_set ?_ (IsS114.ge HI173.out) | refine below_set ?_ GE168.out | refine below_set ?_ GE169.out | refine below_set ?_ GE182.out | refine below_set ?_ GE191.out) | exact HB.out)); rintro e w69 ⟨rfl, hi, hb, hk⟩; refine ⟨_, rfl, ?_⟩; have n0_ := Aside0.mk (KeepBut.blk hk (g' := gb168) (o := .cells #[.int .i64 0, .bool false, .int .i64 0, .int .i64 0, .int .i64 0, .int .i64 0] 25 (0, 0)) (by (with_reducible repeat (first | refine blk_drewN ?_ _ | refine blk_drew ?_ | refine blk_alloc ?_ _)); refine blk_far ?_ NB168_191.out _; (with_reducible repeat (first | refine blk_drewN ?_ _ | refine blk_drew ?_ | refine blk_alloc ?_ _)); refine blk_far ?_ NB168_191.out _; (with_reducible repeat (first | refine blk_drewN ?_ _ | refine blk_drew ?_ | refine blk_alloc ?_ _)); refine blk_far ?_ NB168_191.out _; (with_reducible repeat (first | refine blk_drewN ?_ _ | refine blk_drew ?_ | refine blk_alloc ?_ _)); refine blk_far ?_ NB168_191.out _; (with_reducible repeat (first | refine blk_drewN ?_ _ | refine blk_drew ?_ | refine blk_alloc ?_ _)); refine blk_far ?_ NB168_191.out _; (with_reducible repeat (first | refine blk_drewN ?_ _ | refine blk_drew ?_ | refine blk_alloc ?_ _)); refine blk_far ?_ NB168_191.out _; (with_reducible repeat (first | refine blk_drewN ?_ _ | refine blk_drew ?_ | refine blk_alloc ?_ _)); exact BK168.out) NB168_173.out (by simp)); have n1_ := Aside0.mk (KeepBut.blk hk (g' := gb169) (o := .cells #[.int .i64 0, .bool false, .int .i64 0, .int .i64 0, .int .i64 0, .int .i64 0] 25 (0, 0)) (by (with_reducible repeat (first | refine blk_drewN ?_ _ | refine blk_drew ?_ | refine blk_alloc ?_ _)); refine blk_far ?_ NB169_191.out _; (with_reducible repeat (first | refine blk_drewN ?_ _ | refine blk_drew ?_ | refine blk_alloc ?_ _)); refine blk_far ?_ NB169_191.out _; (with_reducible repeat (first | refine blk_drewN ?_ _ | refine blk_drew ?_ | refine blk_alloc ?_ _)); refine blk_far ?_ NB169_191.out _; (with_reducible repeat (first | refine blk_drewN ?_ _ | refine blk_drew ?_ | refine blk_alloc ?_ _)); refine blk_far ?_ NB169_191.out _; (with_reducible repeat (first | refine blk_drewN ?_ _ | refine blk_drew ?_ | refine blk_alloc ?_ _)); refine blk_far ?_ NB169_191.out _; (with_reducible repeat (first | refine blk_drewN ?_ _ | refine blk_drew ?_ | refine blk_alloc ?_ _)); refine blk_far ?_ NB169_191.out _; (with_reducible repeat (first | refine blk_drewN ?_ _ | refine blk_drew ?_ | refine blk_alloc ?_ _)); exact BK169.out) NB169_173.out (by simp)); have n2_ := Aside0.mk (KeepBut.blk hk (g' := gb182) (o := .cells #[.int .i64 x183000_5, .bool x183001_5, .int .i64 x183002_5, .int .i64 x183003_5, .int .i64 x183004_5, .int .i64 x183005_5] 25 (0, 0)) (by (with_reducible repeat (first | refine blk_drewN ?_ _ | refine blk_drew ?_ | refine blk_alloc ?_ _)); refine blk_far ?_ NB182_191.out _; (with_reducible repeat (first | refine blk_drewN ?_ _ | refine blk_drew ?_ | refine blk_alloc ?_ _)); refine blk_far ?_ NB182_191.out _; (with_reducible repeat (first | refine blk_drewN ?_ _ | refine blk_drew ?_ | refine blk_alloc ?_ _)); refine blk_far ?_ NB182_191.out _; (with_reducible repeat (first | refine blk_drewN ?_ _ | refine blk_drew ?_ | refine blk_alloc ?_ _)); refine blk_far ?_ NB182_191.out _; (with_reducible repeat (first | refine blk_drewN ?_ _ | refine blk_drew ?_ | refine blk_alloc ?_ _)); refine blk_far ?_ NB182_191.out _; (with_reducible repeat (first | refine blk_drewN ?_ _ | refine blk_drew ?_ | refine blk_alloc ?_ _)); refine blk_far ?_ NB182_191.out _; (with_reducible repeat (first | refine blk_drewN ?_ _ | refine blk_drew ?_ | refine blk_alloc ?_ _)); exact BK182.out) NB182_173.out (by simp)); have n3_ := Aside0.mk (KeepBut.blk hk (g' := gb191) (o := .cells #[.int .i64 t203, .bool t204, .int .i64 t205, .int .i64 t206, .int .i64 t207, .int .i64 t208] 25 (0, 0)) (by (with_reducible repeat (first | refine blk_drewN ?_ _ | refine blk_drew ?_ | refine blk_alloc ?_ _)); refine blk_put (cs := #[.int .i64 t203, .bool t204, .int .i64 t205, .int .i64 t206, .int .i64 t207, .int .i64 t188]) ?_ 5 _ rfl; (with_reducible repeat (first | refine blk_drewN ?_ _ | refine blk_drew ?_ | refine blk_alloc ?_ _)); refine blk_put (cs := #[.int .i64 t203, .bool t204, .int .i64 t205, .int .i64 t206, .int .i64 t187, .int .i64 t188]) ?_ 4 _ rfl; (with_reducible repeat (first | refine blk_drewN ?_ _ | refine blk_drew ?_ | refine blk_alloc ?_ _)); refine blk_put (cs := #[.int .i64 t203, .bool t204, .int .i64 t205, .int .i64 t186, .int .i64 t187, .int .i64 t188]) ?_ 3 _ rfl; (with_reducible repeat (first | refine blk_drewN ?_ _ | refine blk_drew ?_ | refine blk_alloc ?_ _)); refine blk_put (cs := #[.int .i64 t203, .bool t204, .int .i64 t185, .int .i64 t186, .int .i64 t187, .int .i64 t188]) ?_ 2 _ rfl; (with_reducible repeat (first | refine blk_drewN ?_ _ | refine blk_drew ?_ | refine blk_alloc ?_ _)); refine blk_put (cs := #[.int .i64 t203, .bool t184, .int .i64 t185, .int .i64 t186, .int .i64 t187, .int .i64 t188]) ?_ 1 _ rfl; (with_reducible repeat (first | refine blk_drewN ?_ _ | refine blk_drew ?_ | refine blk_alloc ?_ _)); refine blk_put (cs := #[.int .i64 t183, .bool t184, .int .i64 t185, .int .i64 t186, .int .i64 t187, .int .i64 t188]) ?_ 0 _ rfl; (with_reducible repeat (first | refine blk_drewN ?_ _ | refine blk_drew ?_ | refine blk_alloc ?_ _)); exact BK191.out) NB191_173.out (by simp)); have n4_ := Aside0.mk (hb); have n5_ := Aside0.mk (hi); clear BK168; clear BK169; clear BK182; clear BK191; clear HB; clear HI173; have BK168 := n0_; have BK169 := n1_; have BK182 := n2_; have BK191 := n3_; have HB := n4_; have HI173 := n5_; clear n0_ n1_ n2_ n3_ n4_ n5_; (try clear hb); (try clear hb2); (try clear hk); (try clear hi)))
              have n0_ := Aside0.mk (blk_drew BK168.out)
              have n1_ := Aside0.mk (blk_drew BK169.out)
              have n2_ := Aside0.mk (blk_drew BK182.out)
              have n3_ := Aside0.mk (blk_drew BK191.out)
              have n4_ := Aside0.mk (IsS114.drew HI173.out)
              have n5_ := Aside0.mk (below_drew1 HB.out)
              clear BK168
              clear BK169
              clear BK182
              clear BK191
              clear HI173
              clear HB
              have BK168 := n0_
              have BK169 := n1_
              have BK182 := n2_
              have BK191 := n3_
              have HI173 := n4_
              have HB := n5_
              clear n0_ n1_ n2_ n3_ n4_ n5_
              refine start_ (n := 4) (S := fun w' => w'.cell? ⟨gb182, 0, none⟩ = some (.int .i64 x183000_5) ∧ w'.cell? ⟨gb182, 1, none⟩ = some (.bool x183001_5) ∧ w'.cell? ⟨gb182, 2, none⟩ = some (.int .i64 x183002_5) ∧ w'.cell? ⟨gb182, 3, none⟩ = some (.int .i64 x183003_5) ∧ w'.cell? ⟨gb182, 4, none⟩ = some (.int .i64 x183004_5) ∧ w'.cell? ⟨gb182, 5, none⟩ = some (.int .i64 x183005_5) ∧ w'.cell? ⟨gb191, 0, none⟩ = some (.int .i64 t203) ∧ w'.cell? ⟨gb191, 1, none⟩ = some (.bool t204) ∧ w'.cell? ⟨gb191, 2, none⟩ = some (.int .i64 t205) ∧ w'.cell? ⟨gb191, 3, none⟩ = some (.int .i64 t206) ∧ w'.cell? ⟨gb191, 4, none⟩ = some (.int .i64 t207) ∧ w'.cell? ⟨gb191, 5, none⟩ = some (.int .i64 t208)) (ds := []) #[false, false, false, false] (by kernel_rfl) rfl rfl ⟨(blk_cell BK182.out 0).trans rfl, (blk_cell BK182.out 1).trans rfl, (blk_cell BK182.out 2).trans rfl, (blk_cell BK182.out 3).trans rfl, (blk_cell BK182.out 4).trans rfl, (blk_cell BK182.out 5).trans rfl, (blk_cell BK191.out 0).trans rfl, (blk_cell BK191.out 1).trans rfl, (blk_cell BK191.out 2).trans rfl, (blk_cell BK191.out 3).trans rfl, (blk_cell BK191.out 4).trans rfl, (blk_cell BK191.out 5).trans rfl⟩ (fun hHeld => ?_)
              generalize w69.drew = w70 at BK168 BK169 BK182 BK191 HI173 HB hHeld ⊢
              refine take_ (i := 0) (N := some 31) (v := ?_) (a' := ?_) #[true, false, false, false] rfl rfl (by kernel_rfl) (fun _ _ _ h => h) (Or.inl ⟨by rfl, ?_⟩) hHeld ?_ ?_
              rotate_left
              · rintro w' ⟨s0, s1, s2, s3, s4, s5, s6, s7, s8, s9, s10, s11⟩
                go_simp
                with_reducible rfl
              rotate_left
              · simp only [Act.put, List.setIfInBounds_toArray, List.set_cons_zero, List.set_cons_succ, i64_w, i32_w]
                rfl
              refine take_ (i := 1) (N := some 32) (v := ?_) (a' := ?_) #[true, true, false, false] rfl rfl (by kernel_rfl) (fun _ _ _ h => h) (Or.inl ⟨by rfl, ?_⟩) hHeld ?_ ?_
              rotate_left
              · rintro w' ⟨s0, s1, s2, s3, s4, s5, s6, s7, s8, s9, s10, s11⟩
                go_simp
                with_reducible rfl
              rotate_left
              · simp only [Act.put, List.setIfInBounds_toArray, List.set_cons_zero, List.set_cons_succ, i64_w, i32_w]
                rfl
              refine one_ (i := 2) (N := none) #[true, true, true, false] rfl rfl (by kernel_rfl) (by decide) (fun K hK => ?_)
              have hs71 : w70.cell? ⟨gb168, 0, none⟩ = some (.int .i64 0) := (blk_cell BK168.out 0).trans rfl
              have hfs71 := blk_frozen BK168.out 0
              have hns71_1 := NB169_168.out
              have hns71_2 := NB182_168.out
              have hns71_3 := NB191_168.out
              have hms71_1 := NB168_169.out
              have hms71_2 := NB168_182.out
              have hms71_3 := NB168_191.out
              have hs72 : w70.cell? ⟨gb168, 1, none⟩ = some (.bool false) := (blk_cell BK168.out 1).trans rfl
              have hfs72 := blk_frozen BK168.out 1
              have hns72_1 := NB169_168.out
              have hns72_2 := NB182_168.out
              have hns72_3 := NB191_168.out
              have hms72_1 := NB168_169.out
              have hms72_2 := NB168_182.out
              have hms72_3 := NB168_191.out
              have hs73 : w70.cell? ⟨gb168, 2, none⟩ = some (.int .i64 0) := (blk_cell BK168.out 2).trans rfl
              have hfs73 := blk_frozen BK168.out 2
              have hns73_1 := NB169_168.out
              have hns73_2 := NB182_168.out
              have hns73_3 := NB191_168.out
              have hms73_1 := NB168_169.out
              have hms73_2 := NB168_182.out
              have hms73_3 := NB168_191.out
              have hs74 : w70.cell? ⟨gb168, 3, none⟩ = some (.int .i64 0) := (blk_cell BK168.out 3).trans rfl
              have hfs74 := blk_frozen BK168.out 3
              have hns74_1 := NB169_168.out
              have hns74_2 := NB182_168.out
              have hns74_3 := NB191_168.out
              have hms74_1 := NB168_169.out
              have hms74_2 := NB168_182.out
              have hms74_3 := NB168_191.out
              have hs75 : w70.cell? ⟨gb168, 4, none⟩ = some (.int .i64 0) := (blk_cell BK168.out 4).trans rfl
              have hfs75 := blk_frozen BK168.out 4
              have hns75_1 := NB169_168.out
              have hns75_2 := NB182_168.out
              have hns75_3 := NB191_168.out
              have hms75_1 := NB168_169.out
              have hms75_2 := NB168_182.out
              have hms75_3 := NB168_191.out
              have hs76 : w70.cell? ⟨gb168, 5, none⟩ = some (.int .i64 0) := (blk_cell BK168.out 5).trans rfl
              have hfs76 := blk_frozen BK168.out 5
              have hns76_1 := NB169_168.out
              have hns76_2 := NB182_168.out
              have hns76_3 := NB191_168.out
              have hms76_1 := NB168_169.out
              have hms76_2 := NB168_182.out
              have hms76_3 := NB168_191.out
              refine skip_ (w1 := ?_) (by rfl) rfl ?_ ?_
              rotate_left
              · go_simp
                rfl
              refine hK.out _ _ ⟨((cell_far (p := ⟨gb168, _, none⟩) NB182_168.out _).trans (((cell_far (p := ⟨gb168, _, none⟩) NB182_168.out _).trans (((cell_far (p := ⟨gb168, _, none⟩) NB182_168.out _).trans (((cell_far (p := ⟨gb168, _, none⟩) NB182_168.out _).trans (((cell_far (p := ⟨gb168, _, none⟩) NB182_168.out _).trans (((cell_far (p := ⟨gb168, _, none⟩) NB182_168.out _).trans (hHeld.1)))))))))))), ((cell_far (p := ⟨gb168, _, none⟩) NB182_168.out _).trans (((cell_far (p := ⟨gb168, _, none⟩) NB182_168.out _).trans (((cell_far (p := ⟨gb168, _, none⟩) NB182_168.out _).trans (((cell_far (p := ⟨gb168, _, none⟩) NB182_168.out _).trans (((cell_far (p := ⟨gb168, _, none⟩) NB182_168.out _).trans (((cell_far (p := ⟨gb168, _, none⟩) NB182_168.out _).trans (hHeld.2.1)))))))))))), ((cell_far (p := ⟨gb168, _, none⟩) NB182_168.out _).trans (((cell_far (p := ⟨gb168, _, none⟩) NB182_168.out _).trans (((cell_far (p := ⟨gb168, _, none⟩) NB182_168.out _).trans (((cell_far (p := ⟨gb168, _, none⟩) NB182_168.out _).trans (((cell_far (p := ⟨gb168, _, none⟩) NB182_168.out _).trans (((cell_far (p := ⟨gb168, _, none⟩) NB182_168.out _).trans (hHeld.2.2.1)))))))))))), ((cell_far (p := ⟨gb168, _, none⟩) NB182_168.out _).trans (((cell_far (p := ⟨gb168, _, none⟩) NB182_168.out _).trans (((cell_far (p := ⟨gb168, _, none⟩) NB182_168.out _).trans (((cell_far (p := ⟨gb168, _, none⟩) NB182_168.out _).trans (((cell_far (p := ⟨gb168, _, none⟩) NB182_168.out _).trans (((cell_far (p := ⟨gb168, _, none⟩) NB182_168.out _).trans (hHeld.2.2.2.1)))))))))))), ((cell_far (p := ⟨gb168, _, none⟩) NB182_168.out _).trans (((cell_far (p := ⟨gb168, _, none⟩) NB182_168.out _).trans (((cell_far (p := ⟨gb168, _, none⟩) NB182_168.out _).trans (((cell_far (p := ⟨gb168, _, none⟩) NB182_168.out _).trans (((cell_far (p := ⟨gb168, _, none⟩) NB182_168.out _).trans (((cell_far (p := ⟨gb168, _, none⟩) NB182_168.out _).trans (hHeld.2.2.2.2.1)))))))))))), ((cell_far (p := ⟨gb168, _, none⟩) NB182_168.out _).trans (((cell_far (p := ⟨gb168, _, none⟩) NB182_168.out _).trans (((cell_far (p := ⟨gb168, _, none⟩) NB182_168.out _).trans (((cell_far (p := ⟨gb168, _, none⟩) NB182_168.out _).trans (((cell_far (p := ⟨gb168, _, none⟩) NB182_168.out _).trans (((cell_far (p := ⟨gb168, _, none⟩) NB182_168.out _).trans (hHeld.2.2.2.2.2.1)))))))))))), ((cell_far (p := ⟨gb168, _, none⟩) NB191_168.out _).trans (((cell_far (p := ⟨gb168, _, none⟩) NB191_168.out _).trans (((cell_far (p := ⟨gb168, _, none⟩) NB191_168.out _).trans (((cell_far (p := ⟨gb168, _, none⟩) NB191_168.out _).trans (((cell_far (p := ⟨gb168, _, none⟩) NB191_168.out _).trans (((cell_far (p := ⟨gb168, _, none⟩) NB191_168.out _).trans (hHeld.2.2.2.2.2.2.1)))))))))))), ((cell_far (p := ⟨gb168, _, none⟩) NB191_168.out _).trans (((cell_far (p := ⟨gb168, _, none⟩) NB191_168.out _).trans (((cell_far (p := ⟨gb168, _, none⟩) NB191_168.out _).trans (((cell_far (p := ⟨gb168, _, none⟩) NB191_168.out _).trans (((cell_far (p := ⟨gb168, _, none⟩) NB191_168.out _).trans (((cell_far (p := ⟨gb168, _, none⟩) NB191_168.out _).trans (hHeld.2.2.2.2.2.2.2.1)))))))))))), ((cell_far (p := ⟨gb168, _, none⟩) NB191_168.out _).trans (((cell_far (p := ⟨gb168, _, none⟩) NB191_168.out _).trans (((cell_far (p := ⟨gb168, _, none⟩) NB191_168.out _).trans (((cell_far (p := ⟨gb168, _, none⟩) NB191_168.out _).trans (((cell_far (p := ⟨gb168, _, none⟩) NB191_168.out _).trans (((cell_far (p := ⟨gb168, _, none⟩) NB191_168.out _).trans (hHeld.2.2.2.2.2.2.2.2.1)))))))))))), ((cell_far (p := ⟨gb168, _, none⟩) NB191_168.out _).trans (((cell_far (p := ⟨gb168, _, none⟩) NB191_168.out _).trans (((cell_far (p := ⟨gb168, _, none⟩) NB191_168.out _).trans (((cell_far (p := ⟨gb168, _, none⟩) NB191_168.out _).trans (((cell_far (p := ⟨gb168, _, none⟩) NB191_168.out _).trans (((cell_far (p := ⟨gb168, _, none⟩) NB191_168.out _).trans (hHeld.2.2.2.2.2.2.2.2.2.1)))))))))))), ((cell_far (p := ⟨gb168, _, none⟩) NB191_168.out _).trans (((cell_far (p := ⟨gb168, _, none⟩) NB191_168.out _).trans (((cell_far (p := ⟨gb168, _, none⟩) NB191_168.out _).trans (((cell_far (p := ⟨gb168, _, none⟩) NB191_168.out _).trans (((cell_far (p := ⟨gb168, _, none⟩) NB191_168.out _).trans (((cell_far (p := ⟨gb168, _, none⟩) NB191_168.out _).trans (hHeld.2.2.2.2.2.2.2.2.2.2.1)))))))))))), ((cell_far (p := ⟨gb168, _, none⟩) NB191_168.out _).trans (((cell_far (p := ⟨gb168, _, none⟩) NB191_168.out _).trans (((cell_far (p := ⟨gb168, _, none⟩) NB191_168.out _).trans (((cell_far (p := ⟨gb168, _, none⟩) NB191_168.out _).trans (((cell_far (p := ⟨gb168, _, none⟩) NB191_168.out _).trans (((cell_far (p := ⟨gb168, _, none⟩) NB191_168.out _).trans (hHeld.2.2.2.2.2.2.2.2.2.2.2))))))))))))⟩ (fun hHeld => ?_)
              clear hK K
              refine one_ (i := 3) (N := none) #[true, true, true, true] rfl rfl (by kernel_rfl) (by decide) (fun K hK => ?_)
              have hs77 : w70.cell? ⟨gb169, 0, none⟩ = some (.int .i64 0) := (blk_cell BK169.out 0).trans rfl
              have hfs77 := blk_frozen BK169.out 0
              have hns77_0 := NB168_169.out
              have hns77_2 := NB182_169.out
              have hns77_3 := NB191_169.out
              have hms77_0 := NB169_168.out
              have hms77_2 := NB169_182.out
              have hms77_3 := NB169_191.out
              have hs78 : w70.cell? ⟨gb169, 1, none⟩ = some (.bool false) := (blk_cell BK169.out 1).trans rfl
              have hfs78 := blk_frozen BK169.out 1
              have hns78_0 := NB168_169.out
              have hns78_2 := NB182_169.out
              have hns78_3 := NB191_169.out
              have hms78_0 := NB169_168.out
              have hms78_2 := NB169_182.out
              have hms78_3 := NB169_191.out
              have hs79 : w70.cell? ⟨gb169, 2, none⟩ = some (.int .i64 0) := (blk_cell BK169.out 2).trans rfl
              have hfs79 := blk_frozen BK169.out 2
              have hns79_0 := NB168_169.out
              have hns79_2 := NB182_169.out
              have hns79_3 := NB191_169.out
              have hms79_0 := NB169_168.out
              have hms79_2 := NB169_182.out
              have hms79_3 := NB169_191.out
              have hs80 : w70.cell? ⟨gb169, 3, none⟩ = some (.int .i64 0) := (blk_cell BK169.out 3).trans rfl
              have hfs80 := blk_frozen BK169.out 3
              have hns80_0 := NB168_169.out
              have hns80_2 := NB182_169.out
              have hns80_3 := NB191_169.out
              have hms80_0 := NB169_168.out
              have hms80_2 := NB169_182.out
              have hms80_3 := NB169_191.out
              have hs81 : w70.cell? ⟨gb169, 4, none⟩ = some (.int .i64 0) := (blk_cell BK169.out 4).trans rfl
              have hfs81 := blk_frozen BK169.out 4
              have hns81_0 := NB168_169.out
              have hns81_2 := NB182_169.out
              have hns81_3 := NB191_169.out
              have hms81_0 := NB169_168.out
              have hms81_2 := NB169_182.out
              have hms81_3 := NB169_191.out
              have hs82 : w70.cell? ⟨gb169, 5, none⟩ = some (.int .i64 0) := (blk_cell BK169.out 5).trans rfl
              have hfs82 := blk_frozen BK169.out 5
              have hns82_0 := NB168_169.out
              have hns82_2 := NB182_169.out
              have hns82_3 := NB191_169.out
              have hms82_0 := NB169_168.out
              have hms82_2 := NB169_182.out
              have hms82_3 := NB169_191.out
              refine skip_ (w1 := ?_) (by rfl) rfl ?_ ?_
              rotate_left
              · go_simp
                rfl
              refine hK.out _ _ ⟨((cell_far (p := ⟨gb169, _, none⟩) NB182_169.out _).trans (((cell_far (p := ⟨gb169, _, none⟩) NB182_169.out _).trans (((cell_far (p := ⟨gb169, _, none⟩) NB182_169.out _).trans (((cell_far (p := ⟨gb169, _, none⟩) NB182_169.out _).trans (((cell_far (p := ⟨gb169, _, none⟩) NB182_169.out _).trans (((cell_far (p := ⟨gb169, _, none⟩) NB182_169.out _).trans (hHeld.1)))))))))))), ((cell_far (p := ⟨gb169, _, none⟩) NB182_169.out _).trans (((cell_far (p := ⟨gb169, _, none⟩) NB182_169.out _).trans (((cell_far (p := ⟨gb169, _, none⟩) NB182_169.out _).trans (((cell_far (p := ⟨gb169, _, none⟩) NB182_169.out _).trans (((cell_far (p := ⟨gb169, _, none⟩) NB182_169.out _).trans (((cell_far (p := ⟨gb169, _, none⟩) NB182_169.out _).trans (hHeld.2.1)))))))))))), ((cell_far (p := ⟨gb169, _, none⟩) NB182_169.out _).trans (((cell_far (p := ⟨gb169, _, none⟩) NB182_169.out _).trans (((cell_far (p := ⟨gb169, _, none⟩) NB182_169.out _).trans (((cell_far (p := ⟨gb169, _, none⟩) NB182_169.out _).trans (((cell_far (p := ⟨gb169, _, none⟩) NB182_169.out _).trans (((cell_far (p := ⟨gb169, _, none⟩) NB182_169.out _).trans (hHeld.2.2.1)))))))))))), ((cell_far (p := ⟨gb169, _, none⟩) NB182_169.out _).trans (((cell_far (p := ⟨gb169, _, none⟩) NB182_169.out _).trans (((cell_far (p := ⟨gb169, _, none⟩) NB182_169.out _).trans (((cell_far (p := ⟨gb169, _, none⟩) NB182_169.out _).trans (((cell_far (p := ⟨gb169, _, none⟩) NB182_169.out _).trans (((cell_far (p := ⟨gb169, _, none⟩) NB182_169.out _).trans (hHeld.2.2.2.1)))))))))))), ((cell_far (p := ⟨gb169, _, none⟩) NB182_169.out _).trans (((cell_far (p := ⟨gb169, _, none⟩) NB182_169.out _).trans (((cell_far (p := ⟨gb169, _, none⟩) NB182_169.out _).trans (((cell_far (p := ⟨gb169, _, none⟩) NB182_169.out _).trans (((cell_far (p := ⟨gb169, _, none⟩) NB182_169.out _).trans (((cell_far (p := ⟨gb169, _, none⟩) NB182_169.out _).trans (hHeld.2.2.2.2.1)))))))))))), ((cell_far (p := ⟨gb169, _, none⟩) NB182_169.out _).trans (((cell_far (p := ⟨gb169, _, none⟩) NB182_169.out _).trans (((cell_far (p := ⟨gb169, _, none⟩) NB182_169.out _).trans (((cell_far (p := ⟨gb169, _, none⟩) NB182_169.out _).trans (((cell_far (p := ⟨gb169, _, none⟩) NB182_169.out _).trans (((cell_far (p := ⟨gb169, _, none⟩) NB182_169.out _).trans (hHeld.2.2.2.2.2.1)))))))))))), ((cell_far (p := ⟨gb169, _, none⟩) NB191_169.out _).trans (((cell_far (p := ⟨gb169, _, none⟩) NB191_169.out _).trans (((cell_far (p := ⟨gb169, _, none⟩) NB191_169.out _).trans (((cell_far (p := ⟨gb169, _, none⟩) NB191_169.out _).trans (((cell_far (p := ⟨gb169, _, none⟩) NB191_169.out _).trans (((cell_far (p := ⟨gb169, _, none⟩) NB191_169.out _).trans (hHeld.2.2.2.2.2.2.1)))))))))))), ((cell_far (p := ⟨gb169, _, none⟩) NB191_169.out _).trans (((cell_far (p := ⟨gb169, _, none⟩) NB191_169.out _).trans (((cell_far (p := ⟨gb169, _, none⟩) NB191_169.out _).trans (((cell_far (p := ⟨gb169, _, none⟩) NB191_169.out _).trans (((cell_far (p := ⟨gb169, _, none⟩) NB191_169.out _).trans (((cell_far (p := ⟨gb169, _, none⟩) NB191_169.out _).trans (hHeld.2.2.2.2.2.2.2.1)))))))))))), ((cell_far (p := ⟨gb169, _, none⟩) NB191_169.out _).trans (((cell_far (p := ⟨gb169, _, none⟩) NB191_169.out _).trans (((cell_far (p := ⟨gb169, _, none⟩) NB191_169.out _).trans (((cell_far (p := ⟨gb169, _, none⟩) NB191_169.out _).trans (((cell_far (p := ⟨gb169, _, none⟩) NB191_169.out _).trans (((cell_far (p := ⟨gb169, _, none⟩) NB191_169.out _).trans (hHeld.2.2.2.2.2.2.2.2.1)))))))))))), ((cell_far (p := ⟨gb169, _, none⟩) NB191_169.out _).trans (((cell_far (p := ⟨gb169, _, none⟩) NB191_169.out _).trans (((cell_far (p := ⟨gb169, _, none⟩) NB191_169.out _).trans (((cell_far (p := ⟨gb169, _, none⟩) NB191_169.out _).trans (((cell_far (p := ⟨gb169, _, none⟩) NB191_169.out _).trans (((cell_far (p := ⟨gb169, _, none⟩) NB191_169.out _).trans (hHeld.2.2.2.2.2.2.2.2.2.1)))))))))))), ((cell_far (p := ⟨gb169, _, none⟩) NB191_169.out _).trans (((cell_far (p := ⟨gb169, _, none⟩) NB191_169.out _).trans (((cell_far (p := ⟨gb169, _, none⟩) NB191_169.out _).trans (((cell_far (p := ⟨gb169, _, none⟩) NB191_169.out _).trans (((cell_far (p := ⟨gb169, _, none⟩) NB191_169.out _).trans (((cell_far (p := ⟨gb169, _, none⟩) NB191_169.out _).trans (hHeld.2.2.2.2.2.2.2.2.2.2.1)))))))))))), ((cell_far (p := ⟨gb169, _, none⟩) NB191_169.out _).trans (((cell_far (p := ⟨gb169, _, none⟩) NB191_169.out _).trans (((cell_far (p := ⟨gb169, _, none⟩) NB191_169.out _).trans (((cell_far (p := ⟨gb169, _, none⟩) NB191_169.out _).trans (((cell_far (p := ⟨gb169, _, none⟩) NB191_169.out _).trans (((cell_far (p := ⟨gb169, _, none⟩) NB191_169.out _).trans (hHeld.2.2.2.2.2.2.2.2.2.2.2))))))))))))⟩ (fun hHeld => ?_)
              clear hK K
              refine done_ (by kernel_rfl) ?_
              try go_wp2
              refine bodyPost_ret (results_cc rfl _ _ gb168 gb169 25 25 #[.int .i64 x183000_5, .bool x183001_5, .int .i64 x183002_5, .int .i64 x183003_5, .int .i64 x183004_5, .int .i64 x183005_5] #[.int .i64 t203, .bool t204, .int .i64 t205, .int .i64 t206, .int .i64 t207, .int .i64 t208] (0, 0) (0, 0) _ _ rfl (by (with_reducible repeat (first | refine blk_drewN ?_ _ | refine blk_drew ?_ | refine blk_alloc ?_ _)); refine blk_far ?_ NB168_169.out _; (with_reducible repeat (first | refine blk_drewN ?_ _ | refine blk_drew ?_ | refine blk_alloc ?_ _)); refine blk_far ?_ NB168_169.out _; (with_reducible repeat (first | refine blk_drewN ?_ _ | refine blk_drew ?_ | refine blk_alloc ?_ _)); refine blk_far ?_ NB168_169.out _; (with_reducible repeat (first | refine blk_drewN ?_ _ | refine blk_drew ?_ | refine blk_alloc ?_ _)); refine blk_far ?_ NB168_169.out _; (with_reducible repeat (first | refine blk_drewN ?_ _ | refine blk_drew ?_ | refine blk_alloc ?_ _)); refine blk_far ?_ NB168_169.out _; (with_reducible repeat (first | refine blk_drewN ?_ _ | refine blk_drew ?_ | refine blk_alloc ?_ _)); refine blk_far ?_ NB168_169.out _; (with_reducible repeat (first | refine blk_drewN ?_ _ | refine blk_drew ?_ | refine blk_alloc ?_ _)); refine blk_put (cs := #[.int .i64 x183000_5, .bool x183001_5, .int .i64 x183002_5, .int .i64 x183003_5, .int .i64 x183004_5, .int .i64 0]) ?_ 5 _ rfl; (with_reducible repeat (first | refine blk_drewN ?_ _ | refine blk_drew ?_ | refine blk_alloc ?_ _)); refine blk_put (cs := #[.int .i64 x183000_5, .bool x183001_5, .int .i64 x183002_5, .int .i64 x183003_5, .int .i64 0, .int .i64 0]) ?_ 4 _ rfl; (with_reducible repeat (first | refine blk_drewN ?_ _ | refine blk_drew ?_ | refine blk_alloc ?_ _)); refine blk_put (cs := #[.int .i64 x183000_5, .bool x183001_5, .int .i64 x183002_5, .int .i64 0, .int .i64 0, .int .i64 0]) ?_ 3 _ rfl; (with_reducible repeat (first | refine blk_drewN ?_ _ | refine blk_drew ?_ | refine blk_alloc ?_ _)); refine blk_put (cs := #[.int .i64 x183000_5, .bool x183001_5, .int .i64 0, .int .i64 0, .int .i64 0, .int .i64 0]) ?_ 2 _ rfl; (with_reducible repeat (first | refine blk_drewN ?_ _ | refine blk_drew ?_ | refine blk_alloc ?_ _)); refine blk_put (cs := #[.int .i64 x183000_5, .bool false, .int .i64 0, .int .i64 0, .int .i64 0, .int .i64 0]) ?_ 1 _ rfl; (with_reducible repeat (first | refine blk_drewN ?_ _ | refine blk_drew ?_ | refine blk_alloc ?_ _)); refine blk_put (cs := #[.int .i64 0, .bool false, .int .i64 0, .int .i64 0, .int .i64 0, .int .i64 0]) ?_ 0 _ rfl; (with_reducible repeat (first | refine blk_drewN ?_ _ | refine blk_drew ?_ | refine blk_alloc ?_ _)); exact BK168.out) Try.underlying25 rfl (by kernel_rfl) rfl (by (with_reducible repeat (first | refine blk_drewN ?_ _ | refine blk_drew ?_ | refine blk_alloc ?_ _)); refine blk_put (cs := #[.int .i64 t203, .bool t204, .int .i64 t205, .int .i64 t206, .int .i64 t207, .int .i64 0]) ?_ 5 _ rfl; (with_reducible repeat (first | refine blk_drewN ?_ _ | refine blk_drew ?_ | refine blk_alloc ?_ _)); refine blk_put (cs := #[.int .i64 t203, .bool t204, .int .i64 t205, .int .i64 t206, .int .i64 0, .int .i64 0]) ?_ 4 _ rfl; (with_reducible repeat (first | refine blk_drewN ?_ _ | refine blk_drew ?_ | refine blk_alloc ?_ _)); refine blk_put (cs := #[.int .i64 t203, .bool t204, .int .i64 t205, .int .i64 0, .int .i64 0, .int .i64 0]) ?_ 3 _ rfl; (with_reducible repeat (first | refine blk_drewN ?_ _ | refine blk_drew ?_ | refine blk_alloc ?_ _)); refine blk_put (cs := #[.int .i64 t203, .bool t204, .int .i64 0, .int .i64 0, .int .i64 0, .int .i64 0]) ?_ 2 _ rfl; (with_reducible repeat (first | refine blk_drewN ?_ _ | refine blk_drew ?_ | refine blk_alloc ?_ _)); refine blk_put (cs := #[.int .i64 t203, .bool false, .int .i64 0, .int .i64 0, .int .i64 0, .int .i64 0]) ?_ 1 _ rfl; (with_reducible repeat (first | refine blk_drewN ?_ _ | refine blk_drew ?_ | refine blk_alloc ?_ _)); refine blk_put (cs := #[.int .i64 0, .bool false, .int .i64 0, .int .i64 0, .int .i64 0, .int .i64 0]) ?_ 0 _ rfl; (with_reducible repeat (first | refine blk_drewN ?_ _ | refine blk_drew ?_ | refine blk_alloc ?_ _)); refine blk_far ?_ NB169_168.out _; (with_reducible repeat (first | refine blk_drewN ?_ _ | refine blk_drew ?_ | refine blk_alloc ?_ _)); refine blk_far ?_ NB169_168.out _; (with_reducible repeat (first | refine blk_drewN ?_ _ | refine blk_drew ?_ | refine blk_alloc ?_ _)); refine blk_far ?_ NB169_168.out _; (with_reducible repeat (first | refine blk_drewN ?_ _ | refine blk_drew ?_ | refine blk_alloc ?_ _)); refine blk_far ?_ NB169_168.out _; (with_reducible repeat (first | refine blk_drewN ?_ _ | refine blk_drew ?_ | refine blk_alloc ?_ _)); refine blk_far ?_ NB169_168.out _; (with_reducible repeat (first | refine blk_drewN ?_ _ | refine blk_drew ?_ | refine blk_alloc ?_ _)); refine blk_far ?_ NB169_168.out _; (with_reducible repeat (first | refine blk_drewN ?_ _ | refine blk_drew ?_ | refine blk_alloc ?_ _)); exact BK169.out) Try.underlying25 rfl (by kernel_rfl)) rfl ?_
              exact ⟨by first | rfl | (simp [errW_none, errW_some] <;> rfl) | (simp [*, errW_none, errW_some] <;> rfl), by repeat (first | (with_reducible first | exact HB.out | apply below_alloc | apply pw_below_drewN | apply below_drew1 | refine below_set ?_ (IsS114.ge HI173.out) | refine below_set ?_ GE168.out | refine below_set ?_ GE169.out | refine below_set ?_ GE182.out | refine below_set ?_ GE191.out) | exact HB.out)⟩
          · replace c34 := Bool.eq_false_iff.mpr c34
            subst c34
            have H1 : ((spec_l1Once.f t170 x174001_5 x174002_5 20).bind fun bt214 => (if bt214.1 = true then (some (2, x183001_5, x183002_5, x183003_5, x183004_5, x183005_5, t183, t184, t185, t186, t187, t188)) else (some (x183000_5, x183001_5, x183002_5, x183003_5, x183004_5, x183005_5, t183, t184, t185, t186, t187, t188)))) = some (r1, r2, r3, r4, r5, r6, r7, r8, r9, r10, r11, r12) := by rw [if_neg (show ¬ (false = true) by decide)] at H; exact H
            clear H
            have H := H1
            clear H1
            replace H := Option.bind_eq_some_iff.mp H
            obtain ⟨⟨t214, t215, t216⟩, A830, H⟩ := H
            replace H : (if t214 = true then (some (2, x183001_5, x183002_5, x183003_5, x183004_5, x183005_5, t183, t184, t185, t186, t187, t188)) else (some (x183000_5, x183001_5, x183002_5, x183003_5, x183004_5, x183005_5, t183, t184, t185, t186, t187, t188))) = some (r1, r2, r3, r4, r5, r6, r7, r8, r9, r10, r11, r12) := H
            have A83 := Aside0.mk A830
            clear A830
            by_cases c84 : t214 = true
            · subst c84
              have H1 : (some (2, x183001_5, x183002_5, x183003_5, x183004_5, x183005_5, t183, t184, t185, t186, t187, t188)) = some (r1, r2, r3, r4, r5, r6, r7, r8, r9, r10, r11, r12) := by rw [if_pos rfl] at H; exact H
              clear H
              have H := H1
              clear H1
              simp only [Option.some.injEq, Prod.mk.injEq] at H
              obtain ⟨rfl, rfl, rfl, rfl, rfl, rfl, rfl, rfl, rfl, rfl, rfl, rfl⟩ := H
              try go_wp2_with (first | ((with_reducible refine gate_callee (f := 41) rfl ?_); refine goesL_ (some 29) rfl rfl Try.func41 (by kernel_rfl) rfl #[.pointer (some ⟨g173, 0, none⟩), .int .i64 20] rfl (by (try simp only [List.map_toArray, List.map_cons, List.map_nil]); first | done | rfl | (simp only [List.length_drop, List.length_take]; rfl)) ?_; (with_reducible refine (spec_l1Once.calls g173 t170 x174001_5 x174002_5 20 true t215 t216 w _ ?side1 ?side2 A83.out).mono ?_); (case side1 => repeat (first | (with_reducible first | exact HI173.out | apply IsS114.alloc | apply IsS114.drewN | apply IsS114.drew | apply IsS114.set_1 | apply IsS114.set_2 | refine IsS114.far ?_ NB173_168.out _ | refine IsS114.far ?_ NB173_169.out _ | refine IsS114.far ?_ NB173_182.out _ | refine IsS114.far ?_ NB173_191.out _) | exact HI173.out)); (case side2 => repeat (first | (with_reducible first | exact HB.out | apply below_alloc | apply pw_below_drewN | apply below_drew1 | refine below_set ?_ (IsS114.ge HI173.out) | refine below_set ?_ GE168.out | refine below_set ?_ GE169.out | refine below_set ?_ GE182.out | refine below_set ?_ GE191.out) | exact HB.out)); rintro e w85 ⟨rfl, hi, hb, hk⟩; refine ⟨_, rfl, ?_⟩; have n0_ := Aside0.mk (KeepBut.blk hk (g' := gb168) (o := .cells #[.int .i64 0, .bool false, .int .i64 0, .int .i64 0, .int .i64 0, .int .i64 0] 25 (0, 0)) (by (with_reducible repeat (first | refine blk_drewN ?_ _ | refine blk_drew ?_ | refine blk_alloc ?_ _)); exact BK168.out) NB168_173.out (by simp)); have n1_ := Aside0.mk (KeepBut.blk hk (g' := gb169) (o := .cells #[.int .i64 0, .bool false, .int .i64 0, .int .i64 0, .int .i64 0, .int .i64 0] 25 (0, 0)) (by (with_reducible repeat (first | refine blk_drewN ?_ _ | refine blk_drew ?_ | refine blk_alloc ?_ _)); exact BK169.out) NB169_173.out (by simp)); have n2_ := Aside0.mk (KeepBut.blk hk (g' := gb182) (o := .cells #[.int .i64 x183000_5, .bool x183001_5, .int .i64 x183002_5, .int .i64 x183003_5, .int .i64 x183004_5, .int .i64 x183005_5] 25 (0, 0)) (by (with_reducible repeat (first | refine blk_drewN ?_ _ | refine blk_drew ?_ | refine blk_alloc ?_ _)); exact BK182.out) NB182_173.out (by simp)); have n3_ := Aside0.mk (KeepBut.blk hk (g' := gb191) (o := .cells #[.int .i64 t183, .bool t184, .int .i64 t185, .int .i64 t186, .int .i64 t187, .int .i64 t188] 25 (0, 0)) (by (with_reducible repeat (first | refine blk_drewN ?_ _ | refine blk_drew ?_ | refine blk_alloc ?_ _)); exact BK191.out) NB191_173.out (by simp)); have n4_ := Aside0.mk (hb); have n5_ := Aside0.mk (hi); clear BK168; clear BK169; clear BK182; clear BK191; clear HB; clear HI173; have BK168 := n0_; have BK169 := n1_; have BK182 := n2_; have BK191 := n3_; have HB := n4_; have HI173 := n5_; clear n0_ n1_ n2_ n3_ n4_ n5_; (try clear hb); (try clear hb2); (try clear hk); (try clear hi); have hnb86 := NB182_168.out; have hnc86 := NB168_182.out; have hnb87 := NB182_169.out; have hnc87 := NB169_182.out; have hnb88 := NB182_191.out; have hnc88 := NB191_182.out; have hnb89 := NB182_173.out; have hnc89 := NB173_182.out; have hcz90_0 : w85.cell? ⟨gb182, 0, none⟩ = some (.int .i64 x183000_5) := (blk_cell BK182.out 0).trans rfl; have hcz90_1 : w85.cell? ⟨gb182, 1, none⟩ = some (.bool x183001_5) := (blk_cell BK182.out 1).trans rfl; have hcz90_2 : w85.cell? ⟨gb182, 2, none⟩ = some (.int .i64 x183002_5) := (blk_cell BK182.out 2).trans rfl; have hcz90_3 : w85.cell? ⟨gb182, 3, none⟩ = some (.int .i64 x183003_5) := (blk_cell BK182.out 3).trans rfl; have hcz90_4 : w85.cell? ⟨gb182, 4, none⟩ = some (.int .i64 x183004_5) := (blk_cell BK182.out 4).trans rfl; have hcz90_5 : w85.cell? ⟨gb182, 5, none⟩ = some (.int .i64 x183005_5) := (blk_cell BK182.out 5).trans rfl; have hfz90_0 := blk_frozen BK182.out 0; have hfz90_1 := blk_frozen BK182.out 1; have hfz90_2 := blk_frozen BK182.out 2; have hfz90_3 := blk_frozen BK182.out 3; have hfz90_4 := blk_frozen BK182.out 4; have hfz90_5 := blk_frozen BK182.out 5))
              have n0_ : Aside0 ((w85.setCell ⟨gb182, 0, none⟩ (.int .i64 2)).heap[gb168]? = some (.cells #[.int .i64 0, .bool false, .int .i64 0, .int .i64 0, .int .i64 0, .int .i64 0] 25 (0, 0))) := ⟨by (with_reducible repeat (first | refine blk_drewN ?_ _ | refine blk_drew ?_ | refine blk_alloc ?_ _)); refine blk_far ?_ NB168_182.out _; (with_reducible repeat (first | refine blk_drewN ?_ _ | refine blk_drew ?_ | refine blk_alloc ?_ _)); exact BK168.out⟩
              have n1_ : Aside0 ((w85.setCell ⟨gb182, 0, none⟩ (.int .i64 2)).heap[gb169]? = some (.cells #[.int .i64 0, .bool false, .int .i64 0, .int .i64 0, .int .i64 0, .int .i64 0] 25 (0, 0))) := ⟨by (with_reducible repeat (first | refine blk_drewN ?_ _ | refine blk_drew ?_ | refine blk_alloc ?_ _)); refine blk_far ?_ NB169_182.out _; (with_reducible repeat (first | refine blk_drewN ?_ _ | refine blk_drew ?_ | refine blk_alloc ?_ _)); exact BK169.out⟩
              have n2_ : Aside0 ((w85.setCell ⟨gb182, 0, none⟩ (.int .i64 2)).heap[gb182]? = some (.cells #[.int .i64 2, .bool x183001_5, .int .i64 x183002_5, .int .i64 x183003_5, .int .i64 x183004_5, .int .i64 x183005_5] 25 (0, 0))) := ⟨by (with_reducible repeat (first | refine blk_drewN ?_ _ | refine blk_drew ?_ | refine blk_alloc ?_ _)); refine blk_put (cs := #[.int .i64 x183000_5, .bool x183001_5, .int .i64 x183002_5, .int .i64 x183003_5, .int .i64 x183004_5, .int .i64 x183005_5]) ?_ 0 _ rfl; (with_reducible repeat (first | refine blk_drewN ?_ _ | refine blk_drew ?_ | refine blk_alloc ?_ _)); exact BK182.out⟩
              have n3_ : Aside0 ((w85.setCell ⟨gb182, 0, none⟩ (.int .i64 2)).heap[gb191]? = some (.cells #[.int .i64 t183, .bool t184, .int .i64 t185, .int .i64 t186, .int .i64 t187, .int .i64 t188] 25 (0, 0))) := ⟨by (with_reducible repeat (first | refine blk_drewN ?_ _ | refine blk_drew ?_ | refine blk_alloc ?_ _)); refine blk_far ?_ NB191_182.out _; (with_reducible repeat (first | refine blk_drewN ?_ _ | refine blk_drew ?_ | refine blk_alloc ?_ _)); exact BK191.out⟩
              have n4_ : Aside0 (IsS114 w (w85.setCell ⟨gb182, 0, none⟩ (.int .i64 2)) g173 t170 t215 t216) := ⟨by repeat (first | (with_reducible first | exact HI173.out | apply IsS114.alloc | apply IsS114.drewN | apply IsS114.drew | apply IsS114.set_1 | apply IsS114.set_2 | refine IsS114.far ?_ NB173_168.out _ | refine IsS114.far ?_ NB173_169.out _ | refine IsS114.far ?_ NB173_182.out _ | refine IsS114.far ?_ NB173_191.out _) | exact HI173.out)⟩
              have n5_ : Aside0 (Below w.heap.size w (w85.setCell ⟨gb182, 0, none⟩ (.int .i64 2))) := ⟨by repeat (first | (with_reducible first | exact HB.out | apply below_alloc | apply pw_below_drewN | apply below_drew1 | refine below_set ?_ (IsS114.ge HI173.out) | refine below_set ?_ GE168.out | refine below_set ?_ GE169.out | refine below_set ?_ GE182.out | refine below_set ?_ GE191.out) | exact HB.out)⟩
              (try clear BK168)
              (try clear BK169)
              (try clear BK182)
              (try clear BK191)
              (try clear HI173)
              (try clear HB)
              generalize (w85.setCell ⟨gb182, 0, none⟩ (.int .i64 2)) = w91 at n0_ n1_ n2_ n3_ n4_ n5_ ⊢
              have BK168 := n0_
              have BK169 := n1_
              have BK182 := n2_
              have BK191 := n3_
              have HI173 := n4_
              have HB := n5_
              clear n0_ n1_ n2_ n3_ n4_ n5_
              have n0_ := Aside0.mk (blk_drew BK168.out)
              have n1_ := Aside0.mk (blk_drew BK169.out)
              have n2_ := Aside0.mk (blk_drew BK182.out)
              have n3_ := Aside0.mk (blk_drew BK191.out)
              have n4_ := Aside0.mk (IsS114.drew HI173.out)
              have n5_ := Aside0.mk (below_drew1 HB.out)
              clear BK168
              clear BK169
              clear BK182
              clear BK191
              clear HI173
              clear HB
              have BK168 := n0_
              have BK169 := n1_
              have BK182 := n2_
              have BK191 := n3_
              have HI173 := n4_
              have HB := n5_
              clear n0_ n1_ n2_ n3_ n4_ n5_
              refine start_ (n := 4) (S := fun w' => w'.cell? ⟨gb182, 0, none⟩ = some (.int .i64 2) ∧ w'.cell? ⟨gb182, 1, none⟩ = some (.bool x183001_5) ∧ w'.cell? ⟨gb182, 2, none⟩ = some (.int .i64 x183002_5) ∧ w'.cell? ⟨gb182, 3, none⟩ = some (.int .i64 x183003_5) ∧ w'.cell? ⟨gb182, 4, none⟩ = some (.int .i64 x183004_5) ∧ w'.cell? ⟨gb182, 5, none⟩ = some (.int .i64 x183005_5) ∧ w'.cell? ⟨gb191, 0, none⟩ = some (.int .i64 t183) ∧ w'.cell? ⟨gb191, 1, none⟩ = some (.bool t184) ∧ w'.cell? ⟨gb191, 2, none⟩ = some (.int .i64 t185) ∧ w'.cell? ⟨gb191, 3, none⟩ = some (.int .i64 t186) ∧ w'.cell? ⟨gb191, 4, none⟩ = some (.int .i64 t187) ∧ w'.cell? ⟨gb191, 5, none⟩ = some (.int .i64 t188)) (ds := []) #[false, false, false, false] (by kernel_rfl) rfl rfl ⟨(blk_cell BK182.out 0).trans rfl, (blk_cell BK182.out 1).trans rfl, (blk_cell BK182.out 2).trans rfl, (blk_cell BK182.out 3).trans rfl, (blk_cell BK182.out 4).trans rfl, (blk_cell BK182.out 5).trans rfl, (blk_cell BK191.out 0).trans rfl, (blk_cell BK191.out 1).trans rfl, (blk_cell BK191.out 2).trans rfl, (blk_cell BK191.out 3).trans rfl, (blk_cell BK191.out 4).trans rfl, (blk_cell BK191.out 5).trans rfl⟩ (fun hHeld => ?_)
              generalize w91.drew = w92 at BK168 BK169 BK182 BK191 HI173 HB hHeld ⊢
              refine take_ (i := 0) (N := some 31) (v := ?_) (a' := ?_) #[true, false, false, false] rfl rfl (by kernel_rfl) (fun _ _ _ h => h) (Or.inl ⟨by rfl, ?_⟩) hHeld ?_ ?_
              rotate_left
              · rintro w' ⟨s0, s1, s2, s3, s4, s5, s6, s7, s8, s9, s10, s11⟩
                go_simp
                with_reducible rfl
              rotate_left
              · simp only [Act.put, List.setIfInBounds_toArray, List.set_cons_zero, List.set_cons_succ, i64_w, i32_w]
                rfl
              refine take_ (i := 1) (N := some 32) (v := ?_) (a' := ?_) #[true, true, false, false] rfl rfl (by kernel_rfl) (fun _ _ _ h => h) (Or.inl ⟨by rfl, ?_⟩) hHeld ?_ ?_
              rotate_left
              · rintro w' ⟨s0, s1, s2, s3, s4, s5, s6, s7, s8, s9, s10, s11⟩
                go_simp
                with_reducible rfl
              rotate_left
              · simp only [Act.put, List.setIfInBounds_toArray, List.set_cons_zero, List.set_cons_succ, i64_w, i32_w]
                rfl
              refine one_ (i := 2) (N := none) #[true, true, true, false] rfl rfl (by kernel_rfl) (by decide) (fun K hK => ?_)
              have hs93 : w92.cell? ⟨gb168, 0, none⟩ = some (.int .i64 0) := (blk_cell BK168.out 0).trans rfl
              have hfs93 := blk_frozen BK168.out 0
              have hns93_1 := NB169_168.out
              have hns93_2 := NB182_168.out
              have hns93_3 := NB191_168.out
              have hms93_1 := NB168_169.out
              have hms93_2 := NB168_182.out
              have hms93_3 := NB168_191.out
              have hs94 : w92.cell? ⟨gb168, 1, none⟩ = some (.bool false) := (blk_cell BK168.out 1).trans rfl
              have hfs94 := blk_frozen BK168.out 1
              have hns94_1 := NB169_168.out
              have hns94_2 := NB182_168.out
              have hns94_3 := NB191_168.out
              have hms94_1 := NB168_169.out
              have hms94_2 := NB168_182.out
              have hms94_3 := NB168_191.out
              have hs95 : w92.cell? ⟨gb168, 2, none⟩ = some (.int .i64 0) := (blk_cell BK168.out 2).trans rfl
              have hfs95 := blk_frozen BK168.out 2
              have hns95_1 := NB169_168.out
              have hns95_2 := NB182_168.out
              have hns95_3 := NB191_168.out
              have hms95_1 := NB168_169.out
              have hms95_2 := NB168_182.out
              have hms95_3 := NB168_191.out
              have hs96 : w92.cell? ⟨gb168, 3, none⟩ = some (.int .i64 0) := (blk_cell BK168.out 3).trans rfl
              have hfs96 := blk_frozen BK168.out 3
              have hns96_1 := NB169_168.out
              have hns96_2 := NB182_168.out
              have hns96_3 := NB191_168.out
              have hms96_1 := NB168_169.out
              have hms96_2 := NB168_182.out
              have hms96_3 := NB168_191.out
              have hs97 : w92.cell? ⟨gb168, 4, none⟩ = some (.int .i64 0) := (blk_cell BK168.out 4).trans rfl
              have hfs97 := blk_frozen BK168.out 4
              have hns97_1 := NB169_168.out
              have hns97_2 := NB182_168.out
              have hns97_3 := NB191_168.out
              have hms97_1 := NB168_169.out
              have hms97_2 := NB168_182.out
              have hms97_3 := NB168_191.out
              have hs98 : w92.cell? ⟨gb168, 5, none⟩ = some (.int .i64 0) := (blk_cell BK168.out 5).trans rfl
              have hfs98 := blk_frozen BK168.out 5
              have hns98_1 := NB169_168.out
              have hns98_2 := NB182_168.out
              have hns98_3 := NB191_168.out
              have hms98_1 := NB168_169.out
              have hms98_2 := NB168_182.out
              have hms98_3 := NB168_191.out
              refine skip_ (w1 := ?_) (by rfl) rfl ?_ ?_
              rotate_left
              · go_simp
                rfl
              refine hK.out _ _ ⟨((cell_far (p := ⟨gb168, _, none⟩) NB182_168.out _).trans (((cell_far (p := ⟨gb168, _, none⟩) NB182_168.out _).trans (((cell_far (p := ⟨gb168, _, none⟩) NB182_168.out _).trans (((cell_far (p := ⟨gb168, _, none⟩) NB182_168.out _).trans (((cell_far (p := ⟨gb168, _, none⟩) NB182_168.out _).trans (((cell_far (p := ⟨gb168, _, none⟩) NB182_168.out _).trans (hHeld.1)))))))))))), ((cell_far (p := ⟨gb168, _, none⟩) NB182_168.out _).trans (((cell_far (p := ⟨gb168, _, none⟩) NB182_168.out _).trans (((cell_far (p := ⟨gb168, _, none⟩) NB182_168.out _).trans (((cell_far (p := ⟨gb168, _, none⟩) NB182_168.out _).trans (((cell_far (p := ⟨gb168, _, none⟩) NB182_168.out _).trans (((cell_far (p := ⟨gb168, _, none⟩) NB182_168.out _).trans (hHeld.2.1)))))))))))), ((cell_far (p := ⟨gb168, _, none⟩) NB182_168.out _).trans (((cell_far (p := ⟨gb168, _, none⟩) NB182_168.out _).trans (((cell_far (p := ⟨gb168, _, none⟩) NB182_168.out _).trans (((cell_far (p := ⟨gb168, _, none⟩) NB182_168.out _).trans (((cell_far (p := ⟨gb168, _, none⟩) NB182_168.out _).trans (((cell_far (p := ⟨gb168, _, none⟩) NB182_168.out _).trans (hHeld.2.2.1)))))))))))), ((cell_far (p := ⟨gb168, _, none⟩) NB182_168.out _).trans (((cell_far (p := ⟨gb168, _, none⟩) NB182_168.out _).trans (((cell_far (p := ⟨gb168, _, none⟩) NB182_168.out _).trans (((cell_far (p := ⟨gb168, _, none⟩) NB182_168.out _).trans (((cell_far (p := ⟨gb168, _, none⟩) NB182_168.out _).trans (((cell_far (p := ⟨gb168, _, none⟩) NB182_168.out _).trans (hHeld.2.2.2.1)))))))))))), ((cell_far (p := ⟨gb168, _, none⟩) NB182_168.out _).trans (((cell_far (p := ⟨gb168, _, none⟩) NB182_168.out _).trans (((cell_far (p := ⟨gb168, _, none⟩) NB182_168.out _).trans (((cell_far (p := ⟨gb168, _, none⟩) NB182_168.out _).trans (((cell_far (p := ⟨gb168, _, none⟩) NB182_168.out _).trans (((cell_far (p := ⟨gb168, _, none⟩) NB182_168.out _).trans (hHeld.2.2.2.2.1)))))))))))), ((cell_far (p := ⟨gb168, _, none⟩) NB182_168.out _).trans (((cell_far (p := ⟨gb168, _, none⟩) NB182_168.out _).trans (((cell_far (p := ⟨gb168, _, none⟩) NB182_168.out _).trans (((cell_far (p := ⟨gb168, _, none⟩) NB182_168.out _).trans (((cell_far (p := ⟨gb168, _, none⟩) NB182_168.out _).trans (((cell_far (p := ⟨gb168, _, none⟩) NB182_168.out _).trans (hHeld.2.2.2.2.2.1)))))))))))), ((cell_far (p := ⟨gb168, _, none⟩) NB191_168.out _).trans (((cell_far (p := ⟨gb168, _, none⟩) NB191_168.out _).trans (((cell_far (p := ⟨gb168, _, none⟩) NB191_168.out _).trans (((cell_far (p := ⟨gb168, _, none⟩) NB191_168.out _).trans (((cell_far (p := ⟨gb168, _, none⟩) NB191_168.out _).trans (((cell_far (p := ⟨gb168, _, none⟩) NB191_168.out _).trans (hHeld.2.2.2.2.2.2.1)))))))))))), ((cell_far (p := ⟨gb168, _, none⟩) NB191_168.out _).trans (((cell_far (p := ⟨gb168, _, none⟩) NB191_168.out _).trans (((cell_far (p := ⟨gb168, _, none⟩) NB191_168.out _).trans (((cell_far (p := ⟨gb168, _, none⟩) NB191_168.out _).trans (((cell_far (p := ⟨gb168, _, none⟩) NB191_168.out _).trans (((cell_far (p := ⟨gb168, _, none⟩) NB191_168.out _).trans (hHeld.2.2.2.2.2.2.2.1)))))))))))), ((cell_far (p := ⟨gb168, _, none⟩) NB191_168.out _).trans (((cell_far (p := ⟨gb168, _, none⟩) NB191_168.out _).trans (((cell_far (p := ⟨gb168, _, none⟩) NB191_168.out _).trans (((cell_far (p := ⟨gb168, _, none⟩) NB191_168.out _).trans (((cell_far (p := ⟨gb168, _, none⟩) NB191_168.out _).trans (((cell_far (p := ⟨gb168, _, none⟩) NB191_168.out _).trans (hHeld.2.2.2.2.2.2.2.2.1)))))))))))), ((cell_far (p := ⟨gb168, _, none⟩) NB191_168.out _).trans (((cell_far (p := ⟨gb168, _, none⟩) NB191_168.out _).trans (((cell_far (p := ⟨gb168, _, none⟩) NB191_168.out _).trans (((cell_far (p := ⟨gb168, _, none⟩) NB191_168.out _).trans (((cell_far (p := ⟨gb168, _, none⟩) NB191_168.out _).trans (((cell_far (p := ⟨gb168, _, none⟩) NB191_168.out _).trans (hHeld.2.2.2.2.2.2.2.2.2.1)))))))))))), ((cell_far (p := ⟨gb168, _, none⟩) NB191_168.out _).trans (((cell_far (p := ⟨gb168, _, none⟩) NB191_168.out _).trans (((cell_far (p := ⟨gb168, _, none⟩) NB191_168.out _).trans (((cell_far (p := ⟨gb168, _, none⟩) NB191_168.out _).trans (((cell_far (p := ⟨gb168, _, none⟩) NB191_168.out _).trans (((cell_far (p := ⟨gb168, _, none⟩) NB191_168.out _).trans (hHeld.2.2.2.2.2.2.2.2.2.2.1)))))))))))), ((cell_far (p := ⟨gb168, _, none⟩) NB191_168.out _).trans (((cell_far (p := ⟨gb168, _, none⟩) NB191_168.out _).trans (((cell_far (p := ⟨gb168, _, none⟩) NB191_168.out _).trans (((cell_far (p := ⟨gb168, _, none⟩) NB191_168.out _).trans (((cell_far (p := ⟨gb168, _, none⟩) NB191_168.out _).trans (((cell_far (p := ⟨gb168, _, none⟩) NB191_168.out _).trans (hHeld.2.2.2.2.2.2.2.2.2.2.2))))))))))))⟩ (fun hHeld => ?_)
              clear hK K
              refine one_ (i := 3) (N := none) #[true, true, true, true] rfl rfl (by kernel_rfl) (by decide) (fun K hK => ?_)
              have hs99 : w92.cell? ⟨gb169, 0, none⟩ = some (.int .i64 0) := (blk_cell BK169.out 0).trans rfl
              have hfs99 := blk_frozen BK169.out 0
              have hns99_0 := NB168_169.out
              have hns99_2 := NB182_169.out
              have hns99_3 := NB191_169.out
              have hms99_0 := NB169_168.out
              have hms99_2 := NB169_182.out
              have hms99_3 := NB169_191.out
              have hs100 : w92.cell? ⟨gb169, 1, none⟩ = some (.bool false) := (blk_cell BK169.out 1).trans rfl
              have hfs100 := blk_frozen BK169.out 1
              have hns100_0 := NB168_169.out
              have hns100_2 := NB182_169.out
              have hns100_3 := NB191_169.out
              have hms100_0 := NB169_168.out
              have hms100_2 := NB169_182.out
              have hms100_3 := NB169_191.out
              have hs101 : w92.cell? ⟨gb169, 2, none⟩ = some (.int .i64 0) := (blk_cell BK169.out 2).trans rfl
              have hfs101 := blk_frozen BK169.out 2
              have hns101_0 := NB168_169.out
              have hns101_2 := NB182_169.out
              have hns101_3 := NB191_169.out
              have hms101_0 := NB169_168.out
              have hms101_2 := NB169_182.out
              have hms101_3 := NB169_191.out
              have hs102 : w92.cell? ⟨gb169, 3, none⟩ = some (.int .i64 0) := (blk_cell BK169.out 3).trans rfl
              have hfs102 := blk_frozen BK169.out 3
              have hns102_0 := NB168_169.out
              have hns102_2 := NB182_169.out
              have hns102_3 := NB191_169.out
              have hms102_0 := NB169_168.out
              have hms102_2 := NB169_182.out
              have hms102_3 := NB169_191.out
              have hs103 : w92.cell? ⟨gb169, 4, none⟩ = some (.int .i64 0) := (blk_cell BK169.out 4).trans rfl
              have hfs103 := blk_frozen BK169.out 4
              have hns103_0 := NB168_169.out
              have hns103_2 := NB182_169.out
              have hns103_3 := NB191_169.out
              have hms103_0 := NB169_168.out
              have hms103_2 := NB169_182.out
              have hms103_3 := NB169_191.out
              have hs104 : w92.cell? ⟨gb169, 5, none⟩ = some (.int .i64 0) := (blk_cell BK169.out 5).trans rfl
              have hfs104 := blk_frozen BK169.out 5
              have hns104_0 := NB168_169.out
              have hns104_2 := NB182_169.out
              have hns104_3 := NB191_169.out
              have hms104_0 := NB169_168.out
              have hms104_2 := NB169_182.out
              have hms104_3 := NB169_191.out
              refine skip_ (w1 := ?_) (by rfl) rfl ?_ ?_
              rotate_left
              · go_simp
                rfl
              refine hK.out _ _ ⟨((cell_far (p := ⟨gb169, _, none⟩) NB182_169.out _).trans (((cell_far (p := ⟨gb169, _, none⟩) NB182_169.out _).trans (((cell_far (p := ⟨gb169, _, none⟩) NB182_169.out _).trans (((cell_far (p := ⟨gb169, _, none⟩) NB182_169.out _).trans (((cell_far (p := ⟨gb169, _, none⟩) NB182_169.out _).trans (((cell_far (p := ⟨gb169, _, none⟩) NB182_169.out _).trans (hHeld.1)))))))))))), ((cell_far (p := ⟨gb169, _, none⟩) NB182_169.out _).trans (((cell_far (p := ⟨gb169, _, none⟩) NB182_169.out _).trans (((cell_far (p := ⟨gb169, _, none⟩) NB182_169.out _).trans (((cell_far (p := ⟨gb169, _, none⟩) NB182_169.out _).trans (((cell_far (p := ⟨gb169, _, none⟩) NB182_169.out _).trans (((cell_far (p := ⟨gb169, _, none⟩) NB182_169.out _).trans (hHeld.2.1)))))))))))), ((cell_far (p := ⟨gb169, _, none⟩) NB182_169.out _).trans (((cell_far (p := ⟨gb169, _, none⟩) NB182_169.out _).trans (((cell_far (p := ⟨gb169, _, none⟩) NB182_169.out _).trans (((cell_far (p := ⟨gb169, _, none⟩) NB182_169.out _).trans (((cell_far (p := ⟨gb169, _, none⟩) NB182_169.out _).trans (((cell_far (p := ⟨gb169, _, none⟩) NB182_169.out _).trans (hHeld.2.2.1)))))))))))), ((cell_far (p := ⟨gb169, _, none⟩) NB182_169.out _).trans (((cell_far (p := ⟨gb169, _, none⟩) NB182_169.out _).trans (((cell_far (p := ⟨gb169, _, none⟩) NB182_169.out _).trans (((cell_far (p := ⟨gb169, _, none⟩) NB182_169.out _).trans (((cell_far (p := ⟨gb169, _, none⟩) NB182_169.out _).trans (((cell_far (p := ⟨gb169, _, none⟩) NB182_169.out _).trans (hHeld.2.2.2.1)))))))))))), ((cell_far (p := ⟨gb169, _, none⟩) NB182_169.out _).trans (((cell_far (p := ⟨gb169, _, none⟩) NB182_169.out _).trans (((cell_far (p := ⟨gb169, _, none⟩) NB182_169.out _).trans (((cell_far (p := ⟨gb169, _, none⟩) NB182_169.out _).trans (((cell_far (p := ⟨gb169, _, none⟩) NB182_169.out _).trans (((cell_far (p := ⟨gb169, _, none⟩) NB182_169.out _).trans (hHeld.2.2.2.2.1)))))))))))), ((cell_far (p := ⟨gb169, _, none⟩) NB182_169.out _).trans (((cell_far (p := ⟨gb169, _, none⟩) NB182_169.out _).trans (((cell_far (p := ⟨gb169, _, none⟩) NB182_169.out _).trans (((cell_far (p := ⟨gb169, _, none⟩) NB182_169.out _).trans (((cell_far (p := ⟨gb169, _, none⟩) NB182_169.out _).trans (((cell_far (p := ⟨gb169, _, none⟩) NB182_169.out _).trans (hHeld.2.2.2.2.2.1)))))))))))), ((cell_far (p := ⟨gb169, _, none⟩) NB191_169.out _).trans (((cell_far (p := ⟨gb169, _, none⟩) NB191_169.out _).trans (((cell_far (p := ⟨gb169, _, none⟩) NB191_169.out _).trans (((cell_far (p := ⟨gb169, _, none⟩) NB191_169.out _).trans (((cell_far (p := ⟨gb169, _, none⟩) NB191_169.out _).trans (((cell_far (p := ⟨gb169, _, none⟩) NB191_169.out _).trans (hHeld.2.2.2.2.2.2.1)))))))))))), ((cell_far (p := ⟨gb169, _, none⟩) NB191_169.out _).trans (((cell_far (p := ⟨gb169, _, none⟩) NB191_169.out _).trans (((cell_far (p := ⟨gb169, _, none⟩) NB191_169.out _).trans (((cell_far (p := ⟨gb169, _, none⟩) NB191_169.out _).trans (((cell_far (p := ⟨gb169, _, none⟩) NB191_169.out _).trans (((cell_far (p := ⟨gb169, _, none⟩) NB191_169.out _).trans (hHeld.2.2.2.2.2.2.2.1)))))))))))), ((cell_far (p := ⟨gb169, _, none⟩) NB191_169.out _).trans (((cell_far (p := ⟨gb169, _, none⟩) NB191_169.out _).trans (((cell_far (p := ⟨gb169, _, none⟩) NB191_169.out _).trans (((cell_far (p := ⟨gb169, _, none⟩) NB191_169.out _).trans (((cell_far (p := ⟨gb169, _, none⟩) NB191_169.out _).trans (((cell_far (p := ⟨gb169, _, none⟩) NB191_169.out _).trans (hHeld.2.2.2.2.2.2.2.2.1)))))))))))), ((cell_far (p := ⟨gb169, _, none⟩) NB191_169.out _).trans (((cell_far (p := ⟨gb169, _, none⟩) NB191_169.out _).trans (((cell_far (p := ⟨gb169, _, none⟩) NB191_169.out _).trans (((cell_far (p := ⟨gb169, _, none⟩) NB191_169.out _).trans (((cell_far (p := ⟨gb169, _, none⟩) NB191_169.out _).trans (((cell_far (p := ⟨gb169, _, none⟩) NB191_169.out _).trans (hHeld.2.2.2.2.2.2.2.2.2.1)))))))))))), ((cell_far (p := ⟨gb169, _, none⟩) NB191_169.out _).trans (((cell_far (p := ⟨gb169, _, none⟩) NB191_169.out _).trans (((cell_far (p := ⟨gb169, _, none⟩) NB191_169.out _).trans (((cell_far (p := ⟨gb169, _, none⟩) NB191_169.out _).trans (((cell_far (p := ⟨gb169, _, none⟩) NB191_169.out _).trans (((cell_far (p := ⟨gb169, _, none⟩) NB191_169.out _).trans (hHeld.2.2.2.2.2.2.2.2.2.2.1)))))))))))), ((cell_far (p := ⟨gb169, _, none⟩) NB191_169.out _).trans (((cell_far (p := ⟨gb169, _, none⟩) NB191_169.out _).trans (((cell_far (p := ⟨gb169, _, none⟩) NB191_169.out _).trans (((cell_far (p := ⟨gb169, _, none⟩) NB191_169.out _).trans (((cell_far (p := ⟨gb169, _, none⟩) NB191_169.out _).trans (((cell_far (p := ⟨gb169, _, none⟩) NB191_169.out _).trans (hHeld.2.2.2.2.2.2.2.2.2.2.2))))))))))))⟩ (fun hHeld => ?_)
              clear hK K
              refine done_ (by kernel_rfl) ?_
              try go_wp2
              refine bodyPost_ret (results_cc rfl _ _ gb168 gb169 25 25 #[.int .i64 2, .bool x183001_5, .int .i64 x183002_5, .int .i64 x183003_5, .int .i64 x183004_5, .int .i64 x183005_5] #[.int .i64 t183, .bool t184, .int .i64 t185, .int .i64 t186, .int .i64 t187, .int .i64 t188] (0, 0) (0, 0) _ _ rfl (by (with_reducible repeat (first | refine blk_drewN ?_ _ | refine blk_drew ?_ | refine blk_alloc ?_ _)); refine blk_far ?_ NB168_169.out _; (with_reducible repeat (first | refine blk_drewN ?_ _ | refine blk_drew ?_ | refine blk_alloc ?_ _)); refine blk_far ?_ NB168_169.out _; (with_reducible repeat (first | refine blk_drewN ?_ _ | refine blk_drew ?_ | refine blk_alloc ?_ _)); refine blk_far ?_ NB168_169.out _; (with_reducible repeat (first | refine blk_drewN ?_ _ | refine blk_drew ?_ | refine blk_alloc ?_ _)); refine blk_far ?_ NB168_169.out _; (with_reducible repeat (first | refine blk_drewN ?_ _ | refine blk_drew ?_ | refine blk_alloc ?_ _)); refine blk_far ?_ NB168_169.out _; (with_reducible repeat (first | refine blk_drewN ?_ _ | refine blk_drew ?_ | refine blk_alloc ?_ _)); refine blk_far ?_ NB168_169.out _; (with_reducible repeat (first | refine blk_drewN ?_ _ | refine blk_drew ?_ | refine blk_alloc ?_ _)); refine blk_put (cs := #[.int .i64 2, .bool x183001_5, .int .i64 x183002_5, .int .i64 x183003_5, .int .i64 x183004_5, .int .i64 0]) ?_ 5 _ rfl; (with_reducible repeat (first | refine blk_drewN ?_ _ | refine blk_drew ?_ | refine blk_alloc ?_ _)); refine blk_put (cs := #[.int .i64 2, .bool x183001_5, .int .i64 x183002_5, .int .i64 x183003_5, .int .i64 0, .int .i64 0]) ?_ 4 _ rfl; (with_reducible repeat (first | refine blk_drewN ?_ _ | refine blk_drew ?_ | refine blk_alloc ?_ _)); refine blk_put (cs := #[.int .i64 2, .bool x183001_5, .int .i64 x183002_5, .int .i64 0, .int .i64 0, .int .i64 0]) ?_ 3 _ rfl; (with_reducible repeat (first | refine blk_drewN ?_ _ | refine blk_drew ?_ | refine blk_alloc ?_ _)); refine blk_put (cs := #[.int .i64 2, .bool x183001_5, .int .i64 0, .int .i64 0, .int .i64 0, .int .i64 0]) ?_ 2 _ rfl; (with_reducible repeat (first | refine blk_drewN ?_ _ | refine blk_drew ?_ | refine blk_alloc ?_ _)); refine blk_put (cs := #[.int .i64 2, .bool false, .int .i64 0, .int .i64 0, .int .i64 0, .int .i64 0]) ?_ 1 _ rfl; (with_reducible repeat (first | refine blk_drewN ?_ _ | refine blk_drew ?_ | refine blk_alloc ?_ _)); refine blk_put (cs := #[.int .i64 0, .bool false, .int .i64 0, .int .i64 0, .int .i64 0, .int .i64 0]) ?_ 0 _ rfl; (with_reducible repeat (first | refine blk_drewN ?_ _ | refine blk_drew ?_ | refine blk_alloc ?_ _)); exact BK168.out) Try.underlying25 rfl (by kernel_rfl) rfl (by (with_reducible repeat (first | refine blk_drewN ?_ _ | refine blk_drew ?_ | refine blk_alloc ?_ _)); refine blk_put (cs := #[.int .i64 t183, .bool t184, .int .i64 t185, .int .i64 t186, .int .i64 t187, .int .i64 0]) ?_ 5 _ rfl; (with_reducible repeat (first | refine blk_drewN ?_ _ | refine blk_drew ?_ | refine blk_alloc ?_ _)); refine blk_put (cs := #[.int .i64 t183, .bool t184, .int .i64 t185, .int .i64 t186, .int .i64 0, .int .i64 0]) ?_ 4 _ rfl; (with_reducible repeat (first | refine blk_drewN ?_ _ | refine blk_drew ?_ | refine blk_alloc ?_ _)); refine blk_put (cs := #[.int .i64 t183, .bool t184, .int .i64 t185, .int .i64 0, .int .i64 0, .int .i64 0]) ?_ 3 _ rfl; (with_reducible repeat (first | refine blk_drewN ?_ _ | refine blk_drew ?_ | refine blk_alloc ?_ _)); refine blk_put (cs := #[.int .i64 t183, .bool t184, .int .i64 0, .int .i64 0, .int .i64 0, .int .i64 0]) ?_ 2 _ rfl; (with_reducible repeat (first | refine blk_drewN ?_ _ | refine blk_drew ?_ | refine blk_alloc ?_ _)); refine blk_put (cs := #[.int .i64 t183, .bool false, .int .i64 0, .int .i64 0, .int .i64 0, .int .i64 0]) ?_ 1 _ rfl; (with_reducible repeat (first | refine blk_drewN ?_ _ | refine blk_drew ?_ | refine blk_alloc ?_ _)); refine blk_put (cs := #[.int .i64 0, .bool false, .int .i64 0, .int .i64 0, .int .i64 0, .int .i64 0]) ?_ 0 _ rfl; (with_reducible repeat (first | refine blk_drewN ?_ _ | refine blk_drew ?_ | refine blk_alloc ?_ _)); refine blk_far ?_ NB169_168.out _; (with_reducible repeat (first | refine blk_drewN ?_ _ | refine blk_drew ?_ | refine blk_alloc ?_ _)); refine blk_far ?_ NB169_168.out _; (with_reducible repeat (first | refine blk_drewN ?_ _ | refine blk_drew ?_ | refine blk_alloc ?_ _)); refine blk_far ?_ NB169_168.out _; (with_reducible repeat (first | refine blk_drewN ?_ _ | refine blk_drew ?_ | refine blk_alloc ?_ _)); refine blk_far ?_ NB169_168.out _; (with_reducible repeat (first | refine blk_drewN ?_ _ | refine blk_drew ?_ | refine blk_alloc ?_ _)); refine blk_far ?_ NB169_168.out _; (with_reducible repeat (first | refine blk_drewN ?_ _ | refine blk_drew ?_ | refine blk_alloc ?_ _)); refine blk_far ?_ NB169_168.out _; (with_reducible repeat (first | refine blk_drewN ?_ _ | refine blk_drew ?_ | refine blk_alloc ?_ _)); exact BK169.out) Try.underlying25 rfl (by kernel_rfl)) rfl ?_
              exact ⟨by first | rfl | (simp [errW_none, errW_some] <;> rfl) | (simp [*, errW_none, errW_some] <;> rfl), by repeat (first | (with_reducible first | exact HB.out | apply below_alloc | apply pw_below_drewN | apply below_drew1 | refine below_set ?_ (IsS114.ge HI173.out) | refine below_set ?_ GE168.out | refine below_set ?_ GE169.out | refine below_set ?_ GE182.out | refine below_set ?_ GE191.out) | exact HB.out)⟩
            · replace c84 := Bool.eq_false_iff.mpr c84
              subst c84
              have H1 : (some (x183000_5, x183001_5, x183002_5, x183003_5, x183004_5, x183005_5, t183, t184, t185, t186, t187, t188)) = some (r1, r2, r3, r4, r5, r6, r7, r8, r9, r10, r11, r12) := by rw [if_neg (show ¬ (false = true) by decide)] at H; exact H
              clear H
              have H := H1
              clear H1
              simp only [Option.some.injEq, Prod.mk.injEq] at H
              obtain ⟨rfl, rfl, rfl, rfl, rfl, rfl, rfl, rfl, rfl, rfl, rfl, rfl⟩ := H
              try go_wp2_with (first | ((with_reducible refine gate_callee (f := 41) rfl ?_); refine goesL_ (some 29) rfl rfl Try.func41 (by kernel_rfl) rfl #[.pointer (some ⟨g173, 0, none⟩), .int .i64 20] rfl (by (try simp only [List.map_toArray, List.map_cons, List.map_nil]); first | done | rfl | (simp only [List.length_drop, List.length_take]; rfl)) ?_; (with_reducible refine (spec_l1Once.calls g173 t170 x174001_5 x174002_5 20 false t215 t216 w _ ?side1 ?side2 A83.out).mono ?_); (case side1 => repeat (first | (with_reducible first | exact HI173.out | apply IsS114.alloc | apply IsS114.drewN | apply IsS114.drew | apply IsS114.set_1 | apply IsS114.set_2 | refine IsS114.far ?_ NB173_168.out _ | refine IsS114.far ?_ NB173_169.out _ | refine IsS114.far ?_ NB173_182.out _ | refine IsS114.far ?_ NB173_191.out _) | exact HI173.out)); (case side2 => repeat (first | (with_reducible first | exact HB.out | apply below_alloc | apply pw_below_drewN | apply below_drew1 | refine below_set ?_ (IsS114.ge HI173.out) | refine below_set ?_ GE168.out | refine below_set ?_ GE169.out | refine below_set ?_ GE182.out | refine below_set ?_ GE191.out) | exact HB.out)); rintro e w105 ⟨rfl, hi, hb, hk⟩; refine ⟨_, rfl, ?_⟩; have n0_ := Aside0.mk (KeepBut.blk hk (g' := gb168) (o := .cells #[.int .i64 0, .bool false, .int .i64 0, .int .i64 0, .int .i64 0, .int .i64 0] 25 (0, 0)) (by (with_reducible repeat (first | refine blk_drewN ?_ _ | refine blk_drew ?_ | refine blk_alloc ?_ _)); exact BK168.out) NB168_173.out (by simp)); have n1_ := Aside0.mk (KeepBut.blk hk (g' := gb169) (o := .cells #[.int .i64 0, .bool false, .int .i64 0, .int .i64 0, .int .i64 0, .int .i64 0] 25 (0, 0)) (by (with_reducible repeat (first | refine blk_drewN ?_ _ | refine blk_drew ?_ | refine blk_alloc ?_ _)); exact BK169.out) NB169_173.out (by simp)); have n2_ := Aside0.mk (KeepBut.blk hk (g' := gb182) (o := .cells #[.int .i64 x183000_5, .bool x183001_5, .int .i64 x183002_5, .int .i64 x183003_5, .int .i64 x183004_5, .int .i64 x183005_5] 25 (0, 0)) (by (with_reducible repeat (first | refine blk_drewN ?_ _ | refine blk_drew ?_ | refine blk_alloc ?_ _)); exact BK182.out) NB182_173.out (by simp)); have n3_ := Aside0.mk (KeepBut.blk hk (g' := gb191) (o := .cells #[.int .i64 t183, .bool t184, .int .i64 t185, .int .i64 t186, .int .i64 t187, .int .i64 t188] 25 (0, 0)) (by (with_reducible repeat (first | refine blk_drewN ?_ _ | refine blk_drew ?_ | refine blk_alloc ?_ _)); exact BK191.out) NB191_173.out (by simp)); have n4_ := Aside0.mk (hb); have n5_ := Aside0.mk (hi); clear BK168; clear BK169; clear BK182; clear BK191; clear HB; clear HI173; have BK168 := n0_; have BK169 := n1_; have BK182 := n2_; have BK191 := n3_; have HB := n4_; have HI173 := n5_; clear n0_ n1_ n2_ n3_ n4_ n5_; (try clear hb); (try clear hb2); (try clear hk); (try clear hi)))
              have n0_ := Aside0.mk (blk_drew BK168.out)
              have n1_ := Aside0.mk (blk_drew BK169.out)
              have n2_ := Aside0.mk (blk_drew BK182.out)
              have n3_ := Aside0.mk (blk_drew BK191.out)
              have n4_ := Aside0.mk (IsS114.drew HI173.out)
              have n5_ := Aside0.mk (below_drew1 HB.out)
              clear BK168
              clear BK169
              clear BK182
              clear BK191
              clear HI173
              clear HB
              have BK168 := n0_
              have BK169 := n1_
              have BK182 := n2_
              have BK191 := n3_
              have HI173 := n4_
              have HB := n5_
              clear n0_ n1_ n2_ n3_ n4_ n5_
              refine start_ (n := 4) (S := fun w' => w'.cell? ⟨gb182, 0, none⟩ = some (.int .i64 x183000_5) ∧ w'.cell? ⟨gb182, 1, none⟩ = some (.bool x183001_5) ∧ w'.cell? ⟨gb182, 2, none⟩ = some (.int .i64 x183002_5) ∧ w'.cell? ⟨gb182, 3, none⟩ = some (.int .i64 x183003_5) ∧ w'.cell? ⟨gb182, 4, none⟩ = some (.int .i64 x183004_5) ∧ w'.cell? ⟨gb182, 5, none⟩ = some (.int .i64 x183005_5) ∧ w'.cell? ⟨gb191, 0, none⟩ = some (.int .i64 t183) ∧ w'.cell? ⟨gb191, 1, none⟩ = some (.bool t184) ∧ w'.cell? ⟨gb191, 2, none⟩ = some (.int .i64 t185) ∧ w'.cell? ⟨gb191, 3, none⟩ = some (.int .i64 t186) ∧ w'.cell? ⟨gb191, 4, none⟩ = some (.int .i64 t187) ∧ w'.cell? ⟨gb191, 5, none⟩ = some (.int .i64 t188)) (ds := []) #[false, false, false, false] (by kernel_rfl) rfl rfl ⟨(blk_cell BK182.out 0).trans rfl, (blk_cell BK182.out 1).trans rfl, (blk_cell BK182.out 2).trans rfl, (blk_cell BK182.out 3).trans rfl, (blk_cell BK182.out 4).trans rfl, (blk_cell BK182.out 5).trans rfl, (blk_cell BK191.out 0).trans rfl, (blk_cell BK191.out 1).trans rfl, (blk_cell BK191.out 2).trans rfl, (blk_cell BK191.out 3).trans rfl, (blk_cell BK191.out 4).trans rfl, (blk_cell BK191.out 5).trans rfl⟩ (fun hHeld => ?_)
              generalize w105.drew = w106 at BK168 BK169 BK182 BK191 HI173 HB hHeld ⊢
              refine take_ (i := 0) (N := some 31) (v := ?_) (a' := ?_) #[true, false, false, false] rfl rfl (by kernel_rfl) (fun _ _ _ h => h) (Or.inl ⟨by rfl, ?_⟩) hHeld ?_ ?_
              rotate_left
              · rintro w' ⟨s0, s1, s2, s3, s4, s5, s6, s7, s8, s9, s10, s11⟩
                go_simp
                with_reducible rfl
              rotate_left
              · simp only [Act.put, List.setIfInBounds_toArray, List.set_cons_zero, List.set_cons_succ, i64_w, i32_w]
                rfl
              refine take_ (i := 1) (N := some 32) (v := ?_) (a' := ?_) #[true, true, false, false] rfl rfl (by kernel_rfl) (fun _ _ _ h => h) (Or.inl ⟨by rfl, ?_⟩) hHeld ?_ ?_
              rotate_left
              · rintro w' ⟨s0, s1, s2, s3, s4, s5, s6, s7, s8, s9, s10, s11⟩
                go_simp
                with_reducible rfl
              rotate_left
              · simp only [Act.put, List.setIfInBounds_toArray, List.set_cons_zero, List.set_cons_succ, i64_w, i32_w]
                rfl
              refine one_ (i := 2) (N := none) #[true, true, true, false] rfl rfl (by kernel_rfl) (by decide) (fun K hK => ?_)
              have hs107 : w106.cell? ⟨gb168, 0, none⟩ = some (.int .i64 0) := (blk_cell BK168.out 0).trans rfl
              have hfs107 := blk_frozen BK168.out 0
              have hns107_1 := NB169_168.out
              have hns107_2 := NB182_168.out
              have hns107_3 := NB191_168.out
              have hms107_1 := NB168_169.out
              have hms107_2 := NB168_182.out
              have hms107_3 := NB168_191.out
              have hs108 : w106.cell? ⟨gb168, 1, none⟩ = some (.bool false) := (blk_cell BK168.out 1).trans rfl
              have hfs108 := blk_frozen BK168.out 1
              have hns108_1 := NB169_168.out
              have hns108_2 := NB182_168.out
              have hns108_3 := NB191_168.out
              have hms108_1 := NB168_169.out
              have hms108_2 := NB168_182.out
              have hms108_3 := NB168_191.out
              have hs109 : w106.cell? ⟨gb168, 2, none⟩ = some (.int .i64 0) := (blk_cell BK168.out 2).trans rfl
              have hfs109 := blk_frozen BK168.out 2
              have hns109_1 := NB169_168.out
              have hns109_2 := NB182_168.out
              have hns109_3 := NB191_168.out
              have hms109_1 := NB168_169.out
              have hms109_2 := NB168_182.out
              have hms109_3 := NB168_191.out
              have hs110 : w106.cell? ⟨gb168, 3, none⟩ = some (.int .i64 0) := (blk_cell BK168.out 3).trans rfl
              have hfs110 := blk_frozen BK168.out 3
              have hns110_1 := NB169_168.out
              have hns110_2 := NB182_168.out
              have hns110_3 := NB191_168.out
              have hms110_1 := NB168_169.out
              have hms110_2 := NB168_182.out
              have hms110_3 := NB168_191.out
              have hs111 : w106.cell? ⟨gb168, 4, none⟩ = some (.int .i64 0) := (blk_cell BK168.out 4).trans rfl
              have hfs111 := blk_frozen BK168.out 4
              have hns111_1 := NB169_168.out
              have hns111_2 := NB182_168.out
              have hns111_3 := NB191_168.out
              have hms111_1 := NB168_169.out
              have hms111_2 := NB168_182.out
              have hms111_3 := NB168_191.out
              have hs112 : w106.cell? ⟨gb168, 5, none⟩ = some (.int .i64 0) := (blk_cell BK168.out 5).trans rfl
              have hfs112 := blk_frozen BK168.out 5
              have hns112_1 := NB169_168.out
              have hns112_2 := NB182_168.out
              have hns112_3 := NB191_168.out
              have hms112_1 := NB168_169.out
              have hms112_2 := NB168_182.out
              have hms112_3 := NB168_191.out
              refine skip_ (w1 := ?_) (by rfl) rfl ?_ ?_
              rotate_left
              · go_simp
                rfl
              refine hK.out _ _ ⟨((cell_far (p := ⟨gb168, _, none⟩) NB182_168.out _).trans (((cell_far (p := ⟨gb168, _, none⟩) NB182_168.out _).trans (((cell_far (p := ⟨gb168, _, none⟩) NB182_168.out _).trans (((cell_far (p := ⟨gb168, _, none⟩) NB182_168.out _).trans (((cell_far (p := ⟨gb168, _, none⟩) NB182_168.out _).trans (((cell_far (p := ⟨gb168, _, none⟩) NB182_168.out _).trans (hHeld.1)))))))))))), ((cell_far (p := ⟨gb168, _, none⟩) NB182_168.out _).trans (((cell_far (p := ⟨gb168, _, none⟩) NB182_168.out _).trans (((cell_far (p := ⟨gb168, _, none⟩) NB182_168.out _).trans (((cell_far (p := ⟨gb168, _, none⟩) NB182_168.out _).trans (((cell_far (p := ⟨gb168, _, none⟩) NB182_168.out _).trans (((cell_far (p := ⟨gb168, _, none⟩) NB182_168.out _).trans (hHeld.2.1)))))))))))), ((cell_far (p := ⟨gb168, _, none⟩) NB182_168.out _).trans (((cell_far (p := ⟨gb168, _, none⟩) NB182_168.out _).trans (((cell_far (p := ⟨gb168, _, none⟩) NB182_168.out _).trans (((cell_far (p := ⟨gb168, _, none⟩) NB182_168.out _).trans (((cell_far (p := ⟨gb168, _, none⟩) NB182_168.out _).trans (((cell_far (p := ⟨gb168, _, none⟩) NB182_168.out _).trans (hHeld.2.2.1)))))))))))), ((cell_far (p := ⟨gb168, _, none⟩) NB182_168.out _).trans (((cell_far (p := ⟨gb168, _, none⟩) NB182_168.out _).trans (((cell_far (p := ⟨gb168, _, none⟩) NB182_168.out _).trans (((cell_far (p := ⟨gb168, _, none⟩) NB182_168.out _).trans (((cell_far (p := ⟨gb168, _, none⟩) NB182_168.out _).trans (((cell_far (p := ⟨gb168, _, none⟩) NB182_168.out _).trans (hHeld.2.2.2.1)))))))))))), ((cell_far (p := ⟨gb168, _, none⟩) NB182_168.out _).trans (((cell_far (p := ⟨gb168, _, none⟩) NB182_168.out _).trans (((cell_far (p := ⟨gb168, _, none⟩) NB182_168.out _).trans (((cell_far (p := ⟨gb168, _, none⟩) NB182_168.out _).trans (((cell_far (p := ⟨gb168, _, none⟩) NB182_168.out _).trans (((cell_far (p := ⟨gb168, _, none⟩) NB182_168.out _).trans (hHeld.2.2.2.2.1)))))))))))), ((cell_far (p := ⟨gb168, _, none⟩) NB182_168.out _).trans (((cell_far (p := ⟨gb168, _, none⟩) NB182_168.out _).trans (((cell_far (p := ⟨gb168, _, none⟩) NB182_168.out _).trans (((cell_far (p := ⟨gb168, _, none⟩) NB182_168.out _).trans (((cell_far (p := ⟨gb168, _, none⟩) NB182_168.out _).trans (((cell_far (p := ⟨gb168, _, none⟩) NB182_168.out _).trans (hHeld.2.2.2.2.2.1)))))))))))), ((cell_far (p := ⟨gb168, _, none⟩) NB191_168.out _).trans (((cell_far (p := ⟨gb168, _, none⟩) NB191_168.out _).trans (((cell_far (p := ⟨gb168, _, none⟩) NB191_168.out _).trans (((cell_far (p := ⟨gb168, _, none⟩) NB191_168.out _).trans (((cell_far (p := ⟨gb168, _, none⟩) NB191_168.out _).trans (((cell_far (p := ⟨gb168, _, none⟩) NB191_168.out _).trans (hHeld.2.2.2.2.2.2.1)))))))))))), ((cell_far (p := ⟨gb168, _, none⟩) NB191_168.out _).trans (((cell_far (p := ⟨gb168, _, none⟩) NB191_168.out _).trans (((cell_far (p := ⟨gb168, _, none⟩) NB191_168.out _).trans (((cell_far (p := ⟨gb168, _, none⟩) NB191_168.out _).trans (((cell_far (p := ⟨gb168, _, none⟩) NB191_168.out _).trans (((cell_far (p := ⟨gb168, _, none⟩) NB191_168.out _).trans (hHeld.2.2.2.2.2.2.2.1)))))))))))), ((cell_far (p := ⟨gb168, _, none⟩) NB191_168.out _).trans (((cell_far (p := ⟨gb168, _, none⟩) NB191_168.out _).trans (((cell_far (p := ⟨gb168, _, none⟩) NB191_168.out _).trans (((cell_far (p := ⟨gb168, _, none⟩) NB191_168.out _).trans (((cell_far (p := ⟨gb168, _, none⟩) NB191_168.out _).trans (((cell_far (p := ⟨gb168, _, none⟩) NB191_168.out _).trans (hHeld.2.2.2.2.2.2.2.2.1)))))))))))), ((cell_far (p := ⟨gb168, _, none⟩) NB191_168.out _).trans (((cell_far (p := ⟨gb168, _, none⟩) NB191_168.out _).trans (((cell_far (p := ⟨gb168, _, none⟩) NB191_168.out _).trans (((cell_far (p := ⟨gb168, _, none⟩) NB191_168.out _).trans (((cell_far (p := ⟨gb168, _, none⟩) NB191_168.out _).trans (((cell_far (p := ⟨gb168, _, none⟩) NB191_168.out _).trans (hHeld.2.2.2.2.2.2.2.2.2.1)))))))))))), ((cell_far (p := ⟨gb168, _, none⟩) NB191_168.out _).trans (((cell_far (p := ⟨gb168, _, none⟩) NB191_168.out _).trans (((cell_far (p := ⟨gb168, _, none⟩) NB191_168.out _).trans (((cell_far (p := ⟨gb168, _, none⟩) NB191_168.out _).trans (((cell_far (p := ⟨gb168, _, none⟩) NB191_168.out _).trans (((cell_far (p := ⟨gb168, _, none⟩) NB191_168.out _).trans (hHeld.2.2.2.2.2.2.2.2.2.2.1)))))))))))), ((cell_far (p := ⟨gb168, _, none⟩) NB191_168.out _).trans (((cell_far (p := ⟨gb168, _, none⟩) NB191_168.out _).trans (((cell_far (p := ⟨gb168, _, none⟩) NB191_168.out _).trans (((cell_far (p := ⟨gb168, _, none⟩) NB191_168.out _).trans (((cell_far (p := ⟨gb168, _, none⟩) NB191_168.out _).trans (((cell_far (p := ⟨gb168, _, none⟩) NB191_168.out _).trans (hHeld.2.2.2.2.2.2.2.2.2.2.2))))))))))))⟩ (fun hHeld => ?_)
              clear hK K
              refine one_ (i := 3) (N := none) #[true, true, true, true] rfl rfl (by kernel_rfl) (by decide) (fun K hK => ?_)
              have hs113 : w106.cell? ⟨gb169, 0, none⟩ = some (.int .i64 0) := (blk_cell BK169.out 0).trans rfl
              have hfs113 := blk_frozen BK169.out 0
              have hns113_0 := NB168_169.out
              have hns113_2 := NB182_169.out
              have hns113_3 := NB191_169.out
              have hms113_0 := NB169_168.out
              have hms113_2 := NB169_182.out
              have hms113_3 := NB169_191.out
              have hs114 : w106.cell? ⟨gb169, 1, none⟩ = some (.bool false) := (blk_cell BK169.out 1).trans rfl
              have hfs114 := blk_frozen BK169.out 1
              have hns114_0 := NB168_169.out
              have hns114_2 := NB182_169.out
              have hns114_3 := NB191_169.out
              have hms114_0 := NB169_168.out
              have hms114_2 := NB169_182.out
              have hms114_3 := NB169_191.out
              have hs115 : w106.cell? ⟨gb169, 2, none⟩ = some (.int .i64 0) := (blk_cell BK169.out 2).trans rfl
              have hfs115 := blk_frozen BK169.out 2
              have hns115_0 := NB168_169.out
              have hns115_2 := NB182_169.out
              have hns115_3 := NB191_169.out
              have hms115_0 := NB169_168.out
              have hms115_2 := NB169_182.out
              have hms115_3 := NB169_191.out
              have hs116 : w106.cell? ⟨gb169, 3, none⟩ = some (.int .i64 0) := (blk_cell BK169.out 3).trans rfl
              have hfs116 := blk_frozen BK169.out 3
              have hns116_0 := NB168_169.out
              have hns116_2 := NB182_169.out
              have hns116_3 := NB191_169.out
              have hms116_0 := NB169_168.out
              have hms116_2 := NB169_182.out
              have hms116_3 := NB169_191.out
              have hs117 : w106.cell? ⟨gb169, 4, none⟩ = some (.int .i64 0) := (blk_cell BK169.out 4).trans rfl
              have hfs117 := blk_frozen BK169.out 4
              have hns117_0 := NB168_169.out
              have hns117_2 := NB182_169.out
              have hns117_3 := NB191_169.out
              have hms117_0 := NB169_168.out
              have hms117_2 := NB169_182.out
              have hms117_3 := NB169_191.out
              have hs118 : w106.cell? ⟨gb169, 5, none⟩ = some (.int .i64 0) := (blk_cell BK169.out 5).trans rfl
              have hfs118 := blk_frozen BK169.out 5
              have hns118_0 := NB168_169.out
              have hns118_2 := NB182_169.out
              have hns118_3 := NB191_169.out
              have hms118_0 := NB169_168.out
              have hms118_2 := NB169_182.out
              have hms118_3 := NB169_191.out
              refine skip_ (w1 := ?_) (by rfl) rfl ?_ ?_
              rotate_left
              · go_simp
                rfl
              refine hK.out _ _ ⟨((cell_far (p := ⟨gb169, _, none⟩) NB182_169.out _).trans (((cell_far (p := ⟨gb169, _, none⟩) NB182_169.out _).trans (((cell_far (p := ⟨gb169, _, none⟩) NB182_169.out _).trans (((cell_far (p := ⟨gb169, _, none⟩) NB182_169.out _).trans (((cell_far (p := ⟨gb169, _, none⟩) NB182_169.out _).trans (((cell_far (p := ⟨gb169, _, none⟩) NB182_169.out _).trans (hHeld.1)))))))))))), ((cell_far (p := ⟨gb169, _, none⟩) NB182_169.out _).trans (((cell_far (p := ⟨gb169, _, none⟩) NB182_169.out _).trans (((cell_far (p := ⟨gb169, _, none⟩) NB182_169.out _).trans (((cell_far (p := ⟨gb169, _, none⟩) NB182_169.out _).trans (((cell_far (p := ⟨gb169, _, none⟩) NB182_169.out _).trans (((cell_far (p := ⟨gb169, _, none⟩) NB182_169.out _).trans (hHeld.2.1)))))))))))), ((cell_far (p := ⟨gb169, _, none⟩) NB182_169.out _).trans (((cell_far (p := ⟨gb169, _, none⟩) NB182_169.out _).trans (((cell_far (p := ⟨gb169, _, none⟩) NB182_169.out _).trans (((cell_far (p := ⟨gb169, _, none⟩) NB182_169.out _).trans (((cell_far (p := ⟨gb169, _, none⟩) NB182_169.out _).trans (((cell_far (p := ⟨gb169, _, none⟩) NB182_169.out _).trans (hHeld.2.2.1)))))))))))), ((cell_far (p := ⟨gb169, _, none⟩) NB182_169.out _).trans (((cell_far (p := ⟨gb169, _, none⟩) NB182_169.out _).trans (((cell_far (p := ⟨gb169, _, none⟩) NB182_169.out _).trans (((cell_far (p := ⟨gb169, _, none⟩) NB182_169.out _).trans (((cell_far (p := ⟨gb169, _, none⟩) NB182_169.out _).trans (((cell_far (p := ⟨gb169, _, none⟩) NB182_169.out _).trans (hHeld.2.2.2.1)))))))))))), ((cell_far (p := ⟨gb169, _, none⟩) NB182_169.out _).trans (((cell_far (p := ⟨gb169, _, none⟩) NB182_169.out _).trans (((cell_far (p := ⟨gb169, _, none⟩) NB182_169.out _).trans (((cell_far (p := ⟨gb169, _, none⟩) NB182_169.out _).trans (((cell_far (p := ⟨gb169, _, none⟩) NB182_169.out _).trans (((cell_far (p := ⟨gb169, _, none⟩) NB182_169.out _).trans (hHeld.2.2.2.2.1)))))))))))), ((cell_far (p := ⟨gb169, _, none⟩) NB182_169.out _).trans (((cell_far (p := ⟨gb169, _, none⟩) NB182_169.out _).trans (((cell_far (p := ⟨gb169, _, none⟩) NB182_169.out _).trans (((cell_far (p := ⟨gb169, _, none⟩) NB182_169.out _).trans (((cell_far (p := ⟨gb169, _, none⟩) NB182_169.out _).trans (((cell_far (p := ⟨gb169, _, none⟩) NB182_169.out _).trans (hHeld.2.2.2.2.2.1)))))))))))), ((cell_far (p := ⟨gb169, _, none⟩) NB191_169.out _).trans (((cell_far (p := ⟨gb169, _, none⟩) NB191_169.out _).trans (((cell_far (p := ⟨gb169, _, none⟩) NB191_169.out _).trans (((cell_far (p := ⟨gb169, _, none⟩) NB191_169.out _).trans (((cell_far (p := ⟨gb169, _, none⟩) NB191_169.out _).trans (((cell_far (p := ⟨gb169, _, none⟩) NB191_169.out _).trans (hHeld.2.2.2.2.2.2.1)))))))))))), ((cell_far (p := ⟨gb169, _, none⟩) NB191_169.out _).trans (((cell_far (p := ⟨gb169, _, none⟩) NB191_169.out _).trans (((cell_far (p := ⟨gb169, _, none⟩) NB191_169.out _).trans (((cell_far (p := ⟨gb169, _, none⟩) NB191_169.out _).trans (((cell_far (p := ⟨gb169, _, none⟩) NB191_169.out _).trans (((cell_far (p := ⟨gb169, _, none⟩) NB191_169.out _).trans (hHeld.2.2.2.2.2.2.2.1)))))))))))), ((cell_far (p := ⟨gb169, _, none⟩) NB191_169.out _).trans (((cell_far (p := ⟨gb169, _, none⟩) NB191_169.out _).trans (((cell_far (p := ⟨gb169, _, none⟩) NB191_169.out _).trans (((cell_far (p := ⟨gb169, _, none⟩) NB191_169.out _).trans (((cell_far (p := ⟨gb169, _, none⟩) NB191_169.out _).trans (((cell_far (p := ⟨gb169, _, none⟩) NB191_169.out _).trans (hHeld.2.2.2.2.2.2.2.2.1)))))))))))), ((cell_far (p := ⟨gb169, _, none⟩) NB191_169.out _).trans (((cell_far (p := ⟨gb169, _, none⟩) NB191_169.out _).trans (((cell_far (p := ⟨gb169, _, none⟩) NB191_169.out _).trans (((cell_far (p := ⟨gb169, _, none⟩) NB191_169.out _).trans (((cell_far (p := ⟨gb169, _, none⟩) NB191_169.out _).trans (((cell_far (p := ⟨gb169, _, none⟩) NB191_169.out _).trans (hHeld.2.2.2.2.2.2.2.2.2.1)))))))))))), ((cell_far (p := ⟨gb169, _, none⟩) NB191_169.out _).trans (((cell_far (p := ⟨gb169, _, none⟩) NB191_169.out _).trans (((cell_far (p := ⟨gb169, _, none⟩) NB191_169.out _).trans (((cell_far (p := ⟨gb169, _, none⟩) NB191_169.out _).trans (((cell_far (p := ⟨gb169, _, none⟩) NB191_169.out _).trans (((cell_far (p := ⟨gb169, _, none⟩) NB191_169.out _).trans (hHeld.2.2.2.2.2.2.2.2.2.2.1)))))))))))), ((cell_far (p := ⟨gb169, _, none⟩) NB191_169.out _).trans (((cell_far (p := ⟨gb169, _, none⟩) NB191_169.out _).trans (((cell_far (p := ⟨gb169, _, none⟩) NB191_169.out _).trans (((cell_far (p := ⟨gb169, _, none⟩) NB191_169.out _).trans (((cell_far (p := ⟨gb169, _, none⟩) NB191_169.out _).trans (((cell_far (p := ⟨gb169, _, none⟩) NB191_169.out _).trans (hHeld.2.2.2.2.2.2.2.2.2.2.2))))))))))))⟩ (fun hHeld => ?_)
              clear hK K
              refine done_ (by kernel_rfl) ?_
              try go_wp2
              refine bodyPost_ret (results_cc rfl _ _ gb168 gb169 25 25 #[.int .i64 x183000_5, .bool x183001_5, .int .i64 x183002_5, .int .i64 x183003_5, .int .i64 x183004_5, .int .i64 x183005_5] #[.int .i64 t183, .bool t184, .int .i64 t185, .int .i64 t186, .int .i64 t187, .int .i64 t188] (0, 0) (0, 0) _ _ rfl (by (with_reducible repeat (first | refine blk_drewN ?_ _ | refine blk_drew ?_ | refine blk_alloc ?_ _)); refine blk_far ?_ NB168_169.out _; (with_reducible repeat (first | refine blk_drewN ?_ _ | refine blk_drew ?_ | refine blk_alloc ?_ _)); refine blk_far ?_ NB168_169.out _; (with_reducible repeat (first | refine blk_drewN ?_ _ | refine blk_drew ?_ | refine blk_alloc ?_ _)); refine blk_far ?_ NB168_169.out _; (with_reducible repeat (first | refine blk_drewN ?_ _ | refine blk_drew ?_ | refine blk_alloc ?_ _)); refine blk_far ?_ NB168_169.out _; (with_reducible repeat (first | refine blk_drewN ?_ _ | refine blk_drew ?_ | refine blk_alloc ?_ _)); refine blk_far ?_ NB168_169.out _; (with_reducible repeat (first | refine blk_drewN ?_ _ | refine blk_drew ?_ | refine blk_alloc ?_ _)); refine blk_far ?_ NB168_169.out _; (with_reducible repeat (first | refine blk_drewN ?_ _ | refine blk_drew ?_ | refine blk_alloc ?_ _)); refine blk_put (cs := #[.int .i64 x183000_5, .bool x183001_5, .int .i64 x183002_5, .int .i64 x183003_5, .int .i64 x183004_5, .int .i64 0]) ?_ 5 _ rfl; (with_reducible repeat (first | refine blk_drewN ?_ _ | refine blk_drew ?_ | refine blk_alloc ?_ _)); refine blk_put (cs := #[.int .i64 x183000_5, .bool x183001_5, .int .i64 x183002_5, .int .i64 x183003_5, .int .i64 0, .int .i64 0]) ?_ 4 _ rfl; (with_reducible repeat (first | refine blk_drewN ?_ _ | refine blk_drew ?_ | refine blk_alloc ?_ _)); refine blk_put (cs := #[.int .i64 x183000_5, .bool x183001_5, .int .i64 x183002_5, .int .i64 0, .int .i64 0, .int .i64 0]) ?_ 3 _ rfl; (with_reducible repeat (first | refine blk_drewN ?_ _ | refine blk_drew ?_ | refine blk_alloc ?_ _)); refine blk_put (cs := #[.int .i64 x183000_5, .bool x183001_5, .int .i64 0, .int .i64 0, .int .i64 0, .int .i64 0]) ?_ 2 _ rfl; (with_reducible repeat (first | refine blk_drewN ?_ _ | refine blk_drew ?_ | refine blk_alloc ?_ _)); refine blk_put (cs := #[.int .i64 x183000_5, .bool false, .int .i64 0, .int .i64 0, .int .i64 0, .int .i64 0]) ?_ 1 _ rfl; (with_reducible repeat (first | refine blk_drewN ?_ _ | refine blk_drew ?_ | refine blk_alloc ?_ _)); refine blk_put (cs := #[.int .i64 0, .bool false, .int .i64 0, .int .i64 0, .int .i64 0, .int .i64 0]) ?_ 0 _ rfl; (with_reducible repeat (first | refine blk_drewN ?_ _ | refine blk_drew ?_ | refine blk_alloc ?_ _)); exact BK168.out) Try.underlying25 rfl (by kernel_rfl) rfl (by (with_reducible repeat (first | refine blk_drewN ?_ _ | refine blk_drew ?_ | refine blk_alloc ?_ _)); refine blk_put (cs := #[.int .i64 t183, .bool t184, .int .i64 t185, .int .i64 t186, .int .i64 t187, .int .i64 0]) ?_ 5 _ rfl; (with_reducible repeat (first | refine blk_drewN ?_ _ | refine blk_drew ?_ | refine blk_alloc ?_ _)); refine blk_put (cs := #[.int .i64 t183, .bool t184, .int .i64 t185, .int .i64 t186, .int .i64 0, .int .i64 0]) ?_ 4 _ rfl; (with_reducible repeat (first | refine blk_drewN ?_ _ | refine blk_drew ?_ | refine blk_alloc ?_ _)); refine blk_put (cs := #[.int .i64 t183, .bool t184, .int .i64 t185, .int .i64 0, .int .i64 0, .int .i64 0]) ?_ 3 _ rfl; (with_reducible repeat (first | refine blk_drewN ?_ _ | refine blk_drew ?_ | refine blk_alloc ?_ _)); refine blk_put (cs := #[.int .i64 t183, .bool t184, .int .i64 0, .int .i64 0, .int .i64 0, .int .i64 0]) ?_ 2 _ rfl; (with_reducible repeat (first | refine blk_drewN ?_ _ | refine blk_drew ?_ | refine blk_alloc ?_ _)); refine blk_put (cs := #[.int .i64 t183, .bool false, .int .i64 0, .int .i64 0, .int .i64 0, .int .i64 0]) ?_ 1 _ rfl; (with_reducible repeat (first | refine blk_drewN ?_ _ | refine blk_drew ?_ | refine blk_alloc ?_ _)); refine blk_put (cs := #[.int .i64 0, .bool false, .int .i64 0, .int .i64 0, .int .i64 0, .int .i64 0]) ?_ 0 _ rfl; (with_reducible repeat (first | refine blk_drewN ?_ _ | refine blk_drew ?_ | refine blk_alloc ?_ _)); refine blk_far ?_ NB169_168.out _; (with_reducible repeat (first | refine blk_drewN ?_ _ | refine blk_drew ?_ | refine blk_alloc ?_ _)); refine blk_far ?_ NB169_168.out _; (with_reducible repeat (first | refine blk_drewN ?_ _ | refine blk_drew ?_ | refine blk_alloc ?_ _)); refine blk_far ?_ NB169_168.out _; (with_reducible repeat (first | refine blk_drewN ?_ _ | refine blk_drew ?_ | refine blk_alloc ?_ _)); refine blk_far ?_ NB169_168.out _; (with_reducible repeat (first | refine blk_drewN ?_ _ | refine blk_drew ?_ | refine blk_alloc ?_ _)); refine blk_far ?_ NB169_168.out _; (with_reducible repeat (first | refine blk_drewN ?_ _ | refine blk_drew ?_ | refine blk_alloc ?_ _)); refine blk_far ?_ NB169_168.out _; (with_reducible repeat (first | refine blk_drewN ?_ _ | refine blk_drew ?_ | refine blk_alloc ?_ _)); exact BK169.out) Try.underlying25 rfl (by kernel_rfl)) rfl ?_
              exact ⟨by first | rfl | (simp [errW_none, errW_some] <;> rfl) | (simp [*, errW_none, errW_some] <;> rfl), by repeat (first | (with_reducible first | exact HB.out | apply below_alloc | apply pw_below_drewN | apply below_drew1 | refine below_set ?_ (IsS114.ge HI173.out) | refine below_set ?_ GE168.out | refine below_set ?_ GE169.out | refine below_set ?_ GE182.out | refine below_set ?_ GE191.out) | exact HB.out)⟩

end Go.Proofs.Ytfeglenlpnhofaa.Jn
