/- The law FnJoin returns true at every two slices of bytes. No conditions. -/
import Derived.Test.YtfeglenlpnhofaaJn1
import Derived.Test.YtfeglenlpnhofaaSpecJoin
import Derived.Test.YtfeglenlpnhofaaJoinTop
import Derived.Test.YtfeglenlpnhofaaJoinDraws
namespace Go.Proofs.Ytfeglenlpnhofaa.Jn
open Go.RowKit Go.ChangeShapes Go.WideShapes Go.Deep Go.Proofs.YtfeglenlpnhofaaW.PrintWords Go.Proofs.YtfeglenlpnhofaaW.PrintLast Go.Proofs.YtfeglenlpnhofaaW.PrintMore Go.Proofs.Ytfeglenlpnhofaa.Mine

theorem mn_if (x y : Int) : mn x y = if y < x then y else x := by unfold mn; split <;> omega
theorem mx_if (x y : Int) : mx x y = if x < y then y else x := by unfold mx; split <;> omega
/-- The program's join is the specification's. -/
theorem ij (a0 : Int) (a1 : Bool) (a2 a3 a4 a5 b0 : Int) (b1 : Bool) (b2 b3 b4 b5 : Int) : impl_JoinVals.f 1 a0 a1 a2 a3 a4 a5 b0 b1 b2 b3 b4 b5 = some (sj a0 a1 a2 a3 a4 a5 b0 b1 b2 b3 b4 b5) := by
  have hj : ∀ x : Bool, x = sjPtr a0 a3 b0 b3 → impl_JoinVals.j0 1 x a0 a1 a2 a3 a4 a5 b0 b1 b2 b3 b4 b5 = some (sj a0 a1 a2 a3 a4 a5 b0 b1 b2 b3 b4 b5) := by
    rintro x rfl
    unfold impl_JoinVals.j0 sj sjMax
    simp only [mn_if, mx_if]
    by_cases h : sjPtr a0 a3 b0 b3 = true
    · rw [if_pos h, if_pos h]
    · rw [if_neg h, if_neg h]
      cases a1 <;> by_cases h0 : a0 = 0 <;> by_cases k0 : b0 = 0 <;> by_cases h2 : a2 = -1 <;> by_cases k2 : b2 = -1 <;> simp [h0, k0, h2, k2]
  unfold impl_JoinVals.f
  by_cases h0 : a0 = 1
  · rw [if_pos h0]
    by_cases k0 : b0 = 1
    · rw [if_pos k0]; exact hj (a3 == b3) (by simp [sjPtr, h0, k0])
    · rw [if_neg k0]; exact hj false (by simp [sjPtr, k0])
  · rw [if_neg h0]; exact hj false (by simp [sjPtr, h0])
theorem max_comm (a0 a2 b0 b2 : Int) : sjMax a0 a2 b0 b2 = sjMax b0 b2 a0 a2 := by
  unfold sjMax
  by_cases h : a0 = 0 ∧ b0 = 0 ∧ a2 ≠ -1 ∧ b2 ≠ -1
  · rw [if_pos h, if_pos (show b0 = 0 ∧ a0 = 0 ∧ b2 ≠ -1 ∧ a2 ≠ -1 from ⟨h.2.1, h.1, h.2.2.2, h.2.2.1⟩)]
    split <;> split <;> omega
  · rw [if_neg h, if_neg (fun k => h ⟨k.2.1, k.1, k.2.2.2, k.2.2.1⟩)]
theorem ptr_comm (a0 a3 b0 b3 : Int) : sjPtr a0 a3 b0 b3 = sjPtr b0 b3 a0 a3 := by
  unfold sjPtr
  rw [Bool.eq_iff_iff]
  simp only [Bool.and_eq_true, beq_iff_eq]
  constructor <;> rintro ⟨⟨h, k⟩, e⟩ <;> exact ⟨⟨k, h⟩, e.symm⟩
theorem sj_comm (a0 : Int) (a1 : Bool) (a2 a3 a4 a5 b0 : Int) (b1 : Bool) (b2 b3 b4 b5 : Int) : sj b0 b1 b2 b3 b4 b5 a0 a1 a2 a3 a4 a5 = sj a0 a1 a2 a3 a4 a5 b0 b1 b2 b3 b4 b5 := by
  unfold sj
  rw [ptr_comm b0 b3 a0 a3, max_comm b0 b2 a0 a2, Bool.or_comm b1 a1]
  by_cases h : sjPtr a0 a3 b0 b3 = true
  · rw [if_pos h, if_pos h]
    have e : a3 = b3 := by
      unfold sjPtr at h
      simp only [Bool.and_eq_true, beq_iff_eq] at h
      exact h.2
    rw [e]
    have e1 : (if a4 < b4 then a4 else b4) = (if b4 < a4 then b4 else a4) := by split <;> split <;> omega
    have e2 : (if b5 < a5 then a5 else b5) = (if a5 < b5 then b5 else a5) := by split <;> split <;> omega
    rw [e1, e2]
  · rw [if_neg h, if_neg h]

/-- The law's machine has two heaps, at 1000 and at 5000. -/
def hh : List S35 := [⟨1000, false, []⟩, ⟨5000, false, []⟩]
def off (h x : Int) : Int := wrap64 (IntKind.u64.wrap (x - (rd_T35 hh h).f0))
/-- Whether a register holds what a Val says. -/
def F (k m h l u x : Int) : Bool := if k = 0 then (if m = -1 then true else decide (x ≤ IntKind.u64.wrap m)) else (decide (l ≤ off h x) && decide (off h x ≤ u))
theorem holds_is (k : Int) (s : Bool) (m h l u x : Int) (hg : k = 0 ∨ (0 ≤ h ∧ h ≤ 1)) : laws_lwHolds.f k s m h l u x [] false false false false hh 0 0 [] = some (F k m h l u x) := by
  unfold laws_lwHolds.f F off
  by_cases c : k = 0
  · rw [if_pos c, if_pos c]
    by_cases c2 : m = -1
    · rw [if_pos c2, if_pos c2]
    · rw [if_neg c2, if_neg c2]
  · rw [if_neg c, if_neg c]
    have hl : (hh.length : Int) = 2 := rfl
    rw [hl, if_pos (by omega), if_pos (by omega)]
    by_cases c2 : l ≤ wrap64 (IntKind.u64.wrap (x - (rd_T35 hh h).f0))
    · rw [if_pos c2]; simp [c2]
    · rw [if_neg c2]; simp [c2]
theorem nil_C {α : Type} (d : Kd α) (w : World) : Kd.C d w none 0 [] := ⟨rfl, Nat.zero_le _, fun h => absurd h (by simp)⟩
theorem two_C {w : World} {p : Option Addr} (h : Two w p) : Kd.C k35 w p 2 hh := by
  obtain ⟨g, rfl, h0, h1, h2, h3, h4, h5⟩ := h
  refine ⟨rfl, by omega, fun _ => ⟨_, rfl, fun i x hx => ?_⟩⟩
  match i, hx with
  | 0, hx =>
    obtain rfl : x = ⟨1000, false, []⟩ := by simpa [hh] using hx.symm
    refine ⟨_, rfl, k35_mk w _ (A2 := none) (c2 := 0) (Nat.le_refl _) (nil_C _ w), fun j u hj => ?_⟩
    match j, hj with
    | 0, hj => cases hj; exact h0
    | 1, hj => cases hj; exact h1
    | 2, hj => cases hj; exact h2
    | j + 3, hj => cases hj
  | 1, hx =>
    obtain rfl : x = ⟨5000, false, []⟩ := by simpa [hh] using hx.symm
    refine ⟨_, rfl, k35_mk w _ (A2 := none) (c2 := 0) (Nat.le_refl _) (nil_C _ w), fun j u hj => ?_⟩
    match j, hj with
    | 0, hj => cases hj; exact h3
    | 1, hj => cases hj; exact h4
    | 2, hj => cases hj; exact h5
    | j + 3, hj => cases hj
  | i + 2, hx => simp [hh] at hx
theorem holds_calls (k : Int) (s : Bool) (m h l u : Int) (hg : k = 0 ∨ (0 ≤ h ∧ h ≤ 1)) (w : World) (p : Option Addr) (x : Int) (ht : Two w p) :
    Calls Try.prog 17 #[.agg #[.int .i64 k, .bool s, .int .i64 m, .int .i64 h, .int .i64 l, .int .i64 u], .int .u64 x, .agg #[.slice none 0 0, .bool false, .bool false, .bool false, .bool false, .slice p 2 2, .int .i64 0, .int .i64 0, .slice none 0 0]] w fun e w' => e = .returned (.bool (F k m h l u x)) ∧ Below w.heap.size w w' :=
  laws_lwHolds.calls k s m h l u x none 0 [] false false false false p 2 hh 0 0 none 0 [] _ w (nil_C _ w) (Nat.le_refl _) (two_C ht) (Nat.le_refl _) (nil_C _ w) (Nat.le_refl _) (holds_is k s m h l u x hg)

theorem GVal.heap {k : Int} {s : Bool} {m h l u : Int} (g : GVal k s m h l u) : k = 0 ∨ (0 ≤ h ∧ h ≤ 1) := by
  rcases g with g | g
  · exact Or.inl g.1
  · exact Or.inr ⟨g.2.2.2.1, g.2.2.2.2⟩
theorem F_num {m h l u x : Int} (h0 : -1 ≤ m) (h1 : m ≤ 1099511627776) (hx : F 0 m h l u x = true) : m = -1 ∨ x ≤ m := by
  unfold F at hx
  rw [if_pos rfl] at hx
  by_cases c : m = -1
  · exact Or.inl c
  · rw [if_neg c, IntWalk.u64_in m (by omega)] at hx
    exact Or.inr (of_decide_eq_true hx)
theorem F_ptr {m h l u x : Int} : F 1 m h l u x = true ↔ (l ≤ off h x ∧ off h x ≤ u) := by
  unfold F
  rw [if_neg (by omega)]
  simp
/-- What one of two Vals allows, their join allows. -/
theorem allows {a0 : Int} {a1 : Bool} {a2 a3 a4 a5 b0 : Int} {b1 : Bool} {b2 b3 b4 b5 : Int} (ga : GVal a0 a1 a2 a3 a4 a5) (gb : GVal b0 b1 b2 b3 b4 b5) (c : Int × Bool × Int × Int × Int × Int) (hc : c = sj a0 a1 a2 a3 a4 a5 b0 b1 b2 b3 b4 b5) (x : Int)
    (hx : (F a0 a2 a3 a4 a5 x || F b0 b2 b3 b4 b5 x) = true) : F c.1 c.2.2.1 c.2.2.2.1 c.2.2.2.2.1 c.2.2.2.2.2 x = true := by
  subst hc
  rw [Bool.or_eq_true] at hx
  unfold sj
  by_cases h : sjPtr a0 a3 b0 b3 = true
  · rw [if_pos h]
    unfold sjPtr at h
    simp only [Bool.and_eq_true, beq_iff_eq] at h
    obtain ⟨⟨rfl, rfl⟩, rfl⟩ := h
    rw [F_ptr, F_ptr] at hx
    show F 1 0 a3 (if b4 < a4 then b4 else a4) (if a5 < b5 then b5 else a5) x = true
    rw [F_ptr]
    split <;> split <;> omega
  · rw [if_neg h]
    show F 0 (sjMax a0 a2 b0 b2) 0 0 0 x = true
    unfold F
    rw [if_pos rfl]
    unfold sjMax
    by_cases q : a0 = 0 ∧ b0 = 0 ∧ a2 ≠ -1 ∧ b2 ≠ -1
    · rw [if_pos q]
      obtain ⟨rfl, rfl, qa, qb⟩ := q
      have na : -1 ≤ a2 ∧ a2 ≤ 1099511627776 := by
        rcases ga with g | g
        · exact ⟨g.2.1, g.2.2.1⟩
        · exact absurd g.1 (by omega)
      have nb : -1 ≤ b2 ∧ b2 ≤ 1099511627776 := by
        rcases gb with g | g
        · exact ⟨g.2.1, g.2.2.1⟩
        · exact absurd g.1 (by omega)
      have hx2 : x ≤ a2 ∨ x ≤ b2 := by
        rcases hx with h | h
        · rcases F_num na.1 na.2 h with e | e
          · exact absurd e qa
          · exact Or.inl e
        · rcases F_num nb.1 nb.2 h with e | e
          · exact absurd e qb
          · exact Or.inr e
      have e : ∀ z : Int, z = (if a2 < b2 then b2 else a2) → (if z = -1 then true else decide (x ≤ IntKind.u64.wrap z)) = true := by
        intro z hz
        have z0 : 0 ≤ z ∧ z ≤ 1099511627776 ∧ x ≤ z := by rw [hz]; split <;> omega
        rw [if_neg (by omega), IntWalk.u64_in z (by omega)]
        exact decide_eq_true z0.2.2
      exact e _ rfl
    · rw [if_neg q, if_pos rfl]
theorem secret (a0 : Int) (a1 : Bool) (a2 a3 a4 a5 b0 : Int) (b1 : Bool) (b2 b3 b4 b5 : Int) : (sj a0 a1 a2 a3 a4 a5 b0 b1 b2 b3 b4 b5).2.1 = ((a1 || b1) && ((sj a0 a1 a2 a3 a4 a5 b0 b1 b2 b3 b4 b5).1 == 0)) := by
  unfold sj
  by_cases h : sjPtr a0 a3 b0 b3 = true
  · rw [if_pos h]; simp
  · rw [if_neg h]; simp
theorem at_calls (A : Option Addr) (c : Nat) (ys : List Int) (hc : ys.length ≤ c) (w : World) (k : Nat) (h : Kd.C (Kd.int .u8) w A ys.length ys) : Calls Try.prog 16 #[.slice A ys.length c, .int .i64 k] w fun e w' => ∃ r : Int, e = .returned (.int .i64 r) ∧ Below w.heap.size w w' := by
  have key : ∃ r, laws_lwAt.f ys (k : Int) = some r := by
    unfold laws_lwAt.f
    by_cases q : (k : Int) < (ys.length : Int)
    · rw [if_pos q, if_pos (by omega)]; exact ⟨_, rfl⟩
    · rw [if_neg q]; exact ⟨_, rfl⟩
  obtain ⟨r, hr⟩ := key
  exact (laws_lwAt.calls A c ys k r w h hc hr).mono fun _ _ x => ⟨r, x.1, x.2.below⟩
theorem law_calls (A : Option Addr) (m : Nat) (xs : List Int) (A' : Option Addr) (m' : Nat) (ys : List Int) (w : World) (h0 : Kd.C (Kd.int .u8) w A xs.length xs) (k0 : xs.length ≤ m) (h1 : Kd.C (Kd.int .u8) w A' ys.length ys) (k1 : ys.length ≤ m') :
    Calls Try.prog 5 #[.slice A xs.length m, .slice A' ys.length m'] w fun e w' => e = .returned (.bool true) ∧ Below w.heap.size w w' := by
  by_cases q : 1048576 < xs.length ∨ 1048576 < ys.length
  · exact join_long A xs.length m A' ys.length m' w q
  · have q0 : xs.length ≤ 1048576 := by omega
    have q1 : ys.length ≤ 1048576 := by omega
    obtain ⟨a0, a1, a2, a3, a4, a5, b0, b1, b2, b3, b4, b5, hd, ga, gb⟩ := draw_is xs q0
    obtain ⟨c, hc⟩ : ∃ c, c = sj a0 a1 a2 a3 a4 a5 b0 b1 b2 b3 b4 b5 := ⟨_, rfl⟩
    have hs := fun w => sj_calls a0 a1 a2 a3 a4 a5 b0 b1 b2 b3 b4 b5 w
    rw [← hc] at hs
    have hi := fun w => impl_JoinVals.calls 1 a0 a1 a2 a3 a4 a5 b0 b1 b2 b3 b4 b5 c.1 c.2.1 c.2.2.1 c.2.2.2.1 c.2.2.2.2.1 c.2.2.2.2.2 w (by rw [ij, ← hc])
    have hr := fun w => impl_JoinVals.calls 1 b0 b1 b2 b3 b4 b5 a0 a1 a2 a3 a4 a5 c.1 c.2.1 c.2.2.1 c.2.2.2.1 c.2.2.2.2.1 c.2.2.2.2.2 w (by rw [ij, sj_comm, ← hc])
    have va : a0 < 2 → GVal a0 a1 a2 a3 a4 a5 := fun h => ga.resolve_right (by omega)
    have vc : a0 < 2 → c.1 = 0 ∨ (0 ≤ c.2.2.2.1 ∧ c.2.2.2.1 ≤ 1) := by
      intro h
      rw [hc]
      unfold sj
      by_cases e : sjPtr a0 a3 b0 b3 = true
      · rw [if_pos e]
        unfold sjPtr at e
        simp only [Bool.and_eq_true, beq_iff_eq] at e
        rcases (va h).heap with g | g
        · omega
        · exact Or.inr g
      · rw [if_neg e]; exact Or.inl rfl
    refine join_walk a0 a1 a2 a3 a4 a5 b0 b1 b2 b3 b4 b5 c.1 c.2.1 c.2.2.1 c.2.2.2.1 c.2.2.2.2.1 c.2.2.2.2.2 A xs.length m A' ys.length m' (fun w => Kd.C (Kd.int .u8) w A xs.length xs) (fun w => Kd.C (Kd.int .u8) w A' ys.length ys)
      (F a0 a2 a3 a4 a5) (F b0 b2 b3 b4 b5) (F c.1 c.2.2.1 c.2.2.2.1 c.2.2.2.2.1 c.2.2.2.2.2) w (fun w w' hb h => Kd.C_below h hb) ?_ hs hi hr ?_ ?_ ?_ ?_ ?_ ?_ h0 h1 q0 q1
    · intro w h
      exact spec_DrawJoinVals.calls _ A m xs _ _ _ _ _ _ _ _ _ _ _ _ w h k0 hd
    · exact fun w k h _ => at_calls A' m' ys k1 w k h
    · exact fun h w p x ht => holds_calls _ _ _ _ _ _ (va h).heap w p x ht
    · exact fun _ w p x ht => holds_calls _ _ _ _ _ _ gb.heap w p x ht
    · exact fun h w p x ht => holds_calls _ _ _ _ _ _ (vc h) w p x ht
    · exact fun h x hx => allows (va h) gb c hc x hx
    · rw [hc]; exact secret a0 a1 a2 a3 a4 a5 b0 b1 b2 b3 b4 b5
end Go.Proofs.Ytfeglenlpnhofaa.Jn
