/- What the drawing functions under FnJoin come to: at every list of bytes two Vals are drawn, and each is in its bounds. No conditions but the lists' lengths. -/
import Derived.Test.YtfeglenlpnhofaaJn4
import Derived.Test.YtfeglenlpnhofaaJn5
import Derived.Laws.BitsLemmas
namespace Go.Proofs.Ytfeglenlpnhofaa.Jn
open Go.RowKit Go.Proofs.YtfeglenlpnhofaaW.PrintWords Go.Proofs.YtfeglenlpnhofaaW.PrintLast Go.Proofs.YtfeglenlpnhofaaW.PrintMore

theorem and255 (x : Int) : 0 ≤ Go.bits .and .i64 x 255 ∧ Go.bits .and .i64 x 255 ≤ 255 := by
  have h : (BitVec.ofInt 64 x &&& BitVec.ofInt 64 255).toNat ≤ 255 := by
    rw [BitVec.toNat_and]
    exact Nat.and_le_right
  have e : Go.bits .and .i64 x 255 = IntKind.i64.wrap ((BitVec.ofInt 64 x &&& BitVec.ofInt 64 255).toNat : Int) := rfl
  rw [e, IntKind.wrap_i64]
  omega

/-- A state of the reader: its place is within the text. -/
def Ok (s : List Int) (i : Int) : Prop := 0 ≤ i ∧ i ≤ (s.length : Int)
theorem new_is (s : List Int) (hn : s.length ≤ 1048576) : ∀ (d : Nat) (k i : Nat) (h : Int), i + d = s.length → d < k → ∃ r, spec_l1New.l0 k s h (i : Int) = some (s, 0, r) := by
  intro d
  induction d with
  | zero =>
    intro k i h hi hk
    obtain ⟨k, rfl⟩ : ∃ m, k = m + 1 := ⟨k - 1, by omega⟩
    simp only [spec_l1New.l0]
    rw [if_neg (by omega)]
    exact ⟨h, rfl⟩
  | succ d ih =>
    intro k i h hi hk
    obtain ⟨k, rfl⟩ : ∃ m, k = m + 1 := ⟨k - 1, by omega⟩
    simp only [spec_l1New.l0]
    have e : wrap64 ((i : Int) + 1) = ((i + 1 : Nat) : Int) := by unfold wrap64; omega
    rw [if_pos (by omega), if_pos (by omega), e]
    exact ih k (i + 1) _ (by omega) (by omega)
theorem byte_is (s : List Int) (i h : Int) (hn : s.length ≤ 1048576) (hi : Ok s i) : ∃ x i' h', spec_l1Byte.f s i h = some (x, i', h') ∧ 0 ≤ x ∧ x ≤ 255 ∧ Ok s i' := by
  unfold spec_l1Byte.f
  obtain ⟨h0, h1⟩ := hi
  by_cases c : i < (s.length : Int)
  · have e : wrap64 (i + 1) = i + 1 := by unfold wrap64; omega
    rw [if_pos c, if_pos h0, e]
    exact ⟨_, _, _, rfl, (and255 _).1, (and255 _).2, by omega, by omega⟩
  · rw [if_neg c]
    exact ⟨_, _, _, rfl, (and255 _).1, (and255 _).2, h0, h1⟩
theorem below_is (s : List Int) (i h a : Int) (hn : s.length ≤ 1048576) (hi : Ok s i) (ha : 1 ≤ a) (ha2 : a ≤ 256) : ∃ x i' h', spec_l1Below.f s i h a = some (x, i', h') ∧ 0 ≤ x ∧ x < a ∧ Ok s i' := by
  obtain ⟨x, i', h', e, x0, x1, ho⟩ := byte_is s i h hn hi
  unfold spec_l1Below.f
  rw [if_pos ha2, e, Option.bind_some, if_neg (by omega)]
  refine ⟨_, _, _, rfl, ?_, ?_, ho⟩
  · rw [Int.tmod_eq_emod_of_nonneg x0]; exact Int.emod_nonneg _ (by omega)
  · rw [Int.tmod_eq_emod_of_nonneg x0]; exact Int.emod_lt_of_pos _ (by omega)
theorem once_is (s : List Int) (i h a : Int) (hn : s.length ≤ 1048576) (hi : Ok s i) (ha : 1 ≤ a) (ha2 : a ≤ 256) : ∃ b i' h', spec_l1Once.f s i h a = some (b, i', h') ∧ Ok s i' := by
  obtain ⟨x, i', h', e, _, _, ho⟩ := below_is s i h a hn hi ha ha2
  unfold spec_l1Once.f
  rw [e, Option.bind_some]
  exact ⟨_, _, _, rfl, ho⟩
/-- A number. -/
def GNum (k : Int) (m h l u : Int) : Prop := k = 0 ∧ -1 ≤ m ∧ m ≤ 1099511627776 ∧ h = 0 ∧ l = 0 ∧ u = 0
/-- A pointer into one of two heaplets. -/
def GPtr (k : Int) (s : Bool) (m h _l _u : Int) : Prop := k = 1 ∧ s = false ∧ m = 0 ∧ 0 ≤ h ∧ h ≤ 1
theorem num_is (s : List Int) (i h : Int) (hn : s.length ≤ 1048576) (hi : Ok s i) (k : Nat) : ∃ b m i' h', spec_l4DrawNum.f (k + 2) s i h = some (0, b, m, 0, 0, 0, i', h') ∧ -1 ≤ m ∧ m ≤ 1099511627776 ∧ Ok s i' := by
  unfold spec_l4DrawNum.f
  obtain ⟨b, i1, h1, e1, o1⟩ := once_is s i h 2 hn hi (by omega) (by omega)
  rw [e1, Option.bind_some]
  dsimp only
  obtain ⟨x, i2, h2, e2, x0, x1, o2⟩ := below_is s i1 h1 6 hn o1 (by omega) (by omega)
  rw [e2, Option.bind_some]
  dsimp only
  have key : ∀ (m i3 h3 : Int), -1 ≤ m → m ≤ 1099511627776 → Ok s i3 → ∃ b' m' i' h', spec_l4DrawNum.j0 (k + 2) x s i3 h3 0 b m 0 0 0 = some (0, b', m', 0, 0, 0, i', h') ∧ -1 ≤ m' ∧ m' ≤ 1099511627776 ∧ Ok s i' := by
    intro m i3 h3 m0 m1 o3
    have key2 : ∀ m, -1 ≤ m → m ≤ 1099511627776 → ∃ b' m' i' h', spec_l4DrawNum.j1 (k + 1) x s i3 h3 0 b m 0 0 0 = some (0, b', m', 0, 0, 0, i', h') ∧ -1 ≤ m' ∧ m' ≤ 1099511627776 ∧ Ok s i' := by
      intro m m0 m1
      simp only [spec_l4DrawNum.j1]
      by_cases c : x = 4
      · rw [if_pos c]
        obtain ⟨b4, i4, h4, e4, o4⟩ := once_is s i3 h3 4 hn o3 (by omega) (by omega)
        rw [e4, Option.bind_some]
        dsimp only
        cases b4 with
        | true =>
          rw [if_pos rfl]
          obtain ⟨y, i5, h5, e5, y0, y1, o5⟩ := below_is s i4 h4 3 hn o4 (by omega) (by omega)
          rw [e5, Option.bind_some]
          have e : wrap64 (1099511627776 - y) = 1099511627776 - y := by unfold wrap64; omega
          dsimp only
          rw [e]
          exact ⟨_, _, _, _, rfl, by omega, by omega, o5⟩
        | false =>
          rw [if_neg (by simp)]
          exact ⟨_, _, _, _, rfl, m0, m1, o4⟩
      · rw [if_neg c]
        exact ⟨_, _, _, _, rfl, m0, m1, o3⟩
    simp only [spec_l4DrawNum.j0]
    by_cases c : x = 3
    · rw [if_pos c]; exact key2 255 (by omega) (by omega)
    · rw [if_neg c]; exact key2 m m0 m1
  by_cases c : x < 3
  · rw [if_pos c]
    obtain ⟨y, i3, h3, e3, y0, y1, o3⟩ := below_is s i2 h2 20 hn o2 (by omega) (by omega)
    rw [e3, Option.bind_some]
    dsimp only
    obtain ⟨b', m', i', h', e, m0, m1, o⟩ := key y i3 h3 (by omega) (by omega) o3
    exact ⟨b', m', i', h', e, m0, m1, o⟩
  · rw [if_neg c]
    obtain ⟨b', m', i', h', e, m0, m1, o⟩ := key (-1) i2 h2 (by omega) (by omega) o2
    exact ⟨b', m', i', h', e, m0, m1, o⟩
theorem ptr_is (s : List Int) (i h : Int) (hn : s.length ≤ 1048576) (hi : Ok s i) : ∃ p l u i' h', spec_l4DrawPtr.f s i h 2 = some (1, false, 0, p, l, u, i', h') ∧ 0 ≤ p ∧ p ≤ 1 ∧ Ok s i' := by
  unfold spec_l4DrawPtr.f
  obtain ⟨p, i1, h1, e1, p0, p1, o1⟩ := below_is s i h 2 hn hi (by omega) (by omega)
  rw [e1, Option.bind_some]
  dsimp only
  obtain ⟨x2, i2, h2, e2, _, _, o2⟩ := below_is s i1 h1 5 hn o1 (by omega) (by omega)
  rw [e2, Option.bind_some]
  dsimp only
  obtain ⟨x3, i3, h3, e3, _, _, o3⟩ := below_is s i2 h2 4 hn o2 (by omega) (by omega)
  rw [e3, Option.bind_some]
  dsimp only
  obtain ⟨x4, i4, h4, e4, _, _, o4⟩ := below_is s i3 h3 2 hn o3 (by omega) (by omega)
  rw [e4, Option.bind_some]
  dsimp only
  obtain ⟨x5, i5, h5, e5, _, _, o5⟩ := below_is s i4 h4 30 hn o4 (by omega) (by omega)
  rw [e5, Option.bind_some]
  dsimp only
  obtain ⟨x6, i6, h6, e6, _, _, o6⟩ := below_is s i5 h5 30 hn o5 (by omega) (by omega)
  by_cases c : x5 = 0
  · rw [if_pos c, if_neg (by omega)]
    exact ⟨_, _, _, _, _, rfl, p0, by omega, o5⟩
  · rw [if_neg c]
    by_cases c1 : x5 = 1
    · rw [if_pos c1, e6, Option.bind_some]
      exact ⟨_, _, _, _, _, rfl, p0, by omega, o6⟩
    · rw [if_neg c1]
      exact ⟨_, _, _, _, _, rfl, p0, by omega, o5⟩
def GVal (k : Int) (s : Bool) (m h l u : Int) : Prop := GNum k m h l u ∨ GPtr k s m h l u
theorem draw_is (s : List Int) (hn : s.length ≤ 1048576) : ∃ a0 a1 a2 a3 a4 a5 b0 b1 b2 b3 b4 b5, spec_DrawJoinVals.f (s.length + 3) s = some (a0, a1, a2, a3, a4, a5, b0, b1, b2, b3, b4, b5) ∧ (GVal a0 a1 a2 a3 a4 a5 ∨ a0 = 2) ∧ GVal b0 b1 b2 b3 b4 b5 := by
  unfold spec_DrawJoinVals.f spec_l1New.f
  obtain ⟨h0, e0⟩ := new_is s hn s.length (s.length + 3) 0 (wrap64 (54321 + (s.length : Int))) (by omega) (by omega)
  rw [show ((0 : Nat) : Int) = 0 from rfl] at e0
  rw [e0, Option.bind_some]
  dsimp only
  have o0 : Ok s 0 := ⟨by omega, by omega⟩
  obtain ⟨b1, m1, i1, h1, e1, p1, q1, o1⟩ := num_is s 0 h0 hn o0 (s.length + 1)
  rw [e1, Option.bind_some]
  dsimp only
  obtain ⟨b2, m2, i2, h2, e2, p2, q2, o2⟩ := num_is s i1 h1 hn o1 (s.length + 1)
  rw [e2, Option.bind_some]
  dsimp only
  obtain ⟨x, i3, h3, e3, x0, x1, o3⟩ := below_is s i2 h2 6 hn o2 (by omega) (by omega)
  rw [e3, Option.bind_some]
  dsimp only
  have key : ∀ (i4 h4 a0 : Int) (a1 : Bool) (a2 a3 a4 a5 : Int), Ok s i4 → GVal a0 a1 a2 a3 a4 a5 → ∃ a0' a1' a2' a3' a4' a5' c0 c1 c2 c3 c4 c5, spec_DrawJoinVals.j0 (s.length + 3) x s i4 h4 a0 a1 a2 a3 a4 a5 0 b2 m2 0 0 0 = some (a0', a1', a2', a3', a4', a5', c0, c1, c2, c3, c4, c5) ∧ (GVal a0' a1' a2' a3' a4' a5' ∨ a0' = 2) ∧ GVal c0 c1 c2 c3 c4 c5 := by
    intro i4 h4 a0 a1 a2 a3 a4 a5 o4 ga
    have last : ∀ (i5 h5 c0 : Int) (c1 : Bool) (c2 c3 c4 c5 : Int), Ok s i5 → GVal c0 c1 c2 c3 c4 c5 → ∃ a0' a1' a2' a3' a4' a5' c0' c1' c2' c3' c4' c5', ((spec_l1Once.f s i5 h5 20).bind fun t => (if t.1 = true then (some ((2 : Int), a1, a2, a3, a4, a5, c0, c1, c2, c3, c4, c5)) else (some (a0, a1, a2, a3, a4, a5, c0, c1, c2, c3, c4, c5)))) = some (a0', a1', a2', a3', a4', a5', c0', c1', c2', c3', c4', c5') ∧ (GVal a0' a1' a2' a3' a4' a5' ∨ a0' = 2) ∧ GVal c0' c1' c2' c3' c4' c5' := by
      intro i5 h5 c0 c1 c2 c3 c4 c5 o5 gc
      obtain ⟨t, i6, h6, e6, o6⟩ := once_is s i5 h5 20 hn o5 (by omega) (by omega)
      rw [e6, Option.bind_some]
      cases t with
      | true => exact ⟨_, _, _, _, _, _, _, _, _, _, _, _, if_pos rfl, Or.inr rfl, gc⟩
      | false => exact ⟨_, _, _, _, _, _, _, _, _, _, _, _, if_neg (by simp), Or.inl ga, gc⟩
    have gb : GVal 0 b2 m2 0 0 0 := Or.inl ⟨rfl, p2, q2, rfl, rfl, rfl⟩
    rw [spec_DrawJoinVals.j0]
    simp only [spec_DrawJoinVals.j1]
    obtain ⟨p, l, u, i5, h5, e5, u0, u1, o5⟩ := ptr_is s i4 h4 hn o4
    have gp : GVal 1 false 0 p l u := Or.inr ⟨rfl, rfl, rfl, u0, u1⟩
    by_cases c : x < 2
    · rw [if_pos c, if_pos trivial, e5, Option.bind_some]
      exact last _ _ _ _ _ _ _ _ o5 gp
    · rw [if_neg c]
      by_cases c4 : x = 4
      · rw [if_pos (by simp [c4]), e5, Option.bind_some]
        exact last _ _ _ _ _ _ _ _ o5 gp
      · rw [if_neg (by simp [c4])]
        exact last _ _ _ _ _ _ _ _ o4 gb
  by_cases c : x < 3
  · rw [if_pos c]
    obtain ⟨p, l, u, i5, h5, e5, u0, u1, o5⟩ := ptr_is s i3 h3 hn o3
    rw [e5, Option.bind_some]
    exact key _ _ _ _ _ _ _ _ o5 (Or.inr ⟨rfl, rfl, rfl, u0, u1⟩)
  · rw [if_neg c]
    exact key _ _ _ _ _ _ _ _ o3 (Or.inl ⟨rfl, p1, q1, rfl, rfl, rfl⟩)
end Go.Proofs.Ytfeglenlpnhofaa.Jn
