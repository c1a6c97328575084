/- The functions over a Mach, as printed: what they come to, at every Mach of at most 2^20 entries. -/
import Derived.Test.YtfeglenlpnhofaaMk5
import Derived.Test.YtfeglenlpnhofaaMk7
import Derived.Test.YtfeglenlpnhofaaLoops
namespace Go.Proofs.Ytfeglenlpnhofaa.Mk
open Go.RowKit Go.Proofs.YtfeglenlpnhofaaW.PrintWords Go.Proofs.YtfeglenlpnhofaaW.PrintLast Go.Proofs.YtfeglenlpnhofaaW.PrintMore Go.Proofs.Ytfeglenlpnhofaa.Mine

def c122 (x : S122) : S35 := ⟨x.f0, x.f1, x.f2⟩
def c125 (x : S125) : S102 := ⟨x.f0, x.f1⟩
theorem rdI {xs : List Int} {i : Nat} (h : i < xs.length) : rd xs (i : Int) = xs[i] := by simp [rd, h]
theorem rd122 {xs : List S122} {i : Nat} (h : i < xs.length) : rd_T122 xs (i : Int) = xs[i] := by simp [rd_T122, h]
theorem rd125 {xs : List S125} {i : Nat} (h : i < xs.length) : rd_T125 xs (i : Int) = xs[i] := by simp [rd_T125, h]
theorem rd35 {xs : List S35} {i : Nat} (h : i < xs.length) : rd_T35 xs (i : Int) = xs[i] := by simp [rd_T35, h]
theorem rd102 {xs : List S102} {i : Nat} (h : i < xs.length) : rd_T102 xs (i : Int) = xs[i] := by simp [rd_T102, h]

theorem toUint64S_is (xs : List Int) (hn : xs.length ≤ 1048576) (k : Nat) (hk : xs.length < k) : laws_toUint64S.f k xs = some xs := by
  unfold laws_toUint64S.f
  rw [if_pos (by omega), if_pos (by omega), Int.toNat_natCast]
  have h := copy_all (laws_toUint64S.l0 · xs · ·) xs id 0 0 ?_ ?_ k (by omega)
  · rw [List.map_id] at h
    exact h
  · intro k _ ys i hi hl
    simp only [laws_toUint64S.l0]
    rw [if_pos (by omega), if_pos (by omega), if_pos (by omega), rdI hi, wrap_next hi (by omega), Int.toNat_natCast]
    rfl
  · intro k _ ys
    simp only [laws_toUint64S.l0]
    rw [if_neg (by omega)]
theorem toByteS_is (xs : List Int) (hn : xs.length ≤ 1048576) (k : Nat) (hk : xs.length < k) : laws_toByteS.f k xs = some xs := by
  unfold laws_toByteS.f
  rw [if_pos (by omega), if_pos (by omega), Int.toNat_natCast]
  have h := copy_all (laws_toByteS.l0 · xs · ·) xs id 0 0 ?_ ?_ k (by omega)
  · rw [List.map_id] at h
    exact h
  · intro k _ ys i hi hl
    simp only [laws_toByteS.l0]
    rw [if_pos (by omega), if_pos (by omega), if_pos (by omega), rdI hi, wrap_next hi (by omega), Int.toNat_natCast]
    rfl
  · intro k _ ys
    simp only [laws_toByteS.l0]
    rw [if_neg (by omega)]
theorem toHeapS_is (xs : List S122) (hn : xs.length ≤ 1048576) (hd : ∀ x ∈ xs, x.f2.length ≤ 1048576) (k : Nat) (hk : xs.length + 1048577 < k) : laws_toHeapS.f k xs = some (xs.map c122) := by
  unfold laws_toHeapS.f
  rw [if_pos (by omega), if_pos (by omega), Int.toNat_natCast]
  refine copy_all (laws_toHeapS.l0 · xs · ·) xs c122 1048577 z35 ?_ ?_ k (by omega)
  · intro k hk' ys i hi hl
    have h1 : xs[i].f2.length ≤ 1048576 := hd _ (List.getElem_mem hi)
    simp only [laws_toHeapS.l0]
    rw [if_pos (by omega), if_pos (by omega), rd122 hi]
    unfold laws_toHeap.f
    rw [toByteS_is _ h1 k (by omega)]
    simp only [Option.bind_some]
    rw [if_pos (by omega), wrap_next hi (by omega), Int.toNat_natCast]
    rfl
  · intro k _ ys
    simp only [laws_toHeapS.l0]
    rw [if_neg (by omega)]
theorem toObsS_is (xs : List S125) (hn : xs.length ≤ 1048576) (k : Nat) (hk : xs.length < k) : laws_toObsS.f k xs = some (xs.map c125) := by
  unfold laws_toObsS.f
  rw [if_pos (by omega), if_pos (by omega), Int.toNat_natCast]
  refine copy_all (laws_toObsS.l0 · xs · ·) xs c125 0 z102 ?_ ?_ k (by omega)
  · intro k _ ys i hi hl
    simp only [laws_toObsS.l0]
    rw [if_pos (by omega), if_pos (by omega), rd125 hi]
    simp only [laws_toObs.f, Option.bind_some]
    rw [if_pos (by omega), wrap_next hi (by omega), Int.toNat_natCast]
    rfl
  · intro k _ ys
    simp only [laws_toObsS.l0]
    rw [if_neg (by omega)]
theorem toMach_is (rs : List Int) (z c hz hc : Bool) (hs : List S122) (pc st : Int) (os : List S125) (h0 : rs.length ≤ 1048576) (h1 : hs.length ≤ 1048576) (h2 : ∀ x ∈ hs, x.f2.length ≤ 1048576) (h3 : os.length ≤ 1048576) :
    laws_toMach.f 4000000 rs z c hz hc hs pc st os = some (rs, z, c, hz, hc, hs.map c122, pc, st, os.map c125) := by
  unfold laws_toMach.f
  rw [toUint64S_is rs h0 _ (by omega), Option.bind_some, toHeapS_is hs h1 h2 _ (by omega), Option.bind_some, toObsS_is os h3 _ (by omega), Option.bind_some]

theorem szHeapS_loop (xs : List S122) (hn : xs.length ≤ 9223372036854775807) (hd : ∀ x ∈ xs, x.f2.length ≤ 9223372036854775807) : ∀ (d k i : Nat) (l : Int), i + d = xs.length → d < k → 0 ≤ l → l ≤ 1048576 →
    ∃ r, laws_szHeapS.l0 k xs l (i : Int) = some r ∧ r ≤ 1048576 ∧ (0 ≤ r → ∀ j, i ≤ j → (h : j < xs.length) → xs[j].f2.length ≤ 1048576) := by
  intro d
  induction d with
  | zero =>
    intro k i l hi hk h0 h1
    obtain ⟨k, rfl⟩ : ∃ m, k = m + 1 := ⟨k - 1, by omega⟩
    refine ⟨l, ?_, h1, fun _ j hj h => by omega⟩
    simp only [laws_szHeapS.l0]
    rw [if_neg (by omega)]
  | succ d ih =>
    intro k i l hi hk h0 h1
    obtain ⟨k, rfl⟩ : ∃ m, k = m + 1 := ⟨k - 1, by omega⟩
    have hlt : i < xs.length := by omega
    have h2 : xs[i].f2.length ≤ 9223372036854775807 := hd _ (List.getElem_mem hlt)
    simp only [laws_szHeapS.l0]
    rw [if_pos (by omega), if_pos (by omega), rd122 hlt, wrap_next hlt hn]
    unfold laws_szHeap.f laws_szByteS.f
    have e : wrap64 (l - (xs[i].f2.length : Int)) = l - xs[i].f2.length := by unfold wrap64; omega
    rw [e]
    by_cases c : l - (xs[i].f2.length : Int) < 0
    · rw [if_pos c]
      exact ⟨-1, rfl, by omega, fun h => by omega⟩
    · rw [if_neg c]
      simp only [Option.bind_some, if_neg c]
      obtain ⟨r, hr, hr1, hr2⟩ := ih k (i + 1) (l - xs[i].f2.length) (by omega) (by omega) (by omega) (by omega)
      refine ⟨r, hr, hr1, fun h j hj hj' => ?_⟩
      rcases Nat.eq_or_lt_of_le hj with rfl | hj2
      · omega
      · exact hr2 h j hj2 hj'
/-- What the size tells: not below 0 only where all is small. -/
theorem szMach_is (rs : List Int) (z c hz hc : Bool) (hs : List S122) (pc st : Int) (os : List S125) (h0 : rs.length ≤ 9223372036854775807) (h1 : hs.length ≤ 9223372036854775807) (h2 : ∀ x ∈ hs, x.f2.length ≤ 9223372036854775807) (h3 : os.length ≤ 9223372036854775807) (left : Int) (hl : 0 ≤ left ∧ left ≤ 1048576) :
    ∃ k r, laws_szMach.f k rs z c hz hc hs pc st os left = some r ∧ r ≤ 1048576 ∧ (0 ≤ r → rs.length ≤ 1048576 ∧ hs.length ≤ 1048576 ∧ (∀ x ∈ hs, x.f2.length ≤ 1048576) ∧ os.length ≤ 1048576) := by
  refine ⟨hs.length + 1, ?_⟩
  unfold laws_szMach.f laws_szUint64S.f laws_szObsS.f laws_szHeapS.f
  have e : wrap64 (left - (rs.length : Int)) = left - rs.length := by unfold wrap64; omega
  rw [e]
  by_cases q : left - (rs.length : Int) < 0
  · rw [if_pos q]
    exact ⟨-1, rfl, by omega, fun h => by omega⟩
  · rw [if_neg q]
    simp only [Option.bind_some]
    rw [if_neg q]
    have e' : wrap64 (left - (rs.length : Int) - (hs.length : Int)) = left - rs.length - hs.length := by unfold wrap64; omega
    rw [e']
    by_cases q' : left - (rs.length : Int) - (hs.length : Int) < 0
    · rw [if_pos q']
      exact ⟨-1, rfl, by omega, fun h => by omega⟩
    · rw [if_neg q']
      obtain ⟨r, hr, hr1, hr2⟩ := szHeapS_loop hs h1 h2 hs.length (hs.length + 1) 0 (left - rs.length - hs.length) (by omega) (by omega) (by omega) (by omega)
      rw [show ((0 : Nat) : Int) = 0 from rfl] at hr
      rw [hr]
      simp only [Option.bind_some]
      by_cases q2 : r < 0
      · rw [if_pos q2]
        exact ⟨-1, rfl, by omega, fun h => by omega⟩
      · rw [if_neg q2]
        have e2 : wrap64 (r - (os.length : Int)) = r - os.length := by unfold wrap64; omega
        rw [e2]
        by_cases q3 : r - (os.length : Int) < 0
        · rw [if_pos q3]
          exact ⟨-1, rfl, by omega, fun h => by omega⟩
        · rw [if_neg q3]
          simp only [Option.bind_some]
          rw [if_neg q3]
          refine ⟨_, rfl, by omega, fun _ => ⟨by omega, by omega, fun x hx => ?_, by omega⟩⟩
          obtain ⟨j, hj, rfl⟩ := List.getElem_of_mem hx
          exact hr2 (by omega) j (by omega) hj
end Go.Proofs.Ytfeglenlpnhofaa.Mk
