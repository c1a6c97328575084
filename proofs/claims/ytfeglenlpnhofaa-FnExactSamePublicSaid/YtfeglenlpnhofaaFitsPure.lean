/- What makes a machine fit a Sig, in plain words; the printed functions under Fits come to it. -/
import Derived.Test.YtfeglenlpnhofaaMkB
import Derived.Test.YtfeglenlpnhofaaMkSigPure
import Derived.Test.YtfeglenlpnhofaaMkGood
import Derived.IntWalk
namespace Go.Proofs.Ytfeglenlpnhofaa.Mk
open Go.RowKit Go.Proofs.YtfeglenlpnhofaaW.PrintWords Go.Proofs.YtfeglenlpnhofaaW.PrintLast Go.Proofs.YtfeglenlpnhofaaW.PrintMore Go.Proofs.Ytfeglenlpnhofaa.Mine

theorem wrapU (n : Int) : IntKind.u64.wrap n = n % 18446744073709551616 := by simp [IntKind.wrap, IntKind.bits, IntKind.signed]
/-- Heaplet i of the machine is as heaplet i of the Sig. -/
def eqH (hs : List S89) (ms : List S35) (i : Nat) : Bool := decide ((hs.getD i z89).f0 = ((ms.getD i z35).f2.length : Int)) && ((hs.getD i z89).f2 == (ms.getD i z35).f1)
def sameH (hs : List S89) (ms : List S35) : Bool := decide (hs.length = ms.length) && allFrom (eqH hs ms) hs.length 0
theorem getD35 {xs : List S35} {i : Nat} (h : i < xs.length) : xs.getD i z35 = xs[i] := by simp [h]
theorem getDI {xs : List Int} {i : Nat} (h : i < xs.length) : xs.getD i 0 = xs[i] := by simp [h]
theorem spec_same (hs : List S89) (rs : List S25) (xs : List Int) (z c hz hc : Bool) (ms : List S35) (pc st : Int) (os : List S102) (hn : hs.length ≤ 1048576) (k : Nat) (hk : hs.length < k) :
    spec_l4SameHeaps.f k hs rs xs z c hz hc ms pc st os = some (sameH hs ms) := by
  unfold spec_l4SameHeaps.f sameH
  by_cases h : hs.length = ms.length
  · rw [if_pos (by omega), all_loop0 (spec_l4SameHeaps.l0 · · hs rs xs z c hz hc ms pc st os) hs.length (eqH hs ms) true 0 ?_ ?_ k (by omega)]
    · simp [h]
    · intro k _ i hi
      simp only [spec_l4SameHeaps.l0]
      rw [if_pos (by omega), if_pos (by omega), if_pos (by omega), rd89 hi, rd35 (by omega), wrap_next hi (by omega)]
      unfold eqH
      rw [getD89 hi, getD35 (by omega)]
      by_cases h1 : hs[i].f0 = (ms[i].f2.length : Int)
      · rw [if_pos h1]
        cases h2 : hs[i].f2 <;> cases h3 : ms[i].f1 <;> simp [h1]
      · rw [if_neg h1]
        simp [h1]
    · intro k _
      simp only [spec_l4SameHeaps.l0]
      rw [if_neg (by omega)]
  · rw [if_neg (by omega)]
    simp [h]

def offV (v : S25) (x : Int) (ms : List S35) : Int := wrap64 (IntKind.u64.wrap (x - (rd_T35 ms v.f3).f0))
/-- A register holds what a Val says. -/
def holdsV (v : S25) (x : Int) (ms : List S35) : Bool :=
  if v.f0 = 0 then (decide (v.f2 = -1) || decide (x ≤ IntKind.u64.wrap v.f2)) else (decide (v.f4 ≤ offV v x ms) && decide (offV v x ms ≤ v.f5))
theorem spec_holds (v : S25) (x : Int) (xs : List Int) (z c hz hc : Bool) (ms : List S35) (pc st : Int) (os : List S102) (hv : v.f0 = 0 ∨ (0 ≤ v.f3 ∧ v.f3 < ms.length)) :
    spec_l4Holds.f v.f0 v.f1 v.f2 v.f3 v.f4 v.f5 x xs z c hz hc ms pc st os = some (holdsV v x ms) := by
  unfold spec_l4Holds.f holdsV offV
  by_cases h : v.f0 = 0
  · rw [if_pos h, if_pos h]
    by_cases h2 : v.f2 = -1
    · rw [if_pos h2]; simp [h2]
    · rw [if_neg h2]; simp [h2]
  · rw [if_neg h, if_neg h, if_pos (by omega), if_pos (by omega)]
    by_cases h2 : v.f4 ≤ wrap64 (IntKind.u64.wrap (x - (rd_T35 ms v.f3).f0))
    · rw [if_pos h2]; simp [h2]
    · rw [if_neg h2]; simp [h2]
theorem good_parts {v : S25} {n : Nat} (h : goodVal v n = true) : (v.f0 = 0 ∧ -1 ≤ v.f2) ∨ (v.f0 = 1 ∧ 0 ≤ v.f3 ∧ v.f3 < n ∧ -1099511627776 ≤ v.f4 ∧ v.f4 ≤ v.f5 ∧ v.f5 ≤ 1099511627776) := by
  unfold goodVal at h
  simp only [Bool.or_eq_true, Bool.and_eq_true, decide_eq_true_eq] at h
  rcases h with h | h
  · exact Or.inl ⟨h.1.1.1.1.1, h.1.1.1.1.2⟩
  · exact Or.inr ⟨h.1.1.1.1.1.1.1, h.1.1.1.1.2, h.1.1.1.2, h.1.1.2, h.1.2, h.2⟩
theorem impl_says (v : S25) (x : Int) (ms : List S35) (n : Nat) (hg : goodVal v n = true) (hn : n = ms.length) : impl_Val_says.f v.f0 v.f1 v.f2 v.f3 v.f4 v.f5 x ms = some (holdsV v x ms) := by
  subst hn
  unfold impl_Val_says.f holdsV offV
  rcases good_parts hg with ⟨h0, h2⟩ | ⟨h0, h3, h3', h4, h5, h6⟩
  · rw [if_pos h0, if_pos h0]
    by_cases c : v.f2 = -1
    · rw [if_pos (by omega)]; simp [c]
    · rw [if_neg (by omega)]; simp [c]
  · have n0 : ¬ v.f0 = 0 := by omega
    rw [if_neg n0, if_pos h3, if_pos h3', if_neg n0]
    obtain ⟨y, hy⟩ : ∃ y, y = IntKind.u64.wrap (x - (rd_T35 ms v.f3).f0) := ⟨_, rfl⟩
    have hy0 : 0 ≤ y ∧ y < 18446744073709551616 := by rw [hy, wrapU]; omega
    rw [← hy]
    congr 1
    have e : wrap64 (v.f5 - v.f4) = v.f5 - v.f4 := by unfold wrap64; omega
    rw [e]
    clear hy hg
    rw [Bool.eq_iff_iff]
    simp only [Bool.and_eq_true, decide_eq_true_eq]
    rw [wrapU, wrapU, wrapU]
    unfold wrap64
    omega
def okR (rs : List S25) (xs : List Int) (ms : List S35) (i : Nat) : Bool := holdsV (rs.getD i z25) (xs.getD i 0) ms
theorem regs_good {rs : List S25} {n : Nat} (h : regsGood rs n = true) : rs.length = 8 ∧ ∀ i, i < rs.length → goodVal (rs.getD i z25) n = true := by
  unfold regsGood at h
  rw [Bool.and_eq_true] at h
  refine ⟨of_decide_eq_true h.2, fun i hi => ?_⟩
  have := h.1
  unfold allFrom at this
  rw [List.all_eq_true] at this
  exact this i (by simp; omega)
theorem sig_good {hs : List S89} {rs : List S25} (h : sigGood hs rs = true) : hs.length ≤ 8 ∧ regsGood rs hs.length = true := by
  unfold sigGood at h
  simp only [Bool.and_eq_true, decide_eq_true_eq] at h
  exact ⟨h.1, h.2.2⟩
theorem spec_regsHold (rs : List S25) (xs : List Int) (z c hz hc : Bool) (ms : List S35) (pc st : Int) (os : List S102) (h8 : rs.length = 8) (hx : xs.length = 8) (hg : ∀ i, i < rs.length → goodVal (rs.getD i z25) ms.length = true) (k : Nat) (hk : 8 < k) :
    spec_l4RegsHold.f k rs xs z c hz hc ms pc st os = some (allFrom (okR rs xs ms) rs.length 0) := by
  unfold spec_l4RegsHold.f
  rw [all_loop0 (spec_l4RegsHold.l0 · rs · xs z c hz hc ms pc st os) rs.length (okR rs xs ms) true 0 ?_ ?_ k (by omega), Bool.and_true]
  · intro k _ i hi
    simp only [spec_l4RegsHold.l0]
    have hv : rs[i].f0 = 0 ∨ (0 ≤ rs[i].f3 ∧ rs[i].f3 < ms.length) := by
      have := hg i hi
      rw [getD25 hi] at this
      rcases good_parts this with h | h
      · exact Or.inl h.1
      · exact Or.inr ⟨h.2.1, h.2.2.1⟩
    rw [if_pos (by omega), if_pos (by omega), if_pos (by omega), rd25 hi, rdI (by omega), spec_holds rs[i] _ _ _ _ _ _ _ _ _ _ hv, Option.bind_some, wrap_next hi (by omega)]
    unfold okR
    rw [getD25 hi, getDI (by omega)]
  · intro k _
    simp only [spec_l4RegsHold.l0]
    exact if_neg (by omega)
end Go.Proofs.Ytfeglenlpnhofaa.Mk
