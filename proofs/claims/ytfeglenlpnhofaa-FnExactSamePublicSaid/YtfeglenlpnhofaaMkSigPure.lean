/- The printed functions over a Sig: what they come to, at every Sig of at most 2^20 entries. -/
import Derived.Test.YtfeglenlpnhofaaMk1
import Derived.Test.YtfeglenlpnhofaaMkA
import Derived.Test.YtfeglenlpnhofaaMkC
import Derived.Test.YtfeglenlpnhofaaLoops
namespace Go.Proofs.Ytfeglenlpnhofaa.Mk
open Go.RowKit Go.Proofs.YtfeglenlpnhofaaW.PrintWords Go.Proofs.YtfeglenlpnhofaaW.PrintLast Go.Proofs.YtfeglenlpnhofaaW.PrintMore Go.Proofs.Ytfeglenlpnhofaa.Mine

def c118 (x : S118) : S89 := ⟨x.f0, x.f1, x.f2⟩
def c24 (x : S24) : S25 := ⟨x.f0, x.f1, x.f2, x.f3, x.f4, x.f5⟩
theorem rd118 {xs : List S118} {i : Nat} (h : i < xs.length) : rd_T118 xs (i : Int) = xs[i] := by simp [rd_T118, h]
theorem rd24 {xs : List S24} {i : Nat} (h : i < xs.length) : rd_T24 xs (i : Int) = xs[i] := by simp [rd_T24, h]
theorem rd89 {xs : List S89} {i : Nat} (h : i < xs.length) : rd_T89 xs (i : Int) = xs[i] := by simp [rd_T89, h]
theorem rd25 {xs : List S25} {i : Nat} (h : i < xs.length) : rd_T25 xs (i : Int) = xs[i] := by simp [rd_T25, h]

theorem toHeapSigS_is (xs : List S118) (hn : xs.length ≤ 1048576) (k : Nat) (hk : xs.length < k) : laws_toHeapSigS.f k xs = some (xs.map c118) := by
  unfold laws_toHeapSigS.f
  rw [if_pos (by omega), if_pos (by omega), Int.toNat_natCast]
  refine copy_all (laws_toHeapSigS.l0 · xs · ·) xs c118 0 z89 ?_ ?_ k (by omega)
  · intro k _ ys i hi hl
    simp only [laws_toHeapSigS.l0]
    rw [if_pos (by omega), if_pos (by omega), rd118 hi]
    simp only [laws_toHeapSig.f, Option.bind_some]
    rw [if_pos (by omega), wrap_next hi (by omega), Int.toNat_natCast]
    rfl
  · intro k _ ys
    simp only [laws_toHeapSigS.l0]
    rw [if_neg (by omega)]
theorem toValS_is (xs : List S24) (hn : xs.length ≤ 1048576) (k : Nat) (hk : xs.length < k) : laws_toValS.f k xs = some (xs.map c24) := by
  unfold laws_toValS.f
  rw [if_pos (by omega), if_pos (by omega), Int.toNat_natCast]
  refine copy_all (laws_toValS.l0 · xs · ·) xs c24 0 z25 ?_ ?_ k (by omega)
  · intro k _ ys i hi hl
    simp only [laws_toValS.l0]
    rw [if_pos (by omega), if_pos (by omega), rd24 hi]
    simp only [laws_toVal.f, Option.bind_some]
    rw [if_pos (by omega), wrap_next hi (by omega), Int.toNat_natCast]
    rfl
  · intro k _ ys
    simp only [laws_toValS.l0]
    rw [if_neg (by omega)]
theorem toSig_is (hs : List S118) (rs : List S24) (h0 : hs.length ≤ 1048576) (h1 : rs.length ≤ 1048576) (k : Nat) (k0 : hs.length < k) (k1 : rs.length < k) : laws_toSig.f k hs rs = some (hs.map c118, rs.map c24) := by
  unfold laws_toSig.f
  rw [toHeapSigS_is hs h0 k k0, Option.bind_some, toValS_is rs h1 k k1, Option.bind_some]

/-- A Val that is valid for n heaplets. -/
def goodVal (x : S25) (n : Nat) : Bool :=
  (decide (x.f0 = 0) && decide (-1 ≤ x.f2) && decide (x.f2 ≤ 1099511627776) && decide (x.f3 = 0) && decide (x.f4 = 0) && decide (x.f5 = 0)) ||
  (decide (x.f0 = 1) && !x.f1 && decide (x.f2 = 0) && decide (0 ≤ x.f3) && decide (x.f3 < n) && decide (-1099511627776 ≤ x.f4) && decide (x.f4 ≤ x.f5) && decide (x.f5 ≤ 1099511627776))
theorem spec_good (x : S25) (n : Nat) (hn : n ≤ 1048576) : spec_l4Good.f x.f0 x.f1 x.f2 x.f3 x.f4 x.f5 (n : Int) = some (goodVal x n) := by
  have hw : wrap64 ((n : Int) - 1) = (n : Int) - 1 := by unfold wrap64; omega
  unfold spec_l4Good.f goodVal spec_l1In.f
  rw [hw]
  obtain ⟨a, b, c, d, e, f⟩ := x
  dsimp only
  by_cases h0 : a = 0
  · subst h0
    rw [if_pos rfl]
    by_cases h2 : -1 ≤ c <;> by_cases h2' : c ≤ 1099511627776 <;> by_cases h3 : d = 0 <;> by_cases h4 : e = 0 <;> by_cases h5 : f = 0 <;> simp [h2, h2', h3, h4, h5]
  · rw [if_neg h0]
    by_cases h1 : a = 1
    · subst h1
      rw [if_pos rfl]
      have hd : (d ≤ (n : Int) - 1) ↔ (d < (n : Int)) := by omega
      cases b <;> by_cases h2 : c = 0 <;> by_cases h3 : 0 ≤ d <;> by_cases h3' : d < (n : Int) <;> by_cases h4 : -1099511627776 ≤ e <;> by_cases h5 : e ≤ f <;> simp [h2, h3, hd, h3', h4, h5]
    · rw [if_neg h1]
      simp [h0, h1]
theorem impl_good (x : S25) (n : Nat) : impl_Val_valid.f x.f0 x.f1 x.f2 x.f3 x.f4 x.f5 (n : Int) = some (goodVal x n) := by
  unfold impl_Val_valid.f goodVal
  obtain ⟨a, b, c, d, e, f⟩ := x
  dsimp only
  by_cases h0 : a = 0
  · subst h0
    rw [if_pos rfl]
    by_cases h2 : -1 ≤ c <;> by_cases h2' : c ≤ 1099511627776 <;> by_cases h3 : d = 0 <;> by_cases h4 : e = 0 <;> by_cases h5 : f = 0 <;> simp [h2, h2', h3, h4, h5]
  · rw [if_neg h0]
    by_cases h1 : a = 1
    · subst h1
      rw [if_pos rfl]
      cases b <;> by_cases h2 : c = 0 <;> by_cases h3 : 0 ≤ d <;> by_cases h3' : d < (n : Int) <;> by_cases h4 : -1099511627776 ≤ e <;> by_cases h5 : e ≤ f <;> simp [h2, h3, h3', h4, h5]
    · rw [if_neg h1]
      simp [h0, h1]

def regsGood (rs : List S25) (n : Nat) : Bool := allFrom (fun i => goodVal (rs.getD i z25) n) rs.length 0 && decide (rs.length = 8)
theorem getD25 {xs : List S25} {i : Nat} (h : i < xs.length) : xs.getD i z25 = xs[i] := by simp [h]
theorem spec_regs (rs : List S25) (n : Nat) (hn : n ≤ 1048576) (k : Nat) (hk : 8 < k) : spec_l4GoodRegs.f k rs (n : Int) = some (regsGood rs n) := by
  unfold spec_l4GoodRegs.f regsGood
  by_cases h8 : rs.length = 8
  · rw [if_pos (by omega), all_loop0 (spec_l4GoodRegs.l0 · rs n ·) rs.length (fun i => goodVal (rs.getD i z25) n) true 0 ?_ ?_ k (by omega)]
    · simp [h8]
    · intro k _ i hi
      simp only [spec_l4GoodRegs.l0]
      rw [if_pos (by omega), if_pos (by omega), rd25 hi, spec_good _ _ hn, Option.bind_some, wrap_next hi (by omega), getD25 hi]
    · intro k _
      simp only [spec_l4GoodRegs.l0]
      rw [if_neg (by omega)]
  · rw [if_neg (by omega)]
    simp [h8]
theorem impl_regs (rs : List S25) (n : Nat) (hr : rs.length ≤ 1048576) (k : Nat) (hk : rs.length < k) : impl_validRegs.f k rs (n : Int) = some (regsGood rs n) := by
  unfold impl_validRegs.f regsGood
  refine (all_loop0 (impl_validRegs.l0 · rs n rs rs.length ·) rs.length (fun i => goodVal (rs.getD i z25) n) (decide (rs.length = 8)) 0 ?_ ?_ k (by omega))
  · intro k _ i hi
    simp only [impl_validRegs.l0]
    rw [if_pos (by omega), if_pos (by omega), if_pos (by omega), rd25 hi, impl_good, Option.bind_some, wrap_next hi (by omega), getD25 hi]
  · intro k _
    simp only [impl_validRegs.l0]
    rw [if_neg (by omega)]
    congr 1
    rw [Bool.eq_iff_iff]
    simp
    omega
/-- A valid Sig. -/
def sigGood (hs : List S89) (rs : List S25) : Bool :=
  decide (hs.length ≤ 8) && (allFrom (fun i => decide (1 ≤ (hs.getD i z89).f0) && decide ((hs.getD i z89).f0 ≤ 4096)) hs.length 0 && regsGood rs hs.length)
theorem getD89 {xs : List S89} {i : Nat} (h : i < xs.length) : xs.getD i z89 = xs[i] := by simp [h]
theorem spec_sig (hs : List S89) (rs : List S25) (k : Nat) (hk : 18 < k) : spec_ValidSig.f k hs rs = some (sigGood hs rs) := by
  unfold spec_ValidSig.f sigGood
  by_cases h8 : hs.length ≤ 8
  · rw [if_neg (by omega), all_loop0 (spec_ValidSig.l0 · · hs rs) hs.length (fun i => decide (1 ≤ (hs.getD i z89).f0) && decide ((hs.getD i z89).f0 ≤ 4096)) (regsGood rs hs.length) 9 ?_ ?_ k (by omega)]
    · simp [h8]
    · intro k _ i hi
      simp only [spec_ValidSig.l0]
      rw [if_pos (by omega), if_pos (by omega), rd89 hi, getD89 hi, wrap_next hi (by omega)]
      unfold spec_l1In.f
      by_cases h1 : 1 ≤ hs[i].f0 <;> by_cases h2 : hs[i].f0 ≤ 4096 <;> simp [h1, h2]
    · intro k hk'
      simp only [spec_ValidSig.l0]
      rw [if_neg (by omega), spec_regs rs hs.length (by omega) k (by omega), Option.bind_some]
  · rw [if_pos (by omega)]
    simp [h8]
theorem impl_sig (hs : List S89) (rs : List S25) (h0 : hs.length ≤ 1048576) (h1 : rs.length ≤ 1048576) (k : Nat) (hk : hs.length + rs.length + 1 < k) : impl_ValidSig.f k hs rs = some (sigGood hs rs) := by
  unfold impl_ValidSig.f sigGood
  rw [all_loop0 (impl_ValidSig.l0 · hs hs.length · hs rs) hs.length (fun i => decide (1 ≤ (hs.getD i z89).f0) && decide ((hs.getD i z89).f0 ≤ 4096)) (decide (hs.length ≤ 8) && regsGood rs hs.length) (rs.length + 1) ?_ ?_ k (by omega)]
  · congr 1
    cases decide (hs.length ≤ 8) <;> simp
  · intro k _ i hi
    simp only [impl_ValidSig.l0]
    rw [if_pos (by omega), if_pos (by omega), if_pos (by omega), rd89 hi, getD89 hi, wrap_next hi (by omega)]
    by_cases h1 : hs[i].f0 < 1
    · rw [if_pos h1, if_neg (by simp; omega)]
    · rw [if_neg h1]
      by_cases h2 : hs[i].f0 > 4096
      · rw [if_pos h2, if_neg (by simp; omega)]
      · rw [if_neg h2, if_pos (by simp; omega)]
  · intro k hk'
    simp only [impl_ValidSig.l0]
    rw [if_neg (by omega)]
    by_cases h8 : hs.length ≤ 8
    · rw [if_pos (by omega), impl_regs rs hs.length h1 k (by omega), Option.bind_some]
      simp [h8]
    · rw [if_neg (by omega)]
      simp [h8]

theorem szSig_is (hs : List S118) (rs : List S24) (h0 : hs.length ≤ 9223372036854775807) (h1 : rs.length ≤ 9223372036854775807) (left : Int) (hl : 0 ≤ left ∧ left ≤ 1048576) :
    laws_szSig.f hs rs left = some (if hs.length + rs.length ≤ left.toNat then left - hs.length - rs.length else -1) := by
  unfold laws_szSig.f laws_szHeapSigS.f laws_szValS.f
  have e : wrap64 (left - (hs.length : Int)) = left - hs.length := by unfold wrap64; omega
  rw [e]
  by_cases c : left - (hs.length : Int) < 0
  · rw [if_pos c, Option.bind_some, if_pos (by omega), if_neg (by omega)]
  · rw [if_neg c, Option.bind_some, if_neg c]
    have e' : wrap64 (left - (hs.length : Int) - (rs.length : Int)) = left - hs.length - rs.length := by unfold wrap64; omega
    rw [e']
    by_cases c' : left - (hs.length : Int) - (rs.length : Int) < 0
    · rw [if_pos c', Option.bind_some, if_pos (by omega), if_neg (by omega)]
    · rw [if_neg c', Option.bind_some, if_neg c', if_pos (by omega)]
end Go.Proofs.Ytfeglenlpnhofaa.Mk
