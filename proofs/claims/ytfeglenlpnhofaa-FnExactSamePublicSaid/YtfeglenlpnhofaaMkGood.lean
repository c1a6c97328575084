/- What makes a machine valid, in plain words; readings of its lists in memory. -/
import Derived.Test.YtfeglenlpnhofaaMkPure
import Derived.Test.YtfeglenlpnhofaaMk9
namespace Go.Proofs.Ytfeglenlpnhofaa.Mk
open Go.RowKit Go.Proofs.YtfeglenlpnhofaaW.PrintWords Go.Proofs.YtfeglenlpnhofaaW.PrintLast Go.Proofs.YtfeglenlpnhofaaW.PrintMore Go.Proofs.Ytfeglenlpnhofaa.Mine

set_option linter.unusedSimpArgs false
set_option linter.unusedVariables false
def inB (x lo hi : Int) : Bool := decide (lo ≤ x) && decide (x ≤ hi)
theorem l1In_calls (x lo hi : Int) (w : World) : Calls Try.prog 44 #[.int .i64 x, .int .i64 lo, .int .i64 hi] w fun e w' => e = .returned (.bool (inB x lo hi)) ∧ Below w.heap.size w w' :=
  (spec_l1In.calls x lo hi (inB x lo hi) w (by unfold spec_l1In.f inB; by_cases h : lo ≤ x <;> simp [h])).mono fun _ _ x => ⟨x.1, x.2.below⟩
theorem in_calls (x lo hi : Int) (w : World) : Calls Try.prog 44 #[.int .i64 x, .int .i64 lo, .int .i64 hi] w fun e w' => e = .returned (.bool (inB x lo hi)) ∧ w = w' := by
  unfold inB
  by_cases h : lo ≤ x
  · by_cases k : x ≤ hi
    · go_enter Try.func44, Try.ntmps44
      go_wp2
      go_ret
      exact ⟨by simp [h, k], rfl⟩
    · go_enter Try.func44, Try.ntmps44
      go_wp2
      go_ret
      exact ⟨by simp; omega, rfl⟩
  · go_enter Try.func44, Try.ntmps44
    go_wp2
    go_ret
    exact ⟨by simp; omega, rfl⟩
def hdB (n0 : Nat) (z c hz hc : Bool) (n5 : Nat) (pc st : Int) (n8 : Nat) : Bool :=
  decide ((n0 : Int) = 8) && !(z && !hz) && !(c && !hc) && decide ((n5 : Int) ≤ 8) && inB pc 0 2000 && inB st 0 2 && decide ((n8 : Int) ≤ 200000)

def hAt (hs : List S35) (i : Nat) : S35 := hs.getD i z35
theorem hAt_is {hs : List S35} {i : Nat} (h : i < hs.length) : hAt hs i = hs[i] := by simp [hAt, h]
theorem heapAt {w : World} {A : Option Addr} {n : Nat} {hs : List S35} (h : Kd.C k35 w A n hs) (k : Nat) (hk : k < hs.length) : ∃ ad A2 c2, A = some ad ∧ w.cell? (ad.add (k * 3)) = some (.int .u64 (hAt hs k).f0) ∧ w.cell? ⟨(ad.add (k * 3)).block, (ad.add (k * 3)).off + 1, none⟩ = some (.bool (hAt hs k).f1) ∧ w.cell? ⟨(ad.add (k * 3)).block, (ad.add (k * 3)).off + 2, none⟩ = some (.slice A2 (hAt hs k).f2.length c2) ∧ (hAt hs k).f2.length ≤ c2 ∧ (Kd.int .u8).C w A2 (hAt hs k).f2.length (hAt hs k).f2 := by
  have hn : k < n := by have := h.1; omega
  obtain ⟨ad, A2, c2, e, h0, h1, h2, h3, h4⟩ := at_T35 h (k : Int) (by omega) (by omega)
  rw [rd35 hk, Int.toNat_natCast, ← hAt_is hk] at h0 h1 h2
  rw [rd35 hk, ← hAt_is hk] at h3 h4
  exact ⟨ad, A2, c2, e, h0, h1, h2, h3, h4⟩
theorem keepC' {W w1 : World} {a : Addr} {v : Value} (h : W.cell? a = some v) (hb : Below W.heap.size W w1) : w1.cell? a = some v := (hb.cell (World.block_lt_of_cell? W _ h)).trans h
theorem obsAt {w : World} {A : Option Addr} {n : Nat} {os : List S102} (h : Kd.C k102 w A n os) (k : Nat) (hk : k < os.length) : ∃ ad, A = some ad ∧ w.cell? (ad.add (k * 2)) = some (.int .i64 (os.getD k z102).f0) := by
  have hn : k < n := by have := h.1; omega
  obtain ⟨ad, e, h0, _⟩ := at_T102 h (k : Int) (by omega) (by omega)
  rw [Int.toNat_natCast] at h0
  exact ⟨ad, e, h0⟩
theorem obsAt2 {w : World} {A : Option Addr} {n : Nat} {os : List S102} (h : Kd.C k102 w A n os) (k : Nat) (hk : k < os.length) : ∃ ad, A = some ad ∧ w.cell? (ad.add (k * 2)) = some (.int .i64 (os.getD k z102).f0) ∧ w.cell? ⟨(ad.add (k * 2)).block, (ad.add (k * 2)).off + 1, none⟩ = some (.int .u64 (os.getD k z102).f1) := by
  have hn : k < n := by have := h.1; omega
  obtain ⟨ad, e, h0, h1⟩ := at_T102 h (k : Int) (by omega) (by omega)
  rw [Int.toNat_natCast] at h0 h1
  exact ⟨ad, e, h0, h1⟩
theorem size_calls (base : Int) (wr : Bool) (A : Option Addr) (c : Nat) (xs : List Int) (w : World) (h : Kd.C (Kd.int .u8) w A xs.length xs) (hc : xs.length ≤ c) : Calls Try.prog 55 #[.agg #[.int .u64 base, .bool wr, .slice A xs.length c]] w fun e w' => e = .returned (.int .u64 (xs.length : Int)) ∧ Below w.heap.size w w' :=
  spec_l1Size.calls base wr A c xs _ w h hc (by
    unfold spec_l1Size.f
    have := h.2.1
    have e : IntKind.u64.wrap (xs.length : Int) = (xs.length : Int) := IntWalk.u64_in _ (by omega)
    rw [e])

def lenI (h : S35) : Int := (h.f2.length : Int)
def okA (h : S35) : Bool := decide (lenI h < 1)
def okB (h : S35) : Bool := decide (4096 < lenI h)
def okC (h : S35) : Bool := decide (IntKind.u64.wrap (18446744073709551615 - lenI h) < h.f0)
def heapOk (h : S35) : Bool := !(okA h || okB h || okC h)
def lapA (h g : S35) : Bool := decide (h.f0 < IntKind.u64.wrap (g.f0 + lenI g))
def lap (h g : S35) : Bool := lapA h g && lapA g h
def heapsOk (hs : List S35) (i : Nat) : Bool := heapOk (hAt hs i) && allFrom (fun j => !lap (hAt hs i) (hAt hs j)) i 0
def obsOk (os : List S102) (i : Nat) : Bool := inB (os.getD i z102).f0 1 3
def machGood (n0 : Nat) (z c hz hc : Bool) (hs : List S35) (pc st : Int) (os : List S102) : Bool :=
  hdB n0 z c hz hc hs.length pc st os.length && (allFrom (heapsOk hs) hs.length 0 && allFrom (obsOk os) os.length 0)
theorem fail_of {P : Nat → Bool} {n k : Nat} {G b : Bool} (h : G = (allFrom P n 0 && b)) (hp : allFrom P n 0 = allFrom P n k) (hk : k < n) (hf : P k = false) : G = false := by
  rw [h, hp, allFrom_step hk, hf]; rfl
theorem good_hd {n0 : Nat} {z c hz hc : Bool} {hs : List S35} {pc st : Int} {os : List S102} (h : hdB n0 z c hz hc hs.length pc st os.length = false) : machGood n0 z c hz hc hs pc st os = false := by
  unfold machGood; rw [h]; rfl

end Go.Proofs.Ytfeglenlpnhofaa.Mk
