/- An element of a list in memory, cell by cell. No conditions. -/
import Derived.Test.YtfeglenlpnhofaaMk0
namespace Go.Proofs.Ytfeglenlpnhofaa.Mk
open Go.RowKit Go.Proofs.YtfeglenlpnhofaaW.PrintWords Go.Proofs.YtfeglenlpnhofaaW.PrintLast Go.Proofs.YtfeglenlpnhofaaW.PrintMore
set_option linter.unusedSimpArgs false
set_option linter.unusedVariables false
theorem rdA {xs : List S35} {i : Nat} (h : i < xs.length) : rd_T35 xs (i : Int) = xs[i] := by simp [rd_T35, h]
def hA_ (hs : List S35) (i : Nat) : S35 := hs.getD i z35
theorem hA_is {hs : List S35} {i : Nat} (h : i < hs.length) : hA_ hs i = hs[i] := by simp [hA_, h]
theorem heapA {w : World} {A : Option Addr} {n : Nat} {hs : List S35} (h : Kd.C k35 w A n hs) (k : Nat) (hk : k < hs.length) : ∃ ad A2 c2, A = some ad ∧ w.cell? (ad.add (k * 3)) = some (.int .u64 (hA_ hs k).f0) ∧ w.cell? ⟨(ad.add (k * 3)).block, (ad.add (k * 3)).off + 1, none⟩ = some (.bool (hA_ hs k).f1) ∧ w.cell? ⟨(ad.add (k * 3)).block, (ad.add (k * 3)).off + 2, none⟩ = some (.slice A2 (hA_ hs k).f2.length c2) ∧ (hA_ hs k).f2.length ≤ c2 ∧ (Kd.int .u8).C w A2 (hA_ hs k).f2.length (hA_ hs k).f2 := by
  have hn : k < n := by have := h.1; omega
  obtain ⟨ad, A2, c2, e, h0, h1, h2, h3, h4⟩ := at_T35 h (k : Int) (by omega) (by omega)
  rw [rdA hk, Int.toNat_natCast, ← hA_is hk] at h0 h1 h2
  rw [rdA hk, ← hA_is hk] at h3 h4
  exact ⟨ad, A2, c2, e, h0, h1, h2, h3, h4⟩
theorem obsA {w : World} {A : Option Addr} {n : Nat} {os : List S102} (h : Kd.C k102 w A n os) (k : Nat) (hk : k < os.length) : ∃ ad, A = some ad ∧ w.cell? (ad.add (k * 2)) = some (.int .i64 (os.getD k z102).f0) ∧ w.cell? ⟨(ad.add (k * 2)).block, (ad.add (k * 2)).off + 1, none⟩ = some (.int .u64 (os.getD k z102).f1) := by
  have hn : k < n := by have := h.1; omega
  obtain ⟨ad, e, h0, h1⟩ := at_T102 h (k : Int) (by omega) (by omega)
  rw [Int.toNat_natCast] at h0 h1
  exact ⟨ad, e, h0, h1⟩
theorem sigA {w : World} {A : Option Addr} {n : Nat} {hs : List S89} (h : Kd.C k89 w A n hs) (k : Nat) (hk : k < hs.length) : ∃ ad, A = some ad ∧ w.cell? (ad.add (k * 3)) = some (.int .i64 (hs.getD k z89).f0) ∧ w.cell? ⟨(ad.add (k * 3)).block, (ad.add (k * 3)).off + 1, none⟩ = some (.bool (hs.getD k z89).f1) ∧ w.cell? ⟨(ad.add (k * 3)).block, (ad.add (k * 3)).off + 2, none⟩ = some (.bool (hs.getD k z89).f2) := by
  have hn : k < n := by have := h.1; omega
  obtain ⟨ad, e, h0, h1, h2⟩ := at_T89 h (k : Int) (by omega) (by omega)
  rw [Int.toNat_natCast] at h0 h1 h2
  exact ⟨ad, e, h0, h1, h2⟩
theorem valA {w : World} {A : Option Addr} {n : Nat} {rs : List S25} (h : Kd.C k25 w A n rs) (k : Nat) (hk : k < rs.length) : ∃ ad, A = some ad ∧ w.cell? (ad.add (k * 6)) = some (.int .i64 (rs.getD k z25).f0) ∧ w.cell? ⟨(ad.add (k * 6)).block, (ad.add (k * 6)).off + 1, none⟩ = some (.bool (rs.getD k z25).f1) ∧ w.cell? ⟨(ad.add (k * 6)).block, (ad.add (k * 6)).off + 2, none⟩ = some (.int .i64 (rs.getD k z25).f2) ∧ w.cell? ⟨(ad.add (k * 6)).block, (ad.add (k * 6)).off + 3, none⟩ = some (.int .i64 (rs.getD k z25).f3) ∧ w.cell? ⟨(ad.add (k * 6)).block, (ad.add (k * 6)).off + 4, none⟩ = some (.int .i64 (rs.getD k z25).f4) ∧ w.cell? ⟨(ad.add (k * 6)).block, (ad.add (k * 6)).off + 5, none⟩ = some (.int .i64 (rs.getD k z25).f5) := by
  have hn : k < n := by have := h.1; omega
  obtain ⟨ad, e, h0, h1, h2, h3, h4, h5⟩ := at_T25 h (k : Int) (by omega) (by omega)
  rw [Int.toNat_natCast] at h0 h1 h2 h3 h4 h5
  exact ⟨ad, e, h0, h1, h2, h3, h4, h5⟩
end Go.Proofs.Ytfeglenlpnhofaa.Mk
