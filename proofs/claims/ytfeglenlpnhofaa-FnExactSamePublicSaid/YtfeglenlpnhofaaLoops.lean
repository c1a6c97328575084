/- Plain laws of counting loops with rounds: a loop that copies, a loop that asks all. No conditions but what each says. -/
import Derived.Test.YtfeglenlpnhofaaBase
namespace Go.Proofs.Ytfeglenlpnhofaa.Mine
open Go.RowKit

theorem wrap_next {i n : Nat} (h : i < n) (hn : n ≤ 9223372036854775807) : wrap64 ((i : Int) + 1) = ((i + 1 : Nat) : Int) := by
  unfold wrap64
  omega
theorem copy_loop {α β : Type} (l : Nat → List β → Int → Option (List β)) (xs : List α) (conv : α → β) (K : Nat)
    (hstep : ∀ k, K ≤ k → ∀ (ys : List β) (i : Nat) (h : i < xs.length), ys.length = xs.length → l (k + 1) ys (i : Int) = l k (ys.set i (conv xs[i])) ((i + 1 : Nat) : Int))
    (hend : ∀ k, K ≤ k → ∀ ys : List β, l (k + 1) ys (xs.length : Int) = some ys) :
    ∀ (d k i : Nat) (ys : List β), ys.length = xs.length → i + d = xs.length → d + K < k → l k ys (i : Int) = some (ys.take i ++ (xs.drop i).map conv) := by
  intro d
  induction d with
  | zero =>
    intro k i ys hl hi hk
    obtain ⟨k, rfl⟩ : ∃ m, k = m + 1 := ⟨k - 1, by omega⟩
    obtain rfl : i = xs.length := by omega
    rw [hend k (by omega) ys, List.drop_length, ← hl, List.take_length]
    simp
  | succ d ih =>
    intro k i ys hl hi hk
    obtain ⟨k, rfl⟩ : ∃ m, k = m + 1 := ⟨k - 1, by omega⟩
    have hlt : i < xs.length := by omega
    rw [hstep k (by omega) ys i hlt hl, ih k (i + 1) _ (by simpa using hl) (by omega) (by omega)]
    congr 1
    rw [List.take_succ_eq_append_getElem (by rw [List.length_set]; omega), List.drop_eq_getElem_cons hlt, List.map_cons, List.getElem_set_self, List.take_set_of_le (Nat.le_refl _), List.append_assoc, List.singleton_append]
theorem copy_all {α β : Type} (l : Nat → List β → Int → Option (List β)) (xs : List α) (conv : α → β) (K : Nat) (z : β)
    (hstep : ∀ k, K ≤ k → ∀ (ys : List β) (i : Nat) (h : i < xs.length), ys.length = xs.length → l (k + 1) ys (i : Int) = l k (ys.set i (conv xs[i])) ((i + 1 : Nat) : Int))
    (hend : ∀ k, K ≤ k → ∀ ys : List β, l (k + 1) ys (xs.length : Int) = some ys) (k : Nat) (hk : xs.length + K < k) : l k (List.replicate xs.length z) 0 = some (xs.map conv) := by
  have h := copy_loop l xs conv K hstep hend xs.length k 0 (List.replicate xs.length z) (by simp) (by omega) (by omega)
  simpa using h
/-- All of a list from i on. -/
def allFrom (p : Nat → Bool) (n i : Nat) : Bool := (List.range' i (n - i)).all p
theorem allFrom_step {p : Nat → Bool} {n i : Nat} (h : i < n) : allFrom p n i = (p i && allFrom p n (i + 1)) := by
  unfold allFrom
  rw [show n - i = (n - (i + 1)) + 1 by omega, List.range'_succ]
  simp
theorem allFrom_end (p : Nat → Bool) (n : Nat) : allFrom p n n = true := by
  unfold allFrom
  simp
theorem allFrom_congr {p q : Nat → Bool} {n : Nat} (h : ∀ i, i < n → p i = q i) (i : Nat) : allFrom p n i = allFrom q n i := by
  unfold allFrom
  rw [Bool.eq_iff_iff]
  simp only [List.all_eq_true, List.mem_range'_1]
  exact ⟨fun g j hj => (h j (by omega)) ▸ g j hj, fun g j hj => (h j (by omega)).symm ▸ g j hj⟩
theorem allFrom_true {p : Nat → Bool} {n : Nat} (h : ∀ i, i < n → p i = true) (i : Nat) : allFrom p n i = true := by
  unfold allFrom
  simp only [List.all_eq_true, List.mem_range'_1]
  exact fun j hj => h j (by omega)
theorem all_loop (l : Nat → Int → Option Bool) (n : Nat) (p : Nat → Bool) (fin : Bool) (K : Nat)
    (hstep : ∀ k, K ≤ k → ∀ i : Nat, i < n → l (k + 1) (i : Int) = if p i = true then l k ((i + 1 : Nat) : Int) else some false)
    (hend : ∀ k, K ≤ k → l (k + 1) (n : Int) = some fin) :
    ∀ (d k i : Nat), i + d = n → d + K < k → l k (i : Int) = some (allFrom p n i && fin) := by
  intro d
  induction d with
  | zero =>
    intro k i hi hk
    obtain ⟨k, rfl⟩ : ∃ m, k = m + 1 := ⟨k - 1, by omega⟩
    obtain rfl : i = n := by omega
    rw [hend k (by omega), allFrom_end, Bool.true_and]
  | succ d ih =>
    intro k i hi hk
    obtain ⟨k, rfl⟩ : ∃ m, k = m + 1 := ⟨k - 1, by omega⟩
    have hlt : i < n := by omega
    rw [hstep k (by omega) i hlt, allFrom_step hlt]
    cases hp : p i with
    | true => rw [if_pos rfl, ih k (i + 1) (by omega) (by omega), Bool.true_and]
    | false => rw [if_neg (by simp), Bool.false_and, Bool.false_and]
theorem all_loop0 (l : Nat → Int → Option Bool) (n : Nat) (p : Nat → Bool) (fin : Bool) (K : Nat)
    (hstep : ∀ k, K ≤ k → ∀ i : Nat, i < n → l (k + 1) (i : Int) = if p i = true then l k ((i + 1 : Nat) : Int) else some false)
    (hend : ∀ k, K ≤ k → l (k + 1) (n : Int) = some fin) (k : Nat) (hk : n + K < k) : l k 0 = some (allFrom p n 0 && fin) :=
  all_loop l n p fin K hstep hend n k 0 (by omega) (by omega)
end Go.Proofs.Ytfeglenlpnhofaa.Mine
