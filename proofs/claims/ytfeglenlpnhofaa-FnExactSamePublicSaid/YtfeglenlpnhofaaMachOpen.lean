/- An argument of the type Mach is a list of numbers, four bools, a list of heaps, two numbers and a list of observations that can be read. No conditions. -/
import Derived.Test.YtfeglenlpnhofaaMkPure
import Derived.Test.YtfeglenlpnhofaaOpen
namespace Go.Proofs.Ytfeglenlpnhofaa.Mk
open Go.RowKit Go.ChangeShapes Go.WideShapes Go.Deep Go.Proofs.YtfeglenlpnhofaaW.PrintWords Go.Proofs.Ytfeglenlpnhofaa.Mine

theorem opens122 : Opens Try.prog k122 122 (fun _ => True) :=
  (opens_iso (fun x : S122 => (x.f0, x.f1, x.f2)) (fun y => ⟨y.1, y.2.1, y.2.2⟩) (fun _ => rfl)
    (opens_struct Try.underlying122 (opensF_cons (opens_int Try.underlying33) rfl (by kernel_rfl) (opensF_cons (opens_bool Try.underlying4) rfl (by kernel_rfl) (opensF_last (opens_slice Try.underlying30 (opens_int Try.underlying5) (by kernel_rfl)) rfl (by kernel_rfl)))) (by kernel_rfl)) : Opens Try.prog k122 122 _).imp (fun _ _ => trivial)
theorem opens125 : Opens Try.prog k125 125 (fun _ => True) :=
  (opens_iso (fun x : S125 => (x.f0, x.f1)) (fun y => ⟨y.1, y.2⟩) (fun _ => rfl)
    (opens_struct Try.underlying125 (opensF_cons (opens_int Try.underlying2) rfl (by kernel_rfl) (opensF_last (opens_int Try.underlying33) rfl (by kernel_rfl))) (by kernel_rfl)) : Opens Try.prog k125 125 _).imp (fun _ _ => trivial)
abbrev kM : Kd (List Int × Bool × Bool × Bool × Bool × List S122 × Int × Int × List S125) := Kd.pair (Kd.slice 33 (Kd.int .u64)) (Kd.pair Kd.bool (Kd.pair Kd.bool (Kd.pair Kd.bool (Kd.pair Kd.bool (Kd.pair (Kd.slice 122 k122) (Kd.pair (Kd.int .i64) (Kd.pair (Kd.int .i64) (Kd.slice 125 k125))))))))
theorem opens69 : Opens Try.prog kM 69 (fun _ => True) :=
  (opens_struct Try.underlying69 (opensF_cons (opens_slice Try.underlying37 (opens_int Try.underlying33) (by kernel_rfl)) rfl (by kernel_rfl) (opensF_cons (opens_bool Try.underlying4) rfl (by kernel_rfl) (opensF_cons (opens_bool Try.underlying4) rfl (by kernel_rfl) (opensF_cons (opens_bool Try.underlying4) rfl (by kernel_rfl) (opensF_cons (opens_bool Try.underlying4) rfl (by kernel_rfl) (opensF_cons (opens_slice Try.underlying66 opens122 (by kernel_rfl)) rfl (by kernel_rfl) (opensF_cons (opens_int Try.underlying2) rfl (by kernel_rfl) (opensF_cons (opens_int Try.underlying2) rfl (by kernel_rfl) (opensF_last (opens_slice Try.underlying67 opens125 (by kernel_rfl)) rfl (by kernel_rfl)))))))))) (by kernel_rfl) : Opens Try.prog kM 69 _).imp (fun _ _ => trivial)
theorem machcells {w : World} {s : List Int × Bool × Bool × Bool × Bool × List S122 × Int × Int × List S125} {cs : List Value} (h : kM.K w s cs) :
    ∃ A0 c0 A5 c5 A8 c8, cs = [.slice A0 s.1.length c0, .bool s.2.1, .bool s.2.2.1, .bool s.2.2.2.1, .bool s.2.2.2.2.1, .slice A5 s.2.2.2.2.2.1.length c5, .int .i64 s.2.2.2.2.2.2.1, .int .i64 s.2.2.2.2.2.2.2.1, .slice A8 s.2.2.2.2.2.2.2.2.length c8] ∧ s.1.length ≤ c0 ∧ Kd.C (Kd.int .u64) w A0 s.1.length s.1 ∧ s.2.2.2.2.2.1.length ≤ c5 ∧ Kd.C k122 w A5 s.2.2.2.2.2.1.length s.2.2.2.2.2.1 ∧ s.2.2.2.2.2.2.2.2.length ≤ c8 ∧ Kd.C k125 w A8 s.2.2.2.2.2.2.2.2.length s.2.2.2.2.2.2.2.2 := by
  obtain ⟨_, _, rfl, ⟨A0, c0, rfl, h0, k0⟩, _, _, rfl, rfl, _, _, rfl, rfl, _, _, rfl, rfl, _, _, rfl, rfl, _, _, rfl, ⟨A5, c5, rfl, h5, k5⟩, _, _, rfl, rfl, _, _, rfl, rfl, A8, c8, rfl, h8, k8⟩ := h
  exact ⟨A0, c0, A5, c5, A8, c8, rfl, h0, k0, h5, k5, h8, k8⟩
theorem small122 {w : World} {A : Option Addr} {n : Nat} {xs : List S122} (h : Kd.C k122 w A n xs) : ∀ x ∈ xs, x.f2.length ≤ 9223372036854775807 := by
  intro x hx
  obtain ⟨i, hi⟩ := List.getElem?_of_mem hx
  have hl : i < xs.length := (List.getElem?_eq_some_iff.1 hi).1
  obtain ⟨hn, hm, hp⟩ := h
  obtain ⟨ad, rfl, hq⟩ := hp (by omega)
  obtain ⟨c, hc, hk, _⟩ := hq i x hi
  obtain ⟨A2, c2, _, _, g2⟩ := k122_open hk
  exact g2.2.1
end Go.Proofs.Ytfeglenlpnhofaa.Mk
