/- An argument of the type Sig is two slices of structs that can be read. No conditions. -/
import Derived.Test.YtfeglenlpnhofaaMk0
import Derived.Test.YtfeglenlpnhofaaOpen
namespace Go.Proofs.Ytfeglenlpnhofaa.Mk
open Go.RowKit Go.ChangeShapes Go.WideShapes Go.Deep Go.Proofs.YtfeglenlpnhofaaW.PrintWords Go.Proofs.Ytfeglenlpnhofaa.Mine

theorem opens24 : Opens Try.prog k24 24 (fun x => (Lit.int .i64 x.f0).wf = true ∧ True ∧ (Lit.int .i64 x.f2).wf = true ∧ (Lit.int .i64 x.f3).wf = true ∧ (Lit.int .i64 x.f4).wf = true ∧ (Lit.int .i64 x.f5).wf = true) :=
  (opens_iso (fun x : S24 => (x.f0, x.f1, x.f2, x.f3, x.f4, x.f5)) (fun y => ⟨y.1, y.2.1, y.2.2.1, y.2.2.2.1, y.2.2.2.2.1, y.2.2.2.2.2⟩) (fun _ => rfl)
    (opens_struct Try.underlying24 (opensF_cons (opens_int Try.underlying2) rfl (by kernel_rfl) (opensF_cons (opens_bool Try.underlying4) rfl (by kernel_rfl) (opensF_cons (opens_int Try.underlying2) rfl (by kernel_rfl) (opensF_cons (opens_int Try.underlying2) rfl (by kernel_rfl) (opensF_cons (opens_int Try.underlying2) rfl (by kernel_rfl) (opensF_last (opens_int Try.underlying2) rfl (by kernel_rfl))))))) (by kernel_rfl)) : Opens Try.prog k24 24 _).imp (fun _ h => h)
theorem opens118 : Opens Try.prog k118 118 (fun x => (Lit.int .i64 x.f0).wf = true ∧ True ∧ True) :=
  (opens_iso (fun x : S118 => (x.f0, x.f1, x.f2)) (fun y => ⟨y.1, y.2.1, y.2.2⟩) (fun _ => rfl)
    (opens_struct Try.underlying118 (opensF_cons (opens_int Try.underlying2) rfl (by kernel_rfl) (opensF_cons (opens_bool Try.underlying4) rfl (by kernel_rfl) (opensF_last (opens_bool Try.underlying4) rfl (by kernel_rfl)))) (by kernel_rfl)) : Opens Try.prog k118 118 _).imp (fun _ h => h)
theorem opens47 : Opens Try.prog (Kd.pair (Kd.slice 118 k118) (Kd.slice 24 k24)) 47 (fun _ => True) :=
  (opens_struct Try.underlying47 (opensF_cons (opens_slice Try.underlying44 opens118 (by kernel_rfl)) rfl (by kernel_rfl) (opensF_last (opens_slice Try.underlying45 opens24 (by kernel_rfl)) rfl (by kernel_rfl))) (by kernel_rfl) : Opens Try.prog (Kd.pair (Kd.slice 118 k118) (Kd.slice 24 k24)) 47 _).imp (fun _ _ => trivial)
theorem sigcells {w : World} {s : List S118 × List S24} {cs : List Value} (h : (Kd.pair (Kd.slice 118 k118) (Kd.slice 24 k24)).K w s cs) : ∃ A0 c0 A1 c1, cs = [.slice A0 s.1.length c0, .slice A1 s.2.length c1] ∧ s.1.length ≤ c0 ∧ Kd.C k118 w A0 s.1.length s.1 ∧ s.2.length ≤ c1 ∧ Kd.C k24 w A1 s.2.length s.2 := by
  obtain ⟨_, _, rfl, ⟨A0, c0, rfl, h0, k0⟩, A1, c1, rfl, h1, k1⟩ := h
  exact ⟨A0, c0, A1, c1, rfl, h0, k0, h1, k1⟩
theorem C_small {α : Type} {d : Kd α} {w : World} {A : Option Addr} {n : Nat} {xs : List α} (h : Kd.C d w A n xs) : n ≤ 9223372036854775807 := h.2.1
end Go.Proofs.Ytfeglenlpnhofaa.Mk
