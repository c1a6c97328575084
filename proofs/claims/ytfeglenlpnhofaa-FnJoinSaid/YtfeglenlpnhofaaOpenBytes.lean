/- An argument of the type slice of bytes is a list of numbers that can be read. No conditions. -/
import Derived.Test.YtfeglenlpnhofaaOpen
namespace Go.Proofs.Ytfeglenlpnhofaa.Mine
open Go.RowKit Go.ChangeShapes Go.WideShapes Go.Deep Go.Proofs.YtfeglenlpnhofaaW.PrintWords

/-- An argument of a slice type: the value is written out of what it is. -/
theorem open_cell {P : Program} {α : Type} {d : Kd α} {t e q : TypeId} {g : List α → Prop} (ht : P.underlying t = some (.slice e)) (h : Opens P (Kd.slice q d) t g) {H : Type} {enc : TypeId × Value → H} {w : World} {spare : Nat → Bool} {held : Bool} {r : Reach} {b0 : Nat} {v : Value} {y : DataW H} {p : List MemPlace}
    (hv : Value.okWide P w r b0 t v) (hx : DataW.Trod enc P w 0 spare held t v y p) : ∃ (xs : List α) (A : Option Addr) (c : Nat), v = .slice A xs.length c ∧ xs.length ≤ c ∧ Kd.C d w A xs.length xs := by
  obtain ⟨a, len, cap, rfl⟩ := okWide_slice ht hv
  obtain ⟨fuel, hf⟩ := hx
  obtain ⟨xs, hk, _⟩ := h H enc w spare held fuel _ _ hf
  obtain ⟨A, c, e, hl, hc⟩ := hk
  refine ⟨xs, A, c, ?_, hl, hc⟩
  exact (List.cons.inj e).1
theorem opens30 : Opens Try.prog (Kd.slice 5 (Kd.int .u8)) 30 (fun _ => True) :=
  (opens_slice Try.underlying30 (opens_int Try.underlying5) (by kernel_rfl) : Opens Try.prog (Kd.slice 5 (Kd.int .u8)) 30 _).imp (fun _ _ => trivial)
end Go.Proofs.Ytfeglenlpnhofaa.Mine
