/- An argument that can be read as data is of its kind: numbers, bools, structs, slices of structs, slices in structs, opened by their types. No conditions. -/
import Derived.Test.YtfeglenlpnhofaaBase
import Derived.Deep.Slices
import Derived.Deep.Fields
import Derived.ChangeSame
import Derived.Lib.SmallJoins
namespace Go.Proofs.Ytfeglenlpnhofaa.Mine
open Go.RowKit Go.ChangeShapes Go.WideShapes Go.Deep Go.Proofs.YtfeglenlpnhofaaW.PrintWords

/-- Whatever reads as data of type t is of kind d; 'g' is known of it. -/
def Opens (P : Program) {α : Type} (d : Kd α) (t : TypeId) (g : α → Prop) : Prop :=
  ∀ (H : Type) (enc : TypeId × Value → H) (w : World) (spare : Nat → Bool) (held : Bool) (fuel : Nat) (cs : List Value) (x : DataW H × List MemPlace),
    DataW.trod enc P w 0 spare held fuel t cs = some x → ∃ a, d.K w a cs ∧ g a
/-- The same of a struct's fields from an offset on. -/
def OpensF (P : Program) {α : Type} (d : Kd α) (fs : List Field) (off : Nat) (g : α → Prop) : Prop :=
  ∀ (H : Type) (enc : TypeId × Value → H) (w : World) (spare : Nat → Bool) (held : Bool) (fuel : Nat) (cs : List Value), cs.length = off + d.sz →
    (∀ f ∈ fs, ∃ x, DataW.trod enc P w 0 spare held fuel f.type ((cs.drop f.offset).take (P.cellsOf f.type)) = some x) → ∃ a, d.K w a (cs.drop off) ∧ g a

section
variable {P : Program} {α β : Type}
theorem Opens.imp {d : Kd α} {t : TypeId} {g g' : α → Prop} (h : Opens P d t g) (hg : ∀ a, g a → g' a) : Opens P d t g' := by
  intro H enc w spare held fuel cs x hx
  obtain ⟨a, hk, ha⟩ := h H enc w spare held fuel cs x hx
  exact ⟨a, hk, hg a ha⟩
theorem opens_int {k : IntKind} {t : TypeId} (ht : P.underlying t = some (.int k)) : Opens P (Kd.int k) t (fun n => (Lit.int k n).wf = true) := by
  intro H enc w spare held fuel cs x h
  obtain ⟨n, rfl, _, hw⟩ := DataW.trod_int ht h
  exact ⟨n, rfl, hw⟩
theorem opens_bool {t : TypeId} (ht : P.underlying t = some .bool) : Opens P Kd.bool t (fun _ => True) := by
  intro H enc w spare held fuel cs x h
  obtain ⟨b, rfl, _⟩ := DataW.trod_bool ht h
  exact ⟨b, rfl, trivial⟩
theorem opens_iso {d : Kd α} {t : TypeId} {g : α → Prop} (f : β → α) (inv : α → β) (hi : ∀ a, f (inv a) = a) (h : Opens P d t g) : Opens P (Kd.iso d f) t (fun b => g (f b)) := by
  intro H enc w spare held fuel cs x hx
  obtain ⟨a, hk, hg⟩ := h H enc w spare held fuel cs x hx
  refine ⟨inv a, ?_, ?_⟩
  · show d.K w (f (inv a)) cs
    rw [hi]; exact hk
  · show g (f (inv a))
    rw [hi]; exact hg
theorem opensF_last {d : Kd α} {f : Field} {off : Nat} {g : α → Prop} (h : Opens P d f.type g) (ho : f.offset = off) (hs : P.cellsOf f.type = d.sz) : OpensF P d [f] off g := by
  intro H enc w spare held fuel cs hl hf
  obtain ⟨x, hx⟩ := hf f (List.mem_singleton.2 rfl)
  rw [ho, hs, List.take_of_length_le (by rw [List.length_drop]; omega)] at hx
  exact h H enc w spare held fuel _ x hx
theorem opensF_cons {a : Kd α} {b : Kd β} {f : Field} {fs : List Field} {off : Nat} {g : α → Prop} {g' : β → Prop} (h : Opens P a f.type g) (ho : f.offset = off) (hs : P.cellsOf f.type = a.sz) (hr : OpensF P b fs (off + a.sz) g') :
    OpensF P (Kd.pair a b) (f :: fs) off (fun x => g x.1 ∧ g' x.2) := by
  intro H enc w spare held fuel cs hl hf
  have hl' : cs.length = off + (a.sz + b.sz) := hl
  obtain ⟨x, hx⟩ := hf f (List.mem_cons_self ..)
  rw [ho, hs] at hx
  obtain ⟨u, hu, gu⟩ := h H enc w spare held fuel _ x hx
  obtain ⟨v, hv, gv⟩ := hr H enc w spare held fuel cs (by omega) (fun f' hf' => hf f' (List.mem_cons_of_mem _ hf'))
  refine ⟨(u, v), ⟨_, _, ?_, hu, hv⟩, gu, gv⟩
  rw [← List.drop_drop, List.take_append_drop]
theorem opens_struct {d : Kd α} {t : TypeId} {fs : Array Field} {g : α → Prop} (ht : P.underlying t = some (.struct fs)) (h : OpensF P d fs.toList 0 g) (hs : P.cellsOf t = d.sz) : Opens P d t g := by
  intro H enc w spare held fuel cs x hx
  obtain ⟨xs, n, _, _, hlen, hxl, hall⟩ := DataW.trod_struct ht hx
  obtain ⟨a, hk, hg⟩ := h H enc w spare held n cs (by omega) (fun f hf => by
    obtain ⟨i, hi⟩ := List.getElem?_of_mem hf
    have hi' : fs[i]? = some f := by simpa using hi
    have hlt : i < fs.size := (Array.getElem?_eq_some_iff.1 hi').1
    exact ⟨xs[i]'(by omega), (hall i f hi').trans (List.getElem?_eq_getElem (by omega))⟩)
  exact ⟨a, by simpa using hk, hg⟩
theorem opens_slice {d : Kd α} {t e q : TypeId} {g : α → Prop} (ht : P.underlying t = some (.slice e)) (h : Opens P d e g) (hs : P.cellsOf e = d.sz) : Opens P (Kd.slice q d) t (fun xs => ∀ x ∈ xs, g x) := by
  intro H enc w spare held fuel cs x hx
  rcases open_slice ht hx with ⟨rfl, _⟩ | ⟨a, len, cap, m, n, D, Pl, rfl, _, hl, hm, hmm, _, hi⟩
  · exact ⟨[], ⟨none, 0, rfl, Nat.le_refl _, rfl, by simp, fun h0 => absurd h0 (by simp)⟩, by simp⟩
  · have hle : len ≤ m := by rw [hmm]; split <;> omega
    have key : ∀ i : Fin len, ∃ y : α, g y ∧ ∃ c, c.length = d.sz ∧ d.K w y c ∧ ∀ j u, c[j]? = some u → w.cell? (a.add (i.val * d.sz + j)) = some u := by
      intro i
      obtain ⟨cs', hc, ht'⟩ := hi i.val (by omega)
      obtain ⟨y, hk, hg⟩ := h H enc w spare held n cs' _ ht'
      rw [hs] at hc
      obtain ⟨_, hcl, hat⟩ := World.cells?_some hc
      refine ⟨y, hg, cs', hcl, hk, fun j u hj => ?_⟩
      have hjl : j < d.sz := by
        have := (List.getElem?_eq_some_iff.1 hj).1
        omega
      rw [← Go.Deep.add_add, hat j hjl, hj]
    obtain ⟨F, hF⟩ := Classical.axiomOfChoice key
    refine ⟨List.ofFn F, ⟨some a, cap, by simp, by simpa using hl, rfl, ?_, fun _ => ⟨a, rfl, fun j p hp => ?_⟩⟩, fun y hy => ?_⟩
    · simp only [List.length_ofFn]
      unfold maxLen at hm
      omega
    · have hj : j < len := by
        have := (List.getElem?_eq_some_iff.1 hp).1
        simpa using this
      have e : F ⟨j, hj⟩ = p := by simpa [hj] using hp
      obtain ⟨_, c, hc1, hc2, hc3⟩ := hF ⟨j, hj⟩
      exact ⟨c, hc1, e ▸ hc2, hc3⟩
    · obtain ⟨i, rfl⟩ := List.mem_ofFn.1 hy
      exact (hF i).1
/-- An argument of a struct type: the value is written out of what it is. -/
theorem open_agg {d : Kd α} {t : TypeId} {fs : Array Field} {g : α → Prop} (ht : P.underlying t = some (.struct fs)) (h : Opens P d t g) {H : Type} {enc : TypeId × Value → H} {w : World} {spare : Nat → Bool} {held : Bool} {r : Reach} {b0 : Nat} {v : Value} {y : DataW H} {p : List MemPlace}
    (hv : Value.okWide P w r b0 t v) (hx : DataW.Trod enc P w 0 spare held t v y p) : ∃ (a : α) (cs : List Value), v = .agg ⟨cs⟩ ∧ d.K w a cs ∧ g a := by
  obtain ⟨cs, rfl, _⟩ := okWide_struct ht hv
  obtain ⟨fuel, hf⟩ := hx
  obtain ⟨a, hk, hg⟩ := h H enc w spare held fuel _ _ hf
  exact ⟨a, cs.toList, rfl, hk, hg⟩
end
end Go.Proofs.Ytfeglenlpnhofaa.Mine
