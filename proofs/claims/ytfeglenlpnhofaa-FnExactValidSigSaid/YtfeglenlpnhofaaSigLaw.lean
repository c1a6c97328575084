/- The law FnExactValidSig returns true at every Sig that can be read. No conditions. -/
import Derived.Test.YtfeglenlpnhofaaSigPure
namespace Go.Proofs.Ytfeglenlpnhofaa.PFnExactValidSig
open Go.RowKit Go.Proofs.YtfeglenlpnhofaaW.PrintWords Go.Proofs.YtfeglenlpnhofaaW.PrintLast Go.Proofs.YtfeglenlpnhofaaW.PrintMore Go.Proofs.Ytfeglenlpnhofaa.Mine

theorem law_true (hs : List S118) (rs : List S24) (h0 : hs.length ≤ 9223372036854775807) (h1 : rs.length ≤ 9223372036854775807) : ∃ k, laws_FnExactValidSig.f k hs rs = some true := by
  refine ⟨hs.length + rs.length + 19, ?_⟩
  unfold laws_FnExactValidSig.f
  rw [szSig_is hs rs h0 h1 1048576 (by omega), Option.bind_some]
  by_cases c : hs.length + rs.length ≤ (1048576 : Int).toNat
  · have c' : hs.length + rs.length ≤ 1048576 := by simpa using c
    rw [if_pos c, if_neg (by omega), toSig_is hs rs (by omega) (by omega) _ (by omega) (by omega)]
    simp only [Option.bind_some]
    rw [spec_sig _ _ _ (by omega), Option.bind_some, impl_sig _ _ (by simpa using (by omega : hs.length ≤ 1048576)) (by simpa using (by omega : rs.length ≤ 1048576)) _ (by simp only [List.length_map]; omega), Option.bind_some, if_neg (by simp),
      eqSig_same _ _ (by simpa using (by omega : hs.length ≤ 1048576)) (by simpa using (by omega : rs.length ≤ 1048576)) _ (by simp only [List.length_map]; omega) (by simp only [List.length_map]; omega), Option.bind_some, if_pos rfl]
  · rw [if_neg c, if_pos (by omega)]
theorem law_calls (A0 : Option Addr) (c0 : Nat) (hs : List S118) (A1 : Option Addr) (c1 : Nat) (rs : List S24) (w : World) (h0 : Kd.C k118 w A0 hs.length hs) (k0 : hs.length ≤ c0) (h1 : Kd.C k24 w A1 rs.length rs) (k1 : rs.length ≤ c1) :
    Calls Try.prog 6 #[.agg #[.slice A0 hs.length c0, .slice A1 rs.length c1]] w fun e w' => e = .returned (.bool true) ∧ Below w.heap.size w w' := by
  obtain ⟨k, hk⟩ := law_true hs rs h0.2.1 h1.2.1
  exact laws_FnExactValidSig.calls k A0 c0 hs A1 c1 rs true w h0 k0 h1 k1 hk
end Go.Proofs.Ytfeglenlpnhofaa.PFnExactValidSig
