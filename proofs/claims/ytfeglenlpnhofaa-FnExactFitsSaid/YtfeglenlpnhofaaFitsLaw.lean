/- The law FnExactFits returns true at every Sig and Mach that can be read. No conditions. -/
import Derived.Test.YtfeglenlpnhofaaFitsParts
import Derived.Test.YtfeglenlpnhofaaFitsWalk
namespace Go.Proofs.Ytfeglenlpnhofaa.Mk
open Go.RowKit Go.ChangeShapes Go.WideShapes Go.Deep Go.Proofs.YtfeglenlpnhofaaW.PrintWords Go.Proofs.YtfeglenlpnhofaaW.PrintLast Go.Proofs.YtfeglenlpnhofaaW.PrintMore Go.Proofs.Ytfeglenlpnhofaa.Mine

theorem fits_law (S0 : Option Addr) (e0 : Nat) (hs : List S118) (S1 : Option Addr) (e1 : Nat) (rs : List S24) (A0 : Option Addr) (c0 : Nat) (xs : List Int) (z c hz hc : Bool) (A5 : Option Addr) (c5 : Nat) (ms : List S122) (pc st : Int) (A8 : Option Addr) (c8 : Nat) (os : List S125) (w : World)
    (h0 : Kd.C k118 w S0 hs.length hs) (k0 : hs.length ≤ e0) (h1 : Kd.C k24 w S1 rs.length rs) (k1 : rs.length ≤ e1) (g0 : Kd.C (Kd.int .u64) w A0 xs.length xs) (l0 : xs.length ≤ c0) (g5 : Kd.C k122 w A5 ms.length ms) (l5 : ms.length ≤ c5) (g8 : Kd.C k125 w A8 os.length os) (l8 : os.length ≤ c8) :
    Calls Try.prog 9 #[.agg #[.slice S0 hs.length e0, .slice S1 rs.length e1], .agg #[.slice A0 xs.length c0, .bool z, .bool c, .bool hz, .bool hc, .slice A5 ms.length c5, .int .i64 pc, .int .i64 st, .slice A8 os.length c8]] w fun e w' => e = .returned (.bool true) ∧ Below w.heap.size w w' := by
  have hsz0 := szSig_is hs rs h0.2.1 h1.2.1 1048576 (by omega)
  have cz0 : ∀ (l : Int), laws_szSig.f hs rs 1048576 = some l → ∀ w : World, AS hs rs S0 S1 w → Calls Try.prog 18 #[.agg #[.slice S0 hs.length e0, .slice S1 rs.length e1], .int .i64 1048576] w fun e w' => e = .returned (.int .i64 l) ∧ Below w.heap.size w w' :=
    fun l hl w h => laws_szSig.calls S0 e0 hs S1 e1 rs 1048576 l w h.1 k0 h.2 k1 hl
  have cz1 : ∀ (k : Nat) (left l : Int), laws_szMach.f k xs z c hz hc ms pc st os left = some l → ∀ w : World, AM xs ms os A0 A5 A8 w → Calls Try.prog 28 #[.agg #[.slice A0 xs.length c0, .bool z, .bool c, .bool hz, .bool hc, .slice A5 ms.length c5, .int .i64 pc, .int .i64 st, .slice A8 os.length c8], .int .i64 left] w fun e w' => e = .returned (.int .i64 l) ∧ Below w.heap.size w w' :=
    fun k left l hl w h => laws_szMach.calls k A0 c0 xs z c hz hc A5 c5 ms pc st A8 c8 os left l w h.1 l0 h.2.1 l5 h.2.2 l8 hl
  by_cases q0 : hs.length + rs.length ≤ (1048576 : Int).toNat
  · rw [if_pos q0] at hsz0
    have q0' : hs.length + rs.length ≤ 1048576 := by simpa using q0
    obtain ⟨k, r, hsz1, _, hsm⟩ := szMach_is xs z c hz hc ms pc st os g0.2.1 g5.2.1 (small122 g5) g8.2.1 (1048576 - hs.length - rs.length) (by omega)
    by_cases q1 : r < 0
    · exact fits_out1 hs.length rs.length xs.length z c hz hc ms.length pc st os.length _ r S0 e0 S1 e1 A0 c0 A5 c5 A8 c8 _ _ AS.below (cz0 _ hsz0) AM.below (cz1 k _ _ hsz1) w ⟨h0, h1⟩ ⟨g0, g5, g8⟩ (by omega) q1
    · have s := hsm (by omega)
      refine fits_main hs.length rs.length xs.length z c hz hc ms.length pc st os.length (fitsG (hs.map c118) (rs.map c24) xs z c hz hc (ms.map c122) pc st (os.map c125)) _ r S0 e0 S1 e1 A0 c0 A5 c5 A8 c8 (AS hs rs S0 S1) (AM xs ms os A0 A5 A8) (RS hs rs) (RM xs ms os)
        AS.below RS.below (cz0 _ hsz0) (toSig_calls k0 k1 (by omega) (by omega)) eqSig_calls AM.below RM.below (cz1 k _ _ hsz1) (toMach_calls l0 l5 l8 s) eqM_calls ?_ ?_ w ⟨h0, h1⟩ ⟨g0, g5, g8⟩ (by omega) (by omega)
      · intro w p00 d00 p01 d01 p10 d10 p15 d15 p18 d18 h h'
        exact spec_fits (hs.map c118) (rs.map c24) xs z c hz hc (ms.map c122) pc st (os.map c125) hs.length rs.length xs.length ms.length os.length p00 p01 p10 p15 p18 d00 d01 d10 d15 d18 (by simp) (by simp) rfl (by simp) (by simp) w h h'
      · intro w p00 d00 p01 d01 p10 d10 p15 d15 p18 d18 h h'
        exact fits_impl (hs.map c118) (rs.map c24) xs z c hz hc (ms.map c122) pc st (os.map c125) hs.length rs.length xs.length ms.length os.length p00 p01 p10 p15 p18 d00 d01 d10 d15 d18 (by simp) (by simp) rfl (by simp) (by simp) (by simp; omega) (by simp; omega) w h h'
  · rw [if_neg q0] at hsz0
    exact fits_out0 hs.length rs.length xs.length z c hz hc ms.length pc st os.length _ S0 e0 S1 e1 A0 c0 A5 c5 A8 c8 _ _ AS.below (cz0 _ hsz0) AM.below w ⟨h0, h1⟩ ⟨g0, g5, g8⟩ (by omega)
end Go.Proofs.Ytfeglenlpnhofaa.Mk
