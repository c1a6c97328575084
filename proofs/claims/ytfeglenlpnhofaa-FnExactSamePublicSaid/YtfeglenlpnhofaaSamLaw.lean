/- The law FnExactSamePublic returns true at every Sig and every two Machs that can be read. No conditions. -/
import Derived.Test.YtfeglenlpnhofaaFitsParts
import Derived.Test.YtfeglenlpnhofaaSamSpec
import Derived.Test.YtfeglenlpnhofaaSamImpl
import Derived.Test.YtfeglenlpnhofaaSamWalk
namespace Go.Proofs.Ytfeglenlpnhofaa.Mk
open Go.RowKit Go.ChangeShapes Go.WideShapes Go.Deep Go.Proofs.YtfeglenlpnhofaaW.PrintWords Go.Proofs.YtfeglenlpnhofaaW.PrintLast Go.Proofs.YtfeglenlpnhofaaW.PrintMore Go.Proofs.Ytfeglenlpnhofaa.Mine

theorem fits_parts {hs : List S89} {rs : List S25} {xs : List Int} {z c hz hc : Bool} {ms : List S35} {pc st : Int} {os : List S102} (h : fitsG hs rs xs z c hz hc ms pc st os = true) : rs.length = 8 ∧ xs.length = 8 ∧ ms.length = hs.length := by
  unfold fitsG sameH at h
  simp only [Bool.and_eq_true, decide_eq_true_eq] at h
  exact ⟨(regs_good (sig_good h.1).2).1, mach_regs h.2.1, h.2.2.2.2.2.2.2.1.1.symm⟩
/-- Two machines fit a Sig and are the same in public. -/
def samG (hs : List S89) (rs : List S25) (B1 B2 : Bool) (xs ys : List Int) (ms ns : List S35) : Bool := B1 && (B2 && (allFrom (regEq rs xs ys) 8 0 && allFrom (heapEq hs ms ns) hs.length 0))

section
variable (hs : List S89) (rs : List S25) (xs ys : List Int) (z c hz hc z' c' hz' hc' : Bool) (ms ns : List S35) (pc st pc' st' : Int) (os ps : List S102) (n00 n01 n0 n5 n8 m0 m5 m8 : Nat) (s0 s1 a0 a5 a8 b0 b5 b8 : Option Addr) (e0 e1 c0 c5 c8 d0 d5 d8 : Nat)
/-- What is known of the lists in memory. -/
def Rd (w : World) : Prop := (Kd.C k89 w s0 n00 hs ∧ Kd.C k25 w s1 n01 rs) ∧ (Kd.C (Kd.int .u64) w a0 n0 xs ∧ Kd.C k35 w a5 n5 ms ∧ Kd.C k102 w a8 n8 os) ∧ (Kd.C (Kd.int .u64) w b0 m0 ys ∧ Kd.C k35 w b5 m5 ns ∧ Kd.C k102 w b8 m8 ps)
theorem Rd.below (w w' : World) (hb : Below w.heap.size w w') (h : Rd hs rs xs ys ms ns os ps n00 n01 n0 n5 n8 m0 m5 m8 s0 s1 a0 a5 a8 b0 b5 b8 w) : Rd hs rs xs ys ms ns os ps n00 n01 n0 n5 n8 m0 m5 m8 s0 s1 a0 a5 a8 b0 b5 b8 w' :=
  ⟨⟨Kd.C_below h.1.1 hb, Kd.C_below h.1.2 hb⟩, ⟨Kd.C_below h.2.1.1 hb, Kd.C_below h.2.1.2.1 hb, Kd.C_below h.2.1.2.2 hb⟩, Kd.C_below h.2.2.1 hb, Kd.C_below h.2.2.2.1 hb, Kd.C_below h.2.2.2.2 hb⟩
theorem spec_sam (i00 : n00 = hs.length) (i01 : n01 = rs.length) (i0 : n0 = xs.length) (i5 : n5 = ms.length) (i8 : n8 = os.length) (j0 : m0 = ys.length) (j5 : m5 = ns.length) (j8 : m8 = ps.length) (k0 : n00 ≤ e0) (k1 : n01 ≤ e1) (l0 : n0 ≤ c0) (l5 : n5 ≤ c5) (l8 : n8 ≤ c8) (o0 : m0 ≤ d0) (o5 : m5 ≤ d5) (o8 : m8 ≤ d8) (w : World) (h : Rd hs rs xs ys ms ns os ps n00 n01 n0 n5 n8 m0 m5 m8 s0 s1 a0 a5 a8 b0 b5 b8 w) :
    Calls Try.prog 35 #[.agg #[.slice s0 n00 e0, .slice s1 n01 e1], .agg #[.slice a0 n0 c0, .bool z, .bool c, .bool hz, .bool hc, .slice a5 n5 c5, .int .i64 pc, .int .i64 st, .slice a8 n8 c8], .agg #[.slice b0 m0 d0, .bool z', .bool c', .bool hz', .bool hc', .slice b5 m5 d5, .int .i64 pc', .int .i64 st', .slice b8 m8 d8]] w
      fun e w' => e = .returned (.bool (samG hs rs (fitsG hs rs xs z c hz hc ms pc st os) (fitsG hs rs ys z' c' hz' hc' ns pc' st' ps) xs ys ms ns)) ∧ Below w.heap.size w w' := by
  refine sam_spec hs rs xs ys ms ns n00 n01 n0 n5 n8 m0 m5 m8 z c hz hc z' c' hz' hc' pc st pc' st' s0 s1 a0 a5 a8 b0 b5 b8 e0 e1 c0 c5 c8 d0 d5 d8 (fitsG hs rs xs z c hz hc ms pc st os) (fitsG hs rs ys z' c' hz' hc' ns pc' st' ps) _
    (Rd hs rs xs ys ms ns os ps n00 n01 n0 n5 n8 m0 m5 m8 s0 s1 a0 a5 a8 b0 b5 b8) i00 i01 i0 i5 j0 j5 k0 k1 l0 l5 o0 o5 (Rd.below hs rs xs ys ms ns os ps n00 n01 n0 n5 n8 m0 m5 m8 s0 s1 a0 a5 a8 b0 b5 b8)
    (fun w h => ⟨h.1.1, h.1.2, h.2.1.1, h.2.1.2.1, h.2.2.1, h.2.2.2.1⟩) ?_ ?_ ?_ ?_ w h
  · unfold samG; rw [i00]
  · exact fun w h => spec_fits hs rs xs z c hz hc ms pc st os n00 n01 n0 n5 n8 s0 s1 a0 a5 a8 e0 e1 c0 c5 c8 i00 i01 i0 i5 i8 w ⟨⟨h.1.1, k0⟩, h.1.2, k1⟩ ⟨⟨h.2.1.1, l0⟩, ⟨h.2.1.2.1, l5⟩, h.2.1.2.2, l8⟩
  · exact fun w h => spec_fits hs rs ys z' c' hz' hc' ns pc' st' ps n00 n01 m0 m5 m8 s0 s1 b0 b5 b8 e0 e1 d0 d5 d8 i00 i01 j0 j5 j8 w ⟨⟨h.1.1, k0⟩, h.1.2, k1⟩ ⟨⟨h.2.2.1, o0⟩, ⟨h.2.2.2.1, o5⟩, h.2.2.2.2, o8⟩
  · intro h1 h2
    have p := fits_parts h1
    have p' := fits_parts h2
    omega
theorem impl_sam (i00 : n00 = hs.length) (i01 : n01 = rs.length) (i0 : n0 = xs.length) (i5 : n5 = ms.length) (i8 : n8 = os.length) (j0 : m0 = ys.length) (j5 : m5 = ns.length) (j8 : m8 = ps.length) (k0 : n00 ≤ e0) (k1 : n01 ≤ e1) (l0 : n0 ≤ c0) (l5 : n5 ≤ c5) (l8 : n8 ≤ c8) (o0 : m0 ≤ d0) (o5 : m5 ≤ d5) (o8 : m8 ≤ d8) (t0 : hs.length ≤ 1048576) (t1 : rs.length ≤ 1048576) (w : World) (h : Rd hs rs xs ys ms ns os ps n00 n01 n0 n5 n8 m0 m5 m8 s0 s1 a0 a5 a8 b0 b5 b8 w) :
    Calls Try.prog 36 #[.agg #[.slice s0 n00 e0, .slice s1 n01 e1], .agg #[.slice a0 n0 c0, .bool z, .bool c, .bool hz, .bool hc, .slice a5 n5 c5, .int .i64 pc, .int .i64 st, .slice a8 n8 c8], .agg #[.slice b0 m0 d0, .bool z', .bool c', .bool hz', .bool hc', .slice b5 m5 d5, .int .i64 pc', .int .i64 st', .slice b8 m8 d8]] w
      fun e w' => e = .returned (.bool (samG hs rs (fitsG hs rs xs z c hz hc ms pc st os) (fitsG hs rs ys z' c' hz' hc' ns pc' st' ps) xs ys ms ns)) ∧ Below w.heap.size w w' := by
  refine sam_impl hs rs xs ys ms ns n00 n01 n0 n5 n8 m0 m5 m8 z c hz hc z' c' hz' hc' pc st pc' st' s0 s1 a0 a5 a8 b0 b5 b8 e0 e1 c0 c5 c8 d0 d5 d8 (fitsG hs rs xs z c hz hc ms pc st os) (fitsG hs rs ys z' c' hz' hc' ns pc' st' ps) _
    (Rd hs rs xs ys ms ns os ps n00 n01 n0 n5 n8 m0 m5 m8 s0 s1 a0 a5 a8 b0 b5 b8) i00 i01 i0 i5 j0 j5 k0 k1 l0 l5 o0 o5 (Rd.below hs rs xs ys ms ns os ps n00 n01 n0 n5 n8 m0 m5 m8 s0 s1 a0 a5 a8 b0 b5 b8)
    (fun w h => ⟨h.1.1, h.1.2, h.2.1.1, h.2.1.2.1, h.2.2.1, h.2.2.2.1⟩) ?_ ?_ ?_ ?_ ?_ w h
  · unfold samG; rw [i00, Bool.and_comm (allFrom (heapEq hs ms ns) hs.length 0)]
  · exact fun w h => fits_impl hs rs xs z c hz hc ms pc st os n00 n01 n0 n5 n8 s0 s1 a0 a5 a8 e0 e1 c0 c5 c8 i00 i01 i0 i5 i8 t0 t1 w ⟨⟨h.1.1, k0⟩, h.1.2, k1⟩ ⟨⟨h.2.1.1, l0⟩, ⟨h.2.1.2.1, l5⟩, h.2.1.2.2, l8⟩
  · exact fun w h => fits_impl hs rs ys z' c' hz' hc' ns pc' st' ps n00 n01 m0 m5 m8 s0 s1 b0 b5 b8 e0 e1 d0 d5 d8 i00 i01 j0 j5 j8 t0 t1 w ⟨⟨h.1.1, k0⟩, h.1.2, k1⟩ ⟨⟨h.2.2.1, o0⟩, ⟨h.2.2.2.1, o5⟩, h.2.2.2.2, o8⟩
  · intro xs ys n m A B c d w hn hm hc hd h h'
    subst hn hm
    exact (bytes_Equal.calls A c xs B d ys _ w h hc h' hd rfl).mono fun _ _ x => ⟨x.1, x.2.out⟩
  · intro h1 h2
    have p := fits_parts h1
    have p' := fits_parts h2
    omega
end

theorem sam_law (S0 : Option Addr) (e0 : Nat) (hs : List S118) (S1 : Option Addr) (e1 : Nat) (rs : List S24) (A0 : Option Addr) (c0 : Nat) (xs : List Int) (z c hz hc : Bool) (A5 : Option Addr) (c5 : Nat) (ms : List S122) (pc st : Int) (A8 : Option Addr) (c8 : Nat) (os : List S125) (D0 : Option Addr) (d0 : Nat) (ys : List Int) (z' c' hz' hc' : Bool) (D5 : Option Addr) (d5 : Nat) (ns : List S122) (pc' st' : Int) (D8 : Option Addr) (d8 : Nat) (ps : List S125) (w : World)
    (h0 : Kd.C k118 w S0 hs.length hs) (k0 : hs.length ≤ e0) (h1 : Kd.C k24 w S1 rs.length rs) (k1 : rs.length ≤ e1) (g0 : Kd.C (Kd.int .u64) w A0 xs.length xs) (l0 : xs.length ≤ c0) (g5 : Kd.C k122 w A5 ms.length ms) (l5 : ms.length ≤ c5) (g8 : Kd.C k125 w A8 os.length os) (l8 : os.length ≤ c8) (f0 : Kd.C (Kd.int .u64) w D0 ys.length ys) (o0 : ys.length ≤ d0) (f5 : Kd.C k122 w D5 ns.length ns) (o5 : ns.length ≤ d5) (f8 : Kd.C k125 w D8 ps.length ps) (o8 : ps.length ≤ d8) :
    Calls Try.prog 10 #[.agg #[.slice S0 hs.length e0, .slice S1 rs.length e1], .agg #[.slice A0 xs.length c0, .bool z, .bool c, .bool hz, .bool hc, .slice A5 ms.length c5, .int .i64 pc, .int .i64 st, .slice A8 os.length c8], .agg #[.slice D0 ys.length d0, .bool z', .bool c', .bool hz', .bool hc', .slice D5 ns.length d5, .int .i64 pc', .int .i64 st', .slice D8 ps.length d8]] w fun e w' => e = .returned (.bool true) ∧ Below w.heap.size w w' := by
  have hsz0 := szSig_is hs rs h0.2.1 h1.2.1 1048576 (by omega)
  have cz0 : ∀ (l : Int), laws_szSig.f hs rs 1048576 = some l → ∀ w : World, AS hs rs S0 S1 w → Calls Try.prog 18 #[.agg #[.slice S0 hs.length e0, .slice S1 rs.length e1], .int .i64 1048576] w fun e w' => e = .returned (.int .i64 l) ∧ Below w.heap.size w w' :=
    fun l hl w h => laws_szSig.calls S0 e0 hs S1 e1 rs 1048576 l w h.1 k0 h.2 k1 hl
  have cz1 : ∀ (k : Nat) (left l : Int), laws_szMach.f k xs z c hz hc ms pc st os left = some l → ∀ w : World, AM xs ms os A0 A5 A8 w → Calls Try.prog 28 #[.agg #[.slice A0 xs.length c0, .bool z, .bool c, .bool hz, .bool hc, .slice A5 ms.length c5, .int .i64 pc, .int .i64 st, .slice A8 os.length c8], .int .i64 left] w fun e w' => e = .returned (.int .i64 l) ∧ Below w.heap.size w w' :=
    fun k left l hl w h => laws_szMach.calls k A0 c0 xs z c hz hc A5 c5 ms pc st A8 c8 os left l w h.1 l0 h.2.1 l5 h.2.2 l8 hl
  have cz2 : ∀ (k : Nat) (left l : Int), laws_szMach.f k ys z' c' hz' hc' ns pc' st' ps left = some l → ∀ w : World, AM ys ns ps D0 D5 D8 w → Calls Try.prog 28 #[.agg #[.slice D0 ys.length d0, .bool z', .bool c', .bool hz', .bool hc', .slice D5 ns.length d5, .int .i64 pc', .int .i64 st', .slice D8 ps.length d8], .int .i64 left] w fun e w' => e = .returned (.int .i64 l) ∧ Below w.heap.size w w' :=
    fun k left l hl w h => laws_szMach.calls k D0 d0 ys z' c' hz' hc' D5 d5 ns pc' st' D8 d8 ps left l w h.1 o0 h.2.1 o5 h.2.2 o8 hl
  by_cases q0 : hs.length + rs.length ≤ (1048576 : Int).toNat
  · rw [if_pos q0] at hsz0
    have q0' : hs.length + rs.length ≤ 1048576 := by simpa using q0
    obtain ⟨k, r, hsz1, hr1, hsm⟩ := szMach_is xs z c hz hc ms pc st os g0.2.1 g5.2.1 (small122 g5) g8.2.1 (1048576 - hs.length - rs.length) (by omega)
    by_cases q1 : r < 0
    · exact samep_out1 hs.length rs.length xs.length z c hz hc ms.length pc st os.length ys.length z' c' hz' hc' ns.length pc' st' ps.length _ r S0 e0 S1 e1 A0 c0 A5 c5 A8 c8 D0 d0 D5 d5 D8 d8 _ _ (AM ys ns ps D0 D5 D8) AS.below (cz0 _ hsz0) AM.below (cz1 k _ _ hsz1) AM.below w ⟨h0, h1⟩ ⟨g0, g5, g8⟩ ⟨f0, f5, f8⟩ (by omega) q1
    · have s := hsm (by omega)
      obtain ⟨k', r', hsz2, _, hsn⟩ := szMach_is ys z' c' hz' hc' ns pc' st' ps f0.2.1 f5.2.1 (small122 f5) f8.2.1 r (by omega)
      by_cases q2 : r' < 0
      · exact samep_out2 hs.length rs.length xs.length z c hz hc ms.length pc st os.length ys.length z' c' hz' hc' ns.length pc' st' ps.length _ r r' S0 e0 S1 e1 A0 c0 A5 c5 A8 c8 D0 d0 D5 d5 D8 d8 _ _ _ AS.below (cz0 _ hsz0) AM.below (cz1 k _ _ hsz1) AM.below (cz2 k' _ _ hsz2) w ⟨h0, h1⟩ ⟨g0, g5, g8⟩ ⟨f0, f5, f8⟩ (by omega) (by omega) q2
      · have s' := hsn (by omega)
        refine samep_main hs.length rs.length xs.length z c hz hc ms.length pc st os.length ys.length z' c' hz' hc' ns.length pc' st' ps.length
          (samG (hs.map c118) (rs.map c24) (fitsG (hs.map c118) (rs.map c24) xs z c hz hc (ms.map c122) pc st (os.map c125)) (fitsG (hs.map c118) (rs.map c24) ys z' c' hz' hc' (ns.map c122) pc' st' (ps.map c125)) xs ys (ms.map c122) (ns.map c122)) _ r r' S0 e0 S1 e1 A0 c0 A5 c5 A8 c8 D0 d0 D5 d5 D8 d8
          (AS hs rs S0 S1) (AM xs ms os A0 A5 A8) (AM ys ns ps D0 D5 D8) (RS hs rs) (RM xs ms os) (RM ys ns ps)
          AS.below RS.below (cz0 _ hsz0) (toSig_calls k0 k1 (by omega) (by omega)) eqSig_calls AM.below RM.below (cz1 k _ _ hsz1) (toMach_calls l0 l5 l8 s) eqM_calls AM.below RM.below (cz2 k' _ _ hsz2) (toMach_calls o0 o5 o8 s') eqM_calls ?_ ?_ w ⟨h0, h1⟩ ⟨g0, g5, g8⟩ ⟨f0, f5, f8⟩ (by omega) (by omega) (by omega)
        · intro w p00 d00 p01 d01 p10 d10 p15 d15 p18 d18 p20 d20 p25 d25 p28 d28 h h' h''
          exact spec_sam (hs.map c118) (rs.map c24) xs ys z c hz hc z' c' hz' hc' (ms.map c122) (ns.map c122) pc st pc' st' (os.map c125) (ps.map c125) hs.length rs.length xs.length ms.length os.length ys.length ns.length ps.length p00 p01 p10 p15 p18 p20 p25 p28 d00 d01 d10 d15 d18 d20 d25 d28
            (by simp) (by simp) rfl (by simp) (by simp) rfl (by simp) (by simp) h.1.2 h.2.2 h'.1.2 h'.2.1.2 h'.2.2.2 h''.1.2 h''.2.1.2 h''.2.2.2 w ⟨⟨h.1.1, h.2.1⟩, ⟨h'.1.1, h'.2.1.1, h'.2.2.1⟩, h''.1.1, h''.2.1.1, h''.2.2.1⟩
        · intro w p00 d00 p01 d01 p10 d10 p15 d15 p18 d18 p20 d20 p25 d25 p28 d28 h h' h''
          exact impl_sam (hs.map c118) (rs.map c24) xs ys z c hz hc z' c' hz' hc' (ms.map c122) (ns.map c122) pc st pc' st' (os.map c125) (ps.map c125) hs.length rs.length xs.length ms.length os.length ys.length ns.length ps.length p00 p01 p10 p15 p18 p20 p25 p28 d00 d01 d10 d15 d18 d20 d25 d28
            (by simp) (by simp) rfl (by simp) (by simp) rfl (by simp) (by simp) h.1.2 h.2.2 h'.1.2 h'.2.1.2 h'.2.2.2 h''.1.2 h''.2.1.2 h''.2.2.2 (by simp; omega) (by simp; omega) w ⟨⟨h.1.1, h.2.1⟩, ⟨h'.1.1, h'.2.1.1, h'.2.2.1⟩, h''.1.1, h''.2.1.1, h''.2.2.1⟩
  · rw [if_neg q0] at hsz0
    exact samep_out0 hs.length rs.length xs.length z c hz hc ms.length pc st os.length ys.length z' c' hz' hc' ns.length pc' st' ps.length _ S0 e0 S1 e1 A0 c0 A5 c5 A8 c8 D0 d0 D5 d5 D8 d8 _ (AM xs ms os A0 A5 A8) (AM ys ns ps D0 D5 D8) AS.below (cz0 _ hsz0) AM.below AM.below w ⟨h0, h1⟩ ⟨g0, g5, g8⟩ ⟨f0, f5, f8⟩ (by omega)
end Go.Proofs.Ytfeglenlpnhofaa.Mk
