/- The callees of the laws over a Sig and machines, each as its law's walk wants it: sizes, copies, comparisons, Fits. -/
import Derived.Test.YtfeglenlpnhofaaMachOpen
import Derived.Test.YtfeglenlpnhofaaMkSigOpen
import Derived.Test.YtfeglenlpnhofaaMkEq
import Derived.Test.YtfeglenlpnhofaaMkSpec
import Derived.Test.YtfeglenlpnhofaaMkImpl
import Derived.Test.YtfeglenlpnhofaaFitsSpec
import Derived.Test.YtfeglenlpnhofaaFitsImpl
namespace Go.Proofs.Ytfeglenlpnhofaa.Mk
open Go.RowKit Go.ChangeShapes Go.WideShapes Go.Deep Go.Proofs.YtfeglenlpnhofaaW.PrintWords Go.Proofs.YtfeglenlpnhofaaW.PrintLast Go.Proofs.YtfeglenlpnhofaaW.PrintMore Go.Proofs.Ytfeglenlpnhofaa.Mine

/-- A Sig's and a machine's lists, as the law's own arguments hold them. -/
def AS (hs : List S118) (rs : List S24) (A0 A1 : Option Addr) (w : World) : Prop := Kd.C k118 w A0 hs.length hs ∧ Kd.C k24 w A1 rs.length rs
def AM (xs : List Int) (ms : List S122) (os : List S125) (A0 A5 A8 : Option Addr) (w : World) : Prop := Kd.C (Kd.int .u64) w A0 xs.length xs ∧ Kd.C k122 w A5 ms.length ms ∧ Kd.C k125 w A8 os.length os
/-- The same of their copies. -/
def RS (hs : List S118) (rs : List S24) (w : World) (p0 : Option Addr) (d0 : Nat) (p1 : Option Addr) (d1 : Nat) : Prop := (Kd.C k89 w p0 hs.length (hs.map c118) ∧ hs.length ≤ d0) ∧ (Kd.C k25 w p1 rs.length (rs.map c24) ∧ rs.length ≤ d1)
def RM (xs : List Int) (ms : List S122) (os : List S125) (w : World) (p0 : Option Addr) (d0 : Nat) (p5 : Option Addr) (d5 : Nat) (p8 : Option Addr) (d8 : Nat) : Prop := (Kd.C (Kd.int .u64) w p0 xs.length xs ∧ xs.length ≤ d0) ∧ (Kd.C k35 w p5 ms.length (ms.map c122) ∧ ms.length ≤ d5) ∧ (Kd.C k102 w p8 os.length (os.map c125) ∧ os.length ≤ d8)
section
variable {hs : List S118} {rs : List S24} {xs : List Int} {ms : List S122} {os : List S125}
theorem AS.below {A0 A1 : Option Addr} (w w' : World) (hb : Below w.heap.size w w') (h : AS hs rs A0 A1 w) : AS hs rs A0 A1 w' := ⟨Kd.C_below h.1 hb, Kd.C_below h.2 hb⟩
theorem AM.below {A0 A5 A8 : Option Addr} (w w' : World) (hb : Below w.heap.size w w') (h : AM xs ms os A0 A5 A8 w) : AM xs ms os A0 A5 A8 w' := ⟨Kd.C_below h.1 hb, Kd.C_below h.2.1 hb, Kd.C_below h.2.2 hb⟩
theorem RS.below (w w' : World) (p0 : Option Addr) (d0 : Nat) (p1 : Option Addr) (d1 : Nat) (hb : Below w.heap.size w w') (h : RS hs rs w p0 d0 p1 d1) : RS hs rs w' p0 d0 p1 d1 := ⟨⟨Kd.C_below h.1.1 hb, h.1.2⟩, ⟨Kd.C_below h.2.1 hb, h.2.2⟩⟩
theorem RM.below (w w' : World) (p0 : Option Addr) (d0 : Nat) (p5 : Option Addr) (d5 : Nat) (p8 : Option Addr) (d8 : Nat) (hb : Below w.heap.size w w') (h : RM xs ms os w p0 d0 p5 d5 p8 d8) : RM xs ms os w' p0 d0 p5 d5 p8 d8 :=
  ⟨⟨Kd.C_below h.1.1 hb, h.1.2⟩, ⟨Kd.C_below h.2.1.1 hb, h.2.1.2⟩, ⟨Kd.C_below h.2.2.1 hb, h.2.2.2⟩⟩
theorem toSig_calls {A0 A1 : Option Addr} {c0 c1 : Nat} (k0 : hs.length ≤ c0) (k1 : rs.length ≤ c1) (h0 : hs.length ≤ 1048576) (h1 : rs.length ≤ 1048576) (w : World) (h : AS hs rs A0 A1 w) :
    Calls Try.prog 20 #[.agg #[.slice A0 hs.length c0, .slice A1 rs.length c1]] w fun e w' => ∃ p0 d0 p1 d1, e = .returned (.agg #[.slice p0 hs.length d0, .slice p1 rs.length d1]) ∧ RS hs rs w' p0 d0 p1 d1 ∧ Below w.heap.size w w' := by
  refine (laws_toSig.calls _ A0 c0 hs A1 c1 rs _ _ w h.1 k0 h.2 k1 (toSig_is hs rs h0 h1 (hs.length + rs.length + 1) (by omega) (by omega))).mono ?_
  rintro e w' ⟨v0, v1, rfl, r0, r1, hb⟩
  obtain ⟨p0, d0, rfl⟩ := Kd.R_slice r0
  obtain ⟨p1, d1, rfl⟩ := Kd.R_slice r1
  obtain ⟨_, s0, t0⟩ := Kd.R_reads' r0
  obtain ⟨_, s1, t1⟩ := Kd.R_reads' r1
  rw [List.length_map] at s0 t0 s1 t1
  exact ⟨p0, d0, p1, d1, by rw [List.length_map, List.length_map], ⟨⟨t0, s0⟩, ⟨t1, s1⟩⟩, hb⟩
theorem eqSig_calls (w : World) (p0 : Option Addr) (d0 : Nat) (p1 : Option Addr) (d1 : Nat) (q0 : Option Addr) (e0 : Nat) (q1 : Option Addr) (e1 : Nat) (h : RS hs rs w p0 d0 p1 d1) (h' : RS hs rs w q0 e0 q1 e1) :
    Calls Try.prog 22 #[.agg #[.slice p0 hs.length d0, .slice p1 rs.length d1], .agg #[.slice q0 hs.length e0, .slice q1 rs.length e1]] w fun e w' => e = .returned (.bool true) ∧ Below w.heap.size w w' := by
  exact sameSig (hs.map c118) (rs.map c24) hs.length rs.length p0 p1 q0 q1 d0 d1 e0 e1 (by simp) (by simp) w h.1.1 h.2.1 h'.1.1 h'.2.1
theorem toMach_calls {z c hz hc : Bool} {pc st : Int} {A0 A5 A8 : Option Addr} {c0 c5 c8 : Nat} (k0 : xs.length ≤ c0) (k5 : ms.length ≤ c5) (k8 : os.length ≤ c8) (s : xs.length ≤ 1048576 ∧ ms.length ≤ 1048576 ∧ (∀ x ∈ ms, x.f2.length ≤ 1048576) ∧ os.length ≤ 1048576) (w : World) (h : AM xs ms os A0 A5 A8 w) :
    Calls Try.prog 30 #[.agg #[.slice A0 xs.length c0, .bool z, .bool c, .bool hz, .bool hc, .slice A5 ms.length c5, .int .i64 pc, .int .i64 st, .slice A8 os.length c8]] w fun e w' => ∃ p0 d0 p5 d5 p8 d8, e = .returned (.agg #[.slice p0 xs.length d0, .bool z, .bool c, .bool hz, .bool hc, .slice p5 ms.length d5, .int .i64 pc, .int .i64 st, .slice p8 os.length d8]) ∧ RM xs ms os w' p0 d0 p5 d5 p8 d8 ∧ Below w.heap.size w w' := by
  refine (laws_toMach.calls 4000000 A0 c0 xs z c hz hc A5 c5 ms pc st A8 c8 os _ _ _ _ _ _ _ _ _ w h.1 k0 h.2.1 k5 h.2.2 k8 (toMach_is xs z c hz hc ms pc st os s.1 s.2.1 s.2.2.1 s.2.2.2)).mono ?_
  rintro e w' ⟨v0, v5, v8, rfl, r0, r5, r8, hb⟩
  obtain ⟨p0, d0, rfl⟩ := Kd.R_slice r0
  obtain ⟨p8, d8, rfl⟩ := Kd.R_slice r8
  obtain ⟨p5, d5, rfl⟩ := Kd.S_slice r5
  obtain ⟨_, u0, t0⟩ := Kd.R_reads' r0
  obtain ⟨_, u8, t8⟩ := Kd.R_reads' r8
  obtain ⟨_, u5, t5⟩ := Kd.S_reads' r5
  rw [List.length_map] at u8 t8 u5 t5
  exact ⟨p0, d0, p5, d5, p8, d8, by rw [List.length_map, List.length_map], ⟨⟨t0, u0⟩, ⟨t5, u5⟩, ⟨t8, u8⟩⟩, hb⟩
theorem eqM_calls {z c hz hc : Bool} {pc st : Int} (w : World) (p0 : Option Addr) (d0 : Nat) (p5 : Option Addr) (d5 : Nat) (p8 : Option Addr) (d8 : Nat) (q0 : Option Addr) (e0 : Nat) (q5 : Option Addr) (e5 : Nat) (q8 : Option Addr) (e8 : Nat)
    (h : RM xs ms os w p0 d0 p5 d5 p8 d8) (h' : RM xs ms os w q0 e0 q5 e5 q8 e8) :
    Calls Try.prog 32 #[.agg #[.slice p0 xs.length d0, .bool z, .bool c, .bool hz, .bool hc, .slice p5 ms.length d5, .int .i64 pc, .int .i64 st, .slice p8 os.length d8], .agg #[.slice q0 xs.length e0, .bool z, .bool c, .bool hz, .bool hc, .slice q5 ms.length e5, .int .i64 pc, .int .i64 st, .slice q8 os.length e8]] w fun e w' => e = .returned (.bool true) ∧ Below w.heap.size w w' := by
  have g := eqMach_calls xs (ms.map c122) (os.map c125) z c hz hc pc st p0 p5 p8 q0 q5 q8 d0 d5 d8 e0 e5 e8 w
  simp only [List.length_map] at g
  exact g h.1.1 h.2.1.1 h.2.2.1 h'.1.1 h'.2.1.1 h'.2.2.1
end

/-- A machine fits a Sig. -/
def fitsG (hs : List S89) (rs : List S25) (xs : List Int) (z c hz hc : Bool) (ms : List S35) (pc st : Int) (os : List S102) : Bool :=
  sigGood hs rs && (machGood xs.length z c hz hc ms pc st os && (decide (st = 0) && (decide (pc = 0) && (decide (os.length = 0) && (!hz && (!hc && (sameH hs ms && allFrom (okR rs xs ms) rs.length 0)))))))
theorem mach_regs {n0 : Nat} {z c hz hc : Bool} {ms : List S35} {pc st : Int} {os : List S102} (h : machGood n0 z c hz hc ms pc st os = true) : n0 = 8 := by
  unfold machGood hdB at h
  simp only [Bool.and_eq_true, decide_eq_true_eq] at h
  have := h.1.1.1.1.1.1.1
  omega
theorem spec_fits (hs : List S89) (rs : List S25) (xs : List Int) (z c hz hc : Bool) (ms : List S35) (pc st : Int) (os : List S102) (n00 n01 n0 n5 n8 : Nat) (s0 s1 a0 a5 a8 : Option Addr) (e0 e1 c0 c5 c8 : Nat) (i00 : n00 = hs.length) (i01 : n01 = rs.length) (i0 : n0 = xs.length) (i5 : n5 = ms.length) (i8 : n8 = os.length)
    (w : World) (h : (Kd.C k89 w s0 n00 hs ∧ n00 ≤ e0) ∧ (Kd.C k25 w s1 n01 rs ∧ n01 ≤ e1)) (h' : (Kd.C (Kd.int .u64) w a0 n0 xs ∧ n0 ≤ c0) ∧ (Kd.C k35 w a5 n5 ms ∧ n5 ≤ c5) ∧ (Kd.C k102 w a8 n8 os ∧ n8 ≤ c8)) :
    Calls Try.prog 33 #[.agg #[.slice s0 n00 e0, .slice s1 n01 e1], .agg #[.slice a0 n0 c0, .bool z, .bool c, .bool hz, .bool hc, .slice a5 n5 c5, .int .i64 pc, .int .i64 st, .slice a8 n8 c8]] w fun e w' => e = .returned (.bool (fitsG hs rs xs z c hz hc ms pc st os)) ∧ Below w.heap.size w w' := by
  subst i00 i01 i0 i5 i8
  obtain ⟨⟨h0, k0⟩, h1, k1⟩ := h
  obtain ⟨⟨g0, l0⟩, ⟨g5, l5⟩, g8, l8⟩ := h'
  refine fits_spec hs.length rs.length xs.length ms.length os.length z c hz hc pc st s0 s1 a0 a5 a8 e0 e1 c0 c5 c8 (sigGood hs rs) (machGood xs.length z c hz hc ms pc st os) (sameH hs ms) (allFrom (okR rs xs ms) rs.length 0) _
    (fun w => (Kd.C k89 w s0 hs.length hs ∧ Kd.C k25 w s1 rs.length rs) ∧ (Kd.C (Kd.int .u64) w a0 xs.length xs ∧ Kd.C k35 w a5 ms.length ms ∧ Kd.C k102 w a8 os.length os))
    (fun w w' hb h => ⟨⟨Kd.C_below h.1.1 hb, Kd.C_below h.1.2 hb⟩, Kd.C_below h.2.1 hb, Kd.C_below h.2.2.1 hb, Kd.C_below h.2.2.2 hb⟩) rfl ?_ ?_ ?_ ?_ w ⟨⟨h0, h1⟩, g0, g5, g8⟩
  · exact fun w h => spec_ValidSig.calls 19 s0 e0 hs s1 e1 rs _ w h.1.1 k0 h.1.2 k1 (spec_sig hs rs 19 (by omega))
  · exact fun w h => spec_mach xs.length z c hz hc ms pc st os a0 a5 a8 c0 c5 c8 w h.2.2.1 h.2.2.2
  · intro hb1 w h
    have hl := (sig_good hb1).1
    exact spec_l4SameHeaps.calls 9 s0 e0 hs s1 e1 rs a0 c0 xs z c hz hc a5 c5 ms pc st a8 c8 os _ w h.1.1 k0 h.1.2 k1 h.2.1 l0 h.2.2.1 l5 h.2.2.2 l8 (spec_same hs rs xs z c hz hc ms pc st os (by omega) 9 (by omega))
  · intro hb1 hb2 hb3 w h
    have hr := regs_good (sig_good hb1).2
    have hx := mach_regs hb2
    have hl : hs.length = ms.length := by
      unfold sameH at hb3
      rw [Bool.and_eq_true] at hb3
      exact of_decide_eq_true hb3.1
    exact spec_l4RegsHold.calls 9 s1 e1 rs a0 c0 xs z c hz hc a5 c5 ms pc st a8 c8 os _ w h.1.2 k1 h.2.1 l0 h.2.2.1 l5 h.2.2.2 l8 (spec_regsHold rs xs z c hz hc ms pc st os hr.1 hx (hl ▸ hr.2) 9 (by omega))
theorem fits_impl (hs : List S89) (rs : List S25) (xs : List Int) (z c hz hc : Bool) (ms : List S35) (pc st : Int) (os : List S102) (n00 n01 n0 n5 n8 : Nat) (s0 s1 a0 a5 a8 : Option Addr) (e0 e1 c0 c5 c8 : Nat) (i00 : n00 = hs.length) (i01 : n01 = rs.length) (i0 : n0 = xs.length) (i5 : n5 = ms.length) (i8 : n8 = os.length) (b0 : hs.length ≤ 1048576) (b1 : rs.length ≤ 1048576)
    (w : World) (h : (Kd.C k89 w s0 n00 hs ∧ n00 ≤ e0) ∧ (Kd.C k25 w s1 n01 rs ∧ n01 ≤ e1)) (h' : (Kd.C (Kd.int .u64) w a0 n0 xs ∧ n0 ≤ c0) ∧ (Kd.C k35 w a5 n5 ms ∧ n5 ≤ c5) ∧ (Kd.C k102 w a8 n8 os ∧ n8 ≤ c8)) :
    Calls Try.prog 34 #[.agg #[.slice s0 n00 e0, .slice s1 n01 e1], .agg #[.slice a0 n0 c0, .bool z, .bool c, .bool hz, .bool hc, .slice a5 n5 c5, .int .i64 pc, .int .i64 st, .slice a8 n8 c8]] w fun e w' => e = .returned (.bool (fitsG hs rs xs z c hz hc ms pc st os)) ∧ Below w.heap.size w w' := by
  subst i00 i01 i0 i5 i8
  obtain ⟨⟨h0, k0⟩, h1, k1⟩ := h
  obtain ⟨⟨g0, l0⟩, ⟨g5, l5⟩, g8, l8⟩ := h'
  refine impl_fits hs rs xs ms hs.length rs.length xs.length ms.length os.length z c hz hc pc st s0 s1 a0 a5 a8 e0 e1 c0 c5 c8 (sigGood hs rs) (machGood xs.length z c hz hc ms pc st os) _
    (fun w => (Kd.C k89 w s0 hs.length hs ∧ Kd.C k25 w s1 rs.length rs) ∧ (Kd.C (Kd.int .u64) w a0 xs.length xs ∧ Kd.C k35 w a5 ms.length ms ∧ Kd.C k102 w a8 os.length os))
    rfl rfl rfl rfl k0 k1 l0 l5
    (fun w w' hb h => ⟨⟨Kd.C_below h.1.1 hb, Kd.C_below h.1.2 hb⟩, Kd.C_below h.2.1 hb, Kd.C_below h.2.2.1 hb, Kd.C_below h.2.2.2 hb⟩)
    (fun w h => ⟨h.1.1, h.1.2, h.2.1, h.2.2.1⟩) ?_ ?_ ?_ ?_ ?_ w ⟨⟨h0, h1⟩, g0, g5, g8⟩
  · unfold fitsG sameH
    rw [Bool.and_assoc (decide (hs.length = ms.length)), show decide (hs.length = ms.length) = decide (ms.length = hs.length) by rw [Bool.eq_iff_iff]; simp; omega]
  · exact fun w h => impl_ValidSig.calls (hs.length + rs.length + 2) s0 e0 hs s1 e1 rs _ w h.1.1 k0 h.1.2 k1 (impl_sig hs rs b0 b1 _ (by omega))
  · exact fun w h => impl_mach xs.length z c hz hc ms pc st os a0 a5 a8 c0 c5 c8 w h.2.2.1 l5 h.2.2.2
  · exact fun hb1 hb2 => ⟨(regs_good (sig_good hb1).2).1, mach_regs hb2⟩
  · intro hb1 hb2 hl i hi w h
    have hg := (regs_good (sig_good hb1).2).2 i hi
    exact impl_Val_says.calls _ _ _ _ _ _ _ a5 c5 ms _ w h.2.2.1 l5 (impl_says _ _ ms hs.length hg hl.symm)
end Go.Proofs.Ytfeglenlpnhofaa.Mk
