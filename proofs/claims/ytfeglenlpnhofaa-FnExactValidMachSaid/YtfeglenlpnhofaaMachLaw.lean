/- The law FnExactValidMach returns true at every Mach that can be read. No conditions. -/
import Derived.Test.YtfeglenlpnhofaaMachOpen
import Derived.Test.YtfeglenlpnhofaaMachWalk
import Derived.Test.YtfeglenlpnhofaaMkEq
import Derived.Test.YtfeglenlpnhofaaMkSpec
import Derived.Test.YtfeglenlpnhofaaMkImpl
namespace Go.Proofs.Ytfeglenlpnhofaa.Mk
open Go.RowKit Go.ChangeShapes Go.WideShapes Go.Deep Go.Proofs.YtfeglenlpnhofaaW.PrintWords Go.Proofs.YtfeglenlpnhofaaW.PrintLast Go.Proofs.YtfeglenlpnhofaaW.PrintMore Go.Proofs.Ytfeglenlpnhofaa.Mine

theorem law_calls (A0 : Option Addr) (c0 : Nat) (rs : List Int) (z c hz hc : Bool) (A5 : Option Addr) (c5 : Nat) (hs : List S122) (pc st : Int) (A8 : Option Addr) (c8 : Nat) (os : List S125) (w : World)
    (h0 : Kd.C (Kd.int .u64) w A0 rs.length rs) (k0 : rs.length ≤ c0) (h5 : Kd.C k122 w A5 hs.length hs) (k5 : hs.length ≤ c5) (h8 : Kd.C k125 w A8 os.length os) (k8 : os.length ≤ c8) :
    Calls Try.prog 8 #[.agg #[.slice A0 rs.length c0, .bool z, .bool c, .bool hz, .bool hc, .slice A5 hs.length c5, .int .i64 pc, .int .i64 st, .slice A8 os.length c8]] w fun e w' => e = .returned (.bool true) ∧ Below w.heap.size w w' := by
  obtain ⟨k, r, hsz, _, hsm⟩ := szMach_is rs z c hz hc hs pc st os h0.2.1 h5.2.1 (small122 h5) h8.2.1 1048576 (by omega)
  have mA0 : ∀ w w' : World, Below w.heap.size w w' → (Kd.C (Kd.int .u64) w A0 rs.length rs ∧ Kd.C k122 w A5 hs.length hs ∧ Kd.C k125 w A8 os.length os) → (Kd.C (Kd.int .u64) w' A0 rs.length rs ∧ Kd.C k122 w' A5 hs.length hs ∧ Kd.C k125 w' A8 os.length os) :=
    fun w w' hb h => ⟨Kd.C_below h.1 hb, Kd.C_below h.2.1 hb, Kd.C_below h.2.2 hb⟩
  have cz : ∀ w : World, (Kd.C (Kd.int .u64) w A0 rs.length rs ∧ Kd.C k122 w A5 hs.length hs ∧ Kd.C k125 w A8 os.length os) → Calls Try.prog 28 #[.agg #[.slice A0 rs.length c0, .bool z, .bool c, .bool hz, .bool hc, .slice A5 hs.length c5, .int .i64 pc, .int .i64 st, .slice A8 os.length c8], .int .i64 1048576] w fun e w' => e = .returned (.int .i64 r) ∧ Below w.heap.size w w' :=
    fun w h => laws_szMach.calls k A0 c0 rs z c hz hc A5 c5 hs pc st A8 c8 os 1048576 r w h.1 k0 h.2.1 k5 h.2.2 k8 hsz
  by_cases q : r < 0
  · exact vmach_out0 rs.length z c hz hc hs.length pc st os.length r A0 c0 A5 c5 A8 c8 _ mA0 cz w ⟨h0, h5, h8⟩ q
  · obtain ⟨s0, s5, s2, s8⟩ := hsm (by omega)
    have s2' : ∀ x ∈ hs.map c122, x.f2.length ≤ 1048576 := by
      intro x hx
      obtain ⟨y, hy, rfl⟩ := List.mem_map.1 hx
      exact s2 y hy
    refine vmach_main rs.length z c hz hc hs.length pc st os.length (machGood rs.length z c hz hc (hs.map c122) pc st (os.map c125)) r A0 c0 A5 c5 A8 c8 _
      (fun w p0 d0 p5 d5 p8 d8 => (Kd.C (Kd.int .u64) w p0 rs.length rs ∧ rs.length ≤ d0) ∧ (Kd.C k35 w p5 hs.length (hs.map c122) ∧ hs.length ≤ d5) ∧ (Kd.C k102 w p8 os.length (os.map c125) ∧ os.length ≤ d8))
      mA0 ?_ cz ?_ ?_ ?_ ?_ w ⟨h0, h5, h8⟩ (by omega)
    · exact fun w w' _ _ _ _ _ _ hb h => ⟨⟨Kd.C_below h.1.1 hb, h.1.2⟩, ⟨Kd.C_below h.2.1.1 hb, h.2.1.2⟩, ⟨Kd.C_below h.2.2.1 hb, h.2.2.2⟩⟩
    · intro w h
      refine (laws_toMach.calls 4000000 A0 c0 rs z c hz hc A5 c5 hs pc st A8 c8 os _ _ _ _ _ _ _ _ _ w h.1 k0 h.2.1 k5 h.2.2 k8 (toMach_is rs z c hz hc hs pc st os s0 s5 s2 s8)).mono ?_
      rintro e w' ⟨v0, v5, v8, rfl, r0, r5, r8, hb⟩
      obtain ⟨p0, d0, rfl⟩ := Kd.R_slice r0
      obtain ⟨p8, d8, rfl⟩ := Kd.R_slice r8
      obtain ⟨p5, d5, rfl⟩ := Kd.S_slice r5
      obtain ⟨_, u0, t0⟩ := Kd.R_reads' r0
      obtain ⟨_, u8, t8⟩ := Kd.R_reads' r8
      obtain ⟨_, u5, t5⟩ := Kd.S_reads' r5
      rw [List.length_map] at u8 t8 u5 t5
      exact ⟨p0, d0, p5, d5, p8, d8, by rw [List.length_map, List.length_map], ⟨⟨t0, u0⟩, ⟨t5, u5⟩, ⟨t8, u8⟩⟩, hb⟩
    · intro w p0 d0 p5 d5 p8 d8 q0 e0 q5 e5 q8 e8 h h'
      have g := eqMach_calls rs (hs.map c122) (os.map c125) s0 (by simpa using s5) s2' (by simpa using s8) z c hz hc pc st p0 p5 p8 q0 q5 q8 d0 d5 d8 e0 e5 e8 w
      simp only [List.length_map] at g
      exact g h.1.1 h.1.2 h.2.1.1 h.2.1.2 h.2.2.1 h.2.2.2 h'.1.1 h'.1.2 h'.2.1.1 h'.2.1.2 h'.2.2.1 h'.2.2.2
    · intro w p0 d0 p5 d5 p8 d8 h
      have g := spec_mach rs.length z c hz hc (hs.map c122) pc st (os.map c125) p0 p5 p8 d0 d5 d8 w
      simp only [List.length_map] at g
      exact g h.2.1.1 h.2.2.1
    · intro w p0 d0 p5 d5 p8 d8 h
      have g := impl_mach rs.length z c hz hc (hs.map c122) pc st (os.map c125) p0 p5 p8 d0 d5 d8 w
      simp only [List.length_map] at g
      exact g h.2.1.1 h.2.1.2 h.2.2.1
end Go.Proofs.Ytfeglenlpnhofaa.Mk
