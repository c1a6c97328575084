/- The law FnExactValidAbs returns true at every Sig and Abs that can be read. No conditions. -/
import Derived.Test.YtfeglenlpnhofaaAbsSigPure
import Derived.Test.YtfeglenlpnhofaaAbsSigOpen
import Derived.Test.YtfeglenlpnhofaaAbsWalk
namespace Go.Proofs.Ytfeglenlpnhofaa.PFnExactValidAbs
open Go.RowKit Go.ChangeShapes Go.WideShapes Go.Deep Go.Proofs.YtfeglenlpnhofaaW.PrintWords Go.Proofs.YtfeglenlpnhofaaW.PrintLast Go.Proofs.YtfeglenlpnhofaaW.PrintMore Go.Proofs.Ytfeglenlpnhofaa.Mine

theorem opens58 : Opens Try.prog (Kd.pair (Kd.slice 24 k24) (Kd.pair (Kd.int .i64) (Kd.int .i64))) 58 (fun _ => True) :=
  (opens_struct Try.underlying58 (opensF_cons (opens_slice Try.underlying45 opens24 (by kernel_rfl)) rfl (by kernel_rfl) (opensF_cons (opens_int Try.underlying2) rfl (by kernel_rfl) (opensF_last (opens_int Try.underlying2) rfl (by kernel_rfl)))) (by kernel_rfl) : Opens Try.prog (Kd.pair (Kd.slice 24 k24) (Kd.pair (Kd.int .i64) (Kd.int .i64))) 58 _).imp (fun _ _ => trivial)
theorem abscells {w : World} {s : List S24 × Int × Int} {cs : List Value} (h : (Kd.pair (Kd.slice 24 k24) (Kd.pair (Kd.int .i64) (Kd.int .i64))).K w s cs) : ∃ A0 c0, cs = [.slice A0 s.1.length c0, .int .i64 s.2.1, .int .i64 s.2.2] ∧ s.1.length ≤ c0 ∧ Kd.C k24 w A0 s.1.length s.1 := by
  obtain ⟨_, _, rfl, ⟨A0, c0, rfl, h0, k0⟩, _, _, rfl, rfl, rfl⟩ := h
  exact ⟨A0, c0, rfl, h0, k0⟩

def absGood (hs : List S89) (rs us : List S25) (z c : Int) : Bool := sigGood hs rs && (regsGood us hs.length && (decide (0 ≤ z) && decide (z ≤ 2)) && (decide (0 ≤ c) && decide (c ≤ 2)))
theorem spec_abs (hs : List S89) (rs us : List S25) (z c : Int) (h0 : hs.length ≤ 1048576) (k : Nat) (hk : 18 < k) : spec_ValidAbs.f k hs rs us z c = some (absGood hs rs us z c) := by
  unfold spec_ValidAbs.f absGood
  rw [spec_sig _ _ k hk, Option.bind_some, spec_regs us hs.length h0 k (by omega)]
  simp only [Option.bind_some, spec_l1In.f]
  cases sigGood hs rs <;> cases regsGood us hs.length <;> by_cases z0 : 0 ≤ z <;> by_cases z2 : z ≤ 2 <;> by_cases c0 : 0 ≤ c <;> by_cases c2 : c ≤ 2 <;> simp [z0, z2, c0, c2]
theorem impl_abs (hs : List S89) (rs us : List S25) (z c : Int) (h0 : hs.length ≤ 1048576) (h1 : rs.length ≤ 1048576) (h2 : us.length ≤ 1048576) (k : Nat) (hk : hs.length + rs.length + us.length + 1 < k) : impl_ValidAbs.f k hs rs us z c = some (absGood hs rs us z c) := by
  unfold impl_ValidAbs.f absGood
  rw [impl_sig _ _ h0 h1 k (by omega), Option.bind_some, impl_regs us hs.length h2 k (by omega)]
  simp only [Option.bind_some, impl_isFlag.f, ge_iff_le]
  cases sigGood hs rs <;> cases regsGood us hs.length <;> by_cases z0 : 0 ≤ z <;> by_cases z2 : z ≤ 2 <;> by_cases c0 : 0 ≤ c <;> by_cases c2 : c ≤ 2 <;> simp [z0, z2, c0, c2]
theorem eqAbs_same (us : List S25) (z c : Int) (h2 : us.length ≤ 1048576) (k : Nat) (hk : us.length < k) : laws_eqAbs.f k us z c us z c = some true := by
  unfold laws_eqAbs.f
  rw [eqValS_same us h2 k hk, Option.bind_some, if_pos rfl, if_pos rfl, if_pos rfl]
theorem szAbs_is (us : List S24) (z c left : Int) (h : us.length ≤ 9223372036854775807) (hl : 0 ≤ left ∧ left ≤ 1048576) : laws_szAbs.f us z c left = some (if us.length ≤ left.toNat then left - us.length else -1) := by
  unfold laws_szAbs.f laws_szValS.f
  have e : wrap64 (left - (us.length : Int)) = left - us.length := by unfold wrap64; omega
  rw [e]
  by_cases c : left - (us.length : Int) < 0
  · rw [if_pos c, Option.bind_some, if_pos (by omega), if_neg (by omega)]
  · rw [if_neg c, Option.bind_some, if_neg c, if_pos (by omega)]

theorem law_calls (A0 : Option Addr) (c0 : Nat) (hs : List S118) (A1 : Option Addr) (c1 : Nat) (rs : List S24) (A2 : Option Addr) (c2 : Nat) (us : List S24) (z c : Int) (w : World) (h0 : Kd.C k118 w A0 hs.length hs) (k0 : hs.length ≤ c0) (h1 : Kd.C k24 w A1 rs.length rs) (k1 : rs.length ≤ c1) (h2 : Kd.C k24 w A2 us.length us) (k2 : us.length ≤ c2) :
    Calls Try.prog 7 #[.agg #[.slice A0 hs.length c0, .slice A1 rs.length c1], .agg #[.slice A2 us.length c2, .int .i64 z, .int .i64 c]] w fun e w' => e = .returned (.bool true) ∧ Below w.heap.size w w' := by
  have hsz0 := szSig_is hs rs h0.2.1 h1.2.1 1048576 (by omega)
  have mA0 : ∀ w w' : World, Below w.heap.size w w' → (Kd.C k118 w A0 hs.length hs ∧ Kd.C k24 w A1 rs.length rs) → (Kd.C k118 w' A0 hs.length hs ∧ Kd.C k24 w' A1 rs.length rs) := fun w w' hb h => ⟨Kd.C_below h.1 hb, Kd.C_below h.2 hb⟩
  have mA1 : ∀ w w' : World, Below w.heap.size w w' → Kd.C k24 w A2 us.length us → Kd.C k24 w' A2 us.length us := fun w w' hb h => Kd.C_below h hb
  have cz0 : ∀ (l : Int), laws_szSig.f hs rs 1048576 = some l → ∀ w : World, (Kd.C k118 w A0 hs.length hs ∧ Kd.C k24 w A1 rs.length rs) → Calls Try.prog 18 #[.agg #[.slice A0 hs.length c0, .slice A1 rs.length c1], .int .i64 1048576] w fun e w' => e = .returned (.int .i64 l) ∧ Below w.heap.size w w' :=
    fun l hl w h => laws_szSig.calls A0 c0 hs A1 c1 rs 1048576 l w h.1 k0 h.2 k1 hl
  have cz1 : ∀ (left l : Int), laws_szAbs.f us z c left = some l → ∀ w : World, Kd.C k24 w A2 us.length us → Calls Try.prog 23 #[.agg #[.slice A2 us.length c2, .int .i64 z, .int .i64 c], .int .i64 left] w fun e w' => e = .returned (.int .i64 l) ∧ Below w.heap.size w w' :=
    fun left l hl w h => laws_szAbs.calls A2 c2 us z c left l w h k2 hl
  by_cases q0 : hs.length + rs.length ≤ (1048576 : Int).toNat
  · rw [if_pos q0] at hsz0
    have q0' : hs.length + rs.length ≤ 1048576 := by simpa using q0
    have hsz1 := szAbs_is us z c (1048576 - hs.length - rs.length) h2.2.1 (by omega)
    by_cases q1 : us.length ≤ ((1048576 : Int) - hs.length - rs.length).toNat
    · rw [if_pos q1] at hsz1
      have q1' : us.length ≤ 1048576 := by omega
      have kk := hs.length + rs.length + us.length + 19
      refine vabs_main hs.length rs.length us.length z c (absGood (hs.map c118) (rs.map c24) (us.map c24) z c) _ _ A0 c0 A1 c1 A2 c2 _ _
        (fun w p0 d0 p1 d1 => (Kd.C k89 w p0 hs.length (hs.map c118) ∧ hs.length ≤ d0) ∧ (Kd.C k25 w p1 rs.length (rs.map c24) ∧ rs.length ≤ d1))
        (fun w p0 d0 => Kd.C k25 w p0 us.length (us.map c24) ∧ us.length ≤ d0)
        mA0 ?_ (cz0 _ hsz0) ?_ ?_ mA1 ?_ (cz1 _ _ hsz1) ?_ ?_ ?_ ?_ w ⟨h0, h1⟩ h2 (by omega) (by omega)
      · exact fun w w' _ _ _ _ hb h => ⟨⟨Kd.C_below h.1.1 hb, h.1.2⟩, ⟨Kd.C_below h.2.1 hb, h.2.2⟩⟩
      · intro w h
        refine (laws_toSig.calls _ A0 c0 hs A1 c1 rs _ _ w h.1 k0 h.2 k1 (toSig_is hs rs (by omega) (by omega) (hs.length + rs.length + 1) (by omega) (by omega))).mono ?_
        rintro e w' ⟨v0, v1, rfl, r0, r1, hb⟩
        obtain ⟨p0, d0, rfl⟩ := Kd.R_slice r0
        obtain ⟨p1, d1, rfl⟩ := Kd.R_slice r1
        obtain ⟨_, s0, t0⟩ := Kd.R_reads' r0
        obtain ⟨_, s1, t1⟩ := Kd.R_reads' r1
        rw [List.length_map] at s0 t0 s1 t1
        exact ⟨p0, d0, p1, d1, by rw [List.length_map, List.length_map], ⟨⟨t0, s0⟩, ⟨t1, s1⟩⟩, hb⟩
      · intro w p0 d0 p1 d1 q0 e0 q1 e1 h h'
        have g := laws_eqSig.calls (hs.length + rs.length + 1) p0 d0 (hs.map c118) p1 d1 (rs.map c24) q0 e0 (hs.map c118) q1 e1 (rs.map c24) true w
        simp only [List.length_map] at g
        exact g h.1.1 h.1.2 h.2.1 h.2.2 h'.1.1 h'.1.2 h'.2.1 h'.2.2 (eqSig_same _ _ (by simp; omega) (by simp; omega) _ (by simp; omega) (by simp; omega))
      · exact fun w w' _ _ hb h => ⟨Kd.C_below h.1 hb, h.2⟩
      · intro w h
        refine (laws_toAbs.calls (us.length + 1) A2 c2 us z c (us.map c24) z c w h k2 (by unfold laws_toAbs.f; rw [toValS_is us q1' _ (by omega), Option.bind_some])).mono ?_
        rintro e w' ⟨v0, rfl, r0, hb⟩
        obtain ⟨p0, d0, rfl⟩ := Kd.R_slice r0
        obtain ⟨_, s0, t0⟩ := Kd.R_reads' r0
        rw [List.length_map] at s0 t0
        exact ⟨p0, d0, by rw [List.length_map], ⟨t0, s0⟩, hb⟩
      · intro w p0 d0 q0 e0 h h'
        have g := laws_eqAbs.calls (us.length + 1) p0 d0 (us.map c24) z c q0 e0 (us.map c24) z c true w
        simp only [List.length_map] at g
        exact g h.1 h.2 h'.1 h'.2 (eqAbs_same _ z c (by simp; omega) _ (by simp))
      · intro w p0 d0 p1 d1 p2 d2 h h'
        have g := spec_ValidAbs.calls 19 p0 d0 (hs.map c118) p1 d1 (rs.map c24) p2 d2 (us.map c24) z c (absGood (hs.map c118) (rs.map c24) (us.map c24) z c) w
        simp only [List.length_map] at g
        exact g h.1.1 h.1.2 h.2.1 h.2.2 h'.1 h'.2 (spec_abs _ _ _ z c (by simp; omega) _ (by omega))
      · intro w p0 d0 p1 d1 p2 d2 h h'
        have g := impl_ValidAbs.calls (hs.length + rs.length + us.length + 2) p0 d0 (hs.map c118) p1 d1 (rs.map c24) p2 d2 (us.map c24) z c (absGood (hs.map c118) (rs.map c24) (us.map c24) z c) w
        simp only [List.length_map] at g
        exact g h.1.1 h.1.2 h.2.1 h.2.2 h'.1 h'.2 (impl_abs _ _ _ z c (by simp; omega) (by simp; omega) (by simp; omega) _ (by simp))
    · rw [if_neg q1] at hsz1
      exact vabs_out1 hs.length rs.length us.length z c _ _ A0 c0 A1 c1 A2 c2 _ _ mA0 (cz0 _ hsz0) mA1 (cz1 _ _ hsz1) w ⟨h0, h1⟩ h2 (by omega) (by omega)
  · rw [if_neg q0] at hsz0
    exact vabs_out0 hs.length rs.length us.length z c _ A0 c0 A1 c1 A2 c2 _ _ mA0 (cz0 _ hsz0) mA1 w ⟨h0, h1⟩ h2 (by omega)
end Go.Proofs.Ytfeglenlpnhofaa.PFnExactValidAbs
