/- The laws RateInside, RateParts and RateWhole of package impostlaw5: the walks. -/
import Derived.Test.YtbkmgjblflhgiaaRateD
namespace Go.Proofs.Ytbkmgjblflhgiaa
open Go.RowKit

set_option maxHeartbeats 2000000 in
set_option maxRecDepth 100000 in
theorem rateInside_any (n bp : Int) (w : World) : Calls Try.prog 8 #[.int .i64 n, .int .i64 bp] w fun e w' => e = .returned (.bool true) ∧ Ext w w' := by
  have b1 := withI_bd n 0 35184372088832 (by decide)
  have b2 := withI_bd bp 0 10000 (by decide)
  obtain ⟨T, hT, t0, t1, t2, t3, t9⟩ := within_lin (withI n 0 35184372088832) (withI bp 0 10000) b1.1 (by omega) b2.1 (by omega)
  obtain ⟨U, hU, u0, u1, u2, u3, u4, u9⟩ := tax_lin (withI n 0 35184372088832 - T) (withI bp 0 10000) (by omega) (by omega) b2.1 (by omega)
  have A1 := Lib.hid hT
  have A2 := Lib.hid hU
  clear hT hU t9 u9
  rw [Int.sub_mul] at u1 u2 u3 u4
  have r1 : T - 1 ≤ U := by omega
  have r2 : U ≤ T + 1 := by omega
  clear t2 t3 u1 u2 u3 u4
  go_enter Try.func8, Try.ntmps8
  go_wp2_with (go_at_call 16; refine (within_any _ _ _ _ (by decide) (by decide) (by decide)).mono ?_; rintro e w' ⟨rfl, rfl⟩)
  generalize withI n 0 35184372088832 = k at *
  generalize withI bp 0 10000 = r at *
  obtain ⟨b11, b12⟩ := b1
  obtain ⟨b21, b22⟩ := b2
  refine (rwithin_is k r T 0 _ (by unfold In64; omega) A1.out).mono ?_
  rintro e w1 ⟨rfl, h1⟩
  go_wp2_with fail
  refine (tax_is (k - T) r U 0 _ (by unfold In64; omega) A2.out).mono ?_
  rintro e w2 ⟨rfl, h2⟩
  go_wp2_with (go_at_call 3; refine (rateRuns_any _).mono ?_; rintro e w' ⟨rfl, hx⟩)
  go_ret
  exact ⟨rfl, (by repeat (first | exact Ext.refl _ | assumption | refine Ext.trans ?_ (by assumption) | refine Ext.alloc ?_ _ | refine Ext.drew ?_ | refine Ext.drewN ?_ _))⟩

set_option maxHeartbeats 2000000 in
set_option maxRecDepth 100000 in
theorem rateParts_any (a b bp : Int) (w : World) : Calls Try.prog 9 #[.int .i64 a, .int .i64 b, .int .i64 bp] w fun e w' => e = .returned (.bool true) ∧ Ext w w' := by
  have b1 := withI_bd a 0 17592186044416 (by decide)
  have b2 := withI_bd b 0 17592186044416 (by decide)
  have b3 := withI_bd bp 0 100000 (by decide)
  obtain ⟨X, hX, x0, x1, x2, x3, x4, x9⟩ := tax_lin (withI a 0 17592186044416) (withI bp 0 100000) b1.1 (by omega) b3.1 b3.2
  obtain ⟨Y, hY, y0, y1, y2, y3, y4, y9⟩ := tax_lin (withI b 0 17592186044416) (withI bp 0 100000) b2.1 (by omega) b3.1 b3.2
  obtain ⟨Z, hZ, z0, z1, z2, z3, z4, z9⟩ := tax_lin (withI a 0 17592186044416 + withI b 0 17592186044416) (withI bp 0 100000) (by omega) (by omega) b3.1 b3.2
  have A1 := Lib.hid hX
  have A2 := Lib.hid hY
  have A3 := Lib.hid hZ
  clear hX hY hZ x9 y9 z9
  rw [Int.add_mul] at z1 z2 z3 z4
  have r1 : -1 ≤ X + Y - Z := by omega
  have r2 : X + Y - Z ≤ 1 := by omega
  have r3 : X ≤ 800000000000000 := by omega
  have r4 : Y ≤ 800000000000000 := by omega
  clear x1 x2 x3 x4 y1 y2 y3 y4 z1 z2 z3 z4
  go_enter Try.func9, Try.ntmps9
  go_wp2_with (go_at_call 16; refine (within_any _ _ _ _ (by decide) (by decide) (by decide)).mono ?_; rintro e w' ⟨rfl, rfl⟩)
  generalize withI a 0 17592186044416 = m at *
  generalize withI b 0 17592186044416 = n at *
  generalize withI bp 0 100000 = r at *
  obtain ⟨b11, b12⟩ := b1
  obtain ⟨b21, b22⟩ := b2
  obtain ⟨b31, b32⟩ := b3
  refine (tax_is m r X 0 _ (by unfold In64; omega) A1.out).mono ?_
  rintro e w1 ⟨rfl, h1⟩
  go_wp2_with fail
  refine (tax_is n r Y 0 _ (by unfold In64; omega) A2.out).mono ?_
  rintro e w2 ⟨rfl, h2⟩
  go_wp2_with fail
  refine (tax_is (m + n) r Z 0 _ (by unfold In64; omega) A3.out).mono ?_
  rintro e w3 ⟨rfl, h3⟩
  go_wp2_with (go_at_call 3; refine (rateRuns_any _).mono ?_; rintro e w' ⟨rfl, hx⟩)
  go_ret
  exact ⟨rfl, (by repeat (first | exact Ext.refl _ | assumption | refine Ext.trans ?_ (by assumption) | refine Ext.alloc ?_ _ | refine Ext.drew ?_ | refine Ext.drewN ?_ _))⟩

set_option maxHeartbeats 2000000 in
set_option maxRecDepth 100000 in
theorem rateWhole_any (n bp : Int) (hn : In64 n) (w : World) : Calls Try.prog 10 #[.int .i64 n, .int .i64 bp] w fun e w' => e = .returned (.bool true) ∧ Ext w w' := by
  have hn' := hn
  obtain ⟨hn0, hn1⟩ := hn
  by_cases h : n = -9223372036854775808
  · subst h
    go_enter Try.func10, Try.ntmps10
    go_wp2_with (go_at_call 3; refine (rateRuns_any _).mono ?_; rintro e w' ⟨rfl, hx⟩)
    go_ret
    exact ⟨rfl, (by repeat (first | exact Ext.refl _ | assumption | refine Ext.trans ?_ (by assumption) | refine Ext.alloc ?_ _ | refine Ext.drew ?_ | refine Ext.drewN ?_ _))⟩
  · have hne : (n == -9223372036854775808) = false := by rw [beq_eq_false_iff_ne]; exact h
    have h0 : -9223372036854775808 < n := by omega
    have A1 := Lib.hid (whole_eq n h0 hn1)
    have A2 := Lib.hid (none_eq n 10000 (by decide))
    have A3 := Lib.hid (none_eq n (10000 + 0) (by decide))
    obtain ⟨X, E, hX⟩ : ∃ X E, shareR n bp 10000 = (X, E) := ⟨_, _, rfl⟩
    obtain ⟨Y, F, hY⟩ : ∃ Y F, shareR n bp (10000 + bp) = (Y, F) := ⟨_, _, rfl⟩
    have e1 := err_iff n bp 10000
    have e2 := err_iff n bp (10000 + bp)
    rw [hX] at e1
    rw [hY] at e2
    simp only at e1 e2
    have A4 := Lib.hid hX
    have A5 := Lib.hid hY
    have E1 := Lib.hid e1
    have E2 := Lib.hid e2
    clear hX hY h e1 e2
    go_enter Try.func10, Try.ntmps10
    go_wp2_with fail
    refine (tax_is n 10000 n 0 _ hn' A1.out).mono ?_
    rintro e w1 ⟨rfl, h1⟩
    go_wp2_with fail
    refine (tax_is n 0 0 0 _ hn' A2.out).mono ?_
    rintro e w2 ⟨rfl, h2⟩
    go_wp2_with fail
    refine (rwithin_is n 0 0 0 _ hn' A3.out).mono ?_
    rintro e w3 ⟨rfl, h3⟩
    go_wp2_with fail
    refine (tax_is n bp X E _ hn' A4.out).mono ?_
    rintro e w4 ⟨rfl, h4⟩
    go_wp2_with fail
    refine (rwithin_is n bp Y F _ hn' A5.out).mono ?_
    rintro e w5 ⟨rfl, h5⟩
    have e1 := E1.out
    have e2 := E2.out
    by_cases c1 : bp < 0
    · have k1 : (E == 1) = true := by rw [e1]; simp [c1]
      have k2 : (F == 1) = true := by rw [e2]; simp [c1]
      clear e1 e2 E1 E2
      go_wp2_with (go_at_call 3; refine (rateRuns_any _).mono ?_; rintro e w' ⟨rfl, hx⟩)
      go_ret
      exact ⟨rfl, (by repeat (first | exact Ext.refl _ | assumption | refine Ext.trans ?_ (by assumption) | refine Ext.alloc ?_ _ | refine Ext.drew ?_ | refine Ext.drewN ?_ _))⟩
    · by_cases c2 : 100000 < bp
      · have d1 : decide (bp < 0) = false := decide_eq_false c1
        have k1 : (E == 1) = true := by rw [e1]; simp [c2]
        have k2 : (F == 1) = true := by rw [e2]; simp [c2]
        clear e1 e2 E1 E2
        go_wp2_with (go_at_call 3; refine (rateRuns_any _).mono ?_; rintro e w' ⟨rfl, hx⟩)
        go_ret
        exact ⟨rfl, (by repeat (first | exact Ext.refl _ | assumption | refine Ext.trans ?_ (by assumption) | refine Ext.alloc ?_ _ | refine Ext.drew ?_ | refine Ext.drewN ?_ _))⟩
      · have k1 : (E == 1) = false := by rw [e1]; simp; omega
        have k2 : (F == 1) = false := by rw [e2]; simp; omega
        have d1 : decide (bp < 0) = false := decide_eq_false c1
        have d2 : decide (100000 < bp) = false := decide_eq_false c2
        clear e1 e2 E1 E2
        go_wp2_with (go_at_call 3; refine (rateRuns_any _).mono ?_; rintro e w' ⟨rfl, hx⟩)
        go_ret
        exact ⟨rfl, (by repeat (first | exact Ext.refl _ | assumption | refine Ext.trans ?_ (by assumption) | refine Ext.alloc ?_ _ | refine Ext.drew ?_ | refine Ext.drewN ?_ _))⟩
end Go.Proofs.Ytbkmgjblflhgiaa
