/- The laws of package impostlaw5 (shares): the walks. -/
import Derived.Test.YtbkmgjblflhgiaaRateC
namespace Go.Proofs.Ytbkmgjblflhgiaa
open Go.RowKit

theorem lawTax_any (n bp t e : Int) (w : World) (hn : In64 n) :
    Calls Try.prog 11 #[.int .i64 n, .int .i64 bp, .int .i64 t, .int .i64 e] w fun x w' => x = .returned (.bool (((shareR n bp 10000).1 == t) && ((shareR n bp 10000).2 == e))) ∧ Ext w w' := by
  cases h1 : ((shareR n bp 10000).1 == t)
  all_goals
    go_enter Try.func11, Try.ntmps11
    go_wp2_with fail
    refine (tax_any n bp _ hn).mono ?_
    rintro e w1 ⟨rfl, hx⟩
    go_wp2
    go_ret
    exact ⟨by simp, hx⟩

theorem lawTax_yes (n bp t e : Int) (w : World) (hn : In64 n) (h : (((shareR n bp 10000).1 == t) && ((shareR n bp 10000).2 == e)) = true) :
    Calls Try.prog 11 #[.int .i64 n, .int .i64 bp, .int .i64 t, .int .i64 e] w fun x w' => x = .returned (.bool true) ∧ Ext w w' :=
  (lawTax_any n bp t e w hn).mono fun x w' ⟨h1, h2⟩ => ⟨by rw [h1, h], h2⟩
theorem rwithin_is (n bp t e : Int) (w : World) (hn : In64 n) (h : shareR n bp (10000 + bp) = (t, e)) :
    Calls Try.prog 12 #[.int .i64 n, .int .i64 bp] w fun x w' => x = .returned (.tuple #[.int .i64 t, .int .i64 e]) ∧ Ext w w' :=
  (rwithin_any n bp w hn).mono fun x w' ⟨h1, h2⟩ => ⟨by rw [h1, h], h2⟩
theorem tax_is (n bp t e : Int) (w : World) (hn : In64 n) (h : shareR n bp 10000 = (t, e)) :
    Calls Try.prog 13 #[.int .i64 n, .int .i64 bp] w fun x w' => x = .returned (.tuple #[.int .i64 t, .int .i64 e]) ∧ Ext w w' :=
  (tax_any n bp w hn).mono fun x w' ⟨h1, h2⟩ => ⟨by rw [h1, h], h2⟩

set_option maxHeartbeats 1000000 in
set_option maxRecDepth 100000 in
theorem rateRuns_any (w : World) : Calls Try.prog 3 #[] w fun e w' => e = .returned (.bool true) ∧ Ext w w' := by
  have m1 : shareR 119 1900 (10000 + 1900) = (19, 0) := by decide +kernel
  have m2 : shareR (-119) 1900 (10000 + 1900) = (-19, 0) := by decide +kernel
  have m3 : shareR 1 10000 (10000 + 10000) = (1, 0) := by decide +kernel
  have M1 := Lib.hid m1
  have M2 := Lib.hid m2
  have M3 := Lib.hid m3
  clear m1 m2 m3
  go_enter Try.func3, Try.ntmps3
  go_wp2_with (go_at_call 11; refine (lawTax_yes _ _ _ _ _ (by unfold In64; decide) (by decide +kernel)).mono ?_; rintro e w' ⟨rfl, hx⟩)
  refine (rwithin_is 119 1900 _ _ _ (by unfold In64; decide) M1.out).mono ?_
  rintro e w1 ⟨rfl, h1⟩
  go_wp2_with fail
  refine (rwithin_is (-119) 1900 _ _ _ (by unfold In64; decide) M2.out).mono ?_
  rintro e w2 ⟨rfl, h2⟩
  go_wp2_with fail
  refine (rwithin_is 1 10000 _ _ _ (by unfold In64; decide) M3.out).mono ?_
  rintro e w3 ⟨rfl, h3⟩
  go_wp2
  go_ret
  exact ⟨rfl, (by repeat (first | exact Ext.refl _ | assumption | refine Ext.trans ?_ (by assumption) | refine Ext.alloc ?_ _ | refine Ext.drew ?_ | refine Ext.drewN ?_ _))⟩

set_option maxHeartbeats 1000000 in
set_option maxRecDepth 100000 in
theorem rateTells_any (n bp : Int) (hn : In64 n) (w : World) : Calls Try.prog 4 #[.int .i64 n, .int .i64 bp] w fun e w' => e = .returned (.bool true) ∧ Ext w w' := by
  go_enter Try.func4, Try.ntmps4
  go_wp2_with (first
    | (go_at_call 13; refine (tax_any _ _ _ hn).mono ?_; rintro e w' ⟨rfl, hx⟩)
    | (go_at_call 12; refine (rwithin_any _ _ _ hn).mono ?_; rintro e w' ⟨rfl, hx⟩)
    | (go_at_call 14; refine (refTax_any _ _ _ hn).mono ?_; rintro e w' ⟨rfl, hx⟩)
    | (go_at_call 15; refine (refWithin_any _ _ _ hn).mono ?_; rintro e w' ⟨rfl, hx⟩)
    | (go_at_call 3; refine (rateRuns_any _).mono ?_; rintro e w' ⟨rfl, hx⟩))
  go_ret
  exact ⟨rfl, (by repeat (first | exact Ext.refl _ | assumption | refine Ext.trans ?_ (by assumption) | refine Ext.alloc ?_ _ | refine Ext.drew ?_ | refine Ext.drewN ?_ _))⟩

set_option maxHeartbeats 1000000 in
set_option maxRecDepth 100000 in
theorem rateHalves_any (n bp : Int) (w : World) : Calls Try.prog 5 #[.int .i64 n, .int .i64 bp] w fun e w' => e = .returned (.bool true) ∧ Ext w w' := by
  have b1 := withI_bd n 0 17592186044416 (by decide)
  have b2 := withI_bd bp 0 100000 (by decide)
  obtain ⟨T, hT, t0, t1, t2, t3, t4, t5⟩ := tax_lin (withI n 0 17592186044416) (withI bp 0 100000) b1.1 (by omega) b2.1 b2.2
  have HT := Lib.hid hT
  clear hT t5
  go_enter Try.func5, Try.ntmps5
  go_wp2_with (go_at_call 16; refine (within_any _ _ _ _ (by decide) (by decide) (by decide)).mono ?_; rintro e w' ⟨rfl, rfl⟩)
  generalize withI n 0 17592186044416 = k at *
  generalize withI bp 0 100000 = r at *
  refine (tax_is k r T 0 _ (by unfold In64; omega) HT.out).mono ?_
  rintro e w1 ⟨rfl, h1⟩
  obtain ⟨b11, b12⟩ := b1
  obtain ⟨b21, b22⟩ := b2
  go_wp2_with (go_at_call 3; refine (rateRuns_any _).mono ?_; rintro e w' ⟨rfl, hx⟩)
  go_ret
  exact ⟨rfl, (by repeat (first | exact Ext.refl _ | assumption | refine Ext.trans ?_ (by assumption) | refine Ext.alloc ?_ _ | refine Ext.drew ?_ | refine Ext.drewN ?_ _))⟩

theorem shareR_bd (n bp d : Int) (h : 0 < d) (hb : 0 ≤ bp ∧ bp ≤ 100000 ∨ bp < 0 ∨ 100000 < bp) : -9223372036854775808 < (shareR n bp d).1 ∧ (shareR n bp d).1 ≤ 9223372036854775807 := by
  unfold shareR
  by_cases hb2 : bp < 0 ∨ 100000 < bp
  · rw [if_pos hb2]; decide
  · rw [if_neg hb2]
    have h0 : 0 ≤ rateOut n.natAbs bp d := by
      rw [rateOut_eq _ _ _ h]
      have := Int.mul_nonneg (by omega : (0 : Int) ≤ n.natAbs) (by omega : 0 ≤ bp)
      exact Int.ediv_nonneg (by omega) (by omega)
    split
    · decide
    · split <;> simp only <;> omega

theorem mirror (n bp : Int) (c : Bool) (h : -9223372036854775808 < n) : ∃ X E, -9223372036854775808 < X ∧ X ≤ 9223372036854775807 ∧ shareR n bp (10000 + if c then bp else 0) = (X, E) ∧ shareR (-n) bp (10000 + if c then bp else 0) = (-X, E) := by
  by_cases hb : bp < 0 ∨ 100000 < bp
  · exact ⟨0, 1, by decide, by decide, shareR_bad _ _ _ hb, shareR_bad _ _ _ hb⟩
  · have hd : 0 < 10000 + if c then bp else 0 := by cases c <;> simp <;> omega
    have hbd := shareR_bd n bp _ hd (by omega)
    exact ⟨_, _, hbd.1, hbd.2, rfl, shareR_neg n bp _ h (rateOut_zero _ _ hd)⟩

set_option maxHeartbeats 1000000 in
set_option maxRecDepth 100000 in
theorem rateMirrors_any (n bp : Int) (hn : In64 n) (w : World) : Calls Try.prog 6 #[.int .i64 n, .int .i64 bp] w fun e w' => e = .returned (.bool true) ∧ Ext w w' := by
  obtain ⟨hn0, hn1⟩ := hn
  by_cases h : n = -9223372036854775808
  · subst h
    go_enter Try.func6, Try.ntmps6
    go_wp2_with (go_at_call 3; refine (rateRuns_any _).mono ?_; rintro e w' ⟨rfl, hx⟩)
    go_ret
    exact ⟨rfl, (by repeat (first | exact Ext.refl _ | assumption | refine Ext.trans ?_ (by assumption) | refine Ext.alloc ?_ _ | refine Ext.drew ?_ | refine Ext.drewN ?_ _))⟩
  · have hne : (n == -9223372036854775808) = false := by rw [beq_eq_false_iff_ne]; exact h
    have h0 : -9223372036854775808 < n := by omega
    obtain ⟨X, E, x0, x1, hX, hX'⟩ := mirror n bp false h0
    obtain ⟨Y, F, y0, y1, hY, hY'⟩ := mirror n bp true h0
    simp only [if_false, if_true, Bool.false_eq_true, Int.add_zero] at hX hX' hY hY'
    have A1 := Lib.hid hX
    have A2 := Lib.hid hX'
    have A3 := Lib.hid hY
    have A4 := Lib.hid hY'
    clear hX hX' hY hY' h
    have i1 : In64 n := ⟨hn0, hn1⟩
    have i2 : In64 (-n) := ⟨by omega, by omega⟩
    go_enter Try.func6, Try.ntmps6
    go_wp2_with fail
    refine (tax_is n bp X E _ i1 A1.out).mono ?_
    rintro e w1 ⟨rfl, h1⟩
    go_wp2_with fail
    refine (tax_is (-n) bp (-X) E _ i2 A2.out).mono ?_
    rintro e w2 ⟨rfl, h2⟩
    go_wp2_with fail
    refine (rwithin_is n bp Y F _ i1 A3.out).mono ?_
    rintro e w3 ⟨rfl, h3⟩
    go_wp2_with fail
    refine (rwithin_is (-n) bp (-Y) F _ i2 A4.out).mono ?_
    rintro e w4 ⟨rfl, h4⟩
    go_wp2_with (go_at_call 3; refine (rateRuns_any _).mono ?_; rintro e w' ⟨rfl, hx⟩)
    go_ret
    exact ⟨rfl, (by repeat (first | exact Ext.refl _ | assumption | refine Ext.trans ?_ (by assumption) | refine Ext.alloc ?_ _ | refine Ext.drew ?_ | refine Ext.drewN ?_ _))⟩

end Go.Proofs.Ytbkmgjblflhgiaa
