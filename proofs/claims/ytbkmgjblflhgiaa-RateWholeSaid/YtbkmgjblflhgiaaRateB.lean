/- Contracts of rate.Tax, rate.Within, and of the document's answers: all answer what shareR says. -/
import Derived.Test.YtbkmgjblflhgiaaRateA
namespace Go.Proofs.Ytbkmgjblflhgiaa
open Go.RowKit

def In64 (n : Int) : Prop := -9223372036854775808 ≤ n ∧ n ≤ 9223372036854775807

theorem tax_any (n bp : Int) (w : World) (hn : In64 n) :
    Calls Try.prog 13 #[.int .i64 n, .int .i64 bp] w fun e w' => e = .returned (.tuple #[.int .i64 (shareR n bp 10000).1, .int .i64 (shareR n bp 10000).2]) ∧ Ext w w' := by
  go_enter Try.func13, Try.ntmps13
  go_wp2_with fail
  refine (share_any n bp 10000 _ hn (by decide)).mono ?_
  rintro e w1 ⟨rfl, hx⟩
  go_wp2
  go_ret2
  exact ⟨rfl, hx⟩

theorem shareR_bad (n bp d : Int) (h : bp < 0 ∨ 100000 < bp) : shareR n bp d = (0, 1) := by unfold shareR; rw [if_pos h]

set_option maxHeartbeats 400000 in
theorem rwithin_any (n bp : Int) (w : World) (hn : In64 n) :
    Calls Try.prog 12 #[.int .i64 n, .int .i64 bp] w fun e w' => e = .returned (.tuple #[.int .i64 (shareR n bp (10000 + bp)).1, .int .i64 (shareR n bp (10000 + bp)).2]) ∧ Ext w w' := by
  by_cases h0 : bp < 0
  · have HR := Lib.hid (shareR_bad n bp (10000 + bp) (.inl h0))
    go_enter Try.func12, Try.ntmps12
    go_wp2
    go_ret2
    exact ⟨ret2i HR.out, Ext.refl _⟩
  · by_cases h1 : 100000 < bp
    · have HR := Lib.hid (shareR_bad n bp (10000 + bp) (.inr h1))
      go_enter Try.func12, Try.ntmps12
      go_wp2
      go_ret2
      exact ⟨ret2i HR.out, Ext.refl _⟩
    · have h0' : 0 ≤ bp := by omega
      have h1' : bp ≤ 100000 := by omega
      go_enter Try.func12, Try.ntmps12
      go_wp2_with fail
      refine (share_any n bp (10000 + bp) _ hn (by omega)).mono ?_
      rintro e w1 ⟨rfl, hx⟩
      go_wp2
      go_ret2
      exact ⟨rfl, hx⟩

theorem size_any (n : Int) (w : World) (hn : In64 n) :
    Calls Try.prog 18 #[.int .i64 n] w fun e w' => e = .returned (.int .u64 n.natAbs) ∧ w = w' := by
  obtain ⟨hn0, hn1⟩ := hn
  by_cases hneg : n < 0
  · have e1 : ((n.natAbs : Nat) : Int) = -n := by omega
    rw [e1]
    go_enter Try.func18, Try.ntmps18
    go_wp2
    go_ret
    exact ⟨by simp; omega, rfl⟩
  · have e1 : ((n.natAbs : Nat) : Int) = n := by omega
    rw [e1]
    go_enter Try.func18, Try.ntmps18
    go_wp2
    go_ret
    exact ⟨by simp, rfl⟩

theorem half_eq (r bp : Int) : (2 * r * bp + 10000) / (2 * 10000) = (r * bp + 5000) / 10000 := by
  rw [Int.mul_assoc]
  generalize r * bp = x
  omega

set_option maxHeartbeats 1000000 in
theorem refTax_any (n bp : Int) (w : World) (hn : In64 n) :
    Calls Try.prog 14 #[.int .i64 n, .int .i64 bp] w fun e w' => e = .returned (.tuple #[.int .i64 (shareR n bp 10000).1, .int .i64 (shareR n bp 10000).2]) ∧ Ext w w' := by
  have hn' := hn
  obtain ⟨hn0, hn1⟩ := hn
  by_cases h0 : bp < 0
  · have HR := Lib.hid (shareR_bad n bp 10000 (.inl h0))
    go_enter Try.func14, Try.ntmps14
    go_wp2
    go_ret2
    exact ⟨ret2i HR.out, Ext.refl _⟩
  · by_cases h1 : 100000 < bp
    · have HR := Lib.hid (shareR_bad n bp 10000 (.inr h1))
      go_enter Try.func14, Try.ntmps14
      go_wp2
      go_ret2
      exact ⟨ret2i HR.out, Ext.refl _⟩
    · obtain ⟨u, hu⟩ : ∃ u : Int, u = n.natAbs := ⟨_, rfl⟩
      have hr : shareR n bp 10000 = if 9223372036854775807 < rateOut u bp 10000 then (0, 7) else (if n < 0 then -rateOut u bp 10000 else rateOut u bp 10000, 0) := by
        unfold shareR; rw [if_neg (by omega), hu]
      have HR := Lib.hid hr
      clear hr
      have hu0 : 0 ≤ u := by omega
      have hu1 : u ≤ 9223372036854775808 := by omega
      have h0' : 0 ≤ bp := by omega
      have h1' : bp ≤ 100000 := by omega
      clear h0 h1
      obtain ⟨a1, a2, a3, a4, a5, a6, a7, a8, a9⟩ := rate_bd u bp 10000 hu0 (by omega) (by omega) (by omega) (by omega)
      have hro : rateOut u bp 10000 = u / 10000 * bp + (u % 10000 * bp + 5000) / 10000 := by unfold rateOut; rw [half_eq]
      rw [half_eq] at a8 a9
      have b6 : 0 ≤ u % 10000 * bp := Int.mul_nonneg a3 h0'
      have b7 : u % 10000 * bp ≤ 11000000000 := by rw [Int.mul_assoc] at a7; omega
      clear a6 a7
      have HO := Lib.hid hro
      clear hro
      have hu2 : ((n.natAbs : Nat) : Int) = u := hu.symm
      clear hu
      have HU := Lib.hid hu2
      clear hu2
      by_cases hp : 0 < bp
      · by_cases hov : 9223372036854775807 / bp < u / 10000
        · have hov' := (rate_over _ _ hp).1 hov
          have HR2 := HR.out.trans (if_pos (by rw [HO.out]; omega))
          have HR3 := Lib.hid HR2
          clear HR2 HR HO
          go_enter Try.func14, Try.ntmps14
          go_wp2_with fail
          refine (size_any n _ hn').mono ?_
          rintro e w1 ⟨rfl, rfl⟩
          rw [HU.out]
          go_wp2
          go_ret2
          exact ⟨ret2i HR3.out, (by repeat (first | exact Ext.refl _ | assumption | refine Ext.trans ?_ (by assumption) | refine Ext.alloc ?_ _ | refine Ext.drew ?_ | refine Ext.drewN ?_ _))⟩
        · have hov' : u / 10000 * bp ≤ 9223372036854775807 := by have := rate_over (u / 10000) bp hp; omega
          by_cases hbig : 9223372036854775807 < u / 10000 * bp + (u % 10000 * bp + 5000) / 10000
          · have HR2 := HR.out.trans (if_pos (by rw [HO.out]; exact hbig))
            have HR3 := Lib.hid HR2
            clear HR2 HR HO
            go_enter Try.func14, Try.ntmps14
            go_wp2_with fail
            refine (size_any n _ hn').mono ?_
            rintro e w1 ⟨rfl, rfl⟩
            rw [HU.out]
            go_wp2
            go_ret2
            exact ⟨ret2i HR3.out, (by repeat (first | exact Ext.refl _ | assumption | refine Ext.trans ?_ (by assumption) | refine Ext.alloc ?_ _ | refine Ext.drew ?_ | refine Ext.drewN ?_ _))⟩
          · have HR2 := HR.out.trans (if_neg (by rw [HO.out]; exact hbig))
            rw [HO.out] at HR2
            by_cases hneg : n < 0
            all_goals
              first
                | rw [if_pos hneg] at HR2
                | rw [if_neg hneg] at HR2
              have HR3 := Lib.hid HR2
              clear HR2 HR HO
              go_enter Try.func14, Try.ntmps14
              go_wp2_with fail
              refine (size_any n _ hn').mono ?_
              rintro e w1 ⟨rfl, rfl⟩
              rw [HU.out]
              go_wp2
              go_ret2
              exact ⟨ret2i HR3.out, (by repeat (first | exact Ext.refl _ | assumption | refine Ext.trans ?_ (by assumption) | refine Ext.alloc ?_ _ | refine Ext.drew ?_ | refine Ext.drewN ?_ _))⟩
      · obtain rfl : bp = 0 := by omega
        have hz : rateOut u 0 10000 = 0 := by
          unfold rateOut
          rw [Int.mul_zero, Int.mul_zero, Int.zero_add, Int.zero_add]
          exact Int.ediv_eq_zero_of_lt (by omega) (by omega)
        have HR2 := HR.out.trans (if_neg (by rw [hz]; decide))
        rw [hz] at HR2
        have HR3 : Hid (shareR _ 0 10000 = (0, 0)) := HR2.trans (by split <;> rfl)
        clear HR2 HR HO hz
        go_enter Try.func14, Try.ntmps14
        go_wp2_with fail
        refine (size_any n _ hn').mono ?_
        rintro e w1 ⟨rfl, rfl⟩
        rw [HU.out]
        by_cases hneg : n < 0
        all_goals
          go_wp2
          go_ret2
          exact ⟨ret2i HR3.out, (by repeat (first | exact Ext.refl _ | assumption | refine Ext.trans ?_ (by assumption) | refine Ext.alloc ?_ _ | refine Ext.drew ?_ | refine Ext.drewN ?_ _))⟩

theorem within_small (u bp : Int) (hu : 0 ≤ u) (hu1 : u ≤ 9223372036854775808) (h0 : 0 ≤ bp) (h1 : bp ≤ 100000) : rateOut u bp (10000 + bp) ≤ 9223372036854775807 := by
  unfold rateOut
  obtain ⟨a1, a2, a3, a4, a5, a6, a7, a8, a9⟩ := rate_bd u bp (10000 + bp) hu (by omega) (by omega) h0 h1
  have e := Int.mul_ediv_add_emod u (10000 + bp)
  have hx0 : u / (10000 + bp) = 0 → u / (10000 + bp) * bp = 0 := fun h => by rw [h]; simp
  generalize u / (10000 + bp) = q at *
  generalize u % (10000 + bp) = r at *
  rw [Int.add_mul, Int.mul_comm bp q] at e
  generalize q * bp = x at *
  have k : (2 * r * bp + (10000 + bp)) / (2 * (10000 + bp)) ≤ r := by
    have : (2 * r * bp + (10000 + bp)) / (2 * (10000 + bp)) < r + 1 := by
      rw [Int.ediv_lt_iff_lt_mul (by omega)]
      have : (r + 1) * (2 * (10000 + bp)) = 2 * r * bp + 20000 * r + 20000 + 2 * bp := by
        rw [Int.add_mul, Int.mul_add, Int.mul_add, Int.mul_assoc 2 r bp, Int.mul_left_comm r 2 bp, Int.mul_comm r]
        omega
      omega
    omega
  by_cases hq : q = 0
  · have := hx0 hq
    omega
  · omega

set_option maxHeartbeats 1000000 in
theorem refWithin_any (n bp : Int) (w : World) (hn : In64 n) :
    Calls Try.prog 15 #[.int .i64 n, .int .i64 bp] w fun e w' => e = .returned (.tuple #[.int .i64 (shareR n bp (10000 + bp)).1, .int .i64 (shareR n bp (10000 + bp)).2]) ∧ Ext w w' := by
  have hn' := hn
  obtain ⟨hn0, hn1⟩ := hn
  by_cases h0 : bp < 0
  · have HR := Lib.hid (shareR_bad n bp (10000 + bp) (.inl h0))
    go_enter Try.func15, Try.ntmps15
    go_wp2
    go_ret2
    exact ⟨ret2i HR.out, Ext.refl _⟩
  · by_cases h1 : 100000 < bp
    · have HR := Lib.hid (shareR_bad n bp (10000 + bp) (.inr h1))
      go_enter Try.func15, Try.ntmps15
      go_wp2
      go_ret2
      exact ⟨ret2i HR.out, Ext.refl _⟩
    · obtain ⟨u, hu⟩ : ∃ u : Int, u = n.natAbs := ⟨_, rfl⟩
      have h0' : 0 ≤ bp := by omega
      have h1' : bp ≤ 100000 := by omega
      have hu0 : 0 ≤ u := by omega
      have hu1 : u ≤ 9223372036854775808 := by omega
      have hs := within_small u bp hu0 hu1 h0' h1'
      have hr : shareR n bp (10000 + bp) = (if n < 0 then -rateOut u bp (10000 + bp) else rateOut u bp (10000 + bp), 0) := by
        unfold shareR; rw [if_neg (by omega), ← hu, if_neg (by omega)]
      unfold rateOut at hr hs
      have HR := Lib.hid hr
      clear hr
      clear h0 h1
      have hd1 : 10000 ≤ 10000 + bp := by omega
      have hd2 : 10000 + bp ≤ 110000 := by omega
      obtain ⟨a1, a2, a3, a4, a5, a6, a7, a8, a9⟩ := rate_bd u bp (10000 + bp) hu0 hd1 hd2 h0' h1'
      have hu2 : ((n.natAbs : Nat) : Int) = u := hu.symm
      clear hu
      have HU := Lib.hid hu2
      clear hu2
      by_cases hneg : n < 0
      all_goals
        go_enter Try.func15, Try.ntmps15
        go_wp2_with fail
        refine (size_any n _ hn').mono ?_
        rintro e w1 ⟨rfl, rfl⟩
        rw [HU.out]
        go_wp2
        go_quiet (fail)
        go_wp2
        go_ret2
        refine ⟨ret2i (HR.out.trans ?_), (by repeat (first | exact Ext.refl _ | assumption | refine Ext.trans ?_ (by assumption) | refine Ext.alloc ?_ _ | refine Ext.drew ?_ | refine Ext.drewN ?_ _))⟩
        first
          | rw [if_pos hneg]
          | rw [if_neg (by omega)]
end Go.Proofs.Ytbkmgjblflhgiaa
