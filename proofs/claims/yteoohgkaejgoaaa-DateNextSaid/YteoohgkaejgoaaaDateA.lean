/- Days: plain numbers of days, and the contracts of package date's inner functions. -/
import Derived.Test.YteoohgkaejgoaaaProg
import Derived.Test.YteoohgkaejgoaaaBase
namespace Go.Proofs.Yteoohgkaejgoaaa
open Go.RowKit

def leapB (y : Int) : Bool := (y % 4 == 0) && ((y % 100 != 0) || (y % 400 == 0))
def lpI (y : Int) : Int := if leapB y then 1 else 0
def lenI (y m : Int) : Int := if m = 2 then 28 + lpI y else if m = 4 ∨ m = 6 ∨ m = 9 ∨ m = 11 then 30 else 31
def aheadI (y : Int) : Int := 365 * (y - 1) + (y - 1) / 4 - (y - 1) / 100 + (y - 1) / 400
def cumI (y m : Int) : Int :=
  if m ≤ 1 then 0 else if m = 2 then 31 else if m = 3 then 59 + lpI y else if m = 4 then 90 + lpI y else if m = 5 then 120 + lpI y else if m = 6 then 151 + lpI y else if m = 7 then 181 + lpI y
  else if m = 8 then 212 + lpI y else if m = 9 then 243 + lpI y else if m = 10 then 273 + lpI y else if m = 11 then 304 + lpI y else if m = 12 then 334 + lpI y else 365 + lpI y
def dayB (y m d : Int) : Bool := decide (1 ≤ y) && (decide (y ≤ 9999) && (decide (1 ≤ m) && (decide (m ≤ 12) && (decide (1 ≤ d) && decide (d ≤ lenI y m)))))
def numI (y m d : Int) : Int := aheadI y + cumI y m + d - 1
def daysI (y m d : Int) : Int := if dayB y m d then numI y m d else -1

theorem lpI_bd (y : Int) : 0 ≤ lpI y ∧ lpI y ≤ 1 := by unfold lpI; split <;> decide
theorem lenI_bd (y m : Int) : 28 ≤ lenI y m ∧ lenI y m ≤ 31 := by
  have := lpI_bd y
  unfold lenI
  split
  · omega
  · split <;> decide
theorem months {m : Int} (h1 : 1 ≤ m) (h2 : m ≤ 12) : m = 1 ∨ m = 2 ∨ m = 3 ∨ m = 4 ∨ m = 5 ∨ m = 6 ∨ m = 7 ∨ m = 8 ∨ m = 9 ∨ m = 10 ∨ m = 11 ∨ m = 12 := by omega
theorem cumI_succ (y m : Int) (h1 : 1 ≤ m) (h2 : m ≤ 12) : cumI y (m + 1) = cumI y m + lenI y m := by
  obtain rfl | rfl | rfl | rfl | rfl | rfl | rfl | rfl | rfl | rfl | rfl | rfl := months h1 h2
  all_goals simp [cumI, lenI]
  all_goals omega
theorem cumI_bd (y m : Int) (h1 : 1 ≤ m) (h2 : m ≤ 13) : 0 ≤ cumI y m ∧ cumI y m ≤ 366 := by
  have := lpI_bd y
  rcases (by omega : m = 13 ∨ m ≤ 12) with rfl | h2
  · simp [cumI]; omega
  · obtain rfl | rfl | rfl | rfl | rfl | rfl | rfl | rfl | rfl | rfl | rfl | rfl := months h1 h2
    all_goals simp [cumI]
    all_goals omega
theorem aheadI_succ (y : Int) (h : 0 ≤ y) : aheadI (y + 1) = aheadI y + 365 + lpI y := by
  unfold aheadI lpI leapB
  rw [show y + 1 - 1 = y from by omega]
  by_cases a : y % 4 = 0 <;> by_cases b : y % 100 = 0 <;> by_cases c : y % 400 = 0 <;> simp [a, b, c] <;> omega
theorem aheadI_bd (y : Int) (h : 1 ≤ y) (h2 : y ≤ 10000) : 0 ≤ aheadI y ∧ aheadI y ≤ 3652059 := by unfold aheadI; omega
theorem aheadI_mono (a b : Int) (h : 1 ≤ a) (h2 : a ≤ b) : aheadI a ≤ aheadI b := by unfold aheadI; omega

theorem leapB_cases (y : Int) (h : 0 ≤ y) : (y.tmod 4 = y % 4) ∧ (y.tmod 100 = y % 100) ∧ (y.tmod 400 = y % 400) :=
  ⟨Int.tmod_eq_emod_of_nonneg h, Int.tmod_eq_emod_of_nonneg h, Int.tmod_eq_emod_of_nonneg h⟩

theorem leap_any (y : Int) (w : World) (h : 0 ≤ y) (h1 : y ≤ 10000) : Calls Try.prog 29 #[.int .i64 y] w fun e w' => e = .returned (.bool (leapB y)) ∧ w = w' := by
  have hb : leapB y = ((y % 4 == 0) && ((y % 100 != 0) || (y % 400 == 0))) := rfl
  have HB := Lib.hid hb
  clear hb
  cases a : (y % 4 == 0) <;> cases b : (y % 100 != 0)
  all_goals
    go_enter Try.func29, Try.ntmps29
    go_wp2
    go_ret
    exact ⟨by rw [HB.out]; simp_all, rfl⟩

set_option maxHeartbeats 400000 in
theorem length_any (y m : Int) (w : World) (h : 0 ≤ y) (h1 : y ≤ 10000) : Calls Try.prog 25 #[.int .i64 y, .int .i64 m] w fun e w' => e = .returned (.int .i64 (lenI y m)) ∧ w = w' := by
  by_cases h2 : m = 2
  · subst h2
    cases hl : leapB y
    all_goals
      have hv : lenI y 2 = 28 + lpI y := rfl
      unfold lpI at hv
      rw [hl] at hv
      have HV := Lib.hid hv
      clear hv
      go_enter Try.func25, Try.ntmps25
      go_wp2_with (go_at_call 29; refine (leap_any _ _ h h1).mono ?_; rintro e w' ⟨rfl, rfl⟩)
      go_ret
      exact ⟨by rw [HV.out]; rfl, rfl⟩
  · have e2 : (m == 2) = false := by simp [h2]
    by_cases h4 : m = 4
    · subst h4
      go_enter Try.func25, Try.ntmps25
      go_wp2
      go_ret
      exact ⟨rfl, rfl⟩
    · have e4 : (m == 4) = false := by simp [h4]
      by_cases h6 : m = 6
      · subst h6
        go_enter Try.func25, Try.ntmps25
        go_wp2
        go_ret
        exact ⟨rfl, rfl⟩
      · have e6 : (m == 6) = false := by simp [h6]
        by_cases h9 : m = 9
        · subst h9
          go_enter Try.func25, Try.ntmps25
          go_wp2
          go_ret
          exact ⟨rfl, rfl⟩
        · have e9 : (m == 9) = false := by simp [h9]
          by_cases h11 : m = 11
          · subst h11
            go_enter Try.func25, Try.ntmps25
            go_wp2
            go_ret
            exact ⟨rfl, rfl⟩
          · have e11 : (m == 11) = false := by simp [h11]
            have hv : lenI y m = 31 := by unfold lenI; rw [if_neg h2, if_neg (by omega)]
            have HV := Lib.hid hv
            clear hv h2 h4 h6 h9 h11
            go_enter Try.func25, Try.ntmps25
            go_wp2
            go_ret
            exact ⟨by rw [HV.out]; rfl, rfl⟩

theorem ahead_any (y : Int) (w : World) (h : 1 ≤ y) (h1 : y ≤ 10000) : Calls Try.prog 24 #[.int .i64 y] w fun e w' => e = .returned (.int .i64 (aheadI y)) ∧ w = w' := by
  go_enter Try.func24, Try.ntmps24
  go_wp2
  go_ret
  exact ⟨rfl, rfl⟩
end Go.Proofs.Yteoohgkaejgoaaa
