/- Plain laws of shares: no function of the program is named. -/
import Derived.Test.YtbkmgjblflhgiaaRateB
namespace Go.Proofs.Ytbkmgjblflhgiaa
open Go.RowKit

theorem rateOut_eq (u bp d : Int) (hd : 0 < d) : rateOut u bp d = (2 * (u * bp) + d) / (2 * d) := by
  unfold rateOut
  have e := Int.mul_ediv_add_emod u d
  have h : 2 * (u * bp) + d = (2 * (u % d) * bp + d) + (2 * d) * (u / d * bp) := by
    have : u * bp = d * (u / d) * bp + u % d * bp := by rw [← Int.add_mul, e]
    rw [this, Int.mul_add, Int.mul_assoc 2 (u % d) bp, Int.mul_assoc d, Int.mul_assoc 2 d]
    omega
  rw [h, Int.add_mul_ediv_left _ _ (by omega)]
  omega

/-- The share of an amount that is not too large: T, with its bounds. -/
theorem tax_lin (k r : Int) (hk : 0 ≤ k) (hk1 : k ≤ 70368744177664) (hr : 0 ≤ r) (hr1 : r ≤ 100000) :
    ∃ T, shareR k r 10000 = (T, 0) ∧ 0 ≤ T ∧ 0 ≤ k * r ∧ k * r ≤ 7036874417766400000 ∧ T * 10000 ≤ k * r + 5000 ∧ k * r + 5000 < T * 10000 + 10000 ∧ T = (2 * (k * r) + 10000) / 20000 := by
  have h0 : 0 ≤ k * r := Int.mul_nonneg hk hr
  have h1 : k * r ≤ 70368744177664 * 100000 := Int.mul_le_mul hk1 hr1 hr (by omega)
  have e : rateOut k r 10000 = (2 * (k * r) + 10000) / 20000 := rateOut_eq k r 10000 (by omega)
  have hab : ((k.natAbs : Nat) : Int) = k := by omega
  refine ⟨(2 * (k * r) + 10000) / 20000, ?_, ?_, h0, by omega, ?_, ?_, rfl⟩
  · unfold shareR
    rw [if_neg (by omega), hab, e, if_neg (by omega), if_neg (by omega)]
  · omega
  · omega
  · omega

/-- The share that is in an amount: T, with its bounds. -/
theorem within_lin (k r : Int) (hk : 0 ≤ k) (hk1 : k ≤ 70368744177664) (hr : 0 ≤ r) (hr1 : r ≤ 100000) :
    ∃ T, shareR k r (10000 + r) = (T, 0) ∧ 0 ≤ T ∧ T ≤ k ∧ 20000 * T + 2 * (T * r) ≤ 2 * (k * r) + 10000 + r ∧ 2 * (k * r) < 20000 * T + 2 * (T * r) + 10000 + r ∧ T = (2 * (k * r) + (10000 + r)) / (2 * (10000 + r)) := by
  have h0 : 0 ≤ k * r := Int.mul_nonneg hk hr
  have h1 : k * r ≤ 70368744177664 * 100000 := Int.mul_le_mul hk1 hr1 hr (by omega)
  have e := rateOut_eq k r (10000 + r) (by omega)
  have hab : ((k.natAbs : Nat) : Int) = k := by omega
  have hs := within_small k r hk (by omega) hr hr1
  have hT0 : 0 ≤ rateOut k r (10000 + r) := by rw [e]; exact Int.ediv_nonneg (by omega) (by omega)
  have b1 := Int.mul_ediv_add_emod (2 * (k * r) + (10000 + r)) (2 * (10000 + r))
  have b2 := Int.emod_nonneg (2 * (k * r) + (10000 + r)) (by omega : 2 * (10000 + r) ≠ 0)
  have b3 := Int.emod_lt_of_pos (2 * (k * r) + (10000 + r)) (by omega : 0 < 2 * (10000 + r))
  rw [← e] at b1
  have hT := e
  generalize rateOut k r (10000 + r) = T at *
  have c : 2 * (10000 + r) * T = 20000 * T + 2 * (T * r) := by
    rw [Int.mul_assoc, Int.add_mul, Int.mul_comm r T]
    omega
  rw [c] at b1
  refine ⟨T, ?_, hT0, ?_, by omega, by omega, hT⟩
  · unfold shareR
    rw [if_neg (by omega), hab]
    have e2 : rateOut k r (10000 + r) = T := by rw [rateOut_eq k r (10000 + r) (by omega), ← hT]
    rw [e2, if_neg (by omega), if_neg (by omega)]
  · rw [hT]
    have : (2 * (k * r) + (10000 + r)) / (2 * (10000 + r)) < k + 1 := by
      rw [Int.ediv_lt_iff_lt_mul (by omega)]
      have : (k + 1) * (2 * (10000 + r)) = 20000 * k + 2 * (k * r) + 20000 + 2 * r := by
        rw [Int.add_mul, Int.mul_left_comm, Int.mul_add]
        omega
      omega
    omega

theorem shareR_neg (n bp d : Int) (h : -9223372036854775808 < n) (h0 : rateOut 0 bp d = 0) : shareR (-n) bp d = (-(shareR n bp d).1, (shareR n bp d).2) := by
  unfold shareR
  have e : ((-n).natAbs : Int) = n.natAbs := by omega
  rw [e]
  by_cases hb : bp < 0 ∨ 100000 < bp
  · rw [if_pos hb, if_pos hb]; rfl
  · rw [if_neg hb, if_neg hb]
    by_cases ho : 9223372036854775807 < rateOut n.natAbs bp d
    · rw [if_pos ho, if_pos ho]; rfl
    · rw [if_neg ho, if_neg ho]
      rcases (by omega : n < 0 ∨ n = 0 ∨ 0 < n) with h | h | h
      · rw [if_neg (by omega), if_pos h]; simp
      · subst h; simp [h0]
      · rw [if_pos (by omega), if_neg (by omega)]
theorem rateOut_zero (bp d : Int) (hd : 0 < d) : rateOut 0 bp d = 0 := by
  rw [rateOut_eq _ _ _ hd, Int.zero_mul, Int.mul_zero, Int.zero_add]
  exact Int.ediv_eq_zero_of_lt (by omega) (by omega)

theorem div_cross (a b c d : Int) (hb : 0 < b) (hd : 0 < d) (h : a * d ≤ c * b) : a / b ≤ c / d := by
  rw [Int.le_ediv_iff_mul_le hd]
  have h1 : a / b * b ≤ a := Int.ediv_mul_le a (by omega)
  have h2 : a / b * b * d ≤ a * d := Int.mul_le_mul_of_nonneg_right h1 (by omega)
  have h3 : a / b * d * b ≤ c * b := by rw [Int.mul_right_comm]; omega
  exact Int.le_of_mul_le_mul_right h3 hb

theorem tax_mono (k k' r r' : Int) (hk : 0 ≤ k) (h1 : k ≤ k') (hr : 0 ≤ r) (h2 : r ≤ r') : (2 * (k * r) + 10000) / 20000 ≤ (2 * (k' * r') + 10000) / 20000 := by
  have : k * r ≤ k' * r' := Int.mul_le_mul h1 h2 hr (by omega)
  exact Int.ediv_le_ediv (by omega) (by omega)
theorem within_mono (k k' r r' : Int) (hk : 0 ≤ k) (h1 : k ≤ k') (hr : 0 ≤ r) (h2 : r ≤ r') :
    (2 * (k * r) + (10000 + r)) / (2 * (10000 + r)) ≤ (2 * (k' * r') + (10000 + r')) / (2 * (10000 + r')) := by
  have s1 : (2 * (k * r) + (10000 + r)) / (2 * (10000 + r)) ≤ (2 * (k' * r) + (10000 + r)) / (2 * (10000 + r)) := by
    have : k * r ≤ k' * r := Int.mul_le_mul_of_nonneg_right h1 hr
    exact Int.ediv_le_ediv (by omega) (by omega)
  refine Int.le_trans s1 (div_cross _ _ _ _ (by omega) (by omega) ?_)
  have e1 : (2 * (k' * r) + (10000 + r)) * (2 * (10000 + r')) = 40000 * (k' * r) + 4 * (k' * (r * r')) + 2 * ((10000 + r) * (10000 + r')) := by
    rw [Int.add_mul, show 2 * (k' * r) * (2 * (10000 + r')) = 40000 * (k' * r) + 4 * (k' * (r * r')) from by
      rw [← Int.mul_assoc k' r r', show 2 * (k' * r) * (2 * (10000 + r')) = 4 * ((k' * r) * (10000 + r')) from by
        generalize k' * r = x
        generalize (10000 + r') = y
        rw [Int.mul_assoc, Int.mul_left_comm x 2 y]
        omega, Int.mul_add]
      omega, Int.mul_left_comm (10000 + r) 2 (10000 + r')]
  have e2 : (2 * (k' * r') + (10000 + r')) * (2 * (10000 + r)) = 40000 * (k' * r') + 4 * (k' * (r * r')) + 2 * ((10000 + r) * (10000 + r')) := by
    rw [Int.add_mul, show 2 * (k' * r') * (2 * (10000 + r)) = 40000 * (k' * r') + 4 * (k' * (r * r')) from by
      rw [Int.mul_comm r r', ← Int.mul_assoc k' r' r, show 2 * (k' * r') * (2 * (10000 + r)) = 4 * ((k' * r') * (10000 + r)) from by
        generalize k' * r' = x
        generalize (10000 + r) = y
        rw [Int.mul_assoc, Int.mul_left_comm x 2 y]
        omega, Int.mul_add]
      omega, Int.mul_left_comm (10000 + r') 2 (10000 + r), Int.mul_comm (10000 + r') (10000 + r)]
  rw [e1, e2]
  have : k' * r ≤ k' * r' := Int.mul_le_mul_of_nonneg_left h2 (by omega)
  omega

theorem whole_eq (n : Int) (h0 : -9223372036854775808 < n) (h1 : n ≤ 9223372036854775807) : shareR n 10000 10000 = (n, 0) := by
  unfold shareR
  rw [if_neg (by omega)]
  have e : rateOut n.natAbs 10000 10000 = n.natAbs := by rw [rateOut_eq _ _ _ (by omega)]; omega
  rw [e, if_neg (by omega)]
  split
  · have : -((n.natAbs : Nat) : Int) = n := by omega
    rw [this]
  · have : ((n.natAbs : Nat) : Int) = n := by omega
    rw [this]
theorem none_eq (n d : Int) (hd : 0 < d) : shareR n 0 d = (0, 0) := by
  unfold shareR
  rw [if_neg (by omega)]
  have e : rateOut n.natAbs 0 d = 0 := by
    rw [rateOut_eq _ _ _ hd, Int.mul_zero, Int.mul_zero, Int.zero_add]
    exact Int.ediv_eq_zero_of_lt (by omega) (by omega)
  rw [e, if_neg (by omega)]
  split <;> rfl
theorem err_iff (n bp d : Int) : ((shareR n bp d).2 == 1) = (decide (bp < 0) || decide (100000 < bp)) := by
  unfold shareR
  by_cases hb : bp < 0 ∨ 100000 < bp
  · rw [if_pos hb]
    rcases hb with hb | hb <;> simp [hb]
  · rw [if_neg hb]
    have h1 : ¬ bp < 0 := by omega
    have h2 : ¬ 100000 < bp := by omega
    simp only [h1, h2]
    split <;> rfl
end Go.Proofs.Ytbkmgjblflhgiaa
