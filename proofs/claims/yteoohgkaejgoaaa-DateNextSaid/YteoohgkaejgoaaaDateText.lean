/- Plain law: the texts of two right days stand in their days' order; the day behind a day. -/
import Derived.Test.YteoohgkaejgoaaaDateLawA
namespace Go.Proofs.Yteoohgkaejgoaaa
open Go.RowKit
open Go.Op (bytesLess)

theorem dig_lt (a b : Nat) : decide (dig a < dig b) = decide (a % 10 < b % 10) := by
  rw [decide_eq_decide, UInt8.lt_iff_toNat_lt, dig_nat, dig_nat]
  omega
theorem dig_eq (a b : Nat) : (dig a == dig b) = decide (a % 10 = b % 10) := by
  rw [Bool.eq_iff_iff, beq_iff_eq, decide_eq_true_iff, ← UInt8.toNat_inj, dig_nat, dig_nat]
  omega
theorem mod_step (a k : Nat) : a % 10 ^ (k + 1) = a / 10 ^ k % 10 * 10 ^ k + a % 10 ^ k := by
  rw [Nat.pow_succ, Nat.mod_mul, Nat.mul_comm (10 ^ k), Nat.add_comm]
theorem digs_less : ∀ (k a b : Nat) (s t : List UInt8), bytesLess (digs a k ++ s) (digs b k ++ t) = (decide (a % 10 ^ k < b % 10 ^ k) || (decide (a % 10 ^ k = b % 10 ^ k) && bytesLess s t))
  | 0, a, b, s, t => by simp [digs, Nat.mod_one]
  | k + 1, a, b, s, t => by
    have ih := digs_less k a b s t
    simp only [digs, List.cons_append, bytesLess, ih, dig_lt, dig_eq, mod_step]
    have h1 : a % 10 ^ k < 10 ^ k := Nat.mod_lt _ (Nat.pow_pos (by decide))
    have h2 : b % 10 ^ k < 10 ^ k := Nat.mod_lt _ (Nat.pow_pos (by decide))
    generalize a / 10 ^ k % 10 = A at *
    generalize b / 10 ^ k % 10 = B at *
    generalize a % 10 ^ k = x at *
    generalize b % 10 ^ k = y at *
    generalize 10 ^ k = p at *
    rcases Nat.lt_trichotomy A B with h | h | h
    · have hm : A * p + p ≤ B * p := by rw [← Nat.succ_mul]; exact Nat.mul_le_mul_right _ h
      rw [decide_eq_true h, decide_eq_true (by omega : A * p + x < B * p + y)]
      simp
    · subst h
      simp
    · have hm : B * p + p ≤ A * p := by rw [← Nat.succ_mul]; exact Nat.mul_le_mul_right _ h
      rw [decide_eq_false (by omega : ¬ A < B), decide_eq_false (by omega : ¬ A = B), decide_eq_false (by omega : ¬ A * p + x < B * p + y), decide_eq_false (by omega : ¬ A * p + x = B * p + y)]
      simp
theorem less_sep (s t : List UInt8) : bytesLess (45 :: s) (45 :: t) = bytesLess s t := by simp [bytesLess]
theorem less_nil : bytesLess [] [] = false := rfl

theorem showL_less (y m d y' m' d' : Int) : bytesLess (showL y m d) (showL y' m' d') =
    (decide (y.toNat % 10000 < y'.toNat % 10000) || (decide (y.toNat % 10000 = y'.toNat % 10000) && (decide (m.toNat % 100 < m'.toNat % 100) || (decide (m.toNat % 100 = m'.toNat % 100) && decide (d.toNat % 100 < d'.toNat % 100))))) := by
  unfold showL
  have e : ∀ a b c : Nat, digs a 4 ++ [45] ++ digs b 2 ++ [45] ++ digs c 2 = digs a 4 ++ (45 :: (digs b 2 ++ (45 :: (digs c 2 ++ [])))) := fun a b c => by simp
  rw [e, e, digs_less, less_sep, digs_less, less_sep, digs_less, less_nil]
  simp

/-- The texts of two right days are in their days' order. -/
theorem show_less {n n' y m d y' m' d' : Int} (h : IsDay n y m d) (h' : IsDay n' y' m' d') : bytesLess (showL y m d) (showL y' m' d') = decide (n < n') := by
  have b := isDay_bd h
  have b' := isDay_bd h'
  obtain ⟨a1, a2, a3, a4, a5, a6⟩ := dayB_of h.1
  obtain ⟨c1, c2, c3, c4, c5, c6⟩ := dayB_of h'.1
  have l1 := lenI_bd y m
  have l2 := lenI_bd y' m'
  have e := h.2
  have e' := h'.2
  rw [showL_less]
  have q1 : y.toNat % 10000 = y.toNat := Nat.mod_eq_of_lt (by omega)
  have q2 : y'.toNat % 10000 = y'.toNat := Nat.mod_eq_of_lt (by omega)
  have q3 : m.toNat % 100 = m.toNat := Nat.mod_eq_of_lt (by omega)
  have q4 : m'.toNat % 100 = m'.toNat := Nat.mod_eq_of_lt (by omega)
  have q5 : d.toNat % 100 = d.toNat := Nat.mod_eq_of_lt (by omega)
  have q6 : d'.toNat % 100 = d'.toNat := Nat.mod_eq_of_lt (by omega)
  rw [q1, q2, q3, q4, q5, q6]
  rcases Int.lt_trichotomy y y' with k | k | k
  · have := aheadI_mono (y + 1) y' (by omega) (by omega)
    rw [decide_eq_true (by omega : y.toNat < y'.toNat), decide_eq_true (by omega : n < n')]; rfl
  · subst k
    rw [decide_eq_false (by omega : ¬ y.toNat < y.toNat), decide_eq_true rfl]
    rcases Int.lt_trichotomy m m' with k | k | k
    · have := cumI_mono y (m + 1) m' (by omega) (by omega) c4
      rw [decide_eq_true (by omega : m.toNat < m'.toNat), decide_eq_true (by omega : n < n')]; rfl
    · subst k
      unfold numI at e e'
      rw [decide_eq_false (by omega : ¬ m.toNat < m.toNat), decide_eq_true rfl]
      simp only [Bool.false_or, Bool.true_and]
      rw [decide_eq_decide]
      omega
    · have := cumI_mono y (m' + 1) m (by omega) (by omega) a4
      rw [decide_eq_false (by omega : ¬ m.toNat < m'.toNat), decide_eq_false (by omega : ¬ m.toNat = m'.toNat), decide_eq_false (by omega : ¬ n < n')]; rfl
  · have := aheadI_mono (y' + 1) y (by omega) (by omega)
    rw [decide_eq_false (by omega : ¬ y.toNat < y'.toNat), decide_eq_false (by omega : ¬ y.toNat = y'.toNat), decide_eq_false (by omega : ¬ n < n')]; rfl

/-- The day behind a day. -/
theorem next_day {n y m d y' m' d' : Int} (h : IsDay n y m d) (h' : IsDay (n + 1) y' m' d') (hn : n ≤ 3652057) :
    (y' = y ∧ m' = m ∧ d' = d + 1) ∨ (y' = y ∧ m' = m + 1 ∧ d' = 1 ∧ m < 12 ∧ 28 ≤ d) ∨ (y' = y + 1 ∧ m' = 1 ∧ d' = 1 ∧ m = 12 ∧ 28 ≤ d) := by
  obtain ⟨a1, a2, a3, a4, a5, a6⟩ := dayB_of h.1
  have l1 := lenI_bd y m
  have e := h.2
  unfold numI at e
  by_cases hd : d < lenI y m
  · left
    have hh : IsDay (n + 1) y m (d + 1) := ⟨dayB_mk ⟨a1, a2, a3, a4, by omega, by omega⟩, by unfold numI; omega⟩
    obtain ⟨r1, r2, r3⟩ := isDay_eq h' hh
    exact ⟨r1, r2, r3⟩
  · have hl : d = lenI y m := by omega
    have hs := cumI_succ y m a3 a4
    by_cases hm : m < 12
    · right; left
      have l2 := lenI_bd y (m + 1)
      have hh : IsDay (n + 1) y (m + 1) 1 := ⟨dayB_mk ⟨a1, a2, by omega, by omega, by omega, by omega⟩, by unfold numI; omega⟩
      obtain ⟨r1, r2, r3⟩ := isDay_eq h' hh
      exact ⟨r1, r2, r3, hm, by omega⟩
    · right; right
      obtain rfl : m = 12 := by omega
      have h13 : cumI y 13 = 365 + lpI y := by unfold cumI; repeat (rw [if_neg (by omega)])
      have hs2 := aheadI_succ y (by omega)
      have hy : y + 1 ≤ 9999 := by
        rcases (by omega : y + 1 ≤ 9999 ∨ y = 9999) with k | k
        · exact k
        · subst k
          have : aheadI (9999 + 1) = 3652059 := by decide
          have h13' : cumI 9999 (12 + 1) = cumI 9999 13 := rfl
          omega
      have l2 := lenI_bd (y + 1) 1
      have hc1 : cumI (y + 1) 1 = 0 := by unfold cumI; rw [if_pos (by omega)]
      have h13' : cumI y (12 + 1) = cumI y 13 := rfl
      have hh : IsDay (n + 1) (y + 1) 1 1 := ⟨dayB_mk ⟨by omega, hy, by omega, by omega, by omega, by omega⟩, by unfold numI; omega⟩
      obtain ⟨r1, r2, r3⟩ := isDay_eq h' hh
      exact ⟨r1, r2, r3, rfl, by omega⟩
end Go.Proofs.Yteoohgkaejgoaaa
