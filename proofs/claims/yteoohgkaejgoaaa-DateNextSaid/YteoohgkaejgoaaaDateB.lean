/- Contracts of date.Right and date.Days. -/
import Derived.Test.YteoohgkaejgoaaaDateA
namespace Go.Proofs.Yteoohgkaejgoaaa
open Go.RowKit

set_option maxHeartbeats 1000000 in
theorem dateRight_any (y m d : Int) (w : World) : Calls Try.prog 19 #[.agg #[.int .i64 y, .int .i64 m, .int .i64 d]] w fun e w' => e = .returned (.bool (dayB y m d)) ∧ Ext w w' := by
  have hb : dayB y m d = (decide (1 ≤ y) && (decide (y ≤ 9999) && (decide (1 ≤ m) && (decide (m ≤ 12) && (decide (1 ≤ d) && decide (d ≤ lenI y m)))))) := rfl
  have HB := Lib.hid hb
  clear hb
  by_cases h1 : 1 ≤ y
  · by_cases h2 : y ≤ 9999
    · by_cases h3 : 1 ≤ m
      · by_cases h4 : m ≤ 12
        · by_cases h5 : 1 ≤ d
          · go_enter Try.func19, Try.ntmps19
            go_wp2
            go_quiet ((go_at_call 25; exact quiet_eq (length_any _ _ _ (by omega) (by omega))))
            go_wp2
            go_ret
            exact ⟨by rw [HB.out]; simp [h1, h2, h3, h4, h5], (by repeat (first | exact Ext.refl _ | assumption | refine Ext.trans ?_ (by assumption) | refine Ext.alloc ?_ _ | refine Ext.drew ?_ | refine Ext.drewN ?_ _))⟩
          · have h5' : decide (1 ≤ d) = false := decide_eq_false h5
            go_enter Try.func19, Try.ntmps19
            go_wp2
            go_quiet (fail)
            go_wp2
            go_ret
            exact ⟨by rw [HB.out]; simp [h5'], (by repeat (first | exact Ext.refl _ | assumption | refine Ext.trans ?_ (by assumption) | refine Ext.alloc ?_ _ | refine Ext.drew ?_ | refine Ext.drewN ?_ _))⟩
        · have h4' : decide (m ≤ 12) = false := decide_eq_false h4
          go_enter Try.func19, Try.ntmps19
          go_wp2
          go_quiet (fail)
          go_wp2
          go_ret
          exact ⟨by rw [HB.out]; simp [h4'], (by repeat (first | exact Ext.refl _ | assumption | refine Ext.trans ?_ (by assumption) | refine Ext.alloc ?_ _ | refine Ext.drew ?_ | refine Ext.drewN ?_ _))⟩
      · have h3' : decide (1 ≤ m) = false := decide_eq_false h3
        go_enter Try.func19, Try.ntmps19
        go_wp2
        go_quiet (fail)
        go_wp2
        go_ret
        exact ⟨by rw [HB.out]; simp [h3'], (by repeat (first | exact Ext.refl _ | assumption | refine Ext.trans ?_ (by assumption) | refine Ext.alloc ?_ _ | refine Ext.drew ?_ | refine Ext.drewN ?_ _))⟩
    · have h2' : decide (y ≤ 9999) = false := decide_eq_false h2
      go_enter Try.func19, Try.ntmps19
      go_wp2
      go_quiet (fail)
      go_wp2
      go_ret
      exact ⟨by rw [HB.out]; simp [h2'], (by repeat (first | exact Ext.refl _ | assumption | refine Ext.trans ?_ (by assumption) | refine Ext.alloc ?_ _ | refine Ext.drew ?_ | refine Ext.drewN ?_ _))⟩
  · have h1' : decide (1 ≤ y) = false := decide_eq_false h1
    go_enter Try.func19, Try.ntmps19
    go_wp2
    go_quiet (fail)
    go_wp2
    go_ret
    exact ⟨by rw [HB.out]; simp [h1'], (by repeat (first | exact Ext.refl _ | assumption | refine Ext.trans ?_ (by assumption) | refine Ext.alloc ?_ _ | refine Ext.drew ?_ | refine Ext.drewN ?_ _))⟩

theorem dayB_of {y m d : Int} (h : dayB y m d = true) : 1 ≤ y ∧ y ≤ 9999 ∧ 1 ≤ m ∧ m ≤ 12 ∧ 1 ≤ d ∧ d ≤ lenI y m := by
  unfold dayB at h
  simp only [Bool.and_eq_true, decide_eq_true_eq] at h
  exact h
theorem dayB_mk {y m d : Int} (h : 1 ≤ y ∧ y ≤ 9999 ∧ 1 ≤ m ∧ m ≤ 12 ∧ 1 ≤ d ∧ d ≤ lenI y m) : dayB y m d = true := by
  unfold dayB
  simp only [Bool.and_eq_true, decide_eq_true_eq]
  exact h

set_option maxHeartbeats 1000000 in
theorem days_any (y m d : Int) (w : World) : Calls Try.prog 13 #[.agg #[.int .i64 y, .int .i64 m, .int .i64 d]] w fun e w' => e = .returned (.int .i64 (daysI y m d)) ∧ Ext w w' := by
  have hv : daysI y m d = if dayB y m d then numI y m d else -1 := rfl
  cases hb : dayB y m d
  · rw [hb] at hv
    have HV := Lib.hid hv
    clear hv
    go_enter Try.func13, Try.ntmps13
    go_wp2_with (go_at_call 19; refine (dateRight_any _ _ _ _).mono ?_; rintro e w' ⟨rfl, hx⟩)
    go_ret
    exact ⟨by rw [HV.out]; rfl, (by repeat (first | exact Ext.refl _ | assumption | refine Ext.trans ?_ (by assumption) | refine Ext.alloc ?_ _ | refine Ext.drew ?_ | refine Ext.drewN ?_ _))⟩
  · rw [hb] at hv
    have HV := Lib.hid hv
    clear hv
    obtain ⟨a1, a2, a3, a4, a5, a6⟩ := dayB_of hb
    obtain ⟨l1, l2⟩ := lenI_bd y m
    obtain ⟨d1, d2⟩ := aheadI_bd y a1 (by omega)
    have hs := cumI_succ y
    go_enter Try.func13, Try.ntmps13
    go_wp2_with (first
      | (go_at_call 19; refine (dateRight_any _ _ _ _).mono ?_; rintro e w' ⟨rfl, hx⟩; obtain ⟨hc, hf⟩ := Ext.bc hx)
      | (go_at_call 24; refine (ahead_any _ _ (by omega) (by omega)).mono ?_; rintro e w' ⟨rfl, rfl⟩))
    have hcy : w'.cell? ⟨w.heap.size, 0, none⟩ = some (.int .i64 y) := by rw [hc _ _ (by simp)]; simp
    have hcm : w'.cell? ⟨w.heap.size, 1, none⟩ = some (.int .i64 m) := by rw [hc _ _ (by simp)]; simp
    have hcd : w'.cell? ⟨w.heap.size, 2, none⟩ = some (.int .i64 d) := by rw [hc _ _ (by simp)]; simp
    clear hc hf
    go_loopw [3, 4] (fun nv mv wr => ∃ k : Int, 1 ≤ k ∧ k ≤ m ∧ mv = .int .i64 k ∧ nv = .int .i64 (aheadI y + cumI y k) ∧ wr = w') (fun _ mv _ => (m - intOf mv).toNat)
    case atStart => exact ⟨1, by omega, by omega, rfl, by simp [cumI], rfl⟩
    case round =>
      obtain ⟨k, k1, k2, rfl, rfl, rfl⟩ := hrel
      obtain ⟨c1, c2⟩ := cumI_bd y k k1 (by omega)
      obtain ⟨e1, e2⟩ := lenI_bd y k
      by_cases hk : k < m
      · have hsk := hs k k1 (by omega)
        have HS := Lib.hid hsk
        clear hsk hs
        go_wp2_with (go_at_call 25; refine (length_any _ _ _ (by omega) (by omega)).mono ?_; rintro e w' ⟨rfl, rfl⟩)
        go_roundw
        case rel => exact ⟨k + 1, by omega, by omega, rfl, by rw [HS.out]; go_num, trivial⟩
        case measure => simp [intOf]; omega
      · obtain rfl : k = m := by omega
        clear hs
        go_wp2
        go_ret
        exact ⟨by rw [HV.out]; rfl, (by repeat (first | exact Ext.refl _ | assumption | refine Ext.trans ?_ (by assumption) | refine Ext.alloc ?_ _ | refine Ext.drew ?_ | refine Ext.drewN ?_ _))⟩
end Go.Proofs.Yteoohgkaejgoaaa
