/- The document's answers on days: leap years, lengths, right days, their numbers. -/
import Derived.Test.YteoohgkaejgoaaaDateC
namespace Go.Proofs.Yteoohgkaejgoaaa
open Go.RowKit

theorem refLeap_any (y : Int) (w : World) (h : 0 ≤ y) (h1 : y ≤ 10000) : Calls Try.prog 30 #[.int .i64 y] w fun e w' => e = .returned (.bool (leapB y)) ∧ w = w' := by
  have hb : leapB y = ((y % 4 == 0) && ((y % 100 != 0) || (y % 400 == 0))) := rfl
  have HB := Lib.hid hb
  clear hb
  cases a : (y % 4 == 0) <;> cases b : (y % 100 != 0)
  all_goals
    go_enter Try.func30, Try.ntmps30
    go_wp2
    go_ret
    exact ⟨by rw [HB.out]; simp_all, rfl⟩


def lenR (y m : Int) : Int := if 1 ≤ m ∧ m ≤ 12 then lenI y m else 0
theorem eqs (m k : Int) : (m == k) = decide (m = k) := by by_cases h : m = k <;> simp [h]

set_option maxHeartbeats 1000000 in
theorem refLength_any (y m : Int) (w : World) (h : 0 ≤ y) (h1 : y ≤ 10000) : Calls Try.prog 27 #[.int .i64 y, .int .i64 m] w fun e w' => e = .returned (.int .i64 (lenR y m)) ∧ w = w' := by
  by_cases hm : 1 ≤ m ∧ m ≤ 12
  · have hv : lenR y m = lenI y m := by unfold lenR; rw [if_pos hm]
    rw [hv]
    clear hv
    obtain rfl | rfl | rfl | rfl | rfl | rfl | rfl | rfl | rfl | rfl | rfl | rfl := months hm.1 hm.2
    rotate_left 1
    · clear hm
      cases hl : leapB y
      all_goals
        have hv : lenI y 2 = 28 + lpI y := rfl
        unfold lpI at hv
        rw [hl] at hv
        have HV := Lib.hid hv
        clear hv
        go_enter Try.func27, Try.ntmps27
        go_wp2_with (go_at_call 30; refine (refLeap_any _ _ h h1).mono ?_; rintro e w' ⟨rfl, rfl⟩)
        go_ret
        exact ⟨by rw [HV.out]; rfl, rfl⟩
    all_goals
      clear hm
      go_enter Try.func27, Try.ntmps27
      go_wp2
      go_ret
      exact ⟨rfl, rfl⟩
  · have hv : lenR y m = 0 := by unfold lenR; rw [if_neg hm]
    have HV := Lib.hid hv
    clear hv
    have e (k : Int) (hk : 1 ≤ k ∧ k ≤ 12) : (m == k) = false := by rw [eqs]; simp; omega
    have e1 := e 1 (by decide)
    have e2 := e 2 (by decide)
    have e3 := e 3 (by decide)
    have e4 := e 4 (by decide)
    have e5 := e 5 (by decide)
    have e6 := e 6 (by decide)
    have e7 := e 7 (by decide)
    have e8 := e 8 (by decide)
    have e9 := e 9 (by decide)
    have e10 := e 10 (by decide)
    have e11 := e 11 (by decide)
    have e12 := e 12 (by decide)
    clear e hm
    go_enter Try.func27, Try.ntmps27
    go_wp2
    go_ret
    exact ⟨by rw [HV.out]; rfl, rfl⟩

theorem dayB_ref (y m d : Int) : dayB y m d = (decide (1 ≤ y) && (decide (y ≤ 9999) && (decide (1 ≤ d) && decide (d ≤ lenR y m)))) := by
  rw [Bool.eq_iff_iff]
  unfold dayB lenR
  simp only [Bool.and_eq_true, decide_eq_true_eq]
  constructor
  · rintro ⟨a, b, c, d1, e, f⟩
    rw [if_pos ⟨c, d1⟩]
    exact ⟨a, b, e, f⟩
  · rintro ⟨a, b, e, f⟩
    by_cases hm : 1 ≤ m ∧ m ≤ 12
    · rw [if_pos hm] at f
      exact ⟨a, b, hm.1, hm.2, e, f⟩
    · rw [if_neg hm] at f
      omega

set_option maxHeartbeats 1000000 in
theorem refRight_any (y m d : Int) (w : World) : Calls Try.prog 20 #[.agg #[.int .i64 y, .int .i64 m, .int .i64 d]] w fun e w' => e = .returned (.bool (dayB y m d)) ∧ Ext w w' := by
  have HB := Lib.hid (dayB_ref y m d)
  by_cases h1 : 1 ≤ y
  · by_cases h2 : y ≤ 9999
    · by_cases h5 : 1 ≤ d
      · go_enter Try.func20, Try.ntmps20
        go_wp2
        go_quiet ((go_at_call 27; exact quiet_eq (refLength_any _ _ _ (by omega) (by omega))))
        go_wp2
        go_ret
        exact ⟨by rw [HB.out]; simp [h1, h2, h5], (by repeat (first | exact Ext.refl _ | assumption | refine Ext.trans ?_ (by assumption) | refine Ext.alloc ?_ _ | refine Ext.drew ?_ | refine Ext.drewN ?_ _))⟩
      · have h5' : decide (1 ≤ d) = false := decide_eq_false h5
        go_enter Try.func20, Try.ntmps20
        go_wp2
        go_quiet (fail)
        go_wp2
        go_ret
        exact ⟨by rw [HB.out]; simp [h5'], (by repeat (first | exact Ext.refl _ | assumption | refine Ext.trans ?_ (by assumption) | refine Ext.alloc ?_ _ | refine Ext.drew ?_ | refine Ext.drewN ?_ _))⟩
    · have h2' : decide (y ≤ 9999) = false := decide_eq_false h2
      go_enter Try.func20, Try.ntmps20
      go_wp2
      go_quiet (fail)
      go_wp2
      go_ret
      exact ⟨by rw [HB.out]; simp [h2'], (by repeat (first | exact Ext.refl _ | assumption | refine Ext.trans ?_ (by assumption) | refine Ext.alloc ?_ _ | refine Ext.drew ?_ | refine Ext.drewN ?_ _))⟩
  · have h1' : decide (1 ≤ y) = false := decide_eq_false h1
    go_enter Try.func20, Try.ntmps20
    go_wp2
    go_quiet (fail)
    go_wp2
    go_ret
    exact ⟨by rw [HB.out]; simp [h1'], (by repeat (first | exact Ext.refl _ | assumption | refine Ext.trans ?_ (by assumption) | refine Ext.alloc ?_ _ | refine Ext.drew ?_ | refine Ext.drewN ?_ _))⟩

theorem lenR_eq {y m : Int} (h1 : 1 ≤ m) (h2 : m ≤ 12) : lenR y m = lenI y m := by unfold lenR; rw [if_pos ⟨h1, h2⟩]

theorem refLength_in (y m : Int) (w : World) (h : 0 ≤ y) (h1 : y ≤ 10000) (h2 : 1 ≤ m) (h3 : m ≤ 12) : Calls Try.prog 27 #[.int .i64 y, .int .i64 m] w fun e w' => e = .returned (.int .i64 (lenI y m)) ∧ w = w' :=
  (refLength_any y m w h h1).mono fun e w' ⟨he, hw⟩ => ⟨by rw [he, lenR_eq h2 h3], hw⟩

set_option maxHeartbeats 1000000 in
theorem refDays_any (y m d : Int) (w : World) : Calls Try.prog 21 #[.agg #[.int .i64 y, .int .i64 m, .int .i64 d]] w fun e w' => e = .returned (.int .i64 (daysI y m d)) ∧ Ext w w' := by
  have hv : daysI y m d = if dayB y m d then numI y m d else -1 := rfl
  cases hb : dayB y m d
  · rw [hb] at hv
    have HV := Lib.hid hv
    clear hv
    go_enter Try.func21, Try.ntmps21
    go_wp2_with (go_at_call 20; refine (refRight_any _ _ _ _).mono ?_; rintro e w' ⟨rfl, hx⟩)
    go_ret
    exact ⟨by rw [HV.out]; rfl, (by repeat (first | exact Ext.refl _ | assumption | refine Ext.trans ?_ (by assumption) | refine Ext.alloc ?_ _ | refine Ext.drew ?_ | refine Ext.drewN ?_ _))⟩
  · rw [hb] at hv
    have HV := Lib.hid hv
    clear hv
    obtain ⟨a1, a2, a3, a4, a5, a6⟩ := dayB_of hb
    obtain ⟨l1, l2⟩ := lenI_bd y m
    obtain ⟨d1, d2⟩ := aheadI_bd y a1 (by omega)
    have hs := cumI_succ y
    go_enter Try.func21, Try.ntmps21
    go_wp2_with (go_at_call 20; refine (refRight_any _ _ _ _).mono ?_; rintro e w' ⟨rfl, hx⟩; obtain ⟨hc, hf⟩ := Ext.bc hx)
    have hcy : w'.cell? ⟨w.heap.size, 0, none⟩ = some (.int .i64 y) := by rw [hc _ _ (by simp)]; simp
    have hcm : w'.cell? ⟨w.heap.size, 1, none⟩ = some (.int .i64 m) := by rw [hc _ _ (by simp)]; simp
    have hcd : w'.cell? ⟨w.heap.size, 2, none⟩ = some (.int .i64 d) := by rw [hc _ _ (by simp)]; simp
    clear hc hf
    go_loopw [4, 5] (fun nv mv wr => ∃ k : Int, 1 ≤ k ∧ k ≤ m ∧ mv = .int .i64 k ∧ nv = .int .i64 (aheadI y + cumI y k) ∧ wr = w') (fun _ mv _ => (m - intOf mv).toNat)
    case atStart => exact ⟨1, by omega, by omega, rfl, by simp [cumI]; rfl, rfl⟩
    case round =>
      obtain ⟨k, k1, k2, rfl, rfl, rfl⟩ := hrel
      obtain ⟨c1, c2⟩ := cumI_bd y k k1 (by omega)
      obtain ⟨e1, e2⟩ := lenI_bd y k
      by_cases hk : k < m
      · have hsk := hs k k1 (by omega)
        have HS := Lib.hid hsk
        clear hsk hs
        go_wp2_with (go_at_call 27; refine (refLength_in _ _ _ (by omega) (by omega) (by omega) (by omega)).mono ?_; rintro e w' ⟨rfl, rfl⟩)
        go_roundw
        case rel => exact ⟨k + 1, by omega, by omega, rfl, by rw [HS.out]; go_num, trivial⟩
        case measure => simp [intOf]; omega
      · obtain rfl : k = m := by omega
        clear hs
        go_wp2
        go_ret
        exact ⟨by rw [HV.out]; rfl, (by repeat (first | exact Ext.refl _ | assumption | refine Ext.trans ?_ (by assumption) | refine Ext.alloc ?_ _ | refine Ext.drew ?_ | refine Ext.drewN ?_ _))⟩
end Go.Proofs.Yteoohgkaejgoaaa
