/- The law DateMonths of package impostlaw6: the walk. -/
import Derived.Test.YteoohgkaejgoaaaDateLawA
namespace Go.Proofs.Yteoohgkaejgoaaa
open Go.RowKit

/-- The last day that was told, ahead of day d of a month. -/
def lastI (y m d : Int) : Int := if 1 ≤ m ∧ m ≤ 12 then (if d ≤ 0 then 0 else if d - 1 ≤ lenI y m then d - 1 else lenI y m) else 0
theorem lastI_yes {y m d : Int} (h : dayB y m d = true) : lastI y m d = d - 1 ∧ lastI y m (d + 1) = d ∧ 1 ≤ m ∧ m ≤ 12 ∧ 1 ≤ d ∧ d ≤ 31 := by
  obtain ⟨a1, a2, a3, a4, a5, a6⟩ := dayB_of h
  have := lenI_bd y m
  have e1 : lastI y m d = d - 1 := by
    unfold lastI
    rw [if_pos ⟨a3, a4⟩]
    split
    · omega
    · rw [if_pos (by omega)]
  have e2 : lastI y m (d + 1) = d := by
    unfold lastI
    rw [if_pos ⟨a3, a4⟩, if_neg (by omega), if_pos (by omega)]; omega
  exact ⟨e1, e2, a3, a4, a5, by omega⟩
theorem lastI_no {y m d : Int} (h1 : 1 ≤ y) (h2 : y ≤ 9999) (h : dayB y m d = false) : lastI y m (d + 1) = lastI y m d := by
  have hl := lenI_bd y m
  have hn : ¬ (1 ≤ m ∧ m ≤ 12 ∧ 1 ≤ d ∧ d ≤ lenI y m) := fun hh => by
    rw [dayB_mk ⟨h1, h2, hh.1, hh.2.1, hh.2.2.1, hh.2.2.2⟩] at h
    cases h
  unfold lastI
  by_cases hm : 1 ≤ m ∧ m ≤ 12
  · rw [if_pos hm, if_pos hm]
    repeat' split
    all_goals omega
  · rw [if_neg hm, if_neg hm]
theorem lastI_bd (y m d : Int) : 0 ≤ lastI y m d ∧ lastI y m d ≤ 31 := by
  have hl := lenI_bd y m
  unfold lastI
  repeat' split
  all_goals omega
theorem cumI_low (y m : Int) (h : m ≤ 1) : cumI y m = 0 := by unfold cumI; rw [if_pos h]
theorem cumI_high (y m : Int) (h : 13 ≤ m) : cumI y m = 365 + lpI y := by
  unfold cumI
  repeat (rw [if_neg (by omega)])
theorem cumI_any (y m : Int) : 0 ≤ cumI y m ∧ cumI y m ≤ 366 := by
  have := lpI_bd y
  rcases (by omega : m ≤ 1 ∨ 13 ≤ m ∨ (1 ≤ m ∧ m ≤ 13)) with h | h | h
  · rw [cumI_low y m h]; decide
  · rw [cumI_high y m h]; omega
  · exact cumI_bd y m h.1 h.2
theorem cumI_last (y m : Int) : cumI y m + lastI y m 34 = cumI y (m + 1) := by
  have hl := lenI_bd y m
  rcases (by omega : m ≤ 0 ∨ 13 ≤ m ∨ (1 ≤ m ∧ m ≤ 12)) with h | h | h
  · rw [cumI_low y m (by omega), cumI_low y (m + 1) (by omega)]
    unfold lastI
    rw [if_neg (by omega)]; rfl
  · rw [cumI_high y m (by omega), cumI_high y (m + 1) (by omega)]
    unfold lastI
    rw [if_neg (by omega)]; omega
  · rw [cumI_succ y m h.1 h.2]
    unfold lastI
    rw [if_pos h, if_neg (by omega), if_neg (by omega)]

set_option maxHeartbeats 4000000 in
set_option maxRecDepth 100000 in
theorem dateMonths_any (y : Int) (w : World) : Calls Try.prog 7 #[.int .i64 y] w fun e w' => e = .returned (.bool true) ∧ Ext w w' := by
  obtain ⟨b1, b2⟩ := withI_bd y 1 9999 (by decide)
  go_enter Try.func7, Try.ntmps7
  go_wp2_with (go_at_call 18; refine (within_any _ _ _ _ (by decide) (by decide) (by decide)).mono ?_; rintro e w' ⟨rfl, rfl⟩)
  generalize withI y 1 9999 = k at *
  go_loopw [4, 5] (fun nv mv wr => ∃ m : Int, -1 ≤ m ∧ m ≤ 15 ∧ mv = .int .i64 m ∧ nv = .int .i64 (cumI k m) ∧ Ext w wr) (fun _ mv _ => (15 - intOf mv).toNat)
  case atStart => exact ⟨-1, by omega, by omega, rfl, by rw [cumI_low _ _ (by decide)], Ext.refl _⟩
  case round =>
    obtain ⟨m, m1, m2, rfl, rfl, hx⟩ := hrel
    obtain ⟨cb1, cb2⟩ := cumI_any k m
    by_cases hm : m < 15
    · go_wp2
      rename_i wo _
      go_loopw [4, 6, 7] (fun nv lv dv wr => ∃ d : Int, -1 ≤ d ∧ d ≤ 34 ∧ dv = .int .i64 d ∧ lv = .int .i64 (lastI k m d) ∧ nv = .int .i64 (cumI k m + lastI k m d) ∧ Ext w wr) (fun _ _ dv _ => (34 - intOf dv).toNat)
      case atStart =>
        have e0 : lastI k m (-1) = 0 := by unfold lastI; split <;> rfl
        exact ⟨-1, by omega, by omega, rfl, by rw [e0], by rw [e0, Int.add_zero], hx⟩
      case round =>
        obtain ⟨d, d1, d2, rfl, rfl, rfl, hx2⟩ := hrel
        obtain ⟨lb1, lb2⟩ := lastI_bd k m d
        by_cases hd : d < 34
        · cases hq : dayB k m d
          · have hno := lastI_no (m := m) b1 b2 hq
            go_wp2_with (first
              | (go_at_call 14; refine (lawDay_any _ _ _ _).mono ?_; rintro e w' ⟨rfl, hx⟩)
              | (go_at_call 19; refine (dateRight_yes k m d _ _ hq).mono ?_; rintro e x ⟨rfl, hx3⟩))
            refine ⟨⟨_, by omega, by omega, rfl, by rw [hno], by rw [hno], (by repeat (first | exact Ext.refl _ | assumption | refine Ext.trans ?_ (by assumption) | refine Ext.alloc ?_ _ | refine Ext.drew ?_ | refine Ext.drewN ?_ _))⟩, by simp only [intOf]; omega⟩
          · obtain ⟨e1, e2, q1, q2, q3, q4⟩ := lastI_yes hq
            have e3 := e1
            go_wp2_with (first
              | (go_at_call 14; refine (lawDay_any _ _ _ _).mono ?_; rintro e w' ⟨rfl, hx⟩)
              | (go_at_call 19; refine (dateRight_yes k m d _ _ hq).mono ?_; rintro e x ⟨rfl, hx3⟩))
            refine ⟨⟨_, by omega, by omega, rfl, by rw [e2], by rw [e2]; congr 1; omega, (by repeat (first | exact Ext.refl _ | assumption | refine Ext.trans ?_ (by assumption) | refine Ext.alloc ?_ _ | refine Ext.drew ?_ | refine Ext.drewN ?_ _))⟩, by simp only [intOf]; omega⟩
        · obtain rfl : d = 34 := by omega
          have hcl := cumI_last k m
          go_wp2
          refine ⟨⟨_, by omega, by omega, rfl, by rw [hcl], (by repeat (first | exact Ext.refl _ | assumption | refine Ext.trans ?_ (by assumption) | refine Ext.alloc ?_ _ | refine Ext.drew ?_ | refine Ext.drewN ?_ _))⟩, by simp only [intOf]; omega⟩
    · obtain rfl : m = 15 := by omega
      have h15 := cumI_high k 15 (by decide)
      have hlb : dayB k 2 29 = leapB k := by
        rw [Bool.eq_iff_iff]
        constructor
        · intro h
          have := (dayB_of h).2.2.2.2.2
          unfold lenI lpI at this
          cases hl : leapB k
          · rw [hl] at this; simp at this
          · rfl
        · intro h
          refine dayB_mk ⟨b1, b2, by decide, by decide, by decide, ?_⟩
          unfold lenI lpI
          rw [h]; decide
      have hlp : cumI k 15 = if leapB k then 366 else 365 := by rw [h15]; unfold lpI; split <;> rfl
      rw [hlp]
      clear h15 hlp
      cases hl : leapB k
      all_goals
        rw [hl] at hlb
        have HL := Lib.hid hlb
        clear hlb hl
        simp only [if_true, if_false, Bool.false_eq_true]
        go_wp2_with (first
          | (go_at_call 14; refine (lawDay_any _ _ _ _).mono ?_; rintro e w' ⟨rfl, hx⟩)
          | (go_at_call 19; refine (dateRight_yes k 2 29 _ _ HL.out).mono ?_; rintro e x ⟨rfl, hx2⟩)
          | (go_at_call 3; refine (dateRuns_any _).mono ?_; rintro e w' ⟨rfl, hx⟩))
        go_ret
        exact ⟨rfl, (by repeat (first | exact Ext.refl _ | assumption | refine Ext.trans ?_ (by assumption) | refine Ext.alloc ?_ _ | refine Ext.drew ?_ | refine Ext.drewN ?_ _))⟩
end Go.Proofs.Yteoohgkaejgoaaa
