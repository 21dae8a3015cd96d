/- The law DateOrder of package impostlaw6: the walk. -/
import Derived.Test.YteoohgkaejgoaaaDateText
import Derived.Test.YteoohgkaejgoaaaDateTells
namespace Go.Proofs.Yteoohgkaejgoaaa
open Go.RowKit
open Go.Op (bytesLess)

theorem bytes_list (s : ByteArray) : s.toList = s.data.toList := ByteArray.toList_eq s
theorem two_keep (w1 w2 : World) (a0 a1 a2 b0 b1 b2 : Value) (t : TypeId) (h12 : Ext (w1.alloc (.cells #[a0, a1, a2] t)) w2) {x : World} (h : Ext (w2.alloc (.cells #[b0, b1, b2] t)) x) :
    Ext (w2.alloc (.cells #[b0, b1, b2] t)) x ∧ x.cell? ⟨w1.heap.size, 0, none⟩ = some a0 ∧ x.cell? ⟨w1.heap.size, 1, none⟩ = some a1 ∧ x.cell? ⟨w1.heap.size, 2, none⟩ = some a2 ∧
      x.cell? ⟨w2.heap.size, 0, none⟩ = some b0 ∧ x.cell? ⟨w2.heap.size, 1, none⟩ = some b1 ∧ x.cell? ⟨w2.heap.size, 2, none⟩ = some b2 := by
  obtain ⟨c0, c1, c2, _⟩ := three w2 x _ _ _ _ h
  obtain ⟨e0, e1, e2, _⟩ := three w1 x _ _ _ _ (h12.trans ((Ext.alloc (Ext.refl _) _).trans h))
  exact ⟨h, e0, e1, e2, c0, c1, c2⟩
theorem show_bytes {y m d : Int} (h : dayB y m d = true) : (showS y m d).data.toList = showL y m d := by
  unfold showS
  rw [if_pos h]
theorem before_of {n n' y m d y' m' d' : Int} (h : IsDay n y m d) (h' : IsDay n' y' m' d') : beforeB y m d y' m' d' = decide (n < n') := by
  unfold beforeB
  rw [h.1, h'.1, days_of h, days_of h']
  rfl
theorem leap_day (k : Int) (b1 : 1 ≤ k) (b2 : k ≤ 9999) : dayB k 2 29 = leapB k := by
  rw [Bool.eq_iff_iff]
  constructor
  · intro h
    have := (dayB_of h).2.2.2.2.2
    unfold lenI lpI at this
    cases hl : leapB k
    · rw [hl] at this; simp at this
    · rfl
  · intro h
    refine dayB_mk ⟨b1, b2, by decide, by decide, by decide, ?_⟩
    unfold lenI lpI
    rw [h]; decide

set_option maxHeartbeats 4000000 in
set_option maxRecDepth 100000 in
theorem dateOrder_any (m n y : Int) (w : World) : Calls Try.prog 10 #[.int .i64 m, .int .i64 n, .int .i64 y] w fun e w' => e = .returned (.bool true) ∧ Ext w w' := by
  obtain ⟨b1, b2⟩ := withI_bd m 0 3652058 (by decide)
  obtain ⟨b3, b4⟩ := withI_bd n 0 3652058 (by decide)
  obtain ⟨b5, b6⟩ := withI_bd y 1 9998 (by decide)
  go_enter Try.func10, Try.ntmps10
  go_wp2_with (go_at_call 18; refine (within_any _ _ _ _ (by decide) (by decide) (by decide)).mono ?_; rintro e w' ⟨rfl, rfl⟩)
  generalize withI m 0 3652058 = k1 at *
  refine (of_yes k1 _ (by omega) (by omega)).mono ?_
  rintro e w1 ⟨y1, m1, d1, rfl, hd1, h1⟩
  go_wp2_with (go_at_call 18; refine (within_any _ _ _ _ (by decide) (by decide) (by decide)).mono ?_; rintro e w' ⟨rfl, rfl⟩)
  generalize withI n 0 3652058 = k2 at *
  refine (of_yes k2 _ (by omega) (by omega)).mono ?_
  rintro e w2 ⟨y2, m2, d2, rfl, hd2, h2⟩
  have hE : Ext w w1 := h1
  clear h1
  obtain ⟨c0, c1, c2, hz⟩ := three w1 w2 _ _ _ _ h2
  have hkeep := fun (x : World) => two_keep w1 w2 _ _ _ (.int .i64 y2) (.int .i64 m2) (.int .i64 d2) _ h2 (x := x)
  go_wp2_with (go_at_call 18; refine (within_any _ _ _ _ (by decide) (by decide) (by decide)).mono ?_; rintro e w' ⟨rfl, rfl⟩)
  generalize withI y 1 9998 = k at *
  have hbef := before_of hd1 hd2
  have hless := show_less hd1 hd2
  rw [← show_bytes hd1.1, ← show_bytes hd2.1, ← bytes_list, ← bytes_list] at hless
  generalize hs1 : showS y1 m1 d1 = s1 at *
  generalize hs2 : showS y2 m2 d2 = s2 at *
  have hld := leap_day k b5 (by omega)
  have hA1 : daysI k 1 1 = aheadI k := daysI_first k b5 (by omega)
  have hA2 : daysI (k + 1) 1 1 = aheadI (k + 1) := daysI_first (k + 1) (by omega) (by omega)
  have hsc := aheadI_succ k (by omega)
  have hbd := aheadI_bd k b5 (by omega)
  rw [hsc] at hA2
  clear hsc
  generalize aheadI k = A at *
  have hlp : lpI k = if leapB k then 1 else 0 := rfl
  rw [hlp] at hA2
  clear hlp
  have HS1 := Lib.hid hs1
  have HS2 := Lib.hid hs2
  have HA1 := Lib.hid hA1
  clear hs1 hs2 hA1
  cases hl : leapB k <;> cases hq : decide (k1 < k2)
  all_goals
    rw [hl] at hld hA2
    rw [hq] at hbef hless
    simp only [if_true, if_false, Bool.false_eq_true, Int.add_zero] at hA2
    have HLD := Lib.hid hld
    have HA2 := Lib.hid hA2
    have HB := Lib.hid hbef
    have hs366 : A + 365 + 1 - A = 366 := by omega
    have hs365 : A + 365 - A = 365 := by omega
    clear hld hA2 hbef hl hq
    go_wp2_with (first
      | (go_at_call 14; refine (lawDay_any _ _ _ _).mono ?_; rintro e w' ⟨rfl, hx⟩)
      | (go_at_call 13; (with_reducible refine (days_is (k + 1) 1 1 _ _ HA2.out).mono ?_); rintro e x ⟨rfl, hx⟩)
      | (go_at_call 13; (with_reducible refine (days_is k 1 1 A _ HA1.out).mono ?_); rintro e x ⟨rfl, hx⟩)
      | (go_at_call 19; (with_reducible refine (dateRight_yes k 2 29 _ _ HLD.out).mono ?_); rintro e x ⟨rfl, hx⟩))
    go_region_held3 (fun x => Ext (w2.alloc (.cells #[.int .i64 y2, .int .i64 m2, .int .i64 d2] 23)) x ∧ x.cell? ⟨w1.heap.size, 0, none⟩ = some (.int .i64 y1) ∧ x.cell? ⟨w1.heap.size, 1, none⟩ = some (.int .i64 m1) ∧ x.cell? ⟨w1.heap.size, 2, none⟩ = some (.int .i64 d1) ∧
      x.cell? ⟨w2.heap.size, 0, none⟩ = some (.int .i64 y2) ∧ x.cell? ⟨w2.heap.size, 1, none⟩ = some (.int .i64 m2) ∧ x.cell? ⟨w2.heap.size, 2, none⟩ = some (.int .i64 d2))
      ((refine two_keep w1 w2 _ _ _ _ _ _ _ h2 ?_; repeat (first | exact Ext.refl _ | assumption | refine Ext.trans ?_ (by assumption) | refine Ext.alloc ?_ _ | refine Ext.drew ?_ | refine Ext.drewN ?_ _)))
      (first
        | (go_at_call 23; (with_reducible refine (before_is y1 m1 d1 y2 m2 d2 _ _ HB.out).mono ?_); rintro e x ⟨rfl, hx⟩)
        | (go_at_call 15; (with_reducible refine (show_is y1 m1 d1 s1 _ HS1.out).mono ?_); rintro e x ⟨rfl, hx⟩)
        | (go_at_call 15; (with_reducible refine (show_is y2 m2 d2 s2 _ HS2.out).mono ?_); rintro e x ⟨rfl, hx⟩)
        | (go_at_call 3; refine (dateRuns_any _).mono ?_; rintro e w' ⟨rfl, hx⟩))
    all_goals
      go_wp2
      go_ret
      exact ⟨rfl, (by repeat (first | exact Ext.refl _ | assumption | refine Ext.trans ?_ (by assumption) | refine Ext.alloc ?_ _ | refine Ext.drew ?_ | refine Ext.drewN ?_ _))⟩
end Go.Proofs.Yteoohgkaejgoaaa
