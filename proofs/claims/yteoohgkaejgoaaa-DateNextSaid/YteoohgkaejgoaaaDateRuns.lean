/- Days are told by their numbers; chapter 6's closed runs: the law DateRuns answers true. -/
import Derived.Test.YteoohgkaejgoaaaDateRefOf
import Derived.Test.YteoohgkaejgoaaaDateBefore
import Derived.Test.YteoohgkaejgoaaaDateRead
import Derived.Test.YteoohgkaejgoaaaDateRefShow
namespace Go.Proofs.Yteoohgkaejgoaaa
open Go.RowKit

theorem isDay_bd {n y m d : Int} (h : IsDay n y m d) : aheadI y ≤ n ∧ n < aheadI (y + 1) ∧ aheadI y + cumI y m ≤ n ∧ n < aheadI y + cumI y (m + 1) := by
  obtain ⟨hb, hn⟩ := h
  obtain ⟨a1, a2, a3, a4, a5, a6⟩ := dayB_of hb
  have h2 := aheadI_succ y (by omega)
  have h4 := cumI_succ y m a3 a4
  have h5 := cumI_bd y m a3 (by omega)
  have h6 : cumI y (m + 1) ≤ 365 + lpI y := by
    have := lpI_bd y
    obtain rfl | rfl | rfl | rfl | rfl | rfl | rfl | rfl | rfl | rfl | rfl | rfl := months a3 a4
    all_goals simp [cumI]
    all_goals omega
  unfold numI at hn
  omega
theorem cumI_mono (y m k : Int) (h1 : 1 ≤ m) (h2 : m ≤ k) (h3 : k ≤ 12) : cumI y m ≤ cumI y k := by
  have := lpI_bd y
  obtain rfl | rfl | rfl | rfl | rfl | rfl | rfl | rfl | rfl | rfl | rfl | rfl := months h1 (by omega)
  all_goals
    obtain rfl | rfl | rfl | rfl | rfl | rfl | rfl | rfl | rfl | rfl | rfl | rfl := months (m := k) (by omega) h3
    all_goals first | (exfalso; omega) | (simp [cumI] <;> omega)
theorem isDay_eq {n y m d y' m' d' : Int} (h : IsDay n y m d) (h' : IsDay n y' m' d') : y = y' ∧ m = m' ∧ d = d' := by
  have b := isDay_bd h
  have b' := isDay_bd h'
  obtain ⟨a1, a2, a3, a4, a5, a6⟩ := dayB_of h.1
  obtain ⟨c1, c2, c3, c4, c5, c6⟩ := dayB_of h'.1
  have hy : y = y' := by
    rcases Int.lt_trichotomy y y' with k | k | k
    · have := aheadI_mono (y + 1) y' (by omega) (by omega)
      omega
    · exact k
    · have := aheadI_mono (y' + 1) y (by omega) (by omega)
      omega
  subst hy
  have hm : m = m' := by
    rcases Int.lt_trichotomy m m' with k | k | k
    · have := cumI_mono y (m + 1) m' (by omega) (by omega) c4
      omega
    · exact k
    · have := cumI_mono y (m' + 1) m (by omega) (by omega) a4
      omega
  subst hm
  have e := h.2
  have e' := h'.2
  unfold numI at e e'
  omega

theorem of_is (n y m d : Int) (w : World) (h : IsDay n y m d) : Calls Try.prog 11 #[.int .i64 n] w fun e w' => e = .returned (.tuple #[.agg #[.int .i64 y, .int .i64 m, .int .i64 d], .bool true]) ∧ Ext w w' := by
  obtain ⟨a1, a2, a3, a4, a5, a6⟩ := dayB_of h.1
  have b := isDay_bd h
  have c1 := aheadI_bd y a1 (by omega)
  have c2 := aheadI_bd (y + 1) (by omega) (by omega)
  refine (of_yes n w (by omega) (by omega)).mono ?_
  rintro e w' ⟨y', m', d', rfl, h', hx⟩
  obtain ⟨rfl, rfl, rfl⟩ := isDay_eq h h'
  exact ⟨rfl, hx⟩

theorem lawDay_any (y m d : Int) (w : World) : Calls Try.prog 14 #[.int .i64 y, .int .i64 m, .int .i64 d] w fun e w' => e = .returned (.agg #[.int .i64 y, .int .i64 m, .int .i64 d]) ∧ Ext w w' := by
  go_enter Try.func14, Try.ntmps14
  go_wp2
  exact bodyPost_ret (v := .agg #[.int .i64 y, .int .i64 m, .int .i64 d]) (by simp [results, Try.results14, go_sem]) rfl ⟨rfl, (by repeat (first | exact Ext.refl _ | assumption | refine Ext.trans ?_ (by assumption) | refine Ext.alloc ?_ _ | refine Ext.drew ?_ | refine Ext.drewN ?_ _))⟩
theorem days_is (y m d k : Int) (w : World) (h : daysI y m d = k) : Calls Try.prog 13 #[.agg #[.int .i64 y, .int .i64 m, .int .i64 d]] w fun e w' => e = .returned (.int .i64 k) ∧ Ext w w' := by
  rw [← h]; exact days_any y m d w
theorem show_is (y m d : Int) (s : ByteArray) (w : World) (h : showS y m d = s) : Calls Try.prog 15 #[.agg #[.int .i64 y, .int .i64 m, .int .i64 d]] w fun e w' => e = .returned (.string s) ∧ Ext w w' := by
  rw [← h]; exact show_any y m d w
theorem read_is (s : ByteArray) (y m d k : Int) (w : World) (hs : s.size ≤ maxLen) (h : readR s = (y, m, d, k)) : Calls Try.prog 12 #[.string s] w fun e w' => e = .returned (.tuple #[.agg #[.int .i64 y, .int .i64 m, .int .i64 d], .int .i64 k]) ∧ Ext w w' := by
  have := read_any s w hs
  rw [h] at this
  exact this

set_option maxHeartbeats 4000000 in
set_option maxRecDepth 100000 in
theorem dateRuns_any (w : World) : Calls Try.prog 3 #[] w fun e w' => e = .returned (.bool true) ∧ Ext w w' := by
  have k0 : IsDay 0 1 1 1 := ⟨by decide, by decide⟩
  have ks : showS 2026 11 5 = ⟨#[50, 48, 50, 54, 45, 49, 49, 45, 48, 53]⟩ := by decide +kernel
  have KS := Lib.hid ks
  clear ks
  go_enter Try.func3, Try.ntmps3
  go_wp2_with fail
  refine (of_is 0 1 1 1 _ k0).mono ?_
  rintro e w1 ⟨rfl, h1⟩
  go_wp2_with fail
  refine (of_no 3652059 _ (by decide)).mono ?_
  rintro e w2 ⟨rfl, h2⟩
  go_wp2_with fail
  refine (of_no (-1) _ (by decide)).mono ?_
  rintro e w3 ⟨rfl, h3⟩
  go_wp2_with fail
  refine (read_is _ 0 0 0 9 _ (by decide) (by decide +kernel)).mono ?_
  rintro e w4 ⟨rfl, h4⟩
  go_wp2_with fail
  refine (read_is _ 0 0 0 4 _ (by decide) (by decide +kernel)).mono ?_
  rintro e w5 ⟨rfl, h5⟩
  have hE : Ext (w1.alloc (.cells #[.int .i64 1, .int .i64 1, .int .i64 1] 23)) w5 := (by repeat (first | exact Ext.refl _ | assumption | refine Ext.trans ?_ (by assumption) | refine Ext.alloc ?_ _ | refine Ext.drew ?_ | refine Ext.drewN ?_ _))
  have g1 : Ext w w1 := h1
  clear h1 h2 h3 h4 h5
  obtain ⟨hE1, c0, c1, c2⟩ := one_keep w1 _ _ _ _ hE
  go_wp2_with fail
  go_region_held3 (fun x => Ext (w1.alloc (.cells #[.int .i64 1, .int .i64 1, .int .i64 1] 23)) x ∧ x.cell? ⟨w1.heap.size, 0, none⟩ = some (.int .i64 1) ∧ x.cell? ⟨w1.heap.size, 1, none⟩ = some (.int .i64 1) ∧ x.cell? ⟨w1.heap.size, 2, none⟩ = some (.int .i64 1))
    ((refine one_keep w1 _ _ _ _ ?_; repeat (first | exact Ext.refl _ | assumption | refine Ext.trans ?_ (by assumption) | refine Ext.alloc ?_ _ | refine Ext.drew ?_ | refine Ext.drewN ?_ _)))
    (first
      | (go_at_call 14; refine (lawDay_any _ _ _ _).mono ?_; rintro e x ⟨rfl, hx⟩)
      | (go_at_call 13; (with_reducible refine (days_is 1 1 1 0 _ (by decide)).mono ?_); rintro e x ⟨rfl, hx⟩)
      | (go_at_call 13; (with_reducible refine (days_is 2000 2 29 730178 _ (by decide)).mono ?_); rintro e x ⟨rfl, hx⟩)
      | (go_at_call 13; (with_reducible refine (days_is 9999 12 31 3652058 _ (by decide)).mono ?_); rintro e x ⟨rfl, hx⟩)
      | (go_at_call 13; (with_reducible refine (days_is 1900 2 29 (-1) _ (by decide)).mono ?_); rintro e x ⟨rfl, hx⟩)
      | (go_at_call 15; (with_reducible refine (show_is 2026 11 5 ⟨#[50, 48, 50, 54, 45, 49, 49, 45, 48, 53]⟩ _ KS.out).mono ?_); rintro e x ⟨rfl, hx⟩))
  all_goals
    go_wp2
    go_ret
    exact ⟨rfl, (by repeat (first | exact Ext.refl _ | assumption | refine Ext.trans ?_ (by assumption) | refine Ext.alloc ?_ _ | refine Ext.drew ?_ | refine Ext.drewN ?_ _))⟩
end Go.Proofs.Yteoohgkaejgoaaa
