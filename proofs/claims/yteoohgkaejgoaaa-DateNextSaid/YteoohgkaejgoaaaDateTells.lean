/- The law DateTells of package impostlaw6: the walk. -/
import Derived.Test.YteoohgkaejgoaaaDateLawA
namespace Go.Proofs.Yteoohgkaejgoaaa
open Go.RowKit

theorem refRight_yes (y m d : Int) (w : World) (b : Bool) (h : dayB y m d = b) : Calls Try.prog 20 #[.agg #[.int .i64 y, .int .i64 m, .int .i64 d]] w fun e w' => e = .returned (.bool b) ∧ Ext w w' := by
  rw [← h]; exact refRight_any y m d w
theorem refShow_is (y m d : Int) (s : ByteArray) (w : World) (h : showS y m d = s) : Calls Try.prog 22 #[.agg #[.int .i64 y, .int .i64 m, .int .i64 d]] w fun e w' => e = .returned (.string s) ∧ Ext w w' := by
  rw [← h]; exact refShow_any y m d w
theorem before_is (y m d y' m' d' : Int) (w : World) (b : Bool) (h : beforeB y m d y' m' d' = b) : Calls Try.prog 23 #[.agg #[.int .i64 y, .int .i64 m, .int .i64 d], .agg #[.int .i64 y', .int .i64 m', .int .i64 d']] w fun e x => e = .returned (.bool b) ∧ Ext w x := by
  rw [← h]; exact before_any y m d y' m' d' w

set_option maxHeartbeats 8000000 in
set_option maxRecDepth 100000 in
theorem dateTells_any (y m d y' m' d' : Int) (w : World) : Calls Try.prog 8 #[.agg #[.int .i64 y, .int .i64 m, .int .i64 d], .agg #[.int .i64 y', .int .i64 m', .int .i64 d']] w fun e x => e = .returned (.bool true) ∧ Ext w x := by
  have hb : beforeB y m d y' m' d' = (dayB y m d && (dayB y' m' d' && decide (daysI y m d < daysI y' m' d'))) := rfl
  generalize hk1 : daysI y m d = k1 at hb
  generalize hk2 : daysI y' m' d' = k2 at hb
  generalize hs : showS y m d = s
  cases h1 : dayB y m d
  · rw [h1, Bool.false_and] at hb
    have HB := Lib.hid hb
    have H1 := Lib.hid h1
    have K1 := Lib.hid hk1
    have K2 := Lib.hid hk2
    have HS := Lib.hid hs
    clear hb h1 hk1 hk2 hs
    go_enter Try.func8, Try.ntmps8
    go_wp2
    go_region_with (go_at_call 20; (with_reducible refine (refRight_yes y m d _ false H1.out).mono ?_); rintro e x ⟨rfl, hx0⟩; obtain ⟨hE, hk1, hk2, hk3, hk4, hk5, hk6⟩ := before_keep w _ _ _ _ _ _ _ (Ext.trans ((Ext.refl _).drew) hx0))
    all_goals
      go_wp2
      go_region_held3 (fun x => Ext ((w.alloc (.cells #[.int .i64 y, .int .i64 m, .int .i64 d] 23)).alloc (.cells #[.int .i64 y', .int .i64 m', .int .i64 d'] 23)) x ∧ x.cell? ⟨w.heap.size, 0, none⟩ = some (.int .i64 y) ∧ x.cell? ⟨w.heap.size, 1, none⟩ = some (.int .i64 m) ∧ x.cell? ⟨w.heap.size, 2, none⟩ = some (.int .i64 d) ∧
        x.cell? ⟨w.heap.size + 1, 0, none⟩ = some (.int .i64 y') ∧ x.cell? ⟨w.heap.size + 1, 1, none⟩ = some (.int .i64 m') ∧ x.cell? ⟨w.heap.size + 1, 2, none⟩ = some (.int .i64 d'))
        ((refine before_keep w _ _ _ _ _ _ _ ?_; repeat (first | exact Ext.refl _ | assumption | refine Ext.trans ?_ (by assumption) | refine Ext.alloc ?_ _ | refine Ext.drew ?_ | refine Ext.drewN ?_ _)))
        (first
          | (go_at_call 19; (with_reducible refine (dateRight_is y m d _ _ H1.out).mono ?_); rintro e x ⟨rfl, hx⟩)
          | (go_at_call 20; (with_reducible refine (refRight_yes y m d _ _ H1.out).mono ?_); rintro e x ⟨rfl, hx⟩)
          | (go_at_call 13; (with_reducible refine (days_is y m d k1 _ K1.out).mono ?_); rintro e x ⟨rfl, hx⟩)
          | (go_at_call 21; (with_reducible refine (refDays_is y m d k1 _ K1.out).mono ?_); rintro e x ⟨rfl, hx⟩)
          | (go_at_call 15; (with_reducible refine (show_is y m d s _ HS.out).mono ?_); rintro e x ⟨rfl, hx⟩)
          | (go_at_call 22; (with_reducible refine (refShow_is y m d s _ HS.out).mono ?_); rintro e x ⟨rfl, hx⟩)
          | (go_at_call 23; (with_reducible refine (before_is y m d y' m' d' _ _ HB.out).mono ?_); rintro e x ⟨rfl, hx⟩)
          | (go_at_call 3; refine (dateRuns_any _).mono ?_; rintro e w' ⟨rfl, hx⟩))
      all_goals
        go_wp2
        go_ret
        exact ⟨rfl, (by repeat (first | exact Ext.refl _ | assumption | refine Ext.trans ?_ (by assumption) | refine Ext.alloc ?_ _ | refine Ext.drew ?_ | refine Ext.drewN ?_ _))⟩
  · cases h2 : dayB y' m' d'
    · rw [h1, h2, Bool.false_and, Bool.and_false] at hb
      have HB := Lib.hid hb
      have H1 := Lib.hid h1
      have H2 := Lib.hid h2
      have K1 := Lib.hid hk1
      have K2 := Lib.hid hk2
      have HS := Lib.hid hs
      clear hb h1 h2 hk1 hk2 hs
      go_enter Try.func8, Try.ntmps8
      go_wp2
      go_region_with (first
        | (go_at_call 20; (with_reducible refine (refRight_yes y m d _ true H1.out).mono ?_); rintro e x ⟨rfl, hx⟩; obtain ⟨hE, hk1, hk2, hk3, hk4, hk5, hk6⟩ := before_keep w _ _ _ _ _ _ _ (Ext.trans ((Ext.refl _).drew) hx))
        | (go_at_call 20; (with_reducible refine (refRight_yes y' m' d' _ false H2.out).mono ?_); rintro e x ⟨rfl, hx0⟩; have hx1 := hE.trans (by (refine Ext.trans ?_ hx0; repeat (first | exact Ext.refl _ | assumption | refine Ext.trans ?_ (by assumption) | refine Ext.alloc ?_ _ | refine Ext.drew ?_ | refine Ext.drewN ?_ _))); clear hE hk1 hk2 hk3 hk4 hk5 hk6 hx; obtain ⟨hE, hk1, hk2, hk3, hk4, hk5, hk6⟩ := before_keep w _ _ _ _ _ _ _ hx1))
      all_goals
        go_wp2
        go_region_held3 (fun x => Ext ((w.alloc (.cells #[.int .i64 y, .int .i64 m, .int .i64 d] 23)).alloc (.cells #[.int .i64 y', .int .i64 m', .int .i64 d'] 23)) x ∧ x.cell? ⟨w.heap.size, 0, none⟩ = some (.int .i64 y) ∧ x.cell? ⟨w.heap.size, 1, none⟩ = some (.int .i64 m) ∧ x.cell? ⟨w.heap.size, 2, none⟩ = some (.int .i64 d) ∧
          x.cell? ⟨w.heap.size + 1, 0, none⟩ = some (.int .i64 y') ∧ x.cell? ⟨w.heap.size + 1, 1, none⟩ = some (.int .i64 m') ∧ x.cell? ⟨w.heap.size + 1, 2, none⟩ = some (.int .i64 d'))
          ((refine before_keep w _ _ _ _ _ _ _ ?_; repeat (first | exact Ext.refl _ | assumption | refine Ext.trans ?_ (by assumption) | refine Ext.alloc ?_ _ | refine Ext.drew ?_ | refine Ext.drewN ?_ _)))
          (first
            | (go_at_call 19; (with_reducible refine (dateRight_is y m d _ _ H1.out).mono ?_); rintro e x ⟨rfl, hx⟩)
            | (go_at_call 20; (with_reducible refine (refRight_yes y m d _ _ H1.out).mono ?_); rintro e x ⟨rfl, hx⟩)
            | (go_at_call 13; (with_reducible refine (days_is y m d k1 _ K1.out).mono ?_); rintro e x ⟨rfl, hx⟩)
            | (go_at_call 21; (with_reducible refine (refDays_is y m d k1 _ K1.out).mono ?_); rintro e x ⟨rfl, hx⟩)
            | (go_at_call 15; (with_reducible refine (show_is y m d s _ HS.out).mono ?_); rintro e x ⟨rfl, hx⟩)
            | (go_at_call 22; (with_reducible refine (refShow_is y m d s _ HS.out).mono ?_); rintro e x ⟨rfl, hx⟩)
            | (go_at_call 23; (with_reducible refine (before_is y m d y' m' d' _ _ HB.out).mono ?_); rintro e x ⟨rfl, hx⟩)
            | (go_at_call 3; refine (dateRuns_any _).mono ?_; rintro e w' ⟨rfl, hx⟩))
        all_goals
          go_wp2
          go_ret
          exact ⟨rfl, (by repeat (first | exact Ext.refl _ | assumption | refine Ext.trans ?_ (by assumption) | refine Ext.alloc ?_ _ | refine Ext.drew ?_ | refine Ext.drewN ?_ _))⟩
    · rw [h1, h2, Bool.true_and, Bool.true_and] at hb
      have HB := Lib.hid hb
      have H1 := Lib.hid h1
      have H2 := Lib.hid h2
      have K1 := Lib.hid hk1
      have K2 := Lib.hid hk2
      have HS := Lib.hid hs
      clear hb h1 h2 hk1 hk2 hs
      go_enter Try.func8, Try.ntmps8
      go_wp2
      go_region_held3 (fun x => Ext ((w.alloc (.cells #[.int .i64 y, .int .i64 m, .int .i64 d] 23)).alloc (.cells #[.int .i64 y', .int .i64 m', .int .i64 d'] 23)) x ∧ x.cell? ⟨w.heap.size, 0, none⟩ = some (.int .i64 y) ∧ x.cell? ⟨w.heap.size, 1, none⟩ = some (.int .i64 m) ∧ x.cell? ⟨w.heap.size, 2, none⟩ = some (.int .i64 d) ∧
        x.cell? ⟨w.heap.size + 1, 0, none⟩ = some (.int .i64 y') ∧ x.cell? ⟨w.heap.size + 1, 1, none⟩ = some (.int .i64 m') ∧ x.cell? ⟨w.heap.size + 1, 2, none⟩ = some (.int .i64 d'))
        ((refine before_keep w _ _ _ _ _ _ _ ?_; repeat (first | exact Ext.refl _ | assumption | refine Ext.trans ?_ (by assumption) | refine Ext.alloc ?_ _ | refine Ext.drew ?_ | refine Ext.drewN ?_ _)))
        (first
          | (go_at_call 20; (with_reducible refine (refRight_yes y m d _ true H1.out).mono ?_); rintro e x ⟨rfl, hx⟩)
          | (go_at_call 20; (with_reducible refine (refRight_yes y' m' d' _ true H2.out).mono ?_); rintro e x ⟨rfl, hx⟩)
          | (go_at_call 21; (with_reducible refine (refDays_is y m d k1 _ K1.out).mono ?_); rintro e x ⟨rfl, hx⟩)
          | (go_at_call 21; (with_reducible refine (refDays_is y' m' d' k2 _ K2.out).mono ?_); rintro e x ⟨rfl, hx⟩))
      all_goals
        go_wp2
        go_region_held3 (fun x => Ext ((w.alloc (.cells #[.int .i64 y, .int .i64 m, .int .i64 d] 23)).alloc (.cells #[.int .i64 y', .int .i64 m', .int .i64 d'] 23)) x ∧ x.cell? ⟨w.heap.size, 0, none⟩ = some (.int .i64 y) ∧ x.cell? ⟨w.heap.size, 1, none⟩ = some (.int .i64 m) ∧ x.cell? ⟨w.heap.size, 2, none⟩ = some (.int .i64 d) ∧
          x.cell? ⟨w.heap.size + 1, 0, none⟩ = some (.int .i64 y') ∧ x.cell? ⟨w.heap.size + 1, 1, none⟩ = some (.int .i64 m') ∧ x.cell? ⟨w.heap.size + 1, 2, none⟩ = some (.int .i64 d'))
          ((refine before_keep w _ _ _ _ _ _ _ ?_; repeat (first | exact Ext.refl _ | assumption | refine Ext.trans ?_ (by assumption) | refine Ext.alloc ?_ _ | refine Ext.drew ?_ | refine Ext.drewN ?_ _)))
          (first
            | (go_at_call 19; (with_reducible refine (dateRight_is y m d _ _ H1.out).mono ?_); rintro e x ⟨rfl, hx⟩)
            | (go_at_call 20; (with_reducible refine (refRight_yes y m d _ _ H1.out).mono ?_); rintro e x ⟨rfl, hx⟩)
            | (go_at_call 13; (with_reducible refine (days_is y m d k1 _ K1.out).mono ?_); rintro e x ⟨rfl, hx⟩)
            | (go_at_call 21; (with_reducible refine (refDays_is y m d k1 _ K1.out).mono ?_); rintro e x ⟨rfl, hx⟩)
            | (go_at_call 15; (with_reducible refine (show_is y m d s _ HS.out).mono ?_); rintro e x ⟨rfl, hx⟩)
            | (go_at_call 22; (with_reducible refine (refShow_is y m d s _ HS.out).mono ?_); rintro e x ⟨rfl, hx⟩)
            | (go_at_call 23; (with_reducible refine (before_is y m d y' m' d' _ _ HB.out).mono ?_); rintro e x ⟨rfl, hx⟩)
            | (go_at_call 3; refine (dateRuns_any _).mono ?_; rintro e w' ⟨rfl, hx⟩))
        all_goals
          go_wp2
          go_ret
          exact ⟨rfl, (by repeat (first | exact Ext.refl _ | assumption | refine Ext.trans ?_ (by assumption) | refine Ext.alloc ?_ _ | refine Ext.drew ?_ | refine Ext.drewN ?_ _))⟩
end Go.Proofs.Yteoohgkaejgoaaa
