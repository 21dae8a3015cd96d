/- Contract of date.Before. -/
import Derived.Test.YteoohgkaejgoaaaDateB
import Derived.Deep.RegionHeld3
import Derived.Deep.RegionWith
namespace Go.Proofs.Yteoohgkaejgoaaa
open Go.RowKit

def beforeB (y m d y' m' d' : Int) : Bool := dayB y m d && (dayB y' m' d' && decide (daysI y m d < daysI y' m' d'))
theorem daysI_bd (y m d : Int) : -1 ≤ daysI y m d ∧ daysI y m d ≤ 3652058 := by
  unfold daysI
  split
  · rename_i h
    obtain ⟨a1, a2, a3, a4, a5, a6⟩ := dayB_of h
    have h1 := aheadI_bd y a1 (by omega)
    have h2 := aheadI_succ y (by omega)
    have h3 := aheadI_bd (y + 1) (by omega) (by omega)
    have h4 := cumI_succ y m a3 a4
    have h5 := cumI_bd y m a3 (by omega)
    have h6 : cumI y (m + 1) ≤ 365 + lpI y := by
      have := lpI_bd y
      obtain rfl | rfl | rfl | rfl | rfl | rfl | rfl | rfl | rfl | rfl | rfl | rfl := months a3 a4
      all_goals simp [cumI]
      all_goals omega
    unfold numI
    omega
  · omega

theorem before_keep (w : World) (a0 a1 a2 b0 b1 b2 : Value) (t : TypeId) {w' : World} (h : Ext ((w.alloc (.cells #[a0, a1, a2] t)).alloc (.cells #[b0, b1, b2] t)) w') :
    Ext ((w.alloc (.cells #[a0, a1, a2] t)).alloc (.cells #[b0, b1, b2] t)) w' ∧ w'.cell? ⟨w.heap.size, 0, none⟩ = some a0 ∧ w'.cell? ⟨w.heap.size, 1, none⟩ = some a1 ∧ w'.cell? ⟨w.heap.size, 2, none⟩ = some a2 ∧
      w'.cell? ⟨w.heap.size + 1, 0, none⟩ = some b0 ∧ w'.cell? ⟨w.heap.size + 1, 1, none⟩ = some b1 ∧ w'.cell? ⟨w.heap.size + 1, 2, none⟩ = some b2 := by
  obtain ⟨hc, _⟩ := Ext.bc h
  refine ⟨h, ?_, ?_, ?_, ?_, ?_, ?_⟩ <;> rw [hc _ _ (by simp <;> omega)] <;> simp [go_sem]

theorem dateRight_is (y m d : Int) (w : World) (b : Bool) (h : dayB y m d = b) : Calls Try.prog 19 #[.agg #[.int .i64 y, .int .i64 m, .int .i64 d]] w fun e w' => e = .returned (.bool b) ∧ Ext w w' := by
  rw [← h]; exact dateRight_any y m d w

set_option maxHeartbeats 4000000 in
theorem before_any (y m d y' m' d' : Int) (w : World) : Calls Try.prog 23 #[.agg #[.int .i64 y, .int .i64 m, .int .i64 d], .agg #[.int .i64 y', .int .i64 m', .int .i64 d']] w fun e x => e = .returned (.bool (beforeB y m d y' m' d')) ∧ Ext w x := by
  have hb : beforeB y m d y' m' d' = (dayB y m d && (dayB y' m' d' && decide (daysI y m d < daysI y' m' d'))) := rfl
  cases h1 : dayB y m d
  · rw [h1, Bool.false_and] at hb
    have HB := Lib.hid hb
    have H1 := Lib.hid h1
    clear hb h1
    go_enter Try.func23, Try.ntmps23
    go_wp2
    go_region_with (go_at_call 19; (with_reducible refine (dateRight_is y m d _ false H1.out).mono ?_); rintro e x ⟨rfl, hx⟩)
    all_goals
      go_wp2
      go_ret
      refine ⟨by rw [HB.out]; rfl, (by repeat (first | exact Ext.refl _ | assumption | refine Ext.trans ?_ (by assumption) | refine Ext.alloc ?_ _ | refine Ext.drew ?_ | refine Ext.drewN ?_ _))⟩
  · cases h2 : dayB y' m' d'
    · rw [h1, h2, Bool.false_and, Bool.and_false] at hb
      have HB := Lib.hid hb
      have H1 := Lib.hid h1
      have H2 := Lib.hid h2
      clear hb h1 h2
      go_enter Try.func23, Try.ntmps23
      go_wp2
      go_region_with (first
        | (go_at_call 19; (with_reducible refine (dateRight_is y m d _ true H1.out).mono ?_); rintro e x ⟨rfl, hx⟩; obtain ⟨hE, hk1, hk2, hk3, hk4, hk5, hk6⟩ := before_keep w _ _ _ _ _ _ _ (Ext.trans ((Ext.refl _).drew) hx))
        | (go_at_call 19; (with_reducible refine (dateRight_is y' m' d' _ false H2.out).mono ?_); rintro e x ⟨rfl, hx⟩))
      all_goals
        go_wp2
        go_ret
        refine ⟨by rw [HB.out]; rfl, (by repeat (first | exact Ext.refl _ | assumption | refine Ext.trans ?_ (by assumption) | refine Ext.alloc ?_ _ | refine Ext.drew ?_ | refine Ext.drewN ?_ _))⟩
    · rw [h1, h2, Bool.true_and, Bool.true_and] at hb
      have HB := Lib.hid hb
      have H1 := Lib.hid h1
      have H2 := Lib.hid h2
      clear hb h1 h2
      go_enter Try.func23, Try.ntmps23
      go_wp2
      go_region_held3 (fun x => Ext ((w.alloc (.cells #[.int .i64 y, .int .i64 m, .int .i64 d] 23)).alloc (.cells #[.int .i64 y', .int .i64 m', .int .i64 d'] 23)) x ∧ x.cell? ⟨w.heap.size, 0, none⟩ = some (.int .i64 y) ∧ x.cell? ⟨w.heap.size, 1, none⟩ = some (.int .i64 m) ∧ x.cell? ⟨w.heap.size, 2, none⟩ = some (.int .i64 d) ∧
        x.cell? ⟨w.heap.size + 1, 0, none⟩ = some (.int .i64 y') ∧ x.cell? ⟨w.heap.size + 1, 1, none⟩ = some (.int .i64 m') ∧ x.cell? ⟨w.heap.size + 1, 2, none⟩ = some (.int .i64 d'))
        ((refine before_keep w _ _ _ _ _ _ _ ?_; repeat (first | exact Ext.refl _ | assumption | refine Ext.trans ?_ (by assumption) | refine Ext.drew ?_)))
        (first
          | (go_at_call 19; (with_reducible refine (dateRight_is y m d _ true H1.out).mono ?_); rintro e x ⟨rfl, hx⟩)
          | (go_at_call 19; (with_reducible refine (dateRight_is y' m' d' _ true H2.out).mono ?_); rintro e x ⟨rfl, hx⟩)
          | (go_at_call 13; refine (days_any _ _ _ _).mono ?_; rintro e x ⟨rfl, hx⟩))
      all_goals
        go_wp2
        go_ret
        refine ⟨by rw [HB.out]; rfl, (by repeat (first | exact Ext.refl _ | assumption | refine Ext.trans ?_ (by assumption) | refine Ext.alloc ?_ _ | refine Ext.drew ?_ | refine Ext.drewN ?_ _))⟩
end Go.Proofs.Yteoohgkaejgoaaa
