/- The law ConfMeets of package impostlaw21: the walk. -/
import Derived.Test.YtomeaamgdfhgaaaConfTells
namespace Go.Proofs.Ytomeaamgdfhgaaa
open Go.RowKit

theorem mb1 (m a b : Int) (h1 : mostB m a = true) (h2 : mostB m b = true) : ((memN (bits .and .i64 (bits .and .i64 m a) b) : Int) == 0) = false := by
  simp only [mostB, Bool.and_eq_true, decide_eq_true_eq] at h1 h2
  have := meets_one m a b (by omega) (by omega)
  rw [beq_eq_false_iff_ne]
  omega
theorem mb2 (m n a b : Int) (h0 : mayB m n = true) (h1 : mostB m a = true) (h2 : mostB n b = true) : ((memN (bits .and .i64 (bits .and .i64 (bits .and .i64 m n) a) b) : Int) == 0) = false := by
  simp only [mayB, mostB, Bool.and_eq_true, decide_eq_true_eq, beq_iff_eq] at h0 h1 h2
  have := meets_two m n a b (by omega) (by omega) (by omega)
  rw [beq_eq_false_iff_ne]
  omega

set_option maxHeartbeats 4000000 in
set_option maxRecDepth 100000 in
theorem confMeets_any (m n a b : Int) (w : World) :
    Calls Try.prog 5 #[.int .i64 m, .int .i64 n, .int .i64 a, .int .i64 b] w fun e w' => e = .returned (.bool true) ∧ Ext w w' := by
  have q1 := memN_le (bits .and .i64 (bits .and .i64 m a) b)
  have q2 := memN_le (bits .and .i64 (bits .and .i64 (bits .and .i64 m n) a) b)
  cases c1 : mostB m a <;> cases c2 : mostB m b <;> cases c3 : mayB m n <;> cases c4 : mostB n b
  all_goals
    try have f1 := mb1 m a b c1 c2
    try have f2 := mb2 m n a b c3 c1 c4
    go_enter Try.func5, Try.ntmps5
    go_wp2_with (first
      | (go_at_call 8; refine (count_any _ _).mono ?_; rintro e w' ⟨rfl, hx⟩)
      | (go_at_call 11; refine (most_any _ _ _).mono ?_; rintro e w' ⟨rfl, hx⟩)
      | (go_at_call 12; refine (may_any _ _ _).mono ?_; rintro e w' ⟨rfl, hx⟩)
      | (go_at_call 3; refine (confRuns_any _).mono ?_; rintro e w' ⟨rfl, hx⟩))
    go_ret
    exact ⟨rfl, (by repeat (first | exact Ext.refl _ | assumption | refine Ext.trans ?_ (by assumption) | refine Ext.alloc ?_ _ | refine Ext.drew ?_ | refine Ext.drewN ?_ _))⟩
end Go.Proofs.Ytomeaamgdfhgaaa
