/- The law RateRises of package impostlaw5: the walk. -/
import Derived.Test.YtbkmgjblflhgiaaRateD
namespace Go.Proofs.Ytbkmgjblflhgiaa
open Go.RowKit

theorem rises (k k' r r' : Int) (h0 : 0 ≤ k) (h1 : k ≤ k') (h2 : k' ≤ 35184372088832) (h3 : 0 ≤ r) (h4 : r ≤ r') (h5 : r' ≤ 100000) :
    ∃ T U V X, shareR k r 10000 = (T, 0) ∧ shareR k' r' 10000 = (U, 0) ∧ shareR k r (10000 + r) = (V, 0) ∧ shareR k' r' (10000 + r') = (X, 0) ∧ T ≤ U ∧ V ≤ X := by
  obtain ⟨T, hT, _, _, _, _, _, eT⟩ := tax_lin k r h0 (by omega) h3 (by omega)
  obtain ⟨U, hU, _, _, _, _, _, eU⟩ := tax_lin k' r' (by omega) (by omega) (by omega) (by omega)
  obtain ⟨V, hV, _, _, _, _, eV⟩ := within_lin k r h0 (by omega) h3 (by omega)
  obtain ⟨X, hX, _, _, _, _, eX⟩ := within_lin k' r' (by omega) (by omega) (by omega) (by omega)
  refine ⟨T, U, V, X, hT, hU, hV, hX, ?_, ?_⟩
  · rw [eT, eU]; exact tax_mono k k' r r' h0 h1 h3 h4
  · rw [eV, eX]; exact within_mono k k' r r' h0 h1 h3 h4

theorem within_is (n lo hi m : Int) (w : World) (h : lo ≤ hi) (h0 : 0 ≤ lo) (h1 : hi ≤ 4611686018427387904) (hm : withI n lo hi = m) :
    Calls Try.prog 16 #[.int .i64 n, .int .i64 lo, .int .i64 hi] w fun e w' => e = .returned (.int .i64 m) ∧ w = w' := by
  rw [← hm]; exact within_any n lo hi w h h0 h1

set_option maxHeartbeats 2000000 in
set_option maxRecDepth 100000 in
theorem rateRises_any (a b p q : Int) (w : World) : Calls Try.prog 7 #[.int .i64 a, .int .i64 b, .int .i64 p, .int .i64 q] w fun e w' => e = .returned (.bool true) ∧ Ext w w' := by
  obtain ⟨b11, b12⟩ := withI_bd a 0 35184372088832 (by decide)
  obtain ⟨b21, b22⟩ := withI_bd b 0 35184372088832 (by decide)
  obtain ⟨b31, b32⟩ := withI_bd p 0 100000 (by decide)
  obtain ⟨b41, b42⟩ := withI_bd q 0 100000 (by decide)
  generalize hm : withI a 0 35184372088832 = m at *
  generalize hn : withI b 0 35184372088832 = n at *
  generalize hr : withI p 0 100000 = r at *
  generalize hs : withI q 0 100000 = s at *
  have HM := Lib.hid hm
  have HN := Lib.hid hn
  have HR := Lib.hid hr
  have HS := Lib.hid hs
  clear hm hn hr hs
  rcases Int.lt_trichotomy m n with hmn | rfl | hmn <;> rcases Int.lt_trichotomy r s with hrs | rfl | hrs
  · obtain ⟨T, U, V, X, f1, f2, f3, f4, g1, g2⟩ := rises m n r s (by omega) (by omega) (by omega) (by omega) (by omega) (by omega)
    have F1 := Lib.hid f1
    have F2 := Lib.hid f2
    have F3 := Lib.hid f3
    have F4 := Lib.hid f4
    clear f1 f2 f3 f4
    go_enter Try.func7, Try.ntmps7
    go_wp2_with fail
    refine (within_is a 0 35184372088832 m _ (by decide) (by decide) (by decide) HM.out).mono ?_
    rintro e w' ⟨rfl, rfl⟩
    go_wp2_with fail
    refine (within_is b 0 35184372088832 n _ (by decide) (by decide) (by decide) HN.out).mono ?_
    rintro e w' ⟨rfl, rfl⟩
    go_wp2_with fail
    refine (within_is p 0 100000 r _ (by decide) (by decide) (by decide) HR.out).mono ?_
    rintro e w' ⟨rfl, rfl⟩
    go_wp2_with fail
    refine (within_is q 0 100000 s _ (by decide) (by decide) (by decide) HS.out).mono ?_
    rintro e w' ⟨rfl, rfl⟩
    go_wp2_with fail
    refine (tax_is m r T 0 _ (by unfold In64; omega) F1.out).mono ?_
    rintro e w1 ⟨rfl, h1⟩
    go_wp2_with fail
    refine (tax_is n s U 0 _ (by unfold In64; omega) F2.out).mono ?_
    rintro e w2 ⟨rfl, h2⟩
    go_wp2_with fail
    refine (rwithin_is m r V 0 _ (by unfold In64; omega) F3.out).mono ?_
    rintro e w3 ⟨rfl, h3⟩
    go_wp2_with fail
    refine (rwithin_is n s X 0 _ (by unfold In64; omega) F4.out).mono ?_
    rintro e w4 ⟨rfl, h4⟩
    go_wp2_with (go_at_call 3; refine (rateRuns_any _).mono ?_; rintro e w' ⟨rfl, hx⟩)
    go_ret
    exact ⟨rfl, (by repeat (first | exact Ext.refl _ | assumption | refine Ext.trans ?_ (by assumption) | refine Ext.alloc ?_ _ | refine Ext.drew ?_ | refine Ext.drewN ?_ _))⟩
  · obtain ⟨T, U, V, X, f1, f2, f3, f4, g1, g2⟩ := rises m n r r (by omega) (by omega) (by omega) (by omega) (by omega) (by omega)
    have F1 := Lib.hid f1
    have F2 := Lib.hid f2
    have F3 := Lib.hid f3
    have F4 := Lib.hid f4
    clear f1 f2 f3 f4
    go_enter Try.func7, Try.ntmps7
    go_wp2_with fail
    refine (within_is a 0 35184372088832 m _ (by decide) (by decide) (by decide) HM.out).mono ?_
    rintro e w' ⟨rfl, rfl⟩
    go_wp2_with fail
    refine (within_is b 0 35184372088832 n _ (by decide) (by decide) (by decide) HN.out).mono ?_
    rintro e w' ⟨rfl, rfl⟩
    go_wp2_with fail
    refine (within_is p 0 100000 r _ (by decide) (by decide) (by decide) HR.out).mono ?_
    rintro e w' ⟨rfl, rfl⟩
    go_wp2_with fail
    refine (within_is q 0 100000 r _ (by decide) (by decide) (by decide) HS.out).mono ?_
    rintro e w' ⟨rfl, rfl⟩
    go_wp2_with fail
    refine (tax_is m r T 0 _ (by unfold In64; omega) F1.out).mono ?_
    rintro e w1 ⟨rfl, h1⟩
    go_wp2_with fail
    refine (tax_is n r U 0 _ (by unfold In64; omega) F2.out).mono ?_
    rintro e w2 ⟨rfl, h2⟩
    go_wp2_with fail
    refine (rwithin_is m r V 0 _ (by unfold In64; omega) F3.out).mono ?_
    rintro e w3 ⟨rfl, h3⟩
    go_wp2_with fail
    refine (rwithin_is n r X 0 _ (by unfold In64; omega) F4.out).mono ?_
    rintro e w4 ⟨rfl, h4⟩
    go_wp2_with (go_at_call 3; refine (rateRuns_any _).mono ?_; rintro e w' ⟨rfl, hx⟩)
    go_ret
    exact ⟨rfl, (by repeat (first | exact Ext.refl _ | assumption | refine Ext.trans ?_ (by assumption) | refine Ext.alloc ?_ _ | refine Ext.drew ?_ | refine Ext.drewN ?_ _))⟩
  · obtain ⟨T, U, V, X, f1, f2, f3, f4, g1, g2⟩ := rises m n s r (by omega) (by omega) (by omega) (by omega) (by omega) (by omega)
    have F1 := Lib.hid f1
    have F2 := Lib.hid f2
    have F3 := Lib.hid f3
    have F4 := Lib.hid f4
    clear f1 f2 f3 f4
    go_enter Try.func7, Try.ntmps7
    go_wp2_with fail
    refine (within_is a 0 35184372088832 m _ (by decide) (by decide) (by decide) HM.out).mono ?_
    rintro e w' ⟨rfl, rfl⟩
    go_wp2_with fail
    refine (within_is b 0 35184372088832 n _ (by decide) (by decide) (by decide) HN.out).mono ?_
    rintro e w' ⟨rfl, rfl⟩
    go_wp2_with fail
    refine (within_is p 0 100000 r _ (by decide) (by decide) (by decide) HR.out).mono ?_
    rintro e w' ⟨rfl, rfl⟩
    go_wp2_with fail
    refine (within_is q 0 100000 s _ (by decide) (by decide) (by decide) HS.out).mono ?_
    rintro e w' ⟨rfl, rfl⟩
    go_wp2_with fail
    refine (tax_is m s T 0 _ (by unfold In64; omega) F1.out).mono ?_
    rintro e w1 ⟨rfl, h1⟩
    go_wp2_with fail
    refine (tax_is n r U 0 _ (by unfold In64; omega) F2.out).mono ?_
    rintro e w2 ⟨rfl, h2⟩
    go_wp2_with fail
    refine (rwithin_is m s V 0 _ (by unfold In64; omega) F3.out).mono ?_
    rintro e w3 ⟨rfl, h3⟩
    go_wp2_with fail
    refine (rwithin_is n r X 0 _ (by unfold In64; omega) F4.out).mono ?_
    rintro e w4 ⟨rfl, h4⟩
    go_wp2_with (go_at_call 3; refine (rateRuns_any _).mono ?_; rintro e w' ⟨rfl, hx⟩)
    go_ret
    exact ⟨rfl, (by repeat (first | exact Ext.refl _ | assumption | refine Ext.trans ?_ (by assumption) | refine Ext.alloc ?_ _ | refine Ext.drew ?_ | refine Ext.drewN ?_ _))⟩
  · obtain ⟨T, U, V, X, f1, f2, f3, f4, g1, g2⟩ := rises m m r s (by omega) (by omega) (by omega) (by omega) (by omega) (by omega)
    have F1 := Lib.hid f1
    have F2 := Lib.hid f2
    have F3 := Lib.hid f3
    have F4 := Lib.hid f4
    clear f1 f2 f3 f4
    go_enter Try.func7, Try.ntmps7
    go_wp2_with fail
    refine (within_is a 0 35184372088832 m _ (by decide) (by decide) (by decide) HM.out).mono ?_
    rintro e w' ⟨rfl, rfl⟩
    go_wp2_with fail
    refine (within_is b 0 35184372088832 m _ (by decide) (by decide) (by decide) HN.out).mono ?_
    rintro e w' ⟨rfl, rfl⟩
    go_wp2_with fail
    refine (within_is p 0 100000 r _ (by decide) (by decide) (by decide) HR.out).mono ?_
    rintro e w' ⟨rfl, rfl⟩
    go_wp2_with fail
    refine (within_is q 0 100000 s _ (by decide) (by decide) (by decide) HS.out).mono ?_
    rintro e w' ⟨rfl, rfl⟩
    go_wp2_with fail
    refine (tax_is m r T 0 _ (by unfold In64; omega) F1.out).mono ?_
    rintro e w1 ⟨rfl, h1⟩
    go_wp2_with fail
    refine (tax_is m s U 0 _ (by unfold In64; omega) F2.out).mono ?_
    rintro e w2 ⟨rfl, h2⟩
    go_wp2_with fail
    refine (rwithin_is m r V 0 _ (by unfold In64; omega) F3.out).mono ?_
    rintro e w3 ⟨rfl, h3⟩
    go_wp2_with fail
    refine (rwithin_is m s X 0 _ (by unfold In64; omega) F4.out).mono ?_
    rintro e w4 ⟨rfl, h4⟩
    go_wp2_with (go_at_call 3; refine (rateRuns_any _).mono ?_; rintro e w' ⟨rfl, hx⟩)
    go_ret
    exact ⟨rfl, (by repeat (first | exact Ext.refl _ | assumption | refine Ext.trans ?_ (by assumption) | refine Ext.alloc ?_ _ | refine Ext.drew ?_ | refine Ext.drewN ?_ _))⟩
  · obtain ⟨T, U, V, X, f1, f2, f3, f4, g1, g2⟩ := rises m m r r (by omega) (by omega) (by omega) (by omega) (by omega) (by omega)
    have F1 := Lib.hid f1
    have F2 := Lib.hid f2
    have F3 := Lib.hid f3
    have F4 := Lib.hid f4
    clear f1 f2 f3 f4
    go_enter Try.func7, Try.ntmps7
    go_wp2_with fail
    refine (within_is a 0 35184372088832 m _ (by decide) (by decide) (by decide) HM.out).mono ?_
    rintro e w' ⟨rfl, rfl⟩
    go_wp2_with fail
    refine (within_is b 0 35184372088832 m _ (by decide) (by decide) (by decide) HN.out).mono ?_
    rintro e w' ⟨rfl, rfl⟩
    go_wp2_with fail
    refine (within_is p 0 100000 r _ (by decide) (by decide) (by decide) HR.out).mono ?_
    rintro e w' ⟨rfl, rfl⟩
    go_wp2_with fail
    refine (within_is q 0 100000 r _ (by decide) (by decide) (by decide) HS.out).mono ?_
    rintro e w' ⟨rfl, rfl⟩
    go_wp2_with fail
    refine (tax_is m r T 0 _ (by unfold In64; omega) F1.out).mono ?_
    rintro e w1 ⟨rfl, h1⟩
    go_wp2_with fail
    refine (tax_is m r U 0 _ (by unfold In64; omega) F2.out).mono ?_
    rintro e w2 ⟨rfl, h2⟩
    go_wp2_with fail
    refine (rwithin_is m r V 0 _ (by unfold In64; omega) F3.out).mono ?_
    rintro e w3 ⟨rfl, h3⟩
    go_wp2_with fail
    refine (rwithin_is m r X 0 _ (by unfold In64; omega) F4.out).mono ?_
    rintro e w4 ⟨rfl, h4⟩
    go_wp2_with (go_at_call 3; refine (rateRuns_any _).mono ?_; rintro e w' ⟨rfl, hx⟩)
    go_ret
    exact ⟨rfl, (by repeat (first | exact Ext.refl _ | assumption | refine Ext.trans ?_ (by assumption) | refine Ext.alloc ?_ _ | refine Ext.drew ?_ | refine Ext.drewN ?_ _))⟩
  · obtain ⟨T, U, V, X, f1, f2, f3, f4, g1, g2⟩ := rises m m s r (by omega) (by omega) (by omega) (by omega) (by omega) (by omega)
    have F1 := Lib.hid f1
    have F2 := Lib.hid f2
    have F3 := Lib.hid f3
    have F4 := Lib.hid f4
    clear f1 f2 f3 f4
    go_enter Try.func7, Try.ntmps7
    go_wp2_with fail
    refine (within_is a 0 35184372088832 m _ (by decide) (by decide) (by decide) HM.out).mono ?_
    rintro e w' ⟨rfl, rfl⟩
    go_wp2_with fail
    refine (within_is b 0 35184372088832 m _ (by decide) (by decide) (by decide) HN.out).mono ?_
    rintro e w' ⟨rfl, rfl⟩
    go_wp2_with fail
    refine (within_is p 0 100000 r _ (by decide) (by decide) (by decide) HR.out).mono ?_
    rintro e w' ⟨rfl, rfl⟩
    go_wp2_with fail
    refine (within_is q 0 100000 s _ (by decide) (by decide) (by decide) HS.out).mono ?_
    rintro e w' ⟨rfl, rfl⟩
    go_wp2_with fail
    refine (tax_is m s T 0 _ (by unfold In64; omega) F1.out).mono ?_
    rintro e w1 ⟨rfl, h1⟩
    go_wp2_with fail
    refine (tax_is m r U 0 _ (by unfold In64; omega) F2.out).mono ?_
    rintro e w2 ⟨rfl, h2⟩
    go_wp2_with fail
    refine (rwithin_is m s V 0 _ (by unfold In64; omega) F3.out).mono ?_
    rintro e w3 ⟨rfl, h3⟩
    go_wp2_with fail
    refine (rwithin_is m r X 0 _ (by unfold In64; omega) F4.out).mono ?_
    rintro e w4 ⟨rfl, h4⟩
    go_wp2_with (go_at_call 3; refine (rateRuns_any _).mono ?_; rintro e w' ⟨rfl, hx⟩)
    go_ret
    exact ⟨rfl, (by repeat (first | exact Ext.refl _ | assumption | refine Ext.trans ?_ (by assumption) | refine Ext.alloc ?_ _ | refine Ext.drew ?_ | refine Ext.drewN ?_ _))⟩
  · obtain ⟨T, U, V, X, f1, f2, f3, f4, g1, g2⟩ := rises n m r s (by omega) (by omega) (by omega) (by omega) (by omega) (by omega)
    have F1 := Lib.hid f1
    have F2 := Lib.hid f2
    have F3 := Lib.hid f3
    have F4 := Lib.hid f4
    clear f1 f2 f3 f4
    go_enter Try.func7, Try.ntmps7
    go_wp2_with fail
    refine (within_is a 0 35184372088832 m _ (by decide) (by decide) (by decide) HM.out).mono ?_
    rintro e w' ⟨rfl, rfl⟩
    go_wp2_with fail
    refine (within_is b 0 35184372088832 n _ (by decide) (by decide) (by decide) HN.out).mono ?_
    rintro e w' ⟨rfl, rfl⟩
    go_wp2_with fail
    refine (within_is p 0 100000 r _ (by decide) (by decide) (by decide) HR.out).mono ?_
    rintro e w' ⟨rfl, rfl⟩
    go_wp2_with fail
    refine (within_is q 0 100000 s _ (by decide) (by decide) (by decide) HS.out).mono ?_
    rintro e w' ⟨rfl, rfl⟩
    go_wp2_with fail
    refine (tax_is n r T 0 _ (by unfold In64; omega) F1.out).mono ?_
    rintro e w1 ⟨rfl, h1⟩
    go_wp2_with fail
    refine (tax_is m s U 0 _ (by unfold In64; omega) F2.out).mono ?_
    rintro e w2 ⟨rfl, h2⟩
    go_wp2_with fail
    refine (rwithin_is n r V 0 _ (by unfold In64; omega) F3.out).mono ?_
    rintro e w3 ⟨rfl, h3⟩
    go_wp2_with fail
    refine (rwithin_is m s X 0 _ (by unfold In64; omega) F4.out).mono ?_
    rintro e w4 ⟨rfl, h4⟩
    go_wp2_with (go_at_call 3; refine (rateRuns_any _).mono ?_; rintro e w' ⟨rfl, hx⟩)
    go_ret
    exact ⟨rfl, (by repeat (first | exact Ext.refl _ | assumption | refine Ext.trans ?_ (by assumption) | refine Ext.alloc ?_ _ | refine Ext.drew ?_ | refine Ext.drewN ?_ _))⟩
  · obtain ⟨T, U, V, X, f1, f2, f3, f4, g1, g2⟩ := rises n m r r (by omega) (by omega) (by omega) (by omega) (by omega) (by omega)
    have F1 := Lib.hid f1
    have F2 := Lib.hid f2
    have F3 := Lib.hid f3
    have F4 := Lib.hid f4
    clear f1 f2 f3 f4
    go_enter Try.func7, Try.ntmps7
    go_wp2_with fail
    refine (within_is a 0 35184372088832 m _ (by decide) (by decide) (by decide) HM.out).mono ?_
    rintro e w' ⟨rfl, rfl⟩
    go_wp2_with fail
    refine (within_is b 0 35184372088832 n _ (by decide) (by decide) (by decide) HN.out).mono ?_
    rintro e w' ⟨rfl, rfl⟩
    go_wp2_with fail
    refine (within_is p 0 100000 r _ (by decide) (by decide) (by decide) HR.out).mono ?_
    rintro e w' ⟨rfl, rfl⟩
    go_wp2_with fail
    refine (within_is q 0 100000 r _ (by decide) (by decide) (by decide) HS.out).mono ?_
    rintro e w' ⟨rfl, rfl⟩
    go_wp2_with fail
    refine (tax_is n r T 0 _ (by unfold In64; omega) F1.out).mono ?_
    rintro e w1 ⟨rfl, h1⟩
    go_wp2_with fail
    refine (tax_is m r U 0 _ (by unfold In64; omega) F2.out).mono ?_
    rintro e w2 ⟨rfl, h2⟩
    go_wp2_with fail
    refine (rwithin_is n r V 0 _ (by unfold In64; omega) F3.out).mono ?_
    rintro e w3 ⟨rfl, h3⟩
    go_wp2_with fail
    refine (rwithin_is m r X 0 _ (by unfold In64; omega) F4.out).mono ?_
    rintro e w4 ⟨rfl, h4⟩
    go_wp2_with (go_at_call 3; refine (rateRuns_any _).mono ?_; rintro e w' ⟨rfl, hx⟩)
    go_ret
    exact ⟨rfl, (by repeat (first | exact Ext.refl _ | assumption | refine Ext.trans ?_ (by assumption) | refine Ext.alloc ?_ _ | refine Ext.drew ?_ | refine Ext.drewN ?_ _))⟩
  · obtain ⟨T, U, V, X, f1, f2, f3, f4, g1, g2⟩ := rises n m s r (by omega) (by omega) (by omega) (by omega) (by omega) (by omega)
    have F1 := Lib.hid f1
    have F2 := Lib.hid f2
    have F3 := Lib.hid f3
    have F4 := Lib.hid f4
    clear f1 f2 f3 f4
    go_enter Try.func7, Try.ntmps7
    go_wp2_with fail
    refine (within_is a 0 35184372088832 m _ (by decide) (by decide) (by decide) HM.out).mono ?_
    rintro e w' ⟨rfl, rfl⟩
    go_wp2_with fail
    refine (within_is b 0 35184372088832 n _ (by decide) (by decide) (by decide) HN.out).mono ?_
    rintro e w' ⟨rfl, rfl⟩
    go_wp2_with fail
    refine (within_is p 0 100000 r _ (by decide) (by decide) (by decide) HR.out).mono ?_
    rintro e w' ⟨rfl, rfl⟩
    go_wp2_with fail
    refine (within_is q 0 100000 s _ (by decide) (by decide) (by decide) HS.out).mono ?_
    rintro e w' ⟨rfl, rfl⟩
    go_wp2_with fail
    refine (tax_is n s T 0 _ (by unfold In64; omega) F1.out).mono ?_
    rintro e w1 ⟨rfl, h1⟩
    go_wp2_with fail
    refine (tax_is m r U 0 _ (by unfold In64; omega) F2.out).mono ?_
    rintro e w2 ⟨rfl, h2⟩
    go_wp2_with fail
    refine (rwithin_is n s V 0 _ (by unfold In64; omega) F3.out).mono ?_
    rintro e w3 ⟨rfl, h3⟩
    go_wp2_with fail
    refine (rwithin_is m r X 0 _ (by unfold In64; omega) F4.out).mono ?_
    rintro e w4 ⟨rfl, h4⟩
    go_wp2_with (go_at_call 3; refine (rateRuns_any _).mono ?_; rintro e w' ⟨rfl, hx⟩)
    go_ret
    exact ⟨rfl, (by repeat (first | exact Ext.refl _ | assumption | refine Ext.trans ?_ (by assumption) | refine Ext.alloc ?_ _ | refine Ext.drew ?_ | refine Ext.drewN ?_ _))⟩
end Go.Proofs.Ytbkmgjblflhgiaa
