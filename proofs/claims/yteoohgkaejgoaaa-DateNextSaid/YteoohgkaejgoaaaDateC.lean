/- Contracts of date.Of and of the document's Of: the day of a number. -/
import Derived.Test.YteoohgkaejgoaaaDateB
namespace Go.Proofs.Yteoohgkaejgoaaa
open Go.RowKit

theorem min4 (r : Int) (h : 0 ≤ r) (h2 : r ≤ 3) : r = 0 ∨ r = 1 ∨ r = 2 ∨ r = 3 := by omega
theorem yr_a (r c r1 : Int) (h0 : 0 ≤ r) (h1 : r < 146097) (hc : (r / 36524 ≤ 3 ∧ c = r / 36524) ∨ (3 < r / 36524 ∧ c = 3)) (hr1 : r1 = r - c * 36524) :
    0 ≤ c ∧ c ≤ 3 ∧ 0 ≤ r1 ∧ r1 ≤ 36524 ∧ (c ≤ 2 → r1 < 36524) := by omega
theorem yr_b (r1 f r2 : Int) (h0 : 0 ≤ r1) (h1 : r1 ≤ 36524) (hf : f = r1 / 1461) (hr2 : r2 = r1 % 1461) : 0 ≤ f ∧ f ≤ 24 ∧ 0 ≤ r2 ∧ r2 < 1461 ∧ r1 = 1461 * f + r2 := by omega
theorem yr_c (r2 o r3 : Int) (h0 : 0 ≤ r2) (h1 : r2 < 1461) (hc : (r2 / 365 ≤ 3 ∧ o = r2 / 365) ∨ (3 < r2 / 365 ∧ o = 3)) (hr3 : r3 = r2 - o * 365) :
    0 ≤ o ∧ o ≤ 3 ∧ 0 ≤ r3 ∧ r3 ≤ 365 ∧ (o ≤ 2 → r3 < 365) := by omega
theorem yr_4 (q c f o : Int) (h1 : 0 ≤ o) (h2 : o ≤ 3) : (400 * q + 100 * c + 4 * f + o) / 4 = 100 * q + 25 * c + f := by omega
theorem yr_100 (q c f o : Int) (h1 : 0 ≤ o) (h2 : o ≤ 3) (h3 : 0 ≤ f) (h4 : f ≤ 24) : (400 * q + 100 * c + 4 * f + o) / 100 = 4 * q + c := by omega
theorem yr_400 (q c f o : Int) (h1 : 0 ≤ o) (h2 : o ≤ 3) (h3 : 0 ≤ f) (h4 : f ≤ 24) (h5 : 0 ≤ c) (h6 : c ≤ 3) : (400 * q + 100 * c + 4 * f + o) / 400 = q := by omega
/-- The year of a number of days, as the program reckons it. -/
theorem year_of (n q r c r1 f r2 o r3 : Int) (h0 : 0 ≤ n) (h1 : n < 3652059) (hq : q = n / 146097) (hr : r = n % 146097) (hc : (r / 36524 ≤ 3 ∧ c = r / 36524) ∨ (3 < r / 36524 ∧ c = 3)) (hr1 : r1 = r - c * 36524)
    (hf : f = r1 / 1461) (hr2 : r2 = r1 % 1461) (ho : (r2 / 365 ≤ 3 ∧ o = r2 / 365) ∨ (3 < r2 / 365 ∧ o = 3)) (hr3 : r3 = r2 - o * 365) (y : Int) (hy : y = 400 * q + 100 * c + 4 * f + o + 1) :
    1 ≤ y ∧ y ≤ 9999 ∧ r3 = n - aheadI y ∧ 0 ≤ r3 ∧ r3 < 365 + lpI y := by
  have q0 : 0 ≤ q ∧ q ≤ 24 ∧ 0 ≤ r ∧ r < 146097 ∧ n = 146097 * q + r := by omega
  obtain ⟨q1, q2, r01, r02, hn⟩ := q0
  obtain ⟨c1, c2, r11, r12, c3⟩ := yr_a r c r1 r01 r02 hc hr1
  obtain ⟨f1, f2, r21, r22, e2⟩ := yr_b r1 f r2 r11 r12 hf hr2
  obtain ⟨o1, o2, r31, r32, o3⟩ := yr_c r2 o r3 r21 r22 ho hr3
  clear hc ho hf hr2 hq hr
  have a1 := yr_4 q c f o o1 o2
  have a2 := yr_100 q c f o o1 o2 f1 f2
  have a3 := yr_400 q c f o o1 o2 f1 f2 c1 c2
  have ey : y - 1 = 400 * q + 100 * c + 4 * f + o := by omega
  have e : r3 = n - aheadI y := by unfold aheadI; rw [ey, a1, a2, a3]; clear a1 a2 a3 c3 o3; omega
  clear a1 a2 a3
  have y0 : 1 ≤ y := by clear e c3 o3; omega
  have hl := lpI_bd y
  have y1 : y ≤ 10000 := by clear e c3 o3; omega
  have y2 : y ≠ 10000 := by
    intro h
    rw [h] at e
    have k : aheadI 10000 = 3652059 := by decide
    rw [k] at e
    omega
  refine ⟨y0, by omega, e, r31, ?_⟩
  clear e
  by_cases ho3 : o ≤ 2
  · have := o3 ho3
    omega
  · have ho : o = 3 := by omega
    subst ho
    have l4 : y % 4 = 0 := by clear c3 o3; omega
    by_cases hl : f = 24 ∧ c ≤ 2
    · have := c3 hl.2
      omega
    · have : lpI y = 1 := by
        unfold lpI leapB
        by_cases l5 : y % 100 = 0
        · have hf : f = 24 := by clear c3 o3 hl; omega
          have hcc : c = 3 := by omega
          subst hf hcc
          have l6 : y % 400 = 0 := by clear c3 o3; omega
          simp [l4, l5, l6]
        · simp [l4, l5]
      omega

theorem ret_date {y m d : Int} {b : Bool} {y' m' d' : Int} (h : y = y') (h2 : m = m') (h3 : d = d') : Ending.returned (.tuple #[.agg #[.int .i64 y, .int .i64 m, .int .i64 d], .bool b]) = .returned (.tuple #[.agg #[.int .i64 y', .int .i64 m', .int .i64 d'], .bool b]) := by rw [h, h2, h3]

theorem year_fin (E R Y Z n : Int) (hE : E = Y) (hR : R = Z) (H : 1 ≤ Y ∧ Y ≤ 9999 ∧ Z = n - aheadI Y ∧ 0 ≤ Z ∧ Z < 365 + lpI Y) :
    1 ≤ E ∧ E ≤ 9999 ∧ (1 : Int) ≤ 1 ∧ (1 : Int) ≤ 12 ∧ 0 ≤ R ∧ R = n - aheadI E - cumI E 1 ∧ n - aheadI E < 365 + lpI E := by
  subst hE hR
  have : cumI E 1 = 0 := by simp [cumI]
  omega

/-- The day of a number. -/
def IsDay (n y m d : Int) : Prop := dayB y m d = true ∧ numI y m d = n

set_option maxHeartbeats 1000000 in
theorem of_no (n : Int) (w : World) (h : n < 0 ∨ 3652059 ≤ n) : Calls Try.prog 11 #[.int .i64 n] w fun e w' => e = .returned (.tuple #[.agg #[.int .i64 0, .int .i64 0, .int .i64 0], .bool false]) ∧ Ext w w' := by
  have k : aheadI 10000 = 3652059 := by decide
  rcases h with h | h
  · go_enter Try.func11, Try.ntmps11
    go_wp2_with (go_at_call 24; refine (ahead_any _ _ (by omega) (by omega)).mono ?_; rintro e w' ⟨rfl, rfl⟩)
    exact bodyPost_ret (v := .tuple #[.agg #[.int .i64 0, .int .i64 0, .int .i64 0], .bool false]) (by simp [results, Try.results11, go_sem]) rfl ⟨rfl, (by repeat (first | exact Ext.refl _ | assumption | refine Ext.trans ?_ (by assumption) | refine Ext.alloc ?_ _ | refine Ext.drew ?_ | refine Ext.drewN ?_ _))⟩
  · have h' : ¬ n < 0 := by omega
    go_enter Try.func11, Try.ntmps11
    go_wp2_with (go_at_call 24; refine (ahead_any _ _ (by omega) (by omega)).mono ?_; rintro e w' ⟨rfl, rfl⟩)
    exact bodyPost_ret (v := .tuple #[.agg #[.int .i64 0, .int .i64 0, .int .i64 0], .bool false]) (by simp [results, Try.results11, go_sem]) rfl ⟨rfl, (by repeat (first | exact Ext.refl _ | assumption | refine Ext.trans ?_ (by assumption) | refine Ext.alloc ?_ _ | refine Ext.drew ?_ | refine Ext.drewN ?_ _))⟩

set_option maxHeartbeats 1000000 in
theorem of_yes (n : Int) (w : World) (h0 : 0 ≤ n) (h1 : n < 3652059) : Calls Try.prog 11 #[.int .i64 n] w fun e w' => ∃ y m d : Int, e = .returned (.tuple #[.agg #[.int .i64 y, .int .i64 m, .int .i64 d], .bool true]) ∧ IsDay n y m d ∧ Ext w w' := by
  have k : aheadI 10000 = 3652059 := by decide
  have hn : ¬ n < 0 := by omega
  go_enter Try.func11, Try.ntmps11
  go_wp2_with (go_at_call 24; refine (ahead_any _ _ (by omega) (by omega)).mono ?_; rintro e w' ⟨rfl, rfl⟩)
  all_goals
    first
      | (have H := year_fin (n := n) (Y := _) (Z := _) (E := n / 146097 * 400 + 1 + (300 + 4 * ((n % 146097 - 109572) / 1461) + 3)) (R := (n % 146097 - 109572) % 1461 - 1095) (by omega) (by omega) (year_of n _ _ 3 _ _ _ 3 _ h0 h1 rfl rfl (.inr ⟨by omega, rfl⟩) rfl rfl rfl (.inr ⟨by omega, rfl⟩) rfl _ rfl)
         generalize n / 146097 * 400 + 1 + (300 + 4 * ((n % 146097 - 109572) / 1461) + 3) = y at *
         generalize (n % 146097 - 109572) % 1461 - 1095 = r0 at *)
      | (have H := year_fin (n := n) (Y := _) (Z := _) (E := n / 146097 * 400 + 1 + (100 * (n % 146097 / 36524) + 4 * ((n % 146097 - n % 146097 / 36524 * 36524) / 1461) + 3)) (R := (n % 146097 - n % 146097 / 36524 * 36524) % 1461 - 1095) (by omega) (by omega) (year_of n _ _ _ _ _ _ 3 _ h0 h1 rfl rfl (.inl ⟨by omega, rfl⟩) rfl rfl rfl (.inr ⟨by omega, rfl⟩) rfl _ rfl)
         generalize n / 146097 * 400 + 1 + (100 * (n % 146097 / 36524) + 4 * ((n % 146097 - n % 146097 / 36524 * 36524) / 1461) + 3) = y at *
         generalize (n % 146097 - n % 146097 / 36524 * 36524) % 1461 - 1095 = r0 at *)
      | (have H := year_fin (n := n) (Y := _) (Z := _) (E := n / 146097 * 400 + 1 + (100 * (n % 146097 / 36524) + 4 * ((n % 146097 - n % 146097 / 36524 * 36524) / 1461) + (n % 146097 - n % 146097 / 36524 * 36524) % 1461 / 365)) (R := (n % 146097 - n % 146097 / 36524 * 36524) % 1461 - (n % 146097 - n % 146097 / 36524 * 36524) % 1461 / 365 * 365) (by omega) (by omega) (year_of n _ _ _ _ _ _ _ _ h0 h1 rfl rfl (.inl ⟨by omega, rfl⟩) rfl rfl rfl (.inl ⟨by omega, rfl⟩) rfl _ rfl)
         generalize n / 146097 * 400 + 1 + (100 * (n % 146097 / 36524) + 4 * ((n % 146097 - n % 146097 / 36524 * 36524) / 1461) + (n % 146097 - n % 146097 / 36524 * 36524) % 1461 / 365) = y at *
         generalize (n % 146097 - n % 146097 / 36524 * 36524) % 1461 - (n % 146097 - n % 146097 / 36524 * 36524) % 1461 / 365 * 365 = r0 at *)
    obtain ⟨y1, y2, _, _, q0, qr, hlt⟩ := H
    have QR := Lib.hid qr
    clear qr
    go_loop [5, 9] (fun rv mv => ∃ r k : Int, rv = .int .i64 r ∧ mv = .int .i64 k ∧ 1 ≤ k ∧ k ≤ 12 ∧ 0 ≤ r ∧ r = n - aheadI y - cumI y k) (fun _ mv => (12 - intOf mv).toNat)
    case atStart => exact ⟨_, 1, rfl, rfl, by omega, by omega, q0, QR.out⟩
    case round =>
      obtain ⟨r, k, rfl, rfl, k1, k2, r00, hr⟩ := hrel
      have hl := lenI_bd y k
      obtain ⟨l1, l2⟩ := hl
      have hs := cumI_succ y k k1 k2
      have HS := Lib.hid hs
      have HR := Lib.hid hr
      have hlast : k = 12 → r < lenI y k := by
        intro hk
        subst hk
        have : cumI y (12 + 1) = 365 + lpI y := rfl
        omega
      have rb : r ≤ 366 := by have := cumI_bd y k k1 (by omega); have := lpI_bd y; omega
      clear hs hr
      by_cases hc : lenI y k ≤ r
      · have hk : k < 12 := by
          by_cases hk : k = 12
          · have := hlast hk; omega
          · omega
        clear hlast
        go_wp2_with (go_at_call 25; refine (length_any _ _ _ (by omega) (by omega)).mono ?_; rintro e w' ⟨rfl, rfl⟩)
        go_round
        case rel => exact ⟨r - lenI y k, k + 1, rfl, by go_num, by omega, by omega, by omega, by rw [HS.out, HR.out]; omega⟩
        case measure => simp [intOf]; omega
      · clear hlast
        go_wp2_with (go_at_call 25; refine (length_any _ _ _ (by omega) (by omega)).mono ?_; rintro e w' ⟨rfl, rfl⟩)
        refine bodyPost_ret (v := .tuple #[.agg #[.int .i64 y, .int .i64 k, .int .i64 (r + 1)], .bool true]) (by simp [results, Try.results11, go_sem]) rfl ⟨y, k, _, rfl, ⟨dayB_mk ⟨y1, y2, k1, k2, by omega, by omega⟩, by rw [HR.out]; unfold numI; omega⟩, ?_⟩
        exact (by repeat (first | exact Ext.refl _ | assumption | refine Ext.trans ?_ (by assumption) | refine Ext.alloc ?_ _ | refine Ext.drew ?_ | refine Ext.drewN ?_ _))
end Go.Proofs.Yteoohgkaejgoaaa
