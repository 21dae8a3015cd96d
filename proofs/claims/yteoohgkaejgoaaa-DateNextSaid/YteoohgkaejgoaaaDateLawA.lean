/- The laws DateNumbers, DateReads and DateBack of package impostlaw6: the walks. -/
import Derived.Test.YteoohgkaejgoaaaDateRuns
import Derived.Test.YteoohgkaejgoaaaDateRefRead
import Derived.Test.YteoohgkaejgoaaaWithin
namespace Go.Proofs.Yteoohgkaejgoaaa
open Go.RowKit

theorem refOf_is (n y m d : Int) (w : World) (h : IsDay n y m d) : Calls Try.prog 16 #[.int .i64 n] w fun e w' => e = .returned (.tuple #[.agg #[.int .i64 y, .int .i64 m, .int .i64 d], .bool true]) ∧ Ext w w' := by
  obtain ⟨a1, a2, a3, a4, a5, a6⟩ := dayB_of h.1
  have b := isDay_bd h
  have c1 := aheadI_bd y a1 (by omega)
  have c2 := aheadI_bd (y + 1) (by omega) (by omega)
  refine (refOf_yes n w (by omega) (by omega)).mono ?_
  rintro e w' ⟨y', m', d', rfl, h', hx⟩
  obtain ⟨rfl, rfl, rfl⟩ := isDay_eq h h'
  exact ⟨rfl, hx⟩
/-- The cells of a block of three that was just laid, in a later world. -/
theorem three (w x : World) (a0 a1 a2 : Value) (t : TypeId) (h : Ext (w.alloc (.cells #[a0, a1, a2] t)) x) :
    x.cell? ⟨w.heap.size, 0, none⟩ = some a0 ∧ x.cell? ⟨w.heap.size, 1, none⟩ = some a1 ∧ x.cell? ⟨w.heap.size, 2, none⟩ = some a2 ∧ w.heap.size < x.heap.size := by
  obtain ⟨hc, _⟩ := Ext.bc h
  have hz := h.size
  refine ⟨?_, ?_, ?_, by simp at hz; omega⟩ <;> rw [hc _ _ (by simp <;> omega)] <;> simp [go_sem]

set_option maxHeartbeats 2000000 in
set_option maxRecDepth 100000 in
theorem dateNumbers_any (n : Int) (w : World) : Calls Try.prog 4 #[.int .i64 n] w fun e w' => e = .returned (.bool true) ∧ Ext w w' := by
  by_cases h : n < 0 ∨ 3652059 ≤ n
  · go_enter Try.func4, Try.ntmps4
    go_wp2_with fail
    refine (of_no n _ h).mono ?_
    rintro e w1 ⟨rfl, h1⟩
    go_wp2_with fail
    refine (refOf_no n _ h).mono ?_
    rintro e w2 ⟨rfl, h2⟩
    obtain ⟨c0, c1, c2, hz⟩ := three w1 w2 _ _ _ _ h2
    go_wp2_with (go_at_call 3; refine (dateRuns_any _).mono ?_; rintro e w' ⟨rfl, hx⟩)
    go_ret
    exact ⟨rfl, (by repeat (first | exact Ext.refl _ | assumption | refine Ext.trans ?_ (by assumption) | refine Ext.alloc ?_ _ | refine Ext.drew ?_ | refine Ext.drewN ?_ _))⟩
  · go_enter Try.func4, Try.ntmps4
    go_wp2_with fail
    refine (of_yes n _ (by omega) (by omega)).mono ?_
    rintro e w1 ⟨y, m, d, rfl, hd, h1⟩
    go_wp2_with fail
    refine (refOf_is n y m d _ hd).mono ?_
    rintro e w2 ⟨rfl, h2⟩
    obtain ⟨c0, c1, c2, hz⟩ := three w1 w2 _ _ _ _ h2
    go_wp2_with (go_at_call 3; refine (dateRuns_any _).mono ?_; rintro e w' ⟨rfl, hx⟩)
    go_ret
    exact ⟨rfl, (by repeat (first | exact Ext.refl _ | assumption | refine Ext.trans ?_ (by assumption) | refine Ext.alloc ?_ _ | refine Ext.drew ?_ | refine Ext.drewN ?_ _))⟩

set_option maxHeartbeats 2000000 in
set_option maxRecDepth 100000 in
theorem dateReads_any (s : ByteArray) (hs : s.size ≤ maxLen) (w : World) : Calls Try.prog 5 #[.string s] w fun e w' => e = .returned (.bool true) ∧ Ext w w' := by
  have hs' := hs
  unfold maxLen at hs'
  by_cases hl : 100 < s.size
  · go_enter Try.func5, Try.ntmps5
    go_wp2_with fail
    have hs2 : (s.extract 0 100).size ≤ maxLen := by
      unfold maxLen
      rw [ByteArray.size_extract]
      omega
    generalize s.extract 0 100 = s2 at *
    refine (read_any s2 _ hs2).mono ?_
    rintro e w1 ⟨rfl, h1⟩
    go_wp2_with fail
    refine (refRead_any s2 _ hs2).mono ?_
    rintro e w2 ⟨rfl, h2⟩
    obtain ⟨c0, c1, c2, hz⟩ := three w1 w2 _ _ _ _ h2
    go_wp2_with (go_at_call 3; refine (dateRuns_any _).mono ?_; rintro e w' ⟨rfl, hx⟩)
    go_ret
    exact ⟨rfl, (by repeat (first | exact Ext.refl _ | assumption | refine Ext.trans ?_ (by assumption) | refine Ext.alloc ?_ _ | refine Ext.drew ?_ | refine Ext.drewN ?_ _))⟩
  · go_enter Try.func5, Try.ntmps5
    go_wp2_with fail
    refine (read_any s _ hs).mono ?_
    rintro e w1 ⟨rfl, h1⟩
    go_wp2_with fail
    refine (refRead_any s _ hs).mono ?_
    rintro e w2 ⟨rfl, h2⟩
    obtain ⟨c0, c1, c2, hz⟩ := three w1 w2 _ _ _ _ h2
    go_wp2_with (go_at_call 3; refine (dateRuns_any _).mono ?_; rintro e w' ⟨rfl, hx⟩)
    go_ret
    exact ⟨rfl, (by repeat (first | exact Ext.refl _ | assumption | refine Ext.trans ?_ (by assumption) | refine Ext.alloc ?_ _ | refine Ext.drew ?_ | refine Ext.drewN ?_ _))⟩

/-- A right day's text is read as it. -/
theorem read_show (y m d : Int) (h : dayB y m d = true) : readR (showS y m d) = (y, m, d, 0) := by
  obtain ⟨a1, a2, a3, a4, a5, a6⟩ := dayB_of h
  have l := lenI_bd y m
  obtain ⟨Y, rfl⟩ := Int.eq_ofNat_of_zero_le (by omega : 0 ≤ y)
  obtain ⟨M, rfl⟩ := Int.eq_ofNat_of_zero_le (by omega : 0 ≤ m)
  obtain ⟨D, rfl⟩ := Int.eq_ofNat_of_zero_le (by omega : 0 ≤ d)
  have e : showS (Y : Int) (M : Int) (D : Int) = ⟨#[dig (Y / 1000), dig (Y / 100), dig (Y / 10), dig (Y / 1), 45, dig (M / 10), dig (M / 1), 45, dig (D / 10), dig (D / 1)]⟩ := by
    unfold showS
    rw [h]
    rfl
  rw [e]
  generalize hs : (⟨#[dig (Y / 1000), dig (Y / 100), dig (Y / 10), dig (Y / 1), 45, dig (M / 10), dig (M / 1), 45, dig (D / 10), dig (D / 1)]⟩ : ByteArray) = s
  have c0 : chr s 0 = 48 + Y / 1000 % 10 := by rw [← hs, ← dig_nat]; rfl
  have c1 : chr s 1 = 48 + Y / 100 % 10 := by rw [← hs, ← dig_nat]; rfl
  have c2 : chr s 2 = 48 + Y / 10 % 10 := by rw [← hs, ← dig_nat]; rfl
  have c3 : chr s 3 = 48 + Y / 1 % 10 := by rw [← hs, ← dig_nat]; rfl
  have c4 : chr s 4 = 45 := by rw [← hs]; rfl
  have c5 : chr s 5 = 48 + M / 10 % 10 := by rw [← hs, ← dig_nat]; rfl
  have c6 : chr s 6 = 48 + M / 1 % 10 := by rw [← hs, ← dig_nat]; rfl
  have c7 : chr s 7 = 45 := by rw [← hs]; rfl
  have c8 : chr s 8 = 48 + D / 10 % 10 := by rw [← hs, ← dig_nat]; rfl
  have c9 : chr s 9 = 48 + D / 1 % 10 := by rw [← hs, ← dig_nat]; rfl
  have hz : s.size = 10 := by rw [← hs]; rfl
  clear hs e
  have hd : ∀ k : Nat, (decide (48 ≤ 48 + k % 10) && decide (48 + k % 10 ≤ 57)) = true := by
    intro k; simp; omega
  have hok : allOk (chr s) 10 = true := by
    rw [allOk_succ, allOk_succ, allOk_succ, allOk_succ, allOk_succ, allOk_succ, allOk_succ, allOk_succ, allOk_succ, allOk_succ]
    rw [okc_of_dig _ 0 (by decide) (by decide), okc_of_dig _ 1 (by decide) (by decide), okc_of_dig _ 2 (by decide) (by decide), okc_of_dig _ 3 (by decide) (by decide), okc_of_sep _ 4 (by decide),
      okc_of_dig _ 5 (by decide) (by decide), okc_of_dig _ 6 (by decide) (by decide), okc_of_sep _ 7 (by decide), okc_of_dig _ 8 (by decide) (by decide), okc_of_dig _ 9 (by decide) (by decide),
      c0, c1, c2, c3, c4, c5, c6, c7, c8, c9, hd, hd, hd, hd, hd, hd, hd, hd]
    rfl
  have hst : st (chr s) 10 = ((Y : Int), (M : Int), (D : Int)) := by
    rw [st_c _ 9 (by decide), st_c _ 8 (by decide), st_s _ 7 (by decide), st_b _ 6 (by decide) (by decide), st_b _ 5 (by decide) (by decide), st_s _ 4 (by decide), st_a _ 3 (by decide), st_a _ 2 (by decide), st_a _ 1 (by decide), st_a _ 0 (by decide), c0, c1, c2, c3, c5, c6, c8, c9]
    have z : st (chr s) 0 = (0, 0, 0) := rfl
    rw [z]
    simp only [Prod.mk.injEq]
    refine ⟨?_, ?_, ?_⟩ <;> omega
  unfold readR
  rw [if_pos ⟨hz, hok⟩, hst]
  simp only [h, if_true]

theorem days_of {n y m d : Int} (h : IsDay n y m d) : daysI y m d = n := by unfold daysI; rw [h.1]; exact h.2
theorem showS_size (y m d : Int) : (showS y m d).size ≤ maxLen := by
  unfold showS
  split
  · simp [showL, ByteArray.size, digs_len, maxLen]
  · simp [maxLen]
theorem dateRight_yes (y m d : Int) (w : World) (b : Bool) (h : dayB y m d = b) : Calls Try.prog 19 #[.agg #[.int .i64 y, .int .i64 m, .int .i64 d]] w fun e w' => e = .returned (.bool b) ∧ Ext w w' := by
  rw [← h]; exact dateRight_any y m d w

set_option maxHeartbeats 2000000 in
set_option maxRecDepth 100000 in
theorem dateBack_any (n : Int) (w : World) : Calls Try.prog 6 #[.int .i64 n] w fun e w' => e = .returned (.bool true) ∧ Ext w w' := by
  obtain ⟨b1, b2⟩ := withI_bd n 0 3652058 (by decide)
  go_enter Try.func6, Try.ntmps6
  go_wp2_with (go_at_call 18; refine (within_any _ _ _ _ (by decide) (by decide) (by decide)).mono ?_; rintro e w' ⟨rfl, rfl⟩)
  generalize withI n 0 3652058 = k at *
  refine (of_yes k _ (by omega) (by omega)).mono ?_
  rintro e w1 ⟨y, m, d, rfl, hd, h1⟩
  go_wp2_with fail
  have hr := read_show y m d hd.1
  have hz := showS_size y m d
  refine (show_any y m d _).mono ?_
  rintro e w2 ⟨rfl, h2⟩
  obtain ⟨c0, c1, c2, hz2⟩ := three w1 w2 _ _ _ _ h2
  generalize showS y m d = s at *
  go_wp2_with fail
  refine (read_is s y m d 0 _ hz hr).mono ?_
  rintro e w3 ⟨rfl, h3⟩
  clear hr hz
  have h13 : Ext (w1.alloc (.cells #[.int .i64 y, .int .i64 m, .int .i64 d] 23)) w3 := (by repeat (first | exact Ext.refl _ | assumption | refine Ext.trans ?_ (by assumption) | refine Ext.alloc ?_ _ | refine Ext.drew ?_ | refine Ext.drewN ?_ _))
  obtain ⟨c0, c1, c2, hz2⟩ := three w1 w3 _ _ _ _ h13
  clear c0 c1 c2
  have h33 : Ext w3 (w3.alloc (.cells #[.int .i64 y, .int .i64 m, .int .i64 d] 23)) := (by repeat (first | exact Ext.refl _ | assumption | refine Ext.trans ?_ (by assumption) | refine Ext.alloc ?_ _ | refine Ext.drew ?_ | refine Ext.drewN ?_ _))
  obtain ⟨c0, c1, c2, hz2⟩ := three w1 w3 _ _ _ _ h13
  go_wp2_with fail
  refine (dateRight_yes y m d _ true hd.1).mono ?_
  rintro e w4 ⟨rfl, h4⟩
  obtain ⟨e0, e1, e2, hz4⟩ := three w3 w4 _ _ _ _ h4
  have h14 : Ext (w1.alloc (.cells #[.int .i64 y, .int .i64 m, .int .i64 d] 23)) w4 := h13.trans (h33.trans h4)
  obtain ⟨c0, c1, c2, hz14⟩ := three w1 w4 _ _ _ _ h14
  go_wp2_with fail
  refine (days_is y m d k _ (days_of hd)).mono ?_
  rintro e w5 ⟨rfl, h5⟩
  have h45 := h4.trans h5
  obtain ⟨e0, e1, e2, hz5⟩ := three w3 w5 _ _ _ _ h45
  have h15 : Ext (w1.alloc (.cells #[.int .i64 y, .int .i64 m, .int .i64 d] 23)) w5 := h14.trans h5
  obtain ⟨c0, c1, c2, hz15⟩ := three w1 w5 _ _ _ _ h15
  have hw5 : Ext w w5 := (h1.trans ((Ext.refl w1).alloc _)).trans h15
  clear h1 h2 h3 h4 h5 h13 h14 h15 h45 h33
  go_wp2_with (go_at_call 3; refine (dateRuns_any _).mono ?_; rintro e w' ⟨rfl, hx⟩)
  go_ret
  exact ⟨rfl, (by repeat (first | exact Ext.refl _ | assumption | refine Ext.trans ?_ (by assumption) | refine Ext.alloc ?_ _ | refine Ext.drew ?_ | refine Ext.drewN ?_ _))⟩
end Go.Proofs.Yteoohgkaejgoaaa
