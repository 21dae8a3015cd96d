/- The document's own answer to chapter 9: short, day, Put: small kinds. (Written by genCmdR.py.) -/
import Derived.Test.YtochgmpcdmahkaaCmdX
import Derived.Test.YtochgmpcdmahkaaPackRefW
import Derived.Deep.Cut
namespace Go.Proofs.Ytochgmpcdmahkaa
open Go.RowKit

abbrev RW (w : World) (s : WS) (e : Ending) (w' : World) : Prop := ∃ k a c, e = .returned (.slice a k c) ∧ Hid (k = s.1.length) ∧ Hid (Own8 5 w' w.heap.size (.slice a k c) s.1) ∧ Ext w w'
section
variable {v : Value} {w : World} {s : WS}
theorem rw_mk {e : Ending} {w' : World} {l : List UInt8} (hl : l = s.1) (h : ∃ v', e = .returned v' ∧ Own8 5 w' w.heap.size v' l ∧ Ext w w') : RW w s e w' := by
  obtain ⟨v', rfl, ho, hx⟩ := h
  subst hl
  obtain ⟨k, a, c, hk, rfl⟩ := own8_len ho
  exact ⟨k, a, c, rfl, Lib.hid hk, Lib.hid ho, hx⟩
theorem rnum_s (n : Int) (hr : Rd8 w v s.1) (hn : Z64 n) (hs : s.1.length ≤ 10000) : Calls Try.prog 23 #[v, .int .i64 n] w (RW w (sN s n)) :=
  (refnum_any v s.1 n w hr hn.1 hn.2 (by omega)).mono fun _ _ h => rw_mk rfl h
theorem rtext_s (t : ByteArray) (ht : t.size ≤ 64) (hr : Rd8 w v s.1) (hs : s.1.length ≤ 10000) : Calls Try.prog 38 #[v, .string t] w (RW w (sT s t)) :=
  (reftext_any v s.1 t w hr (by omega)).mono fun _ _ h => rw_mk (by unfold sT; rw [if_pos ht]) h
set_option maxHeartbeats 2000000 in
theorem rday_s (y m d : Int) (hr : Rd8 w v s.1) (hy : Z64 y) (hm : Z64 m) (hd : Z64 d) (hs : s.1.length ≤ 9000) : Calls Try.prog 39 #[v, .agg #[.int .i64 y, .int .i64 m, .int .i64 d]] w (RW w (sD s y m d)) := by
  have HY := Lib.hid hy
  have HM := Lib.hid hm
  have HD := Lib.hid hd
  have l1 := sN_le s y
  have l2 := sN_le (sN s y) m
  have HR := Lib.hid (hr.ext ((Ext.refl w).alloc (.cells #[.int .i64 y, .int .i64 m, .int .i64 d] 26)))
  have HA : Hid (∀ z, Ext (w.alloc (.cells #[.int .i64 y, .int .i64 m, .int .i64 d] 26)) z → Ext (w.alloc (.cells #[.int .i64 y, .int .i64 m, .int .i64 d] 26)) z ∧ z.cell? ⟨w.heap.size, 0, none⟩ = some (.int .i64 y) ∧ z.cell? ⟨w.heap.size, 1, none⟩ = some (.int .i64 m) ∧ z.cell? ⟨w.heap.size, 2, none⟩ = some (.int .i64 d)) := Lib.hid fun z h => ⟨h, alloc_cell h 0 _ rfl, alloc_cell h 1 _ rfl, alloc_cell h 2 _ rfl⟩
  clear hy hm hd hr
  go_enter Try.func39, Try.ntmps39
  go_wp2
  go_region_held3 (fun z => Ext (w.alloc (.cells #[.int .i64 y, .int .i64 m, .int .i64 d] 26)) z ∧ z.cell? ⟨w.heap.size, 0, none⟩ = some (.int .i64 y) ∧ z.cell? ⟨w.heap.size, 1, none⟩ = some (.int .i64 m) ∧ z.cell? ⟨w.heap.size, 2, none⟩ = some (.int .i64 d))
    ((refine HA.out _ ?_; repeat (first | exact Ext.refl _ | assumption | refine Ext.trans ?_ (by assumption) | refine Ext.alloc ?_ _ | refine Ext.drew ?_ | refine Ext.drewN ?_ _)))
    (first
      | (go_at_call 23; (with_reducible refine (rnum_s (s := s) y (Rd8.ext HR.out (by repeat (first | exact Ext.refl _ | assumption | refine Ext.trans ?_ (by assumption) | refine Ext.alloc ?_ _ | refine Ext.drew ?_ | refine Ext.drewN ?_ _))) HY.out (by omega)).mono ?_); rintro e x1 ⟨k1, a1, c1, rfl, hk1, ho1, hx1⟩)
      | (go_at_call 23; (with_reducible refine (rnum_s (s := sN s y) m (Rd8.ext (Own8.rd ho1.out) (by repeat (first | exact Ext.refl _ | assumption | refine Ext.trans ?_ (by assumption) | refine Ext.alloc ?_ _ | refine Ext.drew ?_ | refine Ext.drewN ?_ _))) HM.out (by omega)).mono ?_); rintro e x2 ⟨k2, a2, c2, rfl, hk2, ho2, hx2⟩)
      | (go_at_call 23; (with_reducible refine (rnum_s (s := sN (sN s y) m) d (Rd8.ext (Own8.rd ho2.out) (by repeat (first | exact Ext.refl _ | assumption | refine Ext.trans ?_ (by assumption) | refine Ext.alloc ?_ _ | refine Ext.drew ?_ | refine Ext.drewN ?_ _))) HD.out (by omega)).mono ?_); rintro e x3 ⟨k3, a3, c3, rfl, hk3, ho3, hx3⟩))
  go_wp2
  go_ret
  have hX : Ext (w.alloc (.cells #[.int .i64 y, .int .i64 m, .int .i64 d] 26)) x2 := Ext.trans (Ext.refl _).drew (hx1.trans hx2)
  exact ⟨k3, a3, c3, rfl, hk3, Lib.hid (own8_base ho3.out (Nat.le_trans (Nat.le_of_lt (by simp)) hX.size)), Ext.trans ((Ext.refl w).alloc _) (hX.trans hx3)⟩
set_option maxHeartbeats 2000000 in
theorem short_1 (t : ByteArray) (b c : Nat) (w : World) (h0 : w.cell? ⟨b, 0, none⟩ = some (.string t)) : Calls Try.prog 37 #[.slice (some ⟨b, 0, none⟩) 1 c] w fun e w' => e = .returned (.bool (decide (t.size ≤ 64))) ∧ w = w' := by
  by_cases ht : t.size ≤ 64
  · have hi : ¬ (64 : Int) < (t.size : Int) := by omega
    have e : decide (t.size ≤ 64) = true := decide_eq_true ht
    rw [e]
    clear e ht
    go_enter Try.func37, Try.ntmps37
    go_wp2
    refine wp_loop_rounds 2 ?_
    rw [rounds_succ]
    go_wp2
    rw [rounds_succ]
    go_wp2
    go_ret
    exact ⟨rfl, rfl⟩
  · have hi : (64 : Int) < (t.size : Int) := by omega
    have e : decide (t.size ≤ 64) = false := decide_eq_false ht
    rw [e]
    clear e ht
    go_enter Try.func37, Try.ntmps37
    go_wp2
    refine wp_loop_rounds 1 ?_
    rw [rounds_succ]
    go_wp2
    go_ret
    exact ⟨rfl, rfl⟩
set_option maxHeartbeats 2000000 in
theorem short_2 (t u : ByteArray) (b c : Nat) (w : World) (h0 : w.cell? ⟨b, 0, none⟩ = some (.string t)) (h1 : w.cell? ⟨b, 1, none⟩ = some (.string u)) : Calls Try.prog 37 #[.slice (some ⟨b, 0, none⟩) 2 c] w fun e w' => e = .returned (.bool (decide (t.size ≤ 64 ∧ u.size ≤ 64))) ∧ w = w' := by
  by_cases ht : t.size ≤ 64
  · have hi : ¬ (64 : Int) < (t.size : Int) := by omega
    by_cases hu : u.size ≤ 64
    · have hj : ¬ (64 : Int) < (u.size : Int) := by omega
      have e : decide (t.size ≤ 64 ∧ u.size ≤ 64) = true := decide_eq_true ⟨ht, hu⟩
      rw [e]
      clear e ht hu
      go_enter Try.func37, Try.ntmps37
      go_wp2
      refine wp_loop_rounds 3 ?_
      rw [rounds_succ]
      go_wp2
      rw [rounds_succ]
      go_wp2
      rw [rounds_succ]
      go_wp2
      go_ret
      exact ⟨rfl, rfl⟩
    · have hj : (64 : Int) < (u.size : Int) := by omega
      have e : decide (t.size ≤ 64 ∧ u.size ≤ 64) = false := decide_eq_false fun h => hu h.2
      rw [e]
      clear e ht hu
      go_enter Try.func37, Try.ntmps37
      go_wp2
      refine wp_loop_rounds 2 ?_
      rw [rounds_succ]
      go_wp2
      rw [rounds_succ]
      go_wp2
      go_ret
      exact ⟨rfl, rfl⟩
  · have hi : (64 : Int) < (t.size : Int) := by omega
    have e : decide (t.size ≤ 64 ∧ u.size ≤ 64) = false := decide_eq_false fun h => ht h.1
    rw [e]
    clear e ht
    go_enter Try.func37, Try.ntmps37
    go_wp2
    refine wp_loop_rounds 1 ?_
    rw [rounds_succ]
    go_wp2
    go_ret
    exact ⟨rfl, rfl⟩
end
end Go.Proofs.Ytochgmpcdmahkaa
