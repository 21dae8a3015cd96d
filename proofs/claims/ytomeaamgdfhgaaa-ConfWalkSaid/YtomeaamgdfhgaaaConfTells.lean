/- The laws ConfTells and ConfMeets of package impostlaw21: the walks. -/
import Derived.Test.YtomeaamgdfhgaaaConfRuns
import Derived.Test.YtomeaamgdfhgaaaConfBits
namespace Go.Proofs.Ytomeaamgdfhgaaa
open Go.RowKit

set_option maxHeartbeats 400000 in
theorem refCount_any (m : Int) (w : World) :
    Calls Try.prog 15 #[.int .i64 m] w fun e w' => e = .returned (.int .i64 (memN m)) ∧ Ext w w' := by
  go_enter Try.func15, Try.ntmps15
  go_wp2
  go_loopw [3, 4] (fun n i wr => ∃ k : Nat, k ≤ 7 ∧ i = .int .i64 k ∧ n = .int .i64 (memT m k).length ∧ Ext w wr) (fun _ i _ => 7 - (intOf i).toNat)
  case atStart => exact ⟨0, Nat.zero_le _, rfl, rfl, Ext.refl _⟩
  case round =>
    obtain ⟨k, hk, rfl, rfl, hnx⟩ := hrel
    have hle := memT_le m k
    by_cases hlt : k < 7
    · cases hb : hasB m k
      all_goals
        go_wp2_with (go_at_call 13; refine (refHas_any _ _ _).mono ?_; rintro e w' ⟨rfl, rfl⟩)
        go_roundw
        case rel => exact ⟨k + 1, by omega, by simp, by first | (rw [memT_miss m k hb]) | (rw [memT_hit m k hb]; simp), hnx⟩
        case measure => simp [intOf]; omega
    · have hk7 : k = 7 := by omega
      subst hk7
      go_wp2
      go_ret
      exact ⟨rfl, hnx⟩

set_option maxHeartbeats 400000 in
theorem refMost_any (m y : Int) (w : World) :
    Calls Try.prog 18 #[.int .i64 m, .int .i64 y] w fun e w' => e = .returned (.bool (mostB m y)) ∧ Ext w w' := by
  have h1 := memN_le m
  have h2 := memN_le (bits .and .i64 m y)
  have hb : mostB m y = (rightB m && decide ((memN m : Int) < 2 * (memN (bits .and .i64 m y) : Int))) := rfl
  have HB := Lib.hid hb
  clear hb
  cases hr : rightB m
  all_goals
    go_enter Try.func18, Try.ntmps18
    go_wp2_with (first
      | (go_at_call 14; refine (refRight_any _ _).mono ?_; rintro e w' ⟨rfl, rfl⟩)
      | (go_at_call 15; refine (refCount_any _ _).mono ?_; rintro e w' ⟨rfl, hx⟩))
    go_ret
    refine ⟨by rw [HB.out, hr]; simp, (by repeat (first | exact Ext.refl _ | assumption | refine Ext.trans ?_ (by assumption) | refine Ext.alloc ?_ _ | refine Ext.drew ?_ | refine Ext.drewN ?_ _))⟩

set_option maxHeartbeats 2000000 in
set_option maxRecDepth 100000 in
theorem confTells_any (m n id : Int) (w : World) :
    Calls Try.prog 4 #[.int .i64 m, .int .i64 n, .int .i64 id] w fun e w' => e = .returned (.bool true) ∧ Ext w w' := by
  obtain ⟨i0, hi, hz0, hz1, hz2⟩ := info_parts Try.infoInt
  have q1 := memN_le m
  have q2 := memN_le (bits .xor .i64 m n)
  have hmay : mayB m n = (rightB m && (rightB n && ((memN (bits .xor .i64 m n) : Int) == 1))) := rfl
  have hsame : decide (memT m 7 = memT m 7) = true := by simp
  go_enter Try.func4, Try.ntmps4
  go_wp2
  go_loopw [7, 8] (fun v i wr => ∃ k : Nat, k ≤ 7 ∧ i = .int .i64 k ∧ wr.ownsRow w.heap.size 3 1 v (memT m k).length ((memT m k).map (Value.int .i64)) ∧ Ext w wr)
    (fun _ i _ => 7 - (intOf i).toNat)
  case atStart => exact ⟨0, Nat.zero_le _, rfl, World.ownsRow_nil _ _ _ _, Ext.refl _⟩
  case round =>
    obtain ⟨k, hk, rfl, hown, hnx⟩ := hrel
    have hle := memT_le m k
    by_cases hlt : k < 7
    · cases hb : hasB m k
      · go_wp2_with (go_at_call 13; refine (refHas_any _ _ _).mono ?_; rintro e w' ⟨rfl, rfl⟩)
        go_roundw
        case rel => exact ⟨k + 1, by omega, by simp, by rw [memT_miss m k hb]; exact hown, hnx⟩
        case measure => simp [intOf]; omega
      · go_wp2_with (first
          | (at_builtin; refine wpList_append_own _ rfl _ _ 24 rfl w.heap.size 3 i0 (.int .i64 0) 1 8 Try.underlying24 hi hz0 hz1 hz2 rfl (by decide) _ _ _ rfl (hown.alloc _) ⟨wr.heap.size, 0, none⟩ 1 1 [.int .i64 k] rfl rfl ?c1 ?c2 ?c3 ?c4 ?c5 ?_)
          | (go_at_call 13; refine (refHas_any _ _ _).mono ?_; rintro e w' ⟨rfl, rfl⟩))
        case c1 =>
          intro j u hj
          match j, hj with
          | 0, hj => simp at hj; subst hj; simp [Addr.add]
        case c2 => intro u hu; simp at hu; subst hu; rfl
        case c3 => unfold maxLen; omega
        case c4 => omega
        case c5 => have := hnx.size; simp; omega
        intro v' w1 hown' hgrow _
        have R : w1.ownsRow w.heap.size 3 1 v' (memT m (k + 1)).length ((memT m (k + 1)).map (Value.int .i64)) := by
          rw [memT_hit m k hb]; simpa using hown'
        have hbl : Ext w w1 := Below.grown (Below.alloc hnx hnx.size _) hgrow (by have := hnx.size; simp; omega) (fun j hj => (hown.lt j hj).1)
        clear hown' hgrow hown hnx
        go_wp2
        go_roundw
        case rel => exact ⟨k + 1, by omega, by simp, R, hbl⟩
        case measure => simp [intOf]; omega
    · have hk7 : k = 7 := by omega
      subst hk7
      have hrow := SlR.of_own hown
      clear hown hle
      have hlen : (memT m 7).length = memN m := rfl
      rw [hlen] at hrow
      have hrow0 := hrow
      obtain ⟨_, _, a, cap, rfl, _⟩ := hrow0
      have hr := Lib.hid hrow
      clear hrow hlen
      cases hr1 : rightB m <;> cases hr2 : rightB n
      all_goals
        simp only [hr1, hr2] at hmay
        simp only [Bool.true_and, Bool.false_and] at hmay
        go_wp2_with (first
          | (go_at_call 16; refine (right_any _ _).mono ?_; rintro e w' ⟨rfl, rfl⟩)
          | (go_at_call 14; refine (refRight_any _ _).mono ?_; rintro e w' ⟨rfl, rfl⟩)
          | (go_at_call 17; refine (has_any _ _ _).mono ?_; rintro e w' ⟨rfl, rfl⟩)
          | (go_at_call 13; refine (refHas_any _ _ _).mono ?_; rintro e w' ⟨rfl, rfl⟩)
          | (go_at_call 15; refine (refCount_any _ _).mono ?_; rintro e w' ⟨rfl, hx⟩)
          | (go_at_call 8; refine (count_any _ _).mono ?_; rintro e w' ⟨rfl, hx⟩)
          | (go_at_call 10; refine (list_any _ _).mono ?_; rintro e w' ⟨v, rfl, hl, hx⟩))
        have hl1 := SlR.of_own hl
        have hxx : Ext wr w' := (by repeat (first | exact Ext.refl _ | assumption | refine Ext.trans ?_ (by assumption) | refine Ext.alloc ?_ _ | refine Ext.drew ?_ | refine Ext.drewN ?_ _))
        have hl2 := (hr.out.ext hxx).up hxx.size
        clear hl hr
        refine (sameInt v (.slice a (memN m) cap) (memT m 7) (memT m 7) w' hl1 hl2).mono ?_
        rintro e w3 ⟨rfl, h3⟩
        clear hl1 hl2
        go_wp2_with (first
          | (go_at_call 11; refine (most_any _ _ _).mono ?_; rintro e w' ⟨rfl, hx⟩)
          | (go_at_call 18; refine (refMost_any _ _ _).mono ?_; rintro e w' ⟨rfl, hx⟩)
          | (go_at_call 12; refine (may_any _ _ _).mono ?_; rintro e w' ⟨rfl, hx⟩)
          | (go_at_call 3; refine (confRuns_any _).mono ?_; rintro e w' ⟨rfl, hx⟩))
        go_ret
        exact ⟨rfl, (by repeat (first | exact Ext.refl _ | assumption | refine Ext.trans ?_ (by assumption) | refine Ext.alloc ?_ _ | refine Ext.drew ?_ | refine Ext.drewN ?_ _))⟩
end Go.Proofs.Ytomeaamgdfhgaaa
