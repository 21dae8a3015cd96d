/- Contracts of package conf, second part: the list of a set's members and their number. -/
import Derived.Test.YtomeaamgdfhgaaaConfA
namespace Go.Proofs.Ytomeaamgdfhgaaa
open Go.RowKit

theorem Try.infoInt : (Try.prog.info? 3).map (fun i => (i.zero, i.size, i.bytes)) = some (some (.int .i64 0), 1, 8) := by kernel_rfl

/-- The members of m below k. -/
def memT (m : Int) (k : Nat) : List Int := ((List.range k).filter (fun i : Nat => hasB m i)).map (fun i : Nat => (i : Int))
def memN (m : Int) : Nat := (memT m 7).length
theorem memT_hit (m : Int) (k : Nat) (h : hasB m k = true) : memT m (k + 1) = memT m k ++ [(k : Int)] := by
  simp [memT, List.range_succ, List.filter_append, h]
theorem memT_miss (m : Int) (k : Nat) (h : hasB m k = false) : memT m (k + 1) = memT m k := by
  simp [memT, List.range_succ, List.filter_append, h]
theorem memT_le (m : Int) (k : Nat) : (memT m k).length ≤ k := by
  have := List.length_filter_le (fun i : Nat => hasB m i) (List.range k)
  simp [memT] at this ⊢
  exact this
theorem memN_le (m : Int) : memN m ≤ 7 := memT_le m 7

set_option maxHeartbeats 400000 in
theorem list_any (m : Int) (w : World) :
    Calls Try.prog 10 #[.int .i64 m] w fun e w' => ∃ v, e = .returned v ∧ w'.ownsRow w.heap.size 3 1 v (memT m 7).length ((memT m 7).map (Value.int .i64)) ∧ Ext w w' := by
  obtain ⟨i0, hi, hz0, hz1, hz2⟩ := info_parts Try.infoInt
  go_enter Try.func10, Try.ntmps10
  go_wp2
  go_loopw [3, 5] (fun v i wr => ∃ k : Nat, k ≤ 7 ∧ i = .int .i64 k ∧ wr.ownsRow w.heap.size 3 1 v (memT m k).length ((memT m k).map (Value.int .i64)) ∧ Below w.heap.size w wr)
    (fun _ i _ => 7 - (intOf i).toNat)
  case atStart => exact ⟨0, Nat.zero_le _, rfl, World.ownsRow_nil _ _ _ _, Below.refl _ _⟩
  case round =>
    obtain ⟨k, hk, rfl, hown, hnx⟩ := hrel
    have hle := memT_le m k
    by_cases hlt : k < 7
    · cases hb : hasB m k
      · go_wp2_with (go_at_call 17; refine (has_any _ _ _).mono ?_; rintro e w' ⟨rfl, rfl⟩)
        go_roundw
        case rel => exact ⟨k + 1, by omega, by simp, by rw [memT_miss m k hb]; exact hown, hnx⟩
        case measure => simp [intOf]; omega
      · go_wp2_with (first
          | (at_builtin; refine wpList_append_own _ rfl _ _ 24 rfl w.heap.size 3 i0 (.int .i64 0) 1 8 Try.underlying24 hi hz0 hz1 hz2 rfl (by decide) _ _ _ rfl (hown.alloc _) ⟨wr.heap.size, 0, none⟩ 1 1 [.int .i64 k] rfl rfl ?c1 ?c2 ?c3 ?c4 ?c5 ?_)
          | (go_at_call 17; refine (has_any _ _ _).mono ?_; rintro e w' ⟨rfl, rfl⟩))
        case c1 =>
          intro j u hj
          match j, hj with
          | 0, hj => simp at hj; subst hj; simp [Addr.add]
        case c2 => intro u hu; simp at hu; subst hu; rfl
        case c3 => unfold maxLen; omega
        case c4 => omega
        case c5 => have := hnx.size; simp; omega
        intro v' w1 hown' hgrow _
        have R : w1.ownsRow w.heap.size 3 1 v' (memT m (k + 1)).length ((memT m (k + 1)).map (Value.int .i64)) := by
          rw [memT_hit m k hb]; simpa using hown'
        have hbl : Below w.heap.size w w1 := (hnx.alloc hnx.size _).grown hgrow (by have := hnx.size; simp; omega) (fun j hj => (hown.lt j hj).1)
        clear hown' hgrow hown hnx
        go_wp2
        go_roundw
        case rel => exact ⟨k + 1, by omega, by simp, R, hbl⟩
        case measure => simp [intOf]; omega
    · have hk7 : k = 7 := by omega
      subst hk7
      go_wp2
      go_ret
      exact ⟨_, rfl, hown, hnx⟩

theorem count_any (m : Int) (w : World) :
    Calls Try.prog 8 #[.int .i64 m] w fun e w' => e = .returned (.int .i64 (memN m)) ∧ Ext w w' := by
  go_enter Try.func8, Try.ntmps8
  go_wp2_with fail
  refine (list_any _ _).mono ?_
  rintro e w1 ⟨v, rfl, hown, hb⟩
  obtain ⟨_, _, a, cap, rfl, _⟩ := SlR.of_own hown
  go_wp2
  go_ret
  exact ⟨rfl, hb⟩
end Go.Proofs.Ytomeaamgdfhgaaa
