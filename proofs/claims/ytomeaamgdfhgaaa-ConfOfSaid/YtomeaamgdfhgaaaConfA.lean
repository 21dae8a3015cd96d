/- Contracts of package conf's functions: each returns what the plain function of this text says, whatever the arguments. -/
import Derived.Test.YtomeaamgdfhgaaaProg
import Derived.Test.YtomeaamgdfhgaaaBase
namespace Go.Proofs.Ytomeaamgdfhgaaa
open Go.RowKit

/-- Does bit id of m stand, id from 0 to 6? -/
def hasB (m id : Int) : Bool := decide (0 ≤ id) && (decide (id < 7) && (m / 2 ^ id.toNat % 2 == 1))
theorem hasB_of (m : Int) (k : Nat) (hk : k < 7) : hasB m k = (m / 2 ^ k % 2 == 1) := by
  unfold hasB
  have h1 : (0 : Int) ≤ k := by omega
  have h2 : (k : Int) < 7 := by omega
  simp [h1, h2]
theorem hasB_no (m id : Int) (h : id < 0 ∨ 7 ≤ id) : hasB m id = false := by
  unfold hasB
  rcases h with h | h
  · rw [decide_eq_false (by omega)]; rfl
  · rw [decide_eq_false (p := id < 7) (by omega)]; simp

set_option maxHeartbeats 400000 in
theorem has_any (m id : Int) (w : World) :
    Calls Try.prog 17 #[.int .i64 m, .int .i64 id] w fun e w' => e = .returned (.bool (hasB m id)) ∧ w = w' := by
  by_cases h0 : 0 ≤ id
  · by_cases h7 : id < 7
    · obtain rfl | rfl | rfl | rfl | rfl | rfl | rfl : id = 0 ∨ id = 1 ∨ id = 2 ∨ id = 3 ∨ id = 4 ∨ id = 5 ∨ id = 6 := by omega
      all_goals
        go_enter Try.func17, Try.ntmps17
        go_wp2
        go_ret
        refine ⟨?_, rfl⟩
        simp [and1_i64, hasB]
    · have hb := hasB_no m id (by omega)
      go_enter Try.func17, Try.ntmps17
      go_wp2
      go_ret
      exact ⟨by simp [hb], rfl⟩
  · have hb := hasB_no m id (by omega)
    go_enter Try.func17, Try.ntmps17
    go_wp2
    go_ret
    exact ⟨by simp [hb], rfl⟩

set_option maxHeartbeats 400000 in
theorem refHas_any (m id : Int) (w : World) :
    Calls Try.prog 13 #[.int .i64 m, .int .i64 id] w fun e w' => e = .returned (.bool (hasB m id)) ∧ w = w' := by
  by_cases h0 : 0 ≤ id
  · by_cases h7 : id < 7
    · obtain rfl | rfl | rfl | rfl | rfl | rfl | rfl : id = 0 ∨ id = 1 ∨ id = 2 ∨ id = 3 ∨ id = 4 ∨ id = 5 ∨ id = 6 := by omega
      all_goals
        go_enter Try.func13, Try.ntmps13
        go_wp2
        go_ret
        refine ⟨?_, rfl⟩
        simp [and1_i64, hasB]
    · have hb := hasB_no m id (by omega)
      go_enter Try.func13, Try.ntmps13
      go_wp2
      go_ret
      exact ⟨by simp [hb], rfl⟩
  · have hb := hasB_no m id (by omega)
    go_enter Try.func13, Try.ntmps13
    go_wp2
    go_ret
    exact ⟨by simp [hb], rfl⟩

def rightB (m : Int) : Bool := decide (1 ≤ m) && decide (m ≤ 127)
theorem right_any (m : Int) (w : World) :
    Calls Try.prog 16 #[.int .i64 m] w fun e w' => e = .returned (.bool (rightB m)) ∧ w = w' := by
  by_cases h1 : 1 ≤ m <;> by_cases h2 : m ≤ 127
  all_goals
    have hb : rightB m = (decide (1 ≤ m) && decide (m ≤ 127)) := by simp [rightB]
    go_enter Try.func16, Try.ntmps16
    go_wp2
    go_ret
    exact ⟨by simp [hb, h1, h2], rfl⟩
theorem refRight_any (m : Int) (w : World) :
    Calls Try.prog 14 #[.int .i64 m] w fun e w' => e = .returned (.bool (rightB m)) ∧ w = w' := by
  by_cases h1 : 1 ≤ m <;> by_cases h2 : m < 128
  all_goals
    have hb : rightB m = (decide (1 ≤ m) && decide (m < 128)) := by unfold rightB; rw [show decide (m < 128) = decide (m ≤ 127) from decide_eq_decide.2 (by omega)]
    go_enter Try.func14, Try.ntmps14
    go_wp2
    go_ret
    exact ⟨by simp [hb, h1, h2], rfl⟩
end Go.Proofs.Ytomeaamgdfhgaaa
