/- Package sign: what names may be; and chapter 3's own answer. -/
import Derived.Test.YtpagmogikfkncaaProg
import Derived.Test.YtpagmogikfkncaaRunes
namespace Go.Proofs.Ytpagmogikfkncaa
open Go.RowKit

def letterB (r : Int) : Bool := (decide (97 ≤ r) && decide (r ≤ 122)) || (decide (65 ≤ r) && decide (r ≤ 90)) || (decide (192 ≤ r) && decide (r ≤ 591) && !(r == 215) && !(r == 247))

set_option maxHeartbeats 1000000 in
theorem letter_any (r : Int) (w : World) :
    Calls Try.prog 18 #[.int .i32 r] w fun e w' => e = .returned (.bool (letterB r)) ∧ w = w' := by
  have hb : letterB r = ((decide (97 ≤ r) && decide (r ≤ 122)) || (decide (65 ≤ r) && decide (r ≤ 90)) || (decide (192 ≤ r) && decide (r ≤ 591) && !(r == 215) && !(r == 247))) := rfl
  generalize letterB r = q at *
  have HB := Lib.hid hb
  clear hb
  go_enter Try.func18, Try.ntmps18
  go_wp2
  all_goals
    go_ret
    refine ⟨?_, rfl⟩
    rw [HB.out]
    refine congrArg (fun b => Ending.returned (Value.bool b)) (?_ : (_ : Bool) = _)
    rw [Bool.eq_iff_iff]
    simp_all <;> omega
set_option maxHeartbeats 1000000 in
theorem refLetter_any (r : Int) (w : World) :
    Calls Try.prog 19 #[.int .i32 r] w fun e w' => e = .returned (.bool (letterB r)) ∧ w = w' := by
  have hb : letterB r = ((decide (97 ≤ r) && decide (r ≤ 122)) || (decide (65 ≤ r) && decide (r ≤ 90)) || (decide (192 ≤ r) && decide (r ≤ 591) && !(r == 215) && !(r == 247))) := rfl
  generalize letterB r = q at *
  have HB := Lib.hid hb
  clear hb
  go_enter Try.func19, Try.ntmps19
  go_wp2
  all_goals
    go_ret
    refine ⟨?_, rfl⟩
    rw [HB.out]
    refine congrArg (fun b => Ending.returned (Value.bool b)) (?_ : (_ : Bool) = _)
    rw [Bool.eq_iff_iff]
    simp_all <;> omega
end Go.Proofs.Ytpagmogikfkncaa
