/- The laws SignDigits, SignLetters of package impostlaw3: the walks. -/
import Derived.Test.YtpagmogikfkncaaSignRuns
namespace Go.Proofs.Ytpagmogikfkncaa
open Go.RowKit

set_option maxHeartbeats 2000000 in
set_option maxRecDepth 100000 in
theorem signDigits_any (s : ByteArray) (w : World) (hs : s.size ≤ 9223372036854775807) : Calls Try.prog 6 #[.string s] w fun e w' => e = .returned (.bool true) ∧ Ext w w' := by
  go_enter Try.func6, Try.ntmps6
  go_wp2_with (first
    | (go_at_call 17; refine (digits_any _ _ hs).mono ?_; rintro e w' ⟨rfl, hx⟩)
    | (go_at_call 24; refine (refDigits_any _ _ hs).mono ?_; rintro e w' ⟨rfl, hx⟩)
    | (go_at_call 3; refine (signRuns_any _).mono ?_; rintro e w' ⟨rfl, hx⟩))
  go_ret
  exact ⟨rfl, by repeat (first | exact Ext.refl _ | assumption | refine Ext.trans ?_ (by assumption))⟩

set_option maxHeartbeats 2000000 in
set_option maxRecDepth 100000 in
theorem signLetters_any (r : Int) (s : ByteArray) (w : World) (hs : s.size ≤ 9223372036854775807) : Calls Try.prog 4 #[.int .i32 r, .string s] w fun e w' => e = .returned (.bool true) ∧ Ext w w' := by
  go_enter Try.func4, Try.ntmps4
  go_wp2_with (first
    | (go_at_call 18; refine (letter_any _ _).mono ?_; rintro e w' ⟨rfl, rfl⟩)
    | (go_at_call 19; refine (refLetter_any _ _).mono ?_; rintro e w' ⟨rfl, rfl⟩)
    | (go_at_call 12; refine (name_any _ _ hs).mono ?_; rintro e w' ⟨rfl, hx⟩)
    | (go_at_call 20; refine (refName_any _ _ hs).mono ?_; rintro e w' ⟨rfl, hx⟩)
    | (go_at_call 3; refine (signRuns_any _).mono ?_; rintro e w' ⟨rfl, hx⟩))
  go_ret
  exact ⟨rfl, by repeat (first | exact Ext.refl _ | assumption | refine Ext.trans ?_ (by assumption))⟩
end Go.Proofs.Ytpagmogikfkncaa
