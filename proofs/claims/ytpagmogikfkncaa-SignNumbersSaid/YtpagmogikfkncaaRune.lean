/- utf8.AppendRune onto a row of bytes that the call owns; a strings.Builder of the call's own: copyCheck, WriteRune. (The arms follow the kit's own text on them, over this program.) -/
import Derived.Test.YtpagmogikfkncaaProg
import Derived.Test.YtpagmogikfkncaaOwn
import Derived.Test.YtpagmogikfkncaaKeep
import Derived.Lib.RuneBytes
namespace Go.Proofs.Ytpagmogikfkncaa
open Go.RowKit

theorem Try.infoByte : (Try.prog.info? 5).map (fun i => (i.zero, i.size, i.bytes)) = some (some (.int .u8 0), 1, 1) := by kernel_rfl

set_option maxHeartbeats 4000000 in
set_option maxRecDepth 100000 in
theorem runeN_two (B : Nat) (v : Value) (n : Nat) (xs : List Value) (r : Int) (h0 : 128 ≤ r) (h1 : r ≤ 2047) (w : World) (hown : w.ownsRow B 5 1 v n xs) (hlen : n + 4 ≤ 140737488355328) (hBw : B ≤ w.heap.size) :
    Calls Try.prog 31 #[v, .int .i32 r] w fun e w' => ∃ v', e = .returned v' ∧ w'.ownsRow B 5 1 v' (n + 2) (xs ++ [.int .u8 (192 + r / 64), .int .u8 (128 + r % 64)]) ∧ Below B w w' := by
  obtain ⟨i0, hi, hz0, hz1, hz2⟩ := info_parts Try.infoByte
  go_enter Try.func31, Try.ntmps31
  go_wp2_with (at_builtin; refine wpList_own_push (w := w) rfl _ _ 36 rfl B 5 5 i0 (.int .u8 0) 1 1 Try.underlying36 hi hz0 hz1 hz2 rfl (by decide) v n 2 2 xs [.int .u8 (192 + r / 64), .int .u8 (128 + r % 64)] hown rfl rfl rfl rfl ?c2 ?c3 ?c4 hBw ?_)
  case c2 => intro u hu; simp at hu; rcases hu with rfl | rfl <;> rfl
  case c3 => unfold maxLen; omega
  case c4 => omega
  intro v' w2 hown' hb
  go_wp2
  go_ret
  exact ⟨_, rfl, hown', hb⟩

set_option maxHeartbeats 4000000 in
set_option maxRecDepth 100000 in
theorem runeN_threeLo (B : Nat) (v : Value) (n : Nat) (xs : List Value) (r : Int) (h0 : 2048 ≤ r) (h1 : r < 55296) (w : World) (hown : w.ownsRow B 5 1 v n xs) (hlen : n + 4 ≤ 140737488355328) (hBw : B ≤ w.heap.size) :
    Calls Try.prog 31 #[v, .int .i32 r] w fun e w' => ∃ v', e = .returned v' ∧ w'.ownsRow B 5 1 v' (n + 3) (xs ++ [.int .u8 (224 + r / 4096), .int .u8 (128 + r / 64 % 64), .int .u8 (128 + r % 64)]) ∧ Below B w w' := by
  obtain ⟨i0, hi, hz0, hz1, hz2⟩ := info_parts Try.infoByte
  go_enter Try.func31, Try.ntmps31
  go_wp2_with (at_builtin; refine wpList_own_push (w := w) rfl _ _ 36 rfl B 5 5 i0 (.int .u8 0) 1 1 Try.underlying36 hi hz0 hz1 hz2 rfl (by decide) v n 3 3 xs [.int .u8 (224 + r / 4096), .int .u8 (128 + r / 64 % 64), .int .u8 (128 + r % 64)] hown rfl rfl rfl rfl ?c2 ?c3 ?c4 hBw ?_)
  case c2 => intro u hu; simp at hu; rcases hu with rfl | rfl | rfl <;> rfl
  case c3 => unfold maxLen; omega
  case c4 => omega
  intro v' w2 hown' hb
  go_wp2
  go_ret
  exact ⟨_, rfl, hown', hb⟩

set_option maxHeartbeats 4000000 in
set_option maxRecDepth 100000 in
theorem runeN_threeHi (B : Nat) (v : Value) (n : Nat) (xs : List Value) (r : Int) (h0 : 57343 < r) (h1 : r ≤ 65535) (w : World) (hown : w.ownsRow B 5 1 v n xs) (hlen : n + 4 ≤ 140737488355328) (hBw : B ≤ w.heap.size) :
    Calls Try.prog 31 #[v, .int .i32 r] w fun e w' => ∃ v', e = .returned v' ∧ w'.ownsRow B 5 1 v' (n + 3) (xs ++ [.int .u8 (224 + r / 4096), .int .u8 (128 + r / 64 % 64), .int .u8 (128 + r % 64)]) ∧ Below B w w' := by
  obtain ⟨i0, hi, hz0, hz1, hz2⟩ := info_parts Try.infoByte
  go_enter Try.func31, Try.ntmps31
  go_wp2_with (at_builtin; refine wpList_own_push (w := w) rfl _ _ 36 rfl B 5 5 i0 (.int .u8 0) 1 1 Try.underlying36 hi hz0 hz1 hz2 rfl (by decide) v n 3 3 xs [.int .u8 (224 + r / 4096), .int .u8 (128 + r / 64 % 64), .int .u8 (128 + r % 64)] hown rfl rfl rfl rfl ?c2 ?c3 ?c4 hBw ?_)
  case c2 => intro u hu; simp at hu; rcases hu with rfl | rfl | rfl <;> rfl
  case c3 => unfold maxLen; omega
  case c4 => omega
  intro v' w2 hown' hb
  go_wp2
  go_ret
  exact ⟨_, rfl, hown', hb⟩

set_option maxHeartbeats 4000000 in
set_option maxRecDepth 100000 in
theorem runeN_four (B : Nat) (v : Value) (n : Nat) (xs : List Value) (r : Int) (h0 : 65536 ≤ r) (h1 : r ≤ 1114111) (w : World) (hown : w.ownsRow B 5 1 v n xs) (hlen : n + 4 ≤ 140737488355328) (hBw : B ≤ w.heap.size) :
    Calls Try.prog 31 #[v, .int .i32 r] w fun e w' => ∃ v', e = .returned v' ∧ w'.ownsRow B 5 1 v' (n + 4) (xs ++ [.int .u8 (240 + r / 262144), .int .u8 (128 + r / 4096 % 64), .int .u8 (128 + r / 64 % 64), .int .u8 (128 + r % 64)]) ∧ Below B w w' := by
  obtain ⟨i0, hi, hz0, hz1, hz2⟩ := info_parts Try.infoByte
  go_enter Try.func31, Try.ntmps31
  go_wp2_with (at_builtin; refine wpList_own_push (w := w) rfl _ _ 36 rfl B 5 5 i0 (.int .u8 0) 1 1 Try.underlying36 hi hz0 hz1 hz2 rfl (by decide) v n 4 4 xs [.int .u8 (240 + r / 262144), .int .u8 (128 + r / 4096 % 64), .int .u8 (128 + r / 64 % 64), .int .u8 (128 + r % 64)] hown rfl rfl rfl rfl ?c2 ?c3 ?c4 hBw ?_)
  case c2 => intro u hu; simp at hu; rcases hu with rfl | rfl | rfl | rfl <;> rfl
  case c3 => unfold maxLen; omega
  case c4 => omega
  intro v' w2 hown' hb
  go_wp2
  go_ret
  exact ⟨_, rfl, hown', hb⟩

set_option maxHeartbeats 4000000 in
set_option maxRecDepth 100000 in
theorem runeN_badNeg (B : Nat) (v : Value) (n : Nat) (xs : List Value) (r : Int) (h0 : -2147483648 ≤ r) (h1 : r < 0) (w : World) (hown : w.ownsRow B 5 1 v n xs) (hlen : n + 4 ≤ 140737488355328) (hBw : B ≤ w.heap.size) :
    Calls Try.prog 31 #[v, .int .i32 r] w fun e w' => ∃ v', e = .returned v' ∧ w'.ownsRow B 5 1 v' (n + 3) (xs ++ [.int .u8 (239), .int .u8 (191), .int .u8 (189)]) ∧ Below B w w' := by
  obtain ⟨i0, hi, hz0, hz1, hz2⟩ := info_parts Try.infoByte
  go_enter Try.func31, Try.ntmps31
  go_wp2_with (at_builtin; refine wpList_own_push (w := w) rfl _ _ 36 rfl B 5 5 i0 (.int .u8 0) 1 1 Try.underlying36 hi hz0 hz1 hz2 rfl (by decide) v n 3 3 xs [.int .u8 (239), .int .u8 (191), .int .u8 (189)] hown rfl rfl rfl rfl ?c2 ?c3 ?c4 hBw ?_)
  case c2 => intro u hu; simp at hu; rcases hu with rfl | rfl | rfl <;> rfl
  case c3 => unfold maxLen; omega
  case c4 => omega
  intro v' w2 hown' hb
  go_wp2
  go_ret
  exact ⟨_, rfl, hown', hb⟩

set_option maxHeartbeats 4000000 in
set_option maxRecDepth 100000 in
theorem runeN_badSur (B : Nat) (v : Value) (n : Nat) (xs : List Value) (r : Int) (h0 : 55296 ≤ r) (h1 : r ≤ 57343) (w : World) (hown : w.ownsRow B 5 1 v n xs) (hlen : n + 4 ≤ 140737488355328) (hBw : B ≤ w.heap.size) :
    Calls Try.prog 31 #[v, .int .i32 r] w fun e w' => ∃ v', e = .returned v' ∧ w'.ownsRow B 5 1 v' (n + 3) (xs ++ [.int .u8 (239), .int .u8 (191), .int .u8 (189)]) ∧ Below B w w' := by
  obtain ⟨i0, hi, hz0, hz1, hz2⟩ := info_parts Try.infoByte
  go_enter Try.func31, Try.ntmps31
  go_wp2_with (at_builtin; refine wpList_own_push (w := w) rfl _ _ 36 rfl B 5 5 i0 (.int .u8 0) 1 1 Try.underlying36 hi hz0 hz1 hz2 rfl (by decide) v n 3 3 xs [.int .u8 (239), .int .u8 (191), .int .u8 (189)] hown rfl rfl rfl rfl ?c2 ?c3 ?c4 hBw ?_)
  all_goals first
    | (intro v' w2 hown' hb; go_wp2; go_ret; exact ⟨_, rfl, hown', hb⟩)
    | (unfold maxLen; omega)
    | omega
    | (intro u hu; simp at hu; rcases hu with rfl | rfl | rfl <;> rfl)
    | exact ⟨rfl, rfl, rfl⟩
    | (unfold maxLen; omega)
    | omega
    | trace_state

set_option maxHeartbeats 4000000 in
set_option maxRecDepth 100000 in
theorem runeN_badBig (B : Nat) (v : Value) (n : Nat) (xs : List Value) (r : Int) (h0 : 1114111 < r) (h1 : r ≤ 2147483647) (w : World) (hown : w.ownsRow B 5 1 v n xs) (hlen : n + 4 ≤ 140737488355328) (hBw : B ≤ w.heap.size) :
    Calls Try.prog 31 #[v, .int .i32 r] w fun e w' => ∃ v', e = .returned v' ∧ w'.ownsRow B 5 1 v' (n + 3) (xs ++ [.int .u8 (239), .int .u8 (191), .int .u8 (189)]) ∧ Below B w w' := by
  obtain ⟨i0, hi, hz0, hz1, hz2⟩ := info_parts Try.infoByte
  go_enter Try.func31, Try.ntmps31
  go_wp2_with (at_builtin; refine wpList_own_push (w := w) rfl _ _ 36 rfl B 5 5 i0 (.int .u8 0) 1 1 Try.underlying36 hi hz0 hz1 hz2 rfl (by decide) v n 3 3 xs [.int .u8 (239), .int .u8 (191), .int .u8 (189)] hown rfl rfl rfl rfl ?c2 ?c3 ?c4 hBw ?_)
  case c2 => intro u hu; simp at hu; rcases hu with rfl | rfl | rfl <;> rfl
  case c3 => unfold maxLen; omega
  case c4 => omega
  intro v' w2 hown' hb
  go_wp2
  go_ret
  exact ⟨_, rfl, hown', hb⟩

/-- A builder of the call's own, made in block b; its bytes lie in blocks of B on. -/
def BldAt (B b : Nat) (w : World) (l : List Value) : Prop := b < B ∧ B ≤ w.heap.size ∧ ∃ p v, (p = .pointer none ∨ p = .pointer (some ⟨b, 0, none⟩)) ∧ w.heap[b]? = some (.cells #[p, v] 41) ∧ w.ownsRow B 5 1 v l.length l
/-- Below B all but block b is as it was. -/
structure KeepB (B b : Nat) (w w' : World) : Prop where
  os : w'.os = w.os
  tape : w'.tape = w.tape
  output : w'.output = w.output
  size : w.heap.size ≤ w'.heap.size
  block : ∀ k, k < B → k ≠ b → w'.heap[k]? = w.heap[k]?

theorem runeN_any (B : Nat) (v : Value) (n : Nat) (xs : List Value) (r : Int) (hr0 : -2147483648 ≤ r) (hr1 : r ≤ 2147483647) (hna : r < 0 ∨ 128 ≤ r) (w : World) (hown : w.ownsRow B 5 1 v n xs) (hlen : n + 4 ≤ 140737488355328) (hBw : B ≤ w.heap.size) :
    Calls Try.prog 31 #[v, .int .i32 r] w fun e w' => ∃ v', e = .returned v' ∧ w'.ownsRow B 5 1 v' (n + (Lib.runeCells r).length) (xs ++ Lib.runeCells r) ∧ Below B w w' := by
  unfold Lib.runeCells
  by_cases c1 : r < 0
  · rw [Lib.encodeRuneZ_bad (.inl c1)]; exact runeN_badNeg B v n xs r hr0 c1 w hown hlen hBw
  by_cases c2 : r ≤ 2047
  · rw [Lib.encodeRuneZ_two (by omega) c2]; exact runeN_two B v n xs r (by omega) c2 w hown hlen hBw
  by_cases c3 : r < 55296
  · rw [Lib.encodeRuneZ_three (.inl ⟨by omega, c3⟩)]; exact runeN_threeLo B v n xs r (by omega) c3 w hown hlen hBw
  by_cases c4 : r ≤ 57343
  · rw [Lib.encodeRuneZ_bad (.inr (.inl ⟨by omega, c4⟩))]; exact runeN_badSur B v n xs r (by omega) c4 w hown hlen hBw
  by_cases c5 : r ≤ 65535
  · rw [Lib.encodeRuneZ_three (.inr ⟨by omega, c5⟩)]; exact runeN_threeHi B v n xs r (by omega) c5 w hown hlen hBw
  by_cases c6 : r ≤ 1114111
  · rw [Lib.encodeRuneZ_four (by omega) c6]; exact runeN_four B v n xs r (by omega) c6 w hown hlen hBw
  · rw [Lib.encodeRuneZ_bad (.inr (.inr (by omega)))]; exact runeN_badBig B v n xs r (by omega) hr1 w hown hlen hBw

set_option maxHeartbeats 4000000 in
set_option maxRecDepth 100000 in
theorem rune_any (B : Nat) (v : Value) (n : Nat) (xs : List Value) (r : Int) (hr0 : -2147483648 ≤ r) (hr1 : r ≤ 2147483647) (w : World) (hown : w.ownsRow B 5 1 v n xs) (hlen : n + 4 ≤ 140737488355328) (hBw : B ≤ w.heap.size) :
    Calls Try.prog 29 #[v, .int .i32 r] w fun e w' => ∃ v', e = .returned v' ∧ w'.ownsRow B 5 1 v' (n + (Lib.runeCells r).length) (xs ++ Lib.runeCells r) ∧ Below B w w' := by
  obtain ⟨i0, hi, hz0, hz1, hz2⟩ := info_parts Try.infoByte
  by_cases hna : r < 0 ∨ 128 ≤ r
  · rcases hna with h | h
    all_goals
      go_enter Try.func29, Try.ntmps29
      go_wp2_with (go_at_call 31; refine (runeN_any B v n xs r hr0 hr1 (by omega) _ hown hlen hBw).mono ?_)
      rintro e w1 ⟨v', rfl, ho, hb⟩
      go_wp2
      go_ret
      exact ⟨_, rfl, ho, hb⟩
  · have h0 : 0 ≤ r := by omega
    have h1 : r ≤ 127 := by omega
    have hc : Lib.runeCells r = [.int .u8 r] := by unfold Lib.runeCells; rw [Lib.encodeRuneZ_one h0 h1]; rfl
    rw [hc]
    clear hna hc
    go_enter Try.func29, Try.ntmps29
    go_wp2_with (at_builtin; refine wpList_own_push (w := w) rfl _ _ 36 rfl B 5 5 i0 (.int .u8 0) 1 1 Try.underlying36 hi hz0 hz1 hz2 rfl (by decide) v n 1 1 xs [.int .u8 r] hown rfl rfl rfl rfl ?c2 ?c3 ?c4 hBw ?_)
    case c2 => intro u hu; simp at hu; rcases hu with rfl; rfl
    case c3 => unfold maxLen; omega
    case c4 => omega
    intro v' w2 hown' hb
    go_wp2
    go_ret
    exact ⟨_, rfl, hown', hb⟩
end Go.Proofs.Ytpagmogikfkncaa
