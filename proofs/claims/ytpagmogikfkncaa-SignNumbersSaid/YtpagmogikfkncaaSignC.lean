/- Package sign and chapter 3's own answer: Width, Cut, Digits. -/
import Derived.Test.YtpagmogikfkncaaSignB
namespace Go.Proofs.Ytpagmogikfkncaa
open Go.RowKit

def widthN (s : ByteArray) : Nat := (runesAt s 0).length
/-- Where the text's first n runes end. -/
def cutPos : List (Nat × Nat) → Int → Nat → Nat
  | [], _, p => p
  | d :: t, n, p => if n ≤ 0 then p else cutPos t (n - 1) (p + d.2)
def cutB (s : ByteArray) (n : Int) : ByteArray := s.extract 0 (cutPos (runesAt s 0) n 0)
theorem cutPos_stop (d : Nat × Nat) (t : List (Nat × Nat)) (n : Int) (p : Nat) (h : n ≤ 0) : cutPos (d :: t) n p = p := by rw [cutPos, if_pos h]
theorem cutPos_go (d : Nat × Nat) (t : List (Nat × Nat)) (n : Int) (p : Nat) (h : ¬ n ≤ 0) : cutPos (d :: t) n p = cutPos t (n - 1) (p + d.2) := by rw [cutPos, if_neg h]
theorem extract_all (s : ByteArray) : s.extract 0 s.size = s := by
  apply ByteArray.ext
  simp [ByteArray.data_extract]
/-- The number that runes tell. -/
def digGo : List (Nat × Nat) → Nat → Int × Bool
  | [], a => ((a : Int), true)
  | d :: t, a => if 48 ≤ d.1 ∧ d.1 ≤ 57 then digGo t (10 * a + (d.1 - 48)) else (0, false)
def byte0 (s : ByteArray) : Nat := (s.data.toList.getD 0 0).toNat
theorem byte0_at (s : ByteArray) (h : 0 < s.size) : (s[0]'h).toNat = byte0 s := by
  unfold byte0
  have : 0 < s.data.toList.length := by simpa using h
  rw [List.getD_eq_getElem?_getD, List.getElem?_eq_getElem this]
  rfl
def digB (s : ByteArray) : Int × Bool := if (1 ≤ s.size ∧ s.size ≤ 18) ∧ (s.size = 1 ∨ byte0 s ≠ 48) then digGo (runesAt s 0) 0 else (0, false)
theorem digGo_stop (d : Nat × Nat) (t : List (Nat × Nat)) (a : Nat) (h : ¬ (48 ≤ d.1 ∧ d.1 ≤ 57)) : digGo (d :: t) a = (0, false) := by rw [digGo, if_neg h]
theorem digGo_go (d : Nat × Nat) (t : List (Nat × Nat)) (a : Nat) (h : 48 ≤ d.1 ∧ d.1 ≤ 57) : digGo (d :: t) a = digGo t (10 * a + (d.1 - 48)) := by rw [digGo, if_pos h]
theorem pow_step (a x p q : Nat) (ha : a < 10 ^ p) (hx : x ≤ 9) (hq : p + 1 ≤ q) : 10 * a + x < 10 ^ q := by
  have h1 : 10 ^ (p + 1) ≤ 10 ^ q := Nat.pow_le_pow_right (by decide) hq
  rw [Nat.pow_succ] at h1
  omega
theorem pow_17 (a p : Nat) (ha : a < 10 ^ p) (hp : p ≤ 17) : a < 100000000000000000 := Nat.lt_of_lt_of_le ha (Nat.pow_le_pow_right (by decide) hp : 10 ^ p ≤ 10 ^ 17)

set_option maxHeartbeats 1000000 in
set_option maxRecDepth 100000 in
theorem width_any (s : ByteArray) (w : World) (hs : s.size ≤ 9223372036854775807) :
    Calls Try.prog 15 #[.string s] w fun e w' => e = .returned (.int .i64 (widthN s : Int)) ∧ Ext w w' := by
  have hq : widthN s = (runesAt s 0).length := rfl
  generalize widthN s = q at *
  have HQ := Lib.hid hq
  clear hq
  go_enter Try.func15, Try.ntmps15
  go_wp2
  go_loopw [3] (fun n wr => ∃ pos k : Nat, n = .int .i64 (k : Int) ∧ wr = w.iter s pos ∧ k + (runesAt s pos).length = q ∧ k ≤ pos) (fun _ wr => s.size - wr.iterPos w.heap.size)
  case atStart => exact ⟨0, 0, rfl, rfl, by rw [HQ.out, Nat.zero_add], Nat.le_refl _⟩
  case round =>
    obtain ⟨pos, k, rfl, rfl, hc, hkp⟩ := hrel
    by_cases hp : pos < s.size
    · have hnx : ∀ ty, (Instr.next (.pointer (some ⟨w.heap.size, 0, none⟩)) true ty).run Try.prog (w.iter s pos) = _ := fun ty => run_next_any w s pos ty hp
      have hwd := decode_wd s pos hp
      rw [runesAt_step s pos hp, List.length_cons] at hc
      generalize Utf8.decode s pos = d at *
      obtain ⟨r, wd⟩ := d
      simp only [] at hc hnx hwd
      have HC := Lib.hid hc
      clear hc
      go_wp2
      go_roundw
      case rel => exact ⟨_, k + 1, by simp, rfl, by have := HC.out; omega, by omega⟩
      case measure => simp only [iterPos_eq]; omega
    · have hnx : ∀ ty, (Instr.next (.pointer (some ⟨w.heap.size, 0, none⟩)) true ty).run Try.prog (w.iter s pos) = _ := fun ty => run_next_end w s pos ty hp
      rw [runesAt_end s pos hp] at hc
      have HC := Lib.hid hc
      clear hc
      go_wp2
      go_ret
      refine ⟨?_, Ext.iter _ _⟩
      have := HC.out
      simp only [List.length_nil, Nat.add_zero] at this
      rw [← this]
      rfl

set_option maxHeartbeats 1000000 in
set_option maxRecDepth 100000 in
theorem refWidth_any (s : ByteArray) (w : World) (hs : s.size ≤ 9223372036854775807) :
    Calls Try.prog 22 #[.string s] w fun e w' => e = .returned (.int .i64 (widthN s : Int)) ∧ Ext w w' := by
  have hq : widthN s = (runesAt s 0).length := rfl
  generalize widthN s = q at *
  have HQ := Lib.hid hq
  clear hq
  go_enter Try.func22, Try.ntmps22
  go_wp2
  go_loopw [3] (fun n wr => ∃ pos k : Nat, n = .int .i64 (k : Int) ∧ wr = w.iter s pos ∧ k + (runesAt s pos).length = q ∧ k ≤ pos) (fun _ wr => s.size - wr.iterPos w.heap.size)
  case atStart => exact ⟨0, 0, rfl, rfl, by rw [HQ.out, Nat.zero_add], Nat.le_refl _⟩
  case round =>
    obtain ⟨pos, k, rfl, rfl, hc, hkp⟩ := hrel
    by_cases hp : pos < s.size
    · have hnx : ∀ ty, (Instr.next (.pointer (some ⟨w.heap.size, 0, none⟩)) true ty).run Try.prog (w.iter s pos) = _ := fun ty => run_next_any w s pos ty hp
      have hwd := decode_wd s pos hp
      rw [runesAt_step s pos hp, List.length_cons] at hc
      generalize Utf8.decode s pos = d at *
      obtain ⟨r, wd⟩ := d
      simp only [] at hc hnx hwd
      have HC := Lib.hid hc
      clear hc
      go_wp2
      go_roundw
      case rel => exact ⟨_, k + 1, by simp, rfl, by have := HC.out; omega, by omega⟩
      case measure => simp only [iterPos_eq]; omega
    · have hnx : ∀ ty, (Instr.next (.pointer (some ⟨w.heap.size, 0, none⟩)) true ty).run Try.prog (w.iter s pos) = _ := fun ty => run_next_end w s pos ty hp
      rw [runesAt_end s pos hp] at hc
      have HC := Lib.hid hc
      clear hc
      go_wp2
      go_ret
      refine ⟨?_, Ext.iter _ _⟩
      have := HC.out
      simp only [List.length_nil, Nat.add_zero] at this
      rw [← this]
      rfl

set_option maxHeartbeats 1000000 in
set_option maxRecDepth 100000 in
theorem cut_any (s : ByteArray) (n : Int) (w : World) (hs : s.size ≤ 9223372036854775807) :
    Calls Try.prog 16 #[.string s, .int .i64 n] w fun e w' => e = .returned (.string (cutB s n)) ∧ Ext w w' := by
  have hq : cutB s n = s.extract 0 (cutPos (runesAt s 0) n 0) := rfl
  generalize cutB s n = q at *
  have HQ := Lib.hid hq
  clear hq
  go_enter Try.func16, Try.ntmps16
  go_wp2
  go_loopw [5] (fun kv wr => ∃ pos k : Nat, kv = .int .i64 (k : Int) ∧ wr = w.iter s pos ∧ cutPos (runesAt s pos) (n - (k : Int)) pos = cutPos (runesAt s 0) n 0 ∧ k ≤ pos ∧ pos ≤ s.size ∧ (pos ≠ 0 → 1 ≤ n)) (fun _ wr => s.size - wr.iterPos w.heap.size)
  case atStart => exact ⟨0, 0, rfl, rfl, by simp, Nat.le_refl _, Nat.zero_le _, fun h => absurd rfl h⟩
  case round =>
    obtain ⟨pos, k, rfl, rfl, hc, hkp, hps, hn1⟩ := hrel
    have HN := Lib.hid hn1
    clear hn1
    by_cases hp : pos < s.size
    · have hnx : ∀ ty, (Instr.next (.pointer (some ⟨w.heap.size, 0, none⟩)) true ty).run Try.prog (w.iter s pos) = _ := fun ty => run_next_any w s pos ty hp
      have hwd := decode_wd s pos hp
      rw [runesAt_step s pos hp] at hc
      generalize Utf8.decode s pos = d at *
      obtain ⟨r, wd⟩ := d
      simp only [] at hc hnx hwd
      have HC := Lib.hid hc
      clear hc
      by_cases hk : n ≤ (k : Int)
      · have i1 : (0 : Int) ≤ (pos : Int) := by omega
        have i2 : (pos : Int) ≤ (s.size : Int) := by omega
        go_wp2
        go_ret
        refine ⟨?_, Ext.iter _ _⟩
        rw [HQ.out, ← HC.out, cutPos_stop _ _ _ _ (by omega)]
        rfl
      · have hk' : (k : Int) < n := by omega
        go_wp2
        go_roundw
        case rel =>
          refine ⟨_, k + 1, by simp, rfl, ?_, by omega, by omega, fun _ => by omega⟩
          rw [← HC.out, cutPos_go _ _ _ _ (by omega)]
          congr 1
          omega
        case measure => simp only [iterPos_eq]; omega
    · have hnx : ∀ ty, (Instr.next (.pointer (some ⟨w.heap.size, 0, none⟩)) true ty).run Try.prog (w.iter s pos) = _ := fun ty => run_next_end w s pos ty hp
      rw [runesAt_end s pos hp] at hc
      have hps2 : pos = s.size := by omega
      have HC := Lib.hid hc
      have HS : Hid (s.extract 0 pos = s) := Lib.hid (by rw [hps2]; exact extract_all s)
      clear hc hps2
      by_cases hn : n < 1
      · have hd : decide (n < 1) = true := by simpa using hn
        have hz : pos = 0 := by
          by_cases h0 : pos = 0
          · exact h0
          · exfalso
            have := HN.out h0
            omega
        have HZ := Lib.hid hz
        clear hz
        go_wp2
        go_ret
        refine ⟨?_, Ext.iter _ _⟩
        rw [HQ.out, ← HC.out, cutPos, HZ.out]
        rw [show s.extract 0 0 = ⟨#[]⟩ from by apply ByteArray.ext; simp [ByteArray.data_extract]]
        rfl
      · have hd : decide (n < 1) = false := by simpa using hn
        go_wp2
        go_ret
        refine ⟨?_, Ext.iter _ _⟩
        rw [HQ.out, ← HC.out, cutPos, HS.out]
        rfl

set_option maxHeartbeats 1000000 in
set_option maxRecDepth 100000 in
theorem refCut_any (s : ByteArray) (n : Int) (w : World) (hs : s.size ≤ 9223372036854775807) :
    Calls Try.prog 23 #[.string s, .int .i64 n] w fun e w' => e = .returned (.string (cutB s n)) ∧ Ext w w' := by
  have hq : cutB s n = s.extract 0 (cutPos (runesAt s 0) n 0) := rfl
  generalize cutB s n = q at *
  have HQ := Lib.hid hq
  clear hq
  go_enter Try.func23, Try.ntmps23
  go_wp2
  go_loopw [5] (fun kv wr => ∃ pos k : Nat, kv = .int .i64 (k : Int) ∧ wr = w.iter s pos ∧ cutPos (runesAt s pos) (n - (k : Int)) pos = cutPos (runesAt s 0) n 0 ∧ k ≤ pos ∧ pos ≤ s.size ∧ (pos ≠ 0 → 1 ≤ n)) (fun _ wr => s.size - wr.iterPos w.heap.size)
  case atStart => exact ⟨0, 0, rfl, rfl, by simp, Nat.le_refl _, Nat.zero_le _, fun h => absurd rfl h⟩
  case round =>
    obtain ⟨pos, k, rfl, rfl, hc, hkp, hps, hn1⟩ := hrel
    have HN := Lib.hid hn1
    clear hn1
    by_cases hp : pos < s.size
    · have hnx : ∀ ty, (Instr.next (.pointer (some ⟨w.heap.size, 0, none⟩)) true ty).run Try.prog (w.iter s pos) = _ := fun ty => run_next_any w s pos ty hp
      have hwd := decode_wd s pos hp
      rw [runesAt_step s pos hp] at hc
      generalize Utf8.decode s pos = d at *
      obtain ⟨r, wd⟩ := d
      simp only [] at hc hnx hwd
      have HC := Lib.hid hc
      clear hc
      by_cases hk : n ≤ (k : Int)
      · have i1 : (0 : Int) ≤ (pos : Int) := by omega
        have i2 : (pos : Int) ≤ (s.size : Int) := by omega
        go_wp2
        go_ret
        refine ⟨?_, Ext.iter _ _⟩
        rw [HQ.out, ← HC.out, cutPos_stop _ _ _ _ (by omega)]
        rfl
      · have hk' : (k : Int) < n := by omega
        go_wp2
        go_roundw
        case rel =>
          refine ⟨_, k + 1, by simp, rfl, ?_, by omega, by omega, fun _ => by omega⟩
          rw [← HC.out, cutPos_go _ _ _ _ (by omega)]
          congr 1
          omega
        case measure => simp only [iterPos_eq]; omega
    · have hnx : ∀ ty, (Instr.next (.pointer (some ⟨w.heap.size, 0, none⟩)) true ty).run Try.prog (w.iter s pos) = _ := fun ty => run_next_end w s pos ty hp
      rw [runesAt_end s pos hp] at hc
      have hps2 : pos = s.size := by omega
      have HC := Lib.hid hc
      have HS : Hid (s.extract 0 pos = s) := Lib.hid (by rw [hps2]; exact extract_all s)
      clear hc hps2
      go_wp2
      go_ret
      refine ⟨?_, Ext.iter _ _⟩
      rw [HQ.out, ← HC.out, cutPos, HS.out]
      rfl
end Go.Proofs.Ytpagmogikfkncaa
