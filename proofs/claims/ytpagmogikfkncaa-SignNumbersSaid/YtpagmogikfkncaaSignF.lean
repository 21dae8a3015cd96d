/- Chapter 3's own answer: Fold, by concatenation; the law SignFolds: the walk. -/
import Derived.Test.YtpagmogikfkncaaSignRuns
namespace Go.Proofs.Ytpagmogikfkncaa
open Go.RowKit

theorem encode_data (r : Nat) : (Utf8.encode (r : Int)).data.toList = Lib.encodeRune (r : Int) := by
  unfold Lib.encodeRune
  have h8 : ∀ (x : Nat) (z : Int), z = (x : Int) → z.toNat.toUInt8 = UInt8.ofNat x := by rintro x z rfl; rfl
  by_cases c1 : r < 128
  · have v : Utf8.valid (r : Int) = true := by simp [Utf8.valid]; omega
    rw [Lib.encodeRuneZ_one (by omega) (by omega)]
    simp [Utf8.encode, v, c1]
  by_cases c2 : r < 2048
  · have v : Utf8.valid (r : Int) = true := by simp [Utf8.valid]; omega
    rw [Lib.encodeRuneZ_two (by omega) (by omega)]
    simp only [Utf8.encode, v, c1, c2, if_true, if_false, List.map_cons, List.map_nil, Int.toNat_natCast]
    rw [h8 (192 + r / 64) _ (by omega), h8 (128 + r % 64) _ (by omega)]
  by_cases hb : (55296 ≤ r ∧ r ≤ 57343) ∨ 1114111 < r
  · have v : Utf8.valid (r : Int) = false := by simp [Utf8.valid]; omega
    rw [Lib.encodeRuneZ_bad (by omega)]
    simp [Utf8.encode, v, Utf8.runeError]
  by_cases c3 : r < 65536
  · have v : Utf8.valid (r : Int) = true := by simp [Utf8.valid]; omega
    rw [Lib.encodeRuneZ_three (by omega)]
    simp only [Utf8.encode, v, c1, c2, c3, if_true, if_false, List.map_cons, List.map_nil, Int.toNat_natCast]
    rw [h8 (224 + r / 4096) _ (by omega), h8 (128 + r / 64 % 64) _ (by omega), h8 (128 + r % 64) _ (by omega)]
  · have v : Utf8.valid (r : Int) = true := by simp [Utf8.valid]; omega
    rw [Lib.encodeRuneZ_four (by omega) (by omega)]
    simp only [Utf8.encode, v, c1, c2, c3, if_true, if_false, List.map_cons, List.map_nil, Int.toNat_natCast]
    rw [h8 (240 + r / 262144) _ (by omega), h8 (128 + r / 4096 % 64) _ (by omega), h8 (128 + r / 64 % 64) _ (by omega), h8 (128 + r % 64) _ (by omega)]
theorem foldR_nat (r : Nat) : ∃ m : Nat, foldR r = (m : Int) ∧ m ≤ r + 32 := by
  unfold foldR
  split
  · exact ⟨r + 32, by omega, by omega⟩
  · exact ⟨r, rfl, by omega⟩
theorem size_lst (s : ByteArray) : s.data.toList.length = s.size := by rw [Array.length_toList]; rfl
theorem enc_size (m : Nat) : (Utf8.encode (m : Int)).size ≤ 4 := by
  have h : (Utf8.encode (m : Int)).data.toList.length ≤ 4 := by
    rw [encode_data, ← Lib.runeCells_length]
    exact (Lib.runeCells_le (m : Int)).2
  rw [size_lst] at h
  exact h
theorem app_data (a b : ByteArray) : (a ++ b).data.toList = a.data.toList ++ b.data.toList := by
  rw [ByteArray.data_append, Array.toList_append]
theorem bytes_of (a : ByteArray) : (⟨a.data.toList.toArray⟩ : ByteArray) = a := by
  cases a
  simp

set_option maxHeartbeats 2000000 in
set_option maxRecDepth 100000 in
theorem refFold_any (s : ByteArray) (w : World) (hs : s.size ≤ 35184372088832) :
    Calls Try.prog 21 #[.string s] w fun e w' => e = .returned (.string (foldS s)) ∧ Ext w w' := by
  have hq : foldS s = ⟨(foldL (runesAt s 0)).toArray⟩ := rfl
  generalize foldS s = q at *
  have HQ := Lib.hid hq
  clear hq
  go_enter Try.func21, Try.ntmps21
  go_wp2
  go_loopw [3] (fun ov wr => ∃ (pos : Nat) (o : ByteArray), ov = .string o ∧ wr = w.iter s pos ∧ o.data.toList ++ foldL (runesAt s pos) = foldL (runesAt s 0) ∧ o.size ≤ 4 * pos) (fun _ wr => s.size - wr.iterPos w.heap.size)
  case atStart => exact ⟨0, ⟨#[]⟩, rfl, rfl, rfl, by decide⟩
  case round =>
    obtain ⟨pos, o, rfl, rfl, hc, hop⟩ := hrel
    by_cases hp : pos < s.size
    · have hnx : ∀ ty, (Instr.next (.pointer (some ⟨w.heap.size, 0, none⟩)) true ty).run Try.prog (w.iter s pos) = _ := fun ty => run_next_any w s pos ty hp
      have hwd := decode_wd s pos hp
      have hmx := decode_max s pos
      rw [runesAt_step s pos hp, foldL_cons] at hc
      generalize Utf8.decode s pos = d at *
      obtain ⟨r, wd⟩ := d
      simp only [] at hc hnx hwd hmx
      have HC := Lib.hid hc
      clear hc
      have step : ∀ (x : Int), x = foldR r → (o ++ Utf8.encode x).data.toList ++ foldL (runesAt s (pos + wd)) = foldL (runesAt s 0) ∧ (o ++ Utf8.encode x).size ≤ 4 * (pos + wd) := by
        rintro x rfl
        obtain ⟨m, hm, _⟩ := foldR_nat r
        have hl5 := enc_size m
        constructor
        · rw [app_data, hm, encode_data, ← hm, ← HC.out, List.append_assoc]
        · rw [hm, ByteArray.size_append]
          omega
      obtain ⟨enc, henc⟩ : ∃ enc : Int → ByteArray, ∀ x, Utf8.encode x = enc x := ⟨Utf8.encode, fun _ => rfl⟩
      simp only [henc] at step
      have HS := Lib.hid step
      clear step
      have hz1 : o.size + (enc (r : Int)).size ≤ 9223372036854775807 := by
        have := enc_size r
        rw [henc] at this
        omega
      have hz2 : o.size + (enc ((r : Int) + 32)).size ≤ 9223372036854775807 := by
        have := enc_size (r + 32)
        have e : ((r + 32 : Nat) : Int) = (r : Int) + 32 := by omega
        rw [e, henc] at this
        omega
      by_cases hf : (65 ≤ r ∧ r ≤ 90) ∨ (192 ≤ r ∧ r ≤ 222 ∧ r ≠ 215)
      · have HF := Lib.hid (foldR_yes r hf).symm
        have hcases : ((65 : Int) ≤ r ∧ (r : Int) ≤ 90) ∨ (90 < (r : Int) ∧ (192 : Int) ≤ r ∧ (r : Int) ≤ 222 ∧ ((r : Int) != 215) = true) := by
          rcases hf with h | h
          · exact .inl (by omega)
          · exact .inr ⟨by omega, by omega, by omega, by rw [bne_iff_ne]; omega⟩
        clear hf
        rcases hcases with ⟨j1, j2⟩ | ⟨j1, j2, j3, j4⟩
        all_goals
          go_wp2
          go_roundw
          case rel => exact ⟨_, _, rfl, rfl, HS.out _ HF.out⟩
          case measure => simp only [iterPos_eq]; omega
      · have HF := Lib.hid (foldR_no r hf).symm
        have hcases : ((r : Int) < 65) ∨ ((65 : Int) ≤ r ∧ 90 < (r : Int) ∧ (r : Int) < 192) ∨ ((65 : Int) ≤ r ∧ 90 < (r : Int) ∧ (192 : Int) ≤ r ∧ 222 < (r : Int)) ∨ ((65 : Int) ≤ r ∧ 90 < (r : Int) ∧ (192 : Int) ≤ r ∧ (r : Int) ≤ 222 ∧ ((r : Int) != 215) = false) := by
          by_cases k1 : r < 65
          · exact .inl (by omega)
          by_cases k2 : r < 192
          · exact .inr (.inl (by omega))
          by_cases k3 : 222 < r
          · exact .inr (.inr (.inl (by omega)))
          · refine .inr (.inr (.inr ⟨by omega, by omega, by omega, by omega, ?_⟩))
            rw [bne_eq_false_iff_eq]
            omega
        clear hf
        rcases hcases with j1 | ⟨j1, j2, j3⟩ | ⟨j1, j2, j3, j4⟩ | ⟨j1, j2, j3, j4, j5⟩
        all_goals
          go_wp2
          go_roundw
          case rel => exact ⟨_, _, rfl, rfl, HS.out _ HF.out⟩
          case measure => simp only [iterPos_eq]; omega
    · have hnx : ∀ ty, (Instr.next (.pointer (some ⟨w.heap.size, 0, none⟩)) true ty).run Try.prog (w.iter s pos) = _ := fun ty => run_next_end w s pos ty hp
      rw [runesAt_end s pos hp] at hc
      simp only [foldL, List.flatMap_nil, List.append_nil] at hc
      have HC := Lib.hid hc
      clear hc
      go_wp2
      go_ret
      refine ⟨?_, Ext.iter _ _⟩
      rw [HQ.out]
      unfold foldL
      rw [← HC.out, bytes_of]
      rfl

set_option maxHeartbeats 2000000 in
set_option maxRecDepth 100000 in
theorem signFolds_any (s t : ByteArray) (n : Int) (w : World) (hs : s.size ≤ 35184372088832) (ht : t.size ≤ 35184372088832) : Calls Try.prog 5 #[.string s, .string t, .int .i64 n] w fun e w' => e = .returned (.bool true) ∧ Ext w w' := by
  have hq : sameB s t = ((foldS s).toList == (foldS t).toList) := rfl
  go_enter Try.func5, Try.ntmps5
  go_wp2_with (first
    | (go_at_call 13; refine (fold_any _ _ (by assumption)).mono ?_; rintro e w' ⟨rfl, hx⟩)
    | (go_at_call 21; refine (refFold_any _ _ (by assumption)).mono ?_; rintro e w' ⟨rfl, hx⟩)
    | (go_at_call 14; refine (same_any _ _ _ (by assumption) (by assumption)).mono ?_; rintro e w' ⟨rfl, hx⟩)
    | (go_at_call 15; refine (width_any _ _ (by omega)).mono ?_; rintro e w' ⟨rfl, hx⟩)
    | (go_at_call 22; refine (refWidth_any _ _ (by omega)).mono ?_; rintro e w' ⟨rfl, hx⟩)
    | (go_at_call 16; refine (cut_any _ _ _ (by omega)).mono ?_; rintro e w' ⟨rfl, hx⟩)
    | (go_at_call 23; refine (refCut_any _ _ _ (by omega)).mono ?_; rintro e w' ⟨rfl, hx⟩)
    | (go_at_call 3; refine (signRuns_any _).mono ?_; rintro e w' ⟨rfl, hx⟩))
  go_ret
  exact ⟨rfl, by repeat (first | exact Ext.refl _ | assumption | refine Ext.trans ?_ (by assumption))⟩
end Go.Proofs.Ytpagmogikfkncaa
