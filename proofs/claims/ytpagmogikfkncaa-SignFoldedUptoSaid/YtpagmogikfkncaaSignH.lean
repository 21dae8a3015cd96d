/- The laws SignFolded, SignWidths of package impostlaw3: the walks. -/
import Derived.Test.YtpagmogikfkncaaSignG
import Derived.Test.YtpagmogikfkncaaSignF
import Derived.Test.YtpagmogikfkncaaSignFoldLaw
namespace Go.Proofs.Ytpagmogikfkncaa
open Go.RowKit

theorem foldR_N (r : Nat) : foldR r = (foldN r : Int) := by
  unfold foldR foldN
  split
  · omega
  · rfl
theorem foldS_data (s : ByteArray) : (foldS s).data.toList = foldM s.data.toList := by
  show foldL (runesAt s 0) = _
  unfold foldL foldM
  rw [runesAt_zero]
  congr 1
  funext d
  rw [foldR_N]
theorem foldS_twice (s : ByteArray) : foldS (foldS s) = foldS s := by
  rw [← bytes_of (foldS (foldS s)), foldS_data, foldS_data, fold_twice, ← foldS_data, bytes_of]
theorem foldS_width (s : ByteArray) : widthN (foldS s) = widthN s := by
  rw [widthN_eq, foldS_data, fold_width, widthN_eq]
theorem foldS_same (s : ByteArray) : sameB s (foldS s) = true := by
  rw [sameB, foldS_twice]
  simp
theorem foldS_noA (s : ByteArray) : ∀ d ∈ runesAt (foldS s) 0, ¬ (65 ≤ d.1 ∧ d.1 ≤ 90) := by
  rw [runesAt_zero, foldS_data]
  exact fold_noA _
theorem foldL_len (rs : List (Nat × Nat)) : (foldL rs).length ≤ 4 * rs.length := by
  induction rs with
  | nil => simp [foldL]
  | cons d t ih =>
    rw [foldL_cons, List.length_append, List.length_cons]
    have := (Lib.runeCells_le (foldR d.1)).2
    rw [Lib.runeCells_length] at this
    omega
theorem foldS_size (s : ByteArray) : (foldS s).size ≤ 4 * s.size := by
  rw [← size_list (foldS s)]
  have h1 := foldL_len (runesAt s 0)
  have h2 := runesAt_len s 0
  show (foldL (runesAt s 0)).length ≤ _
  omega
theorem letter_fold (r : Nat) (h : letterB (r : Int) = true) : letterB (foldN r : Int) = true := by
  unfold foldN
  split
  · unfold letterB at h ⊢
    simp at h ⊢
    omega
  · exact h
theorem other_fold (r : Nat) (h : otherB (r : Int) = true) : foldN r = r := by
  unfold foldN
  unfold otherB at h
  simp at h
  rw [if_neg (by omega)]
theorem name_fold (first : Bool) : ∀ rs : List (Nat × Nat), nameFrom first rs = true → nameFrom first (rs.map fun d => (foldN d.1, (Lib.encodeRune (foldN d.1 : Int)).length)) = true
  | [], _ => rfl
  | d :: t, h => by
    have key : ∀ (f : Bool) (rs : List (Nat × Nat)), nameFrom f rs = true → nameFrom f (rs.map fun d => (foldN d.1, (Lib.encodeRune (foldN d.1 : Int)).length)) = true := by
      intro f rs
      induction rs generalizing f with
      | nil => intro _; rfl
      | cons e u ih =>
        intro hh
        rw [nameFrom, Bool.and_eq_true, Bool.or_eq_true, Bool.and_eq_true] at hh
        rw [List.map_cons, nameFrom, Bool.and_eq_true, Bool.or_eq_true, Bool.and_eq_true]
        refine ⟨?_, ih false hh.2⟩
        rcases hh.1 with hl | ⟨hf, ho⟩
        · exact .inl (letter_fold e.1 hl)
        · refine .inr ⟨hf, ?_⟩
          show otherB (foldN e.1 : Int) = true
          rw [other_fold e.1 ho]
          exact ho
    exact key first (d :: t) h
theorem name_right (first : Bool) (rs : List (Nat × Nat)) (h : nameFrom first rs = true) : rightR rs := by
  induction rs generalizing first with
  | nil => intro d hd; cases hd
  | cons e u ih =>
    rw [nameFrom, Bool.and_eq_true] at h
    intro d hd
    rw [List.mem_cons] at hd
    rcases hd with rfl | hd
    · rintro rfl
      have h1 := h.1
      revert h1
      cases first <;> decide
    · exact ih false h.2 d hd
theorem nameB_fold (s : ByteArray) (h : nameB s = true) : nameB (foldS s) = true := by
  have hg : 1 ≤ s.size ∧ s.size ≤ 24 := by
    by_cases hg : 1 ≤ s.size ∧ s.size ≤ 24
    · exact hg
    · rw [nameB_bad s hg] at h; cases h
  rw [nameB_good s hg.1 hg.2, runesAt_zero] at h
  have hl := fold_length s.data.toList (name_right true _ h)
  rw [← foldS_data, size_list, size_list] at hl
  rw [nameB_good _ (by omega) (by omega), runesAt_zero, foldS_data, runes_fold]
  exact name_fold true _ h

set_option maxHeartbeats 4000000 in
set_option maxRecDepth 100000 in
theorem signFolded_any (s : ByteArray) (w : World) (hs : s.size ≤ 8796093022208) : Calls Try.prog 7 #[.string s] w fun e w' => e = .returned (.bool true) ∧ Ext w w' := by
  have f1 := foldS_twice s
  have f2 := foldS_width s
  have f3 := foldS_same s
  have f4 := foldS_noA s
  have f5 : (foldS s).size ≤ 35184372088832 := by have := foldS_size s; omega
  have f6 := nameB_fold s
  go_enter Try.func7, Try.ntmps7
  go_wp2_with (go_at_call 13; refine (fold_any _ _ (by omega)).mono ?_)
  rintro e w1 ⟨rfl, hx1⟩
  generalize foldS s = t at *
  have F4 := Lib.hid f4
  have F6 := Lib.hid f6
  clear f4 f6
  go_wp2_with (first
    | (go_at_call 13; refine (fold_any _ _ (by omega)).mono ?_; rintro e w' ⟨rfl, hx⟩)
    | (go_at_call 15; refine (width_any _ _ (by omega)).mono ?_; rintro e w' ⟨rfl, hx⟩)
    | (go_at_call 14; refine (same_any _ _ _ (by omega) (by omega)).mono ?_; rintro e w' ⟨rfl, hx⟩))
  rename World => w9
  have hX : Ext w w9 := (by repeat (first | exact Ext.refl _ | assumption | refine Ext.trans ?_ (by assumption) | refine Ext.alloc ?_ _ | refine Ext.drew ?_ | refine Ext.drewN ?_ _))
  clear hx
  go_loopw [] (fun wr => ∃ pos : Nat, wr = w9.iter t pos ∧ ∀ d ∈ runesAt t pos, ¬ (65 ≤ d.1 ∧ d.1 ≤ 90)) (fun wr => t.size - wr.iterPos w9.heap.size)
  case atStart => exact ⟨0, rfl, F4.out⟩
  case round =>
    obtain ⟨pos, rfl, hc⟩ := hrel
    by_cases hp : pos < t.size
    · have hnx : ∀ ty, (Instr.next (.pointer (some ⟨w9.heap.size, 0, none⟩)) true ty).run Try.prog (w9.iter t pos) = _ := fun ty => run_next_any w9 t pos ty hp
      have hwd := decode_wd t pos hp
      rw [runesAt_step t pos hp] at hc
      generalize Utf8.decode t pos = d at *
      obtain ⟨r, wd⟩ := d
      simp only [] at hnx hwd
      have h1 := hc _ (List.mem_cons_self ..)
      have h2 := fun d hd => hc d (List.mem_cons_of_mem _ hd)
      have H2 := Lib.hid h2
      clear hc h2
      have hcases : ((r : Int) < 65) ∨ ((65 : Int) ≤ r ∧ 90 < (r : Int)) := by
        have h1' : ¬ (65 ≤ r ∧ r ≤ 90) := h1
        omega
      clear h1
      rcases hcases with j1 | ⟨j1, j2⟩
      all_goals
        go_wp2
        go_roundw
        case rel => exact ⟨_, rfl, H2.out⟩
        case measure => simp only [iterPos_eq]; omega
    · have hnx : ∀ ty, (Instr.next (.pointer (some ⟨w9.heap.size, 0, none⟩)) true ty).run Try.prog (w9.iter t pos) = _ := fun ty => run_next_end w9 t pos ty hp
      clear hc
      have hE : Ext w (w9.iter t pos) := hX.trans (Ext.iter _ _)
      clear hX
      cases hn : nameB s
      · go_wp2_with (first
          | (go_at_call 12; refine (name_any _ _ (by omega)).mono ?_; rintro e w' ⟨rfl, hx⟩)
          | (go_at_call 3; refine (signRuns_any _).mono ?_; rintro e w' ⟨rfl, hx⟩))
        go_ret
        exact ⟨rfl, by repeat (first | exact Ext.refl _ | assumption | refine Ext.trans ?_ (by assumption))⟩
      · have hn2 := F6.out hn
        go_wp2_with (first
          | (go_at_call 12; refine (name_any _ _ (by omega)).mono ?_; rintro e w' ⟨rfl, hx⟩)
          | (go_at_call 3; refine (signRuns_any _).mono ?_; rintro e w' ⟨rfl, hx⟩))
        go_ret
        exact ⟨rfl, by repeat (first | exact Ext.refl _ | assumption | refine Ext.trans ?_ (by assumption))⟩
end Go.Proofs.Ytpagmogikfkncaa
