/- Package sign and chapter 3's own answer: Name, Width. -/
import Derived.Test.YtpagmogikfkncaaSignA
namespace Go.Proofs.Ytpagmogikfkncaa
open Go.RowKit

def otherB (r : Int) : Bool := (decide (48 ≤ r) && decide (r ≤ 57)) || r == 45 || r == 95 || r == 46
def nameFrom (first : Bool) : List (Nat × Nat) → Bool
  | [] => true
  | d :: t => (letterB (d.1 : Int) || (!first && otherB (d.1 : Int))) && nameFrom false t
def nameB (s : ByteArray) : Bool := decide (1 ≤ s.size) && (decide (s.size ≤ 24) && nameFrom true (runesAt s 0))
theorem nameB_bad (s : ByteArray) (h : ¬ (1 ≤ s.size ∧ s.size ≤ 24)) : nameB s = false := by
  unfold nameB
  by_cases h1 : 1 ≤ s.size
  · have h2 : ¬ s.size ≤ 24 := fun x => h ⟨h1, x⟩
    simp [h2]
  · simp [h1]
theorem nameB_good (s : ByteArray) (h1 : 1 ≤ s.size) (h2 : s.size ≤ 24) : nameB s = nameFrom true (runesAt s 0) := by
  simp [nameB, h1, h2]

set_option maxHeartbeats 2000000 in
set_option maxRecDepth 100000 in
theorem name_any (s : ByteArray) (w : World) (hs : s.size ≤ 9223372036854775807) :
    Calls Try.prog 12 #[.string s] w fun e w' => e = .returned (.bool (nameB s)) ∧ Ext w w' := by
  by_cases hgood : 1 ≤ s.size ∧ s.size ≤ 24
  · obtain ⟨g1, g2⟩ := hgood
    have hN := nameB_good s g1 g2
    generalize nameB s = q at *
    have HN := Lib.hid hN
    have hi1 : decide ((s.size : Int) < 1) = false := by simp; omega
    have hi2 : decide ((24 : Int) < (s.size : Int)) = false := by simp; omega
    clear hN
    go_enter Try.func12, Try.ntmps12
    go_wp2
    go_loopw [] (fun wr => ∃ pos : Nat, wr = w.iter s pos ∧ nameFrom (decide (pos = 0)) (runesAt s pos) = q) (fun wr => s.size - wr.iterPos w.heap.size)
    case atStart => exact ⟨0, rfl, HN.out.symm⟩
    case round =>
      obtain ⟨pos, rfl, hc⟩ := hrel
      by_cases hp : pos < s.size
      · have hnx : ∀ ty, (Instr.next (.pointer (some ⟨w.heap.size, 0, none⟩)) true ty).run Try.prog (w.iter s pos) = _ := fun ty => run_next_any w s pos ty hp
        have hwd := decode_wd s pos hp
        have hmx := decode_max s pos
        rw [runesAt_step s pos hp] at hc
        simp only [nameFrom] at hc
        generalize Utf8.decode s pos = d at *
        obtain ⟨r, wd⟩ := d
        simp only [] at hc hnx hwd hmx
        have hp2 : ¬ pos + wd = 0 := by omega
        have HC := Lib.hid hc
        have HP2 := Lib.hid hp2
        clear hc hp2
        by_cases hp0 : pos = 0
        · have hpz : ((pos : Int) == 0) = true := by rw [beq_iff_eq]; omega
          have HZ := Lib.hid hp0
          clear hp0
          cases hL : letterB (r : Int)
          · go_wp2_with (go_at_call 18; refine (letter_any _ _).mono ?_; rintro e w' ⟨rfl, rfl⟩)
            go_ret
            refine ⟨?_, Ext.iter _ _⟩
            have := HC.out
            rw [hL, decide_eq_true HZ.out] at this
            simp at this
            rw [this]
            rfl
          · go_wp2_with (go_at_call 18; refine (letter_any _ _).mono ?_; rintro e w' ⟨rfl, rfl⟩)
            go_roundw
            case rel =>
              refine ⟨_, rfl, ?_⟩
              have := HC.out
              rw [hL] at this
              rw [decide_eq_false HP2.out]
              simpa using this
            case measure => simp only [iterPos_eq]; omega
        · have hpz : ((pos : Int) == 0) = false := by rw [beq_eq_false_iff_ne]; omega
          cases hL : letterB (r : Int)
          · go_wp2_with (go_at_call 18; refine (letter_any _ _).mono ?_; rintro e w' ⟨rfl, rfl⟩)
            all_goals first
              | (go_roundw
                 case rel =>
                  refine ⟨_, rfl, ?_⟩
                  have := HC.out
                  rw [hL, decide_eq_false hp0] at this
                  have ho : otherB (r : Int) = true := by unfold otherB; simp_all <;> omega
                  rw [ho] at this
                  rw [decide_eq_false HP2.out]
                  simpa using this
                 case measure => simp only [iterPos_eq]; omega)
              | (go_ret
                 refine ⟨?_, Ext.iter _ _⟩
                 have := HC.out
                 rw [hL, decide_eq_false hp0] at this
                 have ho : otherB (r : Int) = false := by unfold otherB; simp_all <;> omega
                 rw [ho] at this
                 simp at this
                 rw [this]
                 rfl)
          · go_wp2_with (go_at_call 18; refine (letter_any _ _).mono ?_; rintro e w' ⟨rfl, rfl⟩)
            go_roundw
            case rel =>
              refine ⟨_, rfl, ?_⟩
              have := HC.out
              rw [hL] at this
              rw [decide_eq_false HP2.out]
              simpa using this
            case measure => simp only [iterPos_eq]; omega
      · have hnx : ∀ ty, (Instr.next (.pointer (some ⟨w.heap.size, 0, none⟩)) true ty).run Try.prog (w.iter s pos) = _ := fun ty => run_next_end w s pos ty hp
        rw [runesAt_end s pos hp] at hc
        have HC := Lib.hid hc
        clear hc
        go_wp2
        go_ret
        refine ⟨?_, Ext.iter _ _⟩
        have := HC.out
        simp only [nameFrom] at this
        rw [← this]
        rfl
  · have hN := nameB_bad s hgood
    rw [hN]
    by_cases h1 : 1 ≤ s.size
    · have h2 : ¬ s.size ≤ 24 := fun x => hgood ⟨h1, x⟩
      have hi1 : decide ((s.size : Int) < 1) = false := by simp; omega
      have hi2 : decide ((24 : Int) < (s.size : Int)) = true := by simp; omega
      clear hgood hN
      go_enter Try.func12, Try.ntmps12
      go_wp2
      go_ret
      exact ⟨rfl, Ext.refl _⟩
    · have hi1 : decide ((s.size : Int) < 1) = true := by simp; omega
      clear hgood hN
      go_enter Try.func12, Try.ntmps12
      go_wp2
      go_ret
      exact ⟨rfl, Ext.refl _⟩
theorem empty_no (s : ByteArray) (h : 1 ≤ s.size) : s.toList.isEmpty = false ∧ ¬ s.toList = [] := by
  have hne : ¬ s.toList = [] := by
    rw [ByteArray.toList_eq]
    intro h0
    have h2 := congrArg List.length h0
    rw [Array.length_toList, List.length_nil] at h2
    have h3 : s.data.size = s.size := rfl
    omega
  exact ⟨by simpa using hne, hne⟩
theorem empty_yes (s : ByteArray) (h : s.size = 0) : s.toList.isEmpty = true ∧ s.toList = [] := by
  have hne : s.toList = [] := by
    rw [ByteArray.toList_eq]
    have h3 : s.data.size = 0 := h
    rw [Array.toList_eq_nil_iff]
    exact Array.eq_empty_of_size_eq_zero h3
  exact ⟨by simpa using hne, hne⟩

set_option maxHeartbeats 2000000 in
set_option maxRecDepth 100000 in
theorem refName_any (s : ByteArray) (w : World) (hs : s.size ≤ 9223372036854775807) :
    Calls Try.prog 20 #[.string s] w fun e w' => e = .returned (.bool (nameB s)) ∧ Ext w w' := by
  by_cases hgood : 1 ≤ s.size ∧ s.size ≤ 24
  · obtain ⟨g1, g2⟩ := hgood
    have hN := nameB_good s g1 g2
    generalize nameB s = q at *
    have HN := Lib.hid hN
    obtain ⟨hi1, hi0⟩ := empty_no s (by omega)
    have hi2 : decide ((24 : Int) < (s.size : Int)) = false := by simp; omega
    clear hN
    go_enter Try.func20, Try.ntmps20
    go_wp2
    go_loopw [] (fun wr => ∃ pos : Nat, wr = w.iter s pos ∧ nameFrom (decide (pos = 0)) (runesAt s pos) = q) (fun wr => s.size - wr.iterPos w.heap.size)
    case atStart => exact ⟨0, rfl, HN.out.symm⟩
    case round =>
      obtain ⟨pos, rfl, hc⟩ := hrel
      by_cases hp : pos < s.size
      · have hnx : ∀ ty, (Instr.next (.pointer (some ⟨w.heap.size, 0, none⟩)) true ty).run Try.prog (w.iter s pos) = _ := fun ty => run_next_any w s pos ty hp
        have hwd := decode_wd s pos hp
        have hmx := decode_max s pos
        rw [runesAt_step s pos hp] at hc
        simp only [nameFrom] at hc
        generalize Utf8.decode s pos = d at *
        obtain ⟨r, wd⟩ := d
        simp only [] at hc hnx hwd hmx
        have hp2 : ¬ pos + wd = 0 := by omega
        have HC := Lib.hid hc
        have HP2 := Lib.hid hp2
        clear hc hp2
        by_cases hp0 : pos = 0
        · have hpz : ((pos : Int) == 0) = true := by rw [beq_iff_eq]; omega
          have HZ := Lib.hid hp0
          clear hp0
          cases hL : letterB (r : Int)
          · go_wp2_with (go_at_call 19; refine (refLetter_any _ _).mono ?_; rintro e w' ⟨rfl, rfl⟩)
            go_ret
            refine ⟨?_, Ext.iter _ _⟩
            have := HC.out
            rw [hL, decide_eq_true HZ.out] at this
            simp at this
            rw [this]
            rfl
          · go_wp2_with (go_at_call 19; refine (refLetter_any _ _).mono ?_; rintro e w' ⟨rfl, rfl⟩)
            go_roundw
            case rel =>
              refine ⟨_, rfl, ?_⟩
              have := HC.out
              rw [hL] at this
              rw [decide_eq_false HP2.out]
              simpa using this
            case measure => simp only [iterPos_eq]; omega
        · have hpz : ((pos : Int) == 0) = false := by rw [beq_eq_false_iff_ne]; omega
          cases hL : letterB (r : Int)
          · go_wp2_with (go_at_call 19; refine (refLetter_any _ _).mono ?_; rintro e w' ⟨rfl, rfl⟩)
            all_goals first
              | (go_roundw
                 case rel =>
                  refine ⟨_, rfl, ?_⟩
                  have := HC.out
                  rw [hL, decide_eq_false hp0] at this
                  have ho : otherB (r : Int) = true := by unfold otherB; simp_all <;> omega
                  rw [ho] at this
                  rw [decide_eq_false HP2.out]
                  simpa using this
                 case measure => simp only [iterPos_eq]; omega)
              | (go_ret
                 refine ⟨?_, Ext.iter _ _⟩
                 have := HC.out
                 rw [hL, decide_eq_false hp0] at this
                 have ho : otherB (r : Int) = false := by unfold otherB; simp_all <;> omega
                 rw [ho] at this
                 simp at this
                 rw [this]
                 rfl)
          · go_wp2_with (go_at_call 19; refine (refLetter_any _ _).mono ?_; rintro e w' ⟨rfl, rfl⟩)
            go_roundw
            case rel =>
              refine ⟨_, rfl, ?_⟩
              have := HC.out
              rw [hL] at this
              rw [decide_eq_false HP2.out]
              simpa using this
            case measure => simp only [iterPos_eq]; omega
      · have hnx : ∀ ty, (Instr.next (.pointer (some ⟨w.heap.size, 0, none⟩)) true ty).run Try.prog (w.iter s pos) = _ := fun ty => run_next_end w s pos ty hp
        rw [runesAt_end s pos hp] at hc
        have HC := Lib.hid hc
        clear hc
        go_wp2
        go_ret
        refine ⟨?_, Ext.iter _ _⟩
        have := HC.out
        simp only [nameFrom] at this
        rw [← this]
        rfl
  · have hN := nameB_bad s hgood
    rw [hN]
    by_cases h1 : 1 ≤ s.size
    · have h2 : ¬ s.size ≤ 24 := fun x => hgood ⟨h1, x⟩
      obtain ⟨hi1, hi0⟩ := empty_no s (by omega)
      have hi2 : decide ((24 : Int) < (s.size : Int)) = true := by simp; omega
      clear hgood hN
      go_enter Try.func20, Try.ntmps20
      go_wp2
      go_ret
      exact ⟨rfl, Ext.refl _⟩
    · obtain ⟨hi1, hi0⟩ := empty_yes s (by omega)
      clear hgood hN
      go_enter Try.func20, Try.ntmps20
      go_wp2
      go_ret
      exact ⟨rfl, Ext.refl _⟩
end Go.Proofs.Ytpagmogikfkncaa
