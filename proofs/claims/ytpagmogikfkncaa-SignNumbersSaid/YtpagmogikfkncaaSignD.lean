/- Package sign and chapter 3's own answer: Digits. -/
import Derived.Test.YtpagmogikfkncaaSignC
namespace Go.Proofs.Ytpagmogikfkncaa
open Go.RowKit

set_option maxHeartbeats 2000000 in
set_option maxRecDepth 100000 in
theorem digits_any (s : ByteArray) (w : World) (hs : s.size ≤ 9223372036854775807) :
    Calls Try.prog 17 #[.string s] w fun e w' => e = .returned (.tuple #[.int .i64 (digB s).1, .bool (digB s).2]) ∧ Ext w w' := by
  by_cases hgood : 1 ≤ s.size ∧ s.size ≤ 18
  · obtain ⟨g1, g2⟩ := hgood
    have hi1 : decide ((s.size : Int) < 1) = false := by simp; omega
    have hi2 : decide ((18 : Int) < (s.size : Int)) = false := by simp; omega
    by_cases hz : s.size = 1 ∨ byte0 s ≠ 48
    · have hq : digB s = digGo (runesAt s 0) 0 := by rw [digB, if_pos ⟨⟨g1, g2⟩, hz⟩]
      generalize digB s = q at *
      have HQ := Lib.hid hq
      have h0 : 0 < s.size := g1
      have hlt : (decide ((1 : Int) < (s.size : Int)) = false) ∨ (decide ((1 : Int) < (s.size : Int)) = true ∧ (((s[0]'h0).toNat : Int) == 48) = false) := by
        by_cases h1 : s.size = 1
        · left; simp; omega
        · right
          refine ⟨by simp; omega, ?_⟩
          rcases hz with hz | hz
          · exact absurd hz h1
          · rw [beq_eq_false_iff_ne, byte0_at s h0]
            omega
      clear hq hz
      rcases hlt with hi3 | ⟨hi3, hi4⟩
      all_goals
        go_enter Try.func17, Try.ntmps17
        go_wp2
        go_loopw [4] (fun nv wr => ∃ pos a : Nat, nv = .int .i64 (a : Int) ∧ wr = w.iter s pos ∧ digGo (runesAt s pos) a = q ∧ a < 10 ^ pos) (fun _ wr => s.size - wr.iterPos w.heap.size)
        case atStart => exact ⟨0, 0, rfl, rfl, HQ.out.symm, by decide⟩
        case round =>
          obtain ⟨pos, a, rfl, rfl, hc, hap⟩ := hrel
          by_cases hp : pos < s.size
          · have hnx : ∀ ty, (Instr.next (.pointer (some ⟨w.heap.size, 0, none⟩)) true ty).run Try.prog (w.iter s pos) = _ := fun ty => run_next_any w s pos ty hp
            have hwd := decode_wd s pos hp
            have hmx := decode_max s pos
            have ha := pow_17 a pos hap (by omega)
            rw [runesAt_step s pos hp] at hc
            generalize Utf8.decode s pos = d at *
            obtain ⟨r, wd⟩ := d
            simp only [] at hnx hwd hmx
            have HC := Lib.hid hc
            have HA := Lib.hid hap
            clear hc hap
            by_cases hr : 48 ≤ r ∧ r ≤ 57
            · have hr1 : (48 : Int) ≤ (r : Int) := by omega
              have hr2 : (r : Int) ≤ 57 := by omega
              have HR := Lib.hid hr
              clear hr
              go_wp2
              go_roundw
              case rel =>
                refine ⟨_, 10 * a + (r - 48), ?_, rfl, (digGo_go (r, wd) _ a HR.out).symm.trans HC.out, pow_step a (r - 48) pos _ HA.out (by omega) (by omega)⟩
                have e : ((10 * a + (r - 48) : Nat) : Int) = 10 * (a : Int) + ((r : Int) - 48) := by omega
                rw [e] <;> simp [Int.mul_comm]
              case measure => simp only [iterPos_eq]; omega
            · have hr1 : (r : Int) < 48 ∨ (48 ≤ (r : Int) ∧ 57 < (r : Int)) := by omega
              have HR := Lib.hid hr
              clear hr
              rcases hr1 with hr1 | ⟨hr1, hr2⟩
              all_goals
                go_wp2
                go_ret2
                have := HC.out
                rw [digGo_stop (r, wd) _ a HR.out] at this
                rw [← this]
                exact ⟨rfl, Ext.iter _ _⟩
          · have hnx : ∀ ty, (Instr.next (.pointer (some ⟨w.heap.size, 0, none⟩)) true ty).run Try.prog (w.iter s pos) = _ := fun ty => run_next_end w s pos ty hp
            rw [runesAt_end s pos hp] at hc
            have HC := Lib.hid hc
            clear hc
            go_wp2
            go_ret2
            rw [← HC.out]
            exact ⟨rfl, Ext.iter _ _⟩
    · have hq : digB s = (0, false) := by rw [digB, if_neg (fun h => hz h.2)]
      rw [hq]
      have h0 : 0 < s.size := g1
      have h1 : ¬ s.size = 1 := fun h => hz (.inl h)
      have h2 : byte0 s = 48 := Decidable.byContradiction fun h => hz (.inr h)
      have hi3 : decide ((1 : Int) < (s.size : Int)) = true := by simp; omega
      have hi4 : (((s[0]'h0).toNat : Int) == 48) = true := by rw [beq_iff_eq, byte0_at s h0, h2]; rfl
      clear hq hz h1 h2
      go_enter Try.func17, Try.ntmps17
      go_wp2
      go_ret2
      exact ⟨rfl, Ext.refl _⟩
  · have hq : digB s = (0, false) := by rw [digB, if_neg (fun h => hgood h.1)]
    rw [hq]
    by_cases h1 : 1 ≤ s.size
    · have h2 : ¬ s.size ≤ 18 := fun x => hgood ⟨h1, x⟩
      have hi1 : decide ((s.size : Int) < 1) = false := by simp; omega
      have hi2 : decide ((18 : Int) < (s.size : Int)) = true := by simp; omega
      clear hgood hq
      go_enter Try.func17, Try.ntmps17
      go_wp2
      go_ret2
      exact ⟨rfl, Ext.refl _⟩
    · have hi1 : decide ((s.size : Int) < 1) = true := by simp; omega
      clear hgood hq
      go_enter Try.func17, Try.ntmps17
      go_wp2
      go_ret2
      exact ⟨rfl, Ext.refl _⟩

set_option maxHeartbeats 2000000 in
set_option maxRecDepth 100000 in
theorem refDigits_any (s : ByteArray) (w : World) (hs : s.size ≤ 9223372036854775807) :
    Calls Try.prog 24 #[.string s] w fun e w' => e = .returned (.tuple #[.int .i64 (digB s).1, .bool (digB s).2]) ∧ Ext w w' := by
  by_cases hgood : 1 ≤ s.size ∧ s.size ≤ 18
  · obtain ⟨g1, g2⟩ := hgood
    obtain ⟨hi1, hi0⟩ := empty_no s (by omega)
    have hi2 : decide ((18 : Int) < (s.size : Int)) = false := by simp; omega
    by_cases hz : s.size = 1 ∨ byte0 s ≠ 48
    · have hq : digB s = digGo (runesAt s 0) 0 := by rw [digB, if_pos ⟨⟨g1, g2⟩, hz⟩]
      generalize digB s = q at *
      have HQ := Lib.hid hq
      have h0 : 0 < s.size := g1
      have hlt : (decide ((1 : Int) < (s.size : Int)) = false) ∨ (decide ((1 : Int) < (s.size : Int)) = true ∧ (((s[0]'h0).toNat : Int) == 48) = false) := by
        by_cases h1 : s.size = 1
        · left; simp; omega
        · right
          refine ⟨by simp; omega, ?_⟩
          rcases hz with hz | hz
          · exact absurd hz h1
          · rw [beq_eq_false_iff_ne, byte0_at s h0]
            omega
      clear hq hz
      rcases hlt with hi3 | ⟨hi3, hi4⟩
      all_goals
        go_enter Try.func24, Try.ntmps24
        go_wp2
        go_loopw [4] (fun nv wr => ∃ pos a : Nat, nv = .int .i64 (a : Int) ∧ wr = w.iter s pos ∧ digGo (runesAt s pos) a = q ∧ a < 10 ^ pos) (fun _ wr => s.size - wr.iterPos w.heap.size)
        case atStart => exact ⟨0, 0, rfl, rfl, HQ.out.symm, by decide⟩
        case round =>
          obtain ⟨pos, a, rfl, rfl, hc, hap⟩ := hrel
          by_cases hp : pos < s.size
          · have hnx : ∀ ty, (Instr.next (.pointer (some ⟨w.heap.size, 0, none⟩)) true ty).run Try.prog (w.iter s pos) = _ := fun ty => run_next_any w s pos ty hp
            have hwd := decode_wd s pos hp
            have hmx := decode_max s pos
            have ha := pow_17 a pos hap (by omega)
            rw [runesAt_step s pos hp] at hc
            generalize Utf8.decode s pos = d at *
            obtain ⟨r, wd⟩ := d
            simp only [] at hnx hwd hmx
            have HC := Lib.hid hc
            have HA := Lib.hid hap
            clear hc hap
            by_cases hr : 48 ≤ r ∧ r ≤ 57
            · have hr1 : (48 : Int) ≤ (r : Int) := by omega
              have hr2 : (r : Int) ≤ 57 := by omega
              have HR := Lib.hid hr
              clear hr
              go_wp2
              go_roundw
              case rel =>
                refine ⟨_, 10 * a + (r - 48), ?_, rfl, (digGo_go (r, wd) _ a HR.out).symm.trans HC.out, pow_step a (r - 48) pos _ HA.out (by omega) (by omega)⟩
                have e : ((10 * a + (r - 48) : Nat) : Int) = 10 * (a : Int) + ((r : Int) - 48) := by omega
                rw [e] <;> simp [Int.mul_comm]
              case measure => simp only [iterPos_eq]; omega
            · have hr1 : (r : Int) < 48 ∨ (48 ≤ (r : Int) ∧ 57 < (r : Int)) := by omega
              have HR := Lib.hid hr
              clear hr
              rcases hr1 with hr1 | ⟨hr1, hr2⟩
              all_goals
                go_wp2
                go_ret2
                have := HC.out
                rw [digGo_stop (r, wd) _ a HR.out] at this
                rw [← this]
                exact ⟨rfl, Ext.iter _ _⟩
          · have hnx : ∀ ty, (Instr.next (.pointer (some ⟨w.heap.size, 0, none⟩)) true ty).run Try.prog (w.iter s pos) = _ := fun ty => run_next_end w s pos ty hp
            rw [runesAt_end s pos hp] at hc
            have HC := Lib.hid hc
            clear hc
            go_wp2
            go_ret2
            rw [← HC.out]
            exact ⟨rfl, Ext.iter _ _⟩
    · have hq : digB s = (0, false) := by rw [digB, if_neg (fun h => hz h.2)]
      rw [hq]
      have h0 : 0 < s.size := g1
      have h1 : ¬ s.size = 1 := fun h => hz (.inl h)
      have h2 : byte0 s = 48 := Decidable.byContradiction fun h => hz (.inr h)
      have hi3 : decide ((1 : Int) < (s.size : Int)) = true := by simp; omega
      have hi4 : (((s[0]'h0).toNat : Int) == 48) = true := by rw [beq_iff_eq, byte0_at s h0, h2]; rfl
      clear hq hz h1 h2
      go_enter Try.func24, Try.ntmps24
      go_wp2
      go_ret2
      exact ⟨rfl, Ext.refl _⟩
  · have hq : digB s = (0, false) := by rw [digB, if_neg (fun h => hgood h.1)]
    rw [hq]
    by_cases h1 : 1 ≤ s.size
    · have h2 : ¬ s.size ≤ 18 := fun x => hgood ⟨h1, x⟩
      obtain ⟨hi1, hi0⟩ := empty_no s (by omega)
      have hi2 : decide ((18 : Int) < (s.size : Int)) = true := by simp; omega
      clear hgood hq
      go_enter Try.func24, Try.ntmps24
      go_wp2
      go_ret2
      exact ⟨rfl, Ext.refl _⟩
    · obtain ⟨hi1, hi0⟩ := empty_yes s (by omega)
      clear hgood hq
      go_enter Try.func24, Try.ntmps24
      go_wp2
      go_ret2
      exact ⟨rfl, Ext.refl _⟩
end Go.Proofs.Ytpagmogikfkncaa
