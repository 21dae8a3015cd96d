/- The law SignWidths of package impostlaw3: the walk. -/
import Derived.Test.YtpagmogikfkncaaSignG
namespace Go.Proofs.Ytpagmogikfkncaa
open Go.RowKit

set_option maxHeartbeats 4000000 in
set_option maxRecDepth 100000 in
theorem signWidths_any (s : ByteArray) (w : World) (hs : s.size ≤ 1048576) : Calls Try.prog 9 #[.string s] w fun e w' => e = .returned (.bool true) ∧ Ext w w' := by
  have hq : widthN s = (runesAt s 0).length := rfl
  have hcw := cut_whole s
  have hwl : widthN s ≤ s.size := runesAt_len s 0
  have hrf : (Conv.runesFrom s s.size 0 #[]).size = widthN s := by
    rw [runesFrom_size s s.size 0 #[] (by omega), hq]
    simp
  generalize widthN s = q at *
  have HQ := Lib.hid hq
  have HCW := Lib.hid hcw
  have HRF := Lib.hid hrf
  clear hq hcw hrf
  go_enter Try.func9, Try.ntmps9
  go_wp2
  go_loopw [3] (fun n wr => ∃ pos k : Nat, n = .int .i64 (k : Int) ∧ wr = w.iter s pos ∧ k + (runesAt s pos).length = q ∧ k ≤ pos) (fun _ wr => s.size - wr.iterPos w.heap.size)
  case atStart => exact ⟨0, 0, rfl, rfl, by rw [HQ.out, Nat.zero_add], Nat.le_refl _⟩
  case round =>
    obtain ⟨pos, k, rfl, rfl, hc, hkp⟩ := hrel
    by_cases hp : pos < s.size
    · have hnx : ∀ ty, (Instr.next (.pointer (some ⟨w.heap.size, 0, none⟩)) true ty).run Try.prog (w.iter s pos) = _ := fun ty => run_next_any w s pos ty hp
      have hwd := decode_wd s pos hp
      rw [runesAt_step s pos hp, List.length_cons] at hc
      generalize Utf8.decode s pos = d at *
      obtain ⟨r, wd⟩ := d
      simp only [] at hc hnx hwd
      have HC := Lib.hid hc
      clear hc
      go_wp2
      go_roundw
      case rel => exact ⟨_, k + 1, by simp, rfl, by have := HC.out; omega, by omega⟩
      case measure => simp only [iterPos_eq]; omega
    · have hnx : ∀ ty, (Instr.next (.pointer (some ⟨w.heap.size, 0, none⟩)) true ty).run Try.prog (w.iter s pos) = _ := fun ty => run_next_end w s pos ty hp
      rw [runesAt_end s pos hp] at hc
      simp only [List.length_nil, Nat.add_zero] at hc
      subst hc
      have hE : Ext w (w.iter s pos) := Ext.iter _ _
      have hws : widthN s = k := HQ.out.symm
      go_wp2_with (first
        | (go_at_call 15; refine (width_any _ _ (by omega)).mono ?_; rintro e w' ⟨rfl, hx⟩)
        | (go_at_call 16; refine (cut_any _ _ _ (by omega)).mono ?_; rintro e w' ⟨rfl, hx⟩)
        | (go_at_call 3; refine (signRuns_any _).mono ?_; rintro e w' ⟨rfl, hx⟩))
      rename World => w9
      have hX : Ext w w9 := (by repeat (first | exact Ext.refl _ | assumption | refine Ext.trans ?_ (by assumption) | refine Ext.alloc ?_ _ | refine Ext.drew ?_ | refine Ext.drewN ?_ _))
      clear hx
      rw [run_runes_of_string w9 9 34 21 s Try.underlying9 Try.underlying34 Try.underlying21 (by rw [HRF.out]; omega), HRF.out]
      simp only [Result.andThen]
      rw [Oper.upon_value]
      have hX2 := fun o => (hX.drew).alloc o
      have hcw := HCW.out
      go_wp2_with (first
        | (go_at_call 16; refine (cut_any _ _ _ (by omega)).mono ?_; rintro e w' ⟨rfl, hx⟩)
        | (go_at_call 3; refine (signRuns_any _).mono ?_; rintro e w' ⟨rfl, hx⟩))
      go_ret
      exact ⟨rfl, by repeat (first | exact Ext.refl _ | assumption | exact hX2 _ | refine Ext.trans ?_ (by assumption))⟩
end Go.Proofs.Ytpagmogikfkncaa
