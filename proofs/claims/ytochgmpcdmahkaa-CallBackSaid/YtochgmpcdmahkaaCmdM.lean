/- The document's own answer to chapter 9: Get, any bytes. (Written by genCmdM.py.) -/
import Derived.Test.YtochgmpcdmahkaaCmdL1
import Derived.Test.YtochgmpcdmahkaaCmdL2

import Derived.Test.YtochgmpcdmahkaaCmdJ
namespace Go.Proofs.Ytochgmpcdmahkaa
open Go.RowKit

def RGet (w : World) (bs : List UInt8) (e : Ending) (w' : World) : Prop :=
  (cgE bs ≠ 0 ∧ e = .returned (.tuple #[Cm.z.agg (.slice none 0 0), .int .i64 (cgE bs)]) ∧ Ext w w') ∨
  (cgE bs = 0 ∧ (cgR bs).1.Ok ∧ ∃ a cap, e = .returned (.tuple #[(cgR bs).1.agg (.slice a (cgR bs).2.1.length cap), .int .i64 0]) ∧ OwnS Ln.cells 4 107 w' w.heap.size (.slice a (cgR bs).2.1.length cap) (cgR bs).2.1 ∧ Ext w w')
theorem rget_k {v : Value} {bs : List UInt8} {w : World} (hr : Rd8 w v bs) (hb : bs.length ≤ 140737488355328) {k0 : Int} {s0 : RS} (ek : rNum bs ⟨0, 0⟩ = (k0, s0)) (hi : ¬ 1024 < bs.length) (he : s0.err = 0) (hk : 1 ≤ k0 ∧ k0 ≤ 8) : Calls Try.prog 26 #[v] w fun e w' =>
    ((rEnd bs (gR bs k0 s0).2.2).err ≠ 0 ∧ e = .returned (.tuple #[Cm.z.agg (.slice none 0 0), .int .i64 (rEnd bs (gR bs k0 s0).2.2).err]) ∧ Ext w w') ∨
    ((rEnd bs (gR bs k0 s0).2.2).err = 0 ∧ ∃ a cap, e = .returned (.tuple #[(gR bs k0 s0).1.agg (.slice a (gR bs k0 s0).2.1.length cap), .int .i64 0]) ∧ OwnS Ln.cells 4 107 w' w.heap.size (.slice a (gR bs k0 s0).2.1.length cap) (gR bs k0 s0).2.1 ∧ Ext w w') := by
  have hk' : k0 = 1 ∨ k0 = 2 ∨ k0 = 3 ∨ k0 = 4 ∨ k0 = 5 ∨ k0 = 6 ∨ k0 = 7 ∨ k0 = 8 := by omega
  clear hk
  rcases hk' with rfl | rfl | rfl | rfl | rfl | rfl | rfl | rfl
  · by_cases hn : (rEnd bs (gR bs 1 s0).2.2).err = 0
    · exact (rget_1 hr hb rfl rfl ek hi he hn).mono fun e w' ⟨h1, h2⟩ => .inr ⟨hn, none, 0, h1, nil_own, h2⟩
    · exact (rget_1no hr hb rfl rfl ek hi he hn).mono fun e w' ⟨h1, h2⟩ => .inl ⟨hn, h1, h2⟩
  · by_cases hn : (rEnd bs (gR bs 2 s0).2.2).err = 0
    · exact (rget_2 hr hb rfl ek hi he hn).mono fun e w' ⟨h1, h2⟩ => .inr ⟨hn, none, 0, h1, nil_own, h2⟩
    · exact (rget_2no hr hb rfl ek hi he hn).mono fun e w' ⟨h1, h2⟩ => .inl ⟨hn, h1, h2⟩
  · by_cases hn : (rEnd bs (gR bs 3 s0).2.2).err = 0
    · exact (rget_3 hr hb rfl rfl rfl ek hi he hn).mono fun e w' ⟨h1, h2⟩ => .inr ⟨hn, none, 0, h1, nil_own, h2⟩
    · exact (rget_3no hr hb rfl rfl rfl ek hi he hn).mono fun e w' ⟨h1, h2⟩ => .inl ⟨hn, h1, h2⟩
  · have h1 : gR bs 4 s0 = ((⟨4, (tR bs s0).1, 0, ⟨#[]⟩, 0, 0, 0, 0, (dR bs (tR bs s0).2).1.1, (dR bs (tR bs s0).2).1.2.1, (dR bs (tR bs s0).2).1.2.2, ⟨#[]⟩, 0, 0⟩ : Cm), lnsAt bs (lcR bs (dR bs (tR bs s0).2).2).2 (lcR bs (dR bs (tR bs s0).2).2).1, lnSt bs (lcR bs (dR bs (tR bs s0).2).2).2 (lcR bs (dR bs (tR bs s0).2).2).1) := rfl
    rw [h1]
    simp only []
    rw [lnsAt_len]
    exact rget_4 hr hb rfl rfl rfl ek hi he
  · by_cases hn : (rEnd bs (gR bs 5 s0).2.2).err = 0
    · exact (rget_5 hr hb rfl rfl rfl rfl ek hi he hn).mono fun e w' ⟨h1, h2⟩ => .inr ⟨hn, none, 0, h1, nil_own, h2⟩
    · exact (rget_5no hr hb rfl rfl rfl rfl ek hi he hn).mono fun e w' ⟨h1, h2⟩ => .inl ⟨hn, h1, h2⟩
  · by_cases hn : (rEnd bs (gR bs 6 s0).2.2).err = 0
    · exact (rget_6 hr hb ek hi he hn).mono fun e w' ⟨h1, h2⟩ => .inr ⟨hn, none, 0, h1, nil_own, h2⟩
    · exact (rget_6no hr hb ek hi he hn).mono fun e w' ⟨h1, h2⟩ => .inl ⟨hn, h1, h2⟩
  · by_cases hn : (rEnd bs (gR bs 7 s0).2.2).err = 0
    · exact (rget_7 hr hb rfl ek hi he hn).mono fun e w' ⟨h1, h2⟩ => .inr ⟨hn, none, 0, h1, nil_own, h2⟩
    · exact (rget_7no hr hb rfl ek hi he hn).mono fun e w' ⟨h1, h2⟩ => .inl ⟨hn, h1, h2⟩
  · by_cases hn : (rEnd bs (gR bs 8 s0).2.2).err = 0
    · exact (rget_8 hr hb rfl ek hi he hn).mono fun e w' ⟨h1, h2⟩ => .inr ⟨hn, none, 0, h1, nil_own, h2⟩
    · exact (rget_8no hr hb rfl ek hi he hn).mono fun e w' ⟨h1, h2⟩ => .inl ⟨hn, h1, h2⟩
theorem rget_any {v : Value} {bs : List UInt8} {w : World} (hr : Rd8 w v bs) (hb : bs.length ≤ 140737488355328) : Calls Try.prog 26 #[v] w (RGet w bs) := by
  by_cases hi : 1024 < bs.length
  · have e : cgE bs = 2 := by unfold cgE; rw [if_pos hi]
    refine (rget_big hr hb hi).mono fun e w' h => .inl ?_
    rw [‹cgE bs = 2›]
    exact ⟨by decide, h⟩
  · obtain ⟨k0, s1, e1⟩ : ∃ k s, rNum bs ⟨0, 0⟩ = (k, s) := ⟨_, _, rfl⟩
    have e1' : cgS bs = (k0, s1) := e1
    by_cases he : s1.err = 0
    · by_cases hk : k0 < 1 ∨ 8 < k0
      · have e : cgE bs = 17 := by unfold cgE; rw [if_neg hi, e1', if_neg (by simpa using he), if_pos hk]
        refine (rget_kind hr hb e1 hi he hk).mono fun e w' h => .inl ?_
        rw [‹cgE bs = 17›]
        exact ⟨by decide, h⟩
      · have hk1 : 1 ≤ k0 ∧ k0 ≤ 8 := by omega
        have hcr : cgR bs = gR bs k0 s1 := by unfold cgR; rw [e1']
        have e : cgE bs = (rEnd bs (gR bs k0 s1).2.2).err := by unfold cgE; rw [if_neg hi, e1', if_neg (by simpa using he), if_neg hk, hcr]
        have hok : (gR bs k0 s1).1.Ok := by unfold Cm.Ok; rw [gR_kd _ _ _ hk1]; exact hk1
        refine (rget_k hr hb e1 hi he hk1).mono fun e w' h => ?_
        unfold RGet
        rw [‹cgE bs = _›, hcr]
        rcases h with h | ⟨h1, h2⟩
        · exact .inl h
        · exact .inr ⟨h1, hok, h2⟩
    · have e : cgE bs = s1.err := by unfold cgE; rw [if_neg hi, e1', if_pos he]
      refine (rget_err hr hb e1 hi he).mono fun e w' h => .inl ?_
      rw [‹cgE bs = s1.err›]
      exact ⟨he, h⟩
end Go.Proofs.Ytochgmpcdmahkaa
