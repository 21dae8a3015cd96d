/- Package letter: piece, Right. -/
import Derived.Test.YtognipephfedkaaLetC
namespace Go.Proofs.Ytognipephfedkaa
open Go.RowKit

def PieceP (m : Lt) : Prop := m.ix ≠ 0 ∧ m.at_ ≠ 0 ∧ (1 ≤ m.me ∧ m.me ≤ 127) ∧ (1 ≤ m.sz ∧ m.sz ≤ 65536) ∧ (0 ≤ m.off ∧ m.off ≤ m.sz - 1) ∧ 1 ≤ m.data.size ∧ m.data.size ≤ 600 ∧ (m.data.size : Int) ≤ m.sz - m.off
theorem within_is (n lo hi : Int) (b : Bool) (h : decide (lo ≤ n ∧ n ≤ hi) = b) (w : World) : Calls Try.prog 43 #[.int .i64 n, .int .i64 lo, .int .i64 hi] w fun e w' => e = .returned (.bool b) ∧ w = w' := h ▸ lwithin_any n lo hi w

set_option maxHeartbeats 4000000 in
set_option maxRecDepth 100000 in
theorem lpiece_any (m : Lt) (ev : Value) (w : World) (hev : ev.oneCell' = true) : Calls Try.prog 45 #[m.agg ev] w fun e w' => RetB (PieceP m) e ∧ Ext w w' := by
  obtain ⟨kind, fr, to, te, ix, at_, co, me, off, sz, yes, data⟩ := m
  simp only [Lt.agg]
  have hX : ∀ o, Ext w (w.alloc o) := fun o => (Ext.refl w).alloc o
  by_cases hsz : 1 ≤ sz ∧ sz ≤ 65536
  · obtain ⟨hs1, hs2⟩ := hsz
    by_cases hoff : 0 ≤ off ∧ off ≤ sz - 1
    · obtain ⟨ho1, ho2⟩ := hoff
      go_enter Try.func45, Try.ntmps45
      go_wp2_with (go_at_call 43; refine (lwithin_any _ _ _ _).mono ?_; rintro e z ⟨rfl, rfl⟩)
      all_goals
        go_ret
        refine ⟨⟨_, rfl, ?_⟩, hX _⟩
        simp only [PieceP]
        grind
    · have hd : decide (0 ≤ off ∧ off ≤ sz - 1) = false := decide_eq_false hoff
      go_enter Try.func45, Try.ntmps45
      go_wp2_with (first
        | (go_at_call 43; with_reducible refine (within_is off 0 (sz - 1) false hd _).mono ?_; rintro e z ⟨rfl, rfl⟩)
        | (go_at_call 43; refine (lwithin_any _ _ _ _).mono ?_; rintro e z ⟨rfl, rfl⟩))
      all_goals
        go_ret
        refine ⟨⟨_, rfl, ?_⟩, hX _⟩
        simp only [PieceP]
        grind
  · have hd : decide (1 ≤ sz ∧ sz ≤ 65536) = false := decide_eq_false hsz
    go_enter Try.func45, Try.ntmps45
    go_wp2_with (first
      | (go_at_call 43; with_reducible refine (within_is sz 1 65536 false hd _).mono ?_; rintro e z ⟨rfl, rfl⟩)
      | (go_at_call 43; refine (lwithin_any _ _ _ _).mono ?_; rintro e z ⟨rfl, rfl⟩))
    all_goals
      go_ret
      refine ⟨⟨_, rfl, ?_⟩, hX _⟩
      simp only [PieceP]
      grind
end Go.Proofs.Ytognipephfedkaa
