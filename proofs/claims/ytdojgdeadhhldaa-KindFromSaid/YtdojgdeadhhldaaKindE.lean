/- Package kind: Flat. -/
import Derived.Test.YtdojgdeadhhldaaKindD
namespace Go.Proofs.Ytdojgdeadhhldaa
open Go.RowKit

/-- Flat: the values, in memory of the call's own; or none. -/
def FlatRes (w : World) (L : List V) (D : Nat) (e : Ending) (w' : World) : Prop :=
  ∃ out, e = .returned (.tuple #[out, .int .i64 (if flatOk 0 L.length 0 D then 0 else 2)]) ∧ OwnS V.cells 6 32 w' w.heap.size out (if flatOk 0 L.length 0 D then L else []) ∧ (flatOk 0 L.length 0 D = false → out = .slice none 0 0) ∧ Ext w w'
set_option maxHeartbeats 1000000 in
theorem thingFlat_any {v : Value} {L : List V} {D : Nat} (w : World) (h : TellsB w w.heap.size v L D) : Calls Try.prog 23 #[.agg #[v]] w (FlatRes w L D) := by
  have hnil : OwnS V.cells 6 32 (w.alloc (.cells #[v] 25)) w.heap.size (.slice none 0 0) [] := World.ownsRow_nil _ _ _ _
  have hcall := flat_any h (w.alloc (.cells #[v] 25)) w.heap.size (.slice none 0 0) [] 0 0 rfl ((Ext.refl w).alloc _) (Nat.le_refl _) (by simp) hnil (by simp) (by simp)
  have hX : Ext w (w.alloc (.cells #[v] 25)) := (Ext.refl w).alloc _
  simp only [List.length_nil] at hcall
  have hform := h.form
  unfold FlatRes
  cases hok : flatOk 0 L.length 0 D
  · rw [hok] at hcall
    rcases hform with rfl | ⟨t, x, rfl⟩
    all_goals
      go_enter Try.func23, Try.ntmps23
      go_wp2_with (go_at_call 39; refine hcall.mono ?_; rintro e z9 ⟨out', rfl, _, ho1, hz9⟩; obtain rfl := ho1 rfl)
      go_ret2
      exact ⟨_, rfl, World.ownsRow_nil _ _ _ _, rfl, Below.trans hX hz9⟩
  · rw [hok] at hcall
    rcases hform with rfl | ⟨t, x, rfl⟩
    all_goals
      go_enter Try.func23, Try.ntmps23
      go_wp2_with (go_at_call 39; refine hcall.mono ?_; rintro e z9 ⟨out', rfl, ho1, _, hz9⟩; have ho2 := ho1 rfl)
      go_ret2
      exact ⟨_, rfl, ho2, Below.trans hX hz9⟩
end Go.Proofs.Ytdojgdeadhhldaa
