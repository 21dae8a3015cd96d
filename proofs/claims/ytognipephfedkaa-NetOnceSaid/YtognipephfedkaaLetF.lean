/- The document's own answer: RightEntry, RightLetter. -/
import Derived.Test.YtognipephfedkaaLetE
namespace Go.Proofs.Ytognipephfedkaa
open Go.RowKit

set_option maxHeartbeats 4000000 in
set_option maxRecDepth 100000 in
theorem refEntry_any (x : Ent) (b t : Int) (w : World) : Calls Try.prog 27 #[.agg #[.int .i64 x.term, .int .i64 x.members, .string x.data], .int .i64 b, .int .i64 t] w fun e w' => RetB (FitsP x b t) e ∧ Ext w w' := by
  have hs := str_eq_iff x.data ⟨#[]⟩
  have h0 : (⟨#[]⟩ : ByteArray).toList = [] := by rw [ByteArray.toList_eq]
  rw [h0] at hs
  have HS := Lib.hid hs
  clear hs h0
  go_enter Try.func27, Try.ntmps27
  go_wp2
  all_goals
    go_ret
    refine ⟨⟨_, rfl, ?_⟩, (by repeat (first | exact Ext.refl _ | assumption | refine Ext.trans ?_ (by assumption) | refine Ext.alloc ?_ _ | refine Ext.drew ?_ | refine Ext.drewN ?_ _))⟩
    have hs := HS.out
    clear HS
    simp only [FitsP]
    grind

theorem str_isE (s : ByteArray) (h : ¬ s = ⟨#[]⟩) : s.toList.isEmpty = false := by
  have := str_ne s ⟨#[]⟩ h
  have h0 : (⟨#[]⟩ : ByteArray).toList = [] := by rw [ByteArray.toList_eq]
  rw [h0] at this
  cases hs : s.toList with
  | nil => rw [hs] at this; cases this
  | cons x xs => rfl
/-- What all letters share. -/
def BaseP (m : Lt) : Prop := (0 ≤ m.fr ∧ m.fr ≤ 6) ∧ (0 ≤ m.to ∧ m.to ≤ 6) ∧ m.fr ≠ m.to ∧ (1 ≤ m.te ∧ m.te ≤ 1099511627776) ∧ (0 ≤ m.ix ∧ m.ix ≤ 1099511627776) ∧ (0 ≤ m.at_ ∧ m.at_ ≤ m.te) ∧ (0 ≤ m.co ∧ m.co ≤ 1099511627776)
end Go.Proofs.Ytognipephfedkaa
