/- few: with what comes of it known ahead. -/
import Derived.Test.YteenkbfmlnpmlaaCmdF
import Derived.Test.YteenkbfmlnpmlaaCmdX
namespace Go.Proofs.Yteenkbfmlnpmlaa
open Go.RowKit

/-- few, with what comes of it known ahead. -/
theorem few_ex (c : Cm) (a : Option Addr) (n cap : Nat) (ls : List Ln) (hn : ls.length = n) (hc : n ≤ cap) (hz : LnIn ls) (w : World) (hl : SlS Ln.cells 4 w (.slice a n cap) ls) : ∃ m ls', ls'.length = m ∧ m ≤ 30 ∧ m ≤ cap ∧ SlS Ln.cells 4 w (.slice a m cap) ls' ∧ LnIn ls' ∧ ∀ z, Calls Try.prog 18 #[c.agg (.slice a n cap)] z fun e w' => e = .returned (c.agg (.slice a m cap)) ∧ Ext z w' := by
  by_cases h : n ≤ 30
  · exact ⟨n, ls, hn, h, hc, hl, hz, fun z => few_le _ _ _ _ _ _ _ _ _ _ _ _ _ _ a n cap h z⟩
  · have := SlS.cut Ln.len hl 30 (by omega) cap
    exact ⟨30, ls.take 30, by rw [List.length_take]; omega, Nat.le_refl _, by omega, this, fun x hx => hz x (List.mem_of_mem_take hx), fun z => few_gt _ _ _ _ _ _ _ _ _ _ _ _ _ _ a n cap (by omega) hc z⟩
end Go.Proofs.Yteenkbfmlnpmlaa
