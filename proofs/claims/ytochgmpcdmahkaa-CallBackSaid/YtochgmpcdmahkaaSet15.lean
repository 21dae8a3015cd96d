/- Fifteen cells of a block stored one behind the other. No function of the program is named. -/
import Derived.Test.YtochgmpcdmahkaaBlk
namespace Go.Proofs.Ytochgmpcdmahkaa
open Go.RowKit

theorem set15_blk {w : World} {b : Nat} {T : TypeId} {a0 a1 a2 a3 a4 a5 a6 a7 a8 a9 a10 a11 a12 a13 a14 b0 b1 b2 b3 b4 b5 b6 b7 b8 b9 b10 b11 b12 b13 b14 : Value} (h : w.heap[b]? = some (.cells #[a0, a1, a2, a3, a4, a5, a6, a7, a8, a9, a10, a11, a12, a13, a14] T (0, 0))) : (((((((((((((((w.setCell ⟨b, 0, none⟩ b0).setCell ⟨b, 1, none⟩ b1).setCell ⟨b, 2, none⟩ b2).setCell ⟨b, 3, none⟩ b3).setCell ⟨b, 4, none⟩ b4).setCell ⟨b, 5, none⟩ b5).setCell ⟨b, 6, none⟩ b6).setCell ⟨b, 7, none⟩ b7).setCell ⟨b, 8, none⟩ b8).setCell ⟨b, 9, none⟩ b9).setCell ⟨b, 10, none⟩ b10).setCell ⟨b, 11, none⟩ b11).setCell ⟨b, 12, none⟩ b12).setCell ⟨b, 13, none⟩ b13).setCell ⟨b, 14, none⟩ b14).heap[b]? = some (.cells #[b0, b1, b2, b3, b4, b5, b6, b7, b8, b9, b10, b11, b12, b13, b14] T (0, 0)) := by
  have h0 := heap_setCell_same _ _ 0 _ _ b0 h
  rw [show (#[a0, a1, a2, a3, a4, a5, a6, a7, a8, a9, a10, a11, a12, a13, a14] : Array Value).setIfInBounds 0 b0 = #[b0, a1, a2, a3, a4, a5, a6, a7, a8, a9, a10, a11, a12, a13, a14] from rfl] at h0
  have h1 := heap_setCell_same _ _ 1 _ _ b1 h0
  rw [show (#[b0, a1, a2, a3, a4, a5, a6, a7, a8, a9, a10, a11, a12, a13, a14] : Array Value).setIfInBounds 1 b1 = #[b0, b1, a2, a3, a4, a5, a6, a7, a8, a9, a10, a11, a12, a13, a14] from rfl] at h1
  have h2 := heap_setCell_same _ _ 2 _ _ b2 h1
  rw [show (#[b0, b1, a2, a3, a4, a5, a6, a7, a8, a9, a10, a11, a12, a13, a14] : Array Value).setIfInBounds 2 b2 = #[b0, b1, b2, a3, a4, a5, a6, a7, a8, a9, a10, a11, a12, a13, a14] from rfl] at h2
  have h3 := heap_setCell_same _ _ 3 _ _ b3 h2
  rw [show (#[b0, b1, b2, a3, a4, a5, a6, a7, a8, a9, a10, a11, a12, a13, a14] : Array Value).setIfInBounds 3 b3 = #[b0, b1, b2, b3, a4, a5, a6, a7, a8, a9, a10, a11, a12, a13, a14] from rfl] at h3
  have h4 := heap_setCell_same _ _ 4 _ _ b4 h3
  rw [show (#[b0, b1, b2, b3, a4, a5, a6, a7, a8, a9, a10, a11, a12, a13, a14] : Array Value).setIfInBounds 4 b4 = #[b0, b1, b2, b3, b4, a5, a6, a7, a8, a9, a10, a11, a12, a13, a14] from rfl] at h4
  have h5 := heap_setCell_same _ _ 5 _ _ b5 h4
  rw [show (#[b0, b1, b2, b3, b4, a5, a6, a7, a8, a9, a10, a11, a12, a13, a14] : Array Value).setIfInBounds 5 b5 = #[b0, b1, b2, b3, b4, b5, a6, a7, a8, a9, a10, a11, a12, a13, a14] from rfl] at h5
  have h6 := heap_setCell_same _ _ 6 _ _ b6 h5
  rw [show (#[b0, b1, b2, b3, b4, b5, a6, a7, a8, a9, a10, a11, a12, a13, a14] : Array Value).setIfInBounds 6 b6 = #[b0, b1, b2, b3, b4, b5, b6, a7, a8, a9, a10, a11, a12, a13, a14] from rfl] at h6
  have h7 := heap_setCell_same _ _ 7 _ _ b7 h6
  rw [show (#[b0, b1, b2, b3, b4, b5, b6, a7, a8, a9, a10, a11, a12, a13, a14] : Array Value).setIfInBounds 7 b7 = #[b0, b1, b2, b3, b4, b5, b6, b7, a8, a9, a10, a11, a12, a13, a14] from rfl] at h7
  have h8 := heap_setCell_same _ _ 8 _ _ b8 h7
  rw [show (#[b0, b1, b2, b3, b4, b5, b6, b7, a8, a9, a10, a11, a12, a13, a14] : Array Value).setIfInBounds 8 b8 = #[b0, b1, b2, b3, b4, b5, b6, b7, b8, a9, a10, a11, a12, a13, a14] from rfl] at h8
  have h9 := heap_setCell_same _ _ 9 _ _ b9 h8
  rw [show (#[b0, b1, b2, b3, b4, b5, b6, b7, b8, a9, a10, a11, a12, a13, a14] : Array Value).setIfInBounds 9 b9 = #[b0, b1, b2, b3, b4, b5, b6, b7, b8, b9, a10, a11, a12, a13, a14] from rfl] at h9
  have h10 := heap_setCell_same _ _ 10 _ _ b10 h9
  rw [show (#[b0, b1, b2, b3, b4, b5, b6, b7, b8, b9, a10, a11, a12, a13, a14] : Array Value).setIfInBounds 10 b10 = #[b0, b1, b2, b3, b4, b5, b6, b7, b8, b9, b10, a11, a12, a13, a14] from rfl] at h10
  have h11 := heap_setCell_same _ _ 11 _ _ b11 h10
  rw [show (#[b0, b1, b2, b3, b4, b5, b6, b7, b8, b9, b10, a11, a12, a13, a14] : Array Value).setIfInBounds 11 b11 = #[b0, b1, b2, b3, b4, b5, b6, b7, b8, b9, b10, b11, a12, a13, a14] from rfl] at h11
  have h12 := heap_setCell_same _ _ 12 _ _ b12 h11
  rw [show (#[b0, b1, b2, b3, b4, b5, b6, b7, b8, b9, b10, b11, a12, a13, a14] : Array Value).setIfInBounds 12 b12 = #[b0, b1, b2, b3, b4, b5, b6, b7, b8, b9, b10, b11, b12, a13, a14] from rfl] at h12
  have h13 := heap_setCell_same _ _ 13 _ _ b13 h12
  rw [show (#[b0, b1, b2, b3, b4, b5, b6, b7, b8, b9, b10, b11, b12, a13, a14] : Array Value).setIfInBounds 13 b13 = #[b0, b1, b2, b3, b4, b5, b6, b7, b8, b9, b10, b11, b12, b13, a14] from rfl] at h13
  have h14 := heap_setCell_same _ _ 14 _ _ b14 h13
  rw [show (#[b0, b1, b2, b3, b4, b5, b6, b7, b8, b9, b10, b11, b12, b13, a14] : Array Value).setIfInBounds 14 b14 = #[b0, b1, b2, b3, b4, b5, b6, b7, b8, b9, b10, b11, b12, b13, b14] from rfl] at h14
  exact h14
theorem set15_ext {w0 w : World} {b : Nat} {b0 b1 b2 b3 b4 b5 b6 b7 b8 b9 b10 b11 b12 b13 b14 : Value} (h : Ext w0 w) (hb : w0.heap.size ≤ b) : Ext w0 (((((((((((((((w.setCell ⟨b, 0, none⟩ b0).setCell ⟨b, 1, none⟩ b1).setCell ⟨b, 2, none⟩ b2).setCell ⟨b, 3, none⟩ b3).setCell ⟨b, 4, none⟩ b4).setCell ⟨b, 5, none⟩ b5).setCell ⟨b, 6, none⟩ b6).setCell ⟨b, 7, none⟩ b7).setCell ⟨b, 8, none⟩ b8).setCell ⟨b, 9, none⟩ b9).setCell ⟨b, 10, none⟩ b10).setCell ⟨b, 11, none⟩ b11).setCell ⟨b, 12, none⟩ b12).setCell ⟨b, 13, none⟩ b13).setCell ⟨b, 14, none⟩ b14) := by
  repeat (first | with_reducible exact h | with_reducible refine Ext.setCell ?_ hb _)
theorem set15_other {w : World} {b c : Nat} {b0 b1 b2 b3 b4 b5 b6 b7 b8 b9 b10 b11 b12 b13 b14 : Value} (hc : c ≠ b) : (((((((((((((((w.setCell ⟨b, 0, none⟩ b0).setCell ⟨b, 1, none⟩ b1).setCell ⟨b, 2, none⟩ b2).setCell ⟨b, 3, none⟩ b3).setCell ⟨b, 4, none⟩ b4).setCell ⟨b, 5, none⟩ b5).setCell ⟨b, 6, none⟩ b6).setCell ⟨b, 7, none⟩ b7).setCell ⟨b, 8, none⟩ b8).setCell ⟨b, 9, none⟩ b9).setCell ⟨b, 10, none⟩ b10).setCell ⟨b, 11, none⟩ b11).setCell ⟨b, 12, none⟩ b12).setCell ⟨b, 13, none⟩ b13).setCell ⟨b, 14, none⟩ b14).heap[c]? = w.heap[c]? := by
  repeat (first | with_reducible rfl | rw [Below.heap_setCell _ _ _ _ hc])
theorem set15_own {α : Type} {c : α → List Value} {sz : Nat} {te : TypeId} {w : World} {B b : Nat} {v : Value} {xs : List α} {b0 b1 b2 b3 b4 b5 b6 b7 b8 b9 b10 b11 b12 b13 b14 : Value} (h : OwnS c sz te w B v xs) (hb : ∀ a m c', v = .slice (some a) m c' → a.block ≠ b) : OwnS c sz te (((((((((((((((w.setCell ⟨b, 0, none⟩ b0).setCell ⟨b, 1, none⟩ b1).setCell ⟨b, 2, none⟩ b2).setCell ⟨b, 3, none⟩ b3).setCell ⟨b, 4, none⟩ b4).setCell ⟨b, 5, none⟩ b5).setCell ⟨b, 6, none⟩ b6).setCell ⟨b, 7, none⟩ b7).setCell ⟨b, 8, none⟩ b8).setCell ⟨b, 9, none⟩ b9).setCell ⟨b, 10, none⟩ b10).setCell ⟨b, 11, none⟩ b11).setCell ⟨b, 12, none⟩ b12).setCell ⟨b, 13, none⟩ b13).setCell ⟨b, 14, none⟩ b14) B v xs := by
  repeat (first | with_reducible exact h | with_reducible refine OwnS.setO ?_ hb)
end Go.Proofs.Ytochgmpcdmahkaa
