/- Blocks known whole, and what a call's rows keep. No function of the program is named. -/
import Derived.Test.YteenkbfmlnpmlaaFlat
import Derived.Test.YteenkbfmlnpmlaaKeep
namespace Go.Proofs.Yteenkbfmlnpmlaa
open Go.RowKit

theorem OwnS.keepR {α : Type} {c : α → List Value} {sz : Nat} {te : TypeId} {w w' : World} {B r : Nat} {v : Value} {xs : List α} (h : OwnS c sz te w B v xs) (hk : KeepR r w w') (hr : r < B) : OwnS c sz te w' B v xs := by
  obtain ⟨h1, h2⟩ := h
  refine ⟨h1, ?_⟩
  rcases h2 with h2 | ⟨g, cap, cur, rfl, h3, h4, h5⟩
  · exact .inl h2
  · exact .inr ⟨g, cap, cur, rfl, h3, (hk.block g (Array.getElem?_eq_some_iff.1 h4).1 (by omega)).trans h4, h5⟩
theorem blkG {w : World} {b : Nat} {C : Array Value} {T : TypeId} (h : w.heap[b]? = some (.cells C T (0, 0))) (o : Nat) (v : Value) (hv : C[o]? = some v) : w.cell? ⟨b, o, none⟩ = some v ∧ w.frozen? ⟨b, o, none⟩ = false := by
  constructor
  · simp [World.cell?, h, hv]
  · simp [World.frozen?, h]
theorem blk_lt {w : World} {b : Nat} {o : Obj} (h : w.heap[b]? = some o) : b < w.heap.size := (Array.getElem?_eq_some_iff.1 h).1
theorem ext_blk {a z : World} {b : Nat} {o : Obj} (h : Ext a z) (H : a.heap[b]? = some o) : z.heap[b]? = some o := (Below.block h b (blk_lt H)).trans H
theorem below_blk {a z : World} {b B : Nat} {o : Obj} (h : Below B a z) (hb : b < B) (H : a.heap[b]? = some o) : z.heap[b]? = some o := (Below.block h b hb).trans H
theorem keep_blk {a z : World} {r b : Nat} {o : Obj} (h : KeepR r a z) (H : a.heap[b]? = some o) (hne : b ≠ r) : z.heap[b]? = some o := (h.block b (blk_lt H) hne).trans H
theorem alloc_blk {a : World} {b : Nat} {o o' : Obj} (H : a.heap[b]? = some o) : (a.alloc o').heap[b]? = some o := (Below.heap_alloc a o' b (blk_lt H)).trans H
theorem new_blk (a : World) (o : Obj) : (a.alloc o).heap[a.heap.size]? = some o := heap_alloc_new a o
theorem set_blk {a : World} {b r i : Nat} {o : Obj} {u : Value} (H : a.heap[b]? = some o) (hne : b ≠ r) : (a.setCell ⟨r, i, none⟩ u).heap[b]? = some o := (Below.heap_setCell a ⟨r, i, none⟩ u b hne).trans H
theorem own_keepE {w w' : World} {B e s n : Nat} {u : Value} {xs : List Value} (h : w.ownsRow B e s u n xs) (hk : ∀ a m c, u = .slice (some a) m c → w'.heap[a.block]? = w.heap[a.block]?) : w'.ownsRow B e s u n xs := by
  obtain ⟨h1, h2⟩ := h
  refine ⟨h1, ?_⟩
  rcases h2 with h2 | ⟨gg, cc, cur, rfl, h3, h4, h5⟩
  · exact .inl h2
  · exact .inr ⟨gg, cc, cur, rfl, h3, (hk _ _ _ rfl).trans h4, h5⟩
theorem own_blkE {w : World} {B e s n : Nat} {u : Value} {xs : List Value} (h : w.ownsRow B e s u n xs) : ∀ a m c, u = .slice (some a) m c → a.block < w.heap.size ∧ B ≤ a.block := by
  rintro a m c rfl
  rcases h.2 with ⟨h0, _⟩ | ⟨gg, cc, cur, h0, hB, h2, _⟩
  · cases h0
  · simp only [Value.slice.injEq, Option.some.injEq] at h0
    rw [h0.1]
    exact ⟨(Array.getElem?_eq_some_iff.1 h2).1, hB⟩
theorem OwnS.setO {α : Type} {c : α → List Value} {sz : Nat} {te : TypeId} {w : World} {B b o : Nat} {v u : Value} {xs : List α} (h : OwnS c sz te w B v xs) (hb : ∀ a m c', v = .slice (some a) m c' → a.block ≠ b) : OwnS c sz te (w.setCell ⟨b, o, none⟩ u) B v xs :=
  own_keepE h fun a m c' he => Below.heap_setCell _ _ _ _ (hb a m c' he)
theorem alloc_cell {w z : World} {C : Array Value} {T : TypeId} (h : Ext (w.alloc (.cells C T)) z) (j : Nat) (v : Value) (hv : C[j]? = some v) : z.cell? ⟨w.heap.size, j, none⟩ = some v := by
  rw [h.cell (p := ⟨w.heap.size, j, none⟩) (by simp)]
  simp [go_sem, hv]
theorem SlR.nilC (w : World) (B size c : Nat) (a : Option Addr) : SlR w B size (.slice a 0 c) 0 [] := ⟨by simp, Nat.zero_le _, a, c, rfl, .inl rfl⟩
end Go.Proofs.Yteenkbfmlnpmlaa
