/- Package command: Flat. (Written by genCmdC.py.) -/
import Derived.Test.YtochgmpcdmahkaaCmdB
import Derived.Test.YtochgmpcdmahkaaSet15
import Derived.RegionTactic
import Derived.Outline
namespace Go.Proofs.Ytochgmpcdmahkaa
open Go.RowKit

theorem OwnS.drewS {α : Type} {c : α → List Value} {sz : Nat} {te : TypeId} {w : World} {B : Nat} {v : Value} {xs : List α} (h : OwnS c sz te w B v xs) : OwnS c sz te w.drew B v xs := h
theorem drew_blk {w : World} {b : Nat} {o : Obj} (h : w.heap[b]? = some o) : w.drew.heap[b]? = some o := h
theorem flat_keep (w : World) (v : Value) {x : World} (h : Ext ((w.alloc (.cells #[v] 52)).alloc (.cells #[.int .i64 0, .string ⟨#[]⟩, .int .i64 0, .string ⟨#[]⟩, .int .i64 0, .int .i64 0, .int .i64 0, .int .i64 0, .int .i64 0, .int .i64 0, .int .i64 0, .slice none 0 0, .string ⟨#[]⟩, .int .i64 0, .int .i64 0] 33)) x) : x.cell? ⟨w.heap.size, 0, none⟩ = some v ∧ Hid (x.heap[w.heap.size + 1]? = some (.cells #[.int .i64 0, .string ⟨#[]⟩, .int .i64 0, .string ⟨#[]⟩, .int .i64 0, .int .i64 0, .int .i64 0, .int .i64 0, .int .i64 0, .int .i64 0, .int .i64 0, .slice none 0 0, .string ⟨#[]⟩, .int .i64 0, .int .i64 0] 33 (0, 0))) ∧ w.heap.size + 1 < x.heap.size ∧ Ext w x := by
  have hs := h.size
  simp at hs
  have H := ext_blk h (new_blk (w.alloc (.cells #[v] 52)) (.cells #[.int .i64 0, .string ⟨#[]⟩, .int .i64 0, .string ⟨#[]⟩, .int .i64 0, .int .i64 0, .int .i64 0, .int .i64 0, .int .i64 0, .int .i64 0, .int .i64 0, .slice none 0 0, .string ⟨#[]⟩, .int .i64 0, .int .i64 0] 33))
  have e : (w.alloc (.cells #[v] 52)).heap.size = w.heap.size + 1 := by simp
  rw [e] at H
  refine ⟨?_, Lib.hid H, by omega, Ext.trans (((Ext.refl w).alloc _).alloc _) h⟩
  rw [h.cell (p := ⟨w.heap.size, 0, none⟩) (by simp; omega)]
  simp [go_sem]
theorem flat_ret (tm : Array Value) (W : World) (b : Nat) (v0 v1 v2 v3 v4 v5 v6 v7 v8 v9 v10 v11 v12 v13 v14 : Value) (ok : Bool) (ht : tm[2]? = some (.pointer (some ⟨b, 0, none⟩))) (h3 : tm[3]? = some (.bool ok)) (h : W.heap[b]? = some (.cells #[v0, v1, v2, v3, v4, v5, v6, v7, v8, v9, v10, v11, v12, v13, v14] 33 (0, 0))) :
    (results Try.f21 tm).run Try.prog W = .ok (.tuple #[.agg #[v0, v1, v2, v3, v4, v5, v6, v7, v8, v9, v10, v11, v12, v13, v14], .bool ok]) W := by
  obtain ⟨c0, _⟩ := blkG h 0 _ rfl
  obtain ⟨c1, _⟩ := blkG h 1 _ rfl
  obtain ⟨c2, _⟩ := blkG h 2 _ rfl
  obtain ⟨c3, _⟩ := blkG h 3 _ rfl
  obtain ⟨c4, _⟩ := blkG h 4 _ rfl
  obtain ⟨c5, _⟩ := blkG h 5 _ rfl
  obtain ⟨c6, _⟩ := blkG h 6 _ rfl
  obtain ⟨c7, _⟩ := blkG h 7 _ rfl
  obtain ⟨c8, _⟩ := blkG h 8 _ rfl
  obtain ⟨c9, _⟩ := blkG h 9 _ rfl
  obtain ⟨c10, _⟩ := blkG h 10 _ rfl
  obtain ⟨c11, _⟩ := blkG h 11 _ rfl
  obtain ⟨c12, _⟩ := blkG h 12 _ rfl
  obtain ⟨c13, _⟩ := blkG h 13 _ rfl
  obtain ⟨c14, _⟩ := blkG h 14 _ rfl
  simp [results, Try.results21, go_sem, ht, h3, c0, c1, c2, c3, c4, c5, c6, c7, c8, c9, c10, c11, c12, c13, c14]
end Go.Proofs.Ytochgmpcdmahkaa
