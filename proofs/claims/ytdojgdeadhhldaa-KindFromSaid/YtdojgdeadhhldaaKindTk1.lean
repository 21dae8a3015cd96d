/- The law KindTakes: its closures, and what caught says of them. -/
import Derived.Test.YtdojgdeadhhldaaKindQ
import Derived.Test.YtdojgdeadhhldaaKeep
import Derived.RegionTactic
namespace Go.Proofs.Ytdojgdeadhhldaa
open Go.RowKit

theorem heap_drew (w : World) : w.drew.heap = w.heap := rfl
theorem frozen_of_block {w w' : World} {a : Addr} (h : w'.heap[a.block]? = w.heap[a.block]?) : w'.frozen? a = w.frozen? a := by
  unfold World.frozen?
  rw [h]
/-- A closure that ends, and turns one block at most: nothing was caught. -/
theorem caught_ends (G : Nat) (cap : Array Value) (hcf : ∀ w, (callFunc G cap).run Try.prog w = .ok (.enter G cap) w) (bx : Nat) (X : Option Obj) (w : World) (hbx : bx < w.heap.size)
    (hcl : ∀ w1, Ext w w1 → Calls Try.prog G cap w1 fun e w' => e = .returned (.tuple #[]) ∧ KeepR bx w1 w' ∧ w'.heap[bx]? = X) :
    Calls Try.prog 16 #[.func (.func G) #[] cap] w fun e w' => e = .returned (.tuple #[.agg #[.int .i64 0, .int .i64 0], .bool false]) ∧ KeepR bx w w' ∧ w'.heap[bx]? = X := by
  have hmf : ∀ (fn : Fn) (first cap : Array Value) (w : World), (Instr.makeFunc fn first cap).run Try.prog w = .ok (.func fn first cap) w := fun _ _ _ _ => rfl
  have keep : ∀ x, KeepR bx ((w.alloc (.cells #[.int .i64 0, .int .i64 0] 43)).alloc (.cells #[.bool false] 4)) x →
      x.cell? ⟨w.heap.size, 0, none⟩ = some (.int .i64 0) ∧ x.cell? ⟨w.heap.size, 1, none⟩ = some (.int .i64 0) ∧ x.cell? ⟨w.heap.size + 1, 0, none⟩ = some (.bool false) ∧
      x.frozen? ⟨w.heap.size, 0, none⟩ = false ∧ x.frozen? ⟨w.heap.size, 1, none⟩ = false ∧ x.frozen? ⟨w.heap.size + 1, 0, none⟩ = false ∧ w.heap.size < x.heap.size ∧ w.heap.size + 1 < x.heap.size ∧ KeepR bx w x := by
    intro x h
    have hs := h.size
    simp at hs
    have b0 := h.block w.heap.size (by simp <;> omega) (by omega)
    have b1 := h.block (w.heap.size + 1) (by simp) (by omega)
    refine ⟨?_, ?_, ?_, ?_, ?_, ?_, by omega, by omega, (KeepR.of_ext (((Ext.refl w).alloc _).alloc _)).trans h⟩
    · rw [World.cell?_of_block (a := ⟨w.heap.size, 0, none⟩) b0]; simp [go_sem]
    · rw [World.cell?_of_block (a := ⟨w.heap.size, 1, none⟩) b0]; simp [go_sem]
    · rw [World.cell?_of_block (a := ⟨w.heap.size + 1, 0, none⟩) b1]; simp [go_sem]
    · rw [frozen_of_block (a := ⟨w.heap.size, 0, none⟩) b0]; simp [go_sem]
    · rw [frozen_of_block (a := ⟨w.heap.size, 1, none⟩) b0]; simp [go_sem]
    · rw [frozen_of_block (a := ⟨w.heap.size + 1, 0, none⟩) b1]; simp [go_sem]
  have KEEP := Lib.hid keep
  have hX : Ext w ((w.alloc (.cells #[.int .i64 0, .int .i64 0] 43)).alloc (.cells #[.bool false] 4)) := ((Ext.refl w).alloc _).alloc _
  have HCL := Lib.hid (hcl _ hX)
  clear keep hcl
  go_enter_defers Try.func16, Try.ntmps16
  go_wp2_with (refine HCL.out.mono ?_; rintro e x ⟨rfl, hx, hxX⟩; obtain ⟨r0, r1, r2, s0, s1, s2, z0, z1, hK⟩ := KEEP.out _ hx; clear hx)
  have HXX := Lib.hid hxX
  clear hxX
  have hS : ∀ y : World, y = ((((x.setCell ⟨w.heap.size, 0, none⟩ (.int .i64 0)).setCell ⟨w.heap.size, 1, none⟩ (.int .i64 0)).setCell ⟨w.heap.size + 1, 0, none⟩ (.bool false)).drew) →
      y.cell? ⟨w.heap.size, 0, none⟩ = some (.int .i64 0) ∧ y.cell? ⟨w.heap.size, 1, none⟩ = some (.int .i64 0) ∧ y.cell? ⟨w.heap.size + 1, 0, none⟩ = some (.bool false) ∧
      y.frozen? ⟨w.heap.size, 0, none⟩ = false ∧ y.frozen? ⟨w.heap.size, 1, none⟩ = false ∧ y.frozen? ⟨w.heap.size + 1, 0, none⟩ = false ∧ w.heap.size < y.heap.size ∧ w.heap.size + 1 < y.heap.size ∧ KeepR bx w y ∧ y.heap[bx]? = X := by
    rintro y rfl
    refine ⟨by simp [go_sem, r0, z0], by simp [go_sem, r1, z0], by simp [go_sem, r2, z1], by simp [go_sem, s0], by simp [go_sem, s1], by simp [go_sem, s2], by simp; omega, by simp; omega, ?_, ?_⟩
    · exact ⟨hK.os, hK.tape, hK.output, by simpa using hK.size, fun k hk hne => by
        rw [heap_drew, Below.heap_setCell _ _ _ _ (show k ≠ w.heap.size + 1 by omega), Below.heap_setCell _ _ _ _ (show k ≠ w.heap.size by omega), Below.heap_setCell _ _ _ _ (show k ≠ w.heap.size by omega)]
        exact hK.block k hk hne⟩
    · rw [heap_drew, Below.heap_setCell _ _ _ _ (show bx ≠ w.heap.size + 1 by omega), Below.heap_setCell _ _ _ _ (show bx ≠ w.heap.size by omega), Below.heap_setCell _ _ _ _ (show bx ≠ w.heap.size by omega)]
      exact HXX.out
  have HS := Lib.hid hS
  clear hS
  go_region
  go_wp2
  obtain ⟨y, hy⟩ : ∃ y : World, y = ((((x.setCell ⟨w.heap.size, 0, none⟩ (.int .i64 0)).setCell ⟨w.heap.size, 1, none⟩ (.int .i64 0)).setCell ⟨w.heap.size + 1, 0, none⟩ (.bool false)).drew) := ⟨_, rfl⟩
  rw [← hy]
  obtain ⟨r0, r1, r2, s0, s1, s2, z0, z1, hK, hX⟩ := HS.out y hy
  clear hy
  refine leaves_cons (f := 36) (args := #[.pointer (some ⟨w.heap.size, 0, none⟩), .pointer (some ⟨w.heap.size + 1, 0, none⟩)]) (by simp) (by simp [go_sem]) ?_
  refine (catch_idle w.heap.size (w.heap.size + 1) 0 0 false _ r0 r1 r2 (by omega) s0 s1 s2).mono ?_
  rintro e u' w'' ⟨rfl, rfl, rfl⟩
  have HX2 := Lib.hid hX
  clear hX HXX
  simp [Leaves, settle, results, Try.results16, go_sem, r0, r1, r2, z0, z1]
  refine ⟨⟨hK.os, hK.tape, hK.output, by simpa using hK.size, fun k hk hne => ?_⟩, ?_⟩
  · rw [Below.heap_setCell _ _ _ _ (show k ≠ w.heap.size + 1 by omega), Below.heap_setCell _ _ _ _ (show k ≠ w.heap.size by omega), Below.heap_setCell _ _ _ _ (show k ≠ w.heap.size by omega)]
    exact hK.block k hk hne
  · rw [Below.heap_setCell _ _ _ _ (show bx ≠ w.heap.size + 1 by omega), Below.heap_setCell _ _ _ _ (show bx ≠ w.heap.size by omega), Below.heap_setCell _ _ _ _ (show bx ≠ w.heap.size by omega)]
    exact HX2.out
end Go.Proofs.Ytdojgdeadhhldaa
