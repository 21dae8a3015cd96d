/- The law's caught: what a call panics with. -/
import Derived.Test.YtdojgdeadhhldaaKindP
import Derived.Defers
namespace Go.Proofs.Ytdojgdeadhhldaa
open Go.RowKit

theorem catch_panicking (p q : Nat) (a c : Int) (x0 x1 : Int) (y : Bool) (older : List PanicEntry) (w : World) (h0 : w.cell? ⟨p, 0, none⟩ = some (.int .i64 x0)) (h1 : w.cell? ⟨p, 1, none⟩ = some (.int .i64 x1)) (h2 : w.cell? ⟨q, 0, none⟩ = some (.bool y)) (hpq : p ≠ q)
    (z0 : w.frozen? ⟨p, 0, none⟩ = false) (z1 : w.frozen? ⟨p, 1, none⟩ = false) (z2 : w.frozen? ⟨q, 0, none⟩ = false) :
    CallsD Try.prog 36 #[.pointer (some ⟨p, 0, none⟩), .pointer (some ⟨q, 0, none⟩)] (.panicking ({ v := .iface 43 (.agg #[.int .i64 a, .int .i64 c]), recovered := false } :: older)) w fun e u' w' =>
      e = .returned (.tuple #[]) ∧ u' = .panicking ({ v := .iface 43 (.agg #[.int .i64 a, .int .i64 c]), recovered := true } :: older) ∧ w' = ((w.setCell ⟨p, 0, none⟩ (.int .i64 a)).setCell ⟨p, 1, none⟩ (.int .i64 c)).setCell ⟨q, 0, none⟩ (.bool true) := by
  have qa : ∀ w : World, (Instr.typeAssert (.iface 43 (.agg #[.int .i64 a, .int .i64 c])) 20 43 true).run Try.prog w = .ok (.tuple #[.agg #[.int .i64 a, .int .i64 c], .bool true]) w := fun _ => by kernel_rfl
  refine callsD_of_wpS Try.func36 rfl fun c₀ cs hu => ?_
  apply wpS_region
  simp [wpOpsS, go_sem, recoverD, hu, Try.ntmps36, Exit.thenS, qa, h0, h1, h2, z0, z1, z2, hpq, Ne.symm hpq, bodyPostS, results, Try.results36]
theorem catch_idle (p q : Nat) (x0 x1 : Int) (y : Bool) (w : World) (h0 : w.cell? ⟨p, 0, none⟩ = some (.int .i64 x0)) (h1 : w.cell? ⟨p, 1, none⟩ = some (.int .i64 x1)) (h2 : w.cell? ⟨q, 0, none⟩ = some (.bool y)) (hpq : p ≠ q)
    (z0 : w.frozen? ⟨p, 0, none⟩ = false) (z1 : w.frozen? ⟨p, 1, none⟩ = false) (z2 : w.frozen? ⟨q, 0, none⟩ = false) :
    CallsD Try.prog 36 #[.pointer (some ⟨p, 0, none⟩), .pointer (some ⟨q, 0, none⟩)] .returning w fun e u' w' =>
      e = .returned (.tuple #[]) ∧ u' = .returning ∧ w' = ((w.setCell ⟨p, 0, none⟩ (.int .i64 0)).setCell ⟨p, 1, none⟩ (.int .i64 0)).setCell ⟨q, 0, none⟩ (.bool false) := by
  have qa : ∀ w : World, (Instr.typeAssert .nilIface 20 43 true).run Try.prog w = .ok (.tuple #[.agg #[.int .i64 0, .int .i64 0], .bool false]) w := fun _ => by kernel_rfl
  refine callsD_of_wpS Try.func36 rfl fun c₀ cs hu => ?_
  apply wpS_region
  simp [wpOpsS, go_sem, recoverD, hu, Try.ntmps36, Exit.thenS, qa, h0, h1, h2, z0, z1, z2, hpq, Ne.symm hpq, bodyPostS, results, Try.results36]
  cases c₀
  simp_all

theorem caught_keep (w : World) {x : World} (h : Ext ((w.alloc (.cells #[.int .i64 0, .int .i64 0] 43)).alloc (.cells #[.bool false] 4)) x) :
    x.cell? ⟨w.heap.size, 0, none⟩ = some (.int .i64 0) ∧ x.cell? ⟨w.heap.size, 1, none⟩ = some (.int .i64 0) ∧ x.cell? ⟨w.heap.size + 1, 0, none⟩ = some (.bool false) ∧
    x.frozen? ⟨w.heap.size, 0, none⟩ = false ∧ x.frozen? ⟨w.heap.size, 1, none⟩ = false ∧ x.frozen? ⟨w.heap.size + 1, 0, none⟩ = false ∧ w.heap.size < x.heap.size ∧ w.heap.size + 1 < x.heap.size ∧ Ext w x := by
  obtain ⟨hc, hf⟩ := Ext.bc h
  have hs := h.size
  refine ⟨?_, ?_, ?_, ?_, ?_, ?_, ?_, ?_, ?_⟩
  rotate_right 3
  · simp at hs; omega
  · simp at hs; omega
  · exact Ext.trans (((Ext.refl w).alloc _).alloc _) h
  all_goals first
    | (rw [hc _ _ (by simp <;> omega)]; simp [go_sem])
    | (rw [hf _ _ (by simp <;> omega)]; simp [go_sem])

theorem caught_panics (G : Nat) (cap : Array Value) (hcf : ∀ w, (callFunc G cap).run Try.prog w = .ok (.enter G cap) w) (a c : Int) (w : World) (hcl : ∀ w1, Ext w w1 → Calls Try.prog G cap w1 fun e w' => e = .panicked (wrongP a c) ∧ Ext w1 w') :
    Calls Try.prog 16 #[.func (.func G) #[] cap] w fun e w' => e = .returned (.tuple #[.agg #[.int .i64 a, .int .i64 c], .bool true]) ∧ Ext w w' := by
  have hmf : ∀ (fn : Fn) (first cap : Array Value) (w : World), (Instr.makeFunc fn first cap).run Try.prog w = .ok (.func fn first cap) w := fun _ _ _ _ => rfl
  go_enter_defers Try.func16, Try.ntmps16
  go_wp2_with (refine (hcl _ (by repeat (first | exact Ext.refl _ | assumption | refine Ext.trans ?_ (by assumption) | refine Ext.alloc ?_ _ | refine Ext.drew ?_ | refine Ext.drewN ?_ _))).mono ?_; rintro e x ⟨rfl, hx⟩; obtain ⟨r0, r1, r2, s0, s1, s2, z0, z1, hX⟩ := caught_keep w hx; clear hx)
  refine leaves_cons (f := 36) (args := #[.pointer (some ⟨w.heap.size, 0, none⟩), .pointer (some ⟨w.heap.size + 1, 0, none⟩)]) (by simp) (by simp [go_sem]) ?_
  refine (catch_panicking w.heap.size (w.heap.size + 1) a c _ _ _ [] _ r0 r1 r2 (by omega) s0 s1 s2).mono ?_
  rintro e u' w'' ⟨rfl, rfl, rfl⟩
  simp [Leaves, settle, results, Try.results16, go_sem, r0, r1, r2, z0, z1]
  repeat (first | with_reducible exact hX | with_reducible refine Ext.setCell ?_ (by simp) _)
end Go.Proofs.Ytdojgdeadhhldaa
