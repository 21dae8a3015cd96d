/- Package letter: Right. -/
import Derived.Test.YtognipephfedkaaLetD
namespace Go.Proofs.Ytognipephfedkaa
open Go.RowKit

/-- May a letter be? -/
def RightP (m : Lt) (es : List Ent) : Prop :=
  NamedP m es.length ∧ (0 ≤ m.fr ∧ m.fr ≤ 6) ∧ (0 ≤ m.to ∧ m.to ≤ 6) ∧ m.fr ≠ m.to ∧ (1 ≤ m.te ∧ m.te ≤ 1099511627776) ∧ (0 ≤ m.ix ∧ m.ix ≤ 1099511627776) ∧ (0 ≤ m.at_ ∧ m.at_ ≤ m.te) ∧ (0 ≤ m.co ∧ m.co ≤ 1099511627776) ∧
  (m.kind = 1 → (m.at_ = 0 ↔ m.ix = 0)) ∧ (m.kind = 3 → (m.at_ = 0 ↔ m.ix = 0) ∧ EntP m es) ∧ (m.kind = 5 → PieceP m) ∧ (m.kind = 6 → m.ix ≠ 0 ∧ 0 ≤ m.off ∧ m.off ≤ 65536)

set_option maxHeartbeats 16000000 in
set_option maxRecDepth 100000 in
theorem lright_any (m : Lt) (a : Option Addr) (c : Nat) (es : List Ent) (w : World) (hl : SlS Ent.cells 3 w (.slice a es.length c) es) : Calls Try.prog 28 #[m.agg (.slice a es.length c)] w fun e w' => RetB (RightP m es) e ∧ Ext w w' := by
  obtain ⟨kind, fr, to, te, ix, at_, co, me, off, sz, yes, data⟩ := m
  have hnm := fun z => named_any ⟨kind, fr, to, te, ix, at_, co, me, off, sz, yes, data⟩ a es.length c z
  have hpc := fun z => lpiece_any ⟨kind, fr, to, te, ix, at_, co, me, off, sz, yes, data⟩ (.slice a es.length c) z rfl
  have hen := fun z (hz : Ext w z) (h1 : 1 ≤ te) (h2 : te ≤ 1099511627776) (h3 : 0 ≤ ix) (h4 : ix ≤ 1099511627776) (h5 : 0 ≤ at_) (h6 : at_ ≤ te) (h7 : at_ = 0 ↔ ix = 0) => lentries_any ⟨kind, fr, to, te, ix, at_, co, me, off, sz, yes, data⟩ a c es z (hl.ext hz) h1 h2 h3 h4 h5 h6 h7
  simp only [Lt.agg] at hnm hpc hen ⊢
  have HN := Lib.hid hnm
  have HP := Lib.hid hpc
  have HE := Lib.hid hen
  have hX : ∀ o, Ext w (w.alloc o) := fun o => (Ext.refl w).alloc o
  clear hnm hpc hen hl
  go_enter Try.func28, Try.ntmps28
  go_wp2_with (first
    | (go_at_call 42; refine (HN.out _).mono ?_; rintro e z ⟨⟨q, rfl, hq⟩, hz⟩; have HQ := Lib.hid hq; clear hq; have z0 : z.cell? ⟨w.heap.size, 0, none⟩ = some (.int .i64 kind) := (by rw [hz.cell (by simp)]; simp [go_sem]); have z1 : z.cell? ⟨w.heap.size, 1, none⟩ = some (.int .i64 fr) := (by rw [hz.cell (by simp)]; simp [go_sem]); have z2 : z.cell? ⟨w.heap.size, 2, none⟩ = some (.int .i64 to) := (by rw [hz.cell (by simp)]; simp [go_sem]); have z3 : z.cell? ⟨w.heap.size, 3, none⟩ = some (.int .i64 te) := (by rw [hz.cell (by simp)]; simp [go_sem]); have z4 : z.cell? ⟨w.heap.size, 4, none⟩ = some (.int .i64 ix) := (by rw [hz.cell (by simp)]; simp [go_sem]); have z5 : z.cell? ⟨w.heap.size, 5, none⟩ = some (.int .i64 at_) := (by rw [hz.cell (by simp)]; simp [go_sem]); have z6 : z.cell? ⟨w.heap.size, 6, none⟩ = some (.int .i64 co) := (by rw [hz.cell (by simp)]; simp [go_sem]); have z7 : z.cell? ⟨w.heap.size, 7, none⟩ = some (.int .i64 me) := (by rw [hz.cell (by simp)]; simp [go_sem]); have z8 : z.cell? ⟨w.heap.size, 8, none⟩ = some (.int .i64 off) := (by rw [hz.cell (by simp)]; simp [go_sem]); have z9 : z.cell? ⟨w.heap.size, 9, none⟩ = some (.int .i64 sz) := (by rw [hz.cell (by simp)]; simp [go_sem]); have z10 : z.cell? ⟨w.heap.size, 10, none⟩ = some (.bool yes) := (by rw [hz.cell (by simp)]; simp [go_sem]); have z11 : z.cell? ⟨w.heap.size, 11, none⟩ = some (.string data) := (by rw [hz.cell (by simp)]; simp [go_sem]); have z12 : z.cell? ⟨w.heap.size, 12, none⟩ = some (.slice a es.length c) := (by rw [hz.cell (by simp)]; simp [go_sem]); have hZ : Ext w z := (hX _).trans hz; clear hz)
    | (go_at_call 43; refine (lwithin_any _ _ _ _).mono ?_; rintro e z' ⟨rfl, rfl⟩)
    | (go_at_call 44; refine (HE.out _ hZ (by grind) (by grind) (by grind) (by grind) (by grind) (by grind) (by grind)).mono ?_; rintro e y ⟨⟨q2, rfl, hq2⟩, hy⟩; have HQ2 := Lib.hid hq2; clear hq2)
    | (go_at_call 45; refine (HP.out _).mono ?_; rintro e y ⟨⟨q2, rfl, hq2⟩, hy⟩; have HQ2 := Lib.hid hq2; clear hq2))
  all_goals
    go_ret
    refine ⟨⟨_, rfl, ?_⟩, by first | exact hZ | exact hZ.trans hy⟩
    have hq := HQ.out
    try have hq2 := HQ2.out
    clear HQ HN HP HE z0 z1 z2 z3 z4 z5 z6 z7 z8 z9 z10 z11 z12 hZ hX
    simp only [RightP]
    grind
end Go.Proofs.Ytognipephfedkaa
