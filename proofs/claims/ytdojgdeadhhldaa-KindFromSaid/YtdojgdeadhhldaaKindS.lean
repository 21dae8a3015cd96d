/- Chapter 8's own Of; values that came in; the law's thing. -/
import Derived.Test.YtdojgdeadhhldaaKindR
import Derived.Test.YtdojgdeadhhldaaKindK
import Derived.Test.YtdojgdeadhhldaaLaw
import Derived.ChangeSlices
import Derived.Deep.Slices
namespace Go.Proofs.Ytdojgdeadhhldaa
open Go.RowKit

set_option maxHeartbeats 2000000 in
set_option maxRecDepth 100000 in
theorem refOf_any (l : List V) (v : Value) (B : Nat) (w : World) (hB : B ≤ w.heap.size) (hl : SlC w B v l) : Calls Try.prog 21 #[v] w fun e w' => e = .returned (.int .i64 (ofP l)) ∧ Ext w w' := by
  have hl0 := hl
  obtain ⟨a, cap, rfl, hlc, hcm, _⟩ := hl
  by_cases h200 : 200 < l.length
  · have hi : (200 : Int) < (l.length : Int) := by omega
    have ho : ofP l = 2 := by rw [ofP, if_pos h200]
    rw [ho]
    clear ho
    go_enter Try.func21, Try.ntmps21
    go_wp2
    go_ret
    exact ⟨rfl, Ext.refl _⟩
  · have hi : ¬ (200 : Int) < (l.length : Int) := by omega
    have hcall := walk_any B l (.slice a l.length cap) (by omega) 16 0 rfl w 0 hB hl0 (Nat.zero_le _)
    rw [List.drop_zero] at hcall
    cases hn : nextP 16 l with
    | error c =>
      have hc := nextP_err 16 l c hn
      have hofp : ofP l = c := by rw [ofP, if_neg h200, hn]
      rw [hn] at hcall
      rw [hofp]
      have hc0 : (c == 0) = false := by simp [hc]
      clear hofp hn hc
      go_enter Try.func21, Try.ntmps21
      go_wp2_with (go_at_call 38; refine hcall.mono ?_; rintro e x1 ⟨hx1, p1, rfl⟩)
      go_ret
      exact ⟨rfl, hx1⟩
    | ok r =>
      obtain ⟨p, hp, hlp⟩ := nextP_suffix 16 l r hn
      have hll := congrArg List.length hlp
      rw [List.length_append] at hll
      have hofp : ofP l = if r = [] then 0 else 5 := by rw [ofP, if_neg h200, hn]
      rw [hn] at hcall
      rw [hofp]
      clear hofp hn hlp hp
      by_cases hr : r = []
      · rw [if_pos hr]
        have hr0 : r.length = 0 := by rw [hr]; rfl
        clear hr hll
        go_enter Try.func21, Try.ntmps21
        go_wp2_with (go_at_call 38; refine hcall.mono ?_; rintro e x1 ⟨hx1, Z, hZ, rfl⟩; have hlt : ¬ (Z : Int) < (l.length : Int) := (by omega); clear hZ)
        go_ret
        exact ⟨rfl, hx1⟩
      · rw [if_neg hr]
        have hrp := List.length_pos_iff.2 hr
        clear hr hll
        go_enter Try.func21, Try.ntmps21
        go_wp2_with (go_at_call 38; refine hcall.mono ?_; rintro e x1 ⟨hx1, Z, hZ, rfl⟩; have hlt : (Z : Int) < (l.length : Int) := (by omega); clear hZ)
        go_ret
        exact ⟨rfl, hx1⟩

theorem thing_ok (l : List V) (v : Value) (B : Nat) (w : World) (hB : B ≤ w.heap.size) (hl : SlC w B v l) (ho : ofP l = 0) : Calls Try.prog 25 #[v] w fun e w' => ∃ iv D, e = .returned (.tuple #[.agg #[iv], .bool true]) ∧ Tells w' (fun b => w.heap.size + 1 ≤ b ∧ b < w'.heap.size) iv l D ∧ D ≤ 16 ∧ Ext w w' := by
  have hx0 : Ext w (w.alloc (.cells #[.nilIface] 25)) := (Ext.refl w).alloc _
  have hr := fun w1 (h : Ext w w1) => refOf_any l v B w1 (Nat.le_trans hB h.size) (hl.ext hB h)
  have hof := fun w1 (h : Ext w w1) => of_ok l v B w1 (Nat.le_trans hB h.size) (hl.ext hB h) ho
  rw [ho] at hr
  have keep : ∀ x, Ext (w.alloc (.cells #[.nilIface] 25)) x → Ext w x ∧ x.cell? ⟨w.heap.size, 0, none⟩ = some .nilIface ∧ x.frozen? ⟨w.heap.size, 0, none⟩ = false ∧ w.heap.size < x.heap.size := fun x h => by
    have h1 : x.cell? ⟨w.heap.size, 0, none⟩ = some .nilIface := by rw [h.cell (by simp)]; simp [go_sem]
    exact ⟨hx0.trans h, h1, by rw [h.frozen (by simp)]; simp [go_sem], World.block_lt_of_cell? _ _ h1⟩
  have KEEP := Lib.hid keep
  clear keep
  go_enter Try.func25, Try.ntmps25
  go_wp2_with (first
    | (go_at_call 21; refine (hr _ hx0).mono ?_; rintro e x0 ⟨rfl, hx1⟩; obtain ⟨hX0, r0, s0, z0⟩ := KEEP.out _ hx1)
    | (go_at_call 10; refine (hof _ hX0).mono ?_; rintro e x1 ⟨iv, D, rfl, ht1, hD, hx2⟩; obtain ⟨hX, r2, s2, z2⟩ := KEEP.out _ (hx1.trans hx2); have hst : (store ⟨x1.heap.size, 0, none⟩ iv).run Try.prog (x1.alloc (.cells #[.nilIface] 25)) = .ok () (x1.alloc (.cells #[iv] 25)) := (by rcases ht1.form with rfl | ⟨_, _, rfl⟩ <;> simp [go_sem]); have hst2 : (store ⟨w.heap.size, 0, none⟩ iv).run Try.prog (x1.alloc (.cells #[iv] 25)) = .ok () ((x1.setCell ⟨w.heap.size, 0, none⟩ iv).alloc (.cells #[iv] 25)) := (by rcases ht1.form with rfl | ⟨_, _, rfl⟩ <;> simp [go_sem, r2, s2, z2]); have HT := Lib.hid ht1; have hz0 : w.heap.size + 1 ≤ x0.heap.size := (by omega); clear ht1))
  refine bodyPost_ret (v := .tuple #[.agg #[iv], .bool true]) ?_ rfl ⟨iv, D, rfl, ?_, hD, ?_⟩
  · simp [results, Try.results25, go_sem, r2, z2]
  · refine HT.out.keep fun b hb => ?_
    obtain ⟨g1, g2⟩ := hb
    exact ⟨(Below.heap_alloc _ _ b (by simpa using g2)).trans (Below.heap_setCell _ _ _ _ (show b ≠ w.heap.size by omega)), by omega, by simp; omega⟩
  · repeat (first | with_reducible exact hX | with_reducible refine Ext.alloc ?_ _ | with_reducible refine Ext.setCell ?_ (Nat.le_refl _) _)
theorem thing_no (l : List V) (v : Value) (B : Nat) (w : World) (hB : B ≤ w.heap.size) (hl : SlC w B v l) (ho : ofP l ≠ 0) : Calls Try.prog 25 #[v] w fun e w' => e = .returned (.tuple #[.agg #[.nilIface], .bool false]) ∧ Ext w w' := by
  have hx0 : Ext w (w.alloc (.cells #[.nilIface] 25)) := (Ext.refl w).alloc _
  have hr := fun w1 (h : Ext w w1) => refOf_any l v B w1 (Nat.le_trans hB h.size) (hl.ext hB h)
  have hc : (ofP l != 0) = true := by simp [ho]
  go_enter Try.func25, Try.ntmps25
  go_wp2_with (go_at_call 21; refine (hr _ hx0).mono ?_; rintro e x1 ⟨rfl, hx1⟩; have r2 : x1.cell? ⟨w.heap.size, 0, none⟩ = some .nilIface := (by rw [hx1.cell (by simp)]; simp [go_sem]); have s2 : x1.frozen? ⟨w.heap.size, 0, none⟩ = false := (by rw [hx1.frozen (by simp)]; simp [go_sem]); have z2 := World.block_lt_of_cell? _ _ r2)
  refine bodyPost_ret (v := .tuple #[.agg #[.nilIface], .bool false]) ?_ rfl ⟨rfl, ?_⟩
  · simp [results, Try.results25, go_sem, r2, z2]
  · exact Ext.setCell (hx0.trans hx1) (Nat.le_refl _) _
theorem SlC.sls {w : World} {B : Nat} {v : Value} {l : List V} (h : SlC w B v l) (hB : B ≤ w.heap.size) : SlS V.cells 6 w v l := by
  obtain ⟨a, cap, rfl, _, _, h⟩ := h
  exact SlR.up h hB
theorem ofP_few {l : List V} (h : ofP l = 0) : l ≠ [] ∧ l.length ≤ 200 := by
  refine ⟨?_, ?_⟩
  · rintro rfl
    revert h
    decide
  · rw [ofP] at h
    split at h
    · cases h
    · omega
end Go.Proofs.Ytdojgdeadhhldaa
