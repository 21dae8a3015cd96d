/- Package kind: Of. -/
import Derived.Test.YtdojgdeadhhldaaKindI
namespace Go.Proofs.Ytdojgdeadhhldaa
open Go.RowKit

/-- What Of says of values. -/
def ofP (l : List V) : Int := if 200 < l.length then 2 else match nextP 16 l with
  | .error c => c
  | .ok r => if r = [] then 0 else 5
def OfPost (w : World) (l : List V) (e : Ending) (w' : World) : Prop :=
  Ext w w' ∧ ∃ iv, e = .returned (.tuple #[.agg #[iv], .int .i64 (ofP l)]) ∧ (ofP l = 0 → ∃ D, Tells w' (fun b => w.heap.size ≤ b ∧ b < w'.heap.size) iv l D ∧ D ≤ 16) ∧ (ofP l ≠ 0 → iv = .nilIface)
set_option maxHeartbeats 4000000 in
set_option maxRecDepth 100000 in
theorem of_any (l : List V) (v : Value) (B : Nat) (w : World) (hB : B ≤ w.heap.size) (hl : SlC w B v l) : Calls Try.prog 10 #[v] w (OfPost w l) := by
  have hl0 := hl
  obtain ⟨a, cap, rfl, hlc, hcm, _⟩ := hl
  by_cases h200 : 200 < l.length
  · have hi : (200 : Int) < (l.length : Int) := by omega
    have ho : ofP l = 2 := by rw [ofP, if_pos h200]
    unfold OfPost
    rw [ho]
    clear ho
    go_enter Try.func10, Try.ntmps10
    go_wp2
    refine bodyPost_ret (v := .tuple #[.agg #[.nilIface], .int .i64 2]) ?_ rfl ⟨(Ext.refl w).alloc _, _, rfl, fun h => (by cases h), fun _ => rfl⟩
    simp [results, Try.results10, go_sem]
  · have hi : ¬ (200 : Int) < (l.length : Int) := by omega
    have hm : l.length ≤ 1000000000 := by omega
    have hx0 : Ext w (w.alloc (.cells #[.nilIface] 25)) := (Ext.refl w).alloc _
    have hcall := next_any 16 0 rfl B l (.slice a l.length cap) (w.alloc (.cells #[.nilIface] 25)) (by simp; omega) (hl0.ext hB hx0) hm
    have keep : ∀ x, Ext (w.alloc (.cells #[.nilIface] 25)) x → Ext w x ∧ x.cell? ⟨w.heap.size, 0, none⟩ = some .nilIface ∧ x.frozen? ⟨w.heap.size, 0, none⟩ = false ∧ w.heap.size < x.heap.size := fun x h => by
      have h1 : x.cell? ⟨w.heap.size, 0, none⟩ = some .nilIface := by rw [h.cell (by simp)]; simp [go_sem]
      exact ⟨hx0.trans h, h1, by rw [h.frozen (by simp)]; simp [go_sem], World.block_lt_of_cell? _ _ h1⟩
    have KEEP := Lib.hid keep
    clear keep
    unfold OfPost
    have hofp : ofP l = match nextP 16 l with | .error c => c | .ok r => if r = [] then 0 else 5 := by rw [ofP, if_neg h200]
    cases hn : nextP 16 l with
    | error c =>
      have hc := nextP_err 16 l c hn
      rw [hn] at hcall hofp
      simp only [] at hofp
      rw [hofp]
      have hc0 : (c != 0) = true := by simp [hc]
      clear hofp hn
      have HC := Lib.hid hc
      clear hc
      go_enter Try.func10, Try.ntmps10
      go_wp2_with (go_at_call 33; refine hcall.mono ?_; rintro e x1 ⟨hx1, rfl⟩; obtain ⟨hX, r2, s2, z2⟩ := KEEP.out _ hx1)
      refine bodyPost_ret (v := .tuple #[.agg #[.nilIface], .int .i64 c]) ?_ rfl ⟨?_, _, rfl, fun h => absurd h HC.out, fun _ => rfl⟩
      · simp [results, Try.results10, go_sem, r2, z2]
      · repeat (first | with_reducible exact hX | with_reducible refine Ext.alloc ?_ _ | with_reducible refine Ext.setCell ?_ (Nat.le_refl _) _)
    | ok r =>
      rw [hn] at hcall hofp
      simp only [] at hofp
      rw [hofp]
      have HN := Lib.hid hn
      clear hofp hn
      cases r with
      | nil =>
        simp only [if_true]
        go_enter Try.func10, Try.ntmps10
        go_wp2_with (go_at_call 33; refine hcall.mono ?_; rintro e x1 ⟨hx1, iv, rv, p, D, rfl, hrv, hpl, hpn, ht1, hd1⟩; obtain ⟨hX, r2, s2, z2⟩ := KEEP.out _ hx1; have hst : (store ⟨x1.heap.size, 0, none⟩ iv).run Try.prog (x1.alloc (.cells #[.nilIface] 25)) = .ok () (x1.alloc (.cells #[iv] 25)) := (by rcases ht1.form with rfl | ⟨_, _, rfl⟩ <;> simp [go_sem]); have hst2 : (store ⟨w.heap.size, 0, none⟩ iv).run Try.prog (x1.alloc (.cells #[iv] 25)) = .ok () ((x1.setCell ⟨w.heap.size, 0, none⟩ iv).alloc (.cells #[iv] 25)) := (by rcases ht1.form with rfl | ⟨_, _, rfl⟩ <;> simp [go_sem, r2, s2, z2]); obtain ⟨ar, cr, rfl, _⟩ := hrv; have HT := Lib.hid ht1; have HPL := Lib.hid hpl; clear ht1 hpl)
        refine bodyPost_ret (v := .tuple #[.agg #[iv], .int .i64 0]) ?_ rfl ⟨?_, _, rfl, fun _ => ⟨D, ?_, by omega⟩, fun h => absurd rfl h⟩
        · simp [results, Try.results10, go_sem, r2, z2]
        · repeat (first | with_reducible exact hX | with_reducible refine Ext.alloc ?_ _ | with_reducible refine Ext.setCell ?_ (Nat.le_refl _) _)
        · have hl2 : l = p := by rw [HPL.out, List.append_nil]
          rw [hl2]
          refine HT.out.keep fun b hb => ?_
          obtain ⟨g1, g2⟩ := hb
          have g1' : w.heap.size + 1 ≤ b := by simpa using g1
          exact ⟨(Below.heap_alloc _ _ b (by simpa using g2)).trans (Below.heap_setCell _ _ _ _ (show b ≠ w.heap.size by omega)), by omega, by simp; omega⟩
      | cons y t =>
        have hi2 : (0 : Int) < (t.length : Int) + 1 := by omega
        simp only [List.cons_ne_nil, if_false, reduceCtorEq]
        go_enter Try.func10, Try.ntmps10
        go_wp2_with (go_at_call 33; refine hcall.mono ?_; rintro e x1 ⟨hx1, iv, rv, p, D, rfl, hrv, hpl, hpn, ht1, hd1⟩; obtain ⟨hX, r2, s2, z2⟩ := KEEP.out _ hx1; have hst : (store ⟨x1.heap.size, 0, none⟩ iv).run Try.prog (x1.alloc (.cells #[.nilIface] 25)) = .ok () (x1.alloc (.cells #[iv] 25)) := (by rcases ht1.form with rfl | ⟨_, _, rfl⟩ <;> simp [go_sem]); have hst2 : (store ⟨w.heap.size, 0, none⟩ iv).run Try.prog (x1.alloc (.cells #[iv] 25)) = .ok () ((x1.setCell ⟨w.heap.size, 0, none⟩ iv).alloc (.cells #[iv] 25)) := (by rcases ht1.form with rfl | ⟨_, _, rfl⟩ <;> simp [go_sem, r2, s2, z2]); obtain ⟨ar, cr, rfl, _⟩ := hrv; have HT := Lib.hid ht1; have HPL := Lib.hid hpl; clear ht1 hpl)
        refine bodyPost_ret (v := .tuple #[.agg #[.nilIface], .int .i64 5]) ?_ rfl ⟨?_, _, rfl, fun h => (by cases h), fun _ => rfl⟩
        · simp [results, Try.results10, go_sem, r2, z2]
        · repeat (first | with_reducible exact hX | with_reducible refine Ext.alloc ?_ _ | with_reducible refine Ext.setCell ?_ (Nat.le_refl _) _)
end Go.Proofs.Ytdojgdeadhhldaa
