/- The law KindSame: the walk. -/
import Derived.Test.YtdojgdeadhhldaaKindRuns
import Derived.Test.YtdojgdeadhhldaaKindS
namespace Go.Proofs.Ytdojgdeadhhldaa
open Go.RowKit

theorem thing_weak (l : List V) (v : Value) (B : Nat) (w : World) (hB : B ≤ w.heap.size) (hl : SlC w B v l) : Calls Try.prog 25 #[v] w fun e w' => ∃ iv bb, e = .returned (.tuple #[.agg #[iv], .bool bb]) ∧ (iv = .nilIface ∨ ∃ t x, iv = .iface t x) ∧ Ext w w' := by
  by_cases ho : ofP l = 0
  · refine (thing_ok l v B w hB hl ho).mono ?_
    rintro e w' ⟨iv, D, rfl, ht, _, hx⟩
    exact ⟨iv, true, rfl, ht.form, hx⟩
  · refine (thing_no l v B w hB hl ho).mono ?_
    rintro e w' ⟨rfl, hx⟩
    exact ⟨_, false, rfl, .inl rfl, hx⟩

set_option maxHeartbeats 8000000 in
set_option maxRecDepth 100000 in
theorem sameLaw_any (a b : List V) (va vb : Value) (w : World) (ha : SlC w w.heap.size va a) (hb : SlC w w.heap.size vb b) : Calls Try.prog 5 #[va, vb] w fun e w' => e = .returned (.bool true) ∧ Ext w w' := by
  have ra := fun w1 (h : Ext w w1) => refOf_any a va w.heap.size w1 h.size (ha.keep h)
  have rb := fun w1 (h : Ext w w1) => refOf_any b vb w.heap.size w1 h.size (hb.keep h)
  by_cases oa : ofP a = 0
  · have ta := thing_ok a va w.heap.size w (Nat.le_refl _) ha oa
    rw [oa] at ra
    by_cases ob : ofP b = 0
    · rw [ob] at rb
      have tb := fun w1 (h : Ext w w1) => thing_ok b vb w.heap.size w1 h.size (hb.keep h) ob
      have la := (ofP_few oa).2
      have lb := (ofP_few ob).2
      obtain ⟨q, hq⟩ : ∃ q : Bool, q = true ↔ a = b := ⟨@decide (a = b) (Classical.propDecidable _), by simp⟩
      have hqq : (q == q) = true := by cases q <;> rfl
      have HQ := Lib.hid hq
      have sm := fun w1 (h : Ext w w1) => sameV va vb a b q hq w1 ((ha.keep h).sls h.size) ((hb.keep h).sls h.size) (by omega) (by omega)
      clear hq
      go_enter Try.func5, Try.ntmps5
      go_wp2_with (first
        | (go_at_call 25; with_reducible refine ta.mono ?_; rintro e x1 ⟨iu, D1, rfl, t1, hD1, hx1⟩; have st1 : (store ⟨x1.heap.size, 0, none⟩ iu).run Try.prog (x1.alloc (.cells #[.nilIface] 25)) = .ok () (x1.alloc (.cells #[iu] 25)) := (by rcases t1.form with rfl | ⟨_, _, rfl⟩ <;> simp [go_sem]); have hX1 : Ext w (x1.alloc (.cells #[iu] 25)) := hx1.alloc _; have T1 := Lib.hid t1.b; clear t1)
        | (go_at_call 25; with_reducible refine (tb _ hX1).mono ?_; rintro e x2 ⟨iv, D2, rfl, t2, hD2, hx2⟩; have st2 : (store ⟨x2.heap.size, 0, none⟩ iv).run Try.prog (x2.alloc (.cells #[.nilIface] 25)) = .ok () (x2.alloc (.cells #[iv] 25)) := (by rcases t2.form with rfl | ⟨_, _, rfl⟩ <;> simp [go_sem]); have hX2 : Ext w (x2.alloc (.cells #[iv] 25)) := (hX1.trans hx2).alloc _; have T2 := Lib.hid t2.b; clear t2; have keep : ∀ x, Ext (x2.alloc (.cells #[iv] 25)) x → Ext w x ∧ x.cell? ⟨x1.heap.size, 0, none⟩ = some iu ∧ x.cell? ⟨x2.heap.size, 0, none⟩ = some iv ∧ TellsB x x.heap.size iu a D1 ∧ TellsB x x.heap.size iv b D2 := (fun x h => ⟨hX2.trans h, ((hx2.alloc _).trans h).cell (p := ⟨x1.heap.size, 0, none⟩) (by simp) |>.trans (by simp [go_sem]), (h.cell (p := ⟨x2.heap.size, 0, none⟩) (by simp)).trans (by simp [go_sem]), T1.out.ext (Ext.trans ((Ext.refl x1).alloc _) ((hx2.alloc _).trans h)), T2.out.ext (Ext.trans ((Ext.refl x2).alloc _) h)⟩); have KEEP := Lib.hid keep; clear keep; have ok1 : flatOk 0 a.length 0 D1 = true := (by simp [flatOk]; omega); have ok2 : flatOk 0 b.length 0 D2 = true := (by simp [flatOk]; omega); have sU := (fun x (h : Ext (x2.alloc (.cells #[iv] 25)) x) => kindSame_any iu iv a b D1 D2 q (by rw [HQ.out]; simp [ok1, ok2]) x (KEEP.out x h).2.2.2.1 (KEEP.out x h).2.2.2.2); have sV := (fun x (h : Ext (x2.alloc (.cells #[iv] 25)) x) => kindSame_any iv iu b a D2 D1 q (by rw [HQ.out]; simp only [ok1, ok2, true_and]; exact eq_comm) x (KEEP.out x h).2.2.2.2 (KEEP.out x h).2.2.2.1); have SU := Lib.hid sU; have SV := Lib.hid sV; clear sU sV; have hE := Ext.refl (x2.alloc (.cells #[iv] 25)))
        | (go_at_call 21; with_reducible refine (ra _ (KEEP.out _ hE).1).mono ?_; rintro e y ⟨rfl, hy⟩; have hE := Ext.trans hE hy; obtain ⟨_, c1, c2, _, _⟩ := KEEP.out _ hE)
        | (go_at_call 21; with_reducible refine (rb _ (KEEP.out _ hE).1).mono ?_; rintro e y ⟨rfl, hy⟩; have hE := Ext.trans hE hy; obtain ⟨_, c1, c2, _, _⟩ := KEEP.out _ hE)
        | (go_at_call 12; with_reducible refine (SU.out _ hE).mono ?_; rintro e y ⟨rfl, hy⟩; have hE := Ext.trans hE hy; obtain ⟨_, c1, c2, _, _⟩ := KEEP.out _ hE)
        | (go_at_call 12; with_reducible refine (SV.out _ hE).mono ?_; rintro e y ⟨rfl, hy⟩; have hE := Ext.trans hE hy; obtain ⟨_, c1, c2, _, _⟩ := KEEP.out _ hE)
        | (go_at_call 24; with_reducible refine (sm _ (KEEP.out _ hE).1).mono ?_; rintro e y ⟨rfl, hy⟩; have hE := Ext.trans hE hy; obtain ⟨_, c1, c2, _, _⟩ := KEEP.out _ hE)
        | (go_at_call 3; refine (kindRuns_any _).mono ?_; rintro e y ⟨rfl, hy⟩; have hE := Ext.trans hE hy))
      go_ret
      exact ⟨rfl, (KEEP.out _ hE).1⟩
    · have hcb : (ofP b != 0) = true := by simp [ob]
      have tb := fun w1 (h : Ext w w1) => thing_no b vb w.heap.size w1 h.size (hb.keep h) ob
      go_enter Try.func5, Try.ntmps5
      go_wp2_with (first
        | (go_at_call 25; with_reducible refine ta.mono ?_; rintro e x1 ⟨iu, D1, rfl, t1, hD1, hx1⟩; have st1 : (store ⟨x1.heap.size, 0, none⟩ iu).run Try.prog (x1.alloc (.cells #[.nilIface] 25)) = .ok () (x1.alloc (.cells #[iu] 25)) := (by rcases t1.form with rfl | ⟨_, _, rfl⟩ <;> simp [go_sem]); have hX1 : Ext w (x1.alloc (.cells #[iu] 25)) := hx1.alloc _; clear t1)
        | (go_at_call 25; with_reducible refine (tb _ hX1).mono ?_; rintro e x2 ⟨rfl, hx2⟩; have hE := (hX1.trans hx2).alloc (.cells #[.nilIface] 25))
        | (go_at_call 21; with_reducible refine (ra _ hE).mono ?_; rintro e y ⟨rfl, hy⟩; have hE := Ext.trans hE hy)
        | (go_at_call 21; with_reducible refine (rb _ hE).mono ?_; rintro e y ⟨rfl, hy⟩; have hE := Ext.trans hE hy)
        | (go_at_call 3; refine (kindRuns_any _).mono ?_; rintro e y ⟨rfl, hy⟩; have hE := Ext.trans hE hy))
      go_ret
      exact ⟨rfl, hE⟩
  · have hca : (ofP a != 0) = true := by simp [oa]
    have ta := thing_no a va w.heap.size w (Nat.le_refl _) ha oa
    have tb := fun w1 (h : Ext w w1) => thing_weak b vb w.heap.size w1 h.size (hb.keep h)
    go_enter Try.func5, Try.ntmps5
    go_wp2_with (first
      | (go_at_call 25; with_reducible refine ta.mono ?_; rintro e x1 ⟨rfl, hx1⟩; have hX1 : Ext w (x1.alloc (.cells #[.nilIface] 25)) := hx1.alloc _)
      | (go_at_call 25; with_reducible refine (tb _ hX1).mono ?_; rintro e x2 ⟨iv, bb, rfl, hf, hx2⟩; have st2 : (store ⟨x2.heap.size, 0, none⟩ iv).run Try.prog (x2.alloc (.cells #[.nilIface] 25)) = .ok () (x2.alloc (.cells #[iv] 25)) := (by rcases hf with rfl | ⟨_, _, rfl⟩ <;> simp [go_sem]); have hE := (hX1.trans hx2).alloc (.cells #[iv] 25); clear hf)
      | (go_at_call 21; with_reducible refine (ra _ hE).mono ?_; rintro e y ⟨rfl, hy⟩; have hE := Ext.trans hE hy)
      | (go_at_call 3; refine (kindRuns_any _).mono ?_; rintro e y ⟨rfl, hy⟩; have hE := Ext.trans hE hy))
    go_ret
    exact ⟨rfl, hE⟩
end Go.Proofs.Ytdojgdeadhhldaa
