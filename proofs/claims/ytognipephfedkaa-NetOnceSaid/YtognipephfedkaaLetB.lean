/- Package letter: named. -/
import Derived.Test.YtognipephfedkaaLetA
namespace Go.Proofs.Ytognipephfedkaa
open Go.RowKit

def NamedP (m : Lt) (n : Nat) : Prop := (m.kind = 1 ∧ n = 0 ∧ m.co = 0 ∧ m.me = 0 ∧ m.off = 0 ∧ m.sz = 0 ∧ m.yes = false ∧ m.data = ⟨#[]⟩) ∨
  (m.kind = 2 ∧ n = 0 ∧ m.ix = 0 ∧ m.at_ = 0 ∧ m.co = 0 ∧ m.me = 0 ∧ m.off = 0 ∧ m.sz = 0 ∧ m.data = ⟨#[]⟩) ∨
  (m.kind = 3 ∧ m.me = 0 ∧ m.off = 0 ∧ m.sz = 0 ∧ m.yes = false ∧ m.data = ⟨#[]⟩) ∨
  (m.kind = 4 ∧ n = 0 ∧ m.at_ = 0 ∧ m.co = 0 ∧ m.me = 0 ∧ m.off = 0 ∧ m.sz = 0 ∧ m.data = ⟨#[]⟩) ∨
  (m.kind = 5 ∧ n = 0 ∧ m.co = 0 ∧ m.yes = false) ∨
  (m.kind = 6 ∧ n = 0 ∧ m.at_ = 0 ∧ m.co = 0 ∧ m.me = 0 ∧ m.sz = 0 ∧ m.yes = false ∧ m.data = ⟨#[]⟩)
set_option maxHeartbeats 8000000 in
set_option maxRecDepth 100000 in
theorem named_any (m : Lt) (a : Option Addr) (n c : Nat) (w : World) : Calls Try.prog 42 #[m.agg (.slice a n c)] w fun e w' => (∃ q : Bool, e = .returned (.bool q) ∧ (q = true ↔ NamedP m n)) ∧ Ext w w' := by
  obtain ⟨kind, fr, to, te, ix, at_, co, me, off, sz, yes, data⟩ := m
  simp only [Lt.agg]
  have hX : ∀ o, Ext w (w.alloc o) := fun o => (Ext.refl w).alloc o
  rcases (by omega : kind = 1 ∨ kind = 2 ∨ kind = 3 ∨ kind = 4 ∨ kind = 5 ∨ kind = 6 ∨ (¬ kind = 1 ∧ ¬ kind = 2 ∧ ¬ kind = 3 ∧ ¬ kind = 4 ∧ ¬ kind = 5 ∧ ¬ kind = 6)) with rfl | rfl | rfl | rfl | rfl | rfl | hk
  · have h1 := fun w => lbare_any ⟨1, fr, to, te, ix, at_, co, me, off, sz, yes, data⟩ ⟨0, 0, 0, 0, ix, at_, 0, 0, 0, 0, false, ⟨#[]⟩⟩ a none n 0 c 0 w
    simp only [Lt.agg] at h1
    have H1 := Lib.hid h1
    clear h1
    go_enter Try.func42, Try.ntmps42
    go_wp2_with (go_at_call 54; refine (H1.out _).mono ?_; rintro e x ⟨⟨q, rfl, hq⟩, hx⟩; have HQ := Lib.hid hq; clear hq)
    go_ret
    refine ⟨⟨q, rfl, ?_⟩, (hX _).trans hx⟩
    rw [HQ.out]
    simp only [BareP, NamedP]
    grind
  · have h2 := fun w => lbare_any ⟨2, fr, to, te, ix, at_, co, me, off, sz, yes, data⟩ ⟨0, 0, 0, 0, 0, 0, 0, 0, 0, 0, yes, ⟨#[]⟩⟩ a none n 0 c 0 w
    simp only [Lt.agg] at h2
    have H2 := Lib.hid h2
    clear h2
    go_enter Try.func42, Try.ntmps42
    go_wp2_with (go_at_call 54; refine (H2.out _).mono ?_; rintro e x ⟨⟨q, rfl, hq⟩, hx⟩; have HQ := Lib.hid hq; clear hq)
    go_ret
    refine ⟨⟨q, rfl, ?_⟩, (hX _).trans hx⟩
    rw [HQ.out]
    simp only [BareP, NamedP]
    grind
  · have h3 := fun w => lbare_any ⟨3, fr, to, te, ix, at_, co, me, off, sz, yes, data⟩ ⟨0, 0, 0, 0, ix, at_, co, 0, 0, 0, false, ⟨#[]⟩⟩ a a n n c c w
    simp only [Lt.agg] at h3
    have H3 := Lib.hid h3
    clear h3
    go_enter Try.func42, Try.ntmps42
    go_wp2_with (go_at_call 54; refine (H3.out _).mono ?_; rintro e x ⟨⟨q, rfl, hq⟩, hx⟩; have HQ := Lib.hid hq; clear hq)
    go_ret
    refine ⟨⟨q, rfl, ?_⟩, (hX _).trans hx⟩
    rw [HQ.out]
    simp only [BareP, NamedP]
    grind
  · have h4 := fun w => lbare_any ⟨4, fr, to, te, ix, at_, co, me, off, sz, yes, data⟩ ⟨0, 0, 0, 0, ix, 0, 0, 0, 0, 0, yes, ⟨#[]⟩⟩ a none n 0 c 0 w
    simp only [Lt.agg] at h4
    have H4 := Lib.hid h4
    clear h4
    go_enter Try.func42, Try.ntmps42
    go_wp2_with (go_at_call 54; refine (H4.out _).mono ?_; rintro e x ⟨⟨q, rfl, hq⟩, hx⟩; have HQ := Lib.hid hq; clear hq)
    go_ret
    refine ⟨⟨q, rfl, ?_⟩, (hX _).trans hx⟩
    rw [HQ.out]
    simp only [BareP, NamedP]
    grind
  · have h5 := fun w => lbare_any ⟨5, fr, to, te, ix, at_, co, me, off, sz, yes, data⟩ ⟨0, 0, 0, 0, ix, at_, 0, me, off, sz, false, data⟩ a none n 0 c 0 w
    simp only [Lt.agg] at h5
    have H5 := Lib.hid h5
    clear h5
    go_enter Try.func42, Try.ntmps42
    go_wp2_with (go_at_call 54; refine (H5.out _).mono ?_; rintro e x ⟨⟨q, rfl, hq⟩, hx⟩; have HQ := Lib.hid hq; clear hq)
    go_ret
    refine ⟨⟨q, rfl, ?_⟩, (hX _).trans hx⟩
    rw [HQ.out]
    simp only [BareP, NamedP]
    grind
  · have h6 := fun w => lbare_any ⟨6, fr, to, te, ix, at_, co, me, off, sz, yes, data⟩ ⟨0, 0, 0, 0, ix, 0, 0, 0, off, 0, false, ⟨#[]⟩⟩ a none n 0 c 0 w
    simp only [Lt.agg] at h6
    have H6 := Lib.hid h6
    clear h6
    go_enter Try.func42, Try.ntmps42
    go_wp2_with (go_at_call 54; refine (H6.out _).mono ?_; rintro e x ⟨⟨q, rfl, hq⟩, hx⟩; have HQ := Lib.hid hq; clear hq)
    go_ret
    refine ⟨⟨q, rfl, ?_⟩, (hX _).trans hx⟩
    rw [HQ.out]
    simp only [BareP, NamedP]
    grind
  · obtain ⟨n1, n2, n3, n4, n5, n6⟩ := hk
    have e1 : (kind == 1) = false := beq_eq_false_iff_ne.2 n1
    have e2 : (kind == 2) = false := beq_eq_false_iff_ne.2 n2
    have e3 : (kind == 3) = false := beq_eq_false_iff_ne.2 n3
    have e4 : (kind == 4) = false := beq_eq_false_iff_ne.2 n4
    have e5 : (kind == 5) = false := beq_eq_false_iff_ne.2 n5
    have e6 : (kind == 6) = false := beq_eq_false_iff_ne.2 n6
    go_enter Try.func42, Try.ntmps42
    go_wp2
    go_ret
    refine ⟨⟨_, rfl, ?_⟩, hX _⟩
    simp [NamedP, n1, n2, n3, n4, n5, n6]
end Go.Proofs.Ytognipephfedkaa
