/- Chapter 8's own answer: walk, Of. -/
import Derived.Test.YtdojgdeadhhldaaKindR1
namespace Go.Proofs.Ytdojgdeadhhldaa
open Go.RowKit

set_option maxHeartbeats 8000000 in
set_option maxRecDepth 100000 in
theorem walk_cons (f deep B : Nat) (hf : f + deep = 16) (l : List V) (A : Nat) (x : V) (t : List V) (hA : l.drop A = x :: t) (v : Value) (w : World) (hBw : B ≤ w.heap.size) (hl : SlC w B v l) (hm : l.length ≤ 1000000000)
    (ih : ∀ g, f = g + 1 → ∀ (w : World) (A : Nat), B ≤ w.heap.size → SlC w B v l → A ≤ l.length → Calls Try.prog 38 #[v, .int .i64 (A : Int), .int .i64 ((deep : Int) + 1)] w (WalkPost w l (nextP g (l.drop A)))) :
    Calls Try.prog 38 #[v, .int .i64 (A : Int), .int .i64 (deep : Int)] w (WalkPost w l (nextP f (x :: t))) := by
  have hl0 := hl
  have hAl : A < l.length := by
    rcases Nat.lt_or_ge A l.length with h | h
    · exact h
    · rw [List.drop_eq_nil_of_le h] at hA; cases hA
  have hx : l[A] = x := by
    have := List.drop_eq_getElem_cons hAl
    rw [hA] at this
    exact (List.cons.inj this).1.symm
  obtain ⟨a, cap, rfl, hlc, hcm, hs⟩ := hl
  obtain ⟨b1, o1, rfl, hb1, hc1⟩ := SlS.at_ V.len (SlR.up hs hBw) (by omega) (by decide)
  have d1 := hc1 A hAl
  rw [hx] at d1
  have a0 : w.cell? ⟨b1, o1 + A * 6, none⟩ = some (.int .i64 x.kind) := by have := d1 0 (by decide); simpa [V.cells] using this
  have a1 : w.cell? ⟨b1, o1 + A * 6 + 1, none⟩ = some (.int .i64 x.n) := by have := d1 1 (by decide); simpa [V.cells] using this
  have a2 : w.cell? ⟨b1, o1 + A * 6 + 2, none⟩ = some (.string x.text) := by have := d1 2 (by decide); simpa [V.cells] using this
  have a3 : w.cell? ⟨b1, o1 + A * 6 + 3, none⟩ = some (.int .i64 x.y) := by have := d1 3 (by decide); simpa [V.cells] using this
  have a4 : w.cell? ⟨b1, o1 + A * 6 + 4, none⟩ = some (.int .i64 x.m) := by have := d1 4 (by decide); simpa [V.cells] using this
  have a5 : w.cell? ⟨b1, o1 + A * 6 + 5, none⟩ = some (.int .i64 x.d) := by have := d1 5 (by decide); simpa [V.cells] using this
  clear d1 hc1 hx
  have HL := Lib.hid hl0
  clear hl0 hs
  obtain ⟨k, n, s, y, m, d⟩ := x
  simp only [] at a0 a1 a2 a3 a4 a5
  have i1 : (A : Int) < (l.length : Int) := by omega
  have i0 : (0 : Int) ≤ (A : Int) := by omega
  by_cases hk5 : k = 5 ∧ f = 0
  · obtain ⟨rfl, rfl⟩ := hk5
    have hd16 : (16 : Int) ≤ (deep : Int) := by omega
    go_enter Try.func38, Try.ntmps38
    go_wp2
    go_ret2
    exact ⟨(Ext.refl w).alloc _, _, rfl⟩
  · have hk5' : ¬ (k = 5 ∧ (16 : Int) ≤ (deep : Int)) := by omega
    by_cases hkr : 0 ≤ k ∧ k ≤ 5
    · by_cases hR : RightV ⟨k, n, s, y, m, d⟩
      · have HRn := Lib.hid hR
        have hR2 := hR
        simp only [RightV] at hR2
        rcases (by omega : k = 0 ∨ k = 1 ∨ k = 2 ∨ k = 3 ∨ k = 4 ∨ k = 5) with rfl | rfl | rfl | rfl | rfl | rfl
        · obtain ⟨rfl, rfl, rfl, rfl, rfl⟩ : n = 0 ∧ s = ⟨#[]⟩ ∧ y = 0 ∧ m = 0 ∧ d = 0 := by
            simp at hR2
            simp [hR2]
          have e : nextP f (⟨0, 0, ⟨#[]⟩, 0, 0, 0⟩ :: t) = .ok t := by
            cases f <;> simp only [nextP]
            · rw [if_neg (by decide), if_neg (by decide), if_pos HRn.out]
            · rw [if_neg (by decide), if_pos HRn.out, if_neg (by decide)]
          clear hk5 hk5' hkr hR hR2
          have htl : t.length = l.length - (A + 1) := by have := congrArg List.length hA; simp at this; omega
          have HE := Lib.hid e
          have HT := Lib.hid htl
          clear e htl
          go_enter Try.func38, Try.ntmps38
          go_wp2
          go_ret2
          refine ⟨by repeat (first | with_reducible exact Ext.refl _ | with_reducible refine Ext.alloc ?_ _ | with_reducible refine Ext.setCell ?_ (by simp) _), ?_⟩
          rw [HE.out]
          exact ⟨A + 1, by have := HT.out; omega, rfl⟩
        · obtain ⟨rfl, rfl, rfl, rfl⟩ : s = ⟨#[]⟩ ∧ y = 0 ∧ m = 0 ∧ d = 0 := by
            simp at hR2
            simp [hR2]
          have e : nextP f (⟨1, n, ⟨#[]⟩, 0, 0, 0⟩ :: t) = .ok t := by
            cases f <;> simp only [nextP]
            · rw [if_neg (by decide), if_neg (by decide), if_pos HRn.out]
            · rw [if_neg (by decide), if_pos HRn.out, if_neg (by decide)]
          clear hk5 hk5' hkr hR hR2
          have htl : t.length = l.length - (A + 1) := by have := congrArg List.length hA; simp at this; omega
          have HE := Lib.hid e
          have HT := Lib.hid htl
          clear e htl
          go_enter Try.func38, Try.ntmps38
          go_wp2
          go_ret2
          refine ⟨by repeat (first | with_reducible exact Ext.refl _ | with_reducible refine Ext.alloc ?_ _ | with_reducible refine Ext.setCell ?_ (by simp) _), ?_⟩
          rw [HE.out]
          exact ⟨A + 1, by have := HT.out; omega, rfl⟩
        · obtain ⟨rfl, rfl, rfl, rfl⟩ : n = 0 ∧ y = 0 ∧ m = 0 ∧ d = 0 := by
            simp at hR2
            simp [hR2]
          have e : nextP f (⟨2, 0, s, 0, 0, 0⟩ :: t) = .ok t := by
            cases f <;> simp only [nextP]
            · rw [if_neg (by decide), if_neg (by decide), if_pos HRn.out]
            · rw [if_neg (by decide), if_pos HRn.out, if_neg (by decide)]
          clear hk5 hk5' hkr hR hR2
          have htl : t.length = l.length - (A + 1) := by have := congrArg List.length hA; simp at this; omega
          have HE := Lib.hid e
          have HT := Lib.hid htl
          clear e htl
          go_enter Try.func38, Try.ntmps38
          go_wp2
          go_ret2
          refine ⟨by repeat (first | with_reducible exact Ext.refl _ | with_reducible refine Ext.alloc ?_ _ | with_reducible refine Ext.setCell ?_ (by simp) _), ?_⟩
          rw [HE.out]
          exact ⟨A + 1, by have := HT.out; omega, rfl⟩
        · obtain ⟨hn, rfl, rfl, rfl, rfl⟩ : (n = 0 ∨ n = 1) ∧ s = ⟨#[]⟩ ∧ y = 0 ∧ m = 0 ∧ d = 0 := by
            simp at hR2
            simp [hR2]
          have e : nextP f (⟨3, n, ⟨#[]⟩, 0, 0, 0⟩ :: t) = .ok t := by
            cases f <;> simp only [nextP]
            · rw [if_neg (by decide), if_neg (by decide), if_pos HRn.out]
            · rw [if_neg (by decide), if_pos HRn.out, if_neg (by decide)]
          rcases hn with rfl | rfl
          all_goals
            clear hk5 hk5' hkr hR hR2
            have htl : t.length = l.length - (A + 1) := by have := congrArg List.length hA; simp at this; omega
            have HE := Lib.hid e
            have HT := Lib.hid htl
            clear e htl
            go_enter Try.func38, Try.ntmps38
            go_wp2
            go_ret2
            refine ⟨by repeat (first | with_reducible exact Ext.refl _ | with_reducible refine Ext.alloc ?_ _ | with_reducible refine Ext.setCell ?_ (by simp) _), ?_⟩
            rw [HE.out]
            exact ⟨A + 1, by have := HT.out; omega, rfl⟩
        · obtain ⟨rfl, rfl⟩ : n = 0 ∧ s = ⟨#[]⟩ := by
            simp at hR2
            simp [hR2]
          have e : nextP f (⟨4, 0, ⟨#[]⟩, y, m, d⟩ :: t) = .ok t := by
            cases f <;> simp only [nextP]
            · rw [if_neg (by decide), if_neg (by decide), if_pos HRn.out]
            · rw [if_neg (by decide), if_pos HRn.out, if_neg (by decide)]
          clear hk5 hk5' hkr hR hR2
          have htl : t.length = l.length - (A + 1) := by have := congrArg List.length hA; simp at this; omega
          have HE := Lib.hid e
          have HT := Lib.hid htl
          clear e htl
          go_enter Try.func38, Try.ntmps38
          go_wp2
          go_ret2
          refine ⟨by repeat (first | with_reducible exact Ext.refl _ | with_reducible refine Ext.alloc ?_ _ | with_reducible refine Ext.setCell ?_ (by simp) _), ?_⟩
          rw [HE.out]
          exact ⟨A + 1, by have := HT.out; omega, rfl⟩
        · obtain ⟨hn0, rfl, rfl, rfl, rfl⟩ : 0 ≤ n ∧ s = ⟨#[]⟩ ∧ y = 0 ∧ m = 0 ∧ d = 0 := by
            simp at hR2
            obtain ⟨h1, h2, h3⟩ := hR2
            exact ⟨by omega, h2, h3⟩
          obtain ⟨N, rfl⟩ := Int.eq_ofNat_of_zero_le hn0
          obtain ⟨g, rfl⟩ : ∃ g, f = g + 1 := ⟨f - 1, by omega⟩
          exact walk_loop g deep B hf l A N t hA _ w hBw HL.out hm HRn.out (ih g rfl)
      · have e : nextP f (⟨k, n, s, y, m, d⟩ :: t) = .error 1 := by
          cases f <;> simp only [nextP]
          · rw [if_neg (by omega), if_neg (by omega), if_neg hR]
          · rw [if_neg (by omega), if_neg hR]
        have HE := Lib.hid e
        simp only [RightV] at hR
        have hts := toList_nil_iff s
        rcases (by omega : k = 0 ∨ k = 1 ∨ k = 2 ∨ k = 3 ∨ k = 4 ∨ (k = 5 ∧ ¬ (16 : Int) ≤ (deep : Int))) with rfl | rfl | rfl | rfl | rfl | ⟨rfl, hd16⟩
        · have hdis : (¬ n = 0) ∨ (n = 0 ∧ ¬ s = ⟨#[]⟩) ∨ (n = 0 ∧ s = ⟨#[]⟩ ∧ ¬ y = 0) ∨ (n = 0 ∧ s = ⟨#[]⟩ ∧ y = 0 ∧ ¬ m = 0) ∨ (n = 0 ∧ s = ⟨#[]⟩ ∧ y = 0 ∧ m = 0 ∧ ¬ d = 0) := by
            clear hts HE e HL ih a0 a1 a2 a3 a4 a5
            grind
          clear hR hk5 hk5' hkr e ih
          rcases hdis with hz | ⟨rfl, hz⟩ | ⟨rfl, rfl, hz⟩ | ⟨rfl, rfl, rfl, hz⟩ | ⟨rfl, rfl, rfl, rfl, hz⟩
          all_goals
            try (have hz2 := (not_congr hts).2 hz)
            clear hts
            go_enter Try.func38, Try.ntmps38
            go_wp2
            go_ret2
            refine ⟨by repeat (first | with_reducible exact Ext.refl _ | with_reducible refine Ext.alloc ?_ _ | with_reducible refine Ext.setCell ?_ (by simp) _), ?_⟩
            rw [HE.out]
            exact ⟨_, rfl⟩
        · have hdis : (¬ s = ⟨#[]⟩) ∨ (s = ⟨#[]⟩ ∧ ¬ y = 0) ∨ (s = ⟨#[]⟩ ∧ y = 0 ∧ ¬ m = 0) ∨ (s = ⟨#[]⟩ ∧ y = 0 ∧ m = 0 ∧ ¬ d = 0) := by
            clear hts HE e HL ih a0 a1 a2 a3 a4 a5
            grind
          clear hR hk5 hk5' hkr e ih
          rcases hdis with hz | ⟨rfl, hz⟩ | ⟨rfl, rfl, hz⟩ | ⟨rfl, rfl, rfl, hz⟩
          all_goals
            try (have hz2 := (not_congr hts).2 hz)
            clear hts
            go_enter Try.func38, Try.ntmps38
            go_wp2
            go_ret2
            refine ⟨by repeat (first | with_reducible exact Ext.refl _ | with_reducible refine Ext.alloc ?_ _ | with_reducible refine Ext.setCell ?_ (by simp) _), ?_⟩
            rw [HE.out]
            exact ⟨_, rfl⟩
        · have hdis : (¬ n = 0) ∨ (n = 0 ∧ ¬ y = 0) ∨ (n = 0 ∧ y = 0 ∧ ¬ m = 0) ∨ (n = 0 ∧ y = 0 ∧ m = 0 ∧ ¬ d = 0) := by
            clear hts HE e HL ih a0 a1 a2 a3 a4 a5
            grind
          clear hR hk5 hk5' hkr e ih
          rcases hdis with hz | ⟨rfl, hz⟩ | ⟨rfl, rfl, hz⟩ | ⟨rfl, rfl, rfl, hz⟩
          all_goals
            try (have hz2 := (not_congr hts).2 hz)
            clear hts
            go_enter Try.func38, Try.ntmps38
            go_wp2
            go_ret2
            refine ⟨by repeat (first | with_reducible exact Ext.refl _ | with_reducible refine Ext.alloc ?_ _ | with_reducible refine Ext.setCell ?_ (by simp) _), ?_⟩
            rw [HE.out]
            exact ⟨_, rfl⟩
        · have hdis : (¬ s = ⟨#[]⟩) ∨ (s = ⟨#[]⟩ ∧ ¬ y = 0) ∨ (s = ⟨#[]⟩ ∧ y = 0 ∧ ¬ m = 0) ∨ (s = ⟨#[]⟩ ∧ y = 0 ∧ m = 0 ∧ ¬ d = 0) ∨ (s = ⟨#[]⟩ ∧ y = 0 ∧ m = 0 ∧ d = 0 ∧ ¬ n = 0 ∧ ¬ n = 1) := by
            clear hts HE e HL ih a0 a1 a2 a3 a4 a5
            grind
          clear hR hk5 hk5' hkr e ih
          rcases hdis with hz | ⟨rfl, hz⟩ | ⟨rfl, rfl, hz⟩ | ⟨rfl, rfl, rfl, hz⟩ | ⟨rfl, rfl, rfl, rfl, hz, hz1⟩
          all_goals
            try (have hz2 := (not_congr hts).2 hz)
            clear hts
            go_enter Try.func38, Try.ntmps38
            go_wp2
            go_ret2
            refine ⟨by repeat (first | with_reducible exact Ext.refl _ | with_reducible refine Ext.alloc ?_ _ | with_reducible refine Ext.setCell ?_ (by simp) _), ?_⟩
            rw [HE.out]
            exact ⟨_, rfl⟩
        · have hdis : (¬ n = 0) ∨ (n = 0 ∧ ¬ s = ⟨#[]⟩) := by
            clear hts HE e HL ih a0 a1 a2 a3 a4 a5
            grind
          clear hR hk5 hk5' hkr e ih
          rcases hdis with hz | ⟨rfl, hz⟩
          all_goals
            try (have hz2 := (not_congr hts).2 hz)
            clear hts
            go_enter Try.func38, Try.ntmps38
            go_wp2
            go_ret2
            refine ⟨by repeat (first | with_reducible exact Ext.refl _ | with_reducible refine Ext.alloc ?_ _ | with_reducible refine Ext.setCell ?_ (by simp) _), ?_⟩
            rw [HE.out]
            exact ⟨_, rfl⟩
        · have hdis : (¬ s = ⟨#[]⟩) ∨ (s = ⟨#[]⟩ ∧ ¬ y = 0) ∨ (s = ⟨#[]⟩ ∧ y = 0 ∧ ¬ m = 0) ∨ (s = ⟨#[]⟩ ∧ y = 0 ∧ m = 0 ∧ ¬ d = 0) ∨ (s = ⟨#[]⟩ ∧ y = 0 ∧ m = 0 ∧ d = 0 ∧ n < 0) := by
            clear hts HE e HL ih a0 a1 a2 a3 a4 a5
            grind
          clear hR hk5 hk5' hkr e ih
          rcases hdis with hz | ⟨rfl, hz⟩ | ⟨rfl, rfl, hz⟩ | ⟨rfl, rfl, rfl, hz⟩ | ⟨rfl, rfl, rfl, rfl, hz⟩
          all_goals
            try (have hz2 := (not_congr hts).2 hz)
            clear hts
            go_enter Try.func38, Try.ntmps38
            go_wp2
            go_ret2
            refine ⟨by repeat (first | with_reducible exact Ext.refl _ | with_reducible refine Ext.alloc ?_ _ | with_reducible refine Ext.setCell ?_ (by simp) _), ?_⟩
            rw [HE.out]
            exact ⟨_, rfl⟩
    · have e : nextP f (⟨k, n, s, y, m, d⟩ :: t) = .error 17 := by
        cases f <;> simp only [nextP]
        · rw [if_neg (by omega), if_pos hkr]
        · rw [if_pos hkr]
      have HE := Lib.hid e
      have q0 : ¬ k = 5 := by omega
      have q1 : (k == 5) = false := beq_eq_false_iff_ne.2 q0
      have p0 : (k == 0) = false := beq_eq_false_iff_ne.2 (by omega)
      have p1 : (k == 1) = false := beq_eq_false_iff_ne.2 (by omega)
      have p2 : (k == 2) = false := beq_eq_false_iff_ne.2 (by omega)
      have p3 : (k == 3) = false := beq_eq_false_iff_ne.2 (by omega)
      have p4 : (k == 4) = false := beq_eq_false_iff_ne.2 (by omega)
      clear hk5 hk5' hkr e ih
      go_enter Try.func38, Try.ntmps38
      go_wp2
      go_ret2
      refine ⟨by repeat (first | with_reducible exact Ext.refl _ | with_reducible refine Ext.alloc ?_ _ | with_reducible refine Ext.setCell ?_ (by simp) _), ?_⟩
      rw [HE.out]
      exact ⟨_, rfl⟩

theorem walk_any (B : Nat) (l : List V) (v : Value) (hm : l.length ≤ 1000000000) : ∀ (f deep : Nat), f + deep = 16 → ∀ (w : World) (A : Nat), B ≤ w.heap.size → SlC w B v l → A ≤ l.length →
    Calls Try.prog 38 #[v, .int .i64 (A : Int), .int .i64 (deep : Int)] w (WalkPost w l (nextP f (l.drop A)))
  | f, deep, hf, w, A, hB, hl, hA => by
    cases hd : l.drop A with
    | nil =>
      have hAl : l.length ≤ A := by
        rcases Nat.lt_or_ge A l.length with h | h
        · rw [List.drop_eq_getElem_cons h] at hd; cases hd
        · exact h
      obtain ⟨a, cap, rfl, _, _, _⟩ := hl
      have hi : ¬ (A : Int) < (l.length : Int) := by omega
      have e : nextP f [] = .error 3 := by cases f <;> rfl
      rw [e]
      clear hd e
      go_enter Try.func38, Try.ntmps38
      go_wp2
      go_ret2
      exact ⟨Ext.refl _, _, rfl⟩
    | cons x t =>
      refine walk_cons f deep B hf l A x t hd v w hB hl hm fun g hg w' A' hB' hl' hA' => ?_
      subst hg
      exact walk_any B l v hm g (deep + 1) (by omega) w' A' hB' hl' hA'
end Go.Proofs.Ytdojgdeadhhldaa
