/- Contract of impostlaw2's ask: an item asked of both readers. -/
import Derived.Test.YtmhppikbnobedaaPackRefS
import Derived.Test.YtmhppikbnobedaaPackPut
namespace Go.Proofs.Ytmhppikbnobedaa
open Go.RowKit

/-- All but the blocks r and q is as it was. -/
structure Keep2 (r q : Nat) (w w' : World) : Prop where
  os : w'.os = w.os
  tape : w'.tape = w.tape
  output : w'.output = w.output
  size : w.heap.size ≤ w'.heap.size
  block : ∀ k, k < w.heap.size → k ≠ r → k ≠ q → w'.heap[k]? = w.heap[k]?
theorem Keep2.refl (r q : Nat) (w : World) : Keep2 r q w w := ⟨rfl, rfl, rfl, Nat.le_refl _, fun _ _ _ _ => rfl⟩
theorem Keep2.trans {r q : Nat} {a b c : World} (h : Keep2 r q a b) (k : Keep2 r q b c) : Keep2 r q a c :=
  ⟨k.os.trans h.os, k.tape.trans h.tape, k.output.trans h.output, Nat.le_trans h.size k.size, fun i hi hr hq => (k.block i (Nat.lt_of_lt_of_le hi h.size) hr hq).trans (h.block i hi hr hq)⟩
theorem Keep2.of1 {r q : Nat} {a b : World} (h : KeepR r a b) : Keep2 r q a b := ⟨h.os, h.tape, h.output, h.size, fun k hk hr _ => h.block k hk hr⟩
theorem Keep2.of2 {r q : Nat} {a b : World} (h : KeepR q a b) : Keep2 r q a b := ⟨h.os, h.tape, h.output, h.size, fun k hk _ hq => h.block k hk hq⟩
theorem Keep2.of_ext {r q : Nat} {a b : World} (h : Ext a b) : Keep2 r q a b := .of1 (KeepR.of_ext h)
theorem Keep2.drew {r q : Nat} {a b : World} (h : Keep2 r q a b) : Keep2 r q a b.drew := h.trans ⟨rfl, rfl, rfl, Nat.le_refl _, fun _ _ _ _ => rfl⟩
theorem Ext.keep2 {a b c : World} {r q : Nat} (h : Ext a b) (hk : Keep2 r q b c) (hr : a.heap.size ≤ r) (hq : a.heap.size ≤ q) : Ext a c :=
  Below.trans h ⟨hk.os, hk.tape, hk.output, hk.size, fun k hk' => hk.block k (Nat.lt_of_lt_of_le hk' h.size) (by omega) (by omega)⟩
theorem keepK2 (r q : Nat) (w : World) (v0 v1 v2 v3 v4 v5 : Value) (t : TypeId) (o : Nat) (v : Value) {x : World} (hr : r < w.heap.size) (hq : q < w.heap.size) (h : Keep2 r q (w.alloc (.cells #[v0, v1, v2, v3, v4, v5] t)) x) (hv : (#[v0, v1, v2, v3, v4, v5] : Array Value)[o]? = some v) :
    Keep2 r q (w.alloc (.cells #[v0, v1, v2, v3, v4, v5] t)) x ∧ x.cell? ⟨w.heap.size, o, none⟩ = some v := by
  refine ⟨h, ?_⟩
  rw [World.cell?_of_block (w := w.alloc (.cells #[v0, v1, v2, v3, v4, v5] t)) (a := ⟨w.heap.size, o, none⟩) (h.block w.heap.size (by simp) (by omega) (by omega)), World.cell?_alloc_at _ _ _ _ rfl]
  exact hv

/-- Where the readers stand behind an item that was asked for. -/
def askR (bs : List UInt8) (st : RS) (x : Itm) : RS :=
  if x.kind = 1 then (rNum bs st).2
  else if x.kind = 2 then (rText bs st x.hi).2
  else if x.kind = 3 then (rFlag bs st).2
  else if x.kind = 4 then (rWithin bs st x.lo x.hi).2
  else if x.kind = 5 then (rCount bs st x.hi).2
  else rEnd bs st

set_option maxHeartbeats 8000000 in
set_option maxRecDepth 100000 in
theorem ask_any (B T B2 T2 r q : Nat) (bs : List UInt8) (st : RS) (x : Itm) (w : World) (h : RdX B T w r bs st) (h2 : RdX B2 T2 w q bs st) (hTB : T ≤ B2) :
    Calls Try.prog 29 #[.pointer (some ⟨r, 0, none⟩), .pointer (some ⟨q, 0, none⟩), .agg x.cells] w fun e w' => e = .returned (.bool true) ∧ RdX B T w' r bs (askR bs st x) ∧ RdX B2 T2 w' q bs (askR bs st x) ∧ Keep2 r q w w' := by
  obtain ⟨kind, n, lo, hi, s, f⟩ := x
  obtain ⟨hr0, hr1, hrl, _, _⟩ := h.r_in
  obtain ⟨hq0, hq1, hql, _, _⟩ := h2.r_in
  have hW1 : Keep2 r q w (w.alloc (.cells #[.int .i64 kind, .int .i64 n, .int .i64 lo, .int .i64 hi, .string s, .bool f] 41)) := Keep2.of_ext ((Ext.refl w).alloc _)
  have g1 : RdX B T (w.alloc (.cells #[.int .i64 kind, .int .i64 n, .int .i64 lo, .int .i64 hi, .string s, .bool f] 41)) r bs st := h.ext ((Ext.refl w).alloc _)
  have g2 : RdX B2 T2 (w.alloc (.cells #[.int .i64 kind, .int .i64 n, .int .i64 lo, .int .i64 hi, .string s, .bool f] 41)) q bs st := h2.ext ((Ext.refl w).alloc _)
  have k1 := g1.ext ((Ext.refl _).drew)
  have k2 := g2.ext ((Ext.refl _).drew)
  have a1 : r < B2 ∨ T2 ≤ r := .inl (by omega)
  have a2 : q < B ∨ T ≤ q := .inr (by omega)
  simp only [Itm.cells]
  by_cases hk1 : kind = 1
  · subst hk1
    have hv : askR bs st ⟨1, n, lo, hi, s, f⟩ = (rNum bs st).2 := by simp [askR]
    rw [hv]
    clear hv
    have c1 := num_x g1
    have c2 := fun w2 hk => qnum_x (RdX.keep (w' := w2) g2 hk a1)
    generalize rNum bs st = q1 at *
    obtain ⟨v1, st2⟩ := q1
    try simp only [] at c1 c2 ⊢
    have C1 := Lib.hid c1
    have C2 := Lib.hid c2
    clear c1 c2
    go_enter Try.func29, Try.ntmps29
    go_wp2_with fail
    refine (C1.out).mono ?_
    rintro e x1 ⟨rfl, hr1', hk1⟩
    go_wp2_with fail
    refine (C2.out _ hk1).mono ?_
    rintro e x2 ⟨rfl, hr2', hk2⟩
    go_wp2
    go_ret
    exact ⟨by simp, hr1'.keep hk2 a2, hr2', hW1.trans ((Keep2.of1 hk1).trans (Keep2.of2 hk2))⟩
  · have b1 : (kind == 1) = false := by simp [hk1]
    by_cases hk2 : kind = 2
    · subst hk2
      have hv : askR bs st ⟨2, n, lo, hi, s, f⟩ = (rText bs st hi).2 := by simp [askR]
      rw [hv]
      clear hv
      have c1 := text_x k1 hi
      have c2 := fun w2 hk => qtext_x (RdX.keep (w' := w2) k2 hk a1) hi
      generalize rText bs st hi = q1 at *
      obtain ⟨v1, st2⟩ := q1
      try simp only [] at c1 c2 ⊢
      have C1 := Lib.hid c1
      have C2 := Lib.hid c2
      clear c1 c2
      go_enter Try.func29, Try.ntmps29
      go_wp2
      go_region_held3 (fun z => Keep2 r q (w.alloc (.cells #[.int .i64 2, .int .i64 n, .int .i64 lo, .int .i64 hi, .string s, .bool f] 41)) z ∧ z.cell? ⟨w.heap.size, 3, none⟩ = some (.int .i64 hi))
        ((refine keepK2 r q w _ _ _ _ _ _ _ _ _ hrl hql ?_ rfl; repeat (first | exact Keep2.refl _ _ _ | assumption | refine Keep2.trans ?_ (Keep2.of1 (by assumption)) | refine Keep2.trans ?_ (Keep2.of2 (by assumption)) | refine Keep2.drew ?_)))
        (first
          | (go_at_call 19; (with_reducible refine (C1.out).mono ?_); rintro e x1 ⟨rfl, hr1', hk1⟩)
          | (go_at_call 37; (with_reducible refine (C2.out _ hk1).mono ?_); rintro e x2 ⟨rfl, hr2', hk2⟩))
      all_goals
        go_wp2
        go_ret
        exact ⟨by simp, hr1'.keep hk2 a2, hr2', (hW1.trans (Keep2.drew (Keep2.refl _ _ _))).trans ((Keep2.of1 hk1).trans (Keep2.of2 hk2))⟩
    · have b2 : (kind == 2) = false := by simp [hk2]
      by_cases hk3 : kind = 3
      · subst hk3
        have hv : askR bs st ⟨3, n, lo, hi, s, f⟩ = (rFlag bs st).2 := by simp [askR]
        rw [hv]
        clear hv
        have c1 := flag_x g1
        have c2 := fun w2 hk => qflag_x (RdX.keep (w' := w2) g2 hk a1)
        generalize rFlag bs st = q1 at *
        obtain ⟨v1, st2⟩ := q1
        try simp only [] at c1 c2 ⊢
        have C1 := Lib.hid c1
        have C2 := Lib.hid c2
        clear c1 c2
        go_enter Try.func29, Try.ntmps29
        go_wp2_with fail
        refine (C1.out).mono ?_
        rintro e x1 ⟨rfl, hr1', hk1⟩
        go_wp2_with fail
        refine (C2.out _ hk1).mono ?_
        rintro e x2 ⟨rfl, hr2', hk2⟩
        go_wp2
        go_ret
        exact ⟨by simp, hr1'.keep hk2 a2, hr2', hW1.trans ((Keep2.of1 hk1).trans (Keep2.of2 hk2))⟩
      · have b3 : (kind == 3) = false := by simp [hk3]
        by_cases hk4 : kind = 4
        · subst hk4
          have hv : askR bs st ⟨4, n, lo, hi, s, f⟩ = (rWithin bs st lo hi).2 := by simp [askR]
          rw [hv]
          clear hv
          have c1 := within_x k1 lo hi
          have c2 := fun w2 hk => qwithin_x (RdX.keep (w' := w2) k2 hk a1) lo hi
          generalize rWithin bs st lo hi = q1 at *
          obtain ⟨v1, st2⟩ := q1
          try simp only [] at c1 c2 ⊢
          have C1 := Lib.hid c1
          have C2 := Lib.hid c2
          clear c1 c2
          go_enter Try.func29, Try.ntmps29
          go_wp2
          go_region_held3 (fun z => Keep2 r q (w.alloc (.cells #[.int .i64 4, .int .i64 n, .int .i64 lo, .int .i64 hi, .string s, .bool f] 41)) z ∧ z.cell? ⟨w.heap.size, 2, none⟩ = some (.int .i64 lo) ∧ z.cell? ⟨w.heap.size, 3, none⟩ = some (.int .i64 hi))
            ((refine (fun hh => ⟨hh, (keepK2 r q w _ _ _ _ _ _ _ _ _ hrl hql hh rfl).2, (keepK2 r q w _ _ _ _ _ _ _ _ _ hrl hql hh rfl).2⟩) ?_; repeat (first | exact Keep2.refl _ _ _ | assumption | refine Keep2.trans ?_ (Keep2.of1 (by assumption)) | refine Keep2.trans ?_ (Keep2.of2 (by assumption)) | refine Keep2.drew ?_)))
            (first
              | (go_at_call 16; (with_reducible refine (C1.out).mono ?_); rintro e x1 ⟨rfl, hr1', hk1⟩)
              | (go_at_call 39; (with_reducible refine (C2.out _ hk1).mono ?_); rintro e x2 ⟨rfl, hr2', hk2⟩))
          all_goals
            go_wp2
            go_ret
            exact ⟨by simp, hr1'.keep hk2 a2, hr2', (hW1.trans (Keep2.drew (Keep2.refl _ _ _))).trans ((Keep2.of1 hk1).trans (Keep2.of2 hk2))⟩
        · have b4 : (kind == 4) = false := by simp [hk4]
          by_cases hk5 : kind = 5
          · subst hk5
            have hv : askR bs st ⟨5, n, lo, hi, s, f⟩ = (rCount bs st hi).2 := by simp [askR]
            rw [hv]
            clear hv
            have c1 := count_x k1 hi
            have c2 := fun w2 hk => qcount_x (RdX.keep (w' := w2) k2 hk a1) hi
            generalize rCount bs st hi = q1 at *
            obtain ⟨v1, st2⟩ := q1
            try simp only [] at c1 c2 ⊢
            have C1 := Lib.hid c1
            have C2 := Lib.hid c2
            clear c1 c2
            go_enter Try.func29, Try.ntmps29
            go_wp2
            go_region_held3 (fun z => Keep2 r q (w.alloc (.cells #[.int .i64 5, .int .i64 n, .int .i64 lo, .int .i64 hi, .string s, .bool f] 41)) z ∧ z.cell? ⟨w.heap.size, 3, none⟩ = some (.int .i64 hi))
              ((refine keepK2 r q w _ _ _ _ _ _ _ _ _ hrl hql ?_ rfl; repeat (first | exact Keep2.refl _ _ _ | assumption | refine Keep2.trans ?_ (Keep2.of1 (by assumption)) | refine Keep2.trans ?_ (Keep2.of2 (by assumption)) | refine Keep2.drew ?_)))
              (first
                | (go_at_call 40; (with_reducible refine (C1.out).mono ?_); rintro e x1 ⟨rfl, hr1', hk1⟩)
                | (go_at_call 41; (with_reducible refine (C2.out _ hk1).mono ?_); rintro e x2 ⟨rfl, hr2', hk2⟩))
            all_goals
              go_wp2
              go_ret
              exact ⟨by simp, hr1'.keep hk2 a2, hr2', (hW1.trans (Keep2.drew (Keep2.refl _ _ _))).trans ((Keep2.of1 hk1).trans (Keep2.of2 hk2))⟩
          · have b5 : (kind == 5) = false := by simp [hk5]
            have HK := Lib.hid (⟨hk1, hk2, hk3, hk4, hk5⟩ : kind ≠ 1 ∧ kind ≠ 2 ∧ kind ≠ 3 ∧ kind ≠ 4 ∧ kind ≠ 5)
            clear hk1 hk2 hk3 hk4 hk5
            have hv : askR bs st ⟨kind, n, lo, hi, s, f⟩ = rEnd bs st := by simp [askR, HK.out]
            rw [hv]
            clear hv
            have c1 := end_x g1
            have c2 := fun w2 hk => qend_x (RdX.keep (w' := w2) g2 hk a1)
            generalize rEnd bs st = q1 at *
            try simp only [] at c1 c2 ⊢
            have C1 := Lib.hid c1
            have C2 := Lib.hid c2
            clear c1 c2
            go_enter Try.func29, Try.ntmps29
            go_wp2_with fail
            refine (C1.out).mono ?_
            rintro e x1 ⟨rfl, hr1', hk1⟩
            go_wp2_with fail
            refine (C2.out _ hk1).mono ?_
            rintro e x2 ⟨rfl, hr2', hk2⟩
            go_wp2
            go_ret
            exact ⟨by simp, hr1'.keep hk2 a2, hr2', hW1.trans ((Keep2.of1 hk1).trans (Keep2.of2 hk2))⟩
end Go.Proofs.Ytmhppikbnobedaa
