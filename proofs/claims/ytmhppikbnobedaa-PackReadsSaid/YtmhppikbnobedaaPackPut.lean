/- Contracts of impostlaw2's put and back: an item written, and read again. -/
import Derived.Test.YtmhppikbnobedaaPackRefW
import Derived.Deep.RegionHeld3
namespace Go.Proofs.Ytmhppikbnobedaa
open Go.RowKit

theorem own8_form {te : TypeId} {w : World} {B : Nat} {v : Value} {l : List UInt8} (h : Own8 te w B v l) : ∃ a cap, v = .slice a l.length cap ∧ l.length ≤ cap ∧ cap ≤ maxLen := by
  rcases h.2 with ⟨rfl, h0⟩ | ⟨g, cap, cur, rfl, _, _, h5, h6, _⟩
  · exact ⟨none, 0, by rw [h0], by omega, Nat.zero_le _⟩
  · exact ⟨_, _, rfl, h5, h6⟩

/-- The beginning of what a slice reads as. -/
theorem Rd8.cut {w : World} {a : Option Addr} {n cap : Nat} {l : List UInt8} (h : Rd8 w (.slice a n cap) l) (k : Nat) (hk : k ≤ l.length) (c : Nat) : Rd8 w (.slice a k c) (l.take k) := by
  obtain ⟨h1, h2, a', cap', he, h3⟩ := h
  simp only [Value.slice.injEq] at he
  obtain ⟨rfl, rfl, rfl⟩ := he
  have hlen : (l.take k).length = k := by simp; omega
  refine ⟨by simp, by omega, a, c, by rw [hlen], ?_⟩
  rw [hlen]
  rcases h3 with h3 | ⟨b, off, rfl, hlt, hc⟩
  · exact .inl (by omega)
  · by_cases hk0 : k = 0
    · exact .inl hk0
    · exact .inr ⟨b, off, rfl, hlt, fun j hj => by rw [hc j (by omega), List.map_take, List.getElem?_take_of_lt (by omega)]⟩

/-- A thing that is written or asked for. -/
structure Itm where
  kind : Int
  n : Int
  lo : Int
  hi : Int
  s : ByteArray
  f : Bool
def Itm.cells (x : Itm) : Array Value := #[.int .i64 x.kind, .int .i64 x.n, .int .i64 x.lo, .int .i64 x.hi, .string x.s, .bool x.f]
def Itm.ok (x : Itm) : Prop := -9223372036854775808 ≤ x.n ∧ x.n ≤ 9223372036854775807 ∧ x.s.size ≤ 140737488351232
def putL (x : Itm) : List UInt8 := if x.kind = 2 then textL x.s else if x.kind = 3 then numL (if x.f then 1 else 0) else numL x.n

theorem six (w x : World) (v0 v1 v2 v3 v4 v5 : Value) (t : TypeId) (h : Ext (w.alloc (.cells #[v0, v1, v2, v3, v4, v5] t)) x) :
    x.cell? ⟨w.heap.size, 0, none⟩ = some v0 ∧ x.cell? ⟨w.heap.size, 1, none⟩ = some v1 ∧ x.cell? ⟨w.heap.size, 2, none⟩ = some v2 ∧ x.cell? ⟨w.heap.size, 3, none⟩ = some v3 ∧ x.cell? ⟨w.heap.size, 4, none⟩ = some v4 ∧ x.cell? ⟨w.heap.size, 5, none⟩ = some v5 := by
  obtain ⟨hc, _⟩ := Ext.bc h
  refine ⟨?_, ?_, ?_, ?_, ?_, ?_⟩ <;> (rw [hc _ _ (by simp), World.cell?_alloc_at _ _ _ _ rfl]; rfl)

theorem keep6 (w : World) (v0 v1 v2 v3 v4 v5 : Value) (t : TypeId) (o : Nat) (v : Value) {x : World} (h : Ext (w.alloc (.cells #[v0, v1, v2, v3, v4, v5] t)) x) (hv : (#[v0, v1, v2, v3, v4, v5] : Array Value)[o]? = some v) :
    Ext (w.alloc (.cells #[v0, v1, v2, v3, v4, v5] t)) x ∧ x.cell? ⟨w.heap.size, o, none⟩ = some v := by
  obtain ⟨hc, _⟩ := Ext.bc h
  refine ⟨h, ?_⟩
  rw [hc _ _ (by simp), World.cell?_alloc_at _ _ _ _ rfl]
  exact hv

set_option maxHeartbeats 4000000 in
set_option maxRecDepth 100000 in
theorem put_any (v : Value) (l : List UInt8) (x : Itm) (w : World) (hr : Rd8 w v l) (hx : x.ok) (h2 : l.length + (if x.kind = 2 then x.s.size else 0) ≤ 140737488355300) :
    Calls Try.prog 23 #[v, .agg x.cells] w fun e w' => ∃ v1 v2, e = .returned (.tuple #[v1, v2]) ∧ Own8 5 w' w.heap.size v1 (l ++ putL x) ∧ Own8 5 w' w.heap.size v2 (l ++ putL x) ∧ Ext w w' := by
  obtain ⟨kind, n, lo, hi, s, f⟩ := x
  obtain ⟨hn0, hn1, hs⟩ := hx
  simp only [Itm.cells] at hs hn0 hn1 h2 ⊢
  have hW1 : Ext w (w.alloc (.cells #[.int .i64 kind, .int .i64 n, .int .i64 lo, .int .i64 hi, .string s, .bool f] 41)) := (Ext.refl w).alloc _
  have hW1 : Ext w (w.alloc (.cells #[.int .i64 kind, .int .i64 n, .int .i64 lo, .int .i64 hi, .string s, .bool f] 41)) := (Ext.refl w).alloc _
  by_cases hk2 : kind = 2
  · subst hk2
    simp only [if_true] at h2
    go_enter Try.func23, Try.ntmps23
    go_wp2
    go_region_held3 (fun z => Ext (w.alloc (.cells #[.int .i64 2, .int .i64 n, .int .i64 lo, .int .i64 hi, .string s, .bool f] 41)) z ∧ z.cell? ⟨w.heap.size, 4, none⟩ = some (.string s))
      ((refine keep6 w _ _ _ _ _ _ _ _ _ ?_ rfl; repeat (first | exact Ext.refl _ | assumption | refine Ext.trans ?_ (by assumption) | refine Ext.alloc ?_ _ | refine Ext.drew ?_ | refine Ext.drewN ?_ _)))
      (first
        | (go_at_call 12; (with_reducible refine (text_any _ l s _ (hr.ext (by repeat (first | exact Ext.refl _ | assumption | refine Ext.trans ?_ (by assumption) | refine Ext.alloc ?_ _ | refine Ext.drew ?_ | refine Ext.drewN ?_ _))) (by omega)).mono ?_); rintro e x1 ⟨v1, rfl, ho1, hx1⟩)
        | (go_at_call 33; (with_reducible refine (reftext_any _ l s _ (hr.ext (by repeat (first | exact Ext.refl _ | assumption | refine Ext.trans ?_ (by assumption) | refine Ext.alloc ?_ _ | refine Ext.drew ?_ | refine Ext.drewN ?_ _))) (by omega)).mono ?_); rintro e x2 ⟨v2, rfl, ho2, hx2⟩))
    all_goals
      go_wp2
      go_ret2
      have hL : putL ⟨2, n, lo, hi, s, f⟩ = textL s := by simp [putL]
      have z1 := (Ext.trans hW1.drew hx1).size
      rw [hL]
      exact ⟨v1, v2, rfl, own8_base (own_ext ho1 hx2) hW1.drew.size, own8_base ho2 z1, (by repeat (first | exact Ext.refl _ | assumption | refine Ext.trans ?_ (by assumption) | refine Ext.alloc ?_ _ | refine Ext.drew ?_ | refine Ext.drewN ?_ _))⟩
  · rw [if_neg hk2] at h2
    by_cases hk3 : kind = 3
    · subst hk3
      go_enter Try.func23, Try.ntmps23
      go_wp2
      go_region_held3 (fun z => Ext (w.alloc (.cells #[.int .i64 3, .int .i64 n, .int .i64 lo, .int .i64 hi, .string s, .bool f] 41)) z ∧ z.cell? ⟨w.heap.size, 5, none⟩ = some (.bool f))
        ((refine keep6 w _ _ _ _ _ _ _ _ _ ?_ rfl; repeat (first | exact Ext.refl _ | assumption | refine Ext.trans ?_ (by assumption) | refine Ext.alloc ?_ _ | refine Ext.drew ?_ | refine Ext.drewN ?_ _)))
        (first
          | (go_at_call 13; (with_reducible refine (flag_any _ l f _ (hr.ext (by repeat (first | exact Ext.refl _ | assumption | refine Ext.trans ?_ (by assumption) | refine Ext.alloc ?_ _ | refine Ext.drew ?_ | refine Ext.drewN ?_ _))) (by omega)).mono ?_); rintro e x1 ⟨v1, rfl, ho1, hx1⟩)
          | (go_at_call 34; (with_reducible refine (refflag_any _ l f _ (hr.ext (by repeat (first | exact Ext.refl _ | assumption | refine Ext.trans ?_ (by assumption) | refine Ext.alloc ?_ _ | refine Ext.drew ?_ | refine Ext.drewN ?_ _))) (by omega)).mono ?_); rintro e x2 ⟨v2, rfl, ho2, hx2⟩))
      all_goals
        go_wp2
        go_ret2
        have hL : putL ⟨3, n, lo, hi, s, f⟩ = numL (if f then 1 else 0) := by simp [putL]
        have z1 := (Ext.trans hW1.drew hx1).size
        rw [hL]
        exact ⟨v1, v2, rfl, own8_base (own_ext ho1 hx2) hW1.drew.size, own8_base ho2 z1, (by repeat (first | exact Ext.refl _ | assumption | refine Ext.trans ?_ (by assumption) | refine Ext.alloc ?_ _ | refine Ext.drew ?_ | refine Ext.drewN ?_ _))⟩
    · have hk2b : (kind == 2) = false := by simp [hk2]
      have hk3b : (kind == 3) = false := by simp [hk3]
      have HK2 := Lib.hid hk2
      have HK3 := Lib.hid hk3
      go_enter Try.func23, Try.ntmps23
      go_wp2
      go_region_held3 (fun z => Ext (w.alloc (.cells #[.int .i64 kind, .int .i64 n, .int .i64 lo, .int .i64 hi, .string s, .bool f] 41)) z ∧ z.cell? ⟨w.heap.size, 1, none⟩ = some (.int .i64 n))
        ((refine keep6 w _ _ _ _ _ _ _ _ _ ?_ rfl; repeat (first | exact Ext.refl _ | assumption | refine Ext.trans ?_ (by assumption) | refine Ext.alloc ?_ _ | refine Ext.drew ?_ | refine Ext.drewN ?_ _)))
        (first
          | (go_at_call 11; (with_reducible refine (num_any _ l n _ (hr.ext (by repeat (first | exact Ext.refl _ | assumption | refine Ext.trans ?_ (by assumption) | refine Ext.alloc ?_ _ | refine Ext.drew ?_ | refine Ext.drewN ?_ _))) hn0 hn1 (by omega)).mono ?_); rintro e x1 ⟨v1, rfl, ho1, hx1⟩)
          | (go_at_call 35; (with_reducible refine (refnum_any _ l n _ (hr.ext (by repeat (first | exact Ext.refl _ | assumption | refine Ext.trans ?_ (by assumption) | refine Ext.alloc ?_ _ | refine Ext.drew ?_ | refine Ext.drewN ?_ _))) hn0 hn1 (by omega)).mono ?_); rintro e x2 ⟨v2, rfl, ho2, hx2⟩))
      all_goals
        go_wp2
        go_ret2
        have hL : putL ⟨kind, n, lo, hi, s, f⟩ = numL n := by simp [putL, HK2.out, HK3.out]
        have z1 := (Ext.trans hW1.drew hx1).size
        rw [hL]
        exact ⟨v1, v2, rfl, own8_base (own_ext ho1 hx2) hW1.drew.size, own8_base ho2 z1, (by repeat (first | exact Ext.refl _ | assumption | refine Ext.trans ?_ (by assumption) | refine Ext.alloc ?_ _ | refine Ext.drew ?_ | refine Ext.drewN ?_ _))⟩
/-- An item read again: is it that? -/
def backR (bs : List UInt8) (st : RS) (x : Itm) : Bool × RS :=
  if x.kind = 2 then (decide ((rText bs st x.s.size).1 = bytesOf x.s), (rText bs st x.s.size).2)
  else if x.kind = 3 then ((rFlag bs st).1 == x.f, (rFlag bs st).2)
  else if x.kind = 4 then ((rWithin bs st x.n x.n).1 == x.n, (rWithin bs st x.n x.n).2)
  else ((rNum bs st).1 == x.n, (rNum bs st).2)

theorem keepK (r : Nat) (w : World) (v0 v1 v2 v3 v4 v5 : Value) (t : TypeId) (o : Nat) (v : Value) {x : World} (hr : r < w.heap.size) (h : KeepR r (w.alloc (.cells #[v0, v1, v2, v3, v4, v5] t)) x) (hv : (#[v0, v1, v2, v3, v4, v5] : Array Value)[o]? = some v) :
    KeepR r (w.alloc (.cells #[v0, v1, v2, v3, v4, v5] t)) x ∧ x.cell? ⟨w.heap.size, o, none⟩ = some v := by
  refine ⟨h, ?_⟩
  rw [World.cell?_of_block (w := w.alloc (.cells #[v0, v1, v2, v3, v4, v5] t)) (a := ⟨w.heap.size, o, none⟩) (h.block w.heap.size (by simp) (by omega)), World.cell?_alloc_at _ _ _ _ rfl]
  exact hv
theorem KeepR.alloc {r : Nat} {a b : World} (h : KeepR r a b) (o : Obj) : KeepR r a (b.alloc o) := h.trans (KeepR.of_ext ((Ext.refl b).alloc o))
theorem str_eq (l : List UInt8) (s : ByteArray) : (l == s.toList) = decide (l = bytesOf s) := by
  rw [ByteArray.toList_eq]
  unfold bytesOf
  rw [Bool.eq_iff_iff, beq_iff_eq, decide_eq_true_iff]

set_option maxHeartbeats 4000000 in
set_option maxRecDepth 100000 in
theorem back_any (B T r : Nat) (bs : List UInt8) (st : RS) (x : Itm) (w : World) (h : RdX B T w r bs st) :
    Calls Try.prog 25 #[.pointer (some ⟨r, 0, none⟩), .agg x.cells] w fun e w' => e = .returned (.bool (backR bs st x).1) ∧ RdX B T w' r bs (backR bs st x).2 ∧ KeepR r w w' := by
  obtain ⟨kind, n, lo, hi, s, f⟩ := x
  have hrl := h.r_in.2.2.1
  have hW1 : KeepR r w (w.alloc (.cells #[.int .i64 kind, .int .i64 n, .int .i64 lo, .int .i64 hi, .string s, .bool f] 41)) := (KeepR.refl r w).alloc _
  have h1 : RdX B T (w.alloc (.cells #[.int .i64 kind, .int .i64 n, .int .i64 lo, .int .i64 hi, .string s, .bool f] 41)) r bs st := h.ext ((Ext.refl w).alloc _)
  simp only [Itm.cells]
  by_cases hk2 : kind = 2
  · subst hk2
    have hv : backR bs st ⟨2, n, lo, hi, s, f⟩ = (decide ((rText bs st s.size).1 = bytesOf s), (rText bs st s.size).2) := by simp [backR]
    rw [hv]
    clear hv
    have hse := str_eq (rText bs st s.size).1 s
    simp only []
    have hcall := text_x (h1.ext ((Ext.refl _).drew)) (s.size : Int)
    generalize hq : rText bs st s.size = q at *
    clear hq
    obtain ⟨l, st2⟩ := q
    simp only [] at hcall hse ⊢
    generalize decide (l = bytesOf s) = d at *
    have HC := Lib.hid hcall
    clear hcall
    go_enter Try.func25, Try.ntmps25
    go_wp2
    go_region_held3 (fun z => KeepR r (w.alloc (.cells #[.int .i64 2, .int .i64 n, .int .i64 lo, .int .i64 hi, .string s, .bool f] 41)) z ∧ z.cell? ⟨w.heap.size, 4, none⟩ = some (.string s))
      ((refine keepK r w _ _ _ _ _ _ _ _ _ hrl ?_ rfl; repeat (first | exact KeepR.refl _ _ | assumption | refine KeepR.trans ?_ (by assumption) | refine KeepR.drew ?_)))
      (first
        | (go_at_call 19; (with_reducible refine (HC.out).mono ?_); rintro e x1 ⟨rfl, hr1, hk1⟩))
    all_goals
      go_wp2
      go_ret
      exact ⟨rfl, hr1, by repeat (first | exact KeepR.refl _ _ | assumption | refine KeepR.trans ?_ (by assumption) | refine KeepR.drew ?_)⟩
  · by_cases hk3 : kind = 3
    · subst hk3
      have hv : backR bs st ⟨3, n, lo, hi, s, f⟩ = ((rFlag bs st).1 == f, (rFlag bs st).2) := by simp [backR]
      rw [hv]
      clear hv
      simp only []
      have hcall := flag_x (h1.ext ((Ext.refl _).drew))
      generalize hq : rFlag bs st = q at *
      clear hq
      obtain ⟨l, st2⟩ := q
      simp only [] at hcall ⊢
      have HC := Lib.hid hcall
      clear hcall
      go_enter Try.func25, Try.ntmps25
      go_wp2
      go_region_held3 (fun z => KeepR r (w.alloc (.cells #[.int .i64 3, .int .i64 n, .int .i64 lo, .int .i64 hi, .string s, .bool f] 41)) z ∧ z.cell? ⟨w.heap.size, 5, none⟩ = some (.bool f))
        ((refine keepK r w _ _ _ _ _ _ _ _ _ hrl ?_ rfl; repeat (first | exact KeepR.refl _ _ | assumption | refine KeepR.trans ?_ (by assumption) | refine KeepR.drew ?_)))
        (first
          | (go_at_call 20; (with_reducible refine (HC.out).mono ?_); rintro e x1 ⟨rfl, hr1, hk1⟩))
      all_goals
        go_wp2
        go_ret
        exact ⟨rfl, hr1, by repeat (first | exact KeepR.refl _ _ | assumption | refine KeepR.trans ?_ (by assumption) | refine KeepR.drew ?_)⟩
    · by_cases hk4 : kind = 4
      · subst hk4
        have hv : backR bs st ⟨4, n, lo, hi, s, f⟩ = ((rWithin bs st n n).1 == n, (rWithin bs st n n).2) := by simp [backR]
        rw [hv]
        clear hv
        simp only []
        have hcall := within_x (h1.ext ((Ext.refl _).drew)) n n
        generalize hq : rWithin bs st n n = q at *
        clear hq
        obtain ⟨l, st2⟩ := q
        simp only [] at hcall ⊢
        have HC := Lib.hid hcall
        clear hcall
        go_enter Try.func25, Try.ntmps25
        go_wp2
        go_region_held3 (fun z => KeepR r (w.alloc (.cells #[.int .i64 4, .int .i64 n, .int .i64 lo, .int .i64 hi, .string s, .bool f] 41)) z ∧ z.cell? ⟨w.heap.size, 1, none⟩ = some (.int .i64 n))
          ((refine keepK r w _ _ _ _ _ _ _ _ _ hrl ?_ rfl; repeat (first | exact KeepR.refl _ _ | assumption | refine KeepR.trans ?_ (by assumption) | refine KeepR.drew ?_)))
          (first
            | (go_at_call 16; (with_reducible refine (HC.out).mono ?_); rintro e x1 ⟨rfl, hr1, hk1⟩))
        all_goals
          go_wp2
          go_ret
          exact ⟨rfl, hr1, by repeat (first | exact KeepR.refl _ _ | assumption | refine KeepR.trans ?_ (by assumption) | refine KeepR.drew ?_)⟩
      · have hk2b : (kind == 2) = false := by simp [hk2]
        have hk3b : (kind == 3) = false := by simp [hk3]
        have hk4b : (kind == 4) = false := by simp [hk4]
        have HK := Lib.hid (And.intro hk2 (And.intro hk3 hk4))
        clear hk2 hk3 hk4
        have hv : backR bs st ⟨kind, n, lo, hi, s, f⟩ = ((rNum bs st).1 == n, (rNum bs st).2) := by simp [backR, HK.out.1, HK.out.2.1, HK.out.2.2]
        rw [hv]
        clear hv
        simp only []
        have hcall := num_x (h1.ext ((Ext.refl _).drew))
        generalize hq : rNum bs st = q at *
        clear hq
        obtain ⟨l, st2⟩ := q
        simp only [] at hcall ⊢
        have HC := Lib.hid hcall
        clear hcall
        go_enter Try.func25, Try.ntmps25
        go_wp2
        go_region_held3 (fun z => KeepR r (w.alloc (.cells #[.int .i64 kind, .int .i64 n, .int .i64 lo, .int .i64 hi, .string s, .bool f] 41)) z ∧ z.cell? ⟨w.heap.size, 1, none⟩ = some (.int .i64 n))
          ((refine keepK r w _ _ _ _ _ _ _ _ _ hrl ?_ rfl; repeat (first | exact KeepR.refl _ _ | assumption | refine KeepR.trans ?_ (by assumption) | refine KeepR.drew ?_)))
          (first
            | (go_at_call 27; (with_reducible refine (HC.out).mono ?_); rintro e x1 ⟨rfl, hr1, hk1⟩))
        all_goals
          go_wp2
          go_ret
          exact ⟨rfl, hr1, by repeat (first | exact KeepR.refl _ _ | assumption | refine KeepR.trans ?_ (by assumption) | refine KeepR.drew ?_)⟩
end Go.Proofs.Ytmhppikbnobedaa
