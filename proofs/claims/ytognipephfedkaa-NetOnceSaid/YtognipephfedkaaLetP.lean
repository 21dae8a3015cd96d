/- Package letter: Put. (Written by genPut.py.) -/
import Derived.Test.YtognipephfedkaaLetH
import Derived.Test.YtognipephfedkaaPackW
import Derived.Deep.RegionHeld3
import Derived.Deep.Cut
namespace Go.Proofs.Ytognipephfedkaa
open Go.RowKit

theorem m_keep (w : World) (kind fr to te ix at_ co me off sz : Int) (yes : Bool) (data : ByteArray) (a : Option Addr) (n c : Nat) : ∀ z, Ext (w.alloc (.cells #[.int .i64 kind, .int .i64 fr, .int .i64 to, .int .i64 te, .int .i64 ix, .int .i64 at_, .int .i64 co, .int .i64 me, .int .i64 off, .int .i64 sz, .bool yes, .string data, .slice a n c] 27)) z → Ext w z ∧ w.heap.size < z.heap.size ∧ z.cell? ⟨w.heap.size, 0, none⟩ = some (.int .i64 kind) ∧ z.cell? ⟨w.heap.size, 1, none⟩ = some (.int .i64 fr) ∧ z.cell? ⟨w.heap.size, 2, none⟩ = some (.int .i64 to) ∧ z.cell? ⟨w.heap.size, 3, none⟩ = some (.int .i64 te) ∧ z.cell? ⟨w.heap.size, 4, none⟩ = some (.int .i64 ix) ∧ z.cell? ⟨w.heap.size, 5, none⟩ = some (.int .i64 at_) ∧ z.cell? ⟨w.heap.size, 6, none⟩ = some (.int .i64 co) ∧ z.cell? ⟨w.heap.size, 7, none⟩ = some (.int .i64 me) ∧ z.cell? ⟨w.heap.size, 8, none⟩ = some (.int .i64 off) ∧ z.cell? ⟨w.heap.size, 9, none⟩ = some (.int .i64 sz) ∧ z.cell? ⟨w.heap.size, 10, none⟩ = some (.bool yes) ∧ z.cell? ⟨w.heap.size, 11, none⟩ = some (.string data) ∧ z.cell? ⟨w.heap.size, 12, none⟩ = some (.slice a n c) := by
  intro z hz
  have h0 : w.heap.size < (w.alloc (.cells #[.int .i64 kind, .int .i64 fr, .int .i64 to, .int .i64 te, .int .i64 ix, .int .i64 at_, .int .i64 co, .int .i64 me, .int .i64 off, .int .i64 sz, .bool yes, .string data, .slice a n c] 27)).heap.size := by simp
  refine ⟨Ext.trans ((Ext.refl w).alloc _) hz, Nat.lt_of_lt_of_le h0 hz.size, ?_, ?_, ?_, ?_, ?_, ?_, ?_, ?_, ?_, ?_, ?_, ?_, ?_⟩
  · rw [hz.cell (p := ⟨w.heap.size, 0, none⟩) h0]; simp [go_sem]
  · rw [hz.cell (p := ⟨w.heap.size, 1, none⟩) h0]; simp [go_sem]
  · rw [hz.cell (p := ⟨w.heap.size, 2, none⟩) h0]; simp [go_sem]
  · rw [hz.cell (p := ⟨w.heap.size, 3, none⟩) h0]; simp [go_sem]
  · rw [hz.cell (p := ⟨w.heap.size, 4, none⟩) h0]; simp [go_sem]
  · rw [hz.cell (p := ⟨w.heap.size, 5, none⟩) h0]; simp [go_sem]
  · rw [hz.cell (p := ⟨w.heap.size, 6, none⟩) h0]; simp [go_sem]
  · rw [hz.cell (p := ⟨w.heap.size, 7, none⟩) h0]; simp [go_sem]
  · rw [hz.cell (p := ⟨w.heap.size, 8, none⟩) h0]; simp [go_sem]
  · rw [hz.cell (p := ⟨w.heap.size, 9, none⟩) h0]; simp [go_sem]
  · rw [hz.cell (p := ⟨w.heap.size, 10, none⟩) h0]; simp [go_sem]
  · rw [hz.cell (p := ⟨w.heap.size, 11, none⟩) h0]; simp [go_sem]
  · rw [hz.cell (p := ⟨w.heap.size, 12, none⟩) h0]; simp [go_sem]

theorem keepE3 {w z : World} {b : Nat} {v0 v1 v2 : Value} (hb : b < w.heap.size) (h0 : w.cell? ⟨b, 10, none⟩ = some v0) (h1 : w.cell? ⟨b, 11, none⟩ = some v1) (h2 : w.cell? ⟨b, 12, none⟩ = some v2) (h : Ext w z) : Ext w z ∧ z.cell? ⟨b, 10, none⟩ = some v0 ∧ z.cell? ⟨b, 11, none⟩ = some v1 ∧ z.cell? ⟨b, 12, none⟩ = some v2 :=
  ⟨h, (h.cell (p := ⟨b, 10, none⟩) hb).trans h0, (h.cell (p := ⟨b, 11, none⟩) hb).trans h1, (h.cell (p := ⟨b, 12, none⟩) hb).trans h2⟩
theorem keepX3 {w z : World} {b : Nat} {v0 v1 v2 : Value} (hb : b < w.heap.size) (h0 : w.cell? ⟨b, 0, none⟩ = some v0) (h1 : w.cell? ⟨b, 1, none⟩ = some v1) (h2 : w.cell? ⟨b, 2, none⟩ = some v2) (h : Ext w z) : Ext w z ∧ z.cell? ⟨b, 0, none⟩ = some v0 ∧ z.cell? ⟨b, 1, none⟩ = some v1 ∧ z.cell? ⟨b, 2, none⟩ = some v2 :=
  ⟨h, (h.cell (p := ⟨b, 0, none⟩) hb).trans h0, (h.cell (p := ⟨b, 1, none⟩) hb).trans h1, (h.cell (p := ⟨b, 2, none⟩) hb).trans h2⟩

set_option maxHeartbeats 16000000 in
set_option maxRecDepth 100000 in
theorem lput_yes (m : Lt) (a : Option Addr) (c n : Nat) (es : List Ent) (hn : es.length = n) (w : World) (hl : SlS Ent.cells 3 w (.slice a n c) es) (hR : RightP m es) : Calls Try.prog 19 #[m.agg (.slice a n c)] w fun e w' => ∃ v, e = .returned v ∧ Own8 5 w' w.heap.size v (ltL m es) ∧ Ext w w' := by
  obtain ⟨kind, fr, to, te, ix, at_, co, me, off, sz, yes, data⟩ := m
  have hsm := (right_small hR).1
  have hright := fun z (hz : Ext w z) => lright_is ⟨kind, fr, to, te, ix, at_, co, me, off, sz, yes, data⟩ a c n es hn true ⟨fun _ => hR, fun _ => rfl⟩ z (SlS.ext hl hz)
  simp only [Lt.agg] at hright ⊢
  have HR := Lib.hid hright
  have HS := Lib.hid hsm
  have HL := Lib.hid hl
  have HN := Lib.hid hn
  have hn20 : n ≤ 20 := by have := hsm.few; omega
  have hd1 : data.size ≤ 1048576 := hsm.data
  have HM := Lib.hid (m_keep w kind fr to te ix at_ co me off sz yes data a n c)
  clear hright hsm hl hR hn
  go_enter Try.func19, Try.ntmps19
  go_wp2_with (go_at_call 28; refine (HR.out _ ((Ext.refl w).alloc _)).mono ?_; rintro e x1 ⟨rfl, hx1⟩; obtain ⟨hX1, hz1, c0, c1, c2, c3, c4, c5, c6, c7, c8, c9, c10, c11, c12⟩ := HM.out _ hx1)
  have HX1 := Lib.hid hx1
  have hP : (x1.alloc (.cells #[.int .i64 kind, .int .i64 fr, .int .i64 to, .int .i64 te, .int .i64 ix, .int .i64 at_, .int .i64 co, .int .i64 me, .int .i64 off, .int .i64 sz] 3)).heap[x1.heap.size]? = some (.cells (((headL ⟨kind, fr, to, te, ix, at_, co, me, off, sz, yes, data⟩).map (Value.int .i64)).toArray) 3 (0, 0)) := heap_alloc_new x1 _
  have HM2 : Hid (∀ z, Ext (x1.alloc (.cells #[.int .i64 kind, .int .i64 fr, .int .i64 to, .int .i64 te, .int .i64 ix, .int .i64 at_, .int .i64 co, .int .i64 me, .int .i64 off, .int .i64 sz] 3)) z → Ext (w.alloc (.cells #[.int .i64 kind, .int .i64 fr, .int .i64 to, .int .i64 te, .int .i64 ix, .int .i64 at_, .int .i64 co, .int .i64 me, .int .i64 off, .int .i64 sz, .bool yes, .string data, .slice a n c] 27)) z) := Lib.hid fun z hz => Ext.trans (HX1.out.alloc _) hz
  have hPlt : x1.heap.size < (x1.alloc (.cells #[.int .i64 kind, .int .i64 fr, .int .i64 to, .int .i64 te, .int .i64 ix, .int .i64 at_, .int .i64 co, .int .i64 me, .int .i64 off, .int .i64 sz] 3)).heap.size := by simp
  have HP := Lib.hid hP
  have hXL : Ext w (x1.alloc (.cells #[.int .i64 kind, .int .i64 fr, .int .i64 to, .int .i64 te, .int .i64 ix, .int .i64 at_, .int .i64 co, .int .i64 me, .int .i64 off, .int .i64 sz] 3)) := hX1.alloc _
  clear hP c0 c1 c2 c3 c4 c5 c6 c7 c8 c9 c10 c11 c12 hX1 hz1 hx1
  generalize (x1.alloc (.cells #[.int .i64 kind, .int .i64 fr, .int .i64 to, .int .i64 te, .int .i64 ix, .int .i64 at_, .int .i64 co, .int .i64 me, .int .i64 off, .int .i64 sz] 3)) = Y at *
  go_loopw [3, 33] (fun bv iv wr => ∃ k : Nat, k ≤ 10 ∧ iv = .int .i64 (k : Int) ∧ Own8 5 wr w.heap.size bv (((headL ⟨kind, fr, to, te, ix, at_, co, me, off, sz, yes, data⟩).take k).flatMap numL) ∧ Ext Y wr) (fun _ iv _ => 10 - (intOf iv).toNat)
  case atStart => exact ⟨0, by omega, rfl, World.ownsRow_nil _ _ _ _, Ext.refl _⟩
  case round =>
    obtain ⟨k, hk, rfl, ho, hxr⟩ := hrel
    have HO := Lib.hid ho
    clear ho
    by_cases hlt : k < 10
    · have hki : (k : Int) < 10 := by omega
      have hki0 : (0 : Int) ≤ (k : Int) := by omega
      have hkl : k < (headL ⟨kind, fr, to, te, ix, at_, co, me, off, sz, yes, data⟩).length := hlt
      have hcell : wr.cell? ⟨x1.heap.size, k, none⟩ = some (.int .i64 (headL ⟨kind, fr, to, te, ix, at_, co, me, off, sz, yes, data⟩)[k]) := by
        rw [hxr.cell (p := ⟨x1.heap.size, k, none⟩) hPlt]
        simp only [World.cell?, HP.out]
        simp [hkl]
      obtain ⟨hb1, hb2⟩ := HS.out.head _ (List.getElem_mem hkl)
      have HT := Lib.hid (heads_take ⟨kind, fr, to, te, ix, at_, co, me, off, sz, yes, data⟩ k hkl)
      have hln : (((headL ⟨kind, fr, to, te, ix, at_, co, me, off, sz, yes, data⟩).take k).flatMap numL).length ≤ 100 := by
        have := nums_len 10 ((headL ⟨kind, fr, to, te, ix, at_, co, me, off, sz, yes, data⟩).take k) (by rw [List.length_take]; simp [headL]; omega)
        omega
      have hsz := (hXL.trans hxr).size
      generalize (headL ⟨kind, fr, to, te, ix, at_, co, me, off, sz, yes, data⟩)[k] = N at *
      go_wp2_with (go_at_call 29; (refine (num_any _ _ N _ HO.out.rd hb1 hb2 (by omega)).mono ?_); rintro e y ⟨v', rfl, hov, hy⟩)
      go_roundw
      case rel => exact ⟨k + 1, by omega, by simp, by rw [HT.out]; exact own8_base hov hsz, hxr.trans hy⟩
      case measure => simp [intOf]; omega
    · have hki : ¬ (k : Int) < 10 := by omega
      obtain rfl : k = 10 := by omega
      have HO1 : Hid (Own8 5 wr w.heap.size u3 ((headL ⟨kind, fr, to, te, ix, at_, co, me, off, sz, yes, data⟩).flatMap numL)) := Lib.hid (by have := HO.out; rwa [List.take_of_length_le (by simp [headL])] at this)
      have hXr := hXL.trans hxr
      obtain ⟨_, hzr, c0, c1, c2, c3, c4, c5, c6, c7, c8, c9, c10, c11, c12⟩ := HM.out _ (HM2.out _ hxr)
      have hszr := hXr.size
      have hl0 : ((headL ⟨kind, fr, to, te, ix, at_, co, me, off, sz, yes, data⟩).flatMap numL).length ≤ 100 := by
        have := nums_len 10 (headL ⟨kind, fr, to, te, ix, at_, co, me, off, sz, yes, data⟩) (by simp [headL])
        omega
      have hl1 : ((headL ⟨kind, fr, to, te, ix, at_, co, me, off, sz, yes, data⟩).flatMap numL ++ numL (if yes then 1 else 0)).length ≤ 110 := by
        have := (numL_len (if yes then 1 else 0)).2
        rw [List.length_append]; omega
      have hl2 : ((headL ⟨kind, fr, to, te, ix, at_, co, me, off, sz, yes, data⟩).flatMap numL ++ numL (if yes then 1 else 0) ++ textL data).length ≤ 1048700 := by
        have := textL_len data
        rw [List.length_append]; omega
      clear HO
      go_wp2_with fail
      go_region_held3 (fun z => Ext wr z ∧ z.cell? ⟨w.heap.size, 10, none⟩ = some (.bool yes) ∧ z.cell? ⟨w.heap.size, 11, none⟩ = some (.string data) ∧ z.cell? ⟨w.heap.size, 12, none⟩ = some (.slice a n c))
        ((refine keepE3 hzr c10 c11 c12 ?_; repeat (first | exact Ext.refl _ | assumption | refine Ext.trans ?_ (by assumption) | refine Ext.alloc ?_ _ | refine Ext.drew ?_ | refine Ext.drewN ?_ _)))
        (first
          | (go_at_call 31; (with_reducible refine (flag_any _ _ yes _ (HO1.out.rd.ext (by repeat (first | exact Ext.refl _ | assumption | refine Ext.trans ?_ (by assumption) | refine Ext.alloc ?_ _ | refine Ext.drew ?_ | refine Ext.drewN ?_ _))) (by omega)).mono ?_); rintro e x2 ⟨v2, rfl, ho2, hx2⟩)
          | (go_at_call 30; (with_reducible refine (text_any _ _ data _ (ho2.rd.ext (by repeat (first | exact Ext.refl _ | assumption | refine Ext.trans ?_ (by assumption) | refine Ext.alloc ?_ _ | refine Ext.drew ?_ | refine Ext.drewN ?_ _))) (by omega)).mono ?_); rintro e x3 ⟨v3, rfl, ho3, hx3⟩)
          | (go_at_call 29; (with_reducible refine (num_any _ _ (n : Int) _ (ho3.rd.ext (by repeat (first | exact Ext.refl _ | assumption | refine Ext.trans ?_ (by assumption) | refine Ext.alloc ?_ _ | refine Ext.drew ?_ | refine Ext.drewN ?_ _))) (by omega) (by omega) (by omega)).mono ?_); rintro e x4 ⟨v4, rfl, ho4, hx4⟩))
      have HS4 : Hid (Own8 5 x4 w.heap.size v4 (startL ⟨kind, fr, to, te, ix, at_, co, me, off, sz, yes, data⟩ n)) := Lib.hid (own8_base ho4 (by have := hx2.size; have := hx3.size; simp at *; omega))
      have hX4 : Ext w x4 := Ext.trans hXr.drew (hx2.trans (hx3.trans hx4))
      have d12 := ((Ext.trans (Ext.refl wr).drew (hx2.trans (hx3.trans hx4))).cell (p := ⟨w.heap.size, 12, none⟩) hzr).trans c12
      clear ho2 ho3 ho4 HO1
      go_wp2_with fail
      clear d12
      go_loopw [3, 55] (fun bv iv wq => ∃ k : Nat, k ≤ n ∧ iv = .int .i64 (k : Int) ∧ Hid (Own8 5 wq w.heap.size bv (startL ⟨kind, fr, to, te, ix, at_, co, me, off, sz, yes, data⟩ n ++ (es.take k).flatMap entL)) ∧ Ext x4 wq) (fun _ iv _ => n - (intOf iv).toNat)
      case atStart => exact ⟨0, by omega, rfl, Lib.hid (by simpa using HS4.out), Ext.refl _⟩
      case round =>
        rename World => wq
        obtain ⟨k, hk, rfl, HOK, hxq⟩ := hrel
        have hXq := hX4.trans hxq
        have hszq := hXq.size
        by_cases hlt2 : k < n
        · have hki : (k : Int) < (n : Int) := by omega
          have hki0 : (0 : Int) ≤ (k : Int) := by omega
          have hkl : k < es.length := by have := HN.out; omega
          have hL2 := HL.out
          rw [← HN.out] at hL2
          obtain ⟨b1, o1, rfl, hb1, hc1⟩ := SlS.at_ Ent.three hL2 (by omega) (by decide)
          have dd := fun j hj => (hXq.cell (p := ⟨b1, o1 + k * 3 + j, none⟩) hb1).trans (hc1 k hkl j hj)
          have hE1 : startL ⟨kind, fr, to, te, ix, at_, co, me, off, sz, yes, data⟩ n ++ (es.take (k + 1)).flatMap entL = startL ⟨kind, fr, to, te, ix, at_, co, me, off, sz, yes, data⟩ n ++ (es.take k).flatMap entL ++ numL es[k].term ++ numL es[k].members ++ textL es[k].data := by rw [ents_take es k hkl, entL]; simp [List.append_assoc]
          obtain ⟨⟨e1, e2⟩, ⟨e3, e4⟩, e5⟩ := HS.out.ents _ (List.getElem_mem hkl)
          have hln := HS.out.mid k
          rw [HN.out] at hln
          generalize es[k] = x at *
          have a0 : wq.cell? ⟨b1, o1 + k * 3, none⟩ = some (.int .i64 x.term) := dd 0 (by decide)
          have a1 : wq.cell? ⟨b1, o1 + k * 3 + 1, none⟩ = some (.int .i64 x.members) := dd 1 (by decide)
          have a2 : wq.cell? ⟨b1, o1 + k * 3 + 2, none⟩ = some (.string x.data) := dd 2 (by decide)
          have HE1 := Lib.hid hE1
          clear dd hc1 hL2 hE1
          generalize startL ⟨kind, fr, to, te, ix, at_, co, me, off, sz, yes, data⟩ n ++ (es.take k).flatMap entL = L at *
          have f1 : (L ++ numL x.term).length ≤ 30000010 := by
            have := (numL_len x.term).2
            rw [List.length_append]; omega
          have f2 : (L ++ numL x.term ++ numL x.members).length ≤ 30000020 := by
            have := (numL_len x.members).2
            rw [List.length_append]; omega
          go_wp2_with fail
          have hzq : wq.heap.size < (wq.alloc (.cells #[.int .i64 x.term, .int .i64 x.members, .string x.data] 49)).heap.size := by simp
          have k0 : (wq.alloc (.cells #[.int .i64 x.term, .int .i64 x.members, .string x.data] 49)).cell? ⟨wq.heap.size, 0, none⟩ = some (.int .i64 x.term) := by simp [go_sem]
          have k1 : (wq.alloc (.cells #[.int .i64 x.term, .int .i64 x.members, .string x.data] 49)).cell? ⟨wq.heap.size, 1, none⟩ = some (.int .i64 x.members) := by simp [go_sem]
          have k2 : (wq.alloc (.cells #[.int .i64 x.term, .int .i64 x.members, .string x.data] 49)).cell? ⟨wq.heap.size, 2, none⟩ = some (.string x.data) := by simp [go_sem]
          have HQL := Lib.hid (HOK.out.rd.ext ((Ext.refl wq).alloc (.cells #[.int .i64 x.term, .int .i64 x.members, .string x.data] 49)))
          have hXA : Ext wq (wq.alloc (.cells #[.int .i64 x.term, .int .i64 x.members, .string x.data] 49)) := (Ext.refl wq).alloc _
          generalize (wq.alloc (.cells #[.int .i64 x.term, .int .i64 x.members, .string x.data] 49)) = A at *
          go_region_held3 (fun z => Ext A z ∧ z.cell? ⟨wq.heap.size, 0, none⟩ = some (.int .i64 x.term) ∧ z.cell? ⟨wq.heap.size, 1, none⟩ = some (.int .i64 x.members) ∧ z.cell? ⟨wq.heap.size, 2, none⟩ = some (.string x.data))
            ((refine keepX3 hzq k0 k1 k2 ?_; repeat (first | exact Ext.refl _ | assumption | refine Ext.trans ?_ (by assumption) | refine Ext.alloc ?_ _ | refine Ext.drew ?_ | refine Ext.drewN ?_ _)))
            (first
              | (go_at_call 29; (with_reducible refine (num_any _ L x.term _ (HQL.out.ext (by repeat (first | exact Ext.refl _ | assumption | refine Ext.trans ?_ (by assumption) | refine Ext.alloc ?_ _ | refine Ext.drew ?_ | refine Ext.drewN ?_ _))) e1 e2 (by omega)).mono ?_); rintro e y2 ⟨q2, rfl, ho2, hy2⟩)
              | (go_at_call 29; (with_reducible refine (num_any _ _ x.members _ (ho2.rd.ext (by repeat (first | exact Ext.refl _ | assumption | refine Ext.trans ?_ (by assumption) | refine Ext.alloc ?_ _ | refine Ext.drew ?_ | refine Ext.drewN ?_ _))) e3 e4 (by omega)).mono ?_); rintro e y3 ⟨q3, rfl, ho3, hy3⟩)
              | (go_at_call 30; (with_reducible refine (text_any _ _ x.data _ (ho3.rd.ext (by repeat (first | exact Ext.refl _ | assumption | refine Ext.trans ?_ (by assumption) | refine Ext.alloc ?_ _ | refine Ext.drew ?_ | refine Ext.drewN ?_ _))) (by omega)).mono ?_); rintro e y4 ⟨q4, rfl, ho4, hy4⟩))
          go_wp2_with fail
          go_roundw
          case rel =>
            have hAd : Ext A y3 := Ext.trans (Ext.refl A).drew (hy2.trans hy3)
            have hbs : w.heap.size ≤ y3.heap.size := Nat.le_trans hszq (Nat.le_trans hXA.size hAd.size)
            exact ⟨k + 1, by omega, by simp, Lib.hid (by rw [HE1.out]; exact own8_base ho4 hbs), hxq.trans (hXA.trans (hAd.trans hy4))⟩
          case measure => simp [intOf]; omega
        · have hki : ¬ (k : Int) < (n : Int) := by omega
          have HOL : Hid (Own8 5 wq w.heap.size u3 (ltL ⟨kind, fr, to, te, ix, at_, co, me, off, sz, yes, data⟩ es)) := Lib.hid (by
            have := HOK.out
            have hk2 : k = es.length := by have := HN.out; omega
            rw [hk2, List.take_length] at this
            rw [ltL, HN.out]
            exact this)
          clear HOK
          go_wp2
          go_ret
          exact ⟨_, rfl, HOL.out, hXq⟩

set_option maxHeartbeats 4000000 in
set_option maxRecDepth 100000 in
theorem lput_no (m : Lt) (a : Option Addr) (c n : Nat) (es : List Ent) (hn : es.length = n) (w : World) (hl : SlS Ent.cells 3 w (.slice a n c) es) (hR : ¬ RightP m es) : Calls Try.prog 19 #[m.agg (.slice a n c)] w fun e w' => e = .returned (.slice none 0 0) ∧ Ext w w' := by
  obtain ⟨kind, fr, to, te, ix, at_, co, me, off, sz, yes, data⟩ := m
  have hright := fun z (hz : Ext w z) => lright_is ⟨kind, fr, to, te, ix, at_, co, me, off, sz, yes, data⟩ a c n es hn false ⟨fun h => (by cases h), fun h => absurd h hR⟩ z (SlS.ext hl hz)
  simp only [Lt.agg] at hright ⊢
  have HR := Lib.hid hright
  clear hright hl hR hn
  go_enter Try.func19, Try.ntmps19
  go_wp2_with (go_at_call 28; refine (HR.out _ ((Ext.refl w).alloc _)).mono ?_; rintro e x1 ⟨rfl, hx1⟩)
  go_ret
  exact ⟨rfl, Ext.trans ((Ext.refl w).alloc _) hx1⟩
end Go.Proofs.Ytognipephfedkaa
