/- The document's own answer: PutLetter. (Written by genPutRef.py.) -/
import Derived.Test.YtognipephfedkaaLetP
import Derived.Test.YtognipephfedkaaPackRefW
namespace Go.Proofs.Ytognipephfedkaa
open Go.RowKit

theorem keepQ {w z : World} {b d o : Nat} {v0 v1 v2 v3 : Value} (hb : b < w.heap.size) (hd : d < w.heap.size) (h0 : w.cell? ⟨b, 12, none⟩ = some v0) (h1 : w.cell? ⟨d, o, none⟩ = some v1) (h2 : w.cell? ⟨d, o + 1, none⟩ = some v2) (h3 : w.cell? ⟨d, o + 2, none⟩ = some v3) (h : Ext w z) :
    Ext w z ∧ z.cell? ⟨b, 12, none⟩ = some v0 ∧ z.cell? ⟨d, o, none⟩ = some v1 ∧ z.cell? ⟨d, o + 1, none⟩ = some v2 ∧ z.cell? ⟨d, o + 2, none⟩ = some v3 :=
  ⟨h, (h.cell (p := ⟨b, 12, none⟩) hb).trans h0, (h.cell (p := ⟨d, o, none⟩) hd).trans h1, (h.cell (p := ⟨d, o + 1, none⟩) hd).trans h2, (h.cell (p := ⟨d, o + 2, none⟩) hd).trans h3⟩
theorem keepN3 {w z : World} {b i j k : Nat} {v0 v1 v2 : Value} (hb : b < w.heap.size) (h0 : w.cell? ⟨b, i, none⟩ = some v0) (h1 : w.cell? ⟨b, j, none⟩ = some v1) (h2 : w.cell? ⟨b, k, none⟩ = some v2) (h : Ext w z) : Ext w z ∧ z.cell? ⟨b, i, none⟩ = some v0 ∧ z.cell? ⟨b, j, none⟩ = some v1 ∧ z.cell? ⟨b, k, none⟩ = some v2 :=
  ⟨h, (h.cell (p := ⟨b, i, none⟩) hb).trans h0, (h.cell (p := ⟨b, j, none⟩) hb).trans h1, (h.cell (p := ⟨b, k, none⟩) hb).trans h2⟩
theorem keepN4 {w z : World} {b i j k l : Nat} {v0 v1 v2 v3 : Value} (hb : b < w.heap.size) (h0 : w.cell? ⟨b, i, none⟩ = some v0) (h1 : w.cell? ⟨b, j, none⟩ = some v1) (h2 : w.cell? ⟨b, k, none⟩ = some v2) (h3 : w.cell? ⟨b, l, none⟩ = some v3) (h : Ext w z) : Ext w z ∧ z.cell? ⟨b, i, none⟩ = some v0 ∧ z.cell? ⟨b, j, none⟩ = some v1 ∧ z.cell? ⟨b, k, none⟩ = some v2 ∧ z.cell? ⟨b, l, none⟩ = some v3 :=
  ⟨h, (h.cell (p := ⟨b, i, none⟩) hb).trans h0, (h.cell (p := ⟨b, j, none⟩) hb).trans h1, (h.cell (p := ⟨b, k, none⟩) hb).trans h2, (h.cell (p := ⟨b, l, none⟩) hb).trans h3⟩

set_option maxHeartbeats 16000000 in
set_option maxRecDepth 100000 in
theorem refPut_any (m : Lt) (a : Option Addr) (c n : Nat) (es : List Ent) (hn : es.length = n) (w : World) (hl : SlS Ent.cells 3 w (.slice a n c) es) (hsm : SmallL m es) : Calls Try.prog 24 #[m.agg (.slice a n c)] w fun e w' => ∃ v, e = .returned v ∧ Own8 5 w' w.heap.size v (ltL m es) ∧ Ext w w' := by
  obtain ⟨kind, fr, to, te, ix, at_, co, me, off, sz, yes, data⟩ := m
  simp only [Lt.agg]
  have hn20 : n ≤ 20 := by have := hsm.few; omega
  have hd1 : data.size ≤ 1048576 := hsm.data
  obtain ⟨b0l, b0h⟩ := hsm.head kind (by simp [headL])
  obtain ⟨b1l, b1h⟩ := hsm.head fr (by simp [headL])
  obtain ⟨b2l, b2h⟩ := hsm.head to (by simp [headL])
  obtain ⟨b3l, b3h⟩ := hsm.head te (by simp [headL])
  obtain ⟨b4l, b4h⟩ := hsm.head ix (by simp [headL])
  obtain ⟨b5l, b5h⟩ := hsm.head at_ (by simp [headL])
  obtain ⟨b6l, b6h⟩ := hsm.head co (by simp [headL])
  obtain ⟨b7l, b7h⟩ := hsm.head me (by simp [headL])
  obtain ⟨b8l, b8h⟩ := hsm.head off (by simp [headL])
  obtain ⟨b9l, b9h⟩ := hsm.head sz (by simp [headL])
  have n0 := (numL_len kind).2
  have n1 := (numL_len fr).2
  have n2 := (numL_len to).2
  have n3 := (numL_len te).2
  have n4 := (numL_len ix).2
  have n5 := (numL_len at_).2
  have n6 := (numL_len co).2
  have n7 := (numL_len me).2
  have n8 := (numL_len off).2
  have n9 := (numL_len sz).2
  have ny := (numL_len (if yes then 1 else 0)).2
  have nt := textL_len data
  have nn := (numL_len (n : Int)).2
  have HS := Lib.hid hsm
  have HL := Lib.hid hl
  have HN := Lib.hid hn
  have HM := Lib.hid (m_keep w kind fr to te ix at_ co me off sz yes data a n c)
  have hX0 : Ext w (w.alloc (.cells #[.int .i64 kind, .int .i64 fr, .int .i64 to, .int .i64 te, .int .i64 ix, .int .i64 at_, .int .i64 co, .int .i64 me, .int .i64 off, .int .i64 sz, .bool yes, .string data, .slice a n c] 27)) := (Ext.refl w).alloc _
  obtain ⟨_, hW_z, c0_0, c0_1, c0_2, c0_3, c0_4, c0_5, c0_6, c0_7, c0_8, c0_9, c0_10, c0_11, c0_12⟩ := HM.out _ (Ext.refl _)
  clear hsm hl hn
  go_enter Try.func24, Try.ntmps24
  go_upto_region 1 with (fail)
  generalize (w.alloc (.cells #[.int .i64 kind, .int .i64 fr, .int .i64 to, .int .i64 te, .int .i64 ix, .int .i64 at_, .int .i64 co, .int .i64 me, .int .i64 off, .int .i64 sz, .bool yes, .string data, .slice a n c] 27)) = W at *
  clear c0_4 c0_5 c0_6 c0_7 c0_8 c0_9 c0_10 c0_11 c0_12
  go_region_held3 (fun z => Ext W z ∧ z.cell? ⟨w.heap.size, 0, none⟩ = some (.int .i64 kind) ∧ z.cell? ⟨w.heap.size, 1, none⟩ = some (.int .i64 fr) ∧ z.cell? ⟨w.heap.size, 2, none⟩ = some (.int .i64 to) ∧ z.cell? ⟨w.heap.size, 3, none⟩ = some (.int .i64 te))
    ((refine keepN4 hW_z c0_0 c0_1 c0_2 c0_3 ?_; repeat (first | exact Ext.refl _ | assumption | refine Ext.trans ?_ (by assumption) | refine Ext.alloc ?_ _ | refine Ext.drew ?_ | refine Ext.drewN ?_ _)))
    (first
      | (go_at_call 33; (with_reducible refine (refnum_any _ [] kind _ (Rd8.nil _) b0l b0h (by simp only [List.length_append, List.length_nil]; omega)).mono ?_); rintro e x0 ⟨v0, rfl, ho0, hx0⟩)
      | (go_at_call 33; (with_reducible refine (refnum_any _ _ fr _ (ho0.rd.ext (by repeat (first | exact Ext.refl _ | assumption | refine Ext.trans ?_ (by assumption) | refine Ext.alloc ?_ _ | refine Ext.drew ?_ | refine Ext.drewN ?_ _))) b1l b1h (by simp only [List.length_append, List.length_nil]; omega)).mono ?_); rintro e x1 ⟨v1, rfl, ho1, hx1⟩)
      | (go_at_call 33; (with_reducible refine (refnum_any _ _ to _ (ho1.rd.ext (by repeat (first | exact Ext.refl _ | assumption | refine Ext.trans ?_ (by assumption) | refine Ext.alloc ?_ _ | refine Ext.drew ?_ | refine Ext.drewN ?_ _))) b2l b2h (by simp only [List.length_append, List.length_nil]; omega)).mono ?_); rintro e x2 ⟨v2, rfl, ho2, hx2⟩)
      | (go_at_call 33; (with_reducible refine (refnum_any _ _ te _ (ho2.rd.ext (by repeat (first | exact Ext.refl _ | assumption | refine Ext.trans ?_ (by assumption) | refine Ext.alloc ?_ _ | refine Ext.drew ?_ | refine Ext.drewN ?_ _))) b3l b3h (by simp only [List.length_append, List.length_nil]; omega)).mono ?_); rintro e x3 ⟨v3, rfl, ho3, hx3⟩))
  go_upto_region 2 with (fail)
  have hx3W : Ext W x3 := Ext.trans (Ext.refl W).drew (hx0.trans (hx1.trans (hx2.trans hx3)))
  obtain ⟨_, hx3_z, _, _, _, _, c1_4, c1_5, c1_6, _, _, _, _, _, _⟩ := HM.out _ hx3W
  go_region_held3 (fun z => Ext x3 z ∧ z.cell? ⟨w.heap.size, 4, none⟩ = some (.int .i64 ix) ∧ z.cell? ⟨w.heap.size, 5, none⟩ = some (.int .i64 at_) ∧ z.cell? ⟨w.heap.size, 6, none⟩ = some (.int .i64 co))
    ((refine keepN3 hx3_z c1_4 c1_5 c1_6 ?_; repeat (first | exact Ext.refl _ | assumption | refine Ext.trans ?_ (by assumption) | refine Ext.alloc ?_ _ | refine Ext.drew ?_ | refine Ext.drewN ?_ _)))
    (first
      | (go_at_call 33; (with_reducible refine (refnum_any _ _ ix _ (ho3.rd.ext (by repeat (first | exact Ext.refl _ | assumption | refine Ext.trans ?_ (by assumption) | refine Ext.alloc ?_ _ | refine Ext.drew ?_ | refine Ext.drewN ?_ _))) b4l b4h (by simp only [List.length_append, List.length_nil]; omega)).mono ?_); rintro e x4 ⟨v4, rfl, ho4, hx4⟩)
      | (go_at_call 33; (with_reducible refine (refnum_any _ _ at_ _ (ho4.rd.ext (by repeat (first | exact Ext.refl _ | assumption | refine Ext.trans ?_ (by assumption) | refine Ext.alloc ?_ _ | refine Ext.drew ?_ | refine Ext.drewN ?_ _))) b5l b5h (by simp only [List.length_append, List.length_nil]; omega)).mono ?_); rintro e x5 ⟨v5, rfl, ho5, hx5⟩)
      | (go_at_call 33; (with_reducible refine (refnum_any _ _ co _ (ho5.rd.ext (by repeat (first | exact Ext.refl _ | assumption | refine Ext.trans ?_ (by assumption) | refine Ext.alloc ?_ _ | refine Ext.drew ?_ | refine Ext.drewN ?_ _))) b6l b6h (by simp only [List.length_append, List.length_nil]; omega)).mono ?_); rintro e x6 ⟨v6, rfl, ho6, hx6⟩))
  go_upto_region 3 with (fail)
  have hx6W : Ext W x6 := hx3W.trans (Ext.trans (Ext.refl x3).drew (hx4.trans (hx5.trans hx6)))
  obtain ⟨_, hx6_z, _, _, _, _, _, _, _, c2_7, c2_8, c2_9, _, _, _⟩ := HM.out _ hx6W
  go_region_held3 (fun z => Ext x6 z ∧ z.cell? ⟨w.heap.size, 7, none⟩ = some (.int .i64 me) ∧ z.cell? ⟨w.heap.size, 8, none⟩ = some (.int .i64 off) ∧ z.cell? ⟨w.heap.size, 9, none⟩ = some (.int .i64 sz))
    ((refine keepN3 hx6_z c2_7 c2_8 c2_9 ?_; repeat (first | exact Ext.refl _ | assumption | refine Ext.trans ?_ (by assumption) | refine Ext.alloc ?_ _ | refine Ext.drew ?_ | refine Ext.drewN ?_ _)))
    (first
      | (go_at_call 33; (with_reducible refine (refnum_any _ _ me _ (ho6.rd.ext (by repeat (first | exact Ext.refl _ | assumption | refine Ext.trans ?_ (by assumption) | refine Ext.alloc ?_ _ | refine Ext.drew ?_ | refine Ext.drewN ?_ _))) b7l b7h (by simp only [List.length_append, List.length_nil]; omega)).mono ?_); rintro e x7 ⟨v7, rfl, ho7, hx7⟩)
      | (go_at_call 33; (with_reducible refine (refnum_any _ _ off _ (ho7.rd.ext (by repeat (first | exact Ext.refl _ | assumption | refine Ext.trans ?_ (by assumption) | refine Ext.alloc ?_ _ | refine Ext.drew ?_ | refine Ext.drewN ?_ _))) b8l b8h (by simp only [List.length_append, List.length_nil]; omega)).mono ?_); rintro e x8 ⟨v8, rfl, ho8, hx8⟩)
      | (go_at_call 33; (with_reducible refine (refnum_any _ _ sz _ (ho8.rd.ext (by repeat (first | exact Ext.refl _ | assumption | refine Ext.trans ?_ (by assumption) | refine Ext.alloc ?_ _ | refine Ext.drew ?_ | refine Ext.drewN ?_ _))) b9l b9h (by simp only [List.length_append, List.length_nil]; omega)).mono ?_); rintro e x9 ⟨v9, rfl, ho9, hx9⟩))
  go_upto_region 4 with (fail)
  have hx9W : Ext W x9 := hx6W.trans (Ext.trans (Ext.refl x6).drew (hx7.trans (hx8.trans hx9)))
  obtain ⟨_, hx9_z, _, _, _, _, _, _, _, _, _, _, c3_10, c3_11, c3_12⟩ := HM.out _ hx9W
  go_region_held3 (fun z => Ext x9 z ∧ z.cell? ⟨w.heap.size, 10, none⟩ = some (.bool yes) ∧ z.cell? ⟨w.heap.size, 11, none⟩ = some (.string data) ∧ z.cell? ⟨w.heap.size, 12, none⟩ = some (.slice a n c))
    ((refine keepN3 hx9_z c3_10 c3_11 c3_12 ?_; repeat (first | exact Ext.refl _ | assumption | refine Ext.trans ?_ (by assumption) | refine Ext.alloc ?_ _ | refine Ext.drew ?_ | refine Ext.drewN ?_ _)))
    (first
      | (go_at_call 35; (with_reducible refine (refflag_any _ _ yes _ (ho9.rd.ext (by repeat (first | exact Ext.refl _ | assumption | refine Ext.trans ?_ (by assumption) | refine Ext.alloc ?_ _ | refine Ext.drew ?_ | refine Ext.drewN ?_ _))) (by simp only [List.length_append, List.length_nil]; omega)).mono ?_); rintro e x10 ⟨v10, rfl, ho10, hx10⟩)
      | (go_at_call 34; (with_reducible refine (reftext_any _ _ data _ (ho10.rd.ext (by repeat (first | exact Ext.refl _ | assumption | refine Ext.trans ?_ (by assumption) | refine Ext.alloc ?_ _ | refine Ext.drew ?_ | refine Ext.drewN ?_ _))) (by simp only [List.length_append, List.length_nil]; omega)).mono ?_); rintro e x11 ⟨v11, rfl, ho11, hx11⟩)
      | (go_at_call 33; (with_reducible refine (refnum_any _ _ (n : Int) _ (ho11.rd.ext (by repeat (first | exact Ext.refl _ | assumption | refine Ext.trans ?_ (by assumption) | refine Ext.alloc ?_ _ | refine Ext.drew ?_ | refine Ext.drewN ?_ _))) (by omega) (by omega) (by simp only [List.length_append, List.length_nil]; omega)).mono ?_); rintro e x12 ⟨v12, rfl, ho12, hx12⟩))
  have hx12W : Ext W x12 := hx9W.trans (Ext.trans (Ext.refl x9).drew (hx10.trans (hx11.trans hx12)))
  have hX12 : Ext w x12 := hX0.trans hx12W
  have HS4 : Hid (Own8 5 x12 w.heap.size v12 (startL ⟨kind, fr, to, te, ix, at_, co, me, off, sz, yes, data⟩ n)) := Lib.hid (by
    have h1 : w.heap.size ≤ x11.heap.size := by
      have h2 : Ext w x11 := hX0.trans (hx9W.trans (Ext.trans (Ext.refl x9).drew (hx10.trans hx11)))
      exact h2.size
    have h3 := own8_base ho12 h1
    have e : startL ⟨kind, fr, to, te, ix, at_, co, me, off, sz, yes, data⟩ n = [] ++ numL kind ++ numL fr ++ numL to ++ numL te ++ numL ix ++ numL at_ ++ numL co ++ numL me ++ numL off ++ numL sz ++ numL (if yes then 1 else 0) ++ textL data ++ numL (n : Int) := by
      simp [startL, headL, List.append_assoc]
    rw [e]
    exact h3)
  clear ho0 ho1 ho2 ho3 ho4 ho5 ho6 ho7 ho8 ho9 ho10 ho11 ho12
  clear n0 n1 n2 n3 n4 n5 n6 n7 n8 n9 ny nt nn b0l b0h b1l b1h b2l b2h b3l b3h b4l b4h b5l b5h b6l b6h b7l b7h b8l b8h b9l b9h
  clear c0_0 c0_1 c0_2 c0_3 c1_4 c1_5 c1_6 c2_7 c2_8 c2_9 c3_10 c3_11 c3_12
  go_wp2_with fail
  go_loopw [3, 4] (fun bv iv wq => ∃ k : Nat, k ≤ n ∧ iv = .int .i64 (k : Int) ∧ Hid (Own8 5 wq w.heap.size bv (startL ⟨kind, fr, to, te, ix, at_, co, me, off, sz, yes, data⟩ n ++ (es.take k).flatMap entL)) ∧ Ext x12 wq) (fun _ iv _ => n - (intOf iv).toNat)
  case atStart => exact ⟨0, by omega, rfl, Lib.hid (by simpa using HS4.out), Ext.refl _⟩
  case round =>
    rename World => wq
    obtain ⟨k, hk, rfl, HOK, hxq⟩ := hrel
    have hXq := hX12.trans hxq
    have hszq := hXq.size
    obtain ⟨_, hzm, _, _, _, _, _, _, _, _, _, _, _, _, c12⟩ := HM.out _ (hx12W.trans hxq)
    by_cases hlt2 : k < n
    · have hki : (k : Int) < (n : Int) := by omega
      have hki0 : (0 : Int) ≤ (k : Int) := by omega
      have hkl : k < es.length := by have := HN.out; omega
      have hL2 := HL.out
      rw [← HN.out] at hL2
      obtain ⟨b1, o1, rfl, hb1, hc1⟩ := SlS.at_ Ent.three hL2 (by omega) (by decide)
      have dd := fun j hj => (hXq.cell (p := ⟨b1, o1 + k * 3 + j, none⟩) hb1).trans (hc1 k hkl j hj)
      have hE1 : startL ⟨kind, fr, to, te, ix, at_, co, me, off, sz, yes, data⟩ n ++ (es.take (k + 1)).flatMap entL = startL ⟨kind, fr, to, te, ix, at_, co, me, off, sz, yes, data⟩ n ++ (es.take k).flatMap entL ++ numL es[k].term ++ numL es[k].members ++ textL es[k].data := by rw [ents_take es k hkl, entL]; simp [List.append_assoc]
      obtain ⟨⟨e1, e2⟩, ⟨e3, e4⟩, e5⟩ := HS.out.ents _ (List.getElem_mem hkl)
      have hln := HS.out.mid k
      rw [HN.out] at hln
      generalize es[k] = x at *
      have a0 : wq.cell? ⟨b1, o1 + k * 3, none⟩ = some (.int .i64 x.term) := dd 0 (by decide)
      have a1 : wq.cell? ⟨b1, o1 + k * 3 + 1, none⟩ = some (.int .i64 x.members) := dd 1 (by decide)
      have a2 : wq.cell? ⟨b1, o1 + k * 3 + 2, none⟩ = some (.string x.data) := dd 2 (by decide)
      have hbq := Nat.lt_of_lt_of_le hb1 hszq
      have HE1 := Lib.hid hE1
      clear dd hc1 hL2 hE1
      generalize startL ⟨kind, fr, to, te, ix, at_, co, me, off, sz, yes, data⟩ n ++ (es.take k).flatMap entL = L at *
      have f1 : (L ++ numL x.term).length ≤ 30000010 := by
        have := (numL_len x.term).2
        rw [List.length_append]; omega
      have f2 : (L ++ numL x.term ++ numL x.members).length ≤ 30000020 := by
        have := (numL_len x.members).2
        rw [List.length_append]; omega
      go_wp2_with fail
      go_region_held3 (fun z => Ext wq z ∧ z.cell? ⟨w.heap.size, 12, none⟩ = some (.slice (some ⟨b1, o1, none⟩) n c) ∧ z.cell? ⟨b1, o1 + k * 3, none⟩ = some (.int .i64 x.term) ∧ z.cell? ⟨b1, o1 + k * 3 + 1, none⟩ = some (.int .i64 x.members) ∧ z.cell? ⟨b1, o1 + k * 3 + 2, none⟩ = some (.string x.data))
        ((refine keepQ hzm hbq c12 a0 a1 a2 ?_; repeat (first | exact Ext.refl _ | assumption | refine Ext.trans ?_ (by assumption) | refine Ext.alloc ?_ _ | refine Ext.drew ?_ | refine Ext.drewN ?_ _)))
        (first
          | (go_at_call 33; (with_reducible refine (refnum_any _ L x.term _ (HOK.out.rd.ext (by repeat (first | exact Ext.refl _ | assumption | refine Ext.trans ?_ (by assumption) | refine Ext.alloc ?_ _ | refine Ext.drew ?_ | refine Ext.drewN ?_ _))) e1 e2 (by omega)).mono ?_); rintro e y2 ⟨q2, rfl, ho2, hy2⟩)
          | (go_at_call 33; (with_reducible refine (refnum_any _ _ x.members _ (ho2.rd.ext (by repeat (first | exact Ext.refl _ | assumption | refine Ext.trans ?_ (by assumption) | refine Ext.alloc ?_ _ | refine Ext.drew ?_ | refine Ext.drewN ?_ _))) e3 e4 (by omega)).mono ?_); rintro e y3 ⟨q3, rfl, ho3, hy3⟩)
          | (go_at_call 34; (with_reducible refine (reftext_any _ _ x.data _ (ho3.rd.ext (by repeat (first | exact Ext.refl _ | assumption | refine Ext.trans ?_ (by assumption) | refine Ext.alloc ?_ _ | refine Ext.drew ?_ | refine Ext.drewN ?_ _))) (by omega)).mono ?_); rintro e y4 ⟨q4, rfl, ho4, hy4⟩))
      go_wp2_with fail
      go_roundw
      case rel =>
        have hAd : Ext wq y3 := Ext.trans (Ext.refl wq).drew (hy2.trans hy3)
        have hbs : w.heap.size ≤ y3.heap.size := Nat.le_trans hszq hAd.size
        exact ⟨k + 1, by omega, by simp, Lib.hid (by rw [HE1.out]; exact own8_base ho4 hbs), hxq.trans (hAd.trans hy4)⟩
      case measure => simp [intOf]; omega
    · have hki : ¬ (k : Int) < (n : Int) := by omega
      have HOL : Hid (Own8 5 wq w.heap.size u3 (ltL ⟨kind, fr, to, te, ix, at_, co, me, off, sz, yes, data⟩ es)) := Lib.hid (by
        have := HOK.out
        have hk2 : k = es.length := by have := HN.out; omega
        rw [hk2, List.take_length] at this
        rw [ltL, HN.out]
        exact this)
      clear HOK
      go_wp2
      go_ret
      exact ⟨_, rfl, HOL.out, hXq⟩
end Go.Proofs.Ytognipephfedkaa
