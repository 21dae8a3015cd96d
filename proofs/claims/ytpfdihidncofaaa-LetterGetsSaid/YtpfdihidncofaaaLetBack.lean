/- The law LetterBack: the walk. (Written by genBack.py.) -/
import Derived.Test.YtpfdihidncofaaaLetRuns
import Derived.Test.YtpfdihidncofaaaSet13
import Derived.Test.YtpfdihidncofaaaLetLaw
namespace Go.Proofs.Ytpfdihidncofaaa
open Go.RowKit

theorem get_total (bs : List UInt8) : ∃ m es err, GetIs bs m es err := by
  by_cases h : gErr bs = 0
  · by_cases h2 : RightP (gM bs) (gEs bs)
    · exact ⟨_, _, _, .inr (.inl ⟨h, h2, rfl, rfl, rfl⟩)⟩
    · exact ⟨_, _, _, .inr (.inr ⟨h, h2, rfl, rfl, rfl⟩)⟩
  · exact ⟨_, _, _, .inl ⟨h, rfl, rfl, rfl⟩⟩
theorem get_ok {bs : List UInt8} {m : Lt} {es : List Ent} {err : Int} (h : GetIs bs m es err) (he : err = 0) (h63 : bs.length ≤ 9223372036854775807) : RightP m es ∧ ltL m es = bs := by
  rcases h with ⟨a, b, _, _⟩ | ⟨a, r, _, rfl, rfl⟩ | ⟨_, _, b, _, _⟩
  · exact absurd (b.symm.trans he) a
  · exact ⟨r, read_is a h63⟩
  · rw [he] at b; cases b

set_option maxHeartbeats 16000000 in
set_option maxRecDepth 100000 in
theorem lback_ro (m g : Lt) (a ab : Option Addr) (c n cb n2 : Nat) (es2 eg : List Ent) (bs : List UInt8) (err : Int) (hlen : es2.length = n2) (hc : n ≤ c) (hcm : c ≤ 9223372036854775807) (hn2 : min n 20 = n2) (w : World) (hl2 : SlS Ent.cells 3 w (.slice a n2 c) es2) (hb : Rd8 w (.slice ab bs.length cb) bs) (hbl : bs.length ≤ 140737488355328) (hR : RightP m es2) (hG : GetIs bs g eg err) (he : err = 0) : Calls Try.prog 7 #[m.agg (.slice a n c), .slice ab bs.length cb] w fun e w' => e = .returned (.bool true) ∧ Ext w w' := by
  have hf := fun z => lfew_any m a c n hc hcm z
  rw [hn2] at hf
  have hn20 : n2 ≤ 20 := by omega
  have hr := fun z (hz : Ext w z) => lright_is m a c n2 es2 hlen true ⟨fun _ => hR, fun _ => rfl⟩ z (SlS.ext hl2 hz)
  have hgb := fun z (hz : Ext w z) => get_is _ bs g eg err hG z (hb.ext hz) hbl
  have hpy := fun z (hz : Ext w z) => lput_yes m a c n2 es2 hlen z (SlS.ext hl2 hz) hR
  have hbl2 : (ltL m es2).length ≤ 140737488355328 := by
    have := (right_small hR).1.mid es2.length
    rw [List.take_length] at this
    rw [ltL]
    omega
  have hg2 := fun v z (hr : Rd8 z v (ltL m es2)) => get_is v (ltL m es2) m es2 0 (back_is hR) z hr hbl2
  have hsm := fun a' c' z hz (ha : SlS Ent.cells 3 z (.slice a' n2 c') es2) => lsame_yes m a' a c' c n2 es2 hlen z ha (SlS.ext hl2 hz) (by omega)
  obtain ⟨L, hL⟩ : ∃ L, ltL m es2 = L := ⟨_, rfl⟩
  rw [hL] at hpy hg2
  rw [hlen] at hg2
  clear hL hbl2
  obtain ⟨hrg, hlg⟩ := get_ok hG he (by omega)
  have hpg := fun a' c' z (ha : SlS Ent.cells 3 z (.slice a' eg.length c') eg) => lput_yes g a' c' eg.length eg rfl z ha hrg
  rw [hlg] at hpg
  subst he
  clear hrg hlg
  obtain ⟨kind, fr, to, te, ix, at_, co, me, off, sz, yes, data⟩ := m
  simp only [Lt.agg] at hr hf hgb hpy hg2 hsm hpg ⊢
  have HR := Lib.hid hr
  have HF := Lib.hid hf
  have HGB := Lib.hid hgb
  have HB := Lib.hid hb
  have HP := Lib.hid hpy
  have HG2 := Lib.hid hg2
  have HSM := Lib.hid hsm
  have HPG := Lib.hid hpg
  clear hr hf hgb hb hl2 hR hG hn2 hlen hpy hg2 hsm hpg
  go_enter Try.func7, Try.ntmps7
  go_wp2_with (first
    | (go_at_call 13; with_reducible refine (HF.out _).mono ?_; rintro e x1 ⟨rfl, hx1⟩; have BM1 := Lib.hid (ext_blk hx1 (new_blk w (.cells #[.int .i64 kind, .int .i64 fr, .int .i64 to, .int .i64 te, .int .i64 ix, .int .i64 at_, .int .i64 co, .int .i64 me, .int .i64 off, .int .i64 sz, .bool yes, .string data, .slice a n c] 24))); have BS : Hid ((((((((((((((x1.setCell ⟨w.heap.size, 0, none⟩ (.int .i64 kind)).setCell ⟨w.heap.size, 1, none⟩ (.int .i64 fr)).setCell ⟨w.heap.size, 2, none⟩ (.int .i64 to)).setCell ⟨w.heap.size, 3, none⟩ (.int .i64 te)).setCell ⟨w.heap.size, 4, none⟩ (.int .i64 ix)).setCell ⟨w.heap.size, 5, none⟩ (.int .i64 at_)).setCell ⟨w.heap.size, 6, none⟩ (.int .i64 co)).setCell ⟨w.heap.size, 7, none⟩ (.int .i64 me)).setCell ⟨w.heap.size, 8, none⟩ (.int .i64 off)).setCell ⟨w.heap.size, 9, none⟩ (.int .i64 sz)).setCell ⟨w.heap.size, 10, none⟩ (.bool yes)).setCell ⟨w.heap.size, 11, none⟩ (.string data)).setCell ⟨w.heap.size, 12, none⟩ (.slice a n2 c)).heap[w.heap.size]? = some (.cells #[.int .i64 kind, .int .i64 fr, .int .i64 to, .int .i64 te, .int .i64 ix, .int .i64 at_, .int .i64 co, .int .i64 me, .int .i64 off, .int .i64 sz, .bool yes, .string data, .slice a n2 c] 24 (0, 0))) := Lib.hid (set13_blk BM1.out); have hX1 : Ext w x1 := Ext.trans ((Ext.refl w).alloc _) hx1; have HXS : Hid (Ext w (((((((((((((x1.setCell ⟨w.heap.size, 0, none⟩ (.int .i64 kind)).setCell ⟨w.heap.size, 1, none⟩ (.int .i64 fr)).setCell ⟨w.heap.size, 2, none⟩ (.int .i64 to)).setCell ⟨w.heap.size, 3, none⟩ (.int .i64 te)).setCell ⟨w.heap.size, 4, none⟩ (.int .i64 ix)).setCell ⟨w.heap.size, 5, none⟩ (.int .i64 at_)).setCell ⟨w.heap.size, 6, none⟩ (.int .i64 co)).setCell ⟨w.heap.size, 7, none⟩ (.int .i64 me)).setCell ⟨w.heap.size, 8, none⟩ (.int .i64 off)).setCell ⟨w.heap.size, 9, none⟩ (.int .i64 sz)).setCell ⟨w.heap.size, 10, none⟩ (.bool yes)).setCell ⟨w.heap.size, 11, none⟩ (.string data)).setCell ⟨w.heap.size, 12, none⟩ (.slice a n2 c))) := Lib.hid ((((((((((((((hX1.setCell (p := ⟨w.heap.size, 0, none⟩) (Nat.le_refl _) (.int .i64 kind)).setCell (p := ⟨w.heap.size, 1, none⟩) (Nat.le_refl _) (.int .i64 fr)).setCell (p := ⟨w.heap.size, 2, none⟩) (Nat.le_refl _) (.int .i64 to)).setCell (p := ⟨w.heap.size, 3, none⟩) (Nat.le_refl _) (.int .i64 te)).setCell (p := ⟨w.heap.size, 4, none⟩) (Nat.le_refl _) (.int .i64 ix)).setCell (p := ⟨w.heap.size, 5, none⟩) (Nat.le_refl _) (.int .i64 at_)).setCell (p := ⟨w.heap.size, 6, none⟩) (Nat.le_refl _) (.int .i64 co)).setCell (p := ⟨w.heap.size, 7, none⟩) (Nat.le_refl _) (.int .i64 me)).setCell (p := ⟨w.heap.size, 8, none⟩) (Nat.le_refl _) (.int .i64 off)).setCell (p := ⟨w.heap.size, 9, none⟩) (Nat.le_refl _) (.int .i64 sz)).setCell (p := ⟨w.heap.size, 10, none⟩) (Nat.le_refl _) (.bool yes)).setCell (p := ⟨w.heap.size, 11, none⟩) (Nat.le_refl _) (.string data)).setCell (p := ⟨w.heap.size, 12, none⟩) (Nat.le_refl _) (.slice a n2 c))); have zx1 := blk_lt BM1.out; obtain ⟨k0, l0⟩ := blkG BM1.out 0 (.int .i64 kind) rfl; obtain ⟨k1, l1⟩ := blkG BM1.out 1 (.int .i64 fr) rfl; obtain ⟨k2, l2⟩ := blkG BM1.out 2 (.int .i64 to) rfl; obtain ⟨k3, l3⟩ := blkG BM1.out 3 (.int .i64 te) rfl; obtain ⟨k4, l4⟩ := blkG BM1.out 4 (.int .i64 ix) rfl; obtain ⟨k5, l5⟩ := blkG BM1.out 5 (.int .i64 at_) rfl; obtain ⟨k6, l6⟩ := blkG BM1.out 6 (.int .i64 co) rfl; obtain ⟨k7, l7⟩ := blkG BM1.out 7 (.int .i64 me) rfl; obtain ⟨k8, l8⟩ := blkG BM1.out 8 (.int .i64 off) rfl; obtain ⟨k9, l9⟩ := blkG BM1.out 9 (.int .i64 sz) rfl; obtain ⟨k10, l10⟩ := blkG BM1.out 10 (.bool yes) rfl; obtain ⟨k11, l11⟩ := blkG BM1.out 11 (.string data) rfl; obtain ⟨k12, l12⟩ := blkG BM1.out 12 (.slice a n c) rfl)
    | (go_at_call 17; with_reducible refine (HR.out _ HXS.out).mono ?_; rintro e x2 ⟨rfl, hx2⟩; have BM2 := Lib.hid (ext_blk hx2 BS.out); have HX2 := Lib.hid (HXS.out.trans hx2); obtain ⟨p0, _⟩ := blkG BM2.out 0 (.int .i64 kind) rfl; obtain ⟨p1, _⟩ := blkG BM2.out 1 (.int .i64 fr) rfl; obtain ⟨p2, _⟩ := blkG BM2.out 2 (.int .i64 to) rfl; obtain ⟨p3, _⟩ := blkG BM2.out 3 (.int .i64 te) rfl; obtain ⟨p4, _⟩ := blkG BM2.out 4 (.int .i64 ix) rfl; obtain ⟨p5, _⟩ := blkG BM2.out 5 (.int .i64 at_) rfl; obtain ⟨p6, _⟩ := blkG BM2.out 6 (.int .i64 co) rfl; obtain ⟨p7, _⟩ := blkG BM2.out 7 (.int .i64 me) rfl; obtain ⟨p8, _⟩ := blkG BM2.out 8 (.int .i64 off) rfl; obtain ⟨p9, _⟩ := blkG BM2.out 9 (.int .i64 sz) rfl; obtain ⟨p10, _⟩ := blkG BM2.out 10 (.bool yes) rfl; obtain ⟨p11, _⟩ := blkG BM2.out 11 (.string data) rfl; obtain ⟨p12, _⟩ := blkG BM2.out 12 (.slice a n2 c) rfl)
    | (go_at_call 9; with_reducible refine (HP.out _ HX2.out).mono ?_; rintro e x3 ⟨v3, rfl, ho3, hx3⟩; have HO3 := Lib.hid ho3; clear ho3)
    | (go_at_call 10; with_reducible refine (HG2.out _ _ (Own8.rd HO3.out)).mono ?_; rintro e x4 ⟨a4, c4, rfl, ho4, hx4⟩; have BM4 := Lib.hid (ext_blk hx4 (ext_blk hx3 BM2.out)); have HX4 := Lib.hid (HX2.out.trans (hx3.trans hx4)); have HO4 := Lib.hid ho4; clear ho4; have HX4A := Lib.hid (HX4.out.alloc (.cells #[.int .i64 kind, .int .i64 fr, .int .i64 to, .int .i64 te, .int .i64 ix, .int .i64 at_, .int .i64 co, .int .i64 me, .int .i64 off, .int .i64 sz, .bool yes, .string data, .slice a4 n2 c4] 24)); have zx4 := blk_lt BM4.out; obtain ⟨r0, _⟩ := blkG BM4.out 0 (.int .i64 kind) rfl; obtain ⟨r1, _⟩ := blkG BM4.out 1 (.int .i64 fr) rfl; obtain ⟨r2, _⟩ := blkG BM4.out 2 (.int .i64 to) rfl; obtain ⟨r3, _⟩ := blkG BM4.out 3 (.int .i64 te) rfl; obtain ⟨r4, _⟩ := blkG BM4.out 4 (.int .i64 ix) rfl; obtain ⟨r5, _⟩ := blkG BM4.out 5 (.int .i64 at_) rfl; obtain ⟨r6, _⟩ := blkG BM4.out 6 (.int .i64 co) rfl; obtain ⟨r7, _⟩ := blkG BM4.out 7 (.int .i64 me) rfl; obtain ⟨r8, _⟩ := blkG BM4.out 8 (.int .i64 off) rfl; obtain ⟨r9, _⟩ := blkG BM4.out 9 (.int .i64 sz) rfl; obtain ⟨r10, _⟩ := blkG BM4.out 10 (.bool yes) rfl; obtain ⟨r11, _⟩ := blkG BM4.out 11 (.string data) rfl; obtain ⟨r12, _⟩ := blkG BM4.out 12 (.slice a n2 c) rfl)
    | (go_at_call 12; with_reducible refine (HSM.out _ _ _ HX4A.out (OwnS.rd (HO4.out.ext ((Ext.refl x4).alloc _)))).mono ?_; rintro e x5 ⟨rfl, hx5⟩; have HX5 := Lib.hid (HX4A.out.trans hx5))
    | (go_at_call 10; with_reducible refine (HGB.out _ HX5.out).mono ?_; rintro e x6 ⟨a6, c6, rfl, ho6, hx6⟩; have HX6 := Lib.hid (HX5.out.trans hx6); have HO6 := Lib.hid ho6; clear ho6)
    | (go_at_call 9; with_reducible refine (HPG.out _ _ _ (OwnS.rd (HO6.out.ext ((Ext.refl x6).alloc _)))).mono ?_; rintro e x7 ⟨v7, rfl, ho7, hx7⟩; have HX7 := Lib.hid (Ext.trans (HX6.out.alloc _) hx7); have HO7 := Lib.hid ho7; clear ho7)
    | (go_at_call 11; (with_reducible refine (same8 _ _ bs bs _ (Own8.rd HO7.out) (HB.out.ext HX7.out)).mono ?_); rintro e x8 ⟨rfl, hx8⟩)
    | (go_at_call 3; refine (lruns_any _).mono ?_; rintro e x9 ⟨rfl, hx9⟩))
  go_ret
  exact ⟨rfl, HX7.out.trans (hx8.trans hx9)⟩

set_option maxHeartbeats 16000000 in
set_option maxRecDepth 100000 in
theorem lback_re (m g : Lt) (a ab : Option Addr) (c n cb n2 : Nat) (es2 eg : List Ent) (bs : List UInt8) (err : Int) (hlen : es2.length = n2) (hc : n ≤ c) (hcm : c ≤ 9223372036854775807) (hn2 : min n 20 = n2) (w : World) (hl2 : SlS Ent.cells 3 w (.slice a n2 c) es2) (hb : Rd8 w (.slice ab bs.length cb) bs) (hbl : bs.length ≤ 140737488355328) (hR : RightP m es2) (hG : GetIs bs g eg err) (he : err ≠ 0) : Calls Try.prog 7 #[m.agg (.slice a n c), .slice ab bs.length cb] w fun e w' => e = .returned (.bool true) ∧ Ext w w' := by
  have hf := fun z => lfew_any m a c n hc hcm z
  rw [hn2] at hf
  have hn20 : n2 ≤ 20 := by omega
  have hr := fun z (hz : Ext w z) => lright_is m a c n2 es2 hlen true ⟨fun _ => hR, fun _ => rfl⟩ z (SlS.ext hl2 hz)
  have hgb := fun z (hz : Ext w z) => get_is _ bs g eg err hG z (hb.ext hz) hbl
  have hpy := fun z (hz : Ext w z) => lput_yes m a c n2 es2 hlen z (SlS.ext hl2 hz) hR
  have hbl2 : (ltL m es2).length ≤ 140737488355328 := by
    have := (right_small hR).1.mid es2.length
    rw [List.take_length] at this
    rw [ltL]
    omega
  have hg2 := fun v z (hr : Rd8 z v (ltL m es2)) => get_is v (ltL m es2) m es2 0 (back_is hR) z hr hbl2
  have hsm := fun a' c' z hz (ha : SlS Ent.cells 3 z (.slice a' n2 c') es2) => lsame_yes m a' a c' c n2 es2 hlen z ha (SlS.ext hl2 hz) (by omega)
  obtain ⟨L, hL⟩ : ∃ L, ltL m es2 = L := ⟨_, rfl⟩
  rw [hL] at hpy hg2
  rw [hlen] at hg2
  clear hL hbl2
  have hne : (err != 0) = true := by simp [he]
  obtain ⟨kind, fr, to, te, ix, at_, co, me, off, sz, yes, data⟩ := m
  simp only [Lt.agg] at hr hf hgb hpy hg2 hsm  ⊢
  have HR := Lib.hid hr
  have HF := Lib.hid hf
  have HGB := Lib.hid hgb
  have HB := Lib.hid hb
  have HP := Lib.hid hpy
  have HG2 := Lib.hid hg2
  have HSM := Lib.hid hsm
  clear hr hf hgb hb hl2 hR hG hn2 hlen hpy hg2 hsm he
  go_enter Try.func7, Try.ntmps7
  go_wp2_with (first
    | (go_at_call 13; with_reducible refine (HF.out _).mono ?_; rintro e x1 ⟨rfl, hx1⟩; have BM1 := Lib.hid (ext_blk hx1 (new_blk w (.cells #[.int .i64 kind, .int .i64 fr, .int .i64 to, .int .i64 te, .int .i64 ix, .int .i64 at_, .int .i64 co, .int .i64 me, .int .i64 off, .int .i64 sz, .bool yes, .string data, .slice a n c] 24))); have BS : Hid ((((((((((((((x1.setCell ⟨w.heap.size, 0, none⟩ (.int .i64 kind)).setCell ⟨w.heap.size, 1, none⟩ (.int .i64 fr)).setCell ⟨w.heap.size, 2, none⟩ (.int .i64 to)).setCell ⟨w.heap.size, 3, none⟩ (.int .i64 te)).setCell ⟨w.heap.size, 4, none⟩ (.int .i64 ix)).setCell ⟨w.heap.size, 5, none⟩ (.int .i64 at_)).setCell ⟨w.heap.size, 6, none⟩ (.int .i64 co)).setCell ⟨w.heap.size, 7, none⟩ (.int .i64 me)).setCell ⟨w.heap.size, 8, none⟩ (.int .i64 off)).setCell ⟨w.heap.size, 9, none⟩ (.int .i64 sz)).setCell ⟨w.heap.size, 10, none⟩ (.bool yes)).setCell ⟨w.heap.size, 11, none⟩ (.string data)).setCell ⟨w.heap.size, 12, none⟩ (.slice a n2 c)).heap[w.heap.size]? = some (.cells #[.int .i64 kind, .int .i64 fr, .int .i64 to, .int .i64 te, .int .i64 ix, .int .i64 at_, .int .i64 co, .int .i64 me, .int .i64 off, .int .i64 sz, .bool yes, .string data, .slice a n2 c] 24 (0, 0))) := Lib.hid (set13_blk BM1.out); have hX1 : Ext w x1 := Ext.trans ((Ext.refl w).alloc _) hx1; have HXS : Hid (Ext w (((((((((((((x1.setCell ⟨w.heap.size, 0, none⟩ (.int .i64 kind)).setCell ⟨w.heap.size, 1, none⟩ (.int .i64 fr)).setCell ⟨w.heap.size, 2, none⟩ (.int .i64 to)).setCell ⟨w.heap.size, 3, none⟩ (.int .i64 te)).setCell ⟨w.heap.size, 4, none⟩ (.int .i64 ix)).setCell ⟨w.heap.size, 5, none⟩ (.int .i64 at_)).setCell ⟨w.heap.size, 6, none⟩ (.int .i64 co)).setCell ⟨w.heap.size, 7, none⟩ (.int .i64 me)).setCell ⟨w.heap.size, 8, none⟩ (.int .i64 off)).setCell ⟨w.heap.size, 9, none⟩ (.int .i64 sz)).setCell ⟨w.heap.size, 10, none⟩ (.bool yes)).setCell ⟨w.heap.size, 11, none⟩ (.string data)).setCell ⟨w.heap.size, 12, none⟩ (.slice a n2 c))) := Lib.hid ((((((((((((((hX1.setCell (p := ⟨w.heap.size, 0, none⟩) (Nat.le_refl _) (.int .i64 kind)).setCell (p := ⟨w.heap.size, 1, none⟩) (Nat.le_refl _) (.int .i64 fr)).setCell (p := ⟨w.heap.size, 2, none⟩) (Nat.le_refl _) (.int .i64 to)).setCell (p := ⟨w.heap.size, 3, none⟩) (Nat.le_refl _) (.int .i64 te)).setCell (p := ⟨w.heap.size, 4, none⟩) (Nat.le_refl _) (.int .i64 ix)).setCell (p := ⟨w.heap.size, 5, none⟩) (Nat.le_refl _) (.int .i64 at_)).setCell (p := ⟨w.heap.size, 6, none⟩) (Nat.le_refl _) (.int .i64 co)).setCell (p := ⟨w.heap.size, 7, none⟩) (Nat.le_refl _) (.int .i64 me)).setCell (p := ⟨w.heap.size, 8, none⟩) (Nat.le_refl _) (.int .i64 off)).setCell (p := ⟨w.heap.size, 9, none⟩) (Nat.le_refl _) (.int .i64 sz)).setCell (p := ⟨w.heap.size, 10, none⟩) (Nat.le_refl _) (.bool yes)).setCell (p := ⟨w.heap.size, 11, none⟩) (Nat.le_refl _) (.string data)).setCell (p := ⟨w.heap.size, 12, none⟩) (Nat.le_refl _) (.slice a n2 c))); have zx1 := blk_lt BM1.out; obtain ⟨k0, l0⟩ := blkG BM1.out 0 (.int .i64 kind) rfl; obtain ⟨k1, l1⟩ := blkG BM1.out 1 (.int .i64 fr) rfl; obtain ⟨k2, l2⟩ := blkG BM1.out 2 (.int .i64 to) rfl; obtain ⟨k3, l3⟩ := blkG BM1.out 3 (.int .i64 te) rfl; obtain ⟨k4, l4⟩ := blkG BM1.out 4 (.int .i64 ix) rfl; obtain ⟨k5, l5⟩ := blkG BM1.out 5 (.int .i64 at_) rfl; obtain ⟨k6, l6⟩ := blkG BM1.out 6 (.int .i64 co) rfl; obtain ⟨k7, l7⟩ := blkG BM1.out 7 (.int .i64 me) rfl; obtain ⟨k8, l8⟩ := blkG BM1.out 8 (.int .i64 off) rfl; obtain ⟨k9, l9⟩ := blkG BM1.out 9 (.int .i64 sz) rfl; obtain ⟨k10, l10⟩ := blkG BM1.out 10 (.bool yes) rfl; obtain ⟨k11, l11⟩ := blkG BM1.out 11 (.string data) rfl; obtain ⟨k12, l12⟩ := blkG BM1.out 12 (.slice a n c) rfl)
    | (go_at_call 17; with_reducible refine (HR.out _ HXS.out).mono ?_; rintro e x2 ⟨rfl, hx2⟩; have BM2 := Lib.hid (ext_blk hx2 BS.out); have HX2 := Lib.hid (HXS.out.trans hx2); obtain ⟨p0, _⟩ := blkG BM2.out 0 (.int .i64 kind) rfl; obtain ⟨p1, _⟩ := blkG BM2.out 1 (.int .i64 fr) rfl; obtain ⟨p2, _⟩ := blkG BM2.out 2 (.int .i64 to) rfl; obtain ⟨p3, _⟩ := blkG BM2.out 3 (.int .i64 te) rfl; obtain ⟨p4, _⟩ := blkG BM2.out 4 (.int .i64 ix) rfl; obtain ⟨p5, _⟩ := blkG BM2.out 5 (.int .i64 at_) rfl; obtain ⟨p6, _⟩ := blkG BM2.out 6 (.int .i64 co) rfl; obtain ⟨p7, _⟩ := blkG BM2.out 7 (.int .i64 me) rfl; obtain ⟨p8, _⟩ := blkG BM2.out 8 (.int .i64 off) rfl; obtain ⟨p9, _⟩ := blkG BM2.out 9 (.int .i64 sz) rfl; obtain ⟨p10, _⟩ := blkG BM2.out 10 (.bool yes) rfl; obtain ⟨p11, _⟩ := blkG BM2.out 11 (.string data) rfl; obtain ⟨p12, _⟩ := blkG BM2.out 12 (.slice a n2 c) rfl)
    | (go_at_call 9; with_reducible refine (HP.out _ HX2.out).mono ?_; rintro e x3 ⟨v3, rfl, ho3, hx3⟩; have HO3 := Lib.hid ho3; clear ho3)
    | (go_at_call 10; with_reducible refine (HG2.out _ _ (Own8.rd HO3.out)).mono ?_; rintro e x4 ⟨a4, c4, rfl, ho4, hx4⟩; have BM4 := Lib.hid (ext_blk hx4 (ext_blk hx3 BM2.out)); have HX4 := Lib.hid (HX2.out.trans (hx3.trans hx4)); have HO4 := Lib.hid ho4; clear ho4; have HX4A := Lib.hid (HX4.out.alloc (.cells #[.int .i64 kind, .int .i64 fr, .int .i64 to, .int .i64 te, .int .i64 ix, .int .i64 at_, .int .i64 co, .int .i64 me, .int .i64 off, .int .i64 sz, .bool yes, .string data, .slice a4 n2 c4] 24)); have zx4 := blk_lt BM4.out; obtain ⟨r0, _⟩ := blkG BM4.out 0 (.int .i64 kind) rfl; obtain ⟨r1, _⟩ := blkG BM4.out 1 (.int .i64 fr) rfl; obtain ⟨r2, _⟩ := blkG BM4.out 2 (.int .i64 to) rfl; obtain ⟨r3, _⟩ := blkG BM4.out 3 (.int .i64 te) rfl; obtain ⟨r4, _⟩ := blkG BM4.out 4 (.int .i64 ix) rfl; obtain ⟨r5, _⟩ := blkG BM4.out 5 (.int .i64 at_) rfl; obtain ⟨r6, _⟩ := blkG BM4.out 6 (.int .i64 co) rfl; obtain ⟨r7, _⟩ := blkG BM4.out 7 (.int .i64 me) rfl; obtain ⟨r8, _⟩ := blkG BM4.out 8 (.int .i64 off) rfl; obtain ⟨r9, _⟩ := blkG BM4.out 9 (.int .i64 sz) rfl; obtain ⟨r10, _⟩ := blkG BM4.out 10 (.bool yes) rfl; obtain ⟨r11, _⟩ := blkG BM4.out 11 (.string data) rfl; obtain ⟨r12, _⟩ := blkG BM4.out 12 (.slice a n2 c) rfl)
    | (go_at_call 12; with_reducible refine (HSM.out _ _ _ HX4A.out (OwnS.rd (HO4.out.ext ((Ext.refl x4).alloc _)))).mono ?_; rintro e x5 ⟨rfl, hx5⟩; have HX5 := Lib.hid (HX4A.out.trans hx5))
    | (go_at_call 10; with_reducible refine (HGB.out _ HX5.out).mono ?_; rintro e x6 ⟨a6, c6, rfl, ho6, hx6⟩; have HX6 := Lib.hid (HX5.out.trans hx6); have HO6 := Lib.hid ho6; clear ho6)
    | (go_at_call 3; refine (lruns_any _).mono ?_; rintro e x9 ⟨rfl, hx9⟩))
  go_ret
  exact ⟨rfl, Ext.trans (HX6.out.alloc _) hx9⟩

set_option maxHeartbeats 16000000 in
set_option maxRecDepth 100000 in
theorem lback_no (m g : Lt) (a ab : Option Addr) (c n cb n2 : Nat) (es2 eg : List Ent) (bs : List UInt8) (err : Int) (hlen : es2.length = n2) (hc : n ≤ c) (hcm : c ≤ 9223372036854775807) (hn2 : min n 20 = n2) (w : World) (hl2 : SlS Ent.cells 3 w (.slice a n2 c) es2) (hb : Rd8 w (.slice ab bs.length cb) bs) (hbl : bs.length ≤ 140737488355328) (hR : ¬ RightP m es2) (hG : GetIs bs g eg err) (he : err = 0) : Calls Try.prog 7 #[m.agg (.slice a n c), .slice ab bs.length cb] w fun e w' => e = .returned (.bool true) ∧ Ext w w' := by
  have hf := fun z => lfew_any m a c n hc hcm z
  rw [hn2] at hf
  have hn20 : n2 ≤ 20 := by omega
  have hr := fun z (hz : Ext w z) => lright_is m a c n2 es2 hlen false ⟨fun h => (by cases h), fun h => absurd h hR⟩ z (SlS.ext hl2 hz)
  have hgb := fun z (hz : Ext w z) => get_is _ bs g eg err hG z (hb.ext hz) hbl
  obtain ⟨hrg, hlg⟩ := get_ok hG he (by omega)
  have hpg := fun a' c' z (ha : SlS Ent.cells 3 z (.slice a' eg.length c') eg) => lput_yes g a' c' eg.length eg rfl z ha hrg
  rw [hlg] at hpg
  subst he
  clear hrg hlg
  obtain ⟨kind, fr, to, te, ix, at_, co, me, off, sz, yes, data⟩ := m
  simp only [Lt.agg] at hr hf hgb  hpg ⊢
  have HR := Lib.hid hr
  have HF := Lib.hid hf
  have HGB := Lib.hid hgb
  have HB := Lib.hid hb
  have HPG := Lib.hid hpg
  clear hr hf hgb hb hl2 hR hG hn2 hlen  hpg
  go_enter Try.func7, Try.ntmps7
  go_wp2_with (first
    | (go_at_call 13; with_reducible refine (HF.out _).mono ?_; rintro e x1 ⟨rfl, hx1⟩; have BM1 := Lib.hid (ext_blk hx1 (new_blk w (.cells #[.int .i64 kind, .int .i64 fr, .int .i64 to, .int .i64 te, .int .i64 ix, .int .i64 at_, .int .i64 co, .int .i64 me, .int .i64 off, .int .i64 sz, .bool yes, .string data, .slice a n c] 24))); have BS : Hid ((((((((((((((x1.setCell ⟨w.heap.size, 0, none⟩ (.int .i64 kind)).setCell ⟨w.heap.size, 1, none⟩ (.int .i64 fr)).setCell ⟨w.heap.size, 2, none⟩ (.int .i64 to)).setCell ⟨w.heap.size, 3, none⟩ (.int .i64 te)).setCell ⟨w.heap.size, 4, none⟩ (.int .i64 ix)).setCell ⟨w.heap.size, 5, none⟩ (.int .i64 at_)).setCell ⟨w.heap.size, 6, none⟩ (.int .i64 co)).setCell ⟨w.heap.size, 7, none⟩ (.int .i64 me)).setCell ⟨w.heap.size, 8, none⟩ (.int .i64 off)).setCell ⟨w.heap.size, 9, none⟩ (.int .i64 sz)).setCell ⟨w.heap.size, 10, none⟩ (.bool yes)).setCell ⟨w.heap.size, 11, none⟩ (.string data)).setCell ⟨w.heap.size, 12, none⟩ (.slice a n2 c)).heap[w.heap.size]? = some (.cells #[.int .i64 kind, .int .i64 fr, .int .i64 to, .int .i64 te, .int .i64 ix, .int .i64 at_, .int .i64 co, .int .i64 me, .int .i64 off, .int .i64 sz, .bool yes, .string data, .slice a n2 c] 24 (0, 0))) := Lib.hid (set13_blk BM1.out); have hX1 : Ext w x1 := Ext.trans ((Ext.refl w).alloc _) hx1; have HXS : Hid (Ext w (((((((((((((x1.setCell ⟨w.heap.size, 0, none⟩ (.int .i64 kind)).setCell ⟨w.heap.size, 1, none⟩ (.int .i64 fr)).setCell ⟨w.heap.size, 2, none⟩ (.int .i64 to)).setCell ⟨w.heap.size, 3, none⟩ (.int .i64 te)).setCell ⟨w.heap.size, 4, none⟩ (.int .i64 ix)).setCell ⟨w.heap.size, 5, none⟩ (.int .i64 at_)).setCell ⟨w.heap.size, 6, none⟩ (.int .i64 co)).setCell ⟨w.heap.size, 7, none⟩ (.int .i64 me)).setCell ⟨w.heap.size, 8, none⟩ (.int .i64 off)).setCell ⟨w.heap.size, 9, none⟩ (.int .i64 sz)).setCell ⟨w.heap.size, 10, none⟩ (.bool yes)).setCell ⟨w.heap.size, 11, none⟩ (.string data)).setCell ⟨w.heap.size, 12, none⟩ (.slice a n2 c))) := Lib.hid ((((((((((((((hX1.setCell (p := ⟨w.heap.size, 0, none⟩) (Nat.le_refl _) (.int .i64 kind)).setCell (p := ⟨w.heap.size, 1, none⟩) (Nat.le_refl _) (.int .i64 fr)).setCell (p := ⟨w.heap.size, 2, none⟩) (Nat.le_refl _) (.int .i64 to)).setCell (p := ⟨w.heap.size, 3, none⟩) (Nat.le_refl _) (.int .i64 te)).setCell (p := ⟨w.heap.size, 4, none⟩) (Nat.le_refl _) (.int .i64 ix)).setCell (p := ⟨w.heap.size, 5, none⟩) (Nat.le_refl _) (.int .i64 at_)).setCell (p := ⟨w.heap.size, 6, none⟩) (Nat.le_refl _) (.int .i64 co)).setCell (p := ⟨w.heap.size, 7, none⟩) (Nat.le_refl _) (.int .i64 me)).setCell (p := ⟨w.heap.size, 8, none⟩) (Nat.le_refl _) (.int .i64 off)).setCell (p := ⟨w.heap.size, 9, none⟩) (Nat.le_refl _) (.int .i64 sz)).setCell (p := ⟨w.heap.size, 10, none⟩) (Nat.le_refl _) (.bool yes)).setCell (p := ⟨w.heap.size, 11, none⟩) (Nat.le_refl _) (.string data)).setCell (p := ⟨w.heap.size, 12, none⟩) (Nat.le_refl _) (.slice a n2 c))); have zx1 := blk_lt BM1.out; obtain ⟨k0, l0⟩ := blkG BM1.out 0 (.int .i64 kind) rfl; obtain ⟨k1, l1⟩ := blkG BM1.out 1 (.int .i64 fr) rfl; obtain ⟨k2, l2⟩ := blkG BM1.out 2 (.int .i64 to) rfl; obtain ⟨k3, l3⟩ := blkG BM1.out 3 (.int .i64 te) rfl; obtain ⟨k4, l4⟩ := blkG BM1.out 4 (.int .i64 ix) rfl; obtain ⟨k5, l5⟩ := blkG BM1.out 5 (.int .i64 at_) rfl; obtain ⟨k6, l6⟩ := blkG BM1.out 6 (.int .i64 co) rfl; obtain ⟨k7, l7⟩ := blkG BM1.out 7 (.int .i64 me) rfl; obtain ⟨k8, l8⟩ := blkG BM1.out 8 (.int .i64 off) rfl; obtain ⟨k9, l9⟩ := blkG BM1.out 9 (.int .i64 sz) rfl; obtain ⟨k10, l10⟩ := blkG BM1.out 10 (.bool yes) rfl; obtain ⟨k11, l11⟩ := blkG BM1.out 11 (.string data) rfl; obtain ⟨k12, l12⟩ := blkG BM1.out 12 (.slice a n c) rfl)
    | (go_at_call 17; with_reducible refine (HR.out _ HXS.out).mono ?_; rintro e x2 ⟨rfl, hx2⟩; have BM2 := Lib.hid (ext_blk hx2 BS.out); have HX2 := Lib.hid (HXS.out.trans hx2))
    | (go_at_call 10; with_reducible refine (HGB.out _ HX2.out).mono ?_; rintro e x6 ⟨a6, c6, rfl, ho6, hx6⟩; have HX6 := Lib.hid (HX2.out.trans hx6); have HO6 := Lib.hid ho6; clear ho6)
    | (go_at_call 9; with_reducible refine (HPG.out _ _ _ (OwnS.rd (HO6.out.ext ((Ext.refl x6).alloc _)))).mono ?_; rintro e x7 ⟨v7, rfl, ho7, hx7⟩; have HX7 := Lib.hid (Ext.trans (HX6.out.alloc _) hx7); have HO7 := Lib.hid ho7; clear ho7)
    | (go_at_call 11; (with_reducible refine (same8 _ _ bs bs _ (Own8.rd HO7.out) (HB.out.ext HX7.out)).mono ?_); rintro e x8 ⟨rfl, hx8⟩)
    | (go_at_call 3; refine (lruns_any _).mono ?_; rintro e x9 ⟨rfl, hx9⟩))
  go_ret
  exact ⟨rfl, HX7.out.trans (hx8.trans hx9)⟩

set_option maxHeartbeats 16000000 in
set_option maxRecDepth 100000 in
theorem lback_ne (m g : Lt) (a ab : Option Addr) (c n cb n2 : Nat) (es2 eg : List Ent) (bs : List UInt8) (err : Int) (hlen : es2.length = n2) (hc : n ≤ c) (hcm : c ≤ 9223372036854775807) (hn2 : min n 20 = n2) (w : World) (hl2 : SlS Ent.cells 3 w (.slice a n2 c) es2) (hb : Rd8 w (.slice ab bs.length cb) bs) (hbl : bs.length ≤ 140737488355328) (hR : ¬ RightP m es2) (hG : GetIs bs g eg err) (he : err ≠ 0) : Calls Try.prog 7 #[m.agg (.slice a n c), .slice ab bs.length cb] w fun e w' => e = .returned (.bool true) ∧ Ext w w' := by
  have hf := fun z => lfew_any m a c n hc hcm z
  rw [hn2] at hf
  have hn20 : n2 ≤ 20 := by omega
  have hr := fun z (hz : Ext w z) => lright_is m a c n2 es2 hlen false ⟨fun h => (by cases h), fun h => absurd h hR⟩ z (SlS.ext hl2 hz)
  have hgb := fun z (hz : Ext w z) => get_is _ bs g eg err hG z (hb.ext hz) hbl
  have hne : (err != 0) = true := by simp [he]
  obtain ⟨kind, fr, to, te, ix, at_, co, me, off, sz, yes, data⟩ := m
  simp only [Lt.agg] at hr hf hgb   ⊢
  have HR := Lib.hid hr
  have HF := Lib.hid hf
  have HGB := Lib.hid hgb
  have HB := Lib.hid hb
  clear hr hf hgb hb hl2 hR hG hn2 hlen  he
  go_enter Try.func7, Try.ntmps7
  go_wp2_with (first
    | (go_at_call 13; with_reducible refine (HF.out _).mono ?_; rintro e x1 ⟨rfl, hx1⟩; have BM1 := Lib.hid (ext_blk hx1 (new_blk w (.cells #[.int .i64 kind, .int .i64 fr, .int .i64 to, .int .i64 te, .int .i64 ix, .int .i64 at_, .int .i64 co, .int .i64 me, .int .i64 off, .int .i64 sz, .bool yes, .string data, .slice a n c] 24))); have BS : Hid ((((((((((((((x1.setCell ⟨w.heap.size, 0, none⟩ (.int .i64 kind)).setCell ⟨w.heap.size, 1, none⟩ (.int .i64 fr)).setCell ⟨w.heap.size, 2, none⟩ (.int .i64 to)).setCell ⟨w.heap.size, 3, none⟩ (.int .i64 te)).setCell ⟨w.heap.size, 4, none⟩ (.int .i64 ix)).setCell ⟨w.heap.size, 5, none⟩ (.int .i64 at_)).setCell ⟨w.heap.size, 6, none⟩ (.int .i64 co)).setCell ⟨w.heap.size, 7, none⟩ (.int .i64 me)).setCell ⟨w.heap.size, 8, none⟩ (.int .i64 off)).setCell ⟨w.heap.size, 9, none⟩ (.int .i64 sz)).setCell ⟨w.heap.size, 10, none⟩ (.bool yes)).setCell ⟨w.heap.size, 11, none⟩ (.string data)).setCell ⟨w.heap.size, 12, none⟩ (.slice a n2 c)).heap[w.heap.size]? = some (.cells #[.int .i64 kind, .int .i64 fr, .int .i64 to, .int .i64 te, .int .i64 ix, .int .i64 at_, .int .i64 co, .int .i64 me, .int .i64 off, .int .i64 sz, .bool yes, .string data, .slice a n2 c] 24 (0, 0))) := Lib.hid (set13_blk BM1.out); have hX1 : Ext w x1 := Ext.trans ((Ext.refl w).alloc _) hx1; have HXS : Hid (Ext w (((((((((((((x1.setCell ⟨w.heap.size, 0, none⟩ (.int .i64 kind)).setCell ⟨w.heap.size, 1, none⟩ (.int .i64 fr)).setCell ⟨w.heap.size, 2, none⟩ (.int .i64 to)).setCell ⟨w.heap.size, 3, none⟩ (.int .i64 te)).setCell ⟨w.heap.size, 4, none⟩ (.int .i64 ix)).setCell ⟨w.heap.size, 5, none⟩ (.int .i64 at_)).setCell ⟨w.heap.size, 6, none⟩ (.int .i64 co)).setCell ⟨w.heap.size, 7, none⟩ (.int .i64 me)).setCell ⟨w.heap.size, 8, none⟩ (.int .i64 off)).setCell ⟨w.heap.size, 9, none⟩ (.int .i64 sz)).setCell ⟨w.heap.size, 10, none⟩ (.bool yes)).setCell ⟨w.heap.size, 11, none⟩ (.string data)).setCell ⟨w.heap.size, 12, none⟩ (.slice a n2 c))) := Lib.hid ((((((((((((((hX1.setCell (p := ⟨w.heap.size, 0, none⟩) (Nat.le_refl _) (.int .i64 kind)).setCell (p := ⟨w.heap.size, 1, none⟩) (Nat.le_refl _) (.int .i64 fr)).setCell (p := ⟨w.heap.size, 2, none⟩) (Nat.le_refl _) (.int .i64 to)).setCell (p := ⟨w.heap.size, 3, none⟩) (Nat.le_refl _) (.int .i64 te)).setCell (p := ⟨w.heap.size, 4, none⟩) (Nat.le_refl _) (.int .i64 ix)).setCell (p := ⟨w.heap.size, 5, none⟩) (Nat.le_refl _) (.int .i64 at_)).setCell (p := ⟨w.heap.size, 6, none⟩) (Nat.le_refl _) (.int .i64 co)).setCell (p := ⟨w.heap.size, 7, none⟩) (Nat.le_refl _) (.int .i64 me)).setCell (p := ⟨w.heap.size, 8, none⟩) (Nat.le_refl _) (.int .i64 off)).setCell (p := ⟨w.heap.size, 9, none⟩) (Nat.le_refl _) (.int .i64 sz)).setCell (p := ⟨w.heap.size, 10, none⟩) (Nat.le_refl _) (.bool yes)).setCell (p := ⟨w.heap.size, 11, none⟩) (Nat.le_refl _) (.string data)).setCell (p := ⟨w.heap.size, 12, none⟩) (Nat.le_refl _) (.slice a n2 c))); have zx1 := blk_lt BM1.out; obtain ⟨k0, l0⟩ := blkG BM1.out 0 (.int .i64 kind) rfl; obtain ⟨k1, l1⟩ := blkG BM1.out 1 (.int .i64 fr) rfl; obtain ⟨k2, l2⟩ := blkG BM1.out 2 (.int .i64 to) rfl; obtain ⟨k3, l3⟩ := blkG BM1.out 3 (.int .i64 te) rfl; obtain ⟨k4, l4⟩ := blkG BM1.out 4 (.int .i64 ix) rfl; obtain ⟨k5, l5⟩ := blkG BM1.out 5 (.int .i64 at_) rfl; obtain ⟨k6, l6⟩ := blkG BM1.out 6 (.int .i64 co) rfl; obtain ⟨k7, l7⟩ := blkG BM1.out 7 (.int .i64 me) rfl; obtain ⟨k8, l8⟩ := blkG BM1.out 8 (.int .i64 off) rfl; obtain ⟨k9, l9⟩ := blkG BM1.out 9 (.int .i64 sz) rfl; obtain ⟨k10, l10⟩ := blkG BM1.out 10 (.bool yes) rfl; obtain ⟨k11, l11⟩ := blkG BM1.out 11 (.string data) rfl; obtain ⟨k12, l12⟩ := blkG BM1.out 12 (.slice a n c) rfl)
    | (go_at_call 17; with_reducible refine (HR.out _ HXS.out).mono ?_; rintro e x2 ⟨rfl, hx2⟩; have BM2 := Lib.hid (ext_blk hx2 BS.out); have HX2 := Lib.hid (HXS.out.trans hx2))
    | (go_at_call 10; with_reducible refine (HGB.out _ HX2.out).mono ?_; rintro e x6 ⟨a6, c6, rfl, ho6, hx6⟩; have HX6 := Lib.hid (HX2.out.trans hx6); have HO6 := Lib.hid ho6; clear ho6)
    | (go_at_call 3; refine (lruns_any _).mono ?_; rintro e x9 ⟨rfl, hx9⟩))
  go_ret
  exact ⟨rfl, Ext.trans (HX6.out.alloc _) hx9⟩

theorem lback_any (m : Lt) (a ab : Option Addr) (c n cb : Nat) (es : List Ent) (bs : List UInt8) (hn : es.length = n) (hc : n ≤ c) (hcm : c ≤ 9223372036854775807) (w : World) (hl : SlS Ent.cells 3 w (.slice a n c) es) (hb : Rd8 w (.slice ab bs.length cb) bs) (hbl : bs.length ≤ 140737488355328) : Calls Try.prog 7 #[m.agg (.slice a n c), .slice ab bs.length cb] w fun e w' => e = .returned (.bool true) ∧ Ext w w' := by
  have hl2 : SlS Ent.cells 3 w (.slice a (min n 20) c) (es.take (min n 20)) := SlS.cut Ent.three hl (min n 20) (by omega) c
  have hlen : (es.take (min n 20)).length = min n 20 := by rw [List.length_take]; omega
  obtain ⟨g, eg, err, hG⟩ := get_total bs
  by_cases hR : RightP m (es.take (min n 20)) <;> by_cases he : err = 0
  · exact lback_ro m g a ab c n cb _ _ eg bs err hlen hc hcm rfl w hl2 hb hbl hR hG he
  · exact lback_re m g a ab c n cb _ _ eg bs err hlen hc hcm rfl w hl2 hb hbl hR hG he
  · exact lback_no m g a ab c n cb _ _ eg bs err hlen hc hcm rfl w hl2 hb hbl hR hG he
  · exact lback_ne m g a ab c n cb _ _ eg bs err hlen hc hcm rfl w hl2 hb hbl hR hG he
end Go.Proofs.Ytpfdihidncofaaa
