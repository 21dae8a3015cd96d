/- The document's RightLetter, with its answer under a name. (Written by genNetA.py.) -/
import Derived.Test.YtognipephfedkaaLetR
import Derived.Test.YtognipephfedkaaLetH
import Derived.Test.YtognipephfedkaaLetT
import Derived.Test.YtognipephfedkaaPackRefS
import Derived.Test.YtognipephfedkaaBackLaw
namespace Go.Proofs.Ytognipephfedkaa
open Go.RowKit
section

theorem lref_is (m : Lt) (a : Option Addr) (c n : Nat) (es : List Ent) (hn : es.length = n) (hle : n ≤ 1000000) (q : Bool) (hq : q = true ↔ RightP m es) (w : World) (hl : SlS Ent.cells 3 w (.slice a n c) es) : Calls Try.prog 18 #[m.agg (.slice a n c)] w fun e w' => e = .returned (.bool q) ∧ Ext w w' := by
  subst hn
  refine (ref_any m a c es w hl hle).mono ?_
  rintro e w' ⟨⟨q', rfl, h⟩, hx⟩
  have : q' = q := by
    cases q' <;> cases q <;> simp_all
  rw [this]
  exact ⟨rfl, hx⟩
end
section

theorem rdx_wrong {B T : Nat} {w : World} {r : Nat} {bs : List UInt8} {s : RS} (h : RdX B T w r bs s) : w.cell? ⟨r, 2, none⟩ = some (.int .i64 s.err) := by
  obtain ⟨a, cap, hr, _⟩ := h
  exact hr.c2
theorem rNum_stop {bs : List UInt8} {s : RS} (h : s.err ≠ 0) : (rNum bs s).2 = s := by unfold rNum; rw [if_neg h]
theorem rWithin_stop {bs : List UInt8} {s : RS} (h : s.err ≠ 0) (lo hi : Int) : (rWithin bs s lo hi).2 = s := by
  unfold rWithin
  simp only []
  rw [if_neg (fun hc => h (by have := hc.1; rwa [rNum_stop h] at this))]
  exact rNum_stop h
theorem rText_stop {bs : List UInt8} {s : RS} (h : s.err ≠ 0) (most : Int) : (rText bs s most).2 = s := by
  unfold rText
  simp only []
  rw [if_pos (by rw [rWithin_stop h]; exact h)]
  exact rWithin_stop h 0 most
theorem entR_stop {bs : List UInt8} {s : RS} (h : s.err ≠ 0) : (entR bs s).2 = s := by
  simp only [entR]
  rw [rNum_stop h, rNum_stop h, rText_stop h]
theorem entSt_stop {bs : List UInt8} {s : RS} {k n : Nat} (hk : k ≤ n) (h : (entSt bs s k).err ≠ 0) : entSt bs s n = entSt bs s k := by
  induction n with
  | zero => obtain rfl : k = 0 := by omega
            rfl
  | succ n ih =>
    by_cases he : k = n + 1
    · subst he; rfl
    · have h1 := ih (by omega)
      rw [entSt, h1]
      exact entR_stop h
theorem rEnd_bad {bs : List UInt8} {s : RS} (h : s.err ≠ 0) : (rEnd bs s).err ≠ 0 := by
  unfold rEnd
  rw [if_neg (fun hc => h hc.1)]
  exact h
theorem mArr_one (bs : List UInt8) : mArr bs 1 = #[.int .i64 (vN bs 0), .int .i64 0, .int .i64 0, .int .i64 0, .int .i64 0, .int .i64 0, .int .i64 0, .int .i64 0, .int .i64 0, .int .i64 0, .bool false, .string ⟨#[]⟩, .slice none 0 0] := by
  simp [mArr, List.range_succ]
section
variable {B T r : Nat} {bs : List UInt8} {w : World}
theorem qnum_k (k : Nat) (h : RdX B T w r bs (stN bs k)) : Calls Try.prog 37 #[.pointer (some ⟨r, 0, none⟩)] w fun x w' => x = .returned (.int .i64 (vN bs k)) ∧ RdX B T w' r bs (stN bs (k + 1)) ∧ KeepR r w w' := qnum_x h
theorem qflag_k (h : RdX B T w r bs (stN bs 10)) : Calls Try.prog 38 #[.pointer (some ⟨r, 0, none⟩)] w fun x w' => x = .returned (.bool (flR bs).1) ∧ RdX B T w' r bs (flR bs).2 ∧ KeepR r w w' := qflag_x h
theorem qtext_k (h : RdX B T w r bs (flR bs).2) : Calls Try.prog 39 #[.pointer (some ⟨r, 0, none⟩), .int .i64 600] w fun x w' => x = .returned (.string ⟨(txR bs).1.toArray⟩) ∧ RdX B T w' r bs (txR bs).2 ∧ KeepR r w w' := qtext_x h 600
theorem qcount_k (h : RdX B T w r bs (txR bs).2) : Calls Try.prog 40 #[.pointer (some ⟨r, 0, none⟩), .int .i64 8] w fun x w' => x = .returned (.int .i64 (gN bs : Int)) ∧ RdX B T w' r bs (coR bs).2 ∧ KeepR r w w' := by
  have := qcount_x h 8
  have e : (rCount bs (txR bs).2 8).1 = (gN bs : Int) := (gN_cast bs).1
  rw [e] at this
  exact this
theorem qent1_k (s : RS) (h : RdX B T w r bs s) : Calls Try.prog 37 #[.pointer (some ⟨r, 0, none⟩)] w fun x w' => x = .returned (.int .i64 (e1R bs s).1) ∧ RdX B T w' r bs (e1R bs s).2 ∧ KeepR r w w' := qnum_x h
theorem qent2_k (s : RS) (h : RdX B T w r bs (e1R bs s).2) : Calls Try.prog 37 #[.pointer (some ⟨r, 0, none⟩)] w fun x w' => x = .returned (.int .i64 (e2R bs s).1) ∧ RdX B T w' r bs (e2R bs s).2 ∧ KeepR r w w' := qnum_x h
theorem qent3_k (s : RS) (h : RdX B T w r bs (e2R bs s).2) : Calls Try.prog 39 #[.pointer (some ⟨r, 0, none⟩), .int .i64 1100] w fun x w' => x = .returned (.string ⟨(e3R bs s).1.toArray⟩) ∧ RdX B T w' r bs (e3R bs s).2 ∧ KeepR r w w' := qtext_x h 1100
end

set_option maxHeartbeats 16000000 in
set_option maxRecDepth 100000 in
theorem rget_any (v : Value) (bs : List UInt8) (w : World) (hr : Rd8 w v bs) (hb : bs.length ≤ 140737488355328) : Calls Try.prog 26 #[v] w (GetPost w bs) := by
  obtain ⟨i0, hi, iz0, iz1, iz2⟩ := info_parts Try.infoEnt
  have hread := qread_new v bs (w.alloc (.cells #[.int .i64 0, .int .i64 0, .int .i64 0, .int .i64 0, .int .i64 0, .int .i64 0, .int .i64 0, .int .i64 0, .int .i64 0, .int .i64 0, .bool false, .string ⟨#[]⟩, .slice none 0 0] 27)) (hr.ext ((Ext.refl w).alloc _)) hb
  have HRD := Lib.hid hread
  have hZ0 : (w.alloc (.cells #[.int .i64 0, .int .i64 0, .int .i64 0, .int .i64 0, .int .i64 0, .int .i64 0, .int .i64 0, .int .i64 0, .int .i64 0, .int .i64 0, .bool false, .string ⟨#[]⟩, .slice none 0 0] 27)).heap[w.heap.size]? = some (.cells zeroM 27 (0, 0)) := new_blk w _
  have HZ0 := Lib.hid hZ0
  clear hread hZ0 hr hb
  go_enter Try.func26, Try.ntmps26
  go_wp2_with (first
    | (go_at_call 36; refine HRD.out.mono ?_; rintro e w1 ⟨r, rfl, hrd, hx1⟩; have HX1 : Hid (Ext w w1) := Lib.hid (Ext.trans ((Ext.refl w).alloc _) hx1); obtain ⟨hr1, hr2, hr3, _, _⟩ := hrd.r_in; have hrB : w.heap.size < r := (by simp at hr1; omega); have hrT : r < w1.heap.size := (by omega); have HRD1 : Hid (RdX (w.heap.size + 1) w1.heap.size w1 r bs (stN bs 0)) := Lib.hid (by simpa [stN] using hrd); have HZ1 := Lib.hid (ext_blk hx1 HZ0.out); clear hrd hr1 hr2 hr3)
    | (go_at_call 37; (with_reducible refine (qnum_k 9 HN9.out.rd).mono ?_); rintro e n9 ⟨rfl, hrd0, hk0⟩; have HH9 := Lib.hid (HN9.out.keep hrd0 hk0 hrB hrM); obtain ⟨cc9, ff9⟩ := blkG HH9.out.mb 9 _ (mArr_at bs 9 (by decide)); have HN10 : Hid (GI w r n0.heap.size bs (w.heap.size + 1) w1.heap.size (n9.setCell ⟨n0.heap.size, 9, none⟩ (.int .i64 (vN bs 9))) (mArr bs 10) (stN bs 10)) := Lib.hid (HH9.out.setM 9 _ (mArr_set bs 9 (by decide)) hTM hwM); have HG1 : Hid (GI w r n0.heap.size bs (w.heap.size + 1) w1.heap.size (n9.setCell ⟨n0.heap.size, 9, none⟩ (.int .i64 (vN bs 9))) (mFull bs false ⟨#[]⟩ (.slice none 0 0)) (stN bs 10)) := Lib.hid (by rw [← mArr_full]; exact HN10.out))
    | (go_at_call 37; (with_reducible refine (qnum_k 8 HN8.out.rd).mono ?_); rintro e n8 ⟨rfl, hrd0, hk0⟩; have HH8 := Lib.hid (HN8.out.keep hrd0 hk0 hrB hrM); obtain ⟨cc8, ff8⟩ := blkG HH8.out.mb 8 _ (mArr_at bs 8 (by decide)); have HN9 : Hid (GI w r n0.heap.size bs (w.heap.size + 1) w1.heap.size (n8.setCell ⟨n0.heap.size, 8, none⟩ (.int .i64 (vN bs 8))) (mArr bs 9) (stN bs 9)) := Lib.hid (HH8.out.setM 8 _ (mArr_set bs 8 (by decide)) hTM hwM))
    | (go_at_call 37; (with_reducible refine (qnum_k 7 HN7.out.rd).mono ?_); rintro e n7 ⟨rfl, hrd0, hk0⟩; have HH7 := Lib.hid (HN7.out.keep hrd0 hk0 hrB hrM); obtain ⟨cc7, ff7⟩ := blkG HH7.out.mb 7 _ (mArr_at bs 7 (by decide)); have HN8 : Hid (GI w r n0.heap.size bs (w.heap.size + 1) w1.heap.size (n7.setCell ⟨n0.heap.size, 7, none⟩ (.int .i64 (vN bs 7))) (mArr bs 8) (stN bs 8)) := Lib.hid (HH7.out.setM 7 _ (mArr_set bs 7 (by decide)) hTM hwM))
    | (go_at_call 37; (with_reducible refine (qnum_k 6 HN6.out.rd).mono ?_); rintro e n6 ⟨rfl, hrd0, hk0⟩; have HH6 := Lib.hid (HN6.out.keep hrd0 hk0 hrB hrM); obtain ⟨cc6, ff6⟩ := blkG HH6.out.mb 6 _ (mArr_at bs 6 (by decide)); have HN7 : Hid (GI w r n0.heap.size bs (w.heap.size + 1) w1.heap.size (n6.setCell ⟨n0.heap.size, 6, none⟩ (.int .i64 (vN bs 6))) (mArr bs 7) (stN bs 7)) := Lib.hid (HH6.out.setM 6 _ (mArr_set bs 6 (by decide)) hTM hwM))
    | (go_at_call 37; (with_reducible refine (qnum_k 5 HN5.out.rd).mono ?_); rintro e n5 ⟨rfl, hrd0, hk0⟩; have HH5 := Lib.hid (HN5.out.keep hrd0 hk0 hrB hrM); obtain ⟨cc5, ff5⟩ := blkG HH5.out.mb 5 _ (mArr_at bs 5 (by decide)); have HN6 : Hid (GI w r n0.heap.size bs (w.heap.size + 1) w1.heap.size (n5.setCell ⟨n0.heap.size, 5, none⟩ (.int .i64 (vN bs 5))) (mArr bs 6) (stN bs 6)) := Lib.hid (HH5.out.setM 5 _ (mArr_set bs 5 (by decide)) hTM hwM))
    | (go_at_call 37; (with_reducible refine (qnum_k 4 HN4.out.rd).mono ?_); rintro e n4 ⟨rfl, hrd0, hk0⟩; have HH4 := Lib.hid (HN4.out.keep hrd0 hk0 hrB hrM); obtain ⟨cc4, ff4⟩ := blkG HH4.out.mb 4 _ (mArr_at bs 4 (by decide)); have HN5 : Hid (GI w r n0.heap.size bs (w.heap.size + 1) w1.heap.size (n4.setCell ⟨n0.heap.size, 4, none⟩ (.int .i64 (vN bs 4))) (mArr bs 5) (stN bs 5)) := Lib.hid (HH4.out.setM 4 _ (mArr_set bs 4 (by decide)) hTM hwM))
    | (go_at_call 37; (with_reducible refine (qnum_k 3 HN3.out.rd).mono ?_); rintro e n3 ⟨rfl, hrd0, hk0⟩; have HH3 := Lib.hid (HN3.out.keep hrd0 hk0 hrB hrM); obtain ⟨cc3, ff3⟩ := blkG HH3.out.mb 3 _ (mArr_at bs 3 (by decide)); have HN4 : Hid (GI w r n0.heap.size bs (w.heap.size + 1) w1.heap.size (n3.setCell ⟨n0.heap.size, 3, none⟩ (.int .i64 (vN bs 3))) (mArr bs 4) (stN bs 4)) := Lib.hid (HH3.out.setM 3 _ (mArr_set bs 3 (by decide)) hTM hwM))
    | (go_at_call 37; (with_reducible refine (qnum_k 2 HN2.out.rd).mono ?_); rintro e n2 ⟨rfl, hrd0, hk0⟩; have HH2 := Lib.hid (HN2.out.keep hrd0 hk0 hrB hrM); obtain ⟨cc2, ff2⟩ := blkG HH2.out.mb 2 _ (mArr_at bs 2 (by decide)); have HN3 : Hid (GI w r n0.heap.size bs (w.heap.size + 1) w1.heap.size (n2.setCell ⟨n0.heap.size, 2, none⟩ (.int .i64 (vN bs 2))) (mArr bs 3) (stN bs 3)) := Lib.hid (HH2.out.setM 2 _ (mArr_set bs 2 (by decide)) hTM hwM))
    | (go_at_call 37; (with_reducible refine (qnum_k 1 HN1.out.rd).mono ?_); rintro e n1 ⟨rfl, hrd0, hk0⟩; have HH1 := Lib.hid (HN1.out.keep hrd0 hk0 hrB hrM); obtain ⟨cc1, ff1⟩ := blkG HH1.out.mb 1 _ (mArr_at bs 1 (by decide)); have HN2 : Hid (GI w r n0.heap.size bs (w.heap.size + 1) w1.heap.size (n1.setCell ⟨n0.heap.size, 1, none⟩ (.int .i64 (vN bs 1))) (mArr bs 2) (stN bs 2)) := Lib.hid (HH1.out.setM 1 _ (mArr_set bs 1 (by decide)) hTM hwM))
    | (go_at_call 37; (with_reducible refine (qnum_k 0 HRD1.out).mono ?_); rintro e n0 ⟨rfl, hrd0, hk0⟩; have hs0 := hk0.size; have hrM : n0.heap.size ≠ r := (by omega); have hwM : w.heap.size < n0.heap.size := (by omega); have hTM : w1.heap.size ≤ n0.heap.size := hs0; have HN1 : Hid (GI w r n0.heap.size bs (w.heap.size + 1) w1.heap.size (n0.alloc (.cells #[.int .i64 (vN bs 0), .int .i64 0, .int .i64 0, .int .i64 0, .int .i64 0, .int .i64 0, .int .i64 0, .int .i64 0, .int .i64 0, .int .i64 0, .bool false, .string ⟨#[]⟩, .slice none 0 0] 27)) (mArr bs 1) (stN bs 1)) := Lib.hid ⟨hrd0.ext ((Ext.refl n0).alloc _), by rw [mArr_one]; exact new_blk n0 _, alloc_blk (keep_blk hk0 HZ1.out (by omega)), (Ext.keep HX1.out hk0 (by omega)).alloc _⟩)
    | (go_at_call 38; refine (qflag_k HG1.out.rd).mono ?_; rintro e y1 ⟨rfl, hrd1, hk1⟩; have HG2 := Lib.hid (HG1.out.keep hrd1 hk1 hrB hrM); obtain ⟨c10, f10⟩ := blkG HG2.out.mb 10 _ rfl; have HG3 : Hid (GI w r n0.heap.size bs (w.heap.size + 1) w1.heap.size _ (mFull bs (flR bs).1 ⟨#[]⟩ (.slice none 0 0)) _) := Lib.hid (HG2.out.setM 10 (.bool (flR bs).1) rfl hTM hwM))
    | (go_at_call 39; refine (qtext_k HG3.out.rd).mono ?_; rintro e y2 ⟨rfl, hrd2, hk2⟩; have HG4 := Lib.hid (HG3.out.keep hrd2 hk2 hrB hrM); obtain ⟨c11, f11⟩ := blkG HG4.out.mb 11 _ rfl; have HG5 : Hid (GI w r n0.heap.size bs (w.heap.size + 1) w1.heap.size _ (mFull bs (flR bs).1 ⟨(txR bs).1.toArray⟩ (.slice none 0 0)) _) := Lib.hid (HG4.out.setM 11 (.string ⟨(txR bs).1.toArray⟩) rfl hTM hwM))
    | (go_at_call 40; refine (qcount_k HG5.out.rd).mono ?_; rintro e y3 ⟨rfl, hrd3, hk3⟩; have HG6 := Lib.hid (HG5.out.keep hrd3 hk3 hrB hrM)))
  clear HN1 HN2 HN3 HN4 HN5 HN6 HN7 HN8 HN9 HN10 HH1 HH2 HH3 HH4 HH5 HH6 HH7 HH8 HH9 cc1 cc2 cc3 cc4 cc5 cc6 cc7 cc8 cc9 ff1 ff2 ff3 ff4 ff5 ff6 ff7 ff8 ff9
  have hn8 := (gN_cast bs).2
  have hmlt := blk_lt HG6.out.mb
  obtain ⟨s0, hs0⟩ : ∃ s, (coR bs).2 = s := ⟨_, rfl⟩
  rw [hs0] at HG6
  have HS0 := Lib.hid hs0
  have HGN : Hid (∀ n, n = gN bs → True) := Lib.hid fun _ _ => trivial
  clear HG1 HG2 HG3 HG4 HG5 c10 f10 c11 f11 hrd1 hrd2 hrd3 hk1 hk2 hk3 hs0
  obtain ⟨nn, hnn⟩ : ∃ n, gN bs = n := ⟨_, rfl⟩
  rw [hnn] at hn8 ⊢
  have HNN := Lib.hid hnn
  clear hnn
  go_loopw [7] (fun iv wq => ∃ (k : Nat) (ev : Value), k ≤ nn ∧ iv = .int .i64 (k : Int) ∧ Hid (GI w r n0.heap.size bs (w.heap.size + 1) w1.heap.size wq (mFull bs (flR bs).1 ⟨(txR bs).1.toArray⟩ ev) (entSt bs s0 k)) ∧ Hid (OwnS Ent.cells 3 49 wq y3.heap.size ev (entsAt bs s0 k)) ∧ y3.heap.size ≤ wq.heap.size) (fun iv _ => nn - (intOf iv).toNat)
  case atStart => exact ⟨0, _, by omega, rfl, HG6, Lib.hid (World.ownsRow_nil _ _ _ _), Nat.le_refl _⟩
  case round =>
    rename World => wq
    obtain ⟨k, ev, hk, rfl, HG, HO, hsq⟩ := hrel
    have hcw := rdx_wrong HG.out.rd
    by_cases hlt2 : k < nn ∧ (entSt bs s0 k).err = 0
    · obtain ⟨hlt2, her⟩ := hlt2
      have hki : (k : Int) < (nn : Int) := by omega
      rw [her] at hcw
      have HNE : Hid (∀ a m c', ev = .slice (some a) m c' → a.block < wq.heap.size) := Lib.hid fun a m c' he => (own_blkE HO.out a m c' he).1
      have hr3' : r < y3.heap.size := by omega
      obtain ⟨s1, hs1⟩ : ∃ s, entSt bs s0 k = s := ⟨_, rfl⟩
      rw [hs1] at HG
      have HS1 := Lib.hid hs1
      clear hs1 her
      go_wp2_with (first
        | (go_at_call 37; (with_reducible refine (qent1_k s1 HG.out.rd).mono ?_); rintro e z1 ⟨rfl, hrd1, hk1⟩; have hq1 := hk1.size; have hrw : z1.heap.size ≠ r := (by omega); have HGC := Lib.hid ((HG.out.keep hrd1 hk1 hrB hrM).grow ((Ext.refl z1).alloc (.cells #[.int .i64 (e1R bs s1).1, .int .i64 0, .string ⟨#[]⟩] 49))); have HXC := Lib.hid (new_blk z1 (.cells #[.int .i64 (e1R bs s1).1, .int .i64 0, .string ⟨#[]⟩] 49)); have HOC := Lib.hid (OwnS.ext (OwnS.keepR HO.out hk1 hr3') ((Ext.refl z1).alloc (.cells #[.int .i64 (e1R bs s1).1, .int .i64 0, .string ⟨#[]⟩] 49))); have HND : Hid (∀ a m c', ev = .slice (some a) m c' → a.block ≠ z1.heap.size) := Lib.hid (fun a m c' he => Nat.ne_of_lt (Nat.lt_of_lt_of_le (HNE.out a m c' he) hq1)))
        | (go_at_call 37; (with_reducible refine (qent2_k s1 HGC.out.rd).mono ?_); rintro e z2 ⟨rfl, hrd2, hk2⟩; have HGD := Lib.hid (HGC.out.keep hrd2 hk2 hrB hrM); have HXD := Lib.hid (keep_blk hk2 HXC.out hrw); have HOD := Lib.hid (OwnS.keepR HOC.out hk2 hr3'); obtain ⟨x1, g1⟩ := blkG HXD.out 1 _ rfl; have HGE := Lib.hid (HGD.out.setO (b := z1.heap.size) 1 (.int .i64 (e2R bs s1).1) (by omega) (by omega) (by omega)); have HXE := Lib.hid (heap_setCell_same _ _ 1 _ _ (.int .i64 (e2R bs s1).1) HXD.out); have HOE := Lib.hid (OwnS.setO (o := 1) (u := .int .i64 (e2R bs s1).1) HOD.out HND.out))
        | (go_at_call 39; (with_reducible refine (qent3_k s1 HGE.out.rd).mono ?_); rintro e z3 ⟨rfl, hrd3, hk3⟩; have HGF := Lib.hid (HGE.out.keep hrd3 hk3 hrB hrM); have HXF := Lib.hid (keep_blk hk3 HXE.out hrw); have HOF := Lib.hid (OwnS.keepR HOE.out hk3 hr3'); obtain ⟨x0, g0⟩ := blkG HXF.out 0 (.int .i64 (e1R bs s1).1) rfl; obtain ⟨x1, g1⟩ := blkG HXF.out 1 (.int .i64 (e2R bs s1).1) rfl; obtain ⟨x2, g2⟩ := blkG HXF.out 2 (.string ⟨#[]⟩) rfl; have zxq := blk_lt HXF.out; obtain ⟨c12, f12⟩ := blkG HGF.out.mb 12 ev rfl; have HGH := Lib.hid (HGF.out.setO (b := z1.heap.size) 2 (.string ⟨(e3R bs s1).1.toArray⟩) (by omega) (by omega) (by omega)); have HOH := Lib.hid (OwnS.setO (o := 2) (u := .string ⟨(e3R bs s1).1.toArray⟩) HOF.out HND.out); have HOK : Hid ((z3.setCell ⟨z1.heap.size, 2, none⟩ (.string ⟨(e3R bs s1).1.toArray⟩)).ownsRow y3.heap.size 49 3 ev k ((entsAt bs s0 k).flatMap Ent.cells)) := Lib.hid (by have := HOH.out; unfold OwnS at this; rwa [entsAt_len] at this); have HSZ : Hid ((z3.setCell ⟨z1.heap.size, 2, none⟩ (.string ⟨(e3R bs s1).1.toArray⟩)).heap.size = z3.heap.size) := Lib.hid (by simp); have hszz : y3.heap.size ≤ (z3.setCell ⟨z1.heap.size, 2, none⟩ (.string ⟨(e3R bs s1).1.toArray⟩)).heap.size := (by have q1 := hk1.size; have q2 := hk2.size; have q3 := hk3.size; simp at q1 q2 q3 ⊢; omega))
        | (at_builtin; refine wpList_own_push2 (w := (z3.setCell ⟨z1.heap.size, 2, none⟩ (.string ⟨(e3R bs s1).1.toArray⟩))) rfl _ _ 25 rfl y3.heap.size 49 49 i0 _ 3 32 Try.underlying25 hi iz0 iz1 iz2 rfl (by decide) _ k 1 1 _ [.int .i64 (e1R bs s1).1, .int .i64 (e2R bs s1).1, .string ⟨(e3R bs s1).1.toArray⟩] HOK.out rfl (by rw [HSZ.out]; rfl) rfl rfl ?c2 ?c3 ?c4 hszz ?_))
      clear HGC HXC HOC HGD HXD HOD HGE HXE HOE HGF HXF HOF x0 g0 x1 g1 x2 g2
      case c2 => intro u hu; simp only [List.mem_cons, List.not_mem_nil, or_false] at hu; rcases hu with rfl | rfl | rfl <;> rfl
      case c3 => unfold maxLen; omega
      case c4 => omega
      intro ev' w7 ho7 hb7 _
      obtain ⟨_, _, a7, c7, hev7, _⟩ := SlR.of_own ho7
      subst hev7
      have HG7 := Lib.hid (HGH.out.below hb7 (by omega) hmlt (by omega))
      have hb7s := hb7.size
      have HO7 : Hid (OwnS Ent.cells 3 49 w7 y3.heap.size (.slice a7 (k + 1) c7) (entsAt bs s0 (k + 1))) := Lib.hid (by
        unfold OwnS
        rw [entsAt_succ, List.length_append, entsAt_len, List.flatMap_append, HS1.out, entR_is]
        simpa [Ent.cells] using ho7)
      have HST : Hid (entSt bs s0 (k + 1) = (e3R bs s1).2) := Lib.hid (by rw [← HS1.out]; rfl)
      obtain ⟨c12', f12'⟩ := blkG HG7.out.mb 12 ev rfl
      clear ho7 hb7 c12 f12 HGH HOH HOK
      go_wp2_with fail
      go_roundw
      case rel => exact ⟨k + 1, _, by omega, by simp, Lib.hid (by rw [HST.out]; exact HG7.out.setM 12 _ rfl hTM hwM), Lib.hid (OwnS.setO HO7.out fun a m c' he => Nat.ne_of_gt (Nat.lt_of_lt_of_le hmlt (own_blkE HO7.out a m c' he).2)), by simp; omega⟩
      case measure => simp [intOf]; omega
    · have hdec : ¬ (k : Int) < (nn : Int) ∨ ((k : Int) < (nn : Int) ∧ (entSt bs s0 k).err ≠ 0) := by
        by_cases h : k < nn
        · exact .inr ⟨by omega, fun he => hlt2 ⟨h, he⟩⟩
        · exact .inl (by omega)
      have hE : (rEnd bs (entSt bs s0 k)).err = gErr bs := by
        rw [gErr, HS0.out, HNN.out]
        rcases hdec with h | ⟨h, he⟩
        · obtain rfl : k = nn := by omega
          rfl
        · rw [entSt_stop (n := nn) (by omega) he]
      clear hlt2
      have hend := qend_x HG.out.rd
      rw [hE] at hend
      have HEND := Lib.hid hend
      have hry : r < y3.heap.size := by omega
      clear hend
      by_cases h0 : gErr bs = 0
      · have hki : ¬ (k : Int) < (nn : Int) := by
          rcases hdec with h | ⟨h, he⟩
          · exact h
          · exact absurd (hE.trans h0) (rEnd_bad he)
        clear hdec hE hcw
        obtain rfl : k = nn := by omega
        have hEs : entsAt bs s0 k = gEs bs := by rw [gEs, HS0.out, HNN.out]
        rw [hEs] at HO
        obtain ⟨a2, c2, hev, _, _⟩ := OwnS.form HO.out
        have hlen : (gEs bs).length = k := by rw [← hEs, entsAt_len]
        rw [hlen] at hev
        subst hev
        have HLEN := Lib.hid hlen
        clear hEs hlen
        obtain ⟨q, hq⟩ := prop_bool (RightP (gM bs) (gEs bs))
        have RT := fun z => lref_is (gM bs) a2 c2 k (gEs bs) HLEN.out (by omega) q hq z
        simp only [Lt.agg, gM] at RT
        have HRT := Lib.hid RT
        have HQ := Lib.hid hq
        have hc : (gErr bs != 0) = false := by simp [h0]
        have HH0 := Lib.hid h0
        clear RT hq h0
        cases q
        all_goals
          go_wp2_with (first
            | (go_at_call 41; refine HEND.out.mono ?_; rintro e y ⟨rfl, hrdE, hkE⟩; have HGX := Lib.hid (HG.out.keep hrdE hkE hrB hrM); have HOX := Lib.hid (OwnS.keepR HO.out hkE hry); obtain ⟨m0, _⟩ := blkG HGX.out.mb 0 _ rfl; obtain ⟨m1, _⟩ := blkG HGX.out.mb 1 _ rfl; obtain ⟨m2, _⟩ := blkG HGX.out.mb 2 _ rfl; obtain ⟨m3, _⟩ := blkG HGX.out.mb 3 _ rfl; obtain ⟨m4, _⟩ := blkG HGX.out.mb 4 _ rfl; obtain ⟨m5, _⟩ := blkG HGX.out.mb 5 _ rfl; obtain ⟨m6, _⟩ := blkG HGX.out.mb 6 _ rfl; obtain ⟨m7, _⟩ := blkG HGX.out.mb 7 _ rfl; obtain ⟨m8, _⟩ := blkG HGX.out.mb 8 _ rfl; obtain ⟨m9, _⟩ := blkG HGX.out.mb 9 _ rfl; obtain ⟨m10, _⟩ := blkG HGX.out.mb 10 _ rfl; obtain ⟨m11, _⟩ := blkG HGX.out.mb 11 _ rfl; obtain ⟨m12, _⟩ := blkG HGX.out.mb 12 _ rfl)
            | (go_at_call 18; refine (HRT.out _ HOX.out.rd).mono ?_; rintro e z ⟨rfl, hz⟩; have HGZ := Lib.hid (HGX.out.grow hz); have HOZ := Lib.hid (OwnS.ext HOX.out hz); obtain ⟨z0, n0⟩ := blkG HGZ.out.zb 0 (.int .i64 0) rfl; obtain ⟨p0, _⟩ := blkG HGZ.out.mb 0 (.int .i64 (vN bs 0)) rfl; obtain ⟨z1, n1⟩ := blkG HGZ.out.zb 1 (.int .i64 0) rfl; obtain ⟨p1, _⟩ := blkG HGZ.out.mb 1 (.int .i64 (vN bs 1)) rfl; obtain ⟨z2, n2⟩ := blkG HGZ.out.zb 2 (.int .i64 0) rfl; obtain ⟨p2, _⟩ := blkG HGZ.out.mb 2 (.int .i64 (vN bs 2)) rfl; obtain ⟨z3, n3⟩ := blkG HGZ.out.zb 3 (.int .i64 0) rfl; obtain ⟨p3, _⟩ := blkG HGZ.out.mb 3 (.int .i64 (vN bs 3)) rfl; obtain ⟨z4, n4⟩ := blkG HGZ.out.zb 4 (.int .i64 0) rfl; obtain ⟨p4, _⟩ := blkG HGZ.out.mb 4 (.int .i64 (vN bs 4)) rfl; obtain ⟨z5, n5⟩ := blkG HGZ.out.zb 5 (.int .i64 0) rfl; obtain ⟨p5, _⟩ := blkG HGZ.out.mb 5 (.int .i64 (vN bs 5)) rfl; obtain ⟨z6, n6⟩ := blkG HGZ.out.zb 6 (.int .i64 0) rfl; obtain ⟨p6, _⟩ := blkG HGZ.out.mb 6 (.int .i64 (vN bs 6)) rfl; obtain ⟨z7, n7⟩ := blkG HGZ.out.zb 7 (.int .i64 0) rfl; obtain ⟨p7, _⟩ := blkG HGZ.out.mb 7 (.int .i64 (vN bs 7)) rfl; obtain ⟨z8, n8⟩ := blkG HGZ.out.zb 8 (.int .i64 0) rfl; obtain ⟨p8, _⟩ := blkG HGZ.out.mb 8 (.int .i64 (vN bs 8)) rfl; obtain ⟨z9, n9⟩ := blkG HGZ.out.zb 9 (.int .i64 0) rfl; obtain ⟨p9, _⟩ := blkG HGZ.out.mb 9 (.int .i64 (vN bs 9)) rfl; obtain ⟨z10, n10⟩ := blkG HGZ.out.zb 10 (.bool false) rfl; obtain ⟨p10, _⟩ := blkG HGZ.out.mb 10 (.bool (flR bs).1) rfl; obtain ⟨z11, n11⟩ := blkG HGZ.out.zb 11 (.string ⟨#[]⟩) rfl; obtain ⟨p11, _⟩ := blkG HGZ.out.mb 11 (.string ⟨(txR bs).1.toArray⟩) rfl; obtain ⟨z12, n12⟩ := blkG HGZ.out.zb 12 (.slice none 0 0) rfl; obtain ⟨p12, _⟩ := blkG HGZ.out.mb 12 (.slice a2 k c2) rfl; have zlt := blk_lt HGZ.out.zb))
        · refine bodyPost_ret (v := .tuple #[.agg #[.int .i64 0, .int .i64 0, .int .i64 0, .int .i64 0, .int .i64 0, .int .i64 0, .int .i64 0, .int .i64 0, .int .i64 0, .int .i64 0, .bool false, .string ⟨#[]⟩, .slice none 0 0], .int .i64 4]) ?_ rfl ⟨Lt.z, [], .slice none 0 0, 4, rfl, World.ownsRow_nil _ _ _ _, .inr (.inr ⟨HH0.out, fun h => (by cases (HQ.out.2 h)), rfl, rfl, rfl⟩), ?_⟩
          · simp [results, Try.results26, go_sem, zlt, z0, z1, z2, z3, z4, z5, z6, z7, z8, z9, z10, z11, z12]
          · repeat (first | with_reducible exact HGZ.out.ext | with_reducible refine Ext.setCell ?_ (Nat.le_refl _) _)
        · have hne : ∀ a m c', Value.slice a2 k c2 = .slice (some a) m c' → a.block ≠ w.heap.size := fun a m c' he => Nat.ne_of_gt (Nat.lt_of_lt_of_le (Nat.lt_trans hwM hmlt) (own_blkE HO.out a m c' he).2)
          refine bodyPost_ret (v := .tuple #[.agg #[.int .i64 (vN bs 0), .int .i64 (vN bs 1), .int .i64 (vN bs 2), .int .i64 (vN bs 3), .int .i64 (vN bs 4), .int .i64 (vN bs 5), .int .i64 (vN bs 6), .int .i64 (vN bs 7), .int .i64 (vN bs 8), .int .i64 (vN bs 9), .bool (flR bs).1, .string ⟨(txR bs).1.toArray⟩, .slice a2 k c2], .int .i64 0]) ?_ rfl ⟨gM bs, gEs bs, .slice a2 k c2, 0, rfl, ?_, .inr (.inl ⟨HH0.out, HQ.out.1 (by trivial), rfl, rfl, rfl⟩), ?_⟩
          · simp [results, Try.results26, go_sem, zlt, z0, z1, z2, z3, z4, z5, z6, z7, z8, z9, z10, z11, z12]
          · refine OwnS.base (B' := y3.heap.size) ?_ (by omega)
            repeat (first | with_reducible exact HOZ.out | with_reducible refine OwnS.setO ?_ hne)
          · repeat (first | with_reducible exact HGZ.out.ext | with_reducible refine Ext.setCell ?_ (Nat.le_refl _) _)
      · rcases hdec with hki | ⟨hki, he⟩
        · clear hE hcw
          have hc : (gErr bs != 0) = true := by simp [h0]
          go_wp2_with (go_at_call 41; refine HEND.out.mono ?_; rintro e y ⟨rfl, hrdE, hkE⟩; have HGX := Lib.hid (HG.out.keep hrdE hkE hrB hrM); obtain ⟨z0, n0⟩ := blkG HGX.out.zb 0 (.int .i64 0) rfl; obtain ⟨z1, n1⟩ := blkG HGX.out.zb 1 (.int .i64 0) rfl; obtain ⟨z2, n2⟩ := blkG HGX.out.zb 2 (.int .i64 0) rfl; obtain ⟨z3, n3⟩ := blkG HGX.out.zb 3 (.int .i64 0) rfl; obtain ⟨z4, n4⟩ := blkG HGX.out.zb 4 (.int .i64 0) rfl; obtain ⟨z5, n5⟩ := blkG HGX.out.zb 5 (.int .i64 0) rfl; obtain ⟨z6, n6⟩ := blkG HGX.out.zb 6 (.int .i64 0) rfl; obtain ⟨z7, n7⟩ := blkG HGX.out.zb 7 (.int .i64 0) rfl; obtain ⟨z8, n8⟩ := blkG HGX.out.zb 8 (.int .i64 0) rfl; obtain ⟨z9, n9⟩ := blkG HGX.out.zb 9 (.int .i64 0) rfl; obtain ⟨z10, n10⟩ := blkG HGX.out.zb 10 (.bool false) rfl; obtain ⟨z11, n11⟩ := blkG HGX.out.zb 11 (.string ⟨#[]⟩) rfl; obtain ⟨z12, n12⟩ := blkG HGX.out.zb 12 (.slice none 0 0) rfl; have zlt := blk_lt HGX.out.zb)
          refine bodyPost_ret (v := .tuple #[.agg #[.int .i64 0, .int .i64 0, .int .i64 0, .int .i64 0, .int .i64 0, .int .i64 0, .int .i64 0, .int .i64 0, .int .i64 0, .int .i64 0, .bool false, .string ⟨#[]⟩, .slice none 0 0], .int .i64 (gErr bs)]) ?_ rfl ⟨Lt.z, [], .slice none 0 0, gErr bs, rfl, World.ownsRow_nil _ _ _ _, .inl ⟨h0, rfl, rfl, rfl⟩, ?_⟩
          · simp [results, Try.results26, go_sem, zlt, z0, z1, z2, z3, z4, z5, z6, z7, z8, z9, z10, z11, z12]
          · repeat (first | with_reducible exact HGX.out.ext | with_reducible refine Ext.setCell ?_ (Nat.le_refl _) _)
        · have he2 : ((entSt bs s0 k).err == 0) = false := by simp [he]
          clear hE he
          have hc : (gErr bs != 0) = true := by simp [h0]
          go_wp2_with (go_at_call 41; refine HEND.out.mono ?_; rintro e y ⟨rfl, hrdE, hkE⟩; have HGX := Lib.hid (HG.out.keep hrdE hkE hrB hrM); obtain ⟨z0, n0⟩ := blkG HGX.out.zb 0 (.int .i64 0) rfl; obtain ⟨z1, n1⟩ := blkG HGX.out.zb 1 (.int .i64 0) rfl; obtain ⟨z2, n2⟩ := blkG HGX.out.zb 2 (.int .i64 0) rfl; obtain ⟨z3, n3⟩ := blkG HGX.out.zb 3 (.int .i64 0) rfl; obtain ⟨z4, n4⟩ := blkG HGX.out.zb 4 (.int .i64 0) rfl; obtain ⟨z5, n5⟩ := blkG HGX.out.zb 5 (.int .i64 0) rfl; obtain ⟨z6, n6⟩ := blkG HGX.out.zb 6 (.int .i64 0) rfl; obtain ⟨z7, n7⟩ := blkG HGX.out.zb 7 (.int .i64 0) rfl; obtain ⟨z8, n8⟩ := blkG HGX.out.zb 8 (.int .i64 0) rfl; obtain ⟨z9, n9⟩ := blkG HGX.out.zb 9 (.int .i64 0) rfl; obtain ⟨z10, n10⟩ := blkG HGX.out.zb 10 (.bool false) rfl; obtain ⟨z11, n11⟩ := blkG HGX.out.zb 11 (.string ⟨#[]⟩) rfl; obtain ⟨z12, n12⟩ := blkG HGX.out.zb 12 (.slice none 0 0) rfl; have zlt := blk_lt HGX.out.zb)
          refine bodyPost_ret (v := .tuple #[.agg #[.int .i64 0, .int .i64 0, .int .i64 0, .int .i64 0, .int .i64 0, .int .i64 0, .int .i64 0, .int .i64 0, .int .i64 0, .int .i64 0, .bool false, .string ⟨#[]⟩, .slice none 0 0], .int .i64 (gErr bs)]) ?_ rfl ⟨Lt.z, [], .slice none 0 0, gErr bs, rfl, World.ownsRow_nil _ _ _ _, .inl ⟨h0, rfl, rfl, rfl⟩, ?_⟩
          · simp [results, Try.results26, go_sem, zlt, z0, z1, z2, z3, z4, z5, z6, z7, z8, z9, z10, z11, z12]
          · repeat (first | with_reducible exact HGX.out.ext | with_reducible refine Ext.setCell ?_ (Nat.le_refl _) _)
end
section

theorem heads_split (l : List Int) (k : Nat) (hk : k < l.length) : l.flatMap numL = (l.take k).flatMap numL ++ numL l[k] ++ (l.drop (k + 1)).flatMap numL := by
  have h : l = l.take k ++ l[k] :: l.drop (k + 1) := by rw [← List.drop_eq_getElem_cons hk, List.take_append_drop]
  conv => lhs; rw [h]
  rw [List.flatMap_append, List.flatMap_cons, List.append_assoc]
theorem stN_put (bs : List UInt8) (l : List Int) (tail : List UInt8) (hbs : bs = l.flatMap numL ++ tail) (hl : ∀ n ∈ l, I64 n) : ∀ k, k ≤ l.length → stN bs k = ⟨((l.take k).flatMap numL).length, 0⟩ ∧ ∀ (h : k < l.length), vN bs k = l[k]
  | 0, _ => by
    refine ⟨by simp [stN], fun h => ?_⟩
    have hs := heads_split l 0 h
    obtain ⟨h0, h1⟩ := hl _ (List.getElem_mem h)
    have := rNum_put [] ((l.drop 1).flatMap numL ++ tail) l[0] h0 h1
    have e : bs = [] ++ numL l[0] ++ ((l.drop 1).flatMap numL ++ tail) := by rw [hbs, hs]; simp
    rw [vN, stN, e]
    simp only [List.length_nil] at this
    rw [this]
  | k + 1, hk => by
    obtain ⟨i1, i2⟩ := stN_put bs l tail hbs hl k (by omega)
    have hk' : k < l.length := hk
    have step : ∀ j (hj : j < l.length), rNum bs ⟨((l.take j).flatMap numL).length, 0⟩ = (l[j], ⟨((l.take j).flatMap numL).length + (numL l[j]).length, 0⟩) := fun j hj => by
      obtain ⟨h0, h1⟩ := hl _ (List.getElem_mem hj)
      have h := rNum_put ((l.take j).flatMap numL) ((l.drop (j + 1)).flatMap numL ++ tail) l[j] h0 h1
      have e : bs = (l.take j).flatMap numL ++ numL l[j] ++ ((l.drop (j + 1)).flatMap numL ++ tail) := by rw [hbs, heads_split l j hj]; simp [List.append_assoc]
      rw [e]
      exact h
    have hs : stN bs (k + 1) = ⟨((l.take (k + 1)).flatMap numL).length, 0⟩ := by
      rw [stN, i1, step k hk', List.take_succ_eq_append_getElem hk', List.flatMap_append, List.length_append]
      simp only [List.flatMap_cons, List.flatMap_nil, List.append_nil]
    refine ⟨hs, fun h => ?_⟩
    rw [vN, hs, step (k + 1) h]
theorem bytes_back (s : ByteArray) : (⟨(bytesOf s).toArray⟩ : ByteArray) = s := by
  cases s
  simp [bytesOf]
theorem entR_put (pre post : List UInt8) (x : Ent) (h1 : I64 x.term) (h2 : I64 x.members) (h3 : x.data.size ≤ 1100) : entR (pre ++ entL x ++ post) ⟨pre.length, 0⟩ = (x, ⟨pre.length + (entL x).length, 0⟩) := by
  have a1 := rNum_put pre (numL x.members ++ textL x.data ++ post) x.term h1.1 h1.2
  have a2 := rNum_put (pre ++ numL x.term) (textL x.data ++ post) x.members h2.1 h2.2
  have a3 := rText_put (pre ++ numL x.term ++ numL x.members) post x.data 1100 (by omega) (by omega)
  have e1 : pre ++ entL x ++ post = pre ++ numL x.term ++ (numL x.members ++ textL x.data ++ post) := by simp [entL, List.append_assoc]
  have e2 : pre ++ entL x ++ post = pre ++ numL x.term ++ numL x.members ++ (textL x.data ++ post) := by simp [entL, List.append_assoc]
  have e3 : pre ++ entL x ++ post = pre ++ numL x.term ++ numL x.members ++ textL x.data ++ post := by simp [entL, List.append_assoc]
  rw [← e1] at a1
  rw [← e2] at a2
  rw [← e3] at a3
  have l1 : (pre ++ numL x.term).length = pre.length + (numL x.term).length := List.length_append
  have l2 : (pre ++ numL x.term ++ numL x.members).length = pre.length + (numL x.term).length + (numL x.members).length := by simp; omega
  rw [l1] at a2
  rw [l2] at a3
  have l3 : (pre ++ numL x.term).length + (numL x.members).length = pre.length + (numL x.term).length + (numL x.members).length := by simp
  unfold entR
  rw [a1]
  simp only []
  rw [a2]
  simp only []
  rw [a3]
  simp only [bytes_back]
  congr 2
  simp [entL]
  omega
theorem ents_put (pre : List UInt8) (bs : List UInt8) (es : List Ent) (hbs : bs = pre ++ es.flatMap entL) (hes : ∀ x ∈ es, I64 x.term ∧ I64 x.members ∧ x.data.size ≤ 1100) : ∀ k, k ≤ es.length → entSt bs ⟨pre.length, 0⟩ k = ⟨(pre ++ (es.take k).flatMap entL).length, 0⟩ ∧ entsAt bs ⟨pre.length, 0⟩ k = es.take k
  | 0, _ => by simp [entSt, entsAt]
  | k + 1, hk => by
    obtain ⟨i1, i2⟩ := ents_put pre bs es hbs hes k (by omega)
    have hk' : k < es.length := hk
    obtain ⟨h1, h2, h3⟩ := hes _ (List.getElem_mem hk')
    have h := entR_put (pre ++ (es.take k).flatMap entL) ((es.drop (k + 1)).flatMap entL) es[k] h1 h2 h3
    have e : bs = pre ++ (es.take k).flatMap entL ++ entL es[k] ++ (es.drop (k + 1)).flatMap entL := by
      have h : es = es.take k ++ es[k] :: es.drop (k + 1) := by rw [← List.drop_eq_getElem_cons hk', List.take_append_drop]
      rw [hbs]
      conv => lhs; rw [h]
      rw [List.flatMap_append, List.flatMap_cons, List.append_assoc, List.append_assoc]
    rw [← e] at h
    refine ⟨?_, ?_⟩
    · rw [entSt, i1, h, List.take_succ_eq_append_getElem hk', List.flatMap_append, ← List.append_assoc, List.length_append (bs := List.flatMap entL [es[k]])]
      simp only [List.flatMap_cons, List.flatMap_nil, List.append_nil]
    · rw [entsAt_succ, i2, i1, h, List.take_succ_eq_append_getElem hk']
theorem ents_ge : ∀ es : List Ent, es.length ≤ (es.flatMap entL).length
  | [] => by simp
  | x :: es => by
    have h1 := (numL_len x.term).1
    have h2 := ents_ge es
    rw [List.flatMap_cons, List.length_append, List.length_cons, entL, List.length_append, List.length_append]
    omega
/-- A right letter comes back from its bytes. -/
theorem back_is {m : Lt} {es : List Ent} (h : RightP m es) : GetIs (ltL m es) m es 0 := by
  obtain ⟨hs, h8, hd, he⟩ := right_small h
  obtain ⟨bs, hbs⟩ : ∃ bs, ltL m es = bs := ⟨_, rfl⟩
  have hb1 : bs = (headL m).flatMap numL ++ (numL (if m.yes then 1 else 0) ++ textL m.data ++ numL es.length ++ es.flatMap entL) := by
    rw [← hbs, ltL, startL]; simp [List.append_assoc]
  have hS := fun k hk => stN_put bs (headL m) _ hb1 hs.head k hk
  have s10 : stN bs 10 = ⟨((headL m).flatMap numL).length, 0⟩ := by
    have := (hS 10 (by simp [headL])).1
    rwa [List.take_of_length_le (by simp [headL])] at this
  have hf := rFlag_put ((headL m).flatMap numL) (textL m.data ++ numL es.length ++ es.flatMap entL) m.yes
  have ef : (headL m).flatMap numL ++ numL (if m.yes then 1 else 0) ++ (textL m.data ++ numL es.length ++ es.flatMap entL) = bs := by rw [hb1]; simp [List.append_assoc]
  rw [ef, ← s10] at hf
  have hf' : flR bs = (m.yes, ⟨((headL m).flatMap numL ++ numL (if m.yes then 1 else 0)).length, 0⟩) := by
    rw [flR, hf, List.length_append]
  have ht := rText_put ((headL m).flatMap numL ++ numL (if m.yes then 1 else 0)) (numL es.length ++ es.flatMap entL) m.data 600 (by omega) (by omega)
  have et : (headL m).flatMap numL ++ numL (if m.yes then 1 else 0) ++ textL m.data ++ (numL es.length ++ es.flatMap entL) = bs := by rw [hb1]; simp [List.append_assoc]
  rw [et] at ht
  have ht' : txR bs = (bytesOf m.data, ⟨((headL m).flatMap numL ++ numL (if m.yes then 1 else 0) ++ textL m.data).length, 0⟩) := by
    rw [txR, hf']
    simp only []
    rw [ht]
    simp [Nat.add_assoc]
  have hc := rCount_put ((headL m).flatMap numL ++ numL (if m.yes then 1 else 0) ++ textL m.data) (es.flatMap entL) es.length 8 (by omega) (ents_ge es) (by omega)
  have ec : (headL m).flatMap numL ++ numL (if m.yes then 1 else 0) ++ textL m.data ++ numL es.length ++ es.flatMap entL = bs := by rw [hb1]; simp [List.append_assoc]
  rw [ec] at hc
  have hc' : coR bs = ((es.length : Int), ⟨(startL m es.length).length, 0⟩) := by
    rw [coR, ht']
    simp only []
    rw [hc, startL]
    simp [Nat.add_assoc]
  have hn : gN bs = es.length := by rw [gN, hc']; simp
  have hp := ents_put (startL m es.length) bs es (by rw [← hbs, ltL]) (fun x hx => by
    obtain ⟨p1, p2, _⟩ := hs.ents x hx
    exact ⟨p1, p2, he x hx⟩) es.length (Nat.le_refl _)
  rw [List.take_length] at hp
  have hE : gEs bs = es := by rw [gEs, hc', hn]; exact hp.2
  have hM : gM bs = m := by
    have v := fun k (hk : k < (headL m).length) => (hS k (by omega)).2 hk
    have v0 := v 0 (by simp [headL])
    have v1 := v 1 (by simp [headL])
    have v2 := v 2 (by simp [headL])
    have v3 := v 3 (by simp [headL])
    have v4 := v 4 (by simp [headL])
    have v5 := v 5 (by simp [headL])
    have v6 := v 6 (by simp [headL])
    have v7 := v 7 (by simp [headL])
    have v8 := v 8 (by simp [headL])
    have v9 := v 9 (by simp [headL])
    simp only [headL, List.getElem_cons_zero, List.getElem_cons_succ] at v0 v1 v2 v3 v4 v5 v6 v7 v8 v9
    unfold gM
    rw [v0, v1, v2, v3, v4, v5, v6, v7, v8, v9, hf', ht']
    simp only [bytes_back]
  have hX : gErr bs = 0 := by
    rw [gErr, hc', hn]
    simp only []
    rw [hp.1, rEnd, if_neg]
    rintro ⟨_, h2⟩
    rw [← hbs, ltL] at h2
    exact absurd h2 (Nat.lt_irrefl _)
  rw [hbs]
  exact .inr (.inl ⟨hX, by rw [hM, hE]; exact h, rfl, hM.symm, hE.symm⟩)

theorem heads_step (bs : List UInt8) : ∀ k, (stN bs k).err = 0 → Rd1 bs ⟨0, 0⟩ (stN bs k) ((List.range k).flatMap fun i => numL (vN bs i))
  | 0, _ => Rd1.nil rfl
  | k + 1, h => by
    have h1 := rNum_step bs (stN bs k) h
    have h2 := (heads_step bs k h1.e0).trans h1
    rw [List.range_succ, List.flatMap_append]
    simp only [List.flatMap_cons, List.flatMap_nil, List.append_nil]
    exact h2
theorem entR_step (bs : List UInt8) (s : RS) (h : (entR bs s).2.err = 0) (h63 : bs.length ≤ 9223372036854775807) : Rd1 bs s (entR bs s).2 (entL (entR bs s).1) := by
  have h3 := rText_step bs _ 1100 h h63
  have h2 := rNum_step bs _ h3.e0
  have h1 := rNum_step bs s h2.e0
  exact (h1.trans h2).trans h3
theorem ents_step (bs : List UInt8) (s : RS) (h63 : bs.length ≤ 9223372036854775807) (hs : s.err = 0 ∨ True) : ∀ k, (entSt bs s k).err = 0 → Rd1 bs s (entSt bs s k) ((entsAt bs s k).flatMap entL)
  | 0, h => Rd1.nil h
  | k + 1, h => by
    have h1 := entR_step bs (entSt bs s k) h h63
    have h2 := (ents_step bs s h63 hs k h1.e0).trans h1
    rw [entsAt_succ, List.flatMap_append]
    simp only [List.flatMap_cons, List.flatMap_nil, List.append_nil]
    exact h2
/-- What bytes are read as has these bytes. -/
theorem read_is {bs : List UInt8} (h : gErr bs = 0) (h63 : bs.length ≤ 9223372036854775807) : ltL (gM bs) (gEs bs) = bs := by
  unfold gErr rEnd at h
  by_cases hc : (entSt bs (coR bs).2 (gN bs)).err = 0 ∧ (entSt bs (coR bs).2 (gN bs)).at_ < bs.length
  · rw [if_pos hc] at h
    cases h
  · rw [if_neg hc] at h
    have h5 := ents_step bs (coR bs).2 h63 (.inr trivial) (gN bs) h
    have h4 := rCount_step bs (txR bs).2 8 h5.e0
    have h3 := rText_step bs (flR bs).2 600 h4.e0 h63
    have h2 := rFlag_step bs (stN bs 10) h3.e0
    have h1 := heads_step bs 10 h2.e0
    have hall := ((((h1.trans h2).trans h3).trans h4).trans h5).all (fun hlt => hc ⟨h, hlt⟩)
    have e1 : (List.range 10).flatMap (fun i => numL (vN bs i)) = (headL (gM bs)).flatMap numL := by
      simp [List.range_succ, headL, gM]
    have e4 : (rCount bs (txR bs).2 8).1 = (gN bs : Int) := (gN_cast bs).1
    rw [e1, e4] at hall
    have hl : (gEs bs).length = gN bs := by rw [gEs, entsAt_len]
    rw [ltL, startL, hl]
    exact hall
theorem get_is (v : Value) (bs : List UInt8) (m : Lt) (es : List Ent) (err : Int) (hg : GetIs bs m es err) (w : World) (hr : Rd8 w v bs) (hb : bs.length ≤ 140737488355328) : Calls Try.prog 32 #[v] w fun e w' => ∃ a c, e = .returned (.tuple #[m.agg (.slice a es.length c), .int .i64 err]) ∧ OwnS Ent.cells 3 49 w' w.heap.size (.slice a es.length c) es ∧ Ext w w' := by
  refine (lget_any v bs w hr hb).mono ?_
  rintro e w' ⟨m', es', ev, err', rfl, ho, hg', hx⟩
  obtain ⟨rfl, rfl, rfl⟩ := GetIs.one hg hg'
  obtain ⟨a, c, rfl, _, _⟩ := ho.form
  exact ⟨a, c, rfl, ho, hx⟩
theorem get_total (bs : List UInt8) : ∃ m es err, GetIs bs m es err := by
  by_cases h : gErr bs = 0
  · by_cases h2 : RightP (gM bs) (gEs bs)
    · exact ⟨_, _, _, .inr (.inl ⟨h, h2, rfl, rfl, rfl⟩)⟩
    · exact ⟨_, _, _, .inr (.inr ⟨h, h2, rfl, rfl, rfl⟩)⟩
  · exact ⟨_, _, _, .inl ⟨h, rfl, rfl, rfl⟩⟩
theorem get_ok {bs : List UInt8} {m : Lt} {es : List Ent} {err : Int} (h : GetIs bs m es err) (he : err = 0) (h63 : bs.length ≤ 9223372036854775807) : RightP m es ∧ ltL m es = bs := by
  rcases h with ⟨a, b, _, _⟩ | ⟨a, r, _, rfl, rfl⟩ | ⟨_, _, b, _, _⟩
  · exact absurd (b.symm.trans he) a
  · exact ⟨r, read_is a h63⟩
  · rw [he] at b; cases b

theorem rget_is (v : Value) (bs : List UInt8) (m : Lt) (es : List Ent) (err : Int) (hg : GetIs bs m es err) (w : World) (hr : Rd8 w v bs) (hb : bs.length ≤ 140737488355328) : Calls Try.prog 26 #[v] w fun e w' => ∃ a c, e = .returned (.tuple #[m.agg (.slice a es.length c), .int .i64 err]) ∧ OwnS Ent.cells 3 49 w' w.heap.size (.slice a es.length c) es ∧ Ext w w' := by
  refine (rget_any v bs w hr hb).mono ?_
  rintro e w' ⟨m', es', ev, err', rfl, ho, hg', hx⟩
  obtain ⟨rfl, rfl, rfl⟩ := GetIs.one hg hg'
  obtain ⟨a, c, rfl, _, _⟩ := ho.form
  exact ⟨a, c, rfl, ho, hx⟩
theorem get_len {bs : List UInt8} {m : Lt} {es : List Ent} {err : Int} (h : GetIs bs m es err) : es.length ≤ 8 := by
  rcases h with ⟨_, _, _, rfl⟩ | ⟨_, _, _, _, rfl⟩ | ⟨_, _, _, _, rfl⟩
  · simp
  · rw [gEs, entsAt_len]; exact (gN_cast bs).2
  · simp
end
end Go.Proofs.Ytognipephfedkaa
