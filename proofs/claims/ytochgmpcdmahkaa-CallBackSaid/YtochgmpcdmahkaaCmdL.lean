/- The document's own answer to chapter 9: date; a reader that is wrong stays. (Written by genCmdL.py.) -/
import Derived.Test.YtochgmpcdmahkaaCmdI
import Derived.Test.YtochgmpcdmahkaaCmdR
import Derived.Test.YtochgmpcdmahkaaPackRefS
import Derived.Test.YtochgmpcdmahkaaCmdC
import Derived.Test.YtochgmpcdmahkaaOwn2
import Derived.Deep.RegionHeld3
namespace Go.Proofs.Ytochgmpcdmahkaa
open Go.RowKit
section

theorem rdx_wr {B T : Nat} {w : World} {r : Nat} {bs : List UInt8} {s : RS} (h : RdX B T w r bs s) : w.cell? ⟨r, 2, none⟩ = some (.int .i64 s.err) := by
  obtain ⟨a, cap, hr, _⟩ := h
  exact hr.c2
theorem rNum_st {bs : List UInt8} {s : RS} (h : s.err ≠ 0) : rNum bs s = (0, s) := by unfold rNum; rw [if_neg h]
theorem rWithin_st {bs : List UInt8} {s : RS} (h : s.err ≠ 0) (lo hi : Int) : rWithin bs s lo hi = (0, s) := by
  unfold rWithin
  simp only [rNum_st h]
  rw [if_neg (fun hc => h hc.1)]
theorem tR_st {bs : List UInt8} {s : RS} (h : s.err ≠ 0) : (tR bs s).2 = s := by
  unfold tR rText
  simp only [rWithin_st h]
  rw [if_pos h]
theorem lnR_st {bs : List UInt8} {s : RS} (h : s.err ≠ 0) : (lnR bs s).2 = s := by
  simp only [lnR]
  rw [tR_st h, tR_st h, rNum_st h, rNum_st h]
theorem lnSt_st {bs : List UInt8} {s : RS} {k n : Nat} (hk : k ≤ n) (h : (lnSt bs s k).err ≠ 0) : lnSt bs s n = lnSt bs s k := by
  induction n with
  | zero => obtain rfl : k = 0 := by omega
            rfl
  | succ n ih =>
    by_cases he : k = n + 1
    · subst he; rfl
    · have h1 := ih (by omega)
      rw [lnSt, h1]
      exact lnR_st h
theorem rEnd_bd {bs : List UInt8} {s : RS} (h : s.err ≠ 0) : (rEnd bs s).err ≠ 0 := by
  unfold rEnd
  rw [if_neg (fun hc => h hc.1)]
  exact h
section
variable {B T : Nat} {r : Nat} {bs : List UInt8} {s : RS} {w : World}
theorem qtx_x (h : RdX B T w r bs s) {t : ByteArray} {s' : RS} (e : tR bs s = (t, s')) : Calls Try.prog 40 #[.pointer (some ⟨r, 0, none⟩), .int .i64 64] w fun x w' => x = .returned (.string t) ∧ RdX B T w' r bs s' ∧ KeepR r w w' := by
  have := qtext_x h 64
  unfold tR at e
  simp only [Prod.mk.injEq] at e
  rw [e.1, e.2] at this
  exact this
theorem qnx_x (h : RdX B T w r bs s) {n : Int} {s' : RS} (e : rNum bs s = (n, s')) : Calls Try.prog 25 #[.pointer (some ⟨r, 0, none⟩)] w fun x w' => x = .returned (.int .i64 n) ∧ RdX B T w' r bs s' ∧ KeepR r w w' := by
  have := qnum_x h
  rw [e] at this
  exact this
theorem qcx_x (h : RdX B T w r bs s) {n : Nat} {s' : RS} (e : lcR bs s = (n, s')) : Calls Try.prog 42 #[.pointer (some ⟨r, 0, none⟩), .int .i64 12] w fun x w' => x = .returned (.int .i64 (n : Int)) ∧ RdX B T w' r bs s' ∧ KeepR r w w' := by
  have := qcount_x h 12
  have e1 := (lcR_is bs s).1
  have e2 : (rCount bs s 12).2 = s' := by have := congrArg Prod.snd e; exact this
  rw [e] at e1
  rw [e1, e2] at this
  exact this
set_option maxHeartbeats 4000000 in
theorem qday_x (h : RdX B T w r bs s) (hT : T ≤ w.heap.size) {y m d : Int} {s' : RS} (e : dR bs s = ((y, m, d), s')) : Calls Try.prog 41 #[.pointer (some ⟨r, 0, none⟩)] w fun x w' => x = .returned (.agg #[.int .i64 y, .int .i64 m, .int .i64 d]) ∧ RdX B T w' r bs s' ∧ KeepR r w w' := by
  obtain ⟨n1, s1, e1⟩ : ∃ n s', rNum bs s = (n, s') := ⟨_, _, rfl⟩
  obtain ⟨n2, s2, e2⟩ : ∃ n s', rNum bs s1 = (n, s') := ⟨_, _, rfl⟩
  obtain ⟨n3, s3, e3⟩ : ∃ n s', rNum bs s2 = (n, s') := ⟨_, _, rfl⟩
  have e' : n1 = y ∧ n2 = m ∧ n3 = d ∧ s3 = s' := by
    unfold dR at e
    rw [e1] at e
    simp only at e
    rw [e2] at e
    simp only at e
    rw [e3] at e
    simpa [and_assoc] using e
  obtain ⟨rfl, rfl, rfl, rfl⟩ := e'
  have E1 := Lib.hid e1
  have E2 := Lib.hid e2
  have E3 := Lib.hid e3
  obtain ⟨_, _, hrl, _, _⟩ := h.r_in
  have hne : w.heap.size ≠ r := by omega
  have H0 := Lib.hid (h.ext ((Ext.refl w).alloc (.cells #[.int .i64 0, .int .i64 0, .int .i64 0] 26)))
  have K0 := Lib.hid (KeepR.of_ext (r := r) ((Ext.refl w).alloc (.cells #[.int .i64 0, .int .i64 0, .int .i64 0] 26)))
  have A0 : Hid ((w.alloc (.cells #[.int .i64 0, .int .i64 0, .int .i64 0] 26)).heap[w.heap.size]? = some (.cells #[.int .i64 0, .int .i64 0, .int .i64 0] 26 (0, 0))) := Lib.hid (new_blk w _)
  clear e1 e2 e3 e h
  go_enter Try.func41, Try.ntmps41
  go_wp2_with (first
    | (go_at_call 25; (with_reducible refine (qnx_x H2.out E3.out).mono ?_); rintro e z3 ⟨rfl, hr3, hk3⟩; have A3 := Lib.hid (keep_blk hk3 A2.out hne); have B3 := Lib.hid (keep_blk hk3 B2.out hne1); obtain ⟨b0, g0⟩ := blkG B3.out 0 (.int .i64 n1) rfl; obtain ⟨b1, g1⟩ := blkG B3.out 1 (.int .i64 n2) rfl; obtain ⟨b2, g2⟩ := blkG B3.out 2 (.int .i64 0) rfl; obtain ⟨a0, f0⟩ := blkG A3.out 0 (.int .i64 0) rfl; obtain ⟨a1, f1⟩ := blkG A3.out 1 (.int .i64 0) rfl; obtain ⟨a2, f2⟩ := blkG A3.out 2 (.int .i64 0) rfl; have H3 := Lib.hid hr3; have K3 := Lib.hid (K2.out.trans hk3); have zl := blk_lt A3.out; clear hr3 hk3)
    | (go_at_call 25; (with_reducible refine (qnx_x H1.out E2.out).mono ?_); rintro e z2 ⟨rfl, hr2, hk2⟩; have A2 := Lib.hid (set_blk (i := 1) (u := .int .i64 n2) (keep_blk hk2 A1.out hne) hnq); have Bx := keep_blk hk2 B1.out hne1; obtain ⟨x1, y1⟩ := blkG Bx 1 (.int .i64 0) rfl; have B2 : Hid ((z2.setCell ⟨z1.heap.size, 1, none⟩ (.int .i64 n2)).heap[z1.heap.size]? = some (.cells #[.int .i64 n1, .int .i64 n2, .int .i64 0] 26 (0, 0))) := Lib.hid (heap_setCell_same _ _ 1 _ _ (.int .i64 n2) Bx); have H2 := Lib.hid (hr2.keep ((KeepR.refl z1.heap.size z2).set (o := 1) (.int .i64 n2)) (.inr hT1)); have K2 := Lib.hid (KeepR.setN (o := 1) (K1.out.trans hk2) hle (.int .i64 n2)); clear hr2 hk2 Bx)
    | (go_at_call 25; (with_reducible refine (qnx_x H0.out E1.out).mono ?_); rintro e z1 ⟨rfl, hr1, hk1⟩; have hq := blk_lt (keep_blk hk1 A0.out hne); have hnq : w.heap.size ≠ z1.heap.size := (by omega); have hle : w.heap.size ≤ z1.heap.size := (by omega); have hT1 : T ≤ z1.heap.size := (by omega); have hne1 : z1.heap.size ≠ r := (by have := hr1.r_in; omega); have A1 := Lib.hid (alloc_blk (o' := (.cells #[.int .i64 n1, .int .i64 0, .int .i64 0] 26)) (keep_blk hk1 A0.out hne)); have B1 := Lib.hid (new_blk z1 (.cells #[.int .i64 n1, .int .i64 0, .int .i64 0] 26)); have H1 := Lib.hid (hr1.ext ((Ext.refl z1).alloc (.cells #[.int .i64 n1, .int .i64 0, .int .i64 0] 26))); have K1 := Lib.hid ((K0.out.trans hk1).trans (KeepR.of_ext (r := r) ((Ext.refl z1).alloc (.cells #[.int .i64 n1, .int .i64 0, .int .i64 0] 26)))); clear hr1 hk1))
  refine bodyPost_ret (v := .agg #[.int .i64 n1, .int .i64 n2, .int .i64 n3]) ?_ rfl ⟨rfl, ?_, ?_⟩
  · simp [results, Try.results41, go_sem, zl, a0, a1, a2]
  · exact (((H3.out.keep ((KeepR.refl z1.heap.size _).set (o := 2) _) (.inr hT1)).keep ((KeepR.refl w.heap.size _).set (o := 0) _) (.inr hT)).keep ((KeepR.refl w.heap.size _).set (o := 1) _) (.inr hT)).keep ((KeepR.refl w.heap.size _).set (o := 2) _) (.inr hT)
  · exact (((K3.out.setN (o := 2) hle _).setN (o := 0) (Nat.le_refl _) _).setN (o := 1) (Nat.le_refl _) _).setN (o := 2) (Nat.le_refl _) _
end
theorem rget_ret (tm : Array Value) (W : World) (b : Nat) (v0 v1 v2 v3 v4 v5 v6 v7 v8 v9 v10 v11 v12 v13 v14 : Value) (er : Int) (ht : tm[2]? = some (.pointer (some ⟨b, 0, none⟩))) (h3 : tm[3]? = some (.int .i64 er)) (h : W.heap[b]? = some (.cells #[v0, v1, v2, v3, v4, v5, v6, v7, v8, v9, v10, v11, v12, v13, v14] 33 (0, 0))) :
    (results Try.f26 tm).run Try.prog W = .ok (.tuple #[.agg #[v0, v1, v2, v3, v4, v5, v6, v7, v8, v9, v10, v11, v12, v13, v14], .int .i64 er]) W := by
  obtain ⟨c0, _⟩ := blkG h 0 _ rfl
  obtain ⟨c1, _⟩ := blkG h 1 _ rfl
  obtain ⟨c2, _⟩ := blkG h 2 _ rfl
  obtain ⟨c3, _⟩ := blkG h 3 _ rfl
  obtain ⟨c4, _⟩ := blkG h 4 _ rfl
  obtain ⟨c5, _⟩ := blkG h 5 _ rfl
  obtain ⟨c6, _⟩ := blkG h 6 _ rfl
  obtain ⟨c7, _⟩ := blkG h 7 _ rfl
  obtain ⟨c8, _⟩ := blkG h 8 _ rfl
  obtain ⟨c9, _⟩ := blkG h 9 _ rfl
  obtain ⟨c10, _⟩ := blkG h 10 _ rfl
  obtain ⟨c11, _⟩ := blkG h 11 _ rfl
  obtain ⟨c12, _⟩ := blkG h 12 _ rfl
  obtain ⟨c13, _⟩ := blkG h 13 _ rfl
  obtain ⟨c14, _⟩ := blkG h 14 _ rfl
  simp [results, Try.results26, go_sem, ht, h3, c0, c1, c2, c3, c4, c5, c6, c7, c8, c9, c10, c11, c12, c13, c14]
end
section

def RG4 (w : World) (er : Int) (ser : ByteArray) (dy dm dd : Int) (ls : List Ln) (n : Nat) (e : Ending) (w' : World) : Prop :=
  (er ≠ 0 ∧ e = .returned (.tuple #[.agg #[.int .i64 0, .string ⟨#[]⟩, .int .i64 0, .string ⟨#[]⟩, .int .i64 0, .int .i64 0, .int .i64 0, .int .i64 0, .int .i64 0, .int .i64 0, .int .i64 0, .slice none 0 0, .string ⟨#[]⟩, .int .i64 0, .int .i64 0], .int .i64 er]) ∧ Ext w w') ∨ (er = 0 ∧ ∃ a' c', e = .returned (.tuple #[.agg #[.int .i64 4, .string ser, .int .i64 0, .string ⟨#[]⟩, .int .i64 0, .int .i64 0, .int .i64 0, .int .i64 0, .int .i64 dy, .int .i64 dm, .int .i64 dd, .slice a' n c', .string ⟨#[]⟩, .int .i64 0, .int .i64 0], .int .i64 0]) ∧ OwnS Ln.cells 4 107 w' w.heap.size (.slice a' n c') ls ∧ Ext w w')
set_option maxHeartbeats 16000000 in
set_option maxRecDepth 100000 in
theorem rget_4 {v : Value} {bs : List UInt8} {w : World} (hr : Rd8 w v bs) (hb : bs.length ≤ 140737488355328) {ser : ByteArray} {dy dm dd : Int} {s0 s1 s2 : RS} (e0 : tR bs s0 = (ser, s1)) (e1 : dR bs s1 = ((dy, dm, dd), s2)) {n : Nat} {sL : RS} (e2 : lcR bs s2 = (n, sL)) (ek : rNum bs ⟨0, 0⟩ = (4, s0)) (hi : ¬ 1024 < bs.length) (he : s0.err = 0) : Calls Try.prog 26 #[v] w (RG4 w (rEnd bs (lnSt bs sL n)).err ser dy dm dd (lnsAt bs sL n) n) := by
  obtain ⟨i0, hi0, iz0, iz1, iz2⟩ := info_parts Try.infoLn
  have hn12 : n ≤ 12 := by have := (lcR_is bs s2).2; rw [e2] at this; exact this
  have hr0 := hr
  obtain ⟨_, _, a, cap, rfl, _⟩ := hr0
  have HRD := Lib.hid (qread_new (.slice a bs.length cap) bs (w.alloc (.cells #[.int .i64 0, .string ⟨#[]⟩, .int .i64 0, .string ⟨#[]⟩, .int .i64 0, .int .i64 0, .int .i64 0, .int .i64 0, .int .i64 0, .int .i64 0, .int .i64 0, .slice none 0 0, .string ⟨#[]⟩, .int .i64 0, .int .i64 0] 33)) (hr.ext ((Ext.refl w).alloc _)) hb)
  have EK := Lib.hid ek
  have hi2 : ¬ (1024 : Int) < (bs.length : Int) := by omega
  clear hr hb ek hi
  have hi := hi0
  clear hi0
  have hee : (s0.err != 0) = false := by simp [he]
  have E0 := Lib.hid e0
  have E1 := Lib.hid e1
  have E2 := Lib.hid e2
  clear he e0 e1 e2
  go_enter Try.func26, Try.ntmps26
  go_wp2_with (first
    | (go_at_call 42; (with_reducible refine (qcx_x H2.out.rd E2.out).mono ?_); rintro e z3 ⟨rfl, hr, hk⟩; have H3 := Lib.hid (H2.out.keep hr hk hne); clear hr hk)
    | (go_at_call 41; (with_reducible refine (qday_x H1.out.rd (Nat.le_of_lt (Nat.lt_of_le_of_lt hT (blk_lt H1.out.cb))) E1.out).mono ?_); rintro e z2 ⟨rfl, hr, hk⟩; have Hx := H1.out.keep hr hk hne; obtain ⟨x1_0, y1_0⟩ := blkG Hx.cb 8 (.int .i64 0) rfl; obtain ⟨x1_1, y1_1⟩ := blkG Hx.cb 9 (.int .i64 0) rfl; obtain ⟨x1_2, y1_2⟩ := blkG Hx.cb 10 (.int .i64 0) rfl; have H2 : Hid (CI (y.alloc (.cells #[.int .i64 4, .string ⟨#[]⟩, .int .i64 0, .string ⟨#[]⟩, .int .i64 0, .int .i64 0, .int .i64 0, .int .i64 0, .int .i64 0, .int .i64 0, .int .i64 0, .slice none 0 0, .string ⟨#[]⟩, .int .i64 0, .int .i64 0] 33)) r y.heap.size bs (w.heap.size + 1) w1.heap.size (((z2.setCell ⟨y.heap.size, 8, none⟩ (.int .i64 dy)).setCell ⟨y.heap.size, 9, none⟩ (.int .i64 dm)).setCell ⟨y.heap.size, 10, none⟩ (.int .i64 dd)) #[.int .i64 4, .string ser, .int .i64 0, .string ⟨#[]⟩, .int .i64 0, .int .i64 0, .int .i64 0, .int .i64 0, .int .i64 dy, .int .i64 dm, .int .i64 dd, .slice none 0 0, .string ⟨#[]⟩, .int .i64 0, .int .i64 0] s2) := Lib.hid (((Hx.set 8 (.int .i64 dy) hT (A' := #[.int .i64 4, .string ser, .int .i64 0, .string ⟨#[]⟩, .int .i64 0, .int .i64 0, .int .i64 0, .int .i64 0, .int .i64 dy, .int .i64 0, .int .i64 0, .slice none 0 0, .string ⟨#[]⟩, .int .i64 0, .int .i64 0]) rfl).set 9 (.int .i64 dm) hT (A' := #[.int .i64 4, .string ser, .int .i64 0, .string ⟨#[]⟩, .int .i64 0, .int .i64 0, .int .i64 0, .int .i64 0, .int .i64 dy, .int .i64 dm, .int .i64 0, .slice none 0 0, .string ⟨#[]⟩, .int .i64 0, .int .i64 0]) rfl).set 10 (.int .i64 dd) hT (A' := #[.int .i64 4, .string ser, .int .i64 0, .string ⟨#[]⟩, .int .i64 0, .int .i64 0, .int .i64 0, .int .i64 0, .int .i64 dy, .int .i64 dm, .int .i64 dd, .slice none 0 0, .string ⟨#[]⟩, .int .i64 0, .int .i64 0]) rfl); clear hr hk Hx)
    | (go_at_call 40; (with_reducible refine (qtx_x H0.out.rd E0.out).mono ?_); rintro e z1 ⟨rfl, hr, hk⟩; have Hx := H0.out.keep hr hk hne; obtain ⟨x0_0, y0_0⟩ := blkG Hx.cb 1 (.string ⟨#[]⟩) rfl; have H1 : Hid (CI (y.alloc (.cells #[.int .i64 4, .string ⟨#[]⟩, .int .i64 0, .string ⟨#[]⟩, .int .i64 0, .int .i64 0, .int .i64 0, .int .i64 0, .int .i64 0, .int .i64 0, .int .i64 0, .slice none 0 0, .string ⟨#[]⟩, .int .i64 0, .int .i64 0] 33)) r y.heap.size bs (w.heap.size + 1) w1.heap.size (z1.setCell ⟨y.heap.size, 1, none⟩ (.string ser)) #[.int .i64 4, .string ser, .int .i64 0, .string ⟨#[]⟩, .int .i64 0, .int .i64 0, .int .i64 0, .int .i64 0, .int .i64 0, .int .i64 0, .int .i64 0, .slice none 0 0, .string ⟨#[]⟩, .int .i64 0, .int .i64 0] s1) := Lib.hid (Hx.set 1 (.string ser) hT (A' := #[.int .i64 4, .string ser, .int .i64 0, .string ⟨#[]⟩, .int .i64 0, .int .i64 0, .int .i64 0, .int .i64 0, .int .i64 0, .int .i64 0, .int .i64 0, .slice none 0 0, .string ⟨#[]⟩, .int .i64 0, .int .i64 0]) rfl); clear hr hk Hx)
    | (go_at_call 25; (with_reducible refine (qnx_x H1.out EK.out).mono ?_); rintro e y ⟨rfl, hr, hk⟩; have hwy := hk.size; have hzy : w.heap.size < y.heap.size := Nat.lt_of_lt_of_le (Nat.lt_trans hwr hrT) hwy; have hrr := hr.ext ((Ext.refl y).alloc (.cells #[.int .i64 4, .string ⟨#[]⟩, .int .i64 0, .string ⟨#[]⟩, .int .i64 0, .int .i64 0, .int .i64 0, .int .i64 0, .int .i64 0, .int .i64 0, .int .i64 0, .slice none 0 0, .string ⟨#[]⟩, .int .i64 0, .int .i64 0] 33)); have wr0 := rdx_wr hrr; have wr1 := rdx_wr hr; have hzr : w.heap.size ≠ r := Nat.ne_of_lt hwr; have hrz : r ≠ w.heap.size := Nat.ne_of_gt hwr; have Zy := keep_blk hk Z1.out hzr; have ZY := Lib.hid Zy; have P2 := Lib.hid (new_blk y (.cells #[.int .i64 4, .string ⟨#[]⟩, .int .i64 0, .string ⟨#[]⟩, .int .i64 0, .int .i64 0, .int .i64 0, .int .i64 0, .int .i64 0, .int .i64 0, .int .i64 0, .slice none 0 0, .string ⟨#[]⟩, .int .i64 0, .int .i64 0] 33)); have XY : Hid (Ext w y) := Lib.hid (Ext.keep X1.out hk (Nat.le_of_lt hwr)); have hrh : r < y.heap.size := Nat.lt_of_lt_of_le hrT hwy; have hT := hwy; have hne : y.heap.size ≠ r := Nat.ne_of_gt hrh; obtain ⟨q0, q0'⟩ := blkG P2.out 0 (.int .i64 4) rfl; have H0 : Hid (CI (y.alloc (.cells #[.int .i64 4, .string ⟨#[]⟩, .int .i64 0, .string ⟨#[]⟩, .int .i64 0, .int .i64 0, .int .i64 0, .int .i64 0, .int .i64 0, .int .i64 0, .int .i64 0, .slice none 0 0, .string ⟨#[]⟩, .int .i64 0, .int .i64 0] 33)) r y.heap.size bs (w.heap.size + 1) w1.heap.size (y.alloc (.cells #[.int .i64 4, .string ⟨#[]⟩, .int .i64 0, .string ⟨#[]⟩, .int .i64 0, .int .i64 0, .int .i64 0, .int .i64 0, .int .i64 0, .int .i64 0, .int .i64 0, .slice none 0 0, .string ⟨#[]⟩, .int .i64 0, .int .i64 0] 33)) #[.int .i64 4, .string ⟨#[]⟩, .int .i64 0, .string ⟨#[]⟩, .int .i64 0, .int .i64 0, .int .i64 0, .int .i64 0, .int .i64 0, .int .i64 0, .int .i64 0, .slice none 0 0, .string ⟨#[]⟩, .int .i64 0, .int .i64 0] s0) := Lib.hid ⟨hrr, P2.out, Keep2.refl _ _ _⟩; clear hr hk Zy hrr)
    | (go_at_call 24; (with_reducible refine HRD.out.mono ?_); rintro e w1 ⟨r, rfl, hrd, hx⟩; have hT0 : RdX (w.heap.size + 1) w1.heap.size w1 r bs ⟨0, 0⟩ := hrd.low (by simp); have hwr : w.heap.size < r := hT0.r_in.1; have hrT : r < w1.heap.size := hT0.r_in.2.1; have H1 := Lib.hid hT0; have Z1 := Lib.hid (ext_blk hx (new_blk w (.cells #[.int .i64 0, .string ⟨#[]⟩, .int .i64 0, .string ⟨#[]⟩, .int .i64 0, .int .i64 0, .int .i64 0, .int .i64 0, .int .i64 0, .int .i64 0, .int .i64 0, .slice none 0 0, .string ⟨#[]⟩, .int .i64 0, .int .i64 0] 33))); have X1 : Hid (Ext w w1) := Lib.hid (Ext.trans ((Ext.refl w).alloc _) hx); clear hrd hx hT0))
  have hC := blk_lt H3.out.cb
  have hwC := H3.out.kp.size
  obtain ⟨C, hCz⟩ : ∃ C, z3.heap.size = C := ⟨_, rfl⟩
  have HCZ := Lib.hid hCz
  have hC0 : y.heap.size < C := by omega
  have hwC0 : (y.alloc (.cells #[.int .i64 4, .string ⟨#[]⟩, .int .i64 0, .string ⟨#[]⟩, .int .i64 0, .int .i64 0, .int .i64 0, .int .i64 0, .int .i64 0, .int .i64 0, .int .i64 0, .slice none 0 0, .string ⟨#[]⟩, .int .i64 0, .int .i64 0] 33)).heap.size ≤ C := by omega
  have hC1 : C ≤ z3.heap.size := by omega
  have hTC : w1.heap.size ≤ C := by omega
  have hrC : r < C := by omega
  have hwwC : w.heap.size ≤ C := by omega
  clear H0 H1 H2 hCz hC hwC wr0 wr1
  go_loopw [7] (fun iv wq => ∃ (k : Nat) (ev : Value), k ≤ n ∧ iv = .int .i64 (k : Int) ∧ Hid (CI (y.alloc (.cells #[.int .i64 4, .string ⟨#[]⟩, .int .i64 0, .string ⟨#[]⟩, .int .i64 0, .int .i64 0, .int .i64 0, .int .i64 0, .int .i64 0, .int .i64 0, .int .i64 0, .slice none 0 0, .string ⟨#[]⟩, .int .i64 0, .int .i64 0] 33)) r y.heap.size bs (w.heap.size + 1) w1.heap.size wq #[.int .i64 4, .string ser, .int .i64 0, .string ⟨#[]⟩, .int .i64 0, .int .i64 0, .int .i64 0, .int .i64 0, .int .i64 dy, .int .i64 dm, .int .i64 dd, ev, .string ⟨#[]⟩, .int .i64 0, .int .i64 0] (lnSt bs sL k)) ∧ Hid (OwnS Ln.cells 4 107 wq C ev (lnsAt bs sL k)) ∧ C ≤ wq.heap.size) (fun iv _ => n - (intOf iv).toNat)
  case atStart => exact ⟨0, _, by omega, rfl, H3, Lib.hid (World.ownsRow_nil _ _ _ _), hC1⟩
  case round =>
    rename World => wq
    obtain ⟨k, ev, hk, rfl, HG, HO, hsq⟩ := hrel
    have wr2 := rdx_wr HG.out.rd
    by_cases hlt2 : k < n
    · have hki : (k : Int) < (n : Int) := by omega
      by_cases her : (lnSt bs sL k).err = 0
      · rw [her] at wr2
        have HG0 := HG
        obtain ⟨q0, hq0⟩ : ∃ s, lnSt bs sL k = s := ⟨_, rfl⟩
        obtain ⟨tt, q1, hq1⟩ : ∃ t s, tR bs q0 = (t, s) := ⟨_, _, rfl⟩
        obtain ⟨tc, q2, hq2⟩ : ∃ t s, tR bs q1 = (t, s) := ⟨_, _, rfl⟩
        obtain ⟨co, q3, hq3⟩ : ∃ t s, rNum bs q2 = (t, s) := ⟨_, _, rfl⟩
        obtain ⟨pr, q4, hq4⟩ : ∃ t s, rNum bs q3 = (t, s) := ⟨_, _, rfl⟩
        have hln : lnR bs (lnSt bs sL k) = (⟨tt, tc, co, pr⟩, q4) := by
          rw [hq0]; unfold lnR; simp only [hq1, hq2, hq3, hq4]
        rw [hq0] at HG0
        have HLN := Lib.hid hln
        have F0 := Lib.hid hq1
        have F1 := Lib.hid hq2
        have F2 := Lib.hid hq3
        have F3 := Lib.hid hq4
        clear hln hq0 hq1 hq2 hq3 hq4 her
        go_wp2_with (first
          | (at_builtin; refine wpList_own_push2 (w := (u4.setCell ⟨u1.heap.size, 3, none⟩ (.int .i64 pr))) rfl _ _ 29 rfl C 107 107 i0 _ 4 48 Try.underlying29 hi iz0 iz1 iz2 rfl (by decide) _ k 1 1 _ [.string tt, .string tc, .int .i64 co, .int .i64 pr] HOK.out rfl (by rw [HSZ.out]; rfl) rfl rfl ?c2 ?c3 ?c4 hs5 ?_)
          | (go_at_call 25; (with_reducible refine (qnx_x HG3.out.rd F3.out).mono ?_); rintro e u4 ⟨rfl, hr, hk⟩; have Hx := HG3.out.keep hr hk hne; have Xx := keep_blk hk HX3.out hxr; have Ox := OwnS.keepR HO3.out hk hrC; obtain ⟨m3, n3⟩ := blkG Xx 3 (.int .i64 0) rfl; have HG4 := Lib.hid (Hx.setO (b := u1.heap.size) 3 (.int .i64 pr) hTx hpx hwx); have HX4 : Hid ((u4.setCell ⟨u1.heap.size, 3, none⟩ (.int .i64 pr)).heap[u1.heap.size]? = some (.cells #[.string tt, .string tc, .int .i64 co, .int .i64 pr] 107 (0, 0))) := Lib.hid (heap_setCell_same _ _ 3 _ _ (.int .i64 pr) Xx); have HO4 := Lib.hid (OwnS.setO (o := 3) (u := .int .i64 pr) Ox HNE.out); obtain ⟨c11, g11⟩ := blkG HG4.out.cb 11 ev rfl; obtain ⟨l0, _⟩ := blkG HX4.out 0 (.string tt) rfl; obtain ⟨l1, _⟩ := blkG HX4.out 1 (.string tc) rfl; obtain ⟨l2, _⟩ := blkG HX4.out 2 (.int .i64 co) rfl; obtain ⟨l3, _⟩ := blkG HX4.out 3 (.int .i64 pr) rfl; have HOK : Hid ((u4.setCell ⟨u1.heap.size, 3, none⟩ (.int .i64 pr)).ownsRow C 107 4 ev k ((lnsAt bs sL k).flatMap Ln.cells)) := Lib.hid (by have := HO4.out; unfold OwnS at this; rwa [lnsAt_len] at this); have hs5 : C ≤ (u4.setCell ⟨u1.heap.size, 3, none⟩ (.int .i64 pr)).heap.size := Nat.le_of_lt (Nat.lt_of_le_of_lt hsu (blk_lt HX4.out)); have HSZ : Hid ((u4.setCell ⟨u1.heap.size, 3, none⟩ (.int .i64 pr)).heap.size = u4.heap.size) := Lib.hid (by simp); clear hr hk Hx Xx Ox)
          | (go_at_call 25; (with_reducible refine (qnx_x HG2.out.rd F2.out).mono ?_); rintro e u3 ⟨rfl, hr, hk⟩; have Hx := HG2.out.keep hr hk hne; have Xx := keep_blk hk HX2.out hxr; have Ox := OwnS.keepR HO2.out hk hrC; obtain ⟨m2, n2⟩ := blkG Xx 2 (.int .i64 0) rfl; have HG3 := Lib.hid (Hx.setO (b := u1.heap.size) 2 (.int .i64 co) hTx hpx hwx); have HX3 : Hid ((u3.setCell ⟨u1.heap.size, 2, none⟩ (.int .i64 co)).heap[u1.heap.size]? = some (.cells #[.string tt, .string tc, .int .i64 co, .int .i64 0] 107 (0, 0))) := Lib.hid (heap_setCell_same _ _ 2 _ _ (.int .i64 co) Xx); have HO3 := Lib.hid (OwnS.setO (o := 2) (u := .int .i64 co) Ox HNE.out); clear hr hk Hx Xx Ox)
          | (go_at_call 40; (with_reducible refine (qtx_x HG1.out.rd F1.out).mono ?_); rintro e u2 ⟨rfl, hr, hk⟩; have Hx := HG1.out.keep hr hk hne; have Xx := keep_blk hk HX1.out hxr; have Ox := OwnS.keepR HO1.out hk hrC; obtain ⟨m1, n1⟩ := blkG Xx 1 (.string ⟨#[]⟩) rfl; have HG2 := Lib.hid (Hx.setO (b := u1.heap.size) 1 (.string tc) hTx hpx hwx); have HX2 : Hid ((u2.setCell ⟨u1.heap.size, 1, none⟩ (.string tc)).heap[u1.heap.size]? = some (.cells #[.string tt, .string tc, .int .i64 0, .int .i64 0] 107 (0, 0))) := Lib.hid (heap_setCell_same _ _ 1 _ _ (.string tc) Xx); have HO2 := Lib.hid (OwnS.setO (o := 1) (u := .string tc) Ox HNE.out); clear hr hk Hx Xx Ox)
          | (go_at_call 40; (with_reducible refine (qtx_x HG0.out.rd F0.out).mono ?_); rintro e u1 ⟨rfl, hr, hk⟩; have Hx := HG0.out.keep hr hk hne; have hsu := Nat.le_trans hsq hk.size; have hxr : u1.heap.size ≠ r := (by omega); have hTx : w1.heap.size ≤ u1.heap.size := (by omega); have hpx : y.heap.size ≠ u1.heap.size := (by omega); have hwx : (y.alloc (.cells #[.int .i64 4, .string ⟨#[]⟩, .int .i64 0, .string ⟨#[]⟩, .int .i64 0, .int .i64 0, .int .i64 0, .int .i64 0, .int .i64 0, .int .i64 0, .int .i64 0, .slice none 0 0, .string ⟨#[]⟩, .int .i64 0, .int .i64 0] 33)).heap.size ≤ u1.heap.size := (by omega); have HG1 := Lib.hid (Hx.ext ((Ext.refl u1).alloc (.cells #[.string tt, .string ⟨#[]⟩, .int .i64 0, .int .i64 0] 107))); have HX1 := Lib.hid (new_blk u1 (.cells #[.string tt, .string ⟨#[]⟩, .int .i64 0, .int .i64 0] 107)); have Ox := OwnS.keepR HO.out hk hrC; have HNE : Hid (∀ a m c', ev = .slice (some a) m c' → a.block ≠ u1.heap.size) := Lib.hid (fun a m c' he => Nat.ne_of_lt (own_blkE Ox a m c' he).1); have HO1 := Lib.hid (OwnS.ext Ox ((Ext.refl u1).alloc (.cells #[.string tt, .string ⟨#[]⟩, .int .i64 0, .int .i64 0] 107))); clear hr hk Hx Ox))
        case c2 => intro u hu; simp only [List.mem_cons, List.not_mem_nil, or_false] at hu; rcases hu with rfl | rfl | rfl | rfl <;> rfl
        case c3 => unfold maxLen; omega
        case c4 => omega
        intro v7 w7 ho7 hb7 _
        obtain ⟨_, _, a7, c7, hev7, _⟩ := SlR.of_own ho7
        subst hev7
        have HG7 := Lib.hid (HG4.out.below hb7 hTC hC0 hwC0)
        obtain ⟨d11, e11⟩ := blkG HG7.out.cb 11 ev rfl
        have hl1 : lnSt bs sL (k + 1) = q4 := by show (lnR bs (lnSt bs sL k)).2 = q4; rw [HLN.out]
        have hl2 : lnsAt bs sL (k + 1) = lnsAt bs sL k ++ [⟨tt, tc, co, pr⟩] := by rw [lnsAt_succ, HLN.out]
        have HL1 := Lib.hid hl1
        have HO7 : Hid (OwnS Ln.cells 4 107 w7 C (.slice a7 (k + 1) c7) (lnsAt bs sL (k + 1))) := Lib.hid (by
          rw [hl2]
          unfold OwnS
          rw [List.length_append, lnsAt_len, List.flatMap_append]
          simpa [Ln.cells] using ho7)
        have HO8 := Lib.hid (OwnS.setO (b := y.heap.size) (o := 11) (u := .slice a7 (k + 1) c7) HO7.out fun a m c' he => Nat.ne_of_gt (Nat.lt_of_lt_of_le hC0 (own_blkE HO7.out a m c' he).2))
        have HG8 : Hid (CI (y.alloc (.cells #[.int .i64 4, .string ⟨#[]⟩, .int .i64 0, .string ⟨#[]⟩, .int .i64 0, .int .i64 0, .int .i64 0, .int .i64 0, .int .i64 0, .int .i64 0, .int .i64 0, .slice none 0 0, .string ⟨#[]⟩, .int .i64 0, .int .i64 0] 33)) r y.heap.size bs (w.heap.size + 1) w1.heap.size (w7.setCell ⟨y.heap.size, 11, none⟩ (.slice a7 (k + 1) c7)) #[.int .i64 4, .string ser, .int .i64 0, .string ⟨#[]⟩, .int .i64 0, .int .i64 0, .int .i64 0, .int .i64 0, .int .i64 dy, .int .i64 dm, .int .i64 dd, .slice a7 (k + 1) c7, .string ⟨#[]⟩, .int .i64 0, .int .i64 0] q4) := Lib.hid (HG7.out.set 11 _ hT rfl)
        have hs7 : C ≤ (w7.setCell ⟨y.heap.size, 11, none⟩ (.slice a7 (k + 1) c7)).heap.size := by
          have h7 := Nat.le_trans hs5 hb7.size
          simp
          exact h7
        clear HG0 HG1 HG2 HG3 HG4 HG7 HX1 HX2 HX3 HX4 HO1 HO2 HO3 HO4 HO7 HOK c11 g11 l0 l1 l2 l3 hs5 ho7 hb7 hl1 hl2 HLN
        go_wp2_with fail
        go_roundw
        case rel => exact ⟨k + 1, _, by omega, by simp, Lib.hid (by rw [HL1.out]; exact HG8.out), HO8, hs7⟩
        case measure => simp [intOf]; omega
      · have hst : (rEnd bs (lnSt bs sL n)).err = (rEnd bs (lnSt bs sL k)).err := by rw [lnSt_st (Nat.le_of_lt hlt2) her]
        have hbad := rEnd_bd (bs := bs) her
        have hnn : ((rEnd bs (lnSt bs sL k)).err != 0) = true := by simp [hbad]
        have hee2 : ((lnSt bs sL k).err == 0) = false := by simp [her]
        have HST := Lib.hid hst
        have HBAD := Lib.hid hbad
        clear hst hbad her
        go_wp2_with (go_at_call 43; (with_reducible refine (qend_x HG.out.rd).mono ?_); rintro e u ⟨rfl, hr, hk⟩; have HCE := Lib.hid (HG.out.keep hr hk hne); have hwz : w.heap.size ≠ y.heap.size := Nat.ne_of_lt hzy; have Z4 := Lib.hid ((HCE.out.kp.block w.heap.size (by simp; omega) hzr hwz).trans (alloc_blk ZY.out)); have X4 : Hid (Ext w u) := Lib.hid (Ext.keep2 (Ext.alloc XY.out _) HCE.out.kp (Nat.le_of_lt hwr) (Nat.le_of_lt hzy)); obtain ⟨i0, j0⟩ := blkG Z4.out 0 (.int .i64 0) rfl; obtain ⟨i1, j1⟩ := blkG Z4.out 1 (.string ⟨#[]⟩) rfl; obtain ⟨i2, j2⟩ := blkG Z4.out 2 (.int .i64 0) rfl; obtain ⟨i3, j3⟩ := blkG Z4.out 3 (.string ⟨#[]⟩) rfl; obtain ⟨i4, j4⟩ := blkG Z4.out 4 (.int .i64 0) rfl; obtain ⟨i5, j5⟩ := blkG Z4.out 5 (.int .i64 0) rfl; obtain ⟨i6, j6⟩ := blkG Z4.out 6 (.int .i64 0) rfl; obtain ⟨i7, j7⟩ := blkG Z4.out 7 (.int .i64 0) rfl; obtain ⟨i8, j8⟩ := blkG Z4.out 8 (.int .i64 0) rfl; obtain ⟨i9, j9⟩ := blkG Z4.out 9 (.int .i64 0) rfl; obtain ⟨i10, j10⟩ := blkG Z4.out 10 (.int .i64 0) rfl; obtain ⟨i11, j11⟩ := blkG Z4.out 11 (.slice none 0 0) rfl; obtain ⟨i12, j12⟩ := blkG Z4.out 12 (.string ⟨#[]⟩) rfl; obtain ⟨i13, j13⟩ := blkG Z4.out 13 (.int .i64 0) rfl; obtain ⟨i14, j14⟩ := blkG Z4.out 14 (.int .i64 0) rfl; clear hr hk)
        refine bodyPost_ret (v := .tuple #[.agg #[.int .i64 0, .string ⟨#[]⟩, .int .i64 0, .string ⟨#[]⟩, .int .i64 0, .int .i64 0, .int .i64 0, .int .i64 0, .int .i64 0, .int .i64 0, .int .i64 0, .slice none 0 0, .string ⟨#[]⟩, .int .i64 0, .int .i64 0], .int .i64 (rEnd bs (lnSt bs sL k)).err]) (rget_ret _ _ w.heap.size _ _ _ _ _ _ _ _ _ _ _ _ _ _ _ _ rfl rfl (set15_blk Z4.out)) rfl (.inl ?_)
        rw [HST.out]
        exact ⟨HBAD.out, rfl, set15_ext X4.out (Nat.le_refl _)⟩
    · have hki : ¬ (k : Int) < (n : Int) := by omega
      obtain rfl : k = n := by omega
      by_cases hz : (rEnd bs (lnSt bs sL k)).err = 0
      · have hnn : ((rEnd bs (lnSt bs sL k)).err != 0) = false := by simp [hz]
        obtain ⟨a2, c2, hev, _, _⟩ := OwnS.form HO.out
        rw [lnsAt_len] at hev
        subst hev
        have HZ := Lib.hid hz
        clear hz
        go_wp2_with (go_at_call 43; (with_reducible refine (qend_x HG.out.rd).mono ?_); rintro e u ⟨rfl, hr, hk⟩; have HCE := Lib.hid (HG.out.keep hr hk hne); have hwz : w.heap.size ≠ y.heap.size := Nat.ne_of_lt hzy; have Z4 := Lib.hid ((HCE.out.kp.block w.heap.size (by simp; omega) hzr hwz).trans (alloc_blk ZY.out)); have X4 : Hid (Ext w u) := Lib.hid (Ext.keep2 (Ext.alloc XY.out _) HCE.out.kp (Nat.le_of_lt hwr) (Nat.le_of_lt hzy)); obtain ⟨i0, j0⟩ := blkG Z4.out 0 (.int .i64 0) rfl; obtain ⟨i1, j1⟩ := blkG Z4.out 1 (.string ⟨#[]⟩) rfl; obtain ⟨i2, j2⟩ := blkG Z4.out 2 (.int .i64 0) rfl; obtain ⟨i3, j3⟩ := blkG Z4.out 3 (.string ⟨#[]⟩) rfl; obtain ⟨i4, j4⟩ := blkG Z4.out 4 (.int .i64 0) rfl; obtain ⟨i5, j5⟩ := blkG Z4.out 5 (.int .i64 0) rfl; obtain ⟨i6, j6⟩ := blkG Z4.out 6 (.int .i64 0) rfl; obtain ⟨i7, j7⟩ := blkG Z4.out 7 (.int .i64 0) rfl; obtain ⟨i8, j8⟩ := blkG Z4.out 8 (.int .i64 0) rfl; obtain ⟨i9, j9⟩ := blkG Z4.out 9 (.int .i64 0) rfl; obtain ⟨i10, j10⟩ := blkG Z4.out 10 (.int .i64 0) rfl; obtain ⟨i11, j11⟩ := blkG Z4.out 11 (.slice none 0 0) rfl; obtain ⟨i12, j12⟩ := blkG Z4.out 12 (.string ⟨#[]⟩) rfl; obtain ⟨i13, j13⟩ := blkG Z4.out 13 (.int .i64 0) rfl; obtain ⟨i14, j14⟩ := blkG Z4.out 14 (.int .i64 0) rfl; obtain ⟨g0, _⟩ := blkG HCE.out.cb 0 (.int .i64 4) rfl; obtain ⟨g1, _⟩ := blkG HCE.out.cb 1 (.string ser) rfl; obtain ⟨g2, _⟩ := blkG HCE.out.cb 2 (.int .i64 0) rfl; obtain ⟨g3, _⟩ := blkG HCE.out.cb 3 (.string ⟨#[]⟩) rfl; obtain ⟨g4, _⟩ := blkG HCE.out.cb 4 (.int .i64 0) rfl; obtain ⟨g5, _⟩ := blkG HCE.out.cb 5 (.int .i64 0) rfl; obtain ⟨g6, _⟩ := blkG HCE.out.cb 6 (.int .i64 0) rfl; obtain ⟨g7, _⟩ := blkG HCE.out.cb 7 (.int .i64 0) rfl; obtain ⟨g8, _⟩ := blkG HCE.out.cb 8 (.int .i64 dy) rfl; obtain ⟨g9, _⟩ := blkG HCE.out.cb 9 (.int .i64 dm) rfl; obtain ⟨g10, _⟩ := blkG HCE.out.cb 10 (.int .i64 dd) rfl; obtain ⟨g11, _⟩ := blkG HCE.out.cb 11 (.slice a2 k c2) rfl; obtain ⟨g12, _⟩ := blkG HCE.out.cb 12 (.string ⟨#[]⟩) rfl; obtain ⟨g13, _⟩ := blkG HCE.out.cb 13 (.int .i64 0) rfl; obtain ⟨g14, _⟩ := blkG HCE.out.cb 14 (.int .i64 0) rfl; have HOE := Lib.hid (OwnS.keepR HO.out hk hrC); clear hr hk)
        refine bodyPost_ret (v := .tuple #[.agg #[.int .i64 4, .string ser, .int .i64 0, .string ⟨#[]⟩, .int .i64 0, .int .i64 0, .int .i64 0, .int .i64 0, .int .i64 dy, .int .i64 dm, .int .i64 dd, .slice a2 k c2, .string ⟨#[]⟩, .int .i64 0, .int .i64 0], .int .i64 0]) (rget_ret _ _ w.heap.size _ _ _ _ _ _ _ _ _ _ _ _ _ _ _ _ rfl rfl (set15_blk Z4.out)) rfl (.inr ⟨HZ.out, a2, c2, rfl, ?_, set15_ext X4.out (Nat.le_refl _)⟩)
        exact OwnS.base (set15_own HOE.out fun a m c' he => Nat.ne_of_gt (Nat.lt_of_lt_of_le (Nat.lt_trans hzy hC0) (own_blkE HOE.out a m c' he).2)) hwwC
      · have hnn : ((rEnd bs (lnSt bs sL k)).err != 0) = true := by simp [hz]
        have HZ := Lib.hid hz
        clear hz
        go_wp2_with (go_at_call 43; (with_reducible refine (qend_x HG.out.rd).mono ?_); rintro e u ⟨rfl, hr, hk⟩; have HCE := Lib.hid (HG.out.keep hr hk hne); have hwz : w.heap.size ≠ y.heap.size := Nat.ne_of_lt hzy; have Z4 := Lib.hid ((HCE.out.kp.block w.heap.size (by simp; omega) hzr hwz).trans (alloc_blk ZY.out)); have X4 : Hid (Ext w u) := Lib.hid (Ext.keep2 (Ext.alloc XY.out _) HCE.out.kp (Nat.le_of_lt hwr) (Nat.le_of_lt hzy)); obtain ⟨i0, j0⟩ := blkG Z4.out 0 (.int .i64 0) rfl; obtain ⟨i1, j1⟩ := blkG Z4.out 1 (.string ⟨#[]⟩) rfl; obtain ⟨i2, j2⟩ := blkG Z4.out 2 (.int .i64 0) rfl; obtain ⟨i3, j3⟩ := blkG Z4.out 3 (.string ⟨#[]⟩) rfl; obtain ⟨i4, j4⟩ := blkG Z4.out 4 (.int .i64 0) rfl; obtain ⟨i5, j5⟩ := blkG Z4.out 5 (.int .i64 0) rfl; obtain ⟨i6, j6⟩ := blkG Z4.out 6 (.int .i64 0) rfl; obtain ⟨i7, j7⟩ := blkG Z4.out 7 (.int .i64 0) rfl; obtain ⟨i8, j8⟩ := blkG Z4.out 8 (.int .i64 0) rfl; obtain ⟨i9, j9⟩ := blkG Z4.out 9 (.int .i64 0) rfl; obtain ⟨i10, j10⟩ := blkG Z4.out 10 (.int .i64 0) rfl; obtain ⟨i11, j11⟩ := blkG Z4.out 11 (.slice none 0 0) rfl; obtain ⟨i12, j12⟩ := blkG Z4.out 12 (.string ⟨#[]⟩) rfl; obtain ⟨i13, j13⟩ := blkG Z4.out 13 (.int .i64 0) rfl; obtain ⟨i14, j14⟩ := blkG Z4.out 14 (.int .i64 0) rfl; clear hr hk)
        exact bodyPost_ret (v := .tuple #[.agg #[.int .i64 0, .string ⟨#[]⟩, .int .i64 0, .string ⟨#[]⟩, .int .i64 0, .int .i64 0, .int .i64 0, .int .i64 0, .int .i64 0, .int .i64 0, .int .i64 0, .slice none 0 0, .string ⟨#[]⟩, .int .i64 0, .int .i64 0], .int .i64 (rEnd bs (lnSt bs sL k)).err]) (rget_ret _ _ w.heap.size _ _ _ _ _ _ _ _ _ _ _ _ _ _ _ _ rfl rfl (set15_blk Z4.out)) rfl (.inl ⟨HZ.out, rfl, set15_ext X4.out (Nat.le_refl _)⟩)
end
end Go.Proofs.Ytochgmpcdmahkaa
