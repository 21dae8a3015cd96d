/- Seventeen cells of a block stored one behind the other. (Written by genCalC.py.) -/
import Derived.Test.YtochgmpcdmahkaaBlk
import Derived.Test.YtochgmpcdmahkaaCalB
import Derived.Test.YtochgmpcdmahkaaCmdM
namespace Go.Proofs.Ytochgmpcdmahkaa
open Go.RowKit
section

theorem set17_blk {w : World} {b : Nat} {T : TypeId} {a0 a1 a2 a3 a4 a5 a6 a7 a8 a9 a10 a11 a12 a13 a14 a15 a16 b0 b1 b2 b3 b4 b5 b6 b7 b8 b9 b10 b11 b12 b13 b14 b15 b16 : Value} (h : w.heap[b]? = some (.cells #[a0, a1, a2, a3, a4, a5, a6, a7, a8, a9, a10, a11, a12, a13, a14, a15, a16] T (0, 0))) : (((((((((((((((((w.setCell ⟨b, 0, none⟩ b0).setCell ⟨b, 1, none⟩ b1).setCell ⟨b, 2, none⟩ b2).setCell ⟨b, 3, none⟩ b3).setCell ⟨b, 4, none⟩ b4).setCell ⟨b, 5, none⟩ b5).setCell ⟨b, 6, none⟩ b6).setCell ⟨b, 7, none⟩ b7).setCell ⟨b, 8, none⟩ b8).setCell ⟨b, 9, none⟩ b9).setCell ⟨b, 10, none⟩ b10).setCell ⟨b, 11, none⟩ b11).setCell ⟨b, 12, none⟩ b12).setCell ⟨b, 13, none⟩ b13).setCell ⟨b, 14, none⟩ b14).setCell ⟨b, 15, none⟩ b15).setCell ⟨b, 16, none⟩ b16).heap[b]? = some (.cells #[b0, b1, b2, b3, b4, b5, b6, b7, b8, b9, b10, b11, b12, b13, b14, b15, b16] T (0, 0)) := by
  have h0 := heap_setCell_same _ _ 0 _ _ b0 h
  rw [show (#[a0, a1, a2, a3, a4, a5, a6, a7, a8, a9, a10, a11, a12, a13, a14, a15, a16] : Array Value).setIfInBounds 0 b0 = #[b0, a1, a2, a3, a4, a5, a6, a7, a8, a9, a10, a11, a12, a13, a14, a15, a16] from rfl] at h0
  have h1 := heap_setCell_same _ _ 1 _ _ b1 h0
  rw [show (#[b0, a1, a2, a3, a4, a5, a6, a7, a8, a9, a10, a11, a12, a13, a14, a15, a16] : Array Value).setIfInBounds 1 b1 = #[b0, b1, a2, a3, a4, a5, a6, a7, a8, a9, a10, a11, a12, a13, a14, a15, a16] from rfl] at h1
  have h2 := heap_setCell_same _ _ 2 _ _ b2 h1
  rw [show (#[b0, b1, a2, a3, a4, a5, a6, a7, a8, a9, a10, a11, a12, a13, a14, a15, a16] : Array Value).setIfInBounds 2 b2 = #[b0, b1, b2, a3, a4, a5, a6, a7, a8, a9, a10, a11, a12, a13, a14, a15, a16] from rfl] at h2
  have h3 := heap_setCell_same _ _ 3 _ _ b3 h2
  rw [show (#[b0, b1, b2, a3, a4, a5, a6, a7, a8, a9, a10, a11, a12, a13, a14, a15, a16] : Array Value).setIfInBounds 3 b3 = #[b0, b1, b2, b3, a4, a5, a6, a7, a8, a9, a10, a11, a12, a13, a14, a15, a16] from rfl] at h3
  have h4 := heap_setCell_same _ _ 4 _ _ b4 h3
  rw [show (#[b0, b1, b2, b3, a4, a5, a6, a7, a8, a9, a10, a11, a12, a13, a14, a15, a16] : Array Value).setIfInBounds 4 b4 = #[b0, b1, b2, b3, b4, a5, a6, a7, a8, a9, a10, a11, a12, a13, a14, a15, a16] from rfl] at h4
  have h5 := heap_setCell_same _ _ 5 _ _ b5 h4
  rw [show (#[b0, b1, b2, b3, b4, a5, a6, a7, a8, a9, a10, a11, a12, a13, a14, a15, a16] : Array Value).setIfInBounds 5 b5 = #[b0, b1, b2, b3, b4, b5, a6, a7, a8, a9, a10, a11, a12, a13, a14, a15, a16] from rfl] at h5
  have h6 := heap_setCell_same _ _ 6 _ _ b6 h5
  rw [show (#[b0, b1, b2, b3, b4, b5, a6, a7, a8, a9, a10, a11, a12, a13, a14, a15, a16] : Array Value).setIfInBounds 6 b6 = #[b0, b1, b2, b3, b4, b5, b6, a7, a8, a9, a10, a11, a12, a13, a14, a15, a16] from rfl] at h6
  have h7 := heap_setCell_same _ _ 7 _ _ b7 h6
  rw [show (#[b0, b1, b2, b3, b4, b5, b6, a7, a8, a9, a10, a11, a12, a13, a14, a15, a16] : Array Value).setIfInBounds 7 b7 = #[b0, b1, b2, b3, b4, b5, b6, b7, a8, a9, a10, a11, a12, a13, a14, a15, a16] from rfl] at h7
  have h8 := heap_setCell_same _ _ 8 _ _ b8 h7
  rw [show (#[b0, b1, b2, b3, b4, b5, b6, b7, a8, a9, a10, a11, a12, a13, a14, a15, a16] : Array Value).setIfInBounds 8 b8 = #[b0, b1, b2, b3, b4, b5, b6, b7, b8, a9, a10, a11, a12, a13, a14, a15, a16] from rfl] at h8
  have h9 := heap_setCell_same _ _ 9 _ _ b9 h8
  rw [show (#[b0, b1, b2, b3, b4, b5, b6, b7, b8, a9, a10, a11, a12, a13, a14, a15, a16] : Array Value).setIfInBounds 9 b9 = #[b0, b1, b2, b3, b4, b5, b6, b7, b8, b9, a10, a11, a12, a13, a14, a15, a16] from rfl] at h9
  have h10 := heap_setCell_same _ _ 10 _ _ b10 h9
  rw [show (#[b0, b1, b2, b3, b4, b5, b6, b7, b8, b9, a10, a11, a12, a13, a14, a15, a16] : Array Value).setIfInBounds 10 b10 = #[b0, b1, b2, b3, b4, b5, b6, b7, b8, b9, b10, a11, a12, a13, a14, a15, a16] from rfl] at h10
  have h11 := heap_setCell_same _ _ 11 _ _ b11 h10
  rw [show (#[b0, b1, b2, b3, b4, b5, b6, b7, b8, b9, b10, a11, a12, a13, a14, a15, a16] : Array Value).setIfInBounds 11 b11 = #[b0, b1, b2, b3, b4, b5, b6, b7, b8, b9, b10, b11, a12, a13, a14, a15, a16] from rfl] at h11
  have h12 := heap_setCell_same _ _ 12 _ _ b12 h11
  rw [show (#[b0, b1, b2, b3, b4, b5, b6, b7, b8, b9, b10, b11, a12, a13, a14, a15, a16] : Array Value).setIfInBounds 12 b12 = #[b0, b1, b2, b3, b4, b5, b6, b7, b8, b9, b10, b11, b12, a13, a14, a15, a16] from rfl] at h12
  have h13 := heap_setCell_same _ _ 13 _ _ b13 h12
  rw [show (#[b0, b1, b2, b3, b4, b5, b6, b7, b8, b9, b10, b11, b12, a13, a14, a15, a16] : Array Value).setIfInBounds 13 b13 = #[b0, b1, b2, b3, b4, b5, b6, b7, b8, b9, b10, b11, b12, b13, a14, a15, a16] from rfl] at h13
  have h14 := heap_setCell_same _ _ 14 _ _ b14 h13
  rw [show (#[b0, b1, b2, b3, b4, b5, b6, b7, b8, b9, b10, b11, b12, b13, a14, a15, a16] : Array Value).setIfInBounds 14 b14 = #[b0, b1, b2, b3, b4, b5, b6, b7, b8, b9, b10, b11, b12, b13, b14, a15, a16] from rfl] at h14
  have h15 := heap_setCell_same _ _ 15 _ _ b15 h14
  rw [show (#[b0, b1, b2, b3, b4, b5, b6, b7, b8, b9, b10, b11, b12, b13, b14, a15, a16] : Array Value).setIfInBounds 15 b15 = #[b0, b1, b2, b3, b4, b5, b6, b7, b8, b9, b10, b11, b12, b13, b14, b15, a16] from rfl] at h15
  have h16 := heap_setCell_same _ _ 16 _ _ b16 h15
  rw [show (#[b0, b1, b2, b3, b4, b5, b6, b7, b8, b9, b10, b11, b12, b13, b14, b15, a16] : Array Value).setIfInBounds 16 b16 = #[b0, b1, b2, b3, b4, b5, b6, b7, b8, b9, b10, b11, b12, b13, b14, b15, b16] from rfl] at h16
  exact h16
theorem set17_ext {w0 w : World} {b : Nat} {b0 b1 b2 b3 b4 b5 b6 b7 b8 b9 b10 b11 b12 b13 b14 b15 b16 : Value} (h : Ext w0 w) (hb : w0.heap.size ≤ b) : Ext w0 (((((((((((((((((w.setCell ⟨b, 0, none⟩ b0).setCell ⟨b, 1, none⟩ b1).setCell ⟨b, 2, none⟩ b2).setCell ⟨b, 3, none⟩ b3).setCell ⟨b, 4, none⟩ b4).setCell ⟨b, 5, none⟩ b5).setCell ⟨b, 6, none⟩ b6).setCell ⟨b, 7, none⟩ b7).setCell ⟨b, 8, none⟩ b8).setCell ⟨b, 9, none⟩ b9).setCell ⟨b, 10, none⟩ b10).setCell ⟨b, 11, none⟩ b11).setCell ⟨b, 12, none⟩ b12).setCell ⟨b, 13, none⟩ b13).setCell ⟨b, 14, none⟩ b14).setCell ⟨b, 15, none⟩ b15).setCell ⟨b, 16, none⟩ b16) := by
  repeat (first | with_reducible exact h | with_reducible refine Ext.setCell ?_ hb _)
theorem drew_blk17 {w : World} {b : Nat} {o : Obj} (h : w.heap[b]? = some o) : w.drew.heap[b]? = some o := h
end
section

theorem rdec_ret (tm : Array Value) (W : World) (b : Nat) (v0 v1 v2 v3 v4 v5 v6 v7 v8 v9 v10 v11 v12 v13 v14 v15 v16 : Value) (er : Int) (ht : tm[2]? = some (.pointer (some ⟨b, 0, none⟩))) (h3 : tm[3]? = some (.int .i64 er)) (h : W.heap[b]? = some (.cells #[v0, v1, v2, v3, v4, v5, v6, v7, v8, v9, v10, v11, v12, v13, v14, v15, v16] 35 (0, 0))) :
    (results Try.f9 tm).run Try.prog W = .ok (.tuple #[.agg #[v0, v1, v2, v3, v4, v5, v6, v7, v8, v9, v10, v11, v12, v13, v14, v15, v16], .int .i64 er]) W := by
  obtain ⟨c0, _⟩ := blkG h 0 _ rfl
  obtain ⟨c1, _⟩ := blkG h 1 _ rfl
  obtain ⟨c2, _⟩ := blkG h 2 _ rfl
  obtain ⟨c3, _⟩ := blkG h 3 _ rfl
  obtain ⟨c4, _⟩ := blkG h 4 _ rfl
  obtain ⟨c5, _⟩ := blkG h 5 _ rfl
  obtain ⟨c6, _⟩ := blkG h 6 _ rfl
  obtain ⟨c7, _⟩ := blkG h 7 _ rfl
  obtain ⟨c8, _⟩ := blkG h 8 _ rfl
  obtain ⟨c9, _⟩ := blkG h 9 _ rfl
  obtain ⟨c10, _⟩ := blkG h 10 _ rfl
  obtain ⟨c11, _⟩ := blkG h 11 _ rfl
  obtain ⟨c12, _⟩ := blkG h 12 _ rfl
  obtain ⟨c13, _⟩ := blkG h 13 _ rfl
  obtain ⟨c14, _⟩ := blkG h 14 _ rfl
  obtain ⟨c15, _⟩ := blkG h 15 _ rfl
  obtain ⟨c16, _⟩ := blkG h 16 _ rfl
  simp [results, Try.results9, go_sem, ht, h3, c0, c1, c2, c3, c4, c5, c6, c7, c8, c9, c10, c11, c12, c13, c14, c15, c16]
theorem rdx_at {B T : Nat} {w : World} {r : Nat} {bs : List UInt8} {s : RS} (h : RdX B T w r bs s) : w.cell? ⟨r, 1, none⟩ = some (.int .i64 (s.at_ : Int)) := by
  obtain ⟨a, cap, hr, _⟩ := h
  exact hr.c1
set_option maxHeartbeats 4000000 in
set_option maxRecDepth 100000 in
theorem rdec_err (s : ByteArray) (hs : s.size ≤ 140737488355328) (w : World) {n1 n2 : Int} {s1 s2 : RS} (e1 : rNum s.data.toList ⟨0, 0⟩ = (n1, s1)) (e2 : rNum s.data.toList s1 = (n2, s2)) (he : s2.err ≠ 0) : Calls Try.prog 9 #[.string s] w fun e w' => e = .returned (.tuple #[.agg #[.int .i64 0, .int .i64 0, .int .i64 0, .string ⟨#[]⟩, .int .i64 0, .string ⟨#[]⟩, .int .i64 0, .int .i64 0, .int .i64 0, .int .i64 0, .int .i64 0, .int .i64 0, .int .i64 0, .slice none 0 0, .string ⟨#[]⟩, .int .i64 0, .int .i64 0], .int .i64 s2.err]) ∧ Ext w w' := by
  obtain ⟨cap0, wb, hcv, hrb, hxb, hsb⟩ := conv_b (w.alloc (.cells #[.int .i64 0, .int .i64 0, .int .i64 0, .string ⟨#[]⟩, .int .i64 0, .string ⟨#[]⟩, .int .i64 0, .int .i64 0, .int .i64 0, .int .i64 0, .int .i64 0, .int .i64 0, .int .i64 0, .slice none 0 0, .string ⟨#[]⟩, .int .i64 0, .int .i64 0] 35)) s (by unfold maxLen; omega) (w.heap.size + 1) (by simp)
  have HRD := Lib.hid (qread_new _ s.data.toList wb hrb (Nat.le_trans (Nat.le_of_eq (bytesOf_len s)) hs))
  have E1 := Lib.hid e1
  have E2 := Lib.hid e2
  have HXB := Lib.hid hxb
  have hsz : wb.heap.size = w.heap.size + 2 := hsb
  have hsw : w.heap.size < wb.heap.size := by omega
  have HB0 := Lib.hid (new_blk w (.cells #[.int .i64 0, .int .i64 0, .int .i64 0, .string ⟨#[]⟩, .int .i64 0, .string ⟨#[]⟩, .int .i64 0, .int .i64 0, .int .i64 0, .int .i64 0, .int .i64 0, .int .i64 0, .int .i64 0, .slice none 0 0, .string ⟨#[]⟩, .int .i64 0, .int .i64 0] 35))
  have hu17 := Try.underlying35
  have hu15 := Try.underlying33
  have hi17 : (Try.prog.info? 35).map (·.size) = some 17 := by kernel_rfl
  have hi15 : (Try.prog.info? 33).map (·.size) = some 15 := by kernel_rfl
  have HU17 := Lib.hid hu17
  have HU15 := Lib.hid hu15
  have HI17 := Lib.hid hi17
  have HI15 := Lib.hid hi15
  clear hrb hxb hsb hsz e1 e2 hu17 hu15 hi17 hi15
  have hee : (s2.err != 0) = true := by simp [he]
  clear he
  go_enter Try.func9, Try.ntmps9
  go_wp2_with (first
    | (go_at_call 25; (with_reducible refine (qnx_x H2.out E2.out).mono ?_); rintro e y2 ⟨rfl, hr, hk⟩; have Px := keep_blk hk P2.out hpr; obtain ⟨p1, f1⟩ := blkG Px 1 (.int .i64 0) rfl; have P3 : Hid ((y2.setCell ⟨y1.heap.size, 1, none⟩ (.int .i64 n2)).heap[y1.heap.size]? = some (.cells #[.int .i64 n1, .int .i64 n2, .int .i64 0, .string ⟨#[]⟩, .int .i64 0, .string ⟨#[]⟩, .int .i64 0, .int .i64 0, .int .i64 0, .int .i64 0, .int .i64 0, .int .i64 0, .int .i64 0, .slice none 0 0, .string ⟨#[]⟩, .int .i64 0, .int .i64 0] 35 (0, 0))) := Lib.hid (heap_setCell_same _ _ 1 _ _ (.int .i64 n2) Px); have Zx := set_blk (i := 1) (u := .int .i64 n2) (keep_blk hk ZA2.out hzr) hzp; have ZA3 := Lib.hid Zx; have hR := hr.keep ((KeepR.refl y1.heap.size y2).set (o := 1) (.int .i64 n2)) (.inr hTy); have wr2 := rdx_wr hR; have wr1 := rdx_at hR; have wr2d := rdx_wr hr; have wr1d := rdx_at hr; have hrp : r ≠ y1.heap.size := Ne.symm hpr; have XA3 : Hid (Ext w (y2.setCell ⟨y1.heap.size, 1, none⟩ (.int .i64 n2))) := Lib.hid (Ext.setCell (Ext.keep XA2.out hk (Nat.le_of_lt hwr)) hzl _); obtain ⟨i0, j0⟩ := blkG Zx 0 (.int .i64 0) rfl; obtain ⟨i1, j1⟩ := blkG Zx 1 (.int .i64 0) rfl; obtain ⟨i2, j2⟩ := blkG Zx 2 (.int .i64 0) rfl; obtain ⟨i3, j3⟩ := blkG Zx 3 (.string ⟨#[]⟩) rfl; obtain ⟨i4, j4⟩ := blkG Zx 4 (.int .i64 0) rfl; obtain ⟨i5, j5⟩ := blkG Zx 5 (.string ⟨#[]⟩) rfl; obtain ⟨i6, j6⟩ := blkG Zx 6 (.int .i64 0) rfl; obtain ⟨i7, j7⟩ := blkG Zx 7 (.int .i64 0) rfl; obtain ⟨i8, j8⟩ := blkG Zx 8 (.int .i64 0) rfl; obtain ⟨i9, j9⟩ := blkG Zx 9 (.int .i64 0) rfl; obtain ⟨i10, j10⟩ := blkG Zx 10 (.int .i64 0) rfl; obtain ⟨i11, j11⟩ := blkG Zx 11 (.int .i64 0) rfl; obtain ⟨i12, j12⟩ := blkG Zx 12 (.int .i64 0) rfl; obtain ⟨i13, j13⟩ := blkG Zx 13 (.slice none 0 0) rfl; obtain ⟨i14, j14⟩ := blkG Zx 14 (.string ⟨#[]⟩) rfl; obtain ⟨i15, j15⟩ := blkG Zx 15 (.int .i64 0) rfl; obtain ⟨i16, j16⟩ := blkG Zx 16 (.int .i64 0) rfl; clear hr hk Px Zx hR)
    | (go_at_call 25; (with_reducible refine (qnx_x H1.out E1.out).mono ?_); rintro e y1 ⟨rfl, hr, hk⟩; have hTy : w1.heap.size ≤ y1.heap.size := hk.size; have Za := Lib.hid (keep_blk hk Z1.out hzr); have H2 := Lib.hid (hr.ext ((Ext.refl y1).alloc (.cells #[.int .i64 n1, .int .i64 0, .int .i64 0, .string ⟨#[]⟩, .int .i64 0, .string ⟨#[]⟩, .int .i64 0, .int .i64 0, .int .i64 0, .int .i64 0, .int .i64 0, .int .i64 0, .int .i64 0, .slice none 0 0, .string ⟨#[]⟩, .int .i64 0, .int .i64 0] 35))); have P2 := Lib.hid (new_blk y1 (.cells #[.int .i64 n1, .int .i64 0, .int .i64 0, .string ⟨#[]⟩, .int .i64 0, .string ⟨#[]⟩, .int .i64 0, .int .i64 0, .int .i64 0, .int .i64 0, .int .i64 0, .int .i64 0, .int .i64 0, .slice none 0 0, .string ⟨#[]⟩, .int .i64 0, .int .i64 0] 35)); have ZA2 := Lib.hid (alloc_blk (o' := (.cells #[.int .i64 n1, .int .i64 0, .int .i64 0, .string ⟨#[]⟩, .int .i64 0, .string ⟨#[]⟩, .int .i64 0, .int .i64 0, .int .i64 0, .int .i64 0, .int .i64 0, .int .i64 0, .int .i64 0, .slice none 0 0, .string ⟨#[]⟩, .int .i64 0, .int .i64 0] 35)) Za.out); have Xa : Hid (Ext w y1) := Lib.hid (Ext.keep X1.out hk (Nat.le_of_lt hwr)); have XA2 : Hid (Ext w (y1.alloc (.cells #[.int .i64 n1, .int .i64 0, .int .i64 0, .string ⟨#[]⟩, .int .i64 0, .string ⟨#[]⟩, .int .i64 0, .int .i64 0, .int .i64 0, .int .i64 0, .int .i64 0, .int .i64 0, .int .i64 0, .slice none 0 0, .string ⟨#[]⟩, .int .i64 0, .int .i64 0] 35))) := Lib.hid (Ext.alloc Xa.out _); have hpr : y1.heap.size ≠ r := (by omega); have hzp : w.heap.size ≠ y1.heap.size := (by omega); have hzl : w.heap.size ≤ y1.heap.size := (by omega); clear hr hk)
    | (go_at_call 24; (with_reducible refine HRD.out.mono ?_); rintro e w1 ⟨r, rfl, hrd, hx⟩; have hT0 : RdX wb.heap.size w1.heap.size w1 r s.data.toList ⟨0, 0⟩ := hrd; have hwr : w.heap.size < r := Nat.lt_of_lt_of_le hsw hT0.r_in.1; have hrT : r < w1.heap.size := hT0.r_in.2.1; have Z1 := Lib.hid (ext_blk hx (ext_blk HXB.out HB0.out)); have X1 : Hid (Ext w w1) := Lib.hid (Ext.trans ((Ext.refl w).alloc _) (HXB.out.trans hx)); have H1 := Lib.hid hT0; have hzr : w.heap.size ≠ r := Nat.ne_of_lt hwr; clear hrd hx hT0))
  go_region
  go_wp2
  exact bodyPost_ret (v := .tuple #[.agg #[.int .i64 0, .int .i64 0, .int .i64 0, .string ⟨#[]⟩, .int .i64 0, .string ⟨#[]⟩, .int .i64 0, .int .i64 0, .int .i64 0, .int .i64 0, .int .i64 0, .int .i64 0, .int .i64 0, .slice none 0 0, .string ⟨#[]⟩, .int .i64 0, .int .i64 0], .int .i64 s2.err]) (rdec_ret _ _ w.heap.size _ _ _ _ _ _ _ _ _ _ _ _ _ _ _ _ _ _ rfl rfl (drew_blk17 (set17_blk ZA3.out))) rfl ⟨rfl, Ext.drew (set17_ext XA3.out (Nat.le_refl _))⟩
set_option maxHeartbeats 4000000 in
set_option maxRecDepth 100000 in
theorem rdec_bad (s : ByteArray) (hs : s.size ≤ 140737488355328) (w : World) {n1 n2 : Int} {s1 s2 : RS} (e1 : rNum s.data.toList ⟨0, 0⟩ = (n1, s1)) (e2 : rNum s.data.toList s1 = (n2, s2)) (he : s2.err = 0) (hat : s2.at_ ≤ s.size) (t2 : ByteArray) (hext : s.extract s2.at_ s.size = t2) (L2 : List UInt8) (hL2 : t2.data.toList = L2) (hLl : L2.length ≤ 140737488355328) (hE : cgE L2 ≠ 0) : Calls Try.prog 9 #[.string s] w fun e w' => e = .returned (.tuple #[.agg #[.int .i64 0, .int .i64 0, .int .i64 0, .string ⟨#[]⟩, .int .i64 0, .string ⟨#[]⟩, .int .i64 0, .int .i64 0, .int .i64 0, .int .i64 0, .int .i64 0, .int .i64 0, .int .i64 0, .slice none 0 0, .string ⟨#[]⟩, .int .i64 0, .int .i64 0], .int .i64 (cgE L2)]) ∧ Ext w w' := by
  have hg : ∀ (v : Value) (z : World) (hr : Rd8 z v L2), Calls Try.prog 26 #[v] z fun e w' => e = .returned (.tuple #[Cm.z.agg (.slice none 0 0), .int .i64 (cgE L2)]) ∧ Ext z w' := fun v z hr => (rget_any hr hLl).mono (by
    rintro e w' (⟨_, h⟩ | ⟨h, _⟩)
    · exact h
    · exact absurd h hE)
  have hnn : (cgE L2 != 0) = true := by simp [hE]
  simp only [Cm.agg, Cm.z] at hg
  have HG := Lib.hid hg
  clear hg hE
  obtain ⟨cap0, wb, hcv, hrb, hxb, hsb⟩ := conv_b (w.alloc (.cells #[.int .i64 0, .int .i64 0, .int .i64 0, .string ⟨#[]⟩, .int .i64 0, .string ⟨#[]⟩, .int .i64 0, .int .i64 0, .int .i64 0, .int .i64 0, .int .i64 0, .int .i64 0, .int .i64 0, .slice none 0 0, .string ⟨#[]⟩, .int .i64 0, .int .i64 0] 35)) s (by unfold maxLen; omega) (w.heap.size + 1) (by simp)
  have HRD := Lib.hid (qread_new _ s.data.toList wb hrb (Nat.le_trans (Nat.le_of_eq (bytesOf_len s)) hs))
  have E1 := Lib.hid e1
  have E2 := Lib.hid e2
  have HXB := Lib.hid hxb
  have hsz : wb.heap.size = w.heap.size + 2 := hsb
  have hsw : w.heap.size < wb.heap.size := by omega
  have HB0 := Lib.hid (new_blk w (.cells #[.int .i64 0, .int .i64 0, .int .i64 0, .string ⟨#[]⟩, .int .i64 0, .string ⟨#[]⟩, .int .i64 0, .int .i64 0, .int .i64 0, .int .i64 0, .int .i64 0, .int .i64 0, .int .i64 0, .slice none 0 0, .string ⟨#[]⟩, .int .i64 0, .int .i64 0] 35))
  have hu17 := Try.underlying35
  have hu15 := Try.underlying33
  have hi17 : (Try.prog.info? 35).map (·.size) = some 17 := by kernel_rfl
  have hi15 : (Try.prog.info? 33).map (·.size) = some 15 := by kernel_rfl
  have HU17 := Lib.hid hu17
  have HU15 := Lib.hid hu15
  have HI17 := Lib.hid hi17
  have HI15 := Lib.hid hi15
  clear hrb hxb hsb hsz e1 e2 hu17 hu15 hi17 hi15
  have hat0 : (0 : Int) ≤ (s2.at_ : Int) := by omega
  have hat1 : (s2.at_ : Int) ≤ (s.size : Int) := by omega
  have hee : (s2.err != 0) = false := by simp [he]
  have HT2 := Lib.hid hL2
  have HT2S : Hid (t2.size ≤ maxLen) := Lib.hid (by rw [← hext, ByteArray.size_extract]; unfold maxLen; omega)
  clear he hL2
  go_enter Try.func9, Try.ntmps9
  go_wp2_with (first
    | (refine wpList_store_blk (by rfl) 35 _ _ (by rfl) w.heap.size 0 #[.int .i64 0, .int .i64 0, .int .i64 0, .string ⟨#[]⟩, .int .i64 0, .string ⟨#[]⟩, .int .i64 0, .int .i64 0, .int .i64 0, .int .i64 0, .int .i64 0, .int .i64 0, .int .i64 0, .slice none 0 0, .string ⟨#[]⟩, .int .i64 0, .int .i64 0] (by rfl) (by rfl) Z5.out 17 (by rfl) (by decide) HI17.out (by rfl) #[.int .i64 0, .int .i64 0, .int .i64 0, .string ⟨#[]⟩, .int .i64 0, .string ⟨#[]⟩, .int .i64 0, .int .i64 0, .int .i64 0, .int .i64 0, .int .i64 0, .int .i64 0, .int .i64 0, .slice none 0 0, .string ⟨#[]⟩, .int .i64 0, .int .i64 0] (by rfl) ?_; intro z hz hkz; have ZR := Lib.hid hz; have XR : Hid (Ext w z) := Lib.hid (Ext.keep X5.out hkz (Nat.le_refl _)); clear hz hkz)
    | (refine wpList_store_blk (by rfl) 33 _ _ (by rfl) x3.heap.size 0 #[.int .i64 0, .string ⟨#[]⟩, .int .i64 0, .string ⟨#[]⟩, .int .i64 0, .int .i64 0, .int .i64 0, .int .i64 0, .int .i64 0, .int .i64 0, .int .i64 0, .slice none 0 0, .string ⟨#[]⟩, .int .i64 0, .int .i64 0] (by rfl) (by rfl) D4.out 15 (by rfl) (by decide) HI15.out (by rfl) #[.int .i64 0, .string ⟨#[]⟩, .int .i64 0, .string ⟨#[]⟩, .int .i64 0, .int .i64 0, .int .i64 0, .int .i64 0, .int .i64 0, .int .i64 0, .int .i64 0, .slice none 0 0, .string ⟨#[]⟩, .int .i64 0, .int .i64 0] (by rfl) ?_; intro z5 hz hkz; have Z5 := Lib.hid (keep_blk hkz ZA4.out zne); have X5 : Hid (Ext w z5) := Lib.hid (Ext.keep XA4.out hkz wle); clear hz hkz)
    | (go_at_call 26; (with_reducible refine (HG.out _ _ HRB2.out).mono ?_); rintro e x3 ⟨rfl, hx⟩; have ZA4 := Lib.hid (alloc_blk (o' := (.cells #[.int .i64 0, .string ⟨#[]⟩, .int .i64 0, .string ⟨#[]⟩, .int .i64 0, .int .i64 0, .int .i64 0, .int .i64 0, .int .i64 0, .int .i64 0, .int .i64 0, .slice none 0 0, .string ⟨#[]⟩, .int .i64 0, .int .i64 0] 33)) (ext_blk hx (ext_blk HXB2.out ZA3.out))); have D4 := Lib.hid (new_blk x3 (.cells #[.int .i64 0, .string ⟨#[]⟩, .int .i64 0, .string ⟨#[]⟩, .int .i64 0, .int .i64 0, .int .i64 0, .int .i64 0, .int .i64 0, .int .i64 0, .int .i64 0, .slice none 0 0, .string ⟨#[]⟩, .int .i64 0, .int .i64 0] 33)); have zne : w.heap.size ≠ x3.heap.size := Nat.ne_of_lt (blk_lt (ext_blk hx (ext_blk HXB2.out ZA3.out))); have wle : w.heap.size ≤ x3.heap.size := Nat.le_of_lt (blk_lt (ext_blk hx (ext_blk HXB2.out ZA3.out))); have XA4 : Hid (Ext w (x3.alloc (.cells #[.int .i64 0, .string ⟨#[]⟩, .int .i64 0, .string ⟨#[]⟩, .int .i64 0, .int .i64 0, .int .i64 0, .int .i64 0, .int .i64 0, .int .i64 0, .int .i64 0, .slice none 0 0, .string ⟨#[]⟩, .int .i64 0, .int .i64 0] 33))) := Lib.hid (Ext.alloc (XA3.out.trans (HXB2.out.trans hx)) _); clear hx)
    | (go_at_call 25; (with_reducible refine (qnx_x H2.out E2.out).mono ?_); rintro e y2 ⟨rfl, hr, hk⟩; have Px := keep_blk hk P2.out hpr; obtain ⟨p1, f1⟩ := blkG Px 1 (.int .i64 0) rfl; have P3 : Hid ((y2.setCell ⟨y1.heap.size, 1, none⟩ (.int .i64 n2)).heap[y1.heap.size]? = some (.cells #[.int .i64 n1, .int .i64 n2, .int .i64 0, .string ⟨#[]⟩, .int .i64 0, .string ⟨#[]⟩, .int .i64 0, .int .i64 0, .int .i64 0, .int .i64 0, .int .i64 0, .int .i64 0, .int .i64 0, .slice none 0 0, .string ⟨#[]⟩, .int .i64 0, .int .i64 0] 35 (0, 0))) := Lib.hid (heap_setCell_same _ _ 1 _ _ (.int .i64 n2) Px); have Zx := set_blk (i := 1) (u := .int .i64 n2) (keep_blk hk ZA2.out hzr) hzp; have ZA3 := Lib.hid Zx; have hR := hr.keep ((KeepR.refl y1.heap.size y2).set (o := 1) (.int .i64 n2)) (.inr hTy); have wr2 := rdx_wr hR; have wr1 := rdx_at hR; have wr2d := rdx_wr hr; have wr1d := rdx_at hr; have hrp : r ≠ y1.heap.size := Ne.symm hpr; have XA3 : Hid (Ext w (y2.setCell ⟨y1.heap.size, 1, none⟩ (.int .i64 n2))) := Lib.hid (Ext.setCell (Ext.keep XA2.out hk (Nat.le_of_lt hwr)) hzl _); obtain ⟨cap2, wb2, hcv2, hrb2, hxb2, _⟩ := conv_b (y2.setCell ⟨y1.heap.size, 1, none⟩ (.int .i64 n2)) t2 HT2S.out y2.heap.size (by simp); rw [HT2.out] at hrb2; have HRB2 := Lib.hid hrb2; have HXB2 := Lib.hid hxb2; clear hrb2 hxb2; clear hr hk Px Zx hR)
    | (go_at_call 25; (with_reducible refine (qnx_x H1.out E1.out).mono ?_); rintro e y1 ⟨rfl, hr, hk⟩; have hTy : w1.heap.size ≤ y1.heap.size := hk.size; have Za := Lib.hid (keep_blk hk Z1.out hzr); have H2 := Lib.hid (hr.ext ((Ext.refl y1).alloc (.cells #[.int .i64 n1, .int .i64 0, .int .i64 0, .string ⟨#[]⟩, .int .i64 0, .string ⟨#[]⟩, .int .i64 0, .int .i64 0, .int .i64 0, .int .i64 0, .int .i64 0, .int .i64 0, .int .i64 0, .slice none 0 0, .string ⟨#[]⟩, .int .i64 0, .int .i64 0] 35))); have P2 := Lib.hid (new_blk y1 (.cells #[.int .i64 n1, .int .i64 0, .int .i64 0, .string ⟨#[]⟩, .int .i64 0, .string ⟨#[]⟩, .int .i64 0, .int .i64 0, .int .i64 0, .int .i64 0, .int .i64 0, .int .i64 0, .int .i64 0, .slice none 0 0, .string ⟨#[]⟩, .int .i64 0, .int .i64 0] 35)); have ZA2 := Lib.hid (alloc_blk (o' := (.cells #[.int .i64 n1, .int .i64 0, .int .i64 0, .string ⟨#[]⟩, .int .i64 0, .string ⟨#[]⟩, .int .i64 0, .int .i64 0, .int .i64 0, .int .i64 0, .int .i64 0, .int .i64 0, .int .i64 0, .slice none 0 0, .string ⟨#[]⟩, .int .i64 0, .int .i64 0] 35)) Za.out); have Xa : Hid (Ext w y1) := Lib.hid (Ext.keep X1.out hk (Nat.le_of_lt hwr)); have XA2 : Hid (Ext w (y1.alloc (.cells #[.int .i64 n1, .int .i64 0, .int .i64 0, .string ⟨#[]⟩, .int .i64 0, .string ⟨#[]⟩, .int .i64 0, .int .i64 0, .int .i64 0, .int .i64 0, .int .i64 0, .int .i64 0, .int .i64 0, .slice none 0 0, .string ⟨#[]⟩, .int .i64 0, .int .i64 0] 35))) := Lib.hid (Ext.alloc Xa.out _); have hpr : y1.heap.size ≠ r := (by omega); have hzp : w.heap.size ≠ y1.heap.size := (by omega); have hzl : w.heap.size ≤ y1.heap.size := (by omega); clear hr hk)
    | (go_at_call 24; (with_reducible refine HRD.out.mono ?_); rintro e w1 ⟨r, rfl, hrd, hx⟩; have hT0 : RdX wb.heap.size w1.heap.size w1 r s.data.toList ⟨0, 0⟩ := hrd; have hwr : w.heap.size < r := Nat.lt_of_lt_of_le hsw hT0.r_in.1; have hrT : r < w1.heap.size := hT0.r_in.2.1; have Z1 := Lib.hid (ext_blk hx (ext_blk HXB.out HB0.out)); have X1 : Hid (Ext w w1) := Lib.hid (Ext.trans ((Ext.refl w).alloc _) (HXB.out.trans hx)); have H1 := Lib.hid hT0; have hzr : w.heap.size ≠ r := Nat.ne_of_lt hwr; clear hrd hx hT0))
  exact bodyPost_ret (v := .tuple #[.agg #[.int .i64 0, .int .i64 0, .int .i64 0, .string ⟨#[]⟩, .int .i64 0, .string ⟨#[]⟩, .int .i64 0, .int .i64 0, .int .i64 0, .int .i64 0, .int .i64 0, .int .i64 0, .int .i64 0, .slice none 0 0, .string ⟨#[]⟩, .int .i64 0, .int .i64 0], .int .i64 (cgE L2)]) (rdec_ret _ _ w.heap.size _ _ _ _ _ _ _ _ _ _ _ _ _ _ _ _ _ _ rfl rfl ZR.out) rfl ⟨rfl, XR.out⟩
set_option maxHeartbeats 4000000 in
set_option maxRecDepth 100000 in
theorem rdec_good (s : ByteArray) (hs : s.size ≤ 140737488355328) (w : World) {n1 n2 : Int} {s1 s2 : RS} (e1 : rNum s.data.toList ⟨0, 0⟩ = (n1, s1)) (e2 : rNum s.data.toList s1 = (n2, s2)) (he : s2.err = 0) (hat : s2.at_ ≤ s.size) (t2 : ByteArray) (hext : s.extract s2.at_ s.size = t2) (L2 : List UInt8) (hL2 : t2.data.toList = L2) (hLl : L2.length ≤ 140737488355328) (hE : cgE L2 = 0) (c : Cm) (ls : List Ln) (n : Nat) (hc : (cgR L2).1 = c) (hls : (cgR L2).2.1 = ls) (hn : ls.length = n) : Calls Try.prog 9 #[.string s] w fun e w' => ∃ a' c', e = .returned (.tuple #[Cal.agg n1 n2 c (.slice a' n c'), .int .i64 0]) ∧ OwnS Ln.cells 4 107 w' w.heap.size (.slice a' n c') ls ∧ Ext w w' := by
  have hg : ∀ (v : Value) (z : World) (hr : Rd8 z v L2), Calls Try.prog 26 #[v] z fun e w' => ∃ a c', e = .returned (.tuple #[c.agg (.slice a n c'), .int .i64 0]) ∧ OwnS Ln.cells 4 107 w' z.heap.size (.slice a n c') ls ∧ Ext z w' := fun v z hr => (rget_any hr hLl).mono (by
    rintro e w' (⟨h, _⟩ | ⟨_, _, a, c', h1, h2, h3⟩)
    · exact absurd hE h
    · rw [hc, hls, hn] at h1
      rw [hls, hn] at h2
      exact ⟨a, c', h1, h2, h3⟩)
  clear hE hc hls hn
  obtain ⟨kd, ser, lim, cat, ry, rm, rd, bp, dy, dm, dd, ofs, ofn, ses⟩ := c
  simp only [Cm.agg] at hg
  have HG := Lib.hid hg
  clear hg
  unfold Cal.agg
  obtain ⟨cap0, wb, hcv, hrb, hxb, hsb⟩ := conv_b (w.alloc (.cells #[.int .i64 0, .int .i64 0, .int .i64 0, .string ⟨#[]⟩, .int .i64 0, .string ⟨#[]⟩, .int .i64 0, .int .i64 0, .int .i64 0, .int .i64 0, .int .i64 0, .int .i64 0, .int .i64 0, .slice none 0 0, .string ⟨#[]⟩, .int .i64 0, .int .i64 0] 35)) s (by unfold maxLen; omega) (w.heap.size + 1) (by simp)
  have HRD := Lib.hid (qread_new _ s.data.toList wb hrb (Nat.le_trans (Nat.le_of_eq (bytesOf_len s)) hs))
  have E1 := Lib.hid e1
  have E2 := Lib.hid e2
  have HXB := Lib.hid hxb
  have hsz : wb.heap.size = w.heap.size + 2 := hsb
  have hsw : w.heap.size < wb.heap.size := by omega
  have HB0 := Lib.hid (new_blk w (.cells #[.int .i64 0, .int .i64 0, .int .i64 0, .string ⟨#[]⟩, .int .i64 0, .string ⟨#[]⟩, .int .i64 0, .int .i64 0, .int .i64 0, .int .i64 0, .int .i64 0, .int .i64 0, .int .i64 0, .slice none 0 0, .string ⟨#[]⟩, .int .i64 0, .int .i64 0] 35))
  have hu17 := Try.underlying35
  have hu15 := Try.underlying33
  have hi17 : (Try.prog.info? 35).map (·.size) = some 17 := by kernel_rfl
  have hi15 : (Try.prog.info? 33).map (·.size) = some 15 := by kernel_rfl
  have HU17 := Lib.hid hu17
  have HU15 := Lib.hid hu15
  have HI17 := Lib.hid hi17
  have HI15 := Lib.hid hi15
  clear hrb hxb hsb hsz e1 e2 hu17 hu15 hi17 hi15
  have hat0 : (0 : Int) ≤ (s2.at_ : Int) := by omega
  have hat1 : (s2.at_ : Int) ≤ (s.size : Int) := by omega
  have hee : (s2.err != 0) = false := by simp [he]
  have HT2 := Lib.hid hL2
  have HT2S : Hid (t2.size ≤ maxLen) := Lib.hid (by rw [← hext, ByteArray.size_extract]; unfold maxLen; omega)
  clear he hL2
  go_enter Try.func9, Try.ntmps9
  go_wp2_with (first
    | (refine wpList_store_blk (by rfl) 35 _ _ (by rfl) w.heap.size 0 #[.int .i64 n1, .int .i64 n2, .int .i64 kd, .string ser, .int .i64 lim, .string cat, .int .i64 ry, .int .i64 rm, .int .i64 rd, .int .i64 bp, .int .i64 dy, .int .i64 dm, .int .i64 dd, .slice a9 n c9, .string ofs, .int .i64 ofn, .int .i64 ses] (by rfl) (by rfl) Z6.out 17 (by rfl) (by decide) HI17.out (by rfl) #[.int .i64 n1, .int .i64 n2, .int .i64 kd, .string ser, .int .i64 lim, .string cat, .int .i64 ry, .int .i64 rm, .int .i64 rd, .int .i64 bp, .int .i64 dy, .int .i64 dm, .int .i64 dd, .slice a9 n c9, .string ofs, .int .i64 ofn, .int .i64 ses] (by rfl) ?_; intro z7 hz hkz; have ZR := Lib.hid hz; have XR : Hid (Ext w z7) := Lib.hid (Ext.keep X6.out hkz (Nat.le_refl _)); have O7 := Lib.hid (own_keepE O6.out fun a m c' he => hkz.block _ (own_blkE O6.out a m c' he).1 (Nat.ne_of_gt (Nat.lt_of_lt_of_le OB0 (own_blkE O6.out a m c' he).2))); clear hz hkz)
    | (refine wpList_load_blk (by rfl) 35 _ (by rfl) y1.heap.size 0 (by rfl) P6.out [.int .i64 n1, .int .i64 n2, .int .i64 kd, .string ser, .int .i64 lim, .string cat, .int .i64 ry, .int .i64 rm, .int .i64 rd, .int .i64 bp, .int .i64 dy, .int .i64 dm, .int .i64 dd, .slice a9 n c9, .string ofs, .int .i64 ofn, .int .i64 ses] 17 (by rfl) (by rfl) _ HU17.out (by rfl) HI17.out ?_)
    | (refine wpList_store_blk (by rfl) 33 _ _ (by rfl) y1.heap.size 2 #[.int .i64 kd, .string ser, .int .i64 lim, .string cat, .int .i64 ry, .int .i64 rm, .int .i64 rd, .int .i64 bp, .int .i64 dy, .int .i64 dm, .int .i64 dd, .slice a9 n c9, .string ofs, .int .i64 ofn, .int .i64 ses] (by rfl) (by rfl) P5.out 15 (by rfl) (by exact Nat.le_refl 17) HI15.out (by rfl) #[.int .i64 n1, .int .i64 n2, .int .i64 kd, .string ser, .int .i64 lim, .string cat, .int .i64 ry, .int .i64 rm, .int .i64 rd, .int .i64 bp, .int .i64 dy, .int .i64 dm, .int .i64 dd, .slice a9 n c9, .string ofs, .int .i64 ofn, .int .i64 ses] (by rfl) ?_; intro z6 hz hkz; have P6 := Lib.hid hz; have Z6 := Lib.hid (keep_blk hkz Z5.out hzp); have X6 : Hid (Ext w z6) := Lib.hid (Ext.keep X5.out hkz hzl); have O6 := Lib.hid (own_keepE O5.out fun a m c' he => hkz.block _ (own_blkE O5.out a m c' he).1 (Nat.ne_of_gt (Nat.lt_of_lt_of_le OB1 (own_blkE O5.out a m c' he).2))); clear hz hkz)
    | (refine wpList_load_blk (by rfl) 33 _ (by rfl) x4.heap.size 0 (by rfl) D5.out [.int .i64 kd, .string ser, .int .i64 lim, .string cat, .int .i64 ry, .int .i64 rm, .int .i64 rd, .int .i64 bp, .int .i64 dy, .int .i64 dm, .int .i64 dd, .slice a9 n c9, .string ofs, .int .i64 ofn, .int .i64 ses] 15 (by rfl) (by rfl) _ HU15.out (by rfl) HI15.out ?_)
    | (refine wpList_store_blk (by rfl) 33 _ _ (by rfl) x4.heap.size 0 #[.int .i64 kd, .string ser, .int .i64 lim, .string cat, .int .i64 ry, .int .i64 rm, .int .i64 rd, .int .i64 bp, .int .i64 dy, .int .i64 dm, .int .i64 dd, .slice a9 n c9, .string ofs, .int .i64 ofn, .int .i64 ses] (by rfl) (by rfl) D4.out 15 (by rfl) (by decide) HI15.out (by rfl) #[.int .i64 kd, .string ser, .int .i64 lim, .string cat, .int .i64 ry, .int .i64 rm, .int .i64 rd, .int .i64 bp, .int .i64 dy, .int .i64 dm, .int .i64 dd, .slice a9 n c9, .string ofs, .int .i64 ofn, .int .i64 ses] (by rfl) ?_; intro z5 hz hkz; have D5 := Lib.hid hz; have P5 := Lib.hid (keep_blk hkz P4.out pne); have Z5 := Lib.hid (keep_blk hkz Z4.out zne); have X5 : Hid (Ext w z5) := Lib.hid (Ext.keep X4.out hkz wle); have O5 := Lib.hid (own_keepE O4.out fun a m c' he => hkz.block _ (own_blkE O4.out a m c' he).1 (OL.out a m c' he)); clear hz hkz)
    | (go_at_call 26; (with_reducible refine (HG.out _ _ HRB2.out).mono ?_); rintro e x4 ⟨a9, c9, rfl, ho, hx⟩; have Z3x := ext_blk hx (ext_blk HXB2.out ZA3.out); have P3x := ext_blk hx (ext_blk HXB2.out P3.out); have Z4 := Lib.hid (alloc_blk (o' := (.cells #[.int .i64 0, .string ⟨#[]⟩, .int .i64 0, .string ⟨#[]⟩, .int .i64 0, .int .i64 0, .int .i64 0, .int .i64 0, .int .i64 0, .int .i64 0, .int .i64 0, .slice none 0 0, .string ⟨#[]⟩, .int .i64 0, .int .i64 0] 33)) Z3x); have P4 := Lib.hid (alloc_blk (o' := (.cells #[.int .i64 0, .string ⟨#[]⟩, .int .i64 0, .string ⟨#[]⟩, .int .i64 0, .int .i64 0, .int .i64 0, .int .i64 0, .int .i64 0, .int .i64 0, .int .i64 0, .slice none 0 0, .string ⟨#[]⟩, .int .i64 0, .int .i64 0] 33)) P3x); have D4 := Lib.hid (new_blk x4 (.cells #[.int .i64 0, .string ⟨#[]⟩, .int .i64 0, .string ⟨#[]⟩, .int .i64 0, .int .i64 0, .int .i64 0, .int .i64 0, .int .i64 0, .int .i64 0, .int .i64 0, .slice none 0 0, .string ⟨#[]⟩, .int .i64 0, .int .i64 0] 33)); have X4 : Hid (Ext w (x4.alloc (.cells #[.int .i64 0, .string ⟨#[]⟩, .int .i64 0, .string ⟨#[]⟩, .int .i64 0, .int .i64 0, .int .i64 0, .int .i64 0, .int .i64 0, .int .i64 0, .int .i64 0, .slice none 0 0, .string ⟨#[]⟩, .int .i64 0, .int .i64 0] 33))) := Lib.hid (Ext.alloc (XA3.out.trans (HXB2.out.trans hx)) _); have O4 := Lib.hid (OwnS.ext ho ((Ext.refl x4).alloc (.cells #[.int .i64 0, .string ⟨#[]⟩, .int .i64 0, .string ⟨#[]⟩, .int .i64 0, .int .i64 0, .int .i64 0, .int .i64 0, .int .i64 0, .int .i64 0, .int .i64 0, .slice none 0 0, .string ⟨#[]⟩, .int .i64 0, .int .i64 0] 33))); have ol := fun a m c' he => Nat.ne_of_lt (own_blkE ho a m c' he).1; have OL := Lib.hid ol; have pne : y1.heap.size ≠ x4.heap.size := Nat.ne_of_lt (blk_lt P3x); have zne : w.heap.size ≠ x4.heap.size := Nat.ne_of_lt (blk_lt Z3x); have wle : w.heap.size ≤ x4.heap.size := Nat.le_of_lt (blk_lt Z3x); have OB1 : y1.heap.size < wb2.heap.size := blk_lt (ext_blk HXB2.out P3.out); have OB0 : w.heap.size < wb2.heap.size := blk_lt (ext_blk HXB2.out ZA3.out); clear ho hx ol Z3x P3x)
    | (go_at_call 25; (with_reducible refine (qnx_x H2.out E2.out).mono ?_); rintro e y2 ⟨rfl, hr, hk⟩; have Px := keep_blk hk P2.out hpr; obtain ⟨p1, f1⟩ := blkG Px 1 (.int .i64 0) rfl; have P3 : Hid ((y2.setCell ⟨y1.heap.size, 1, none⟩ (.int .i64 n2)).heap[y1.heap.size]? = some (.cells #[.int .i64 n1, .int .i64 n2, .int .i64 0, .string ⟨#[]⟩, .int .i64 0, .string ⟨#[]⟩, .int .i64 0, .int .i64 0, .int .i64 0, .int .i64 0, .int .i64 0, .int .i64 0, .int .i64 0, .slice none 0 0, .string ⟨#[]⟩, .int .i64 0, .int .i64 0] 35 (0, 0))) := Lib.hid (heap_setCell_same _ _ 1 _ _ (.int .i64 n2) Px); have Zx := set_blk (i := 1) (u := .int .i64 n2) (keep_blk hk ZA2.out hzr) hzp; have ZA3 := Lib.hid Zx; have hR := hr.keep ((KeepR.refl y1.heap.size y2).set (o := 1) (.int .i64 n2)) (.inr hTy); have wr2 := rdx_wr hR; have wr1 := rdx_at hR; have wr2d := rdx_wr hr; have wr1d := rdx_at hr; have hrp : r ≠ y1.heap.size := Ne.symm hpr; have XA3 : Hid (Ext w (y2.setCell ⟨y1.heap.size, 1, none⟩ (.int .i64 n2))) := Lib.hid (Ext.setCell (Ext.keep XA2.out hk (Nat.le_of_lt hwr)) hzl _); obtain ⟨cap2, wb2, hcv2, hrb2, hxb2, _⟩ := conv_b (y2.setCell ⟨y1.heap.size, 1, none⟩ (.int .i64 n2)) t2 HT2S.out y2.heap.size (by simp); rw [HT2.out] at hrb2; have HRB2 := Lib.hid hrb2; have HXB2 := Lib.hid hxb2; clear hrb2 hxb2; clear hr hk Px Zx hR)
    | (go_at_call 25; (with_reducible refine (qnx_x H1.out E1.out).mono ?_); rintro e y1 ⟨rfl, hr, hk⟩; have hTy : w1.heap.size ≤ y1.heap.size := hk.size; have Za := Lib.hid (keep_blk hk Z1.out hzr); have H2 := Lib.hid (hr.ext ((Ext.refl y1).alloc (.cells #[.int .i64 n1, .int .i64 0, .int .i64 0, .string ⟨#[]⟩, .int .i64 0, .string ⟨#[]⟩, .int .i64 0, .int .i64 0, .int .i64 0, .int .i64 0, .int .i64 0, .int .i64 0, .int .i64 0, .slice none 0 0, .string ⟨#[]⟩, .int .i64 0, .int .i64 0] 35))); have P2 := Lib.hid (new_blk y1 (.cells #[.int .i64 n1, .int .i64 0, .int .i64 0, .string ⟨#[]⟩, .int .i64 0, .string ⟨#[]⟩, .int .i64 0, .int .i64 0, .int .i64 0, .int .i64 0, .int .i64 0, .int .i64 0, .int .i64 0, .slice none 0 0, .string ⟨#[]⟩, .int .i64 0, .int .i64 0] 35)); have ZA2 := Lib.hid (alloc_blk (o' := (.cells #[.int .i64 n1, .int .i64 0, .int .i64 0, .string ⟨#[]⟩, .int .i64 0, .string ⟨#[]⟩, .int .i64 0, .int .i64 0, .int .i64 0, .int .i64 0, .int .i64 0, .int .i64 0, .int .i64 0, .slice none 0 0, .string ⟨#[]⟩, .int .i64 0, .int .i64 0] 35)) Za.out); have Xa : Hid (Ext w y1) := Lib.hid (Ext.keep X1.out hk (Nat.le_of_lt hwr)); have XA2 : Hid (Ext w (y1.alloc (.cells #[.int .i64 n1, .int .i64 0, .int .i64 0, .string ⟨#[]⟩, .int .i64 0, .string ⟨#[]⟩, .int .i64 0, .int .i64 0, .int .i64 0, .int .i64 0, .int .i64 0, .int .i64 0, .int .i64 0, .slice none 0 0, .string ⟨#[]⟩, .int .i64 0, .int .i64 0] 35))) := Lib.hid (Ext.alloc Xa.out _); have hpr : y1.heap.size ≠ r := (by omega); have hzp : w.heap.size ≠ y1.heap.size := (by omega); have hzl : w.heap.size ≤ y1.heap.size := (by omega); clear hr hk)
    | (go_at_call 24; (with_reducible refine HRD.out.mono ?_); rintro e w1 ⟨r, rfl, hrd, hx⟩; have hT0 : RdX wb.heap.size w1.heap.size w1 r s.data.toList ⟨0, 0⟩ := hrd; have hwr : w.heap.size < r := Nat.lt_of_lt_of_le hsw hT0.r_in.1; have hrT : r < w1.heap.size := hT0.r_in.2.1; have Z1 := Lib.hid (ext_blk hx (ext_blk HXB.out HB0.out)); have X1 : Hid (Ext w w1) := Lib.hid (Ext.trans ((Ext.refl w).alloc _) (HXB.out.trans hx)); have H1 := Lib.hid hT0; have hzr : w.heap.size ≠ r := Nat.ne_of_lt hwr; clear hrd hx hT0))
  refine bodyPost_ret (v := .tuple #[.agg #[.int .i64 n1, .int .i64 n2, .int .i64 kd, .string ser, .int .i64 lim, .string cat, .int .i64 ry, .int .i64 rm, .int .i64 rd, .int .i64 bp, .int .i64 dy, .int .i64 dm, .int .i64 dd, .slice a9 n c9, .string ofs, .int .i64 ofn, .int .i64 ses], .int .i64 0]) (rdec_ret _ _ w.heap.size _ _ _ _ _ _ _ _ _ _ _ _ _ _ _ _ _ _ rfl rfl ZR.out) rfl ⟨a9, c9, rfl, OwnS.base O7.out (Nat.le_of_lt OB0), XR.out⟩
/-- What both make of a text. -/
def DGet (w : World) (bs : List UInt8) (e : Ending) (w' : World) : Prop :=
  (dcE bs ≠ 0 ∧ e = .returned (.tuple #[Cal.agg 0 0 Cm.z (.slice none 0 0), .int .i64 (dcE bs)]) ∧ Ext w w') ∨
  (dcE bs = 0 ∧ ∃ a c, e = .returned (.tuple #[Cal.agg (dcS1 bs).1 (dcS2 bs).1 (cgR (dcRest bs)).1 (.slice a (cgR (dcRest bs)).2.1.length c), .int .i64 0]) ∧ OwnS Ln.cells 4 107 w' w.heap.size (.slice a (cgR (dcRest bs)).2.1.length c) (cgR (dcRest bs)).2.1 ∧ Ext w w')
theorem extract_list (s : ByteArray) (k : Nat) : (s.extract k s.size).data.toList = s.data.toList.drop k := by
  rw [ByteArray.data_extract, Array.toList_extract]
  refine (List.extract_eq_take_drop ..).trans (List.take_of_length_le ?_)
  rw [List.length_drop, Array.length_toList]
  exact Nat.le_refl _
theorem rNum_at_le (bs : List UInt8) (s : RS) (h : s.at_ ≤ bs.length) : (rNum bs s).2.at_ ≤ bs.length := rNum_ok bs s h
theorem dec_any (s : ByteArray) (hs : s.size ≤ 140737488355328) (w : World) : Calls Try.prog 7 #[.string s] w (DGet w s.data.toList) := by
  obtain ⟨n1, s1, e1⟩ : ∃ n t, rNum s.data.toList ⟨0, 0⟩ = (n, t) := ⟨_, _, rfl⟩
  obtain ⟨n2, s2, e2⟩ : ∃ n t, rNum s.data.toList s1 = (n, t) := ⟨_, _, rfl⟩
  have d1 : dcS1 s.data.toList = (n1, s1) := e1
  have d2 : dcS2 s.data.toList = (n2, s2) := by unfold dcS2; rw [d1]; exact e2
  have hlen : s.data.toList.length = s.size := bytesOf_len s
  have hat : s2.at_ ≤ s.size := by
    have h1 := rNum_at_le s.data.toList ⟨0, 0⟩ (Nat.zero_le _)
    rw [e1] at h1
    have h2 := rNum_at_le s.data.toList s1 h1
    rw [e2, hlen] at h2
    exact h2
  by_cases he : s2.err = 0
  · have hr : dcRest s.data.toList = s.data.toList.drop s2.at_ := by unfold dcRest; rw [d2]
    have hE : dcE s.data.toList = cgE (s.data.toList.drop s2.at_) := by unfold dcE; rw [d2, if_neg (by simp [he]), hr]
    have hll : (s.data.toList.drop s2.at_).length ≤ 140737488355328 := by rw [List.length_drop, hlen]; omega
    by_cases h0 : cgE (s.data.toList.drop s2.at_) = 0
    · refine (dec_good s hs w e1 e2 he hat _ rfl _ (extract_list s s2.at_) hll h0 _ _ _ rfl rfl rfl).mono fun e w' h => .inr ?_
      rw [d1, d2, hr, hE]
      exact ⟨h0, h⟩
    · refine (dec_bad s hs w e1 e2 he hat _ rfl _ (extract_list s s2.at_) hll h0).mono fun e w' h => .inl ?_
      rw [hE]
      exact ⟨h0, h⟩
  · have hE : dcE s.data.toList = s2.err := by unfold dcE; rw [d2, if_pos he]
    refine (dec_err s hs w e1 e2 he).mono fun e w' h => .inl ?_
    rw [hE]
    exact ⟨he, h⟩
theorem rdec_any (s : ByteArray) (hs : s.size ≤ 140737488355328) (w : World) : Calls Try.prog 9 #[.string s] w (DGet w s.data.toList) := by
  obtain ⟨n1, s1, e1⟩ : ∃ n t, rNum s.data.toList ⟨0, 0⟩ = (n, t) := ⟨_, _, rfl⟩
  obtain ⟨n2, s2, e2⟩ : ∃ n t, rNum s.data.toList s1 = (n, t) := ⟨_, _, rfl⟩
  have d1 : dcS1 s.data.toList = (n1, s1) := e1
  have d2 : dcS2 s.data.toList = (n2, s2) := by unfold dcS2; rw [d1]; exact e2
  have hlen : s.data.toList.length = s.size := bytesOf_len s
  have hat : s2.at_ ≤ s.size := by
    have h1 := rNum_at_le s.data.toList ⟨0, 0⟩ (Nat.zero_le _)
    rw [e1] at h1
    have h2 := rNum_at_le s.data.toList s1 h1
    rw [e2, hlen] at h2
    exact h2
  by_cases he : s2.err = 0
  · have hr : dcRest s.data.toList = s.data.toList.drop s2.at_ := by unfold dcRest; rw [d2]
    have hE : dcE s.data.toList = cgE (s.data.toList.drop s2.at_) := by unfold dcE; rw [d2, if_neg (by simp [he]), hr]
    have hll : (s.data.toList.drop s2.at_).length ≤ 140737488355328 := by rw [List.length_drop, hlen]; omega
    by_cases h0 : cgE (s.data.toList.drop s2.at_) = 0
    · refine (rdec_good s hs w e1 e2 he hat _ rfl _ (extract_list s s2.at_) hll h0 _ _ _ rfl rfl rfl).mono fun e w' h => .inr ?_
      rw [d1, d2, hr, hE]
      exact ⟨h0, h⟩
    · refine (rdec_bad s hs w e1 e2 he hat _ rfl _ (extract_list s s2.at_) hll h0).mono fun e w' h => .inl ?_
      rw [hE]
      exact ⟨h0, h⟩
  · have hE : dcE s.data.toList = s2.err := by unfold dcE; rw [d2, if_pos he]
    refine (rdec_err s hs w e1 e2 he).mono fun e w' h => .inl ?_
    rw [hE]
    exact ⟨he, h⟩
end
end Go.Proofs.Ytochgmpcdmahkaa
