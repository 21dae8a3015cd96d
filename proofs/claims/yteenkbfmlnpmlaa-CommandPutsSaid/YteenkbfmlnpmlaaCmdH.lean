/- Package command: read: kinds but 4. (Written by genCmdG.py.) -/
import Derived.Test.YteenkbfmlnpmlaaCmdG
namespace Go.Proofs.Yteenkbfmlnpmlaa
open Go.RowKit

section
variable {B T r p : Nat} {bs : List UInt8} {w : World}
set_option maxHeartbeats 4000000 in
theorem read_1 {ser : ByteArray} {lim : Int} {s0 s1 s2 : RS} (e0 : tR bs s0 = (ser, s1)) (e1 : rNum bs s1 = (lim, s2)) (hc : w.heap[p]? = some (.cells #[.int .i64 1, .string ⟨#[]⟩, .int .i64 0, .string ⟨#[]⟩, .int .i64 0, .int .i64 0, .int .i64 0, .int .i64 0, .int .i64 0, .int .i64 0, .int .i64 0, .slice none 0 0, .string ⟨#[]⟩, .int .i64 0, .int .i64 0] 37 (0, 0))) (h : RdX B T w r bs s0) (hT : T ≤ p) : Calls Try.prog 37 #[.pointer (some ⟨r, 0, none⟩), .pointer (some ⟨p, 0, none⟩)] w fun e w' => e = .returned (.tuple #[]) ∧ CI w r p bs B T w' #[.int .i64 1, .string ser, .int .i64 lim, .string ⟨#[]⟩, .int .i64 0, .int .i64 0, .int .i64 0, .int .i64 0, .int .i64 0, .int .i64 0, .int .i64 0, .slice none 0 0, .string ⟨#[]⟩, .int .i64 0, .int .i64 0] s2 := by
  have hne : p ≠ r := by have := h.r_in; omega
  have H0 : Hid (CI w r p bs B T w #[.int .i64 1, .string ⟨#[]⟩, .int .i64 0, .string ⟨#[]⟩, .int .i64 0, .int .i64 0, .int .i64 0, .int .i64 0, .int .i64 0, .int .i64 0, .int .i64 0, .slice none 0 0, .string ⟨#[]⟩, .int .i64 0, .int .i64 0] s0) := Lib.hid ⟨h, hc, Keep2.refl _ _ _⟩
  obtain ⟨k0, k0'⟩ := blkG hc 0 _ rfl
  have E0 := Lib.hid e0
  have E1 := Lib.hid e1
  clear h hc e0 e1
  go_enter Try.func37, Try.ntmps37
  go_wp2_with (first
    | (go_at_call 35; (with_reducible refine (nx_x H1.out.rd E1.out).mono ?_); rintro e z2 ⟨rfl, hr, hk⟩; have Hx := H1.out.keep hr hk hne; obtain ⟨x1_0, y1_0⟩ := blkG Hx.cb 2 (.int .i64 0) rfl; have H2 : Hid (CI w r p bs B T (z2.setCell ⟨p, 2, none⟩ (.int .i64 lim)) #[.int .i64 1, .string ser, .int .i64 lim, .string ⟨#[]⟩, .int .i64 0, .int .i64 0, .int .i64 0, .int .i64 0, .int .i64 0, .int .i64 0, .int .i64 0, .slice none 0 0, .string ⟨#[]⟩, .int .i64 0, .int .i64 0] s2) := Lib.hid (Hx.set 2 (.int .i64 lim) hT (A' := #[.int .i64 1, .string ser, .int .i64 lim, .string ⟨#[]⟩, .int .i64 0, .int .i64 0, .int .i64 0, .int .i64 0, .int .i64 0, .int .i64 0, .int .i64 0, .slice none 0 0, .string ⟨#[]⟩, .int .i64 0, .int .i64 0]) rfl); clear hr hk Hx)
    | (go_at_call 56; (with_reducible refine (tx_x H0.out.rd E0.out).mono ?_); rintro e z1 ⟨rfl, hr, hk⟩; have Hx := H0.out.keep hr hk hne; obtain ⟨x0_0, y0_0⟩ := blkG Hx.cb 1 (.string ⟨#[]⟩) rfl; have H1 : Hid (CI w r p bs B T (z1.setCell ⟨p, 1, none⟩ (.string ser)) #[.int .i64 1, .string ser, .int .i64 0, .string ⟨#[]⟩, .int .i64 0, .int .i64 0, .int .i64 0, .int .i64 0, .int .i64 0, .int .i64 0, .int .i64 0, .slice none 0 0, .string ⟨#[]⟩, .int .i64 0, .int .i64 0] s1) := Lib.hid (Hx.set 1 (.string ser) hT (A' := #[.int .i64 1, .string ser, .int .i64 0, .string ⟨#[]⟩, .int .i64 0, .int .i64 0, .int .i64 0, .int .i64 0, .int .i64 0, .int .i64 0, .int .i64 0, .slice none 0 0, .string ⟨#[]⟩, .int .i64 0, .int .i64 0]) rfl); clear hr hk Hx))
  go_end0
  exact ⟨rfl, H2.out⟩
set_option maxHeartbeats 4000000 in
theorem read_2 {ser : ByteArray} {s0 s1 : RS} (e0 : tR bs s0 = (ser, s1)) (hc : w.heap[p]? = some (.cells #[.int .i64 2, .string ⟨#[]⟩, .int .i64 0, .string ⟨#[]⟩, .int .i64 0, .int .i64 0, .int .i64 0, .int .i64 0, .int .i64 0, .int .i64 0, .int .i64 0, .slice none 0 0, .string ⟨#[]⟩, .int .i64 0, .int .i64 0] 37 (0, 0))) (h : RdX B T w r bs s0) (hT : T ≤ p) : Calls Try.prog 37 #[.pointer (some ⟨r, 0, none⟩), .pointer (some ⟨p, 0, none⟩)] w fun e w' => e = .returned (.tuple #[]) ∧ CI w r p bs B T w' #[.int .i64 2, .string ser, .int .i64 0, .string ⟨#[]⟩, .int .i64 0, .int .i64 0, .int .i64 0, .int .i64 0, .int .i64 0, .int .i64 0, .int .i64 0, .slice none 0 0, .string ⟨#[]⟩, .int .i64 0, .int .i64 0] s1 := by
  have hne : p ≠ r := by have := h.r_in; omega
  have H0 : Hid (CI w r p bs B T w #[.int .i64 2, .string ⟨#[]⟩, .int .i64 0, .string ⟨#[]⟩, .int .i64 0, .int .i64 0, .int .i64 0, .int .i64 0, .int .i64 0, .int .i64 0, .int .i64 0, .slice none 0 0, .string ⟨#[]⟩, .int .i64 0, .int .i64 0] s0) := Lib.hid ⟨h, hc, Keep2.refl _ _ _⟩
  obtain ⟨k0, k0'⟩ := blkG hc 0 _ rfl
  have E0 := Lib.hid e0
  clear h hc e0
  go_enter Try.func37, Try.ntmps37
  go_wp2_with (first
    | (go_at_call 56; (with_reducible refine (tx_x H0.out.rd E0.out).mono ?_); rintro e z1 ⟨rfl, hr, hk⟩; have Hx := H0.out.keep hr hk hne; obtain ⟨x0_0, y0_0⟩ := blkG Hx.cb 1 (.string ⟨#[]⟩) rfl; have H1 : Hid (CI w r p bs B T (z1.setCell ⟨p, 1, none⟩ (.string ser)) #[.int .i64 2, .string ser, .int .i64 0, .string ⟨#[]⟩, .int .i64 0, .int .i64 0, .int .i64 0, .int .i64 0, .int .i64 0, .int .i64 0, .int .i64 0, .slice none 0 0, .string ⟨#[]⟩, .int .i64 0, .int .i64 0] s1) := Lib.hid (Hx.set 1 (.string ser) hT (A' := #[.int .i64 2, .string ser, .int .i64 0, .string ⟨#[]⟩, .int .i64 0, .int .i64 0, .int .i64 0, .int .i64 0, .int .i64 0, .int .i64 0, .int .i64 0, .slice none 0 0, .string ⟨#[]⟩, .int .i64 0, .int .i64 0]) rfl); clear hr hk Hx))
  go_end0
  exact ⟨rfl, H1.out⟩
set_option maxHeartbeats 4000000 in
theorem read_3 {cat : ByteArray} {ry rm rd bp : Int} {s0 s1 s2 s3 : RS} (e0 : tR bs s0 = (cat, s1)) (e1 : dR bs s1 = ((ry, rm, rd), s2)) (e2 : rNum bs s2 = (bp, s3)) (hc : w.heap[p]? = some (.cells #[.int .i64 3, .string ⟨#[]⟩, .int .i64 0, .string ⟨#[]⟩, .int .i64 0, .int .i64 0, .int .i64 0, .int .i64 0, .int .i64 0, .int .i64 0, .int .i64 0, .slice none 0 0, .string ⟨#[]⟩, .int .i64 0, .int .i64 0] 37 (0, 0))) (h : RdX B T w r bs s0) (hT : T ≤ p) : Calls Try.prog 37 #[.pointer (some ⟨r, 0, none⟩), .pointer (some ⟨p, 0, none⟩)] w fun e w' => e = .returned (.tuple #[]) ∧ CI w r p bs B T w' #[.int .i64 3, .string ⟨#[]⟩, .int .i64 0, .string cat, .int .i64 ry, .int .i64 rm, .int .i64 rd, .int .i64 bp, .int .i64 0, .int .i64 0, .int .i64 0, .slice none 0 0, .string ⟨#[]⟩, .int .i64 0, .int .i64 0] s3 := by
  have hne : p ≠ r := by have := h.r_in; omega
  have H0 : Hid (CI w r p bs B T w #[.int .i64 3, .string ⟨#[]⟩, .int .i64 0, .string ⟨#[]⟩, .int .i64 0, .int .i64 0, .int .i64 0, .int .i64 0, .int .i64 0, .int .i64 0, .int .i64 0, .slice none 0 0, .string ⟨#[]⟩, .int .i64 0, .int .i64 0] s0) := Lib.hid ⟨h, hc, Keep2.refl _ _ _⟩
  obtain ⟨k0, k0'⟩ := blkG hc 0 _ rfl
  have E0 := Lib.hid e0
  have E1 := Lib.hid e1
  have E2 := Lib.hid e2
  clear h hc e0 e1 e2
  go_enter Try.func37, Try.ntmps37
  go_wp2_with (first
    | (go_at_call 35; (with_reducible refine (nx_x H2.out.rd E2.out).mono ?_); rintro e z3 ⟨rfl, hr, hk⟩; have Hx := H2.out.keep hr hk hne; obtain ⟨x2_0, y2_0⟩ := blkG Hx.cb 7 (.int .i64 0) rfl; have H3 : Hid (CI w r p bs B T (z3.setCell ⟨p, 7, none⟩ (.int .i64 bp)) #[.int .i64 3, .string ⟨#[]⟩, .int .i64 0, .string cat, .int .i64 ry, .int .i64 rm, .int .i64 rd, .int .i64 bp, .int .i64 0, .int .i64 0, .int .i64 0, .slice none 0 0, .string ⟨#[]⟩, .int .i64 0, .int .i64 0] s3) := Lib.hid (Hx.set 7 (.int .i64 bp) hT (A' := #[.int .i64 3, .string ⟨#[]⟩, .int .i64 0, .string cat, .int .i64 ry, .int .i64 rm, .int .i64 rd, .int .i64 bp, .int .i64 0, .int .i64 0, .int .i64 0, .slice none 0 0, .string ⟨#[]⟩, .int .i64 0, .int .i64 0]) rfl); clear hr hk Hx)
    | (go_at_call 57; (with_reducible refine (day_x H1.out.rd (Nat.le_of_lt (Nat.lt_of_le_of_lt hT (blk_lt H1.out.cb))) E1.out).mono ?_); rintro e z2 ⟨rfl, hr, hk⟩; have Hx := H1.out.keep hr hk hne; obtain ⟨x1_0, y1_0⟩ := blkG Hx.cb 4 (.int .i64 0) rfl; obtain ⟨x1_1, y1_1⟩ := blkG Hx.cb 5 (.int .i64 0) rfl; obtain ⟨x1_2, y1_2⟩ := blkG Hx.cb 6 (.int .i64 0) rfl; have H2 : Hid (CI w r p bs B T (((z2.setCell ⟨p, 4, none⟩ (.int .i64 ry)).setCell ⟨p, 5, none⟩ (.int .i64 rm)).setCell ⟨p, 6, none⟩ (.int .i64 rd)) #[.int .i64 3, .string ⟨#[]⟩, .int .i64 0, .string cat, .int .i64 ry, .int .i64 rm, .int .i64 rd, .int .i64 0, .int .i64 0, .int .i64 0, .int .i64 0, .slice none 0 0, .string ⟨#[]⟩, .int .i64 0, .int .i64 0] s2) := Lib.hid (((Hx.set 4 (.int .i64 ry) hT (A' := #[.int .i64 3, .string ⟨#[]⟩, .int .i64 0, .string cat, .int .i64 ry, .int .i64 0, .int .i64 0, .int .i64 0, .int .i64 0, .int .i64 0, .int .i64 0, .slice none 0 0, .string ⟨#[]⟩, .int .i64 0, .int .i64 0]) rfl).set 5 (.int .i64 rm) hT (A' := #[.int .i64 3, .string ⟨#[]⟩, .int .i64 0, .string cat, .int .i64 ry, .int .i64 rm, .int .i64 0, .int .i64 0, .int .i64 0, .int .i64 0, .int .i64 0, .slice none 0 0, .string ⟨#[]⟩, .int .i64 0, .int .i64 0]) rfl).set 6 (.int .i64 rd) hT (A' := #[.int .i64 3, .string ⟨#[]⟩, .int .i64 0, .string cat, .int .i64 ry, .int .i64 rm, .int .i64 rd, .int .i64 0, .int .i64 0, .int .i64 0, .int .i64 0, .slice none 0 0, .string ⟨#[]⟩, .int .i64 0, .int .i64 0]) rfl); clear hr hk Hx)
    | (go_at_call 56; (with_reducible refine (tx_x H0.out.rd E0.out).mono ?_); rintro e z1 ⟨rfl, hr, hk⟩; have Hx := H0.out.keep hr hk hne; obtain ⟨x0_0, y0_0⟩ := blkG Hx.cb 3 (.string ⟨#[]⟩) rfl; have H1 : Hid (CI w r p bs B T (z1.setCell ⟨p, 3, none⟩ (.string cat)) #[.int .i64 3, .string ⟨#[]⟩, .int .i64 0, .string cat, .int .i64 0, .int .i64 0, .int .i64 0, .int .i64 0, .int .i64 0, .int .i64 0, .int .i64 0, .slice none 0 0, .string ⟨#[]⟩, .int .i64 0, .int .i64 0] s1) := Lib.hid (Hx.set 3 (.string cat) hT (A' := #[.int .i64 3, .string ⟨#[]⟩, .int .i64 0, .string cat, .int .i64 0, .int .i64 0, .int .i64 0, .int .i64 0, .int .i64 0, .int .i64 0, .int .i64 0, .slice none 0 0, .string ⟨#[]⟩, .int .i64 0, .int .i64 0]) rfl); clear hr hk Hx))
  go_end0
  exact ⟨rfl, H3.out⟩
set_option maxHeartbeats 4000000 in
theorem read_5 {ser ofs : ByteArray} {dy dm dd ofn : Int} {s0 s1 s2 s3 s4 : RS} (e0 : tR bs s0 = (ser, s1)) (e1 : dR bs s1 = ((dy, dm, dd), s2)) (e2 : tR bs s2 = (ofs, s3)) (e3 : rNum bs s3 = (ofn, s4)) (hc : w.heap[p]? = some (.cells #[.int .i64 5, .string ⟨#[]⟩, .int .i64 0, .string ⟨#[]⟩, .int .i64 0, .int .i64 0, .int .i64 0, .int .i64 0, .int .i64 0, .int .i64 0, .int .i64 0, .slice none 0 0, .string ⟨#[]⟩, .int .i64 0, .int .i64 0] 37 (0, 0))) (h : RdX B T w r bs s0) (hT : T ≤ p) : Calls Try.prog 37 #[.pointer (some ⟨r, 0, none⟩), .pointer (some ⟨p, 0, none⟩)] w fun e w' => e = .returned (.tuple #[]) ∧ CI w r p bs B T w' #[.int .i64 5, .string ser, .int .i64 0, .string ⟨#[]⟩, .int .i64 0, .int .i64 0, .int .i64 0, .int .i64 0, .int .i64 dy, .int .i64 dm, .int .i64 dd, .slice none 0 0, .string ofs, .int .i64 ofn, .int .i64 0] s4 := by
  have hne : p ≠ r := by have := h.r_in; omega
  have H0 : Hid (CI w r p bs B T w #[.int .i64 5, .string ⟨#[]⟩, .int .i64 0, .string ⟨#[]⟩, .int .i64 0, .int .i64 0, .int .i64 0, .int .i64 0, .int .i64 0, .int .i64 0, .int .i64 0, .slice none 0 0, .string ⟨#[]⟩, .int .i64 0, .int .i64 0] s0) := Lib.hid ⟨h, hc, Keep2.refl _ _ _⟩
  obtain ⟨k0, k0'⟩ := blkG hc 0 _ rfl
  have E0 := Lib.hid e0
  have E1 := Lib.hid e1
  have E2 := Lib.hid e2
  have E3 := Lib.hid e3
  clear h hc e0 e1 e2 e3
  go_enter Try.func37, Try.ntmps37
  go_wp2_with (first
    | (go_at_call 35; (with_reducible refine (nx_x H3.out.rd E3.out).mono ?_); rintro e z4 ⟨rfl, hr, hk⟩; have Hx := H3.out.keep hr hk hne; obtain ⟨x3_0, y3_0⟩ := blkG Hx.cb 13 (.int .i64 0) rfl; have H4 : Hid (CI w r p bs B T (z4.setCell ⟨p, 13, none⟩ (.int .i64 ofn)) #[.int .i64 5, .string ser, .int .i64 0, .string ⟨#[]⟩, .int .i64 0, .int .i64 0, .int .i64 0, .int .i64 0, .int .i64 dy, .int .i64 dm, .int .i64 dd, .slice none 0 0, .string ofs, .int .i64 ofn, .int .i64 0] s4) := Lib.hid (Hx.set 13 (.int .i64 ofn) hT (A' := #[.int .i64 5, .string ser, .int .i64 0, .string ⟨#[]⟩, .int .i64 0, .int .i64 0, .int .i64 0, .int .i64 0, .int .i64 dy, .int .i64 dm, .int .i64 dd, .slice none 0 0, .string ofs, .int .i64 ofn, .int .i64 0]) rfl); clear hr hk Hx)
    | (go_at_call 56; (with_reducible refine (tx_x H2.out.rd E2.out).mono ?_); rintro e z3 ⟨rfl, hr, hk⟩; have Hx := H2.out.keep hr hk hne; obtain ⟨x2_0, y2_0⟩ := blkG Hx.cb 12 (.string ⟨#[]⟩) rfl; have H3 : Hid (CI w r p bs B T (z3.setCell ⟨p, 12, none⟩ (.string ofs)) #[.int .i64 5, .string ser, .int .i64 0, .string ⟨#[]⟩, .int .i64 0, .int .i64 0, .int .i64 0, .int .i64 0, .int .i64 dy, .int .i64 dm, .int .i64 dd, .slice none 0 0, .string ofs, .int .i64 0, .int .i64 0] s3) := Lib.hid (Hx.set 12 (.string ofs) hT (A' := #[.int .i64 5, .string ser, .int .i64 0, .string ⟨#[]⟩, .int .i64 0, .int .i64 0, .int .i64 0, .int .i64 0, .int .i64 dy, .int .i64 dm, .int .i64 dd, .slice none 0 0, .string ofs, .int .i64 0, .int .i64 0]) rfl); clear hr hk Hx)
    | (go_at_call 57; (with_reducible refine (day_x H1.out.rd (Nat.le_of_lt (Nat.lt_of_le_of_lt hT (blk_lt H1.out.cb))) E1.out).mono ?_); rintro e z2 ⟨rfl, hr, hk⟩; have Hx := H1.out.keep hr hk hne; obtain ⟨x1_0, y1_0⟩ := blkG Hx.cb 8 (.int .i64 0) rfl; obtain ⟨x1_1, y1_1⟩ := blkG Hx.cb 9 (.int .i64 0) rfl; obtain ⟨x1_2, y1_2⟩ := blkG Hx.cb 10 (.int .i64 0) rfl; have H2 : Hid (CI w r p bs B T (((z2.setCell ⟨p, 8, none⟩ (.int .i64 dy)).setCell ⟨p, 9, none⟩ (.int .i64 dm)).setCell ⟨p, 10, none⟩ (.int .i64 dd)) #[.int .i64 5, .string ser, .int .i64 0, .string ⟨#[]⟩, .int .i64 0, .int .i64 0, .int .i64 0, .int .i64 0, .int .i64 dy, .int .i64 dm, .int .i64 dd, .slice none 0 0, .string ⟨#[]⟩, .int .i64 0, .int .i64 0] s2) := Lib.hid (((Hx.set 8 (.int .i64 dy) hT (A' := #[.int .i64 5, .string ser, .int .i64 0, .string ⟨#[]⟩, .int .i64 0, .int .i64 0, .int .i64 0, .int .i64 0, .int .i64 dy, .int .i64 0, .int .i64 0, .slice none 0 0, .string ⟨#[]⟩, .int .i64 0, .int .i64 0]) rfl).set 9 (.int .i64 dm) hT (A' := #[.int .i64 5, .string ser, .int .i64 0, .string ⟨#[]⟩, .int .i64 0, .int .i64 0, .int .i64 0, .int .i64 0, .int .i64 dy, .int .i64 dm, .int .i64 0, .slice none 0 0, .string ⟨#[]⟩, .int .i64 0, .int .i64 0]) rfl).set 10 (.int .i64 dd) hT (A' := #[.int .i64 5, .string ser, .int .i64 0, .string ⟨#[]⟩, .int .i64 0, .int .i64 0, .int .i64 0, .int .i64 0, .int .i64 dy, .int .i64 dm, .int .i64 dd, .slice none 0 0, .string ⟨#[]⟩, .int .i64 0, .int .i64 0]) rfl); clear hr hk Hx)
    | (go_at_call 56; (with_reducible refine (tx_x H0.out.rd E0.out).mono ?_); rintro e z1 ⟨rfl, hr, hk⟩; have Hx := H0.out.keep hr hk hne; obtain ⟨x0_0, y0_0⟩ := blkG Hx.cb 1 (.string ⟨#[]⟩) rfl; have H1 : Hid (CI w r p bs B T (z1.setCell ⟨p, 1, none⟩ (.string ser)) #[.int .i64 5, .string ser, .int .i64 0, .string ⟨#[]⟩, .int .i64 0, .int .i64 0, .int .i64 0, .int .i64 0, .int .i64 0, .int .i64 0, .int .i64 0, .slice none 0 0, .string ⟨#[]⟩, .int .i64 0, .int .i64 0] s1) := Lib.hid (Hx.set 1 (.string ser) hT (A' := #[.int .i64 5, .string ser, .int .i64 0, .string ⟨#[]⟩, .int .i64 0, .int .i64 0, .int .i64 0, .int .i64 0, .int .i64 0, .int .i64 0, .int .i64 0, .slice none 0 0, .string ⟨#[]⟩, .int .i64 0, .int .i64 0]) rfl); clear hr hk Hx))
  go_end0
  exact ⟨rfl, H4.out⟩
set_option maxHeartbeats 4000000 in
theorem read_6 {s0 : RS} (hc : w.heap[p]? = some (.cells #[.int .i64 6, .string ⟨#[]⟩, .int .i64 0, .string ⟨#[]⟩, .int .i64 0, .int .i64 0, .int .i64 0, .int .i64 0, .int .i64 0, .int .i64 0, .int .i64 0, .slice none 0 0, .string ⟨#[]⟩, .int .i64 0, .int .i64 0] 37 (0, 0))) (h : RdX B T w r bs s0) (hT : T ≤ p) : Calls Try.prog 37 #[.pointer (some ⟨r, 0, none⟩), .pointer (some ⟨p, 0, none⟩)] w fun e w' => e = .returned (.tuple #[]) ∧ CI w r p bs B T w' #[.int .i64 6, .string ⟨#[]⟩, .int .i64 0, .string ⟨#[]⟩, .int .i64 0, .int .i64 0, .int .i64 0, .int .i64 0, .int .i64 0, .int .i64 0, .int .i64 0, .slice none 0 0, .string ⟨#[]⟩, .int .i64 0, .int .i64 0] s0 := by
  have hne : p ≠ r := by have := h.r_in; omega
  have H0 : Hid (CI w r p bs B T w #[.int .i64 6, .string ⟨#[]⟩, .int .i64 0, .string ⟨#[]⟩, .int .i64 0, .int .i64 0, .int .i64 0, .int .i64 0, .int .i64 0, .int .i64 0, .int .i64 0, .slice none 0 0, .string ⟨#[]⟩, .int .i64 0, .int .i64 0] s0) := Lib.hid ⟨h, hc, Keep2.refl _ _ _⟩
  obtain ⟨k0, k0'⟩ := blkG hc 0 _ rfl
  clear h hc
  go_enter Try.func37, Try.ntmps37
  go_wp2
  go_end0
  exact ⟨rfl, H0.out⟩
set_option maxHeartbeats 4000000 in
theorem read_7 {ses : Int} {s0 s1 : RS} (e0 : rNum bs s0 = (ses, s1)) (hc : w.heap[p]? = some (.cells #[.int .i64 7, .string ⟨#[]⟩, .int .i64 0, .string ⟨#[]⟩, .int .i64 0, .int .i64 0, .int .i64 0, .int .i64 0, .int .i64 0, .int .i64 0, .int .i64 0, .slice none 0 0, .string ⟨#[]⟩, .int .i64 0, .int .i64 0] 37 (0, 0))) (h : RdX B T w r bs s0) (hT : T ≤ p) : Calls Try.prog 37 #[.pointer (some ⟨r, 0, none⟩), .pointer (some ⟨p, 0, none⟩)] w fun e w' => e = .returned (.tuple #[]) ∧ CI w r p bs B T w' #[.int .i64 7, .string ⟨#[]⟩, .int .i64 0, .string ⟨#[]⟩, .int .i64 0, .int .i64 0, .int .i64 0, .int .i64 0, .int .i64 0, .int .i64 0, .int .i64 0, .slice none 0 0, .string ⟨#[]⟩, .int .i64 0, .int .i64 ses] s1 := by
  have hne : p ≠ r := by have := h.r_in; omega
  have H0 : Hid (CI w r p bs B T w #[.int .i64 7, .string ⟨#[]⟩, .int .i64 0, .string ⟨#[]⟩, .int .i64 0, .int .i64 0, .int .i64 0, .int .i64 0, .int .i64 0, .int .i64 0, .int .i64 0, .slice none 0 0, .string ⟨#[]⟩, .int .i64 0, .int .i64 0] s0) := Lib.hid ⟨h, hc, Keep2.refl _ _ _⟩
  obtain ⟨k0, k0'⟩ := blkG hc 0 _ rfl
  have E0 := Lib.hid e0
  clear h hc e0
  go_enter Try.func37, Try.ntmps37
  go_wp2_with (first
    | (go_at_call 35; (with_reducible refine (nx_x H0.out.rd E0.out).mono ?_); rintro e z1 ⟨rfl, hr, hk⟩; have Hx := H0.out.keep hr hk hne; obtain ⟨x0_0, y0_0⟩ := blkG Hx.cb 14 (.int .i64 0) rfl; have H1 : Hid (CI w r p bs B T (z1.setCell ⟨p, 14, none⟩ (.int .i64 ses)) #[.int .i64 7, .string ⟨#[]⟩, .int .i64 0, .string ⟨#[]⟩, .int .i64 0, .int .i64 0, .int .i64 0, .int .i64 0, .int .i64 0, .int .i64 0, .int .i64 0, .slice none 0 0, .string ⟨#[]⟩, .int .i64 0, .int .i64 ses] s1) := Lib.hid (Hx.set 14 (.int .i64 ses) hT (A' := #[.int .i64 7, .string ⟨#[]⟩, .int .i64 0, .string ⟨#[]⟩, .int .i64 0, .int .i64 0, .int .i64 0, .int .i64 0, .int .i64 0, .int .i64 0, .int .i64 0, .slice none 0 0, .string ⟨#[]⟩, .int .i64 0, .int .i64 ses]) rfl); clear hr hk Hx))
  go_end0
  exact ⟨rfl, H1.out⟩
set_option maxHeartbeats 4000000 in
theorem read_8 {ser : ByteArray} {s0 s1 : RS} (e0 : tR bs s0 = (ser, s1)) (hc : w.heap[p]? = some (.cells #[.int .i64 8, .string ⟨#[]⟩, .int .i64 0, .string ⟨#[]⟩, .int .i64 0, .int .i64 0, .int .i64 0, .int .i64 0, .int .i64 0, .int .i64 0, .int .i64 0, .slice none 0 0, .string ⟨#[]⟩, .int .i64 0, .int .i64 0] 37 (0, 0))) (h : RdX B T w r bs s0) (hT : T ≤ p) : Calls Try.prog 37 #[.pointer (some ⟨r, 0, none⟩), .pointer (some ⟨p, 0, none⟩)] w fun e w' => e = .returned (.tuple #[]) ∧ CI w r p bs B T w' #[.int .i64 8, .string ser, .int .i64 0, .string ⟨#[]⟩, .int .i64 0, .int .i64 0, .int .i64 0, .int .i64 0, .int .i64 0, .int .i64 0, .int .i64 0, .slice none 0 0, .string ⟨#[]⟩, .int .i64 0, .int .i64 0] s1 := by
  have hne : p ≠ r := by have := h.r_in; omega
  have H0 : Hid (CI w r p bs B T w #[.int .i64 8, .string ⟨#[]⟩, .int .i64 0, .string ⟨#[]⟩, .int .i64 0, .int .i64 0, .int .i64 0, .int .i64 0, .int .i64 0, .int .i64 0, .int .i64 0, .slice none 0 0, .string ⟨#[]⟩, .int .i64 0, .int .i64 0] s0) := Lib.hid ⟨h, hc, Keep2.refl _ _ _⟩
  obtain ⟨k0, k0'⟩ := blkG hc 0 _ rfl
  have E0 := Lib.hid e0
  clear h hc e0
  go_enter Try.func37, Try.ntmps37
  go_wp2_with (first
    | (go_at_call 56; (with_reducible refine (tx_x H0.out.rd E0.out).mono ?_); rintro e z1 ⟨rfl, hr, hk⟩; have Hx := H0.out.keep hr hk hne; obtain ⟨x0_0, y0_0⟩ := blkG Hx.cb 1 (.string ⟨#[]⟩) rfl; have H1 : Hid (CI w r p bs B T (z1.setCell ⟨p, 1, none⟩ (.string ser)) #[.int .i64 8, .string ser, .int .i64 0, .string ⟨#[]⟩, .int .i64 0, .int .i64 0, .int .i64 0, .int .i64 0, .int .i64 0, .int .i64 0, .int .i64 0, .slice none 0 0, .string ⟨#[]⟩, .int .i64 0, .int .i64 0] s1) := Lib.hid (Hx.set 1 (.string ser) hT (A' := #[.int .i64 8, .string ser, .int .i64 0, .string ⟨#[]⟩, .int .i64 0, .int .i64 0, .int .i64 0, .int .i64 0, .int .i64 0, .int .i64 0, .int .i64 0, .slice none 0 0, .string ⟨#[]⟩, .int .i64 0, .int .i64 0]) rfl); clear hr hk Hx))
  go_end0
  exact ⟨rfl, H1.out⟩
end
end Go.Proofs.Yteenkbfmlnpmlaa
