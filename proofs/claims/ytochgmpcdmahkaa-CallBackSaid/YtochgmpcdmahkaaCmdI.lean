/- Plain law: what is read as a number is one of 64 bits. No function of the program is named. -/
import Derived.Test.YtochgmpcdmahkaaPackSpec
import Derived.Test.YtochgmpcdmahkaaCmdG
import Derived.Test.YtochgmpcdmahkaaOwn2
import Derived.Deep.RegionHeld3
import Derived.Deep.RegionLaw
import Derived.Test.YtochgmpcdmahkaaCmdD
import Derived.Test.YtochgmpcdmahkaaCmdX
namespace Go.Proofs.Ytochgmpcdmahkaa
open Go.RowKit
section

/-- What is read as a number is one of 64 bits. -/
theorem decF_bd (bs : List UInt8) (a : Nat) : ∀ f i u, f + i = 10 → u < 128 ^ i → -9223372036854775808 ≤ (decF bs a f i u).1 ∧ (decF bs a f i u).1 ≤ 9223372036854775807
  | 0, _, _, _, _ => ⟨by show (-9223372036854775808 : Int) ≤ 0; decide, by show (0 : Int) ≤ _; decide⟩
  | f + 1, i, u, hf, hu => by
    by_cases hlt : a + i < bs.length
    · have hb : bs[a + i]? = some bs[a + i] := List.getElem?_eq_getElem hlt
      generalize bs[a + i] = b at hb
      have hb256 := b.toNat_lt
      rw [decF_step _ _ _ _ _ _ hb]
      split
      · exact ⟨by show (-9223372036854775808 : Int) ≤ 0; decide, by show (0 : Int) ≤ _; decide⟩
      · rename_i h1
        split
        · refine decF_bd bs a f (i + 1) _ (by omega) ?_
          rw [Nat.pow_succ]
          have h5 : b.toNat % 128 * 128 ^ i ≤ 127 * 128 ^ i := Nat.mul_le_mul_right _ (by omega)
          omega
        · split
          · exact ⟨by show (-9223372036854775808 : Int) ≤ 0; decide, by show (0 : Int) ≤ _; decide⟩
          · apply unzig_bd
            by_cases h9 : i = 9
            · subst h9
              have : b.toNat ≤ 1 := by omega
              omega
            · have hle8 : (128 : Nat) ^ i ≤ 128 ^ 8 := Nat.pow_le_pow_right (by decide) (by omega)
              have hm : b.toNat % 128 * 128 ^ i ≤ 127 * 128 ^ 8 := Nat.mul_le_mul (by omega) hle8
              omega
    · rw [decF_short _ _ _ _ _ hlt]
      exact ⟨by show (-9223372036854775808 : Int) ≤ 0; decide, by show (0 : Int) ≤ _; decide⟩
theorem rNum_bd (bs : List UInt8) (s : RS) : -9223372036854775808 ≤ (rNum bs s).1 ∧ (rNum bs s).1 ≤ 9223372036854775807 := by
  unfold rNum
  split
  · exact decF_bd bs s.at_ 10 0 0 rfl (by decide)
  · exact ⟨by show (-9223372036854775808 : Int) ≤ 0; decide, by show (0 : Int) ≤ _; decide⟩

end
section
section

section
variable {B T r p : Nat} {bs : List UInt8} {w : World}
set_option maxHeartbeats 4000000 in
theorem read_1 {ser : ByteArray} {lim : Int} {s0 s1 s2 : RS} (e0 : tR bs s0 = (ser, s1)) (e1 : rNum bs s1 = (lim, s2)) (hc : w.heap[p]? = some (.cells #[.int .i64 1, .string ⟨#[]⟩, .int .i64 0, .string ⟨#[]⟩, .int .i64 0, .int .i64 0, .int .i64 0, .int .i64 0, .int .i64 0, .int .i64 0, .int .i64 0, .slice none 0 0, .string ⟨#[]⟩, .int .i64 0, .int .i64 0] 33 (0, 0))) (h : RdX B T w r bs s0) (hT : T ≤ p) : Calls Try.prog 33 #[.pointer (some ⟨r, 0, none⟩), .pointer (some ⟨p, 0, none⟩)] w fun e w' => e = .returned (.tuple #[]) ∧ CI w r p bs B T w' #[.int .i64 1, .string ser, .int .i64 lim, .string ⟨#[]⟩, .int .i64 0, .int .i64 0, .int .i64 0, .int .i64 0, .int .i64 0, .int .i64 0, .int .i64 0, .slice none 0 0, .string ⟨#[]⟩, .int .i64 0, .int .i64 0] s2 := by
  have hne : p ≠ r := by have := h.r_in; omega
  have H0 : Hid (CI w r p bs B T w #[.int .i64 1, .string ⟨#[]⟩, .int .i64 0, .string ⟨#[]⟩, .int .i64 0, .int .i64 0, .int .i64 0, .int .i64 0, .int .i64 0, .int .i64 0, .int .i64 0, .slice none 0 0, .string ⟨#[]⟩, .int .i64 0, .int .i64 0] s0) := Lib.hid ⟨h, hc, Keep2.refl _ _ _⟩
  obtain ⟨k0, k0'⟩ := blkG hc 0 _ rfl
  have E0 := Lib.hid e0
  have E1 := Lib.hid e1
  clear h hc e0 e1
  go_enter Try.func33, Try.ntmps33
  go_wp2_with (first
    | (go_at_call 17; (with_reducible refine (nx_x H1.out.rd E1.out).mono ?_); rintro e z2 ⟨rfl, hr, hk⟩; have Hx := H1.out.keep hr hk hne; obtain ⟨x1_0, y1_0⟩ := blkG Hx.cb 2 (.int .i64 0) rfl; have H2 : Hid (CI w r p bs B T (z2.setCell ⟨p, 2, none⟩ (.int .i64 lim)) #[.int .i64 1, .string ser, .int .i64 lim, .string ⟨#[]⟩, .int .i64 0, .int .i64 0, .int .i64 0, .int .i64 0, .int .i64 0, .int .i64 0, .int .i64 0, .slice none 0 0, .string ⟨#[]⟩, .int .i64 0, .int .i64 0] s2) := Lib.hid (Hx.set 2 (.int .i64 lim) hT (A' := #[.int .i64 1, .string ser, .int .i64 lim, .string ⟨#[]⟩, .int .i64 0, .int .i64 0, .int .i64 0, .int .i64 0, .int .i64 0, .int .i64 0, .int .i64 0, .slice none 0 0, .string ⟨#[]⟩, .int .i64 0, .int .i64 0]) rfl); clear hr hk Hx)
    | (go_at_call 48; (with_reducible refine (tx_x H0.out.rd E0.out).mono ?_); rintro e z1 ⟨rfl, hr, hk⟩; have Hx := H0.out.keep hr hk hne; obtain ⟨x0_0, y0_0⟩ := blkG Hx.cb 1 (.string ⟨#[]⟩) rfl; have H1 : Hid (CI w r p bs B T (z1.setCell ⟨p, 1, none⟩ (.string ser)) #[.int .i64 1, .string ser, .int .i64 0, .string ⟨#[]⟩, .int .i64 0, .int .i64 0, .int .i64 0, .int .i64 0, .int .i64 0, .int .i64 0, .int .i64 0, .slice none 0 0, .string ⟨#[]⟩, .int .i64 0, .int .i64 0] s1) := Lib.hid (Hx.set 1 (.string ser) hT (A' := #[.int .i64 1, .string ser, .int .i64 0, .string ⟨#[]⟩, .int .i64 0, .int .i64 0, .int .i64 0, .int .i64 0, .int .i64 0, .int .i64 0, .int .i64 0, .slice none 0 0, .string ⟨#[]⟩, .int .i64 0, .int .i64 0]) rfl); clear hr hk Hx))
  go_end0
  exact ⟨rfl, H2.out⟩
set_option maxHeartbeats 4000000 in
theorem read_2 {ser : ByteArray} {s0 s1 : RS} (e0 : tR bs s0 = (ser, s1)) (hc : w.heap[p]? = some (.cells #[.int .i64 2, .string ⟨#[]⟩, .int .i64 0, .string ⟨#[]⟩, .int .i64 0, .int .i64 0, .int .i64 0, .int .i64 0, .int .i64 0, .int .i64 0, .int .i64 0, .slice none 0 0, .string ⟨#[]⟩, .int .i64 0, .int .i64 0] 33 (0, 0))) (h : RdX B T w r bs s0) (hT : T ≤ p) : Calls Try.prog 33 #[.pointer (some ⟨r, 0, none⟩), .pointer (some ⟨p, 0, none⟩)] w fun e w' => e = .returned (.tuple #[]) ∧ CI w r p bs B T w' #[.int .i64 2, .string ser, .int .i64 0, .string ⟨#[]⟩, .int .i64 0, .int .i64 0, .int .i64 0, .int .i64 0, .int .i64 0, .int .i64 0, .int .i64 0, .slice none 0 0, .string ⟨#[]⟩, .int .i64 0, .int .i64 0] s1 := by
  have hne : p ≠ r := by have := h.r_in; omega
  have H0 : Hid (CI w r p bs B T w #[.int .i64 2, .string ⟨#[]⟩, .int .i64 0, .string ⟨#[]⟩, .int .i64 0, .int .i64 0, .int .i64 0, .int .i64 0, .int .i64 0, .int .i64 0, .int .i64 0, .slice none 0 0, .string ⟨#[]⟩, .int .i64 0, .int .i64 0] s0) := Lib.hid ⟨h, hc, Keep2.refl _ _ _⟩
  obtain ⟨k0, k0'⟩ := blkG hc 0 _ rfl
  have E0 := Lib.hid e0
  clear h hc e0
  go_enter Try.func33, Try.ntmps33
  go_wp2_with (first
    | (go_at_call 48; (with_reducible refine (tx_x H0.out.rd E0.out).mono ?_); rintro e z1 ⟨rfl, hr, hk⟩; have Hx := H0.out.keep hr hk hne; obtain ⟨x0_0, y0_0⟩ := blkG Hx.cb 1 (.string ⟨#[]⟩) rfl; have H1 : Hid (CI w r p bs B T (z1.setCell ⟨p, 1, none⟩ (.string ser)) #[.int .i64 2, .string ser, .int .i64 0, .string ⟨#[]⟩, .int .i64 0, .int .i64 0, .int .i64 0, .int .i64 0, .int .i64 0, .int .i64 0, .int .i64 0, .slice none 0 0, .string ⟨#[]⟩, .int .i64 0, .int .i64 0] s1) := Lib.hid (Hx.set 1 (.string ser) hT (A' := #[.int .i64 2, .string ser, .int .i64 0, .string ⟨#[]⟩, .int .i64 0, .int .i64 0, .int .i64 0, .int .i64 0, .int .i64 0, .int .i64 0, .int .i64 0, .slice none 0 0, .string ⟨#[]⟩, .int .i64 0, .int .i64 0]) rfl); clear hr hk Hx))
  go_end0
  exact ⟨rfl, H1.out⟩
set_option maxHeartbeats 4000000 in
theorem read_3 {cat : ByteArray} {ry rm rd bp : Int} {s0 s1 s2 s3 : RS} (e0 : tR bs s0 = (cat, s1)) (e1 : dR bs s1 = ((ry, rm, rd), s2)) (e2 : rNum bs s2 = (bp, s3)) (hc : w.heap[p]? = some (.cells #[.int .i64 3, .string ⟨#[]⟩, .int .i64 0, .string ⟨#[]⟩, .int .i64 0, .int .i64 0, .int .i64 0, .int .i64 0, .int .i64 0, .int .i64 0, .int .i64 0, .slice none 0 0, .string ⟨#[]⟩, .int .i64 0, .int .i64 0] 33 (0, 0))) (h : RdX B T w r bs s0) (hT : T ≤ p) : Calls Try.prog 33 #[.pointer (some ⟨r, 0, none⟩), .pointer (some ⟨p, 0, none⟩)] w fun e w' => e = .returned (.tuple #[]) ∧ CI w r p bs B T w' #[.int .i64 3, .string ⟨#[]⟩, .int .i64 0, .string cat, .int .i64 ry, .int .i64 rm, .int .i64 rd, .int .i64 bp, .int .i64 0, .int .i64 0, .int .i64 0, .slice none 0 0, .string ⟨#[]⟩, .int .i64 0, .int .i64 0] s3 := by
  have hne : p ≠ r := by have := h.r_in; omega
  have H0 : Hid (CI w r p bs B T w #[.int .i64 3, .string ⟨#[]⟩, .int .i64 0, .string ⟨#[]⟩, .int .i64 0, .int .i64 0, .int .i64 0, .int .i64 0, .int .i64 0, .int .i64 0, .int .i64 0, .slice none 0 0, .string ⟨#[]⟩, .int .i64 0, .int .i64 0] s0) := Lib.hid ⟨h, hc, Keep2.refl _ _ _⟩
  obtain ⟨k0, k0'⟩ := blkG hc 0 _ rfl
  have E0 := Lib.hid e0
  have E1 := Lib.hid e1
  have E2 := Lib.hid e2
  clear h hc e0 e1 e2
  go_enter Try.func33, Try.ntmps33
  go_wp2_with (first
    | (go_at_call 17; (with_reducible refine (nx_x H2.out.rd E2.out).mono ?_); rintro e z3 ⟨rfl, hr, hk⟩; have Hx := H2.out.keep hr hk hne; obtain ⟨x2_0, y2_0⟩ := blkG Hx.cb 7 (.int .i64 0) rfl; have H3 : Hid (CI w r p bs B T (z3.setCell ⟨p, 7, none⟩ (.int .i64 bp)) #[.int .i64 3, .string ⟨#[]⟩, .int .i64 0, .string cat, .int .i64 ry, .int .i64 rm, .int .i64 rd, .int .i64 bp, .int .i64 0, .int .i64 0, .int .i64 0, .slice none 0 0, .string ⟨#[]⟩, .int .i64 0, .int .i64 0] s3) := Lib.hid (Hx.set 7 (.int .i64 bp) hT (A' := #[.int .i64 3, .string ⟨#[]⟩, .int .i64 0, .string cat, .int .i64 ry, .int .i64 rm, .int .i64 rd, .int .i64 bp, .int .i64 0, .int .i64 0, .int .i64 0, .slice none 0 0, .string ⟨#[]⟩, .int .i64 0, .int .i64 0]) rfl); clear hr hk Hx)
    | (go_at_call 49; (with_reducible refine (day_x H1.out.rd (Nat.le_of_lt (Nat.lt_of_le_of_lt hT (blk_lt H1.out.cb))) E1.out).mono ?_); rintro e z2 ⟨rfl, hr, hk⟩; have Hx := H1.out.keep hr hk hne; obtain ⟨x1_0, y1_0⟩ := blkG Hx.cb 4 (.int .i64 0) rfl; obtain ⟨x1_1, y1_1⟩ := blkG Hx.cb 5 (.int .i64 0) rfl; obtain ⟨x1_2, y1_2⟩ := blkG Hx.cb 6 (.int .i64 0) rfl; have H2 : Hid (CI w r p bs B T (((z2.setCell ⟨p, 4, none⟩ (.int .i64 ry)).setCell ⟨p, 5, none⟩ (.int .i64 rm)).setCell ⟨p, 6, none⟩ (.int .i64 rd)) #[.int .i64 3, .string ⟨#[]⟩, .int .i64 0, .string cat, .int .i64 ry, .int .i64 rm, .int .i64 rd, .int .i64 0, .int .i64 0, .int .i64 0, .int .i64 0, .slice none 0 0, .string ⟨#[]⟩, .int .i64 0, .int .i64 0] s2) := Lib.hid (((Hx.set 4 (.int .i64 ry) hT (A' := #[.int .i64 3, .string ⟨#[]⟩, .int .i64 0, .string cat, .int .i64 ry, .int .i64 0, .int .i64 0, .int .i64 0, .int .i64 0, .int .i64 0, .int .i64 0, .slice none 0 0, .string ⟨#[]⟩, .int .i64 0, .int .i64 0]) rfl).set 5 (.int .i64 rm) hT (A' := #[.int .i64 3, .string ⟨#[]⟩, .int .i64 0, .string cat, .int .i64 ry, .int .i64 rm, .int .i64 0, .int .i64 0, .int .i64 0, .int .i64 0, .int .i64 0, .slice none 0 0, .string ⟨#[]⟩, .int .i64 0, .int .i64 0]) rfl).set 6 (.int .i64 rd) hT (A' := #[.int .i64 3, .string ⟨#[]⟩, .int .i64 0, .string cat, .int .i64 ry, .int .i64 rm, .int .i64 rd, .int .i64 0, .int .i64 0, .int .i64 0, .int .i64 0, .slice none 0 0, .string ⟨#[]⟩, .int .i64 0, .int .i64 0]) rfl); clear hr hk Hx)
    | (go_at_call 48; (with_reducible refine (tx_x H0.out.rd E0.out).mono ?_); rintro e z1 ⟨rfl, hr, hk⟩; have Hx := H0.out.keep hr hk hne; obtain ⟨x0_0, y0_0⟩ := blkG Hx.cb 3 (.string ⟨#[]⟩) rfl; have H1 : Hid (CI w r p bs B T (z1.setCell ⟨p, 3, none⟩ (.string cat)) #[.int .i64 3, .string ⟨#[]⟩, .int .i64 0, .string cat, .int .i64 0, .int .i64 0, .int .i64 0, .int .i64 0, .int .i64 0, .int .i64 0, .int .i64 0, .slice none 0 0, .string ⟨#[]⟩, .int .i64 0, .int .i64 0] s1) := Lib.hid (Hx.set 3 (.string cat) hT (A' := #[.int .i64 3, .string ⟨#[]⟩, .int .i64 0, .string cat, .int .i64 0, .int .i64 0, .int .i64 0, .int .i64 0, .int .i64 0, .int .i64 0, .int .i64 0, .slice none 0 0, .string ⟨#[]⟩, .int .i64 0, .int .i64 0]) rfl); clear hr hk Hx))
  go_end0
  exact ⟨rfl, H3.out⟩
set_option maxHeartbeats 4000000 in
theorem read_5 {ser ofs : ByteArray} {dy dm dd ofn : Int} {s0 s1 s2 s3 s4 : RS} (e0 : tR bs s0 = (ser, s1)) (e1 : dR bs s1 = ((dy, dm, dd), s2)) (e2 : tR bs s2 = (ofs, s3)) (e3 : rNum bs s3 = (ofn, s4)) (hc : w.heap[p]? = some (.cells #[.int .i64 5, .string ⟨#[]⟩, .int .i64 0, .string ⟨#[]⟩, .int .i64 0, .int .i64 0, .int .i64 0, .int .i64 0, .int .i64 0, .int .i64 0, .int .i64 0, .slice none 0 0, .string ⟨#[]⟩, .int .i64 0, .int .i64 0] 33 (0, 0))) (h : RdX B T w r bs s0) (hT : T ≤ p) : Calls Try.prog 33 #[.pointer (some ⟨r, 0, none⟩), .pointer (some ⟨p, 0, none⟩)] w fun e w' => e = .returned (.tuple #[]) ∧ CI w r p bs B T w' #[.int .i64 5, .string ser, .int .i64 0, .string ⟨#[]⟩, .int .i64 0, .int .i64 0, .int .i64 0, .int .i64 0, .int .i64 dy, .int .i64 dm, .int .i64 dd, .slice none 0 0, .string ofs, .int .i64 ofn, .int .i64 0] s4 := by
  have hne : p ≠ r := by have := h.r_in; omega
  have H0 : Hid (CI w r p bs B T w #[.int .i64 5, .string ⟨#[]⟩, .int .i64 0, .string ⟨#[]⟩, .int .i64 0, .int .i64 0, .int .i64 0, .int .i64 0, .int .i64 0, .int .i64 0, .int .i64 0, .slice none 0 0, .string ⟨#[]⟩, .int .i64 0, .int .i64 0] s0) := Lib.hid ⟨h, hc, Keep2.refl _ _ _⟩
  obtain ⟨k0, k0'⟩ := blkG hc 0 _ rfl
  have E0 := Lib.hid e0
  have E1 := Lib.hid e1
  have E2 := Lib.hid e2
  have E3 := Lib.hid e3
  clear h hc e0 e1 e2 e3
  go_enter Try.func33, Try.ntmps33
  go_wp2_with (first
    | (go_at_call 17; (with_reducible refine (nx_x H3.out.rd E3.out).mono ?_); rintro e z4 ⟨rfl, hr, hk⟩; have Hx := H3.out.keep hr hk hne; obtain ⟨x3_0, y3_0⟩ := blkG Hx.cb 13 (.int .i64 0) rfl; have H4 : Hid (CI w r p bs B T (z4.setCell ⟨p, 13, none⟩ (.int .i64 ofn)) #[.int .i64 5, .string ser, .int .i64 0, .string ⟨#[]⟩, .int .i64 0, .int .i64 0, .int .i64 0, .int .i64 0, .int .i64 dy, .int .i64 dm, .int .i64 dd, .slice none 0 0, .string ofs, .int .i64 ofn, .int .i64 0] s4) := Lib.hid (Hx.set 13 (.int .i64 ofn) hT (A' := #[.int .i64 5, .string ser, .int .i64 0, .string ⟨#[]⟩, .int .i64 0, .int .i64 0, .int .i64 0, .int .i64 0, .int .i64 dy, .int .i64 dm, .int .i64 dd, .slice none 0 0, .string ofs, .int .i64 ofn, .int .i64 0]) rfl); clear hr hk Hx)
    | (go_at_call 48; (with_reducible refine (tx_x H2.out.rd E2.out).mono ?_); rintro e z3 ⟨rfl, hr, hk⟩; have Hx := H2.out.keep hr hk hne; obtain ⟨x2_0, y2_0⟩ := blkG Hx.cb 12 (.string ⟨#[]⟩) rfl; have H3 : Hid (CI w r p bs B T (z3.setCell ⟨p, 12, none⟩ (.string ofs)) #[.int .i64 5, .string ser, .int .i64 0, .string ⟨#[]⟩, .int .i64 0, .int .i64 0, .int .i64 0, .int .i64 0, .int .i64 dy, .int .i64 dm, .int .i64 dd, .slice none 0 0, .string ofs, .int .i64 0, .int .i64 0] s3) := Lib.hid (Hx.set 12 (.string ofs) hT (A' := #[.int .i64 5, .string ser, .int .i64 0, .string ⟨#[]⟩, .int .i64 0, .int .i64 0, .int .i64 0, .int .i64 0, .int .i64 dy, .int .i64 dm, .int .i64 dd, .slice none 0 0, .string ofs, .int .i64 0, .int .i64 0]) rfl); clear hr hk Hx)
    | (go_at_call 49; (with_reducible refine (day_x H1.out.rd (Nat.le_of_lt (Nat.lt_of_le_of_lt hT (blk_lt H1.out.cb))) E1.out).mono ?_); rintro e z2 ⟨rfl, hr, hk⟩; have Hx := H1.out.keep hr hk hne; obtain ⟨x1_0, y1_0⟩ := blkG Hx.cb 8 (.int .i64 0) rfl; obtain ⟨x1_1, y1_1⟩ := blkG Hx.cb 9 (.int .i64 0) rfl; obtain ⟨x1_2, y1_2⟩ := blkG Hx.cb 10 (.int .i64 0) rfl; have H2 : Hid (CI w r p bs B T (((z2.setCell ⟨p, 8, none⟩ (.int .i64 dy)).setCell ⟨p, 9, none⟩ (.int .i64 dm)).setCell ⟨p, 10, none⟩ (.int .i64 dd)) #[.int .i64 5, .string ser, .int .i64 0, .string ⟨#[]⟩, .int .i64 0, .int .i64 0, .int .i64 0, .int .i64 0, .int .i64 dy, .int .i64 dm, .int .i64 dd, .slice none 0 0, .string ⟨#[]⟩, .int .i64 0, .int .i64 0] s2) := Lib.hid (((Hx.set 8 (.int .i64 dy) hT (A' := #[.int .i64 5, .string ser, .int .i64 0, .string ⟨#[]⟩, .int .i64 0, .int .i64 0, .int .i64 0, .int .i64 0, .int .i64 dy, .int .i64 0, .int .i64 0, .slice none 0 0, .string ⟨#[]⟩, .int .i64 0, .int .i64 0]) rfl).set 9 (.int .i64 dm) hT (A' := #[.int .i64 5, .string ser, .int .i64 0, .string ⟨#[]⟩, .int .i64 0, .int .i64 0, .int .i64 0, .int .i64 0, .int .i64 dy, .int .i64 dm, .int .i64 0, .slice none 0 0, .string ⟨#[]⟩, .int .i64 0, .int .i64 0]) rfl).set 10 (.int .i64 dd) hT (A' := #[.int .i64 5, .string ser, .int .i64 0, .string ⟨#[]⟩, .int .i64 0, .int .i64 0, .int .i64 0, .int .i64 0, .int .i64 dy, .int .i64 dm, .int .i64 dd, .slice none 0 0, .string ⟨#[]⟩, .int .i64 0, .int .i64 0]) rfl); clear hr hk Hx)
    | (go_at_call 48; (with_reducible refine (tx_x H0.out.rd E0.out).mono ?_); rintro e z1 ⟨rfl, hr, hk⟩; have Hx := H0.out.keep hr hk hne; obtain ⟨x0_0, y0_0⟩ := blkG Hx.cb 1 (.string ⟨#[]⟩) rfl; have H1 : Hid (CI w r p bs B T (z1.setCell ⟨p, 1, none⟩ (.string ser)) #[.int .i64 5, .string ser, .int .i64 0, .string ⟨#[]⟩, .int .i64 0, .int .i64 0, .int .i64 0, .int .i64 0, .int .i64 0, .int .i64 0, .int .i64 0, .slice none 0 0, .string ⟨#[]⟩, .int .i64 0, .int .i64 0] s1) := Lib.hid (Hx.set 1 (.string ser) hT (A' := #[.int .i64 5, .string ser, .int .i64 0, .string ⟨#[]⟩, .int .i64 0, .int .i64 0, .int .i64 0, .int .i64 0, .int .i64 0, .int .i64 0, .int .i64 0, .slice none 0 0, .string ⟨#[]⟩, .int .i64 0, .int .i64 0]) rfl); clear hr hk Hx))
  go_end0
  exact ⟨rfl, H4.out⟩
set_option maxHeartbeats 4000000 in
theorem read_6 {s0 : RS} (hc : w.heap[p]? = some (.cells #[.int .i64 6, .string ⟨#[]⟩, .int .i64 0, .string ⟨#[]⟩, .int .i64 0, .int .i64 0, .int .i64 0, .int .i64 0, .int .i64 0, .int .i64 0, .int .i64 0, .slice none 0 0, .string ⟨#[]⟩, .int .i64 0, .int .i64 0] 33 (0, 0))) (h : RdX B T w r bs s0) (hT : T ≤ p) : Calls Try.prog 33 #[.pointer (some ⟨r, 0, none⟩), .pointer (some ⟨p, 0, none⟩)] w fun e w' => e = .returned (.tuple #[]) ∧ CI w r p bs B T w' #[.int .i64 6, .string ⟨#[]⟩, .int .i64 0, .string ⟨#[]⟩, .int .i64 0, .int .i64 0, .int .i64 0, .int .i64 0, .int .i64 0, .int .i64 0, .int .i64 0, .slice none 0 0, .string ⟨#[]⟩, .int .i64 0, .int .i64 0] s0 := by
  have hne : p ≠ r := by have := h.r_in; omega
  have H0 : Hid (CI w r p bs B T w #[.int .i64 6, .string ⟨#[]⟩, .int .i64 0, .string ⟨#[]⟩, .int .i64 0, .int .i64 0, .int .i64 0, .int .i64 0, .int .i64 0, .int .i64 0, .int .i64 0, .slice none 0 0, .string ⟨#[]⟩, .int .i64 0, .int .i64 0] s0) := Lib.hid ⟨h, hc, Keep2.refl _ _ _⟩
  obtain ⟨k0, k0'⟩ := blkG hc 0 _ rfl
  clear h hc
  go_enter Try.func33, Try.ntmps33
  go_wp2
  go_end0
  exact ⟨rfl, H0.out⟩
set_option maxHeartbeats 4000000 in
theorem read_7 {ses : Int} {s0 s1 : RS} (e0 : rNum bs s0 = (ses, s1)) (hc : w.heap[p]? = some (.cells #[.int .i64 7, .string ⟨#[]⟩, .int .i64 0, .string ⟨#[]⟩, .int .i64 0, .int .i64 0, .int .i64 0, .int .i64 0, .int .i64 0, .int .i64 0, .int .i64 0, .slice none 0 0, .string ⟨#[]⟩, .int .i64 0, .int .i64 0] 33 (0, 0))) (h : RdX B T w r bs s0) (hT : T ≤ p) : Calls Try.prog 33 #[.pointer (some ⟨r, 0, none⟩), .pointer (some ⟨p, 0, none⟩)] w fun e w' => e = .returned (.tuple #[]) ∧ CI w r p bs B T w' #[.int .i64 7, .string ⟨#[]⟩, .int .i64 0, .string ⟨#[]⟩, .int .i64 0, .int .i64 0, .int .i64 0, .int .i64 0, .int .i64 0, .int .i64 0, .int .i64 0, .slice none 0 0, .string ⟨#[]⟩, .int .i64 0, .int .i64 ses] s1 := by
  have hne : p ≠ r := by have := h.r_in; omega
  have H0 : Hid (CI w r p bs B T w #[.int .i64 7, .string ⟨#[]⟩, .int .i64 0, .string ⟨#[]⟩, .int .i64 0, .int .i64 0, .int .i64 0, .int .i64 0, .int .i64 0, .int .i64 0, .int .i64 0, .slice none 0 0, .string ⟨#[]⟩, .int .i64 0, .int .i64 0] s0) := Lib.hid ⟨h, hc, Keep2.refl _ _ _⟩
  obtain ⟨k0, k0'⟩ := blkG hc 0 _ rfl
  have E0 := Lib.hid e0
  clear h hc e0
  go_enter Try.func33, Try.ntmps33
  go_wp2_with (first
    | (go_at_call 17; (with_reducible refine (nx_x H0.out.rd E0.out).mono ?_); rintro e z1 ⟨rfl, hr, hk⟩; have Hx := H0.out.keep hr hk hne; obtain ⟨x0_0, y0_0⟩ := blkG Hx.cb 14 (.int .i64 0) rfl; have H1 : Hid (CI w r p bs B T (z1.setCell ⟨p, 14, none⟩ (.int .i64 ses)) #[.int .i64 7, .string ⟨#[]⟩, .int .i64 0, .string ⟨#[]⟩, .int .i64 0, .int .i64 0, .int .i64 0, .int .i64 0, .int .i64 0, .int .i64 0, .int .i64 0, .slice none 0 0, .string ⟨#[]⟩, .int .i64 0, .int .i64 ses] s1) := Lib.hid (Hx.set 14 (.int .i64 ses) hT (A' := #[.int .i64 7, .string ⟨#[]⟩, .int .i64 0, .string ⟨#[]⟩, .int .i64 0, .int .i64 0, .int .i64 0, .int .i64 0, .int .i64 0, .int .i64 0, .int .i64 0, .slice none 0 0, .string ⟨#[]⟩, .int .i64 0, .int .i64 ses]) rfl); clear hr hk Hx))
  go_end0
  exact ⟨rfl, H1.out⟩
set_option maxHeartbeats 4000000 in
theorem read_8 {ser : ByteArray} {s0 s1 : RS} (e0 : tR bs s0 = (ser, s1)) (hc : w.heap[p]? = some (.cells #[.int .i64 8, .string ⟨#[]⟩, .int .i64 0, .string ⟨#[]⟩, .int .i64 0, .int .i64 0, .int .i64 0, .int .i64 0, .int .i64 0, .int .i64 0, .int .i64 0, .slice none 0 0, .string ⟨#[]⟩, .int .i64 0, .int .i64 0] 33 (0, 0))) (h : RdX B T w r bs s0) (hT : T ≤ p) : Calls Try.prog 33 #[.pointer (some ⟨r, 0, none⟩), .pointer (some ⟨p, 0, none⟩)] w fun e w' => e = .returned (.tuple #[]) ∧ CI w r p bs B T w' #[.int .i64 8, .string ser, .int .i64 0, .string ⟨#[]⟩, .int .i64 0, .int .i64 0, .int .i64 0, .int .i64 0, .int .i64 0, .int .i64 0, .int .i64 0, .slice none 0 0, .string ⟨#[]⟩, .int .i64 0, .int .i64 0] s1 := by
  have hne : p ≠ r := by have := h.r_in; omega
  have H0 : Hid (CI w r p bs B T w #[.int .i64 8, .string ⟨#[]⟩, .int .i64 0, .string ⟨#[]⟩, .int .i64 0, .int .i64 0, .int .i64 0, .int .i64 0, .int .i64 0, .int .i64 0, .int .i64 0, .slice none 0 0, .string ⟨#[]⟩, .int .i64 0, .int .i64 0] s0) := Lib.hid ⟨h, hc, Keep2.refl _ _ _⟩
  obtain ⟨k0, k0'⟩ := blkG hc 0 _ rfl
  have E0 := Lib.hid e0
  clear h hc e0
  go_enter Try.func33, Try.ntmps33
  go_wp2_with (first
    | (go_at_call 48; (with_reducible refine (tx_x H0.out.rd E0.out).mono ?_); rintro e z1 ⟨rfl, hr, hk⟩; have Hx := H0.out.keep hr hk hne; obtain ⟨x0_0, y0_0⟩ := blkG Hx.cb 1 (.string ⟨#[]⟩) rfl; have H1 : Hid (CI w r p bs B T (z1.setCell ⟨p, 1, none⟩ (.string ser)) #[.int .i64 8, .string ser, .int .i64 0, .string ⟨#[]⟩, .int .i64 0, .int .i64 0, .int .i64 0, .int .i64 0, .int .i64 0, .int .i64 0, .int .i64 0, .slice none 0 0, .string ⟨#[]⟩, .int .i64 0, .int .i64 0] s1) := Lib.hid (Hx.set 1 (.string ser) hT (A' := #[.int .i64 8, .string ser, .int .i64 0, .string ⟨#[]⟩, .int .i64 0, .int .i64 0, .int .i64 0, .int .i64 0, .int .i64 0, .int .i64 0, .int .i64 0, .slice none 0 0, .string ⟨#[]⟩, .int .i64 0, .int .i64 0]) rfl); clear hr hk Hx))
  go_end0
  exact ⟨rfl, H1.out⟩
end
end
section

section
variable {B T r p : Nat} {bs : List UInt8} {w : World}
theorem cx_x {s : RS} (h : RdX B T w r bs s) {n : Nat} {s' : RS} (e : lcR bs s = (n, s')) : Calls Try.prog 50 #[.pointer (some ⟨r, 0, none⟩), .int .i64 12] w fun x w' => x = .returned (.int .i64 (n : Int)) ∧ RdX B T w' r bs s' ∧ KeepR r w w' := by
  have := count_x h 12
  have e1 := (lcR_is bs s).1
  have e2 : (rCount bs s 12).2 = s' := by have := congrArg Prod.snd e; exact this
  rw [e] at e1
  rw [e1, e2] at this
  exact this
set_option maxHeartbeats 8000000 in
set_option maxRecDepth 100000 in
theorem read_4 {ser : ByteArray} {dy dm dd : Int} {s0 s1 s2 : RS} (e0 : tR bs s0 = (ser, s1)) (e1 : dR bs s1 = ((dy, dm, dd), s2)) {n : Nat} {sL : RS} (e2 : lcR bs s2 = (n, sL)) (hc : w.heap[p]? = some (.cells #[.int .i64 4, .string ⟨#[]⟩, .int .i64 0, .string ⟨#[]⟩, .int .i64 0, .int .i64 0, .int .i64 0, .int .i64 0, .int .i64 0, .int .i64 0, .int .i64 0, .slice none 0 0, .string ⟨#[]⟩, .int .i64 0, .int .i64 0] 33 (0, 0))) (h : RdX B T w r bs s0) (hT : T ≤ p) : Calls Try.prog 33 #[.pointer (some ⟨r, 0, none⟩), .pointer (some ⟨p, 0, none⟩)] w fun e w' => e = .returned (.tuple #[]) ∧ ∃ a' c', CI w r p bs B T w' #[.int .i64 4, .string ser, .int .i64 0, .string ⟨#[]⟩, .int .i64 0, .int .i64 0, .int .i64 0, .int .i64 0, .int .i64 dy, .int .i64 dm, .int .i64 dd, .slice a' n c', .string ⟨#[]⟩, .int .i64 0, .int .i64 0] (lnSt bs sL n) ∧ OwnS Ln.cells 4 107 w' w.heap.size (.slice a' n c') (lnsAt bs sL n) := by
  obtain ⟨i0, hi, iz0, iz1, iz2⟩ := info_parts Try.infoLn
  have hne : p ≠ r := by have := h.r_in; omega
  have hpw := blk_lt hc
  have hrT : r < T := h.r_in.2.1
  have hn12 : n ≤ 12 := by have := (lcR_is bs s2).2; rw [e2] at this; exact this
  have H0 : Hid (CI w r p bs B T w #[.int .i64 4, .string ⟨#[]⟩, .int .i64 0, .string ⟨#[]⟩, .int .i64 0, .int .i64 0, .int .i64 0, .int .i64 0, .int .i64 0, .int .i64 0, .int .i64 0, .slice none 0 0, .string ⟨#[]⟩, .int .i64 0, .int .i64 0] s0) := Lib.hid ⟨h, hc, Keep2.refl _ _ _⟩
  obtain ⟨k0, k0'⟩ := blkG hc 0 _ rfl
  have E0 := Lib.hid e0
  have E1 := Lib.hid e1
  have E2 := Lib.hid e2
  clear h hc e0 e1 e2
  go_enter Try.func33, Try.ntmps33
  go_wp2_with (first
    | (go_at_call 50; (with_reducible refine (cx_x H2.out.rd E2.out).mono ?_); rintro e z3 ⟨rfl, hr, hk⟩; have H3 := Lib.hid (H2.out.keep hr hk hne); clear hr hk)
    | (go_at_call 49; (with_reducible refine (day_x H1.out.rd (Nat.le_of_lt (Nat.lt_of_le_of_lt hT (blk_lt H1.out.cb))) E1.out).mono ?_); rintro e z2 ⟨rfl, hr, hk⟩; have Hx := H1.out.keep hr hk hne; obtain ⟨x1_0, y1_0⟩ := blkG Hx.cb 8 (.int .i64 0) rfl; obtain ⟨x1_1, y1_1⟩ := blkG Hx.cb 9 (.int .i64 0) rfl; obtain ⟨x1_2, y1_2⟩ := blkG Hx.cb 10 (.int .i64 0) rfl; have H2 : Hid (CI w r p bs B T (((z2.setCell ⟨p, 8, none⟩ (.int .i64 dy)).setCell ⟨p, 9, none⟩ (.int .i64 dm)).setCell ⟨p, 10, none⟩ (.int .i64 dd)) #[.int .i64 4, .string ser, .int .i64 0, .string ⟨#[]⟩, .int .i64 0, .int .i64 0, .int .i64 0, .int .i64 0, .int .i64 dy, .int .i64 dm, .int .i64 dd, .slice none 0 0, .string ⟨#[]⟩, .int .i64 0, .int .i64 0] s2) := Lib.hid (((Hx.set 8 (.int .i64 dy) hT (A' := #[.int .i64 4, .string ser, .int .i64 0, .string ⟨#[]⟩, .int .i64 0, .int .i64 0, .int .i64 0, .int .i64 0, .int .i64 dy, .int .i64 0, .int .i64 0, .slice none 0 0, .string ⟨#[]⟩, .int .i64 0, .int .i64 0]) rfl).set 9 (.int .i64 dm) hT (A' := #[.int .i64 4, .string ser, .int .i64 0, .string ⟨#[]⟩, .int .i64 0, .int .i64 0, .int .i64 0, .int .i64 0, .int .i64 dy, .int .i64 dm, .int .i64 0, .slice none 0 0, .string ⟨#[]⟩, .int .i64 0, .int .i64 0]) rfl).set 10 (.int .i64 dd) hT (A' := #[.int .i64 4, .string ser, .int .i64 0, .string ⟨#[]⟩, .int .i64 0, .int .i64 0, .int .i64 0, .int .i64 0, .int .i64 dy, .int .i64 dm, .int .i64 dd, .slice none 0 0, .string ⟨#[]⟩, .int .i64 0, .int .i64 0]) rfl); clear hr hk Hx)
    | (go_at_call 48; (with_reducible refine (tx_x H0.out.rd E0.out).mono ?_); rintro e z1 ⟨rfl, hr, hk⟩; have Hx := H0.out.keep hr hk hne; obtain ⟨x0_0, y0_0⟩ := blkG Hx.cb 1 (.string ⟨#[]⟩) rfl; have H1 : Hid (CI w r p bs B T (z1.setCell ⟨p, 1, none⟩ (.string ser)) #[.int .i64 4, .string ser, .int .i64 0, .string ⟨#[]⟩, .int .i64 0, .int .i64 0, .int .i64 0, .int .i64 0, .int .i64 0, .int .i64 0, .int .i64 0, .slice none 0 0, .string ⟨#[]⟩, .int .i64 0, .int .i64 0] s1) := Lib.hid (Hx.set 1 (.string ser) hT (A' := #[.int .i64 4, .string ser, .int .i64 0, .string ⟨#[]⟩, .int .i64 0, .int .i64 0, .int .i64 0, .int .i64 0, .int .i64 0, .int .i64 0, .int .i64 0, .slice none 0 0, .string ⟨#[]⟩, .int .i64 0, .int .i64 0]) rfl); clear hr hk Hx))
  have hC := blk_lt H3.out.cb
  have hwC := H3.out.kp.size
  obtain ⟨C, hCz⟩ : ∃ C, z3.heap.size = C := ⟨_, rfl⟩
  have HCZ := Lib.hid hCz
  have hC0 : p < C := by omega
  have hwC0 : w.heap.size ≤ C := by omega
  have hC1 : C ≤ z3.heap.size := by omega
  clear H0 H1 H2 hCz hC hwC
  go_loopw [65] (fun iv wq => ∃ (k : Nat) (ev : Value), k ≤ n ∧ iv = .int .i64 (k : Int) ∧ Hid (CI w r p bs B T wq #[.int .i64 4, .string ser, .int .i64 0, .string ⟨#[]⟩, .int .i64 0, .int .i64 0, .int .i64 0, .int .i64 0, .int .i64 dy, .int .i64 dm, .int .i64 dd, ev, .string ⟨#[]⟩, .int .i64 0, .int .i64 0] (lnSt bs sL k)) ∧ Hid (OwnS Ln.cells 4 107 wq C ev (lnsAt bs sL k)) ∧ C ≤ wq.heap.size) (fun iv _ => n - (intOf iv).toNat)
  case atStart => exact ⟨0, _, by omega, rfl, H3, Lib.hid (World.ownsRow_nil _ _ _ _), hC1⟩
  case round =>
    rename World => wq
    obtain ⟨k, ev, hk, rfl, HG, HO, hsq⟩ := hrel
    by_cases hlt2 : k < n
    · have hki : (k : Int) < (n : Int) := by omega
      have HG0 := Lib.hid (HG.out.ext ((Ext.refl wq).alloc (.cells #[.string ⟨#[]⟩, .string ⟨#[]⟩, .int .i64 0, .int .i64 0] 107)))
      have HX0 := Lib.hid (new_blk wq (.cells #[.string ⟨#[]⟩, .string ⟨#[]⟩, .int .i64 0, .int .i64 0] 107))
      have HO0 := Lib.hid (OwnS.ext HO.out ((Ext.refl wq).alloc (.cells #[.string ⟨#[]⟩, .string ⟨#[]⟩, .int .i64 0, .int .i64 0] 107)))
      have HNE : Hid (∀ a m c', ev = .slice (some a) m c' → a.block ≠ wq.heap.size) := Lib.hid fun a m c' he => Nat.ne_of_lt (own_blkE HO.out a m c' he).1
      have hxr : wq.heap.size ≠ r := by omega
      have hrC : r < C := by omega
      have hTx : T ≤ wq.heap.size := by omega
      have hpx : p ≠ wq.heap.size := by omega
      have hwx : w.heap.size ≤ wq.heap.size := by omega
      obtain ⟨q0, hq0⟩ : ∃ s, lnSt bs sL k = s := ⟨_, rfl⟩
      obtain ⟨tt, q1, hq1⟩ : ∃ t s, tR bs q0 = (t, s) := ⟨_, _, rfl⟩
      obtain ⟨tc, q2, hq2⟩ : ∃ t s, tR bs q1 = (t, s) := ⟨_, _, rfl⟩
      obtain ⟨co, q3, hq3⟩ : ∃ t s, rNum bs q2 = (t, s) := ⟨_, _, rfl⟩
      obtain ⟨pr, q4, hq4⟩ : ∃ t s, rNum bs q3 = (t, s) := ⟨_, _, rfl⟩
      have hln : lnR bs (lnSt bs sL k) = (⟨tt, tc, co, pr⟩, q4) := by
        rw [hq0]; unfold lnR; simp only [hq1, hq2, hq3, hq4]
      rw [hq0] at HG0
      have HLN := Lib.hid hln
      have F0 := Lib.hid hq1
      have F1 := Lib.hid hq2
      have F2 := Lib.hid hq3
      have F3 := Lib.hid hq4
      clear hln hq0 hq1 hq2 hq3 hq4
      go_wp2_with (first
        | (go_at_call 17; (with_reducible refine (nx_x HG3.out.rd F3.out).mono ?_); rintro e u4 ⟨rfl, hr, hk⟩; have Hx := HG3.out.keep hr hk hne; have Xx := keep_blk hk HX3.out hxr; have Ox := OwnS.keepR HO3.out hk hrC; obtain ⟨m3, n3⟩ := blkG Xx 3 (.int .i64 0) rfl; have HG4 := Lib.hid (Hx.setO (b := wq.heap.size) 3 (.int .i64 pr) hTx hpx hwx); have HX4 : Hid ((u4.setCell ⟨wq.heap.size, 3, none⟩ (.int .i64 pr)).heap[wq.heap.size]? = some (.cells #[.string tt, .string tc, .int .i64 co, .int .i64 pr] 107 (0, 0))) := Lib.hid (heap_setCell_same _ _ 3 _ _ (.int .i64 pr) Xx); have HO4 := Lib.hid (OwnS.setO (o := 3) (u := .int .i64 pr) Ox HNE.out); obtain ⟨c11, g11⟩ := blkG HG4.out.cb 11 ev rfl; obtain ⟨l0, _⟩ := blkG HX4.out 0 (.string tt) rfl; obtain ⟨l1, _⟩ := blkG HX4.out 1 (.string tc) rfl; obtain ⟨l2, _⟩ := blkG HX4.out 2 (.int .i64 co) rfl; obtain ⟨l3, _⟩ := blkG HX4.out 3 (.int .i64 pr) rfl; clear hr hk Hx Xx Ox)
        | (go_at_call 17; (with_reducible refine (nx_x HG2.out.rd F2.out).mono ?_); rintro e u3 ⟨rfl, hr, hk⟩; have Hx := HG2.out.keep hr hk hne; have Xx := keep_blk hk HX2.out hxr; have Ox := OwnS.keepR HO2.out hk hrC; obtain ⟨m2, n2⟩ := blkG Xx 2 (.int .i64 0) rfl; have HG3 := Lib.hid (Hx.setO (b := wq.heap.size) 2 (.int .i64 co) hTx hpx hwx); have HX3 : Hid ((u3.setCell ⟨wq.heap.size, 2, none⟩ (.int .i64 co)).heap[wq.heap.size]? = some (.cells #[.string tt, .string tc, .int .i64 co, .int .i64 0] 107 (0, 0))) := Lib.hid (heap_setCell_same _ _ 2 _ _ (.int .i64 co) Xx); have HO3 := Lib.hid (OwnS.setO (o := 2) (u := .int .i64 co) Ox HNE.out); clear hr hk Hx Xx Ox)
        | (go_at_call 48; (with_reducible refine (tx_x HG1.out.rd F1.out).mono ?_); rintro e u2 ⟨rfl, hr, hk⟩; have Hx := HG1.out.keep hr hk hne; have Xx := keep_blk hk HX1.out hxr; have Ox := OwnS.keepR HO1.out hk hrC; obtain ⟨m1, n1⟩ := blkG Xx 1 (.string ⟨#[]⟩) rfl; have HG2 := Lib.hid (Hx.setO (b := wq.heap.size) 1 (.string tc) hTx hpx hwx); have HX2 : Hid ((u2.setCell ⟨wq.heap.size, 1, none⟩ (.string tc)).heap[wq.heap.size]? = some (.cells #[.string tt, .string tc, .int .i64 0, .int .i64 0] 107 (0, 0))) := Lib.hid (heap_setCell_same _ _ 1 _ _ (.string tc) Xx); have HO2 := Lib.hid (OwnS.setO (o := 1) (u := .string tc) Ox HNE.out); clear hr hk Hx Xx Ox)
        | (go_at_call 48; (with_reducible refine (tx_x HG0.out.rd F0.out).mono ?_); rintro e u1 ⟨rfl, hr, hk⟩; have Hx := HG0.out.keep hr hk hne; have Xx := keep_blk hk HX0.out hxr; have Ox := OwnS.keepR HO0.out hk hrC; obtain ⟨m0, n0⟩ := blkG Xx 0 (.string ⟨#[]⟩) rfl; have HG1 := Lib.hid (Hx.setO (b := wq.heap.size) 0 (.string tt) hTx hpx hwx); have HX1 : Hid ((u1.setCell ⟨wq.heap.size, 0, none⟩ (.string tt)).heap[wq.heap.size]? = some (.cells #[.string tt, .string ⟨#[]⟩, .int .i64 0, .int .i64 0] 107 (0, 0))) := Lib.hid (heap_setCell_same _ _ 0 _ _ (.string tt) Xx); have HO1 := Lib.hid (OwnS.setO (o := 0) (u := .string tt) Ox HNE.out); clear hr hk Hx Xx Ox))
      have hs5 : C ≤ (u4.setCell ⟨wq.heap.size, 3, none⟩ (.int .i64 pr)).heap.size := Nat.le_of_lt (Nat.lt_of_le_of_lt hsq (blk_lt HX4.out))
      have hx5 : wq.heap.size < (u4.setCell ⟨wq.heap.size, 3, none⟩ (.int .i64 pr)).heap.size := blk_lt HX4.out
      have hp5 : p < (u4.setCell ⟨wq.heap.size, 3, none⟩ (.int .i64 pr)).heap.size := blk_lt HG4.out.cb
      clear HG0 HG1 HG2 HG3 HX0 HX1 HX2 HX3 HO0 HO1 HO2 HO3 m0 m1 m2 m3 n0 n1 n2 n3 F0 F1 F2 F3
      generalize u4.setCell ⟨wq.heap.size, 3, none⟩ (.int .i64 pr) = Z at *
      have HOK : Hid (Z.ownsRow C 107 4 ev k ((lnsAt bs sL k).flatMap Ln.cells)) := Lib.hid (by have := HO4.out; unfold OwnS at this; rwa [lnsAt_len] at this)
      have hap : ∀ {x : World} {v' : Value} {y : World}, Apart ev x v' y → wq.heap.size < x.heap.size → y.heap[wq.heap.size]? = x.heap[wq.heap.size]? := fun h hl => (h _ hl HNE.out).1
      have hxp : wq.heap.size ≠ p := Ne.symm hpx
      have HPF : Hid (∀ z : World, z.heap[p]? = Z.heap[p]? → z.cell? ⟨p, 11, none⟩ = some ev ∧ z.frozen? ⟨p, 11, none⟩ = false) := Lib.hid fun z h1 => ⟨(World.cell?_of_block (a := ⟨p, 11, none⟩) h1).trans c11, (by have := g11; simp only [World.frozen?, h1] at this ⊢; exact this)⟩
      go_region_law
        ((refine step_own_src2 _ (by rfl) _ _ _ _ (by rfl) C 107 i0 _ 4 48 Try.underlying29 hi iz0 iz1 iz2 rfl (by decide) ev (.slice (some ⟨Z.heap.size, 0, none⟩) 1 1) k 1 _ [.string tt, .string tc, .int .i64 co, .int .i64 pr] ((HOK.out.alloc _).drew) (src_new Try.underlying29 _ rfl (by intro u hu; simp only [List.mem_cons, List.not_mem_nil, or_false] at hu; rcases hu with rfl | rfl | rfl | rfl <;> rfl) (heap_alloc_new Z _)) (by rfl) (by rfl) (by unfold maxLen; omega) (by omega) (by simp; omega) ?_; intro v7 w7 ho7 hb7 ha7; obtain ⟨_, _, a7, c7, hev7, _⟩ := SlR.of_own ho7; subst hev7; obtain ⟨d11, e11⟩ := HPF.out w7 ((Below.block hb7 _ hC0).trans (Below.heap_alloc _ _ _ hp5))))
      all_goals
        have HG7 : Hid (CI w r p bs B T (w7.setCell ⟨p, 11, none⟩ (.slice a7 (k + 1) c7)) #[.int .i64 4, .string ser, .int .i64 0, .string ⟨#[]⟩, .int .i64 0, .int .i64 0, .int .i64 0, .int .i64 0, .int .i64 dy, .int .i64 dm, .int .i64 dd, .slice a7 (k + 1) c7, .string ⟨#[]⟩, .int .i64 0, .int .i64 0] q4) := Lib.hid (((HG4.out.ext (((Ext.refl Z).alloc _).drew)).below hb7 (by omega) hC0 hwC0).set 11 _ hT rfl)
        have hl1 : lnSt bs sL (k + 1) = q4 := by show (lnR bs (lnSt bs sL k)).2 = q4; rw [HLN.out]
        have hl2 : lnsAt bs sL (k + 1) = lnsAt bs sL k ++ [⟨tt, tc, co, pr⟩] := by rw [lnsAt_succ, HLN.out]
        have HL1 := Lib.hid hl1
        have HO7 : Hid (OwnS Ln.cells 4 107 w7 C (.slice a7 (k + 1) c7) (lnsAt bs sL (k + 1))) := Lib.hid (by
          rw [hl2]
          unfold OwnS
          rw [List.length_append, lnsAt_len, List.flatMap_append]
          simpa [Ln.cells] using ho7)
        have HO8 := Lib.hid (OwnS.setO (b := p) (o := 11) (u := .slice a7 (k + 1) c7) HO7.out fun a m c' he => Nat.ne_of_gt (Nat.lt_of_lt_of_le hC0 (own_blkE HO7.out a m c' he).2))
        have hs7 : C ≤ (w7.setCell ⟨p, 11, none⟩ (.slice a7 (k + 1) c7)).heap.size := by
          have := hb7.size
          simp at this ⊢
          omega
        clear HG4 HX4 HO4 c11 g11 l0 l1 l2 l3 hs5 hx5 hp5 HOK hap HPF d11 e11 ho7 hb7 ha7 HO7 hl1 hl2 HLN hxp
        go_wp2_with fail
        go_roundw
        case rel => exact ⟨k + 1, _, by omega, by simp, Lib.hid (by rw [HL1.out]; exact HG7.out), HO8, hs7⟩
        case measure => simp [intOf]; omega
    · have hki : ¬ (k : Int) < (n : Int) := by omega
      obtain rfl : k = n := by omega
      obtain ⟨a2, c2, hev, _, _⟩ := OwnS.form HO.out
      rw [lnsAt_len] at hev
      subst hev
      go_wp2_with fail
      go_end0
      exact ⟨rfl, a2, c2, HG.out, OwnS.base HO.out hwC0⟩
end
end
section

section
variable {B T r p : Nat} {bs : List UInt8} {w : World}
theorem read_ok {k : Int} (hk : 1 ≤ k ∧ k ≤ 8) {s s' : RS} {c : Cm} {ls : List Ln} (hg : gR bs k s = (c, ls, s')) (hc : w.heap[p]? = some (.cells #[.int .i64 k, .string ⟨#[]⟩, .int .i64 0, .string ⟨#[]⟩, .int .i64 0, .int .i64 0, .int .i64 0, .int .i64 0, .int .i64 0, .int .i64 0, .int .i64 0, .slice none 0 0, .string ⟨#[]⟩, .int .i64 0, .int .i64 0] 33 (0, 0))) (h : RdX B T w r bs s) (hT : T ≤ p) : Calls Try.prog 33 #[.pointer (some ⟨r, 0, none⟩), .pointer (some ⟨p, 0, none⟩)] w fun e w' => e = .returned (.tuple #[]) ∧ ∃ a' c', CI w r p bs B T w' #[.int .i64 c.kd, .string c.ser, .int .i64 c.lim, .string c.cat, .int .i64 c.ry, .int .i64 c.rm, .int .i64 c.rd, .int .i64 c.bp, .int .i64 c.dy, .int .i64 c.dm, .int .i64 c.dd, .slice a' ls.length c', .string c.ofs, .int .i64 c.ofn, .int .i64 c.ses] s' ∧ OwnS Ln.cells 4 107 w' w.heap.size (.slice a' ls.length c') ls := by
  have hk' : k = 1 ∨ k = 2 ∨ k = 3 ∨ k = 4 ∨ k = 5 ∨ k = 6 ∨ k = 7 ∨ k = 8 := by omega
  clear hk
  rcases hk' with rfl | rfl | rfl | rfl | rfl | rfl | rfl | rfl
  · have h1 : ((⟨1, (tR bs s).1, (rNum bs (tR bs s).2).1, ⟨#[]⟩, 0, 0, 0, 0, 0, 0, 0, ⟨#[]⟩, 0, 0⟩ : Cm), ([] : List Ln), (rNum bs (tR bs s).2).2) = (c, ls, s') := hg
    cases h1
    refine (read_1 rfl rfl hc h hT).mono ?_
    rintro e w' ⟨rfl, h⟩
    exact ⟨rfl, none, 0, h, nil_own⟩
  · have h1 : ((⟨2, (tR bs s).1, 0, ⟨#[]⟩, 0, 0, 0, 0, 0, 0, 0, ⟨#[]⟩, 0, 0⟩ : Cm), ([] : List Ln), (tR bs s).2) = (c, ls, s') := hg
    cases h1
    refine (read_2 rfl hc h hT).mono ?_
    rintro e w' ⟨rfl, h⟩
    exact ⟨rfl, none, 0, h, nil_own⟩
  · have h1 : ((⟨3, ⟨#[]⟩, 0, (tR bs s).1, (dR bs (tR bs s).2).1.1, (dR bs (tR bs s).2).1.2.1, (dR bs (tR bs s).2).1.2.2, (rNum bs (dR bs (tR bs s).2).2).1, 0, 0, 0, ⟨#[]⟩, 0, 0⟩ : Cm), ([] : List Ln), (rNum bs (dR bs (tR bs s).2).2).2) = (c, ls, s') := hg
    cases h1
    refine (read_3 rfl rfl rfl hc h hT).mono ?_
    rintro e w' ⟨rfl, h⟩
    exact ⟨rfl, none, 0, h, nil_own⟩
  · have h1 : (⟨4, (tR bs s).1, 0, ⟨#[]⟩, 0, 0, 0, 0, (dR bs (tR bs s).2).1.1, (dR bs (tR bs s).2).1.2.1, (dR bs (tR bs s).2).1.2.2, ⟨#[]⟩, 0, 0⟩, lnsAt bs (lcR bs (dR bs (tR bs s).2).2).2 (lcR bs (dR bs (tR bs s).2).2).1, lnSt bs (lcR bs (dR bs (tR bs s).2).2).2 (lcR bs (dR bs (tR bs s).2).2).1) = (c, ls, s') := hg
    cases h1
    refine (read_4 rfl rfl rfl hc h hT).mono ?_
    rintro e w' ⟨rfl, a', c', h, ho⟩
    refine ⟨rfl, a', c', ?_, ?_⟩
    · rw [lnsAt_len]; exact h
    · rw [lnsAt_len]; exact ho
  · have h1 : ((⟨5, (tR bs s).1, 0, ⟨#[]⟩, 0, 0, 0, 0, (dR bs (tR bs s).2).1.1, (dR bs (tR bs s).2).1.2.1, (dR bs (tR bs s).2).1.2.2, (tR bs (dR bs (tR bs s).2).2).1, (rNum bs (tR bs (dR bs (tR bs s).2).2).2).1, 0⟩ : Cm), ([] : List Ln), (rNum bs (tR bs (dR bs (tR bs s).2).2).2).2) = (c, ls, s') := hg
    cases h1
    refine (read_5 rfl rfl rfl rfl hc h hT).mono ?_
    rintro e w' ⟨rfl, h⟩
    exact ⟨rfl, none, 0, h, nil_own⟩
  · have h1 : ((⟨6, ⟨#[]⟩, 0, ⟨#[]⟩, 0, 0, 0, 0, 0, 0, 0, ⟨#[]⟩, 0, 0⟩ : Cm), ([] : List Ln), s) = (c, ls, s') := hg
    cases h1
    refine (read_6 hc h hT).mono ?_
    rintro e w' ⟨rfl, h⟩
    exact ⟨rfl, none, 0, h, nil_own⟩
  · have h1 : ((⟨7, ⟨#[]⟩, 0, ⟨#[]⟩, 0, 0, 0, 0, 0, 0, 0, ⟨#[]⟩, 0, (rNum bs s).1⟩ : Cm), ([] : List Ln), (rNum bs s).2) = (c, ls, s') := hg
    cases h1
    refine (read_7 rfl hc h hT).mono ?_
    rintro e w' ⟨rfl, h⟩
    exact ⟨rfl, none, 0, h, nil_own⟩
  · have h1 : ((⟨8, (tR bs s).1, 0, ⟨#[]⟩, 0, 0, 0, 0, 0, 0, 0, ⟨#[]⟩, 0, 0⟩ : Cm), ([] : List Ln), (tR bs s).2) = (c, ls, s') := hg
    cases h1
    refine (read_8 rfl hc h hT).mono ?_
    rintro e w' ⟨rfl, h⟩
    exact ⟨rfl, none, 0, h, nil_own⟩
end
theorem rNum_z64 (bs : List UInt8) (s : RS) : Z64 (rNum bs s).1 := rNum_bd bs s
theorem gR_kd (bs : List UInt8) (k : Int) (s : RS) (hk : 1 ≤ k ∧ k ≤ 8) : (gR bs k s).1.kd = k := by
  have hk' : k = 1 ∨ k = 2 ∨ k = 3 ∨ k = 4 ∨ k = 5 ∨ k = 6 ∨ k = 7 ∨ k = 8 := by omega
  rcases hk' with rfl | rfl | rfl | rfl | rfl | rfl | rfl | rfl <;> rfl
theorem gR_in (bs : List UInt8) (k : Int) (s : RS) (hk : 1 ≤ k ∧ k ≤ 8) : (gR bs k s).1.In := by
  have hk' : k = 1 ∨ k = 2 ∨ k = 3 ∨ k = 4 ∨ k = 5 ∨ k = 6 ∨ k = 7 ∨ k = 8 := by omega
  have z0 : ∀ n : Int, -8 ≤ n → n ≤ 8 → Z64 n := fun n h1 h2 => ⟨by omega, by omega⟩
  rcases hk' with rfl | rfl | rfl | rfl | rfl | rfl | rfl | rfl <;> constructor <;> first | exact rNum_z64 _ _ | exact z0 0 (by decide) (by decide) | exact z0 1 (by decide) (by decide) | exact z0 2 (by decide) (by decide) | exact z0 3 (by decide) (by decide) | exact z0 4 (by decide) (by decide) | exact z0 5 (by decide) (by decide) | exact z0 6 (by decide) (by decide) | exact z0 7 (by decide) (by decide) | exact z0 8 (by decide) (by decide)
theorem lnsAt_in (bs : List UInt8) (s : RS) (n : Nat) : LnIn (lnsAt bs s n) := by
  intro x hx
  obtain ⟨i, _, rfl⟩ := List.mem_map.1 hx
  exact ⟨rNum_z64 _ _, rNum_z64 _ _⟩
theorem gR_lnin (bs : List UInt8) (k : Int) (s : RS) (hk : 1 ≤ k ∧ k ≤ 8) : LnIn (gR bs k s).2.1 := by
  have hk' : k = 1 ∨ k = 2 ∨ k = 3 ∨ k = 4 ∨ k = 5 ∨ k = 6 ∨ k = 7 ∨ k = 8 := by omega
  rcases hk' with rfl | rfl | rfl | rfl | rfl | rfl | rfl | rfl <;> first | exact lnsAt_in _ _ _ | (intro x hx; cases hx)
theorem gR_ls (bs : List UInt8) (k : Int) (s : RS) (hk : 1 ≤ k ∧ k ≤ 8) : (gR bs k s).1.ls (gR bs k s).2.1 = (gR bs k s).2.1 ∧ (gR bs k s).1.n (gR bs k s).2.1.length = (gR bs k s).2.1.length ∧ (gR bs k s).2.1.length ≤ 12 := by
  have hk' : k = 1 ∨ k = 2 ∨ k = 3 ∨ k = 4 ∨ k = 5 ∨ k = 6 ∨ k = 7 ∨ k = 8 := by omega
  rcases hk' with rfl | rfl | rfl | rfl | rfl | rfl | rfl | rfl
  iterate 3 exact ⟨rfl, rfl, Nat.zero_le _⟩
  · exact ⟨rfl, rfl, by show (lnsAt _ _ _).length ≤ 12; rw [lnsAt_len]; exact (lcR_is _ _).2⟩
  iterate 4 exact ⟨rfl, rfl, Nat.zero_le _⟩
end
end
end Go.Proofs.Ytochgmpcdmahkaa
