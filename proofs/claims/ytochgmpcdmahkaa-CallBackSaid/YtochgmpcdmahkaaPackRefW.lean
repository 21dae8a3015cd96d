/- Contracts of the document's writers (impostref1): Num, Text, Flag. -/
import Derived.Test.YtochgmpcdmahkaaPackRuns
namespace Go.Proofs.Ytochgmpcdmahkaa
open Go.RowKit

theorem refxor (n : Int) (h0 : -9223372036854775808 ≤ n) (h1 : n ≤ 9223372036854775807) :
    bits .xor .u64 (IntKind.u64.wrap (IntKind.u64.wrap n * 2)) (IntKind.u64.wrap (n / 9223372036854775808)) = (zig n : Int) := by
  by_cases hn : n < 0
  · have e1 : IntKind.u64.wrap (IntKind.u64.wrap n * 2) = ((2 * n + 18446744073709551616).toNat : Nat) := by
      rw [IntKind.wrap_u64, IntKind.wrap_u64]; omega
    have e2 : IntKind.u64.wrap (n / 9223372036854775808) = ((18446744073709551615 : Nat) : Int) := by
      rw [IntKind.wrap_u64]; omega
    have h := xor_max (2 * n + 18446744073709551616).toNat (by omega)
    rw [show IntKind.u64.max = ((18446744073709551615 : Nat) : Int) from rfl, u64_xor_nat _ _ (by decide) (by omega), Nat.xor_comm] at h
    rw [e1, e2, u64_xor_nat _ _ (by omega) (by decide), h]
    unfold zig
    rw [if_neg (by omega)]
    omega
  · have e1 : IntKind.u64.wrap (IntKind.u64.wrap n * 2) = ((2 * n).toNat : Nat) := by
      rw [IntKind.wrap_u64, IntKind.wrap_u64]; omega
    have e2 : IntKind.u64.wrap (n / 9223372036854775808) = ((0 : Nat) : Int) := by
      rw [IntKind.wrap_u64]; omega
    rw [e1, e2, u64_xor_nat _ _ (by omega) (by decide), Nat.xor_zero]
    unfold zig
    rw [if_pos (by omega)]

theorem or128_ref (u : Nat) (h : u < 18446744073709551616) : bits .or .u8 (bits .and .u64 (u : Int) 127 % 256) 128 = 128 + (u : Int) % 128 := by
  have e : bits .and .u64 (u : Int) 127 = ((u % 128 : Nat) : Int) := by
    rw [show (127 : Int) = ((127 : Nat) : Int) from rfl, u64_and_nat _ _ h (by decide)]
    congr 1
    rw [show (127 : Nat) = 2 ^ 7 - 1 from rfl, Nat.and_two_pow_sub_one_eq_mod]
  rw [e, or128_u8]
  omega

set_option maxHeartbeats 1000000 in
set_option maxRecDepth 100000 in
theorem refnum_any (v : Value) (l : List UInt8) (n : Int) (w : World) (hr : Rd8 w v l) (hn0 : -9223372036854775808 ≤ n) (hn1 : n ≤ 9223372036854775807) (h2 : l.length ≤ 140737488355300) :
    Calls Try.prog 23 #[v, .int .i64 n] w fun e w' => ∃ v', e = .returned v' ∧ Own8 5 w' w.heap.size v' (l ++ numL n) ∧ Ext w w' := by
  obtain ⟨i0, hi, hz0, hz1, hz2⟩ := info_parts Try.infoU8
  have hzl := zig_lt n hn0 hn1
  have hrx := refxor n hn0 hn1
  have HRX := Lib.hid hrx
  clear hrx
  go_enter Try.func23, Try.ntmps23
  go_wp2_with (at_builtin; go_loud (refine wpList_own_src _ rfl _ _ 55 55 rfl w.heap.size 5 i0 (.int .u8 0) 1 1 Try.underlying55 hi hz0 hz1 hz2 rfl (by decide) _ _ 0 l.length [] _ (own_empty _ _ (Nat.le_refl _)) (src_of_slr (P := Try.prog) Try.underlying55 (hr.ext ((Ext.refl w).alloc _)) (bcell_one _)) rfl rfl ?c1 ?c2 ?c3 ?_))
  case c1 => unfold maxLen; omega
  case c2 => omega
  case c3 => simp
  intro v1 w1 ho1 hb1
  have hx1 : Ext w w1 := Below.trans ((Ext.refl w).alloc _) hb1
  have R1 : Own8 5 w1 w.heap.size v1 l := own8_of ho1 (by simp) (by simp)
  clear ho1 hb1
  go_wp2_with fail
  try rw [HRX.out]
  have hnl : numL n = varF 9 (zig n) := rfl
  have HNL := Lib.hid hnl
  clear hnl HRX
  generalize zig n = z at *
  go_loopw [5, 6] (fun ov uv wr => ∃ (f u : Nat) (acc : List UInt8), uv = .int .u64 (u : Int) ∧ Own8 5 wr w.heap.size ov (l ++ acc) ∧ varF 9 z = acc ++ varF f u ∧ u * 128 ^ (9 - f) < 18446744073709551616 ∧ f ≤ 9 ∧ acc.length + f = 9 ∧ Ext w wr) (fun _ uv _ => (intOf uv).toNat)
  case atStart => exact ⟨9, z, [], rfl, by simpa using R1, rfl, by simpa using hzl, by decide, by simp, hx1⟩
  case round =>
    clear R1 hx1 hzl
    obtain ⟨f, u, acc, rfl, ho, hv, hb, hf, hal, hx⟩ := hrel
    have hu64 : u < 18446744073709551616 := Nat.lt_of_le_of_lt (Nat.le_mul_of_pos_right u (Nat.pos_of_ne_zero (by simp))) hb
    have hxs := hx.size
    by_cases hlt : 128 ≤ u
    · obtain ⟨f', rfl⟩ : ∃ f', f = f' + 1 := by
        cases f with
        | zero =>
          exfalso
          have : u * 128 ^ 9 < 18446744073709551616 := hb
          omega
        | succ f' => exact ⟨f', rfl⟩
      have hstep : varF (f' + 1) u = UInt8.ofNat (128 + u % 128) :: varF f' (u / 128) := by rw [varF, if_neg (by omega)]
      rw [hstep] at hv
      have hb2 : u / 128 * 128 ^ (9 - f') < 18446744073709551616 := by
        have e : 9 - f' = (9 - (f' + 1)) + 1 := by omega
        rw [e, Nat.pow_succ, Nat.mul_comm (128 ^ _) 128, ← Nat.mul_assoc]
        exact Nat.lt_of_le_of_lt (Nat.mul_le_mul_right _ (Nat.div_mul_le_self u 128)) hb
      have HV := Lib.hid hv
      have HB := Lib.hid hb2
      have HAL := Lib.hid hal
      have hob := or128_ref u hu64
      have hcell : Value.int .u8 (128 + (u : Int) % 128) = bcell (UInt8.ofNat (128 + u % 128)) := by
        unfold bcell
        rw [ofNat_nat _ (by omega)]
        congr 1
      have HC := Lib.hid hcell
      clear hv hb hb2 hstep hcell hu64
      have hlen : acc.length ≤ 9 := by omega
      clear hal
      go_wp2_with (at_builtin; refine wpList_own_push rfl _ _ 55 rfl w.heap.size 5 _ i0 (.int .u8 0) 1 1 Try.underlying55 hi hz0 hz1 hz2 rfl (by decide) _ _ 1 _ _ [.int .u8 (128 + (u : Int) % 128)] ho rfl rfl rfl rfl ?d1 ?d2 ?d3 ?d4 ?_)
      case d1 => intro x hx; simp at hx; subst hx; rfl
      case d2 => simp [maxLen]; omega
      case d3 => simp; omega
      case d4 => omega
      intro v' w2 ho2 hb3
      have R : Own8 5 w2 w.heap.size v' (l ++ (acc ++ [UInt8.ofNat (128 + u % 128)])) := own8_of ho2 (by simp <;> omega) (by simp only [List.map_append, List.map_cons, List.map_nil, List.append_assoc, HC.out])
      have hx2 : Ext w w2 := Below.trans hx hb3
      clear ho2 ho hob
      go_wp2
      refine ⟨⟨f', u / 128, acc ++ [UInt8.ofNat (128 + u % 128)], rfl, R, by rw [HV.out]; simp, HB.out, by omega, by simp; have := HAL.out; omega, hx2⟩, ?_⟩
      simp [intOf]
      omega
    · have hlast : varF f u = [UInt8.ofNat u] := by
        cases f with
        | zero => rfl
        | succ f' => rw [varF, if_pos (by omega)]
      rw [hlast] at hv
      have HV := Lib.hid hv
      have hcell : Value.int .u8 (u : Int) = bcell (UInt8.ofNat u) := by
        unfold bcell
        rw [ofNat_nat _ (by omega)]
      have HC := Lib.hid hcell
      clear hv hb hcell hlast hu64
      have hlen : acc.length ≤ 9 := by omega
      clear hal
      go_wp2_with (at_builtin; refine wpList_own_push rfl _ _ 55 rfl w.heap.size 5 _ i0 (.int .u8 0) 1 1 Try.underlying55 hi hz0 hz1 hz2 rfl (by decide) _ _ 1 _ _ [.int .u8 (u : Int)] ho rfl rfl rfl rfl ?e1 ?e2 ?e3 ?e4 ?_)
      case e1 => intro x hx; simp at hx; subst hx; rfl
      case e2 => simp [maxLen]; omega
      case e3 => simp; omega
      case e4 => omega
      intro v' w2 ho2 hb3
      have R : Own8 5 w2 w.heap.size v' (l ++ (acc ++ [UInt8.ofNat u])) := own8_of ho2 (by simp <;> omega) (by simp only [List.map_append, List.map_cons, List.map_nil, List.append_assoc, HC.out])
      have hx2 : Ext w w2 := Below.trans hx hb3
      clear ho2 ho
      go_wp2
      go_ret
      exact ⟨_, rfl, by rw [HNL.out, HV.out]; exact R, hx2⟩

set_option maxHeartbeats 1000000 in
set_option maxRecDepth 100000 in
theorem reftext_any (v : Value) (l : List UInt8) (s : ByteArray) (w : World) (hr : Rd8 w v l) (h2 : l.length + s.size ≤ 140737488355300) :
    Calls Try.prog 38 #[v, .string s] w fun e w' => ∃ v', e = .returned v' ∧ Own8 5 w' w.heap.size v' (l ++ textL s) ∧ Ext w w' := by
  obtain ⟨i0, hi, hz0, hz1, hz2⟩ := info_parts Try.infoU8
  go_enter Try.func38, Try.ntmps38
  go_wp2_with fail
  refine (refnum_any v l _ w hr (by omega) (by omega) (by omega)).mono ?_
  rintro e w2 ⟨v2, rfl, ho2, hx2⟩
  have hs := Src.ofString (P := Try.prog) w2 Try.underlying9 s
  have hlen := numL_len (s.size : Int)
  have hxs2 := hx2.size
  have htl : l ++ textL s = (l ++ numL (s.size : Int)) ++ bytesOf s := by simp [textL]
  have HT := Lib.hid htl
  clear htl
  go_wp2_with (at_builtin; refine wpList_own_src _ rfl _ _ 55 9 rfl w.heap.size 5 i0 (.int .u8 0) 1 1 Try.underlying55 hi hz0 hz1 hz2 rfl (by decide) _ _ _ _ _ _ ho2 hs rfl rfl ?c1 ?c2 ?c3 ?_)
  case c1 => unfold maxLen; simp; omega
  case c2 => simp; omega
  case c3 => omega
  intro v' w3 ho3 hb3
  have R : Own8 5 w3 w.heap.size v' (l ++ textL s) := by
    rw [HT.out]
    exact own8_of ho3 (by simp [bytesOf_len] <;> omega) (by simp only [List.map_append, List.append_assoc, byteCells_eq, bytesOf])
  have hx3 : Ext w w3 := Below.trans hx2 hb3
  clear ho3 hs
  go_wp2
  go_ret
  exact ⟨_, rfl, R, hx3⟩

end Go.Proofs.Ytochgmpcdmahkaa
