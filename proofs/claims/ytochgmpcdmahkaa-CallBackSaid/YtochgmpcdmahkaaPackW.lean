/- Contracts of package pack's writers: more, Num, Text, Flag. -/
import Derived.Test.YtochgmpcdmahkaaProg
import Derived.Test.YtochgmpcdmahkaaPackSpec
namespace Go.Proofs.Ytochgmpcdmahkaa
open Go.RowKit

theorem Try.infoU8 : (Try.prog.info? 5).map (fun i => (i.zero, i.size, i.bytes)) = some (some (.int .u8 0), 1, 1) := by kernel_rfl

/-- A slice that reads as cells, as what an append takes. -/
theorem src_of_slr {P : Program} {w : World} {B n size : Nat} {v : Value} {xs : List Value} {t e : TypeId} (ht : P.underlying t = some (.slice e)) (h : SlR w B size v n xs) (h1 : ∀ u ∈ xs, u.oneCell' = true) : Src P size t v n xs w := by
  obtain ⟨hl, _, a, cap, rfl, h⟩ := h
  rcases h with rfl | ⟨b, off, rfl, _, hc⟩
  · have hx : xs = [] := List.eq_nil_of_length_eq_zero (by simpa using hl)
    subst hx
    cases a with
    | none => exact Src.ofNil _ ht cap
    | some ad => exact Src.ofSlice _ ht ad 0 cap [] (by simp) (fun j u hj => by simp at hj) (fun u hu => by cases hu)
  · refine Src.ofSlice _ ht _ n cap xs hl (fun j u hj => ?_) h1
    have hj' : j < xs.length := by
      rcases Nat.lt_or_ge j xs.length with h | h
      · exact h
      · rw [List.getElem?_eq_none h] at hj; cases hj
    have e1 : (⟨b, off, none⟩ : Addr).add j = ⟨b, off + j, none⟩ := by unfold Addr.add; split <;> simp_all
    rw [e1, hc j (by omega)]
    exact hj
/-- Bytes that a slice reads as. -/
def Rd8 (w : World) (v : Value) (l : List UInt8) : Prop := SlR w w.heap.size 1 v l.length (l.map bcell)
theorem Rd8.ext {w w' : World} {v : Value} {l : List UInt8} (h : Rd8 w v l) (hx : Ext w w') : Rd8 w' v l := (SlR.ext h hx).up hx.size
theorem Own8.rd {te : TypeId} {w : World} {B : Nat} {v : Value} {l : List UInt8} (h : Own8 te w B v l) : Rd8 w v l := h.slr
theorem Rd8.nil (w : World) : Rd8 w (.slice none 0 0) [] := SlR.nil _ _ _

set_option maxHeartbeats 400000 in
theorem more_any (v : Value) (l : List UInt8) (room : Int) (w : World) (hr : Rd8 w v l) (h0 : 0 ≤ room) (h1 : (l.length : Int) + room ≤ 281474976710656) (h2 : l.length ≤ 140737488355328) :
    Calls Try.prog 31 #[v, .int .i64 room] w fun e w' => ∃ v', e = .returned v' ∧ Own8 5 w' w.heap.size v' l ∧ Ext w w' := by
  obtain ⟨i0, hi, hz0, hz1, hz2⟩ := info_parts Try.infoU8
  have hr0 := hr
  obtain ⟨_, _, a, cap, rfl, _⟩ := hr0
  obtain ⟨R, rfl⟩ := Int.eq_ofNat_of_zero_le h0
  have HC : Hid ((l.length : Int) + (R : Int) = ((l.length + R : Nat) : Int)) := Lib.hid (by omega)
  go_enter Try.func31, Try.ntmps31
  go_wp2_with (at_make; refine wpList_make_own _ rfl _ _ 55 rfl w.heap.size 5 i0 (.int .u8 0) 1 Try.underlying55 hi hz0 hz1 .i64 .i64 _ (l.length + R) rfl rfl HC.out ?b2 ?b3 ?b4 ?_)
  case b2 => rw [hz2]; omega
  case b3 => unfold maxLen; omega
  case b4 => exact Nat.le_refl _
  intro w1 hown hg
  have hx : Ext w w1 := (Below.refl w.heap.size w).grown hg (Nat.le_refl _) (fun k hk => by cases hk)
  have hs := src_of_slr (P := Try.prog) Try.underlying55 (hr.ext hx) (bcell_one l)
  go_wp2_with (at_builtin; refine wpList_own_src _ rfl _ _ 55 55 rfl w.heap.size 5 i0 (.int .u8 0) 1 1 Try.underlying55 hi hz0 hz1 hz2 rfl (by decide) _ _ _ _ _ _ hown hs rfl rfl ?c1 ?c2 ?c3 ?_)
  case c1 => unfold maxLen; omega
  case c2 => omega
  case c3 => exact hx.size
  intro v' w2 ho2 hb2
  have R2 : Own8 5 w2 w.heap.size v' l := own8_of ho2 (by simp) (by simp)
  clear ho2
  go_wp2
  go_ret
  exact ⟨_, rfl, R2, Below.trans hx hb2⟩

theorem or128 : ∀ x : Nat, x < 256 → x ||| 128 = 128 + x % 128 := by decide +kernel
theorem or128_u8 (u : Nat) : bits .or .u8 ((u : Int) % 256) 128 = 128 + (u : Int) % 128 := by
  have e : (u : Int) % 256 = ((u % 256 : Nat) : Int) := by omega
  rw [e, show (128 : Int) = ((128 : Nat) : Int) from rfl, u8_or_nat _ _ (by omega) (by decide), or128 _ (by omega)]
  omega
theorem xor_max (m : Nat) (h : m < 18446744073709551616) : bits .xor .u64 IntKind.u64.max (m : Int) = ((18446744073709551615 - m : Nat) : Int) := by
  rw [show IntKind.u64.max = ((18446744073709551615 : Nat) : Int) from rfl, u64_xor_nat _ _ (by decide) h]
  have h2 := BitVec.toNat_not (x := BitVec.ofNat 64 m)
  rw [BitVec.not_def, BitVec.toNat_xor, BitVec.toNat_allOnes, BitVec.toNat_ofNat, Nat.mod_eq_of_lt h] at h2
  exact congrArg Int.ofNat h2
theorem zneg (n : Int) (h : n < 0) (h1 : -9223372036854775808 ≤ n) : bits .xor .u64 IntKind.u64.max (IntKind.u64.wrap (IntKind.u64.wrap n * 2)) = (zig n : Int) := by
  have e1 : IntKind.u64.wrap (IntKind.u64.wrap n * 2) = ((2 * n + 18446744073709551616).toNat : Nat) := by
    rw [IntKind.wrap_u64, IntKind.wrap_u64]; omega
  rw [e1, xor_max _ (by omega)]
  unfold zig
  rw [if_neg (by omega)]
  omega
theorem zpos (n : Int) (h : 0 ≤ n) : n * 2 = (zig n : Int) := by
  unfold zig
  rw [if_pos h]
  omega

set_option maxHeartbeats 1000000 in
set_option maxRecDepth 100000 in
theorem num_any (v : Value) (l : List UInt8) (n : Int) (w : World) (hr : Rd8 w v l) (hn0 : -9223372036854775808 ≤ n) (hn1 : n ≤ 9223372036854775807) (h2 : l.length ≤ 140737488355300) :
    Calls Try.prog 15 #[v, .int .i64 n] w fun e w' => ∃ v', e = .returned v' ∧ Own8 5 w' w.heap.size v' (l ++ numL n) ∧ Ext w w' := by
  obtain ⟨i0, hi, hz0, hz1, hz2⟩ := info_parts Try.infoU8
  have hzl := zig_lt n hn0 hn1
  by_cases hneg : n < 0
  all_goals
    go_enter Try.func15, Try.ntmps15
    go_wp2_with fail
    refine (more_any v l 10 w hr (by decide) (by omega) (by omega)).mono ?_
    rintro e w1 ⟨v1, rfl, ho1, hx1⟩
    go_wp2
    first
      | rw [zneg n hneg hn0]
      | rw [zpos n (by omega)]
    have hnl : numL n = varF 9 (zig n) := rfl
    have HNL := Lib.hid hnl
    clear hnl
    generalize zig n = z at *
    go_loopw [5, 6] (fun ov uv wr => ∃ (f u : Nat) (acc : List UInt8), uv = .int .u64 (u : Int) ∧ Own8 5 wr w.heap.size ov (l ++ acc) ∧ varF 9 z = acc ++ varF f u ∧ u * 128 ^ (9 - f) < 18446744073709551616 ∧ f ≤ 9 ∧ acc.length + f = 9 ∧ Ext w wr) (fun _ uv _ => (intOf uv).toNat)
    case atStart => exact ⟨9, z, [], rfl, by simpa using ho1, rfl, by simpa using hzl, by decide, by simp, hx1⟩
    case round =>
      clear ho1 hx1 hzl
      obtain ⟨f, u, acc, rfl, ho, hv, hb, hf, hal, hx⟩ := hrel
      have hu64 : u < 18446744073709551616 := Nat.lt_of_le_of_lt (Nat.le_mul_of_pos_right u (Nat.pos_of_ne_zero (by simp))) hb
      have hxs := hx.size
      by_cases hlt : 128 ≤ u
      · obtain ⟨f', rfl⟩ : ∃ f', f = f' + 1 := by
          cases f with
          | zero =>
            exfalso
            have : u * 128 ^ 9 < 18446744073709551616 := hb
            omega
          | succ f' => exact ⟨f', rfl⟩
        have hstep : varF (f' + 1) u = UInt8.ofNat (128 + u % 128) :: varF f' (u / 128) := by rw [varF, if_neg (by omega)]
        rw [hstep] at hv
        have hb2 : u / 128 * 128 ^ (9 - f') < 18446744073709551616 := by
          have e : 9 - f' = (9 - (f' + 1)) + 1 := by omega
          rw [e, Nat.pow_succ, Nat.mul_comm (128 ^ _) 128, ← Nat.mul_assoc]
          exact Nat.lt_of_le_of_lt (Nat.mul_le_mul_right _ (Nat.div_mul_le_self u 128)) hb
        have HV := Lib.hid hv
        have HB := Lib.hid hb2
        have HAL := Lib.hid hal
        have hob := or128_u8 u
        have hcell : Value.int .u8 (128 + (u : Int) % 128) = bcell (UInt8.ofNat (128 + u % 128)) := by
          unfold bcell
          rw [ofNat_nat _ (by omega)]
          congr 1
        have HC := Lib.hid hcell
        clear hv hb hb2 hstep hcell hu64
        have hlen : acc.length ≤ 9 := by omega
        clear hal
        go_wp2_with (at_builtin; refine wpList_own_push rfl _ _ 55 rfl w.heap.size 5 _ i0 (.int .u8 0) 1 1 Try.underlying55 hi hz0 hz1 hz2 rfl (by decide) _ _ 1 _ _ [.int .u8 (128 + (u : Int) % 128)] ho rfl rfl rfl rfl ?c1 ?c2 ?c3 ?c4 ?_)
        case c1 => intro x hx; simp at hx; subst hx; rfl
        case c2 => simp [maxLen]; omega
        case c3 => simp; omega
        case c4 => omega
        intro v' w2 ho2 hb3
        have R : Own8 5 w2 w.heap.size v' (l ++ (acc ++ [UInt8.ofNat (128 + u % 128)])) := own8_of ho2 (by simp <;> omega) (by simp only [List.map_append, List.map_cons, List.map_nil, List.append_assoc, HC.out])
        have hx2 : Ext w w2 := Below.trans hx hb3
        clear ho2 ho hob
        go_wp2
        refine ⟨⟨f', u / 128, acc ++ [UInt8.ofNat (128 + u % 128)], rfl, R, by rw [HV.out]; simp, HB.out, by omega, by simp; have := HAL.out; omega, hx2⟩, ?_⟩
        simp [intOf]
        omega
      · have hlast : varF f u = [UInt8.ofNat u] := by
          cases f with
          | zero => rfl
          | succ f' => rw [varF, if_pos (by omega)]
        rw [hlast] at hv
        have HV := Lib.hid hv
        have hcell : Value.int .u8 (u : Int) = bcell (UInt8.ofNat u) := by
          unfold bcell
          rw [ofNat_nat _ (by omega)]
        have HC := Lib.hid hcell
        clear hv hb hcell hlast hu64
        have hlen : acc.length ≤ 9 := by omega
        clear hal
        go_wp2_with (at_builtin; refine wpList_own_push rfl _ _ 55 rfl w.heap.size 5 _ i0 (.int .u8 0) 1 1 Try.underlying55 hi hz0 hz1 hz2 rfl (by decide) _ _ 1 _ _ [.int .u8 (u : Int)] ho rfl rfl rfl rfl ?d1 ?d2 ?d3 ?d4 ?_)
        case d1 => intro x hx; simp at hx; subst hx; rfl
        case d2 => simp [maxLen]; omega
        case d3 => simp; omega
        case d4 => omega
        intro v' w2 ho2 hb3
        have R : Own8 5 w2 w.heap.size v' (l ++ (acc ++ [UInt8.ofNat u])) := own8_of ho2 (by simp <;> omega) (by simp only [List.map_append, List.map_cons, List.map_nil, List.append_assoc, HC.out])
        have hx2 : Ext w w2 := Below.trans hx hb3
        clear ho2 ho
        go_wp2
        go_ret
        exact ⟨_, rfl, by rw [HNL.out, HV.out]; exact R, hx2⟩

def bytesOf (s : ByteArray) : List UInt8 := s.data.toList
theorem bytesOf_len (s : ByteArray) : (bytesOf s).length = s.size := by simp [bytesOf]
def textL (s : ByteArray) : List UInt8 := numL s.size ++ bytesOf s

set_option maxHeartbeats 1000000 in
set_option maxRecDepth 100000 in
theorem text_any (v : Value) (l : List UInt8) (s : ByteArray) (w : World) (hr : Rd8 w v l) (h2 : l.length + s.size ≤ 140737488355300) :
    Calls Try.prog 52 #[v, .string s] w fun e w' => ∃ v', e = .returned v' ∧ Own8 5 w' w.heap.size v' (l ++ textL s) ∧ Ext w w' := by
  obtain ⟨i0, hi, hz0, hz1, hz2⟩ := info_parts Try.infoU8
  go_enter Try.func52, Try.ntmps52
  go_wp2_with fail
  refine (more_any v l _ w hr (by omega) (by omega) (by omega)).mono ?_
  rintro e w1 ⟨v1, rfl, ho1, hx1⟩
  go_wp2_with fail
  refine (num_any v1 l _ w1 ho1.rd (by omega) (by omega) (by omega)).mono ?_
  rintro e w2 ⟨v2, rfl, ho2, hx2⟩
  have hs := Src.ofString (P := Try.prog) w2 Try.underlying9 s
  have hlen := numL_len (s.size : Int)
  have hxs := hx1.size
  have hxs2 := hx2.size
  have htl : l ++ textL s = (l ++ numL (s.size : Int)) ++ bytesOf s := by simp [textL]
  have HT := Lib.hid htl
  clear htl
  go_wp2_with (at_builtin; refine wpList_own_src _ rfl _ _ 55 9 rfl w1.heap.size 5 i0 (.int .u8 0) 1 1 Try.underlying55 hi hz0 hz1 hz2 rfl (by decide) _ _ _ _ _ _ ho2 hs rfl rfl ?c1 ?c2 ?c3 ?_)
  case c1 => unfold maxLen; simp; omega
  case c2 => simp; omega
  case c3 => omega
  intro v' w3 ho3 hb3
  have R : Own8 5 w3 w1.heap.size v' (l ++ textL s) := by
    rw [HT.out]
    exact own8_of ho3 (by simp [bytesOf_len] <;> omega) (by simp only [List.map_append, List.append_assoc, byteCells_eq, bytesOf])
  have hx3 : Ext w w3 := hx1.trans (Below.trans hx2 hb3)
  have R' := own8_base R hxs
  clear ho3 hs
  go_wp2
  go_ret
  exact ⟨_, rfl, R', hx3⟩

end Go.Proofs.Ytochgmpcdmahkaa
