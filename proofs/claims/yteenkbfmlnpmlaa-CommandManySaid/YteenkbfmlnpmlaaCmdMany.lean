/- The law CommandMany: the plain law and the walk. (Written by genCmdMany.py.) -/
import Derived.Test.YteenkbfmlnpmlaaCmdBk
import Derived.Test.YteenkbfmlnpmlaaCmdU
import Derived.Test.YteenkbfmlnpmlaaCmdMust
import Derived.Test.YteenkbfmlnpmlaaWithin
import Derived.Test.YteenkbfmlnpmlaaCopy
namespace Go.Proofs.Yteenkbfmlnpmlaa
open Go.RowKit

def manyC (s : ByteArray) : Cm := ⟨4, s, 0, ⟨#[]⟩, 0, 0, 0, 0, 0, 0, 0, ⟨#[]⟩, 0, 0⟩
def manyL (k : Nat) : List Ln := (List.range k).map fun (i : Nat) => (⟨⟨#[]⟩, ⟨#[99]⟩, ((i : Nat) : Int), 0⟩ : Ln)
theorem manyL_len (k : Nat) : (manyL k).length = k := by simp [manyL]
theorem manyL_succ (k : Nat) : manyL (k + 1) = manyL k ++ [⟨⟨#[]⟩, ⟨#[99]⟩, (k : Int), 0⟩] := by simp [manyL, List.range_succ]
theorem manyC_ok (s : ByteArray) : (manyC s).Ok := ⟨(by decide : (1 : Int) ≤ 4), (by decide : (4 : Int) ≤ 8)⟩
theorem z64_4 : Z64 4 := ⟨by decide, by decide⟩
theorem manyC_in (s : ByteArray) : (manyC s).In := ⟨z64_4, z64_0, z64_0, z64_0, z64_0, z64_0, z64_0, z64_0, z64_0, z64_0, z64_0⟩
theorem manyL_in (k : Nat) (hk : k ≤ 1000) : LnIn (manyL k) := by
  intro x hx
  obtain ⟨i, hi, rfl⟩ := List.mem_map.1 hx
  rw [List.mem_range] at hi
  exact ⟨⟨by simp only; omega, by simp only; omega⟩, z64_0⟩
theorem manyL_sh (k : Nat) : LnSh (manyL k) := by
  intro x hx
  obtain ⟨i, hi, rfl⟩ := List.mem_map.1 hx
  exact ⟨(by decide : (⟨#[]⟩ : ByteArray).size ≤ 64), (by decide : (⟨#[99]⟩ : ByteArray).size ≤ 64)⟩
theorem textL_le2 (s : ByteArray) : (textL s).length ≤ s.size + 10 := by
  have := numL_le s.size
  rw [textL, List.length_append, bytesOf_len]
  omega
theorem lnL_le (i : Int) : (lnL ⟨⟨#[]⟩, ⟨#[99]⟩, i, 0⟩).length ≤ 41 := by
  have h1 := textL_le2 ⟨#[]⟩
  have h2 := textL_le2 ⟨#[99]⟩
  have h3 := numL_le i
  have h4 := numL_le 0
  have e1 : (⟨#[]⟩ : ByteArray).size = 0 := rfl
  have e2 : (⟨#[99]⟩ : ByteArray).size = 1 := rfl
  rw [e1] at h1
  rw [e2] at h2
  simp only [lnL, List.length_append]
  omega
theorem manyL_le : ∀ k, ((manyL k).flatMap lnL).length ≤ 41 * k
  | 0 => by simp [manyL]
  | k + 1 => by
    have h1 := manyL_le k
    have h2 := lnL_le (k : Int)
    rw [manyL_succ, List.flatMap_append, List.length_append]
    simp only [List.flatMap_cons, List.flatMap_nil, List.append_nil]
    omega
theorem manyS_fine {s : ByteArray} {k : Nat} (hk : k ≤ 12) (hs : s.size ≤ 64) : ∃ L, putS (manyC s) (manyL k) = (L, false) ∧ L.length ≤ 1024 := by
  have h1 : putS (manyC s) (manyL k) = sLs (sD (sT (sN ([], false) 4) s) 0 0 0) (manyL k) := rfl
  rw [h1, show sN ([], false) 4 = (numL 4, false) from rfl, sT_yes hs]
  simp only [sD, sN]
  rw [sLs_yes (by rw [manyL_len]; exact hk) (manyL_sh k)]
  refine ⟨_, rfl, ?_⟩
  have h2 := manyL_le k
  have h3 := numL_le 4
  have h4 := numL_le 0
  have h5 := textL_le2 s
  have h6 := numL_le (manyL k).length
  simp only [List.length_append]
  omega
theorem many_fine {s : ByteArray} {k : Nat} (hk : k ≤ 12) (hs : s.size ≤ 64) : putE (manyC s) (manyL k) = 0 := by
  obtain ⟨L, h1, h2⟩ := manyS_fine hk hs
  unfold putE
  rw [if_pos (manyC_ok s), h1, if_neg (by simp; omega)]
theorem sLn_true {w : WS} (h : w.2 = true) (x : Ln) : (sLn w x).2 = true := by
  have ht : ∀ (w : WS) (t : ByteArray), w.2 = true → (sT w t).2 = true := by
    intro w t h
    unfold sT
    split
    · exact h
    · rfl
  exact ht _ _ (ht _ _ h)
theorem sLns_true : ∀ (ls : List Ln) {w : WS}, w.2 = true → (ls.foldl sLn w).2 = true
  | [], _, h => h
  | x :: ls, _, h => by rw [List.foldl_cons]; exact sLns_true ls (sLn_true h x)
theorem many_long {s : ByteArray} {k : Nat} (h : 12 < k ∨ 64 < s.size) : putE (manyC s) (manyL k) = 2 := by
  have h1 : putS (manyC s) (manyL k) = sLs (sD (sT (sN ([], false) 4) s) 0 0 0) (manyL k) := rfl
  have h2 : (putS (manyC s) (manyL k)).2 = true := by
    rw [h1]
    unfold sLs
    split
    · rename_i hl
      rw [manyL_len] at hl
      refine sLns_true _ ?_
      show (sT (sN ([], false) 4) s).2 = true
      unfold sT
      rw [if_neg (by omega)]
    · rfl
  unfold putE
  rw [if_pos (manyC_ok s), if_pos (.inl h2)]
def zStr (n : Nat) : ByteArray := ⟨(List.replicate n (0 : UInt8)).toArray⟩
theorem zStr_size (n : Nat) : (zStr n).size = n := by simp [zStr, ByteArray.size]
theorem made8 (n : Nat) : (madeCells #[Value.int .u8 0] n).toList = (List.replicate n (0 : UInt8)).map bcell := by
  apply List.ext_getElem
  · simp [madeCells]
  · intro i h1 h2
    simp [madeCells, bcell, Nat.mod_one]
theorem within_n (n : Int) (k : Nat) (hk2 : k ≤ 1000) : ∃ j : Nat, j ≤ k ∧ ∀ w : World, Calls Try.prog 28 #[.int .i64 n, .int .i64 0, .int .i64 (k : Int)] w fun e w' => e = .returned (.int .i64 (j : Int)) ∧ Ext w w' := by
  have hb := withI_bd n 0 (k : Int) (by omega)
  refine ⟨(withI n 0 (k : Int)).toNat, by omega, fun w => (within_any n 0 (k : Int) w (by omega) (by omega) (by omega)).mono ?_⟩
  rintro e w' ⟨rfl, rfl⟩
  refine ⟨?_, Ext.refl _⟩
  rw [Int.toNat_of_nonneg hb.1]
theorem put_lenM {w : World} {t : TypeId} {x : Value} {c : Cm} {ls : List Ln} {n : Nat} (hin : c.In) (hz : LnIn ls) (hk : c.Ok) (hh : Held w (.iface t x) c ls n) {E : Int} (hE : putE c ls = E) : Calls Try.prog 11 #[.agg #[.iface t x]] w fun e w' => ∃ a c', e = .returned (.tuple #[.slice a (putB c ls).length c', .int .i64 E]) ∧ Hid (Rd8 w' (.slice a (putB c ls).length c') (putB c ls)) ∧ Ext w w' := by
  refine (put_ok hk hin hz hh).mono ?_
  rintro e w' ⟨bv, rfl, hr, hx⟩
  have hr0 := hr
  obtain ⟨_, _, a, c', rfl, _⟩ := hr0
  rw [hE]
  exact ⟨a, c', rfl, Lib.hid hr, hx⟩
set_option maxHeartbeats 8000000 in
set_option maxRecDepth 100000 in
theorem cmany_a (n m : Int) (k q : Nat) (hk : k ≤ 20) (hq : q ≤ 70) (hw1 : ∀ w : World, Calls Try.prog 28 #[.int .i64 n, .int .i64 0, .int .i64 20] w fun e w' => e = .returned (.int .i64 (k : Int)) ∧ Ext w w') (hw2 : ∀ w : World, Calls Try.prog 28 #[.int .i64 m, .int .i64 0, .int .i64 70] w fun e w' => e = .returned (.int .i64 (q : Int)) ∧ Ext w w') (w : World) (hc : 12 < k) : Calls Try.prog 9 #[.int .i64 n, .int .i64 m] w fun e w' => e = .returned (.bool true) ∧ Ext w w' := by
  obtain ⟨s, hs⟩ : ∃ s, zStr q = s := ⟨_, rfl⟩
  have hsz : s.size = q := by rw [← hs]; exact zStr_size q
  have HO := Lib.hid fun (a : Option Addr) (cap : Nat) (z : World) (hl : SlS Ln.cells 4 z (.slice a k cap) (manyL k)) => of_ok (manyC s) (manyC_ok s) a k cap (manyL k) (manyL_len k) (by omega) z hl
  have hcl : (manyC s).ls (manyL k) = manyL k := rfl
  have hcn : (manyC s).n k = k := rfl
  rw [hcl, hcn] at HO
  have hB0 : (putB (manyC s) (manyL k)).length = 0 := by unfold putB; rw [many_long (.inl hc), if_neg (by decide)]; rfl
  have HP := Lib.hid fun (t : TypeId) (x : Value) (z : World) (hh : Held z (.iface t x) (manyC s) (manyL k) k) => put_lenM (E := 2) (manyC_in s) (manyL_in k (by omega)) (manyC_ok s) hh (many_long (.inl hc))
  rw [hB0] at HP
  have hk20 : k ≤ 20 := hk
  have h1 : (12 : Int) < (k : Int) := by omega
  clear hB0
  obtain ⟨l0, hli, hl0, hl1, hl2⟩ := info_parts Try.infoLn
  obtain ⟨i0, hi, hz0, hz1, hz2⟩ := info_parts Try.infoU8
  have HW1 := Lib.hid hw1
  have HW2 := Lib.hid hw2
  have HSZ := Lib.hid hs
  clear hw1 hw2
  simp only [Cm.agg, manyC] at HO
  go_enter Try.func9, Try.ntmps9
  go_wp2_with fail
  go_at_call 28
  refine (HW1.out _).mono ?_
  rintro e x1 ⟨rfl, hx1⟩
  have T_x1 : Hid (Ext w x1) := Lib.hid (Ext.trans (Ext.refl _) hx1)
  clear hx1
  go_wp2_with fail
  go_at_call 28
  refine (HW2.out _).mono ?_
  rintro e x2 ⟨rfl, hx2⟩
  have T_x2 : Hid (Ext x1 x2) := Lib.hid (Ext.trans (Ext.refl _) hx2)
  clear hx2
  go_wp2_with (at_make; refine wpList_make_full _ rfl _ _ 38 rfl x2.heap.size 5 i0 (.int .u8 0) 1 Try.underlying38 hi hz0 hz1 .i64 .i64 _ _ q rfl rfl rfl rfl ?b2 ?b3 ?b4 ?_)
  case b2 => rw [hz2]; omega
  case b3 => unfold maxLen; omega
  case b4 => exact Nat.le_refl _
  intro x3 hown hg
  have hx3 : Ext x2 x3 := (Below.refl x2.heap.size x2).grown hg (Nat.le_refl _) (fun k hk => by cases hk)
  have T_x3 : Hid (Ext w x3) := Lib.hid ((T_x1.out.trans T_x2.out).trans hx3)
  have h8 : Own8 5 x3 x2.heap.size (.slice (some ⟨x2.heap.size, 0, none⟩) q q) (List.replicate q 0) := own8_of hown (by simp) (by rw [← made8])
  have hcv := run_conv_str (P := Try.prog) x3 38 9 5 Try.underlying38 Try.underlying5 Try.underlying9 _ _ _ (Own8.rd h8)
  have hcs : (⟨(List.replicate q (0 : UInt8)).toArray⟩ : ByteArray) = s := HSZ.out
  rw [hcs] at hcv
  clear hown hg hx3 h8 hcs
  go_wp2_with (with_reducible refine wpList_conv rfl _ _ _ rfl _ _ rfl hcv ?_)
  clear hcv
  obtain ⟨X, hX⟩ : ∃ z, (x3.alloc (.cells #[.int .i64 4, .string s, .int .i64 0, .string ⟨#[]⟩, .int .i64 0, .int .i64 0, .int .i64 0, .int .i64 0, .int .i64 0, .int .i64 0, .int .i64 0, .slice none 0 0, .string ⟨#[]⟩, .int .i64 0, .int .i64 0] 37)) = z := ⟨_, rfl⟩
  have D0 : Hid (X.heap[x3.heap.size]? = some (.cells #[.int .i64 4, .string s, .int .i64 0, .string ⟨#[]⟩, .int .i64 0, .int .i64 0, .int .i64 0, .int .i64 0, .int .i64 0, .int .i64 0, .int .i64 0, .slice none 0 0, .string ⟨#[]⟩, .int .i64 0, .int .i64 0] 37 (0, 0))) := Lib.hid (by rw [← hX]; exact new_blk _ _)
  have TX : Hid (Ext w X) := Lib.hid (by rw [← hX]; exact T_x3.out.alloc _)
  rw [hX]
  clear hX
  have hle3 := T_x3.out.size
  go_loopw [8] (fun iv wr => ∃ (j : Nat) (a : Option Addr) (c : Nat), j ≤ k ∧ iv = .int .i64 ((j : Nat) : Int) ∧ OwnS Ln.cells 4 56 wr (x3.heap.size + 1) (.slice a j c) (manyL j) ∧ Ext w wr ∧ wr.heap[x3.heap.size]? = some (.cells #[.int .i64 4, .string s, .int .i64 0, .string ⟨#[]⟩, .int .i64 0, .int .i64 0, .int .i64 0, .int .i64 0, .int .i64 0, .int .i64 0, .int .i64 0, .slice a j c, .string ⟨#[]⟩, .int .i64 0, .int .i64 0] 37 (0, 0))) (fun iv _ => k - (intOf iv).toNat)
  case atStart => exact ⟨0, none, 0, by omega, rfl, World.ownsRow_nil _ _ _ _, TX.out, D0.out⟩
  case round =>
    obtain ⟨j, a, c, hj, rfl, ho, hxr, hdb⟩ := hrel
    obtain ⟨q11, f11⟩ := blkG hdb 11 (.slice a j c) rfl
    have hzz := blk_lt hdb
    by_cases hlt : j < k
    · have hok : wr.ownsRow (x3.heap.size + 1) 56 4 (.slice a j c) j ((manyL j).flatMap Ln.cells) := by have := ho; unfold OwnS at this; rwa [manyL_len] at this
      have HOK := Lib.hid hok
      have HXR := Lib.hid hxr
      have HDB := Lib.hid hdb
      clear ho hxr hdb hok
      go_wp2_with (at_builtin; refine wpList_own_push2 (w := wr) rfl _ _ 33 rfl (x3.heap.size + 1) 56 56 l0 _ 4 48 Try.underlying33 hli hl0 hl1 hl2 rfl (by decide) _ j 1 1 _ [.string ⟨#[]⟩, .string ⟨#[99]⟩, .int .i64 (j : Int), .int .i64 0] HOK.out rfl rfl rfl rfl ?c2 ?c3 ?c4 (by omega) ?_)
      case c2 => intro u hu; simp only [List.mem_cons, List.not_mem_nil, or_false] at hu; rcases hu with rfl | rfl | rfl | rfl <;> rfl
      case c3 => unfold maxLen; omega
      case c4 => omega
      intro v7 w7 ho7 hb7 _
      obtain ⟨_, _, a7, c7, hev7, _⟩ := SlR.of_own ho7
      subst hev7
      have hO7 : OwnS Ln.cells 4 56 w7 (x3.heap.size + 1) (.slice a7 (j + 1) c7) (manyL (j + 1)) := by
        rw [manyL_succ]
        unfold OwnS
        rw [List.length_append, manyL_len, List.flatMap_append]
        simpa [Ln.cells] using ho7
      have hd7 : w7.heap[x3.heap.size]? = some (.cells #[.int .i64 4, .string s, .int .i64 0, .string ⟨#[]⟩, .int .i64 0, .int .i64 0, .int .i64 0, .int .i64 0, .int .i64 0, .int .i64 0, .int .i64 0, .slice a j c, .string ⟨#[]⟩, .int .i64 0, .int .i64 0] 37 (0, 0)) := (Below.block hb7 _ (Nat.lt_succ_self _)).trans HDB.out
      obtain ⟨r11, g11⟩ := blkG hd7 11 (.slice a j c) rfl
      have hz7 := blk_lt hd7
      have HO8 := Lib.hid (OwnS.setO (b := x3.heap.size) (o := 11) (u := .slice a7 (j + 1) c7) hO7 fun a m c' he => Nat.ne_of_gt (own_blkE hO7 a m c' he).2)
      have HD8 : Hid ((w7.setCell ⟨x3.heap.size, 11, none⟩ (.slice a7 (j + 1) c7)).heap[x3.heap.size]? = some (.cells #[.int .i64 4, .string s, .int .i64 0, .string ⟨#[]⟩, .int .i64 0, .int .i64 0, .int .i64 0, .int .i64 0, .int .i64 0, .int .i64 0, .int .i64 0, .slice a7 (j + 1) c7, .string ⟨#[]⟩, .int .i64 0, .int .i64 0] 37 (0, 0))) := Lib.hid (heap_setCell_same _ _ 11 _ _ (.slice a7 (j + 1) c7) hd7)
      have HX8 : Hid (Ext w (w7.setCell ⟨x3.heap.size, 11, none⟩ (.slice a7 (j + 1) c7))) := Lib.hid (Ext.setCell (Below.trans HXR.out (Below.mono hb7 (by omega))) hle3 _)
      clear ho7 hb7 hO7 hd7
      go_wp2
      refine ⟨⟨j + 1, a7, c7, by omega, by simp, HO8.out, HX8.out, HD8.out⟩, by simp [intOf]; omega⟩
    · obtain rfl : j = k := by omega
      have T_wr := Lib.hid hxr
      have Dp_wr := Lib.hid hdb
      have HOW := Lib.hid ho.rd
      clear ho hxr hdb D0 TX HW1 HW2 T_x1 T_x2
      obtain ⟨cp_wr_0, fp_wr_0⟩ := blkG Dp_wr.out 0 (.int .i64 4) rfl
      obtain ⟨cp_wr_1, fp_wr_1⟩ := blkG Dp_wr.out 1 (.string s) rfl
      obtain ⟨cp_wr_2, fp_wr_2⟩ := blkG Dp_wr.out 2 (.int .i64 0) rfl
      obtain ⟨cp_wr_3, fp_wr_3⟩ := blkG Dp_wr.out 3 (.string ⟨#[]⟩) rfl
      obtain ⟨cp_wr_4, fp_wr_4⟩ := blkG Dp_wr.out 4 (.int .i64 0) rfl
      obtain ⟨cp_wr_5, fp_wr_5⟩ := blkG Dp_wr.out 5 (.int .i64 0) rfl
      obtain ⟨cp_wr_6, fp_wr_6⟩ := blkG Dp_wr.out 6 (.int .i64 0) rfl
      obtain ⟨cp_wr_7, fp_wr_7⟩ := blkG Dp_wr.out 7 (.int .i64 0) rfl
      obtain ⟨cp_wr_8, fp_wr_8⟩ := blkG Dp_wr.out 8 (.int .i64 0) rfl
      obtain ⟨cp_wr_9, fp_wr_9⟩ := blkG Dp_wr.out 9 (.int .i64 0) rfl
      obtain ⟨cp_wr_10, fp_wr_10⟩ := blkG Dp_wr.out 10 (.int .i64 0) rfl
      obtain ⟨cp_wr_11, fp_wr_11⟩ := blkG Dp_wr.out 11 (.slice a j c) rfl
      obtain ⟨cp_wr_12, fp_wr_12⟩ := blkG Dp_wr.out 12 (.string ⟨#[]⟩) rfl
      obtain ⟨cp_wr_13, fp_wr_13⟩ := blkG Dp_wr.out 13 (.int .i64 0) rfl
      obtain ⟨cp_wr_14, fp_wr_14⟩ := blkG Dp_wr.out 14 (.int .i64 0) rfl
      have zp_wr := blk_lt Dp_wr.out
      go_wp2_with fail
      go_at_call 10
      refine (HO.out a c _ (HOW.out.ext (Ext.refl _))).mono ?_
      rintro e x4 ⟨t, y, rfl, hh, hx4⟩
      have T_x4 : Hid (Ext wr x4) := Lib.hid (Ext.trans (Ext.refl _) hx4)
      have Dp_x4 := Lib.hid (ext_blk hx4 Dp_wr.out)
      have HH := Lib.hid hh
      have st4 := store_new (x := x4) (t := t) (y := y) (T := 25)
      clear hh
      clear hx4
      go_wp2_with fail
      go_at_call 11
      refine (HP.out t y _ (HH.out.ext (Ext.alloc (Ext.refl _) _))).mono ?_
      rintro e x5 ⟨a1, c1, rfl, _, hx5⟩
      have T_x5 : Hid (Ext x4 x5) := Lib.hid (Ext.trans (Ext.alloc (Ext.refl _) _) hx5)
      have Dp_x5 := Lib.hid (ext_blk hx5 (alloc_blk Dp_x4.out))
      have Dv_x5 := Lib.hid (ext_blk hx5 (new_blk x4 (.cells #[.iface t y] 25)))
      clear st4
      clear hx5
      go_wp2_with fail
      go_at_call 3
      refine (cruns_any _).mono ?_
      rintro e x6 ⟨rfl, hx6⟩
      have T_x6 : Hid (Ext x5 x6) := Lib.hid (Ext.trans (Ext.refl _) hx6)
      have Dp_x6 := Lib.hid (ext_blk hx6 Dp_x5.out)
      have Dv_x6 := Lib.hid (ext_blk hx6 Dv_x5.out)
      clear hx6
      go_wp2_with fail
      go_ret
      exact ⟨rfl, (((T_wr.out.trans T_x4.out).trans T_x5.out).trans T_x6.out)⟩
set_option maxHeartbeats 8000000 in
set_option maxRecDepth 100000 in
theorem cmany_b (n m : Int) (k q : Nat) (hk : k ≤ 20) (hq : q ≤ 70) (hw1 : ∀ w : World, Calls Try.prog 28 #[.int .i64 n, .int .i64 0, .int .i64 20] w fun e w' => e = .returned (.int .i64 (k : Int)) ∧ Ext w w') (hw2 : ∀ w : World, Calls Try.prog 28 #[.int .i64 m, .int .i64 0, .int .i64 70] w fun e w' => e = .returned (.int .i64 (q : Int)) ∧ Ext w w') (w : World) (hc : ¬ 12 < k) (hd : 64 < q) : Calls Try.prog 9 #[.int .i64 n, .int .i64 m] w fun e w' => e = .returned (.bool true) ∧ Ext w w' := by
  obtain ⟨s, hs⟩ : ∃ s, zStr q = s := ⟨_, rfl⟩
  have hsz : s.size = q := by rw [← hs]; exact zStr_size q
  have HO := Lib.hid fun (a : Option Addr) (cap : Nat) (z : World) (hl : SlS Ln.cells 4 z (.slice a k cap) (manyL k)) => of_ok (manyC s) (manyC_ok s) a k cap (manyL k) (manyL_len k) (by omega) z hl
  have hcl : (manyC s).ls (manyL k) = manyL k := rfl
  have hcn : (manyC s).n k = k := rfl
  rw [hcl, hcn] at HO
  have hB0 : (putB (manyC s) (manyL k)).length = 0 := by unfold putB; rw [many_long (.inr (by rw [hsz]; exact hd)), if_neg (by decide)]; rfl
  have HP := Lib.hid fun (t : TypeId) (x : Value) (z : World) (hh : Held z (.iface t x) (manyC s) (manyL k) k) => put_lenM (E := 2) (manyC_in s) (manyL_in k (by omega)) (manyC_ok s) hh (many_long (.inr (by rw [hsz]; exact hd)))
  rw [hB0] at HP
  have hk20 : k ≤ 20 := hk
  have h1 : ¬ (12 : Int) < (k : Int) := by omega
  have h2 : (64 : Int) < (q : Int) := by omega
  clear hB0
  obtain ⟨l0, hli, hl0, hl1, hl2⟩ := info_parts Try.infoLn
  obtain ⟨i0, hi, hz0, hz1, hz2⟩ := info_parts Try.infoU8
  have HW1 := Lib.hid hw1
  have HW2 := Lib.hid hw2
  have HSZ := Lib.hid hs
  clear hw1 hw2
  simp only [Cm.agg, manyC] at HO
  go_enter Try.func9, Try.ntmps9
  go_wp2_with fail
  go_at_call 28
  refine (HW1.out _).mono ?_
  rintro e x1 ⟨rfl, hx1⟩
  have T_x1 : Hid (Ext w x1) := Lib.hid (Ext.trans (Ext.refl _) hx1)
  clear hx1
  go_wp2_with fail
  go_at_call 28
  refine (HW2.out _).mono ?_
  rintro e x2 ⟨rfl, hx2⟩
  have T_x2 : Hid (Ext x1 x2) := Lib.hid (Ext.trans (Ext.refl _) hx2)
  clear hx2
  go_wp2_with (at_make; refine wpList_make_full _ rfl _ _ 38 rfl x2.heap.size 5 i0 (.int .u8 0) 1 Try.underlying38 hi hz0 hz1 .i64 .i64 _ _ q rfl rfl rfl rfl ?b2 ?b3 ?b4 ?_)
  case b2 => rw [hz2]; omega
  case b3 => unfold maxLen; omega
  case b4 => exact Nat.le_refl _
  intro x3 hown hg
  have hx3 : Ext x2 x3 := (Below.refl x2.heap.size x2).grown hg (Nat.le_refl _) (fun k hk => by cases hk)
  have T_x3 : Hid (Ext w x3) := Lib.hid ((T_x1.out.trans T_x2.out).trans hx3)
  have h8 : Own8 5 x3 x2.heap.size (.slice (some ⟨x2.heap.size, 0, none⟩) q q) (List.replicate q 0) := own8_of hown (by simp) (by rw [← made8])
  have hcv := run_conv_str (P := Try.prog) x3 38 9 5 Try.underlying38 Try.underlying5 Try.underlying9 _ _ _ (Own8.rd h8)
  have hcs : (⟨(List.replicate q (0 : UInt8)).toArray⟩ : ByteArray) = s := HSZ.out
  rw [hcs] at hcv
  clear hown hg hx3 h8 hcs
  go_wp2_with (with_reducible refine wpList_conv rfl _ _ _ rfl _ _ rfl hcv ?_)
  clear hcv
  obtain ⟨X, hX⟩ : ∃ z, (x3.alloc (.cells #[.int .i64 4, .string s, .int .i64 0, .string ⟨#[]⟩, .int .i64 0, .int .i64 0, .int .i64 0, .int .i64 0, .int .i64 0, .int .i64 0, .int .i64 0, .slice none 0 0, .string ⟨#[]⟩, .int .i64 0, .int .i64 0] 37)) = z := ⟨_, rfl⟩
  have D0 : Hid (X.heap[x3.heap.size]? = some (.cells #[.int .i64 4, .string s, .int .i64 0, .string ⟨#[]⟩, .int .i64 0, .int .i64 0, .int .i64 0, .int .i64 0, .int .i64 0, .int .i64 0, .int .i64 0, .slice none 0 0, .string ⟨#[]⟩, .int .i64 0, .int .i64 0] 37 (0, 0))) := Lib.hid (by rw [← hX]; exact new_blk _ _)
  have TX : Hid (Ext w X) := Lib.hid (by rw [← hX]; exact T_x3.out.alloc _)
  rw [hX]
  clear hX
  have hle3 := T_x3.out.size
  go_loopw [8] (fun iv wr => ∃ (j : Nat) (a : Option Addr) (c : Nat), j ≤ k ∧ iv = .int .i64 ((j : Nat) : Int) ∧ OwnS Ln.cells 4 56 wr (x3.heap.size + 1) (.slice a j c) (manyL j) ∧ Ext w wr ∧ wr.heap[x3.heap.size]? = some (.cells #[.int .i64 4, .string s, .int .i64 0, .string ⟨#[]⟩, .int .i64 0, .int .i64 0, .int .i64 0, .int .i64 0, .int .i64 0, .int .i64 0, .int .i64 0, .slice a j c, .string ⟨#[]⟩, .int .i64 0, .int .i64 0] 37 (0, 0))) (fun iv _ => k - (intOf iv).toNat)
  case atStart => exact ⟨0, none, 0, by omega, rfl, World.ownsRow_nil _ _ _ _, TX.out, D0.out⟩
  case round =>
    obtain ⟨j, a, c, hj, rfl, ho, hxr, hdb⟩ := hrel
    obtain ⟨q11, f11⟩ := blkG hdb 11 (.slice a j c) rfl
    have hzz := blk_lt hdb
    by_cases hlt : j < k
    · have hok : wr.ownsRow (x3.heap.size + 1) 56 4 (.slice a j c) j ((manyL j).flatMap Ln.cells) := by have := ho; unfold OwnS at this; rwa [manyL_len] at this
      have HOK := Lib.hid hok
      have HXR := Lib.hid hxr
      have HDB := Lib.hid hdb
      clear ho hxr hdb hok
      go_wp2_with (at_builtin; refine wpList_own_push2 (w := wr) rfl _ _ 33 rfl (x3.heap.size + 1) 56 56 l0 _ 4 48 Try.underlying33 hli hl0 hl1 hl2 rfl (by decide) _ j 1 1 _ [.string ⟨#[]⟩, .string ⟨#[99]⟩, .int .i64 (j : Int), .int .i64 0] HOK.out rfl rfl rfl rfl ?c2 ?c3 ?c4 (by omega) ?_)
      case c2 => intro u hu; simp only [List.mem_cons, List.not_mem_nil, or_false] at hu; rcases hu with rfl | rfl | rfl | rfl <;> rfl
      case c3 => unfold maxLen; omega
      case c4 => omega
      intro v7 w7 ho7 hb7 _
      obtain ⟨_, _, a7, c7, hev7, _⟩ := SlR.of_own ho7
      subst hev7
      have hO7 : OwnS Ln.cells 4 56 w7 (x3.heap.size + 1) (.slice a7 (j + 1) c7) (manyL (j + 1)) := by
        rw [manyL_succ]
        unfold OwnS
        rw [List.length_append, manyL_len, List.flatMap_append]
        simpa [Ln.cells] using ho7
      have hd7 : w7.heap[x3.heap.size]? = some (.cells #[.int .i64 4, .string s, .int .i64 0, .string ⟨#[]⟩, .int .i64 0, .int .i64 0, .int .i64 0, .int .i64 0, .int .i64 0, .int .i64 0, .int .i64 0, .slice a j c, .string ⟨#[]⟩, .int .i64 0, .int .i64 0] 37 (0, 0)) := (Below.block hb7 _ (Nat.lt_succ_self _)).trans HDB.out
      obtain ⟨r11, g11⟩ := blkG hd7 11 (.slice a j c) rfl
      have hz7 := blk_lt hd7
      have HO8 := Lib.hid (OwnS.setO (b := x3.heap.size) (o := 11) (u := .slice a7 (j + 1) c7) hO7 fun a m c' he => Nat.ne_of_gt (own_blkE hO7 a m c' he).2)
      have HD8 : Hid ((w7.setCell ⟨x3.heap.size, 11, none⟩ (.slice a7 (j + 1) c7)).heap[x3.heap.size]? = some (.cells #[.int .i64 4, .string s, .int .i64 0, .string ⟨#[]⟩, .int .i64 0, .int .i64 0, .int .i64 0, .int .i64 0, .int .i64 0, .int .i64 0, .int .i64 0, .slice a7 (j + 1) c7, .string ⟨#[]⟩, .int .i64 0, .int .i64 0] 37 (0, 0))) := Lib.hid (heap_setCell_same _ _ 11 _ _ (.slice a7 (j + 1) c7) hd7)
      have HX8 : Hid (Ext w (w7.setCell ⟨x3.heap.size, 11, none⟩ (.slice a7 (j + 1) c7))) := Lib.hid (Ext.setCell (Below.trans HXR.out (Below.mono hb7 (by omega))) hle3 _)
      clear ho7 hb7 hO7 hd7
      go_wp2
      refine ⟨⟨j + 1, a7, c7, by omega, by simp, HO8.out, HX8.out, HD8.out⟩, by simp [intOf]; omega⟩
    · obtain rfl : j = k := by omega
      have T_wr := Lib.hid hxr
      have Dp_wr := Lib.hid hdb
      have HOW := Lib.hid ho.rd
      clear ho hxr hdb D0 TX HW1 HW2 T_x1 T_x2
      obtain ⟨cp_wr_0, fp_wr_0⟩ := blkG Dp_wr.out 0 (.int .i64 4) rfl
      obtain ⟨cp_wr_1, fp_wr_1⟩ := blkG Dp_wr.out 1 (.string s) rfl
      obtain ⟨cp_wr_2, fp_wr_2⟩ := blkG Dp_wr.out 2 (.int .i64 0) rfl
      obtain ⟨cp_wr_3, fp_wr_3⟩ := blkG Dp_wr.out 3 (.string ⟨#[]⟩) rfl
      obtain ⟨cp_wr_4, fp_wr_4⟩ := blkG Dp_wr.out 4 (.int .i64 0) rfl
      obtain ⟨cp_wr_5, fp_wr_5⟩ := blkG Dp_wr.out 5 (.int .i64 0) rfl
      obtain ⟨cp_wr_6, fp_wr_6⟩ := blkG Dp_wr.out 6 (.int .i64 0) rfl
      obtain ⟨cp_wr_7, fp_wr_7⟩ := blkG Dp_wr.out 7 (.int .i64 0) rfl
      obtain ⟨cp_wr_8, fp_wr_8⟩ := blkG Dp_wr.out 8 (.int .i64 0) rfl
      obtain ⟨cp_wr_9, fp_wr_9⟩ := blkG Dp_wr.out 9 (.int .i64 0) rfl
      obtain ⟨cp_wr_10, fp_wr_10⟩ := blkG Dp_wr.out 10 (.int .i64 0) rfl
      obtain ⟨cp_wr_11, fp_wr_11⟩ := blkG Dp_wr.out 11 (.slice a j c) rfl
      obtain ⟨cp_wr_12, fp_wr_12⟩ := blkG Dp_wr.out 12 (.string ⟨#[]⟩) rfl
      obtain ⟨cp_wr_13, fp_wr_13⟩ := blkG Dp_wr.out 13 (.int .i64 0) rfl
      obtain ⟨cp_wr_14, fp_wr_14⟩ := blkG Dp_wr.out 14 (.int .i64 0) rfl
      have zp_wr := blk_lt Dp_wr.out
      go_wp2_with fail
      go_at_call 10
      refine (HO.out a c _ (HOW.out.ext (Ext.refl _))).mono ?_
      rintro e x4 ⟨t, y, rfl, hh, hx4⟩
      have T_x4 : Hid (Ext wr x4) := Lib.hid (Ext.trans (Ext.refl _) hx4)
      have Dp_x4 := Lib.hid (ext_blk hx4 Dp_wr.out)
      have HH := Lib.hid hh
      have st4 := store_new (x := x4) (t := t) (y := y) (T := 25)
      clear hh
      clear hx4
      go_wp2_with fail
      go_at_call 11
      refine (HP.out t y _ (HH.out.ext (Ext.alloc (Ext.refl _) _))).mono ?_
      rintro e x5 ⟨a1, c1, rfl, _, hx5⟩
      have T_x5 : Hid (Ext x4 x5) := Lib.hid (Ext.trans (Ext.alloc (Ext.refl _) _) hx5)
      have Dp_x5 := Lib.hid (ext_blk hx5 (alloc_blk Dp_x4.out))
      have Dv_x5 := Lib.hid (ext_blk hx5 (new_blk x4 (.cells #[.iface t y] 25)))
      clear st4
      clear hx5
      go_wp2_with fail
      go_at_call 3
      refine (cruns_any _).mono ?_
      rintro e x6 ⟨rfl, hx6⟩
      have T_x6 : Hid (Ext x5 x6) := Lib.hid (Ext.trans (Ext.refl _) hx6)
      have Dp_x6 := Lib.hid (ext_blk hx6 Dp_x5.out)
      have Dv_x6 := Lib.hid (ext_blk hx6 Dv_x5.out)
      clear hx6
      go_wp2_with fail
      go_ret
      exact ⟨rfl, (((T_wr.out.trans T_x4.out).trans T_x5.out).trans T_x6.out)⟩
set_option maxHeartbeats 8000000 in
set_option maxRecDepth 100000 in
theorem cmany_c (n m : Int) (k q : Nat) (hk : k ≤ 20) (hq : q ≤ 70) (hw1 : ∀ w : World, Calls Try.prog 28 #[.int .i64 n, .int .i64 0, .int .i64 20] w fun e w' => e = .returned (.int .i64 (k : Int)) ∧ Ext w w') (hw2 : ∀ w : World, Calls Try.prog 28 #[.int .i64 m, .int .i64 0, .int .i64 70] w fun e w' => e = .returned (.int .i64 (q : Int)) ∧ Ext w w') (w : World) (hc : ¬ 12 < k) (hd : ¬ 64 < q) : Calls Try.prog 9 #[.int .i64 n, .int .i64 m] w fun e w' => e = .returned (.bool true) ∧ Ext w w' := by
  obtain ⟨s, hs⟩ : ∃ s, zStr q = s := ⟨_, rfl⟩
  have hsz : s.size = q := by rw [← hs]; exact zStr_size q
  have HO := Lib.hid fun (a : Option Addr) (cap : Nat) (z : World) (hl : SlS Ln.cells 4 z (.slice a k cap) (manyL k)) => of_ok (manyC s) (manyC_ok s) a k cap (manyL k) (manyL_len k) (by omega) z hl
  have hcl : (manyC s).ls (manyL k) = manyL k := rfl
  have hcn : (manyC s).n k = k := rfl
  rw [hcl, hcn] at HO
  have hE0 : putE (manyC s) (manyL k) = 0 := many_fine (by omega) (by rw [hsz]; omega)
  have HP := Lib.hid fun (t : TypeId) (x : Value) (z : World) (hh : Held z (.iface t x) (manyC s) (manyL k) k) => put_lenM (E := 0) (manyC_in s) (manyL_in k (by omega)) (manyC_ok s) hh (hE0)
  have bk := cm_back0 (manyC_in s) (manyL_in k (by omega)) hE0
  have hlen : (putB (manyC s) (manyL k)).length ≤ 1024 := by obtain ⟨_, L, _, h2, h3⟩ := putE_0 hE0; rw [h2]; exact h3
  have HG := Lib.hid fun (v : Value) (z : World) (hr : Rd8 z v (putB (manyC s) (manyL k))) => (cget_any hr (by omega)).mono (R' := fun e w' => ∃ t x, e = .returned (.tuple #[.agg #[.iface t x], .int .i64 0]) ∧ Held w' (.iface t x) (manyC s) (manyL k) k ∧ Ext z w') (by
    rintro e w' (⟨h, _⟩ | ⟨_, _, t, x, h1, h2, h3⟩)
    · exact absurd bk.1 h
    · rw [bk.2.1, bk.2.2] at h2
      refine ⟨t, x, h1, ?_, h3⟩
      have h4 := h2.rd
      have e1 : ((manyC s).ls (manyL k)).length = k := manyL_len k
      rw [e1] at h4
      exact h4)
  have HM := Lib.hid fun (t : TypeId) (x : Value) (z : World) (hh : Held z (.iface t x) (manyC s) (manyL k) k) => must_held (c := manyC s) rfl hh
  simp only [manyC] at HM
  have HS := Lib.hid fun (a1 a2 : Option Addr) (c1 c2 : Nat) (z : World) (h1 : SlS Ln.cells 4 z (.slice a1 k c1) (manyL k)) (h2 : SlS Ln.cells 4 z (.slice a2 k c2) (manyL k)) => sameLn (.slice a1 k c1) (.slice a2 k c2) (manyL k) (manyL k) true (by simp) z h1 h2 (by rw [manyL_len]; omega) (by rw [manyL_len]; omega)
  have h1 : ¬ (12 : Int) < (k : Int) := by omega
  have h2 : ¬ (64 : Int) < (q : Int) := by omega
  have hk20 : k ≤ 20 := hk
  clear hE0 bk hlen
  obtain ⟨l0, hli, hl0, hl1, hl2⟩ := info_parts Try.infoLn
  obtain ⟨i0, hi, hz0, hz1, hz2⟩ := info_parts Try.infoU8
  have HW1 := Lib.hid hw1
  have HW2 := Lib.hid hw2
  have HSZ := Lib.hid hs
  clear hw1 hw2
  simp only [Cm.agg, manyC] at HO
  go_enter Try.func9, Try.ntmps9
  go_wp2_with fail
  go_at_call 28
  refine (HW1.out _).mono ?_
  rintro e x1 ⟨rfl, hx1⟩
  have T_x1 : Hid (Ext w x1) := Lib.hid (Ext.trans (Ext.refl _) hx1)
  clear hx1
  go_wp2_with fail
  go_at_call 28
  refine (HW2.out _).mono ?_
  rintro e x2 ⟨rfl, hx2⟩
  have T_x2 : Hid (Ext x1 x2) := Lib.hid (Ext.trans (Ext.refl _) hx2)
  clear hx2
  go_wp2_with (at_make; refine wpList_make_full _ rfl _ _ 38 rfl x2.heap.size 5 i0 (.int .u8 0) 1 Try.underlying38 hi hz0 hz1 .i64 .i64 _ _ q rfl rfl rfl rfl ?b2 ?b3 ?b4 ?_)
  case b2 => rw [hz2]; omega
  case b3 => unfold maxLen; omega
  case b4 => exact Nat.le_refl _
  intro x3 hown hg
  have hx3 : Ext x2 x3 := (Below.refl x2.heap.size x2).grown hg (Nat.le_refl _) (fun k hk => by cases hk)
  have T_x3 : Hid (Ext w x3) := Lib.hid ((T_x1.out.trans T_x2.out).trans hx3)
  have h8 : Own8 5 x3 x2.heap.size (.slice (some ⟨x2.heap.size, 0, none⟩) q q) (List.replicate q 0) := own8_of hown (by simp) (by rw [← made8])
  have hcv := run_conv_str (P := Try.prog) x3 38 9 5 Try.underlying38 Try.underlying5 Try.underlying9 _ _ _ (Own8.rd h8)
  have hcs : (⟨(List.replicate q (0 : UInt8)).toArray⟩ : ByteArray) = s := HSZ.out
  rw [hcs] at hcv
  clear hown hg hx3 h8 hcs
  go_wp2_with (with_reducible refine wpList_conv rfl _ _ _ rfl _ _ rfl hcv ?_)
  clear hcv
  obtain ⟨X, hX⟩ : ∃ z, (x3.alloc (.cells #[.int .i64 4, .string s, .int .i64 0, .string ⟨#[]⟩, .int .i64 0, .int .i64 0, .int .i64 0, .int .i64 0, .int .i64 0, .int .i64 0, .int .i64 0, .slice none 0 0, .string ⟨#[]⟩, .int .i64 0, .int .i64 0] 37)) = z := ⟨_, rfl⟩
  have D0 : Hid (X.heap[x3.heap.size]? = some (.cells #[.int .i64 4, .string s, .int .i64 0, .string ⟨#[]⟩, .int .i64 0, .int .i64 0, .int .i64 0, .int .i64 0, .int .i64 0, .int .i64 0, .int .i64 0, .slice none 0 0, .string ⟨#[]⟩, .int .i64 0, .int .i64 0] 37 (0, 0))) := Lib.hid (by rw [← hX]; exact new_blk _ _)
  have TX : Hid (Ext w X) := Lib.hid (by rw [← hX]; exact T_x3.out.alloc _)
  rw [hX]
  clear hX
  have hle3 := T_x3.out.size
  go_loopw [8] (fun iv wr => ∃ (j : Nat) (a : Option Addr) (c : Nat), j ≤ k ∧ iv = .int .i64 ((j : Nat) : Int) ∧ OwnS Ln.cells 4 56 wr (x3.heap.size + 1) (.slice a j c) (manyL j) ∧ Ext w wr ∧ wr.heap[x3.heap.size]? = some (.cells #[.int .i64 4, .string s, .int .i64 0, .string ⟨#[]⟩, .int .i64 0, .int .i64 0, .int .i64 0, .int .i64 0, .int .i64 0, .int .i64 0, .int .i64 0, .slice a j c, .string ⟨#[]⟩, .int .i64 0, .int .i64 0] 37 (0, 0))) (fun iv _ => k - (intOf iv).toNat)
  case atStart => exact ⟨0, none, 0, by omega, rfl, World.ownsRow_nil _ _ _ _, TX.out, D0.out⟩
  case round =>
    obtain ⟨j, a, c, hj, rfl, ho, hxr, hdb⟩ := hrel
    obtain ⟨q11, f11⟩ := blkG hdb 11 (.slice a j c) rfl
    have hzz := blk_lt hdb
    by_cases hlt : j < k
    · have hok : wr.ownsRow (x3.heap.size + 1) 56 4 (.slice a j c) j ((manyL j).flatMap Ln.cells) := by have := ho; unfold OwnS at this; rwa [manyL_len] at this
      have HOK := Lib.hid hok
      have HXR := Lib.hid hxr
      have HDB := Lib.hid hdb
      clear ho hxr hdb hok
      go_wp2_with (at_builtin; refine wpList_own_push2 (w := wr) rfl _ _ 33 rfl (x3.heap.size + 1) 56 56 l0 _ 4 48 Try.underlying33 hli hl0 hl1 hl2 rfl (by decide) _ j 1 1 _ [.string ⟨#[]⟩, .string ⟨#[99]⟩, .int .i64 (j : Int), .int .i64 0] HOK.out rfl rfl rfl rfl ?c2 ?c3 ?c4 (by omega) ?_)
      case c2 => intro u hu; simp only [List.mem_cons, List.not_mem_nil, or_false] at hu; rcases hu with rfl | rfl | rfl | rfl <;> rfl
      case c3 => unfold maxLen; omega
      case c4 => omega
      intro v7 w7 ho7 hb7 _
      obtain ⟨_, _, a7, c7, hev7, _⟩ := SlR.of_own ho7
      subst hev7
      have hO7 : OwnS Ln.cells 4 56 w7 (x3.heap.size + 1) (.slice a7 (j + 1) c7) (manyL (j + 1)) := by
        rw [manyL_succ]
        unfold OwnS
        rw [List.length_append, manyL_len, List.flatMap_append]
        simpa [Ln.cells] using ho7
      have hd7 : w7.heap[x3.heap.size]? = some (.cells #[.int .i64 4, .string s, .int .i64 0, .string ⟨#[]⟩, .int .i64 0, .int .i64 0, .int .i64 0, .int .i64 0, .int .i64 0, .int .i64 0, .int .i64 0, .slice a j c, .string ⟨#[]⟩, .int .i64 0, .int .i64 0] 37 (0, 0)) := (Below.block hb7 _ (Nat.lt_succ_self _)).trans HDB.out
      obtain ⟨r11, g11⟩ := blkG hd7 11 (.slice a j c) rfl
      have hz7 := blk_lt hd7
      have HO8 := Lib.hid (OwnS.setO (b := x3.heap.size) (o := 11) (u := .slice a7 (j + 1) c7) hO7 fun a m c' he => Nat.ne_of_gt (own_blkE hO7 a m c' he).2)
      have HD8 : Hid ((w7.setCell ⟨x3.heap.size, 11, none⟩ (.slice a7 (j + 1) c7)).heap[x3.heap.size]? = some (.cells #[.int .i64 4, .string s, .int .i64 0, .string ⟨#[]⟩, .int .i64 0, .int .i64 0, .int .i64 0, .int .i64 0, .int .i64 0, .int .i64 0, .int .i64 0, .slice a7 (j + 1) c7, .string ⟨#[]⟩, .int .i64 0, .int .i64 0] 37 (0, 0))) := Lib.hid (heap_setCell_same _ _ 11 _ _ (.slice a7 (j + 1) c7) hd7)
      have HX8 : Hid (Ext w (w7.setCell ⟨x3.heap.size, 11, none⟩ (.slice a7 (j + 1) c7))) := Lib.hid (Ext.setCell (Below.trans HXR.out (Below.mono hb7 (by omega))) hle3 _)
      clear ho7 hb7 hO7 hd7
      go_wp2
      refine ⟨⟨j + 1, a7, c7, by omega, by simp, HO8.out, HX8.out, HD8.out⟩, by simp [intOf]; omega⟩
    · obtain rfl : j = k := by omega
      have T_wr := Lib.hid hxr
      have Dp_wr := Lib.hid hdb
      have HOW := Lib.hid ho.rd
      clear ho hxr hdb D0 TX HW1 HW2 T_x1 T_x2
      obtain ⟨cp_wr_0, fp_wr_0⟩ := blkG Dp_wr.out 0 (.int .i64 4) rfl
      obtain ⟨cp_wr_1, fp_wr_1⟩ := blkG Dp_wr.out 1 (.string s) rfl
      obtain ⟨cp_wr_2, fp_wr_2⟩ := blkG Dp_wr.out 2 (.int .i64 0) rfl
      obtain ⟨cp_wr_3, fp_wr_3⟩ := blkG Dp_wr.out 3 (.string ⟨#[]⟩) rfl
      obtain ⟨cp_wr_4, fp_wr_4⟩ := blkG Dp_wr.out 4 (.int .i64 0) rfl
      obtain ⟨cp_wr_5, fp_wr_5⟩ := blkG Dp_wr.out 5 (.int .i64 0) rfl
      obtain ⟨cp_wr_6, fp_wr_6⟩ := blkG Dp_wr.out 6 (.int .i64 0) rfl
      obtain ⟨cp_wr_7, fp_wr_7⟩ := blkG Dp_wr.out 7 (.int .i64 0) rfl
      obtain ⟨cp_wr_8, fp_wr_8⟩ := blkG Dp_wr.out 8 (.int .i64 0) rfl
      obtain ⟨cp_wr_9, fp_wr_9⟩ := blkG Dp_wr.out 9 (.int .i64 0) rfl
      obtain ⟨cp_wr_10, fp_wr_10⟩ := blkG Dp_wr.out 10 (.int .i64 0) rfl
      obtain ⟨cp_wr_11, fp_wr_11⟩ := blkG Dp_wr.out 11 (.slice a j c) rfl
      obtain ⟨cp_wr_12, fp_wr_12⟩ := blkG Dp_wr.out 12 (.string ⟨#[]⟩) rfl
      obtain ⟨cp_wr_13, fp_wr_13⟩ := blkG Dp_wr.out 13 (.int .i64 0) rfl
      obtain ⟨cp_wr_14, fp_wr_14⟩ := blkG Dp_wr.out 14 (.int .i64 0) rfl
      have zp_wr := blk_lt Dp_wr.out
      go_wp2_with fail
      go_at_call 10
      refine (HO.out a c _ (HOW.out.ext (Ext.refl _))).mono ?_
      rintro e x4 ⟨t, y, rfl, hh, hx4⟩
      have T_x4 : Hid (Ext wr x4) := Lib.hid (Ext.trans (Ext.refl _) hx4)
      have Dp_x4 := Lib.hid (ext_blk hx4 Dp_wr.out)
      have HH := Lib.hid hh
      have st4 := store_new (x := x4) (t := t) (y := y) (T := 25)
      clear hh
      clear hx4
      go_wp2_with fail
      go_at_call 11
      refine (HP.out t y _ (HH.out.ext (Ext.alloc (Ext.refl _) _))).mono ?_
      rintro e x5 ⟨a1, c1, rfl, HR1, hx5⟩
      have T_x5 : Hid (Ext x4 x5) := Lib.hid (Ext.trans (Ext.alloc (Ext.refl _) _) hx5)
      have Dp_x5 := Lib.hid (ext_blk hx5 (alloc_blk Dp_x4.out))
      have Dv_x5 := Lib.hid (ext_blk hx5 (new_blk x4 (.cells #[.iface t y] 25)))
      clear st4
      clear hx5
      go_wp2_with fail
      go_at_call 12
      refine (HG.out _ _ HR1.out).mono ?_
      rintro e x6 ⟨t2, y2, rfl, hh2, hx6⟩
      have T_x6 : Hid (Ext x5 x6) := Lib.hid (Ext.trans (Ext.refl _) hx6)
      have Dp_x6 := Lib.hid (ext_blk hx6 Dp_x5.out)
      have Dv_x6 := Lib.hid (ext_blk hx6 Dv_x5.out)
      have HH2 := Lib.hid hh2
      have st6 := store_new (x := x6) (t := t2) (y := y2) (T := 25)
      clear hh2
      clear hx6
      go_wp2_with fail
      go_at_call 16
      refine (HM.out t2 y2 _ (HH2.out.ext (Ext.alloc (Ext.refl _) _))).mono ?_
      rintro e x7 ⟨a7, c7, rfl, ho7, hx7⟩
      have T_x7 : Hid (Ext x6 x7) := Lib.hid (Ext.trans (Ext.alloc (Ext.refl _) _) hx7)
      have Dp_x7 := Lib.hid (ext_blk hx7 (alloc_blk Dp_x6.out))
      have Dv_x7 := Lib.hid (ext_blk hx7 (alloc_blk Dv_x6.out))
      have Du_x7 := Lib.hid (ext_blk hx7 (new_blk x6 (.cells #[.iface t2 y2] 25)))
      obtain ⟨cp_x7_1, fp_x7_1⟩ := blkG Dp_x7.out 1 (.string s) rfl
      obtain ⟨cp_x7_11, fp_x7_11⟩ := blkG Dp_x7.out 11 (.slice a j c) rfl
      have zp_x7 := blk_lt Dp_x7.out
      have HO7 := Lib.hid ho7.rd
      clear ho7 st6
      clear hx7
      go_wp2_with fail
      go_at_call 30
      refine (HS.out _ _ _ _ _ (HO7.out.ext (Ext.alloc (Ext.refl _) _)) (HOW.out.ext (Ext.alloc (((T_x4.out.trans T_x5.out).trans T_x6.out).trans T_x7.out) _))).mono ?_
      rintro e x8 ⟨rfl, hx8⟩
      have T_x8 : Hid (Ext x7 x8) := Lib.hid (Ext.trans (Ext.alloc (Ext.refl _) _) hx8)
      have Dp_x8 := Lib.hid (ext_blk hx8 (alloc_blk Dp_x7.out))
      have Dv_x8 := Lib.hid (ext_blk hx8 (alloc_blk Dv_x7.out))
      have Du_x8 := Lib.hid (ext_blk hx8 (alloc_blk Du_x7.out))
      have Dq_x8 := Lib.hid (ext_blk hx8 (new_blk x7 (.cells #[.string s, .int .i64 0, .int .i64 0, .int .i64 0, .slice a7 j c7] 49)))
      clear hx8
      go_wp2_with fail
      go_at_call 3
      refine (cruns_any _).mono ?_
      rintro e x9 ⟨rfl, hx9⟩
      have T_x9 : Hid (Ext x8 x9) := Lib.hid (Ext.trans (Ext.refl _) hx9)
      have Dp_x9 := Lib.hid (ext_blk hx9 Dp_x8.out)
      have Dv_x9 := Lib.hid (ext_blk hx9 Dv_x8.out)
      have Du_x9 := Lib.hid (ext_blk hx9 Du_x8.out)
      have Dq_x9 := Lib.hid (ext_blk hx9 Dq_x8.out)
      clear hx9
      go_wp2_with fail
      go_ret
      exact ⟨rfl, ((((((T_wr.out.trans T_x4.out).trans T_x5.out).trans T_x6.out).trans T_x7.out).trans T_x8.out).trans T_x9.out)⟩
theorem cmany_any (n m : Int) (w : World) : Calls Try.prog 9 #[.int .i64 n, .int .i64 m] w fun e w' => e = .returned (.bool true) ∧ Ext w w' := by
  obtain ⟨k, hk, hw1⟩ := within_n n 20 (by decide)
  obtain ⟨q, hq, hw2⟩ := within_n m 70 (by decide)
  by_cases hc : 12 < k
  · exact cmany_a n m k q hk hq hw1 hw2 w hc
  · by_cases hd : 64 < q
    · exact cmany_b n m k q hk hq hw1 hw2 w hc hd
    · exact cmany_c n m k q hk hq hw1 hw2 w hc hd
end Go.Proofs.Yteenkbfmlnpmlaa
