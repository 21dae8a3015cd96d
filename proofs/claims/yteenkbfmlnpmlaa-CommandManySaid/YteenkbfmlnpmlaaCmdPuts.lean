/- The law CommandPuts: the walk. (Written by genCmdW.py.) -/
import Derived.Test.YteenkbfmlnpmlaaCmdU
import Derived.Test.YteenkbfmlnpmlaaCmdT
import Derived.Test.YteenkbfmlnpmlaaCmdF
import Derived.Test.YteenkbfmlnpmlaaCmdJ
namespace Go.Proofs.Yteenkbfmlnpmlaa
open Go.RowKit

theorem few_any (c : Cm) (a : Option Addr) (n cap : Nat) (ls : List Ln) (hn : ls.length = n) (hc : n ≤ cap) (hz : LnIn ls) (w0 w : World) (hl : SlS Ln.cells 4 w0 (.slice a n cap) ls) : Calls Try.prog 18 #[c.agg (.slice a n cap)] w fun e w' => ∃ m ls', e = .returned (c.agg (.slice a m cap)) ∧ ls'.length = m ∧ m ≤ 30 ∧ m ≤ cap ∧ SlS Ln.cells 4 w0 (.slice a m cap) ls' ∧ LnIn ls' ∧ Ext w w' := by
  by_cases h : n ≤ 30
  · refine (few_le _ _ _ _ _ _ _ _ _ _ _ _ _ _ a n cap h w).mono ?_
    rintro e w' ⟨rfl, hx⟩
    exact ⟨n, ls, rfl, hn, h, hc, hl, hz, hx⟩
  · refine (few_gt _ _ _ _ _ _ _ _ _ _ _ _ _ _ a n cap (by omega) hc w).mono ?_
    rintro e w' ⟨rfl, hx⟩
    have := SlS.cut Ln.len hl 30 (by omega) cap
    exact ⟨30, ls.take 30, rfl, by rw [List.length_take]; omega, Nat.le_refl _, by omega, this, fun x hx => hz x (List.mem_of_mem_take hx), hx⟩
theorem ret_rd {P : Program} {f : FuncId} {args : Array Value} {z : World} {E : Int} {L : List UInt8} (h : Calls P f args z fun e w' => ∃ bv, e = .returned (.tuple #[bv, .int .i64 E]) ∧ Rd8 w' bv L ∧ Ext z w') : Calls P f args z fun e w' => ∃ a k c, e = .returned (.tuple #[.slice a k c, .int .i64 E]) ∧ Hid (Rd8 w' (.slice a k c) L) ∧ Ext z w' := by
  refine h.mono ?_
  rintro e w' ⟨bv, rfl, hr, hx⟩
  have hr0 := hr
  obtain ⟨_, _, a, c, rfl, _⟩ := hr0
  exact ⟨a, _, c, rfl, Lib.hid hr, hx⟩
theorem putS_ls (c : Cm) (ls : List Ln) : putS c (c.ls ls) = putS c ls := by
  unfold putS Cm.ls
  by_cases h : c.kd = 4
  · rw [if_pos h]
  · rw [if_neg h]
    unfold sF
    rw [if_neg h, if_neg h]
theorem putE_ls (c : Cm) (ls : List Ln) : putE c (c.ls ls) = putE c ls ∧ putB c (c.ls ls) = putB c ls := by
  unfold putB putE
  rw [putS_ls]
  exact ⟨rfl, rfl⟩
theorem ls_in (c : Cm) {ls : List Ln} (h : LnIn ls) : LnIn (c.ls ls) := by
  unfold Cm.ls
  split
  · exact h
  · intro x hx; cases hx
theorem rd_form {w : World} {v : Value} {l : List UInt8} (h : Rd8 w v l) : ∃ a c, v = .slice a l.length c := by
  obtain ⟨_, _, a, c, rfl, _⟩ := h
  exact ⟨a, c, rfl⟩
set_option maxHeartbeats 1000000 in
set_option maxRecDepth 100000 in
theorem cputs_no (c : Cm) (a : Option Addr) (n cap : Nat) (ls : List Ln) (hn : ls.length = n) (hc : n ≤ cap) (hin : c.In) (hz : LnIn ls) (w : World) (hl : SlS Ln.cells 4 w (.slice a n cap) ls) (hk : ¬ c.Ok) : Calls Try.prog 5 #[c.agg (.slice a n cap)] w fun e w' => e = .returned (.bool true) ∧ Ext w w' := by
  have HF := Lib.hid (few_any c a n cap ls hn hc hz w (w.alloc (.cells #[.int .i64 c.kd, .string c.ser, .int .i64 c.lim, .string c.cat, .int .i64 c.ry, .int .i64 c.rm, .int .i64 c.rd, .int .i64 c.bp, .int .i64 c.dy, .int .i64 c.dm, .int .i64 c.dd, .slice a n cap, .string c.ofs, .int .i64 c.ofn, .int .i64 c.ses] 37)) hl)
  have HIN := Lib.hid hin
  have HO := Lib.hid fun (m : Nat) (z : World) => of_no c hk a m cap z
  clear hn hc hin hz hl hk
  obtain ⟨kd, ser, lim, cat, ry, rm, rd, bp, dy, dm, dd, ofs, ofn, ses⟩ := c
  simp only [Cm.agg] at HF HO ⊢
  go_enter Try.func5, Try.ntmps5
  go_wp2_with fail
  go_at_call 18
  refine (HF.out).mono ?_
  rintro e x1 ⟨m, ls', rfl, hm, hm30, hmc, hl', hz', hx1⟩
  have T_x1 : Hid (Ext w x1) := Lib.hid (Ext.trans (Ext.alloc (Ext.refl _) _) hx1)
  have Dm_x1 := Lib.hid (ext_blk hx1 (new_blk w (.cells #[.int .i64 kd, .string ser, .int .i64 lim, .string cat, .int .i64 ry, .int .i64 rm, .int .i64 rd, .int .i64 bp, .int .i64 dy, .int .i64 dm, .int .i64 dd, .slice a n cap, .string ofs, .int .i64 ofn, .int .i64 ses] 37)))
  obtain ⟨cm_x1_0, fm_x1_0⟩ := blkG Dm_x1.out 0 (.int .i64 kd) rfl
  obtain ⟨cm_x1_1, fm_x1_1⟩ := blkG Dm_x1.out 1 (.string ser) rfl
  obtain ⟨cm_x1_2, fm_x1_2⟩ := blkG Dm_x1.out 2 (.int .i64 lim) rfl
  obtain ⟨cm_x1_3, fm_x1_3⟩ := blkG Dm_x1.out 3 (.string cat) rfl
  obtain ⟨cm_x1_4, fm_x1_4⟩ := blkG Dm_x1.out 4 (.int .i64 ry) rfl
  obtain ⟨cm_x1_5, fm_x1_5⟩ := blkG Dm_x1.out 5 (.int .i64 rm) rfl
  obtain ⟨cm_x1_6, fm_x1_6⟩ := blkG Dm_x1.out 6 (.int .i64 rd) rfl
  obtain ⟨cm_x1_7, fm_x1_7⟩ := blkG Dm_x1.out 7 (.int .i64 bp) rfl
  obtain ⟨cm_x1_8, fm_x1_8⟩ := blkG Dm_x1.out 8 (.int .i64 dy) rfl
  obtain ⟨cm_x1_9, fm_x1_9⟩ := blkG Dm_x1.out 9 (.int .i64 dm) rfl
  obtain ⟨cm_x1_10, fm_x1_10⟩ := blkG Dm_x1.out 10 (.int .i64 dd) rfl
  obtain ⟨cm_x1_11, fm_x1_11⟩ := blkG Dm_x1.out 11 (.slice a n cap) rfl
  obtain ⟨cm_x1_12, fm_x1_12⟩ := blkG Dm_x1.out 12 (.string ofs) rfl
  obtain ⟨cm_x1_13, fm_x1_13⟩ := blkG Dm_x1.out 13 (.int .i64 ofn) rfl
  obtain ⟨cm_x1_14, fm_x1_14⟩ := blkG Dm_x1.out 14 (.int .i64 ses) rfl
  have zm_x1 := blk_lt Dm_x1.out
  clear hl' hz' hm hm30 hmc
  clear hx1
  go_wp2_with fail
  obtain ⟨x2, hq2⟩ : ∃ z, (((((((((((((((x1.setCell ⟨w.heap.size, 0, none⟩ (.int .i64 kd)).setCell ⟨w.heap.size, 1, none⟩ (.string ser)).setCell ⟨w.heap.size, 2, none⟩ (.int .i64 lim)).setCell ⟨w.heap.size, 3, none⟩ (.string cat)).setCell ⟨w.heap.size, 4, none⟩ (.int .i64 ry)).setCell ⟨w.heap.size, 5, none⟩ (.int .i64 rm)).setCell ⟨w.heap.size, 6, none⟩ (.int .i64 rd)).setCell ⟨w.heap.size, 7, none⟩ (.int .i64 bp)).setCell ⟨w.heap.size, 8, none⟩ (.int .i64 dy)).setCell ⟨w.heap.size, 9, none⟩ (.int .i64 dm)).setCell ⟨w.heap.size, 10, none⟩ (.int .i64 dd)).setCell ⟨w.heap.size, 11, none⟩ (.slice a m cap)).setCell ⟨w.heap.size, 12, none⟩ (.string ofs)).setCell ⟨w.heap.size, 13, none⟩ (.int .i64 ofn)).setCell ⟨w.heap.size, 14, none⟩ (.int .i64 ses)) = z := ⟨_, rfl⟩
  rw [hq2]
  have T_x2 : Hid (Ext w x2) := Lib.hid (by rw [← hq2]; exact set15_ext T_x1.out (by exact Nat.le_refl _))
  have Dm_x2 : Hid (x2.heap[w.heap.size]? = some (.cells #[.int .i64 kd, .string ser, .int .i64 lim, .string cat, .int .i64 ry, .int .i64 rm, .int .i64 rd, .int .i64 bp, .int .i64 dy, .int .i64 dm, .int .i64 dd, .slice a m cap, .string ofs, .int .i64 ofn, .int .i64 ses] 37 (0, 0))) := Lib.hid (by rw [← hq2]; exact set15_blk Dm_x1.out)
  clear hq2
  go_at_call 10
  refine (HO.out m _).mono ?_
  rintro e x3 ⟨rfl, hx3⟩
  have T_x3 : Hid (Ext x2 x3) := Lib.hid (Ext.trans (Ext.refl _) hx3)
  have Dm_x3 := Lib.hid (ext_blk hx3 Dm_x2.out)
  clear hx3
  go_wp2_with fail
  go_at_call 11
  refine (put_no _).mono ?_
  rintro e x4 ⟨rfl, hx4⟩
  have T_x4 : Hid (Ext x3 x4) := Lib.hid (Ext.trans (Ext.alloc (Ext.refl _) _) hx4)
  have Dm_x4 := Lib.hid (ext_blk hx4 (alloc_blk Dm_x3.out))
  clear hx4
  go_wp2_with fail
  go_at_call 3
  refine (cruns_any _).mono ?_
  rintro e x5 ⟨rfl, hx5⟩
  have T_x5 : Hid (Ext x4 x5) := Lib.hid (Ext.trans (Ext.refl _) hx5)
  have Dm_x5 := Lib.hid (ext_blk hx5 Dm_x4.out)
  clear hx5
  go_wp2_with fail
  go_ret
  exact ⟨rfl, (((T_x2.out.trans T_x3.out).trans T_x4.out).trans T_x5.out)⟩
set_option maxHeartbeats 1000000 in
set_option maxRecDepth 100000 in
theorem cputs_ok (c : Cm) (a : Option Addr) (n cap : Nat) (ls : List Ln) (hn : ls.length = n) (hc : n ≤ cap) (hin : c.In) (hz : LnIn ls) (w : World) (hl : SlS Ln.cells 4 w (.slice a n cap) ls) (hk : c.Ok) : Calls Try.prog 5 #[c.agg (.slice a n cap)] w fun e w' => e = .returned (.bool true) ∧ Ext w w' := by
  have HF := Lib.hid (few_any c a n cap ls hn hc hz w (w.alloc (.cells #[.int .i64 c.kd, .string c.ser, .int .i64 c.lim, .string c.cat, .int .i64 c.ry, .int .i64 c.rm, .int .i64 c.rd, .int .i64 c.bp, .int .i64 c.dy, .int .i64 c.dm, .int .i64 c.dd, .slice a n cap, .string c.ofs, .int .i64 c.ofn, .int .i64 c.ses] 37)) hl)
  have HIN := Lib.hid hin
  have HO := Lib.hid fun (m : Nat) (ls' : List Ln) (hm : ls'.length = m) (h30 : m ≤ 30) (z : World) (hl : SlS Ln.cells 4 z (.slice a m cap) ls') => of_ok c hk a m cap ls' hm (by omega) z hl
  have HP := Lib.hid fun (ls' : List Ln) (E : Int) (L : List UInt8) (h1 : putE c ls' = E) (h2 : putB c ls' = L) (t : TypeId) (x : Value) (m : Nat) (z : World) (hz : LnIn ls') (hh : Held z (.iface t x) c (c.ls ls') (c.n m)) => ret_rd (E := E) (L := L) (by have := put_ok (ls := c.ls ls') hk HIN.out (ls_in c hz) hh; rw [(putE_ls c ls').1, (putE_ls c ls').2, h1, h2] at this; exact this)
  have HQ := Lib.hid fun (ls' : List Ln) (E : Int) (L : List UInt8) (h1 : putE c ls' = E) (h2 : putB c ls' = L) (m : Nat) (hm : ls'.length = m) (hz : LnIn ls') (z : World) (hl : SlS Ln.cells 4 z (.slice a m cap) ls') => ret_rd (E := E) (L := L) (by have := rput_ok c hk HIN.out a m cap ls' hm hz z hl; rw [h1, h2] at this; exact this)
  have HEX : Hid (∀ ls', ∃ E L, putE c ls' = E ∧ putB c ls' = L) := Lib.hid fun ls' => ⟨_, _, rfl, rfl⟩
  clear hn hc hin hz hl hk
  obtain ⟨kd, ser, lim, cat, ry, rm, rd, bp, dy, dm, dd, ofs, ofn, ses⟩ := c
  simp only [Cm.agg] at HF HO HQ ⊢
  go_enter Try.func5, Try.ntmps5
  trace "A"
  go_wp2_with fail
  go_at_call 18
  refine (HF.out).mono ?_
  rintro e x1 ⟨m, ls', rfl, hm, hm30, hmc, hl', hz', hx1⟩
  have T_x1 : Hid (Ext w x1) := Lib.hid (Ext.trans (Ext.alloc (Ext.refl _) _) hx1)
  have Dm_x1 := Lib.hid (ext_blk hx1 (new_blk w (.cells #[.int .i64 kd, .string ser, .int .i64 lim, .string cat, .int .i64 ry, .int .i64 rm, .int .i64 rd, .int .i64 bp, .int .i64 dy, .int .i64 dm, .int .i64 dd, .slice a n cap, .string ofs, .int .i64 ofn, .int .i64 ses] 37)))
  obtain ⟨cm_x1_0, fm_x1_0⟩ := blkG Dm_x1.out 0 (.int .i64 kd) rfl
  obtain ⟨cm_x1_1, fm_x1_1⟩ := blkG Dm_x1.out 1 (.string ser) rfl
  obtain ⟨cm_x1_2, fm_x1_2⟩ := blkG Dm_x1.out 2 (.int .i64 lim) rfl
  obtain ⟨cm_x1_3, fm_x1_3⟩ := blkG Dm_x1.out 3 (.string cat) rfl
  obtain ⟨cm_x1_4, fm_x1_4⟩ := blkG Dm_x1.out 4 (.int .i64 ry) rfl
  obtain ⟨cm_x1_5, fm_x1_5⟩ := blkG Dm_x1.out 5 (.int .i64 rm) rfl
  obtain ⟨cm_x1_6, fm_x1_6⟩ := blkG Dm_x1.out 6 (.int .i64 rd) rfl
  obtain ⟨cm_x1_7, fm_x1_7⟩ := blkG Dm_x1.out 7 (.int .i64 bp) rfl
  obtain ⟨cm_x1_8, fm_x1_8⟩ := blkG Dm_x1.out 8 (.int .i64 dy) rfl
  obtain ⟨cm_x1_9, fm_x1_9⟩ := blkG Dm_x1.out 9 (.int .i64 dm) rfl
  obtain ⟨cm_x1_10, fm_x1_10⟩ := blkG Dm_x1.out 10 (.int .i64 dd) rfl
  obtain ⟨cm_x1_11, fm_x1_11⟩ := blkG Dm_x1.out 11 (.slice a n cap) rfl
  obtain ⟨cm_x1_12, fm_x1_12⟩ := blkG Dm_x1.out 12 (.string ofs) rfl
  obtain ⟨cm_x1_13, fm_x1_13⟩ := blkG Dm_x1.out 13 (.int .i64 ofn) rfl
  obtain ⟨cm_x1_14, fm_x1_14⟩ := blkG Dm_x1.out 14 (.int .i64 ses) rfl
  have zm_x1 := blk_lt Dm_x1.out
  have HL : Hid (∀ z, Ext w z → SlS Ln.cells 4 z (.slice a m cap) ls') := Lib.hid (fun z hz => hl'.ext hz)
  have HZ := Lib.hid hz'
  have HM := Lib.hid hm
  obtain ⟨E, L, he1, he2⟩ := HEX.out ls'
  have HE1 := Lib.hid he1
  have HE2 := Lib.hid he2
  clear hl' hz' hm hmc he1 he2 HEX
  clear hx1
  go_wp2_with fail
  obtain ⟨x2, hq2⟩ : ∃ z, (((((((((((((((x1.setCell ⟨w.heap.size, 0, none⟩ (.int .i64 kd)).setCell ⟨w.heap.size, 1, none⟩ (.string ser)).setCell ⟨w.heap.size, 2, none⟩ (.int .i64 lim)).setCell ⟨w.heap.size, 3, none⟩ (.string cat)).setCell ⟨w.heap.size, 4, none⟩ (.int .i64 ry)).setCell ⟨w.heap.size, 5, none⟩ (.int .i64 rm)).setCell ⟨w.heap.size, 6, none⟩ (.int .i64 rd)).setCell ⟨w.heap.size, 7, none⟩ (.int .i64 bp)).setCell ⟨w.heap.size, 8, none⟩ (.int .i64 dy)).setCell ⟨w.heap.size, 9, none⟩ (.int .i64 dm)).setCell ⟨w.heap.size, 10, none⟩ (.int .i64 dd)).setCell ⟨w.heap.size, 11, none⟩ (.slice a m cap)).setCell ⟨w.heap.size, 12, none⟩ (.string ofs)).setCell ⟨w.heap.size, 13, none⟩ (.int .i64 ofn)).setCell ⟨w.heap.size, 14, none⟩ (.int .i64 ses)) = z := ⟨_, rfl⟩
  rw [hq2]
  have T_x2 : Hid (Ext w x2) := Lib.hid (by rw [← hq2]; exact set15_ext T_x1.out (by exact Nat.le_refl _))
  have Dm_x2 : Hid (x2.heap[w.heap.size]? = some (.cells #[.int .i64 kd, .string ser, .int .i64 lim, .string cat, .int .i64 ry, .int .i64 rm, .int .i64 rd, .int .i64 bp, .int .i64 dy, .int .i64 dm, .int .i64 dd, .slice a m cap, .string ofs, .int .i64 ofn, .int .i64 ses] 37 (0, 0))) := Lib.hid (by rw [← hq2]; exact set15_blk Dm_x1.out)
  clear hq2
  go_at_call 10
  refine (HO.out m ls' HM.out hm30 _ (HL.out _ T_x2.out)).mono ?_
  rintro e x3 ⟨t, y, rfl, hh, hx3⟩
  have T_x3 : Hid (Ext x2 x3) := Lib.hid (Ext.trans (Ext.refl _) hx3)
  have Dm_x3 := Lib.hid (ext_blk hx3 Dm_x2.out)
  have HH := Lib.hid hh
  have st2 := store_new (x := x3) (t := t) (y := y) (T := 25)
  clear hh
  clear hx3
  go_wp2_with fail
  go_at_call 11
  refine (HP.out ls' E L HE1.out HE2.out t y m _ HZ.out (HH.out.ext (Ext.alloc (Ext.refl _) _))).mono ?_
  rintro e x4 ⟨a1, k1, c1, rfl, HR1, hx4⟩
  have T_x4 : Hid (Ext x3 x4) := Lib.hid (Ext.trans (Ext.alloc (Ext.refl _) _) hx4)
  have Dm_x4 := Lib.hid (ext_blk hx4 (alloc_blk Dm_x3.out))
  have Dv_x4 := Lib.hid (ext_blk hx4 (new_blk x3 (.cells #[.iface t y] 25)))
  obtain ⟨cm_x4_0, fm_x4_0⟩ := blkG Dm_x4.out 0 (.int .i64 kd) rfl
  obtain ⟨cm_x4_1, fm_x4_1⟩ := blkG Dm_x4.out 1 (.string ser) rfl
  obtain ⟨cm_x4_2, fm_x4_2⟩ := blkG Dm_x4.out 2 (.int .i64 lim) rfl
  obtain ⟨cm_x4_3, fm_x4_3⟩ := blkG Dm_x4.out 3 (.string cat) rfl
  obtain ⟨cm_x4_4, fm_x4_4⟩ := blkG Dm_x4.out 4 (.int .i64 ry) rfl
  obtain ⟨cm_x4_5, fm_x4_5⟩ := blkG Dm_x4.out 5 (.int .i64 rm) rfl
  obtain ⟨cm_x4_6, fm_x4_6⟩ := blkG Dm_x4.out 6 (.int .i64 rd) rfl
  obtain ⟨cm_x4_7, fm_x4_7⟩ := blkG Dm_x4.out 7 (.int .i64 bp) rfl
  obtain ⟨cm_x4_8, fm_x4_8⟩ := blkG Dm_x4.out 8 (.int .i64 dy) rfl
  obtain ⟨cm_x4_9, fm_x4_9⟩ := blkG Dm_x4.out 9 (.int .i64 dm) rfl
  obtain ⟨cm_x4_10, fm_x4_10⟩ := blkG Dm_x4.out 10 (.int .i64 dd) rfl
  obtain ⟨cm_x4_11, fm_x4_11⟩ := blkG Dm_x4.out 11 (.slice a m cap) rfl
  obtain ⟨cm_x4_12, fm_x4_12⟩ := blkG Dm_x4.out 12 (.string ofs) rfl
  obtain ⟨cm_x4_13, fm_x4_13⟩ := blkG Dm_x4.out 13 (.int .i64 ofn) rfl
  obtain ⟨cm_x4_14, fm_x4_14⟩ := blkG Dm_x4.out 14 (.int .i64 ses) rfl
  have zm_x4 := blk_lt Dm_x4.out
  clear st2
  clear hx4
  go_wp2_with fail
  go_at_call 24
  refine (HQ.out ls' E L HE1.out HE2.out m HM.out HZ.out _ (HL.out _ ((T_x2.out.trans T_x3.out).trans T_x4.out))).mono ?_
  rintro e x5 ⟨a2, k2, c2, rfl, HR2, hx5⟩
  have T_x5 : Hid (Ext x4 x5) := Lib.hid (Ext.trans (Ext.refl _) hx5)
  have Dm_x5 := Lib.hid (ext_blk hx5 Dm_x4.out)
  have Dv_x5 := Lib.hid (ext_blk hx5 Dv_x4.out)
  clear hx5
  go_wp2_with fail
  go_at_call 17
  refine (runsSame L (HR1.out.ext T_x5.out) HR2.out).mono ?_
  rintro e x6 ⟨rfl, hx6⟩
  have T_x6 : Hid (Ext x5 x6) := Lib.hid (Ext.trans (Ext.refl _) hx6)
  have Dm_x6 := Lib.hid (ext_blk hx6 Dm_x5.out)
  have Dv_x6 := Lib.hid (ext_blk hx6 Dv_x5.out)
  clear hx6
  go_wp2_with fail
  go_at_call 3
  refine (cruns_any _).mono ?_
  rintro e x7 ⟨rfl, hx7⟩
  have T_x7 : Hid (Ext x6 x7) := Lib.hid (Ext.trans (Ext.refl _) hx7)
  have Dm_x7 := Lib.hid (ext_blk hx7 Dm_x6.out)
  have Dv_x7 := Lib.hid (ext_blk hx7 Dv_x6.out)
  clear hx7
  go_wp2_with fail
  go_ret
  exact ⟨rfl, (((((T_x2.out.trans T_x3.out).trans T_x4.out).trans T_x5.out).trans T_x6.out).trans T_x7.out)⟩
theorem cputs_any (c : Cm) (a : Option Addr) (n cap : Nat) (ls : List Ln) (hn : ls.length = n) (hc : n ≤ cap) (hin : c.In) (hz : LnIn ls) (w : World) (hl : SlS Ln.cells 4 w (.slice a n cap) ls) : Calls Try.prog 5 #[c.agg (.slice a n cap)] w fun e w' => e = .returned (.bool true) ∧ Ext w w' := by
  by_cases hk : c.Ok
  · exact cputs_ok c a n cap ls hn hc hin hz w hl hk
  · exact cputs_no c a n cap ls hn hc hin hz w hl hk
end Go.Proofs.Yteenkbfmlnpmlaa
