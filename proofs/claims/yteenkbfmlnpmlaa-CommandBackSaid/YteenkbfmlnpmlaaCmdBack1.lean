/- The law CommandBack: the short ways. (Written by genCmdBack.py.) -/
import Derived.Test.YteenkbfmlnpmlaaCmdPuts
import Derived.Test.YteenkbfmlnpmlaaCmdU
import Derived.Test.YteenkbfmlnpmlaaCmdO
import Derived.Test.YteenkbfmlnpmlaaCmdBk
import Derived.Test.YteenkbfmlnpmlaaCmdFx
import Derived.Test.YteenkbfmlnpmlaaWithin
import Derived.Test.YteenkbfmlnpmlaaPackPut
namespace Go.Proofs.Yteenkbfmlnpmlaa
open Go.RowKit

theorem bare_bare (c : Cm) (h : c.Ok) : c.bare.bare = c.bare := by
  have hk := ok_cases h
  clear h
  obtain ⟨kd, ser, lim, cat, ry, rm, rd, bp, dy, dm, dd, ofs, ofn, ses⟩ := c
  rcases hk with hk | hk | hk | hk | hk | hk | hk | hk
  all_goals
    simp only at hk
    subst hk
    rfl
theorem within_k (n : Int) (k : Nat) (hk : 0 < k) (hk2 : k ≤ 4611686018427387904) (w : World) : Calls Try.prog 28 #[.int .i64 n, .int .i64 0, .int .i64 ((k : Int) - 1)] w fun e w' => ∃ j : Nat, e = .returned (.int .i64 (j : Int)) ∧ j < k ∧ Ext w w' := by
  have hb := withI_bd n 0 ((k : Int) - 1) (by omega)
  refine (within_any n 0 ((k : Int) - 1) w (by omega) (by omega) (by omega)).mono ?_
  rintro e w' ⟨rfl, rfl⟩
  refine ⟨(withI n 0 ((k : Int) - 1)).toNat, ?_, by omega, Ext.refl _⟩
  rw [Int.toNat_of_nonneg hb.1]
theorem put_len {w : World} {t : TypeId} {x : Value} {c : Cm} {ls : List Ln} {n : Nat} (hin : c.In) (hz : LnIn ls) (hh : Held w (.iface t x) c ls n) (hE : putE c ls = 0) : Calls Try.prog 11 #[.agg #[.iface t x]] w fun e w' => ∃ a c', e = .returned (.tuple #[.slice a (putB c ls).length c', .int .i64 0]) ∧ (putB c ls).length ≤ c' ∧ Hid (Rd8 w' (.slice a (putB c ls).length c') (putB c ls)) ∧ Ext w w' := by
  refine (put_own hin hz hh hE).mono ?_
  rintro e w' ⟨bv, rfl, ho, hx⟩
  have hr := Lib.hid (Own8.rd ho)
  obtain ⟨a, c', rfl, hc⟩ := own8_cap ho
  exact ⟨a, c', rfl, hc, hr, hx⟩
set_option maxHeartbeats 4000000 in
set_option maxRecDepth 100000 in
theorem cback_nos (c : Cm) (a : Option Addr) (n m cap : Nat) (ls : List Ln) (hf : ∀ z, Calls Try.prog 18 #[c.agg (.slice a n cap)] z fun e w' => e = .returned (c.agg (.slice a m cap)) ∧ Ext z w') (hn : ls.length = m) (hm : m ≤ 30) (hin : c.In) (hz : LnIn ls) (ab : Option Addr) (cb k : Nat) (bs : List UInt8) (hk : bs.length = k) (cut : Int) (w : World) (hl : SlS Ln.cells 4 w (.slice a m cap) ls) (hb : Rd8 w (.slice ab k cb) bs) (hbl : k ≤ 140737488351232) (hE : cgE bs = 0) (hk0 : ¬ c.Ok) : Calls Try.prog 7 #[c.agg (.slice a n cap), .slice ab k cb, .int .i64 cut] w fun e w' => e = .returned (.bool true) ∧ Ext w w' := by
  obtain ⟨k1, k2, k3, k4, k5, k6, k7, _⟩ := cgE_ok hE
  obtain ⟨r1, r2⟩ := cm_read hE
  have HG2 := Lib.hid fun (z : World) (hz : Ext w z) => (cget_any (hb.ext hz) (by omega)).mono (R' := fun e w' => ∃ t x, e = .returned (.tuple #[.agg #[.iface t x], .int .i64 0]) ∧ Held w' (.iface t x) (cgR bs).1 (cgR bs).2.1 (cgR bs).2.1.length ∧ Ext z w') (by
    rintro e w' (⟨h, _⟩ | ⟨_, _, t, x, h1, h2, h3⟩)
    · exact absurd hE h
    · exact ⟨t, x, h1, h2.rd, h3⟩)
  have HP2 := Lib.hid fun (t : TypeId) (x : Value) (z : World) (hh : Held z (.iface t x) (cgR bs).1 (cgR bs).2.1 (cgR bs).2.1.length) => ret_rd (E := 0) (L := bs) (by have := put_ok k1 k2 k3 hh; rw [r1, r2] at this; exact this)
  have HB := Lib.hid hb
  clear k1 k2 k3 k4 k5 k6 k7 r1 r2 hE
  have HO := Lib.hid fun (z : World) => of_no c hk0 a m cap z
  have HF := Lib.hid hf
  clear hf hn hm hin hz hl hk0 hb
  obtain ⟨kd, ser, lim, cat, ry, rm, rd, bp, dy, dm, dd, ofs, ofn, ses⟩ := c
  simp only [Cm.agg] at HF HO ⊢
  go_enter Try.func7, Try.ntmps7
  go_wp2_with fail
  go_at_call 18
  refine (HF.out _).mono ?_
  rintro e x1 ⟨rfl, hx1⟩
  have T_x1 : Hid (Ext w x1) := Lib.hid (Ext.trans (Ext.alloc (Ext.refl _) _) hx1)
  have Dm_x1 := Lib.hid (ext_blk hx1 (new_blk w (.cells #[.int .i64 kd, .string ser, .int .i64 lim, .string cat, .int .i64 ry, .int .i64 rm, .int .i64 rd, .int .i64 bp, .int .i64 dy, .int .i64 dm, .int .i64 dd, .slice a n cap, .string ofs, .int .i64 ofn, .int .i64 ses] 37)))
  obtain ⟨cm_x1_0, fm_x1_0⟩ := blkG Dm_x1.out 0 (.int .i64 kd) rfl
  obtain ⟨cm_x1_1, fm_x1_1⟩ := blkG Dm_x1.out 1 (.string ser) rfl
  obtain ⟨cm_x1_2, fm_x1_2⟩ := blkG Dm_x1.out 2 (.int .i64 lim) rfl
  obtain ⟨cm_x1_3, fm_x1_3⟩ := blkG Dm_x1.out 3 (.string cat) rfl
  obtain ⟨cm_x1_4, fm_x1_4⟩ := blkG Dm_x1.out 4 (.int .i64 ry) rfl
  obtain ⟨cm_x1_5, fm_x1_5⟩ := blkG Dm_x1.out 5 (.int .i64 rm) rfl
  obtain ⟨cm_x1_6, fm_x1_6⟩ := blkG Dm_x1.out 6 (.int .i64 rd) rfl
  obtain ⟨cm_x1_7, fm_x1_7⟩ := blkG Dm_x1.out 7 (.int .i64 bp) rfl
  obtain ⟨cm_x1_8, fm_x1_8⟩ := blkG Dm_x1.out 8 (.int .i64 dy) rfl
  obtain ⟨cm_x1_9, fm_x1_9⟩ := blkG Dm_x1.out 9 (.int .i64 dm) rfl
  obtain ⟨cm_x1_10, fm_x1_10⟩ := blkG Dm_x1.out 10 (.int .i64 dd) rfl
  obtain ⟨cm_x1_11, fm_x1_11⟩ := blkG Dm_x1.out 11 (.slice a n cap) rfl
  obtain ⟨cm_x1_12, fm_x1_12⟩ := blkG Dm_x1.out 12 (.string ofs) rfl
  obtain ⟨cm_x1_13, fm_x1_13⟩ := blkG Dm_x1.out 13 (.int .i64 ofn) rfl
  obtain ⟨cm_x1_14, fm_x1_14⟩ := blkG Dm_x1.out 14 (.int .i64 ses) rfl
  have zm_x1 := blk_lt Dm_x1.out
  clear hx1
  go_wp2_with fail
  obtain ⟨x2, hq2⟩ : ∃ z, (((((((((((((((x1.setCell ⟨w.heap.size, 0, none⟩ (.int .i64 kd)).setCell ⟨w.heap.size, 1, none⟩ (.string ser)).setCell ⟨w.heap.size, 2, none⟩ (.int .i64 lim)).setCell ⟨w.heap.size, 3, none⟩ (.string cat)).setCell ⟨w.heap.size, 4, none⟩ (.int .i64 ry)).setCell ⟨w.heap.size, 5, none⟩ (.int .i64 rm)).setCell ⟨w.heap.size, 6, none⟩ (.int .i64 rd)).setCell ⟨w.heap.size, 7, none⟩ (.int .i64 bp)).setCell ⟨w.heap.size, 8, none⟩ (.int .i64 dy)).setCell ⟨w.heap.size, 9, none⟩ (.int .i64 dm)).setCell ⟨w.heap.size, 10, none⟩ (.int .i64 dd)).setCell ⟨w.heap.size, 11, none⟩ (.slice a m cap)).setCell ⟨w.heap.size, 12, none⟩ (.string ofs)).setCell ⟨w.heap.size, 13, none⟩ (.int .i64 ofn)).setCell ⟨w.heap.size, 14, none⟩ (.int .i64 ses)) = z := ⟨_, rfl⟩
  rw [hq2]
  have T_x2 : Hid (Ext w x2) := Lib.hid (by rw [← hq2]; exact set15_ext T_x1.out (by exact Nat.le_refl _))
  have Dm_x2 : Hid (x2.heap[w.heap.size]? = some (.cells #[.int .i64 kd, .string ser, .int .i64 lim, .string cat, .int .i64 ry, .int .i64 rm, .int .i64 rd, .int .i64 bp, .int .i64 dy, .int .i64 dm, .int .i64 dd, .slice a m cap, .string ofs, .int .i64 ofn, .int .i64 ses] 37 (0, 0))) := Lib.hid (by rw [← hq2]; exact set15_blk Dm_x1.out)
  clear hq2
  go_at_call 10
  refine (HO.out _).mono ?_
  rintro e x3 ⟨rfl, hx3⟩
  have T_x3 : Hid (Ext x2 x3) := Lib.hid (Ext.trans (Ext.refl _) hx3)
  have Dm_x3 := Lib.hid (ext_blk hx3 Dm_x2.out)
  clear hx3
  go_wp2_with fail
  go_at_call 12
  refine (HG2.out _ (Ext.alloc (T_x2.out.trans T_x3.out) _)).mono ?_
  rintro e x4 ⟨t7, y7, rfl, hh7, hx4⟩
  have T_x4 : Hid (Ext x3 x4) := Lib.hid (Ext.trans (Ext.alloc (Ext.refl _) _) hx4)
  have Dm_x4 := Lib.hid (ext_blk hx4 (alloc_blk Dm_x3.out))
  have HH7 := Lib.hid hh7
  have st7 := store_new (x := x4) (t := t7) (y := y7) (T := 25)
  clear hh7
  clear hx4
  go_wp2_with fail
  go_at_call 11
  refine (HP2.out t7 y7 _ (HH7.out.ext (Ext.alloc (Ext.refl _) _))).mono ?_
  rintro e x5 ⟨a8, k8, c8, rfl, HR8, hx5⟩
  have T_x5 : Hid (Ext x4 x5) := Lib.hid (Ext.trans (Ext.alloc (Ext.refl _) _) hx5)
  have Dm_x5 := Lib.hid (ext_blk hx5 (alloc_blk Dm_x4.out))
  have DU_x5 := Lib.hid (ext_blk hx5 (new_blk x4 (.cells #[.iface t7 y7] 25)))
  clear hx5
  go_wp2_with fail
  go_at_call 17
  refine (runsSame bs HR8.out (HB.out.ext (((T_x2.out.trans T_x3.out).trans T_x4.out).trans T_x5.out))).mono ?_
  rintro e x6 ⟨rfl, hx6⟩
  have T_x6 : Hid (Ext x5 x6) := Lib.hid (Ext.trans (Ext.refl _) hx6)
  have Dm_x6 := Lib.hid (ext_blk hx6 Dm_x5.out)
  have DU_x6 := Lib.hid (ext_blk hx6 DU_x5.out)
  clear hx6
  go_wp2_with fail
  go_at_call 3
  refine (cruns_any _).mono ?_
  rintro e x7 ⟨rfl, hx7⟩
  have T_x7 : Hid (Ext x6 x7) := Lib.hid (Ext.trans (Ext.refl _) hx7)
  have Dm_x7 := Lib.hid (ext_blk hx7 Dm_x6.out)
  have DU_x7 := Lib.hid (ext_blk hx7 DU_x6.out)
  clear hx7
  go_wp2_with fail
  go_ret
  exact ⟨rfl, (((((T_x2.out.trans T_x3.out).trans T_x4.out).trans T_x5.out).trans T_x6.out).trans T_x7.out)⟩
set_option maxHeartbeats 4000000 in
set_option maxRecDepth 100000 in
theorem cback_lgs (c : Cm) (a : Option Addr) (n m cap : Nat) (ls : List Ln) (hf : ∀ z, Calls Try.prog 18 #[c.agg (.slice a n cap)] z fun e w' => e = .returned (c.agg (.slice a m cap)) ∧ Ext z w') (hn : ls.length = m) (hm : m ≤ 30) (hin : c.In) (hz : LnIn ls) (ab : Option Addr) (cb k : Nat) (bs : List UInt8) (hk : bs.length = k) (cut : Int) (w : World) (hl : SlS Ln.cells 4 w (.slice a m cap) ls) (hb : Rd8 w (.slice ab k cb) bs) (hbl : k ≤ 140737488351232) (hE : cgE bs = 0) (hk0 : c.Ok) (hQ : putE c ls = 2) : Calls Try.prog 7 #[c.agg (.slice a n cap), .slice ab k cb, .int .i64 cut] w fun e w' => e = .returned (.bool true) ∧ Ext w w' := by
  obtain ⟨k1, k2, k3, k4, k5, k6, k7, _⟩ := cgE_ok hE
  obtain ⟨r1, r2⟩ := cm_read hE
  have HG2 := Lib.hid fun (z : World) (hz : Ext w z) => (cget_any (hb.ext hz) (by omega)).mono (R' := fun e w' => ∃ t x, e = .returned (.tuple #[.agg #[.iface t x], .int .i64 0]) ∧ Held w' (.iface t x) (cgR bs).1 (cgR bs).2.1 (cgR bs).2.1.length ∧ Ext z w') (by
    rintro e w' (⟨h, _⟩ | ⟨_, _, t, x, h1, h2, h3⟩)
    · exact absurd hE h
    · exact ⟨t, x, h1, h2.rd, h3⟩)
  have HP2 := Lib.hid fun (t : TypeId) (x : Value) (z : World) (hh : Held z (.iface t x) (cgR bs).1 (cgR bs).2.1 (cgR bs).2.1.length) => ret_rd (E := 0) (L := bs) (by have := put_ok k1 k2 k3 hh; rw [r1, r2] at this; exact this)
  have HB := Lib.hid hb
  clear k1 k2 k3 k4 k5 k6 k7 r1 r2 hE
  have HO := Lib.hid fun (z : World) (hl : SlS Ln.cells 4 z (.slice a m cap) ls) => of_ok c hk0 a m cap ls hn (by omega) z hl
  have HP := Lib.hid fun (t : TypeId) (x : Value) (z : World) (hh : Held z (.iface t x) c (c.ls ls) (c.n m)) => ret_rd (by have := put_ok (ls := c.ls ls) hk0 hin (ls_in c hz) hh; rw [(putE_ls c ls).1, (putE_ls c ls).2, hQ] at this; exact this)
  have HF := Lib.hid hf
  have HL := Lib.hid hl
  clear hf hn hm hin hz hl hk0 hb hQ
  obtain ⟨kd, ser, lim, cat, ry, rm, rd, bp, dy, dm, dd, ofs, ofn, ses⟩ := c
  simp only [Cm.agg] at HF HO ⊢
  go_enter Try.func7, Try.ntmps7
  go_wp2_with fail
  go_at_call 18
  refine (HF.out _).mono ?_
  rintro e x1 ⟨rfl, hx1⟩
  have T_x1 : Hid (Ext w x1) := Lib.hid (Ext.trans (Ext.alloc (Ext.refl _) _) hx1)
  have Dm_x1 := Lib.hid (ext_blk hx1 (new_blk w (.cells #[.int .i64 kd, .string ser, .int .i64 lim, .string cat, .int .i64 ry, .int .i64 rm, .int .i64 rd, .int .i64 bp, .int .i64 dy, .int .i64 dm, .int .i64 dd, .slice a n cap, .string ofs, .int .i64 ofn, .int .i64 ses] 37)))
  obtain ⟨cm_x1_0, fm_x1_0⟩ := blkG Dm_x1.out 0 (.int .i64 kd) rfl
  obtain ⟨cm_x1_1, fm_x1_1⟩ := blkG Dm_x1.out 1 (.string ser) rfl
  obtain ⟨cm_x1_2, fm_x1_2⟩ := blkG Dm_x1.out 2 (.int .i64 lim) rfl
  obtain ⟨cm_x1_3, fm_x1_3⟩ := blkG Dm_x1.out 3 (.string cat) rfl
  obtain ⟨cm_x1_4, fm_x1_4⟩ := blkG Dm_x1.out 4 (.int .i64 ry) rfl
  obtain ⟨cm_x1_5, fm_x1_5⟩ := blkG Dm_x1.out 5 (.int .i64 rm) rfl
  obtain ⟨cm_x1_6, fm_x1_6⟩ := blkG Dm_x1.out 6 (.int .i64 rd) rfl
  obtain ⟨cm_x1_7, fm_x1_7⟩ := blkG Dm_x1.out 7 (.int .i64 bp) rfl
  obtain ⟨cm_x1_8, fm_x1_8⟩ := blkG Dm_x1.out 8 (.int .i64 dy) rfl
  obtain ⟨cm_x1_9, fm_x1_9⟩ := blkG Dm_x1.out 9 (.int .i64 dm) rfl
  obtain ⟨cm_x1_10, fm_x1_10⟩ := blkG Dm_x1.out 10 (.int .i64 dd) rfl
  obtain ⟨cm_x1_11, fm_x1_11⟩ := blkG Dm_x1.out 11 (.slice a n cap) rfl
  obtain ⟨cm_x1_12, fm_x1_12⟩ := blkG Dm_x1.out 12 (.string ofs) rfl
  obtain ⟨cm_x1_13, fm_x1_13⟩ := blkG Dm_x1.out 13 (.int .i64 ofn) rfl
  obtain ⟨cm_x1_14, fm_x1_14⟩ := blkG Dm_x1.out 14 (.int .i64 ses) rfl
  have zm_x1 := blk_lt Dm_x1.out
  clear hx1
  go_wp2_with fail
  obtain ⟨x2, hq2⟩ : ∃ z, (((((((((((((((x1.setCell ⟨w.heap.size, 0, none⟩ (.int .i64 kd)).setCell ⟨w.heap.size, 1, none⟩ (.string ser)).setCell ⟨w.heap.size, 2, none⟩ (.int .i64 lim)).setCell ⟨w.heap.size, 3, none⟩ (.string cat)).setCell ⟨w.heap.size, 4, none⟩ (.int .i64 ry)).setCell ⟨w.heap.size, 5, none⟩ (.int .i64 rm)).setCell ⟨w.heap.size, 6, none⟩ (.int .i64 rd)).setCell ⟨w.heap.size, 7, none⟩ (.int .i64 bp)).setCell ⟨w.heap.size, 8, none⟩ (.int .i64 dy)).setCell ⟨w.heap.size, 9, none⟩ (.int .i64 dm)).setCell ⟨w.heap.size, 10, none⟩ (.int .i64 dd)).setCell ⟨w.heap.size, 11, none⟩ (.slice a m cap)).setCell ⟨w.heap.size, 12, none⟩ (.string ofs)).setCell ⟨w.heap.size, 13, none⟩ (.int .i64 ofn)).setCell ⟨w.heap.size, 14, none⟩ (.int .i64 ses)) = z := ⟨_, rfl⟩
  rw [hq2]
  have T_x2 : Hid (Ext w x2) := Lib.hid (by rw [← hq2]; exact set15_ext T_x1.out (by exact Nat.le_refl _))
  have Dm_x2 : Hid (x2.heap[w.heap.size]? = some (.cells #[.int .i64 kd, .string ser, .int .i64 lim, .string cat, .int .i64 ry, .int .i64 rm, .int .i64 rd, .int .i64 bp, .int .i64 dy, .int .i64 dm, .int .i64 dd, .slice a m cap, .string ofs, .int .i64 ofn, .int .i64 ses] 37 (0, 0))) := Lib.hid (by rw [← hq2]; exact set15_blk Dm_x1.out)
  clear hq2
  go_at_call 10
  refine (HO.out _ (HL.out.ext T_x2.out)).mono ?_
  rintro e x3 ⟨t, y, rfl, hh, hx3⟩
  have T_x3 : Hid (Ext x2 x3) := Lib.hid (Ext.trans (Ext.refl _) hx3)
  have Dm_x3 := Lib.hid (ext_blk hx3 Dm_x2.out)
  have HH := Lib.hid hh
  have st2 := store_new (x := x3) (t := t) (y := y) (T := 25)
  clear hh
  clear hx3
  go_wp2_with fail
  go_at_call 11
  refine (HP.out t y _ (HH.out.ext (Ext.alloc (Ext.refl _) _))).mono ?_
  rintro e x4 ⟨a1, k1, c1, rfl, HR1, hx4⟩
  have T_x4 : Hid (Ext x3 x4) := Lib.hid (Ext.trans (Ext.alloc (Ext.refl _) _) hx4)
  have Dm_x4 := Lib.hid (ext_blk hx4 (alloc_blk Dm_x3.out))
  have Dv_x4 := Lib.hid (ext_blk hx4 (new_blk x3 (.cells #[.iface t y] 25)))
  clear st2
  clear hx4
  go_wp2_with fail
  go_at_call 12
  refine (HG2.out _ ((T_x2.out.trans T_x3.out).trans T_x4.out)).mono ?_
  rintro e x5 ⟨t7, y7, rfl, hh7, hx5⟩
  have T_x5 : Hid (Ext x4 x5) := Lib.hid (Ext.trans (Ext.refl _) hx5)
  have Dm_x5 := Lib.hid (ext_blk hx5 Dm_x4.out)
  have Dv_x5 := Lib.hid (ext_blk hx5 Dv_x4.out)
  have HH7 := Lib.hid hh7
  have st7 := store_new (x := x5) (t := t7) (y := y7) (T := 25)
  clear hh7
  clear hx5
  go_wp2_with fail
  go_at_call 11
  refine (HP2.out t7 y7 _ (HH7.out.ext (Ext.alloc (Ext.refl _) _))).mono ?_
  rintro e x6 ⟨a8, k8, c8, rfl, HR8, hx6⟩
  have T_x6 : Hid (Ext x5 x6) := Lib.hid (Ext.trans (Ext.alloc (Ext.refl _) _) hx6)
  have Dm_x6 := Lib.hid (ext_blk hx6 (alloc_blk Dm_x5.out))
  have Dv_x6 := Lib.hid (ext_blk hx6 (alloc_blk Dv_x5.out))
  have DU_x6 := Lib.hid (ext_blk hx6 (new_blk x5 (.cells #[.iface t7 y7] 25)))
  clear hx6
  go_wp2_with fail
  go_at_call 17
  refine (runsSame bs HR8.out (HB.out.ext ((((T_x2.out.trans T_x3.out).trans T_x4.out).trans T_x5.out).trans T_x6.out))).mono ?_
  rintro e x7 ⟨rfl, hx7⟩
  have T_x7 : Hid (Ext x6 x7) := Lib.hid (Ext.trans (Ext.refl _) hx7)
  have Dm_x7 := Lib.hid (ext_blk hx7 Dm_x6.out)
  have Dv_x7 := Lib.hid (ext_blk hx7 Dv_x6.out)
  have DU_x7 := Lib.hid (ext_blk hx7 DU_x6.out)
  clear hx7
  go_wp2_with fail
  go_at_call 3
  refine (cruns_any _).mono ?_
  rintro e x8 ⟨rfl, hx8⟩
  have T_x8 : Hid (Ext x7 x8) := Lib.hid (Ext.trans (Ext.refl _) hx8)
  have Dm_x8 := Lib.hid (ext_blk hx8 Dm_x7.out)
  have Dv_x8 := Lib.hid (ext_blk hx8 Dv_x7.out)
  have DU_x8 := Lib.hid (ext_blk hx8 DU_x7.out)
  clear hx8
  go_wp2_with fail
  go_ret
  exact ⟨rfl, ((((((T_x2.out.trans T_x3.out).trans T_x4.out).trans T_x5.out).trans T_x6.out).trans T_x7.out).trans T_x8.out)⟩
set_option maxHeartbeats 4000000 in
set_option maxRecDepth 100000 in
theorem cback_non (c : Cm) (a : Option Addr) (n m cap : Nat) (ls : List Ln) (hf : ∀ z, Calls Try.prog 18 #[c.agg (.slice a n cap)] z fun e w' => e = .returned (c.agg (.slice a m cap)) ∧ Ext z w') (hn : ls.length = m) (hm : m ≤ 30) (hin : c.In) (hz : LnIn ls) (ab : Option Addr) (cb k : Nat) (bs : List UInt8) (hk : bs.length = k) (cut : Int) (w : World) (hl : SlS Ln.cells 4 w (.slice a m cap) ls) (hb : Rd8 w (.slice ab k cb) bs) (hbl : k ≤ 140737488351232) (hE : cgE bs ≠ 0) (hk0 : ¬ c.Ok) : Calls Try.prog 7 #[c.agg (.slice a n cap), .slice ab k cb, .int .i64 cut] w fun e w' => e = .returned (.bool true) ∧ Ext w w' := by
  have HG2 := Lib.hid fun (z : World) (hz : Ext w z) => (cget_any (hb.ext hz) (by omega)).mono (R' := fun e w' => e = .returned (.tuple #[.agg #[.nilIface], .int .i64 (cgE bs)]) ∧ Ext z w') (by
    rintro e w' (⟨_, h⟩ | ⟨h, _⟩)
    · exact h
    · exact absurd h hE)
  generalize cgE bs = E at *
  have he0 : (E == 0) = false := by simp [hE]
  have he1 : (E != 0) = true := by simp [hE]
  clear hE
  have HO := Lib.hid fun (z : World) => of_no c hk0 a m cap z
  have HF := Lib.hid hf
  clear hf hn hm hin hz hl hk0 hb
  obtain ⟨kd, ser, lim, cat, ry, rm, rd, bp, dy, dm, dd, ofs, ofn, ses⟩ := c
  simp only [Cm.agg] at HF HO ⊢
  go_enter Try.func7, Try.ntmps7
  go_wp2_with fail
  go_at_call 18
  refine (HF.out _).mono ?_
  rintro e x1 ⟨rfl, hx1⟩
  have T_x1 : Hid (Ext w x1) := Lib.hid (Ext.trans (Ext.alloc (Ext.refl _) _) hx1)
  have Dm_x1 := Lib.hid (ext_blk hx1 (new_blk w (.cells #[.int .i64 kd, .string ser, .int .i64 lim, .string cat, .int .i64 ry, .int .i64 rm, .int .i64 rd, .int .i64 bp, .int .i64 dy, .int .i64 dm, .int .i64 dd, .slice a n cap, .string ofs, .int .i64 ofn, .int .i64 ses] 37)))
  obtain ⟨cm_x1_0, fm_x1_0⟩ := blkG Dm_x1.out 0 (.int .i64 kd) rfl
  obtain ⟨cm_x1_1, fm_x1_1⟩ := blkG Dm_x1.out 1 (.string ser) rfl
  obtain ⟨cm_x1_2, fm_x1_2⟩ := blkG Dm_x1.out 2 (.int .i64 lim) rfl
  obtain ⟨cm_x1_3, fm_x1_3⟩ := blkG Dm_x1.out 3 (.string cat) rfl
  obtain ⟨cm_x1_4, fm_x1_4⟩ := blkG Dm_x1.out 4 (.int .i64 ry) rfl
  obtain ⟨cm_x1_5, fm_x1_5⟩ := blkG Dm_x1.out 5 (.int .i64 rm) rfl
  obtain ⟨cm_x1_6, fm_x1_6⟩ := blkG Dm_x1.out 6 (.int .i64 rd) rfl
  obtain ⟨cm_x1_7, fm_x1_7⟩ := blkG Dm_x1.out 7 (.int .i64 bp) rfl
  obtain ⟨cm_x1_8, fm_x1_8⟩ := blkG Dm_x1.out 8 (.int .i64 dy) rfl
  obtain ⟨cm_x1_9, fm_x1_9⟩ := blkG Dm_x1.out 9 (.int .i64 dm) rfl
  obtain ⟨cm_x1_10, fm_x1_10⟩ := blkG Dm_x1.out 10 (.int .i64 dd) rfl
  obtain ⟨cm_x1_11, fm_x1_11⟩ := blkG Dm_x1.out 11 (.slice a n cap) rfl
  obtain ⟨cm_x1_12, fm_x1_12⟩ := blkG Dm_x1.out 12 (.string ofs) rfl
  obtain ⟨cm_x1_13, fm_x1_13⟩ := blkG Dm_x1.out 13 (.int .i64 ofn) rfl
  obtain ⟨cm_x1_14, fm_x1_14⟩ := blkG Dm_x1.out 14 (.int .i64 ses) rfl
  have zm_x1 := blk_lt Dm_x1.out
  clear hx1
  go_wp2_with fail
  obtain ⟨x2, hq2⟩ : ∃ z, (((((((((((((((x1.setCell ⟨w.heap.size, 0, none⟩ (.int .i64 kd)).setCell ⟨w.heap.size, 1, none⟩ (.string ser)).setCell ⟨w.heap.size, 2, none⟩ (.int .i64 lim)).setCell ⟨w.heap.size, 3, none⟩ (.string cat)).setCell ⟨w.heap.size, 4, none⟩ (.int .i64 ry)).setCell ⟨w.heap.size, 5, none⟩ (.int .i64 rm)).setCell ⟨w.heap.size, 6, none⟩ (.int .i64 rd)).setCell ⟨w.heap.size, 7, none⟩ (.int .i64 bp)).setCell ⟨w.heap.size, 8, none⟩ (.int .i64 dy)).setCell ⟨w.heap.size, 9, none⟩ (.int .i64 dm)).setCell ⟨w.heap.size, 10, none⟩ (.int .i64 dd)).setCell ⟨w.heap.size, 11, none⟩ (.slice a m cap)).setCell ⟨w.heap.size, 12, none⟩ (.string ofs)).setCell ⟨w.heap.size, 13, none⟩ (.int .i64 ofn)).setCell ⟨w.heap.size, 14, none⟩ (.int .i64 ses)) = z := ⟨_, rfl⟩
  rw [hq2]
  have T_x2 : Hid (Ext w x2) := Lib.hid (by rw [← hq2]; exact set15_ext T_x1.out (by exact Nat.le_refl _))
  have Dm_x2 : Hid (x2.heap[w.heap.size]? = some (.cells #[.int .i64 kd, .string ser, .int .i64 lim, .string cat, .int .i64 ry, .int .i64 rm, .int .i64 rd, .int .i64 bp, .int .i64 dy, .int .i64 dm, .int .i64 dd, .slice a m cap, .string ofs, .int .i64 ofn, .int .i64 ses] 37 (0, 0))) := Lib.hid (by rw [← hq2]; exact set15_blk Dm_x1.out)
  clear hq2
  go_at_call 10
  refine (HO.out _).mono ?_
  rintro e x3 ⟨rfl, hx3⟩
  have T_x3 : Hid (Ext x2 x3) := Lib.hid (Ext.trans (Ext.refl _) hx3)
  have Dm_x3 := Lib.hid (ext_blk hx3 Dm_x2.out)
  clear hx3
  go_wp2_with fail
  go_at_call 12
  refine (HG2.out _ (Ext.alloc (T_x2.out.trans T_x3.out) _)).mono ?_
  rintro e x4 ⟨rfl, hx4⟩
  have T_x4 : Hid (Ext x3 x4) := Lib.hid (Ext.trans (Ext.alloc (Ext.refl _) _) hx4)
  have Dm_x4 := Lib.hid (ext_blk hx4 (alloc_blk Dm_x3.out))
  clear hx4
  go_wp2_with fail
  go_at_call 21
  refine (kind_0 _).mono ?_
  rintro e x5 ⟨rfl, hx5⟩
  have T_x5 : Hid (Ext x4 x5) := Lib.hid (Ext.trans (Ext.alloc (Ext.refl _) _) hx5)
  have Dm_x5 := Lib.hid (ext_blk hx5 (alloc_blk Dm_x4.out))
  have DU_x5 := Lib.hid (ext_blk hx5 (new_blk x4 (.cells #[.nilIface] 25)))
  clear hx5
  go_wp2_with fail
  go_at_call 3
  refine (cruns_any _).mono ?_
  rintro e x6 ⟨rfl, hx6⟩
  have T_x6 : Hid (Ext x5 x6) := Lib.hid (Ext.trans (Ext.refl _) hx6)
  have Dm_x6 := Lib.hid (ext_blk hx6 Dm_x5.out)
  have DU_x6 := Lib.hid (ext_blk hx6 DU_x5.out)
  clear hx6
  go_wp2_with fail
  go_ret
  exact ⟨rfl, ((((T_x2.out.trans T_x3.out).trans T_x4.out).trans T_x5.out).trans T_x6.out)⟩
set_option maxHeartbeats 4000000 in
set_option maxRecDepth 100000 in
theorem cback_lgn (c : Cm) (a : Option Addr) (n m cap : Nat) (ls : List Ln) (hf : ∀ z, Calls Try.prog 18 #[c.agg (.slice a n cap)] z fun e w' => e = .returned (c.agg (.slice a m cap)) ∧ Ext z w') (hn : ls.length = m) (hm : m ≤ 30) (hin : c.In) (hz : LnIn ls) (ab : Option Addr) (cb k : Nat) (bs : List UInt8) (hk : bs.length = k) (cut : Int) (w : World) (hl : SlS Ln.cells 4 w (.slice a m cap) ls) (hb : Rd8 w (.slice ab k cb) bs) (hbl : k ≤ 140737488351232) (hE : cgE bs ≠ 0) (hk0 : c.Ok) (hQ : putE c ls = 2) : Calls Try.prog 7 #[c.agg (.slice a n cap), .slice ab k cb, .int .i64 cut] w fun e w' => e = .returned (.bool true) ∧ Ext w w' := by
  have HG2 := Lib.hid fun (z : World) (hz : Ext w z) => (cget_any (hb.ext hz) (by omega)).mono (R' := fun e w' => e = .returned (.tuple #[.agg #[.nilIface], .int .i64 (cgE bs)]) ∧ Ext z w') (by
    rintro e w' (⟨_, h⟩ | ⟨h, _⟩)
    · exact h
    · exact absurd h hE)
  generalize cgE bs = E at *
  have he0 : (E == 0) = false := by simp [hE]
  have he1 : (E != 0) = true := by simp [hE]
  clear hE
  have HO := Lib.hid fun (z : World) (hl : SlS Ln.cells 4 z (.slice a m cap) ls) => of_ok c hk0 a m cap ls hn (by omega) z hl
  have HP := Lib.hid fun (t : TypeId) (x : Value) (z : World) (hh : Held z (.iface t x) c (c.ls ls) (c.n m)) => ret_rd (by have := put_ok (ls := c.ls ls) hk0 hin (ls_in c hz) hh; rw [(putE_ls c ls).1, (putE_ls c ls).2, hQ] at this; exact this)
  have HF := Lib.hid hf
  have HL := Lib.hid hl
  clear hf hn hm hin hz hl hk0 hb hQ
  obtain ⟨kd, ser, lim, cat, ry, rm, rd, bp, dy, dm, dd, ofs, ofn, ses⟩ := c
  simp only [Cm.agg] at HF HO ⊢
  go_enter Try.func7, Try.ntmps7
  go_wp2_with fail
  go_at_call 18
  refine (HF.out _).mono ?_
  rintro e x1 ⟨rfl, hx1⟩
  have T_x1 : Hid (Ext w x1) := Lib.hid (Ext.trans (Ext.alloc (Ext.refl _) _) hx1)
  have Dm_x1 := Lib.hid (ext_blk hx1 (new_blk w (.cells #[.int .i64 kd, .string ser, .int .i64 lim, .string cat, .int .i64 ry, .int .i64 rm, .int .i64 rd, .int .i64 bp, .int .i64 dy, .int .i64 dm, .int .i64 dd, .slice a n cap, .string ofs, .int .i64 ofn, .int .i64 ses] 37)))
  obtain ⟨cm_x1_0, fm_x1_0⟩ := blkG Dm_x1.out 0 (.int .i64 kd) rfl
  obtain ⟨cm_x1_1, fm_x1_1⟩ := blkG Dm_x1.out 1 (.string ser) rfl
  obtain ⟨cm_x1_2, fm_x1_2⟩ := blkG Dm_x1.out 2 (.int .i64 lim) rfl
  obtain ⟨cm_x1_3, fm_x1_3⟩ := blkG Dm_x1.out 3 (.string cat) rfl
  obtain ⟨cm_x1_4, fm_x1_4⟩ := blkG Dm_x1.out 4 (.int .i64 ry) rfl
  obtain ⟨cm_x1_5, fm_x1_5⟩ := blkG Dm_x1.out 5 (.int .i64 rm) rfl
  obtain ⟨cm_x1_6, fm_x1_6⟩ := blkG Dm_x1.out 6 (.int .i64 rd) rfl
  obtain ⟨cm_x1_7, fm_x1_7⟩ := blkG Dm_x1.out 7 (.int .i64 bp) rfl
  obtain ⟨cm_x1_8, fm_x1_8⟩ := blkG Dm_x1.out 8 (.int .i64 dy) rfl
  obtain ⟨cm_x1_9, fm_x1_9⟩ := blkG Dm_x1.out 9 (.int .i64 dm) rfl
  obtain ⟨cm_x1_10, fm_x1_10⟩ := blkG Dm_x1.out 10 (.int .i64 dd) rfl
  obtain ⟨cm_x1_11, fm_x1_11⟩ := blkG Dm_x1.out 11 (.slice a n cap) rfl
  obtain ⟨cm_x1_12, fm_x1_12⟩ := blkG Dm_x1.out 12 (.string ofs) rfl
  obtain ⟨cm_x1_13, fm_x1_13⟩ := blkG Dm_x1.out 13 (.int .i64 ofn) rfl
  obtain ⟨cm_x1_14, fm_x1_14⟩ := blkG Dm_x1.out 14 (.int .i64 ses) rfl
  have zm_x1 := blk_lt Dm_x1.out
  clear hx1
  go_wp2_with fail
  obtain ⟨x2, hq2⟩ : ∃ z, (((((((((((((((x1.setCell ⟨w.heap.size, 0, none⟩ (.int .i64 kd)).setCell ⟨w.heap.size, 1, none⟩ (.string ser)).setCell ⟨w.heap.size, 2, none⟩ (.int .i64 lim)).setCell ⟨w.heap.size, 3, none⟩ (.string cat)).setCell ⟨w.heap.size, 4, none⟩ (.int .i64 ry)).setCell ⟨w.heap.size, 5, none⟩ (.int .i64 rm)).setCell ⟨w.heap.size, 6, none⟩ (.int .i64 rd)).setCell ⟨w.heap.size, 7, none⟩ (.int .i64 bp)).setCell ⟨w.heap.size, 8, none⟩ (.int .i64 dy)).setCell ⟨w.heap.size, 9, none⟩ (.int .i64 dm)).setCell ⟨w.heap.size, 10, none⟩ (.int .i64 dd)).setCell ⟨w.heap.size, 11, none⟩ (.slice a m cap)).setCell ⟨w.heap.size, 12, none⟩ (.string ofs)).setCell ⟨w.heap.size, 13, none⟩ (.int .i64 ofn)).setCell ⟨w.heap.size, 14, none⟩ (.int .i64 ses)) = z := ⟨_, rfl⟩
  rw [hq2]
  have T_x2 : Hid (Ext w x2) := Lib.hid (by rw [← hq2]; exact set15_ext T_x1.out (by exact Nat.le_refl _))
  have Dm_x2 : Hid (x2.heap[w.heap.size]? = some (.cells #[.int .i64 kd, .string ser, .int .i64 lim, .string cat, .int .i64 ry, .int .i64 rm, .int .i64 rd, .int .i64 bp, .int .i64 dy, .int .i64 dm, .int .i64 dd, .slice a m cap, .string ofs, .int .i64 ofn, .int .i64 ses] 37 (0, 0))) := Lib.hid (by rw [← hq2]; exact set15_blk Dm_x1.out)
  clear hq2
  go_at_call 10
  refine (HO.out _ (HL.out.ext T_x2.out)).mono ?_
  rintro e x3 ⟨t, y, rfl, hh, hx3⟩
  have T_x3 : Hid (Ext x2 x3) := Lib.hid (Ext.trans (Ext.refl _) hx3)
  have Dm_x3 := Lib.hid (ext_blk hx3 Dm_x2.out)
  have HH := Lib.hid hh
  have st2 := store_new (x := x3) (t := t) (y := y) (T := 25)
  clear hh
  clear hx3
  go_wp2_with fail
  go_at_call 11
  refine (HP.out t y _ (HH.out.ext (Ext.alloc (Ext.refl _) _))).mono ?_
  rintro e x4 ⟨a1, k1, c1, rfl, HR1, hx4⟩
  have T_x4 : Hid (Ext x3 x4) := Lib.hid (Ext.trans (Ext.alloc (Ext.refl _) _) hx4)
  have Dm_x4 := Lib.hid (ext_blk hx4 (alloc_blk Dm_x3.out))
  have Dv_x4 := Lib.hid (ext_blk hx4 (new_blk x3 (.cells #[.iface t y] 25)))
  clear st2
  clear hx4
  go_wp2_with fail
  go_at_call 12
  refine (HG2.out _ ((T_x2.out.trans T_x3.out).trans T_x4.out)).mono ?_
  rintro e x5 ⟨rfl, hx5⟩
  have T_x5 : Hid (Ext x4 x5) := Lib.hid (Ext.trans (Ext.refl _) hx5)
  have Dm_x5 := Lib.hid (ext_blk hx5 Dm_x4.out)
  have Dv_x5 := Lib.hid (ext_blk hx5 Dv_x4.out)
  clear hx5
  go_wp2_with fail
  go_at_call 21
  refine (kind_0 _).mono ?_
  rintro e x6 ⟨rfl, hx6⟩
  have T_x6 : Hid (Ext x5 x6) := Lib.hid (Ext.trans (Ext.alloc (Ext.refl _) _) hx6)
  have Dm_x6 := Lib.hid (ext_blk hx6 (alloc_blk Dm_x5.out))
  have Dv_x6 := Lib.hid (ext_blk hx6 (alloc_blk Dv_x5.out))
  have DU_x6 := Lib.hid (ext_blk hx6 (new_blk x5 (.cells #[.nilIface] 25)))
  clear hx6
  go_wp2_with fail
  go_at_call 3
  refine (cruns_any _).mono ?_
  rintro e x7 ⟨rfl, hx7⟩
  have T_x7 : Hid (Ext x6 x7) := Lib.hid (Ext.trans (Ext.refl _) hx7)
  have Dm_x7 := Lib.hid (ext_blk hx7 Dm_x6.out)
  have Dv_x7 := Lib.hid (ext_blk hx7 Dv_x6.out)
  have DU_x7 := Lib.hid (ext_blk hx7 DU_x6.out)
  clear hx7
  go_wp2_with fail
  go_ret
  exact ⟨rfl, (((((T_x2.out.trans T_x3.out).trans T_x4.out).trans T_x5.out).trans T_x6.out).trans T_x7.out)⟩
end Go.Proofs.Yteenkbfmlnpmlaa
