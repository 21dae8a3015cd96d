/- The law CommandTurns: the walk. (Written by genCmdTurns.py.) -/
import Derived.Test.YteenkbfmlnpmlaaCmdU
import Derived.Test.YteenkbfmlnpmlaaCmdO
import Derived.Test.YteenkbfmlnpmlaaCmdN
import Derived.Test.YteenkbfmlnpmlaaCmdFx
import Derived.Test.YteenkbfmlnpmlaaCmdK
import Derived.Test.YteenkbfmlnpmlaaQuietS
namespace Go.Proofs.Yteenkbfmlnpmlaa
open Go.RowKit

theorem own_cutLn {te : TypeId} {w : World} {B g m : Nat} {ls : List Ln} {mk : Ln} (h : OwnS Ln.cells 4 te w B (.slice (some ⟨g, 0, none⟩) (m + 80) (m + 80)) (ls ++ List.replicate 80 mk)) (hn : ls.length = m) : SlS Ln.cells 4 w (.slice (some ⟨g, 0, none⟩) m (m + 80)) ls := by
  have h2 := SlS.cut Ln.len (OwnS.rd h) m (by rw [List.length_append, hn]; omega) (m + 80)
  rw [← hn, List.take_left] at h2
  rw [← hn]
  exact h2
theorem own_someS {te : TypeId} {w : World} {B q c : Nat} {a : Option Addr} {xs : List Ln} (h : OwnS Ln.cells 4 te w B (.slice a q c) xs) (hq : 0 < q) : ∃ g, a = some ⟨g, 0, none⟩ := by
  obtain ⟨h1, h2⟩ := h
  rcases h2 with ⟨h0, _⟩ | ⟨g, cap, cur, he, _⟩
  · cases h0
    omega
  · cases he
    exact ⟨g, rfl⟩
theorem below_blk2 {a z : World} {b B : Nat} {o : Obj} (h : Below B a z) (hb : b < B) (H : a.heap[b]? = some o) : z.heap[b]? = some o := (Below.block h b hb).trans H
theorem set_blk2 {a : World} {b r i : Nat} {o : Obj} {u : Value} (H : a.heap[b]? = some o) (hne : b ≠ r) : (a.setCell ⟨r, i, none⟩ u).heap[b]? = some o := (Below.heap_setCell a ⟨r, i, none⟩ u b hne).trans H
set_option maxHeartbeats 8000000 in
set_option maxRecDepth 100000 in
theorem cturns_no (c : Cm) (a : Option Addr) (n m cap : Nat) (ls : List Ln) (hf : ∀ z, Calls Try.prog 18 #[c.agg (.slice a n cap)] z fun e w' => e = .returned (c.agg (.slice a m cap)) ∧ Ext z w') (hn : ls.length = m) (hm : m ≤ 30) (w : World) (hl : SlS Ln.cells 4 w (.slice a m cap) ls) (hk : ¬ c.Ok) : Calls Try.prog 4 #[c.agg (.slice a n cap)] w fun e w' => e = .returned (.bool true) ∧ Ext w w' := by
  have hro := fun (z : World) (hz : Ext w z) => roomyLn (.slice a m cap) ls (⟨⟨#[]⟩, ⟨#[]⟩, 0, 9⟩ : Ln) z (hl.ext hz) (by omega)
  have hin := fun (gg : Nat) (z : World) (B : Nat) (ho : OwnS Ln.cells 4 56 z B (.slice (some ⟨gg, 0, none⟩) (ls.length + 80) (ls.length + 80)) (ls ++ List.replicate 80 (⟨⟨#[]⟩, ⟨#[]⟩, 0, 9⟩ : Ln))) (hz : Ext w z) => intactLn gg (.slice a m cap) ls (⟨⟨#[]⟩, ⟨#[]⟩, 0, 9⟩ : Ln) z B ho (hl.ext hz) (by omega)
  rw [hn] at hro hin
  simp only [Ln.val] at hro hin
  have HRO := Lib.hid hro
  have HIN := Lib.hid hin
  have HLN := Lib.hid hn
  have HO := Lib.hid fun (gg : Nat) (z : World) => of_no c hk (some ⟨gg, 0, none⟩) m (m + 80) z
  have HB := Lib.hid fun (z : World) => bare_0 c.kd c.lim c.ry c.rm c.rd c.bp c.dy c.dm c.dd c.ofn c.ses c.ser c.cat c.ofs a m cap (by unfold Cm.Ok at hk; omega) z
  have HF := Lib.hid hf
  clear hf hn hm hl hk hro hin
  obtain ⟨kd, ser, lim, cat, ry, rm, rd, bp, dy, dm, dd, ofs, ofn, ses⟩ := c
  simp only [Cm.agg] at HF HO HB ⊢
  go_enter Try.func4, Try.ntmps4
  go_wp2_with fail
  go_at_call 18
  refine (HF.out _).mono ?_
  rintro e x1 ⟨rfl, hx1⟩
  have T_x1 : Hid (Ext w x1) := Lib.hid (Ext.trans (Ext.alloc (Ext.refl _) _) hx1)
  have Dm_x1 := Lib.hid (ext_blk hx1 (new_blk w (.cells #[.int .i64 kd, .string ser, .int .i64 lim, .string cat, .int .i64 ry, .int .i64 rm, .int .i64 rd, .int .i64 bp, .int .i64 dy, .int .i64 dm, .int .i64 dd, .slice a n cap, .string ofs, .int .i64 ofn, .int .i64 ses] 37)))
  obtain ⟨cm_x1_0, fm_x1_0⟩ := blkG Dm_x1.out 0 (.int .i64 kd) rfl
  obtain ⟨cm_x1_1, fm_x1_1⟩ := blkG Dm_x1.out 1 (.string ser) rfl
  obtain ⟨cm_x1_2, fm_x1_2⟩ := blkG Dm_x1.out 2 (.int .i64 lim) rfl
  obtain ⟨cm_x1_3, fm_x1_3⟩ := blkG Dm_x1.out 3 (.string cat) rfl
  obtain ⟨cm_x1_4, fm_x1_4⟩ := blkG Dm_x1.out 4 (.int .i64 ry) rfl
  obtain ⟨cm_x1_5, fm_x1_5⟩ := blkG Dm_x1.out 5 (.int .i64 rm) rfl
  obtain ⟨cm_x1_6, fm_x1_6⟩ := blkG Dm_x1.out 6 (.int .i64 rd) rfl
  obtain ⟨cm_x1_7, fm_x1_7⟩ := blkG Dm_x1.out 7 (.int .i64 bp) rfl
  obtain ⟨cm_x1_8, fm_x1_8⟩ := blkG Dm_x1.out 8 (.int .i64 dy) rfl
  obtain ⟨cm_x1_9, fm_x1_9⟩ := blkG Dm_x1.out 9 (.int .i64 dm) rfl
  obtain ⟨cm_x1_10, fm_x1_10⟩ := blkG Dm_x1.out 10 (.int .i64 dd) rfl
  obtain ⟨cm_x1_11, fm_x1_11⟩ := blkG Dm_x1.out 11 (.slice a n cap) rfl
  obtain ⟨cm_x1_12, fm_x1_12⟩ := blkG Dm_x1.out 12 (.string ofs) rfl
  obtain ⟨cm_x1_13, fm_x1_13⟩ := blkG Dm_x1.out 13 (.int .i64 ofn) rfl
  obtain ⟨cm_x1_14, fm_x1_14⟩ := blkG Dm_x1.out 14 (.int .i64 ses) rfl
  have zm_x1 := blk_lt Dm_x1.out
  clear hx1
  go_wp2_with fail
  obtain ⟨x2, hq2⟩ : ∃ z, (((((((((((((((x1.setCell ⟨w.heap.size, 0, none⟩ (.int .i64 kd)).setCell ⟨w.heap.size, 1, none⟩ (.string ser)).setCell ⟨w.heap.size, 2, none⟩ (.int .i64 lim)).setCell ⟨w.heap.size, 3, none⟩ (.string cat)).setCell ⟨w.heap.size, 4, none⟩ (.int .i64 ry)).setCell ⟨w.heap.size, 5, none⟩ (.int .i64 rm)).setCell ⟨w.heap.size, 6, none⟩ (.int .i64 rd)).setCell ⟨w.heap.size, 7, none⟩ (.int .i64 bp)).setCell ⟨w.heap.size, 8, none⟩ (.int .i64 dy)).setCell ⟨w.heap.size, 9, none⟩ (.int .i64 dm)).setCell ⟨w.heap.size, 10, none⟩ (.int .i64 dd)).setCell ⟨w.heap.size, 11, none⟩ (.slice a m cap)).setCell ⟨w.heap.size, 12, none⟩ (.string ofs)).setCell ⟨w.heap.size, 13, none⟩ (.int .i64 ofn)).setCell ⟨w.heap.size, 14, none⟩ (.int .i64 ses)) = z := ⟨_, rfl⟩
  rw [hq2]
  have T_x2 : Hid (Ext w x2) := Lib.hid (by rw [← hq2]; exact set15_ext T_x1.out (by exact Nat.le_refl _))
  have Dm_x2 : Hid (x2.heap[w.heap.size]? = some (.cells #[.int .i64 kd, .string ser, .int .i64 lim, .string cat, .int .i64 ry, .int .i64 rm, .int .i64 rd, .int .i64 bp, .int .i64 dy, .int .i64 dm, .int .i64 dd, .slice a m cap, .string ofs, .int .i64 ofn, .int .i64 ses] 37 (0, 0))) := Lib.hid (by rw [← hq2]; exact set15_blk Dm_x1.out)
  clear hq2
  go_at_call 19
  refine (HRO.out _ T_x2.out).mono ?_
  rintro e x3 ⟨gg, rfl, ho1, hx3⟩
  have T_x3 : Hid (Ext x2 x3) := Lib.hid (Ext.trans (Ext.refl _) hx3)
  have Dm_x3 := Lib.hid (ext_blk hx3 Dm_x2.out)
  obtain ⟨cm_x3_0, fm_x3_0⟩ := blkG Dm_x3.out 0 (.int .i64 kd) rfl
  obtain ⟨cm_x3_1, fm_x3_1⟩ := blkG Dm_x3.out 1 (.string ser) rfl
  obtain ⟨cm_x3_2, fm_x3_2⟩ := blkG Dm_x3.out 2 (.int .i64 lim) rfl
  obtain ⟨cm_x3_3, fm_x3_3⟩ := blkG Dm_x3.out 3 (.string cat) rfl
  obtain ⟨cm_x3_4, fm_x3_4⟩ := blkG Dm_x3.out 4 (.int .i64 ry) rfl
  obtain ⟨cm_x3_5, fm_x3_5⟩ := blkG Dm_x3.out 5 (.int .i64 rm) rfl
  obtain ⟨cm_x3_6, fm_x3_6⟩ := blkG Dm_x3.out 6 (.int .i64 rd) rfl
  obtain ⟨cm_x3_7, fm_x3_7⟩ := blkG Dm_x3.out 7 (.int .i64 bp) rfl
  obtain ⟨cm_x3_8, fm_x3_8⟩ := blkG Dm_x3.out 8 (.int .i64 dy) rfl
  obtain ⟨cm_x3_9, fm_x3_9⟩ := blkG Dm_x3.out 9 (.int .i64 dm) rfl
  obtain ⟨cm_x3_10, fm_x3_10⟩ := blkG Dm_x3.out 10 (.int .i64 dd) rfl
  obtain ⟨cm_x3_11, fm_x3_11⟩ := blkG Dm_x3.out 11 (.slice a m cap) rfl
  obtain ⟨cm_x3_12, fm_x3_12⟩ := blkG Dm_x3.out 12 (.string ofs) rfl
  obtain ⟨cm_x3_13, fm_x3_13⟩ := blkG Dm_x3.out 13 (.int .i64 ofn) rfl
  obtain ⟨cm_x3_14, fm_x3_14⟩ := blkG Dm_x3.out 14 (.int .i64 ses) rfl
  have zm_x3 := blk_lt Dm_x3.out
  have HO1 := Lib.hid ho1
  clear ho1
  clear hx3
  go_wp2_with fail
  go_at_call 10
  refine (HO.out gg _).mono ?_
  rintro e x4 ⟨rfl, hx4⟩
  have T_x4 : Hid (Ext x3 x4) := Lib.hid (Ext.trans (Ext.alloc (Ext.refl _) _) hx4)
  have Dm_x4 := Lib.hid (ext_blk hx4 (alloc_blk Dm_x3.out))
  have Do_x4 := Lib.hid (ext_blk hx4 (new_blk x3 (.cells #[.int .i64 kd, .string ser, .int .i64 lim, .string cat, .int .i64 ry, .int .i64 rm, .int .i64 rd, .int .i64 bp, .int .i64 dy, .int .i64 dm, .int .i64 dd, .slice (some ⟨gg, 0, none⟩) m (m + 80), .string ofs, .int .i64 ofn, .int .i64 ses] 37)))
  obtain ⟨cm_x4_0, fm_x4_0⟩ := blkG Dm_x4.out 0 (.int .i64 kd) rfl
  obtain ⟨cm_x4_1, fm_x4_1⟩ := blkG Dm_x4.out 1 (.string ser) rfl
  obtain ⟨cm_x4_2, fm_x4_2⟩ := blkG Dm_x4.out 2 (.int .i64 lim) rfl
  obtain ⟨cm_x4_3, fm_x4_3⟩ := blkG Dm_x4.out 3 (.string cat) rfl
  obtain ⟨cm_x4_4, fm_x4_4⟩ := blkG Dm_x4.out 4 (.int .i64 ry) rfl
  obtain ⟨cm_x4_5, fm_x4_5⟩ := blkG Dm_x4.out 5 (.int .i64 rm) rfl
  obtain ⟨cm_x4_6, fm_x4_6⟩ := blkG Dm_x4.out 6 (.int .i64 rd) rfl
  obtain ⟨cm_x4_7, fm_x4_7⟩ := blkG Dm_x4.out 7 (.int .i64 bp) rfl
  obtain ⟨cm_x4_8, fm_x4_8⟩ := blkG Dm_x4.out 8 (.int .i64 dy) rfl
  obtain ⟨cm_x4_9, fm_x4_9⟩ := blkG Dm_x4.out 9 (.int .i64 dm) rfl
  obtain ⟨cm_x4_10, fm_x4_10⟩ := blkG Dm_x4.out 10 (.int .i64 dd) rfl
  obtain ⟨cm_x4_11, fm_x4_11⟩ := blkG Dm_x4.out 11 (.slice a m cap) rfl
  obtain ⟨cm_x4_12, fm_x4_12⟩ := blkG Dm_x4.out 12 (.string ofs) rfl
  obtain ⟨cm_x4_13, fm_x4_13⟩ := blkG Dm_x4.out 13 (.int .i64 ofn) rfl
  obtain ⟨cm_x4_14, fm_x4_14⟩ := blkG Dm_x4.out 14 (.int .i64 ses) rfl
  have zm_x4 := blk_lt Dm_x4.out
  clear hx4
  go_wp2_with fail
  go_at_call 20
  refine (HB.out _).mono ?_
  rintro e x5 ⟨rfl, hx5⟩
  have T_x5 : Hid (Ext x4 x5) := Lib.hid (Ext.trans (Ext.alloc (Ext.refl _) _) hx5)
  have Dm_x5 := Lib.hid (ext_blk hx5 (alloc_blk Dm_x4.out))
  have Do_x5 := Lib.hid (ext_blk hx5 (alloc_blk Do_x4.out))
  have Dv_x5 := Lib.hid (ext_blk hx5 (new_blk x4 (.cells #[.nilIface] 25)))
  obtain ⟨cv_x5_0, fv_x5_0⟩ := blkG Dv_x5.out 0 (.nilIface) rfl
  have zv_x5 := blk_lt Dv_x5.out
  clear hx5
  go_wp2_with fail
  go_at_call 21
  refine (kind_0 _).mono ?_
  rintro e x6 ⟨rfl, hx6⟩
  have T_x6 : Hid (Ext x5 x6) := Lib.hid (Ext.trans (Ext.alloc (Ext.refl _) _) hx6)
  have Dm_x6 := Lib.hid (ext_blk hx6 (alloc_blk Dm_x5.out))
  have Do_x6 := Lib.hid (ext_blk hx6 (alloc_blk Do_x5.out))
  have Dv_x6 := Lib.hid (ext_blk hx6 (alloc_blk Dv_x5.out))
  have Db_x6 := Lib.hid (ext_blk hx6 (new_blk x5 (.cells #[.int .i64 0, .string ⟨#[]⟩, .int .i64 0, .string ⟨#[]⟩, .int .i64 0, .int .i64 0, .int .i64 0, .int .i64 0, .int .i64 0, .int .i64 0, .int .i64 0, .slice none 0 0, .string ⟨#[]⟩, .int .i64 0, .int .i64 0] 37)))
  clear hx6
  go_wp2_with fail
  go_at_call 3
  refine (cruns_any _).mono ?_
  rintro e x7 ⟨rfl, hx7⟩
  have T_x7 : Hid (Ext x6 x7) := Lib.hid (Ext.trans (Ext.refl _) hx7)
  have Dm_x7 := Lib.hid (ext_blk hx7 Dm_x6.out)
  have Do_x7 := Lib.hid (ext_blk hx7 Do_x6.out)
  have Dv_x7 := Lib.hid (ext_blk hx7 Dv_x6.out)
  have Db_x7 := Lib.hid (ext_blk hx7 Db_x6.out)
  clear hx7
  go_wp2_with fail
  go_ret
  exact ⟨rfl, (((((T_x2.out.trans T_x3.out).trans T_x4.out).trans T_x5.out).trans T_x6.out).trans T_x7.out)⟩
set_option maxHeartbeats 8000000 in
set_option maxRecDepth 100000 in
theorem cturns_ok (c : Cm) (a : Option Addr) (n m cap : Nat) (ls : List Ln) (hf : ∀ z, Calls Try.prog 18 #[c.agg (.slice a n cap)] z fun e w' => e = .returned (c.agg (.slice a m cap)) ∧ Ext z w') (hn : ls.length = m) (hm : m ≤ 30) (w : World) (hl : SlS Ln.cells 4 w (.slice a m cap) ls) (hk : c.Ok) : Calls Try.prog 4 #[c.agg (.slice a n cap)] w fun e w' => e = .returned (.bool true) ∧ Ext w w' := by
  have hro := fun (z : World) (hz : Ext w z) => roomyLn (.slice a m cap) ls (⟨⟨#[]⟩, ⟨#[]⟩, 0, 9⟩ : Ln) z (hl.ext hz) (by omega)
  have hin := fun (gg : Nat) (z : World) (B : Nat) (ho : OwnS Ln.cells 4 56 z B (.slice (some ⟨gg, 0, none⟩) (ls.length + 80) (ls.length + 80)) (ls ++ List.replicate 80 (⟨⟨#[]⟩, ⟨#[]⟩, 0, 9⟩ : Ln))) (hz : Ext w z) => intactLn gg (.slice a m cap) ls (⟨⟨#[]⟩, ⟨#[]⟩, 0, 9⟩ : Ln) z B ho (hl.ext hz) (by omega)
  rw [hn] at hro hin
  simp only [Ln.val] at hro hin
  have HRO := Lib.hid hro
  have HIN := Lib.hid hin
  have HLN := Lib.hid hn
  have HO := Lib.hid fun (gg : Nat) (z : World) (hl : SlS Ln.cells 4 z (.slice (some ⟨gg, 0, none⟩) m (m + 80)) ls) => of_ok c hk (some ⟨gg, 0, none⟩) m (m + 80) ls hn (by omega) z hl
  have HB := Lib.hid fun (z : World) (hz : Ext w z) => rbare_any c hk a m cap ls hn (by omega) z (hl.ext hz)
  have hcn := Cm.ls_len c hn
  have hq30 : c.n m ≤ 1000000 := by unfold Cm.n; split <;> omega
  have HFL := Lib.hid fun (t : TypeId) (x : Value) (z : World) (hh : Held z (.iface t x) c (c.ls ls) (c.n m)) => flat_ok hk hh
  have HKD := Lib.hid fun (t : TypeId) (x : Value) (w0 : World) (hh : Held w0 (.iface t x) c (c.ls ls) (c.n m)) (z : World) => kind_ok hk hh z
  have HCM := Lib.hid fun (a a' : Option Addr) (cap cap' : Nat) (z : World) (h1 : SlS Ln.cells 4 z (.slice a (c.n m) cap) (c.ls ls)) (h2 : SlS Ln.cells 4 z (.slice a' (c.n m) cap') (c.ls ls)) => cmds_true c.bare a a' (c.n m) cap cap' (c.ls ls) hcn hq30 z h1 h2
  generalize c.ls ls = cl at *
  generalize c.n m = q at *
  generalize c.bare = d at *
  have HQ := Lib.hid hcn
  have HF := Lib.hid hf
  clear hf hn hm hl hk hro hin hcn
  obtain ⟨kd, ser, lim, cat, ry, rm, rd, bp, dy, dm, dd, ofs, ofn, ses⟩ := c
  obtain ⟨dkd, dser, dlim, dcat, dry, drm, drd, dbp, ddy, ddm, ddd, dofs, dofn, dses⟩ := d
  simp only [Cm.agg] at HF HO HB HFL HKD HCM ⊢
  go_enter Try.func4, Try.ntmps4
  go_wp2_with fail
  go_at_call 18
  refine (HF.out _).mono ?_
  rintro e x1 ⟨rfl, hx1⟩
  have T_x1 : Hid (Ext w x1) := Lib.hid (Ext.trans (Ext.alloc (Ext.refl _) _) hx1)
  have Dm_x1 := Lib.hid (ext_blk hx1 (new_blk w (.cells #[.int .i64 kd, .string ser, .int .i64 lim, .string cat, .int .i64 ry, .int .i64 rm, .int .i64 rd, .int .i64 bp, .int .i64 dy, .int .i64 dm, .int .i64 dd, .slice a n cap, .string ofs, .int .i64 ofn, .int .i64 ses] 37)))
  obtain ⟨cm_x1_0, fm_x1_0⟩ := blkG Dm_x1.out 0 (.int .i64 kd) rfl
  obtain ⟨cm_x1_1, fm_x1_1⟩ := blkG Dm_x1.out 1 (.string ser) rfl
  obtain ⟨cm_x1_2, fm_x1_2⟩ := blkG Dm_x1.out 2 (.int .i64 lim) rfl
  obtain ⟨cm_x1_3, fm_x1_3⟩ := blkG Dm_x1.out 3 (.string cat) rfl
  obtain ⟨cm_x1_4, fm_x1_4⟩ := blkG Dm_x1.out 4 (.int .i64 ry) rfl
  obtain ⟨cm_x1_5, fm_x1_5⟩ := blkG Dm_x1.out 5 (.int .i64 rm) rfl
  obtain ⟨cm_x1_6, fm_x1_6⟩ := blkG Dm_x1.out 6 (.int .i64 rd) rfl
  obtain ⟨cm_x1_7, fm_x1_7⟩ := blkG Dm_x1.out 7 (.int .i64 bp) rfl
  obtain ⟨cm_x1_8, fm_x1_8⟩ := blkG Dm_x1.out 8 (.int .i64 dy) rfl
  obtain ⟨cm_x1_9, fm_x1_9⟩ := blkG Dm_x1.out 9 (.int .i64 dm) rfl
  obtain ⟨cm_x1_10, fm_x1_10⟩ := blkG Dm_x1.out 10 (.int .i64 dd) rfl
  obtain ⟨cm_x1_11, fm_x1_11⟩ := blkG Dm_x1.out 11 (.slice a n cap) rfl
  obtain ⟨cm_x1_12, fm_x1_12⟩ := blkG Dm_x1.out 12 (.string ofs) rfl
  obtain ⟨cm_x1_13, fm_x1_13⟩ := blkG Dm_x1.out 13 (.int .i64 ofn) rfl
  obtain ⟨cm_x1_14, fm_x1_14⟩ := blkG Dm_x1.out 14 (.int .i64 ses) rfl
  have zm_x1 := blk_lt Dm_x1.out
  clear hx1
  go_wp2_with fail
  obtain ⟨x2, hq2⟩ : ∃ z, (((((((((((((((x1.setCell ⟨w.heap.size, 0, none⟩ (.int .i64 kd)).setCell ⟨w.heap.size, 1, none⟩ (.string ser)).setCell ⟨w.heap.size, 2, none⟩ (.int .i64 lim)).setCell ⟨w.heap.size, 3, none⟩ (.string cat)).setCell ⟨w.heap.size, 4, none⟩ (.int .i64 ry)).setCell ⟨w.heap.size, 5, none⟩ (.int .i64 rm)).setCell ⟨w.heap.size, 6, none⟩ (.int .i64 rd)).setCell ⟨w.heap.size, 7, none⟩ (.int .i64 bp)).setCell ⟨w.heap.size, 8, none⟩ (.int .i64 dy)).setCell ⟨w.heap.size, 9, none⟩ (.int .i64 dm)).setCell ⟨w.heap.size, 10, none⟩ (.int .i64 dd)).setCell ⟨w.heap.size, 11, none⟩ (.slice a m cap)).setCell ⟨w.heap.size, 12, none⟩ (.string ofs)).setCell ⟨w.heap.size, 13, none⟩ (.int .i64 ofn)).setCell ⟨w.heap.size, 14, none⟩ (.int .i64 ses)) = z := ⟨_, rfl⟩
  rw [hq2]
  have T_x2 : Hid (Ext w x2) := Lib.hid (by rw [← hq2]; exact set15_ext T_x1.out (by exact Nat.le_refl _))
  have Dm_x2 : Hid (x2.heap[w.heap.size]? = some (.cells #[.int .i64 kd, .string ser, .int .i64 lim, .string cat, .int .i64 ry, .int .i64 rm, .int .i64 rd, .int .i64 bp, .int .i64 dy, .int .i64 dm, .int .i64 dd, .slice a m cap, .string ofs, .int .i64 ofn, .int .i64 ses] 37 (0, 0))) := Lib.hid (by rw [← hq2]; exact set15_blk Dm_x1.out)
  clear hq2
  go_at_call 19
  refine (HRO.out _ T_x2.out).mono ?_
  rintro e x3 ⟨gg, rfl, ho1, hx3⟩
  have T_x3 : Hid (Ext x2 x3) := Lib.hid (Ext.trans (Ext.refl _) hx3)
  have Dm_x3 := Lib.hid (ext_blk hx3 Dm_x2.out)
  obtain ⟨cm_x3_0, fm_x3_0⟩ := blkG Dm_x3.out 0 (.int .i64 kd) rfl
  obtain ⟨cm_x3_1, fm_x3_1⟩ := blkG Dm_x3.out 1 (.string ser) rfl
  obtain ⟨cm_x3_2, fm_x3_2⟩ := blkG Dm_x3.out 2 (.int .i64 lim) rfl
  obtain ⟨cm_x3_3, fm_x3_3⟩ := blkG Dm_x3.out 3 (.string cat) rfl
  obtain ⟨cm_x3_4, fm_x3_4⟩ := blkG Dm_x3.out 4 (.int .i64 ry) rfl
  obtain ⟨cm_x3_5, fm_x3_5⟩ := blkG Dm_x3.out 5 (.int .i64 rm) rfl
  obtain ⟨cm_x3_6, fm_x3_6⟩ := blkG Dm_x3.out 6 (.int .i64 rd) rfl
  obtain ⟨cm_x3_7, fm_x3_7⟩ := blkG Dm_x3.out 7 (.int .i64 bp) rfl
  obtain ⟨cm_x3_8, fm_x3_8⟩ := blkG Dm_x3.out 8 (.int .i64 dy) rfl
  obtain ⟨cm_x3_9, fm_x3_9⟩ := blkG Dm_x3.out 9 (.int .i64 dm) rfl
  obtain ⟨cm_x3_10, fm_x3_10⟩ := blkG Dm_x3.out 10 (.int .i64 dd) rfl
  obtain ⟨cm_x3_11, fm_x3_11⟩ := blkG Dm_x3.out 11 (.slice a m cap) rfl
  obtain ⟨cm_x3_12, fm_x3_12⟩ := blkG Dm_x3.out 12 (.string ofs) rfl
  obtain ⟨cm_x3_13, fm_x3_13⟩ := blkG Dm_x3.out 13 (.int .i64 ofn) rfl
  obtain ⟨cm_x3_14, fm_x3_14⟩ := blkG Dm_x3.out 14 (.int .i64 ses) rfl
  have zm_x3 := blk_lt Dm_x3.out
  have HO1 := Lib.hid ho1
  clear ho1
  clear hx3
  as_aux_lemma =>
    go_wp2_with fail
    go_at_call 10
    refine (HO.out gg _ (own_cutLn (HO1.out.ext (Ext.alloc (Ext.refl _) _)) HLN.out)).mono ?_
    rintro e x4 ⟨t, y, rfl, hh, hx4⟩
    have T_x4 : Hid (Ext x3 x4) := Lib.hid (Ext.trans (Ext.alloc (Ext.refl _) _) hx4)
    have Dm_x4 := Lib.hid (ext_blk hx4 (alloc_blk Dm_x3.out))
    have Do_x4 := Lib.hid (ext_blk hx4 (new_blk x3 (.cells #[.int .i64 kd, .string ser, .int .i64 lim, .string cat, .int .i64 ry, .int .i64 rm, .int .i64 rd, .int .i64 bp, .int .i64 dy, .int .i64 dm, .int .i64 dd, .slice (some ⟨gg, 0, none⟩) m (m + 80), .string ofs, .int .i64 ofn, .int .i64 ses] 37)))
    obtain ⟨cm_x4_0, fm_x4_0⟩ := blkG Dm_x4.out 0 (.int .i64 kd) rfl
    obtain ⟨cm_x4_1, fm_x4_1⟩ := blkG Dm_x4.out 1 (.string ser) rfl
    obtain ⟨cm_x4_2, fm_x4_2⟩ := blkG Dm_x4.out 2 (.int .i64 lim) rfl
    obtain ⟨cm_x4_3, fm_x4_3⟩ := blkG Dm_x4.out 3 (.string cat) rfl
    obtain ⟨cm_x4_4, fm_x4_4⟩ := blkG Dm_x4.out 4 (.int .i64 ry) rfl
    obtain ⟨cm_x4_5, fm_x4_5⟩ := blkG Dm_x4.out 5 (.int .i64 rm) rfl
    obtain ⟨cm_x4_6, fm_x4_6⟩ := blkG Dm_x4.out 6 (.int .i64 rd) rfl
    obtain ⟨cm_x4_7, fm_x4_7⟩ := blkG Dm_x4.out 7 (.int .i64 bp) rfl
    obtain ⟨cm_x4_8, fm_x4_8⟩ := blkG Dm_x4.out 8 (.int .i64 dy) rfl
    obtain ⟨cm_x4_9, fm_x4_9⟩ := blkG Dm_x4.out 9 (.int .i64 dm) rfl
    obtain ⟨cm_x4_10, fm_x4_10⟩ := blkG Dm_x4.out 10 (.int .i64 dd) rfl
    obtain ⟨cm_x4_11, fm_x4_11⟩ := blkG Dm_x4.out 11 (.slice a m cap) rfl
    obtain ⟨cm_x4_12, fm_x4_12⟩ := blkG Dm_x4.out 12 (.string ofs) rfl
    obtain ⟨cm_x4_13, fm_x4_13⟩ := blkG Dm_x4.out 13 (.int .i64 ofn) rfl
    obtain ⟨cm_x4_14, fm_x4_14⟩ := blkG Dm_x4.out 14 (.int .i64 ses) rfl
    have zm_x4 := blk_lt Dm_x4.out
    have HH := Lib.hid hh
    have st4 := store_new (x := x4) (t := t) (y := y) (T := 25)
    clear hh
    clear hx4
    go_wp2_with fail
    go_at_call 20
    refine (HB.out _ (Ext.alloc ((T_x2.out.trans T_x3.out).trans T_x4.out) _)).mono ?_
    rintro e x5 ⟨a4, c4, rfl, ho4, hx5⟩
    have T_x5 : Hid (Ext x4 x5) := Lib.hid (Ext.trans (Ext.alloc (Ext.refl _) _) hx5)
    have Dm_x5 := Lib.hid (ext_blk hx5 (alloc_blk Dm_x4.out))
    have Dv_x5 := Lib.hid (ext_blk hx5 (new_blk x4 (.cells #[.iface t y] 25)))
    obtain ⟨cv_x5_0, fv_x5_0⟩ := blkG Dv_x5.out 0 (.iface t y) rfl
    have zv_x5 := blk_lt Dv_x5.out
    have HO4 := Lib.hid ho4
    clear ho4 st4
    clear hx5
    go_wp2_with fail
    go_at_call 13
    refine (HFL.out t y _ (HH.out.ext (Ext.alloc T_x5.out _))).mono ?_
    rintro e x6 ⟨a5, c5, rfl, ho5, hx6⟩
    have T_x6 : Hid (Ext x5 x6) := Lib.hid (Ext.trans (Ext.alloc (Ext.refl _) _) hx6)
    have Dm_x6 := Lib.hid (ext_blk hx6 (alloc_blk Dm_x5.out))
    have Dv_x6 := Lib.hid (ext_blk hx6 (alloc_blk Dv_x5.out))
    have Db_x6 := Lib.hid (ext_blk hx6 (new_blk x5 (.cells #[.int .i64 dkd, .string dser, .int .i64 dlim, .string dcat, .int .i64 dry, .int .i64 drm, .int .i64 drd, .int .i64 dbp, .int .i64 ddy, .int .i64 ddm, .int .i64 ddd, .slice a4 q c4, .string dofs, .int .i64 dofn, .int .i64 dses] 37)))
    have HO5 : Hid (OwnS Ln.cells 4 56 x6 (x5.heap.size + 1) (.slice a5 q c5) cl) := Lib.hid (by simpa using ho5)
    clear ho5
    clear hx6
    as_aux_lemma =>
      go_wp2_with fail
      obtain ⟨X6, hX6⟩ : ∃ z, (x6.alloc (.cells #[.int .i64 dkd, .string dser, .int .i64 dlim, .string dcat, .int .i64 dry, .int .i64 drm, .int .i64 drd, .int .i64 dbp, .int .i64 ddy, .int .i64 ddm, .int .i64 ddd, .slice a5 q c5, .string dofs, .int .i64 dofn, .int .i64 dses] 37)) = z := ⟨_, rfl⟩
      have X6d : Hid (X6.heap[x6.heap.size]? = some (.cells #[.int .i64 dkd, .string dser, .int .i64 dlim, .string dcat, .int .i64 dry, .int .i64 drm, .int .i64 drd, .int .i64 dbp, .int .i64 ddy, .int .i64 ddm, .int .i64 ddd, .slice a5 q c5, .string dofs, .int .i64 dofn, .int .i64 dses] 37 (0, 0))) := Lib.hid (by rw [← hX6]; exact new_blk _ _)
      have X6m := Lib.hid (alloc_blk (o' := (.cells #[.int .i64 dkd, .string dser, .int .i64 dlim, .string dcat, .int .i64 dry, .int .i64 drm, .int .i64 drd, .int .i64 dbp, .int .i64 ddy, .int .i64 ddm, .int .i64 ddd, .slice a5 q c5, .string dofs, .int .i64 dofn, .int .i64 dses] 37)) Dm_x6.out)
      rw [hX6] at X6m
      have X6v := Lib.hid (alloc_blk (o' := (.cells #[.int .i64 dkd, .string dser, .int .i64 dlim, .string dcat, .int .i64 dry, .int .i64 drm, .int .i64 drd, .int .i64 dbp, .int .i64 ddy, .int .i64 ddm, .int .i64 ddd, .slice a5 q c5, .string dofs, .int .i64 dofn, .int .i64 dses] 37)) Dv_x6.out)
      rw [hX6] at X6v
      have X6b := Lib.hid (alloc_blk (o' := (.cells #[.int .i64 dkd, .string dser, .int .i64 dlim, .string dcat, .int .i64 dry, .int .i64 drm, .int .i64 drd, .int .i64 dbp, .int .i64 ddy, .int .i64 ddm, .int .i64 ddd, .slice a5 q c5, .string dofs, .int .i64 dofn, .int .i64 dses] 37)) Db_x6.out)
      rw [hX6] at X6b
      have T_X6 : Hid (Ext x6 X6) := Lib.hid (by rw [← hX6]; exact (Ext.refl _).alloc _)
      have kd0 := fun x : SubW (Ext X6) => (blkG (ext_blk x.ok X6d.out) 0 (.int .i64 dkd) rfl).1
      have kd1 := fun x : SubW (Ext X6) => (blkG (ext_blk x.ok X6d.out) 1 (.string dser) rfl).1
      have kd2 := fun x : SubW (Ext X6) => (blkG (ext_blk x.ok X6d.out) 2 (.int .i64 dlim) rfl).1
      have kd3 := fun x : SubW (Ext X6) => (blkG (ext_blk x.ok X6d.out) 3 (.string dcat) rfl).1
      have kd4 := fun x : SubW (Ext X6) => (blkG (ext_blk x.ok X6d.out) 4 (.int .i64 dry) rfl).1
      have kd5 := fun x : SubW (Ext X6) => (blkG (ext_blk x.ok X6d.out) 5 (.int .i64 drm) rfl).1
      have kd6 := fun x : SubW (Ext X6) => (blkG (ext_blk x.ok X6d.out) 6 (.int .i64 drd) rfl).1
      have kd7 := fun x : SubW (Ext X6) => (blkG (ext_blk x.ok X6d.out) 7 (.int .i64 dbp) rfl).1
      have kd8 := fun x : SubW (Ext X6) => (blkG (ext_blk x.ok X6d.out) 8 (.int .i64 ddy) rfl).1
      have kd9 := fun x : SubW (Ext X6) => (blkG (ext_blk x.ok X6d.out) 9 (.int .i64 ddm) rfl).1
      have kd10 := fun x : SubW (Ext X6) => (blkG (ext_blk x.ok X6d.out) 10 (.int .i64 ddd) rfl).1
      have kd11 := fun x : SubW (Ext X6) => (blkG (ext_blk x.ok X6d.out) 11 (.slice a5 q c5) rfl).1
      have kd12 := fun x : SubW (Ext X6) => (blkG (ext_blk x.ok X6d.out) 12 (.string dofs) rfl).1
      have kd13 := fun x : SubW (Ext X6) => (blkG (ext_blk x.ok X6d.out) 13 (.int .i64 dofn) rfl).1
      have kd14 := fun x : SubW (Ext X6) => (blkG (ext_blk x.ok X6d.out) 14 (.int .i64 dses) rfl).1
      have kb0 := fun x : SubW (Ext X6) => (blkG (ext_blk x.ok X6b.out) 0 (.int .i64 dkd) rfl).1
      have kb1 := fun x : SubW (Ext X6) => (blkG (ext_blk x.ok X6b.out) 1 (.string dser) rfl).1
      have kb2 := fun x : SubW (Ext X6) => (blkG (ext_blk x.ok X6b.out) 2 (.int .i64 dlim) rfl).1
      have kb3 := fun x : SubW (Ext X6) => (blkG (ext_blk x.ok X6b.out) 3 (.string dcat) rfl).1
      have kb4 := fun x : SubW (Ext X6) => (blkG (ext_blk x.ok X6b.out) 4 (.int .i64 dry) rfl).1
      have kb5 := fun x : SubW (Ext X6) => (blkG (ext_blk x.ok X6b.out) 5 (.int .i64 drm) rfl).1
      have kb6 := fun x : SubW (Ext X6) => (blkG (ext_blk x.ok X6b.out) 6 (.int .i64 drd) rfl).1
      have kb7 := fun x : SubW (Ext X6) => (blkG (ext_blk x.ok X6b.out) 7 (.int .i64 dbp) rfl).1
      have kb8 := fun x : SubW (Ext X6) => (blkG (ext_blk x.ok X6b.out) 8 (.int .i64 ddy) rfl).1
      have kb9 := fun x : SubW (Ext X6) => (blkG (ext_blk x.ok X6b.out) 9 (.int .i64 ddm) rfl).1
      have kb10 := fun x : SubW (Ext X6) => (blkG (ext_blk x.ok X6b.out) 10 (.int .i64 ddd) rfl).1
      have kb11 := fun x : SubW (Ext X6) => (blkG (ext_blk x.ok X6b.out) 11 (.slice a4 q c4) rfl).1
      have kb12 := fun x : SubW (Ext X6) => (blkG (ext_blk x.ok X6b.out) 12 (.string dofs) rfl).1
      have kb13 := fun x : SubW (Ext X6) => (blkG (ext_blk x.ok X6b.out) 13 (.int .i64 dofn) rfl).1
      have kb14 := fun x : SubW (Ext X6) => (blkG (ext_blk x.ok X6b.out) 14 (.int .i64 dses) rfl).1
      have kv0 := fun x : SubW (Ext X6) => (blkG (ext_blk x.ok X6v.out) 0 (.iface t y) rfl).1
      have km0 := fun x : SubW (Ext X6) => (blkG (ext_blk x.ok X6m.out) 0 (.int .i64 kd) rfl).1
      rw [hX6]
      have inst : Nonempty (SubW (Ext X6)) := ⟨⟨_, Ext.refl _⟩⟩
      refine wp_region_quietS (Ext X6) (by kernel_rfl) (by kernel_rfl) (by repeat (first | exact Ext.refl _ | assumption | refine Ext.trans ?_ (by assumption) | refine Ext.alloc ?_ _ | refine Ext.drew ?_ | refine Ext.drewN ?_ _)) ?_
      repeat (go_big_quiet_step (first
        | (go_at_call 22; rename_i xq; exact quietS_ext (HCM.out a5 a4 c5 c4 _ ((HO5.out.ext (T_X6.out.trans xq.ok)).rd) (HO4.out.ext (T_x6.out.trans (T_X6.out.trans xq.ok)))))
        | (go_at_call 21; exact quietS_ext (HKD.out t y _ HH.out _))))
      refine wpQuiet_nil ?_
      rintro _ ⟨y7, rfl⟩
      have hx7 := y7.ok
      generalize y7.w = x7 at hx7 ⊢
      clear kd0 kd1 kd2 kd3 kd4 kd5 kd6 kd7 kd8 kd9 kd10 kd11 kd12 kd13 kd14 kb0 kb1 kb2 kb3 kb4 kb5 kb6 kb7 kb8 kb9 kb10 kb11 kb12 kb13 kb14 kv0 km0 inst
      have T7 : Hid (Ext x6 x7) := Lib.hid (T_X6.out.trans hx7)
      have H7d := Lib.hid (ext_blk hx7 X6d.out)
      have H7m := Lib.hid (ext_blk hx7 X6m.out)
      have H7v := Lib.hid (ext_blk hx7 X6v.out)
      have H7b := Lib.hid (ext_blk hx7 X6b.out)
      have R7 := Lib.hid (HO5.out.ext T7.out)
      have hb6 : x5.heap.size + 1 ≤ x6.heap.size := by have := blk_lt Db_x6.out; omega
      have hgx := fun ad m2 c2 (he : Value.slice a5 q c5 = .slice (some ad) m2 c2) => Nat.ne_of_lt (own_blkE HO5.out ad m2 c2 he).1
      have HGX := Lib.hid hgx
      clear hx7 hX6 X6d X6m X6v X6b hgx
      as_aux_lemma =>
        go_wp2_with fail
        go_loopw [11] (fun iv wr => ∃ k : Nat, k ≤ q ∧ iv = .int .i64 ((k : Nat) : Int) ∧ OwnS Ln.cells 4 56 wr (x5.heap.size + 1) (.slice a5 q c5) (List.replicate k Ln.z ++ cl.drop k) ∧ Below (x5.heap.size + 1) x7 wr ∧ wr.heap[x6.heap.size]? = some (.cells #[.int .i64 dkd, .string dser, .int .i64 dlim, .string dcat, .int .i64 dry, .int .i64 drm, .int .i64 drd, .int .i64 dbp, .int .i64 ddy, .int .i64 ddm, .int .i64 ddd, .slice a5 q c5, .string dofs, .int .i64 dofn, .int .i64 dses] 37 (0, 0))) (fun iv _ => q - (intOf iv).toNat)
        case atStart => exact ⟨0, by omega, rfl, by simpa using R7.out, Below.refl _ _, H7d.out⟩
        case round =>
          as_aux_lemma =>
            obtain ⟨k, hkq, rfl, ho, hbl, hdb⟩ := hrel
            obtain ⟨q11, _⟩ := blkG hdb 11 (.slice a5 q c5) rfl
            have hzz := blk_lt hdb
            by_cases hlt : k < q
            · obtain ⟨g, rfl⟩ := own_someS ho (by omega)
              have hgne := HGX.out _ _ _ rfl
              have hll : (List.replicate k Ln.z ++ cl.drop k).length = q := by have := HQ.out; simp; omega
              obtain ⟨u, hu⟩ : ∃ u, (List.replicate k Ln.z ++ cl.drop k)[k]'(by omega) = u := ⟨_, rfl⟩
              obtain ⟨hat, hbg⟩ := OwnS.at_ Ln.len ho hll.symm k (by omega)
              rw [hu] at hat
              obtain ⟨g0, f0⟩ := hat 0 (by decide)
              replace g0 : wr.cell? ⟨g, k * 4, none⟩ = some (.string u.text) := g0
              obtain ⟨g1, f1⟩ := hat 1 (by decide)
              replace g1 : wr.cell? ⟨g, k * 4 + 1, none⟩ = some (.string u.cat) := g1
              obtain ⟨g2, f2⟩ := hat 2 (by decide)
              replace g2 : wr.cell? ⟨g, k * 4 + 2, none⟩ = some (.int .i64 u.count) := g2
              obtain ⟨g3, f3⟩ := hat 3 (by decide)
              replace g3 : wr.cell? ⟨g, k * 4 + 3, none⟩ = some (.int .i64 u.price) := g3
              replace f0 : wr.frozen? ⟨g, k * 4, none⟩ = false := f0
              have hset := OwnS.setLn ho hll.symm k (by omega) Ln.z
              have hset2 : (List.replicate k Ln.z ++ cl.drop k).set k Ln.z = List.replicate (k + 1) Ln.z ++ cl.drop (k + 1) := by
                have hc : k < cl.length := by have := HQ.out; omega
                rw [List.set_append_right _ _ (by simp), List.length_replicate, Nat.sub_self, List.drop_eq_getElem_cons hc, List.set_cons_zero, List.replicate_succ']
                simp
              rw [hset2] at hset
              have hB1 : x5.heap.size + 1 ≤ g := (hbg (by decide)).1
              have hbl2 := Below.setCell (Below.setCell (Below.setCell (Below.setCell hbl (p := ⟨g, k * 4, none⟩) hB1 (.string ⟨#[]⟩)) (p := ⟨g, k * 4 + 1, none⟩) hB1 (.string ⟨#[]⟩)) (p := ⟨g, k * 4 + 2, none⟩) hB1 (.int .i64 0)) (p := ⟨g, k * 4 + 3, none⟩) hB1 (.int .i64 0)
              have hdb2 := set_blk2 (i := k * 4 + 3) (u := .int .i64 0) (set_blk2 (i := k * 4 + 2) (u := .int .i64 0) (set_blk2 (i := k * 4 + 1) (u := .string ⟨#[]⟩) (set_blk2 (i := k * 4) (u := .string ⟨#[]⟩) hdb (Ne.symm hgne)) (Ne.symm hgne)) (Ne.symm hgne)) (Ne.symm hgne)
              clear hset2 hat ho hu hbl hdb
              have HS := Lib.hid hset
              have HBL := Lib.hid hbl2
              have HDB := Lib.hid hdb2
              clear hset hbl2 hdb2
              go_wp2
              refine ⟨⟨k + 1, by omega, by simp, HS.out, HBL.out, HDB.out⟩, by simp [intOf]; omega⟩
            · obtain rfl : k = q := by omega
              have T_wr : Hid (Ext x5 wr) := Lib.hid (Below.trans (T_x6.out.trans T7.out) (Below.mono hbl (Nat.le_succ _)))
              have Dm_wr := Lib.hid (ext_blk T_wr.out Dm_x5.out)
              have Dv_wr := Lib.hid (ext_blk T_wr.out Dv_x5.out)
              have Db_wr := Lib.hid (below_blk2 hbl (Nat.lt_succ_self _) H7b.out)
              obtain ⟨cv_wr_0, fv_wr_0⟩ := blkG Dv_wr.out 0 (.iface t y) rfl
              have zv_wr := blk_lt Dv_wr.out
              clear ho hbl hdb R7 H7d H7m H7v H7b
              as_aux_lemma =>
                go_wp2_with fail
                go_at_call 13
                refine (HFL.out t y _ (HH.out.ext (T_x5.out.trans T_wr.out))).mono ?_
                rintro e x8 ⟨a8, c8, rfl, ho8, hx8⟩
                have T_x8 : Hid (Ext wr x8) := Lib.hid (Ext.trans (Ext.refl _) hx8)
                have Dm_x8 := Lib.hid (ext_blk hx8 Dm_wr.out)
                have Dv_x8 := Lib.hid (ext_blk hx8 Dv_wr.out)
                have Db_x8 := Lib.hid (ext_blk hx8 Db_wr.out)
                obtain ⟨cb_x8_0, fb_x8_0⟩ := blkG Db_x8.out 0 (.int .i64 dkd) rfl
                obtain ⟨cb_x8_1, fb_x8_1⟩ := blkG Db_x8.out 1 (.string dser) rfl
                obtain ⟨cb_x8_2, fb_x8_2⟩ := blkG Db_x8.out 2 (.int .i64 dlim) rfl
                obtain ⟨cb_x8_3, fb_x8_3⟩ := blkG Db_x8.out 3 (.string dcat) rfl
                obtain ⟨cb_x8_4, fb_x8_4⟩ := blkG Db_x8.out 4 (.int .i64 dry) rfl
                obtain ⟨cb_x8_5, fb_x8_5⟩ := blkG Db_x8.out 5 (.int .i64 drm) rfl
                obtain ⟨cb_x8_6, fb_x8_6⟩ := blkG Db_x8.out 6 (.int .i64 drd) rfl
                obtain ⟨cb_x8_7, fb_x8_7⟩ := blkG Db_x8.out 7 (.int .i64 dbp) rfl
                obtain ⟨cb_x8_8, fb_x8_8⟩ := blkG Db_x8.out 8 (.int .i64 ddy) rfl
                obtain ⟨cb_x8_9, fb_x8_9⟩ := blkG Db_x8.out 9 (.int .i64 ddm) rfl
                obtain ⟨cb_x8_10, fb_x8_10⟩ := blkG Db_x8.out 10 (.int .i64 ddd) rfl
                obtain ⟨cb_x8_11, fb_x8_11⟩ := blkG Db_x8.out 11 (.slice a4 k c4) rfl
                obtain ⟨cb_x8_12, fb_x8_12⟩ := blkG Db_x8.out 12 (.string dofs) rfl
                obtain ⟨cb_x8_13, fb_x8_13⟩ := blkG Db_x8.out 13 (.int .i64 dofn) rfl
                obtain ⟨cb_x8_14, fb_x8_14⟩ := blkG Db_x8.out 14 (.int .i64 dses) rfl
                have zb_x8 := blk_lt Db_x8.out
                have HO8 := Lib.hid ho8.rd
                clear ho8
                clear hx8
                go_wp2_with fail
                go_at_call 22
                refine (HCM.out _ _ _ _ _ (HO8.out.ext (Ext.alloc (Ext.refl _) _)) (HO4.out.ext (Ext.alloc (T_wr.out.trans T_x8.out) _))).mono ?_
                rintro e x9 ⟨rfl, hx9⟩
                have T_x9 : Hid (Ext x8 x9) := Lib.hid (Ext.trans (Ext.alloc (Ext.refl _) _) hx9)
                have Dm_x9 := Lib.hid (ext_blk hx9 (alloc_blk Dm_x8.out))
                have Dv_x9 := Lib.hid (ext_blk hx9 (alloc_blk Dv_x8.out))
                have Db_x9 := Lib.hid (ext_blk hx9 (alloc_blk Db_x8.out))
                have Dg_x9 := Lib.hid (ext_blk hx9 (new_blk x8 (.cells #[.int .i64 dkd, .string dser, .int .i64 dlim, .string dcat, .int .i64 dry, .int .i64 drm, .int .i64 drd, .int .i64 dbp, .int .i64 ddy, .int .i64 ddm, .int .i64 ddd, .slice a8 k c8, .string dofs, .int .i64 dofn, .int .i64 dses] 37)))
                obtain ⟨cm_x9_11, fm_x9_11⟩ := blkG Dm_x9.out 11 (.slice a m cap) rfl
                have zm_x9 := blk_lt Dm_x9.out
                clear hx9
                go_wp2_with fail
                go_at_call 23
                refine (HIN.out gg _ _ (HO1.out.ext ((((T_x4.out.trans T_x5.out).trans T_wr.out).trans T_x8.out).trans T_x9.out)) ((((((T_x2.out.trans T_x3.out).trans T_x4.out).trans T_x5.out).trans T_wr.out).trans T_x8.out).trans T_x9.out)).mono ?_
                rintro e x10 ⟨rfl, hx10⟩
                have T_x10 : Hid (Ext x9 x10) := Lib.hid (Ext.trans (Ext.refl _) hx10)
                have Dm_x10 := Lib.hid (ext_blk hx10 Dm_x9.out)
                have Dv_x10 := Lib.hid (ext_blk hx10 Dv_x9.out)
                have Db_x10 := Lib.hid (ext_blk hx10 Db_x9.out)
                have Dg_x10 := Lib.hid (ext_blk hx10 Dg_x9.out)
                clear hx10
                go_wp2_with fail
                go_at_call 3
                refine (cruns_any _).mono ?_
                rintro e x11 ⟨rfl, hx11⟩
                have T_x11 : Hid (Ext x10 x11) := Lib.hid (Ext.trans (Ext.refl _) hx11)
                have Dm_x11 := Lib.hid (ext_blk hx11 Dm_x10.out)
                have Dv_x11 := Lib.hid (ext_blk hx11 Dv_x10.out)
                have Db_x11 := Lib.hid (ext_blk hx11 Db_x10.out)
                have Dg_x11 := Lib.hid (ext_blk hx11 Dg_x10.out)
                clear hx11
                go_wp2_with fail
                go_ret
                exact ⟨rfl, ((((((((T_x2.out.trans T_x3.out).trans T_x4.out).trans T_x5.out).trans T_wr.out).trans T_x8.out).trans T_x9.out).trans T_x10.out).trans T_x11.out)⟩
theorem cturns_any (c : Cm) (a : Option Addr) (n cap : Nat) (ls : List Ln) (hn : ls.length = n) (hc : n ≤ cap) (hz : LnIn ls) (w : World) (hl : SlS Ln.cells 4 w (.slice a n cap) ls) : Calls Try.prog 4 #[c.agg (.slice a n cap)] w fun e w' => e = .returned (.bool true) ∧ Ext w w' := by
  obtain ⟨m, ls', h1, h2, h3, h4, h5, h6⟩ := few_ex c a n cap ls hn hc hz w hl
  by_cases hk : c.Ok
  · exact cturns_ok c a n m cap ls' h6 h1 h2 w h4 hk
  · exact cturns_no c a n m cap ls' h6 h1 h2 w h4 hk
end Go.Proofs.Yteenkbfmlnpmlaa
