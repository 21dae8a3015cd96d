/- The law CommandBack: the walk, the long way. (Written by genCmdBack.py.) -/
import Derived.Test.YteenkbfmlnpmlaaCmdBack1
namespace Go.Proofs.Yteenkbfmlnpmlaa
open Go.RowKit

set_option maxHeartbeats 4000000 in
set_option maxRecDepth 100000 in
theorem cback_oks (c : Cm) (a : Option Addr) (n m cap : Nat) (ls : List Ln) (hf : ∀ z, Calls Try.prog 18 #[c.agg (.slice a n cap)] z fun e w' => e = .returned (c.agg (.slice a m cap)) ∧ Ext z w') (hn : ls.length = m) (hm : m ≤ 30) (hin : c.In) (hz : LnIn ls) (ab : Option Addr) (cb k : Nat) (bs : List UInt8) (hk : bs.length = k) (cut : Int) (w : World) (hl : SlS Ln.cells 4 w (.slice a m cap) ls) (hb : Rd8 w (.slice ab k cb) bs) (hbl : k ≤ 140737488351232) (hE : cgE bs = 0) (hk0 : c.Ok) (hQ : putE c ls = 0) : Calls Try.prog 7 #[c.agg (.slice a n cap), .slice ab k cb, .int .i64 cut] w fun e w' => e = .returned (.bool true) ∧ Ext w w' := by
  obtain ⟨k1, k2, k3, k4, k5, k6, k7, _⟩ := cgE_ok hE
  obtain ⟨r1, r2⟩ := cm_read hE
  have HG2 := Lib.hid fun (z : World) (hz : Ext w z) => (cget_any (hb.ext hz) (by omega)).mono (R' := fun e w' => ∃ t x, e = .returned (.tuple #[.agg #[.iface t x], .int .i64 0]) ∧ Held w' (.iface t x) (cgR bs).1 (cgR bs).2.1 (cgR bs).2.1.length ∧ Ext z w') (by
    rintro e w' (⟨h, _⟩ | ⟨_, _, t, x, h1, h2, h3⟩)
    · exact absurd hE h
    · exact ⟨t, x, h1, h2.rd, h3⟩)
  have HP2 := Lib.hid fun (t : TypeId) (x : Value) (z : World) (hh : Held z (.iface t x) (cgR bs).1 (cgR bs).2.1 (cgR bs).2.1.length) => ret_rd (E := 0) (L := bs) (by have := put_ok k1 k2 k3 hh; rw [r1, r2] at this; exact this)
  have HB := Lib.hid hb
  clear k1 k2 k3 k4 k5 k6 k7 r1 r2 hE
  have HO := Lib.hid fun (z : World) (hl : SlS Ln.cells 4 z (.slice a m cap) ls) => of_ok c hk0 a m cap ls hn (by omega) z hl
  have HP := Lib.hid fun (t : TypeId) (x : Value) (z : World) (hh : Held z (.iface t x) c (c.ls ls) (c.n m)) => (by have := put_len hin (ls_in c hz) hh (by rw [(putE_ls c ls).1]; exact hQ); rw [(putE_ls c ls).2] at this; exact this : Calls Try.prog 11 #[.agg #[.iface t x]] z fun e w' => ∃ a c', e = .returned (.tuple #[.slice a (putB c ls).length c', .int .i64 0]) ∧ (putB c ls).length ≤ c' ∧ Hid (Rd8 w' (.slice a (putB c ls).length c') (putB c ls)) ∧ Ext z w')
  have bk := cm_back0 hin hz hQ
  have hlen : 0 < (putB c ls).length ∧ (putB c ls).length ≤ 1024 := ⟨putB_pos hQ hin hz, by obtain ⟨_, L, _, h2, h3⟩ := putE_0 hQ; rw [h2]; exact h3⟩
  have hcut := cm_cut hin hz hQ
  have HG := Lib.hid fun (v : Value) (z : World) (hr : Rd8 z v (putB c ls)) => (cget_any hr (by omega)).mono (R' := fun e w' => ∃ t x, e = .returned (.tuple #[.agg #[.iface t x], .int .i64 0]) ∧ Held w' (.iface t x) c.bare (c.ls ls) (c.ls ls).length ∧ Ext z w') (by
    rintro e w' (⟨h, _⟩ | ⟨_, _, t, x, h1, h2, h3⟩)
    · exact absurd bk.1 h
    · rw [bk.2.1, bk.2.2] at h2
      exact ⟨t, x, h1, h2.rd, h3⟩)
  have HC := Lib.hid fun (a1 : Option Addr) (c1 j : Nat) (hj : j < (putB c ls).length) (z : World) (hr : Rd8 z (.slice a1 (putB c ls).length c1) (putB c ls)) => (cget_any (Rd8.cut hr j (by omega) c1) (by rw [List.length_take]; omega)).mono (R' := fun e w' => ∃ E, e = .returned (.tuple #[.agg #[.nilIface], .int .i64 E]) ∧ E ≠ 0 ∧ Ext z w') (by
    rintro e w' (⟨h, h1, h2⟩ | ⟨h, _⟩)
    · exact ⟨_, h1, h, h2⟩
    · exact absurd h (hcut j hj))
  have HF1 := Lib.hid fun (t : TypeId) (x : Value) (z : World) (hh : Held z (.iface t x) c.bare (c.ls ls) (c.ls ls).length) => (by have := flat_ok (bare_ok hk0) hh; rw [bare_bare c hk0] at this; exact this : Calls Try.prog 13 #[.agg #[.iface t x]] z fun e w' => ∃ a' c', e = .returned (.tuple #[c.bare.agg (.slice a' (c.ls ls).length c'), .bool true]) ∧ OwnS Ln.cells 4 56 w' z.heap.size (.slice a' (c.ls ls).length c') (c.ls ls) ∧ Ext z w')
  have hcn := Cm.ls_len c hn
  rw [← hcn] at HO HP
  have HF2 := Lib.hid fun (t : TypeId) (x : Value) (z : World) (hh : Held z (.iface t x) c (c.ls ls) (c.ls ls).length) => flat_ok hk0 hh
  have hcm := fun (a a' : Option Addr) (cap cap' : Nat) (z : World) (h1 : SlS Ln.cells 4 z (.slice a (c.ls ls).length cap) (c.ls ls)) (h2 : SlS Ln.cells 4 z (.slice a' (c.ls ls).length cap') (c.ls ls)) => cmds_true c.bare a a' (c.ls ls).length cap cap' (c.ls ls) rfl (by rw [hcn]; unfold Cm.n; split <;> omega) z h1 h2
  have HCM := Lib.hid hcm
  generalize putB c ls = PB at *
  obtain ⟨p, hp⟩ : ∃ p, PB.length = p := ⟨_, rfl⟩
  rw [hp] at HP HC hlen
  obtain ⟨hp0, hp1⟩ := hlen
  have hp2 : ((p : Int) == 0) = false := by simp; omega
  generalize c.ls ls = cl at *
  obtain ⟨q, hq⟩ : ∃ q, cl.length = q := ⟨_, rfl⟩
  rw [hq] at HG HO HP HF1 HF2 HCM
  generalize c.bare = d at *
  have HF := Lib.hid hf
  have HL := Lib.hid hl
  clear hf hn hm hin hz hl hk0 hb hQ bk hcut hcm hcn hp hq
  obtain ⟨kd, ser, lim, cat, ry, rm, rd, bp, dy, dm, dd, ofs, ofn, ses⟩ := c
  obtain ⟨dkd, dser, dlim, dcat, dry, drm, drd, dbp, ddy, ddm, ddd, dofs, dofn, dses⟩ := d
  simp only [Cm.agg] at HF HO HF1 HF2 HCM ⊢
  go_enter Try.func7, Try.ntmps7
  go_wp2_with fail
  go_at_call 18
  refine (HF.out _).mono ?_
  rintro e x1 ⟨rfl, hx1⟩
  have T_x1 : Hid (Ext w x1) := Lib.hid (Ext.trans (Ext.alloc (Ext.refl _) _) hx1)
  have Dm_x1 := Lib.hid (ext_blk hx1 (new_blk w (.cells #[.int .i64 kd, .string ser, .int .i64 lim, .string cat, .int .i64 ry, .int .i64 rm, .int .i64 rd, .int .i64 bp, .int .i64 dy, .int .i64 dm, .int .i64 dd, .slice a n cap, .string ofs, .int .i64 ofn, .int .i64 ses] 37)))
  obtain ⟨cm_x1_0, fm_x1_0⟩ := blkG Dm_x1.out 0 (.int .i64 kd) rfl
  obtain ⟨cm_x1_1, fm_x1_1⟩ := blkG Dm_x1.out 1 (.string ser) rfl
  obtain ⟨cm_x1_2, fm_x1_2⟩ := blkG Dm_x1.out 2 (.int .i64 lim) rfl
  obtain ⟨cm_x1_3, fm_x1_3⟩ := blkG Dm_x1.out 3 (.string cat) rfl
  obtain ⟨cm_x1_4, fm_x1_4⟩ := blkG Dm_x1.out 4 (.int .i64 ry) rfl
  obtain ⟨cm_x1_5, fm_x1_5⟩ := blkG Dm_x1.out 5 (.int .i64 rm) rfl
  obtain ⟨cm_x1_6, fm_x1_6⟩ := blkG Dm_x1.out 6 (.int .i64 rd) rfl
  obtain ⟨cm_x1_7, fm_x1_7⟩ := blkG Dm_x1.out 7 (.int .i64 bp) rfl
  obtain ⟨cm_x1_8, fm_x1_8⟩ := blkG Dm_x1.out 8 (.int .i64 dy) rfl
  obtain ⟨cm_x1_9, fm_x1_9⟩ := blkG Dm_x1.out 9 (.int .i64 dm) rfl
  obtain ⟨cm_x1_10, fm_x1_10⟩ := blkG Dm_x1.out 10 (.int .i64 dd) rfl
  obtain ⟨cm_x1_11, fm_x1_11⟩ := blkG Dm_x1.out 11 (.slice a n cap) rfl
  obtain ⟨cm_x1_12, fm_x1_12⟩ := blkG Dm_x1.out 12 (.string ofs) rfl
  obtain ⟨cm_x1_13, fm_x1_13⟩ := blkG Dm_x1.out 13 (.int .i64 ofn) rfl
  obtain ⟨cm_x1_14, fm_x1_14⟩ := blkG Dm_x1.out 14 (.int .i64 ses) rfl
  have zm_x1 := blk_lt Dm_x1.out
  clear hx1
  go_wp2_with fail
  obtain ⟨x2, hq2⟩ : ∃ z, (((((((((((((((x1.setCell ⟨w.heap.size, 0, none⟩ (.int .i64 kd)).setCell ⟨w.heap.size, 1, none⟩ (.string ser)).setCell ⟨w.heap.size, 2, none⟩ (.int .i64 lim)).setCell ⟨w.heap.size, 3, none⟩ (.string cat)).setCell ⟨w.heap.size, 4, none⟩ (.int .i64 ry)).setCell ⟨w.heap.size, 5, none⟩ (.int .i64 rm)).setCell ⟨w.heap.size, 6, none⟩ (.int .i64 rd)).setCell ⟨w.heap.size, 7, none⟩ (.int .i64 bp)).setCell ⟨w.heap.size, 8, none⟩ (.int .i64 dy)).setCell ⟨w.heap.size, 9, none⟩ (.int .i64 dm)).setCell ⟨w.heap.size, 10, none⟩ (.int .i64 dd)).setCell ⟨w.heap.size, 11, none⟩ (.slice a m cap)).setCell ⟨w.heap.size, 12, none⟩ (.string ofs)).setCell ⟨w.heap.size, 13, none⟩ (.int .i64 ofn)).setCell ⟨w.heap.size, 14, none⟩ (.int .i64 ses)) = z := ⟨_, rfl⟩
  rw [hq2]
  have T_x2 : Hid (Ext w x2) := Lib.hid (by rw [← hq2]; exact set15_ext T_x1.out (by exact Nat.le_refl _))
  have Dm_x2 : Hid (x2.heap[w.heap.size]? = some (.cells #[.int .i64 kd, .string ser, .int .i64 lim, .string cat, .int .i64 ry, .int .i64 rm, .int .i64 rd, .int .i64 bp, .int .i64 dy, .int .i64 dm, .int .i64 dd, .slice a m cap, .string ofs, .int .i64 ofn, .int .i64 ses] 37 (0, 0))) := Lib.hid (by rw [← hq2]; exact set15_blk Dm_x1.out)
  clear hq2
  go_at_call 10
  refine (HO.out _ (HL.out.ext T_x2.out)).mono ?_
  rintro e x3 ⟨t, y, rfl, hh, hx3⟩
  have T_x3 : Hid (Ext x2 x3) := Lib.hid (Ext.trans (Ext.refl _) hx3)
  have Dm_x3 := Lib.hid (ext_blk hx3 Dm_x2.out)
  have HH := Lib.hid hh
  have st2 := store_new (x := x3) (t := t) (y := y) (T := 25)
  clear hh
  clear hx3
  go_wp2_with fail
  go_at_call 11
  refine (HP.out t y _ (HH.out.ext (Ext.alloc (Ext.refl _) _))).mono ?_
  rintro e x4 ⟨a1, c1, rfl, hpc, HR1, hx4⟩
  have T_x4 : Hid (Ext x3 x4) := Lib.hid (Ext.trans (Ext.alloc (Ext.refl _) _) hx4)
  have Dm_x4 := Lib.hid (ext_blk hx4 (alloc_blk Dm_x3.out))
  have Dv_x4 := Lib.hid (ext_blk hx4 (new_blk x3 (.cells #[.iface t y] 25)))
  clear st2
  clear hx4
  go_wp2_with fail
  go_at_call 12
  refine (HG.out _ _ HR1.out).mono ?_
  rintro e x5 ⟨t2, y2, rfl, hh2, hx5⟩
  have T_x5 : Hid (Ext x4 x5) := Lib.hid (Ext.trans (Ext.refl _) hx5)
  have Dm_x5 := Lib.hid (ext_blk hx5 Dm_x4.out)
  have Dv_x5 := Lib.hid (ext_blk hx5 Dv_x4.out)
  have HH2 := Lib.hid hh2
  have st3 := store_new (x := x5) (t := t2) (y := y2) (T := 25)
  clear hh2
  clear hx5
  go_wp2_with fail
  go_at_call 13
  refine (HF1.out t2 y2 _ (HH2.out.ext (Ext.alloc (Ext.refl _) _))).mono ?_
  rintro e x6 ⟨a5, c5, rfl, ho5, hx6⟩
  have T_x6 : Hid (Ext x5 x6) := Lib.hid (Ext.trans (Ext.alloc (Ext.refl _) _) hx6)
  have Dm_x6 := Lib.hid (ext_blk hx6 (alloc_blk Dm_x5.out))
  have Dv_x6 := Lib.hid (ext_blk hx6 (alloc_blk Dv_x5.out))
  have Du_x6 := Lib.hid (ext_blk hx6 (new_blk x5 (.cells #[.iface t2 y2] 25)))
  obtain ⟨cv_x6_0, fv_x6_0⟩ := blkG Dv_x6.out 0 (.iface t y) rfl
  have zv_x6 := blk_lt Dv_x6.out
  have HO5 := Lib.hid ho5.rd
  clear ho5 st3
  clear hx6
  go_wp2_with fail
  go_at_call 13
  refine (HF2.out t y _ (HH.out.ext (Ext.alloc ((T_x4.out.trans T_x5.out).trans T_x6.out) _))).mono ?_
  rintro e x7 ⟨a6, c6, rfl, ho6, hx7⟩
  have T_x7 : Hid (Ext x6 x7) := Lib.hid (Ext.trans (Ext.alloc (Ext.refl _) _) hx7)
  have Dm_x7 := Lib.hid (ext_blk hx7 (alloc_blk Dm_x6.out))
  have Dv_x7 := Lib.hid (ext_blk hx7 (alloc_blk Dv_x6.out))
  have Du_x7 := Lib.hid (ext_blk hx7 (alloc_blk Du_x6.out))
  have Dx_x7 := Lib.hid (ext_blk hx7 (new_blk x6 (.cells #[.int .i64 dkd, .string dser, .int .i64 dlim, .string dcat, .int .i64 dry, .int .i64 drm, .int .i64 drd, .int .i64 dbp, .int .i64 ddy, .int .i64 ddm, .int .i64 ddd, .slice a5 q c5, .string dofs, .int .i64 dofn, .int .i64 dses] 37)))
  obtain ⟨cx_x7_0, fx_x7_0⟩ := blkG Dx_x7.out 0 (.int .i64 dkd) rfl
  obtain ⟨cx_x7_1, fx_x7_1⟩ := blkG Dx_x7.out 1 (.string dser) rfl
  obtain ⟨cx_x7_2, fx_x7_2⟩ := blkG Dx_x7.out 2 (.int .i64 dlim) rfl
  obtain ⟨cx_x7_3, fx_x7_3⟩ := blkG Dx_x7.out 3 (.string dcat) rfl
  obtain ⟨cx_x7_4, fx_x7_4⟩ := blkG Dx_x7.out 4 (.int .i64 dry) rfl
  obtain ⟨cx_x7_5, fx_x7_5⟩ := blkG Dx_x7.out 5 (.int .i64 drm) rfl
  obtain ⟨cx_x7_6, fx_x7_6⟩ := blkG Dx_x7.out 6 (.int .i64 drd) rfl
  obtain ⟨cx_x7_7, fx_x7_7⟩ := blkG Dx_x7.out 7 (.int .i64 dbp) rfl
  obtain ⟨cx_x7_8, fx_x7_8⟩ := blkG Dx_x7.out 8 (.int .i64 ddy) rfl
  obtain ⟨cx_x7_9, fx_x7_9⟩ := blkG Dx_x7.out 9 (.int .i64 ddm) rfl
  obtain ⟨cx_x7_10, fx_x7_10⟩ := blkG Dx_x7.out 10 (.int .i64 ddd) rfl
  obtain ⟨cx_x7_11, fx_x7_11⟩ := blkG Dx_x7.out 11 (.slice a5 q c5) rfl
  obtain ⟨cx_x7_12, fx_x7_12⟩ := blkG Dx_x7.out 12 (.string dofs) rfl
  obtain ⟨cx_x7_13, fx_x7_13⟩ := blkG Dx_x7.out 13 (.int .i64 dofn) rfl
  obtain ⟨cx_x7_14, fx_x7_14⟩ := blkG Dx_x7.out 14 (.int .i64 dses) rfl
  have zx_x7 := blk_lt Dx_x7.out
  have HO6 := Lib.hid ho6.rd
  clear ho6
  clear hx7
  go_wp2_with fail
  go_at_call 22
  refine (HCM.out _ _ _ _ _ (HO5.out.ext (Ext.alloc T_x7.out _)) (HO6.out.ext (Ext.alloc (Ext.refl _) _))).mono ?_
  rintro e x8 ⟨rfl, hx8⟩
  have T_x8 : Hid (Ext x7 x8) := Lib.hid (Ext.trans (Ext.alloc (Ext.refl _) _) hx8)
  have Dm_x8 := Lib.hid (ext_blk hx8 (alloc_blk Dm_x7.out))
  have Dv_x8 := Lib.hid (ext_blk hx8 (alloc_blk Dv_x7.out))
  have Du_x8 := Lib.hid (ext_blk hx8 (alloc_blk Du_x7.out))
  have Dx_x8 := Lib.hid (ext_blk hx8 (alloc_blk Dx_x7.out))
  have Dy_x8 := Lib.hid (ext_blk hx8 (new_blk x7 (.cells #[.int .i64 dkd, .string dser, .int .i64 dlim, .string dcat, .int .i64 dry, .int .i64 drm, .int .i64 drd, .int .i64 dbp, .int .i64 ddy, .int .i64 ddm, .int .i64 ddd, .slice a6 q c6, .string dofs, .int .i64 dofn, .int .i64 dses] 37)))
  clear hx8
  go_wp2_with fail
  go_at_call 28
  refine (within_k cut p hp0 (by omega) _).mono ?_
  rintro e x9 ⟨j, rfl, hj, hx9⟩
  have T_x9 : Hid (Ext x8 x9) := Lib.hid (Ext.trans (Ext.refl _) hx9)
  have Dm_x9 := Lib.hid (ext_blk hx9 Dm_x8.out)
  have Dv_x9 := Lib.hid (ext_blk hx9 Dv_x8.out)
  have Du_x9 := Lib.hid (ext_blk hx9 Du_x8.out)
  have Dx_x9 := Lib.hid (ext_blk hx9 Dx_x8.out)
  have Dy_x9 := Lib.hid (ext_blk hx9 Dy_x8.out)
  have hj1 : ((j : Nat) : Int) ≤ (c1 : Int) := by omega
  clear hx9
  go_wp2_with fail
  go_at_call 12
  refine (HC.out a1 c1 j hj _ (HR1.out.ext ((((T_x5.out.trans T_x6.out).trans T_x7.out).trans T_x8.out).trans T_x9.out))).mono ?_
  rintro e x10 ⟨E9, rfl, he9, hx10⟩
  have T_x10 : Hid (Ext x9 x10) := Lib.hid (Ext.trans (Ext.refl _) hx10)
  have Dm_x10 := Lib.hid (ext_blk hx10 Dm_x9.out)
  have Dv_x10 := Lib.hid (ext_blk hx10 Dv_x9.out)
  have Du_x10 := Lib.hid (ext_blk hx10 Du_x9.out)
  have Dx_x10 := Lib.hid (ext_blk hx10 Dx_x9.out)
  have Dy_x10 := Lib.hid (ext_blk hx10 Dy_x9.out)
  have hf9 : (E9 == 0) = false := by simp [he9]
  clear hx10
  go_wp2_with fail
  go_at_call 12
  refine (HG2.out _ ((((((((T_x2.out.trans T_x3.out).trans T_x4.out).trans T_x5.out).trans T_x6.out).trans T_x7.out).trans T_x8.out).trans T_x9.out).trans T_x10.out)).mono ?_
  rintro e x11 ⟨t7, y7, rfl, hh7, hx11⟩
  have T_x11 : Hid (Ext x10 x11) := Lib.hid (Ext.trans (Ext.refl _) hx11)
  have Dm_x11 := Lib.hid (ext_blk hx11 Dm_x10.out)
  have Dv_x11 := Lib.hid (ext_blk hx11 Dv_x10.out)
  have HH7 := Lib.hid hh7
  have st7 := store_new (x := x11) (t := t7) (y := y7) (T := 25)
  clear hh7
  clear hx11
  go_wp2_with fail
  go_at_call 11
  refine (HP2.out t7 y7 _ (HH7.out.ext (Ext.alloc (Ext.refl _) _))).mono ?_
  rintro e x12 ⟨a8, k8, c8, rfl, HR8, hx12⟩
  have T_x12 : Hid (Ext x11 x12) := Lib.hid (Ext.trans (Ext.alloc (Ext.refl _) _) hx12)
  have Dm_x12 := Lib.hid (ext_blk hx12 (alloc_blk Dm_x11.out))
  have Dv_x12 := Lib.hid (ext_blk hx12 (alloc_blk Dv_x11.out))
  have DU_x12 := Lib.hid (ext_blk hx12 (new_blk x11 (.cells #[.iface t7 y7] 25)))
  clear hx12
  go_wp2_with fail
  go_at_call 17
  refine (runsSame bs HR8.out (HB.out.ext ((((((((((T_x2.out.trans T_x3.out).trans T_x4.out).trans T_x5.out).trans T_x6.out).trans T_x7.out).trans T_x8.out).trans T_x9.out).trans T_x10.out).trans T_x11.out).trans T_x12.out))).mono ?_
  rintro e x13 ⟨rfl, hx13⟩
  have T_x13 : Hid (Ext x12 x13) := Lib.hid (Ext.trans (Ext.refl _) hx13)
  have Dm_x13 := Lib.hid (ext_blk hx13 Dm_x12.out)
  have Dv_x13 := Lib.hid (ext_blk hx13 Dv_x12.out)
  have DU_x13 := Lib.hid (ext_blk hx13 DU_x12.out)
  clear hx13
  go_wp2_with fail
  go_at_call 3
  refine (cruns_any _).mono ?_
  rintro e x14 ⟨rfl, hx14⟩
  have T_x14 : Hid (Ext x13 x14) := Lib.hid (Ext.trans (Ext.refl _) hx14)
  have Dm_x14 := Lib.hid (ext_blk hx14 Dm_x13.out)
  have Dv_x14 := Lib.hid (ext_blk hx14 Dv_x13.out)
  have DU_x14 := Lib.hid (ext_blk hx14 DU_x13.out)
  clear hx14
  go_wp2_with fail
  go_ret
  exact ⟨rfl, ((((((((((((T_x2.out.trans T_x3.out).trans T_x4.out).trans T_x5.out).trans T_x6.out).trans T_x7.out).trans T_x8.out).trans T_x9.out).trans T_x10.out).trans T_x11.out).trans T_x12.out).trans T_x13.out).trans T_x14.out)⟩
end Go.Proofs.Yteenkbfmlnpmlaa
