/- The law CommandGets: the walk. (Written by genCmdY.py.) -/
import Derived.Test.YteenkbfmlnpmlaaCmdU
import Derived.Test.YteenkbfmlnpmlaaCmdM
import Derived.Test.YteenkbfmlnpmlaaCmdO
import Derived.Test.YteenkbfmlnpmlaaRoomy8
namespace Go.Proofs.Yteenkbfmlnpmlaa
open Go.RowKit

theorem own_cutc {te : TypeId} {w : World} {B g n : Nat} {l : List UInt8} {mk : UInt8} (h : Own8 te w B (.slice (some ⟨g, 0, none⟩) (n + 80) (n + 80)) (l ++ List.replicate 80 mk)) (hn : l.length = n) : Rd8 w (.slice (some ⟨g, 0, none⟩) n (n + 80)) l := by
  subst hn
  have h3 := Rd8.cut (Own8.rd h) l.length (by simp) (l.length + 80)
  simpa using h3
set_option maxHeartbeats 2000000 in
set_option maxRecDepth 100000 in
theorem cgets_ok (ab : Option Addr) (cb k : Nat) (bs : List UInt8) (hk : bs.length = k) (w : World) (hb : Rd8 w (.slice ab k cb) bs) (hbl : k ≤ 140737488351232) (hE : cgE bs = 0) : Calls Try.prog 6 #[.slice ab k cb] w fun e w' => e = .returned (.bool true) ∧ Ext w w' := by
  have hro := roomy8 (.slice ab k cb) bs 12 w hb (by omega)
  have hin := fun gg z B (ho : Own8 5 z B (.slice (some ⟨gg, 0, none⟩) (bs.length + 80) (bs.length + 80)) (bs ++ List.replicate 80 12)) (hz : Ext w z) => intact8 gg (.slice ab k cb) bs 12 z B ho (hb.ext hz) (by omega)
  have e3 : (((12 : UInt8).toNat : Nat) : Int) = 12 := rfl
  rw [hk, e3] at hro hin
  have HRO := Lib.hid hro
  have HIN := Lib.hid hin
  have HK := Lib.hid hk
  obtain ⟨k1, k2, k3, k4, k5, k6, k7, _⟩ := cgE_ok hE
  have hg : ∀ (v : Value) (z : World) (hr : Rd8 z v bs), Calls Try.prog 12 #[v] z fun e w' => ∃ t x, e = .returned (.tuple #[.agg #[.iface t x], .int .i64 0]) ∧ Held w' (.iface t x) (cgR bs).1 (cgR bs).2.1 (cgR bs).2.1.length ∧ Ext z w' := fun v z hr => (cget_any hr (by omega)).mono (by
    rintro e w' (⟨h, _⟩ | ⟨_, _, t, x, h1, h2, h3⟩)
    · exact absurd hE h
    · exact ⟨t, x, h1, h2.rd, h3⟩)
  have hrg : ∀ (z : World) (hz : Ext w z), Calls Try.prog 26 #[.slice ab k cb] z fun e w' => ∃ a cap, e = .returned (.tuple #[(cgR bs).1.agg (.slice a (cgR bs).2.1.length cap), .int .i64 0]) ∧ SlS Ln.cells 4 w' (.slice a (cgR bs).2.1.length cap) (cgR bs).2.1 ∧ Ext z w' := fun z hz => (rget_any (hb.ext hz) (by omega)).mono (by
    rintro e w' (⟨h, _⟩ | ⟨_, _, a, cap, h1, h2, h3⟩)
    · exact absurd hE h
    · exact ⟨a, cap, h1, h2.rd, h3⟩)
  generalize (cgR bs).1 = c at *
  generalize (cgR bs).2.1 = ls at *
  have hf := fun (t : TypeId) (x : Value) (z : World) (hh : Held z (.iface t x) c ls ls.length) => flat_ok k1 hh
  rw [k4] at hf
  have hcm := fun (a a' : Option Addr) (cap cap' : Nat) (z : World) (h1 : SlS Ln.cells 4 z (.slice a ls.length cap) ls) (h2 : SlS Ln.cells 4 z (.slice a' ls.length cap') ls) => cmds_true c a a' ls.length cap cap' ls rfl (by omega) z h1 h2
  obtain ⟨n, hn⟩ : ∃ n, ls.length = n := ⟨_, rfl⟩
  rw [hn] at hg hrg hf hcm
  clear k1 k2 k3 k4 k5 k6 k7 hro hin hb hk e3 hn hE
  obtain ⟨kd, ser, lim, cat, ry, rm, rd, bp, dy, dm, dd, ofs, ofn, ses⟩ := c
  simp only [Cm.agg] at hrg hf hcm
  have HG := Lib.hid hg
  have HRG := Lib.hid hrg
  have HF := Lib.hid hf
  have HCM := Lib.hid hcm
  clear hg hrg hf hcm
  go_enter Try.func6, Try.ntmps6
  go_wp2_with fail
  go_at_call 25
  refine (HRO.out).mono ?_
  rintro e x1 ⟨gg, rfl, hown, hx1⟩
  have T_x1 : Hid (Ext w x1) := Lib.hid (Ext.trans (Ext.refl _) hx1)
  have HO1 := Lib.hid hown
  clear hown
  clear hx1
  go_wp2_with fail
  go_at_call 12
  refine (HG.out _ _ (own_cutc HO1.out HK.out)).mono ?_
  rintro e x2 ⟨t, y, rfl, hh, hx2⟩
  have T_x2 : Hid (Ext x1 x2) := Lib.hid (Ext.trans (Ext.refl _) hx2)
  have HH := Lib.hid hh
  have st2 := store_new (x := x2) (t := t) (y := y) (T := 25)
  clear hh
  clear hx2
  go_wp2_with fail
  go_at_call 26
  refine (HRG.out _ (Ext.alloc (T_x1.out.trans T_x2.out) _)).mono ?_
  rintro e x3 ⟨a3, c3, rfl, ho3, hx3⟩
  have T_x3 : Hid (Ext x2 x3) := Lib.hid (Ext.trans (Ext.alloc (Ext.refl _) _) hx3)
  have Dv_x3 := Lib.hid (ext_blk hx3 (new_blk x2 (.cells #[.iface t y] 25)))
  have HO3 := Lib.hid ho3
  clear ho3 st2
  clear hx3
  go_wp2_with fail
  go_at_call 27
  refine (HIN.out _ _ _ (own_ext HO1.out (Ext.alloc (T_x2.out.trans T_x3.out) _)) (Ext.alloc ((T_x1.out.trans T_x2.out).trans T_x3.out) _)).mono ?_
  rintro e x4 ⟨rfl, hx4⟩
  have T_x4 : Hid (Ext x3 x4) := Lib.hid (Ext.trans (Ext.alloc (Ext.refl _) _) hx4)
  have Dv_x4 := Lib.hid (ext_blk hx4 (alloc_blk Dv_x3.out))
  have Dq_x4 := Lib.hid (ext_blk hx4 (new_blk x3 (.cells #[.int .i64 kd, .string ser, .int .i64 lim, .string cat, .int .i64 ry, .int .i64 rm, .int .i64 rd, .int .i64 bp, .int .i64 dy, .int .i64 dm, .int .i64 dd, .slice a3 n c3, .string ofs, .int .i64 ofn, .int .i64 ses] 37)))
  obtain ⟨cv_x4_0, fv_x4_0⟩ := blkG Dv_x4.out 0 (.iface t y) rfl
  have zv_x4 := blk_lt Dv_x4.out
  clear hx4
  go_wp2_with fail
  go_at_call 13
  refine (HF.out t y _ (HH.out.ext (T_x3.out.trans T_x4.out))).mono ?_
  rintro e x5 ⟨a5, c5, rfl, ho5, hx5⟩
  have T_x5 : Hid (Ext x4 x5) := Lib.hid (Ext.trans (Ext.refl _) hx5)
  have Dv_x5 := Lib.hid (ext_blk hx5 Dv_x4.out)
  have Dq_x5 := Lib.hid (ext_blk hx5 Dq_x4.out)
  obtain ⟨cq_x5_0, fq_x5_0⟩ := blkG Dq_x5.out 0 (.int .i64 kd) rfl
  obtain ⟨cq_x5_1, fq_x5_1⟩ := blkG Dq_x5.out 1 (.string ser) rfl
  obtain ⟨cq_x5_2, fq_x5_2⟩ := blkG Dq_x5.out 2 (.int .i64 lim) rfl
  obtain ⟨cq_x5_3, fq_x5_3⟩ := blkG Dq_x5.out 3 (.string cat) rfl
  obtain ⟨cq_x5_4, fq_x5_4⟩ := blkG Dq_x5.out 4 (.int .i64 ry) rfl
  obtain ⟨cq_x5_5, fq_x5_5⟩ := blkG Dq_x5.out 5 (.int .i64 rm) rfl
  obtain ⟨cq_x5_6, fq_x5_6⟩ := blkG Dq_x5.out 6 (.int .i64 rd) rfl
  obtain ⟨cq_x5_7, fq_x5_7⟩ := blkG Dq_x5.out 7 (.int .i64 bp) rfl
  obtain ⟨cq_x5_8, fq_x5_8⟩ := blkG Dq_x5.out 8 (.int .i64 dy) rfl
  obtain ⟨cq_x5_9, fq_x5_9⟩ := blkG Dq_x5.out 9 (.int .i64 dm) rfl
  obtain ⟨cq_x5_10, fq_x5_10⟩ := blkG Dq_x5.out 10 (.int .i64 dd) rfl
  obtain ⟨cq_x5_11, fq_x5_11⟩ := blkG Dq_x5.out 11 (.slice a3 n c3) rfl
  obtain ⟨cq_x5_12, fq_x5_12⟩ := blkG Dq_x5.out 12 (.string ofs) rfl
  obtain ⟨cq_x5_13, fq_x5_13⟩ := blkG Dq_x5.out 13 (.int .i64 ofn) rfl
  obtain ⟨cq_x5_14, fq_x5_14⟩ := blkG Dq_x5.out 14 (.int .i64 ses) rfl
  have zq_x5 := blk_lt Dq_x5.out
  have HO5 := Lib.hid ho5.rd
  clear ho5
  clear hx5
  go_wp2_with fail
  go_at_call 22
  refine (HCM.out _ _ _ _ _ (HO5.out.ext (Ext.alloc (Ext.refl _) _)) (HO3.out.ext (Ext.alloc (T_x4.out.trans T_x5.out) _))).mono ?_
  rintro e x6 ⟨rfl, hx6⟩
  have T_x6 : Hid (Ext x5 x6) := Lib.hid (Ext.trans (Ext.alloc (Ext.refl _) _) hx6)
  have Dv_x6 := Lib.hid (ext_blk hx6 (alloc_blk Dv_x5.out))
  have Dq_x6 := Lib.hid (ext_blk hx6 (alloc_blk Dq_x5.out))
  have Dd_x6 := Lib.hid (ext_blk hx6 (new_blk x5 (.cells #[.int .i64 kd, .string ser, .int .i64 lim, .string cat, .int .i64 ry, .int .i64 rm, .int .i64 rd, .int .i64 bp, .int .i64 dy, .int .i64 dm, .int .i64 dd, .slice a5 n c5, .string ofs, .int .i64 ofn, .int .i64 ses] 37)))
  clear hx6
  go_wp2_with fail
  go_at_call 3
  refine (cruns_any _).mono ?_
  rintro e x7 ⟨rfl, hx7⟩
  have T_x7 : Hid (Ext x6 x7) := Lib.hid (Ext.trans (Ext.refl _) hx7)
  have Dv_x7 := Lib.hid (ext_blk hx7 Dv_x6.out)
  have Dq_x7 := Lib.hid (ext_blk hx7 Dq_x6.out)
  have Dd_x7 := Lib.hid (ext_blk hx7 Dd_x6.out)
  clear hx7
  go_wp2_with fail
  go_ret
  exact ⟨rfl, ((((((T_x1.out.trans T_x2.out).trans T_x3.out).trans T_x4.out).trans T_x5.out).trans T_x6.out).trans T_x7.out)⟩
set_option maxHeartbeats 2000000 in
set_option maxRecDepth 100000 in
theorem cgets_no (ab : Option Addr) (cb k : Nat) (bs : List UInt8) (hk : bs.length = k) (w : World) (hb : Rd8 w (.slice ab k cb) bs) (hbl : k ≤ 140737488351232) (hE : cgE bs ≠ 0) : Calls Try.prog 6 #[.slice ab k cb] w fun e w' => e = .returned (.bool true) ∧ Ext w w' := by
  have hro := roomy8 (.slice ab k cb) bs 12 w hb (by omega)
  have hin := fun gg z B (ho : Own8 5 z B (.slice (some ⟨gg, 0, none⟩) (bs.length + 80) (bs.length + 80)) (bs ++ List.replicate 80 12)) (hz : Ext w z) => intact8 gg (.slice ab k cb) bs 12 z B ho (hb.ext hz) (by omega)
  have e3 : (((12 : UInt8).toNat : Nat) : Int) = 12 := rfl
  rw [hk, e3] at hro hin
  have HRO := Lib.hid hro
  have HIN := Lib.hid hin
  have HK := Lib.hid hk
  have hg : ∀ (v : Value) (z : World) (hr : Rd8 z v bs), Calls Try.prog 12 #[v] z fun e w' => e = .returned (.tuple #[.agg #[.nilIface], .int .i64 (cgE bs)]) ∧ Ext z w' := fun v z hr => (cget_any hr (by omega)).mono (by
    rintro e w' (⟨_, h⟩ | ⟨h, _⟩)
    · exact h
    · exact absurd h hE)
  have hrg : ∀ (z : World) (hz : Ext w z), Calls Try.prog 26 #[.slice ab k cb] z fun e w' => e = .returned (.tuple #[Cm.z.agg (.slice none 0 0), .int .i64 (cgE bs)]) ∧ Ext z w' := fun z hz => (rget_any (hb.ext hz) (by omega)).mono (by
    rintro e w' (⟨_, h⟩ | ⟨h, _⟩)
    · exact h
    · exact absurd h hE)
  generalize cgE bs = E at *
  have he0 : (E == 0) = false := by simp [hE]
  clear hro hin hb hk e3 hE
  simp only [Cm.agg, Cm.z] at hrg
  have HG := Lib.hid hg
  have HRG := Lib.hid hrg
  clear hg hrg
  go_enter Try.func6, Try.ntmps6
  go_wp2_with fail
  go_at_call 25
  refine (HRO.out).mono ?_
  rintro e x1 ⟨gg, rfl, hown, hx1⟩
  have T_x1 : Hid (Ext w x1) := Lib.hid (Ext.trans (Ext.refl _) hx1)
  have HO1 := Lib.hid hown
  clear hown
  clear hx1
  go_wp2_with fail
  go_at_call 12
  refine (HG.out _ _ (own_cutc HO1.out HK.out)).mono ?_
  rintro e x2 ⟨rfl, hx2⟩
  have T_x2 : Hid (Ext x1 x2) := Lib.hid (Ext.trans (Ext.refl _) hx2)
  clear hx2
  go_wp2_with fail
  go_at_call 26
  refine (HRG.out _ (Ext.alloc (T_x1.out.trans T_x2.out) _)).mono ?_
  rintro e x3 ⟨rfl, hx3⟩
  have T_x3 : Hid (Ext x2 x3) := Lib.hid (Ext.trans (Ext.alloc (Ext.refl _) _) hx3)
  have Dv_x3 := Lib.hid (ext_blk hx3 (new_blk x2 (.cells #[.nilIface] 25)))
  clear hx3
  go_wp2_with fail
  go_at_call 27
  refine (HIN.out _ _ _ (own_ext HO1.out (Ext.alloc (T_x2.out.trans T_x3.out) _)) (Ext.alloc ((T_x1.out.trans T_x2.out).trans T_x3.out) _)).mono ?_
  rintro e x4 ⟨rfl, hx4⟩
  have T_x4 : Hid (Ext x3 x4) := Lib.hid (Ext.trans (Ext.alloc (Ext.refl _) _) hx4)
  have Dv_x4 := Lib.hid (ext_blk hx4 (alloc_blk Dv_x3.out))
  have Dq_x4 := Lib.hid (ext_blk hx4 (new_blk x3 (.cells #[.int .i64 0, .string ⟨#[]⟩, .int .i64 0, .string ⟨#[]⟩, .int .i64 0, .int .i64 0, .int .i64 0, .int .i64 0, .int .i64 0, .int .i64 0, .int .i64 0, .slice none 0 0, .string ⟨#[]⟩, .int .i64 0, .int .i64 0] 37)))
  obtain ⟨cv_x4_0, fv_x4_0⟩ := blkG Dv_x4.out 0 (.nilIface) rfl
  have zv_x4 := blk_lt Dv_x4.out
  clear hx4
  go_wp2_with fail
  go_at_call 13
  refine (flat_0 _).mono ?_
  rintro e x5 ⟨rfl, hx5⟩
  have T_x5 : Hid (Ext x4 x5) := Lib.hid (Ext.trans (Ext.refl _) hx5)
  have Dv_x5 := Lib.hid (ext_blk hx5 Dv_x4.out)
  have Dq_x5 := Lib.hid (ext_blk hx5 Dq_x4.out)
  obtain ⟨cq_x5_0, fq_x5_0⟩ := blkG Dq_x5.out 0 (.int .i64 0) rfl
  obtain ⟨cq_x5_1, fq_x5_1⟩ := blkG Dq_x5.out 1 (.string ⟨#[]⟩) rfl
  obtain ⟨cq_x5_2, fq_x5_2⟩ := blkG Dq_x5.out 2 (.int .i64 0) rfl
  obtain ⟨cq_x5_3, fq_x5_3⟩ := blkG Dq_x5.out 3 (.string ⟨#[]⟩) rfl
  obtain ⟨cq_x5_4, fq_x5_4⟩ := blkG Dq_x5.out 4 (.int .i64 0) rfl
  obtain ⟨cq_x5_5, fq_x5_5⟩ := blkG Dq_x5.out 5 (.int .i64 0) rfl
  obtain ⟨cq_x5_6, fq_x5_6⟩ := blkG Dq_x5.out 6 (.int .i64 0) rfl
  obtain ⟨cq_x5_7, fq_x5_7⟩ := blkG Dq_x5.out 7 (.int .i64 0) rfl
  obtain ⟨cq_x5_8, fq_x5_8⟩ := blkG Dq_x5.out 8 (.int .i64 0) rfl
  obtain ⟨cq_x5_9, fq_x5_9⟩ := blkG Dq_x5.out 9 (.int .i64 0) rfl
  obtain ⟨cq_x5_10, fq_x5_10⟩ := blkG Dq_x5.out 10 (.int .i64 0) rfl
  obtain ⟨cq_x5_11, fq_x5_11⟩ := blkG Dq_x5.out 11 (.slice none 0 0) rfl
  obtain ⟨cq_x5_12, fq_x5_12⟩ := blkG Dq_x5.out 12 (.string ⟨#[]⟩) rfl
  obtain ⟨cq_x5_13, fq_x5_13⟩ := blkG Dq_x5.out 13 (.int .i64 0) rfl
  obtain ⟨cq_x5_14, fq_x5_14⟩ := blkG Dq_x5.out 14 (.int .i64 0) rfl
  have zq_x5 := blk_lt Dq_x5.out
  clear hx5
  go_wp2_with fail
  go_at_call 22
  refine (cmds_true Cm.z none none 0 0 0 [] rfl (by decide) _ nil_sls nil_sls).mono ?_
  rintro e x6 ⟨rfl, hx6⟩
  have T_x6 : Hid (Ext x5 x6) := Lib.hid (Ext.trans (Ext.alloc (Ext.refl _) _) hx6)
  have Dv_x6 := Lib.hid (ext_blk hx6 (alloc_blk Dv_x5.out))
  have Dq_x6 := Lib.hid (ext_blk hx6 (alloc_blk Dq_x5.out))
  have Dd_x6 := Lib.hid (ext_blk hx6 (new_blk x5 (.cells #[.int .i64 0, .string ⟨#[]⟩, .int .i64 0, .string ⟨#[]⟩, .int .i64 0, .int .i64 0, .int .i64 0, .int .i64 0, .int .i64 0, .int .i64 0, .int .i64 0, .slice none 0 0, .string ⟨#[]⟩, .int .i64 0, .int .i64 0] 37)))
  clear hx6
  go_wp2_with fail
  go_at_call 3
  refine (cruns_any _).mono ?_
  rintro e x7 ⟨rfl, hx7⟩
  have T_x7 : Hid (Ext x6 x7) := Lib.hid (Ext.trans (Ext.refl _) hx7)
  have Dv_x7 := Lib.hid (ext_blk hx7 Dv_x6.out)
  have Dq_x7 := Lib.hid (ext_blk hx7 Dq_x6.out)
  have Dd_x7 := Lib.hid (ext_blk hx7 Dd_x6.out)
  clear hx7
  go_wp2_with fail
  go_ret
  exact ⟨rfl, ((((((T_x1.out.trans T_x2.out).trans T_x3.out).trans T_x4.out).trans T_x5.out).trans T_x6.out).trans T_x7.out)⟩
theorem cgets_any (ab : Option Addr) (cb k : Nat) (bs : List UInt8) (hk : bs.length = k) (w : World) (hb : Rd8 w (.slice ab k cb) bs) (hbl : k ≤ 140737488351232) : Calls Try.prog 6 #[.slice ab k cb] w fun e w' => e = .returned (.bool true) ∧ Ext w w' := by
  by_cases hE : cgE bs = 0
  · exact cgets_ok ab cb k bs hk w hb hbl hE
  · exact cgets_no ab cb k bs hk w hb hbl hE
end Go.Proofs.Yteenkbfmlnpmlaa
