/- The law CommandRuns: the walk. (Written by genCmdU.py.) -/
import Derived.Test.YteenkbfmlnpmlaaCmdP
import Derived.Test.YteenkbfmlnpmlaaCmdJ
import Derived.Test.YteenkbfmlnpmlaaCmdQ
import Derived.Test.YteenkbfmlnpmlaaPackRuns
import Derived.Test.YteenkbfmlnpmlaaSame8
namespace Go.Proofs.Yteenkbfmlnpmlaa
open Go.RowKit

abbrev PutsTo (iv : Value) (L : List UInt8) (z : World) : Prop := Calls Try.prog 11 #[.agg #[iv]] z fun e w' => ∃ a k c, e = .returned (.tuple #[.slice a k c, .int .i64 0]) ∧ Hid (Rd8 w' (.slice a k c) L) ∧ Ext z w'
theorem puts_of {t : TypeId} {x : Value} {c : Cm} {ls : List Ln} {n : Nat} {L : List UInt8} {z : World} (h : c.Ok) (hin : c.In) (hz : LnIn ls) (hh : Held z (.iface t x) c ls n) (h1 : putE c ls = 0) (h2 : putB c ls = L) : PutsTo (.iface t x) L z := by
  refine (put_ok h hin hz hh).mono ?_
  rintro e w' ⟨bv, rfl, hr, hx⟩
  rw [h1, h2] at *
  have hr0 := hr
  obtain ⟨_, _, a, cap, rfl, _⟩ := hr0
  exact ⟨a, _, cap, rfl, Lib.hid hr, hx⟩
theorem z64s (n : Int) (h1 : -100 ≤ n) (h2 : n ≤ 100) : Z64 n := ⟨by omega, by omega⟩
theorem runsPut1 (z : World) : PutsTo (.iface 85 (.agg #[.string ⟨#[97]⟩, .int .i64 5])) [2, 2, 97, 10] z :=
  puts_of (c := ⟨1, ⟨#[97]⟩, 5, ⟨#[]⟩, 0, 0, 0, 0, 0, 0, 0, ⟨#[]⟩, 0, 0⟩) (ls := []) (n := 0) (by decide) (by constructor <;> exact z64s _ (by decide) (by decide)) (fun x hx => by cases hx) ⟨none, 0, rfl, rfl, by decide, nil_sls, fun _ => rfl⟩ (by decide +kernel) (by decide +kernel)
theorem runsPut6 (z : World) : PutsTo (.iface 111 (.agg #[])) [12] z :=
  puts_of (c := ⟨6, ⟨#[]⟩, 0, ⟨#[]⟩, 0, 0, 0, 0, 0, 0, 0, ⟨#[]⟩, 0, 0⟩) (ls := []) (n := 0) (by decide) (by constructor <;> exact z64s _ (by decide) (by decide)) (fun x hx => by cases hx) ⟨none, 0, rfl, rfl, by decide, nil_sls, fun _ => rfl⟩ (by decide +kernel) (by decide +kernel)
theorem runsGet {x : World} {cs : Array Value} {b n : Nat} (l : List UInt8) (er : Int) (hb : b = x.heap.size) (hc : cs.toList = l.map bcell) (hn : n = l.length) (hl : l.length ≤ 1000) (he : cgE l = er) (h0 : er ≠ 0) : Calls Try.prog 12 #[.slice (some ⟨b, 0, none⟩) n n] (x.alloc (.cells cs 5)) fun e w' => e = .returned (.tuple #[.agg #[.nilIface], .int .i64 er]) ∧ Ext (x.alloc (.cells cs 5)) w' := by
  subst hb
  refine (cget_any (rd_lit (Ext.refl _) hc hn hl) (by omega)).mono ?_
  rintro e w' (⟨h1, h2, h3⟩ | ⟨h1, _⟩)
  · rw [he] at h2
    exact ⟨h2, h3⟩
  · rw [he] at h1
    exact absurd h1 h0
theorem RL {x : World} (cs : Array Value) (l : List UInt8) (n : Nat) (b : Nat) (hb : b = x.heap.size) (hc : cs.toList = l.map bcell := by rfl) (hn : n = l.length := by rfl) (hl : l.length ≤ 1000 := by decide) : Rd8 (x.alloc (.cells cs 5)) (.slice (some ⟨b, 0, none⟩) n n) l := by
  subst hb
  exact rd_lit (Ext.refl _) hc hn hl
theorem runsClosure (b : Nat) (w : World) (hc : w.cell? ⟨b, 0, none⟩ = some (.iface 111 (.agg #[]))) : Calls Try.prog 15 #[.pointer (some ⟨b, 0, none⟩)] w fun e w' => e = .panicked (wrongP 4 6) ∧ Ext w w' := by
  go_enter Try.func15, Try.ntmps15
  go_wp2_with (go_at_call 16; refine (must_6 _).mono ?_; rintro e y ⟨rfl, hy⟩)
  exact ⟨rfl, rfl, hy⟩
theorem runsCaught (b : Nat) (w : World) (hb : b < w.heap.size) (hc : w.cell? ⟨b, 0, none⟩ = some (.iface 111 (.agg #[]))) : Calls Try.prog 14 #[.func (.func 15) #[] #[.pointer (some ⟨b, 0, none⟩)]] w fun e w' => e = .returned (.tuple #[.agg #[.int .i64 4, .int .i64 6], .bool true]) ∧ Ext w w' :=
  caught_panics _ _ (fun _ => by kernel_rfl) 4 6 w fun w1 h => runsClosure b w1 ((h.cell (p := ⟨b, 0, none⟩) hb).trans hc)
theorem runsSame {z : World} {va vb : Value} (l : List UInt8) (ha : Rd8 z va l) (hb : Rd8 z vb l) : Calls Try.prog 17 #[va, vb] z fun e w' => e = .returned (.bool true) ∧ Ext z w' :=
  (same8 va vb l l z ha hb).mono fun e w' h => by simpa using h
set_option maxHeartbeats 16000000 in
set_option maxRecDepth 100000 in
theorem cruns_any (w : World) : Calls Try.prog 3 #[] w fun e w' => e = .returned (.bool true) ∧ Ext w w' := by
  have hmf : ∀ (fn : Fn) (first cap : Array Value) (w : World), (Instr.makeFunc fn first cap).run Try.prog w = .ok (.func fn first cap) w := fun _ _ _ _ => rfl
  have hfl : ∀ (w : World) (v0 v1 v2 v3 v4 : Value), (Instr.field 49 (.agg #[v0, v1, v2, v3, v4]) 0).run Try.prog w = .ok v0 w := fun _ _ _ _ _ _ => by kernel_rfl
  go_enter Try.func3, Try.ntmps3
  go_wp2_with fail
  go_at_call 10
  refine (of_1 5 0 0 0 0 0 0 0 0 0 ⟨#[97]⟩ ⟨#[]⟩ ⟨#[]⟩ none 0 0 _).mono ?_
  rintro e x1 ⟨rfl, hx1⟩
  have T1 : Hid (Ext w x1) := Lib.hid (Ext.trans (Ext.refl _) hx1)
  clear hx1
  go_wp2_with fail
  go_at_call 10
  refine (of_6 0 0 0 0 0 0 0 0 0 0 ⟨#[]⟩ ⟨#[]⟩ ⟨#[]⟩ none 0 0 _).mono ?_
  rintro e x2 ⟨rfl, hx2⟩
  have T2 : Hid (Ext x1 x2) := Lib.hid (Ext.trans (Ext.alloc (Ext.refl _) _) hx2)
  have Da_2 := Lib.hid (ext_blk hx2 (new_blk x1 (.cells #[.iface 85 (.agg #[.string ⟨#[97]⟩, .int .i64 5])] 25)))
  clear hx2
  go_wp2_with fail
  go_at_call 10
  refine (of_8 0 0 0 0 0 0 0 0 0 0 ⟨#[97]⟩ ⟨#[]⟩ ⟨#[]⟩ none 0 0 _).mono ?_
  rintro e x3 ⟨rfl, hx3⟩
  have T3 : Hid (Ext x2 x3) := Lib.hid (Ext.trans (Ext.alloc (Ext.refl _) _) hx3)
  have Da_3 := Lib.hid (ext_blk hx3 (alloc_blk Da_2.out))
  have Db_3 := Lib.hid (ext_blk hx3 (new_blk x2 (.cells #[.iface 111 (.agg #[])] 25)))
  obtain ⟨ca_3_0, fa_3_0⟩ := blkG Da_3.out 0 (.iface 85 (.agg #[.string ⟨#[97]⟩, .int .i64 5])) rfl
  have za_3 := blk_lt Da_3.out
  clear hx3
  go_wp2_with fail
  go_at_call 11
  refine (runsPut1 _).mono ?_
  rintro e x4 ⟨aA, kA, cA, rfl, HA, hx4⟩
  have T4 : Hid (Ext x3 x4) := Lib.hid (Ext.trans (Ext.alloc (Ext.refl _) _) hx4)
  have Da_4 := Lib.hid (ext_blk hx4 (alloc_blk Da_3.out))
  have Db_4 := Lib.hid (ext_blk hx4 (alloc_blk Db_3.out))
  have Dc_4 := Lib.hid (ext_blk hx4 (new_blk x3 (.cells #[.iface 97 (.agg #[.string ⟨#[97]⟩])] 25)))
  obtain ⟨cb_4_0, fb_4_0⟩ := blkG Db_4.out 0 (.iface 111 (.agg #[])) rfl
  have zb_4 := blk_lt Db_4.out
  clear hx4
  go_wp2_with fail
  go_at_call 11
  refine (runsPut6 _).mono ?_
  rintro e x5 ⟨aB, kB, cB, rfl, HB, hx5⟩
  have T5 : Hid (Ext x4 x5) := Lib.hid (Ext.trans (Ext.refl _) hx5)
  have Db_5 := Lib.hid (ext_blk hx5 Db_4.out)
  have Dc_5 := Lib.hid (ext_blk hx5 Dc_4.out)
  clear hx5
  go_wp2_with fail
  go_at_call 11
  refine (put_no _).mono ?_
  rintro e x6 ⟨rfl, hx6⟩
  have T6 : Hid (Ext x5 x6) := Lib.hid (Ext.trans (Ext.refl _) hx6)
  have Db_6 := Lib.hid (ext_blk hx6 Db_5.out)
  have Dc_6 := Lib.hid (ext_blk hx6 Dc_5.out)
  clear hx6
  go_wp2_with fail
  go_at_call 12
  refine (runsGet [12, 0] 5 rfl rfl rfl (by decide) (by decide +kernel) (by decide)).mono ?_
  rintro e x7 ⟨rfl, hx7⟩
  have T7 : Hid (Ext x6 x7) := Lib.hid (Ext.trans (Ext.alloc (Ext.refl _) _) hx7)
  have Db_7 := Lib.hid (ext_blk hx7 (alloc_blk Db_6.out))
  have Dc_7 := Lib.hid (ext_blk hx7 (alloc_blk Dc_6.out))
  clear hx7
  go_wp2_with fail
  go_at_call 12
  refine (runsGet [18] 17 (by simp) rfl rfl (by decide) (by decide +kernel) (by decide)).mono ?_
  rintro e x8 ⟨rfl, hx8⟩
  have T8 : Hid (Ext x7 x8) := Lib.hid (Ext.trans (Ext.alloc (Ext.alloc (Ext.refl _) _) _) hx8)
  have Db_8 := Lib.hid (ext_blk hx8 (alloc_blk (alloc_blk Db_7.out)))
  have Dc_8 := Lib.hid (ext_blk hx8 (alloc_blk (alloc_blk Dc_7.out)))
  clear hx8
  go_wp2_with fail
  go_at_call 12
  refine (runsGet [2, 2] 3 (by simp) rfl rfl (by decide) (by decide +kernel) (by decide)).mono ?_
  rintro e x9 ⟨rfl, hx9⟩
  have T9 : Hid (Ext x8 x9) := Lib.hid (Ext.trans (Ext.alloc (Ext.alloc (Ext.refl _) _) _) hx9)
  have Db_9 := Lib.hid (ext_blk hx9 (alloc_blk (alloc_blk Db_8.out)))
  have Dc_9 := Lib.hid (ext_blk hx9 (alloc_blk (alloc_blk Dc_8.out)))
  obtain ⟨cc_9_0, fc_9_0⟩ := blkG Dc_9.out 0 (.iface 97 (.agg #[.string ⟨#[97]⟩])) rfl
  have zc_9 := blk_lt Dc_9.out
  clear hx9
  go_wp2_with fail
  go_at_call 13
  refine (flat_8 ⟨#[97]⟩ _).mono ?_
  rintro e x10 ⟨rfl, hx10⟩
  have T10 : Hid (Ext x9 x10) := Lib.hid (Ext.trans (Ext.alloc (Ext.refl _) _) hx10)
  have Db_10 := Lib.hid (ext_blk hx10 (alloc_blk Db_9.out))
  have Dc_10 := Lib.hid (ext_blk hx10 (alloc_blk Dc_9.out))
  obtain ⟨cb_10_0, fb_10_0⟩ := blkG Db_10.out 0 (.iface 111 (.agg #[])) rfl
  have zb_10 := blk_lt Db_10.out
  clear hx10
  go_wp2_with fail
  go_at_call 14
  refine (runsCaught _ _ (blk_lt (alloc_blk Db_10.out)) (blkG (alloc_blk Db_10.out) 0 _ rfl).1).mono ?_
  rintro e x11 ⟨rfl, hx11⟩
  have T11 : Hid (Ext x10 x11) := Lib.hid (Ext.trans (Ext.alloc (Ext.refl _) _) hx11)
  have Db_11 := Lib.hid (ext_blk hx11 (alloc_blk Db_10.out))
  have Dd_11 := Lib.hid (ext_blk hx11 (new_blk x10 (.cells #[.int .i64 8, .string ⟨#[97]⟩, .int .i64 0, .string ⟨#[]⟩, .int .i64 0, .int .i64 0, .int .i64 0, .int .i64 0, .int .i64 0, .int .i64 0, .int .i64 0, .slice none 0 0, .string ⟨#[]⟩, .int .i64 0, .int .i64 0] 37)))
  clear hx11
  go_wp2_with fail
  go_at_call 10
  refine (of_4 0 0 0 0 0 0 0 0 0 0 ⟨#[120]⟩ ⟨#[]⟩ ⟨#[]⟩ none 0 0 [] rfl (by decide) _ nil_sls).mono ?_
  rintro e x12 ⟨a4, c4, rfl, ho4, hx12⟩
  have T12 : Hid (Ext x11 x12) := Lib.hid (Ext.trans (Ext.alloc (Ext.refl _) _) hx12)
  have Dd_12 := Lib.hid (ext_blk hx12 (alloc_blk Dd_11.out))
  have De_12 := Lib.hid (ext_blk hx12 (new_blk x11 (.cells #[.int .i64 4, .int .i64 6] 45)))
  have HL4 := Lib.hid ho4.rd
  clear ho4
  clear hx12
  go_wp2_with fail
  go_at_call 17
  refine (runsSame [2, 2, 97, 10] (HA.out.ext (((((((((T5.out.trans T6.out).trans T7.out).trans T8.out).trans T9.out).trans T10.out).trans T11.out).trans T12.out).alloc _).alloc _)) (RL _ _ _ _ (by simp))).mono ?_
  rintro e x13 ⟨rfl, hx13⟩
  have T13 : Hid (Ext x12 x13) := Lib.hid (Ext.trans (Ext.alloc (Ext.alloc (Ext.refl _) _) _) hx13)
  have Dd_13 := Lib.hid (ext_blk hx13 (alloc_blk (alloc_blk Dd_12.out)))
  have De_13 := Lib.hid (ext_blk hx13 (alloc_blk (alloc_blk De_12.out)))
  have Dg_13 := Lib.hid (ext_blk hx13 (alloc_blk (new_blk x12 (.cells #[.iface 91 (.agg #[.string ⟨#[120]⟩, .int .i64 0, .int .i64 0, .int .i64 0, .slice a4 0 c4])] 25))))
  clear hx13
  go_wp2_with fail
  go_at_call 17
  refine (runsSame [12] (HB.out.ext ((((((((T6.out.trans T7.out).trans T8.out).trans T9.out).trans T10.out).trans T11.out).trans T12.out).trans T13.out).alloc _)) (RL _ _ _ _ (by simp))).mono ?_
  rintro e x14 ⟨rfl, hx14⟩
  have T14 : Hid (Ext x13 x14) := Lib.hid (Ext.trans (Ext.alloc (Ext.refl _) _) hx14)
  have Dd_14 := Lib.hid (ext_blk hx14 (alloc_blk Dd_13.out))
  have De_14 := Lib.hid (ext_blk hx14 (alloc_blk De_13.out))
  have Dg_14 := Lib.hid (ext_blk hx14 (alloc_blk Dg_13.out))
  obtain ⟨cd_14_0, fd_14_0⟩ := blkG Dd_14.out 0 (.int .i64 8) rfl
  obtain ⟨cd_14_1, fd_14_1⟩ := blkG Dd_14.out 1 (.string ⟨#[97]⟩) rfl
  obtain ⟨cd_14_2, fd_14_2⟩ := blkG Dd_14.out 2 (.int .i64 0) rfl
  obtain ⟨cd_14_3, fd_14_3⟩ := blkG Dd_14.out 3 (.string ⟨#[]⟩) rfl
  obtain ⟨cd_14_4, fd_14_4⟩ := blkG Dd_14.out 4 (.int .i64 0) rfl
  obtain ⟨cd_14_5, fd_14_5⟩ := blkG Dd_14.out 5 (.int .i64 0) rfl
  obtain ⟨cd_14_6, fd_14_6⟩ := blkG Dd_14.out 6 (.int .i64 0) rfl
  obtain ⟨cd_14_7, fd_14_7⟩ := blkG Dd_14.out 7 (.int .i64 0) rfl
  obtain ⟨cd_14_8, fd_14_8⟩ := blkG Dd_14.out 8 (.int .i64 0) rfl
  obtain ⟨cd_14_9, fd_14_9⟩ := blkG Dd_14.out 9 (.int .i64 0) rfl
  obtain ⟨cd_14_10, fd_14_10⟩ := blkG Dd_14.out 10 (.int .i64 0) rfl
  obtain ⟨cd_14_11, fd_14_11⟩ := blkG Dd_14.out 11 (.slice none 0 0) rfl
  obtain ⟨cd_14_12, fd_14_12⟩ := blkG Dd_14.out 12 (.string ⟨#[]⟩) rfl
  obtain ⟨cd_14_13, fd_14_13⟩ := blkG Dd_14.out 13 (.int .i64 0) rfl
  obtain ⟨cd_14_14, fd_14_14⟩ := blkG Dd_14.out 14 (.int .i64 0) rfl
  have zd_14 := blk_lt Dd_14.out
  obtain ⟨ce_14_0, fe_14_0⟩ := blkG De_14.out 0 (.int .i64 4) rfl
  obtain ⟨ce_14_1, fe_14_1⟩ := blkG De_14.out 1 (.int .i64 6) rfl
  have ze_14 := blk_lt De_14.out
  obtain ⟨cg_14_0, fg_14_0⟩ := blkG Dg_14.out 0 (.iface 91 (.agg #[.string ⟨#[120]⟩, .int .i64 0, .int .i64 0, .int .i64 0, .slice a4 0 c4])) rfl
  have zg_14 := blk_lt Dg_14.out
  clear hx14
  go_wp2_with fail
  go_at_call 16
  refine (must_4 0 0 0 ⟨#[120]⟩ a4 0 c4 [] rfl (by decide) _ (HL4.out.ext (((T13.out.trans T14.out))))).mono ?_
  rintro e x15 ⟨a5, c5, rfl, _, hx15⟩
  have T15 : Hid (Ext x14 x15) := Lib.hid (Ext.trans (Ext.refl _) hx15)
  have Dd_15 := Lib.hid (ext_blk hx15 Dd_14.out)
  have De_15 := Lib.hid (ext_blk hx15 De_14.out)
  have Dg_15 := Lib.hid (ext_blk hx15 Dg_14.out)
  clear hx15
  go_wp2_with fail
  go_ret
  exact ⟨rfl, T1.out.trans (T2.out.trans (T3.out.trans (T4.out.trans (T5.out.trans (T6.out.trans (T7.out.trans (T8.out.trans (T9.out.trans (T10.out.trans (T11.out.trans (T12.out.trans (T13.out.trans (T14.out.trans T15.out)))))))))))))⟩
end Go.Proofs.Yteenkbfmlnpmlaa
