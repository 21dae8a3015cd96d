/- The law CommandMust: the walk. (Written by genCmdMust.py.) -/
import Derived.Test.YteenkbfmlnpmlaaCmdPuts
import Derived.Test.YteenkbfmlnpmlaaCmdFx
import Derived.Test.YteenkbfmlnpmlaaBlkLaw
namespace Go.Proofs.Yteenkbfmlnpmlaa
open Go.RowKit

theorem must_not {w0 : World} {t : TypeId} {x : Value} {c : Cm} {ls : List Ln} {n : Nat} (h : c.Ok) (h4 : c.kd ≠ 4) (hh : Held w0 (.iface t x) c ls n) (w : World) : Calls Try.prog 16 #[.agg #[.iface t x]] w fun e w' => e = .panicked (wrongP 4 c.kd) ∧ Ext w w' := by
  have hk := ok_cases h
  clear h
  obtain ⟨kd, ser, lim, cat, ry, rm, rd, bp, dy, dm, dd, ofs, ofn, ses⟩ := c
  obtain ⟨a, cap, hv, _⟩ := hh
  rcases hk with hk | hk | hk | hk | hk | hk | hk | hk
  all_goals
    simp only at hk
    subst hk
    rw [hv]
  · exact must_1 lim ser w
  · exact must_2 ser w
  · exact must_3 ry rm rd bp cat w
  · exact absurd rfl h4
  · exact must_5 dy dm dd ofn ser ofs w
  · exact must_6 w
  · exact must_7 ses w
  · exact must_8 ser w
theorem must_held {w : World} {t : TypeId} {x : Value} {c : Cm} {ls : List Ln} {n : Nat} (h4 : c.kd = 4) (hh : Held w (.iface t x) c ls n) : Calls Try.prog 16 #[.agg #[.iface t x]] w fun e w' => ∃ a' c', e = .returned (.agg #[.string c.ser, .int .i64 c.dy, .int .i64 c.dm, .int .i64 c.dd, .slice a' n c']) ∧ OwnS Ln.cells 4 56 w' w.heap.size (.slice a' n c') ls ∧ Ext w w' := by
  obtain ⟨kd, ser, lim, cat, ry, rm, rd, bp, dy, dm, dd, ofs, ofn, ses⟩ := c
  obtain ⟨a, cap, hv, hn, hm, hl, _⟩ := hh
  simp only at h4
  subst h4
  rw [hv]
  exact must_4 dy dm dd ser a n cap ls hn hm w hl
theorem mclo_0 (bv bp : Nat) (w : World) (hc : w.cell? ⟨bv, 0, none⟩ = some .nilIface) : Calls Try.prog 29 #[.pointer (some ⟨bv, 0, none⟩), .pointer (some ⟨bp, 0, none⟩)] w fun e w' => e = .panicked (wrongP 4 0) ∧ Ext w w' := by
  go_enter Try.func29, Try.ntmps29
  go_wp2_with (go_at_call 16; refine (must_0 _).mono ?_; rintro e y ⟨rfl, hy⟩)
  exact ⟨rfl, rfl, hy⟩
theorem mclo_k (bv bp : Nat) (t : TypeId) (y : Value) (k : Int) (w : World) (hm : Calls Try.prog 16 #[.agg #[.iface t y]] w fun e w' => e = .panicked (wrongP 4 k) ∧ Ext w w') (hc : w.cell? ⟨bv, 0, none⟩ = some (.iface t y)) : Calls Try.prog 29 #[.pointer (some ⟨bv, 0, none⟩), .pointer (some ⟨bp, 0, none⟩)] w fun e w' => e = .panicked (wrongP 4 k) ∧ Ext w w' := by
  have HM := Lib.hid hm
  clear hm
  go_enter Try.func29, Try.ntmps29
  go_wp2_with (go_at_call 16; refine HM.out.mono ?_; rintro e y ⟨rfl, hy⟩)
  exact ⟨rfl, rfl, hy⟩
set_option maxRecDepth 100000 in
theorem mclo_4 (bv bp : Nat) (t : TypeId) (y : Value) (c : Cm) (h4 : c.kd = 4) (ls : List Ln) (n : Nat) (w : World) (hh : Held w (.iface t y) c ls n) (hc : w.cell? ⟨bv, 0, none⟩ = some (.iface t y)) (hp : w.heap[bp]? = some (.cells #[.string ⟨#[]⟩, .int .i64 0, .int .i64 0, .int .i64 0, .slice none 0 0] 49 (0, 0))) : Calls Try.prog 29 #[.pointer (some ⟨bv, 0, none⟩), .pointer (some ⟨bp, 0, none⟩)] w fun e w' => e = .returned (.tuple #[]) ∧ KeepR bp w w' ∧ ∃ a' c', w'.heap[bp]? = some (.cells #[.string c.ser, .int .i64 c.dy, .int .i64 c.dm, .int .i64 c.dd, .slice a' n c'] 49 (0, 0)) ∧ OwnS Ln.cells 4 56 w' w.heap.size (.slice a' n c') ls := by
  have HM := Lib.hid (must_held h4 hh)
  have HP := Lib.hid hp
  have hi5 : (Try.prog.info? 49).map (·.size) = some 5 := by kernel_rfl
  have HI5 := Lib.hid hi5
  have hlt := blk_lt hp
  clear hh hp hi5 h4
  go_enter Try.func29, Try.ntmps29
  go_wp2_with (first
    | (go_at_call 16; refine HM.out.mono ?_; rintro e x1 ⟨a', c', rfl, ho, hx⟩; have HO := Lib.hid ho; have HX := Lib.hid hx; have HP1 := Lib.hid (ext_blk hx HP.out); clear ho hx)
    | (refine wpList_store_blk (by rfl) 49 _ _ (by rfl) bp 0 #[.string c.ser, .int .i64 c.dy, .int .i64 c.dm, .int .i64 c.dd, .slice a' n c'] (by rfl) (by rfl) HP1.out 5 (by rfl) (by decide) HI5.out (by rfl) #[.string c.ser, .int .i64 c.dy, .int .i64 c.dm, .int .i64 c.dd, .slice a' n c'] (by rfl) ?_; intro z5 hz hkz; have HZ := Lib.hid hz; have HK := Lib.hid hkz; clear hz hkz))
  go_end0
  refine ⟨rfl, (KeepR.of_ext HX.out).trans HK.out, a', c', HZ.out, ?_⟩
  exact own_keepE HO.out fun ad m2 c2 he => HK.out.block _ (own_blkE HO.out ad m2 c2 he).1 (Nat.ne_of_gt (Nat.lt_of_lt_of_le hlt (own_blkE HO.out ad m2 c2 he).2))
theorem mc_0 (bv bp : Nat) (w : World) (hv : w.heap[bv]? = some (.cells #[.nilIface] 25 (0, 0))) : Calls Try.prog 14 #[.func (.func 29) #[] #[.pointer (some ⟨bv, 0, none⟩), .pointer (some ⟨bp, 0, none⟩)]] w fun e w' => e = .returned (.tuple #[.agg #[.int .i64 4, .int .i64 0], .bool true]) ∧ Ext w w' :=
  caught_panics _ _ (fun _ => by kernel_rfl) 4 0 w fun w1 h => mclo_0 bv bp w1 (blkG (ext_blk h hv) 0 _ rfl).1
theorem mc_k (bv bp : Nat) (t : TypeId) (y : Value) (c : Cm) (hk : c.Ok) (h4 : c.kd ≠ 4) (ls : List Ln) (n : Nat) (w : World) (hh : Held w (.iface t y) c ls n) (hv : w.heap[bv]? = some (.cells #[.iface t y] 25 (0, 0))) : Calls Try.prog 14 #[.func (.func 29) #[] #[.pointer (some ⟨bv, 0, none⟩), .pointer (some ⟨bp, 0, none⟩)]] w fun e w' => e = .returned (.tuple #[.agg #[.int .i64 4, .int .i64 c.kd], .bool true]) ∧ Ext w w' :=
  caught_panics _ _ (fun _ => by kernel_rfl) 4 c.kd w fun w1 h => mclo_k bv bp t y c.kd w1 (must_not hk h4 (hh.ext h) w1) (blkG (ext_blk h hv) 0 _ rfl).1
theorem mc_4 (bv bp : Nat) (t : TypeId) (y : Value) (c : Cm) (h4 : c.kd = 4) (ls : List Ln) (n : Nat) (w : World) (hh : Held w (.iface t y) c ls n) (hv : w.heap[bv]? = some (.cells #[.iface t y] 25 (0, 0))) (hp : w.heap[bp]? = some (.cells #[.string ⟨#[]⟩, .int .i64 0, .int .i64 0, .int .i64 0, .slice none 0 0] 49 (0, 0))) : Calls Try.prog 14 #[.func (.func 29) #[] #[.pointer (some ⟨bv, 0, none⟩), .pointer (some ⟨bp, 0, none⟩)]] w fun e w' => ∃ a' c', e = .returned (.tuple #[.agg #[.int .i64 0, .int .i64 0], .bool false]) ∧ KeepR bp w w' ∧ w'.heap[bp]? = some (.cells #[.string c.ser, .int .i64 c.dy, .int .i64 c.dm, .int .i64 c.dd, .slice a' n c'] 49 (0, 0)) ∧ SlS Ln.cells 4 w' (.slice a' n c') ls := by
  have hx : Ext w ((w.alloc (.cells #[.int .i64 0, .int .i64 0] 45)).alloc (.cells #[.bool false] 4)) := ((Ext.refl w).alloc _).alloc _
  have hlt := blk_lt hp
  refine (caught_ends 29 #[.pointer (some ⟨bv, 0, none⟩), .pointer (some ⟨bp, 0, none⟩)] (fun _ => by kernel_rfl) bp (fun z => ∃ a' c', z.heap[bp]? = some (.cells #[.string c.ser, .int .i64 c.dy, .int .i64 c.dm, .int .i64 c.dd, .slice a' n c'] 49 (0, 0)) ∧ OwnS Ln.cells 4 56 z (w.heap.size + 2) (.slice a' n c') ls) w hlt ?_ ?_).mono ?_
  · rintro z z' ⟨a', c', h1, h2⟩ hk
    refine ⟨a', c', (hk bp (by omega) (by omega)).trans h1, own_keepE h2 fun ad m2 c2 he => hk _ ?_ ?_⟩ <;> (have := (own_blkE h2 ad m2 c2 he).2; omega)
  · refine (mclo_4 bv bp t y c h4 ls n _ (hh.ext hx) (blkG (ext_blk hx hv) 0 _ rfl).1 (ext_blk hx hp)).mono ?_
    rintro e w' ⟨rfl, hk, a', c', h1, h2⟩
    exact ⟨rfl, hk, a', c', h1, by simpa using h2⟩
  · rintro e w' ⟨rfl, hk, a', c', h1, h2⟩
    exact ⟨a', c', rfl, hk, h1, h2.rd⟩
set_option maxHeartbeats 4000000 in
set_option maxRecDepth 100000 in
theorem cmust_no (c : Cm) (a : Option Addr) (n m cap : Nat) (ls : List Ln) (hf : ∀ z, Calls Try.prog 18 #[c.agg (.slice a n cap)] z fun e w' => e = .returned (c.agg (.slice a m cap)) ∧ Ext z w') (hn : ls.length = m) (hm : m ≤ 30) (w : World) (hl : SlS Ln.cells 4 w (.slice a m cap) ls) (hk : ¬ c.Ok) : Calls Try.prog 8 #[c.agg (.slice a n cap)] w fun e w' => e = .returned (.bool true) ∧ Ext w w' := by
  have hmf : ∀ (fn : Fn) (first cap : Array Value) (w : World), (Instr.makeFunc fn first cap).run Try.prog w = .ok (.func fn first cap) w := fun _ _ _ _ => rfl
  have HO := Lib.hid fun (z : World) => of_no c hk a m cap z
  have HF := Lib.hid hf
  clear hf hn hm hl hk
  obtain ⟨kd, ser, lim, cat, ry, rm, rd, bp, dy, dm, dd, ofs, ofn, ses⟩ := c
  simp only [Cm.agg] at HF HO ⊢
  go_enter Try.func8, Try.ntmps8
  go_wp2_with fail
  go_at_call 18
  refine (HF.out _).mono ?_
  rintro e x1 ⟨rfl, hx1⟩
  have T_x1 : Hid (Ext w x1) := Lib.hid (Ext.trans (Ext.alloc (Ext.refl _) _) hx1)
  have Dm_x1 := Lib.hid (ext_blk hx1 (new_blk w (.cells #[.int .i64 kd, .string ser, .int .i64 lim, .string cat, .int .i64 ry, .int .i64 rm, .int .i64 rd, .int .i64 bp, .int .i64 dy, .int .i64 dm, .int .i64 dd, .slice a n cap, .string ofs, .int .i64 ofn, .int .i64 ses] 37)))
  obtain ⟨cm_x1_0, fm_x1_0⟩ := blkG Dm_x1.out 0 (.int .i64 kd) rfl
  obtain ⟨cm_x1_1, fm_x1_1⟩ := blkG Dm_x1.out 1 (.string ser) rfl
  obtain ⟨cm_x1_2, fm_x1_2⟩ := blkG Dm_x1.out 2 (.int .i64 lim) rfl
  obtain ⟨cm_x1_3, fm_x1_3⟩ := blkG Dm_x1.out 3 (.string cat) rfl
  obtain ⟨cm_x1_4, fm_x1_4⟩ := blkG Dm_x1.out 4 (.int .i64 ry) rfl
  obtain ⟨cm_x1_5, fm_x1_5⟩ := blkG Dm_x1.out 5 (.int .i64 rm) rfl
  obtain ⟨cm_x1_6, fm_x1_6⟩ := blkG Dm_x1.out 6 (.int .i64 rd) rfl
  obtain ⟨cm_x1_7, fm_x1_7⟩ := blkG Dm_x1.out 7 (.int .i64 bp) rfl
  obtain ⟨cm_x1_8, fm_x1_8⟩ := blkG Dm_x1.out 8 (.int .i64 dy) rfl
  obtain ⟨cm_x1_9, fm_x1_9⟩ := blkG Dm_x1.out 9 (.int .i64 dm) rfl
  obtain ⟨cm_x1_10, fm_x1_10⟩ := blkG Dm_x1.out 10 (.int .i64 dd) rfl
  obtain ⟨cm_x1_11, fm_x1_11⟩ := blkG Dm_x1.out 11 (.slice a n cap) rfl
  obtain ⟨cm_x1_12, fm_x1_12⟩ := blkG Dm_x1.out 12 (.string ofs) rfl
  obtain ⟨cm_x1_13, fm_x1_13⟩ := blkG Dm_x1.out 13 (.int .i64 ofn) rfl
  obtain ⟨cm_x1_14, fm_x1_14⟩ := blkG Dm_x1.out 14 (.int .i64 ses) rfl
  have zm_x1 := blk_lt Dm_x1.out
  clear hx1
  go_wp2_with fail
  obtain ⟨x2, hq2⟩ : ∃ z, (((((((((((((((x1.setCell ⟨w.heap.size, 0, none⟩ (.int .i64 kd)).setCell ⟨w.heap.size, 1, none⟩ (.string ser)).setCell ⟨w.heap.size, 2, none⟩ (.int .i64 lim)).setCell ⟨w.heap.size, 3, none⟩ (.string cat)).setCell ⟨w.heap.size, 4, none⟩ (.int .i64 ry)).setCell ⟨w.heap.size, 5, none⟩ (.int .i64 rm)).setCell ⟨w.heap.size, 6, none⟩ (.int .i64 rd)).setCell ⟨w.heap.size, 7, none⟩ (.int .i64 bp)).setCell ⟨w.heap.size, 8, none⟩ (.int .i64 dy)).setCell ⟨w.heap.size, 9, none⟩ (.int .i64 dm)).setCell ⟨w.heap.size, 10, none⟩ (.int .i64 dd)).setCell ⟨w.heap.size, 11, none⟩ (.slice a m cap)).setCell ⟨w.heap.size, 12, none⟩ (.string ofs)).setCell ⟨w.heap.size, 13, none⟩ (.int .i64 ofn)).setCell ⟨w.heap.size, 14, none⟩ (.int .i64 ses)) = z := ⟨_, rfl⟩
  rw [hq2]
  have T_x2 : Hid (Ext w x2) := Lib.hid (by rw [← hq2]; exact set15_ext T_x1.out (by exact Nat.le_refl _))
  have Dm_x2 : Hid (x2.heap[w.heap.size]? = some (.cells #[.int .i64 kd, .string ser, .int .i64 lim, .string cat, .int .i64 ry, .int .i64 rm, .int .i64 rd, .int .i64 bp, .int .i64 dy, .int .i64 dm, .int .i64 dd, .slice a m cap, .string ofs, .int .i64 ofn, .int .i64 ses] 37 (0, 0))) := Lib.hid (by rw [← hq2]; exact set15_blk Dm_x1.out)
  clear hq2
  go_at_call 10
  refine (HO.out _).mono ?_
  rintro e x3 ⟨rfl, hx3⟩
  have T_x3 : Hid (Ext x2 x3) := Lib.hid (Ext.trans (Ext.refl _) hx3)
  have Dm_x3 := Lib.hid (ext_blk hx3 Dm_x2.out)
  clear hx3
  go_wp2_with fail
  go_at_call 14
  refine (mc_0 _ _ _ (alloc_blk (new_blk _ _))).mono ?_
  rintro e x4 ⟨rfl, hx4⟩
  have T_x4 : Hid (Ext x3 x4) := Lib.hid (Ext.trans (Ext.alloc (Ext.alloc (Ext.refl _) _) _) hx4)
  have Dm_x4 := Lib.hid (ext_blk hx4 (alloc_blk (alloc_blk Dm_x3.out)))
  have Dv_x4 := Lib.hid (ext_blk hx4 (alloc_blk (new_blk x3 (.cells #[.nilIface] 25))))
  have Dp_x4 := Lib.hid (ext_blk hx4 (show ((x3.alloc (.cells #[.nilIface] 25)).alloc (.cells #[.string ⟨#[]⟩, .int .i64 0, .int .i64 0, .int .i64 0, .slice none 0 0] 49)).heap[x3.heap.size + 1]? = some (.cells #[.string ⟨#[]⟩, .int .i64 0, .int .i64 0, .int .i64 0, .slice none 0 0] 49 (0, 0)) by have := new_blk (x3.alloc (.cells #[.nilIface] 25)) (.cells #[.string ⟨#[]⟩, .int .i64 0, .int .i64 0, .int .i64 0, .slice none 0 0] 49); simpa using this))
  clear hx4
  go_wp2_with fail
  go_at_call 3
  refine (cruns_any _).mono ?_
  rintro e x5 ⟨rfl, hx5⟩
  have T_x5 : Hid (Ext x4 x5) := Lib.hid (Ext.trans (Ext.alloc (Ext.refl _) _) hx5)
  have Dm_x5 := Lib.hid (ext_blk hx5 (alloc_blk Dm_x4.out))
  have Dv_x5 := Lib.hid (ext_blk hx5 (alloc_blk Dv_x4.out))
  have Dp_x5 := Lib.hid (ext_blk hx5 (alloc_blk Dp_x4.out))
  have Dq_x5 := Lib.hid (ext_blk hx5 (new_blk x4 (.cells #[.int .i64 4, .int .i64 0] 45)))
  clear hx5
  go_wp2_with fail
  go_ret
  exact ⟨rfl, (((T_x2.out.trans T_x3.out).trans T_x4.out).trans T_x5.out)⟩
set_option maxHeartbeats 4000000 in
set_option maxRecDepth 100000 in
theorem cmust_k (c : Cm) (a : Option Addr) (n m cap : Nat) (ls : List Ln) (hf : ∀ z, Calls Try.prog 18 #[c.agg (.slice a n cap)] z fun e w' => e = .returned (c.agg (.slice a m cap)) ∧ Ext z w') (hn : ls.length = m) (hm : m ≤ 30) (w : World) (hl : SlS Ln.cells 4 w (.slice a m cap) ls) (hk : c.Ok) (h4 : c.kd ≠ 4) : Calls Try.prog 8 #[c.agg (.slice a n cap)] w fun e w' => e = .returned (.bool true) ∧ Ext w w' := by
  have hmf : ∀ (fn : Fn) (first cap : Array Value) (w : World), (Instr.makeFunc fn first cap).run Try.prog w = .ok (.func fn first cap) w := fun _ _ _ _ => rfl
  have HO := Lib.hid fun (z : World) (hl : SlS Ln.cells 4 z (.slice a m cap) ls) => of_ok c hk a m cap ls hn (by omega) z hl
  have HC := Lib.hid fun (bv bp : Nat) (t : TypeId) (y : Value) (z : World) (hh : Held z (.iface t y) c (c.ls ls) (c.n m)) => mc_k bv bp t y c hk h4 (c.ls ls) (c.n m) z hh
  have e4 : (c.kd == 4) = false := by simp [h4]
  have HF := Lib.hid hf
  have HL := Lib.hid hl
  clear hf hn hm hl hk h4
  obtain ⟨kd, ser, lim, cat, ry, rm, rd, bp, dy, dm, dd, ofs, ofn, ses⟩ := c
  simp only [Cm.agg] at HF HO HC e4 ⊢
  go_enter Try.func8, Try.ntmps8
  go_wp2_with fail
  go_at_call 18
  refine (HF.out _).mono ?_
  rintro e x1 ⟨rfl, hx1⟩
  have T_x1 : Hid (Ext w x1) := Lib.hid (Ext.trans (Ext.alloc (Ext.refl _) _) hx1)
  have Dm_x1 := Lib.hid (ext_blk hx1 (new_blk w (.cells #[.int .i64 kd, .string ser, .int .i64 lim, .string cat, .int .i64 ry, .int .i64 rm, .int .i64 rd, .int .i64 bp, .int .i64 dy, .int .i64 dm, .int .i64 dd, .slice a n cap, .string ofs, .int .i64 ofn, .int .i64 ses] 37)))
  obtain ⟨cm_x1_0, fm_x1_0⟩ := blkG Dm_x1.out 0 (.int .i64 kd) rfl
  obtain ⟨cm_x1_1, fm_x1_1⟩ := blkG Dm_x1.out 1 (.string ser) rfl
  obtain ⟨cm_x1_2, fm_x1_2⟩ := blkG Dm_x1.out 2 (.int .i64 lim) rfl
  obtain ⟨cm_x1_3, fm_x1_3⟩ := blkG Dm_x1.out 3 (.string cat) rfl
  obtain ⟨cm_x1_4, fm_x1_4⟩ := blkG Dm_x1.out 4 (.int .i64 ry) rfl
  obtain ⟨cm_x1_5, fm_x1_5⟩ := blkG Dm_x1.out 5 (.int .i64 rm) rfl
  obtain ⟨cm_x1_6, fm_x1_6⟩ := blkG Dm_x1.out 6 (.int .i64 rd) rfl
  obtain ⟨cm_x1_7, fm_x1_7⟩ := blkG Dm_x1.out 7 (.int .i64 bp) rfl
  obtain ⟨cm_x1_8, fm_x1_8⟩ := blkG Dm_x1.out 8 (.int .i64 dy) rfl
  obtain ⟨cm_x1_9, fm_x1_9⟩ := blkG Dm_x1.out 9 (.int .i64 dm) rfl
  obtain ⟨cm_x1_10, fm_x1_10⟩ := blkG Dm_x1.out 10 (.int .i64 dd) rfl
  obtain ⟨cm_x1_11, fm_x1_11⟩ := blkG Dm_x1.out 11 (.slice a n cap) rfl
  obtain ⟨cm_x1_12, fm_x1_12⟩ := blkG Dm_x1.out 12 (.string ofs) rfl
  obtain ⟨cm_x1_13, fm_x1_13⟩ := blkG Dm_x1.out 13 (.int .i64 ofn) rfl
  obtain ⟨cm_x1_14, fm_x1_14⟩ := blkG Dm_x1.out 14 (.int .i64 ses) rfl
  have zm_x1 := blk_lt Dm_x1.out
  clear hx1
  go_wp2_with fail
  obtain ⟨x2, hq2⟩ : ∃ z, (((((((((((((((x1.setCell ⟨w.heap.size, 0, none⟩ (.int .i64 kd)).setCell ⟨w.heap.size, 1, none⟩ (.string ser)).setCell ⟨w.heap.size, 2, none⟩ (.int .i64 lim)).setCell ⟨w.heap.size, 3, none⟩ (.string cat)).setCell ⟨w.heap.size, 4, none⟩ (.int .i64 ry)).setCell ⟨w.heap.size, 5, none⟩ (.int .i64 rm)).setCell ⟨w.heap.size, 6, none⟩ (.int .i64 rd)).setCell ⟨w.heap.size, 7, none⟩ (.int .i64 bp)).setCell ⟨w.heap.size, 8, none⟩ (.int .i64 dy)).setCell ⟨w.heap.size, 9, none⟩ (.int .i64 dm)).setCell ⟨w.heap.size, 10, none⟩ (.int .i64 dd)).setCell ⟨w.heap.size, 11, none⟩ (.slice a m cap)).setCell ⟨w.heap.size, 12, none⟩ (.string ofs)).setCell ⟨w.heap.size, 13, none⟩ (.int .i64 ofn)).setCell ⟨w.heap.size, 14, none⟩ (.int .i64 ses)) = z := ⟨_, rfl⟩
  rw [hq2]
  have T_x2 : Hid (Ext w x2) := Lib.hid (by rw [← hq2]; exact set15_ext T_x1.out (by exact Nat.le_refl _))
  have Dm_x2 : Hid (x2.heap[w.heap.size]? = some (.cells #[.int .i64 kd, .string ser, .int .i64 lim, .string cat, .int .i64 ry, .int .i64 rm, .int .i64 rd, .int .i64 bp, .int .i64 dy, .int .i64 dm, .int .i64 dd, .slice a m cap, .string ofs, .int .i64 ofn, .int .i64 ses] 37 (0, 0))) := Lib.hid (by rw [← hq2]; exact set15_blk Dm_x1.out)
  clear hq2
  go_at_call 10
  refine (HO.out _ (HL.out.ext T_x2.out)).mono ?_
  rintro e x3 ⟨t, y, rfl, hh, hx3⟩
  have T_x3 : Hid (Ext x2 x3) := Lib.hid (Ext.trans (Ext.refl _) hx3)
  have Dm_x3 := Lib.hid (ext_blk hx3 Dm_x2.out)
  have HH := Lib.hid hh
  have st2 := store_new (x := x3) (t := t) (y := y) (T := 25)
  clear hh
  clear hx3
  go_wp2_with fail
  go_at_call 14
  refine (HC.out _ _ t y _ (HH.out.ext (Ext.alloc (Ext.alloc (Ext.refl _) _) _)) (alloc_blk (new_blk _ _))).mono ?_
  rintro e x4 ⟨rfl, hx4⟩
  have T_x4 : Hid (Ext x3 x4) := Lib.hid (Ext.trans (Ext.alloc (Ext.alloc (Ext.refl _) _) _) hx4)
  have Dm_x4 := Lib.hid (ext_blk hx4 (alloc_blk (alloc_blk Dm_x3.out)))
  have Dv_x4 := Lib.hid (ext_blk hx4 (alloc_blk (new_blk x3 (.cells #[.iface t y] 25))))
  have Dp_x4 := Lib.hid (ext_blk hx4 (show ((x3.alloc (.cells #[.iface t y] 25)).alloc (.cells #[.string ⟨#[]⟩, .int .i64 0, .int .i64 0, .int .i64 0, .slice none 0 0] 49)).heap[x3.heap.size + 1]? = some (.cells #[.string ⟨#[]⟩, .int .i64 0, .int .i64 0, .int .i64 0, .slice none 0 0] 49 (0, 0)) by have := new_blk (x3.alloc (.cells #[.iface t y] 25)) (.cells #[.string ⟨#[]⟩, .int .i64 0, .int .i64 0, .int .i64 0, .slice none 0 0] 49); simpa using this))
  obtain ⟨cm_x4_0, fm_x4_0⟩ := blkG Dm_x4.out 0 (.int .i64 kd) rfl
  obtain ⟨cm_x4_1, fm_x4_1⟩ := blkG Dm_x4.out 1 (.string ser) rfl
  obtain ⟨cm_x4_2, fm_x4_2⟩ := blkG Dm_x4.out 2 (.int .i64 lim) rfl
  obtain ⟨cm_x4_3, fm_x4_3⟩ := blkG Dm_x4.out 3 (.string cat) rfl
  obtain ⟨cm_x4_4, fm_x4_4⟩ := blkG Dm_x4.out 4 (.int .i64 ry) rfl
  obtain ⟨cm_x4_5, fm_x4_5⟩ := blkG Dm_x4.out 5 (.int .i64 rm) rfl
  obtain ⟨cm_x4_6, fm_x4_6⟩ := blkG Dm_x4.out 6 (.int .i64 rd) rfl
  obtain ⟨cm_x4_7, fm_x4_7⟩ := blkG Dm_x4.out 7 (.int .i64 bp) rfl
  obtain ⟨cm_x4_8, fm_x4_8⟩ := blkG Dm_x4.out 8 (.int .i64 dy) rfl
  obtain ⟨cm_x4_9, fm_x4_9⟩ := blkG Dm_x4.out 9 (.int .i64 dm) rfl
  obtain ⟨cm_x4_10, fm_x4_10⟩ := blkG Dm_x4.out 10 (.int .i64 dd) rfl
  obtain ⟨cm_x4_11, fm_x4_11⟩ := blkG Dm_x4.out 11 (.slice a m cap) rfl
  obtain ⟨cm_x4_12, fm_x4_12⟩ := blkG Dm_x4.out 12 (.string ofs) rfl
  obtain ⟨cm_x4_13, fm_x4_13⟩ := blkG Dm_x4.out 13 (.int .i64 ofn) rfl
  obtain ⟨cm_x4_14, fm_x4_14⟩ := blkG Dm_x4.out 14 (.int .i64 ses) rfl
  have zm_x4 := blk_lt Dm_x4.out
  clear st2
  clear hx4
  go_wp2_with fail
  go_at_call 3
  refine (cruns_any _).mono ?_
  rintro e x5 ⟨rfl, hx5⟩
  have T_x5 : Hid (Ext x4 x5) := Lib.hid (Ext.trans (Ext.alloc (Ext.refl _) _) hx5)
  have Dm_x5 := Lib.hid (ext_blk hx5 (alloc_blk Dm_x4.out))
  have Dv_x5 := Lib.hid (ext_blk hx5 (alloc_blk Dv_x4.out))
  have Dp_x5 := Lib.hid (ext_blk hx5 (alloc_blk Dp_x4.out))
  have Dq_x5 := Lib.hid (ext_blk hx5 (new_blk x4 (.cells #[.int .i64 4, .int .i64 kd] 45)))
  clear hx5
  go_wp2_with fail
  go_ret
  exact ⟨rfl, (((T_x2.out.trans T_x3.out).trans T_x4.out).trans T_x5.out)⟩
set_option maxHeartbeats 4000000 in
set_option maxRecDepth 100000 in
theorem cmust_4 (c : Cm) (a : Option Addr) (n m cap : Nat) (ls : List Ln) (hf : ∀ z, Calls Try.prog 18 #[c.agg (.slice a n cap)] z fun e w' => e = .returned (c.agg (.slice a m cap)) ∧ Ext z w') (hn : ls.length = m) (hm : m ≤ 30) (w : World) (hl : SlS Ln.cells 4 w (.slice a m cap) ls) (hk : c.Ok) (h4 : c.kd = 4) : Calls Try.prog 8 #[c.agg (.slice a n cap)] w fun e w' => e = .returned (.bool true) ∧ Ext w w' := by
  have hmf : ∀ (fn : Fn) (first cap : Array Value) (w : World), (Instr.makeFunc fn first cap).run Try.prog w = .ok (.func fn first cap) w := fun _ _ _ _ => rfl
  have HO := Lib.hid fun (z : World) (hl : SlS Ln.cells 4 z (.slice a m cap) ls) => of_ok c hk a m cap ls hn (by omega) z hl
  have hcl : c.ls ls = ls := by unfold Cm.ls; rw [if_pos h4]
  have hcn : c.n m = m := by unfold Cm.n; rw [if_pos h4]
  rw [hcl, hcn] at HO
  have HC := Lib.hid fun (bv bp : Nat) (t : TypeId) (y : Value) (z : World) (hh : Held z (.iface t y) c ls m) => mc_4 bv bp t y c h4 ls m z hh
  have HS := Lib.hid fun (a1 a2 : Option Addr) (c1 c2 : Nat) (z : World) (h1 : SlS Ln.cells 4 z (.slice a1 m c1) ls) (h2 : SlS Ln.cells 4 z (.slice a2 m c2) ls) => sameLn (.slice a1 m c1) (.slice a2 m c2) ls ls true (by simp) z h1 h2 (by omega) (by omega)
  have HF := Lib.hid hf
  have HL := Lib.hid hl
  clear hf hn hm hl hk hcl hcn
  obtain ⟨kd, ser, lim, cat, ry, rm, rd, bp, dy, dm, dd, ofs, ofn, ses⟩ := c
  simp only at h4
  subst h4
  simp only [Cm.agg] at HF HO HC ⊢
  go_enter Try.func8, Try.ntmps8
  go_wp2_with fail
  go_at_call 18
  refine (HF.out _).mono ?_
  rintro e x1 ⟨rfl, hx1⟩
  have T_x1 : Hid (Ext w x1) := Lib.hid (Ext.trans (Ext.alloc (Ext.refl _) _) hx1)
  have Dm_x1 := Lib.hid (ext_blk hx1 (new_blk w (.cells #[.int .i64 4, .string ser, .int .i64 lim, .string cat, .int .i64 ry, .int .i64 rm, .int .i64 rd, .int .i64 bp, .int .i64 dy, .int .i64 dm, .int .i64 dd, .slice a n cap, .string ofs, .int .i64 ofn, .int .i64 ses] 37)))
  obtain ⟨cm_x1_0, fm_x1_0⟩ := blkG Dm_x1.out 0 (.int .i64 4) rfl
  obtain ⟨cm_x1_1, fm_x1_1⟩ := blkG Dm_x1.out 1 (.string ser) rfl
  obtain ⟨cm_x1_2, fm_x1_2⟩ := blkG Dm_x1.out 2 (.int .i64 lim) rfl
  obtain ⟨cm_x1_3, fm_x1_3⟩ := blkG Dm_x1.out 3 (.string cat) rfl
  obtain ⟨cm_x1_4, fm_x1_4⟩ := blkG Dm_x1.out 4 (.int .i64 ry) rfl
  obtain ⟨cm_x1_5, fm_x1_5⟩ := blkG Dm_x1.out 5 (.int .i64 rm) rfl
  obtain ⟨cm_x1_6, fm_x1_6⟩ := blkG Dm_x1.out 6 (.int .i64 rd) rfl
  obtain ⟨cm_x1_7, fm_x1_7⟩ := blkG Dm_x1.out 7 (.int .i64 bp) rfl
  obtain ⟨cm_x1_8, fm_x1_8⟩ := blkG Dm_x1.out 8 (.int .i64 dy) rfl
  obtain ⟨cm_x1_9, fm_x1_9⟩ := blkG Dm_x1.out 9 (.int .i64 dm) rfl
  obtain ⟨cm_x1_10, fm_x1_10⟩ := blkG Dm_x1.out 10 (.int .i64 dd) rfl
  obtain ⟨cm_x1_11, fm_x1_11⟩ := blkG Dm_x1.out 11 (.slice a n cap) rfl
  obtain ⟨cm_x1_12, fm_x1_12⟩ := blkG Dm_x1.out 12 (.string ofs) rfl
  obtain ⟨cm_x1_13, fm_x1_13⟩ := blkG Dm_x1.out 13 (.int .i64 ofn) rfl
  obtain ⟨cm_x1_14, fm_x1_14⟩ := blkG Dm_x1.out 14 (.int .i64 ses) rfl
  have zm_x1 := blk_lt Dm_x1.out
  clear hx1
  go_wp2_with fail
  obtain ⟨x2, hq2⟩ : ∃ z, (((((((((((((((x1.setCell ⟨w.heap.size, 0, none⟩ (.int .i64 4)).setCell ⟨w.heap.size, 1, none⟩ (.string ser)).setCell ⟨w.heap.size, 2, none⟩ (.int .i64 lim)).setCell ⟨w.heap.size, 3, none⟩ (.string cat)).setCell ⟨w.heap.size, 4, none⟩ (.int .i64 ry)).setCell ⟨w.heap.size, 5, none⟩ (.int .i64 rm)).setCell ⟨w.heap.size, 6, none⟩ (.int .i64 rd)).setCell ⟨w.heap.size, 7, none⟩ (.int .i64 bp)).setCell ⟨w.heap.size, 8, none⟩ (.int .i64 dy)).setCell ⟨w.heap.size, 9, none⟩ (.int .i64 dm)).setCell ⟨w.heap.size, 10, none⟩ (.int .i64 dd)).setCell ⟨w.heap.size, 11, none⟩ (.slice a m cap)).setCell ⟨w.heap.size, 12, none⟩ (.string ofs)).setCell ⟨w.heap.size, 13, none⟩ (.int .i64 ofn)).setCell ⟨w.heap.size, 14, none⟩ (.int .i64 ses)) = z := ⟨_, rfl⟩
  rw [hq2]
  have T_x2 : Hid (Ext w x2) := Lib.hid (by rw [← hq2]; exact set15_ext T_x1.out (by exact Nat.le_refl _))
  have Dm_x2 : Hid (x2.heap[w.heap.size]? = some (.cells #[.int .i64 4, .string ser, .int .i64 lim, .string cat, .int .i64 ry, .int .i64 rm, .int .i64 rd, .int .i64 bp, .int .i64 dy, .int .i64 dm, .int .i64 dd, .slice a m cap, .string ofs, .int .i64 ofn, .int .i64 ses] 37 (0, 0))) := Lib.hid (by rw [← hq2]; exact set15_blk Dm_x1.out)
  clear hq2
  go_at_call 10
  refine (HO.out _ (HL.out.ext T_x2.out)).mono ?_
  rintro e x3 ⟨t, y, rfl, hh, hx3⟩
  have T_x3 : Hid (Ext x2 x3) := Lib.hid (Ext.trans (Ext.refl _) hx3)
  have Dm_x3 := Lib.hid (ext_blk hx3 Dm_x2.out)
  have HH := Lib.hid hh
  have st2 := store_new (x := x3) (t := t) (y := y) (T := 25)
  clear hh
  clear hx3
  go_wp2_with fail
  go_at_call 14
  refine (HC.out _ (x3.heap.size + 1) t y _ (HH.out.ext (Ext.alloc (Ext.alloc (Ext.refl _) _) _)) (alloc_blk (new_blk _ _)) (show ((x3.alloc (.cells #[.iface t y] 25)).alloc (.cells #[.string ⟨#[]⟩, .int .i64 0, .int .i64 0, .int .i64 0, .slice none 0 0] 49)).heap[x3.heap.size + 1]? = _ by have := new_blk (x3.alloc (.cells #[.iface t y] 25)) (.cells #[.string ⟨#[]⟩, .int .i64 0, .int .i64 0, .int .i64 0, .slice none 0 0] 49); simpa using this)).mono ?_
  rintro e x4 ⟨a', c', rfl, hk4, hp', hs'⟩
  have T_x4 : Hid (Ext w x4) := Lib.hid (Ext.keep (Ext.alloc (Ext.alloc (T_x2.out.trans T_x3.out) _) _) hk4 (by have := ((T_x2.out.trans T_x3.out) : Ext w x3).size; omega))
  have Dm_x4 := Lib.hid (keep_blk hk4 (alloc_blk (alloc_blk Dm_x3.out)) (by have h1 := blk_lt Dm_x3.out; first | omega | (simp; done)))
  have Dv_x4 := Lib.hid (keep_blk hk4 (alloc_blk (new_blk x3 (.cells #[.iface t y] 25))) (by have h1 := ((Ext.refl _) : Ext x3 x3).size; first | omega | (simp; done)))
  have Dp_x4 := Lib.hid hp'
  obtain ⟨cm_x4_0, fm_x4_0⟩ := blkG Dm_x4.out 0 (.int .i64 4) rfl
  obtain ⟨cm_x4_1, fm_x4_1⟩ := blkG Dm_x4.out 1 (.string ser) rfl
  obtain ⟨cm_x4_2, fm_x4_2⟩ := blkG Dm_x4.out 2 (.int .i64 lim) rfl
  obtain ⟨cm_x4_3, fm_x4_3⟩ := blkG Dm_x4.out 3 (.string cat) rfl
  obtain ⟨cm_x4_4, fm_x4_4⟩ := blkG Dm_x4.out 4 (.int .i64 ry) rfl
  obtain ⟨cm_x4_5, fm_x4_5⟩ := blkG Dm_x4.out 5 (.int .i64 rm) rfl
  obtain ⟨cm_x4_6, fm_x4_6⟩ := blkG Dm_x4.out 6 (.int .i64 rd) rfl
  obtain ⟨cm_x4_7, fm_x4_7⟩ := blkG Dm_x4.out 7 (.int .i64 bp) rfl
  obtain ⟨cm_x4_8, fm_x4_8⟩ := blkG Dm_x4.out 8 (.int .i64 dy) rfl
  obtain ⟨cm_x4_9, fm_x4_9⟩ := blkG Dm_x4.out 9 (.int .i64 dm) rfl
  obtain ⟨cm_x4_10, fm_x4_10⟩ := blkG Dm_x4.out 10 (.int .i64 dd) rfl
  obtain ⟨cm_x4_11, fm_x4_11⟩ := blkG Dm_x4.out 11 (.slice a m cap) rfl
  obtain ⟨cm_x4_12, fm_x4_12⟩ := blkG Dm_x4.out 12 (.string ofs) rfl
  obtain ⟨cm_x4_13, fm_x4_13⟩ := blkG Dm_x4.out 13 (.int .i64 ofn) rfl
  obtain ⟨cm_x4_14, fm_x4_14⟩ := blkG Dm_x4.out 14 (.int .i64 ses) rfl
  have zm_x4 := blk_lt Dm_x4.out
  obtain ⟨cp_x4_0, fp_x4_0⟩ := blkG Dp_x4.out 0 (.string ser) rfl
  obtain ⟨cp_x4_1, fp_x4_1⟩ := blkG Dp_x4.out 1 (.int .i64 dy) rfl
  obtain ⟨cp_x4_2, fp_x4_2⟩ := blkG Dp_x4.out 2 (.int .i64 dm) rfl
  obtain ⟨cp_x4_3, fp_x4_3⟩ := blkG Dp_x4.out 3 (.int .i64 dd) rfl
  obtain ⟨cp_x4_4, fp_x4_4⟩ := blkG Dp_x4.out 4 (.slice a' m c') rfl
  have zp_x4 := blk_lt Dp_x4.out
  have HS4 := Lib.hid hs'
  clear hp' hs' st2
  clear hk4
  go_wp2_with fail
  go_at_call 30
  refine (HS.out _ _ _ _ _ (HS4.out.ext (Ext.alloc (Ext.refl _) _)) (HL.out.ext (Ext.alloc T_x4.out _))).mono ?_
  rintro e x5 ⟨rfl, hx5⟩
  have T_x5 : Hid (Ext x4 x5) := Lib.hid (Ext.trans (Ext.alloc (Ext.refl _) _) hx5)
  have Dm_x5 := Lib.hid (ext_blk hx5 (alloc_blk Dm_x4.out))
  have Dv_x5 := Lib.hid (ext_blk hx5 (alloc_blk Dv_x4.out))
  have Dp_x5 := Lib.hid (ext_blk hx5 (alloc_blk Dp_x4.out))
  have Dq_x5 := Lib.hid (ext_blk hx5 (new_blk x4 (.cells #[.int .i64 0, .int .i64 0] 45)))
  clear hx5
  go_wp2_with fail
  go_at_call 3
  refine (cruns_any _).mono ?_
  rintro e x6 ⟨rfl, hx6⟩
  have T_x6 : Hid (Ext x5 x6) := Lib.hid (Ext.trans (Ext.refl _) hx6)
  have Dm_x6 := Lib.hid (ext_blk hx6 Dm_x5.out)
  have Dv_x6 := Lib.hid (ext_blk hx6 Dv_x5.out)
  have Dp_x6 := Lib.hid (ext_blk hx6 Dp_x5.out)
  have Dq_x6 := Lib.hid (ext_blk hx6 Dq_x5.out)
  clear hx6
  go_wp2_with fail
  go_ret
  exact ⟨rfl, ((T_x4.out.trans T_x5.out).trans T_x6.out)⟩
theorem cmust_any (c : Cm) (a : Option Addr) (n cap : Nat) (ls : List Ln) (hn : ls.length = n) (hc : n ≤ cap) (hz : LnIn ls) (w : World) (hl : SlS Ln.cells 4 w (.slice a n cap) ls) : Calls Try.prog 8 #[c.agg (.slice a n cap)] w fun e w' => e = .returned (.bool true) ∧ Ext w w' := by
  obtain ⟨m, ls', h1, h2, h3, h4, h5, h6⟩ := few_ex c a n cap ls hn hc hz w hl
  by_cases hk : c.Ok
  · by_cases hk4 : c.kd = 4
    · exact cmust_4 c a n m cap ls' h6 h1 h2 w h4 hk hk4
    · exact cmust_k c a n m cap ls' h6 h1 h2 w h4 hk hk4
  · exact cmust_no c a n m cap ls' h6 h1 h2 w h4 hk
end Go.Proofs.Yteenkbfmlnpmlaa
