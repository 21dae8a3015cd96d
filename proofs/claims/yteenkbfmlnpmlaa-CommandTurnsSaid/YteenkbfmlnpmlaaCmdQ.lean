/- Package command: MustPost; the law's caught: what a call panics with. (Written by genCmdQ.py.) -/
import Derived.Test.YteenkbfmlnpmlaaCmdD
import Derived.Recover
import Derived.Defers
import Derived.RegionTactic
import Derived.Deep.RegionHeld3
namespace Go.Proofs.Yteenkbfmlnpmlaa
open Go.RowKit

def wrongP (asked was : Int) : List PanicEntry := [{ v := .iface 45 (.agg #[.int .i64 asked, .int .i64 was]), recovered := false }]
set_option maxHeartbeats 2000000 in
theorem must_0 (w : World) : Calls Try.prog 16 #[.agg #[.nilIface]] w fun e w' => e = .panicked (wrongP 4 0) ∧ Ext w w' := by
  have q0 : ∀ w : World, (Instr.typeAssert (.nilIface) 23 91 true).run Try.prog w = .ok (.tuple #[.agg #[.string ⟨#[]⟩, .int .i64 0, .int .i64 0, .int .i64 0, .slice none 0 0], .bool false]) w := fun _ => by kernel_rfl
  have hX : Ext w (((w.alloc (.cells #[.nilIface] 25)).alloc (.cells #[.string ⟨#[]⟩, .int .i64 0, .int .i64 0, .int .i64 0, .slice none 0 0] 49)).alloc (.cells #[.string ⟨#[]⟩, .int .i64 0, .int .i64 0, .int .i64 0, .slice none 0 0] 91)) := (((Ext.refl w).alloc _).alloc _).alloc _
  go_enter Try.func16, Try.ntmps16
  go_wp2_with (go_at_call 21; refine (kind_0 _).mono ?_; rintro e x1 ⟨rfl, hx1⟩)
  exact ⟨rfl, rfl, hX.trans hx1⟩
set_option maxHeartbeats 2000000 in
theorem must_1 (lim : Int) (ser : ByteArray) (w : World) : Calls Try.prog 16 #[.agg #[.iface 85 (.agg #[.string ser, .int .i64 lim])]] w fun e w' => e = .panicked (wrongP 4 1) ∧ Ext w w' := by
  have q0 : ∀ w : World, (Instr.typeAssert (.iface 85 (.agg #[.string ser, .int .i64 lim])) 23 91 true).run Try.prog w = .ok (.tuple #[.agg #[.string ⟨#[]⟩, .int .i64 0, .int .i64 0, .int .i64 0, .slice none 0 0], .bool false]) w := fun _ => by kernel_rfl
  have hX : Ext w (((w.alloc (.cells #[.iface 85 (.agg #[.string ser, .int .i64 lim])] 25)).alloc (.cells #[.string ⟨#[]⟩, .int .i64 0, .int .i64 0, .int .i64 0, .slice none 0 0] 49)).alloc (.cells #[.string ⟨#[]⟩, .int .i64 0, .int .i64 0, .int .i64 0, .slice none 0 0] 91)) := (((Ext.refl w).alloc _).alloc _).alloc _
  go_enter Try.func16, Try.ntmps16
  go_wp2_with (go_at_call 21; refine (kind_1 lim ser _).mono ?_; rintro e x1 ⟨rfl, hx1⟩)
  exact ⟨rfl, rfl, hX.trans hx1⟩
set_option maxHeartbeats 2000000 in
theorem must_2 (ser : ByteArray) (w : World) : Calls Try.prog 16 #[.agg #[.iface 87 (.agg #[.string ser])]] w fun e w' => e = .panicked (wrongP 4 2) ∧ Ext w w' := by
  have q0 : ∀ w : World, (Instr.typeAssert (.iface 87 (.agg #[.string ser])) 23 91 true).run Try.prog w = .ok (.tuple #[.agg #[.string ⟨#[]⟩, .int .i64 0, .int .i64 0, .int .i64 0, .slice none 0 0], .bool false]) w := fun _ => by kernel_rfl
  have hX : Ext w (((w.alloc (.cells #[.iface 87 (.agg #[.string ser])] 25)).alloc (.cells #[.string ⟨#[]⟩, .int .i64 0, .int .i64 0, .int .i64 0, .slice none 0 0] 49)).alloc (.cells #[.string ⟨#[]⟩, .int .i64 0, .int .i64 0, .int .i64 0, .slice none 0 0] 91)) := (((Ext.refl w).alloc _).alloc _).alloc _
  go_enter Try.func16, Try.ntmps16
  go_wp2_with (go_at_call 21; refine (kind_2 ser _).mono ?_; rintro e x1 ⟨rfl, hx1⟩)
  exact ⟨rfl, rfl, hX.trans hx1⟩
set_option maxHeartbeats 2000000 in
theorem must_3 (ry rm rd bp : Int) (cat : ByteArray) (w : World) : Calls Try.prog 16 #[.agg #[.iface 89 (.agg #[.string cat, .int .i64 ry, .int .i64 rm, .int .i64 rd, .int .i64 bp])]] w fun e w' => e = .panicked (wrongP 4 3) ∧ Ext w w' := by
  have q0 : ∀ w : World, (Instr.typeAssert (.iface 89 (.agg #[.string cat, .int .i64 ry, .int .i64 rm, .int .i64 rd, .int .i64 bp])) 23 91 true).run Try.prog w = .ok (.tuple #[.agg #[.string ⟨#[]⟩, .int .i64 0, .int .i64 0, .int .i64 0, .slice none 0 0], .bool false]) w := fun _ => by kernel_rfl
  have hX : Ext w (((w.alloc (.cells #[.iface 89 (.agg #[.string cat, .int .i64 ry, .int .i64 rm, .int .i64 rd, .int .i64 bp])] 25)).alloc (.cells #[.string ⟨#[]⟩, .int .i64 0, .int .i64 0, .int .i64 0, .slice none 0 0] 49)).alloc (.cells #[.string ⟨#[]⟩, .int .i64 0, .int .i64 0, .int .i64 0, .slice none 0 0] 91)) := (((Ext.refl w).alloc _).alloc _).alloc _
  go_enter Try.func16, Try.ntmps16
  go_wp2_with (go_at_call 21; refine (kind_3 ry rm rd bp cat _).mono ?_; rintro e x1 ⟨rfl, hx1⟩)
  exact ⟨rfl, rfl, hX.trans hx1⟩
set_option maxHeartbeats 2000000 in
theorem must_5 (dy dm dd ofn : Int) (ser ofs : ByteArray) (w : World) : Calls Try.prog 16 #[.agg #[.iface 94 (.agg #[.string ser, .int .i64 dy, .int .i64 dm, .int .i64 dd, .string ofs, .int .i64 ofn])]] w fun e w' => e = .panicked (wrongP 4 5) ∧ Ext w w' := by
  have q0 : ∀ w : World, (Instr.typeAssert (.iface 94 (.agg #[.string ser, .int .i64 dy, .int .i64 dm, .int .i64 dd, .string ofs, .int .i64 ofn])) 23 91 true).run Try.prog w = .ok (.tuple #[.agg #[.string ⟨#[]⟩, .int .i64 0, .int .i64 0, .int .i64 0, .slice none 0 0], .bool false]) w := fun _ => by kernel_rfl
  have hX : Ext w (((w.alloc (.cells #[.iface 94 (.agg #[.string ser, .int .i64 dy, .int .i64 dm, .int .i64 dd, .string ofs, .int .i64 ofn])] 25)).alloc (.cells #[.string ⟨#[]⟩, .int .i64 0, .int .i64 0, .int .i64 0, .slice none 0 0] 49)).alloc (.cells #[.string ⟨#[]⟩, .int .i64 0, .int .i64 0, .int .i64 0, .slice none 0 0] 91)) := (((Ext.refl w).alloc _).alloc _).alloc _
  go_enter Try.func16, Try.ntmps16
  go_wp2_with (go_at_call 21; refine (kind_5 dy dm dd ofn ser ofs _).mono ?_; rintro e x1 ⟨rfl, hx1⟩)
  exact ⟨rfl, rfl, hX.trans hx1⟩
set_option maxHeartbeats 2000000 in
theorem must_6 (w : World) : Calls Try.prog 16 #[.agg #[.iface 111 (.agg #[])]] w fun e w' => e = .panicked (wrongP 4 6) ∧ Ext w w' := by
  have q0 : ∀ w : World, (Instr.typeAssert (.iface 111 (.agg #[])) 23 91 true).run Try.prog w = .ok (.tuple #[.agg #[.string ⟨#[]⟩, .int .i64 0, .int .i64 0, .int .i64 0, .slice none 0 0], .bool false]) w := fun _ => by kernel_rfl
  have hX : Ext w (((w.alloc (.cells #[.iface 111 (.agg #[])] 25)).alloc (.cells #[.string ⟨#[]⟩, .int .i64 0, .int .i64 0, .int .i64 0, .slice none 0 0] 49)).alloc (.cells #[.string ⟨#[]⟩, .int .i64 0, .int .i64 0, .int .i64 0, .slice none 0 0] 91)) := (((Ext.refl w).alloc _).alloc _).alloc _
  go_enter Try.func16, Try.ntmps16
  go_wp2_with (go_at_call 21; refine (kind_6 _).mono ?_; rintro e x1 ⟨rfl, hx1⟩)
  exact ⟨rfl, rfl, hX.trans hx1⟩
set_option maxHeartbeats 2000000 in
theorem must_7 (ses : Int) (w : World) : Calls Try.prog 16 #[.agg #[.iface 96 (.agg #[.int .i64 ses])]] w fun e w' => e = .panicked (wrongP 4 7) ∧ Ext w w' := by
  have q0 : ∀ w : World, (Instr.typeAssert (.iface 96 (.agg #[.int .i64 ses])) 23 91 true).run Try.prog w = .ok (.tuple #[.agg #[.string ⟨#[]⟩, .int .i64 0, .int .i64 0, .int .i64 0, .slice none 0 0], .bool false]) w := fun _ => by kernel_rfl
  have hX : Ext w (((w.alloc (.cells #[.iface 96 (.agg #[.int .i64 ses])] 25)).alloc (.cells #[.string ⟨#[]⟩, .int .i64 0, .int .i64 0, .int .i64 0, .slice none 0 0] 49)).alloc (.cells #[.string ⟨#[]⟩, .int .i64 0, .int .i64 0, .int .i64 0, .slice none 0 0] 91)) := (((Ext.refl w).alloc _).alloc _).alloc _
  go_enter Try.func16, Try.ntmps16
  go_wp2_with (go_at_call 21; refine (kind_7 ses _).mono ?_; rintro e x1 ⟨rfl, hx1⟩)
  exact ⟨rfl, rfl, hX.trans hx1⟩
set_option maxHeartbeats 2000000 in
theorem must_8 (ser : ByteArray) (w : World) : Calls Try.prog 16 #[.agg #[.iface 97 (.agg #[.string ser])]] w fun e w' => e = .panicked (wrongP 4 8) ∧ Ext w w' := by
  have q0 : ∀ w : World, (Instr.typeAssert (.iface 97 (.agg #[.string ser])) 23 91 true).run Try.prog w = .ok (.tuple #[.agg #[.string ⟨#[]⟩, .int .i64 0, .int .i64 0, .int .i64 0, .slice none 0 0], .bool false]) w := fun _ => by kernel_rfl
  have hX : Ext w (((w.alloc (.cells #[.iface 97 (.agg #[.string ser])] 25)).alloc (.cells #[.string ⟨#[]⟩, .int .i64 0, .int .i64 0, .int .i64 0, .slice none 0 0] 49)).alloc (.cells #[.string ⟨#[]⟩, .int .i64 0, .int .i64 0, .int .i64 0, .slice none 0 0] 91)) := (((Ext.refl w).alloc _).alloc _).alloc _
  go_enter Try.func16, Try.ntmps16
  go_wp2_with (go_at_call 21; refine (kind_8 ser _).mono ?_; rintro e x1 ⟨rfl, hx1⟩)
  exact ⟨rfl, rfl, hX.trans hx1⟩
set_option maxHeartbeats 4000000 in
set_option maxRecDepth 100000 in
theorem must_4 (dy dm dd : Int) (ser : ByteArray) (a : Option Addr) (n cap : Nat) (ls : List Ln) (hn : ls.length = n) (hm : n ≤ 1000000) (w : World) (hl : SlS Ln.cells 4 w (.slice a n cap) ls) : Calls Try.prog 16 #[.agg #[.iface 91 (.agg #[.string ser, .int .i64 dy, .int .i64 dm, .int .i64 dd, .slice a n cap])]] w fun e w' => ∃ a' c', e = .returned (.agg #[.string ser, .int .i64 dy, .int .i64 dm, .int .i64 dd, .slice a' n c']) ∧ OwnS Ln.cells 4 56 w' w.heap.size (.slice a' n c') ls ∧ Ext w w' := by
  have q0 : ∀ w : World, (Instr.typeAssert (.iface 91 (.agg #[.string ser, .int .i64 dy, .int .i64 dm, .int .i64 dd, .slice a n cap])) 23 91 true).run Try.prog w = .ok (.tuple #[.agg #[.string ser, .int .i64 dy, .int .i64 dm, .int .i64 dd, .slice a n cap], .bool true]) w := fun _ => by kernel_rfl
  have HL := Lib.hid fun z (hz : Ext w z) => lines_any a n cap ls hn hm z (hl.ext hz)
  have HM : Hid (∀ z : World, z.heap[w.heap.size + 1 + 1]? = some (.cells #[.string ser, .int .i64 dy, .int .i64 dm, .int .i64 dd, .slice a n cap] 91 (0, 0)) → z.cell? ⟨w.heap.size + 1 + 1, 0, none⟩ = some (.string ser) ∧ z.cell? ⟨w.heap.size + 1 + 1, 1, none⟩ = some (.int .i64 dy) ∧ z.cell? ⟨w.heap.size + 1 + 1, 2, none⟩ = some (.int .i64 dm) ∧ z.cell? ⟨w.heap.size + 1 + 1, 3, none⟩ = some (.int .i64 dd) ∧ z.cell? ⟨w.heap.size + 1 + 1, 4, none⟩ = some (.slice a n cap)) := Lib.hid fun z hb => ⟨(blkG hb 0 _ rfl).1, (blkG hb 1 _ rfl).1, (blkG hb 2 _ rfl).1, (blkG hb 3 _ rfl).1, (blkG hb 4 _ rfl).1⟩
  have HB0 : Hid ((((w.alloc (.cells #[.iface 91 (.agg #[.string ser, .int .i64 dy, .int .i64 dm, .int .i64 dd, .slice a n cap])] 25)).alloc (.cells #[.string ⟨#[]⟩, .int .i64 0, .int .i64 0, .int .i64 0, .slice none 0 0] 49)).alloc (.cells #[.string ser, .int .i64 dy, .int .i64 dm, .int .i64 dd, .slice a n cap] 91)).heap[w.heap.size + 1 + 1]? = some (.cells #[.string ser, .int .i64 dy, .int .i64 dm, .int .i64 dd, .slice a n cap] 91 (0, 0))) := Lib.hid (by have := new_blk ((w.alloc (.cells #[.iface 91 (.agg #[.string ser, .int .i64 dy, .int .i64 dm, .int .i64 dd, .slice a n cap])] 25)).alloc (.cells #[.string ⟨#[]⟩, .int .i64 0, .int .i64 0, .int .i64 0, .slice none 0 0] 49)) (.cells #[.string ser, .int .i64 dy, .int .i64 dm, .int .i64 dd, .slice a n cap] 91); simpa using this)
  have HB1 : Hid ((((w.alloc (.cells #[.iface 91 (.agg #[.string ser, .int .i64 dy, .int .i64 dm, .int .i64 dd, .slice a n cap])] 25)).alloc (.cells #[.string ⟨#[]⟩, .int .i64 0, .int .i64 0, .int .i64 0, .slice none 0 0] 49)).alloc (.cells #[.string ser, .int .i64 dy, .int .i64 dm, .int .i64 dd, .slice a n cap] 91)).heap[w.heap.size + 1]? = some (.cells #[.string ⟨#[]⟩, .int .i64 0, .int .i64 0, .int .i64 0, .slice none 0 0] 49 (0, 0))) := Lib.hid (alloc_blk (by have := new_blk (w.alloc (.cells #[.iface 91 (.agg #[.string ser, .int .i64 dy, .int .i64 dm, .int .i64 dd, .slice a n cap])] 25)) (.cells #[.string ⟨#[]⟩, .int .i64 0, .int .i64 0, .int .i64 0, .slice none 0 0] 49); simpa using this))
  have HX : Hid (Ext w (((w.alloc (.cells #[.iface 91 (.agg #[.string ser, .int .i64 dy, .int .i64 dm, .int .i64 dd, .slice a n cap])] 25)).alloc (.cells #[.string ⟨#[]⟩, .int .i64 0, .int .i64 0, .int .i64 0, .slice none 0 0] 49)).alloc (.cells #[.string ser, .int .i64 dy, .int .i64 dm, .int .i64 dd, .slice a n cap] 91))) := Lib.hid ((((Ext.refl w).alloc _).alloc _).alloc _)
  clear hl hn
  go_enter Try.func16, Try.ntmps16
  go_wp2
  go_region_held3 (fun z => z.cell? ⟨w.heap.size + 1 + 1, 0, none⟩ = some (.string ser) ∧ z.cell? ⟨w.heap.size + 1 + 1, 1, none⟩ = some (.int .i64 dy) ∧ z.cell? ⟨w.heap.size + 1 + 1, 2, none⟩ = some (.int .i64 dm) ∧ z.cell? ⟨w.heap.size + 1 + 1, 3, none⟩ = some (.int .i64 dd) ∧ z.cell? ⟨w.heap.size + 1 + 1, 4, none⟩ = some (.slice a n cap))
    ((refine HM.out _ ?_; repeat (first | with_reducible exact HX2.out | with_reducible refine set_blk ?_ (by omega) | with_reducible exact HB0.out | exact HB0.out)))
    ((go_at_call 39; (with_reducible refine (HL.out _ (by repeat (first | exact Ext.refl _ | assumption | refine Ext.trans ?_ (by assumption) | refine Ext.alloc ?_ _ | refine Ext.drew ?_ | refine Ext.drewN ?_ _))).mono ?_); rintro e x ⟨a2, c2, rfl, ho, hx⟩; have HX2 := Lib.hid (ext_blk hx HB0.out); have hx1 := ext_blk hx HB1.out; obtain ⟨r0, s0⟩ := blkG hx1 0 _ rfl; obtain ⟨r1, s1⟩ := blkG hx1 1 _ rfl; obtain ⟨r2, s2⟩ := blkG hx1 2 _ rfl; obtain ⟨r3, s3⟩ := blkG hx1 3 _ rfl; obtain ⟨r4, s4⟩ := blkG hx1 4 _ rfl; have zl := blk_lt hx1))
  have hB : w.heap.size + 1 < (((w.alloc (.cells #[.iface 91 (.agg #[.string ser, .int .i64 dy, .int .i64 dm, .int .i64 dd, .slice a n cap])] 25)).alloc (.cells #[.string ⟨#[]⟩, .int .i64 0, .int .i64 0, .int .i64 0, .slice none 0 0] 49)).alloc (.cells #[.string ser, .int .i64 dy, .int .i64 dm, .int .i64 dd, .slice a n cap] 91)).drew.heap.size := by simp
  have hE : Ext w x := HX.out.drew.trans hx
  have hO := Lib.hid (fun (xs : List Ln) (v : Value) (y : World) (o : Nat) (u : Value) (h : OwnS Ln.cells 4 56 y (((w.alloc (.cells #[.iface 91 (.agg #[.string ser, .int .i64 dy, .int .i64 dm, .int .i64 dd, .slice a n cap])] 25)).alloc (.cells #[.string ⟨#[]⟩, .int .i64 0, .int .i64 0, .int .i64 0, .slice none 0 0] 49)).alloc (.cells #[.string ser, .int .i64 dy, .int .i64 dm, .int .i64 dd, .slice a n cap] 91)).drew.heap.size v xs) => OwnS.setO (b := w.heap.size + 1) (o := o) (u := u) h fun a m c' he => Nat.ne_of_gt (Nat.lt_of_lt_of_le hB (own_blkE h a m c' he).2))
  have HO := Lib.hid ho
  have HE := Lib.hid hE
  have hle : w.heap.size ≤ w.heap.size + 1 := Nat.le_succ _
  have hBB : w.heap.size ≤ (((w.alloc (.cells #[.iface 91 (.agg #[.string ser, .int .i64 dy, .int .i64 dm, .int .i64 dd, .slice a n cap])] 25)).alloc (.cells #[.string ⟨#[]⟩, .int .i64 0, .int .i64 0, .int .i64 0, .slice none 0 0] 49)).alloc (.cells #[.string ser, .int .i64 dy, .int .i64 dm, .int .i64 dd, .slice a n cap] 91)).drew.heap.size := by simp; omega
  clear ho hx hE hx1 HB0 HB1 HX
  go_wp2
  refine bodyPost_ret (v := .agg #[.string ser, .int .i64 dy, .int .i64 dm, .int .i64 dd, .slice a2 n c2]) ?_ rfl ⟨a2, c2, rfl, OwnS.base ?_ hBB, ?_⟩
  · simp [results, Try.results16, go_sem, zl, r0, r1, r2, r3, r4]
  · repeat (first | with_reducible exact HO.out | with_reducible refine hO.out _ _ _ _ _ ?_)
  · repeat (first | with_reducible exact HE.out | with_reducible refine Ext.setCell ?_ hle _)
theorem catch_panicking (p q : Nat) (a c : Int) (x0 x1 : Int) (y : Bool) (older : List PanicEntry) (w : World) (h0 : w.cell? ⟨p, 0, none⟩ = some (.int .i64 x0)) (h1 : w.cell? ⟨p, 1, none⟩ = some (.int .i64 x1)) (h2 : w.cell? ⟨q, 0, none⟩ = some (.bool y)) (hpq : p ≠ q)
    (z0 : w.frozen? ⟨p, 0, none⟩ = false) (z1 : w.frozen? ⟨p, 1, none⟩ = false) (z2 : w.frozen? ⟨q, 0, none⟩ = false) :
    CallsD Try.prog 40 #[.pointer (some ⟨p, 0, none⟩), .pointer (some ⟨q, 0, none⟩)] (.panicking ({ v := .iface 45 (.agg #[.int .i64 a, .int .i64 c]), recovered := false } :: older)) w fun e u' w' =>
      e = .returned (.tuple #[]) ∧ u' = .panicking ({ v := .iface 45 (.agg #[.int .i64 a, .int .i64 c]), recovered := true } :: older) ∧ w' = ((w.setCell ⟨p, 0, none⟩ (.int .i64 a)).setCell ⟨p, 1, none⟩ (.int .i64 c)).setCell ⟨q, 0, none⟩ (.bool true) := by
  have qa : ∀ w : World, (Instr.typeAssert (.iface 45 (.agg #[.int .i64 a, .int .i64 c])) 20 45 true).run Try.prog w = .ok (.tuple #[.agg #[.int .i64 a, .int .i64 c], .bool true]) w := fun _ => by kernel_rfl
  refine callsD_of_wpS Try.func40 rfl fun c₀ cs hu => ?_
  apply wpS_region
  simp [wpOpsS, go_sem, recoverD, hu, Try.ntmps40, Exit.thenS, qa, h0, h1, h2, z0, z1, z2, hpq, Ne.symm hpq, bodyPostS, results, Try.results40]
theorem catch_idle (p q : Nat) (x0 x1 : Int) (y : Bool) (w : World) (h0 : w.cell? ⟨p, 0, none⟩ = some (.int .i64 x0)) (h1 : w.cell? ⟨p, 1, none⟩ = some (.int .i64 x1)) (h2 : w.cell? ⟨q, 0, none⟩ = some (.bool y)) (hpq : p ≠ q)
    (z0 : w.frozen? ⟨p, 0, none⟩ = false) (z1 : w.frozen? ⟨p, 1, none⟩ = false) (z2 : w.frozen? ⟨q, 0, none⟩ = false) :
    CallsD Try.prog 40 #[.pointer (some ⟨p, 0, none⟩), .pointer (some ⟨q, 0, none⟩)] .returning w fun e u' w' =>
      e = .returned (.tuple #[]) ∧ u' = .returning ∧ w' = ((w.setCell ⟨p, 0, none⟩ (.int .i64 0)).setCell ⟨p, 1, none⟩ (.int .i64 0)).setCell ⟨q, 0, none⟩ (.bool false) := by
  have qa : ∀ w : World, (Instr.typeAssert .nilIface 20 45 true).run Try.prog w = .ok (.tuple #[.agg #[.int .i64 0, .int .i64 0], .bool false]) w := fun _ => by kernel_rfl
  refine callsD_of_wpS Try.func40 rfl fun c₀ cs hu => ?_
  apply wpS_region
  simp [wpOpsS, go_sem, recoverD, hu, Try.ntmps40, Exit.thenS, qa, h0, h1, h2, z0, z1, z2, hpq, Ne.symm hpq, bodyPostS, results, Try.results40]
  cases c₀
  simp_all

theorem caught_keep (w : World) {x : World} (h : Ext ((w.alloc (.cells #[.int .i64 0, .int .i64 0] 45)).alloc (.cells #[.bool false] 4)) x) :
    x.cell? ⟨w.heap.size, 0, none⟩ = some (.int .i64 0) ∧ x.cell? ⟨w.heap.size, 1, none⟩ = some (.int .i64 0) ∧ x.cell? ⟨w.heap.size + 1, 0, none⟩ = some (.bool false) ∧
    x.frozen? ⟨w.heap.size, 0, none⟩ = false ∧ x.frozen? ⟨w.heap.size, 1, none⟩ = false ∧ x.frozen? ⟨w.heap.size + 1, 0, none⟩ = false ∧ w.heap.size < x.heap.size ∧ w.heap.size + 1 < x.heap.size ∧ Ext w x := by
  obtain ⟨hc, hf⟩ := Ext.bc h
  have hs := h.size
  refine ⟨?_, ?_, ?_, ?_, ?_, ?_, ?_, ?_, ?_⟩
  rotate_right 3
  · simp at hs; omega
  · simp at hs; omega
  · exact Ext.trans (((Ext.refl w).alloc _).alloc _) h
  all_goals first
    | (rw [hc _ _ (by simp <;> omega)]; simp [go_sem])
    | (rw [hf _ _ (by simp <;> omega)]; simp [go_sem])

theorem caught_panics (G : Nat) (cap : Array Value) (hcf : ∀ w, (callFunc G cap).run Try.prog w = .ok (.enter G cap) w) (a c : Int) (w : World) (hcl : ∀ w1, Ext w w1 → Calls Try.prog G cap w1 fun e w' => e = .panicked (wrongP a c) ∧ Ext w1 w') :
    Calls Try.prog 14 #[.func (.func G) #[] cap] w fun e w' => e = .returned (.tuple #[.agg #[.int .i64 a, .int .i64 c], .bool true]) ∧ Ext w w' := by
  have hmf : ∀ (fn : Fn) (first cap : Array Value) (w : World), (Instr.makeFunc fn first cap).run Try.prog w = .ok (.func fn first cap) w := fun _ _ _ _ => rfl
  go_enter_defers Try.func14, Try.ntmps14
  go_wp2_with (refine (hcl _ (by repeat (first | exact Ext.refl _ | assumption | refine Ext.trans ?_ (by assumption) | refine Ext.alloc ?_ _ | refine Ext.drew ?_ | refine Ext.drewN ?_ _))).mono ?_; rintro e x ⟨rfl, hx⟩; obtain ⟨r0, r1, r2, s0, s1, s2, z0, z1, hX⟩ := caught_keep w hx; clear hx)
  refine leaves_cons (f := 40) (args := #[.pointer (some ⟨w.heap.size, 0, none⟩), .pointer (some ⟨w.heap.size + 1, 0, none⟩)]) (by simp) (by simp [go_sem]) ?_
  refine (catch_panicking w.heap.size (w.heap.size + 1) a c _ _ _ [] _ r0 r1 r2 (by omega) s0 s1 s2).mono ?_
  rintro e u' w'' ⟨rfl, rfl, rfl⟩
  simp [Leaves, settle, results, Try.results14, go_sem, r0, r1, r2, z0, z1]
  repeat (first | with_reducible exact hX | with_reducible refine Ext.setCell ?_ (by simp) _)
theorem heap_drew (w : World) : w.drew.heap = w.heap := rfl
theorem frozen_of_block {w w' : World} {a : Addr} (h : w'.heap[a.block]? = w.heap[a.block]?) : w'.frozen? a = w.frozen? a := by
  unfold World.frozen?
  rw [h]
/-- A closure that ends, and turns one block at most: nothing was caught. -/
theorem caught_ends (G : Nat) (cap : Array Value) (hcf : ∀ w, (callFunc G cap).run Try.prog w = .ok (.enter G cap) w) (bx : Nat) (R : World → Prop) (w : World) (hbx : bx < w.heap.size) (hR : ∀ z z' : World, R z → (∀ k, k ≠ w.heap.size → k ≠ w.heap.size + 1 → z'.heap[k]? = z.heap[k]?) → R z')
    (hcl : Calls Try.prog G cap ((w.alloc (.cells #[.int .i64 0, .int .i64 0] 45)).alloc (.cells #[.bool false] 4)) fun e w' => e = .returned (.tuple #[]) ∧ KeepR bx ((w.alloc (.cells #[.int .i64 0, .int .i64 0] 45)).alloc (.cells #[.bool false] 4)) w' ∧ R w') :
    Calls Try.prog 14 #[.func (.func G) #[] cap] w fun e w' => e = .returned (.tuple #[.agg #[.int .i64 0, .int .i64 0], .bool false]) ∧ KeepR bx w w' ∧ R w' := by
  have hmf : ∀ (fn : Fn) (first cap : Array Value) (w : World), (Instr.makeFunc fn first cap).run Try.prog w = .ok (.func fn first cap) w := fun _ _ _ _ => rfl
  have keep : ∀ x, KeepR bx ((w.alloc (.cells #[.int .i64 0, .int .i64 0] 45)).alloc (.cells #[.bool false] 4)) x →
      x.cell? ⟨w.heap.size, 0, none⟩ = some (.int .i64 0) ∧ x.cell? ⟨w.heap.size, 1, none⟩ = some (.int .i64 0) ∧ x.cell? ⟨w.heap.size + 1, 0, none⟩ = some (.bool false) ∧
      x.frozen? ⟨w.heap.size, 0, none⟩ = false ∧ x.frozen? ⟨w.heap.size, 1, none⟩ = false ∧ x.frozen? ⟨w.heap.size + 1, 0, none⟩ = false ∧ w.heap.size < x.heap.size ∧ w.heap.size + 1 < x.heap.size ∧ KeepR bx w x := by
    intro x h
    have hs := h.size
    simp at hs
    have b0 := h.block w.heap.size (by simp <;> omega) (by omega)
    have b1 := h.block (w.heap.size + 1) (by simp) (by omega)
    refine ⟨?_, ?_, ?_, ?_, ?_, ?_, by omega, by omega, (KeepR.of_ext (((Ext.refl w).alloc _).alloc _)).trans h⟩
    · rw [World.cell?_of_block (a := ⟨w.heap.size, 0, none⟩) b0]; simp [go_sem]
    · rw [World.cell?_of_block (a := ⟨w.heap.size, 1, none⟩) b0]; simp [go_sem]
    · rw [World.cell?_of_block (a := ⟨w.heap.size + 1, 0, none⟩) b1]; simp [go_sem]
    · rw [frozen_of_block (a := ⟨w.heap.size, 0, none⟩) b0]; simp [go_sem]
    · rw [frozen_of_block (a := ⟨w.heap.size, 1, none⟩) b0]; simp [go_sem]
    · rw [frozen_of_block (a := ⟨w.heap.size + 1, 0, none⟩) b1]; simp [go_sem]
  have KEEP := Lib.hid keep
  have hX : Ext w ((w.alloc (.cells #[.int .i64 0, .int .i64 0] 45)).alloc (.cells #[.bool false] 4)) := ((Ext.refl w).alloc _).alloc _
  have HCL := Lib.hid hcl
  clear keep hcl
  go_enter_defers Try.func14, Try.ntmps14
  go_wp2_with (refine HCL.out.mono ?_; rintro e x ⟨rfl, hx, hxX⟩; obtain ⟨r0, r1, r2, s0, s1, s2, z0, z1, hK⟩ := KEEP.out _ hx; clear hx)
  have HXX := Lib.hid hxX
  clear hxX
  have hS : ∀ y : World, y = ((((x.setCell ⟨w.heap.size, 0, none⟩ (.int .i64 0)).setCell ⟨w.heap.size, 1, none⟩ (.int .i64 0)).setCell ⟨w.heap.size + 1, 0, none⟩ (.bool false)).drew) →
      y.cell? ⟨w.heap.size, 0, none⟩ = some (.int .i64 0) ∧ y.cell? ⟨w.heap.size, 1, none⟩ = some (.int .i64 0) ∧ y.cell? ⟨w.heap.size + 1, 0, none⟩ = some (.bool false) ∧
      y.frozen? ⟨w.heap.size, 0, none⟩ = false ∧ y.frozen? ⟨w.heap.size, 1, none⟩ = false ∧ y.frozen? ⟨w.heap.size + 1, 0, none⟩ = false ∧ w.heap.size < y.heap.size ∧ w.heap.size + 1 < y.heap.size ∧ KeepR bx w y ∧ R y := by
    rintro y rfl
    refine ⟨by simp [go_sem, r0, z0], by simp [go_sem, r1, z0], by simp [go_sem, r2, z1], by simp [go_sem, s0], by simp [go_sem, s1], by simp [go_sem, s2], by simp; omega, by simp; omega, ?_, ?_⟩
    · exact ⟨hK.os, hK.tape, hK.output, by simpa using hK.size, fun k hk hne => by
        rw [heap_drew, Below.heap_setCell _ _ _ _ (show k ≠ w.heap.size + 1 by omega), Below.heap_setCell _ _ _ _ (show k ≠ w.heap.size by omega), Below.heap_setCell _ _ _ _ (show k ≠ w.heap.size by omega)]
        exact hK.block k hk hne⟩
    · exact hR _ _ HXX.out fun k h1 h2 => by
        rw [heap_drew, Below.heap_setCell _ _ _ _ (show k ≠ w.heap.size + 1 from h2), Below.heap_setCell _ _ _ _ (show k ≠ w.heap.size from h1), Below.heap_setCell _ _ _ _ (show k ≠ w.heap.size from h1)]
  have HS := Lib.hid hS
  clear hS
  go_region
  go_wp2
  obtain ⟨y, hy⟩ : ∃ y : World, y = ((((x.setCell ⟨w.heap.size, 0, none⟩ (.int .i64 0)).setCell ⟨w.heap.size, 1, none⟩ (.int .i64 0)).setCell ⟨w.heap.size + 1, 0, none⟩ (.bool false)).drew) := ⟨_, rfl⟩
  rw [← hy]
  obtain ⟨r0, r1, r2, s0, s1, s2, z0, z1, hK, hX⟩ := HS.out y hy
  clear hy
  refine leaves_cons (f := 40) (args := #[.pointer (some ⟨w.heap.size, 0, none⟩), .pointer (some ⟨w.heap.size + 1, 0, none⟩)]) (by simp) (by simp [go_sem]) ?_
  refine (catch_idle w.heap.size (w.heap.size + 1) 0 0 false _ r0 r1 r2 (by omega) s0 s1 s2).mono ?_
  rintro e u' w'' ⟨rfl, rfl, rfl⟩
  have HX2 := Lib.hid hX
  clear hX HXX
  simp [Leaves, settle, results, Try.results14, go_sem, r0, r1, r2, z0, z1]
  refine ⟨⟨hK.os, hK.tape, hK.output, by simpa using hK.size, fun k hk hne => ?_⟩, ?_⟩
  · rw [Below.heap_setCell _ _ _ _ (show k ≠ w.heap.size + 1 by omega), Below.heap_setCell _ _ _ _ (show k ≠ w.heap.size by omega), Below.heap_setCell _ _ _ _ (show k ≠ w.heap.size by omega)]
    exact hK.block k hk hne
  · exact hR _ _ HX2.out fun k h1 h2 => by
      rw [Below.heap_setCell _ _ _ _ (show k ≠ w.heap.size + 1 from h2), Below.heap_setCell _ _ _ _ (show k ≠ w.heap.size from h1), Below.heap_setCell _ _ _ _ (show k ≠ w.heap.size from h1)]
end Go.Proofs.Yteenkbfmlnpmlaa
