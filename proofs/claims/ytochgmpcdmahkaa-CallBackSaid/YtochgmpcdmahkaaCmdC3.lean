/- Package command: Flat, some of the kinds. (Written by genCmdC.py.) -/
import Derived.Test.YtochgmpcdmahkaaCmdC
namespace Go.Proofs.Ytochgmpcdmahkaa
open Go.RowKit
section

set_option maxHeartbeats 8000000 in
set_option maxRecDepth 100000 in
theorem flat_4 (dy dm dd : Int) (ser : ByteArray) (a : Option Addr) (n cap : Nat) (ls : List Ln) (hn : ls.length = n) (hm : n ≤ 1000000) (w : World) (hl : SlS Ln.cells 4 w (.slice a n cap) ls) : Calls Try.prog 21 #[.agg #[.iface 96 (.agg #[.string ser, .int .i64 dy, .int .i64 dm, .int .i64 dd, .slice a n cap])]] w fun e w' => ∃ a' c', e = .returned (.tuple #[.agg #[.int .i64 4, .string ser, .int .i64 0, .string ⟨#[]⟩, .int .i64 0, .int .i64 0, .int .i64 0, .int .i64 0, .int .i64 dy, .int .i64 dm, .int .i64 dd, .slice a' n c', .string ⟨#[]⟩, .int .i64 0, .int .i64 0], .bool true]) ∧ OwnS Ln.cells 4 107 w' w.heap.size (.slice a' n c') ls ∧ Ext w w' := by
  have q0 : ∀ w : World, (Instr.typeAssert (.iface 96 (.agg #[.string ser, .int .i64 dy, .int .i64 dm, .int .i64 dd, .slice a n cap])) 50 88 true).run Try.prog w = .ok (.tuple #[.agg #[.string ⟨#[]⟩, .int .i64 0], .bool false]) w := fun _ => by kernel_rfl
  have q1 : ∀ w : World, (Instr.typeAssert (.iface 96 (.agg #[.string ser, .int .i64 dy, .int .i64 dm, .int .i64 dd, .slice a n cap])) 50 90 true).run Try.prog w = .ok (.tuple #[.agg #[.string ⟨#[]⟩], .bool false]) w := fun _ => by kernel_rfl
  have q2 : ∀ w : World, (Instr.typeAssert (.iface 96 (.agg #[.string ser, .int .i64 dy, .int .i64 dm, .int .i64 dd, .slice a n cap])) 50 92 true).run Try.prog w = .ok (.tuple #[.agg #[.string ⟨#[]⟩, .int .i64 0, .int .i64 0, .int .i64 0, .int .i64 0], .bool false]) w := fun _ => by kernel_rfl
  have q3 : ∀ w : World, (Instr.typeAssert (.iface 96 (.agg #[.string ser, .int .i64 dy, .int .i64 dm, .int .i64 dd, .slice a n cap])) 50 96 true).run Try.prog w = .ok (.tuple #[.agg #[.string ser, .int .i64 dy, .int .i64 dm, .int .i64 dd, .slice a n cap], .bool true]) w := fun _ => by kernel_rfl
  have HL := Lib.hid fun z (hz : Ext w z) => lines_any a n cap ls hn hm z (hl.ext hz)
  clear hl hn
  have HK := Lib.hid fun z => kind_4 dy dm dd ser a n cap z
  go_enter Try.func21, Try.ntmps21
  go_wp2_with (go_at_call 35; (with_reducible refine (HK.out _).mono ?_); rintro e x ⟨rfl, hx⟩; obtain ⟨c0, BZ, hz, hX⟩ := flat_keep w _ hx; have hz0 : w.heap.size < x.heap.size := (by omega); clear hx)
  have BT : ((x.alloc (.cells #[.int .i64 4, .string ⟨#[]⟩, .int .i64 0, .string ⟨#[]⟩, .int .i64 0, .int .i64 0, .int .i64 0, .int .i64 0, .int .i64 0, .int .i64 0, .int .i64 0, .slice none 0 0, .string ⟨#[]⟩, .int .i64 0, .int .i64 0] 33)).alloc (.cells #[.string ser, .int .i64 dy, .int .i64 dm, .int .i64 dd, .slice a n cap] 96)).heap[x.heap.size]? = some (.cells #[.int .i64 4, .string ⟨#[]⟩, .int .i64 0, .string ⟨#[]⟩, .int .i64 0, .int .i64 0, .int .i64 0, .int .i64 0, .int .i64 0, .int .i64 0, .int .i64 0, .slice none 0 0, .string ⟨#[]⟩, .int .i64 0, .int .i64 0] 33 (0, 0)) := alloc_blk (new_blk x _)
  have BP : ((x.alloc (.cells #[.int .i64 4, .string ⟨#[]⟩, .int .i64 0, .string ⟨#[]⟩, .int .i64 0, .int .i64 0, .int .i64 0, .int .i64 0, .int .i64 0, .int .i64 0, .int .i64 0, .slice none 0 0, .string ⟨#[]⟩, .int .i64 0, .int .i64 0] 33)).alloc (.cells #[.string ser, .int .i64 dy, .int .i64 dm, .int .i64 dd, .slice a n cap] 96)).heap[x.heap.size + 1]? = some (.cells #[.string ser, .int .i64 dy, .int .i64 dm, .int .i64 dd, .slice a n cap] 96 (0, 0)) := by simpa using new_blk (x.alloc (.cells #[.int .i64 4, .string ⟨#[]⟩, .int .i64 0, .string ⟨#[]⟩, .int .i64 0, .int .i64 0, .int .i64 0, .int .i64 0, .int .i64 0, .int .i64 0, .int .i64 0, .slice none 0 0, .string ⟨#[]⟩, .int .i64 0, .int .i64 0] 33)) (.cells #[.string ser, .int .i64 dy, .int .i64 dm, .int .i64 dd, .slice a n cap] 96)
  have BZ2 : ((x.alloc (.cells #[.int .i64 4, .string ⟨#[]⟩, .int .i64 0, .string ⟨#[]⟩, .int .i64 0, .int .i64 0, .int .i64 0, .int .i64 0, .int .i64 0, .int .i64 0, .int .i64 0, .slice none 0 0, .string ⟨#[]⟩, .int .i64 0, .int .i64 0] 33)).alloc (.cells #[.string ser, .int .i64 dy, .int .i64 dm, .int .i64 dd, .slice a n cap] 96)).heap[w.heap.size + 1]? = some (.cells #[.int .i64 0, .string ⟨#[]⟩, .int .i64 0, .string ⟨#[]⟩, .int .i64 0, .int .i64 0, .int .i64 0, .int .i64 0, .int .i64 0, .int .i64 0, .int .i64 0, .slice none 0 0, .string ⟨#[]⟩, .int .i64 0, .int .i64 0] 33 (0, 0)) := alloc_blk (alloc_blk BZ.out)
  have HXY : Hid (Ext x ((x.alloc (.cells #[.int .i64 4, .string ⟨#[]⟩, .int .i64 0, .string ⟨#[]⟩, .int .i64 0, .int .i64 0, .int .i64 0, .int .i64 0, .int .i64 0, .int .i64 0, .int .i64 0, .slice none 0 0, .string ⟨#[]⟩, .int .i64 0, .int .i64 0] 33)).alloc (.cells #[.string ser, .int .i64 dy, .int .i64 dm, .int .i64 dd, .slice a n cap] 96))) := Lib.hid (((Ext.refl x).alloc _).alloc _)
  have HX := Lib.hid hX
  clear c0 hX BZ HK
  generalize ((x.alloc (.cells #[.int .i64 4, .string ⟨#[]⟩, .int .i64 0, .string ⟨#[]⟩, .int .i64 0, .int .i64 0, .int .i64 0, .int .i64 0, .int .i64 0, .int .i64 0, .int .i64 0, .slice none 0 0, .string ⟨#[]⟩, .int .i64 0, .int .i64 0] 33)).alloc (.cells #[.string ser, .int .i64 dy, .int .i64 dm, .int .i64 dd, .slice a n cap] 96)) = Y at *
  obtain ⟨b0, _⟩ := blkG BP 0 (.string ser) rfl
  obtain ⟨b1, _⟩ := blkG BP 1 (.int .i64 dy) rfl
  obtain ⟨b2, _⟩ := blkG BP 2 (.int .i64 dm) rfl
  obtain ⟨b3, _⟩ := blkG BP 3 (.int .i64 dd) rfl
  obtain ⟨b4, _⟩ := blkG BP 4 (.slice a n cap) rfl
  have HT := Lib.hid BT
  have HP := Lib.hid BP
  have HZ := Lib.hid BZ2
  clear BT BP BZ2
  go_region_held3 (fun q => Ext x q ∧ q.cell? ⟨x.heap.size + 1, 0, none⟩ = some (.string ser) ∧ q.cell? ⟨x.heap.size + 1, 1, none⟩ = some (.int .i64 dy) ∧ q.cell? ⟨x.heap.size + 1, 2, none⟩ = some (.int .i64 dm) ∧ q.cell? ⟨x.heap.size + 1, 3, none⟩ = some (.int .i64 dd) ∧ q.cell? ⟨x.heap.size + 1, 4, none⟩ = some (.slice a n cap))
    ((refine ⟨(by repeat (first | with_reducible exact HXY.out | with_reducible exact hxz | with_reducible refine Ext.drew ?_ | with_reducible refine Ext.setCell ?_ (Nat.le_refl _) _)), (by first | with_reducible exact b0 | (simp [go_sem, b0]; done) | with_reducible exact e0 | simp [go_sem, e0]), (by first | with_reducible exact b1 | (simp [go_sem, b1]; done) | with_reducible exact e1 | simp [go_sem, e1]), (by first | with_reducible exact b2 | (simp [go_sem, b2]; done) | with_reducible exact e2 | simp [go_sem, e2]), (by first | with_reducible exact b3 | (simp [go_sem, b3]; done) | with_reducible exact e3 | simp [go_sem, e3]), (by first | with_reducible exact b4 | (simp [go_sem, b4]; done) | with_reducible exact e4 | simp [go_sem, e4])⟩))
    ((go_at_call 36; (with_reducible refine (HL.out _ (HX.out.trans HXY.out.drew)).mono ?_); rintro e z ⟨a2, c2, rfl, ho, hz⟩; have HO := Lib.hid ho; have hxz := Ext.trans HXY.out.drew hz; have HTz := Lib.hid (ext_blk hz (drew_blk HT.out)); have HPz := Lib.hid (ext_blk hz (drew_blk HP.out)); have HZz := Lib.hid (ext_blk hz (drew_blk HZ.out)); obtain ⟨e0, _⟩ := blkG HPz.out 0 (.string ser) rfl; obtain ⟨e1, _⟩ := blkG HPz.out 1 (.int .i64 dy) rfl; obtain ⟨e2, _⟩ := blkG HPz.out 2 (.int .i64 dm) rfl; obtain ⟨e3, _⟩ := blkG HPz.out 3 (.int .i64 dd) rfl; obtain ⟨e4, _⟩ := blkG HPz.out 4 (.slice a n cap) rfl; obtain ⟨t1, u1⟩ := blkG HTz.out 1 (.string ⟨#[]⟩) rfl; obtain ⟨t8, u8⟩ := blkG HTz.out 8 (.int .i64 0) rfl; obtain ⟨t9, u9⟩ := blkG HTz.out 9 (.int .i64 0) rfl; obtain ⟨t10, u10⟩ := blkG HTz.out 10 (.int .i64 0) rfl; obtain ⟨t11, u11⟩ := blkG HTz.out 11 (.slice none 0 0) rfl; have zxq := blk_lt HTz.out; clear ho hz))
  have g0 := heap_setCell_same _ _ 1 _ _ (.string ser) HTz.out
  rw [show (#[.int .i64 4, .string ⟨#[]⟩, .int .i64 0, .string ⟨#[]⟩, .int .i64 0, .int .i64 0, .int .i64 0, .int .i64 0, .int .i64 0, .int .i64 0, .int .i64 0, .slice none 0 0, .string ⟨#[]⟩, .int .i64 0, .int .i64 0] : Array Value).setIfInBounds 1 (.string ser) = #[.int .i64 4, .string ser, .int .i64 0, .string ⟨#[]⟩, .int .i64 0, .int .i64 0, .int .i64 0, .int .i64 0, .int .i64 0, .int .i64 0, .int .i64 0, .slice none 0 0, .string ⟨#[]⟩, .int .i64 0, .int .i64 0] from rfl] at g0
  have g1 := heap_setCell_same _ _ 8 _ _ (.int .i64 dy) g0
  rw [show (#[.int .i64 4, .string ser, .int .i64 0, .string ⟨#[]⟩, .int .i64 0, .int .i64 0, .int .i64 0, .int .i64 0, .int .i64 0, .int .i64 0, .int .i64 0, .slice none 0 0, .string ⟨#[]⟩, .int .i64 0, .int .i64 0] : Array Value).setIfInBounds 8 (.int .i64 dy) = #[.int .i64 4, .string ser, .int .i64 0, .string ⟨#[]⟩, .int .i64 0, .int .i64 0, .int .i64 0, .int .i64 0, .int .i64 dy, .int .i64 0, .int .i64 0, .slice none 0 0, .string ⟨#[]⟩, .int .i64 0, .int .i64 0] from rfl] at g1
  have g2 := heap_setCell_same _ _ 9 _ _ (.int .i64 dm) g1
  rw [show (#[.int .i64 4, .string ser, .int .i64 0, .string ⟨#[]⟩, .int .i64 0, .int .i64 0, .int .i64 0, .int .i64 0, .int .i64 dy, .int .i64 0, .int .i64 0, .slice none 0 0, .string ⟨#[]⟩, .int .i64 0, .int .i64 0] : Array Value).setIfInBounds 9 (.int .i64 dm) = #[.int .i64 4, .string ser, .int .i64 0, .string ⟨#[]⟩, .int .i64 0, .int .i64 0, .int .i64 0, .int .i64 0, .int .i64 dy, .int .i64 dm, .int .i64 0, .slice none 0 0, .string ⟨#[]⟩, .int .i64 0, .int .i64 0] from rfl] at g2
  have g3 := heap_setCell_same _ _ 10 _ _ (.int .i64 dd) g2
  rw [show (#[.int .i64 4, .string ser, .int .i64 0, .string ⟨#[]⟩, .int .i64 0, .int .i64 0, .int .i64 0, .int .i64 0, .int .i64 dy, .int .i64 dm, .int .i64 0, .slice none 0 0, .string ⟨#[]⟩, .int .i64 0, .int .i64 0] : Array Value).setIfInBounds 10 (.int .i64 dd) = #[.int .i64 4, .string ser, .int .i64 0, .string ⟨#[]⟩, .int .i64 0, .int .i64 0, .int .i64 0, .int .i64 0, .int .i64 dy, .int .i64 dm, .int .i64 dd, .slice none 0 0, .string ⟨#[]⟩, .int .i64 0, .int .i64 0] from rfl] at g3
  have g4 := heap_setCell_same _ _ 11 _ _ (.slice a2 n c2) g3
  rw [show (#[.int .i64 4, .string ser, .int .i64 0, .string ⟨#[]⟩, .int .i64 0, .int .i64 0, .int .i64 0, .int .i64 0, .int .i64 dy, .int .i64 dm, .int .i64 dd, .slice none 0 0, .string ⟨#[]⟩, .int .i64 0, .int .i64 0] : Array Value).setIfInBounds 11 (.slice a2 n c2) = #[.int .i64 4, .string ser, .int .i64 0, .string ⟨#[]⟩, .int .i64 0, .int .i64 0, .int .i64 0, .int .i64 0, .int .i64 dy, .int .i64 dm, .int .i64 dd, .slice a2 n c2, .string ⟨#[]⟩, .int .i64 0, .int .i64 0] from rfl] at g4
  have hne : w.heap.size + 1 ≠ x.heap.size := by omega
  have hsz : x.heap.size + 1 < Y.heap.size := blk_lt HP.out
  have BZ2 : (((((z.setCell ⟨x.heap.size, 1, none⟩ (.string ser)).setCell ⟨x.heap.size, 8, none⟩ (.int .i64 dy)).setCell ⟨x.heap.size, 9, none⟩ (.int .i64 dm)).setCell ⟨x.heap.size, 10, none⟩ (.int .i64 dd)).setCell ⟨x.heap.size, 11, none⟩ (.slice a2 n c2)).heap[w.heap.size + 1]? = some (.cells #[.int .i64 0, .string ⟨#[]⟩, .int .i64 0, .string ⟨#[]⟩, .int .i64 0, .int .i64 0, .int .i64 0, .int .i64 0, .int .i64 0, .int .i64 0, .int .i64 0, .slice none 0 0, .string ⟨#[]⟩, .int .i64 0, .int .i64 0] 33 (0, 0)) := set_blk (set_blk (set_blk (set_blk (set_blk HZz.out hne) hne) hne) hne) hne
  have HXZ : Hid (Ext w (((((z.setCell ⟨x.heap.size, 1, none⟩ (.string ser)).setCell ⟨x.heap.size, 8, none⟩ (.int .i64 dy)).setCell ⟨x.heap.size, 9, none⟩ (.int .i64 dm)).setCell ⟨x.heap.size, 10, none⟩ (.int .i64 dd)).setCell ⟨x.heap.size, 11, none⟩ (.slice a2 n c2))) := Lib.hid (by repeat (first | with_reducible exact HX.out.trans hxz | with_reducible refine Ext.setCell ?_ (Nat.le_of_lt hz0) _))
  have HO2 : Hid (OwnS Ln.cells 4 107 (((((z.setCell ⟨x.heap.size, 1, none⟩ (.string ser)).setCell ⟨x.heap.size, 8, none⟩ (.int .i64 dy)).setCell ⟨x.heap.size, 9, none⟩ (.int .i64 dm)).setCell ⟨x.heap.size, 10, none⟩ (.int .i64 dd)).setCell ⟨x.heap.size, 11, none⟩ (.slice a2 n c2)) (x.heap.size + 1) (.slice a2 n c2) ls) := Lib.hid (by
    have hb : ∀ a m c', Value.slice a2 n c2 = .slice (some a) m c' → a.block ≠ x.heap.size := fun a m c' he => Nat.ne_of_gt (Nat.lt_of_lt_of_le (Nat.lt_of_succ_lt hsz) (own_blkE HO.out a m c' he).2)
    exact OwnS.base (OwnS.setO (OwnS.setO (OwnS.setO (OwnS.setO (OwnS.setO HO.out hb) hb) hb) hb) hb) (Nat.le_of_lt hsz))
  clear g0 g1 g2 g3 HTz HPz HZz HO hxz HXY HX HT HP HZ b0 b1 b2 b3 b4 e0 e1 e2 e3 e4 t1 t8 t9 t10 t11 u1 u8 u9 u10 u11
  generalize (((((z.setCell ⟨x.heap.size, 1, none⟩ (.string ser)).setCell ⟨x.heap.size, 8, none⟩ (.int .i64 dy)).setCell ⟨x.heap.size, 9, none⟩ (.int .i64 dm)).setCell ⟨x.heap.size, 10, none⟩ (.int .i64 dd)).setCell ⟨x.heap.size, 11, none⟩ (.slice a2 n c2)) = Q at *
  go_wp2
  obtain ⟨b0, _⟩ := blkG g4 0 (.int .i64 4) rfl
  obtain ⟨b1, _⟩ := blkG g4 1 (.string ser) rfl
  obtain ⟨b2, _⟩ := blkG g4 2 (.int .i64 0) rfl
  obtain ⟨b3, _⟩ := blkG g4 3 (.string ⟨#[]⟩) rfl
  obtain ⟨b4, _⟩ := blkG g4 4 (.int .i64 0) rfl
  obtain ⟨b5, _⟩ := blkG g4 5 (.int .i64 0) rfl
  obtain ⟨b6, _⟩ := blkG g4 6 (.int .i64 0) rfl
  obtain ⟨b7, _⟩ := blkG g4 7 (.int .i64 0) rfl
  obtain ⟨b8, _⟩ := blkG g4 8 (.int .i64 dy) rfl
  obtain ⟨b9, _⟩ := blkG g4 9 (.int .i64 dm) rfl
  obtain ⟨b10, _⟩ := blkG g4 10 (.int .i64 dd) rfl
  obtain ⟨b11, _⟩ := blkG g4 11 (.slice a2 n c2) rfl
  obtain ⟨b12, _⟩ := blkG g4 12 (.string ⟨#[]⟩) rfl
  obtain ⟨b13, _⟩ := blkG g4 13 (.int .i64 0) rfl
  obtain ⟨b14, _⟩ := blkG g4 14 (.int .i64 0) rfl
  obtain ⟨z0, n0⟩ := blkG BZ2 0 (.int .i64 0) rfl
  obtain ⟨z1, n1⟩ := blkG BZ2 1 (.string ⟨#[]⟩) rfl
  obtain ⟨z2, n2⟩ := blkG BZ2 2 (.int .i64 0) rfl
  obtain ⟨z3, n3⟩ := blkG BZ2 3 (.string ⟨#[]⟩) rfl
  obtain ⟨z4, n4⟩ := blkG BZ2 4 (.int .i64 0) rfl
  obtain ⟨z5, n5⟩ := blkG BZ2 5 (.int .i64 0) rfl
  obtain ⟨z6, n6⟩ := blkG BZ2 6 (.int .i64 0) rfl
  obtain ⟨z7, n7⟩ := blkG BZ2 7 (.int .i64 0) rfl
  obtain ⟨z8, n8⟩ := blkG BZ2 8 (.int .i64 0) rfl
  obtain ⟨z9, n9⟩ := blkG BZ2 9 (.int .i64 0) rfl
  obtain ⟨z10, n10⟩ := blkG BZ2 10 (.int .i64 0) rfl
  obtain ⟨z11, n11⟩ := blkG BZ2 11 (.slice none 0 0) rfl
  obtain ⟨z12, n12⟩ := blkG BZ2 12 (.string ⟨#[]⟩) rfl
  obtain ⟨z13, n13⟩ := blkG BZ2 13 (.int .i64 0) rfl
  obtain ⟨z14, n14⟩ := blkG BZ2 14 (.int .i64 0) rfl
  have BZ3 := Lib.hid BZ2
  have hzq : w.heap.size + 1 < Q.heap.size := blk_lt BZ2
  clear BZ2 g4
  go_region
  go_wp2
  refine bodyPost_ret (v := .tuple #[.agg #[.int .i64 4, .string ser, .int .i64 0, .string ⟨#[]⟩, .int .i64 0, .int .i64 0, .int .i64 0, .int .i64 0, .int .i64 dy, .int .i64 dm, .int .i64 dd, .slice a2 n c2, .string ⟨#[]⟩, .int .i64 0, .int .i64 0], .bool true]) (flat_ret _ _ (w.heap.size + 1) _ _ _ _ _ _ _ _ _ _ _ _ _ _ _ _  rfl rfl (drew_blk (set15_blk BZ3.out))) rfl ⟨a2, c2, rfl, OwnS.base (OwnS.drewS (set15_own HO2.out ?_)) (by omega), (set15_ext HXZ.out (by omega)).drew⟩
  exact fun a m c' he => Nat.ne_of_gt (Nat.lt_of_lt_of_le (by omega) (own_blkE HO2.out a m c' he).2)
set_option maxHeartbeats 8000000 in
set_option maxRecDepth 100000 in
theorem flat_8 (ser : ByteArray) (w : World) : Calls Try.prog 21 #[.agg #[.iface 102 (.agg #[.string ser])]] w fun e w' => e = .returned (.tuple #[.agg #[.int .i64 8, .string ser, .int .i64 0, .string ⟨#[]⟩, .int .i64 0, .int .i64 0, .int .i64 0, .int .i64 0, .int .i64 0, .int .i64 0, .int .i64 0, .slice none 0 0, .string ⟨#[]⟩, .int .i64 0, .int .i64 0], .bool true]) ∧ Ext w w' := by
  have q0 : ∀ w : World, (Instr.typeAssert (.iface 102 (.agg #[.string ser])) 50 88 true).run Try.prog w = .ok (.tuple #[.agg #[.string ⟨#[]⟩, .int .i64 0], .bool false]) w := fun _ => by kernel_rfl
  have q1 : ∀ w : World, (Instr.typeAssert (.iface 102 (.agg #[.string ser])) 50 90 true).run Try.prog w = .ok (.tuple #[.agg #[.string ⟨#[]⟩], .bool false]) w := fun _ => by kernel_rfl
  have q2 : ∀ w : World, (Instr.typeAssert (.iface 102 (.agg #[.string ser])) 50 92 true).run Try.prog w = .ok (.tuple #[.agg #[.string ⟨#[]⟩, .int .i64 0, .int .i64 0, .int .i64 0, .int .i64 0], .bool false]) w := fun _ => by kernel_rfl
  have q3 : ∀ w : World, (Instr.typeAssert (.iface 102 (.agg #[.string ser])) 50 96 true).run Try.prog w = .ok (.tuple #[.agg #[.string ⟨#[]⟩, .int .i64 0, .int .i64 0, .int .i64 0, .slice none 0 0], .bool false]) w := fun _ => by kernel_rfl
  have q4 : ∀ w : World, (Instr.typeAssert (.iface 102 (.agg #[.string ser])) 50 99 true).run Try.prog w = .ok (.tuple #[.agg #[.string ⟨#[]⟩, .int .i64 0, .int .i64 0, .int .i64 0, .string ⟨#[]⟩, .int .i64 0], .bool false]) w := fun _ => by kernel_rfl
  have q5 : ∀ w : World, (Instr.typeAssert (.iface 102 (.agg #[.string ser])) 50 101 true).run Try.prog w = .ok (.tuple #[.agg #[.int .i64 0], .bool false]) w := fun _ => by kernel_rfl
  have q6 : ∀ w : World, (Instr.typeAssert (.iface 102 (.agg #[.string ser])) 50 102 true).run Try.prog w = .ok (.tuple #[.agg #[.string ser], .bool true]) w := fun _ => by kernel_rfl
  have HK := Lib.hid fun z => kind_8 ser z
  go_enter Try.func21, Try.ntmps21
  go_wp2_with (go_at_call 35; (with_reducible refine (HK.out _).mono ?_); rintro e x ⟨rfl, hx⟩; obtain ⟨c0, BZ, hz, hX⟩ := flat_keep w _ hx; have hz0 : w.heap.size < x.heap.size := (by omega); clear hx)
  have BY : ((x.alloc (.cells #[.int .i64 8, .string ser, .int .i64 0, .string ⟨#[]⟩, .int .i64 0, .int .i64 0, .int .i64 0, .int .i64 0, .int .i64 0, .int .i64 0, .int .i64 0, .slice none 0 0, .string ⟨#[]⟩, .int .i64 0, .int .i64 0] 33)).alloc (.cells #[.string ser] 102)).heap[x.heap.size]? = some (.cells #[.int .i64 8, .string ser, .int .i64 0, .string ⟨#[]⟩, .int .i64 0, .int .i64 0, .int .i64 0, .int .i64 0, .int .i64 0, .int .i64 0, .int .i64 0, .slice none 0 0, .string ⟨#[]⟩, .int .i64 0, .int .i64 0] 33 (0, 0)) := alloc_blk (new_blk x _)
  have BZ2 : ((x.alloc (.cells #[.int .i64 8, .string ser, .int .i64 0, .string ⟨#[]⟩, .int .i64 0, .int .i64 0, .int .i64 0, .int .i64 0, .int .i64 0, .int .i64 0, .int .i64 0, .slice none 0 0, .string ⟨#[]⟩, .int .i64 0, .int .i64 0] 33)).alloc (.cells #[.string ser] 102)).heap[w.heap.size + 1]? = some (.cells #[.int .i64 0, .string ⟨#[]⟩, .int .i64 0, .string ⟨#[]⟩, .int .i64 0, .int .i64 0, .int .i64 0, .int .i64 0, .int .i64 0, .int .i64 0, .int .i64 0, .slice none 0 0, .string ⟨#[]⟩, .int .i64 0, .int .i64 0] 33 (0, 0)) := alloc_blk (alloc_blk BZ.out)
  have HX : Hid (Ext w ((x.alloc (.cells #[.int .i64 8, .string ser, .int .i64 0, .string ⟨#[]⟩, .int .i64 0, .int .i64 0, .int .i64 0, .int .i64 0, .int .i64 0, .int .i64 0, .int .i64 0, .slice none 0 0, .string ⟨#[]⟩, .int .i64 0, .int .i64 0] 33)).alloc (.cells #[.string ser] 102))) := Lib.hid (((hX.alloc _).alloc _))
  clear c0 hX BZ HK
  generalize ((x.alloc (.cells #[.int .i64 8, .string ser, .int .i64 0, .string ⟨#[]⟩, .int .i64 0, .int .i64 0, .int .i64 0, .int .i64 0, .int .i64 0, .int .i64 0, .int .i64 0, .slice none 0 0, .string ⟨#[]⟩, .int .i64 0, .int .i64 0] 33)).alloc (.cells #[.string ser] 102)) = Y at *
  obtain ⟨b0, _⟩ := blkG BY 0 (.int .i64 8) rfl
  obtain ⟨b1, _⟩ := blkG BY 1 (.string ser) rfl
  obtain ⟨b2, _⟩ := blkG BY 2 (.int .i64 0) rfl
  obtain ⟨b3, _⟩ := blkG BY 3 (.string ⟨#[]⟩) rfl
  obtain ⟨b4, _⟩ := blkG BY 4 (.int .i64 0) rfl
  obtain ⟨b5, _⟩ := blkG BY 5 (.int .i64 0) rfl
  obtain ⟨b6, _⟩ := blkG BY 6 (.int .i64 0) rfl
  obtain ⟨b7, _⟩ := blkG BY 7 (.int .i64 0) rfl
  obtain ⟨b8, _⟩ := blkG BY 8 (.int .i64 0) rfl
  obtain ⟨b9, _⟩ := blkG BY 9 (.int .i64 0) rfl
  obtain ⟨b10, _⟩ := blkG BY 10 (.int .i64 0) rfl
  obtain ⟨b11, _⟩ := blkG BY 11 (.slice none 0 0) rfl
  obtain ⟨b12, _⟩ := blkG BY 12 (.string ⟨#[]⟩) rfl
  obtain ⟨b13, _⟩ := blkG BY 13 (.int .i64 0) rfl
  obtain ⟨b14, _⟩ := blkG BY 14 (.int .i64 0) rfl
  obtain ⟨z0, n0⟩ := blkG BZ2 0 (.int .i64 0) rfl
  obtain ⟨z1, n1⟩ := blkG BZ2 1 (.string ⟨#[]⟩) rfl
  obtain ⟨z2, n2⟩ := blkG BZ2 2 (.int .i64 0) rfl
  obtain ⟨z3, n3⟩ := blkG BZ2 3 (.string ⟨#[]⟩) rfl
  obtain ⟨z4, n4⟩ := blkG BZ2 4 (.int .i64 0) rfl
  obtain ⟨z5, n5⟩ := blkG BZ2 5 (.int .i64 0) rfl
  obtain ⟨z6, n6⟩ := blkG BZ2 6 (.int .i64 0) rfl
  obtain ⟨z7, n7⟩ := blkG BZ2 7 (.int .i64 0) rfl
  obtain ⟨z8, n8⟩ := blkG BZ2 8 (.int .i64 0) rfl
  obtain ⟨z9, n9⟩ := blkG BZ2 9 (.int .i64 0) rfl
  obtain ⟨z10, n10⟩ := blkG BZ2 10 (.int .i64 0) rfl
  obtain ⟨z11, n11⟩ := blkG BZ2 11 (.slice none 0 0) rfl
  obtain ⟨z12, n12⟩ := blkG BZ2 12 (.string ⟨#[]⟩) rfl
  obtain ⟨z13, n13⟩ := blkG BZ2 13 (.int .i64 0) rfl
  obtain ⟨z14, n14⟩ := blkG BZ2 14 (.int .i64 0) rfl
  have BZ3 := Lib.hid BZ2
  clear BZ2 BY
  go_region
  go_wp2
  refine bodyPost_ret (v := .tuple #[.agg #[.int .i64 8, .string ser, .int .i64 0, .string ⟨#[]⟩, .int .i64 0, .int .i64 0, .int .i64 0, .int .i64 0, .int .i64 0, .int .i64 0, .int .i64 0, .slice none 0 0, .string ⟨#[]⟩, .int .i64 0, .int .i64 0], .bool true]) (flat_ret _ _ (w.heap.size + 1) _ _ _ _ _ _ _ _ _ _ _ _ _ _ _ _ rfl rfl (drew_blk (set15_blk BZ3.out))) rfl ⟨rfl, (set15_ext HX.out (by omega)).drew⟩
end
section

set_option maxHeartbeats 8000000 in
set_option maxRecDepth 100000 in
theorem flat_5 (dy dm dd ofn : Int) (ser ofs : ByteArray) (w : World) : Calls Try.prog 21 #[.agg #[.iface 99 (.agg #[.string ser, .int .i64 dy, .int .i64 dm, .int .i64 dd, .string ofs, .int .i64 ofn])]] w fun e w' => e = .returned (.tuple #[.agg #[.int .i64 5, .string ser, .int .i64 0, .string ⟨#[]⟩, .int .i64 0, .int .i64 0, .int .i64 0, .int .i64 0, .int .i64 dy, .int .i64 dm, .int .i64 dd, .slice none 0 0, .string ofs, .int .i64 ofn, .int .i64 0], .bool true]) ∧ Ext w w' := by
  have q0 : ∀ w : World, (Instr.typeAssert (.iface 99 (.agg #[.string ser, .int .i64 dy, .int .i64 dm, .int .i64 dd, .string ofs, .int .i64 ofn])) 50 88 true).run Try.prog w = .ok (.tuple #[.agg #[.string ⟨#[]⟩, .int .i64 0], .bool false]) w := fun _ => by kernel_rfl
  have q1 : ∀ w : World, (Instr.typeAssert (.iface 99 (.agg #[.string ser, .int .i64 dy, .int .i64 dm, .int .i64 dd, .string ofs, .int .i64 ofn])) 50 90 true).run Try.prog w = .ok (.tuple #[.agg #[.string ⟨#[]⟩], .bool false]) w := fun _ => by kernel_rfl
  have q2 : ∀ w : World, (Instr.typeAssert (.iface 99 (.agg #[.string ser, .int .i64 dy, .int .i64 dm, .int .i64 dd, .string ofs, .int .i64 ofn])) 50 92 true).run Try.prog w = .ok (.tuple #[.agg #[.string ⟨#[]⟩, .int .i64 0, .int .i64 0, .int .i64 0, .int .i64 0], .bool false]) w := fun _ => by kernel_rfl
  have q3 : ∀ w : World, (Instr.typeAssert (.iface 99 (.agg #[.string ser, .int .i64 dy, .int .i64 dm, .int .i64 dd, .string ofs, .int .i64 ofn])) 50 96 true).run Try.prog w = .ok (.tuple #[.agg #[.string ⟨#[]⟩, .int .i64 0, .int .i64 0, .int .i64 0, .slice none 0 0], .bool false]) w := fun _ => by kernel_rfl
  have q4 : ∀ w : World, (Instr.typeAssert (.iface 99 (.agg #[.string ser, .int .i64 dy, .int .i64 dm, .int .i64 dd, .string ofs, .int .i64 ofn])) 50 99 true).run Try.prog w = .ok (.tuple #[.agg #[.string ser, .int .i64 dy, .int .i64 dm, .int .i64 dd, .string ofs, .int .i64 ofn], .bool true]) w := fun _ => by kernel_rfl
  have HK := Lib.hid fun z => kind_5 dy dm dd ofn ser ofs z
  go_enter Try.func21, Try.ntmps21
  go_wp2_with (go_at_call 35; (with_reducible refine (HK.out _).mono ?_); rintro e x ⟨rfl, hx⟩; obtain ⟨c0, BZ, hz, hX⟩ := flat_keep w _ hx; have hz0 : w.heap.size < x.heap.size := (by omega); clear hx)
  go_region
  go_wp2
  have BY : ((x.alloc (.cells #[.int .i64 5, .string ser, .int .i64 0, .string ⟨#[]⟩, .int .i64 0, .int .i64 0, .int .i64 0, .int .i64 0, .int .i64 dy, .int .i64 dm, .int .i64 dd, .slice none 0 0, .string ofs, .int .i64 ofn, .int .i64 0] 33)).alloc (.cells #[.string ser, .int .i64 dy, .int .i64 dm, .int .i64 dd, .string ofs, .int .i64 ofn] 99)).drew.heap[x.heap.size]? = some (.cells #[.int .i64 5, .string ser, .int .i64 0, .string ⟨#[]⟩, .int .i64 0, .int .i64 0, .int .i64 0, .int .i64 0, .int .i64 dy, .int .i64 dm, .int .i64 dd, .slice none 0 0, .string ofs, .int .i64 ofn, .int .i64 0] 33 (0, 0)) := alloc_blk (new_blk x _)
  have BZ2 : ((x.alloc (.cells #[.int .i64 5, .string ser, .int .i64 0, .string ⟨#[]⟩, .int .i64 0, .int .i64 0, .int .i64 0, .int .i64 0, .int .i64 dy, .int .i64 dm, .int .i64 dd, .slice none 0 0, .string ofs, .int .i64 ofn, .int .i64 0] 33)).alloc (.cells #[.string ser, .int .i64 dy, .int .i64 dm, .int .i64 dd, .string ofs, .int .i64 ofn] 99)).drew.heap[w.heap.size + 1]? = some (.cells #[.int .i64 0, .string ⟨#[]⟩, .int .i64 0, .string ⟨#[]⟩, .int .i64 0, .int .i64 0, .int .i64 0, .int .i64 0, .int .i64 0, .int .i64 0, .int .i64 0, .slice none 0 0, .string ⟨#[]⟩, .int .i64 0, .int .i64 0] 33 (0, 0)) := alloc_blk (alloc_blk BZ.out)
  have HX : Hid (Ext w ((x.alloc (.cells #[.int .i64 5, .string ser, .int .i64 0, .string ⟨#[]⟩, .int .i64 0, .int .i64 0, .int .i64 0, .int .i64 0, .int .i64 dy, .int .i64 dm, .int .i64 dd, .slice none 0 0, .string ofs, .int .i64 ofn, .int .i64 0] 33)).alloc (.cells #[.string ser, .int .i64 dy, .int .i64 dm, .int .i64 dd, .string ofs, .int .i64 ofn] 99)).drew) := Lib.hid (((hX.alloc _).alloc _).drew)
  clear c0 hX BZ HK
  generalize ((x.alloc (.cells #[.int .i64 5, .string ser, .int .i64 0, .string ⟨#[]⟩, .int .i64 0, .int .i64 0, .int .i64 0, .int .i64 0, .int .i64 dy, .int .i64 dm, .int .i64 dd, .slice none 0 0, .string ofs, .int .i64 ofn, .int .i64 0] 33)).alloc (.cells #[.string ser, .int .i64 dy, .int .i64 dm, .int .i64 dd, .string ofs, .int .i64 ofn] 99)).drew = Y at *
  obtain ⟨b0, _⟩ := blkG BY 0 (.int .i64 5) rfl
  obtain ⟨b1, _⟩ := blkG BY 1 (.string ser) rfl
  obtain ⟨b2, _⟩ := blkG BY 2 (.int .i64 0) rfl
  obtain ⟨b3, _⟩ := blkG BY 3 (.string ⟨#[]⟩) rfl
  obtain ⟨b4, _⟩ := blkG BY 4 (.int .i64 0) rfl
  obtain ⟨b5, _⟩ := blkG BY 5 (.int .i64 0) rfl
  obtain ⟨b6, _⟩ := blkG BY 6 (.int .i64 0) rfl
  obtain ⟨b7, _⟩ := blkG BY 7 (.int .i64 0) rfl
  obtain ⟨b8, _⟩ := blkG BY 8 (.int .i64 dy) rfl
  obtain ⟨b9, _⟩ := blkG BY 9 (.int .i64 dm) rfl
  obtain ⟨b10, _⟩ := blkG BY 10 (.int .i64 dd) rfl
  obtain ⟨b11, _⟩ := blkG BY 11 (.slice none 0 0) rfl
  obtain ⟨b12, _⟩ := blkG BY 12 (.string ofs) rfl
  obtain ⟨b13, _⟩ := blkG BY 13 (.int .i64 ofn) rfl
  obtain ⟨b14, _⟩ := blkG BY 14 (.int .i64 0) rfl
  obtain ⟨z0, n0⟩ := blkG BZ2 0 (.int .i64 0) rfl
  obtain ⟨z1, n1⟩ := blkG BZ2 1 (.string ⟨#[]⟩) rfl
  obtain ⟨z2, n2⟩ := blkG BZ2 2 (.int .i64 0) rfl
  obtain ⟨z3, n3⟩ := blkG BZ2 3 (.string ⟨#[]⟩) rfl
  obtain ⟨z4, n4⟩ := blkG BZ2 4 (.int .i64 0) rfl
  obtain ⟨z5, n5⟩ := blkG BZ2 5 (.int .i64 0) rfl
  obtain ⟨z6, n6⟩ := blkG BZ2 6 (.int .i64 0) rfl
  obtain ⟨z7, n7⟩ := blkG BZ2 7 (.int .i64 0) rfl
  obtain ⟨z8, n8⟩ := blkG BZ2 8 (.int .i64 0) rfl
  obtain ⟨z9, n9⟩ := blkG BZ2 9 (.int .i64 0) rfl
  obtain ⟨z10, n10⟩ := blkG BZ2 10 (.int .i64 0) rfl
  obtain ⟨z11, n11⟩ := blkG BZ2 11 (.slice none 0 0) rfl
  obtain ⟨z12, n12⟩ := blkG BZ2 12 (.string ⟨#[]⟩) rfl
  obtain ⟨z13, n13⟩ := blkG BZ2 13 (.int .i64 0) rfl
  obtain ⟨z14, n14⟩ := blkG BZ2 14 (.int .i64 0) rfl
  have BZ3 := Lib.hid BZ2
  clear BZ2 BY
  go_region
  go_wp2
  refine bodyPost_ret (v := .tuple #[.agg #[.int .i64 5, .string ser, .int .i64 0, .string ⟨#[]⟩, .int .i64 0, .int .i64 0, .int .i64 0, .int .i64 0, .int .i64 dy, .int .i64 dm, .int .i64 dd, .slice none 0 0, .string ofs, .int .i64 ofn, .int .i64 0], .bool true]) (flat_ret _ _ (w.heap.size + 1) _ _ _ _ _ _ _ _ _ _ _ _ _ _ _ _ rfl rfl (drew_blk (set15_blk BZ3.out))) rfl ⟨rfl, (set15_ext HX.out (by omega)).drew⟩
set_option maxHeartbeats 8000000 in
set_option maxRecDepth 100000 in
theorem flat_7 (ses : Int) (w : World) : Calls Try.prog 21 #[.agg #[.iface 101 (.agg #[.int .i64 ses])]] w fun e w' => e = .returned (.tuple #[.agg #[.int .i64 7, .string ⟨#[]⟩, .int .i64 0, .string ⟨#[]⟩, .int .i64 0, .int .i64 0, .int .i64 0, .int .i64 0, .int .i64 0, .int .i64 0, .int .i64 0, .slice none 0 0, .string ⟨#[]⟩, .int .i64 0, .int .i64 ses], .bool true]) ∧ Ext w w' := by
  have q0 : ∀ w : World, (Instr.typeAssert (.iface 101 (.agg #[.int .i64 ses])) 50 88 true).run Try.prog w = .ok (.tuple #[.agg #[.string ⟨#[]⟩, .int .i64 0], .bool false]) w := fun _ => by kernel_rfl
  have q1 : ∀ w : World, (Instr.typeAssert (.iface 101 (.agg #[.int .i64 ses])) 50 90 true).run Try.prog w = .ok (.tuple #[.agg #[.string ⟨#[]⟩], .bool false]) w := fun _ => by kernel_rfl
  have q2 : ∀ w : World, (Instr.typeAssert (.iface 101 (.agg #[.int .i64 ses])) 50 92 true).run Try.prog w = .ok (.tuple #[.agg #[.string ⟨#[]⟩, .int .i64 0, .int .i64 0, .int .i64 0, .int .i64 0], .bool false]) w := fun _ => by kernel_rfl
  have q3 : ∀ w : World, (Instr.typeAssert (.iface 101 (.agg #[.int .i64 ses])) 50 96 true).run Try.prog w = .ok (.tuple #[.agg #[.string ⟨#[]⟩, .int .i64 0, .int .i64 0, .int .i64 0, .slice none 0 0], .bool false]) w := fun _ => by kernel_rfl
  have q4 : ∀ w : World, (Instr.typeAssert (.iface 101 (.agg #[.int .i64 ses])) 50 99 true).run Try.prog w = .ok (.tuple #[.agg #[.string ⟨#[]⟩, .int .i64 0, .int .i64 0, .int .i64 0, .string ⟨#[]⟩, .int .i64 0], .bool false]) w := fun _ => by kernel_rfl
  have q5 : ∀ w : World, (Instr.typeAssert (.iface 101 (.agg #[.int .i64 ses])) 50 101 true).run Try.prog w = .ok (.tuple #[.agg #[.int .i64 ses], .bool true]) w := fun _ => by kernel_rfl
  have HK := Lib.hid fun z => kind_7 ses z
  go_enter Try.func21, Try.ntmps21
  go_wp2_with (go_at_call 35; (with_reducible refine (HK.out _).mono ?_); rintro e x ⟨rfl, hx⟩; obtain ⟨c0, BZ, hz, hX⟩ := flat_keep w _ hx; have hz0 : w.heap.size < x.heap.size := (by omega); clear hx)
  have BY : ((x.alloc (.cells #[.int .i64 7, .string ⟨#[]⟩, .int .i64 0, .string ⟨#[]⟩, .int .i64 0, .int .i64 0, .int .i64 0, .int .i64 0, .int .i64 0, .int .i64 0, .int .i64 0, .slice none 0 0, .string ⟨#[]⟩, .int .i64 0, .int .i64 ses] 33)).alloc (.cells #[.int .i64 ses] 101)).heap[x.heap.size]? = some (.cells #[.int .i64 7, .string ⟨#[]⟩, .int .i64 0, .string ⟨#[]⟩, .int .i64 0, .int .i64 0, .int .i64 0, .int .i64 0, .int .i64 0, .int .i64 0, .int .i64 0, .slice none 0 0, .string ⟨#[]⟩, .int .i64 0, .int .i64 ses] 33 (0, 0)) := alloc_blk (new_blk x _)
  have BZ2 : ((x.alloc (.cells #[.int .i64 7, .string ⟨#[]⟩, .int .i64 0, .string ⟨#[]⟩, .int .i64 0, .int .i64 0, .int .i64 0, .int .i64 0, .int .i64 0, .int .i64 0, .int .i64 0, .slice none 0 0, .string ⟨#[]⟩, .int .i64 0, .int .i64 ses] 33)).alloc (.cells #[.int .i64 ses] 101)).heap[w.heap.size + 1]? = some (.cells #[.int .i64 0, .string ⟨#[]⟩, .int .i64 0, .string ⟨#[]⟩, .int .i64 0, .int .i64 0, .int .i64 0, .int .i64 0, .int .i64 0, .int .i64 0, .int .i64 0, .slice none 0 0, .string ⟨#[]⟩, .int .i64 0, .int .i64 0] 33 (0, 0)) := alloc_blk (alloc_blk BZ.out)
  have HX : Hid (Ext w ((x.alloc (.cells #[.int .i64 7, .string ⟨#[]⟩, .int .i64 0, .string ⟨#[]⟩, .int .i64 0, .int .i64 0, .int .i64 0, .int .i64 0, .int .i64 0, .int .i64 0, .int .i64 0, .slice none 0 0, .string ⟨#[]⟩, .int .i64 0, .int .i64 ses] 33)).alloc (.cells #[.int .i64 ses] 101))) := Lib.hid (((hX.alloc _).alloc _))
  clear c0 hX BZ HK
  generalize ((x.alloc (.cells #[.int .i64 7, .string ⟨#[]⟩, .int .i64 0, .string ⟨#[]⟩, .int .i64 0, .int .i64 0, .int .i64 0, .int .i64 0, .int .i64 0, .int .i64 0, .int .i64 0, .slice none 0 0, .string ⟨#[]⟩, .int .i64 0, .int .i64 ses] 33)).alloc (.cells #[.int .i64 ses] 101)) = Y at *
  obtain ⟨b0, _⟩ := blkG BY 0 (.int .i64 7) rfl
  obtain ⟨b1, _⟩ := blkG BY 1 (.string ⟨#[]⟩) rfl
  obtain ⟨b2, _⟩ := blkG BY 2 (.int .i64 0) rfl
  obtain ⟨b3, _⟩ := blkG BY 3 (.string ⟨#[]⟩) rfl
  obtain ⟨b4, _⟩ := blkG BY 4 (.int .i64 0) rfl
  obtain ⟨b5, _⟩ := blkG BY 5 (.int .i64 0) rfl
  obtain ⟨b6, _⟩ := blkG BY 6 (.int .i64 0) rfl
  obtain ⟨b7, _⟩ := blkG BY 7 (.int .i64 0) rfl
  obtain ⟨b8, _⟩ := blkG BY 8 (.int .i64 0) rfl
  obtain ⟨b9, _⟩ := blkG BY 9 (.int .i64 0) rfl
  obtain ⟨b10, _⟩ := blkG BY 10 (.int .i64 0) rfl
  obtain ⟨b11, _⟩ := blkG BY 11 (.slice none 0 0) rfl
  obtain ⟨b12, _⟩ := blkG BY 12 (.string ⟨#[]⟩) rfl
  obtain ⟨b13, _⟩ := blkG BY 13 (.int .i64 0) rfl
  obtain ⟨b14, _⟩ := blkG BY 14 (.int .i64 ses) rfl
  obtain ⟨z0, n0⟩ := blkG BZ2 0 (.int .i64 0) rfl
  obtain ⟨z1, n1⟩ := blkG BZ2 1 (.string ⟨#[]⟩) rfl
  obtain ⟨z2, n2⟩ := blkG BZ2 2 (.int .i64 0) rfl
  obtain ⟨z3, n3⟩ := blkG BZ2 3 (.string ⟨#[]⟩) rfl
  obtain ⟨z4, n4⟩ := blkG BZ2 4 (.int .i64 0) rfl
  obtain ⟨z5, n5⟩ := blkG BZ2 5 (.int .i64 0) rfl
  obtain ⟨z6, n6⟩ := blkG BZ2 6 (.int .i64 0) rfl
  obtain ⟨z7, n7⟩ := blkG BZ2 7 (.int .i64 0) rfl
  obtain ⟨z8, n8⟩ := blkG BZ2 8 (.int .i64 0) rfl
  obtain ⟨z9, n9⟩ := blkG BZ2 9 (.int .i64 0) rfl
  obtain ⟨z10, n10⟩ := blkG BZ2 10 (.int .i64 0) rfl
  obtain ⟨z11, n11⟩ := blkG BZ2 11 (.slice none 0 0) rfl
  obtain ⟨z12, n12⟩ := blkG BZ2 12 (.string ⟨#[]⟩) rfl
  obtain ⟨z13, n13⟩ := blkG BZ2 13 (.int .i64 0) rfl
  obtain ⟨z14, n14⟩ := blkG BZ2 14 (.int .i64 0) rfl
  have BZ3 := Lib.hid BZ2
  clear BZ2 BY
  go_region
  go_wp2
  refine bodyPost_ret (v := .tuple #[.agg #[.int .i64 7, .string ⟨#[]⟩, .int .i64 0, .string ⟨#[]⟩, .int .i64 0, .int .i64 0, .int .i64 0, .int .i64 0, .int .i64 0, .int .i64 0, .int .i64 0, .slice none 0 0, .string ⟨#[]⟩, .int .i64 0, .int .i64 ses], .bool true]) (flat_ret _ _ (w.heap.size + 1) _ _ _ _ _ _ _ _ _ _ _ _ _ _ _ _ rfl rfl (drew_blk (set15_blk BZ3.out))) rfl ⟨rfl, (set15_ext HX.out (by omega)).drew⟩
end
end Go.Proofs.Ytochgmpcdmahkaa
