/- Package command: Flat, some of the kinds. (Written by genCmdC.py.) -/
import Derived.Test.YtochgmpcdmahkaaCmdC
namespace Go.Proofs.Ytochgmpcdmahkaa
open Go.RowKit
section

set_option maxHeartbeats 8000000 in
set_option maxRecDepth 100000 in
theorem flat_0 (w : World) : Calls Try.prog 21 #[.agg #[.nilIface]] w fun e w' => e = .returned (.tuple #[.agg #[.int .i64 0, .string ⟨#[]⟩, .int .i64 0, .string ⟨#[]⟩, .int .i64 0, .int .i64 0, .int .i64 0, .int .i64 0, .int .i64 0, .int .i64 0, .int .i64 0, .slice none 0 0, .string ⟨#[]⟩, .int .i64 0, .int .i64 0], .bool false]) ∧ Ext w w' := by
  have q0 : ∀ w : World, (Instr.typeAssert (.nilIface) 50 88 true).run Try.prog w = .ok (.tuple #[.agg #[.string ⟨#[]⟩, .int .i64 0], .bool false]) w := fun _ => by kernel_rfl
  have q1 : ∀ w : World, (Instr.typeAssert (.nilIface) 50 90 true).run Try.prog w = .ok (.tuple #[.agg #[.string ⟨#[]⟩], .bool false]) w := fun _ => by kernel_rfl
  have q2 : ∀ w : World, (Instr.typeAssert (.nilIface) 50 92 true).run Try.prog w = .ok (.tuple #[.agg #[.string ⟨#[]⟩, .int .i64 0, .int .i64 0, .int .i64 0, .int .i64 0], .bool false]) w := fun _ => by kernel_rfl
  have q3 : ∀ w : World, (Instr.typeAssert (.nilIface) 50 96 true).run Try.prog w = .ok (.tuple #[.agg #[.string ⟨#[]⟩, .int .i64 0, .int .i64 0, .int .i64 0, .slice none 0 0], .bool false]) w := fun _ => by kernel_rfl
  have q4 : ∀ w : World, (Instr.typeAssert (.nilIface) 50 99 true).run Try.prog w = .ok (.tuple #[.agg #[.string ⟨#[]⟩, .int .i64 0, .int .i64 0, .int .i64 0, .string ⟨#[]⟩, .int .i64 0], .bool false]) w := fun _ => by kernel_rfl
  have q5 : ∀ w : World, (Instr.typeAssert (.nilIface) 50 101 true).run Try.prog w = .ok (.tuple #[.agg #[.int .i64 0], .bool false]) w := fun _ => by kernel_rfl
  have q6 : ∀ w : World, (Instr.typeAssert (.nilIface) 50 102 true).run Try.prog w = .ok (.tuple #[.agg #[.string ⟨#[]⟩], .bool false]) w := fun _ => by kernel_rfl
  have HK := Lib.hid fun z => kind_0 z
  go_enter Try.func21, Try.ntmps21
  go_wp2_with (go_at_call 35; (with_reducible refine (HK.out _).mono ?_); rintro e x ⟨rfl, hx⟩; obtain ⟨c0, BZ, hz, hX⟩ := flat_keep w _ hx; have hz0 : w.heap.size < x.heap.size := (by omega); clear hx)
  have BY : (x.alloc (.cells #[.int .i64 0, .string ⟨#[]⟩, .int .i64 0, .string ⟨#[]⟩, .int .i64 0, .int .i64 0, .int .i64 0, .int .i64 0, .int .i64 0, .int .i64 0, .int .i64 0, .slice none 0 0, .string ⟨#[]⟩, .int .i64 0, .int .i64 0] 33)).heap[x.heap.size]? = some (.cells #[.int .i64 0, .string ⟨#[]⟩, .int .i64 0, .string ⟨#[]⟩, .int .i64 0, .int .i64 0, .int .i64 0, .int .i64 0, .int .i64 0, .int .i64 0, .int .i64 0, .slice none 0 0, .string ⟨#[]⟩, .int .i64 0, .int .i64 0] 33 (0, 0)) := new_blk x _
  have BZ2 : (x.alloc (.cells #[.int .i64 0, .string ⟨#[]⟩, .int .i64 0, .string ⟨#[]⟩, .int .i64 0, .int .i64 0, .int .i64 0, .int .i64 0, .int .i64 0, .int .i64 0, .int .i64 0, .slice none 0 0, .string ⟨#[]⟩, .int .i64 0, .int .i64 0] 33)).heap[w.heap.size + 1]? = some (.cells #[.int .i64 0, .string ⟨#[]⟩, .int .i64 0, .string ⟨#[]⟩, .int .i64 0, .int .i64 0, .int .i64 0, .int .i64 0, .int .i64 0, .int .i64 0, .int .i64 0, .slice none 0 0, .string ⟨#[]⟩, .int .i64 0, .int .i64 0] 33 (0, 0)) := alloc_blk BZ.out
  have HX : Hid (Ext w (x.alloc (.cells #[.int .i64 0, .string ⟨#[]⟩, .int .i64 0, .string ⟨#[]⟩, .int .i64 0, .int .i64 0, .int .i64 0, .int .i64 0, .int .i64 0, .int .i64 0, .int .i64 0, .slice none 0 0, .string ⟨#[]⟩, .int .i64 0, .int .i64 0] 33))) := Lib.hid ((hX.alloc _))
  clear c0 hX BZ HK
  generalize (x.alloc (.cells #[.int .i64 0, .string ⟨#[]⟩, .int .i64 0, .string ⟨#[]⟩, .int .i64 0, .int .i64 0, .int .i64 0, .int .i64 0, .int .i64 0, .int .i64 0, .int .i64 0, .slice none 0 0, .string ⟨#[]⟩, .int .i64 0, .int .i64 0] 33)) = Y at *
  obtain ⟨b0, _⟩ := blkG BY 0 (.int .i64 0) rfl
  obtain ⟨b1, _⟩ := blkG BY 1 (.string ⟨#[]⟩) rfl
  obtain ⟨b2, _⟩ := blkG BY 2 (.int .i64 0) rfl
  obtain ⟨b3, _⟩ := blkG BY 3 (.string ⟨#[]⟩) rfl
  obtain ⟨b4, _⟩ := blkG BY 4 (.int .i64 0) rfl
  obtain ⟨b5, _⟩ := blkG BY 5 (.int .i64 0) rfl
  obtain ⟨b6, _⟩ := blkG BY 6 (.int .i64 0) rfl
  obtain ⟨b7, _⟩ := blkG BY 7 (.int .i64 0) rfl
  obtain ⟨b8, _⟩ := blkG BY 8 (.int .i64 0) rfl
  obtain ⟨b9, _⟩ := blkG BY 9 (.int .i64 0) rfl
  obtain ⟨b10, _⟩ := blkG BY 10 (.int .i64 0) rfl
  obtain ⟨b11, _⟩ := blkG BY 11 (.slice none 0 0) rfl
  obtain ⟨b12, _⟩ := blkG BY 12 (.string ⟨#[]⟩) rfl
  obtain ⟨b13, _⟩ := blkG BY 13 (.int .i64 0) rfl
  obtain ⟨b14, _⟩ := blkG BY 14 (.int .i64 0) rfl
  obtain ⟨z0, n0⟩ := blkG BZ2 0 (.int .i64 0) rfl
  obtain ⟨z1, n1⟩ := blkG BZ2 1 (.string ⟨#[]⟩) rfl
  obtain ⟨z2, n2⟩ := blkG BZ2 2 (.int .i64 0) rfl
  obtain ⟨z3, n3⟩ := blkG BZ2 3 (.string ⟨#[]⟩) rfl
  obtain ⟨z4, n4⟩ := blkG BZ2 4 (.int .i64 0) rfl
  obtain ⟨z5, n5⟩ := blkG BZ2 5 (.int .i64 0) rfl
  obtain ⟨z6, n6⟩ := blkG BZ2 6 (.int .i64 0) rfl
  obtain ⟨z7, n7⟩ := blkG BZ2 7 (.int .i64 0) rfl
  obtain ⟨z8, n8⟩ := blkG BZ2 8 (.int .i64 0) rfl
  obtain ⟨z9, n9⟩ := blkG BZ2 9 (.int .i64 0) rfl
  obtain ⟨z10, n10⟩ := blkG BZ2 10 (.int .i64 0) rfl
  obtain ⟨z11, n11⟩ := blkG BZ2 11 (.slice none 0 0) rfl
  obtain ⟨z12, n12⟩ := blkG BZ2 12 (.string ⟨#[]⟩) rfl
  obtain ⟨z13, n13⟩ := blkG BZ2 13 (.int .i64 0) rfl
  obtain ⟨z14, n14⟩ := blkG BZ2 14 (.int .i64 0) rfl
  have BZ3 := Lib.hid BZ2
  clear BZ2 BY
  go_region
  go_wp2
  refine bodyPost_ret (v := .tuple #[.agg #[.int .i64 0, .string ⟨#[]⟩, .int .i64 0, .string ⟨#[]⟩, .int .i64 0, .int .i64 0, .int .i64 0, .int .i64 0, .int .i64 0, .int .i64 0, .int .i64 0, .slice none 0 0, .string ⟨#[]⟩, .int .i64 0, .int .i64 0], .bool false]) (flat_ret _ _ (w.heap.size + 1) _ _ _ _ _ _ _ _ _ _ _ _ _ _ _ _ rfl rfl (drew_blk (set15_blk BZ3.out))) rfl ⟨rfl, (set15_ext HX.out (by omega)).drew⟩
set_option maxHeartbeats 8000000 in
set_option maxRecDepth 100000 in
theorem flat_1 (lim : Int) (ser : ByteArray) (w : World) : Calls Try.prog 21 #[.agg #[.iface 88 (.agg #[.string ser, .int .i64 lim])]] w fun e w' => e = .returned (.tuple #[.agg #[.int .i64 1, .string ser, .int .i64 lim, .string ⟨#[]⟩, .int .i64 0, .int .i64 0, .int .i64 0, .int .i64 0, .int .i64 0, .int .i64 0, .int .i64 0, .slice none 0 0, .string ⟨#[]⟩, .int .i64 0, .int .i64 0], .bool true]) ∧ Ext w w' := by
  have q0 : ∀ w : World, (Instr.typeAssert (.iface 88 (.agg #[.string ser, .int .i64 lim])) 50 88 true).run Try.prog w = .ok (.tuple #[.agg #[.string ser, .int .i64 lim], .bool true]) w := fun _ => by kernel_rfl
  have HK := Lib.hid fun z => kind_1 lim ser z
  go_enter Try.func21, Try.ntmps21
  go_wp2_with (go_at_call 35; (with_reducible refine (HK.out _).mono ?_); rintro e x ⟨rfl, hx⟩; obtain ⟨c0, BZ, hz, hX⟩ := flat_keep w _ hx; have hz0 : w.heap.size < x.heap.size := (by omega); clear hx)
  go_region
  go_wp2
  have BY : ((x.alloc (.cells #[.int .i64 1, .string ser, .int .i64 lim, .string ⟨#[]⟩, .int .i64 0, .int .i64 0, .int .i64 0, .int .i64 0, .int .i64 0, .int .i64 0, .int .i64 0, .slice none 0 0, .string ⟨#[]⟩, .int .i64 0, .int .i64 0] 33)).alloc (.cells #[.string ser, .int .i64 lim] 88)).drew.heap[x.heap.size]? = some (.cells #[.int .i64 1, .string ser, .int .i64 lim, .string ⟨#[]⟩, .int .i64 0, .int .i64 0, .int .i64 0, .int .i64 0, .int .i64 0, .int .i64 0, .int .i64 0, .slice none 0 0, .string ⟨#[]⟩, .int .i64 0, .int .i64 0] 33 (0, 0)) := alloc_blk (new_blk x _)
  have BZ2 : ((x.alloc (.cells #[.int .i64 1, .string ser, .int .i64 lim, .string ⟨#[]⟩, .int .i64 0, .int .i64 0, .int .i64 0, .int .i64 0, .int .i64 0, .int .i64 0, .int .i64 0, .slice none 0 0, .string ⟨#[]⟩, .int .i64 0, .int .i64 0] 33)).alloc (.cells #[.string ser, .int .i64 lim] 88)).drew.heap[w.heap.size + 1]? = some (.cells #[.int .i64 0, .string ⟨#[]⟩, .int .i64 0, .string ⟨#[]⟩, .int .i64 0, .int .i64 0, .int .i64 0, .int .i64 0, .int .i64 0, .int .i64 0, .int .i64 0, .slice none 0 0, .string ⟨#[]⟩, .int .i64 0, .int .i64 0] 33 (0, 0)) := alloc_blk (alloc_blk BZ.out)
  have HX : Hid (Ext w ((x.alloc (.cells #[.int .i64 1, .string ser, .int .i64 lim, .string ⟨#[]⟩, .int .i64 0, .int .i64 0, .int .i64 0, .int .i64 0, .int .i64 0, .int .i64 0, .int .i64 0, .slice none 0 0, .string ⟨#[]⟩, .int .i64 0, .int .i64 0] 33)).alloc (.cells #[.string ser, .int .i64 lim] 88)).drew) := Lib.hid (((hX.alloc _).alloc _).drew)
  clear c0 hX BZ HK
  generalize ((x.alloc (.cells #[.int .i64 1, .string ser, .int .i64 lim, .string ⟨#[]⟩, .int .i64 0, .int .i64 0, .int .i64 0, .int .i64 0, .int .i64 0, .int .i64 0, .int .i64 0, .slice none 0 0, .string ⟨#[]⟩, .int .i64 0, .int .i64 0] 33)).alloc (.cells #[.string ser, .int .i64 lim] 88)).drew = Y at *
  obtain ⟨b0, _⟩ := blkG BY 0 (.int .i64 1) rfl
  obtain ⟨b1, _⟩ := blkG BY 1 (.string ser) rfl
  obtain ⟨b2, _⟩ := blkG BY 2 (.int .i64 lim) rfl
  obtain ⟨b3, _⟩ := blkG BY 3 (.string ⟨#[]⟩) rfl
  obtain ⟨b4, _⟩ := blkG BY 4 (.int .i64 0) rfl
  obtain ⟨b5, _⟩ := blkG BY 5 (.int .i64 0) rfl
  obtain ⟨b6, _⟩ := blkG BY 6 (.int .i64 0) rfl
  obtain ⟨b7, _⟩ := blkG BY 7 (.int .i64 0) rfl
  obtain ⟨b8, _⟩ := blkG BY 8 (.int .i64 0) rfl
  obtain ⟨b9, _⟩ := blkG BY 9 (.int .i64 0) rfl
  obtain ⟨b10, _⟩ := blkG BY 10 (.int .i64 0) rfl
  obtain ⟨b11, _⟩ := blkG BY 11 (.slice none 0 0) rfl
  obtain ⟨b12, _⟩ := blkG BY 12 (.string ⟨#[]⟩) rfl
  obtain ⟨b13, _⟩ := blkG BY 13 (.int .i64 0) rfl
  obtain ⟨b14, _⟩ := blkG BY 14 (.int .i64 0) rfl
  obtain ⟨z0, n0⟩ := blkG BZ2 0 (.int .i64 0) rfl
  obtain ⟨z1, n1⟩ := blkG BZ2 1 (.string ⟨#[]⟩) rfl
  obtain ⟨z2, n2⟩ := blkG BZ2 2 (.int .i64 0) rfl
  obtain ⟨z3, n3⟩ := blkG BZ2 3 (.string ⟨#[]⟩) rfl
  obtain ⟨z4, n4⟩ := blkG BZ2 4 (.int .i64 0) rfl
  obtain ⟨z5, n5⟩ := blkG BZ2 5 (.int .i64 0) rfl
  obtain ⟨z6, n6⟩ := blkG BZ2 6 (.int .i64 0) rfl
  obtain ⟨z7, n7⟩ := blkG BZ2 7 (.int .i64 0) rfl
  obtain ⟨z8, n8⟩ := blkG BZ2 8 (.int .i64 0) rfl
  obtain ⟨z9, n9⟩ := blkG BZ2 9 (.int .i64 0) rfl
  obtain ⟨z10, n10⟩ := blkG BZ2 10 (.int .i64 0) rfl
  obtain ⟨z11, n11⟩ := blkG BZ2 11 (.slice none 0 0) rfl
  obtain ⟨z12, n12⟩ := blkG BZ2 12 (.string ⟨#[]⟩) rfl
  obtain ⟨z13, n13⟩ := blkG BZ2 13 (.int .i64 0) rfl
  obtain ⟨z14, n14⟩ := blkG BZ2 14 (.int .i64 0) rfl
  have BZ3 := Lib.hid BZ2
  clear BZ2 BY
  go_region
  go_wp2
  refine bodyPost_ret (v := .tuple #[.agg #[.int .i64 1, .string ser, .int .i64 lim, .string ⟨#[]⟩, .int .i64 0, .int .i64 0, .int .i64 0, .int .i64 0, .int .i64 0, .int .i64 0, .int .i64 0, .slice none 0 0, .string ⟨#[]⟩, .int .i64 0, .int .i64 0], .bool true]) (flat_ret _ _ (w.heap.size + 1) _ _ _ _ _ _ _ _ _ _ _ _ _ _ _ _ rfl rfl (drew_blk (set15_blk BZ3.out))) rfl ⟨rfl, (set15_ext HX.out (by omega)).drew⟩
set_option maxHeartbeats 8000000 in
set_option maxRecDepth 100000 in
theorem flat_6 (w : World) : Calls Try.prog 21 #[.agg #[.iface 113 (.agg #[])]] w fun e w' => e = .returned (.tuple #[.agg #[.int .i64 6, .string ⟨#[]⟩, .int .i64 0, .string ⟨#[]⟩, .int .i64 0, .int .i64 0, .int .i64 0, .int .i64 0, .int .i64 0, .int .i64 0, .int .i64 0, .slice none 0 0, .string ⟨#[]⟩, .int .i64 0, .int .i64 0], .bool true]) ∧ Ext w w' := by
  have q0 : ∀ w : World, (Instr.typeAssert (.iface 113 (.agg #[])) 50 88 true).run Try.prog w = .ok (.tuple #[.agg #[.string ⟨#[]⟩, .int .i64 0], .bool false]) w := fun _ => by kernel_rfl
  have q1 : ∀ w : World, (Instr.typeAssert (.iface 113 (.agg #[])) 50 90 true).run Try.prog w = .ok (.tuple #[.agg #[.string ⟨#[]⟩], .bool false]) w := fun _ => by kernel_rfl
  have q2 : ∀ w : World, (Instr.typeAssert (.iface 113 (.agg #[])) 50 92 true).run Try.prog w = .ok (.tuple #[.agg #[.string ⟨#[]⟩, .int .i64 0, .int .i64 0, .int .i64 0, .int .i64 0], .bool false]) w := fun _ => by kernel_rfl
  have q3 : ∀ w : World, (Instr.typeAssert (.iface 113 (.agg #[])) 50 96 true).run Try.prog w = .ok (.tuple #[.agg #[.string ⟨#[]⟩, .int .i64 0, .int .i64 0, .int .i64 0, .slice none 0 0], .bool false]) w := fun _ => by kernel_rfl
  have q4 : ∀ w : World, (Instr.typeAssert (.iface 113 (.agg #[])) 50 99 true).run Try.prog w = .ok (.tuple #[.agg #[.string ⟨#[]⟩, .int .i64 0, .int .i64 0, .int .i64 0, .string ⟨#[]⟩, .int .i64 0], .bool false]) w := fun _ => by kernel_rfl
  have q5 : ∀ w : World, (Instr.typeAssert (.iface 113 (.agg #[])) 50 101 true).run Try.prog w = .ok (.tuple #[.agg #[.int .i64 0], .bool false]) w := fun _ => by kernel_rfl
  have q6 : ∀ w : World, (Instr.typeAssert (.iface 113 (.agg #[])) 50 102 true).run Try.prog w = .ok (.tuple #[.agg #[.string ⟨#[]⟩], .bool false]) w := fun _ => by kernel_rfl
  have HK := Lib.hid fun z => kind_6 z
  go_enter Try.func21, Try.ntmps21
  go_wp2_with (go_at_call 35; (with_reducible refine (HK.out _).mono ?_); rintro e x ⟨rfl, hx⟩; obtain ⟨c0, BZ, hz, hX⟩ := flat_keep w _ hx; have hz0 : w.heap.size < x.heap.size := (by omega); clear hx)
  have BY : (x.alloc (.cells #[.int .i64 6, .string ⟨#[]⟩, .int .i64 0, .string ⟨#[]⟩, .int .i64 0, .int .i64 0, .int .i64 0, .int .i64 0, .int .i64 0, .int .i64 0, .int .i64 0, .slice none 0 0, .string ⟨#[]⟩, .int .i64 0, .int .i64 0] 33)).heap[x.heap.size]? = some (.cells #[.int .i64 6, .string ⟨#[]⟩, .int .i64 0, .string ⟨#[]⟩, .int .i64 0, .int .i64 0, .int .i64 0, .int .i64 0, .int .i64 0, .int .i64 0, .int .i64 0, .slice none 0 0, .string ⟨#[]⟩, .int .i64 0, .int .i64 0] 33 (0, 0)) := new_blk x _
  have BZ2 : (x.alloc (.cells #[.int .i64 6, .string ⟨#[]⟩, .int .i64 0, .string ⟨#[]⟩, .int .i64 0, .int .i64 0, .int .i64 0, .int .i64 0, .int .i64 0, .int .i64 0, .int .i64 0, .slice none 0 0, .string ⟨#[]⟩, .int .i64 0, .int .i64 0] 33)).heap[w.heap.size + 1]? = some (.cells #[.int .i64 0, .string ⟨#[]⟩, .int .i64 0, .string ⟨#[]⟩, .int .i64 0, .int .i64 0, .int .i64 0, .int .i64 0, .int .i64 0, .int .i64 0, .int .i64 0, .slice none 0 0, .string ⟨#[]⟩, .int .i64 0, .int .i64 0] 33 (0, 0)) := alloc_blk BZ.out
  have HX : Hid (Ext w (x.alloc (.cells #[.int .i64 6, .string ⟨#[]⟩, .int .i64 0, .string ⟨#[]⟩, .int .i64 0, .int .i64 0, .int .i64 0, .int .i64 0, .int .i64 0, .int .i64 0, .int .i64 0, .slice none 0 0, .string ⟨#[]⟩, .int .i64 0, .int .i64 0] 33))) := Lib.hid ((hX.alloc _))
  clear c0 hX BZ HK
  generalize (x.alloc (.cells #[.int .i64 6, .string ⟨#[]⟩, .int .i64 0, .string ⟨#[]⟩, .int .i64 0, .int .i64 0, .int .i64 0, .int .i64 0, .int .i64 0, .int .i64 0, .int .i64 0, .slice none 0 0, .string ⟨#[]⟩, .int .i64 0, .int .i64 0] 33)) = Y at *
  obtain ⟨b0, _⟩ := blkG BY 0 (.int .i64 6) rfl
  obtain ⟨b1, _⟩ := blkG BY 1 (.string ⟨#[]⟩) rfl
  obtain ⟨b2, _⟩ := blkG BY 2 (.int .i64 0) rfl
  obtain ⟨b3, _⟩ := blkG BY 3 (.string ⟨#[]⟩) rfl
  obtain ⟨b4, _⟩ := blkG BY 4 (.int .i64 0) rfl
  obtain ⟨b5, _⟩ := blkG BY 5 (.int .i64 0) rfl
  obtain ⟨b6, _⟩ := blkG BY 6 (.int .i64 0) rfl
  obtain ⟨b7, _⟩ := blkG BY 7 (.int .i64 0) rfl
  obtain ⟨b8, _⟩ := blkG BY 8 (.int .i64 0) rfl
  obtain ⟨b9, _⟩ := blkG BY 9 (.int .i64 0) rfl
  obtain ⟨b10, _⟩ := blkG BY 10 (.int .i64 0) rfl
  obtain ⟨b11, _⟩ := blkG BY 11 (.slice none 0 0) rfl
  obtain ⟨b12, _⟩ := blkG BY 12 (.string ⟨#[]⟩) rfl
  obtain ⟨b13, _⟩ := blkG BY 13 (.int .i64 0) rfl
  obtain ⟨b14, _⟩ := blkG BY 14 (.int .i64 0) rfl
  obtain ⟨z0, n0⟩ := blkG BZ2 0 (.int .i64 0) rfl
  obtain ⟨z1, n1⟩ := blkG BZ2 1 (.string ⟨#[]⟩) rfl
  obtain ⟨z2, n2⟩ := blkG BZ2 2 (.int .i64 0) rfl
  obtain ⟨z3, n3⟩ := blkG BZ2 3 (.string ⟨#[]⟩) rfl
  obtain ⟨z4, n4⟩ := blkG BZ2 4 (.int .i64 0) rfl
  obtain ⟨z5, n5⟩ := blkG BZ2 5 (.int .i64 0) rfl
  obtain ⟨z6, n6⟩ := blkG BZ2 6 (.int .i64 0) rfl
  obtain ⟨z7, n7⟩ := blkG BZ2 7 (.int .i64 0) rfl
  obtain ⟨z8, n8⟩ := blkG BZ2 8 (.int .i64 0) rfl
  obtain ⟨z9, n9⟩ := blkG BZ2 9 (.int .i64 0) rfl
  obtain ⟨z10, n10⟩ := blkG BZ2 10 (.int .i64 0) rfl
  obtain ⟨z11, n11⟩ := blkG BZ2 11 (.slice none 0 0) rfl
  obtain ⟨z12, n12⟩ := blkG BZ2 12 (.string ⟨#[]⟩) rfl
  obtain ⟨z13, n13⟩ := blkG BZ2 13 (.int .i64 0) rfl
  obtain ⟨z14, n14⟩ := blkG BZ2 14 (.int .i64 0) rfl
  have BZ3 := Lib.hid BZ2
  clear BZ2 BY
  go_region
  go_wp2
  refine bodyPost_ret (v := .tuple #[.agg #[.int .i64 6, .string ⟨#[]⟩, .int .i64 0, .string ⟨#[]⟩, .int .i64 0, .int .i64 0, .int .i64 0, .int .i64 0, .int .i64 0, .int .i64 0, .int .i64 0, .slice none 0 0, .string ⟨#[]⟩, .int .i64 0, .int .i64 0], .bool true]) (flat_ret _ _ (w.heap.size + 1) _ _ _ _ _ _ _ _ _ _ _ _ _ _ _ _ rfl rfl (drew_blk (set15_blk BZ3.out))) rfl ⟨rfl, (set15_ext HX.out (by omega)).drew⟩
end
section

set_option maxHeartbeats 8000000 in
set_option maxRecDepth 100000 in
theorem flat_2 (ser : ByteArray) (w : World) : Calls Try.prog 21 #[.agg #[.iface 90 (.agg #[.string ser])]] w fun e w' => e = .returned (.tuple #[.agg #[.int .i64 2, .string ser, .int .i64 0, .string ⟨#[]⟩, .int .i64 0, .int .i64 0, .int .i64 0, .int .i64 0, .int .i64 0, .int .i64 0, .int .i64 0, .slice none 0 0, .string ⟨#[]⟩, .int .i64 0, .int .i64 0], .bool true]) ∧ Ext w w' := by
  have q0 : ∀ w : World, (Instr.typeAssert (.iface 90 (.agg #[.string ser])) 50 88 true).run Try.prog w = .ok (.tuple #[.agg #[.string ⟨#[]⟩, .int .i64 0], .bool false]) w := fun _ => by kernel_rfl
  have q1 : ∀ w : World, (Instr.typeAssert (.iface 90 (.agg #[.string ser])) 50 90 true).run Try.prog w = .ok (.tuple #[.agg #[.string ser], .bool true]) w := fun _ => by kernel_rfl
  have HK := Lib.hid fun z => kind_2 ser z
  go_enter Try.func21, Try.ntmps21
  go_wp2_with (go_at_call 35; (with_reducible refine (HK.out _).mono ?_); rintro e x ⟨rfl, hx⟩; obtain ⟨c0, BZ, hz, hX⟩ := flat_keep w _ hx; have hz0 : w.heap.size < x.heap.size := (by omega); clear hx)
  have BY : ((x.alloc (.cells #[.int .i64 2, .string ser, .int .i64 0, .string ⟨#[]⟩, .int .i64 0, .int .i64 0, .int .i64 0, .int .i64 0, .int .i64 0, .int .i64 0, .int .i64 0, .slice none 0 0, .string ⟨#[]⟩, .int .i64 0, .int .i64 0] 33)).alloc (.cells #[.string ser] 90)).heap[x.heap.size]? = some (.cells #[.int .i64 2, .string ser, .int .i64 0, .string ⟨#[]⟩, .int .i64 0, .int .i64 0, .int .i64 0, .int .i64 0, .int .i64 0, .int .i64 0, .int .i64 0, .slice none 0 0, .string ⟨#[]⟩, .int .i64 0, .int .i64 0] 33 (0, 0)) := alloc_blk (new_blk x _)
  have BZ2 : ((x.alloc (.cells #[.int .i64 2, .string ser, .int .i64 0, .string ⟨#[]⟩, .int .i64 0, .int .i64 0, .int .i64 0, .int .i64 0, .int .i64 0, .int .i64 0, .int .i64 0, .slice none 0 0, .string ⟨#[]⟩, .int .i64 0, .int .i64 0] 33)).alloc (.cells #[.string ser] 90)).heap[w.heap.size + 1]? = some (.cells #[.int .i64 0, .string ⟨#[]⟩, .int .i64 0, .string ⟨#[]⟩, .int .i64 0, .int .i64 0, .int .i64 0, .int .i64 0, .int .i64 0, .int .i64 0, .int .i64 0, .slice none 0 0, .string ⟨#[]⟩, .int .i64 0, .int .i64 0] 33 (0, 0)) := alloc_blk (alloc_blk BZ.out)
  have HX : Hid (Ext w ((x.alloc (.cells #[.int .i64 2, .string ser, .int .i64 0, .string ⟨#[]⟩, .int .i64 0, .int .i64 0, .int .i64 0, .int .i64 0, .int .i64 0, .int .i64 0, .int .i64 0, .slice none 0 0, .string ⟨#[]⟩, .int .i64 0, .int .i64 0] 33)).alloc (.cells #[.string ser] 90))) := Lib.hid (((hX.alloc _).alloc _))
  clear c0 hX BZ HK
  generalize ((x.alloc (.cells #[.int .i64 2, .string ser, .int .i64 0, .string ⟨#[]⟩, .int .i64 0, .int .i64 0, .int .i64 0, .int .i64 0, .int .i64 0, .int .i64 0, .int .i64 0, .slice none 0 0, .string ⟨#[]⟩, .int .i64 0, .int .i64 0] 33)).alloc (.cells #[.string ser] 90)) = Y at *
  obtain ⟨b0, _⟩ := blkG BY 0 (.int .i64 2) rfl
  obtain ⟨b1, _⟩ := blkG BY 1 (.string ser) rfl
  obtain ⟨b2, _⟩ := blkG BY 2 (.int .i64 0) rfl
  obtain ⟨b3, _⟩ := blkG BY 3 (.string ⟨#[]⟩) rfl
  obtain ⟨b4, _⟩ := blkG BY 4 (.int .i64 0) rfl
  obtain ⟨b5, _⟩ := blkG BY 5 (.int .i64 0) rfl
  obtain ⟨b6, _⟩ := blkG BY 6 (.int .i64 0) rfl
  obtain ⟨b7, _⟩ := blkG BY 7 (.int .i64 0) rfl
  obtain ⟨b8, _⟩ := blkG BY 8 (.int .i64 0) rfl
  obtain ⟨b9, _⟩ := blkG BY 9 (.int .i64 0) rfl
  obtain ⟨b10, _⟩ := blkG BY 10 (.int .i64 0) rfl
  obtain ⟨b11, _⟩ := blkG BY 11 (.slice none 0 0) rfl
  obtain ⟨b12, _⟩ := blkG BY 12 (.string ⟨#[]⟩) rfl
  obtain ⟨b13, _⟩ := blkG BY 13 (.int .i64 0) rfl
  obtain ⟨b14, _⟩ := blkG BY 14 (.int .i64 0) rfl
  obtain ⟨z0, n0⟩ := blkG BZ2 0 (.int .i64 0) rfl
  obtain ⟨z1, n1⟩ := blkG BZ2 1 (.string ⟨#[]⟩) rfl
  obtain ⟨z2, n2⟩ := blkG BZ2 2 (.int .i64 0) rfl
  obtain ⟨z3, n3⟩ := blkG BZ2 3 (.string ⟨#[]⟩) rfl
  obtain ⟨z4, n4⟩ := blkG BZ2 4 (.int .i64 0) rfl
  obtain ⟨z5, n5⟩ := blkG BZ2 5 (.int .i64 0) rfl
  obtain ⟨z6, n6⟩ := blkG BZ2 6 (.int .i64 0) rfl
  obtain ⟨z7, n7⟩ := blkG BZ2 7 (.int .i64 0) rfl
  obtain ⟨z8, n8⟩ := blkG BZ2 8 (.int .i64 0) rfl
  obtain ⟨z9, n9⟩ := blkG BZ2 9 (.int .i64 0) rfl
  obtain ⟨z10, n10⟩ := blkG BZ2 10 (.int .i64 0) rfl
  obtain ⟨z11, n11⟩ := blkG BZ2 11 (.slice none 0 0) rfl
  obtain ⟨z12, n12⟩ := blkG BZ2 12 (.string ⟨#[]⟩) rfl
  obtain ⟨z13, n13⟩ := blkG BZ2 13 (.int .i64 0) rfl
  obtain ⟨z14, n14⟩ := blkG BZ2 14 (.int .i64 0) rfl
  have BZ3 := Lib.hid BZ2
  clear BZ2 BY
  go_region
  go_wp2
  refine bodyPost_ret (v := .tuple #[.agg #[.int .i64 2, .string ser, .int .i64 0, .string ⟨#[]⟩, .int .i64 0, .int .i64 0, .int .i64 0, .int .i64 0, .int .i64 0, .int .i64 0, .int .i64 0, .slice none 0 0, .string ⟨#[]⟩, .int .i64 0, .int .i64 0], .bool true]) (flat_ret _ _ (w.heap.size + 1) _ _ _ _ _ _ _ _ _ _ _ _ _ _ _ _ rfl rfl (drew_blk (set15_blk BZ3.out))) rfl ⟨rfl, (set15_ext HX.out (by omega)).drew⟩
set_option maxHeartbeats 8000000 in
set_option maxRecDepth 100000 in
theorem flat_3 (ry rm rd bp : Int) (cat : ByteArray) (w : World) : Calls Try.prog 21 #[.agg #[.iface 92 (.agg #[.string cat, .int .i64 ry, .int .i64 rm, .int .i64 rd, .int .i64 bp])]] w fun e w' => e = .returned (.tuple #[.agg #[.int .i64 3, .string ⟨#[]⟩, .int .i64 0, .string cat, .int .i64 ry, .int .i64 rm, .int .i64 rd, .int .i64 bp, .int .i64 0, .int .i64 0, .int .i64 0, .slice none 0 0, .string ⟨#[]⟩, .int .i64 0, .int .i64 0], .bool true]) ∧ Ext w w' := by
  have q0 : ∀ w : World, (Instr.typeAssert (.iface 92 (.agg #[.string cat, .int .i64 ry, .int .i64 rm, .int .i64 rd, .int .i64 bp])) 50 88 true).run Try.prog w = .ok (.tuple #[.agg #[.string ⟨#[]⟩, .int .i64 0], .bool false]) w := fun _ => by kernel_rfl
  have q1 : ∀ w : World, (Instr.typeAssert (.iface 92 (.agg #[.string cat, .int .i64 ry, .int .i64 rm, .int .i64 rd, .int .i64 bp])) 50 90 true).run Try.prog w = .ok (.tuple #[.agg #[.string ⟨#[]⟩], .bool false]) w := fun _ => by kernel_rfl
  have q2 : ∀ w : World, (Instr.typeAssert (.iface 92 (.agg #[.string cat, .int .i64 ry, .int .i64 rm, .int .i64 rd, .int .i64 bp])) 50 92 true).run Try.prog w = .ok (.tuple #[.agg #[.string cat, .int .i64 ry, .int .i64 rm, .int .i64 rd, .int .i64 bp], .bool true]) w := fun _ => by kernel_rfl
  have HK := Lib.hid fun z => kind_3 ry rm rd bp cat z
  go_enter Try.func21, Try.ntmps21
  go_wp2_with (go_at_call 35; (with_reducible refine (HK.out _).mono ?_); rintro e x ⟨rfl, hx⟩; obtain ⟨c0, BZ, hz, hX⟩ := flat_keep w _ hx; have hz0 : w.heap.size < x.heap.size := (by omega); clear hx)
  have BY : ((x.alloc (.cells #[.int .i64 3, .string ⟨#[]⟩, .int .i64 0, .string cat, .int .i64 ry, .int .i64 rm, .int .i64 rd, .int .i64 bp, .int .i64 0, .int .i64 0, .int .i64 0, .slice none 0 0, .string ⟨#[]⟩, .int .i64 0, .int .i64 0] 33)).alloc (.cells #[.string cat, .int .i64 ry, .int .i64 rm, .int .i64 rd, .int .i64 bp] 92)).heap[x.heap.size]? = some (.cells #[.int .i64 3, .string ⟨#[]⟩, .int .i64 0, .string cat, .int .i64 ry, .int .i64 rm, .int .i64 rd, .int .i64 bp, .int .i64 0, .int .i64 0, .int .i64 0, .slice none 0 0, .string ⟨#[]⟩, .int .i64 0, .int .i64 0] 33 (0, 0)) := alloc_blk (new_blk x _)
  have BZ2 : ((x.alloc (.cells #[.int .i64 3, .string ⟨#[]⟩, .int .i64 0, .string cat, .int .i64 ry, .int .i64 rm, .int .i64 rd, .int .i64 bp, .int .i64 0, .int .i64 0, .int .i64 0, .slice none 0 0, .string ⟨#[]⟩, .int .i64 0, .int .i64 0] 33)).alloc (.cells #[.string cat, .int .i64 ry, .int .i64 rm, .int .i64 rd, .int .i64 bp] 92)).heap[w.heap.size + 1]? = some (.cells #[.int .i64 0, .string ⟨#[]⟩, .int .i64 0, .string ⟨#[]⟩, .int .i64 0, .int .i64 0, .int .i64 0, .int .i64 0, .int .i64 0, .int .i64 0, .int .i64 0, .slice none 0 0, .string ⟨#[]⟩, .int .i64 0, .int .i64 0] 33 (0, 0)) := alloc_blk (alloc_blk BZ.out)
  have HX : Hid (Ext w ((x.alloc (.cells #[.int .i64 3, .string ⟨#[]⟩, .int .i64 0, .string cat, .int .i64 ry, .int .i64 rm, .int .i64 rd, .int .i64 bp, .int .i64 0, .int .i64 0, .int .i64 0, .slice none 0 0, .string ⟨#[]⟩, .int .i64 0, .int .i64 0] 33)).alloc (.cells #[.string cat, .int .i64 ry, .int .i64 rm, .int .i64 rd, .int .i64 bp] 92))) := Lib.hid (((hX.alloc _).alloc _))
  clear c0 hX BZ HK
  generalize ((x.alloc (.cells #[.int .i64 3, .string ⟨#[]⟩, .int .i64 0, .string cat, .int .i64 ry, .int .i64 rm, .int .i64 rd, .int .i64 bp, .int .i64 0, .int .i64 0, .int .i64 0, .slice none 0 0, .string ⟨#[]⟩, .int .i64 0, .int .i64 0] 33)).alloc (.cells #[.string cat, .int .i64 ry, .int .i64 rm, .int .i64 rd, .int .i64 bp] 92)) = Y at *
  obtain ⟨b0, _⟩ := blkG BY 0 (.int .i64 3) rfl
  obtain ⟨b1, _⟩ := blkG BY 1 (.string ⟨#[]⟩) rfl
  obtain ⟨b2, _⟩ := blkG BY 2 (.int .i64 0) rfl
  obtain ⟨b3, _⟩ := blkG BY 3 (.string cat) rfl
  obtain ⟨b4, _⟩ := blkG BY 4 (.int .i64 ry) rfl
  obtain ⟨b5, _⟩ := blkG BY 5 (.int .i64 rm) rfl
  obtain ⟨b6, _⟩ := blkG BY 6 (.int .i64 rd) rfl
  obtain ⟨b7, _⟩ := blkG BY 7 (.int .i64 bp) rfl
  obtain ⟨b8, _⟩ := blkG BY 8 (.int .i64 0) rfl
  obtain ⟨b9, _⟩ := blkG BY 9 (.int .i64 0) rfl
  obtain ⟨b10, _⟩ := blkG BY 10 (.int .i64 0) rfl
  obtain ⟨b11, _⟩ := blkG BY 11 (.slice none 0 0) rfl
  obtain ⟨b12, _⟩ := blkG BY 12 (.string ⟨#[]⟩) rfl
  obtain ⟨b13, _⟩ := blkG BY 13 (.int .i64 0) rfl
  obtain ⟨b14, _⟩ := blkG BY 14 (.int .i64 0) rfl
  obtain ⟨z0, n0⟩ := blkG BZ2 0 (.int .i64 0) rfl
  obtain ⟨z1, n1⟩ := blkG BZ2 1 (.string ⟨#[]⟩) rfl
  obtain ⟨z2, n2⟩ := blkG BZ2 2 (.int .i64 0) rfl
  obtain ⟨z3, n3⟩ := blkG BZ2 3 (.string ⟨#[]⟩) rfl
  obtain ⟨z4, n4⟩ := blkG BZ2 4 (.int .i64 0) rfl
  obtain ⟨z5, n5⟩ := blkG BZ2 5 (.int .i64 0) rfl
  obtain ⟨z6, n6⟩ := blkG BZ2 6 (.int .i64 0) rfl
  obtain ⟨z7, n7⟩ := blkG BZ2 7 (.int .i64 0) rfl
  obtain ⟨z8, n8⟩ := blkG BZ2 8 (.int .i64 0) rfl
  obtain ⟨z9, n9⟩ := blkG BZ2 9 (.int .i64 0) rfl
  obtain ⟨z10, n10⟩ := blkG BZ2 10 (.int .i64 0) rfl
  obtain ⟨z11, n11⟩ := blkG BZ2 11 (.slice none 0 0) rfl
  obtain ⟨z12, n12⟩ := blkG BZ2 12 (.string ⟨#[]⟩) rfl
  obtain ⟨z13, n13⟩ := blkG BZ2 13 (.int .i64 0) rfl
  obtain ⟨z14, n14⟩ := blkG BZ2 14 (.int .i64 0) rfl
  have BZ3 := Lib.hid BZ2
  clear BZ2 BY
  go_region
  go_wp2
  refine bodyPost_ret (v := .tuple #[.agg #[.int .i64 3, .string ⟨#[]⟩, .int .i64 0, .string cat, .int .i64 ry, .int .i64 rm, .int .i64 rd, .int .i64 bp, .int .i64 0, .int .i64 0, .int .i64 0, .slice none 0 0, .string ⟨#[]⟩, .int .i64 0, .int .i64 0], .bool true]) (flat_ret _ _ (w.heap.size + 1) _ _ _ _ _ _ _ _ _ _ _ _ _ _ _ _ rfl rfl (drew_blk (set15_blk BZ3.out))) rfl ⟨rfl, (set15_ext HX.out (by omega)).drew⟩
end
end Go.Proofs.Ytochgmpcdmahkaa
