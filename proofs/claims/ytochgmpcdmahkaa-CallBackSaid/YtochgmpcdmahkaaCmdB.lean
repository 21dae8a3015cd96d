/- Package command: Of, Kind. (Written by genCmdB.py.) -/
import Derived.Test.YtochgmpcdmahkaaCmdA
namespace Go.Proofs.Ytochgmpcdmahkaa
open Go.RowKit
section

theorem of_keep {w x : World} {C : Array Value} {T T2 : TypeId} {v : Value} (h : Ext ((w.alloc (.cells C T)).alloc (.cells #[v] T2)) x) : x.cell? ⟨w.heap.size + 1, 0, none⟩ = some v ∧ x.frozen? ⟨w.heap.size + 1, 0, none⟩ = false ∧ w.heap.size + 1 < x.heap.size ∧ Ext w x := by
  have hs := h.size
  simp at hs
  refine ⟨?_, ?_, by omega, Ext.trans (((Ext.refl w).alloc _).alloc _) h⟩
  · have := alloc_cell (w := w.alloc (.cells C T)) h 0 v rfl
    simpa using this
  · rw [h.frozen (p := ⟨w.heap.size + 1, 0, none⟩) (by simp)]
    simp [go_sem]
set_option maxHeartbeats 4000000 in
theorem of_1 (lim ry rm rd bp dy dm dd ofn ses : Int) (ser cat ofs : ByteArray) (a : Option Addr) (n cap : Nat) (w : World) : Calls Try.prog 13 #[.agg #[.int .i64 1, .string ser, .int .i64 lim, .string cat, .int .i64 ry, .int .i64 rm, .int .i64 rd, .int .i64 bp, .int .i64 dy, .int .i64 dm, .int .i64 dd, .slice a n cap, .string ofs, .int .i64 ofn, .int .i64 ses]] w fun e w' => e = .returned (.tuple #[.agg #[.iface 88 (.agg #[.string ser, .int .i64 lim])], .int .i64 0]) ∧ Ext w w' := by
  have HM := Lib.hid fun z => made_1 lim ry rm rd bp dy dm dd ofn ses ser cat ofs a n cap z
  go_enter Try.func13, Try.ntmps13
  go_wp2_with (go_at_call 28; (with_reducible refine (HM.out _).mono ?_); rintro e x ⟨rfl, hx⟩; obtain ⟨r0, r1, r2, r3⟩ := of_keep hx; clear hx)
  refine bodyPost_ret (v := .tuple #[.agg #[.iface 88 (.agg #[.string ser, .int .i64 lim])], .int .i64 0]) (by simp [results, Try.results13, go_sem, r0, r2]) rfl ⟨rfl, (by repeat (first | with_reducible exact r3 | with_reducible refine Ext.setCell ?_ (by simp) _))⟩
set_option maxHeartbeats 4000000 in
theorem of_2 (lim ry rm rd bp dy dm dd ofn ses : Int) (ser cat ofs : ByteArray) (a : Option Addr) (n cap : Nat) (w : World) : Calls Try.prog 13 #[.agg #[.int .i64 2, .string ser, .int .i64 lim, .string cat, .int .i64 ry, .int .i64 rm, .int .i64 rd, .int .i64 bp, .int .i64 dy, .int .i64 dm, .int .i64 dd, .slice a n cap, .string ofs, .int .i64 ofn, .int .i64 ses]] w fun e w' => e = .returned (.tuple #[.agg #[.iface 90 (.agg #[.string ser])], .int .i64 0]) ∧ Ext w w' := by
  have HM := Lib.hid fun z => made_2 lim ry rm rd bp dy dm dd ofn ses ser cat ofs a n cap z
  go_enter Try.func13, Try.ntmps13
  go_wp2_with (go_at_call 28; (with_reducible refine (HM.out _).mono ?_); rintro e x ⟨rfl, hx⟩; obtain ⟨r0, r1, r2, r3⟩ := of_keep hx; clear hx)
  refine bodyPost_ret (v := .tuple #[.agg #[.iface 90 (.agg #[.string ser])], .int .i64 0]) (by simp [results, Try.results13, go_sem, r0, r2]) rfl ⟨rfl, (by repeat (first | with_reducible exact r3 | with_reducible refine Ext.setCell ?_ (by simp) _))⟩
set_option maxHeartbeats 4000000 in
theorem of_3 (lim ry rm rd bp dy dm dd ofn ses : Int) (ser cat ofs : ByteArray) (a : Option Addr) (n cap : Nat) (w : World) : Calls Try.prog 13 #[.agg #[.int .i64 3, .string ser, .int .i64 lim, .string cat, .int .i64 ry, .int .i64 rm, .int .i64 rd, .int .i64 bp, .int .i64 dy, .int .i64 dm, .int .i64 dd, .slice a n cap, .string ofs, .int .i64 ofn, .int .i64 ses]] w fun e w' => e = .returned (.tuple #[.agg #[.iface 92 (.agg #[.string cat, .int .i64 ry, .int .i64 rm, .int .i64 rd, .int .i64 bp])], .int .i64 0]) ∧ Ext w w' := by
  have HM := Lib.hid fun z => made_3 lim ry rm rd bp dy dm dd ofn ses ser cat ofs a n cap z
  go_enter Try.func13, Try.ntmps13
  go_wp2_with (go_at_call 28; (with_reducible refine (HM.out _).mono ?_); rintro e x ⟨rfl, hx⟩; obtain ⟨r0, r1, r2, r3⟩ := of_keep hx; clear hx)
  refine bodyPost_ret (v := .tuple #[.agg #[.iface 92 (.agg #[.string cat, .int .i64 ry, .int .i64 rm, .int .i64 rd, .int .i64 bp])], .int .i64 0]) (by simp [results, Try.results13, go_sem, r0, r2]) rfl ⟨rfl, (by repeat (first | with_reducible exact r3 | with_reducible refine Ext.setCell ?_ (by simp) _))⟩
set_option maxHeartbeats 4000000 in
theorem of_4 (lim ry rm rd bp dy dm dd ofn ses : Int) (ser cat ofs : ByteArray) (a : Option Addr) (n cap : Nat) (ls : List Ln) (hn : ls.length = n) (hm : n ≤ 1000000) (w : World) (hl : SlS Ln.cells 4 w (.slice a n cap) ls) : Calls Try.prog 13 #[.agg #[.int .i64 4, .string ser, .int .i64 lim, .string cat, .int .i64 ry, .int .i64 rm, .int .i64 rd, .int .i64 bp, .int .i64 dy, .int .i64 dm, .int .i64 dd, .slice a n cap, .string ofs, .int .i64 ofn, .int .i64 ses]] w fun e w' => ∃ a' c', e = .returned (.tuple #[.agg #[.iface 96 (.agg #[.string ser, .int .i64 dy, .int .i64 dm, .int .i64 dd, .slice a' n c'])], .int .i64 0]) ∧ OwnS Ln.cells 4 107 w' w.heap.size (.slice a' n c') ls ∧ Ext w w' := by
  have HM := Lib.hid fun z (hz : Ext w z) => made_4 lim ry rm rd bp dy dm dd ofn ses ser cat ofs a n cap ls hn hm z (hl.ext hz)
  have HX : Hid (∀ o1 o2, Ext w ((w.alloc o1).alloc o2)) := Lib.hid fun o1 o2 => ((Ext.refl w).alloc o1).alloc o2
  clear hl hn
  go_enter Try.func13, Try.ntmps13
  go_wp2_with (go_at_call 28; (with_reducible refine (HM.out _ (HX.out _ _)).mono ?_); rintro e x ⟨a2, c2, rfl, ho, hx⟩; have HO := Lib.hid ho; obtain ⟨r0, r1, r2, r3⟩ := of_keep hx; clear hx ho)
  refine bodyPost_ret (v := .tuple #[.agg #[.iface 96 (.agg #[.string ser, .int .i64 dy, .int .i64 dm, .int .i64 dd, .slice a2 n c2])], .int .i64 0]) (by simp [results, Try.results13, go_sem, r0, r2]) rfl ⟨a2, c2, rfl, ?_, ?_⟩
  · refine OwnS.setO (OwnS.base HO.out (by simp; omega)) fun a m c' he => ?_
    have := (own_blkE HO.out a m c' he).2
    simp at this
    omega
  · exact r3.setCell (by simp) _
set_option maxHeartbeats 4000000 in
theorem of_5 (lim ry rm rd bp dy dm dd ofn ses : Int) (ser cat ofs : ByteArray) (a : Option Addr) (n cap : Nat) (w : World) : Calls Try.prog 13 #[.agg #[.int .i64 5, .string ser, .int .i64 lim, .string cat, .int .i64 ry, .int .i64 rm, .int .i64 rd, .int .i64 bp, .int .i64 dy, .int .i64 dm, .int .i64 dd, .slice a n cap, .string ofs, .int .i64 ofn, .int .i64 ses]] w fun e w' => e = .returned (.tuple #[.agg #[.iface 99 (.agg #[.string ser, .int .i64 dy, .int .i64 dm, .int .i64 dd, .string ofs, .int .i64 ofn])], .int .i64 0]) ∧ Ext w w' := by
  have HM := Lib.hid fun z => made_5 lim ry rm rd bp dy dm dd ofn ses ser cat ofs a n cap z
  go_enter Try.func13, Try.ntmps13
  go_wp2_with (go_at_call 28; (with_reducible refine (HM.out _).mono ?_); rintro e x ⟨rfl, hx⟩; obtain ⟨r0, r1, r2, r3⟩ := of_keep hx; clear hx)
  refine bodyPost_ret (v := .tuple #[.agg #[.iface 99 (.agg #[.string ser, .int .i64 dy, .int .i64 dm, .int .i64 dd, .string ofs, .int .i64 ofn])], .int .i64 0]) (by simp [results, Try.results13, go_sem, r0, r2]) rfl ⟨rfl, (by repeat (first | with_reducible exact r3 | with_reducible refine Ext.setCell ?_ (by simp) _))⟩
set_option maxHeartbeats 4000000 in
theorem of_6 (lim ry rm rd bp dy dm dd ofn ses : Int) (ser cat ofs : ByteArray) (a : Option Addr) (n cap : Nat) (w : World) : Calls Try.prog 13 #[.agg #[.int .i64 6, .string ser, .int .i64 lim, .string cat, .int .i64 ry, .int .i64 rm, .int .i64 rd, .int .i64 bp, .int .i64 dy, .int .i64 dm, .int .i64 dd, .slice a n cap, .string ofs, .int .i64 ofn, .int .i64 ses]] w fun e w' => e = .returned (.tuple #[.agg #[.iface 113 (.agg #[])], .int .i64 0]) ∧ Ext w w' := by
  have HM := Lib.hid fun z => made_6 lim ry rm rd bp dy dm dd ofn ses ser cat ofs a n cap z
  go_enter Try.func13, Try.ntmps13
  go_wp2_with (go_at_call 28; (with_reducible refine (HM.out _).mono ?_); rintro e x ⟨rfl, hx⟩; obtain ⟨r0, r1, r2, r3⟩ := of_keep hx; clear hx)
  refine bodyPost_ret (v := .tuple #[.agg #[.iface 113 (.agg #[])], .int .i64 0]) (by simp [results, Try.results13, go_sem, r0, r2]) rfl ⟨rfl, (by repeat (first | with_reducible exact r3 | with_reducible refine Ext.setCell ?_ (by simp) _))⟩
set_option maxHeartbeats 4000000 in
theorem of_7 (lim ry rm rd bp dy dm dd ofn ses : Int) (ser cat ofs : ByteArray) (a : Option Addr) (n cap : Nat) (w : World) : Calls Try.prog 13 #[.agg #[.int .i64 7, .string ser, .int .i64 lim, .string cat, .int .i64 ry, .int .i64 rm, .int .i64 rd, .int .i64 bp, .int .i64 dy, .int .i64 dm, .int .i64 dd, .slice a n cap, .string ofs, .int .i64 ofn, .int .i64 ses]] w fun e w' => e = .returned (.tuple #[.agg #[.iface 101 (.agg #[.int .i64 ses])], .int .i64 0]) ∧ Ext w w' := by
  have HM := Lib.hid fun z => made_7 lim ry rm rd bp dy dm dd ofn ses ser cat ofs a n cap z
  go_enter Try.func13, Try.ntmps13
  go_wp2_with (go_at_call 28; (with_reducible refine (HM.out _).mono ?_); rintro e x ⟨rfl, hx⟩; obtain ⟨r0, r1, r2, r3⟩ := of_keep hx; clear hx)
  refine bodyPost_ret (v := .tuple #[.agg #[.iface 101 (.agg #[.int .i64 ses])], .int .i64 0]) (by simp [results, Try.results13, go_sem, r0, r2]) rfl ⟨rfl, (by repeat (first | with_reducible exact r3 | with_reducible refine Ext.setCell ?_ (by simp) _))⟩
set_option maxHeartbeats 4000000 in
theorem of_8 (lim ry rm rd bp dy dm dd ofn ses : Int) (ser cat ofs : ByteArray) (a : Option Addr) (n cap : Nat) (w : World) : Calls Try.prog 13 #[.agg #[.int .i64 8, .string ser, .int .i64 lim, .string cat, .int .i64 ry, .int .i64 rm, .int .i64 rd, .int .i64 bp, .int .i64 dy, .int .i64 dm, .int .i64 dd, .slice a n cap, .string ofs, .int .i64 ofn, .int .i64 ses]] w fun e w' => e = .returned (.tuple #[.agg #[.iface 102 (.agg #[.string ser])], .int .i64 0]) ∧ Ext w w' := by
  have HM := Lib.hid fun z => made_8 lim ry rm rd bp dy dm dd ofn ses ser cat ofs a n cap z
  go_enter Try.func13, Try.ntmps13
  go_wp2_with (go_at_call 28; (with_reducible refine (HM.out _).mono ?_); rintro e x ⟨rfl, hx⟩; obtain ⟨r0, r1, r2, r3⟩ := of_keep hx; clear hx)
  refine bodyPost_ret (v := .tuple #[.agg #[.iface 102 (.agg #[.string ser])], .int .i64 0]) (by simp [results, Try.results13, go_sem, r0, r2]) rfl ⟨rfl, (by repeat (first | with_reducible exact r3 | with_reducible refine Ext.setCell ?_ (by simp) _))⟩
set_option maxHeartbeats 4000000 in
theorem of_0 (kd lim ry rm rd bp dy dm dd ofn ses : Int) (ser cat ofs : ByteArray) (a : Option Addr) (n cap : Nat) (hk : kd < 1 ∨ 8 < kd) (w : World) : Calls Try.prog 13 #[.agg #[.int .i64 kd, .string ser, .int .i64 lim, .string cat, .int .i64 ry, .int .i64 rm, .int .i64 rd, .int .i64 bp, .int .i64 dy, .int .i64 dm, .int .i64 dd, .slice a n cap, .string ofs, .int .i64 ofn, .int .i64 ses]] w fun e w' => e = .returned (.tuple #[.agg #[.nilIface], .int .i64 17]) ∧ Ext w w' := by
  have HM := Lib.hid fun z => made_0 kd lim ry rm rd bp dy dm dd ofn ses ser cat ofs a n cap hk z
  clear hk
  go_enter Try.func13, Try.ntmps13
  go_wp2_with (go_at_call 28; (with_reducible refine (HM.out _).mono ?_); rintro e x ⟨rfl, hx⟩; obtain ⟨r0, r1, r2, r3⟩ := of_keep hx; clear hx)
  refine bodyPost_ret (v := .tuple #[.agg #[.nilIface], .int .i64 17]) (by simp [results, Try.results13, go_sem, r0, r2]) rfl ⟨rfl, (by repeat (first | with_reducible exact r3 | with_reducible refine Ext.setCell ?_ (by simp) _))⟩
end
section

theorem kind_1 (lim : Int) (ser : ByteArray) (w : World) : Calls Try.prog 35 #[.agg #[.iface 88 (.agg #[.string ser, .int .i64 lim])]] w fun e w' => e = .returned (.int .i64 1) ∧ Ext w w' := by
  have hm : ∀ w : World, (method 236 88 (.agg #[.string ser, .int .i64 lim]) "impost/command.kind").run Try.prog w = .ok (69, .agg #[.string ser, .int .i64 lim]) w := fun _ => by kernel_rfl
  go_enter Try.func35, Try.ntmps35
  go_wp2
  go_ret
  exact ⟨rfl, (by repeat (first | exact Ext.refl _ | assumption | refine Ext.trans ?_ (by assumption) | refine Ext.alloc ?_ _ | refine Ext.drew ?_ | refine Ext.drewN ?_ _))⟩
theorem kind_2 (ser : ByteArray) (w : World) : Calls Try.prog 35 #[.agg #[.iface 90 (.agg #[.string ser])]] w fun e w' => e = .returned (.int .i64 2) ∧ Ext w w' := by
  have hm : ∀ w : World, (method 236 90 (.agg #[.string ser]) "impost/command.kind").run Try.prog w = .ok (70, .agg #[.string ser]) w := fun _ => by kernel_rfl
  go_enter Try.func35, Try.ntmps35
  go_wp2
  go_ret
  exact ⟨rfl, (by repeat (first | exact Ext.refl _ | assumption | refine Ext.trans ?_ (by assumption) | refine Ext.alloc ?_ _ | refine Ext.drew ?_ | refine Ext.drewN ?_ _))⟩
theorem kind_3 (ry rm rd bp : Int) (cat : ByteArray) (w : World) : Calls Try.prog 35 #[.agg #[.iface 92 (.agg #[.string cat, .int .i64 ry, .int .i64 rm, .int .i64 rd, .int .i64 bp])]] w fun e w' => e = .returned (.int .i64 3) ∧ Ext w w' := by
  have hm : ∀ w : World, (method 236 92 (.agg #[.string cat, .int .i64 ry, .int .i64 rm, .int .i64 rd, .int .i64 bp]) "impost/command.kind").run Try.prog w = .ok (71, .agg #[.string cat, .int .i64 ry, .int .i64 rm, .int .i64 rd, .int .i64 bp]) w := fun _ => by kernel_rfl
  go_enter Try.func35, Try.ntmps35
  go_wp2
  go_ret
  exact ⟨rfl, (by repeat (first | exact Ext.refl _ | assumption | refine Ext.trans ?_ (by assumption) | refine Ext.alloc ?_ _ | refine Ext.drew ?_ | refine Ext.drewN ?_ _))⟩
theorem kind_4 (dy dm dd : Int) (ser : ByteArray) (a : Option Addr) (n cap : Nat) (w : World) : Calls Try.prog 35 #[.agg #[.iface 96 (.agg #[.string ser, .int .i64 dy, .int .i64 dm, .int .i64 dd, .slice a n cap])]] w fun e w' => e = .returned (.int .i64 4) ∧ Ext w w' := by
  have hm : ∀ w : World, (method 236 96 (.agg #[.string ser, .int .i64 dy, .int .i64 dm, .int .i64 dd, .slice a n cap]) "impost/command.kind").run Try.prog w = .ok (72, .agg #[.string ser, .int .i64 dy, .int .i64 dm, .int .i64 dd, .slice a n cap]) w := fun _ => by kernel_rfl
  go_enter Try.func35, Try.ntmps35
  go_wp2
  go_ret
  exact ⟨rfl, (by repeat (first | exact Ext.refl _ | assumption | refine Ext.trans ?_ (by assumption) | refine Ext.alloc ?_ _ | refine Ext.drew ?_ | refine Ext.drewN ?_ _))⟩
theorem kind_5 (dy dm dd ofn : Int) (ser ofs : ByteArray) (w : World) : Calls Try.prog 35 #[.agg #[.iface 99 (.agg #[.string ser, .int .i64 dy, .int .i64 dm, .int .i64 dd, .string ofs, .int .i64 ofn])]] w fun e w' => e = .returned (.int .i64 5) ∧ Ext w w' := by
  have hm : ∀ w : World, (method 236 99 (.agg #[.string ser, .int .i64 dy, .int .i64 dm, .int .i64 dd, .string ofs, .int .i64 ofn]) "impost/command.kind").run Try.prog w = .ok (73, .agg #[.string ser, .int .i64 dy, .int .i64 dm, .int .i64 dd, .string ofs, .int .i64 ofn]) w := fun _ => by kernel_rfl
  go_enter Try.func35, Try.ntmps35
  go_wp2
  go_ret
  exact ⟨rfl, (by repeat (first | exact Ext.refl _ | assumption | refine Ext.trans ?_ (by assumption) | refine Ext.alloc ?_ _ | refine Ext.drew ?_ | refine Ext.drewN ?_ _))⟩
theorem kind_6 (w : World) : Calls Try.prog 35 #[.agg #[.iface 113 (.agg #[])]] w fun e w' => e = .returned (.int .i64 6) ∧ Ext w w' := by
  have hm : ∀ w : World, (method 236 113 (.agg #[]) "impost/command.kind").run Try.prog w = .ok (76, .agg #[]) w := fun _ => by kernel_rfl
  go_enter Try.func35, Try.ntmps35
  go_wp2
  go_ret
  exact ⟨rfl, (by repeat (first | exact Ext.refl _ | assumption | refine Ext.trans ?_ (by assumption) | refine Ext.alloc ?_ _ | refine Ext.drew ?_ | refine Ext.drewN ?_ _))⟩
theorem kind_7 (ses : Int) (w : World) : Calls Try.prog 35 #[.agg #[.iface 101 (.agg #[.int .i64 ses])]] w fun e w' => e = .returned (.int .i64 7) ∧ Ext w w' := by
  have hm : ∀ w : World, (method 236 101 (.agg #[.int .i64 ses]) "impost/command.kind").run Try.prog w = .ok (74, .agg #[.int .i64 ses]) w := fun _ => by kernel_rfl
  go_enter Try.func35, Try.ntmps35
  go_wp2
  go_ret
  exact ⟨rfl, (by repeat (first | exact Ext.refl _ | assumption | refine Ext.trans ?_ (by assumption) | refine Ext.alloc ?_ _ | refine Ext.drew ?_ | refine Ext.drewN ?_ _))⟩
theorem kind_8 (ser : ByteArray) (w : World) : Calls Try.prog 35 #[.agg #[.iface 102 (.agg #[.string ser])]] w fun e w' => e = .returned (.int .i64 8) ∧ Ext w w' := by
  have hm : ∀ w : World, (method 236 102 (.agg #[.string ser]) "impost/command.kind").run Try.prog w = .ok (75, .agg #[.string ser]) w := fun _ => by kernel_rfl
  go_enter Try.func35, Try.ntmps35
  go_wp2
  go_ret
  exact ⟨rfl, (by repeat (first | exact Ext.refl _ | assumption | refine Ext.trans ?_ (by assumption) | refine Ext.alloc ?_ _ | refine Ext.drew ?_ | refine Ext.drewN ?_ _))⟩
theorem kind_0 (w : World) : Calls Try.prog 35 #[.agg #[.nilIface]] w fun e w' => e = .returned (.int .i64 0) ∧ Ext w w' := by
  go_enter Try.func35, Try.ntmps35
  go_wp2
  go_ret
  exact ⟨rfl, (by repeat (first | exact Ext.refl _ | assumption | refine Ext.trans ?_ (by assumption) | refine Ext.alloc ?_ _ | refine Ext.drew ?_ | refine Ext.drewN ?_ _))⟩
end
end Go.Proofs.Ytochgmpcdmahkaa
