/- Package command: a flat command as cells; what a Command holds; lines, made, Of, Kind. (Written by genCmdA.py.) -/
import Derived.Test.YtochgmpcdmahkaaCLn
import Derived.Test.YtochgmpcdmahkaaBlk
import Derived.Deep.RegionHeld3
namespace Go.Proofs.Ytochgmpcdmahkaa
open Go.RowKit

structure Cm where
  kd : Int
  ser : ByteArray
  lim : Int
  cat : ByteArray
  ry : Int
  rm : Int
  rd : Int
  bp : Int
  dy : Int
  dm : Int
  dd : Int
  ofs : ByteArray
  ofn : Int
  ses : Int
def Cm.z : Cm := ⟨0, ⟨#[]⟩, 0, ⟨#[]⟩, 0, 0, 0, 0, 0, 0, 0, ⟨#[]⟩, 0, 0⟩
def Cm.cells (c : Cm) (lv : Value) : List Value := [.int .i64 c.kd, .string c.ser, .int .i64 c.lim, .string c.cat, .int .i64 c.ry, .int .i64 c.rm, .int .i64 c.rd, .int .i64 c.bp, .int .i64 c.dy, .int .i64 c.dm, .int .i64 c.dd, lv, .string c.ofs, .int .i64 c.ofn, .int .i64 c.ses]
def Cm.agg (c : Cm) (lv : Value) : Value := .agg #[.int .i64 c.kd, .string c.ser, .int .i64 c.lim, .string c.cat, .int .i64 c.ry, .int .i64 c.rm, .int .i64 c.rd, .int .i64 c.bp, .int .i64 c.dy, .int .i64 c.dm, .int .i64 c.dd, lv, .string c.ofs, .int .i64 c.ofn, .int .i64 c.ses]
/-- What a Command holds. -/
def Cm.ord (c : Cm) (lv : Value) : Value :=
  if c.kd = 1 then .iface 88 (.agg #[.string c.ser, .int .i64 c.lim])
  else if c.kd = 2 then .iface 90 (.agg #[.string c.ser])
  else if c.kd = 3 then .iface 92 (.agg #[.string c.cat, .int .i64 c.ry, .int .i64 c.rm, .int .i64 c.rd, .int .i64 c.bp])
  else if c.kd = 4 then .iface 96 (.agg #[.string c.ser, .int .i64 c.dy, .int .i64 c.dm, .int .i64 c.dd, lv])
  else if c.kd = 5 then .iface 99 (.agg #[.string c.ser, .int .i64 c.dy, .int .i64 c.dm, .int .i64 c.dd, .string c.ofs, .int .i64 c.ofn])
  else if c.kd = 6 then .iface 113 (.agg #[])
  else if c.kd = 7 then .iface 101 (.agg #[.int .i64 c.ses])
  else if c.kd = 8 then .iface 102 (.agg #[.string c.ser])
  else .nilIface
/-- The fields of its kind alone. -/
def Cm.bare (c : Cm) : Cm :=
  if c.kd = 1 then ⟨1, c.ser, c.lim, ⟨#[]⟩, 0, 0, 0, 0, 0, 0, 0, ⟨#[]⟩, 0, 0⟩
  else if c.kd = 2 then ⟨2, c.ser, 0, ⟨#[]⟩, 0, 0, 0, 0, 0, 0, 0, ⟨#[]⟩, 0, 0⟩
  else if c.kd = 3 then ⟨3, ⟨#[]⟩, 0, c.cat, c.ry, c.rm, c.rd, c.bp, 0, 0, 0, ⟨#[]⟩, 0, 0⟩
  else if c.kd = 4 then ⟨4, c.ser, 0, ⟨#[]⟩, 0, 0, 0, 0, c.dy, c.dm, c.dd, ⟨#[]⟩, 0, 0⟩
  else if c.kd = 5 then ⟨5, c.ser, 0, ⟨#[]⟩, 0, 0, 0, 0, c.dy, c.dm, c.dd, c.ofs, c.ofn, 0⟩
  else if c.kd = 6 then ⟨6, ⟨#[]⟩, 0, ⟨#[]⟩, 0, 0, 0, 0, 0, 0, 0, ⟨#[]⟩, 0, 0⟩
  else if c.kd = 7 then ⟨7, ⟨#[]⟩, 0, ⟨#[]⟩, 0, 0, 0, 0, 0, 0, 0, ⟨#[]⟩, 0, c.ses⟩
  else if c.kd = 8 then ⟨8, c.ser, 0, ⟨#[]⟩, 0, 0, 0, 0, 0, 0, 0, ⟨#[]⟩, 0, 0⟩
  else Cm.z
def Cm.ls (c : Cm) (ls : List Ln) : List Ln := if c.kd = 4 then ls else []
def Cm.Ok (c : Cm) : Prop := 1 ≤ c.kd ∧ c.kd ≤ 8
instance (c : Cm) : Decidable c.Ok := inferInstanceAs (Decidable (_ ∧ _))
theorem kd_cases (k : Int) : k = 1 ∨ k = 2 ∨ k = 3 ∨ k = 4 ∨ k = 5 ∨ k = 6 ∨ k = 7 ∨ k = 8 ∨ (k < 1 ∨ 8 < k) := by omega
set_option maxHeartbeats 2000000 in
theorem lines_any (a : Option Addr) (n cap : Nat) (ls : List Ln) (hn : ls.length = n) (hm : n ≤ 1000000) (w : World) (hl : SlS Ln.cells 4 w (.slice a n cap) ls) : Calls Try.prog 36 #[.slice a n cap] w fun e w' => ∃ a' c', e = .returned (.slice a' n c') ∧ OwnS Ln.cells 4 107 w' w.heap.size (.slice a' n c') ls ∧ Ext w w' := by
  obtain ⟨i0, hi, hz0, hz1, hz2⟩ := info_parts Try.infoLn
  have hsrc := src_sl (P := Try.prog) Try.underlying29 hl (Ln.one ls)
  rw [hn] at hsrc
  have HN := Lib.hid hn
  clear hn hl
  go_enter Try.func36, Try.ntmps36
  go_wp2_with (at_builtin; refine wpList_own_src w rfl _ _ 29 29 rfl w.heap.size 107 i0 _ 4 48 Try.underlying29 hi hz0 hz1 hz2 rfl (by decide) _ _ 0 n [] _ (World.ownsRow_nil _ _ _ _) hsrc rfl rfl ?c1 ?c2 ?c3 ?_)
  case c1 => unfold maxLen; omega
  case c2 => omega
  case c3 => omega
  intro v' w' ho hx
  obtain ⟨_, _, a', c', hv, _⟩ := SlR.of_own ho
  subst hv
  go_wp2
  go_ret
  refine ⟨_, _, rfl, ?_, hx⟩
  unfold OwnS
  rw [HN.out]
  simpa using ho
theorem made4_keep (w : World) (ser : ByteArray) (lim : Int) (cat : ByteArray) (ry : Int) (rm : Int) (rd : Int) (bp : Int) (dy : Int) (dm : Int) (dd : Int) (ofs : ByteArray) (ofn : Int) (ses : Int) (a : Option Addr) (n cap : Nat) : ∀ z, Ext (w.alloc (.cells #[.int .i64 4, .string ser, .int .i64 lim, .string cat, .int .i64 ry, .int .i64 rm, .int .i64 rd, .int .i64 bp, .int .i64 dy, .int .i64 dm, .int .i64 dd, .slice a n cap, .string ofs, .int .i64 ofn, .int .i64 ses] 33)) z → Ext (w.alloc (.cells #[.int .i64 4, .string ser, .int .i64 lim, .string cat, .int .i64 ry, .int .i64 rm, .int .i64 rd, .int .i64 bp, .int .i64 dy, .int .i64 dm, .int .i64 dd, .slice a n cap, .string ofs, .int .i64 ofn, .int .i64 ses] 33)) z ∧ z.cell? ⟨w.heap.size, 1, none⟩ = some (.string ser) ∧ z.cell? ⟨w.heap.size, 8, none⟩ = some (.int .i64 dy) ∧ z.cell? ⟨w.heap.size, 9, none⟩ = some (.int .i64 dm) ∧ z.cell? ⟨w.heap.size, 10, none⟩ = some (.int .i64 dd) ∧ z.cell? ⟨w.heap.size, 11, none⟩ = some (.slice a n cap) :=
  fun z h => ⟨h, alloc_cell h 1 _ rfl, alloc_cell h 8 _ rfl, alloc_cell h 9 _ rfl, alloc_cell h 10 _ rfl, alloc_cell h 11 _ rfl⟩
set_option maxHeartbeats 4000000 in
theorem made_1 (lim ry rm rd bp dy dm dd ofn ses : Int) (ser cat ofs : ByteArray) (a : Option Addr) (n cap : Nat) (w : World) : Calls Try.prog 28 #[.agg #[.int .i64 1, .string ser, .int .i64 lim, .string cat, .int .i64 ry, .int .i64 rm, .int .i64 rd, .int .i64 bp, .int .i64 dy, .int .i64 dm, .int .i64 dd, .slice a n cap, .string ofs, .int .i64 ofn, .int .i64 ses]] w fun e w' => e = .returned (.iface 88 (.agg #[.string ser, .int .i64 lim])) ∧ Ext w w' := by
  go_enter Try.func28, Try.ntmps28
  go_wp2
  go_ret
  exact ⟨rfl, (by repeat (first | exact Ext.refl _ | assumption | refine Ext.trans ?_ (by assumption) | refine Ext.alloc ?_ _ | refine Ext.drew ?_ | refine Ext.drewN ?_ _))⟩
set_option maxHeartbeats 4000000 in
theorem made_2 (lim ry rm rd bp dy dm dd ofn ses : Int) (ser cat ofs : ByteArray) (a : Option Addr) (n cap : Nat) (w : World) : Calls Try.prog 28 #[.agg #[.int .i64 2, .string ser, .int .i64 lim, .string cat, .int .i64 ry, .int .i64 rm, .int .i64 rd, .int .i64 bp, .int .i64 dy, .int .i64 dm, .int .i64 dd, .slice a n cap, .string ofs, .int .i64 ofn, .int .i64 ses]] w fun e w' => e = .returned (.iface 90 (.agg #[.string ser])) ∧ Ext w w' := by
  go_enter Try.func28, Try.ntmps28
  go_wp2
  go_ret
  exact ⟨rfl, (by repeat (first | exact Ext.refl _ | assumption | refine Ext.trans ?_ (by assumption) | refine Ext.alloc ?_ _ | refine Ext.drew ?_ | refine Ext.drewN ?_ _))⟩
set_option maxHeartbeats 4000000 in
theorem made_3 (lim ry rm rd bp dy dm dd ofn ses : Int) (ser cat ofs : ByteArray) (a : Option Addr) (n cap : Nat) (w : World) : Calls Try.prog 28 #[.agg #[.int .i64 3, .string ser, .int .i64 lim, .string cat, .int .i64 ry, .int .i64 rm, .int .i64 rd, .int .i64 bp, .int .i64 dy, .int .i64 dm, .int .i64 dd, .slice a n cap, .string ofs, .int .i64 ofn, .int .i64 ses]] w fun e w' => e = .returned (.iface 92 (.agg #[.string cat, .int .i64 ry, .int .i64 rm, .int .i64 rd, .int .i64 bp])) ∧ Ext w w' := by
  go_enter Try.func28, Try.ntmps28
  go_wp2
  go_ret
  exact ⟨rfl, (by repeat (first | exact Ext.refl _ | assumption | refine Ext.trans ?_ (by assumption) | refine Ext.alloc ?_ _ | refine Ext.drew ?_ | refine Ext.drewN ?_ _))⟩
set_option maxHeartbeats 4000000 in
theorem made_4 (lim ry rm rd bp dy dm dd ofn ses : Int) (ser cat ofs : ByteArray) (a : Option Addr) (n cap : Nat) (ls : List Ln) (hn : ls.length = n) (hm : n ≤ 1000000) (w : World) (hl : SlS Ln.cells 4 w (.slice a n cap) ls) : Calls Try.prog 28 #[.agg #[.int .i64 4, .string ser, .int .i64 lim, .string cat, .int .i64 ry, .int .i64 rm, .int .i64 rd, .int .i64 bp, .int .i64 dy, .int .i64 dm, .int .i64 dd, .slice a n cap, .string ofs, .int .i64 ofn, .int .i64 ses]] w fun e w' => ∃ a' c', e = .returned (.iface 96 (.agg #[.string ser, .int .i64 dy, .int .i64 dm, .int .i64 dd, .slice a' n c'])) ∧ OwnS Ln.cells 4 107 w' w.heap.size (.slice a' n c') ls ∧ Ext w w' := by
  have hL := fun z (hz : Ext w z) => lines_any a n cap ls hn hm z (hl.ext hz)
  have HL := Lib.hid hL
  clear hL hl hn
  have HM := Lib.hid (made4_keep w ser lim cat ry rm rd bp dy dm dd ofs ofn ses a n cap)
  go_enter Try.func28, Try.ntmps28
  go_wp2
  go_region_held3 (fun z => Ext (w.alloc (.cells #[.int .i64 4, .string ser, .int .i64 lim, .string cat, .int .i64 ry, .int .i64 rm, .int .i64 rd, .int .i64 bp, .int .i64 dy, .int .i64 dm, .int .i64 dd, .slice a n cap, .string ofs, .int .i64 ofn, .int .i64 ses] 33)) z ∧ z.cell? ⟨w.heap.size, 1, none⟩ = some (.string ser) ∧ z.cell? ⟨w.heap.size, 8, none⟩ = some (.int .i64 dy) ∧ z.cell? ⟨w.heap.size, 9, none⟩ = some (.int .i64 dm) ∧ z.cell? ⟨w.heap.size, 10, none⟩ = some (.int .i64 dd) ∧ z.cell? ⟨w.heap.size, 11, none⟩ = some (.slice a n cap))
    ((refine HM.out _ ?_; repeat (first | exact Ext.refl _ | assumption | refine Ext.trans ?_ (by assumption) | refine Ext.alloc ?_ _ | refine Ext.drew ?_ | refine Ext.drewN ?_ _)))
    ((go_at_call 36; (with_reducible refine (HL.out _ (by repeat (first | exact Ext.refl _ | assumption | refine Ext.trans ?_ (by assumption) | refine Ext.alloc ?_ _ | refine Ext.drew ?_ | refine Ext.drewN ?_ _))).mono ?_); rintro e x ⟨a2, c2, rfl, ho, hx⟩))
  all_goals
    go_wp2
    go_ret
    exact ⟨a2, c2, rfl, OwnS.base ho (by simp), (by repeat (first | exact Ext.refl _ | assumption | refine Ext.trans ?_ (by assumption) | refine Ext.alloc ?_ _ | refine Ext.drew ?_ | refine Ext.drewN ?_ _))⟩
set_option maxHeartbeats 4000000 in
theorem made_5 (lim ry rm rd bp dy dm dd ofn ses : Int) (ser cat ofs : ByteArray) (a : Option Addr) (n cap : Nat) (w : World) : Calls Try.prog 28 #[.agg #[.int .i64 5, .string ser, .int .i64 lim, .string cat, .int .i64 ry, .int .i64 rm, .int .i64 rd, .int .i64 bp, .int .i64 dy, .int .i64 dm, .int .i64 dd, .slice a n cap, .string ofs, .int .i64 ofn, .int .i64 ses]] w fun e w' => e = .returned (.iface 99 (.agg #[.string ser, .int .i64 dy, .int .i64 dm, .int .i64 dd, .string ofs, .int .i64 ofn])) ∧ Ext w w' := by
  go_enter Try.func28, Try.ntmps28
  go_wp2
  go_ret
  exact ⟨rfl, (by repeat (first | exact Ext.refl _ | assumption | refine Ext.trans ?_ (by assumption) | refine Ext.alloc ?_ _ | refine Ext.drew ?_ | refine Ext.drewN ?_ _))⟩
set_option maxHeartbeats 4000000 in
theorem made_6 (lim ry rm rd bp dy dm dd ofn ses : Int) (ser cat ofs : ByteArray) (a : Option Addr) (n cap : Nat) (w : World) : Calls Try.prog 28 #[.agg #[.int .i64 6, .string ser, .int .i64 lim, .string cat, .int .i64 ry, .int .i64 rm, .int .i64 rd, .int .i64 bp, .int .i64 dy, .int .i64 dm, .int .i64 dd, .slice a n cap, .string ofs, .int .i64 ofn, .int .i64 ses]] w fun e w' => e = .returned (.iface 113 (.agg #[])) ∧ Ext w w' := by
  go_enter Try.func28, Try.ntmps28
  go_wp2
  go_ret
  exact ⟨rfl, (by repeat (first | exact Ext.refl _ | assumption | refine Ext.trans ?_ (by assumption) | refine Ext.alloc ?_ _ | refine Ext.drew ?_ | refine Ext.drewN ?_ _))⟩
set_option maxHeartbeats 4000000 in
theorem made_7 (lim ry rm rd bp dy dm dd ofn ses : Int) (ser cat ofs : ByteArray) (a : Option Addr) (n cap : Nat) (w : World) : Calls Try.prog 28 #[.agg #[.int .i64 7, .string ser, .int .i64 lim, .string cat, .int .i64 ry, .int .i64 rm, .int .i64 rd, .int .i64 bp, .int .i64 dy, .int .i64 dm, .int .i64 dd, .slice a n cap, .string ofs, .int .i64 ofn, .int .i64 ses]] w fun e w' => e = .returned (.iface 101 (.agg #[.int .i64 ses])) ∧ Ext w w' := by
  go_enter Try.func28, Try.ntmps28
  go_wp2
  go_ret
  exact ⟨rfl, (by repeat (first | exact Ext.refl _ | assumption | refine Ext.trans ?_ (by assumption) | refine Ext.alloc ?_ _ | refine Ext.drew ?_ | refine Ext.drewN ?_ _))⟩
set_option maxHeartbeats 4000000 in
theorem made_8 (lim ry rm rd bp dy dm dd ofn ses : Int) (ser cat ofs : ByteArray) (a : Option Addr) (n cap : Nat) (w : World) : Calls Try.prog 28 #[.agg #[.int .i64 8, .string ser, .int .i64 lim, .string cat, .int .i64 ry, .int .i64 rm, .int .i64 rd, .int .i64 bp, .int .i64 dy, .int .i64 dm, .int .i64 dd, .slice a n cap, .string ofs, .int .i64 ofn, .int .i64 ses]] w fun e w' => e = .returned (.iface 102 (.agg #[.string ser])) ∧ Ext w w' := by
  go_enter Try.func28, Try.ntmps28
  go_wp2
  go_ret
  exact ⟨rfl, (by repeat (first | exact Ext.refl _ | assumption | refine Ext.trans ?_ (by assumption) | refine Ext.alloc ?_ _ | refine Ext.drew ?_ | refine Ext.drewN ?_ _))⟩
set_option maxHeartbeats 4000000 in
theorem made_0 (kd lim ry rm rd bp dy dm dd ofn ses : Int) (ser cat ofs : ByteArray) (a : Option Addr) (n cap : Nat) (hk : kd < 1 ∨ 8 < kd) (w : World) : Calls Try.prog 28 #[.agg #[.int .i64 kd, .string ser, .int .i64 lim, .string cat, .int .i64 ry, .int .i64 rm, .int .i64 rd, .int .i64 bp, .int .i64 dy, .int .i64 dm, .int .i64 dd, .slice a n cap, .string ofs, .int .i64 ofn, .int .i64 ses]] w fun e w' => e = .returned .nilIface ∧ Ext w w' := by
  have e1 : (kd == 1) = false := by simp; omega
  have e2 : (kd == 2) = false := by simp; omega
  have e3 : (kd == 3) = false := by simp; omega
  have e4 : (kd == 4) = false := by simp; omega
  have e5 : (kd == 5) = false := by simp; omega
  have e6 : (kd == 6) = false := by simp; omega
  have e7 : (kd == 7) = false := by simp; omega
  have e8 : (kd == 8) = false := by simp; omega
  clear hk
  go_enter Try.func28, Try.ntmps28
  go_wp2
  go_ret
  exact ⟨rfl, (by repeat (first | exact Ext.refl _ | assumption | refine Ext.trans ?_ (by assumption) | refine Ext.alloc ?_ _ | refine Ext.drew ?_ | refine Ext.drewN ?_ _))⟩
end Go.Proofs.Ytochgmpcdmahkaa
