/- Package command: Kind. (Written by genCmdK.py.) -/
import Derived.Test.YteenkbfmlnpmlaaCmdA
namespace Go.Proofs.Yteenkbfmlnpmlaa
open Go.RowKit

theorem kind_1 (lim : Int) (ser : ByteArray) (w : World) : Calls Try.prog 21 #[.agg #[.iface 85 (.agg #[.string ser, .int .i64 lim])]] w fun e w' => e = .returned (.int .i64 1) ∧ Ext w w' := by
  have hm : ∀ w : World, (method 239 85 (.agg #[.string ser, .int .i64 lim]) "impost/command.kind").run Try.prog w = .ok (79, .agg #[.string ser, .int .i64 lim]) w := fun _ => by kernel_rfl
  go_enter Try.func21, Try.ntmps21
  go_wp2
  go_ret
  exact ⟨rfl, (by repeat (first | exact Ext.refl _ | assumption | refine Ext.trans ?_ (by assumption) | refine Ext.alloc ?_ _ | refine Ext.drew ?_ | refine Ext.drewN ?_ _))⟩
theorem kind_2 (ser : ByteArray) (w : World) : Calls Try.prog 21 #[.agg #[.iface 87 (.agg #[.string ser])]] w fun e w' => e = .returned (.int .i64 2) ∧ Ext w w' := by
  have hm : ∀ w : World, (method 239 87 (.agg #[.string ser]) "impost/command.kind").run Try.prog w = .ok (80, .agg #[.string ser]) w := fun _ => by kernel_rfl
  go_enter Try.func21, Try.ntmps21
  go_wp2
  go_ret
  exact ⟨rfl, (by repeat (first | exact Ext.refl _ | assumption | refine Ext.trans ?_ (by assumption) | refine Ext.alloc ?_ _ | refine Ext.drew ?_ | refine Ext.drewN ?_ _))⟩
theorem kind_3 (ry rm rd bp : Int) (cat : ByteArray) (w : World) : Calls Try.prog 21 #[.agg #[.iface 89 (.agg #[.string cat, .int .i64 ry, .int .i64 rm, .int .i64 rd, .int .i64 bp])]] w fun e w' => e = .returned (.int .i64 3) ∧ Ext w w' := by
  have hm : ∀ w : World, (method 239 89 (.agg #[.string cat, .int .i64 ry, .int .i64 rm, .int .i64 rd, .int .i64 bp]) "impost/command.kind").run Try.prog w = .ok (81, .agg #[.string cat, .int .i64 ry, .int .i64 rm, .int .i64 rd, .int .i64 bp]) w := fun _ => by kernel_rfl
  go_enter Try.func21, Try.ntmps21
  go_wp2
  go_ret
  exact ⟨rfl, (by repeat (first | exact Ext.refl _ | assumption | refine Ext.trans ?_ (by assumption) | refine Ext.alloc ?_ _ | refine Ext.drew ?_ | refine Ext.drewN ?_ _))⟩
theorem kind_4 (dy dm dd : Int) (ser : ByteArray) (a : Option Addr) (n cap : Nat) (w : World) : Calls Try.prog 21 #[.agg #[.iface 91 (.agg #[.string ser, .int .i64 dy, .int .i64 dm, .int .i64 dd, .slice a n cap])]] w fun e w' => e = .returned (.int .i64 4) ∧ Ext w w' := by
  have hm : ∀ w : World, (method 239 91 (.agg #[.string ser, .int .i64 dy, .int .i64 dm, .int .i64 dd, .slice a n cap]) "impost/command.kind").run Try.prog w = .ok (82, .agg #[.string ser, .int .i64 dy, .int .i64 dm, .int .i64 dd, .slice a n cap]) w := fun _ => by kernel_rfl
  go_enter Try.func21, Try.ntmps21
  go_wp2
  go_ret
  exact ⟨rfl, (by repeat (first | exact Ext.refl _ | assumption | refine Ext.trans ?_ (by assumption) | refine Ext.alloc ?_ _ | refine Ext.drew ?_ | refine Ext.drewN ?_ _))⟩
theorem kind_5 (dy dm dd ofn : Int) (ser ofs : ByteArray) (w : World) : Calls Try.prog 21 #[.agg #[.iface 94 (.agg #[.string ser, .int .i64 dy, .int .i64 dm, .int .i64 dd, .string ofs, .int .i64 ofn])]] w fun e w' => e = .returned (.int .i64 5) ∧ Ext w w' := by
  have hm : ∀ w : World, (method 239 94 (.agg #[.string ser, .int .i64 dy, .int .i64 dm, .int .i64 dd, .string ofs, .int .i64 ofn]) "impost/command.kind").run Try.prog w = .ok (83, .agg #[.string ser, .int .i64 dy, .int .i64 dm, .int .i64 dd, .string ofs, .int .i64 ofn]) w := fun _ => by kernel_rfl
  go_enter Try.func21, Try.ntmps21
  go_wp2
  go_ret
  exact ⟨rfl, (by repeat (first | exact Ext.refl _ | assumption | refine Ext.trans ?_ (by assumption) | refine Ext.alloc ?_ _ | refine Ext.drew ?_ | refine Ext.drewN ?_ _))⟩
theorem kind_6 (w : World) : Calls Try.prog 21 #[.agg #[.iface 111 (.agg #[])]] w fun e w' => e = .returned (.int .i64 6) ∧ Ext w w' := by
  have hm : ∀ w : World, (method 239 111 (.agg #[]) "impost/command.kind").run Try.prog w = .ok (86, .agg #[]) w := fun _ => by kernel_rfl
  go_enter Try.func21, Try.ntmps21
  go_wp2
  go_ret
  exact ⟨rfl, (by repeat (first | exact Ext.refl _ | assumption | refine Ext.trans ?_ (by assumption) | refine Ext.alloc ?_ _ | refine Ext.drew ?_ | refine Ext.drewN ?_ _))⟩
theorem kind_7 (ses : Int) (w : World) : Calls Try.prog 21 #[.agg #[.iface 96 (.agg #[.int .i64 ses])]] w fun e w' => e = .returned (.int .i64 7) ∧ Ext w w' := by
  have hm : ∀ w : World, (method 239 96 (.agg #[.int .i64 ses]) "impost/command.kind").run Try.prog w = .ok (84, .agg #[.int .i64 ses]) w := fun _ => by kernel_rfl
  go_enter Try.func21, Try.ntmps21
  go_wp2
  go_ret
  exact ⟨rfl, (by repeat (first | exact Ext.refl _ | assumption | refine Ext.trans ?_ (by assumption) | refine Ext.alloc ?_ _ | refine Ext.drew ?_ | refine Ext.drewN ?_ _))⟩
theorem kind_8 (ser : ByteArray) (w : World) : Calls Try.prog 21 #[.agg #[.iface 97 (.agg #[.string ser])]] w fun e w' => e = .returned (.int .i64 8) ∧ Ext w w' := by
  have hm : ∀ w : World, (method 239 97 (.agg #[.string ser]) "impost/command.kind").run Try.prog w = .ok (85, .agg #[.string ser]) w := fun _ => by kernel_rfl
  go_enter Try.func21, Try.ntmps21
  go_wp2
  go_ret
  exact ⟨rfl, (by repeat (first | exact Ext.refl _ | assumption | refine Ext.trans ?_ (by assumption) | refine Ext.alloc ?_ _ | refine Ext.drew ?_ | refine Ext.drewN ?_ _))⟩
theorem kind_0 (w : World) : Calls Try.prog 21 #[.agg #[.nilIface]] w fun e w' => e = .returned (.int .i64 0) ∧ Ext w w' := by
  go_enter Try.func21, Try.ntmps21
  go_wp2
  go_ret
  exact ⟨rfl, (by repeat (first | exact Ext.refl _ | assumption | refine Ext.trans ?_ (by assumption) | refine Ext.alloc ?_ _ | refine Ext.drew ?_ | refine Ext.drewN ?_ _))⟩
end Go.Proofs.Yteenkbfmlnpmlaa
