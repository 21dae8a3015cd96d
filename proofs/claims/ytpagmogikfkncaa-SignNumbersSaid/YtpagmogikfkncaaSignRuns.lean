/- Package sign: Same; chapter 3's closed runs. -/
import Derived.Test.YtpagmogikfkncaaSignD
import Derived.Test.YtpagmogikfkncaaSignE
namespace Go.Proofs.Ytpagmogikfkncaa
open Go.RowKit

def sameB (a b : ByteArray) : Bool := (foldS a).toList == (foldS b).toList
set_option maxHeartbeats 1000000 in
set_option maxRecDepth 100000 in
theorem same_any (a b : ByteArray) (w : World) (ha : a.size ≤ 35184372088832) (hb : b.size ≤ 35184372088832) :
    Calls Try.prog 14 #[.string a, .string b] w fun e w' => e = .returned (.bool (sameB a b)) ∧ Ext w w' := by
  have hq : sameB a b = ((foldS a).toList == (foldS b).toList) := rfl
  generalize sameB a b = q at *
  have HQ := Lib.hid hq
  clear hq
  go_enter Try.func14, Try.ntmps14
  go_wp2_with (go_at_call 13; refine (fold_any _ _ (by assumption)).mono ?_; rintro e w1 ⟨rfl, hx⟩)
  go_ret
  exact ⟨by rw [HQ.out]; rfl, by repeat (first | exact Ext.refl _ | assumption | refine Ext.trans ?_ (by assumption))⟩

theorem z1 (l : List UInt8) (h : decide (l.length ≤ 100) = true) : (⟨l.toArray⟩ : ByteArray).size ≤ 9223372036854775807 := by
  have h1 : (⟨l.toArray⟩ : ByteArray).size = l.length := rfl
  have h2 : l.length ≤ 100 := of_decide_eq_true h
  omega
set_option maxHeartbeats 2000000 in
set_option maxRecDepth 100000 in
theorem signRuns_any (w : World) : Calls Try.prog 3 #[] w fun e w' => e = .returned (.bool true) ∧ Ext w w' := by
  have n1 : nameB ⟨#[82, 111, 116, 45, 55]⟩ = true := by decide +kernel
  have n2 : nameB ⟨#[195, 156, 98, 117, 110, 103]⟩ = true := by decide +kernel
  have n3 : nameB ⟨#[55, 97]⟩ = false := by decide +kernel
  have n4 : nameB ⟨#[97, 32, 98]⟩ = false := by decide +kernel
  have n5 : nameB ⟨#[97, 255]⟩ = false := by decide +kernel
  have n6 : nameB ⟨#[]⟩ = false := by decide +kernel
  have f1 : foldS ⟨#[195, 132, 98, 67, 195, 151]⟩ = ⟨#[195, 164, 98, 99, 195, 151]⟩ := by decide +kernel
  have s1 : sameB ⟨#[83, 84, 82, 65, 83, 83, 69]⟩ ⟨#[115, 116, 114, 97, 115, 115, 101]⟩ = true := by decide +kernel
  have w1 : widthN ⟨#[97, 195, 169, 255]⟩ = 3 := by decide +kernel
  have c1 : cutB ⟨#[97, 195, 169, 98]⟩ 2 = ⟨#[97, 195, 169]⟩ := by decide +kernel
  have d1 : digB ⟨#[49, 50, 48]⟩ = (120, true) := by decide +kernel
  have d2 : digB ⟨#[48]⟩ = (0, true) := by decide +kernel
  have d3 : digB ⟨#[48, 48, 55]⟩ = (0, false) := by decide +kernel
  have d4 : digB ⟨#[217, 163]⟩ = (0, false) := by decide +kernel
  have d5 : digB ⟨#[49, 50, 51, 52, 53, 54, 55, 56, 57, 48, 49, 50, 51, 52, 53, 54, 55, 56, 57]⟩ = (0, false) := by decide +kernel
  go_enter Try.func3, Try.ntmps3
  go_wp2_with (first
    | (go_at_call 12; refine (name_any _ _ (by decide)).mono ?_; rintro e w' ⟨rfl, hx⟩)
    | (go_at_call 13; refine (fold_any _ _ (by decide)).mono ?_; rintro e w' ⟨rfl, hx⟩)
    | (go_at_call 14; refine (same_any _ _ _ (by decide) (by decide)).mono ?_; rintro e w' ⟨rfl, hx⟩)
    | (go_at_call 15; refine (width_any _ _ (by decide)).mono ?_; rintro e w' ⟨rfl, hx⟩)
    | (go_at_call 16; refine (cut_any _ _ _ (by decide)).mono ?_; rintro e w' ⟨rfl, hx⟩)
    | (go_at_call 17; refine (digits_any _ _ (by decide)).mono ?_; rintro e w' ⟨rfl, hx⟩))
  go_ret
  exact ⟨rfl, by repeat (first | exact Ext.refl _ | assumption | refine Ext.trans ?_ (by assumption))⟩
end Go.Proofs.Ytpagmogikfkncaa
