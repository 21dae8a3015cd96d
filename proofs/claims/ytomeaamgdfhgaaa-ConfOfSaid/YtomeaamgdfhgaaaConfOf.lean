/- The law ConfOf of package impostlaw21: contracts of both Of, and the walk. -/
import Derived.Test.YtomeaamgdfhgaaaRoomyE
import Derived.Test.YtomeaamgdfhgaaaConfRuns
namespace Go.Proofs.Ytomeaamgdfhgaaa
open Go.RowKit

/-- Who belongs by the first k entries of a log, and where it is said. -/
def ofG (xs : List Ent) (mem base : Int) : Nat → Int × Int
  | 0 => (mem, base)
  | k + 1 => if h : k < xs.length then (if (xs[k]).members ≠ 0 then ((xs[k]).members, wrap64 (base + k + 1)) else ofG xs mem base k) else (mem, base)
theorem ofG_hit (xs : List Ent) (mem base : Int) (k : Nat) (h : k < xs.length) (hm : (xs[k]).members ≠ 0) : ofG xs mem base (k + 1) = ((xs[k]).members, wrap64 (base + k + 1)) := by rw [ofG, dif_pos h, if_pos hm]
theorem ofG_miss (xs : List Ent) (mem base : Int) (k : Nat) (h : k < xs.length) (hm : ¬ (xs[k]).members ≠ 0) : ofG xs mem base (k + 1) = ofG xs mem base k := by rw [ofG, dif_pos h, if_neg hm]
theorem wrapA (b : Int) (k : Nat) : wrap64 (wrap64 (b + k) + 1) = wrap64 (b + k + 1) := by
  simp only [wrap64]; omega
theorem wrapB (b : Int) (k : Nat) : wrap64 (wrap64 (b + 1) + k) = wrap64 (b + k + 1) := by
  simp only [wrap64]; omega

set_option maxHeartbeats 2000000 in
set_option maxRecDepth 100000 in
theorem of_any (t v b bt m : Int) (sn : ByteArray) (lv : Value) (xs : List Ent) (w : World) (hl : SlS Ent.cells 3 w lv xs) (hm : xs.length ≤ 1000000000000) :
    Calls Try.prog 21 #[.agg #[.int .i64 t, .int .i64 v, .int .i64 b, .int .i64 bt, .int .i64 m, .string sn, lv]] w fun e w' => e = .returned (.tuple #[.int .i64 (ofG xs m b xs.length).1, .int .i64 (ofG xs m b xs.length).2]) ∧ Ext w w' := by
  obtain ⟨a, cap, rfl⟩ := hl.form
  have hW : Ext w (w.alloc (.cells #[.int .i64 t, .int .i64 v, .int .i64 b, .int .i64 bt, .int .i64 m, .string sn, .slice a xs.length cap] 34)) := (Ext.refl w).alloc _
  have HL := Lib.hid (hl.ext hW)
  clear hl
  go_enter Try.func21, Try.ntmps21
  go_wp2
  go_loop [4] (fun i => ∃ k : Nat, k ≤ xs.length ∧ i = .int .i64 ((k : Int) - 1) ∧ ofG xs m b k = ofG xs m b xs.length) (fun i => (intOf i + 1).toNat)
  case atStart => exact ⟨xs.length, Nat.le_refl _, rfl, rfl⟩
  case round =>
    obtain ⟨k, hk, rfl, hg⟩ := hrel
    cases k with
    | zero =>
      have hg' : ofG xs m b xs.length = (m, b) := hg.symm
      have HG := Lib.hid hg'
      clear hg hg'
      simp only [Int.ofNat_zero, Int.cast_ofNat_Int, Int.zero_sub]
      go_wp2
      go_quiet (fail)
      go_wp2
      go_ret2
      exact ⟨by rw [HG.out]; rfl, (by repeat (first | exact Ext.refl _ | assumption | refine Ext.trans ?_ (by assumption) | refine Ext.alloc ?_ _ | refine Ext.drew ?_ | refine Ext.drewN ?_ _))⟩
    | succ k =>
      have hkl : k < xs.length := by omega
      obtain ⟨b1, o1, rfl, hl1, hc1⟩ := SlS.at_ Ent.three HL.out (by omega) (by decide)
      have d1 : (w.alloc (.cells #[.int .i64 t, .int .i64 v, .int .i64 b, .int .i64 bt, .int .i64 m, .string sn, .slice (some ⟨b1, o1, none⟩) xs.length cap] 34)).cell? ⟨b1, o1 + k * 3 + 1, none⟩ = some (.int .i64 (xs[k]).members) := hc1 k hkl 1 (by decide)
      have e : ((k + 1 : Nat) : Int) - 1 = (k : Int) := by omega
      have i1 : (0 : Int) ≤ (k : Int) := by omega
      have i2 : (k : Int) < (xs.length : Int) := by omega
      have hw1 := wrapA b k
      clear hc1
      rw [e]
      by_cases hz : (xs[k]).members ≠ 0
      · rw [ofG_hit xs m b k hkl hz] at hg
        have HG := Lib.hid hg
        have hzb : ((xs[k]).members != 0) = true := by rw [bne_iff_ne]; exact hz
        have HW := Lib.hid hw1
        clear hg hz hw1 e
        generalize (xs[k]).members = y at *
        go_wp2
        go_quiet (fail)
        go_wp2
        go_ret2
        exact ⟨by rw [← HG.out, ← HW.out]; rfl, (by repeat (first | exact Ext.refl _ | assumption | refine Ext.trans ?_ (by assumption) | refine Ext.alloc ?_ _ | refine Ext.drew ?_ | refine Ext.drewN ?_ _))⟩
      · rw [ofG_miss xs m b k hkl hz] at hg
        have HG := Lib.hid hg
        have hzb : ((xs[k]).members != 0) = false := by rw [bne_eq_false_iff_eq]; simpa using hz
        clear hg hz hw1 e
        generalize (xs[k]).members = y at *
        go_wp2
        go_round
        case rel => exact ⟨k, by omega, rfl, HG.out⟩
        case measure => simp [intOf]

set_option maxHeartbeats 2000000 in
set_option maxRecDepth 100000 in
theorem refOf_any (t v b bt m : Int) (sn : ByteArray) (lv : Value) (xs : List Ent) (w : World) (hl : SlS Ent.cells 3 w lv xs) (hm : xs.length ≤ 1000000000000) :
    Calls Try.prog 22 #[.agg #[.int .i64 t, .int .i64 v, .int .i64 b, .int .i64 bt, .int .i64 m, .string sn, lv]] w fun e w' => e = .returned (.tuple #[.int .i64 (ofG xs m b xs.length).1, .int .i64 (ofG xs m b xs.length).2]) ∧ Ext w w' := by
  obtain ⟨a, cap, rfl⟩ := hl.form
  have hW : Ext w (w.alloc (.cells #[.int .i64 t, .int .i64 v, .int .i64 b, .int .i64 bt, .int .i64 m, .string sn, .slice a xs.length cap] 34)) := (Ext.refl w).alloc _
  have HL := Lib.hid (hl.ext hW)
  clear hl
  go_enter Try.func22, Try.ntmps22
  go_wp2
  go_loop [4] (fun i => ∃ k : Nat, k ≤ xs.length ∧ i = .int .i64 ((k : Int) - 1) ∧ ofG xs m b k = ofG xs m b xs.length) (fun i => (intOf i + 1).toNat)
  case atStart => exact ⟨xs.length, Nat.le_refl _, rfl, rfl⟩
  case round =>
    obtain ⟨k, hk, rfl, hg⟩ := hrel
    cases k with
    | zero =>
      have hg' : ofG xs m b xs.length = (m, b) := hg.symm
      have HG := Lib.hid hg'
      clear hg hg'
      simp only [Int.ofNat_zero, Int.cast_ofNat_Int, Int.zero_sub]
      go_wp2
      go_quiet (fail)
      go_wp2
      go_ret2
      exact ⟨by rw [HG.out]; rfl, (by repeat (first | exact Ext.refl _ | assumption | refine Ext.trans ?_ (by assumption) | refine Ext.alloc ?_ _ | refine Ext.drew ?_ | refine Ext.drewN ?_ _))⟩
    | succ k =>
      have hkl : k < xs.length := by omega
      obtain ⟨b1, o1, rfl, hl1, hc1⟩ := SlS.at_ Ent.three HL.out (by omega) (by decide)
      have d1 : (w.alloc (.cells #[.int .i64 t, .int .i64 v, .int .i64 b, .int .i64 bt, .int .i64 m, .string sn, .slice (some ⟨b1, o1, none⟩) xs.length cap] 34)).cell? ⟨b1, o1 + k * 3 + 1, none⟩ = some (.int .i64 (xs[k]).members) := hc1 k hkl 1 (by decide)
      have e : ((k + 1 : Nat) : Int) - 1 = (k : Int) := by omega
      have i1 : (0 : Int) ≤ (k : Int) := by omega
      have i2 : (k : Int) < (xs.length : Int) := by omega
      have hw1 := wrapB b k
      clear hc1
      rw [e]
      by_cases hz : (xs[k]).members ≠ 0
      · rw [ofG_hit xs m b k hkl hz] at hg
        have HG := Lib.hid hg
        have hzb : ((xs[k]).members != 0) = true := by rw [bne_iff_ne]; exact hz
        have HW := Lib.hid hw1
        clear hg hz hw1 e
        generalize (xs[k]).members = y at *
        go_wp2
        go_quiet (fail)
        go_wp2
        go_ret2
        exact ⟨by rw [← HG.out, ← HW.out]; rfl, (by repeat (first | exact Ext.refl _ | assumption | refine Ext.trans ?_ (by assumption) | refine Ext.alloc ?_ _ | refine Ext.drew ?_ | refine Ext.drewN ?_ _))⟩
      · rw [ofG_miss xs m b k hkl hz] at hg
        have HG := Lib.hid hg
        have hzb : ((xs[k]).members != 0) = false := by rw [bne_eq_false_iff_eq]; simpa using hz
        clear hg hz hw1 e
        generalize (xs[k]).members = y at *
        go_wp2
        go_round
        case rel => exact ⟨k, by omega, rfl, HG.out⟩
        case measure => simp [intOf]
end Go.Proofs.Ytomeaamgdfhgaaa
