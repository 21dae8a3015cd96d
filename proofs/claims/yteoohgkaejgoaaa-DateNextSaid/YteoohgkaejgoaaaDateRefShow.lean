/- Contracts of the document's digits and ShowDate. -/
import Derived.Test.YteoohgkaejgoaaaDateShow
import Derived.Test.YteoohgkaejgoaaaDateRef
import Derived.Deep.RegionHeld3
namespace Go.Proofs.Yteoohgkaejgoaaa
open Go.RowKit

theorem slr_one (w : World) (t : TypeId) (b : UInt8) (k : Int) (h : Value.int .u8 k = bcell b) : SlR (w.alloc (.cells #[.int .u8 k] t)) (w.heap.size + 1) 1 (.slice (some ⟨w.heap.size, 0, none⟩) 1 1) [b].length ([b].map bcell) := by
  refine ⟨rfl, by simp [maxLen], _, _, rfl, .inr ⟨w.heap.size, 0, rfl, by omega, fun j hj => ?_⟩⟩
  have : j = 0 := by simp at hj; omega
  subst this
  rw [World.cell?_alloc_at _ _ _ _ rfl, h]
  rfl

set_option maxHeartbeats 1000000 in
theorem refDigits_any (n K : Nat) (w : World) (hn : n ≤ 100000) (hK : K ≤ 20) : Calls Try.prog 28 #[.int .i64 n, .int .i64 K] w fun e w' => e = .returned (.string ⟨(digs n K).toArray⟩) ∧ Ext w w' := by
  go_enter Try.func28, Try.ntmps28
  go_wp2
  go_loopw [0, 5, 6] (fun nv sv iv wr => ∃ j : Nat, j ≤ K ∧ iv = .int .i64 j ∧ nv = .int .i64 ((n / 10 ^ j : Nat) : Int) ∧ sv = .string ⟨(digs n j).toArray⟩ ∧ Ext w wr) (fun _ _ iv _ => K - (intOf iv).toNat)
  case atStart => exact ⟨0, Nat.zero_le _, rfl, by simp, rfl, Ext.refl _⟩
  case round =>
    obtain ⟨j, hj, rfl, rfl, rfl, hx⟩ := hrel
    by_cases hlt : j < K
    · have hdiv : n / 10 ^ (j + 1) = n / 10 ^ j / 10 := by rw [Nat.pow_succ, Nat.div_div_eq_div_mul]
      have hmm : n / 10 ^ j ≤ n := Nat.div_le_self _ _
      have hd : digs n (j + 1) = dig (n / 10 ^ j) :: digs n j := rfl
      have hlen := digs_len n j
      generalize n / 10 ^ j = M at *
      generalize digs n j = L at *
      have HD := Lib.hid hdiv
      have HG := Lib.hid hd
      have hm : (M : Int) ≤ 100000 := by omega
      have hL : L.length ≤ 20 := by omega
      clear hdiv hd hlen
      have hv : Value.int .u8 (48 + (M : Int) % 10) = bcell (dig M) := by unfold bcell; rw [dig_nat]; rfl
      have hcv := run_conv_str (P := Try.prog) _ 44 9 5 Try.underlying44 Try.underlying5 Try.underlying9 _ _ [dig M] (slr_one wr 5 (dig M) _ hv)
      clear hv
      go_wp2_with (with_reducible refine wpList_conv rfl _ _ _ rfl _ _ rfl hcv ?_)
      refine ⟨⟨j + 1, by omega, by simp, by rw [HD.out]; congr 1, ?_, (by repeat (first | exact Ext.refl _ | assumption | refine Ext.trans ?_ (by assumption) | refine Ext.alloc ?_ _ | refine Ext.drew ?_ | refine Ext.drewN ?_ _))⟩, by simp [intOf]; omega⟩
      rw [HG.out]
      exact congrArg Value.string (ByteArray.mk_append_mk [dig M] L)
    · obtain rfl : j = K := by omega
      go_wp2
      go_ret
      exact ⟨rfl, hx⟩

theorem one_keep (w : World) (a0 a1 a2 : Value) (t : TypeId) {x : World} (h : Ext (w.alloc (.cells #[a0, a1, a2] t)) x) :
    Ext (w.alloc (.cells #[a0, a1, a2] t)) x ∧ x.cell? ⟨w.heap.size, 0, none⟩ = some a0 ∧ x.cell? ⟨w.heap.size, 1, none⟩ = some a1 ∧ x.cell? ⟨w.heap.size, 2, none⟩ = some a2 := by
  obtain ⟨hc, _⟩ := Ext.bc h
  refine ⟨h, ?_, ?_, ?_⟩ <;> rw [hc _ _ (by simp <;> omega)] <;> simp [go_sem]
theorem refDigits_is (n K : Nat) (k : Int) (s : ByteArray) (w : World) (hn : n ≤ 100000) (hK : K ≤ 20) (hk : k = (K : Int)) (h : (⟨(digs n K).toArray⟩ : ByteArray) = s) : Calls Try.prog 28 #[.int .i64 n, .int .i64 k] w fun e w' => e = .returned (.string s) ∧ Ext w w' := by
  rw [← h, hk]; exact refDigits_any n K w hn hK

set_option maxHeartbeats 4000000 in
theorem refShow_any (y m d : Int) (w : World) : Calls Try.prog 22 #[.agg #[.int .i64 y, .int .i64 m, .int .i64 d]] w fun e w' => e = .returned (.string (showS y m d)) ∧ Ext w w' := by
  have hv : showS y m d = if dayB y m d then ⟨(showL y m d).toArray⟩ else ByteArray.empty := rfl
  cases hb : dayB y m d
  · rw [hb] at hv
    have HV := Lib.hid hv
    clear hv
    go_enter Try.func22, Try.ntmps22
    go_wp2_with (go_at_call 20; refine (refRight_any _ _ _ _).mono ?_; rintro e w' ⟨rfl, hx⟩)
    go_ret
    exact ⟨by rw [HV.out]; rfl, (by repeat (first | exact Ext.refl _ | assumption | refine Ext.trans ?_ (by assumption) | refine Ext.alloc ?_ _ | refine Ext.drew ?_ | refine Ext.drewN ?_ _))⟩
  · rw [hb] at hv
    obtain ⟨a1, a2, a3, a4, a5, a6⟩ := dayB_of hb
    obtain ⟨l1, l2⟩ := lenI_bd y m
    obtain ⟨Y, rfl⟩ := Int.eq_ofNat_of_zero_le (by omega : 0 ≤ y)
    obtain ⟨M, rfl⟩ := Int.eq_ofNat_of_zero_le (by omega : 0 ≤ m)
    obtain ⟨D, rfl⟩ := Int.eq_ofNat_of_zero_le (by omega : 0 ≤ d)
    have e : showL (Y : Int) (M : Int) (D : Int) = digs Y 4 ++ [45] ++ digs M 2 ++ [45] ++ digs D 2 := rfl
    rw [e] at hv
    clear e
    have cat : ∀ a b c : List UInt8, a ++ b = c → c.length ≤ 100 → ∀ x : World, (Op.stringOp .add (⟨a.toArray⟩ : ByteArray) (⟨b.toArray⟩ : ByteArray)).run Try.prog x = .ok (.string (⟨c.toArray⟩ : ByteArray)) x := by
      intro a b c hc hl x
      have hl2 : a.length + b.length ≤ 100 := by rw [← List.length_append, hc]; exact hl
      rw [run_string_add_sum _ _ _ (by simp [ByteArray.size]; omega), ByteArray.mk_append_mk, hc]
    have r1 := cat (digs Y 4) [45] _ rfl (by simp [digs_len])
    have r2 := cat (digs Y 4 ++ [45]) (digs M 2) _ rfl (by simp [digs_len])
    have r3 := cat (digs Y 4 ++ [45] ++ digs M 2) [45] _ rfl (by simp [digs_len])
    have r4 := cat (digs Y 4 ++ [45] ++ digs M 2 ++ [45]) (digs D 2) _ rfl (by simp [digs_len])
    clear cat
    generalize hS4 : (⟨(digs Y 4 ++ [45] ++ digs M 2 ++ [45] ++ digs D 2).toArray⟩ : ByteArray) = s4 at *
    generalize hS3 : (⟨(digs Y 4 ++ [45] ++ digs M 2 ++ [45]).toArray⟩ : ByteArray) = s3 at *
    generalize hS2 : (⟨(digs Y 4 ++ [45] ++ digs M 2).toArray⟩ : ByteArray) = s2 at *
    generalize hS1 : (⟨(digs Y 4 ++ [45]).toArray⟩ : ByteArray) = s1 at *
    generalize hA : (⟨(digs Y 4).toArray⟩ : ByteArray) = A at *
    generalize hB : (⟨(digs M 2).toArray⟩ : ByteArray) = B at *
    generalize hC : (⟨(digs D 2).toArray⟩ : ByteArray) = C at *
    have HA := Lib.hid hA
    have HB := Lib.hid hB
    have HC := Lib.hid hC
    have HV := Lib.hid hv
    have b1 : Y ≤ 100000 := by omega
    have b2 : M ≤ 100000 := by omega
    have b3 : D ≤ 100000 := by omega
    clear hA hB hC hv hS1 hS2 hS3 hS4 a1 a2 a3 a4 a5 a6 l1 l2
    go_enter Try.func22, Try.ntmps22
    go_wp2_with (go_at_call 20; refine (refRight_any _ _ _ _).mono ?_; rintro e x ⟨rfl, hx⟩; obtain ⟨hE, hk1, hk2, hk3⟩ := one_keep w _ _ _ _ hx)
    go_region_held3 (fun x => Ext (w.alloc (.cells #[.int .i64 (Y : Int), .int .i64 (M : Int), .int .i64 (D : Int)] 23)) x ∧ x.cell? ⟨w.heap.size, 0, none⟩ = some (.int .i64 (Y : Int)) ∧ x.cell? ⟨w.heap.size, 1, none⟩ = some (.int .i64 (M : Int)) ∧ x.cell? ⟨w.heap.size, 2, none⟩ = some (.int .i64 (D : Int)))
      ((refine one_keep w _ _ _ _ ?_; repeat (first | exact Ext.refl _ | assumption | refine Ext.trans ?_ (by assumption) | refine Ext.drew ?_)))
      (first
        | (go_at_call 28; (with_reducible refine (refDigits_is Y 4 4 A _ b1 (by decide) rfl HA.out).mono ?_); rintro e x ⟨rfl, hx⟩)
        | (go_at_call 28; (with_reducible refine (refDigits_is M 2 2 B _ b2 (by decide) rfl HB.out).mono ?_); rintro e x ⟨rfl, hx⟩)
        | (go_at_call 28; (with_reducible refine (refDigits_is D 2 2 C _ b3 (by decide) rfl HC.out).mono ?_); rintro e x ⟨rfl, hx⟩))
    all_goals
      go_wp2
      go_ret
      exact ⟨by rw [HV.out]; rfl, (by repeat (first | exact Ext.refl _ | assumption | refine Ext.trans ?_ (by assumption) | refine Ext.alloc ?_ _ | refine Ext.drew ?_ | refine Ext.drewN ?_ _))⟩
end Go.Proofs.Yteoohgkaejgoaaa
