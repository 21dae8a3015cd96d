/- The law PackSizes of package impostlaw2: the walk. -/
import Derived.Test.YtmhppikbnobedaaPackRuns
namespace Go.Proofs.Ytmhppikbnobedaa
open Go.RowKit

/-- How many pieces of seven bits a number needs, sign aside. -/
def szF : Nat → Nat → Nat
  | 0, _ => 1
  | f + 1, m => if m < 64 then 1 else szF f (m / 128) + 1
theorem varF_sz : ∀ f u m, u / 2 = m → (varF f u).length = szF f m
  | 0, _, _, _ => rfl
  | f + 1, u, m, h => by
    unfold varF szF
    by_cases hu : u < 128
    · rw [if_pos hu, if_pos (by omega)]; rfl
    · rw [if_neg hu, if_neg (by omega), List.length_cons, varF_sz f (u / 128) (m / 128) (by omega)]
theorem szF_step (f m : Nat) (h : 64 ≤ m) : szF (f + 1) m = szF f (m / 128) + 1 := by rw [szF, if_neg (by omega)]
theorem szF_end (f m : Nat) (h : m < 64) : szF f m = 1 := by
  cases f with
  | zero => rfl
  | succ f => rw [szF, if_pos h]

theorem not_i64 (n : Int) (h0 : -9223372036854775808 ≤ n) (h1 : n ≤ 9223372036854775807) : bits .xor .i64 (-1) n = -n - 1 := by
  have e0 : bits .xor .i64 (-1) n = IntKind.i64.wrap ((BitVec.ofInt 64 (-1) ^^^ BitVec.ofInt 64 n).toNat : Nat) := rfl
  have e1 : (BitVec.ofInt 64 (-1) : BitVec 64) = BitVec.allOnes 64 := by decide
  rw [e0, e1, ← BitVec.not_def, BitVec.toNat_not, BitVec.toNat_ofInt, IntKind.wrap_i64]
  omega

theorem Own8.form {te : TypeId} {w : World} {B : Nat} {v : Value} {l : List UInt8} (h : Own8 te w B v l) : ∃ a cap, v = .slice a l.length cap := by
  rcases h.2 with ⟨rfl, h0⟩ | ⟨g, cap, cur, rfl, _⟩
  · exact ⟨none, 0, by rw [h0]⟩
  · exact ⟨_, _, rfl⟩

set_option maxHeartbeats 4000000 in
set_option maxRecDepth 100000 in
theorem packSizes_any (n : Int) (hn0 : -9223372036854775808 ≤ n) (hn1 : n ≤ 9223372036854775807) (w : World) : Calls Try.prog 8 #[.int .i64 n] w fun e w' => e = .returned (.bool true) ∧ Ext w w' := by
  obtain ⟨m0, hm, hl1, hl2⟩ : ∃ m0 : Nat, (if n < 0 then -n - 1 else n) = (m0 : Int) ∧ (numL n).length = szF 9 m0 ∧ (numL (-n - 1)).length = szF 9 m0 := by
    refine ⟨(if n < 0 then -n - 1 else n).toNat, by split <;> omega, varF_sz 9 _ _ ?_, varF_sz 9 _ _ ?_⟩
    · unfold zig; split <;> split <;> omega
    · unfold zig; split <;> split <;> omega
  by_cases hneg : n < 0
  all_goals
    go_enter Try.func8, Try.ntmps8
    go_wp2_with fail
    refine (num_any _ [] n _ (Rd8.nil _) hn0 hn1 (by decide)).mono ?_
    rintro e w1 ⟨v1, rfl, ho1, hx1⟩
    obtain ⟨a1, c1, rfl⟩ := ho1.form
    go_wp2_with fail
    rw [not_i64 n hn0 hn1]
    refine (num_any _ [] (-n - 1) _ (Rd8.nil _) (by omega) (by omega) (by decide)).mono ?_
    rintro e w2 ⟨v2, rfl, ho2, hx2⟩
    obtain ⟨a2, c2, rfl⟩ := ho2.form
    have hE : Ext w w2 := hx1.trans hx2
    simp only [List.nil_append] at ho1 ho2 ⊢
    try rw [hl1]
    try rw [hl2]
    have hm' : (n : Int) = (m0 : Int) ∨ -n - 1 = (m0 : Int) := by
      revert hm; split <;> intro hm <;> omega
    clear ho1 ho2 hx1 hx2 hl1 hl2
    go_wp2_with fail
    try rw [not_i64 n hn0 hn1]
    have hms : (if n < 0 then Value.int .i64 (-n - 1) else Value.int .i64 n) = Value.int .i64 (m0 : Int) := by
      rw [← hm]; split <;> rfl
    have hlt63 : m0 < 9223372036854775808 := by omega
    have HM : Hid (Value.int .i64 (if n < 0 then -n - 1 else n) = Value.int .i64 (m0 : Int)) := Lib.hid (by rw [hm])
    first
      | rw [if_pos hneg] at HM
      | rw [if_neg (by omega)] at HM
    clear hm hm' hms
    go_loop [5, 6] (fun sv mv => ∃ f k m : Nat, mv = .int .i64 (m : Int) ∧ sv = .int .i64 ((k + 1 : Nat) : Int) ∧ f + k = 9 ∧ m * 128 ^ k < 9223372036854775808 ∧ szF 9 m0 = szF f m + k ∧ m < 9223372036854775808) (fun _ mv => (intOf mv).toNat)
    case atStart => exact ⟨9, 0, m0, HM.out, rfl, rfl, by simpa using hlt63, rfl, hlt63⟩
    case round =>
      obtain ⟨f, k, m, rfl, rfl, hfk, hb, hs, hm63⟩ := hrel
      by_cases h64 : 64 ≤ m
      · obtain ⟨f', rfl⟩ : ∃ f', f = f' + 1 := by
          cases f with
          | zero =>
            exfalso
            obtain rfl : k = 9 := by omega
            have : m * 128 ^ 9 < 9223372036854775808 := hb
            omega
          | succ f' => exact ⟨f', rfl⟩
        rw [szF_step f' m h64] at hs
        have hb2 : m / 128 * 128 ^ (k + 1) < 9223372036854775808 := by
          rw [Nat.pow_succ, Nat.mul_comm (128 ^ _) 128, ← Nat.mul_assoc]
          exact Nat.lt_of_le_of_lt (Nat.mul_le_mul_right _ (Nat.div_mul_le_self m 128)) hb
        have HS := Lib.hid hs
        have HB := Lib.hid hb2
        clear hs hb hb2
        go_wp2
        refine ⟨⟨f', k + 1, m / 128, by simp, by simp, by omega, HB.out, ?_, by omega⟩, ?_⟩
        · rw [HS.out]; omega
        · simp [intOf]; omega
      · rw [szF_end f m (by omega)] at hs
        have hq : szF 9 m0 = k + 1 := by omega
        clear hs hb
        generalize szF 9 m0 = z at *
        subst hq
        go_wp2_with fail
        refine (flag_any _ [] _ _ (Rd8.nil _) (by decide)).mono ?_
        rintro e w3 ⟨v3, rfl, ho3, hx3⟩
        have hfl : ∀ f : Bool, ([] ++ numL (if f then 1 else 0)).length = 1 := by decide +kernel
        obtain ⟨a3, c3, rfl⟩ := ho3.form
        rw [hfl]
        have hE3 := hE.trans hx3
        clear ho3 hx3 hfl hE
        go_wp2_with (go_at_call 3; refine (packRuns_any _).mono ?_; rintro e w' ⟨rfl, hx⟩)
        go_ret
        exact ⟨rfl, (by repeat (first | exact Ext.refl _ | assumption | refine Ext.trans ?_ (by assumption) | refine Ext.alloc ?_ _ | refine Ext.drew ?_ | refine Ext.drewN ?_ _))⟩
end Go.Proofs.Ytmhppikbnobedaa
