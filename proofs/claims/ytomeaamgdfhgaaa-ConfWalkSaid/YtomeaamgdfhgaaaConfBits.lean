/- Sets of nodes as numbers: what and, or, xor and and-not do to the members, and the laws on majorities that follow. No function of the program is named. -/
import Derived.Test.YtomeaamgdfhgaaaConfB
namespace Go.Proofs.Ytomeaamgdfhgaaa
open Go.RowKit

theorem seven {p : Nat → Prop} (h : p 0 ∧ p 1 ∧ p 2 ∧ p 3 ∧ p 4 ∧ p 5 ∧ p 6) (i : Nat) (hi : i < 7) : p i := by
  obtain ⟨h0, h1, h2, h3, h4, h5, h6⟩ := h
  obtain rfl | rfl | rfl | rfl | rfl | rfl | rfl : i = 0 ∨ i = 1 ∨ i = 2 ∨ i = 3 ∨ i = 4 ∨ i = 5 ∨ i = 6 := by omega
  all_goals assumption

theorem bit_nat (x : Int) (n : Nat) (h : x % 128 = (n : Int) % 128) (i : Nat) (hi : i < 7) : hasB x i = n.testBit i := by
  rw [hasB_of x i hi, Nat.testBit_eq_decide_div_mod_eq, Bool.eq_iff_iff, beq_iff_eq, decide_eq_true_iff]
  revert i
  refine seven ⟨?_, ?_, ?_, ?_, ?_, ?_, ?_⟩
  all_goals
    simp only [Nat.reducePow, Int.reducePow]
    omega

theorem wrap_mod (r : Nat) : IntKind.i64.wrap (r : Int) % 128 = (r : Int) % 128 := by
  have e : IntKind.i64.wrap (r : Int) = if (r : Int) % 18446744073709551616 ≥ 9223372036854775808 then (r : Int) % 18446744073709551616 - 18446744073709551616 else (r : Int) % 18446744073709551616 := by
    simp [IntKind.wrap, IntKind.bits, IntKind.signed]
  rw [e]
  split <;> omega

theorem ofInt_mod (x : Int) : x % 128 = (((BitVec.ofInt 64 x).toNat : Nat) : Int) % 128 := by
  rw [BitVec.toNat_ofInt]
  omega

theorem has_and (x y : Int) (i : Nat) (hi : i < 7) : hasB (bits .and .i64 x y) i = (hasB x i && hasB y i) := by
  have e0 : bits .and .i64 x y = IntKind.i64.wrap ((BitVec.ofInt 64 x &&& BitVec.ofInt 64 y).toNat : Nat) := rfl
  rw [e0, bit_nat _ _ (wrap_mod _) i hi, BitVec.toNat_and, Nat.testBit_and, bit_nat x _ (ofInt_mod x) i hi, bit_nat y _ (ofInt_mod y) i hi]

theorem has_xor (x y : Int) (i : Nat) (hi : i < 7) : hasB (bits .xor .i64 x y) i = (hasB x i != hasB y i) := by
  have e0 : bits .xor .i64 x y = IntKind.i64.wrap ((BitVec.ofInt 64 x ^^^ BitVec.ofInt 64 y).toNat : Nat) := rfl
  rw [e0, bit_nat _ _ (wrap_mod _) i hi, BitVec.toNat_xor, Nat.testBit_xor, bit_nat x _ (ofInt_mod x) i hi, bit_nat y _ (ofInt_mod y) i hi]

theorem has_or (x y : Int) (i : Nat) (hi : i < 7) : hasB (bits .or .i64 x y) i = (hasB x i || hasB y i) := by
  have e0 : bits .or .i64 x y = IntKind.i64.wrap ((BitVec.ofInt 64 x ||| BitVec.ofInt 64 y).toNat : Nat) := rfl
  rw [e0, bit_nat _ _ (wrap_mod _) i hi, BitVec.toNat_or, Nat.testBit_or, bit_nat x _ (ofInt_mod x) i hi, bit_nat y _ (ofInt_mod y) i hi]

theorem has_andNot (x y : Int) (i : Nat) (hi : i < 7) : hasB (bits .andNot .i64 x y) i = (hasB x i && !hasB y i) := by
  have e0 : bits .andNot .i64 x y = IntKind.i64.wrap ((BitVec.ofInt 64 x &&& ~~~ BitVec.ofInt 64 y).toNat : Nat) := rfl
  rw [e0, bit_nat _ _ (wrap_mod _) i hi, BitVec.testBit_toNat, BitVec.getLsbD_and, BitVec.getLsbD_not, ← BitVec.testBit_toNat, ← BitVec.testBit_toNat, bit_nat x _ (ofInt_mod x) i hi, bit_nat y _ (ofInt_mod y) i hi, decide_eq_true (by omega : i < 64), Bool.true_and]

def b01 (b : Bool) : Nat := if b then 1 else 0
theorem memN_sum (m : Int) : memN m = b01 (hasB m (0 : Nat)) + b01 (hasB m (1 : Nat)) + b01 (hasB m (2 : Nat)) + b01 (hasB m (3 : Nat)) + b01 (hasB m (4 : Nat)) + b01 (hasB m (5 : Nat)) + b01 (hasB m (6 : Nat)) := by
  have step : ∀ k, (memT m (k + 1)).length = (memT m k).length + b01 (hasB m k) := by
    intro k
    cases hb : hasB m k
    · rw [memT_miss m k hb]; simp [b01]
    · rw [memT_hit m k hb]; simp [b01]
  unfold memN
  rw [step 6, step 5, step 4, step 3, step 2, step 1, step 0]
  simp [memT]

/-- Two majorities of one set meet. -/
theorem meets_one (m a b : Int) (h1 : 2 * memN (bits .and .i64 m a) > memN m) (h2 : 2 * memN (bits .and .i64 m b) > memN m) : memN (bits .and .i64 (bits .and .i64 m a) b) ≠ 0 := by
  rw [memN_sum] at h1 h2 ⊢
  rw [memN_sum m] at h1 h2
  simp only [has_and _ _ _ (by decide : 0 < 7), has_and _ _ _ (by decide : 1 < 7), has_and _ _ _ (by decide : 2 < 7), has_and _ _ _ (by decide : 3 < 7), has_and _ _ _ (by decide : 4 < 7), has_and _ _ _ (by decide : 5 < 7), has_and _ _ _ (by decide : 6 < 7)] at h1 h2 ⊢
  have key : ∀ x y z : Bool, b01 (x && y) + b01 (x && z) ≤ b01 x + b01 ((x && y) && z) := by decide
  have k0 := key (hasB m (0 : Nat)) (hasB a (0 : Nat)) (hasB b (0 : Nat))
  have k1 := key (hasB m (1 : Nat)) (hasB a (1 : Nat)) (hasB b (1 : Nat))
  have k2 := key (hasB m (2 : Nat)) (hasB a (2 : Nat)) (hasB b (2 : Nat))
  have k3 := key (hasB m (3 : Nat)) (hasB a (3 : Nat)) (hasB b (3 : Nat))
  have k4 := key (hasB m (4 : Nat)) (hasB a (4 : Nat)) (hasB b (4 : Nat))
  have k5 := key (hasB m (5 : Nat)) (hasB a (5 : Nat)) (hasB b (5 : Nat))
  have k6 := key (hasB m (6 : Nat)) (hasB a (6 : Nat)) (hasB b (6 : Nat))
  omega

/-- A majority of one set and one of a set that differs from it in one node meet, in a node of both. -/
theorem meets_two (m n a b : Int) (hx : memN (bits .xor .i64 m n) = 1) (h1 : 2 * memN (bits .and .i64 m a) > memN m) (h2 : 2 * memN (bits .and .i64 n b) > memN n) :
    memN (bits .and .i64 (bits .and .i64 (bits .and .i64 m n) a) b) ≠ 0 := by
  rw [memN_sum] at h1 h2 hx ⊢
  rw [memN_sum m] at h1
  rw [memN_sum n] at h2
  simp only [has_xor _ _ _ (by decide : 0 < 7), has_xor _ _ _ (by decide : 1 < 7), has_xor _ _ _ (by decide : 2 < 7), has_xor _ _ _ (by decide : 3 < 7), has_xor _ _ _ (by decide : 4 < 7), has_xor _ _ _ (by decide : 5 < 7), has_xor _ _ _ (by decide : 6 < 7)] at hx
  simp only [has_and _ _ _ (by decide : 0 < 7), has_and _ _ _ (by decide : 1 < 7), has_and _ _ _ (by decide : 2 < 7), has_and _ _ _ (by decide : 3 < 7), has_and _ _ _ (by decide : 4 < 7), has_and _ _ _ (by decide : 5 < 7), has_and _ _ _ (by decide : 6 < 7)] at h1 h2 ⊢
  have key : ∀ m n a b : Bool, 2 * b01 (m && a) + 2 * b01 (n && b) ≤ b01 m + b01 n + b01 (m != n) + 2 * b01 (((m && n) && a) && b) := by decide
  have k0 := key (hasB m (0 : Nat)) (hasB n (0 : Nat)) (hasB a (0 : Nat)) (hasB b (0 : Nat))
  have k1 := key (hasB m (1 : Nat)) (hasB n (1 : Nat)) (hasB a (1 : Nat)) (hasB b (1 : Nat))
  have k2 := key (hasB m (2 : Nat)) (hasB n (2 : Nat)) (hasB a (2 : Nat)) (hasB b (2 : Nat))
  have k3 := key (hasB m (3 : Nat)) (hasB n (3 : Nat)) (hasB a (3 : Nat)) (hasB b (3 : Nat))
  have k4 := key (hasB m (4 : Nat)) (hasB n (4 : Nat)) (hasB a (4 : Nat)) (hasB b (4 : Nat))
  have k5 := key (hasB m (5 : Nat)) (hasB n (5 : Nat)) (hasB a (5 : Nat)) (hasB b (5 : Nat))
  have k6 := key (hasB m (6 : Nat)) (hasB n (6 : Nat)) (hasB a (6 : Nat)) (hasB b (6 : Nat))
  omega
end Go.Proofs.Ytomeaamgdfhgaaa
