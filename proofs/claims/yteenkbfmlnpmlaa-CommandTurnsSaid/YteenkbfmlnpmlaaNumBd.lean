/- Plain law: what is read as a number is one of 64 bits. No function of the program is named. -/
import Derived.Test.YteenkbfmlnpmlaaPackSpec
namespace Go.Proofs.Yteenkbfmlnpmlaa
open Go.RowKit

/-- What is read as a number is one of 64 bits. -/
theorem decF_bd (bs : List UInt8) (a : Nat) : ∀ f i u, f + i = 10 → u < 128 ^ i → -9223372036854775808 ≤ (decF bs a f i u).1 ∧ (decF bs a f i u).1 ≤ 9223372036854775807
  | 0, _, _, _, _ => ⟨by show (-9223372036854775808 : Int) ≤ 0; decide, by show (0 : Int) ≤ _; decide⟩
  | f + 1, i, u, hf, hu => by
    by_cases hlt : a + i < bs.length
    · have hb : bs[a + i]? = some bs[a + i] := List.getElem?_eq_getElem hlt
      generalize bs[a + i] = b at hb
      have hb256 := b.toNat_lt
      rw [decF_step _ _ _ _ _ _ hb]
      split
      · exact ⟨by show (-9223372036854775808 : Int) ≤ 0; decide, by show (0 : Int) ≤ _; decide⟩
      · rename_i h1
        split
        · refine decF_bd bs a f (i + 1) _ (by omega) ?_
          rw [Nat.pow_succ]
          have h5 : b.toNat % 128 * 128 ^ i ≤ 127 * 128 ^ i := Nat.mul_le_mul_right _ (by omega)
          omega
        · split
          · exact ⟨by show (-9223372036854775808 : Int) ≤ 0; decide, by show (0 : Int) ≤ _; decide⟩
          · apply unzig_bd
            by_cases h9 : i = 9
            · subst h9
              have : b.toNat ≤ 1 := by omega
              omega
            · have hle8 : (128 : Nat) ^ i ≤ 128 ^ 8 := Nat.pow_le_pow_right (by decide) (by omega)
              have hm : b.toNat % 128 * 128 ^ i ≤ 127 * 128 ^ 8 := Nat.mul_le_mul (by omega) hle8
              omega
    · rw [decF_short _ _ _ _ _ hlt]
      exact ⟨by show (-9223372036854775808 : Int) ≤ 0; decide, by show (0 : Int) ≤ _; decide⟩
theorem rNum_bd (bs : List UInt8) (s : RS) : -9223372036854775808 ≤ (rNum bs s).1 ∧ (rNum bs s).1 ≤ 9223372036854775807 := by
  unfold rNum
  split
  · exact decF_bd bs s.at_ 10 0 0 rfl (by decide)
  · exact ⟨by show (-9223372036854775808 : Int) ≤ 0; decide, by show (0 : Int) ≤ _; decide⟩

end Go.Proofs.Yteenkbfmlnpmlaa
