/- Laws on what folding makes: plain Lean. -/
import Derived.Test.YtpagmogikfkncaaRuneLaw
namespace Go.Proofs.Ytpagmogikfkncaa
open Go.RowKit Go.Lib

/-- A rune folded, as a natural number. -/
def foldN (r : Nat) : Nat := if (65 ≤ r ∧ r ≤ 90) ∨ (192 ≤ r ∧ r ≤ 222 ∧ r ≠ 215) then r + 32 else r
theorem foldN_twice (r : Nat) : foldN (foldN r) = foldN r := by
  unfold foldN
  split
  · rw [if_neg (by omega)]
  · rfl
theorem foldN_small (r : Nat) : ¬ (65 ≤ foldN r ∧ foldN r ≤ 90) := by
  unfold foldN
  split <;> omega
theorem foldN_scalar (r : Nat) (h : r < 55296 ∨ (57343 < r ∧ r ≤ 1114111)) : foldN r < 55296 ∨ (57343 < foldN r ∧ foldN r ≤ 1114111) := by
  unfold foldN
  split <;> omega
/-- The runes of a folded text. -/
def foldM (l : List UInt8) : List UInt8 := (runes l).flatMap fun d => encodeRune (foldN d.1 : Int)
theorem runes_fold (l : List UInt8) : runes (foldM l) = (runes l).map fun d => (foldN d.1, (encodeRune (foldN d.1 : Int)).length) :=
  runes_encode foldN (runes l) fun d hd => foldN_scalar _ (runes_scalar _ l d hd)
theorem fold_twice (l : List UInt8) : foldM (foldM l) = foldM l := by
  unfold foldM
  rw [show runes ((runes l).flatMap fun d => encodeRune (foldN d.1 : Int)) = _ from runes_fold l]
  rw [List.flatMap_map]
  congr 1
  funext d
  simp only [foldN_twice]
theorem fold_width (l : List UInt8) : (runes (foldM l)).length = (runes l).length := by rw [runes_fold, List.length_map]
theorem fold_noA (l : List UInt8) : ∀ d ∈ runes (foldM l), ¬ (65 ≤ d.1 ∧ d.1 ≤ 90) := by
  intro d hd
  rw [runes_fold, List.mem_map] at hd
  obtain ⟨e, _, rfl⟩ := hd
  exact foldN_small e.1
/-- Bytes are as many as the widths of the runes. -/
theorem runes_widths : ∀ (k : Nat) (l : List UInt8), l.length ≤ k → ((runes l).map fun d => d.2).sum = l.length
  | 0, l, hk => by
    have : l = [] := List.eq_nil_of_length_eq_zero (by omega)
    subst this
    rfl
  | k + 1, l, hk => by
    by_cases hne : l = []
    · subst hne
      rfl
    · have hw := decodeL_width l
      have hle := decodeL_le l hne
      rw [runes_step l hne, List.map_cons, List.sum_cons, runes_widths k (l.drop (decodeL l).2) (by rw [List.length_drop]; omega), List.length_drop]
      omega
/-- A right rune is as wide as its bytes. -/
theorem decodeL_wide (l : List UInt8) (hne : l ≠ []) (hv : decodeL l ≠ (65533, 1)) : (decodeL l).2 = (encodeRune ((decodeL l).1 : Int)).length := by
  have h := encode_decode l hne (fun h => hv (Prod.ext h.1 h.2))
  rw [h, List.length_take]
  have := decodeL_le l hne
  omega
theorem runes_wide : ∀ (n : Nat) (l : List UInt8), ∀ d ∈ runesGo n l, d ≠ (65533, 1) → d.2 = (encodeRune (d.1 : Int)).length
  | 0, _, d, hd, _ => by simp [runesGo] at hd
  | n + 1, l, d, hd, hv => by
    simp only [runesGo] at hd
    split at hd
    · simp at hd
    · rename_i hne
      rw [List.mem_cons] at hd
      rcases hd with rfl | hd
      · exact decodeL_wide l hne hv
      · exact runes_wide n _ d hd hv
theorem foldN_wide (r : Nat) : (encodeRune (foldN r : Int)).length = (encodeRune (r : Int)).length := by
  unfold foldN
  split
  · rename_i h
    unfold encodeRune
    rw [List.length_map, List.length_map]
    rcases h with h | h
    · rw [encodeRuneZ_one (by omega) (by omega), encodeRuneZ_one (by omega) (by omega)]
      rfl
    · rw [encodeRuneZ_two (by omega) (by omega), encodeRuneZ_two (by omega) (by omega)]
      rfl
  · rfl
/-- A text of right runes is as long folded as it is. -/
theorem fold_length (l : List UInt8) (hr : rightR (runes l)) : (foldM l).length = l.length := by
  rw [← runes_widths _ (foldM l) (Nat.le_refl _), ← runes_widths _ l (Nat.le_refl _), runes_fold, List.map_map]
  congr 1
  apply List.map_congr_left
  intro d hd
  show (encodeRune (foldN d.1 : Int)).length = d.2
  rw [foldN_wide, runes_wide _ l d hd (hr d hd)]
end Go.Proofs.Ytpagmogikfkncaa
