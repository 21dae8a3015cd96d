/- A text's runes, in plain Lean over the model's own decoding. No function of the program is named. -/
import Derived.Test.YtpagmogikfkncaaBase
import Derived.Lib.MapLaws
import Derived.Lib.OthersKept
namespace Go.Proofs.Ytpagmogikfkncaa
open Go.RowKit Go.Lib

/-- The runes of bytes, each with its width; by at most so many. -/
def runesGo : Nat → List UInt8 → List (Nat × Nat)
  | 0, _ => []
  | n + 1, l => if l = [] then [] else decodeL l :: runesGo n (l.drop (decodeL l).2)
def runes (l : List UInt8) : List (Nat × Nat) := runesGo l.length l
theorem runesGo_nil : ∀ n, runesGo n [] = []
  | 0 => rfl
  | _ + 1 => by simp [runesGo]
theorem runesGo_fuel : ∀ (n m : Nat) (l : List UInt8), l.length ≤ n → l.length ≤ m → runesGo n l = runesGo m l
  | 0, m, l, hn, _ => by
    have : l = [] := List.eq_nil_of_length_eq_zero (by omega)
    subst this
    rw [runesGo_nil, runesGo_nil]
  | n + 1, 0, l, _, hm => by
    have : l = [] := List.eq_nil_of_length_eq_zero (by omega)
    subst this
    rw [runesGo_nil, runesGo_nil]
  | n + 1, m + 1, l, hn, hm => by
    by_cases hne : l = []
    · subst hne
      rw [runesGo_nil, runesGo_nil]
    · have hw := decodeL_width l
      have hl : 0 < l.length := List.length_pos_iff.2 hne
      simp only [runesGo, if_neg hne]
      rw [runesGo_fuel n m _ (by rw [List.length_drop]; omega) (by rw [List.length_drop]; omega)]
theorem runes_nil : runes [] = [] := rfl
theorem runes_step (l : List UInt8) (hne : l ≠ []) : runes l = decodeL l :: runes (l.drop (decodeL l).2) := by
  have hw := decodeL_width l
  have hl : 0 < l.length := List.length_pos_iff.2 hne
  unfold runes
  obtain ⟨n, hn⟩ : ∃ n, l.length = n + 1 := ⟨l.length - 1, by omega⟩
  rw [hn]
  simp only [runesGo, if_neg hne]
  rw [runesGo_fuel n _ _ (by rw [List.length_drop]; omega) (Nat.le_refl _)]

/-- The runes from a place on. -/
def runesAt (s : ByteArray) (pos : Nat) : List (Nat × Nat) := runes (s.data.toList.drop pos)
theorem runesAt_end (s : ByteArray) (pos : Nat) (h : ¬ pos < s.size) : runesAt s pos = [] := by
  have : s.data.toList.drop pos = [] := List.drop_eq_nil_of_le (by rw [Array.length_toList]; exact Nat.le_of_not_lt h)
  rw [runesAt, this, runes_nil]
theorem runesAt_step (s : ByteArray) (pos : Nat) (h : pos < s.size) : runesAt s pos = Utf8.decode s pos :: runesAt s (pos + (Utf8.decode s pos).2) := by
  have hne : s.data.toList.drop pos ≠ [] := by
    intro h0
    have := congrArg List.length h0
    rw [List.length_drop, Array.length_toList] at this
    have h2 : pos < s.data.size := h
    simp at this
    omega
  rw [runesAt, runes_step _ hne, decodeL_drop, List.drop_drop, runesAt]
theorem runesAt_zero (s : ByteArray) : runesAt s 0 = runes s.data.toList := rfl
theorem decode_wd (s : ByteArray) (pos : Nat) (h : pos < s.size) : 1 ≤ (Utf8.decode s pos).2 ∧ pos + (Utf8.decode s pos).2 ≤ s.size := by
  have hne : s.data.toList.drop pos ≠ [] := by
    intro h0
    have := congrArg List.length h0
    rw [List.length_drop, Array.length_toList] at this
    have h2 : pos < s.data.size := h
    simp at this
    omega
  have h1 := decodeL_width (s.data.toList.drop pos)
  have h2 := decodeL_le _ hne
  rw [decodeL_drop] at h1 h2
  rw [List.length_drop, Array.length_toList] at h2
  have h3 : s.data.size = s.size := rfl
  omega
theorem decode_max (s : ByteArray) (pos : Nat) : (Utf8.decode s pos).1 ≤ 1114111 := by
  have := decodeL_rune (s.data.toList.drop pos)
  rwa [decodeL_drop] at this
theorem runes_len_le : ∀ (n : Nat) (l : List UInt8), (runesGo n l).length ≤ n
  | 0, _ => by simp [runesGo]
  | n + 1, l => by
    simp only [runesGo]
    split
    · simp
    · have := runes_len_le n (l.drop (decodeL l).2)
      simp only [List.length_cons]
      omega
theorem runesAt_len (s : ByteArray) (pos : Nat) : (runesAt s pos).length ≤ s.size - pos := by
  have h1 := runes_len_le (s.data.toList.drop pos).length (s.data.toList.drop pos)
  have h2 : (s.data.toList.drop pos).length = s.size - pos := by
    rw [List.length_drop, Array.length_toList]; rfl
  rw [h2] at h1
  rw [runesAt, runes, h2]
  exact h1
theorem Ext.iter {w : World} (s : ByteArray) (pos : Nat) : Ext w (w.iter s pos) := (Ext.refl w).alloc _
theorem iterPos_eq (w : World) (s : ByteArray) (pos : Nat) : (w.iter s pos).iterPos w.heap.size = pos := World.iterPos_iter w s pos
end Go.Proofs.Ytpagmogikfkncaa
