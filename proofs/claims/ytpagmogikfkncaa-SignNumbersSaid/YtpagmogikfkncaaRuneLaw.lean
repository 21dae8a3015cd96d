/- Laws on a text's runes: a text cut at a rune's end, a text behind another, a rune's own bytes. Plain Lean; no function of the program is named. -/
import Derived.Test.YtpagmogikfkncaaRunes
namespace Go.Proofs.Ytpagmogikfkncaa
open Go.RowKit Go.Lib

/-- Decoding at four bytes is of their number or less a matter of these conditions alone. -/
theorem dec2 {n b0 b1 b2 b3 : Nat} (h0 : b0 / 32 = 6) (hn : 1 < n) (h1 : b1 / 64 = 2) (hv : 128 ≤ b0 % 32 * 64 + b1 % 64) : decodeN n b0 b1 b2 b3 = (b0 % 32 * 64 + b1 % 64, 2) := by
  unfold decodeN
  rw [if_neg (by omega), if_pos ⟨h0, hn, h1⟩, if_pos hv]
theorem dec3 {n b0 b1 b2 b3 : Nat} (h0 : b0 / 16 = 14) (hn : 2 < n) (h1 : b1 / 64 = 2) (h2 : b2 / 64 = 2) (hv : 2048 ≤ b0 % 16 * 4096 + b1 % 64 * 64 + b2 % 64) (hs : b0 % 16 * 4096 + b1 % 64 * 64 + b2 % 64 < 55296 ∨ 57344 ≤ b0 % 16 * 4096 + b1 % 64 * 64 + b2 % 64) :
    decodeN n b0 b1 b2 b3 = (b0 % 16 * 4096 + b1 % 64 * 64 + b2 % 64, 3) := by
  unfold decodeN
  rw [if_neg (by omega), if_neg (by omega), if_pos ⟨h0, ⟨by omega, h1⟩, hn, h2⟩, if_pos ⟨hv, by omega⟩]
theorem dec4 {n b0 b1 b2 b3 : Nat} (h0 : b0 / 8 = 30) (hn : 3 < n) (h1 : b1 / 64 = 2) (h2 : b2 / 64 = 2) (h3 : b3 / 64 = 2) (hv : 65536 ≤ b0 % 8 * 262144 + b1 % 64 * 4096 + b2 % 64 * 64 + b3 % 64) (hs : b0 % 8 * 262144 + b1 % 64 * 4096 + b2 % 64 * 64 + b3 % 64 ≤ 1114111) :
    decodeN n b0 b1 b2 b3 = (b0 % 8 * 262144 + b1 % 64 * 4096 + b2 % 64 * 64 + b3 % 64, 4) := by
  unfold decodeN
  rw [if_neg (by omega), if_neg (by omega), if_neg (by omega), if_pos ⟨h0, ⟨by omega, h1⟩, ⟨by omega, h2⟩, hn, h3⟩, if_pos ⟨hv, by omega⟩]
/-- More bytes behind a rune that is right: it is the same rune. -/
theorem dec_more {n n' b0 b1 b2 b3 c1 c2 c3 : Nat} (hn : n ≤ n') (e1 : 1 < n → c1 = b1) (e2 : 2 < n → c2 = b2) (e3 : 3 < n → c3 = b3) (hv : decodeN n b0 b1 b2 b3 ≠ (65533, 1)) : decodeN n' b0 c1 c2 c3 = decodeN n b0 b1 b2 b3 := by
  rcases decodeN_shape n b0 b1 b2 b3 with ⟨c, e⟩ | ⟨k1, k2, k3, kv, e⟩ | ⟨k1, k2, k3, k4, kv, ks, e⟩ | ⟨k1, k2, k3, k4, k5, kv, kw, e⟩ | e
  · rw [e]; exact decodeN_ascii _ _ _ _ _ c
  · rw [e]
    obtain rfl := e1 k2
    exact dec2 k1 (by omega) k3 kv
  · rw [e]
    obtain rfl := e1 (by omega)
    obtain rfl := e2 k2
    exact dec3 k1 (by omega) k3 k4 kv ks
  · rw [e]
    obtain rfl := e1 (by omega)
    obtain rfl := e2 (by omega)
    obtain rfl := e3 k2
    exact dec4 k1 (by omega) k3 k4 k5 kv kw
  · exact absurd e hv
/-- Fewer bytes, but the rune's own: it is the same rune. -/
theorem dec_less {n m b0 b1 b2 b3 c1 c2 c3 : Nat} (hm : m ≤ n) (h1 : 1 ≤ m) (e1 : 1 < m → c1 = b1) (e2 : 2 < m → c2 = b2) (e3 : 3 < m → c3 = b3) (hw : (decodeN n b0 b1 b2 b3).2 ≤ m) : decodeN m b0 c1 c2 c3 = decodeN n b0 b1 b2 b3 := by
  by_cases hv : decodeN m b0 c1 c2 c3 = (65533, 1)
  · rcases decodeN_shape n b0 b1 b2 b3 with ⟨c, e⟩ | ⟨k1, k2, k3, kv, e⟩ | ⟨k1, k2, k3, k4, kv, ks, e⟩ | ⟨k1, k2, k3, k4, k5, kv, kw, e⟩ | e
    · rw [e]; exact decodeN_ascii _ _ _ _ _ c
    · rw [e] at hw ⊢
      simp only [] at hw
      obtain rfl := e1 (by omega)
      exact dec2 k1 (by omega) k3 kv
    · rw [e] at hw ⊢
      simp only [] at hw
      obtain rfl := e1 (by omega)
      obtain rfl := e2 (by omega)
      exact dec3 k1 (by omega) k3 k4 kv ks
    · rw [e] at hw ⊢
      simp only [] at hw
      obtain rfl := e1 (by omega)
      obtain rfl := e2 (by omega)
      obtain rfl := e3 (by omega)
      exact dec4 k1 (by omega) k3 k4 k5 kv kw
    · rw [hv, e]
  · exact (dec_more hm (fun h => (e1 h).symm) (fun h => (e2 h).symm) (fun h => (e3 h).symm) hv).symm

theorem getD_app (l x : List UInt8) (k : Nat) (h : k < l.length) : (l ++ x).getD k 0 = l.getD k 0 := by
  simp [List.getD, List.getElem?_append_left h]
/-- The first rune of a text that is cut behind it. -/
theorem decodeL_take (l : List UInt8) (m : Nat) (hm : (decodeL l).2 ≤ m) : decodeL (l.take m) = decodeL l := by
  have hw := decodeL_width l
  by_cases hl : l.length ≤ m
  · rw [List.take_of_length_le hl]
  · rw [decodeL_N] at hm hw ⊢
    rw [decodeL_N]
    have hlen : (l.take m).length = m := by rw [List.length_take]; omega
    rw [hlen, getD_takeU l m 0 (by omega)]
    exact dec_less (by omega) (by omega) (fun h => by rw [getD_takeU l m 1 h]) (fun h => by rw [getD_takeU l m 2 h]) (fun h => by rw [getD_takeU l m 3 h]) hm
/-- The first rune of a text with another one behind it, if it is right. -/
theorem decodeL_app (l x : List UInt8) (hne : l ≠ []) (hv : decodeL l ≠ (65533, 1)) : decodeL (l ++ x) = decodeL l := by
  have hl : 0 < l.length := List.length_pos_iff.2 hne
  rw [decodeL_N] at hv ⊢
  rw [decodeL_N]
  rw [getD_app l x 0 hl]
  refine dec_more (by rw [List.length_append]; omega) (fun h => ?_) (fun h => ?_) (fun h => ?_) hv
  · rw [getD_app l x 1 h]
  · rw [getD_app l x 2 h]
  · rw [getD_app l x 3 h]

/-- All runes are right ones: none is what a bad byte reads as. -/
def rightR (rs : List (Nat × Nat)) : Prop := ∀ d ∈ rs, d ≠ (65533, 1)
theorem runes_app : ∀ (n : Nat) (l x : List UInt8), l.length ≤ n → rightR (runes l) → runes (l ++ x) = runes l ++ runes x
  | 0, l, x, hn, _ => by
    have : l = [] := List.eq_nil_of_length_eq_zero (by omega)
    subst this
    simp [runes_nil]
  | n + 1, l, x, hn, hr => by
    by_cases hne : l = []
    · subst hne
      simp [runes_nil]
    · have hw := decodeL_width l
      have hle := decodeL_le l hne
      rw [runes_step l hne] at hr ⊢
      have hv := hr _ (List.mem_cons_self ..)
      have e := decodeL_app l x hne hv
      rw [runes_step (l ++ x) (by simp [hne]), e]
      rw [List.drop_append_of_le_length hle, runes_app n (l.drop (decodeL l).2) x (by rw [List.length_drop]; omega) (fun d hd => hr d (List.mem_cons_of_mem _ hd))]
      rfl
/-- The bytes of the first n runes. -/
def spanN : List (Nat × Nat) → Nat → Nat
  | [], _ => 0
  | _, 0 => 0
  | d :: t, n + 1 => d.2 + spanN t n
theorem spanN_zero (rs : List (Nat × Nat)) : spanN rs 0 = 0 := by cases rs <;> rfl
theorem runes_span_le : ∀ (k n : Nat) (l : List UInt8), l.length ≤ k → spanN (runes l) n ≤ l.length
  | 0, n, l, hk => by
    have : l = [] := List.eq_nil_of_length_eq_zero (by omega)
    subst this
    simp [runes_nil, spanN]
  | k + 1, 0, l, hk => by rw [spanN_zero]; omega
  | k + 1, n + 1, l, hk => by
    by_cases hne : l = []
    · subst hne
      simp [runes_nil, spanN]
    · have hw := decodeL_width l
      have hle := decodeL_le l hne
      rw [runes_step l hne, spanN]
      have := runes_span_le k n (l.drop (decodeL l).2) (by rw [List.length_drop]; omega)
      rw [List.length_drop] at this
      omega
/-- A text cut behind its first n runes has these runes; what is left has the others. -/
theorem runes_cut : ∀ (k n : Nat) (l : List UInt8), l.length ≤ k → runes (l.take (spanN (runes l) n)) = (runes l).take n ∧ runes (l.drop (spanN (runes l) n)) = (runes l).drop n
  | 0, n, l, hk => by
    have : l = [] := List.eq_nil_of_length_eq_zero (by omega)
    subst this
    simp [runes_nil, spanN]
  | k + 1, 0, l, hk => by simp [spanN_zero, runes_nil]
  | k + 1, n + 1, l, hk => by
    by_cases hne : l = []
    · subst hne
      simp [runes_nil, spanN]
    · have hw := decodeL_width l
      have hle := decodeL_le l hne
      have ih := runes_cut k n (l.drop (decodeL l).2) (by rw [List.length_drop]; omega)
      rw [runes_step l hne, spanN]
      constructor
      · have hne2 : l.take ((decodeL l).2 + spanN (runes (l.drop (decodeL l).2)) n) ≠ [] := by
          intro h0
          have := congrArg List.length h0
          rw [List.length_take, List.length_nil] at this
          have hl : 0 < l.length := List.length_pos_iff.2 hne
          omega
        rw [runes_step _ hne2, decodeL_take l _ (by omega), List.take_succ_cons, List.drop_take, Nat.add_sub_cancel_left, ih.1]
      · rw [← List.drop_drop, ih.2, List.drop_succ_cons]
theorem runes_span_all : ∀ (k n : Nat) (l : List UInt8), l.length ≤ k → (runes l).length ≤ n → spanN (runes l) n = l.length
  | 0, n, l, hk, _ => by
    have : l = [] := List.eq_nil_of_length_eq_zero (by omega)
    subst this
    simp [runes_nil, spanN]
  | k + 1, n, l, hk, hn => by
    by_cases hne : l = []
    · subst hne
      simp [runes_nil, spanN]
    · have hw := decodeL_width l
      have hle := decodeL_le l hne
      rw [runes_step l hne] at hn ⊢
      rw [List.length_cons] at hn
      obtain ⟨m, rfl⟩ : ∃ m, n = m + 1 := ⟨n - 1, by omega⟩
      rw [spanN, runes_span_all k m (l.drop (decodeL l).2) (by rw [List.length_drop]; omega) (by omega), List.length_drop]
      omega

/-- A rune's own bytes are read as it. -/
theorem decodeL_encode (r : Nat) (t : List UInt8) (hr : r < 55296 ∨ (57343 < r ∧ r ≤ 1114111)) : decodeL (encodeRune (r : Int) ++ t) = (r, (encodeRune (r : Int)).length) := by
  have tb : ∀ (z : Int) (x : Nat), z = (x : Int) → x < 256 → z.toNat.toUInt8.toNat = x := by
    rintro z x rfl hx
    simp
    omega
  rw [decodeL_N]
  unfold encodeRune
  by_cases c1 : r < 128
  · rw [encodeRuneZ_one (by omega) (by omega)]
    simp only [List.map_cons, List.map_nil, List.cons_append, List.nil_append, List.length_cons, List.length_nil, List.getD_cons_zero, List.getD_cons_succ]
    rw [tb (r : Int) r rfl (by omega), decodeN_ascii _ _ _ _ _ c1]
  by_cases c2 : r < 2048
  · rw [encodeRuneZ_two (by omega) (by omega)]
    simp only [List.map_cons, List.map_nil, List.cons_append, List.nil_append, List.length_cons, List.length_nil, List.getD_cons_zero, List.getD_cons_succ]
    rw [tb (192 + (r : Int) / 64) (192 + r / 64) (by omega) (by omega), tb (128 + (r : Int) % 64) (128 + r % 64) (by omega) (by omega)]
    rw [dec2 (by omega) (by omega) (by omega) (by omega)]
    congr 1
    omega
  by_cases c3 : r < 65536
  · rw [encodeRuneZ_three (by omega)]
    simp only [List.map_cons, List.map_nil, List.cons_append, List.nil_append, List.length_cons, List.length_nil, List.getD_cons_zero, List.getD_cons_succ]
    rw [tb (224 + (r : Int) / 4096) (224 + r / 4096) (by omega) (by omega), tb (128 + (r : Int) / 64 % 64) (128 + r / 64 % 64) (by omega) (by omega), tb (128 + (r : Int) % 64) (128 + r % 64) (by omega) (by omega)]
    rw [dec3 (by omega) (by omega) (by omega) (by omega) (by omega) (by omega)]
    congr 1
    omega
  · rw [encodeRuneZ_four (by omega) (by omega)]
    simp only [List.map_cons, List.map_nil, List.cons_append, List.nil_append, List.length_cons, List.length_nil, List.getD_cons_zero, List.getD_cons_succ]
    rw [tb (240 + (r : Int) / 262144) (240 + r / 262144) (by omega) (by omega), tb (128 + (r : Int) / 4096 % 64) (128 + r / 4096 % 64) (by omega) (by omega), tb (128 + (r : Int) / 64 % 64) (128 + r / 64 % 64) (by omega) (by omega), tb (128 + (r : Int) % 64) (128 + r % 64) (by omega) (by omega)]
    rw [dec4 (by omega) (by omega) (by omega) (by omega) (by omega) (by omega) (by omega)]
    congr 1
    omega
/-- What is decoded is a right rune. -/
theorem decodeL_scalar (l : List UInt8) : (decodeL l).1 < 55296 ∨ (57343 < (decodeL l).1 ∧ (decodeL l).1 ≤ 1114111) := by
  rw [decodeL_N]
  rcases decodeN_shape l.length (l.getD 0 0).toNat (l.getD 1 0).toNat (l.getD 2 0).toNat (l.getD 3 0).toNat with ⟨c, e⟩ | ⟨k1, k2, k3, kv, e⟩ | ⟨k1, k2, k3, k4, kv, ks, e⟩ | ⟨k1, k2, k3, k4, k5, kv, kw, e⟩ | e
  all_goals (rw [e]; dsimp only; omega)
theorem runes_scalar : ∀ (n : Nat) (l : List UInt8), ∀ d ∈ runesGo n l, d.1 < 55296 ∨ (57343 < d.1 ∧ d.1 ≤ 1114111)
  | 0, _, d, hd => by simp [runesGo] at hd
  | n + 1, l, d, hd => by
    simp only [runesGo] at hd
    split at hd
    · simp at hd
    · rw [List.mem_cons] at hd
      rcases hd with rfl | hd
      · exact decodeL_scalar l
      · exact runes_scalar n _ d hd
/-- The runes of runes' bytes. -/
theorem runes_encode (f : Nat → Nat) : ∀ (rs : List (Nat × Nat)), (∀ d ∈ rs, f d.1 < 55296 ∨ (57343 < f d.1 ∧ f d.1 ≤ 1114111)) → runes (rs.flatMap fun d => encodeRune (f d.1 : Int)) = rs.map fun d => (f d.1, (encodeRune (f d.1 : Int)).length)
  | [], _ => rfl
  | d :: t, h => by
    have hd := h d (List.mem_cons_self ..)
    have ih := runes_encode f t (fun e he => h e (List.mem_cons_of_mem _ he))
    have hlen := (runeCells_le (f d.1 : Int)).1
    rw [runeCells_length] at hlen
    rw [List.flatMap_cons]
    have hne : encodeRune (f d.1 : Int) ++ (t.flatMap fun d => encodeRune (f d.1 : Int)) ≠ [] := by
      intro h0
      have := congrArg List.length h0
      rw [List.length_append, List.length_nil] at this
      omega
    rw [runes_step _ hne, decodeL_encode _ _ hd]
    simp only [List.map_cons]
    rw [List.drop_left, ih]
end Go.Proofs.Ytpagmogikfkncaa
