/- Plain law: a letter's bytes. -/
import Derived.Test.YtognipephfedkaaLetE
import Derived.Test.YtognipephfedkaaPackW
namespace Go.Proofs.Ytognipephfedkaa
open Go.RowKit

def headL (m : Lt) : List Int := [m.kind, m.fr, m.to, m.te, m.ix, m.at_, m.co, m.me, m.off, m.sz]
def entL (x : Ent) : List UInt8 := numL x.term ++ numL x.members ++ textL x.data
def startL (m : Lt) (n : Nat) : List UInt8 := (headL m).flatMap numL ++ numL (if m.yes then 1 else 0) ++ textL m.data ++ numL n
def ltL (m : Lt) (es : List Ent) : List UInt8 := startL m es.length ++ es.flatMap entL
def I64 (n : Int) : Prop := -9223372036854775808 ≤ n ∧ n ≤ 9223372036854775807
/-- Numbers of 64 bits; texts that are not too long. -/
structure SmallL (m : Lt) (es : List Ent) : Prop where
  head : ∀ n ∈ headL m, I64 n
  data : m.data.size ≤ 1048576
  few : es.length ≤ 20
  ents : ∀ x ∈ es, I64 x.term ∧ I64 x.members ∧ x.data.size ≤ 1048576
theorem nums_len (k : Nat) : ∀ l : List Int, l.length ≤ k → (l.flatMap numL).length ≤ 10 * k
  | [], _ => by simp
  | n :: l, h => by
    rw [List.flatMap_cons, List.length_append]
    have h1 := (numL_len n).2
    have h2 : (l.flatMap numL).length ≤ 10 * (k - 1) := nums_len (k - 1) l (by simp at h; omega)
    simp at h
    omega
theorem textL_len (s : ByteArray) : (textL s).length ≤ s.size + 10 := by
  rw [textL, List.length_append, bytesOf_len]
  have := (numL_len s.size).2
  omega
theorem startL_len (m : Lt) (n : Nat) : (startL m n).length ≤ m.data.size + 130 := by
  have h1 := nums_len 10 (headL m) (by simp [headL])
  have h2 := (numL_len (if m.yes then 1 else 0)).2
  have h3 := textL_len m.data
  have h4 := (numL_len n).2
  simp only [startL, List.length_append]
  omega
theorem entL_len (x : Ent) : (entL x).length ≤ x.data.size + 30 := by
  have h1 := (numL_len x.term).2
  have h2 := (numL_len x.members).2
  have h3 := textL_len x.data
  simp only [entL, List.length_append]
  omega
theorem ents_len (B : Nat) : ∀ es : List Ent, (∀ x ∈ es, x.data.size ≤ B) → (es.flatMap entL).length ≤ es.length * (B + 30)
  | [], _ => by simp
  | x :: es, h => by
    rw [List.flatMap_cons, List.length_append, List.length_cons, Nat.succ_mul]
    have h1 := entL_len x
    have h2 := h x (by simp)
    have h3 := ents_len B es fun y hy => h y (List.mem_cons_of_mem _ hy)
    omega
theorem ents_take (es : List Ent) (k : Nat) (hk : k < es.length) : (es.take (k + 1)).flatMap entL = (es.take k).flatMap entL ++ entL es[k] := by
  rw [List.take_succ_eq_append_getElem hk, List.flatMap_append]
  simp
theorem heads_take (m : Lt) (k : Nat) (hk : k < (headL m).length) : ((headL m).take (k + 1)).flatMap numL = ((headL m).take k).flatMap numL ++ numL (headL m)[k] := by
  rw [List.take_succ_eq_append_getElem hk, List.flatMap_append]
  simp
theorem SmallL.mid {m : Lt} {es : List Ent} (h : SmallL m es) (k : Nat) : (startL m es.length ++ (es.take k).flatMap entL).length ≤ 30000000 := by
  rw [List.length_append]
  have h1 := startL_len m es.length
  have h2 := ents_len 1048576 (es.take k) fun x hx => (h.ents x (List.mem_of_mem_take hx)).2.2
  have h3 := h.data
  have h4 := h.few
  have h5 : (es.take k).length ≤ 20 := by rw [List.length_take]; omega
  have h6 : (es.take k).length * (1048576 + 30) ≤ 20 * (1048576 + 30) := Nat.mul_le_mul_right _ h5
  omega
theorem chain_ents (t : Int) (ht : t ≤ 1099511627776) : ∀ (b : Int) (es : List Ent), ChainP t b es → ∀ x ∈ es, I64 x.term ∧ I64 x.members ∧ x.data.size ≤ 1100
  | _, [], _, x, hx => by cases hx
  | b, y :: es, h, x, hx => by
    obtain ⟨h1, h2⟩ := h
    rcases List.mem_cons.1 hx with rfl | hx
    · simp only [FitsP] at h1
      unfold I64
      omega
    · exact chain_ents t ht _ es h2 x hx
theorem right_small {m : Lt} {es : List Ent} (h : RightP m es) : SmallL m es ∧ es.length ≤ 8 ∧ m.data.size ≤ 600 ∧ ∀ x ∈ es, x.data.size ≤ 1100 := by
  obtain ⟨hN, ⟨a1, a2⟩, ⟨a3, a4⟩, _, ⟨a5, a6⟩, ⟨a7, a8⟩, ⟨a9, a10⟩, ⟨a11, a12⟩, b1, b3, b5, b6⟩ := h
  have h0 : (⟨#[]⟩ : ByteArray).size = 0 := rfl
  have hes : es.length ≤ 8 ∧ (∀ x ∈ es, I64 x.term ∧ I64 x.members ∧ x.data.size ≤ 1100) := by
    by_cases h3 : m.kind = 3
    · obtain ⟨_, h4, _, h6⟩ := b3 h3
      exact ⟨h4, chain_ents _ a6 _ _ h6⟩
    · have : es.length = 0 := by
        rcases hN with h | h | h | h | h | h
        · exact h.2.1
        · exact h.2.1
        · exact absurd h.1 h3
        · exact h.2.1
        · exact h.2.1
        · exact h.2.1
      have e : es = [] := List.eq_nil_of_length_eq_zero this
      subst e
      exact ⟨by simp, by simp⟩
  have hrest : (I64 m.me ∧ I64 m.off ∧ I64 m.sz) ∧ m.data.size ≤ 600 ∧ (1 ≤ m.kind ∧ m.kind ≤ 6) := by
    unfold I64
    rcases hN with ⟨k, h⟩ | ⟨k, h⟩ | ⟨k, h⟩ | ⟨k, h⟩ | ⟨k, h⟩ | ⟨k, h⟩
    · obtain ⟨_, _, e1, e2, e3, _, e4⟩ := h
      rw [e4, h0]; omega
    · obtain ⟨_, _, _, _, e1, e2, e3, e4⟩ := h
      rw [e4, h0]; omega
    · obtain ⟨e1, e2, e3, _, e4⟩ := h
      rw [e4, h0]; omega
    · obtain ⟨_, _, _, e1, e2, e3, e4⟩ := h
      rw [e4, h0]; omega
    · have := b5 k
      simp only [PieceP] at this
      omega
    · have := b6 k
      obtain ⟨_, _, _, e1, e2, _, e4⟩ := h
      rw [e4, h0]; omega
  obtain ⟨⟨g1, g2, g3⟩, g4, g5, g6⟩ := hrest
  refine ⟨⟨?_, by omega, by omega, fun x hx => ?_⟩, hes.1, g4, fun x hx => (hes.2 x hx).2.2⟩
  · intro n hn
    simp only [headL, List.mem_cons, List.not_mem_nil, or_false] at hn
    rcases hn with rfl | rfl | rfl | rfl | rfl | rfl | rfl | rfl | rfl | rfl
    all_goals first | assumption | (unfold I64; omega)
  · obtain ⟨p1, p2, p3⟩ := hes.2 x hx
    exact ⟨p1, p2, by omega⟩
theorem lright_is (m : Lt) (a : Option Addr) (c n : Nat) (es : List Ent) (hn : es.length = n) (q : Bool) (hq : q = true ↔ RightP m es) (w : World) (hl : SlS Ent.cells 3 w (.slice a n c) es) : Calls Try.prog 28 #[m.agg (.slice a n c)] w fun e w' => e = .returned (.bool q) ∧ Ext w w' := by
  subst hn
  refine (lright_any m a c es w hl).mono ?_
  rintro e w' ⟨⟨q', rfl, h⟩, hx⟩
  have : q' = q := by rw [Bool.eq_iff_iff, h, hq]
  exact ⟨by rw [this], hx⟩
theorem prop_bool (P : Prop) : ∃ q : Bool, (q = true ↔ P) := by
  by_cases h : P
  · exact ⟨true, by simp [h]⟩
  · exact ⟨false, by simp [h]⟩
/-- The bytes behind a letter are a letter's own memory. -/
theorem SlR.len_le {w : World} {B size n : Nat} {v : Value} {xs : List Value} (h : SlR w B size v n xs) : n ≤ maxLen := h.2.1
end Go.Proofs.Ytognipephfedkaa
