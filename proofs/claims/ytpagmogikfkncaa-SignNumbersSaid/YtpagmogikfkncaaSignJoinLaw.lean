/- Plain laws on names put together. -/
import Derived.Test.YtpagmogikfkncaaSignG
namespace Go.Proofs.Ytpagmogikfkncaa
open Go.RowKit Go.Lib

theorem decodeL_low (b : UInt8) (t : List UInt8) (h : b.toNat < 128) : decodeL (b :: t) = (b.toNat, 1) := by
  rw [decodeL_N]
  exact decodeN_ascii _ _ _ _ _ h
theorem nameFrom_app (f : Bool) (rs ts : List (Nat × Nat)) : nameFrom f (rs ++ ts) = (nameFrom f rs && nameFrom (f && rs.isEmpty) ts) := by
  induction rs generalizing f with
  | nil => simp [nameFrom]
  | cons d t ih =>
    rw [List.cons_append, nameFrom, nameFrom, ih]
    simp [Bool.and_assoc]
theorem nameFrom_weak (rs : List (Nat × Nat)) (h : nameFrom true rs = true) : nameFrom false rs = true := by
  cases rs with
  | nil => rfl
  | cons d t =>
    rw [nameFrom, Bool.and_eq_true] at h ⊢
    refine ⟨?_, h.2⟩
    have := h.1
    simp at this
    simp [this]
theorem name_right2 (first : Bool) (rs : List (Nat × Nat)) (h : nameFrom first rs = true) : rightR rs := by
  induction rs generalizing first with
  | nil => intro d hd; cases hd
  | cons e u ih =>
    rw [nameFrom, Bool.and_eq_true] at h
    intro d hd
    rw [List.mem_cons] at hd
    rcases hd with rfl | hd
    · rintro rfl
      have h1 := h.1
      revert h1
      cases first <;> decide
    · exact ih false h.2 d hd
theorem name_parts (s : ByteArray) (h : nameB s = true) : 1 ≤ s.size ∧ s.size ≤ 24 ∧ nameFrom true (runes s.data.toList) = true := by
  by_cases hg : 1 ≤ s.size ∧ s.size ≤ 24
  · rw [nameB_good s hg.1 hg.2, runesAt_zero] at h
    exact ⟨hg.1, hg.2, h⟩
  · rw [nameB_bad s hg] at h; cases h
theorem runes_ne (l : List UInt8) (h : l ≠ []) : (runes l).isEmpty = false := by rw [runes_step l h]; rfl
theorem nonempty_of (s : ByteArray) (h : 1 ≤ s.size) : s.data.toList ≠ [] := by
  intro h0
  have := congrArg List.length h0
  rw [size_list, List.length_nil] at this
  omega
theorem name_joined (a b : ByteArray) (ha : nameB a = true) (hb : nameB b = true) (hs : a.size + b.size ≤ 23) : nameB (a ++ b) = true := by
  obtain ⟨a1, a2, a3⟩ := name_parts a ha
  obtain ⟨b1, b2, b3⟩ := name_parts b hb
  have hsz : (a ++ b).size = a.size + b.size := ByteArray.size_append
  rw [nameB_good _ (by omega) (by omega), runesAt_zero, ByteArray.data_append, Array.toList_append, runes_app _ _ _ (Nat.le_refl _) (name_right2 true _ a3), nameFrom_app, a3, runes_ne _ (nonempty_of a a1)]
  simpa using nameFrom_weak _ b3
theorem name_between (a b e : ByteArray) (r : UInt8) (he : e.data.toList = [r]) (hr : r.toNat < 128) (ho : otherB (r.toNat : Int) = true) (ha : nameB a = true) (hb : nameB b = true) (hs : a.size + b.size ≤ 23) : nameB (a ++ e ++ b) = true := by
  obtain ⟨a1, a2, a3⟩ := name_parts a ha
  obtain ⟨b1, b2, b3⟩ := name_parts b hb
  have hes : e.size = 1 := by rw [← size_list, he]; rfl
  have hsz : (a ++ e ++ b).size = a.size + 1 + b.size := by rw [ByteArray.size_append, ByteArray.size_append, hes]
  rw [nameB_good _ (by omega) (by omega), runesAt_zero, ByteArray.data_append, Array.toList_append, ByteArray.data_append, Array.toList_append, List.append_assoc, runes_app _ _ _ (Nat.le_refl _) (name_right2 true _ a3), nameFrom_app, a3, runes_ne _ (nonempty_of a a1), he]
  rw [List.singleton_append, runes_step _ (by simp), decodeL_low r _ hr, nameFrom]
  simp only [List.drop_succ_cons, List.drop_zero]
  rw [ho, nameFrom_weak _ b3]
  simp
/-- A blank within a text of right runes is one of its runes. -/
theorem blank_in : ∀ (k : Nat) (p q : List UInt8), p.length ≤ k → rightR (runes (p ++ 32 :: q)) → (32, 1) ∈ runes (p ++ 32 :: q)
  | k, [], q, _, _ => by
    rw [List.nil_append, runes_step _ (by simp), decodeL_low 32 q (by decide)]
    exact List.mem_cons_self ..
  | 0, x :: p, q, hk, _ => by simp at hk
  | k + 1, x :: p, q, hk, hr => by
    have hne : (x :: p) ++ 32 :: q ≠ [] := by simp
    have hw := decodeL_width ((x :: p) ++ 32 :: q)
    have hd := runes_step _ hne
    have hv := hr _ (by rw [hd]; exact List.mem_cons_self ..)
    by_cases hle : (decodeL ((x :: p) ++ 32 :: q)).2 ≤ (x :: p).length
    · rw [hd, List.drop_append_of_le_length hle]
      refine List.mem_cons_of_mem _ (blank_in k _ q ?_ ?_)
      · rw [List.length_drop, List.length_cons]
        simp at hk
        omega
      · intro d hd2
        refine hr d ?_
        rw [hd, List.drop_append_of_le_length hle]
        exact List.mem_cons_of_mem _ hd2
    · exfalso
      have hg : ((x :: p) ++ 32 :: q).getD (x :: p).length 0 = 32 := by
        simp [List.getD]
      have hl : 1 ≤ (x :: p).length := by simp
      generalize (x :: p) ++ 32 :: q = l at *
      generalize (x :: p).length = m at *
      rw [decodeL_N] at hle hv
      rcases decodeN_shape l.length (l.getD 0 0).toNat (l.getD 1 0).toNat (l.getD 2 0).toNat (l.getD 3 0).toNat with ⟨c, e⟩ | ⟨k1, k2, k3, kv, e⟩ | ⟨k1, k2, k3, k4, kv, ks, e⟩ | ⟨k1, k2, k3, k4, k5, kv, kw, e⟩ | e
      · rw [e] at hle; simp at hle; omega
      · rw [e] at hle; simp at hle
        obtain rfl : m = 1 := by omega
        rw [hg] at k3; revert k3; decide
      · rw [e] at hle; simp at hle
        obtain rfl | rfl : m = 1 ∨ m = 2 := by omega
        · rw [hg] at k3; revert k3; decide
        · rw [hg] at k4; revert k4; decide
      · rw [e] at hle; simp at hle
        obtain rfl | rfl | rfl : m = 1 ∨ m = 2 ∨ m = 3 := by omega
        · rw [hg] at k3; revert k3; decide
        · rw [hg] at k4; revert k4; decide
        · rw [hg] at k5; revert k5; decide
      · exact hv e
theorem nameFrom_mem (f : Bool) (rs : List (Nat × Nat)) (h : nameFrom f rs = true) (d : Nat × Nat) (hd : d ∈ rs) : letterB (d.1 : Int) = true ∨ otherB (d.1 : Int) = true := by
  induction rs generalizing f with
  | nil => cases hd
  | cons e u ih =>
    rw [nameFrom, Bool.and_eq_true, Bool.or_eq_true, Bool.and_eq_true] at h
    rw [List.mem_cons] at hd
    rcases hd with rfl | hd
    · rcases h.1 with h | h
      · exact .inl h
      · exact .inr h.2
    · exact ih false h.2 hd
theorem name_blank (a : ByteArray) (i : Nat) : nameB (a.extract 0 i ++ ⟨#[32]⟩ ++ a.extract i a.size) = false := by
  cases hn : nameB (a.extract 0 i ++ ⟨#[32]⟩ ++ a.extract i a.size) with
  | false => rfl
  | true =>
    exfalso
    obtain ⟨_, _, h3⟩ := name_parts _ hn
    rw [ByteArray.data_append, Array.toList_append, ByteArray.data_append, Array.toList_append, List.append_assoc] at h3
    have hb := blank_in _ (a.extract 0 i).data.toList (a.extract i a.size).data.toList (Nat.le_refl _) (name_right2 true _ h3)
    rcases nameFrom_mem true _ h3 (32, 1) hb with h | h
    · revert h; decide
    · revert h; decide
end Go.Proofs.Ytpagmogikfkncaa
