/- Plain law: what is written is read back; what is read has these bytes. No function of the program is named. -/
import Derived.Test.YtochgmpcdmahkaaPackT
namespace Go.Proofs.Ytochgmpcdmahkaa
open Go.RowKit

theorem rText_put (pre post : List UInt8) (s : ByteArray) (most : Int) (hs : (s.size : Int) ≤ most) (h63 : s.size ≤ 9223372036854775807) :
    rText (pre ++ textL s ++ post) ⟨pre.length, 0⟩ most = (bytesOf s, ⟨pre.length + (textL s).length, 0⟩) := by
  have hn := rNum_put pre (bytesOf s ++ post) s.size (by omega) (by omega)
  have e : pre ++ textL s ++ post = pre ++ numL s.size ++ (bytesOf s ++ post) := by simp [textL]
  have hl : (pre ++ textL s ++ post).length = pre.length + (numL s.size).length + s.size + post.length := by simp [textL, bytesOf_len]; omega
  have hw : rWithin (pre ++ textL s ++ post) ⟨pre.length, 0⟩ 0 most = ((s.size : Int), ⟨pre.length + (numL s.size).length, 0⟩) := by
    unfold rWithin
    rw [e, hn]
    simp only []
    rw [if_neg (by omega)]
  unfold rText
  rw [hw]
  simp only []
  rw [if_neg (by omega), if_neg (by rw [hl]; omega)]
  have e2 : ((pre ++ textL s ++ post).drop (pre.length + (numL s.size).length)).take (s.size : Int).toNat = bytesOf s := by
    rw [e]
    have e3 : pre ++ numL s.size ++ (bytesOf s ++ post) = (pre ++ numL s.size) ++ (bytesOf s ++ post) := rfl
    rw [e3, List.drop_append_of_le_length (by simp)]
    have e4 : (pre ++ numL s.size).drop (pre.length + (numL s.size).length) = [] := List.drop_eq_nil_of_le (by simp)
    rw [e4, List.nil_append]
    have e5 : (s.size : Int).toNat = (bytesOf s).length := by rw [bytesOf_len]; omega
    rw [e5, List.take_left]
  rw [e2]
  have e6 : pre.length + (numL s.size).length + (s.size : Int).toNat = pre.length + (textL s).length := by simp [textL, bytesOf_len]; omega
  rw [e6]
theorem rFlag_put (pre post : List UInt8) (f : Bool) : rFlag (pre ++ numL (if f then 1 else 0) ++ post) ⟨pre.length, 0⟩ = (f, ⟨pre.length + (numL (if f then 1 else 0)).length, 0⟩) := by
  cases f
  · have hn := rNum_put pre post 0 (by decide) (by decide)
    simp only [Bool.false_eq_true, if_false]
    unfold rFlag
    rw [hn]
    simp
  · have hn := rNum_put pre post 1 (by decide) (by decide)
    simp only [if_true]
    unfold rFlag
    rw [hn]
    simp
theorem rCount_put (pre post : List UInt8) (n : Nat) (most : Int) (h : (n : Int) ≤ most) (hp : n ≤ post.length) (h63 : n ≤ 9223372036854775807) : rCount (pre ++ numL n ++ post) ⟨pre.length, 0⟩ most = ((n : Int), ⟨pre.length + (numL n).length, 0⟩) := by
  have hn := rNum_put pre post n (by omega) (by omega)
  have hw : rWithin (pre ++ numL n ++ post) ⟨pre.length, 0⟩ 0 most = ((n : Int), ⟨pre.length + (numL n).length, 0⟩) := by
    unfold rWithin
    rw [hn]
    simp only []
    rw [if_neg (by omega)]
  unfold rCount
  rw [hw]
  simp only []
  rw [if_neg (by simp only [List.length_append]; omega)]

/-- A step of a reading: these bytes stood there, and nothing is wrong. -/
structure Rd1 (bs : List UInt8) (s s' : RS) (L : List UInt8) : Prop where
  e0 : s.err = 0
  e1 : s'.err = 0
  at_ : s'.at_ = s.at_ + L.length
  is : (bs.drop s.at_).take L.length = L
theorem Rd1.trans {bs : List UInt8} {s s' s'' : RS} {L M : List UInt8} (h : Rd1 bs s s' L) (k : Rd1 bs s' s'' M) : Rd1 bs s s'' (L ++ M) := by
  refine ⟨h.e0, k.e1, by rw [k.at_, h.at_, List.length_append]; omega, ?_⟩
  have h2 := k.is
  rw [h.at_] at h2
  rw [List.length_append, List.take_add, h.is, List.drop_drop, h2]
theorem Rd1.nil {bs : List UInt8} {s : RS} (h : s.err = 0) : Rd1 bs s s [] := ⟨h, h, by simp, by simp⟩
theorem Rd1.all {bs : List UInt8} {s : RS} {L : List UInt8} (h : Rd1 bs ⟨0, 0⟩ s L) (he : ¬ s.at_ < bs.length) : L = bs := by
  have h1 := h.at_
  have h2 := h.is
  simp only [List.drop_zero, Nat.zero_add] at h1 h2
  rw [← h2, List.take_of_length_le (by omega)]
theorem rNum_was (bs : List UInt8) (s : RS) (h : (rNum bs s).2.err = 0) : s.err = 0 := by
  unfold rNum at h
  split at h
  · assumption
  · exact h
theorem rNum_step (bs : List UInt8) (s : RS) (h : (rNum bs s).2.err = 0) : Rd1 bs s (rNum bs s).2 (numL (rNum bs s).1) := by
  have h0 := rNum_was bs s h
  obtain ⟨a, e⟩ := s
  simp only at h0
  subst h0
  obtain ⟨h1, h2⟩ := rNum_one bs a (rNum bs ⟨a, 0⟩).2.at_ (rNum bs ⟨a, 0⟩).1 (by
    cases hq : rNum bs ⟨a, 0⟩ with
    | mk n s =>
      cases s with
      | mk e er =>
        rw [hq] at h
        simp only at h
        subst h
        rfl)
  exact ⟨rfl, h, h1, h2⟩
theorem rWithin_step (bs : List UInt8) (s : RS) (lo hi : Int) (h : (rWithin bs s lo hi).2.err = 0) : Rd1 bs s (rWithin bs s lo hi).2 (numL (rWithin bs s lo hi).1) ∧ lo ≤ (rWithin bs s lo hi).1 ∧ (rWithin bs s lo hi).1 ≤ hi := by
  refine ⟨?_, rWithin_in bs s lo hi h⟩
  unfold rWithin at h ⊢
  simp only [] at h ⊢
  split
  · rename_i hc
    rw [if_pos hc] at h
    cases h
  · rename_i hc
    rw [if_neg hc] at h
    exact rNum_step bs s h
theorem rCount_step (bs : List UInt8) (s : RS) (most : Int) (h : (rCount bs s most).2.err = 0) : Rd1 bs s (rCount bs s most).2 (numL (rCount bs s most).1) := by
  unfold rCount at h ⊢
  simp only [] at h ⊢
  split
  · rename_i hc
    rw [if_pos hc] at h
    cases h
  · rename_i hc
    rw [if_neg hc] at h
    exact (rWithin_step bs s 0 most h).1
theorem rFlag_step (bs : List UInt8) (s : RS) (h : (rFlag bs s).2.err = 0) : Rd1 bs s (rFlag bs s).2 (numL (if (rFlag bs s).1 then 1 else 0)) := by
  unfold rFlag at h ⊢
  simp only [] at h ⊢
  split
  · rename_i hc
    rw [if_pos hc] at h
    cases h
  · rename_i hc
    rw [if_neg hc] at h
    have h' : (rNum bs s).2.err = 0 := h
    have h1 := rNum_step bs s h'
    have h2 : (rNum bs s).1 = 0 ∨ (rNum bs s).1 = 1 := by
      rcases Classical.em ((rNum bs s).1 = 0) with h3 | h3
      · exact .inl h3
      · rcases Classical.em ((rNum bs s).1 = 1) with h4 | h4
        · exact .inr h4
        · exact absurd ⟨h, h3, h4⟩ hc
    rcases h2 with h2 | h2
    · rw [h2] at h1
      simpa [h', h2] using h1
    · rw [h2] at h1
      simpa [h', h2] using h1
theorem rText_step (bs : List UInt8) (s : RS) (most : Int) (h : (rText bs s most).2.err = 0) (h63 : bs.length ≤ 9223372036854775807) : Rd1 bs s (rText bs s most).2 (textL ⟨(rText bs s most).1.toArray⟩) := by
  unfold rText at h ⊢
  simp only [] at h ⊢
  split
  · rename_i hc
    rw [if_pos hc] at h
    exact absurd h hc
  · rename_i hc
    rw [if_neg hc] at h
    split
    · rename_i hd
      rw [if_pos hd] at h
      cases h
    · rename_i hd
      have he : (rWithin bs s 0 most).2.err = 0 := by
        rcases Classical.em ((rWithin bs s 0 most).2.err = 0) with h1 | h1
        · exact h1
        · exact absurd h1 hc
      obtain ⟨h1, h2, h3⟩ := rWithin_step bs s 0 most he
      have hlen : ((bs.drop (rWithin bs s 0 most).2.at_).take (rWithin bs s 0 most).1.toNat).length = (rWithin bs s 0 most).1.toNat := by
        rw [List.length_take, List.length_drop]; omega
      have h4 : Rd1 bs (rWithin bs s 0 most).2 ⟨(rWithin bs s 0 most).2.at_ + (rWithin bs s 0 most).1.toNat, 0⟩ ((bs.drop (rWithin bs s 0 most).2.at_).take (rWithin bs s 0 most).1.toNat) :=
        ⟨he, rfl, by rw [hlen], by rw [hlen]⟩
      have h5 := h1.trans h4
      have e : textL ⟨((bs.drop (rWithin bs s 0 most).2.at_).take (rWithin bs s 0 most).1.toNat).toArray⟩ = numL (rWithin bs s 0 most).1 ++ (bs.drop (rWithin bs s 0 most).2.at_).take (rWithin bs s 0 most).1.toNat := by
        have e1 : ((⟨((bs.drop (rWithin bs s 0 most).2.at_).take (rWithin bs s 0 most).1.toNat).toArray⟩ : ByteArray).size : Int) = (rWithin bs s 0 most).1 := by
          have : (⟨((bs.drop (rWithin bs s 0 most).2.at_).take (rWithin bs s 0 most).1.toNat).toArray⟩ : ByteArray).size = ((bs.drop (rWithin bs s 0 most).2.at_).take (rWithin bs s 0 most).1.toNat).length := by simp [ByteArray.size]
          rw [this, hlen]
          omega
        rw [textL, e1]
        rfl
      rw [e]
      exact h5
end Go.Proofs.Ytochgmpcdmahkaa
