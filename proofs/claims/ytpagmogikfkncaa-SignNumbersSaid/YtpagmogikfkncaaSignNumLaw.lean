/- Plain laws on the digits of a number. -/
import Derived.Test.YtpagmogikfkncaaSignJoinLaw
import Derived.Test.YtpagmogikfkncaaSignF
namespace Go.Proofs.Ytpagmogikfkncaa
open Go.RowKit Go.Lib

def okD (b : UInt8) : Prop := 48 ≤ b.toNat ∧ b.toNat ≤ 57
def numL : List UInt8 → Nat → Nat
  | [], a => a
  | b :: t, a => numL t (10 * a + (b.toNat - 48))
theorem runes_digits (x : List UInt8) : ∀ l : List UInt8, (∀ b ∈ l, okD b) → runes (l ++ x) = l.map (fun b => (b.toNat, 1)) ++ runes x
  | [], _ => rfl
  | b :: t, h => by
    have hb := h b (List.mem_cons_self ..)
    rw [List.cons_append, runes_step _ (by simp), decodeL_low b _ (by have := hb.2; omega)]
    simp only [List.drop_succ_cons, List.drop_zero, List.map_cons, List.cons_append]
    rw [runes_digits x t (fun c hc => h c (List.mem_cons_of_mem _ hc))]
theorem digGo_digits (ts : List (Nat × Nat)) : ∀ (l : List UInt8) (a : Nat), (∀ b ∈ l, okD b) → digGo (l.map (fun b => (b.toNat, 1)) ++ ts) a = digGo ts (numL l a)
  | [], _, _ => rfl
  | b :: t, a, h => by
    have hb := h b (List.mem_cons_self ..)
    rw [List.map_cons, List.cons_append, digGo_go (b.toNat, 1) _ _ hb, digGo_digits ts t _ (fun c hc => h c (List.mem_cons_of_mem _ hc))]
    rfl
def numDig (m : Nat) : UInt8 := UInt8.ofNat (48 + m % 10)
theorem numDig_nat (m : Nat) : (numDig m).toNat = 48 + m % 10 := by
  unfold numDig
  rw [UInt8.toNat_ofNat']
  omega
/-- What stands at the head of the loop that writes the digits of n: the digits L so far, and k that is left. -/
def NumInv (n : Nat) (L : List UInt8) (k : Nat) : Prop :=
  (∀ b ∈ L, okD b) ∧ L.length ≤ 10 ∧ k < 10 ^ (10 - L.length) ∧ numL L k = n ∧ (L ≠ [] → k = 0 → L.length = 1 ∨ (L.headD 0).toNat ≠ 48)
theorem num_start (n : Nat) (h : n < 4294967296) : NumInv n [] n := by
  refine ⟨?_, ?_, ?_, rfl, ?_⟩
  · intro b hb; cases hb
  · simp
  · show n < 10 ^ 10
    omega
  · intro h; exact absurd rfl h
theorem num_len (n : Nat) (L : List UInt8) (k : Nat) (h : NumInv n L k) (hg : 0 < k ∨ L = []) : L.length < 10 := by
  obtain ⟨_, h2, h3, _, _⟩ := h
  rcases hg with hg | hg
  · by_cases he : L.length = 10
    · rw [he] at h3; simp at h3; omega
    · omega
  · rw [hg]; simp
theorem num_step (n : Nat) (L : List UInt8) (k : Nat) (h : NumInv n L k) (hg : 0 < k ∨ L = []) : NumInv n (numDig k :: L) (k / 10) := by
  have hl := num_len n L k h hg
  obtain ⟨h1, h2, h3, h4, h5⟩ := h
  have hd := numDig_nat k
  refine ⟨?_, ?_, ?_, ?_, ?_⟩
  · intro b hb
    rcases List.mem_cons.1 hb with rfl | hb
    · unfold okD; omega
    · exact h1 b hb
  · rw [List.length_cons]; omega
  · rw [List.length_cons]
    have e : 10 - L.length = (10 - (L.length + 1)) + 1 := by omega
    rw [e, Nat.pow_succ] at h3
    omega
  · rw [numL, hd, show 10 * (k / 10) + (48 + k % 10 - 48) = k from by omega]
    exact h4
  · intro _ hz
    rcases hg with hg | hg
    · right
      rw [List.headD_cons, hd]
      omega
    · left; rw [hg]; rfl
theorem data_size (s : ByteArray) (L : List UInt8) (h : s = ⟨L.toArray⟩) : s.size = L.length ∧ s.data.toList = L := by subst h; exact ⟨by rw [← size_list], rfl⟩
theorem num_read (n : Nat) (L : List UInt8) (s : ByteArray) (hs : s = ⟨L.toArray⟩) (h : NumInv n L 0) (hne : L ≠ []) : digB s = ((n : Int), true) := by
  obtain ⟨h1, h2, _, h4, h5⟩ := h
  obtain ⟨e1, e2⟩ := data_size s L hs
  have hp : 0 < L.length := List.length_pos_iff.2 hne
  have hb : byte0 s = (L.headD 0).toNat := by
    unfold byte0
    rw [e2]
    cases L with
    | nil => exact absurd rfl hne
    | cons b t => rfl
  rw [digB, if_pos ⟨⟨by omega, by omega⟩, by rw [e1, hb]; exact h5 hne rfl⟩, runesAt_zero, e2]
  have hr := runes_digits [] L h1
  rw [List.append_nil] at hr
  rw [hr, digGo_digits _ L 0 h1, h4]
  rfl
theorem num_ahead (n k : Nat) (L : List UInt8) (s z : ByteArray) (hs : s = ⟨L.toArray⟩) (hz : z.data.toList = [48]) (h : NumInv n L k) (hne : L ≠ []) : digB (z ++ s) = (0, false) := by
  obtain ⟨e1, e2⟩ := data_size s L hs
  have hp : 0 < L.length := List.length_pos_iff.2 hne
  have hzs : z.size = 1 := by rw [← size_list, hz]; rfl
  have hsz : (z ++ s).size = 1 + L.length := by rw [ByteArray.size_append, hzs, e1]
  have hb : byte0 (z ++ s) = 48 := by
    unfold byte0
    rw [ByteArray.data_append, Array.toList_append, hz]
    rfl
  rw [digB, if_neg]
  rintro ⟨_, h | h⟩
  · omega
  · exact h hb
theorem encode_all (r : Int) : ∃ v : Nat, (v < 55296 ∨ (57343 < v ∧ v ≤ 1114111)) ∧ (Utf8.encode r).data.toList = encodeRune (v : Int) ∧ ((48 ≤ v ∧ v ≤ 57) → 48 ≤ r ∧ r ≤ 57) := by
  by_cases h : (0 ≤ r ∧ r < 55296) ∨ (57343 < r ∧ r ≤ 1114111)
  · obtain ⟨v, rfl⟩ := Int.eq_ofNat_of_zero_le (by omega : 0 ≤ r)
    exact ⟨v, by omega, encode_data v, by omega⟩
  · refine ⟨65533, by omega, ?_, by omega⟩
    have : Utf8.encode r = Utf8.encode ((65533 : Nat) : Int) := by
      have hv : Utf8.valid r = false := by
        simp only [Utf8.valid, Bool.or_eq_false_iff, Bool.and_eq_false_iff, decide_eq_false_iff_not]
        omega
      have hv2 : Utf8.valid ((65533 : Nat) : Int) = true := by decide
      unfold Utf8.encode
      simp only [hv, hv2, if_true, Bool.false_eq_true, if_false, Utf8.runeError]
      rfl
    rw [this]
    exact encode_data 65533
theorem num_odd (n k : Nat) (L : List UInt8) (s : ByteArray) (i : Nat) (r : Int) (hs : s = ⟨L.toArray⟩) (h : NumInv n L k) (hi : i ≤ s.size) (hr : ¬ (48 ≤ r ∧ r ≤ 57)) : digB (s.extract 0 i ++ Utf8.encode r ++ s.extract i s.size) = (0, false) := by
  obtain ⟨e1, e2⟩ := data_size s L hs
  obtain ⟨v, v1, v2, v3⟩ := encode_all r
  by_cases hg : (1 ≤ (s.extract 0 i ++ Utf8.encode r ++ s.extract i s.size).size ∧ (s.extract 0 i ++ Utf8.encode r ++ s.extract i s.size).size ≤ 18) ∧ ((s.extract 0 i ++ Utf8.encode r ++ s.extract i s.size).size = 1 ∨ byte0 (s.extract 0 i ++ Utf8.encode r ++ s.extract i s.size) ≠ 48)
  · rw [digB, if_pos hg, runesAt_zero, ByteArray.data_append, Array.toList_append, ByteArray.data_append, Array.toList_append, List.append_assoc, extract_take, extract_drop, e2, v2]
    have h1 : ∀ b ∈ L.take i, okD b := fun b hb => h.1 b (List.mem_of_mem_take hb)
    rw [runes_digits _ _ h1, digGo_digits _ _ _ h1]
    have hne : encodeRune (v : Int) ++ L.drop i ≠ [] := by
      intro h0
      have := runes_encode (fun x => x) [(v, 0)] (by intro d hd; simp at hd; subst hd; exact v1)
      have h0' := (List.append_eq_nil_iff.1 h0).1
      simp only [List.flatMap_cons, List.flatMap_nil, h0', List.append_nil, List.map_cons, List.map_nil] at this
      cases this
    rw [runes_step _ hne, decodeL_encode v _ v1, digGo_stop]
    intro hv
    exact hr (v3 hv)
  · rw [digB, if_neg hg]
end Go.Proofs.Ytpagmogikfkncaa
