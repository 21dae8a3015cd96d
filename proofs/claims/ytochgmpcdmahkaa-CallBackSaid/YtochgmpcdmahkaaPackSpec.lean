/- Plain law: numbers in pieces of seven bits, and what a reader makes of bytes. No function of the program is named. -/
import Derived.Test.YtochgmpcdmahkaaOwn
namespace Go.Proofs.Ytochgmpcdmahkaa
open Go.RowKit

/-- A number of 64 bits as one without a sign, its sign below. -/
def zig (n : Int) : Nat := if 0 ≤ n then (2 * n).toNat else (-2 * n - 1).toNat
def unzig (u : Nat) : Int := if u % 2 = 1 then -((u / 2 : Nat) : Int) - 1 else ((u / 2 : Nat) : Int)
theorem zig_lt (n : Int) (h0 : -9223372036854775808 ≤ n) (h1 : n ≤ 9223372036854775807) : zig n < 18446744073709551616 := by unfold zig; split <;> omega
theorem unzig_zig (n : Int) : unzig (zig n) = n := by unfold unzig zig; split <;> split <;> omega
theorem zig_unzig (u : Nat) : zig (unzig u) = u := by unfold unzig zig; split <;> split <;> omega
theorem unzig_bd (u : Nat) (h : u < 18446744073709551616) : -9223372036854775808 ≤ unzig u ∧ unzig u ≤ 9223372036854775807 := by unfold unzig; split <;> omega

/-- The pieces, least first. -/
def varF : Nat → Nat → List UInt8
  | 0, u => [UInt8.ofNat u]
  | f + 1, u => if u < 128 then [UInt8.ofNat u] else UInt8.ofNat (128 + u % 128) :: varF f (u / 128)
def numL (n : Int) : List UInt8 := varF 9 (zig n)
theorem varF_len (f u : Nat) : 1 ≤ (varF f u).length ∧ (varF f u).length ≤ f + 1 := by
  induction f generalizing u with
  | zero => simp [varF]
  | succ f ih =>
    unfold varF
    split
    · simp
    · have := ih (u / 128); simp; omega
theorem numL_len (n : Int) : 1 ≤ (numL n).length ∧ (numL n).length ≤ 10 := varF_len 9 _

/-- What a reader makes of the bytes at a place: the number, where it stands, what is wrong (0: nothing). -/
def decF (bs : List UInt8) (at0 : Nat) : Nat → Nat → Nat → Int × Nat × Int
  | 0, _, _ => (0, at0, 4)
  | f + 1, i, u =>
    if h : at0 + i < bs.length then
      let c := (bs[at0 + i]).toNat
      if i = 9 ∧ 1 < c then (0, at0, 4)
      else if 128 ≤ c then decF bs at0 f (i + 1) (u + c % 128 * 128 ^ i)
      else if c = 0 ∧ 0 < i then (0, at0, 4)
      else (unzig (u + c % 128 * 128 ^ i), at0 + i + 1, 0)
    else (0, at0, 3)
structure RS where
  at_ : Nat
  err : Int
deriving DecidableEq
/-- A number read. -/
def rNum (bs : List UInt8) (s : RS) : Int × RS :=
  if s.err = 0 then let r := decF bs s.at_ 10 0 0; (r.1, ⟨r.2.1, r.2.2⟩) else (0, s)
def rWithin (bs : List UInt8) (s : RS) (lo hi : Int) : Int × RS :=
  let r := rNum bs s
  if r.2.err = 0 ∧ (r.1 < lo ∨ hi < r.1) then (0, ⟨s.at_, 2⟩) else r
def rCount (bs : List UInt8) (s : RS) (most : Int) : Int × RS :=
  let r := rWithin bs s 0 most
  if r.2.err = 0 ∧ (bs.length : Int) - r.2.at_ < r.1 then (0, ⟨s.at_, 3⟩) else r
def rText (bs : List UInt8) (s : RS) (most : Int) : List UInt8 × RS :=
  let r := rWithin bs s 0 most
  if r.2.err ≠ 0 then ([], r.2)
  else if (bs.length : Int) - r.2.at_ < r.1 then ([], ⟨s.at_, 3⟩)
  else ((bs.drop r.2.at_).take r.1.toNat, ⟨r.2.at_ + r.1.toNat, 0⟩)
def rFlag (bs : List UInt8) (s : RS) : Bool × RS :=
  let r := rNum bs s
  if r.2.err = 0 ∧ r.1 ≠ 0 ∧ r.1 ≠ 1 then (false, ⟨s.at_, 4⟩) else (decide (r.2.err = 0) && (r.1 == 1), r.2)
def rEnd (bs : List UInt8) (s : RS) : RS := if s.err = 0 ∧ s.at_ < bs.length then ⟨s.at_, 5⟩ else s

/-- A place is never behind the end. -/
def RS.ok (bs : List UInt8) (s : RS) : Prop := s.at_ ≤ bs.length
theorem decF_ok (bs : List UInt8) (a : Nat) (ha : a ≤ bs.length) : ∀ f i u, (decF bs a f i u).2.1 ≤ bs.length ∧ a ≤ (decF bs a f i u).2.1
  | 0, _, _ => ⟨ha, Nat.le_refl _⟩
  | f + 1, i, u => by
    unfold decF
    repeat' (first | split | (simp only []))
    all_goals first | exact decF_ok bs a ha f _ _ | (refine ⟨?_, ?_⟩ <;> omega) | (simp only []; refine ⟨?_, ?_⟩ <;> omega)
theorem rNum_ok (bs : List UInt8) (s : RS) (h : s.ok bs) : (rNum bs s).2.ok bs := by
  unfold rNum
  split
  · exact (decF_ok bs s.at_ h 10 0 0).1
  · exact h
theorem rWithin_ok (bs : List UInt8) (s : RS) (lo hi : Int) (h : s.ok bs) : (rWithin bs s lo hi).2.ok bs := by
  unfold rWithin
  simp only []
  split
  · exact h
  · exact rNum_ok bs s h
theorem rCount_ok (bs : List UInt8) (s : RS) (m : Int) (h : s.ok bs) : (rCount bs s m).2.ok bs := by
  unfold rCount
  simp only []
  split
  · exact h
  · exact rWithin_ok bs s 0 m h
theorem rFlag_ok (bs : List UInt8) (s : RS) (h : s.ok bs) : (rFlag bs s).2.ok bs := by
  unfold rFlag
  simp only []
  split
  · exact h
  · exact rNum_ok bs s h
theorem rWithin_val (bs : List UInt8) (s : RS) (lo hi : Int) (h : (rWithin bs s lo hi).2.err = 0) (hs : s.err = 0 ∨ s.err ≠ 0) : s.err = 0 → lo ≤ (rWithin bs s lo hi).1 ∧ (rWithin bs s lo hi).1 ≤ hi := by
  intro h0
  unfold rWithin at h ⊢
  simp only [] at h ⊢
  split at h
  · cases h
  · rename_i hh
    rw [if_neg hh]
    have : ¬ ((rNum bs s).1 < lo ∨ hi < (rNum bs s).1) := fun k => hh ⟨h, k⟩
    omega
theorem rText_ok (bs : List UInt8) (s : RS) (m : Int) (h : s.ok bs) : (rText bs s m).2.ok bs := by
  unfold rText
  simp only []
  have h1 := rWithin_ok bs s 0 m h
  split
  · exact h1
  · split
    · exact h
    · rename_i h2 h3
      unfold RS.ok at h1 ⊢
      simp only []
      omega
theorem rEnd_ok (bs : List UInt8) (s : RS) (h : s.ok bs) : (rEnd bs s).ok bs := by
  unfold rEnd
  split
  · exact h
  · exact h

/-! ### Back and forth -/
theorem mid_get (pre head t post : List UInt8) (b : UInt8) : (pre ++ head ++ (b :: t) ++ post)[pre.length + head.length]? = some b := by
  simp [List.getElem?_append]
theorem ofNat_nat (u : Nat) (h : u < 256) : (UInt8.ofNat u).toNat = u := by rw [UInt8.toNat_ofNat']; omega
theorem decF_step (bs : List UInt8) (a f i u : Nat) (b : UInt8) (h : bs[a + i]? = some b) : decF bs a (f + 1) i u =
    if i = 9 ∧ 1 < b.toNat then (0, a, 4) else if 128 ≤ b.toNat then decF bs a f (i + 1) (u + b.toNat % 128 * 128 ^ i)
      else if b.toNat = 0 ∧ 0 < i then (0, a, 4) else (unzig (u + b.toNat % 128 * 128 ^ i), a + i + 1, 0) := by
  obtain ⟨hl, rfl⟩ := List.getElem?_eq_some_iff.1 h
  rw [decF, dif_pos hl]
theorem decF_short (bs : List UInt8) (a f i u : Nat) (h : ¬ a + i < bs.length) : decF bs a (f + 1) i u = (0, a, 3) := by rw [decF, dif_neg h]

/-- What is written is read. -/
theorem dec_enc (pre post : List UInt8) (u0 : Nat) (hu0 : u0 < 18446744073709551616) : ∀ (f i u acc : Nat), f + i = 9 → acc + u * 128 ^ i = u0 →
    ∀ head : List UInt8, head.length = i → (0 < i → 0 < u) → decF (pre ++ head ++ varF f u ++ post) pre.length (f + 1) i acc = (unzig u0, pre.length + head.length + (varF f u).length, 0) := by
  intro f
  induction f with
  | zero =>
    intro i u acc hi hu head hh hpos
    have hi9 : i = 9 := by omega
    subst hi9
    have hu1 : u ≤ 1 := by
      have : u * 128 ^ 9 < 18446744073709551616 := by omega
      omega
    have e : varF 0 u = [UInt8.ofNat u] := rfl
    rw [e]
    have hg := mid_get pre head [] post (UInt8.ofNat u)
    rw [hh] at hg
    rw [decF_step _ _ _ _ _ _ hg, ofNat_nat u (by omega), if_neg (by omega), if_neg (by omega), if_neg (by omega)]
    rw [Nat.mod_eq_of_lt (by omega : u < 128), hu]
    simp [hh]
  | succ f ih =>
    intro i u acc hi hu head hh hpos
    by_cases hlt : u < 128
    · have e : varF (f + 1) u = [UInt8.ofNat u] := by rw [varF, if_pos hlt]
      rw [e]
      have hg := mid_get pre head [] post (UInt8.ofNat u)
      rw [hh] at hg
      rw [decF_step _ _ _ _ _ _ hg, ofNat_nat u (by omega), if_neg (by omega), if_neg (by omega), if_neg (by omega), Nat.mod_eq_of_lt hlt, hu]
      simp [hh]
    · have e : varF (f + 1) u = UInt8.ofNat (128 + u % 128) :: varF f (u / 128) := by rw [varF, if_neg hlt]
      rw [e]
      have hg := mid_get pre head (varF f (u / 128)) post (UInt8.ofNat (128 + u % 128))
      rw [hh] at hg
      rw [decF_step _ _ _ _ _ _ hg, ofNat_nat _ (by omega), if_neg (by omega), if_pos (by omega)]
      have e2 : (128 + u % 128) % 128 = u % 128 := by omega
      rw [e2]
      have hacc : acc + u % 128 * 128 ^ i + u / 128 * 128 ^ (i + 1) = u0 := by
        have : u * 128 ^ i = u % 128 * 128 ^ i + u / 128 * 128 ^ (i + 1) := by
          rw [Nat.pow_succ, Nat.mul_comm (128 ^ i) 128, ← Nat.mul_assoc, ← Nat.add_mul]
          congr 1
          omega
        omega
      have := ih (i + 1) (u / 128) (acc + u % 128 * 128 ^ i) (by omega) hacc (head ++ [UInt8.ofNat (128 + u % 128)]) (by simp [hh]) (fun _ => by omega)
      rw [show pre ++ head ++ UInt8.ofNat (128 + u % 128) :: varF f (u / 128) ++ post = pre ++ (head ++ [UInt8.ofNat (128 + u % 128)]) ++ varF f (u / 128) ++ post from by simp]
      rw [this]
      simp
      omega

/-- A number that stands at a place is read from there, whatever stands around it. -/
theorem rNum_put (pre post : List UInt8) (n : Int) (h0 : -9223372036854775808 ≤ n) (h1 : n ≤ 9223372036854775807) :
    rNum (pre ++ numL n ++ post) ⟨pre.length, 0⟩ = (n, ⟨pre.length + (numL n).length, 0⟩) := by
  unfold rNum numL
  rw [if_pos rfl]
  have := dec_enc pre post (zig n) (zig_lt n h0 h1) 9 0 (zig n) 0 rfl (by simp) [] rfl (fun h => absurd h (by decide))
  rw [List.append_nil] at this
  simp only [this, unzig_zig]
  simp

/-- A number cut off ends too early. -/
theorem dec_cut (pre : List UInt8) (u0 : Nat) : ∀ (f i u acc : Nat), f + i = 9 → ∀ head : List UInt8, head.length = i → ∀ k, k < (varF f u).length → decF (pre ++ head ++ (varF f u).take k) pre.length (f + 1) i acc = (0, pre.length, 3) := by
  intro f
  induction f with
  | zero =>
    intro i u acc hi head hh k hk
    have hk0 : k = 0 := by simp [varF] at hk; exact hk
    subst hk0
    exact decF_short _ _ _ _ _ (by simp [hh])
  | succ f ih =>
    intro i u acc hi head hh k hk
    cases k with
    | zero => exact decF_short _ _ _ _ _ (by simp [hh])
    | succ k =>
      by_cases hlt : u < 128
      · have e : varF (f + 1) u = [UInt8.ofNat u] := by rw [varF, if_pos hlt]
        rw [e] at hk
        simp at hk
      · have e : varF (f + 1) u = UInt8.ofNat (128 + u % 128) :: varF f (u / 128) := by rw [varF, if_neg hlt]
        rw [e] at hk ⊢
        simp only [List.length_cons] at hk
        have t : (UInt8.ofNat (128 + u % 128) :: varF f (u / 128)).take (k + 1) = UInt8.ofNat (128 + u % 128) :: (varF f (u / 128)).take k := rfl
        rw [t]
        have hg := mid_get pre head ((varF f (u / 128)).take k) [] (UInt8.ofNat (128 + u % 128))
        simp only [List.append_nil] at hg
        rw [hh] at hg
        rw [decF_step _ _ _ _ _ _ hg, ofNat_nat _ (by omega), if_neg (by omega), if_pos (by omega)]
        have := ih (i + 1) (u / 128) (acc + (128 + u % 128) % 128 * 128 ^ i) (by omega) (head ++ [UInt8.ofNat (128 + u % 128)]) (by simp [hh]) k (by omega)
        rw [show pre ++ head ++ UInt8.ofNat (128 + u % 128) :: (varF f (u / 128)).take k = pre ++ (head ++ [UInt8.ofNat (128 + u % 128)]) ++ (varF f (u / 128)).take k from by simp]
        exact this
theorem rNum_cut (n : Int) (k : Nat) (hk : k < (numL n).length) : rNum ((numL n).take k) ⟨0, 0⟩ = (0, ⟨0, 3⟩) := by
  unfold rNum
  rw [if_pos rfl]
  have := dec_cut [] 0 9 0 (zig n) 0 rfl [] rfl k hk
  simp only [List.nil_append, List.append_nil, List.length_nil] at this
  unfold numL
  simp only [this]

theorem drop_cons (bs : List UInt8) (k : Nat) (b : UInt8) (h : bs[k]? = some b) : bs.drop k = b :: bs.drop (k + 1) := by
  obtain ⟨hl, rfl⟩ := List.getElem?_eq_some_iff.1 h
  exact List.drop_eq_getElem_cons hl
theorem ofNat_of_toNat (b : UInt8) : UInt8.ofNat b.toNat = b := by
  apply UInt8.toNat_inj.1
  rw [ofNat_nat _ b.toNat_lt]

/-- What is read as a number is what writes it. -/
theorem enc_dec (bs : List UInt8) (a : Nat) : ∀ (f i acc : Nat) (n : Int) (e : Nat), f + i = 9 → acc < 128 ^ i → decF bs a (f + 1) i acc = (n, e, 0) →
    ∃ u, unzig (acc + u * 128 ^ i) = n ∧ e = a + i + (varF f u).length ∧ (bs.drop (a + i)).take (varF f u).length = varF f u ∧ (0 < i → 0 < u) ∧ (f = 0 → u ≤ 1) := by
  intro f
  induction f with
  | zero =>
    intro i acc n e hi hacc h
    by_cases hlt : a + i < bs.length
    · have hb : bs[a + i]? = some bs[a + i] := List.getElem?_eq_getElem hlt
      generalize bs[a + i] = b at hb
      rw [decF_step _ _ _ _ _ _ hb] at h
      split at h
      · cases h
      · rename_i h1
        split at h
        · simp [decF] at h
        · rename_i h2
          split at h
          · cases h
          · rename_i h3
            simp only [Prod.mk.injEq] at h
            refine ⟨b.toNat, ?_, ?_, ?_, ?_, ?_⟩
            · rw [Nat.mod_eq_of_lt (by omega)] at h; exact h.1
            · simp only [varF, List.length_singleton]; omega
            · rw [drop_cons _ _ _ hb]; simp [varF, ofNat_of_toNat]
            · intro h0; omega
            · intro _; omega
    · rw [decF_short _ _ _ _ _ hlt] at h; cases h
  | succ f ih =>
    intro i acc n e hi hacc h
    by_cases hlt : a + i < bs.length
    · have hb : bs[a + i]? = some bs[a + i] := List.getElem?_eq_getElem hlt
      generalize bs[a + i] = b at hb
      have hb256 := b.toNat_lt
      rw [decF_step _ _ _ _ _ _ hb] at h
      split at h
      · cases h
      · rename_i h1
        split at h
        · rename_i h2
          have hacc2 : acc + b.toNat % 128 * 128 ^ i < 128 ^ (i + 1) := by
            rw [Nat.pow_succ]
            have h5 : b.toNat % 128 * 128 ^ i ≤ 127 * 128 ^ i := Nat.mul_le_mul_right _ (by omega)
            omega
          obtain ⟨u, e1, e2, e3, e4, _⟩ := ih (i + 1) (acc + b.toNat % 128 * 128 ^ i) n e (by omega) hacc2 h
          have hu : 0 < u := e4 (by omega)
          have hv : varF (f + 1) (b.toNat % 128 + 128 * u) = b :: varF f u := by
            rw [varF, if_neg (by omega), show (b.toNat % 128 + 128 * u) / 128 = u from by omega, show 128 + (b.toNat % 128 + 128 * u) % 128 = b.toNat from by omega, ofNat_of_toNat]
          refine ⟨b.toNat % 128 + 128 * u, ?_, ?_, ?_, ?_, ?_⟩
          · rw [← e1]
            congr 1
            rw [Nat.pow_succ, Nat.add_mul, Nat.mul_comm (128 ^ i) 128, ← Nat.mul_assoc, Nat.mul_comm u 128]
            omega
          · rw [hv, e2]; simp; omega
          · rw [hv, drop_cons _ _ _ hb]
            simp only [List.length_cons, List.take_succ_cons]
            rw [show a + i + 1 = a + (i + 1) from by omega, e3]
          · intro _; omega
          · intro h0; omega
        · rename_i h2
          split at h
          · cases h
          · rename_i h3
            simp only [Prod.mk.injEq] at h
            refine ⟨b.toNat, ?_, ?_, ?_, ?_, ?_⟩
            · rw [Nat.mod_eq_of_lt (by omega)] at h; exact h.1
            · rw [varF, if_pos (by omega)]; simp; omega
            · rw [drop_cons _ _ _ hb, varF, if_pos (by omega)]; simp [ofNat_of_toNat]
            · intro h0; omega
            · intro h0; omega
    · rw [decF_short _ _ _ _ _ hlt] at h; cases h
theorem rNum_one (bs : List UInt8) (a e : Nat) (n : Int) (h : rNum bs ⟨a, 0⟩ = (n, ⟨e, 0⟩)) : e = a + (numL n).length ∧ (bs.drop a).take (numL n).length = numL n := by
  unfold rNum at h
  rw [if_pos rfl] at h
  have h2 : decF bs a (9 + 1) 0 0 = (n, e, 0) := by
    simp only [Prod.mk.injEq, RS.mk.injEq] at h
    obtain ⟨h1, h2, h3⟩ := h
    rw [← h1, ← h2, ← h3]
  obtain ⟨u, e1, e2, e3, _, _⟩ := enc_dec bs a 9 0 0 n e rfl (by decide) h2
  simp only [Nat.pow_zero, Nat.mul_one, Nat.zero_add, Nat.add_zero] at e1 e2 e3
  have hz : zig n = u := by rw [← e1, zig_unzig]
  unfold numL
  rw [hz]
  exact ⟨e2, e3⟩
/-- If it isn't a number, the reader stands where it stood. -/
theorem rNum_bad (bs : List UInt8) (a : Nat) (h : (rNum bs ⟨a, 0⟩).2.err ≠ 0) : (rNum bs ⟨a, 0⟩).2.at_ = a ∧ (rNum bs ⟨a, 0⟩).1 = 0 := by
  have key : ∀ f i u, (decF bs a f i u).2.2 ≠ 0 → (decF bs a f i u).2.1 = a ∧ (decF bs a f i u).1 = 0 := by
    intro f
    induction f with
    | zero => intro i u _; exact ⟨rfl, rfl⟩
    | succ f ih =>
      intro i u hh
      by_cases hlt : a + i < bs.length
      · have hb : bs[a + i]? = some bs[a + i] := List.getElem?_eq_getElem hlt
        rw [decF_step _ _ _ _ _ _ hb] at hh ⊢
        split at hh
        · rename_i h1; rw [if_pos h1]; exact ⟨rfl, rfl⟩
        · rename_i h1
          rw [if_neg h1]
          split at hh
          · rename_i h2; rw [if_pos h2]; exact ih _ _ hh
          · rename_i h2
            rw [if_neg h2]
            split at hh
            · rename_i h3; rw [if_pos h3]; exact ⟨rfl, rfl⟩
            · exact absurd rfl hh
      · rw [decF_short _ _ _ _ _ hlt]; exact ⟨rfl, rfl⟩
  unfold rNum at h ⊢
  rw [if_pos rfl] at h ⊢
  exact key 10 0 0 h
end Go.Proofs.Ytochgmpcdmahkaa
