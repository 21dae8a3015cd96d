/- The law PackOne of package impostlaw2: the walk. -/
import Derived.Test.YtmhppikbnobedaaPackPut
namespace Go.Proofs.Ytmhppikbnobedaa
open Go.RowKit

theorem own8_keepR {te : TypeId} {w w' : World} {B r : Nat} {v : Value} {l : List UInt8} (h : Own8 te w B v l) (hk : KeepR r w w') (hr : r < B) : Own8 te w' B v l := by
  obtain ⟨h1, h2⟩ := h
  refine ⟨h1, ?_⟩
  rcases h2 with h2 | ⟨g, cap, cur, rfl, h3, h4, h5⟩
  · exact .inl h2
  · exact .inr ⟨g, cap, cur, rfl, h3, by rw [hk.block g (Array.getElem?_eq_some_iff.1 h4).1 (by omega)]; exact h4, h5⟩

def lenV : Value → Nat
  | .slice _ n _ => n
  | _ => 0
theorem lenV_own {te : TypeId} {w : World} {B : Nat} {v : Value} {l : List UInt8} (h : Own8 te w B v l) : lenV v = l.length := by
  obtain ⟨a, cap, rfl, _⟩ := own8_form h
  rfl

/-- What is read as a number is one of 64 bits. -/
theorem decF_bd (bs : List UInt8) (a : Nat) : ∀ f i u, f + i = 10 → u < 128 ^ i → -9223372036854775808 ≤ (decF bs a f i u).1 ∧ (decF bs a f i u).1 ≤ 9223372036854775807
  | 0, _, _, _, _ => ⟨by show (-9223372036854775808 : Int) ≤ 0; decide, by show (0 : Int) ≤ _; decide⟩
  | f + 1, i, u, hf, hu => by
    by_cases hlt : a + i < bs.length
    · have hb : bs[a + i]? = some bs[a + i] := List.getElem?_eq_getElem hlt
      generalize bs[a + i] = b at hb
      have hb256 := b.toNat_lt
      rw [decF_step _ _ _ _ _ _ hb]
      split
      · exact ⟨by show (-9223372036854775808 : Int) ≤ 0; decide, by show (0 : Int) ≤ _; decide⟩
      · rename_i h1
        split
        · refine decF_bd bs a f (i + 1) _ (by omega) ?_
          rw [Nat.pow_succ]
          have h5 : b.toNat % 128 * 128 ^ i ≤ 127 * 128 ^ i := Nat.mul_le_mul_right _ (by omega)
          omega
        · split
          · exact ⟨by show (-9223372036854775808 : Int) ≤ 0; decide, by show (0 : Int) ≤ _; decide⟩
          · apply unzig_bd
            by_cases h9 : i = 9
            · subst h9
              have : b.toNat ≤ 1 := by omega
              omega
            · have hle8 : (128 : Nat) ^ i ≤ 128 ^ 8 := Nat.pow_le_pow_right (by decide) (by omega)
              have hm : b.toNat % 128 * 128 ^ i ≤ 127 * 128 ^ 8 := Nat.mul_le_mul (by omega) hle8
              omega
    · rw [decF_short _ _ _ _ _ hlt]
      exact ⟨by show (-9223372036854775808 : Int) ≤ 0; decide, by show (0 : Int) ≤ _; decide⟩
theorem rNum_bd (bs : List UInt8) (s : RS) : -9223372036854775808 ≤ (rNum bs s).1 ∧ (rNum bs s).1 ≤ 9223372036854775807 := by
  unfold rNum
  split
  · exact decF_bd bs s.at_ 10 0 0 rfl (by decide)
  · exact ⟨by show (-9223372036854775808 : Int) ≤ 0; decide, by show (0 : Int) ≤ _; decide⟩

theorem rNum_one2 (bs : List UInt8) (a : Nat) (h : (rNum bs ⟨a, 0⟩).2.err = 0) : (rNum bs ⟨a, 0⟩).2.at_ = a + (numL (rNum bs ⟨a, 0⟩).1).length ∧ (bs.drop a).take (numL (rNum bs ⟨a, 0⟩).1).length = numL (rNum bs ⟨a, 0⟩).1 :=
  rNum_one bs a _ _ (by
    rcases hq : rNum bs ⟨a, 0⟩ with ⟨n, e, er⟩
    rw [hq] at h
    simp only [] at h
    subst h
    rfl)
theorem take_app {α : Type} (l : List α) (p k : Nat) (m : List α) (h : (l.drop p).take k = m) : l.take p ++ m = l.take (p + k) := by
  rw [← h, List.take_add]

set_option maxHeartbeats 4000000 in
set_option maxRecDepth 100000 in
theorem packOne_any (a : Option Addr) (cap : Nat) (l0 : List UInt8) (w : World) (hr0 : Rd8 w (.slice a l0.length cap) l0) (hlc : l0.length ≤ cap) (hcm : cap ≤ 9223372036854775807) :
    Calls Try.prog 7 #[.slice a l0.length cap] w fun e w' => e = .returned (.bool true) ∧ Ext w w' := by
  obtain ⟨l, hr, hl, hlc2, hdec⟩ : ∃ l : List UInt8, Rd8 w (.slice a l.length cap) l ∧ l.length ≤ 300 ∧ l.length ≤ cap ∧ ((300 < l0.length ∧ l.length = 300) ∨ (l0.length ≤ 300 ∧ l = l0)) := by
    by_cases h : 300 < l0.length
    · have e : (l0.take 300).length = 300 := by simp; omega
      refine ⟨l0.take 300, ?_, by omega, by omega, .inl ⟨h, e⟩⟩
      rw [e]
      exact hr0.cut 300 (by omega) cap
    · exact ⟨l0, hr0, by omega, hlc, .inr ⟨by omega, rfl⟩⟩
  have hcap : (300 : Int) ≤ (cap : Int) ∨ l0.length ≤ 300 := by omega
  rcases hdec with ⟨hgt, hle⟩ | ⟨hgt, rfl⟩
  all_goals
    go_enter Try.func7, Try.ntmps7
    go_wp2_with fail
    have hr : Rd8 w (.slice a l.length cap) l := hr
    try rw [hle] at hr
    refine (read_new _ l _ hr (by omega)).mono ?_
    rintro e w1 ⟨r, rfl, hx1, hE1⟩
    obtain ⟨i1, i2, i3, _, _⟩ := hx1.r_in
    have hle2 : l.length ≤ 300 := hl
    clear hlc hcap hgt
    go_wp2_with fail
    go_loopw [4, 5, 6] (fun ov av nv wr => ∃ p : Nat, p ≤ l.length ∧ RdX w.heap.size w1.heap.size wr r l ⟨p, 0⟩ ∧ Own8 5 wr (r + 1) ov (l.take p) ∧ Ext w wr) (fun ov av nv wr => l.length - lenV ov)
    case atStart => exact ⟨0, Nat.zero_le _, hx1, ⟨by simp, .inl ⟨rfl, rfl⟩⟩, hE1⟩
    case round =>
      obtain ⟨p, hp, hx, ho, hE⟩ := hrel
      have hrb := Rd8.ext hr hE
      have hlv := lenV_own ho
      have hlp : (l.take p).length = p := by rw [List.length_take]; omega
      have hnb := rNum_bd l ⟨p, 0⟩
      by_cases hlt : p < l.length
      · have hnum := num_x hx
        have hone : (rNum l ⟨p, 0⟩).2.err = 0 → (rNum l ⟨p, 0⟩).2.at_ = p + (numL (rNum l ⟨p, 0⟩).1).length ∧ (l.drop p).take (numL (rNum l ⟨p, 0⟩).1).length = numL (rNum l ⟨p, 0⟩).1 := rNum_one2 l p
        have hbad := rNum_bad l p
        have hokk : (rNum l ⟨p, 0⟩).2.at_ ≤ l.length := rNum_ok l ⟨p, 0⟩ hp
        generalize rNum l ⟨p, 0⟩ = q at *
        obtain ⟨n, e, er⟩ := q
        simp only [] at hnum hone hbad hokk hnb
        have HN := Lib.hid hnum
        have HO := Lib.hid hone
        have HBD := Lib.hid hbad
        have HLV := Lib.hid hlv
        have HLP := Lib.hid hlp
        clear hnum hone hbad hlv hlp
        by_cases her : er = 0
        · obtain ⟨heb, heb2⟩ := eq0 her
          have hat := (HO.out her).1
          have hnl := numL_len n
          have hoo := take_app l p _ _ (HO.out her).2
          rw [← hat] at hoo
          have HOO := Lib.hid hoo
          have hgt : p < e := by omega
          clear hat hoo
          subst her
          go_wp2_with (first
            | (go_at_call 17; (with_reducible refine (err_x hx).mono ?_); rintro e x ⟨rfl, rfl⟩)
            | (go_at_call 18; (with_reducible refine (at_x hx).mono ?_); rintro e x ⟨rfl, rfl⟩))
          refine HN.out.mono ?_
          rintro x w2 ⟨rfl, hx2, hk2⟩
          have hE2 := hE.keep hk2 i1
          have ho2 := own8_keepR ho hk2 (Nat.lt_succ_self r)
          obtain ⟨_, _, j3, _, _⟩ := hx2.r_in
          have hgtI : decide ((e : Int) ≤ (p : Int)) = false := decide_eq_false (by omega)
          go_wp2_with (first
            | (go_at_call 17; (with_reducible refine (err_x hx2).mono ?_); rintro e x ⟨rfl, rfl⟩)
            | (go_at_call 18; (with_reducible refine (at_x hx2).mono ?_); rintro e x ⟨rfl, rfl⟩))
          refine (num_any _ _ n _ (Own8.rd ho2) hnb.1 hnb.2 (by simp; omega)).mono ?_
          rintro x w3 ⟨v3, rfl, ho3, hx3⟩
          rw [HOO.out] at ho3
          have ho4 := own8_base ho3 (by omega : r + 1 ≤ w2.heap.size)
          have hlv2 := lenV_own ho4
          go_wp2_with fail
          refine ⟨⟨e, hokk, hx2.ext hx3, ho4, hE2.trans hx3⟩, ?_⟩
          rw [hlv2, HLV.out]
          simp
          omega
        · obtain ⟨hq1, hq2⟩ := HBD.out her
          subst hq1
          obtain ⟨heb, heb2⟩ := ne0 her
          have hbc := Rd8.cut hrb e hp cap
          have hec : (e : Int) ≤ (cap : Int) := by omega
          clear her
          go_wp2_with (first
            | (go_at_call 17; (with_reducible refine (err_x hx).mono ?_); rintro e x ⟨rfl, rfl⟩)
            | (go_at_call 18; (with_reducible refine (at_x hx).mono ?_); rintro e x ⟨rfl, rfl⟩))
          refine HN.out.mono ?_
          rintro x w2 ⟨rfl, hx2, hk2⟩
          have hE2 := hE.keep hk2 i1
          have ho2 := own8_keepR ho hk2 (Nat.lt_succ_self r)
          go_wp2_with (first
            | (go_at_call 17; (with_reducible refine (err_x hx2).mono ?_); rintro e x ⟨rfl, rfl⟩)
            | (go_at_call 18; (with_reducible refine (at_x hx2).mono ?_); rintro e x ⟨rfl, rfl⟩))
          refine (same_yes _ _ _ _ _ (Own8.rd ho2) ((Rd8.cut (Rd8.ext hr hE2) e hp cap)) rfl).mono ?_
          rintro x w3 ⟨rfl, hx3⟩
          go_wp2_with (go_at_call 3; refine (packRuns_any _).mono ?_; rintro e w' ⟨rfl, hx⟩)
          go_ret
          exact ⟨rfl, (by repeat (first | exact Ext.refl _ | assumption | refine Ext.trans ?_ (by assumption) | refine Ext.alloc ?_ _ | refine Ext.drew ?_ | refine Ext.drewN ?_ _))⟩
      · have hpl : p = l.length := by omega
        subst hpl
        go_wp2_with (first
            | (go_at_call 17; (with_reducible refine (err_x hx).mono ?_); rintro e x ⟨rfl, rfl⟩)
            | (go_at_call 18; (with_reducible refine (at_x hx).mono ?_); rintro e x ⟨rfl, rfl⟩))
        refine (same_yes _ _ _ _ _ (Own8.rd ho) hrb (by simp)).mono ?_
        rintro x w3 ⟨rfl, hx3⟩
        have hx4 := hx.ext hx3
        have hE3 := hE.trans hx3
        have hend : rEnd l ⟨l.length, 0⟩ = ⟨l.length, 0⟩ := by unfold rEnd; rw [if_neg (by simp)]
        have HE := Lib.hid hend
        clear hend hE
        go_wp2_with fail
        refine (end_is hx4 HE.out).mono ?_
        rintro x w4 ⟨rfl, hx5, hk5⟩
        have hE4 := hE3.keep hk5 i1
        clear hE3
        go_wp2_with (go_at_call 3; refine (packRuns_any _).mono ?_; rintro e w' ⟨rfl, hx⟩)
        go_ret
        exact ⟨rfl, (by repeat (first | exact Ext.refl _ | assumption | refine Ext.trans ?_ (by assumption) | refine Ext.alloc ?_ _ | refine Ext.drew ?_ | refine Ext.drewN ?_ _))⟩
end Go.Proofs.Ytmhppikbnobedaa
