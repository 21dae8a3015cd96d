/- Contract of impostbook.Same at bytes. -/
import Derived.Test.YteenkbfmlnpmlaaPackW
import Derived.Test.YteenkbfmlnpmlaaProg
import Derived.Deep.QuietTactic
import Derived.BigQuiet
namespace Go.Proofs.Yteenkbfmlnpmlaa
open Go.RowKit

theorem take_eq_of {α : Type} {xs ys : List α} {k : Nat} (ha : k < xs.length) (hb : k < ys.length) (h : xs.take k = ys.take k) (h2 : xs[k] = ys[k]) : xs.take (k + 1) = ys.take (k + 1) := by
  rw [List.take_succ_eq_append_getElem ha, List.take_succ_eq_append_getElem hb, h, h2]

set_option maxHeartbeats 1000000 in
theorem sameU8 (va vb : Value) (xs ys : List Int) (w : World) (ha : SlR w w.heap.size 1 va xs.length (xs.map (Value.int .u8))) (hb : SlR w w.heap.size 1 vb ys.length (ys.map (Value.int .u8))) :
    Calls Try.prog 17 #[va, vb] w fun e w' => e = .returned (.bool (decide (xs = ys))) ∧ Ext w w' := by
  obtain ⟨_, hma, aa, ca, rfl, ha⟩ := ha
  obtain ⟨_, hmb, ab, cb, rfl, hb⟩ := hb
  unfold maxLen at hma hmb
  by_cases hl : xs.length = ys.length
  · by_cases h0 : xs.length = 0
    · have e1 : xs = [] := List.length_eq_zero_iff.1 h0
      have e2 : ys = [] := List.length_eq_zero_iff.1 (by omega)
      subst e1 e2
      go_enter Try.func17, Try.ntmps17
      go_wp2
      refine wp_loop_rounds 1 ?_
      rw [rounds_succ]
      go_wp2
      go_ret
      exact ⟨rfl, Below.refl _ _⟩
    · rcases ha with ha | ⟨b1, o1, rfl, hlt1, hc1⟩
      · exact absurd ha h0
      rcases hb with hb | ⟨b2, o2, rfl, hlt2, hc2⟩
      · exact absurd hb (by omega)
      have HL := Lib.hid hl
      clear h0
      generalize hbl : ys.length = nb at *
      clear hl
      have HN := Lib.hid hbl
      clear hbl
      go_enter Try.func17, Try.ntmps17
      have hne : ((xs.length : Int) != (nb : Int)) = false := by rw [HL.out]; simp
      go_wp2
      clear hne
      go_loopw [5] (fun i wr => ∃ k : Nat, k ≤ xs.length ∧ i = .int .i64 k ∧ xs.take k = ys.take k ∧ Below w.heap.size w wr) (fun i _ => xs.length - (intOf i).toNat)
      case atStart => exact ⟨0, Nat.zero_le _, rfl, rfl, Below.refl _ _⟩
      case round =>
        obtain ⟨k, hk, rfl, htk, hnx⟩ := hrel
        have HT := Lib.hid htk
        clear htk
        by_cases hlt : k < xs.length
        · have hltb : k < nb := by have := HL.out; omega
          have hltb' : k < ys.length := by have := HN.out; omega
          have f1 : wr.cell? ⟨b1, o1 + k, none⟩ = some (.int .u8 xs[k]) := by
            rw [hnx.cell (p := ⟨b1, o1 + k, none⟩) hlt1, hc1 k (by omega)]; simp [hlt]
          have f2 : wr.cell? ⟨b2, o2 + k, none⟩ = some (.int .u8 ys[k]) := by
            rw [hnx.cell (p := ⟨b2, o2 + k, none⟩) hlt2, hc2 k (by omega)]; simp [hltb']
          clear hc1 hc2
          by_cases he : xs[k] = ys[k]
          · have hT2 := Lib.hid (take_eq_of hlt hltb' HT.out he)
            have hbe : (xs[k] != ys[k]) = false := by simp [he]
            have HE := Lib.hid he
            clear he
            generalize xs[k] = x at *
            generalize ys[k] = y at *
            go_wp2
            go_quiet (fail)
            go_wp2
            go_roundw
            case rel => exact ⟨k + 1, by omega, by simp, hT2.out, by first | exact below_drewN hnx _ | exact hnx⟩
            case measure => simp [intOf]; omega
          · have hbe : (xs[k] != ys[k]) = true := by simp [he]
            have hfin : decide (xs = ys) = false := by
              rw [decide_eq_false_iff_not]; intro h; subst h; exact he rfl
            clear he
            generalize xs[k] = x at *
            generalize ys[k] = y at *
            go_wp2
            go_quiet (fail)
            go_wp2
            go_ret
            exact ⟨by rw [hfin]; rfl, by first | exact below_drewN hnx _ | exact hnx⟩
        · have hkl : k = xs.length := by omega
          subst hkl
          have hfin : decide (xs = ys) = true := by
            rw [decide_eq_true_iff]
            have := HT.out
            rw [List.take_of_length_le (Nat.le_refl _), List.take_of_length_le (by have := HL.out; have := HN.out; omega)] at this
            exact this
          clear hc1 hc2
          go_wp2
          go_ret
          exact ⟨by rw [hfin]; rfl, hnx⟩
  · have hne : ((xs.length : Int) != (ys.length : Int)) = true := by rw [bne_iff_ne]; omega
    have hfin : decide (xs = ys) = false := by
      rw [decide_eq_false_iff_not]; intro h; subst h; exact hl rfl
    clear ha hb hl
    go_enter Try.func17, Try.ntmps17
    go_wp2
    go_ret
    exact ⟨by rw [hfin]; rfl, Below.refl _ _⟩

theorem bytes_inj : ∀ xs ys : List UInt8, (xs.map fun b => (b.toNat : Int)) = (ys.map fun b => (b.toNat : Int)) → xs = ys
  | [], [], _ => rfl
  | [], _ :: _, h => by simp at h
  | _ :: _, [], h => by simp at h
  | x :: xs, y :: ys, h => by
    simp only [List.map_cons, List.cons.injEq] at h
    rw [UInt8.toNat_inj.1 (by omega : x.toNat = y.toNat), bytes_inj xs ys h.2]
theorem same8 (va vb : Value) (xs ys : List UInt8) (w : World) (ha : Rd8 w va xs) (hb : Rd8 w vb ys) :
    Calls Try.prog 17 #[va, vb] w fun e w' => e = .returned (.bool (decide (xs = ys))) ∧ Ext w w' := by
  have key : ∀ l : List UInt8, l.map bcell = (l.map fun b => (b.toNat : Int)).map (Value.int .u8) := fun l => by rw [List.map_map]; rfl
  have hinj : decide (xs = ys) = decide ((xs.map fun b => (b.toNat : Int)) = (ys.map fun b => (b.toNat : Int))) := by
    congr 1
    rw [eq_iff_iff]
    refine ⟨fun h => by rw [h], fun h => bytes_inj xs ys h⟩
  rw [hinj]
  unfold Rd8 at ha hb
  rw [key] at ha hb
  exact sameU8 va vb _ _ w (by simpa using ha) (by simpa using hb)
end Go.Proofs.Yteenkbfmlnpmlaa
