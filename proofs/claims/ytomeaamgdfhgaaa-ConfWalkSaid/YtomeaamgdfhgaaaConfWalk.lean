/- The law ConfWalk of package impostlaw21: the walk. -/
import Derived.Test.YtomeaamgdfhgaaaConfTells
import Derived.Test.YtomeaamgdfhgaaaWithin
namespace Go.Proofs.Ytomeaamgdfhgaaa
open Go.RowKit

def orOk (x k : Nat) : Bool :=
  let y := bits .or .i64 (x : Int) ((2 ^ k : Nat) : Int)
  decide (0 ≤ y) && decide (y ≤ 127) && (hasB x k || x == 0 || mayB x y) && (List.range 7).all fun i => hasB y i == (hasB x i || i == k)
def nandOk (x k : Nat) : Bool :=
  let y := bits .andNot .i64 (x : Int) ((2 ^ k : Nat) : Int)
  decide (0 ≤ y) && decide (y ≤ 127) && (!hasB x k || x == 0 || y == 0 || mayB x y) && (List.range 7).all fun i => hasB y i == (hasB x i && !(i == k))
set_option maxRecDepth 100000 in
theorem orOk_all : ((List.range 128).all fun x => (List.range 7).all fun k => orOk x k) = true := by decide +kernel
set_option maxRecDepth 100000 in
theorem nandOk_all : ((List.range 128).all fun x => (List.range 7).all fun k => nandOk x k) = true := by decide +kernel
theorem or_step (x : Int) (k : Nat) (h0 : 1 ≤ x) (h1 : x ≤ 127) (hk : k < 7) : 0 ≤ bits .or .i64 x ((2 ^ k : Nat) : Int) ∧ bits .or .i64 x ((2 ^ k : Nat) : Int) ≤ 127 ∧ (hasB x k = false → mayB x (bits .or .i64 x ((2 ^ k : Nat) : Int)) = true) ∧
    ∀ i : Nat, i < 7 → hasB (bits .or .i64 x ((2 ^ k : Nat) : Int)) i = (hasB x i || i == k) := by
  obtain ⟨n, rfl⟩ := Int.eq_ofNat_of_zero_le (by omega : 0 ≤ x)
  have h := List.all_eq_true.1 (List.all_eq_true.1 orOk_all n (List.mem_range.2 (by omega))) k (List.mem_range.2 hk)
  unfold orOk at h
  simp only [Bool.and_eq_true, decide_eq_true_eq, Bool.or_eq_true, beq_iff_eq, List.all_eq_true, List.mem_range] at h
  obtain ⟨⟨⟨a, b⟩, c⟩, d⟩ := h
  refine ⟨a, b, fun hh => ?_, d⟩
  rcases c with (c | c) | c
  · rw [hh] at c; cases c
  · omega
  · exact c
theorem nand_step (x : Int) (k : Nat) (h0 : 1 ≤ x) (h1 : x ≤ 127) (hk : k < 7) : 0 ≤ bits .andNot .i64 x ((2 ^ k : Nat) : Int) ∧ bits .andNot .i64 x ((2 ^ k : Nat) : Int) ≤ 127 ∧ (hasB x k = true → 1 ≤ bits .andNot .i64 x ((2 ^ k : Nat) : Int) → mayB x (bits .andNot .i64 x ((2 ^ k : Nat) : Int)) = true) ∧
    ∀ i : Nat, i < 7 → hasB (bits .andNot .i64 x ((2 ^ k : Nat) : Int)) i = (hasB x i && !(i == k)) := by
  obtain ⟨n, rfl⟩ := Int.eq_ofNat_of_zero_le (by omega : 0 ≤ x)
  have h := List.all_eq_true.1 (List.all_eq_true.1 nandOk_all n (List.mem_range.2 (by omega))) k (List.mem_range.2 hk)
  unfold nandOk at h
  simp only [Bool.and_eq_true, decide_eq_true_eq, Bool.or_eq_true, beq_iff_eq, List.all_eq_true, List.mem_range, Bool.not_eq_true'] at h
  obtain ⟨⟨⟨a, b⟩, c⟩, d⟩ := h
  refine ⟨a, b, fun hh h1 => ?_, d⟩
  rcases c with ((c | c) | c) | c
  · rw [hh] at c; cases c
  · omega
  · omega
  · exact c

/-- A number from 0 to 127 is told by its seven bits. -/
theorem bits_eq (x y : Int) (hx : 0 ≤ x) (hx1 : x ≤ 127) (hy : 0 ≤ y) (hy1 : y ≤ 127) (h : ∀ i : Nat, i < 7 → hasB x i = hasB y i) : x = y := by
  have g : ∀ i : Nat, i < 7 → x / 2 ^ i % 2 = y / 2 ^ i % 2 := by
    intro i hi
    have := h i hi
    rw [hasB_of x i hi, hasB_of y i hi, Bool.eq_iff_iff, beq_iff_eq, beq_iff_eq] at this
    have e1 := Int.emod_two_eq (x / 2 ^ i)
    have e2 := Int.emod_two_eq (y / 2 ^ i)
    rcases e1 with e1 | e1 <;> rcases e2 with e2 | e2 <;> rw [e1, e2] at this <;> simp_all
  have g0 := g 0 (by omega)
  have g1 := g 1 (by omega)
  have g2 := g 2 (by omega)
  have g3 := g 3 (by omega)
  have g4 := g 4 (by omega)
  have g5 := g 5 (by omega)
  have g6 := g 6 (by omega)
  simp only [Int.reducePow] at g0 g1 g2 g3 g4 g5 g6
  clear h g
  omega
/-- A number from 1 to 127 has a bit, and one that has all of another's isn't 0. -/
theorem bits_pos (x y : Int) (hx : 1 ≤ x) (hx1 : x ≤ 127) (hy : 0 ≤ y) (hy1 : y ≤ 127) (h : ∀ i : Nat, i < 7 → hasB x i = true → hasB y i = true) : 1 ≤ y := by
  by_cases h0 : 1 ≤ y
  · exact h0
  · have e : y = 0 := by omega
    subst e
    have h00 : ∀ i : Nat, i < 7 → hasB 0 i = false := by decide
    have : x = 0 := bits_eq x 0 (by omega) hx1 (by omega) (by omega) fun i hi => by
      rw [h00 i hi]
      cases hb : hasB x i
      · rfl
      · have := h i hi hb
        rw [h00 i hi] at this
        cases this
    omega

/-- How many i below k does p hold of? -/
def cntB (p : Nat → Bool) (k : Nat) : Nat := ((List.range k).filter p).length
theorem cntB_succ (p : Nat → Bool) (k : Nat) : cntB p (k + 1) = cntB p k + b01 (p k) := by
  unfold cntB
  rw [List.range_succ, List.filter_append]
  cases h : p k <;> simp [h, b01]
theorem cntB_two (p q : Nat → Bool) (k : Nat) (h : ∀ i, (p i && q i) = false) : cntB p k + cntB q k ≤ k := by
  induction k with
  | zero => simp [cntB]
  | succ k ih =>
    rw [cntB_succ, cntB_succ]
    have := h k
    cases hp : p k <;> cases hq : q k <;> simp_all [b01] <;> omega
theorem cntB_le (p : Nat → Bool) (k : Nat) : cntB p k ≤ k := by
  have := List.length_filter_le p (List.range k)
  simpa [cntB] using this

/-- Behind k rounds of the first loop; of the second one. -/
structure W1 (m n x : Int) (k : Nat) : Prop where
  lo : 1 ≤ x
  hi : x ≤ 127
  has : ∀ i : Nat, i < 7 → hasB x i = (hasB m i || (decide (i < k) && hasB n i))
structure W2 (m n x : Int) (k : Nat) : Prop where
  lo : 1 ≤ x
  hi : x ≤ 127
  has : ∀ i : Nat, i < 7 → hasB x i = ((hasB m i || hasB n i) && (decide (k ≤ i) || hasB n i))
theorem W1.zero {m n : Int} (h0 : 1 ≤ m) (h1 : m ≤ 127) : W1 m n m 0 := ⟨h0, h1, fun i _ => by simp⟩
theorem W1.skip {m n x : Int} {k : Nat} (h : W1 m n x k) (hk : k < 7) (hs : (hasB n k && !hasB x k) = false) : W1 m n x (k + 1) := by
  refine ⟨h.lo, h.hi, fun i hi => ?_⟩
  rw [h.has i hi]
  by_cases e : i = k
  · subst e
    have := h.has i hi
    simp at this
    rw [this] at hs
    cases hn : hasB n i <;> simp_all
  · have : decide (i < k + 1) = decide (i < k) := decide_eq_decide.2 (by omega)
    rw [this]
theorem W1.step {m n x : Int} {k : Nat} (h : W1 m n x k) (hk : k < 7) (hn : hasB n k = true) (hx : hasB x k = false) : W1 m n (bits .or .i64 x ((2 ^ k : Nat) : Int)) (k + 1) ∧ mayB x (bits .or .i64 x ((2 ^ k : Nat) : Int)) = true := by
  obtain ⟨a, b, c, d⟩ := or_step x k h.lo h.hi hk
  have h3 : ∀ i : Nat, i < 7 → hasB (bits .or .i64 x ((2 ^ k : Nat) : Int)) i = (hasB m i || (decide (i < k + 1) && hasB n i)) := by
    intro i hi
    rw [d i hi, h.has i hi]
    by_cases e : i = k
    · subst e; simp [hn]
    · have e1 : decide (i < k + 1) = decide (i < k) := decide_eq_decide.2 (by omega)
      have e2 : (i == k) = false := by simp [e]
      rw [e1, e2, Bool.or_false]
  have hc := c hx
  refine ⟨⟨?_, b, h3⟩, hc⟩
  unfold mayB rightB at hc
  simp only [Bool.and_eq_true, decide_eq_true_eq] at hc
  exact hc.2.1.1
theorem W2.zero {m n x : Int} (h : W1 m n x 7) : W2 m n x 0 := ⟨h.lo, h.hi, fun i hi => by rw [h.has i hi]; simp [hi]⟩
theorem W2.skip {m n x : Int} {k : Nat} (h : W2 m n x k) (hk : k < 7) (hs : (hasB x k && !hasB n k) = false) : W2 m n x (k + 1) := by
  refine ⟨h.lo, h.hi, fun i hi => ?_⟩
  rw [h.has i hi]
  by_cases e : i = k
  · subst e
    have := h.has i hi
    simp at this
    rw [this] at hs
    cases hn : hasB n i <;> cases hm : hasB m i <;> simp_all
  · have : decide (k + 1 ≤ i) = decide (k ≤ i) := decide_eq_decide.2 (by omega)
    rw [this]
theorem W2.step {m n x : Int} {k : Nat} (h : W2 m n x k) (hn0 : 1 ≤ n) (hn1 : n ≤ 127) (hk : k < 7) (hx : hasB x k = true) (hn : hasB n k = false) : W2 m n (bits .andNot .i64 x ((2 ^ k : Nat) : Int)) (k + 1) ∧ mayB x (bits .andNot .i64 x ((2 ^ k : Nat) : Int)) = true := by
  obtain ⟨a, b, c, d⟩ := nand_step x k h.lo h.hi hk
  have h3 : ∀ i : Nat, i < 7 → hasB (bits .andNot .i64 x ((2 ^ k : Nat) : Int)) i = ((hasB m i || hasB n i) && (decide (k + 1 ≤ i) || hasB n i)) := by
    intro i hi
    rw [d i hi, h.has i hi]
    by_cases e : i = k
    · subst e; simp [hn]
    · have e1 : decide (k + 1 ≤ i) = decide (k ≤ i) := decide_eq_decide.2 (by omega)
      have e2 : (i == k) = false := by simp [e]
      rw [e1, e2]; simp
  have hp : 1 ≤ bits .andNot .i64 x ((2 ^ k : Nat) : Int) := bits_pos n _ hn0 hn1 a b fun i hi hb => by rw [h3 i hi, hb]; simp
  exact ⟨⟨hp, b, h3⟩, c hx hp⟩
theorem W2.last {m n x : Int} (h : W2 m n x 7) (hn0 : 1 ≤ n) (hn1 : n ≤ 127) : x = n := by
  refine bits_eq x n (by have := h.lo; omega) h.hi (by omega) hn1 fun i hi => ?_
  rw [h.has i hi]
  have : decide (7 ≤ i) = false := decide_eq_false (by omega)
  rw [this]
  cases hasB n i <;> simp

def pB (m n : Int) (i : Nat) : Bool := hasB n i && !hasB m i
theorem pB_two (m n : Int) (i : Nat) : (pB m n i && pB n m i) = false := by
  unfold pB
  cases hasB n i <;> cases hasB m i <;> rfl
theorem pB_W1 {m n x : Int} {k : Nat} (h : W1 m n x k) (hk : k < 7) : pB m n k = (hasB n k && !hasB x k) := by
  rw [h.has k hk]
  simp [pB]
theorem pB_W2 {m n x : Int} {k : Nat} (h : W2 m n x k) (hk : k < 7) : pB n m k = (hasB x k && !hasB n k) := by
  rw [h.has k hk]
  unfold pB
  cases hasB n k <;> cases hasB m k <;> simp

set_option maxHeartbeats 4000000 in
set_option maxRecDepth 100000 in
theorem confWalk_any (a b : Int) (w : World) :
    Calls Try.prog 6 #[.int .i64 a, .int .i64 b] w fun e w' => e = .returned (.bool true) ∧ Ext w w' := by
  have ha := withI_bd a 1 127 (by omega)
  have hb := withI_bd b 1 127 (by omega)
  go_enter Try.func6, Try.ntmps6
  go_wp2_with (go_at_call 19; refine (within_any _ _ _ _ (by decide) (by decide) (by decide)).mono ?_; rintro e w' ⟨rfl, rfl⟩)
  generalize withI a 1 127 = m at *
  generalize withI b 1 127 = n at *
  obtain ⟨ha0, ha1⟩ := ha
  obtain ⟨hb0, hb1⟩ := hb
  go_loopw [5, 7, 8] (fun mv sv iv wr => ∃ (k : Nat) (x : Int), k ≤ 7 ∧ iv = .int .i64 k ∧ mv = .int .i64 x ∧ W1 m n x k ∧ sv = .int .i64 (cntB (pB m n) k) ∧ Ext w wr) (fun _ _ iv _ => 7 - (intOf iv).toNat)
  case atStart => exact ⟨0, m, Nat.zero_le _, rfl, rfl, W1.zero ha0 ha1, rfl, Ext.refl _⟩
  case round =>
    obtain ⟨k, x, hk, rfl, rfl, hw, rfl, hnx⟩ := hrel
    have hc := cntB_le (pB m n) k
    by_cases hlt : k < 7
    · have hs := cntB_succ (pB m n) k
      rw [pB_W1 hw hlt] at hs
      have HS := Lib.hid hs
      clear hs
      cases hbn : hasB n k <;> cases hbx : hasB x k
      rotate_left 2
      · have R := hw.step hlt hbn hbx
        rw [hbn, hbx] at HS
        revert hbn hbx R hw
        obtain rfl | rfl | rfl | rfl | rfl | rfl | rfl : k = 0 ∨ k = 1 ∨ k = 2 ∨ k = 3 ∨ k = 4 ∨ k = 5 ∨ k = 6 := by omega
        all_goals
          intro hw hbn hbx R
          simp only [Nat.reducePow, Int.cast_ofNat_Int, Nat.reduceAdd] at R hbn hbx
          obtain ⟨R1, R2⟩ := R
          go_wp2_with (first
            | (go_at_call 17; refine (has_any _ _ _).mono ?_; rintro e w' ⟨rfl, rfl⟩)
            | (go_at_call 12; refine (may_any _ _ _).mono ?_; rintro e w' ⟨rfl, hx⟩))
          go_roundw
          case rel => exact ⟨_, _, by omega, by simp, rfl, R1, by rw [HS.out]; simp [b01], (by repeat (first | exact Ext.refl _ | assumption | refine Ext.trans ?_ (by assumption) | refine Ext.alloc ?_ _ | refine Ext.drew ?_ | refine Ext.drewN ?_ _))⟩
          case measure => simp [intOf]
      all_goals
        have R := hw.skip hlt (by rw [hbn, hbx]; rfl)
        rw [hbn, hbx] at HS
        go_wp2_with (go_at_call 17; refine (has_any _ _ _).mono ?_; rintro e w' ⟨rfl, rfl⟩)
        go_roundw
        case rel => exact ⟨k + 1, x, by omega, by simp, rfl, R, by rw [HS.out]; simp [b01], hnx⟩
        case measure => simp [intOf]; omega
    · have hk7 : k = 7 := by omega
      subst hk7
      have h2 := W2.zero hw
      clear hw
      go_wp2
      simp only [Int.cast_ofNat_Int]
      go_loopw [5, 7, 9] (fun mv sv iv wr => ∃ (k : Nat) (x : Int), k ≤ 7 ∧ iv = .int .i64 k ∧ mv = .int .i64 x ∧ W2 m n x k ∧ sv = .int .i64 ((cntB (pB m n) 7 : Int) + (cntB (pB n m) k : Int)) ∧ Ext w wr) (fun _ _ iv _ => 7 - (intOf iv).toNat)
      case atStart => exact ⟨0, x, Nat.zero_le _, rfl, rfl, h2, by simp [cntB], hnx⟩
      case round =>
        clear h2 hnx
        obtain ⟨k, y, hk, rfl, rfl, hw, rfl, hnx⟩ := hrel
        have hc2 := cntB_le (pB n m) k
        have hc7 := cntB_two (pB m n) (pB n m) 7 (pB_two m n)
        by_cases hlt : k < 7
        · have hs := cntB_succ (pB n m) k
          rw [pB_W2 hw hlt] at hs
          have HS := Lib.hid hs
          clear hs
          cases hbn : hasB n k <;> cases hbx : hasB y k
          rotate_left 1
          · have R := hw.step hb0 hb1 hlt hbx hbn
            rw [hbn, hbx] at HS
            revert hbn hbx R hw
            obtain rfl | rfl | rfl | rfl | rfl | rfl | rfl : k = 0 ∨ k = 1 ∨ k = 2 ∨ k = 3 ∨ k = 4 ∨ k = 5 ∨ k = 6 := by omega
            all_goals
              intro hw hbn hbx R
              simp only [Nat.reducePow, Int.cast_ofNat_Int, Nat.reduceAdd] at R hbn hbx
              obtain ⟨R1, R2⟩ := R
              go_wp2_with (first
                | (go_at_call 17; refine (has_any _ _ _).mono ?_; rintro e w' ⟨rfl, rfl⟩)
                | (go_at_call 12; refine (may_any _ _ _).mono ?_; rintro e w' ⟨rfl, hx⟩))
              go_roundw
              case rel => exact ⟨_, _, by omega, by simp, rfl, R1, by rw [HS.out]; simp [b01]; omega, (by repeat (first | exact Ext.refl _ | assumption | refine Ext.trans ?_ (by assumption) | refine Ext.alloc ?_ _ | refine Ext.drew ?_ | refine Ext.drewN ?_ _))⟩
              case measure => simp [intOf]
          all_goals
            have R := hw.skip hlt (by rw [hbn, hbx]; rfl)
            rw [hbn, hbx] at HS
            go_wp2_with (go_at_call 17; refine (has_any _ _ _).mono ?_; rintro e w' ⟨rfl, rfl⟩)
            go_roundw
            case rel => exact ⟨k + 1, y, by omega, by simp, rfl, R, by rw [HS.out]; simp [b01], hnx⟩
            case measure => simp [intOf]; omega
        · have hk7 : k = 7 := by omega
          subst hk7
          have hy := hw.last hb0 hb1
          subst hy
          clear hw
          go_wp2_with (first
            | (go_at_call 8; refine (count_any _ _).mono ?_; rintro e w' ⟨rfl, hx⟩)
            | (go_at_call 3; refine (confRuns_any _).mono ?_; rintro e w' ⟨rfl, hx⟩))
          go_ret
          exact ⟨rfl, (by repeat (first | exact Ext.refl _ | assumption | refine Ext.trans ?_ (by assumption) | refine Ext.alloc ?_ _ | refine Ext.drew ?_ | refine Ext.drewN ?_ _))⟩
end Go.Proofs.Ytomeaamgdfhgaaa
