/- Package kind: what flat values may be; right. -/
import Derived.Test.YtdojgdeadhhldaaKindG
import Derived.Test.YtdojgdeadhhldaaOwn2
namespace Go.Proofs.Ytdojgdeadhhldaa
open Go.RowKit

/-- May a value be, without what stands behind it? -/
def RightV (x : V) : Prop :=
  (x.n = 0 ∨ x.kind = 1 ∨ (x.kind = 3 ∧ x.n = 1) ∨ (x.kind = 5 ∧ 0 ≤ x.n)) ∧ (x.text = ⟨#[]⟩ ∨ x.kind = 2) ∧ ((x.y = 0 ∧ x.m = 0 ∧ x.d = 0) ∨ x.kind = 4)
theorem toList_nil_iff (s : ByteArray) : s.toList = [] ↔ s = ⟨#[]⟩ := by
  constructor
  · intro h
    rw [ByteArray.toList_eq] at h
    exact ByteArray.ext (Array.toList_inj.1 (by rw [h]))
  · rintro rfl; rw [ByteArray.toList_eq]

set_option maxHeartbeats 8000000 in
set_option maxRecDepth 100000 in
theorem right_any (k n : Int) (s : ByteArray) (y m d : Int) (hk : 0 ≤ k ∧ k ≤ 5) (w : World) : Calls Try.prog 47 #[V.val ⟨k, n, s, y, m, d⟩] w fun e w' => (∃ b : Bool, e = .returned (.bool b) ∧ (b = true ↔ RightV ⟨k, n, s, y, m, d⟩)) ∧ Ext w w' := by
  simp only [V.val]
  have hs := toList_nil_iff s
  have HS := Lib.hid hs
  clear hs
  have hc : k = 0 ∨ k = 1 ∨ k = 2 ∨ k = 3 ∨ k = 4 ∨ k = 5 := by omega
  clear hk
  rcases hc with rfl | rfl | rfl | rfl | rfl | rfl
  all_goals
    go_enter Try.func47, Try.ntmps47
    go_wp2
    all_goals
      go_ret
      refine ⟨⟨_, rfl, ?_⟩, (by repeat (first | exact Ext.refl _ | assumption | refine Ext.trans ?_ (by assumption) | refine Ext.alloc ?_ _ | refine Ext.drew ?_ | refine Ext.drewN ?_ _))⟩
      have hs := HS.out
      simp_all [RightV]
      try omega

instance (x : V) : Decidable (RightV x) := by unfold RightV; infer_instance
/-- As many things as asked, one behind the other: what is left. -/
def manyP (g : List V → Except Int (List V)) : Nat → List V → Except Int (List V)
  | 0, l => .ok l
  | k + 1, l => match g l with
    | .error c => .error c
    | .ok r => manyP g k r
/-- The thing that stands first, f lists deep at most: what stands behind it, or what is wrong. -/
def nextP : Nat → List V → Except Int (List V)
  | 0, l => match l with
    | [] => .error 3
    | x :: t => if x.kind = 5 then .error 2 else if ¬ (0 ≤ x.kind ∧ x.kind ≤ 5) then .error 17 else if RightV x then .ok t else .error 1
  | f + 1, l => match l with
    | [] => .error 3
    | x :: t => if ¬ (0 ≤ x.kind ∧ x.kind ≤ 5) then .error 17 else if RightV x then (if x.kind = 5 then manyP (nextP f) x.n.toNat t else .ok t) else .error 1
theorem manyP_suffix (g : List V → Except Int (List V)) (hg : ∀ l r, g l = .ok r → ∃ p, p ≠ [] ∧ l = p ++ r) : ∀ (k : Nat) (l r : List V), manyP g k l = .ok r → ∃ p, l = p ++ r ∧ k ≤ p.length
  | 0, l, r, h => by cases h; exact ⟨[], rfl, Nat.zero_le _⟩
  | k + 1, l, r, h => by
    unfold manyP at h
    cases h1 : g l with
    | error c => rw [h1] at h; cases h
    | ok r1 =>
      rw [h1] at h
      obtain ⟨p, hp, rfl⟩ := hg l r1 h1
      obtain ⟨q, rfl, hq⟩ := manyP_suffix g hg k r1 r h
      refine ⟨p ++ q, by simp, ?_⟩
      have := List.length_pos_iff.2 hp
      rw [List.length_append]; omega
theorem nextP_suffix : ∀ (f : Nat) (l r : List V), nextP f l = .ok r → ∃ p, p ≠ [] ∧ l = p ++ r
  | 0, [], r, h => by cases h
  | 0, x :: t, r, h => by
    simp only [nextP] at h
    split at h
    · cases h
    split at h
    · cases h
    split at h
    · cases h; exact ⟨[x], by simp, rfl⟩
    · cases h
  | f + 1, [], r, h => by cases h
  | f + 1, x :: t, r, h => by
    simp only [nextP] at h
    split at h
    · cases h
    split at h
    · split at h
      · obtain ⟨p, rfl, _⟩ := manyP_suffix (nextP f) (nextP_suffix f) _ _ _ h
        exact ⟨x :: p, by simp, rfl⟩
      · cases h; exact ⟨[x], by simp, rfl⟩
    · cases h

theorem manyP_err (g : List V → Except Int (List V)) (hg : ∀ l c, g l = .error c → c ≠ 0) : ∀ (k : Nat) (l : List V) (c : Int), manyP g k l = .error c → c ≠ 0
  | 0, l, c, h => by cases h
  | k + 1, l, c, h => by
    unfold manyP at h
    cases h1 : g l with
    | error c' => rw [h1] at h; cases h; exact hg l c h1
    | ok r => rw [h1] at h; exact manyP_err g hg k r c h
theorem nextP_err : ∀ (f : Nat) (l : List V) (c : Int), nextP f l = .error c → c ≠ 0
  | 0, [], c, h => by cases h; decide
  | 0, x :: t, c, h => by
    simp only [nextP] at h
    split at h
    · cases h; decide
    split at h
    · cases h; decide
    split at h
    · cases h
    · cases h; decide
  | f + 1, [], c, h => by cases h; decide
  | f + 1, x :: t, c, h => by
    simp only [nextP] at h
    split at h
    · cases h; decide
    split at h
    · split at h
      · exact manyP_err (nextP f) (nextP_err f) _ _ _ h
      · cases h
    · cases h; decide
theorem manyP_step (g : List V → Except Int (List V)) (k : Nat) (l r : List V) (h : g l = .ok r) : manyP g (k + 1) l = manyP g k r := by rw [manyP, h]
theorem manyP_stop (g : List V → Except Int (List V)) (k : Nat) (l : List V) (c : Int) (h : g l = .error c) : manyP g (k + 1) l = .error c := by rw [manyP, h]

/-- A slice of values that came in, in blocks below B. -/
def SlC (w : World) (B : Nat) (v : Value) (l : List V) : Prop := ∃ a cap, v = .slice a l.length cap ∧ l.length ≤ cap ∧ cap ≤ 9223372036854775807 ∧ SlR w B 6 v l.length (l.flatMap V.cells)
theorem SlC.keep {w w' : World} {B : Nat} {v : Value} {l : List V} (h : SlC w B v l) (hx : Below B w w') : SlC w' B v l := by
  obtain ⟨a, cap, rfl, h1, h2, h3⟩ := h
  exact ⟨a, cap, rfl, h1, h2, h3.mono hx⟩
theorem SlC.ext {w w' : World} {B : Nat} {v : Value} {l : List V} (h : SlC w B v l) (hB : B ≤ w.heap.size) (hx : Ext w w') : SlC w' B v l := h.keep (Below.mono hx hB)
def NextPost (w : World) (B : Nat) (l : List V) (res : Except Int (List V)) (deep : Nat) (e : Ending) (w' : World) : Prop :=
  Ext w w' ∧ match res with
    | .error c => e = .returned (.tuple #[.agg #[.nilIface], .slice none 0 0, .int .i64 c])
    | .ok r => ∃ iv rv p D, e = .returned (.tuple #[.agg #[iv], rv, .int .i64 0]) ∧ SlC w' B rv r ∧ l = p ++ r ∧ p ≠ [] ∧ Tells w' (fun b => w.heap.size ≤ b ∧ b < w'.heap.size) iv p D ∧ deep + D ≤ 16
end Go.Proofs.Ytdojgdeadhhldaa
