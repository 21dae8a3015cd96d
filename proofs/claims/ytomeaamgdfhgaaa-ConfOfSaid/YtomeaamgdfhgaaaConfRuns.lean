/- Package conf: most and may, and chapter 21's closed runs: the law ConfRuns answers true, for every world. -/
import Derived.Test.YtomeaamgdfhgaaaConfB
import Derived.Test.YtomeaamgdfhgaaaSameInt
namespace Go.Proofs.Ytomeaamgdfhgaaa
open Go.RowKit

/-- Most of m: are more than half of them in y, too? May: m and n differ in one node. -/
def mostB (m y : Int) : Bool := rightB m && decide ((memN m : Int) < 2 * (memN (bits .and .i64 m y) : Int))
def mayB (m n : Int) : Bool := rightB m && (rightB n && ((memN (bits .xor .i64 m n) : Int) == 1))

set_option maxHeartbeats 400000 in
theorem most_any (m y : Int) (w : World) :
    Calls Try.prog 11 #[.int .i64 m, .int .i64 y] w fun e w' => e = .returned (.bool (mostB m y)) ∧ Ext w w' := by
  have h1 := memN_le m
  have h2 := memN_le (bits .and .i64 m y)
  have hb : mostB m y = (rightB m && decide ((memN m : Int) < 2 * (memN (bits .and .i64 m y) : Int))) := rfl
  have HB := Lib.hid hb
  clear hb
  cases hr : rightB m
  all_goals
    go_enter Try.func11, Try.ntmps11
    go_wp2_with (first
      | (go_at_call 16; refine (right_any _ _).mono ?_; rintro e w' ⟨rfl, rfl⟩)
      | (go_at_call 8; refine (count_any _ _).mono ?_; rintro e w' ⟨rfl, hx⟩))
    go_ret
    refine ⟨by rw [HB.out, hr]; simp, by repeat (first | exact Ext.refl _ | assumption | refine Ext.trans ?_ (by assumption))⟩

set_option maxHeartbeats 400000 in
theorem may_any (m n : Int) (w : World) :
    Calls Try.prog 12 #[.int .i64 m, .int .i64 n] w fun e w' => e = .returned (.bool (mayB m n)) ∧ Ext w w' := by
  have h2 := memN_le (bits .xor .i64 m n)
  have hb : mayB m n = (rightB m && (rightB n && ((memN (bits .xor .i64 m n) : Int) == 1))) := rfl
  have HB := Lib.hid hb
  clear hb
  cases hr : rightB m <;> cases hr2 : rightB n
  all_goals
    go_enter Try.func12, Try.ntmps12
    go_wp2_with (first
      | (go_at_call 16; refine (right_any _ _).mono ?_; rintro e w' ⟨rfl, rfl⟩)
      | (go_at_call 8; refine (count_any _ _).mono ?_; rintro e w' ⟨rfl, hx⟩))
    go_ret
    refine ⟨by rw [HB.out, hr, hr2]; simp, by repeat (first | exact Ext.refl _ | assumption | refine Ext.trans ?_ (by assumption))⟩

/-- A row of a new block's cells reads as them. -/
theorem SlR.fresh {w : World} {b size n cap : Nat} {cs : Array Value} {t : TypeId} (hb : w.heap[b]? = some (.cells cs t)) (hn : cs.toList.length = n * size) (hm : n ≤ maxLen) : SlR w w.heap.size size (.slice (some ⟨b, 0, none⟩) n cap) n cs.toList := by
  refine ⟨hn, hm, _, cap, rfl, .inr ⟨b, 0, rfl, ?_, fun j hj => ?_⟩⟩
  · exact (Array.getElem?_eq_some_iff.1 hb).1
  · simp [World.cell?, hb]
theorem heap_alloc_at (w : World) (o : Obj) : (w.alloc o).heap[w.heap.size]? = some o := by
  show (w.heap.push o)[w.heap.size]? = _
  simp

set_option maxHeartbeats 1000000 in
set_option maxRecDepth 100000 in
theorem confRuns_any (w : World) : Calls Try.prog 3 #[] w fun e w' => e = .returned (.bool true) ∧ Ext w w' := by
  have n5 : memN 5 = 2 := by decide
  have m1 : mostB 7 3 = true := by decide
  have m2 : mostB 7 4 = false := by decide
  have m3 : mostB 3 1 = false := by decide
  have m4 : mostB 1 1 = true := by decide
  have y1 : mayB 7 3 = true := by decide
  have y2 : mayB 7 7 = false := by decide
  have y3 : mayB 1 0 = false := by decide
  have y4 : mayB 3 4 = false := by decide
  have hs : decide (memT 5 7 = [0, 2]) = true := by decide
  go_enter Try.func3, Try.ntmps3
  go_wp2_with fail
  refine (count_any _ _).mono ?_
  rintro e w1 ⟨rfl, h1⟩
  go_wp2_with fail
  refine (list_any _ _).mono ?_
  rintro e w2 ⟨v, rfl, hown, h2⟩
  go_wp2_with fail
  have hl : memT 5 7 = [0, 2] := by decide
  rw [hl] at hown
  have ra := (SlR.of_own hown).ext ((Ext.refl w2).alloc (.cells #[.int .i64 0, .int .i64 2] 3))
  refine (sameInt v _ [0, 2] [0, 2] _ (ra.up (by simp)) (SlR.fresh (heap_alloc_at _ _) rfl (by decide))).mono ?_
  rintro e w3 ⟨rfl, h3⟩
  replace h3 := ((Ext.refl w2).alloc _).trans h3
  clear ra hown hl
  go_wp2_with (first
    | (go_at_call 11; refine (most_any _ _ _).mono ?_; rintro e w' ⟨rfl, hx⟩)
    | (go_at_call 12; refine (may_any _ _ _).mono ?_; rintro e w' ⟨rfl, hx⟩))
  go_ret
  refine ⟨rfl, by repeat (first | exact Ext.refl _ | assumption | refine Ext.trans ?_ (by assumption))⟩

end Go.Proofs.Ytomeaamgdfhgaaa
