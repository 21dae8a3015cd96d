/- Laws of the walk for structs that lie in a block known whole: loaded in one step, stored in one step (the world behind is a letter). No function of the program is named. -/
import Derived.Test.YteenkbfmlnpmlaaBlk
import Derived.Deep.MidRow
namespace Go.Proofs.Yteenkbfmlnpmlaa
open Go.RowKit
variable {P : Program}

theorem range_blk {w : World} {b : Nat} {C : Array Value} {T : TypeId} (H : w.heap[b]? = some (.cells C T (0, 0))) (o n : Nat) (cs : List Value) (hc : (C.toList.drop o).take n = cs) : w.rangeAt b o cs := by
  subst hc
  intro j v hv
  have hj : j < n := by
    rcases Nat.lt_or_ge j n with h | h
    · exact h
    · simp [List.getElem?_take, Nat.not_lt.2 h] at hv
  rw [List.getElem?_take_of_lt hj, List.getElem?_drop] at hv
  simp only [World.cell?, H]
  simpa using hv
theorem there_blk {w : World} {b : Nat} {C : Array Value} {T : TypeId} (H : w.heap[b]? = some (.cells C T (0, 0))) (o n : Nat) (hn : o + n ≤ C.size) : w.there b o n := by
  intro j hj
  constructor
  · simp only [World.cell?, H]
    rw [Option.isSome_iff_exists]
    exact ⟨C[o + j]'(by omega), by simp [Array.getElem?_eq_getElem (show o + j < C.size by omega)]⟩
  · simp [World.frozen?, H]
theorem setCells_keep (b : Nat) : ∀ (vs : List Value) (o : Nat) (w : World), KeepR b w (w.setCells b o vs)
  | [], _, w => KeepR.refl b w
  | v :: vs, o, w => ((KeepR.refl b w).set v).trans (setCells_keep b vs (o + 1) (w.setCell ⟨b, o, none⟩ v))
theorem setCells_blk (b : Nat) (T : TypeId) : ∀ (vs : List Value) (o : Nat) (w : World) (C : Array Value), w.heap[b]? = some (.cells C T (0, 0)) → o + vs.length ≤ C.size →
    (w.setCells b o vs).heap[b]? = some (.cells (C.toList.take o ++ vs ++ C.toList.drop (o + vs.length)).toArray T (0, 0))
  | [], o, w, C, H, _ => by
    show w.heap[b]? = _
    rw [H]
    simp
  | v :: vs, o, w, C, H, hn => by
    simp only [List.length_cons] at hn
    have h1 := heap_setCell_same w b o C T v H
    have h2 := setCells_blk b T vs (o + 1) (w.setCell ⟨b, o, none⟩ v) (C.setIfInBounds o v) h1 (by simp; omega)
    show ((w.setCell ⟨b, o, none⟩ v).setCells b (o + 1) vs).heap[b]? = _
    rw [h2]
    have ho : o < C.toList.length := by simp; omega
    rw [Array.toList_setIfInBounds, List.take_succ_eq_append_getElem (by simpa using ho), List.take_set, List.set_eq_of_length_le (by simp; omega), List.getElem_set_self, List.drop_set_of_lt (by omega)]
    simp [List.length_cons, Nat.add_assoc, Nat.add_comm 1]
/-- A struct in a block, loaded in one step. -/
theorem wpList_load_blk {ops : Array Oper} {rest : List Oper} {op : Oper} {a : Act} {w : World} {Q : Exit → Act → World → Prop} (hgd : op.guard = none) (ty : TypeId) (x : Operand) (ho : op.op = .load ty x)
    (b o : Nat) (hx : a.eval x = .pointer (some ⟨b, o, none⟩)) {C : Array Value} {T : TypeId} (H : w.heap[b]? = some (.cells C T (0, 0))) (cs : List Value) (n : Nat) (hc : (C.toList.drop o).take n = cs) (hn : cs.length = n) (d : TypeDesc)
    (hu : P.underlying ty = some d) (hd : d.isRow = true) (hi : (P.info? ty).map (·.size) = some n)
    (h : wpList P ops Q rest (a.put op.dst (.agg cs.toArray)) w) : wpList P ops Q (op :: rest) a w :=
  wpList_load_mid hgd ty x ho b o hx cs d (range_blk H o n cs hc) hu hd (by rw [hn]; exact hi) h
/-- A struct stored into a block in one step: the world behind is a letter. -/
theorem wpList_store_blk {ops : Array Oper} {rest : List Oper} {op : Oper} {a : Act} {w : World} {Q : Exit → Act → World → Prop} (hgd : op.guard = none) (ty : TypeId) (x y : Operand) (ho : op.op = .store ty x y)
    (b o : Nat) (cells : Array Value) (hx : a.eval x = .pointer (some ⟨b, o, none⟩)) (hy : a.eval y = .agg cells) {C : Array Value} {T : TypeId} (H : w.heap[b]? = some (.cells C T (0, 0))) (n : Nat) (hn : cells.size = n) (hs : o + n ≤ C.size)
    (hi : (P.info? ty).map (·.size) = some n) (h1 : cells.toList.all (·.oneCell') = true) (C' : Array Value) (hC : (C.toList.take o ++ cells.toList ++ C.toList.drop (o + n)).toArray = C')
    (h : ∀ z : World, z.heap[b]? = some (.cells C' T (0, 0)) → KeepR b w z → wpList P ops Q rest (a.put op.dst undef) z) : wpList P ops Q (op :: rest) a w := by
  subst hn hC
  refine wpList_store_mid hgd ty x y ho b o cells hx hy (there_blk H o _ hs) hi (by rw [← Array.all_toList]; exact h1) (h _ ?_ (setCells_keep b _ _ _))
  have := setCells_blk b T cells.toList o w C H (by simpa using hs)
  simpa using this
end Go.Proofs.Yteenkbfmlnpmlaa
