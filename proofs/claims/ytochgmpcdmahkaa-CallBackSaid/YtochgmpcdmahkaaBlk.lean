/- Blocks known whole, and what a call's rows keep. No function of the program is named. -/
import Derived.Test.YtochgmpcdmahkaaFlat
import Derived.Test.YtochgmpcdmahkaaKeep
import Derived.Deep.MidRow
namespace Go.Proofs.Ytochgmpcdmahkaa
open Go.RowKit
section

theorem OwnS.keepR {α : Type} {c : α → List Value} {sz : Nat} {te : TypeId} {w w' : World} {B r : Nat} {v : Value} {xs : List α} (h : OwnS c sz te w B v xs) (hk : KeepR r w w') (hr : r < B) : OwnS c sz te w' B v xs := by
  obtain ⟨h1, h2⟩ := h
  refine ⟨h1, ?_⟩
  rcases h2 with h2 | ⟨g, cap, cur, rfl, h3, h4, h5⟩
  · exact .inl h2
  · exact .inr ⟨g, cap, cur, rfl, h3, (hk.block g (Array.getElem?_eq_some_iff.1 h4).1 (by omega)).trans h4, h5⟩
theorem blkG {w : World} {b : Nat} {C : Array Value} {T : TypeId} (h : w.heap[b]? = some (.cells C T (0, 0))) (o : Nat) (v : Value) (hv : C[o]? = some v) : w.cell? ⟨b, o, none⟩ = some v ∧ w.frozen? ⟨b, o, none⟩ = false := by
  constructor
  · simp [World.cell?, h, hv]
  · simp [World.frozen?, h]
theorem blk_lt {w : World} {b : Nat} {o : Obj} (h : w.heap[b]? = some o) : b < w.heap.size := (Array.getElem?_eq_some_iff.1 h).1
theorem ext_blk {a z : World} {b : Nat} {o : Obj} (h : Ext a z) (H : a.heap[b]? = some o) : z.heap[b]? = some o := (Below.block h b (blk_lt H)).trans H
theorem below_blk {a z : World} {b B : Nat} {o : Obj} (h : Below B a z) (hb : b < B) (H : a.heap[b]? = some o) : z.heap[b]? = some o := (Below.block h b hb).trans H
theorem keep_blk {a z : World} {r b : Nat} {o : Obj} (h : KeepR r a z) (H : a.heap[b]? = some o) (hne : b ≠ r) : z.heap[b]? = some o := (h.block b (blk_lt H) hne).trans H
theorem alloc_blk {a : World} {b : Nat} {o o' : Obj} (H : a.heap[b]? = some o) : (a.alloc o').heap[b]? = some o := (Below.heap_alloc a o' b (blk_lt H)).trans H
theorem new_blk (a : World) (o : Obj) : (a.alloc o).heap[a.heap.size]? = some o := heap_alloc_new a o
theorem set_blk {a : World} {b r i : Nat} {o : Obj} {u : Value} (H : a.heap[b]? = some o) (hne : b ≠ r) : (a.setCell ⟨r, i, none⟩ u).heap[b]? = some o := (Below.heap_setCell a ⟨r, i, none⟩ u b hne).trans H
theorem own_keepE {w w' : World} {B e s n : Nat} {u : Value} {xs : List Value} (h : w.ownsRow B e s u n xs) (hk : ∀ a m c, u = .slice (some a) m c → w'.heap[a.block]? = w.heap[a.block]?) : w'.ownsRow B e s u n xs := by
  obtain ⟨h1, h2⟩ := h
  refine ⟨h1, ?_⟩
  rcases h2 with h2 | ⟨gg, cc, cur, rfl, h3, h4, h5⟩
  · exact .inl h2
  · exact .inr ⟨gg, cc, cur, rfl, h3, (hk _ _ _ rfl).trans h4, h5⟩
theorem own_blkE {w : World} {B e s n : Nat} {u : Value} {xs : List Value} (h : w.ownsRow B e s u n xs) : ∀ a m c, u = .slice (some a) m c → a.block < w.heap.size ∧ B ≤ a.block := by
  rintro a m c rfl
  rcases h.2 with ⟨h0, _⟩ | ⟨gg, cc, cur, h0, hB, h2, _⟩
  · cases h0
  · simp only [Value.slice.injEq, Option.some.injEq] at h0
    rw [h0.1]
    exact ⟨(Array.getElem?_eq_some_iff.1 h2).1, hB⟩
theorem OwnS.setO {α : Type} {c : α → List Value} {sz : Nat} {te : TypeId} {w : World} {B b o : Nat} {v u : Value} {xs : List α} (h : OwnS c sz te w B v xs) (hb : ∀ a m c', v = .slice (some a) m c' → a.block ≠ b) : OwnS c sz te (w.setCell ⟨b, o, none⟩ u) B v xs :=
  own_keepE h fun a m c' he => Below.heap_setCell _ _ _ _ (hb a m c' he)
theorem alloc_cell {w z : World} {C : Array Value} {T : TypeId} (h : Ext (w.alloc (.cells C T)) z) (j : Nat) (v : Value) (hv : C[j]? = some v) : z.cell? ⟨w.heap.size, j, none⟩ = some v := by
  rw [h.cell (p := ⟨w.heap.size, j, none⟩) (by simp)]
  simp [go_sem, hv]
theorem SlR.nilC (w : World) (B size c : Nat) (a : Option Addr) : SlR w B size (.slice a 0 c) 0 [] := ⟨by simp, Nat.zero_le _, a, c, rfl, .inl rfl⟩
end
section
variable {P : Program}

theorem range_blk {w : World} {b : Nat} {C : Array Value} {T : TypeId} (H : w.heap[b]? = some (.cells C T (0, 0))) (o n : Nat) (cs : List Value) (hc : (C.toList.drop o).take n = cs) : w.rangeAt b o cs := by
  subst hc
  intro j v hv
  have hj : j < n := by
    rcases Nat.lt_or_ge j n with h | h
    · exact h
    · simp [List.getElem?_take, Nat.not_lt.2 h] at hv
  rw [List.getElem?_take_of_lt hj, List.getElem?_drop] at hv
  simp only [World.cell?, H]
  simpa using hv
theorem there_blk {w : World} {b : Nat} {C : Array Value} {T : TypeId} (H : w.heap[b]? = some (.cells C T (0, 0))) (o n : Nat) (hn : o + n ≤ C.size) : w.there b o n := by
  intro j hj
  constructor
  · simp only [World.cell?, H]
    rw [Option.isSome_iff_exists]
    exact ⟨C[o + j]'(by omega), by simp [Array.getElem?_eq_getElem (show o + j < C.size by omega)]⟩
  · simp [World.frozen?, H]
theorem setCells_keep (b : Nat) : ∀ (vs : List Value) (o : Nat) (w : World), KeepR b w (w.setCells b o vs)
  | [], _, w => KeepR.refl b w
  | v :: vs, o, w => ((KeepR.refl b w).set v).trans (setCells_keep b vs (o + 1) (w.setCell ⟨b, o, none⟩ v))
theorem setCells_blk (b : Nat) (T : TypeId) : ∀ (vs : List Value) (o : Nat) (w : World) (C : Array Value), w.heap[b]? = some (.cells C T (0, 0)) → o + vs.length ≤ C.size →
    (w.setCells b o vs).heap[b]? = some (.cells (C.toList.take o ++ vs ++ C.toList.drop (o + vs.length)).toArray T (0, 0))
  | [], o, w, C, H, _ => by
    show w.heap[b]? = _
    rw [H]
    simp
  | v :: vs, o, w, C, H, hn => by
    simp only [List.length_cons] at hn
    have h1 := heap_setCell_same w b o C T v H
    have h2 := setCells_blk b T vs (o + 1) (w.setCell ⟨b, o, none⟩ v) (C.setIfInBounds o v) h1 (by simp; omega)
    show ((w.setCell ⟨b, o, none⟩ v).setCells b (o + 1) vs).heap[b]? = _
    rw [h2]
    have ho : o < C.toList.length := by simp; omega
    rw [Array.toList_setIfInBounds, List.take_succ_eq_append_getElem (by simpa using ho), List.take_set, List.set_eq_of_length_le (by simp; omega), List.getElem_set_self, List.drop_set_of_lt (by omega)]
    simp [List.length_cons, Nat.add_assoc, Nat.add_comm 1]
/-- A struct in a block, loaded in one step. -/
theorem wpList_load_blk {ops : Array Oper} {rest : List Oper} {op : Oper} {a : Act} {w : World} {Q : Exit → Act → World → Prop} (hgd : op.guard = none) (ty : TypeId) (x : Operand) (ho : op.op = .load ty x)
    (b o : Nat) (hx : a.eval x = .pointer (some ⟨b, o, none⟩)) {C : Array Value} {T : TypeId} (H : w.heap[b]? = some (.cells C T (0, 0))) (cs : List Value) (n : Nat) (hc : (C.toList.drop o).take n = cs) (hn : cs.length = n) (d : TypeDesc)
    (hu : P.underlying ty = some d) (hd : d.isRow = true) (hi : (P.info? ty).map (·.size) = some n)
    (h : wpList P ops Q rest (a.put op.dst (.agg cs.toArray)) w) : wpList P ops Q (op :: rest) a w :=
  wpList_load_mid hgd ty x ho b o hx cs d (range_blk H o n cs hc) hu hd (by rw [hn]; exact hi) h
/-- A struct stored into a block in one step: the world behind is a letter. -/
theorem wpList_store_blk {ops : Array Oper} {rest : List Oper} {op : Oper} {a : Act} {w : World} {Q : Exit → Act → World → Prop} (hgd : op.guard = none) (ty : TypeId) (x y : Operand) (ho : op.op = .store ty x y)
    (b o : Nat) (cells : Array Value) (hx : a.eval x = .pointer (some ⟨b, o, none⟩)) (hy : a.eval y = .agg cells) {C : Array Value} {T : TypeId} (H : w.heap[b]? = some (.cells C T (0, 0))) (n : Nat) (hn : cells.size = n) (hs : o + n ≤ C.size)
    (hi : (P.info? ty).map (·.size) = some n) (h1 : cells.toList.all (·.oneCell') = true) (C' : Array Value) (hC : (C.toList.take o ++ cells.toList ++ C.toList.drop (o + n)).toArray = C')
    (h : ∀ z : World, z.heap[b]? = some (.cells C' T (0, 0)) → KeepR b w z → wpList P ops Q rest (a.put op.dst undef) z) : wpList P ops Q (op :: rest) a w := by
  subst hn hC
  refine wpList_store_mid hgd ty x y ho b o cells hx hy (there_blk H o _ hs) hi (by rw [← Array.all_toList]; exact h1) (h _ ?_ (setCells_keep b _ _ _))
  have := setCells_blk b T cells.toList o w C H (by simpa using hs)
  simpa using this
/-- The same two, at an operation whose guard is known to want it. -/
theorem wpList_load_blkG {ops : Array Oper} {rest : List Oper} {op : Oper} {a : Act} {w : World} {Q : Exit → Act → World → Prop} (hgd : Region.wanted op (yielded ops a.tmps) = true) (ty : TypeId) (x : Operand) (ho : op.op = .load ty x)
    (b o : Nat) (hx : a.eval x = .pointer (some ⟨b, o, none⟩)) {C : Array Value} {T : TypeId} (H : w.heap[b]? = some (.cells C T (0, 0))) (cs : List Value) (n : Nat) (hc : (C.toList.drop o).take n = cs) (hn : cs.length = n) (d : TypeDesc)
    (hu : P.underlying ty = some d) (hd : d.isRow = true) (hi : (P.info? ty).map (·.size) = some n)
    (h : wpList P ops Q rest (a.put op.dst (.agg cs.toArray)) w) : wpList P ops Q (op :: rest) a w :=
  BigFrame.wpList_want hgd fun _ hK => wp_load_mid ty x ho b o hx cs d (range_blk H o n cs hc) hu hd (by rw [hn]; exact hi) (hK _ _ h)
end
end Go.Proofs.Ytochgmpcdmahkaa
