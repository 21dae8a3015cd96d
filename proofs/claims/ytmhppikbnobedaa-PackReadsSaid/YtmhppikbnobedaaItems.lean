/- A slice of items that came in. -/
import Derived.Test.YtmhppikbnobedaaArgs
import Derived.Test.YtmhppikbnobedaaAgg6
import Derived.Test.YtmhppikbnobedaaPackPut
namespace Go.Proofs.Ytmhppikbnobedaa
open Go.ChangeShapes Go.WideShapes Go.RowKit

instance : Inhabited Itm := ⟨⟨0, 0, 0, 0, ByteArray.empty, false⟩⟩
/-- Items that came in: the cells of each. -/
structure ArgI (w : World) (v : Value) (xs : List Itm) : Prop where
  form : ∃ a cap, v = .slice a xs.length cap ∧ xs.length ≤ cap ∧ cap ≤ maxLen ∧
    (xs.length = 0 ∨ ∃ b off, a = some ⟨b, off, none⟩ ∧ b < w.heap.size ∧ ∀ i (h : i < xs.length) j, j < 6 → w.cell? ⟨b, off + (i * 6 + j), none⟩ = (xs[i]).cells[j]?)
theorem Itm.cell_0 (x : Itm) : x.cells[0]? = some (.int .i64 x.kind) := rfl
theorem Itm.cell_1 (x : Itm) : x.cells[1]? = some (.int .i64 x.n) := rfl
theorem Itm.cell_2 (x : Itm) : x.cells[2]? = some (.int .i64 x.lo) := rfl
theorem Itm.cell_3 (x : Itm) : x.cells[3]? = some (.int .i64 x.hi) := rfl
theorem Itm.cell_4 (x : Itm) : x.cells[4]? = some (.string x.s) := rfl
theorem Itm.cell_5 (x : Itm) : x.cells[5]? = some (.bool x.f) := rfl

section
variable {H : Type} {enc : TypeId × Value → H} {w : World} {base : Nat} {spare : Nat → Bool} {held : Bool}
theorem open_items {r : Reach} {b0 : Nat} {v : Value} {d : DataW H} {p : List MemPlace}
    (hv : Value.okWide Try.prog w r b0 36 v) (h : DataW.Trod enc Try.prog w base spare held 36 v d p) :
    ∃ xs : List Itm, ArgI w v xs ∧ (∀ x ∈ xs, -9223372036854775808 ≤ x.n ∧ x.n ≤ 9223372036854775807) ∧
      (d = .nil ∧ xs = [] ∨ ∃ ds sp, d = .slice ds sp ∧ ds.length = xs.length ∧ ∀ i (h : i < xs.length), ∃ e0 e1 e2 e3 e5, ds[i]? = some (.agg [e0, e1, e2, e3, .lit (.string (xs[i]).s.data.toList), e5])) := by
  obtain ⟨a0, len0, cap0, rfl⟩ := okWide_slice Try.underlying36 hv
  obtain ⟨fuel, hf⟩ := h
  rcases Go.Deep.open_slice Try.underlying36 hf with ⟨hcs, hx⟩ | ⟨a, len, cap, m, n, D, Pl, hcs, hb0, hlc, hcm, hm, hx, hi⟩
  · simp only [Value.cells, List.cons.injEq, Value.slice.injEq, and_true] at hcs
    obtain ⟨rfl, rfl, rfl⟩ := hcs
    exact ⟨[], ⟨none, 0, rfl, Nat.le_refl _, Nat.zero_le _, .inl rfl⟩, (by intro x hx; cases hx), .inl ⟨congrArg Prod.fst hx, rfl⟩⟩
  · simp only [Value.cells, List.cons.injEq, Value.slice.injEq, and_true] at hcs
    obtain ⟨rfl, rfl, rfl⟩ := hcs
    have hC : Try.prog.cellsOf 41 = 6 := by kernel_rfl
    have hlm : len0 ≤ m := by rw [hm]; split <;> omega
    have each : ∀ i, i < m → ∃ x : Itm, (∀ j, j < 6 → w.cell? (a.add (i * 6 + j)) = x.cells[j]?) ∧ (-9223372036854775808 ≤ x.n ∧ x.n ≤ 9223372036854775807) ∧ ∃ e0 e1 e2 e3 e5, D i = .agg [e0, e1, e2, e3, .lit (.string x.s.data.toList), e5] := by
      intro i him
      obtain ⟨cs', hc, ht⟩ := hi i him
      rw [hC] at hc
      obtain ⟨_, hcl, hat⟩ := World.cells?_some hc
      obtain ⟨ys, n', hn', hy, hlen, hyl, hf2⟩ := DataW.trod_struct Try.underlying41 ht
      match cs', hcl with
      | [c0, c1, c2, c3, c4, c5], _ =>
        match ys, hyl with
        | [y0, y1, y2, y3, y4, y5], _ =>
          have ki : Try.prog.cellsOf 3 = 1 := by kernel_rfl
          have ks : Try.prog.cellsOf 9 = 1 := by kernel_rfl
          have kb : Try.prog.cellsOf 4 = 1 := by kernel_rfl
          have g0 : DataW.trod enc Try.prog w base spare held n' 3 [c0] = some y0 := by simpa [ki] using hf2 0 _ rfl
          have g1 : DataW.trod enc Try.prog w base spare held n' 3 [c1] = some y1 := by simpa [ki] using hf2 1 _ rfl
          have g2 : DataW.trod enc Try.prog w base spare held n' 3 [c2] = some y2 := by simpa [ki] using hf2 2 _ rfl
          have g3 : DataW.trod enc Try.prog w base spare held n' 3 [c3] = some y3 := by simpa [ki] using hf2 3 _ rfl
          have g4 : DataW.trod enc Try.prog w base spare held n' 9 [c4] = some y4 := by simpa [ks] using hf2 4 _ rfl
          have g5 : DataW.trod enc Try.prog w base spare held n' 4 [c5] = some y5 := by simpa [kb] using hf2 5 _ rfl
          obtain ⟨b0, e0, _⟩ := DataW.trod_int Try.underlying3 g0
          obtain ⟨b1, e1, _, w1⟩ := DataW.trod_int Try.underlying3 g1
          obtain ⟨b2, e2, _⟩ := DataW.trod_int Try.underlying3 g2
          obtain ⟨b3, e3, _⟩ := DataW.trod_int Try.underlying3 g3
          obtain ⟨b4, e4, rfl, _⟩ := DataW.trod_string Try.underlying9 g4
          obtain ⟨b5, e5, _⟩ := DataW.trod_bool Try.underlying4 g5
          simp only [List.cons.injEq, and_true] at e0 e1 e2 e3 e4 e5
          subst e0 e1 e2 e3 e4 e5
          refine ⟨⟨b0, b1, b2, b3, b4, b5⟩, fun j hj => ?_, bd64 w1, y0.1, y1.1, y2.1, y3.1, y5.1, ?_⟩
          · rw [← Go.Deep.add_add, hat j hj]
            simp [Itm.cells]
          · exact congrArg Prod.fst hy
    obtain ⟨X, hX⟩ := Go.Deep.choose_lt each
    have hlen : ((List.range len0).map X).length = len0 := by simp
    have hget : ∀ i (h : i < ((List.range len0).map X).length), ((List.range len0).map X)[i] = X i := fun i h => by simp
    refine ⟨(List.range len0).map X, ⟨some a, cap0, by rw [hlen], by rw [hlen]; exact hlc, hcm, ?_⟩, ?_, .inr ⟨(List.range len0).map D, _, congrArg Prod.fst hx, by simp, fun i h => ?_⟩⟩
    · by_cases h0 : len0 = 0
      · exact .inl (by rw [hlen]; exact h0)
      · right
        have c0 := (hX 0 (by omega)).1 0 (by decide)
        rw [Itm.cell_0] at c0
        obtain ⟨b, off, sp⟩ := a
        have hsp : sp = none := by simpa [Addr.add] using World.cell?_spot c0
        subst hsp
        refine ⟨b, off, rfl, by simpa [Addr.add] using World.block_lt_of_cell? w _ c0, fun i h j hj => ?_⟩
        rw [hget i h]
        have hi' : i < len0 := by simpa using h
        rw [← (hX i (by omega)).1 j hj]
        unfold Addr.add
        split
        · rename_i hz; rw [hz]; simp
        · rfl
    · intro x hx
      simp only [List.mem_map, List.mem_range] at hx
      obtain ⟨i, hi', rfl⟩ := hx
      exact (hX i (by omega)).2.1
    · rw [hget i h]
      have hi' : i < len0 := by simpa using h
      obtain ⟨e0, e1, e2, e3, e5, he⟩ := (hX i (by omega)).2.2
      exact ⟨e0, e1, e2, e3, e5, by simp [hi', he]⟩
end
end Go.Proofs.Ytmhppikbnobedaa
