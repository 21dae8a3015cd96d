/- A slice of entries that came in; a Hard by value. -/
import Derived.Test.YtognipephfedkaaLaw
import Derived.Test.YtognipephfedkaaRoomyE
import Derived.ChangeSlices
import Derived.Deep.Slices
import Derived.Lib.SmallJoins
namespace Go.Proofs.Ytognipephfedkaa
open Go.Joins Go.ChangeShapes Go.WideShapes Go.RowKit Go.Deep
section
variable {H : Type} {enc : TypeId × Value → H} {P : Program} {w : World} {base : Nat} {spare : Nat → Bool} {held : Bool}
theorem open_agg7 {r : Reach} {b0 : Nat} {t : TypeId} {f0 f1 f2 f3 f4 f5 f6 : Field} {v : Value} {d : DataW H} {p : List MemPlace} (hs : P.underlying t = some (.struct #[f0, f1, f2, f3, f4, f5, f6])) (hone : oneCellFields P #[f0, f1, f2, f3, f4, f5, f6] = true) (hC : P.cellsOf t = 7)
    (hv : Value.okWide P w r b0 t v) (h : DataW.Trod enc P w base spare held t v d p) :
    ∃ (v0 v1 v2 v3 v4 v5 v6 : Value) (y0 y1 y2 y3 y4 y5 y6 : DataW H × List MemPlace) (n : Nat), v = .agg #[v0, v1, v2, v3, v4, v5, v6] ∧
      DataW.trod enc P w base spare held n f0.type [v0] = some y0 ∧ DataW.trod enc P w base spare held n f1.type [v1] = some y1 ∧ DataW.trod enc P w base spare held n f2.type [v2] = some y2 ∧ DataW.trod enc P w base spare held n f3.type [v3] = some y3 ∧ DataW.trod enc P w base spare held n f4.type [v4] = some y4 ∧ DataW.trod enc P w base spare held n f5.type [v5] = some y5 ∧ DataW.trod enc P w base spare held n f6.type [v6] = some y6 := by
  obtain ⟨cs, rfl, hsz⟩ := okWide_struct hs hv
  obtain ⟨l⟩ := cs
  match l, hsz.trans hC with
  | [c0, c1, c2, c3, c4, c5, c6], _ =>
    obtain ⟨fuel, hf⟩ := h
    obtain ⟨xs, n, _, hx, _, hlen, hg⟩ := DataW.trod_struct hs hf
    obtain ⟨o0, k0⟩ := hone_of hone 0 f0 rfl
    obtain ⟨o1, k1⟩ := hone_of hone 1 f1 rfl
    obtain ⟨o2, k2⟩ := hone_of hone 2 f2 rfl
    obtain ⟨o3, k3⟩ := hone_of hone 3 f3 rfl
    obtain ⟨o4, k4⟩ := hone_of hone 4 f4 rfl
    obtain ⟨o5, k5⟩ := hone_of hone 5 f5 rfl
    obtain ⟨o6, k6⟩ := hone_of hone 6 f6 rfl
    match xs, hlen with
    | [y0, y1, y2, y3, y4, y5, y6], _ =>
      exact ⟨c0, c1, c2, c3, c4, c5, c6, y0, y1, y2, y3, y4, y5, y6, n, rfl, by simpa [Value.cells, o0, k0] using hg 0 f0 rfl, by simpa [Value.cells, o1, k1] using hg 1 f1 rfl, by simpa [Value.cells, o2, k2] using hg 2 f2 rfl, by simpa [Value.cells, o3, k3] using hg 3 f3 rfl, by simpa [Value.cells, o4, k4] using hg 4 f4 rfl, by simpa [Value.cells, o5, k5] using hg 5 f5 rfl, by simpa [Value.cells, o6, k6] using hg 6 f6 rfl⟩

theorem open_ents {n : Nat} {c : Value} {y : DataW H × List MemPlace} (hf : DataW.trod enc Try.prog w base spare held n 25 [c] = some y) :
    ∃ (a : Option Addr) (cap : Nat) (xs : List Ent), c = .slice a xs.length cap ∧ xs.length ≤ cap ∧ cap ≤ maxLen ∧ SlS Ent.cells 3 w c xs := by
  rcases Go.Deep.open_slice Try.underlying25 hf with ⟨hcs, _⟩ | ⟨a, len, cap, m, n, D, Pl, hcs, hb0, hlc, hcm, hm, hx, hi⟩
  · simp only [List.cons.injEq, and_true] at hcs
    subst hcs
    exact ⟨none, 0, [], rfl, Nat.le_refl _, Nat.zero_le _, SlS.nil⟩
  · simp only [List.cons.injEq, and_true] at hcs
    subst hcs
    have hC : Try.prog.cellsOf 49 = 3 := by kernel_rfl
    have hlm : len ≤ m := by rw [hm]; split <;> omega
    have each : ∀ i, i < m → ∃ x : Ent, ∀ j, j < 3 → w.cell? (a.add (i * 3 + j)) = x.cells[j]? := by
      intro i him
      obtain ⟨cs', hc, ht⟩ := hi i him
      rw [hC] at hc
      obtain ⟨_, hcl, hat⟩ := World.cells?_some hc
      obtain ⟨ys, n', hn', hy, hlen, hyl, hf2⟩ := DataW.trod_struct Try.underlying49 ht
      match cs', hcl with
      | [c0, c1, c2], _ =>
        match ys, hyl with
        | [y0, y1, y2], _ =>
          have ki : Try.prog.cellsOf 3 = 1 := by kernel_rfl
          have ks : Try.prog.cellsOf 9 = 1 := by kernel_rfl
          have g0 : DataW.trod enc Try.prog w base spare held n' 3 [c0] = some y0 := by simpa [ki] using hf2 0 _ rfl
          have g1 : DataW.trod enc Try.prog w base spare held n' 3 [c1] = some y1 := by simpa [ki] using hf2 1 _ rfl
          have g2 : DataW.trod enc Try.prog w base spare held n' 9 [c2] = some y2 := by simpa [ks] using hf2 2 _ rfl
          obtain ⟨b0, e0, _⟩ := DataW.trod_int Try.underlying3 g0
          obtain ⟨b1, e1, _⟩ := DataW.trod_int Try.underlying3 g1
          obtain ⟨b2, e2, _⟩ := DataW.trod_string Try.underlying9 g2
          simp only [List.cons.injEq, and_true] at e0 e1 e2
          subst e0 e1 e2
          refine ⟨⟨b0, b1, b2⟩, fun j hj => ?_⟩
          rw [← Go.Deep.add_add, hat j hj]
          simp [Ent.cells]
    obtain ⟨X, hX⟩ := Go.Deep.choose_lt each
    have hlen : ((List.range len).map X).length = len := by simp
    refine ⟨some a, cap, (List.range len).map X, by rw [hlen], by rw [hlen]; exact hlc, hcm, ?_⟩
    refine ⟨flat_len Ent.three _, by rw [hlen]; omega, some a, cap, by rw [hlen], ?_⟩
    rw [hlen]
    by_cases h0 : len = 0
    · exact .inl h0
    · right
      have c0 := hX 0 (by omega) 0 (by decide)
      have c0' : w.cell? (a.add 0) = some (.int .i64 (X 0).term) := c0
      obtain ⟨b, off, sp⟩ := a
      have hsp : sp = none := by simpa [Addr.add] using World.cell?_spot c0'
      subst hsp
      refine ⟨b, off, rfl, by simpa [Addr.add] using World.block_lt_of_cell? w _ c0', fun j hj => ?_⟩
      have hd : j = j / 3 * 3 + j % 3 := by omega
      have hq : j / 3 < ((List.range len).map X).length := by rw [hlen]; omega
      rw [hd, flat_get Ent.three _ (j / 3) hq (j % 3) (by omega)]
      have hget : ((List.range len).map X)[j / 3] = X (j / 3) := by simp
      rw [hget, ← hX (j / 3) (by omega) (j % 3) (by omega), ← hd]
      unfold Addr.add
      split
      · rename_i hz; rw [hz]; simp
      · rfl
end
end Go.Proofs.Ytognipephfedkaa
