/- A slice of values that came in. -/
import Derived.Test.YtdojgdeadhhldaaKindS
import Derived.Lib.SmallJoins
namespace Go.Proofs.Ytdojgdeadhhldaa
open Go.Joins Go.ChangeShapes Go.WideShapes Go.RowKit Go.Deep
instance : Inhabited V := ⟨V.z⟩
section
variable {H : Type} {enc : TypeId × Value → H} {w : World} {base : Nat} {spare : Nat → Bool} {held : Bool}
theorem open_vals {n : Nat} {c : Value} {y : DataW H × List MemPlace} (hf : DataW.trod enc Try.prog w base spare held n 33 [c] = some y) : ∃ xs : List V, SlC w w.heap.size c xs := by
  rcases Go.Deep.open_slice Try.underlying33 hf with ⟨hcs, _⟩ | ⟨a, len, cap, m, n, D, Pl, hcs, hb0, hlc, hcm, hm, hx, hi⟩
  · simp only [List.cons.injEq, and_true] at hcs
    subst hcs
    exact ⟨[], none, 0, rfl, Nat.le_refl _, by decide, SlR.nil _ _ _⟩
  · simp only [List.cons.injEq, and_true] at hcs
    subst hcs
    have hC : Try.prog.cellsOf 32 = 6 := by kernel_rfl
    have hlm : len ≤ m := by rw [hm]; split <;> omega
    have each : ∀ i, i < m → ∃ x : V, ∀ j, j < 6 → w.cell? (a.add (i * 6 + j)) = x.cells[j]? := by
      intro i him
      obtain ⟨cs', hc, ht⟩ := hi i him
      rw [hC] at hc
      obtain ⟨_, hcl, hat⟩ := World.cells?_some hc
      obtain ⟨ys, n', hn', hy, hlen, hyl, hf2⟩ := DataW.trod_struct Try.underlying32 ht
      match cs', hcl with
      | [c0, c1, c2, c3, c4, c5], _ =>
        match ys, hyl with
        | [y0, y1, y2, y3], _ =>
          have ki : Try.prog.cellsOf 3 = 1 := by kernel_rfl
          have ks : Try.prog.cellsOf 9 = 1 := by kernel_rfl
          have kd : Try.prog.cellsOf 30 = 3 := by kernel_rfl
          have g0 : DataW.trod enc Try.prog w base spare held n' 3 [c0] = some y0 := by simpa [ki] using hf2 0 _ rfl
          have g1 : DataW.trod enc Try.prog w base spare held n' 3 [c1] = some y1 := by simpa [ki] using hf2 1 _ rfl
          have g2 : DataW.trod enc Try.prog w base spare held n' 9 [c2] = some y2 := by simpa [ks] using hf2 2 _ rfl
          have g3 : DataW.trod enc Try.prog w base spare held n' 30 [c3, c4, c5] = some y3 := by simpa [kd] using hf2 3 _ rfl
          obtain ⟨zs, n2, hn2, hz, hzlen, hzl, hf3⟩ := DataW.trod_struct Try.underlying30 g3
          match zs, hzl with
          | [z0, z1, z2], _ =>
            have e0 : DataW.trod enc Try.prog w base spare held n2 3 [c3] = some z0 := by simpa [ki] using hf3 0 _ rfl
            have e1 : DataW.trod enc Try.prog w base spare held n2 3 [c4] = some z1 := by simpa [ki] using hf3 1 _ rfl
            have e2 : DataW.trod enc Try.prog w base spare held n2 3 [c5] = some z2 := by simpa [ki] using hf3 2 _ rfl
            obtain ⟨b0, k0, _⟩ := DataW.trod_int Try.underlying3 g0
            obtain ⟨b1, k1, _⟩ := DataW.trod_int Try.underlying3 g1
            obtain ⟨b2, k2, _⟩ := DataW.trod_string Try.underlying9 g2
            obtain ⟨b3, k3, _⟩ := DataW.trod_int Try.underlying3 e0
            obtain ⟨b4, k4, _⟩ := DataW.trod_int Try.underlying3 e1
            obtain ⟨b5, k5, _⟩ := DataW.trod_int Try.underlying3 e2
            simp only [List.cons.injEq, and_true] at k0 k1 k2 k3 k4 k5
            subst k0 k1 k2 k3 k4 k5
            refine ⟨⟨b0, b1, b2, b3, b4, b5⟩, fun j hj => ?_⟩
            rw [← Go.Deep.add_add, hat j hj]
            simp [V.cells]
    obtain ⟨X, hX⟩ := Go.Deep.choose_lt each
    have hlen : ((List.range len).map X).length = len := by simp
    refine ⟨(List.range len).map X, some a, cap, by rw [hlen], by rw [hlen]; exact hlc, by unfold maxLen at hcm; omega, flat_len V.len _, by rw [hlen]; omega, some a, cap, by rw [hlen], ?_⟩
    rw [hlen]
    by_cases h0 : len = 0
    · exact .inl h0
    · right
      have c0 := hX 0 (by omega) 0 (by decide)
      have c0' : w.cell? (a.add 0) = some (.int .i64 (X 0).kind) := c0
      obtain ⟨b, off, sp⟩ := a
      have hsp : sp = none := by simpa [Addr.add] using World.cell?_spot c0'
      subst hsp
      refine ⟨b, off, rfl, by simpa [Addr.add] using World.block_lt_of_cell? w _ c0', fun j hj => ?_⟩
      have hd : j = j / 6 * 6 + j % 6 := by omega
      have hq : j / 6 < ((List.range len).map X).length := by rw [hlen]; omega
      rw [hd, flat_get V.len _ (j / 6) hq (j % 6) (by omega)]
      have hget : ((List.range len).map X)[j / 6] = X (j / 6) := by simp
      rw [hget, ← hX (j / 6) (by omega) (j % 6) (by omega), ← hd]
      unfold Addr.add
      split
      · rename_i hz; rw [hz]; simp
      · rfl
end
end Go.Proofs.Ytdojgdeadhhldaa
