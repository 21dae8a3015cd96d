/- Slices of letters and of asks that came in. (Written by genNetW.py.) -/
import Derived.Test.YtognipephfedkaaOpenE
import Derived.Test.YtognipephfedkaaNetF
namespace Go.Proofs.Ytognipephfedkaa
open Go.Joins Go.ChangeShapes Go.WideShapes Go.RowKit Go.Deep

structure AK where
  kind : Int
  n : Int
  li : LI
def AK.cells (x : AK) : List Value := .int .i64 x.kind :: .int .i64 x.n :: x.li.cells
theorem AK.len (x : AK) : x.cells.length = 15 := rfl
instance : Inhabited LI := ⟨⟨Lt.z, none, 0, []⟩⟩
instance : Inhabited AK := ⟨⟨0, 0, default⟩⟩
/-- A letter's entries as they came in. -/
def LI.In (w : World) (q : LI) : Prop := q.es.length ≤ q.cap ∧ q.cap ≤ maxLen ∧ SlS Ent.cells 3 w q.ev q.es
section
variable {H : Type} {enc : TypeId × Value → H} {w : World} {base : Nat} {spare : Nat → Bool} {held : Bool}
set_option maxRecDepth 100000 in
theorem open_let13 {fuel : Nat} {c0 c1 c2 c3 c4 c5 c6 c7 c8 c9 c10 c11 c12 : Value} {y : DataW H × List MemPlace} (hf : DataW.trod enc Try.prog w base spare held fuel 27 [c0, c1, c2, c3, c4, c5, c6, c7, c8, c9, c10, c11, c12] = some y) :
    ∃ q : LI, [c0, c1, c2, c3, c4, c5, c6, c7, c8, c9, c10, c11, c12] = q.cells ∧ q.In w := by
  obtain ⟨xs, n, _, hx, _, hlen, hg⟩ := DataW.trod_struct Try.underlying27 hf
  have ki : Try.prog.cellsOf 3 = 1 := by kernel_rfl
  have ks : Try.prog.cellsOf 9 = 1 := by kernel_rfl
  have kb : Try.prog.cellsOf 4 = 1 := by kernel_rfl
  have ke : Try.prog.cellsOf 25 = 1 := by kernel_rfl
  match xs, hlen with
  | [y0, y1, y2, y3, y4, y5, y6, y7, y8, y9, y10, y11, y12], _ =>
    have g0 : DataW.trod enc Try.prog w base spare held n 3 [c0] = some y0 := by simpa [Value.cells, ki] using hg 0 _ rfl
    have g1 : DataW.trod enc Try.prog w base spare held n 3 [c1] = some y1 := by simpa [Value.cells, ki] using hg 1 _ rfl
    have g2 : DataW.trod enc Try.prog w base spare held n 3 [c2] = some y2 := by simpa [Value.cells, ki] using hg 2 _ rfl
    have g3 : DataW.trod enc Try.prog w base spare held n 3 [c3] = some y3 := by simpa [Value.cells, ki] using hg 3 _ rfl
    have g4 : DataW.trod enc Try.prog w base spare held n 3 [c4] = some y4 := by simpa [Value.cells, ki] using hg 4 _ rfl
    have g5 : DataW.trod enc Try.prog w base spare held n 3 [c5] = some y5 := by simpa [Value.cells, ki] using hg 5 _ rfl
    have g6 : DataW.trod enc Try.prog w base spare held n 3 [c6] = some y6 := by simpa [Value.cells, ki] using hg 6 _ rfl
    have g7 : DataW.trod enc Try.prog w base spare held n 3 [c7] = some y7 := by simpa [Value.cells, ki] using hg 7 _ rfl
    have g8 : DataW.trod enc Try.prog w base spare held n 3 [c8] = some y8 := by simpa [Value.cells, ki] using hg 8 _ rfl
    have g9 : DataW.trod enc Try.prog w base spare held n 3 [c9] = some y9 := by simpa [Value.cells, ki] using hg 9 _ rfl
    have g10 : DataW.trod enc Try.prog w base spare held n 4 [c10] = some y10 := by simpa [Value.cells, kb] using hg 10 _ rfl
    have g11 : DataW.trod enc Try.prog w base spare held n 9 [c11] = some y11 := by simpa [Value.cells, ks] using hg 11 _ rfl
    have g12 : DataW.trod enc Try.prog w base spare held n 25 [c12] = some y12 := by simpa [Value.cells, ke] using hg 12 _ rfl
    obtain ⟨b0, e0, _⟩ := DataW.trod_int Try.underlying3 g0
    obtain ⟨b1, e1, _⟩ := DataW.trod_int Try.underlying3 g1
    obtain ⟨b2, e2, _⟩ := DataW.trod_int Try.underlying3 g2
    obtain ⟨b3, e3, _⟩ := DataW.trod_int Try.underlying3 g3
    obtain ⟨b4, e4, _⟩ := DataW.trod_int Try.underlying3 g4
    obtain ⟨b5, e5, _⟩ := DataW.trod_int Try.underlying3 g5
    obtain ⟨b6, e6, _⟩ := DataW.trod_int Try.underlying3 g6
    obtain ⟨b7, e7, _⟩ := DataW.trod_int Try.underlying3 g7
    obtain ⟨b8, e8, _⟩ := DataW.trod_int Try.underlying3 g8
    obtain ⟨b9, e9, _⟩ := DataW.trod_int Try.underlying3 g9
    obtain ⟨b10, e10, _⟩ := DataW.trod_bool Try.underlying4 g10
    obtain ⟨b11, e11, _⟩ := DataW.trod_string Try.underlying9 g11
    simp only [List.cons.injEq, and_true] at e0 e1 e2 e3 e4 e5 e6 e7 e8 e9 e10 e11
    subst e0 e1 e2 e3 e4 e5 e6 e7 e8 e9 e10 e11
    obtain ⟨a, cap, es, rfl, hlc, hcm, hrd⟩ := open_ents g12
    exact ⟨⟨⟨b0, b1, b2, b3, b4, b5, b6, b7, b8, b9, b10, b11⟩, a, cap, es⟩, rfl, hlc, hcm, hrd⟩
set_option maxRecDepth 100000 in
theorem open_lets {n : Nat} {c : Value} {y : DataW H × List MemPlace} (hf : DataW.trod enc Try.prog w base spare held n 44 [c] = some y) :
    ∃ (a : Option Addr) (cap : Nat) (xs : List LI), c = .slice a xs.length cap ∧ xs.length ≤ cap ∧ cap ≤ maxLen ∧ SlS LI.cells 13 w c xs ∧ ∀ x ∈ xs, x.In w := by
  rcases Go.Deep.open_slice Try.underlying44 hf with ⟨hcs, _⟩ | ⟨a, len, cap, m, n, D, Pl, hcs, hb0, hlc, hcm, hm, hx, hi⟩
  · simp only [List.cons.injEq, and_true] at hcs
    subst hcs
    exact ⟨none, 0, [], rfl, Nat.le_refl _, Nat.zero_le _, SlS.nil, fun x hx => by cases hx⟩
  · simp only [List.cons.injEq, and_true] at hcs
    subst hcs
    have hC : Try.prog.cellsOf 27 = 13 := by kernel_rfl
    have hlm : len ≤ m := by rw [hm]; split <;> omega
    have each : ∀ i, i < m → ∃ x : LI, (∀ j, j < 13 → w.cell? (a.add (i * 13 + j)) = x.cells[j]?) ∧ x.In w := by
      intro i him
      obtain ⟨cs', hc, ht⟩ := hi i him
      rw [hC] at hc
      obtain ⟨_, hcl, hat⟩ := World.cells?_some hc
      match cs', hcl with
      | [c0, c1, c2, c3, c4, c5, c6, c7, c8, c9, c10, c11, c12], _ =>
        obtain ⟨q, hq, hin⟩ := open_let13 ht
        refine ⟨q, fun j hj => ?_, hin⟩
        rw [← Go.Deep.add_add, hat j hj, hq]
    obtain ⟨X, hX⟩ := Go.Deep.choose_lt each
    have hlen : ((List.range len).map X).length = len := by simp
    refine ⟨some a, cap, (List.range len).map X, by rw [hlen], by rw [hlen]; exact hlc, hcm, ?_, fun x hx => ?_⟩
    · refine ⟨flat_len LI.len _, by rw [hlen]; omega, some a, cap, by rw [hlen], ?_⟩
      rw [hlen]
      by_cases h0 : len = 0
      · exact .inl h0
      · right
        have c0 := (hX 0 (by omega)).1 0 (by decide)
        have c0' : w.cell? (a.add 0) = some (.int .i64 (X 0).m.kind) := c0
        obtain ⟨b, off, sp⟩ := a
        have hsp : sp = none := by simpa [Addr.add] using World.cell?_spot c0'
        subst hsp
        refine ⟨b, off, rfl, by simpa [Addr.add] using World.block_lt_of_cell? w _ c0', fun j hj => ?_⟩
        have hd : j = j / 13 * 13 + j % 13 := by omega
        have hq : j / 13 < ((List.range len).map X).length := by rw [hlen]; omega
        rw [hd, flat_get LI.len _ (j / 13) hq (j % 13) (by omega)]
        have hget : ((List.range len).map X)[j / 13] = X (j / 13) := by simp
        rw [hget, ← (hX (j / 13) (by omega)).1 (j % 13) (by omega), ← hd]
        unfold Addr.add
        split
        · rename_i hz; rw [hz]; simp
        · rfl
    · simp only [List.mem_map, List.mem_range] at hx
      obtain ⟨i, hi', rfl⟩ := hx
      exact (hX i (by omega)).2
set_option maxRecDepth 100000 in
theorem open_asks {n : Nat} {c : Value} {y : DataW H × List MemPlace} (hf : DataW.trod enc Try.prog w base spare held n 36 [c] = some y) :
    ∃ (a : Option Addr) (cap : Nat) (xs : List AK), c = .slice a xs.length cap ∧ xs.length ≤ cap ∧ cap ≤ maxLen ∧ SlS AK.cells 15 w c xs ∧ ∀ x ∈ xs, x.li.In w := by
  rcases Go.Deep.open_slice Try.underlying36 hf with ⟨hcs, _⟩ | ⟨a, len, cap, m, n, D, Pl, hcs, hb0, hlc, hcm, hm, hx, hi⟩
  · simp only [List.cons.injEq, and_true] at hcs
    subst hcs
    exact ⟨none, 0, [], rfl, Nat.le_refl _, Nat.zero_le _, SlS.nil, fun x hx => by cases hx⟩
  · simp only [List.cons.injEq, and_true] at hcs
    subst hcs
    have hC : Try.prog.cellsOf 42 = 15 := by kernel_rfl
    have hlm : len ≤ m := by rw [hm]; split <;> omega
    have each : ∀ i, i < m → ∃ x : AK, (∀ j, j < 15 → w.cell? (a.add (i * 15 + j)) = x.cells[j]?) ∧ x.li.In w := by
      intro i him
      obtain ⟨cs', hc, ht⟩ := hi i him
      rw [hC] at hc
      obtain ⟨_, hcl, hat⟩ := World.cells?_some hc
      obtain ⟨ys, n', hn', hy, hlen, hyl, hf2⟩ := DataW.trod_struct Try.underlying42 ht
      match cs', hcl with
      | [a0, a1, c0, c1, c2, c3, c4, c5, c6, c7, c8, c9, c10, c11, c12], _ =>
        match ys, hyl with
        | [y0, y1, y2], _ =>
          have ki : Try.prog.cellsOf 3 = 1 := by kernel_rfl
          have kl : Try.prog.cellsOf 27 = 13 := by kernel_rfl
          have g0 : DataW.trod enc Try.prog w base spare held n' 3 [a0] = some y0 := by simpa [ki] using hf2 0 _ rfl
          have g1 : DataW.trod enc Try.prog w base spare held n' 3 [a1] = some y1 := by simpa [ki] using hf2 1 _ rfl
          have g2 : DataW.trod enc Try.prog w base spare held n' 27 [c0, c1, c2, c3, c4, c5, c6, c7, c8, c9, c10, c11, c12] = some y2 := by simpa [ki, kl] using hf2 2 _ rfl
          obtain ⟨b0, e0, _⟩ := DataW.trod_int Try.underlying3 g0
          obtain ⟨b1, e1, _⟩ := DataW.trod_int Try.underlying3 g1
          simp only [List.cons.injEq, and_true] at e0 e1
          subst e0 e1
          obtain ⟨q, hq, hin⟩ := open_let13 g2
          refine ⟨⟨b0, b1, q⟩, fun j hj => ?_, hin⟩
          rw [← Go.Deep.add_add, hat j hj, hq]
          rfl
    obtain ⟨X, hX⟩ := Go.Deep.choose_lt each
    have hlen : ((List.range len).map X).length = len := by simp
    refine ⟨some a, cap, (List.range len).map X, by rw [hlen], by rw [hlen]; exact hlc, hcm, ?_, fun x hx => ?_⟩
    · refine ⟨flat_len AK.len _, by rw [hlen]; omega, some a, cap, by rw [hlen], ?_⟩
      rw [hlen]
      by_cases h0 : len = 0
      · exact .inl h0
      · right
        have c0 := (hX 0 (by omega)).1 0 (by decide)
        have c0' : w.cell? (a.add 0) = some (.int .i64 (X 0).kind) := c0
        obtain ⟨b, off, sp⟩ := a
        have hsp : sp = none := by simpa [Addr.add] using World.cell?_spot c0'
        subst hsp
        refine ⟨b, off, rfl, by simpa [Addr.add] using World.block_lt_of_cell? w _ c0', fun j hj => ?_⟩
        have hd : j = j / 15 * 15 + j % 15 := by omega
        have hq : j / 15 < ((List.range len).map X).length := by rw [hlen]; omega
        rw [hd, flat_get AK.len _ (j / 15) hq (j % 15) (by omega)]
        have hget : ((List.range len).map X)[j / 15] = X (j / 15) := by simp
        rw [hget, ← (hX (j / 15) (by omega)).1 (j % 15) (by omega), ← hd]
        unfold Addr.add
        split
        · rename_i hz; rw [hz]; simp
        · rfl
    · simp only [List.mem_map, List.mem_range] at hx
      obtain ⟨i, hi', rfl⟩ := hx
      exact (hX i (by omega)).2
end
end Go.Proofs.Ytognipephfedkaa
