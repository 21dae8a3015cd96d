/- A letter that came in, with what its bulk bounds. (Written by genTurned.py.) -/
import Derived.Test.YtpfdihidncofaaaOpenE
import Derived.Test.YtpfdihidncofaaaLetH
import Derived.Test.YtpfdihidncofaaaBulk
namespace Go.Proofs.Ytpfdihidncofaaa
open Go.Joins Go.ChangeShapes Go.WideShapes Go.RowKit Go.Deep
section
variable {H : Type} {enc : TypeId × Value → H} {w : World} {base : Nat} {spare : Nat → Bool} {held : Bool}
theorem open_entsU {n : Nat} {c : Value} {y : DataW H × List MemPlace} (hf : DataW.trod enc Try.prog w base spare held n 22 [c] = some y) :
    ∃ (a : Option Addr) (cap : Nat) (xs : List Ent), c = .slice a xs.length cap ∧ xs.length ≤ cap ∧ cap ≤ maxLen ∧ SlS Ent.cells 3 w c xs ∧ ∀ x ∈ xs, I64 x.term ∧ I64 x.members ∧ x.data.size ≤ Rows.uptoBulk y.1 := by
  rcases Go.Deep.open_slice Try.underlying22 hf with ⟨hcs, _⟩ | ⟨a, len, cap, m, n, D, Pl, hcs, hb0, hlc, hcm, hm, hx, hi⟩
  · simp only [List.cons.injEq, and_true] at hcs
    subst hcs
    exact ⟨none, 0, [], rfl, Nat.le_refl _, Nat.zero_le _, SlS.nil, fun x hx => by cases hx⟩
  · simp only [List.cons.injEq, and_true] at hcs
    subst hcs
    have hC : Try.prog.cellsOf 36 = 3 := by kernel_rfl
    have hlm : len ≤ m := by rw [hm]; split <;> omega
    have each : ∀ i, i < m → ∃ x : Ent, (I64 x.term ∧ I64 x.members ∧ ∃ e0 e1, D i = .agg [e0, e1, .lit (.string x.data.data.toList)]) ∧ ∀ j, j < 3 → w.cell? (a.add (i * 3 + j)) = x.cells[j]? := by
      intro i him
      obtain ⟨cs', hc, ht⟩ := hi i him
      rw [hC] at hc
      obtain ⟨_, hcl, hat⟩ := World.cells?_some hc
      obtain ⟨ys, n', hn', hy, hlen, hyl, hf2⟩ := DataW.trod_struct Try.underlying36 ht
      match cs', hcl with
      | [c0, c1, c2], _ =>
        match ys, hyl with
        | [y0, y1, y2], _ =>
          have ki : Try.prog.cellsOf 3 = 1 := by kernel_rfl
          have ks : Try.prog.cellsOf 9 = 1 := by kernel_rfl
          have g0 : DataW.trod enc Try.prog w base spare held n' 3 [c0] = some y0 := by simpa [ki] using hf2 0 _ rfl
          have g1 : DataW.trod enc Try.prog w base spare held n' 3 [c1] = some y1 := by simpa [ki] using hf2 1 _ rfl
          have g2 : DataW.trod enc Try.prog w base spare held n' 9 [c2] = some y2 := by simpa [ks] using hf2 2 _ rfl
          obtain ⟨b0, e0, _, w0⟩ := DataW.trod_int Try.underlying3 g0
          obtain ⟨b1, e1, _, w1⟩ := DataW.trod_int Try.underlying3 g1
          obtain ⟨b2, e2, rfl, _⟩ := DataW.trod_string Try.underlying9 g2
          simp only [List.cons.injEq, and_true] at e0 e1 e2
          subst e0 e1 e2
          refine ⟨⟨b0, b1, b2⟩, ⟨bd64 w0, bd64 w1, y0.1, y1.1, congrArg Prod.fst hy⟩, fun j hj => ?_⟩
          rw [← Go.Deep.add_add, hat j hj]
          simp [Ent.cells]
    obtain ⟨X, hX⟩ := Go.Deep.choose_lt each
    have hlen : ((List.range len).map X).length = len := by simp
    refine ⟨some a, cap, (List.range len).map X, by rw [hlen], by rw [hlen]; exact hlc, hcm, ?_, ?_⟩
    · refine ⟨flat_len Ent.three _, by rw [hlen]; omega, some a, cap, by rw [hlen], ?_⟩
      rw [hlen]
      by_cases h0 : len = 0
      · exact .inl h0
      · right
        have c0 := (hX 0 (by omega)).2 0 (by decide)
        have c0' : w.cell? (a.add 0) = some (.int .i64 (X 0).term) := c0
        obtain ⟨b, off, sp⟩ := a
        have hsp : sp = none := by simpa [Addr.add] using World.cell?_spot c0'
        subst hsp
        refine ⟨b, off, rfl, by simpa [Addr.add] using World.block_lt_of_cell? w _ c0', fun j hj => ?_⟩
        have hd : j = j / 3 * 3 + j % 3 := by omega
        have hq : j / 3 < ((List.range len).map X).length := by rw [hlen]; omega
        rw [hd, flat_get Ent.three _ (j / 3) hq (j % 3) (by omega)]
        have hget : ((List.range len).map X)[j / 3] = X (j / 3) := by simp
        rw [hget, ← (hX (j / 3) (by omega)).2 (j % 3) (by omega), ← hd]
        unfold Addr.add
        split
        · rename_i hz; rw [hz]; simp
        · rfl
    · intro x hxm
      obtain ⟨i, hi', rfl⟩ := List.mem_map.1 hxm
      rw [List.mem_range] at hi'
      obtain ⟨z1, z2, e0, e1, he⟩ := (hX i (by omega)).1
      have hy1 : y.1 = _ := congrArg Prod.fst hx
      have hm1 : D i ∈ (List.range len).map D := List.mem_map.2 ⟨i, List.mem_range.2 hi', rfl⟩
      have b1 := bulk_mem hm1
      have b3 := bulk_agg (H := H) (d := .lit (.string (X i).data.data.toList)) (l := [e0, e1, .lit (.string (X i).data.data.toList)]) (by simp)
      rw [← he, bulk_string] at b3
      have hz : (X i).data.data.toList.length = (X i).data.size := by rw [Array.length_toList]; rfl
      refine ⟨z1, z2, ?_⟩
      rw [hy1]
      refine Nat.le_trans ?_ (bulk_slice _ _)
      omega
set_option maxRecDepth 100000 in
theorem open_letterU {r : Reach} {B0 : Nat} {v : Value} {d : DataW H} {p : List MemPlace} (hv : Value.okWide Try.prog w r B0 24 v) (h : DataW.Trod enc Try.prog w base spare held 24 v d p) :
    ∃ (m : Lt) (a : Option Addr) (cap : Nat) (es : List Ent), v = m.agg (.slice a es.length cap) ∧ es.length ≤ cap ∧ cap ≤ 9223372036854775807 ∧ SlS Ent.cells 3 w (.slice a es.length cap) es ∧ (Rows.uptoBulk d ≤ 1048576 → SmallL m (es.take 20)) := by
  obtain ⟨cs, rfl, hsz⟩ := okWide_struct Try.underlying24 hv
  have hC : Try.prog.cellsOf 24 = 13 := by kernel_rfl
  obtain ⟨l⟩ := cs
  match l, hsz.trans hC with
  | [c0, c1, c2, c3, c4, c5, c6, c7, c8, c9, c10, c11, c12], _ =>
    obtain ⟨fuel, hf⟩ := h
    obtain ⟨xs, n, _, hx, _, hlen, hg⟩ := DataW.trod_struct Try.underlying24 hf
    have ki : Try.prog.cellsOf 3 = 1 := by kernel_rfl
    have ks : Try.prog.cellsOf 9 = 1 := by kernel_rfl
    have kb : Try.prog.cellsOf 4 = 1 := by kernel_rfl
    have kl : Try.prog.cellsOf 22 = 1 := by kernel_rfl
    match xs, hlen with
    | [y0, y1, y2, y3, y4, y5, y6, y7, y8, y9, y10, y11, y12], _ =>
      have g0 : DataW.trod enc Try.prog w base spare held n 3 [c0] = some y0 := by simpa [Value.cells, ki] using hg 0 _ rfl
      have g1 : DataW.trod enc Try.prog w base spare held n 3 [c1] = some y1 := by simpa [Value.cells, ki] using hg 1 _ rfl
      have g2 : DataW.trod enc Try.prog w base spare held n 3 [c2] = some y2 := by simpa [Value.cells, ki] using hg 2 _ rfl
      have g3 : DataW.trod enc Try.prog w base spare held n 3 [c3] = some y3 := by simpa [Value.cells, ki] using hg 3 _ rfl
      have g4 : DataW.trod enc Try.prog w base spare held n 3 [c4] = some y4 := by simpa [Value.cells, ki] using hg 4 _ rfl
      have g5 : DataW.trod enc Try.prog w base spare held n 3 [c5] = some y5 := by simpa [Value.cells, ki] using hg 5 _ rfl
      have g6 : DataW.trod enc Try.prog w base spare held n 3 [c6] = some y6 := by simpa [Value.cells, ki] using hg 6 _ rfl
      have g7 : DataW.trod enc Try.prog w base spare held n 3 [c7] = some y7 := by simpa [Value.cells, ki] using hg 7 _ rfl
      have g8 : DataW.trod enc Try.prog w base spare held n 3 [c8] = some y8 := by simpa [Value.cells, ki] using hg 8 _ rfl
      have g9 : DataW.trod enc Try.prog w base spare held n 3 [c9] = some y9 := by simpa [Value.cells, ki] using hg 9 _ rfl
      have g10 : DataW.trod enc Try.prog w base spare held n 4 [c10] = some y10 := by simpa [Value.cells, kb] using hg 10 _ rfl
      have g11 : DataW.trod enc Try.prog w base spare held n 9 [c11] = some y11 := by simpa [Value.cells, ks] using hg 11 _ rfl
      have g12 : DataW.trod enc Try.prog w base spare held n 22 [c12] = some y12 := by simpa [Value.cells, kl] using hg 12 _ rfl
      obtain ⟨b0, e0, _, w0⟩ := DataW.trod_int Try.underlying3 g0
      obtain ⟨b1, e1, _, w1⟩ := DataW.trod_int Try.underlying3 g1
      obtain ⟨b2, e2, _, w2⟩ := DataW.trod_int Try.underlying3 g2
      obtain ⟨b3, e3, _, w3⟩ := DataW.trod_int Try.underlying3 g3
      obtain ⟨b4, e4, _, w4⟩ := DataW.trod_int Try.underlying3 g4
      obtain ⟨b5, e5, _, w5⟩ := DataW.trod_int Try.underlying3 g5
      obtain ⟨b6, e6, _, w6⟩ := DataW.trod_int Try.underlying3 g6
      obtain ⟨b7, e7, _, w7⟩ := DataW.trod_int Try.underlying3 g7
      obtain ⟨b8, e8, _, w8⟩ := DataW.trod_int Try.underlying3 g8
      obtain ⟨b9, e9, _, w9⟩ := DataW.trod_int Try.underlying3 g9
      obtain ⟨b10, e10, _⟩ := DataW.trod_bool Try.underlying4 g10
      obtain ⟨b11, e11, rfl, _⟩ := DataW.trod_string Try.underlying9 g11
      simp only [List.cons.injEq, and_true] at e0 e1 e2 e3 e4 e5 e6 e7 e8 e9 e10 e11
      subst e0 e1 e2 e3 e4 e5 e6 e7 e8 e9 e10 e11
      obtain ⟨a, cap, xs, rfl, hlc, hcm, hrd, hsm⟩ := open_entsU g12
      refine ⟨⟨b0, b1, b2, b3, b4, b5, b6, b7, b8, b9, b10, b11⟩, a, cap, xs, rfl, hlc, by unfold maxLen at hcm; omega, hrd, fun hB => ?_⟩
      have hd : d = _ := congrArg Prod.fst hx
      rw [hd] at hB
      have b1 := bulk_agg (H := H) (d := .lit (.string b11.data.toList)) (l := [y0.1, y1.1, y2.1, y3.1, y4.1, y5.1, y6.1, y7.1, y8.1, y9.1, y10.1, .lit (.string b11.data.toList), y12.1]) (by simp)
      have b2 := bulk_agg (H := H) (d := y12.1) (l := [y0.1, y1.1, y2.1, y3.1, y4.1, y5.1, y6.1, y7.1, y8.1, y9.1, y10.1, .lit (.string b11.data.toList), y12.1]) (by simp)
      have hB' : Rows.uptoBulk (.agg [y0.1, y1.1, y2.1, y3.1, y4.1, y5.1, y6.1, y7.1, y8.1, y9.1, y10.1, .lit (.string b11.data.toList), y12.1]) ≤ 1048576 := hB
      rw [bulk_string] at b1
      have hz : b11.data.toList.length = b11.size := by rw [Array.length_toList]; rfl
      refine ⟨?_, by show b11.size ≤ _; omega, by rw [List.length_take]; omega, fun x hx => ?_⟩
      · intro n hn
        simp only [headL, List.mem_cons, List.not_mem_nil, or_false] at hn
        rcases hn with rfl | rfl | rfl | rfl | rfl | rfl | rfl | rfl | rfl | rfl
        · exact bd64 w0
        · exact bd64 w1
        · exact bd64 w2
        · exact bd64 w3
        · exact bd64 w4
        · exact bd64 w5
        · exact bd64 w6
        · exact bd64 w7
        · exact bd64 w8
        · exact bd64 w9
      · obtain ⟨q1, q2, q3⟩ := hsm x (List.mem_of_mem_take hx)
        exact ⟨q1, q2, by omega⟩
end
end Go.Proofs.Ytpfdihidncofaaa
