/- A call that came in. (Written by genCalV.py.) -/
import Derived.Test.YtochgmpcdmahkaaCmdX
import Derived.Test.YtochgmpcdmahkaaCalA
import Derived.Test.YtochgmpcdmahkaaLaw
import Derived.Lib.SmallJoins
namespace Go.Proofs.Ytochgmpcdmahkaa
open Go.Joins Go.ChangeShapes Go.WideShapes Go.RowKit Go.Deep
instance : Inhabited Ln := ⟨Ln.z⟩
section
variable {H : Type} {enc : TypeId × Value → H} {w : World} {base : Nat} {spare : Nat → Bool} {held : Bool}
theorem wf_z64 {n : Int} (h : (Lit.int .i64 n).wf = true) : Z64 n := bd64 h
set_option maxRecDepth 100000 in
theorem open_lns {n : Nat} {c : Value} {y : DataW H × List MemPlace} (hf : DataW.trod enc Try.prog w base spare held n 29 [c] = some y) : ∃ (a : Option Addr) (cap : Nat) (xs : List Ln), c = .slice a xs.length cap ∧ xs.length ≤ cap ∧ cap ≤ maxLen ∧ LnIn xs ∧ SlS Ln.cells 4 w (.slice a xs.length cap) xs := by
  rcases Go.Deep.open_slice Try.underlying29 hf with ⟨hcs, _⟩ | ⟨a, len, cap, m, n, D, Pl, hcs, hb0, hlc, hcm, hm, hx, hi⟩
  · simp only [List.cons.injEq, and_true] at hcs
    subst hcs
    exact ⟨none, 0, [], rfl, Nat.le_refl _, Nat.zero_le _, (fun x hx => by cases hx), SlR.nil _ _ _⟩
  · simp only [List.cons.injEq, and_true] at hcs
    subst hcs
    have hC : Try.prog.cellsOf 107 = 4 := by kernel_rfl
    have hlm : len ≤ m := by rw [hm]; split <;> omega
    have each : ∀ i, i < m → ∃ x : Ln, (Z64 x.count ∧ Z64 x.price) ∧ ∀ j, j < 4 → w.cell? (a.add (i * 4 + j)) = x.cells[j]? := by
      intro i him
      obtain ⟨cs', hc, ht⟩ := hi i him
      rw [hC] at hc
      obtain ⟨_, hcl, hat⟩ := World.cells?_some hc
      obtain ⟨ys, n', hn', hy, hlen, hyl, hf2⟩ := DataW.trod_struct Try.underlying107 ht
      match cs', hcl with
      | [c0, c1, c2, c3], _ =>
        match ys, hyl with
        | [y0, y1, y2, y3], _ =>
          have ki : Try.prog.cellsOf 3 = 1 := by kernel_rfl
          have ks : Try.prog.cellsOf 9 = 1 := by kernel_rfl
          have g0 : DataW.trod enc Try.prog w base spare held n' 9 [c0] = some y0 := by simpa [ks] using hf2 0 _ rfl
          have g1 : DataW.trod enc Try.prog w base spare held n' 9 [c1] = some y1 := by simpa [ks] using hf2 1 _ rfl
          have g2 : DataW.trod enc Try.prog w base spare held n' 3 [c2] = some y2 := by simpa [ki] using hf2 2 _ rfl
          have g3 : DataW.trod enc Try.prog w base spare held n' 3 [c3] = some y3 := by simpa [ki] using hf2 3 _ rfl
          obtain ⟨b0, k0, _⟩ := DataW.trod_string Try.underlying9 g0
          obtain ⟨b1, k1, _⟩ := DataW.trod_string Try.underlying9 g1
          obtain ⟨b2, k2, _, w2⟩ := DataW.trod_int Try.underlying3 g2
          obtain ⟨b3, k3, _, w3⟩ := DataW.trod_int Try.underlying3 g3
          simp only [List.cons.injEq, and_true] at k0 k1 k2 k3
          subst k0 k1 k2 k3
          refine ⟨⟨b0, b1, b2, b3⟩, ⟨wf_z64 w2, wf_z64 w3⟩, fun j hj => ?_⟩
          rw [← Go.Deep.add_add, hat j hj]
          simp [Ln.cells]
    obtain ⟨X, hX⟩ := Go.Deep.choose_lt each
    have hlen : ((List.range len).map X).length = len := by simp
    refine ⟨some a, cap, (List.range len).map X, by rw [hlen], by rw [hlen]; exact hlc, hcm, ?_, flat_len Ln.len _, by rw [hlen]; exact Nat.le_trans hlc hcm, some a, cap, by rw [hlen], ?_⟩
    · intro x hx
      obtain ⟨i, hi, rfl⟩ := List.mem_map.1 hx
      rw [List.mem_range] at hi
      exact (hX i (by omega)).1
    rw [hlen]
    by_cases h0 : len = 0
    · exact .inl h0
    · right
      have c0 := (hX 0 (by omega)).2 0 (by decide)
      have c0' : w.cell? (a.add 0) = some (.string (X 0).text) := c0
      obtain ⟨b, off, sp⟩ := a
      have hsp : sp = none := by simpa [Addr.add] using World.cell?_spot c0'
      subst hsp
      refine ⟨b, off, rfl, by simpa [Addr.add] using World.block_lt_of_cell? w _ c0', fun j hj => ?_⟩
      have hd : j = j / 4 * 4 + j % 4 := by omega
      have hq : j / 4 < ((List.range len).map X).length := by rw [hlen]; omega
      rw [hd, flat_get Ln.len _ (j / 4) hq (j % 4) (by omega)]
      have hget : ((List.range len).map X)[j / 4] = X (j / 4) := by simp
      rw [hget, ← (hX (j / 4) (by omega)).2 (j % 4) (by omega), ← hd]
      unfold Addr.add
      split
      · rename_i hz; rw [hz]; simp
      · rfl
set_option maxRecDepth 100000 in
theorem open_cmd15 {fuel : Nat} {c0 c1 c2 c3 c4 c5 c6 c7 c8 c9 c10 c11 c12 c13 c14 : Value} {y : DataW H × List MemPlace} (hf : DataW.trod enc Try.prog w base spare held fuel 33 [c0, c1, c2, c3, c4, c5, c6, c7, c8, c9, c10, c11, c12, c13, c14] = some y) :
    ∃ (c : Cm) (a : Option Addr) (cap : Nat) (ls : List Ln), [c0, c1, c2, c3, c4, c5, c6, c7, c8, c9, c10, c11, c12, c13, c14] = c.cells (.slice a ls.length cap) ∧ c.In ∧ LnIn ls ∧ ls.length ≤ cap ∧ cap ≤ maxLen ∧ SlS Ln.cells 4 w (.slice a ls.length cap) ls := by
    obtain ⟨xs, n, _, hx, _, hlen, hg⟩ := DataW.trod_struct Try.underlying33 hf
    have ki : Try.prog.cellsOf 3 = 1 := by kernel_rfl
    have ks : Try.prog.cellsOf 9 = 1 := by kernel_rfl
    have kd : Try.prog.cellsOf 26 = 3 := by kernel_rfl
    have kr : Try.prog.cellsOf 28 = 5 := by kernel_rfl
    have kf : Try.prog.cellsOf 31 = 2 := by kernel_rfl
    have kl : Try.prog.cellsOf 29 = 1 := by kernel_rfl
    match xs, hlen with
    | [y0, y1, y2, y3, y4, y5, y6, y7], _ =>
      have g0 : DataW.trod enc Try.prog w base spare held n 3 [c0] = some y0 := by simpa [Value.cells, ki] using hg 0 _ rfl
      have g1 : DataW.trod enc Try.prog w base spare held n 9 [c1] = some y1 := by simpa [Value.cells, ks] using hg 1 _ rfl
      have g2 : DataW.trod enc Try.prog w base spare held n 3 [c2] = some y2 := by simpa [Value.cells, ki] using hg 2 _ rfl
      have g3 : DataW.trod enc Try.prog w base spare held n 28 [c3, c4, c5, c6, c7] = some y3 := by simpa [Value.cells, kr] using hg 3 _ rfl
      have g4 : DataW.trod enc Try.prog w base spare held n 26 [c8, c9, c10] = some y4 := by simpa [Value.cells, kd] using hg 4 _ rfl
      have g5 : DataW.trod enc Try.prog w base spare held n 29 [c11] = some y5 := by simpa [Value.cells, kl] using hg 5 _ rfl
      have g6 : DataW.trod enc Try.prog w base spare held n 31 [c12, c13] = some y6 := by simpa [Value.cells, kf] using hg 6 _ rfl
      have g7 : DataW.trod enc Try.prog w base spare held n 3 [c14] = some y7 := by simpa [Value.cells, ki] using hg 7 _ rfl
      obtain ⟨rs, nr, _, _, _, hrl, hr⟩ := DataW.trod_struct Try.underlying28 g3
      obtain ⟨ds, nd, _, _, _, hdl, hd⟩ := DataW.trod_struct Try.underlying26 g4
      obtain ⟨fs, nf, _, _, _, hfl, hff⟩ := DataW.trod_struct Try.underlying31 g6
      match rs, hrl, ds, hdl, fs, hfl with
      | [r0, r1, r2], _, [d0, d1, d2], _, [f0, f1], _ =>
        have i0 : DataW.trod enc Try.prog w base spare held nr 9 [c3] = some r0 := by simpa [ks] using hr 0 _ rfl
        have i1 : DataW.trod enc Try.prog w base spare held nr 26 [c4, c5, c6] = some r1 := by simpa [kd] using hr 1 _ rfl
        have i2 : DataW.trod enc Try.prog w base spare held nr 3 [c7] = some r2 := by simpa [ki] using hr 2 _ rfl
        have j0 : DataW.trod enc Try.prog w base spare held nd 3 [c8] = some d0 := by simpa [ki] using hd 0 _ rfl
        have j1 : DataW.trod enc Try.prog w base spare held nd 3 [c9] = some d1 := by simpa [ki] using hd 1 _ rfl
        have j2 : DataW.trod enc Try.prog w base spare held nd 3 [c10] = some d2 := by simpa [ki] using hd 2 _ rfl
        have o0 : DataW.trod enc Try.prog w base spare held nf 9 [c12] = some f0 := by simpa [ks] using hff 0 _ rfl
        have o1 : DataW.trod enc Try.prog w base spare held nf 3 [c13] = some f1 := by simpa [ki] using hff 1 _ rfl
        obtain ⟨qs, nq, _, _, _, hql, hq⟩ := DataW.trod_struct Try.underlying26 i1
        match qs, hql with
        | [q0, q1, q2], _ =>
          have m0 : DataW.trod enc Try.prog w base spare held nq 3 [c4] = some q0 := by simpa [ki] using hq 0 _ rfl
          have m1 : DataW.trod enc Try.prog w base spare held nq 3 [c5] = some q1 := by simpa [ki] using hq 1 _ rfl
          have m2 : DataW.trod enc Try.prog w base spare held nq 3 [c6] = some q2 := by simpa [ki] using hq 2 _ rfl
          obtain ⟨b0, e0, _, w0⟩ := DataW.trod_int Try.underlying3 g0
          obtain ⟨b1, e1, _⟩ := DataW.trod_string Try.underlying9 g1
          obtain ⟨b2, e2, _, w2⟩ := DataW.trod_int Try.underlying3 g2
          obtain ⟨b3, e3, _⟩ := DataW.trod_string Try.underlying9 i0
          obtain ⟨b4, e4, _, w4⟩ := DataW.trod_int Try.underlying3 m0
          obtain ⟨b5, e5, _, w5⟩ := DataW.trod_int Try.underlying3 m1
          obtain ⟨b6, e6, _, w6⟩ := DataW.trod_int Try.underlying3 m2
          obtain ⟨b7, e7, _, w7⟩ := DataW.trod_int Try.underlying3 i2
          obtain ⟨b8, e8, _, w8⟩ := DataW.trod_int Try.underlying3 j0
          obtain ⟨b9, e9, _, w9⟩ := DataW.trod_int Try.underlying3 j1
          obtain ⟨b10, e10, _, w10⟩ := DataW.trod_int Try.underlying3 j2
          obtain ⟨b12, e12, _⟩ := DataW.trod_string Try.underlying9 o0
          obtain ⟨b13, e13, _, w13⟩ := DataW.trod_int Try.underlying3 o1
          obtain ⟨b14, e14, _, w14⟩ := DataW.trod_int Try.underlying3 g7
          simp only [List.cons.injEq, and_true] at e0 e1 e2 e3 e4 e5 e6 e7 e8 e9 e10 e12 e13 e14
          subst e0 e1 e2 e3 e4 e5 e6 e7 e8 e9 e10 e12 e13 e14
          obtain ⟨a, cap, ls, rfl, hlc, hcm, hin, hrd⟩ := open_lns g5
          exact ⟨⟨b0, b1, b2, b3, b4, b5, b6, b7, b8, b9, b10, b12, b13, b14⟩, a, cap, ls, rfl, ⟨wf_z64 w0, wf_z64 w2, wf_z64 w4, wf_z64 w5, wf_z64 w6, wf_z64 w7, wf_z64 w8, wf_z64 w9, wf_z64 w10, wf_z64 w13, wf_z64 w14⟩, hin, hlc, hcm, hrd⟩
set_option maxRecDepth 100000 in
theorem open_call {r : Reach} {B0 : Nat} {v : Value} {d : DataW H} {p : List MemPlace} (hv : Value.okWide Try.prog w r B0 35 v) (h : DataW.Trod enc Try.prog w base spare held 35 v d p) :
    ∃ (s q : Int) (c : Cm) (a : Option Addr) (cap : Nat) (ls : List Ln), v = Cal.agg s q c (.slice a ls.length cap) ∧ Z64 s ∧ Z64 q ∧ c.In ∧ LnIn ls ∧ ls.length ≤ cap ∧ cap ≤ maxLen ∧ SlS Ln.cells 4 w (.slice a ls.length cap) ls := by
  obtain ⟨cs, rfl, hsz⟩ := okWide_struct Try.underlying35 hv
  have hC : Try.prog.cellsOf 35 = 17 := by kernel_rfl
  obtain ⟨l⟩ := cs
  match l, hsz.trans hC with
  | [a0, a1, c0, c1, c2, c3, c4, c5, c6, c7, c8, c9, c10, c11, c12, c13, c14], _ =>
    obtain ⟨fuel, hf⟩ := h
    obtain ⟨xs, n, _, hx, _, hlen, hg⟩ := DataW.trod_struct Try.underlying35 hf
    have ki : Try.prog.cellsOf 3 = 1 := by kernel_rfl
    have kc : Try.prog.cellsOf 33 = 15 := by kernel_rfl
    match xs, hlen with
    | [y0, y1, y2], _ =>
      have g0 : DataW.trod enc Try.prog w base spare held n 3 [a0] = some y0 := by simpa [Value.cells, ki] using hg 0 _ rfl
      have g1 : DataW.trod enc Try.prog w base spare held n 3 [a1] = some y1 := by simpa [Value.cells, ki] using hg 1 _ rfl
      have g2 : DataW.trod enc Try.prog w base spare held n 33 [c0, c1, c2, c3, c4, c5, c6, c7, c8, c9, c10, c11, c12, c13, c14] = some y2 := by simpa [Value.cells, ki, kc] using hg 2 _ rfl
      obtain ⟨b0, e0, _, w0⟩ := DataW.trod_int Try.underlying3 g0
      obtain ⟨b1, e1, _, w1⟩ := DataW.trod_int Try.underlying3 g1
      obtain ⟨c, a, cap, ls, he, h1, h2, h3, h4, h5⟩ := open_cmd15 g2
      simp only [List.cons.injEq, and_true] at e0 e1
      subst e0 e1
      refine ⟨b0, b1, c, a, cap, ls, ?_, wf_z64 w0, wf_z64 w1, h1, h2, h3, h4, h5⟩
      unfold Cm.cells at he
      simp only [List.cons.injEq, and_true] at he
      obtain ⟨rfl, rfl, rfl, rfl, rfl, rfl, rfl, rfl, rfl, rfl, rfl, rfl, rfl, rfl, rfl⟩ := he
      rfl
end
end Go.Proofs.Ytochgmpcdmahkaa
