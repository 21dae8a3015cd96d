/- 'copy' into a row that the call owns, from any source, whatever the elements' size; stores into own rows of bytes. No function of the program is named. -/
import Derived.Test.YtochgmpcdmahkaaOwn
namespace Go.Proofs.Ytochgmpcdmahkaa
open Go.RowKit
variable {P : Program}

theorem own_copy (w : World) (B : Nat) (t tx ty e : TypeId) (i : TypeInfo) (size : Nat) (ht : P.underlying t = some (.slice e)) (hi : P.info? e = some i) (hsize : i.size = size) (hsz : 0 < size)
    (v : Value) (n : Nat) (xs : List Value) (hown : w.ownsRow B e size v n xs) (x : Value) (m : Nat) (news : List Value) (hs : Src P size tx x m news w) (hmn : m ≤ n) :
    ∃ w', (Builtin.copy_ #[t, tx] ty #[v, x]).run P w = .ok (goInt m) w' ∧ w'.ownsRow B e size v n (news ++ xs.drop (m * size)) ∧ Below B w w' := by
  subst hsize
  have hl := hs.newsLen
  have hmin : Nat.min m n = m := Nat.min_eq_left hmn
  rcases hown.2 with ⟨rfl, rfl⟩ | ⟨g, cap, cur, rfl, hbg, hg, hnc, hcm, hcs, htake⟩
  · obtain rfl : m = 0 := by omega
    have hn0 : news = [] := List.eq_nil_of_length_eq_zero (by simpa using hl)
    have hx0 : xs = [] := List.eq_nil_of_length_eq_zero (by simpa using hown.1)
    subst hn0 hx0
    refine ⟨w, ?_, by simpa using World.ownsRow_nil w B e i.size, Below.refl _ _⟩
    have h1 := hs.cells
    have h2 := hs.len w
    rcases hs.kind with ⟨e', hk⟩ | hk <;>
      simp [Builtin.copy_, run_underlying ht, sizeOf, typeInfo, hi, h2, h1, hmin]
  · have hxl := hown.1
    have hle : m * i.size ≤ n * i.size := Nat.mul_le_mul_right _ hmn
    have hle2 : n * i.size ≤ cap * i.size := Nat.mul_le_mul_right _ hnc
    have hst := run_storeCells_cells (P := P) g 0 news 0 w (fun j hj => by
        have : j < cur.size := by omega
        simp [World.cell?, hg, this]) (fun j hj => by simp [World.frozen?, hg]) hs.one
    simp only [Nat.add_zero] at hst
    obtain ⟨cur', c1, c2, c3⟩ := heap_setCells_at g e news 0 w cur hg (by omega)
    have h1 := hs.cells
    have h2 := hs.len w
    refine ⟨w.setCells g 0 news, ?_, ⟨?_, .inr ⟨g, cap, cur', rfl, hbg, c1, hnc, hcm, by rw [c2]; exact hcs, ?_⟩⟩, below_setCells' g hbg _ _ (Below.refl _ _)⟩
    · rcases hs.kind with ⟨e', hk⟩ | hk <;>
        simp [Builtin.copy_, run_underlying ht, sizeOf, typeInfo, hi, h2, h1, hmin, hst]
    · rw [List.length_append, List.length_drop, hl, hxl]; omega
    · rw [c3, ← htake]
      simp only [List.take_zero, List.nil_append, Nat.zero_add]
      rw [hl, List.take_append, List.take_of_length_le (by omega), hl, List.drop_take]

/-- 'copy(dst, src)', dst owned, src any source that is not longer. -/
theorem wpList_own_copy (w : World) {ops : Array Oper} {rest : List Oper} {o : Oper} {a : Act} {Q : Exit → Act → World → Prop} (hgd : o.guard = none) (s x : Operand) (t tx : TypeId)
    (ho : o.op = .call { callee := .builtin .copy, args := #[s, x], argTypes := #[t, tx] }) (B : Nat) (e : TypeId) (i : TypeInfo) (size : Nat) (ht : P.underlying t = some (.slice e)) (hi : P.info? e = some i)
    (hsize : i.size = size) (hsz : 0 < size) (v xv : Value) (n m : Nat) (xs news : List Value)
    (hown : w.ownsRow B e size v n xs) (hsrc : Src P size tx xv m news w) (hs : a.eval s = v) (hx : a.eval x = xv) (hmn : m ≤ n)
    (h : ∀ w', w'.ownsRow B e size v n (news ++ xs.drop (m * size)) → Below B w w' → wpList P ops Q rest (a.put o.dst (goInt m)) w') : wpList P ops Q (o :: rest) a w := by
  refine wpList_plain hgd fun K hK => ?_
  obtain ⟨w', hr, h2, h3⟩ := own_copy (P := P) w B t tx o.type e i size ht hi hsize hsz v n xs hown xv m news hsrc hmn
  unfold Oper.wp execOp
  simp only [ho, resolve, invoke, builtin, Sem.run_bind, Sem.run_pure, Result.andThen_ok, List.map_toArray, List.map_cons, List.map_nil, hs, hx, hr]
  exact hK _ _ (h w' h2 h3)

/-! ### Cells of an own row -/
theorem own_at {w : World} {B e size n c : Nat} {g : Nat} {xs : List Value} (h : w.ownsRow B e size (.slice (some ⟨g, 0, none⟩) n c) n xs) (k : Nat) (u : Value) (hk : xs[k]? = some u) :
    w.cell? ⟨g, k, none⟩ = some u ∧ w.frozen? ⟨g, k, none⟩ = false ∧ B ≤ g ∧ g < w.heap.size := by
  obtain ⟨h1, h2⟩ := h
  rcases h2 with ⟨h0, _⟩ | ⟨g', cap, cur, he, h3, h4, h5, h6, h7, h8⟩
  · simp at h0
  · simp only [Value.slice.injEq, Option.some.injEq, Addr.mk.injEq, and_true, true_and] at he
    obtain ⟨rfl, rfl⟩ := he
    refine ⟨?_, by simp [World.frozen?, h4], h3, (Array.getElem?_eq_some_iff.1 h4).1⟩
    have hkl : k < xs.length := by
      rcases Nat.lt_or_ge k xs.length with h | h
      · exact h
      · rw [List.getElem?_eq_none h] at hk; cases hk
    rw [h1] at hkl
    rw [← h8, List.getElem?_take_of_lt hkl] at hk
    simpa [World.cell?, h4] using hk
theorem own_set {w : World} {B e size n c : Nat} {g : Nat} {xs : List Value} (h : w.ownsRow B e size (.slice (some ⟨g, 0, none⟩) n c) n xs) (k : Nat) (u : Value) (hk : k < xs.length) :
    (w.setCell ⟨g, k, none⟩ u).ownsRow B e size (.slice (some ⟨g, 0, none⟩) n c) n (xs.set k u) := by
  obtain ⟨h1, h2⟩ := h
  refine ⟨by simpa using h1, ?_⟩
  rcases h2 with ⟨h0, _⟩ | ⟨g', cap, cur, he, h3, h4, h5, h6, h7, h8⟩
  · simp at h0
  · simp only [Value.slice.injEq, Option.some.injEq, Addr.mk.injEq, and_true, true_and] at he
    obtain ⟨rfl, rfl⟩ := he
    refine .inr ⟨g, c, cur.setIfInBounds k u, rfl, h3, heap_setCell_same w g k cur e u h4, h5, h6, by simpa using h7, ?_⟩
    rw [Array.toList_setIfInBounds, List.take_set, h8]
theorem own8_at {te : TypeId} {w : World} {B g n c : Nat} {l : List UInt8} (h : Own8 te w B (.slice (some ⟨g, 0, none⟩) n c) l) (hn : n = l.length) (k : Nat) (hk : k < l.length) :
    w.cell? ⟨g, k, none⟩ = some (bcell l[k]) ∧ w.frozen? ⟨g, k, none⟩ = false ∧ B ≤ g ∧ g < w.heap.size := by
  subst hn
  exact own_at h k _ (by simp [hk])
theorem own8_set {te : TypeId} {w : World} {B g n c : Nat} {l : List UInt8} (h : Own8 te w B (.slice (some ⟨g, 0, none⟩) n c) l) (hn : n = l.length) (k : Nat) (b : UInt8) (hk : k < l.length) :
    Own8 te (w.setCell ⟨g, k, none⟩ (bcell b)) B (.slice (some ⟨g, 0, none⟩) n c) (l.set k b) := by
  subst hn
  unfold Own8 at *
  have := own_set h k (bcell b) (by simpa using hk)
  rw [List.map_set]
  simpa using this
end Go.Proofs.Ytochgmpcdmahkaa
