/- Lists of structs as rows of cells: what stands at a place; an element stored. No function of the program is named. -/
import Derived.Test.YtochgmpcdmahkaaCopy
import Derived.Test.YtochgmpcdmahkaaKeep
namespace Go.Proofs.Ytochgmpcdmahkaa
open Go.RowKit

section
variable {α : Type} {c : α → List Value} {sz : Nat}
theorem flat_len (hc : ∀ x, (c x).length = sz) : ∀ xs : List α, (xs.flatMap c).length = xs.length * sz
  | [] => by simp
  | x :: xs => by rw [List.flatMap_cons, List.length_append, hc, flat_len hc xs, List.length_cons, Nat.succ_mul, Nat.add_comm]
theorem flat_drop (hc : ∀ x, (c x).length = sz) : ∀ (xs : List α) (i : Nat), (xs.flatMap c).drop (i * sz) = (xs.drop i).flatMap c
  | xs, 0 => by simp
  | [], i + 1 => by simp
  | x :: xs, i + 1 => by
    rw [List.flatMap_cons, List.drop_succ_cons, ← flat_drop hc xs i, Nat.succ_mul, Nat.add_comm, ← List.drop_drop]
    rw [show (c x ++ xs.flatMap c).drop sz = xs.flatMap c from by rw [← hc x]; exact List.drop_left]
theorem flat_take (hc : ∀ x, (c x).length = sz) : ∀ (xs : List α) (i : Nat), (xs.flatMap c).take (i * sz) = (xs.take i).flatMap c
  | xs, 0 => by simp
  | [], i + 1 => by simp
  | x :: xs, i + 1 => by
    rw [List.flatMap_cons, List.take_succ_cons, List.flatMap_cons, ← flat_take hc xs i, Nat.succ_mul, Nat.add_comm, List.take_add]
    rw [show (c x ++ xs.flatMap c).take sz = c x from by rw [← hc x]; exact List.take_left, show (c x ++ xs.flatMap c).drop sz = xs.flatMap c from by rw [← hc x]; exact List.drop_left]
theorem flat_get (hc : ∀ x, (c x).length = sz) (xs : List α) (i : Nat) (h : i < xs.length) (j : Nat) (hj : j < sz) : (xs.flatMap c)[i * sz + j]? = (c xs[i])[j]? := by
  rw [← List.getElem?_drop, flat_drop hc, List.drop_eq_getElem_cons h, List.flatMap_cons, List.getElem?_append_left (by rw [hc]; exact hj)]
end

/-- Structs that a slice reads as: elements of sz cells each. -/
def SlS {α : Type} (c : α → List Value) (sz : Nat) (w : World) (v : Value) (xs : List α) : Prop := SlR w w.heap.size sz v xs.length (xs.flatMap c)
section
variable {α : Type} {c : α → List Value} {sz : Nat} {w w' : World} {v : Value} {xs : List α}
theorem SlS.ext (h : SlS c sz w v xs) (hx : Ext w w') : SlS c sz w' v xs := (SlR.ext h hx).up hx.size
theorem SlS.nil : SlS c sz w (.slice none 0 0) [] := SlR.nil _ _ _
theorem SlS.form (h : SlS c sz w v xs) : ∃ a cap, v = .slice a xs.length cap := by
  obtain ⟨_, _, a, cap, h, _⟩ := h
  exact ⟨a, cap, h⟩
/-- The cells of element i. -/
theorem SlS.at_ {a : Option Addr} {n cap : Nat} (hc : ∀ x, (c x).length = sz) (h : SlS c sz w (.slice a n cap) xs) (hn : 0 < xs.length) (hsz : 0 < sz) : ∃ b off, a = some ⟨b, off, none⟩ ∧ b < w.heap.size ∧
    ∀ k (hk : k < xs.length) j, j < sz → w.cell? ⟨b, off + k * sz + j, none⟩ = (c xs[k])[j]? := by
  obtain ⟨h1, _, a', cap', he, h3⟩ := h
  simp only [Value.slice.injEq] at he
  obtain ⟨rfl, rfl, rfl⟩ := he
  rcases h3 with h0 | ⟨b, off, rfl, hb, hcell⟩
  · omega
  · refine ⟨b, off, rfl, hb, fun k hk j hj => ?_⟩
    have hlt : k * sz + j < xs.length * sz := by
      have : (k + 1) * sz ≤ xs.length * sz := Nat.mul_le_mul_right _ hk
      rw [Nat.succ_mul] at this
      omega
    rw [Nat.add_assoc, hcell _ hlt, flat_get hc xs k hk j hj]
theorem SlS.cut {a : Option Addr} {n cap : Nat} (hc : ∀ x, (c x).length = sz) (h : SlS c sz w (.slice a n cap) xs) (k : Nat) (hk : k ≤ xs.length) (cp : Nat) : SlS c sz w (.slice a k cp) (xs.take k) := by
  obtain ⟨h1, h2, a', cap', he, h3⟩ := h
  simp only [Value.slice.injEq] at he
  obtain ⟨rfl, rfl, rfl⟩ := he
  have hlen : (xs.take k).length = k := by simp; omega
  refine ⟨flat_len hc _, by omega, a, cp, by rw [hlen], ?_⟩
  rw [hlen]
  rcases h3 with h3 | ⟨b, off, rfl, hlt, hcell⟩
  · exact .inl (by omega)
  · by_cases hk0 : k = 0
    · exact .inl hk0
    · refine .inr ⟨b, off, rfl, hlt, fun j hj => ?_⟩
      have : k * sz ≤ xs.length * sz := Nat.mul_le_mul_right _ hk
      rw [hcell j (by omega), ← flat_take hc, List.getElem?_take_of_lt hj]
end

/-- Structs that the call owns. -/
def OwnS {α : Type} (c : α → List Value) (sz : Nat) (te : TypeId) (w : World) (B : Nat) (v : Value) (xs : List α) : Prop := w.ownsRow B te sz v xs.length (xs.flatMap c)
section
variable {α : Type} {c : α → List Value} {sz : Nat} {te : TypeId} {w w' : World} {B : Nat} {v : Value} {xs : List α}
theorem OwnS.rd (h : OwnS c sz te w B v xs) : SlS c sz w v xs := SlR.of_own h
theorem OwnS.ext (h : OwnS c sz te w B v xs) (hx : Ext w w') : OwnS c sz te w' B v xs := own_ext h hx
theorem OwnS.base {B' : Nat} (h : OwnS c sz te w B' v xs) (hb : B ≤ B') : OwnS c sz te w B v xs := own_base h hb
theorem OwnS.form (h : OwnS c sz te w B v xs) : ∃ a cap, v = .slice a xs.length cap ∧ xs.length ≤ cap ∧ cap ≤ maxLen := by
  rcases h.2 with ⟨rfl, h0⟩ | ⟨g, cap, cur, rfl, _, _, h5, h6, _⟩
  · exact ⟨none, 0, by rw [h0], by omega, Nat.zero_le _⟩
  · exact ⟨_, _, rfl, h5, h6⟩
end

/-- A slice that reads as cells, as what an append or a copy takes. -/
theorem src_sl {P : Program} {w : World} {B n size : Nat} {v : Value} {xs : List Value} {t e : TypeId} (ht : P.underlying t = some (.slice e)) (h : SlR w B size v n xs) (h1 : ∀ u ∈ xs, u.oneCell' = true) : Src P size t v n xs w := by
  obtain ⟨hl, _, a, cap, rfl, h⟩ := h
  rcases h with rfl | ⟨b, off, rfl, _, hc⟩
  · have hx : xs = [] := List.eq_nil_of_length_eq_zero (by simpa using hl)
    subst hx
    cases a with
    | none => exact Src.ofNil _ ht cap
    | some ad => exact Src.ofSlice _ ht ad 0 cap [] (by simp) (fun j u hj => by simp at hj) (fun u hu => by cases hu)
  · refine Src.ofSlice _ ht _ n cap xs hl (fun j u hj => ?_) h1
    have hj' : j < xs.length := by
      rcases Nat.lt_or_ge j xs.length with h | h
      · exact h
      · rw [List.getElem?_eq_none h] at hj; cases hj
    have e1 : (⟨b, off, none⟩ : Addr).add j = ⟨b, off + j, none⟩ := by unfold Addr.add; split <;> simp_all
    rw [e1, hc j (by omega)]
    exact hj
/-- Zeroed cells are zero elements. -/
theorem made_flat {α : Type} {c : α → List Value} {sz : Nat} (hc : ∀ x, (c x).length = sz) (z : α) (n : Nat) (hsz : 0 < sz) : (madeCells (c z).toArray (n * sz)).toList = (List.replicate n z).flatMap c := by
  apply List.ext_getElem?
  intro i
  by_cases h : i < n * sz
  · have hq : i / sz < n := Nat.div_lt_of_lt_mul (by rw [Nat.mul_comm]; exact h)
    have hr : i % sz < sz := Nat.mod_lt _ hsz
    have e : i = i / sz * sz + i % sz := by rw [Nat.mul_comm]; exact (Nat.div_add_mod i sz).symm
    have hg := flat_get hc (List.replicate n z) (i / sz) (by simpa using hq) (i % sz) hr
    rw [← e] at hg
    rw [hg, List.getElem_replicate]
    have hm : i % sz < (c z).length := by rw [hc]; exact hr
    simp [madeCells, h, hc, hm, List.getElem?_eq_getElem hm]
  · rw [List.getElem?_eq_none (by simp [madeCells]; omega), List.getElem?_eq_none (by rw [flat_len hc]; simp; omega)]

/-- The cells of element k of an own row. -/
theorem OwnS.at_ {α : Type} {c : α → List Value} {sz : Nat} {te : TypeId} {w : World} {B g n cap : Nat} {xs : List α} (hc : ∀ x, (c x).length = sz) (h : OwnS c sz te w B (.slice (some ⟨g, 0, none⟩) n cap) xs) (hn : n = xs.length) (k : Nat) (hk : k < xs.length) :
    (∀ j, j < sz → w.cell? ⟨g, k * sz + j, none⟩ = (c xs[k])[j]? ∧ w.frozen? ⟨g, k * sz + j, none⟩ = false) ∧ (0 < sz → B ≤ g ∧ g < w.heap.size) := by
  subst hn
  unfold OwnS at h
  have hh : ∀ j (hj : j < sz), (xs.flatMap c)[k * sz + j]? = some ((c xs[k])[j]'(by rw [hc]; exact hj)) := fun j hj => by
    rw [flat_get hc xs k hk j hj, List.getElem?_eq_getElem]
  refine ⟨fun j hj => ?_, fun hs => ?_⟩
  · obtain ⟨h1, h2, _⟩ := own_at h _ _ (hh j hj)
    exact ⟨h1.trans (List.getElem?_eq_getElem _).symm, h2⟩
  · obtain ⟨_, _, h3, h4⟩ := own_at h _ _ (hh 0 hs)
    exact ⟨h3, h4⟩
theorem flat_set {α : Type} {c : α → List Value} {sz : Nat} (hc : ∀ x, (c x).length = sz) (xs : List α) (k : Nat) (hk : k < xs.length) (y : α) : (xs.set k y).flatMap c = (xs.flatMap c).take (k * sz) ++ (c y ++ (xs.flatMap c).drop ((k + 1) * sz)) := by
  rw [flat_take hc, flat_drop hc, List.set_eq_take_append_cons_drop, if_pos hk, List.flatMap_append, List.flatMap_cons]
/-- Three cells stored at element k's place. -/
theorem OwnS.set3 {α : Type} {c : α → List Value} {te : TypeId} {w : World} {B g n cap : Nat} {xs : List α} (hc : ∀ x, (c x).length = 3) (h : OwnS c 3 te w B (.slice (some ⟨g, 0, none⟩) n cap) xs) (hn : n = xs.length) (k : Nat) (hk : k < xs.length) (y : α) (a b d : Value) (hy : c y = [a, b, d]) :
    OwnS c 3 te (((w.setCell ⟨g, k * 3, none⟩ a).setCell ⟨g, k * 3 + 1, none⟩ b).setCell ⟨g, k * 3 + 2, none⟩ d) B (.slice (some ⟨g, 0, none⟩) n cap) (xs.set k y) := by
  subst hn
  unfold OwnS at *
  have hl := flat_len hc xs
  have hlt : (k + 1) * 3 ≤ xs.length * 3 := Nat.mul_le_mul_right _ hk
  rw [List.length_set, flat_set hc xs k hk y, hy]
  generalize xs.flatMap c = F at *
  have h1 := own_set h (k * 3) a (by omega)
  have h2 := own_set h1 (k * 3 + 1) b (by simp only [List.length_set]; omega)
  have h3 := own_set h2 (k * 3 + 2) d (by simp only [List.length_set]; omega)
  have e : ((F.set (k * 3) a).set (k * 3 + 1) b).set (k * 3 + 2) d = F.take (k * 3) ++ ([a, b, d] ++ F.drop ((k + 1) * 3)) := by
    apply List.ext_getElem?
    intro i
    have hi : i < k * 3 ∨ i = k * 3 ∨ i = k * 3 + 1 ∨ i = k * 3 + 2 ∨ k * 3 + 3 ≤ i := by omega
    have htl : (F.take (k * 3)).length = k * 3 := by rw [List.length_take]; omega
    rcases hi with hi | rfl | rfl | rfl | hi
    · rw [List.getElem?_set_ne (by omega), List.getElem?_set_ne (by omega), List.getElem?_set_ne (by omega), List.getElem?_append_left (by omega), List.getElem?_take_of_lt hi]
    · rw [List.getElem?_set_ne (by omega), List.getElem?_set_ne (by omega), List.getElem?_set_self (by omega), List.getElem?_append_right (by omega), htl]; simp
    · rw [List.getElem?_set_ne (by omega), List.getElem?_set_self (by simp only [List.length_set]; omega), List.getElem?_append_right (by omega), htl]; simp
    · rw [List.getElem?_set_self (by simp only [List.length_set]; omega), List.getElem?_append_right (by omega), htl]; simp
    · rw [List.getElem?_set_ne (by omega), List.getElem?_set_ne (by omega), List.getElem?_set_ne (by omega), List.getElem?_append_right (by omega), htl, List.getElem?_append_right (by simp; omega), List.getElem?_drop]
      congr 1
      simp
      omega
  rw [← e]
  exact h3

theorem str_ne (a b : ByteArray) (h : ¬ a = b) : (a.toList == b.toList) = false := by
  rw [beq_eq_false_iff_ne]
  intro h2
  apply h
  rw [ByteArray.toList_eq, ByteArray.toList_eq] at h2
  exact ByteArray.ext (Array.toList_inj.1 h2)
theorem take_splice {α : Type} (L c : List α) (a m : Nat) (h1 : a + c.length ≤ m) (h2 : m ≤ L.length) : (L.take a ++ c ++ L.drop (a + c.length)).take m = (L.take m).take a ++ (c ++ (L.take m).drop (a + c.length)) := by
  have hP : (L.take m).length = m := by rw [List.length_take]; omega
  have hL : L = L.take m ++ L.drop m := (List.take_append_drop m L).symm
  generalize L.take m = A at *
  generalize L.drop m = B at *
  subst hL
  have x1 : (A ++ B).take a = A.take a := List.take_append_of_le_length (by omega)
  have x2 : (A ++ B).drop (a + c.length) = A.drop (a + c.length) ++ B := List.drop_append_of_le_length (by omega)
  rw [x1, x2, ← List.append_assoc]
  have : (A.take a ++ c ++ A.drop (a + c.length)).length = m := by rw [List.length_append, List.length_append, List.length_take, List.length_drop]; omega
  rw [← this, List.take_left, List.append_assoc]
/-- An element's cells stored at its place. -/
theorem OwnS.setN {α : Type} {c : α → List Value} {sz : Nat} {te : TypeId} {w w' : World} {B g n cap : Nat} {xs : List α} (hc : ∀ x, (c x).length = sz) (h : OwnS c sz te w B (.slice (some ⟨g, 0, none⟩) n cap) xs) (hn : n = xs.length) (k : Nat) (hk : k < xs.length) (y : α) (hw : w.setCells g (k * sz) (c y) = w') :
    OwnS c sz te w' B (.slice (some ⟨g, 0, none⟩) n cap) (xs.set k y) := by
  subst hn hw
  have hle : (k + 1) * sz ≤ xs.length * sz := Nat.mul_le_mul_right _ hk
  obtain ⟨h1, h2⟩ := h
  rcases h2 with ⟨h0, _⟩ | ⟨g', cap', cur, he, hB, hh, hc1, hc2, hc3, ht⟩
  · cases h0
  simp only [Value.slice.injEq, Option.some.injEq, Addr.mk.injEq, true_and, and_true] at he
  obtain ⟨rfl, rfl⟩ := he
  have hcs : xs.length * sz ≤ cur.size := by
    have : xs.length * sz ≤ cap * sz := Nat.mul_le_mul_right _ hc1
    omega
  have e0 : (k + 1) * sz = k * sz + (c y).length := by rw [hc, Nat.succ_mul]
  obtain ⟨cur', e1, e2, e3⟩ := heap_setCells_at g te (c y) (k * sz) w cur hh (by omega)
  refine ⟨(flat_len hc _).trans (by rw [List.length_set]), .inr ⟨g, cap, cur', by rw [List.length_set], hB, e1, by rw [List.length_set]; exact hc1, hc2, by rw [e2]; exact hc3, ?_⟩⟩
  rw [e3, flat_set hc xs k hk y, ← ht, List.length_set, e0]
  exact take_splice _ _ _ _ (by omega) (by simpa using hcs)

/-- Three cells stored at an element's place. -/
theorem set3 (pre post : List Value) (a b c a' b' c' : Value) : (((pre ++ (a :: b :: c :: post)).set pre.length a').set (pre.length + 1) b').set (pre.length + 2) c' = pre ++ (a' :: b' :: c' :: post) := by
  rw [List.set_append_right _ _ (Nat.le_refl _), List.set_append_right _ _ (by omega), List.set_append_right _ _ (by omega)]
  simp

end Go.Proofs.Ytochgmpcdmahkaa
