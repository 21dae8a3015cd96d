/- Package net: Twice, Deliver, Lose. (Written by genNetE.py.) -/
import Derived.Test.YtognipephfedkaaNetD
import Derived.Test.YtognipephfedkaaLetQ
namespace Go.Proofs.Ytognipephfedkaa
open Go.RowKit
section

theorem set13_keep {w : World} {b : Nat} {b0 b1 b2 b3 b4 b5 b6 b7 b8 b9 b10 b11 b12 : Value} : KeepR b w (((((((((((((w.setCell ⟨b, 0, none⟩ b0).setCell ⟨b, 1, none⟩ b1).setCell ⟨b, 2, none⟩ b2).setCell ⟨b, 3, none⟩ b3).setCell ⟨b, 4, none⟩ b4).setCell ⟨b, 5, none⟩ b5).setCell ⟨b, 6, none⟩ b6).setCell ⟨b, 7, none⟩ b7).setCell ⟨b, 8, none⟩ b8).setCell ⟨b, 9, none⟩ b9).setCell ⟨b, 10, none⟩ b10).setCell ⟨b, 11, none⟩ b11).setCell ⟨b, 12, none⟩ b12) := ((((((((((((((KeepR.refl b w).set (o := 0) b0).set (o := 1) b1).set (o := 2) b2).set (o := 3) b3).set (o := 4) b4).set (o := 5) b5).set (o := 6) b6).set (o := 7) b7).set (o := 8) b8).set (o := 9) b9).set (o := 10) b10).set (o := 11) b11).set (o := 12) b12)
theorem twice_ret (tm : Array Value) (W : World) (b : Nat) (v0 v1 v2 v3 v4 v5 v6 v7 v8 v9 v10 v11 v12 : Value) (ok : Bool) (ht : tm[4]? = some (.pointer (some ⟨b, 0, none⟩))) (h3 : tm[5]? = some (.bool ok)) (h : W.heap[b]? = some (.cells #[v0, v1, v2, v3, v4, v5, v6, v7, v8, v9, v10, v11, v12] 27 (0, 0))) :
    (results Try.f10 tm).run Try.prog W = .ok (.tuple #[.agg #[v0, v1, v2, v3, v4, v5, v6, v7, v8, v9, v10, v11, v12], .bool ok]) W := by
  obtain ⟨c0, _⟩ := blkG h 0 _ rfl
  obtain ⟨c1, _⟩ := blkG h 1 _ rfl
  obtain ⟨c2, _⟩ := blkG h 2 _ rfl
  obtain ⟨c3, _⟩ := blkG h 3 _ rfl
  obtain ⟨c4, _⟩ := blkG h 4 _ rfl
  obtain ⟨c5, _⟩ := blkG h 5 _ rfl
  obtain ⟨c6, _⟩ := blkG h 6 _ rfl
  obtain ⟨c7, _⟩ := blkG h 7 _ rfl
  obtain ⟨c8, _⟩ := blkG h 8 _ rfl
  obtain ⟨c9, _⟩ := blkG h 9 _ rfl
  obtain ⟨c10, _⟩ := blkG h 10 _ rfl
  obtain ⟨c11, _⟩ := blkG h 11 _ rfl
  obtain ⟨c12, _⟩ := blkG h 12 _ rfl
  simp [results, Try.results10, go_sem, ht, h3, c0, c1, c2, c3, c4, c5, c6, c7, c8, c9, c10, c11, c12]
theorem deliver_ret (tm : Array Value) (W : World) (b : Nat) (v0 v1 v2 v3 v4 v5 v6 v7 v8 v9 v10 v11 v12 : Value) (ok : Bool) (ht : tm[4]? = some (.pointer (some ⟨b, 0, none⟩))) (h3 : tm[5]? = some (.bool ok)) (h : W.heap[b]? = some (.cells #[v0, v1, v2, v3, v4, v5, v6, v7, v8, v9, v10, v11, v12] 27 (0, 0))) :
    (results Try.f11 tm).run Try.prog W = .ok (.tuple #[.agg #[v0, v1, v2, v3, v4, v5, v6, v7, v8, v9, v10, v11, v12], .bool ok]) W := by
  obtain ⟨c0, _⟩ := blkG h 0 _ rfl
  obtain ⟨c1, _⟩ := blkG h 1 _ rfl
  obtain ⟨c2, _⟩ := blkG h 2 _ rfl
  obtain ⟨c3, _⟩ := blkG h 3 _ rfl
  obtain ⟨c4, _⟩ := blkG h 4 _ rfl
  obtain ⟨c5, _⟩ := blkG h 5 _ rfl
  obtain ⟨c6, _⟩ := blkG h 6 _ rfl
  obtain ⟨c7, _⟩ := blkG h 7 _ rfl
  obtain ⟨c8, _⟩ := blkG h 8 _ rfl
  obtain ⟨c9, _⟩ := blkG h 9 _ rfl
  obtain ⟨c10, _⟩ := blkG h 10 _ rfl
  obtain ⟨c11, _⟩ := blkG h 11 _ rfl
  obtain ⟨c12, _⟩ := blkG h 12 _ rfl
  simp [results, Try.results11, go_sem, ht, h3, c0, c1, c2, c3, c4, c5, c6, c7, c8, c9, c10, c11, c12]
/-- What is told of a number. -/
def placeI (N : List Let) (k : Int) : Nat := (placeN k N.length).toNat
theorem placeI_lt (N : List Let) (k : Int) (h : N.length ≠ 0) : placeI N k < N.length := by
  have := placeN_bd k N.length h
  unfold placeI
  omega
theorem placeN_is (N : List Let) (k : Int) (h : N.length ≠ 0) : placeN k N.length = ((placeI N k : Nat) : Int) := by
  have := placeN_bd k N.length h
  unfold placeI
  omega
def askOf (N : List Let) (side k : Int) : Option Let := match N[placeI N k]? with
  | none => none
  | some p => if cutB side p.1.fr p.1.to = true then none else some p
theorem ask_cases (N : List Let) (side k : Int) : N.length = 0 ∧ askOf N side k = none ∨ ∃ h : placeI N k < N.length, N.length ≠ 0 ∧ ((cutB side (N[placeI N k]).1.fr (N[placeI N k]).1.to = true ∧ askOf N side k = none) ∨ (cutB side (N[placeI N k]).1.fr (N[placeI N k]).1.to = false ∧ askOf N side k = some N[placeI N k])) := by
  by_cases h : N.length = 0
  · left
    refine ⟨h, ?_⟩
    unfold askOf
    rw [List.getElem?_eq_none (by omega)]
  · right
    refine ⟨placeI_lt N k h, h, ?_⟩
    unfold askOf
    rw [List.getElem?_eq_getElem (placeI_lt N k h)]
    simp only []
    cases hc : cutB side (N[placeI N k]'(placeI_lt N k h)).1.fr (N[placeI N k]'(placeI_lt N k h)).1.to
    · exact .inr ⟨rfl, by rw [if_neg (by decide)]⟩
    · exact .inl ⟨rfl, by rw [if_pos rfl]⟩
def Told (side : Int) (N : List Let) (k : Int) (w : World) (e : Ending) (w' : World) : Prop :=
  (askOf N side k = none ∧ e = .returned (.tuple #[Lt.z.agg (.slice none 0 0), .bool false])) ∨
  (∃ p, askOf N side k = some p ∧ ∃ a c, e = .returned (.tuple #[p.1.agg (.slice a p.2.length c), .bool true]) ∧ OwnS Ent.cells 3 49 w' w.heap.size (.slice a p.2.length c) p.2)
section
variable {T : TypeId} {S : Nat → Prop} {w y z : World} {b g : Nat} {side : Int} {v : Value} {vs : List Value} {ls : List (List UInt8)}
/-- An element taken out of the row, the struct told. -/
theorem NI.del {n c : Nat} (h : NI T S w b ls side (.slice (some ⟨g, 0, none⟩) n c) vs) (hn : n = ls.length) (i : Nat) (hi : i < n) (hk : KeepR g w y) (ho : y.ownsRow 0 53 1 (.slice (some ⟨g, 0, none⟩) (n - 1) c) (n - 1) (vs.take i ++ vs.drop (i + 1))) :
    NI T S (y.setCell ⟨b, 0, none⟩ (.slice (some ⟨g, 0, none⟩) (n - 1) c)) b (ls.eraseIdx i) side (.slice (some ⟨g, 0, none⟩) (n - 1) c) (vs.eraseIdx i) ∧ KeepS S w (y.setCell ⟨b, 0, none⟩ (.slice (some ⟨g, 0, none⟩) (n - 1) c)) := by
  obtain ⟨hg1, hg2⟩ := h.sv _ _ _ rfl
  have hg2' : b ≠ g := Ne.symm hg2
  have hK : KeepS S w (y.setCell ⟨b, 0, none⟩ (.slice (some ⟨g, 0, none⟩) (n - 1) c)) :=
    (KeepS.of_keep hk hg1).trans (KeepS.of_keep ((KeepR.refl b y).set (o := 0) _) h.sb)
  have hlen : (ls.eraseIdx i).length = n - 1 := by rw [List.length_eraseIdx_of_lt (by omega)]; omega
  have hvl := h.len
  refine ⟨⟨fun k hs => Nat.lt_of_lt_of_le (h.low k hs) hK.size, h.sb, heap_setCell_same _ _ 0 _ _ _ (keep_blk hk h.blk hg2'), ?_, ?_, fun j hj => ?_⟩, hK⟩
  · rw [hlen, List.eraseIdx_eq_take_drop_succ]
    exact own_keepE ho (fun a m c' he => by cases he; exact Below.heap_setCell _ _ _ _ hg2)
  · intro a m c' he
    cases he
    exact ⟨hg1, hg2⟩
  · rw [hlen] at hj
    have hget : ∀ {α : Type} (xs : List α), (xs.eraseIdx i)[j]? = if j < i then xs[j]? else xs[j + 1]? := fun xs => List.getElem?_eraseIdx ..
    obtain ⟨j', hj', e1, e2⟩ : ∃ j', ∃ h' : j' < ls.length, (ls.eraseIdx i)[j]'(by omega) = ls[j'] ∧ (vs.eraseIdx i)[j]? = vs[j']? := by
      have e1 := hget ls
      rw [List.getElem?_eq_getElem (by omega)] at e1
      by_cases hji : j < i
      · rw [if_pos hji, List.getElem?_eq_getElem (by omega)] at e1
        exact ⟨j, by omega, by simpa using e1, by rw [hget vs, if_pos hji]⟩
      · rw [if_neg hji, List.getElem?_eq_getElem (by omega)] at e1
        exact ⟨j + 1, by omega, by simpa using e1, by rw [hget vs, if_neg hji]⟩
    obtain ⟨u, h1, h2⟩ := h.rows j' hj'
    refine ⟨u, e2.trans h1, ?_⟩
    rw [e1]
    refine ⟨rd8_keep h2.rd hK.size (fun a m c' he => ?_), fun a m c' he => ?_, h2.one⟩
    · obtain ⟨q1, q2, q3⟩ := h2.is a m c' he
      exact (Below.heap_setCell _ _ _ _ q2).trans (hk.block _ (h.low _ q1) (fun hh => q3 _ _ _ rfl hh.symm))
    · obtain ⟨q1, q2, q3⟩ := h2.is a m c' he
      exact ⟨q1, q2, fun a' m' c'' he' => by cases he'; exact q3 _ _ _ rfl⟩
theorem NI.hone {N : List Let} (h : NI T S w b (byL N) side v vs) : ∀ u ∈ vs, u.oneCell' = true := by
  intro u hu
  obtain ⟨i, hi, rfl⟩ := List.getElem_of_mem hu
  obtain ⟨u', h1, h2⟩ := h.rows i (by rw [← h.len]; exact hi)
  rw [List.getElem?_eq_getElem hi] at h1
  cases h1
  exact h2.one
theorem fin13_net {r : Nat} {b0 b1 b2 b3 b4 b5 b6 b7 b8 b9 b10 b11 b12 : Value} (hlow : ∀ k, S k → k < w.heap.size) (hr : w.heap.size ≤ r) (h : NI T S z b ls side v vs) (hk : KeepS S w z) : NetP T (up S w (((((((((((((z.setCell ⟨r, 0, none⟩ b0).setCell ⟨r, 1, none⟩ b1).setCell ⟨r, 2, none⟩ b2).setCell ⟨r, 3, none⟩ b3).setCell ⟨r, 4, none⟩ b4).setCell ⟨r, 5, none⟩ b5).setCell ⟨r, 6, none⟩ b6).setCell ⟨r, 7, none⟩ b7).setCell ⟨r, 8, none⟩ b8).setCell ⟨r, 9, none⟩ b9).setCell ⟨r, 10, none⟩ b10).setCell ⟨r, 11, none⟩ b11).setCell ⟨r, 12, none⟩ b12)) (((((((((((((z.setCell ⟨r, 0, none⟩ b0).setCell ⟨r, 1, none⟩ b1).setCell ⟨r, 2, none⟩ b2).setCell ⟨r, 3, none⟩ b3).setCell ⟨r, 4, none⟩ b4).setCell ⟨r, 5, none⟩ b5).setCell ⟨r, 6, none⟩ b6).setCell ⟨r, 7, none⟩ b7).setCell ⟨r, 8, none⟩ b8).setCell ⟨r, 9, none⟩ b9).setCell ⟨r, 10, none⟩ b10).setCell ⟨r, 11, none⟩ b11).setCell ⟨r, 12, none⟩ b12) b ls side ∧ KeepS S w (((((((((((((z.setCell ⟨r, 0, none⟩ b0).setCell ⟨r, 1, none⟩ b1).setCell ⟨r, 2, none⟩ b2).setCell ⟨r, 3, none⟩ b3).setCell ⟨r, 4, none⟩ b4).setCell ⟨r, 5, none⟩ b5).setCell ⟨r, 6, none⟩ b6).setCell ⟨r, 7, none⟩ b7).setCell ⟨r, 8, none⟩ b8).setCell ⟨r, 9, none⟩ b9).setCell ⟨r, 10, none⟩ b10).setCell ⟨r, 11, none⟩ b11).setCell ⟨r, 12, none⟩ b12) := by
  have k13 : KeepS (fun q => q = r) z (((((((((((((z.setCell ⟨r, 0, none⟩ b0).setCell ⟨r, 1, none⟩ b1).setCell ⟨r, 2, none⟩ b2).setCell ⟨r, 3, none⟩ b3).setCell ⟨r, 4, none⟩ b4).setCell ⟨r, 5, none⟩ b5).setCell ⟨r, 6, none⟩ b6).setCell ⟨r, 7, none⟩ b7).setCell ⟨r, 8, none⟩ b8).setCell ⟨r, 9, none⟩ b9).setCell ⟨r, 10, none⟩ b10).setCell ⟨r, 11, none⟩ b11).setCell ⟨r, 12, none⟩ b12) := KeepS.of_keep set13_keep rfl
  refine ⟨⟨v, vs, ?_⟩, hk.after k13 (fun q hq he => by omega)⟩
  exact (h.keep k13 (fun q hs he => by have := hlow q hs; omega)).up (fun q hs => .inl hs) (up_low hlow (Nat.le_trans hk.size k13.size))
theorem byL_erase (N : List Let) (i : Nat) : byL (N.eraseIdx i) = (byL N).eraseIdx i := by
  unfold byL
  simp [List.eraseIdx_eq_take_drop_succ, List.map_take, List.map_drop]
end
section
variable {S : Nat → Prop} {w : World} {b : Nat} {side : Int} {N : List Let}
set_option maxHeartbeats 4000000 in
set_option maxRecDepth 100000 in
theorem twice_empty (h : NetP NT S w b (byL N) side) (hN : OkN N) (hs0 : 0 ≤ side) (hs1 : side ≤ 127) (hm : N.length ≤ 1000000) (k : Int) (h0 : N.length = 0) : Calls Try.prog 10 #[.pointer (some ⟨b, 0, none⟩), .int .i64 k] w fun e w' => e = .returned (.tuple #[.agg #[.int .i64 0, .int .i64 0, .int .i64 0, .int .i64 0, .int .i64 0, .int .i64 0, .int .i64 0, .int .i64 0, .int .i64 0, .int .i64 0, .bool false, .string ⟨#[]⟩, .slice none 0 0], .bool false]) ∧ Ext w w' := by
  have HPL := Lib.hid fun (z : World) (hz : Ext w z) => nplace (h.ext hz) k (by rw [byL_len]; exact hm)
  rw [byL_len] at HPL
  have hpl : placeN k N.length = -1 := by unfold placeN; rw [if_pos h0]
  rw [hpl] at HPL
  clear h hN hs0 hs1 hm h0 hpl
  go_enter Try.func10, Try.ntmps10
  go_wp2_with fail
  go_at_call 20
  refine (HPL.out _ ((Ext.refl w).alloc _)).mono ?_
  rintro e y ⟨rfl, rfl⟩
  go_wp2
  refine bodyPost_ret (v := .tuple #[.agg #[.int .i64 0, .int .i64 0, .int .i64 0, .int .i64 0, .int .i64 0, .int .i64 0, .int .i64 0, .int .i64 0, .int .i64 0, .int .i64 0, .bool false, .string ⟨#[]⟩, .slice none 0 0], .bool false]) ?_ rfl ⟨rfl, ?_⟩
  · simp [results, Try.results10, go_sem]
  · repeat (first | exact Ext.refl _ | assumption | refine Ext.trans ?_ (by assumption) | refine Ext.alloc ?_ _ | refine Ext.drew ?_ | refine Ext.drewN ?_ _)
set_option maxHeartbeats 4000000 in
set_option maxRecDepth 100000 in
theorem twice_cut (h : NetP NT S w b (byL N) side) (hN : OkN N) (hs0 : 0 ≤ side) (hs1 : side ≤ 127) (hm : N.length ≤ 1000000) (k : Int) (h0 : N.length ≠ 0) (hi : placeI N k < N.length) (hc : cutB side N[placeI N k].1.fr N[placeI N k].1.to = true) : Calls Try.prog 10 #[.pointer (some ⟨b, 0, none⟩), .int .i64 k] w fun e w' => e = .returned (.tuple #[.agg #[.int .i64 0, .int .i64 0, .int .i64 0, .int .i64 0, .int .i64 0, .int .i64 0, .int .i64 0, .int .i64 0, .int .i64 0, .int .i64 0, .bool false, .string ⟨#[]⟩, .slice none 0 0], .bool false]) ∧ Ext w w' := by
  have HPL := Lib.hid fun (z : World) (hz : Ext w z) => nplace (h.ext hz) k (by rw [byL_len]; exact hm)
  rw [byL_len] at HPL
  rw [placeN_is N k h0] at HPL
  have HT := Lib.hid fun (z : World) (hz : Ext w z) => told_1 (h.ext hz) hN hs0 hs1 (placeI N k) hi hm hc
  clear h hN hs0 hs1 hm hc
  generalize placeI N k = i at *
  have hi0 : ¬ (i : Int) < 0 := by omega
  go_enter Try.func10, Try.ntmps10
  go_wp2_with fail
  go_at_call 20
  refine (HPL.out _ ((Ext.refl w).alloc _)).mono ?_
  rintro e y ⟨rfl, rfl⟩
  go_wp2_with fail
  go_at_call 21
  refine (HT.out _ ((Ext.refl w).alloc _)).mono ?_
  rintro e x1 ⟨rfl, hx1⟩
  have Z1 := Lib.hid (ext_blk hx1 (new_blk w (.cells #[.int .i64 0, .int .i64 0, .int .i64 0, .int .i64 0, .int .i64 0, .int .i64 0, .int .i64 0, .int .i64 0, .int .i64 0, .int .i64 0, .bool false, .string ⟨#[]⟩, .slice none 0 0] 27)))
  have T1 : Hid (Ext w x1) := Lib.hid (((Ext.refl w).alloc _).trans hx1)
  clear hx1
  obtain ⟨i0, j0⟩ := blkG Z1.out 0 (.int .i64 0) rfl
  obtain ⟨i1, j1⟩ := blkG Z1.out 1 (.int .i64 0) rfl
  obtain ⟨i2, j2⟩ := blkG Z1.out 2 (.int .i64 0) rfl
  obtain ⟨i3, j3⟩ := blkG Z1.out 3 (.int .i64 0) rfl
  obtain ⟨i4, j4⟩ := blkG Z1.out 4 (.int .i64 0) rfl
  obtain ⟨i5, j5⟩ := blkG Z1.out 5 (.int .i64 0) rfl
  obtain ⟨i6, j6⟩ := blkG Z1.out 6 (.int .i64 0) rfl
  obtain ⟨i7, j7⟩ := blkG Z1.out 7 (.int .i64 0) rfl
  obtain ⟨i8, j8⟩ := blkG Z1.out 8 (.int .i64 0) rfl
  obtain ⟨i9, j9⟩ := blkG Z1.out 9 (.int .i64 0) rfl
  obtain ⟨i10, j10⟩ := blkG Z1.out 10 (.bool false) rfl
  obtain ⟨i11, j11⟩ := blkG Z1.out 11 (.string ⟨#[]⟩) rfl
  obtain ⟨i12, j12⟩ := blkG Z1.out 12 (.slice none 0 0) rfl
  have hz1 := blk_lt Z1.out
  go_wp2
  refine bodyPost_ret (v := .tuple #[.agg #[.int .i64 0, .int .i64 0, .int .i64 0, .int .i64 0, .int .i64 0, .int .i64 0, .int .i64 0, .int .i64 0, .int .i64 0, .int .i64 0, .bool false, .string ⟨#[]⟩, .slice none 0 0], .bool false]) (twice_ret _ _ w.heap.size _ _ _ _ _ _ _ _ _ _ _ _ _ _ rfl rfl (set13_blk Z1.out)) rfl ⟨rfl, ?_⟩
  exact set13_ext T1.out (Nat.le_refl _)
set_option maxHeartbeats 4000000 in
set_option maxRecDepth 100000 in
theorem twice_ok (h : NetP NT S w b (byL N) side) (hN : OkN N) (hs0 : 0 ≤ side) (hs1 : side ≤ 127) (hm : N.length ≤ 1000000) (k : Int) (h0 : N.length ≠ 0) (hi : placeI N k < N.length) (hc : cutB side N[placeI N k].1.fr N[placeI N k].1.to = false) : Calls Try.prog 10 #[.pointer (some ⟨b, 0, none⟩), .int .i64 k] w fun e w' => ∃ a c, e = .returned (.tuple #[N[placeI N k].1.agg (.slice a N[placeI N k].2.length c), .bool true]) ∧ OwnS Ent.cells 3 49 w' w.heap.size (.slice a N[placeI N k].2.length c) N[placeI N k].2 ∧ Ext w w' := by
  have HPL := Lib.hid fun (z : World) (hz : Ext w z) => nplace (h.ext hz) k (by rw [byL_len]; exact hm)
  rw [byL_len] at HPL
  rw [placeN_is N k h0] at HPL
  have HT := Lib.hid fun (z : World) (hz : Ext w z) => told_0 (h.ext hz) hN hs0 hs1 (placeI N k) hi hm hc
  generalize N[placeI N k] = p at *
  obtain ⟨m, es⟩ := p
  simp only at HT ⊢
  obtain ⟨n, hn⟩ : ∃ n, es.length = n := ⟨_, rfl⟩
  rw [hn] at HT ⊢
  obtain ⟨kind, fr, to, te, ix, at_, co, me, off, sz, yes, data⟩ := m
  simp only [Lt.agg] at HT ⊢
  clear h hN hs0 hs1 hm hc hn
  generalize placeI N k = i at *
  have hi0 : ¬ (i : Int) < 0 := by omega
  go_enter Try.func10, Try.ntmps10
  go_wp2_with fail
  go_at_call 20
  refine (HPL.out _ ((Ext.refl w).alloc _)).mono ?_
  rintro e y ⟨rfl, rfl⟩
  go_wp2_with fail
  go_at_call 21
  refine (HT.out _ ((Ext.refl w).alloc _)).mono ?_
  rintro e x1 ⟨a1, c1, rfl, ho, hx1⟩
  have Z1 := Lib.hid (ext_blk hx1 (new_blk w (.cells #[.int .i64 0, .int .i64 0, .int .i64 0, .int .i64 0, .int .i64 0, .int .i64 0, .int .i64 0, .int .i64 0, .int .i64 0, .int .i64 0, .bool false, .string ⟨#[]⟩, .slice none 0 0] 27)))
  have T1 : Hid (Ext w x1) := Lib.hid (((Ext.refl w).alloc _).trans hx1)
  have HO1 : OwnS Ent.cells 3 49 x1 (w.heap.size + 1) (.slice a1 n c1) es := by simpa using ho
  have HNB : ∀ a m c', Value.slice a1 n c1 = .slice (some a) m c' → a.block ≠ w.heap.size := fun a m c' he => Nat.ne_of_gt (own_blkE HO1 a m c' he).2
  clear hx1 ho
  obtain ⟨i0, j0⟩ := blkG Z1.out 0 (.int .i64 0) rfl
  obtain ⟨i1, j1⟩ := blkG Z1.out 1 (.int .i64 0) rfl
  obtain ⟨i2, j2⟩ := blkG Z1.out 2 (.int .i64 0) rfl
  obtain ⟨i3, j3⟩ := blkG Z1.out 3 (.int .i64 0) rfl
  obtain ⟨i4, j4⟩ := blkG Z1.out 4 (.int .i64 0) rfl
  obtain ⟨i5, j5⟩ := blkG Z1.out 5 (.int .i64 0) rfl
  obtain ⟨i6, j6⟩ := blkG Z1.out 6 (.int .i64 0) rfl
  obtain ⟨i7, j7⟩ := blkG Z1.out 7 (.int .i64 0) rfl
  obtain ⟨i8, j8⟩ := blkG Z1.out 8 (.int .i64 0) rfl
  obtain ⟨i9, j9⟩ := blkG Z1.out 9 (.int .i64 0) rfl
  obtain ⟨i10, j10⟩ := blkG Z1.out 10 (.bool false) rfl
  obtain ⟨i11, j11⟩ := blkG Z1.out 11 (.string ⟨#[]⟩) rfl
  obtain ⟨i12, j12⟩ := blkG Z1.out 12 (.slice none 0 0) rfl
  have hz1 := blk_lt Z1.out
  go_wp2
  refine bodyPost_ret (v := .tuple #[.agg #[.int .i64 kind, .int .i64 fr, .int .i64 to, .int .i64 te, .int .i64 ix, .int .i64 at_, .int .i64 co, .int .i64 me, .int .i64 off, .int .i64 sz, .bool yes, .string data, .slice a1 n c1], .bool true]) (twice_ret _ _ w.heap.size _ _ _ _ _ _ _ _ _ _ _ _ _ _ rfl rfl (set13_blk Z1.out)) rfl ⟨a1, c1, rfl, ?_, ?_⟩
  · exact OwnS.base (B' := w.heap.size + 1) (set13_ownE HO1 HNB) (Nat.le_succ _)
  · exact set13_ext T1.out (Nat.le_refl _)
theorem ntwice (h : NetP NT S w b (byL N) side) (hN : OkN N) (hs0 : 0 ≤ side) (hs1 : side ≤ 127) (hm : N.length ≤ 1000000) (k : Int) : Calls Try.prog 10 #[.pointer (some ⟨b, 0, none⟩), .int .i64 k] w fun e w' => Told side N k w e w' ∧ Ext w w' := by
  rcases ask_cases N side k with ⟨h0, h1⟩ | ⟨hi, h0, ⟨hc, h1⟩ | ⟨hc, h1⟩⟩
  · exact (twice_empty h hN hs0 hs1 hm k h0).mono fun e w' ⟨he, hx⟩ => ⟨.inl ⟨h1, he⟩, hx⟩
  · exact (twice_cut h hN hs0 hs1 hm k h0 hi hc).mono fun e w' ⟨he, hx⟩ => ⟨.inl ⟨h1, he⟩, hx⟩
  · exact (twice_ok h hN hs0 hs1 hm k h0 hi hc).mono fun e w' ⟨a, c, he, ho, hx⟩ => ⟨.inr ⟨_, h1, a, c, he, ho⟩, hx⟩
set_option maxHeartbeats 4000000 in
set_option maxRecDepth 100000 in
theorem deliver_empty (h : NetP NT S w b (byL N) side) (hN : OkN N) (hs0 : 0 ≤ side) (hs1 : side ≤ 127) (hm : N.length ≤ 1000000) (k : Int) (h0 : N.length = 0) : Calls Try.prog 11 #[.pointer (some ⟨b, 0, none⟩), .int .i64 k] w fun e w' => e = .returned (.tuple #[.agg #[.int .i64 0, .int .i64 0, .int .i64 0, .int .i64 0, .int .i64 0, .int .i64 0, .int .i64 0, .int .i64 0, .int .i64 0, .int .i64 0, .bool false, .string ⟨#[]⟩, .slice none 0 0], .bool false]) ∧ Ext w w' := by
  have HPL := Lib.hid fun (z : World) (hz : Ext w z) => nplace (h.ext hz) k (by rw [byL_len]; exact hm)
  rw [byL_len] at HPL
  have hpl : placeN k N.length = -1 := by unfold placeN; rw [if_pos h0]
  rw [hpl] at HPL
  clear h hN hs0 hs1 hm h0 hpl
  go_enter Try.func11, Try.ntmps11
  go_wp2_with fail
  go_at_call 20
  refine (HPL.out _ ((Ext.refl w).alloc _)).mono ?_
  rintro e y ⟨rfl, rfl⟩
  go_wp2
  refine bodyPost_ret (v := .tuple #[.agg #[.int .i64 0, .int .i64 0, .int .i64 0, .int .i64 0, .int .i64 0, .int .i64 0, .int .i64 0, .int .i64 0, .int .i64 0, .int .i64 0, .bool false, .string ⟨#[]⟩, .slice none 0 0], .bool false]) ?_ rfl ⟨rfl, ?_⟩
  · simp [results, Try.results11, go_sem]
  · repeat (first | exact Ext.refl _ | assumption | refine Ext.trans ?_ (by assumption) | refine Ext.alloc ?_ _ | refine Ext.drew ?_ | refine Ext.drewN ?_ _)
set_option maxHeartbeats 4000000 in
set_option maxRecDepth 100000 in
theorem deliver_cut (h : NetP NT S w b (byL N) side) (hN : OkN N) (hs0 : 0 ≤ side) (hs1 : side ≤ 127) (hm : N.length ≤ 1000000) (k : Int) (h0 : N.length ≠ 0) (hi : placeI N k < N.length) (hc : cutB side N[placeI N k].1.fr N[placeI N k].1.to = true) : Calls Try.prog 11 #[.pointer (some ⟨b, 0, none⟩), .int .i64 k] w fun e w' => e = .returned (.tuple #[.agg #[.int .i64 0, .int .i64 0, .int .i64 0, .int .i64 0, .int .i64 0, .int .i64 0, .int .i64 0, .int .i64 0, .int .i64 0, .int .i64 0, .bool false, .string ⟨#[]⟩, .slice none 0 0], .bool false]) ∧ NetP NT (up S w w') w' b (byL (N.eraseIdx (placeI N k))) side ∧ KeepS S w w' := by
  have HPL := Lib.hid fun (z : World) (hz : Ext w z) => nplace (h.ext hz) k (by rw [byL_len]; exact hm)
  rw [byL_len] at HPL
  rw [placeN_is N k h0] at HPL
  have HT := Lib.hid fun (z : World) (hz : Ext w z) => told_1 (h.ext hz) hN hs0 hs1 (placeI N k) hi hm hc
  obtain ⟨v, vs, h⟩ := h
  obtain ⟨g, gc, u, rfl, _, _, hgw, _⟩ := h.at_ (placeI N k) hi
  have H := Lib.hid h
  have HD := Lib.hid fun (z : World) (hz : Ext w z) => ndel (by have := (h.ext hz).own; rwa [byL_len] at this) h.hone (placeI N k) hi
  rw [byL_erase]
  clear hN hs0 hs1 hc
  generalize placeI N k = i at *
  have hi0 : ¬ (i : Int) < 0 := by omega
  have hbg : b ≠ g := Ne.symm (h.sv _ _ _ rfl).2
  have hbw := blk_lt h.blk
  have hw1 : IntKind.i64.wrap ((i : Int) + 1) = (i : Int) + 1 := by rw [IntKind.wrap_i64]; omega
  have HBL : Hid ((byL N).length = N.length) := Lib.hid (byL_len N)
  clear h
  go_enter Try.func11, Try.ntmps11
  go_wp2_with fail
  go_at_call 20
  refine (HPL.out _ ((Ext.refl w).alloc _)).mono ?_
  rintro e y ⟨rfl, rfl⟩
  go_wp2_with fail
  go_at_call 21
  refine (HT.out _ ((Ext.refl w).alloc _)).mono ?_
  rintro e x1 ⟨rfl, hx1⟩
  have Z1 := Lib.hid (ext_blk hx1 (new_blk w (.cells #[.int .i64 0, .int .i64 0, .int .i64 0, .int .i64 0, .int .i64 0, .int .i64 0, .int .i64 0, .int .i64 0, .int .i64 0, .int .i64 0, .bool false, .string ⟨#[]⟩, .slice none 0 0] 27)))
  have T1 : Hid (Ext w x1) := Lib.hid (((Ext.refl w).alloc _).trans hx1)
  clear hx1
  have hz1 := blk_lt Z1.out
  have hb1 := Nat.lt_of_lt_of_le hbw T1.out.size
  have hg1 := Nat.lt_of_lt_of_le hgw T1.out.size
  obtain ⟨q0, _⟩ := blkG (ext_blk T1.out H.out.blk) 0 _ rfl
  go_wp2_with fail
  go_at_call 22
  refine (HD.out _ (T1.out.alloc _)).mono ?_
  rintro e x2 ⟨rfl, hown, hk⟩
  have hNI := (H.out.ext (T1.out.alloc (.cells #[.int .i64 0, .int .i64 0, .int .i64 0, .int .i64 0, .int .i64 0, .int .i64 0, .int .i64 0, .int .i64 0, .int .i64 0, .int .i64 0, .bool false, .string ⟨#[]⟩, .slice none 0 0] 27))).del (by rw [HBL.out]) i (by omega) hk hown
  have HNI := Lib.hid hNI
  have hzg : w.heap.size ≠ g := by omega
  have hmg : x1.heap.size ≠ g := by omega
  have Z2 := Lib.hid (keep_blk hk (alloc_blk Z1.out) hzg)
  have M2 := Lib.hid (keep_blk hk (new_blk x1 (.cells #[.int .i64 0, .int .i64 0, .int .i64 0, .int .i64 0, .int .i64 0, .int .i64 0, .int .i64 0, .int .i64 0, .int .i64 0, .int .i64 0, .bool false, .string ⟨#[]⟩, .slice none 0 0] 27)) hmg)
  have B2 := keep_blk hk (alloc_blk (ext_blk T1.out H.out.blk)) hbg
  obtain ⟨p0, f0⟩ := blkG B2 0 _ rfl
  have hz2 := blk_lt Z2.out
  have hm2 := blk_lt M2.out
  have hb2 := blk_lt B2
  have hK2 := Lib.hid hk
  clear hown hk hNI B2
  obtain ⟨m0, _⟩ := blkG M2.out 0 (.int .i64 0) rfl
  obtain ⟨m1, _⟩ := blkG M2.out 1 (.int .i64 0) rfl
  obtain ⟨m2, _⟩ := blkG M2.out 2 (.int .i64 0) rfl
  obtain ⟨m3, _⟩ := blkG M2.out 3 (.int .i64 0) rfl
  obtain ⟨m4, _⟩ := blkG M2.out 4 (.int .i64 0) rfl
  obtain ⟨m5, _⟩ := blkG M2.out 5 (.int .i64 0) rfl
  obtain ⟨m6, _⟩ := blkG M2.out 6 (.int .i64 0) rfl
  obtain ⟨m7, _⟩ := blkG M2.out 7 (.int .i64 0) rfl
  obtain ⟨m8, _⟩ := blkG M2.out 8 (.int .i64 0) rfl
  obtain ⟨m9, _⟩ := blkG M2.out 9 (.int .i64 0) rfl
  obtain ⟨m10, _⟩ := blkG M2.out 10 (.bool false) rfl
  obtain ⟨m11, _⟩ := blkG M2.out 11 (.string ⟨#[]⟩) rfl
  obtain ⟨m12, _⟩ := blkG M2.out 12 (.slice none 0 0) rfl
  obtain ⟨i0, j0⟩ := blkG Z2.out 0 (.int .i64 0) rfl
  obtain ⟨i1, j1⟩ := blkG Z2.out 1 (.int .i64 0) rfl
  obtain ⟨i2, j2⟩ := blkG Z2.out 2 (.int .i64 0) rfl
  obtain ⟨i3, j3⟩ := blkG Z2.out 3 (.int .i64 0) rfl
  obtain ⟨i4, j4⟩ := blkG Z2.out 4 (.int .i64 0) rfl
  obtain ⟨i5, j5⟩ := blkG Z2.out 5 (.int .i64 0) rfl
  obtain ⟨i6, j6⟩ := blkG Z2.out 6 (.int .i64 0) rfl
  obtain ⟨i7, j7⟩ := blkG Z2.out 7 (.int .i64 0) rfl
  obtain ⟨i8, j8⟩ := blkG Z2.out 8 (.int .i64 0) rfl
  obtain ⟨i9, j9⟩ := blkG Z2.out 9 (.int .i64 0) rfl
  obtain ⟨i10, j10⟩ := blkG Z2.out 10 (.bool false) rfl
  obtain ⟨i11, j11⟩ := blkG Z2.out 11 (.string ⟨#[]⟩) rfl
  obtain ⟨i12, j12⟩ := blkG Z2.out 12 (.slice none 0 0) rfl
  have hzb : w.heap.size ≠ b := by omega
  have hmb : x1.heap.size ≠ b := by omega
  go_wp2
  refine bodyPost_ret (v := .tuple #[.agg #[.int .i64 0, .int .i64 0, .int .i64 0, .int .i64 0, .int .i64 0, .int .i64 0, .int .i64 0, .int .i64 0, .int .i64 0, .int .i64 0, .bool false, .string ⟨#[]⟩, .slice none 0 0], .bool false]) (deliver_ret _ _ w.heap.size _ _ _ _ _ _ _ _ _ _ _ _ _ _ rfl rfl (set13_blk (set_blk Z2.out hzb))) rfl ⟨rfl, ?_, ?_⟩
  · exact (fin13_net (fun q hs => H.out.low q hs) (Nat.le_refl _) HNI.out.1 ((KeepS.of_ext (T1.out.alloc _)).trans HNI.out.2)).1
  · exact (fin13_net (fun q hs => H.out.low q hs) (Nat.le_refl _) HNI.out.1 ((KeepS.of_ext (T1.out.alloc _)).trans HNI.out.2)).2
set_option maxHeartbeats 4000000 in
set_option maxRecDepth 100000 in
theorem deliver_ok (h : NetP NT S w b (byL N) side) (hN : OkN N) (hs0 : 0 ≤ side) (hs1 : side ≤ 127) (hm : N.length ≤ 1000000) (k : Int) (h0 : N.length ≠ 0) (hi : placeI N k < N.length) (hc : cutB side N[placeI N k].1.fr N[placeI N k].1.to = false) : Calls Try.prog 11 #[.pointer (some ⟨b, 0, none⟩), .int .i64 k] w fun e w' => ∃ a c, e = .returned (.tuple #[N[placeI N k].1.agg (.slice a N[placeI N k].2.length c), .bool true]) ∧ OwnS Ent.cells 3 49 w' w.heap.size (.slice a N[placeI N k].2.length c) N[placeI N k].2 ∧ NetP NT (up S w w') w' b (byL (N.eraseIdx (placeI N k))) side ∧ KeepS S w w' := by
  have HPL := Lib.hid fun (z : World) (hz : Ext w z) => nplace (h.ext hz) k (by rw [byL_len]; exact hm)
  rw [byL_len] at HPL
  rw [placeN_is N k h0] at HPL
  have HT := Lib.hid fun (z : World) (hz : Ext w z) => told_0 (h.ext hz) hN hs0 hs1 (placeI N k) hi hm hc
  obtain ⟨v, vs, h⟩ := h
  obtain ⟨g, gc, u, rfl, _, _, hgw, _⟩ := h.at_ (placeI N k) hi
  have H := Lib.hid h
  have HD := Lib.hid fun (z : World) (hz : Ext w z) => ndel (by have := (h.ext hz).own; rwa [byL_len] at this) h.hone (placeI N k) hi
  rw [byL_erase]
  generalize N[placeI N k] = p at *
  obtain ⟨m, es⟩ := p
  simp only at HT ⊢
  obtain ⟨n, hn⟩ : ∃ n, es.length = n := ⟨_, rfl⟩
  rw [hn] at HT ⊢
  obtain ⟨kind, fr, to, te, ix, at_, co, me, off, sz, yes, data⟩ := m
  simp only [Lt.agg] at HT ⊢
  clear hN hs0 hs1 hc hn
  generalize placeI N k = i at *
  have hi0 : ¬ (i : Int) < 0 := by omega
  have hbg : b ≠ g := Ne.symm (h.sv _ _ _ rfl).2
  have hbw := blk_lt h.blk
  have hw1 : IntKind.i64.wrap ((i : Int) + 1) = (i : Int) + 1 := by rw [IntKind.wrap_i64]; omega
  have HBL : Hid ((byL N).length = N.length) := Lib.hid (byL_len N)
  clear h
  go_enter Try.func11, Try.ntmps11
  go_wp2_with fail
  go_at_call 20
  refine (HPL.out _ ((Ext.refl w).alloc _)).mono ?_
  rintro e y ⟨rfl, rfl⟩
  go_wp2_with fail
  go_at_call 21
  refine (HT.out _ ((Ext.refl w).alloc _)).mono ?_
  rintro e x1 ⟨a1, c1, rfl, ho, hx1⟩
  have Z1 := Lib.hid (ext_blk hx1 (new_blk w (.cells #[.int .i64 0, .int .i64 0, .int .i64 0, .int .i64 0, .int .i64 0, .int .i64 0, .int .i64 0, .int .i64 0, .int .i64 0, .int .i64 0, .bool false, .string ⟨#[]⟩, .slice none 0 0] 27)))
  have T1 : Hid (Ext w x1) := Lib.hid (((Ext.refl w).alloc _).trans hx1)
  have HO1 : Hid (OwnS Ent.cells 3 49 x1 (w.heap.size + 1) (.slice a1 n c1) es) := Lib.hid (by simpa using ho)
  clear ho
  clear hx1
  have hz1 := blk_lt Z1.out
  have hb1 := Nat.lt_of_lt_of_le hbw T1.out.size
  have hg1 := Nat.lt_of_lt_of_le hgw T1.out.size
  obtain ⟨q0, _⟩ := blkG (ext_blk T1.out H.out.blk) 0 _ rfl
  go_wp2_with fail
  go_at_call 22
  refine (HD.out _ (T1.out.alloc _)).mono ?_
  rintro e x2 ⟨rfl, hown, hk⟩
  have hNI := (H.out.ext (T1.out.alloc (.cells #[.int .i64 kind, .int .i64 fr, .int .i64 to, .int .i64 te, .int .i64 ix, .int .i64 at_, .int .i64 co, .int .i64 me, .int .i64 off, .int .i64 sz, .bool yes, .string data, .slice a1 n c1] 27))).del (by rw [HBL.out]) i (by omega) hk hown
  have HNI := Lib.hid hNI
  have hzg : w.heap.size ≠ g := by omega
  have hmg : x1.heap.size ≠ g := by omega
  have Z2 := Lib.hid (keep_blk hk (alloc_blk Z1.out) hzg)
  have M2 := Lib.hid (keep_blk hk (new_blk x1 (.cells #[.int .i64 kind, .int .i64 fr, .int .i64 to, .int .i64 te, .int .i64 ix, .int .i64 at_, .int .i64 co, .int .i64 me, .int .i64 off, .int .i64 sz, .bool yes, .string data, .slice a1 n c1] 27)) hmg)
  have B2 := keep_blk hk (alloc_blk (ext_blk T1.out H.out.blk)) hbg
  obtain ⟨p0, f0⟩ := blkG B2 0 _ rfl
  have hz2 := blk_lt Z2.out
  have hm2 := blk_lt M2.out
  have hb2 := blk_lt B2
  have hK2 := Lib.hid hk
  have hno : ∀ a m c', Value.slice a1 n c1 = .slice (some a) m c' → a.block ≠ g := fun a m c' he => by have := (own_blkE HO1.out a m c' he).2; omega
  have HO2 : Hid (OwnS Ent.cells 3 49 x2 (w.heap.size + 1) (.slice a1 n c1) es) := Lib.hid (own_keepE (OwnS.ext HO1.out ((Ext.refl x1).alloc (.cells #[.int .i64 kind, .int .i64 fr, .int .i64 to, .int .i64 te, .int .i64 ix, .int .i64 at_, .int .i64 co, .int .i64 me, .int .i64 off, .int .i64 sz, .bool yes, .string data, .slice a1 n c1] 27))) (fun a m c' he => hk.block _ (Nat.lt_of_lt_of_le (own_blkE HO1.out a m c' he).1 (by simp)) (hno a m c' he)))
  clear hno
  clear hown hk hNI B2
  obtain ⟨m0, _⟩ := blkG M2.out 0 (.int .i64 kind) rfl
  obtain ⟨m1, _⟩ := blkG M2.out 1 (.int .i64 fr) rfl
  obtain ⟨m2, _⟩ := blkG M2.out 2 (.int .i64 to) rfl
  obtain ⟨m3, _⟩ := blkG M2.out 3 (.int .i64 te) rfl
  obtain ⟨m4, _⟩ := blkG M2.out 4 (.int .i64 ix) rfl
  obtain ⟨m5, _⟩ := blkG M2.out 5 (.int .i64 at_) rfl
  obtain ⟨m6, _⟩ := blkG M2.out 6 (.int .i64 co) rfl
  obtain ⟨m7, _⟩ := blkG M2.out 7 (.int .i64 me) rfl
  obtain ⟨m8, _⟩ := blkG M2.out 8 (.int .i64 off) rfl
  obtain ⟨m9, _⟩ := blkG M2.out 9 (.int .i64 sz) rfl
  obtain ⟨m10, _⟩ := blkG M2.out 10 (.bool yes) rfl
  obtain ⟨m11, _⟩ := blkG M2.out 11 (.string data) rfl
  obtain ⟨m12, _⟩ := blkG M2.out 12 (.slice a1 n c1) rfl
  obtain ⟨i0, j0⟩ := blkG Z2.out 0 (.int .i64 0) rfl
  obtain ⟨i1, j1⟩ := blkG Z2.out 1 (.int .i64 0) rfl
  obtain ⟨i2, j2⟩ := blkG Z2.out 2 (.int .i64 0) rfl
  obtain ⟨i3, j3⟩ := blkG Z2.out 3 (.int .i64 0) rfl
  obtain ⟨i4, j4⟩ := blkG Z2.out 4 (.int .i64 0) rfl
  obtain ⟨i5, j5⟩ := blkG Z2.out 5 (.int .i64 0) rfl
  obtain ⟨i6, j6⟩ := blkG Z2.out 6 (.int .i64 0) rfl
  obtain ⟨i7, j7⟩ := blkG Z2.out 7 (.int .i64 0) rfl
  obtain ⟨i8, j8⟩ := blkG Z2.out 8 (.int .i64 0) rfl
  obtain ⟨i9, j9⟩ := blkG Z2.out 9 (.int .i64 0) rfl
  obtain ⟨i10, j10⟩ := blkG Z2.out 10 (.bool false) rfl
  obtain ⟨i11, j11⟩ := blkG Z2.out 11 (.string ⟨#[]⟩) rfl
  obtain ⟨i12, j12⟩ := blkG Z2.out 12 (.slice none 0 0) rfl
  have hzb : w.heap.size ≠ b := by omega
  have hmb : x1.heap.size ≠ b := by omega
  go_wp2
  refine bodyPost_ret (v := .tuple #[.agg #[.int .i64 kind, .int .i64 fr, .int .i64 to, .int .i64 te, .int .i64 ix, .int .i64 at_, .int .i64 co, .int .i64 me, .int .i64 off, .int .i64 sz, .bool yes, .string data, .slice a1 n c1], .bool true]) (deliver_ret _ _ w.heap.size _ _ _ _ _ _ _ _ _ _ _ _ _ _ rfl rfl (set13_blk (set_blk Z2.out hzb))) rfl ⟨a1, c1, rfl, ?_, ?_, ?_⟩
  · exact OwnS.base (B' := w.heap.size + 1) (set13_ownE (OwnS.setO HO2.out (fun a m c' he => by have := (own_blkE HO2.out a m c' he).2; omega)) (fun a m c' he => Nat.ne_of_gt (own_blkE HO2.out a m c' he).2)) (Nat.le_succ _)
  · exact (fin13_net (fun q hs => H.out.low q hs) (Nat.le_refl _) HNI.out.1 ((KeepS.of_ext (T1.out.alloc _)).trans HNI.out.2)).1
  · exact (fin13_net (fun q hs => H.out.low q hs) (Nat.le_refl _) HNI.out.1 ((KeepS.of_ext (T1.out.alloc _)).trans HNI.out.2)).2
theorem ndeliver (h : NetP NT S w b (byL N) side) (hN : OkN N) (hs0 : 0 ≤ side) (hs1 : side ≤ 127) (hm : N.length ≤ 1000000) (k : Int) : Calls Try.prog 11 #[.pointer (some ⟨b, 0, none⟩), .int .i64 k] w fun e w' => Told side N k w e w' ∧ NetP NT (up S w w') w' b (byL (N.eraseIdx (placeI N k))) side ∧ KeepS S w w' := by
  rcases ask_cases N side k with ⟨h0, h1⟩ | ⟨hi, h0, ⟨hc, h1⟩ | ⟨hc, h1⟩⟩
  · refine (deliver_empty h hN hs0 hs1 hm k h0).mono fun e w' ⟨he, hx⟩ => ⟨.inl ⟨h1, he⟩, ?_, KeepS.of_ext hx⟩
    have : N = [] := List.eq_nil_of_length_eq_zero h0
    subst this
    exact h.upto hx
  · exact (deliver_cut h hN hs0 hs1 hm k h0 hi hc).mono fun e w' ⟨he, hp, hx⟩ => ⟨.inl ⟨h1, he⟩, hp, hx⟩
  · exact (deliver_ok h hN hs0 hs1 hm k h0 hi hc).mono fun e w' ⟨a, c, he, ho, hp, hx⟩ => ⟨.inr ⟨_, h1, a, c, he, ho⟩, hp, hx⟩
end
end
section

section
variable {T : TypeId} {S S2 : Nat → Prop} {w w' y z : World} {b g : Nat} {side : Int} {v v' u : Value} {vs : List Value} {ls : List (List UInt8)} {l : List UInt8}
/-- An element behind the row, the struct told. -/
theorem NI.push (h : NI T S w b ls side v vs) (hs : ∀ k, S k → S2 k) (hu : Rd8 w u l) (hu1 : u.oneCell' = true) (hub : ∀ a n c, u = .slice (some a) n c → S2 a.block ∧ ¬ S a.block ∧ a.block < w.heap.size)
    (ho : w'.ownsRow 0 53 1 v' (ls.length + 1) (vs ++ [u])) (hap : Apart v w v' w') (hb0 : Below 0 w w') (hnew : ∀ k, w.heap.size ≤ k → k < w'.heap.size → S2 k) (hl2 : ∀ k, S2 k → k < w'.heap.size) :
    NI T S2 (w'.setCell ⟨b, 0, none⟩ v') b (ls ++ [l]) side v' (vs ++ [u]) ∧ KeepS S w (w'.setCell ⟨b, 0, none⟩ v') := by
  have hvb : notBlk v b := fun a n c he => (h.sv a n c he).2
  have hbw := blk_lt h.blk
  have hK1 : KeepS S w w' := ⟨Below.os hb0, Below.tape hb0, Below.output hb0, hb0.size, fun k hk hn => (hap k hk (fun a n c he hb => hn (hb ▸ (h.sv a n c he).1))).1⟩
  have hK : KeepS S w (w'.setCell ⟨b, 0, none⟩ v') := hK1.trans (KeepS.of_keep ((KeepR.refl b w').set (o := 0) _) h.sb)
  have hv'b : notBlk v' b := (hap b hbw hvb).2
  have hsize : (w'.setCell ⟨b, 0, none⟩ v').heap.size = w'.heap.size := by simp
  have hrow : ∀ k, S k → k ≠ b → notBlk v k → (w'.setCell ⟨b, 0, none⟩ v').heap[k]? = w.heap[k]? := fun k hk hne hnb => (Below.heap_setCell _ _ _ _ hne).trans (hap k (h.low k hk) hnb).1
  refine ⟨⟨fun k hk => by rw [hsize]; exact hl2 k hk, hs _ h.sb, heap_setCell_same _ _ 0 _ _ _ ((hap b hbw hvb).1.trans h.blk), ?_, ?_, fun j hj => ?_⟩, hK⟩
  · rw [List.length_append]
    exact own_keepE ho (fun a m c' he => Below.heap_setCell _ _ _ _ (hv'b a m c' he))
  · intro a m c' he
    refine ⟨?_, hv'b a m c' he⟩
    have hlt := (own_blkE ho a m c' he).1
    by_cases hk : a.block < w.heap.size
    · refine hs _ ?_
      refine Classical.byContradiction fun hn => ?_
      exact (hap a.block hk (fun a' m' c'' he' hb => hn (hb ▸ (h.sv a' m' c'' he').1))).2 a m c' he rfl
    · exact hnew _ (by omega) hlt
  · rw [List.length_append] at hj
    simp only [List.length_cons, List.length_nil] at hj
    have hvl := h.len
    by_cases hjl : j < ls.length
    · obtain ⟨u', h1, h2⟩ := h.rows j hjl
      refine ⟨u', by rw [List.getElem?_append_left (by omega)]; exact h1, ?_⟩
      rw [List.getElem_append_left hjl]
      refine ⟨rd8_keep h2.rd hK.size (fun a m c' he => ?_), fun a m c' he => ?_, h2.one⟩
      · obtain ⟨q1, q2, q3⟩ := h2.is a m c' he
        exact hrow _ q1 q2 q3
      · obtain ⟨q1, q2, q3⟩ := h2.is a m c' he
        exact ⟨hs _ q1, q2, (hap _ (h.low _ q1) q3).2⟩
    · obtain rfl : j = ls.length := by omega
      refine ⟨u, by rw [List.getElem?_append_right (by omega), hvl]; simp, ?_⟩
      rw [List.getElem_append_right (Nat.le_refl _)]
      simp only [Nat.sub_self, List.getElem_cons_zero]
      have hne : ∀ a m c', u = .slice (some a) m c' → a.block ≠ b ∧ notBlk v a.block := fun a m c' he => ⟨fun hb => (hub a m c' he).2.1 (hb ▸ h.sb), fun a' m' c'' he' hb => (hub a m c' he).2.1 (hb ▸ (h.sv a' m' c'' he').1)⟩
      refine ⟨rd8_keep hu hK.size (fun a m c' he => ?_), fun a m c' he => ?_, hu1⟩
      · exact (Below.heap_setCell _ _ _ _ (hne a m c' he).1).trans (hap _ (hub a m c' he).2.2 (hne a m c' he).2).1
      · exact ⟨(hub a m c' he).1, (hne a m c' he).1, (hap _ (hub a m c' he).2.2 (hne a m c' he).2).2⟩
theorem slS_keepS {α : Type} {c : α → List Value} {sz : Nat} {xs : List α} (h : SlS c sz w v xs) (hk : KeepS S w w') (hn : ∀ a n c, v = .slice (some a) n c → ¬ S a.block) : SlS c sz w' v xs := by
  obtain ⟨h1, h2, a, cap, rfl, h3⟩ := h
  refine ⟨h1, h2, a, cap, rfl, ?_⟩
  rcases h3 with h3 | ⟨bb, off, rfl, hlt, hc⟩
  · exact .inl h3
  · refine .inr ⟨bb, off, rfl, Nat.lt_of_lt_of_le hlt hk.size, fun j hj => ?_⟩
    rw [World.cell?_of_block (a := ⟨bb, off + j, none⟩) (hk.block bb hlt (hn _ _ _ rfl))]
    exact hc j hj
theorem slS_keepP {α : Type} {c : α → List Value} {sz : Nat} {xs : List α} (h : SlS c sz w v xs) (hk : KeepS S w w') (hn : 0 < xs.length → ∀ a n c, v = .slice (some a) n c → ¬ S a.block) : SlS c sz w' v xs := by
  rcases Nat.eq_zero_or_pos xs.length with h0 | h0
  · obtain ⟨h1, h2, a, cap, rfl, _⟩ := h
    exact ⟨h1, h2, a, cap, rfl, .inl h0⟩
  · exact slS_keepS h hk (hn h0)
end
/-- A letter in a slice. -/
structure LI where
  m : Lt
  a : Option Addr
  cap : Nat
  es : List Ent
def LI.ev (x : LI) : Value := .slice x.a x.es.length x.cap
def LI.cells (x : LI) : List Value := [.int .i64 x.m.kind, .int .i64 x.m.fr, .int .i64 x.m.to, .int .i64 x.m.te, .int .i64 x.m.ix, .int .i64 x.m.at_, .int .i64 x.m.co, .int .i64 x.m.me, .int .i64 x.m.off, .int .i64 x.m.sz, .bool x.m.yes, .string x.m.data, x.ev]
theorem LI.len (x : LI) : x.cells.length = 13 := rfl
/-- What becomes of the letters under way. -/
def OneR (N : List Let) (x : LI) (N' : List Let) : Prop := (RightP x.m x.es ∧ N.length < 160 ∧ N' = N ++ [(x.m, x.es)]) ∨ ((¬ RightP x.m x.es ∨ 160 ≤ N.length) ∧ N' = N)
def SendR : List Let → List LI → List Let → Prop
  | N, [], N' => N' = N
  | N, x :: xs, N' => ∃ N1, OneR N x N1 ∧ SendR N1 xs N'
theorem OneR.one {N N1 N2 : List Let} {x : LI} (h1 : OneR N x N1) (h2 : OneR N x N2) : N1 = N2 := by
  rcases h1 with ⟨a1, a2, rfl⟩ | ⟨a1, rfl⟩ <;> rcases h2 with ⟨b1, b2, rfl⟩ | ⟨b1, rfl⟩
  · rfl
  · rcases b1 with b1 | b1
    · exact absurd a1 b1
    · omega
  · rcases a1 with a1 | a1
    · exact absurd b1 a1
    · omega
  · rfl
theorem SendR.one : ∀ {xs : List LI} {N N1 N2 : List Let}, SendR N xs N1 → SendR N xs N2 → N1 = N2
  | [], _, _, _, h1, h2 => h1.trans h2.symm
  | x :: xs, _, _, _, ⟨_, h1, k1⟩, ⟨_, h2, k2⟩ => by
    obtain rfl := OneR.one h1 h2
    exact SendR.one k1 k2
theorem SendR.snoc : ∀ {xs : List LI} {N N1 N2 : List Let} {x : LI}, SendR N xs N1 → OneR N1 x N2 → SendR N (xs ++ [x]) N2
  | [], _, _, _, _, h1, h2 => by
    cases h1
    exact ⟨_, h2, rfl⟩
  | y :: xs, _, _, _, _, ⟨M, h1, k1⟩, h2 => ⟨M, h1, SendR.snoc k1 h2⟩
theorem OneR.ok {N N' : List Let} {x : LI} (h : OneR N x N') (hN : OkN N) (hl : N.length ≤ 160) : OkN N' ∧ N'.length ≤ 160 ∧ N'.length ≤ N.length + 1 := by
  rcases h with ⟨h1, h2, rfl⟩ | ⟨_, rfl⟩
  · refine ⟨fun p hp => ?_, by simp; omega, by simp⟩
    rcases List.mem_append.1 hp with hp | hp
    · exact hN p hp
    · rw [List.mem_singleton.1 hp]
      exact h1
  · exact ⟨hN, hl, by omega⟩
section
variable {S : Nat → Prop} {w : World} {b : Nat} {side : Int} {N : List Let}
set_option maxHeartbeats 4000000 in
set_option maxRecDepth 100000 in
theorem lose_0 (h : NetP NT S w b (byL N) side) (hm : N.length ≤ 1000000) (k : Int) (h0 : N.length = 0) : Calls Try.prog 14 #[.pointer (some ⟨b, 0, none⟩), .int .i64 k] w fun e w' => e = .returned (.bool false) ∧ Ext w w' := by
  have HPL := Lib.hid fun (z : World) (hz : Ext w z) => nplace (h.ext hz) k (by rw [byL_len]; exact hm)
  rw [byL_len] at HPL
  have hpl : placeN k N.length = -1 := by unfold placeN; rw [if_pos h0]
  rw [hpl] at HPL
  clear h hm h0 hpl
  go_enter Try.func14, Try.ntmps14
  go_wp2_with fail
  go_at_call 20
  refine (HPL.out _ (Ext.refl w)).mono ?_
  rintro e y ⟨rfl, rfl⟩
  go_wp2
  go_ret
  exact ⟨rfl, Ext.refl _⟩
set_option maxHeartbeats 4000000 in
set_option maxRecDepth 100000 in
theorem lose_1 (h : NetP NT S w b (byL N) side) (hm : N.length ≤ 1000000) (k : Int) (h0 : N.length ≠ 0) (hi : placeI N k < N.length) : Calls Try.prog 14 #[.pointer (some ⟨b, 0, none⟩), .int .i64 k] w fun e w' => e = .returned (.bool true) ∧ NetP NT S w' b (byL (N.eraseIdx (placeI N k))) side ∧ KeepS S w w' := by
  have HPL := Lib.hid fun (z : World) (hz : Ext w z) => nplace (h.ext hz) k (by rw [byL_len]; exact hm)
  rw [byL_len, placeN_is N k h0] at HPL
  obtain ⟨v, vs, h⟩ := h
  obtain ⟨g, gc, u, rfl, _, _, hgw, _⟩ := h.at_ (placeI N k) hi
  have H := Lib.hid h
  have HD := Lib.hid (ndel (by have := h.own; rwa [byL_len] at this) h.hone (placeI N k) hi)
  rw [byL_erase]
  generalize placeI N k = i at *
  have hi0 : (0 : Int) ≤ (i : Int) := by omega
  have hbg : b ≠ g := Ne.symm (h.sv _ _ _ rfl).2
  have hbw := blk_lt h.blk
  have hw1 : IntKind.i64.wrap ((i : Int) + 1) = (i : Int) + 1 := by rw [IntKind.wrap_i64]; omega
  have HBL : Hid ((byL N).length = N.length) := Lib.hid (byL_len N)
  obtain ⟨q0, _⟩ := blkG h.blk 0 _ rfl
  clear h
  go_enter Try.func14, Try.ntmps14
  go_wp2_with fail
  go_at_call 20
  refine (HPL.out _ (Ext.refl w)).mono ?_
  rintro e y ⟨rfl, rfl⟩
  go_wp2_with fail
  go_at_call 22
  refine HD.out.mono ?_
  rintro e x2 ⟨rfl, hown, hk⟩
  have HNI := Lib.hid (H.out.del (by rw [HBL.out]) i (by omega) hk hown)
  have B2 := keep_blk hk H.out.blk hbg
  obtain ⟨p0, f0⟩ := blkG B2 0 _ rfl
  have hb2 := blk_lt B2
  clear hown hk B2
  go_wp2
  go_ret
  exact ⟨rfl, ⟨_, _, HNI.out.1⟩, HNI.out.2⟩
theorem nlose (h : NetP NT S w b (byL N) side) (hm : N.length ≤ 1000000) (k : Int) : Calls Try.prog 14 #[.pointer (some ⟨b, 0, none⟩), .int .i64 k] w fun e w' => e = .returned (.bool (decide (N.length ≠ 0))) ∧ NetP NT (up S w w') w' b (byL (N.eraseIdx (placeI N k))) side ∧ KeepS S w w' := by
  by_cases h0 : N.length = 0
  · refine (lose_0 h hm k h0).mono fun e w' ⟨he, hx⟩ => ⟨by rw [he]; simp [h0], ?_, KeepS.of_ext hx⟩
    have : N = [] := List.eq_nil_of_length_eq_zero h0
    subst this
    exact h.upto hx
  · refine (lose_1 h hm k h0 (placeI_lt N k h0)).mono fun e w' ⟨he, hp, hk⟩ => ⟨by rw [he]; simp [h0], ?_, hk⟩
    obtain ⟨v, vs, hp⟩ := hp
    exact ⟨v, vs, hp.up (fun q hs => .inl hs) (up_low (fun q hs => h.low q hs) hk.size)⟩
theorem own_sl {w : World} {B e s n : Nat} {u : Value} {xs : List Value} (h : w.ownsRow B e s u n xs) : ∃ a c, u = .slice a n c := by
  obtain ⟨h1, h2⟩ := h
  rcases h2 with ⟨rfl, rfl⟩ | ⟨g, cap, cur, rfl, _⟩
  · exact ⟨none, 0, rfl⟩
  · exact ⟨_, cap, rfl⟩
theorem ltL_pos (m : Lt) (es : List Ent) : 0 < (ltL m es).length := by
  have := (numL_len m.kind).1
  rw [ltL, startL, headL, List.flatMap_cons]
  simp only [List.length_append]
  omega
theorem put_formN {te : TypeId} {w : World} {B : Nat} {v : Value} {l : List UInt8} (h : Own8 te w B v l) (hp : 0 < l.length) : ∃ g c, v = .slice (some ⟨g, 0, none⟩) l.length c := by
  obtain ⟨h1, h2⟩ := h
  rcases h2 with ⟨rfl, h0⟩ | ⟨g, cap, cur, rfl, _⟩
  · omega
  · exact ⟨g, cap, rfl⟩
set_option maxHeartbeats 4000000 in
set_option maxRecDepth 100000 in
theorem nsend (h : NetP NT S w b (byL N) side) (hN : OkN N) (hm : N.length ≤ 160) (sa : Option Addr) (sn sc : Nat) (xs : List LI) (hn : xs.length = sn) (hl : SlS LI.cells 13 w (.slice sa sn sc) xs) (hes : ∀ x ∈ xs, SlS Ent.cells 3 w x.ev x.es) (hx : xs.length ≤ 1000000)
    (hd1 : ∀ a, sa = some a → ¬ S a.block) (hd2 : ∀ x ∈ xs, 0 < x.es.length → ∀ a, x.a = some a → ¬ S a.block) :
    Calls Try.prog 7 #[.pointer (some ⟨b, 0, none⟩), .slice sa sn sc] w fun e w' => e = .returned (.tuple #[]) ∧ ∃ N', SendR N xs N' ∧ OkN N' ∧ N'.length ≤ 160 ∧ NetP NT (up S w w') w' b (byL N') side ∧ KeepS S w w' := by
  have hlow := h.low
  have HL := Lib.hid fun (z : World) (hk : KeepS S w z) => slS_keepS hl hk (fun a n c he => by cases he; exact hd1 _ rfl)
  have HE := Lib.hid fun (z : World) (hk : KeepS S w z) x (hxm : x ∈ xs) => slS_keepP (hes x hxm) hk (fun h0 a n c he => by simp only [LI.ev, Value.slice.injEq] at he; exact hd2 x hxm h0 _ he.1)
  obtain ⟨i0, hi, hz0, hz1, hz2⟩ := info_parts Try.infoB
  have hlow2 := Lib.hid hlow
  have H0 := Lib.hid h
  have HNN := Lib.hid hN
  clear h hN hl hes hd1 hd2 hlow
  go_enter Try.func7, Try.ntmps7
  go_wp2_with fail
  go_loopw [9] (fun iv wr => ∃ (j : Nat) (N' : List Let), j ≤ sn ∧ iv = .int .i64 ((j : Nat) : Int) ∧ SendR N (xs.take j) N' ∧ OkN N' ∧ N'.length ≤ 160 ∧ NetP NT (up S w wr) wr b (byL N') side ∧ KeepS S w wr) (fun iv _ => sn - (intOf iv).toNat)
  case atStart => exact ⟨0, N, by omega, rfl, by simp [SendR], HNN.out, hm, H0.out.upto (Ext.refl _), KeepS.refl _ _⟩
  case round =>
    obtain ⟨j, M, hj, rfl, hs, hok, hm2, hp, hk⟩ := hrel
    by_cases hlt : j < sn
    · have hjx : j < xs.length := by omega
      obtain ⟨x, hxe⟩ : ∃ x, xs[j] = x := ⟨_, rfl⟩
      have hxm : x ∈ xs := by rw [← hxe]; exact List.getElem_mem _
      have hrx := HE.out wr hk x hxm
      obtain ⟨sb, so, rfl, hsb, hcell⟩ := SlS.at_ LI.len (HL.out wr hk) (by omega) (by decide)
      have hcx := fun i (hi : i < 13) => hcell j hjx i hi
      rw [hxe] at hcx
      have htk : xs.take (j + 1) = xs.take j ++ [x] := by rw [List.take_succ_eq_append_getElem hjx, hxe]
      have HTK := Lib.hid htk
      clear hcell hxe htk
      obtain ⟨m, ea, ec, es⟩ := x
      obtain ⟨n, hes⟩ : ∃ n, es.length = n := ⟨_, rfl⟩
      have c0 := hcx 0 (by decide)
      have c1 := hcx 1 (by decide)
      have c2 := hcx 2 (by decide)
      have c3 := hcx 3 (by decide)
      have c4 := hcx 4 (by decide)
      have c5 := hcx 5 (by decide)
      have c6 := hcx 6 (by decide)
      have c7 := hcx 7 (by decide)
      have c8 := hcx 8 (by decide)
      have c9 := hcx 9 (by decide)
      have c10 := hcx 10 (by decide)
      have c11 := hcx 11 (by decide)
      have c12 := hcx 12 (by decide)
      obtain ⟨kind, fr, to, te, ix, at_, co, me, off, sz, yes, data⟩ := m
      simp only [LI.cells, LI.ev, hes, List.getElem?_cons_zero, List.getElem?_cons_succ, Nat.add_zero] at c0 c1 c2 c3 c4 c5 c6 c7 c8 c9 c10 c11 c12 hrx
      clear hcx
      have hi1 : (0 : Int) ≤ (j : Int) := by omega
      have hi2 : (j : Int) < (sn : Int) := by omega
      have HS := Lib.hid hs
      have HOK := Lib.hid hok
      have HP := Lib.hid hp
      have HK := Lib.hid hk
      have HR := Lib.hid hrx
      have HN := Lib.hid hes
      clear hs hok hp hk hrx hes HL HE
      by_cases hR : RightP ⟨kind, fr, to, te, ix, at_, co, me, off, sz, yes, data⟩ es
      · have hPut := fun (z : World) (hz : Ext wr z) => lput_yes ⟨kind, fr, to, te, ix, at_, co, me, off, sz, yes, data⟩ ea ec n es HN.out z (HR.out.ext hz) hR
        simp only [Lt.agg] at hPut
        have HPut := Lib.hid hPut
        have hlp := ltL_pos ⟨kind, fr, to, te, ix, at_, co, me, off, sz, yes, data⟩ es
        generalize hLL : ltL ⟨kind, fr, to, te, ix, at_, co, me, off, sz, yes, data⟩ es = L at *
        have HLP := Lib.hid hlp
        have HRR := Lib.hid hR
        have HLL := Lib.hid hLL
        clear hPut hR hlp hLL
        go_wp2_with fail
        go_at_call 19
        refine (HPut.out _ ((Ext.refl wr).alloc _)).mono ?_
        rintro e y ⟨u, rfl, ho, hxy⟩
        obtain ⟨ug, uc, rfl⟩ := put_formN ho HLP.out
        have hub := own_blkE ho ⟨ug, 0, none⟩ _ _ rfl
        have hwr : wr.heap.size ≤ ug := by have := hub.2; simp at this; omega
        have TX : Ext wr y := ((Ext.refl wr).alloc _).trans hxy
        have HU := Lib.hid (Own8.rd ho)
        have hlpos : (0 : Int) < (L.length : Int) := by have := HLP.out; omega
        obtain ⟨v, vs, hNI⟩ := HP.out
        obtain ⟨va, vc, rfl, _, _⟩ := hNI.form
        rw [byL_len] at hNI
        obtain ⟨p0, f0⟩ := blkG (ext_blk TX hNI.blk) 0 _ rfl
        have hby := blk_lt (ext_blk TX hNI.blk)
        have hvl := (hNI.ext TX).own
        rw [byL_len] at hvl
        have HOW := Lib.hid hvl
        have HNI := Lib.hid (hNI.ext TX)
        have HTX := Lib.hid TX
        clear ho hxy hvl hNI TX HPut HP
        by_cases hfull : M.length < 160
        · have hf1 : (M.length : Int) < 160 := by omega
          go_wp2_with (at_builtin; refine wpList_own_push2 (w := y) rfl _ _ 38 rfl 0 53 53 i0 _ 1 24 Try.underlying38 hi hz0 hz1 hz2 rfl (by decide) _ M.length 1 1 _ [.slice (some ⟨ug, 0, none⟩) L.length uc] HOW.out rfl rfl rfl rfl ?c2 ?c3 ?c4 (Nat.zero_le _) ?_)
          case c2 => intro u hu; simp only [List.mem_cons, List.not_mem_nil, or_false] at hu; subst hu; rfl
          case c3 => unfold maxLen; omega
          case c4 => omega
          intro v7 w7 ho7 hb7 hap7
          obtain ⟨a7, c7, rfl⟩ := own_sl ho7
          have B7 := (hap7 b hby (fun a n c he => (HNI.out.sv a n c he).2)).1.trans HNI.out.blk
          obtain ⟨r0, g0⟩ := blkG B7 0 _ rfl
          have hbl7 := blk_lt B7
          have hyw : w.heap.size ≤ y.heap.size := Nat.le_trans HK.out.size HTX.out.size
          have hw7 := hb7.size
          have hPU := HNI.out.push (S2 := up S w (w7.setCell ⟨b, 0, none⟩ (.slice a7 (M.length + 1) c7))) (l := L) (fun k hs => by
              rcases hs with hs | hs
              · exact .inl hs
              · exact .inr ⟨hs.1, by have := HTX.out.size; simp; omega⟩)
            HU.out rfl (fun a n c he => by
              cases he
              refine ⟨.inr ⟨by have := HK.out.size; show _ ≤ ug; omega, by have := hub.1; show ug < _; simp at this ⊢; omega⟩, ?_, hub.1⟩
              rintro (hs | hs)
              · have := hlow2.out _ hs
                have := HK.out.size
                simp only at *
                omega
              · have := hs.2
                simp only at this
                omega)
            (by rw [byL_len]; exact ho7) hap7 hb7 (fun k h1 h2 => .inr ⟨by omega, by simpa using h2⟩) (fun k hs => by
              rcases hs with hs | hs
              · have := hlow2.out _ hs
                omega
              · simpa using hs.2)
          have hKK : KeepS S w (w7.setCell ⟨b, 0, none⟩ (.slice a7 (M.length + 1) c7)) := (HK.out.trans (KeepS.of_ext HTX.out)).after hPU.2 (fun i hi hs => by
            rcases hs with hs | hs
            · exact hs
            · omega)
          have hone : OneR M ⟨⟨kind, fr, to, te, ix, at_, co, me, off, sz, yes, data⟩, ea, ec, es⟩ (M ++ [(⟨kind, fr, to, te, ix, at_, co, me, off, sz, yes, data⟩, es)]) := .inl ⟨HRR.out, hfull, rfl⟩
          have hby2 : byL (M ++ [(⟨kind, fr, to, te, ix, at_, co, me, off, sz, yes, data⟩, es)]) = byL M ++ [L] := by simp [byL, HLL.out]
          have FIN : Hid (SendR N (xs.take (j + 1)) (M ++ [(⟨kind, fr, to, te, ix, at_, co, me, off, sz, yes, data⟩, es)]) ∧ OkN (M ++ [(⟨kind, fr, to, te, ix, at_, co, me, off, sz, yes, data⟩, es)]) ∧ (M ++ [((⟨kind, fr, to, te, ix, at_, co, me, off, sz, yes, data⟩ : Lt), es)]).length ≤ 160 ∧ NetP NT (up S w (w7.setCell ⟨b, 0, none⟩ (.slice a7 (M.length + 1) c7))) (w7.setCell ⟨b, 0, none⟩ (.slice a7 (M.length + 1) c7)) b (byL (M ++ [(⟨kind, fr, to, te, ix, at_, co, me, off, sz, yes, data⟩, es)])) side ∧ KeepS S w (w7.setCell ⟨b, 0, none⟩ (.slice a7 (M.length + 1) c7))) := Lib.hid ⟨by rw [HTK.out]; exact SendR.snoc HS.out hone, (hone.ok HOK.out hm2).1, (hone.ok HOK.out hm2).2.1, by rw [hby2]; exact ⟨_, _, hPU.1⟩, hKK⟩
          clear ho7 hb7 hap7 B7 hPU hKK hone hby2 HU HNI HOW HOK HS HK HRR HLL HTK HR
          go_wp2
          refine ⟨⟨j + 1, _, by omega, by simp, FIN.out⟩, by simp [intOf]; omega⟩
        · have hf1 : ¬ (M.length : Int) < 160 := by omega
          have hone : OneR M ⟨⟨kind, fr, to, te, ix, at_, co, me, off, sz, yes, data⟩, ea, ec, es⟩ M := .inr ⟨.inr (by omega), rfl⟩
          have FIN : Hid (SendR N (xs.take (j + 1)) M ∧ OkN M ∧ M.length ≤ 160 ∧ NetP NT (up S w y) y b (byL M) side ∧ KeepS S w y) := Lib.hid ⟨by rw [HTK.out]; exact SendR.snoc HS.out hone, HOK.out, hm2, ⟨_, _, HNI.out.up (fun k hs => by
              rcases hs with hs | hs
              · exact .inl hs
              · exact .inr ⟨hs.1, Nat.lt_of_lt_of_le hs.2 HTX.out.size⟩) (up_low hlow2.out (Nat.le_trans HK.out.size HTX.out.size))⟩, HK.out.trans (KeepS.of_ext HTX.out)⟩
          clear hone HU HNI HOW HOK HS HK HRR HLL HTK HR
          go_wp2
          refine ⟨⟨j + 1, _, by omega, by simp, FIN.out⟩, by simp [intOf]; omega⟩
      · have hPut := fun (z : World) (hz : Ext wr z) => lput_no ⟨kind, fr, to, te, ix, at_, co, me, off, sz, yes, data⟩ ea ec n es HN.out z (HR.out.ext hz) hR
        simp only [Lt.agg] at hPut
        have HPut := Lib.hid hPut
        have hone : OneR M ⟨⟨kind, fr, to, te, ix, at_, co, me, off, sz, yes, data⟩, ea, ec, es⟩ M := .inr ⟨.inl hR, rfl⟩
        have HONE := Lib.hid hone
        clear hPut hR hone
        go_wp2_with fail
        go_at_call 19
        refine (HPut.out _ ((Ext.refl wr).alloc _)).mono ?_
        rintro e y ⟨rfl, hxy⟩
        have HTX : Hid (Ext wr y) := Lib.hid (((Ext.refl wr).alloc _).trans hxy)
        have FIN : Hid (SendR N (xs.take (j + 1)) M ∧ OkN M ∧ M.length ≤ 160 ∧ NetP NT (up S w y) y b (byL M) side ∧ KeepS S w y) := Lib.hid ⟨by rw [HTK.out]; exact SendR.snoc HS.out HONE.out, HOK.out, hm2, by
          obtain ⟨v, vs, hNI⟩ := HP.out
          exact ⟨_, _, (hNI.ext HTX.out).up (fun k hs => by
              rcases hs with hs | hs
              · exact .inl hs
              · exact .inr ⟨hs.1, Nat.lt_of_lt_of_le hs.2 HTX.out.size⟩) (up_low hlow2.out (Nat.le_trans HK.out.size HTX.out.size))⟩, HK.out.trans (KeepS.of_ext HTX.out)⟩
        clear hxy HP HOK HS HK HTK HR HPut HONE
        go_wp2
        refine ⟨⟨j + 1, _, by omega, by simp, FIN.out⟩, by simp [intOf]; omega⟩
    · obtain rfl : j = sn := by omega
      have htk : xs.take j = xs := List.take_of_length_le (by omega)
      rw [htk] at hs
      have FIN := Lib.hid (And.intro hs (And.intro hok (And.intro hm2 (And.intro hp hk))))
      clear hs hok hp hk HL HE
      go_wp2
      go_end0
      exact ⟨rfl, M, FIN.out⟩
end
end
end Go.Proofs.Ytognipephfedkaa
