/- The law KindTakes: must. -/
import Derived.Test.YtdojgdeadhhldaaKindTk1
namespace Go.Proofs.Ytdojgdeadhhldaa
open Go.RowKit

theorem ext_keepR {a b c : World} {r : Nat} (h : Ext a b) (hk : KeepR r b c) (hr : a.heap.size ≤ r) : Ext a c := Below.trans h (hk.below hr h.size)
theorem blk {w : World} {b : Nat} {C : Array Value} {T : TypeId} (h : w.heap[b]? = some (.cells C T (0, 0))) (o : Nat) (v : Value) (hv : C[o]? = some v) : w.cell? ⟨b, o, none⟩ = some v ∧ w.frozen? ⟨b, o, none⟩ = false := by
  constructor
  · simp [World.cell?, h, hv]
  · simp [World.frozen?, h]

theorem blk_lt {w : World} {b : Nat} {o : Obj} (h : w.heap[b]? = some o) : b < w.heap.size := (Array.getElem?_eq_some_iff.1 h).1
theorem ext_blk {a z : World} {b : Nat} {o : Obj} (h : Ext a z) (H : a.heap[b]? = some o) : z.heap[b]? = some o := (Below.block h b (blk_lt H)).trans H
theorem keep_blk {a z : World} {r b : Nat} {o : Obj} (h : KeepR r a z) (H : a.heap[b]? = some o) (hne : b ≠ r) : z.heap[b]? = some o := (h.block b (blk_lt H) hne).trans H
theorem alloc_blk {a : World} {b : Nat} {o o' : Obj} (H : a.heap[b]? = some o) : (a.alloc o').heap[b]? = some o := (Below.heap_alloc a o' b (blk_lt H)).trans H
theorem new_blk (a : World) (o : Obj) : (a.alloc o).heap[a.heap.size]? = some o := heap_alloc_new a o
theorem set_blk {a : World} {b r i : Nat} {o : Obj} {u : Value} (H : a.heap[b]? = some o) (hne : b ≠ r) : (a.setCell ⟨r, i, none⟩ u).heap[b]? = some o := (Below.heap_setCell a ⟨r, i, none⟩ u b hne).trans H
theorem set2_blk {a : World} {b : Nat} {p q : Value} {T : TypeId} (H : a.heap[b]? = some (.cells #[p, q] T (0, 0))) (u u' : Value) : ((a.setCell ⟨b, 0, none⟩ u).setCell ⟨b, 1, none⟩ u').heap[b]? = some (.cells #[u, u'] T (0, 0)) :=
  heap_setCell_same _ _ _ _ _ _ (heap_setCell_same _ _ _ _ _ _ H)

/-- The closures: what must be a number, a text, a day. -/
theorem tkInt_yes (v : Value) (L : List V) (D : Nat) (w0 : World) (B : Nat) (h : TellsB w0 B v L D) (hk : kindOf L = 1) (bv bx : Nat) (u : Value) (w : World) (hv : w.heap[bv]? = some (.cells #[v] 25 (0, 0))) (hx : w.heap[bx]? = some (.cells #[u] 3 (0, 0))) :
    Calls Try.prog 42 #[.pointer (some ⟨bv, 0, none⟩), .pointer (some ⟨bx, 0, none⟩)] w fun e w' => e = .returned (.tuple #[]) ∧ KeepR bx w w' ∧ w'.heap[bx]? = some (.cells #[.int .i64 (hd L).n] 3 (0, 0)) := by
  obtain ⟨cv, _⟩ := blk hv 0 v rfl
  have hlt := (Array.getElem?_eq_some_iff.1 hx).1
  have HX := Lib.hid hx
  clear hv hx
  go_enter Try.func42, Try.ntmps42
  go_wp2_with (go_at_call 18; refine (MustInt_yes v L D w0 B h hk _).mono ?_; rintro e y ⟨rfl, hy⟩; have b1 := Lib.hid ((Below.block hy bx hlt).trans HX.out); obtain ⟨cx, fx⟩ := blk b1.out 0 u rfl)
  go_end0
  exact ⟨rfl, (KeepR.of_ext hy).set _, by rw [heap_setCell_same _ _ _ _ _ _ b1.out]; rfl⟩
theorem tkInt_no (v : Value) (L : List V) (D : Nat) (w0 : World) (B : Nat) (h : TellsB w0 B v L D) (hk : kindOf L ≠ 1) (bv bx : Nat) (w : World) (hv : w.heap[bv]? = some (.cells #[v] 25 (0, 0))) :
    Calls Try.prog 42 #[.pointer (some ⟨bv, 0, none⟩), .pointer (some ⟨bx, 0, none⟩)] w fun e w' => e = .panicked (wrongP 1 (kindOf L)) ∧ Ext w w' := by
  obtain ⟨cv, _⟩ := blk hv 0 v rfl
  clear hv
  go_enter Try.func42, Try.ntmps42
  go_wp2_with (go_at_call 18; refine (MustInt_no v L D w0 B h hk _).mono ?_; rintro e y ⟨rfl, hy⟩)
  exact ⟨rfl, rfl, hy⟩
theorem tkText_yes (v : Value) (L : List V) (D : Nat) (w0 : World) (B : Nat) (h : TellsB w0 B v L D) (hk : kindOf L = 2) (bv bx : Nat) (u : Value) (w : World) (hv : w.heap[bv]? = some (.cells #[v] 25 (0, 0))) (hx : w.heap[bx]? = some (.cells #[u] 9 (0, 0))) :
    Calls Try.prog 43 #[.pointer (some ⟨bv, 0, none⟩), .pointer (some ⟨bx, 0, none⟩)] w fun e w' => e = .returned (.tuple #[]) ∧ KeepR bx w w' ∧ w'.heap[bx]? = some (.cells #[.string (hd L).text] 9 (0, 0)) := by
  obtain ⟨cv, _⟩ := blk hv 0 v rfl
  have hlt := (Array.getElem?_eq_some_iff.1 hx).1
  have HX := Lib.hid hx
  clear hv hx
  go_enter Try.func43, Try.ntmps43
  go_wp2_with (go_at_call 44; refine (MustText_yes v L D w0 B h hk _).mono ?_; rintro e y ⟨rfl, hy⟩; have b1 := Lib.hid ((Below.block hy bx hlt).trans HX.out); obtain ⟨cx, fx⟩ := blk b1.out 0 u rfl)
  go_end0
  exact ⟨rfl, (KeepR.of_ext hy).set _, by rw [heap_setCell_same _ _ _ _ _ _ b1.out]; rfl⟩
theorem tkText_no (v : Value) (L : List V) (D : Nat) (w0 : World) (B : Nat) (h : TellsB w0 B v L D) (hk : kindOf L ≠ 2) (bv bx : Nat) (w : World) (hv : w.heap[bv]? = some (.cells #[v] 25 (0, 0))) :
    Calls Try.prog 43 #[.pointer (some ⟨bv, 0, none⟩), .pointer (some ⟨bx, 0, none⟩)] w fun e w' => e = .panicked (wrongP 2 (kindOf L)) ∧ Ext w w' := by
  obtain ⟨cv, _⟩ := blk hv 0 v rfl
  clear hv
  go_enter Try.func43, Try.ntmps43
  go_wp2_with (go_at_call 44; refine (MustText_no v L D w0 B h hk _).mono ?_; rintro e y ⟨rfl, hy⟩)
  exact ⟨rfl, rfl, hy⟩
theorem tkDate_yes (v : Value) (L : List V) (D : Nat) (w0 : World) (B : Nat) (h : TellsB w0 B v L D) (hk : kindOf L = 4) (bv bx : Nat) (u0 u1 u2 : Value) (w : World) (hv : w.heap[bv]? = some (.cells #[v] 25 (0, 0))) (hx : w.heap[bx]? = some (.cells #[u0, u1, u2] 30 (0, 0))) :
    Calls Try.prog 45 #[.pointer (some ⟨bv, 0, none⟩), .pointer (some ⟨bx, 0, none⟩)] w fun e w' => e = .returned (.tuple #[]) ∧ KeepR bx w w' ∧ w'.heap[bx]? = some (.cells #[.int .i64 (hd L).y, .int .i64 (hd L).m, .int .i64 (hd L).d] 30 (0, 0)) := by
  obtain ⟨cv, _⟩ := blk hv 0 v rfl
  have hlt := (Array.getElem?_eq_some_iff.1 hx).1
  have HX := Lib.hid hx
  clear hv hx
  go_enter Try.func45, Try.ntmps45
  go_wp2_with (go_at_call 46; refine (MustDate_yes v L D w0 B h hk _).mono ?_; rintro e y ⟨rfl, hy⟩; have b1 := Lib.hid ((Below.block hy bx hlt).trans HX.out); obtain ⟨cx, fx⟩ := blk b1.out 0 u0 rfl; obtain ⟨cx1, fx1⟩ := blk b1.out 1 u1 rfl; obtain ⟨cx2, fx2⟩ := blk b1.out 2 u2 rfl)
  go_end0
  refine ⟨rfl, (((KeepR.of_ext hy).set _).set _).set _, ?_⟩
  rw [heap_setCell_same _ _ _ _ _ _ (heap_setCell_same _ _ _ _ _ _ (heap_setCell_same _ _ _ _ _ _ b1.out))]
  rfl
theorem tkDate_no (v : Value) (L : List V) (D : Nat) (w0 : World) (B : Nat) (h : TellsB w0 B v L D) (hk : kindOf L ≠ 4) (bv bx : Nat) (w : World) (hv : w.heap[bv]? = some (.cells #[v] 25 (0, 0))) :
    Calls Try.prog 45 #[.pointer (some ⟨bv, 0, none⟩), .pointer (some ⟨bx, 0, none⟩)] w fun e w' => e = .panicked (wrongP 4 (kindOf L)) ∧ Ext w w' := by
  obtain ⟨cv, _⟩ := blk hv 0 v rfl
  clear hv
  go_enter Try.func45, Try.ntmps45
  go_wp2_with (go_at_call 46; refine (MustDate_no v L D w0 B h hk _).mono ?_; rintro e y ⟨rfl, hy⟩)
  exact ⟨rfl, rfl, hy⟩
end Go.Proofs.Ytdojgdeadhhldaa
