/- Package letter: Get. (Written by genGet.py.) -/
import Derived.Test.YtognipephfedkaaLetS
import Derived.Test.YtognipephfedkaaOwn2
namespace Go.Proofs.Ytognipephfedkaa
open Go.RowKit

def zeroM : Array Value := #[.int .i64 0, .int .i64 0, .int .i64 0, .int .i64 0, .int .i64 0, .int .i64 0, .int .i64 0, .int .i64 0, .int .i64 0, .int .i64 0, .bool false, .string ⟨#[]⟩, .slice none 0 0]
/-- The letter's cells, all numbers read. -/
def mFull (bs : List UInt8) (f : Bool) (t : ByteArray) (ev : Value) : Array Value := #[.int .i64 (vN bs 0), .int .i64 (vN bs 1), .int .i64 (vN bs 2), .int .i64 (vN bs 3), .int .i64 (vN bs 4), .int .i64 (vN bs 5), .int .i64 (vN bs 6), .int .i64 (vN bs 7), .int .i64 (vN bs 8), .int .i64 (vN bs 9), .bool f, .string t, ev]
theorem mArr_full (bs : List UInt8) : mArr bs 10 = mFull bs false ⟨#[]⟩ (.slice none 0 0) := by
  simp [mArr, mFull, List.range_succ]
theorem mArr_zero (bs : List UInt8) : mArr bs 0 = zeroM := by
  simp [mArr, zeroM, List.range_succ]
/-- The state of a reading: the reader, the letter's cells, the result's cells. -/
structure GI (w : World) (r bm : Nat) (bs : List UInt8) (B T : Nat) (wr : World) (A : Array Value) (s : RS) : Prop where
  rd : RdX B T wr r bs s
  mb : wr.heap[bm]? = some (.cells A 27 (0, 0))
  zb : wr.heap[w.heap.size]? = some (.cells zeroM 27 (0, 0))
  ext : Ext w wr
theorem GI.keep {w wr y : World} {r bm B T : Nat} {bs : List UInt8} {A : Array Value} {s s' : RS} (h : GI w r bm bs B T wr A s) (hrd : RdX B T y r bs s') (hk : KeepR r wr y) (hr : w.heap.size < r) (hm : bm ≠ r) : GI w r bm bs B T y A s' :=
  ⟨hrd, keep_blk hk h.mb hm, keep_blk hk h.zb (by omega), Ext.keep h.ext hk (by omega)⟩
theorem GI.setM {w wr : World} {r bm B T : Nat} {bs : List UInt8} {A A' : Array Value} {s : RS} (h : GI w r bm bs B T wr A s) (o : Nat) (u : Value) (hA : A.setIfInBounds o u = A') (hT : T ≤ bm) (hm : w.heap.size < bm) : GI w r bm bs B T (wr.setCell ⟨bm, o, none⟩ u) A' s :=
  ⟨h.rd.keep ((KeepR.refl bm wr).set u) (.inr hT), by rw [heap_setCell_same _ _ _ _ _ _ h.mb, hA], set_blk h.zb (by omega), h.ext.setCell (Nat.le_of_lt hm) _⟩
theorem GI.setO {w wr : World} {r bm b B T : Nat} {bs : List UInt8} {A : Array Value} {s : RS} (h : GI w r bm bs B T wr A s) (o : Nat) (u : Value) (hT : T ≤ b) (hb : bm < b) (hm : w.heap.size < b) : GI w r bm bs B T (wr.setCell ⟨b, o, none⟩ u) A s :=
  ⟨h.rd.keep ((KeepR.refl b wr).set u) (.inr hT), set_blk h.mb (by omega), set_blk h.zb (by omega), h.ext.setCell (Nat.le_of_lt hm) _⟩
theorem GI.grow {w wr y : World} {r bm B T : Nat} {bs : List UInt8} {A : Array Value} {s : RS} (h : GI w r bm bs B T wr A s) (hx : Ext wr y) : GI w r bm bs B T y A s :=
  ⟨h.rd.ext hx, ext_blk hx h.mb, ext_blk hx h.zb, h.ext.trans hx⟩
theorem GI.below {w wr y : World} {r bm B T C : Nat} {bs : List UInt8} {A : Array Value} {s : RS} (h : GI w r bm bs B T wr A s) (hb : Below C wr y) (hT : T ≤ C) (hm : bm < C) (hw : w.heap.size < C) : GI w r bm bs B T y A s :=
  ⟨h.rd.frame hb.size (fun k _ hk _ => Below.block hb k (by omega)), below_blk hb hm h.mb, below_blk hb hw h.zb, Below.trans h.ext (Below.mono hb (Nat.le_of_lt hw))⟩
theorem own_keepE {w w' : World} {B e s n : Nat} {u : Value} {xs : List Value} (h : w.ownsRow B e s u n xs) (hk : ∀ a m c, u = .slice (some a) m c → w'.heap[a.block]? = w.heap[a.block]?) : w'.ownsRow B e s u n xs := by
  obtain ⟨h1, h2⟩ := h
  refine ⟨h1, ?_⟩
  rcases h2 with h2 | ⟨gg, cc, cur, rfl, h3, h4, h5⟩
  · exact .inl h2
  · exact .inr ⟨gg, cc, cur, rfl, h3, (hk _ _ _ rfl).trans h4, h5⟩
theorem own_blkE {w : World} {B e s n : Nat} {u : Value} {xs : List Value} (h : w.ownsRow B e s u n xs) : ∀ a m c, u = .slice (some a) m c → a.block < w.heap.size ∧ B ≤ a.block := by
  rintro a m c rfl
  rcases h.2 with ⟨h0, _⟩ | ⟨gg, cc, cur, h0, hB, h2, _⟩
  · cases h0
  · simp only [Value.slice.injEq, Option.some.injEq] at h0
    rw [h0.1]
    exact ⟨(Array.getElem?_eq_some_iff.1 h2).1, hB⟩
theorem OwnS.setO {α : Type} {c : α → List Value} {sz : Nat} {te : TypeId} {w : World} {B b o : Nat} {v u : Value} {xs : List α} (h : OwnS c sz te w B v xs) (hb : ∀ a m c', v = .slice (some a) m c' → a.block ≠ b) : OwnS c sz te (w.setCell ⟨b, o, none⟩ u) B v xs :=
  own_keepE h fun a m c' he => Below.heap_setCell _ _ _ _ (hb a m c' he)
section
variable {B T r : Nat} {bs : List UInt8} {w : World}
theorem num_k (k : Nat) (h : RdX B T w r bs (stN bs k)) : Calls Try.prog 48 #[.pointer (some ⟨r, 0, none⟩)] w fun x w' => x = .returned (.int .i64 (vN bs k)) ∧ RdX B T w' r bs (stN bs (k + 1)) ∧ KeepR r w w' := num_x h
theorem flag_k (h : RdX B T w r bs (stN bs 10)) : Calls Try.prog 49 #[.pointer (some ⟨r, 0, none⟩)] w fun x w' => x = .returned (.bool (flR bs).1) ∧ RdX B T w' r bs (flR bs).2 ∧ KeepR r w w' := flag_x h
theorem text_k (h : RdX B T w r bs (flR bs).2) : Calls Try.prog 50 #[.pointer (some ⟨r, 0, none⟩), .int .i64 600] w fun x w' => x = .returned (.string ⟨(txR bs).1.toArray⟩) ∧ RdX B T w' r bs (txR bs).2 ∧ KeepR r w w' := text_x h 600
theorem count_k (h : RdX B T w r bs (txR bs).2) : Calls Try.prog 51 #[.pointer (some ⟨r, 0, none⟩), .int .i64 8] w fun x w' => x = .returned (.int .i64 (gN bs : Int)) ∧ RdX B T w' r bs (coR bs).2 ∧ KeepR r w w' := by
  have := count_x h 8
  have e : (rCount bs (txR bs).2 8).1 = (gN bs : Int) := (gN_cast bs).1
  rw [e] at this
  exact this
def e1R (bs : List UInt8) (s : RS) : Int × RS := rNum bs s
def e2R (bs : List UInt8) (s : RS) : Int × RS := rNum bs (e1R bs s).2
def e3R (bs : List UInt8) (s : RS) : List UInt8 × RS := rText bs (e2R bs s).2 1100
theorem entR_is (bs : List UInt8) (s : RS) : entR bs s = (⟨(e1R bs s).1, (e2R bs s).1, ⟨(e3R bs s).1.toArray⟩⟩, (e3R bs s).2) := rfl
theorem ent1_k (s : RS) (h : RdX B T w r bs s) : Calls Try.prog 48 #[.pointer (some ⟨r, 0, none⟩)] w fun x w' => x = .returned (.int .i64 (e1R bs s).1) ∧ RdX B T w' r bs (e1R bs s).2 ∧ KeepR r w w' := num_x h
theorem ent2_k (s : RS) (h : RdX B T w r bs (e1R bs s).2) : Calls Try.prog 48 #[.pointer (some ⟨r, 0, none⟩)] w fun x w' => x = .returned (.int .i64 (e2R bs s).1) ∧ RdX B T w' r bs (e2R bs s).2 ∧ KeepR r w w' := num_x h
theorem ent3_k (s : RS) (h : RdX B T w r bs (e2R bs s).2) : Calls Try.prog 50 #[.pointer (some ⟨r, 0, none⟩), .int .i64 1100] w fun x w' => x = .returned (.string ⟨(e3R bs s).1.toArray⟩) ∧ RdX B T w' r bs (e3R bs s).2 ∧ KeepR r w w' := text_x h 1100
end
/-- What a Get leaves. -/
def GetPost (w : World) (bs : List UInt8) (e : Ending) (w' : World) : Prop :=
  ∃ m es ev err, e = .returned (.tuple #[m.agg ev, .int .i64 err]) ∧ OwnS Ent.cells 3 49 w' w.heap.size ev es ∧ GetIs bs m es err ∧ Ext w w'

set_option maxHeartbeats 16000000 in
set_option maxRecDepth 100000 in
theorem lget_any (v : Value) (bs : List UInt8) (w : World) (hr : Rd8 w v bs) (hb : bs.length ≤ 140737488355328) : Calls Try.prog 32 #[v] w (GetPost w bs) := by
  obtain ⟨i0, hi, iz0, iz1, iz2⟩ := info_parts Try.infoEnt
  have hread := read_new v bs (w.alloc (.cells #[.int .i64 0, .int .i64 0, .int .i64 0, .int .i64 0, .int .i64 0, .int .i64 0, .int .i64 0, .int .i64 0, .int .i64 0, .int .i64 0, .bool false, .string ⟨#[]⟩, .slice none 0 0] 27)) (hr.ext ((Ext.refl w).alloc _)) hb
  have HRD := Lib.hid hread
  have hZ0 : (w.alloc (.cells #[.int .i64 0, .int .i64 0, .int .i64 0, .int .i64 0, .int .i64 0, .int .i64 0, .int .i64 0, .int .i64 0, .int .i64 0, .int .i64 0, .bool false, .string ⟨#[]⟩, .slice none 0 0] 27)).heap[w.heap.size]? = some (.cells zeroM 27 (0, 0)) := new_blk w _
  have HZ0 := Lib.hid hZ0
  clear hread hZ0 hr hb
  go_enter Try.func32, Try.ntmps32
  go_wp2_with (go_at_call 47; refine HRD.out.mono ?_; rintro e w1 ⟨r, rfl, hrd, hx1⟩)
  have hX1 : Ext w w1 := Ext.trans ((Ext.refl w).alloc _) hx1
  obtain ⟨hr1, hr2, hr3, _, _⟩ := hrd.r_in
  have hrB : w.heap.size < r := by simp at hr1; omega
  have hrM : w1.heap.size ≠ r := by omega
  have hrT : r < w1.heap.size := by omega
  have hwM : w.heap.size < w1.heap.size := by omega
  have hrd' : RdX (w.heap.size + 1) w1.heap.size w1 r bs ⟨0, 0⟩ := by simpa using hrd
  have hX2 : Ext w1 ((w1.alloc (.cells #[.int .i64 0, .int .i64 0, .int .i64 0, .int .i64 0, .int .i64 0, .int .i64 0, .int .i64 0, .int .i64 0, .int .i64 0, .int .i64 0, .bool false, .string ⟨#[]⟩, .slice none 0 0] 27)).alloc (.cells #[.pointer (some ⟨w1.heap.size, 0, none⟩), .pointer (some ⟨w1.heap.size, 1, none⟩), .pointer (some ⟨w1.heap.size, 2, none⟩), .pointer (some ⟨w1.heap.size, 3, none⟩), .pointer (some ⟨w1.heap.size, 4, none⟩), .pointer (some ⟨w1.heap.size, 5, none⟩), .pointer (some ⟨w1.heap.size, 6, none⟩), .pointer (some ⟨w1.heap.size, 7, none⟩), .pointer (some ⟨w1.heap.size, 8, none⟩), .pointer (some ⟨w1.heap.size, 9, none⟩)] 78)) := ((Ext.refl w1).alloc _).alloc _
  have hG : GI w r w1.heap.size bs (w.heap.size + 1) w1.heap.size ((w1.alloc (.cells #[.int .i64 0, .int .i64 0, .int .i64 0, .int .i64 0, .int .i64 0, .int .i64 0, .int .i64 0, .int .i64 0, .int .i64 0, .int .i64 0, .bool false, .string ⟨#[]⟩, .slice none 0 0] 27)).alloc (.cells #[.pointer (some ⟨w1.heap.size, 0, none⟩), .pointer (some ⟨w1.heap.size, 1, none⟩), .pointer (some ⟨w1.heap.size, 2, none⟩), .pointer (some ⟨w1.heap.size, 3, none⟩), .pointer (some ⟨w1.heap.size, 4, none⟩), .pointer (some ⟨w1.heap.size, 5, none⟩), .pointer (some ⟨w1.heap.size, 6, none⟩), .pointer (some ⟨w1.heap.size, 7, none⟩), .pointer (some ⟨w1.heap.size, 8, none⟩), .pointer (some ⟨w1.heap.size, 9, none⟩)] 78)) (mArr bs 0) (stN bs 0) :=
    ⟨hrd'.ext hX2, alloc_blk (by rw [mArr_zero]; exact new_blk w1 _), ext_blk (hx1.trans hX2) HZ0.out, hX1.trans hX2⟩
  have hP : ((w1.alloc (.cells #[.int .i64 0, .int .i64 0, .int .i64 0, .int .i64 0, .int .i64 0, .int .i64 0, .int .i64 0, .int .i64 0, .int .i64 0, .int .i64 0, .bool false, .string ⟨#[]⟩, .slice none 0 0] 27)).alloc (.cells #[.pointer (some ⟨w1.heap.size, 0, none⟩), .pointer (some ⟨w1.heap.size, 1, none⟩), .pointer (some ⟨w1.heap.size, 2, none⟩), .pointer (some ⟨w1.heap.size, 3, none⟩), .pointer (some ⟨w1.heap.size, 4, none⟩), .pointer (some ⟨w1.heap.size, 5, none⟩), .pointer (some ⟨w1.heap.size, 6, none⟩), .pointer (some ⟨w1.heap.size, 7, none⟩), .pointer (some ⟨w1.heap.size, 8, none⟩), .pointer (some ⟨w1.heap.size, 9, none⟩)] 78)).heap[w1.heap.size + 1]? = some (.cells (((List.range 10).map fun j => Value.pointer (some ⟨w1.heap.size, j, none⟩)).toArray) 78 (0, 0)) := by
    have h1 := new_blk (w1.alloc (.cells #[.int .i64 0, .int .i64 0, .int .i64 0, .int .i64 0, .int .i64 0, .int .i64 0, .int .i64 0, .int .i64 0, .int .i64 0, .int .i64 0, .bool false, .string ⟨#[]⟩, .slice none 0 0] 27)) (.cells #[.pointer (some ⟨w1.heap.size, 0, none⟩), .pointer (some ⟨w1.heap.size, 1, none⟩), .pointer (some ⟨w1.heap.size, 2, none⟩), .pointer (some ⟨w1.heap.size, 3, none⟩), .pointer (some ⟨w1.heap.size, 4, none⟩), .pointer (some ⟨w1.heap.size, 5, none⟩), .pointer (some ⟨w1.heap.size, 6, none⟩), .pointer (some ⟨w1.heap.size, 7, none⟩), .pointer (some ⟨w1.heap.size, 8, none⟩), .pointer (some ⟨w1.heap.size, 9, none⟩)] 78)
    have e1 : (w1.alloc (.cells #[.int .i64 0, .int .i64 0, .int .i64 0, .int .i64 0, .int .i64 0, .int .i64 0, .int .i64 0, .int .i64 0, .int .i64 0, .int .i64 0, .bool false, .string ⟨#[]⟩, .slice none 0 0] 27)).heap.size = w1.heap.size + 1 := by simp
    rw [e1] at h1
    rw [h1]
    simp [List.range_succ]
  have HG0 := Lib.hid hG
  have HP0 := Lib.hid hP
  clear hG hP hrd hrd' hX2 hX1 hx1 hr1 hr2 hr3
  generalize ((w1.alloc (.cells #[.int .i64 0, .int .i64 0, .int .i64 0, .int .i64 0, .int .i64 0, .int .i64 0, .int .i64 0, .int .i64 0, .int .i64 0, .int .i64 0, .bool false, .string ⟨#[]⟩, .slice none 0 0] 27)).alloc (.cells #[.pointer (some ⟨w1.heap.size, 0, none⟩), .pointer (some ⟨w1.heap.size, 1, none⟩), .pointer (some ⟨w1.heap.size, 2, none⟩), .pointer (some ⟨w1.heap.size, 3, none⟩), .pointer (some ⟨w1.heap.size, 4, none⟩), .pointer (some ⟨w1.heap.size, 5, none⟩), .pointer (some ⟨w1.heap.size, 6, none⟩), .pointer (some ⟨w1.heap.size, 7, none⟩), .pointer (some ⟨w1.heap.size, 8, none⟩), .pointer (some ⟨w1.heap.size, 9, none⟩)] 78)) = W2 at *
  go_loopw [24] (fun iv wr => ∃ k : Nat, k ≤ 10 ∧ iv = .int .i64 (k : Int) ∧ Hid (GI w r w1.heap.size bs (w.heap.size + 1) w1.heap.size wr (mArr bs k) (stN bs k)) ∧ Hid (wr.heap[w1.heap.size + 1]? = some (.cells (((List.range 10).map fun j => Value.pointer (some ⟨w1.heap.size, j, none⟩)).toArray) 78 (0, 0)))) (fun iv _ => 10 - (intOf iv).toNat)
  case atStart => exact ⟨0, by omega, rfl, HG0, HP0⟩
  case round =>
    obtain ⟨k, hk, rfl, HG, HP⟩ := hrel
    by_cases hlt : k < 10
    · have hki : (k : Int) < 10 := by omega
      have hki0 : (0 : Int) ≤ (k : Int) := by omega
      obtain ⟨hcell, _⟩ := blkG HP.out k (.pointer (some ⟨w1.heap.size, k, none⟩)) (by simp [hlt])
      go_wp2_with (go_at_call 48; refine (num_k k HG.out.rd).mono ?_; rintro e y ⟨rfl, hrd, hkp⟩; have HG1 := Lib.hid (HG.out.keep hrd hkp hrB hrM); obtain ⟨ck, fk⟩ := blkG HG1.out.mb k _ (mArr_at bs k hlt))
      go_roundw
      case rel => exact ⟨k + 1, by omega, by simp, Lib.hid (HG1.out.setM k _ (mArr_set bs k hlt) (Nat.le_refl _) hwM), Lib.hid (set_blk (keep_blk hkp HP.out (by omega)) (by omega))⟩
      case measure => simp [intOf]; omega
    · have hki : ¬ (k : Int) < 10 := by omega
      obtain rfl : k = 10 := by omega
      have HG1 : Hid (GI w r w1.heap.size bs (w.heap.size + 1) w1.heap.size wr (mFull bs false ⟨#[]⟩ (.slice none 0 0)) (stN bs 10)) := Lib.hid (by rw [← mArr_full]; exact HG.out)
      clear HG HP
      go_wp2_with (first
        | (go_at_call 49; refine (flag_k HG1.out.rd).mono ?_; rintro e y1 ⟨rfl, hrd1, hk1⟩; have HG2 := Lib.hid (HG1.out.keep hrd1 hk1 hrB hrM); obtain ⟨c10, f10⟩ := blkG HG2.out.mb 10 _ rfl; have HG3 : Hid (GI w r w1.heap.size bs (w.heap.size + 1) w1.heap.size _ (mFull bs (flR bs).1 ⟨#[]⟩ (.slice none 0 0)) _) := Lib.hid (HG2.out.setM 10 (.bool (flR bs).1) rfl (Nat.le_refl _) hwM))
        | (go_at_call 50; refine (text_k HG3.out.rd).mono ?_; rintro e y2 ⟨rfl, hrd2, hk2⟩; have HG4 := Lib.hid (HG3.out.keep hrd2 hk2 hrB hrM); obtain ⟨c11, f11⟩ := blkG HG4.out.mb 11 _ rfl; have HG5 : Hid (GI w r w1.heap.size bs (w.heap.size + 1) w1.heap.size _ (mFull bs (flR bs).1 ⟨(txR bs).1.toArray⟩ (.slice none 0 0)) _) := Lib.hid (HG4.out.setM 11 (.string ⟨(txR bs).1.toArray⟩) rfl (Nat.le_refl _) hwM))
        | (go_at_call 51; refine (count_k HG5.out.rd).mono ?_; rintro e y3 ⟨rfl, hrd3, hk3⟩; have HG6 := Lib.hid (HG5.out.keep hrd3 hk3 hrB hrM)))
      have hn8 := (gN_cast bs).2
      have hmlt := blk_lt HG6.out.mb
      obtain ⟨s0, hs0⟩ : ∃ s, (coR bs).2 = s := ⟨_, rfl⟩
      rw [hs0] at HG6
      have HS0 := Lib.hid hs0
      have HGN : Hid (∀ n, n = gN bs → True) := Lib.hid fun _ _ => trivial
      clear HG1 HG2 HG3 HG4 HG5 c10 f10 c11 f11 hrd1 hrd2 hrd3 hk1 hk2 hk3 hs0
      obtain ⟨nn, hnn⟩ : ∃ n, gN bs = n := ⟨_, rfl⟩
      rw [hnn] at hn8 ⊢
      have HNN := Lib.hid hnn
      clear hnn
      go_loopw [41] (fun iv wq => ∃ (k : Nat) (ev : Value), k ≤ nn ∧ iv = .int .i64 (k : Int) ∧ Hid (GI w r w1.heap.size bs (w.heap.size + 1) w1.heap.size wq (mFull bs (flR bs).1 ⟨(txR bs).1.toArray⟩ ev) (entSt bs s0 k)) ∧ Hid (OwnS Ent.cells 3 49 wq y3.heap.size ev (entsAt bs s0 k)) ∧ y3.heap.size ≤ wq.heap.size) (fun iv _ => nn - (intOf iv).toNat)
      case atStart => exact ⟨0, _, by omega, rfl, HG6, Lib.hid (World.ownsRow_nil _ _ _ _), Nat.le_refl _⟩
      case round =>
        rename World => wq
        obtain ⟨k, ev, hk, rfl, HG, HO, hsq⟩ := hrel
        by_cases hlt2 : k < nn
        · have hki : (k : Int) < (nn : Int) := by omega
          have HGA := Lib.hid (HG.out.grow ((Ext.refl wq).alloc (.cells #[.int .i64 0, .int .i64 0, .string ⟨#[]⟩] 49)))
          have HXA := Lib.hid (new_blk wq (.cells #[.int .i64 0, .int .i64 0, .string ⟨#[]⟩] 49))
          have HOA := Lib.hid (OwnS.ext HO.out ((Ext.refl wq).alloc (.cells #[.int .i64 0, .int .i64 0, .string ⟨#[]⟩] 49)))
          have HNE : Hid (∀ a m c', ev = .slice (some a) m c' → a.block ≠ wq.heap.size) := Lib.hid fun a m c' he => Nat.ne_of_lt (own_blkE HO.out a m c' he).1
          have hrw : wq.heap.size ≠ r := by omega
          have hr3' : r < y3.heap.size := by omega
          obtain ⟨s1, hs1⟩ : ∃ s, entSt bs s0 k = s := ⟨_, rfl⟩
          rw [hs1] at HGA
          have HS1 := Lib.hid hs1
          clear hs1
          go_wp2_with (first
            | (go_at_call 48; (with_reducible refine (ent1_k s1 HGA.out.rd).mono ?_); rintro e z1 ⟨rfl, hrd1, hk1⟩; have HGB := Lib.hid (HGA.out.keep hrd1 hk1 hrB hrM); have HXB := Lib.hid (keep_blk hk1 HXA.out hrw); have HOB := Lib.hid (OwnS.keepR HOA.out hk1 hr3'); obtain ⟨x0, g0⟩ := blkG HXB.out 0 _ rfl; have HGC := Lib.hid (HGB.out.setO (b := wq.heap.size) 0 (.int .i64 (e1R bs s1).1) (by omega) (by omega) (by omega)); have HXC := Lib.hid (heap_setCell_same _ _ 0 _ _ (.int .i64 (e1R bs s1).1) HXB.out); have HOC := Lib.hid (OwnS.setO (o := 0) (u := .int .i64 (e1R bs s1).1) HOB.out HNE.out))
            | (go_at_call 48; (with_reducible refine (ent2_k s1 HGC.out.rd).mono ?_); rintro e z2 ⟨rfl, hrd2, hk2⟩; have HGD := Lib.hid (HGC.out.keep hrd2 hk2 hrB hrM); have HXD := Lib.hid (keep_blk hk2 HXC.out hrw); have HOD := Lib.hid (OwnS.keepR HOC.out hk2 hr3'); obtain ⟨x1, g1⟩ := blkG HXD.out 1 _ rfl; have HGE := Lib.hid (HGD.out.setO (b := wq.heap.size) 1 (.int .i64 (e2R bs s1).1) (by omega) (by omega) (by omega)); have HXE := Lib.hid (heap_setCell_same _ _ 1 _ _ (.int .i64 (e2R bs s1).1) HXD.out); have HOE := Lib.hid (OwnS.setO (o := 1) (u := .int .i64 (e2R bs s1).1) HOD.out HNE.out))
            | (go_at_call 50; (with_reducible refine (ent3_k s1 HGE.out.rd).mono ?_); rintro e z3 ⟨rfl, hrd3, hk3⟩; have HGF := Lib.hid (HGE.out.keep hrd3 hk3 hrB hrM); have HXF := Lib.hid (keep_blk hk3 HXE.out hrw); have HOF := Lib.hid (OwnS.keepR HOE.out hk3 hr3'); obtain ⟨x0, g0⟩ := blkG HXF.out 0 (.int .i64 (e1R bs s1).1) rfl; obtain ⟨x1, g1⟩ := blkG HXF.out 1 (.int .i64 (e2R bs s1).1) rfl; obtain ⟨x2, g2⟩ := blkG HXF.out 2 (.string ⟨#[]⟩) rfl; have zxq := blk_lt HXF.out; obtain ⟨c12, f12⟩ := blkG HGF.out.mb 12 ev rfl; have HGH := Lib.hid (HGF.out.setO (b := wq.heap.size) 2 (.string ⟨(e3R bs s1).1.toArray⟩) (by omega) (by omega) (by omega)); have HOH := Lib.hid (OwnS.setO (o := 2) (u := .string ⟨(e3R bs s1).1.toArray⟩) HOF.out HNE.out); have HOK : Hid ((z3.setCell ⟨wq.heap.size, 2, none⟩ (.string ⟨(e3R bs s1).1.toArray⟩)).ownsRow y3.heap.size 49 3 ev k ((entsAt bs s0 k).flatMap Ent.cells)) := Lib.hid (by have := HOH.out; unfold OwnS at this; rwa [entsAt_len] at this); have HSZ : Hid ((z3.setCell ⟨wq.heap.size, 2, none⟩ (.string ⟨(e3R bs s1).1.toArray⟩)).heap.size = z3.heap.size) := Lib.hid (by simp); have hszz : y3.heap.size ≤ (z3.setCell ⟨wq.heap.size, 2, none⟩ (.string ⟨(e3R bs s1).1.toArray⟩)).heap.size := (by have q1 := hk1.size; have q2 := hk2.size; have q3 := hk3.size; simp at q1 q2 q3 ⊢; omega))
            | (at_builtin; refine wpList_own_push2 (w := z3.setCell ⟨wq.heap.size, 2, none⟩ (.string ⟨(e3R bs s1).1.toArray⟩)) rfl _ _ 25 rfl y3.heap.size 49 49 i0 _ 3 32 Try.underlying25 hi iz0 iz1 iz2 rfl (by decide) _ k 1 1 _ [.int .i64 (e1R bs s1).1, .int .i64 (e2R bs s1).1, .string ⟨(e3R bs s1).1.toArray⟩] HOK.out rfl (by rw [HSZ.out]; rfl) rfl rfl ?c2 ?c3 ?c4 hszz ?_))
          clear HGA HXA HOA HGB HXB HOB HGC HXC HOC HGD HXD HOD HGE HXE HOE HGF HXF HOF x0 g0 x1 g1 x2 g2
          case c2 => intro u hu; simp only [List.mem_cons, List.not_mem_nil, or_false] at hu; rcases hu with rfl | rfl | rfl <;> rfl
          case c3 => unfold maxLen; omega
          case c4 => omega
          intro ev' w7 ho7 hb7 _
          obtain ⟨_, _, a7, c7, hev7, _⟩ := SlR.of_own ho7
          subst hev7
          have HG7 := Lib.hid (HGH.out.below hb7 (by omega) hmlt (by omega))
          have hb7s := hb7.size
          have HO7 : Hid (OwnS Ent.cells 3 49 w7 y3.heap.size (.slice a7 (k + 1) c7) (entsAt bs s0 (k + 1))) := Lib.hid (by
            unfold OwnS
            rw [entsAt_succ, List.length_append, entsAt_len, List.flatMap_append, HS1.out, entR_is]
            simpa [Ent.cells] using ho7)
          have HST : Hid (entSt bs s0 (k + 1) = (e3R bs s1).2) := Lib.hid (by rw [← HS1.out]; rfl)
          obtain ⟨c12', f12'⟩ := blkG HG7.out.mb 12 ev rfl
          clear ho7 hb7 c12 f12 HGH HOH HOK
          go_wp2_with fail
          go_roundw
          case rel => exact ⟨k + 1, _, by omega, by simp, Lib.hid (by rw [HST.out]; exact HG7.out.setM 12 _ rfl (Nat.le_refl _) hwM), Lib.hid (OwnS.setO HO7.out fun a m c' he => Nat.ne_of_gt (Nat.lt_of_lt_of_le hmlt (own_blkE HO7.out a m c' he).2)), by simp; omega⟩
          case measure => simp [intOf]; omega
        · have hki : ¬ (k : Int) < (nn : Int) := by omega
          obtain rfl : k = nn := by omega
          have hE : (rEnd bs (entSt bs s0 k)).err = gErr bs := by rw [gErr, HS0.out, HNN.out]
          have hEs : entsAt bs s0 k = gEs bs := by rw [gEs, HS0.out, HNN.out]
          have hend := end_x HG.out.rd
          rw [hE] at hend
          rw [hEs] at HO
          obtain ⟨a2, c2, hev, _, _⟩ := OwnS.form HO.out
          have hlen : (gEs bs).length = k := by rw [← hEs, entsAt_len]
          rw [hlen] at hev
          subst hev
          have HEND := Lib.hid hend
          have hry : r < y3.heap.size := by omega
          have HLEN := Lib.hid hlen
          clear hend hE hEs hlen
          by_cases h0 : gErr bs = 0
          · obtain ⟨q, hq⟩ := prop_bool (RightP (gM bs) (gEs bs))
            have RT := fun z => lright_is (gM bs) a2 c2 k (gEs bs) HLEN.out q hq z
            simp only [Lt.agg, gM] at RT
            have HRT := Lib.hid RT
            have HQ := Lib.hid hq
            have hc : (gErr bs != 0) = false := by simp [h0]
            have HH0 := Lib.hid h0
            clear RT hq h0
            cases q
            all_goals
              go_wp2_with (first
                | (go_at_call 52; refine HEND.out.mono ?_; rintro e y ⟨rfl, hrdE, hkE⟩; have HGX := Lib.hid (HG.out.keep hrdE hkE hrB hrM); have HOX := Lib.hid (OwnS.keepR HO.out hkE hry); obtain ⟨m0, _⟩ := blkG HGX.out.mb 0 _ rfl; obtain ⟨m1, _⟩ := blkG HGX.out.mb 1 _ rfl; obtain ⟨m2, _⟩ := blkG HGX.out.mb 2 _ rfl; obtain ⟨m3, _⟩ := blkG HGX.out.mb 3 _ rfl; obtain ⟨m4, _⟩ := blkG HGX.out.mb 4 _ rfl; obtain ⟨m5, _⟩ := blkG HGX.out.mb 5 _ rfl; obtain ⟨m6, _⟩ := blkG HGX.out.mb 6 _ rfl; obtain ⟨m7, _⟩ := blkG HGX.out.mb 7 _ rfl; obtain ⟨m8, _⟩ := blkG HGX.out.mb 8 _ rfl; obtain ⟨m9, _⟩ := blkG HGX.out.mb 9 _ rfl; obtain ⟨m10, _⟩ := blkG HGX.out.mb 10 _ rfl; obtain ⟨m11, _⟩ := blkG HGX.out.mb 11 _ rfl; obtain ⟨m12, _⟩ := blkG HGX.out.mb 12 _ rfl)
                | (go_at_call 28; refine (HRT.out _ HOX.out.rd).mono ?_; rintro e z ⟨rfl, hz⟩; have HGZ := Lib.hid (HGX.out.grow hz); have HOZ := Lib.hid (OwnS.ext HOX.out hz); obtain ⟨z0, n0⟩ := blkG HGZ.out.zb 0 (.int .i64 0) rfl; obtain ⟨p0, _⟩ := blkG HGZ.out.mb 0 (.int .i64 (vN bs 0)) rfl; obtain ⟨z1, n1⟩ := blkG HGZ.out.zb 1 (.int .i64 0) rfl; obtain ⟨p1, _⟩ := blkG HGZ.out.mb 1 (.int .i64 (vN bs 1)) rfl; obtain ⟨z2, n2⟩ := blkG HGZ.out.zb 2 (.int .i64 0) rfl; obtain ⟨p2, _⟩ := blkG HGZ.out.mb 2 (.int .i64 (vN bs 2)) rfl; obtain ⟨z3, n3⟩ := blkG HGZ.out.zb 3 (.int .i64 0) rfl; obtain ⟨p3, _⟩ := blkG HGZ.out.mb 3 (.int .i64 (vN bs 3)) rfl; obtain ⟨z4, n4⟩ := blkG HGZ.out.zb 4 (.int .i64 0) rfl; obtain ⟨p4, _⟩ := blkG HGZ.out.mb 4 (.int .i64 (vN bs 4)) rfl; obtain ⟨z5, n5⟩ := blkG HGZ.out.zb 5 (.int .i64 0) rfl; obtain ⟨p5, _⟩ := blkG HGZ.out.mb 5 (.int .i64 (vN bs 5)) rfl; obtain ⟨z6, n6⟩ := blkG HGZ.out.zb 6 (.int .i64 0) rfl; obtain ⟨p6, _⟩ := blkG HGZ.out.mb 6 (.int .i64 (vN bs 6)) rfl; obtain ⟨z7, n7⟩ := blkG HGZ.out.zb 7 (.int .i64 0) rfl; obtain ⟨p7, _⟩ := blkG HGZ.out.mb 7 (.int .i64 (vN bs 7)) rfl; obtain ⟨z8, n8⟩ := blkG HGZ.out.zb 8 (.int .i64 0) rfl; obtain ⟨p8, _⟩ := blkG HGZ.out.mb 8 (.int .i64 (vN bs 8)) rfl; obtain ⟨z9, n9⟩ := blkG HGZ.out.zb 9 (.int .i64 0) rfl; obtain ⟨p9, _⟩ := blkG HGZ.out.mb 9 (.int .i64 (vN bs 9)) rfl; obtain ⟨z10, n10⟩ := blkG HGZ.out.zb 10 (.bool false) rfl; obtain ⟨p10, _⟩ := blkG HGZ.out.mb 10 (.bool (flR bs).1) rfl; obtain ⟨z11, n11⟩ := blkG HGZ.out.zb 11 (.string ⟨#[]⟩) rfl; obtain ⟨p11, _⟩ := blkG HGZ.out.mb 11 (.string ⟨(txR bs).1.toArray⟩) rfl; obtain ⟨z12, n12⟩ := blkG HGZ.out.zb 12 (.slice none 0 0) rfl; obtain ⟨p12, _⟩ := blkG HGZ.out.mb 12 (.slice a2 k c2) rfl; have zlt := blk_lt HGZ.out.zb))
            · refine bodyPost_ret (v := .tuple #[.agg #[.int .i64 0, .int .i64 0, .int .i64 0, .int .i64 0, .int .i64 0, .int .i64 0, .int .i64 0, .int .i64 0, .int .i64 0, .int .i64 0, .bool false, .string ⟨#[]⟩, .slice none 0 0], .int .i64 4]) ?_ rfl ⟨Lt.z, [], .slice none 0 0, 4, rfl, World.ownsRow_nil _ _ _ _, .inr (.inr ⟨HH0.out, fun h => (by cases (HQ.out.2 h)), rfl, rfl, rfl⟩), ?_⟩
              · simp [results, Try.results32, go_sem, zlt, z0, z1, z2, z3, z4, z5, z6, z7, z8, z9, z10, z11, z12]
              · repeat (first | with_reducible exact HGZ.out.ext | with_reducible refine Ext.setCell ?_ (Nat.le_refl _) _)
            · have hne : ∀ a m c', Value.slice a2 k c2 = .slice (some a) m c' → a.block ≠ w.heap.size := fun a m c' he => Nat.ne_of_gt (Nat.lt_of_lt_of_le (Nat.lt_trans hwM hmlt) (own_blkE HO.out a m c' he).2)
              refine bodyPost_ret (v := .tuple #[.agg #[.int .i64 (vN bs 0), .int .i64 (vN bs 1), .int .i64 (vN bs 2), .int .i64 (vN bs 3), .int .i64 (vN bs 4), .int .i64 (vN bs 5), .int .i64 (vN bs 6), .int .i64 (vN bs 7), .int .i64 (vN bs 8), .int .i64 (vN bs 9), .bool (flR bs).1, .string ⟨(txR bs).1.toArray⟩, .slice a2 k c2], .int .i64 0]) ?_ rfl ⟨gM bs, gEs bs, .slice a2 k c2, 0, rfl, ?_, .inr (.inl ⟨HH0.out, HQ.out.1 (by trivial), rfl, rfl, rfl⟩), ?_⟩
              · simp [results, Try.results32, go_sem, zlt, z0, z1, z2, z3, z4, z5, z6, z7, z8, z9, z10, z11, z12]
              · refine OwnS.base (B' := y3.heap.size) ?_ (by omega)
                repeat (first | with_reducible exact HOZ.out | with_reducible refine OwnS.setO ?_ hne)
              · repeat (first | with_reducible exact HGZ.out.ext | with_reducible refine Ext.setCell ?_ (Nat.le_refl _) _)
          · have hc : (gErr bs != 0) = true := by simp [h0]
            go_wp2_with (go_at_call 52; refine HEND.out.mono ?_; rintro e y ⟨rfl, hrdE, hkE⟩; have HGX := Lib.hid (HG.out.keep hrdE hkE hrB hrM); obtain ⟨z0, n0⟩ := blkG HGX.out.zb 0 (.int .i64 0) rfl; obtain ⟨z1, n1⟩ := blkG HGX.out.zb 1 (.int .i64 0) rfl; obtain ⟨z2, n2⟩ := blkG HGX.out.zb 2 (.int .i64 0) rfl; obtain ⟨z3, n3⟩ := blkG HGX.out.zb 3 (.int .i64 0) rfl; obtain ⟨z4, n4⟩ := blkG HGX.out.zb 4 (.int .i64 0) rfl; obtain ⟨z5, n5⟩ := blkG HGX.out.zb 5 (.int .i64 0) rfl; obtain ⟨z6, n6⟩ := blkG HGX.out.zb 6 (.int .i64 0) rfl; obtain ⟨z7, n7⟩ := blkG HGX.out.zb 7 (.int .i64 0) rfl; obtain ⟨z8, n8⟩ := blkG HGX.out.zb 8 (.int .i64 0) rfl; obtain ⟨z9, n9⟩ := blkG HGX.out.zb 9 (.int .i64 0) rfl; obtain ⟨z10, n10⟩ := blkG HGX.out.zb 10 (.bool false) rfl; obtain ⟨z11, n11⟩ := blkG HGX.out.zb 11 (.string ⟨#[]⟩) rfl; obtain ⟨z12, n12⟩ := blkG HGX.out.zb 12 (.slice none 0 0) rfl; have zlt := blk_lt HGX.out.zb)
            refine bodyPost_ret (v := .tuple #[.agg #[.int .i64 0, .int .i64 0, .int .i64 0, .int .i64 0, .int .i64 0, .int .i64 0, .int .i64 0, .int .i64 0, .int .i64 0, .int .i64 0, .bool false, .string ⟨#[]⟩, .slice none 0 0], .int .i64 (gErr bs)]) ?_ rfl ⟨Lt.z, [], .slice none 0 0, gErr bs, rfl, World.ownsRow_nil _ _ _ _, .inl ⟨h0, rfl, rfl, rfl⟩, ?_⟩
            · simp [results, Try.results32, go_sem, zlt, z0, z1, z2, z3, z4, z5, z6, z7, z8, z9, z10, z11, z12]
            · repeat (first | with_reducible exact HGX.out.ext | with_reducible refine Ext.setCell ?_ (Nat.le_refl _) _)
end Go.Proofs.Ytognipephfedkaa
