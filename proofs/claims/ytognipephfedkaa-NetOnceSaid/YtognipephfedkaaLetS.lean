/- Plain law: what bytes are read as a letter. -/
import Derived.Test.YtognipephfedkaaLetP
import Derived.Test.YtognipephfedkaaPackU
namespace Go.Proofs.Ytognipephfedkaa
open Go.RowKit

def Lt.z : Lt := ⟨0, 0, 0, 0, 0, 0, 0, 0, 0, 0, false, ⟨#[]⟩⟩
/-- Where the reader stands behind k numbers, and the numbers. -/
def stN (bs : List UInt8) : Nat → RS
  | 0 => ⟨0, 0⟩
  | k + 1 => (rNum bs (stN bs k)).2
def vN (bs : List UInt8) (k : Nat) : Int := (rNum bs (stN bs k)).1
def flR (bs : List UInt8) : Bool × RS := rFlag bs (stN bs 10)
def txR (bs : List UInt8) : List UInt8 × RS := rText bs (flR bs).2 600
def coR (bs : List UInt8) : Int × RS := rCount bs (txR bs).2 8
def gM (bs : List UInt8) : Lt := ⟨vN bs 0, vN bs 1, vN bs 2, vN bs 3, vN bs 4, vN bs 5, vN bs 6, vN bs 7, vN bs 8, vN bs 9, (flR bs).1, ⟨(txR bs).1.toArray⟩⟩
def entR (bs : List UInt8) (s : RS) : Ent × RS :=
  (⟨(rNum bs s).1, (rNum bs (rNum bs s).2).1, ⟨(rText bs (rNum bs (rNum bs s).2).2 1100).1.toArray⟩⟩, (rText bs (rNum bs (rNum bs s).2).2 1100).2)
def entSt (bs : List UInt8) (s : RS) : Nat → RS
  | 0 => s
  | k + 1 => (entR bs (entSt bs s k)).2
def entsAt (bs : List UInt8) (s : RS) (k : Nat) : List Ent := (List.range k).map fun i => (entR bs (entSt bs s i)).1
theorem entsAt_succ (bs : List UInt8) (s : RS) (k : Nat) : entsAt bs s (k + 1) = entsAt bs s k ++ [(entR bs (entSt bs s k)).1] := by
  simp [entsAt, List.range_succ]
theorem entsAt_len (bs : List UInt8) (s : RS) (k : Nat) : (entsAt bs s k).length = k := by simp [entsAt]
def gN (bs : List UInt8) : Nat := (coR bs).1.toNat
def gEs (bs : List UInt8) : List Ent := entsAt bs (coR bs).2 (gN bs)
def gErr (bs : List UInt8) : Int := (rEnd bs (entSt bs (coR bs).2 (gN bs))).err
/-- What a reading of bytes as a letter comes to. -/
def GetIs (bs : List UInt8) (m : Lt) (es : List Ent) (err : Int) : Prop :=
  (gErr bs ≠ 0 ∧ err = gErr bs ∧ m = Lt.z ∧ es = []) ∨ (gErr bs = 0 ∧ RightP (gM bs) (gEs bs) ∧ err = 0 ∧ m = gM bs ∧ es = gEs bs) ∨ (gErr bs = 0 ∧ ¬ RightP (gM bs) (gEs bs) ∧ err = 4 ∧ m = Lt.z ∧ es = [])
theorem GetIs.one {bs : List UInt8} {m m' : Lt} {es es' : List Ent} {e e' : Int} (h : GetIs bs m es e) (h' : GetIs bs m' es' e') : m = m' ∧ es = es' ∧ e = e' := by
  rcases h with ⟨a, b, c, d⟩ | ⟨a, r, b, c, d⟩ | ⟨a, r, b, c, d⟩ <;> rcases h' with ⟨a', b', c', d'⟩ | ⟨a', r', b', c', d'⟩ | ⟨a', r', b', c', d'⟩
  · exact ⟨c.trans c'.symm, d.trans d'.symm, b.trans b'.symm⟩
  · exact absurd a' a
  · exact absurd a' a
  · exact absurd a a'
  · exact ⟨c.trans c'.symm, d.trans d'.symm, b.trans b'.symm⟩
  · exact absurd r r'
  · exact absurd a a'
  · exact absurd r' r
  · exact ⟨c.trans c'.symm, d.trans d'.symm, b.trans b'.symm⟩
theorem rText_small (bs : List UInt8) (s : RS) (most : Nat) : (rText bs s most).1.length ≤ most := by
  unfold rText
  simp only []
  split
  · simp
  · split
    · simp
    · rename_i h _
      have := rWithin_in bs s 0 most (by simpa using h)
      rw [List.length_take]
      omega
theorem rWithin_err (bs : List UInt8) (s : RS) (lo hi : Int) (h : (rWithin bs s lo hi).2.err ≠ 0) : (rWithin bs s lo hi).1 = 0 := by
  unfold rWithin at h ⊢
  simp only [] at h ⊢
  split
  · rfl
  · rename_i hc
    rw [if_neg hc] at h
    have key : ∀ s : RS, (rNum bs s).2.err ≠ 0 → (rNum bs s).1 = 0 := by
      intro s hs
      unfold rNum at hs ⊢
      split
      · rename_i h0
        rw [if_pos h0] at hs
        simp only [] at hs ⊢
        have dk : ∀ a f i u, (decF bs a f i u).2.2 ≠ 0 → (decF bs a f i u).1 = 0 := by
          intro a f
          induction f with
          | zero => intro i u _; rfl
          | succ f ih =>
            intro i u hh
            unfold decF at hh ⊢
            split
            · rename_i hlt
              rw [dif_pos hlt] at hh
              simp only [] at hh ⊢
              split
              · rfl
              · rename_i h1
                rw [if_neg h1] at hh
                split
                · rename_i h2
                  rw [if_pos h2] at hh
                  exact ih _ _ hh
                · rename_i h2
                  rw [if_neg h2] at hh
                  split
                  · rfl
                  · rename_i h3
                    rw [if_neg h3] at hh
                    exact absurd rfl hh
            · rfl
        exact dk _ _ _ _ hs
      · rfl
    exact key _ h
theorem coR_bd (bs : List UInt8) (s : RS) (most : Nat) : 0 ≤ (rCount bs s most).1 ∧ (rCount bs s most).1 ≤ most := by
  unfold rCount
  simp only []
  split
  · exact ⟨Int.le_refl _, by simp⟩
  · by_cases h : (rWithin bs s 0 most).2.err = 0
    · exact rWithin_in bs s 0 most h
    · rw [rWithin_err bs s 0 most h]
      exact ⟨Int.le_refl _, by simp⟩
theorem gN_cast (bs : List UInt8) : (coR bs).1 = (gN bs : Int) ∧ gN bs ≤ 8 := by
  have := coR_bd bs (txR bs).2 8
  have e : ((8 : Nat) : Int) = 8 := rfl
  rw [e] at this
  unfold gN coR
  omega
/-- The cells of the letter that is read, behind k numbers. -/
def mArr (bs : List UInt8) (k : Nat) : Array Value := ((List.range 10).map (fun j => Value.int .i64 (if j < k then vN bs j else 0)) ++ [Value.bool false, Value.string ⟨#[]⟩, Value.slice none 0 0]).toArray
theorem mArr_at (bs : List UInt8) (k : Nat) (hk : k < 10) : (mArr bs k)[k]? = some (.int .i64 0) := by
  unfold mArr
  rw [List.getElem?_toArray, List.getElem?_append_left (by simpa using hk), List.getElem?_map, List.getElem?_range hk]
  simp
theorem mArr_set (bs : List UInt8) (k : Nat) (hk : k < 10) : (mArr bs k).setIfInBounds k (.int .i64 (vN bs k)) = mArr bs (k + 1) := by
  unfold mArr
  rw [List.setIfInBounds_toArray]
  congr 1
  rw [List.set_append_left _ _ (by simpa using hk)]
  congr 1
  apply List.ext_getElem
  · simp
  · intro i h1 h2
    simp only [List.length_set, List.length_map, List.length_range] at h1
    rw [List.getElem_set]
    split
    · rename_i h; subst h; simp
    · rename_i h
      simp only [List.getElem_map, List.getElem_range]
      have : (i < k) = (i < k + 1) := by rw [eq_iff_iff]; omega
      simp only [this]
theorem OwnS.keepR {α : Type} {c : α → List Value} {sz : Nat} {te : TypeId} {w w' : World} {B r : Nat} {v : Value} {xs : List α} (h : OwnS c sz te w B v xs) (hk : KeepR r w w') (hr : r < B) : OwnS c sz te w' B v xs := by
  obtain ⟨h1, h2⟩ := h
  refine ⟨h1, ?_⟩
  rcases h2 with h2 | ⟨g, cap, cur, rfl, h3, h4, h5⟩
  · exact .inl h2
  · exact .inr ⟨g, cap, cur, rfl, h3, (hk.block g (Array.getElem?_eq_some_iff.1 h4).1 (by omega)).trans h4, h5⟩
theorem blkG {w : World} {b : Nat} {C : Array Value} {T : TypeId} (h : w.heap[b]? = some (.cells C T (0, 0))) (o : Nat) (v : Value) (hv : C[o]? = some v) : w.cell? ⟨b, o, none⟩ = some v ∧ w.frozen? ⟨b, o, none⟩ = false := by
  constructor
  · simp [World.cell?, h, hv]
  · simp [World.frozen?, h]
theorem blk_lt {w : World} {b : Nat} {o : Obj} (h : w.heap[b]? = some o) : b < w.heap.size := (Array.getElem?_eq_some_iff.1 h).1
theorem ext_blk {a z : World} {b : Nat} {o : Obj} (h : Ext a z) (H : a.heap[b]? = some o) : z.heap[b]? = some o := (Below.block h b (blk_lt H)).trans H
theorem below_blk {a z : World} {b B : Nat} {o : Obj} (h : Below B a z) (hb : b < B) (H : a.heap[b]? = some o) : z.heap[b]? = some o := (Below.block h b hb).trans H
theorem keep_blk {a z : World} {r b : Nat} {o : Obj} (h : KeepR r a z) (H : a.heap[b]? = some o) (hne : b ≠ r) : z.heap[b]? = some o := (h.block b (blk_lt H) hne).trans H
theorem alloc_blk {a : World} {b : Nat} {o o' : Obj} (H : a.heap[b]? = some o) : (a.alloc o').heap[b]? = some o := (Below.heap_alloc a o' b (blk_lt H)).trans H
theorem new_blk (a : World) (o : Obj) : (a.alloc o).heap[a.heap.size]? = some o := heap_alloc_new a o
theorem set_blk {a : World} {b r i : Nat} {o : Obj} {u : Value} (H : a.heap[b]? = some o) (hne : b ≠ r) : (a.setCell ⟨r, i, none⟩ u).heap[b]? = some o := (Below.heap_setCell a ⟨r, i, none⟩ u b hne).trans H
end Go.Proofs.Ytognipephfedkaa
