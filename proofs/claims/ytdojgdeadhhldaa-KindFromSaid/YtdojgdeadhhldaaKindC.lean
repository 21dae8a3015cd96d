/- Package kind: FromList. -/
import Derived.Test.YtdojgdeadhhldaaKindB
import Derived.OneCell
namespace Go.Proofs.Ytdojgdeadhhldaa
open Go.RowKit

theorem Try.infoThing : (Try.prog.info? 25).map (fun i => (i.zero, i.size, i.bytes)) = some (some (.agg #[.nilIface]), 1, 16) := by kernel_rfl

set_option maxHeartbeats 1000000 in
theorem fromList_any (sl : Value) (n : Nat) (cs : List Value) (w : World) (hs : SlR w w.heap.size 1 sl n cs) (h1 : ∀ u ∈ cs, u.oneCell' = true) (hn : n ≤ 1000000000) : Calls Try.prog 27 #[sl] w fun e w' => ∃ sl', e = .returned (.agg #[.iface 82 (.agg #[sl'])]) ∧ w'.ownsRow w.heap.size 25 1 sl' n cs ∧ Ext w w' := by
  obtain ⟨i0, hi, hz0, hz1, hz2⟩ := info_parts Try.infoThing
  have hx0 : Ext w (w.alloc (.cells #[.nilIface] 25)) := (Ext.refl w).alloc _
  have hsrc := src_sl (P := Try.prog) Try.underlying34 (hs.mono hx0) h1
  go_enter Try.func27, Try.ntmps27
  go_wp2_with (with_reducible refine wpList_own_src _ rfl _ _ 34 34 rfl (w.heap.size + 1) 25 i0 _ 1 16 Try.underlying34 hi hz0 hz1 hz2 rfl (by decide) _ _ 0 n [] cs (World.ownsRow_nil _ _ _ _) hsrc rfl rfl ?c1 ?c2 ?c3 ?_)
  case c1 => unfold maxLen; omega
  case c2 => omega
  case c3 => simp
  intro v' w2 hown hb
  replace hown : w2.ownsRow (w.heap.size + 1) 25 1 v' n cs := by simpa using hown
  have hX : Ext w w2 := hx0.trans (Below.mono hb (by simp))
  have r0 : w2.cell? ⟨w.heap.size, 0, none⟩ = some .nilIface := by rw [hb.cell (p := ⟨w.heap.size, 0, none⟩) (by simp)]; simp [go_sem]
  have s0 : w2.frozen? ⟨w.heap.size, 0, none⟩ = false := by rw [hb.frozen (p := ⟨w.heap.size, 0, none⟩) (by simp)]; simp [go_sem]
  have hz : w.heap.size < w2.heap.size := World.block_lt_of_cell? w2 _ r0
  obtain ⟨_, _, av, cv, hv, _⟩ := SlR.of_own hown
  subst hv
  go_wp2
  refine bodyPost_ret (v := .agg #[.iface 82 (.agg #[.slice av n cv])]) ?r rfl ⟨_, rfl, ?o, ?e⟩
  case r => simp [results, Try.results27, go_sem, r0]
  case o => exact own_base (ownsRow_setCell_below hown (a := ⟨w.heap.size, 0, none⟩) (Nat.lt_succ_self _) _) (Nat.le_succ _)
  case e => exact Ext.setCell hX (Nat.le_refl _) _

/-! ### Flat -/
def flatOk (n m deep D : Nat) : Bool := decide (n + m ≤ 200 ∧ deep + D ≤ 16)
theorem deepOf_take (its : List (Value × List V × Nat)) (k : Nat) : deepOf (its.take k) ≤ deepOf its := by
  induction its generalizing k with
  | nil => simp [deepOf]
  | cons t ts ih =>
    cases k with
    | zero => simp [deepOf]
    | succ k => simp only [List.take_succ_cons, deepOf]; have := ih k; omega
theorem deepOf_append (a b : List (Value × List V × Nat)) : deepOf (a ++ b) = max (deepOf a) (deepOf b) := by
  induction a with
  | nil => simp [deepOf]
  | cons t ts ih => simp only [List.cons_append, deepOf, ih]; omega
def flatsOf (its : List (Value × List V × Nat)) : List V := its.flatMap (·.2.1)
theorem flats_take (its : List (Value × List V × Nat)) (k : Nat) : (flatsOf (its.take k)).length ≤ (flatsOf its).length := by
  have h : flatsOf its = flatsOf (its.take k) ++ flatsOf (its.drop k) := by
    unfold flatsOf
    rw [← List.flatMap_append, List.take_append_drop]
  rw [h, List.length_append]
  omega
theorem flats_succ (its : List (Value × List V × Nat)) (k : Nat) (h : k < its.length) : flatsOf (its.take (k + 1)) = flatsOf (its.take k) ++ its[k].2.1 ∧ deepOf (its.take (k + 1)) = max (deepOf (its.take k)) its[k].2.2 := by
  rw [List.take_succ_eq_append_getElem h, deepOf_append]
  unfold flatsOf
  rw [List.flatMap_append]
  simp [deepOf]

def FlatPost (w : World) (B0 : Nat) (xs L : List V) (ok : Bool) (e : Ending) (w' : World) : Prop :=
  ∃ out', e = .returned (.tuple #[out', .bool ok]) ∧ (ok = true → OwnS V.cells 6 32 w' B0 out' (xs ++ L)) ∧ (ok = false → out' = .slice none 0 0) ∧ Below B0 w w'

end Go.Proofs.Ytdojgdeadhhldaa
