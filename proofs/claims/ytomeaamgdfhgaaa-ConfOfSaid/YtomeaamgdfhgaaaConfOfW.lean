/- The law ConfOf of package impostlaw21: the walk. -/
import Derived.Test.YtomeaamgdfhgaaaConfOf
namespace Go.Proofs.Ytomeaamgdfhgaaa
open Go.RowKit

set_option maxHeartbeats 4000000 in
set_option maxRecDepth 100000 in
theorem confOf_any (t v b bt m : Int) (sn : ByteArray) (a : Option Addr) (cap : Nat) (l0 : List Ent) (w : World) (hr0 : SlS Ent.cells 3 w (.slice a l0.length cap) l0) (hlc : l0.length ≤ cap) (hcm : cap ≤ 9223372036854775807) :
    Calls Try.prog 7 #[.agg #[.int .i64 t, .int .i64 v, .int .i64 b, .int .i64 bt, .int .i64 m, .string sn, .slice a l0.length cap]] w fun e w' => e = .returned (.bool true) ∧ Ext w w' := by
  obtain ⟨l, hr, hl, hlc2, hdec⟩ : ∃ l : List Ent, SlS Ent.cells 3 w (.slice a l.length cap) l ∧ l.length ≤ 300 ∧ l.length ≤ cap ∧ ((300 < l0.length ∧ l.length = 300) ∨ (l0.length ≤ 300 ∧ l = l0)) := by
    by_cases h : 300 < l0.length
    · have e : (l0.take 300).length = 300 := by simp; omega
      refine ⟨l0.take 300, ?_, by omega, by omega, .inl ⟨h, e⟩⟩
      rw [e]
      exact SlS.cut Ent.three hr0 300 (by omega) cap
    · exact ⟨l0, hr0, by omega, hlc, .inr ⟨by omega, rfl⟩⟩
  have hcap : (300 : Int) ≤ (cap : Int) ∨ l0.length ≤ 300 := by omega
  have HH := Lib.hid hr
  clear hr
  rcases hdec with ⟨hgt, hle⟩ | ⟨hgt, rfl⟩
  all_goals
    go_enter Try.func7, Try.ntmps7
    go_wp2_with fail
    try rw [show (Value.slice a 300 cap) = Value.slice a l.length cap from by rw [hle]]
    try replace hle := Lib.hid hle
    have E0 : Ext w (w.alloc (.cells #[.int .i64 t, .int .i64 v, .int .i64 b, .int .i64 bt, .int .i64 m, .string sn, .slice a l.length cap] 34)) := (Ext.refl w).alloc _
    refine (roomyE _ l ⟨3, 0, ⟨#[]⟩⟩ _ (HH.out.ext E0) (by omega)).mono ?_
    rintro e w1 ⟨g, rfl, ho, hE1⟩
    have c1 : ∀ j (hj : j < 7), w1.cell? ⟨w.heap.size, j, none⟩ = #[.int .i64 t, .int .i64 v, .int .i64 b, .int .i64 bt, .int .i64 m, .string sn, .slice a l.length cap][j]? := fun j hj => by
      rw [Ext.cell hE1 (by simp), World.cell?_alloc_at _ _ _ _ rfl]
    have c10 : w1.cell? ⟨w.heap.size, 0, none⟩ = some (.int .i64 t) := c1 0 (by decide)
    have c11 : w1.cell? ⟨w.heap.size, 1, none⟩ = some (.int .i64 v) := c1 1 (by decide)
    have c12 : w1.cell? ⟨w.heap.size, 2, none⟩ = some (.int .i64 b) := c1 2 (by decide)
    have c13 : w1.cell? ⟨w.heap.size, 3, none⟩ = some (.int .i64 bt) := c1 3 (by decide)
    have c14 : w1.cell? ⟨w.heap.size, 4, none⟩ = some (.int .i64 m) := c1 4 (by decide)
    have c15 : w1.cell? ⟨w.heap.size, 5, none⟩ = some (.string sn) := c1 5 (by decide)
    have c16 : w1.cell? ⟨w.heap.size, 6, none⟩ = some (.slice a l.length cap) := c1 6 (by decide)
    have hE : Ext w w1 := E0.trans hE1
    have hO := OwnS.base (B := w.heap.size) ho (by simp)
    have hz := World.block_lt_of_cell? w1 _ c10
    have hne : w.heap.size ≠ w1.heap.size := by simp at hz; omega
    clear E0 hE1 c1 ho
    have HO := Lib.hid hO
    clear hO hlc hcap hgt
    go_wp2_with fail
    have hcut : SlS Ent.cells 3 w1 (.slice (some ⟨g, 0, none⟩) l.length (l.length + 80)) l := by
      have h3 := SlS.cut Ent.three HO.out.rd l.length (by simp) (l.length + 80)
      simpa using h3
    refine (of_any t v b bt m sn _ l _ (hcut.ext ((Ext.refl w1).alloc _)) (by omega)).mono ?_
    rintro e w2 ⟨rfl, hE2⟩
    have hE12 : Ext w1 w2 := ((Ext.refl w1).alloc _).trans hE2
    clear hcut hE2
    have hk := fun j => hE12.cell (p := ⟨w.heap.size, j, none⟩) hz
    replace c10 := (hk 0).trans c10
    replace c11 := (hk 1).trans c11
    replace c12 := (hk 2).trans c12
    replace c13 := (hk 3).trans c13
    replace c14 := (hk 4).trans c14
    replace c15 := (hk 5).trans c15
    replace c16 := (hk 6).trans c16
    have hz2 : w.heap.size < w2.heap.size := Nat.lt_of_lt_of_le hz hE12.size
    have hEw2 := hE.trans hE12
    have HO2 := Lib.hid (HO.out.ext hE12)
    clear hk HO hE hE12 hz hne
    go_wp2_with fail
    refine (refOf_any t v b bt m sn _ l _ (HH.out.ext hEw2) (by omega)).mono ?_
    rintro e w3 ⟨rfl, hE3⟩
    generalize ofG l m b l.length = q
    obtain ⟨q1, q2⟩ := q
    replace c16 := (hE3.cell (p := ⟨w.heap.size, 6, none⟩) hz2).trans c16
    have hEw3 := hEw2.trans hE3
    have HO3 := Lib.hid (HO2.out.ext hE3)
    clear hEw2 hE3 HO2 hz2 c10 c11 c12 c13 c14 c15
    go_wp2_with fail
    refine (intactE g _ l ⟨3, 0, ⟨#[]⟩⟩ _ w.heap.size HO3.out (HH.out.ext hEw3) (by omega)).mono ?_
    rintro e w4 ⟨rfl, hE4⟩
    have hEw4 := hEw3.trans hE4
    clear hE4 hEw3 HO3 c16
    go_wp2_with fail
    refine (confRuns_any _).mono ?_
    rintro e w5 ⟨rfl, hE5⟩
    have hEw5 := hEw4.trans hE5
    go_wp2_with fail
    go_ret
    exact ⟨rfl, hEw5⟩
end Go.Proofs.Ytomeaamgdfhgaaa
