/- Contracts of impostbook's Roomy, Intact and Same at entries of a log. -/
import Derived.Test.YtognipephfedkaaProg
import Derived.Test.YtognipephfedkaaFlat
import Derived.Deep.QuietTactic
import Derived.BigQuiet
namespace Go.Proofs.Ytognipephfedkaa
open Go.RowKit

/-- An entry of a log. -/
structure Ent where
  term : Int
  members : Int
  data : ByteArray
deriving Inhabited
def Ent.z : Ent := ⟨0, 0, ⟨#[]⟩⟩
def Ent.cells (e : Ent) : List Value := [.int .i64 e.term, .int .i64 e.members, .string e.data]
theorem Ent.three (e : Ent) : e.cells.length = 3 := rfl
theorem Ent.one (xs : List Ent) : ∀ u ∈ xs.flatMap Ent.cells, u.oneCell' = true := by
  intro u hu
  obtain ⟨x, _, hx⟩ := List.mem_flatMap.1 hu
  simp only [Ent.cells, List.mem_cons, List.not_mem_nil, or_false] at hx
  rcases hx with rfl | rfl | rfl <;> rfl
theorem Try.infoEnt : (Try.prog.info? 49).map (fun i => (i.zero, i.size, i.bytes)) = some (some (.agg #[.int .i64 0, .int .i64 0, .string ⟨#[]⟩]), 3, 32) := by kernel_rfl

set_option maxHeartbeats 2000000 in
set_option maxRecDepth 100000 in
theorem same_yesE (va vb : Value) (xs : List Ent) (w : World) (ha : SlS Ent.cells 3 w va xs) (hb : SlS Ent.cells 3 w vb xs) (hm : xs.length ≤ 1000000000000) :
    Calls Try.prog 23 #[va, vb] w fun e w' => e = .returned (.bool true) ∧ Ext w w' := by
  obtain ⟨aa, ca, rfl⟩ := ha.form
  obtain ⟨ab, cb, rfl⟩ := hb.form
  have hne : ((xs.length : Int) != (xs.length : Int)) = false := by simp
  by_cases h0 : xs.length = 0
  · have h0' : xs = [] := List.length_eq_zero_iff.1 h0
    subst h0'
    clear hne
    go_enter Try.func23, Try.ntmps23
    go_wp2
    refine wp_loop_rounds 1 ?_
    rw [rounds_succ]
    go_wp2
    go_ret
    exact ⟨rfl, Ext.refl _⟩
  · obtain ⟨b1, o1, rfl, hl1, hc1⟩ := SlS.at_ Ent.three ha (by omega) (by decide)
    obtain ⟨b2, o2, rfl, hl2, hc2⟩ := SlS.at_ Ent.three hb (by omega) (by decide)
    go_enter Try.func23, Try.ntmps23
    go_wp2
    clear hne
    go_loopw [5] (fun i wr => ∃ k : Nat, k ≤ xs.length ∧ i = .int .i64 k ∧ Ext w wr) (fun i _ => xs.length - (intOf i).toNat)
    case atStart => exact ⟨0, Nat.zero_le _, rfl, Ext.refl _⟩
    case round =>
      obtain ⟨k, hk, rfl, hx⟩ := hrel
      by_cases hlt : k < xs.length
      · have d1 := fun j hj => (hx.cell (p := ⟨b1, o1 + k * 3 + j, none⟩) hl1).trans (hc1 k hlt j hj)
        have d2 := fun j hj => (hx.cell (p := ⟨b2, o2 + k * 3 + j, none⟩) hl2).trans (hc2 k hlt j hj)
        generalize xs[k] = x at *
        have a0 : wr.cell? ⟨b1, o1 + k * 3, none⟩ = some (.int .i64 x.term) := d1 0 (by decide)
        have a1 : wr.cell? ⟨b1, o1 + k * 3 + 1, none⟩ = some (.int .i64 x.members) := d1 1 (by decide)
        have a2 : wr.cell? ⟨b1, o1 + k * 3 + 2, none⟩ = some (.string x.data) := d1 2 (by decide)
        have b0 : wr.cell? ⟨b2, o2 + k * 3, none⟩ = some (.int .i64 x.term) := d2 0 (by decide)
        have b1' : wr.cell? ⟨b2, o2 + k * 3 + 1, none⟩ = some (.int .i64 x.members) := d2 1 (by decide)
        have b2' : wr.cell? ⟨b2, o2 + k * 3 + 2, none⟩ = some (.string x.data) := d2 2 (by decide)
        have i1 : (0 : Int) ≤ (k : Int) := by omega
        have i2 : (k : Int) < (xs.length : Int) := by omega
        clear d1 d2 hc1 hc2
        go_wp2
        go_quiet (fail)
        go_wp2
        go_roundw
        case rel => exact ⟨k + 1, by omega, by simp, hx.drewN _⟩
        case measure => simp [intOf]; omega
      · clear hc1 hc2
        go_wp2
        go_ret
        exact ⟨rfl, hx⟩

end Go.Proofs.Ytognipephfedkaa
