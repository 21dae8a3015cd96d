/- Contracts of impostbook's Roomy, Intact and Same at entries of a log. -/
import Derived.Test.YtpfdihidncofaaaProg
import Derived.Test.YtpfdihidncofaaaFlat
import Derived.Deep.QuietTactic
import Derived.BigQuiet
namespace Go.Proofs.Ytpfdihidncofaaa
open Go.RowKit

/-- An entry of a log. -/
structure Ent where
  term : Int
  members : Int
  data : ByteArray
deriving Inhabited
def Ent.z : Ent := ⟨0, 0, ⟨#[]⟩⟩
def Ent.cells (e : Ent) : List Value := [.int .i64 e.term, .int .i64 e.members, .string e.data]
theorem Ent.three (e : Ent) : e.cells.length = 3 := rfl
theorem Ent.one (xs : List Ent) : ∀ u ∈ xs.flatMap Ent.cells, u.oneCell' = true := by
  intro u hu
  obtain ⟨x, _, hx⟩ := List.mem_flatMap.1 hu
  simp only [Ent.cells, List.mem_cons, List.not_mem_nil, or_false] at hx
  rcases hx with rfl | rfl | rfl <;> rfl
theorem Try.infoEnt : (Try.prog.info? 36).map (fun i => (i.zero, i.size, i.bytes)) = some (some (.agg #[.int .i64 0, .int .i64 0, .string ⟨#[]⟩]), 3, 32) := by kernel_rfl

set_option maxHeartbeats 2000000 in
set_option maxRecDepth 100000 in
theorem roomyE (v : Value) (l : List Ent) (mk : Ent) (w : World) (hr : SlS Ent.cells 3 w v l) (h2 : l.length ≤ 1000000000000) :
    Calls Try.prog 14 #[v, .agg mk.cells.toArray] w fun e w' => ∃ g, e = .returned (.slice (some ⟨g, 0, none⟩) (l.length + 80) (l.length + 80)) ∧
      OwnS Ent.cells 3 36 w' w.heap.size (.slice (some ⟨g, 0, none⟩) (l.length + 80) (l.length + 80)) (l ++ List.replicate 80 mk) ∧ Ext w w' := by
  obtain ⟨i0, hi, hz0, hz1, hz2⟩ := info_parts Try.infoEnt
  obtain ⟨a, cap, rfl⟩ := hr.form
  have HC : Hid ((l.length : Int) + 80 = ((l.length + 80 : Nat) : Int)) := Lib.hid (by omega)
  simp only [Ent.cells]
  go_enter Try.func14, Try.ntmps14
  go_wp2_with (at_make; refine wpList_make_full _ rfl _ _ 22 rfl (w.heap.size + 1) 36 i0 _ 3 Try.underlying22 hi hz0 hz1 .i64 .i64 _ _ (l.length + 80) rfl rfl HC.out HC.out ?b2 ?b3 ?b4 ?_)
  case b2 => rw [hz2]; omega
  case b3 => unfold maxLen; omega
  case b4 => simp
  intro w1 hown hg
  have hx0 : Ext (w.alloc (.cells #[.int .i64 mk.term, .int .i64 mk.members, .string mk.data] 36)) w1 := (Below.refl _ _).grown hg (Nat.le_refl _) (fun k hk => by cases hk)
  have hx : Ext w w1 := Ext.trans ((Ext.refl w).alloc _) hx0
  have hs := src_sl (P := Try.prog) Try.underlying22 (hr.ext hx) (Ent.one l)
  go_wp2_with (with_reducible refine wpList_own_copy _ rfl _ _ 22 22 rfl (w.heap.size + 1) 36 i0 3 Try.underlying22 hi hz1 (by decide) _ _ (l.length + 80) l.length _ _ hown hs rfl rfl ?c1 ?_)
  case c1 => omega
  intro w2 ho2 hb2
  have hx2 : Ext (w.alloc (.cells #[.int .i64 mk.term, .int .i64 mk.members, .string mk.data] 36)) w2 := by
    have e : (w.alloc (.cells #[.int .i64 mk.term, .int .i64 mk.members, .string mk.data] 36)).heap.size = w.heap.size + 1 := by simp
    have hx1 := hx0
    unfold Ext at hx1 ⊢
    rw [e] at hx1 ⊢
    exact Below.trans hx1 hb2
  have hL : l.flatMap Ent.cells ++ List.drop (l.length * 3) (madeCells #[Value.int .i64 0, Value.int .i64 0, Value.string ⟨#[]⟩] ((l.length + 80) * 3)).toList = (l ++ List.replicate 80 Ent.z).flatMap Ent.cells := by
    have := made_flat (c := Ent.cells) Ent.three Ent.z (l.length + 80) (by decide)
    have e0 : (Ent.cells Ent.z).toArray = #[Value.int .i64 0, Value.int .i64 0, Value.string ⟨#[]⟩] := rfl
    rw [e0] at this
    rw [this, flat_drop (c := Ent.cells) Ent.three, List.flatMap_append, List.drop_replicate, Nat.add_sub_cancel_left]
  rw [hL] at ho2
  have R : OwnS Ent.cells 3 36 w2 (w.heap.size + 1) (.slice (some ⟨w.heap.size + 1, 0, none⟩) (l.length + 80) (l.length + 80)) (l ++ List.replicate 80 Ent.z) := by
    unfold OwnS
    have e : (l ++ List.replicate 80 Ent.z).length = l.length + 80 := by simp
    rw [e]
    exact ho2
  obtain ⟨k0, k1, k2⟩ : w2.cell? ⟨w.heap.size, 0, none⟩ = some (.int .i64 mk.term) ∧ w2.cell? ⟨w.heap.size, 1, none⟩ = some (.int .i64 mk.members) ∧ w2.cell? ⟨w.heap.size, 2, none⟩ = some (.string mk.data) := by
    refine ⟨?_, ?_, ?_⟩ <;> (rw [Ext.cell hx2 (by simp), World.cell?_alloc_at _ _ _ _ rfl]; rfl)
  clear ho2 hown hs hL HC hg hx0
  go_wp2_with fail
  go_loopw [6] (fun iv wr => ∃ k : Nat, k ≤ 80 ∧ iv = .int .i64 ((l.length + k : Nat) : Int) ∧ OwnS Ent.cells 3 36 wr (w.heap.size + 1) (.slice (some ⟨w.heap.size + 1, 0, none⟩) (l.length + 80) (l.length + 80)) (l ++ (List.replicate k mk ++ List.replicate (80 - k) Ent.z)) ∧ KeepR (w.heap.size + 1) w2 wr) (fun iv _ => l.length + 80 - (intOf iv).toNat)
  case atStart => exact ⟨0, by omega, rfl, by simpa using R, KeepR.refl _ _⟩
  case round =>
    obtain ⟨k, hk, rfl, ho, hkr⟩ := hrel
    by_cases hlt : k < 80
    · have kk : ∀ o, wr.cell? ⟨w.heap.size, o, none⟩ = w2.cell? ⟨w.heap.size, o, none⟩ := fun o => World.cell?_of_block (a := ⟨w.heap.size, o, none⟩) (hkr.block w.heap.size (by have := hx2.size; simp at this; omega) (by omega))
      have q0 := (kk 0).trans k0
      have q1 := (kk 1).trans k1
      have q2 := (kk 2).trans k2
      clear kk
      have hll : (l ++ (List.replicate k mk ++ List.replicate (80 - k) Ent.z)).length = l.length + 80 := by simp; omega
      have hz : (l ++ (List.replicate k mk ++ List.replicate (80 - k) Ent.z))[l.length + k]'(by omega) = Ent.z := by
        rw [List.getElem_append_right (by omega), List.getElem_append_right (by simp)]; simp
      obtain ⟨hat, hbg⟩ := OwnS.at_ Ent.three ho hll.symm (l.length + k) (by omega)
      rw [hz] at hat
      obtain ⟨g0, f0⟩ := hat 0 (by decide)
      obtain ⟨g1, f1⟩ := hat 1 (by decide)
      obtain ⟨g2, f2⟩ := hat 2 (by decide)
      replace g0 : wr.cell? ⟨w.heap.size + 1, (l.length + k) * 3, none⟩ = some (.int .i64 0) := g0
      replace g1 : wr.cell? ⟨w.heap.size + 1, (l.length + k) * 3 + 1, none⟩ = some (.int .i64 0) := g1
      replace g2 : wr.cell? ⟨w.heap.size + 1, (l.length + k) * 3 + 2, none⟩ = some (.string ⟨#[]⟩) := g2
      replace f0 : wr.frozen? ⟨w.heap.size + 1, (l.length + k) * 3, none⟩ = false := f0
      have hset := OwnS.set3 Ent.three ho hll.symm (l.length + k) (by omega) mk _ _ _ rfl
      have hset2 : (l ++ (List.replicate k mk ++ List.replicate (80 - k) Ent.z)).set (l.length + k) mk = l ++ (List.replicate (k + 1) mk ++ List.replicate (80 - (k + 1)) Ent.z) := by
        rw [List.set_append_right _ _ (by omega), List.set_append_right _ _ (by simp)]
        have e1 : 80 - k = (80 - (k + 1)) + 1 := by omega
        rw [e1, List.replicate_succ, List.replicate_succ']
        simp
      rw [hset2] at hset
      clear hset2 hz hat ho hbg
      have HS := Lib.hid hset
      clear hset
      go_wp2
      refine ⟨⟨k + 1, by omega, by simp; omega, HS.out, ((hkr.set _).set _).set _⟩, by simp [intOf]; omega⟩
    · obtain rfl : k = 80 := by omega
      have hfin : Ext w wr := by
        have h1 : Ext w w2 := Ext.trans ((Ext.refl w).alloc _) hx2
        exact Below.trans h1 (hkr.below (by omega) (by have := hx2.size; simp at this; omega))
      have R2 : OwnS Ent.cells 3 36 wr w.heap.size (.slice (some ⟨w.heap.size + 1, 0, none⟩) (l.length + 80) (l.length + 80)) (l ++ List.replicate 80 mk) := OwnS.base (by simpa using ho) (by omega)
      clear ho R
      have HR := Lib.hid R2
      clear R2
      go_wp2
      go_ret
      exact ⟨w.heap.size + 1, rfl, HR.out, hfin⟩

set_option maxHeartbeats 2000000 in
set_option maxRecDepth 100000 in
theorem same_yesE (va vb : Value) (xs : List Ent) (w : World) (ha : SlS Ent.cells 3 w va xs) (hb : SlS Ent.cells 3 w vb xs) (hm : xs.length ≤ 1000000000000) :
    Calls Try.prog 32 #[va, vb] w fun e w' => e = .returned (.bool true) ∧ Ext w w' := by
  obtain ⟨aa, ca, rfl⟩ := ha.form
  obtain ⟨ab, cb, rfl⟩ := hb.form
  have hne : ((xs.length : Int) != (xs.length : Int)) = false := by simp
  by_cases h0 : xs.length = 0
  · have h0' : xs = [] := List.length_eq_zero_iff.1 h0
    subst h0'
    clear hne
    go_enter Try.func32, Try.ntmps32
    go_wp2
    refine wp_loop_rounds 1 ?_
    rw [rounds_succ]
    go_wp2
    go_ret
    exact ⟨rfl, Ext.refl _⟩
  · obtain ⟨b1, o1, rfl, hl1, hc1⟩ := SlS.at_ Ent.three ha (by omega) (by decide)
    obtain ⟨b2, o2, rfl, hl2, hc2⟩ := SlS.at_ Ent.three hb (by omega) (by decide)
    go_enter Try.func32, Try.ntmps32
    go_wp2
    clear hne
    go_loopw [5] (fun i wr => ∃ k : Nat, k ≤ xs.length ∧ i = .int .i64 k ∧ Ext w wr) (fun i _ => xs.length - (intOf i).toNat)
    case atStart => exact ⟨0, Nat.zero_le _, rfl, Ext.refl _⟩
    case round =>
      obtain ⟨k, hk, rfl, hx⟩ := hrel
      by_cases hlt : k < xs.length
      · have d1 := fun j hj => (hx.cell (p := ⟨b1, o1 + k * 3 + j, none⟩) hl1).trans (hc1 k hlt j hj)
        have d2 := fun j hj => (hx.cell (p := ⟨b2, o2 + k * 3 + j, none⟩) hl2).trans (hc2 k hlt j hj)
        generalize xs[k] = x at *
        have a0 : wr.cell? ⟨b1, o1 + k * 3, none⟩ = some (.int .i64 x.term) := d1 0 (by decide)
        have a1 : wr.cell? ⟨b1, o1 + k * 3 + 1, none⟩ = some (.int .i64 x.members) := d1 1 (by decide)
        have a2 : wr.cell? ⟨b1, o1 + k * 3 + 2, none⟩ = some (.string x.data) := d1 2 (by decide)
        have b0 : wr.cell? ⟨b2, o2 + k * 3, none⟩ = some (.int .i64 x.term) := d2 0 (by decide)
        have b1' : wr.cell? ⟨b2, o2 + k * 3 + 1, none⟩ = some (.int .i64 x.members) := d2 1 (by decide)
        have b2' : wr.cell? ⟨b2, o2 + k * 3 + 2, none⟩ = some (.string x.data) := d2 2 (by decide)
        have i1 : (0 : Int) ≤ (k : Int) := by omega
        have i2 : (k : Int) < (xs.length : Int) := by omega
        clear d1 d2 hc1 hc2
        go_wp2
        go_quiet (fail)
        go_wp2
        go_roundw
        case rel => exact ⟨k + 1, by omega, by simp, hx.drewN _⟩
        case measure => simp [intOf]; omega
      · clear hc1 hc2
        go_wp2
        go_ret
        exact ⟨rfl, hx⟩

set_option maxHeartbeats 2000000 in
set_option maxRecDepth 100000 in
theorem intactE (g : Nat) (vb : Value) (l : List Ent) (mk : Ent) (w : World) (B : Nat) (ho : OwnS Ent.cells 3 36 w B (.slice (some ⟨g, 0, none⟩) (l.length + 80) (l.length + 80)) (l ++ List.replicate 80 mk)) (hb : SlS Ent.cells 3 w vb l) (h2 : l.length ≤ 1000000000000) :
    Calls Try.prog 18 #[.slice (some ⟨g, 0, none⟩) (l.length + 80) (l.length + 80), vb, .agg mk.cells.toArray] w fun e w' => e = .returned (.bool true) ∧ Ext w w' := by
  obtain ⟨a, cap, rfl⟩ := hb.form
  have hll : (l ++ List.replicate 80 mk).length = l.length + 80 := by simp
  have hrf : SlS Ent.cells 3 w (.slice (some ⟨g, 0, none⟩) l.length (l.length + 80)) l := by
    have h3 := SlS.cut Ent.three ho.rd l.length (by omega) (l.length + 80)
    simpa using h3
  have hne : ((l.length : Int) + 80 != (l.length : Int) + 80) = false := by simp
  simp only [Ent.cells]
  go_enter Try.func18, Try.ntmps18
  go_wp2_with fail
  refine (same_yesE _ _ l _ (hrf.ext (by repeat (first | exact Ext.refl _ | assumption | refine Ext.trans ?_ (by assumption) | refine Ext.alloc ?_ _ | refine Ext.drew ?_ | refine Ext.drewN ?_ _))) (hb.ext (by repeat (first | exact Ext.refl _ | assumption | refine Ext.trans ?_ (by assumption) | refine Ext.alloc ?_ _ | refine Ext.drew ?_ | refine Ext.drewN ?_ _))) h2).mono ?_
  rintro e w1 ⟨rfl, hx1⟩
  have k0 : w1.cell? ⟨w.heap.size, 0, none⟩ = some (.int .i64 mk.term) := by rw [Ext.cell hx1 (by simp), World.cell?_alloc_at _ _ _ _ rfl]; rfl
  have k1 : w1.cell? ⟨w.heap.size, 1, none⟩ = some (.int .i64 mk.members) := by rw [Ext.cell hx1 (by simp), World.cell?_alloc_at _ _ _ _ rfl]; rfl
  have k2 : w1.cell? ⟨w.heap.size, 2, none⟩ = some (.string mk.data) := by rw [Ext.cell hx1 (by simp), World.cell?_alloc_at _ _ _ _ rfl]; rfl
  have hz := World.block_lt_of_cell? w1 _ k0
  have hW1 : Ext w w1 := Ext.trans ((Ext.refl w).alloc _) hx1
  clear hx1
  go_wp2_with fail
  go_loopw [7] (fun iv wr => ∃ k : Nat, k ≤ 80 ∧ iv = .int .i64 ((l.length + k : Nat) : Int) ∧ Ext w1 wr) (fun iv _ => l.length + 80 - (intOf iv).toNat)
  case atStart => exact ⟨0, by omega, rfl, Ext.refl _⟩
  case round =>
    obtain ⟨k, hk, rfl, hxr⟩ := hrel
    by_cases hlt : k < 80
    · obtain ⟨hat, hbg⟩ := OwnS.at_ Ent.three ho hll.symm (l.length + k) (by omega)
      have hm : (l ++ List.replicate 80 mk)[l.length + k]'(by omega) = mk := by
        rw [List.getElem_append_right (by omega), List.getElem_replicate]
      rw [hm] at hat
      have hgl := (hbg (by decide)).2
      have kk := fun j hj => ((hW1.trans hxr).cell (p := ⟨g, (l.length + k) * 3 + j, none⟩) hgl).trans (hat j hj).1
      have q0 := (hxr.cell (p := ⟨w.heap.size, 0, none⟩) hz).trans k0
      have q1 := (hxr.cell (p := ⟨w.heap.size, 1, none⟩) hz).trans k1
      have q2 := (hxr.cell (p := ⟨w.heap.size, 2, none⟩) hz).trans k2
      have g0 : wr.cell? ⟨g, (l.length + k) * 3, none⟩ = some (.int .i64 mk.term) := kk 0 (by decide)
      have g1 : wr.cell? ⟨g, (l.length + k) * 3 + 1, none⟩ = some (.int .i64 mk.members) := kk 1 (by decide)
      have g2 : wr.cell? ⟨g, (l.length + k) * 3 + 2, none⟩ = some (.string mk.data) := kk 2 (by decide)
      clear kk hat hm hbg
      go_wp2
      have i1 : (0 : Int) ≤ ((l.length + k : Nat) : Int) := by omega
      go_quiet (fail)
      go_wp2
      go_roundw
      case rel => exact ⟨k + 1, by omega, by simp; omega, hxr.drewN _⟩
      case measure => simp [intOf]; omega
    · obtain rfl : k = 80 := by omega
      go_wp2
      go_ret
      exact ⟨rfl, hW1.trans hxr⟩
end Go.Proofs.Ytpfdihidncofaaa
