/- The struct Ln (impost/api.Line) as cells; contracts of impostbook's Roomy, Same and Intact at it. (Written by genRoom.py.) -/
import Derived.Test.YtochgmpcdmahkaaProg
import Derived.Test.YtochgmpcdmahkaaFlat
import Derived.Deep.QuietTactic
import Derived.BigQuiet
namespace Go.Proofs.Ytochgmpcdmahkaa
open Go.RowKit

structure Ln where
  text : ByteArray
  cat : ByteArray
  count : Int
  price : Int
def Ln.z : Ln := ⟨⟨#[]⟩, ⟨#[]⟩, 0, 0⟩
def Ln.cells (e : Ln) : List Value := [.string e.text, .string e.cat, .int .i64 e.count, .int .i64 e.price]
def Ln.val (e : Ln) : Value := .agg #[.string e.text, .string e.cat, .int .i64 e.count, .int .i64 e.price]
theorem Ln.len (e : Ln) : e.cells.length = 4 := rfl
theorem Ln.one (xs : List Ln) : ∀ u ∈ xs.flatMap Ln.cells, u.oneCell' = true := by
  intro u hu
  obtain ⟨x, _, hx⟩ := List.mem_flatMap.1 hu
  simp only [Ln.cells, List.mem_cons, List.not_mem_nil, or_false] at hx
  rcases hx with rfl | rfl | rfl | rfl <;> rfl
theorem Try.infoLn : (Try.prog.info? 107).map (fun i => (i.zero, i.size, i.bytes)) = some (some (.agg #[.string ⟨#[]⟩, .string ⟨#[]⟩, .int .i64 0, .int .i64 0]), 4, 48) := by kernel_rfl
/-- Which of the parts of two differ first. -/
theorem Ln.differ (x y : Ln) (h : x ≠ y) : (¬ x.text = y.text) ∨ (x.text = y.text ∧ ¬ x.cat = y.cat) ∨ (x.text = y.text ∧ x.cat = y.cat ∧ ¬ x.count = y.count) ∨ (x.text = y.text ∧ x.cat = y.cat ∧ x.count = y.count ∧ ¬ x.price = y.price) := by
  obtain ⟨a0, a1, a2, a3⟩ := x
  obtain ⟨b0, b1, b2, b3⟩ := y
  simp only [Ln.mk.injEq, ne_eq] at h ⊢
  rcases Classical.em (a0 = b0) with h0 | h0
  rotate_left
  · exact .inl h0
  rcases Classical.em (a1 = b1) with h1 | h1
  rotate_left
  · exact .inr (.inl ⟨h0, h1⟩)
  rcases Classical.em (a2 = b2) with h2 | h2
  rotate_left
  · exact .inr (.inr (.inl ⟨h0, h1, h2⟩))
  exact .inr (.inr (.inr (⟨h0, h1, h2, fun e => h ⟨h0, h1, h2, e⟩⟩)))
/-- An element stored in its place. -/
theorem OwnS.setLn {te : TypeId} {w : World} {B g n cap : Nat} {xs : List Ln} (h : OwnS Ln.cells 4 te w B (.slice (some ⟨g, 0, none⟩) n cap) xs) (hn : n = xs.length) (k : Nat) (hk : k < xs.length) (y : Ln) :
    OwnS Ln.cells 4 te ((((w.setCell ⟨g, k * 4, none⟩ (.string y.text)).setCell ⟨g, k * 4 + 1, none⟩ (.string y.cat)).setCell ⟨g, k * 4 + 2, none⟩ (.int .i64 y.count)).setCell ⟨g, k * 4 + 3, none⟩ (.int .i64 y.price)) B (.slice (some ⟨g, 0, none⟩) n cap) (xs.set k y) :=
  OwnS.setN Ln.len h hn k hk y rfl

theorem take_eqLn {xs ys : List Ln} {k : Nat} (ha : k < xs.length) (hb : k < ys.length) (h : xs.take k = ys.take k) (h2 : xs[k] = ys[k]) : xs.take (k + 1) = ys.take (k + 1) := by
  rw [List.take_succ_eq_append_getElem ha, List.take_succ_eq_append_getElem hb, h, h2]

set_option maxHeartbeats 4000000 in
set_option maxRecDepth 100000 in
theorem sameLn (va vb : Value) (xs ys : List Ln) (b : Bool) (hb0 : b = true ↔ xs = ys) (w : World) (ha : SlS Ln.cells 4 w va xs) (hb : SlS Ln.cells 4 w vb ys) (hm : xs.length ≤ 1000000000000) (hm2 : ys.length ≤ 1000000000000) :
    Calls Try.prog 44 #[va, vb] w fun e w' => e = .returned (.bool b) ∧ Ext w w' := by
  obtain ⟨aa, ca, rfl⟩ := ha.form
  obtain ⟨ab, cb, rfl⟩ := hb.form
  by_cases hl : xs.length = ys.length
  · by_cases h0 : xs.length = 0
    · have e1 : xs = [] := List.length_eq_zero_iff.1 h0
      have e2 : ys = [] := List.length_eq_zero_iff.1 (by omega)
      subst e1 e2
      obtain rfl : b = true := hb0.2 rfl
      clear hb0 hl h0
      go_enter Try.func44, Try.ntmps44
      go_wp2
      refine wp_loop_rounds 1 ?_
      rw [rounds_succ]
      go_wp2
      go_ret
      exact ⟨rfl, Ext.refl _⟩
    · obtain ⟨b1, o1, rfl, hl1, hc1⟩ := SlS.at_ Ln.len ha (by omega) (by decide)
      obtain ⟨b2, o2, rfl, hl2, hc2⟩ := SlS.at_ Ln.len hb (by omega) (by decide)
      clear h0
      have HB := Lib.hid hb0
      clear hb0
      obtain ⟨nb, hbl⟩ : ∃ nb, ys.length = nb := ⟨_, rfl⟩
      rw [hbl] at hl hm2 ⊢
      have HL := Lib.hid hl
      have HN := Lib.hid hbl
      clear hl hbl
      go_enter Try.func44, Try.ntmps44
      have hne : ((xs.length : Int) != (nb : Int)) = false := by rw [HL.out]; simp
      go_wp2
      clear hne
      go_loopw [5] (fun i wr => ∃ k : Nat, k ≤ xs.length ∧ i = .int .i64 k ∧ xs.take k = ys.take k ∧ Ext w wr) (fun i _ => xs.length - (intOf i).toNat)
      case atStart => exact ⟨0, Nat.zero_le _, rfl, rfl, Ext.refl _⟩
      case round =>
        obtain ⟨k, hk, rfl, htk, hx⟩ := hrel
        have HT := Lib.hid htk
        clear htk
        by_cases hlt : k < xs.length
        · have hltb : k < nb := by have := HL.out; omega
          have hltb' : k < ys.length := by have := HN.out; omega
          have d1 := fun j hj => (hx.cell (p := ⟨b1, o1 + k * 4 + j, none⟩) hl1).trans (hc1 k hlt j hj)
          have d2 := fun j hj => (hx.cell (p := ⟨b2, o2 + k * 4 + j, none⟩) hl2).trans (hc2 k hltb' j hj)
          have HTE := Lib.hid (fun h2 => take_eqLn hlt hltb' HT.out h2)
          have HNE := Lib.hid (fun (h2 : ¬ xs[k] = ys[k]) (h3 : xs = ys) => h2 (by subst h3; rfl))
          clear HT
          generalize xs[k] = x at *
          generalize ys[k] = y at *
          have a0 : wr.cell? ⟨b1, o1 + k * 4, none⟩ = some (.string x.text) := d1 0 (by decide)
          have c0 : wr.cell? ⟨b2, o2 + k * 4, none⟩ = some (.string y.text) := d2 0 (by decide)
          have a1 : wr.cell? ⟨b1, o1 + k * 4 + 1, none⟩ = some (.string x.cat) := d1 1 (by decide)
          have c1 : wr.cell? ⟨b2, o2 + k * 4 + 1, none⟩ = some (.string y.cat) := d2 1 (by decide)
          have a2 : wr.cell? ⟨b1, o1 + k * 4 + 2, none⟩ = some (.int .i64 x.count) := d1 2 (by decide)
          have c2 : wr.cell? ⟨b2, o2 + k * 4 + 2, none⟩ = some (.int .i64 y.count) := d2 2 (by decide)
          have a3 : wr.cell? ⟨b1, o1 + k * 4 + 3, none⟩ = some (.int .i64 x.price) := d1 3 (by decide)
          have c3 : wr.cell? ⟨b2, o2 + k * 4 + 3, none⟩ = some (.int .i64 y.price) := d2 3 (by decide)
          have i1 : (0 : Int) ≤ (k : Int) := by omega
          have i2 : (k : Int) < (xs.length : Int) := by omega
          have i3 : (k : Int) < (nb : Int) := by omega
          clear d1 d2 hc1 hc2
          by_cases he : x = y
          · subst he
            have HT2 := Lib.hid (HTE.out rfl)
            clear HTE HNE
            go_wp2
            go_quiet (fail)
            go_wp2
            go_roundw
            case rel => exact ⟨k + 1, by omega, by simp, HT2.out, hx.drewN _⟩
            case measure => simp [intOf]; omega
          · obtain rfl : b = false := by
              cases b
              · rfl
              · exact absurd (HB.out.1 rfl) (HNE.out he)
            have hd := Ln.differ x y he
            clear HTE HNE he
            rcases hd with s0 | ⟨s0, s1⟩ | ⟨s0, s1, s2⟩ | ⟨s0, s1, s2, s3⟩
            · replace s0 : ((x.text).toList == (y.text).toList) = false := str_ne _ _ s0
              go_wp2
              go_quiet (fail)
              go_wp2
              go_ret
              exact ⟨rfl, hx.drewN _⟩
            · rw [← s0] at c0; clear s0
              replace s1 : ((x.cat).toList == (y.cat).toList) = false := str_ne _ _ s1
              go_wp2
              go_quiet (fail)
              go_wp2
              go_ret
              exact ⟨rfl, hx.drewN _⟩
            · rw [← s0] at c0; clear s0
              rw [← s1] at c1; clear s1
              replace s2 : (x.count == y.count) = false := beq_eq_false_iff_ne.2 s2
              go_wp2
              go_quiet (fail)
              go_wp2
              go_ret
              exact ⟨rfl, hx.drewN _⟩
            · rw [← s0] at c0; clear s0
              rw [← s1] at c1; clear s1
              rw [← s2] at c2; clear s2
              replace s3 : (x.price == y.price) = false := beq_eq_false_iff_ne.2 s3
              go_wp2
              go_quiet (fail)
              go_wp2
              go_ret
              exact ⟨rfl, hx.drewN _⟩
        · have hke : k = xs.length := by omega
          have : xs = ys := by
            have h1 := HT.out
            rw [List.take_of_length_le (by omega), List.take_of_length_le (by have := HL.out; have := HN.out; omega)] at h1
            exact h1
          obtain rfl : b = true := HB.out.2 this
          clear this hc1 hc2 hke
          go_wp2
          go_ret
          exact ⟨rfl, hx⟩
  · obtain rfl : b = false := by
      cases b
      · rfl
      · exact absurd (congrArg List.length (hb0.1 rfl)) hl
    have hne : ((xs.length : Int) != (ys.length : Int)) = true := by simp; omega
    clear hl hb0
    go_enter Try.func44, Try.ntmps44
    go_wp2
    go_ret
    exact ⟨rfl, Ext.refl _⟩

end Go.Proofs.Ytochgmpcdmahkaa
