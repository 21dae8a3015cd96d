/- The struct Ln (impost/api.Line) as cells; contracts of impostbook's Roomy, Same and Intact at it. (Written by genRoom.py.) -/
import Derived.Test.YteenkbfmlnpmlaaProg
import Derived.Test.YteenkbfmlnpmlaaFlat
import Derived.Deep.QuietTactic
import Derived.BigQuiet
namespace Go.Proofs.Yteenkbfmlnpmlaa
open Go.RowKit

structure Ln where
  text : ByteArray
  cat : ByteArray
  count : Int
  price : Int
def Ln.z : Ln := ⟨⟨#[]⟩, ⟨#[]⟩, 0, 0⟩
def Ln.cells (e : Ln) : List Value := [.string e.text, .string e.cat, .int .i64 e.count, .int .i64 e.price]
def Ln.val (e : Ln) : Value := .agg #[.string e.text, .string e.cat, .int .i64 e.count, .int .i64 e.price]
theorem Ln.len (e : Ln) : e.cells.length = 4 := rfl
theorem Ln.one (xs : List Ln) : ∀ u ∈ xs.flatMap Ln.cells, u.oneCell' = true := by
  intro u hu
  obtain ⟨x, _, hx⟩ := List.mem_flatMap.1 hu
  simp only [Ln.cells, List.mem_cons, List.not_mem_nil, or_false] at hx
  rcases hx with rfl | rfl | rfl | rfl <;> rfl
theorem Try.infoLn : (Try.prog.info? 56).map (fun i => (i.zero, i.size, i.bytes)) = some (some (.agg #[.string ⟨#[]⟩, .string ⟨#[]⟩, .int .i64 0, .int .i64 0]), 4, 48) := by kernel_rfl
/-- Which of the parts of two differ first. -/
theorem Ln.differ (x y : Ln) (h : x ≠ y) : (¬ x.text = y.text) ∨ (x.text = y.text ∧ ¬ x.cat = y.cat) ∨ (x.text = y.text ∧ x.cat = y.cat ∧ ¬ x.count = y.count) ∨ (x.text = y.text ∧ x.cat = y.cat ∧ x.count = y.count ∧ ¬ x.price = y.price) := by
  obtain ⟨a0, a1, a2, a3⟩ := x
  obtain ⟨b0, b1, b2, b3⟩ := y
  simp only [Ln.mk.injEq, ne_eq] at h ⊢
  rcases Classical.em (a0 = b0) with h0 | h0
  rotate_left
  · exact .inl h0
  rcases Classical.em (a1 = b1) with h1 | h1
  rotate_left
  · exact .inr (.inl ⟨h0, h1⟩)
  rcases Classical.em (a2 = b2) with h2 | h2
  rotate_left
  · exact .inr (.inr (.inl ⟨h0, h1, h2⟩))
  exact .inr (.inr (.inr (⟨h0, h1, h2, fun e => h ⟨h0, h1, h2, e⟩⟩)))
/-- An element stored in its place. -/
theorem OwnS.setLn {te : TypeId} {w : World} {B g n cap : Nat} {xs : List Ln} (h : OwnS Ln.cells 4 te w B (.slice (some ⟨g, 0, none⟩) n cap) xs) (hn : n = xs.length) (k : Nat) (hk : k < xs.length) (y : Ln) :
    OwnS Ln.cells 4 te ((((w.setCell ⟨g, k * 4, none⟩ (.string y.text)).setCell ⟨g, k * 4 + 1, none⟩ (.string y.cat)).setCell ⟨g, k * 4 + 2, none⟩ (.int .i64 y.count)).setCell ⟨g, k * 4 + 3, none⟩ (.int .i64 y.price)) B (.slice (some ⟨g, 0, none⟩) n cap) (xs.set k y) :=
  OwnS.setN Ln.len h hn k hk y rfl

set_option maxHeartbeats 2000000 in
set_option maxRecDepth 100000 in
theorem roomyLn (v : Value) (l : List Ln) (mk : Ln) (w : World) (hr : SlS Ln.cells 4 w v l) (h2 : l.length ≤ 1000000000000) :
    Calls Try.prog 19 #[v, mk.val] w fun e w' => ∃ g, e = .returned (.slice (some ⟨g, 0, none⟩) (l.length + 80 : Nat) (l.length + 80 : Nat)) ∧
      OwnS Ln.cells 4 56 w' w.heap.size (.slice (some ⟨g, 0, none⟩) (l.length + 80) (l.length + 80)) (l ++ List.replicate 80 mk) ∧ Ext w w' := by
  obtain ⟨i0, hi, hz0, hz1, hz2⟩ := info_parts Try.infoLn
  obtain ⟨a, cap, rfl⟩ := hr.form
  have HC : Hid ((l.length : Int) + 80 = ((l.length + 80 : Nat) : Int)) := Lib.hid (by omega)
  simp only [Ln.val]
  go_enter Try.func19, Try.ntmps19
  go_wp2_with (at_make; refine wpList_make_full _ rfl _ _ 33 rfl (w.heap.size + 1) 56 i0 _ 4 Try.underlying33 hi hz0 hz1 .i64 .i64 _ _ (l.length + 80) rfl rfl HC.out HC.out ?b2 ?b3 ?b4 ?_)
  case b2 => rw [hz2]; omega
  case b3 => unfold maxLen; omega
  case b4 => simp
  intro w1 hown hg
  have hx0 : Ext (w.alloc (.cells #[.string mk.text, .string mk.cat, .int .i64 mk.count, .int .i64 mk.price] 56)) w1 := (Below.refl _ _).grown hg (Nat.le_refl _) (fun k hk => by cases hk)
  have hx : Ext w w1 := Ext.trans ((Ext.refl w).alloc _) hx0
  have hs := src_sl (P := Try.prog) Try.underlying33 (hr.ext hx) (Ln.one l)
  go_wp2_with (with_reducible refine wpList_own_copy _ rfl _ _ 33 33 rfl (w.heap.size + 1) 56 i0 4 Try.underlying33 hi hz1 (by decide) _ _ (l.length + 80) l.length _ _ hown hs rfl rfl ?c1 ?_)
  case c1 => omega
  intro w2 ho2 hb2
  have hx2 : Ext (w.alloc (.cells #[.string mk.text, .string mk.cat, .int .i64 mk.count, .int .i64 mk.price] 56)) w2 := by
    have e : (w.alloc (.cells #[.string mk.text, .string mk.cat, .int .i64 mk.count, .int .i64 mk.price] 56)).heap.size = w.heap.size + 1 := by simp
    have hx1 := hx0
    unfold Ext at hx1 ⊢
    rw [e] at hx1 ⊢
    exact Below.trans hx1 hb2
  have hL : l.flatMap Ln.cells ++ List.drop (l.length * 4) (madeCells #[Value.string ⟨#[]⟩, Value.string ⟨#[]⟩, Value.int .i64 0, Value.int .i64 0] ((l.length + 80) * 4)).toList = (l ++ List.replicate 80 Ln.z).flatMap Ln.cells := by
    have := made_flat (c := Ln.cells) Ln.len Ln.z (l.length + 80) (by decide)
    have e0 : (Ln.cells Ln.z).toArray = #[Value.string ⟨#[]⟩, Value.string ⟨#[]⟩, Value.int .i64 0, Value.int .i64 0] := rfl
    rw [e0] at this
    rw [this, flat_drop (c := Ln.cells) Ln.len, List.flatMap_append, List.drop_replicate, Nat.add_sub_cancel_left]
  rw [hL] at ho2
  have R : OwnS Ln.cells 4 56 w2 (w.heap.size + 1) (.slice (some ⟨w.heap.size + 1, 0, none⟩) (l.length + 80) (l.length + 80)) (l ++ List.replicate 80 Ln.z) := by
    unfold OwnS
    have e : (l ++ List.replicate 80 Ln.z).length = l.length + 80 := by simp
    rw [e]
    exact ho2
  obtain ⟨k0, k1, k2, k3⟩ : w2.cell? ⟨w.heap.size, 0, none⟩ = some (.string mk.text) ∧ w2.cell? ⟨w.heap.size, 1, none⟩ = some (.string mk.cat) ∧ w2.cell? ⟨w.heap.size, 2, none⟩ = some (.int .i64 mk.count) ∧ w2.cell? ⟨w.heap.size, 3, none⟩ = some (.int .i64 mk.price) := by
    refine ⟨?_, ?_, ?_, ?_⟩ <;> (rw [Ext.cell hx2 (by simp), World.cell?_alloc_at _ _ _ _ rfl]; rfl)
  clear ho2 hown hs hL HC hg hx0
  go_wp2_with fail
  go_loopw [6] (fun iv wr => ∃ k : Nat, k ≤ 80 ∧ iv = .int .i64 ((l.length + k : Nat) : Int) ∧ OwnS Ln.cells 4 56 wr (w.heap.size + 1) (.slice (some ⟨w.heap.size + 1, 0, none⟩) (l.length + 80) (l.length + 80)) (l ++ (List.replicate k mk ++ List.replicate (80 - k) Ln.z)) ∧ KeepR (w.heap.size + 1) w2 wr) (fun iv _ => l.length + 80 - (intOf iv).toNat)
  case atStart => exact ⟨0, by omega, rfl, by simpa using R, KeepR.refl _ _⟩
  case round =>
    obtain ⟨k, hk, rfl, ho, hkr⟩ := hrel
    by_cases hlt : k < 80
    · have kk : ∀ o, wr.cell? ⟨w.heap.size, o, none⟩ = w2.cell? ⟨w.heap.size, o, none⟩ := fun o => World.cell?_of_block (a := ⟨w.heap.size, o, none⟩) (hkr.block w.heap.size (by have := hx2.size; simp at this; omega) (by omega))
      have q0 := (kk 0).trans k0
      have q1 := (kk 1).trans k1
      have q2 := (kk 2).trans k2
      have q3 := (kk 3).trans k3
      clear kk
      have hll : (l ++ (List.replicate k mk ++ List.replicate (80 - k) Ln.z)).length = l.length + 80 := by simp; omega
      have hz : (l ++ (List.replicate k mk ++ List.replicate (80 - k) Ln.z))[l.length + k]'(by omega) = Ln.z := by
        rw [List.getElem_append_right (by omega), List.getElem_append_right (by simp)]; simp
      obtain ⟨hat, hbg⟩ := OwnS.at_ Ln.len ho hll.symm (l.length + k) (by omega)
      rw [hz] at hat
      obtain ⟨g0, f0⟩ := hat 0 (by decide)
      replace g0 : wr.cell? ⟨w.heap.size + 1, (l.length + k) * 4, none⟩ = some (.string ⟨#[]⟩) := g0
      obtain ⟨g1, f1⟩ := hat 1 (by decide)
      replace g1 : wr.cell? ⟨w.heap.size + 1, (l.length + k) * 4 + 1, none⟩ = some (.string ⟨#[]⟩) := g1
      obtain ⟨g2, f2⟩ := hat 2 (by decide)
      replace g2 : wr.cell? ⟨w.heap.size + 1, (l.length + k) * 4 + 2, none⟩ = some (.int .i64 0) := g2
      obtain ⟨g3, f3⟩ := hat 3 (by decide)
      replace g3 : wr.cell? ⟨w.heap.size + 1, (l.length + k) * 4 + 3, none⟩ = some (.int .i64 0) := g3
      replace f0 : wr.frozen? ⟨w.heap.size + 1, (l.length + k) * 4, none⟩ = false := f0
      have hset := OwnS.setLn ho hll.symm (l.length + k) (by omega) mk
      have hset2 : (l ++ (List.replicate k mk ++ List.replicate (80 - k) Ln.z)).set (l.length + k) mk = l ++ (List.replicate (k + 1) mk ++ List.replicate (80 - (k + 1)) Ln.z) := by
        rw [List.set_append_right _ _ (by omega), List.set_append_right _ _ (by simp)]
        have e1 : 80 - k = (80 - (k + 1)) + 1 := by omega
        rw [e1, List.replicate_succ, List.replicate_succ']
        simp
      rw [hset2] at hset
      clear hset2 hz hat ho hbg
      have HS := Lib.hid hset
      clear hset
      go_wp2
      refine ⟨⟨k + 1, by omega, by simp; omega, HS.out, (((hkr.set _).set _).set _).set _⟩, by simp [intOf]; omega⟩
    · obtain rfl : k = 80 := by omega
      have hfin : Ext w wr := by
        have h1 : Ext w w2 := Ext.trans ((Ext.refl w).alloc _) hx2
        exact Below.trans h1 (hkr.below (by omega) (by have := hx2.size; simp at this; omega))
      have R2 : OwnS Ln.cells 4 56 wr w.heap.size (.slice (some ⟨w.heap.size + 1, 0, none⟩) (l.length + 80) (l.length + 80)) (l ++ List.replicate 80 mk) := OwnS.base (by simpa using ho) (by omega)
      clear ho R
      have HR := Lib.hid R2
      clear R2
      go_wp2
      go_ret
      exact ⟨w.heap.size + 1, rfl, HR.out, hfin⟩

theorem take_eqLn {xs ys : List Ln} {k : Nat} (ha : k < xs.length) (hb : k < ys.length) (h : xs.take k = ys.take k) (h2 : xs[k] = ys[k]) : xs.take (k + 1) = ys.take (k + 1) := by
  rw [List.take_succ_eq_append_getElem ha, List.take_succ_eq_append_getElem hb, h, h2]

set_option maxHeartbeats 4000000 in
set_option maxRecDepth 100000 in
theorem sameLn (va vb : Value) (xs ys : List Ln) (b : Bool) (hb0 : b = true ↔ xs = ys) (w : World) (ha : SlS Ln.cells 4 w va xs) (hb : SlS Ln.cells 4 w vb ys) (hm : xs.length ≤ 1000000000000) (hm2 : ys.length ≤ 1000000000000) :
    Calls Try.prog 30 #[va, vb] w fun e w' => e = .returned (.bool b) ∧ Ext w w' := by
  obtain ⟨aa, ca, rfl⟩ := ha.form
  obtain ⟨ab, cb, rfl⟩ := hb.form
  by_cases hl : xs.length = ys.length
  · by_cases h0 : xs.length = 0
    · have e1 : xs = [] := List.length_eq_zero_iff.1 h0
      have e2 : ys = [] := List.length_eq_zero_iff.1 (by omega)
      subst e1 e2
      obtain rfl : b = true := hb0.2 rfl
      clear hb0 hl h0
      go_enter Try.func30, Try.ntmps30
      go_wp2
      refine wp_loop_rounds 1 ?_
      rw [rounds_succ]
      go_wp2
      go_ret
      exact ⟨rfl, Ext.refl _⟩
    · obtain ⟨b1, o1, rfl, hl1, hc1⟩ := SlS.at_ Ln.len ha (by omega) (by decide)
      obtain ⟨b2, o2, rfl, hl2, hc2⟩ := SlS.at_ Ln.len hb (by omega) (by decide)
      clear h0
      have HB := Lib.hid hb0
      clear hb0
      obtain ⟨nb, hbl⟩ : ∃ nb, ys.length = nb := ⟨_, rfl⟩
      rw [hbl] at hl hm2 ⊢
      have HL := Lib.hid hl
      have HN := Lib.hid hbl
      clear hl hbl
      go_enter Try.func30, Try.ntmps30
      have hne : ((xs.length : Int) != (nb : Int)) = false := by rw [HL.out]; simp
      go_wp2
      clear hne
      go_loopw [5] (fun i wr => ∃ k : Nat, k ≤ xs.length ∧ i = .int .i64 k ∧ xs.take k = ys.take k ∧ Ext w wr) (fun i _ => xs.length - (intOf i).toNat)
      case atStart => exact ⟨0, Nat.zero_le _, rfl, rfl, Ext.refl _⟩
      case round =>
        obtain ⟨k, hk, rfl, htk, hx⟩ := hrel
        have HT := Lib.hid htk
        clear htk
        by_cases hlt : k < xs.length
        · have hltb : k < nb := by have := HL.out; omega
          have hltb' : k < ys.length := by have := HN.out; omega
          have d1 := fun j hj => (hx.cell (p := ⟨b1, o1 + k * 4 + j, none⟩) hl1).trans (hc1 k hlt j hj)
          have d2 := fun j hj => (hx.cell (p := ⟨b2, o2 + k * 4 + j, none⟩) hl2).trans (hc2 k hltb' j hj)
          have HTE := Lib.hid (fun h2 => take_eqLn hlt hltb' HT.out h2)
          have HNE := Lib.hid (fun (h2 : ¬ xs[k] = ys[k]) (h3 : xs = ys) => h2 (by subst h3; rfl))
          clear HT
          generalize xs[k] = x at *
          generalize ys[k] = y at *
          have a0 : wr.cell? ⟨b1, o1 + k * 4, none⟩ = some (.string x.text) := d1 0 (by decide)
          have c0 : wr.cell? ⟨b2, o2 + k * 4, none⟩ = some (.string y.text) := d2 0 (by decide)
          have a1 : wr.cell? ⟨b1, o1 + k * 4 + 1, none⟩ = some (.string x.cat) := d1 1 (by decide)
          have c1 : wr.cell? ⟨b2, o2 + k * 4 + 1, none⟩ = some (.string y.cat) := d2 1 (by decide)
          have a2 : wr.cell? ⟨b1, o1 + k * 4 + 2, none⟩ = some (.int .i64 x.count) := d1 2 (by decide)
          have c2 : wr.cell? ⟨b2, o2 + k * 4 + 2, none⟩ = some (.int .i64 y.count) := d2 2 (by decide)
          have a3 : wr.cell? ⟨b1, o1 + k * 4 + 3, none⟩ = some (.int .i64 x.price) := d1 3 (by decide)
          have c3 : wr.cell? ⟨b2, o2 + k * 4 + 3, none⟩ = some (.int .i64 y.price) := d2 3 (by decide)
          have i1 : (0 : Int) ≤ (k : Int) := by omega
          have i2 : (k : Int) < (xs.length : Int) := by omega
          have i3 : (k : Int) < (nb : Int) := by omega
          clear d1 d2 hc1 hc2
          by_cases he : x = y
          · subst he
            have HT2 := Lib.hid (HTE.out rfl)
            clear HTE HNE
            go_wp2
            go_quiet (fail)
            go_wp2
            go_roundw
            case rel => exact ⟨k + 1, by omega, by simp, HT2.out, hx.drewN _⟩
            case measure => simp [intOf]; omega
          · obtain rfl : b = false := by
              cases b
              · rfl
              · exact absurd (HB.out.1 rfl) (HNE.out he)
            have hd := Ln.differ x y he
            clear HTE HNE he
            rcases hd with s0 | ⟨s0, s1⟩ | ⟨s0, s1, s2⟩ | ⟨s0, s1, s2, s3⟩
            · replace s0 : ((x.text).toList == (y.text).toList) = false := str_ne _ _ s0
              go_wp2
              go_quiet (fail)
              go_wp2
              go_ret
              exact ⟨rfl, hx.drewN _⟩
            · rw [← s0] at c0; clear s0
              replace s1 : ((x.cat).toList == (y.cat).toList) = false := str_ne _ _ s1
              go_wp2
              go_quiet (fail)
              go_wp2
              go_ret
              exact ⟨rfl, hx.drewN _⟩
            · rw [← s0] at c0; clear s0
              rw [← s1] at c1; clear s1
              replace s2 : (x.count == y.count) = false := beq_eq_false_iff_ne.2 s2
              go_wp2
              go_quiet (fail)
              go_wp2
              go_ret
              exact ⟨rfl, hx.drewN _⟩
            · rw [← s0] at c0; clear s0
              rw [← s1] at c1; clear s1
              rw [← s2] at c2; clear s2
              replace s3 : (x.price == y.price) = false := beq_eq_false_iff_ne.2 s3
              go_wp2
              go_quiet (fail)
              go_wp2
              go_ret
              exact ⟨rfl, hx.drewN _⟩
        · have hke : k = xs.length := by omega
          have : xs = ys := by
            have h1 := HT.out
            rw [List.take_of_length_le (by omega), List.take_of_length_le (by have := HL.out; have := HN.out; omega)] at h1
            exact h1
          obtain rfl : b = true := HB.out.2 this
          clear this hc1 hc2 hke
          go_wp2
          go_ret
          exact ⟨rfl, hx⟩
  · obtain rfl : b = false := by
      cases b
      · rfl
      · exact absurd (congrArg List.length (hb0.1 rfl)) hl
    have hne : ((xs.length : Int) != (ys.length : Int)) = true := by simp; omega
    clear hl hb0
    go_enter Try.func30, Try.ntmps30
    go_wp2
    go_ret
    exact ⟨rfl, Ext.refl _⟩

set_option maxHeartbeats 2000000 in
set_option maxRecDepth 100000 in
theorem intactLn (g : Nat) (vb : Value) (l : List Ln) (mk : Ln) (w : World) (B : Nat) (ho : OwnS Ln.cells 4 56 w B (.slice (some ⟨g, 0, none⟩) (l.length + 80) (l.length + 80)) (l ++ List.replicate 80 mk)) (hb : SlS Ln.cells 4 w vb l) (h2 : l.length ≤ 1000000000000) :
    Calls Try.prog 23 #[.slice (some ⟨g, 0, none⟩) (l.length + 80) (l.length + 80), vb, mk.val] w fun e w' => e = .returned (.bool true) ∧ Ext w w' := by
  obtain ⟨a, cap, rfl⟩ := hb.form
  have hll : (l ++ List.replicate 80 mk).length = l.length + 80 := by simp
  have hrf : SlS Ln.cells 4 w (.slice (some ⟨g, 0, none⟩) l.length (l.length + 80)) l := by
    have h3 := SlS.cut Ln.len ho.rd l.length (by omega) (l.length + 80)
    simpa using h3
  have hne : ((l.length : Int) + 80 != (l.length : Int) + 80) = false := by simp
  simp only [Ln.val]
  go_enter Try.func23, Try.ntmps23
  go_wp2_with fail
  refine (sameLn _ _ l l true ⟨fun _ => rfl, fun _ => rfl⟩ _ (hrf.ext (by repeat (first | exact Ext.refl _ | assumption | refine Ext.trans ?_ (by assumption) | refine Ext.alloc ?_ _ | refine Ext.drew ?_ | refine Ext.drewN ?_ _))) (hb.ext (by repeat (first | exact Ext.refl _ | assumption | refine Ext.trans ?_ (by assumption) | refine Ext.alloc ?_ _ | refine Ext.drew ?_ | refine Ext.drewN ?_ _))) h2 h2).mono ?_
  rintro e w1 ⟨rfl, hx1⟩
  have k0 : w1.cell? ⟨w.heap.size, 0, none⟩ = some (.string mk.text) := by rw [Ext.cell hx1 (by simp), World.cell?_alloc_at _ _ _ _ rfl]; rfl
  have k1 : w1.cell? ⟨w.heap.size, 1, none⟩ = some (.string mk.cat) := by rw [Ext.cell hx1 (by simp), World.cell?_alloc_at _ _ _ _ rfl]; rfl
  have k2 : w1.cell? ⟨w.heap.size, 2, none⟩ = some (.int .i64 mk.count) := by rw [Ext.cell hx1 (by simp), World.cell?_alloc_at _ _ _ _ rfl]; rfl
  have k3 : w1.cell? ⟨w.heap.size, 3, none⟩ = some (.int .i64 mk.price) := by rw [Ext.cell hx1 (by simp), World.cell?_alloc_at _ _ _ _ rfl]; rfl
  have hz := World.block_lt_of_cell? w1 _ k0
  have hW1 : Ext w w1 := Ext.trans ((Ext.refl w).alloc _) hx1
  clear hx1
  go_wp2_with fail
  go_loopw [7] (fun iv wr => ∃ k : Nat, k ≤ 80 ∧ iv = .int .i64 ((l.length + k : Nat) : Int) ∧ Ext w1 wr) (fun iv _ => l.length + 80 - (intOf iv).toNat)
  case atStart => exact ⟨0, by omega, rfl, Ext.refl _⟩
  case round =>
    obtain ⟨k, hk, rfl, hxr⟩ := hrel
    by_cases hlt : k < 80
    · obtain ⟨hat, hbg⟩ := OwnS.at_ Ln.len ho hll.symm (l.length + k) (by omega)
      have hm : (l ++ List.replicate 80 mk)[l.length + k]'(by omega) = mk := by
        rw [List.getElem_append_right (by omega), List.getElem_replicate]
      rw [hm] at hat
      have hgl := (hbg (by decide)).2
      have kk := fun j hj => ((hW1.trans hxr).cell (p := ⟨g, (l.length + k) * 4 + j, none⟩) hgl).trans (hat j hj).1
      have q0 := (hxr.cell (p := ⟨w.heap.size, 0, none⟩) hz).trans k0
      have g0 : wr.cell? ⟨g, (l.length + k) * 4, none⟩ = some (.string mk.text) := kk 0 (by decide)
      have q1 := (hxr.cell (p := ⟨w.heap.size, 1, none⟩) hz).trans k1
      have g1 : wr.cell? ⟨g, (l.length + k) * 4 + 1, none⟩ = some (.string mk.cat) := kk 1 (by decide)
      have q2 := (hxr.cell (p := ⟨w.heap.size, 2, none⟩) hz).trans k2
      have g2 : wr.cell? ⟨g, (l.length + k) * 4 + 2, none⟩ = some (.int .i64 mk.count) := kk 2 (by decide)
      have q3 := (hxr.cell (p := ⟨w.heap.size, 3, none⟩) hz).trans k3
      have g3 : wr.cell? ⟨g, (l.length + k) * 4 + 3, none⟩ = some (.int .i64 mk.price) := kk 3 (by decide)
      clear kk hat hm hbg
      go_wp2
      have i1 : (0 : Int) ≤ ((l.length + k : Nat) : Int) := by omega
      go_quiet (fail)
      go_wp2
      go_roundw
      case rel => exact ⟨k + 1, by omega, by simp; omega, hxr.drewN _⟩
      case measure => simp [intOf]; omega
    · obtain rfl : k = 80 := by omega
      go_wp2
      go_ret
      exact ⟨rfl, hW1.trans hxr⟩
end Go.Proofs.Yteenkbfmlnpmlaa
