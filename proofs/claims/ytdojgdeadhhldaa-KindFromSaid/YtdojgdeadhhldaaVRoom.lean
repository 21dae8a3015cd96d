/- The struct V (impost/api.Value) as cells; contracts of impostbook's Roomy, Same and Intact at it. (Written by genRoom.py.) -/
import Derived.Test.YtdojgdeadhhldaaProg
import Derived.Test.YtdojgdeadhhldaaFlat
import Derived.Deep.QuietTactic
import Derived.BigQuiet
namespace Go.Proofs.Ytdojgdeadhhldaa
open Go.RowKit

structure V where
  kind : Int
  n : Int
  text : ByteArray
  y : Int
  m : Int
  d : Int
def V.z : V := ⟨0, 0, ⟨#[]⟩, 0, 0, 0⟩
def V.cells (e : V) : List Value := [.int .i64 e.kind, .int .i64 e.n, .string e.text, .int .i64 e.y, .int .i64 e.m, .int .i64 e.d]
def V.val (e : V) : Value := .agg #[.int .i64 e.kind, .int .i64 e.n, .string e.text, .int .i64 e.y, .int .i64 e.m, .int .i64 e.d]
theorem V.len (e : V) : e.cells.length = 6 := rfl
theorem V.one (xs : List V) : ∀ u ∈ xs.flatMap V.cells, u.oneCell' = true := by
  intro u hu
  obtain ⟨x, _, hx⟩ := List.mem_flatMap.1 hu
  simp only [V.cells, List.mem_cons, List.not_mem_nil, or_false] at hx
  rcases hx with rfl | rfl | rfl | rfl | rfl | rfl <;> rfl
theorem Try.infoV : (Try.prog.info? 32).map (fun i => (i.zero, i.size, i.bytes)) = some (some (.agg #[.int .i64 0, .int .i64 0, .string ⟨#[]⟩, .int .i64 0, .int .i64 0, .int .i64 0]), 6, 56) := by kernel_rfl
/-- Which of the parts of two differ first. -/
theorem V.differ (x y : V) (h : x ≠ y) : (¬ x.kind = y.kind) ∨ (x.kind = y.kind ∧ ¬ x.n = y.n) ∨ (x.kind = y.kind ∧ x.n = y.n ∧ ¬ x.text = y.text) ∨ (x.kind = y.kind ∧ x.n = y.n ∧ x.text = y.text ∧ ¬ x.y = y.y) ∨ (x.kind = y.kind ∧ x.n = y.n ∧ x.text = y.text ∧ x.y = y.y ∧ ¬ x.m = y.m) ∨ (x.kind = y.kind ∧ x.n = y.n ∧ x.text = y.text ∧ x.y = y.y ∧ x.m = y.m ∧ ¬ x.d = y.d) := by
  obtain ⟨a0, a1, a2, a3, a4, a5⟩ := x
  obtain ⟨b0, b1, b2, b3, b4, b5⟩ := y
  simp only [V.mk.injEq, ne_eq] at h ⊢
  rcases Classical.em (a0 = b0) with h0 | h0
  rotate_left
  · exact .inl h0
  rcases Classical.em (a1 = b1) with h1 | h1
  rotate_left
  · exact .inr (.inl ⟨h0, h1⟩)
  rcases Classical.em (a2 = b2) with h2 | h2
  rotate_left
  · exact .inr (.inr (.inl ⟨h0, h1, h2⟩))
  rcases Classical.em (a3 = b3) with h3 | h3
  rotate_left
  · exact .inr (.inr (.inr (.inl ⟨h0, h1, h2, h3⟩)))
  rcases Classical.em (a4 = b4) with h4 | h4
  rotate_left
  · exact .inr (.inr (.inr (.inr (.inl ⟨h0, h1, h2, h3, h4⟩))))
  exact .inr (.inr (.inr (.inr (.inr (⟨h0, h1, h2, h3, h4, fun e => h ⟨h0, h1, h2, h3, h4, e⟩⟩)))))
/-- An element stored in its place. -/
theorem OwnS.setV {te : TypeId} {w : World} {B g n cap : Nat} {xs : List V} (h : OwnS V.cells 6 te w B (.slice (some ⟨g, 0, none⟩) n cap) xs) (hn : n = xs.length) (k : Nat) (hk : k < xs.length) (y : V) :
    OwnS V.cells 6 te ((((((w.setCell ⟨g, k * 6, none⟩ (.int .i64 y.kind)).setCell ⟨g, k * 6 + 1, none⟩ (.int .i64 y.n)).setCell ⟨g, k * 6 + 2, none⟩ (.string y.text)).setCell ⟨g, k * 6 + 3, none⟩ (.int .i64 y.y)).setCell ⟨g, k * 6 + 4, none⟩ (.int .i64 y.m)).setCell ⟨g, k * 6 + 5, none⟩ (.int .i64 y.d)) B (.slice (some ⟨g, 0, none⟩) n cap) (xs.set k y) :=
  OwnS.setN V.len h hn k hk y rfl

set_option maxHeartbeats 2000000 in
set_option maxRecDepth 100000 in
theorem roomyV (v : Value) (l : List V) (mk : V) (w : World) (hr : SlS V.cells 6 w v l) (h2 : l.length ≤ 1000000000000) :
    Calls Try.prog 20 #[v, mk.val] w fun e w' => ∃ g, e = .returned (.slice (some ⟨g, 0, none⟩) (l.length + 80 : Nat) (l.length + 80 : Nat)) ∧
      OwnS V.cells 6 32 w' w.heap.size (.slice (some ⟨g, 0, none⟩) (l.length + 80) (l.length + 80)) (l ++ List.replicate 80 mk) ∧ Ext w w' := by
  obtain ⟨i0, hi, hz0, hz1, hz2⟩ := info_parts Try.infoV
  obtain ⟨a, cap, rfl⟩ := hr.form
  have HC : Hid ((l.length : Int) + 80 = ((l.length + 80 : Nat) : Int)) := Lib.hid (by omega)
  simp only [V.val]
  go_enter Try.func20, Try.ntmps20
  go_wp2_with (at_make; refine wpList_make_full _ rfl _ _ 33 rfl (w.heap.size + 1) 32 i0 _ 6 Try.underlying33 hi hz0 hz1 .i64 .i64 _ _ (l.length + 80) rfl rfl HC.out HC.out ?b2 ?b3 ?b4 ?_)
  case b2 => rw [hz2]; omega
  case b3 => unfold maxLen; omega
  case b4 => simp
  intro w1 hown hg
  have hx0 : Ext (w.alloc (.cells #[.int .i64 mk.kind, .int .i64 mk.n, .string mk.text, .int .i64 mk.y, .int .i64 mk.m, .int .i64 mk.d] 32)) w1 := (Below.refl _ _).grown hg (Nat.le_refl _) (fun k hk => by cases hk)
  have hx : Ext w w1 := Ext.trans ((Ext.refl w).alloc _) hx0
  have hs := src_sl (P := Try.prog) Try.underlying33 (hr.ext hx) (V.one l)
  go_wp2_with (with_reducible refine wpList_own_copy _ rfl _ _ 33 33 rfl (w.heap.size + 1) 32 i0 6 Try.underlying33 hi hz1 (by decide) _ _ (l.length + 80) l.length _ _ hown hs rfl rfl ?c1 ?_)
  case c1 => omega
  intro w2 ho2 hb2
  have hx2 : Ext (w.alloc (.cells #[.int .i64 mk.kind, .int .i64 mk.n, .string mk.text, .int .i64 mk.y, .int .i64 mk.m, .int .i64 mk.d] 32)) w2 := by
    have e : (w.alloc (.cells #[.int .i64 mk.kind, .int .i64 mk.n, .string mk.text, .int .i64 mk.y, .int .i64 mk.m, .int .i64 mk.d] 32)).heap.size = w.heap.size + 1 := by simp
    have hx1 := hx0
    unfold Ext at hx1 ⊢
    rw [e] at hx1 ⊢
    exact Below.trans hx1 hb2
  have hL : l.flatMap V.cells ++ List.drop (l.length * 6) (madeCells #[Value.int .i64 0, Value.int .i64 0, Value.string ⟨#[]⟩, Value.int .i64 0, Value.int .i64 0, Value.int .i64 0] ((l.length + 80) * 6)).toList = (l ++ List.replicate 80 V.z).flatMap V.cells := by
    have := made_flat (c := V.cells) V.len V.z (l.length + 80) (by decide)
    have e0 : (V.cells V.z).toArray = #[Value.int .i64 0, Value.int .i64 0, Value.string ⟨#[]⟩, Value.int .i64 0, Value.int .i64 0, Value.int .i64 0] := rfl
    rw [e0] at this
    rw [this, flat_drop (c := V.cells) V.len, List.flatMap_append, List.drop_replicate, Nat.add_sub_cancel_left]
  rw [hL] at ho2
  have R : OwnS V.cells 6 32 w2 (w.heap.size + 1) (.slice (some ⟨w.heap.size + 1, 0, none⟩) (l.length + 80) (l.length + 80)) (l ++ List.replicate 80 V.z) := by
    unfold OwnS
    have e : (l ++ List.replicate 80 V.z).length = l.length + 80 := by simp
    rw [e]
    exact ho2
  obtain ⟨k0, k1, k2, k3, k4, k5⟩ : w2.cell? ⟨w.heap.size, 0, none⟩ = some (.int .i64 mk.kind) ∧ w2.cell? ⟨w.heap.size, 1, none⟩ = some (.int .i64 mk.n) ∧ w2.cell? ⟨w.heap.size, 2, none⟩ = some (.string mk.text) ∧ w2.cell? ⟨w.heap.size, 3, none⟩ = some (.int .i64 mk.y) ∧ w2.cell? ⟨w.heap.size, 4, none⟩ = some (.int .i64 mk.m) ∧ w2.cell? ⟨w.heap.size, 5, none⟩ = some (.int .i64 mk.d) := by
    refine ⟨?_, ?_, ?_, ?_, ?_, ?_⟩ <;> (rw [Ext.cell hx2 (by simp), World.cell?_alloc_at _ _ _ _ rfl]; rfl)
  clear ho2 hown hs hL HC hg hx0
  go_wp2_with fail
  go_loopw [6] (fun iv wr => ∃ k : Nat, k ≤ 80 ∧ iv = .int .i64 ((l.length + k : Nat) : Int) ∧ OwnS V.cells 6 32 wr (w.heap.size + 1) (.slice (some ⟨w.heap.size + 1, 0, none⟩) (l.length + 80) (l.length + 80)) (l ++ (List.replicate k mk ++ List.replicate (80 - k) V.z)) ∧ KeepR (w.heap.size + 1) w2 wr) (fun iv _ => l.length + 80 - (intOf iv).toNat)
  case atStart => exact ⟨0, by omega, rfl, by simpa using R, KeepR.refl _ _⟩
  case round =>
    obtain ⟨k, hk, rfl, ho, hkr⟩ := hrel
    by_cases hlt : k < 80
    · have kk : ∀ o, wr.cell? ⟨w.heap.size, o, none⟩ = w2.cell? ⟨w.heap.size, o, none⟩ := fun o => World.cell?_of_block (a := ⟨w.heap.size, o, none⟩) (hkr.block w.heap.size (by have := hx2.size; simp at this; omega) (by omega))
      have q0 := (kk 0).trans k0
      have q1 := (kk 1).trans k1
      have q2 := (kk 2).trans k2
      have q3 := (kk 3).trans k3
      have q4 := (kk 4).trans k4
      have q5 := (kk 5).trans k5
      clear kk
      have hll : (l ++ (List.replicate k mk ++ List.replicate (80 - k) V.z)).length = l.length + 80 := by simp; omega
      have hz : (l ++ (List.replicate k mk ++ List.replicate (80 - k) V.z))[l.length + k]'(by omega) = V.z := by
        rw [List.getElem_append_right (by omega), List.getElem_append_right (by simp)]; simp
      obtain ⟨hat, hbg⟩ := OwnS.at_ V.len ho hll.symm (l.length + k) (by omega)
      rw [hz] at hat
      obtain ⟨g0, f0⟩ := hat 0 (by decide)
      replace g0 : wr.cell? ⟨w.heap.size + 1, (l.length + k) * 6, none⟩ = some (.int .i64 0) := g0
      obtain ⟨g1, f1⟩ := hat 1 (by decide)
      replace g1 : wr.cell? ⟨w.heap.size + 1, (l.length + k) * 6 + 1, none⟩ = some (.int .i64 0) := g1
      obtain ⟨g2, f2⟩ := hat 2 (by decide)
      replace g2 : wr.cell? ⟨w.heap.size + 1, (l.length + k) * 6 + 2, none⟩ = some (.string ⟨#[]⟩) := g2
      obtain ⟨g3, f3⟩ := hat 3 (by decide)
      replace g3 : wr.cell? ⟨w.heap.size + 1, (l.length + k) * 6 + 3, none⟩ = some (.int .i64 0) := g3
      obtain ⟨g4, f4⟩ := hat 4 (by decide)
      replace g4 : wr.cell? ⟨w.heap.size + 1, (l.length + k) * 6 + 4, none⟩ = some (.int .i64 0) := g4
      obtain ⟨g5, f5⟩ := hat 5 (by decide)
      replace g5 : wr.cell? ⟨w.heap.size + 1, (l.length + k) * 6 + 5, none⟩ = some (.int .i64 0) := g5
      replace f0 : wr.frozen? ⟨w.heap.size + 1, (l.length + k) * 6, none⟩ = false := f0
      have hset := OwnS.setV ho hll.symm (l.length + k) (by omega) mk
      have hset2 : (l ++ (List.replicate k mk ++ List.replicate (80 - k) V.z)).set (l.length + k) mk = l ++ (List.replicate (k + 1) mk ++ List.replicate (80 - (k + 1)) V.z) := by
        rw [List.set_append_right _ _ (by omega), List.set_append_right _ _ (by simp)]
        have e1 : 80 - k = (80 - (k + 1)) + 1 := by omega
        rw [e1, List.replicate_succ, List.replicate_succ']
        simp
      rw [hset2] at hset
      clear hset2 hz hat ho hbg
      have HS := Lib.hid hset
      clear hset
      go_wp2
      refine ⟨⟨k + 1, by omega, by simp; omega, HS.out, (((((hkr.set _).set _).set _).set _).set _).set _⟩, by simp [intOf]; omega⟩
    · obtain rfl : k = 80 := by omega
      have hfin : Ext w wr := by
        have h1 : Ext w w2 := Ext.trans ((Ext.refl w).alloc _) hx2
        exact Below.trans h1 (hkr.below (by omega) (by have := hx2.size; simp at this; omega))
      have R2 : OwnS V.cells 6 32 wr w.heap.size (.slice (some ⟨w.heap.size + 1, 0, none⟩) (l.length + 80) (l.length + 80)) (l ++ List.replicate 80 mk) := OwnS.base (by simpa using ho) (by omega)
      clear ho R
      have HR := Lib.hid R2
      clear R2
      go_wp2
      go_ret
      exact ⟨w.heap.size + 1, rfl, HR.out, hfin⟩

theorem take_eqV {xs ys : List V} {k : Nat} (ha : k < xs.length) (hb : k < ys.length) (h : xs.take k = ys.take k) (h2 : xs[k] = ys[k]) : xs.take (k + 1) = ys.take (k + 1) := by
  rw [List.take_succ_eq_append_getElem ha, List.take_succ_eq_append_getElem hb, h, h2]

set_option maxHeartbeats 4000000 in
set_option maxRecDepth 100000 in
theorem sameV (va vb : Value) (xs ys : List V) (b : Bool) (hb0 : b = true ↔ xs = ys) (w : World) (ha : SlS V.cells 6 w va xs) (hb : SlS V.cells 6 w vb ys) (hm : xs.length ≤ 1000000000000) (hm2 : ys.length ≤ 1000000000000) :
    Calls Try.prog 24 #[va, vb] w fun e w' => e = .returned (.bool b) ∧ Ext w w' := by
  obtain ⟨aa, ca, rfl⟩ := ha.form
  obtain ⟨ab, cb, rfl⟩ := hb.form
  by_cases hl : xs.length = ys.length
  · by_cases h0 : xs.length = 0
    · have e1 : xs = [] := List.length_eq_zero_iff.1 h0
      have e2 : ys = [] := List.length_eq_zero_iff.1 (by omega)
      subst e1 e2
      obtain rfl : b = true := hb0.2 rfl
      clear hb0 hl h0
      go_enter Try.func24, Try.ntmps24
      go_wp2
      refine wp_loop_rounds 1 ?_
      rw [rounds_succ]
      go_wp2
      go_ret
      exact ⟨rfl, Ext.refl _⟩
    · obtain ⟨b1, o1, rfl, hl1, hc1⟩ := SlS.at_ V.len ha (by omega) (by decide)
      obtain ⟨b2, o2, rfl, hl2, hc2⟩ := SlS.at_ V.len hb (by omega) (by decide)
      clear h0
      have HB := Lib.hid hb0
      clear hb0
      obtain ⟨nb, hbl⟩ : ∃ nb, ys.length = nb := ⟨_, rfl⟩
      rw [hbl] at hl hm2 ⊢
      have HL := Lib.hid hl
      have HN := Lib.hid hbl
      clear hl hbl
      go_enter Try.func24, Try.ntmps24
      have hne : ((xs.length : Int) != (nb : Int)) = false := by rw [HL.out]; simp
      go_wp2
      clear hne
      go_loopw [5] (fun i wr => ∃ k : Nat, k ≤ xs.length ∧ i = .int .i64 k ∧ xs.take k = ys.take k ∧ Ext w wr) (fun i _ => xs.length - (intOf i).toNat)
      case atStart => exact ⟨0, Nat.zero_le _, rfl, rfl, Ext.refl _⟩
      case round =>
        obtain ⟨k, hk, rfl, htk, hx⟩ := hrel
        have HT := Lib.hid htk
        clear htk
        by_cases hlt : k < xs.length
        · have hltb : k < nb := by have := HL.out; omega
          have hltb' : k < ys.length := by have := HN.out; omega
          have d1 := fun j hj => (hx.cell (p := ⟨b1, o1 + k * 6 + j, none⟩) hl1).trans (hc1 k hlt j hj)
          have d2 := fun j hj => (hx.cell (p := ⟨b2, o2 + k * 6 + j, none⟩) hl2).trans (hc2 k hltb' j hj)
          have HTE := Lib.hid (fun h2 => take_eqV hlt hltb' HT.out h2)
          have HNE := Lib.hid (fun (h2 : ¬ xs[k] = ys[k]) (h3 : xs = ys) => h2 (by subst h3; rfl))
          clear HT
          generalize xs[k] = x at *
          generalize ys[k] = y at *
          have a0 : wr.cell? ⟨b1, o1 + k * 6, none⟩ = some (.int .i64 x.kind) := d1 0 (by decide)
          have c0 : wr.cell? ⟨b2, o2 + k * 6, none⟩ = some (.int .i64 y.kind) := d2 0 (by decide)
          have a1 : wr.cell? ⟨b1, o1 + k * 6 + 1, none⟩ = some (.int .i64 x.n) := d1 1 (by decide)
          have c1 : wr.cell? ⟨b2, o2 + k * 6 + 1, none⟩ = some (.int .i64 y.n) := d2 1 (by decide)
          have a2 : wr.cell? ⟨b1, o1 + k * 6 + 2, none⟩ = some (.string x.text) := d1 2 (by decide)
          have c2 : wr.cell? ⟨b2, o2 + k * 6 + 2, none⟩ = some (.string y.text) := d2 2 (by decide)
          have a3 : wr.cell? ⟨b1, o1 + k * 6 + 3, none⟩ = some (.int .i64 x.y) := d1 3 (by decide)
          have c3 : wr.cell? ⟨b2, o2 + k * 6 + 3, none⟩ = some (.int .i64 y.y) := d2 3 (by decide)
          have a4 : wr.cell? ⟨b1, o1 + k * 6 + 4, none⟩ = some (.int .i64 x.m) := d1 4 (by decide)
          have c4 : wr.cell? ⟨b2, o2 + k * 6 + 4, none⟩ = some (.int .i64 y.m) := d2 4 (by decide)
          have a5 : wr.cell? ⟨b1, o1 + k * 6 + 5, none⟩ = some (.int .i64 x.d) := d1 5 (by decide)
          have c5 : wr.cell? ⟨b2, o2 + k * 6 + 5, none⟩ = some (.int .i64 y.d) := d2 5 (by decide)
          have i1 : (0 : Int) ≤ (k : Int) := by omega
          have i2 : (k : Int) < (xs.length : Int) := by omega
          have i3 : (k : Int) < (nb : Int) := by omega
          clear d1 d2 hc1 hc2
          by_cases he : x = y
          · subst he
            have HT2 := Lib.hid (HTE.out rfl)
            clear HTE HNE
            go_wp2
            go_quiet (fail)
            go_wp2
            go_roundw
            case rel => exact ⟨k + 1, by omega, by simp, HT2.out, hx.drewN _⟩
            case measure => simp [intOf]; omega
          · obtain rfl : b = false := by
              cases b
              · rfl
              · exact absurd (HB.out.1 rfl) (HNE.out he)
            have hd := V.differ x y he
            clear HTE HNE he
            rcases hd with s0 | ⟨s0, s1⟩ | ⟨s0, s1, s2⟩ | ⟨s0, s1, s2, s3⟩ | ⟨s0, s1, s2, s3, s4⟩ | ⟨s0, s1, s2, s3, s4, s5⟩
            · replace s0 : (x.kind == y.kind) = false := beq_eq_false_iff_ne.2 s0
              go_wp2
              go_quiet (fail)
              go_wp2
              go_ret
              exact ⟨rfl, hx.drewN _⟩
            · rw [← s0] at c0; clear s0
              replace s1 : (x.n == y.n) = false := beq_eq_false_iff_ne.2 s1
              go_wp2
              go_quiet (fail)
              go_wp2
              go_ret
              exact ⟨rfl, hx.drewN _⟩
            · rw [← s0] at c0; clear s0
              rw [← s1] at c1; clear s1
              replace s2 : ((x.text).toList == (y.text).toList) = false := str_ne _ _ s2
              go_wp2
              go_quiet (fail)
              go_wp2
              go_ret
              exact ⟨rfl, hx.drewN _⟩
            · rw [← s0] at c0; clear s0
              rw [← s1] at c1; clear s1
              rw [← s2] at c2; clear s2
              replace s3 : (x.y == y.y) = false := beq_eq_false_iff_ne.2 s3
              go_wp2
              go_quiet (fail)
              go_wp2
              go_ret
              exact ⟨rfl, hx.drewN _⟩
            · rw [← s0] at c0; clear s0
              rw [← s1] at c1; clear s1
              rw [← s2] at c2; clear s2
              rw [← s3] at c3; clear s3
              replace s4 : (x.m == y.m) = false := beq_eq_false_iff_ne.2 s4
              go_wp2
              go_quiet (fail)
              go_wp2
              go_ret
              exact ⟨rfl, hx.drewN _⟩
            · rw [← s0] at c0; clear s0
              rw [← s1] at c1; clear s1
              rw [← s2] at c2; clear s2
              rw [← s3] at c3; clear s3
              rw [← s4] at c4; clear s4
              replace s5 : (x.d == y.d) = false := beq_eq_false_iff_ne.2 s5
              go_wp2
              go_quiet (fail)
              go_wp2
              go_ret
              exact ⟨rfl, hx.drewN _⟩
        · have hke : k = xs.length := by omega
          have : xs = ys := by
            have h1 := HT.out
            rw [List.take_of_length_le (by omega), List.take_of_length_le (by have := HL.out; have := HN.out; omega)] at h1
            exact h1
          obtain rfl : b = true := HB.out.2 this
          clear this hc1 hc2 hke
          go_wp2
          go_ret
          exact ⟨rfl, hx⟩
  · obtain rfl : b = false := by
      cases b
      · rfl
      · exact absurd (congrArg List.length (hb0.1 rfl)) hl
    have hne : ((xs.length : Int) != (ys.length : Int)) = true := by simp; omega
    clear hl hb0
    go_enter Try.func24, Try.ntmps24
    go_wp2
    go_ret
    exact ⟨rfl, Ext.refl _⟩

set_option maxHeartbeats 2000000 in
set_option maxRecDepth 100000 in
theorem intactV (g : Nat) (vb : Value) (l : List V) (mk : V) (w : World) (B : Nat) (ho : OwnS V.cells 6 32 w B (.slice (some ⟨g, 0, none⟩) (l.length + 80) (l.length + 80)) (l ++ List.replicate 80 mk)) (hb : SlS V.cells 6 w vb l) (h2 : l.length ≤ 1000000000000) :
    Calls Try.prog 22 #[.slice (some ⟨g, 0, none⟩) (l.length + 80) (l.length + 80), vb, mk.val] w fun e w' => e = .returned (.bool true) ∧ Ext w w' := by
  obtain ⟨a, cap, rfl⟩ := hb.form
  have hll : (l ++ List.replicate 80 mk).length = l.length + 80 := by simp
  have hrf : SlS V.cells 6 w (.slice (some ⟨g, 0, none⟩) l.length (l.length + 80)) l := by
    have h3 := SlS.cut V.len ho.rd l.length (by omega) (l.length + 80)
    simpa using h3
  have hne : ((l.length : Int) + 80 != (l.length : Int) + 80) = false := by simp
  simp only [V.val]
  go_enter Try.func22, Try.ntmps22
  go_wp2_with fail
  refine (sameV _ _ l l true ⟨fun _ => rfl, fun _ => rfl⟩ _ (hrf.ext (by repeat (first | exact Ext.refl _ | assumption | refine Ext.trans ?_ (by assumption) | refine Ext.alloc ?_ _ | refine Ext.drew ?_ | refine Ext.drewN ?_ _))) (hb.ext (by repeat (first | exact Ext.refl _ | assumption | refine Ext.trans ?_ (by assumption) | refine Ext.alloc ?_ _ | refine Ext.drew ?_ | refine Ext.drewN ?_ _))) h2 h2).mono ?_
  rintro e w1 ⟨rfl, hx1⟩
  have k0 : w1.cell? ⟨w.heap.size, 0, none⟩ = some (.int .i64 mk.kind) := by rw [Ext.cell hx1 (by simp), World.cell?_alloc_at _ _ _ _ rfl]; rfl
  have k1 : w1.cell? ⟨w.heap.size, 1, none⟩ = some (.int .i64 mk.n) := by rw [Ext.cell hx1 (by simp), World.cell?_alloc_at _ _ _ _ rfl]; rfl
  have k2 : w1.cell? ⟨w.heap.size, 2, none⟩ = some (.string mk.text) := by rw [Ext.cell hx1 (by simp), World.cell?_alloc_at _ _ _ _ rfl]; rfl
  have k3 : w1.cell? ⟨w.heap.size, 3, none⟩ = some (.int .i64 mk.y) := by rw [Ext.cell hx1 (by simp), World.cell?_alloc_at _ _ _ _ rfl]; rfl
  have k4 : w1.cell? ⟨w.heap.size, 4, none⟩ = some (.int .i64 mk.m) := by rw [Ext.cell hx1 (by simp), World.cell?_alloc_at _ _ _ _ rfl]; rfl
  have k5 : w1.cell? ⟨w.heap.size, 5, none⟩ = some (.int .i64 mk.d) := by rw [Ext.cell hx1 (by simp), World.cell?_alloc_at _ _ _ _ rfl]; rfl
  have hz := World.block_lt_of_cell? w1 _ k0
  have hW1 : Ext w w1 := Ext.trans ((Ext.refl w).alloc _) hx1
  clear hx1
  go_wp2_with fail
  go_loopw [7] (fun iv wr => ∃ k : Nat, k ≤ 80 ∧ iv = .int .i64 ((l.length + k : Nat) : Int) ∧ Ext w1 wr) (fun iv _ => l.length + 80 - (intOf iv).toNat)
  case atStart => exact ⟨0, by omega, rfl, Ext.refl _⟩
  case round =>
    obtain ⟨k, hk, rfl, hxr⟩ := hrel
    by_cases hlt : k < 80
    · obtain ⟨hat, hbg⟩ := OwnS.at_ V.len ho hll.symm (l.length + k) (by omega)
      have hm : (l ++ List.replicate 80 mk)[l.length + k]'(by omega) = mk := by
        rw [List.getElem_append_right (by omega), List.getElem_replicate]
      rw [hm] at hat
      have hgl := (hbg (by decide)).2
      have kk := fun j hj => ((hW1.trans hxr).cell (p := ⟨g, (l.length + k) * 6 + j, none⟩) hgl).trans (hat j hj).1
      have q0 := (hxr.cell (p := ⟨w.heap.size, 0, none⟩) hz).trans k0
      have g0 : wr.cell? ⟨g, (l.length + k) * 6, none⟩ = some (.int .i64 mk.kind) := kk 0 (by decide)
      have q1 := (hxr.cell (p := ⟨w.heap.size, 1, none⟩) hz).trans k1
      have g1 : wr.cell? ⟨g, (l.length + k) * 6 + 1, none⟩ = some (.int .i64 mk.n) := kk 1 (by decide)
      have q2 := (hxr.cell (p := ⟨w.heap.size, 2, none⟩) hz).trans k2
      have g2 : wr.cell? ⟨g, (l.length + k) * 6 + 2, none⟩ = some (.string mk.text) := kk 2 (by decide)
      have q3 := (hxr.cell (p := ⟨w.heap.size, 3, none⟩) hz).trans k3
      have g3 : wr.cell? ⟨g, (l.length + k) * 6 + 3, none⟩ = some (.int .i64 mk.y) := kk 3 (by decide)
      have q4 := (hxr.cell (p := ⟨w.heap.size, 4, none⟩) hz).trans k4
      have g4 : wr.cell? ⟨g, (l.length + k) * 6 + 4, none⟩ = some (.int .i64 mk.m) := kk 4 (by decide)
      have q5 := (hxr.cell (p := ⟨w.heap.size, 5, none⟩) hz).trans k5
      have g5 : wr.cell? ⟨g, (l.length + k) * 6 + 5, none⟩ = some (.int .i64 mk.d) := kk 5 (by decide)
      clear kk hat hm hbg
      go_wp2
      have i1 : (0 : Int) ≤ ((l.length + k : Nat) : Int) := by omega
      go_quiet (fail)
      go_wp2
      go_roundw
      case rel => exact ⟨k + 1, by omega, by simp; omega, hxr.drewN _⟩
      case measure => simp [intOf]; omega
    · obtain rfl : k = 80 := by omega
      go_wp2
      go_ret
      exact ⟨rfl, hW1.trans hxr⟩
end Go.Proofs.Ytdojgdeadhhldaa
