/- slices.Equal at values; package kind: Same. -/
import Derived.Test.YtdojgdeadhhldaaKindE
namespace Go.Proofs.Ytdojgdeadhhldaa
open Go.RowKit

set_option maxHeartbeats 4000000 in
set_option maxRecDepth 100000 in
theorem equalV (va vb : Value) (xs ys : List V) (b : Bool) (hb0 : b = true ↔ xs = ys) (w : World) (ha : SlS V.cells 6 w va xs) (hb : SlS V.cells 6 w vb ys) (hm : xs.length ≤ 1000000000000) (hm2 : ys.length ≤ 1000000000000) :
    Calls Try.prog 35 #[va, vb] w fun e w' => e = .returned (.bool b) ∧ Ext w w' := by
  obtain ⟨aa, ca, rfl⟩ := ha.form
  obtain ⟨ab, cb, rfl⟩ := hb.form
  by_cases hl : xs.length = ys.length
  · by_cases h0 : xs.length = 0
    · have e1 : xs = [] := List.length_eq_zero_iff.1 h0
      have e2 : ys = [] := List.length_eq_zero_iff.1 (by omega)
      subst e1 e2
      obtain rfl : b = true := hb0.2 rfl
      clear hb0 hl h0
      go_enter Try.func35, Try.ntmps35
      go_wp2
      refine wp_loop_rounds 1 ?_
      rw [rounds_succ]
      go_wp2
      go_ret
      exact ⟨rfl, Ext.refl _⟩
    · obtain ⟨b1, o1, rfl, hl1, hc1⟩ := SlS.at_ V.len ha (by omega) (by decide)
      obtain ⟨b2, o2, rfl, hl2, hc2⟩ := SlS.at_ V.len hb (by omega) (by decide)
      clear h0
      have HB := Lib.hid hb0
      clear hb0
      obtain ⟨nb, hbl⟩ : ∃ nb, ys.length = nb := ⟨_, rfl⟩
      rw [hbl] at hl hm2 ⊢
      have HL := Lib.hid hl
      have HN := Lib.hid hbl
      clear hl hbl
      go_enter Try.func35, Try.ntmps35
      have hne : ((xs.length : Int) != (nb : Int)) = false := by rw [HL.out]; simp
      go_wp2
      clear hne
      go_loopw [13] (fun i wr => ∃ k : Nat, k ≤ xs.length ∧ i = .int .i64 k ∧ xs.take k = ys.take k ∧ Ext w wr) (fun i _ => xs.length - (intOf i).toNat)
      case atStart => exact ⟨0, Nat.zero_le _, rfl, rfl, Ext.refl _⟩
      case round =>
        obtain ⟨k, hk, rfl, htk, hx⟩ := hrel
        have HT := Lib.hid htk
        clear htk
        by_cases hlt : k < xs.length
        · have hltb : k < nb := by have := HL.out; omega
          have hltb' : k < ys.length := by have := HN.out; omega
          have d1 := fun j hj => (hx.cell (p := ⟨b1, o1 + k * 6 + j, none⟩) hl1).trans (hc1 k hlt j hj)
          have d2 := fun j hj => (hx.cell (p := ⟨b2, o2 + k * 6 + j, none⟩) hl2).trans (hc2 k hltb' j hj)
          have HTE := Lib.hid (fun h2 => take_eqV hlt hltb' HT.out h2)
          have HNE := Lib.hid (fun (h2 : ¬ xs[k] = ys[k]) (h3 : xs = ys) => h2 (by subst h3; rfl))
          clear HT
          generalize xs[k] = x at *
          generalize ys[k] = y at *
          have a0 : wr.cell? ⟨b1, o1 + k * 6, none⟩ = some (.int .i64 x.kind) := d1 0 (by decide)
          have c0 : wr.cell? ⟨b2, o2 + k * 6, none⟩ = some (.int .i64 y.kind) := d2 0 (by decide)
          have a1 : wr.cell? ⟨b1, o1 + k * 6 + 1, none⟩ = some (.int .i64 x.n) := d1 1 (by decide)
          have c1 : wr.cell? ⟨b2, o2 + k * 6 + 1, none⟩ = some (.int .i64 y.n) := d2 1 (by decide)
          have a2 : wr.cell? ⟨b1, o1 + k * 6 + 2, none⟩ = some (.string x.text) := d1 2 (by decide)
          have c2 : wr.cell? ⟨b2, o2 + k * 6 + 2, none⟩ = some (.string y.text) := d2 2 (by decide)
          have a3 : wr.cell? ⟨b1, o1 + k * 6 + 3, none⟩ = some (.int .i64 x.y) := d1 3 (by decide)
          have c3 : wr.cell? ⟨b2, o2 + k * 6 + 3, none⟩ = some (.int .i64 y.y) := d2 3 (by decide)
          have a4 : wr.cell? ⟨b1, o1 + k * 6 + 4, none⟩ = some (.int .i64 x.m) := d1 4 (by decide)
          have c4 : wr.cell? ⟨b2, o2 + k * 6 + 4, none⟩ = some (.int .i64 y.m) := d2 4 (by decide)
          have a5 : wr.cell? ⟨b1, o1 + k * 6 + 5, none⟩ = some (.int .i64 x.d) := d1 5 (by decide)
          have c5 : wr.cell? ⟨b2, o2 + k * 6 + 5, none⟩ = some (.int .i64 y.d) := d2 5 (by decide)
          have i1 : (0 : Int) ≤ (k : Int) := by omega
          have i2 : (k : Int) < (xs.length : Int) := by omega
          have i3 : (k : Int) < (nb : Int) := by omega
          clear d1 d2 hc1 hc2
          by_cases he : x = y
          · subst he
            have HT2 := Lib.hid (HTE.out rfl)
            clear HTE HNE
            go_wp2
            go_quiet (fail)
            go_wp2
            go_roundw
            case rel => exact ⟨k + 1, by omega, by simp, HT2.out, hx.drewN _⟩
            case measure => simp [intOf]; omega
          · obtain rfl : b = false := by
              cases b
              · rfl
              · exact absurd (HB.out.1 rfl) (HNE.out he)
            have hd := V.differ x y he
            clear HTE HNE he
            rcases hd with s0 | ⟨s0, s1⟩ | ⟨s0, s1, s2⟩ | ⟨s0, s1, s2, s3⟩ | ⟨s0, s1, s2, s3, s4⟩ | ⟨s0, s1, s2, s3, s4, s5⟩
            · replace s0 : (x.kind == y.kind) = false := beq_eq_false_iff_ne.2 s0
              go_wp2
              go_quiet (fail)
              go_wp2
              go_ret
              exact ⟨rfl, hx.drewN _⟩
            · rw [← s0] at c0; clear s0
              replace s1 : (x.n == y.n) = false := beq_eq_false_iff_ne.2 s1
              go_wp2
              go_quiet (fail)
              go_wp2
              go_ret
              exact ⟨rfl, hx.drewN _⟩
            · rw [← s0] at c0; clear s0
              rw [← s1] at c1; clear s1
              replace s2 : ((x.text).toList == (y.text).toList) = false := str_ne _ _ s2
              go_wp2
              go_quiet (fail)
              go_wp2
              go_ret
              exact ⟨rfl, hx.drewN _⟩
            · rw [← s0] at c0; clear s0
              rw [← s1] at c1; clear s1
              rw [← s2] at c2; clear s2
              replace s3 : (x.y == y.y) = false := beq_eq_false_iff_ne.2 s3
              go_wp2
              go_quiet (fail)
              go_wp2
              go_ret
              exact ⟨rfl, hx.drewN _⟩
            · rw [← s0] at c0; clear s0
              rw [← s1] at c1; clear s1
              rw [← s2] at c2; clear s2
              rw [← s3] at c3; clear s3
              replace s4 : (x.m == y.m) = false := beq_eq_false_iff_ne.2 s4
              go_wp2
              go_quiet (fail)
              go_wp2
              go_ret
              exact ⟨rfl, hx.drewN _⟩
            · rw [← s0] at c0; clear s0
              rw [← s1] at c1; clear s1
              rw [← s2] at c2; clear s2
              rw [← s3] at c3; clear s3
              rw [← s4] at c4; clear s4
              replace s5 : (x.d == y.d) = false := beq_eq_false_iff_ne.2 s5
              go_wp2
              go_quiet (fail)
              go_wp2
              go_ret
              exact ⟨rfl, hx.drewN _⟩
        · have hke : k = xs.length := by omega
          have : xs = ys := by
            have h1 := HT.out
            rw [List.take_of_length_le (by omega), List.take_of_length_le (by have := HL.out; have := HN.out; omega)] at h1
            exact h1
          obtain rfl : b = true := HB.out.2 this
          clear this hc1 hc2 hke
          go_wp2
          go_ret
          exact ⟨rfl, hx⟩
  · obtain rfl : b = false := by
      cases b
      · rfl
      · exact absurd (congrArg List.length (hb0.1 rfl)) hl
    have hne : ((xs.length : Int) != (ys.length : Int)) = true := by simp; omega
    clear hl hb0
    go_enter Try.func35, Try.ntmps35
    go_wp2
    go_ret
    exact ⟨rfl, Ext.refl _⟩

end Go.Proofs.Ytdojgdeadhhldaa
