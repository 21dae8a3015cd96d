/- The law PackReads of package impostlaw2: the walk. -/
import Derived.Test.YtmhppikbnobedaaPackWrites
import Derived.Test.YtmhppikbnobedaaPackAsk
import Derived.Deep.RegionWith
import Derived.Test.YtmhppikbnobedaaQuietS
import Derived.RegionTactic
namespace Go.Proofs.Ytmhppikbnobedaa
open Go.RowKit

theorem RdX.cells {B T : Nat} {w : World} {r : Nat} {bs : List UInt8} {s : RS} (h : RdX B T w r bs s) : w.cell? ⟨r, 1, none⟩ = some (.int .i64 (s.at_ : Int)) ∧ w.cell? ⟨r, 2, none⟩ = some (.int .i64 s.err) := by
  obtain ⟨a, cap, hr, _⟩ := h
  exact ⟨hr.c1, hr.c2⟩

theorem qend_is {B T r : Nat} {bs : List UInt8} {s : RS} {w : World} (h : RdX B T w r bs s) {q : RS} (hq : rEnd bs s = q) : Calls Try.prog 30 #[.pointer (some ⟨r, 0, none⟩)] w fun x w' => x = .returned (.int .i64 q.err) ∧ RdX B T w' r bs q ∧ KeepR r w w' := hq ▸ qend_x h

set_option maxHeartbeats 8000000 in
set_option maxRecDepth 100000 in
theorem packReads_any (v : Value) (l : List UInt8) (a : Option Addr) (cap : Nat) (xs : List Itm) (w : World) (hr : Rd8 w v l) (hi : ArgI w (.slice a xs.length cap) xs) (hl : l.length ≤ 140737488351232) (hnn : xs.length ≤ 9223372036854775807) :
    Calls Try.prog 9 #[v, .slice a xs.length cap] w fun e w' => e = .returned (.bool true) ∧ Ext w w' := by
  have hr0 := hr
  obtain ⟨_, _, av, cv, rfl, _⟩ := hr0
  go_enter Try.func9, Try.ntmps9
  go_wp2_with fail
  refine (roomy8 _ l 34 _ hr hl).mono ?_
  rintro e w1 ⟨g, rfl, ho, hx1⟩
  have hgl : w.heap.size ≤ g ∧ g < w1.heap.size := own_lt ho g rfl
  have hrf : Rd8 w1 (.slice (some ⟨g, 0, none⟩) l.length (l.length + 80)) l := by
    have h3 := Rd8.cut (Own8.rd ho) l.length (by simp) (l.length + 80)
    simpa using h3
  have i3 : (l.length : Int) ≤ (l.length : Int) + 80 := by omega
  go_wp2_with fail
  refine (read_new _ l _ hrf (by omega)).mono ?_
  rintro e w2 ⟨r, rfl, hR, hx2⟩
  go_wp2_with fail
  refine (qread_new _ l _ (hr.ext (hx1.trans hx2)) (by omega)).mono ?_
  rintro e w3 ⟨q, rfl, hQ, hx3⟩
  replace hR := hR.ext hx3
  go_wp2_with fail
  refine (intact8 g _ l 34 _ w.heap.size (own_ext ho (hx2.trans hx3)) (hr.ext (hx1.trans (hx2.trans hx3))) hl).mono ?_
  rintro e w4 ⟨rfl, hx4⟩
  replace hR := hR.ext hx4
  replace hQ := hQ.ext hx4
  have hW4 : Ext w w4 := hx1.trans (hx2.trans (hx3.trans hx4))
  have ho4 : Own8 5 w4 w.heap.size (.slice (some ⟨g, 0, none⟩) (l.length + 80) (l.length + 80)) (l ++ List.replicate 80 34) := own_ext ho (hx2.trans (hx3.trans hx4))
  have z12 := hx2.size
  have z23 := hx3.size
  have z1 := hx1.size
  generalize l ++ List.replicate 80 34 = L0 at *
  have hL0 : L0.length = l.length + 80 := by
    obtain ⟨a', c', he, _⟩ := own8_form ho4
    simp only [Value.slice.injEq] at he
    exact he.2.1.symm
  clear ho hrf hx1 hx2 hx3 hx4
  generalize w1.heap.size = n1 at *
  generalize w2.heap.size = n2 at *
  generalize w3.heap.size = n3 at *
  have HL0 := Lib.hid hL0
  clear hL0
  go_wp2_with fail
  go_loopw [8] (fun iv wr => ∃ (k : Nat) (M : List UInt8), k ≤ l.length + 80 ∧ iv = .int .i64 (k : Int) ∧ M.length = l.length + 80 ∧ Own8 5 wr w.heap.size (.slice (some ⟨g, 0, none⟩) (l.length + 80) (l.length + 80)) M ∧ RdX n1 n2 wr r l ⟨0, 0⟩ ∧ RdX n2 n3 wr q l ⟨0, 0⟩ ∧ Ext w wr) (fun iv _ => l.length + 80 - (intOf iv).toNat)
  case atStart => exact ⟨0, L0, by omega, rfl, HL0.out, ho4, hR, hQ, hW4⟩
  case round =>
    clear hR hQ hW4 ho4
    obtain ⟨k, M, hk, rfl, hM, hoM, hR, hQ, hW⟩ := hrel
    by_cases hlt : k < l.length + 80
    · obtain ⟨d1, d2, d3, d4⟩ := own8_at hoM hM.symm k (by omega)
      have hb := M[k].toNat_lt
      have hset := own8_set hoM hM.symm k (255 - M[k]) (by omega)
      have hcell := bcell_turn M[k]
      rw [← hcell] at hset
      simp only [bcell] at d1
      clear hcell
      generalize M[k].toNat = y at *
      generalize 255 - M[k] = z at *
      have hxw := fun u => hW.setCell (p := ⟨g, k, none⟩) d3 u
      have hkp := fun u => (KeepR.refl g wr).set (o := k) u
      go_wp2
      refine ⟨⟨k + 1, M.set k z, by omega, by simp, by simpa using hM, hset, hR.keep (hkp _) (.inl (by omega)), hQ.keep (hkp _) (.inl (by omega)), hxw _⟩, ?_⟩
      simp [intOf]; omega
    · clear hM hoM
      go_wp2_with fail
      go_loopw [9] (fun iv wz => ∃ (j : Nat) (st : RS), j ≤ xs.length ∧ iv = .int .i64 (j : Int) ∧ RdX n1 n2 wz r l st ∧ RdX n2 n3 wz q l st ∧ Ext w wz) (fun iv _ => xs.length - (intOf iv).toNat)
      case atStart => exact ⟨0, ⟨0, 0⟩, by omega, rfl, hR, hQ, hW⟩
      case round =>
        clear hR hQ hW
        obtain ⟨j, st, hj, rfl, hR, hQ, hW⟩ := hrel
        obtain ⟨r1, r2, r3, _, _⟩ := hR.r_in
        obtain ⟨q1, q2, q3, _, _⟩ := hQ.r_in
        by_cases hjl : j < xs.length ∧ j < 200
        · obtain ⟨h1, h2⟩ := hjl
          obtain ⟨b, off, rfl, _, hb, hat⟩ := hi.at_ hW (by omega)
          obtain ⟨c0, c1, c2, c3, c4, c5⟩ := hat j h1
          have hd2 : decide ((j : Int) < 200) = true := decide_eq_true (by omega)
          generalize xs[j] = x at *
          have hask := fun w hR hQ => ask_any n1 n2 n2 n3 r q l st x w hR hQ (Nat.le_refl _)
          simp only [Itm.cells] at hask
          generalize askR l st x = st2 at *
          have HA := Lib.hid hask
          have i1 : (0 : Int) ≤ (j : Int) := by omega
          have i2 : (j : Int) < (xs.length : Int) := by omega
          clear hask hat
          go_wp2_with fail
          refine wp_region_any (by kernel_rfl) ?_
          try (change wpAny _ _ _ _ _ _ _ (World.drew _))
          refine wpAny_take (i := 0) (v := ?_) rfl (by kernel_rfl) (by kernel_rfl) (by kernel_rfl) (fun _ _ _ h => h) (Or.inl ⟨by rfl, ?_⟩) ?_
          rotate_left 1
          · (intro wS; go_simp; try with_reducible rfl)
          try simp only [Act.put, List.setIfInBounds_toArray, List.set_cons_zero, List.set_cons_succ]
          refine wpAny_take (i := 1) (v := ?_) rfl (by kernel_rfl) (by kernel_rfl) (by kernel_rfl) (fun _ _ _ h => h) (Or.inl ⟨by rfl, ?_⟩) ?_
          rotate_left 1
          · (intro wS; go_simp; try with_reducible rfl)
          try simp only [Act.put, List.setIfInBounds_toArray, List.set_cons_zero, List.set_cons_succ]
          refine wpAny_take (i := 2) (v := ?_) rfl (by kernel_rfl) (by kernel_rfl) (by kernel_rfl) (fun _ _ _ h => h) (Or.inl ⟨by rfl, ?_⟩) ?_
          rotate_left 1
          · (intro wS; go_simp; try with_reducible rfl)
          try simp only [Act.put, List.setIfInBounds_toArray, List.set_cons_zero, List.set_cons_succ]
          refine wpAny_take (i := 3) (v := ?_) rfl (by kernel_rfl) (by kernel_rfl) (by kernel_rfl) (fun _ _ _ h => h) (Or.inl ⟨by rfl, ?_⟩) ?_
          rotate_left 1
          · (intro wS; go_simp; try with_reducible rfl)
          try simp only [Act.put, List.setIfInBounds_toArray, List.set_cons_zero, List.set_cons_succ]
          refine wpAny_take (i := 4) (v := ?_) rfl (by kernel_rfl) (by kernel_rfl) (by kernel_rfl) (fun _ _ _ h => h) (Or.inl ⟨by rfl, ?_⟩) ?_
          rotate_left 1
          · (intro wS; go_simp; try with_reducible rfl)
          try simp only [Act.put, List.setIfInBounds_toArray, List.set_cons_zero, List.set_cons_succ]
          refine wpAny_ready (rs := [5]) (by kernel_rfl) (by simp) ?_
          refine AllReady.cons rfl (fun K hK => ?_) AllReady.nil
          go_simp
          try (refine hK _ _ ?_; clear hK K)
          try simp only [Act.put, List.setIfInBounds_toArray, List.set_cons_zero, List.set_cons_succ]
          refine wpAny_ready (rs := [6]) (by kernel_rfl) (by simp) ?_
          refine AllReady.cons rfl (fun K hK => ?_) AllReady.nil
          go_simp
          refine (HA.out _ (hR.ext ((Ext.refl _).drew)) (hQ.ext ((Ext.refl _).drew))).mono ?_
          rintro e y1 ⟨rfl, hR2, hQ2, hk2⟩
          try (go_wp2_with fail)
          try (refine hK _ _ ?_; clear hK K)
          try simp only [Act.put, List.setIfInBounds_toArray, List.set_cons_zero, List.set_cons_succ]
          have hW2 := Ext.keep2 (Ext.drew hW) hk2 (by omega) (by omega)
          have k1 := fun (x : SubW (fun z => RdX n1 n2 z r l st2 ∧ RdX n2 n3 z q l st2 ∧ Ext w z)) => x.ok.2.1.cells.1
          have k2 := fun (x : SubW (fun z => RdX n1 n2 z r l st2 ∧ RdX n2 n3 z q l st2 ∧ Ext w z)) => x.ok.2.1.cells.2
          have Q1 := Lib.hid (fun (x : SubW (fun z => RdX n1 n2 z r l st2 ∧ RdX n2 n3 z q l st2 ∧ Ext w z)) => x.ok)
          have inst : Nonempty (SubW (fun z => RdX n1 n2 z r l st2 ∧ RdX n2 n3 z q l st2 ∧ Ext w z)) := ⟨⟨_, hR2, hQ2, hW2⟩⟩
          refine wpAny_quietS (fun z => RdX n1 n2 z r l st2 ∧ RdX n2 n3 z q l st2 ∧ Ext w z) 7 (by rfl) (by kernel_rfl) (by kernel_rfl) ⟨hR2, hQ2, hW2⟩ ?_
          simp only [List.drop_succ_cons, List.drop_zero]
          repeat (go_big_quiet_step ((first
            | (go_at_call 18; exact quietS_eq (at_x (Q1.out _).1))
            | (go_at_call 17; exact quietS_eq (err_x (Q1.out _).1)))))
          refine wpQuiet_nil ?_
          rintro _ ⟨y5, rfl⟩
          obtain ⟨hR5, hQ5, hW5⟩ := y5.ok
          generalize y5.w = x5 at hR5 hQ5 hW5 ⊢
          clear k1 k2 inst hR2 hQ2 hW2 hk2
          go_wp2
          go_roundw
          case rel => exact ⟨j + 1, st2, by omega, by simp, hR5, hQ5, hW5⟩
          case measure => simp [intOf]; omega
        · have hd : ¬ j < xs.length ∨ (j < xs.length ∧ decide ((j : Int) < 200) = false) := by
            by_cases h : j < xs.length
            · exact .inr ⟨h, decide_eq_false (by omega)⟩
            · exact .inl h
          have b1 : r < n2 ∨ n3 ≤ r := .inl r2
          have b2 : q < n1 ∨ n2 ≤ q := .inr q1
          have hrw : w.heap.size ≤ r := by omega
          have hqw : w.heap.size ≤ q := by omega
          clear hjl
          obtain ⟨st2, hst⟩ : ∃ st2, rEnd l st = st2 := ⟨_, rfl⟩
          have HST := Lib.hid hst
          clear hst
          rcases hd with hd | ⟨hd, hd2⟩
          all_goals
            go_wp2_with fail
            refine wp_region_any (by kernel_rfl) ?_
            try (change wpAny _ _ _ _ _ _ _ (World.drew _))
            refine wpAny_take (i := 0) (v := ?_) rfl (by kernel_rfl) (by kernel_rfl) (by kernel_rfl) (fun _ _ _ h => h) (Or.inl ⟨by rfl, ?_⟩) ?_
            rotate_left 1
            · (intro wS; go_simp; try with_reducible rfl)
            try simp only [Act.put, List.setIfInBounds_toArray, List.set_cons_zero, List.set_cons_succ]
            refine wpAny_take (i := 2) (v := ?_) rfl (by kernel_rfl) (by kernel_rfl) (by kernel_rfl) (fun _ _ _ h => h) (Or.inl ⟨by rfl, ?_⟩) ?_
            rotate_left 1
            · (intro wS; go_simp; try with_reducible rfl)
            try simp only [Act.put, List.setIfInBounds_toArray, List.set_cons_zero, List.set_cons_succ]
            refine wpAny_ready (rs := [1]) (by kernel_rfl) (by simp) ?_
            refine AllReady.cons rfl (fun K hK => ?_) AllReady.nil
            go_simp
            refine (end_is (hR.ext ((Ext.refl _).drew)) HST.out).mono ?_
            rintro e y1 ⟨rfl, hR2, hk1⟩
            try (go_wp2_with fail)
            try (refine hK _ _ ?_; clear hK K)
            try simp only [Act.put, List.setIfInBounds_toArray, List.set_cons_zero, List.set_cons_succ]
            refine wpAny_ready (rs := [3]) (by kernel_rfl) (by simp) ?_
            refine AllReady.cons rfl (fun K hK => ?_) AllReady.nil
            go_simp
            refine (qend_is (RdX.keep (hQ.ext ((Ext.refl _).drew)) hk1 b1) HST.out).mono ?_
            rintro e y2 ⟨rfl, hQ2, hk2⟩
            try (go_wp2_with fail)
            try (refine hK _ _ ?_; clear hK K)
            try simp only [Act.put, List.setIfInBounds_toArray, List.set_cons_zero, List.set_cons_succ]
            have hR3 := hR2.keep hk2 b2
            have hW2 := Ext.keep (Ext.keep (Ext.drew hW) hk1 hrw) hk2 hqw
            have k1 := fun (x : SubW (fun z => RdX n1 n2 z r l st2 ∧ RdX n2 n3 z q l st2 ∧ Ext w z)) => x.ok.2.1.cells.1
            have k2 := fun (x : SubW (fun z => RdX n1 n2 z r l st2 ∧ RdX n2 n3 z q l st2 ∧ Ext w z)) => x.ok.2.1.cells.2
            have Q1 := Lib.hid (fun (x : SubW (fun z => RdX n1 n2 z r l st2 ∧ RdX n2 n3 z q l st2 ∧ Ext w z)) => x.ok)
            have inst : Nonempty (SubW (fun z => RdX n1 n2 z r l st2 ∧ RdX n2 n3 z q l st2 ∧ Ext w z)) := ⟨⟨_, hR3, hQ2, hW2⟩⟩
            refine wpAny_quietS (fun z => RdX n1 n2 z r l st2 ∧ RdX n2 n3 z q l st2 ∧ Ext w z) 4 (by rfl) (by kernel_rfl) (by kernel_rfl) ⟨hR3, hQ2, hW2⟩ ?_
            simp only [List.drop_succ_cons, List.drop_zero]
            repeat (go_big_quiet_step ((first
              | (go_at_call 18; exact quietS_eq (at_x (Q1.out _).1))
              | (go_at_call 17; exact quietS_eq (err_x (Q1.out _).1))
              | (go_at_call 3; exact quietS_call ((packRuns_any _).mono fun _ _ ⟨he, hx⟩ => ⟨he, (Q1.out _).1.ext hx, (Q1.out _).2.1.ext hx, (Q1.out _).2.2.trans hx⟩)))))
            refine wpQuiet_nil ?_
            rintro _ ⟨y5, rfl⟩
            obtain ⟨hR5, hQ5, hW5⟩ := y5.ok
            generalize y5.w = x5 at hR5 hQ5 hW5 ⊢
            go_wp2
            go_ret
            exact ⟨rfl, hW5⟩
end Go.Proofs.Ytmhppikbnobedaa
