/- The law KindKept: the walk. -/
import Derived.Test.YtdojgdeadhhldaaKindRuns
import Derived.Test.YtdojgdeadhhldaaKindS
namespace Go.Proofs.Ytdojgdeadhhldaa
open Go.RowKit

/-- List of any thing: a row of the call's own. -/
theorem thingList_any {v : Value} {L : List V} {D : Nat} (w : World) (h : TellsB w w.heap.size v L D) (hm : L.length ≤ 1000000000) : Calls Try.prog 11 #[.agg #[v]] w fun e w' =>
    ∃ out n cs, e = .returned (.tuple #[out, .bool (decide (kindOf L = 5))]) ∧ w'.ownsRow w.heap.size 25 1 out n cs ∧ n ≤ 1000000000 ∧ Ext w w' := by
  cases h with
  | one _ x hx =>
    refine (listV_any v x hx w).mono ?_
    rintro e w' ⟨rfl, hx'⟩
    refine ⟨.slice none 0 0, 0, [], ?_, World.ownsRow_nil _ _ _ _, Nat.zero_le _, hx'⟩
    have : kindOf [x] ≠ 5 := by cases hx <;> simp [kindOf]
    rw [decide_eq_false this]
  | list sl its hs hits =>
    have hlen : its.length ≤ (its.flatMap (·.2.1)).length := by
      clear hs hm
      induction its with
      | nil => simp
      | cons t ts ih =>
        have h1 := List.length_pos_iff.2 (hits t (by simp)).ne
        have h2 := ih fun u hu => hits u (List.mem_cons_of_mem _ hu)
        simp only [List.length_cons, List.flatMap_cons, List.length_append]
        omega
    have hl : its.length ≤ 1000000000 := by simp only [List.length_cons] at hm; omega
    have hcs : ∀ u ∈ its.map (·.1), u.oneCell' = true := by
      intro u hu
      obtain ⟨q, hq, rfl⟩ := List.mem_map.1 hu
      exact (hits q hq).cell1
    have hs' : SlR w w.heap.size 1 sl its.length (its.map fun t => t.1) := hs
    refine (listL_any sl its.length _ w hs' hcs hl).mono ?_
    rintro e w' ⟨out, rfl, ho, hx'⟩
    exact ⟨out, _, _, by simp [kindOf, headV], ho, hl, hx'⟩

def turnV : V := ⟨-1, 0, ⟨#[]⟩, 0, 0, 0⟩

set_option maxHeartbeats 8000000 in
set_option maxRecDepth 100000 in
theorem kept_ok (l : List V) (v : Value) (w : World) (hl : SlC w w.heap.size v l) (ho : ofP l = 0) : Calls Try.prog 8 #[v] w fun e w' => e = .returned (.bool true) ∧ Ext w w' := by
  have hr := fun w1 (h : Ext w w1) => refOf_any l v w.heap.size w1 h.size (hl.keep h)
  have ta := thing_ok l v w.heap.size w (Nat.le_refl _) hl ho
  rw [ho] at hr
  obtain ⟨hne, hlm⟩ := ofP_few ho
  have hl0 := hl
  obtain ⟨a, cap, rfl, hlc, hcm, hs⟩ := hl
  have hpos : 0 < l.length := List.length_pos_iff.2 hne
  have hli : ((l.length : Int) == 0) = false := by simp; omega
  obtain ⟨b1, o1, rfl, hb1, hc1⟩ := SlS.at_ V.len (show SlS V.cells 6 w _ l from hs) hpos (by decide)
  have hk0 : w.cell? ⟨b1, o1, none⟩ = some (.int .i64 (kindOf l)) := by
    have := hc1 0 hpos 0 (by decide)
    cases l with
    | nil => exact absurd rfl hne
    | cons x t => simpa [V.cells, kindOf] using this
  have HL := Lib.hid hl0
  clear hs hc1 hl0
  go_enter Try.func8, Try.ntmps8
  go_wp2_with (first
    | (go_at_call 25; with_reducible refine ta.mono ?_; rintro e x1 ⟨iu, D1, rfl, t1, hD1, hx1⟩; have st1 : (store ⟨x1.heap.size, 0, none⟩ iu).run Try.prog (x1.alloc (.cells #[.nilIface] 25)) = .ok () (x1.alloc (.cells #[iu] 25)) := (by rcases t1.form with rfl | ⟨_, _, rfl⟩ <;> simp [go_sem]); have hX1 : Ext w (x1.alloc (.cells #[iu] 25)) := hx1.alloc _; have T1 := Lib.hid t1.b; clear t1)
    | (go_at_call 21; with_reducible refine (hr _ hX1).mono ?_; rintro e x2 ⟨rfl, hx2⟩; have hX2 := hX1.trans hx2; have c2 : x2.cell? ⟨x1.heap.size, 0, none⟩ = some iu := (by rw [hx2.cell (by simp)]; simp [go_sem]); have T2 := Lib.hid (T1.out.ext (Ext.trans ((Ext.refl x1).alloc _) hx2)))
    | (go_at_call 11; (refine (thingList_any _ T2.out (by omega)).mono ?_); rintro e x3 ⟨m, nm, cs, rfl, hom, hnm, hx3⟩; obtain ⟨_, _, am, cm, rfl, _⟩ := SlR.of_own hom))
  have c3 := (hx3.cell (p := ⟨x1.heap.size, 0, none⟩) (World.block_lt_of_cell? _ _ c2)).trans c2
  have hc1 : cs.length = nm := by have := hom.1; omega
  have T2' := T2
  clear st1 hx1 T1 hx2 hr ta ho hX1
  go_wp2_with fail
  go_loopw [7] (fun iv wr => ∃ (k : Nat) (cs' : List Value), k ≤ nm ∧ iv = .int .i64 (k : Int) ∧ wr.ownsRow x2.heap.size 25 1 (.slice am nm cm) nm cs' ∧ Ext x2 wr) (fun iv _ => nm - (intOf iv).toNat)
  case atStart => exact ⟨0, cs, Nat.zero_le _, rfl, hom, hx3⟩
  case round =>
    obtain ⟨k, cs', hk, rfl, how, hxw⟩ := hrel
    clear hom hx3 c3 hc1
    have c4 := (hxw.cell (p := ⟨x1.heap.size, 0, none⟩) (World.block_lt_of_cell? _ _ c2)).trans c2
    by_cases hlt : k < nm
    · have hki : (k : Int) < (nm : Int) := by omega
      have hki0 : (0 : Int) ≤ (k : Int) := by omega
      have hcl : cs'.length = nm := by have := how.1; omega
      obtain ⟨g, rfl⟩ : ∃ g, am = some ⟨g, 0, none⟩ := by
        rcases how.2 with ⟨h0, _⟩ | ⟨gg, cc, cur, h0, _⟩
        · cases h0; omega
        · cases h0; exact ⟨_, rfl⟩
      have hat := fun z (hz : Ext wr z) => own_at (own_ext how hz) k _ (List.getElem?_eq_getElem (show k < cs'.length by omega))
      have hset := fun z (hz : Ext wr z) u => own_set (own_ext how hz) k u (show k < cs'.length by omega)
      have HS := Lib.hid hset
      have HAT := Lib.hid hat
      clear hset hat how
      go_wp2_with (go_at_call 14; (refine (fromText_any _ _).mono ?_); rintro e z ⟨rfl, hz⟩; obtain ⟨g1, g2, g3, g4⟩ := HAT.out z hz)
      go_roundw
      case rel => exact ⟨k + 1, _, by omega, by simp, HS.out z hz _, (hxw.trans hz).setCell g3 _⟩
      case measure => simp [intOf]; omega
    · have hki : ¬ (k : Int) < (nm : Int) := by omega
      have hok : flatOk 0 l.length 0 D1 = true := by simp [flatOk]; omega
      have T4 := Lib.hid (T2.out.ext hxw)
      clear how
      go_wp2_with (go_at_call 23; (refine (flat_yes _ T4.out hok).mono ?_); rintro e y1 ⟨m2, rfl, ho2, hy1⟩; obtain ⟨a2, k2, rfl, _, _⟩ := ho2.form; have c5 := (hy1.cell (p := ⟨x1.heap.size, 0, none⟩) (World.block_lt_of_cell? _ _ c4)).trans c4)
      go_loopw [10] (fun iv wq => ∃ (k : Nat) (xs : List V), k ≤ l.length ∧ iv = .int .i64 (k : Int) ∧ xs.length = l.length ∧ OwnS V.cells 6 32 wq wr.heap.size (.slice a2 l.length k2) xs ∧ Ext wr wq) (fun iv _ => l.length - (intOf iv).toNat)
      case atStart => exact ⟨0, l, Nat.zero_le _, rfl, rfl, ho2, hy1⟩
      case round =>
        rename World => wq
        obtain ⟨q, xs, hq, rfl, hxl, how, hyw⟩ := hrel
        clear ho2 hy1 c5
        have c6 := (hyw.cell (p := ⟨x1.heap.size, 0, none⟩) (World.block_lt_of_cell? _ _ c4)).trans c4
        by_cases hqt : q < l.length
        · have hqi : (q : Int) < (l.length : Int) := by omega
          have hqi0 : (0 : Int) ≤ (q : Int) := by omega
          obtain ⟨g, rfl⟩ : ∃ g, a2 = some ⟨g, 0, none⟩ := by
            rcases how.2 with ⟨h0, h00⟩ | ⟨gg, cc, cur, h0, _⟩
            · omega
            · simp only [Value.slice.injEq] at h0; exact ⟨_, h0.1⟩
          obtain ⟨hat, hbg⟩ := OwnS.at_ V.len how hxl.symm q (by omega)
          have hset := OwnS.setV how hxl.symm q (by omega) turnV
          have hg := (hbg (by decide)).1
          have g0 : wq.cell? ⟨g, q * 6, none⟩ = _ := (hat 0 (by decide)).1
          have f0 : wq.frozen? ⟨g, q * 6, none⟩ = false := (hat 0 (by decide)).2
          have g1 := (hat 1 (by decide)).1
          have f1 := (hat 1 (by decide)).2
          have g2 := (hat 2 (by decide)).1
          have f2 := (hat 2 (by decide)).2
          have g3 := (hat 3 (by decide)).1
          have f3 := (hat 3 (by decide)).2
          have g4 := (hat 4 (by decide)).1
          have f4 := (hat 4 (by decide)).2
          have g5 := (hat 5 (by decide)).1
          have f5 := (hat 5 (by decide)).2
          have hxq : q < xs.length := by omega
          generalize xs[q] = xq at *
          simp only [V.cells, List.getElem?_cons_zero, List.getElem?_cons_succ] at g0 g1 g2 g3 g4 g5
          simp only [turnV] at hset
          have HS := Lib.hid hset
          clear hset hat hbg how
          go_wp2
          refine ⟨⟨q + 1, _, by omega, by simp, by simp [hxl], HS.out, Ext.setCell (Ext.setCell (Ext.setCell (Ext.setCell (Ext.setCell (Ext.setCell hyw hg _) hg _) hg _) hg _) hg _) hg _⟩, by simp [intOf]; omega⟩
        · have hqi : ¬ (q : Int) < (l.length : Int) := by omega
          have T5 := Lib.hid (T4.out.ext hyw)
          have hWq := hX2.trans (hxw.trans hyw)
          have hdd : (decide (kindOf l = 5) == (kindOf l == 5)) = true := by by_cases h : kindOf l = 5 <;> simp [h]
          have hsl := fun z (hz : Ext w z) => HL.out.keep hz
          have HSL := Lib.hid hsl
          clear how hsl
          go_wp2_with (first
            | (go_at_call 23; (refine (flat_yes _ T5.out hok).mono ?_); rintro e z1 ⟨m3, rfl, ho3, hz1⟩; have hZ1 := hWq.trans hz1; have k1 := (hZ1.cell (p := ⟨b1, o1, none⟩) hb1).trans hk0)
            | (go_at_call 24; (refine (sameV _ _ l l true ⟨fun _ => rfl, fun _ => rfl⟩ _ ho3.rd ((HSL.out _ hZ1).sls hZ1.size) (by omega) (by omega)).mono ?_); rintro e z2 ⟨rfl, hz2⟩)
            | (go_at_call 3; refine (kindRuns_any _).mono ?_; rintro e z3 ⟨rfl, hz3⟩))
          go_ret
          exact ⟨rfl, hZ1.trans (hz2.trans hz3)⟩

set_option maxHeartbeats 2000000 in
theorem kept_any (l : List V) (v : Value) (w : World) (hl : SlC w w.heap.size v l) : Calls Try.prog 8 #[v] w fun e w' => e = .returned (.bool true) ∧ Ext w w' := by
  by_cases ho : ofP l = 0
  · exact kept_ok l v w hl ho
  · have ta := thing_no l v w.heap.size w (Nat.le_refl _) hl ho
    have hr := fun w1 (h : Ext w w1) => refOf_any l v w.heap.size w1 h.size (hl.keep h)
    have hc : (ofP l != 0) = true := by simp [ho]
    obtain ⟨a, cap, rfl, _, _, _⟩ := hl
    by_cases h0 : l = []
    · subst h0
      simp only [List.length_nil] at ta hr
      go_enter Try.func8, Try.ntmps8
      go_wp2_with (first
        | (go_at_call 25; with_reducible refine ta.mono ?_; rintro e x1 ⟨rfl, hx1⟩; have hX1 : Ext w (x1.alloc (.cells #[.nilIface] 25)) := hx1.alloc _)
        | (go_at_call 3; refine (kindRuns_any _).mono ?_; rintro e x3 ⟨rfl, hx3⟩))
      go_ret
      exact ⟨rfl, hX1.trans hx3⟩
    · have hli : ((l.length : Int) == 0) = false := beq_eq_false_iff_ne.2 (by have := List.length_pos_iff.2 h0; omega)
      go_enter Try.func8, Try.ntmps8
      go_wp2_with (first
        | (go_at_call 25; with_reducible refine ta.mono ?_; rintro e x1 ⟨rfl, hx1⟩; have hX1 : Ext w (x1.alloc (.cells #[.nilIface] 25)) := hx1.alloc _)
        | (go_at_call 21; with_reducible refine (hr _ hX1).mono ?_; rintro e x2 ⟨rfl, hx2⟩)
        | (go_at_call 3; refine (kindRuns_any _).mono ?_; rintro e x3 ⟨rfl, hx3⟩))
      go_ret
      exact ⟨rfl, hX1.trans (hx2.trans hx3)⟩
end Go.Proofs.Ytdojgdeadhhldaa
