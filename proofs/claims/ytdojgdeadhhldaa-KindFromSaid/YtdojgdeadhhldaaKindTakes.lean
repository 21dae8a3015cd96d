/- The law KindTakes: the walk, by kinds. (Written by genTakes.py.) -/
import Derived.Test.YtdojgdeadhhldaaKindTk3
import Derived.Test.YtdojgdeadhhldaaKindKept
import Derived.Test.YtdojgdeadhhldaaLex
namespace Go.Proofs.Ytdojgdeadhhldaa
open Go.RowKit

/-- List of any thing, and how many. -/
theorem thingList2 {v : Value} {L : List V} {D : Nat} (w : World) (h : TellsB w w.heap.size v L D) (hm : L.length ≤ 1000000000) : Calls Try.prog 11 #[.agg #[v]] w fun e w' =>
    ∃ (a : Option Addr) (c n : Nat), e = .returned (.tuple #[.slice a n c, .bool (decide (kindOf L = 5))]) ∧ n ≤ 1000000000 ∧ (n : Int) = (if kindOf L = 5 then (hd L).n else 0) ∧ Ext w w' := by
  cases h with
  | one _ x hx =>
    refine (listV_any v x hx w).mono ?_
    rintro e w' ⟨rfl, hx'⟩
    have : kindOf [x] ≠ 5 := by cases hx <;> simp [kindOf]
    refine ⟨none, 0, 0, by rw [decide_eq_false this], Nat.zero_le _, by rw [if_neg this]; rfl, hx'⟩
  | list sl its hs hits =>
    have hlen : its.length ≤ (its.flatMap (·.2.1)).length := by
      clear hs hm
      induction its with
      | nil => simp
      | cons t ts ih =>
        have h1 := List.length_pos_iff.2 (hits t (by simp)).ne
        have h2 := ih fun u hu => hits u (List.mem_cons_of_mem _ hu)
        simp only [List.length_cons, List.flatMap_cons, List.length_append]
        omega
    have hl : its.length ≤ 1000000000 := by simp only [List.length_cons] at hm; omega
    have hcs : ∀ u ∈ its.map (·.1), u.oneCell' = true := by
      intro u hu
      obtain ⟨q, hq, rfl⟩ := List.mem_map.1 hu
      exact (hits q hq).cell1
    have hs' : SlR w w.heap.size 1 sl its.length (its.map fun t => t.1) := hs
    refine (listL_any sl its.length _ w hs' hcs hl).mono ?_
    rintro e w' ⟨out, rfl, ho, hx'⟩
    obtain ⟨_, _, a, c, rfl, _⟩ := SlR.of_own ho
    exact ⟨a, c, its.length, by simp [kindOf, headV], hl, by simp [kindOf, headV, hd], hx'⟩

set_option maxHeartbeats 16000000 in
set_option maxRecDepth 100000 in
theorem takes_1 (l : List V) (hk : kindOf l = 1) (v : Value) (w : World) (hl : SlC w w.heap.size v l) (ho : ofP l = 0) : Calls Try.prog 9 #[v] w fun e w' => e = .returned (.bool true) ∧ Ext w w' := by
  have hr := fun w1 (h : Ext w w1) => refOf_any l v w.heap.size w1 h.size (hl.keep h)
  rw [ho] at hr
  have ta := fun w1 (h : Ext w w1) => thing_ok l v w.heap.size w1 h.size (hl.keep h) ho
  obtain ⟨hne, hlm⟩ := ofP_few ho
  obtain ⟨a, cap, rfl, hlc, hcm, hs⟩ := hl
  have hpos : 0 < l.length := List.length_pos_iff.2 hne
  have hli : ((l.length : Int) == 0) = false := by simp; omega
  obtain ⟨b1, o1, rfl, hb1, hc1⟩ := SlS.at_ V.len (show SlS V.cells 6 w _ l from hs) hpos (by decide)
  have hk0 : ∀ z, Ext w z → z.cell? ⟨b1, o1, none⟩ = some (.int .i64 1) ∧ z.cell? ⟨b1, o1 + 1, none⟩ = some (.int .i64 (hd l).n) ∧ z.cell? ⟨b1, o1 + 2, none⟩ = some (.string (hd l).text) ∧ z.cell? ⟨b1, o1 + 3, none⟩ = some (.int .i64 (hd l).y) ∧ z.cell? ⟨b1, o1 + 4, none⟩ = some (.int .i64 (hd l).m) ∧ z.cell? ⟨b1, o1 + 5, none⟩ = some (.int .i64 (hd l).d) := by
    rw [← hk]
    cases l with
    | nil => exact absurd rfl hne
    | cons x t =>
      intro z hz
      refine ⟨?_, ?_, ?_, ?_, ?_, ?_⟩
      · have := (hz.cell (p := ⟨b1, o1 + 0 * 6 + 0, none⟩) hb1).trans (hc1 0 hpos 0 (by decide)); simpa [V.cells, kindOf] using this
      · have := (hz.cell (p := ⟨b1, o1 + 0 * 6 + 1, none⟩) hb1).trans (hc1 0 hpos 1 (by decide)); simpa [V.cells, hd] using this
      · have := (hz.cell (p := ⟨b1, o1 + 0 * 6 + 2, none⟩) hb1).trans (hc1 0 hpos 2 (by decide)); simpa [V.cells, hd] using this
      · have := (hz.cell (p := ⟨b1, o1 + 0 * 6 + 3, none⟩) hb1).trans (hc1 0 hpos 3 (by decide)); simpa [V.cells, hd] using this
      · have := (hz.cell (p := ⟨b1, o1 + 0 * 6 + 4, none⟩) hb1).trans (hc1 0 hpos 4 (by decide)); simpa [V.cells, hd] using this
      · have := (hz.cell (p := ⟨b1, o1 + 0 * 6 + 5, none⟩) hb1).trans (hc1 0 hpos 5 (by decide)); simpa [V.cells, hd] using this
  have HK := Lib.hid hk0
  have HR := Lib.hid hr
  have HT := Lib.hid ta
  clear hs hc1 hk0 hr ta ho
  have CON : Hid (∀ iv D B z0, TellsB z0 B iv l D → (∀ z, Calls Try.prog 15 #[.agg #[iv]] z fun e w' => e = .returned (.tuple #[(.int .i64 (hd l).n), .bool true]) ∧ Ext z w') ∧ (∀ z, Calls Try.prog 29 #[.agg #[iv]] z fun e w' => e = .returned (.tuple #[(.string ⟨#[]⟩), .bool false]) ∧ Ext z w') ∧ (∀ z, Calls Try.prog 30 #[.agg #[iv]] z fun e w' => e = .returned (.tuple #[(.bool false), .bool false]) ∧ Ext z w') ∧ (∀ z, Calls Try.prog 31 #[.agg #[iv]] z fun e w' => e = .returned (.tuple #[(.agg #[.int .i64 0, .int .i64 0, .int .i64 0]), .bool false]) ∧ Ext z w') ∧ (∀ z, Calls Try.prog 32 #[.agg #[iv], .int .i64 1] z fun e w' => e = .returned (.bool true) ∧ Ext z w')) := Lib.hid (by
    intro iv D B z0 ht
    refine ⟨?_, ?_, ?_, ?_, ?_⟩
    · exact fun z => (thingInt_any iv l D z0 B ht z).mono fun e w' hh => ⟨hh.1.trans (by simp [hk]), hh.2⟩
    · exact fun z => (thingText_any iv l D z0 B ht z).mono fun e w' hh => ⟨hh.1.trans (by simp [hk]), hh.2⟩
    · exact fun z => (thingFlag_any iv l D z0 B ht z).mono fun e w' hh => ⟨hh.1.trans (by simp [hk]), hh.2⟩
    · exact fun z => (thingDate_any iv l D z0 B ht z).mono fun e w' hh => ⟨hh.1.trans (by simp [hk]), hh.2⟩
    · exact fun z => by have := must_any iv l D z0 B ht z; rw [hk] at this; exact this)
  have LST : Hid (∀ iv D z, TellsB z z.heap.size iv l D → Calls Try.prog 11 #[.agg #[iv]] z fun e w' => ∃ (a : Option Addr) (c n : Nat), e = .returned (.tuple #[.slice a n c, .bool false]) ∧ n ≤ 1000000000 ∧ (n : Int) = 0 ∧ Ext z w') := Lib.hid (by
    intro iv D z ht
    refine (thingList2 z ht (by omega)).mono ?_
    rintro e w' ⟨a, c, n, rfl, h1, h2, h3⟩
    exact ⟨a, c, n, by simp [hk], h1, by rw [h2]; simp [hk], h3⟩)
  clear hk hne
  go_enter Try.func9, Try.ntmps9
  go_wp2_with (first
    | (go_at_call 21; with_reducible refine (HR.out _ (Ext.refl _)).mono ?_; rintro e x0 ⟨rfl, hx0⟩)
    | (go_at_call 25; with_reducible refine (HT.out _ hx0).mono ?_; rintro e x1 ⟨iu, D1, rfl, t1, hD1, hx1⟩; have st1 : (store ⟨x1.heap.size, 0, none⟩ iu).run Try.prog (x1.alloc (.cells #[.nilIface] 25)) = .ok () (x1.alloc (.cells #[iu] 25)) := (by rcases t1.form with rfl | ⟨_, _, rfl⟩ <;> simp [go_sem]); have hX1 : Ext w (x1.alloc (.cells #[iu] 25)) := (hx0.trans hx1).alloc _; have T1 := Lib.hid t1.b; have BK := Lib.hid (new_blk x1 (.cells #[iu] 25)); obtain ⟨Q1, Q2, Q3, Q4, QM⟩ := CON.out _ _ _ _ T1.out; have Q1 := Lib.hid Q1; have Q2 := Lib.hid Q2; have Q3 := Lib.hid Q3; have Q4 := Lib.hid Q4; have QM := Lib.hid QM; obtain ⟨l0, l1, l2, l3, l4, l5⟩ := HK.out _ hX1; clear t1 hx0 hx1)
    | (go_at_call 15; (refine (Q1.out _).mono ?_); rintro e y1 ⟨rfl, hy1⟩; have B1 := Lib.hid (ext_blk hy1 BK.out); obtain ⟨d1, _⟩ := blk B1.out 0 _ rfl; clear l0 l1 l2 l3 l4 l5 st1)
    | (go_at_call 29; (refine (Q2.out _).mono ?_); rintro e y2 ⟨rfl, hy2⟩; have B2 := Lib.hid (ext_blk hy2 B1.out); obtain ⟨d2, _⟩ := blk B2.out 0 _ rfl; clear d1)
    | (go_at_call 30; (refine (Q3.out _).mono ?_); rintro e y3 ⟨rfl, hy3⟩; have B3 := Lib.hid (ext_blk hy3 B2.out); obtain ⟨d3, _⟩ := blk B3.out 0 _ rfl; clear d2)
    | (go_at_call 31; (refine (Q4.out _).mono ?_); rintro e y4 ⟨rfl, hy4⟩; have B4 := Lib.hid (ext_blk hy4 B3.out); obtain ⟨d4, _⟩ := blk B4.out 0 _ rfl; have hY4 := hX1.trans (hy1.trans (hy2.trans (hy3.trans hy4))); have z4 := blk_lt B4.out; clear d3)
    | (go_at_call 11; (refine (LST.out _ _ _ (T1.out.ext (Ext.trans ((Ext.refl x1).alloc _) (hy1.trans (hy2.trans (hy3.trans (hy4.alloc _))))))).mono ?_); rintro e y5 ⟨am, cm, nm, rfl, hnm, hnn, hy5⟩; have B5 := Lib.hid (ext_blk hy5 (alloc_blk B4.out)); obtain ⟨d5, _⟩ := blk B5.out 0 _ rfl; have B6 := Lib.hid (ext_blk hy5 (new_blk y4 _)); obtain ⟨e0, _⟩ := blk B6.out 0 _ rfl; obtain ⟨e1, _⟩ := blk B6.out 1 _ rfl; obtain ⟨e2, _⟩ := blk B6.out 2 _ rfl; have hY5 : Ext w y5 := Ext.trans (hY4.alloc _) hy5; obtain ⟨l0, l1, l2, l3, l4, l5⟩ := HK.out _ hY5; clear d4))
  clear CON LST HK HR HT Q1 Q2 Q3 Q4
  clear BK B1 B2 B3 B4 B5 B6 T1
  simp only [List.getElem_toArray, List.getElem_cons_zero, List.getElem_cons_succ] at d5 e0 e1 e2
  dsimp only [List.append]
  refine wp_region_quiet_lit (by kernel_rfl) (lexB_of _ _ (by kernel_rfl) rfl (by as_aux_lemma => kernel_rfl)) ?_
  repeat (go_big_quiet_step (fail))
  refine wpQuiet_nil ?_
  intro _ hw'
  obtain ⟨nq, hw''⟩ := hw'
  subst hw''
  go_wp2_with (first
    | (go_at_call 32; (refine (QM.out _).mono ?_); rintro e y6 ⟨rfl, hy6⟩)
    | (go_at_call 3; refine (kindRuns_any _).mono ?_; rintro e y7 ⟨rfl, hy7⟩))
  go_ret
  exact ⟨rfl, (Ext.drewN hY5 _).trans (hy6.trans hy7)⟩
set_option maxHeartbeats 16000000 in
set_option maxRecDepth 100000 in
theorem takes_2 (l : List V) (hk : kindOf l = 2) (v : Value) (w : World) (hl : SlC w w.heap.size v l) (ho : ofP l = 0) : Calls Try.prog 9 #[v] w fun e w' => e = .returned (.bool true) ∧ Ext w w' := by
  have hr := fun w1 (h : Ext w w1) => refOf_any l v w.heap.size w1 h.size (hl.keep h)
  rw [ho] at hr
  have ta := fun w1 (h : Ext w w1) => thing_ok l v w.heap.size w1 h.size (hl.keep h) ho
  obtain ⟨hne, hlm⟩ := ofP_few ho
  obtain ⟨a, cap, rfl, hlc, hcm, hs⟩ := hl
  have hpos : 0 < l.length := List.length_pos_iff.2 hne
  have hli : ((l.length : Int) == 0) = false := by simp; omega
  obtain ⟨b1, o1, rfl, hb1, hc1⟩ := SlS.at_ V.len (show SlS V.cells 6 w _ l from hs) hpos (by decide)
  have hk0 : ∀ z, Ext w z → z.cell? ⟨b1, o1, none⟩ = some (.int .i64 2) ∧ z.cell? ⟨b1, o1 + 1, none⟩ = some (.int .i64 (hd l).n) ∧ z.cell? ⟨b1, o1 + 2, none⟩ = some (.string (hd l).text) ∧ z.cell? ⟨b1, o1 + 3, none⟩ = some (.int .i64 (hd l).y) ∧ z.cell? ⟨b1, o1 + 4, none⟩ = some (.int .i64 (hd l).m) ∧ z.cell? ⟨b1, o1 + 5, none⟩ = some (.int .i64 (hd l).d) := by
    rw [← hk]
    cases l with
    | nil => exact absurd rfl hne
    | cons x t =>
      intro z hz
      refine ⟨?_, ?_, ?_, ?_, ?_, ?_⟩
      · have := (hz.cell (p := ⟨b1, o1 + 0 * 6 + 0, none⟩) hb1).trans (hc1 0 hpos 0 (by decide)); simpa [V.cells, kindOf] using this
      · have := (hz.cell (p := ⟨b1, o1 + 0 * 6 + 1, none⟩) hb1).trans (hc1 0 hpos 1 (by decide)); simpa [V.cells, hd] using this
      · have := (hz.cell (p := ⟨b1, o1 + 0 * 6 + 2, none⟩) hb1).trans (hc1 0 hpos 2 (by decide)); simpa [V.cells, hd] using this
      · have := (hz.cell (p := ⟨b1, o1 + 0 * 6 + 3, none⟩) hb1).trans (hc1 0 hpos 3 (by decide)); simpa [V.cells, hd] using this
      · have := (hz.cell (p := ⟨b1, o1 + 0 * 6 + 4, none⟩) hb1).trans (hc1 0 hpos 4 (by decide)); simpa [V.cells, hd] using this
      · have := (hz.cell (p := ⟨b1, o1 + 0 * 6 + 5, none⟩) hb1).trans (hc1 0 hpos 5 (by decide)); simpa [V.cells, hd] using this
  have HK := Lib.hid hk0
  have HR := Lib.hid hr
  have HT := Lib.hid ta
  clear hs hc1 hk0 hr ta ho
  have CON : Hid (∀ iv D B z0, TellsB z0 B iv l D → (∀ z, Calls Try.prog 15 #[.agg #[iv]] z fun e w' => e = .returned (.tuple #[(.int .i64 0), .bool false]) ∧ Ext z w') ∧ (∀ z, Calls Try.prog 29 #[.agg #[iv]] z fun e w' => e = .returned (.tuple #[(.string (hd l).text), .bool true]) ∧ Ext z w') ∧ (∀ z, Calls Try.prog 30 #[.agg #[iv]] z fun e w' => e = .returned (.tuple #[(.bool false), .bool false]) ∧ Ext z w') ∧ (∀ z, Calls Try.prog 31 #[.agg #[iv]] z fun e w' => e = .returned (.tuple #[(.agg #[.int .i64 0, .int .i64 0, .int .i64 0]), .bool false]) ∧ Ext z w') ∧ (∀ z, Calls Try.prog 32 #[.agg #[iv], .int .i64 2] z fun e w' => e = .returned (.bool true) ∧ Ext z w')) := Lib.hid (by
    intro iv D B z0 ht
    refine ⟨?_, ?_, ?_, ?_, ?_⟩
    · exact fun z => (thingInt_any iv l D z0 B ht z).mono fun e w' hh => ⟨hh.1.trans (by simp [hk]), hh.2⟩
    · exact fun z => (thingText_any iv l D z0 B ht z).mono fun e w' hh => ⟨hh.1.trans (by simp [hk]), hh.2⟩
    · exact fun z => (thingFlag_any iv l D z0 B ht z).mono fun e w' hh => ⟨hh.1.trans (by simp [hk]), hh.2⟩
    · exact fun z => (thingDate_any iv l D z0 B ht z).mono fun e w' hh => ⟨hh.1.trans (by simp [hk]), hh.2⟩
    · exact fun z => by have := must_any iv l D z0 B ht z; rw [hk] at this; exact this)
  have LST : Hid (∀ iv D z, TellsB z z.heap.size iv l D → Calls Try.prog 11 #[.agg #[iv]] z fun e w' => ∃ (a : Option Addr) (c n : Nat), e = .returned (.tuple #[.slice a n c, .bool false]) ∧ n ≤ 1000000000 ∧ (n : Int) = 0 ∧ Ext z w') := Lib.hid (by
    intro iv D z ht
    refine (thingList2 z ht (by omega)).mono ?_
    rintro e w' ⟨a, c, n, rfl, h1, h2, h3⟩
    exact ⟨a, c, n, by simp [hk], h1, by rw [h2]; simp [hk], h3⟩)
  clear hk hne
  go_enter Try.func9, Try.ntmps9
  go_wp2_with (first
    | (go_at_call 21; with_reducible refine (HR.out _ (Ext.refl _)).mono ?_; rintro e x0 ⟨rfl, hx0⟩)
    | (go_at_call 25; with_reducible refine (HT.out _ hx0).mono ?_; rintro e x1 ⟨iu, D1, rfl, t1, hD1, hx1⟩; have st1 : (store ⟨x1.heap.size, 0, none⟩ iu).run Try.prog (x1.alloc (.cells #[.nilIface] 25)) = .ok () (x1.alloc (.cells #[iu] 25)) := (by rcases t1.form with rfl | ⟨_, _, rfl⟩ <;> simp [go_sem]); have hX1 : Ext w (x1.alloc (.cells #[iu] 25)) := (hx0.trans hx1).alloc _; have T1 := Lib.hid t1.b; have BK := Lib.hid (new_blk x1 (.cells #[iu] 25)); obtain ⟨Q1, Q2, Q3, Q4, QM⟩ := CON.out _ _ _ _ T1.out; have Q1 := Lib.hid Q1; have Q2 := Lib.hid Q2; have Q3 := Lib.hid Q3; have Q4 := Lib.hid Q4; have QM := Lib.hid QM; obtain ⟨l0, l1, l2, l3, l4, l5⟩ := HK.out _ hX1; clear t1 hx0 hx1)
    | (go_at_call 15; (refine (Q1.out _).mono ?_); rintro e y1 ⟨rfl, hy1⟩; have B1 := Lib.hid (ext_blk hy1 BK.out); obtain ⟨d1, _⟩ := blk B1.out 0 _ rfl; clear l0 l1 l2 l3 l4 l5 st1)
    | (go_at_call 29; (refine (Q2.out _).mono ?_); rintro e y2 ⟨rfl, hy2⟩; have B2 := Lib.hid (ext_blk hy2 B1.out); obtain ⟨d2, _⟩ := blk B2.out 0 _ rfl; clear d1)
    | (go_at_call 30; (refine (Q3.out _).mono ?_); rintro e y3 ⟨rfl, hy3⟩; have B3 := Lib.hid (ext_blk hy3 B2.out); obtain ⟨d3, _⟩ := blk B3.out 0 _ rfl; clear d2)
    | (go_at_call 31; (refine (Q4.out _).mono ?_); rintro e y4 ⟨rfl, hy4⟩; have B4 := Lib.hid (ext_blk hy4 B3.out); obtain ⟨d4, _⟩ := blk B4.out 0 _ rfl; have hY4 := hX1.trans (hy1.trans (hy2.trans (hy3.trans hy4))); have z4 := blk_lt B4.out; clear d3)
    | (go_at_call 11; (refine (LST.out _ _ _ (T1.out.ext (Ext.trans ((Ext.refl x1).alloc _) (hy1.trans (hy2.trans (hy3.trans (hy4.alloc _))))))).mono ?_); rintro e y5 ⟨am, cm, nm, rfl, hnm, hnn, hy5⟩; have B5 := Lib.hid (ext_blk hy5 (alloc_blk B4.out)); obtain ⟨d5, _⟩ := blk B5.out 0 _ rfl; have B6 := Lib.hid (ext_blk hy5 (new_blk y4 _)); obtain ⟨e0, _⟩ := blk B6.out 0 _ rfl; obtain ⟨e1, _⟩ := blk B6.out 1 _ rfl; obtain ⟨e2, _⟩ := blk B6.out 2 _ rfl; have hY5 : Ext w y5 := Ext.trans (hY4.alloc _) hy5; obtain ⟨l0, l1, l2, l3, l4, l5⟩ := HK.out _ hY5; clear d4))
  clear CON LST HK HR HT Q1 Q2 Q3 Q4
  clear BK B1 B2 B3 B4 B5 B6 T1
  simp only [List.getElem_toArray, List.getElem_cons_zero, List.getElem_cons_succ] at d5 e0 e1 e2
  dsimp only [List.append]
  refine wp_region_quiet_lit (by kernel_rfl) (lexB_of _ _ (by kernel_rfl) rfl (by as_aux_lemma => kernel_rfl)) ?_
  repeat (go_big_quiet_step (fail))
  refine wpQuiet_nil ?_
  intro _ hw'
  obtain ⟨nq, hw''⟩ := hw'
  subst hw''
  go_wp2_with (first
    | (go_at_call 32; (refine (QM.out _).mono ?_); rintro e y6 ⟨rfl, hy6⟩)
    | (go_at_call 3; refine (kindRuns_any _).mono ?_; rintro e y7 ⟨rfl, hy7⟩))
  go_ret
  exact ⟨rfl, (Ext.drewN hY5 _).trans (hy6.trans hy7)⟩
set_option maxHeartbeats 16000000 in
set_option maxRecDepth 100000 in
theorem takes_3 (l : List V) (hk : kindOf l = 3) (v : Value) (w : World) (hl : SlC w w.heap.size v l) (ho : ofP l = 0) : Calls Try.prog 9 #[v] w fun e w' => e = .returned (.bool true) ∧ Ext w w' := by
  have hr := fun w1 (h : Ext w w1) => refOf_any l v w.heap.size w1 h.size (hl.keep h)
  rw [ho] at hr
  have ta := fun w1 (h : Ext w w1) => thing_ok l v w.heap.size w1 h.size (hl.keep h) ho
  obtain ⟨hne, hlm⟩ := ofP_few ho
  obtain ⟨a, cap, rfl, hlc, hcm, hs⟩ := hl
  have hpos : 0 < l.length := List.length_pos_iff.2 hne
  have hli : ((l.length : Int) == 0) = false := by simp; omega
  obtain ⟨b1, o1, rfl, hb1, hc1⟩ := SlS.at_ V.len (show SlS V.cells 6 w _ l from hs) hpos (by decide)
  have hk0 : ∀ z, Ext w z → z.cell? ⟨b1, o1, none⟩ = some (.int .i64 3) ∧ z.cell? ⟨b1, o1 + 1, none⟩ = some (.int .i64 (hd l).n) ∧ z.cell? ⟨b1, o1 + 2, none⟩ = some (.string (hd l).text) ∧ z.cell? ⟨b1, o1 + 3, none⟩ = some (.int .i64 (hd l).y) ∧ z.cell? ⟨b1, o1 + 4, none⟩ = some (.int .i64 (hd l).m) ∧ z.cell? ⟨b1, o1 + 5, none⟩ = some (.int .i64 (hd l).d) := by
    rw [← hk]
    cases l with
    | nil => exact absurd rfl hne
    | cons x t =>
      intro z hz
      refine ⟨?_, ?_, ?_, ?_, ?_, ?_⟩
      · have := (hz.cell (p := ⟨b1, o1 + 0 * 6 + 0, none⟩) hb1).trans (hc1 0 hpos 0 (by decide)); simpa [V.cells, kindOf] using this
      · have := (hz.cell (p := ⟨b1, o1 + 0 * 6 + 1, none⟩) hb1).trans (hc1 0 hpos 1 (by decide)); simpa [V.cells, hd] using this
      · have := (hz.cell (p := ⟨b1, o1 + 0 * 6 + 2, none⟩) hb1).trans (hc1 0 hpos 2 (by decide)); simpa [V.cells, hd] using this
      · have := (hz.cell (p := ⟨b1, o1 + 0 * 6 + 3, none⟩) hb1).trans (hc1 0 hpos 3 (by decide)); simpa [V.cells, hd] using this
      · have := (hz.cell (p := ⟨b1, o1 + 0 * 6 + 4, none⟩) hb1).trans (hc1 0 hpos 4 (by decide)); simpa [V.cells, hd] using this
      · have := (hz.cell (p := ⟨b1, o1 + 0 * 6 + 5, none⟩) hb1).trans (hc1 0 hpos 5 (by decide)); simpa [V.cells, hd] using this
  have HK := Lib.hid hk0
  have HR := Lib.hid hr
  have HT := Lib.hid ta
  clear hs hc1 hk0 hr ta ho
  have CON : Hid (∀ iv D B z0, TellsB z0 B iv l D → (∀ z, Calls Try.prog 15 #[.agg #[iv]] z fun e w' => e = .returned (.tuple #[(.int .i64 0), .bool false]) ∧ Ext z w') ∧ (∀ z, Calls Try.prog 29 #[.agg #[iv]] z fun e w' => e = .returned (.tuple #[(.string ⟨#[]⟩), .bool false]) ∧ Ext z w') ∧ (∀ z, Calls Try.prog 30 #[.agg #[iv]] z fun e w' => e = .returned (.tuple #[(.bool ((hd l).n == 1)), .bool true]) ∧ Ext z w') ∧ (∀ z, Calls Try.prog 31 #[.agg #[iv]] z fun e w' => e = .returned (.tuple #[(.agg #[.int .i64 0, .int .i64 0, .int .i64 0]), .bool false]) ∧ Ext z w') ∧ (∀ z, Calls Try.prog 32 #[.agg #[iv], .int .i64 3] z fun e w' => e = .returned (.bool true) ∧ Ext z w')) := Lib.hid (by
    intro iv D B z0 ht
    refine ⟨?_, ?_, ?_, ?_, ?_⟩
    · exact fun z => (thingInt_any iv l D z0 B ht z).mono fun e w' hh => ⟨hh.1.trans (by simp [hk]), hh.2⟩
    · exact fun z => (thingText_any iv l D z0 B ht z).mono fun e w' hh => ⟨hh.1.trans (by simp [hk]), hh.2⟩
    · exact fun z => (thingFlag_any iv l D z0 B ht z).mono fun e w' hh => ⟨hh.1.trans (by simp [hk]), hh.2⟩
    · exact fun z => (thingDate_any iv l D z0 B ht z).mono fun e w' hh => ⟨hh.1.trans (by simp [hk]), hh.2⟩
    · exact fun z => by have := must_any iv l D z0 B ht z; rw [hk] at this; exact this)
  have LST : Hid (∀ iv D z, TellsB z z.heap.size iv l D → Calls Try.prog 11 #[.agg #[iv]] z fun e w' => ∃ (a : Option Addr) (c n : Nat), e = .returned (.tuple #[.slice a n c, .bool false]) ∧ n ≤ 1000000000 ∧ (n : Int) = 0 ∧ Ext z w') := Lib.hid (by
    intro iv D z ht
    refine (thingList2 z ht (by omega)).mono ?_
    rintro e w' ⟨a, c, n, rfl, h1, h2, h3⟩
    exact ⟨a, c, n, by simp [hk], h1, by rw [h2]; simp [hk], h3⟩)
  clear hk hne
  go_enter Try.func9, Try.ntmps9
  go_wp2_with (first
    | (go_at_call 21; with_reducible refine (HR.out _ (Ext.refl _)).mono ?_; rintro e x0 ⟨rfl, hx0⟩)
    | (go_at_call 25; with_reducible refine (HT.out _ hx0).mono ?_; rintro e x1 ⟨iu, D1, rfl, t1, hD1, hx1⟩; have st1 : (store ⟨x1.heap.size, 0, none⟩ iu).run Try.prog (x1.alloc (.cells #[.nilIface] 25)) = .ok () (x1.alloc (.cells #[iu] 25)) := (by rcases t1.form with rfl | ⟨_, _, rfl⟩ <;> simp [go_sem]); have hX1 : Ext w (x1.alloc (.cells #[iu] 25)) := (hx0.trans hx1).alloc _; have T1 := Lib.hid t1.b; have BK := Lib.hid (new_blk x1 (.cells #[iu] 25)); obtain ⟨Q1, Q2, Q3, Q4, QM⟩ := CON.out _ _ _ _ T1.out; have Q1 := Lib.hid Q1; have Q2 := Lib.hid Q2; have Q3 := Lib.hid Q3; have Q4 := Lib.hid Q4; have QM := Lib.hid QM; obtain ⟨l0, l1, l2, l3, l4, l5⟩ := HK.out _ hX1; clear t1 hx0 hx1)
    | (go_at_call 15; (refine (Q1.out _).mono ?_); rintro e y1 ⟨rfl, hy1⟩; have B1 := Lib.hid (ext_blk hy1 BK.out); obtain ⟨d1, _⟩ := blk B1.out 0 _ rfl; clear l0 l1 l2 l3 l4 l5 st1)
    | (go_at_call 29; (refine (Q2.out _).mono ?_); rintro e y2 ⟨rfl, hy2⟩; have B2 := Lib.hid (ext_blk hy2 B1.out); obtain ⟨d2, _⟩ := blk B2.out 0 _ rfl; clear d1)
    | (go_at_call 30; (refine (Q3.out _).mono ?_); rintro e y3 ⟨rfl, hy3⟩; have B3 := Lib.hid (ext_blk hy3 B2.out); obtain ⟨d3, _⟩ := blk B3.out 0 _ rfl; clear d2)
    | (go_at_call 31; (refine (Q4.out _).mono ?_); rintro e y4 ⟨rfl, hy4⟩; have B4 := Lib.hid (ext_blk hy4 B3.out); obtain ⟨d4, _⟩ := blk B4.out 0 _ rfl; have hY4 := hX1.trans (hy1.trans (hy2.trans (hy3.trans hy4))); have z4 := blk_lt B4.out; clear d3)
    | (go_at_call 11; (refine (LST.out _ _ _ (T1.out.ext (Ext.trans ((Ext.refl x1).alloc _) (hy1.trans (hy2.trans (hy3.trans (hy4.alloc _))))))).mono ?_); rintro e y5 ⟨am, cm, nm, rfl, hnm, hnn, hy5⟩; have B5 := Lib.hid (ext_blk hy5 (alloc_blk B4.out)); obtain ⟨d5, _⟩ := blk B5.out 0 _ rfl; have B6 := Lib.hid (ext_blk hy5 (new_blk y4 _)); obtain ⟨e0, _⟩ := blk B6.out 0 _ rfl; obtain ⟨e1, _⟩ := blk B6.out 1 _ rfl; obtain ⟨e2, _⟩ := blk B6.out 2 _ rfl; have hY5 : Ext w y5 := Ext.trans (hY4.alloc _) hy5; obtain ⟨l0, l1, l2, l3, l4, l5⟩ := HK.out _ hY5; clear d4))
  clear CON LST HK HR HT Q1 Q2 Q3 Q4
  clear BK B1 B2 B3 B4 B5 B6 T1
  simp only [List.getElem_toArray, List.getElem_cons_zero, List.getElem_cons_succ] at d5 e0 e1 e2
  dsimp only [List.append]
  refine wp_region_quiet_lit (by kernel_rfl) (lexB_of _ _ (by kernel_rfl) rfl (by as_aux_lemma => kernel_rfl)) ?_
  repeat (go_big_quiet_step (fail))
  refine wpQuiet_nil ?_
  intro _ hw'
  obtain ⟨nq, hw''⟩ := hw'
  subst hw''
  go_wp2_with (first
    | (go_at_call 32; (refine (QM.out _).mono ?_); rintro e y6 ⟨rfl, hy6⟩)
    | (go_at_call 3; refine (kindRuns_any _).mono ?_; rintro e y7 ⟨rfl, hy7⟩))
  go_ret
  exact ⟨rfl, (Ext.drewN hY5 _).trans (hy6.trans hy7)⟩
set_option maxHeartbeats 16000000 in
set_option maxRecDepth 100000 in
theorem takes_4 (l : List V) (hk : kindOf l = 4) (v : Value) (w : World) (hl : SlC w w.heap.size v l) (ho : ofP l = 0) : Calls Try.prog 9 #[v] w fun e w' => e = .returned (.bool true) ∧ Ext w w' := by
  have hr := fun w1 (h : Ext w w1) => refOf_any l v w.heap.size w1 h.size (hl.keep h)
  rw [ho] at hr
  have ta := fun w1 (h : Ext w w1) => thing_ok l v w.heap.size w1 h.size (hl.keep h) ho
  obtain ⟨hne, hlm⟩ := ofP_few ho
  obtain ⟨a, cap, rfl, hlc, hcm, hs⟩ := hl
  have hpos : 0 < l.length := List.length_pos_iff.2 hne
  have hli : ((l.length : Int) == 0) = false := by simp; omega
  obtain ⟨b1, o1, rfl, hb1, hc1⟩ := SlS.at_ V.len (show SlS V.cells 6 w _ l from hs) hpos (by decide)
  have hk0 : ∀ z, Ext w z → z.cell? ⟨b1, o1, none⟩ = some (.int .i64 4) ∧ z.cell? ⟨b1, o1 + 1, none⟩ = some (.int .i64 (hd l).n) ∧ z.cell? ⟨b1, o1 + 2, none⟩ = some (.string (hd l).text) ∧ z.cell? ⟨b1, o1 + 3, none⟩ = some (.int .i64 (hd l).y) ∧ z.cell? ⟨b1, o1 + 4, none⟩ = some (.int .i64 (hd l).m) ∧ z.cell? ⟨b1, o1 + 5, none⟩ = some (.int .i64 (hd l).d) := by
    rw [← hk]
    cases l with
    | nil => exact absurd rfl hne
    | cons x t =>
      intro z hz
      refine ⟨?_, ?_, ?_, ?_, ?_, ?_⟩
      · have := (hz.cell (p := ⟨b1, o1 + 0 * 6 + 0, none⟩) hb1).trans (hc1 0 hpos 0 (by decide)); simpa [V.cells, kindOf] using this
      · have := (hz.cell (p := ⟨b1, o1 + 0 * 6 + 1, none⟩) hb1).trans (hc1 0 hpos 1 (by decide)); simpa [V.cells, hd] using this
      · have := (hz.cell (p := ⟨b1, o1 + 0 * 6 + 2, none⟩) hb1).trans (hc1 0 hpos 2 (by decide)); simpa [V.cells, hd] using this
      · have := (hz.cell (p := ⟨b1, o1 + 0 * 6 + 3, none⟩) hb1).trans (hc1 0 hpos 3 (by decide)); simpa [V.cells, hd] using this
      · have := (hz.cell (p := ⟨b1, o1 + 0 * 6 + 4, none⟩) hb1).trans (hc1 0 hpos 4 (by decide)); simpa [V.cells, hd] using this
      · have := (hz.cell (p := ⟨b1, o1 + 0 * 6 + 5, none⟩) hb1).trans (hc1 0 hpos 5 (by decide)); simpa [V.cells, hd] using this
  have HK := Lib.hid hk0
  have HR := Lib.hid hr
  have HT := Lib.hid ta
  clear hs hc1 hk0 hr ta ho
  have CON : Hid (∀ iv D B z0, TellsB z0 B iv l D → (∀ z, Calls Try.prog 15 #[.agg #[iv]] z fun e w' => e = .returned (.tuple #[(.int .i64 0), .bool false]) ∧ Ext z w') ∧ (∀ z, Calls Try.prog 29 #[.agg #[iv]] z fun e w' => e = .returned (.tuple #[(.string ⟨#[]⟩), .bool false]) ∧ Ext z w') ∧ (∀ z, Calls Try.prog 30 #[.agg #[iv]] z fun e w' => e = .returned (.tuple #[(.bool false), .bool false]) ∧ Ext z w') ∧ (∀ z, Calls Try.prog 31 #[.agg #[iv]] z fun e w' => e = .returned (.tuple #[(.agg #[.int .i64 (hd l).y, .int .i64 (hd l).m, .int .i64 (hd l).d]), .bool true]) ∧ Ext z w') ∧ (∀ z, Calls Try.prog 32 #[.agg #[iv], .int .i64 4] z fun e w' => e = .returned (.bool true) ∧ Ext z w')) := Lib.hid (by
    intro iv D B z0 ht
    refine ⟨?_, ?_, ?_, ?_, ?_⟩
    · exact fun z => (thingInt_any iv l D z0 B ht z).mono fun e w' hh => ⟨hh.1.trans (by simp [hk]), hh.2⟩
    · exact fun z => (thingText_any iv l D z0 B ht z).mono fun e w' hh => ⟨hh.1.trans (by simp [hk]), hh.2⟩
    · exact fun z => (thingFlag_any iv l D z0 B ht z).mono fun e w' hh => ⟨hh.1.trans (by simp [hk]), hh.2⟩
    · exact fun z => (thingDate_any iv l D z0 B ht z).mono fun e w' hh => ⟨hh.1.trans (by simp [hk]), hh.2⟩
    · exact fun z => by have := must_any iv l D z0 B ht z; rw [hk] at this; exact this)
  have LST : Hid (∀ iv D z, TellsB z z.heap.size iv l D → Calls Try.prog 11 #[.agg #[iv]] z fun e w' => ∃ (a : Option Addr) (c n : Nat), e = .returned (.tuple #[.slice a n c, .bool false]) ∧ n ≤ 1000000000 ∧ (n : Int) = 0 ∧ Ext z w') := Lib.hid (by
    intro iv D z ht
    refine (thingList2 z ht (by omega)).mono ?_
    rintro e w' ⟨a, c, n, rfl, h1, h2, h3⟩
    exact ⟨a, c, n, by simp [hk], h1, by rw [h2]; simp [hk], h3⟩)
  clear hk hne
  go_enter Try.func9, Try.ntmps9
  go_wp2_with (first
    | (go_at_call 21; with_reducible refine (HR.out _ (Ext.refl _)).mono ?_; rintro e x0 ⟨rfl, hx0⟩)
    | (go_at_call 25; with_reducible refine (HT.out _ hx0).mono ?_; rintro e x1 ⟨iu, D1, rfl, t1, hD1, hx1⟩; have st1 : (store ⟨x1.heap.size, 0, none⟩ iu).run Try.prog (x1.alloc (.cells #[.nilIface] 25)) = .ok () (x1.alloc (.cells #[iu] 25)) := (by rcases t1.form with rfl | ⟨_, _, rfl⟩ <;> simp [go_sem]); have hX1 : Ext w (x1.alloc (.cells #[iu] 25)) := (hx0.trans hx1).alloc _; have T1 := Lib.hid t1.b; have BK := Lib.hid (new_blk x1 (.cells #[iu] 25)); obtain ⟨Q1, Q2, Q3, Q4, QM⟩ := CON.out _ _ _ _ T1.out; have Q1 := Lib.hid Q1; have Q2 := Lib.hid Q2; have Q3 := Lib.hid Q3; have Q4 := Lib.hid Q4; have QM := Lib.hid QM; obtain ⟨l0, l1, l2, l3, l4, l5⟩ := HK.out _ hX1; clear t1 hx0 hx1)
    | (go_at_call 15; (refine (Q1.out _).mono ?_); rintro e y1 ⟨rfl, hy1⟩; have B1 := Lib.hid (ext_blk hy1 BK.out); obtain ⟨d1, _⟩ := blk B1.out 0 _ rfl; clear l0 l1 l2 l3 l4 l5 st1)
    | (go_at_call 29; (refine (Q2.out _).mono ?_); rintro e y2 ⟨rfl, hy2⟩; have B2 := Lib.hid (ext_blk hy2 B1.out); obtain ⟨d2, _⟩ := blk B2.out 0 _ rfl; clear d1)
    | (go_at_call 30; (refine (Q3.out _).mono ?_); rintro e y3 ⟨rfl, hy3⟩; have B3 := Lib.hid (ext_blk hy3 B2.out); obtain ⟨d3, _⟩ := blk B3.out 0 _ rfl; clear d2)
    | (go_at_call 31; (refine (Q4.out _).mono ?_); rintro e y4 ⟨rfl, hy4⟩; have B4 := Lib.hid (ext_blk hy4 B3.out); obtain ⟨d4, _⟩ := blk B4.out 0 _ rfl; have hY4 := hX1.trans (hy1.trans (hy2.trans (hy3.trans hy4))); have z4 := blk_lt B4.out; clear d3)
    | (go_at_call 11; (refine (LST.out _ _ _ (T1.out.ext (Ext.trans ((Ext.refl x1).alloc _) (hy1.trans (hy2.trans (hy3.trans (hy4.alloc _))))))).mono ?_); rintro e y5 ⟨am, cm, nm, rfl, hnm, hnn, hy5⟩; have B5 := Lib.hid (ext_blk hy5 (alloc_blk B4.out)); obtain ⟨d5, _⟩ := blk B5.out 0 _ rfl; have B6 := Lib.hid (ext_blk hy5 (new_blk y4 _)); obtain ⟨e0, _⟩ := blk B6.out 0 _ rfl; obtain ⟨e1, _⟩ := blk B6.out 1 _ rfl; obtain ⟨e2, _⟩ := blk B6.out 2 _ rfl; have hY5 : Ext w y5 := Ext.trans (hY4.alloc _) hy5; obtain ⟨l0, l1, l2, l3, l4, l5⟩ := HK.out _ hY5; clear d4))
  clear CON LST HK HR HT Q1 Q2 Q3 Q4
  clear BK B1 B2 B3 B4 B5 B6 T1
  simp only [List.getElem_toArray, List.getElem_cons_zero, List.getElem_cons_succ] at d5 e0 e1 e2
  dsimp only [List.append]
  refine wp_region_quiet_lit (by kernel_rfl) (lexB_of _ _ (by kernel_rfl) rfl (by as_aux_lemma => kernel_rfl)) ?_
  repeat (go_big_quiet_step (fail))
  refine wpQuiet_nil ?_
  intro _ hw'
  obtain ⟨nq, hw''⟩ := hw'
  subst hw''
  go_wp2_with (first
    | (go_at_call 32; (refine (QM.out _).mono ?_); rintro e y6 ⟨rfl, hy6⟩)
    | (go_at_call 3; refine (kindRuns_any _).mono ?_; rintro e y7 ⟨rfl, hy7⟩))
  go_ret
  exact ⟨rfl, (Ext.drewN hY5 _).trans (hy6.trans hy7)⟩
set_option maxHeartbeats 16000000 in
set_option maxRecDepth 100000 in
theorem takes_5 (l : List V) (hk : kindOf l = 5) (v : Value) (w : World) (hl : SlC w w.heap.size v l) (ho : ofP l = 0) : Calls Try.prog 9 #[v] w fun e w' => e = .returned (.bool true) ∧ Ext w w' := by
  have hr := fun w1 (h : Ext w w1) => refOf_any l v w.heap.size w1 h.size (hl.keep h)
  rw [ho] at hr
  have ta := fun w1 (h : Ext w w1) => thing_ok l v w.heap.size w1 h.size (hl.keep h) ho
  obtain ⟨hne, hlm⟩ := ofP_few ho
  obtain ⟨a, cap, rfl, hlc, hcm, hs⟩ := hl
  have hpos : 0 < l.length := List.length_pos_iff.2 hne
  have hli : ((l.length : Int) == 0) = false := by simp; omega
  obtain ⟨b1, o1, rfl, hb1, hc1⟩ := SlS.at_ V.len (show SlS V.cells 6 w _ l from hs) hpos (by decide)
  have hk0 : ∀ z, Ext w z → z.cell? ⟨b1, o1, none⟩ = some (.int .i64 5) ∧ z.cell? ⟨b1, o1 + 1, none⟩ = some (.int .i64 (hd l).n) ∧ z.cell? ⟨b1, o1 + 2, none⟩ = some (.string (hd l).text) ∧ z.cell? ⟨b1, o1 + 3, none⟩ = some (.int .i64 (hd l).y) ∧ z.cell? ⟨b1, o1 + 4, none⟩ = some (.int .i64 (hd l).m) ∧ z.cell? ⟨b1, o1 + 5, none⟩ = some (.int .i64 (hd l).d) := by
    rw [← hk]
    cases l with
    | nil => exact absurd rfl hne
    | cons x t =>
      intro z hz
      refine ⟨?_, ?_, ?_, ?_, ?_, ?_⟩
      · have := (hz.cell (p := ⟨b1, o1 + 0 * 6 + 0, none⟩) hb1).trans (hc1 0 hpos 0 (by decide)); simpa [V.cells, kindOf] using this
      · have := (hz.cell (p := ⟨b1, o1 + 0 * 6 + 1, none⟩) hb1).trans (hc1 0 hpos 1 (by decide)); simpa [V.cells, hd] using this
      · have := (hz.cell (p := ⟨b1, o1 + 0 * 6 + 2, none⟩) hb1).trans (hc1 0 hpos 2 (by decide)); simpa [V.cells, hd] using this
      · have := (hz.cell (p := ⟨b1, o1 + 0 * 6 + 3, none⟩) hb1).trans (hc1 0 hpos 3 (by decide)); simpa [V.cells, hd] using this
      · have := (hz.cell (p := ⟨b1, o1 + 0 * 6 + 4, none⟩) hb1).trans (hc1 0 hpos 4 (by decide)); simpa [V.cells, hd] using this
      · have := (hz.cell (p := ⟨b1, o1 + 0 * 6 + 5, none⟩) hb1).trans (hc1 0 hpos 5 (by decide)); simpa [V.cells, hd] using this
  have HK := Lib.hid hk0
  have HR := Lib.hid hr
  have HT := Lib.hid ta
  clear hs hc1 hk0 hr ta ho
  have CON : Hid (∀ iv D B z0, TellsB z0 B iv l D → (∀ z, Calls Try.prog 15 #[.agg #[iv]] z fun e w' => e = .returned (.tuple #[(.int .i64 0), .bool false]) ∧ Ext z w') ∧ (∀ z, Calls Try.prog 29 #[.agg #[iv]] z fun e w' => e = .returned (.tuple #[(.string ⟨#[]⟩), .bool false]) ∧ Ext z w') ∧ (∀ z, Calls Try.prog 30 #[.agg #[iv]] z fun e w' => e = .returned (.tuple #[(.bool false), .bool false]) ∧ Ext z w') ∧ (∀ z, Calls Try.prog 31 #[.agg #[iv]] z fun e w' => e = .returned (.tuple #[(.agg #[.int .i64 0, .int .i64 0, .int .i64 0]), .bool false]) ∧ Ext z w') ∧ (∀ z, Calls Try.prog 32 #[.agg #[iv], .int .i64 5] z fun e w' => e = .returned (.bool true) ∧ Ext z w')) := Lib.hid (by
    intro iv D B z0 ht
    refine ⟨?_, ?_, ?_, ?_, ?_⟩
    · exact fun z => (thingInt_any iv l D z0 B ht z).mono fun e w' hh => ⟨hh.1.trans (by simp [hk]), hh.2⟩
    · exact fun z => (thingText_any iv l D z0 B ht z).mono fun e w' hh => ⟨hh.1.trans (by simp [hk]), hh.2⟩
    · exact fun z => (thingFlag_any iv l D z0 B ht z).mono fun e w' hh => ⟨hh.1.trans (by simp [hk]), hh.2⟩
    · exact fun z => (thingDate_any iv l D z0 B ht z).mono fun e w' hh => ⟨hh.1.trans (by simp [hk]), hh.2⟩
    · exact fun z => by have := must_any iv l D z0 B ht z; rw [hk] at this; exact this)
  have LST : Hid (∀ iv D z, TellsB z z.heap.size iv l D → Calls Try.prog 11 #[.agg #[iv]] z fun e w' => ∃ (a : Option Addr) (c n : Nat), e = .returned (.tuple #[.slice a n c, .bool true]) ∧ n ≤ 1000000000 ∧ (n : Int) = (hd l).n ∧ Ext z w') := Lib.hid (by
    intro iv D z ht
    refine (thingList2 z ht (by omega)).mono ?_
    rintro e w' ⟨a, c, n, rfl, h1, h2, h3⟩
    exact ⟨a, c, n, by simp [hk], h1, by rw [h2]; simp [hk], h3⟩)
  clear hk hne
  go_enter Try.func9, Try.ntmps9
  go_wp2_with (first
    | (go_at_call 21; with_reducible refine (HR.out _ (Ext.refl _)).mono ?_; rintro e x0 ⟨rfl, hx0⟩)
    | (go_at_call 25; with_reducible refine (HT.out _ hx0).mono ?_; rintro e x1 ⟨iu, D1, rfl, t1, hD1, hx1⟩; have st1 : (store ⟨x1.heap.size, 0, none⟩ iu).run Try.prog (x1.alloc (.cells #[.nilIface] 25)) = .ok () (x1.alloc (.cells #[iu] 25)) := (by rcases t1.form with rfl | ⟨_, _, rfl⟩ <;> simp [go_sem]); have hX1 : Ext w (x1.alloc (.cells #[iu] 25)) := (hx0.trans hx1).alloc _; have T1 := Lib.hid t1.b; have BK := Lib.hid (new_blk x1 (.cells #[iu] 25)); obtain ⟨Q1, Q2, Q3, Q4, QM⟩ := CON.out _ _ _ _ T1.out; have Q1 := Lib.hid Q1; have Q2 := Lib.hid Q2; have Q3 := Lib.hid Q3; have Q4 := Lib.hid Q4; have QM := Lib.hid QM; obtain ⟨l0, l1, l2, l3, l4, l5⟩ := HK.out _ hX1; clear t1 hx0 hx1)
    | (go_at_call 15; (refine (Q1.out _).mono ?_); rintro e y1 ⟨rfl, hy1⟩; have B1 := Lib.hid (ext_blk hy1 BK.out); obtain ⟨d1, _⟩ := blk B1.out 0 _ rfl; clear l0 l1 l2 l3 l4 l5 st1)
    | (go_at_call 29; (refine (Q2.out _).mono ?_); rintro e y2 ⟨rfl, hy2⟩; have B2 := Lib.hid (ext_blk hy2 B1.out); obtain ⟨d2, _⟩ := blk B2.out 0 _ rfl; clear d1)
    | (go_at_call 30; (refine (Q3.out _).mono ?_); rintro e y3 ⟨rfl, hy3⟩; have B3 := Lib.hid (ext_blk hy3 B2.out); obtain ⟨d3, _⟩ := blk B3.out 0 _ rfl; clear d2)
    | (go_at_call 31; (refine (Q4.out _).mono ?_); rintro e y4 ⟨rfl, hy4⟩; have B4 := Lib.hid (ext_blk hy4 B3.out); obtain ⟨d4, _⟩ := blk B4.out 0 _ rfl; have hY4 := hX1.trans (hy1.trans (hy2.trans (hy3.trans hy4))); have z4 := blk_lt B4.out; clear d3)
    | (go_at_call 11; (refine (LST.out _ _ _ (T1.out.ext (Ext.trans ((Ext.refl x1).alloc _) (hy1.trans (hy2.trans (hy3.trans (hy4.alloc _))))))).mono ?_); rintro e y5 ⟨am, cm, nm, rfl, hnm, hnn, hy5⟩; have B5 := Lib.hid (ext_blk hy5 (alloc_blk B4.out)); obtain ⟨d5, _⟩ := blk B5.out 0 _ rfl; have B6 := Lib.hid (ext_blk hy5 (new_blk y4 _)); obtain ⟨e0, _⟩ := blk B6.out 0 _ rfl; obtain ⟨e1, _⟩ := blk B6.out 1 _ rfl; obtain ⟨e2, _⟩ := blk B6.out 2 _ rfl; have hY5 : Ext w y5 := Ext.trans (hY4.alloc _) hy5; obtain ⟨l0, l1, l2, l3, l4, l5⟩ := HK.out _ hY5; clear d4))
  clear CON LST HK HR HT Q1 Q2 Q3 Q4
  clear BK B1 B2 B3 B4 B5 B6 T1
  simp only [List.getElem_toArray, List.getElem_cons_zero, List.getElem_cons_succ] at d5 e0 e1 e2
  dsimp only [List.append]
  refine wp_region_quiet_lit (by kernel_rfl) (lexB_of _ _ (by kernel_rfl) rfl (by as_aux_lemma => kernel_rfl)) ?_
  repeat (go_big_quiet_step (fail))
  refine wpQuiet_nil ?_
  intro _ hw'
  obtain ⟨nq, hw''⟩ := hw'
  subst hw''
  go_wp2_with (first
    | (go_at_call 32; (refine (QM.out _).mono ?_); rintro e y6 ⟨rfl, hy6⟩)
    | (go_at_call 3; refine (kindRuns_any _).mono ?_; rintro e y7 ⟨rfl, hy7⟩))
  go_ret
  exact ⟨rfl, (Ext.drewN hY5 _).trans (hy6.trans hy7)⟩
set_option maxHeartbeats 16000000 in
set_option maxRecDepth 100000 in
theorem takes_k (l : List V) (k : Int) (hk : kindOf l = k) (m1 : k ≠ 1) (m2 : k ≠ 2) (m3 : k ≠ 3) (m4 : k ≠ 4) (m5 : k ≠ 5) (v : Value) (w : World) (hl : SlC w w.heap.size v l) (ho : ofP l = 0) : Calls Try.prog 9 #[v] w fun e w' => e = .returned (.bool true) ∧ Ext w w' := by
  have hr := fun w1 (h : Ext w w1) => refOf_any l v w.heap.size w1 h.size (hl.keep h)
  rw [ho] at hr
  have ta := fun w1 (h : Ext w w1) => thing_ok l v w.heap.size w1 h.size (hl.keep h) ho
  obtain ⟨hne, hlm⟩ := ofP_few ho
  obtain ⟨a, cap, rfl, hlc, hcm, hs⟩ := hl
  have hpos : 0 < l.length := List.length_pos_iff.2 hne
  have hli : ((l.length : Int) == 0) = false := by simp; omega
  obtain ⟨b1, o1, rfl, hb1, hc1⟩ := SlS.at_ V.len (show SlS V.cells 6 w _ l from hs) hpos (by decide)
  have hk0 : ∀ z, Ext w z → z.cell? ⟨b1, o1, none⟩ = some (.int .i64 k) ∧ z.cell? ⟨b1, o1 + 1, none⟩ = some (.int .i64 (hd l).n) ∧ z.cell? ⟨b1, o1 + 2, none⟩ = some (.string (hd l).text) ∧ z.cell? ⟨b1, o1 + 3, none⟩ = some (.int .i64 (hd l).y) ∧ z.cell? ⟨b1, o1 + 4, none⟩ = some (.int .i64 (hd l).m) ∧ z.cell? ⟨b1, o1 + 5, none⟩ = some (.int .i64 (hd l).d) := by
    rw [← hk]
    cases l with
    | nil => exact absurd rfl hne
    | cons x t =>
      intro z hz
      refine ⟨?_, ?_, ?_, ?_, ?_, ?_⟩
      · have := (hz.cell (p := ⟨b1, o1 + 0 * 6 + 0, none⟩) hb1).trans (hc1 0 hpos 0 (by decide)); simpa [V.cells, kindOf] using this
      · have := (hz.cell (p := ⟨b1, o1 + 0 * 6 + 1, none⟩) hb1).trans (hc1 0 hpos 1 (by decide)); simpa [V.cells, hd] using this
      · have := (hz.cell (p := ⟨b1, o1 + 0 * 6 + 2, none⟩) hb1).trans (hc1 0 hpos 2 (by decide)); simpa [V.cells, hd] using this
      · have := (hz.cell (p := ⟨b1, o1 + 0 * 6 + 3, none⟩) hb1).trans (hc1 0 hpos 3 (by decide)); simpa [V.cells, hd] using this
      · have := (hz.cell (p := ⟨b1, o1 + 0 * 6 + 4, none⟩) hb1).trans (hc1 0 hpos 4 (by decide)); simpa [V.cells, hd] using this
      · have := (hz.cell (p := ⟨b1, o1 + 0 * 6 + 5, none⟩) hb1).trans (hc1 0 hpos 5 (by decide)); simpa [V.cells, hd] using this
  have HK := Lib.hid hk0
  have HR := Lib.hid hr
  have HT := Lib.hid ta
  clear hs hc1 hk0 hr ta ho
  have CON : Hid (∀ iv D B z0, TellsB z0 B iv l D → (∀ z, Calls Try.prog 15 #[.agg #[iv]] z fun e w' => e = .returned (.tuple #[(.int .i64 0), .bool false]) ∧ Ext z w') ∧ (∀ z, Calls Try.prog 29 #[.agg #[iv]] z fun e w' => e = .returned (.tuple #[(.string ⟨#[]⟩), .bool false]) ∧ Ext z w') ∧ (∀ z, Calls Try.prog 30 #[.agg #[iv]] z fun e w' => e = .returned (.tuple #[(.bool false), .bool false]) ∧ Ext z w') ∧ (∀ z, Calls Try.prog 31 #[.agg #[iv]] z fun e w' => e = .returned (.tuple #[(.agg #[.int .i64 0, .int .i64 0, .int .i64 0]), .bool false]) ∧ Ext z w') ∧ (∀ z, Calls Try.prog 32 #[.agg #[iv], .int .i64 k] z fun e w' => e = .returned (.bool true) ∧ Ext z w')) := Lib.hid (by
    intro iv D B z0 ht
    refine ⟨?_, ?_, ?_, ?_, ?_⟩
    · exact fun z => (thingInt_any iv l D z0 B ht z).mono fun e w' hh => ⟨hh.1.trans (by simp [hk, m1]), hh.2⟩
    · exact fun z => (thingText_any iv l D z0 B ht z).mono fun e w' hh => ⟨hh.1.trans (by simp [hk, m2]), hh.2⟩
    · exact fun z => (thingFlag_any iv l D z0 B ht z).mono fun e w' hh => ⟨hh.1.trans (by simp [hk, m3]), hh.2⟩
    · exact fun z => (thingDate_any iv l D z0 B ht z).mono fun e w' hh => ⟨hh.1.trans (by simp [hk, m4]), hh.2⟩
    · exact fun z => by have := must_any iv l D z0 B ht z; rw [hk] at this; exact this)
  have LST : Hid (∀ iv D z, TellsB z z.heap.size iv l D → Calls Try.prog 11 #[.agg #[iv]] z fun e w' => ∃ (a : Option Addr) (c n : Nat), e = .returned (.tuple #[.slice a n c, .bool false]) ∧ n ≤ 1000000000 ∧ (n : Int) = 0 ∧ Ext z w') := Lib.hid (by
    intro iv D z ht
    refine (thingList2 z ht (by omega)).mono ?_
    rintro e w' ⟨a, c, n, rfl, h1, h2, h3⟩
    exact ⟨a, c, n, by simp [hk, m5], h1, by rw [h2]; simp [hk, m5], h3⟩)
  have q1 : (k == 1) = false := beq_eq_false_iff_ne.2 m1
  have q2 : (k == 2) = false := beq_eq_false_iff_ne.2 m2
  have q3 : (k == 3) = false := beq_eq_false_iff_ne.2 m3
  have q4 : (k == 4) = false := beq_eq_false_iff_ne.2 m4
  have q5 : (k == 5) = false := beq_eq_false_iff_ne.2 m5
  clear m1 m2 m3 m4 m5
  clear hk hne
  go_enter Try.func9, Try.ntmps9
  go_wp2_with (first
    | (go_at_call 21; with_reducible refine (HR.out _ (Ext.refl _)).mono ?_; rintro e x0 ⟨rfl, hx0⟩)
    | (go_at_call 25; with_reducible refine (HT.out _ hx0).mono ?_; rintro e x1 ⟨iu, D1, rfl, t1, hD1, hx1⟩; have st1 : (store ⟨x1.heap.size, 0, none⟩ iu).run Try.prog (x1.alloc (.cells #[.nilIface] 25)) = .ok () (x1.alloc (.cells #[iu] 25)) := (by rcases t1.form with rfl | ⟨_, _, rfl⟩ <;> simp [go_sem]); have hX1 : Ext w (x1.alloc (.cells #[iu] 25)) := (hx0.trans hx1).alloc _; have T1 := Lib.hid t1.b; have BK := Lib.hid (new_blk x1 (.cells #[iu] 25)); obtain ⟨Q1, Q2, Q3, Q4, QM⟩ := CON.out _ _ _ _ T1.out; have Q1 := Lib.hid Q1; have Q2 := Lib.hid Q2; have Q3 := Lib.hid Q3; have Q4 := Lib.hid Q4; have QM := Lib.hid QM; obtain ⟨l0, l1, l2, l3, l4, l5⟩ := HK.out _ hX1; clear t1 hx0 hx1)
    | (go_at_call 15; (refine (Q1.out _).mono ?_); rintro e y1 ⟨rfl, hy1⟩; have B1 := Lib.hid (ext_blk hy1 BK.out); obtain ⟨d1, _⟩ := blk B1.out 0 _ rfl; clear l0 l1 l2 l3 l4 l5 st1)
    | (go_at_call 29; (refine (Q2.out _).mono ?_); rintro e y2 ⟨rfl, hy2⟩; have B2 := Lib.hid (ext_blk hy2 B1.out); obtain ⟨d2, _⟩ := blk B2.out 0 _ rfl; clear d1)
    | (go_at_call 30; (refine (Q3.out _).mono ?_); rintro e y3 ⟨rfl, hy3⟩; have B3 := Lib.hid (ext_blk hy3 B2.out); obtain ⟨d3, _⟩ := blk B3.out 0 _ rfl; clear d2)
    | (go_at_call 31; (refine (Q4.out _).mono ?_); rintro e y4 ⟨rfl, hy4⟩; have B4 := Lib.hid (ext_blk hy4 B3.out); obtain ⟨d4, _⟩ := blk B4.out 0 _ rfl; have hY4 := hX1.trans (hy1.trans (hy2.trans (hy3.trans hy4))); have z4 := blk_lt B4.out; clear d3)
    | (go_at_call 11; (refine (LST.out _ _ _ (T1.out.ext (Ext.trans ((Ext.refl x1).alloc _) (hy1.trans (hy2.trans (hy3.trans (hy4.alloc _))))))).mono ?_); rintro e y5 ⟨am, cm, nm, rfl, hnm, hnn, hy5⟩; have B5 := Lib.hid (ext_blk hy5 (alloc_blk B4.out)); obtain ⟨d5, _⟩ := blk B5.out 0 _ rfl; have B6 := Lib.hid (ext_blk hy5 (new_blk y4 _)); obtain ⟨e0, _⟩ := blk B6.out 0 _ rfl; obtain ⟨e1, _⟩ := blk B6.out 1 _ rfl; obtain ⟨e2, _⟩ := blk B6.out 2 _ rfl; have hY5 : Ext w y5 := Ext.trans (hY4.alloc _) hy5; obtain ⟨l0, l1, l2, l3, l4, l5⟩ := HK.out _ hY5; clear d4))
  clear CON LST HK HR HT Q1 Q2 Q3 Q4
  clear BK B1 B2 B3 B4 B5 B6 T1
  simp only [List.getElem_toArray, List.getElem_cons_zero, List.getElem_cons_succ] at d5 e0 e1 e2
  dsimp only [List.append]
  refine wp_region_quiet_lit (by kernel_rfl) (lexB_of _ _ (by kernel_rfl) rfl (by as_aux_lemma => kernel_rfl)) ?_
  repeat (go_big_quiet_step (fail))
  refine wpQuiet_nil ?_
  intro _ hw'
  obtain ⟨nq, hw''⟩ := hw'
  subst hw''
  go_wp2_with (first
    | (go_at_call 32; (refine (QM.out _).mono ?_); rintro e y6 ⟨rfl, hy6⟩)
    | (go_at_call 3; refine (kindRuns_any _).mono ?_; rintro e y7 ⟨rfl, hy7⟩))
  go_ret
  exact ⟨rfl, (Ext.drewN hY5 _).trans (hy6.trans hy7)⟩

set_option maxHeartbeats 2000000 in
set_option maxRecDepth 100000 in
theorem takes_any (l : List V) (v : Value) (w : World) (hl : SlC w w.heap.size v l) : Calls Try.prog 9 #[v] w fun e w' => e = .returned (.bool true) ∧ Ext w w' := by
  by_cases ho : ofP l = 0
  · by_cases h1 : kindOf l = 1
    · exact takes_1 l h1 v w hl ho
    by_cases h2 : kindOf l = 2
    · exact takes_2 l h2 v w hl ho
    by_cases h3 : kindOf l = 3
    · exact takes_3 l h3 v w hl ho
    by_cases h4 : kindOf l = 4
    · exact takes_4 l h4 v w hl ho
    by_cases h5 : kindOf l = 5
    · exact takes_5 l h5 v w hl ho
    exact takes_k l _ rfl h1 h2 h3 h4 h5 v w hl ho
  · have hr := fun w1 (h : Ext w w1) => refOf_any l v w.heap.size w1 h.size (hl.keep h)
    have hc : (ofP l != 0) = true := by simp [ho]
    obtain ⟨a, cap, rfl, _, _, _⟩ := hl
    by_cases h0 : l = []
    · subst h0
      simp only [List.length_nil] at hr
      go_enter Try.func9, Try.ntmps9
      go_wp2_with (go_at_call 3; refine (kindRuns_any _).mono ?_; rintro e x3 ⟨rfl, hx3⟩)
      go_ret
      exact ⟨rfl, hx3⟩
    · have hli : ((l.length : Int) == 0) = false := beq_eq_false_iff_ne.2 (by have := List.length_pos_iff.2 h0; omega)
      go_enter Try.func9, Try.ntmps9
      go_wp2_with (first
        | (go_at_call 21; with_reducible refine (hr _ (Ext.refl _)).mono ?_; rintro e x2 ⟨rfl, hx2⟩)
        | (go_at_call 3; refine (kindRuns_any _).mono ?_; rintro e x3 ⟨rfl, hx3⟩))
      go_ret
      exact ⟨rfl, hx2.trans hx3⟩
end Go.Proofs.Ytdojgdeadhhldaa
