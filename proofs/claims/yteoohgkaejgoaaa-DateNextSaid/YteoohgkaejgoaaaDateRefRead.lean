/- Contract of the document's ReadDate: the day that a text tells. -/
import Derived.Test.YteoohgkaejgoaaaDateRead
import Derived.Test.YteoohgkaejgoaaaDateRef
namespace Go.Proofs.Yteoohgkaejgoaaa
open Go.RowKit

theorem start_facts2 (w : World) (a0 a1 a2 b0 b1 b2 : Value) (t t' : TypeId) :
    ((w.alloc (.cells #[a0, a1, a2] t)).alloc (.cells #[b0, b1, b2] t')).cell? ⟨w.heap.size + 1, 0, none⟩ = some b0 ∧
    ((w.alloc (.cells #[a0, a1, a2] t)).alloc (.cells #[b0, b1, b2] t')).cell? ⟨w.heap.size + 1, 1, none⟩ = some b1 ∧
    ((w.alloc (.cells #[a0, a1, a2] t)).alloc (.cells #[b0, b1, b2] t')).cell? ⟨w.heap.size + 1, 2, none⟩ = some b2 ∧
    (∀ o, ((w.alloc (.cells #[a0, a1, a2] t)).alloc (.cells #[b0, b1, b2] t')).frozen? ⟨w.heap.size + 1, o, none⟩ = false) ∧
    (∀ o, ((w.alloc (.cells #[a0, a1, a2] t)).alloc (.cells #[b0, b1, b2] t')).cell? ⟨w.heap.size, o, none⟩ = (#[a0, a1, a2] : Array Value)[o]?) ∧
    (∀ o, ((w.alloc (.cells #[a0, a1, a2] t)).alloc (.cells #[b0, b1, b2] t')).frozen? ⟨w.heap.size, o, none⟩ = false) ∧
    Ext w ((w.alloc (.cells #[a0, a1, a2] t)).alloc (.cells #[b0, b1, b2] t')) ∧ w.heap.size + 1 < ((w.alloc (.cells #[a0, a1, a2] t)).alloc (.cells #[b0, b1, b2] t')).heap.size := by
  refine ⟨?_, ?_, ?_, fun o => ?_, fun o => ?_, fun o => ?_, (((Ext.refl w).alloc _).alloc _), by simp⟩
  · rw [World.cell?_alloc_at _ _ _ _ (by simp)]; rfl
  · rw [World.cell?_alloc_at _ _ _ _ (by simp)]; rfl
  · rw [World.cell?_alloc_at _ _ _ _ (by simp)]; rfl
  · rw [World.frozen?_alloc_at _ _ _ _ (by simp)]
  · rw [World.cell?_alloc_past _ _ _ (by simp), World.cell?_alloc_at _ _ _ _ rfl]
  · rw [World.frozen?_alloc_past _ _ _ (by simp), World.frozen?_alloc_at _ _ _ _ rfl]

/-- A text's byte at a place, for the walk. -/
theorem run_index_str {P : Program} (t : TypeId) (ht : P.underlying t = some .string) (s : ByteArray) (i : Nat) (h : i < s.size) (w : World) : (Instr.index t (.string s) (.int .i64 (i : Int))).run P w = .ok (.int .u8 (chr s i : Int)) w := by
  have e : s[i]? = some (s[i]'h) := ByteArray.getElem?_lt' s i h
  have e2 : (s[i]'h).toNat = chr s i := chr_at s i h
  simp [Instr.index, asIntOf, run_underlying ht, e, e2]

theorem refRight_is (y m d : Int) (w : World) (b : Bool) (h : dayB y m d = b) : Calls Try.prog 20 #[.agg #[.int .i64 y, .int .i64 m, .int .i64 d]] w fun e w' => e = .returned (.bool b) ∧ Ext w w' := by
  rw [← h]; exact refRight_any y m d w

set_option maxHeartbeats 4000000 in
theorem refRead_any (s : ByteArray) (w : World) (hs : s.size ≤ maxLen) : Calls Try.prog 17 #[.string s] w fun e w' => e = .returned (.tuple #[.agg #[.int .i64 (readR s).1, .int .i64 (readR s).2.1, .int .i64 (readR s).2.2.1], .int .i64 (readR s).2.2.2]) ∧ Ext w w' := by
  unfold maxLen at hs
  by_cases h10 : s.size = 10
  · have h10b : ((s.size : Int) != 10) = false := by rw [bne_eq_false_iff_eq]; omega
    have H10 := Lib.hid h10
    have hi4 := run_index_str (P := Try.prog) 9 Try.underlying9 s 4 (by omega)
    have hi7 := run_index_str (P := Try.prog) 9 Try.underlying9 s 7 (by omega)
    simp only [Int.cast_ofNat_Int] at hi4 hi7
    clear h10
    by_cases h4 : chr s 4 = 45
    · by_cases h7 : chr s 7 = 45
      · rw [h4] at hi4
        rw [h7] at hi7
        have H4 := Lib.hid h4
        have H7 := Lib.hid h7
        clear h4 h7
        go_enter Try.func17, Try.ntmps17
        go_wp2
        clear hi4 hi7
        go_loopw [5, 6] (fun pv iv wr => ∃ i : Nat, i ≤ 10 ∧ iv = .int .i64 i ∧ pv = .int .i64 (if i ≤ 4 then 0 else if i ≤ 7 then 1 else 2) ∧ allOk (chr s) i = true ∧ w.heap.size + 1 < wr.heap.size ∧
            wr.cell? ⟨w.heap.size + 1, 0, none⟩ = some (.int .i64 (st (chr s) i).1) ∧ wr.cell? ⟨w.heap.size + 1, 1, none⟩ = some (.int .i64 (st (chr s) i).2.1) ∧ wr.cell? ⟨w.heap.size + 1, 2, none⟩ = some (.int .i64 (st (chr s) i).2.2) ∧
            (∀ o, wr.frozen? ⟨w.heap.size + 1, o, none⟩ = false) ∧ (∀ o, o < 3 → wr.cell? ⟨w.heap.size, o, none⟩ = some (.int .i64 0)) ∧ (∀ o, wr.frozen? ⟨w.heap.size, o, none⟩ = false) ∧ Ext w wr)
          (fun _ iv _ => 10 - (intOf iv).toNat)
        case atStart =>
          obtain ⟨h2, h3, h4, h5, h6, h7, h8, h9⟩ := start_facts2 w (.int .i64 0) (.int .i64 0) (.int .i64 0) (.int .i64 0) (.int .i64 0) (.int .i64 0) 23 43
          refine ⟨0, by omega, rfl, rfl, rfl, h9, h2, h3, h4, h5, fun o ho => ?_, h7, h8⟩
          rw [h6]
          match o, ho with
          | 0, _ => rfl
          | 1, _ => rfl
          | 2, _ => rfl
        case round =>
          obtain ⟨i, hi, rfl, rfl, hok, hzz, c0, c1, c2, hf1, hr0, hf0, hx⟩ := hrel
          have r0 := hr0 0 (by decide)
          have r1 := hr0 1 (by decide)
          have r2 := hr0 2 (by decide)
          by_cases hi10 : i < 10
          · have hix := run_index_str (P := Try.prog) 9 Try.underlying9 s i (by have := H10.out; omega)
            have hcls : i < 4 ∨ i = 4 ∨ (4 < i ∧ i < 7) ∨ i = 7 ∨ (7 < i) := by omega
            rcases hcls with hcls | hcls | hcls | hcls | hcls
            · -- a digit's place
              have p0 : (if i ≤ 4 then (0 : Int) else if i ≤ 7 then 1 else 2) = 0 := by rw [if_pos (by omega)]
              have p1 : (if i + 1 ≤ 4 then (0 : Int) else if i + 1 ≤ 7 then 1 else 2) = 0 := by rw [if_pos (by omega)]
              have hne4 : ((i : Int) == 4) = false := by rw [beq_eq_false_iff_ne]; omega
              have hne7 : ((i : Int) == 7) = false := by rw [beq_eq_false_iff_ne]; omega
              have P1 := Lib.hid p1
              rw [p0]
              clear p0 p1
              have hst := st_a (chr s) i hcls
              have hx256 : chr s i < 256 := by unfold chr; exact UInt8.toNat_lt _
              by_cases hb : okc (chr s) i = true
              · have hd := okc_dig hb (by omega) (by omega)
                have hok2 : allOk (chr s) (i + 1) = true := by rw [allOk_succ, hok, hb]; rfl
                have hbd := st_bd (chr s) i (by omega) hok
                generalize chr s i = c at *
                generalize st (chr s) i = p at *
                obtain ⟨p0, p1, p2⟩ := p
                obtain ⟨⟨q1, q2⟩, ⟨q3, q4⟩, ⟨q5, q6⟩⟩ := hbd
                simp only at q1 q2 q3 q4 q5 q6 c0 c1 c2 hst
                obtain ⟨d1, d2⟩ := hd
                have HST := Lib.hid hst
                have HOK := Lib.hid hok2
                clear hst hok hok2 hb
                go_wp2
                go_region
                go_wp2
                refine ⟨⟨i + 1, by omega, by simp, by rw [P1.out], HOK.out, by simpa [World.drew, World.setCell] using hzz, ?_, ?_, ?_, ?_, ?_, ?_, ?_⟩, by simp [intOf]; omega⟩
                · rw [HST.out]; simp [go_sem, c0, c1, c2, Int.mul_comm]
                · rw [HST.out]; simp [go_sem, c0, c1, c2, Int.mul_comm]
                · rw [HST.out]; simp [go_sem, c0, c1, c2, Int.mul_comm]
                · intro o; simp [go_sem, hf1]
                · intro o ho
                  have := hr0 o ho
                  simp [go_sem, this]
                · intro o; simp [go_sem, hf0]
                · exact (Ext.setCell hx (by simp) _).drew
              · have hb' : okc (chr s) i = false := by simpa using hb
                have HB := Lib.hid (readR_bad s i hi10 hb')
                rw [okc_of_dig _ _ (by omega) (by omega)] at hb'
                generalize chr s i = c at *
                have hcc : c < 48 ∨ 57 < c := by simp at hb'; omega
                clear hst hb hb'
                rcases hcc with hcc | hcc
                · go_wp2
                  exact bodyPost_ret (v := .tuple #[.agg #[.int .i64 0, .int .i64 0, .int .i64 0], .int .i64 4]) (by simp [results, Try.results17, go_sem, r0, r1, r2]) rfl ⟨ret_day HB.out, Ext.setCell (Ext.setCell (Ext.setCell hx (Nat.le_refl _) _) (Nat.le_refl _) _) (Nat.le_refl _) _⟩
                · have hcc' : decide ((c : Int) < 48) = false := decide_eq_false (by omega)
                  go_wp2
                  exact bodyPost_ret (v := .tuple #[.agg #[.int .i64 0, .int .i64 0, .int .i64 0], .int .i64 4]) (by simp [results, Try.results17, go_sem, r0, r1, r2]) rfl ⟨ret_day HB.out, Ext.setCell (Ext.setCell (Ext.setCell hx (Nat.le_refl _) _) (Nat.le_refl _) _) (Nat.le_refl _) _⟩
            · -- a sign's place
              subst hcls
              have hst := st_s (chr s) 4 (by decide)
              have hok2 : allOk (chr s) (4 + 1) = true := by rw [allOk_succ, hok, okc_of_sep _ _ (by decide), H4.out]; rfl
              have HST := Lib.hid hst
              have HOK := Lib.hid hok2
              clear hst hok hok2
              simp only [Int.cast_ofNat_Int]
              go_wp2
              refine ⟨⟨5, by decide, rfl, rfl, HOK.out, hzz, by rw [HST.out]; exact c0, by rw [HST.out]; exact c1, by rw [HST.out]; exact c2, hf1, hr0, hf0, hx⟩, by simp [intOf]⟩
            · -- a digit's place
              have p0 : (if i ≤ 4 then (0 : Int) else if i ≤ 7 then 1 else 2) = 1 := by rw [if_neg (by omega), if_pos (by omega)]
              have p1 : (if i + 1 ≤ 4 then (0 : Int) else if i + 1 ≤ 7 then 1 else 2) = 1 := by rw [if_neg (by omega), if_pos (by omega)]
              have hne4 : ((i : Int) == 4) = false := by rw [beq_eq_false_iff_ne]; omega
              have hne7 : ((i : Int) == 7) = false := by rw [beq_eq_false_iff_ne]; omega
              have P1 := Lib.hid p1
              rw [p0]
              clear p0 p1
              have hst := st_b (chr s) i hcls.1 hcls.2
              have hx256 : chr s i < 256 := by unfold chr; exact UInt8.toNat_lt _
              by_cases hb : okc (chr s) i = true
              · have hd := okc_dig hb (by omega) (by omega)
                have hok2 : allOk (chr s) (i + 1) = true := by rw [allOk_succ, hok, hb]; rfl
                have hbd := st_bd (chr s) i (by omega) hok
                generalize chr s i = c at *
                generalize st (chr s) i = p at *
                obtain ⟨p0, p1, p2⟩ := p
                obtain ⟨⟨q1, q2⟩, ⟨q3, q4⟩, ⟨q5, q6⟩⟩ := hbd
                simp only at q1 q2 q3 q4 q5 q6 c0 c1 c2 hst
                obtain ⟨d1, d2⟩ := hd
                have HST := Lib.hid hst
                have HOK := Lib.hid hok2
                clear hst hok hok2 hb
                go_wp2
                go_region
                go_wp2
                refine ⟨⟨i + 1, by omega, by simp, by rw [P1.out], HOK.out, by simpa [World.drew, World.setCell] using hzz, ?_, ?_, ?_, ?_, ?_, ?_, ?_⟩, by simp [intOf]; omega⟩
                · rw [HST.out]; simp [go_sem, c0, c1, c2, Int.mul_comm]
                · rw [HST.out]; simp [go_sem, c0, c1, c2, Int.mul_comm]
                · rw [HST.out]; simp [go_sem, c0, c1, c2, Int.mul_comm]
                · intro o; simp [go_sem, hf1]
                · intro o ho
                  have := hr0 o ho
                  simp [go_sem, this]
                · intro o; simp [go_sem, hf0]
                · exact (Ext.setCell hx (by simp) _).drew
              · have hb' : okc (chr s) i = false := by simpa using hb
                have HB := Lib.hid (readR_bad s i hi10 hb')
                rw [okc_of_dig _ _ (by omega) (by omega)] at hb'
                generalize chr s i = c at *
                have hcc : c < 48 ∨ 57 < c := by simp at hb'; omega
                clear hst hb hb'
                rcases hcc with hcc | hcc
                · go_wp2
                  exact bodyPost_ret (v := .tuple #[.agg #[.int .i64 0, .int .i64 0, .int .i64 0], .int .i64 4]) (by simp [results, Try.results17, go_sem, r0, r1, r2]) rfl ⟨ret_day HB.out, Ext.setCell (Ext.setCell (Ext.setCell hx (Nat.le_refl _) _) (Nat.le_refl _) _) (Nat.le_refl _) _⟩
                · have hcc' : decide ((c : Int) < 48) = false := decide_eq_false (by omega)
                  go_wp2
                  exact bodyPost_ret (v := .tuple #[.agg #[.int .i64 0, .int .i64 0, .int .i64 0], .int .i64 4]) (by simp [results, Try.results17, go_sem, r0, r1, r2]) rfl ⟨ret_day HB.out, Ext.setCell (Ext.setCell (Ext.setCell hx (Nat.le_refl _) _) (Nat.le_refl _) _) (Nat.le_refl _) _⟩
            · -- a sign's place
              subst hcls
              have hst := st_s (chr s) 7 (by decide)
              have hok2 : allOk (chr s) (7 + 1) = true := by rw [allOk_succ, hok, okc_of_sep _ _ (by decide), H7.out]; rfl
              have HST := Lib.hid hst
              have HOK := Lib.hid hok2
              clear hst hok hok2
              simp only [Int.cast_ofNat_Int]
              go_wp2
              refine ⟨⟨8, by decide, rfl, rfl, HOK.out, hzz, by rw [HST.out]; exact c0, by rw [HST.out]; exact c1, by rw [HST.out]; exact c2, hf1, hr0, hf0, hx⟩, by simp [intOf]⟩
            · -- a digit's place
              have p0 : (if i ≤ 4 then (0 : Int) else if i ≤ 7 then 1 else 2) = 2 := by rw [if_neg (by omega), if_neg (by omega)]
              have p1 : (if i + 1 ≤ 4 then (0 : Int) else if i + 1 ≤ 7 then 1 else 2) = 2 := by rw [if_neg (by omega), if_neg (by omega)]
              have hne4 : ((i : Int) == 4) = false := by rw [beq_eq_false_iff_ne]; omega
              have hne7 : ((i : Int) == 7) = false := by rw [beq_eq_false_iff_ne]; omega
              have P1 := Lib.hid p1
              rw [p0]
              clear p0 p1
              have hst := st_c (chr s) i hcls
              have hx256 : chr s i < 256 := by unfold chr; exact UInt8.toNat_lt _
              by_cases hb : okc (chr s) i = true
              · have hd := okc_dig hb (by omega) (by omega)
                have hok2 : allOk (chr s) (i + 1) = true := by rw [allOk_succ, hok, hb]; rfl
                have hbd := st_bd (chr s) i (by omega) hok
                generalize chr s i = c at *
                generalize st (chr s) i = p at *
                obtain ⟨p0, p1, p2⟩ := p
                obtain ⟨⟨q1, q2⟩, ⟨q3, q4⟩, ⟨q5, q6⟩⟩ := hbd
                simp only at q1 q2 q3 q4 q5 q6 c0 c1 c2 hst
                obtain ⟨d1, d2⟩ := hd
                have HST := Lib.hid hst
                have HOK := Lib.hid hok2
                clear hst hok hok2 hb
                go_wp2
                go_region
                go_wp2
                refine ⟨⟨i + 1, by omega, by simp, by rw [P1.out], HOK.out, by simpa [World.drew, World.setCell] using hzz, ?_, ?_, ?_, ?_, ?_, ?_, ?_⟩, by simp [intOf]; omega⟩
                · rw [HST.out]; simp [go_sem, c0, c1, c2, Int.mul_comm]
                · rw [HST.out]; simp [go_sem, c0, c1, c2, Int.mul_comm]
                · rw [HST.out]; simp [go_sem, c0, c1, c2, Int.mul_comm]
                · intro o; simp [go_sem, hf1]
                · intro o ho
                  have := hr0 o ho
                  simp [go_sem, this]
                · intro o; simp [go_sem, hf0]
                · exact (Ext.setCell hx (by simp) _).drew
              · have hb' : okc (chr s) i = false := by simpa using hb
                have HB := Lib.hid (readR_bad s i hi10 hb')
                rw [okc_of_dig _ _ (by omega) (by omega)] at hb'
                generalize chr s i = c at *
                have hcc : c < 48 ∨ 57 < c := by simp at hb'; omega
                clear hst hb hb'
                rcases hcc with hcc | hcc
                · go_wp2
                  exact bodyPost_ret (v := .tuple #[.agg #[.int .i64 0, .int .i64 0, .int .i64 0], .int .i64 4]) (by simp [results, Try.results17, go_sem, r0, r1, r2]) rfl ⟨ret_day HB.out, Ext.setCell (Ext.setCell (Ext.setCell hx (Nat.le_refl _) _) (Nat.le_refl _) _) (Nat.le_refl _) _⟩
                · have hcc' : decide ((c : Int) < 48) = false := decide_eq_false (by omega)
                  go_wp2
                  exact bodyPost_ret (v := .tuple #[.agg #[.int .i64 0, .int .i64 0, .int .i64 0], .int .i64 4]) (by simp [results, Try.results17, go_sem, r0, r1, r2]) rfl ⟨ret_day HB.out, Ext.setCell (Ext.setCell (Ext.setCell hx (Nat.le_refl _) _) (Nat.le_refl _) _) (Nat.le_refl _) _⟩
          · obtain rfl : i = 10 := by omega
            have hr : readR s = if dayB (st (chr s) 10).1 (st (chr s) 10).2.1 (st (chr s) 10).2.2 then ((st (chr s) 10).1, (st (chr s) 10).2.1, (st (chr s) 10).2.2, 0) else (0, 0, 0, 9) := by
              unfold readR
              rw [if_pos ⟨H10.out, hok⟩]
            clear hok hr0
            generalize st (chr s) 10 = p at *
            obtain ⟨p0, p1, p2⟩ := p
            simp only at hr c0 c1 c2
            cases hb : dayB p0 p1 p2
            all_goals
              rw [hb] at hr
              have HR := Lib.hid hr
              clear hr
              go_wp2_with fail
              refine (refRight_is p0 p1 p2 _ _ hb).mono ?_
              rintro e x ⟨rfl, hx2⟩
              obtain ⟨hcc, hff⟩ := Ext.bc hx2
              have g0 : x.cell? ⟨w.heap.size, 0, none⟩ = some (.int .i64 0) := by rw [hcc _ _ (by simp; omega), World.cell?_alloc_past _ _ _ (by first | omega | (simp; omega))]; exact r0
              have g1 : x.cell? ⟨w.heap.size, 1, none⟩ = some (.int .i64 0) := by rw [hcc _ _ (by simp; omega), World.cell?_alloc_past _ _ _ (by first | omega | (simp; omega))]; exact r1
              have g2 : x.cell? ⟨w.heap.size, 2, none⟩ = some (.int .i64 0) := by rw [hcc _ _ (by simp; omega), World.cell?_alloc_past _ _ _ (by first | omega | (simp; omega))]; exact r2
              have g3 : ∀ o, x.frozen? ⟨w.heap.size, o, none⟩ = false := fun o => by rw [hff _ _ (by simp; omega), World.frozen?_alloc_past _ _ _ (by first | omega | (simp; omega))]; exact hf0 o
              have g4 : x.cell? ⟨wr.heap.size, 0, none⟩ = some (.int .i64 p0) := by rw [hcc _ _ (by simp), World.cell?_alloc_at _ _ _ _ rfl]; rfl
              have g5 : x.cell? ⟨wr.heap.size, 1, none⟩ = some (.int .i64 p1) := by rw [hcc _ _ (by simp), World.cell?_alloc_at _ _ _ _ rfl]; rfl
              have g6 : x.cell? ⟨wr.heap.size, 2, none⟩ = some (.int .i64 p2) := by rw [hcc _ _ (by simp), World.cell?_alloc_at _ _ _ _ rfl]; rfl
              have gx : Ext w x := (by repeat (first | exact Ext.refl _ | assumption | refine Ext.trans ?_ (by assumption) | refine Ext.alloc ?_ _ | refine Ext.drew ?_ | refine Ext.drewN ?_ _))
              clear hcc hff hx2
              go_wp2
              first
                | exact bodyPost_ret (v := .tuple #[.agg #[.int .i64 p0, .int .i64 p1, .int .i64 p2], .int .i64 0]) (by simp [results, Try.results17, go_sem, g0, g1, g2]) rfl ⟨ret_day HR.out, Ext.setCell (Ext.setCell (Ext.setCell gx (Nat.le_refl _) _) (Nat.le_refl _) _) (Nat.le_refl _) _⟩
                | exact bodyPost_ret (v := .tuple #[.agg #[.int .i64 0, .int .i64 0, .int .i64 0], .int .i64 9]) (by simp [results, Try.results17, go_sem, g0, g1, g2]) rfl ⟨ret_day HR.out, Ext.setCell (Ext.setCell (Ext.setCell gx (Nat.le_refl _) _) (Nat.le_refl _) _) (Nat.le_refl _) _⟩
      · have HB := Lib.hid (readR_bad s 7 (by decide) (by rw [okc_of_sep _ _ (by decide)]; simp [h7]))
        rw [h4] at hi4
        have hcc : ((chr s 7 : Int) != 45) = true := by rw [bne_iff_ne]; omega
        clear h4 h7
        generalize chr s 7 = c at *
        go_enter Try.func17, Try.ntmps17
        go_wp2
        exact bodyPost_ret (v := .tuple #[.agg #[.int .i64 0, .int .i64 0, .int .i64 0], .int .i64 4]) (by simp [results, Try.results17, go_sem]) rfl ⟨ret_day HB.out, (by repeat (first | exact Ext.refl _ | assumption | refine Ext.trans ?_ (by assumption) | refine Ext.alloc ?_ _ | refine Ext.drew ?_ | refine Ext.drewN ?_ _))⟩
    · have HB := Lib.hid (readR_bad s 4 (by decide) (by rw [okc_of_sep _ _ (by decide)]; simp [h4]))
      have hcc : ((chr s 4 : Int) != 45) = true := by rw [bne_iff_ne]; omega
      clear h4
      generalize chr s 4 = c at *
      go_enter Try.func17, Try.ntmps17
      go_wp2
      exact bodyPost_ret (v := .tuple #[.agg #[.int .i64 0, .int .i64 0, .int .i64 0], .int .i64 4]) (by simp [results, Try.results17, go_sem]) rfl ⟨ret_day HB.out, (by repeat (first | exact Ext.refl _ | assumption | refine Ext.trans ?_ (by assumption) | refine Ext.alloc ?_ _ | refine Ext.drew ?_ | refine Ext.drewN ?_ _))⟩
  · have h10b : ((s.size : Int) != 10) = true := by rw [bne_iff_ne]; omega
    have hr : readR s = (0, 0, 0, 4) := by unfold readR; rw [if_neg (fun h => h10 h.1)]
    have HB := Lib.hid hr
    clear hr h10
    go_enter Try.func17, Try.ntmps17
    go_wp2
    exact bodyPost_ret (v := .tuple #[.agg #[.int .i64 0, .int .i64 0, .int .i64 0], .int .i64 4]) (by simp [results, Try.results17, go_sem]) rfl ⟨ret_day HB.out, (by repeat (first | exact Ext.refl _ | assumption | refine Ext.trans ?_ (by assumption) | refine Ext.alloc ?_ _ | refine Ext.drew ?_ | refine Ext.drewN ?_ _))⟩
end Go.Proofs.Yteoohgkaejgoaaa
