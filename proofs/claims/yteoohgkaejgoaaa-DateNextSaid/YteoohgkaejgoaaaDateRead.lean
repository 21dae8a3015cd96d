/- Contract of date.Read: the day that a text tells. -/
import Derived.Test.YteoohgkaejgoaaaDateB
import Derived.Lib.OthersKept
namespace Go.Proofs.Yteoohgkaejgoaaa
open Go.RowKit

/-- A text's byte at a place, as a number. -/
def chr (s : ByteArray) (i : Nat) : Nat := (s.data.toList.getD i 0).toNat
theorem chr_at (s : ByteArray) (i : Nat) (h : i < s.size) : (s[i]'h).toNat = chr s i := by
  unfold chr
  have : i < s.data.toList.length := by simpa using h
  rw [List.getD_eq_getElem?_getD, List.getElem?_eq_getElem this]
  rfl
def okc (c : Nat → Nat) (i : Nat) : Bool := if i = 4 ∨ i = 7 then c i == 45 else decide (48 ≤ c i) && decide (c i ≤ 57)
def st (c : Nat → Nat) : Nat → Int × Int × Int
  | 0 => (0, 0, 0)
  | i + 1 => let p := st c i; if i < 4 then (10 * p.1 + ((c i : Int) - 48), p.2.1, p.2.2) else if i = 4 then p else if i < 7 then (p.1, 10 * p.2.1 + ((c i : Int) - 48), p.2.2) else if i = 7 then p else (p.1, p.2.1, 10 * p.2.2 + ((c i : Int) - 48))
def allOk (c : Nat → Nat) (n : Nat) : Bool := (List.range n).all (okc c)
theorem allOk_succ (c : Nat → Nat) (n : Nat) : allOk c (n + 1) = (allOk c n && okc c n) := by simp [allOk, List.range_succ, List.all_append]
theorem allOk_bad (c : Nat → Nat) (n m : Nat) (h : n < m) (hb : okc c n = false) : allOk c m = false := by
  unfold allOk
  rw [List.all_eq_false]
  exact ⟨n, by simpa using h, by simp [hb]⟩
/-- What a text tells: a day and 0, or no day and why. -/
def readR (s : ByteArray) : Int × Int × Int × Int :=
  if s.size = 10 ∧ allOk (chr s) 10 = true then
    let p := st (chr s) 10
    if dayB p.1 p.2.1 p.2.2 then (p.1, p.2.1, p.2.2, 0) else (0, 0, 0, 9)
  else (0, 0, 0, 4)
theorem okc_dig {c : Nat → Nat} {i : Nat} (h : okc c i = true) (h4 : i ≠ 4) (h7 : i ≠ 7) : 48 ≤ c i ∧ c i ≤ 57 := by
  unfold okc at h
  rw [if_neg (by omega)] at h
  simpa using h
theorem st_bd (c : Nat → Nat) (n : Nat) (hn : n ≤ 10) (h : allOk c n = true) : (0 ≤ (st c n).1 ∧ (st c n).1 ≤ 9999) ∧ (0 ≤ (st c n).2.1 ∧ (st c n).2.1 ≤ 9999) ∧ (0 ≤ (st c n).2.2 ∧ (st c n).2.2 ≤ 9999) := by
  have key : ∀ n, n ≤ 10 → allOk c n = true → (0 ≤ (st c n).1 ∧ (st c n).1 < 10 ^ (min n 4)) ∧ (0 ≤ (st c n).2.1 ∧ (st c n).2.1 < 10 ^ (min (n - 5) 2)) ∧ (0 ≤ (st c n).2.2 ∧ (st c n).2.2 < 10 ^ (n - 8)) := by
    intro n
    induction n with
    | zero => intro _ _; simp [st]
    | succ n ih =>
      intro hn h
      rw [allOk_succ, Bool.and_eq_true] at h
      have q := ih (by omega) h.1
      have hd := fun a b => okc_dig h.2 a b
      clear ih
      obtain rfl | rfl | rfl | rfl | rfl | rfl | rfl | rfl | rfl | rfl : n = 0 ∨ n = 1 ∨ n = 2 ∨ n = 3 ∨ n = 4 ∨ n = 5 ∨ n = 6 ∨ n = 7 ∨ n = 8 ∨ n = 9 := by omega
      all_goals
        rw [st]
        try have hx := hd (by decide) (by decide)
        simp at q ⊢
        omega
  have k := key n hn h
  have p1 : (10 : Int) ^ (min n 4) ≤ 10000 := by
    obtain rfl | rfl | rfl | rfl | h : n = 0 ∨ n = 1 ∨ n = 2 ∨ n = 3 ∨ 4 ≤ n := by omega
    all_goals first | decide | (rw [Nat.min_eq_right h]; decide)
  have p2 : (10 : Int) ^ (min (n - 5) 2) ≤ 100 := by
    obtain h | h | h : min (n - 5) 2 = 0 ∨ min (n - 5) 2 = 1 ∨ min (n - 5) 2 = 2 := by omega
    all_goals rw [h]; decide
  have p3 : (10 : Int) ^ (n - 8) ≤ 100 := by
    obtain h | h | h : n - 8 = 0 ∨ n - 8 = 1 ∨ n - 8 = 2 := by omega
    all_goals rw [h]; decide
  omega

/-- A step of a text's iterator: what it tells, and what stays. -/
theorem iter_step {P : Program} (w : World) (k : Nat) (s : ByteArray) (i : Nat) (hk : w.heap[k]? = some (.stringIter s i)) (h : i < s.size) :
    ∃ W, (∀ ty, (Instr.next (.pointer (some ⟨k, 0, none⟩)) true ty).run P w = .ok (.tuple #[.bool true, .int .i64 i, .int .i32 (Utf8.decode s i).1]) W) ∧ W.heap[k]? = some (.stringIter s (i + (Utf8.decode s i).2)) ∧
      (∀ b o, b ≠ k → W.cell? ⟨b, o, none⟩ = w.cell? ⟨b, o, none⟩) ∧ (∀ b o, b ≠ k → W.frozen? ⟨b, o, none⟩ = w.frozen? ⟨b, o, none⟩) ∧ W.heap.size = w.heap.size ∧ ∀ B, B ≤ k → Below B w W :=
  ⟨w.iterAt k s (i + (Utf8.decode s i).2), fun ty => Lib.run_next_any_at w k s i ty hk h, Lib.iterAt_heap w k s i _ hk,
    fun b o hb => World.cell?_of_block (w := w) (Lib.iterAt_other w k b s _ hb), fun b o hb => World.frozen?_of_block (w := w) (Lib.iterAt_other w k b s _ hb), Lib.iterAt_size w k s _, fun B hB => Lib.below_iterAt (Below.refl B w) hB s _⟩
theorem iter_end {P : Program} (w : World) (k : Nat) (s : ByteArray) (i : Nat) (hk : w.heap[k]? = some (.stringIter s i)) (h : ¬ i < s.size) :
    ∀ ty, (Instr.next (.pointer (some ⟨k, 0, none⟩)) true ty).run P w = .ok (.tuple #[.bool false]) w := fun ty => Lib.run_next_end_at w k s i ty hk h
/-- The rune at a place: the byte, or something from 128 on. -/
theorem rune_at (s : ByteArray) (i : Nat) (h : i < s.size) : (Utf8.decode s i = (chr s i, 1) ∧ chr s i < 128) ∨ (128 ≤ (Utf8.decode s i).1 ∧ 128 ≤ chr s i) := by
  rw [← chr_at s i h]
  by_cases ha : (s[i]'h).toNat < 128
  · exact .inl ⟨decode_ascii s i h ha, ha⟩
  · exact .inr ⟨(decode_high s i h (by omega)).1, by omega⟩
theorem st_a (c : Nat → Nat) (i : Nat) (h : i < 4) : st c (i + 1) = (10 * (st c i).1 + ((c i : Int) - 48), (st c i).2.1, (st c i).2.2) := by simp [st, h]
theorem st_s (c : Nat → Nat) (i : Nat) (h : i = 4 ∨ i = 7) : st c (i + 1) = st c i := by rcases h with rfl | rfl <;> simp [st]
theorem st_b (c : Nat → Nat) (i : Nat) (h : 4 < i) (h2 : i < 7) : st c (i + 1) = ((st c i).1, 10 * (st c i).2.1 + ((c i : Int) - 48), (st c i).2.2) := by
  simp only [st]
  rw [if_neg (by omega), if_neg (by omega), if_pos h2]
theorem st_c (c : Nat → Nat) (i : Nat) (h : 7 < i) : st c (i + 1) = ((st c i).1, (st c i).2.1, 10 * (st c i).2.2 + ((c i : Int) - 48)) := by
  simp only [st]
  rw [if_neg (by omega), if_neg (by omega), if_neg (by omega), if_neg (by omega)]
theorem okc_of_dig (c : Nat → Nat) (i : Nat) (h4 : i ≠ 4) (h7 : i ≠ 7) : okc c i = (decide (48 ≤ c i) && decide (c i ≤ 57)) := by unfold okc; rw [if_neg (by omega)]
theorem okc_of_sep (c : Nat → Nat) (i : Nat) (h : i = 4 ∨ i = 7) : okc c i = (c i == 45) := by unfold okc; rw [if_pos h]
theorem readR_bad (s : ByteArray) (i : Nat) (h : i < 10) (hb : okc (chr s) i = false) : readR s = (0, 0, 0, 4) := by
  unfold readR
  rw [if_neg (fun hh => by rw [allOk_bad (chr s) i 10 h hb] at hh; exact Bool.noConfusion hh.2)]
theorem start_facts (w : World) (a0 a1 a2 b0 b1 b2 : Value) (t t' : TypeId) (s : ByteArray) :
    (((w.alloc (.cells #[a0, a1, a2] t)).alloc (.cells #[b0, b1, b2] t')).iter s 0).heap[w.heap.size + 1 + 1]? = some (.stringIter s 0) ∧
    (((w.alloc (.cells #[a0, a1, a2] t)).alloc (.cells #[b0, b1, b2] t')).iter s 0).cell? ⟨w.heap.size + 1, 0, none⟩ = some b0 ∧
    (((w.alloc (.cells #[a0, a1, a2] t)).alloc (.cells #[b0, b1, b2] t')).iter s 0).cell? ⟨w.heap.size + 1, 1, none⟩ = some b1 ∧
    (((w.alloc (.cells #[a0, a1, a2] t)).alloc (.cells #[b0, b1, b2] t')).iter s 0).cell? ⟨w.heap.size + 1, 2, none⟩ = some b2 ∧
    (∀ o, (((w.alloc (.cells #[a0, a1, a2] t)).alloc (.cells #[b0, b1, b2] t')).iter s 0).frozen? ⟨w.heap.size + 1, o, none⟩ = false) ∧
    (∀ o, (((w.alloc (.cells #[a0, a1, a2] t)).alloc (.cells #[b0, b1, b2] t')).iter s 0).cell? ⟨w.heap.size, o, none⟩ = (#[a0, a1, a2] : Array Value)[o]?) ∧
    (∀ o, (((w.alloc (.cells #[a0, a1, a2] t)).alloc (.cells #[b0, b1, b2] t')).iter s 0).frozen? ⟨w.heap.size, o, none⟩ = false) ∧
    Ext w (((w.alloc (.cells #[a0, a1, a2] t)).alloc (.cells #[b0, b1, b2] t')).iter s 0) := by
  have e : ((w.alloc (.cells #[a0, a1, a2] t)).alloc (.cells #[b0, b1, b2] t')).heap.size = w.heap.size + 1 + 1 := by simp
  have hx : Ext ((w.alloc (.cells #[a0, a1, a2] t)).alloc (.cells #[b0, b1, b2] t')) (((w.alloc (.cells #[a0, a1, a2] t)).alloc (.cells #[b0, b1, b2] t')).iter s 0) := (Ext.refl _).alloc _
  obtain ⟨hc, hf⟩ := Ext.bc hx
  refine ⟨?_, ?_, ?_, ?_, fun o => ?_, fun o => ?_, fun o => ?_, (((Ext.refl w).alloc _).alloc _).trans hx⟩
  · rw [← e]; exact World.iter_heap _ _ _
  · rw [hc _ _ (by omega), World.cell?_alloc_at _ _ _ _ (by simp)]; rfl
  · rw [hc _ _ (by omega), World.cell?_alloc_at _ _ _ _ (by simp)]; rfl
  · rw [hc _ _ (by omega), World.cell?_alloc_at _ _ _ _ (by simp)]; rfl
  · rw [hf _ _ (by omega), World.frozen?_alloc_at _ _ _ _ (by simp)]
  · rw [hc _ _ (by omega), World.cell?_alloc_past _ _ _ (by simp), World.cell?_alloc_at _ _ _ _ rfl]
  · rw [hf _ _ (by omega), World.frozen?_alloc_past _ _ _ (by simp), World.frozen?_alloc_at _ _ _ _ rfl]

theorem dateRight_is' (y m d : Int) (w : World) (b : Bool) (h : dayB y m d = b) : Calls Try.prog 19 #[.agg #[.int .i64 y, .int .i64 m, .int .i64 d]] w fun e w' => e = .returned (.bool b) ∧ Ext w w' := by
  rw [← h]; exact dateRight_any y m d w

theorem ret_day {y m d e : Int} {p : Int × Int × Int × Int} (h : p = (y, m, d, e)) : Ending.returned (.tuple #[.agg #[.int .i64 y, .int .i64 m, .int .i64 d], .int .i64 e]) = .returned (.tuple #[.agg #[.int .i64 p.1, .int .i64 p.2.1, .int .i64 p.2.2.1], .int .i64 p.2.2.2]) := by rw [h]

set_option maxHeartbeats 4000000 in
theorem read_any (s : ByteArray) (w : World) (hs : s.size ≤ maxLen) : Calls Try.prog 12 #[.string s] w fun e w' => e = .returned (.tuple #[.agg #[.int .i64 (readR s).1, .int .i64 (readR s).2.1, .int .i64 (readR s).2.2.1], .int .i64 (readR s).2.2.2]) ∧ Ext w w' := by
  unfold maxLen at hs
  by_cases h10 : s.size = 10
  · have h10b : ((s.size : Int) != 10) = false := by rw [bne_eq_false_iff_eq]; omega
    have H10 := Lib.hid h10
    clear h10
    go_enter Try.func12, Try.ntmps12
    go_wp2
    go_loopw [5] (fun pv wr => ∃ i : Nat, i ≤ 10 ∧ pv = .int .i64 (if i ≤ 4 then 0 else if i ≤ 7 then 1 else 2) ∧ allOk (chr s) i = true ∧ wr.heap[w.heap.size + 1 + 1]? = some (.stringIter s i) ∧
        wr.cell? ⟨w.heap.size + 1, 0, none⟩ = some (.int .i64 (st (chr s) i).1) ∧ wr.cell? ⟨w.heap.size + 1, 1, none⟩ = some (.int .i64 (st (chr s) i).2.1) ∧ wr.cell? ⟨w.heap.size + 1, 2, none⟩ = some (.int .i64 (st (chr s) i).2.2) ∧
        (∀ o, wr.frozen? ⟨w.heap.size + 1, o, none⟩ = false) ∧ (∀ o, o < 3 → wr.cell? ⟨w.heap.size, o, none⟩ = some (.int .i64 0)) ∧ (∀ o, wr.frozen? ⟨w.heap.size, o, none⟩ = false) ∧ Ext w wr)
      (fun _ wr => 10 - wr.iterPos (w.heap.size + 1 + 1))
    case atStart =>
      obtain ⟨h1, h2, h3, h4, h5, h6, h7, h8⟩ := start_facts w (.int .i64 0) (.int .i64 0) (.int .i64 0) (.int .i64 0) (.int .i64 0) (.int .i64 0) 23 43 s
      refine ⟨0, by omega, rfl, rfl, h1, h2, h3, h4, h5, fun o ho => ?_, h7, h8⟩
      rw [h6]
      match o, ho with
      | 0, _ => rfl
      | 1, _ => rfl
      | 2, _ => rfl
    case round =>
      obtain ⟨i, hi, rfl, hok, hit, c0, c1, c2, hf1, hr0, hf0, hx⟩ := hrel
      by_cases hi10 : i < 10
      · have hlt' : i < s.size := by have := H10.out; omega
        have hpos := iterPos_of hit
        obtain ⟨W, hnext, hitW, hcW, hfW, hzW, hbW⟩ := iter_step (P := Try.prog) wr (w.heap.size + 1 + 1) s i hit hlt'
        have XW : Ext w W := Below.trans hx (hbW w.heap.size (by omega))
        have C0 : W.cell? ⟨w.heap.size + 1, 0, none⟩ = some (.int .i64 (st (chr s) i).1) := by rw [hcW _ _ (by omega)]; exact c0
        have C1 : W.cell? ⟨w.heap.size + 1, 1, none⟩ = some (.int .i64 (st (chr s) i).2.1) := by rw [hcW _ _ (by omega)]; exact c1
        have C2 : W.cell? ⟨w.heap.size + 1, 2, none⟩ = some (.int .i64 (st (chr s) i).2.2) := by rw [hcW _ _ (by omega)]; exact c2
        have F1 : ∀ o, W.frozen? ⟨w.heap.size + 1, o, none⟩ = false := fun o => by rw [hfW _ _ (by omega)]; exact hf1 o
        have R0 : ∀ o, o < 3 → W.cell? ⟨w.heap.size, o, none⟩ = some (.int .i64 0) := fun o ho => by rw [hcW _ _ (by omega)]; exact hr0 o ho
        have F0 : ∀ o, W.frozen? ⟨w.heap.size, o, none⟩ = false := fun o => by rw [hfW _ _ (by omega)]; exact hf0 o
        have r0 := R0 0 (by decide)
        have r1 := R0 1 (by decide)
        have r2 := R0 2 (by decide)
        clear hcW hfW hbW hit c0 c1 c2 hf1 hr0 hf0 hx
        have hcls : i < 4 ∨ i = 4 ∨ (4 < i ∧ i < 7) ∨ i = 7 ∨ (7 < i) := by omega
        rcases hcls with hcls | hcls | hcls | hcls | hcls
        · -- a digit's place
          have p0 : (if i ≤ 4 then (0 : Int) else if i ≤ 7 then 1 else 2) = 0 := by rw [if_pos (by omega)]
          have p1 : (if i + 1 ≤ 4 then (0 : Int) else if i + 1 ≤ 7 then 1 else 2) = 0 := by rw [if_pos (by omega)]
          have hne4 : ((i : Int) == 4) = false := by rw [beq_eq_false_iff_ne]; omega
          have hne7 : ((i : Int) == 7) = false := by rw [beq_eq_false_iff_ne]; omega
          have P1 := Lib.hid p1
          rw [p0]
          clear p0 p1
          rcases rune_at s i hlt' with ⟨hdec, hasc⟩ | ⟨hhi, hch⟩
          · rw [hdec] at hnext hitW
            simp only at hnext hitW
            have hst := st_a (chr s) i hcls
            by_cases hb : okc (chr s) i = true
            · have hd := okc_dig hb (by omega) (by omega)
              have hok2 : allOk (chr s) (i + 1) = true := by rw [allOk_succ, hok, hb]; rfl
              have hbd := st_bd (chr s) i (by omega) hok
              generalize chr s i = c at *
              generalize st (chr s) i = p at *
              obtain ⟨p0, p1, p2⟩ := p
              obtain ⟨⟨q1, q2⟩, ⟨q3, q4⟩, ⟨q5, q6⟩⟩ := hbd
              simp only at q1 q2 q3 q4 q5 q6 C0 C1 C2 hst
              obtain ⟨d1, d2⟩ := hd
              have HST := Lib.hid hst
              have HOK := Lib.hid hok2
              have HIT := Lib.hid hitW
              clear hst hok hok2 hitW hb hdec
              go_wp2
              refine ⟨⟨i + 1, by omega, by rw [P1.out], HOK.out, ?_, ?_, ?_, ?_, ?_, ?_, ?_, ?_⟩, ?_⟩
              · rw [Below.heap_setCell _ _ _ _ (by simp)]; exact HIT.out
              · rw [HST.out]; simp [go_sem, C0, C1, C2]
              · rw [HST.out]; simp [go_sem, C0, C1, C2]
              · rw [HST.out]; simp [go_sem, C0, C1, C2]
              · intro o; rw [World.frozen?_setCell]; exact F1 o
              · intro o ho; rw [World.cell?_setCell_other _ _ _ _ (by simp)]; exact R0 o ho
              · intro o; rw [World.frozen?_setCell]; exact F0 o
              · exact Ext.setCell XW (by simp) _
              · have e1 : (W.setCell ⟨w.heap.size + 1, 0, none⟩ (.int .i64 (10 * p0 + ((c : Int) - 48)))).iterPos (w.heap.size + 1 + 1) = i + 1 := by
                  refine iterPos_of (s := s) ?_
                  rw [Below.heap_setCell _ _ _ _ (by simp)]; exact HIT.out
                rw [e1, hpos]; omega
            · have hb' : okc (chr s) i = false := by simpa using hb
              have HB := Lib.hid (readR_bad s i hi10 hb')
              rw [okc_of_dig _ _ (by omega) (by omega)] at hb'
              generalize chr s i = c at *
              have hcc : c < 48 ∨ 57 < c := by simp at hb'; omega
              clear hst hb hb' hdec
              rcases hcc with hcc | hcc
              · go_wp2
                exact bodyPost_ret (v := .tuple #[.agg #[.int .i64 0, .int .i64 0, .int .i64 0], .int .i64 4]) (by simp [results, Try.results12, go_sem, r0, r1, r2]) rfl ⟨ret_day HB.out, Ext.setCell (Ext.setCell (Ext.setCell XW (Nat.le_refl _) _) (Nat.le_refl _) _) (Nat.le_refl _) _⟩
              · have hcc' : decide ((c : Int) < 48) = false := decide_eq_false (by omega)
                go_wp2
                exact bodyPost_ret (v := .tuple #[.agg #[.int .i64 0, .int .i64 0, .int .i64 0], .int .i64 4]) (by simp [results, Try.results12, go_sem, r0, r1, r2]) rfl ⟨ret_day HB.out, Ext.setCell (Ext.setCell (Ext.setCell XW (Nat.le_refl _) _) (Nat.le_refl _) _) (Nat.le_refl _) _⟩
          · have HB := Lib.hid (readR_bad s i hi10 (by rw [okc_of_dig _ _ (by omega) (by omega)]; simp; omega))
            have hle := decode_le s i
            generalize (Utf8.decode s i).1 = r at *
            have hcc' : decide ((r : Int) < 48) = false := decide_eq_false (by omega)
            clear hitW
            go_wp2
            exact bodyPost_ret (v := .tuple #[.agg #[.int .i64 0, .int .i64 0, .int .i64 0], .int .i64 4]) (by simp [results, Try.results12, go_sem, r0, r1, r2]) rfl ⟨ret_day HB.out, Ext.setCell (Ext.setCell (Ext.setCell XW (Nat.le_refl _) _) (Nat.le_refl _) _) (Nat.le_refl _) _⟩
        · -- a sign's place
          subst hcls
          rcases rune_at s 4 hlt' with ⟨hdec, hasc⟩ | ⟨hhi, hch⟩
          · rw [hdec] at hnext hitW
            simp only at hnext hitW
            have hst := st_s (chr s) 4 (by decide)
            by_cases hb : okc (chr s) 4 = true
            · have hok2 : allOk (chr s) (4 + 1) = true := by rw [allOk_succ, hok, hb]; rfl
              rw [okc_of_sep _ _ (by decide), beq_iff_eq] at hb
              rw [hb] at hnext
              have HST := Lib.hid hst
              have HOK := Lib.hid hok2
              have HIT := Lib.hid hitW
              clear hst hok hok2 hitW hb hdec
              simp only [Int.cast_ofNat_Int] at hnext ⊢
              go_wp2
              refine ⟨⟨4 + 1, by omega, by rfl, HOK.out, HIT.out, by rw [HST.out]; exact C0, by rw [HST.out]; exact C1, by rw [HST.out]; exact C2, F1, R0, F0, XW⟩, ?_⟩
              rw [iterPos_of HIT.out, hpos]; omega
            · have hb' : okc (chr s) 4 = false := by simpa using hb
              have HB := Lib.hid (readR_bad s 4 (by decide) hb')
              rw [okc_of_sep _ _ (by decide)] at hb'
              generalize chr s 4 = c at *
              have hcc : ((c : Int) != 45) = true := by rw [bne_iff_ne]; simp at hb'; omega
              clear hst hb hb' hdec
              simp only [Int.cast_ofNat_Int] at hnext ⊢
              go_wp2
              exact bodyPost_ret (v := .tuple #[.agg #[.int .i64 0, .int .i64 0, .int .i64 0], .int .i64 4]) (by simp [results, Try.results12, go_sem, r0, r1, r2]) rfl ⟨ret_day HB.out, Ext.setCell (Ext.setCell (Ext.setCell XW (Nat.le_refl _) _) (Nat.le_refl _) _) (Nat.le_refl _) _⟩
          · have HB := Lib.hid (readR_bad s 4 (by decide) (by rw [okc_of_sep _ _ (by decide)]; simp; omega))
            have hle := decode_le s 4
            generalize (Utf8.decode s 4).1 = r at *
            have hcc : ((r : Int) != 45) = true := by rw [bne_iff_ne]; omega
            clear hitW
            simp only [Int.cast_ofNat_Int] at hnext ⊢
            go_wp2
            exact bodyPost_ret (v := .tuple #[.agg #[.int .i64 0, .int .i64 0, .int .i64 0], .int .i64 4]) (by simp [results, Try.results12, go_sem, r0, r1, r2]) rfl ⟨ret_day HB.out, Ext.setCell (Ext.setCell (Ext.setCell XW (Nat.le_refl _) _) (Nat.le_refl _) _) (Nat.le_refl _) _⟩
        · -- a digit's place
          have p0 : (if i ≤ 4 then (0 : Int) else if i ≤ 7 then 1 else 2) = 1 := by rw [if_neg (by omega), if_pos (by omega)]
          have p1 : (if i + 1 ≤ 4 then (0 : Int) else if i + 1 ≤ 7 then 1 else 2) = 1 := by rw [if_neg (by omega), if_pos (by omega)]
          have hne4 : ((i : Int) == 4) = false := by rw [beq_eq_false_iff_ne]; omega
          have hne7 : ((i : Int) == 7) = false := by rw [beq_eq_false_iff_ne]; omega
          have P1 := Lib.hid p1
          rw [p0]
          clear p0 p1
          rcases rune_at s i hlt' with ⟨hdec, hasc⟩ | ⟨hhi, hch⟩
          · rw [hdec] at hnext hitW
            simp only at hnext hitW
            have hst := st_b (chr s) i hcls.1 hcls.2
            by_cases hb : okc (chr s) i = true
            · have hd := okc_dig hb (by omega) (by omega)
              have hok2 : allOk (chr s) (i + 1) = true := by rw [allOk_succ, hok, hb]; rfl
              have hbd := st_bd (chr s) i (by omega) hok
              generalize chr s i = c at *
              generalize st (chr s) i = p at *
              obtain ⟨p0, p1, p2⟩ := p
              obtain ⟨⟨q1, q2⟩, ⟨q3, q4⟩, ⟨q5, q6⟩⟩ := hbd
              simp only at q1 q2 q3 q4 q5 q6 C0 C1 C2 hst
              obtain ⟨d1, d2⟩ := hd
              have HST := Lib.hid hst
              have HOK := Lib.hid hok2
              have HIT := Lib.hid hitW
              clear hst hok hok2 hitW hb hdec
              go_wp2
              refine ⟨⟨i + 1, by omega, by rw [P1.out], HOK.out, ?_, ?_, ?_, ?_, ?_, ?_, ?_, ?_⟩, ?_⟩
              · rw [Below.heap_setCell _ _ _ _ (by simp)]; exact HIT.out
              · rw [HST.out]; simp [go_sem, C0, C1, C2]
              · rw [HST.out]; simp [go_sem, C0, C1, C2]
              · rw [HST.out]; simp [go_sem, C0, C1, C2]
              · intro o; rw [World.frozen?_setCell]; exact F1 o
              · intro o ho; rw [World.cell?_setCell_other _ _ _ _ (by simp)]; exact R0 o ho
              · intro o; rw [World.frozen?_setCell]; exact F0 o
              · exact Ext.setCell XW (by simp) _
              · have e1 : (W.setCell ⟨w.heap.size + 1, 1, none⟩ (.int .i64 (10 * p1 + ((c : Int) - 48)))).iterPos (w.heap.size + 1 + 1) = i + 1 := by
                  refine iterPos_of (s := s) ?_
                  rw [Below.heap_setCell _ _ _ _ (by simp)]; exact HIT.out
                rw [e1, hpos]; omega
            · have hb' : okc (chr s) i = false := by simpa using hb
              have HB := Lib.hid (readR_bad s i hi10 hb')
              rw [okc_of_dig _ _ (by omega) (by omega)] at hb'
              generalize chr s i = c at *
              have hcc : c < 48 ∨ 57 < c := by simp at hb'; omega
              clear hst hb hb' hdec
              rcases hcc with hcc | hcc
              · go_wp2
                exact bodyPost_ret (v := .tuple #[.agg #[.int .i64 0, .int .i64 0, .int .i64 0], .int .i64 4]) (by simp [results, Try.results12, go_sem, r0, r1, r2]) rfl ⟨ret_day HB.out, Ext.setCell (Ext.setCell (Ext.setCell XW (Nat.le_refl _) _) (Nat.le_refl _) _) (Nat.le_refl _) _⟩
              · have hcc' : decide ((c : Int) < 48) = false := decide_eq_false (by omega)
                go_wp2
                exact bodyPost_ret (v := .tuple #[.agg #[.int .i64 0, .int .i64 0, .int .i64 0], .int .i64 4]) (by simp [results, Try.results12, go_sem, r0, r1, r2]) rfl ⟨ret_day HB.out, Ext.setCell (Ext.setCell (Ext.setCell XW (Nat.le_refl _) _) (Nat.le_refl _) _) (Nat.le_refl _) _⟩
          · have HB := Lib.hid (readR_bad s i hi10 (by rw [okc_of_dig _ _ (by omega) (by omega)]; simp; omega))
            have hle := decode_le s i
            generalize (Utf8.decode s i).1 = r at *
            have hcc' : decide ((r : Int) < 48) = false := decide_eq_false (by omega)
            clear hitW
            go_wp2
            exact bodyPost_ret (v := .tuple #[.agg #[.int .i64 0, .int .i64 0, .int .i64 0], .int .i64 4]) (by simp [results, Try.results12, go_sem, r0, r1, r2]) rfl ⟨ret_day HB.out, Ext.setCell (Ext.setCell (Ext.setCell XW (Nat.le_refl _) _) (Nat.le_refl _) _) (Nat.le_refl _) _⟩
        · -- a sign's place
          subst hcls
          rcases rune_at s 7 hlt' with ⟨hdec, hasc⟩ | ⟨hhi, hch⟩
          · rw [hdec] at hnext hitW
            simp only at hnext hitW
            have hst := st_s (chr s) 7 (by decide)
            by_cases hb : okc (chr s) 7 = true
            · have hok2 : allOk (chr s) (7 + 1) = true := by rw [allOk_succ, hok, hb]; rfl
              rw [okc_of_sep _ _ (by decide), beq_iff_eq] at hb
              rw [hb] at hnext
              have HST := Lib.hid hst
              have HOK := Lib.hid hok2
              have HIT := Lib.hid hitW
              clear hst hok hok2 hitW hb hdec
              simp only [Int.cast_ofNat_Int] at hnext ⊢
              go_wp2
              refine ⟨⟨7 + 1, by omega, by rfl, HOK.out, HIT.out, by rw [HST.out]; exact C0, by rw [HST.out]; exact C1, by rw [HST.out]; exact C2, F1, R0, F0, XW⟩, ?_⟩
              rw [iterPos_of HIT.out, hpos]; omega
            · have hb' : okc (chr s) 7 = false := by simpa using hb
              have HB := Lib.hid (readR_bad s 7 (by decide) hb')
              rw [okc_of_sep _ _ (by decide)] at hb'
              generalize chr s 7 = c at *
              have hcc : ((c : Int) != 45) = true := by rw [bne_iff_ne]; simp at hb'; omega
              clear hst hb hb' hdec
              simp only [Int.cast_ofNat_Int] at hnext ⊢
              go_wp2
              exact bodyPost_ret (v := .tuple #[.agg #[.int .i64 0, .int .i64 0, .int .i64 0], .int .i64 4]) (by simp [results, Try.results12, go_sem, r0, r1, r2]) rfl ⟨ret_day HB.out, Ext.setCell (Ext.setCell (Ext.setCell XW (Nat.le_refl _) _) (Nat.le_refl _) _) (Nat.le_refl _) _⟩
          · have HB := Lib.hid (readR_bad s 7 (by decide) (by rw [okc_of_sep _ _ (by decide)]; simp; omega))
            have hle := decode_le s 7
            generalize (Utf8.decode s 7).1 = r at *
            have hcc : ((r : Int) != 45) = true := by rw [bne_iff_ne]; omega
            clear hitW
            simp only [Int.cast_ofNat_Int] at hnext ⊢
            go_wp2
            exact bodyPost_ret (v := .tuple #[.agg #[.int .i64 0, .int .i64 0, .int .i64 0], .int .i64 4]) (by simp [results, Try.results12, go_sem, r0, r1, r2]) rfl ⟨ret_day HB.out, Ext.setCell (Ext.setCell (Ext.setCell XW (Nat.le_refl _) _) (Nat.le_refl _) _) (Nat.le_refl _) _⟩
        · -- a digit's place
          have p0 : (if i ≤ 4 then (0 : Int) else if i ≤ 7 then 1 else 2) = 2 := by rw [if_neg (by omega), if_neg (by omega)]
          have p1 : (if i + 1 ≤ 4 then (0 : Int) else if i + 1 ≤ 7 then 1 else 2) = 2 := by rw [if_neg (by omega), if_neg (by omega)]
          have hne4 : ((i : Int) == 4) = false := by rw [beq_eq_false_iff_ne]; omega
          have hne7 : ((i : Int) == 7) = false := by rw [beq_eq_false_iff_ne]; omega
          have P1 := Lib.hid p1
          rw [p0]
          clear p0 p1
          rcases rune_at s i hlt' with ⟨hdec, hasc⟩ | ⟨hhi, hch⟩
          · rw [hdec] at hnext hitW
            simp only at hnext hitW
            have hst := st_c (chr s) i hcls
            by_cases hb : okc (chr s) i = true
            · have hd := okc_dig hb (by omega) (by omega)
              have hok2 : allOk (chr s) (i + 1) = true := by rw [allOk_succ, hok, hb]; rfl
              have hbd := st_bd (chr s) i (by omega) hok
              generalize chr s i = c at *
              generalize st (chr s) i = p at *
              obtain ⟨p0, p1, p2⟩ := p
              obtain ⟨⟨q1, q2⟩, ⟨q3, q4⟩, ⟨q5, q6⟩⟩ := hbd
              simp only at q1 q2 q3 q4 q5 q6 C0 C1 C2 hst
              obtain ⟨d1, d2⟩ := hd
              have HST := Lib.hid hst
              have HOK := Lib.hid hok2
              have HIT := Lib.hid hitW
              clear hst hok hok2 hitW hb hdec
              go_wp2
              refine ⟨⟨i + 1, by omega, by rw [P1.out], HOK.out, ?_, ?_, ?_, ?_, ?_, ?_, ?_, ?_⟩, ?_⟩
              · rw [Below.heap_setCell _ _ _ _ (by simp)]; exact HIT.out
              · rw [HST.out]; simp [go_sem, C0, C1, C2]
              · rw [HST.out]; simp [go_sem, C0, C1, C2]
              · rw [HST.out]; simp [go_sem, C0, C1, C2]
              · intro o; rw [World.frozen?_setCell]; exact F1 o
              · intro o ho; rw [World.cell?_setCell_other _ _ _ _ (by simp)]; exact R0 o ho
              · intro o; rw [World.frozen?_setCell]; exact F0 o
              · exact Ext.setCell XW (by simp) _
              · have e1 : (W.setCell ⟨w.heap.size + 1, 2, none⟩ (.int .i64 (10 * p2 + ((c : Int) - 48)))).iterPos (w.heap.size + 1 + 1) = i + 1 := by
                  refine iterPos_of (s := s) ?_
                  rw [Below.heap_setCell _ _ _ _ (by simp)]; exact HIT.out
                rw [e1, hpos]; omega
            · have hb' : okc (chr s) i = false := by simpa using hb
              have HB := Lib.hid (readR_bad s i hi10 hb')
              rw [okc_of_dig _ _ (by omega) (by omega)] at hb'
              generalize chr s i = c at *
              have hcc : c < 48 ∨ 57 < c := by simp at hb'; omega
              clear hst hb hb' hdec
              rcases hcc with hcc | hcc
              · go_wp2
                exact bodyPost_ret (v := .tuple #[.agg #[.int .i64 0, .int .i64 0, .int .i64 0], .int .i64 4]) (by simp [results, Try.results12, go_sem, r0, r1, r2]) rfl ⟨ret_day HB.out, Ext.setCell (Ext.setCell (Ext.setCell XW (Nat.le_refl _) _) (Nat.le_refl _) _) (Nat.le_refl _) _⟩
              · have hcc' : decide ((c : Int) < 48) = false := decide_eq_false (by omega)
                go_wp2
                exact bodyPost_ret (v := .tuple #[.agg #[.int .i64 0, .int .i64 0, .int .i64 0], .int .i64 4]) (by simp [results, Try.results12, go_sem, r0, r1, r2]) rfl ⟨ret_day HB.out, Ext.setCell (Ext.setCell (Ext.setCell XW (Nat.le_refl _) _) (Nat.le_refl _) _) (Nat.le_refl _) _⟩
          · have HB := Lib.hid (readR_bad s i hi10 (by rw [okc_of_dig _ _ (by omega) (by omega)]; simp; omega))
            have hle := decode_le s i
            generalize (Utf8.decode s i).1 = r at *
            have hcc' : decide ((r : Int) < 48) = false := decide_eq_false (by omega)
            clear hitW
            go_wp2
            exact bodyPost_ret (v := .tuple #[.agg #[.int .i64 0, .int .i64 0, .int .i64 0], .int .i64 4]) (by simp [results, Try.results12, go_sem, r0, r1, r2]) rfl ⟨ret_day HB.out, Ext.setCell (Ext.setCell (Ext.setCell XW (Nat.le_refl _) _) (Nat.le_refl _) _) (Nat.le_refl _) _⟩
      · obtain rfl : i = 10 := by omega
        have hend := iter_end (P := Try.prog) wr (w.heap.size + 1 + 1) s 10 hit (by have := H10.out; omega)
        have hr : readR s = if dayB (st (chr s) 10).1 (st (chr s) 10).2.1 (st (chr s) 10).2.2 then ((st (chr s) 10).1, (st (chr s) 10).2.1, (st (chr s) 10).2.2, 0) else (0, 0, 0, 9) := by
          unfold readR
          rw [if_pos ⟨H10.out, hok⟩]
        have hkz := (Array.getElem?_eq_some_iff.1 hit).1
        have r0 := hr0 0 (by decide)
        have r1 := hr0 1 (by decide)
        have r2 := hr0 2 (by decide)
        clear hit hok hr0
        generalize st (chr s) 10 = p at *
        obtain ⟨p0, p1, p2⟩ := p
        simp only at hr c0 c1 c2
        cases hb : dayB p0 p1 p2
        all_goals
          rw [hb] at hr
          have HR := Lib.hid hr
          clear hr
          go_wp2_with fail
          refine (dateRight_is' p0 p1 p2 _ _ hb).mono ?_
          rintro e x ⟨rfl, hx2⟩
          obtain ⟨hcc, hff⟩ := Ext.bc hx2
          have g0 : x.cell? ⟨w.heap.size, 0, none⟩ = some (.int .i64 0) := by rw [hcc _ _ (by simp; omega), World.cell?_alloc_past _ _ _ (by first | omega | (simp; omega))]; exact r0
          have g1 : x.cell? ⟨w.heap.size, 1, none⟩ = some (.int .i64 0) := by rw [hcc _ _ (by simp; omega), World.cell?_alloc_past _ _ _ (by first | omega | (simp; omega))]; exact r1
          have g2 : x.cell? ⟨w.heap.size, 2, none⟩ = some (.int .i64 0) := by rw [hcc _ _ (by simp; omega), World.cell?_alloc_past _ _ _ (by first | omega | (simp; omega))]; exact r2
          have g3 : ∀ o, x.frozen? ⟨w.heap.size, o, none⟩ = false := fun o => by rw [hff _ _ (by simp; omega), World.frozen?_alloc_past _ _ _ (by first | omega | (simp; omega))]; exact hf0 o
          have g4 : x.cell? ⟨wr.heap.size, 0, none⟩ = some (.int .i64 p0) := by rw [hcc _ _ (by simp), World.cell?_alloc_at _ _ _ _ rfl]; rfl
          have g5 : x.cell? ⟨wr.heap.size, 1, none⟩ = some (.int .i64 p1) := by rw [hcc _ _ (by simp), World.cell?_alloc_at _ _ _ _ rfl]; rfl
          have g6 : x.cell? ⟨wr.heap.size, 2, none⟩ = some (.int .i64 p2) := by rw [hcc _ _ (by simp), World.cell?_alloc_at _ _ _ _ rfl]; rfl
          have gx : Ext w x := (by repeat (first | exact Ext.refl _ | assumption | refine Ext.trans ?_ (by assumption) | refine Ext.alloc ?_ _ | refine Ext.drew ?_ | refine Ext.drewN ?_ _))
          clear hcc hff hx2
          go_wp2
          first
            | exact bodyPost_ret (v := .tuple #[.agg #[.int .i64 p0, .int .i64 p1, .int .i64 p2], .int .i64 0]) (by simp [results, Try.results12, go_sem, g0, g1, g2]) rfl ⟨ret_day HR.out, Ext.setCell (Ext.setCell (Ext.setCell gx (Nat.le_refl _) _) (Nat.le_refl _) _) (Nat.le_refl _) _⟩
            | exact bodyPost_ret (v := .tuple #[.agg #[.int .i64 0, .int .i64 0, .int .i64 0], .int .i64 9]) (by simp [results, Try.results12, go_sem, g0, g1, g2]) rfl ⟨ret_day HR.out, Ext.setCell (Ext.setCell (Ext.setCell gx (Nat.le_refl _) _) (Nat.le_refl _) _) (Nat.le_refl _) _⟩
  · have h10b : ((s.size : Int) != 10) = true := by rw [bne_iff_ne]; omega
    have hr : readR s = (0, 0, 0, 4) := by unfold readR; rw [if_neg (fun h => h10 h.1)]
    have HR := Lib.hid hr
    clear hr h10
    go_enter Try.func12, Try.ntmps12
    go_wp2
    refine bodyPost_ret (v := .tuple #[.agg #[.int .i64 0, .int .i64 0, .int .i64 0], .int .i64 4]) (by simp [results, Try.results12, go_sem]) rfl ⟨ret_day HR.out, (by repeat (first | exact Ext.refl _ | assumption | refine Ext.trans ?_ (by assumption) | refine Ext.alloc ?_ _ | refine Ext.drew ?_ | refine Ext.drewN ?_ _))⟩
end Go.Proofs.Yteoohgkaejgoaaa
