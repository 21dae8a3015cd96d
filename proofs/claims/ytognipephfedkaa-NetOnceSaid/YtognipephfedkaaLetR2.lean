/- The document's own answer: RightLetter, kind 2. (Written by genRight.py.) -/
import Derived.Test.YtognipephfedkaaLetF
import Derived.Test.YtognipephfedkaaCheap
import Derived.BigRegion
namespace Go.Proofs.Ytognipephfedkaa
open Go.RowKit

set_option maxHeartbeats 16000000 in
set_option maxRecDepth 100000 in
theorem ref2_any (m : Lt) (hk : m.kind = 2) (hb : BaseP m) (a : Option Addr) (c n : Nat) (es : List Ent) (hn : es.length = n) (w : World) : Calls Try.prog 18 #[m.agg (.slice a n c)] w fun e w' => RetB (RightP m es) e ∧ Ext w w' := by
  obtain ⟨kind, fr, to, te, ix, at_, co, me, off, sz, yes, data⟩ := m
  simp only [BaseP] at hk hb
  subst hk
  obtain ⟨⟨p2, p3⟩, ⟨p4, p5⟩, p6, ⟨p7, p8⟩, ⟨p9, p10⟩, ⟨p11, p12⟩, p13, p14⟩ := hb
  have q2 : ¬ fr < 0 := by omega
  have q3 : ¬ 7 ≤ fr := by omega
  have q4 : ¬ to < 0 := by omega
  have q5 : ¬ 7 ≤ to := by omega
  have q6 : (fr == to) = false := beq_eq_false_iff_ne.2 p6
  have q7 : ¬ te < 1 := by omega
  have q8 : ¬ (1099511627776 : Int) < te := by omega
  have q9 : ¬ ix < 0 := by omega
  have q10 : ¬ (1099511627776 : Int) < ix := by omega
  have q11 : ¬ at_ < 0 := by omega
  have q12 : ¬ te < at_ := by omega
  have q13 : ¬ co < 0 := by omega
  have q14 : ¬ (1099511627776 : Int) < co := by omega
  have hs := str_eq_iff data ⟨#[]⟩
  have h0 : (⟨#[]⟩ : ByteArray).toList = [] := by rw [ByteArray.toList_eq]
  rw [h0] at hs
  have HS := Lib.hid hs
  have HN := Lib.hid hn
  clear hs h0 hn
  simp only [Lt.agg]
  have hX : Ext w (w.alloc (.cells #[.int .i64 2, .int .i64 fr, .int .i64 to, .int .i64 te, .int .i64 ix, .int .i64 at_, .int .i64 co, .int .i64 me, .int .i64 off, .int .i64 sz, .bool yes, .string data, .slice a n c] 27)) := (Ext.refl w).alloc _
  have c0 : (w.alloc (.cells #[.int .i64 2, .int .i64 fr, .int .i64 to, .int .i64 te, .int .i64 ix, .int .i64 at_, .int .i64 co, .int .i64 me, .int .i64 off, .int .i64 sz, .bool yes, .string data, .slice a n c] 27)).cell? ⟨w.heap.size, 0, none⟩ = some (.int .i64 2) := by simp [go_sem]
  have c1 : (w.alloc (.cells #[.int .i64 2, .int .i64 fr, .int .i64 to, .int .i64 te, .int .i64 ix, .int .i64 at_, .int .i64 co, .int .i64 me, .int .i64 off, .int .i64 sz, .bool yes, .string data, .slice a n c] 27)).cell? ⟨w.heap.size, 1, none⟩ = some (.int .i64 fr) := by simp [go_sem]
  have c2 : (w.alloc (.cells #[.int .i64 2, .int .i64 fr, .int .i64 to, .int .i64 te, .int .i64 ix, .int .i64 at_, .int .i64 co, .int .i64 me, .int .i64 off, .int .i64 sz, .bool yes, .string data, .slice a n c] 27)).cell? ⟨w.heap.size, 2, none⟩ = some (.int .i64 to) := by simp [go_sem]
  have c3 : (w.alloc (.cells #[.int .i64 2, .int .i64 fr, .int .i64 to, .int .i64 te, .int .i64 ix, .int .i64 at_, .int .i64 co, .int .i64 me, .int .i64 off, .int .i64 sz, .bool yes, .string data, .slice a n c] 27)).cell? ⟨w.heap.size, 3, none⟩ = some (.int .i64 te) := by simp [go_sem]
  have c4 : (w.alloc (.cells #[.int .i64 2, .int .i64 fr, .int .i64 to, .int .i64 te, .int .i64 ix, .int .i64 at_, .int .i64 co, .int .i64 me, .int .i64 off, .int .i64 sz, .bool yes, .string data, .slice a n c] 27)).cell? ⟨w.heap.size, 4, none⟩ = some (.int .i64 ix) := by simp [go_sem]
  have c5 : (w.alloc (.cells #[.int .i64 2, .int .i64 fr, .int .i64 to, .int .i64 te, .int .i64 ix, .int .i64 at_, .int .i64 co, .int .i64 me, .int .i64 off, .int .i64 sz, .bool yes, .string data, .slice a n c] 27)).cell? ⟨w.heap.size, 5, none⟩ = some (.int .i64 at_) := by simp [go_sem]
  have c6 : (w.alloc (.cells #[.int .i64 2, .int .i64 fr, .int .i64 to, .int .i64 te, .int .i64 ix, .int .i64 at_, .int .i64 co, .int .i64 me, .int .i64 off, .int .i64 sz, .bool yes, .string data, .slice a n c] 27)).cell? ⟨w.heap.size, 6, none⟩ = some (.int .i64 co) := by simp [go_sem]
  have c7 : (w.alloc (.cells #[.int .i64 2, .int .i64 fr, .int .i64 to, .int .i64 te, .int .i64 ix, .int .i64 at_, .int .i64 co, .int .i64 me, .int .i64 off, .int .i64 sz, .bool yes, .string data, .slice a n c] 27)).cell? ⟨w.heap.size, 7, none⟩ = some (.int .i64 me) := by simp [go_sem]
  have c8 : (w.alloc (.cells #[.int .i64 2, .int .i64 fr, .int .i64 to, .int .i64 te, .int .i64 ix, .int .i64 at_, .int .i64 co, .int .i64 me, .int .i64 off, .int .i64 sz, .bool yes, .string data, .slice a n c] 27)).cell? ⟨w.heap.size, 8, none⟩ = some (.int .i64 off) := by simp [go_sem]
  have c9 : (w.alloc (.cells #[.int .i64 2, .int .i64 fr, .int .i64 to, .int .i64 te, .int .i64 ix, .int .i64 at_, .int .i64 co, .int .i64 me, .int .i64 off, .int .i64 sz, .bool yes, .string data, .slice a n c] 27)).cell? ⟨w.heap.size, 9, none⟩ = some (.int .i64 sz) := by simp [go_sem]
  have c10 : (w.alloc (.cells #[.int .i64 2, .int .i64 fr, .int .i64 to, .int .i64 te, .int .i64 ix, .int .i64 at_, .int .i64 co, .int .i64 me, .int .i64 off, .int .i64 sz, .bool yes, .string data, .slice a n c] 27)).cell? ⟨w.heap.size, 10, none⟩ = some (.bool yes) := by simp [go_sem]
  have c11 : (w.alloc (.cells #[.int .i64 2, .int .i64 fr, .int .i64 to, .int .i64 te, .int .i64 ix, .int .i64 at_, .int .i64 co, .int .i64 me, .int .i64 off, .int .i64 sz, .bool yes, .string data, .slice a n c] 27)).cell? ⟨w.heap.size, 11, none⟩ = some (.string data) := by simp [go_sem]
  have c12 : (w.alloc (.cells #[.int .i64 2, .int .i64 fr, .int .i64 to, .int .i64 te, .int .i64 ix, .int .i64 at_, .int .i64 co, .int .i64 me, .int .i64 off, .int .i64 sz, .bool yes, .string data, .slice a n c] 27)).cell? ⟨w.heap.size, 12, none⟩ = some (.slice a n c) := by simp [go_sem]
  have hz : w.heap.size < (w.alloc (.cells #[.int .i64 2, .int .i64 fr, .int .i64 to, .int .i64 te, .int .i64 ix, .int .i64 at_, .int .i64 co, .int .i64 me, .int .i64 off, .int .i64 sz, .bool yes, .string data, .slice a n c] 27)).heap.size := by simp
  go_enter Try.func18, Try.ntmps18
  go_upto_region 1 with (fail)
  generalize (w.alloc (.cells #[.int .i64 2, .int .i64 fr, .int .i64 to, .int .i64 te, .int .i64 ix, .int .i64 at_, .int .i64 co, .int .i64 me, .int .i64 off, .int .i64 sz, .bool yes, .string data, .slice a n c] 27)) = W at *
  try dsimp only [List.append]
  refine wp_region_cheap ?_
  repeat (go_big_quiet_step (fail))
  refine wpQuiet_nil ?_
  clear q2 q3 q4 q5 q6 q7 q8 q9 q10 q11 q12 q13 q14
  go_wp2
  go_upto_region 34 with (fail)
  all_goals first
    | (go_ret; refine ⟨⟨_, rfl, ?_⟩, (by repeat (first | with_reducible exact Ext.refl _ | with_reducible assumption | with_reducible refine Ext.drew ?_ | with_reducible refine Ext.setCell ?_ (Nat.le_of_lt hz) _ | with_reducible refine Ext.alloc ?_ _))⟩; have hs := HS.out; have hn := HN.out; clear HS HN; simp only [RightP, NamedP, PieceP]; grind; done)
    | skip
  all_goals
    by_cases e_ix : ix = 0
    · subst e_ix
      by_cases e_at_ : at_ = 0
      · subst e_at_
        by_cases e_co : co = 0
        · subst e_co
          by_cases e_me : me = 0
          · subst e_me
            by_cases e_off : off = 0
            · subst e_off
              by_cases e_sz : sz = 0
              · subst e_sz
                by_cases e_data : data = ⟨#[]⟩
                · subst e_data
                  try dsimp only [List.append]
                  refine wp_region_cheap ?_
                  repeat (go_big_quiet_step (fail))
                  refine wpQuiet_nil ?_
                  go_wp2
                  go_ret
                  refine ⟨⟨_, rfl, ?_⟩, (by repeat (first | with_reducible exact Ext.refl _ | with_reducible assumption | with_reducible refine Ext.drew ?_ | with_reducible refine Ext.setCell ?_ (Nat.le_of_lt hz) _ | with_reducible refine Ext.alloc ?_ _))⟩
                  have hs := HS.out
                  have hn := HN.out
                  clear HS HN
                  clear c0 c1 c2 c3 c4 c5 c6 c7 c8 c9 c10 c11 c12
                  simp only [RightP, NamedP, PieceP]
                  grind
                · have e_d1 := str_ne data ⟨#[]⟩ e_data
                  have e_d2 : data.toList.isEmpty = false := str_isE data e_data
                  have e_d3 : ¬ data.toList = [] := fun h => e_data (HS.out.1 h)
                  try dsimp only [List.append]
                  refine wp_region_cheap ?_
                  repeat (go_big_quiet_step (fail))
                  refine wpQuiet_nil ?_
                  go_wp2
                  go_ret
                  refine ⟨⟨_, rfl, ?_⟩, (by repeat (first | with_reducible exact Ext.refl _ | with_reducible assumption | with_reducible refine Ext.drew ?_ | with_reducible refine Ext.setCell ?_ (Nat.le_of_lt hz) _ | with_reducible refine Ext.alloc ?_ _))⟩
                  have hs := HS.out
                  have hn := HN.out
                  clear HS HN
                  clear c0 c1 c2 c3 c4 c5 c6 c7 c8 c9 c10 c11 c12
                  simp only [RightP, NamedP, PieceP]
                  grind
              · have f_sz : (sz == 0) = false := beq_eq_false_iff_ne.2 e_sz
                try dsimp only [List.append]
                refine wp_region_cheap ?_
                repeat (go_big_quiet_step (fail))
                refine wpQuiet_nil ?_
                go_wp2
                go_ret
                refine ⟨⟨_, rfl, ?_⟩, (by repeat (first | with_reducible exact Ext.refl _ | with_reducible assumption | with_reducible refine Ext.drew ?_ | with_reducible refine Ext.setCell ?_ (Nat.le_of_lt hz) _ | with_reducible refine Ext.alloc ?_ _))⟩
                have hs := HS.out
                have hn := HN.out
                clear HS HN
                clear c0 c1 c2 c3 c4 c5 c6 c7 c8 c9 c10 c11 c12
                simp only [RightP, NamedP, PieceP]
                grind
            · have f_off : (off == 0) = false := beq_eq_false_iff_ne.2 e_off
              try dsimp only [List.append]
              refine wp_region_cheap ?_
              repeat (go_big_quiet_step (fail))
              refine wpQuiet_nil ?_
              go_wp2
              go_ret
              refine ⟨⟨_, rfl, ?_⟩, (by repeat (first | with_reducible exact Ext.refl _ | with_reducible assumption | with_reducible refine Ext.drew ?_ | with_reducible refine Ext.setCell ?_ (Nat.le_of_lt hz) _ | with_reducible refine Ext.alloc ?_ _))⟩
              have hs := HS.out
              have hn := HN.out
              clear HS HN
              clear c0 c1 c2 c3 c4 c5 c6 c7 c8 c9 c10 c11 c12
              simp only [RightP, NamedP, PieceP]
              grind
          · have f_me : (me == 0) = false := beq_eq_false_iff_ne.2 e_me
            try dsimp only [List.append]
            refine wp_region_cheap ?_
            repeat (go_big_quiet_step (fail))
            refine wpQuiet_nil ?_
            go_wp2
            go_ret
            refine ⟨⟨_, rfl, ?_⟩, (by repeat (first | with_reducible exact Ext.refl _ | with_reducible assumption | with_reducible refine Ext.drew ?_ | with_reducible refine Ext.setCell ?_ (Nat.le_of_lt hz) _ | with_reducible refine Ext.alloc ?_ _))⟩
            have hs := HS.out
            have hn := HN.out
            clear HS HN
            clear c0 c1 c2 c3 c4 c5 c6 c7 c8 c9 c10 c11 c12
            simp only [RightP, NamedP, PieceP]
            grind
        · have f_co : (co == 0) = false := beq_eq_false_iff_ne.2 e_co
          try dsimp only [List.append]
          refine wp_region_cheap ?_
          repeat (go_big_quiet_step (fail))
          refine wpQuiet_nil ?_
          go_wp2
          go_ret
          refine ⟨⟨_, rfl, ?_⟩, (by repeat (first | with_reducible exact Ext.refl _ | with_reducible assumption | with_reducible refine Ext.drew ?_ | with_reducible refine Ext.setCell ?_ (Nat.le_of_lt hz) _ | with_reducible refine Ext.alloc ?_ _))⟩
          have hs := HS.out
          have hn := HN.out
          clear HS HN
          clear c0 c1 c2 c3 c4 c5 c6 c7 c8 c9 c10 c11 c12
          simp only [RightP, NamedP, PieceP]
          grind
      · have f_at_ : (at_ == 0) = false := beq_eq_false_iff_ne.2 e_at_
        try dsimp only [List.append]
        refine wp_region_cheap ?_
        repeat (go_big_quiet_step (fail))
        refine wpQuiet_nil ?_
        go_wp2
        go_ret
        refine ⟨⟨_, rfl, ?_⟩, (by repeat (first | with_reducible exact Ext.refl _ | with_reducible assumption | with_reducible refine Ext.drew ?_ | with_reducible refine Ext.setCell ?_ (Nat.le_of_lt hz) _ | with_reducible refine Ext.alloc ?_ _))⟩
        have hs := HS.out
        have hn := HN.out
        clear HS HN
        clear c0 c1 c2 c3 c4 c5 c6 c7 c8 c9 c10 c11 c12
        simp only [RightP, NamedP, PieceP]
        grind
    · have f_ix : (ix == 0) = false := beq_eq_false_iff_ne.2 e_ix
      try dsimp only [List.append]
      refine wp_region_cheap ?_
      repeat (go_big_quiet_step (fail))
      refine wpQuiet_nil ?_
      go_wp2
      go_ret
      refine ⟨⟨_, rfl, ?_⟩, (by repeat (first | with_reducible exact Ext.refl _ | with_reducible assumption | with_reducible refine Ext.drew ?_ | with_reducible refine Ext.setCell ?_ (Nat.le_of_lt hz) _ | with_reducible refine Ext.alloc ?_ _))⟩
      have hs := HS.out
      have hn := HN.out
      clear HS HN
      clear c0 c1 c2 c3 c4 c5 c6 c7 c8 c9 c10 c11 c12
      simp only [RightP, NamedP, PieceP]
      grind
end Go.Proofs.Ytognipephfedkaa
