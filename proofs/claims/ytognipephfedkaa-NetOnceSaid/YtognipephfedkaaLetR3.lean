/- The document's own answer: RightLetter, kind 3. (Written by genRight.py.) -/
import Derived.Test.YtognipephfedkaaLetF
import Derived.Test.YtognipephfedkaaCheap
import Derived.BigRegion
import Derived.Test.YtognipephfedkaaQuietS
namespace Go.Proofs.Ytognipephfedkaa
open Go.RowKit

/-- RightEntry's answer, known ahead. -/
theorem refEntry_is (x : Ent) (b t : Int) (q : Bool) (hq : q = true ↔ FitsP x b t) (w : World) : Calls Try.prog 27 #[.agg #[.int .i64 x.term, .int .i64 x.members, .string x.data], .int .i64 b, .int .i64 t] w fun e w' => e = .returned (.bool q) ∧ Ext w w' := by
  refine (refEntry_any x b t w).mono ?_
  rintro e w' ⟨⟨q', rfl, h⟩, hx⟩
  have : q' = q := by rw [Bool.eq_iff_iff, h, hq]
  exact ⟨by rw [this], hx⟩
theorem bool_of (P : Prop) : ∃ q : Bool, (q = true ↔ P) := by
  by_cases h : P
  · exact ⟨true, by simp [h]⟩
  · exact ⟨false, by simp [h]⟩
set_option maxHeartbeats 16000000 in
set_option maxRecDepth 100000 in
theorem ref3_any (m : Lt) (hk : m.kind = 3) (hb : BaseP m) (a : Option Addr) (c : Nat) (es : List Ent) (w : World) (hl : SlS Ent.cells 3 w (.slice a es.length c) es) (hlen : es.length ≤ 1000000) : Calls Try.prog 18 #[m.agg (.slice a es.length c)] w fun e w' => RetB (RightP m es) e ∧ Ext w w' := by
  obtain ⟨kind, fr, to, te, ix, at_, co, me, off, sz, yes, data⟩ := m
  simp only [BaseP] at hk hb
  subst hk
  obtain ⟨⟨p2, p3⟩, ⟨p4, p5⟩, p6, ⟨p7, p8⟩, ⟨p9, p10⟩, ⟨p11, p12⟩, p13, p14⟩ := hb
  obtain ⟨n, hn⟩ : ∃ n, es.length = n := ⟨_, rfl⟩
  have HL : Hid (SlS Ent.cells 3 w (.slice a es.length c) es) := Lib.hid hl
  have hnm : n ≤ 1000000 := by omega
  clear hl hlen
  rw [hn] at HL ⊢
  have q2 : ¬ fr < 0 := by omega
  have q3 : ¬ 7 ≤ fr := by omega
  have q4 : ¬ to < 0 := by omega
  have q5 : ¬ 7 ≤ to := by omega
  have q6 : (fr == to) = false := beq_eq_false_iff_ne.2 p6
  have q7 : ¬ te < 1 := by omega
  have q8 : ¬ (1099511627776 : Int) < te := by omega
  have q9 : ¬ ix < 0 := by omega
  have q10 : ¬ (1099511627776 : Int) < ix := by omega
  have q11 : ¬ at_ < 0 := by omega
  have q12 : ¬ te < at_ := by omega
  have q13 : ¬ co < 0 := by omega
  have q14 : ¬ (1099511627776 : Int) < co := by omega
  have hs := str_eq_iff data ⟨#[]⟩
  have h0 : (⟨#[]⟩ : ByteArray).toList = [] := by rw [ByteArray.toList_eq]
  rw [h0] at hs
  have HS := Lib.hid hs
  have HN := Lib.hid hn
  clear hs h0 hn
  simp only [Lt.agg]
  have hX : Ext w (w.alloc (.cells #[.int .i64 3, .int .i64 fr, .int .i64 to, .int .i64 te, .int .i64 ix, .int .i64 at_, .int .i64 co, .int .i64 me, .int .i64 off, .int .i64 sz, .bool yes, .string data, .slice a n c] 27)) := (Ext.refl w).alloc _
  have c0 : (w.alloc (.cells #[.int .i64 3, .int .i64 fr, .int .i64 to, .int .i64 te, .int .i64 ix, .int .i64 at_, .int .i64 co, .int .i64 me, .int .i64 off, .int .i64 sz, .bool yes, .string data, .slice a n c] 27)).cell? ⟨w.heap.size, 0, none⟩ = some (.int .i64 3) := by simp [go_sem]
  have c1 : (w.alloc (.cells #[.int .i64 3, .int .i64 fr, .int .i64 to, .int .i64 te, .int .i64 ix, .int .i64 at_, .int .i64 co, .int .i64 me, .int .i64 off, .int .i64 sz, .bool yes, .string data, .slice a n c] 27)).cell? ⟨w.heap.size, 1, none⟩ = some (.int .i64 fr) := by simp [go_sem]
  have c2 : (w.alloc (.cells #[.int .i64 3, .int .i64 fr, .int .i64 to, .int .i64 te, .int .i64 ix, .int .i64 at_, .int .i64 co, .int .i64 me, .int .i64 off, .int .i64 sz, .bool yes, .string data, .slice a n c] 27)).cell? ⟨w.heap.size, 2, none⟩ = some (.int .i64 to) := by simp [go_sem]
  have c3 : (w.alloc (.cells #[.int .i64 3, .int .i64 fr, .int .i64 to, .int .i64 te, .int .i64 ix, .int .i64 at_, .int .i64 co, .int .i64 me, .int .i64 off, .int .i64 sz, .bool yes, .string data, .slice a n c] 27)).cell? ⟨w.heap.size, 3, none⟩ = some (.int .i64 te) := by simp [go_sem]
  have c4 : (w.alloc (.cells #[.int .i64 3, .int .i64 fr, .int .i64 to, .int .i64 te, .int .i64 ix, .int .i64 at_, .int .i64 co, .int .i64 me, .int .i64 off, .int .i64 sz, .bool yes, .string data, .slice a n c] 27)).cell? ⟨w.heap.size, 4, none⟩ = some (.int .i64 ix) := by simp [go_sem]
  have c5 : (w.alloc (.cells #[.int .i64 3, .int .i64 fr, .int .i64 to, .int .i64 te, .int .i64 ix, .int .i64 at_, .int .i64 co, .int .i64 me, .int .i64 off, .int .i64 sz, .bool yes, .string data, .slice a n c] 27)).cell? ⟨w.heap.size, 5, none⟩ = some (.int .i64 at_) := by simp [go_sem]
  have c6 : (w.alloc (.cells #[.int .i64 3, .int .i64 fr, .int .i64 to, .int .i64 te, .int .i64 ix, .int .i64 at_, .int .i64 co, .int .i64 me, .int .i64 off, .int .i64 sz, .bool yes, .string data, .slice a n c] 27)).cell? ⟨w.heap.size, 6, none⟩ = some (.int .i64 co) := by simp [go_sem]
  have c7 : (w.alloc (.cells #[.int .i64 3, .int .i64 fr, .int .i64 to, .int .i64 te, .int .i64 ix, .int .i64 at_, .int .i64 co, .int .i64 me, .int .i64 off, .int .i64 sz, .bool yes, .string data, .slice a n c] 27)).cell? ⟨w.heap.size, 7, none⟩ = some (.int .i64 me) := by simp [go_sem]
  have c8 : (w.alloc (.cells #[.int .i64 3, .int .i64 fr, .int .i64 to, .int .i64 te, .int .i64 ix, .int .i64 at_, .int .i64 co, .int .i64 me, .int .i64 off, .int .i64 sz, .bool yes, .string data, .slice a n c] 27)).cell? ⟨w.heap.size, 8, none⟩ = some (.int .i64 off) := by simp [go_sem]
  have c9 : (w.alloc (.cells #[.int .i64 3, .int .i64 fr, .int .i64 to, .int .i64 te, .int .i64 ix, .int .i64 at_, .int .i64 co, .int .i64 me, .int .i64 off, .int .i64 sz, .bool yes, .string data, .slice a n c] 27)).cell? ⟨w.heap.size, 9, none⟩ = some (.int .i64 sz) := by simp [go_sem]
  have c10 : (w.alloc (.cells #[.int .i64 3, .int .i64 fr, .int .i64 to, .int .i64 te, .int .i64 ix, .int .i64 at_, .int .i64 co, .int .i64 me, .int .i64 off, .int .i64 sz, .bool yes, .string data, .slice a n c] 27)).cell? ⟨w.heap.size, 10, none⟩ = some (.bool yes) := by simp [go_sem]
  have c11 : (w.alloc (.cells #[.int .i64 3, .int .i64 fr, .int .i64 to, .int .i64 te, .int .i64 ix, .int .i64 at_, .int .i64 co, .int .i64 me, .int .i64 off, .int .i64 sz, .bool yes, .string data, .slice a n c] 27)).cell? ⟨w.heap.size, 11, none⟩ = some (.string data) := by simp [go_sem]
  have c12 : (w.alloc (.cells #[.int .i64 3, .int .i64 fr, .int .i64 to, .int .i64 te, .int .i64 ix, .int .i64 at_, .int .i64 co, .int .i64 me, .int .i64 off, .int .i64 sz, .bool yes, .string data, .slice a n c] 27)).cell? ⟨w.heap.size, 12, none⟩ = some (.slice a n c) := by simp [go_sem]
  have hz : w.heap.size < (w.alloc (.cells #[.int .i64 3, .int .i64 fr, .int .i64 to, .int .i64 te, .int .i64 ix, .int .i64 at_, .int .i64 co, .int .i64 me, .int .i64 off, .int .i64 sz, .bool yes, .string data, .slice a n c] 27)).heap.size := by simp
  go_enter Try.func18, Try.ntmps18
  go_upto_region 1 with (fail)
  generalize (w.alloc (.cells #[.int .i64 3, .int .i64 fr, .int .i64 to, .int .i64 te, .int .i64 ix, .int .i64 at_, .int .i64 co, .int .i64 me, .int .i64 off, .int .i64 sz, .bool yes, .string data, .slice a n c] 27)) = W at *
  try dsimp only [List.append]
  refine wp_region_cheap ?_
  repeat (go_big_quiet_step (fail))
  refine wpQuiet_nil ?_
  clear q2 q3 q4 q5 q6 q7 q8 q9 q10 q11 q12 q13 q14
  go_wp2
  have hXB : Ext w (W.alloc (.cells #[.int .i64 3, .int .i64 fr, .int .i64 to, .int .i64 te, .int .i64 0, .int .i64 0, .int .i64 0, .int .i64 0, .int .i64 0, .int .i64 0, .bool false, .string ⟨#[]⟩, .slice none 0 0] 27)) := hX.alloc _
  have b4 : (W.alloc (.cells #[.int .i64 3, .int .i64 fr, .int .i64 to, .int .i64 te, .int .i64 0, .int .i64 0, .int .i64 0, .int .i64 0, .int .i64 0, .int .i64 0, .bool false, .string ⟨#[]⟩, .slice none 0 0] 27)).cell? ⟨W.heap.size, 4, none⟩ = some (.int .i64 0) := by simp [go_sem]
  have fb4 : (W.alloc (.cells #[.int .i64 3, .int .i64 fr, .int .i64 to, .int .i64 te, .int .i64 0, .int .i64 0, .int .i64 0, .int .i64 0, .int .i64 0, .int .i64 0, .bool false, .string ⟨#[]⟩, .slice none 0 0] 27)).frozen? ⟨W.heap.size, 4, none⟩ = false := by simp [go_sem]
  have b5 : (W.alloc (.cells #[.int .i64 3, .int .i64 fr, .int .i64 to, .int .i64 te, .int .i64 0, .int .i64 0, .int .i64 0, .int .i64 0, .int .i64 0, .int .i64 0, .bool false, .string ⟨#[]⟩, .slice none 0 0] 27)).cell? ⟨W.heap.size, 5, none⟩ = some (.int .i64 0) := by simp [go_sem]
  have fb5 : (W.alloc (.cells #[.int .i64 3, .int .i64 fr, .int .i64 to, .int .i64 te, .int .i64 0, .int .i64 0, .int .i64 0, .int .i64 0, .int .i64 0, .int .i64 0, .bool false, .string ⟨#[]⟩, .slice none 0 0] 27)).frozen? ⟨W.heap.size, 5, none⟩ = false := by simp [go_sem]
  have b6 : (W.alloc (.cells #[.int .i64 3, .int .i64 fr, .int .i64 to, .int .i64 te, .int .i64 0, .int .i64 0, .int .i64 0, .int .i64 0, .int .i64 0, .int .i64 0, .bool false, .string ⟨#[]⟩, .slice none 0 0] 27)).cell? ⟨W.heap.size, 6, none⟩ = some (.int .i64 0) := by simp [go_sem]
  have fb6 : (W.alloc (.cells #[.int .i64 3, .int .i64 fr, .int .i64 to, .int .i64 te, .int .i64 0, .int .i64 0, .int .i64 0, .int .i64 0, .int .i64 0, .int .i64 0, .bool false, .string ⟨#[]⟩, .slice none 0 0] 27)).frozen? ⟨W.heap.size, 6, none⟩ = false := by simp [go_sem]
  have b7 : (W.alloc (.cells #[.int .i64 3, .int .i64 fr, .int .i64 to, .int .i64 te, .int .i64 0, .int .i64 0, .int .i64 0, .int .i64 0, .int .i64 0, .int .i64 0, .bool false, .string ⟨#[]⟩, .slice none 0 0] 27)).cell? ⟨W.heap.size, 7, none⟩ = some (.int .i64 0) := by simp [go_sem]
  have fb7 : (W.alloc (.cells #[.int .i64 3, .int .i64 fr, .int .i64 to, .int .i64 te, .int .i64 0, .int .i64 0, .int .i64 0, .int .i64 0, .int .i64 0, .int .i64 0, .bool false, .string ⟨#[]⟩, .slice none 0 0] 27)).frozen? ⟨W.heap.size, 7, none⟩ = false := by simp [go_sem]
  have b8 : (W.alloc (.cells #[.int .i64 3, .int .i64 fr, .int .i64 to, .int .i64 te, .int .i64 0, .int .i64 0, .int .i64 0, .int .i64 0, .int .i64 0, .int .i64 0, .bool false, .string ⟨#[]⟩, .slice none 0 0] 27)).cell? ⟨W.heap.size, 8, none⟩ = some (.int .i64 0) := by simp [go_sem]
  have fb8 : (W.alloc (.cells #[.int .i64 3, .int .i64 fr, .int .i64 to, .int .i64 te, .int .i64 0, .int .i64 0, .int .i64 0, .int .i64 0, .int .i64 0, .int .i64 0, .bool false, .string ⟨#[]⟩, .slice none 0 0] 27)).frozen? ⟨W.heap.size, 8, none⟩ = false := by simp [go_sem]
  have b9 : (W.alloc (.cells #[.int .i64 3, .int .i64 fr, .int .i64 to, .int .i64 te, .int .i64 0, .int .i64 0, .int .i64 0, .int .i64 0, .int .i64 0, .int .i64 0, .bool false, .string ⟨#[]⟩, .slice none 0 0] 27)).cell? ⟨W.heap.size, 9, none⟩ = some (.int .i64 0) := by simp [go_sem]
  have fb9 : (W.alloc (.cells #[.int .i64 3, .int .i64 fr, .int .i64 to, .int .i64 te, .int .i64 0, .int .i64 0, .int .i64 0, .int .i64 0, .int .i64 0, .int .i64 0, .bool false, .string ⟨#[]⟩, .slice none 0 0] 27)).frozen? ⟨W.heap.size, 9, none⟩ = false := by simp [go_sem]
  have b10 : (W.alloc (.cells #[.int .i64 3, .int .i64 fr, .int .i64 to, .int .i64 te, .int .i64 0, .int .i64 0, .int .i64 0, .int .i64 0, .int .i64 0, .int .i64 0, .bool false, .string ⟨#[]⟩, .slice none 0 0] 27)).cell? ⟨W.heap.size, 10, none⟩ = some (.bool false) := by simp [go_sem]
  have fb10 : (W.alloc (.cells #[.int .i64 3, .int .i64 fr, .int .i64 to, .int .i64 te, .int .i64 0, .int .i64 0, .int .i64 0, .int .i64 0, .int .i64 0, .int .i64 0, .bool false, .string ⟨#[]⟩, .slice none 0 0] 27)).frozen? ⟨W.heap.size, 10, none⟩ = false := by simp [go_sem]
  have b11 : (W.alloc (.cells #[.int .i64 3, .int .i64 fr, .int .i64 to, .int .i64 te, .int .i64 0, .int .i64 0, .int .i64 0, .int .i64 0, .int .i64 0, .int .i64 0, .bool false, .string ⟨#[]⟩, .slice none 0 0] 27)).cell? ⟨W.heap.size, 11, none⟩ = some (.string ⟨#[]⟩) := by simp [go_sem]
  have fb11 : (W.alloc (.cells #[.int .i64 3, .int .i64 fr, .int .i64 to, .int .i64 te, .int .i64 0, .int .i64 0, .int .i64 0, .int .i64 0, .int .i64 0, .int .i64 0, .bool false, .string ⟨#[]⟩, .slice none 0 0] 27)).frozen? ⟨W.heap.size, 11, none⟩ = false := by simp [go_sem]
  have m0 : (W.alloc (.cells #[.int .i64 3, .int .i64 fr, .int .i64 to, .int .i64 te, .int .i64 0, .int .i64 0, .int .i64 0, .int .i64 0, .int .i64 0, .int .i64 0, .bool false, .string ⟨#[]⟩, .slice none 0 0] 27)).cell? ⟨w.heap.size, 0, none⟩ = some (.int .i64 3) := by simp [go_sem, hz, c0]
  have m1 : (W.alloc (.cells #[.int .i64 3, .int .i64 fr, .int .i64 to, .int .i64 te, .int .i64 0, .int .i64 0, .int .i64 0, .int .i64 0, .int .i64 0, .int .i64 0, .bool false, .string ⟨#[]⟩, .slice none 0 0] 27)).cell? ⟨w.heap.size, 1, none⟩ = some (.int .i64 fr) := by simp [go_sem, hz, c1]
  have m2 : (W.alloc (.cells #[.int .i64 3, .int .i64 fr, .int .i64 to, .int .i64 te, .int .i64 0, .int .i64 0, .int .i64 0, .int .i64 0, .int .i64 0, .int .i64 0, .bool false, .string ⟨#[]⟩, .slice none 0 0] 27)).cell? ⟨w.heap.size, 2, none⟩ = some (.int .i64 to) := by simp [go_sem, hz, c2]
  have m3 : (W.alloc (.cells #[.int .i64 3, .int .i64 fr, .int .i64 to, .int .i64 te, .int .i64 0, .int .i64 0, .int .i64 0, .int .i64 0, .int .i64 0, .int .i64 0, .bool false, .string ⟨#[]⟩, .slice none 0 0] 27)).cell? ⟨w.heap.size, 3, none⟩ = some (.int .i64 te) := by simp [go_sem, hz, c3]
  have m4 : (W.alloc (.cells #[.int .i64 3, .int .i64 fr, .int .i64 to, .int .i64 te, .int .i64 0, .int .i64 0, .int .i64 0, .int .i64 0, .int .i64 0, .int .i64 0, .bool false, .string ⟨#[]⟩, .slice none 0 0] 27)).cell? ⟨w.heap.size, 4, none⟩ = some (.int .i64 ix) := by simp [go_sem, hz, c4]
  have m5 : (W.alloc (.cells #[.int .i64 3, .int .i64 fr, .int .i64 to, .int .i64 te, .int .i64 0, .int .i64 0, .int .i64 0, .int .i64 0, .int .i64 0, .int .i64 0, .bool false, .string ⟨#[]⟩, .slice none 0 0] 27)).cell? ⟨w.heap.size, 5, none⟩ = some (.int .i64 at_) := by simp [go_sem, hz, c5]
  have m6 : (W.alloc (.cells #[.int .i64 3, .int .i64 fr, .int .i64 to, .int .i64 te, .int .i64 0, .int .i64 0, .int .i64 0, .int .i64 0, .int .i64 0, .int .i64 0, .bool false, .string ⟨#[]⟩, .slice none 0 0] 27)).cell? ⟨w.heap.size, 6, none⟩ = some (.int .i64 co) := by simp [go_sem, hz, c6]
  have m7 : (W.alloc (.cells #[.int .i64 3, .int .i64 fr, .int .i64 to, .int .i64 te, .int .i64 0, .int .i64 0, .int .i64 0, .int .i64 0, .int .i64 0, .int .i64 0, .bool false, .string ⟨#[]⟩, .slice none 0 0] 27)).cell? ⟨w.heap.size, 7, none⟩ = some (.int .i64 me) := by simp [go_sem, hz, c7]
  have m8 : (W.alloc (.cells #[.int .i64 3, .int .i64 fr, .int .i64 to, .int .i64 te, .int .i64 0, .int .i64 0, .int .i64 0, .int .i64 0, .int .i64 0, .int .i64 0, .bool false, .string ⟨#[]⟩, .slice none 0 0] 27)).cell? ⟨w.heap.size, 8, none⟩ = some (.int .i64 off) := by simp [go_sem, hz, c8]
  have m9 : (W.alloc (.cells #[.int .i64 3, .int .i64 fr, .int .i64 to, .int .i64 te, .int .i64 0, .int .i64 0, .int .i64 0, .int .i64 0, .int .i64 0, .int .i64 0, .bool false, .string ⟨#[]⟩, .slice none 0 0] 27)).cell? ⟨w.heap.size, 9, none⟩ = some (.int .i64 sz) := by simp [go_sem, hz, c9]
  have m10 : (W.alloc (.cells #[.int .i64 3, .int .i64 fr, .int .i64 to, .int .i64 te, .int .i64 0, .int .i64 0, .int .i64 0, .int .i64 0, .int .i64 0, .int .i64 0, .bool false, .string ⟨#[]⟩, .slice none 0 0] 27)).cell? ⟨w.heap.size, 10, none⟩ = some (.bool yes) := by simp [go_sem, hz, c10]
  have m11 : (W.alloc (.cells #[.int .i64 3, .int .i64 fr, .int .i64 to, .int .i64 te, .int .i64 0, .int .i64 0, .int .i64 0, .int .i64 0, .int .i64 0, .int .i64 0, .bool false, .string ⟨#[]⟩, .slice none 0 0] 27)).cell? ⟨w.heap.size, 11, none⟩ = some (.string data) := by simp [go_sem, hz, c11]
  have m12 : (W.alloc (.cells #[.int .i64 3, .int .i64 fr, .int .i64 to, .int .i64 te, .int .i64 0, .int .i64 0, .int .i64 0, .int .i64 0, .int .i64 0, .int .i64 0, .bool false, .string ⟨#[]⟩, .slice none 0 0] 27)).cell? ⟨w.heap.size, 12, none⟩ = some (.slice a n c) := by simp [go_sem, hz, c12]
  have hwB : W.heap.size < (W.alloc (.cells #[.int .i64 3, .int .i64 fr, .int .i64 to, .int .i64 te, .int .i64 0, .int .i64 0, .int .i64 0, .int .i64 0, .int .i64 0, .int .i64 0, .bool false, .string ⟨#[]⟩, .slice none 0 0] 27)).heap.size := by simp
  have hsw : w.heap.size ≤ W.heap.size := Nat.le_of_lt hz
  have hzw : w.heap.size < W.heap.size := hz
  clear c0 c1 c2 c3 c4 c5 c6 c7 c8 c9 c10 c11 c12 hX hz
  generalize (W.alloc (.cells #[.int .i64 3, .int .i64 fr, .int .i64 to, .int .i64 te, .int .i64 0, .int .i64 0, .int .i64 0, .int .i64 0, .int .i64 0, .int .i64 0, .bool false, .string ⟨#[]⟩, .slice none 0 0] 27)) = Z at *
  go_region
  have hZ2 : ∀ z, Ext ((((Z.setCell ⟨W.heap.size, 4, none⟩ (.int .i64 ix)).setCell ⟨W.heap.size, 5, none⟩ (.int .i64 at_)).setCell ⟨W.heap.size, 6, none⟩ (.int .i64 co)).drew) z → Ext w z ∧ z.cell? ⟨w.heap.size, 0, none⟩ = some (.int .i64 3) ∧ z.cell? ⟨w.heap.size, 1, none⟩ = some (.int .i64 fr) ∧ z.cell? ⟨w.heap.size, 2, none⟩ = some (.int .i64 to) ∧ z.cell? ⟨w.heap.size, 3, none⟩ = some (.int .i64 te) ∧ z.cell? ⟨w.heap.size, 4, none⟩ = some (.int .i64 ix) ∧ z.cell? ⟨w.heap.size, 5, none⟩ = some (.int .i64 at_) ∧ z.cell? ⟨w.heap.size, 6, none⟩ = some (.int .i64 co) ∧ z.cell? ⟨w.heap.size, 7, none⟩ = some (.int .i64 me) ∧ z.cell? ⟨w.heap.size, 8, none⟩ = some (.int .i64 off) ∧ z.cell? ⟨w.heap.size, 9, none⟩ = some (.int .i64 sz) ∧ z.cell? ⟨w.heap.size, 10, none⟩ = some (.bool yes) ∧ z.cell? ⟨w.heap.size, 11, none⟩ = some (.string data) ∧ z.cell? ⟨w.heap.size, 12, none⟩ = some (.slice a n c) ∧ z.cell? ⟨W.heap.size, 4, none⟩ = some (.int .i64 ix) ∧ z.cell? ⟨W.heap.size, 5, none⟩ = some (.int .i64 at_) ∧ z.cell? ⟨W.heap.size, 6, none⟩ = some (.int .i64 co) ∧ z.cell? ⟨W.heap.size, 7, none⟩ = some (.int .i64 0) ∧ z.cell? ⟨W.heap.size, 8, none⟩ = some (.int .i64 0) ∧ z.cell? ⟨W.heap.size, 9, none⟩ = some (.int .i64 0) ∧ z.cell? ⟨W.heap.size, 10, none⟩ = some (.bool false) ∧ z.cell? ⟨W.heap.size, 11, none⟩ = some (.string ⟨#[]⟩) := by
    intro z hz
    have hXZ : Ext w ((((Z.setCell ⟨W.heap.size, 4, none⟩ (.int .i64 ix)).setCell ⟨W.heap.size, 5, none⟩ (.int .i64 at_)).setCell ⟨W.heap.size, 6, none⟩ (.int .i64 co)).drew) := (((hXB.setCell hsw _).setCell hsw _).setCell hsw _).drew
    have hl1 : W.heap.size < ((((Z.setCell ⟨W.heap.size, 4, none⟩ (.int .i64 ix)).setCell ⟨W.heap.size, 5, none⟩ (.int .i64 at_)).setCell ⟨W.heap.size, 6, none⟩ (.int .i64 co)).drew).heap.size := by simp; omega
    have hl0 : w.heap.size < ((((Z.setCell ⟨W.heap.size, 4, none⟩ (.int .i64 ix)).setCell ⟨W.heap.size, 5, none⟩ (.int .i64 at_)).setCell ⟨W.heap.size, 6, none⟩ (.int .i64 co)).drew).heap.size := by simp; omega
    refine ⟨hXZ.trans hz, ?_, ?_, ?_, ?_, ?_, ?_, ?_, ?_, ?_, ?_, ?_, ?_, ?_, ?_, ?_, ?_, ?_, ?_, ?_, ?_, ?_⟩
    · rw [hz.cell (p := ⟨w.heap.size, 0, none⟩) hl0]; simp [go_sem, Nat.ne_of_lt hzw, m0]
    · rw [hz.cell (p := ⟨w.heap.size, 1, none⟩) hl0]; simp [go_sem, Nat.ne_of_lt hzw, m1]
    · rw [hz.cell (p := ⟨w.heap.size, 2, none⟩) hl0]; simp [go_sem, Nat.ne_of_lt hzw, m2]
    · rw [hz.cell (p := ⟨w.heap.size, 3, none⟩) hl0]; simp [go_sem, Nat.ne_of_lt hzw, m3]
    · rw [hz.cell (p := ⟨w.heap.size, 4, none⟩) hl0]; simp [go_sem, Nat.ne_of_lt hzw, m4]
    · rw [hz.cell (p := ⟨w.heap.size, 5, none⟩) hl0]; simp [go_sem, Nat.ne_of_lt hzw, m5]
    · rw [hz.cell (p := ⟨w.heap.size, 6, none⟩) hl0]; simp [go_sem, Nat.ne_of_lt hzw, m6]
    · rw [hz.cell (p := ⟨w.heap.size, 7, none⟩) hl0]; simp [go_sem, Nat.ne_of_lt hzw, m7]
    · rw [hz.cell (p := ⟨w.heap.size, 8, none⟩) hl0]; simp [go_sem, Nat.ne_of_lt hzw, m8]
    · rw [hz.cell (p := ⟨w.heap.size, 9, none⟩) hl0]; simp [go_sem, Nat.ne_of_lt hzw, m9]
    · rw [hz.cell (p := ⟨w.heap.size, 10, none⟩) hl0]; simp [go_sem, Nat.ne_of_lt hzw, m10]
    · rw [hz.cell (p := ⟨w.heap.size, 11, none⟩) hl0]; simp [go_sem, Nat.ne_of_lt hzw, m11]
    · rw [hz.cell (p := ⟨w.heap.size, 12, none⟩) hl0]; simp [go_sem, Nat.ne_of_lt hzw, m12]
    · rw [hz.cell (p := ⟨W.heap.size, 4, none⟩) hl1]; simp [go_sem, hwB, b4]
    · rw [hz.cell (p := ⟨W.heap.size, 5, none⟩) hl1]; simp [go_sem, hwB, b5]
    · rw [hz.cell (p := ⟨W.heap.size, 6, none⟩) hl1]; simp [go_sem, hwB, b6]
    · rw [hz.cell (p := ⟨W.heap.size, 7, none⟩) hl1]; simp [go_sem, hwB, b7]
    · rw [hz.cell (p := ⟨W.heap.size, 8, none⟩) hl1]; simp [go_sem, hwB, b8]
    · rw [hz.cell (p := ⟨W.heap.size, 9, none⟩) hl1]; simp [go_sem, hwB, b9]
    · rw [hz.cell (p := ⟨W.heap.size, 10, none⟩) hl1]; simp [go_sem, hwB, b10]
    · rw [hz.cell (p := ⟨W.heap.size, 11, none⟩) hl1]; simp [go_sem, hwB, b11]
  have HZ2 := Lib.hid hZ2
  clear hZ2
  clear m0 m1 m2 m3 m4 m5 m6 m7 m8 m9 m10 m11 m12 b4 b5 b6 b7 b8 b9 b10 b11 fb4 fb5 fb6 fb7 fb8 fb9 fb10 fb11 hXB
  generalize (((Z.setCell ⟨W.heap.size, 4, none⟩ (.int .i64 ix)).setCell ⟨W.heap.size, 5, none⟩ (.int .i64 at_)).setCell ⟨W.heap.size, 6, none⟩ (.int .i64 co)).drew = Y at *
  obtain ⟨hXw, c0, c1, c2, c3, c4, c5, c6, c7, c8, c9, c10, c11, c12, d4, d5, d6, d7, d8, d9, d10, d11⟩ := HZ2.out _ (Ext.refl _)
  by_cases t1 : (at_ = 0 ↔ ix = 0)
  rotate_left
  · have u1 : (!(ix == 0) == (at_ == 0)) = true := by
      by_cases h1 : ix = 0 <;> by_cases h2 : at_ = 0
      · exact absurd ⟨fun _ => h1, fun _ => h2⟩ t1
      · simp [h1, h2]
      · simp [h1, h2]
      · exact absurd ⟨fun h => absurd h h2, fun h => absurd h h1⟩ t1
    have T1 := Lib.hid t1
    clear t1
    go_wp2
    all_goals
      go_ret
      refine ⟨⟨false, rfl, ⟨fun h => (by cases h), fun h => ?_⟩⟩, hXw⟩
      exact absurd (h.2.2.2.2.2.2.2.2.2.1 rfl).1 T1.out
  have u1 : (!(ix == 0) == (at_ == 0)) = false := by
    have key : (ix == 0) = (at_ == 0) := by rw [Bool.eq_iff_iff, beq_iff_eq, beq_iff_eq]; exact t1.symm
    rw [key]
    cases (at_ == 0) <;> rfl
  have T1 := Lib.hid t1
  clear t1
  by_cases t2 : 8 < n
  · have u2 : (8 : Int) < (n : Int) := by omega
    go_wp2
    all_goals
      go_ret
      refine ⟨⟨false, rfl, ⟨fun h => (by cases h), fun h => ?_⟩⟩, hXw⟩
      have := (h.2.2.2.2.2.2.2.2.2.1 rfl).2.1
      have := HN.out
      omega
  have u2 : ¬ (8 : Int) < (n : Int) := by omega
  have u3 : IntKind.i64.wrap (1099511627776 - (n : Int)) = 1099511627776 - (n : Int) := IntWalk.i64_in _ (by omega)
  by_cases t3 : 1099511627776 - (n : Int) < ix
  · go_wp2
    all_goals
      go_ret
      refine ⟨⟨false, rfl, ⟨fun h => (by cases h), fun h => ?_⟩⟩, hXw⟩
      have h2 := (h.2.2.2.2.2.2.2.2.2.1 rfl).2.2.1
      have := HN.out
      simp only at h2
      omega
  clear u3
  go_wp2_with fail
  clear c0 c1 c2 c3 c4 c5 c6 c7 c8 c9 c10 c11 c12 d4 d5 d6 d7 d8 d9 d10 d11 hXw
  go_loopw [4, 5] (fun tv iv wr => ∃ (k : Nat) (b' : Int), k ≤ n ∧ iv = .int .i64 (k : Int) ∧ tv = .int .i64 b' ∧ Hid (ChainP te at_ es ↔ ChainP te b' (es.drop k)) ∧ Ext Y wr) (fun _ iv _ => n - (intOf iv).toNat)
  case atStart => exact ⟨0, at_, Nat.zero_le _, rfl, rfl, Lib.hid Iff.rfl, Ext.refl _⟩
  case round =>
    obtain ⟨k, b', hk, rfl, rfl, HC, hxr⟩ := hrel
    obtain ⟨hXr, c0, c1, c2, c3, c4, c5, c6, c7, c8, c9, c10, c11, c12, d4, d5, d6, d7, d8, d9, d10, d11⟩ := HZ2.out _ hxr
    by_cases hlt : k < n
    · have hki : (k : Int) < (n : Int) := by omega
      have hki0 : (0 : Int) ≤ (k : Int) := by omega
      have hkl : k < es.length := by have := HN.out; omega
      have hL2 := HL.out
      rw [← HN.out] at hL2
      obtain ⟨b1, o1, rfl, hb1, hc1⟩ := SlS.at_ Ent.three hL2 (by omega) (by decide)
      have dd := fun j hj => (hXr.cell (p := ⟨b1, o1 + k * 3 + j, none⟩) hb1).trans (hc1 k hkl j hj)
      have hdr := List.drop_eq_getElem_cons hkl
      have hbr := Nat.lt_of_lt_of_le hb1 hXr.size
      generalize es[k] = x at *
      have a0 : wr.cell? ⟨b1, o1 + k * 3, none⟩ = some (.int .i64 x.term) := dd 0 (by decide)
      have a1 : wr.cell? ⟨b1, o1 + k * 3 + 1, none⟩ = some (.int .i64 x.members) := dd 1 (by decide)
      have a2 : wr.cell? ⟨b1, o1 + k * 3 + 2, none⟩ = some (.string x.data) := dd 2 (by decide)
      have HD : Hid (ChainP te b' (es.drop k) ↔ FitsP x b' te ∧ ChainP te x.term (es.drop (k + 1))) := Lib.hid (by rw [hdr]; rfl)
      clear dd hc1 hdr hL2
      obtain ⟨q, hq⟩ := bool_of (FitsP x b' te)
      have E3 := Lib.hid (fun z => refEntry_is x b' te q hq z)
      have HQ := Lib.hid hq
      clear hq
      have inst : Nonempty (SubW (Ext wr)) := ⟨⟨_, Ext.refl _⟩⟩
      have hA := fun (u : SubW (Ext wr)) => u.ok.cell (p := ⟨w.heap.size, 12, none⟩) (World.block_lt_of_cell? _ _ c12) |>.trans c12
      have hB := fun (u : SubW (Ext wr)) => u.ok.cell (p := ⟨w.heap.size, 3, none⟩) (World.block_lt_of_cell? _ _ c3) |>.trans c3
      have hC0 := fun (u : SubW (Ext wr)) => u.ok.cell (p := ⟨b1, o1 + k * 3, none⟩) hbr |>.trans a0
      have hC1 := fun (u : SubW (Ext wr)) => u.ok.cell (p := ⟨b1, o1 + k * 3 + 1, none⟩) hbr |>.trans a1
      have hC2 := fun (u : SubW (Ext wr)) => u.ok.cell (p := ⟨b1, o1 + k * 3 + 2, none⟩) hbr |>.trans a2
      go_wp2_with fail
      refine wp_region_quietS (Ext wr) (by kernel_rfl) (by kernel_rfl) ((Ext.refl _).drew) ?_
      repeat (go_big_quiet_step (first | (go_at_call 27; with_reducible exact quietS_ext (E3.out _))))
      refine wpQuiet_nil ?_
      rintro _ ⟨y5, rfl⟩
      have hx6 := y5.ok
      have k0 := hC0 y5
      have k12 := hA y5
      generalize y5.w = x5 at hx6 k0 k12 ⊢
      clear hA hB hC0 hC1 hC2 inst y5 c0 c1 c2 c3 c4 c5 c6 c7 c8 c9 c10 c11 c12 d4 d5 d6 d7 d8 d9 d10 d11
      cases q with
      | false =>
        go_wp2
        go_ret
        refine ⟨⟨false, rfl, ⟨fun h => (by cases h), fun h => ?_⟩⟩, hXr.trans hx6⟩
        have h2 := HC.out.1 (h.2.2.2.2.2.2.2.2.2.1 rfl).2.2.2
        have h3 := HQ.out.2 (HD.out.1 h2).1
        cases h3
      | true =>
        go_wp2
        refine ⟨⟨k + 1, x.term, by omega, by simp, rfl, Lib.hid ?_, hxr.trans hx6⟩, by simp [intOf]; omega⟩
        rw [HC.out, HD.out, ← HQ.out]
        simp
    · have hki : ¬ (k : Int) < (n : Int) := by omega
      have hke : k = es.length := by have := HN.out; omega
      have HE : Hid (ChainP te at_ es) := Lib.hid (by rw [HC.out, hke, List.drop_length]; trivial)
      have hN8 : n ≤ 8 := by omega
      clear hke
      go_upto_region 34 with (fail)
      by_cases e_me : me = 0
      · subst e_me
        by_cases e_off : off = 0
        · subst e_off
          by_cases e_sz : sz = 0
          · subst e_sz
            by_cases e_yes : yes = false
            · subst e_yes
              by_cases e_data : data = ⟨#[]⟩
              · subst e_data
                try dsimp only [List.append]
                refine wp_region_cheap ?_
                repeat (go_big_quiet_step (fail))
                refine wpQuiet_nil ?_
                go_wp2
                go_ret
                refine ⟨⟨_, rfl, ?_⟩, hXr⟩
                have hs := HS.out
                have hn := HN.out
                have hc := HE.out
                have ht := T1.out
                clear HS HN HL HZ2 HC HE T1
                clear c0 c1 c2 c3 c4 c5 c6 c7 c8 c9 c10 c11 c12 d4 d5 d6 d7 d8 d9 d10 d11
                simp only [RightP, NamedP, PieceP, EntP]
                grind
              · have e_d1 := str_ne data ⟨#[]⟩ e_data
                have e_d2 : data.toList.isEmpty = false := str_isE data e_data
                have e_d3 : ¬ data.toList = [] := fun h => e_data (HS.out.1 h)
                try dsimp only [List.append]
                refine wp_region_cheap ?_
                repeat (go_big_quiet_step (fail))
                refine wpQuiet_nil ?_
                go_wp2
                go_ret
                refine ⟨⟨_, rfl, ?_⟩, hXr⟩
                have hs := HS.out
                have hn := HN.out
                have hc := HE.out
                have ht := T1.out
                clear HS HN HL HZ2 HC HE T1
                clear c0 c1 c2 c3 c4 c5 c6 c7 c8 c9 c10 c11 c12 d4 d5 d6 d7 d8 d9 d10 d11
                simp only [RightP, NamedP, PieceP, EntP]
                grind
            · have e_yes2 : yes = true := by simpa using e_yes
              subst e_yes2
              try dsimp only [List.append]
              refine wp_region_cheap ?_
              repeat (go_big_quiet_step (fail))
              refine wpQuiet_nil ?_
              go_wp2
              go_ret
              refine ⟨⟨_, rfl, ?_⟩, hXr⟩
              have hs := HS.out
              have hn := HN.out
              have hc := HE.out
              have ht := T1.out
              clear HS HN HL HZ2 HC HE T1
              clear c0 c1 c2 c3 c4 c5 c6 c7 c8 c9 c10 c11 c12 d4 d5 d6 d7 d8 d9 d10 d11
              simp only [RightP, NamedP, PieceP, EntP]
              grind
          · have f_sz : (sz == 0) = false := beq_eq_false_iff_ne.2 e_sz
            try dsimp only [List.append]
            refine wp_region_cheap ?_
            repeat (go_big_quiet_step (fail))
            refine wpQuiet_nil ?_
            go_wp2
            go_ret
            refine ⟨⟨_, rfl, ?_⟩, hXr⟩
            have hs := HS.out
            have hn := HN.out
            have hc := HE.out
            have ht := T1.out
            clear HS HN HL HZ2 HC HE T1
            clear c0 c1 c2 c3 c4 c5 c6 c7 c8 c9 c10 c11 c12 d4 d5 d6 d7 d8 d9 d10 d11
            simp only [RightP, NamedP, PieceP, EntP]
            grind
        · have f_off : (off == 0) = false := beq_eq_false_iff_ne.2 e_off
          try dsimp only [List.append]
          refine wp_region_cheap ?_
          repeat (go_big_quiet_step (fail))
          refine wpQuiet_nil ?_
          go_wp2
          go_ret
          refine ⟨⟨_, rfl, ?_⟩, hXr⟩
          have hs := HS.out
          have hn := HN.out
          have hc := HE.out
          have ht := T1.out
          clear HS HN HL HZ2 HC HE T1
          clear c0 c1 c2 c3 c4 c5 c6 c7 c8 c9 c10 c11 c12 d4 d5 d6 d7 d8 d9 d10 d11
          simp only [RightP, NamedP, PieceP, EntP]
          grind
      · have f_me : (me == 0) = false := beq_eq_false_iff_ne.2 e_me
        try dsimp only [List.append]
        refine wp_region_cheap ?_
        repeat (go_big_quiet_step (fail))
        refine wpQuiet_nil ?_
        go_wp2
        go_ret
        refine ⟨⟨_, rfl, ?_⟩, hXr⟩
        have hs := HS.out
        have hn := HN.out
        have hc := HE.out
        have ht := T1.out
        clear HS HN HL HZ2 HC HE T1
        clear c0 c1 c2 c3 c4 c5 c6 c7 c8 c9 c10 c11 c12 d4 d5 d6 d7 d8 d9 d10 d11
        simp only [RightP, NamedP, PieceP, EntP]
        grind
end Go.Proofs.Ytognipephfedkaa
