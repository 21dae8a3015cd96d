/- The document's own answer: RightLetter, kind 6. (Written by genRight.py.) -/
import Derived.Test.YtognipephfedkaaLetF
import Derived.Test.YtognipephfedkaaCheap
import Derived.BigRegion
namespace Go.Proofs.Ytognipephfedkaa
open Go.RowKit

set_option maxHeartbeats 16000000 in
set_option maxRecDepth 100000 in
theorem ref6_any (m : Lt) (hk : m.kind = 6) (hb : BaseP m) (a : Option Addr) (c n : Nat) (es : List Ent) (hn : es.length = n) (w : World) : Calls Try.prog 18 #[m.agg (.slice a n c)] w fun e w' => RetB (RightP m es) e ∧ Ext w w' := by
  obtain ⟨kind, fr, to, te, ix, at_, co, me, off, sz, yes, data⟩ := m
  simp only [BaseP] at hk hb
  subst hk
  obtain ⟨⟨p2, p3⟩, ⟨p4, p5⟩, p6, ⟨p7, p8⟩, ⟨p9, p10⟩, ⟨p11, p12⟩, p13, p14⟩ := hb
  have q2 : ¬ fr < 0 := by omega
  have q3 : ¬ 7 ≤ fr := by omega
  have q4 : ¬ to < 0 := by omega
  have q5 : ¬ 7 ≤ to := by omega
  have q6 : (fr == to) = false := beq_eq_false_iff_ne.2 p6
  have q7 : ¬ te < 1 := by omega
  have q8 : ¬ (1099511627776 : Int) < te := by omega
  have q9 : ¬ ix < 0 := by omega
  have q10 : ¬ (1099511627776 : Int) < ix := by omega
  have q11 : ¬ at_ < 0 := by omega
  have q12 : ¬ te < at_ := by omega
  have q13 : ¬ co < 0 := by omega
  have q14 : ¬ (1099511627776 : Int) < co := by omega
  have hs := str_eq_iff data ⟨#[]⟩
  have h0 : (⟨#[]⟩ : ByteArray).toList = [] := by rw [ByteArray.toList_eq]
  rw [h0] at hs
  have HS := Lib.hid hs
  have HN := Lib.hid hn
  clear hs h0 hn
  simp only [Lt.agg]
  have hX : Ext w (w.alloc (.cells #[.int .i64 6, .int .i64 fr, .int .i64 to, .int .i64 te, .int .i64 ix, .int .i64 at_, .int .i64 co, .int .i64 me, .int .i64 off, .int .i64 sz, .bool yes, .string data, .slice a n c] 27)) := (Ext.refl w).alloc _
  have c0 : (w.alloc (.cells #[.int .i64 6, .int .i64 fr, .int .i64 to, .int .i64 te, .int .i64 ix, .int .i64 at_, .int .i64 co, .int .i64 me, .int .i64 off, .int .i64 sz, .bool yes, .string data, .slice a n c] 27)).cell? ⟨w.heap.size, 0, none⟩ = some (.int .i64 6) := by simp [go_sem]
  have c1 : (w.alloc (.cells #[.int .i64 6, .int .i64 fr, .int .i64 to, .int .i64 te, .int .i64 ix, .int .i64 at_, .int .i64 co, .int .i64 me, .int .i64 off, .int .i64 sz, .bool yes, .string data, .slice a n c] 27)).cell? ⟨w.heap.size, 1, none⟩ = some (.int .i64 fr) := by simp [go_sem]
  have c2 : (w.alloc (.cells #[.int .i64 6, .int .i64 fr, .int .i64 to, .int .i64 te, .int .i64 ix, .int .i64 at_, .int .i64 co, .int .i64 me, .int .i64 off, .int .i64 sz, .bool yes, .string data, .slice a n c] 27)).cell? ⟨w.heap.size, 2, none⟩ = some (.int .i64 to) := by simp [go_sem]
  have c3 : (w.alloc (.cells #[.int .i64 6, .int .i64 fr, .int .i64 to, .int .i64 te, .int .i64 ix, .int .i64 at_, .int .i64 co, .int .i64 me, .int .i64 off, .int .i64 sz, .bool yes, .string data, .slice a n c] 27)).cell? ⟨w.heap.size, 3, none⟩ = some (.int .i64 te) := by simp [go_sem]
  have c4 : (w.alloc (.cells #[.int .i64 6, .int .i64 fr, .int .i64 to, .int .i64 te, .int .i64 ix, .int .i64 at_, .int .i64 co, .int .i64 me, .int .i64 off, .int .i64 sz, .bool yes, .string data, .slice a n c] 27)).cell? ⟨w.heap.size, 4, none⟩ = some (.int .i64 ix) := by simp [go_sem]
  have c5 : (w.alloc (.cells #[.int .i64 6, .int .i64 fr, .int .i64 to, .int .i64 te, .int .i64 ix, .int .i64 at_, .int .i64 co, .int .i64 me, .int .i64 off, .int .i64 sz, .bool yes, .string data, .slice a n c] 27)).cell? ⟨w.heap.size, 5, none⟩ = some (.int .i64 at_) := by simp [go_sem]
  have c6 : (w.alloc (.cells #[.int .i64 6, .int .i64 fr, .int .i64 to, .int .i64 te, .int .i64 ix, .int .i64 at_, .int .i64 co, .int .i64 me, .int .i64 off, .int .i64 sz, .bool yes, .string data, .slice a n c] 27)).cell? ⟨w.heap.size, 6, none⟩ = some (.int .i64 co) := by simp [go_sem]
  have c7 : (w.alloc (.cells #[.int .i64 6, .int .i64 fr, .int .i64 to, .int .i64 te, .int .i64 ix, .int .i64 at_, .int .i64 co, .int .i64 me, .int .i64 off, .int .i64 sz, .bool yes, .string data, .slice a n c] 27)).cell? ⟨w.heap.size, 7, none⟩ = some (.int .i64 me) := by simp [go_sem]
  have c8 : (w.alloc (.cells #[.int .i64 6, .int .i64 fr, .int .i64 to, .int .i64 te, .int .i64 ix, .int .i64 at_, .int .i64 co, .int .i64 me, .int .i64 off, .int .i64 sz, .bool yes, .string data, .slice a n c] 27)).cell? ⟨w.heap.size, 8, none⟩ = some (.int .i64 off) := by simp [go_sem]
  have c9 : (w.alloc (.cells #[.int .i64 6, .int .i64 fr, .int .i64 to, .int .i64 te, .int .i64 ix, .int .i64 at_, .int .i64 co, .int .i64 me, .int .i64 off, .int .i64 sz, .bool yes, .string data, .slice a n c] 27)).cell? ⟨w.heap.size, 9, none⟩ = some (.int .i64 sz) := by simp [go_sem]
  have c10 : (w.alloc (.cells #[.int .i64 6, .int .i64 fr, .int .i64 to, .int .i64 te, .int .i64 ix, .int .i64 at_, .int .i64 co, .int .i64 me, .int .i64 off, .int .i64 sz, .bool yes, .string data, .slice a n c] 27)).cell? ⟨w.heap.size, 10, none⟩ = some (.bool yes) := by simp [go_sem]
  have c11 : (w.alloc (.cells #[.int .i64 6, .int .i64 fr, .int .i64 to, .int .i64 te, .int .i64 ix, .int .i64 at_, .int .i64 co, .int .i64 me, .int .i64 off, .int .i64 sz, .bool yes, .string data, .slice a n c] 27)).cell? ⟨w.heap.size, 11, none⟩ = some (.string data) := by simp [go_sem]
  have c12 : (w.alloc (.cells #[.int .i64 6, .int .i64 fr, .int .i64 to, .int .i64 te, .int .i64 ix, .int .i64 at_, .int .i64 co, .int .i64 me, .int .i64 off, .int .i64 sz, .bool yes, .string data, .slice a n c] 27)).cell? ⟨w.heap.size, 12, none⟩ = some (.slice a n c) := by simp [go_sem]
  have hz : w.heap.size < (w.alloc (.cells #[.int .i64 6, .int .i64 fr, .int .i64 to, .int .i64 te, .int .i64 ix, .int .i64 at_, .int .i64 co, .int .i64 me, .int .i64 off, .int .i64 sz, .bool yes, .string data, .slice a n c] 27)).heap.size := by simp
  go_enter Try.func18, Try.ntmps18
  go_upto_region 1 with (fail)
  generalize (w.alloc (.cells #[.int .i64 6, .int .i64 fr, .int .i64 to, .int .i64 te, .int .i64 ix, .int .i64 at_, .int .i64 co, .int .i64 me, .int .i64 off, .int .i64 sz, .bool yes, .string data, .slice a n c] 27)) = W at *
  try dsimp only [List.append]
  refine wp_region_cheap ?_
  repeat (go_big_quiet_step (fail))
  refine wpQuiet_nil ?_
  clear q2 q3 q4 q5 q6 q7 q8 q9 q10 q11 q12 q13 q14
  go_wp2
  have hXB : Ext w (W.alloc (.cells #[.int .i64 6, .int .i64 fr, .int .i64 to, .int .i64 te, .int .i64 0, .int .i64 0, .int .i64 0, .int .i64 0, .int .i64 0, .int .i64 0, .bool false, .string ⟨#[]⟩, .slice none 0 0] 27)) := hX.alloc _
  have b4 : (W.alloc (.cells #[.int .i64 6, .int .i64 fr, .int .i64 to, .int .i64 te, .int .i64 0, .int .i64 0, .int .i64 0, .int .i64 0, .int .i64 0, .int .i64 0, .bool false, .string ⟨#[]⟩, .slice none 0 0] 27)).cell? ⟨W.heap.size, 4, none⟩ = some (.int .i64 0) := by simp [go_sem]
  have fb4 : (W.alloc (.cells #[.int .i64 6, .int .i64 fr, .int .i64 to, .int .i64 te, .int .i64 0, .int .i64 0, .int .i64 0, .int .i64 0, .int .i64 0, .int .i64 0, .bool false, .string ⟨#[]⟩, .slice none 0 0] 27)).frozen? ⟨W.heap.size, 4, none⟩ = false := by simp [go_sem]
  have b5 : (W.alloc (.cells #[.int .i64 6, .int .i64 fr, .int .i64 to, .int .i64 te, .int .i64 0, .int .i64 0, .int .i64 0, .int .i64 0, .int .i64 0, .int .i64 0, .bool false, .string ⟨#[]⟩, .slice none 0 0] 27)).cell? ⟨W.heap.size, 5, none⟩ = some (.int .i64 0) := by simp [go_sem]
  have fb5 : (W.alloc (.cells #[.int .i64 6, .int .i64 fr, .int .i64 to, .int .i64 te, .int .i64 0, .int .i64 0, .int .i64 0, .int .i64 0, .int .i64 0, .int .i64 0, .bool false, .string ⟨#[]⟩, .slice none 0 0] 27)).frozen? ⟨W.heap.size, 5, none⟩ = false := by simp [go_sem]
  have b6 : (W.alloc (.cells #[.int .i64 6, .int .i64 fr, .int .i64 to, .int .i64 te, .int .i64 0, .int .i64 0, .int .i64 0, .int .i64 0, .int .i64 0, .int .i64 0, .bool false, .string ⟨#[]⟩, .slice none 0 0] 27)).cell? ⟨W.heap.size, 6, none⟩ = some (.int .i64 0) := by simp [go_sem]
  have fb6 : (W.alloc (.cells #[.int .i64 6, .int .i64 fr, .int .i64 to, .int .i64 te, .int .i64 0, .int .i64 0, .int .i64 0, .int .i64 0, .int .i64 0, .int .i64 0, .bool false, .string ⟨#[]⟩, .slice none 0 0] 27)).frozen? ⟨W.heap.size, 6, none⟩ = false := by simp [go_sem]
  have b7 : (W.alloc (.cells #[.int .i64 6, .int .i64 fr, .int .i64 to, .int .i64 te, .int .i64 0, .int .i64 0, .int .i64 0, .int .i64 0, .int .i64 0, .int .i64 0, .bool false, .string ⟨#[]⟩, .slice none 0 0] 27)).cell? ⟨W.heap.size, 7, none⟩ = some (.int .i64 0) := by simp [go_sem]
  have fb7 : (W.alloc (.cells #[.int .i64 6, .int .i64 fr, .int .i64 to, .int .i64 te, .int .i64 0, .int .i64 0, .int .i64 0, .int .i64 0, .int .i64 0, .int .i64 0, .bool false, .string ⟨#[]⟩, .slice none 0 0] 27)).frozen? ⟨W.heap.size, 7, none⟩ = false := by simp [go_sem]
  have b8 : (W.alloc (.cells #[.int .i64 6, .int .i64 fr, .int .i64 to, .int .i64 te, .int .i64 0, .int .i64 0, .int .i64 0, .int .i64 0, .int .i64 0, .int .i64 0, .bool false, .string ⟨#[]⟩, .slice none 0 0] 27)).cell? ⟨W.heap.size, 8, none⟩ = some (.int .i64 0) := by simp [go_sem]
  have fb8 : (W.alloc (.cells #[.int .i64 6, .int .i64 fr, .int .i64 to, .int .i64 te, .int .i64 0, .int .i64 0, .int .i64 0, .int .i64 0, .int .i64 0, .int .i64 0, .bool false, .string ⟨#[]⟩, .slice none 0 0] 27)).frozen? ⟨W.heap.size, 8, none⟩ = false := by simp [go_sem]
  have b9 : (W.alloc (.cells #[.int .i64 6, .int .i64 fr, .int .i64 to, .int .i64 te, .int .i64 0, .int .i64 0, .int .i64 0, .int .i64 0, .int .i64 0, .int .i64 0, .bool false, .string ⟨#[]⟩, .slice none 0 0] 27)).cell? ⟨W.heap.size, 9, none⟩ = some (.int .i64 0) := by simp [go_sem]
  have fb9 : (W.alloc (.cells #[.int .i64 6, .int .i64 fr, .int .i64 to, .int .i64 te, .int .i64 0, .int .i64 0, .int .i64 0, .int .i64 0, .int .i64 0, .int .i64 0, .bool false, .string ⟨#[]⟩, .slice none 0 0] 27)).frozen? ⟨W.heap.size, 9, none⟩ = false := by simp [go_sem]
  have b10 : (W.alloc (.cells #[.int .i64 6, .int .i64 fr, .int .i64 to, .int .i64 te, .int .i64 0, .int .i64 0, .int .i64 0, .int .i64 0, .int .i64 0, .int .i64 0, .bool false, .string ⟨#[]⟩, .slice none 0 0] 27)).cell? ⟨W.heap.size, 10, none⟩ = some (.bool false) := by simp [go_sem]
  have fb10 : (W.alloc (.cells #[.int .i64 6, .int .i64 fr, .int .i64 to, .int .i64 te, .int .i64 0, .int .i64 0, .int .i64 0, .int .i64 0, .int .i64 0, .int .i64 0, .bool false, .string ⟨#[]⟩, .slice none 0 0] 27)).frozen? ⟨W.heap.size, 10, none⟩ = false := by simp [go_sem]
  have b11 : (W.alloc (.cells #[.int .i64 6, .int .i64 fr, .int .i64 to, .int .i64 te, .int .i64 0, .int .i64 0, .int .i64 0, .int .i64 0, .int .i64 0, .int .i64 0, .bool false, .string ⟨#[]⟩, .slice none 0 0] 27)).cell? ⟨W.heap.size, 11, none⟩ = some (.string ⟨#[]⟩) := by simp [go_sem]
  have fb11 : (W.alloc (.cells #[.int .i64 6, .int .i64 fr, .int .i64 to, .int .i64 te, .int .i64 0, .int .i64 0, .int .i64 0, .int .i64 0, .int .i64 0, .int .i64 0, .bool false, .string ⟨#[]⟩, .slice none 0 0] 27)).frozen? ⟨W.heap.size, 11, none⟩ = false := by simp [go_sem]
  have m0 : (W.alloc (.cells #[.int .i64 6, .int .i64 fr, .int .i64 to, .int .i64 te, .int .i64 0, .int .i64 0, .int .i64 0, .int .i64 0, .int .i64 0, .int .i64 0, .bool false, .string ⟨#[]⟩, .slice none 0 0] 27)).cell? ⟨w.heap.size, 0, none⟩ = some (.int .i64 6) := by simp [go_sem, hz, c0]
  have m1 : (W.alloc (.cells #[.int .i64 6, .int .i64 fr, .int .i64 to, .int .i64 te, .int .i64 0, .int .i64 0, .int .i64 0, .int .i64 0, .int .i64 0, .int .i64 0, .bool false, .string ⟨#[]⟩, .slice none 0 0] 27)).cell? ⟨w.heap.size, 1, none⟩ = some (.int .i64 fr) := by simp [go_sem, hz, c1]
  have m2 : (W.alloc (.cells #[.int .i64 6, .int .i64 fr, .int .i64 to, .int .i64 te, .int .i64 0, .int .i64 0, .int .i64 0, .int .i64 0, .int .i64 0, .int .i64 0, .bool false, .string ⟨#[]⟩, .slice none 0 0] 27)).cell? ⟨w.heap.size, 2, none⟩ = some (.int .i64 to) := by simp [go_sem, hz, c2]
  have m3 : (W.alloc (.cells #[.int .i64 6, .int .i64 fr, .int .i64 to, .int .i64 te, .int .i64 0, .int .i64 0, .int .i64 0, .int .i64 0, .int .i64 0, .int .i64 0, .bool false, .string ⟨#[]⟩, .slice none 0 0] 27)).cell? ⟨w.heap.size, 3, none⟩ = some (.int .i64 te) := by simp [go_sem, hz, c3]
  have m4 : (W.alloc (.cells #[.int .i64 6, .int .i64 fr, .int .i64 to, .int .i64 te, .int .i64 0, .int .i64 0, .int .i64 0, .int .i64 0, .int .i64 0, .int .i64 0, .bool false, .string ⟨#[]⟩, .slice none 0 0] 27)).cell? ⟨w.heap.size, 4, none⟩ = some (.int .i64 ix) := by simp [go_sem, hz, c4]
  have m5 : (W.alloc (.cells #[.int .i64 6, .int .i64 fr, .int .i64 to, .int .i64 te, .int .i64 0, .int .i64 0, .int .i64 0, .int .i64 0, .int .i64 0, .int .i64 0, .bool false, .string ⟨#[]⟩, .slice none 0 0] 27)).cell? ⟨w.heap.size, 5, none⟩ = some (.int .i64 at_) := by simp [go_sem, hz, c5]
  have m6 : (W.alloc (.cells #[.int .i64 6, .int .i64 fr, .int .i64 to, .int .i64 te, .int .i64 0, .int .i64 0, .int .i64 0, .int .i64 0, .int .i64 0, .int .i64 0, .bool false, .string ⟨#[]⟩, .slice none 0 0] 27)).cell? ⟨w.heap.size, 6, none⟩ = some (.int .i64 co) := by simp [go_sem, hz, c6]
  have m7 : (W.alloc (.cells #[.int .i64 6, .int .i64 fr, .int .i64 to, .int .i64 te, .int .i64 0, .int .i64 0, .int .i64 0, .int .i64 0, .int .i64 0, .int .i64 0, .bool false, .string ⟨#[]⟩, .slice none 0 0] 27)).cell? ⟨w.heap.size, 7, none⟩ = some (.int .i64 me) := by simp [go_sem, hz, c7]
  have m8 : (W.alloc (.cells #[.int .i64 6, .int .i64 fr, .int .i64 to, .int .i64 te, .int .i64 0, .int .i64 0, .int .i64 0, .int .i64 0, .int .i64 0, .int .i64 0, .bool false, .string ⟨#[]⟩, .slice none 0 0] 27)).cell? ⟨w.heap.size, 8, none⟩ = some (.int .i64 off) := by simp [go_sem, hz, c8]
  have m9 : (W.alloc (.cells #[.int .i64 6, .int .i64 fr, .int .i64 to, .int .i64 te, .int .i64 0, .int .i64 0, .int .i64 0, .int .i64 0, .int .i64 0, .int .i64 0, .bool false, .string ⟨#[]⟩, .slice none 0 0] 27)).cell? ⟨w.heap.size, 9, none⟩ = some (.int .i64 sz) := by simp [go_sem, hz, c9]
  have m10 : (W.alloc (.cells #[.int .i64 6, .int .i64 fr, .int .i64 to, .int .i64 te, .int .i64 0, .int .i64 0, .int .i64 0, .int .i64 0, .int .i64 0, .int .i64 0, .bool false, .string ⟨#[]⟩, .slice none 0 0] 27)).cell? ⟨w.heap.size, 10, none⟩ = some (.bool yes) := by simp [go_sem, hz, c10]
  have m11 : (W.alloc (.cells #[.int .i64 6, .int .i64 fr, .int .i64 to, .int .i64 te, .int .i64 0, .int .i64 0, .int .i64 0, .int .i64 0, .int .i64 0, .int .i64 0, .bool false, .string ⟨#[]⟩, .slice none 0 0] 27)).cell? ⟨w.heap.size, 11, none⟩ = some (.string data) := by simp [go_sem, hz, c11]
  have m12 : (W.alloc (.cells #[.int .i64 6, .int .i64 fr, .int .i64 to, .int .i64 te, .int .i64 0, .int .i64 0, .int .i64 0, .int .i64 0, .int .i64 0, .int .i64 0, .bool false, .string ⟨#[]⟩, .slice none 0 0] 27)).cell? ⟨w.heap.size, 12, none⟩ = some (.slice a n c) := by simp [go_sem, hz, c12]
  have hwB : W.heap.size < (W.alloc (.cells #[.int .i64 6, .int .i64 fr, .int .i64 to, .int .i64 te, .int .i64 0, .int .i64 0, .int .i64 0, .int .i64 0, .int .i64 0, .int .i64 0, .bool false, .string ⟨#[]⟩, .slice none 0 0] 27)).heap.size := by simp
  have hzw : w.heap.size < W.heap.size := hz
  have hsw : w.heap.size ≤ W.heap.size := Nat.le_of_lt hz
  clear c0 c1 c2 c3 c4 c5 c6 c7 c8 c9 c10 c11 c12 hX hz
  generalize (W.alloc (.cells #[.int .i64 6, .int .i64 fr, .int .i64 to, .int .i64 te, .int .i64 0, .int .i64 0, .int .i64 0, .int .i64 0, .int .i64 0, .int .i64 0, .bool false, .string ⟨#[]⟩, .slice none 0 0] 27)) = Z at *
  go_region
  go_upto_region 34 with (fail)
  all_goals first
    | (go_ret; refine ⟨⟨_, rfl, ?_⟩, (by repeat (first | with_reducible exact Ext.refl _ | with_reducible assumption | with_reducible refine Ext.drew ?_ | with_reducible refine Ext.setCell ?_ hsw _ | with_reducible refine Ext.alloc ?_ _))⟩; have hs := HS.out; have hn := HN.out; clear HS HN; simp only [RightP, NamedP, PieceP]; grind; done)
    | skip
  all_goals
    by_cases e_at_ : at_ = 0
    · subst e_at_
      by_cases e_co : co = 0
      · subst e_co
        by_cases e_me : me = 0
        · subst e_me
          by_cases e_sz : sz = 0
          · subst e_sz
            by_cases e_yes : yes = false
            · subst e_yes
              by_cases e_data : data = ⟨#[]⟩
              · subst e_data
                try dsimp only [List.append]
                refine wp_region_cheap ?_
                repeat (go_big_quiet_step (fail))
                refine wpQuiet_nil ?_
                go_wp2
                go_ret
                refine ⟨⟨_, rfl, ?_⟩, (by repeat (first | with_reducible exact Ext.refl _ | with_reducible assumption | with_reducible refine Ext.drew ?_ | with_reducible refine Ext.setCell ?_ hsw _ | with_reducible refine Ext.alloc ?_ _))⟩
                have hs := HS.out
                have hn := HN.out
                clear HS HN
                clear m0 m1 m2 m3 m4 m5 m6 m7 m8 m9 m10 m11 m12 b4 b5 b6 b7 b8 b9 b10 b11 fb4 fb5 fb6 fb7 fb8 fb9 fb10 fb11
                simp only [RightP, NamedP, PieceP]
                grind
              · have e_d1 := str_ne data ⟨#[]⟩ e_data
                have e_d2 : data.toList.isEmpty = false := str_isE data e_data
                have e_d3 : ¬ data.toList = [] := fun h => e_data (HS.out.1 h)
                try dsimp only [List.append]
                refine wp_region_cheap ?_
                repeat (go_big_quiet_step (fail))
                refine wpQuiet_nil ?_
                go_wp2
                go_ret
                refine ⟨⟨_, rfl, ?_⟩, (by repeat (first | with_reducible exact Ext.refl _ | with_reducible assumption | with_reducible refine Ext.drew ?_ | with_reducible refine Ext.setCell ?_ hsw _ | with_reducible refine Ext.alloc ?_ _))⟩
                have hs := HS.out
                have hn := HN.out
                clear HS HN
                clear m0 m1 m2 m3 m4 m5 m6 m7 m8 m9 m10 m11 m12 b4 b5 b6 b7 b8 b9 b10 b11 fb4 fb5 fb6 fb7 fb8 fb9 fb10 fb11
                simp only [RightP, NamedP, PieceP]
                grind
            · have e_yes2 : yes = true := by simpa using e_yes
              subst e_yes2
              try dsimp only [List.append]
              refine wp_region_cheap ?_
              repeat (go_big_quiet_step (fail))
              refine wpQuiet_nil ?_
              go_wp2
              go_ret
              refine ⟨⟨_, rfl, ?_⟩, (by repeat (first | with_reducible exact Ext.refl _ | with_reducible assumption | with_reducible refine Ext.drew ?_ | with_reducible refine Ext.setCell ?_ hsw _ | with_reducible refine Ext.alloc ?_ _))⟩
              have hs := HS.out
              have hn := HN.out
              clear HS HN
              clear m0 m1 m2 m3 m4 m5 m6 m7 m8 m9 m10 m11 m12 b4 b5 b6 b7 b8 b9 b10 b11 fb4 fb5 fb6 fb7 fb8 fb9 fb10 fb11
              simp only [RightP, NamedP, PieceP]
              grind
          · have f_sz : (sz == 0) = false := beq_eq_false_iff_ne.2 e_sz
            try dsimp only [List.append]
            refine wp_region_cheap ?_
            repeat (go_big_quiet_step (fail))
            refine wpQuiet_nil ?_
            go_wp2
            go_ret
            refine ⟨⟨_, rfl, ?_⟩, (by repeat (first | with_reducible exact Ext.refl _ | with_reducible assumption | with_reducible refine Ext.drew ?_ | with_reducible refine Ext.setCell ?_ hsw _ | with_reducible refine Ext.alloc ?_ _))⟩
            have hs := HS.out
            have hn := HN.out
            clear HS HN
            clear m0 m1 m2 m3 m4 m5 m6 m7 m8 m9 m10 m11 m12 b4 b5 b6 b7 b8 b9 b10 b11 fb4 fb5 fb6 fb7 fb8 fb9 fb10 fb11
            simp only [RightP, NamedP, PieceP]
            grind
        · have f_me : (me == 0) = false := beq_eq_false_iff_ne.2 e_me
          try dsimp only [List.append]
          refine wp_region_cheap ?_
          repeat (go_big_quiet_step (fail))
          refine wpQuiet_nil ?_
          go_wp2
          go_ret
          refine ⟨⟨_, rfl, ?_⟩, (by repeat (first | with_reducible exact Ext.refl _ | with_reducible assumption | with_reducible refine Ext.drew ?_ | with_reducible refine Ext.setCell ?_ hsw _ | with_reducible refine Ext.alloc ?_ _))⟩
          have hs := HS.out
          have hn := HN.out
          clear HS HN
          clear m0 m1 m2 m3 m4 m5 m6 m7 m8 m9 m10 m11 m12 b4 b5 b6 b7 b8 b9 b10 b11 fb4 fb5 fb6 fb7 fb8 fb9 fb10 fb11
          simp only [RightP, NamedP, PieceP]
          grind
      · have f_co : (co == 0) = false := beq_eq_false_iff_ne.2 e_co
        try dsimp only [List.append]
        refine wp_region_cheap ?_
        repeat (go_big_quiet_step (fail))
        refine wpQuiet_nil ?_
        go_wp2
        go_ret
        refine ⟨⟨_, rfl, ?_⟩, (by repeat (first | with_reducible exact Ext.refl _ | with_reducible assumption | with_reducible refine Ext.drew ?_ | with_reducible refine Ext.setCell ?_ hsw _ | with_reducible refine Ext.alloc ?_ _))⟩
        have hs := HS.out
        have hn := HN.out
        clear HS HN
        clear m0 m1 m2 m3 m4 m5 m6 m7 m8 m9 m10 m11 m12 b4 b5 b6 b7 b8 b9 b10 b11 fb4 fb5 fb6 fb7 fb8 fb9 fb10 fb11
        simp only [RightP, NamedP, PieceP]
        grind
    · have f_at_ : (at_ == 0) = false := beq_eq_false_iff_ne.2 e_at_
      try dsimp only [List.append]
      refine wp_region_cheap ?_
      repeat (go_big_quiet_step (fail))
      refine wpQuiet_nil ?_
      go_wp2
      go_ret
      refine ⟨⟨_, rfl, ?_⟩, (by repeat (first | with_reducible exact Ext.refl _ | with_reducible assumption | with_reducible refine Ext.drew ?_ | with_reducible refine Ext.setCell ?_ hsw _ | with_reducible refine Ext.alloc ?_ _))⟩
      have hs := HS.out
      have hn := HN.out
      clear HS HN
      clear m0 m1 m2 m3 m4 m5 m6 m7 m8 m9 m10 m11 m12 b4 b5 b6 b7 b8 b9 b10 b11 fb4 fb5 fb6 fb7 fb8 fb9 fb10 fb11
      simp only [RightP, NamedP, PieceP]
      grind
end Go.Proofs.Ytognipephfedkaa
