/- The document's Bare. (Written by genCmdM.py.) -/
import Derived.Test.YtochgmpcdmahkaaCmdD
import Derived.Test.YtochgmpcdmahkaaSet15
import Derived.Deep.RegionHeld3
namespace Go.Proofs.Ytochgmpcdmahkaa
open Go.RowKit

theorem own_emptyN {w : World} {B G sz : Nat} (e : TypeId) (hG : w.heap.size = G) (hB : B ≤ G) : (w.alloc (.cells #[] e)).ownsRow B e sz (.slice (some ⟨G, 0, none⟩) 0 0) 0 [] := by
  subst hG
  exact ⟨by simp, .inr ⟨w.heap.size, 0, #[], rfl, hB, heap_alloc_new w _, Nat.le_refl _, Nat.zero_le _, by simp, by simp⟩⟩
theorem rbare_ret (tm : Array Value) (W : World) (b : Nat) (v0 v1 v2 v3 v4 v5 v6 v7 v8 v9 v10 v11 v12 v13 v14 : Value) (ok : Bool) (ht : tm[2]? = some (.pointer (some ⟨b, 0, none⟩))) (h3 : tm[3]? = some (.bool ok)) (h : W.heap[b]? = some (.cells #[v0, v1, v2, v3, v4, v5, v6, v7, v8, v9, v10, v11, v12, v13, v14] 33 (0, 0))) :
    (results Try.f11 tm).run Try.prog W = .ok (.tuple #[.agg #[v0, v1, v2, v3, v4, v5, v6, v7, v8, v9, v10, v11, v12, v13, v14], .bool ok]) W := by
  obtain ⟨c0, _⟩ := blkG h 0 _ rfl
  obtain ⟨c1, _⟩ := blkG h 1 _ rfl
  obtain ⟨c2, _⟩ := blkG h 2 _ rfl
  obtain ⟨c3, _⟩ := blkG h 3 _ rfl
  obtain ⟨c4, _⟩ := blkG h 4 _ rfl
  obtain ⟨c5, _⟩ := blkG h 5 _ rfl
  obtain ⟨c6, _⟩ := blkG h 6 _ rfl
  obtain ⟨c7, _⟩ := blkG h 7 _ rfl
  obtain ⟨c8, _⟩ := blkG h 8 _ rfl
  obtain ⟨c9, _⟩ := blkG h 9 _ rfl
  obtain ⟨c10, _⟩ := blkG h 10 _ rfl
  obtain ⟨c11, _⟩ := blkG h 11 _ rfl
  obtain ⟨c12, _⟩ := blkG h 12 _ rfl
  obtain ⟨c13, _⟩ := blkG h 13 _ rfl
  obtain ⟨c14, _⟩ := blkG h 14 _ rfl
  simp [results, Try.results11, go_sem, ht, h3, c0, c1, c2, c3, c4, c5, c6, c7, c8, c9, c10, c11, c12, c13, c14]
set_option maxHeartbeats 4000000 in
set_option maxRecDepth 100000 in
theorem bare_1 (lim ry rm rd bp dy dm dd ofn ses : Int) (ser cat ofs : ByteArray) (a : Option Addr) (n cap : Nat) (w : World) : Calls Try.prog 11 #[.agg #[.int .i64 1, .string ser, .int .i64 lim, .string cat, .int .i64 ry, .int .i64 rm, .int .i64 rd, .int .i64 bp, .int .i64 dy, .int .i64 dm, .int .i64 dd, .slice a n cap, .string ofs, .int .i64 ofn, .int .i64 ses]] w fun e w' => e = .returned (.tuple #[.agg #[.int .i64 1, .string ser, .int .i64 lim, .string ⟨#[]⟩, .int .i64 0, .int .i64 0, .int .i64 0, .int .i64 0, .int .i64 0, .int .i64 0, .int .i64 0, .slice none 0 0, .string ⟨#[]⟩, .int .i64 0, .int .i64 0], .bool true]) ∧ Ext w w' := by
  have HA : Hid (∀ z, Ext (w.alloc (.cells #[.int .i64 1, .string ser, .int .i64 lim, .string cat, .int .i64 ry, .int .i64 rm, .int .i64 rd, .int .i64 bp, .int .i64 dy, .int .i64 dm, .int .i64 dd, .slice a n cap, .string ofs, .int .i64 ofn, .int .i64 ses] 33)) z → Ext (w.alloc (.cells #[.int .i64 1, .string ser, .int .i64 lim, .string cat, .int .i64 ry, .int .i64 rm, .int .i64 rd, .int .i64 bp, .int .i64 dy, .int .i64 dm, .int .i64 dd, .slice a n cap, .string ofs, .int .i64 ofn, .int .i64 ses] 33)) z ∧ z.cell? ⟨w.heap.size, 1, none⟩ = some (.string ser) ∧ z.cell? ⟨w.heap.size, 2, none⟩ = some (.int .i64 lim)) := Lib.hid fun z h => ⟨h, alloc_cell h 1 _ rfl, alloc_cell h 2 _ rfl⟩
  go_enter Try.func11, Try.ntmps11
  go_wp2
  go_region_held3 (fun z => Ext (w.alloc (.cells #[.int .i64 1, .string ser, .int .i64 lim, .string cat, .int .i64 ry, .int .i64 rm, .int .i64 rd, .int .i64 bp, .int .i64 dy, .int .i64 dm, .int .i64 dd, .slice a n cap, .string ofs, .int .i64 ofn, .int .i64 ses] 33)) z ∧ z.cell? ⟨w.heap.size, 1, none⟩ = some (.string ser) ∧ z.cell? ⟨w.heap.size, 2, none⟩ = some (.int .i64 lim))
    ((refine HA.out _ ?_; repeat (first | exact Ext.refl _ | assumption | refine Ext.alloc ?_ _ | refine Ext.drew ?_ | refine Ext.setCell ?_ (by simp; omega) _ | refine Ext.setCell ?_ (by simp) _)))
    (fail)
  all_goals go_wp2
  refine bodyPost_ret (v := .tuple #[.agg #[.int .i64 1, .string ser, .int .i64 lim, .string ⟨#[]⟩, .int .i64 0, .int .i64 0, .int .i64 0, .int .i64 0, .int .i64 0, .int .i64 0, .int .i64 0, .slice none 0 0, .string ⟨#[]⟩, .int .i64 0, .int .i64 0], .bool true]) ?_ rfl ⟨rfl, ?_⟩
  · simp [results, Try.results11, go_sem]
  · repeat (first | exact Ext.refl _ | assumption | refine Ext.trans ?_ (by assumption) | refine Ext.alloc ?_ _ | refine Ext.drew ?_ | refine Ext.drewN ?_ _)
set_option maxHeartbeats 4000000 in
set_option maxRecDepth 100000 in
theorem bare_2 (lim ry rm rd bp dy dm dd ofn ses : Int) (ser cat ofs : ByteArray) (a : Option Addr) (n cap : Nat) (w : World) : Calls Try.prog 11 #[.agg #[.int .i64 2, .string ser, .int .i64 lim, .string cat, .int .i64 ry, .int .i64 rm, .int .i64 rd, .int .i64 bp, .int .i64 dy, .int .i64 dm, .int .i64 dd, .slice a n cap, .string ofs, .int .i64 ofn, .int .i64 ses]] w fun e w' => e = .returned (.tuple #[.agg #[.int .i64 2, .string ser, .int .i64 0, .string ⟨#[]⟩, .int .i64 0, .int .i64 0, .int .i64 0, .int .i64 0, .int .i64 0, .int .i64 0, .int .i64 0, .slice none 0 0, .string ⟨#[]⟩, .int .i64 0, .int .i64 0], .bool true]) ∧ Ext w w' := by
  go_enter Try.func11, Try.ntmps11
  go_wp2
  refine bodyPost_ret (v := .tuple #[.agg #[.int .i64 2, .string ser, .int .i64 0, .string ⟨#[]⟩, .int .i64 0, .int .i64 0, .int .i64 0, .int .i64 0, .int .i64 0, .int .i64 0, .int .i64 0, .slice none 0 0, .string ⟨#[]⟩, .int .i64 0, .int .i64 0], .bool true]) ?_ rfl ⟨rfl, ?_⟩
  · simp [results, Try.results11, go_sem]
  · repeat (first | exact Ext.refl _ | assumption | refine Ext.trans ?_ (by assumption) | refine Ext.alloc ?_ _ | refine Ext.drew ?_ | refine Ext.drewN ?_ _)
set_option maxHeartbeats 4000000 in
set_option maxRecDepth 100000 in
theorem bare_3 (lim ry rm rd bp dy dm dd ofn ses : Int) (ser cat ofs : ByteArray) (a : Option Addr) (n cap : Nat) (w : World) : Calls Try.prog 11 #[.agg #[.int .i64 3, .string ser, .int .i64 lim, .string cat, .int .i64 ry, .int .i64 rm, .int .i64 rd, .int .i64 bp, .int .i64 dy, .int .i64 dm, .int .i64 dd, .slice a n cap, .string ofs, .int .i64 ofn, .int .i64 ses]] w fun e w' => e = .returned (.tuple #[.agg #[.int .i64 3, .string ⟨#[]⟩, .int .i64 0, .string cat, .int .i64 ry, .int .i64 rm, .int .i64 rd, .int .i64 bp, .int .i64 0, .int .i64 0, .int .i64 0, .slice none 0 0, .string ⟨#[]⟩, .int .i64 0, .int .i64 0], .bool true]) ∧ Ext w w' := by
  go_enter Try.func11, Try.ntmps11
  go_wp2
  refine bodyPost_ret (v := .tuple #[.agg #[.int .i64 3, .string ⟨#[]⟩, .int .i64 0, .string cat, .int .i64 ry, .int .i64 rm, .int .i64 rd, .int .i64 bp, .int .i64 0, .int .i64 0, .int .i64 0, .slice none 0 0, .string ⟨#[]⟩, .int .i64 0, .int .i64 0], .bool true]) ?_ rfl ⟨rfl, ?_⟩
  · simp [results, Try.results11, go_sem]
  · repeat (first | exact Ext.refl _ | assumption | refine Ext.trans ?_ (by assumption) | refine Ext.alloc ?_ _ | refine Ext.drew ?_ | refine Ext.drewN ?_ _)
set_option maxHeartbeats 4000000 in
set_option maxRecDepth 100000 in
theorem bare_4 (lim ry rm rd bp dy dm dd ofn ses : Int) (ser cat ofs : ByteArray) (a : Option Addr) (n cap : Nat) (ls : List Ln) (hn : ls.length = n) (hm : n ≤ 1000000) (w : World) (hl : SlS Ln.cells 4 w (.slice a n cap) ls) : Calls Try.prog 11 #[.agg #[.int .i64 4, .string ser, .int .i64 lim, .string cat, .int .i64 ry, .int .i64 rm, .int .i64 rd, .int .i64 bp, .int .i64 dy, .int .i64 dm, .int .i64 dd, .slice a n cap, .string ofs, .int .i64 ofn, .int .i64 ses]] w fun e w' => ∃ a' c', e = .returned (.tuple #[.agg #[.int .i64 4, .string ser, .int .i64 0, .string ⟨#[]⟩, .int .i64 0, .int .i64 0, .int .i64 0, .int .i64 0, .int .i64 dy, .int .i64 dm, .int .i64 dd, .slice a' n c', .string ⟨#[]⟩, .int .i64 0, .int .i64 0], .bool true]) ∧ OwnS Ln.cells 4 107 w' w.heap.size (.slice a' n c') ls ∧ Ext w w' := by
  obtain ⟨i0, hi, hz0, hz1, hz2⟩ := info_parts Try.infoLn
  have hsrc := fun z (hz : Ext w z) => src_sl (P := Try.prog) Try.underlying29 (hl.ext hz) (Ln.one ls)
  rw [hn] at hsrc
  have HS := Lib.hid hsrc
  have HN := Lib.hid hn
  clear hn hl hsrc
  have HA : Hid (∀ z, Ext (w.alloc (.cells #[.int .i64 4, .string ser, .int .i64 lim, .string cat, .int .i64 ry, .int .i64 rm, .int .i64 rd, .int .i64 bp, .int .i64 dy, .int .i64 dm, .int .i64 dd, .slice a n cap, .string ofs, .int .i64 ofn, .int .i64 ses] 33)) z → Ext (w.alloc (.cells #[.int .i64 4, .string ser, .int .i64 lim, .string cat, .int .i64 ry, .int .i64 rm, .int .i64 rd, .int .i64 bp, .int .i64 dy, .int .i64 dm, .int .i64 dd, .slice a n cap, .string ofs, .int .i64 ofn, .int .i64 ses] 33)) z ∧ z.cell? ⟨w.heap.size, 1, none⟩ = some (.string ser) ∧ z.cell? ⟨w.heap.size, 8, none⟩ = some (.int .i64 dy) ∧ z.cell? ⟨w.heap.size, 9, none⟩ = some (.int .i64 dm) ∧ z.cell? ⟨w.heap.size, 10, none⟩ = some (.int .i64 dd) ∧ z.cell? ⟨w.heap.size, 11, none⟩ = some (.slice a n cap)) := Lib.hid fun z h => ⟨h, alloc_cell h 1 _ rfl, alloc_cell h 8 _ rfl, alloc_cell h 9 _ rfl, alloc_cell h 10 _ rfl, alloc_cell h 11 _ rfl⟩
  go_enter Try.func11, Try.ntmps11
  go_wp2
  go_region_held3 (fun z => Ext (w.alloc (.cells #[.int .i64 4, .string ser, .int .i64 lim, .string cat, .int .i64 ry, .int .i64 rm, .int .i64 rd, .int .i64 bp, .int .i64 dy, .int .i64 dm, .int .i64 dd, .slice a n cap, .string ofs, .int .i64 ofn, .int .i64 ses] 33)) z ∧ z.cell? ⟨w.heap.size, 1, none⟩ = some (.string ser) ∧ z.cell? ⟨w.heap.size, 8, none⟩ = some (.int .i64 dy) ∧ z.cell? ⟨w.heap.size, 9, none⟩ = some (.int .i64 dm) ∧ z.cell? ⟨w.heap.size, 10, none⟩ = some (.int .i64 dd) ∧ z.cell? ⟨w.heap.size, 11, none⟩ = some (.slice a n cap))
    ((refine HA.out _ ?_; repeat (first | exact Ext.refl _ | assumption | refine Ext.alloc ?_ _ | refine Ext.drew ?_ | refine Ext.setCell ?_ (by simp; omega) _ | refine Ext.setCell ?_ (by simp) _)))
    (fail)
  all_goals
    go_wp2_with (at_builtin; refine wpList_own_src _ rfl _ _ 29 29 rfl (w.heap.size + 3) 107 i0 _ 4 48 Try.underlying29 hi hz0 hz1 hz2 rfl (by decide) _ _ 0 n [] _ (own_emptyN (w := (((w.alloc (.cells #[.int .i64 4, .string ser, .int .i64 lim, .string cat, .int .i64 ry, .int .i64 rm, .int .i64 rd, .int .i64 bp, .int .i64 dy, .int .i64 dm, .int .i64 dd, .slice a n cap, .string ofs, .int .i64 ofn, .int .i64 ses] 33)).alloc (.cells #[.int .i64 0, .string ⟨#[]⟩, .int .i64 0, .string ⟨#[]⟩, .int .i64 0, .int .i64 0, .int .i64 0, .int .i64 0, .int .i64 0, .int .i64 0, .int .i64 0, .slice none 0 0, .string ⟨#[]⟩, .int .i64 0, .int .i64 0] 33)).alloc (.cells #[.int .i64 4, .string ser, .int .i64 0, .string ⟨#[]⟩, .int .i64 0, .int .i64 0, .int .i64 0, .int .i64 0, .int .i64 dy, .int .i64 dm, .int .i64 dd, .slice none 0 0, .string ⟨#[]⟩, .int .i64 0, .int .i64 0] 33))) 107 (G := w.heap.size + 3) (by simp) (Nat.le_refl _)).drew (HS.out _ (by repeat (first | exact Ext.refl _ | assumption | refine Ext.trans ?_ (by assumption) | refine Ext.alloc ?_ _ | refine Ext.drew ?_ | refine Ext.drewN ?_ _))) rfl rfl (by unfold maxLen; omega) (by omega) (by simp) ?_)
    intro v7 w1 ho hb
    obtain ⟨_, _, a7, c7, hev7, _⟩ := SlR.of_own ho
    subst hev7
    have hk2 : w1.heap[w.heap.size + 2]? = some (.cells #[.int .i64 4, .string ser, .int .i64 0, .string ⟨#[]⟩, .int .i64 0, .int .i64 0, .int .i64 0, .int .i64 0, .int .i64 dy, .int .i64 dm, .int .i64 dd, .slice none 0 0, .string ⟨#[]⟩, .int .i64 0, .int .i64 0] 33 (0, 0)) := (Below.block hb _ (by omega)).trans (alloc_blk (by have := new_blk ((w.alloc (.cells #[.int .i64 4, .string ser, .int .i64 lim, .string cat, .int .i64 ry, .int .i64 rm, .int .i64 rd, .int .i64 bp, .int .i64 dy, .int .i64 dm, .int .i64 dd, .slice a n cap, .string ofs, .int .i64 ofn, .int .i64 ses] 33)).alloc (.cells #[.int .i64 0, .string ⟨#[]⟩, .int .i64 0, .string ⟨#[]⟩, .int .i64 0, .int .i64 0, .int .i64 0, .int .i64 0, .int .i64 0, .int .i64 0, .int .i64 0, .slice none 0 0, .string ⟨#[]⟩, .int .i64 0, .int .i64 0] 33)) (.cells #[.int .i64 4, .string ser, .int .i64 0, .string ⟨#[]⟩, .int .i64 0, .int .i64 0, .int .i64 0, .int .i64 0, .int .i64 dy, .int .i64 dm, .int .i64 dd, .slice none 0 0, .string ⟨#[]⟩, .int .i64 0, .int .i64 0] 33); simpa using this))
    have hk1 : w1.heap[w.heap.size + 1]? = some (.cells #[.int .i64 0, .string ⟨#[]⟩, .int .i64 0, .string ⟨#[]⟩, .int .i64 0, .int .i64 0, .int .i64 0, .int .i64 0, .int .i64 0, .int .i64 0, .int .i64 0, .slice none 0 0, .string ⟨#[]⟩, .int .i64 0, .int .i64 0] 33 (0, 0)) := (Below.block hb _ (by omega)).trans (alloc_blk (alloc_blk (by have := new_blk (w.alloc (.cells #[.int .i64 4, .string ser, .int .i64 lim, .string cat, .int .i64 ry, .int .i64 rm, .int .i64 rd, .int .i64 bp, .int .i64 dy, .int .i64 dm, .int .i64 dd, .slice a n cap, .string ofs, .int .i64 ofn, .int .i64 ses] 33)) (.cells #[.int .i64 0, .string ⟨#[]⟩, .int .i64 0, .string ⟨#[]⟩, .int .i64 0, .int .i64 0, .int .i64 0, .int .i64 0, .int .i64 0, .int .i64 0, .int .i64 0, .slice none 0 0, .string ⟨#[]⟩, .int .i64 0, .int .i64 0] 33); simpa using this)))
    have hX : Ext w w1 := Below.trans (Ext.drew (Ext.alloc (Ext.alloc (Ext.alloc (Ext.alloc (Ext.refl w) _) _) _) _)) (Below.mono hb (by omega))
    obtain ⟨q0, f0⟩ := blkG hk2 0 (.int .i64 4) rfl
    obtain ⟨q1, f1⟩ := blkG hk2 1 (.string ser) rfl
    obtain ⟨q2, f2⟩ := blkG hk2 2 (.int .i64 0) rfl
    obtain ⟨q3, f3⟩ := blkG hk2 3 (.string ⟨#[]⟩) rfl
    obtain ⟨q4, f4⟩ := blkG hk2 4 (.int .i64 0) rfl
    obtain ⟨q5, f5⟩ := blkG hk2 5 (.int .i64 0) rfl
    obtain ⟨q6, f6⟩ := blkG hk2 6 (.int .i64 0) rfl
    obtain ⟨q7, f7⟩ := blkG hk2 7 (.int .i64 0) rfl
    obtain ⟨q8, f8⟩ := blkG hk2 8 (.int .i64 dy) rfl
    obtain ⟨q9, f9⟩ := blkG hk2 9 (.int .i64 dm) rfl
    obtain ⟨q10, f10⟩ := blkG hk2 10 (.int .i64 dd) rfl
    obtain ⟨q11, f11⟩ := blkG hk2 11 (.slice none 0 0) rfl
    obtain ⟨q12, f12⟩ := blkG hk2 12 (.string ⟨#[]⟩) rfl
    obtain ⟨q13, f13⟩ := blkG hk2 13 (.int .i64 0) rfl
    obtain ⟨q14, f14⟩ := blkG hk2 14 (.int .i64 0) rfl
    obtain ⟨p0, g0⟩ := blkG hk1 0 (.int .i64 0) rfl
    obtain ⟨p1, g1⟩ := blkG hk1 1 (.string ⟨#[]⟩) rfl
    obtain ⟨p2, g2⟩ := blkG hk1 2 (.int .i64 0) rfl
    obtain ⟨p3, g3⟩ := blkG hk1 3 (.string ⟨#[]⟩) rfl
    obtain ⟨p4, g4⟩ := blkG hk1 4 (.int .i64 0) rfl
    obtain ⟨p5, g5⟩ := blkG hk1 5 (.int .i64 0) rfl
    obtain ⟨p6, g6⟩ := blkG hk1 6 (.int .i64 0) rfl
    obtain ⟨p7, g7⟩ := blkG hk1 7 (.int .i64 0) rfl
    obtain ⟨p8, g8⟩ := blkG hk1 8 (.int .i64 0) rfl
    obtain ⟨p9, g9⟩ := blkG hk1 9 (.int .i64 0) rfl
    obtain ⟨p10, g10⟩ := blkG hk1 10 (.int .i64 0) rfl
    obtain ⟨p11, g11⟩ := blkG hk1 11 (.slice none 0 0) rfl
    obtain ⟨p12, g12⟩ := blkG hk1 12 (.string ⟨#[]⟩) rfl
    obtain ⟨p13, g13⟩ := blkG hk1 13 (.int .i64 0) rfl
    obtain ⟨p14, g14⟩ := blkG hk1 14 (.int .i64 0) rfl
    have hK1 : (w1.setCell ⟨w.heap.size + 2, 11, none⟩ (.slice a7 n c7)).heap[w.heap.size + 1]? = some (.cells #[.int .i64 0, .string ⟨#[]⟩, .int .i64 0, .string ⟨#[]⟩, .int .i64 0, .int .i64 0, .int .i64 0, .int .i64 0, .int .i64 0, .int .i64 0, .int .i64 0, .slice none 0 0, .string ⟨#[]⟩, .int .i64 0, .int .i64 0] 33 (0, 0)) := set_blk hk1 (by omega)
    have HO : OwnS Ln.cells 4 107 w1 (w.heap.size + 3) (.slice a7 n c7) ls := by
      unfold OwnS
      rw [HN.out]
      simpa using ho
    have H1 := Lib.hid hK1
    have H2 := Lib.hid HO
    have H3 := Lib.hid hX
    clear hK1 HO hX hk1 hk2 hb ho
    go_wp2_with fail
    refine bodyPost_ret (v := .tuple #[.agg #[.int .i64 4, .string ser, .int .i64 0, .string ⟨#[]⟩, .int .i64 0, .int .i64 0, .int .i64 0, .int .i64 0, .int .i64 dy, .int .i64 dm, .int .i64 dd, .slice a7 n c7, .string ⟨#[]⟩, .int .i64 0, .int .i64 0], .bool true]) (rbare_ret _ _ (w.heap.size + 1) _ _ _ _ _ _ _ _ _ _ _ _ _ _ _ _ rfl rfl (set15_blk H1.out)) rfl ⟨a7, c7, rfl, ?_, set15_ext (Ext.setCell H3.out (show w.heap.size ≤ w.heap.size + 1 + 1 by omega) _) (by omega)⟩
    have hB2 : w.heap.size + 2 < w.heap.size + 3 := by omega
    have hB1 : w.heap.size + 1 < w.heap.size + 3 := by omega
    exact OwnS.base (set15_own (OwnS.setO H2.out fun a m c' he => Nat.ne_of_gt (Nat.lt_of_lt_of_le hB2 (own_blkE H2.out a m c' he).2)) fun a m c' he => Nat.ne_of_gt (Nat.lt_of_lt_of_le hB1 (own_blkE H2.out a m c' he).2)) (by omega)
set_option maxHeartbeats 4000000 in
set_option maxRecDepth 100000 in
theorem bare_5 (lim ry rm rd bp dy dm dd ofn ses : Int) (ser cat ofs : ByteArray) (a : Option Addr) (n cap : Nat) (w : World) : Calls Try.prog 11 #[.agg #[.int .i64 5, .string ser, .int .i64 lim, .string cat, .int .i64 ry, .int .i64 rm, .int .i64 rd, .int .i64 bp, .int .i64 dy, .int .i64 dm, .int .i64 dd, .slice a n cap, .string ofs, .int .i64 ofn, .int .i64 ses]] w fun e w' => e = .returned (.tuple #[.agg #[.int .i64 5, .string ser, .int .i64 0, .string ⟨#[]⟩, .int .i64 0, .int .i64 0, .int .i64 0, .int .i64 0, .int .i64 dy, .int .i64 dm, .int .i64 dd, .slice none 0 0, .string ofs, .int .i64 ofn, .int .i64 0], .bool true]) ∧ Ext w w' := by
  have HA : Hid (∀ z, Ext (w.alloc (.cells #[.int .i64 5, .string ser, .int .i64 lim, .string cat, .int .i64 ry, .int .i64 rm, .int .i64 rd, .int .i64 bp, .int .i64 dy, .int .i64 dm, .int .i64 dd, .slice a n cap, .string ofs, .int .i64 ofn, .int .i64 ses] 33)) z → Ext (w.alloc (.cells #[.int .i64 5, .string ser, .int .i64 lim, .string cat, .int .i64 ry, .int .i64 rm, .int .i64 rd, .int .i64 bp, .int .i64 dy, .int .i64 dm, .int .i64 dd, .slice a n cap, .string ofs, .int .i64 ofn, .int .i64 ses] 33)) z ∧ z.cell? ⟨w.heap.size, 1, none⟩ = some (.string ser) ∧ z.cell? ⟨w.heap.size, 8, none⟩ = some (.int .i64 dy) ∧ z.cell? ⟨w.heap.size, 9, none⟩ = some (.int .i64 dm) ∧ z.cell? ⟨w.heap.size, 10, none⟩ = some (.int .i64 dd) ∧ z.cell? ⟨w.heap.size, 12, none⟩ = some (.string ofs) ∧ z.cell? ⟨w.heap.size, 13, none⟩ = some (.int .i64 ofn)) := Lib.hid fun z h => ⟨h, alloc_cell h 1 _ rfl, alloc_cell h 8 _ rfl, alloc_cell h 9 _ rfl, alloc_cell h 10 _ rfl, alloc_cell h 12 _ rfl, alloc_cell h 13 _ rfl⟩
  go_enter Try.func11, Try.ntmps11
  go_wp2
  go_region_held3 (fun z => Ext (w.alloc (.cells #[.int .i64 5, .string ser, .int .i64 lim, .string cat, .int .i64 ry, .int .i64 rm, .int .i64 rd, .int .i64 bp, .int .i64 dy, .int .i64 dm, .int .i64 dd, .slice a n cap, .string ofs, .int .i64 ofn, .int .i64 ses] 33)) z ∧ z.cell? ⟨w.heap.size, 1, none⟩ = some (.string ser) ∧ z.cell? ⟨w.heap.size, 8, none⟩ = some (.int .i64 dy) ∧ z.cell? ⟨w.heap.size, 9, none⟩ = some (.int .i64 dm) ∧ z.cell? ⟨w.heap.size, 10, none⟩ = some (.int .i64 dd) ∧ z.cell? ⟨w.heap.size, 12, none⟩ = some (.string ofs) ∧ z.cell? ⟨w.heap.size, 13, none⟩ = some (.int .i64 ofn))
    ((refine HA.out _ ?_; repeat (first | exact Ext.refl _ | assumption | refine Ext.alloc ?_ _ | refine Ext.drew ?_ | refine Ext.setCell ?_ (by simp; omega) _ | refine Ext.setCell ?_ (by simp) _)))
    (fail)
  all_goals go_wp2
  all_goals (
  refine bodyPost_ret (v := .tuple #[.agg #[.int .i64 5, .string ser, .int .i64 0, .string ⟨#[]⟩, .int .i64 0, .int .i64 0, .int .i64 0, .int .i64 0, .int .i64 dy, .int .i64 dm, .int .i64 dd, .slice none 0 0, .string ofs, .int .i64 ofn, .int .i64 0], .bool true]) ?_ rfl ⟨rfl, ?_⟩
  · simp [results, Try.results11, go_sem]
  · repeat (first | exact Ext.refl _ | assumption | refine Ext.trans ?_ (by assumption) | refine Ext.alloc ?_ _ | refine Ext.drew ?_ | refine Ext.drewN ?_ _)
  )
set_option maxHeartbeats 4000000 in
set_option maxRecDepth 100000 in
theorem bare_6 (lim ry rm rd bp dy dm dd ofn ses : Int) (ser cat ofs : ByteArray) (a : Option Addr) (n cap : Nat) (w : World) : Calls Try.prog 11 #[.agg #[.int .i64 6, .string ser, .int .i64 lim, .string cat, .int .i64 ry, .int .i64 rm, .int .i64 rd, .int .i64 bp, .int .i64 dy, .int .i64 dm, .int .i64 dd, .slice a n cap, .string ofs, .int .i64 ofn, .int .i64 ses]] w fun e w' => e = .returned (.tuple #[.agg #[.int .i64 6, .string ⟨#[]⟩, .int .i64 0, .string ⟨#[]⟩, .int .i64 0, .int .i64 0, .int .i64 0, .int .i64 0, .int .i64 0, .int .i64 0, .int .i64 0, .slice none 0 0, .string ⟨#[]⟩, .int .i64 0, .int .i64 0], .bool true]) ∧ Ext w w' := by
  go_enter Try.func11, Try.ntmps11
  go_wp2
  refine bodyPost_ret (v := .tuple #[.agg #[.int .i64 6, .string ⟨#[]⟩, .int .i64 0, .string ⟨#[]⟩, .int .i64 0, .int .i64 0, .int .i64 0, .int .i64 0, .int .i64 0, .int .i64 0, .int .i64 0, .slice none 0 0, .string ⟨#[]⟩, .int .i64 0, .int .i64 0], .bool true]) ?_ rfl ⟨rfl, ?_⟩
  · simp [results, Try.results11, go_sem]
  · repeat (first | exact Ext.refl _ | assumption | refine Ext.trans ?_ (by assumption) | refine Ext.alloc ?_ _ | refine Ext.drew ?_ | refine Ext.drewN ?_ _)
set_option maxHeartbeats 4000000 in
set_option maxRecDepth 100000 in
theorem bare_7 (lim ry rm rd bp dy dm dd ofn ses : Int) (ser cat ofs : ByteArray) (a : Option Addr) (n cap : Nat) (w : World) : Calls Try.prog 11 #[.agg #[.int .i64 7, .string ser, .int .i64 lim, .string cat, .int .i64 ry, .int .i64 rm, .int .i64 rd, .int .i64 bp, .int .i64 dy, .int .i64 dm, .int .i64 dd, .slice a n cap, .string ofs, .int .i64 ofn, .int .i64 ses]] w fun e w' => e = .returned (.tuple #[.agg #[.int .i64 7, .string ⟨#[]⟩, .int .i64 0, .string ⟨#[]⟩, .int .i64 0, .int .i64 0, .int .i64 0, .int .i64 0, .int .i64 0, .int .i64 0, .int .i64 0, .slice none 0 0, .string ⟨#[]⟩, .int .i64 0, .int .i64 ses], .bool true]) ∧ Ext w w' := by
  go_enter Try.func11, Try.ntmps11
  go_wp2
  refine bodyPost_ret (v := .tuple #[.agg #[.int .i64 7, .string ⟨#[]⟩, .int .i64 0, .string ⟨#[]⟩, .int .i64 0, .int .i64 0, .int .i64 0, .int .i64 0, .int .i64 0, .int .i64 0, .int .i64 0, .slice none 0 0, .string ⟨#[]⟩, .int .i64 0, .int .i64 ses], .bool true]) ?_ rfl ⟨rfl, ?_⟩
  · simp [results, Try.results11, go_sem]
  · repeat (first | exact Ext.refl _ | assumption | refine Ext.trans ?_ (by assumption) | refine Ext.alloc ?_ _ | refine Ext.drew ?_ | refine Ext.drewN ?_ _)
set_option maxHeartbeats 4000000 in
set_option maxRecDepth 100000 in
theorem bare_8 (lim ry rm rd bp dy dm dd ofn ses : Int) (ser cat ofs : ByteArray) (a : Option Addr) (n cap : Nat) (w : World) : Calls Try.prog 11 #[.agg #[.int .i64 8, .string ser, .int .i64 lim, .string cat, .int .i64 ry, .int .i64 rm, .int .i64 rd, .int .i64 bp, .int .i64 dy, .int .i64 dm, .int .i64 dd, .slice a n cap, .string ofs, .int .i64 ofn, .int .i64 ses]] w fun e w' => e = .returned (.tuple #[.agg #[.int .i64 8, .string ser, .int .i64 0, .string ⟨#[]⟩, .int .i64 0, .int .i64 0, .int .i64 0, .int .i64 0, .int .i64 0, .int .i64 0, .int .i64 0, .slice none 0 0, .string ⟨#[]⟩, .int .i64 0, .int .i64 0], .bool true]) ∧ Ext w w' := by
  go_enter Try.func11, Try.ntmps11
  go_wp2
  refine bodyPost_ret (v := .tuple #[.agg #[.int .i64 8, .string ser, .int .i64 0, .string ⟨#[]⟩, .int .i64 0, .int .i64 0, .int .i64 0, .int .i64 0, .int .i64 0, .int .i64 0, .int .i64 0, .slice none 0 0, .string ⟨#[]⟩, .int .i64 0, .int .i64 0], .bool true]) ?_ rfl ⟨rfl, ?_⟩
  · simp [results, Try.results11, go_sem]
  · repeat (first | exact Ext.refl _ | assumption | refine Ext.trans ?_ (by assumption) | refine Ext.alloc ?_ _ | refine Ext.drew ?_ | refine Ext.drewN ?_ _)
set_option maxHeartbeats 4000000 in
set_option maxRecDepth 100000 in
theorem bare_0 (kd lim ry rm rd bp dy dm dd ofn ses : Int) (ser cat ofs : ByteArray) (a : Option Addr) (n cap : Nat) (hk : kd < 1 ∨ 8 < kd) (w : World) : Calls Try.prog 11 #[.agg #[.int .i64 kd, .string ser, .int .i64 lim, .string cat, .int .i64 ry, .int .i64 rm, .int .i64 rd, .int .i64 bp, .int .i64 dy, .int .i64 dm, .int .i64 dd, .slice a n cap, .string ofs, .int .i64 ofn, .int .i64 ses]] w fun e w' => e = .returned (.tuple #[.agg #[.int .i64 0, .string ⟨#[]⟩, .int .i64 0, .string ⟨#[]⟩, .int .i64 0, .int .i64 0, .int .i64 0, .int .i64 0, .int .i64 0, .int .i64 0, .int .i64 0, .slice none 0 0, .string ⟨#[]⟩, .int .i64 0, .int .i64 0], .bool false]) ∧ Ext w w' := by
  have e1 : (kd == 1) = false := by simp; omega
  have e2 : (kd == 2) = false := by simp; omega
  have e3 : (kd == 3) = false := by simp; omega
  have e4 : (kd == 4) = false := by simp; omega
  have e5 : (kd == 5) = false := by simp; omega
  have e6 : (kd == 6) = false := by simp; omega
  have e7 : (kd == 7) = false := by simp; omega
  have e8 : (kd == 8) = false := by simp; omega
  clear hk
  go_enter Try.func11, Try.ntmps11
  go_wp2
  refine bodyPost_ret (v := .tuple #[.agg #[.int .i64 0, .string ⟨#[]⟩, .int .i64 0, .string ⟨#[]⟩, .int .i64 0, .int .i64 0, .int .i64 0, .int .i64 0, .int .i64 0, .int .i64 0, .int .i64 0, .slice none 0 0, .string ⟨#[]⟩, .int .i64 0, .int .i64 0], .bool false]) ?_ rfl ⟨rfl, ?_⟩
  · simp [results, Try.results11, go_sem]
  · repeat (first | exact Ext.refl _ | assumption | refine Ext.trans ?_ (by assumption) | refine Ext.alloc ?_ _ | refine Ext.drew ?_ | refine Ext.drewN ?_ _)
theorem rbare_any (c : Cm) (h : c.Ok) (a : Option Addr) (n cap : Nat) (ls : List Ln) (hn : ls.length = n) (hm : n ≤ 1000000) (w : World) (hl : SlS Ln.cells 4 w (.slice a n cap) ls) : Calls Try.prog 11 #[c.agg (.slice a n cap)] w fun e w' => ∃ a' c', e = .returned (.tuple #[c.bare.agg (.slice a' (c.n n) c'), .bool true]) ∧ SlS Ln.cells 4 w' (.slice a' (c.n n) c') (c.ls ls) ∧ Ext w w' := by
  have hk := ok_cases h
  clear h
  obtain ⟨kd, ser, lim, cat, ry, rm, rd, bp, dy, dm, dd, ofs, ofn, ses⟩ := c
  rcases hk with hk | hk | hk | hk | hk | hk | hk | hk
  all_goals
    simp only at hk
    subst hk
  · exact (bare_1 lim ry rm rd bp dy dm dd ofn ses ser cat ofs a n cap w).mono fun e w' ⟨h, hx⟩ => ⟨none, 0, h, nil_sls, hx⟩
  · exact (bare_2 lim ry rm rd bp dy dm dd ofn ses ser cat ofs a n cap w).mono fun e w' ⟨h, hx⟩ => ⟨none, 0, h, nil_sls, hx⟩
  · exact (bare_3 lim ry rm rd bp dy dm dd ofn ses ser cat ofs a n cap w).mono fun e w' ⟨h, hx⟩ => ⟨none, 0, h, nil_sls, hx⟩
  · exact (bare_4 lim ry rm rd bp dy dm dd ofn ses ser cat ofs a n cap ls hn hm w hl).mono fun e w' ⟨a', c', h, ho, hx⟩ => ⟨a', c', h, ho.rd, hx⟩
  · exact (bare_5 lim ry rm rd bp dy dm dd ofn ses ser cat ofs a n cap w).mono fun e w' ⟨h, hx⟩ => ⟨none, 0, h, nil_sls, hx⟩
  · exact (bare_6 lim ry rm rd bp dy dm dd ofn ses ser cat ofs a n cap w).mono fun e w' ⟨h, hx⟩ => ⟨none, 0, h, nil_sls, hx⟩
  · exact (bare_7 lim ry rm rd bp dy dm dd ofn ses ser cat ofs a n cap w).mono fun e w' ⟨h, hx⟩ => ⟨none, 0, h, nil_sls, hx⟩
  · exact (bare_8 lim ry rm rd bp dy dm dd ofn ses ser cat ofs a n cap w).mono fun e w' ⟨h, hx⟩ => ⟨none, 0, h, nil_sls, hx⟩
end Go.Proofs.Ytochgmpcdmahkaa
