/- Commands held against each other: Cmds of impostkeep. -/
import Derived.Test.YteenkbfmlnpmlaaCmdD
namespace Go.Proofs.Yteenkbfmlnpmlaa
open Go.RowKit

set_option maxHeartbeats 4000000 in
set_option maxRecDepth 100000 in
theorem cmds_true (c : Cm) (a a' : Option Addr) (n cap cap' : Nat) (ls : List Ln) (hn : ls.length = n) (hm : n ≤ 1000000) (w : World) (hl : SlS Ln.cells 4 w (.slice a n cap) ls) (hl' : SlS Ln.cells 4 w (.slice a' n cap') ls) :
    Calls Try.prog 22 #[c.agg (.slice a n cap), c.agg (.slice a' n cap')] w fun e w' => e = .returned (.bool true) ∧ Ext w w' := by
  have HS := Lib.hid fun z (hz : Ext w z) => sameLn (.slice a n cap) (.slice a' n cap') ls ls true (by simp) z (hl.ext hz) (hl'.ext hz) (by omega) (by omega)
  clear hn hm hl hl'
  obtain ⟨kd, ser, lim, cat, ry, rm, rd, bp, dy, dm, dd, ofs, ofn, ses⟩ := c
  simp only [Cm.agg]
  go_enter Try.func22, Try.ntmps22
  go_wp2_with (go_at_call 30; (with_reducible refine (HS.out _ (by repeat (first | exact Ext.refl _ | assumption | refine Ext.trans ?_ (by assumption) | refine Ext.alloc ?_ _ | refine Ext.drew ?_ | refine Ext.drewN ?_ _))).mono ?_); rintro e w' ⟨rfl, hx⟩; have b1 := ext_blk hx (alloc_blk (new_blk w (.cells #[.int .i64 kd, .string ser, .int .i64 lim, .string cat, .int .i64 ry, .int .i64 rm, .int .i64 rd, .int .i64 bp, .int .i64 dy, .int .i64 dm, .int .i64 dd, .slice a n cap, .string ofs, .int .i64 ofn, .int .i64 ses] 37))); have b2 : w'.heap[w.heap.size + 1]? = some (.cells #[.int .i64 kd, .string ser, .int .i64 lim, .string cat, .int .i64 ry, .int .i64 rm, .int .i64 rd, .int .i64 bp, .int .i64 dy, .int .i64 dm, .int .i64 dd, .slice a' n cap', .string ofs, .int .i64 ofn, .int .i64 ses] 37 (0, 0)) := ext_blk hx (by have := new_blk (w.alloc (.cells #[.int .i64 kd, .string ser, .int .i64 lim, .string cat, .int .i64 ry, .int .i64 rm, .int .i64 rd, .int .i64 bp, .int .i64 dy, .int .i64 dm, .int .i64 dd, .slice a n cap, .string ofs, .int .i64 ofn, .int .i64 ses] 37)) (.cells #[.int .i64 kd, .string ser, .int .i64 lim, .string cat, .int .i64 ry, .int .i64 rm, .int .i64 rd, .int .i64 bp, .int .i64 dy, .int .i64 dm, .int .i64 dd, .slice a' n cap', .string ofs, .int .i64 ofn, .int .i64 ses] 37); simpa using this); obtain ⟨p12, _⟩ := blkG b1 12 (.string ofs) rfl; obtain ⟨q12, _⟩ := blkG b2 12 (.string ofs) rfl; obtain ⟨p13, _⟩ := blkG b1 13 (.int .i64 ofn) rfl; obtain ⟨q13, _⟩ := blkG b2 13 (.int .i64 ofn) rfl; obtain ⟨p14, _⟩ := blkG b1 14 (.int .i64 ses) rfl; obtain ⟨q14, _⟩ := blkG b2 14 (.int .i64 ses) rfl; have hX : Ext w w' := Ext.trans (((Ext.refl w).alloc _).alloc _) hx; clear b1 b2 hx)
  go_ret
  exact ⟨rfl, hX⟩
end Go.Proofs.Yteenkbfmlnpmlaa
