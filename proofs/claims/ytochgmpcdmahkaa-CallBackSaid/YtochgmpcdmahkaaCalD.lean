/- Calls held against each other; the law CallRuns. (Written by genCalD.py.) -/
import Derived.Test.YtochgmpcdmahkaaCalC
import Derived.Test.YtochgmpcdmahkaaCmdD
namespace Go.Proofs.Ytochgmpcdmahkaa
open Go.RowKit

set_option maxHeartbeats 8000000 in
set_option maxRecDepth 100000 in
theorem calsame_true (s q : Int) (c : Cm) (a a' : Option Addr) (n cap cap' : Nat) (ls : List Ln) (hn : ls.length = n) (hm : n ≤ 1000000) (w : World) (hl : SlS Ln.cells 4 w (.slice a n cap) ls) (hl' : SlS Ln.cells 4 w (.slice a' n cap') ls) :
    Calls Try.prog 10 #[Cal.agg s q c (.slice a n cap), Cal.agg s q c (.slice a' n cap')] w fun e w' => e = .returned (.bool true) ∧ Ext w w' := by
  have HCM := Lib.hid fun (z : World) (h1 : SlS Ln.cells 4 z (.slice a n cap) ls) (h2 : SlS Ln.cells 4 z (.slice a' n cap') ls) => cmds_true c a a' n cap cap' ls hn hm z h1 h2
  have HL1 := Lib.hid hl
  have HL2 := Lib.hid hl'
  clear hn hm hl hl'
  obtain ⟨kd, ser, lim, cat, ry, rm, rd, bp, dy, dm, dd, ofs, ofn, ses⟩ := c
  simp only [Cm.agg] at HCM
  simp only [Cal.agg]
  go_enter Try.func10, Try.ntmps10
  go_wp2_with fail
  go_at_call 27
  refine (HCM.out _ (HL1.out.ext (Ext.alloc (Ext.alloc (Ext.refl _) _) _)) (HL2.out.ext (Ext.alloc (Ext.alloc (Ext.refl _) _) _))).mono ?_
  rintro e x1 ⟨rfl, hx1⟩
  have T_x1 : Hid (Ext w x1) := Lib.hid (Ext.trans (Ext.alloc (Ext.alloc (Ext.refl _) _) _) hx1)
  have Dp_x1 := Lib.hid (ext_blk hx1 (alloc_blk (new_blk w (.cells #[.int .i64 s, .int .i64 q, .int .i64 kd, .string ser, .int .i64 lim, .string cat, .int .i64 ry, .int .i64 rm, .int .i64 rd, .int .i64 bp, .int .i64 dy, .int .i64 dm, .int .i64 dd, .slice a n cap, .string ofs, .int .i64 ofn, .int .i64 ses] 35))))
  have Dq_x1 := Lib.hid (ext_blk hx1 (show ((w.alloc (.cells #[.int .i64 s, .int .i64 q, .int .i64 kd, .string ser, .int .i64 lim, .string cat, .int .i64 ry, .int .i64 rm, .int .i64 rd, .int .i64 bp, .int .i64 dy, .int .i64 dm, .int .i64 dd, .slice a n cap, .string ofs, .int .i64 ofn, .int .i64 ses] 35)).alloc (.cells #[.int .i64 s, .int .i64 q, .int .i64 kd, .string ser, .int .i64 lim, .string cat, .int .i64 ry, .int .i64 rm, .int .i64 rd, .int .i64 bp, .int .i64 dy, .int .i64 dm, .int .i64 dd, .slice a' n cap', .string ofs, .int .i64 ofn, .int .i64 ses] 35)).heap[w.heap.size + 1]? = some (.cells #[.int .i64 s, .int .i64 q, .int .i64 kd, .string ser, .int .i64 lim, .string cat, .int .i64 ry, .int .i64 rm, .int .i64 rd, .int .i64 bp, .int .i64 dy, .int .i64 dm, .int .i64 dd, .slice a' n cap', .string ofs, .int .i64 ofn, .int .i64 ses] 35 (0, 0)) by have := new_blk (w.alloc (.cells #[.int .i64 s, .int .i64 q, .int .i64 kd, .string ser, .int .i64 lim, .string cat, .int .i64 ry, .int .i64 rm, .int .i64 rd, .int .i64 bp, .int .i64 dy, .int .i64 dm, .int .i64 dd, .slice a n cap, .string ofs, .int .i64 ofn, .int .i64 ses] 35)) (.cells #[.int .i64 s, .int .i64 q, .int .i64 kd, .string ser, .int .i64 lim, .string cat, .int .i64 ry, .int .i64 rm, .int .i64 rd, .int .i64 bp, .int .i64 dy, .int .i64 dm, .int .i64 dd, .slice a' n cap', .string ofs, .int .i64 ofn, .int .i64 ses] 35); simpa using this))
  clear hx1
  go_wp2_with fail
  go_ret
  exact ⟨rfl, T_x1.out⟩
theorem runsEnc1 (z : World) : Calls Try.prog 6 #[Cal.agg 1 2 ⟨6, ⟨#[]⟩, 0, ⟨#[]⟩, 0, 0, 0, 0, 0, 0, 0, ⟨#[]⟩, 0, 0⟩ (.slice none 0 0)] z fun e w' => e = .returned (.tuple #[.string ⟨#[2, 4, 12]⟩, .int .i64 0]) ∧ Ext z w' := by
  have hz : ∀ n : Int, 0 ≤ n → n ≤ 9 → Z64 n := fun n h1 h2 => ⟨by omega, by omega⟩
  have h := enc_any 1 2 (hz 1 (by decide) (by decide)) (hz 2 (by decide) (by decide)) ⟨6, ⟨#[]⟩, 0, ⟨#[]⟩, 0, 0, 0, 0, 0, 0, 0, ⟨#[]⟩, 0, 0⟩ none 0 0 [] rfl (by decide) (by constructor <;> exact hz _ (by decide) (by decide)) (fun x hx => by cases hx) z nil_sls
  have e1 : caT 1 2 ⟨6, ⟨#[]⟩, 0, ⟨#[]⟩, 0, 0, 0, 0, 0, 0, 0, ⟨#[]⟩, 0, 0⟩ [] = ⟨#[2, 4, 12]⟩ := by decide +kernel
  have e2 : putE ⟨6, ⟨#[]⟩, 0, ⟨#[]⟩, 0, 0, 0, 0, 0, 0, 0, ⟨#[]⟩, 0, 0⟩ [] = 0 := by decide +kernel
  rw [e1, e2] at h
  exact h
theorem runsEnc0 (z : World) : Calls Try.prog 6 #[Cal.agg 0 0 Cm.z (.slice none 0 0)] z fun e w' => e = .returned (.tuple #[.string ⟨#[]⟩, .int .i64 17]) ∧ Ext z w' := by
  have hz : ∀ n : Int, 0 ≤ n → n ≤ 9 → Z64 n := fun n h1 h2 => ⟨by omega, by omega⟩
  have h := enc_any 0 0 (hz 0 (by decide) (by decide)) (hz 0 (by decide) (by decide)) Cm.z none 0 0 [] rfl (by decide) (by constructor <;> exact hz _ (by decide) (by decide)) (fun x hx => by cases hx) z nil_sls
  have e2 : putE Cm.z [] = 17 := by decide +kernel
  have e1 : caT 0 0 Cm.z [] = ⟨#[]⟩ := by unfold caT; rw [if_neg (by rw [e2]; decide)]
  rw [e1, e2] at h
  exact h
theorem runsDec (s : ByteArray) (l : List UInt8) (er : Int) (hs : s.data.toList = l) (hl : l.length ≤ 1000) (he : dcE l = er) (h0 : er ≠ 0) (z : World) : Calls Try.prog 7 #[.string s] z fun e w' => e = .returned (.tuple #[Cal.agg 0 0 Cm.z (.slice none 0 0), .int .i64 er]) ∧ Ext z w' := by
  have hsz : s.size = l.length := by rw [← hs]; exact (bytesOf_len s).symm
  refine (dec_any s (by omega) z).mono ?_
  rw [hs]
  rintro e w' (⟨_, h, hx⟩ | ⟨h, _⟩)
  · rw [he] at h
    exact ⟨h, hx⟩
  · rw [he] at h
    exact absurd h h0
set_option maxHeartbeats 8000000 in
set_option maxRecDepth 100000 in
theorem calruns_any (w : World) : Calls Try.prog 3 #[] w fun e w' => e = .returned (.bool true) ∧ Ext w w' := by
  have HE1 := Lib.hid runsEnc1
  have HE0 := Lib.hid runsEnc0
  have HD1 := Lib.hid (runsDec (⟨#[2, 4, 12]⟩ ++ ⟨#[0]⟩) [2, 4, 12, 0] 5 (by decide) (by decide) (by decide +kernel) (by decide))
  have HD0 := Lib.hid (runsDec ⟨#[]⟩ [] 3 (by decide) (by decide) (by decide +kernel) (by decide))
  simp only [Cal.agg, Cm.z] at HE1 HE0 HD1 HD0
  go_enter Try.func3, Try.ntmps3
  go_wp2_with fail
  go_at_call 6
  refine (HE1.out _).mono ?_
  rintro e x1 ⟨rfl, hx1⟩
  have T_x1 : Hid (Ext w x1) := Lib.hid (Ext.trans (Ext.refl _) hx1)
  clear hx1
  go_wp2_with fail
  go_at_call 7
  refine (HD1.out _).mono ?_
  rintro e x2 ⟨rfl, hx2⟩
  have T_x2 : Hid (Ext x1 x2) := Lib.hid (Ext.trans (Ext.refl _) hx2)
  clear hx2
  go_wp2_with fail
  go_at_call 7
  refine (HD0.out _).mono ?_
  rintro e x3 ⟨rfl, hx3⟩
  have T_x3 : Hid (Ext x2 x3) := Lib.hid (Ext.trans (Ext.alloc (Ext.refl _) _) hx3)
  clear hx3
  go_wp2_with fail
  go_at_call 6
  refine (HE0.out _).mono ?_
  rintro e x4 ⟨rfl, hx4⟩
  have T_x4 : Hid (Ext x3 x4) := Lib.hid (Ext.trans (Ext.alloc (Ext.refl _) _) hx4)
  clear hx4
  go_wp2_with fail
  go_ret
  exact ⟨rfl, (((T_x1.out.trans T_x2.out).trans T_x3.out).trans T_x4.out)⟩
end Go.Proofs.Ytochgmpcdmahkaa
