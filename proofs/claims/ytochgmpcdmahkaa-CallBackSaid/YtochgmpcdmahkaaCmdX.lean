/- Package command: the writer's fields. (Written by genCmdX.py.) -/
import Derived.Test.YtochgmpcdmahkaaCmdW
namespace Go.Proofs.Ytochgmpcdmahkaa
open Go.RowKit

def sF (s : WS) (c : Cm) (ls : List Ln) : WS :=
  if c.kd = 1 then sN (sT s c.ser) c.lim
  else if c.kd = 2 then sT s c.ser
  else if c.kd = 3 then sN (sD (sT s c.cat) c.ry c.rm c.rd) c.bp
  else if c.kd = 4 then sLs (sD (sT s c.ser) c.dy c.dm c.dd) ls
  else if c.kd = 5 then sN (sT (sD (sT s c.ser) c.dy c.dm c.dd) c.ofs) c.ofn
  else if c.kd = 7 then sN s c.ses
  else if c.kd = 8 then sT s c.ser
  else s
structure Cm.In (c : Cm) : Prop where
  kd : Z64 c.kd
  lim : Z64 c.lim
  ry : Z64 c.ry
  rm : Z64 c.rm
  rd : Z64 c.rd
  bp : Z64 c.bp
  dy : Z64 c.dy
  dm : Z64 c.dm
  dd : Z64 c.dd
  ofn : Z64 c.ofn
  ses : Z64 c.ses
abbrev LnIn (ls : List Ln) : Prop := ∀ x ∈ ls, Z64 x.count ∧ Z64 x.price
theorem SlS.keepR {w w' : World} {p n cap : Nat} {a : Option Addr} {ls : List Ln} (h : SlS Ln.cells 4 w (.slice a n cap) ls) (hk : KeepR p w w') (hp : ∀ ad, a = some ad → ad.block ≠ p) : SlS Ln.cells 4 w' (.slice a n cap) ls := by
  obtain ⟨h1, h2, a', cap', he, h3⟩ := h
  simp only [Value.slice.injEq] at he
  obtain ⟨rfl, rfl, rfl⟩ := he
  refine ⟨h1, h2, _, _, rfl, ?_⟩
  rcases h3 with h3 | ⟨b, off, rfl, hlt, hc⟩
  · exact .inl h3
  · exact .inr ⟨b, off, rfl, Nat.lt_of_lt_of_le hlt hk.size, fun j hj => (World.cell?_of_block (a := ⟨b, off + j, none⟩) (hk.block b hlt (hp _ rfl))).trans (hc j hj)⟩
set_option maxHeartbeats 4000000 in
set_option maxRecDepth 100000 in
theorem fields_1 {p : Nat} {w : World} {s : WS} (lim ry rm rd bp dy dm dd ofn ses : Int) (ser cat ofs : ByteArray) (a : Option Addr) (n cap : Nat) (zlim : Z64 lim) (h : WI p w s) (hs : s.1.length ≤ 10000) : Calls Try.prog 30 #[.pointer (some ⟨p, 0, none⟩), .agg #[.int .i64 1, .string ser, .int .i64 lim, .string cat, .int .i64 ry, .int .i64 rm, .int .i64 rd, .int .i64 bp, .int .i64 dy, .int .i64 dm, .int .i64 dd, .slice a n cap, .string ofs, .int .i64 ofn, .int .i64 ses]] w fun e w' => e = .returned (.tuple #[]) ∧ WI p w' (sN (sT s ser) lim) ∧ KeepR p w w' := by
  have hlt := h.lt
  have hne : w.heap.size ≠ p := by omega
  have H0 := Lib.hid (h.ext ((Ext.refl w).alloc (.cells #[.int .i64 1, .string ser, .int .i64 lim, .string cat, .int .i64 ry, .int .i64 rm, .int .i64 rd, .int .i64 bp, .int .i64 dy, .int .i64 dm, .int .i64 dd, .slice a n cap, .string ofs, .int .i64 ofn, .int .i64 ses] 33)))
  have B0 := Lib.hid (new_blk w (.cells #[.int .i64 1, .string ser, .int .i64 lim, .string cat, .int .i64 ry, .int .i64 rm, .int .i64 rd, .int .i64 bp, .int .i64 dy, .int .i64 dm, .int .i64 dd, .slice a n cap, .string ofs, .int .i64 ofn, .int .i64 ses] 33))
  have K0 := Lib.hid (KeepR.of_ext (r := p) ((Ext.refl w).alloc (.cells #[.int .i64 1, .string ser, .int .i64 lim, .string cat, .int .i64 ry, .int .i64 rm, .int .i64 rd, .int .i64 bp, .int .i64 dy, .int .i64 dm, .int .i64 dd, .slice a n cap, .string ofs, .int .i64 ofn, .int .i64 ses] 33)))
  have Qlim := Lib.hid zlim
  have l0 := sT_le s ser
  have l1 := sN_le (sT s ser) lim
  clear h zlim
  go_enter Try.func30, Try.ntmps30
  go_wp2_with (first
    | (go_at_call 29; (with_reducible refine (wnum_any (s := (sT s ser)) lim H1.out Qlim.out (by omega)).mono ?_); rintro e x2 ⟨rfl, hw2, hk2⟩; have H2 := Lib.hid hw2; have K2 := Lib.hid (K1.out.trans hk2); have B2 := Lib.hid (keep_blk hk2 B1.out hne); clear hw2 hk2)
    | (go_at_call 45; (with_reducible refine (wtext_any (s := s) ser H0.out (by omega)).mono ?_); rintro e x1 ⟨rfl, hw1, hk1⟩; have H1 := Lib.hid hw1; have K1 := Lib.hid (K0.out.trans hk1); have B1 := Lib.hid (keep_blk hk1 B0.out hne); obtain ⟨c2, _⟩ := blkG B1.out 2 (.int .i64 lim) rfl; clear hw1 hk1))
  go_end0
  exact ⟨rfl, H2.out, K2.out⟩
set_option maxHeartbeats 4000000 in
set_option maxRecDepth 100000 in
theorem fields_2 {p : Nat} {w : World} {s : WS} (lim ry rm rd bp dy dm dd ofn ses : Int) (ser cat ofs : ByteArray) (a : Option Addr) (n cap : Nat) (h : WI p w s) (hs : s.1.length ≤ 10000) : Calls Try.prog 30 #[.pointer (some ⟨p, 0, none⟩), .agg #[.int .i64 2, .string ser, .int .i64 lim, .string cat, .int .i64 ry, .int .i64 rm, .int .i64 rd, .int .i64 bp, .int .i64 dy, .int .i64 dm, .int .i64 dd, .slice a n cap, .string ofs, .int .i64 ofn, .int .i64 ses]] w fun e w' => e = .returned (.tuple #[]) ∧ WI p w' (sT s ser) ∧ KeepR p w w' := by
  have hlt := h.lt
  have hne : w.heap.size ≠ p := by omega
  have H0 := Lib.hid (h.ext ((Ext.refl w).alloc (.cells #[.int .i64 2, .string ser, .int .i64 lim, .string cat, .int .i64 ry, .int .i64 rm, .int .i64 rd, .int .i64 bp, .int .i64 dy, .int .i64 dm, .int .i64 dd, .slice a n cap, .string ofs, .int .i64 ofn, .int .i64 ses] 33)))
  have B0 := Lib.hid (new_blk w (.cells #[.int .i64 2, .string ser, .int .i64 lim, .string cat, .int .i64 ry, .int .i64 rm, .int .i64 rd, .int .i64 bp, .int .i64 dy, .int .i64 dm, .int .i64 dd, .slice a n cap, .string ofs, .int .i64 ofn, .int .i64 ses] 33))
  have K0 := Lib.hid (KeepR.of_ext (r := p) ((Ext.refl w).alloc (.cells #[.int .i64 2, .string ser, .int .i64 lim, .string cat, .int .i64 ry, .int .i64 rm, .int .i64 rd, .int .i64 bp, .int .i64 dy, .int .i64 dm, .int .i64 dd, .slice a n cap, .string ofs, .int .i64 ofn, .int .i64 ses] 33)))
  have l0 := sT_le s ser
  clear h
  go_enter Try.func30, Try.ntmps30
  go_wp2_with (first
    | (go_at_call 45; (with_reducible refine (wtext_any (s := s) ser H0.out (by omega)).mono ?_); rintro e x1 ⟨rfl, hw1, hk1⟩; have H1 := Lib.hid hw1; have K1 := Lib.hid (K0.out.trans hk1); have B1 := Lib.hid (keep_blk hk1 B0.out hne); clear hw1 hk1))
  go_end0
  exact ⟨rfl, H1.out, K1.out⟩
set_option maxHeartbeats 4000000 in
set_option maxRecDepth 100000 in
theorem fields_3 {p : Nat} {w : World} {s : WS} (lim ry rm rd bp dy dm dd ofn ses : Int) (ser cat ofs : ByteArray) (a : Option Addr) (n cap : Nat) (zry : Z64 ry) (zrm : Z64 rm) (zrd : Z64 rd) (zbp : Z64 bp) (h : WI p w s) (hs : s.1.length ≤ 10000) : Calls Try.prog 30 #[.pointer (some ⟨p, 0, none⟩), .agg #[.int .i64 3, .string ser, .int .i64 lim, .string cat, .int .i64 ry, .int .i64 rm, .int .i64 rd, .int .i64 bp, .int .i64 dy, .int .i64 dm, .int .i64 dd, .slice a n cap, .string ofs, .int .i64 ofn, .int .i64 ses]] w fun e w' => e = .returned (.tuple #[]) ∧ WI p w' (sN (sD (sT s cat) ry rm rd) bp) ∧ KeepR p w w' := by
  have hlt := h.lt
  have hne : w.heap.size ≠ p := by omega
  have H0 := Lib.hid (h.ext ((Ext.refl w).alloc (.cells #[.int .i64 3, .string ser, .int .i64 lim, .string cat, .int .i64 ry, .int .i64 rm, .int .i64 rd, .int .i64 bp, .int .i64 dy, .int .i64 dm, .int .i64 dd, .slice a n cap, .string ofs, .int .i64 ofn, .int .i64 ses] 33)))
  have B0 := Lib.hid (new_blk w (.cells #[.int .i64 3, .string ser, .int .i64 lim, .string cat, .int .i64 ry, .int .i64 rm, .int .i64 rd, .int .i64 bp, .int .i64 dy, .int .i64 dm, .int .i64 dd, .slice a n cap, .string ofs, .int .i64 ofn, .int .i64 ses] 33))
  have K0 := Lib.hid (KeepR.of_ext (r := p) ((Ext.refl w).alloc (.cells #[.int .i64 3, .string ser, .int .i64 lim, .string cat, .int .i64 ry, .int .i64 rm, .int .i64 rd, .int .i64 bp, .int .i64 dy, .int .i64 dm, .int .i64 dd, .slice a n cap, .string ofs, .int .i64 ofn, .int .i64 ses] 33)))
  have Qry := Lib.hid zry
  have Qrm := Lib.hid zrm
  have Qrd := Lib.hid zrd
  have Qbp := Lib.hid zbp
  have l0 := sT_le s cat
  have l1 := sD_le (sT s cat) ry rm rd
  have l2 := sN_le (sD (sT s cat) ry rm rd) bp
  clear h zry zrm zrd zbp
  go_enter Try.func30, Try.ntmps30
  go_wp2_with (first
    | (go_at_call 29; (with_reducible refine (wnum_any (s := (sD (sT s cat) ry rm rd)) bp H2.out Qbp.out (by omega)).mono ?_); rintro e x3 ⟨rfl, hw3, hk3⟩; have H3 := Lib.hid hw3; have K3 := Lib.hid (K2.out.trans hk3); have B3 := Lib.hid (keep_blk hk3 B2.out hne); clear hw3 hk3)
    | (go_at_call 46; (with_reducible refine (wday_any (s := (sT s cat)) ry rm rd H1.out Qry.out Qrm.out Qrd.out (by omega)).mono ?_); rintro e x2 ⟨rfl, hw2, hk2⟩; have H2 := Lib.hid hw2; have K2 := Lib.hid (K1.out.trans hk2); have B2 := Lib.hid (keep_blk hk2 B1.out hne); obtain ⟨c7, _⟩ := blkG B2.out 7 (.int .i64 bp) rfl; clear hw2 hk2)
    | (go_at_call 45; (with_reducible refine (wtext_any (s := s) cat H0.out (by omega)).mono ?_); rintro e x1 ⟨rfl, hw1, hk1⟩; have H1 := Lib.hid hw1; have K1 := Lib.hid (K0.out.trans hk1); have B1 := Lib.hid (keep_blk hk1 B0.out hne); obtain ⟨c4, _⟩ := blkG B1.out 4 (.int .i64 ry) rfl; obtain ⟨c5, _⟩ := blkG B1.out 5 (.int .i64 rm) rfl; obtain ⟨c6, _⟩ := blkG B1.out 6 (.int .i64 rd) rfl; clear hw1 hk1))
  go_end0
  exact ⟨rfl, H3.out, K3.out⟩
set_option maxHeartbeats 4000000 in
set_option maxRecDepth 100000 in
theorem fields_4 {p : Nat} {w : World} {s : WS} (lim ry rm rd bp dy dm dd ofn ses : Int) (ser cat ofs : ByteArray) (a : Option Addr) (n cap : Nat) (zdy : Z64 dy) (zdm : Z64 dm) (zdd : Z64 dd) (ls : List Ln) (hn : ls.length = n) (hl : SlS Ln.cells 4 w (.slice a n cap) ls) (hz : LnIn ls) (hp : ∀ ad, a = some ad → ad.block ≠ p) (h : WI p w s) (hs : s.1.length ≤ 10000) : Calls Try.prog 30 #[.pointer (some ⟨p, 0, none⟩), .agg #[.int .i64 4, .string ser, .int .i64 lim, .string cat, .int .i64 ry, .int .i64 rm, .int .i64 rd, .int .i64 bp, .int .i64 dy, .int .i64 dm, .int .i64 dd, .slice a n cap, .string ofs, .int .i64 ofn, .int .i64 ses]] w fun e w' => e = .returned (.tuple #[]) ∧ WI p w' (sLs (sD (sT s ser) dy dm dd) ls) ∧ KeepR p w w' := by
  have hlt := h.lt
  have hne : w.heap.size ≠ p := by omega
  have H0 := Lib.hid (h.ext ((Ext.refl w).alloc (.cells #[.int .i64 4, .string ser, .int .i64 lim, .string cat, .int .i64 ry, .int .i64 rm, .int .i64 rd, .int .i64 bp, .int .i64 dy, .int .i64 dm, .int .i64 dd, .slice a n cap, .string ofs, .int .i64 ofn, .int .i64 ses] 33)))
  have B0 := Lib.hid (new_blk w (.cells #[.int .i64 4, .string ser, .int .i64 lim, .string cat, .int .i64 ry, .int .i64 rm, .int .i64 rd, .int .i64 bp, .int .i64 dy, .int .i64 dm, .int .i64 dd, .slice a n cap, .string ofs, .int .i64 ofn, .int .i64 ses] 33))
  have K0 := Lib.hid (KeepR.of_ext (r := p) ((Ext.refl w).alloc (.cells #[.int .i64 4, .string ser, .int .i64 lim, .string cat, .int .i64 ry, .int .i64 rm, .int .i64 rd, .int .i64 bp, .int .i64 dy, .int .i64 dm, .int .i64 dd, .slice a n cap, .string ofs, .int .i64 ofn, .int .i64 ses] 33)))
  have Qdy := Lib.hid zdy
  have Qdm := Lib.hid zdm
  have Qdd := Lib.hid zdd
  have HL := Lib.hid hl
  have HLN := Lib.hid hz
  have HPA := Lib.hid hp
  have HNN := Lib.hid hn
  have l0 := sT_le s ser
  have l1 := sD_le (sT s ser) dy dm dd
  have l2 := sLs_le (sD (sT s ser) dy dm dd) ls
  clear h zdy zdm zdd hl hz hp hn
  go_enter Try.func30, Try.ntmps30
  go_wp2_with (first
    | (go_at_call 47; (with_reducible refine (wlines_any (s := (sD (sT s ser) dy dm dd)) a n cap ls HNN.out (SlS.keepR HL.out K2.out HPA.out) HLN.out HPA.out H2.out (by omega)).mono ?_); rintro e x3 ⟨rfl, hw3, hk3⟩; have H3 := Lib.hid hw3; have K3 := Lib.hid (K2.out.trans hk3); have B3 := Lib.hid (keep_blk hk3 B2.out hne); clear hw3 hk3)
    | (go_at_call 46; (with_reducible refine (wday_any (s := (sT s ser)) dy dm dd H1.out Qdy.out Qdm.out Qdd.out (by omega)).mono ?_); rintro e x2 ⟨rfl, hw2, hk2⟩; have H2 := Lib.hid hw2; have K2 := Lib.hid (K1.out.trans hk2); have B2 := Lib.hid (keep_blk hk2 B1.out hne); obtain ⟨c11, _⟩ := blkG B2.out 11 (.slice a n cap) rfl; clear hw2 hk2)
    | (go_at_call 45; (with_reducible refine (wtext_any (s := s) ser H0.out (by omega)).mono ?_); rintro e x1 ⟨rfl, hw1, hk1⟩; have H1 := Lib.hid hw1; have K1 := Lib.hid (K0.out.trans hk1); have B1 := Lib.hid (keep_blk hk1 B0.out hne); obtain ⟨c8, _⟩ := blkG B1.out 8 (.int .i64 dy) rfl; obtain ⟨c9, _⟩ := blkG B1.out 9 (.int .i64 dm) rfl; obtain ⟨c10, _⟩ := blkG B1.out 10 (.int .i64 dd) rfl; clear hw1 hk1))
  go_end0
  exact ⟨rfl, H3.out, K3.out⟩
set_option maxHeartbeats 4000000 in
set_option maxRecDepth 100000 in
theorem fields_5 {p : Nat} {w : World} {s : WS} (lim ry rm rd bp dy dm dd ofn ses : Int) (ser cat ofs : ByteArray) (a : Option Addr) (n cap : Nat) (zdy : Z64 dy) (zdm : Z64 dm) (zdd : Z64 dd) (zofn : Z64 ofn) (h : WI p w s) (hs : s.1.length ≤ 10000) : Calls Try.prog 30 #[.pointer (some ⟨p, 0, none⟩), .agg #[.int .i64 5, .string ser, .int .i64 lim, .string cat, .int .i64 ry, .int .i64 rm, .int .i64 rd, .int .i64 bp, .int .i64 dy, .int .i64 dm, .int .i64 dd, .slice a n cap, .string ofs, .int .i64 ofn, .int .i64 ses]] w fun e w' => e = .returned (.tuple #[]) ∧ WI p w' (sN (sT (sD (sT s ser) dy dm dd) ofs) ofn) ∧ KeepR p w w' := by
  have hlt := h.lt
  have hne : w.heap.size ≠ p := by omega
  have H0 := Lib.hid (h.ext ((Ext.refl w).alloc (.cells #[.int .i64 5, .string ser, .int .i64 lim, .string cat, .int .i64 ry, .int .i64 rm, .int .i64 rd, .int .i64 bp, .int .i64 dy, .int .i64 dm, .int .i64 dd, .slice a n cap, .string ofs, .int .i64 ofn, .int .i64 ses] 33)))
  have B0 := Lib.hid (new_blk w (.cells #[.int .i64 5, .string ser, .int .i64 lim, .string cat, .int .i64 ry, .int .i64 rm, .int .i64 rd, .int .i64 bp, .int .i64 dy, .int .i64 dm, .int .i64 dd, .slice a n cap, .string ofs, .int .i64 ofn, .int .i64 ses] 33))
  have K0 := Lib.hid (KeepR.of_ext (r := p) ((Ext.refl w).alloc (.cells #[.int .i64 5, .string ser, .int .i64 lim, .string cat, .int .i64 ry, .int .i64 rm, .int .i64 rd, .int .i64 bp, .int .i64 dy, .int .i64 dm, .int .i64 dd, .slice a n cap, .string ofs, .int .i64 ofn, .int .i64 ses] 33)))
  have Qdy := Lib.hid zdy
  have Qdm := Lib.hid zdm
  have Qdd := Lib.hid zdd
  have Qofn := Lib.hid zofn
  have l0 := sT_le s ser
  have l1 := sD_le (sT s ser) dy dm dd
  have l2 := sT_le (sD (sT s ser) dy dm dd) ofs
  have l3 := sN_le (sT (sD (sT s ser) dy dm dd) ofs) ofn
  clear h zdy zdm zdd zofn
  go_enter Try.func30, Try.ntmps30
  go_wp2_with (first
    | (go_at_call 29; (with_reducible refine (wnum_any (s := (sT (sD (sT s ser) dy dm dd) ofs)) ofn H3.out Qofn.out (by omega)).mono ?_); rintro e x4 ⟨rfl, hw4, hk4⟩; have H4 := Lib.hid hw4; have K4 := Lib.hid (K3.out.trans hk4); have B4 := Lib.hid (keep_blk hk4 B3.out hne); clear hw4 hk4)
    | (go_at_call 45; (with_reducible refine (wtext_any (s := (sD (sT s ser) dy dm dd)) ofs H2.out (by omega)).mono ?_); rintro e x3 ⟨rfl, hw3, hk3⟩; have H3 := Lib.hid hw3; have K3 := Lib.hid (K2.out.trans hk3); have B3 := Lib.hid (keep_blk hk3 B2.out hne); obtain ⟨c13, _⟩ := blkG B3.out 13 (.int .i64 ofn) rfl; clear hw3 hk3)
    | (go_at_call 46; (with_reducible refine (wday_any (s := (sT s ser)) dy dm dd H1.out Qdy.out Qdm.out Qdd.out (by omega)).mono ?_); rintro e x2 ⟨rfl, hw2, hk2⟩; have H2 := Lib.hid hw2; have K2 := Lib.hid (K1.out.trans hk2); have B2 := Lib.hid (keep_blk hk2 B1.out hne); obtain ⟨c12, _⟩ := blkG B2.out 12 (.string ofs) rfl; clear hw2 hk2)
    | (go_at_call 45; (with_reducible refine (wtext_any (s := s) ser H0.out (by omega)).mono ?_); rintro e x1 ⟨rfl, hw1, hk1⟩; have H1 := Lib.hid hw1; have K1 := Lib.hid (K0.out.trans hk1); have B1 := Lib.hid (keep_blk hk1 B0.out hne); obtain ⟨c8, _⟩ := blkG B1.out 8 (.int .i64 dy) rfl; obtain ⟨c9, _⟩ := blkG B1.out 9 (.int .i64 dm) rfl; obtain ⟨c10, _⟩ := blkG B1.out 10 (.int .i64 dd) rfl; clear hw1 hk1))
  go_end0
  exact ⟨rfl, H4.out, K4.out⟩
set_option maxHeartbeats 4000000 in
set_option maxRecDepth 100000 in
theorem fields_6 {p : Nat} {w : World} {s : WS} (lim ry rm rd bp dy dm dd ofn ses : Int) (ser cat ofs : ByteArray) (a : Option Addr) (n cap : Nat) (h : WI p w s) (hs : s.1.length ≤ 10000) : Calls Try.prog 30 #[.pointer (some ⟨p, 0, none⟩), .agg #[.int .i64 6, .string ser, .int .i64 lim, .string cat, .int .i64 ry, .int .i64 rm, .int .i64 rd, .int .i64 bp, .int .i64 dy, .int .i64 dm, .int .i64 dd, .slice a n cap, .string ofs, .int .i64 ofn, .int .i64 ses]] w fun e w' => e = .returned (.tuple #[]) ∧ WI p w' s ∧ KeepR p w w' := by
  have hlt := h.lt
  have hne : w.heap.size ≠ p := by omega
  have H0 := Lib.hid (h.ext ((Ext.refl w).alloc (.cells #[.int .i64 6, .string ser, .int .i64 lim, .string cat, .int .i64 ry, .int .i64 rm, .int .i64 rd, .int .i64 bp, .int .i64 dy, .int .i64 dm, .int .i64 dd, .slice a n cap, .string ofs, .int .i64 ofn, .int .i64 ses] 33)))
  have B0 := Lib.hid (new_blk w (.cells #[.int .i64 6, .string ser, .int .i64 lim, .string cat, .int .i64 ry, .int .i64 rm, .int .i64 rd, .int .i64 bp, .int .i64 dy, .int .i64 dm, .int .i64 dd, .slice a n cap, .string ofs, .int .i64 ofn, .int .i64 ses] 33))
  have K0 := Lib.hid (KeepR.of_ext (r := p) ((Ext.refl w).alloc (.cells #[.int .i64 6, .string ser, .int .i64 lim, .string cat, .int .i64 ry, .int .i64 rm, .int .i64 rd, .int .i64 bp, .int .i64 dy, .int .i64 dm, .int .i64 dd, .slice a n cap, .string ofs, .int .i64 ofn, .int .i64 ses] 33)))
  clear h
  go_enter Try.func30, Try.ntmps30
  go_wp2
  go_end0
  exact ⟨rfl, H0.out, K0.out⟩
set_option maxHeartbeats 4000000 in
set_option maxRecDepth 100000 in
theorem fields_7 {p : Nat} {w : World} {s : WS} (lim ry rm rd bp dy dm dd ofn ses : Int) (ser cat ofs : ByteArray) (a : Option Addr) (n cap : Nat) (zses : Z64 ses) (h : WI p w s) (hs : s.1.length ≤ 10000) : Calls Try.prog 30 #[.pointer (some ⟨p, 0, none⟩), .agg #[.int .i64 7, .string ser, .int .i64 lim, .string cat, .int .i64 ry, .int .i64 rm, .int .i64 rd, .int .i64 bp, .int .i64 dy, .int .i64 dm, .int .i64 dd, .slice a n cap, .string ofs, .int .i64 ofn, .int .i64 ses]] w fun e w' => e = .returned (.tuple #[]) ∧ WI p w' (sN s ses) ∧ KeepR p w w' := by
  have hlt := h.lt
  have hne : w.heap.size ≠ p := by omega
  have H0 := Lib.hid (h.ext ((Ext.refl w).alloc (.cells #[.int .i64 7, .string ser, .int .i64 lim, .string cat, .int .i64 ry, .int .i64 rm, .int .i64 rd, .int .i64 bp, .int .i64 dy, .int .i64 dm, .int .i64 dd, .slice a n cap, .string ofs, .int .i64 ofn, .int .i64 ses] 33)))
  have B0 := Lib.hid (new_blk w (.cells #[.int .i64 7, .string ser, .int .i64 lim, .string cat, .int .i64 ry, .int .i64 rm, .int .i64 rd, .int .i64 bp, .int .i64 dy, .int .i64 dm, .int .i64 dd, .slice a n cap, .string ofs, .int .i64 ofn, .int .i64 ses] 33))
  have K0 := Lib.hid (KeepR.of_ext (r := p) ((Ext.refl w).alloc (.cells #[.int .i64 7, .string ser, .int .i64 lim, .string cat, .int .i64 ry, .int .i64 rm, .int .i64 rd, .int .i64 bp, .int .i64 dy, .int .i64 dm, .int .i64 dd, .slice a n cap, .string ofs, .int .i64 ofn, .int .i64 ses] 33)))
  have Qses := Lib.hid zses
  have l0 := sN_le s ses
  clear h zses
  go_enter Try.func30, Try.ntmps30
  go_wp2_with (first
    | (go_at_call 29; (with_reducible refine (wnum_any (s := s) ses H0.out Qses.out (by omega)).mono ?_); rintro e x1 ⟨rfl, hw1, hk1⟩; have H1 := Lib.hid hw1; have K1 := Lib.hid (K0.out.trans hk1); have B1 := Lib.hid (keep_blk hk1 B0.out hne); clear hw1 hk1))
  go_end0
  exact ⟨rfl, H1.out, K1.out⟩
set_option maxHeartbeats 4000000 in
set_option maxRecDepth 100000 in
theorem fields_8 {p : Nat} {w : World} {s : WS} (lim ry rm rd bp dy dm dd ofn ses : Int) (ser cat ofs : ByteArray) (a : Option Addr) (n cap : Nat) (h : WI p w s) (hs : s.1.length ≤ 10000) : Calls Try.prog 30 #[.pointer (some ⟨p, 0, none⟩), .agg #[.int .i64 8, .string ser, .int .i64 lim, .string cat, .int .i64 ry, .int .i64 rm, .int .i64 rd, .int .i64 bp, .int .i64 dy, .int .i64 dm, .int .i64 dd, .slice a n cap, .string ofs, .int .i64 ofn, .int .i64 ses]] w fun e w' => e = .returned (.tuple #[]) ∧ WI p w' (sT s ser) ∧ KeepR p w w' := by
  have hlt := h.lt
  have hne : w.heap.size ≠ p := by omega
  have H0 := Lib.hid (h.ext ((Ext.refl w).alloc (.cells #[.int .i64 8, .string ser, .int .i64 lim, .string cat, .int .i64 ry, .int .i64 rm, .int .i64 rd, .int .i64 bp, .int .i64 dy, .int .i64 dm, .int .i64 dd, .slice a n cap, .string ofs, .int .i64 ofn, .int .i64 ses] 33)))
  have B0 := Lib.hid (new_blk w (.cells #[.int .i64 8, .string ser, .int .i64 lim, .string cat, .int .i64 ry, .int .i64 rm, .int .i64 rd, .int .i64 bp, .int .i64 dy, .int .i64 dm, .int .i64 dd, .slice a n cap, .string ofs, .int .i64 ofn, .int .i64 ses] 33))
  have K0 := Lib.hid (KeepR.of_ext (r := p) ((Ext.refl w).alloc (.cells #[.int .i64 8, .string ser, .int .i64 lim, .string cat, .int .i64 ry, .int .i64 rm, .int .i64 rd, .int .i64 bp, .int .i64 dy, .int .i64 dm, .int .i64 dd, .slice a n cap, .string ofs, .int .i64 ofn, .int .i64 ses] 33)))
  have l0 := sT_le s ser
  clear h
  go_enter Try.func30, Try.ntmps30
  go_wp2_with (first
    | (go_at_call 45; (with_reducible refine (wtext_any (s := s) ser H0.out (by omega)).mono ?_); rintro e x1 ⟨rfl, hw1, hk1⟩; have H1 := Lib.hid hw1; have K1 := Lib.hid (K0.out.trans hk1); have B1 := Lib.hid (keep_blk hk1 B0.out hne); clear hw1 hk1))
  go_end0
  exact ⟨rfl, H1.out, K1.out⟩
theorem ok_cases2 {c : Cm} (h : c.Ok) : c.kd = 1 ∨ c.kd = 2 ∨ c.kd = 3 ∨ c.kd = 4 ∨ c.kd = 5 ∨ c.kd = 6 ∨ c.kd = 7 ∨ c.kd = 8 := by
  unfold Cm.Ok at h
  omega
theorem fields_ok {p : Nat} {w : World} {s : WS} (c : Cm) (h : c.Ok) (hin : c.In) (a : Option Addr) (n cap : Nat) (ls : List Ln) (hn : ls.length = n) (hl : SlS Ln.cells 4 w (.slice a n cap) ls) (hz : LnIn ls) (hp : ∀ ad, a = some ad → ad.block ≠ p) (hw : WI p w s) (hs : s.1.length ≤ 10000) : Calls Try.prog 30 #[.pointer (some ⟨p, 0, none⟩), c.agg (.slice a n cap)] w fun e w' => e = .returned (.tuple #[]) ∧ WI p w' (sF s c ls) ∧ KeepR p w w' := by
  have hk := ok_cases2 h
  clear h
  obtain ⟨kd, ser, lim, cat, ry, rm, rd, bp, dy, dm, dd, ofs, ofn, ses⟩ := c
  rcases hk with hk | hk | hk | hk | hk | hk | hk | hk
  all_goals
    simp only at hk
    subst hk
  · exact fields_1 lim ry rm rd bp dy dm dd ofn ses ser cat ofs a n cap hin.lim hw hs
  · exact fields_2 lim ry rm rd bp dy dm dd ofn ses ser cat ofs a n cap hw hs
  · exact fields_3 lim ry rm rd bp dy dm dd ofn ses ser cat ofs a n cap hin.ry hin.rm hin.rd hin.bp hw hs
  · exact fields_4 lim ry rm rd bp dy dm dd ofn ses ser cat ofs a n cap hin.dy hin.dm hin.dd ls hn hl hz hp hw hs
  · exact fields_5 lim ry rm rd bp dy dm dd ofn ses ser cat ofs a n cap hin.dy hin.dm hin.dd hin.ofn hw hs
  · exact fields_6 lim ry rm rd bp dy dm dd ofn ses ser cat ofs a n cap hw hs
  · exact fields_7 lim ry rm rd bp dy dm dd ofn ses ser cat ofs a n cap hin.ses hw hs
  · exact fields_8 lim ry rm rd bp dy dm dd ofn ses ser cat ofs a n cap hw hs
/-- What a Put has written. -/
def putS (c : Cm) (ls : List Ln) : WS := sF (sN ([], false) c.kd) c ls
def putE (c : Cm) (ls : List Ln) : Int := if c.Ok then (if (putS c ls).2 = true ∨ 1024 < (putS c ls).1.length then 2 else 0) else 17
def putB (c : Cm) (ls : List Ln) : List UInt8 := if putE c ls = 0 then (putS c ls).1 else []
theorem own8_len {te : TypeId} {w : World} {B : Nat} {v : Value} {l : List UInt8} (h : Own8 te w B v l) : ∃ k a c, k = l.length ∧ v = .slice a k c := by
  obtain ⟨_, _, a, c, rfl, _⟩ := Own8.slr h
  exact ⟨_, a, c, rfl, rfl⟩
end Go.Proofs.Ytochgmpcdmahkaa
