/- Package command: Put. (Written by genCmdX.py.) -/
import Derived.Test.YtochgmpcdmahkaaCmdX
import Derived.Test.YtochgmpcdmahkaaCmdD
namespace Go.Proofs.Ytochgmpcdmahkaa
open Go.RowKit

theorem put_no (w : World) : Calls Try.prog 14 #[.agg #[.nilIface]] w fun e w' => e = .returned (.tuple #[.slice none 0 0, .int .i64 17]) ∧ Ext w w' := by
  have HF := Lib.hid fun z => flat_0 z
  go_enter Try.func14, Try.ntmps14
  go_wp2_with (go_at_call 21; (with_reducible refine (HF.out _).mono ?_); rintro e x ⟨rfl, hx⟩)
  go_ret2
  exact ⟨rfl, Ext.alloc (Ext.trans ((Ext.refl w).alloc _) hx) _⟩

theorem sF_bare (s : WS) (c : Cm) (h : c.Ok) (ls : List Ln) : sF s c.bare ls = sF s c ls := by
  have hk := ok_cases h
  clear h
  obtain ⟨kd, ser, lim, cat, ry, rm, rd, bp, dy, dm, dd, ofs, ofn, ses⟩ := c
  rcases hk with hk | hk | hk | hk | hk | hk | hk | hk
  all_goals
    simp only at hk
    subst hk
    rfl
theorem z64_0 : Z64 0 := by unfold Z64; omega
theorem bare_in {c : Cm} (h : c.In) (hk : c.Ok) : c.bare.In := by
  have hk := ok_cases hk
  obtain ⟨hkd, hlim, hry, hrm, hrd, hbp, hdy, hdm, hdd, hofn, hses⟩ := h
  obtain ⟨kd, ser, lim, cat, ry, rm, rd, bp, dy, dm, dd, ofs, ofn, ses⟩ := c
  rcases hk with hk | hk | hk | hk | hk | hk | hk | hk
  all_goals
    simp only at hk
    subst hk
    simp only [Cm.bare]
    constructor <;> first | exact z64_0 | assumption
theorem bare_ok {c : Cm} (h : c.Ok) : c.bare.Ok := by
  have := bare_kd c h
  unfold Cm.Ok at h ⊢
  rw [this]
  exact h

set_option maxHeartbeats 8000000 in
set_option maxRecDepth 100000 in
theorem put_s1 {w : World} {t : TypeId} {x : Value} {c : Cm} {ls : List Ln} {n : Nat} (h : c.Ok) (hin : c.In) (hz : LnIn ls) (hh : Held w (.iface t x) c ls n) (L : List UInt8) (hs : putS c ls = (L, true)) : Calls Try.prog 14 #[.agg #[.iface t x]] w fun e w' => ∃ bv, e = .returned (.tuple #[bv, .int .i64 2]) ∧ Rd8 w' bv [] ∧ Ext w w' := by
  have hnn : ls.length = n := by obtain ⟨_, _, _, h2, _⟩ := hh; exact h2
  have HFL := Lib.hid fun z (hz : Ext w z) => flat_ok h (hh.ext hz)
  have hbk := bare_kd c h
  have hbo := bare_ok h
  have hbi := bare_in hin h
  have hsb : sF (sN ([], false) c.bare.kd) c.bare ls = (L, true) := by
    rw [sF_bare _ _ h, hbk]
    exact hs
  clear hs h hin hbk hh
  generalize c.bare = c at *
  have HFI := Lib.hid fun (p : Nat) (z : World) (a : Option Addr) (cap : Nat) (hl : SlS Ln.cells 4 z (.slice a n cap) ls) (hp : ∀ ad, a = some ad → ad.block ≠ p) (hw : WI p z (sN ([], false) c.kd)) => fields_ok c hbo hbi a n cap ls hnn hl hz hp hw (by have := sN_le ([], false) c.kd; simp only [List.length_nil] at this; omega)
  have hkz : Z64 c.kd := hbi.kd
  rw [hsb] at HFI
  obtain ⟨kd, ser, lim, cat, ry, rm, rd, bp, dy, dm, dd, ofs, ofn, ses⟩ := c
  simp only [Cm.agg] at HFL HFI hkz
  have HKZ := Lib.hid hkz
  clear hbo hbi hsb hz hnn hkz
  go_enter Try.func14, Try.ntmps14
  go_wp2_with (first
    | (go_at_call 21; (with_reducible refine (HFL.out _ ((Ext.refl w).alloc _)).mono ?_); rintro e x1 ⟨a2, c2, rfl, ho, hx⟩; have HX := Lib.hid (Ext.trans ((Ext.refl w).alloc _) hx); have HO := Lib.hid ho; have W0 : Hid (WI (x1.heap.size + 1) ((x1.alloc (.cells #[.int .i64 kd, .string ser, .int .i64 lim, .string cat, .int .i64 ry, .int .i64 rm, .int .i64 rd, .int .i64 bp, .int .i64 dy, .int .i64 dm, .int .i64 dd, .slice a2 n c2, .string ofs, .int .i64 ofn, .int .i64 ses] 33)).alloc (.cells #[.slice none 0 0, .bool false] 77)) ([], false)) := Lib.hid ⟨.slice none 0 0, by simpa using new_blk (x1.alloc (.cells #[.int .i64 kd, .string ser, .int .i64 lim, .string cat, .int .i64 ry, .int .i64 rm, .int .i64 rd, .int .i64 bp, .int .i64 dy, .int .i64 dm, .int .i64 dd, .slice a2 n c2, .string ofs, .int .i64 ofn, .int .i64 ses] 33)) (.cells #[.slice none 0 0, .bool false] 77), World.ownsRow_nil _ _ _ _⟩; have B0 := Lib.hid (alloc_blk (o' := .cells #[.slice none 0 0, .bool false] 77) (new_blk x1 (.cells #[.int .i64 kd, .string ser, .int .i64 lim, .string cat, .int .i64 ry, .int .i64 rm, .int .i64 rd, .int .i64 bp, .int .i64 dy, .int .i64 dm, .int .i64 dd, .slice a2 n c2, .string ofs, .int .i64 ofn, .int .i64 ses] 33))); clear ho hx)
    | (go_at_call 29; (with_reducible refine (wnum_any (s := ([], false)) _ W0.out HKZ.out (by simp)).mono ?_); rintro e x2 ⟨rfl, hw2, hk2⟩; have W1 := Lib.hid hw2; have hne : x1.heap.size ≠ x1.heap.size + 1 := (by omega); have B1 := Lib.hid (keep_blk hk2 B0.out hne); have K1 := Lib.hid hk2; have HPN : Hid (∀ ad, a2 = some ad → ad.block ≠ x1.heap.size + 1) := Lib.hid (fun ad he => Nat.ne_of_lt (Nat.lt_of_lt_of_le (own_blkE HO.out ad _ _ (by rw [he])).1 (Nat.le_succ _))); have HSL : Hid (SlS Ln.cells 4 x2 (.slice a2 n c2) ls) := Lib.hid (SlS.keepR (SlS.ext (OwnS.rd HO.out) (((Ext.refl x1).alloc _).alloc _)) K1.out HPN.out); obtain ⟨m0, _⟩ := blkG B1.out 0 (.int .i64 kd) rfl; obtain ⟨m1, _⟩ := blkG B1.out 1 (.string ser) rfl; obtain ⟨m2, _⟩ := blkG B1.out 2 (.int .i64 lim) rfl; obtain ⟨m3, _⟩ := blkG B1.out 3 (.string cat) rfl; obtain ⟨m4, _⟩ := blkG B1.out 4 (.int .i64 ry) rfl; obtain ⟨m5, _⟩ := blkG B1.out 5 (.int .i64 rm) rfl; obtain ⟨m6, _⟩ := blkG B1.out 6 (.int .i64 rd) rfl; obtain ⟨m7, _⟩ := blkG B1.out 7 (.int .i64 bp) rfl; obtain ⟨m8, _⟩ := blkG B1.out 8 (.int .i64 dy) rfl; obtain ⟨m9, _⟩ := blkG B1.out 9 (.int .i64 dm) rfl; obtain ⟨m10, _⟩ := blkG B1.out 10 (.int .i64 dd) rfl; obtain ⟨m11, _⟩ := blkG B1.out 11 (.slice a2 n c2) rfl; obtain ⟨m12, _⟩ := blkG B1.out 12 (.string ofs) rfl; obtain ⟨m13, _⟩ := blkG B1.out 13 (.int .i64 ofn) rfl; obtain ⟨m14, _⟩ := blkG B1.out 14 (.int .i64 ses) rfl; clear hw2 hk2)
    | (go_at_call 30; (with_reducible refine (HFI.out _ _ _ _ HSL.out HPN.out W1.out).mono ?_); rintro e x3 ⟨rfl, ⟨bv, hb3, ho3⟩, hk3⟩; have K2 := Lib.hid (K1.out.trans hk3); obtain ⟨bn, ba, bc, hbn, hbv⟩ := own8_len ho3; subst hbv; have hbm : bn = L.length := hbn; clear hbn;  have HBN := Lib.hid hbm; clear hbm; obtain ⟨d0, _⟩ := blkG hb3 0 _ rfl; obtain ⟨d1, _⟩ := blkG hb3 1 _ rfl; have O3 := Lib.hid ho3; clear hk3 hb3 ho3))
  go_ret2
  exact ⟨_, rfl, Rd8.nil _, Ext.trans HX.out (Below.trans (((Ext.refl x1).alloc _).alloc _) ((Below.mono (K2.out.below (Nat.le_refl _) (by simp)) (by omega))))⟩
set_option maxHeartbeats 8000000 in
set_option maxRecDepth 100000 in
theorem put_s2 {w : World} {t : TypeId} {x : Value} {c : Cm} {ls : List Ln} {n : Nat} (h : c.Ok) (hin : c.In) (hz : LnIn ls) (hh : Held w (.iface t x) c ls n) (L : List UInt8) (hs : putS c ls = (L, false)) (hL : 1024 < L.length) : Calls Try.prog 14 #[.agg #[.iface t x]] w fun e w' => ∃ bv, e = .returned (.tuple #[bv, .int .i64 2]) ∧ Rd8 w' bv [] ∧ Ext w w' := by
  have hnn : ls.length = n := by obtain ⟨_, _, _, h2, _⟩ := hh; exact h2
  have HFL := Lib.hid fun z (hz : Ext w z) => flat_ok h (hh.ext hz)
  have hbk := bare_kd c h
  have hbo := bare_ok h
  have hbi := bare_in hin h
  have hsb : sF (sN ([], false) c.bare.kd) c.bare ls = (L, false) := by
    rw [sF_bare _ _ h, hbk]
    exact hs
  clear hs h hin hbk hh
  generalize c.bare = c at *
  have HFI := Lib.hid fun (p : Nat) (z : World) (a : Option Addr) (cap : Nat) (hl : SlS Ln.cells 4 z (.slice a n cap) ls) (hp : ∀ ad, a = some ad → ad.block ≠ p) (hw : WI p z (sN ([], false) c.kd)) => fields_ok c hbo hbi a n cap ls hnn hl hz hp hw (by have := sN_le ([], false) c.kd; simp only [List.length_nil] at this; omega)
  have hkz : Z64 c.kd := hbi.kd
  rw [hsb] at HFI
  obtain ⟨kd, ser, lim, cat, ry, rm, rd, bp, dy, dm, dd, ofs, ofn, ses⟩ := c
  simp only [Cm.agg] at HFL HFI hkz
  have HKZ := Lib.hid hkz
  have HLL := Lib.hid hL
  clear hbo hbi hsb hz hnn hkz hL
  go_enter Try.func14, Try.ntmps14
  go_wp2_with (first
    | (go_at_call 21; (with_reducible refine (HFL.out _ ((Ext.refl w).alloc _)).mono ?_); rintro e x1 ⟨a2, c2, rfl, ho, hx⟩; have HX := Lib.hid (Ext.trans ((Ext.refl w).alloc _) hx); have HO := Lib.hid ho; have W0 : Hid (WI (x1.heap.size + 1) ((x1.alloc (.cells #[.int .i64 kd, .string ser, .int .i64 lim, .string cat, .int .i64 ry, .int .i64 rm, .int .i64 rd, .int .i64 bp, .int .i64 dy, .int .i64 dm, .int .i64 dd, .slice a2 n c2, .string ofs, .int .i64 ofn, .int .i64 ses] 33)).alloc (.cells #[.slice none 0 0, .bool false] 77)) ([], false)) := Lib.hid ⟨.slice none 0 0, by simpa using new_blk (x1.alloc (.cells #[.int .i64 kd, .string ser, .int .i64 lim, .string cat, .int .i64 ry, .int .i64 rm, .int .i64 rd, .int .i64 bp, .int .i64 dy, .int .i64 dm, .int .i64 dd, .slice a2 n c2, .string ofs, .int .i64 ofn, .int .i64 ses] 33)) (.cells #[.slice none 0 0, .bool false] 77), World.ownsRow_nil _ _ _ _⟩; have B0 := Lib.hid (alloc_blk (o' := .cells #[.slice none 0 0, .bool false] 77) (new_blk x1 (.cells #[.int .i64 kd, .string ser, .int .i64 lim, .string cat, .int .i64 ry, .int .i64 rm, .int .i64 rd, .int .i64 bp, .int .i64 dy, .int .i64 dm, .int .i64 dd, .slice a2 n c2, .string ofs, .int .i64 ofn, .int .i64 ses] 33))); clear ho hx)
    | (go_at_call 29; (with_reducible refine (wnum_any (s := ([], false)) _ W0.out HKZ.out (by simp)).mono ?_); rintro e x2 ⟨rfl, hw2, hk2⟩; have W1 := Lib.hid hw2; have hne : x1.heap.size ≠ x1.heap.size + 1 := (by omega); have B1 := Lib.hid (keep_blk hk2 B0.out hne); have K1 := Lib.hid hk2; have HPN : Hid (∀ ad, a2 = some ad → ad.block ≠ x1.heap.size + 1) := Lib.hid (fun ad he => Nat.ne_of_lt (Nat.lt_of_lt_of_le (own_blkE HO.out ad _ _ (by rw [he])).1 (Nat.le_succ _))); have HSL : Hid (SlS Ln.cells 4 x2 (.slice a2 n c2) ls) := Lib.hid (SlS.keepR (SlS.ext (OwnS.rd HO.out) (((Ext.refl x1).alloc _).alloc _)) K1.out HPN.out); obtain ⟨m0, _⟩ := blkG B1.out 0 (.int .i64 kd) rfl; obtain ⟨m1, _⟩ := blkG B1.out 1 (.string ser) rfl; obtain ⟨m2, _⟩ := blkG B1.out 2 (.int .i64 lim) rfl; obtain ⟨m3, _⟩ := blkG B1.out 3 (.string cat) rfl; obtain ⟨m4, _⟩ := blkG B1.out 4 (.int .i64 ry) rfl; obtain ⟨m5, _⟩ := blkG B1.out 5 (.int .i64 rm) rfl; obtain ⟨m6, _⟩ := blkG B1.out 6 (.int .i64 rd) rfl; obtain ⟨m7, _⟩ := blkG B1.out 7 (.int .i64 bp) rfl; obtain ⟨m8, _⟩ := blkG B1.out 8 (.int .i64 dy) rfl; obtain ⟨m9, _⟩ := blkG B1.out 9 (.int .i64 dm) rfl; obtain ⟨m10, _⟩ := blkG B1.out 10 (.int .i64 dd) rfl; obtain ⟨m11, _⟩ := blkG B1.out 11 (.slice a2 n c2) rfl; obtain ⟨m12, _⟩ := blkG B1.out 12 (.string ofs) rfl; obtain ⟨m13, _⟩ := blkG B1.out 13 (.int .i64 ofn) rfl; obtain ⟨m14, _⟩ := blkG B1.out 14 (.int .i64 ses) rfl; clear hw2 hk2)
    | (go_at_call 30; (with_reducible refine (HFI.out _ _ _ _ HSL.out HPN.out W1.out).mono ?_); rintro e x3 ⟨rfl, ⟨bv, hb3, ho3⟩, hk3⟩; have K2 := Lib.hid (K1.out.trans hk3); obtain ⟨bn, ba, bc, hbn, hbv⟩ := own8_len ho3; subst hbv; have hbm : bn = L.length := hbn; clear hbn; have hbi : (1024 : Int) < (bn : Int) := (by have := HLL.out; omega); have HBN := Lib.hid hbm; clear hbm; obtain ⟨d0, _⟩ := blkG hb3 0 _ rfl; obtain ⟨d1, _⟩ := blkG hb3 1 _ rfl; have O3 := Lib.hid ho3; clear hk3 hb3 ho3))
  go_ret2
  exact ⟨_, rfl, Rd8.nil _, Ext.trans HX.out (Below.trans (((Ext.refl x1).alloc _).alloc _) ((Below.mono (K2.out.below (Nat.le_refl _) (by simp)) (by omega))))⟩
set_option maxHeartbeats 8000000 in
set_option maxRecDepth 100000 in
theorem put_s3o {w : World} {t : TypeId} {x : Value} {c : Cm} {ls : List Ln} {n : Nat} (h : c.Ok) (hin : c.In) (hz : LnIn ls) (hh : Held w (.iface t x) c ls n) (L : List UInt8) (hs : putS c ls = (L, false)) (hL : ¬ 1024 < L.length) : Calls Try.prog 14 #[.agg #[.iface t x]] w fun e w' => ∃ bv, e = .returned (.tuple #[bv, .int .i64 0]) ∧ Own8 5 w' w.heap.size bv L ∧ Ext w w' := by
  have hnn : ls.length = n := by obtain ⟨_, _, _, h2, _⟩ := hh; exact h2
  have HFL := Lib.hid fun z (hz : Ext w z) => flat_ok h (hh.ext hz)
  have hbk := bare_kd c h
  have hbo := bare_ok h
  have hbi := bare_in hin h
  have hsb : sF (sN ([], false) c.bare.kd) c.bare ls = (L, false) := by
    rw [sF_bare _ _ h, hbk]
    exact hs
  clear hs h hin hbk hh
  generalize c.bare = c at *
  have HFI := Lib.hid fun (p : Nat) (z : World) (a : Option Addr) (cap : Nat) (hl : SlS Ln.cells 4 z (.slice a n cap) ls) (hp : ∀ ad, a = some ad → ad.block ≠ p) (hw : WI p z (sN ([], false) c.kd)) => fields_ok c hbo hbi a n cap ls hnn hl hz hp hw (by have := sN_le ([], false) c.kd; simp only [List.length_nil] at this; omega)
  have hkz : Z64 c.kd := hbi.kd
  rw [hsb] at HFI
  obtain ⟨kd, ser, lim, cat, ry, rm, rd, bp, dy, dm, dd, ofs, ofn, ses⟩ := c
  simp only [Cm.agg] at HFL HFI hkz
  have HKZ := Lib.hid hkz
  have HLL := Lib.hid hL
  clear hbo hbi hsb hz hnn hkz hL
  go_enter Try.func14, Try.ntmps14
  go_wp2_with (first
    | (go_at_call 21; (with_reducible refine (HFL.out _ ((Ext.refl w).alloc _)).mono ?_); rintro e x1 ⟨a2, c2, rfl, ho, hx⟩; have HX := Lib.hid (Ext.trans ((Ext.refl w).alloc _) hx); have HO := Lib.hid ho; have W0 : Hid (WI (x1.heap.size + 1) ((x1.alloc (.cells #[.int .i64 kd, .string ser, .int .i64 lim, .string cat, .int .i64 ry, .int .i64 rm, .int .i64 rd, .int .i64 bp, .int .i64 dy, .int .i64 dm, .int .i64 dd, .slice a2 n c2, .string ofs, .int .i64 ofn, .int .i64 ses] 33)).alloc (.cells #[.slice none 0 0, .bool false] 77)) ([], false)) := Lib.hid ⟨.slice none 0 0, by simpa using new_blk (x1.alloc (.cells #[.int .i64 kd, .string ser, .int .i64 lim, .string cat, .int .i64 ry, .int .i64 rm, .int .i64 rd, .int .i64 bp, .int .i64 dy, .int .i64 dm, .int .i64 dd, .slice a2 n c2, .string ofs, .int .i64 ofn, .int .i64 ses] 33)) (.cells #[.slice none 0 0, .bool false] 77), World.ownsRow_nil _ _ _ _⟩; have B0 := Lib.hid (alloc_blk (o' := .cells #[.slice none 0 0, .bool false] 77) (new_blk x1 (.cells #[.int .i64 kd, .string ser, .int .i64 lim, .string cat, .int .i64 ry, .int .i64 rm, .int .i64 rd, .int .i64 bp, .int .i64 dy, .int .i64 dm, .int .i64 dd, .slice a2 n c2, .string ofs, .int .i64 ofn, .int .i64 ses] 33))); clear ho hx)
    | (go_at_call 29; (with_reducible refine (wnum_any (s := ([], false)) _ W0.out HKZ.out (by simp)).mono ?_); rintro e x2 ⟨rfl, hw2, hk2⟩; have W1 := Lib.hid hw2; have hne : x1.heap.size ≠ x1.heap.size + 1 := (by omega); have B1 := Lib.hid (keep_blk hk2 B0.out hne); have K1 := Lib.hid hk2; have HPN : Hid (∀ ad, a2 = some ad → ad.block ≠ x1.heap.size + 1) := Lib.hid (fun ad he => Nat.ne_of_lt (Nat.lt_of_lt_of_le (own_blkE HO.out ad _ _ (by rw [he])).1 (Nat.le_succ _))); have HSL : Hid (SlS Ln.cells 4 x2 (.slice a2 n c2) ls) := Lib.hid (SlS.keepR (SlS.ext (OwnS.rd HO.out) (((Ext.refl x1).alloc _).alloc _)) K1.out HPN.out); obtain ⟨m0, _⟩ := blkG B1.out 0 (.int .i64 kd) rfl; obtain ⟨m1, _⟩ := blkG B1.out 1 (.string ser) rfl; obtain ⟨m2, _⟩ := blkG B1.out 2 (.int .i64 lim) rfl; obtain ⟨m3, _⟩ := blkG B1.out 3 (.string cat) rfl; obtain ⟨m4, _⟩ := blkG B1.out 4 (.int .i64 ry) rfl; obtain ⟨m5, _⟩ := blkG B1.out 5 (.int .i64 rm) rfl; obtain ⟨m6, _⟩ := blkG B1.out 6 (.int .i64 rd) rfl; obtain ⟨m7, _⟩ := blkG B1.out 7 (.int .i64 bp) rfl; obtain ⟨m8, _⟩ := blkG B1.out 8 (.int .i64 dy) rfl; obtain ⟨m9, _⟩ := blkG B1.out 9 (.int .i64 dm) rfl; obtain ⟨m10, _⟩ := blkG B1.out 10 (.int .i64 dd) rfl; obtain ⟨m11, _⟩ := blkG B1.out 11 (.slice a2 n c2) rfl; obtain ⟨m12, _⟩ := blkG B1.out 12 (.string ofs) rfl; obtain ⟨m13, _⟩ := blkG B1.out 13 (.int .i64 ofn) rfl; obtain ⟨m14, _⟩ := blkG B1.out 14 (.int .i64 ses) rfl; clear hw2 hk2)
    | (go_at_call 30; (with_reducible refine (HFI.out _ _ _ _ HSL.out HPN.out W1.out).mono ?_); rintro e x3 ⟨rfl, ⟨bv, hb3, ho3⟩, hk3⟩; have K2 := Lib.hid (K1.out.trans hk3); obtain ⟨bn, ba, bc, hbn, hbv⟩ := own8_len ho3; subst hbv; have hbm : bn = L.length := hbn; clear hbn; have hbi : ¬ (1024 : Int) < (bn : Int) := (by have := HLL.out; omega); have HBN := Lib.hid hbm; clear hbm; obtain ⟨d0, _⟩ := blkG hb3 0 _ rfl; obtain ⟨d1, _⟩ := blkG hb3 1 _ rfl; have O3 := Lib.hid ho3; clear hk3 hb3 ho3))
  go_ret2
  exact ⟨_, rfl, own8_base O3.out (by have := HX.out.size; omega), Ext.trans HX.out (Below.trans (((Ext.refl x1).alloc _).alloc _) ((Below.mono (K2.out.below (Nat.le_refl _) (by simp)) (by omega))))⟩
theorem put_s3 {w : World} {t : TypeId} {x : Value} {c : Cm} {ls : List Ln} {n : Nat} (h : c.Ok) (hin : c.In) (hz : LnIn ls) (hh : Held w (.iface t x) c ls n) (L : List UInt8) (hs : putS c ls = (L, false)) (hL : ¬ 1024 < L.length) : Calls Try.prog 14 #[.agg #[.iface t x]] w fun e w' => ∃ bv, e = .returned (.tuple #[bv, .int .i64 0]) ∧ Rd8 w' bv L ∧ Ext w w' :=
  (put_s3o h hin hz hh L hs hL).mono fun _ _ ⟨bv, h1, h2, h3⟩ => ⟨bv, h1, Own8.rd h2, h3⟩
theorem put_ok {w : World} {t : TypeId} {x : Value} {c : Cm} {ls : List Ln} {n : Nat} (h : c.Ok) (hin : c.In) (hz : LnIn ls) (hh : Held w (.iface t x) c ls n) : Calls Try.prog 14 #[.agg #[.iface t x]] w fun e w' => ∃ bv, e = .returned (.tuple #[bv, .int .i64 (putE c ls)]) ∧ Rd8 w' bv (putB c ls) ∧ Ext w w' := by
  obtain ⟨L, q, hs⟩ : ∃ L q, putS c ls = (L, q) := ⟨_, _, rfl⟩
  unfold putB putE
  rw [hs, if_pos h]
  cases q with
  | true =>
    rw [if_pos (.inl rfl), if_neg (by decide)]
    exact put_s1 h hin hz hh L hs
  | false =>
    by_cases hL : 1024 < L.length
    · rw [if_pos (.inr hL), if_neg (by decide)]
      exact put_s2 h hin hz hh L hs hL
    · rw [if_neg (by rintro (h | h) <;> simp_all), if_pos rfl]
      exact put_s3 h hin hz hh L hs hL
/-- What it wrote is its own memory. -/
theorem own8_cap {te : TypeId} {w : World} {B : Nat} {v : Value} {l : List UInt8} (h : Own8 te w B v l) : ∃ a c, v = .slice a l.length c ∧ l.length ≤ c := by
  obtain ⟨h1, h2⟩ := h
  rcases h2 with ⟨rfl, h0⟩ | ⟨g, cap, cur, rfl, hg, hh, hn, hcap, hsz, ht⟩
  · rw [h0]
    exact ⟨none, 0, rfl, Nat.le_refl _⟩
  · exact ⟨_, cap, rfl, hn⟩
theorem putE_cases (c : Cm) (ls : List Ln) : (c.Ok ∧ putE c ls = 0) ∨ (c.Ok ∧ putE c ls = 2) ∨ (¬ c.Ok ∧ putE c ls = 17) := by
  unfold putE
  by_cases h : c.Ok
  · rw [if_pos h]
    split
    · exact .inr (.inl ⟨h, rfl⟩)
    · exact .inl ⟨h, rfl⟩
  · rw [if_neg h]
    exact .inr (.inr ⟨h, rfl⟩)
theorem put_own {w : World} {t : TypeId} {x : Value} {c : Cm} {ls : List Ln} {n : Nat} (hin : c.In) (hz : LnIn ls) (hh : Held w (.iface t x) c ls n) (hE : putE c ls = 0) : Calls Try.prog 14 #[.agg #[.iface t x]] w fun e w' => ∃ bv, e = .returned (.tuple #[bv, .int .i64 0]) ∧ Own8 5 w' w.heap.size bv (putB c ls) ∧ Ext w w' := by
  obtain ⟨L, q, hs⟩ : ∃ L q, putS c ls = (L, q) := ⟨_, _, rfl⟩
  have hB : putB c ls = L := by unfold putB; rw [if_pos hE, hs]
  rw [hB]
  unfold putE at hE
  rw [hs] at hE
  by_cases h : c.Ok
  · rw [if_pos h] at hE
    by_cases hL : q = true ∨ 1024 < L.length
    · rw [if_pos hL] at hE
      cases hE
    · obtain rfl : q = false := by cases q <;> simp_all
      exact put_s3o h hin hz hh L hs (fun hl => hL (.inr hl))
  · rw [if_neg h] at hE
    cases hE
end Go.Proofs.Ytochgmpcdmahkaa
