/- Package command: Of, Kind, Flat: all kinds in one. (Written by genCmdD.py.) -/
import Derived.Test.YtochgmpcdmahkaaCmdB
import Derived.Test.YtochgmpcdmahkaaCmdC1
import Derived.Test.YtochgmpcdmahkaaCmdC3
namespace Go.Proofs.Ytochgmpcdmahkaa
open Go.RowKit
section

/-- What a Command's value is: it holds this command, with these lines. -/
def Held (w : World) (v : Value) (c : Cm) (ls : List Ln) (n : Nat) : Prop := ∃ a cap, v = c.ord (.slice a n cap) ∧ ls.length = n ∧ n ≤ 1000000 ∧ SlS Ln.cells 4 w (.slice a n cap) ls ∧ (c.kd ≠ 4 → n = 0)
/-- The same, the lines in the call's own memory. -/
def HeldO (w : World) (B : Nat) (v : Value) (c : Cm) (ls : List Ln) (n : Nat) : Prop := ∃ a cap, v = c.ord (.slice a n cap) ∧ ls.length = n ∧ n ≤ 1000000 ∧ OwnS Ln.cells 4 107 w B (.slice a n cap) ls ∧ (c.kd ≠ 4 → n = 0)
theorem HeldO.rd {w : World} {B : Nat} {v : Value} {c : Cm} {ls : List Ln} {n : Nat} (h : HeldO w B v c ls n) : Held w v c ls n := by
  obtain ⟨a, cap, h1, h2, h3, h4, h5⟩ := h
  exact ⟨a, cap, h1, h2, h3, OwnS.rd h4, h5⟩
theorem HeldO.ext {w w' : World} {B : Nat} {v : Value} {c : Cm} {ls : List Ln} {n : Nat} (h : HeldO w B v c ls n) (hx : Ext w w') : HeldO w' B v c ls n := by
  obtain ⟨a, cap, h1, h2, h3, h4, h5⟩ := h
  exact ⟨a, cap, h1, h2, h3, h4.ext hx, h5⟩
theorem HeldO.base {w : World} {B B' : Nat} {v : Value} {c : Cm} {ls : List Ln} {n : Nat} (h : HeldO w B' v c ls n) (hb : B ≤ B') : HeldO w B v c ls n := by
  obtain ⟨a, cap, h1, h2, h3, h4, h5⟩ := h
  exact ⟨a, cap, h1, h2, h3, h4.base hb, h5⟩
theorem HeldO.set {w : World} {B b o : Nat} {u v : Value} {c : Cm} {ls : List Ln} {n : Nat} (h : HeldO w B v c ls n) (hb : b < B) : HeldO (w.setCell ⟨b, o, none⟩ u) B v c ls n := by
  obtain ⟨a, cap, h1, h2, h3, h4, h5⟩ := h
  exact ⟨a, cap, h1, h2, h3, OwnS.setO h4 fun ad m c' he => Nat.ne_of_gt (Nat.lt_of_lt_of_le hb (own_blkE h4 ad m c' he).2), h5⟩
theorem Held.ext {w w' : World} {v : Value} {c : Cm} {ls : List Ln} {n : Nat} (h : Held w v c ls n) (hx : Ext w w') : Held w' v c ls n := by
  obtain ⟨a, cap, h1, h2, h3, h4, h5⟩ := h
  exact ⟨a, cap, h1, h2, h3, h4.ext hx, h5⟩
def Cm.n (c : Cm) (n : Nat) : Nat := if c.kd = 4 then n else 0
theorem Cm.ls_len (c : Cm) {ls : List Ln} {n : Nat} (h : ls.length = n) : (c.ls ls).length = c.n n := by
  unfold Cm.ls Cm.n
  split
  · exact h
  · rfl
theorem nil_own {te : TypeId} {w : World} {B : Nat} : OwnS Ln.cells 4 te w B (.slice none 0 0) [] := World.ownsRow_nil _ _ _ _
theorem nil_sls {w : World} : SlS Ln.cells 4 w (.slice none 0 0) [] := SlS.nil
theorem ok_cases {c : Cm} (h : c.Ok) : c.kd = 1 ∨ c.kd = 2 ∨ c.kd = 3 ∨ c.kd = 4 ∨ c.kd = 5 ∨ c.kd = 6 ∨ c.kd = 7 ∨ c.kd = 8 := by
  unfold Cm.Ok at h
  omega
theorem of_own (c : Cm) (h : c.Ok) (a : Option Addr) (n cap : Nat) (ls : List Ln) (hn : ls.length = n) (hm : n ≤ 1000000) (w : World) (hl : SlS Ln.cells 4 w (.slice a n cap) ls) : Calls Try.prog 13 #[c.agg (.slice a n cap)] w fun e w' => ∃ t x, e = .returned (.tuple #[.agg #[.iface t x], .int .i64 0]) ∧ HeldO w' w.heap.size (.iface t x) c (c.ls ls) (c.n n) ∧ Ext w w' := by
  have hk := ok_cases h
  clear h
  obtain ⟨kd, ser, lim, cat, ry, rm, rd, bp, dy, dm, dd, ofs, ofn, ses⟩ := c
  rcases hk with hk | hk | hk | hk | hk | hk | hk | hk
  all_goals
    simp only at hk
    subst hk
  · refine (of_1 lim ry rm rd bp dy dm dd ofn ses ser cat ofs a n cap w).mono ?_
    rintro e w' ⟨rfl, hx⟩
    exact ⟨_, _, rfl, ⟨none, 0, rfl, rfl, Nat.zero_le _, nil_own, fun _ => rfl⟩, hx⟩
  · refine (of_2 lim ry rm rd bp dy dm dd ofn ses ser cat ofs a n cap w).mono ?_
    rintro e w' ⟨rfl, hx⟩
    exact ⟨_, _, rfl, ⟨none, 0, rfl, rfl, Nat.zero_le _, nil_own, fun _ => rfl⟩, hx⟩
  · refine (of_3 lim ry rm rd bp dy dm dd ofn ses ser cat ofs a n cap w).mono ?_
    rintro e w' ⟨rfl, hx⟩
    exact ⟨_, _, rfl, ⟨none, 0, rfl, rfl, Nat.zero_le _, nil_own, fun _ => rfl⟩, hx⟩
  · refine (of_4 lim ry rm rd bp dy dm dd ofn ses ser cat ofs a n cap ls hn hm w hl).mono ?_
    rintro e w' ⟨a', c', rfl, ho, hx⟩
    exact ⟨_, _, rfl, ⟨a', c', rfl, hn, hm, ho, fun h => absurd rfl h⟩, hx⟩
  · refine (of_5 lim ry rm rd bp dy dm dd ofn ses ser cat ofs a n cap w).mono ?_
    rintro e w' ⟨rfl, hx⟩
    exact ⟨_, _, rfl, ⟨none, 0, rfl, rfl, Nat.zero_le _, nil_own, fun _ => rfl⟩, hx⟩
  · refine (of_6 lim ry rm rd bp dy dm dd ofn ses ser cat ofs a n cap w).mono ?_
    rintro e w' ⟨rfl, hx⟩
    exact ⟨_, _, rfl, ⟨none, 0, rfl, rfl, Nat.zero_le _, nil_own, fun _ => rfl⟩, hx⟩
  · refine (of_7 lim ry rm rd bp dy dm dd ofn ses ser cat ofs a n cap w).mono ?_
    rintro e w' ⟨rfl, hx⟩
    exact ⟨_, _, rfl, ⟨none, 0, rfl, rfl, Nat.zero_le _, nil_own, fun _ => rfl⟩, hx⟩
  · refine (of_8 lim ry rm rd bp dy dm dd ofn ses ser cat ofs a n cap w).mono ?_
    rintro e w' ⟨rfl, hx⟩
    exact ⟨_, _, rfl, ⟨none, 0, rfl, rfl, Nat.zero_le _, nil_own, fun _ => rfl⟩, hx⟩
theorem of_ok (c : Cm) (h : c.Ok) (a : Option Addr) (n cap : Nat) (ls : List Ln) (hn : ls.length = n) (hm : n ≤ 1000000) (w : World) (hl : SlS Ln.cells 4 w (.slice a n cap) ls) : Calls Try.prog 13 #[c.agg (.slice a n cap)] w fun e w' => ∃ t x, e = .returned (.tuple #[.agg #[.iface t x], .int .i64 0]) ∧ Held w' (.iface t x) c (c.ls ls) (c.n n) ∧ Ext w w' :=
  (of_own c h a n cap ls hn hm w hl).mono fun _ _ ⟨t, x, he, hh, hx⟩ => ⟨t, x, he, hh.rd, hx⟩
theorem of_no (c : Cm) (h : ¬ c.Ok) (a : Option Addr) (n cap : Nat) (w : World) : Calls Try.prog 13 #[c.agg (.slice a n cap)] w fun e w' => e = .returned (.tuple #[.agg #[.nilIface], .int .i64 17]) ∧ Ext w w' := by
  obtain ⟨kd, ser, lim, cat, ry, rm, rd, bp, dy, dm, dd, ofs, ofn, ses⟩ := c
  exact of_0 kd lim ry rm rd bp dy dm dd ofn ses ser cat ofs a n cap (by unfold Cm.Ok at h; simp only at h; omega) w
theorem kind_ok {w0 : World} {t : TypeId} {x : Value} {c : Cm} {ls : List Ln} {n : Nat} (h : c.Ok) (hh : Held w0 (.iface t x) c ls n) (w : World) : Calls Try.prog 35 #[.agg #[.iface t x]] w fun e w' => e = .returned (.int .i64 c.kd) ∧ Ext w w' := by
  have hk := ok_cases h
  clear h
  obtain ⟨kd, ser, lim, cat, ry, rm, rd, bp, dy, dm, dd, ofs, ofn, ses⟩ := c
  obtain ⟨a, cap, hv, _⟩ := hh
  rcases hk with hk | hk | hk | hk | hk | hk | hk | hk
  all_goals
    simp only at hk
    subst hk
    rw [hv]
  · exact kind_1 lim ser w
  · exact kind_2 ser w
  · exact kind_3 ry rm rd bp cat w
  · exact kind_4 dy dm dd ser a n cap w
  · exact kind_5 dy dm dd ofn ser ofs w
  · exact kind_6 w
  · exact kind_7 ses w
  · exact kind_8 ser w
theorem flat_ok {w : World} {t : TypeId} {x : Value} {c : Cm} {ls : List Ln} {n : Nat} (h : c.Ok) (hh : Held w (.iface t x) c ls n) : Calls Try.prog 21 #[.agg #[.iface t x]] w fun e w' => ∃ a' c', e = .returned (.tuple #[c.bare.agg (.slice a' n c'), .bool true]) ∧ OwnS Ln.cells 4 107 w' w.heap.size (.slice a' n c') ls ∧ Ext w w' := by
  have hk := ok_cases h
  clear h
  obtain ⟨kd, ser, lim, cat, ry, rm, rd, bp, dy, dm, dd, ofs, ofn, ses⟩ := c
  obtain ⟨a, cap, hv, hn, hm, hl, h4⟩ := hh
  rcases hk with hk | hk | hk | hk | hk | hk | hk | hk
  all_goals
    simp only at hk
    subst hk
    rw [hv]
  · obtain rfl : n = 0 := h4 (by simp only; decide)
    obtain rfl := List.eq_nil_of_length_eq_zero hn
    refine (flat_1 lim ser w).mono ?_
    rintro e w' ⟨rfl, hx⟩
    exact ⟨none, 0, rfl, nil_own, hx⟩
  · obtain rfl : n = 0 := h4 (by simp only; decide)
    obtain rfl := List.eq_nil_of_length_eq_zero hn
    refine (flat_2 ser w).mono ?_
    rintro e w' ⟨rfl, hx⟩
    exact ⟨none, 0, rfl, nil_own, hx⟩
  · obtain rfl : n = 0 := h4 (by simp only; decide)
    obtain rfl := List.eq_nil_of_length_eq_zero hn
    refine (flat_3 ry rm rd bp cat w).mono ?_
    rintro e w' ⟨rfl, hx⟩
    exact ⟨none, 0, rfl, nil_own, hx⟩
  · refine (flat_4 dy dm dd ser a n cap ls hn hm w hl).mono ?_
    rintro e w' ⟨a', c', rfl, ho, hx⟩
    exact ⟨a', c', rfl, ho, hx⟩
  · obtain rfl : n = 0 := h4 (by simp only; decide)
    obtain rfl := List.eq_nil_of_length_eq_zero hn
    refine (flat_5 dy dm dd ofn ser ofs w).mono ?_
    rintro e w' ⟨rfl, hx⟩
    exact ⟨none, 0, rfl, nil_own, hx⟩
  · obtain rfl : n = 0 := h4 (by simp only; decide)
    obtain rfl := List.eq_nil_of_length_eq_zero hn
    refine (flat_6 w).mono ?_
    rintro e w' ⟨rfl, hx⟩
    exact ⟨none, 0, rfl, nil_own, hx⟩
  · obtain rfl : n = 0 := h4 (by simp only; decide)
    obtain rfl := List.eq_nil_of_length_eq_zero hn
    refine (flat_7 ses w).mono ?_
    rintro e w' ⟨rfl, hx⟩
    exact ⟨none, 0, rfl, nil_own, hx⟩
  · obtain rfl : n = 0 := h4 (by simp only; decide)
    obtain rfl := List.eq_nil_of_length_eq_zero hn
    refine (flat_8 ser w).mono ?_
    rintro e w' ⟨rfl, hx⟩
    exact ⟨none, 0, rfl, nil_own, hx⟩
theorem bare_kd (c : Cm) (h : c.Ok) : c.bare.kd = c.kd := by
  have hk := ok_cases h
  clear h
  obtain ⟨kd, ser, lim, cat, ry, rm, rd, bp, dy, dm, dd, ofs, ofn, ses⟩ := c
  rcases hk with hk | hk | hk | hk | hk | hk | hk | hk
  all_goals
    simp only at hk
    subst hk
    rfl
end
section

set_option maxHeartbeats 4000000 in
set_option maxRecDepth 100000 in
theorem cmds_true (c : Cm) (a a' : Option Addr) (n cap cap' : Nat) (ls : List Ln) (hn : ls.length = n) (hm : n ≤ 1000000) (w : World) (hl : SlS Ln.cells 4 w (.slice a n cap) ls) (hl' : SlS Ln.cells 4 w (.slice a' n cap') ls) :
    Calls Try.prog 27 #[c.agg (.slice a n cap), c.agg (.slice a' n cap')] w fun e w' => e = .returned (.bool true) ∧ Ext w w' := by
  have HS := Lib.hid fun z (hz : Ext w z) => sameLn (.slice a n cap) (.slice a' n cap') ls ls true (by simp) z (hl.ext hz) (hl'.ext hz) (by omega) (by omega)
  clear hn hm hl hl'
  obtain ⟨kd, ser, lim, cat, ry, rm, rd, bp, dy, dm, dd, ofs, ofn, ses⟩ := c
  simp only [Cm.agg]
  go_enter Try.func27, Try.ntmps27
  go_wp2_with (go_at_call 44; (with_reducible refine (HS.out _ (by repeat (first | exact Ext.refl _ | assumption | refine Ext.trans ?_ (by assumption) | refine Ext.alloc ?_ _ | refine Ext.drew ?_ | refine Ext.drewN ?_ _))).mono ?_); rintro e w' ⟨rfl, hx⟩; have b1 := ext_blk hx (alloc_blk (new_blk w (.cells #[.int .i64 kd, .string ser, .int .i64 lim, .string cat, .int .i64 ry, .int .i64 rm, .int .i64 rd, .int .i64 bp, .int .i64 dy, .int .i64 dm, .int .i64 dd, .slice a n cap, .string ofs, .int .i64 ofn, .int .i64 ses] 33))); have b2 : w'.heap[w.heap.size + 1]? = some (.cells #[.int .i64 kd, .string ser, .int .i64 lim, .string cat, .int .i64 ry, .int .i64 rm, .int .i64 rd, .int .i64 bp, .int .i64 dy, .int .i64 dm, .int .i64 dd, .slice a' n cap', .string ofs, .int .i64 ofn, .int .i64 ses] 33 (0, 0)) := ext_blk hx (by have := new_blk (w.alloc (.cells #[.int .i64 kd, .string ser, .int .i64 lim, .string cat, .int .i64 ry, .int .i64 rm, .int .i64 rd, .int .i64 bp, .int .i64 dy, .int .i64 dm, .int .i64 dd, .slice a n cap, .string ofs, .int .i64 ofn, .int .i64 ses] 33)) (.cells #[.int .i64 kd, .string ser, .int .i64 lim, .string cat, .int .i64 ry, .int .i64 rm, .int .i64 rd, .int .i64 bp, .int .i64 dy, .int .i64 dm, .int .i64 dd, .slice a' n cap', .string ofs, .int .i64 ofn, .int .i64 ses] 33); simpa using this); obtain ⟨p12, _⟩ := blkG b1 12 (.string ofs) rfl; obtain ⟨q12, _⟩ := blkG b2 12 (.string ofs) rfl; obtain ⟨p13, _⟩ := blkG b1 13 (.int .i64 ofn) rfl; obtain ⟨q13, _⟩ := blkG b2 13 (.int .i64 ofn) rfl; obtain ⟨p14, _⟩ := blkG b1 14 (.int .i64 ses) rfl; obtain ⟨q14, _⟩ := blkG b2 14 (.int .i64 ses) rfl; have hX : Ext w w' := Ext.trans (((Ext.refl w).alloc _).alloc _) hx; clear b1 b2 hx)
  go_ret
  exact ⟨rfl, hX⟩
end
end Go.Proofs.Ytochgmpcdmahkaa
