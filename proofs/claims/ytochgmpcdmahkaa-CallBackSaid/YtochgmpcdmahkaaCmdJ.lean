/- Package command: Get. (Written by genCmdJ.py.) -/
import Derived.Test.YtochgmpcdmahkaaCmdI
namespace Go.Proofs.Ytochgmpcdmahkaa
open Go.RowKit

def cgS (bs : List UInt8) : Int × RS := rNum bs ⟨0, 0⟩
def cgR (bs : List UInt8) : Cm × List Ln × RS := gR bs (cgS bs).1 (cgS bs).2
/-- What is wrong with bytes as a command. -/
def cgE (bs : List UInt8) : Int :=
  if 1024 < bs.length then 2 else if (cgS bs).2.err ≠ 0 then (cgS bs).2.err else if (cgS bs).1 < 1 ∨ 8 < (cgS bs).1 then 17 else (rEnd bs (cgR bs).2.2).err
def CGet (w : World) (bs : List UInt8) (e : Ending) (w' : World) : Prop :=
  (cgE bs ≠ 0 ∧ e = .returned (.tuple #[.agg #[.nilIface], .int .i64 (cgE bs)]) ∧ Ext w w') ∨
  (cgE bs = 0 ∧ (cgR bs).1.Ok ∧ ∃ t x, e = .returned (.tuple #[.agg #[.iface t x], .int .i64 0]) ∧ HeldO w' w.heap.size (.iface t x) (cgR bs).1 (cgR bs).2.1 (cgR bs).2.1.length ∧ Ext w w')
set_option maxHeartbeats 4000000 in
set_option maxRecDepth 100000 in
theorem cget_big {v : Value} {bs : List UInt8} {w : World} (hr : Rd8 w v bs) (hb : bs.length ≤ 140737488355328) (hi : 1024 < bs.length) : Calls Try.prog 19 #[v] w fun e w' => e = .returned (.tuple #[.agg #[.nilIface], .int .i64 2]) ∧ Ext w w' := by
  have hr0 := hr
  obtain ⟨_, _, a, cap, rfl, _⟩ := hr0
  have hi2 : (1024 : Int) < (bs.length : Int) := by omega
  clear hr hb hi
  go_enter Try.func19, Try.ntmps19
  go_wp2
  refine bodyPost_ret (v := .tuple #[.agg #[.nilIface], .int .i64 2]) ?_ rfl ⟨rfl, ?_⟩
  · simp [results, Try.results19, go_sem]
  · exact (Ext.refl w).alloc _
set_option maxHeartbeats 4000000 in
set_option maxRecDepth 100000 in
theorem cget_err {v : Value} {bs : List UInt8} {w : World} (hr : Rd8 w v bs) (hb : bs.length ≤ 140737488355328) {k0 : Int} {s1 : RS} (e1 : rNum bs ⟨0, 0⟩ = (k0, s1)) (hi : ¬ 1024 < bs.length) (he : s1.err ≠ 0) : Calls Try.prog 19 #[v] w fun e w' => e = .returned (.tuple #[.agg #[.nilIface], .int .i64 s1.err]) ∧ Ext w w' := by
  have hr0 := hr
  obtain ⟨_, _, a, cap, rfl, _⟩ := hr0
  have HRD := Lib.hid (read_new (.slice a bs.length cap) bs (w.alloc (.cells #[.nilIface] 52)) (hr.ext ((Ext.refl w).alloc _)) hb)
  have E1 := Lib.hid e1
  clear hr hb e1
  have hi2 : ¬ (1024 : Int) < (bs.length : Int) := by omega
  have hee : (s1.err != 0) = true := by simp [he]
  clear hi he
  go_enter Try.func19, Try.ntmps19
  go_wp2_with (first
    | (go_at_call 18; (with_reducible refine (err_x H3.out).mono ?_); rintro e w' ⟨rfl, rfl⟩)
    | (go_at_call 17; (with_reducible refine (nx_x H1.out E1.out).mono ?_); rintro e y ⟨rfl, hr, hk⟩; have hwy := hk.size; have hzy : w.heap.size < y.heap.size := Nat.lt_of_lt_of_le (Nat.lt_trans hwr hrT) hwy; have H3 := Lib.hid (hr.ext ((Ext.refl y).alloc (.cells #[.int .i64 k0, .string ⟨#[]⟩, .int .i64 0, .string ⟨#[]⟩, .int .i64 0, .int .i64 0, .int .i64 0, .int .i64 0, .int .i64 0, .int .i64 0, .int .i64 0, .slice none 0 0, .string ⟨#[]⟩, .int .i64 0, .int .i64 0] 33))); have hzr : w.heap.size ≠ r := Nat.ne_of_lt hwr; have Zy := keep_blk hk Z1.out hzr; have Z2 := Lib.hid (alloc_blk (o' := (.cells #[.int .i64 k0, .string ⟨#[]⟩, .int .i64 0, .string ⟨#[]⟩, .int .i64 0, .int .i64 0, .int .i64 0, .int .i64 0, .int .i64 0, .int .i64 0, .int .i64 0, .slice none 0 0, .string ⟨#[]⟩, .int .i64 0, .int .i64 0] 33)) Zy); have P2 := Lib.hid (new_blk y (.cells #[.int .i64 k0, .string ⟨#[]⟩, .int .i64 0, .string ⟨#[]⟩, .int .i64 0, .int .i64 0, .int .i64 0, .int .i64 0, .int .i64 0, .int .i64 0, .int .i64 0, .slice none 0 0, .string ⟨#[]⟩, .int .i64 0, .int .i64 0] 33)); have XY : Hid (Ext w y) := Lib.hid (Ext.keep X1.out hk (Nat.le_of_lt hwr)); have X2 : Hid (Ext w (y.alloc (.cells #[.int .i64 k0, .string ⟨#[]⟩, .int .i64 0, .string ⟨#[]⟩, .int .i64 0, .int .i64 0, .int .i64 0, .int .i64 0, .int .i64 0, .int .i64 0, .int .i64 0, .slice none 0 0, .string ⟨#[]⟩, .int .i64 0, .int .i64 0] 33))) := Lib.hid (Ext.alloc XY.out _); obtain ⟨gy, gy'⟩ := blkG Zy 0 .nilIface rfl; have hrh : r < y.heap.size := Nat.lt_of_lt_of_le hrT hwy; obtain ⟨d0, d0'⟩ := blkG Z2.out 0 .nilIface rfl; obtain ⟨q0, q0'⟩ := blkG P2.out 0 (.int .i64 k0) rfl; clear hr hk Zy)
    | (go_at_call 16; (with_reducible refine HRD.out.mono ?_); rintro e w1 ⟨r, rfl, hrd, hx⟩; have hT0 : RdX (w.heap.size + 1) w1.heap.size w1 r bs ⟨0, 0⟩ := hrd.low (by simp); have hwr : w.heap.size < r := hT0.r_in.1; have hrT : r < w1.heap.size := hT0.r_in.2.1; have H1 := Lib.hid hT0; have Z1 := Lib.hid (ext_blk hx (new_blk w (.cells #[.nilIface] 52))); have X1 : Hid (Ext w w1) := Lib.hid (Ext.trans ((Ext.refl w).alloc _) hx); clear hrd hx hT0))
  refine bodyPost_ret (v := .tuple #[.agg #[.nilIface], .int .i64 s1.err]) ?_ rfl ⟨rfl, ?_⟩
  · simp [results, Try.results19, go_sem, gy, gy', hzy]
  · exact Ext.alloc (Ext.setCell XY.out (Nat.le_refl _) _) _
set_option maxHeartbeats 4000000 in
set_option maxRecDepth 100000 in
theorem cget_kind {v : Value} {bs : List UInt8} {w : World} (hr : Rd8 w v bs) (hb : bs.length ≤ 140737488355328) {k0 : Int} {s1 : RS} (e1 : rNum bs ⟨0, 0⟩ = (k0, s1)) (hi : ¬ 1024 < bs.length) (he : s1.err = 0) (hk : k0 < 1 ∨ 8 < k0) : Calls Try.prog 19 #[v] w fun e w' => e = .returned (.tuple #[.agg #[.nilIface], .int .i64 17]) ∧ Ext w w' := by
  have hr0 := hr
  obtain ⟨_, _, a, cap, rfl, _⟩ := hr0
  have HRD := Lib.hid (read_new (.slice a bs.length cap) bs (w.alloc (.cells #[.nilIface] 52)) (hr.ext ((Ext.refl w).alloc _)) hb)
  have E1 := Lib.hid e1
  clear hr hb e1
  have hi2 : ¬ (1024 : Int) < (bs.length : Int) := by omega
  have hee : (s1.err != 0) = false := by simp [he]
  clear hi he
  by_cases hk1 : k0 < 1
  · clear hk
    go_enter Try.func19, Try.ntmps19
    go_wp2_with (first
      | (go_at_call 18; (with_reducible refine (err_x H3.out).mono ?_); rintro e w' ⟨rfl, rfl⟩)
      | (go_at_call 17; (with_reducible refine (nx_x H1.out E1.out).mono ?_); rintro e y ⟨rfl, hr, hk⟩; have hwy := hk.size; have hzy : w.heap.size < y.heap.size := Nat.lt_of_lt_of_le (Nat.lt_trans hwr hrT) hwy; have H3 := Lib.hid (hr.ext ((Ext.refl y).alloc (.cells #[.int .i64 k0, .string ⟨#[]⟩, .int .i64 0, .string ⟨#[]⟩, .int .i64 0, .int .i64 0, .int .i64 0, .int .i64 0, .int .i64 0, .int .i64 0, .int .i64 0, .slice none 0 0, .string ⟨#[]⟩, .int .i64 0, .int .i64 0] 33))); have hzr : w.heap.size ≠ r := Nat.ne_of_lt hwr; have Zy := keep_blk hk Z1.out hzr; have Z2 := Lib.hid (alloc_blk (o' := (.cells #[.int .i64 k0, .string ⟨#[]⟩, .int .i64 0, .string ⟨#[]⟩, .int .i64 0, .int .i64 0, .int .i64 0, .int .i64 0, .int .i64 0, .int .i64 0, .int .i64 0, .slice none 0 0, .string ⟨#[]⟩, .int .i64 0, .int .i64 0] 33)) Zy); have P2 := Lib.hid (new_blk y (.cells #[.int .i64 k0, .string ⟨#[]⟩, .int .i64 0, .string ⟨#[]⟩, .int .i64 0, .int .i64 0, .int .i64 0, .int .i64 0, .int .i64 0, .int .i64 0, .int .i64 0, .slice none 0 0, .string ⟨#[]⟩, .int .i64 0, .int .i64 0] 33)); have XY : Hid (Ext w y) := Lib.hid (Ext.keep X1.out hk (Nat.le_of_lt hwr)); have X2 : Hid (Ext w (y.alloc (.cells #[.int .i64 k0, .string ⟨#[]⟩, .int .i64 0, .string ⟨#[]⟩, .int .i64 0, .int .i64 0, .int .i64 0, .int .i64 0, .int .i64 0, .int .i64 0, .int .i64 0, .slice none 0 0, .string ⟨#[]⟩, .int .i64 0, .int .i64 0] 33))) := Lib.hid (Ext.alloc XY.out _); obtain ⟨gy, gy'⟩ := blkG Zy 0 .nilIface rfl; have hrh : r < y.heap.size := Nat.lt_of_lt_of_le hrT hwy; obtain ⟨d0, d0'⟩ := blkG Z2.out 0 .nilIface rfl; obtain ⟨q0, q0'⟩ := blkG P2.out 0 (.int .i64 k0) rfl; clear hr hk Zy)
      | (go_at_call 16; (with_reducible refine HRD.out.mono ?_); rintro e w1 ⟨r, rfl, hrd, hx⟩; have hT0 : RdX (w.heap.size + 1) w1.heap.size w1 r bs ⟨0, 0⟩ := hrd.low (by simp); have hwr : w.heap.size < r := hT0.r_in.1; have hrT : r < w1.heap.size := hT0.r_in.2.1; have H1 := Lib.hid hT0; have Z1 := Lib.hid (ext_blk hx (new_blk w (.cells #[.nilIface] 52))); have X1 : Hid (Ext w w1) := Lib.hid (Ext.trans ((Ext.refl w).alloc _) hx); clear hrd hx hT0))
    refine bodyPost_ret (v := .tuple #[.agg #[.nilIface], .int .i64 17]) ?_ rfl ⟨rfl, ?_⟩
    · simp [results, Try.results19, go_sem, gy, gy', hzy]
    · exact Ext.alloc (Ext.setCell XY.out (Nat.le_refl _) _) _
  · have hk8 : 8 < k0 := by omega
    clear hk
    go_enter Try.func19, Try.ntmps19
    go_wp2_with (first
      | (go_at_call 18; (with_reducible refine (err_x H3.out).mono ?_); rintro e w' ⟨rfl, rfl⟩)
      | (go_at_call 17; (with_reducible refine (nx_x H1.out E1.out).mono ?_); rintro e y ⟨rfl, hr, hk⟩; have hwy := hk.size; have hzy : w.heap.size < y.heap.size := Nat.lt_of_lt_of_le (Nat.lt_trans hwr hrT) hwy; have H3 := Lib.hid (hr.ext ((Ext.refl y).alloc (.cells #[.int .i64 k0, .string ⟨#[]⟩, .int .i64 0, .string ⟨#[]⟩, .int .i64 0, .int .i64 0, .int .i64 0, .int .i64 0, .int .i64 0, .int .i64 0, .int .i64 0, .slice none 0 0, .string ⟨#[]⟩, .int .i64 0, .int .i64 0] 33))); have hzr : w.heap.size ≠ r := Nat.ne_of_lt hwr; have Zy := keep_blk hk Z1.out hzr; have Z2 := Lib.hid (alloc_blk (o' := (.cells #[.int .i64 k0, .string ⟨#[]⟩, .int .i64 0, .string ⟨#[]⟩, .int .i64 0, .int .i64 0, .int .i64 0, .int .i64 0, .int .i64 0, .int .i64 0, .int .i64 0, .slice none 0 0, .string ⟨#[]⟩, .int .i64 0, .int .i64 0] 33)) Zy); have P2 := Lib.hid (new_blk y (.cells #[.int .i64 k0, .string ⟨#[]⟩, .int .i64 0, .string ⟨#[]⟩, .int .i64 0, .int .i64 0, .int .i64 0, .int .i64 0, .int .i64 0, .int .i64 0, .int .i64 0, .slice none 0 0, .string ⟨#[]⟩, .int .i64 0, .int .i64 0] 33)); have XY : Hid (Ext w y) := Lib.hid (Ext.keep X1.out hk (Nat.le_of_lt hwr)); have X2 : Hid (Ext w (y.alloc (.cells #[.int .i64 k0, .string ⟨#[]⟩, .int .i64 0, .string ⟨#[]⟩, .int .i64 0, .int .i64 0, .int .i64 0, .int .i64 0, .int .i64 0, .int .i64 0, .int .i64 0, .slice none 0 0, .string ⟨#[]⟩, .int .i64 0, .int .i64 0] 33))) := Lib.hid (Ext.alloc XY.out _); obtain ⟨gy, gy'⟩ := blkG Zy 0 .nilIface rfl; have hrh : r < y.heap.size := Nat.lt_of_lt_of_le hrT hwy; obtain ⟨d0, d0'⟩ := blkG Z2.out 0 .nilIface rfl; obtain ⟨q0, q0'⟩ := blkG P2.out 0 (.int .i64 k0) rfl; clear hr hk Zy)
      | (go_at_call 16; (with_reducible refine HRD.out.mono ?_); rintro e w1 ⟨r, rfl, hrd, hx⟩; have hT0 : RdX (w.heap.size + 1) w1.heap.size w1 r bs ⟨0, 0⟩ := hrd.low (by simp); have hwr : w.heap.size < r := hT0.r_in.1; have hrT : r < w1.heap.size := hT0.r_in.2.1; have H1 := Lib.hid hT0; have Z1 := Lib.hid (ext_blk hx (new_blk w (.cells #[.nilIface] 52))); have X1 : Hid (Ext w w1) := Lib.hid (Ext.trans ((Ext.refl w).alloc _) hx); clear hrd hx hT0))
    refine bodyPost_ret (v := .tuple #[.agg #[.nilIface], .int .i64 17]) ?_ rfl ⟨rfl, ?_⟩
    · simp [results, Try.results19, go_sem, gy, gy', hzy]
    · exact Ext.alloc (Ext.setCell XY.out (Nat.le_refl _) _) _
set_option maxHeartbeats 4000000 in
set_option maxRecDepth 100000 in
theorem cget_end {v : Value} {bs : List UInt8} {w : World} (hr : Rd8 w v bs) (hb : bs.length ≤ 140737488355328) {k0 : Int} {s1 : RS} (e1 : rNum bs ⟨0, 0⟩ = (k0, s1)) (hi : ¬ 1024 < bs.length) (he : s1.err = 0) (hk : 1 ≤ k0 ∧ k0 ≤ 8) {s' : RS} {c : Cm} {ls : List Ln} (hg : gR bs k0 s1 = (c, ls, s')) (hn : (rEnd bs s').err ≠ 0) : Calls Try.prog 19 #[v] w fun e w' => e = .returned (.tuple #[.agg #[.nilIface], .int .i64 (rEnd bs s').err]) ∧ Ext w w' := by
  have hr0 := hr
  obtain ⟨_, _, a, cap, rfl, _⟩ := hr0
  have HRD := Lib.hid (read_new (.slice a bs.length cap) bs (w.alloc (.cells #[.nilIface] 52)) (hr.ext ((Ext.refl w).alloc _)) hb)
  have E1 := Lib.hid e1
  clear hr hb e1
  have hi2 : ¬ (1024 : Int) < (bs.length : Int) := by omega
  have hee : (s1.err != 0) = false := by simp [he]
  have HK := Lib.hid hk
  have HG := Lib.hid hg
  have hk1 : ¬ k0 < 1 := by omega
  have hk8 : ¬ 8 < k0 := by omega
  clear hi he hg hk
  have hnn : ((rEnd bs s').err != 0) = true := by simp [hn]
  clear hn
  obtain ⟨kd, ser, lim, cat, ry, rm, rd, bp, dy, dm, dd, ofs, ofn, ses⟩ := c
  go_enter Try.func19, Try.ntmps19
  go_wp2_with (first
    | (go_at_call 34; (with_reducible refine (end_x HC.out.rd).mono ?_); rintro e u ⟨rfl, hr, hk⟩; have HCE := Lib.hid (HC.out.keep hr hk hne); have Z4 := Lib.hid (keep_blk hk Z3.out hzr); have hry : r < (y.alloc (.cells #[.int .i64 k0, .string ⟨#[]⟩, .int .i64 0, .string ⟨#[]⟩, .int .i64 0, .int .i64 0, .int .i64 0, .int .i64 0, .int .i64 0, .int .i64 0, .int .i64 0, .slice none 0 0, .string ⟨#[]⟩, .int .i64 0, .int .i64 0] 33)).heap.size := (by simp; omega); have HOE := Lib.hid (OwnS.keepR HO.out hk hry); have X4 : Hid (Ext w u) := Lib.hid (Ext.keep X3.out hk (Nat.le_of_lt hwr)); obtain ⟨dz, dz'⟩ := blkG Z4.out 0 .nilIface rfl; obtain ⟨q0, _⟩ := blkG HCE.out.cb 0 (.int .i64 kd) rfl; obtain ⟨q1, _⟩ := blkG HCE.out.cb 1 (.string ser) rfl; obtain ⟨q2, _⟩ := blkG HCE.out.cb 2 (.int .i64 lim) rfl; obtain ⟨q3, _⟩ := blkG HCE.out.cb 3 (.string cat) rfl; obtain ⟨q4, _⟩ := blkG HCE.out.cb 4 (.int .i64 ry) rfl; obtain ⟨q5, _⟩ := blkG HCE.out.cb 5 (.int .i64 rm) rfl; obtain ⟨q6, _⟩ := blkG HCE.out.cb 6 (.int .i64 rd) rfl; obtain ⟨q7, _⟩ := blkG HCE.out.cb 7 (.int .i64 bp) rfl; obtain ⟨q8, _⟩ := blkG HCE.out.cb 8 (.int .i64 dy) rfl; obtain ⟨q9, _⟩ := blkG HCE.out.cb 9 (.int .i64 dm) rfl; obtain ⟨q10, _⟩ := blkG HCE.out.cb 10 (.int .i64 dd) rfl; obtain ⟨q11, _⟩ := blkG HCE.out.cb 11 (.slice a' ls.length c') rfl; obtain ⟨q12, _⟩ := blkG HCE.out.cb 12 (.string ofs) rfl; obtain ⟨q13, _⟩ := blkG HCE.out.cb 13 (.int .i64 ofn) rfl; obtain ⟨q14, _⟩ := blkG HCE.out.cb 14 (.int .i64 ses) rfl; clear hr hk)
    | (go_at_call 33; (with_reducible refine (read_ok HK.out HG.out P2.out H3.out hwy).mono ?_); rintro e z ⟨rfl, a', c', hci, ho⟩; have hne : y.heap.size ≠ r := Nat.ne_of_gt hrh; have HC := Lib.hid hci; have hwz : w.heap.size ≠ y.heap.size := Nat.ne_of_lt hzy; have Z3 := Lib.hid ((hci.kp.block w.heap.size (blk_lt Z2.out) hzr hwz).trans Z2.out); have HO := Lib.hid ho; have X3 : Hid (Ext w z) := Lib.hid (Ext.keep2 X2.out hci.kp (Nat.le_of_lt hwr) (Nat.le_of_lt hzy)); clear hci ho)
    | (go_at_call 18; (with_reducible refine (err_x H3.out).mono ?_); rintro e w' ⟨rfl, rfl⟩)
    | (go_at_call 17; (with_reducible refine (nx_x H1.out E1.out).mono ?_); rintro e y ⟨rfl, hr, hk⟩; have hwy := hk.size; have hzy : w.heap.size < y.heap.size := Nat.lt_of_lt_of_le (Nat.lt_trans hwr hrT) hwy; have H3 := Lib.hid (hr.ext ((Ext.refl y).alloc (.cells #[.int .i64 k0, .string ⟨#[]⟩, .int .i64 0, .string ⟨#[]⟩, .int .i64 0, .int .i64 0, .int .i64 0, .int .i64 0, .int .i64 0, .int .i64 0, .int .i64 0, .slice none 0 0, .string ⟨#[]⟩, .int .i64 0, .int .i64 0] 33))); have hzr : w.heap.size ≠ r := Nat.ne_of_lt hwr; have Zy := keep_blk hk Z1.out hzr; have Z2 := Lib.hid (alloc_blk (o' := (.cells #[.int .i64 k0, .string ⟨#[]⟩, .int .i64 0, .string ⟨#[]⟩, .int .i64 0, .int .i64 0, .int .i64 0, .int .i64 0, .int .i64 0, .int .i64 0, .int .i64 0, .slice none 0 0, .string ⟨#[]⟩, .int .i64 0, .int .i64 0] 33)) Zy); have P2 := Lib.hid (new_blk y (.cells #[.int .i64 k0, .string ⟨#[]⟩, .int .i64 0, .string ⟨#[]⟩, .int .i64 0, .int .i64 0, .int .i64 0, .int .i64 0, .int .i64 0, .int .i64 0, .int .i64 0, .slice none 0 0, .string ⟨#[]⟩, .int .i64 0, .int .i64 0] 33)); have XY : Hid (Ext w y) := Lib.hid (Ext.keep X1.out hk (Nat.le_of_lt hwr)); have X2 : Hid (Ext w (y.alloc (.cells #[.int .i64 k0, .string ⟨#[]⟩, .int .i64 0, .string ⟨#[]⟩, .int .i64 0, .int .i64 0, .int .i64 0, .int .i64 0, .int .i64 0, .int .i64 0, .int .i64 0, .slice none 0 0, .string ⟨#[]⟩, .int .i64 0, .int .i64 0] 33))) := Lib.hid (Ext.alloc XY.out _); obtain ⟨gy, gy'⟩ := blkG Zy 0 .nilIface rfl; have hrh : r < y.heap.size := Nat.lt_of_lt_of_le hrT hwy; obtain ⟨d0, d0'⟩ := blkG Z2.out 0 .nilIface rfl; obtain ⟨q0, q0'⟩ := blkG P2.out 0 (.int .i64 k0) rfl; clear hr hk Zy)
    | (go_at_call 16; (with_reducible refine HRD.out.mono ?_); rintro e w1 ⟨r, rfl, hrd, hx⟩; have hT0 : RdX (w.heap.size + 1) w1.heap.size w1 r bs ⟨0, 0⟩ := hrd.low (by simp); have hwr : w.heap.size < r := hT0.r_in.1; have hrT : r < w1.heap.size := hT0.r_in.2.1; have H1 := Lib.hid hT0; have Z1 := Lib.hid (ext_blk hx (new_blk w (.cells #[.nilIface] 52))); have X1 : Hid (Ext w w1) := Lib.hid (Ext.trans ((Ext.refl w).alloc _) hx); clear hrd hx hT0))
  refine bodyPost_ret (v := .tuple #[.agg #[.nilIface], .int .i64 (rEnd bs s').err]) ?_ rfl ⟨rfl, ?_⟩
  · simp [results, Try.results19, go_sem, dz, dz', blk_lt Z4.out]
  · exact Ext.setCell X4.out (Nat.le_refl _) _
set_option maxHeartbeats 4000000 in
set_option maxRecDepth 100000 in
theorem cget_ok {v : Value} {bs : List UInt8} {w : World} (hr : Rd8 w v bs) (hb : bs.length ≤ 140737488355328) {k0 : Int} {s1 : RS} (e1 : rNum bs ⟨0, 0⟩ = (k0, s1)) (hi : ¬ 1024 < bs.length) (he : s1.err = 0) (hk : 1 ≤ k0 ∧ k0 ≤ 8) {s' : RS} {c : Cm} {ls : List Ln} (hg : gR bs k0 s1 = (c, ls, s')) (hn : (rEnd bs s').err = 0) (ho : c.Ok) (hm : ls.length ≤ 1000000) : Calls Try.prog 19 #[v] w fun e w' => ∃ t x, e = .returned (.tuple #[.agg #[.iface t x], .int .i64 0]) ∧ HeldO w' w.heap.size (.iface t x) c (c.ls ls) (c.n ls.length) ∧ Ext w w' := by
  have hr0 := hr
  obtain ⟨_, _, a, cap, rfl, _⟩ := hr0
  have HRD := Lib.hid (read_new (.slice a bs.length cap) bs (w.alloc (.cells #[.nilIface] 52)) (hr.ext ((Ext.refl w).alloc _)) hb)
  have E1 := Lib.hid e1
  clear hr hb e1
  have hi2 : ¬ (1024 : Int) < (bs.length : Int) := by omega
  have hee : (s1.err != 0) = false := by simp [he]
  have HK := Lib.hid hk
  have HG := Lib.hid hg
  have hk1 : ¬ k0 < 1 := by omega
  have hk8 : ¬ 8 < k0 := by omega
  clear hi he hg hk
  have hnn : ((rEnd bs s').err != 0) = false := by simp [hn]
  have HOF := Lib.hid fun (a : Option Addr) (cap : Nat) (z : World) (hl : SlS Ln.cells 4 z (.slice a ls.length cap) ls) => of_own c ho a ls.length cap ls rfl hm z hl
  simp only [Cm.agg] at HOF
  clear hn ho hm
  obtain ⟨kd, ser, lim, cat, ry, rm, rd, bp, dy, dm, dd, ofs, ofn, ses⟩ := c
  go_enter Try.func19, Try.ntmps19
  go_wp2_with (first
    | (go_at_call 13; (with_reducible refine (HOF.out a' c' u HOE.out.rd).mono ?_); rintro e v ⟨t, x, rfl, hh, hx⟩; have HX := Lib.hid hx; have HH := Lib.hid hh; have Z5 := ext_blk hx Z4.out; obtain ⟨dv, dv'⟩ := blkG Z5 0 .nilIface rfl; have hzl := blk_lt Z5; have hst : (store ⟨w.heap.size, 0, none⟩ (.iface t x)).run Try.prog v = .ok () (v.setCell ⟨w.heap.size, 0, none⟩ (.iface t x)) := (by simp [go_sem, dv, dv']); clear hx hh Z5)
    | (go_at_call 34; (with_reducible refine (end_x HC.out.rd).mono ?_); rintro e u ⟨rfl, hr, hk⟩; have HCE := Lib.hid (HC.out.keep hr hk hne); have Z4 := Lib.hid (keep_blk hk Z3.out hzr); have hry : r < (y.alloc (.cells #[.int .i64 k0, .string ⟨#[]⟩, .int .i64 0, .string ⟨#[]⟩, .int .i64 0, .int .i64 0, .int .i64 0, .int .i64 0, .int .i64 0, .int .i64 0, .int .i64 0, .slice none 0 0, .string ⟨#[]⟩, .int .i64 0, .int .i64 0] 33)).heap.size := (by simp; omega); have HOE := Lib.hid (OwnS.keepR HO.out hk hry); have X4 : Hid (Ext w u) := Lib.hid (Ext.keep X3.out hk (Nat.le_of_lt hwr)); obtain ⟨dz, dz'⟩ := blkG Z4.out 0 .nilIface rfl; obtain ⟨q0, _⟩ := blkG HCE.out.cb 0 (.int .i64 kd) rfl; obtain ⟨q1, _⟩ := blkG HCE.out.cb 1 (.string ser) rfl; obtain ⟨q2, _⟩ := blkG HCE.out.cb 2 (.int .i64 lim) rfl; obtain ⟨q3, _⟩ := blkG HCE.out.cb 3 (.string cat) rfl; obtain ⟨q4, _⟩ := blkG HCE.out.cb 4 (.int .i64 ry) rfl; obtain ⟨q5, _⟩ := blkG HCE.out.cb 5 (.int .i64 rm) rfl; obtain ⟨q6, _⟩ := blkG HCE.out.cb 6 (.int .i64 rd) rfl; obtain ⟨q7, _⟩ := blkG HCE.out.cb 7 (.int .i64 bp) rfl; obtain ⟨q8, _⟩ := blkG HCE.out.cb 8 (.int .i64 dy) rfl; obtain ⟨q9, _⟩ := blkG HCE.out.cb 9 (.int .i64 dm) rfl; obtain ⟨q10, _⟩ := blkG HCE.out.cb 10 (.int .i64 dd) rfl; obtain ⟨q11, _⟩ := blkG HCE.out.cb 11 (.slice a' ls.length c') rfl; obtain ⟨q12, _⟩ := blkG HCE.out.cb 12 (.string ofs) rfl; obtain ⟨q13, _⟩ := blkG HCE.out.cb 13 (.int .i64 ofn) rfl; obtain ⟨q14, _⟩ := blkG HCE.out.cb 14 (.int .i64 ses) rfl; clear hr hk)
    | (go_at_call 33; (with_reducible refine (read_ok HK.out HG.out P2.out H3.out hwy).mono ?_); rintro e z ⟨rfl, a', c', hci, ho⟩; have hne : y.heap.size ≠ r := Nat.ne_of_gt hrh; have HC := Lib.hid hci; have hwz : w.heap.size ≠ y.heap.size := Nat.ne_of_lt hzy; have Z3 := Lib.hid ((hci.kp.block w.heap.size (blk_lt Z2.out) hzr hwz).trans Z2.out); have HO := Lib.hid ho; have X3 : Hid (Ext w z) := Lib.hid (Ext.keep2 X2.out hci.kp (Nat.le_of_lt hwr) (Nat.le_of_lt hzy)); clear hci ho)
    | (go_at_call 18; (with_reducible refine (err_x H3.out).mono ?_); rintro e w' ⟨rfl, rfl⟩)
    | (go_at_call 17; (with_reducible refine (nx_x H1.out E1.out).mono ?_); rintro e y ⟨rfl, hr, hk⟩; have hwy := hk.size; have hzy : w.heap.size < y.heap.size := Nat.lt_of_lt_of_le (Nat.lt_trans hwr hrT) hwy; have H3 := Lib.hid (hr.ext ((Ext.refl y).alloc (.cells #[.int .i64 k0, .string ⟨#[]⟩, .int .i64 0, .string ⟨#[]⟩, .int .i64 0, .int .i64 0, .int .i64 0, .int .i64 0, .int .i64 0, .int .i64 0, .int .i64 0, .slice none 0 0, .string ⟨#[]⟩, .int .i64 0, .int .i64 0] 33))); have hzr : w.heap.size ≠ r := Nat.ne_of_lt hwr; have Zy := keep_blk hk Z1.out hzr; have Z2 := Lib.hid (alloc_blk (o' := (.cells #[.int .i64 k0, .string ⟨#[]⟩, .int .i64 0, .string ⟨#[]⟩, .int .i64 0, .int .i64 0, .int .i64 0, .int .i64 0, .int .i64 0, .int .i64 0, .int .i64 0, .slice none 0 0, .string ⟨#[]⟩, .int .i64 0, .int .i64 0] 33)) Zy); have P2 := Lib.hid (new_blk y (.cells #[.int .i64 k0, .string ⟨#[]⟩, .int .i64 0, .string ⟨#[]⟩, .int .i64 0, .int .i64 0, .int .i64 0, .int .i64 0, .int .i64 0, .int .i64 0, .int .i64 0, .slice none 0 0, .string ⟨#[]⟩, .int .i64 0, .int .i64 0] 33)); have XY : Hid (Ext w y) := Lib.hid (Ext.keep X1.out hk (Nat.le_of_lt hwr)); have X2 : Hid (Ext w (y.alloc (.cells #[.int .i64 k0, .string ⟨#[]⟩, .int .i64 0, .string ⟨#[]⟩, .int .i64 0, .int .i64 0, .int .i64 0, .int .i64 0, .int .i64 0, .int .i64 0, .int .i64 0, .slice none 0 0, .string ⟨#[]⟩, .int .i64 0, .int .i64 0] 33))) := Lib.hid (Ext.alloc XY.out _); obtain ⟨gy, gy'⟩ := blkG Zy 0 .nilIface rfl; have hrh : r < y.heap.size := Nat.lt_of_lt_of_le hrT hwy; obtain ⟨d0, d0'⟩ := blkG Z2.out 0 .nilIface rfl; obtain ⟨q0, q0'⟩ := blkG P2.out 0 (.int .i64 k0) rfl; clear hr hk Zy)
    | (go_at_call 16; (with_reducible refine HRD.out.mono ?_); rintro e w1 ⟨r, rfl, hrd, hx⟩; have hT0 : RdX (w.heap.size + 1) w1.heap.size w1 r bs ⟨0, 0⟩ := hrd.low (by simp); have hwr : w.heap.size < r := hT0.r_in.1; have hrT : r < w1.heap.size := hT0.r_in.2.1; have H1 := Lib.hid hT0; have Z1 := Lib.hid (ext_blk hx (new_blk w (.cells #[.nilIface] 52))); have X1 : Hid (Ext w w1) := Lib.hid (Ext.trans ((Ext.refl w).alloc _) hx); clear hrd hx hT0))
  refine bodyPost_ret (v := .tuple #[.agg #[.iface t x], .int .i64 0]) ?_ rfl ⟨t, x, rfl, HeldO.base (HeldO.set HH.out (blk_lt Z4.out)) (Nat.le_of_lt (blk_lt Z4.out)), Ext.setCell (X4.out.trans HX.out) (Nat.le_refl _) _⟩
  simp [results, Try.results19, go_sem, dv, dv', hzl]
theorem cget_any {v : Value} {bs : List UInt8} {w : World} (hr : Rd8 w v bs) (hb : bs.length ≤ 140737488355328) : Calls Try.prog 19 #[v] w (CGet w bs) := by
  by_cases hi : 1024 < bs.length
  · have e : cgE bs = 2 := by unfold cgE; rw [if_pos hi]
    refine (cget_big hr hb hi).mono fun e w' h => .inl ?_
    rw [‹cgE bs = 2›]
    exact ⟨by decide, h⟩
  · obtain ⟨k0, s1, e1⟩ : ∃ k s, rNum bs ⟨0, 0⟩ = (k, s) := ⟨_, _, rfl⟩
    have e1' : cgS bs = (k0, s1) := e1
    by_cases he : s1.err = 0
    · by_cases hk : k0 < 1 ∨ 8 < k0
      · have e : cgE bs = 17 := by unfold cgE; rw [if_neg hi, e1', if_neg (by simpa using he), if_pos hk]
        refine (cget_kind hr hb e1 hi he hk).mono fun e w' h => .inl ?_
        rw [‹cgE bs = 17›]
        exact ⟨by decide, h⟩
      · have hk1 : 1 ≤ k0 ∧ k0 ≤ 8 := by omega
        have hcr : cgR bs = gR bs k0 s1 := by unfold cgR; rw [e1']
        have e : cgE bs = (rEnd bs (gR bs k0 s1).2.2).err := by unfold cgE; rw [if_neg hi, e1', if_neg (by simpa using he), if_neg hk, hcr]
        by_cases hn : (rEnd bs (gR bs k0 s1).2.2).err = 0
        · have hok : (gR bs k0 s1).1.Ok := by unfold Cm.Ok; rw [gR_kd _ _ _ hk1]; exact hk1
          obtain ⟨g1, g2, g3⟩ := gR_ls bs k0 s1 hk1
          refine (cget_ok hr hb e1 hi he hk1 (c := (gR bs k0 s1).1) (ls := (gR bs k0 s1).2.1) (s' := (gR bs k0 s1).2.2) rfl hn hok (by omega)).mono fun e w' h => .inr ?_
          rw [g1, g2] at h
          rw [hcr]
          exact ⟨by rw [‹cgE bs = _›]; exact hn, hok, h⟩
        · refine (cget_end hr hb e1 hi he hk1 (c := (gR bs k0 s1).1) (ls := (gR bs k0 s1).2.1) (s' := (gR bs k0 s1).2.2) rfl hn).mono fun e w' h => .inl ?_
          rw [‹cgE bs = _›]
          exact ⟨hn, h⟩
    · have e : cgE bs = s1.err := by unfold cgE; rw [if_neg hi, e1', if_pos he]
      refine (cget_err hr hb e1 hi he).mono fun e w' h => .inl ?_
      rw [‹cgE bs = s1.err›]
      exact ⟨he, h⟩
theorem store_new {x : World} {t : TypeId} {y : Value} {T : TypeId} : (store ⟨x.heap.size, 0, none⟩ (.iface t y)).run Try.prog (x.alloc (.cells #[.nilIface] T)) = .ok () (x.alloc (.cells #[.iface t y] T)) := by
  simp [go_sem]
theorem gR_bare (bs : List UInt8) (k : Int) (s : RS) (hk : 1 ≤ k ∧ k ≤ 8) : (gR bs k s).1.bare = (gR bs k s).1 := by
  have hk' : k = 1 ∨ k = 2 ∨ k = 3 ∨ k = 4 ∨ k = 5 ∨ k = 6 ∨ k = 7 ∨ k = 8 := by omega
  rcases hk' with rfl | rfl | rfl | rfl | rfl | rfl | rfl | rfl <;> rfl
/-- What is read is a command of a kind, with the fields of that kind alone, its numbers of 64 bits. -/
theorem cgE_ok {bs : List UInt8} (h : cgE bs = 0) : (cgR bs).1.Ok ∧ (cgR bs).1.In ∧ LnIn (cgR bs).2.1 ∧ (cgR bs).1.bare = (cgR bs).1 ∧ (cgR bs).1.ls (cgR bs).2.1 = (cgR bs).2.1 ∧ (cgR bs).2.1.length ≤ 12 ∧ (cgR bs).1.n (cgR bs).2.1.length = (cgR bs).2.1.length ∧ (1 ≤ (cgS bs).1 ∧ (cgS bs).1 ≤ 8) ∧ (cgS bs).2.err = 0 ∧ (rEnd bs (cgR bs).2.2).err = 0 ∧ bs.length ≤ 1024 := by
  unfold cgE at h
  split at h
  · cases h
  · split at h
    · rename_i h1; exact absurd h h1
    · split at h
      · cases h
      · rename_i h0 h1 h2
        have hk : 1 ≤ (cgS bs).1 ∧ (cgS bs).1 ≤ 8 := by omega
        have he : (cgS bs).2.err = 0 := by
          rcases Classical.em ((cgS bs).2.err = 0) with h3 | h3
          · exact h3
          · exact absurd h3 h1
        obtain ⟨g1, g2, g3⟩ := gR_ls bs (cgS bs).1 (cgS bs).2 hk
        exact ⟨by unfold Cm.Ok cgR; rw [gR_kd _ _ _ hk]; exact hk, gR_in _ _ _ hk, gR_lnin _ _ _ hk, gR_bare _ _ _ hk, g1, g3, g2, hk, he, h, by omega⟩
end Go.Proofs.Ytochgmpcdmahkaa
