/- The document's own answer to chapter 9: Put, kinds but 4. (Written by genCmdS.py.) -/
import Derived.Test.YteenkbfmlnpmlaaCmdR
namespace Go.Proofs.Yteenkbfmlnpmlaa
open Go.RowKit

set_option maxHeartbeats 4000000 in
set_option maxRecDepth 100000 in
theorem rput_1 (lim ry rm rd bp dy dm dd ofn ses : Int) (ser cat ofs : ByteArray) (a : Option Addr) (n cap : Nat) (zlim : Z64 lim) (ht : ser.size ≤ 64) (w : World) : Calls Try.prog 24 #[.agg #[.int .i64 1, .string ser, .int .i64 lim, .string cat, .int .i64 ry, .int .i64 rm, .int .i64 rd, .int .i64 bp, .int .i64 dy, .int .i64 dm, .int .i64 dd, .slice a n cap, .string ofs, .int .i64 ofn, .int .i64 ses]] w fun e w' => ∃ bv, e = .returned (.tuple #[bv, .int .i64 0]) ∧ Rd8 w' bv (sN (sT (sN ([], false) 1) ser) lim).1 ∧ Ext w w' := by
  have HA : Hid (∀ z, Ext (w.alloc (.cells #[.int .i64 1, .string ser, .int .i64 lim, .string cat, .int .i64 ry, .int .i64 rm, .int .i64 rd, .int .i64 bp, .int .i64 dy, .int .i64 dm, .int .i64 dd, .slice a n cap, .string ofs, .int .i64 ofn, .int .i64 ses] 37)) z → Ext (w.alloc (.cells #[.int .i64 1, .string ser, .int .i64 lim, .string cat, .int .i64 ry, .int .i64 rm, .int .i64 rd, .int .i64 bp, .int .i64 dy, .int .i64 dm, .int .i64 dd, .slice a n cap, .string ofs, .int .i64 ofn, .int .i64 ses] 37)) z ∧ z.cell? ⟨w.heap.size, 0, none⟩ = some (.int .i64 1) ∧ z.cell? ⟨w.heap.size, 1, none⟩ = some (.string ser) ∧ z.cell? ⟨w.heap.size, 2, none⟩ = some (.int .i64 lim)) := Lib.hid fun z h => ⟨h, alloc_cell h 0 _ rfl, alloc_cell h 1 _ rfl, alloc_cell h 2 _ rfl⟩
  have HK : Hid (Z64 1) := Lib.hid (by unfold Z64; omega)
  have hd : decide (ser.size ≤ 64) = true := decide_eq_true ht
  have HSH : Hid (∀ x : World, Calls Try.prog 42 #[.slice (some ⟨x.heap.size, 0, none⟩) 1 1] (x.alloc (.cells #[.string ser] 9)) fun e w' => e = .returned (.bool true) ∧ x.alloc (.cells #[.string ser] 9) = w') := Lib.hid fun x => by have := short_1 ser x.heap.size 1 (x.alloc (.cells #[.string ser] 9)) (by simp [go_sem]); rwa [hd] at this
  have Qlim := Lib.hid zlim
  have l0 := sN_le ([], false) 1
  simp only [List.length_nil] at l0
  have l1 := sT_le (sN ([], false) 1) ser
  have l2 := sN_le (sT (sN ([], false) 1) ser) lim
  have tser : ser.size ≤ 64 := ht
  clear ht hd zlim 
  go_enter Try.func24, Try.ntmps24
  go_wp2_with (first
    | (go_at_call 41; (with_reducible refine (rnum_s (s := ([], false)) 1 (Rd8.nil _) HK.out (by simp)).mono ?_); rintro e x1 ⟨k1, a1, c1, rfl, hk1, ho1, hx1⟩; have hz1 : w.heap.size < x1.heap.size := (Nat.lt_of_lt_of_le (by simp) hx1.size); obtain ⟨_, d0, d1, d2⟩ := HA.out _ hx1)
    | (go_at_call 42; (with_reducible refine (HSH.out _).mono ?_); rintro e x2 ⟨rfl, rfl⟩))
  go_region_held3 (fun z => Ext (w.alloc (.cells #[.int .i64 1, .string ser, .int .i64 lim, .string cat, .int .i64 ry, .int .i64 rm, .int .i64 rd, .int .i64 bp, .int .i64 dy, .int .i64 dm, .int .i64 dd, .slice a n cap, .string ofs, .int .i64 ofn, .int .i64 ses] 37)) z ∧ z.cell? ⟨w.heap.size, 0, none⟩ = some (.int .i64 1) ∧ z.cell? ⟨w.heap.size, 1, none⟩ = some (.string ser) ∧ z.cell? ⟨w.heap.size, 2, none⟩ = some (.int .i64 lim))
    ((refine HA.out _ ?_; repeat (first | exact Ext.refl _ | assumption | refine Ext.trans ?_ (by assumption) | refine Ext.alloc ?_ _ | refine Ext.drew ?_ | refine Ext.drewN ?_ _)))
    (first
      | (go_at_call 43; (with_reducible refine (rtext_s (s := (sN ([], false) 1)) ser tser (Rd8.ext (Own8.rd ho1.out) (by repeat (first | exact Ext.refl _ | assumption | refine Ext.trans ?_ (by assumption) | refine Ext.alloc ?_ _ | refine Ext.drew ?_ | refine Ext.drewN ?_ _))) (by omega)).mono ?_); rintro e y1 ⟨j1, b1, e1, rfl, gk1, go1, gx1⟩)
      | (go_at_call 41; (with_reducible refine (rnum_s (s := (sT (sN ([], false) 1) ser)) lim (Rd8.ext (Own8.rd go1.out) (by repeat (first | exact Ext.refl _ | assumption | refine Ext.trans ?_ (by assumption) | refine Ext.alloc ?_ _ | refine Ext.drew ?_ | refine Ext.drewN ?_ _))) Qlim.out (by omega)).mono ?_); rintro e y2 ⟨j2, b2, e2, rfl, gk2, go2, gx2⟩))
  have hlen : ¬ (1024 : Int) < (j2 : Int) := by have := gk2.out; omega
  go_wp2
  go_ret2
  refine ⟨_, rfl, Own8.rd go2.out, ?_⟩
  refine Ext.trans ((Ext.refl w).alloc _) (b := w.alloc (.cells #[.int .i64 1, .string ser, .int .i64 lim, .string cat, .int .i64 ry, .int .i64 rm, .int .i64 rd, .int .i64 bp, .int .i64 dy, .int .i64 dm, .int .i64 dd, .slice a n cap, .string ofs, .int .i64 ofn, .int .i64 ses] 37)) ?_
  repeat (first | exact Ext.refl _ | assumption | refine Ext.trans ?_ (by assumption) | refine Ext.alloc ?_ _ | refine Ext.drew ?_ | refine Ext.drewN ?_ _)
set_option maxHeartbeats 4000000 in
set_option maxRecDepth 100000 in
theorem rput_1no (lim ry rm rd bp dy dm dd ofn ses : Int) (ser cat ofs : ByteArray) (a : Option Addr) (n cap : Nat) (ht : ¬ ser.size ≤ 64) (w : World) : Calls Try.prog 24 #[.agg #[.int .i64 1, .string ser, .int .i64 lim, .string cat, .int .i64 ry, .int .i64 rm, .int .i64 rd, .int .i64 bp, .int .i64 dy, .int .i64 dm, .int .i64 dd, .slice a n cap, .string ofs, .int .i64 ofn, .int .i64 ses]] w fun e w' => ∃ bv, e = .returned (.tuple #[bv, .int .i64 2]) ∧ Rd8 w' bv [] ∧ Ext w w' := by
  have HA : Hid (∀ z, Ext (w.alloc (.cells #[.int .i64 1, .string ser, .int .i64 lim, .string cat, .int .i64 ry, .int .i64 rm, .int .i64 rd, .int .i64 bp, .int .i64 dy, .int .i64 dm, .int .i64 dd, .slice a n cap, .string ofs, .int .i64 ofn, .int .i64 ses] 37)) z → Ext (w.alloc (.cells #[.int .i64 1, .string ser, .int .i64 lim, .string cat, .int .i64 ry, .int .i64 rm, .int .i64 rd, .int .i64 bp, .int .i64 dy, .int .i64 dm, .int .i64 dd, .slice a n cap, .string ofs, .int .i64 ofn, .int .i64 ses] 37)) z ∧ z.cell? ⟨w.heap.size, 0, none⟩ = some (.int .i64 1) ∧ z.cell? ⟨w.heap.size, 1, none⟩ = some (.string ser) ∧ z.cell? ⟨w.heap.size, 2, none⟩ = some (.int .i64 lim)) := Lib.hid fun z h => ⟨h, alloc_cell h 0 _ rfl, alloc_cell h 1 _ rfl, alloc_cell h 2 _ rfl⟩
  have HK : Hid (Z64 1) := Lib.hid (by unfold Z64; omega)
  have hd : decide (ser.size ≤ 64) = false := decide_eq_false ht
  have HSH : Hid (∀ x : World, Calls Try.prog 42 #[.slice (some ⟨x.heap.size, 0, none⟩) 1 1] (x.alloc (.cells #[.string ser] 9)) fun e w' => e = .returned (.bool false) ∧ x.alloc (.cells #[.string ser] 9) = w') := Lib.hid fun x => by have := short_1 ser x.heap.size 1 (x.alloc (.cells #[.string ser] 9)) (by simp [go_sem]); rwa [hd] at this
  clear ht hd
  go_enter Try.func24, Try.ntmps24
  go_wp2_with (first
    | (go_at_call 41; (with_reducible refine (rnum_s (s := ([], false)) 1 (Rd8.nil _) HK.out (by simp)).mono ?_); rintro e x1 ⟨k1, a1, c1, rfl, hk1, ho1, hx1⟩; have hz1 : w.heap.size < x1.heap.size := (Nat.lt_of_lt_of_le (by simp) hx1.size); obtain ⟨_, d0, d1, d2⟩ := HA.out _ hx1)
    | (go_at_call 42; (with_reducible refine (HSH.out _).mono ?_); rintro e x2 ⟨rfl, rfl⟩))
  go_ret2
  refine ⟨_, rfl, Rd8.nil _, ?_⟩
  refine Ext.trans ((Ext.refl w).alloc _) (b := w.alloc (.cells #[.int .i64 1, .string ser, .int .i64 lim, .string cat, .int .i64 ry, .int .i64 rm, .int .i64 rd, .int .i64 bp, .int .i64 dy, .int .i64 dm, .int .i64 dd, .slice a n cap, .string ofs, .int .i64 ofn, .int .i64 ses] 37)) ?_
  repeat (first | exact Ext.refl _ | assumption | refine Ext.trans ?_ (by assumption) | refine Ext.alloc ?_ _ | refine Ext.drew ?_ | refine Ext.drewN ?_ _)
set_option maxHeartbeats 4000000 in
set_option maxRecDepth 100000 in
theorem rput_2 (lim ry rm rd bp dy dm dd ofn ses : Int) (ser cat ofs : ByteArray) (a : Option Addr) (n cap : Nat) (ht : ser.size ≤ 64) (w : World) : Calls Try.prog 24 #[.agg #[.int .i64 2, .string ser, .int .i64 lim, .string cat, .int .i64 ry, .int .i64 rm, .int .i64 rd, .int .i64 bp, .int .i64 dy, .int .i64 dm, .int .i64 dd, .slice a n cap, .string ofs, .int .i64 ofn, .int .i64 ses]] w fun e w' => ∃ bv, e = .returned (.tuple #[bv, .int .i64 0]) ∧ Rd8 w' bv (sT (sN ([], false) 2) ser).1 ∧ Ext w w' := by
  have HA : Hid (∀ z, Ext (w.alloc (.cells #[.int .i64 2, .string ser, .int .i64 lim, .string cat, .int .i64 ry, .int .i64 rm, .int .i64 rd, .int .i64 bp, .int .i64 dy, .int .i64 dm, .int .i64 dd, .slice a n cap, .string ofs, .int .i64 ofn, .int .i64 ses] 37)) z → Ext (w.alloc (.cells #[.int .i64 2, .string ser, .int .i64 lim, .string cat, .int .i64 ry, .int .i64 rm, .int .i64 rd, .int .i64 bp, .int .i64 dy, .int .i64 dm, .int .i64 dd, .slice a n cap, .string ofs, .int .i64 ofn, .int .i64 ses] 37)) z ∧ z.cell? ⟨w.heap.size, 0, none⟩ = some (.int .i64 2) ∧ z.cell? ⟨w.heap.size, 1, none⟩ = some (.string ser)) := Lib.hid fun z h => ⟨h, alloc_cell h 0 _ rfl, alloc_cell h 1 _ rfl⟩
  have HK : Hid (Z64 2) := Lib.hid (by unfold Z64; omega)
  have hd : decide (ser.size ≤ 64) = true := decide_eq_true ht
  have HSH : Hid (∀ x : World, Calls Try.prog 42 #[.slice (some ⟨x.heap.size, 0, none⟩) 1 1] (x.alloc (.cells #[.string ser] 9)) fun e w' => e = .returned (.bool true) ∧ x.alloc (.cells #[.string ser] 9) = w') := Lib.hid fun x => by have := short_1 ser x.heap.size 1 (x.alloc (.cells #[.string ser] 9)) (by simp [go_sem]); rwa [hd] at this
  have l0 := sN_le ([], false) 2
  simp only [List.length_nil] at l0
  have l1 := sT_le (sN ([], false) 2) ser
  have tser : ser.size ≤ 64 := ht
  clear ht hd 
  go_enter Try.func24, Try.ntmps24
  go_wp2_with (first
    | (go_at_call 43; (with_reducible refine (rtext_s (s := (sN ([], false) 2)) ser tser (Rd8.ext (Own8.rd ho1.out) (by repeat (first | exact Ext.refl _ | assumption | refine Ext.trans ?_ (by assumption) | refine Ext.alloc ?_ _ | refine Ext.drew ?_ | refine Ext.drewN ?_ _))) (by omega)).mono ?_); rintro e y1 ⟨j1, b1, e1, rfl, gk1, go1, gx1⟩; have hlen : ¬ (1024 : Int) < (j1 : Int) := (by have := gk1.out; omega))
    | (go_at_call 42; (with_reducible refine (HSH.out _).mono ?_); rintro e x2 ⟨rfl, rfl⟩)
    | (go_at_call 41; (with_reducible refine (rnum_s (s := ([], false)) 2 (Rd8.nil _) HK.out (by simp)).mono ?_); rintro e x1 ⟨k1, a1, c1, rfl, hk1, ho1, hx1⟩; have hz1 : w.heap.size < x1.heap.size := (Nat.lt_of_lt_of_le (by simp) hx1.size); obtain ⟨_, d0, d1⟩ := HA.out _ hx1))
  go_ret2
  refine ⟨_, rfl, Own8.rd go1.out, ?_⟩
  refine Ext.trans ((Ext.refl w).alloc _) (b := w.alloc (.cells #[.int .i64 2, .string ser, .int .i64 lim, .string cat, .int .i64 ry, .int .i64 rm, .int .i64 rd, .int .i64 bp, .int .i64 dy, .int .i64 dm, .int .i64 dd, .slice a n cap, .string ofs, .int .i64 ofn, .int .i64 ses] 37)) ?_
  repeat (first | exact Ext.refl _ | assumption | refine Ext.trans ?_ (by assumption) | refine Ext.alloc ?_ _ | refine Ext.drew ?_ | refine Ext.drewN ?_ _)
set_option maxHeartbeats 4000000 in
set_option maxRecDepth 100000 in
theorem rput_2no (lim ry rm rd bp dy dm dd ofn ses : Int) (ser cat ofs : ByteArray) (a : Option Addr) (n cap : Nat) (ht : ¬ ser.size ≤ 64) (w : World) : Calls Try.prog 24 #[.agg #[.int .i64 2, .string ser, .int .i64 lim, .string cat, .int .i64 ry, .int .i64 rm, .int .i64 rd, .int .i64 bp, .int .i64 dy, .int .i64 dm, .int .i64 dd, .slice a n cap, .string ofs, .int .i64 ofn, .int .i64 ses]] w fun e w' => ∃ bv, e = .returned (.tuple #[bv, .int .i64 2]) ∧ Rd8 w' bv [] ∧ Ext w w' := by
  have HA : Hid (∀ z, Ext (w.alloc (.cells #[.int .i64 2, .string ser, .int .i64 lim, .string cat, .int .i64 ry, .int .i64 rm, .int .i64 rd, .int .i64 bp, .int .i64 dy, .int .i64 dm, .int .i64 dd, .slice a n cap, .string ofs, .int .i64 ofn, .int .i64 ses] 37)) z → Ext (w.alloc (.cells #[.int .i64 2, .string ser, .int .i64 lim, .string cat, .int .i64 ry, .int .i64 rm, .int .i64 rd, .int .i64 bp, .int .i64 dy, .int .i64 dm, .int .i64 dd, .slice a n cap, .string ofs, .int .i64 ofn, .int .i64 ses] 37)) z ∧ z.cell? ⟨w.heap.size, 0, none⟩ = some (.int .i64 2) ∧ z.cell? ⟨w.heap.size, 1, none⟩ = some (.string ser)) := Lib.hid fun z h => ⟨h, alloc_cell h 0 _ rfl, alloc_cell h 1 _ rfl⟩
  have HK : Hid (Z64 2) := Lib.hid (by unfold Z64; omega)
  have hd : decide (ser.size ≤ 64) = false := decide_eq_false ht
  have HSH : Hid (∀ x : World, Calls Try.prog 42 #[.slice (some ⟨x.heap.size, 0, none⟩) 1 1] (x.alloc (.cells #[.string ser] 9)) fun e w' => e = .returned (.bool false) ∧ x.alloc (.cells #[.string ser] 9) = w') := Lib.hid fun x => by have := short_1 ser x.heap.size 1 (x.alloc (.cells #[.string ser] 9)) (by simp [go_sem]); rwa [hd] at this
  clear ht hd
  go_enter Try.func24, Try.ntmps24
  go_wp2_with (first
    | (go_at_call 41; (with_reducible refine (rnum_s (s := ([], false)) 2 (Rd8.nil _) HK.out (by simp)).mono ?_); rintro e x1 ⟨k1, a1, c1, rfl, hk1, ho1, hx1⟩; have hz1 : w.heap.size < x1.heap.size := (Nat.lt_of_lt_of_le (by simp) hx1.size); obtain ⟨_, d0, d1⟩ := HA.out _ hx1)
    | (go_at_call 42; (with_reducible refine (HSH.out _).mono ?_); rintro e x2 ⟨rfl, rfl⟩))
  go_ret2
  refine ⟨_, rfl, Rd8.nil _, ?_⟩
  refine Ext.trans ((Ext.refl w).alloc _) (b := w.alloc (.cells #[.int .i64 2, .string ser, .int .i64 lim, .string cat, .int .i64 ry, .int .i64 rm, .int .i64 rd, .int .i64 bp, .int .i64 dy, .int .i64 dm, .int .i64 dd, .slice a n cap, .string ofs, .int .i64 ofn, .int .i64 ses] 37)) ?_
  repeat (first | exact Ext.refl _ | assumption | refine Ext.trans ?_ (by assumption) | refine Ext.alloc ?_ _ | refine Ext.drew ?_ | refine Ext.drewN ?_ _)
set_option maxHeartbeats 4000000 in
set_option maxRecDepth 100000 in
theorem rput_3 (lim ry rm rd bp dy dm dd ofn ses : Int) (ser cat ofs : ByteArray) (a : Option Addr) (n cap : Nat) (zry : Z64 ry) (zrm : Z64 rm) (zrd : Z64 rd) (zbp : Z64 bp) (ht : cat.size ≤ 64) (w : World) : Calls Try.prog 24 #[.agg #[.int .i64 3, .string ser, .int .i64 lim, .string cat, .int .i64 ry, .int .i64 rm, .int .i64 rd, .int .i64 bp, .int .i64 dy, .int .i64 dm, .int .i64 dd, .slice a n cap, .string ofs, .int .i64 ofn, .int .i64 ses]] w fun e w' => ∃ bv, e = .returned (.tuple #[bv, .int .i64 0]) ∧ Rd8 w' bv (sN (sD (sT (sN ([], false) 3) cat) ry rm rd) bp).1 ∧ Ext w w' := by
  have HA : Hid (∀ z, Ext (w.alloc (.cells #[.int .i64 3, .string ser, .int .i64 lim, .string cat, .int .i64 ry, .int .i64 rm, .int .i64 rd, .int .i64 bp, .int .i64 dy, .int .i64 dm, .int .i64 dd, .slice a n cap, .string ofs, .int .i64 ofn, .int .i64 ses] 37)) z → Ext (w.alloc (.cells #[.int .i64 3, .string ser, .int .i64 lim, .string cat, .int .i64 ry, .int .i64 rm, .int .i64 rd, .int .i64 bp, .int .i64 dy, .int .i64 dm, .int .i64 dd, .slice a n cap, .string ofs, .int .i64 ofn, .int .i64 ses] 37)) z ∧ z.cell? ⟨w.heap.size, 0, none⟩ = some (.int .i64 3) ∧ z.cell? ⟨w.heap.size, 3, none⟩ = some (.string cat) ∧ z.cell? ⟨w.heap.size, 4, none⟩ = some (.int .i64 ry) ∧ z.cell? ⟨w.heap.size, 5, none⟩ = some (.int .i64 rm) ∧ z.cell? ⟨w.heap.size, 6, none⟩ = some (.int .i64 rd) ∧ z.cell? ⟨w.heap.size, 7, none⟩ = some (.int .i64 bp)) := Lib.hid fun z h => ⟨h, alloc_cell h 0 _ rfl, alloc_cell h 3 _ rfl, alloc_cell h 4 _ rfl, alloc_cell h 5 _ rfl, alloc_cell h 6 _ rfl, alloc_cell h 7 _ rfl⟩
  have HK : Hid (Z64 3) := Lib.hid (by unfold Z64; omega)
  have hd : decide (cat.size ≤ 64) = true := decide_eq_true ht
  have HSH : Hid (∀ x : World, Calls Try.prog 42 #[.slice (some ⟨x.heap.size, 0, none⟩) 1 1] (x.alloc (.cells #[.string cat] 9)) fun e w' => e = .returned (.bool true) ∧ x.alloc (.cells #[.string cat] 9) = w') := Lib.hid fun x => by have := short_1 cat x.heap.size 1 (x.alloc (.cells #[.string cat] 9)) (by simp [go_sem]); rwa [hd] at this
  have Qry := Lib.hid zry
  have Qrm := Lib.hid zrm
  have Qrd := Lib.hid zrd
  have Qbp := Lib.hid zbp
  have l0 := sN_le ([], false) 3
  simp only [List.length_nil] at l0
  have l1 := sT_le (sN ([], false) 3) cat
  have l2 := sD_le (sT (sN ([], false) 3) cat) ry rm rd
  have l3 := sN_le (sD (sT (sN ([], false) 3) cat) ry rm rd) bp
  have tcat : cat.size ≤ 64 := ht
  clear ht hd zry zrm zrd zbp 
  go_enter Try.func24, Try.ntmps24
  go_wp2_with (first
    | (go_at_call 41; (with_reducible refine (rnum_s (s := ([], false)) 3 (Rd8.nil _) HK.out (by simp)).mono ?_); rintro e x1 ⟨k1, a1, c1, rfl, hk1, ho1, hx1⟩; have hz1 : w.heap.size < x1.heap.size := (Nat.lt_of_lt_of_le (by simp) hx1.size); obtain ⟨_, d0, d3, d4, d5, d6, d7⟩ := HA.out _ hx1)
    | (go_at_call 42; (with_reducible refine (HSH.out _).mono ?_); rintro e x2 ⟨rfl, rfl⟩))
  go_region_held3 (fun z => Ext (w.alloc (.cells #[.int .i64 3, .string ser, .int .i64 lim, .string cat, .int .i64 ry, .int .i64 rm, .int .i64 rd, .int .i64 bp, .int .i64 dy, .int .i64 dm, .int .i64 dd, .slice a n cap, .string ofs, .int .i64 ofn, .int .i64 ses] 37)) z ∧ z.cell? ⟨w.heap.size, 0, none⟩ = some (.int .i64 3) ∧ z.cell? ⟨w.heap.size, 3, none⟩ = some (.string cat) ∧ z.cell? ⟨w.heap.size, 4, none⟩ = some (.int .i64 ry) ∧ z.cell? ⟨w.heap.size, 5, none⟩ = some (.int .i64 rm) ∧ z.cell? ⟨w.heap.size, 6, none⟩ = some (.int .i64 rd) ∧ z.cell? ⟨w.heap.size, 7, none⟩ = some (.int .i64 bp))
    ((refine HA.out _ ?_; repeat (first | exact Ext.refl _ | assumption | refine Ext.trans ?_ (by assumption) | refine Ext.alloc ?_ _ | refine Ext.drew ?_ | refine Ext.drewN ?_ _)))
    (first
      | (go_at_call 43; (with_reducible refine (rtext_s (s := (sN ([], false) 3)) cat tcat (Rd8.ext (Own8.rd ho1.out) (by repeat (first | exact Ext.refl _ | assumption | refine Ext.trans ?_ (by assumption) | refine Ext.alloc ?_ _ | refine Ext.drew ?_ | refine Ext.drewN ?_ _))) (by omega)).mono ?_); rintro e y1 ⟨j1, b1, e1, rfl, gk1, go1, gx1⟩)
      | (go_at_call 44; (with_reducible refine (rday_s (s := (sT (sN ([], false) 3) cat)) ry rm rd (Rd8.ext (Own8.rd go1.out) (by repeat (first | exact Ext.refl _ | assumption | refine Ext.trans ?_ (by assumption) | refine Ext.alloc ?_ _ | refine Ext.drew ?_ | refine Ext.drewN ?_ _))) Qry.out Qrm.out Qrd.out (by omega)).mono ?_); rintro e y2 ⟨j2, b2, e2, rfl, gk2, go2, gx2⟩)
      | (go_at_call 41; (with_reducible refine (rnum_s (s := (sD (sT (sN ([], false) 3) cat) ry rm rd)) bp (Rd8.ext (Own8.rd go2.out) (by repeat (first | exact Ext.refl _ | assumption | refine Ext.trans ?_ (by assumption) | refine Ext.alloc ?_ _ | refine Ext.drew ?_ | refine Ext.drewN ?_ _))) Qbp.out (by omega)).mono ?_); rintro e y3 ⟨j3, b3, e3, rfl, gk3, go3, gx3⟩))
  have hlen : ¬ (1024 : Int) < (j3 : Int) := by have := gk3.out; omega
  go_wp2
  go_ret2
  refine ⟨_, rfl, Own8.rd go3.out, ?_⟩
  refine Ext.trans ((Ext.refl w).alloc _) (b := w.alloc (.cells #[.int .i64 3, .string ser, .int .i64 lim, .string cat, .int .i64 ry, .int .i64 rm, .int .i64 rd, .int .i64 bp, .int .i64 dy, .int .i64 dm, .int .i64 dd, .slice a n cap, .string ofs, .int .i64 ofn, .int .i64 ses] 37)) ?_
  repeat (first | exact Ext.refl _ | assumption | refine Ext.trans ?_ (by assumption) | refine Ext.alloc ?_ _ | refine Ext.drew ?_ | refine Ext.drewN ?_ _)
set_option maxHeartbeats 4000000 in
set_option maxRecDepth 100000 in
theorem rput_3no (lim ry rm rd bp dy dm dd ofn ses : Int) (ser cat ofs : ByteArray) (a : Option Addr) (n cap : Nat) (ht : ¬ cat.size ≤ 64) (w : World) : Calls Try.prog 24 #[.agg #[.int .i64 3, .string ser, .int .i64 lim, .string cat, .int .i64 ry, .int .i64 rm, .int .i64 rd, .int .i64 bp, .int .i64 dy, .int .i64 dm, .int .i64 dd, .slice a n cap, .string ofs, .int .i64 ofn, .int .i64 ses]] w fun e w' => ∃ bv, e = .returned (.tuple #[bv, .int .i64 2]) ∧ Rd8 w' bv [] ∧ Ext w w' := by
  have HA : Hid (∀ z, Ext (w.alloc (.cells #[.int .i64 3, .string ser, .int .i64 lim, .string cat, .int .i64 ry, .int .i64 rm, .int .i64 rd, .int .i64 bp, .int .i64 dy, .int .i64 dm, .int .i64 dd, .slice a n cap, .string ofs, .int .i64 ofn, .int .i64 ses] 37)) z → Ext (w.alloc (.cells #[.int .i64 3, .string ser, .int .i64 lim, .string cat, .int .i64 ry, .int .i64 rm, .int .i64 rd, .int .i64 bp, .int .i64 dy, .int .i64 dm, .int .i64 dd, .slice a n cap, .string ofs, .int .i64 ofn, .int .i64 ses] 37)) z ∧ z.cell? ⟨w.heap.size, 0, none⟩ = some (.int .i64 3) ∧ z.cell? ⟨w.heap.size, 3, none⟩ = some (.string cat) ∧ z.cell? ⟨w.heap.size, 4, none⟩ = some (.int .i64 ry) ∧ z.cell? ⟨w.heap.size, 5, none⟩ = some (.int .i64 rm) ∧ z.cell? ⟨w.heap.size, 6, none⟩ = some (.int .i64 rd) ∧ z.cell? ⟨w.heap.size, 7, none⟩ = some (.int .i64 bp)) := Lib.hid fun z h => ⟨h, alloc_cell h 0 _ rfl, alloc_cell h 3 _ rfl, alloc_cell h 4 _ rfl, alloc_cell h 5 _ rfl, alloc_cell h 6 _ rfl, alloc_cell h 7 _ rfl⟩
  have HK : Hid (Z64 3) := Lib.hid (by unfold Z64; omega)
  have hd : decide (cat.size ≤ 64) = false := decide_eq_false ht
  have HSH : Hid (∀ x : World, Calls Try.prog 42 #[.slice (some ⟨x.heap.size, 0, none⟩) 1 1] (x.alloc (.cells #[.string cat] 9)) fun e w' => e = .returned (.bool false) ∧ x.alloc (.cells #[.string cat] 9) = w') := Lib.hid fun x => by have := short_1 cat x.heap.size 1 (x.alloc (.cells #[.string cat] 9)) (by simp [go_sem]); rwa [hd] at this
  clear ht hd
  go_enter Try.func24, Try.ntmps24
  go_wp2_with (first
    | (go_at_call 41; (with_reducible refine (rnum_s (s := ([], false)) 3 (Rd8.nil _) HK.out (by simp)).mono ?_); rintro e x1 ⟨k1, a1, c1, rfl, hk1, ho1, hx1⟩; have hz1 : w.heap.size < x1.heap.size := (Nat.lt_of_lt_of_le (by simp) hx1.size); obtain ⟨_, d0, d3, d4, d5, d6, d7⟩ := HA.out _ hx1)
    | (go_at_call 42; (with_reducible refine (HSH.out _).mono ?_); rintro e x2 ⟨rfl, rfl⟩))
  go_ret2
  refine ⟨_, rfl, Rd8.nil _, ?_⟩
  refine Ext.trans ((Ext.refl w).alloc _) (b := w.alloc (.cells #[.int .i64 3, .string ser, .int .i64 lim, .string cat, .int .i64 ry, .int .i64 rm, .int .i64 rd, .int .i64 bp, .int .i64 dy, .int .i64 dm, .int .i64 dd, .slice a n cap, .string ofs, .int .i64 ofn, .int .i64 ses] 37)) ?_
  repeat (first | exact Ext.refl _ | assumption | refine Ext.trans ?_ (by assumption) | refine Ext.alloc ?_ _ | refine Ext.drew ?_ | refine Ext.drewN ?_ _)
set_option maxHeartbeats 4000000 in
set_option maxRecDepth 100000 in
theorem rput_5 (lim ry rm rd bp dy dm dd ofn ses : Int) (ser cat ofs : ByteArray) (a : Option Addr) (n cap : Nat) (zdy : Z64 dy) (zdm : Z64 dm) (zdd : Z64 dd) (zofn : Z64 ofn) (ht : ser.size ≤ 64 ∧ ofs.size ≤ 64) (w : World) : Calls Try.prog 24 #[.agg #[.int .i64 5, .string ser, .int .i64 lim, .string cat, .int .i64 ry, .int .i64 rm, .int .i64 rd, .int .i64 bp, .int .i64 dy, .int .i64 dm, .int .i64 dd, .slice a n cap, .string ofs, .int .i64 ofn, .int .i64 ses]] w fun e w' => ∃ bv, e = .returned (.tuple #[bv, .int .i64 0]) ∧ Rd8 w' bv (sN (sT (sD (sT (sN ([], false) 5) ser) dy dm dd) ofs) ofn).1 ∧ Ext w w' := by
  have HA : Hid (∀ z, Ext (w.alloc (.cells #[.int .i64 5, .string ser, .int .i64 lim, .string cat, .int .i64 ry, .int .i64 rm, .int .i64 rd, .int .i64 bp, .int .i64 dy, .int .i64 dm, .int .i64 dd, .slice a n cap, .string ofs, .int .i64 ofn, .int .i64 ses] 37)) z → Ext (w.alloc (.cells #[.int .i64 5, .string ser, .int .i64 lim, .string cat, .int .i64 ry, .int .i64 rm, .int .i64 rd, .int .i64 bp, .int .i64 dy, .int .i64 dm, .int .i64 dd, .slice a n cap, .string ofs, .int .i64 ofn, .int .i64 ses] 37)) z ∧ z.cell? ⟨w.heap.size, 0, none⟩ = some (.int .i64 5) ∧ z.cell? ⟨w.heap.size, 1, none⟩ = some (.string ser) ∧ z.cell? ⟨w.heap.size, 8, none⟩ = some (.int .i64 dy) ∧ z.cell? ⟨w.heap.size, 9, none⟩ = some (.int .i64 dm) ∧ z.cell? ⟨w.heap.size, 10, none⟩ = some (.int .i64 dd) ∧ z.cell? ⟨w.heap.size, 12, none⟩ = some (.string ofs) ∧ z.cell? ⟨w.heap.size, 13, none⟩ = some (.int .i64 ofn)) := Lib.hid fun z h => ⟨h, alloc_cell h 0 _ rfl, alloc_cell h 1 _ rfl, alloc_cell h 8 _ rfl, alloc_cell h 9 _ rfl, alloc_cell h 10 _ rfl, alloc_cell h 12 _ rfl, alloc_cell h 13 _ rfl⟩
  have HK : Hid (Z64 5) := Lib.hid (by unfold Z64; omega)
  have hd : decide (ser.size ≤ 64 ∧ ofs.size ≤ 64) = true := decide_eq_true ht
  have HSH : Hid (∀ x : World, Calls Try.prog 42 #[.slice (some ⟨x.heap.size, 0, none⟩) 2 2] (x.alloc (.cells #[.string ser, .string ofs] 9)) fun e w' => e = .returned (.bool true) ∧ x.alloc (.cells #[.string ser, .string ofs] 9) = w') := Lib.hid fun x => by have := short_2 ser ofs x.heap.size 2 (x.alloc (.cells #[.string ser, .string ofs] 9)) (by simp [go_sem]) (by simp [go_sem]); rwa [hd] at this
  have Qdy := Lib.hid zdy
  have Qdm := Lib.hid zdm
  have Qdd := Lib.hid zdd
  have Qofn := Lib.hid zofn
  have l0 := sN_le ([], false) 5
  simp only [List.length_nil] at l0
  have l1 := sT_le (sN ([], false) 5) ser
  have l2 := sD_le (sT (sN ([], false) 5) ser) dy dm dd
  have l3 := sT_le (sD (sT (sN ([], false) 5) ser) dy dm dd) ofs
  have l4 := sN_le (sT (sD (sT (sN ([], false) 5) ser) dy dm dd) ofs) ofn
  have tser : ser.size ≤ 64 := ht.1
  have tofs : ofs.size ≤ 64 := ht.2
  clear ht hd zdy zdm zdd zofn 
  go_enter Try.func24, Try.ntmps24
  go_wp2_with (first
    | (go_at_call 41; (with_reducible refine (rnum_s (s := ([], false)) 5 (Rd8.nil _) HK.out (by simp)).mono ?_); rintro e x1 ⟨k1, a1, c1, rfl, hk1, ho1, hx1⟩; have hz1 : w.heap.size < x1.heap.size := (Nat.lt_of_lt_of_le (by simp) hx1.size); obtain ⟨_, d0, d1, d8, d9, d10, d12, d13⟩ := HA.out _ hx1)
    | (go_at_call 42; (with_reducible refine (HSH.out _).mono ?_); rintro e x2 ⟨rfl, rfl⟩))
  go_region_held3 (fun z => Ext (w.alloc (.cells #[.int .i64 5, .string ser, .int .i64 lim, .string cat, .int .i64 ry, .int .i64 rm, .int .i64 rd, .int .i64 bp, .int .i64 dy, .int .i64 dm, .int .i64 dd, .slice a n cap, .string ofs, .int .i64 ofn, .int .i64 ses] 37)) z ∧ z.cell? ⟨w.heap.size, 0, none⟩ = some (.int .i64 5) ∧ z.cell? ⟨w.heap.size, 1, none⟩ = some (.string ser) ∧ z.cell? ⟨w.heap.size, 8, none⟩ = some (.int .i64 dy) ∧ z.cell? ⟨w.heap.size, 9, none⟩ = some (.int .i64 dm) ∧ z.cell? ⟨w.heap.size, 10, none⟩ = some (.int .i64 dd) ∧ z.cell? ⟨w.heap.size, 12, none⟩ = some (.string ofs) ∧ z.cell? ⟨w.heap.size, 13, none⟩ = some (.int .i64 ofn))
    ((refine HA.out _ ?_; repeat (first | exact Ext.refl _ | assumption | refine Ext.trans ?_ (by assumption) | refine Ext.alloc ?_ _ | refine Ext.drew ?_ | refine Ext.drewN ?_ _)))
    (first
      | (go_at_call 43; (with_reducible refine (rtext_s (s := (sN ([], false) 5)) ser tser (Rd8.ext (Own8.rd ho1.out) (by repeat (first | exact Ext.refl _ | assumption | refine Ext.trans ?_ (by assumption) | refine Ext.alloc ?_ _ | refine Ext.drew ?_ | refine Ext.drewN ?_ _))) (by omega)).mono ?_); rintro e y1 ⟨j1, b1, e1, rfl, gk1, go1, gx1⟩)
      | (go_at_call 44; (with_reducible refine (rday_s (s := (sT (sN ([], false) 5) ser)) dy dm dd (Rd8.ext (Own8.rd go1.out) (by repeat (first | exact Ext.refl _ | assumption | refine Ext.trans ?_ (by assumption) | refine Ext.alloc ?_ _ | refine Ext.drew ?_ | refine Ext.drewN ?_ _))) Qdy.out Qdm.out Qdd.out (by omega)).mono ?_); rintro e y2 ⟨j2, b2, e2, rfl, gk2, go2, gx2⟩)
      | (go_at_call 43; (with_reducible refine (rtext_s (s := (sD (sT (sN ([], false) 5) ser) dy dm dd)) ofs tofs (Rd8.ext (Own8.rd go2.out) (by repeat (first | exact Ext.refl _ | assumption | refine Ext.trans ?_ (by assumption) | refine Ext.alloc ?_ _ | refine Ext.drew ?_ | refine Ext.drewN ?_ _))) (by omega)).mono ?_); rintro e y3 ⟨j3, b3, e3, rfl, gk3, go3, gx3⟩)
      | (go_at_call 41; (with_reducible refine (rnum_s (s := (sT (sD (sT (sN ([], false) 5) ser) dy dm dd) ofs)) ofn (Rd8.ext (Own8.rd go3.out) (by repeat (first | exact Ext.refl _ | assumption | refine Ext.trans ?_ (by assumption) | refine Ext.alloc ?_ _ | refine Ext.drew ?_ | refine Ext.drewN ?_ _))) Qofn.out (by omega)).mono ?_); rintro e y4 ⟨j4, b4, e4, rfl, gk4, go4, gx4⟩))
  have hlen : ¬ (1024 : Int) < (j4 : Int) := by have := gk4.out; omega
  go_wp2
  go_ret2
  refine ⟨_, rfl, Own8.rd go4.out, ?_⟩
  refine Ext.trans ((Ext.refl w).alloc _) (b := w.alloc (.cells #[.int .i64 5, .string ser, .int .i64 lim, .string cat, .int .i64 ry, .int .i64 rm, .int .i64 rd, .int .i64 bp, .int .i64 dy, .int .i64 dm, .int .i64 dd, .slice a n cap, .string ofs, .int .i64 ofn, .int .i64 ses] 37)) ?_
  repeat (first | exact Ext.refl _ | assumption | refine Ext.trans ?_ (by assumption) | refine Ext.alloc ?_ _ | refine Ext.drew ?_ | refine Ext.drewN ?_ _)
set_option maxHeartbeats 4000000 in
set_option maxRecDepth 100000 in
theorem rput_5no (lim ry rm rd bp dy dm dd ofn ses : Int) (ser cat ofs : ByteArray) (a : Option Addr) (n cap : Nat) (ht : ¬ (ser.size ≤ 64 ∧ ofs.size ≤ 64)) (w : World) : Calls Try.prog 24 #[.agg #[.int .i64 5, .string ser, .int .i64 lim, .string cat, .int .i64 ry, .int .i64 rm, .int .i64 rd, .int .i64 bp, .int .i64 dy, .int .i64 dm, .int .i64 dd, .slice a n cap, .string ofs, .int .i64 ofn, .int .i64 ses]] w fun e w' => ∃ bv, e = .returned (.tuple #[bv, .int .i64 2]) ∧ Rd8 w' bv [] ∧ Ext w w' := by
  have HA : Hid (∀ z, Ext (w.alloc (.cells #[.int .i64 5, .string ser, .int .i64 lim, .string cat, .int .i64 ry, .int .i64 rm, .int .i64 rd, .int .i64 bp, .int .i64 dy, .int .i64 dm, .int .i64 dd, .slice a n cap, .string ofs, .int .i64 ofn, .int .i64 ses] 37)) z → Ext (w.alloc (.cells #[.int .i64 5, .string ser, .int .i64 lim, .string cat, .int .i64 ry, .int .i64 rm, .int .i64 rd, .int .i64 bp, .int .i64 dy, .int .i64 dm, .int .i64 dd, .slice a n cap, .string ofs, .int .i64 ofn, .int .i64 ses] 37)) z ∧ z.cell? ⟨w.heap.size, 0, none⟩ = some (.int .i64 5) ∧ z.cell? ⟨w.heap.size, 1, none⟩ = some (.string ser) ∧ z.cell? ⟨w.heap.size, 8, none⟩ = some (.int .i64 dy) ∧ z.cell? ⟨w.heap.size, 9, none⟩ = some (.int .i64 dm) ∧ z.cell? ⟨w.heap.size, 10, none⟩ = some (.int .i64 dd) ∧ z.cell? ⟨w.heap.size, 12, none⟩ = some (.string ofs) ∧ z.cell? ⟨w.heap.size, 13, none⟩ = some (.int .i64 ofn)) := Lib.hid fun z h => ⟨h, alloc_cell h 0 _ rfl, alloc_cell h 1 _ rfl, alloc_cell h 8 _ rfl, alloc_cell h 9 _ rfl, alloc_cell h 10 _ rfl, alloc_cell h 12 _ rfl, alloc_cell h 13 _ rfl⟩
  have HK : Hid (Z64 5) := Lib.hid (by unfold Z64; omega)
  have hd : decide (ser.size ≤ 64 ∧ ofs.size ≤ 64) = false := decide_eq_false ht
  have HSH : Hid (∀ x : World, Calls Try.prog 42 #[.slice (some ⟨x.heap.size, 0, none⟩) 2 2] (x.alloc (.cells #[.string ser, .string ofs] 9)) fun e w' => e = .returned (.bool false) ∧ x.alloc (.cells #[.string ser, .string ofs] 9) = w') := Lib.hid fun x => by have := short_2 ser ofs x.heap.size 2 (x.alloc (.cells #[.string ser, .string ofs] 9)) (by simp [go_sem]) (by simp [go_sem]); rwa [hd] at this
  clear ht hd
  go_enter Try.func24, Try.ntmps24
  go_wp2_with (first
    | (go_at_call 41; (with_reducible refine (rnum_s (s := ([], false)) 5 (Rd8.nil _) HK.out (by simp)).mono ?_); rintro e x1 ⟨k1, a1, c1, rfl, hk1, ho1, hx1⟩; have hz1 : w.heap.size < x1.heap.size := (Nat.lt_of_lt_of_le (by simp) hx1.size); obtain ⟨_, d0, d1, d8, d9, d10, d12, d13⟩ := HA.out _ hx1)
    | (go_at_call 42; (with_reducible refine (HSH.out _).mono ?_); rintro e x2 ⟨rfl, rfl⟩))
  go_ret2
  refine ⟨_, rfl, Rd8.nil _, ?_⟩
  refine Ext.trans ((Ext.refl w).alloc _) (b := w.alloc (.cells #[.int .i64 5, .string ser, .int .i64 lim, .string cat, .int .i64 ry, .int .i64 rm, .int .i64 rd, .int .i64 bp, .int .i64 dy, .int .i64 dm, .int .i64 dd, .slice a n cap, .string ofs, .int .i64 ofn, .int .i64 ses] 37)) ?_
  repeat (first | exact Ext.refl _ | assumption | refine Ext.trans ?_ (by assumption) | refine Ext.alloc ?_ _ | refine Ext.drew ?_ | refine Ext.drewN ?_ _)
set_option maxHeartbeats 4000000 in
set_option maxRecDepth 100000 in
theorem rput_6 (lim ry rm rd bp dy dm dd ofn ses : Int) (ser cat ofs : ByteArray) (a : Option Addr) (n cap : Nat) (w : World) : Calls Try.prog 24 #[.agg #[.int .i64 6, .string ser, .int .i64 lim, .string cat, .int .i64 ry, .int .i64 rm, .int .i64 rd, .int .i64 bp, .int .i64 dy, .int .i64 dm, .int .i64 dd, .slice a n cap, .string ofs, .int .i64 ofn, .int .i64 ses]] w fun e w' => ∃ bv, e = .returned (.tuple #[bv, .int .i64 0]) ∧ Rd8 w' bv (sN ([], false) 6).1 ∧ Ext w w' := by
  have HA : Hid (∀ z, Ext (w.alloc (.cells #[.int .i64 6, .string ser, .int .i64 lim, .string cat, .int .i64 ry, .int .i64 rm, .int .i64 rd, .int .i64 bp, .int .i64 dy, .int .i64 dm, .int .i64 dd, .slice a n cap, .string ofs, .int .i64 ofn, .int .i64 ses] 37)) z → Ext (w.alloc (.cells #[.int .i64 6, .string ser, .int .i64 lim, .string cat, .int .i64 ry, .int .i64 rm, .int .i64 rd, .int .i64 bp, .int .i64 dy, .int .i64 dm, .int .i64 dd, .slice a n cap, .string ofs, .int .i64 ofn, .int .i64 ses] 37)) z ∧ z.cell? ⟨w.heap.size, 0, none⟩ = some (.int .i64 6)) := Lib.hid fun z h => ⟨h, alloc_cell h 0 _ rfl⟩
  have HK : Hid (Z64 6) := Lib.hid (by unfold Z64; omega)
  have l0 := sN_le ([], false) 6
  simp only [List.length_nil] at l0
  go_enter Try.func24, Try.ntmps24
  go_wp2_with (first
    | (go_at_call 41; (with_reducible refine (rnum_s (s := ([], false)) 6 (Rd8.nil _) HK.out (by simp)).mono ?_); rintro e x1 ⟨k1, a1, c1, rfl, hk1, ho1, hx1⟩; have hz1 : w.heap.size < x1.heap.size := (Nat.lt_of_lt_of_le (by simp) hx1.size); obtain ⟨_, d0⟩ := HA.out _ hx1; have hlen : ¬ (1024 : Int) < (k1 : Int) := (by have := hk1.out; omega)))
  go_ret2
  refine ⟨_, rfl, Own8.rd ho1.out, ?_⟩
  refine Ext.trans ((Ext.refl w).alloc _) (b := w.alloc (.cells #[.int .i64 6, .string ser, .int .i64 lim, .string cat, .int .i64 ry, .int .i64 rm, .int .i64 rd, .int .i64 bp, .int .i64 dy, .int .i64 dm, .int .i64 dd, .slice a n cap, .string ofs, .int .i64 ofn, .int .i64 ses] 37)) ?_
  repeat (first | exact Ext.refl _ | assumption | refine Ext.trans ?_ (by assumption) | refine Ext.alloc ?_ _ | refine Ext.drew ?_ | refine Ext.drewN ?_ _)
set_option maxHeartbeats 4000000 in
set_option maxRecDepth 100000 in
theorem rput_7 (lim ry rm rd bp dy dm dd ofn ses : Int) (ser cat ofs : ByteArray) (a : Option Addr) (n cap : Nat) (zses : Z64 ses) (w : World) : Calls Try.prog 24 #[.agg #[.int .i64 7, .string ser, .int .i64 lim, .string cat, .int .i64 ry, .int .i64 rm, .int .i64 rd, .int .i64 bp, .int .i64 dy, .int .i64 dm, .int .i64 dd, .slice a n cap, .string ofs, .int .i64 ofn, .int .i64 ses]] w fun e w' => ∃ bv, e = .returned (.tuple #[bv, .int .i64 0]) ∧ Rd8 w' bv (sN (sN ([], false) 7) ses).1 ∧ Ext w w' := by
  have HA : Hid (∀ z, Ext (w.alloc (.cells #[.int .i64 7, .string ser, .int .i64 lim, .string cat, .int .i64 ry, .int .i64 rm, .int .i64 rd, .int .i64 bp, .int .i64 dy, .int .i64 dm, .int .i64 dd, .slice a n cap, .string ofs, .int .i64 ofn, .int .i64 ses] 37)) z → Ext (w.alloc (.cells #[.int .i64 7, .string ser, .int .i64 lim, .string cat, .int .i64 ry, .int .i64 rm, .int .i64 rd, .int .i64 bp, .int .i64 dy, .int .i64 dm, .int .i64 dd, .slice a n cap, .string ofs, .int .i64 ofn, .int .i64 ses] 37)) z ∧ z.cell? ⟨w.heap.size, 0, none⟩ = some (.int .i64 7) ∧ z.cell? ⟨w.heap.size, 14, none⟩ = some (.int .i64 ses)) := Lib.hid fun z h => ⟨h, alloc_cell h 0 _ rfl, alloc_cell h 14 _ rfl⟩
  have HK : Hid (Z64 7) := Lib.hid (by unfold Z64; omega)
  have Qses := Lib.hid zses
  have l0 := sN_le ([], false) 7
  simp only [List.length_nil] at l0
  have l1 := sN_le (sN ([], false) 7) ses
  clear zses 
  go_enter Try.func24, Try.ntmps24
  go_wp2_with (first
    | (go_at_call 41; (with_reducible refine (rnum_s (s := (sN ([], false) 7)) ses (Rd8.ext (Own8.rd ho1.out) (by repeat (first | exact Ext.refl _ | assumption | refine Ext.trans ?_ (by assumption) | refine Ext.alloc ?_ _ | refine Ext.drew ?_ | refine Ext.drewN ?_ _))) Qses.out (by omega)).mono ?_); rintro e y1 ⟨j1, b1, e1, rfl, gk1, go1, gx1⟩; have hlen : ¬ (1024 : Int) < (j1 : Int) := (by have := gk1.out; omega))
    | (go_at_call 41; (with_reducible refine (rnum_s (s := ([], false)) 7 (Rd8.nil _) HK.out (by simp)).mono ?_); rintro e x1 ⟨k1, a1, c1, rfl, hk1, ho1, hx1⟩; have hz1 : w.heap.size < x1.heap.size := (Nat.lt_of_lt_of_le (by simp) hx1.size); obtain ⟨_, d0, d14⟩ := HA.out _ hx1))
  go_ret2
  refine ⟨_, rfl, Own8.rd go1.out, ?_⟩
  refine Ext.trans ((Ext.refl w).alloc _) (b := w.alloc (.cells #[.int .i64 7, .string ser, .int .i64 lim, .string cat, .int .i64 ry, .int .i64 rm, .int .i64 rd, .int .i64 bp, .int .i64 dy, .int .i64 dm, .int .i64 dd, .slice a n cap, .string ofs, .int .i64 ofn, .int .i64 ses] 37)) ?_
  repeat (first | exact Ext.refl _ | assumption | refine Ext.trans ?_ (by assumption) | refine Ext.alloc ?_ _ | refine Ext.drew ?_ | refine Ext.drewN ?_ _)
set_option maxHeartbeats 4000000 in
set_option maxRecDepth 100000 in
theorem rput_8 (lim ry rm rd bp dy dm dd ofn ses : Int) (ser cat ofs : ByteArray) (a : Option Addr) (n cap : Nat) (ht : ser.size ≤ 64) (w : World) : Calls Try.prog 24 #[.agg #[.int .i64 8, .string ser, .int .i64 lim, .string cat, .int .i64 ry, .int .i64 rm, .int .i64 rd, .int .i64 bp, .int .i64 dy, .int .i64 dm, .int .i64 dd, .slice a n cap, .string ofs, .int .i64 ofn, .int .i64 ses]] w fun e w' => ∃ bv, e = .returned (.tuple #[bv, .int .i64 0]) ∧ Rd8 w' bv (sT (sN ([], false) 8) ser).1 ∧ Ext w w' := by
  have HA : Hid (∀ z, Ext (w.alloc (.cells #[.int .i64 8, .string ser, .int .i64 lim, .string cat, .int .i64 ry, .int .i64 rm, .int .i64 rd, .int .i64 bp, .int .i64 dy, .int .i64 dm, .int .i64 dd, .slice a n cap, .string ofs, .int .i64 ofn, .int .i64 ses] 37)) z → Ext (w.alloc (.cells #[.int .i64 8, .string ser, .int .i64 lim, .string cat, .int .i64 ry, .int .i64 rm, .int .i64 rd, .int .i64 bp, .int .i64 dy, .int .i64 dm, .int .i64 dd, .slice a n cap, .string ofs, .int .i64 ofn, .int .i64 ses] 37)) z ∧ z.cell? ⟨w.heap.size, 0, none⟩ = some (.int .i64 8) ∧ z.cell? ⟨w.heap.size, 1, none⟩ = some (.string ser)) := Lib.hid fun z h => ⟨h, alloc_cell h 0 _ rfl, alloc_cell h 1 _ rfl⟩
  have HK : Hid (Z64 8) := Lib.hid (by unfold Z64; omega)
  have hd : decide (ser.size ≤ 64) = true := decide_eq_true ht
  have HSH : Hid (∀ x : World, Calls Try.prog 42 #[.slice (some ⟨x.heap.size, 0, none⟩) 1 1] (x.alloc (.cells #[.string ser] 9)) fun e w' => e = .returned (.bool true) ∧ x.alloc (.cells #[.string ser] 9) = w') := Lib.hid fun x => by have := short_1 ser x.heap.size 1 (x.alloc (.cells #[.string ser] 9)) (by simp [go_sem]); rwa [hd] at this
  have l0 := sN_le ([], false) 8
  simp only [List.length_nil] at l0
  have l1 := sT_le (sN ([], false) 8) ser
  have tser : ser.size ≤ 64 := ht
  clear ht hd 
  go_enter Try.func24, Try.ntmps24
  go_wp2_with (first
    | (go_at_call 43; (with_reducible refine (rtext_s (s := (sN ([], false) 8)) ser tser (Rd8.ext (Own8.rd ho1.out) (by repeat (first | exact Ext.refl _ | assumption | refine Ext.trans ?_ (by assumption) | refine Ext.alloc ?_ _ | refine Ext.drew ?_ | refine Ext.drewN ?_ _))) (by omega)).mono ?_); rintro e y1 ⟨j1, b1, e1, rfl, gk1, go1, gx1⟩; have hlen : ¬ (1024 : Int) < (j1 : Int) := (by have := gk1.out; omega))
    | (go_at_call 42; (with_reducible refine (HSH.out _).mono ?_); rintro e x2 ⟨rfl, rfl⟩)
    | (go_at_call 41; (with_reducible refine (rnum_s (s := ([], false)) 8 (Rd8.nil _) HK.out (by simp)).mono ?_); rintro e x1 ⟨k1, a1, c1, rfl, hk1, ho1, hx1⟩; have hz1 : w.heap.size < x1.heap.size := (Nat.lt_of_lt_of_le (by simp) hx1.size); obtain ⟨_, d0, d1⟩ := HA.out _ hx1))
  go_ret2
  refine ⟨_, rfl, Own8.rd go1.out, ?_⟩
  refine Ext.trans ((Ext.refl w).alloc _) (b := w.alloc (.cells #[.int .i64 8, .string ser, .int .i64 lim, .string cat, .int .i64 ry, .int .i64 rm, .int .i64 rd, .int .i64 bp, .int .i64 dy, .int .i64 dm, .int .i64 dd, .slice a n cap, .string ofs, .int .i64 ofn, .int .i64 ses] 37)) ?_
  repeat (first | exact Ext.refl _ | assumption | refine Ext.trans ?_ (by assumption) | refine Ext.alloc ?_ _ | refine Ext.drew ?_ | refine Ext.drewN ?_ _)
set_option maxHeartbeats 4000000 in
set_option maxRecDepth 100000 in
theorem rput_8no (lim ry rm rd bp dy dm dd ofn ses : Int) (ser cat ofs : ByteArray) (a : Option Addr) (n cap : Nat) (ht : ¬ ser.size ≤ 64) (w : World) : Calls Try.prog 24 #[.agg #[.int .i64 8, .string ser, .int .i64 lim, .string cat, .int .i64 ry, .int .i64 rm, .int .i64 rd, .int .i64 bp, .int .i64 dy, .int .i64 dm, .int .i64 dd, .slice a n cap, .string ofs, .int .i64 ofn, .int .i64 ses]] w fun e w' => ∃ bv, e = .returned (.tuple #[bv, .int .i64 2]) ∧ Rd8 w' bv [] ∧ Ext w w' := by
  have HA : Hid (∀ z, Ext (w.alloc (.cells #[.int .i64 8, .string ser, .int .i64 lim, .string cat, .int .i64 ry, .int .i64 rm, .int .i64 rd, .int .i64 bp, .int .i64 dy, .int .i64 dm, .int .i64 dd, .slice a n cap, .string ofs, .int .i64 ofn, .int .i64 ses] 37)) z → Ext (w.alloc (.cells #[.int .i64 8, .string ser, .int .i64 lim, .string cat, .int .i64 ry, .int .i64 rm, .int .i64 rd, .int .i64 bp, .int .i64 dy, .int .i64 dm, .int .i64 dd, .slice a n cap, .string ofs, .int .i64 ofn, .int .i64 ses] 37)) z ∧ z.cell? ⟨w.heap.size, 0, none⟩ = some (.int .i64 8) ∧ z.cell? ⟨w.heap.size, 1, none⟩ = some (.string ser)) := Lib.hid fun z h => ⟨h, alloc_cell h 0 _ rfl, alloc_cell h 1 _ rfl⟩
  have HK : Hid (Z64 8) := Lib.hid (by unfold Z64; omega)
  have hd : decide (ser.size ≤ 64) = false := decide_eq_false ht
  have HSH : Hid (∀ x : World, Calls Try.prog 42 #[.slice (some ⟨x.heap.size, 0, none⟩) 1 1] (x.alloc (.cells #[.string ser] 9)) fun e w' => e = .returned (.bool false) ∧ x.alloc (.cells #[.string ser] 9) = w') := Lib.hid fun x => by have := short_1 ser x.heap.size 1 (x.alloc (.cells #[.string ser] 9)) (by simp [go_sem]); rwa [hd] at this
  clear ht hd
  go_enter Try.func24, Try.ntmps24
  go_wp2_with (first
    | (go_at_call 41; (with_reducible refine (rnum_s (s := ([], false)) 8 (Rd8.nil _) HK.out (by simp)).mono ?_); rintro e x1 ⟨k1, a1, c1, rfl, hk1, ho1, hx1⟩; have hz1 : w.heap.size < x1.heap.size := (Nat.lt_of_lt_of_le (by simp) hx1.size); obtain ⟨_, d0, d1⟩ := HA.out _ hx1)
    | (go_at_call 42; (with_reducible refine (HSH.out _).mono ?_); rintro e x2 ⟨rfl, rfl⟩))
  go_ret2
  refine ⟨_, rfl, Rd8.nil _, ?_⟩
  refine Ext.trans ((Ext.refl w).alloc _) (b := w.alloc (.cells #[.int .i64 8, .string ser, .int .i64 lim, .string cat, .int .i64 ry, .int .i64 rm, .int .i64 rd, .int .i64 bp, .int .i64 dy, .int .i64 dm, .int .i64 dd, .slice a n cap, .string ofs, .int .i64 ofn, .int .i64 ses] 37)) ?_
  repeat (first | exact Ext.refl _ | assumption | refine Ext.trans ?_ (by assumption) | refine Ext.alloc ?_ _ | refine Ext.drew ?_ | refine Ext.drewN ?_ _)
end Go.Proofs.Yteenkbfmlnpmlaa
