/- The document's own answer to chapter 9: Put, kinds but 4. (Written by genCmdS.py.) -/
import Derived.Test.YtochgmpcdmahkaaCmdR
namespace Go.Proofs.Ytochgmpcdmahkaa
open Go.RowKit
section

set_option maxHeartbeats 4000000 in
set_option maxRecDepth 100000 in
theorem rput_1 (lim ry rm rd bp dy dm dd ofn ses : Int) (ser cat ofs : ByteArray) (a : Option Addr) (n cap : Nat) (zlim : Z64 lim) (ht : ser.size ≤ 64) (w : World) : Calls Try.prog 22 #[.agg #[.int .i64 1, .string ser, .int .i64 lim, .string cat, .int .i64 ry, .int .i64 rm, .int .i64 rd, .int .i64 bp, .int .i64 dy, .int .i64 dm, .int .i64 dd, .slice a n cap, .string ofs, .int .i64 ofn, .int .i64 ses]] w fun e w' => ∃ bv, e = .returned (.tuple #[bv, .int .i64 0]) ∧ Rd8 w' bv (sN (sT (sN ([], false) 1) ser) lim).1 ∧ Ext w w' := by
  have HA : Hid (∀ z, Ext (w.alloc (.cells #[.int .i64 1, .string ser, .int .i64 lim, .string cat, .int .i64 ry, .int .i64 rm, .int .i64 rd, .int .i64 bp, .int .i64 dy, .int .i64 dm, .int .i64 dd, .slice a n cap, .string ofs, .int .i64 ofn, .int .i64 ses] 33)) z → Ext (w.alloc (.cells #[.int .i64 1, .string ser, .int .i64 lim, .string cat, .int .i64 ry, .int .i64 rm, .int .i64 rd, .int .i64 bp, .int .i64 dy, .int .i64 dm, .int .i64 dd, .slice a n cap, .string ofs, .int .i64 ofn, .int .i64 ses] 33)) z ∧ z.cell? ⟨w.heap.size, 0, none⟩ = some (.int .i64 1) ∧ z.cell? ⟨w.heap.size, 1, none⟩ = some (.string ser) ∧ z.cell? ⟨w.heap.size, 2, none⟩ = some (.int .i64 lim)) := Lib.hid fun z h => ⟨h, alloc_cell h 0 _ rfl, alloc_cell h 1 _ rfl, alloc_cell h 2 _ rfl⟩
  have HK : Hid (Z64 1) := Lib.hid (by unfold Z64; omega)
  have hd : decide (ser.size ≤ 64) = true := decide_eq_true ht
  have HSH : Hid (∀ x : World, Calls Try.prog 37 #[.slice (some ⟨x.heap.size, 0, none⟩) 1 1] (x.alloc (.cells #[.string ser] 9)) fun e w' => e = .returned (.bool true) ∧ x.alloc (.cells #[.string ser] 9) = w') := Lib.hid fun x => by have := short_1 ser x.heap.size 1 (x.alloc (.cells #[.string ser] 9)) (by simp [go_sem]); rwa [hd] at this
  have Qlim := Lib.hid zlim
  have l0 := sN_le ([], false) 1
  simp only [List.length_nil] at l0
  have l1 := sT_le (sN ([], false) 1) ser
  have l2 := sN_le (sT (sN ([], false) 1) ser) lim
  have tser : ser.size ≤ 64 := ht
  clear ht hd zlim 
  go_enter Try.func22, Try.ntmps22
  go_wp2_with (first
    | (go_at_call 23; (with_reducible refine (rnum_s (s := ([], false)) 1 (Rd8.nil _) HK.out (by simp)).mono ?_); rintro e x1 ⟨k1, a1, c1, rfl, hk1, ho1, hx1⟩; have hz1 : w.heap.size < x1.heap.size := (Nat.lt_of_lt_of_le (by simp) hx1.size); obtain ⟨_, d0, d1, d2⟩ := HA.out _ hx1)
    | (go_at_call 37; (with_reducible refine (HSH.out _).mono ?_); rintro e x2 ⟨rfl, rfl⟩))
  go_region_held3 (fun z => Ext (w.alloc (.cells #[.int .i64 1, .string ser, .int .i64 lim, .string cat, .int .i64 ry, .int .i64 rm, .int .i64 rd, .int .i64 bp, .int .i64 dy, .int .i64 dm, .int .i64 dd, .slice a n cap, .string ofs, .int .i64 ofn, .int .i64 ses] 33)) z ∧ z.cell? ⟨w.heap.size, 0, none⟩ = some (.int .i64 1) ∧ z.cell? ⟨w.heap.size, 1, none⟩ = some (.string ser) ∧ z.cell? ⟨w.heap.size, 2, none⟩ = some (.int .i64 lim))
    ((refine HA.out _ ?_; repeat (first | exact Ext.refl _ | assumption | refine Ext.trans ?_ (by assumption) | refine Ext.alloc ?_ _ | refine Ext.drew ?_ | refine Ext.drewN ?_ _)))
    (first
      | (go_at_call 38; (with_reducible refine (rtext_s (s := (sN ([], false) 1)) ser tser (Rd8.ext (Own8.rd ho1.out) (by repeat (first | exact Ext.refl _ | assumption | refine Ext.trans ?_ (by assumption) | refine Ext.alloc ?_ _ | refine Ext.drew ?_ | refine Ext.drewN ?_ _))) (by omega)).mono ?_); rintro e y1 ⟨j1, b1, e1, rfl, gk1, go1, gx1⟩)
      | (go_at_call 23; (with_reducible refine (rnum_s (s := (sT (sN ([], false) 1) ser)) lim (Rd8.ext (Own8.rd go1.out) (by repeat (first | exact Ext.refl _ | assumption | refine Ext.trans ?_ (by assumption) | refine Ext.alloc ?_ _ | refine Ext.drew ?_ | refine Ext.drewN ?_ _))) Qlim.out (by omega)).mono ?_); rintro e y2 ⟨j2, b2, e2, rfl, gk2, go2, gx2⟩))
  have hlen : ¬ (1024 : Int) < (j2 : Int) := by have := gk2.out; omega
  go_wp2
  go_ret2
  refine ⟨_, rfl, Own8.rd go2.out, ?_⟩
  refine Ext.trans ((Ext.refl w).alloc _) (b := w.alloc (.cells #[.int .i64 1, .string ser, .int .i64 lim, .string cat, .int .i64 ry, .int .i64 rm, .int .i64 rd, .int .i64 bp, .int .i64 dy, .int .i64 dm, .int .i64 dd, .slice a n cap, .string ofs, .int .i64 ofn, .int .i64 ses] 33)) ?_
  repeat (first | exact Ext.refl _ | assumption | refine Ext.trans ?_ (by assumption) | refine Ext.alloc ?_ _ | refine Ext.drew ?_ | refine Ext.drewN ?_ _)
set_option maxHeartbeats 4000000 in
set_option maxRecDepth 100000 in
theorem rput_1no (lim ry rm rd bp dy dm dd ofn ses : Int) (ser cat ofs : ByteArray) (a : Option Addr) (n cap : Nat) (ht : ¬ ser.size ≤ 64) (w : World) : Calls Try.prog 22 #[.agg #[.int .i64 1, .string ser, .int .i64 lim, .string cat, .int .i64 ry, .int .i64 rm, .int .i64 rd, .int .i64 bp, .int .i64 dy, .int .i64 dm, .int .i64 dd, .slice a n cap, .string ofs, .int .i64 ofn, .int .i64 ses]] w fun e w' => ∃ bv, e = .returned (.tuple #[bv, .int .i64 2]) ∧ Rd8 w' bv [] ∧ Ext w w' := by
  have HA : Hid (∀ z, Ext (w.alloc (.cells #[.int .i64 1, .string ser, .int .i64 lim, .string cat, .int .i64 ry, .int .i64 rm, .int .i64 rd, .int .i64 bp, .int .i64 dy, .int .i64 dm, .int .i64 dd, .slice a n cap, .string ofs, .int .i64 ofn, .int .i64 ses] 33)) z → Ext (w.alloc (.cells #[.int .i64 1, .string ser, .int .i64 lim, .string cat, .int .i64 ry, .int .i64 rm, .int .i64 rd, .int .i64 bp, .int .i64 dy, .int .i64 dm, .int .i64 dd, .slice a n cap, .string ofs, .int .i64 ofn, .int .i64 ses] 33)) z ∧ z.cell? ⟨w.heap.size, 0, none⟩ = some (.int .i64 1) ∧ z.cell? ⟨w.heap.size, 1, none⟩ = some (.string ser) ∧ z.cell? ⟨w.heap.size, 2, none⟩ = some (.int .i64 lim)) := Lib.hid fun z h => ⟨h, alloc_cell h 0 _ rfl, alloc_cell h 1 _ rfl, alloc_cell h 2 _ rfl⟩
  have HK : Hid (Z64 1) := Lib.hid (by unfold Z64; omega)
  have hd : decide (ser.size ≤ 64) = false := decide_eq_false ht
  have HSH : Hid (∀ x : World, Calls Try.prog 37 #[.slice (some ⟨x.heap.size, 0, none⟩) 1 1] (x.alloc (.cells #[.string ser] 9)) fun e w' => e = .returned (.bool false) ∧ x.alloc (.cells #[.string ser] 9) = w') := Lib.hid fun x => by have := short_1 ser x.heap.size 1 (x.alloc (.cells #[.string ser] 9)) (by simp [go_sem]); rwa [hd] at this
  clear ht hd
  go_enter Try.func22, Try.ntmps22
  go_wp2_with (first
    | (go_at_call 23; (with_reducible refine (rnum_s (s := ([], false)) 1 (Rd8.nil _) HK.out (by simp)).mono ?_); rintro e x1 ⟨k1, a1, c1, rfl, hk1, ho1, hx1⟩; have hz1 : w.heap.size < x1.heap.size := (Nat.lt_of_lt_of_le (by simp) hx1.size); obtain ⟨_, d0, d1, d2⟩ := HA.out _ hx1)
    | (go_at_call 37; (with_reducible refine (HSH.out _).mono ?_); rintro e x2 ⟨rfl, rfl⟩))
  go_ret2
  refine ⟨_, rfl, Rd8.nil _, ?_⟩
  refine Ext.trans ((Ext.refl w).alloc _) (b := w.alloc (.cells #[.int .i64 1, .string ser, .int .i64 lim, .string cat, .int .i64 ry, .int .i64 rm, .int .i64 rd, .int .i64 bp, .int .i64 dy, .int .i64 dm, .int .i64 dd, .slice a n cap, .string ofs, .int .i64 ofn, .int .i64 ses] 33)) ?_
  repeat (first | exact Ext.refl _ | assumption | refine Ext.trans ?_ (by assumption) | refine Ext.alloc ?_ _ | refine Ext.drew ?_ | refine Ext.drewN ?_ _)
set_option maxHeartbeats 4000000 in
set_option maxRecDepth 100000 in
theorem rput_2 (lim ry rm rd bp dy dm dd ofn ses : Int) (ser cat ofs : ByteArray) (a : Option Addr) (n cap : Nat) (ht : ser.size ≤ 64) (w : World) : Calls Try.prog 22 #[.agg #[.int .i64 2, .string ser, .int .i64 lim, .string cat, .int .i64 ry, .int .i64 rm, .int .i64 rd, .int .i64 bp, .int .i64 dy, .int .i64 dm, .int .i64 dd, .slice a n cap, .string ofs, .int .i64 ofn, .int .i64 ses]] w fun e w' => ∃ bv, e = .returned (.tuple #[bv, .int .i64 0]) ∧ Rd8 w' bv (sT (sN ([], false) 2) ser).1 ∧ Ext w w' := by
  have HA : Hid (∀ z, Ext (w.alloc (.cells #[.int .i64 2, .string ser, .int .i64 lim, .string cat, .int .i64 ry, .int .i64 rm, .int .i64 rd, .int .i64 bp, .int .i64 dy, .int .i64 dm, .int .i64 dd, .slice a n cap, .string ofs, .int .i64 ofn, .int .i64 ses] 33)) z → Ext (w.alloc (.cells #[.int .i64 2, .string ser, .int .i64 lim, .string cat, .int .i64 ry, .int .i64 rm, .int .i64 rd, .int .i64 bp, .int .i64 dy, .int .i64 dm, .int .i64 dd, .slice a n cap, .string ofs, .int .i64 ofn, .int .i64 ses] 33)) z ∧ z.cell? ⟨w.heap.size, 0, none⟩ = some (.int .i64 2) ∧ z.cell? ⟨w.heap.size, 1, none⟩ = some (.string ser)) := Lib.hid fun z h => ⟨h, alloc_cell h 0 _ rfl, alloc_cell h 1 _ rfl⟩
  have HK : Hid (Z64 2) := Lib.hid (by unfold Z64; omega)
  have hd : decide (ser.size ≤ 64) = true := decide_eq_true ht
  have HSH : Hid (∀ x : World, Calls Try.prog 37 #[.slice (some ⟨x.heap.size, 0, none⟩) 1 1] (x.alloc (.cells #[.string ser] 9)) fun e w' => e = .returned (.bool true) ∧ x.alloc (.cells #[.string ser] 9) = w') := Lib.hid fun x => by have := short_1 ser x.heap.size 1 (x.alloc (.cells #[.string ser] 9)) (by simp [go_sem]); rwa [hd] at this
  have l0 := sN_le ([], false) 2
  simp only [List.length_nil] at l0
  have l1 := sT_le (sN ([], false) 2) ser
  have tser : ser.size ≤ 64 := ht
  clear ht hd 
  go_enter Try.func22, Try.ntmps22
  go_wp2_with (first
    | (go_at_call 38; (with_reducible refine (rtext_s (s := (sN ([], false) 2)) ser tser (Rd8.ext (Own8.rd ho1.out) (by repeat (first | exact Ext.refl _ | assumption | refine Ext.trans ?_ (by assumption) | refine Ext.alloc ?_ _ | refine Ext.drew ?_ | refine Ext.drewN ?_ _))) (by omega)).mono ?_); rintro e y1 ⟨j1, b1, e1, rfl, gk1, go1, gx1⟩; have hlen : ¬ (1024 : Int) < (j1 : Int) := (by have := gk1.out; omega))
    | (go_at_call 37; (with_reducible refine (HSH.out _).mono ?_); rintro e x2 ⟨rfl, rfl⟩)
    | (go_at_call 23; (with_reducible refine (rnum_s (s := ([], false)) 2 (Rd8.nil _) HK.out (by simp)).mono ?_); rintro e x1 ⟨k1, a1, c1, rfl, hk1, ho1, hx1⟩; have hz1 : w.heap.size < x1.heap.size := (Nat.lt_of_lt_of_le (by simp) hx1.size); obtain ⟨_, d0, d1⟩ := HA.out _ hx1))
  go_ret2
  refine ⟨_, rfl, Own8.rd go1.out, ?_⟩
  refine Ext.trans ((Ext.refl w).alloc _) (b := w.alloc (.cells #[.int .i64 2, .string ser, .int .i64 lim, .string cat, .int .i64 ry, .int .i64 rm, .int .i64 rd, .int .i64 bp, .int .i64 dy, .int .i64 dm, .int .i64 dd, .slice a n cap, .string ofs, .int .i64 ofn, .int .i64 ses] 33)) ?_
  repeat (first | exact Ext.refl _ | assumption | refine Ext.trans ?_ (by assumption) | refine Ext.alloc ?_ _ | refine Ext.drew ?_ | refine Ext.drewN ?_ _)
set_option maxHeartbeats 4000000 in
set_option maxRecDepth 100000 in
theorem rput_2no (lim ry rm rd bp dy dm dd ofn ses : Int) (ser cat ofs : ByteArray) (a : Option Addr) (n cap : Nat) (ht : ¬ ser.size ≤ 64) (w : World) : Calls Try.prog 22 #[.agg #[.int .i64 2, .string ser, .int .i64 lim, .string cat, .int .i64 ry, .int .i64 rm, .int .i64 rd, .int .i64 bp, .int .i64 dy, .int .i64 dm, .int .i64 dd, .slice a n cap, .string ofs, .int .i64 ofn, .int .i64 ses]] w fun e w' => ∃ bv, e = .returned (.tuple #[bv, .int .i64 2]) ∧ Rd8 w' bv [] ∧ Ext w w' := by
  have HA : Hid (∀ z, Ext (w.alloc (.cells #[.int .i64 2, .string ser, .int .i64 lim, .string cat, .int .i64 ry, .int .i64 rm, .int .i64 rd, .int .i64 bp, .int .i64 dy, .int .i64 dm, .int .i64 dd, .slice a n cap, .string ofs, .int .i64 ofn, .int .i64 ses] 33)) z → Ext (w.alloc (.cells #[.int .i64 2, .string ser, .int .i64 lim, .string cat, .int .i64 ry, .int .i64 rm, .int .i64 rd, .int .i64 bp, .int .i64 dy, .int .i64 dm, .int .i64 dd, .slice a n cap, .string ofs, .int .i64 ofn, .int .i64 ses] 33)) z ∧ z.cell? ⟨w.heap.size, 0, none⟩ = some (.int .i64 2) ∧ z.cell? ⟨w.heap.size, 1, none⟩ = some (.string ser)) := Lib.hid fun z h => ⟨h, alloc_cell h 0 _ rfl, alloc_cell h 1 _ rfl⟩
  have HK : Hid (Z64 2) := Lib.hid (by unfold Z64; omega)
  have hd : decide (ser.size ≤ 64) = false := decide_eq_false ht
  have HSH : Hid (∀ x : World, Calls Try.prog 37 #[.slice (some ⟨x.heap.size, 0, none⟩) 1 1] (x.alloc (.cells #[.string ser] 9)) fun e w' => e = .returned (.bool false) ∧ x.alloc (.cells #[.string ser] 9) = w') := Lib.hid fun x => by have := short_1 ser x.heap.size 1 (x.alloc (.cells #[.string ser] 9)) (by simp [go_sem]); rwa [hd] at this
  clear ht hd
  go_enter Try.func22, Try.ntmps22
  go_wp2_with (first
    | (go_at_call 23; (with_reducible refine (rnum_s (s := ([], false)) 2 (Rd8.nil _) HK.out (by simp)).mono ?_); rintro e x1 ⟨k1, a1, c1, rfl, hk1, ho1, hx1⟩; have hz1 : w.heap.size < x1.heap.size := (Nat.lt_of_lt_of_le (by simp) hx1.size); obtain ⟨_, d0, d1⟩ := HA.out _ hx1)
    | (go_at_call 37; (with_reducible refine (HSH.out _).mono ?_); rintro e x2 ⟨rfl, rfl⟩))
  go_ret2
  refine ⟨_, rfl, Rd8.nil _, ?_⟩
  refine Ext.trans ((Ext.refl w).alloc _) (b := w.alloc (.cells #[.int .i64 2, .string ser, .int .i64 lim, .string cat, .int .i64 ry, .int .i64 rm, .int .i64 rd, .int .i64 bp, .int .i64 dy, .int .i64 dm, .int .i64 dd, .slice a n cap, .string ofs, .int .i64 ofn, .int .i64 ses] 33)) ?_
  repeat (first | exact Ext.refl _ | assumption | refine Ext.trans ?_ (by assumption) | refine Ext.alloc ?_ _ | refine Ext.drew ?_ | refine Ext.drewN ?_ _)
set_option maxHeartbeats 4000000 in
set_option maxRecDepth 100000 in
theorem rput_3 (lim ry rm rd bp dy dm dd ofn ses : Int) (ser cat ofs : ByteArray) (a : Option Addr) (n cap : Nat) (zry : Z64 ry) (zrm : Z64 rm) (zrd : Z64 rd) (zbp : Z64 bp) (ht : cat.size ≤ 64) (w : World) : Calls Try.prog 22 #[.agg #[.int .i64 3, .string ser, .int .i64 lim, .string cat, .int .i64 ry, .int .i64 rm, .int .i64 rd, .int .i64 bp, .int .i64 dy, .int .i64 dm, .int .i64 dd, .slice a n cap, .string ofs, .int .i64 ofn, .int .i64 ses]] w fun e w' => ∃ bv, e = .returned (.tuple #[bv, .int .i64 0]) ∧ Rd8 w' bv (sN (sD (sT (sN ([], false) 3) cat) ry rm rd) bp).1 ∧ Ext w w' := by
  have HA : Hid (∀ z, Ext (w.alloc (.cells #[.int .i64 3, .string ser, .int .i64 lim, .string cat, .int .i64 ry, .int .i64 rm, .int .i64 rd, .int .i64 bp, .int .i64 dy, .int .i64 dm, .int .i64 dd, .slice a n cap, .string ofs, .int .i64 ofn, .int .i64 ses] 33)) z → Ext (w.alloc (.cells #[.int .i64 3, .string ser, .int .i64 lim, .string cat, .int .i64 ry, .int .i64 rm, .int .i64 rd, .int .i64 bp, .int .i64 dy, .int .i64 dm, .int .i64 dd, .slice a n cap, .string ofs, .int .i64 ofn, .int .i64 ses] 33)) z ∧ z.cell? ⟨w.heap.size, 0, none⟩ = some (.int .i64 3) ∧ z.cell? ⟨w.heap.size, 3, none⟩ = some (.string cat) ∧ z.cell? ⟨w.heap.size, 4, none⟩ = some (.int .i64 ry) ∧ z.cell? ⟨w.heap.size, 5, none⟩ = some (.int .i64 rm) ∧ z.cell? ⟨w.heap.size, 6, none⟩ = some (.int .i64 rd) ∧ z.cell? ⟨w.heap.size, 7, none⟩ = some (.int .i64 bp)) := Lib.hid fun z h => ⟨h, alloc_cell h 0 _ rfl, alloc_cell h 3 _ rfl, alloc_cell h 4 _ rfl, alloc_cell h 5 _ rfl, alloc_cell h 6 _ rfl, alloc_cell h 7 _ rfl⟩
  have HK : Hid (Z64 3) := Lib.hid (by unfold Z64; omega)
  have hd : decide (cat.size ≤ 64) = true := decide_eq_true ht
  have HSH : Hid (∀ x : World, Calls Try.prog 37 #[.slice (some ⟨x.heap.size, 0, none⟩) 1 1] (x.alloc (.cells #[.string cat] 9)) fun e w' => e = .returned (.bool true) ∧ x.alloc (.cells #[.string cat] 9) = w') := Lib.hid fun x => by have := short_1 cat x.heap.size 1 (x.alloc (.cells #[.string cat] 9)) (by simp [go_sem]); rwa [hd] at this
  have Qry := Lib.hid zry
  have Qrm := Lib.hid zrm
  have Qrd := Lib.hid zrd
  have Qbp := Lib.hid zbp
  have l0 := sN_le ([], false) 3
  simp only [List.length_nil] at l0
  have l1 := sT_le (sN ([], false) 3) cat
  have l2 := sD_le (sT (sN ([], false) 3) cat) ry rm rd
  have l3 := sN_le (sD (sT (sN ([], false) 3) cat) ry rm rd) bp
  have tcat : cat.size ≤ 64 := ht
  clear ht hd zry zrm zrd zbp 
  go_enter Try.func22, Try.ntmps22
  go_wp2_with (first
    | (go_at_call 23; (with_reducible refine (rnum_s (s := ([], false)) 3 (Rd8.nil _) HK.out (by simp)).mono ?_); rintro e x1 ⟨k1, a1, c1, rfl, hk1, ho1, hx1⟩; have hz1 : w.heap.size < x1.heap.size := (Nat.lt_of_lt_of_le (by simp) hx1.size); obtain ⟨_, d0, d3, d4, d5, d6, d7⟩ := HA.out _ hx1)
    | (go_at_call 37; (with_reducible refine (HSH.out _).mono ?_); rintro e x2 ⟨rfl, rfl⟩))
  go_region_held3 (fun z => Ext (w.alloc (.cells #[.int .i64 3, .string ser, .int .i64 lim, .string cat, .int .i64 ry, .int .i64 rm, .int .i64 rd, .int .i64 bp, .int .i64 dy, .int .i64 dm, .int .i64 dd, .slice a n cap, .string ofs, .int .i64 ofn, .int .i64 ses] 33)) z ∧ z.cell? ⟨w.heap.size, 0, none⟩ = some (.int .i64 3) ∧ z.cell? ⟨w.heap.size, 3, none⟩ = some (.string cat) ∧ z.cell? ⟨w.heap.size, 4, none⟩ = some (.int .i64 ry) ∧ z.cell? ⟨w.heap.size, 5, none⟩ = some (.int .i64 rm) ∧ z.cell? ⟨w.heap.size, 6, none⟩ = some (.int .i64 rd) ∧ z.cell? ⟨w.heap.size, 7, none⟩ = some (.int .i64 bp))
    ((refine HA.out _ ?_; repeat (first | exact Ext.refl _ | assumption | refine Ext.trans ?_ (by assumption) | refine Ext.alloc ?_ _ | refine Ext.drew ?_ | refine Ext.drewN ?_ _)))
    (first
      | (go_at_call 38; (with_reducible refine (rtext_s (s := (sN ([], false) 3)) cat tcat (Rd8.ext (Own8.rd ho1.out) (by repeat (first | exact Ext.refl _ | assumption | refine Ext.trans ?_ (by assumption) | refine Ext.alloc ?_ _ | refine Ext.drew ?_ | refine Ext.drewN ?_ _))) (by omega)).mono ?_); rintro e y1 ⟨j1, b1, e1, rfl, gk1, go1, gx1⟩)
      | (go_at_call 39; (with_reducible refine (rday_s (s := (sT (sN ([], false) 3) cat)) ry rm rd (Rd8.ext (Own8.rd go1.out) (by repeat (first | exact Ext.refl _ | assumption | refine Ext.trans ?_ (by assumption) | refine Ext.alloc ?_ _ | refine Ext.drew ?_ | refine Ext.drewN ?_ _))) Qry.out Qrm.out Qrd.out (by omega)).mono ?_); rintro e y2 ⟨j2, b2, e2, rfl, gk2, go2, gx2⟩)
      | (go_at_call 23; (with_reducible refine (rnum_s (s := (sD (sT (sN ([], false) 3) cat) ry rm rd)) bp (Rd8.ext (Own8.rd go2.out) (by repeat (first | exact Ext.refl _ | assumption | refine Ext.trans ?_ (by assumption) | refine Ext.alloc ?_ _ | refine Ext.drew ?_ | refine Ext.drewN ?_ _))) Qbp.out (by omega)).mono ?_); rintro e y3 ⟨j3, b3, e3, rfl, gk3, go3, gx3⟩))
  have hlen : ¬ (1024 : Int) < (j3 : Int) := by have := gk3.out; omega
  go_wp2
  go_ret2
  refine ⟨_, rfl, Own8.rd go3.out, ?_⟩
  refine Ext.trans ((Ext.refl w).alloc _) (b := w.alloc (.cells #[.int .i64 3, .string ser, .int .i64 lim, .string cat, .int .i64 ry, .int .i64 rm, .int .i64 rd, .int .i64 bp, .int .i64 dy, .int .i64 dm, .int .i64 dd, .slice a n cap, .string ofs, .int .i64 ofn, .int .i64 ses] 33)) ?_
  repeat (first | exact Ext.refl _ | assumption | refine Ext.trans ?_ (by assumption) | refine Ext.alloc ?_ _ | refine Ext.drew ?_ | refine Ext.drewN ?_ _)
set_option maxHeartbeats 4000000 in
set_option maxRecDepth 100000 in
theorem rput_3no (lim ry rm rd bp dy dm dd ofn ses : Int) (ser cat ofs : ByteArray) (a : Option Addr) (n cap : Nat) (ht : ¬ cat.size ≤ 64) (w : World) : Calls Try.prog 22 #[.agg #[.int .i64 3, .string ser, .int .i64 lim, .string cat, .int .i64 ry, .int .i64 rm, .int .i64 rd, .int .i64 bp, .int .i64 dy, .int .i64 dm, .int .i64 dd, .slice a n cap, .string ofs, .int .i64 ofn, .int .i64 ses]] w fun e w' => ∃ bv, e = .returned (.tuple #[bv, .int .i64 2]) ∧ Rd8 w' bv [] ∧ Ext w w' := by
  have HA : Hid (∀ z, Ext (w.alloc (.cells #[.int .i64 3, .string ser, .int .i64 lim, .string cat, .int .i64 ry, .int .i64 rm, .int .i64 rd, .int .i64 bp, .int .i64 dy, .int .i64 dm, .int .i64 dd, .slice a n cap, .string ofs, .int .i64 ofn, .int .i64 ses] 33)) z → Ext (w.alloc (.cells #[.int .i64 3, .string ser, .int .i64 lim, .string cat, .int .i64 ry, .int .i64 rm, .int .i64 rd, .int .i64 bp, .int .i64 dy, .int .i64 dm, .int .i64 dd, .slice a n cap, .string ofs, .int .i64 ofn, .int .i64 ses] 33)) z ∧ z.cell? ⟨w.heap.size, 0, none⟩ = some (.int .i64 3) ∧ z.cell? ⟨w.heap.size, 3, none⟩ = some (.string cat) ∧ z.cell? ⟨w.heap.size, 4, none⟩ = some (.int .i64 ry) ∧ z.cell? ⟨w.heap.size, 5, none⟩ = some (.int .i64 rm) ∧ z.cell? ⟨w.heap.size, 6, none⟩ = some (.int .i64 rd) ∧ z.cell? ⟨w.heap.size, 7, none⟩ = some (.int .i64 bp)) := Lib.hid fun z h => ⟨h, alloc_cell h 0 _ rfl, alloc_cell h 3 _ rfl, alloc_cell h 4 _ rfl, alloc_cell h 5 _ rfl, alloc_cell h 6 _ rfl, alloc_cell h 7 _ rfl⟩
  have HK : Hid (Z64 3) := Lib.hid (by unfold Z64; omega)
  have hd : decide (cat.size ≤ 64) = false := decide_eq_false ht
  have HSH : Hid (∀ x : World, Calls Try.prog 37 #[.slice (some ⟨x.heap.size, 0, none⟩) 1 1] (x.alloc (.cells #[.string cat] 9)) fun e w' => e = .returned (.bool false) ∧ x.alloc (.cells #[.string cat] 9) = w') := Lib.hid fun x => by have := short_1 cat x.heap.size 1 (x.alloc (.cells #[.string cat] 9)) (by simp [go_sem]); rwa [hd] at this
  clear ht hd
  go_enter Try.func22, Try.ntmps22
  go_wp2_with (first
    | (go_at_call 23; (with_reducible refine (rnum_s (s := ([], false)) 3 (Rd8.nil _) HK.out (by simp)).mono ?_); rintro e x1 ⟨k1, a1, c1, rfl, hk1, ho1, hx1⟩; have hz1 : w.heap.size < x1.heap.size := (Nat.lt_of_lt_of_le (by simp) hx1.size); obtain ⟨_, d0, d3, d4, d5, d6, d7⟩ := HA.out _ hx1)
    | (go_at_call 37; (with_reducible refine (HSH.out _).mono ?_); rintro e x2 ⟨rfl, rfl⟩))
  go_ret2
  refine ⟨_, rfl, Rd8.nil _, ?_⟩
  refine Ext.trans ((Ext.refl w).alloc _) (b := w.alloc (.cells #[.int .i64 3, .string ser, .int .i64 lim, .string cat, .int .i64 ry, .int .i64 rm, .int .i64 rd, .int .i64 bp, .int .i64 dy, .int .i64 dm, .int .i64 dd, .slice a n cap, .string ofs, .int .i64 ofn, .int .i64 ses] 33)) ?_
  repeat (first | exact Ext.refl _ | assumption | refine Ext.trans ?_ (by assumption) | refine Ext.alloc ?_ _ | refine Ext.drew ?_ | refine Ext.drewN ?_ _)
set_option maxHeartbeats 4000000 in
set_option maxRecDepth 100000 in
theorem rput_5 (lim ry rm rd bp dy dm dd ofn ses : Int) (ser cat ofs : ByteArray) (a : Option Addr) (n cap : Nat) (zdy : Z64 dy) (zdm : Z64 dm) (zdd : Z64 dd) (zofn : Z64 ofn) (ht : ser.size ≤ 64 ∧ ofs.size ≤ 64) (w : World) : Calls Try.prog 22 #[.agg #[.int .i64 5, .string ser, .int .i64 lim, .string cat, .int .i64 ry, .int .i64 rm, .int .i64 rd, .int .i64 bp, .int .i64 dy, .int .i64 dm, .int .i64 dd, .slice a n cap, .string ofs, .int .i64 ofn, .int .i64 ses]] w fun e w' => ∃ bv, e = .returned (.tuple #[bv, .int .i64 0]) ∧ Rd8 w' bv (sN (sT (sD (sT (sN ([], false) 5) ser) dy dm dd) ofs) ofn).1 ∧ Ext w w' := by
  have HA : Hid (∀ z, Ext (w.alloc (.cells #[.int .i64 5, .string ser, .int .i64 lim, .string cat, .int .i64 ry, .int .i64 rm, .int .i64 rd, .int .i64 bp, .int .i64 dy, .int .i64 dm, .int .i64 dd, .slice a n cap, .string ofs, .int .i64 ofn, .int .i64 ses] 33)) z → Ext (w.alloc (.cells #[.int .i64 5, .string ser, .int .i64 lim, .string cat, .int .i64 ry, .int .i64 rm, .int .i64 rd, .int .i64 bp, .int .i64 dy, .int .i64 dm, .int .i64 dd, .slice a n cap, .string ofs, .int .i64 ofn, .int .i64 ses] 33)) z ∧ z.cell? ⟨w.heap.size, 0, none⟩ = some (.int .i64 5) ∧ z.cell? ⟨w.heap.size, 1, none⟩ = some (.string ser) ∧ z.cell? ⟨w.heap.size, 8, none⟩ = some (.int .i64 dy) ∧ z.cell? ⟨w.heap.size, 9, none⟩ = some (.int .i64 dm) ∧ z.cell? ⟨w.heap.size, 10, none⟩ = some (.int .i64 dd) ∧ z.cell? ⟨w.heap.size, 12, none⟩ = some (.string ofs) ∧ z.cell? ⟨w.heap.size, 13, none⟩ = some (.int .i64 ofn)) := Lib.hid fun z h => ⟨h, alloc_cell h 0 _ rfl, alloc_cell h 1 _ rfl, alloc_cell h 8 _ rfl, alloc_cell h 9 _ rfl, alloc_cell h 10 _ rfl, alloc_cell h 12 _ rfl, alloc_cell h 13 _ rfl⟩
  have HK : Hid (Z64 5) := Lib.hid (by unfold Z64; omega)
  have hd : decide (ser.size ≤ 64 ∧ ofs.size ≤ 64) = true := decide_eq_true ht
  have HSH : Hid (∀ x : World, Calls Try.prog 37 #[.slice (some ⟨x.heap.size, 0, none⟩) 2 2] (x.alloc (.cells #[.string ser, .string ofs] 9)) fun e w' => e = .returned (.bool true) ∧ x.alloc (.cells #[.string ser, .string ofs] 9) = w') := Lib.hid fun x => by have := short_2 ser ofs x.heap.size 2 (x.alloc (.cells #[.string ser, .string ofs] 9)) (by simp [go_sem]) (by simp [go_sem]); rwa [hd] at this
  have Qdy := Lib.hid zdy
  have Qdm := Lib.hid zdm
  have Qdd := Lib.hid zdd
  have Qofn := Lib.hid zofn
  have l0 := sN_le ([], false) 5
  simp only [List.length_nil] at l0
  have l1 := sT_le (sN ([], false) 5) ser
  have l2 := sD_le (sT (sN ([], false) 5) ser) dy dm dd
  have l3 := sT_le (sD (sT (sN ([], false) 5) ser) dy dm dd) ofs
  have l4 := sN_le (sT (sD (sT (sN ([], false) 5) ser) dy dm dd) ofs) ofn
  have tser : ser.size ≤ 64 := ht.1
  have tofs : ofs.size ≤ 64 := ht.2
  clear ht hd zdy zdm zdd zofn 
  go_enter Try.func22, Try.ntmps22
  go_wp2_with (first
    | (go_at_call 23; (with_reducible refine (rnum_s (s := ([], false)) 5 (Rd8.nil _) HK.out (by simp)).mono ?_); rintro e x1 ⟨k1, a1, c1, rfl, hk1, ho1, hx1⟩; have hz1 : w.heap.size < x1.heap.size := (Nat.lt_of_lt_of_le (by simp) hx1.size); obtain ⟨_, d0, d1, d8, d9, d10, d12, d13⟩ := HA.out _ hx1)
    | (go_at_call 37; (with_reducible refine (HSH.out _).mono ?_); rintro e x2 ⟨rfl, rfl⟩))
  go_region_held3 (fun z => Ext (w.alloc (.cells #[.int .i64 5, .string ser, .int .i64 lim, .string cat, .int .i64 ry, .int .i64 rm, .int .i64 rd, .int .i64 bp, .int .i64 dy, .int .i64 dm, .int .i64 dd, .slice a n cap, .string ofs, .int .i64 ofn, .int .i64 ses] 33)) z ∧ z.cell? ⟨w.heap.size, 0, none⟩ = some (.int .i64 5) ∧ z.cell? ⟨w.heap.size, 1, none⟩ = some (.string ser) ∧ z.cell? ⟨w.heap.size, 8, none⟩ = some (.int .i64 dy) ∧ z.cell? ⟨w.heap.size, 9, none⟩ = some (.int .i64 dm) ∧ z.cell? ⟨w.heap.size, 10, none⟩ = some (.int .i64 dd) ∧ z.cell? ⟨w.heap.size, 12, none⟩ = some (.string ofs) ∧ z.cell? ⟨w.heap.size, 13, none⟩ = some (.int .i64 ofn))
    ((refine HA.out _ ?_; repeat (first | exact Ext.refl _ | assumption | refine Ext.trans ?_ (by assumption) | refine Ext.alloc ?_ _ | refine Ext.drew ?_ | refine Ext.drewN ?_ _)))
    (first
      | (go_at_call 38; (with_reducible refine (rtext_s (s := (sN ([], false) 5)) ser tser (Rd8.ext (Own8.rd ho1.out) (by repeat (first | exact Ext.refl _ | assumption | refine Ext.trans ?_ (by assumption) | refine Ext.alloc ?_ _ | refine Ext.drew ?_ | refine Ext.drewN ?_ _))) (by omega)).mono ?_); rintro e y1 ⟨j1, b1, e1, rfl, gk1, go1, gx1⟩)
      | (go_at_call 39; (with_reducible refine (rday_s (s := (sT (sN ([], false) 5) ser)) dy dm dd (Rd8.ext (Own8.rd go1.out) (by repeat (first | exact Ext.refl _ | assumption | refine Ext.trans ?_ (by assumption) | refine Ext.alloc ?_ _ | refine Ext.drew ?_ | refine Ext.drewN ?_ _))) Qdy.out Qdm.out Qdd.out (by omega)).mono ?_); rintro e y2 ⟨j2, b2, e2, rfl, gk2, go2, gx2⟩)
      | (go_at_call 38; (with_reducible refine (rtext_s (s := (sD (sT (sN ([], false) 5) ser) dy dm dd)) ofs tofs (Rd8.ext (Own8.rd go2.out) (by repeat (first | exact Ext.refl _ | assumption | refine Ext.trans ?_ (by assumption) | refine Ext.alloc ?_ _ | refine Ext.drew ?_ | refine Ext.drewN ?_ _))) (by omega)).mono ?_); rintro e y3 ⟨j3, b3, e3, rfl, gk3, go3, gx3⟩)
      | (go_at_call 23; (with_reducible refine (rnum_s (s := (sT (sD (sT (sN ([], false) 5) ser) dy dm dd) ofs)) ofn (Rd8.ext (Own8.rd go3.out) (by repeat (first | exact Ext.refl _ | assumption | refine Ext.trans ?_ (by assumption) | refine Ext.alloc ?_ _ | refine Ext.drew ?_ | refine Ext.drewN ?_ _))) Qofn.out (by omega)).mono ?_); rintro e y4 ⟨j4, b4, e4, rfl, gk4, go4, gx4⟩))
  have hlen : ¬ (1024 : Int) < (j4 : Int) := by have := gk4.out; omega
  go_wp2
  go_ret2
  refine ⟨_, rfl, Own8.rd go4.out, ?_⟩
  refine Ext.trans ((Ext.refl w).alloc _) (b := w.alloc (.cells #[.int .i64 5, .string ser, .int .i64 lim, .string cat, .int .i64 ry, .int .i64 rm, .int .i64 rd, .int .i64 bp, .int .i64 dy, .int .i64 dm, .int .i64 dd, .slice a n cap, .string ofs, .int .i64 ofn, .int .i64 ses] 33)) ?_
  repeat (first | exact Ext.refl _ | assumption | refine Ext.trans ?_ (by assumption) | refine Ext.alloc ?_ _ | refine Ext.drew ?_ | refine Ext.drewN ?_ _)
set_option maxHeartbeats 4000000 in
set_option maxRecDepth 100000 in
theorem rput_5no (lim ry rm rd bp dy dm dd ofn ses : Int) (ser cat ofs : ByteArray) (a : Option Addr) (n cap : Nat) (ht : ¬ (ser.size ≤ 64 ∧ ofs.size ≤ 64)) (w : World) : Calls Try.prog 22 #[.agg #[.int .i64 5, .string ser, .int .i64 lim, .string cat, .int .i64 ry, .int .i64 rm, .int .i64 rd, .int .i64 bp, .int .i64 dy, .int .i64 dm, .int .i64 dd, .slice a n cap, .string ofs, .int .i64 ofn, .int .i64 ses]] w fun e w' => ∃ bv, e = .returned (.tuple #[bv, .int .i64 2]) ∧ Rd8 w' bv [] ∧ Ext w w' := by
  have HA : Hid (∀ z, Ext (w.alloc (.cells #[.int .i64 5, .string ser, .int .i64 lim, .string cat, .int .i64 ry, .int .i64 rm, .int .i64 rd, .int .i64 bp, .int .i64 dy, .int .i64 dm, .int .i64 dd, .slice a n cap, .string ofs, .int .i64 ofn, .int .i64 ses] 33)) z → Ext (w.alloc (.cells #[.int .i64 5, .string ser, .int .i64 lim, .string cat, .int .i64 ry, .int .i64 rm, .int .i64 rd, .int .i64 bp, .int .i64 dy, .int .i64 dm, .int .i64 dd, .slice a n cap, .string ofs, .int .i64 ofn, .int .i64 ses] 33)) z ∧ z.cell? ⟨w.heap.size, 0, none⟩ = some (.int .i64 5) ∧ z.cell? ⟨w.heap.size, 1, none⟩ = some (.string ser) ∧ z.cell? ⟨w.heap.size, 8, none⟩ = some (.int .i64 dy) ∧ z.cell? ⟨w.heap.size, 9, none⟩ = some (.int .i64 dm) ∧ z.cell? ⟨w.heap.size, 10, none⟩ = some (.int .i64 dd) ∧ z.cell? ⟨w.heap.size, 12, none⟩ = some (.string ofs) ∧ z.cell? ⟨w.heap.size, 13, none⟩ = some (.int .i64 ofn)) := Lib.hid fun z h => ⟨h, alloc_cell h 0 _ rfl, alloc_cell h 1 _ rfl, alloc_cell h 8 _ rfl, alloc_cell h 9 _ rfl, alloc_cell h 10 _ rfl, alloc_cell h 12 _ rfl, alloc_cell h 13 _ rfl⟩
  have HK : Hid (Z64 5) := Lib.hid (by unfold Z64; omega)
  have hd : decide (ser.size ≤ 64 ∧ ofs.size ≤ 64) = false := decide_eq_false ht
  have HSH : Hid (∀ x : World, Calls Try.prog 37 #[.slice (some ⟨x.heap.size, 0, none⟩) 2 2] (x.alloc (.cells #[.string ser, .string ofs] 9)) fun e w' => e = .returned (.bool false) ∧ x.alloc (.cells #[.string ser, .string ofs] 9) = w') := Lib.hid fun x => by have := short_2 ser ofs x.heap.size 2 (x.alloc (.cells #[.string ser, .string ofs] 9)) (by simp [go_sem]) (by simp [go_sem]); rwa [hd] at this
  clear ht hd
  go_enter Try.func22, Try.ntmps22
  go_wp2_with (first
    | (go_at_call 23; (with_reducible refine (rnum_s (s := ([], false)) 5 (Rd8.nil _) HK.out (by simp)).mono ?_); rintro e x1 ⟨k1, a1, c1, rfl, hk1, ho1, hx1⟩; have hz1 : w.heap.size < x1.heap.size := (Nat.lt_of_lt_of_le (by simp) hx1.size); obtain ⟨_, d0, d1, d8, d9, d10, d12, d13⟩ := HA.out _ hx1)
    | (go_at_call 37; (with_reducible refine (HSH.out _).mono ?_); rintro e x2 ⟨rfl, rfl⟩))
  go_ret2
  refine ⟨_, rfl, Rd8.nil _, ?_⟩
  refine Ext.trans ((Ext.refl w).alloc _) (b := w.alloc (.cells #[.int .i64 5, .string ser, .int .i64 lim, .string cat, .int .i64 ry, .int .i64 rm, .int .i64 rd, .int .i64 bp, .int .i64 dy, .int .i64 dm, .int .i64 dd, .slice a n cap, .string ofs, .int .i64 ofn, .int .i64 ses] 33)) ?_
  repeat (first | exact Ext.refl _ | assumption | refine Ext.trans ?_ (by assumption) | refine Ext.alloc ?_ _ | refine Ext.drew ?_ | refine Ext.drewN ?_ _)
set_option maxHeartbeats 4000000 in
set_option maxRecDepth 100000 in
theorem rput_6 (lim ry rm rd bp dy dm dd ofn ses : Int) (ser cat ofs : ByteArray) (a : Option Addr) (n cap : Nat) (w : World) : Calls Try.prog 22 #[.agg #[.int .i64 6, .string ser, .int .i64 lim, .string cat, .int .i64 ry, .int .i64 rm, .int .i64 rd, .int .i64 bp, .int .i64 dy, .int .i64 dm, .int .i64 dd, .slice a n cap, .string ofs, .int .i64 ofn, .int .i64 ses]] w fun e w' => ∃ bv, e = .returned (.tuple #[bv, .int .i64 0]) ∧ Rd8 w' bv (sN ([], false) 6).1 ∧ Ext w w' := by
  have HA : Hid (∀ z, Ext (w.alloc (.cells #[.int .i64 6, .string ser, .int .i64 lim, .string cat, .int .i64 ry, .int .i64 rm, .int .i64 rd, .int .i64 bp, .int .i64 dy, .int .i64 dm, .int .i64 dd, .slice a n cap, .string ofs, .int .i64 ofn, .int .i64 ses] 33)) z → Ext (w.alloc (.cells #[.int .i64 6, .string ser, .int .i64 lim, .string cat, .int .i64 ry, .int .i64 rm, .int .i64 rd, .int .i64 bp, .int .i64 dy, .int .i64 dm, .int .i64 dd, .slice a n cap, .string ofs, .int .i64 ofn, .int .i64 ses] 33)) z ∧ z.cell? ⟨w.heap.size, 0, none⟩ = some (.int .i64 6)) := Lib.hid fun z h => ⟨h, alloc_cell h 0 _ rfl⟩
  have HK : Hid (Z64 6) := Lib.hid (by unfold Z64; omega)
  have l0 := sN_le ([], false) 6
  simp only [List.length_nil] at l0
  go_enter Try.func22, Try.ntmps22
  go_wp2_with (first
    | (go_at_call 23; (with_reducible refine (rnum_s (s := ([], false)) 6 (Rd8.nil _) HK.out (by simp)).mono ?_); rintro e x1 ⟨k1, a1, c1, rfl, hk1, ho1, hx1⟩; have hz1 : w.heap.size < x1.heap.size := (Nat.lt_of_lt_of_le (by simp) hx1.size); obtain ⟨_, d0⟩ := HA.out _ hx1; have hlen : ¬ (1024 : Int) < (k1 : Int) := (by have := hk1.out; omega)))
  go_ret2
  refine ⟨_, rfl, Own8.rd ho1.out, ?_⟩
  refine Ext.trans ((Ext.refl w).alloc _) (b := w.alloc (.cells #[.int .i64 6, .string ser, .int .i64 lim, .string cat, .int .i64 ry, .int .i64 rm, .int .i64 rd, .int .i64 bp, .int .i64 dy, .int .i64 dm, .int .i64 dd, .slice a n cap, .string ofs, .int .i64 ofn, .int .i64 ses] 33)) ?_
  repeat (first | exact Ext.refl _ | assumption | refine Ext.trans ?_ (by assumption) | refine Ext.alloc ?_ _ | refine Ext.drew ?_ | refine Ext.drewN ?_ _)
set_option maxHeartbeats 4000000 in
set_option maxRecDepth 100000 in
theorem rput_7 (lim ry rm rd bp dy dm dd ofn ses : Int) (ser cat ofs : ByteArray) (a : Option Addr) (n cap : Nat) (zses : Z64 ses) (w : World) : Calls Try.prog 22 #[.agg #[.int .i64 7, .string ser, .int .i64 lim, .string cat, .int .i64 ry, .int .i64 rm, .int .i64 rd, .int .i64 bp, .int .i64 dy, .int .i64 dm, .int .i64 dd, .slice a n cap, .string ofs, .int .i64 ofn, .int .i64 ses]] w fun e w' => ∃ bv, e = .returned (.tuple #[bv, .int .i64 0]) ∧ Rd8 w' bv (sN (sN ([], false) 7) ses).1 ∧ Ext w w' := by
  have HA : Hid (∀ z, Ext (w.alloc (.cells #[.int .i64 7, .string ser, .int .i64 lim, .string cat, .int .i64 ry, .int .i64 rm, .int .i64 rd, .int .i64 bp, .int .i64 dy, .int .i64 dm, .int .i64 dd, .slice a n cap, .string ofs, .int .i64 ofn, .int .i64 ses] 33)) z → Ext (w.alloc (.cells #[.int .i64 7, .string ser, .int .i64 lim, .string cat, .int .i64 ry, .int .i64 rm, .int .i64 rd, .int .i64 bp, .int .i64 dy, .int .i64 dm, .int .i64 dd, .slice a n cap, .string ofs, .int .i64 ofn, .int .i64 ses] 33)) z ∧ z.cell? ⟨w.heap.size, 0, none⟩ = some (.int .i64 7) ∧ z.cell? ⟨w.heap.size, 14, none⟩ = some (.int .i64 ses)) := Lib.hid fun z h => ⟨h, alloc_cell h 0 _ rfl, alloc_cell h 14 _ rfl⟩
  have HK : Hid (Z64 7) := Lib.hid (by unfold Z64; omega)
  have Qses := Lib.hid zses
  have l0 := sN_le ([], false) 7
  simp only [List.length_nil] at l0
  have l1 := sN_le (sN ([], false) 7) ses
  clear zses 
  go_enter Try.func22, Try.ntmps22
  go_wp2_with (first
    | (go_at_call 23; (with_reducible refine (rnum_s (s := (sN ([], false) 7)) ses (Rd8.ext (Own8.rd ho1.out) (by repeat (first | exact Ext.refl _ | assumption | refine Ext.trans ?_ (by assumption) | refine Ext.alloc ?_ _ | refine Ext.drew ?_ | refine Ext.drewN ?_ _))) Qses.out (by omega)).mono ?_); rintro e y1 ⟨j1, b1, e1, rfl, gk1, go1, gx1⟩; have hlen : ¬ (1024 : Int) < (j1 : Int) := (by have := gk1.out; omega))
    | (go_at_call 23; (with_reducible refine (rnum_s (s := ([], false)) 7 (Rd8.nil _) HK.out (by simp)).mono ?_); rintro e x1 ⟨k1, a1, c1, rfl, hk1, ho1, hx1⟩; have hz1 : w.heap.size < x1.heap.size := (Nat.lt_of_lt_of_le (by simp) hx1.size); obtain ⟨_, d0, d14⟩ := HA.out _ hx1))
  go_ret2
  refine ⟨_, rfl, Own8.rd go1.out, ?_⟩
  refine Ext.trans ((Ext.refl w).alloc _) (b := w.alloc (.cells #[.int .i64 7, .string ser, .int .i64 lim, .string cat, .int .i64 ry, .int .i64 rm, .int .i64 rd, .int .i64 bp, .int .i64 dy, .int .i64 dm, .int .i64 dd, .slice a n cap, .string ofs, .int .i64 ofn, .int .i64 ses] 33)) ?_
  repeat (first | exact Ext.refl _ | assumption | refine Ext.trans ?_ (by assumption) | refine Ext.alloc ?_ _ | refine Ext.drew ?_ | refine Ext.drewN ?_ _)
set_option maxHeartbeats 4000000 in
set_option maxRecDepth 100000 in
theorem rput_8 (lim ry rm rd bp dy dm dd ofn ses : Int) (ser cat ofs : ByteArray) (a : Option Addr) (n cap : Nat) (ht : ser.size ≤ 64) (w : World) : Calls Try.prog 22 #[.agg #[.int .i64 8, .string ser, .int .i64 lim, .string cat, .int .i64 ry, .int .i64 rm, .int .i64 rd, .int .i64 bp, .int .i64 dy, .int .i64 dm, .int .i64 dd, .slice a n cap, .string ofs, .int .i64 ofn, .int .i64 ses]] w fun e w' => ∃ bv, e = .returned (.tuple #[bv, .int .i64 0]) ∧ Rd8 w' bv (sT (sN ([], false) 8) ser).1 ∧ Ext w w' := by
  have HA : Hid (∀ z, Ext (w.alloc (.cells #[.int .i64 8, .string ser, .int .i64 lim, .string cat, .int .i64 ry, .int .i64 rm, .int .i64 rd, .int .i64 bp, .int .i64 dy, .int .i64 dm, .int .i64 dd, .slice a n cap, .string ofs, .int .i64 ofn, .int .i64 ses] 33)) z → Ext (w.alloc (.cells #[.int .i64 8, .string ser, .int .i64 lim, .string cat, .int .i64 ry, .int .i64 rm, .int .i64 rd, .int .i64 bp, .int .i64 dy, .int .i64 dm, .int .i64 dd, .slice a n cap, .string ofs, .int .i64 ofn, .int .i64 ses] 33)) z ∧ z.cell? ⟨w.heap.size, 0, none⟩ = some (.int .i64 8) ∧ z.cell? ⟨w.heap.size, 1, none⟩ = some (.string ser)) := Lib.hid fun z h => ⟨h, alloc_cell h 0 _ rfl, alloc_cell h 1 _ rfl⟩
  have HK : Hid (Z64 8) := Lib.hid (by unfold Z64; omega)
  have hd : decide (ser.size ≤ 64) = true := decide_eq_true ht
  have HSH : Hid (∀ x : World, Calls Try.prog 37 #[.slice (some ⟨x.heap.size, 0, none⟩) 1 1] (x.alloc (.cells #[.string ser] 9)) fun e w' => e = .returned (.bool true) ∧ x.alloc (.cells #[.string ser] 9) = w') := Lib.hid fun x => by have := short_1 ser x.heap.size 1 (x.alloc (.cells #[.string ser] 9)) (by simp [go_sem]); rwa [hd] at this
  have l0 := sN_le ([], false) 8
  simp only [List.length_nil] at l0
  have l1 := sT_le (sN ([], false) 8) ser
  have tser : ser.size ≤ 64 := ht
  clear ht hd 
  go_enter Try.func22, Try.ntmps22
  go_wp2_with (first
    | (go_at_call 38; (with_reducible refine (rtext_s (s := (sN ([], false) 8)) ser tser (Rd8.ext (Own8.rd ho1.out) (by repeat (first | exact Ext.refl _ | assumption | refine Ext.trans ?_ (by assumption) | refine Ext.alloc ?_ _ | refine Ext.drew ?_ | refine Ext.drewN ?_ _))) (by omega)).mono ?_); rintro e y1 ⟨j1, b1, e1, rfl, gk1, go1, gx1⟩; have hlen : ¬ (1024 : Int) < (j1 : Int) := (by have := gk1.out; omega))
    | (go_at_call 37; (with_reducible refine (HSH.out _).mono ?_); rintro e x2 ⟨rfl, rfl⟩)
    | (go_at_call 23; (with_reducible refine (rnum_s (s := ([], false)) 8 (Rd8.nil _) HK.out (by simp)).mono ?_); rintro e x1 ⟨k1, a1, c1, rfl, hk1, ho1, hx1⟩; have hz1 : w.heap.size < x1.heap.size := (Nat.lt_of_lt_of_le (by simp) hx1.size); obtain ⟨_, d0, d1⟩ := HA.out _ hx1))
  go_ret2
  refine ⟨_, rfl, Own8.rd go1.out, ?_⟩
  refine Ext.trans ((Ext.refl w).alloc _) (b := w.alloc (.cells #[.int .i64 8, .string ser, .int .i64 lim, .string cat, .int .i64 ry, .int .i64 rm, .int .i64 rd, .int .i64 bp, .int .i64 dy, .int .i64 dm, .int .i64 dd, .slice a n cap, .string ofs, .int .i64 ofn, .int .i64 ses] 33)) ?_
  repeat (first | exact Ext.refl _ | assumption | refine Ext.trans ?_ (by assumption) | refine Ext.alloc ?_ _ | refine Ext.drew ?_ | refine Ext.drewN ?_ _)
set_option maxHeartbeats 4000000 in
set_option maxRecDepth 100000 in
theorem rput_8no (lim ry rm rd bp dy dm dd ofn ses : Int) (ser cat ofs : ByteArray) (a : Option Addr) (n cap : Nat) (ht : ¬ ser.size ≤ 64) (w : World) : Calls Try.prog 22 #[.agg #[.int .i64 8, .string ser, .int .i64 lim, .string cat, .int .i64 ry, .int .i64 rm, .int .i64 rd, .int .i64 bp, .int .i64 dy, .int .i64 dm, .int .i64 dd, .slice a n cap, .string ofs, .int .i64 ofn, .int .i64 ses]] w fun e w' => ∃ bv, e = .returned (.tuple #[bv, .int .i64 2]) ∧ Rd8 w' bv [] ∧ Ext w w' := by
  have HA : Hid (∀ z, Ext (w.alloc (.cells #[.int .i64 8, .string ser, .int .i64 lim, .string cat, .int .i64 ry, .int .i64 rm, .int .i64 rd, .int .i64 bp, .int .i64 dy, .int .i64 dm, .int .i64 dd, .slice a n cap, .string ofs, .int .i64 ofn, .int .i64 ses] 33)) z → Ext (w.alloc (.cells #[.int .i64 8, .string ser, .int .i64 lim, .string cat, .int .i64 ry, .int .i64 rm, .int .i64 rd, .int .i64 bp, .int .i64 dy, .int .i64 dm, .int .i64 dd, .slice a n cap, .string ofs, .int .i64 ofn, .int .i64 ses] 33)) z ∧ z.cell? ⟨w.heap.size, 0, none⟩ = some (.int .i64 8) ∧ z.cell? ⟨w.heap.size, 1, none⟩ = some (.string ser)) := Lib.hid fun z h => ⟨h, alloc_cell h 0 _ rfl, alloc_cell h 1 _ rfl⟩
  have HK : Hid (Z64 8) := Lib.hid (by unfold Z64; omega)
  have hd : decide (ser.size ≤ 64) = false := decide_eq_false ht
  have HSH : Hid (∀ x : World, Calls Try.prog 37 #[.slice (some ⟨x.heap.size, 0, none⟩) 1 1] (x.alloc (.cells #[.string ser] 9)) fun e w' => e = .returned (.bool false) ∧ x.alloc (.cells #[.string ser] 9) = w') := Lib.hid fun x => by have := short_1 ser x.heap.size 1 (x.alloc (.cells #[.string ser] 9)) (by simp [go_sem]); rwa [hd] at this
  clear ht hd
  go_enter Try.func22, Try.ntmps22
  go_wp2_with (first
    | (go_at_call 23; (with_reducible refine (rnum_s (s := ([], false)) 8 (Rd8.nil _) HK.out (by simp)).mono ?_); rintro e x1 ⟨k1, a1, c1, rfl, hk1, ho1, hx1⟩; have hz1 : w.heap.size < x1.heap.size := (Nat.lt_of_lt_of_le (by simp) hx1.size); obtain ⟨_, d0, d1⟩ := HA.out _ hx1)
    | (go_at_call 37; (with_reducible refine (HSH.out _).mono ?_); rintro e x2 ⟨rfl, rfl⟩))
  go_ret2
  refine ⟨_, rfl, Rd8.nil _, ?_⟩
  refine Ext.trans ((Ext.refl w).alloc _) (b := w.alloc (.cells #[.int .i64 8, .string ser, .int .i64 lim, .string cat, .int .i64 ry, .int .i64 rm, .int .i64 rd, .int .i64 bp, .int .i64 dy, .int .i64 dm, .int .i64 dd, .slice a n cap, .string ofs, .int .i64 ofn, .int .i64 ses] 33)) ?_
  repeat (first | exact Ext.refl _ | assumption | refine Ext.trans ?_ (by assumption) | refine Ext.alloc ?_ _ | refine Ext.drew ?_ | refine Ext.drewN ?_ _)
end
section

def LnS (x : Ln) : Prop := x.text.size ≤ 64 ∧ x.cat.size ≤ 64
theorem sT_flag (s : WS) (t : ByteArray) (h : s.2 = true) : (sT s t).2 = true := by
  unfold sT
  split
  · exact h
  · rfl
theorem sLn_flag (s : WS) (x : Ln) (h : s.2 = true) : (sLn s x).2 = true := sT_flag _ _ (sT_flag _ _ h)
theorem fold_flag : ∀ (ls : List Ln) (s : WS), s.2 = true → (ls.foldl sLn s).2 = true
  | [], _, h => h
  | x :: ls, s, h => fold_flag ls _ (sLn_flag s x h)
theorem sLn_short (s : WS) (x : Ln) (h : LnS x) : (sLn s x).2 = s.2 := by
  unfold sLn sT sN
  rw [if_pos h.1, if_pos h.2]
theorem fold_short : ∀ (ls : List Ln) (s : WS), (∀ x ∈ ls, LnS x) → (ls.foldl sLn s).2 = s.2
  | [], _, _ => rfl
  | x :: ls, s, h => by
    rw [List.foldl_cons, fold_short ls _ fun y hy => h y (List.mem_cons_of_mem _ hy)]
    exact sLn_short s x (h x (by simp))
theorem sLn_long (s : WS) (x : Ln) (h : ¬ LnS x) : (sLn s x).2 = true := by
  unfold sLn sN
  simp only
  by_cases h1 : x.text.size ≤ 64
  · have h2 : ¬ x.cat.size ≤ 64 := fun h2 => h ⟨h1, h2⟩
    unfold sT
    rw [if_neg h2]
  · refine sT_flag _ _ ?_
    unfold sT
    rw [if_neg h1]
theorem fold_long : ∀ (ls : List Ln) (s : WS) (x : Ln), x ∈ ls → ¬ LnS x → (ls.foldl sLn s).2 = true
  | y :: ls, s, x, hx, h => by
    rw [List.foldl_cons]
    rcases List.mem_cons.1 hx with rfl | hx
    · exact fold_flag ls _ (sLn_long s x h)
    · exact fold_long ls _ x hx h
/-- What a Put comes to, by what was written. -/
def R4 (w : World) (s : WS) (e : Ending) (w' : World) : Prop :=
  ((s.2 = true ∨ 1024 < s.1.length) ∧ ∃ bv, e = .returned (.tuple #[bv, .int .i64 2]) ∧ Rd8 w' bv [] ∧ Ext w w') ∨ (¬ (s.2 = true ∨ 1024 < s.1.length) ∧ ∃ bv, e = .returned (.tuple #[bv, .int .i64 0]) ∧ Rd8 w' bv s.1 ∧ Ext w w')
set_option maxHeartbeats 4000000 in
set_option maxRecDepth 100000 in
theorem rput_4no (lim ry rm rd bp dy dm dd ofn ses : Int) (ser cat ofs : ByteArray) (a : Option Addr) (n cap : Nat) (w : World) (ht : ¬ ser.size ≤ 64) : Calls Try.prog 22 #[.agg #[.int .i64 4, .string ser, .int .i64 lim, .string cat, .int .i64 ry, .int .i64 rm, .int .i64 rd, .int .i64 bp, .int .i64 dy, .int .i64 dm, .int .i64 dd, .slice a n cap, .string ofs, .int .i64 ofn, .int .i64 ses]] w fun e w' => ∃ bv, e = .returned (.tuple #[bv, .int .i64 2]) ∧ Rd8 w' bv [] ∧ Ext w w' := by
  have HA : Hid (∀ z, Ext (w.alloc (.cells #[.int .i64 4, .string ser, .int .i64 lim, .string cat, .int .i64 ry, .int .i64 rm, .int .i64 rd, .int .i64 bp, .int .i64 dy, .int .i64 dm, .int .i64 dd, .slice a n cap, .string ofs, .int .i64 ofn, .int .i64 ses] 33)) z → Ext (w.alloc (.cells #[.int .i64 4, .string ser, .int .i64 lim, .string cat, .int .i64 ry, .int .i64 rm, .int .i64 rd, .int .i64 bp, .int .i64 dy, .int .i64 dm, .int .i64 dd, .slice a n cap, .string ofs, .int .i64 ofn, .int .i64 ses] 33)) z ∧ z.cell? ⟨w.heap.size, 0, none⟩ = some (.int .i64 4) ∧ z.cell? ⟨w.heap.size, 1, none⟩ = some (.string ser) ∧ z.cell? ⟨w.heap.size, 8, none⟩ = some (.int .i64 dy) ∧ z.cell? ⟨w.heap.size, 9, none⟩ = some (.int .i64 dm) ∧ z.cell? ⟨w.heap.size, 10, none⟩ = some (.int .i64 dd) ∧ z.cell? ⟨w.heap.size, 11, none⟩ = some (.slice a n cap)) := Lib.hid fun z h => ⟨h, alloc_cell h 0 _ rfl, alloc_cell h 1 _ rfl, alloc_cell h 8 _ rfl, alloc_cell h 9 _ rfl, alloc_cell h 10 _ rfl, alloc_cell h 11 _ rfl⟩
  have HK : Hid (Z64 4) := Lib.hid (by unfold Z64; omega)
  have hd : decide (ser.size ≤ 64) = false := decide_eq_false ht
  have HSH : Hid (∀ x : World, Calls Try.prog 37 #[.slice (some ⟨x.heap.size, 0, none⟩) 1 1] (x.alloc (.cells #[.string ser] 9)) fun e w' => e = .returned (.bool false) ∧ x.alloc (.cells #[.string ser] 9) = w') := Lib.hid fun x => by have := short_1 ser x.heap.size 1 (x.alloc (.cells #[.string ser] 9)) (by simp [go_sem]); rwa [hd] at this
  clear ht hd
  go_enter Try.func22, Try.ntmps22
  go_wp2_with (first
    | (go_at_call 23; (with_reducible refine (rnum_s (s := ([], false)) 4 (Rd8.nil _) HK.out (by simp)).mono ?_); rintro e x1 ⟨k1, a1, c1, rfl, hk1, ho1, hx1⟩; have hz1 : w.heap.size < x1.heap.size := (Nat.lt_of_lt_of_le (by simp) hx1.size); obtain ⟨_, d0, d1, d8, d9, d10, d11⟩ := HA.out _ hx1)
    | (go_at_call 37; (with_reducible refine (HSH.out _).mono ?_); rintro e x2 ⟨rfl, rfl⟩))
  go_ret2
  refine ⟨_, rfl, Rd8.nil _, ?_⟩
  refine Ext.trans ((Ext.refl w).alloc _) (b := w.alloc (.cells #[.int .i64 4, .string ser, .int .i64 lim, .string cat, .int .i64 ry, .int .i64 rm, .int .i64 rd, .int .i64 bp, .int .i64 dy, .int .i64 dm, .int .i64 dd, .slice a n cap, .string ofs, .int .i64 ofn, .int .i64 ses] 33)) ?_
  repeat (first | exact Ext.refl _ | assumption | refine Ext.trans ?_ (by assumption) | refine Ext.alloc ?_ _ | refine Ext.drew ?_ | refine Ext.drewN ?_ _)
set_option maxHeartbeats 4000000 in
set_option maxRecDepth 100000 in
theorem rput_4many (lim ry rm rd bp dy dm dd ofn ses : Int) (ser cat ofs : ByteArray) (a : Option Addr) (n cap : Nat) (w : World) (ht : ser.size ≤ 64) (hi : (12 : Int) < (n : Int)) : Calls Try.prog 22 #[.agg #[.int .i64 4, .string ser, .int .i64 lim, .string cat, .int .i64 ry, .int .i64 rm, .int .i64 rd, .int .i64 bp, .int .i64 dy, .int .i64 dm, .int .i64 dd, .slice a n cap, .string ofs, .int .i64 ofn, .int .i64 ses]] w fun e w' => ∃ bv, e = .returned (.tuple #[bv, .int .i64 2]) ∧ Rd8 w' bv [] ∧ Ext w w' := by
  have HA : Hid (∀ z, Ext (w.alloc (.cells #[.int .i64 4, .string ser, .int .i64 lim, .string cat, .int .i64 ry, .int .i64 rm, .int .i64 rd, .int .i64 bp, .int .i64 dy, .int .i64 dm, .int .i64 dd, .slice a n cap, .string ofs, .int .i64 ofn, .int .i64 ses] 33)) z → Ext (w.alloc (.cells #[.int .i64 4, .string ser, .int .i64 lim, .string cat, .int .i64 ry, .int .i64 rm, .int .i64 rd, .int .i64 bp, .int .i64 dy, .int .i64 dm, .int .i64 dd, .slice a n cap, .string ofs, .int .i64 ofn, .int .i64 ses] 33)) z ∧ z.cell? ⟨w.heap.size, 0, none⟩ = some (.int .i64 4) ∧ z.cell? ⟨w.heap.size, 1, none⟩ = some (.string ser) ∧ z.cell? ⟨w.heap.size, 8, none⟩ = some (.int .i64 dy) ∧ z.cell? ⟨w.heap.size, 9, none⟩ = some (.int .i64 dm) ∧ z.cell? ⟨w.heap.size, 10, none⟩ = some (.int .i64 dd) ∧ z.cell? ⟨w.heap.size, 11, none⟩ = some (.slice a n cap)) := Lib.hid fun z h => ⟨h, alloc_cell h 0 _ rfl, alloc_cell h 1 _ rfl, alloc_cell h 8 _ rfl, alloc_cell h 9 _ rfl, alloc_cell h 10 _ rfl, alloc_cell h 11 _ rfl⟩
  have HK : Hid (Z64 4) := Lib.hid (by unfold Z64; omega)
  have hd : decide (ser.size ≤ 64) = true := decide_eq_true ht
  have HSH : Hid (∀ x : World, Calls Try.prog 37 #[.slice (some ⟨x.heap.size, 0, none⟩) 1 1] (x.alloc (.cells #[.string ser] 9)) fun e w' => e = .returned (.bool true) ∧ x.alloc (.cells #[.string ser] 9) = w') := Lib.hid fun x => by have := short_1 ser x.heap.size 1 (x.alloc (.cells #[.string ser] 9)) (by simp [go_sem]); rwa [hd] at this
  clear ht hd
  go_enter Try.func22, Try.ntmps22
  go_wp2_with (first
    | (go_at_call 23; (with_reducible refine (rnum_s (s := ([], false)) 4 (Rd8.nil _) HK.out (by simp)).mono ?_); rintro e x1 ⟨k1, a1, c1, rfl, hk1, ho1, hx1⟩; have hz1 : w.heap.size < x1.heap.size := (Nat.lt_of_lt_of_le (by simp) hx1.size); obtain ⟨_, d0, d1, d8, d9, d10, d11⟩ := HA.out _ hx1)
    | (go_at_call 37; (with_reducible refine (HSH.out _).mono ?_); rintro e x2 ⟨rfl, rfl⟩))
  go_ret2
  refine ⟨_, rfl, Rd8.nil _, ?_⟩
  refine Ext.trans ((Ext.refl w).alloc _) (b := w.alloc (.cells #[.int .i64 4, .string ser, .int .i64 lim, .string cat, .int .i64 ry, .int .i64 rm, .int .i64 rd, .int .i64 bp, .int .i64 dy, .int .i64 dm, .int .i64 dd, .slice a n cap, .string ofs, .int .i64 ofn, .int .i64 ses] 33)) ?_
  repeat (first | exact Ext.refl _ | assumption | refine Ext.trans ?_ (by assumption) | refine Ext.alloc ?_ _ | refine Ext.drew ?_ | refine Ext.drewN ?_ _)
set_option maxHeartbeats 8000000 in
set_option maxRecDepth 100000 in
theorem rput_4 (lim ry rm rd bp dy dm dd ofn ses : Int) (ser cat ofs : ByteArray) (a : Option Addr) (n cap : Nat) (ls : List Ln) (hn : ls.length = n) (hz : LnIn ls) (zdy : Z64 dy) (zdm : Z64 dm) (zdd : Z64 dd) (ht : ser.size ≤ 64) (hi : n ≤ 12) (w : World) (hl : SlS Ln.cells 4 w (.slice a n cap) ls) (S : WS) (hS : sN (sD (sT (sN ([], false) 4) ser) dy dm dd) n = S) : Calls Try.prog 22 #[.agg #[.int .i64 4, .string ser, .int .i64 lim, .string cat, .int .i64 ry, .int .i64 rm, .int .i64 rd, .int .i64 bp, .int .i64 dy, .int .i64 dm, .int .i64 dd, .slice a n cap, .string ofs, .int .i64 ofn, .int .i64 ses]] w (R4 w (ls.foldl sLn S)) := by
  have HA : Hid (∀ z, Ext (w.alloc (.cells #[.int .i64 4, .string ser, .int .i64 lim, .string cat, .int .i64 ry, .int .i64 rm, .int .i64 rd, .int .i64 bp, .int .i64 dy, .int .i64 dm, .int .i64 dd, .slice a n cap, .string ofs, .int .i64 ofn, .int .i64 ses] 33)) z → Ext (w.alloc (.cells #[.int .i64 4, .string ser, .int .i64 lim, .string cat, .int .i64 ry, .int .i64 rm, .int .i64 rd, .int .i64 bp, .int .i64 dy, .int .i64 dm, .int .i64 dd, .slice a n cap, .string ofs, .int .i64 ofn, .int .i64 ses] 33)) z ∧ z.cell? ⟨w.heap.size, 0, none⟩ = some (.int .i64 4) ∧ z.cell? ⟨w.heap.size, 1, none⟩ = some (.string ser) ∧ z.cell? ⟨w.heap.size, 8, none⟩ = some (.int .i64 dy) ∧ z.cell? ⟨w.heap.size, 9, none⟩ = some (.int .i64 dm) ∧ z.cell? ⟨w.heap.size, 10, none⟩ = some (.int .i64 dd) ∧ z.cell? ⟨w.heap.size, 11, none⟩ = some (.slice a n cap)) := Lib.hid fun z h => ⟨h, alloc_cell h 0 _ rfl, alloc_cell h 1 _ rfl, alloc_cell h 8 _ rfl, alloc_cell h 9 _ rfl, alloc_cell h 10 _ rfl, alloc_cell h 11 _ rfl⟩
  have HK : Hid (Z64 4) := Lib.hid (by unfold Z64; omega)
  have hd : decide (ser.size ≤ 64) = true := decide_eq_true ht
  have HSH : Hid (∀ x : World, Calls Try.prog 37 #[.slice (some ⟨x.heap.size, 0, none⟩) 1 1] (x.alloc (.cells #[.string ser] 9)) fun e w' => e = .returned (.bool true) ∧ x.alloc (.cells #[.string ser] 9) = w') := Lib.hid fun x => by have := short_1 ser x.heap.size 1 (x.alloc (.cells #[.string ser] 9)) (by simp [go_sem]); rwa [hd] at this
  have f0 : (sN (sD (sT (sN ([], false) 4) ser) dy dm dd) n).2 = false := by simp [sN, sD, sT, ht]
  have HS := Lib.hid hS
  have l0 := sN_le ([], false) 4
  simp only [List.length_nil] at l0
  have l1 := sT_le (sN ([], false) 4) ser
  have l2 := sD_le (sT (sN ([], false) 4) ser) dy dm dd
  have l3 := sN_le (sD (sT (sN ([], false) 4) ser) dy dm dd) n
  have hin : ¬ (12 : Int) < (n : Int) := by omega
  have HF0 := Lib.hid f0
  have Qdy := Lib.hid zdy
  have Qdm := Lib.hid zdm
  have Qdd := Lib.hid zdd
  have Qn : Hid (Z64 n) := Lib.hid ⟨by omega, by omega⟩
  have HL := Lib.hid hl
  have HLN := Lib.hid hz
  have HNN := Lib.hid hn
  have HW0 : Hid (Ext w (w.alloc (.cells #[.int .i64 4, .string ser, .int .i64 lim, .string cat, .int .i64 ry, .int .i64 rm, .int .i64 rd, .int .i64 bp, .int .i64 dy, .int .i64 dm, .int .i64 dd, .slice a n cap, .string ofs, .int .i64 ofn, .int .i64 ses] 33))) := Lib.hid ((Ext.refl w).alloc _)
  clear f0 hS hd zdy zdm zdd hl hz hn
  go_enter Try.func22, Try.ntmps22
  go_wp2_with (first
    | (go_at_call 23; (with_reducible refine (rnum_s (s := ([], false)) 4 (Rd8.nil _) HK.out (by simp)).mono ?_); rintro e x1 ⟨k1, a1, c1, rfl, hk1, ho1, hx1⟩; have hz1 : w.heap.size < x1.heap.size := (Nat.lt_of_lt_of_le (by simp) hx1.size); obtain ⟨_, d0, d1, d8, d9, d10, d11⟩ := HA.out _ hx1)
    | (go_at_call 37; (with_reducible refine (HSH.out _).mono ?_); rintro e x2 ⟨rfl, rfl⟩))
  go_region_held3 (fun z => Ext (w.alloc (.cells #[.int .i64 4, .string ser, .int .i64 lim, .string cat, .int .i64 ry, .int .i64 rm, .int .i64 rd, .int .i64 bp, .int .i64 dy, .int .i64 dm, .int .i64 dd, .slice a n cap, .string ofs, .int .i64 ofn, .int .i64 ses] 33)) z ∧ z.cell? ⟨w.heap.size, 0, none⟩ = some (.int .i64 4) ∧ z.cell? ⟨w.heap.size, 1, none⟩ = some (.string ser) ∧ z.cell? ⟨w.heap.size, 8, none⟩ = some (.int .i64 dy) ∧ z.cell? ⟨w.heap.size, 9, none⟩ = some (.int .i64 dm) ∧ z.cell? ⟨w.heap.size, 10, none⟩ = some (.int .i64 dd) ∧ z.cell? ⟨w.heap.size, 11, none⟩ = some (.slice a n cap))
    ((refine HA.out _ ?_; repeat (first | exact Ext.refl _ | assumption | refine Ext.trans ?_ (by assumption) | refine Ext.alloc ?_ _ | refine Ext.drew ?_ | refine Ext.drewN ?_ _)))
    (first
      | (go_at_call 38; (with_reducible refine (rtext_s (s := (sN ([], false) 4)) ser ht (Rd8.ext (Own8.rd ho1.out) (by repeat (first | exact Ext.refl _ | assumption | refine Ext.trans ?_ (by assumption) | refine Ext.alloc ?_ _ | refine Ext.drew ?_ | refine Ext.drewN ?_ _))) (by omega)).mono ?_); rintro e y1 ⟨j1, b1, e1, rfl, gk1, go1, gx1⟩)
      | (go_at_call 39; (with_reducible refine (rday_s (s := (sT (sN ([], false) 4) ser)) dy dm dd (Rd8.ext (Own8.rd go1.out) (by repeat (first | exact Ext.refl _ | assumption | refine Ext.trans ?_ (by assumption) | refine Ext.alloc ?_ _ | refine Ext.drew ?_ | refine Ext.drewN ?_ _))) Qdy.out Qdm.out Qdd.out (by omega)).mono ?_); rintro e y2 ⟨j2, b2, e2, rfl, gk2, go2, gx2⟩)
      | (go_at_call 23; (with_reducible refine (rnum_s (s := (sD (sT (sN ([], false) 4) ser) dy dm dd)) (n : Int) (Rd8.ext (Own8.rd go2.out) (by repeat (first | exact Ext.refl _ | assumption | refine Ext.trans ?_ (by assumption) | refine Ext.alloc ?_ _ | refine Ext.drew ?_ | refine Ext.drewN ?_ _))) Qn.out (by omega)).mono ?_); rintro e y3 ⟨j3, b3, e3, rfl, gk3, go3, gx3⟩))
  have hX3 : Ext (w.alloc (.cells #[.int .i64 4, .string ser, .int .i64 lim, .string cat, .int .i64 ry, .int .i64 rm, .int .i64 rd, .int .i64 bp, .int .i64 dy, .int .i64 dm, .int .i64 dd, .slice a n cap, .string ofs, .int .i64 ofn, .int .i64 ses] 33)) y3 := by repeat (first | exact Ext.refl _ | assumption | refine Ext.trans ?_ (by assumption) | refine Ext.alloc ?_ _ | refine Ext.drew ?_ | refine Ext.drewN ?_ _)
  rw [HS.out] at gk3 go3 HF0 l3
  have hsz3 : w.heap.size ≤ y2.heap.size := Nat.le_trans (Nat.le_of_lt hz1) (Ext.size (a := x1) (by repeat (first | exact Ext.refl _ | assumption | refine Ext.trans ?_ (by assumption) | refine Ext.alloc ?_ _ | refine Ext.drew ?_ | refine Ext.drewN ?_ _)))
  have G3 : Hid (Own8 5 y3 w.heap.size (.slice b3 j3 e3) S.1) := Lib.hid (own8_base go3.out hsz3)
  have hl3 : S.1.length ≤ 200 := by omega
  have hX3h := Lib.hid hX3
  clear l0 l1 l2 l3 go3 gk1 gk2 go1 go2 ho1 hk1 hX3 hx1 gx1 gx2 gx3 HSH
  go_wp2_with fail
  go_loopw [4, 5] (fun bv iv wq => ∃ (k j : Nat) (b : Option Addr) (e : Nat), k ≤ n ∧ iv = .int .i64 (k : Int) ∧ bv = .slice b j e ∧ Hid (j = ((ls.take k).foldl sLn S).1.length) ∧ Hid (Own8 5 wq w.heap.size (.slice b j e) ((ls.take k).foldl sLn S).1) ∧ Hid (∀ x ∈ ls.take k, LnS x) ∧ Hid (Ext y3 wq)) (fun _ iv _ => n - (intOf iv).toNat)
  case atStart => exact ⟨0, j3, b3, e3, by omega, rfl, rfl, gk3, G3, Lib.hid (fun x hx => by simp at hx), Lib.hid (Ext.refl _)⟩
  case round =>
    rename World => wq
    obtain ⟨k, j, b, e, hk, rfl, rfl, HJ, HO, HSM, HXQ⟩ := hrel
    have hXW := hX3h.out.trans HXQ.out
    obtain ⟨_, q0, q1, q8, q9, q10, q11⟩ := HA.out _ hXW
    have HXW := Lib.hid hXW
    have hzq : w.heap.size < wq.heap.size := Nat.lt_of_lt_of_le (by simp) hXW.size
    clear hXW q0 q1 q8 q9 q10
    by_cases hlt2 : k < n
    · have hki : (k : Int) < (n : Int) := by omega
      have hki0 : (0 : Int) ≤ (k : Int) := by omega
      have hkl : k < ls.length := by rw [HNN.out]; exact hlt2
      have hL2 := HL.out.ext (HW0.out.trans HXW.out)
      obtain ⟨br, orr, ha1, hb1, hc1⟩ := SlS.at_ Ln.len hL2 (by omega) (by decide)
      subst ha1
      have dd' := fun j hj => hc1 k hkl j hj
      obtain ⟨x, hx⟩ : ∃ x, ls[k] = x := ⟨_, rfl⟩
      have hZx := HLN.out ls[k] (List.getElem_mem hkl)
      have hmem : x ∈ ls := hx ▸ List.getElem_mem hkl
      have hstep : (ls.take (k + 1)).foldl sLn S = sLn ((ls.take k).foldl sLn S) x := by
        rw [← hx, List.take_succ_eq_append_getElem hkl, List.foldl_append]; rfl
      have htake : ls.take (k + 1) = ls.take k ++ [x] := by rw [← hx, List.take_succ_eq_append_getElem hkl]
      have hfl := fold_le (ls.take k) S
      have htk : (ls.take k).length ≤ 12 := by rw [List.length_take]; omega
      have hfl2 : ((ls.take k).foldl sLn S).1.length ≤ 3000 := by
        have : (ls.take k).length * 168 ≤ 12 * 168 := Nat.mul_le_mul_right _ htk
        omega
      rw [hx] at dd' hZx
      obtain ⟨R, hR⟩ : ∃ R, (ls.take k).foldl sLn S = R := ⟨_, rfl⟩
      rw [hR] at hstep hfl2 HJ HO
      have HST := Lib.hid hstep
      have HTK := Lib.hid htake
      obtain ⟨tx, ct, co, pr⟩ := x
      have D0 : wq.cell? ⟨br, orr + k * 4, none⟩ = some (.string tx) := dd' 0 (by decide)
      have D1 : wq.cell? ⟨br, orr + k * 4 + 1, none⟩ = some (.string ct) := dd' 1 (by decide)
      have D2 : wq.cell? ⟨br, orr + k * 4 + 2, none⟩ = some (.int .i64 co) := dd' 2 (by decide)
      have D3 : wq.cell? ⟨br, orr + k * 4 + 3, none⟩ = some (.int .i64 pr) := dd' 3 (by decide)
      have HZx := Lib.hid hZx
      have hgo : ¬ (12 : Int) < (n : Int) := by omega
      clear hZx hx dd' hstep hR hfl hL2 hc1 htake
      by_cases hts : tx.size ≤ 64 ∧ ct.size ≤ 64
      · have hd : decide (tx.size ≤ 64 ∧ ct.size ≤ 64) = true := decide_eq_true hts
        obtain ⟨ht1, ht2⟩ := hts
        have HSH : Hid (Calls Try.prog 37 #[.slice (some ⟨wq.heap.size + 1, 0, none⟩) 2 2] ((wq.alloc (.cells #[.string tx, .string ct, .int .i64 co, .int .i64 pr] 107)).alloc (.cells #[.string tx, .string ct] 9)) fun e w' => e = .returned (.bool true) ∧ (wq.alloc (.cells #[.string tx, .string ct, .int .i64 co, .int .i64 pr] 107)).alloc (.cells #[.string tx, .string ct] 9) = w') := Lib.hid (by have := short_2 tx ct (wq.heap.size + 1) 2 ((wq.alloc (.cells #[.string tx, .string ct, .int .i64 co, .int .i64 pr] 107)).alloc (.cells #[.string tx, .string ct] 9)) (by simp [go_sem]) (by simp [go_sem]); rwa [hd] at this)
        have HB : Hid (∀ z, Ext (wq.alloc (.cells #[.string tx, .string ct, .int .i64 co, .int .i64 pr] 107)) z → Ext (wq.alloc (.cells #[.string tx, .string ct, .int .i64 co, .int .i64 pr] 107)) z ∧ z.cell? ⟨wq.heap.size, 0, none⟩ = some (.string tx) ∧ z.cell? ⟨wq.heap.size, 1, none⟩ = some (.string ct) ∧ z.cell? ⟨wq.heap.size, 2, none⟩ = some (.int .i64 co) ∧ z.cell? ⟨wq.heap.size, 3, none⟩ = some (.int .i64 pr)) := Lib.hid fun z h => ⟨h, alloc_cell h 0 _ rfl, alloc_cell h 1 _ rfl, alloc_cell h 2 _ rfl, alloc_cell h 3 _ rfl⟩
        have m1 := sT_le R tx
        have m2 := sT_le (sT R tx) ct
        have m3 := sN_le (sT (sT R tx) ct) co
        have m4 := sN_le (sN (sT (sT R tx) ct) co) pr
        clear hd
        go_wp2_with (go_at_call 37; (with_reducible refine HSH.out.mono ?_); rintro e x2 ⟨rfl, rfl⟩)
        go_region_held3 (fun z => Ext (wq.alloc (.cells #[.string tx, .string ct, .int .i64 co, .int .i64 pr] 107)) z ∧ z.cell? ⟨wq.heap.size, 0, none⟩ = some (.string tx) ∧ z.cell? ⟨wq.heap.size, 1, none⟩ = some (.string ct) ∧ z.cell? ⟨wq.heap.size, 2, none⟩ = some (.int .i64 co) ∧ z.cell? ⟨wq.heap.size, 3, none⟩ = some (.int .i64 pr))
          ((refine HB.out _ ?_; repeat (first | exact Ext.refl _ | assumption | refine Ext.trans ?_ (by assumption) | refine Ext.alloc ?_ _ | refine Ext.drew ?_ | refine Ext.drewN ?_ _)))
          (first
            | (go_at_call 38; (with_reducible refine (rtext_s (s := R) tx ht1 (Rd8.ext (Own8.rd HO.out) (by repeat (first | exact Ext.refl _ | assumption | refine Ext.trans ?_ (by assumption) | refine Ext.alloc ?_ _ | refine Ext.drew ?_ | refine Ext.drewN ?_ _))) (by omega)).mono ?_); rintro e z1 ⟨p1, u1, v1, rfl, gk1, go1, gx1⟩)
            | (go_at_call 38; (with_reducible refine (rtext_s (s := sT R tx) ct ht2 (Rd8.ext (Own8.rd go1.out) (by repeat (first | exact Ext.refl _ | assumption | refine Ext.trans ?_ (by assumption) | refine Ext.alloc ?_ _ | refine Ext.drew ?_ | refine Ext.drewN ?_ _))) (by omega)).mono ?_); rintro e z2 ⟨p2, u2, v2, rfl, gk2, go2, gx2⟩)
            | (go_at_call 23; (with_reducible refine (rnum_s (s := sT (sT R tx) ct) co (Rd8.ext (Own8.rd go2.out) (by repeat (first | exact Ext.refl _ | assumption | refine Ext.trans ?_ (by assumption) | refine Ext.alloc ?_ _ | refine Ext.drew ?_ | refine Ext.drewN ?_ _))) HZx.out.1 (by omega)).mono ?_); rintro e z3 ⟨p3, u3, v3, rfl, gk3', go3', gx3'⟩)
            | (go_at_call 23; (with_reducible refine (rnum_s (s := sN (sT (sT R tx) ct) co) pr (Rd8.ext (Own8.rd go3'.out) (by repeat (first | exact Ext.refl _ | assumption | refine Ext.trans ?_ (by assumption) | refine Ext.alloc ?_ _ | refine Ext.drew ?_ | refine Ext.drewN ?_ _))) HZx.out.2 (by omega)).mono ?_); rintro e z4 ⟨p4, u4, v4, rfl, gk4, go4, gx4⟩))
        have hXz : Ext wq z3 := Ext.trans ((Ext.refl wq).alloc (.cells #[.string tx, .string ct, .int .i64 co, .int .i64 pr] 107)) (by repeat (first | exact Ext.refl _ | assumption | refine Ext.trans ?_ (by assumption) | refine Ext.alloc ?_ _ | refine Ext.drew ?_ | refine Ext.drewN ?_ _))
        have hXz4 : Ext wq z4 := hXz.trans gx4
        have HXZ := Lib.hid hXz4
        have HSM2 : Hid (∀ x ∈ ls.take (k + 1), LnS x) := Lib.hid (by
          rw [HTK.out]
          intro x hx
          rcases List.mem_append.1 hx with hx | hx
          · exact HSM.out x hx
          · rw [List.mem_singleton] at hx
            subst hx
            exact ⟨ht1, ht2⟩)
        have HOF : Hid (Own8 5 z4 w.heap.size (.slice u4 p4 v4) (sLn R ⟨tx, ct, co, pr⟩).1) := Lib.hid (own8_base go4.out (Nat.le_trans (Nat.le_of_lt hzq) hXz.size))
        have HXF : Hid (Ext y3 z4) := Lib.hid (HXQ.out.trans hXz4)
        clear hXz hXz4 go1 go2 go3' go4 gk1 gk2 gk3' gx1 gx2 gx3' gx4
        go_wp2_with fail
        go_roundw
        case rel => exact ⟨k + 1, p4, u4, v4, by omega, by simp, rfl, Lib.hid (by rw [HST.out]; exact gk4.out), Lib.hid (by rw [HST.out]; exact HOF.out), HSM2, HXF⟩
        case measure => simp [intOf]; omega
      · have hd : decide (tx.size ≤ 64 ∧ ct.size ≤ 64) = false := decide_eq_false hts
        have HSH : Hid (Calls Try.prog 37 #[.slice (some ⟨wq.heap.size + 1, 0, none⟩) 2 2] ((wq.alloc (.cells #[.string tx, .string ct, .int .i64 co, .int .i64 pr] 107)).alloc (.cells #[.string tx, .string ct] 9)) fun e w' => e = .returned (.bool false) ∧ (wq.alloc (.cells #[.string tx, .string ct, .int .i64 co, .int .i64 pr] 107)).alloc (.cells #[.string tx, .string ct] 9) = w') := Lib.hid (by have := short_2 tx ct (wq.heap.size + 1) 2 ((wq.alloc (.cells #[.string tx, .string ct, .int .i64 co, .int .i64 pr] 107)).alloc (.cells #[.string tx, .string ct] 9)) (by simp [go_sem]) (by simp [go_sem]); rwa [hd] at this)
        have HLG : Hid ((ls.foldl sLn S).2 = true) := Lib.hid (fold_long ls S _ hmem hts)
        clear hd hts
        go_wp2_with (go_at_call 37; (with_reducible refine HSH.out.mono ?_); rintro e x2 ⟨rfl, rfl⟩)
        go_ret2
        exact .inl ⟨.inl HLG.out, _, rfl, Rd8.nil _, Ext.alloc (Ext.alloc (HW0.out.trans HXW.out) _) _⟩
    · have hki : ¬ (k : Int) < (n : Int) := by omega
      obtain rfl : k = n := by omega
      have hfull : ls.take k = ls := List.take_of_length_le (by rw [HNN.out]; exact Nat.le_refl _)
      rw [hfull] at HJ HO HSM
      have HFL : Hid ((ls.foldl sLn S).2 = false) := Lib.hid (by rw [fold_short ls S HSM.out]; exact HF0.out)
      clear hfull
      by_cases hL : 1024 < j
      · have hLi : (1024 : Int) < (j : Int) := by omega
        go_wp2_with fail
        go_ret2
        exact .inl ⟨.inr (by rw [← HJ.out]; exact hL), _, rfl, Rd8.nil _, HW0.out.trans HXW.out⟩
      · have hLi : ¬ (1024 : Int) < (j : Int) := by omega
        go_wp2_with fail
        go_ret2
        exact .inr ⟨by rintro (h | h); · rw [HFL.out] at h; cases h
                       · rw [← HJ.out] at h; exact hL h, _, rfl, Own8.rd HO.out, HW0.out.trans HXW.out⟩
end
end Go.Proofs.Ytochgmpcdmahkaa
