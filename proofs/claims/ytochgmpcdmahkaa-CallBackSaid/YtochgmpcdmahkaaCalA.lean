/- Calls as texts: Encode, and the document's. (Written by genCalA.py.) -/
import Derived.Test.YtochgmpcdmahkaaCmdT
import Derived.Test.YtochgmpcdmahkaaCmdJ
import Derived.Test.YtochgmpcdmahkaaOwn2
import Derived.Deep.RegionHeld3
namespace Go.Proofs.Ytochgmpcdmahkaa
open Go.RowKit

def Cal.agg (s q : Int) (c : Cm) (lv : Value) : Value := .agg #[.int .i64 s, .int .i64 q, .int .i64 c.kd, .string c.ser, .int .i64 c.lim, .string c.cat, .int .i64 c.ry, .int .i64 c.rm, .int .i64 c.rd, .int .i64 c.bp, .int .i64 c.dy, .int .i64 c.dm, .int .i64 c.dd, lv, .string c.ofs, .int .i64 c.ofn, .int .i64 c.ses]
def caB (s q : Int) (c : Cm) (ls : List Ln) : List UInt8 := numL s ++ numL q ++ putB c ls
def caT (s q : Int) (c : Cm) (ls : List Ln) : ByteArray := if putE c ls = 0 then ⟨(caB s q c ls).toArray⟩ else ⟨#[]⟩
theorem ret_rd {P : Program} {f : FuncId} {args : Array Value} {z : World} {E : Int} {L : List UInt8} (h : Calls P f args z fun e w' => ∃ bv, e = .returned (.tuple #[bv, .int .i64 E]) ∧ Rd8 w' bv L ∧ Ext z w') : Calls P f args z fun e w' => ∃ a k c, e = .returned (.tuple #[.slice a k c, .int .i64 E]) ∧ Hid (k = L.length) ∧ Hid (Rd8 w' (.slice a k c) L) ∧ Ext z w' := by
  refine h.mono ?_
  rintro e w' ⟨bv, rfl, hr, hx⟩
  have hr0 := hr
  obtain ⟨_, _, a, c, rfl, _⟩ := hr0
  exact ⟨a, _, c, rfl, Lib.hid rfl, Lib.hid hr, hx⟩
theorem own8_nil {te : TypeId} {w : World} {B : Nat} {v : Value} {l : List UInt8} (h : Own8 te w B v ([] ++ l)) : ∃ a c, v = .slice a l.length c ∧ Own8 te w B (.slice a l.length c) l := by
  rw [List.nil_append] at h
  obtain ⟨a, c, rfl, _⟩ := own8_cap h
  exact ⟨a, c, rfl, h⟩
theorem own8_k {te : TypeId} {w : World} {B k : Nat} {v : Value} {l : List UInt8} (h : Own8 te w B v l) (hk : k = l.length) : w.ownsRow B te 1 v k (l.map bcell) := hk ▸ h
theorem rd8_src {P : Program} {w : World} {k : Nat} {v : Value} {l : List UInt8} {t e : TypeId} (ht : P.underlying t = some (.slice e)) (h : Rd8 w v l) (hk : k = l.length) : Src P 1 t v k (l.map bcell) w := by
  subst hk
  exact src_of_slr ht h (bcell_one _)
theorem putS_ls (c : Cm) (ls : List Ln) : putS c (c.ls ls) = putS c ls := by
  unfold putS Cm.ls
  by_cases h : c.kd = 4
  · rw [if_pos h]
  · rw [if_neg h]
    unfold sF
    rw [if_neg h, if_neg h]
theorem putE_ls (c : Cm) (ls : List Ln) : putE c (c.ls ls) = putE c ls ∧ putB c (c.ls ls) = putB c ls := by
  unfold putB putE
  rw [putS_ls]
  exact ⟨rfl, rfl⟩
theorem ls_in (c : Cm) {ls : List Ln} (h : LnIn ls) : LnIn (c.ls ls) := by
  unfold Cm.ls
  split
  · exact h
  · intro x hx; cases hx
theorem putB_le (c : Cm) (ls : List Ln) : (putB c ls).length ≤ 1024 := by
  unfold putB
  split
  · rename_i h
    unfold putE at h
    split at h
    · split at h
      · cases h
      · omega
    · cases h
  · simp
set_option maxHeartbeats 4000000 in
set_option maxRecDepth 100000 in
theorem rput_0 (kd lim ry rm rd bp dy dm dd ofn ses : Int) (ser cat ofs : ByteArray) (a : Option Addr) (n cap : Nat) (zkd : Z64 kd) (hk : kd < 1 ∨ 8 < kd) (w : World) : Calls Try.prog 22 #[.agg #[.int .i64 kd, .string ser, .int .i64 lim, .string cat, .int .i64 ry, .int .i64 rm, .int .i64 rd, .int .i64 bp, .int .i64 dy, .int .i64 dm, .int .i64 dd, .slice a n cap, .string ofs, .int .i64 ofn, .int .i64 ses]] w fun e w' => ∃ bv, e = .returned (.tuple #[bv, .int .i64 17]) ∧ Rd8 w' bv [] ∧ Ext w w' := by
  have HA : Hid (∀ z, Ext (w.alloc (.cells #[.int .i64 kd, .string ser, .int .i64 lim, .string cat, .int .i64 ry, .int .i64 rm, .int .i64 rd, .int .i64 bp, .int .i64 dy, .int .i64 dm, .int .i64 dd, .slice a n cap, .string ofs, .int .i64 ofn, .int .i64 ses] 33)) z → Ext (w.alloc (.cells #[.int .i64 kd, .string ser, .int .i64 lim, .string cat, .int .i64 ry, .int .i64 rm, .int .i64 rd, .int .i64 bp, .int .i64 dy, .int .i64 dm, .int .i64 dd, .slice a n cap, .string ofs, .int .i64 ofn, .int .i64 ses] 33)) z ∧ z.cell? ⟨w.heap.size, 0, none⟩ = some (.int .i64 kd)) := Lib.hid fun z h => ⟨h, alloc_cell h 0 _ rfl⟩
  have HK := Lib.hid zkd
  have e1 : (kd == 1) = false := by simp; omega
  have e2 : (kd == 2) = false := by simp; omega
  have e3 : (kd == 3) = false := by simp; omega
  have e4 : (kd == 4) = false := by simp; omega
  have e5 : (kd == 5) = false := by simp; omega
  have e6 : (kd == 6) = false := by simp; omega
  have e7 : (kd == 7) = false := by simp; omega
  have e8 : (kd == 8) = false := by simp; omega
  clear zkd hk
  go_enter Try.func22, Try.ntmps22
  go_wp2_with (go_at_call 23; (with_reducible refine (rnum_s (s := ([], false)) kd (Rd8.nil _) HK.out (by simp)).mono ?_); rintro e x1 ⟨k1, a1, c1, rfl, hk1, ho1, hx1⟩; have hz1 : w.heap.size < x1.heap.size := (Nat.lt_of_lt_of_le (by simp) hx1.size); obtain ⟨_, d0⟩ := HA.out _ hx1)
  go_ret2
  refine ⟨_, rfl, Rd8.nil _, ?_⟩
  refine Ext.trans ((Ext.refl w).alloc _) (b := w.alloc (.cells #[.int .i64 kd, .string ser, .int .i64 lim, .string cat, .int .i64 ry, .int .i64 rm, .int .i64 rd, .int .i64 bp, .int .i64 dy, .int .i64 dm, .int .i64 dd, .slice a n cap, .string ofs, .int .i64 ofn, .int .i64 ses] 33)) ?_
  repeat (first | exact Ext.refl _ | assumption | refine Ext.trans ?_ (by assumption) | refine Ext.alloc ?_ _ | refine Ext.drew ?_ | refine Ext.drewN ?_ _)
set_option maxHeartbeats 2000000 in
set_option maxRecDepth 100000 in
theorem enc_no (s q : Int) (zs : Z64 s) (zq : Z64 q) (c : Cm) (a : Option Addr) (n cap : Nat) (ls : List Ln) (hn : ls.length = n) (hm : n ≤ 1000000) (hin : c.In) (hz : LnIn ls) (w : World) (hl : SlS Ln.cells 4 w (.slice a n cap) ls) (hk : ¬ c.Ok) : Calls Try.prog 6 #[Cal.agg s q c (.slice a n cap)] w fun e w' => e = .returned (.tuple #[.string ⟨#[]⟩, .int .i64 17]) ∧ Ext w w' := by
  have HO := Lib.hid fun (z : World) => of_no c hk a n cap z
  clear hn hm hin hz hl hk zs zq
  obtain ⟨kd, ser, lim, cat, ry, rm, rd, bp, dy, dm, dd, ofs, ofn, ses⟩ := c
  simp only [Cm.agg, Cal.agg] at HO ⊢
  go_enter Try.func6, Try.ntmps6
  go_wp2_with fail
  go_at_call 13
  refine (HO.out _).mono ?_
  rintro e x1 ⟨rfl, hx1⟩
  have T_x1 : Hid (Ext w x1) := Lib.hid (Ext.trans (Ext.alloc (Ext.refl _) _) hx1)
  have Dm_x1 := Lib.hid (ext_blk hx1 (new_blk w (.cells #[.int .i64 s, .int .i64 q, .int .i64 kd, .string ser, .int .i64 lim, .string cat, .int .i64 ry, .int .i64 rm, .int .i64 rd, .int .i64 bp, .int .i64 dy, .int .i64 dm, .int .i64 dd, .slice a n cap, .string ofs, .int .i64 ofn, .int .i64 ses] 35)))
  clear hx1
  go_wp2_with fail
  go_ret2
  exact ⟨rfl, (Ext.alloc T_x1.out _)⟩
set_option maxHeartbeats 2000000 in
set_option maxRecDepth 100000 in
theorem enc_err (s q : Int) (zs : Z64 s) (zq : Z64 q) (c : Cm) (a : Option Addr) (n cap : Nat) (ls : List Ln) (hn : ls.length = n) (hm : n ≤ 1000000) (hin : c.In) (hz : LnIn ls) (w : World) (hl : SlS Ln.cells 4 w (.slice a n cap) ls) (hk : c.Ok) (hE : putE c ls = 2) : Calls Try.prog 6 #[Cal.agg s q c (.slice a n cap)] w fun e w' => e = .returned (.tuple #[.string ⟨#[]⟩, .int .i64 2]) ∧ Ext w w' := by
  have HO := Lib.hid fun (z : World) (hl : SlS Ln.cells 4 z (.slice a n cap) ls) => of_ok c hk a n cap ls hn hm z hl
  have HP := Lib.hid fun (t : TypeId) (x : Value) (z : World) (hh : Held z (.iface t x) c (c.ls ls) (c.n n)) => ret_rd (E := 2) (L := putB c ls) (by have := put_ok (ls := c.ls ls) hk hin (ls_in c hz) hh; rw [(putE_ls c ls).1, (putE_ls c ls).2] at this; rw [hE] at this; exact this)
  have HL := Lib.hid hl
  clear hn hm hin hz hl hk zs zq hE
  obtain ⟨kd, ser, lim, cat, ry, rm, rd, bp, dy, dm, dd, ofs, ofn, ses⟩ := c
  simp only [Cm.agg, Cal.agg] at HO ⊢
  go_enter Try.func6, Try.ntmps6
  go_wp2_with fail
  go_at_call 13
  refine (HO.out _ (HL.out.ext (Ext.alloc (Ext.refl _) _))).mono ?_
  rintro e x1 ⟨t, y, rfl, hh, hx1⟩
  have T_x1 : Hid (Ext w x1) := Lib.hid (Ext.trans (Ext.alloc (Ext.refl _) _) hx1)
  have Dm_x1 := Lib.hid (ext_blk hx1 (new_blk w (.cells #[.int .i64 s, .int .i64 q, .int .i64 kd, .string ser, .int .i64 lim, .string cat, .int .i64 ry, .int .i64 rm, .int .i64 rd, .int .i64 bp, .int .i64 dy, .int .i64 dm, .int .i64 dd, .slice a n cap, .string ofs, .int .i64 ofn, .int .i64 ses] 35)))
  have HH := Lib.hid hh
  have st2 := store_new (x := x1) (t := t) (y := y) (T := 52)
  clear hh
  clear hx1
  go_wp2_with fail
  go_at_call 14
  refine (HP.out t y _ (HH.out.ext (Ext.alloc (Ext.refl _) _))).mono ?_
  rintro e x2 ⟨a1, k1, c1, rfl, _, HR1, hx2⟩
  have T_x2 : Hid (Ext x1 x2) := Lib.hid (Ext.trans (Ext.alloc (Ext.refl _) _) hx2)
  have Dm_x2 := Lib.hid (ext_blk hx2 (alloc_blk Dm_x1.out))
  have Dv_x2 := Lib.hid (ext_blk hx2 (new_blk x1 (.cells #[.iface t y] 52)))
  clear hx2
  go_wp2_with fail
  go_ret2
  exact ⟨rfl, (T_x1.out.trans T_x2.out)⟩
set_option maxHeartbeats 2000000 in
set_option maxRecDepth 100000 in
theorem enc_ok (s q : Int) (zs : Z64 s) (zq : Z64 q) (c : Cm) (a : Option Addr) (n cap : Nat) (ls : List Ln) (hn : ls.length = n) (hm : n ≤ 1000000) (hin : c.In) (hz : LnIn ls) (w : World) (hl : SlS Ln.cells 4 w (.slice a n cap) ls) (hk : c.Ok) (hE : putE c ls = 0) : Calls Try.prog 6 #[Cal.agg s q c (.slice a n cap)] w fun e w' => e = .returned (.tuple #[.string ⟨(caB s q c ls).toArray⟩, .int .i64 0]) ∧ Ext w w' := by
  have HO := Lib.hid fun (z : World) (hl : SlS Ln.cells 4 z (.slice a n cap) ls) => of_ok c hk a n cap ls hn hm z hl
  have HP := Lib.hid fun (t : TypeId) (x : Value) (z : World) (hh : Held z (.iface t x) c (c.ls ls) (c.n n)) => ret_rd (E := 0) (L := putB c ls) (by have := put_ok (ls := c.ls ls) hk hin (ls_in c hz) hh; rw [(putE_ls c ls).1, (putE_ls c ls).2] at this; rw [hE] at this; exact this)
  have HL := Lib.hid hl
  unfold caB
  have HPL := Lib.hid (putB_le c ls)
  generalize putB c ls = L at *
  have HS := Lib.hid zs
  have HQ := Lib.hid zq
  clear hn hm hin hz hl hk zs zq hE
  obtain ⟨kd, ser, lim, cat, ry, rm, rd, bp, dy, dm, dd, ofs, ofn, ses⟩ := c
  simp only [Cm.agg, Cal.agg] at HO ⊢
  go_enter Try.func6, Try.ntmps6
  go_wp2_with fail
  go_at_call 13
  refine (HO.out _ (HL.out.ext (Ext.alloc (Ext.refl _) _))).mono ?_
  rintro e x1 ⟨t, y, rfl, hh, hx1⟩
  have T_x1 : Hid (Ext w x1) := Lib.hid (Ext.trans (Ext.alloc (Ext.refl _) _) hx1)
  have Dm_x1 := Lib.hid (ext_blk hx1 (new_blk w (.cells #[.int .i64 s, .int .i64 q, .int .i64 kd, .string ser, .int .i64 lim, .string cat, .int .i64 ry, .int .i64 rm, .int .i64 rd, .int .i64 bp, .int .i64 dy, .int .i64 dm, .int .i64 dd, .slice a n cap, .string ofs, .int .i64 ofn, .int .i64 ses] 35)))
  have HH := Lib.hid hh
  have st2 := store_new (x := x1) (t := t) (y := y) (T := 52)
  clear hh
  clear hx1
  go_wp2_with fail
  go_at_call 14
  refine (HP.out t y _ (HH.out.ext (Ext.alloc (Ext.refl _) _))).mono ?_
  rintro e x2 ⟨a1, k1, c1, rfl, HKL, HR1, hx2⟩
  have T_x2 : Hid (Ext x1 x2) := Lib.hid (Ext.trans (Ext.alloc (Ext.refl _) _) hx2)
  have Dm_x2 := Lib.hid (ext_blk hx2 (alloc_blk Dm_x1.out))
  have Dv_x2 := Lib.hid (ext_blk hx2 (new_blk x1 (.cells #[.iface t y] 52)))
  obtain ⟨cm_x2_0, fm_x2_0⟩ := blkG Dm_x2.out 0 (.int .i64 s) rfl
  obtain ⟨cm_x2_1, fm_x2_1⟩ := blkG Dm_x2.out 1 (.int .i64 q) rfl
  have zm_x2 := blk_lt Dm_x2.out
  clear hx2
  have hX0 := (T_x1.out.trans T_x2.out)
  have HA : Hid (∀ z, Ext x2 z → Ext x2 z ∧ z.cell? ⟨w.heap.size, 0, none⟩ = some (.int .i64 s) ∧ z.cell? ⟨w.heap.size, 1, none⟩ = some (.int .i64 q)) := Lib.hid fun z hz => ⟨hz, (blkG (ext_blk hz Dm_x2.out) 0 _ rfl).1, (blkG (ext_blk hz Dm_x2.out) 1 _ rfl).1⟩
  have ln1 := numL_le s
  have ln2 := numL_le q
  have hkl : k1 ≤ 1024 := by rw [HKL.out]; exact HPL.out
  have HB2 : Hid (∀ k, k = (numL s ++ numL q).length → k ≤ 20) := Lib.hid (by intro k hk; rw [hk, List.length_append]; omega)
  have HA8 : Hid (∀ k2 k1 : Nat, k2 ≤ 20 → k1 ≤ 1024 → k2 + k1 ≤ maxLen) := Lib.hid (by intro k2 k1 h1 h2; unfold maxLen; omega)
  have HA9 : Hid (∀ k2 k1 : Nat, k2 ≤ 20 → k1 ≤ 1024 → (k2 + k1) * 1 ≤ 140737488355328) := Lib.hid (by intro k2 k1 h1 h2; omega)
  obtain ⟨i0, hi, iz0, iz1, iz2⟩ := info_parts Try.infoU8
  have nx := fun (v : Value) (l : List UInt8) (n : Int) (z : World) (hr : Rd8 z v l) (hn : Z64 n) (hb : l.length ≤ 100) => num_any v l n z hr hn.1 hn.2 (by omega)
  have HNX := Lib.hid nx
  have HZX := Lib.hid hX0
  clear nx hX0
  go_wp2_with fail
  go_region_law
    (first
      | (go_simp; go_at_call 15; (with_reducible refine (HNX.out _ (numL s) q _ (Own8.rd ho1.out) HQ.out (by omega)).mono ?_); rintro e y2 ⟨v2, hv2, ho2, hy2⟩; subst hv2; obtain ⟨k2, a2, c2, hk2, rfl⟩ := own8_len ho2; have HO2 := Lib.hid ho2; have HK2 := Lib.hid hk2; have hb2 := HB2.out k2 hk2; have hle2 : (x2).heap.size ≤ y1.heap.size := hy1.size; have hx2' : Ext x2 y2 := Ext.trans (Ext.drew (Ext.refl _)) (hy1.trans hy2); clear ho2 hk2)
      | (go_simp; go_at_call 15; (with_reducible refine (HNX.out _ [] s _ (Rd8.nil _) HS.out (by simp)).mono ?_); rintro e y1 ⟨v1, hv1, hq1, hy1⟩; subst hv1; obtain ⟨a0, c0, rfl, hq2⟩ := own8_nil hq1; have ho1 := Lib.hid hq2; obtain ⟨_, _, e1y⟩ := HA.out y1 (Ext.trans (Ext.drew (Ext.refl _)) hy1); clear hq1 hq2)
      | (refine step_own_src2 _ (by rfl) _ _ _ _ (by rfl) y1.heap.size 5 i0 _ 1 1 Try.underlying55 hi iz0 iz1 iz2 rfl (by decide) (.slice a2 k2 c2) (.slice a1 k1 c1) k2 k1 _ (L.map bcell) (own8_k HO2.out HK2.out) (rd8_src (P := Try.prog) Try.underlying55 (Rd8.ext HR1.out hx2') HKL.out) (by rfl) (by rfl) (HA8.out _ _ hb2 hkl) (HA9.out _ _ hb2 hkl) hy2.size ?_; intro v3 y3 ho3 hb3 _; have h8 : Own8 5 y3 y1.heap.size v3 (numL s ++ numL q ++ L) := own8_of ho3 (by rw [HK2.out, HKL.out]; simp; omega) (by simp); have hcv := run_conv_str (P := Try.prog) y3 55 9 5 Try.underlying55 Try.underlying5 Try.underlying9 _ v3 _ (Own8.rd h8); have hx3 : Ext x2 y3 := Below.trans hx2' (Below.mono hb3 hle2))
      | fail)
  all_goals
    have hF := HZX.out.trans hx3
    clear hcv
    go_wp2_with fail
    go_ret2
    refine ⟨?_, hF⟩
    rw [List.append_assoc]
    rfl
set_option maxHeartbeats 2000000 in
set_option maxRecDepth 100000 in
theorem renc_no (s q : Int) (zs : Z64 s) (zq : Z64 q) (c : Cm) (a : Option Addr) (n cap : Nat) (ls : List Ln) (hn : ls.length = n) (hm : n ≤ 1000000) (hin : c.In) (hz : LnIn ls) (w : World) (hl : SlS Ln.cells 4 w (.slice a n cap) ls) (hk : ¬ c.Ok) : Calls Try.prog 8 #[Cal.agg s q c (.slice a n cap)] w fun e w' => e = .returned (.tuple #[.string ⟨#[]⟩, .int .i64 17]) ∧ Ext w w' := by
  have HO := Lib.hid fun (z : World) => ret_rd (rput_0 c.kd c.lim c.ry c.rm c.rd c.bp c.dy c.dm c.dd c.ofn c.ses c.ser c.cat c.ofs a n cap hin.kd (by unfold Cm.Ok at hk; omega) z)
  clear hn hm hin hz hl hk zs zq
  obtain ⟨kd, ser, lim, cat, ry, rm, rd, bp, dy, dm, dd, ofs, ofn, ses⟩ := c
  simp only [Cm.agg, Cal.agg] at HO ⊢
  go_enter Try.func8, Try.ntmps8
  go_wp2_with fail
  go_at_call 22
  refine (HO.out _).mono ?_
  rintro e x1 ⟨a1, k1, c1, rfl, _, _, hx1⟩
  have T_x1 : Hid (Ext w x1) := Lib.hid (Ext.trans (Ext.alloc (Ext.refl _) _) hx1)
  have Dm_x1 := Lib.hid (ext_blk hx1 (new_blk w (.cells #[.int .i64 s, .int .i64 q, .int .i64 kd, .string ser, .int .i64 lim, .string cat, .int .i64 ry, .int .i64 rm, .int .i64 rd, .int .i64 bp, .int .i64 dy, .int .i64 dm, .int .i64 dd, .slice a n cap, .string ofs, .int .i64 ofn, .int .i64 ses] 35)))
  clear hx1
  go_wp2_with fail
  go_ret2
  exact ⟨rfl, T_x1.out⟩
set_option maxHeartbeats 2000000 in
set_option maxRecDepth 100000 in
theorem renc_err (s q : Int) (zs : Z64 s) (zq : Z64 q) (c : Cm) (a : Option Addr) (n cap : Nat) (ls : List Ln) (hn : ls.length = n) (hm : n ≤ 1000000) (hin : c.In) (hz : LnIn ls) (w : World) (hl : SlS Ln.cells 4 w (.slice a n cap) ls) (hk : c.Ok) (hE : putE c ls = 2) : Calls Try.prog 8 #[Cal.agg s q c (.slice a n cap)] w fun e w' => e = .returned (.tuple #[.string ⟨#[]⟩, .int .i64 2]) ∧ Ext w w' := by
  have HR := Lib.hid fun (z : World) (hl : SlS Ln.cells 4 z (.slice a n cap) ls) => ret_rd (E := 2) (L := putB c ls) (by have := rput_ok c hk hin a n cap ls hn hz z hl; rw [hE] at this; exact this)
  have HL := Lib.hid hl
  clear hn hm hin hz hl hk zs zq hE
  obtain ⟨kd, ser, lim, cat, ry, rm, rd, bp, dy, dm, dd, ofs, ofn, ses⟩ := c
  simp only [Cm.agg, Cal.agg] at HR ⊢
  go_enter Try.func8, Try.ntmps8
  go_wp2_with fail
  go_at_call 22
  refine (HR.out _ (HL.out.ext (Ext.alloc (Ext.refl _) _))).mono ?_
  rintro e x1 ⟨a1, k1, c1, rfl, _, _, hx1⟩
  have T_x1 : Hid (Ext w x1) := Lib.hid (Ext.trans (Ext.alloc (Ext.refl _) _) hx1)
  have Dm_x1 := Lib.hid (ext_blk hx1 (new_blk w (.cells #[.int .i64 s, .int .i64 q, .int .i64 kd, .string ser, .int .i64 lim, .string cat, .int .i64 ry, .int .i64 rm, .int .i64 rd, .int .i64 bp, .int .i64 dy, .int .i64 dm, .int .i64 dd, .slice a n cap, .string ofs, .int .i64 ofn, .int .i64 ses] 35)))
  clear hx1
  go_wp2_with fail
  go_ret2
  exact ⟨rfl, T_x1.out⟩
set_option maxHeartbeats 2000000 in
set_option maxRecDepth 100000 in
theorem renc_ok (s q : Int) (zs : Z64 s) (zq : Z64 q) (c : Cm) (a : Option Addr) (n cap : Nat) (ls : List Ln) (hn : ls.length = n) (hm : n ≤ 1000000) (hin : c.In) (hz : LnIn ls) (w : World) (hl : SlS Ln.cells 4 w (.slice a n cap) ls) (hk : c.Ok) (hE : putE c ls = 0) : Calls Try.prog 8 #[Cal.agg s q c (.slice a n cap)] w fun e w' => e = .returned (.tuple #[.string ⟨(caB s q c ls).toArray⟩, .int .i64 0]) ∧ Ext w w' := by
  have HR := Lib.hid fun (z : World) (hl : SlS Ln.cells 4 z (.slice a n cap) ls) => ret_rd (E := 0) (L := putB c ls) (by have := rput_ok c hk hin a n cap ls hn hz z hl; rw [hE] at this; exact this)
  have HL := Lib.hid hl
  unfold caB
  have HPL := Lib.hid (putB_le c ls)
  generalize putB c ls = L at *
  have HS := Lib.hid zs
  have HQ := Lib.hid zq
  clear hn hm hin hz hl hk zs zq hE
  obtain ⟨kd, ser, lim, cat, ry, rm, rd, bp, dy, dm, dd, ofs, ofn, ses⟩ := c
  simp only [Cm.agg, Cal.agg] at HR ⊢
  go_enter Try.func8, Try.ntmps8
  go_wp2_with fail
  go_at_call 22
  refine (HR.out _ (HL.out.ext (Ext.alloc (Ext.refl _) _))).mono ?_
  rintro e x1 ⟨a1, k1, c1, rfl, HKL, HR1, hx1⟩
  have T_x1 : Hid (Ext w x1) := Lib.hid (Ext.trans (Ext.alloc (Ext.refl _) _) hx1)
  have Dm_x1 := Lib.hid (ext_blk hx1 (new_blk w (.cells #[.int .i64 s, .int .i64 q, .int .i64 kd, .string ser, .int .i64 lim, .string cat, .int .i64 ry, .int .i64 rm, .int .i64 rd, .int .i64 bp, .int .i64 dy, .int .i64 dm, .int .i64 dd, .slice a n cap, .string ofs, .int .i64 ofn, .int .i64 ses] 35)))
  obtain ⟨cm_x1_0, fm_x1_0⟩ := blkG Dm_x1.out 0 (.int .i64 s) rfl
  obtain ⟨cm_x1_1, fm_x1_1⟩ := blkG Dm_x1.out 1 (.int .i64 q) rfl
  have zm_x1 := blk_lt Dm_x1.out
  clear hx1
  have hX0 := T_x1.out
  have HA : Hid (∀ z, Ext x1 z → Ext x1 z ∧ z.cell? ⟨w.heap.size, 0, none⟩ = some (.int .i64 s) ∧ z.cell? ⟨w.heap.size, 1, none⟩ = some (.int .i64 q)) := Lib.hid fun z hz => ⟨hz, (blkG (ext_blk hz Dm_x1.out) 0 _ rfl).1, (blkG (ext_blk hz Dm_x1.out) 1 _ rfl).1⟩
  have ln1 := numL_le s
  have ln2 := numL_le q
  have hkl : k1 ≤ 1024 := by rw [HKL.out]; exact HPL.out
  have HB2 : Hid (∀ k, k = (numL s ++ numL q).length → k ≤ 20) := Lib.hid (by intro k hk; rw [hk, List.length_append]; omega)
  have HA8 : Hid (∀ k2 k1 : Nat, k2 ≤ 20 → k1 ≤ 1024 → k2 + k1 ≤ maxLen) := Lib.hid (by intro k2 k1 h1 h2; unfold maxLen; omega)
  have HA9 : Hid (∀ k2 k1 : Nat, k2 ≤ 20 → k1 ≤ 1024 → (k2 + k1) * 1 ≤ 140737488355328) := Lib.hid (by intro k2 k1 h1 h2; omega)
  obtain ⟨i0, hi, iz0, iz1, iz2⟩ := info_parts Try.infoU8
  have nx := fun (v : Value) (l : List UInt8) (n : Int) (z : World) (hr : Rd8 z v l) (hn : Z64 n) (hb : l.length ≤ 100) => refnum_any v l n z hr hn.1 hn.2 (by omega)
  have HNX := Lib.hid nx
  have HZX := Lib.hid hX0
  clear nx hX0
  go_wp2_with fail
  go_region_law
    (first
      | (go_simp; go_at_call 23; (with_reducible refine (HNX.out _ (numL s) q _ (Own8.rd ho1.out) HQ.out (by omega)).mono ?_); rintro e y2 ⟨v2, hv2, ho2, hy2⟩; subst hv2; obtain ⟨k2, a2, c2, hk2, rfl⟩ := own8_len ho2; have HO2 := Lib.hid ho2; have HK2 := Lib.hid hk2; have hb2 := HB2.out k2 hk2; have hle2 : (x1).heap.size ≤ y1.heap.size := hy1.size; have hx2' : Ext x1 y2 := Ext.trans (Ext.drew (Ext.refl _)) (hy1.trans hy2); clear ho2 hk2)
      | (go_simp; go_at_call 23; (with_reducible refine (HNX.out _ [] s _ (Rd8.nil _) HS.out (by simp)).mono ?_); rintro e y1 ⟨v1, hv1, hq1, hy1⟩; subst hv1; obtain ⟨a0, c0, rfl, hq2⟩ := own8_nil hq1; have ho1 := Lib.hid hq2; obtain ⟨_, _, e1y⟩ := HA.out y1 (Ext.trans (Ext.drew (Ext.refl _)) hy1); clear hq1 hq2)
      | (refine step_own_src2 _ (by rfl) _ _ _ _ (by rfl) y1.heap.size 5 i0 _ 1 1 Try.underlying55 hi iz0 iz1 iz2 rfl (by decide) (.slice a2 k2 c2) (.slice a1 k1 c1) k2 k1 _ (L.map bcell) (own8_k HO2.out HK2.out) (rd8_src (P := Try.prog) Try.underlying55 (Rd8.ext HR1.out hx2') HKL.out) (by rfl) (by rfl) (HA8.out _ _ hb2 hkl) (HA9.out _ _ hb2 hkl) hy2.size ?_; intro v3 y3 ho3 hb3 _; have h8 : Own8 5 y3 y1.heap.size v3 (numL s ++ numL q ++ L) := own8_of ho3 (by rw [HK2.out, HKL.out]; simp; omega) (by simp); have hcv := run_conv_str (P := Try.prog) y3 55 9 5 Try.underlying55 Try.underlying5 Try.underlying9 _ v3 _ (Own8.rd h8); have hx3 : Ext x1 y3 := Below.trans hx2' (Below.mono hb3 hle2))
      | fail)
  all_goals
    have hF := HZX.out.trans hx3
    clear hcv
    go_wp2_with fail
    go_ret2
    refine ⟨?_, hF⟩
    rw [List.append_assoc]
    rfl
theorem enc_any (s q : Int) (zs : Z64 s) (zq : Z64 q) (c : Cm) (a : Option Addr) (n cap : Nat) (ls : List Ln) (hn : ls.length = n) (hm : n ≤ 1000000) (hin : c.In) (hz : LnIn ls) (w : World) (hl : SlS Ln.cells 4 w (.slice a n cap) ls) : Calls Try.prog 6 #[Cal.agg s q c (.slice a n cap)] w fun e w' => e = .returned (.tuple #[.string (caT s q c ls), .int .i64 (putE c ls)]) ∧ Ext w w' := by
  unfold caT
  rcases putE_cases c ls with ⟨hk, hE⟩ | ⟨hk, hE⟩ | ⟨hk, hE⟩
  · rw [hE, if_pos rfl]
    exact enc_ok s q zs zq c a n cap ls hn hm hin hz w hl hk hE
  · rw [hE, if_neg (by decide)]
    exact enc_err s q zs zq c a n cap ls hn hm hin hz w hl hk hE
  · rw [hE, if_neg (by decide)]
    exact enc_no s q zs zq c a n cap ls hn hm hin hz w hl hk
theorem renc_any (s q : Int) (zs : Z64 s) (zq : Z64 q) (c : Cm) (a : Option Addr) (n cap : Nat) (ls : List Ln) (hn : ls.length = n) (hm : n ≤ 1000000) (hin : c.In) (hz : LnIn ls) (w : World) (hl : SlS Ln.cells 4 w (.slice a n cap) ls) : Calls Try.prog 8 #[Cal.agg s q c (.slice a n cap)] w fun e w' => e = .returned (.tuple #[.string (caT s q c ls), .int .i64 (putE c ls)]) ∧ Ext w w' := by
  unfold caT
  rcases putE_cases c ls with ⟨hk, hE⟩ | ⟨hk, hE⟩ | ⟨hk, hE⟩
  · rw [hE, if_pos rfl]
    exact renc_ok s q zs zq c a n cap ls hn hm hin hz w hl hk hE
  · rw [hE, if_neg (by decide)]
    exact renc_err s q zs zq c a n cap ls hn hm hin hz w hl hk hE
  · rw [hE, if_neg (by decide)]
    exact renc_no s q zs zq c a n cap ls hn hm hin hz w hl hk
end Go.Proofs.Ytochgmpcdmahkaa
