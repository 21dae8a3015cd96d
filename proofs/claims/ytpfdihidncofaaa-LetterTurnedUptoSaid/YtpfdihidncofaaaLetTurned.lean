/- The law LetterTurned: the walk. (Written by genTurned.py.) -/
import Derived.Test.YtpfdihidncofaaaLetGets
import Derived.Test.YtpfdihidncofaaaLetPuts
import Derived.Test.YtpfdihidncofaaaLetQ
import Derived.Test.YtpfdihidncofaaaLetV
import Derived.Test.YtpfdihidncofaaaWithin
import Derived.Test.YtpfdihidncofaaaCopy
namespace Go.Proofs.Ytpfdihidncofaaa
open Go.RowKit

theorem within_j (n : Int) (k : Nat) (hk : 0 < k) (hk2 : k ≤ 4611686018427387904) (w : World) : Calls Try.prog 22 #[.int .i64 n, .int .i64 0, .int .i64 ((k : Int) - 1)] w fun e w' => ∃ j : Nat, e = .returned (.int .i64 (j : Int)) ∧ j < k ∧ Ext w w' := by
  have hb := withI_bd n 0 ((k : Int) - 1) (by omega)
  refine (within_any n 0 ((k : Int) - 1) w (by omega) (by omega) (by omega)).mono ?_
  rintro e w' ⟨rfl, rfl⟩
  refine ⟨(withI n 0 ((k : Int) - 1)).toNat, ?_, by omega, Ext.refl _⟩
  rw [Int.toNat_of_nonneg hb.1]
theorem ltL_pos (m : Lt) (es : List Ent) : 0 < (ltL m es).length := by
  have := (numL_len m.kind).1
  rw [ltL, startL, headL, List.flatMap_cons]
  simp only [List.length_append]
  omega
theorem ltL_small {m : Lt} {es : List Ent} (h : SmallL m es) : (ltL m es).length ≤ 30000000 := by
  have := SmallL.mid h es.length
  rwa [List.take_length] at this
theorem put_form {te : TypeId} {w : World} {B : Nat} {v : Value} {l : List UInt8} (h : Own8 te w B v l) (hp : 0 < l.length) : ∃ g c, v = .slice (some ⟨g, 0, none⟩) l.length c ∧ l.length ≤ c := by
  obtain ⟨h1, h2⟩ := h
  rcases h2 with ⟨rfl, h0⟩ | ⟨g, cap, cur, rfl, hg, hh, hn, hcap, hsz, ht⟩
  · omega
  · exact ⟨g, cap, rfl, hn⟩
theorem rput_form {m : Lt} {a : Option Addr} {c n : Nat} {es : List Ent} (hn : es.length = n) (w : World) (hl : SlS Ent.cells 3 w (.slice a n c) es) (hsm : SmallL m es) : Calls Try.prog 16 #[m.agg (.slice a n c)] w fun e w' => ∃ g c', e = .returned (.slice (some ⟨g, 0, none⟩) (ltL m es).length c') ∧ (ltL m es).length ≤ c' ∧ Own8 5 w' w.heap.size (.slice (some ⟨g, 0, none⟩) (ltL m es).length c') (ltL m es) ∧ Ext w w' := by
  refine (refPut_any m a c n es hn w hl hsm).mono ?_
  rintro e w' ⟨v, rfl, ho, hx⟩
  obtain ⟨g, c', rfl, h⟩ := put_form ho (ltL_pos m es)
  exact ⟨g, c', rfl, h, ho, hx⟩
theorem own8_k {te : TypeId} {w : World} {B k : Nat} {v : Value} {l : List UInt8} (h : Own8 te w B v l) (hk : k = l.length) : w.ownsRow B te 1 v k (l.map bcell) := hk ▸ h
/-- Both readings of the same bytes. -/
theorem both (bs : List UInt8) (hb : bs.length ≤ 140737488355328) : ∃ (g : Lt) (eg : List Ent) (err : Int) (q : Nat), eg.length = q ∧
    (∀ v z, Rd8 z v bs → Calls Try.prog 10 #[v] z fun e w' => ∃ a c, e = .returned (.tuple #[g.agg (.slice a q c), .int .i64 err]) ∧ OwnS Ent.cells 3 36 w' z.heap.size (.slice a q c) eg ∧ Ext z w') ∧
    (∀ v z, Rd8 z v bs → Calls Try.prog 20 #[v] z fun e w' => ∃ a c, e = .returned (.tuple #[g.agg (.slice a q c), .int .i64 err]) ∧ OwnS Ent.cells 3 36 w' z.heap.size (.slice a q c) eg ∧ Ext z w') ∧
    (∀ a a' c c' z, SlS Ent.cells 3 z (.slice a q c) eg → SlS Ent.cells 3 z (.slice a' q c') eg → Calls Try.prog 12 #[g.agg (.slice a q c), g.agg (.slice a' q c')] z fun e w' => e = .returned (.bool true) ∧ Ext z w') := by
  obtain ⟨g, eg, err, hG⟩ := get_total bs
  have hn8 := get_len hG
  refine ⟨g, eg, err, eg.length, rfl, fun v z hr => get_is v bs g eg err hG z hr hb, fun v z hr => rget_is v bs g eg err hG z hr hb, fun a a' c c' z h1 h2 => (lsame_yes g a a' c c' _ eg rfl z h1 h2 (by omega)).mono fun e w' h => ?_⟩
  exact h
set_option maxHeartbeats 4000000 in
set_option maxRecDepth 100000 in
theorem lturn_0 (m : Lt) (a : Option Addr) (n n2 c : Nat) (es : List Ent) (hf : ∀ z, Calls Try.prog 13 #[m.agg (.slice a n c)] z fun e w' => e = .returned (m.agg (.slice a n2 c)) ∧ Ext z w') (hn : es.length = n2) (hsm : SmallL m es) (at0 how : Int) (to : UInt8) (w : World) (hl : SlS Ent.cells 3 w (.slice a n2 c) es) (hW : ∀ z, Calls Try.prog 22 #[.int .i64 how, .int .i64 0, .int .i64 2] z fun e w' => e = .returned (.int .i64 0) ∧ z = w') : Calls Try.prog 6 #[m.agg (.slice a n c), .int .i64 at0, bcell to, .int .i64 how] w fun e w' => e = .returned (.bool true) ∧ Ext w w' := by
  have hpos := ltL_pos m es
  have hsml := ltL_small hsm
  have HP := Lib.hid fun (z : World) (hl : SlS Ent.cells 3 z (.slice a n2 c) es) => rput_form hn z hl hsm
  have HB : Hid (∀ bs : List UInt8, bs.length ≤ 140737488355328 → _) := Lib.hid both
  generalize ltL m es = L at *
  obtain ⟨p, hp⟩ : ∃ p, L.length = p := ⟨_, rfl⟩
  rw [hp] at HP hpos hsml
  have HL := Lib.hid hl
  have HF := Lib.hid hf
  have HW := Lib.hid hW
  have HPL := Lib.hid hp
  clear hf hn hsm hl hW hp
  obtain ⟨kind, fr, to_, te, ix, at_, co, me, off, sz, yes, data⟩ := m
  simp only [Lt.agg] at HF HP ⊢
  unfold bcell
  go_enter Try.func6, Try.ntmps6
  go_wp2_with fail
  go_at_call 13
  refine (HF.out _).mono ?_
  rintro e x1 ⟨rfl, hx1⟩
  have T_x1 : Hid (Ext w x1) := Lib.hid (Ext.trans (Ext.alloc (Ext.refl _) _) hx1)
  have Dm_x1 := Lib.hid (ext_blk hx1 (new_blk w (.cells #[.int .i64 kind, .int .i64 fr, .int .i64 to_, .int .i64 te, .int .i64 ix, .int .i64 at_, .int .i64 co, .int .i64 me, .int .i64 off, .int .i64 sz, .bool yes, .string data, .slice a n c] 24)))
  clear hx1
  go_wp2_with fail
  go_at_call 16
  refine (HP.out _ (HL.out.ext T_x1.out)).mono ?_
  rintro e x2 ⟨g, c1, rfl, hpc, ho, hx2⟩
  have T_x2 : Hid (Ext x1 x2) := Lib.hid (Ext.trans (Ext.refl _) hx2)
  have Dm_x2 := Lib.hid (ext_blk hx2 Dm_x1.out)
  have HO := Lib.hid ho
  clear ho
  clear hx2
  go_wp2_with fail
  go_at_call 22
  refine (within_j at0 p hpos (by omega) _).mono ?_
  rintro e x3 ⟨j, rfl, hj, hx3⟩
  have T_x3 : Hid (Ext x2 x3) := Lib.hid (Ext.trans (Ext.refl _) hx3)
  have hjc : ((j : Nat) : Int) ≤ (c1 : Int) := by omega
  clear hx3
  go_wp2_with fail
  go_at_call 22
  refine ((HW.out _).mono (R' := fun e w' => e = .returned (.int .i64 0) ∧ Ext _ w') (by rintro e z ⟨rfl, rfl⟩; exact ⟨rfl, Ext.refl _⟩)).mono ?_
  rintro e x4 ⟨rfl, hx4⟩
  have T_x4 : Hid (Ext x3 x4) := Lib.hid (Ext.trans (Ext.refl _) hx4)
  have HO4 := Lib.hid (own_ext HO.out (T_x3.out.trans hx4))
  clear hx4
  obtain ⟨at1, at2, at3, at4⟩ := own8_at HO4.out HPL.out.symm j (by rw [HPL.out]; exact hj)
  have HS := Lib.hid (own8_set HO4.out HPL.out.symm j to (by rw [HPL.out]; exact hj))
  have HXS : Hid (Ext w (x4.setCell ⟨g, j, none⟩ (bcell to))) := Lib.hid (Ext.setCell (((T_x1.out.trans T_x2.out).trans T_x3.out).trans T_x4.out) (by have := (T_x1.out : Ext w x1).size; exact Nat.le_trans this at3) _)
  obtain ⟨gm, eg, err, q, hq, G1, G2, G3⟩ := HB.out (L.set j to) (by rw [List.length_set, HPL.out]; omega)
  unfold bcell at HS HXS
  have HG1 := Lib.hid G1
  have HG2 := Lib.hid G2
  have HG3 := Lib.hid G3
  obtain ⟨gkind, gfr, gto, gte, gix, gat_, gco, gme, goff, gsz, gyes, gdata⟩ := gm
  simp only [Lt.agg] at HG1 HG2 HG3
  clear G1 G2 G3 hq HB
  obtain ⟨y0, hy0⟩ : ∃ z, (x4.setCell ⟨g, j, none⟩ (.int .u8 to.toNat)) = z := ⟨_, rfl⟩
  rw [hy0] at HS HXS
  go_wp2_with fail
  try rw [hy0]
  go_at_call 10
  refine (HG1.out _ _ (Own8.rd HS.out)).mono ?_
  rintro e x11 ⟨a2, c2, rfl, ho2, hx11⟩
  have T_x11 : Hid (Ext y0 x11) := Lib.hid (Ext.trans (Ext.refl _) hx11)
  have HO2 := Lib.hid ho2.rd
  clear ho2
  clear hx11
  go_wp2_with fail
  go_at_call 20
  refine (HG2.out _ _ ((Own8.rd HS.out).ext (Ext.alloc T_x11.out _))).mono ?_
  rintro e x12 ⟨a3, c3, rfl, ho3, hx12⟩
  have T_x12 : Hid (Ext x11 x12) := Lib.hid (Ext.trans (Ext.alloc (Ext.refl _) _) hx12)
  have Dx_x12 := Lib.hid (ext_blk hx12 (new_blk x11 (.cells #[.int .i64 gkind, .int .i64 gfr, .int .i64 gto, .int .i64 gte, .int .i64 gix, .int .i64 gat_, .int .i64 gco, .int .i64 gme, .int .i64 goff, .int .i64 gsz, .bool gyes, .string gdata, .slice a2 q c2] 24)))
  obtain ⟨cx_x12_0, fx_x12_0⟩ := blkG Dx_x12.out 0 (.int .i64 gkind) rfl
  obtain ⟨cx_x12_1, fx_x12_1⟩ := blkG Dx_x12.out 1 (.int .i64 gfr) rfl
  obtain ⟨cx_x12_2, fx_x12_2⟩ := blkG Dx_x12.out 2 (.int .i64 gto) rfl
  obtain ⟨cx_x12_3, fx_x12_3⟩ := blkG Dx_x12.out 3 (.int .i64 gte) rfl
  obtain ⟨cx_x12_4, fx_x12_4⟩ := blkG Dx_x12.out 4 (.int .i64 gix) rfl
  obtain ⟨cx_x12_5, fx_x12_5⟩ := blkG Dx_x12.out 5 (.int .i64 gat_) rfl
  obtain ⟨cx_x12_6, fx_x12_6⟩ := blkG Dx_x12.out 6 (.int .i64 gco) rfl
  obtain ⟨cx_x12_7, fx_x12_7⟩ := blkG Dx_x12.out 7 (.int .i64 gme) rfl
  obtain ⟨cx_x12_8, fx_x12_8⟩ := blkG Dx_x12.out 8 (.int .i64 goff) rfl
  obtain ⟨cx_x12_9, fx_x12_9⟩ := blkG Dx_x12.out 9 (.int .i64 gsz) rfl
  obtain ⟨cx_x12_10, fx_x12_10⟩ := blkG Dx_x12.out 10 (.bool gyes) rfl
  obtain ⟨cx_x12_11, fx_x12_11⟩ := blkG Dx_x12.out 11 (.string gdata) rfl
  obtain ⟨cx_x12_12, fx_x12_12⟩ := blkG Dx_x12.out 12 (.slice a2 q c2) rfl
  have zx_x12 := blk_lt Dx_x12.out
  have HO3 := Lib.hid ho3.rd
  clear ho3
  clear hx12
  go_wp2_with fail
  go_at_call 12
  refine (HG3.out _ _ _ _ _ (HO2.out.ext (Ext.alloc T_x12.out _)) (HO3.out.ext (Ext.alloc (Ext.refl _) _))).mono ?_
  rintro e x13 ⟨rfl, hx13⟩
  have T_x13 : Hid (Ext x12 x13) := Lib.hid (Ext.trans (Ext.alloc (Ext.refl _) _) hx13)
  have Dx_x13 := Lib.hid (ext_blk hx13 (alloc_blk Dx_x12.out))
  have Dy_x13 := Lib.hid (ext_blk hx13 (new_blk x12 (.cells #[.int .i64 gkind, .int .i64 gfr, .int .i64 gto, .int .i64 gte, .int .i64 gix, .int .i64 gat_, .int .i64 gco, .int .i64 gme, .int .i64 goff, .int .i64 gsz, .bool gyes, .string gdata, .slice a3 q c3] 24)))
  clear hx13
  go_wp2_with fail
  go_at_call 3
  refine (lruns_any _).mono ?_
  rintro e x14 ⟨rfl, hx14⟩
  have T_x14 : Hid (Ext x13 x14) := Lib.hid (Ext.trans (Ext.refl _) hx14)
  have Dx_x14 := Lib.hid (ext_blk hx14 Dx_x13.out)
  have Dy_x14 := Lib.hid (ext_blk hx14 Dy_x13.out)
  clear hx14
  go_wp2_with fail
  go_ret
  exact ⟨rfl, HXS.out.trans (((T_x11.out.trans T_x12.out).trans T_x13.out).trans T_x14.out)⟩
set_option maxHeartbeats 4000000 in
set_option maxRecDepth 100000 in
theorem lturn_1 (m : Lt) (a : Option Addr) (n n2 c : Nat) (es : List Ent) (hf : ∀ z, Calls Try.prog 13 #[m.agg (.slice a n c)] z fun e w' => e = .returned (m.agg (.slice a n2 c)) ∧ Ext z w') (hn : es.length = n2) (hsm : SmallL m es) (at0 how : Int) (to : UInt8) (w : World) (hl : SlS Ent.cells 3 w (.slice a n2 c) es) (hW : ∀ z, Calls Try.prog 22 #[.int .i64 how, .int .i64 0, .int .i64 2] z fun e w' => e = .returned (.int .i64 1) ∧ z = w') : Calls Try.prog 6 #[m.agg (.slice a n c), .int .i64 at0, bcell to, .int .i64 how] w fun e w' => e = .returned (.bool true) ∧ Ext w w' := by
  have hpos := ltL_pos m es
  have hsml := ltL_small hsm
  have HP := Lib.hid fun (z : World) (hl : SlS Ent.cells 3 z (.slice a n2 c) es) => rput_form hn z hl hsm
  have HB : Hid (∀ bs : List UInt8, bs.length ≤ 140737488355328 → _) := Lib.hid both
  generalize ltL m es = L at *
  obtain ⟨p, hp⟩ : ∃ p, L.length = p := ⟨_, rfl⟩
  rw [hp] at HP hpos hsml
  have HL := Lib.hid hl
  have HF := Lib.hid hf
  have HW := Lib.hid hW
  have HPL := Lib.hid hp
  clear hf hn hsm hl hW hp
  obtain ⟨kind, fr, to_, te, ix, at_, co, me, off, sz, yes, data⟩ := m
  simp only [Lt.agg] at HF HP ⊢
  unfold bcell
  go_enter Try.func6, Try.ntmps6
  go_wp2_with fail
  go_at_call 13
  refine (HF.out _).mono ?_
  rintro e x1 ⟨rfl, hx1⟩
  have T_x1 : Hid (Ext w x1) := Lib.hid (Ext.trans (Ext.alloc (Ext.refl _) _) hx1)
  have Dm_x1 := Lib.hid (ext_blk hx1 (new_blk w (.cells #[.int .i64 kind, .int .i64 fr, .int .i64 to_, .int .i64 te, .int .i64 ix, .int .i64 at_, .int .i64 co, .int .i64 me, .int .i64 off, .int .i64 sz, .bool yes, .string data, .slice a n c] 24)))
  clear hx1
  go_wp2_with fail
  go_at_call 16
  refine (HP.out _ (HL.out.ext T_x1.out)).mono ?_
  rintro e x2 ⟨g, c1, rfl, hpc, ho, hx2⟩
  have T_x2 : Hid (Ext x1 x2) := Lib.hid (Ext.trans (Ext.refl _) hx2)
  have Dm_x2 := Lib.hid (ext_blk hx2 Dm_x1.out)
  have HO := Lib.hid ho
  clear ho
  clear hx2
  go_wp2_with fail
  go_at_call 22
  refine (within_j at0 p hpos (by omega) _).mono ?_
  rintro e x3 ⟨j, rfl, hj, hx3⟩
  have T_x3 : Hid (Ext x2 x3) := Lib.hid (Ext.trans (Ext.refl _) hx3)
  have hjc : ((j : Nat) : Int) ≤ (c1 : Int) := by omega
  clear hx3
  go_wp2_with fail
  go_at_call 22
  refine ((HW.out _).mono (R' := fun e w' => e = .returned (.int .i64 1) ∧ Ext _ w') (by rintro e z ⟨rfl, rfl⟩; exact ⟨rfl, Ext.refl _⟩)).mono ?_
  rintro e x4 ⟨rfl, hx4⟩
  have T_x4 : Hid (Ext x3 x4) := Lib.hid (Ext.trans (Ext.refl _) hx4)
  have HO4 := Lib.hid (own_ext HO.out (T_x3.out.trans hx4))
  clear hx4
  have HS := Lib.hid (Rd8.cut (by have := Own8.rd HO4.out; exact this) j (by rw [HPL.out]; omega) c1)
  have HXS := Lib.hid (((T_x1.out.trans T_x2.out).trans T_x3.out).trans T_x4.out)
  obtain ⟨gm, eg, err, q, hq, G1, G2, G3⟩ := HB.out (L.take j) (by rw [List.length_take]; omega)
  have HG1 := Lib.hid G1
  have HG2 := Lib.hid G2
  have HG3 := Lib.hid G3
  obtain ⟨gkind, gfr, gto, gte, gix, gat_, gco, gme, goff, gsz, gyes, gdata⟩ := gm
  simp only [Lt.agg] at HG1 HG2 HG3
  clear G1 G2 G3 hq HB
  go_wp2_with fail
  go_at_call 10
  refine (HG1.out _ _ HS.out).mono ?_
  rintro e x11 ⟨a2, c2, rfl, ho2, hx11⟩
  have T_x11 : Hid (Ext x4 x11) := Lib.hid (Ext.trans (Ext.refl _) hx11)
  have HO2 := Lib.hid ho2.rd
  clear ho2
  clear hx11
  go_wp2_with fail
  go_at_call 20
  refine (HG2.out _ _ (HS.out.ext (Ext.alloc T_x11.out _))).mono ?_
  rintro e x12 ⟨a3, c3, rfl, ho3, hx12⟩
  have T_x12 : Hid (Ext x11 x12) := Lib.hid (Ext.trans (Ext.alloc (Ext.refl _) _) hx12)
  have Dx_x12 := Lib.hid (ext_blk hx12 (new_blk x11 (.cells #[.int .i64 gkind, .int .i64 gfr, .int .i64 gto, .int .i64 gte, .int .i64 gix, .int .i64 gat_, .int .i64 gco, .int .i64 gme, .int .i64 goff, .int .i64 gsz, .bool gyes, .string gdata, .slice a2 q c2] 24)))
  obtain ⟨cx_x12_0, fx_x12_0⟩ := blkG Dx_x12.out 0 (.int .i64 gkind) rfl
  obtain ⟨cx_x12_1, fx_x12_1⟩ := blkG Dx_x12.out 1 (.int .i64 gfr) rfl
  obtain ⟨cx_x12_2, fx_x12_2⟩ := blkG Dx_x12.out 2 (.int .i64 gto) rfl
  obtain ⟨cx_x12_3, fx_x12_3⟩ := blkG Dx_x12.out 3 (.int .i64 gte) rfl
  obtain ⟨cx_x12_4, fx_x12_4⟩ := blkG Dx_x12.out 4 (.int .i64 gix) rfl
  obtain ⟨cx_x12_5, fx_x12_5⟩ := blkG Dx_x12.out 5 (.int .i64 gat_) rfl
  obtain ⟨cx_x12_6, fx_x12_6⟩ := blkG Dx_x12.out 6 (.int .i64 gco) rfl
  obtain ⟨cx_x12_7, fx_x12_7⟩ := blkG Dx_x12.out 7 (.int .i64 gme) rfl
  obtain ⟨cx_x12_8, fx_x12_8⟩ := blkG Dx_x12.out 8 (.int .i64 goff) rfl
  obtain ⟨cx_x12_9, fx_x12_9⟩ := blkG Dx_x12.out 9 (.int .i64 gsz) rfl
  obtain ⟨cx_x12_10, fx_x12_10⟩ := blkG Dx_x12.out 10 (.bool gyes) rfl
  obtain ⟨cx_x12_11, fx_x12_11⟩ := blkG Dx_x12.out 11 (.string gdata) rfl
  obtain ⟨cx_x12_12, fx_x12_12⟩ := blkG Dx_x12.out 12 (.slice a2 q c2) rfl
  have zx_x12 := blk_lt Dx_x12.out
  have HO3 := Lib.hid ho3.rd
  clear ho3
  clear hx12
  go_wp2_with fail
  go_at_call 12
  refine (HG3.out _ _ _ _ _ (HO2.out.ext (Ext.alloc T_x12.out _)) (HO3.out.ext (Ext.alloc (Ext.refl _) _))).mono ?_
  rintro e x13 ⟨rfl, hx13⟩
  have T_x13 : Hid (Ext x12 x13) := Lib.hid (Ext.trans (Ext.alloc (Ext.refl _) _) hx13)
  have Dx_x13 := Lib.hid (ext_blk hx13 (alloc_blk Dx_x12.out))
  have Dy_x13 := Lib.hid (ext_blk hx13 (new_blk x12 (.cells #[.int .i64 gkind, .int .i64 gfr, .int .i64 gto, .int .i64 gte, .int .i64 gix, .int .i64 gat_, .int .i64 gco, .int .i64 gme, .int .i64 goff, .int .i64 gsz, .bool gyes, .string gdata, .slice a3 q c3] 24)))
  clear hx13
  go_wp2_with fail
  go_at_call 3
  refine (lruns_any _).mono ?_
  rintro e x14 ⟨rfl, hx14⟩
  have T_x14 : Hid (Ext x13 x14) := Lib.hid (Ext.trans (Ext.refl _) hx14)
  have Dx_x14 := Lib.hid (ext_blk hx14 Dx_x13.out)
  have Dy_x14 := Lib.hid (ext_blk hx14 Dy_x13.out)
  clear hx14
  go_wp2_with fail
  go_ret
  exact ⟨rfl, HXS.out.trans (((T_x11.out.trans T_x12.out).trans T_x13.out).trans T_x14.out)⟩
set_option maxHeartbeats 4000000 in
set_option maxRecDepth 100000 in
theorem lturn_2 (m : Lt) (a : Option Addr) (n n2 c : Nat) (es : List Ent) (hf : ∀ z, Calls Try.prog 13 #[m.agg (.slice a n c)] z fun e w' => e = .returned (m.agg (.slice a n2 c)) ∧ Ext z w') (hn : es.length = n2) (hsm : SmallL m es) (at0 how : Int) (to : UInt8) (w : World) (hl : SlS Ent.cells 3 w (.slice a n2 c) es) (hW : ∀ z, Calls Try.prog 22 #[.int .i64 how, .int .i64 0, .int .i64 2] z fun e w' => e = .returned (.int .i64 2) ∧ z = w') : Calls Try.prog 6 #[m.agg (.slice a n c), .int .i64 at0, bcell to, .int .i64 how] w fun e w' => e = .returned (.bool true) ∧ Ext w w' := by
  have hpos := ltL_pos m es
  have hsml := ltL_small hsm
  have HP := Lib.hid fun (z : World) (hl : SlS Ent.cells 3 z (.slice a n2 c) es) => rput_form hn z hl hsm
  have HB : Hid (∀ bs : List UInt8, bs.length ≤ 140737488355328 → _) := Lib.hid both
  obtain ⟨i0, hi, hz0, hz1, hz2⟩ := info_parts Try.infoU8
  generalize ltL m es = L at *
  obtain ⟨p, hp⟩ : ∃ p, L.length = p := ⟨_, rfl⟩
  rw [hp] at HP hpos hsml
  have HL := Lib.hid hl
  have HF := Lib.hid hf
  have HW := Lib.hid hW
  have HPL := Lib.hid hp
  clear hf hn hsm hl hW hp
  obtain ⟨kind, fr, to_, te, ix, at_, co, me, off, sz, yes, data⟩ := m
  simp only [Lt.agg] at HF HP ⊢
  unfold bcell
  go_enter Try.func6, Try.ntmps6
  go_wp2_with fail
  go_at_call 13
  refine (HF.out _).mono ?_
  rintro e x1 ⟨rfl, hx1⟩
  have T_x1 : Hid (Ext w x1) := Lib.hid (Ext.trans (Ext.alloc (Ext.refl _) _) hx1)
  have Dm_x1 := Lib.hid (ext_blk hx1 (new_blk w (.cells #[.int .i64 kind, .int .i64 fr, .int .i64 to_, .int .i64 te, .int .i64 ix, .int .i64 at_, .int .i64 co, .int .i64 me, .int .i64 off, .int .i64 sz, .bool yes, .string data, .slice a n c] 24)))
  clear hx1
  go_wp2_with fail
  go_at_call 16
  refine (HP.out _ (HL.out.ext T_x1.out)).mono ?_
  rintro e x2 ⟨g, c1, rfl, hpc, ho, hx2⟩
  have T_x2 : Hid (Ext x1 x2) := Lib.hid (Ext.trans (Ext.refl _) hx2)
  have Dm_x2 := Lib.hid (ext_blk hx2 Dm_x1.out)
  have HO := Lib.hid ho
  clear ho
  clear hx2
  go_wp2_with fail
  go_at_call 22
  refine (within_j at0 p hpos (by omega) _).mono ?_
  rintro e x3 ⟨j, rfl, hj, hx3⟩
  have T_x3 : Hid (Ext x2 x3) := Lib.hid (Ext.trans (Ext.refl _) hx3)
  have hjc : ((j : Nat) : Int) ≤ (c1 : Int) := by omega
  clear hx3
  go_wp2_with fail
  go_at_call 22
  refine ((HW.out _).mono (R' := fun e w' => e = .returned (.int .i64 2) ∧ Ext _ w') (by rintro e z ⟨rfl, rfl⟩; exact ⟨rfl, Ext.refl _⟩)).mono ?_
  rintro e x4 ⟨rfl, hx4⟩
  have T_x4 : Hid (Ext x3 x4) := Lib.hid (Ext.trans (Ext.refl _) hx4)
  have HO4 := Lib.hid (own_ext HO.out (T_x3.out.trans hx4))
  clear hx4
  go_wp2_with (at_builtin; refine wpList_own_push rfl _ _ 25 rfl x1.heap.size 5 _ i0 (.int .u8 0) 1 1 Try.underlying25 hi hz0 hz1 hz2 rfl (by decide) _ p 1 _ _ [.int .u8 to.toNat] (own8_k HO4.out HPL.out.symm) rfl rfl rfl rfl ?c1 ?c2 ?c3 ?c4 ?_)
  case c1 => intro u hu; simp at hu; subst hu; rfl
  case c2 => unfold maxLen; omega
  case c3 => omega
  case c4 => have := (((T_x2.out.trans T_x3.out).trans T_x4.out) : Ext x1 x4).size; omega
  intro bv x5 ho5 hb5
  have HS : Hid (Own8 5 x5 x1.heap.size bv (L ++ [to])) := Lib.hid (own8_of ho5 (by rw [List.length_append, HPL.out]; rfl) (by simp [bcell]))
  have HXS : Hid (Ext w x5) := Lib.hid (Below.trans (((T_x1.out.trans T_x2.out).trans T_x3.out).trans T_x4.out) (Below.mono hb5 (T_x1.out : Ext w x1).size))
  obtain ⟨gm, eg, err, q, hq, G1, G2, G3⟩ := HB.out (L ++ [to]) (by rw [List.length_append, HPL.out]; simp; omega)
  clear ho5 hb5
  have HG1 := Lib.hid G1
  have HG2 := Lib.hid G2
  have HG3 := Lib.hid G3
  obtain ⟨gkind, gfr, gto, gte, gix, gat_, gco, gme, goff, gsz, gyes, gdata⟩ := gm
  simp only [Lt.agg] at HG1 HG2 HG3
  clear G1 G2 G3 hq HB
  go_wp2_with fail
  go_at_call 10
  refine (HG1.out _ _ (Own8.rd HS.out)).mono ?_
  rintro e x11 ⟨a2, c2, rfl, ho2, hx11⟩
  have T_x11 : Hid (Ext x5 x11) := Lib.hid (Ext.trans (Ext.refl _) hx11)
  have HO2 := Lib.hid ho2.rd
  clear ho2
  clear hx11
  go_wp2_with fail
  go_at_call 20
  refine (HG2.out _ _ ((Own8.rd HS.out).ext (Ext.alloc T_x11.out _))).mono ?_
  rintro e x12 ⟨a3, c3, rfl, ho3, hx12⟩
  have T_x12 : Hid (Ext x11 x12) := Lib.hid (Ext.trans (Ext.alloc (Ext.refl _) _) hx12)
  have Dx_x12 := Lib.hid (ext_blk hx12 (new_blk x11 (.cells #[.int .i64 gkind, .int .i64 gfr, .int .i64 gto, .int .i64 gte, .int .i64 gix, .int .i64 gat_, .int .i64 gco, .int .i64 gme, .int .i64 goff, .int .i64 gsz, .bool gyes, .string gdata, .slice a2 q c2] 24)))
  obtain ⟨cx_x12_0, fx_x12_0⟩ := blkG Dx_x12.out 0 (.int .i64 gkind) rfl
  obtain ⟨cx_x12_1, fx_x12_1⟩ := blkG Dx_x12.out 1 (.int .i64 gfr) rfl
  obtain ⟨cx_x12_2, fx_x12_2⟩ := blkG Dx_x12.out 2 (.int .i64 gto) rfl
  obtain ⟨cx_x12_3, fx_x12_3⟩ := blkG Dx_x12.out 3 (.int .i64 gte) rfl
  obtain ⟨cx_x12_4, fx_x12_4⟩ := blkG Dx_x12.out 4 (.int .i64 gix) rfl
  obtain ⟨cx_x12_5, fx_x12_5⟩ := blkG Dx_x12.out 5 (.int .i64 gat_) rfl
  obtain ⟨cx_x12_6, fx_x12_6⟩ := blkG Dx_x12.out 6 (.int .i64 gco) rfl
  obtain ⟨cx_x12_7, fx_x12_7⟩ := blkG Dx_x12.out 7 (.int .i64 gme) rfl
  obtain ⟨cx_x12_8, fx_x12_8⟩ := blkG Dx_x12.out 8 (.int .i64 goff) rfl
  obtain ⟨cx_x12_9, fx_x12_9⟩ := blkG Dx_x12.out 9 (.int .i64 gsz) rfl
  obtain ⟨cx_x12_10, fx_x12_10⟩ := blkG Dx_x12.out 10 (.bool gyes) rfl
  obtain ⟨cx_x12_11, fx_x12_11⟩ := blkG Dx_x12.out 11 (.string gdata) rfl
  obtain ⟨cx_x12_12, fx_x12_12⟩ := blkG Dx_x12.out 12 (.slice a2 q c2) rfl
  have zx_x12 := blk_lt Dx_x12.out
  have HO3 := Lib.hid ho3.rd
  clear ho3
  clear hx12
  go_wp2_with fail
  go_at_call 12
  refine (HG3.out _ _ _ _ _ (HO2.out.ext (Ext.alloc T_x12.out _)) (HO3.out.ext (Ext.alloc (Ext.refl _) _))).mono ?_
  rintro e x13 ⟨rfl, hx13⟩
  have T_x13 : Hid (Ext x12 x13) := Lib.hid (Ext.trans (Ext.alloc (Ext.refl _) _) hx13)
  have Dx_x13 := Lib.hid (ext_blk hx13 (alloc_blk Dx_x12.out))
  have Dy_x13 := Lib.hid (ext_blk hx13 (new_blk x12 (.cells #[.int .i64 gkind, .int .i64 gfr, .int .i64 gto, .int .i64 gte, .int .i64 gix, .int .i64 gat_, .int .i64 gco, .int .i64 gme, .int .i64 goff, .int .i64 gsz, .bool gyes, .string gdata, .slice a3 q c3] 24)))
  clear hx13
  go_wp2_with fail
  go_at_call 3
  refine (lruns_any _).mono ?_
  rintro e x14 ⟨rfl, hx14⟩
  have T_x14 : Hid (Ext x13 x14) := Lib.hid (Ext.trans (Ext.refl _) hx14)
  have Dx_x14 := Lib.hid (ext_blk hx14 Dx_x13.out)
  have Dy_x14 := Lib.hid (ext_blk hx14 Dy_x13.out)
  clear hx14
  go_wp2_with fail
  go_ret
  exact ⟨rfl, HXS.out.trans (((T_x11.out.trans T_x12.out).trans T_x13.out).trans T_x14.out)⟩
theorem lturn_any (m : Lt) (a : Option Addr) (n c : Nat) (es : List Ent) (hn : es.length = n) (hc : n ≤ c) (hcm : c ≤ 9223372036854775807) (hsm : SmallL m (es.take 20)) (at0 how : Int) (to : UInt8) (w : World) (hl : SlS Ent.cells 3 w (.slice a n c) es) : Calls Try.prog 6 #[m.agg (.slice a n c), .int .i64 at0, bcell to, .int .i64 how] w fun e w' => e = .returned (.bool true) ∧ Ext w w' := by
  have hf := fun z => lfew_any m a c n hc hcm z
  have hl2 := SlS.cut Ent.three hl (min n 20) (by omega) c
  have ht : es.take (min n 20) = es.take 20 := by rw [← hn, List.take_eq_take_iff]; omega
  rw [ht] at hl2
  have hn2 : (es.take 20).length = min n 20 := by rw [List.length_take, hn]; omega
  have hw := fun z => within_any how 0 2 z (by decide) (by decide) (by decide)
  have hb := withI_bd how 0 2 (by decide)
  have h3 : withI how 0 2 = 0 ∨ withI how 0 2 = 1 ∨ withI how 0 2 = 2 := by omega
  rcases h3 with h3 | h3 | h3 <;> rw [h3] at hw
  · exact lturn_0 m a n (min n 20) c _ hf hn2 hsm at0 how to w hl2 hw
  · exact lturn_1 m a n (min n 20) c _ hf hn2 hsm at0 how to w hl2 hw
  · exact lturn_2 m a n (min n 20) c _ hf hn2 hsm at0 how to w hl2 hw
end Go.Proofs.Ytpfdihidncofaaa
