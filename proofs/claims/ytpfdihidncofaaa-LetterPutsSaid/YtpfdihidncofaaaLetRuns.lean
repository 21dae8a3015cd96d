/- The law LetterRuns: the walk. -/
import Derived.Test.YtpfdihidncofaaaLetV
import Derived.Test.YtpfdihidncofaaaSame8
import Derived.Test.YtpfdihidncofaaaPackRefW
namespace Go.Proofs.Ytpfdihidncofaaa
open Go.RowKit

def m0 : Lt := ⟨2, 0, 1, 1, 0, 0, 0, 0, 0, 0, true, ⟨#[]⟩⟩
def bs0 : List UInt8 := [4, 0, 2, 2, 0, 0, 0, 0, 0, 0, 2, 0, 0]
theorem m0_right : RightP m0 [] := by
  simp [RightP, NamedP, m0, EntP, PieceP]
theorem m0_bytes : ltL m0 [] = bs0 := by decide +kernel
theorem bs0_is : GetIs bs0 m0 [] 0 := by
  have h1 : gM bs0 = m0 := by kernel_rfl
  have h2 : gEs bs0 = [] := by kernel_rfl
  have h3 : gErr bs0 = 0 := by kernel_rfl
  exact .inr (.inl ⟨h3, by rw [h1, h2]; exact m0_right, rfl, h1.symm, h2.symm⟩)
theorem bs1_is : GetIs (bs0 ++ [0]) Lt.z [] 5 := by
  have h3 : gErr (bs0 ++ [0]) = 5 := by kernel_rfl
  exact .inl ⟨by rw [h3]; decide, h3.symm, rfl, rfl⟩
theorem put0 (w : World) : Calls Try.prog 9 #[m0.agg (.slice none 0 0)] w fun e w' => ∃ v, e = .returned v ∧ Own8 5 w' w.heap.size v bs0 ∧ Ext w w' := by
  rw [← m0_bytes]
  exact lput_yes m0 none 0 0 [] rfl w SlS.nil m0_right
theorem get_is (v : Value) (bs : List UInt8) (m : Lt) (es : List Ent) (err : Int) (hg : GetIs bs m es err) (w : World) (hr : Rd8 w v bs) (hb : bs.length ≤ 140737488355328) : Calls Try.prog 10 #[v] w fun e w' => ∃ a c, e = .returned (.tuple #[m.agg (.slice a es.length c), .int .i64 err]) ∧ OwnS Ent.cells 3 36 w' w.heap.size (.slice a es.length c) es ∧ Ext w w' := by
  refine (lget_any v bs w hr hb).mono ?_
  rintro e w' ⟨m', es', ev, err', rfl, ho, hg', hx⟩
  obtain ⟨rfl, rfl, rfl⟩ := GetIs.one hg hg'
  obtain ⟨a, c, rfl, _, _⟩ := ho.form
  exact ⟨a, c, rfl, ho, hx⟩
theorem put_no1 (w : World) : Calls Try.prog 9 #[(⟨2, 0, 0, 1, 0, 0, 0, 0, 0, 0, false, ⟨#[]⟩⟩ : Lt).agg (.slice none 0 0)] w fun e w' => e = .returned (.slice none 0 0) ∧ Ext w w' :=
  lput_no _ none 0 0 [] rfl w SlS.nil fun h => h.2.2.2.1 rfl
theorem put_no2 (w : World) : Calls Try.prog 9 #[(⟨2, 0, 1, 1, 1, 0, 0, 0, 0, 0, false, ⟨#[]⟩⟩ : Lt).agg (.slice none 0 0)] w fun e w' => e = .returned (.slice none 0 0) ∧ Ext w w' :=
  lput_no _ none 0 0 [] rfl w SlS.nil fun h => by
    have := h.1
    simp [NamedP] at this

set_option maxHeartbeats 16000000 in
set_option maxRecDepth 100000 in
theorem lruns_any (w : World) : Calls Try.prog 3 #[] w fun e w' => e = .returned (.bool true) ∧ Ext w w' := by
  obtain ⟨i0, hi, hz0, hz1, hz2⟩ := info_parts Try.infoU8
  have hp0 := put0
  have hg0 := fun v z (hr : Rd8 z v bs0) => get_is v bs0 m0 [] 0 bs0_is z hr (by decide)
  have hg1 := fun v z (hr : Rd8 z v (bs0 ++ [0])) => get_is v (bs0 ++ [0]) Lt.z [] 5 bs1_is z hr (by decide)
  have hn1 := put_no1
  have hn2 := put_no2
  have hsm := fun a a' c c' z ha hb => lsame_yes m0 a a' c c' 0 [] rfl z ha hb (by omega)
  simp only [Lt.agg, m0, Lt.z, List.length_nil] at hp0 hg0 hg1 hn1 hn2 hsm
  have HP := Lib.hid hp0
  have HG0 := Lib.hid hg0
  have HG1 := Lib.hid hg1
  have HN1 := Lib.hid hn1
  have HN2 := Lib.hid hn2
  have HSM := Lib.hid hsm
  clear hp0 hg0 hg1 hn1 hn2 hsm
  go_enter Try.func3, Try.ntmps3
  go_wp2_with (first
    | (go_at_call 9; with_reducible refine (HP.out _).mono ?_; rintro e x1 ⟨v1, rfl, ho1, hx1⟩; have BM1 := Lib.hid (ext_blk hx1 (new_blk w (.cells #[.int .i64 2, .int .i64 0, .int .i64 1, .int .i64 1, .int .i64 0, .int .i64 0, .int .i64 0, .int .i64 0, .int .i64 0, .int .i64 0, .bool true, .string ⟨#[]⟩, .slice none 0 0] 24))); have HO1 := Lib.hid ho1; clear ho1)
    | (go_at_call 10; with_reducible refine (HG0.out _ _ (Own8.rd HO1.out)).mono ?_; rintro e x2 ⟨a2, c2, rfl, ho2, hx2⟩; have BM2 := Lib.hid (ext_blk hx2 BM1.out); have HO2 := Lib.hid ho2; have OE : Hid (((x2.alloc (.cells #[.int .i64 2, .int .i64 0, .int .i64 1, .int .i64 1, .int .i64 0, .int .i64 0, .int .i64 0, .int .i64 0, .int .i64 0, .int .i64 0, .bool true, .string ⟨#[]⟩, .slice a2 0 c2] 24)).alloc (.cells #[] 5)).ownsRow (x2.heap.size + 1) 5 1 (.slice (some ⟨x2.heap.size + 1, 0, none⟩) 0 0) 0 []) := Lib.hid (by have h1 := own_empty (B := x2.heap.size + 1) (x2.alloc (.cells #[.int .i64 2, .int .i64 0, .int .i64 1, .int .i64 1, .int .i64 0, .int .i64 0, .int .i64 0, .int .i64 0, .int .i64 0, .int .i64 0, .bool true, .string ⟨#[]⟩, .slice a2 0 c2] 24)) 5 (by simp); have h2 : (x2.alloc (.cells #[.int .i64 2, .int .i64 0, .int .i64 1, .int .i64 1, .int .i64 0, .int .i64 0, .int .i64 0, .int .i64 0, .int .i64 0, .int .i64 0, .bool true, .string ⟨#[]⟩, .slice a2 0 c2] 24)).heap.size = x2.heap.size + 1 := (by simp); rw [h2] at h1; exact h1); clear ho2)
    | (at_builtin; refine wpList_own_src _ rfl _ _ 25 25 rfl (x2.heap.size + 1) 5 i0 (.int .u8 0) 1 1 Try.underlying25 hi hz0 hz1 hz2 rfl (by decide) _ _ 0 13 [] _ OE.out (src_of_slr (P := Try.prog) Try.underlying25 (show Rd8 _ _ bs0 from HO1.out.rd.ext (hx2.trans (((Ext.refl x2).alloc (.cells #[.int .i64 2, .int .i64 0, .int .i64 1, .int .i64 1, .int .i64 0, .int .i64 0, .int .i64 0, .int .i64 0, .int .i64 0, .int .i64 0, .bool true, .string ⟨#[]⟩, .slice a2 0 c2] 24)).alloc _))) (bcell_one _)) rfl rfl ?a1 ?a2 ?a3 ?_))
  case a1 => unfold maxLen; omega
  case a2 => omega
  case a3 => simp
  intro v3 w3 ho3 hb3
  have R3 : Own8 5 w3 (x2.heap.size + 1) v3 bs0 := own8_of ho3 rfl rfl
  have hX3 : Ext x2 w3 := Below.trans (((Ext.refl x2).alloc (.cells #[.int .i64 2, .int .i64 0, .int .i64 1, .int .i64 1, .int .i64 0, .int .i64 0, .int .i64 0, .int .i64 0, .int .i64 0, .int .i64 0, .bool true, .string ⟨#[]⟩, .slice a2 0 c2] 24)).alloc (.cells #[] 5)) (Below.mono hb3 (Nat.le_succ _))
  have BX3 := Lib.hid (below_blk hb3 (Nat.lt_succ_self _) (alloc_blk (o' := .cells #[] 5) (new_blk x2 (.cells #[.int .i64 2, .int .i64 0, .int .i64 1, .int .i64 1, .int .i64 0, .int .i64 0, .int .i64 0, .int .i64 0, .int .i64 0, .int .i64 0, .bool true, .string ⟨#[]⟩, .slice a2 0 c2] 24))))
  have hz3 : x2.heap.size + 1 ≤ w3.heap.size := by have := hb3.size; simp at this; omega
  have HR3 := Lib.hid R3
  clear ho3 hb3 R3
  go_wp2_with (at_builtin; refine wpList_own_push (w := w3) rfl _ _ 25 rfl (x2.heap.size + 1) 5 5 i0 _ 1 1 Try.underlying25 hi hz0 hz1 hz2 rfl (by decide) _ 13 1 1 _ [.int .u8 0] HR3.out rfl rfl rfl rfl ?b1 ?b2 ?b3 hz3 ?_)
  case b1 => intro u hu; simp only [List.mem_cons, List.not_mem_nil, or_false] at hu; rw [hu]; rfl
  case b2 => unfold maxLen; omega
  case b3 => omega
  intro v4 w4 ho4 hb4
  have R4 : Own8 5 w4 (x2.heap.size + 1) v4 (bs0 ++ [0]) := own8_of ho4 rfl rfl
  have hX4 : Ext x2 w4 := Below.trans hX3 (Below.mono hb4 (Nat.le_succ _))
  have BX4 := Lib.hid (below_blk hb4 (Nat.lt_succ_self _) BX3.out)
  have HR4 := Lib.hid R4
  clear ho4 hb4 R4
  go_wp2_with (first
    | (go_at_call 10; with_reducible refine (HG1.out _ _ (Own8.rd HR4.out)).mono ?_; rintro e x5 ⟨a5, c5, rfl, ho5, hx5⟩; have hX5 : Ext x2 (x5.alloc (.cells #[.int .i64 0, .int .i64 0, .int .i64 0, .int .i64 0, .int .i64 0, .int .i64 0, .int .i64 0, .int .i64 0, .int .i64 0, .int .i64 0, .bool false, .string ⟨#[]⟩, .slice a5 0 c5] 24)) := (hX4.trans hx5).alloc _; have RL : Hid (Rd8 ((x5.alloc (.cells #[.int .i64 0, .int .i64 0, .int .i64 0, .int .i64 0, .int .i64 0, .int .i64 0, .int .i64 0, .int .i64 0, .int .i64 0, .int .i64 0, .bool false, .string ⟨#[]⟩, .slice a5 0 c5] 24)).alloc (.cells #[.int .u8 4, .int .u8 0, .int .u8 2, .int .u8 2, .int .u8 0, .int .u8 0, .int .u8 0, .int .u8 0, .int .u8 0, .int .u8 0, .int .u8 2, .int .u8 0, .int .u8 0] 5)) (.slice (some ⟨x5.heap.size + 1, 0, none⟩) 13 13) bs0) := Lib.hid (by have h1 := rd_lit (w := x5.alloc (.cells #[.int .i64 0, .int .i64 0, .int .i64 0, .int .i64 0, .int .i64 0, .int .i64 0, .int .i64 0, .int .i64 0, .int .i64 0, .int .i64 0, .bool false, .string ⟨#[]⟩, .slice a5 0 c5] 24)) (cs := #[.int .u8 4, .int .u8 0, .int .u8 2, .int .u8 2, .int .u8 0, .int .u8 0, .int .u8 0, .int .u8 0, .int .u8 0, .int .u8 0, .int .u8 2, .int .u8 0, .int .u8 0]) (t := 5) (l := bs0) (n := 13) (Ext.refl _) rfl rfl (by decide); have h2 : (x5.alloc (.cells #[.int .i64 0, .int .i64 0, .int .i64 0, .int .i64 0, .int .i64 0, .int .i64 0, .int .i64 0, .int .i64 0, .int .i64 0, .int .i64 0, .bool false, .string ⟨#[]⟩, .slice a5 0 c5] 24)).heap.size = x5.heap.size + 1 := (by simp); rw [h2] at h1; exact h1); have RV := Lib.hid (HO1.out.rd.ext (hx2.trans (hX5.alloc (.cells #[.int .u8 4, .int .u8 0, .int .u8 2, .int .u8 2, .int .u8 0, .int .u8 0, .int .u8 0, .int .u8 0, .int .u8 0, .int .u8 0, .int .u8 2, .int .u8 0, .int .u8 0] 5)))); have HX6 := Lib.hid (hX5.alloc (.cells #[.int .u8 4, .int .u8 0, .int .u8 2, .int .u8 2, .int .u8 0, .int .u8 0, .int .u8 0, .int .u8 0, .int .u8 0, .int .u8 0, .int .u8 2, .int .u8 0, .int .u8 0] 5)); have BX5 := Lib.hid (alloc_blk (o' := (.cells #[.int .u8 4, .int .u8 0, .int .u8 2, .int .u8 2, .int .u8 0, .int .u8 0, .int .u8 0, .int .u8 0, .int .u8 0, .int .u8 0, .int .u8 2, .int .u8 0, .int .u8 0] 5)) (alloc_blk (o' := (.cells #[.int .i64 0, .int .i64 0, .int .i64 0, .int .i64 0, .int .i64 0, .int .i64 0, .int .i64 0, .int .i64 0, .int .i64 0, .int .i64 0, .bool false, .string ⟨#[]⟩, .slice a5 0 c5] 24)) (ext_blk hx5 BX4.out))))
    | (go_at_call 11; (with_reducible refine (same8 _ _ bs0 bs0 _ RV.out RL.out).mono ?_); rintro e x6 ⟨rfl, hx6⟩; have hX6 : Ext x2 x6 := HX6.out.trans hx6; have BM := Lib.hid (ext_blk hX6 BM2.out); have BX := Lib.hid (ext_blk hx6 BX5.out); obtain ⟨p0, _⟩ := blkG BM.out 0 (.int .i64 2) rfl; obtain ⟨q0, _⟩ := blkG BX.out 0 (.int .i64 2) rfl; obtain ⟨p1, _⟩ := blkG BM.out 1 (.int .i64 0) rfl; obtain ⟨q1, _⟩ := blkG BX.out 1 (.int .i64 0) rfl; obtain ⟨p2, _⟩ := blkG BM.out 2 (.int .i64 1) rfl; obtain ⟨q2, _⟩ := blkG BX.out 2 (.int .i64 1) rfl; obtain ⟨p3, _⟩ := blkG BM.out 3 (.int .i64 1) rfl; obtain ⟨q3, _⟩ := blkG BX.out 3 (.int .i64 1) rfl; obtain ⟨p4, _⟩ := blkG BM.out 4 (.int .i64 0) rfl; obtain ⟨q4, _⟩ := blkG BX.out 4 (.int .i64 0) rfl; obtain ⟨p5, _⟩ := blkG BM.out 5 (.int .i64 0) rfl; obtain ⟨q5, _⟩ := blkG BX.out 5 (.int .i64 0) rfl; obtain ⟨p6, _⟩ := blkG BM.out 6 (.int .i64 0) rfl; obtain ⟨q6, _⟩ := blkG BX.out 6 (.int .i64 0) rfl; obtain ⟨p7, _⟩ := blkG BM.out 7 (.int .i64 0) rfl; obtain ⟨q7, _⟩ := blkG BX.out 7 (.int .i64 0) rfl; obtain ⟨p8, _⟩ := blkG BM.out 8 (.int .i64 0) rfl; obtain ⟨q8, _⟩ := blkG BX.out 8 (.int .i64 0) rfl; obtain ⟨p9, _⟩ := blkG BM.out 9 (.int .i64 0) rfl; obtain ⟨q9, _⟩ := blkG BX.out 9 (.int .i64 0) rfl; obtain ⟨p10, _⟩ := blkG BM.out 10 (.bool true) rfl; obtain ⟨q10, _⟩ := blkG BX.out 10 (.bool true) rfl; obtain ⟨p11, _⟩ := blkG BM.out 11 (.string ⟨#[]⟩) rfl; obtain ⟨q11, _⟩ := blkG BX.out 11 (.string ⟨#[]⟩) rfl; obtain ⟨p12, _⟩ := blkG BM.out 12 (.slice none 0 0) rfl; obtain ⟨q12, _⟩ := blkG BX.out 12 (.slice a2 0 c2) rfl)
    | (go_at_call 12; with_reducible refine (HSM.out _ _ _ _ _ (OwnS.rd (HO2.out.ext hX6)) SlS.nil).mono ?_; rintro e x7 ⟨rfl, hx7⟩)
    | (go_at_call 9; with_reducible refine (HN1.out _).mono ?_; rintro e x8 ⟨rfl, hx8⟩)
    | (go_at_call 9; with_reducible refine (HN2.out _).mono ?_; rintro e x9 ⟨rfl, hx9⟩))
  go_ret
  exact ⟨rfl, Ext.trans ((Ext.refl w).alloc _) (hx1.trans (hx2.trans (hX6.trans (hx7.trans (hx8.trans hx9)))))⟩
end Go.Proofs.Ytpfdihidncofaaa
