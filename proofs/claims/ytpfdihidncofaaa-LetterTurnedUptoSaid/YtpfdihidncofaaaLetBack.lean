/- The law LetterRuns: the walk. -/
import Derived.Test.YtpfdihidncofaaaLetV
import Derived.Test.YtpfdihidncofaaaSame8
import Derived.Test.YtpfdihidncofaaaPackRefW
import Derived.Test.YtpfdihidncofaaaLetS
import Derived.Test.YtpfdihidncofaaaBackLaw
import Derived.Test.YtpfdihidncofaaaSet13
namespace Go.Proofs.Ytpfdihidncofaaa
open Go.RowKit
section

def m0 : Lt := ⟨2, 0, 1, 1, 0, 0, 0, 0, 0, 0, true, ⟨#[]⟩⟩
def bs0 : List UInt8 := [4, 0, 2, 2, 0, 0, 0, 0, 0, 0, 2, 0, 0]
theorem m0_right : RightP m0 [] := by
  simp [RightP, NamedP, m0, EntP, PieceP]
theorem m0_bytes : ltL m0 [] = bs0 := by decide +kernel
theorem bs0_is : GetIs bs0 m0 [] 0 := by
  have h1 : gM bs0 = m0 := by kernel_rfl
  have h2 : gEs bs0 = [] := by kernel_rfl
  have h3 : gErr bs0 = 0 := by kernel_rfl
  exact .inr (.inl ⟨h3, by rw [h1, h2]; exact m0_right, rfl, h1.symm, h2.symm⟩)
theorem bs1_is : GetIs (bs0 ++ [0]) Lt.z [] 5 := by
  have h3 : gErr (bs0 ++ [0]) = 5 := by kernel_rfl
  exact .inl ⟨by rw [h3]; decide, h3.symm, rfl, rfl⟩
theorem put0 (w : World) : Calls Try.prog 9 #[m0.agg (.slice none 0 0)] w fun e w' => ∃ v, e = .returned v ∧ Own8 5 w' w.heap.size v bs0 ∧ Ext w w' := by
  rw [← m0_bytes]
  exact lput_yes m0 none 0 0 [] rfl w SlS.nil m0_right
theorem get_is (v : Value) (bs : List UInt8) (m : Lt) (es : List Ent) (err : Int) (hg : GetIs bs m es err) (w : World) (hr : Rd8 w v bs) (hb : bs.length ≤ 140737488355328) : Calls Try.prog 10 #[v] w fun e w' => ∃ a c, e = .returned (.tuple #[m.agg (.slice a es.length c), .int .i64 err]) ∧ OwnS Ent.cells 3 36 w' w.heap.size (.slice a es.length c) es ∧ Ext w w' := by
  refine (lget_any v bs w hr hb).mono ?_
  rintro e w' ⟨m', es', ev, err', rfl, ho, hg', hx⟩
  obtain ⟨rfl, rfl, rfl⟩ := GetIs.one hg hg'
  obtain ⟨a, c, rfl, _, _⟩ := ho.form
  exact ⟨a, c, rfl, ho, hx⟩
theorem put_no1 (w : World) : Calls Try.prog 9 #[(⟨2, 0, 0, 1, 0, 0, 0, 0, 0, 0, false, ⟨#[]⟩⟩ : Lt).agg (.slice none 0 0)] w fun e w' => e = .returned (.slice none 0 0) ∧ Ext w w' :=
  lput_no _ none 0 0 [] rfl w SlS.nil fun h => h.2.2.2.1 rfl
theorem put_no2 (w : World) : Calls Try.prog 9 #[(⟨2, 0, 1, 1, 1, 0, 0, 0, 0, 0, false, ⟨#[]⟩⟩ : Lt).agg (.slice none 0 0)] w fun e w' => e = .returned (.slice none 0 0) ∧ Ext w w' :=
  lput_no _ none 0 0 [] rfl w SlS.nil fun h => by
    have := h.1
    simp [NamedP] at this

set_option maxHeartbeats 16000000 in
set_option maxRecDepth 100000 in
theorem lruns_any (w : World) : Calls Try.prog 3 #[] w fun e w' => e = .returned (.bool true) ∧ Ext w w' := by
  obtain ⟨i0, hi, hz0, hz1, hz2⟩ := info_parts Try.infoU8
  have hp0 := put0
  have hg0 := fun v z (hr : Rd8 z v bs0) => get_is v bs0 m0 [] 0 bs0_is z hr (by decide)
  have hg1 := fun v z (hr : Rd8 z v (bs0 ++ [0])) => get_is v (bs0 ++ [0]) Lt.z [] 5 bs1_is z hr (by decide)
  have hn1 := put_no1
  have hn2 := put_no2
  have hsm := fun a a' c c' z ha hb => lsame_yes m0 a a' c c' 0 [] rfl z ha hb (by omega)
  simp only [Lt.agg, m0, Lt.z, List.length_nil] at hp0 hg0 hg1 hn1 hn2 hsm
  have HP := Lib.hid hp0
  have HG0 := Lib.hid hg0
  have HG1 := Lib.hid hg1
  have HN1 := Lib.hid hn1
  have HN2 := Lib.hid hn2
  have HSM := Lib.hid hsm
  clear hp0 hg0 hg1 hn1 hn2 hsm
  go_enter Try.func3, Try.ntmps3
  go_wp2_with (first
    | (go_at_call 9; with_reducible refine (HP.out _).mono ?_; rintro e x1 ⟨v1, rfl, ho1, hx1⟩; have BM1 := Lib.hid (ext_blk hx1 (new_blk w (.cells #[.int .i64 2, .int .i64 0, .int .i64 1, .int .i64 1, .int .i64 0, .int .i64 0, .int .i64 0, .int .i64 0, .int .i64 0, .int .i64 0, .bool true, .string ⟨#[]⟩, .slice none 0 0] 24))); have HO1 := Lib.hid ho1; clear ho1)
    | (go_at_call 10; with_reducible refine (HG0.out _ _ (Own8.rd HO1.out)).mono ?_; rintro e x2 ⟨a2, c2, rfl, ho2, hx2⟩; have BM2 := Lib.hid (ext_blk hx2 BM1.out); have HO2 := Lib.hid ho2; have OE : Hid (((x2.alloc (.cells #[.int .i64 2, .int .i64 0, .int .i64 1, .int .i64 1, .int .i64 0, .int .i64 0, .int .i64 0, .int .i64 0, .int .i64 0, .int .i64 0, .bool true, .string ⟨#[]⟩, .slice a2 0 c2] 24)).alloc (.cells #[] 5)).ownsRow (x2.heap.size + 1) 5 1 (.slice (some ⟨x2.heap.size + 1, 0, none⟩) 0 0) 0 []) := Lib.hid (by have h1 := own_empty (B := x2.heap.size + 1) (x2.alloc (.cells #[.int .i64 2, .int .i64 0, .int .i64 1, .int .i64 1, .int .i64 0, .int .i64 0, .int .i64 0, .int .i64 0, .int .i64 0, .int .i64 0, .bool true, .string ⟨#[]⟩, .slice a2 0 c2] 24)) 5 (by simp); have h2 : (x2.alloc (.cells #[.int .i64 2, .int .i64 0, .int .i64 1, .int .i64 1, .int .i64 0, .int .i64 0, .int .i64 0, .int .i64 0, .int .i64 0, .int .i64 0, .bool true, .string ⟨#[]⟩, .slice a2 0 c2] 24)).heap.size = x2.heap.size + 1 := (by simp); rw [h2] at h1; exact h1); clear ho2)
    | (at_builtin; refine wpList_own_src _ rfl _ _ 25 25 rfl (x2.heap.size + 1) 5 i0 (.int .u8 0) 1 1 Try.underlying25 hi hz0 hz1 hz2 rfl (by decide) _ _ 0 13 [] _ OE.out (src_of_slr (P := Try.prog) Try.underlying25 (show Rd8 _ _ bs0 from HO1.out.rd.ext (hx2.trans (((Ext.refl x2).alloc (.cells #[.int .i64 2, .int .i64 0, .int .i64 1, .int .i64 1, .int .i64 0, .int .i64 0, .int .i64 0, .int .i64 0, .int .i64 0, .int .i64 0, .bool true, .string ⟨#[]⟩, .slice a2 0 c2] 24)).alloc _))) (bcell_one _)) rfl rfl ?a1 ?a2 ?a3 ?_))
  case a1 => unfold maxLen; omega
  case a2 => omega
  case a3 => simp
  intro v3 w3 ho3 hb3
  have R3 : Own8 5 w3 (x2.heap.size + 1) v3 bs0 := own8_of ho3 rfl rfl
  have hX3 : Ext x2 w3 := Below.trans (((Ext.refl x2).alloc (.cells #[.int .i64 2, .int .i64 0, .int .i64 1, .int .i64 1, .int .i64 0, .int .i64 0, .int .i64 0, .int .i64 0, .int .i64 0, .int .i64 0, .bool true, .string ⟨#[]⟩, .slice a2 0 c2] 24)).alloc (.cells #[] 5)) (Below.mono hb3 (Nat.le_succ _))
  have BX3 := Lib.hid (below_blk hb3 (Nat.lt_succ_self _) (alloc_blk (o' := .cells #[] 5) (new_blk x2 (.cells #[.int .i64 2, .int .i64 0, .int .i64 1, .int .i64 1, .int .i64 0, .int .i64 0, .int .i64 0, .int .i64 0, .int .i64 0, .int .i64 0, .bool true, .string ⟨#[]⟩, .slice a2 0 c2] 24))))
  have hz3 : x2.heap.size + 1 ≤ w3.heap.size := by have := hb3.size; simp at this; omega
  have HR3 := Lib.hid R3
  clear ho3 hb3 R3
  go_wp2_with (at_builtin; refine wpList_own_push (w := w3) rfl _ _ 25 rfl (x2.heap.size + 1) 5 5 i0 _ 1 1 Try.underlying25 hi hz0 hz1 hz2 rfl (by decide) _ 13 1 1 _ [.int .u8 0] HR3.out rfl rfl rfl rfl ?b1 ?b2 ?b3 hz3 ?_)
  case b1 => intro u hu; simp only [List.mem_cons, List.not_mem_nil, or_false] at hu; rw [hu]; rfl
  case b2 => unfold maxLen; omega
  case b3 => omega
  intro v4 w4 ho4 hb4
  have R4 : Own8 5 w4 (x2.heap.size + 1) v4 (bs0 ++ [0]) := own8_of ho4 rfl rfl
  have hX4 : Ext x2 w4 := Below.trans hX3 (Below.mono hb4 (Nat.le_succ _))
  have BX4 := Lib.hid (below_blk hb4 (Nat.lt_succ_self _) BX3.out)
  have HR4 := Lib.hid R4
  clear ho4 hb4 R4
  go_wp2_with (first
    | (go_at_call 10; with_reducible refine (HG1.out _ _ (Own8.rd HR4.out)).mono ?_; rintro e x5 ⟨a5, c5, rfl, ho5, hx5⟩; have hX5 : Ext x2 (x5.alloc (.cells #[.int .i64 0, .int .i64 0, .int .i64 0, .int .i64 0, .int .i64 0, .int .i64 0, .int .i64 0, .int .i64 0, .int .i64 0, .int .i64 0, .bool false, .string ⟨#[]⟩, .slice a5 0 c5] 24)) := (hX4.trans hx5).alloc _; have RL : Hid (Rd8 ((x5.alloc (.cells #[.int .i64 0, .int .i64 0, .int .i64 0, .int .i64 0, .int .i64 0, .int .i64 0, .int .i64 0, .int .i64 0, .int .i64 0, .int .i64 0, .bool false, .string ⟨#[]⟩, .slice a5 0 c5] 24)).alloc (.cells #[.int .u8 4, .int .u8 0, .int .u8 2, .int .u8 2, .int .u8 0, .int .u8 0, .int .u8 0, .int .u8 0, .int .u8 0, .int .u8 0, .int .u8 2, .int .u8 0, .int .u8 0] 5)) (.slice (some ⟨x5.heap.size + 1, 0, none⟩) 13 13) bs0) := Lib.hid (by have h1 := rd_lit (w := x5.alloc (.cells #[.int .i64 0, .int .i64 0, .int .i64 0, .int .i64 0, .int .i64 0, .int .i64 0, .int .i64 0, .int .i64 0, .int .i64 0, .int .i64 0, .bool false, .string ⟨#[]⟩, .slice a5 0 c5] 24)) (cs := #[.int .u8 4, .int .u8 0, .int .u8 2, .int .u8 2, .int .u8 0, .int .u8 0, .int .u8 0, .int .u8 0, .int .u8 0, .int .u8 0, .int .u8 2, .int .u8 0, .int .u8 0]) (t := 5) (l := bs0) (n := 13) (Ext.refl _) rfl rfl (by decide); have h2 : (x5.alloc (.cells #[.int .i64 0, .int .i64 0, .int .i64 0, .int .i64 0, .int .i64 0, .int .i64 0, .int .i64 0, .int .i64 0, .int .i64 0, .int .i64 0, .bool false, .string ⟨#[]⟩, .slice a5 0 c5] 24)).heap.size = x5.heap.size + 1 := (by simp); rw [h2] at h1; exact h1); have RV := Lib.hid (HO1.out.rd.ext (hx2.trans (hX5.alloc (.cells #[.int .u8 4, .int .u8 0, .int .u8 2, .int .u8 2, .int .u8 0, .int .u8 0, .int .u8 0, .int .u8 0, .int .u8 0, .int .u8 0, .int .u8 2, .int .u8 0, .int .u8 0] 5)))); have HX6 := Lib.hid (hX5.alloc (.cells #[.int .u8 4, .int .u8 0, .int .u8 2, .int .u8 2, .int .u8 0, .int .u8 0, .int .u8 0, .int .u8 0, .int .u8 0, .int .u8 0, .int .u8 2, .int .u8 0, .int .u8 0] 5)); have BX5 := Lib.hid (alloc_blk (o' := (.cells #[.int .u8 4, .int .u8 0, .int .u8 2, .int .u8 2, .int .u8 0, .int .u8 0, .int .u8 0, .int .u8 0, .int .u8 0, .int .u8 0, .int .u8 2, .int .u8 0, .int .u8 0] 5)) (alloc_blk (o' := (.cells #[.int .i64 0, .int .i64 0, .int .i64 0, .int .i64 0, .int .i64 0, .int .i64 0, .int .i64 0, .int .i64 0, .int .i64 0, .int .i64 0, .bool false, .string ⟨#[]⟩, .slice a5 0 c5] 24)) (ext_blk hx5 BX4.out))))
    | (go_at_call 11; (with_reducible refine (same8 _ _ bs0 bs0 _ RV.out RL.out).mono ?_); rintro e x6 ⟨rfl, hx6⟩; have hX6 : Ext x2 x6 := HX6.out.trans hx6; have BM := Lib.hid (ext_blk hX6 BM2.out); have BX := Lib.hid (ext_blk hx6 BX5.out); obtain ⟨p0, _⟩ := blkG BM.out 0 (.int .i64 2) rfl; obtain ⟨q0, _⟩ := blkG BX.out 0 (.int .i64 2) rfl; obtain ⟨p1, _⟩ := blkG BM.out 1 (.int .i64 0) rfl; obtain ⟨q1, _⟩ := blkG BX.out 1 (.int .i64 0) rfl; obtain ⟨p2, _⟩ := blkG BM.out 2 (.int .i64 1) rfl; obtain ⟨q2, _⟩ := blkG BX.out 2 (.int .i64 1) rfl; obtain ⟨p3, _⟩ := blkG BM.out 3 (.int .i64 1) rfl; obtain ⟨q3, _⟩ := blkG BX.out 3 (.int .i64 1) rfl; obtain ⟨p4, _⟩ := blkG BM.out 4 (.int .i64 0) rfl; obtain ⟨q4, _⟩ := blkG BX.out 4 (.int .i64 0) rfl; obtain ⟨p5, _⟩ := blkG BM.out 5 (.int .i64 0) rfl; obtain ⟨q5, _⟩ := blkG BX.out 5 (.int .i64 0) rfl; obtain ⟨p6, _⟩ := blkG BM.out 6 (.int .i64 0) rfl; obtain ⟨q6, _⟩ := blkG BX.out 6 (.int .i64 0) rfl; obtain ⟨p7, _⟩ := blkG BM.out 7 (.int .i64 0) rfl; obtain ⟨q7, _⟩ := blkG BX.out 7 (.int .i64 0) rfl; obtain ⟨p8, _⟩ := blkG BM.out 8 (.int .i64 0) rfl; obtain ⟨q8, _⟩ := blkG BX.out 8 (.int .i64 0) rfl; obtain ⟨p9, _⟩ := blkG BM.out 9 (.int .i64 0) rfl; obtain ⟨q9, _⟩ := blkG BX.out 9 (.int .i64 0) rfl; obtain ⟨p10, _⟩ := blkG BM.out 10 (.bool true) rfl; obtain ⟨q10, _⟩ := blkG BX.out 10 (.bool true) rfl; obtain ⟨p11, _⟩ := blkG BM.out 11 (.string ⟨#[]⟩) rfl; obtain ⟨q11, _⟩ := blkG BX.out 11 (.string ⟨#[]⟩) rfl; obtain ⟨p12, _⟩ := blkG BM.out 12 (.slice none 0 0) rfl; obtain ⟨q12, _⟩ := blkG BX.out 12 (.slice a2 0 c2) rfl)
    | (go_at_call 12; with_reducible refine (HSM.out _ _ _ _ _ (OwnS.rd (HO2.out.ext hX6)) SlS.nil).mono ?_; rintro e x7 ⟨rfl, hx7⟩)
    | (go_at_call 9; with_reducible refine (HN1.out _).mono ?_; rintro e x8 ⟨rfl, hx8⟩)
    | (go_at_call 9; with_reducible refine (HN2.out _).mono ?_; rintro e x9 ⟨rfl, hx9⟩))
  go_ret
  exact ⟨rfl, Ext.trans ((Ext.refl w).alloc _) (hx1.trans (hx2.trans (hX6.trans (hx7.trans (hx8.trans hx9)))))⟩
end
section

theorem heads_split (l : List Int) (k : Nat) (hk : k < l.length) : l.flatMap numL = (l.take k).flatMap numL ++ numL l[k] ++ (l.drop (k + 1)).flatMap numL := by
  have h : l = l.take k ++ l[k] :: l.drop (k + 1) := by rw [← List.drop_eq_getElem_cons hk, List.take_append_drop]
  conv => lhs; rw [h]
  rw [List.flatMap_append, List.flatMap_cons, List.append_assoc]
theorem stN_put (bs : List UInt8) (l : List Int) (tail : List UInt8) (hbs : bs = l.flatMap numL ++ tail) (hl : ∀ n ∈ l, I64 n) : ∀ k, k ≤ l.length → stN bs k = ⟨((l.take k).flatMap numL).length, 0⟩ ∧ ∀ (h : k < l.length), vN bs k = l[k]
  | 0, _ => by
    refine ⟨by simp [stN], fun h => ?_⟩
    have hs := heads_split l 0 h
    obtain ⟨h0, h1⟩ := hl _ (List.getElem_mem h)
    have := rNum_put [] ((l.drop 1).flatMap numL ++ tail) l[0] h0 h1
    have e : bs = [] ++ numL l[0] ++ ((l.drop 1).flatMap numL ++ tail) := by rw [hbs, hs]; simp
    rw [vN, stN, e]
    simp only [List.length_nil] at this
    rw [this]
  | k + 1, hk => by
    obtain ⟨i1, i2⟩ := stN_put bs l tail hbs hl k (by omega)
    have hk' : k < l.length := hk
    have step : ∀ j (hj : j < l.length), rNum bs ⟨((l.take j).flatMap numL).length, 0⟩ = (l[j], ⟨((l.take j).flatMap numL).length + (numL l[j]).length, 0⟩) := fun j hj => by
      obtain ⟨h0, h1⟩ := hl _ (List.getElem_mem hj)
      have h := rNum_put ((l.take j).flatMap numL) ((l.drop (j + 1)).flatMap numL ++ tail) l[j] h0 h1
      have e : bs = (l.take j).flatMap numL ++ numL l[j] ++ ((l.drop (j + 1)).flatMap numL ++ tail) := by rw [hbs, heads_split l j hj]; simp [List.append_assoc]
      rw [e]
      exact h
    have hs : stN bs (k + 1) = ⟨((l.take (k + 1)).flatMap numL).length, 0⟩ := by
      rw [stN, i1, step k hk', List.take_succ_eq_append_getElem hk', List.flatMap_append, List.length_append]
      simp only [List.flatMap_cons, List.flatMap_nil, List.append_nil]
    refine ⟨hs, fun h => ?_⟩
    rw [vN, hs, step (k + 1) h]
theorem bytes_back (s : ByteArray) : (⟨(bytesOf s).toArray⟩ : ByteArray) = s := by
  cases s
  simp [bytesOf]
theorem entR_put (pre post : List UInt8) (x : Ent) (h1 : I64 x.term) (h2 : I64 x.members) (h3 : x.data.size ≤ 1100) : entR (pre ++ entL x ++ post) ⟨pre.length, 0⟩ = (x, ⟨pre.length + (entL x).length, 0⟩) := by
  have a1 := rNum_put pre (numL x.members ++ textL x.data ++ post) x.term h1.1 h1.2
  have a2 := rNum_put (pre ++ numL x.term) (textL x.data ++ post) x.members h2.1 h2.2
  have a3 := rText_put (pre ++ numL x.term ++ numL x.members) post x.data 1100 (by omega) (by omega)
  have e1 : pre ++ entL x ++ post = pre ++ numL x.term ++ (numL x.members ++ textL x.data ++ post) := by simp [entL, List.append_assoc]
  have e2 : pre ++ entL x ++ post = pre ++ numL x.term ++ numL x.members ++ (textL x.data ++ post) := by simp [entL, List.append_assoc]
  have e3 : pre ++ entL x ++ post = pre ++ numL x.term ++ numL x.members ++ textL x.data ++ post := by simp [entL, List.append_assoc]
  rw [← e1] at a1
  rw [← e2] at a2
  rw [← e3] at a3
  have l1 : (pre ++ numL x.term).length = pre.length + (numL x.term).length := List.length_append
  have l2 : (pre ++ numL x.term ++ numL x.members).length = pre.length + (numL x.term).length + (numL x.members).length := by simp; omega
  rw [l1] at a2
  rw [l2] at a3
  have l3 : (pre ++ numL x.term).length + (numL x.members).length = pre.length + (numL x.term).length + (numL x.members).length := by simp
  unfold entR
  rw [a1]
  simp only []
  rw [a2]
  simp only []
  rw [a3]
  simp only [bytes_back]
  congr 2
  simp [entL]
  omega
theorem ents_put (pre : List UInt8) (bs : List UInt8) (es : List Ent) (hbs : bs = pre ++ es.flatMap entL) (hes : ∀ x ∈ es, I64 x.term ∧ I64 x.members ∧ x.data.size ≤ 1100) : ∀ k, k ≤ es.length → entSt bs ⟨pre.length, 0⟩ k = ⟨(pre ++ (es.take k).flatMap entL).length, 0⟩ ∧ entsAt bs ⟨pre.length, 0⟩ k = es.take k
  | 0, _ => by simp [entSt, entsAt]
  | k + 1, hk => by
    obtain ⟨i1, i2⟩ := ents_put pre bs es hbs hes k (by omega)
    have hk' : k < es.length := hk
    obtain ⟨h1, h2, h3⟩ := hes _ (List.getElem_mem hk')
    have h := entR_put (pre ++ (es.take k).flatMap entL) ((es.drop (k + 1)).flatMap entL) es[k] h1 h2 h3
    have e : bs = pre ++ (es.take k).flatMap entL ++ entL es[k] ++ (es.drop (k + 1)).flatMap entL := by
      have h : es = es.take k ++ es[k] :: es.drop (k + 1) := by rw [← List.drop_eq_getElem_cons hk', List.take_append_drop]
      rw [hbs]
      conv => lhs; rw [h]
      rw [List.flatMap_append, List.flatMap_cons, List.append_assoc, List.append_assoc]
    rw [← e] at h
    refine ⟨?_, ?_⟩
    · rw [entSt, i1, h, List.take_succ_eq_append_getElem hk', List.flatMap_append, ← List.append_assoc, List.length_append (bs := List.flatMap entL [es[k]])]
      simp only [List.flatMap_cons, List.flatMap_nil, List.append_nil]
    · rw [entsAt_succ, i2, i1, h, List.take_succ_eq_append_getElem hk']
theorem ents_ge : ∀ es : List Ent, es.length ≤ (es.flatMap entL).length
  | [] => by simp
  | x :: es => by
    have h1 := (numL_len x.term).1
    have h2 := ents_ge es
    rw [List.flatMap_cons, List.length_append, List.length_cons, entL, List.length_append, List.length_append]
    omega
/-- A right letter comes back from its bytes. -/
theorem back_is {m : Lt} {es : List Ent} (h : RightP m es) : GetIs (ltL m es) m es 0 := by
  obtain ⟨hs, h8, hd, he⟩ := right_small h
  obtain ⟨bs, hbs⟩ : ∃ bs, ltL m es = bs := ⟨_, rfl⟩
  have hb1 : bs = (headL m).flatMap numL ++ (numL (if m.yes then 1 else 0) ++ textL m.data ++ numL es.length ++ es.flatMap entL) := by
    rw [← hbs, ltL, startL]; simp [List.append_assoc]
  have hS := fun k hk => stN_put bs (headL m) _ hb1 hs.head k hk
  have s10 : stN bs 10 = ⟨((headL m).flatMap numL).length, 0⟩ := by
    have := (hS 10 (by simp [headL])).1
    rwa [List.take_of_length_le (by simp [headL])] at this
  have hf := rFlag_put ((headL m).flatMap numL) (textL m.data ++ numL es.length ++ es.flatMap entL) m.yes
  have ef : (headL m).flatMap numL ++ numL (if m.yes then 1 else 0) ++ (textL m.data ++ numL es.length ++ es.flatMap entL) = bs := by rw [hb1]; simp [List.append_assoc]
  rw [ef, ← s10] at hf
  have hf' : flR bs = (m.yes, ⟨((headL m).flatMap numL ++ numL (if m.yes then 1 else 0)).length, 0⟩) := by
    rw [flR, hf, List.length_append]
  have ht := rText_put ((headL m).flatMap numL ++ numL (if m.yes then 1 else 0)) (numL es.length ++ es.flatMap entL) m.data 600 (by omega) (by omega)
  have et : (headL m).flatMap numL ++ numL (if m.yes then 1 else 0) ++ textL m.data ++ (numL es.length ++ es.flatMap entL) = bs := by rw [hb1]; simp [List.append_assoc]
  rw [et] at ht
  have ht' : txR bs = (bytesOf m.data, ⟨((headL m).flatMap numL ++ numL (if m.yes then 1 else 0) ++ textL m.data).length, 0⟩) := by
    rw [txR, hf']
    simp only []
    rw [ht]
    simp [Nat.add_assoc]
  have hc := rCount_put ((headL m).flatMap numL ++ numL (if m.yes then 1 else 0) ++ textL m.data) (es.flatMap entL) es.length 8 (by omega) (ents_ge es) (by omega)
  have ec : (headL m).flatMap numL ++ numL (if m.yes then 1 else 0) ++ textL m.data ++ numL es.length ++ es.flatMap entL = bs := by rw [hb1]; simp [List.append_assoc]
  rw [ec] at hc
  have hc' : coR bs = ((es.length : Int), ⟨(startL m es.length).length, 0⟩) := by
    rw [coR, ht']
    simp only []
    rw [hc, startL]
    simp [Nat.add_assoc]
  have hn : gN bs = es.length := by rw [gN, hc']; simp
  have hp := ents_put (startL m es.length) bs es (by rw [← hbs, ltL]) (fun x hx => by
    obtain ⟨p1, p2, _⟩ := hs.ents x hx
    exact ⟨p1, p2, he x hx⟩) es.length (Nat.le_refl _)
  rw [List.take_length] at hp
  have hE : gEs bs = es := by rw [gEs, hc', hn]; exact hp.2
  have hM : gM bs = m := by
    have v := fun k (hk : k < (headL m).length) => (hS k (by omega)).2 hk
    have v0 := v 0 (by simp [headL])
    have v1 := v 1 (by simp [headL])
    have v2 := v 2 (by simp [headL])
    have v3 := v 3 (by simp [headL])
    have v4 := v 4 (by simp [headL])
    have v5 := v 5 (by simp [headL])
    have v6 := v 6 (by simp [headL])
    have v7 := v 7 (by simp [headL])
    have v8 := v 8 (by simp [headL])
    have v9 := v 9 (by simp [headL])
    simp only [headL, List.getElem_cons_zero, List.getElem_cons_succ] at v0 v1 v2 v3 v4 v5 v6 v7 v8 v9
    unfold gM
    rw [v0, v1, v2, v3, v4, v5, v6, v7, v8, v9, hf', ht']
    simp only [bytes_back]
  have hX : gErr bs = 0 := by
    rw [gErr, hc', hn]
    simp only []
    rw [hp.1, rEnd, if_neg]
    rintro ⟨_, h2⟩
    rw [← hbs, ltL] at h2
    exact absurd h2 (Nat.lt_irrefl _)
  rw [hbs]
  exact .inr (.inl ⟨hX, by rw [hM, hE]; exact h, rfl, hM.symm, hE.symm⟩)

theorem heads_step (bs : List UInt8) : ∀ k, (stN bs k).err = 0 → Rd1 bs ⟨0, 0⟩ (stN bs k) ((List.range k).flatMap fun i => numL (vN bs i))
  | 0, _ => Rd1.nil rfl
  | k + 1, h => by
    have h1 := rNum_step bs (stN bs k) h
    have h2 := (heads_step bs k h1.e0).trans h1
    rw [List.range_succ, List.flatMap_append]
    simp only [List.flatMap_cons, List.flatMap_nil, List.append_nil]
    exact h2
theorem entR_step (bs : List UInt8) (s : RS) (h : (entR bs s).2.err = 0) (h63 : bs.length ≤ 9223372036854775807) : Rd1 bs s (entR bs s).2 (entL (entR bs s).1) := by
  have h3 := rText_step bs _ 1100 h h63
  have h2 := rNum_step bs _ h3.e0
  have h1 := rNum_step bs s h2.e0
  exact (h1.trans h2).trans h3
theorem ents_step (bs : List UInt8) (s : RS) (h63 : bs.length ≤ 9223372036854775807) (hs : s.err = 0 ∨ True) : ∀ k, (entSt bs s k).err = 0 → Rd1 bs s (entSt bs s k) ((entsAt bs s k).flatMap entL)
  | 0, h => Rd1.nil h
  | k + 1, h => by
    have h1 := entR_step bs (entSt bs s k) h h63
    have h2 := (ents_step bs s h63 hs k h1.e0).trans h1
    rw [entsAt_succ, List.flatMap_append]
    simp only [List.flatMap_cons, List.flatMap_nil, List.append_nil]
    exact h2
/-- What bytes are read as has these bytes. -/
theorem read_is {bs : List UInt8} (h : gErr bs = 0) (h63 : bs.length ≤ 9223372036854775807) : ltL (gM bs) (gEs bs) = bs := by
  unfold gErr rEnd at h
  by_cases hc : (entSt bs (coR bs).2 (gN bs)).err = 0 ∧ (entSt bs (coR bs).2 (gN bs)).at_ < bs.length
  · rw [if_pos hc] at h
    cases h
  · rw [if_neg hc] at h
    have h5 := ents_step bs (coR bs).2 h63 (.inr trivial) (gN bs) h
    have h4 := rCount_step bs (txR bs).2 8 h5.e0
    have h3 := rText_step bs (flR bs).2 600 h4.e0 h63
    have h2 := rFlag_step bs (stN bs 10) h3.e0
    have h1 := heads_step bs 10 h2.e0
    have hall := ((((h1.trans h2).trans h3).trans h4).trans h5).all (fun hlt => hc ⟨h, hlt⟩)
    have e1 : (List.range 10).flatMap (fun i => numL (vN bs i)) = (headL (gM bs)).flatMap numL := by
      simp [List.range_succ, headL, gM]
    have e4 : (rCount bs (txR bs).2 8).1 = (gN bs : Int) := (gN_cast bs).1
    rw [e1, e4] at hall
    have hl : (gEs bs).length = gN bs := by rw [gEs, entsAt_len]
    rw [ltL, startL, hl]
    exact hall
end
section

theorem get_total (bs : List UInt8) : ∃ m es err, GetIs bs m es err := by
  by_cases h : gErr bs = 0
  · by_cases h2 : RightP (gM bs) (gEs bs)
    · exact ⟨_, _, _, .inr (.inl ⟨h, h2, rfl, rfl, rfl⟩)⟩
    · exact ⟨_, _, _, .inr (.inr ⟨h, h2, rfl, rfl, rfl⟩)⟩
  · exact ⟨_, _, _, .inl ⟨h, rfl, rfl, rfl⟩⟩
theorem get_ok {bs : List UInt8} {m : Lt} {es : List Ent} {err : Int} (h : GetIs bs m es err) (he : err = 0) (h63 : bs.length ≤ 9223372036854775807) : RightP m es ∧ ltL m es = bs := by
  rcases h with ⟨a, b, _, _⟩ | ⟨a, r, _, rfl, rfl⟩ | ⟨_, _, b, _, _⟩
  · exact absurd (b.symm.trans he) a
  · exact ⟨r, read_is a h63⟩
  · rw [he] at b; cases b

set_option maxHeartbeats 16000000 in
set_option maxRecDepth 100000 in
theorem lback_ro (m g : Lt) (a ab : Option Addr) (c n cb n2 : Nat) (es2 eg : List Ent) (bs : List UInt8) (err : Int) (hlen : es2.length = n2) (hc : n ≤ c) (hcm : c ≤ 9223372036854775807) (hn2 : min n 20 = n2) (w : World) (hl2 : SlS Ent.cells 3 w (.slice a n2 c) es2) (hb : Rd8 w (.slice ab bs.length cb) bs) (hbl : bs.length ≤ 140737488355328) (hR : RightP m es2) (hG : GetIs bs g eg err) (he : err = 0) : Calls Try.prog 7 #[m.agg (.slice a n c), .slice ab bs.length cb] w fun e w' => e = .returned (.bool true) ∧ Ext w w' := by
  have hf := fun z => lfew_any m a c n hc hcm z
  rw [hn2] at hf
  have hn20 : n2 ≤ 20 := by omega
  have hr := fun z (hz : Ext w z) => lright_is m a c n2 es2 hlen true ⟨fun _ => hR, fun _ => rfl⟩ z (SlS.ext hl2 hz)
  have hgb := fun z (hz : Ext w z) => get_is _ bs g eg err hG z (hb.ext hz) hbl
  have hpy := fun z (hz : Ext w z) => lput_yes m a c n2 es2 hlen z (SlS.ext hl2 hz) hR
  have hbl2 : (ltL m es2).length ≤ 140737488355328 := by
    have := (right_small hR).1.mid es2.length
    rw [List.take_length] at this
    rw [ltL]
    omega
  have hg2 := fun v z (hr : Rd8 z v (ltL m es2)) => get_is v (ltL m es2) m es2 0 (back_is hR) z hr hbl2
  have hsm := fun a' c' z hz (ha : SlS Ent.cells 3 z (.slice a' n2 c') es2) => lsame_yes m a' a c' c n2 es2 hlen z ha (SlS.ext hl2 hz) (by omega)
  obtain ⟨L, hL⟩ : ∃ L, ltL m es2 = L := ⟨_, rfl⟩
  rw [hL] at hpy hg2
  rw [hlen] at hg2
  clear hL hbl2
  obtain ⟨hrg, hlg⟩ := get_ok hG he (by omega)
  have hpg := fun a' c' z (ha : SlS Ent.cells 3 z (.slice a' eg.length c') eg) => lput_yes g a' c' eg.length eg rfl z ha hrg
  rw [hlg] at hpg
  subst he
  clear hrg hlg
  obtain ⟨kind, fr, to, te, ix, at_, co, me, off, sz, yes, data⟩ := m
  simp only [Lt.agg] at hr hf hgb hpy hg2 hsm hpg ⊢
  have HR := Lib.hid hr
  have HF := Lib.hid hf
  have HGB := Lib.hid hgb
  have HB := Lib.hid hb
  have HP := Lib.hid hpy
  have HG2 := Lib.hid hg2
  have HSM := Lib.hid hsm
  have HPG := Lib.hid hpg
  clear hr hf hgb hb hl2 hR hG hn2 hlen hpy hg2 hsm hpg
  go_enter Try.func7, Try.ntmps7
  go_wp2_with (first
    | (go_at_call 13; with_reducible refine (HF.out _).mono ?_; rintro e x1 ⟨rfl, hx1⟩; have BM1 := Lib.hid (ext_blk hx1 (new_blk w (.cells #[.int .i64 kind, .int .i64 fr, .int .i64 to, .int .i64 te, .int .i64 ix, .int .i64 at_, .int .i64 co, .int .i64 me, .int .i64 off, .int .i64 sz, .bool yes, .string data, .slice a n c] 24))); have BS : Hid ((((((((((((((x1.setCell ⟨w.heap.size, 0, none⟩ (.int .i64 kind)).setCell ⟨w.heap.size, 1, none⟩ (.int .i64 fr)).setCell ⟨w.heap.size, 2, none⟩ (.int .i64 to)).setCell ⟨w.heap.size, 3, none⟩ (.int .i64 te)).setCell ⟨w.heap.size, 4, none⟩ (.int .i64 ix)).setCell ⟨w.heap.size, 5, none⟩ (.int .i64 at_)).setCell ⟨w.heap.size, 6, none⟩ (.int .i64 co)).setCell ⟨w.heap.size, 7, none⟩ (.int .i64 me)).setCell ⟨w.heap.size, 8, none⟩ (.int .i64 off)).setCell ⟨w.heap.size, 9, none⟩ (.int .i64 sz)).setCell ⟨w.heap.size, 10, none⟩ (.bool yes)).setCell ⟨w.heap.size, 11, none⟩ (.string data)).setCell ⟨w.heap.size, 12, none⟩ (.slice a n2 c)).heap[w.heap.size]? = some (.cells #[.int .i64 kind, .int .i64 fr, .int .i64 to, .int .i64 te, .int .i64 ix, .int .i64 at_, .int .i64 co, .int .i64 me, .int .i64 off, .int .i64 sz, .bool yes, .string data, .slice a n2 c] 24 (0, 0))) := Lib.hid (set13_blk BM1.out); have hX1 : Ext w x1 := Ext.trans ((Ext.refl w).alloc _) hx1; have HXS : Hid (Ext w (((((((((((((x1.setCell ⟨w.heap.size, 0, none⟩ (.int .i64 kind)).setCell ⟨w.heap.size, 1, none⟩ (.int .i64 fr)).setCell ⟨w.heap.size, 2, none⟩ (.int .i64 to)).setCell ⟨w.heap.size, 3, none⟩ (.int .i64 te)).setCell ⟨w.heap.size, 4, none⟩ (.int .i64 ix)).setCell ⟨w.heap.size, 5, none⟩ (.int .i64 at_)).setCell ⟨w.heap.size, 6, none⟩ (.int .i64 co)).setCell ⟨w.heap.size, 7, none⟩ (.int .i64 me)).setCell ⟨w.heap.size, 8, none⟩ (.int .i64 off)).setCell ⟨w.heap.size, 9, none⟩ (.int .i64 sz)).setCell ⟨w.heap.size, 10, none⟩ (.bool yes)).setCell ⟨w.heap.size, 11, none⟩ (.string data)).setCell ⟨w.heap.size, 12, none⟩ (.slice a n2 c))) := Lib.hid ((((((((((((((hX1.setCell (p := ⟨w.heap.size, 0, none⟩) (Nat.le_refl _) (.int .i64 kind)).setCell (p := ⟨w.heap.size, 1, none⟩) (Nat.le_refl _) (.int .i64 fr)).setCell (p := ⟨w.heap.size, 2, none⟩) (Nat.le_refl _) (.int .i64 to)).setCell (p := ⟨w.heap.size, 3, none⟩) (Nat.le_refl _) (.int .i64 te)).setCell (p := ⟨w.heap.size, 4, none⟩) (Nat.le_refl _) (.int .i64 ix)).setCell (p := ⟨w.heap.size, 5, none⟩) (Nat.le_refl _) (.int .i64 at_)).setCell (p := ⟨w.heap.size, 6, none⟩) (Nat.le_refl _) (.int .i64 co)).setCell (p := ⟨w.heap.size, 7, none⟩) (Nat.le_refl _) (.int .i64 me)).setCell (p := ⟨w.heap.size, 8, none⟩) (Nat.le_refl _) (.int .i64 off)).setCell (p := ⟨w.heap.size, 9, none⟩) (Nat.le_refl _) (.int .i64 sz)).setCell (p := ⟨w.heap.size, 10, none⟩) (Nat.le_refl _) (.bool yes)).setCell (p := ⟨w.heap.size, 11, none⟩) (Nat.le_refl _) (.string data)).setCell (p := ⟨w.heap.size, 12, none⟩) (Nat.le_refl _) (.slice a n2 c))); have zx1 := blk_lt BM1.out; obtain ⟨k0, l0⟩ := blkG BM1.out 0 (.int .i64 kind) rfl; obtain ⟨k1, l1⟩ := blkG BM1.out 1 (.int .i64 fr) rfl; obtain ⟨k2, l2⟩ := blkG BM1.out 2 (.int .i64 to) rfl; obtain ⟨k3, l3⟩ := blkG BM1.out 3 (.int .i64 te) rfl; obtain ⟨k4, l4⟩ := blkG BM1.out 4 (.int .i64 ix) rfl; obtain ⟨k5, l5⟩ := blkG BM1.out 5 (.int .i64 at_) rfl; obtain ⟨k6, l6⟩ := blkG BM1.out 6 (.int .i64 co) rfl; obtain ⟨k7, l7⟩ := blkG BM1.out 7 (.int .i64 me) rfl; obtain ⟨k8, l8⟩ := blkG BM1.out 8 (.int .i64 off) rfl; obtain ⟨k9, l9⟩ := blkG BM1.out 9 (.int .i64 sz) rfl; obtain ⟨k10, l10⟩ := blkG BM1.out 10 (.bool yes) rfl; obtain ⟨k11, l11⟩ := blkG BM1.out 11 (.string data) rfl; obtain ⟨k12, l12⟩ := blkG BM1.out 12 (.slice a n c) rfl)
    | (go_at_call 17; with_reducible refine (HR.out _ HXS.out).mono ?_; rintro e x2 ⟨rfl, hx2⟩; have BM2 := Lib.hid (ext_blk hx2 BS.out); have HX2 := Lib.hid (HXS.out.trans hx2); obtain ⟨p0, _⟩ := blkG BM2.out 0 (.int .i64 kind) rfl; obtain ⟨p1, _⟩ := blkG BM2.out 1 (.int .i64 fr) rfl; obtain ⟨p2, _⟩ := blkG BM2.out 2 (.int .i64 to) rfl; obtain ⟨p3, _⟩ := blkG BM2.out 3 (.int .i64 te) rfl; obtain ⟨p4, _⟩ := blkG BM2.out 4 (.int .i64 ix) rfl; obtain ⟨p5, _⟩ := blkG BM2.out 5 (.int .i64 at_) rfl; obtain ⟨p6, _⟩ := blkG BM2.out 6 (.int .i64 co) rfl; obtain ⟨p7, _⟩ := blkG BM2.out 7 (.int .i64 me) rfl; obtain ⟨p8, _⟩ := blkG BM2.out 8 (.int .i64 off) rfl; obtain ⟨p9, _⟩ := blkG BM2.out 9 (.int .i64 sz) rfl; obtain ⟨p10, _⟩ := blkG BM2.out 10 (.bool yes) rfl; obtain ⟨p11, _⟩ := blkG BM2.out 11 (.string data) rfl; obtain ⟨p12, _⟩ := blkG BM2.out 12 (.slice a n2 c) rfl)
    | (go_at_call 9; with_reducible refine (HP.out _ HX2.out).mono ?_; rintro e x3 ⟨v3, rfl, ho3, hx3⟩; have HO3 := Lib.hid ho3; clear ho3)
    | (go_at_call 10; with_reducible refine (HG2.out _ _ (Own8.rd HO3.out)).mono ?_; rintro e x4 ⟨a4, c4, rfl, ho4, hx4⟩; have BM4 := Lib.hid (ext_blk hx4 (ext_blk hx3 BM2.out)); have HX4 := Lib.hid (HX2.out.trans (hx3.trans hx4)); have HO4 := Lib.hid ho4; clear ho4; have HX4A := Lib.hid (HX4.out.alloc (.cells #[.int .i64 kind, .int .i64 fr, .int .i64 to, .int .i64 te, .int .i64 ix, .int .i64 at_, .int .i64 co, .int .i64 me, .int .i64 off, .int .i64 sz, .bool yes, .string data, .slice a4 n2 c4] 24)); have zx4 := blk_lt BM4.out; obtain ⟨r0, _⟩ := blkG BM4.out 0 (.int .i64 kind) rfl; obtain ⟨r1, _⟩ := blkG BM4.out 1 (.int .i64 fr) rfl; obtain ⟨r2, _⟩ := blkG BM4.out 2 (.int .i64 to) rfl; obtain ⟨r3, _⟩ := blkG BM4.out 3 (.int .i64 te) rfl; obtain ⟨r4, _⟩ := blkG BM4.out 4 (.int .i64 ix) rfl; obtain ⟨r5, _⟩ := blkG BM4.out 5 (.int .i64 at_) rfl; obtain ⟨r6, _⟩ := blkG BM4.out 6 (.int .i64 co) rfl; obtain ⟨r7, _⟩ := blkG BM4.out 7 (.int .i64 me) rfl; obtain ⟨r8, _⟩ := blkG BM4.out 8 (.int .i64 off) rfl; obtain ⟨r9, _⟩ := blkG BM4.out 9 (.int .i64 sz) rfl; obtain ⟨r10, _⟩ := blkG BM4.out 10 (.bool yes) rfl; obtain ⟨r11, _⟩ := blkG BM4.out 11 (.string data) rfl; obtain ⟨r12, _⟩ := blkG BM4.out 12 (.slice a n2 c) rfl)
    | (go_at_call 12; with_reducible refine (HSM.out _ _ _ HX4A.out (OwnS.rd (HO4.out.ext ((Ext.refl x4).alloc _)))).mono ?_; rintro e x5 ⟨rfl, hx5⟩; have HX5 := Lib.hid (HX4A.out.trans hx5))
    | (go_at_call 10; with_reducible refine (HGB.out _ HX5.out).mono ?_; rintro e x6 ⟨a6, c6, rfl, ho6, hx6⟩; have HX6 := Lib.hid (HX5.out.trans hx6); have HO6 := Lib.hid ho6; clear ho6)
    | (go_at_call 9; with_reducible refine (HPG.out _ _ _ (OwnS.rd (HO6.out.ext ((Ext.refl x6).alloc _)))).mono ?_; rintro e x7 ⟨v7, rfl, ho7, hx7⟩; have HX7 := Lib.hid (Ext.trans (HX6.out.alloc _) hx7); have HO7 := Lib.hid ho7; clear ho7)
    | (go_at_call 11; (with_reducible refine (same8 _ _ bs bs _ (Own8.rd HO7.out) (HB.out.ext HX7.out)).mono ?_); rintro e x8 ⟨rfl, hx8⟩)
    | (go_at_call 3; refine (lruns_any _).mono ?_; rintro e x9 ⟨rfl, hx9⟩))
  go_ret
  exact ⟨rfl, HX7.out.trans (hx8.trans hx9)⟩

set_option maxHeartbeats 16000000 in
set_option maxRecDepth 100000 in
theorem lback_re (m g : Lt) (a ab : Option Addr) (c n cb n2 : Nat) (es2 eg : List Ent) (bs : List UInt8) (err : Int) (hlen : es2.length = n2) (hc : n ≤ c) (hcm : c ≤ 9223372036854775807) (hn2 : min n 20 = n2) (w : World) (hl2 : SlS Ent.cells 3 w (.slice a n2 c) es2) (hb : Rd8 w (.slice ab bs.length cb) bs) (hbl : bs.length ≤ 140737488355328) (hR : RightP m es2) (hG : GetIs bs g eg err) (he : err ≠ 0) : Calls Try.prog 7 #[m.agg (.slice a n c), .slice ab bs.length cb] w fun e w' => e = .returned (.bool true) ∧ Ext w w' := by
  have hf := fun z => lfew_any m a c n hc hcm z
  rw [hn2] at hf
  have hn20 : n2 ≤ 20 := by omega
  have hr := fun z (hz : Ext w z) => lright_is m a c n2 es2 hlen true ⟨fun _ => hR, fun _ => rfl⟩ z (SlS.ext hl2 hz)
  have hgb := fun z (hz : Ext w z) => get_is _ bs g eg err hG z (hb.ext hz) hbl
  have hpy := fun z (hz : Ext w z) => lput_yes m a c n2 es2 hlen z (SlS.ext hl2 hz) hR
  have hbl2 : (ltL m es2).length ≤ 140737488355328 := by
    have := (right_small hR).1.mid es2.length
    rw [List.take_length] at this
    rw [ltL]
    omega
  have hg2 := fun v z (hr : Rd8 z v (ltL m es2)) => get_is v (ltL m es2) m es2 0 (back_is hR) z hr hbl2
  have hsm := fun a' c' z hz (ha : SlS Ent.cells 3 z (.slice a' n2 c') es2) => lsame_yes m a' a c' c n2 es2 hlen z ha (SlS.ext hl2 hz) (by omega)
  obtain ⟨L, hL⟩ : ∃ L, ltL m es2 = L := ⟨_, rfl⟩
  rw [hL] at hpy hg2
  rw [hlen] at hg2
  clear hL hbl2
  have hne : (err != 0) = true := by simp [he]
  obtain ⟨kind, fr, to, te, ix, at_, co, me, off, sz, yes, data⟩ := m
  simp only [Lt.agg] at hr hf hgb hpy hg2 hsm  ⊢
  have HR := Lib.hid hr
  have HF := Lib.hid hf
  have HGB := Lib.hid hgb
  have HB := Lib.hid hb
  have HP := Lib.hid hpy
  have HG2 := Lib.hid hg2
  have HSM := Lib.hid hsm
  clear hr hf hgb hb hl2 hR hG hn2 hlen hpy hg2 hsm he
  go_enter Try.func7, Try.ntmps7
  go_wp2_with (first
    | (go_at_call 13; with_reducible refine (HF.out _).mono ?_; rintro e x1 ⟨rfl, hx1⟩; have BM1 := Lib.hid (ext_blk hx1 (new_blk w (.cells #[.int .i64 kind, .int .i64 fr, .int .i64 to, .int .i64 te, .int .i64 ix, .int .i64 at_, .int .i64 co, .int .i64 me, .int .i64 off, .int .i64 sz, .bool yes, .string data, .slice a n c] 24))); have BS : Hid ((((((((((((((x1.setCell ⟨w.heap.size, 0, none⟩ (.int .i64 kind)).setCell ⟨w.heap.size, 1, none⟩ (.int .i64 fr)).setCell ⟨w.heap.size, 2, none⟩ (.int .i64 to)).setCell ⟨w.heap.size, 3, none⟩ (.int .i64 te)).setCell ⟨w.heap.size, 4, none⟩ (.int .i64 ix)).setCell ⟨w.heap.size, 5, none⟩ (.int .i64 at_)).setCell ⟨w.heap.size, 6, none⟩ (.int .i64 co)).setCell ⟨w.heap.size, 7, none⟩ (.int .i64 me)).setCell ⟨w.heap.size, 8, none⟩ (.int .i64 off)).setCell ⟨w.heap.size, 9, none⟩ (.int .i64 sz)).setCell ⟨w.heap.size, 10, none⟩ (.bool yes)).setCell ⟨w.heap.size, 11, none⟩ (.string data)).setCell ⟨w.heap.size, 12, none⟩ (.slice a n2 c)).heap[w.heap.size]? = some (.cells #[.int .i64 kind, .int .i64 fr, .int .i64 to, .int .i64 te, .int .i64 ix, .int .i64 at_, .int .i64 co, .int .i64 me, .int .i64 off, .int .i64 sz, .bool yes, .string data, .slice a n2 c] 24 (0, 0))) := Lib.hid (set13_blk BM1.out); have hX1 : Ext w x1 := Ext.trans ((Ext.refl w).alloc _) hx1; have HXS : Hid (Ext w (((((((((((((x1.setCell ⟨w.heap.size, 0, none⟩ (.int .i64 kind)).setCell ⟨w.heap.size, 1, none⟩ (.int .i64 fr)).setCell ⟨w.heap.size, 2, none⟩ (.int .i64 to)).setCell ⟨w.heap.size, 3, none⟩ (.int .i64 te)).setCell ⟨w.heap.size, 4, none⟩ (.int .i64 ix)).setCell ⟨w.heap.size, 5, none⟩ (.int .i64 at_)).setCell ⟨w.heap.size, 6, none⟩ (.int .i64 co)).setCell ⟨w.heap.size, 7, none⟩ (.int .i64 me)).setCell ⟨w.heap.size, 8, none⟩ (.int .i64 off)).setCell ⟨w.heap.size, 9, none⟩ (.int .i64 sz)).setCell ⟨w.heap.size, 10, none⟩ (.bool yes)).setCell ⟨w.heap.size, 11, none⟩ (.string data)).setCell ⟨w.heap.size, 12, none⟩ (.slice a n2 c))) := Lib.hid ((((((((((((((hX1.setCell (p := ⟨w.heap.size, 0, none⟩) (Nat.le_refl _) (.int .i64 kind)).setCell (p := ⟨w.heap.size, 1, none⟩) (Nat.le_refl _) (.int .i64 fr)).setCell (p := ⟨w.heap.size, 2, none⟩) (Nat.le_refl _) (.int .i64 to)).setCell (p := ⟨w.heap.size, 3, none⟩) (Nat.le_refl _) (.int .i64 te)).setCell (p := ⟨w.heap.size, 4, none⟩) (Nat.le_refl _) (.int .i64 ix)).setCell (p := ⟨w.heap.size, 5, none⟩) (Nat.le_refl _) (.int .i64 at_)).setCell (p := ⟨w.heap.size, 6, none⟩) (Nat.le_refl _) (.int .i64 co)).setCell (p := ⟨w.heap.size, 7, none⟩) (Nat.le_refl _) (.int .i64 me)).setCell (p := ⟨w.heap.size, 8, none⟩) (Nat.le_refl _) (.int .i64 off)).setCell (p := ⟨w.heap.size, 9, none⟩) (Nat.le_refl _) (.int .i64 sz)).setCell (p := ⟨w.heap.size, 10, none⟩) (Nat.le_refl _) (.bool yes)).setCell (p := ⟨w.heap.size, 11, none⟩) (Nat.le_refl _) (.string data)).setCell (p := ⟨w.heap.size, 12, none⟩) (Nat.le_refl _) (.slice a n2 c))); have zx1 := blk_lt BM1.out; obtain ⟨k0, l0⟩ := blkG BM1.out 0 (.int .i64 kind) rfl; obtain ⟨k1, l1⟩ := blkG BM1.out 1 (.int .i64 fr) rfl; obtain ⟨k2, l2⟩ := blkG BM1.out 2 (.int .i64 to) rfl; obtain ⟨k3, l3⟩ := blkG BM1.out 3 (.int .i64 te) rfl; obtain ⟨k4, l4⟩ := blkG BM1.out 4 (.int .i64 ix) rfl; obtain ⟨k5, l5⟩ := blkG BM1.out 5 (.int .i64 at_) rfl; obtain ⟨k6, l6⟩ := blkG BM1.out 6 (.int .i64 co) rfl; obtain ⟨k7, l7⟩ := blkG BM1.out 7 (.int .i64 me) rfl; obtain ⟨k8, l8⟩ := blkG BM1.out 8 (.int .i64 off) rfl; obtain ⟨k9, l9⟩ := blkG BM1.out 9 (.int .i64 sz) rfl; obtain ⟨k10, l10⟩ := blkG BM1.out 10 (.bool yes) rfl; obtain ⟨k11, l11⟩ := blkG BM1.out 11 (.string data) rfl; obtain ⟨k12, l12⟩ := blkG BM1.out 12 (.slice a n c) rfl)
    | (go_at_call 17; with_reducible refine (HR.out _ HXS.out).mono ?_; rintro e x2 ⟨rfl, hx2⟩; have BM2 := Lib.hid (ext_blk hx2 BS.out); have HX2 := Lib.hid (HXS.out.trans hx2); obtain ⟨p0, _⟩ := blkG BM2.out 0 (.int .i64 kind) rfl; obtain ⟨p1, _⟩ := blkG BM2.out 1 (.int .i64 fr) rfl; obtain ⟨p2, _⟩ := blkG BM2.out 2 (.int .i64 to) rfl; obtain ⟨p3, _⟩ := blkG BM2.out 3 (.int .i64 te) rfl; obtain ⟨p4, _⟩ := blkG BM2.out 4 (.int .i64 ix) rfl; obtain ⟨p5, _⟩ := blkG BM2.out 5 (.int .i64 at_) rfl; obtain ⟨p6, _⟩ := blkG BM2.out 6 (.int .i64 co) rfl; obtain ⟨p7, _⟩ := blkG BM2.out 7 (.int .i64 me) rfl; obtain ⟨p8, _⟩ := blkG BM2.out 8 (.int .i64 off) rfl; obtain ⟨p9, _⟩ := blkG BM2.out 9 (.int .i64 sz) rfl; obtain ⟨p10, _⟩ := blkG BM2.out 10 (.bool yes) rfl; obtain ⟨p11, _⟩ := blkG BM2.out 11 (.string data) rfl; obtain ⟨p12, _⟩ := blkG BM2.out 12 (.slice a n2 c) rfl)
    | (go_at_call 9; with_reducible refine (HP.out _ HX2.out).mono ?_; rintro e x3 ⟨v3, rfl, ho3, hx3⟩; have HO3 := Lib.hid ho3; clear ho3)
    | (go_at_call 10; with_reducible refine (HG2.out _ _ (Own8.rd HO3.out)).mono ?_; rintro e x4 ⟨a4, c4, rfl, ho4, hx4⟩; have BM4 := Lib.hid (ext_blk hx4 (ext_blk hx3 BM2.out)); have HX4 := Lib.hid (HX2.out.trans (hx3.trans hx4)); have HO4 := Lib.hid ho4; clear ho4; have HX4A := Lib.hid (HX4.out.alloc (.cells #[.int .i64 kind, .int .i64 fr, .int .i64 to, .int .i64 te, .int .i64 ix, .int .i64 at_, .int .i64 co, .int .i64 me, .int .i64 off, .int .i64 sz, .bool yes, .string data, .slice a4 n2 c4] 24)); have zx4 := blk_lt BM4.out; obtain ⟨r0, _⟩ := blkG BM4.out 0 (.int .i64 kind) rfl; obtain ⟨r1, _⟩ := blkG BM4.out 1 (.int .i64 fr) rfl; obtain ⟨r2, _⟩ := blkG BM4.out 2 (.int .i64 to) rfl; obtain ⟨r3, _⟩ := blkG BM4.out 3 (.int .i64 te) rfl; obtain ⟨r4, _⟩ := blkG BM4.out 4 (.int .i64 ix) rfl; obtain ⟨r5, _⟩ := blkG BM4.out 5 (.int .i64 at_) rfl; obtain ⟨r6, _⟩ := blkG BM4.out 6 (.int .i64 co) rfl; obtain ⟨r7, _⟩ := blkG BM4.out 7 (.int .i64 me) rfl; obtain ⟨r8, _⟩ := blkG BM4.out 8 (.int .i64 off) rfl; obtain ⟨r9, _⟩ := blkG BM4.out 9 (.int .i64 sz) rfl; obtain ⟨r10, _⟩ := blkG BM4.out 10 (.bool yes) rfl; obtain ⟨r11, _⟩ := blkG BM4.out 11 (.string data) rfl; obtain ⟨r12, _⟩ := blkG BM4.out 12 (.slice a n2 c) rfl)
    | (go_at_call 12; with_reducible refine (HSM.out _ _ _ HX4A.out (OwnS.rd (HO4.out.ext ((Ext.refl x4).alloc _)))).mono ?_; rintro e x5 ⟨rfl, hx5⟩; have HX5 := Lib.hid (HX4A.out.trans hx5))
    | (go_at_call 10; with_reducible refine (HGB.out _ HX5.out).mono ?_; rintro e x6 ⟨a6, c6, rfl, ho6, hx6⟩; have HX6 := Lib.hid (HX5.out.trans hx6); have HO6 := Lib.hid ho6; clear ho6)
    | (go_at_call 3; refine (lruns_any _).mono ?_; rintro e x9 ⟨rfl, hx9⟩))
  go_ret
  exact ⟨rfl, Ext.trans (HX6.out.alloc _) hx9⟩

set_option maxHeartbeats 16000000 in
set_option maxRecDepth 100000 in
theorem lback_no (m g : Lt) (a ab : Option Addr) (c n cb n2 : Nat) (es2 eg : List Ent) (bs : List UInt8) (err : Int) (hlen : es2.length = n2) (hc : n ≤ c) (hcm : c ≤ 9223372036854775807) (hn2 : min n 20 = n2) (w : World) (hl2 : SlS Ent.cells 3 w (.slice a n2 c) es2) (hb : Rd8 w (.slice ab bs.length cb) bs) (hbl : bs.length ≤ 140737488355328) (hR : ¬ RightP m es2) (hG : GetIs bs g eg err) (he : err = 0) : Calls Try.prog 7 #[m.agg (.slice a n c), .slice ab bs.length cb] w fun e w' => e = .returned (.bool true) ∧ Ext w w' := by
  have hf := fun z => lfew_any m a c n hc hcm z
  rw [hn2] at hf
  have hn20 : n2 ≤ 20 := by omega
  have hr := fun z (hz : Ext w z) => lright_is m a c n2 es2 hlen false ⟨fun h => (by cases h), fun h => absurd h hR⟩ z (SlS.ext hl2 hz)
  have hgb := fun z (hz : Ext w z) => get_is _ bs g eg err hG z (hb.ext hz) hbl
  obtain ⟨hrg, hlg⟩ := get_ok hG he (by omega)
  have hpg := fun a' c' z (ha : SlS Ent.cells 3 z (.slice a' eg.length c') eg) => lput_yes g a' c' eg.length eg rfl z ha hrg
  rw [hlg] at hpg
  subst he
  clear hrg hlg
  obtain ⟨kind, fr, to, te, ix, at_, co, me, off, sz, yes, data⟩ := m
  simp only [Lt.agg] at hr hf hgb  hpg ⊢
  have HR := Lib.hid hr
  have HF := Lib.hid hf
  have HGB := Lib.hid hgb
  have HB := Lib.hid hb
  have HPG := Lib.hid hpg
  clear hr hf hgb hb hl2 hR hG hn2 hlen  hpg
  go_enter Try.func7, Try.ntmps7
  go_wp2_with (first
    | (go_at_call 13; with_reducible refine (HF.out _).mono ?_; rintro e x1 ⟨rfl, hx1⟩; have BM1 := Lib.hid (ext_blk hx1 (new_blk w (.cells #[.int .i64 kind, .int .i64 fr, .int .i64 to, .int .i64 te, .int .i64 ix, .int .i64 at_, .int .i64 co, .int .i64 me, .int .i64 off, .int .i64 sz, .bool yes, .string data, .slice a n c] 24))); have BS : Hid ((((((((((((((x1.setCell ⟨w.heap.size, 0, none⟩ (.int .i64 kind)).setCell ⟨w.heap.size, 1, none⟩ (.int .i64 fr)).setCell ⟨w.heap.size, 2, none⟩ (.int .i64 to)).setCell ⟨w.heap.size, 3, none⟩ (.int .i64 te)).setCell ⟨w.heap.size, 4, none⟩ (.int .i64 ix)).setCell ⟨w.heap.size, 5, none⟩ (.int .i64 at_)).setCell ⟨w.heap.size, 6, none⟩ (.int .i64 co)).setCell ⟨w.heap.size, 7, none⟩ (.int .i64 me)).setCell ⟨w.heap.size, 8, none⟩ (.int .i64 off)).setCell ⟨w.heap.size, 9, none⟩ (.int .i64 sz)).setCell ⟨w.heap.size, 10, none⟩ (.bool yes)).setCell ⟨w.heap.size, 11, none⟩ (.string data)).setCell ⟨w.heap.size, 12, none⟩ (.slice a n2 c)).heap[w.heap.size]? = some (.cells #[.int .i64 kind, .int .i64 fr, .int .i64 to, .int .i64 te, .int .i64 ix, .int .i64 at_, .int .i64 co, .int .i64 me, .int .i64 off, .int .i64 sz, .bool yes, .string data, .slice a n2 c] 24 (0, 0))) := Lib.hid (set13_blk BM1.out); have hX1 : Ext w x1 := Ext.trans ((Ext.refl w).alloc _) hx1; have HXS : Hid (Ext w (((((((((((((x1.setCell ⟨w.heap.size, 0, none⟩ (.int .i64 kind)).setCell ⟨w.heap.size, 1, none⟩ (.int .i64 fr)).setCell ⟨w.heap.size, 2, none⟩ (.int .i64 to)).setCell ⟨w.heap.size, 3, none⟩ (.int .i64 te)).setCell ⟨w.heap.size, 4, none⟩ (.int .i64 ix)).setCell ⟨w.heap.size, 5, none⟩ (.int .i64 at_)).setCell ⟨w.heap.size, 6, none⟩ (.int .i64 co)).setCell ⟨w.heap.size, 7, none⟩ (.int .i64 me)).setCell ⟨w.heap.size, 8, none⟩ (.int .i64 off)).setCell ⟨w.heap.size, 9, none⟩ (.int .i64 sz)).setCell ⟨w.heap.size, 10, none⟩ (.bool yes)).setCell ⟨w.heap.size, 11, none⟩ (.string data)).setCell ⟨w.heap.size, 12, none⟩ (.slice a n2 c))) := Lib.hid ((((((((((((((hX1.setCell (p := ⟨w.heap.size, 0, none⟩) (Nat.le_refl _) (.int .i64 kind)).setCell (p := ⟨w.heap.size, 1, none⟩) (Nat.le_refl _) (.int .i64 fr)).setCell (p := ⟨w.heap.size, 2, none⟩) (Nat.le_refl _) (.int .i64 to)).setCell (p := ⟨w.heap.size, 3, none⟩) (Nat.le_refl _) (.int .i64 te)).setCell (p := ⟨w.heap.size, 4, none⟩) (Nat.le_refl _) (.int .i64 ix)).setCell (p := ⟨w.heap.size, 5, none⟩) (Nat.le_refl _) (.int .i64 at_)).setCell (p := ⟨w.heap.size, 6, none⟩) (Nat.le_refl _) (.int .i64 co)).setCell (p := ⟨w.heap.size, 7, none⟩) (Nat.le_refl _) (.int .i64 me)).setCell (p := ⟨w.heap.size, 8, none⟩) (Nat.le_refl _) (.int .i64 off)).setCell (p := ⟨w.heap.size, 9, none⟩) (Nat.le_refl _) (.int .i64 sz)).setCell (p := ⟨w.heap.size, 10, none⟩) (Nat.le_refl _) (.bool yes)).setCell (p := ⟨w.heap.size, 11, none⟩) (Nat.le_refl _) (.string data)).setCell (p := ⟨w.heap.size, 12, none⟩) (Nat.le_refl _) (.slice a n2 c))); have zx1 := blk_lt BM1.out; obtain ⟨k0, l0⟩ := blkG BM1.out 0 (.int .i64 kind) rfl; obtain ⟨k1, l1⟩ := blkG BM1.out 1 (.int .i64 fr) rfl; obtain ⟨k2, l2⟩ := blkG BM1.out 2 (.int .i64 to) rfl; obtain ⟨k3, l3⟩ := blkG BM1.out 3 (.int .i64 te) rfl; obtain ⟨k4, l4⟩ := blkG BM1.out 4 (.int .i64 ix) rfl; obtain ⟨k5, l5⟩ := blkG BM1.out 5 (.int .i64 at_) rfl; obtain ⟨k6, l6⟩ := blkG BM1.out 6 (.int .i64 co) rfl; obtain ⟨k7, l7⟩ := blkG BM1.out 7 (.int .i64 me) rfl; obtain ⟨k8, l8⟩ := blkG BM1.out 8 (.int .i64 off) rfl; obtain ⟨k9, l9⟩ := blkG BM1.out 9 (.int .i64 sz) rfl; obtain ⟨k10, l10⟩ := blkG BM1.out 10 (.bool yes) rfl; obtain ⟨k11, l11⟩ := blkG BM1.out 11 (.string data) rfl; obtain ⟨k12, l12⟩ := blkG BM1.out 12 (.slice a n c) rfl)
    | (go_at_call 17; with_reducible refine (HR.out _ HXS.out).mono ?_; rintro e x2 ⟨rfl, hx2⟩; have BM2 := Lib.hid (ext_blk hx2 BS.out); have HX2 := Lib.hid (HXS.out.trans hx2))
    | (go_at_call 10; with_reducible refine (HGB.out _ HX2.out).mono ?_; rintro e x6 ⟨a6, c6, rfl, ho6, hx6⟩; have HX6 := Lib.hid (HX2.out.trans hx6); have HO6 := Lib.hid ho6; clear ho6)
    | (go_at_call 9; with_reducible refine (HPG.out _ _ _ (OwnS.rd (HO6.out.ext ((Ext.refl x6).alloc _)))).mono ?_; rintro e x7 ⟨v7, rfl, ho7, hx7⟩; have HX7 := Lib.hid (Ext.trans (HX6.out.alloc _) hx7); have HO7 := Lib.hid ho7; clear ho7)
    | (go_at_call 11; (with_reducible refine (same8 _ _ bs bs _ (Own8.rd HO7.out) (HB.out.ext HX7.out)).mono ?_); rintro e x8 ⟨rfl, hx8⟩)
    | (go_at_call 3; refine (lruns_any _).mono ?_; rintro e x9 ⟨rfl, hx9⟩))
  go_ret
  exact ⟨rfl, HX7.out.trans (hx8.trans hx9)⟩

set_option maxHeartbeats 16000000 in
set_option maxRecDepth 100000 in
theorem lback_ne (m g : Lt) (a ab : Option Addr) (c n cb n2 : Nat) (es2 eg : List Ent) (bs : List UInt8) (err : Int) (hlen : es2.length = n2) (hc : n ≤ c) (hcm : c ≤ 9223372036854775807) (hn2 : min n 20 = n2) (w : World) (hl2 : SlS Ent.cells 3 w (.slice a n2 c) es2) (hb : Rd8 w (.slice ab bs.length cb) bs) (hbl : bs.length ≤ 140737488355328) (hR : ¬ RightP m es2) (hG : GetIs bs g eg err) (he : err ≠ 0) : Calls Try.prog 7 #[m.agg (.slice a n c), .slice ab bs.length cb] w fun e w' => e = .returned (.bool true) ∧ Ext w w' := by
  have hf := fun z => lfew_any m a c n hc hcm z
  rw [hn2] at hf
  have hn20 : n2 ≤ 20 := by omega
  have hr := fun z (hz : Ext w z) => lright_is m a c n2 es2 hlen false ⟨fun h => (by cases h), fun h => absurd h hR⟩ z (SlS.ext hl2 hz)
  have hgb := fun z (hz : Ext w z) => get_is _ bs g eg err hG z (hb.ext hz) hbl
  have hne : (err != 0) = true := by simp [he]
  obtain ⟨kind, fr, to, te, ix, at_, co, me, off, sz, yes, data⟩ := m
  simp only [Lt.agg] at hr hf hgb   ⊢
  have HR := Lib.hid hr
  have HF := Lib.hid hf
  have HGB := Lib.hid hgb
  have HB := Lib.hid hb
  clear hr hf hgb hb hl2 hR hG hn2 hlen  he
  go_enter Try.func7, Try.ntmps7
  go_wp2_with (first
    | (go_at_call 13; with_reducible refine (HF.out _).mono ?_; rintro e x1 ⟨rfl, hx1⟩; have BM1 := Lib.hid (ext_blk hx1 (new_blk w (.cells #[.int .i64 kind, .int .i64 fr, .int .i64 to, .int .i64 te, .int .i64 ix, .int .i64 at_, .int .i64 co, .int .i64 me, .int .i64 off, .int .i64 sz, .bool yes, .string data, .slice a n c] 24))); have BS : Hid ((((((((((((((x1.setCell ⟨w.heap.size, 0, none⟩ (.int .i64 kind)).setCell ⟨w.heap.size, 1, none⟩ (.int .i64 fr)).setCell ⟨w.heap.size, 2, none⟩ (.int .i64 to)).setCell ⟨w.heap.size, 3, none⟩ (.int .i64 te)).setCell ⟨w.heap.size, 4, none⟩ (.int .i64 ix)).setCell ⟨w.heap.size, 5, none⟩ (.int .i64 at_)).setCell ⟨w.heap.size, 6, none⟩ (.int .i64 co)).setCell ⟨w.heap.size, 7, none⟩ (.int .i64 me)).setCell ⟨w.heap.size, 8, none⟩ (.int .i64 off)).setCell ⟨w.heap.size, 9, none⟩ (.int .i64 sz)).setCell ⟨w.heap.size, 10, none⟩ (.bool yes)).setCell ⟨w.heap.size, 11, none⟩ (.string data)).setCell ⟨w.heap.size, 12, none⟩ (.slice a n2 c)).heap[w.heap.size]? = some (.cells #[.int .i64 kind, .int .i64 fr, .int .i64 to, .int .i64 te, .int .i64 ix, .int .i64 at_, .int .i64 co, .int .i64 me, .int .i64 off, .int .i64 sz, .bool yes, .string data, .slice a n2 c] 24 (0, 0))) := Lib.hid (set13_blk BM1.out); have hX1 : Ext w x1 := Ext.trans ((Ext.refl w).alloc _) hx1; have HXS : Hid (Ext w (((((((((((((x1.setCell ⟨w.heap.size, 0, none⟩ (.int .i64 kind)).setCell ⟨w.heap.size, 1, none⟩ (.int .i64 fr)).setCell ⟨w.heap.size, 2, none⟩ (.int .i64 to)).setCell ⟨w.heap.size, 3, none⟩ (.int .i64 te)).setCell ⟨w.heap.size, 4, none⟩ (.int .i64 ix)).setCell ⟨w.heap.size, 5, none⟩ (.int .i64 at_)).setCell ⟨w.heap.size, 6, none⟩ (.int .i64 co)).setCell ⟨w.heap.size, 7, none⟩ (.int .i64 me)).setCell ⟨w.heap.size, 8, none⟩ (.int .i64 off)).setCell ⟨w.heap.size, 9, none⟩ (.int .i64 sz)).setCell ⟨w.heap.size, 10, none⟩ (.bool yes)).setCell ⟨w.heap.size, 11, none⟩ (.string data)).setCell ⟨w.heap.size, 12, none⟩ (.slice a n2 c))) := Lib.hid ((((((((((((((hX1.setCell (p := ⟨w.heap.size, 0, none⟩) (Nat.le_refl _) (.int .i64 kind)).setCell (p := ⟨w.heap.size, 1, none⟩) (Nat.le_refl _) (.int .i64 fr)).setCell (p := ⟨w.heap.size, 2, none⟩) (Nat.le_refl _) (.int .i64 to)).setCell (p := ⟨w.heap.size, 3, none⟩) (Nat.le_refl _) (.int .i64 te)).setCell (p := ⟨w.heap.size, 4, none⟩) (Nat.le_refl _) (.int .i64 ix)).setCell (p := ⟨w.heap.size, 5, none⟩) (Nat.le_refl _) (.int .i64 at_)).setCell (p := ⟨w.heap.size, 6, none⟩) (Nat.le_refl _) (.int .i64 co)).setCell (p := ⟨w.heap.size, 7, none⟩) (Nat.le_refl _) (.int .i64 me)).setCell (p := ⟨w.heap.size, 8, none⟩) (Nat.le_refl _) (.int .i64 off)).setCell (p := ⟨w.heap.size, 9, none⟩) (Nat.le_refl _) (.int .i64 sz)).setCell (p := ⟨w.heap.size, 10, none⟩) (Nat.le_refl _) (.bool yes)).setCell (p := ⟨w.heap.size, 11, none⟩) (Nat.le_refl _) (.string data)).setCell (p := ⟨w.heap.size, 12, none⟩) (Nat.le_refl _) (.slice a n2 c))); have zx1 := blk_lt BM1.out; obtain ⟨k0, l0⟩ := blkG BM1.out 0 (.int .i64 kind) rfl; obtain ⟨k1, l1⟩ := blkG BM1.out 1 (.int .i64 fr) rfl; obtain ⟨k2, l2⟩ := blkG BM1.out 2 (.int .i64 to) rfl; obtain ⟨k3, l3⟩ := blkG BM1.out 3 (.int .i64 te) rfl; obtain ⟨k4, l4⟩ := blkG BM1.out 4 (.int .i64 ix) rfl; obtain ⟨k5, l5⟩ := blkG BM1.out 5 (.int .i64 at_) rfl; obtain ⟨k6, l6⟩ := blkG BM1.out 6 (.int .i64 co) rfl; obtain ⟨k7, l7⟩ := blkG BM1.out 7 (.int .i64 me) rfl; obtain ⟨k8, l8⟩ := blkG BM1.out 8 (.int .i64 off) rfl; obtain ⟨k9, l9⟩ := blkG BM1.out 9 (.int .i64 sz) rfl; obtain ⟨k10, l10⟩ := blkG BM1.out 10 (.bool yes) rfl; obtain ⟨k11, l11⟩ := blkG BM1.out 11 (.string data) rfl; obtain ⟨k12, l12⟩ := blkG BM1.out 12 (.slice a n c) rfl)
    | (go_at_call 17; with_reducible refine (HR.out _ HXS.out).mono ?_; rintro e x2 ⟨rfl, hx2⟩; have BM2 := Lib.hid (ext_blk hx2 BS.out); have HX2 := Lib.hid (HXS.out.trans hx2))
    | (go_at_call 10; with_reducible refine (HGB.out _ HX2.out).mono ?_; rintro e x6 ⟨a6, c6, rfl, ho6, hx6⟩; have HX6 := Lib.hid (HX2.out.trans hx6); have HO6 := Lib.hid ho6; clear ho6)
    | (go_at_call 3; refine (lruns_any _).mono ?_; rintro e x9 ⟨rfl, hx9⟩))
  go_ret
  exact ⟨rfl, Ext.trans (HX6.out.alloc _) hx9⟩

theorem lback_any (m : Lt) (a ab : Option Addr) (c n cb : Nat) (es : List Ent) (bs : List UInt8) (hn : es.length = n) (hc : n ≤ c) (hcm : c ≤ 9223372036854775807) (w : World) (hl : SlS Ent.cells 3 w (.slice a n c) es) (hb : Rd8 w (.slice ab bs.length cb) bs) (hbl : bs.length ≤ 140737488355328) : Calls Try.prog 7 #[m.agg (.slice a n c), .slice ab bs.length cb] w fun e w' => e = .returned (.bool true) ∧ Ext w w' := by
  have hl2 : SlS Ent.cells 3 w (.slice a (min n 20) c) (es.take (min n 20)) := SlS.cut Ent.three hl (min n 20) (by omega) c
  have hlen : (es.take (min n 20)).length = min n 20 := by rw [List.length_take]; omega
  obtain ⟨g, eg, err, hG⟩ := get_total bs
  by_cases hR : RightP m (es.take (min n 20)) <;> by_cases he : err = 0
  · exact lback_ro m g a ab c n cb _ _ eg bs err hlen hc hcm rfl w hl2 hb hbl hR hG he
  · exact lback_re m g a ab c n cb _ _ eg bs err hlen hc hcm rfl w hl2 hb hbl hR hG he
  · exact lback_no m g a ab c n cb _ _ eg bs err hlen hc hcm rfl w hl2 hb hbl hR hG he
  · exact lback_ne m g a ab c n cb _ _ eg bs err hlen hc hcm rfl w hl2 hb hbl hR hG he
end
end Go.Proofs.Ytpfdihidncofaaa
