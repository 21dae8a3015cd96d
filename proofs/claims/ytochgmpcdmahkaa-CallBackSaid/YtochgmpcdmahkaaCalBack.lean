/- The law CallBack: what both ways share. (Written by genCalD.py.) -/
import Derived.Test.YtochgmpcdmahkaaCalD
import Derived.Test.YtochgmpcdmahkaaCalBk
import Derived.Test.YtochgmpcdmahkaaCmdN
import Derived.Test.YtochgmpcdmahkaaWithin
import Derived.Laws.Tables
namespace Go.Proofs.Ytochgmpcdmahkaa
open Go.RowKit

theorem wpList_buildG {P : Program} {ops : Array Oper} {rest : List Oper} {op : Oper} {a : Act} {w : World} {Q : Exit → Act → World → Prop} (hgd : Region.wanted op (yielded ops a.tmps) = true) (t : TypeId) (i0 i1 i2 : Nat) (p0 p1 p2 : Operand) (ho : op.op = .build t #[(i0, p0), (i1, p1), (i2, p2)])
    (v0 v1 v2 : Value) (h0 : a.eval p0 = v0) (h1 : a.eval p1 = v1) (h2 : a.eval p2 = v2) (cells : Array Value) (hf : P.built t [(i0, v0), (i1, v1), (i2, v2)] = some cells)
    (h : wpList P ops Q rest (a.put op.dst (.agg cells)) w) : wpList P ops Q (op :: rest) a w := by
  have hv : (#[(i0, p0), (i1, p1), (i2, p2)].map fun (i, x) => (i, a.eval x)).toList = [(i0, v0), (i1, v1), (i2, v2)] := by simp [h0, h1, h2]
  exact BigFrame.wpList_want hgd fun _ hK => wp_build t _ ho (by rw [hv, hf]; rfl) (by rw [hv, hf]; exact hK _ _ h)
theorem within_k (n : Int) (k : Nat) (hk : 0 < k) (hk2 : k ≤ 4611686018427387904) (w : World) : Calls Try.prog 12 #[.int .i64 n, .int .i64 0, .int .i64 ((k : Int) - 1)] w fun e w' => ∃ j : Nat, e = .returned (.int .i64 (j : Int)) ∧ j < k ∧ Ext w w' := by
  have hb := withI_bd n 0 ((k : Int) - 1) (by omega)
  refine (within_any n 0 ((k : Int) - 1) w (by omega) (by omega) (by omega)).mono ?_
  rintro e w' ⟨rfl, rfl⟩
  refine ⟨(withI n 0 ((k : Int) - 1)).toNat, ?_, by omega, Ext.refl _⟩
  rw [Int.toNat_of_nonneg hb.1]
theorem caT_list {s q : Int} {c : Cm} {ls : List Ln} (h : putE c ls = 0) : (caT s q c ls).data.toList = caB s q c ls := by
  unfold caT
  rw [if_pos h]
theorem caT_size {s q : Int} {c : Cm} {ls : List Ln} (h : putE c ls = 0) : (caT s q c ls).size = (caB s q c ls).length := by
  rw [← caT_list (s := s) (q := q) h]
  exact (bytesOf_len _).symm
theorem take_list (s : ByteArray) (k : Nat) : (s.extract 0 k).data.toList = s.data.toList.take k := by
  rw [ByteArray.data_extract, Array.toList_extract]
  refine (List.extract_eq_take_drop ..).trans ?_
  simp
theorem bytes_id (t : ByteArray) : (⟨t.data.toList.toArray⟩ : ByteArray) = t := by
  cases t
  simp
/-- What both make of a text that was written. -/
theorem dec_back {s q : Int} {c : Cm} {ls : List Ln} (zs : Z64 s) (zq : Z64 q) (hin : c.In) (hz : LnIn ls) (h : putE c ls = 0) (z : World) : Calls Try.prog 7 #[.string (caT s q c ls)] z fun e w' => ∃ a' c', e = .returned (.tuple #[Cal.agg s q c.bare (.slice a' (c.ls ls).length c'), .int .i64 0]) ∧ SlS Ln.cells 4 w' (.slice a' (c.ls ls).length c') (c.ls ls) ∧ Ext z w' := by
  obtain ⟨b1, b2, b3, b4, b5⟩ := call_back zs zq hin hz h
  have hl := (caB_len (s := s) (q := q) hin hz h).2
  refine (dec_any (caT s q c ls) (by rw [caT_size h]; omega) z).mono ?_
  rw [caT_list h]
  rintro e w' (⟨h, _⟩ | ⟨_, a', c', h1, h2, h3⟩)
  · exact absurd b1 h
  · rw [b2, b3, b4, b5] at h1
    have h4 := h2.rd
    rw [b5] at h4
    exact ⟨a', c', h1, h4, h3⟩
theorem dec_short {s q : Int} {c : Cm} {ls : List Ln} (zs : Z64 s) (zq : Z64 q) (hin : c.In) (hz : LnIn ls) (h : putE c ls = 0) (j : Nat) (hj : j < (caT s q c ls).size) (z : World) : Calls Try.prog 7 #[.string ((caT s q c ls).extract 0 j)] z fun e w' => ∃ E, e = .returned (.tuple #[Cal.agg 0 0 Cm.z (.slice none 0 0), .int .i64 E]) ∧ E ≠ 0 ∧ Ext z w' := by
  have hl := (caB_len (s := s) (q := q) hin hz h).2
  have hne := call_cut zs zq hin hz h j (by rw [← caT_size h]; exact hj)
  have hsz := caT_size (s := s) (q := q) h
  refine (dec_any ((caT s q c ls).extract 0 j) (by rw [ByteArray.size_extract]; omega) z).mono ?_
  rw [take_list, caT_list h]
  rintro e w' (⟨h, h1, h2⟩ | ⟨h, _⟩)
  · exact ⟨_, h1, h, h2⟩
  · exact absurd h hne
theorem enc_read {t : ByteArray} (h : dcE t.data.toList = 0) (a : Option Addr) (cap : Nat) (z : World) (hl : SlS Ln.cells 4 z (.slice a (cgR (dcRest t.data.toList)).2.1.length cap) (cgR (dcRest t.data.toList)).2.1) : Calls Try.prog 6 #[Cal.agg (dcS1 t.data.toList).1 (dcS2 t.data.toList).1 (cgR (dcRest t.data.toList)).1 (.slice a (cgR (dcRest t.data.toList)).2.1.length cap)] z fun e w' => e = .returned (.tuple #[.string t, .int .i64 0]) ∧ Ext z w' := by
  obtain ⟨q1, z1, z2, q4, q5⟩ := call_read h
  obtain ⟨c1, c2, c3, _, _, c6, _⟩ := cgE_ok q1
  have := enc_any _ _ z1 z2 _ a _ cap _ rfl (by omega) c2 c3 z hl
  have hT : caT (dcS1 t.data.toList).1 (dcS2 t.data.toList).1 (cgR (dcRest t.data.toList)).1 (cgR (dcRest t.data.toList)).2.1 = t := by
    unfold caT
    rw [if_pos q4, q5]
  rw [hT, q4] at this
  exact this
end Go.Proofs.Ytochgmpcdmahkaa
