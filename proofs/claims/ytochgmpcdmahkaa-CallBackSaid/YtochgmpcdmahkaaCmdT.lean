/- The document's own answer to chapter 9: Put, any kind. -/
import Derived.Test.YtochgmpcdmahkaaCmdS
import Derived.Test.YtochgmpcdmahkaaCmdP
namespace Go.Proofs.Ytochgmpcdmahkaa
open Go.RowKit

theorem r4_done {w w' : World} {e : Ending} {c : Cm} {ls : List Ln} (hk : c.Ok) (h : R4 w (putS c ls) e w') : ∃ bv, e = .returned (.tuple #[bv, .int .i64 (putE c ls)]) ∧ Rd8 w' bv (putB c ls) ∧ Ext w w' := by
  unfold putB putE
  rw [if_pos hk]
  rcases h with ⟨h, bv, he, hr, hx⟩ | ⟨h, bv, he, hr, hx⟩
  · rw [if_pos h, if_neg (by decide)]
    exact ⟨bv, he, hr, hx⟩
  · rw [if_neg h, if_pos rfl]
    exact ⟨bv, he, hr, hx⟩
theorem r4_ok {w w' : World} {e : Ending} {s : WS} (hf : s.2 = false) (hl : s.1.length ≤ 1024) (h : ∃ bv, e = .returned (.tuple #[bv, .int .i64 0]) ∧ Rd8 w' bv s.1 ∧ Ext w w') : R4 w s e w' :=
  .inr ⟨fun k => k.elim (fun k => by rw [hf] at k; cases k) (fun k => by omega), h⟩
theorem r4_no {w w' : World} {e : Ending} {s : WS} (hf : s.2 = true) (h : ∃ bv, e = .returned (.tuple #[bv, .int .i64 2]) ∧ Rd8 w' bv [] ∧ Ext w w') : R4 w s e w' :=
  .inl ⟨.inl hf, h⟩
theorem sN2 (s : WS) (n : Int) : (sN s n).2 = s.2 := rfl
theorem sD2 (s : WS) (y m d : Int) : (sD s y m d).2 = s.2 := rfl
theorem sT2 (s : WS) (t : ByteArray) (h : t.size ≤ 64) : (sT s t).2 = s.2 := by unfold sT; rw [if_pos h]
theorem sT2n (s : WS) (t : ByteArray) (h : ¬ t.size ≤ 64) : (sT s t).2 = true := by unfold sT; rw [if_neg h]
theorem s0 : (([], false) : WS).1.length = 0 := rfl
theorem rput_ok (c : Cm) (h : c.Ok) (hin : c.In) (a : Option Addr) (n cap : Nat) (ls : List Ln) (hn : ls.length = n) (hz : LnIn ls) (w : World) (hl : SlS Ln.cells 4 w (.slice a n cap) ls) : Calls Try.prog 22 #[c.agg (.slice a n cap)] w fun e w' => ∃ bv, e = .returned (.tuple #[bv, .int .i64 (putE c ls)]) ∧ Rd8 w' bv (putB c ls) ∧ Ext w w' := by
  refine Calls.mono ?_ fun e w' he => r4_done h he
  have hk := ok_cases h
  clear h
  obtain ⟨kd, ser, lim, cat, ry, rm, rd, bp, dy, dm, dd, ofs, ofn, ses⟩ := c
  obtain ⟨zkd, zlim, zry, zrm, zrd, zbp, zdy, zdm, zdd, zofn, zses⟩ := hin
  unfold putS Cm.agg
  rcases hk with hk | hk | hk | hk | hk | hk | hk | hk
  all_goals
    simp only at hk zkd zlim zry zrm zrd zbp zdy zdm zdd zofn zses
    subst hk
  · have e : sF (sN ([], false) (1 : Int)) ⟨1, ser, lim, cat, ry, rm, rd, bp, dy, dm, dd, ofs, ofn, ses⟩ ls = sN (sT (sN ([], false) 1) ser) lim := rfl
    simp only [e]
    by_cases ht : ser.size ≤ 64
    · refine (rput_1 lim ry rm rd bp dy dm dd ofn ses ser cat ofs a n cap zlim ht w).mono fun e w' h => r4_ok ?_ ?_ h
      · simp only [sN2, sT2 _ _ ht]
      · have l0 := sN_le ([], false) 1
        have l1 := sT_le (sN ([], false) 1) ser
        have l2 := sN_le (sT (sN ([], false) 1) ser) lim
        rw [s0] at l0
        omega
    · refine (rput_1no lim ry rm rd bp dy dm dd ofn ses ser cat ofs a n cap ht w).mono fun e w' h => r4_no ?_ h
      simp only [sN2, sT2n _ _ ht]
  · have e : sF (sN ([], false) (2 : Int)) ⟨2, ser, lim, cat, ry, rm, rd, bp, dy, dm, dd, ofs, ofn, ses⟩ ls = sT (sN ([], false) 2) ser := rfl
    simp only [e]
    by_cases ht : ser.size ≤ 64
    · refine (rput_2 lim ry rm rd bp dy dm dd ofn ses ser cat ofs a n cap ht w).mono fun e w' h => r4_ok ?_ ?_ h
      · simp only [sN2, sT2 _ _ ht]
      · have l0 := sN_le ([], false) 2
        have l1 := sT_le (sN ([], false) 2) ser
        rw [s0] at l0
        omega
    · refine (rput_2no lim ry rm rd bp dy dm dd ofn ses ser cat ofs a n cap ht w).mono fun e w' h => r4_no ?_ h
      simp only [sT2n _ _ ht]
  · have e : sF (sN ([], false) (3 : Int)) ⟨3, ser, lim, cat, ry, rm, rd, bp, dy, dm, dd, ofs, ofn, ses⟩ ls = sN (sD (sT (sN ([], false) 3) cat) ry rm rd) bp := rfl
    simp only [e]
    by_cases ht : cat.size ≤ 64
    · refine (rput_3 lim ry rm rd bp dy dm dd ofn ses ser cat ofs a n cap zry zrm zrd zbp ht w).mono fun e w' h => r4_ok ?_ ?_ h
      · simp only [sN2, sD2, sT2 _ _ ht]
      · have l0 := sN_le ([], false) 3
        have l1 := sT_le (sN ([], false) 3) cat
        have l2 := sD_le (sT (sN ([], false) 3) cat) ry rm rd
        have l3 := sN_le (sD (sT (sN ([], false) 3) cat) ry rm rd) bp
        rw [s0] at l0
        omega
    · refine (rput_3no lim ry rm rd bp dy dm dd ofn ses ser cat ofs a n cap ht w).mono fun e w' h => r4_no ?_ h
      simp only [sN2, sD2, sT2n _ _ ht]
  · have e : sF (sN ([], false) (4 : Int)) ⟨4, ser, lim, cat, ry, rm, rd, bp, dy, dm, dd, ofs, ofn, ses⟩ ls = sLs (sD (sT (sN ([], false) 4) ser) dy dm dd) ls := rfl
    simp only [e]
    by_cases ht : ser.size ≤ 64
    · by_cases h12 : n ≤ 12
      · have e2 : sLs (sD (sT (sN ([], false) 4) ser) dy dm dd) ls = ls.foldl sLn (sN (sD (sT (sN ([], false) 4) ser) dy dm dd) n) := by unfold sLs; rw [if_pos (by omega), hn]
        rw [e2]
        exact rput_4 lim ry rm rd bp dy dm dd ofn ses ser cat ofs a n cap ls hn hz zdy zdm zdd ht h12 w hl _ rfl
      · refine (rput_4many lim ry rm rd bp dy dm dd ofn ses ser cat ofs a n cap w ht (by omega)).mono fun e w' h => r4_no ?_ h
        unfold sLs
        rw [if_neg (by omega)]
    · refine (rput_4no lim ry rm rd bp dy dm dd ofn ses ser cat ofs a n cap w ht).mono fun e w' h => r4_no ?_ h
      unfold sLs
      split
      · exact fold_flag ls _ (by simp only [sN2, sD2, sT2n _ _ ht])
      · rfl
  · have e : sF (sN ([], false) (5 : Int)) ⟨5, ser, lim, cat, ry, rm, rd, bp, dy, dm, dd, ofs, ofn, ses⟩ ls = sN (sT (sD (sT (sN ([], false) 5) ser) dy dm dd) ofs) ofn := rfl
    simp only [e]
    by_cases ht : ser.size ≤ 64 ∧ ofs.size ≤ 64
    · refine (rput_5 lim ry rm rd bp dy dm dd ofn ses ser cat ofs a n cap zdy zdm zdd zofn ht w).mono fun e w' h => r4_ok ?_ ?_ h
      · simp only [sN2, sD2, sT2 _ _ ht.1, sT2 _ _ ht.2]
      · have l0 := sN_le ([], false) 5
        have l1 := sT_le (sN ([], false) 5) ser
        have l2 := sD_le (sT (sN ([], false) 5) ser) dy dm dd
        have l3 := sT_le (sD (sT (sN ([], false) 5) ser) dy dm dd) ofs
        have l4 := sN_le (sT (sD (sT (sN ([], false) 5) ser) dy dm dd) ofs) ofn
        rw [s0] at l0
        omega
    · refine (rput_5no lim ry rm rd bp dy dm dd ofn ses ser cat ofs a n cap ht w).mono fun e w' h => r4_no ?_ h
      by_cases h1 : ser.size ≤ 64
      · have h2 : ¬ ofs.size ≤ 64 := fun h2 => ht ⟨h1, h2⟩
        simp only [sN2, sT2n _ _ h2]
      · rw [sN2]
        exact sT_flag _ _ (by simp only [sD2, sT2n _ _ h1])
  · have e : sF (sN ([], false) (6 : Int)) ⟨6, ser, lim, cat, ry, rm, rd, bp, dy, dm, dd, ofs, ofn, ses⟩ ls = sN ([], false) 6 := rfl
    simp only [e]
    refine (rput_6 lim ry rm rd bp dy dm dd ofn ses ser cat ofs a n cap w).mono fun e w' h => r4_ok rfl ?_ h
    have l0 := sN_le ([], false) 6
    rw [s0] at l0
    omega
  · have e : sF (sN ([], false) (7 : Int)) ⟨7, ser, lim, cat, ry, rm, rd, bp, dy, dm, dd, ofs, ofn, ses⟩ ls = sN (sN ([], false) 7) ses := rfl
    simp only [e]
    refine (rput_7 lim ry rm rd bp dy dm dd ofn ses ser cat ofs a n cap zses w).mono fun e w' h => r4_ok rfl ?_ h
    have l0 := sN_le ([], false) 7
    have l1 := sN_le (sN ([], false) 7) ses
    rw [s0] at l0
    omega
  · have e : sF (sN ([], false) (8 : Int)) ⟨8, ser, lim, cat, ry, rm, rd, bp, dy, dm, dd, ofs, ofn, ses⟩ ls = sT (sN ([], false) 8) ser := rfl
    simp only [e]
    by_cases ht : ser.size ≤ 64
    · refine (rput_8 lim ry rm rd bp dy dm dd ofn ses ser cat ofs a n cap ht w).mono fun e w' h => r4_ok ?_ ?_ h
      · simp only [sN2, sT2 _ _ ht]
      · have l0 := sN_le ([], false) 8
        have l1 := sT_le (sN ([], false) 8) ser
        rw [s0] at l0
        omega
    · refine (rput_8no lim ry rm rd bp dy dm dd ofn ses ser cat ofs a n cap ht w).mono fun e w' h => r4_no ?_ h
      simp only [sT2n _ _ ht]
end Go.Proofs.Ytochgmpcdmahkaa
