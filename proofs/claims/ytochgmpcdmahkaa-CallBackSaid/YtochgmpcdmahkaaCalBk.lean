/- Plain law: a call comes back from its bytes; what bytes are read as has these bytes; a shorter beginning is refused. -/
import Derived.Test.YtochgmpcdmahkaaCalB
import Derived.Test.YtochgmpcdmahkaaCmdBk
namespace Go.Proofs.Ytochgmpcdmahkaa
open Go.RowKit

theorem At.drop {bs : List UInt8} {s : RS} {L : List UInt8} (h : At bs s L) : bs.drop s.at_ = L := by
  obtain ⟨_, pre, rfl, h1⟩ := h
  rw [h1, List.drop_left]
theorem heads_at {s q : Int} {R : List UInt8} (zs : Z64 s) (zq : Z64 q) : (dcS1 (numL s ++ numL q ++ R)).1 = s ∧ (dcS2 (numL s ++ numL q ++ R)).1 = q ∧ (dcS2 (numL s ++ numL q ++ R)).2.err = 0 ∧ dcRest (numL s ++ numL q ++ R) = R := by
  have h0 := At.first (numL s ++ numL q ++ R)
  have h0' : At (numL s ++ numL q ++ R) ⟨0, 0⟩ (numL s ++ (numL q ++ R)) := by rw [← List.append_assoc]; exact h0
  obtain ⟨e1, h1⟩ := num_at h0' zs
  obtain ⟨e2, h2⟩ := num_at h1 zq
  exact ⟨e1, e2, h2.1, h2.drop⟩
theorem dcE_at {s q : Int} {R : List UInt8} (zs : Z64 s) (zq : Z64 q) : dcE (numL s ++ numL q ++ R) = cgE R := by
  obtain ⟨_, _, h3, h4⟩ := heads_at (R := R) zs zq
  unfold dcE
  rw [if_neg (fun h => h h3), h4]
theorem call_back {s q : Int} {c : Cm} {ls : List Ln} (zs : Z64 s) (zq : Z64 q) (hin : c.In) (hz : LnIn ls) (h : putE c ls = 0) :
    dcE (caB s q c ls) = 0 ∧ (dcS1 (caB s q c ls)).1 = s ∧ (dcS2 (caB s q c ls)).1 = q ∧ (cgR (dcRest (caB s q c ls))).1 = c.bare ∧ (cgR (dcRest (caB s q c ls))).2.1 = c.ls ls := by
  obtain ⟨b1, b2, b3⟩ := cm_back0 hin hz h
  unfold caB
  obtain ⟨h1, h2, h3, h4⟩ := heads_at (R := putB c ls) zs zq
  rw [dcE_at zs zq, h4]
  exact ⟨b1, h1, h2, b2, b3⟩
theorem call_read {bs : List UInt8} (h : dcE bs = 0) : cgE (dcRest bs) = 0 ∧ Z64 (dcS1 bs).1 ∧ Z64 (dcS2 bs).1 ∧ putE (cgR (dcRest bs)).1 (cgR (dcRest bs)).2.1 = 0 ∧ caB (dcS1 bs).1 (dcS2 bs).1 (cgR (dcRest bs)).1 (cgR (dcRest bs)).2.1 = bs := by
  unfold dcE at h
  by_cases he : (dcS2 bs).2.err ≠ 0
  · rw [if_pos he] at h
    exact absurd h he
  · rw [if_neg he] at h
    have he' : (dcS2 bs).2.err = 0 := by
      rcases Classical.em ((dcS2 bs).2.err = 0) with h3 | h3
      · exact h3
      · exact absurd h3 he
    have s2 : Rd1 bs (dcS1 bs).2 (dcS2 bs).2 (numL (dcS2 bs).1) := rNum_step bs (dcS1 bs).2 he'
    have s1 : Rd1 bs ⟨0, 0⟩ (dcS1 bs).2 (numL (dcS1 bs).1) := rNum_step bs ⟨0, 0⟩ s2.e0
    have s12 := s1.trans s2
    obtain ⟨r1, r2⟩ := cm_read h
    refine ⟨h, rNum_z64 _ _, rNum_z64 _ _, r1, ?_⟩
    unfold caB
    rw [r2]
    have hat := s12.at_
    have his := s12.is
    simp only [List.drop_zero, Nat.zero_add] at hat his
    have e : dcRest bs = bs.drop (numL (dcS1 bs).1 ++ numL (dcS2 bs).1).length := by
      unfold dcRest
      rw [← hat]
    rw [e]
    conv => rhs; rw [← List.take_append_drop (numL (dcS1 bs).1 ++ numL (dcS2 bs).1).length bs]
    congr 1
    exact his.symm
theorem caB_len {s q : Int} {c : Cm} {ls : List Ln} (hin : c.In) (hz : LnIn ls) (h : putE c ls = 0) : 3 ≤ (caB s q c ls).length ∧ (caB s q c ls).length ≤ 1044 := by
  have h1 := putB_pos h hin hz
  have h2 := putB_le c ls
  have h3 := (numL_len s)
  have h4 := (numL_len q)
  unfold caB
  rw [List.length_append, List.length_append]
  omega
theorem call_cut {s q : Int} {c : Cm} {ls : List Ln} (zs : Z64 s) (zq : Z64 q) (hin : c.In) (hz : LnIn ls) (h : putE c ls = 0) (k : Nat) (hk : k < (caB s q c ls).length) : dcE ((caB s q c ls).take k) ≠ 0 := by
  intro h0
  obtain ⟨q1, z1, z2, q4, q5⟩ := call_read h0
  obtain ⟨c1, c2, c3, _⟩ := cgE_ok q1
  obtain ⟨b1, _⟩ := call_back zs zq hin hz h
  have hd : (caB s q c ls).drop k ≠ [] := by
    intro hd
    have := List.drop_eq_nil_iff.1 hd
    omega
  obtain ⟨T, hT⟩ : ∃ T, caB s q c ls = T := ⟨_, rfl⟩
  have hrest : dcRest T = putB c ls := by
    rw [← hT]
    unfold caB
    exact (heads_at zs zq).2.2.2
  rw [hT] at h0 q1 z1 z2 q4 q5 c1 c2 c3 b1 hd
  generalize hc' : (cgR (dcRest (T.take k))).1 = c' at *
  generalize hl' : (cgR (dcRest (T.take k))).2.1 = l' at *
  generalize (dcS1 (T.take k)).1 = n1 at *
  generalize (dcS2 (T.take k)).1 = n2 at *
  have e : T = numL n1 ++ numL n2 ++ (putB c' l' ++ T.drop k) := by
    have h1 : T = T.take k ++ T.drop k := (List.take_append_drop k T).symm
    have h2 : T.take k = numL n1 ++ numL n2 ++ putB c' l' := by rw [← q5]; rfl
    rw [← List.append_assoc, ← h2]
    exact h1
  have hr2 : dcRest T = putB c' l' ++ T.drop k := by
    rw [e]
    conv => rhs; rw [← e]
    exact (heads_at z1 z2).2.2.2
  have hb := cm_back c2 c3 q4 (T.drop k) (by rw [← hr2, hrest]; exact putB_le c ls)
  have hE : dcE T = cgE (putB c' l' ++ T.drop k) := by
    conv => lhs; rw [e]
    exact dcE_at z1 z2
  rw [hE, hb.1, if_neg hd] at b1
  exact absurd b1 (by decide)
end Go.Proofs.Ytochgmpcdmahkaa
