/- Plain law: a command comes back from its bytes, whatever stands behind; what bytes are read as has these bytes; a shorter beginning is refused. -/
import Derived.Test.YtochgmpcdmahkaaCmdJ
import Derived.Test.YtochgmpcdmahkaaCmdP
import Derived.Test.YtochgmpcdmahkaaBackLaw
namespace Go.Proofs.Ytochgmpcdmahkaa
open Go.RowKit

/-- A reading that stands at these bytes, which are all that is left. -/
def At (bs : List UInt8) (s : RS) (L : List UInt8) : Prop := s.err = 0 ∧ ∃ pre, bs = pre ++ L ∧ s.at_ = pre.length
theorem At.first (bs : List UInt8) : At bs ⟨0, 0⟩ bs := ⟨rfl, [], rfl, rfl⟩
theorem At.done {bs : List UInt8} {s : RS} {L : List UInt8} (h : At bs s L) : (rEnd bs s).err = if L = [] then 0 else 5 := by
  obtain ⟨h0, pre, rfl, h1⟩ := h
  unfold rEnd
  cases L with
  | nil => rw [if_neg (by rintro ⟨_, h⟩; simp at h; omega), if_pos rfl]; exact h0
  | cons a L => rw [if_pos ⟨h0, by simp; omega⟩, if_neg (by simp)]
theorem num_at {bs : List UInt8} {s : RS} {n : Int} {R : List UInt8} (h : At bs s (numL n ++ R)) (z : Z64 n) : (rNum bs s).1 = n ∧ At bs (rNum bs s).2 R := by
  obtain ⟨h0, pre, rfl, h1⟩ := h
  obtain ⟨a, e⟩ := s
  simp only at h0 h1
  subst h0 h1
  have := rNum_put pre R n z.1 z.2
  rw [List.append_assoc] at this
  rw [this]
  exact ⟨rfl, rfl, pre ++ numL n, by rw [List.append_assoc], by simp⟩
theorem bytes_back2 (s : ByteArray) : (⟨(bytesOf s).toArray⟩ : ByteArray) = s := by
  cases s
  simp [bytesOf]
theorem text_at {bs : List UInt8} {s : RS} {t : ByteArray} {R : List UInt8} (h : At bs s (textL t ++ R)) (z : t.size ≤ 64) : (tR bs s).1 = t ∧ At bs (tR bs s).2 R := by
  obtain ⟨h0, pre, rfl, h1⟩ := h
  obtain ⟨a, e⟩ := s
  simp only at h0 h1
  subst h0 h1
  have := rText_put pre R t 64 (by omega) (by omega)
  rw [List.append_assoc] at this
  unfold tR
  rw [this]
  exact ⟨bytes_back2 t, rfl, pre ++ textL t, by rw [List.append_assoc], by simp⟩
theorem count_at {bs : List UInt8} {s : RS} {n : Nat} {R : List UInt8} (h : At bs s (numL n ++ R)) (z : n ≤ 12) (hR : n ≤ R.length) : (lcR bs s).1 = n ∧ At bs (lcR bs s).2 R := by
  obtain ⟨h0, pre, rfl, h1⟩ := h
  obtain ⟨a, e⟩ := s
  simp only at h0 h1
  subst h0 h1
  have := rCount_put pre R n 12 (by omega) hR (by omega)
  rw [List.append_assoc] at this
  unfold lcR
  rw [this]
  exact ⟨by simp, rfl, pre ++ numL n, by rw [List.append_assoc], by simp⟩
theorem day_at {bs : List UInt8} {s : RS} {y m d : Int} {R : List UInt8} (h : At bs s (numL y ++ (numL m ++ (numL d ++ R)))) (zy : Z64 y) (zm : Z64 m) (zd : Z64 d) : (dR bs s).1 = (y, m, d) ∧ At bs (dR bs s).2 R := by
  obtain ⟨e1, h1⟩ := num_at h zy
  obtain ⟨e2, h2⟩ := num_at h1 zm
  obtain ⟨e3, h3⟩ := num_at h2 zd
  exact ⟨by unfold dR; rw [e1, e2, e3], h3⟩
def lnL (x : Ln) : List UInt8 := textL x.text ++ (textL x.cat ++ (numL x.count ++ numL x.price))
def LnSh (ls : List Ln) : Prop := ∀ x ∈ ls, x.text.size ≤ 64 ∧ x.cat.size ≤ 64
theorem ln_at {bs : List UInt8} {s : RS} {x : Ln} {R : List UInt8} (h : At bs s (lnL x ++ R)) (zt : x.text.size ≤ 64) (zc : x.cat.size ≤ 64) (zn : Z64 x.count) (zp : Z64 x.price) : (lnR bs s).1 = x ∧ At bs (lnR bs s).2 R := by
  unfold lnL at h
  simp only [List.append_assoc] at h
  obtain ⟨e1, h1⟩ := text_at h zt
  obtain ⟨e2, h2⟩ := text_at h1 zc
  obtain ⟨e3, h3⟩ := num_at h2 zn
  obtain ⟨e4, h4⟩ := num_at h3 zp
  exact ⟨by unfold lnR; rw [e1, e2, e3, e4], h4⟩
theorem lns_at {bs : List UInt8} {s : RS} {ls : List Ln} {R : List UInt8} (h : At bs s (ls.flatMap lnL ++ R)) (hs : LnSh ls) (hz : LnIn ls) : ∀ k, k ≤ ls.length → lnsAt bs s k = ls.take k ∧ At bs (lnSt bs s k) ((ls.drop k).flatMap lnL ++ R)
  | 0, _ => ⟨by simp [lnsAt], by simpa [lnSt] using h⟩
  | k + 1, hk => by
    obtain ⟨i1, i2⟩ := lns_at h hs hz k (by omega)
    have hk' : k < ls.length := hk
    rw [List.drop_eq_getElem_cons hk', List.flatMap_cons, List.append_assoc] at i2
    have hm := List.getElem_mem hk'
    obtain ⟨e, h2⟩ := ln_at i2 (hs _ hm).1 (hs _ hm).2 (hz _ hm).1 (hz _ hm).2
    exact ⟨by rw [lnsAt_succ, i1, e, List.take_succ_eq_append_getElem hk'], h2⟩
theorem lns_ge : ∀ ls : List Ln, ls.length ≤ (ls.flatMap lnL).length
  | [] => by simp
  | x :: ls => by
    have h1 := (numL_len x.price).1
    have h2 := lns_ge ls
    rw [List.flatMap_cons, List.length_append, List.length_cons, lnL, List.length_append, List.length_append, List.length_append]
    omega
-- what a writing that is not too long wrote
theorem sN_no {s : WS} {n : Int} {L : List UInt8} (h : sN s n = (L, false)) : ∃ M, s = (M, false) ∧ L = M ++ numL n := by
  obtain ⟨a, b⟩ := s
  simp only [sN, Prod.mk.injEq] at h
  obtain ⟨rfl, rfl⟩ := h
  exact ⟨a, rfl, rfl⟩
theorem sT_no {s : WS} {t : ByteArray} {L : List UInt8} (h : sT s t = (L, false)) : t.size ≤ 64 ∧ ∃ M, s = (M, false) ∧ L = M ++ textL t := by
  obtain ⟨a, b⟩ := s
  unfold sT at h
  by_cases hz : t.size ≤ 64
  · rw [if_pos hz] at h
    simp only [Prod.mk.injEq] at h
    obtain ⟨rfl, rfl⟩ := h
    exact ⟨hz, a, rfl, rfl⟩
  · rw [if_neg hz] at h
    simp at h
theorem sT_yes {M : List UInt8} {t : ByteArray} (h : t.size ≤ 64) : sT (M, false) t = (M ++ textL t, false) := by unfold sT; rw [if_pos h]
theorem sD_no {s : WS} {y m d : Int} {L : List UInt8} (h : sD s y m d = (L, false)) : ∃ M, s = (M, false) ∧ L = M ++ (numL y ++ (numL m ++ numL d)) := by
  unfold sD at h
  obtain ⟨M1, e1_, rfl⟩ := sN_no h
  obtain ⟨M2, e2_, rfl⟩ := sN_no e1_
  obtain ⟨M3, e3_, rfl⟩ := sN_no e2_
  exact ⟨M3, e3_, by simp [List.append_assoc]⟩
theorem sLn_no {s : WS} {x : Ln} {L : List UInt8} (h : sLn s x = (L, false)) : (x.text.size ≤ 64 ∧ x.cat.size ≤ 64) ∧ ∃ M, s = (M, false) ∧ L = M ++ lnL x := by
  unfold sLn at h
  obtain ⟨M4, e4_, rfl⟩ := sN_no h
  obtain ⟨M5, e5_, rfl⟩ := sN_no e4_
  obtain ⟨z1, M6, e6_, rfl⟩ := sT_no e5_
  obtain ⟨z2, M7, e7_, rfl⟩ := sT_no e6_
  exact ⟨⟨z2, z1⟩, M7, e7_, by simp [lnL, List.append_assoc]⟩
theorem sLns_no : ∀ {ls : List Ln} {s : WS} {L : List UInt8}, ls.foldl sLn s = (L, false) → LnSh ls ∧ ∃ M, s = (M, false) ∧ L = M ++ ls.flatMap lnL
  | [], s, L, h => ⟨(fun x hx => by cases hx), L, h, by simp⟩
  | x :: ls, s, L, h => by
    obtain ⟨h1, M, h2, rfl⟩ := sLns_no (ls := ls) h
    obtain ⟨h3, M2, h4, rfl⟩ := sLn_no h2
    refine ⟨fun y hy => ?_, M2, h4, by simp [List.append_assoc]⟩
    rcases List.mem_cons.1 hy with rfl | hy
    · exact h3
    · exact h1 y hy
theorem sLs_no {ls : List Ln} {s : WS} {L : List UInt8} (h : sLs s ls = (L, false)) : ls.length ≤ 12 ∧ LnSh ls ∧ ∃ M, s = (M, false) ∧ L = M ++ (numL ls.length ++ ls.flatMap lnL) := by
  unfold sLs at h
  by_cases hz : ls.length ≤ 12
  · rw [if_pos hz] at h
    obtain ⟨h1, M, h2, rfl⟩ := sLns_no h
    obtain ⟨M2, h3, rfl⟩ := sN_no h2
    exact ⟨hz, h1, M2, h3, by simp [List.append_assoc]⟩
  · rw [if_neg hz] at h
    simp at h
theorem sLns_yes : ∀ {ls : List Ln} {M : List UInt8}, LnSh ls → ls.foldl sLn (M, false) = (M ++ ls.flatMap lnL, false)
  | [], M, _ => by simp
  | x :: ls, M, h => by
    have hx := h x (List.mem_cons_self ..)
    have : sLn (M, false) x = (M ++ lnL x, false) := by
      unfold sLn
      rw [sT_yes hx.1, sT_yes hx.2]
      simp [sN, lnL, List.append_assoc]
    rw [List.foldl_cons, this, sLns_yes (fun y hy => h y (List.mem_cons_of_mem _ hy))]
    simp [List.append_assoc]
theorem sLs_yes {ls : List Ln} {M : List UInt8} (hl : ls.length ≤ 12) (h : LnSh ls) : sLs (M, false) ls = (M ++ (numL ls.length ++ ls.flatMap lnL), false) := by
  unfold sLs
  rw [if_pos hl]
  simp only [sN]
  rw [sLns_yes h]
  simp [List.append_assoc]
/-- What was written, not too long, is read, whatever stands behind it. -/
theorem gR_at {c : Cm} {ls : List Ln} {L R : List UInt8} (hk : c.Ok) (hin : c.In) (hz : LnIn ls) (h : putS c ls = (L, false)) {bs : List UInt8} {s : RS} (ha : At bs s (L ++ R)) : (rNum bs s).1 = c.kd ∧ (rNum bs s).2.err = 0 ∧ (gR bs c.kd (rNum bs s).2).1 = c.bare ∧ (gR bs c.kd (rNum bs s).2).2.1 = c.ls ls ∧ At bs (gR bs c.kd (rNum bs s).2).2.2 R := by
  have hc := ok_cases hk
  obtain ⟨i0, i1, i2, i3, i4, i5, i6, i7, i8, i9, i10⟩ := hin
  clear hk
  obtain ⟨kd, ser, lim, cat, ry, rm, rd, bp, dy, dm, dd, ofs, ofn, ses⟩ := c
  simp only at hc i0 i1 i2 i3 i4 i5 i6 i7 i8 i9 i10
  unfold putS at h
  rcases hc with rfl | rfl | rfl | rfl | rfl | rfl | rfl | rfl
  · have h' : sN (sT (sN ([], false) 1) ser) lim = (L, false) := h
    obtain ⟨M8, e8_, rfl⟩ := sN_no h'
    obtain ⟨z, M9, e9_, rfl⟩ := sT_no e8_
    obtain ⟨M10, e10_, rfl⟩ := sN_no e9_
    cases e10_
    simp only [List.nil_append, List.append_assoc] at ha
    obtain ⟨e1, a1⟩ := num_at ha i0
    obtain ⟨e2, a2⟩ := text_at a1 z
    obtain ⟨e3, a3⟩ := num_at a2 i1
    exact ⟨e1, a1.1, by simp [gR, Cm.bare, e2, e3], rfl, a3⟩
  · have h' : sT (sN ([], false) 2) ser = (L, false) := h
    obtain ⟨z, M11, e11_, rfl⟩ := sT_no h'
    obtain ⟨M12, e12_, rfl⟩ := sN_no e11_
    cases e12_
    simp only [List.nil_append, List.append_assoc] at ha
    obtain ⟨e1, a1⟩ := num_at ha i0
    obtain ⟨e2, a2⟩ := text_at a1 z
    exact ⟨e1, a1.1, by simp [gR, Cm.bare, e2], rfl, a2⟩
  · have h' : sN (sD (sT (sN ([], false) 3) cat) ry rm rd) bp = (L, false) := h
    obtain ⟨M13, e13_, rfl⟩ := sN_no h'
    obtain ⟨M14, e14_, rfl⟩ := sD_no e13_
    obtain ⟨z, M15, e15_, rfl⟩ := sT_no e14_
    obtain ⟨M16, e16_, rfl⟩ := sN_no e15_
    cases e16_
    simp only [List.nil_append, List.append_assoc] at ha
    obtain ⟨e1, a1⟩ := num_at ha i0
    obtain ⟨e2, a2⟩ := text_at a1 z
    obtain ⟨e3, a3⟩ := day_at a2 i2 i3 i4
    obtain ⟨e4, a4⟩ := num_at a3 i5
    exact ⟨e1, a1.1, by simp [gR, Cm.bare, e2, e3, e4], rfl, a4⟩
  · have h' : sLs (sD (sT (sN ([], false) 4) ser) dy dm dd) ls = (L, false) := h
    obtain ⟨hl, hs, M17, e17_, rfl⟩ := sLs_no h'
    obtain ⟨M18, e18_, rfl⟩ := sD_no e17_
    obtain ⟨z, M19, e19_, rfl⟩ := sT_no e18_
    obtain ⟨M20, e20_, rfl⟩ := sN_no e19_
    cases e20_
    simp only [List.nil_append, List.append_assoc] at ha
    obtain ⟨e1, a1⟩ := num_at ha i0
    obtain ⟨e2, a2⟩ := text_at a1 z
    obtain ⟨e3, a3⟩ := day_at a2 i6 i7 i8
    obtain ⟨e4, a4⟩ := count_at a3 hl (by have := lns_ge ls; rw [List.length_append]; omega)
    obtain ⟨e5, a5⟩ := lns_at a4 hs hz ls.length (Nat.le_refl _)
    rw [List.take_length] at e5
    rw [List.drop_length, List.flatMap_nil, List.nil_append] at a5
    refine ⟨e1, a1.1, by simp [gR, Cm.bare, e2, e3], ?_, ?_⟩
    · show lnsAt bs (lcR bs _).2 (lcR bs _).1 = ls
      rw [e4]
      exact e5
    · show At bs (lnSt bs (lcR bs _).2 (lcR bs _).1) R
      rw [e4]
      exact a5
  · have h' : sN (sT (sD (sT (sN ([], false) 5) ser) dy dm dd) ofs) ofn = (L, false) := h
    obtain ⟨M21, e21_, rfl⟩ := sN_no h'
    obtain ⟨z2, M22, e22_, rfl⟩ := sT_no e21_
    obtain ⟨M23, e23_, rfl⟩ := sD_no e22_
    obtain ⟨z, M24, e24_, rfl⟩ := sT_no e23_
    obtain ⟨M25, e25_, rfl⟩ := sN_no e24_
    cases e25_
    simp only [List.nil_append, List.append_assoc] at ha
    obtain ⟨e1, a1⟩ := num_at ha i0
    obtain ⟨e2, a2⟩ := text_at a1 z
    obtain ⟨e3, a3⟩ := day_at a2 i6 i7 i8
    obtain ⟨e4, a4⟩ := text_at a3 z2
    obtain ⟨e5, a5⟩ := num_at a4 i9
    exact ⟨e1, a1.1, by simp [gR, Cm.bare, e2, e3, e4, e5], rfl, a5⟩
  · have h' : sN ([], false) 6 = (L, false) := h
    obtain ⟨M26, e26_, rfl⟩ := sN_no h'
    cases e26_
    simp only [List.nil_append] at ha
    obtain ⟨e1, a1⟩ := num_at ha i0
    exact ⟨e1, a1.1, by simp [gR, Cm.bare], rfl, a1⟩
  · have h' : sN (sN ([], false) 7) ses = (L, false) := h
    obtain ⟨M27, e27_, rfl⟩ := sN_no h'
    obtain ⟨M28, e28_, rfl⟩ := sN_no e27_
    cases e28_
    simp only [List.nil_append, List.append_assoc] at ha
    obtain ⟨e1, a1⟩ := num_at ha i0
    obtain ⟨e2, a2⟩ := num_at a1 i10
    exact ⟨e1, a1.1, by simp [gR, Cm.bare, e2], rfl, a2⟩
  · have h' : sT (sN ([], false) 8) ser = (L, false) := h
    obtain ⟨z, M29, e29_, rfl⟩ := sT_no h'
    obtain ⟨M30, e30_, rfl⟩ := sN_no e29_
    cases e30_
    simp only [List.nil_append, List.append_assoc] at ha
    obtain ⟨e1, a1⟩ := num_at ha i0
    obtain ⟨e2, a2⟩ := text_at a1 z
    exact ⟨e1, a1.1, by simp [gR, Cm.bare, e2], rfl, a2⟩
theorem putE_0 {c : Cm} {ls : List Ln} (h : putE c ls = 0) : c.Ok ∧ ∃ L, putS c ls = (L, false) ∧ putB c ls = L ∧ L.length ≤ 1024 := by
  have hB : putB c ls = (putS c ls).1 := by unfold putB; rw [if_pos h]
  unfold putE at h
  by_cases hk : c.Ok
  · rw [if_pos hk] at h
    by_cases hc : (putS c ls).2 = true ∨ 1024 < (putS c ls).1.length
    · rw [if_pos hc] at h
      cases h
    · refine ⟨hk, (putS c ls).1, ?_, hB, by omega⟩
      have : (putS c ls).2 = false := by
        cases hq : (putS c ls).2
        · rfl
        · exact absurd (.inl hq) hc
      rw [← this]
  · rw [if_neg hk] at h
    cases h
/-- A command that was written is read back; what stands behind it is seen. -/
theorem cm_back {c : Cm} {ls : List Ln} (hin : c.In) (hz : LnIn ls) (h : putE c ls = 0) (post : List UInt8) (hl : (putB c ls ++ post).length ≤ 1024) :
    cgE (putB c ls ++ post) = (if post = [] then 0 else 5) ∧ (cgR (putB c ls ++ post)).1 = c.bare ∧ (cgR (putB c ls ++ post)).2.1 = c.ls ls := by
  obtain ⟨hk, L, h1, h2, _⟩ := putE_0 h
  rw [h2] at hl ⊢
  obtain ⟨g1, g2, g3, g4, g5⟩ := gR_at hk hin hz h1 (At.first (L ++ post))
  unfold cgE cgR cgS
  rw [g1, if_neg (by omega), if_neg (by simp [g2]), if_neg (by unfold Cm.Ok at hk; omega)]
  exact ⟨g5.done, g3, g4⟩
theorem cm_back0 {c : Cm} {ls : List Ln} (hin : c.In) (hz : LnIn ls) (h : putE c ls = 0) : cgE (putB c ls) = 0 ∧ (cgR (putB c ls)).1 = c.bare ∧ (cgR (putB c ls)).2.1 = c.ls ls := by
  obtain ⟨_, L, _, h2, h3⟩ := putE_0 h
  have := cm_back hin hz h [] (by rw [List.append_nil, h2]; exact h3)
  rwa [List.append_nil, if_pos rfl] at this
theorem tR_step (bs : List UInt8) (s : RS) (h : (tR bs s).2.err = 0) (h63 : bs.length ≤ 9223372036854775807) : Rd1 bs s (tR bs s).2 (textL (tR bs s).1) := rText_step bs s 64 h h63
theorem dR_step (bs : List UInt8) (s : RS) (h : (dR bs s).2.err = 0) : Rd1 bs s (dR bs s).2 (numL (dR bs s).1.1 ++ (numL (dR bs s).1.2.1 ++ numL (dR bs s).1.2.2)) := by
  have h3 := rNum_step bs _ h
  have h2 := rNum_step bs _ h3.e0
  have h1 := rNum_step bs s h2.e0
  have := (h1.trans (h2.trans h3))
  exact this
theorem lnR_step (bs : List UInt8) (s : RS) (h : (lnR bs s).2.err = 0) (h63 : bs.length ≤ 9223372036854775807) : Rd1 bs s (lnR bs s).2 (lnL (lnR bs s).1) := by
  have h4 := rNum_step bs _ h
  have h3 := rNum_step bs _ h4.e0
  have h2 := tR_step bs _ h3.e0 h63
  have h1 := tR_step bs s h2.e0 h63
  exact h1.trans (h2.trans (h3.trans h4))
theorem lns_step (bs : List UInt8) (s : RS) (h63 : bs.length ≤ 9223372036854775807) : ∀ k, (lnSt bs s k).err = 0 → Rd1 bs s (lnSt bs s k) ((lnsAt bs s k).flatMap lnL)
  | 0, h => Rd1.nil h
  | k + 1, h => by
    have h1 := lnR_step bs (lnSt bs s k) h h63
    have h2 := (lns_step bs s h63 k h1.e0).trans h1
    rw [lnsAt_succ, List.flatMap_append]
    simp only [List.flatMap_cons, List.flatMap_nil, List.append_nil]
    exact h2
theorem lnsAt_small (bs : List UInt8) (s : RS) (k : Nat) : LnSh (lnsAt bs s k) := by
  intro x hx
  obtain ⟨i, _, rfl⟩ := List.mem_map.1 hx
  exact ⟨rText64 _ _, rText64 _ _⟩
theorem lcR_step (bs : List UInt8) (s : RS) (h : (lcR bs s).2.err = 0) : Rd1 bs s (lcR bs s).2 (numL (lcR bs s).1) := by
  have := rCount_step bs s 12 h
  rwa [(lcR_is bs s).1] at this
/-- What is read was written so. -/
theorem gR_step {bs : List UInt8} {k : Int} {s0 s : RS} (h63 : bs.length ≤ 9223372036854775807) (h0 : Rd1 bs s0 s (numL k)) (hk : 1 ≤ k ∧ k ≤ 8) (he : (gR bs k s).2.2.err = 0) : ∃ L, putS (gR bs k s).1 (gR bs k s).2.1 = (L, false) ∧ Rd1 bs s0 (gR bs k s).2.2 L := by
  have hk' : k = 1 ∨ k = 2 ∨ k = 3 ∨ k = 4 ∨ k = 5 ∨ k = 6 ∨ k = 7 ∨ k = 8 := by omega
  clear hk
  rcases hk' with rfl | rfl | rfl | rfl | rfl | rfl | rfl | rfl
  · have h2 := rNum_step bs (tR bs s).2 he
    have h1 := tR_step bs s h2.e0 h63
    refine ⟨_, ?_, h0.trans (h1.trans h2)⟩
    show sN (sT (sN ([], false) 1) (tR bs s).1) (rNum bs (tR bs s).2).1 = _
    rw [show sN ([], false) 1 = (numL 1, false) from rfl, sT_yes (rText64 _ _)]
    simp [sN, List.append_assoc]
  · have h1 := tR_step bs s he h63
    refine ⟨_, ?_, h0.trans h1⟩
    show sT (sN ([], false) 2) (tR bs s).1 = _
    rw [show sN ([], false) 2 = (numL 2, false) from rfl, sT_yes (rText64 _ _)]
  · have h3 := rNum_step bs (dR bs (tR bs s).2).2 he
    have h2 := dR_step bs (tR bs s).2 h3.e0
    have h1 := tR_step bs s h2.e0 h63
    refine ⟨_, ?_, h0.trans (h1.trans (h2.trans h3))⟩
    show sN (sD (sT (sN ([], false) 3) (tR bs s).1) _ _ _) _ = _
    rw [show sN ([], false) 3 = (numL 3, false) from rfl, sT_yes (rText64 _ _)]
    simp [sN, sD, gR, List.append_assoc]
  · have h4 := lns_step bs (lcR bs (dR bs (tR bs s).2).2).2 h63 (lcR bs (dR bs (tR bs s).2).2).1 he
    have h3 := lcR_step bs (dR bs (tR bs s).2).2 h4.e0
    have h2 := dR_step bs (tR bs s).2 h3.e0
    have h1 := tR_step bs s h2.e0 h63
    refine ⟨_, ?_, h0.trans (h1.trans (h2.trans (h3.trans h4)))⟩
    show sLs (sD (sT (sN ([], false) 4) (tR bs s).1) _ _ _) (lnsAt bs (lcR bs (dR bs (tR bs s).2).2).2 (lcR bs (dR bs (tR bs s).2).2).1) = _
    rw [show sN ([], false) 4 = (numL 4, false) from rfl, sT_yes (rText64 _ _)]
    simp only [sN, sD]
    rw [sLs_yes (by rw [lnsAt_len]; exact (lcR_is _ _).2) (lnsAt_small _ _ _), lnsAt_len]
    simp [gR, List.append_assoc]
  · have h4 := rNum_step bs (tR bs (dR bs (tR bs s).2).2).2 he
    have h3 := tR_step bs (dR bs (tR bs s).2).2 h4.e0 h63
    have h2 := dR_step bs (tR bs s).2 h3.e0
    have h1 := tR_step bs s h2.e0 h63
    refine ⟨_, ?_, h0.trans (h1.trans (h2.trans (h3.trans h4)))⟩
    show sN (sT (sD (sT (sN ([], false) 5) (tR bs s).1) _ _ _) (tR bs (dR bs (tR bs s).2).2).1) _ = _
    rw [show sN ([], false) 5 = (numL 5, false) from rfl, sT_yes (rText64 _ _)]
    simp only [sN, sD]
    rw [sT_yes (rText64 _ _)]
    simp [gR, List.append_assoc]
  · exact ⟨_, rfl, h0⟩
  · have h1 := rNum_step bs s he
    exact ⟨_, rfl, h0.trans h1⟩
  · have h1 := tR_step bs s he h63
    refine ⟨_, ?_, h0.trans h1⟩
    show sT (sN ([], false) 8) (tR bs s).1 = _
    rw [show sN ([], false) 8 = (numL 8, false) from rfl, sT_yes (rText64 _ _)]
theorem cm_read {bs : List UInt8} (h : cgE bs = 0) : putE (cgR bs).1 (cgR bs).2.1 = 0 ∧ putB (cgR bs).1 (cgR bs).2.1 = bs := by
  obtain ⟨k1, k2, k3, k4, k5, k6, k7, k8, k9, k10, k11⟩ := cgE_ok h
  have hend : (cgR bs).2.2.err = 0 ∧ ¬ (cgR bs).2.2.at_ < bs.length := by
    unfold rEnd at k10
    split at k10
    · cases k10
    · rename_i hc
      exact ⟨k10, fun hl => hc ⟨k10, hl⟩⟩
  obtain ⟨L, h1, h2⟩ := gR_step (by omega) (rNum_step bs ⟨0, 0⟩ k9) k8 hend.1
  have hL := h2.all hend.2
  subst hL
  have hS : putS (cgR L).1 (cgR L).2.1 = (L, false) := h1
  have hE : putE (cgR L).1 (cgR L).2.1 = 0 := by
    unfold putE
    rw [if_pos k1, hS, if_neg (by simp; omega)]
  exact ⟨hE, by unfold putB; rw [if_pos hE, hS]⟩
/-- A shorter beginning is refused. -/
theorem cm_cut {c : Cm} {ls : List Ln} (hin : c.In) (hz : LnIn ls) (h : putE c ls = 0) (k : Nat) (hk : k < (putB c ls).length) : cgE ((putB c ls).take k) ≠ 0 := by
  intro h0
  obtain ⟨_, L, _, h2, h3⟩ := putE_0 h
  obtain ⟨r1, r2⟩ := cm_read h0
  obtain ⟨q1, q2, q3, _⟩ := cgE_ok h0
  have hb := cm_back q2 q3 r1 ((putB c ls).drop k) (by rw [r2, List.take_append_drop, h2]; exact h3)
  rw [r2, List.take_append_drop, (cm_back0 hin hz h).1, if_neg (by intro hd; have := List.drop_eq_nil_iff.1 hd; omega)] at hb
  exact absurd hb.1 (by decide)
theorem putB_pos {c : Cm} {ls : List Ln} (h : putE c ls = 0) (hin : c.In) (hz : LnIn ls) : 0 < (putB c ls).length := by
  rcases Nat.eq_zero_or_pos (putB c ls).length with h0 | h0
  · have hb := (cm_back0 hin hz h).1
    rw [List.eq_nil_of_length_eq_zero h0] at hb
    exact absurd hb (by decide +kernel)
  · exact h0
end Go.Proofs.Ytochgmpcdmahkaa
