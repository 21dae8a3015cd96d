/- The law LetterBound: the walk. (Written by genBound.py.) -/
import Derived.Test.YtpfdihidncofaaaLetRuns
import Derived.Test.YtpfdihidncofaaaSet13
import Derived.Test.YtpfdihidncofaaaPackPut
namespace Go.Proofs.Ytpfdihidncofaaa
open Go.RowKit

theorem varF_one (f u : Nat) (h : u < 128) : (varF f u).length = 1 := by
  cases f with
  | zero => rfl
  | succ f => rw [varF, if_pos h]; rfl
theorem varF_two (f u : Nat) (h : u < 16384) : (varF (f + 1) u).length ≤ 2 := by
  rw [varF]
  split
  · simp
  · rw [List.length_cons, varF_one f (u / 128) (by omega)]; omega
theorem numL_one (n : Int) (h0 : 0 ≤ n) (h1 : n < 64) : (numL n).length = 1 := varF_one 9 _ (by unfold zig; rw [if_pos h0]; omega)
theorem numL_two (n : Int) (h0 : 0 ≤ n) (h1 : n < 8192) : (numL n).length ≤ 2 := varF_two 8 _ (by unfold zig; rw [if_pos h0]; omega)
def mostD (es : List Ent) : Nat := (es.map fun x => x.data.size + 24).sum
theorem mostD_take (es : List Ent) (k : Nat) (hk : k < es.length) : mostD (es.take (k + 1)) = mostD (es.take k) + (es[k].data.size + 24) := by
  rw [mostD, List.take_succ_eq_append_getElem hk, List.map_append, List.sum_append, ← mostD]
  simp
theorem nums_ge : ∀ l : List Int, l.length ≤ (l.flatMap numL).length
  | [] => by simp
  | n :: l => by
    rw [List.flatMap_cons, List.length_append, List.length_cons]
    have := (numL_len n).1
    have := nums_ge l
    omega
theorem chain_most (t : Int) : ∀ (b : Int) (es : List Ent), ChainP t b es → (es.flatMap entL).length ≤ mostD es
  | _, [], _ => by simp [mostD]
  | b, x :: es, h => by
    obtain ⟨h1, h2⟩ := h
    have h3 := chain_most t _ es h2
    simp only [FitsP] at h1
    have e1 := (numL_len x.term).2
    have e2 := numL_two x.members (by omega) (by omega)
    have e3 := numL_two (x.data.size : Int) (by omega) (by omega)
    rw [List.flatMap_cons, List.length_append, entL, List.length_append, List.length_append, textL, List.length_append, bytesOf_len]
    have : mostD (x :: es) = x.data.size + 24 + mostD es := by simp [mostD]
    omega
theorem bound_law {m : Lt} {es : List Ent} (h : RightP m es) : 13 ≤ (ltL m es).length ∧ (ltL m es).length ≤ 120 + m.data.size + mostD es := by
  have hs := right_small h
  have h8 := hs.2.1
  have h1 := nums_ge (headL m)
  have h2 := nums_len 10 (headL m) (by simp [headL])
  have h3 : (numL (if m.yes then 1 else 0)).length = 1 := numL_one _ (by split <;> omega) (by split <;> omega)
  have h4 := numL_one (es.length : Int) (by omega) (by omega)
  have h5 := (numL_len (m.data.size : Int))
  have h6 : (es.flatMap entL).length ≤ mostD es := by
    by_cases hk : m.kind = 3
    · exact chain_most _ _ _ (h.2.2.2.2.2.2.2.2.2.1 hk).2.2.2
    · have : es = [] := by
        apply List.eq_nil_of_length_eq_zero
        rcases h.1 with h | h | h | h | h | h
        · exact h.2.1
        · exact h.2.1
        · exact absurd h.1 hk
        · exact h.2.1
        · exact h.2.1
        · exact h.2.1
      subst this
      simp [mostD]
  have h7 : (headL m).length = 10 := rfl
  simp only [ltL, startL, textL, List.length_append, bytesOf_len]
  omega

set_option maxHeartbeats 16000000 in
set_option maxRecDepth 100000 in
theorem lbound_any (m : Lt) (a : Option Addr) (c n : Nat) (es : List Ent) (hn : es.length = n) (hc : n ≤ c) (hcm : c ≤ 9223372036854775807) (w : World) (hl : SlS Ent.cells 3 w (.slice a n c) es) : Calls Try.prog 8 #[m.agg (.slice a n c)] w fun e w' => e = .returned (.bool true) ∧ Ext w w' := by
  obtain ⟨n2, hn2⟩ : ∃ k, min n 20 = k := ⟨_, rfl⟩
  obtain ⟨es2, hes2⟩ : ∃ k, es.take n2 = k := ⟨_, rfl⟩
  have hl2 : SlS Ent.cells 3 w (.slice a n2 c) es2 := by rw [← hes2]; exact SlS.cut Ent.three hl n2 (by omega) c
  have hlen : es2.length = n2 := by rw [← hes2, List.length_take]; omega
  have hf := fun z => lfew_any m a c n hc hcm z
  rw [hn2] at hf
  have hn20 : n2 ≤ 20 := by omega
  clear hn2 hes2 hl hn hc hcm
  clear es
  obtain ⟨q, hq⟩ := prop_bool (RightP m es2)
  have hr := fun z (hz : Ext w z) => lright_is m a c n2 es2 hlen q hq z (SlS.ext hl2 hz)
  have hpy := fun z (hz : Ext w z) (h : RightP m es2) => lput_yes m a c n2 es2 hlen z (SlS.ext hl2 hz) h
  have hpn := fun z (hz : Ext w z) (h : ¬ RightP m es2) => lput_no m a c n2 es2 hlen z (SlS.ext hl2 hz) h
  have hbd := fun h : RightP m es2 => bound_law h
  have hsm := fun h : RightP m es2 => right_small h
  obtain ⟨kind, fr, to, te, ix, at_, co, me, off, sz, yes, data⟩ := m
  simp only [Lt.agg] at hr hf hpy hpn hbd hsm ⊢
  have HR := Lib.hid hr
  have HF := Lib.hid hf
  cases q with
  | false =>
    have hnr : ¬ RightP ⟨kind, fr, to, te, ix, at_, co, me, off, sz, yes, data⟩ es2 := fun h => by have := hq.2 h; cases this
    have HP := Lib.hid fun z hz => hpn z hz hnr
    clear hr hf hpy hpn hbd hsm hq hl2 hnr
    go_enter Try.func8, Try.ntmps8
    go_wp2_with (first
      | (go_at_call 13; with_reducible refine (HF.out _).mono ?_; rintro e x1 ⟨rfl, hx1⟩; have BM1 := Lib.hid (ext_blk hx1 (new_blk w (.cells #[.int .i64 kind, .int .i64 fr, .int .i64 to, .int .i64 te, .int .i64 ix, .int .i64 at_, .int .i64 co, .int .i64 me, .int .i64 off, .int .i64 sz, .bool yes, .string data, .slice a n c] 24))); have BS : Hid ((((((((((((((x1.setCell ⟨w.heap.size, 0, none⟩ (.int .i64 kind)).setCell ⟨w.heap.size, 1, none⟩ (.int .i64 fr)).setCell ⟨w.heap.size, 2, none⟩ (.int .i64 to)).setCell ⟨w.heap.size, 3, none⟩ (.int .i64 te)).setCell ⟨w.heap.size, 4, none⟩ (.int .i64 ix)).setCell ⟨w.heap.size, 5, none⟩ (.int .i64 at_)).setCell ⟨w.heap.size, 6, none⟩ (.int .i64 co)).setCell ⟨w.heap.size, 7, none⟩ (.int .i64 me)).setCell ⟨w.heap.size, 8, none⟩ (.int .i64 off)).setCell ⟨w.heap.size, 9, none⟩ (.int .i64 sz)).setCell ⟨w.heap.size, 10, none⟩ (.bool yes)).setCell ⟨w.heap.size, 11, none⟩ (.string data)).setCell ⟨w.heap.size, 12, none⟩ (.slice a n2 c)).heap[w.heap.size]? = some (.cells #[.int .i64 kind, .int .i64 fr, .int .i64 to, .int .i64 te, .int .i64 ix, .int .i64 at_, .int .i64 co, .int .i64 me, .int .i64 off, .int .i64 sz, .bool yes, .string data, .slice a n2 c] 24 (0, 0))) := Lib.hid (set13_blk BM1.out); have hX1 : Ext w x1 := Ext.trans ((Ext.refl w).alloc _) hx1; have HXS : Hid (Ext w (((((((((((((x1.setCell ⟨w.heap.size, 0, none⟩ (.int .i64 kind)).setCell ⟨w.heap.size, 1, none⟩ (.int .i64 fr)).setCell ⟨w.heap.size, 2, none⟩ (.int .i64 to)).setCell ⟨w.heap.size, 3, none⟩ (.int .i64 te)).setCell ⟨w.heap.size, 4, none⟩ (.int .i64 ix)).setCell ⟨w.heap.size, 5, none⟩ (.int .i64 at_)).setCell ⟨w.heap.size, 6, none⟩ (.int .i64 co)).setCell ⟨w.heap.size, 7, none⟩ (.int .i64 me)).setCell ⟨w.heap.size, 8, none⟩ (.int .i64 off)).setCell ⟨w.heap.size, 9, none⟩ (.int .i64 sz)).setCell ⟨w.heap.size, 10, none⟩ (.bool yes)).setCell ⟨w.heap.size, 11, none⟩ (.string data)).setCell ⟨w.heap.size, 12, none⟩ (.slice a n2 c))) := Lib.hid ((((((((((((((hX1.setCell (p := ⟨w.heap.size, 0, none⟩) (Nat.le_refl _) (.int .i64 kind)).setCell (p := ⟨w.heap.size, 1, none⟩) (Nat.le_refl _) (.int .i64 fr)).setCell (p := ⟨w.heap.size, 2, none⟩) (Nat.le_refl _) (.int .i64 to)).setCell (p := ⟨w.heap.size, 3, none⟩) (Nat.le_refl _) (.int .i64 te)).setCell (p := ⟨w.heap.size, 4, none⟩) (Nat.le_refl _) (.int .i64 ix)).setCell (p := ⟨w.heap.size, 5, none⟩) (Nat.le_refl _) (.int .i64 at_)).setCell (p := ⟨w.heap.size, 6, none⟩) (Nat.le_refl _) (.int .i64 co)).setCell (p := ⟨w.heap.size, 7, none⟩) (Nat.le_refl _) (.int .i64 me)).setCell (p := ⟨w.heap.size, 8, none⟩) (Nat.le_refl _) (.int .i64 off)).setCell (p := ⟨w.heap.size, 9, none⟩) (Nat.le_refl _) (.int .i64 sz)).setCell (p := ⟨w.heap.size, 10, none⟩) (Nat.le_refl _) (.bool yes)).setCell (p := ⟨w.heap.size, 11, none⟩) (Nat.le_refl _) (.string data)).setCell (p := ⟨w.heap.size, 12, none⟩) (Nat.le_refl _) (.slice a n2 c))); have zx1 := blk_lt BM1.out; obtain ⟨k0, l0⟩ := blkG BM1.out 0 (.int .i64 kind) rfl; obtain ⟨k1, l1⟩ := blkG BM1.out 1 (.int .i64 fr) rfl; obtain ⟨k2, l2⟩ := blkG BM1.out 2 (.int .i64 to) rfl; obtain ⟨k3, l3⟩ := blkG BM1.out 3 (.int .i64 te) rfl; obtain ⟨k4, l4⟩ := blkG BM1.out 4 (.int .i64 ix) rfl; obtain ⟨k5, l5⟩ := blkG BM1.out 5 (.int .i64 at_) rfl; obtain ⟨k6, l6⟩ := blkG BM1.out 6 (.int .i64 co) rfl; obtain ⟨k7, l7⟩ := blkG BM1.out 7 (.int .i64 me) rfl; obtain ⟨k8, l8⟩ := blkG BM1.out 8 (.int .i64 off) rfl; obtain ⟨k9, l9⟩ := blkG BM1.out 9 (.int .i64 sz) rfl; obtain ⟨k10, l10⟩ := blkG BM1.out 10 (.bool yes) rfl; obtain ⟨k11, l11⟩ := blkG BM1.out 11 (.string data) rfl; obtain ⟨k12, l12⟩ := blkG BM1.out 12 (.slice a n c) rfl)
      | (go_at_call 9; with_reducible refine (HP.out _ HXS.out).mono ?_; rintro e x2 ⟨rfl, hx2⟩; have BM2 := Lib.hid (ext_blk hx2 BS.out); have HX2 := Lib.hid (HXS.out.trans hx2); obtain ⟨p0, _⟩ := blkG BM2.out 0 (.int .i64 kind) rfl; obtain ⟨p1, _⟩ := blkG BM2.out 1 (.int .i64 fr) rfl; obtain ⟨p2, _⟩ := blkG BM2.out 2 (.int .i64 to) rfl; obtain ⟨p3, _⟩ := blkG BM2.out 3 (.int .i64 te) rfl; obtain ⟨p4, _⟩ := blkG BM2.out 4 (.int .i64 ix) rfl; obtain ⟨p5, _⟩ := blkG BM2.out 5 (.int .i64 at_) rfl; obtain ⟨p6, _⟩ := blkG BM2.out 6 (.int .i64 co) rfl; obtain ⟨p7, _⟩ := blkG BM2.out 7 (.int .i64 me) rfl; obtain ⟨p8, _⟩ := blkG BM2.out 8 (.int .i64 off) rfl; obtain ⟨p9, _⟩ := blkG BM2.out 9 (.int .i64 sz) rfl; obtain ⟨p10, _⟩ := blkG BM2.out 10 (.bool yes) rfl; obtain ⟨p11, _⟩ := blkG BM2.out 11 (.string data) rfl; obtain ⟨p12, _⟩ := blkG BM2.out 12 (.slice a n2 c) rfl)
      | (go_at_call 17; with_reducible refine (HR.out _ HX2.out).mono ?_; rintro e x3 ⟨rfl, hx3⟩)
      | (go_at_call 3; refine (lruns_any _).mono ?_; rintro e x4 ⟨rfl, hx4⟩))
    go_ret
    exact ⟨rfl, HX2.out.trans (hx3.trans hx4)⟩
  | true =>
    have hyr : RightP ⟨kind, fr, to, te, ix, at_, co, me, off, sz, yes, data⟩ es2 := hq.1 rfl
    have HP := Lib.hid fun z hz => hpy z hz hyr
    obtain ⟨B1, B2⟩ := hbd hyr
    have hd600 : data.size ≤ 600 := (hsm hyr).2.2.1
    have HE := Lib.hid (hsm hyr).2.2.2
    have HL2 := Lib.hid hl2
    have HLEN := Lib.hid hlen
    obtain ⟨L, hL⟩ : ∃ L, ltL ⟨kind, fr, to, te, ix, at_, co, me, off, sz, yes, data⟩ es2 = L := ⟨_, rfl⟩
    rw [hL] at HP B1 B2
    have hm0 : mostD es2 ≤ 30000 := by
      have : ∀ l : List Ent, (∀ x ∈ l, x.data.size ≤ 1100) → mostD l ≤ l.length * 1124 := by
        intro l
        induction l with
        | nil => simp [mostD]
        | cons x l ih =>
          intro h
          have h1 := h x (by simp)
          have h2 := ih fun y hy => h y (List.mem_cons_of_mem _ hy)
          have : mostD (x :: l) = x.data.size + 24 + mostD l := by simp [mostD]
          rw [this, List.length_cons]
          omega
      have := this es2 HE.out
      omega
    try simp only at B2
    clear hr hf hpy hpn hbd hsm hq hl2 hyr hL hlen
    go_enter Try.func8, Try.ntmps8
    go_wp2_with (first
      | (go_at_call 13; with_reducible refine (HF.out _).mono ?_; rintro e x1 ⟨rfl, hx1⟩; have BM1 := Lib.hid (ext_blk hx1 (new_blk w (.cells #[.int .i64 kind, .int .i64 fr, .int .i64 to, .int .i64 te, .int .i64 ix, .int .i64 at_, .int .i64 co, .int .i64 me, .int .i64 off, .int .i64 sz, .bool yes, .string data, .slice a n c] 24))); have BS : Hid ((((((((((((((x1.setCell ⟨w.heap.size, 0, none⟩ (.int .i64 kind)).setCell ⟨w.heap.size, 1, none⟩ (.int .i64 fr)).setCell ⟨w.heap.size, 2, none⟩ (.int .i64 to)).setCell ⟨w.heap.size, 3, none⟩ (.int .i64 te)).setCell ⟨w.heap.size, 4, none⟩ (.int .i64 ix)).setCell ⟨w.heap.size, 5, none⟩ (.int .i64 at_)).setCell ⟨w.heap.size, 6, none⟩ (.int .i64 co)).setCell ⟨w.heap.size, 7, none⟩ (.int .i64 me)).setCell ⟨w.heap.size, 8, none⟩ (.int .i64 off)).setCell ⟨w.heap.size, 9, none⟩ (.int .i64 sz)).setCell ⟨w.heap.size, 10, none⟩ (.bool yes)).setCell ⟨w.heap.size, 11, none⟩ (.string data)).setCell ⟨w.heap.size, 12, none⟩ (.slice a n2 c)).heap[w.heap.size]? = some (.cells #[.int .i64 kind, .int .i64 fr, .int .i64 to, .int .i64 te, .int .i64 ix, .int .i64 at_, .int .i64 co, .int .i64 me, .int .i64 off, .int .i64 sz, .bool yes, .string data, .slice a n2 c] 24 (0, 0))) := Lib.hid (set13_blk BM1.out); have hX1 : Ext w x1 := Ext.trans ((Ext.refl w).alloc _) hx1; have HXS : Hid (Ext w (((((((((((((x1.setCell ⟨w.heap.size, 0, none⟩ (.int .i64 kind)).setCell ⟨w.heap.size, 1, none⟩ (.int .i64 fr)).setCell ⟨w.heap.size, 2, none⟩ (.int .i64 to)).setCell ⟨w.heap.size, 3, none⟩ (.int .i64 te)).setCell ⟨w.heap.size, 4, none⟩ (.int .i64 ix)).setCell ⟨w.heap.size, 5, none⟩ (.int .i64 at_)).setCell ⟨w.heap.size, 6, none⟩ (.int .i64 co)).setCell ⟨w.heap.size, 7, none⟩ (.int .i64 me)).setCell ⟨w.heap.size, 8, none⟩ (.int .i64 off)).setCell ⟨w.heap.size, 9, none⟩ (.int .i64 sz)).setCell ⟨w.heap.size, 10, none⟩ (.bool yes)).setCell ⟨w.heap.size, 11, none⟩ (.string data)).setCell ⟨w.heap.size, 12, none⟩ (.slice a n2 c))) := Lib.hid ((((((((((((((hX1.setCell (p := ⟨w.heap.size, 0, none⟩) (Nat.le_refl _) (.int .i64 kind)).setCell (p := ⟨w.heap.size, 1, none⟩) (Nat.le_refl _) (.int .i64 fr)).setCell (p := ⟨w.heap.size, 2, none⟩) (Nat.le_refl _) (.int .i64 to)).setCell (p := ⟨w.heap.size, 3, none⟩) (Nat.le_refl _) (.int .i64 te)).setCell (p := ⟨w.heap.size, 4, none⟩) (Nat.le_refl _) (.int .i64 ix)).setCell (p := ⟨w.heap.size, 5, none⟩) (Nat.le_refl _) (.int .i64 at_)).setCell (p := ⟨w.heap.size, 6, none⟩) (Nat.le_refl _) (.int .i64 co)).setCell (p := ⟨w.heap.size, 7, none⟩) (Nat.le_refl _) (.int .i64 me)).setCell (p := ⟨w.heap.size, 8, none⟩) (Nat.le_refl _) (.int .i64 off)).setCell (p := ⟨w.heap.size, 9, none⟩) (Nat.le_refl _) (.int .i64 sz)).setCell (p := ⟨w.heap.size, 10, none⟩) (Nat.le_refl _) (.bool yes)).setCell (p := ⟨w.heap.size, 11, none⟩) (Nat.le_refl _) (.string data)).setCell (p := ⟨w.heap.size, 12, none⟩) (Nat.le_refl _) (.slice a n2 c))); have zx1 := blk_lt BM1.out; obtain ⟨k0, l0⟩ := blkG BM1.out 0 (.int .i64 kind) rfl; obtain ⟨k1, l1⟩ := blkG BM1.out 1 (.int .i64 fr) rfl; obtain ⟨k2, l2⟩ := blkG BM1.out 2 (.int .i64 to) rfl; obtain ⟨k3, l3⟩ := blkG BM1.out 3 (.int .i64 te) rfl; obtain ⟨k4, l4⟩ := blkG BM1.out 4 (.int .i64 ix) rfl; obtain ⟨k5, l5⟩ := blkG BM1.out 5 (.int .i64 at_) rfl; obtain ⟨k6, l6⟩ := blkG BM1.out 6 (.int .i64 co) rfl; obtain ⟨k7, l7⟩ := blkG BM1.out 7 (.int .i64 me) rfl; obtain ⟨k8, l8⟩ := blkG BM1.out 8 (.int .i64 off) rfl; obtain ⟨k9, l9⟩ := blkG BM1.out 9 (.int .i64 sz) rfl; obtain ⟨k10, l10⟩ := blkG BM1.out 10 (.bool yes) rfl; obtain ⟨k11, l11⟩ := blkG BM1.out 11 (.string data) rfl; obtain ⟨k12, l12⟩ := blkG BM1.out 12 (.slice a n c) rfl)
      | (go_at_call 9; with_reducible refine (HP.out _ HXS.out).mono ?_; rintro e x2 ⟨vb, rfl, hob, hx2⟩; obtain ⟨ab, cb, rfl, hcb1, hcb2⟩ := own8_form hob; have BM2 := Lib.hid (ext_blk hx2 BS.out); have HX2 := Lib.hid (HXS.out.trans hx2); obtain ⟨p0, _⟩ := blkG BM2.out 0 (.int .i64 kind) rfl; obtain ⟨p1, _⟩ := blkG BM2.out 1 (.int .i64 fr) rfl; obtain ⟨p2, _⟩ := blkG BM2.out 2 (.int .i64 to) rfl; obtain ⟨p3, _⟩ := blkG BM2.out 3 (.int .i64 te) rfl; obtain ⟨p4, _⟩ := blkG BM2.out 4 (.int .i64 ix) rfl; obtain ⟨p5, _⟩ := blkG BM2.out 5 (.int .i64 at_) rfl; obtain ⟨p6, _⟩ := blkG BM2.out 6 (.int .i64 co) rfl; obtain ⟨p7, _⟩ := blkG BM2.out 7 (.int .i64 me) rfl; obtain ⟨p8, _⟩ := blkG BM2.out 8 (.int .i64 off) rfl; obtain ⟨p9, _⟩ := blkG BM2.out 9 (.int .i64 sz) rfl; obtain ⟨p10, _⟩ := blkG BM2.out 10 (.bool yes) rfl; obtain ⟨p11, _⟩ := blkG BM2.out 11 (.string data) rfl; obtain ⟨p12, _⟩ := blkG BM2.out 12 (.slice a n2 c) rfl)
      | (go_at_call 17; with_reducible refine (HR.out _ HX2.out).mono ?_; rintro e x3 ⟨rfl, hx3⟩; have BM3 := Lib.hid (ext_blk hx3 BM2.out); have HX3 := Lib.hid (HX2.out.trans hx3); obtain ⟨r11, _⟩ := blkG BM3.out 11 (.string data) rfl; obtain ⟨r12, _⟩ := blkG BM3.out 12 (.slice a n2 c) rfl))
    clear k0 l0 k1 l1 k2 l2 k3 l3 k4 l4 k5 l5 k6 l6 k7 l7 k8 l8 k9 l9 k10 l10 k11 l11 k12 l12 p0 p1 p2 p3 p4 p5 p6 p7 p8 p9 p10 p11 p12 hob hx1 hx2 zx1
    go_loop [4, 5] (fun mv iv => ∃ k : Nat, k ≤ n2 ∧ iv = .int .i64 (k : Int) ∧ mv = .int .i64 ((120 + data.size + mostD (es2.take k) : Nat) : Int)) (fun _ iv => n2 - (intOf iv).toNat)
    case atStart => exact ⟨0, by omega, rfl, by simp [mostD]⟩
    case round =>
      obtain ⟨k, hk, rfl, rfl⟩ := hrel
      by_cases hlt : k < n2
      · have hki : (k : Int) < (n2 : Int) := by omega
        have hki0 : (0 : Int) ≤ (k : Int) := by omega
        have hkl : k < es2.length := by have := HLEN.out; omega
        have hL2 := HL2.out
        rw [← HLEN.out] at hL2
        obtain ⟨b1, o1, rfl, hb1, hc1⟩ := SlS.at_ Ent.three hL2 (by omega) (by decide)
        have a2 : x3.cell? ⟨b1, o1 + k * 3 + 2, none⟩ = some (.string es2[k].data) := (HX3.out.cell (p := ⟨b1, o1 + k * 3 + 2, none⟩) hb1).trans (hc1 k hkl 2 (by decide))
        have hT := mostD_take es2 k hkl
        have hsz := HE.out _ (List.getElem_mem hkl)
        have hle : mostD (es2.take k) ≤ 30000 := by
          have h1 : mostD es2 = mostD (es2.take k) + mostD (es2.drop k) := by
            rw [mostD, mostD, mostD, ← List.sum_append, ← List.map_append, List.take_append_drop]
          omega
        generalize es2[k] = x at *
        have HT := Lib.hid hT
        clear hc1 hL2 hT hkl
        generalize mostD (es2.take k) = D at *
        go_wp2
        go_round
        case rel => exact ⟨k + 1, by omega, by go_num, by rw [HT.out]; simp; omega⟩
        case measure => simp [intOf]; omega
      · have hki : ¬ (k : Int) < (n2 : Int) := by omega
        have hke : k = es2.length := by have := HLEN.out; omega
        have HK : Hid (mostD (es2.take k) = mostD es2) := Lib.hid (by rw [hke, List.take_length])
        rw [HK.out]
        clear hke HK
        have g1 : (13 : Int) ≤ (L.length : Int) := by omega
        have g2 : (L.length : Int) ≤ ((120 + data.size + mostD es2 : Nat) : Int) := by omega
        generalize (120 + data.size + mostD es2 : Nat) = G at *
        go_wp2_with (go_at_call 3; refine (lruns_any _).mono ?_; rintro e x4 ⟨rfl, hx4⟩)
        go_ret
        exact ⟨rfl, HX3.out.trans hx4⟩
end Go.Proofs.Ytpfdihidncofaaa
