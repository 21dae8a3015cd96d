/- Package wal, as a letter needs it: fits, bare, Right; package letter: entries. -/
import Derived.Test.YtognipephfedkaaLetB
namespace Go.Proofs.Ytognipephfedkaa
open Go.RowKit

/-- A truth is told. -/
def RetB (P : Prop) (e : Ending) : Prop := ∃ q : Bool, e = .returned (.bool q) ∧ (q = true ↔ P)
def FitsP (x : Ent) (b t : Int) : Prop := 1 ≤ x.term ∧ b ≤ x.term ∧ x.term ≤ t ∧ 0 ≤ x.members ∧ x.members ≤ 127 ∧ x.data.size ≤ 1100 ∧ (x.members = 0 ∨ x.data = ⟨#[]⟩)
def ChainP (t : Int) : Int → List Ent → Prop
  | _, [] => True
  | b, x :: xs => FitsP x b t ∧ ChainP t x.term xs

set_option maxHeartbeats 4000000 in
set_option maxRecDepth 100000 in
theorem fits_any (x : Ent) (b t : Int) (w : World) : Calls Try.prog 59 #[.agg #[.int .i64 x.term, .int .i64 x.members, .string x.data], .int .i64 b, .int .i64 t] w fun e w' => RetB (FitsP x b t) e ∧ Ext w w' := by
  have hs := str_eq_iff x.data ⟨#[]⟩
  have h0 : (⟨#[]⟩ : ByteArray).toList = [] := by rw [ByteArray.toList_eq]
  rw [h0] at hs
  have HS := Lib.hid hs
  clear hs h0
  go_enter Try.func59, Try.ntmps59
  go_wp2
  all_goals
    go_ret
    refine ⟨⟨_, rfl, ?_⟩, (by repeat (first | exact Ext.refl _ | assumption | refine Ext.trans ?_ (by assumption) | refine Ext.alloc ?_ _ | refine Ext.drew ?_ | refine Ext.drewN ?_ _))⟩
    have hs := HS.out
    clear HS
    simp only [FitsP]
    grind

set_option maxHeartbeats 4000000 in
set_option maxRecDepth 100000 in
theorem wbare_any (t b bt : Int) (sn : ByteArray) (a : Option Addr) (c : Nat) (es : List Ent) (w : World) (hl : SlS Ent.cells 3 w (.slice a es.length c) es) (h1 : 1 ≤ t) (h2 : t ≤ 1099511627776) (h3 : 0 ≤ b) (h4 : b ≤ 1099511627776) (h5 : 0 ≤ bt) (h6 : bt ≤ t) (h7 : bt = 0 ↔ b = 0) (h8 : es.length ≤ 8) (h9 : (es.length : Int) ≤ 1099511627776 - b) :
    Calls Try.prog 58 #[.agg #[.int .i64 t, .int .i64 (-1), .int .i64 b, .int .i64 bt, .int .i64 1, .string sn, .slice a es.length c]] w fun e w' => RetB (ChainP t bt es) e ∧ Ext w w' := by
  have e0 : (bt == 0) = (b == 0) := by rw [Bool.eq_iff_iff, beq_iff_eq, beq_iff_eq]; exact h7
  have e1 : (!(bt == 0) == (b == 0)) = false := by rw [e0]; cases (b == 0) <;> rfl
  clear e0
  have e2 : ¬ (1099511627776 - b) < (es.length : Int) := by omega
  have e3 : ¬ (200 : Int) < (es.length : Int) := by omega
  have e4 : ¬ t < 0 := by omega
  have e5 : ¬ (1099511627776 : Int) < t := by omega
  have e6 : ¬ b < 0 := by omega
  have e7 : ¬ (1099511627776 : Int) < b := by omega
  have e8 : ¬ bt < 0 := by omega
  have e9 : ¬ t < bt := by omega
  have HL := Lib.hid hl
  clear h7 hl
  go_enter Try.func58, Try.ntmps58
  go_wp2_with fail
  have hT : (w.alloc (.cells #[.int .i64 t, .int .i64 (-1), .int .i64 b, .int .i64 bt, .int .i64 1, .string sn, .slice a es.length c] 83)).cell? ⟨w.heap.size, 0, none⟩ = some (.int .i64 t) := by simp [go_sem]
  have hX : Ext w (w.alloc (.cells #[.int .i64 t, .int .i64 (-1), .int .i64 b, .int .i64 bt, .int .i64 1, .string sn, .slice a es.length c] 83)) := (Ext.refl w).alloc _
  generalize (w.alloc (.cells #[.int .i64 t, .int .i64 (-1), .int .i64 b, .int .i64 bt, .int .i64 1, .string sn, .slice a es.length c] 83)) = W at *
  have hz := World.block_lt_of_cell? _ _ hT
  go_loopw [3, 81] (fun bv iv wr => ∃ (k : Nat) (b' : Int), k ≤ es.length ∧ iv = .int .i64 (k : Int) ∧ bv = .int .i64 b' ∧ (ChainP t bt es ↔ ChainP t b' (es.drop k)) ∧ Ext W wr) (fun _ iv _ => es.length - (intOf iv).toNat)
  case atStart => exact ⟨0, bt, Nat.zero_le _, rfl, rfl, Iff.rfl, Ext.refl _⟩
  case round =>
    obtain ⟨k, b', hk, rfl, rfl, hch, hxr⟩ := hrel
    have HC := Lib.hid hch
    clear hch
    have r0 := (hxr.cell (p := ⟨w.heap.size, 0, none⟩) hz).trans hT
    have hzr := World.block_lt_of_cell? _ _ r0
    by_cases hlt : k < es.length
    · have hki : (k : Int) < (es.length : Int) := by omega
      have hki0 : (0 : Int) ≤ (k : Int) := by omega
      obtain ⟨b1, o1, rfl, hb1, hc1⟩ := SlS.at_ Ent.three HL.out (by omega) (by decide)
      have d1 := fun j hj => ((hX.trans hxr).cell (p := ⟨b1, o1 + k * 3 + j, none⟩) hb1).trans (hc1 k hlt j hj)
      have hdr := List.drop_eq_getElem_cons hlt
      generalize es[k] = x at *
      have a0 : wr.cell? ⟨b1, o1 + k * 3, none⟩ = some (.int .i64 x.term) := d1 0 (by decide)
      have a1 : wr.cell? ⟨b1, o1 + k * 3 + 1, none⟩ = some (.int .i64 x.members) := d1 1 (by decide)
      have a2 : wr.cell? ⟨b1, o1 + k * 3 + 2, none⟩ = some (.string x.data) := d1 2 (by decide)
      have HD : Hid (ChainP t b' (es.drop k) ↔ FitsP x b' t ∧ ChainP t x.term (es.drop (k + 1))) := Lib.hid (by rw [hdr]; rfl)
      have kk : ∀ z, Ext (wr.alloc (.cells #[.int .i64 x.term, .int .i64 x.members, .string x.data] 49)) z → z.cell? ⟨wr.heap.size, 0, none⟩ = some (.int .i64 x.term) := fun z h => by rw [h.cell (by simp)]; simp [go_sem]
      have KK := Lib.hid kk
      clear d1 hc1 hdr hT kk
      go_wp2_with (go_at_call 59; (refine (fits_any x b' t _).mono ?_); rintro e z ⟨⟨q, rfl, hq⟩, hz2⟩; have HQ := Lib.hid hq; have z0 := KK.out z hz2; clear hq)
      · go_ret
        refine ⟨⟨false, rfl, ?_⟩, (hX.trans hxr).trans (Ext.trans ((Ext.refl wr).alloc _) hz2)⟩
        rw [HC.out, HD.out, ← HQ.out]
        rename_i hqf
        cases q
        · simp
        · cases hqf
      · rename_i hqt
        refine ⟨⟨k + 1, x.term, by omega, by simp, rfl, ?_, hxr.trans (Ext.trans ((Ext.refl wr).alloc _) hz2)⟩, by simp [intOf]; omega⟩
        rw [HC.out, HD.out, ← HQ.out]
        cases q
        · cases hqt
        · simp
    · have hki : ¬ (k : Int) < (es.length : Int) := by omega
      have hke : k = es.length := by omega
      have HE : Hid (ChainP t bt es) := Lib.hid (by rw [HC.out, hke, List.drop_length]; trivial)
      clear hke
      go_wp2
      go_ret
      exact ⟨⟨true, rfl, ⟨fun _ => HE.out, fun _ => rfl⟩⟩, hX.trans hxr⟩

set_option maxHeartbeats 4000000 in
set_option maxRecDepth 100000 in
theorem wright_any (t b bt : Int) (sn : ByteArray) (hsn : sn = (if b = 0 then ⟨#[]⟩ else ⟨#[115]⟩)) (a : Option Addr) (c : Nat) (es : List Ent) (w : World) (hl : SlS Ent.cells 3 w (.slice a es.length c) es) (h1 : 1 ≤ t) (h2 : t ≤ 1099511627776) (h3 : 0 ≤ b) (h4 : b ≤ 1099511627776) (h5 : 0 ≤ bt) (h6 : bt ≤ t) (h7 : bt = 0 ↔ b = 0) (h8 : es.length ≤ 8) (h9 : (es.length : Int) ≤ 1099511627776 - b) :
    Calls Try.prog 55 #[.agg #[.int .i64 t, .int .i64 (-1), .int .i64 b, .int .i64 bt, .int .i64 1, .string sn, .slice a es.length c]] w fun e w' => RetB (ChainP t bt es) e ∧ Ext w w' := by
  have hX : Ext w (w.alloc (.cells #[.int .i64 t, .int .i64 (-1), .int .i64 b, .int .i64 bt, .int .i64 1, .string sn, .slice a es.length c] 83)) := (Ext.refl w).alloc _
  have hb := wbare_any t b bt sn a c es _ (hl.ext hX) h1 h2 h3 h4 h5 h6 h7 h8 h9
  have e1 : sn.toList.isEmpty = (b == 0) := by
    rw [hsn]
    by_cases h : b = 0
    · rw [if_pos h, h, ByteArray.toList_eq]; rfl
    · rw [if_neg h, ByteArray.toList_eq, beq_eq_false_iff_ne.2 h]; rfl
  have e2 : (sn.size : Int) ≤ 65536 := by
    rw [hsn]
    by_cases h : b = 0
    · rw [if_pos h]; decide
    · rw [if_neg h]; decide
  clear hsn h7 hl
  go_enter Try.func55, Try.ntmps55
  go_wp2_with (go_at_call 58; (refine hb.mono ?_); rintro e z ⟨⟨q, rfl, hq⟩, hz2⟩; have HQ := Lib.hid hq; have z2 : z.cell? ⟨w.heap.size, 2, none⟩ = some (.int .i64 b) := (by rw [hz2.cell (by simp)]; simp [go_sem]); have z5 : z.cell? ⟨w.heap.size, 5, none⟩ = some (.string sn) := (by rw [hz2.cell (by simp)]; simp [go_sem]); clear hq)
  all_goals
    go_ret
    refine ⟨⟨_, rfl, ?_⟩, hX.trans hz2⟩
    rw [← HQ.out]
    simp_all

def EntP (m : Lt) (es : List Ent) : Prop := es.length ≤ 8 ∧ (es.length : Int) ≤ 1099511627776 - m.ix ∧ ChainP m.te m.at_ es
set_option maxHeartbeats 4000000 in
set_option maxRecDepth 100000 in
theorem lentries_any (m : Lt) (a : Option Addr) (c : Nat) (es : List Ent) (w : World) (hl : SlS Ent.cells 3 w (.slice a es.length c) es) (h1 : 1 ≤ m.te) (h2 : m.te ≤ 1099511627776) (h3 : 0 ≤ m.ix) (h4 : m.ix ≤ 1099511627776) (h5 : 0 ≤ m.at_) (h6 : m.at_ ≤ m.te) (h7 : m.at_ = 0 ↔ m.ix = 0) :
    Calls Try.prog 44 #[m.agg (.slice a es.length c)] w fun e w' => RetB (EntP m es) e ∧ Ext w w' := by
  obtain ⟨kind, fr, to, te, ix, at_, co, me, off, sz, yes, data⟩ := m
  simp only [Lt.agg] at h1 h2 h3 h4 h5 h6 h7 ⊢
  have hX : ∀ o, Ext w (w.alloc o) := fun o => (Ext.refl w).alloc o
  by_cases hg : es.length ≤ 8 ∧ (es.length : Int) ≤ 1099511627776 - ix
  · obtain ⟨h8, h9⟩ := hg
    have HE : Hid (EntP ⟨kind, fr, to, te, ix, at_, co, me, off, sz, yes, data⟩ es ↔ ChainP te at_ es) := Lib.hid (by simp [EntP, h8, h9])
    have e1 : ¬ (8 : Int) < (es.length : Int) := by omega
    have e2 : ¬ (1099511627776 - ix) < (es.length : Int) := by omega
    by_cases hi : ix = 0
    · subst hi
      have hw := fun z (hz : Ext w z) => wright_any te 0 at_ ⟨#[]⟩ (by simp) a c es z (hl.ext hz) h1 h2 h3 h4 h5 h6 h7 h8 h9
      have HW := Lib.hid hw
      clear hw h7 hl
      go_enter Try.func44, Try.ntmps44
      go_wp2_with (go_at_call 55; (refine (HW.out _ ((hX _).alloc _)).mono ?_); rintro e z ⟨⟨q, rfl, hq⟩, hz2⟩; have HQ := Lib.hid hq; clear hq)
      go_ret
      exact ⟨⟨q, rfl, by rw [HE.out]; exact HQ.out⟩, ((hX _).alloc _).trans hz2⟩
    · have hi2 : (0 : Int) < ix := by omega
      have hw := fun z (hz : Ext w z) => wright_any te ix at_ ⟨#[115]⟩ (by rw [if_neg hi]) a c es z (hl.ext hz) h1 h2 h3 h4 h5 h6 h7 h8 h9
      have HW := Lib.hid hw
      clear hw h7 hl hi
      go_enter Try.func44, Try.ntmps44
      go_wp2_with (go_at_call 55; (refine (HW.out _ ((hX _).alloc _)).mono ?_); rintro e z ⟨⟨q, rfl, hq⟩, hz2⟩; have HQ := Lib.hid hq; clear hq)
      go_ret
      exact ⟨⟨q, rfl, by rw [HE.out]; exact HQ.out⟩, ((hX _).alloc _).trans hz2⟩
  · have HE : Hid (¬ EntP ⟨kind, fr, to, te, ix, at_, co, me, off, sz, yes, data⟩ es) := Lib.hid (fun h => hg ⟨h.1, h.2.1⟩)
    have hc : (8 : Int) < (es.length : Int) ∨ (¬ (8 : Int) < (es.length : Int) ∧ (1099511627776 - ix) < (es.length : Int)) := by omega
    clear hg h7 hl
    rcases hc with e1 | ⟨e1, e2⟩
    all_goals
      go_enter Try.func44, Try.ntmps44
      go_wp2
      go_ret
      refine ⟨⟨false, rfl, ?_⟩, hX _⟩
      have := HE.out
      simp [this]
end Go.Proofs.Ytognipephfedkaa
