/- The law PackCut of package impostlaw2: the walk, and what it rests on. -/
import Derived.Test.YtmhppikbnobedaaPackPut
import Derived.Test.YtmhppikbnobedaaWithin
namespace Go.Proofs.Ytmhppikbnobedaa
open Go.RowKit

theorem textL_cut (s : ByteArray) (hs : s.size ≤ 9223372036854775807) (k : Nat) (hk : k < (textL s).length) : rText ((textL s).take k) ⟨0, 0⟩ s.size = ([], ⟨0, 3⟩) := by
  have hl : (textL s).length = (numL s.size).length + s.size := by simp [textL, bytesOf_len]
  by_cases h : k < (numL s.size).length
  · have e : (textL s).take k = (numL s.size).take k := by
      unfold textL
      rw [List.take_append_of_le_length (by omega)]
    have hn : rNum ((textL s).take k) ⟨0, 0⟩ = (0, ⟨0, 3⟩) := by rw [e]; exact rNum_cut _ _ h
    simp [rText, rWithin, hn]
  · obtain ⟨j, rfl⟩ : ∃ j, k = (numL s.size).length + j := ⟨k - (numL s.size).length, by omega⟩
    have e : (textL s).take ((numL s.size).length + j) = [] ++ numL s.size ++ (bytesOf s).take j := by
      unfold textL
      rw [List.take_length_add_append]
      simp
    have hlen : ((textL s).take ((numL s.size).length + j)).length = (numL s.size).length + j := by rw [List.length_take]; omega
    have hn : rNum ((textL s).take ((numL s.size).length + j)) ⟨0, 0⟩ = ((s.size : Int), ⟨(numL s.size).length, 0⟩) := by
      rw [e]
      have := rNum_put [] ((bytesOf s).take j) s.size (by omega) (by omega)
      simpa using this
    have hw : rWithin ((textL s).take ((numL s.size).length + j)) ⟨0, 0⟩ 0 s.size = ((s.size : Int), ⟨(numL s.size).length, 0⟩) := by
      unfold rWithin
      rw [hn]
      simp only []
      rw [if_neg (by omega)]
    unfold rText
    rw [hw]
    simp only []
    rw [if_neg (by omega), if_pos (by rw [hlen]; omega)]

theorem cut_law (x : Itm) (hx : x.ok) (k : Nat) (hk : k < (putL x).length) : (backR ((putL x).take k) ⟨0, 0⟩ x).2 = ⟨0, 3⟩ := by
  obtain ⟨hn0, hn1, hs⟩ := hx
  unfold putL at hk ⊢
  unfold backR
  by_cases h2 : x.kind = 2
  · simp only [h2, if_true] at hk ⊢
    rw [textL_cut _ (by omega) k hk]
  · simp only [h2, if_false] at hk ⊢
    by_cases h3 : x.kind = 3
    · simp only [h3, if_true] at hk ⊢
      have := rNum_cut _ k hk
      simp [rFlag, this]
    · simp only [h3, if_false] at hk ⊢
      have := rNum_cut _ k hk
      split <;> simp [rWithin, this]

/-- The beginning of what a slice reads as. -/
theorem Rd8.cut {w : World} {a : Option Addr} {n cap : Nat} {l : List UInt8} (h : Rd8 w (.slice a n cap) l) (k : Nat) (hk : k ≤ l.length) (c : Nat) : Rd8 w (.slice a k c) (l.take k) := by
  obtain ⟨h1, h2, a', cap', he, h3⟩ := h
  simp only [Value.slice.injEq] at he
  obtain ⟨rfl, rfl, rfl⟩ := he
  have hlen : (l.take k).length = k := by simp; omega
  refine ⟨by simp, by omega, a, c, by rw [hlen], ?_⟩
  rw [hlen]
  rcases h3 with h3 | ⟨b, off, rfl, hlt, hc⟩
  · exact .inl (by omega)
  · by_cases hk0 : k = 0
    · exact .inl hk0
    · exact .inr ⟨b, off, rfl, hlt, fun j hj => by rw [hc j (by omega), List.map_take, List.getElem?_take_of_lt (by omega)]⟩

set_option maxHeartbeats 4000000 in
set_option maxRecDepth 100000 in
theorem packCut_any (x : Itm) (hx : x.ok) (at_ : Int) (w : World) : Calls Try.prog 6 #[.agg x.cells, .int .i64 at_] w fun e w' => e = .returned (.bool true) ∧ Ext w w' := by
  obtain ⟨kind, n, lo, hi, s, f⟩ := x
  have hcut := cut_law _ hx
  have hput := fun w v hr hb => put_any v [] ⟨kind, n, lo, hi, s, f⟩ w hr hx hb
  have hpos : 1 ≤ (putL ⟨kind, n, lo, hi, s, f⟩).length ∧ (putL ⟨kind, n, lo, hi, s, f⟩).length ≤ 140737488351300 := by
    obtain ⟨_, _, hs⟩ := hx
    simp only [] at hs
    simp only [putL]
    have := numL_len s.size
    have := numL_len n
    have := numL_len (if f then 1 else 0)
    split
    · simp only [textL, List.length_append, bytesOf_len]; omega
    · split <;> omega
  have hb : 0 + (if kind = 2 then s.size else 0) ≤ 140737488355300 := by
    obtain ⟨_, _, hs⟩ := hx
    simp only [] at hs
    split <;> omega
  simp only [Itm.cells, List.nil_append, List.length_nil] at hput ⊢
  have HP := Lib.hid (fun w v hr => hput w v hr hb)
  have HC := Lib.hid hcut
  clear hput hcut hb hx
  go_enter Try.func6, Try.ntmps6
  go_wp2_with fail
  refine (HP.out _ _ (Rd8.nil _)).mono ?_
  rintro e w1 ⟨v1, v2, rfl, ho1, _, hx1⟩
  have ho1 : Own8 5 w1 _ v1 (putL ⟨kind, n, lo, hi, s, f⟩) := ho1
  obtain ⟨a1, c1, rfl, hlc, hcm⟩ := own8_form ho1
  unfold maxLen at hcm
  have hr1 := Own8.rd ho1
  generalize putL ⟨kind, n, lo, hi, s, f⟩ = L at *
  clear ho1
  have hne : ((L.length : Int) == 0) = false := by rw [beq_eq_false_iff_ne]; omega
  have hwb := withI_bd at_ 0 ((L.length : Int) - 1) (by omega)
  go_wp2_with (go_at_call 26; refine (within_any _ _ _ _ (by omega) (by decide) (by omega)).mono ?_; rintro e w' ⟨rfl, rfl⟩)
  generalize withI at_ 0 ((L.length : Int) - 1) = k at *
  obtain ⟨k, rfl⟩ := Int.eq_ofNat_of_zero_le hwb.1
  have hkl : k < L.length := by omega
  have hcv := HC.out k hkl
  have HC2 := Lib.hid hcv
  clear HC hcv
  have hrk := fun c => Rd8.cut hr1 k (by omega) c
  have hlk : (L.take k).length = k := by rw [List.length_take]; omega
  have hkc : (k : Int) ≤ (c1 : Int) := by omega
  go_wp2_with fail
  refine (read_new _ (L.take k) _ (hrk _) (by omega)).mono ?_
  rintro e w2 ⟨r, rfl, hx2, hE2⟩
  have hE1 : Ext w w1 := Ext.trans ((Ext.refl w).alloc _) hx1
  have hW2 : Ext w w2 := hE1.trans hE2
  have hrl : w.heap.size ≤ r := Nat.le_trans hE1.size hx2.r_in.1
  have hbk := back_any w1.heap.size w2.heap.size r (L.take k) ⟨0, 0⟩ ⟨kind, n, lo, hi, s, f⟩ w2 hx2
  have hb2 := HC2.out
  generalize backR (L.take k) ⟨0, 0⟩ ⟨kind, n, lo, hi, s, f⟩ = q at *
  obtain ⟨qb, qs⟩ := q
  simp only [Itm.cells] at hb2 hbk
  subst hb2
  have HB := Lib.hid hbk
  have hcell : ∀ o, w2.cell? ⟨w.heap.size, o, none⟩ = (#[.int .i64 kind, .int .i64 n, .int .i64 lo, .int .i64 hi, .string s, .bool f] : Array Value)[o]? := fun o => by
    rw [Ext.cell (hx1.trans hE2) (by simp), World.cell?_alloc_at _ _ _ _ rfl]
  have g0 := hcell 0
  have g1 := hcell 1
  have g2 := hcell 2
  have g3 := hcell 3
  have g4 := hcell 4
  have g5 := hcell 5
  simp only [List.getElem?_toArray, List.getElem?_cons_zero, List.getElem?_cons_succ] at g0 g1 g2 g3 g4 g5
  clear hbk hcell HC2 hrk hlk hkc hr1 hlc hcm hwb hne HP hE1 hE2
  go_wp2_with fail
  refine HB.out.mono ?_
  rintro e w3 ⟨rfl, hx3, hk3⟩
  have hW3 := hW2.keep hk3 hrl
  go_wp2_with (first
    | (go_at_call 17; (with_reducible refine (err_x hx3).mono ?_); rintro e x ⟨rfl, rfl⟩)
    | (go_at_call 18; (with_reducible refine (at_x hx3).mono ?_); rintro e x ⟨rfl, rfl⟩)
    | (go_at_call 21; (with_reducible refine (end_is hx3 (q := ⟨0, 3⟩) rfl).mono ?_); rintro e x4 ⟨rfl, hx4, hk4⟩)
    | (go_at_call 3; refine (packRuns_any _).mono ?_; rintro e w' ⟨rfl, hx⟩))
  go_ret
  exact ⟨rfl, (hW3.keep hk4 hrl).trans hx⟩
end Go.Proofs.Ytmhppikbnobedaa
