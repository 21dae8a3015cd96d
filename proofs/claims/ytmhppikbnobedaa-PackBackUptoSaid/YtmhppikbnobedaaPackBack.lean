/- The law PackBack of package impostlaw2: what it rests on, and the walk. -/
import Derived.Test.YtmhppikbnobedaaPackWrites
import Derived.Deep.RegionHeld3
namespace Go.Proofs.Ytmhppikbnobedaa
open Go.RowKit

/-- An item that stands at a place is read back from there. -/
theorem back_put (pre post : List UInt8) (x : Itm) (hx : x.ok) : backR (pre ++ putL x ++ post) ⟨pre.length, 0⟩ x = (true, ⟨pre.length + (putL x).length, 0⟩) := by
  obtain ⟨hn0, hn1, hs⟩ := hx
  unfold backR putL
  by_cases h2 : x.kind = 2
  · simp only [h2, if_true]
    have hn := rNum_put pre (bytesOf x.s ++ post) x.s.size (by omega) (by omega)
    have e : pre ++ textL x.s ++ post = pre ++ numL x.s.size ++ (bytesOf x.s ++ post) := by simp [textL]
    have hl : (pre ++ textL x.s ++ post).length = pre.length + (numL x.s.size).length + x.s.size + post.length := by simp [textL, bytesOf_len]; omega
    have hw : rWithin (pre ++ textL x.s ++ post) ⟨pre.length, 0⟩ 0 x.s.size = ((x.s.size : Int), ⟨pre.length + (numL x.s.size).length, 0⟩) := by
      unfold rWithin
      rw [e, hn]
      simp only []
      rw [if_neg (by omega)]
    have ht : rText (pre ++ textL x.s ++ post) ⟨pre.length, 0⟩ x.s.size = (bytesOf x.s, ⟨pre.length + (textL x.s).length, 0⟩) := by
      unfold rText
      rw [hw]
      simp only []
      rw [if_neg (by omega), if_neg (by rw [hl]; omega)]
      have e2 : ((pre ++ textL x.s ++ post).drop (pre.length + (numL x.s.size).length)).take (x.s.size : Int).toNat = bytesOf x.s := by
        rw [e]
        have e3 : pre ++ numL x.s.size ++ (bytesOf x.s ++ post) = (pre ++ numL x.s.size) ++ (bytesOf x.s ++ post) := rfl
        rw [e3, List.drop_append_of_le_length (by simp)]
        have e4 : (pre ++ numL x.s.size).drop (pre.length + (numL x.s.size).length) = [] := List.drop_eq_nil_of_le (by simp)
        rw [e4, List.nil_append]
        have e5 : (x.s.size : Int).toNat = (bytesOf x.s).length := by rw [bytesOf_len]; omega
        rw [e5, List.take_left]
      rw [e2]
      have e6 : pre.length + (numL x.s.size).length + (x.s.size : Int).toNat = pre.length + (textL x.s).length := by simp [textL, bytesOf_len]; omega
      rw [e6]
    rw [ht]
    simp
  · simp only [h2, if_false]
    by_cases h3 : x.kind = 3
    · simp only [h3, if_true]
      cases hf : x.f
      · have hn := rNum_put pre post 0 (by decide) (by decide)
        simp only [Bool.false_eq_true, if_false]
        unfold rFlag
        rw [hn]
        simp
      · have hn := rNum_put pre post 1 (by decide) (by decide)
        simp only [if_true]
        unfold rFlag
        rw [hn]
        simp
    · simp only [h3, if_false]
      have hn := rNum_put pre post x.n hn0 hn1
      have hw : rWithin (pre ++ numL x.n ++ post) ⟨pre.length, 0⟩ x.n x.n = (x.n, ⟨pre.length + (numL x.n).length, 0⟩) := by
        unfold rWithin
        rw [hn]
        simp only []
        rw [if_neg (by omega)]
      split
      · rw [hw]; simp
      · rw [hn]; simp

/-- What the first k items are written as. -/
def wrL (xs : List Itm) (k : Nat) : List UInt8 := (xs.take k).flatMap putL
theorem wrL_zero (xs : List Itm) : wrL xs 0 = [] := rfl
theorem wrL_succ (xs : List Itm) (k : Nat) (h : k < xs.length) : wrL xs (k + 1) = wrL xs k ++ putL xs[k] := by
  unfold wrL
  rw [List.take_succ_eq_append_getElem h, List.flatMap_append]
  simp
theorem wrL_len (xs : List Itm) (hx : ∀ x ∈ xs, x.s.size ≤ 1048576) : ∀ k, k ≤ xs.length → (wrL xs k).length ≤ k * 1048600
  | 0, _ => by simp [wrL_zero]
  | k + 1, h => by
    have ih := wrL_len xs hx k (by omega)
    rw [wrL_succ xs k (by omega), List.length_append]
    have := hx _ (List.getElem_mem (by omega : k < xs.length))
    have q1 := numL_len (xs[k]).s.size
    have q2 := numL_len (xs[k]).n
    have q3 := numL_len (if (xs[k]).f then 1 else 0)
    have hp : (putL xs[k]).length ≤ 1048600 := by
      simp only [putL]
      split
      · simp only [textL, List.length_append, bytesOf_len]; omega
      · split <;> omega
    omega
theorem wrL_split (xs : List Itm) (k : Nat) (h : k < xs.length) (tail : List UInt8) : wrL xs xs.length ++ tail = wrL xs k ++ putL xs[k] ++ ((xs.drop (k + 1)).flatMap putL ++ tail) := by
  have e : wrL xs xs.length = wrL xs (k + 1) ++ (xs.drop (k + 1)).flatMap putL := by
    unfold wrL
    rw [List.take_length, ← List.flatMap_append, List.take_append_drop]
  rw [e, wrL_succ xs k h]
  simp

theorem ArgI.cut {w : World} {a : Option Addr} {n cap : Nat} {xs : List Itm} (h : ArgI w (.slice a n cap) xs) (k : Nat) (hk : k ≤ xs.length) : ArgI w (.slice a (xs.take k).length cap) (xs.take k) := by
  obtain ⟨a', cap', he, h1, h2, h3⟩ := h.form
  simp only [Value.slice.injEq] at he
  obtain ⟨rfl, rfl, rfl⟩ := he
  have hl : (xs.take k).length = k := by simp; omega
  refine ⟨a, cap, rfl, by omega, h2, ?_⟩
  rcases h3 with h0 | ⟨b, off, rfl, hb, hc⟩
  · exact .inl (by omega)
  · refine .inr ⟨b, off, rfl, hb, fun i hi j hj => ?_⟩
    rw [List.getElem_take]
    exact hc i (by omega) j hj

set_option maxHeartbeats 8000000 in
set_option maxRecDepth 100000 in
theorem packBack_any (vt : Value) (tail : List UInt8) (a : Option Addr) (cap : Nat) (xs0 : List Itm) (w : World) (hr : Rd8 w vt tail) (hi0 : ArgI w (.slice a xs0.length cap) xs0) (hl : tail.length ≤ 2000000) (hxs0 : ∀ x ∈ xs0, x.ok ∧ x.s.size ≤ 1048576) (hnn : xs0.length ≤ 2000000) :
    Calls Try.prog 5 #[.slice a xs0.length cap, vt] w fun e w' => e = .returned (.bool true) ∧ Ext w w' := by
  obtain ⟨i0, hz, hz0, hz1, hz2⟩ := info_parts Try.infoU8
  have hr0 := hr
  obtain ⟨_, _, av, cv, rfl, _⟩ := hr0
  have hlc : xs0.length ≤ cap ∧ cap ≤ 9223372036854775807 := by
    obtain ⟨a', cap', he, h1, h2, _⟩ := hi0.form
    simp only [Value.slice.injEq] at he
    obtain ⟨rfl, _, rfl⟩ := he
    unfold maxLen at h2
    exact ⟨h1, by omega⟩
  obtain ⟨xs, hi, hxs, hle, hdec⟩ : ∃ xs : List Itm, ArgI w (.slice a xs.length cap) xs ∧ (∀ x ∈ xs, x.ok ∧ x.s.size ≤ 1048576) ∧ xs.length ≤ 100 ∧ ((100 < xs0.length ∧ xs.length = 100) ∨ (xs0.length ≤ 100 ∧ xs = xs0)) := by
    by_cases h : 100 < xs0.length
    · have e : (xs0.take 100).length = 100 := by simp; omega
      exact ⟨xs0.take 100, hi0.cut 100 (by omega), fun x hx => hxs0 x (List.mem_of_mem_take hx), by omega, .inl ⟨h, e⟩⟩
    · exact ⟨xs0, hi0, hxs0, by omega, .inr ⟨by omega, rfl⟩⟩
  have hcap : (100 : Int) ≤ (cap : Int) ∨ xs0.length ≤ 100 := by omega
  have hwl := wrL_len xs (fun x hx => (hxs x hx).2)
  have hN : xs.length = (if 100 < xs0.length then 100 else xs0.length) := by
    rcases hdec with ⟨h1, h2⟩ | ⟨h1, h2⟩
    · rw [if_pos h1, h2]
    · rw [if_neg (by omega), h2]
  have hge : 100 < xs0.length → 100 ≤ xs.length := fun h => by rw [hN, if_pos h]; omega
  clear hi0 hxs0 hN
  rcases hdec with ⟨hgt, hle2⟩ | ⟨hgt, rfl⟩
  all_goals
    have hdd : True := trivial
    first
      | replace hdd : decide ((100 : Int) < (xs0.length : Int)) = true := decide_eq_true (by omega)
      | replace hdd : decide ((100 : Int) < (xs.length : Int)) = false := decide_eq_false (by omega)
    go_enter Try.func5, Try.ntmps5
    go_wp2_with fail
    have HI := Lib.hid hi
    have hx1 : xs.length ≤ 100 := hle
    have hgei := hge
    try replace hgei := hgei hgt
    clear hi hcap hge
    try clear hle2
    go_loopw [5, 6] (fun bv iv wr => ∃ k : Nat, k ≤ xs.length ∧ iv = .int .i64 (k : Int) ∧ Own8 5 wr w.heap.size bv (wrL xs k) ∧ Ext w wr) (fun _ iv _ => xs.length - (intOf iv).toNat)
    case atStart => exact ⟨0, by omega, rfl, ⟨rfl, .inl ⟨rfl, rfl⟩⟩, Ext.refl _⟩
    case round =>
      obtain ⟨k, hk, rfl, hoB, hW⟩ := hrel
      by_cases hlt : k < xs.length
      · obtain ⟨b, off, rfl, _, hb, hat⟩ := HI.out.at_ hW (by omega)
        obtain ⟨c0, c1, c2, c3, c4, c5⟩ := hat k hlt
        have hok := hxs _ (List.getElem_mem hlt)
        have hwl2 := hwl k hk
        have hsu := wrL_succ xs k hlt
        have i1 : (0 : Int) ≤ (k : Int) := by omega
        have i2 : (k : Int) < (xs.length : Int) := by omega
        have i4 : (k : Int) < 100 := by omega
        generalize xs[k] = x at *
        have hb2 : (wrL xs k).length + (if x.kind = 2 then x.s.size else 0) ≤ 140737488355300 := by
          have := hok.2
          split <;> omega
        have hput := fun v w hr => put_any v (wrL xs k) x w hr hok.1 hb2
        simp only [Itm.cells] at hput
        rw [← hsu] at hput
        have HP := Lib.hid hput
        clear hput hb2 hat hsu hwl2
        go_wp2_with (go_at_call 23; (with_reducible refine (HP.out _ _ (Rd8.ext (Own8.rd hoB) (by repeat (first | exact Ext.refl _ | assumption | refine Ext.trans ?_ (by assumption) | refine Ext.alloc ?_ _ | refine Ext.drew ?_ | refine Ext.drewN ?_ _)))).mono ?_); rintro e x1 ⟨v1, v2, rfl, ho1, ho2, hx2⟩)
        have hsz := hW.size
        have ho3 : Own8 5 x1 wr.heap.size v1 (wrL xs (k + 1)) := ho1
        go_roundw
        case rel => exact ⟨k + 1, by omega, by simp, own8_base ho3 hsz, hW.trans hx2⟩
        case measure => simp [intOf]; omega
      · have hkl : k = xs.length := by omega
        subst hkl
        obtain ⟨ab, cb, rfl, hbc, hbm⟩ := own8_form hoB
        have hwl2 := hwl xs.length (Nat.le_refl _)
        have hs := src_of_slr (P := Try.prog) Try.underlying22 (hr.ext hW) (bcell_one tail)
        have hWs := hW.size
        have hBl : (wrL xs xs.length).length ≤ 104860000 := by omega
        clear hwl2
        go_wp2_with (at_builtin; refine wpList_own_src _ rfl _ _ 22 22 rfl w.heap.size 5 i0 (.int .u8 0) 1 1 Try.underlying22 hz hz0 hz1 hz2 rfl (by decide) _ _ (wrL xs xs.length).length tail.length _ _ hoB hs rfl rfl ?_ ?_ ?_ ?_)
        · unfold maxLen; omega
        · omega
        · exact hWs
        intro v2 w2 ho2 hb2
        have ho3 : Own8 5 w2 w.heap.size v2 (wrL xs xs.length ++ tail) := own8_app ho2
        have hW2 : Ext w w2 := Below.trans hW hb2
        go_wp2_with fail
        have hlW : (wrL xs xs.length ++ tail).length ≤ 140737488355328 := by simp; omega
        refine (read_new _ _ _ (Own8.rd ho3) hlW).mono ?_
        rintro e w3 ⟨r, rfl, hR, hx3⟩
        have hW3 := hW2.trans hx3
        have hrw : w.heap.size ≤ r := Nat.le_trans hW2.size hR.r_in.1
        clear ho3 ho2 hb2 hx3 hs hW hW2 hWs hoB
        generalize w2.heap.size = n2 at *
        generalize w3.heap.size = n3 at *
        go_wp2_with fail
        go_loopw [9] (fun iv wz => ∃ j : Nat, j ≤ xs.length ∧ iv = .int .i64 (j : Int) ∧ RdX n2 n3 wz r (wrL xs xs.length ++ tail) ⟨(wrL xs j).length, 0⟩ ∧ Ext w wz) (fun iv _ => xs.length - (intOf iv).toNat)
        case atStart => exact ⟨0, by omega, rfl, hR, hW3⟩
        case round =>
          clear hR hW3
          obtain ⟨j, hj, rfl, hR, hW⟩ := hrel
          by_cases hjl : j < xs.length
          · obtain ⟨b, off, rfl, _, hb, hat⟩ := HI.out.at_ hW (by omega)
            obtain ⟨c0, c1, c2, c3, c4, c5⟩ := hat j hjl
            have hok := hxs _ (List.getElem_mem hjl)
            have i1 : (0 : Int) ≤ (j : Int) := by omega
            have i2 : (j : Int) < (xs.length : Int) := by omega
            have i4 : (j : Int) < 100 := by omega
            have hbk := back_put (wrL xs j) ((xs.drop (j + 1)).flatMap putL ++ tail) xs[j] hok.1
            rw [← wrL_split xs j hjl tail, ← List.length_append, ← wrL_succ xs j hjl] at hbk
            have hcall := back_any n2 n3 r (wrL xs xs.length ++ tail) ⟨(wrL xs j).length, 0⟩ xs[j] _ hR
            rw [hbk] at hcall
            simp only [Itm.cells] at hcall
            generalize xs[j] = x at *
            have HC := Lib.hid hcall
            clear hcall hbk hat
            go_wp2_with fail
            refine HC.out.mono ?_
            rintro e y1 ⟨rfl, hR2, hk2⟩
            have hW2 := hW.keep hk2 hrw
            go_wp2_with (go_at_call 17; (with_reducible refine (err_x hR2).mono ?_); rintro e x ⟨rfl, rfl⟩)
            go_roundw
            case rel => exact ⟨j + 1, by omega, by simp, hR2, hW2⟩
            case measure => simp [intOf]; omega
          · have hjl2 : j = xs.length := by omega
            subst hjl2
            have hae : (((wrL xs xs.length).length : Int) != ((wrL xs xs.length).length : Int)) = false := by simp
            go_wp2_with (go_at_call 18; (with_reducible refine (at_x hR).mono ?_); rintro e x ⟨rfl, rfl⟩)
            by_cases ht : tail = []
            · have hend : rEnd (wrL xs xs.length ++ tail) ⟨(wrL xs xs.length).length, 0⟩ = ⟨(wrL xs xs.length).length, 0⟩ := by unfold rEnd; rw [if_neg (by subst ht; simp)]
              have htl : ((tail.length : Int) == 0) = true := by subst ht; rfl
              have HE := Lib.hid hend
              clear hend ht
              refine (end_is hR HE.out).mono ?_
              rintro e x4 ⟨rfl, hR2, hk2⟩
              have hW2 := hW.keep hk2 hrw
              go_wp2_with (first
                | (go_at_call 18; (with_reducible refine (at_x hR2).mono ?_); rintro e x ⟨rfl, rfl⟩)
                | (go_at_call 3; refine (packRuns_any _).mono ?_; rintro e w' ⟨rfl, hx⟩))
              go_ret
              exact ⟨rfl, hW2.trans hx⟩
            · have htp : 0 < tail.length := List.length_pos_iff.2 ht
              have hend : rEnd (wrL xs xs.length ++ tail) ⟨(wrL xs xs.length).length, 0⟩ = ⟨(wrL xs xs.length).length, 5⟩ := by unfold rEnd; rw [if_pos ⟨rfl, by simp; omega⟩]
              have htl : ((tail.length : Int) == 0) = false := by rw [beq_eq_false_iff_ne]; omega
              have HE := Lib.hid hend
              clear hend ht
              refine (end_is hR HE.out).mono ?_
              rintro e x4 ⟨rfl, hR2, hk2⟩
              have hW2 := hW.keep hk2 hrw
              go_wp2_with (first
                | (go_at_call 18; (with_reducible refine (at_x hR2).mono ?_); rintro e x ⟨rfl, rfl⟩)
                | (go_at_call 3; refine (packRuns_any _).mono ?_; rintro e w' ⟨rfl, hx⟩))
              go_ret
              exact ⟨rfl, hW2.trans hx⟩
end Go.Proofs.Ytmhppikbnobedaa
