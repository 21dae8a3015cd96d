/- Chapter 2's closed runs: the law PackRuns answers true. -/
import Derived.Test.YtmhppikbnobedaaPackU
import Derived.Test.YtmhppikbnobedaaOwnG
namespace Go.Proofs.Ytmhppikbnobedaa
open Go.RowKit

/-- Bytes that were written out just now. -/
theorem rd_lit {w x : World} {cs : Array Value} {t : TypeId} {l : List UInt8} {n : Nat} (hx : Ext (w.alloc (.cells cs t)) x) (hc : cs.toList = l.map bcell) (hn : n = l.length) (hl : l.length ≤ 1000) : Rd8 x (.slice (some ⟨w.heap.size, 0, none⟩) n n) l := by
  subst hn
  obtain ⟨hk, _⟩ := Ext.bc hx
  have hz := hx.size
  simp only [World.size_alloc] at hz
  refine ⟨by simp, by unfold maxLen; omega, _, _, rfl, .inr ⟨_, 0, rfl, by omega, fun j hj => ?_⟩⟩
  rw [hk _ _ (by simp), World.cell?_alloc_at _ _ _ _ rfl, ← hc]
  simp

set_option maxRecDepth 100000 in
theorem number_is (v : Value) (l : List UInt8) (e n : Int) (p : Nat) (w : World) (hr : Rd8 w v l) (h2 : l.length ≤ 140737488355328) (hn : rNum l ⟨0, 0⟩ = (n, ⟨p, e⟩)) (hb : (e == 0) = ((p : Int) == (l.length : Int))) :
    Calls Try.prog 14 #[v, .int .i64 e, .int .i64 n] w fun x w' => x = .returned (.bool true) ∧ Ext w w' := by
  have hr0 := hr
  obtain ⟨_, _, a, cap, rfl, _⟩ := hr0
  go_enter Try.func14, Try.ntmps14
  go_wp2_with fail
  refine (read_new _ l _ hr h2).mono ?_
  rintro e1 w1 ⟨r, rfl, hx1, hE1⟩
  go_wp2_with fail
  refine (num_x hx1).mono ?_
  rintro e2 w2 ⟨rfl, hx2, hk2⟩
  rw [hn] at hx2 ⊢
  simp only [] at hx2 ⊢
  have hE2 := hE1.keep hk2 hx1.r_in.1
  clear hn
  go_wp2_with fail
  refine (err_x hx2).mono ?_
  rintro e3 w3 ⟨rfl, rfl⟩
  go_wp2_with fail
  refine (at_x hx2).mono ?_
  rintro e3 w3 ⟨rfl, rfl⟩
  have hbb : ((e == 0) == ((p : Int) == (l.length : Int))) = true := by rw [hb]; simp
  go_wp2
  go_ret
  exact ⟨rfl, hE2⟩

theorem same_yes (va vb : Value) (xs ys : List UInt8) (w : World) (ha : Rd8 w va xs) (hb : Rd8 w vb ys) (h : xs = ys) : Calls Try.prog 10 #[va, vb] w fun e w' => e = .returned (.bool true) ∧ Ext w w' := by
  have := same8 va vb xs ys w ha hb
  rw [decide_eq_true h] at this
  exact this

/-- A slice of nothing that was written out just now. -/
theorem own_empty {B : Nat} (w : World) (e : TypeId) (hB : B ≤ w.heap.size) : (w.alloc (.cells #[] e)).ownsRow B e 1 (.slice (some ⟨w.heap.size, 0, none⟩) 0 0) 0 [] :=
  ⟨rfl, .inr ⟨w.heap.size, 0, #[], rfl, hB, heap_alloc_new w _, Nat.le_refl _, Nat.zero_le _, rfl, rfl⟩⟩

section
variable {B T : Nat} {r : Nat} {bs : List UInt8} {s : RS} {w : World}
theorem num_is (h : RdX B T w r bs s) {q : Int × RS} (hq : rNum bs s = q) : Calls Try.prog 27 #[.pointer (some ⟨r, 0, none⟩)] w fun x w' => x = .returned (.int .i64 q.1) ∧ RdX B T w' r bs q.2 ∧ KeepR r w w' := hq ▸ num_x h
theorem within_is (h : RdX B T w r bs s) (lo hi : Int) {q : Int × RS} (hq : rWithin bs s lo hi = q) : Calls Try.prog 16 #[.pointer (some ⟨r, 0, none⟩), .int .i64 lo, .int .i64 hi] w fun x w' => x = .returned (.int .i64 q.1) ∧ RdX B T w' r bs q.2 ∧ KeepR r w w' := hq ▸ within_x h lo hi
theorem text_is (h : RdX B T w r bs s) (most : Int) {q : List UInt8 × RS} (hq : rText bs s most = q) : Calls Try.prog 19 #[.pointer (some ⟨r, 0, none⟩), .int .i64 most] w fun x w' => x = .returned (.string ⟨q.1.toArray⟩) ∧ RdX B T w' r bs q.2 ∧ KeepR r w w' := hq ▸ text_x h most
theorem flag_is (h : RdX B T w r bs s) {q : Bool × RS} (hq : rFlag bs s = q) : Calls Try.prog 20 #[.pointer (some ⟨r, 0, none⟩)] w fun x w' => x = .returned (.bool q.1) ∧ RdX B T w' r bs q.2 ∧ KeepR r w w' := hq ▸ flag_x h
theorem end_is (h : RdX B T w r bs s) {q : RS} (hq : rEnd bs s = q) : Calls Try.prog 21 #[.pointer (some ⟨r, 0, none⟩)] w fun x w' => x = .returned (.int .i64 q.err) ∧ RdX B T w' r bs q ∧ KeepR r w w' := hq ▸ end_x h
end

set_option maxHeartbeats 4000000 in
set_option maxRecDepth 100000 in
theorem packRuns_any (w : World) : Calls Try.prog 3 #[] w fun e w' => e = .returned (.bool true) ∧ Ext w w' := by
  obtain ⟨i0, hi, hz0, hz1, hz2⟩ := info_parts Try.infoU8
  go_enter Try.func3, Try.ntmps3
  go_wp2_with fail
  -- what is written
  refine (num_any _ [] 0 _ (Rd8.nil _) (by decide) (by decide) (by decide)).mono ?_
  rintro e w1 ⟨v1, rfl, ho1, hx1⟩
  have hE1 : Ext w w1 := (by repeat (first | exact Ext.refl _ | assumption | refine Ext.trans ?_ (by assumption) | refine Ext.alloc ?_ _ | refine Ext.drew ?_ | refine Ext.drewN ?_ _))
  have nine_rd : ∀ x, Ext w1 x → Rd8 x (.slice (some ⟨w.heap.size, 0, none⟩) 9 9) [255, 255, 255, 255, 255, 255, 255, 255, 255] := fun x hx => rd_lit (hx1.trans hx) rfl rfl (by decide)
  go_wp2_with fail
  refine (same_yes _ _ _ [0] _ (ho1.rd.ext (by repeat (first | exact Ext.refl _ | assumption | refine Ext.trans ?_ (by assumption) | refine Ext.alloc ?_ _ | refine Ext.drew ?_ | refine Ext.drewN ?_ _))) (rd_lit (Ext.refl _) rfl rfl (by decide)) (by decide)).mono ?_
  rintro e w2 ⟨rfl, hx2⟩
  have hE2 : Ext w1 w2 := (by repeat (first | exact Ext.refl _ | assumption | refine Ext.trans ?_ (by assumption) | refine Ext.alloc ?_ _ | refine Ext.drew ?_ | refine Ext.drewN ?_ _))
  clear hx1 hx2
  go_wp2_with fail
  refine (num_any _ [7] (-1) _ (rd_lit (Ext.refl _) rfl rfl (by decide)) (by decide) (by decide) (by decide)).mono ?_
  rintro e w3 ⟨v3, rfl, ho3, hx3⟩
  have hE3 : Ext w1 w3 := (by repeat (first | exact Ext.refl _ | assumption | refine Ext.trans ?_ (by assumption) | refine Ext.alloc ?_ _ | refine Ext.drew ?_ | refine Ext.drewN ?_ _))
  go_wp2_with fail
  refine (same_yes _ _ _ [7, 1] _ (ho3.rd.ext (by repeat (first | exact Ext.refl _ | assumption | refine Ext.trans ?_ (by assumption) | refine Ext.alloc ?_ _ | refine Ext.drew ?_ | refine Ext.drewN ?_ _))) (rd_lit (Ext.refl _) rfl rfl (by decide)) (by decide)).mono ?_
  rintro e w4 ⟨rfl, hx4⟩
  have hE4 : Ext w1 w4 := (by repeat (first | exact Ext.refl _ | assumption | refine Ext.trans ?_ (by assumption) | refine Ext.alloc ?_ _ | refine Ext.drew ?_ | refine Ext.drewN ?_ _))
  clear hx3 hx4
  go_wp2_with fail
  refine (num_any _ [] 64 _ (Rd8.nil _) (by decide) (by decide) (by decide)).mono ?_
  rintro e w5 ⟨v5, rfl, ho5, hx5⟩
  have hE5 : Ext w1 w5 := (by repeat (first | exact Ext.refl _ | assumption | refine Ext.trans ?_ (by assumption) | refine Ext.alloc ?_ _ | refine Ext.drew ?_ | refine Ext.drewN ?_ _))
  go_wp2_with fail
  refine (same_yes _ _ _ [128, 1] _ (ho5.rd.ext (by repeat (first | exact Ext.refl _ | assumption | refine Ext.trans ?_ (by assumption) | refine Ext.alloc ?_ _ | refine Ext.drew ?_ | refine Ext.drewN ?_ _))) (rd_lit (Ext.refl _) rfl rfl (by decide)) (by decide)).mono ?_
  rintro e w6 ⟨rfl, hx6⟩
  have hE6 : Ext w1 w6 := (by repeat (first | exact Ext.refl _ | assumption | refine Ext.trans ?_ (by assumption) | refine Ext.alloc ?_ _ | refine Ext.drew ?_ | refine Ext.drewN ?_ _))
  clear hx5 hx6
  go_wp2_with fail
  refine (text_any _ [] _ _ (Rd8.nil _) (by decide)).mono ?_
  rintro e w7 ⟨v7, rfl, ho7, hx7⟩
  have hE7 : Ext w1 w7 := (by repeat (first | exact Ext.refl _ | assumption | refine Ext.trans ?_ (by assumption) | refine Ext.alloc ?_ _ | refine Ext.drew ?_ | refine Ext.drewN ?_ _))
  go_wp2_with fail
  refine (same_yes _ _ _ [4, 97, 98] _ (ho7.rd.ext (by repeat (first | exact Ext.refl _ | assumption | refine Ext.trans ?_ (by assumption) | refine Ext.alloc ?_ _ | refine Ext.drew ?_ | refine Ext.drewN ?_ _))) (rd_lit (Ext.refl _) rfl rfl (by decide)) (by decide)).mono ?_
  rintro e w8 ⟨rfl, hx8⟩
  have hE8 : Ext w1 w8 := (by repeat (first | exact Ext.refl _ | assumption | refine Ext.trans ?_ (by assumption) | refine Ext.alloc ?_ _ | refine Ext.drew ?_ | refine Ext.drewN ?_ _))
  clear hx7 hx8
  go_wp2_with fail
  refine (flag_any _ [] true _ (Rd8.nil _) (by decide)).mono ?_
  rintro e w9 ⟨v9, rfl, ho9, hx9⟩
  have hE9 : Ext w1 w9 := (by repeat (first | exact Ext.refl _ | assumption | refine Ext.trans ?_ (by assumption) | refine Ext.alloc ?_ _ | refine Ext.drew ?_ | refine Ext.drewN ?_ _))
  go_wp2_with fail
  refine (same_yes _ _ _ [2] _ (ho9.rd.ext (by repeat (first | exact Ext.refl _ | assumption | refine Ext.trans ?_ (by assumption) | refine Ext.alloc ?_ _ | refine Ext.drew ?_ | refine Ext.drewN ?_ _))) (rd_lit (Ext.refl _) rfl rfl (by decide)) (by decide)).mono ?_
  rintro e w10 ⟨rfl, hx10⟩
  have hE10 : Ext w1 w10 := (by repeat (first | exact Ext.refl _ | assumption | refine Ext.trans ?_ (by assumption) | refine Ext.alloc ?_ _ | refine Ext.drew ?_ | refine Ext.drewN ?_ _))
  clear hx9 hx10 ho1 ho3 ho5 ho7 ho9
  -- numbers that are refused, and one that is not
  go_wp2_with fail
  refine (number_is _ [128, 0] 4 0 0 _ (rd_lit (Ext.refl _) rfl rfl (by decide)) (by decide) (by decide +kernel) (by decide)).mono ?_
  rintro e w11 ⟨rfl, hx11⟩
  have hE11 : Ext w1 w11 := (by repeat (first | exact Ext.refl _ | assumption | refine Ext.trans ?_ (by assumption) | refine Ext.alloc ?_ _ | refine Ext.drew ?_ | refine Ext.drewN ?_ _))
  clear hx11
  go_wp2_with fail
  refine (number_is _ [128] 3 0 0 _ (rd_lit (Ext.refl _) rfl rfl (by decide)) (by decide) (by decide +kernel) (by decide)).mono ?_
  rintro e w12 ⟨rfl, hx12⟩
  have hE12 : Ext w1 w12 := (by repeat (first | exact Ext.refl _ | assumption | refine Ext.trans ?_ (by assumption) | refine Ext.alloc ?_ _ | refine Ext.drew ?_ | refine Ext.drewN ?_ _))
  clear hx12
  go_wp2_with (at_builtin; go_loud (refine wpList_own_srcG _ (by rfl) _ _ 22 22 rfl w12.heap.size 5 i0 (.int .u8 0) 1 1 Try.underlying22 hi hz0 hz1 hz2 rfl (by decide) _ _ 0 9 [] _ (own_empty _ _ (Nat.le_refl _)) (src_of_slr (P := Try.prog) Try.underlying22 (nine_rd _ (by repeat (first | exact Ext.refl _ | assumption | refine Ext.trans ?_ (by assumption) | refine Ext.alloc ?_ _ | refine Ext.drew ?_ | refine Ext.drewN ?_ _))) (bcell_one _)) rfl rfl (by decide) (by decide) (by simp) ?_))
  intro v13 w13 ho13 hb13
  have hE13 : Ext w12 w13 := Below.trans ((Ext.refl w12).alloc _) hb13
  have hz13 := hE13.size
  clear hb13
  go_wp2_with (at_builtin; go_loud (refine wpList_own_pushG (by rfl) _ _ 22 rfl w12.heap.size 5 _ i0 (.int .u8 0) 1 1 Try.underlying22 hi hz0 hz1 hz2 rfl (by decide) _ _ 1 _ _ [bcell 2] ho13 rfl rfl rfl rfl ?c1 ?c2 ?c3 ?c4 ?_))
  case c1 => exact bcell_one [2]
  case c2 => decide
  case c3 => decide
  case c4 => exact hz13
  intro v14 w14 ho14 hb14
  have hE14 : Ext w12 w14 := Below.trans hE13 hb14
  have hr14 : Rd8 w14 v14 [255, 255, 255, 255, 255, 255, 255, 255, 255, 2] := Own8.rd (te := 5) (B := w12.heap.size) ho14
  clear hE13 hb14 ho13 ho14 hz13
  go_wp2_with fail
  refine (number_is _ _ 4 0 0 _ hr14 (by decide) (by decide +kernel) (by decide)).mono ?_
  rintro e w15 ⟨rfl, hx15⟩
  have hE15 : Ext w1 w15 := (by repeat (first | exact Ext.refl _ | assumption | refine Ext.trans ?_ (by assumption) | refine Ext.alloc ?_ _ | refine Ext.drew ?_ | refine Ext.drewN ?_ _))
  clear hx15 hr14 hE14
  go_wp2_with (at_builtin; go_loud (refine wpList_own_srcG _ (by rfl) _ _ 22 22 rfl w15.heap.size 5 i0 (.int .u8 0) 1 1 Try.underlying22 hi hz0 hz1 hz2 rfl (by decide) _ _ 0 9 [] _ (own_empty _ _ (Nat.le_refl _)) (src_of_slr (P := Try.prog) Try.underlying22 (nine_rd _ (by repeat (first | exact Ext.refl _ | assumption | refine Ext.trans ?_ (by assumption) | refine Ext.alloc ?_ _ | refine Ext.drew ?_ | refine Ext.drewN ?_ _))) (bcell_one _)) rfl rfl (by decide) (by decide) (by simp) ?_))
  intro v16 w16 ho16 hb16
  have hE16 : Ext w15 w16 := Below.trans ((Ext.refl w15).alloc _) hb16
  have hz16 := hE16.size
  clear hb16
  go_wp2_with (at_builtin; go_loud (refine wpList_own_pushG (by rfl) _ _ 22 rfl w15.heap.size 5 _ i0 (.int .u8 0) 1 1 Try.underlying22 hi hz0 hz1 hz2 rfl (by decide) _ _ 1 _ _ [bcell 1] ho16 rfl rfl rfl rfl ?c1 ?c2 ?c3 ?c4 ?_))
  case c1 => exact bcell_one [1]
  case c2 => decide
  case c3 => decide
  case c4 => exact hz16
  intro v17 w17 ho17 hb17
  have hE17 : Ext w15 w17 := Below.trans hE16 hb17
  have hr17 : Rd8 w17 v17 [255, 255, 255, 255, 255, 255, 255, 255, 255, 1] := Own8.rd (te := 5) (B := w15.heap.size) ho17
  clear hE16 hb17 ho16 ho17 hz16
  go_wp2_with fail
  refine (number_is _ _ _ _ 10 _ hr17 (by decide) (by decide +kernel) (by decide)).mono ?_
  rintro e w18 ⟨rfl, hx18⟩
  have hE18 : Ext w1 w18 := (by repeat (first | exact Ext.refl _ | assumption | refine Ext.trans ?_ (by assumption) | refine Ext.alloc ?_ _ | refine Ext.drew ?_ | refine Ext.drewN ?_ _))
  clear hx18 hr17 hE17
  -- four readers
  go_wp2_with fail
  refine (read_new _ [10] _ (rd_lit (Ext.refl _) rfl rfl (by decide)) (by decide)).mono ?_
  rintro e w19 ⟨r1, rfl, hr1, hx19⟩
  have hE19 : Ext w1 w19 := (by repeat (first | exact Ext.refl _ | assumption | refine Ext.trans ?_ (by assumption) | refine Ext.alloc ?_ _ | refine Ext.drew ?_ | refine Ext.drewN ?_ _))
  clear hx19
  go_wp2_with fail
  refine (read_new _ [6, 97] _ (rd_lit (Ext.refl _) rfl rfl (by decide)) (by decide)).mono ?_
  rintro e w20 ⟨r2, rfl, hr2, hx20⟩
  have hE20 : Ext w1 w20 := (by repeat (first | exact Ext.refl _ | assumption | refine Ext.trans ?_ (by assumption) | refine Ext.alloc ?_ _ | refine Ext.drew ?_ | refine Ext.drewN ?_ _))
  replace hr1 := hr1.ext (Ext.trans ((Ext.refl _).alloc _) hx20)
  clear hx20
  go_wp2_with fail
  refine (read_new _ [4] _ (rd_lit (Ext.refl _) rfl rfl (by decide)) (by decide)).mono ?_
  rintro e w21 ⟨r3, rfl, hr3, hx21⟩
  have hE21 : Ext w1 w21 := (by repeat (first | exact Ext.refl _ | assumption | refine Ext.trans ?_ (by assumption) | refine Ext.alloc ?_ _ | refine Ext.drew ?_ | refine Ext.drewN ?_ _))
  replace hr1 := hr1.ext (Ext.trans ((Ext.refl _).alloc _) hx21)
  replace hr2 := hr2.ext (Ext.trans ((Ext.refl _).alloc _) hx21)
  clear hx21
  go_wp2_with fail
  refine (read_new _ [0] _ (rd_lit (Ext.refl _) rfl rfl (by decide)) (by decide)).mono ?_
  rintro e w22 ⟨r4, rfl, hr4, hx22⟩
  have hE22 : Ext w1 w22 := (by repeat (first | exact Ext.refl _ | assumption | refine Ext.trans ?_ (by assumption) | refine Ext.alloc ?_ _ | refine Ext.drew ?_ | refine Ext.drewN ?_ _))
  replace hr1 := hr1.ext (Ext.trans ((Ext.refl _).alloc _) hx22)
  replace hr2 := hr2.ext (Ext.trans ((Ext.refl _).alloc _) hx22)
  replace hr3 := hr3.ext (Ext.trans ((Ext.refl _).alloc _) hx22)
  clear hx22
  have hW : Ext w w22 := (by repeat (first | exact Ext.refl _ | assumption | refine Ext.trans ?_ (by assumption) | refine Ext.alloc ?_ _ | refine Ext.drew ?_ | refine Ext.drewN ?_ _))
  have z18 : w.heap.size ≤ w18.heap.size := (show Ext w w18 from hE1.trans hE18).size
  obtain ⟨i1, j1, _⟩ := hr1.r_in
  obtain ⟨i2, j2, _⟩ := hr2.r_in
  obtain ⟨i3, j3, _⟩ := hr3.r_in
  obtain ⟨i4, j4, _⟩ := hr4.r_in
  simp only [World.size_alloc] at i1 i2 i3 i4 hr1 hr2 hr3 hr4
  generalize w18.heap.size = n18 at *
  generalize w19.heap.size = n19 at *
  generalize w20.heap.size = n20 at *
  generalize w21.heap.size = n21 at *
  clear hE1 hE2 hE3 hE4 hE5 hE6 hE7 hE8 hE9 hE10 hE11 hE12 hE15 hE18 hE19 hE20 hE21 hE22 nine_rd
  go_wp2_with fail
  refine (within_is hr1 0 4 (q := (0, ⟨0, 2⟩)) (by decide +kernel)).mono ?_
  rintro e x1 ⟨rfl, hr1, hk⟩
  replace hW := hW.keep hk (by omega)
  replace hr2 := hr2.keep hk (.inl (by omega))
  replace hr3 := hr3.keep hk (.inl (by omega))
  replace hr4 := hr4.keep hk (.inl (by omega))
  clear hk
  go_wp2_with (first
    | (go_at_call 17; (with_reducible refine (err_x hr1).mono ?_); rintro e x ⟨rfl, rfl⟩)
    | (go_at_call 18; (with_reducible refine (at_x hr1).mono ?_); rintro e x ⟨rfl, rfl⟩))
  refine (text_is hr2 9 (q := ([], ⟨0, 3⟩)) (by decide +kernel)).mono ?_
  rintro e x2 ⟨rfl, hr2, hk⟩
  replace hW := hW.keep hk (by omega)
  replace hr3 := hr3.keep hk (.inl (by omega))
  replace hr4 := hr4.keep hk (.inl (by omega))
  clear hk
  go_wp2_with (first
    | (go_at_call 17; (with_reducible refine (err_x hr2).mono ?_); rintro e x ⟨rfl, rfl⟩)
    | (go_at_call 18; (with_reducible refine (at_x hr2).mono ?_); rintro e x ⟨rfl, rfl⟩))
  refine (flag_is hr3 (q := (false, ⟨0, 4⟩)) (by decide +kernel)).mono ?_
  rintro e x3 ⟨rfl, hr3, hk⟩
  replace hW := hW.keep hk (by omega)
  replace hr4 := hr4.keep hk (.inl (by omega))
  clear hk
  go_wp2_with (first
    | (go_at_call 17; (with_reducible refine (err_x hr3).mono ?_); rintro e x ⟨rfl, rfl⟩)
    | (go_at_call 18; (with_reducible refine (at_x hr3).mono ?_); rintro e x ⟨rfl, rfl⟩))
  refine (end_is hr4 (q := ⟨0, 5⟩) (by decide +kernel)).mono ?_
  rintro e x4 ⟨rfl, hr4, hk⟩
  replace hW := hW.keep hk (by omega)
  clear hk
  go_wp2_with (first
    | (go_at_call 17; (with_reducible refine (err_x hr4).mono ?_); rintro e x ⟨rfl, rfl⟩)
    | (go_at_call 18; (with_reducible refine (at_x hr4).mono ?_); rintro e x ⟨rfl, rfl⟩))
  go_ret
  exact ⟨rfl, hW⟩
end Go.Proofs.Ytmhppikbnobedaa
