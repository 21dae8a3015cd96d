/- Package kind: Same, List, and what takes a thing out as what it is. -/
import Derived.Test.YtdojgdeadhhldaaKindF
namespace Go.Proofs.Ytdojgdeadhhldaa
open Go.RowKit

theorem flat_yes {v : Value} {L : List V} {D : Nat} (w : World) (h : TellsB w w.heap.size v L D) (hok : flatOk 0 L.length 0 D = true) : Calls Try.prog 23 #[.agg #[v]] w fun e w' =>
    ∃ out, e = .returned (.tuple #[out, .int .i64 0]) ∧ OwnS V.cells 6 32 w' w.heap.size out L ∧ Ext w w' := by
  refine (thingFlat_any w h).mono ?_
  rintro e w' ⟨out, rfl, ho, _, hx⟩
  rw [hok] at ho
  exact ⟨out, by rw [hok]; rfl, ho, hx⟩
theorem flat_no {v : Value} {L : List V} {D : Nat} (w : World) (h : TellsB w w.heap.size v L D) (hok : flatOk 0 L.length 0 D = false) : Calls Try.prog 23 #[.agg #[v]] w fun e w' =>
    e = .returned (.tuple #[.slice none 0 0, .int .i64 2]) ∧ Ext w w' := by
  refine (thingFlat_any w h).mono ?_
  rintro e w' ⟨out, rfl, _, ho, hx⟩
  obtain rfl := ho hok
  exact ⟨by rw [hok]; rfl, hx⟩

set_option maxHeartbeats 4000000 in
set_option maxRecDepth 100000 in
theorem kindSame_any (v1 v2 : Value) (L1 L2 : List V) (D1 D2 : Nat) (b : Bool) (hb : b = true ↔ (flatOk 0 L1.length 0 D1 = true ∧ flatOk 0 L2.length 0 D2 = true ∧ L1 = L2)) (w : World) (h1 : TellsB w w.heap.size v1 L1 D1) (h2 : TellsB w w.heap.size v2 L2 D2) :
    Calls Try.prog 12 #[.agg #[v1], .agg #[v2]] w fun e w' => e = .returned (.bool b) ∧ Ext w w' := by
  have hX : Ext w ((w.alloc (.cells #[v1] 25)).alloc (.cells #[v2] 25)) := ((Ext.refl w).alloc _).alloc _
  have t1 := h1.ext hX
  have t2 := fun x hx => h2.ext (w' := x) (hX.trans hx)
  have hsz : w.heap.size < ((w.alloc (.cells #[v1] 25)).alloc (.cells #[v2] 25)).heap.size ∧ w.heap.size + 1 < ((w.alloc (.cells #[v1] 25)).alloc (.cells #[v2] 25)).heap.size := by simp <;> omega
  have hc2 : ((w.alloc (.cells #[v1] 25)).alloc (.cells #[v2] 25)).cell? ⟨w.heap.size + 1, 0, none⟩ = some v2 := by simp [go_sem]
  cases ok1 : flatOk 0 L1.length 0 D1
  · obtain rfl : b = false := by
      cases b
      · rfl
      · rw [(hb.1 rfl).1] at ok1; cases ok1
    cases ok2 : flatOk 0 L2.length 0 D2
    · clear hb
      all_goals
        go_enter Try.func12, Try.ntmps12
        go_wp2_with (first
          | (go_at_call 23; with_reducible refine (flat_no _ t1 ok1).mono ?_; rintro e x9 ⟨rfl, hx9⟩; have k2 := (hx9.cell (p := ⟨w.heap.size + 1, 0, none⟩) hsz.2).trans hc2)
          | (go_at_call 23; with_reducible refine (flat_no _ (t2 _ hx9) ok2).mono ?_; rintro e y9 ⟨rfl, hy9⟩))
        go_ret
        exact ⟨rfl, hX.trans (hx9.trans hy9)⟩
    · clear hb
      all_goals
        go_enter Try.func12, Try.ntmps12
        go_wp2_with (first
          | (go_at_call 23; with_reducible refine (flat_no _ t1 ok1).mono ?_; rintro e x9 ⟨rfl, hx9⟩; have k2 := (hx9.cell (p := ⟨w.heap.size + 1, 0, none⟩) hsz.2).trans hc2)
          | (go_at_call 23; with_reducible refine (flat_yes _ (t2 _ hx9) ok2).mono ?_; rintro e y9 ⟨o2, rfl, ho2, hy9⟩))
        go_ret
        exact ⟨rfl, hX.trans (hx9.trans hy9)⟩
  · cases ok2 : flatOk 0 L2.length 0 D2
    · obtain rfl : b = false := by
        cases b
        · rfl
        · rw [(hb.1 rfl).2.1] at ok2; cases ok2
      clear hb
      all_goals
        go_enter Try.func12, Try.ntmps12
        go_wp2_with (first
          | (go_at_call 23; with_reducible refine (flat_yes _ t1 ok1).mono ?_; rintro e x9 ⟨o1, rfl, ho1, hx9⟩; have k2 := (hx9.cell (p := ⟨w.heap.size + 1, 0, none⟩) hsz.2).trans hc2)
          | (go_at_call 23; with_reducible refine (flat_no _ (t2 _ hx9) ok2).mono ?_; rintro e y9 ⟨rfl, hy9⟩))
        go_ret
        exact ⟨rfl, hX.trans (hx9.trans hy9)⟩
    · have hb2 : b = true ↔ L1 = L2 := by rw [hb]; simp [ok1, ok2]
      have l1 : L1.length ≤ 1000000000000 := by have := ok1; simp [flatOk] at this; omega
      have l2 : L2.length ≤ 1000000000000 := by have := ok2; simp [flatOk] at this; omega
      have HB := Lib.hid hb2
      clear hb hb2
      all_goals
        go_enter Try.func12, Try.ntmps12
        go_wp2_with (first
          | (go_at_call 23; with_reducible refine (flat_yes _ t1 ok1).mono ?_; rintro e x9 ⟨o1, rfl, ho1, hx9⟩; have k2 := (hx9.cell (p := ⟨w.heap.size + 1, 0, none⟩) hsz.2).trans hc2)
          | (go_at_call 23; with_reducible refine (flat_yes _ (t2 _ hx9) ok2).mono ?_; rintro e y9 ⟨o2, rfl, ho2, hy9⟩)
          | (go_at_call 35; refine (equalV _ _ L1 L2 b HB.out _ (ho1.rd.ext hy9) ho2.rd l1 l2).mono ?_; rintro e z9 ⟨rfl, hz9⟩))
        go_ret
        exact ⟨rfl, hX.trans ((hx9.trans hy9).trans hz9)⟩
end Go.Proofs.Ytdojgdeadhhldaa
