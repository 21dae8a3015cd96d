/- Contract of the document's Of: the day of a number. -/
import Derived.Test.YteoohgkaejgoaaaDateRef
namespace Go.Proofs.Yteoohgkaejgoaaa
open Go.RowKit

theorem daysI_first (y : Int) (h : 1 ≤ y) (h1 : y ≤ 9999) : daysI y 1 1 = aheadI y := by
  unfold daysI
  rw [dayB_mk ⟨h, h1, by decide, by decide, by decide, by have := lenI_bd y 1; omega⟩]
  simp [numI, cumI]
theorem daysI_month (y m : Int) (h : 1 ≤ y) (h1 : y ≤ 9999) (h2 : 1 ≤ m) (h3 : m ≤ 12) : daysI y m 1 = aheadI y + cumI y m := by
  unfold daysI
  rw [dayB_mk ⟨h, h1, h2, h3, by decide, by have := lenI_bd y m; omega⟩]
  simp [numI]
theorem refDays_is (y m d k : Int) (w : World) (h : daysI y m d = k) : Calls Try.prog 21 #[.agg #[.int .i64 y, .int .i64 m, .int .i64 d]] w fun e w' => e = .returned (.int .i64 k) ∧ Ext w w' := by
  rw [← h]; exact refDays_any y m d w

set_option maxHeartbeats 1000000 in
theorem refOf_no (n : Int) (w : World) (h : n < 0 ∨ 3652059 ≤ n) : Calls Try.prog 16 #[.int .i64 n] w fun e w' => e = .returned (.tuple #[.agg #[.int .i64 0, .int .i64 0, .int .i64 0], .bool false]) ∧ Ext w w' := by
  rcases h with h | h
  · go_enter Try.func16, Try.ntmps16
    go_wp2
    exact bodyPost_ret (v := .tuple #[.agg #[.int .i64 0, .int .i64 0, .int .i64 0], .bool false]) (by simp [results, Try.results16, go_sem]) rfl ⟨rfl, (by repeat (first | exact Ext.refl _ | assumption | refine Ext.trans ?_ (by assumption) | refine Ext.alloc ?_ _ | refine Ext.drew ?_ | refine Ext.drewN ?_ _))⟩
  · have h' : decide (n < 0) = false := decide_eq_false (by omega)
    have h2 : 3652058 < n := by omega
    go_enter Try.func16, Try.ntmps16
    go_wp2
    exact bodyPost_ret (v := .tuple #[.agg #[.int .i64 0, .int .i64 0, .int .i64 0], .bool false]) (by simp [results, Try.results16, go_sem]) rfl ⟨rfl, (by repeat (first | exact Ext.refl _ | assumption | refine Ext.trans ?_ (by assumption) | refine Ext.alloc ?_ _ | refine Ext.drew ?_ | refine Ext.drewN ?_ _))⟩

theorem guess (n : Int) (h0 : 0 ≤ n) : aheadI (1 + n / 366) ≤ n := by
  unfold aheadI
  rw [show 1 + n / 366 - 1 = n / 366 from by omega]
  omega

set_option maxHeartbeats 2000000 in
theorem refOf_yes (n : Int) (w : World) (h0 : 0 ≤ n) (h1 : n < 3652059) : Calls Try.prog 16 #[.int .i64 n] w fun e w' => ∃ y m d : Int, e = .returned (.tuple #[.agg #[.int .i64 y, .int .i64 m, .int .i64 d], .bool true]) ∧ IsDay n y m d ∧ Ext w w' := by
  have hd0 : decide (n < 0) = false := decide_eq_false (by omega)
  have hd1 : decide (3652058 < n) = false := decide_eq_false (by omega)
  have hg := guess n h0
  go_enter Try.func16, Try.ntmps16
  go_wp2
  clear hd0 hd1
  have hxw : Ext w (w.alloc (.cells #[.int .i64 0, .int .i64 0, .int .i64 0] 23)) := (by repeat (first | exact Ext.refl _ | assumption | refine Ext.trans ?_ (by assumption) | refine Ext.alloc ?_ _ | refine Ext.drew ?_ | refine Ext.drewN ?_ _))
  have hcw : ∀ j v, (#[.int .i64 0, .int .i64 0, .int .i64 0] : Array Value)[j]? = some v → (w.alloc (.cells #[.int .i64 0, .int .i64 0, .int .i64 0] 23)).cell? ⟨w.heap.size, j, none⟩ = some v := by
    intro j v hj
    rw [World.cell?_alloc_at _ _ _ _ rfl]; exact hj
  go_loopw [4] (fun yv wr => ∃ y : Int, yv = .int .i64 y ∧ 1 ≤ y ∧ y ≤ 9999 ∧ aheadI y ≤ n ∧ Ext (w.alloc (.cells #[.int .i64 0, .int .i64 0, .int .i64 0] 23)) wr) (fun yv _ => (9999 - intOf yv).toNat)
  case atStart => exact ⟨_, rfl, by omega, by omega, hg, Ext.refl _⟩
  case round =>
    obtain ⟨y, rfl, y1, y2, hy, hx⟩ := hrel
    by_cases hc : y < 9999 ∧ aheadI (y + 1) ≤ n
    · obtain ⟨hc1, hc2⟩ := hc
      go_wp2_with (go_at_call 21; refine (refDays_is _ _ _ (aheadI (y + 1)) _ (daysI_first _ (by omega) (by omega))).mono ?_; rintro e w' ⟨rfl, hx2⟩)
      go_roundw
      case rel => exact ⟨y + 1, rfl, by omega, by omega, hc2, (by repeat (first | exact Ext.refl _ | assumption | refine Ext.trans ?_ (by assumption) | refine Ext.alloc ?_ _ | refine Ext.drew ?_ | refine Ext.drewN ?_ _))⟩
      case measure => simp [intOf]; omega
    · have hlast : n < aheadI (y + 1) := by
        by_cases e : y = 9999
        · subst e
          have : aheadI (9999 + 1) = 3652059 := by decide
          omega
        · omega
      have hs := aheadI_succ y (by omega)
      have hlt : n - aheadI y < 365 + lpI y := by omega
      clear hs
      by_cases h9 : y < 9999
      all_goals
        try have h9' : decide (y < 9999) = false := decide_eq_false h9
        go_wp2_with (go_at_call 21; refine (refDays_is _ _ _ (aheadI (y + 1)) _ (daysI_first _ (by omega) (by omega))).mono ?_; rintro e w' ⟨rfl, hx2⟩)
        clear hlast hc
        try have hx := Ext.trans hx hx2
        go_loopw [5] (fun mv wr => ∃ m : Int, mv = .int .i64 m ∧ 1 ≤ m ∧ m ≤ 12 ∧ aheadI y + cumI y m ≤ n ∧ Ext (w.alloc (.cells #[.int .i64 0, .int .i64 0, .int .i64 0] 23)) wr) (fun mv _ => (12 - intOf mv).toNat)
        case atStart => exact ⟨1, rfl, by omega, by omega, by simp [cumI]; omega, by assumption⟩
        case round =>
          clear hx
          obtain ⟨m, rfl, m1, m2, hm, hx⟩ := hrel
          have hsm := cumI_succ y m m1 m2
          have HS := Lib.hid hsm
          clear hsm
          by_cases hk : m < 12 ∧ aheadI y + cumI y (m + 1) ≤ n
          · obtain ⟨hk1, hk2⟩ := hk
            go_wp2_with (go_at_call 21; refine (refDays_is _ _ _ (aheadI y + cumI y (m + 1)) _ (daysI_month _ _ (by omega) (by omega) (by omega) (by omega))).mono ?_; rintro e w' ⟨rfl, hx2⟩)
            go_roundw
            case rel => exact ⟨m + 1, rfl, by omega, by omega, hk2, (by repeat (first | exact Ext.refl _ | assumption | refine Ext.trans ?_ (by assumption) | refine Ext.alloc ?_ _ | refine Ext.drew ?_ | refine Ext.drewN ?_ _))⟩
            case measure => simp [intOf]; omega
          · have hl2 : n < aheadI y + cumI y (m + 1) := by
              by_cases e : m = 12
              · subst e
                have : cumI y (12 + 1) = 365 + lpI y := rfl
                omega
              · omega
            have hd1 : 1 ≤ 1 + n - (aheadI y + cumI y m) := by omega
            have hd2 : 1 + n - (aheadI y + cumI y m) ≤ lenI y m := by rw [HS.out] at hl2; omega
            have hday : IsDay n y m (1 + n - (aheadI y + cumI y m)) := ⟨dayB_mk ⟨y1, y2, m1, m2, hd1, hd2⟩, by unfold numI; omega⟩
            have hab := aheadI_bd y y1 (by omega)
            have hcb := cumI_bd y m m1 (by omega)
            obtain ⟨hab1, hab2⟩ := hab
            obtain ⟨hcb1, hcb2⟩ := hcb
            clear hk
            by_cases h12 : m < 12
            · clear HS
              go_wp2_with fail
              refine (refDays_is _ _ _ (aheadI y + cumI y (m + 1)) _ (daysI_month _ _ (by omega) (by omega) (by omega) (by omega))).mono ?_
              rintro e w1 ⟨rfl, hx9⟩
              go_wp2_with fail
              refine (refDays_is y m 1 (aheadI y + cumI y m) _ (daysI_month y m y1 y2 m1 m2)).mono ?_
              rintro e w2 ⟨rfl, hx3⟩
              have hE : Ext (w.alloc (.cells #[.int .i64 0, .int .i64 0, .int .i64 0] 23)) w2 := (by repeat (first | exact Ext.refl _ | assumption | refine Ext.trans ?_ (by assumption) | refine Ext.alloc ?_ _ | refine Ext.drew ?_ | refine Ext.drewN ?_ _))
              obtain ⟨hcc, hff⟩ := Ext.bc hE
              have c0 : w2.cell? ⟨w.heap.size, 0, none⟩ = some (.int .i64 0) := by rw [hcc _ _ (by simp)]; simp
              have c1 : w2.cell? ⟨w.heap.size, 1, none⟩ = some (.int .i64 0) := by rw [hcc _ _ (by simp)]; simp
              have c2 : w2.cell? ⟨w.heap.size, 2, none⟩ = some (.int .i64 0) := by rw [hcc _ _ (by simp)]; simp
              have f0 : w2.frozen? ⟨w.heap.size, 0, none⟩ = false := by rw [hff _ _ (by simp)]; simp [go_sem]
              have f1 : w2.frozen? ⟨w.heap.size, 1, none⟩ = false := by rw [hff _ _ (by simp)]; simp [go_sem]
              have f2 : w2.frozen? ⟨w.heap.size, 2, none⟩ = false := by rw [hff _ _ (by simp)]; simp [go_sem]
              have hE0 : Ext w w2 := hxw.trans hE
              clear hcc hff hE hx3
              go_wp2
              refine bodyPost_ret (v := .tuple #[.agg #[.int .i64 y, .int .i64 m, .int .i64 (1 + n - (aheadI y + cumI y m))], .bool true]) (by simp [results, Try.results16, go_sem, c0, c1, c2]) rfl ⟨y, m, _, rfl, hday, ?_⟩
              exact Ext.setCell (Ext.setCell (Ext.setCell hE0 (Nat.le_refl _) _) (Nat.le_refl _) _) (Nat.le_refl _) _
            · have h12' : decide (m < 12) = false := decide_eq_false h12
              clear HS hl2
              go_wp2_with fail
              refine (refDays_is y m 1 (aheadI y + cumI y m) _ (daysI_month y m y1 y2 m1 m2)).mono ?_
              rintro e w2 ⟨rfl, hx3⟩
              have hE : Ext (w.alloc (.cells #[.int .i64 0, .int .i64 0, .int .i64 0] 23)) w2 := (by repeat (first | exact Ext.refl _ | assumption | refine Ext.trans ?_ (by assumption) | refine Ext.alloc ?_ _ | refine Ext.drew ?_ | refine Ext.drewN ?_ _))
              obtain ⟨hcc, hff⟩ := Ext.bc hE
              have c0 : w2.cell? ⟨w.heap.size, 0, none⟩ = some (.int .i64 0) := by rw [hcc _ _ (by simp)]; simp
              have c1 : w2.cell? ⟨w.heap.size, 1, none⟩ = some (.int .i64 0) := by rw [hcc _ _ (by simp)]; simp
              have c2 : w2.cell? ⟨w.heap.size, 2, none⟩ = some (.int .i64 0) := by rw [hcc _ _ (by simp)]; simp
              have f0 : w2.frozen? ⟨w.heap.size, 0, none⟩ = false := by rw [hff _ _ (by simp)]; simp [go_sem]
              have f1 : w2.frozen? ⟨w.heap.size, 1, none⟩ = false := by rw [hff _ _ (by simp)]; simp [go_sem]
              have f2 : w2.frozen? ⟨w.heap.size, 2, none⟩ = false := by rw [hff _ _ (by simp)]; simp [go_sem]
              have hE0 : Ext w w2 := hxw.trans hE
              clear hcc hff hE hx3
              go_wp2
              refine bodyPost_ret (v := .tuple #[.agg #[.int .i64 y, .int .i64 m, .int .i64 (1 + n - (aheadI y + cumI y m))], .bool true]) (by simp [results, Try.results16, go_sem, c0, c1, c2]) rfl ⟨y, m, _, rfl, hday, ?_⟩
              exact Ext.setCell (Ext.setCell (Ext.setCell hE0 (Nat.le_refl _) _) (Nat.le_refl _) _) (Nat.le_refl _) _
end Go.Proofs.Yteoohgkaejgoaaa
