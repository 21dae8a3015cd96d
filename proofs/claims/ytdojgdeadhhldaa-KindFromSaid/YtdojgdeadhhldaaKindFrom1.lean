/- The law KindFrom: one thing of a value. -/
import Derived.Test.YtdojgdeadhhldaaKindRuns
import Derived.Test.YtdojgdeadhhldaaKindS
import Derived.OneCell
namespace Go.Proofs.Ytdojgdeadhhldaa
open Go.RowKit

set_option maxHeartbeats 8000000 in
set_option maxRecDepth 100000 in
theorem lone_any (x : V) (w : World) : Calls Try.prog 26 #[x.val] w fun e w' => ∃ v y D, e = .returned (.agg #[v]) ∧ Tells w' (fun b => w.heap.size ≤ b ∧ b < w'.heap.size) v [y] D ∧ D ≤ 1 ∧ Ext w w' := by
  obtain ⟨k, n, s, y, m, d⟩ := x
  simp only [V.val]
  by_cases h1 : k = 1
  · subst h1
    go_enter Try.func26, Try.ntmps26
    go_wp2_with (go_at_call 13; (refine (fromInt_any _ _).mono ?_); rintro e x1 ⟨rfl, hx1⟩; have c1 : x1.cell? ⟨w.heap.size + 1, 0, none⟩ = some .nilIface := (hx1.cell (p := ⟨w.heap.size + 1, 0, none⟩) (by simp)).trans (by simp [go_sem]); have f1 : x1.frozen? ⟨w.heap.size + 1, 0, none⟩ = false := (hx1.frozen (p := ⟨w.heap.size + 1, 0, none⟩) (by simp)).trans (by simp [go_sem]); have z1 : w.heap.size + 1 < x1.heap.size := World.block_lt_of_cell? _ _ c1)
    refine bodyPost_ret (v := .agg #[.iface 71 (.int .i64 n)]) (by simp [results, Try.results26, go_sem, c1, z1]) rfl ⟨_, _, 0, rfl, .one _ _ (.int n), by decide, ?_⟩
    exact (Ext.refl w |>.alloc _ |>.alloc _ |>.trans hx1).setCell (by simp) _
  by_cases h2 : k = 2
  · subst h2
    go_enter Try.func26, Try.ntmps26
    go_wp2_with (go_at_call 14; (refine (fromText_any _ _).mono ?_); rintro e x1 ⟨rfl, hx1⟩; have c1 : x1.cell? ⟨w.heap.size + 1, 0, none⟩ = some .nilIface := (hx1.cell (p := ⟨w.heap.size + 1, 0, none⟩) (by simp)).trans (by simp [go_sem]); have f1 : x1.frozen? ⟨w.heap.size + 1, 0, none⟩ = false := (hx1.frozen (p := ⟨w.heap.size + 1, 0, none⟩) (by simp)).trans (by simp [go_sem]); have z1 : w.heap.size + 1 < x1.heap.size := World.block_lt_of_cell? _ _ c1)
    refine bodyPost_ret (v := .agg #[.iface 72 (.string s)]) (by simp [results, Try.results26, go_sem, c1, z1]) rfl ⟨_, _, 0, rfl, .one _ _ (.text s), by decide, ?_⟩
    exact (Ext.refl w |>.alloc _ |>.alloc _ |>.trans hx1).setCell (by simp) _
  by_cases h3 : k = 3
  · subst h3
    go_enter Try.func26, Try.ntmps26
    go_wp2_with (go_at_call 40; (refine (fromFlag_any _ _).mono ?_); rintro e x1 ⟨rfl, hx1⟩; have c1 : x1.cell? ⟨w.heap.size + 1, 0, none⟩ = some .nilIface := (hx1.cell (p := ⟨w.heap.size + 1, 0, none⟩) (by simp)).trans (by simp [go_sem]); have f1 : x1.frozen? ⟨w.heap.size + 1, 0, none⟩ = false := (hx1.frozen (p := ⟨w.heap.size + 1, 0, none⟩) (by simp)).trans (by simp [go_sem]); have z1 : w.heap.size + 1 < x1.heap.size := World.block_lt_of_cell? _ _ c1)
    refine bodyPost_ret (v := .agg #[.iface 84 (.bool (n == 1))]) (by simp [results, Try.results26, go_sem, c1, z1]) rfl ⟨_, _, 0, rfl, .one _ _ (.flag _), by decide, ?_⟩
    exact (Ext.refl w |>.alloc _ |>.alloc _ |>.trans hx1).setCell (by simp) _
  by_cases h4 : k = 4
  · subst h4
    go_enter Try.func26, Try.ntmps26
    go_wp2_with (go_at_call 41; (refine (fromDate_any _ _ _ _).mono ?_); rintro e x1 ⟨rfl, hx1⟩; have c1 : x1.cell? ⟨w.heap.size + 1, 0, none⟩ = some .nilIface := (hx1.cell (p := ⟨w.heap.size + 1, 0, none⟩) (by simp)).trans (by simp [go_sem]); have f1 : x1.frozen? ⟨w.heap.size + 1, 0, none⟩ = false := (hx1.frozen (p := ⟨w.heap.size + 1, 0, none⟩) (by simp)).trans (by simp [go_sem]); have z1 : w.heap.size + 1 < x1.heap.size := World.block_lt_of_cell? _ _ c1)
    refine bodyPost_ret (v := .agg #[.iface 87 (.agg #[.int .i64 y, .int .i64 m, .int .i64 d])]) (by simp [results, Try.results26, go_sem, c1, z1]) rfl ⟨_, _, 0, rfl, .one _ _ (.day y m d), by decide, ?_⟩
    exact (Ext.refl w |>.alloc _ |>.alloc _ |>.trans hx1).setCell (by simp) _
  by_cases h5 : k = 5
  · subst h5
    go_enter Try.func26, Try.ntmps26
    have hs : ∀ w : World, SlR w w.heap.size 1 (.slice none 0 0) 0 [] := fun _ => ⟨rfl, Nat.zero_le _, none, 0, rfl, .inl rfl⟩
    go_wp2_with (go_at_call 27; (refine (fromList_any _ 0 [] _ (hs _) (by simp) (by decide)).mono ?_); rintro e x1 ⟨sl, rfl, ho, hx1⟩; have c1 : x1.cell? ⟨w.heap.size + 1, 0, none⟩ = some .nilIface := (hx1.cell (p := ⟨w.heap.size + 1, 0, none⟩) (by simp)).trans (by simp [go_sem]); have f1 : x1.frozen? ⟨w.heap.size + 1, 0, none⟩ = false := (hx1.frozen (p := ⟨w.heap.size + 1, 0, none⟩) (by simp)).trans (by simp [go_sem]); have z1 : w.heap.size + 1 < x1.heap.size := World.block_lt_of_cell? _ _ c1)
    refine bodyPost_ret (v := .agg #[.iface 82 (.agg #[sl])]) (by simp [results, Try.results26, go_sem, c1, z1]) rfl ⟨_, headV 0, 1, rfl, Tells.list sl [] ((SlP.of_own ho).keep fun b hb => ?_) (by simp), by decide, (Ext.refl w |>.alloc _ |>.alloc _ |>.trans hx1).setCell (by simp) _⟩
    obtain ⟨g1, g2⟩ := hb
    have g1' : w.heap.size + 1 + 1 ≤ b := by simpa using g1
    exact ⟨Below.heap_setCell _ _ _ _ (by show b ≠ w.heap.size + 1; omega), by omega, by simpa using g2⟩
  go_enter Try.func26, Try.ntmps26
  go_wp2
  refine bodyPost_ret (v := .agg #[.nilIface]) (by simp [results, Try.results26, go_sem]) rfl ⟨_, _, 0, rfl, .one _ _ .none, by decide, ?_⟩
  exact (by repeat (first | exact Ext.refl _ | assumption | refine Ext.trans ?_ (by assumption) | refine Ext.alloc ?_ _ | refine Ext.drew ?_ | refine Ext.drewN ?_ _))
end Go.Proofs.Ytdojgdeadhhldaa
