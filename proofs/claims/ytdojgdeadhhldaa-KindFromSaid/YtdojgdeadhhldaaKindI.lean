/- Package kind: next. -/
import Derived.Test.YtdojgdeadhhldaaKindH
namespace Go.Proofs.Ytdojgdeadhhldaa
open Go.RowKit

set_option maxHeartbeats 8000000 in
set_option maxRecDepth 100000 in
theorem next_nil (v : Value) (di : Int) (deep f B : Nat) (w : World) (hl : SlC w B v []) : Calls Try.prog 33 #[v, .int .i64 di] w (NextPost w B [] (nextP f []) deep) := by
  obtain ⟨a, cap, rfl, _, _, _⟩ := hl
  have e : nextP f [] = .error 3 := by cases f <;> rfl
  rw [e]
  go_enter Try.func33, Try.ntmps33
  go_wp2
  refine bodyPost_ret (v := .tuple #[.agg #[.nilIface], .slice none 0 0, .int .i64 3]) ?r rfl ⟨(Ext.refl w).alloc _, rfl⟩
  case r => simp [results, Try.results33, go_sem]

set_option maxHeartbeats 8000000 in
set_option maxRecDepth 100000 in
theorem next_cons (f deep B : Nat) (hf : f + deep = 16) (x : V) (t : List V) (v : Value) (w : World) (hBw : B ≤ w.heap.size) (hl : SlC w B v (x :: t)) (hm : (x :: t).length ≤ 1000000000) (ih : ∀ g, f = g + 1 → ∀ (w : World) (v : Value) (l : List V), B ≤ w.heap.size → SlC w B v l → l.length ≤ 1000000000 → Calls Try.prog 33 #[v, .int .i64 ((deep : Int) + 1)] w (NextPost w B l (nextP g l) (deep + 1))) : Calls Try.prog 33 #[v, .int .i64 (deep : Int)] w (NextPost w B (x :: t) (nextP f (x :: t)) deep) := by
  obtain ⟨i0, hi, hz0, hz1, hz2⟩ := info_parts Try.infoThing
  obtain ⟨a, cap, rfl, hlc, hcm, hs⟩ := hl
  obtain ⟨b1, o1, rfl, hb1, hc1⟩ := SlS.at_ V.len (SlR.up hs hBw) (by simp) (by decide)
  have d1 := hc1 0 (by simp)
  have a0 : w.cell? ⟨b1, o1, none⟩ = some (.int .i64 x.kind) := by have := d1 0 (by decide); simpa [V.cells] using this
  have a1 : w.cell? ⟨b1, o1 + 1, none⟩ = some (.int .i64 x.n) := by have := d1 1 (by decide); simpa [V.cells] using this
  have a2 : w.cell? ⟨b1, o1 + 2, none⟩ = some (.string x.text) := by have := d1 2 (by decide); simpa [V.cells] using this
  have a3 : w.cell? ⟨b1, o1 + 3, none⟩ = some (.int .i64 x.y) := by have := d1 3 (by decide); simpa [V.cells] using this
  have a4 : w.cell? ⟨b1, o1 + 4, none⟩ = some (.int .i64 x.m) := by have := d1 4 (by decide); simpa [V.cells] using this
  have a5 : w.cell? ⟨b1, o1 + 5, none⟩ = some (.int .i64 x.d) := by have := d1 5 (by decide); simpa [V.cells] using this
  clear d1 hc1
  have hlen : (x :: t).length = t.length + 1 := rfl
  rw [hlen] at hlc hm ⊢
  have hne : ((t.length : Int) + 1 == 0) = false := by simp; omega
  obtain ⟨ra, hra⟩ : ∃ ra : Option Addr, (if cap = 1 then some ⟨b1, o1, none⟩ else some ⟨b1, o1 + 6, none⟩) = ra := ⟨_, rfl⟩
  have hhd : SlC w B (.slice ra t.length (cap - 1)) t := by
    refine ⟨_, _, rfl, by omega, by omega, ?_⟩
    obtain ⟨q1, q2, a', cap', he, q3⟩ := hs
    simp only [Value.slice.injEq] at he
    obtain ⟨rfl, _, rfl⟩ := he
    refine ⟨flat_len V.len t, by simp only [List.length_cons] at q2; omega, _, _, rfl, ?_⟩
    by_cases ht : t.length = 0
    · exact .inl ht
    · right
      rcases q3 with q3 | ⟨b, off, he, hb, hc⟩
      · simp at q3
      · simp only [Option.some.injEq, Addr.mk.injEq, and_true] at he
        obtain ⟨rfl, rfl⟩ := he
        refine ⟨b1, o1 + 6, by rw [← hra, if_neg (by omega)], hb, fun j hj => ?_⟩
        have := hc (6 + j) (by simp only [List.length_cons]; omega)
        rw [List.flatMap_cons, List.getElem?_append_right (by rw [V.len]; omega), V.len] at this
        rw [Nat.add_assoc, this]
        congr 1
        omega
  have HH := Lib.hid hhd
  clear hhd hs
  have j1 : (1 : Int) ≤ (t.length : Int) + 1 := by omega
  have j2 : (t.length : Int) + 1 ≤ (cap : Int) := by omega
  have j3 : (0 : Int) < (t.length : Int) + 1 := by omega
  obtain ⟨k, n, s, y, m, d⟩ := x
  simp only [] at a0 a1 a2 a3 a4 a5
  go_enter Try.func33, Try.ntmps33
  go_wp2
  go_region
  clear hra a0 a1 a2 a3 a4 a5
  have hX : Ext w ((w.alloc (.cells #[.nilIface] 25)).alloc (.cells #[.int .i64 k, .int .i64 n, .string s, .int .i64 y, .int .i64 m, .int .i64 d] 32)).drew := (((Ext.refl w).alloc _).alloc _).drew
  have r0 : ((w.alloc (.cells #[.nilIface] 25)).alloc (.cells #[.int .i64 k, .int .i64 n, .string s, .int .i64 y, .int .i64 m, .int .i64 d] 32)).drew.cell? ⟨w.heap.size, 0, none⟩ = some .nilIface := by simp [go_sem]
  have s0 : ((w.alloc (.cells #[.nilIface] 25)).alloc (.cells #[.int .i64 k, .int .i64 n, .string s, .int .i64 y, .int .i64 m, .int .i64 d] 32)).drew.frozen? ⟨w.heap.size, 0, none⟩ = false := by simp [go_sem]
  have c0 : ((w.alloc (.cells #[.nilIface] 25)).alloc (.cells #[.int .i64 k, .int .i64 n, .string s, .int .i64 y, .int .i64 m, .int .i64 d] 32)).drew.cell? ⟨w.heap.size + 1, 0, none⟩ = some (.int .i64 k) := by simp [go_sem]
  have c1 : ((w.alloc (.cells #[.nilIface] 25)).alloc (.cells #[.int .i64 k, .int .i64 n, .string s, .int .i64 y, .int .i64 m, .int .i64 d] 32)).drew.cell? ⟨w.heap.size + 1, 1, none⟩ = some (.int .i64 n) := by simp [go_sem]
  have c2 : ((w.alloc (.cells #[.nilIface] 25)).alloc (.cells #[.int .i64 k, .int .i64 n, .string s, .int .i64 y, .int .i64 m, .int .i64 d] 32)).drew.cell? ⟨w.heap.size + 1, 2, none⟩ = some (.string s) := by simp [go_sem]
  have c3 : ((w.alloc (.cells #[.nilIface] 25)).alloc (.cells #[.int .i64 k, .int .i64 n, .string s, .int .i64 y, .int .i64 m, .int .i64 d] 32)).drew.cell? ⟨w.heap.size + 1, 3, none⟩ = some (.int .i64 y) := by simp [go_sem]
  have c4 : ((w.alloc (.cells #[.nilIface] 25)).alloc (.cells #[.int .i64 k, .int .i64 n, .string s, .int .i64 y, .int .i64 m, .int .i64 d] 32)).drew.cell? ⟨w.heap.size + 1, 4, none⟩ = some (.int .i64 m) := by simp [go_sem]
  have c5 : ((w.alloc (.cells #[.nilIface] 25)).alloc (.cells #[.int .i64 k, .int .i64 n, .string s, .int .i64 y, .int .i64 m, .int .i64 d] 32)).drew.cell? ⟨w.heap.size + 1, 5, none⟩ = some (.int .i64 d) := by simp [go_sem]
  generalize ((w.alloc (.cells #[.nilIface] 25)).alloc (.cells #[.int .i64 k, .int .i64 n, .string s, .int .i64 y, .int .i64 m, .int .i64 d] 32)).drew = W at *
  have z1 : w.heap.size + 1 < W.heap.size := World.block_lt_of_cell? W _ c0
  have z0 : w.heap.size < W.heap.size := by omega
  clear hne j1 j2 j3 hlen
  by_cases hk5 : k = 5 ∧ f = 0
  · obtain ⟨rfl, rfl⟩ := hk5
    have hd16 : (16 : Int) ≤ (deep : Int) := by omega
    go_wp2
    refine bodyPost_ret (v := .tuple #[.agg #[.nilIface], .slice none 0 0, .int .i64 2]) ?r rfl ⟨hX.setCell (Nat.le_refl _) _, by simp [nextP]⟩
    case r => simp [results, Try.results33, go_sem, r0]
  · have hk5' : ¬ (k = 5 ∧ (16 : Int) ≤ (deep : Int)) := by omega
    by_cases hkr : 0 ≤ k ∧ k ≤ 5
    · have k0 : ¬ k < 0 := by omega
      have k5 : ¬ 5 < k := by omega
      have keep : ∀ W', Ext W W' → Ext w W' ∧ W'.cell? ⟨w.heap.size, 0, none⟩ = some .nilIface ∧ W'.frozen? ⟨w.heap.size, 0, none⟩ = false ∧ W'.cell? ⟨w.heap.size + 1, 0, none⟩ = some (.int .i64 k) ∧ W'.cell? ⟨w.heap.size + 1, 1, none⟩ = some (.int .i64 n) ∧ W'.cell? ⟨w.heap.size + 1, 2, none⟩ = some (.string s) ∧ W'.cell? ⟨w.heap.size + 1, 3, none⟩ = some (.int .i64 y) ∧ W'.cell? ⟨w.heap.size + 1, 4, none⟩ = some (.int .i64 m) ∧ W'.cell? ⟨w.heap.size + 1, 5, none⟩ = some (.int .i64 d) ∧ w.heap.size < W'.heap.size ∧ w.heap.size + 1 < W'.heap.size := fun W' h =>
        ⟨hX.trans h, (h.cell (p := ⟨w.heap.size, 0, none⟩) z0).trans r0, (h.frozen (p := ⟨w.heap.size, 0, none⟩) z0).trans s0, (h.cell (p := ⟨w.heap.size + 1, 0, none⟩) z1).trans c0, (h.cell (p := ⟨w.heap.size + 1, 1, none⟩) z1).trans c1, (h.cell (p := ⟨w.heap.size + 1, 2, none⟩) z1).trans c2, (h.cell (p := ⟨w.heap.size + 1, 3, none⟩) z1).trans c3, (h.cell (p := ⟨w.heap.size + 1, 4, none⟩) z1).trans c4, (h.cell (p := ⟨w.heap.size + 1, 5, none⟩) z1).trans c5, by have := h.size; omega, by have := h.size; omega⟩
      have KEEP := Lib.hid keep
      clear keep
      have hright := fun w1 => right_any k n s y m d hkr w1
      simp only [V.val] at hright
      by_cases hR : RightV ⟨k, n, s, y, m, d⟩
      · have HRn := Lib.hid hR
        have hR2 := hR
        simp only [RightV] at hR2
        rcases (by omega : k = 0 ∨ k = 1 ∨ k = 2 ∨ k = 3 ∨ k = 4 ∨ k = 5) with rfl | rfl | rfl | rfl | rfl | rfl
        · obtain ⟨rfl, rfl, rfl, rfl, rfl⟩ : n = 0 ∧ s = ⟨#[]⟩ ∧ y = 0 ∧ m = 0 ∧ d = 0 := by
            simp at hR2
            simp [hR2]
          have e : nextP f (⟨0, 0, ⟨#[]⟩, 0, 0, 0⟩ :: t) = .ok t := by
            cases f <;> simp only [nextP]
            · rw [if_neg (by decide), if_neg (by decide), if_pos HRn.out]
            · rw [if_neg (by decide), if_pos HRn.out, if_neg (by decide)]
          clear hk5 hk5' hkr hR k0 k5
          clear hR2
          go_wp2_with (go_at_call 47; refine (hright _).mono ?_; rintro e W' ⟨⟨b, rfl, hb⟩, hW⟩; obtain ⟨hX', r0', s0', c0', c1', c2', c3', c4', c5', z0', z1'⟩   := KEEP.out _ hW; obtain rfl : b = true := hb.2 HRn.out; clear hb)
          have hXf := hX'
          refine bodyPost_ret (v := .tuple #[.agg #[.nilIface], .slice ra t.length (cap - 1), .int .i64 0]) ?r rfl ⟨hXf.setCell (Nat.le_refl _) _, ?hfin⟩
          case r => simp [results, Try.results33, go_sem, r0']
          case hfin =>
            first
            | (rw [e]; exact ⟨_, _, [⟨0, 0, ⟨#[]⟩, 0, 0, 0⟩], 0, rfl, HH.out.ext hBw (hXf.setCell (Nat.le_refl _) _), rfl, by simp, .one _ _ (.none), by omega⟩)
            | exact ⟨_, _, [⟨0, 0, ⟨#[]⟩, 0, 0, 0⟩], 0, rfl, HH.out.ext hBw (hXf.setCell (Nat.le_refl _) _), rfl, by simp, .one _ _ (.none), by omega⟩
        · obtain ⟨rfl, rfl, rfl, rfl⟩ : s = ⟨#[]⟩ ∧ y = 0 ∧ m = 0 ∧ d = 0 := by
            simp at hR2
            simp [hR2]
          have e : nextP f (⟨1, n, ⟨#[]⟩, 0, 0, 0⟩ :: t) = .ok t := by
            cases f <;> simp only [nextP]
            · rw [if_neg (by decide), if_neg (by decide), if_pos HRn.out]
            · rw [if_neg (by decide), if_pos HRn.out, if_neg (by decide)]
          clear hk5 hk5' hkr hR k0 k5
          clear hR2
          go_wp2_with (first
            | (go_at_call 47; refine (hright _).mono ?_; rintro e W' ⟨⟨b, rfl, hb⟩, hW⟩; obtain ⟨hX', r0', s0', c0', c1', c2', c3', c4', c5', z0', z1'⟩   := KEEP.out _ hW; obtain rfl : b = true := hb.2 HRn.out; clear hb)
            | (go_at_call 13; refine (fromInt_any _ _).mono ?_; rintro e W2 ⟨rfl, hW2⟩; obtain ⟨hXf, r0f, s0f, _, _, _, _, _, _, z0f, z1f⟩   := KEEP.out _ (hW.trans hW2)))
          refine bodyPost_ret (v := .tuple #[.agg #[.iface 71 (.int .i64 n)], .slice ra t.length (cap - 1), .int .i64 0]) ?r rfl ⟨hXf.setCell (Nat.le_refl _) _, ?hfin⟩
          case r => simp [results, Try.results33, go_sem, r0f]
          case hfin =>
            first
            | (rw [e]; exact ⟨_, _, [⟨1, n, ⟨#[]⟩, 0, 0, 0⟩], 0, rfl, HH.out.ext hBw (hXf.setCell (Nat.le_refl _) _), rfl, by simp, .one _ _ (.int n), by omega⟩)
            | exact ⟨_, _, [⟨1, n, ⟨#[]⟩, 0, 0, 0⟩], 0, rfl, HH.out.ext hBw (hXf.setCell (Nat.le_refl _) _), rfl, by simp, .one _ _ (.int n), by omega⟩
        · obtain ⟨rfl, rfl, rfl, rfl⟩ : n = 0 ∧ y = 0 ∧ m = 0 ∧ d = 0 := by
            simp at hR2
            simp [hR2]
          have e : nextP f (⟨2, 0, s, 0, 0, 0⟩ :: t) = .ok t := by
            cases f <;> simp only [nextP]
            · rw [if_neg (by decide), if_neg (by decide), if_pos HRn.out]
            · rw [if_neg (by decide), if_pos HRn.out, if_neg (by decide)]
          clear hk5 hk5' hkr hR k0 k5
          clear hR2
          go_wp2_with (first
            | (go_at_call 47; refine (hright _).mono ?_; rintro e W' ⟨⟨b, rfl, hb⟩, hW⟩; obtain ⟨hX', r0', s0', c0', c1', c2', c3', c4', c5', z0', z1'⟩   := KEEP.out _ hW; obtain rfl : b = true := hb.2 HRn.out; clear hb)
            | (go_at_call 14; refine (fromText_any _ _).mono ?_; rintro e W2 ⟨rfl, hW2⟩; obtain ⟨hXf, r0f, s0f, _, _, _, _, _, _, z0f, z1f⟩   := KEEP.out _ (hW.trans hW2)))
          refine bodyPost_ret (v := .tuple #[.agg #[.iface 72 (.string s)], .slice ra t.length (cap - 1), .int .i64 0]) ?r rfl ⟨hXf.setCell (Nat.le_refl _) _, ?hfin⟩
          case r => simp [results, Try.results33, go_sem, r0f]
          case hfin =>
            first
            | (rw [e]; exact ⟨_, _, [⟨2, 0, s, 0, 0, 0⟩], 0, rfl, HH.out.ext hBw (hXf.setCell (Nat.le_refl _) _), rfl, by simp, .one _ _ (.text s), by omega⟩)
            | exact ⟨_, _, [⟨2, 0, s, 0, 0, 0⟩], 0, rfl, HH.out.ext hBw (hXf.setCell (Nat.le_refl _) _), rfl, by simp, .one _ _ (.text s), by omega⟩
        · obtain ⟨fb, hfb, rfl, rfl, rfl, rfl⟩ : ∃ fb : Bool, n = (if fb then 1 else 0) ∧ s = ⟨#[]⟩ ∧ y = 0 ∧ m = 0 ∧ d = 0 := by
            simp at hR2
            obtain ⟨h1, h2, h3, h4, h5⟩ := hR2
            rcases h1 with rfl | rfl
            · exact ⟨false, rfl, h2, h3, h4, h5⟩
            · exact ⟨true, rfl, h2, h3, h4, h5⟩
          have hfe : (n == 1) = fb := by subst hfb; cases fb <;> rfl
          have HFB := Lib.hid hfb
          clear hfb
          have e : nextP f (⟨3, n, ⟨#[]⟩, 0, 0, 0⟩ :: t) = .ok t := by
            cases f <;> simp only [nextP]
            · rw [if_neg (by decide), if_neg (by decide), if_pos HRn.out]
            · rw [if_neg (by decide), if_pos HRn.out, if_neg (by decide)]
          clear hk5 hk5' hkr hR k0 k5
          clear hR2
          go_wp2_with (first
            | (go_at_call 47; refine (hright _).mono ?_; rintro e W' ⟨⟨b, rfl, hb⟩, hW⟩; obtain ⟨hX', r0', s0', c0', c1', c2', c3', c4', c5', z0', z1'⟩   := KEEP.out _ hW; obtain rfl : b = true := hb.2 HRn.out; clear hb)
            | (go_at_call 40; refine (fromFlag_any _ _).mono ?_; rintro e W2 ⟨rfl, hW2⟩; obtain ⟨hXf, r0f, s0f, _, _, _, _, _, _, z0f, z1f⟩   := KEEP.out _ (hW.trans hW2)))
          refine bodyPost_ret (v := .tuple #[.agg #[.iface 84 (.bool fb)], .slice ra t.length (cap - 1), .int .i64 0]) ?r rfl ⟨hXf.setCell (Nat.le_refl _) _, ?hfin⟩
          case r => simp [results, Try.results33, go_sem, r0f]
          case hfin =>
            rw [HFB.out] at e ⊢
            first
            | (rw [e]; exact ⟨_, _, [⟨3, if fb then 1 else 0, ⟨#[]⟩, 0, 0, 0⟩], 0, rfl, HH.out.ext hBw (hXf.setCell (Nat.le_refl _) _), rfl, by simp, .one _ _ (.flag fb), by omega⟩)
            | exact ⟨_, _, [⟨3, if fb then 1 else 0, ⟨#[]⟩, 0, 0, 0⟩], 0, rfl, HH.out.ext hBw (hXf.setCell (Nat.le_refl _) _), rfl, by simp, .one _ _ (.flag fb), by omega⟩
        · obtain ⟨rfl, rfl⟩ : n = 0 ∧ s = ⟨#[]⟩ := by
            simp at hR2
            simp [hR2]
          have e : nextP f (⟨4, 0, ⟨#[]⟩, y, m, d⟩ :: t) = .ok t := by
            cases f <;> simp only [nextP]
            · rw [if_neg (by decide), if_neg (by decide), if_pos HRn.out]
            · rw [if_neg (by decide), if_pos HRn.out, if_neg (by decide)]
          clear hk5 hk5' hkr hR k0 k5
          clear hR2
          go_wp2_with (first
            | (go_at_call 47; refine (hright _).mono ?_; rintro e W' ⟨⟨b, rfl, hb⟩, hW⟩; obtain ⟨hX', r0', s0', c0', c1', c2', c3', c4', c5', z0', z1'⟩   := KEEP.out _ hW; obtain rfl : b = true := hb.2 HRn.out; clear hb)
            | (go_at_call 41; refine (fromDate_any _ _ _ _).mono ?_; rintro e W2 ⟨rfl, hW2⟩; obtain ⟨hXf, r0f, s0f, _, _, _, _, _, _, z0f, z1f⟩   := KEEP.out _ (hW.trans hW2)))
          refine bodyPost_ret (v := .tuple #[.agg #[.iface 87 (.agg #[.int .i64 y, .int .i64 m, .int .i64 d])], .slice ra t.length (cap - 1), .int .i64 0]) ?r rfl ⟨hXf.setCell (Nat.le_refl _) _, ?hfin⟩
          case r => simp [results, Try.results33, go_sem, r0f]
          case hfin =>
            first
            | (rw [e]; exact ⟨_, _, [⟨4, 0, ⟨#[]⟩, y, m, d⟩], 0, rfl, HH.out.ext hBw (hXf.setCell (Nat.le_refl _) _), rfl, by simp, .one _ _ (.day y m d), by omega⟩)
            | exact ⟨_, _, [⟨4, 0, ⟨#[]⟩, y, m, d⟩], 0, rfl, HH.out.ext hBw (hXf.setCell (Nat.le_refl _) _), rfl, by simp, .one _ _ (.day y m d), by omega⟩
        · obtain ⟨hn0, rfl, rfl, rfl, rfl⟩ : 0 ≤ n ∧ s = ⟨#[]⟩ ∧ y = 0 ∧ m = 0 ∧ d = 0 := by
            simp at hR2
            obtain ⟨h1, h2, h3⟩ := hR2
            exact ⟨by omega, h2, h3⟩
          obtain ⟨N, rfl⟩ := Int.eq_ofNat_of_zero_le hn0
          obtain ⟨g, rfl⟩ : ∃ g, f = g + 1 := ⟨f - 1, by omega⟩
          have hd16 : ¬ (16 : Int) ≤ (deep : Int) := by omega
          have hih := ih g rfl
          have e : nextP (g + 1) (⟨5, (N : Int), ⟨#[]⟩, 0, 0, 0⟩ :: t) = manyP (nextP g) N t := by
            simp only [nextP]
            rw [if_neg (by decide), if_pos HRn.out, if_pos trivial]
            rfl
          have E := Lib.hid e
          clear hk5 hk5' hkr hR k0 k5 hR2 e ih hn0
          go_wp2_with (go_at_call 47; refine (hright _).mono ?_; rintro e W' ⟨⟨b, rfl, hb⟩, hW⟩; obtain ⟨hX', r0', s0', c0', c1', c2', c3', c4', c5', z0', z1'⟩ := KEEP.out _ hW; obtain rfl : b = true := hb.2 HRn.out; clear hb)
          have hW0 : w.heap.size + 2 ≤ W'.heap.size := by omega
          clear hright c0' c1' c2' c3' c4' c5' c0 c1 c2 c3 c4 c5 hW r0 s0 z0 z1
          go_loopw [0, 8, 76] (fun lv ov jv wr => ∃ (j : Nat) (its : List (Value × List V × Nat)) (l' : List V), jv = .int .i64 (j : Int) ∧ its.length = j ∧ wr.ownsRow W'.heap.size 25 1 ov j (its.map (·.1)) ∧ SlC wr B lv l' ∧
            (∀ u ∈ its, Tells wr (fun b => W'.heap.size ≤ b ∧ b < wr.heap.size ∧ notBlk ov b) u.1 u.2.1 u.2.2) ∧ t = flatsOf its ++ l' ∧ (j ≤ N ∧ manyP (nextP g) N t = manyP (nextP g) (N - j) l') ∧ deep + 1 + deepOf its ≤ 16 ∧ j ≤ (flatsOf its).length ∧ Ext W' wr) (fun _ _ jv _ => N - (intOf jv).toNat)
          case atStart => exact ⟨0, [], t, rfl, rfl, World.ownsRow_nil _ _ _ _, HH.out.ext hBw hX', fun u hu => (by cases hu), rfl, ⟨Nat.zero_le _, rfl⟩, by simp [deepOf]; omega, Nat.zero_le _, Ext.refl _⟩
          case round =>
            obtain ⟨j, its, l', rfl, hil, hown, hlv, htell, htl, ⟨hjN, hmany⟩, hdp, hjl, hxr⟩ := hrel
            have hlt' : l'.length ≤ 1000000000 := by rw [htl, List.length_append] at hm; omega
            have hjt : j ≤ 1000000000 := by rw [htl, List.length_append] at hm; omega
            have hXr : Ext w wr := hX'.trans hxr
            have r1 : wr.cell? ⟨w.heap.size, 0, none⟩ = some .nilIface := (hxr.cell (p := ⟨w.heap.size, 0, none⟩) z0').trans r0'
            have s1 : wr.frozen? ⟨w.heap.size, 0, none⟩ = false := (hxr.frozen (p := ⟨w.heap.size, 0, none⟩) z0').trans s0'
            have zr : w.heap.size < wr.heap.size := World.block_lt_of_cell? _ _ r1
            have hB0 : W'.heap.size ≤ wr.heap.size := hxr.size
            have HTL := Lib.hid htl
            have HMN := Lib.hid hmany
            have HT := Lib.hid htell
            clear htl hmany htell
            by_cases hj : j < N
            · have hji : (j : Int) < (N : Int) := by omega
              have hNj : N - j = (N - (j + 1)) + 1 := by omega
              have hcall := hih wr u0 l' (Nat.le_trans hBw hXr.size) hlv hlt'
              cases hnx : nextP g l' with
              | error c =>
                rw [hnx] at hcall
                have hc0 : (c != 0) = true := by simp [nextP_err g l' c hnx]
                have HM : Hid (nextP (g + 1) (⟨5, (N : Int), ⟨#[]⟩, 0, 0, 0⟩ :: t) = .error c) := Lib.hid (by rw [E.out, HMN.out, hNj, manyP_stop _ _ _ _ hnx])
                clear hih hnx hNj
                go_wp2_with (go_at_call 33; refine hcall.mono ?_; rintro e x1 ⟨hx1, rfl⟩; have r2 := (hx1.cell (p := ⟨w.heap.size, 0, none⟩) zr).trans r1; have s2 := (hx1.frozen (p := ⟨w.heap.size, 0, none⟩) zr).trans s1; have zr2 : w.heap.size < x1.heap.size := World.block_lt_of_cell? _ _ r2)
                refine bodyPost_ret (v := .tuple #[.agg #[.nilIface], .slice none 0 0, .int .i64 c]) ?_ rfl ⟨((hXr.trans hx1).setCell (Nat.le_refl _) _).alloc _, by rw [HM.out]⟩
                simp [results, Try.results33, go_sem, r2, zr2]
              | ok r =>
                rw [hnx] at hcall
                have HM : Hid (manyP (nextP g) N t = manyP (nextP g) (N - (j + 1)) r) := Lib.hid (by rw [HMN.out, hNj, manyP_step _ _ _ _ hnx])
                clear hih hnx hNj
                go_wp2_with (first
                  | (go_at_call 33; refine hcall.mono ?_; rintro e x1 ⟨hx1, iv, rv, p, D, rfl, hrv, hpl, hpn, htl1, hd1⟩; have hst : (store ⟨x1.heap.size, 0, none⟩ iv).run Try.prog (x1.alloc (.cells #[.nilIface] 25)) = .ok () (x1.alloc (.cells #[iv] 25)) := (by rcases htl1.form with rfl | ⟨_, _, rfl⟩ <;> simp [go_sem]); have h1c : ∀ u ∈ [iv], u.oneCell' = true := (by intro u hu; simp at hu; subst hu; rcases htl1.form with rfl | ⟨_, _, rfl⟩ <;> rfl); have hsz1 : x1.heap.size + 1 = (x1.alloc (.cells #[iv] 25)).heap.size := (by simp); have HSZ := Lib.hid hsz1; clear hsz1; have HT1 := Lib.hid htl1; have hx2 : Ext wr (x1.alloc (.cells #[iv] 25)) := hx1.alloc _; have hown2 := own_ext hown hx2; clear htl1)
                  | (at_builtin; refine wpList_own_push2 (w := x1.alloc (.cells #[iv] 25)) rfl _ _ 34 rfl W'.heap.size 25 25 i0 _ 1 16 Try.underlying34 hi hz0 hz1 hz2 rfl (by decide) _ _ 1 1 _ [iv] hown2 rfl (congrArg (fun b => Value.slice (some ⟨b, 0, none⟩) 1 1) HSZ.out) rfl rfl h1c ?c3 ?c4 ?c5 ?_))
                case c3 => unfold maxLen; omega
                case c4 => omega
                case c5 => have := hx2.size; omega
                intro v' w3 hown3 hb3 hap
                go_wp2_with fail
                have hl1 := HTL.out
                have hx2s := hx2.size
                have hx1s := hx1.size
                have hXs := hXr.size
                have hb3s := hb3.size
                rw [hpl] at hl1
                have hfl : flatsOf (its ++ [(iv, p, D)]) = flatsOf its ++ p := by simp [flatsOf]
                have hdl : deepOf (its ++ [(iv, p, D)]) = max (deepOf its) D := by rw [deepOf_append]; simp [deepOf]
                have hpp := List.length_pos_iff.2 hpn
                have hu8 : ∀ b, wr.heap.size ≤ b → notBlk u8 b := by
                  intro b hb a n c he
                  subst he
                  rcases hown.2 with ⟨h0, _⟩ | ⟨gg, cc, cur, h0, _, h2, _⟩
                  · cases h0
                  · cases h0
                    have := (Array.getElem?_eq_some_iff.1 h2).1
                    exact Nat.ne_of_lt (Nat.lt_of_lt_of_le this hb)
                refine ⟨⟨j + 1, its ++ [(iv, p, D)], r, rfl, by simp [hil], by simpa using hown3, (hrv.ext (by omega) ((Ext.refl x1).alloc _)).keep (Below.mono hb3 (by omega)), ?_, by rw [hfl, hl1, List.append_assoc], ⟨by omega, HM.out⟩, by rw [hdl]; omega, by rw [hfl, List.length_append]; omega, Below.trans (Below.trans hxr (Below.mono hx2 hB0)) hb3⟩, by simp [intOf]; omega⟩
                intro u hu
                rcases List.mem_append.1 hu with hu | hu
                · refine (HT.out u hu).keep fun b hb => ?_
                  obtain ⟨g1, g2, g3⟩ := hb
                  obtain ⟨q1, q2⟩ := hap b (by omega) g3
                  exact ⟨q1.trans (hx2.block b g2), g1, by omega, q2⟩
                · simp only [List.mem_cons, List.not_mem_nil, or_false] at hu
                  subst hu
                  refine HT1.out.keep fun b hb => ?_
                  obtain ⟨g1, g2⟩ := hb
                  have hlt3 : b < (x1.alloc (.cells #[iv] 25)).heap.size := by rw [← HSZ.out]; omega
                  obtain ⟨q1, q2⟩ := hap b hlt3 (hu8 b g1)
                  exact ⟨q1.trans (Below.heap_alloc x1 _ b g2), by omega, by omega, q2⟩
            · have hjN2 : j = N := by omega
              have hji : ¬ (j : Int) < (N : Int) := by omega
              have HM : Hid (nextP (g + 1) (⟨5, (N : Int), ⟨#[]⟩, 0, 0, 0⟩ :: t) = .ok l') := Lib.hid (by rw [E.out, HMN.out, hjN2, Nat.sub_self]; rfl)
              have hcs : ∀ u ∈ its.map (·.1), u.oneCell' = true := by
                intro u hu
                obtain ⟨q, hq, rfl⟩ := List.mem_map.1 hu
                rcases (HT.out q hq).form with h | ⟨_, _, h⟩ <;> rw [h] <;> rfl
              have hsl := SlR.of_own hown
              clear hih
              go_wp2_with (go_at_call 27; refine (fromList_any _ j _ _ hsl hcs hjt).mono ?_; rintro e x1 ⟨sl', rfl, hsl', hx1⟩; have r2 := (hx1.cell (p := ⟨w.heap.size, 0, none⟩) zr).trans r1; have s2 := (hx1.frozen (p := ⟨w.heap.size, 0, none⟩) zr).trans s1; have zr2 : w.heap.size < x1.heap.size := World.block_lt_of_cell? _ _ r2)
              refine bodyPost_ret (v := .tuple #[.agg #[.iface 82 (.agg #[sl'])], u0, .int .i64 0]) ?_ rfl ⟨(hXr.trans hx1).setCell (Nat.le_refl _) _, ?_⟩
              · simp [results, Try.results33, go_sem, r2, zr2]
              · rw [HM.out]
                have hx : (⟨5, (N : Int), ⟨#[]⟩, 0, 0, 0⟩ : V) = headV its.length := by rw [hil, hjN2]; rfl
                have hs4 : ∀ b, b ≠ w.heap.size → (x1.setCell ⟨w.heap.size, 0, none⟩ (.iface 82 (.agg #[sl']))).heap[b]? = x1.heap[b]? := fun b hb => Below.heap_setCell _ _ _ _ hb
                have hx1s := hx1.size
                refine ⟨_, _, headV its.length :: flatsOf its, 1 + deepOf its, rfl, ((hlv.ext (by omega) hx1).keep ((Below.refl B x1).setCell hBw _)), ?_, by simp, ?_, by omega⟩
                · rw [hx, HTL.out]; rfl
                · refine .list sl' its ?_ fun u hu => ?_
                  · rw [hil]
                    refine (SlP.of_own hsl').keep fun b hb => ?_
                    obtain ⟨g1, g2⟩ := hb
                    exact ⟨hs4 b (by omega), by omega, by simpa using g2⟩
                  · refine (HT.out u hu).keep fun b hb => ?_
                    obtain ⟨g1, g2, _⟩ := hb
                    exact ⟨(hs4 b (by omega)).trans (hx1.block b g2), by omega, by simp; omega⟩
      · have e : nextP f (⟨k, n, s, y, m, d⟩ :: t) = .error 1 := by
          cases f <;> simp only [nextP]
          · rw [if_neg (by omega), if_neg (by omega), if_neg hR]
          · rw [if_neg (by omega), if_neg hR]
        have HRn := Lib.hid hR
        by_cases h5 : k = 5
        · subst h5
          have hd16 : ¬ (16 : Int) ≤ (deep : Int) := by omega
          clear hk5 hk5' hkr hR k0 k5
          go_wp2_with (go_at_call 47; refine (hright _).mono ?_; rintro e W' ⟨⟨b, rfl, hb⟩, hW⟩; obtain ⟨hX', r0', s0', _, _, _, _, _, _, z0', z1'⟩   := KEEP.out _ hW; obtain rfl : b = false := (by cases b; rfl; exact absurd (hb.1 rfl) HRn.out); clear hb)
          refine bodyPost_ret (v := .tuple #[.agg #[.nilIface], .slice none 0 0, .int .i64 1]) ?r rfl ⟨hX'.setCell (Nat.le_refl _) _, by first | rfl | (rw [e])⟩
          case r => simp [results, Try.results33, go_sem, r0']
        · have q1 : (k == 5) = false := beq_eq_false_iff_ne.2 h5
          clear hk5 hk5' hkr hR
          go_wp2_with (go_at_call 47; refine (hright _).mono ?_; rintro e W' ⟨⟨b, rfl, hb⟩, hW⟩; obtain ⟨hX', r0', s0', _, _, _, _, _, _, z0', z1'⟩   := KEEP.out _ hW; obtain rfl : b = false := (by cases b; rfl; exact absurd (hb.1 rfl) HRn.out); clear hb)
          refine bodyPost_ret (v := .tuple #[.agg #[.nilIface], .slice none 0 0, .int .i64 1]) ?r rfl ⟨hX'.setCell (Nat.le_refl _) _, by first | rfl | (rw [e])⟩
          case r => simp [results, Try.results33, go_sem, r0']
    · have e : nextP f (⟨k, n, s, y, m, d⟩ :: t) = .error 17 := by
        cases f <;> simp only [nextP]
        · rw [if_neg (by omega), if_pos hkr]
        · rw [if_pos hkr]
      have q0 : ¬ k = 5 := by omega
      have q1 : (k == 5) = false := beq_eq_false_iff_ne.2 q0
      rcases (by omega : k < 0 ∨ (¬ k < 0 ∧ 5 < k)) with hk0 | ⟨hk0, hk1⟩
      all_goals
        clear hk5 hk5' hkr
        go_wp2
        refine bodyPost_ret (v := .tuple #[.agg #[.nilIface], .slice none 0 0, .int .i64 17]) ?r rfl ⟨hX.setCell (Nat.le_refl _) _, by first | rfl | (rw [e])⟩
        case r => simp [results, Try.results33, go_sem, r0]

theorem next_any : ∀ (f deep : Nat), f + deep = 16 → ∀ (B : Nat) (l : List V) (v : Value) (w : World), B ≤ w.heap.size → SlC w B v l → l.length ≤ 1000000000 →
    Calls Try.prog 33 #[v, .int .i64 (deep : Int)] w (NextPost w B l (nextP f l) deep)
  | f, deep, _, B, [], v, w, _, hl, _ => next_nil v deep deep f B w hl
  | 0, deep, hf, B, x :: t, v, w, hB, hl, hm => next_cons 0 deep B hf x t v w hB hl hm fun g hg => by cases hg
  | f + 1, deep, hf, B, x :: t, v, w, hB, hl, hm => next_cons (f + 1) deep B hf x t v w hB hl hm fun g hg w v l hB hl hm => by
    obtain rfl : f = g := by omega
    exact next_any f (deep + 1) (by omega) B l v w hB hl hm
end Go.Proofs.Ytdojgdeadhhldaa
