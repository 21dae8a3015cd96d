/- The law KindDeep: the walk. -/
import Derived.Test.YtdojgdeadhhldaaKindRuns
import Derived.Test.YtdojgdeadhhldaaKindS
import Derived.Test.YtdojgdeadhhldaaWithin
import Derived.OneCell
namespace Go.Proofs.Ytdojgdeadhhldaa
open Go.RowKit

def intV (i : Nat) : V := ⟨1, (i : Int), ⟨#[]⟩, 0, 0, 0⟩
def towerL (n : Nat) : List V := List.replicate n (headV 1) ++ [intV 1]
theorem tower_of : ∀ n : Fin 41, ofP (towerL n.val) = if n.val ≤ 16 then 0 else 2 := by decide +kernel
theorem tower_len (n : Nat) : (towerL n).length = n + 1 := by simp [towerL]
def rowL (k : Nat) : List V := headV k :: (List.range k).map intV
theorem row_len (k : Nat) : (rowL k).length = k + 1 := by simp [rowL]
theorem many_ints (g : List V → Except Int (List V)) (hg : ∀ i t, g (intV i :: t) = .ok t) : ∀ (is : List Nat), manyP g is.length (is.map intV) = .ok []
  | [] => rfl
  | i :: is => by
    rw [List.length_cons, List.map_cons, manyP_step _ _ _ _ (hg i _)]
    exact many_ints g hg is
theorem next_int (f i : Nat) (t : List V) : nextP (f + 1) (intV i :: t) = .ok t := by
  have hr : RightV (intV i) := by simp [RightV, intV]
  simp only [nextP]
  rw [if_neg (by simp [intV]), if_pos hr, if_neg (by simp [intV])]
theorem next_head (f n : Nat) (t : List V) : nextP (f + 1) (headV n :: t) = manyP (nextP f) n t := by
  have hr : RightV (headV n) := by simp [RightV, headV]
  simp only [nextP]
  rw [if_neg (by simp [headV]), if_pos hr, if_pos (by simp [headV])]
  simp [headV]
theorem row_of (k : Nat) : ofP (rowL k) = if 200 < k + 1 then 2 else 0 := by
  rw [ofP, row_len]
  by_cases h : 200 < k + 1
  · rw [if_pos h, if_pos h]
  · rw [if_neg h, if_neg h]
    have e : nextP 16 (rowL k) = .ok [] := by
      have h1 := many_ints (nextP 15) (fun i t => next_int 14 i t) (List.range k)
      rw [List.length_range] at h1
      exact (next_head 15 k _).trans h1
    rw [e]
    rfl
theorem slc_ofown {w : World} {B : Nat} {v : Value} {xs : List V} (h : OwnS V.cells 6 32 w B v xs) : SlC w w.heap.size v xs := by
  obtain ⟨a, c, rfl, h1, h2⟩ := h.form
  exact ⟨a, c, rfl, h1, by unfold maxLen at h2; omega, h.rd⟩
/-- One thing that a literal slice holds. -/
theorem slr_lit1 (w : World) (T : TypeId) (v : Value) : SlR (w.alloc (.cells #[v] T)) (w.alloc (.cells #[v] T)).heap.size 1 (.slice (some ⟨w.heap.size, 0, none⟩) 1 1) 1 [v] := by
  refine ⟨rfl, by unfold maxLen; omega, _, _, rfl, .inr ⟨w.heap.size, 0, rfl, by simp, fun j hj => ?_⟩⟩
  obtain rfl : j = 0 := by omega
  rw [World.cell?_alloc_at _ _ _ _ rfl]
  rfl
theorem tower_next {w : World} {ok : Nat → Prop} {v sl : Value} {i : Nat} (hs : SlP w ok 1 sl 1 [v]) (h : Tells w ok v (towerL i) i) : Tells w ok (.iface 82 (.agg #[sl])) (towerL (i + 1)) (i + 1) := by
  have := Tells.list sl [(v, towerL i, i)] hs (fun u hu => by simp at hu; subst hu; exact h)
  have e1 : headV [(v, towerL i, i)].length :: [(v, towerL i, i)].flatMap (·.2.1) = towerL (i + 1) := by simp [towerL, List.replicate_succ]
  have e2 : 1 + deepOf [(v, towerL i, i)] = i + 1 := by simp [deepOf]; omega
  rw [e1, e2] at this
  exact this

def intT (i : Nat) : Value := .iface 71 (.int .i64 (i : Int))
def Sep (v u : Value) : Prop := ∀ a n c a' n' c', v = .slice (some a) n c → u = .slice (some a') n' c' → a.block ≠ a'.block
theorem Sep.symm {v u : Value} (h : Sep v u) : Sep u v := fun a n c a' n' c' h1 h2 => (h a' n' c' a n c h2 h1).symm
theorem own_blk {w : World} {B e s n : Nat} {u : Value} {xs : List Value} (h : w.ownsRow B e s u n xs) : ∀ a m c, u = .slice (some a) m c → a.block < w.heap.size := by
  rintro a m c rfl
  rcases h.2 with ⟨h0, _⟩ | ⟨gg, cc, cur, h0, _, h2, _⟩
  · cases h0
  · simp only [Value.slice.injEq, Option.some.injEq] at h0
    rw [h0.1]
    exact (Array.getElem?_eq_some_iff.1 h2).1
theorem own_keep {w w' : World} {B e s n : Nat} {u : Value} {xs : List Value} (h : w.ownsRow B e s u n xs) (hk : ∀ a m c, u = .slice (some a) m c → w'.heap[a.block]? = w.heap[a.block]?) : w'.ownsRow B e s u n xs := by
  obtain ⟨h1, h2⟩ := h
  refine ⟨h1, ?_⟩
  rcases h2 with h2 | ⟨gg, cc, cur, rfl, h3, h4, h5⟩
  · exact .inl h2
  · exact .inr ⟨gg, cc, cur, rfl, h3, (hk _ _ _ rfl).trans h4, h5⟩
theorem sep_step {v v' u : Value} {w w' : World} (h : Sep v u) (hap : Apart v w v' w') (hu : ∀ a m c, u = .slice (some a) m c → a.block < w.heap.size) : Sep v' u ∧ ∀ a m c, u = .slice (some a) m c → w'.heap[a.block]? = w.heap[a.block]? := by
  have key : ∀ a m c, u = .slice (some a) m c → w'.heap[a.block]? = w.heap[a.block]? ∧ notBlk v' a.block := fun a m c he =>
    hap a.block (hu a m c he) (fun a0 n0 c0 hv => h a0 n0 c0 a m c hv he)
  exact ⟨fun a n c a' n' c' hv he => (key a' n' c' he).2 a n c hv, fun a m c he => (key a m c he).1⟩
theorem own_lit (w : World) (xs : List V) (n : Nat) (cs : Array Value) (hn : n = xs.length) (hc : cs = (xs.flatMap V.cells).toArray) (hm : xs.length ≤ 1000) : OwnS V.cells 6 32 (w.alloc (.cells cs 32)) w.heap.size (.slice (some ⟨w.heap.size, 0, none⟩) n n) xs := by
  subst hn hc
  refine ⟨flat_len V.len xs, .inr ⟨w.heap.size, xs.length, _, rfl, Nat.le_refl _, heap_alloc_new w _, Nat.le_refl _, by unfold maxLen; omega, ?_, ?_⟩⟩
  · simp only [List.size_toArray]; exact flat_len V.len xs
  · rw [← flat_len V.len xs]; exact List.take_length
theorem deep_ints : ∀ is : List Nat, deepOf (is.map fun j => (intT j, [intV j], 0)) = 0
  | [] => rfl
  | i :: is => by rw [List.map_cons, deepOf, deep_ints is]; rfl
theorem row_tells {w : World} {sl : Value} {k : Nat} (h : SlR w w.heap.size 1 sl k ((List.range k).map intT)) : TellsB w w.heap.size (.iface 82 (.agg #[sl])) (rowL k) 1 := by
  have h' : SlP w (fun b => b < w.heap.size) 1 sl k ((List.range k).map intT) := h
  have := Tells.list (w := w) (ok := fun b => b < w.heap.size) sl ((List.range k).map fun j => (intT j, [intV j], 0)) (by simpa [Function.comp_def] using h') (fun u hu => by
    obtain ⟨j, _, rfl⟩ := List.mem_map.1 hu
    exact .one _ _ (.int _))
  rw [deep_ints] at this
  have e1 : headV ((List.range k).map fun j => (intT j, [intV j], 0)).length :: ((List.range k).map fun j => (intT j, [intV j], (0 : Nat))).flatMap (·.2.1) = rowL k := by
    simp [rowL, List.flatMap_map, List.flatMap_singleton']
    rw [List.map_eq_flatMap]
  rw [e1] at this
  exact this

set_option maxHeartbeats 16000000 in
set_option maxRecDepth 100000 in
theorem deepLaw_any (d wd : Int) (hd : -9223372036854775808 ≤ d ∧ d ≤ 9223372036854775807) (hwd : -9223372036854775808 ≤ wd ∧ wd ≤ 9223372036854775807) (w : World) : Calls Try.prog 7 #[.int .i64 d, .int .i64 wd] w fun e w' => e = .returned (.bool true) ∧ Ext w w' := by
  obtain ⟨i0, hi, iz0, iz1, iz2⟩ := info_parts Try.infoV
  obtain ⟨j0, ji, jz0, jz1, jz2⟩ := info_parts Try.infoThing
  have hb1 := withI_bd d 0 40 (by omega)
  have hb2 := withI_bd wd 0 300 (by omega)
  have hw1 := within_any d 0 40
  have hw2 := within_any wd 0 300
  generalize withI d 0 40 = n' at *
  generalize withI wd 0 300 = k' at *
  obtain ⟨n, rfl⟩ := Int.eq_ofNat_of_zero_le hb1.1
  obtain ⟨k, rfl⟩ := Int.eq_ofNat_of_zero_le hb2.1
  have hn : n ≤ 40 := by omega
  have hk : k ≤ 300 := by omega
  have HW1 := Lib.hid hw1
  have HW2 := Lib.hid hw2
  clear hw1 hw2 hb1 hb2
  go_enter Try.func7, Try.ntmps7
  go_wp2_with (first
    | (go_at_call 28; with_reducible refine (HW1.out _ (by omega) (by omega) (by omega)).mono ?_; rintro e y ⟨rfl, rfl⟩)
    | (go_at_call 13; (refine (fromInt_any _ _).mono ?_); rintro e x0 ⟨rfl, hx0⟩))
  have hX0 : Ext w (x0.alloc (.cells #[.iface 71 (.int .i64 1)] 25)) := hx0.alloc _
  have hc0 : (x0.alloc (.cells #[.iface 71 (.int .i64 1)] 25)).cell? ⟨x0.heap.size, 0, none⟩ = some (.iface 71 (.int .i64 1)) := by simp [go_sem]
  have hf0 : (x0.alloc (.cells #[.iface 71 (.int .i64 1)] 25)).frozen? ⟨x0.heap.size, 0, none⟩ = false := by simp [go_sem]
  have hs0 : x0.heap.size + 1 = (x0.alloc (.cells #[.iface 71 (.int .i64 1)] 25)).heap.size := by simp
  have hwx := hx0.size
  generalize (x0.alloc (.cells #[.iface 71 (.int .i64 1)] 25)) = W at *
  have HS0 := Lib.hid hs0
  clear hs0
  go_loopw [6, 8] (fun lv iv wr => ∃ (i : Nat) (v : Value), i ≤ n ∧ iv = .int .i64 (i : Int) ∧ OwnS V.cells 6 32 wr (x0.heap.size + 1) lv (List.replicate i (headV 1)) ∧ wr.cell? ⟨x0.heap.size, 0, none⟩ = some v ∧ wr.frozen? ⟨x0.heap.size, 0, none⟩ = false ∧
    Tells wr (fun b => x0.heap.size + 1 ≤ b ∧ b < wr.heap.size ∧ notBlk lv b) v (towerL i) i ∧ Ext w wr ∧ x0.heap.size + 1 ≤ wr.heap.size) (fun _ iv _ => n - (intOf iv).toNat)
  case atStart => exact ⟨0, _, Nat.zero_le _, rfl, World.ownsRow_nil _ _ _ _, hc0, hf0, .one _ _ (.int 1), hX0, by rw [HS0.out]; exact Nat.le_refl _⟩
  case round =>
    obtain ⟨i, v, hin, rfl, hown, hcv, hfv, ht, hxr, hsz⟩ := hrel
    clear hc0 hf0 hX0 hx0
    have HT := Lib.hid ht
    have hzr : x0.heap.size < wr.heap.size := World.block_lt_of_cell? _ _ hcv
    have h1v : v.oneCell' = true := ht.cell1
    have hform := ht.form
    clear ht
    by_cases hlt : i < n
    · have hii : (i : Int) < (n : Int) := by omega
      go_wp2_with (at_builtin; refine wpList_own_push2 (w := wr) rfl _ _ 33 rfl (x0.heap.size + 1) 32 32 i0 _ 6 56 Try.underlying33 hi iz0 iz1 iz2 rfl (by decide) _ _ 1 1 _ [.int .i64 5, .int .i64 1, .string ⟨#[]⟩, .int .i64 0, .int .i64 0, .int .i64 0] hown rfl rfl rfl rfl ?c2 ?c3 ?c4 hsz ?_)
      case c2 => intro u hu; simp only [List.mem_cons, List.not_mem_nil, or_false] at hu; rcases hu with rfl | rfl | rfl | rfl | rfl | rfl <;> rfl
      case c3 => rw [List.length_replicate]; unfold maxLen; omega
      case c4 => rw [List.length_replicate]; omega
      intro v' w2 hown2 hb2 hap
      have hown3 : OwnS V.cells 6 32 w2 (x0.heap.size + 1) v' (List.replicate (i + 1) (headV 1)) := by
        unfold OwnS
        rw [List.replicate_succ', List.length_append, List.flatMap_append]
        simpa [V.cells, headV] using hown2
      have hb2s := hb2.size
      have c2 := (hb2.cell (p := ⟨x0.heap.size, 0, none⟩) (Nat.lt_succ_self _)).trans hcv
      have f2 := (hb2.frozen (p := ⟨x0.heap.size, 0, none⟩) (Nat.lt_succ_self _)).trans hfv
      have T2 : Hid (Tells w2 (fun b => x0.heap.size + 1 ≤ b ∧ b < w2.heap.size ∧ notBlk v' b) v (towerL i) i) := Lib.hid (HT.out.keep fun b hb => by
        obtain ⟨g1, g2, g3⟩ := hb
        obtain ⟨q1, q2⟩ := hap b g2 g3
        exact ⟨q1, g1, by omega, q2⟩)
      have hX2 : Ext w w2 := Below.trans hxr (Below.mono hb2 (by omega))
      have hl1 := slr_lit1 w2 25 v
      have hz2' : x0.heap.size < w2.heap.size := by omega
      have HU : Hid (∀ b, w2.heap.size ≤ b → notBlk v' b) := Lib.hid (by
        intro b hb a n c he
        subst he
        rcases hown3.2 with ⟨h0, _⟩ | ⟨gg, cc, cur, h0, _, h2, _⟩
        · cases h0
        · simp only [Value.slice.injEq, Option.some.injEq] at h0
          have := (Array.getElem?_eq_some_iff.1 h2).1
          rw [h0.1]
          exact Nat.ne_of_lt (Nat.lt_of_lt_of_le this hb))
      clear hown hown2
      go_wp2_with (go_at_call 27; (refine (fromList_any _ 1 [v] _ hl1 (by intro u hu; simp at hu; subst hu; exact h1v) (by omega)).mono ?_); rintro e x3 ⟨sl', rfl, hsl, hx3⟩; have c3 : x3.cell? ⟨x0.heap.size, 0, none⟩ = some v := (hx3.cell (p := ⟨x0.heap.size, 0, none⟩) (by simp; omega)).trans (by simp [go_sem, hz2', c2]); have f3 : x3.frozen? ⟨x0.heap.size, 0, none⟩ = false := (hx3.frozen (p := ⟨x0.heap.size, 0, none⟩) (by simp; omega)).trans (by simp [go_sem, hz2', f2]))
      go_roundw
      case rel =>
        have hx3' : Ext w2 x3 := Ext.trans ((Ext.refl w2).alloc _) hx3
        have hx3s := hx3'.size
        have hs4 : ∀ b, b ≠ x0.heap.size → (x3.setCell ⟨x0.heap.size, 0, none⟩ (.iface 82 (.agg #[sl']))).heap[b]? = x3.heap[b]? := fun b hb => Below.heap_setCell _ _ _ _ hb
        have hz3 : x0.heap.size < x3.heap.size := by omega
        refine ⟨i + 1, _, by omega, by simp, ?_, by simp [go_sem, hz3, c3], by simp [go_sem, hz3, f3], tower_next (i := i) ((SlP.of_own hsl).keep fun b hb => ?_) (T2.out.keep fun b hb => ?_), (hX2.trans hx3').setCell (by omega) _, by simp; omega⟩
        · exact ownsRow_setCell_below (own_ext hown3 hx3') (a := ⟨x0.heap.size, 0, none⟩) (Nat.lt_succ_self _) _
        · obtain ⟨g1, g2⟩ := hb
          have g1' : w2.heap.size + 1 ≤ b := by simpa using g1
          exact ⟨hs4 b (by omega), by omega, by simpa using g2, HU.out b (by omega)⟩
        · obtain ⟨g1, g2, g3⟩ := hb
          exact ⟨(hs4 b (by omega)).trans (hx3'.block b g2), g1, by simp; omega, g3⟩
      case measure => simp [intOf]; omega
    · have hii : ¬ (i : Int) < (n : Int) := by omega
      have hin2 : i = n := by omega
      obtain rfl := hin2
      have htw := tower_of ⟨i, by omega⟩
      simp only [] at htw
      have hcase : (i ≤ 16 ∧ flatOk 0 (towerL i).length 0 i = true ∧ ofP (towerL i) = 0) ∨ (16 < i ∧ flatOk 0 (towerL i).length 0 i = false ∧ ofP (towerL i) = 2) := by
        by_cases h : i ≤ 16
        · exact .inl ⟨h, by rw [tower_len]; simp [flatOk]; omega, by rw [htw, if_pos h]⟩
        · exact .inr ⟨by omega, by rw [tower_len]; simp [flatOk]; omega, by rw [htw, if_neg h]⟩
      have hcaseR : (200 < k + 1 ∧ flatOk 0 (rowL k).length 0 1 = false ∧ ofP (rowL k) = 2) ∨ (k + 1 ≤ 200 ∧ flatOk 0 (rowL k).length 0 1 = true ∧ ofP (rowL k) = 0) := by
        rw [row_len, row_of]
        by_cases h : 200 < k + 1
        · exact .inl ⟨h, by simp [flatOk]; omega, by rw [if_pos h]⟩
        · exact .inr ⟨by omega, by simp [flatOk]; omega, by rw [if_neg h]⟩
      have HR := Lib.hid hcaseR
      clear htw hcaseR
      go_wp2_with (at_builtin; refine wpList_own_push2 (w := wr) rfl _ _ 33 rfl (x0.heap.size + 1) 32 32 i0 _ 6 56 Try.underlying33 hi iz0 iz1 iz2 rfl (by decide) _ _ 1 1 _ [.int .i64 1, .int .i64 1, .string ⟨#[]⟩, .int .i64 0, .int .i64 0, .int .i64 0] hown rfl rfl rfl rfl ?c2 ?c3 ?c4 hsz ?_)
      case c2 => exact ⟨rfl, rfl, rfl⟩
      case c3 => unfold maxLen; omega
      case c4 => omega
      intro v' w2 hown2 hb2 hap
      have hown3 : OwnS V.cells 6 32 w2 (x0.heap.size + 1) v' (towerL i) := by
        unfold OwnS towerL
        rw [List.length_append, List.flatMap_append]
        simpa [V.cells, intV] using hown2
      have hb2s := hb2.size
      have c2 := (hb2.cell (p := ⟨x0.heap.size, 0, none⟩) (Nat.lt_succ_self _)).trans hcv
      have T2 : Hid (TellsB w2 w2.heap.size v (towerL i) i) := Lib.hid (HT.out.keep fun b hb => by
        obtain ⟨g1, g2, g3⟩ := hb
        exact ⟨(hap b g2 g3).1, by show b < w2.heap.size; omega⟩)
      have hX2 : Ext w w2 := Below.trans hxr (Below.mono hb2 (by omega))
      have hzx : x0.heap.size < w2.heap.size := by omega
      have HO := Lib.hid hown3
      obtain ⟨av, cv, rfl, _, _⟩ := hown3.form
      clear hown hown2 hown3 hap hb2 hcv hfv hxr
      have hlt2 : (towerL i).length ≤ 1000 := by rw [tower_len]; omega
      have KZ : Hid (∀ z, Ext w2 z → z.cell? ⟨x0.heap.size, 0, none⟩ = some v) := Lib.hid (fun z h => (h.cell (p := ⟨x0.heap.size, 0, none⟩) hzx).trans c2)
      rcases hcase with ⟨h16, hok, hof⟩ | ⟨h16, hok, hof⟩
      · have h16i : (i : Int) ≤ 16 := by omega
        go_wp2_with (first
          | (go_at_call 23; (refine (flat_yes _ T2.out hok).mono ?_); rintro e z1 ⟨m1, rfl, ho1, hz1⟩; have kz1 := KZ.out _ hz1)
          | (go_at_call 10; (refine (of_ok (towerL i) _ z1.heap.size z1 (Nat.le_refl _) (slc_ofown (HO.out.ext hz1)) hof).mono ?_); rintro e z2 ⟨iv, D, rfl, t1, _, hz2⟩; have st2 : (store ⟨z2.heap.size, 0, none⟩ iv).run Try.prog (z2.alloc (.cells #[.nilIface] 25)) = .ok () (z2.alloc (.cells #[iv] 25)) := (by rcases t1.form with rfl | ⟨_, _, rfl⟩ <;> simp [go_sem]); have hZ2 : Ext z1 (z2.alloc (.cells #[iv] 25)) := hz2.alloc _; clear t1)
          | (go_at_call 24; (refine (sameV _ _ (towerL i) (towerL i) true ⟨fun _ => rfl, fun _ => rfl⟩ _ (ho1.rd.ext hZ2) ((HO.out.ext (hz1.trans hZ2)).rd) (by omega) (by omega)).mono ?_); rintro e z9 ⟨rfl, hz9⟩; have hZ9 : Ext w z9 := hX2.trans ((hz1.trans hZ2).trans hz9))
          | (go_at_call 28; with_reducible refine (HW2.out _ (by omega) (by omega) (by omega)).mono ?_; rintro e y ⟨rfl, rfl⟩))
        have hZ10 : Ext w (z9.alloc (.cells #[.int .i64 5, .int .i64 (k : Int), .string ⟨#[]⟩, .int .i64 0, .int .i64 0, .int .i64 0] 32)) := hZ9.alloc _
        have hrow := own_lit z9 [headV k] 1 #[.int .i64 5, .int .i64 (k : Int), .string ⟨#[]⟩, .int .i64 0, .int .i64 0, .int .i64 0] rfl rfl (by simp)
        have hzz : z9.heap.size ≤ (z9.alloc (.cells #[.int .i64 5, .int .i64 (k : Int), .string ⟨#[]⟩, .int .i64 0, .int .i64 0, .int .i64 0] 32)).heap.size := by simp
        have hzw := hZ9.size
        generalize (z9.alloc (.cells #[.int .i64 5, .int .i64 (k : Int), .string ⟨#[]⟩, .int .i64 0, .int .i64 0, .int .i64 0] 32)) = Z at *
        go_loopw [14, 15, 16] (fun rv fv iv wq => ∃ q : Nat, q ≤ k ∧ iv = .int .i64 (q : Int) ∧ OwnS V.cells 6 32 wq z9.heap.size rv (headV k :: (List.range q).map intV) ∧ wq.ownsRow z9.heap.size 25 1 fv q ((List.range q).map intT) ∧ Sep rv fv ∧ Ext w wq ∧ z9.heap.size ≤ wq.heap.size) (fun _ _ iv _ => k - (intOf iv).toNat)
        case atStart => exact ⟨0, Nat.zero_le _, rfl, hrow, World.ownsRow_nil _ _ _ _, fun a n c a' n' c' _ h2 => (by cases h2), hZ10, hzz⟩
        case round =>
          rename World => wq
          obtain ⟨q, hq, rfl, hor, hof2, hsep, hxq, hsq⟩ := hrel
          clear hrow
          have hrl : (headV k :: (List.range q).map intV).length = q + 1 := by simp
          by_cases hqk : q < k
          · have hqi : (q : Int) < (k : Int) := by omega
            have hor' := hor
            unfold OwnS at hor'
            rw [hrl] at hor'
            go_wp2_with (first
              | (at_builtin; refine wpList_own_push2 (w := wq) rfl _ _ 33 rfl z9.heap.size 32 32 i0 _ 6 56 Try.underlying33 hi iz0 iz1 iz2 rfl (by decide) _ (q + 1) 1 1 _ [.int .i64 1, .int .i64 (q : Int), .string ⟨#[]⟩, .int .i64 0, .int .i64 0, .int .i64 0] hor' rfl rfl rfl rfl ?c2 ?c3 ?c4 hsq ?_))
            case c2 => intro u hu; simp only [List.mem_cons, List.not_mem_nil, or_false] at hu; rcases hu with rfl | rfl | rfl | rfl | rfl | rfl <;> rfl
            case c3 => unfold maxLen; omega
            case c4 => omega
            intro rv' w4 ho4 hb4 hap4
            obtain ⟨hsep4, hk4⟩ := sep_step hsep hap4 (own_blk hof2)
            have hof4 := own_keep hof2 hk4
            have ho4' : OwnS V.cells 6 32 w4 z9.heap.size rv' (headV k :: (List.range (q + 1)).map intV) := by
              unfold OwnS
              rw [List.range_succ, List.map_append, ← List.cons_append, List.length_append, List.flatMap_append, hrl]
              simpa [V.cells, intV] using ho4
            have hX4 : Ext w w4 := Below.trans hxq (Below.mono hb4 hzw)
            have hb4s := hb4.size
            clear hor hor' hof2 hsep ho4
            have hqm : q ≤ 300 := by omega
            go_wp2_with (first
              | (go_at_call 13; (refine (fromInt_any _ _).mono ?_); rintro e w5 ⟨rfl, hx5⟩; have hof5 := own_ext hof4 hx5; have hx5s := hx5.size)
              | (at_builtin; refine wpList_own_push2 (w := w5) rfl _ _ 34 rfl z9.heap.size 25 25 j0 _ 1 16 Try.underlying34 ji jz0 jz1 jz2 rfl (by decide) _ q 1 1 _ [intT q] hof5 rfl rfl rfl rfl ?c2 ?c3 ?c4 ?c5 ?_))
            case c2 => intro u hu; simp only [List.mem_cons, List.not_mem_nil, or_false] at hu; rw [hu]; rfl
            case c3 => unfold maxLen; omega
            case c4 => omega
            case c5 => omega
            intro fv' w6 ho6 hb6 hap6
            obtain ⟨hsep6, hk6⟩ := sep_step hsep4.symm hap6 (own_blk (own_ext ho4' hx5))
            have ho6' := own_keep (own_ext ho4' hx5) hk6
            have hb6s := hb6.size
            go_wp2_with fail
            go_roundw
            case rel => exact ⟨q + 1, by omega, by simp, ho6', by rw [List.range_succ, List.map_append]; exact ho6, hsep6.symm, Below.trans (hX4.trans hx5) (Below.mono hb6 hzw), by omega⟩
            case measure => simp [intOf]; omega
          · have hqi : ¬ (q : Int) < (k : Int) := by omega
            have hqk2 : q = k := by omega
            obtain rfl := hqk2
            have hcs : ∀ u ∈ (List.range q).map intT, u.oneCell' = true := by
              intro u hu
              obtain ⟨j, _, rfl⟩ := List.mem_map.1 hu
              rfl
            have hsl2 := SlR.of_own hof2
            obtain ⟨ar, cr, hform2, _, _⟩ := hor.form
            rw [hrl] at hform2
            subst hform2
            have HOR : Hid (OwnS V.cells 6 32 wq z9.heap.size (.slice ar (q + 1) cr) (rowL q)) := Lib.hid hor
            clear hor hof2 hsep
            have hrl2 := row_len q
            rcases HR.out with ⟨hk200, hokR, hofR⟩ | ⟨hk200, hokR, hofR⟩
            · have hki : (200 : Int) < (q : Int) + 1 := by omega
              have HOK := Lib.hid hokR
              have HOF := Lib.hid hofR
              clear hokR hofR
              go_wp2_with (first
                | (go_at_call 27; (refine (fromList_any _ q _ _ hsl2 hcs (by omega)).mono ?_); rintro e y1 ⟨sl2, rfl, hsl3, hy1⟩; have TR := row_tells (SlR.of_own hsl3))
                | (go_at_call 23; (refine (flat_no _ TR HOK.out).mono ?_); rintro e y2 ⟨rfl, hy2⟩)
                | (go_at_call 10; (refine (of_err (rowL q) 2 _ y2.heap.size y2 (Nat.le_refl _) (slc_ofown (HOR.out.ext (hy1.trans hy2))) HOF.out (by decide)).mono ?_); rintro e y3 ⟨rfl, hy3⟩)
                | (go_at_call 3; refine (kindRuns_any _).mono ?_; rintro e y4 ⟨rfl, hy4⟩))
              go_ret
              exact ⟨rfl, hxq.trans (hy1.trans (hy2.trans (hy3.trans hy4)))⟩
            · have hki : ¬ (200 : Int) < (q : Int) + 1 := by omega
              have HOK := Lib.hid hokR
              have HOF := Lib.hid hofR
              clear hokR hofR
              go_wp2_with (first
                | (go_at_call 27; (refine (fromList_any _ q _ _ hsl2 hcs (by omega)).mono ?_); rintro e y1 ⟨sl2, rfl, hsl3, hy1⟩; have TR := row_tells (SlR.of_own hsl3))
                | (go_at_call 23; (refine (flat_yes _ TR HOK.out).mono ?_); rintro e y2 ⟨m5, rfl, ho5, hy2⟩)
                | (go_at_call 10; (refine (of_ok (rowL q) _ y2.heap.size y2 (Nat.le_refl _) (slc_ofown (HOR.out.ext (hy1.trans hy2))) HOF.out).mono ?_); rintro e y3 ⟨iv3, D3, rfl, _, _, hy3⟩)
                | (go_at_call 24; (refine (sameV _ _ (rowL q) (rowL q) true ⟨fun _ => rfl, fun _ => rfl⟩ _ (ho5.rd.ext hy3) ((HOR.out.ext (hy1.trans (hy2.trans hy3))).rd) (by omega) (by omega)).mono ?_); rintro e y5 ⟨rfl, hy5⟩)
                | (go_at_call 3; refine (kindRuns_any _).mono ?_; rintro e y4 ⟨rfl, hy4⟩))
              go_ret
              exact ⟨rfl, hxq.trans (hy1.trans (hy2.trans (hy3.trans (hy5.trans hy4))))⟩
      · have h16i : ¬ (i : Int) ≤ 16 := by omega
        have hsf : Hid (∀ z, Ext w2 z → Calls Try.prog 12 #[.agg #[v], .agg #[v]] z fun e w' => e = .returned (.bool false) ∧ Ext z w') := Lib.hid (fun z h => kindSame_any v v _ _ _ _ false ⟨fun h => (by cases h), fun h => (by rw [hok] at h; exact absurd h.1 (by decide))⟩ z (T2.out.ext h) (T2.out.ext h))
        go_wp2_with (first
          | (go_at_call 23; (refine (flat_no _ T2.out hok).mono ?_); rintro e z1 ⟨rfl, hz1⟩; have kz1 := KZ.out _ hz1)
          | (go_at_call 10; (refine (of_err (towerL i) 2 _ z1.heap.size z1 (Nat.le_refl _) (slc_ofown (HO.out.ext hz1)) hof (by decide)).mono ?_); rintro e z2 ⟨rfl, hz2⟩; have hZ2 : Ext z1 (z2.alloc (.cells #[.nilIface] 25)) := hz2.alloc _; have kz2 := KZ.out _ (hz1.trans hz2); have kz2s := World.block_lt_of_cell? _ _ kz2)
          | (go_at_call 12; with_reducible refine (hsf.out _ (hz1.trans hZ2)).mono ?_; rintro e z9 ⟨rfl, hz9⟩; have hZ9 : Ext w z9 := hX2.trans ((hz1.trans hZ2).trans hz9))
          | (go_at_call 28; with_reducible refine (HW2.out _ (by omega) (by omega) (by omega)).mono ?_; rintro e y ⟨rfl, rfl⟩))
        have hZ10 : Ext w (z9.alloc (.cells #[.int .i64 5, .int .i64 (k : Int), .string ⟨#[]⟩, .int .i64 0, .int .i64 0, .int .i64 0] 32)) := hZ9.alloc _
        have hrow := own_lit z9 [headV k] 1 #[.int .i64 5, .int .i64 (k : Int), .string ⟨#[]⟩, .int .i64 0, .int .i64 0, .int .i64 0] rfl rfl (by simp)
        have hzz : z9.heap.size ≤ (z9.alloc (.cells #[.int .i64 5, .int .i64 (k : Int), .string ⟨#[]⟩, .int .i64 0, .int .i64 0, .int .i64 0] 32)).heap.size := by simp
        have hzw := hZ9.size
        generalize (z9.alloc (.cells #[.int .i64 5, .int .i64 (k : Int), .string ⟨#[]⟩, .int .i64 0, .int .i64 0, .int .i64 0] 32)) = Z at *
        go_loopw [14, 15, 16] (fun rv fv iv wq => ∃ q : Nat, q ≤ k ∧ iv = .int .i64 (q : Int) ∧ OwnS V.cells 6 32 wq z9.heap.size rv (headV k :: (List.range q).map intV) ∧ wq.ownsRow z9.heap.size 25 1 fv q ((List.range q).map intT) ∧ Sep rv fv ∧ Ext w wq ∧ z9.heap.size ≤ wq.heap.size) (fun _ _ iv _ => k - (intOf iv).toNat)
        case atStart => exact ⟨0, Nat.zero_le _, rfl, hrow, World.ownsRow_nil _ _ _ _, fun a n c a' n' c' _ h2 => (by cases h2), hZ10, hzz⟩
        case round =>
          rename World => wq
          obtain ⟨q, hq, rfl, hor, hof2, hsep, hxq, hsq⟩ := hrel
          clear hrow
          have hrl : (headV k :: (List.range q).map intV).length = q + 1 := by simp
          by_cases hqk : q < k
          · have hqi : (q : Int) < (k : Int) := by omega
            have hor' := hor
            unfold OwnS at hor'
            rw [hrl] at hor'
            go_wp2_with (first
              | (at_builtin; refine wpList_own_push2 (w := wq) rfl _ _ 33 rfl z9.heap.size 32 32 i0 _ 6 56 Try.underlying33 hi iz0 iz1 iz2 rfl (by decide) _ (q + 1) 1 1 _ [.int .i64 1, .int .i64 (q : Int), .string ⟨#[]⟩, .int .i64 0, .int .i64 0, .int .i64 0] hor' rfl rfl rfl rfl ?c2 ?c3 ?c4 hsq ?_))
            case c2 => intro u hu; simp only [List.mem_cons, List.not_mem_nil, or_false] at hu; rcases hu with rfl | rfl | rfl | rfl | rfl | rfl <;> rfl
            case c3 => unfold maxLen; omega
            case c4 => omega
            intro rv' w4 ho4 hb4 hap4
            obtain ⟨hsep4, hk4⟩ := sep_step hsep hap4 (own_blk hof2)
            have hof4 := own_keep hof2 hk4
            have ho4' : OwnS V.cells 6 32 w4 z9.heap.size rv' (headV k :: (List.range (q + 1)).map intV) := by
              unfold OwnS
              rw [List.range_succ, List.map_append, ← List.cons_append, List.length_append, List.flatMap_append, hrl]
              simpa [V.cells, intV] using ho4
            have hX4 : Ext w w4 := Below.trans hxq (Below.mono hb4 hzw)
            have hb4s := hb4.size
            clear hor hor' hof2 hsep ho4
            have hqm : q ≤ 300 := by omega
            go_wp2_with (first
              | (go_at_call 13; (refine (fromInt_any _ _).mono ?_); rintro e w5 ⟨rfl, hx5⟩; have hof5 := own_ext hof4 hx5; have hx5s := hx5.size)
              | (at_builtin; refine wpList_own_push2 (w := w5) rfl _ _ 34 rfl z9.heap.size 25 25 j0 _ 1 16 Try.underlying34 ji jz0 jz1 jz2 rfl (by decide) _ q 1 1 _ [intT q] hof5 rfl rfl rfl rfl ?c2 ?c3 ?c4 ?c5 ?_))
            case c2 => intro u hu; simp only [List.mem_cons, List.not_mem_nil, or_false] at hu; rw [hu]; rfl
            case c3 => unfold maxLen; omega
            case c4 => omega
            case c5 => omega
            intro fv' w6 ho6 hb6 hap6
            obtain ⟨hsep6, hk6⟩ := sep_step hsep4.symm hap6 (own_blk (own_ext ho4' hx5))
            have ho6' := own_keep (own_ext ho4' hx5) hk6
            have hb6s := hb6.size
            go_wp2_with fail
            go_roundw
            case rel => exact ⟨q + 1, by omega, by simp, ho6', by rw [List.range_succ, List.map_append]; exact ho6, hsep6.symm, Below.trans (hX4.trans hx5) (Below.mono hb6 hzw), by omega⟩
            case measure => simp [intOf]; omega
          · have hqi : ¬ (q : Int) < (k : Int) := by omega
            have hqk2 : q = k := by omega
            obtain rfl := hqk2
            have hcs : ∀ u ∈ (List.range q).map intT, u.oneCell' = true := by
              intro u hu
              obtain ⟨j, _, rfl⟩ := List.mem_map.1 hu
              rfl
            have hsl2 := SlR.of_own hof2
            obtain ⟨ar, cr, hform2, _, _⟩ := hor.form
            rw [hrl] at hform2
            subst hform2
            have HOR : Hid (OwnS V.cells 6 32 wq z9.heap.size (.slice ar (q + 1) cr) (rowL q)) := Lib.hid hor
            clear hor hof2 hsep
            have hrl2 := row_len q
            rcases HR.out with ⟨hk200, hokR, hofR⟩ | ⟨hk200, hokR, hofR⟩
            · have hki : (200 : Int) < (q : Int) + 1 := by omega
              have HOK := Lib.hid hokR
              have HOF := Lib.hid hofR
              clear hokR hofR
              go_wp2_with (first
                | (go_at_call 27; (refine (fromList_any _ q _ _ hsl2 hcs (by omega)).mono ?_); rintro e y1 ⟨sl2, rfl, hsl3, hy1⟩; have TR := row_tells (SlR.of_own hsl3))
                | (go_at_call 23; (refine (flat_no _ TR HOK.out).mono ?_); rintro e y2 ⟨rfl, hy2⟩)
                | (go_at_call 10; (refine (of_err (rowL q) 2 _ y2.heap.size y2 (Nat.le_refl _) (slc_ofown (HOR.out.ext (hy1.trans hy2))) HOF.out (by decide)).mono ?_); rintro e y3 ⟨rfl, hy3⟩)
                | (go_at_call 3; refine (kindRuns_any _).mono ?_; rintro e y4 ⟨rfl, hy4⟩))
              go_ret
              exact ⟨rfl, hxq.trans (hy1.trans (hy2.trans (hy3.trans hy4)))⟩
            · have hki : ¬ (200 : Int) < (q : Int) + 1 := by omega
              have HOK := Lib.hid hokR
              have HOF := Lib.hid hofR
              clear hokR hofR
              go_wp2_with (first
                | (go_at_call 27; (refine (fromList_any _ q _ _ hsl2 hcs (by omega)).mono ?_); rintro e y1 ⟨sl2, rfl, hsl3, hy1⟩; have TR := row_tells (SlR.of_own hsl3))
                | (go_at_call 23; (refine (flat_yes _ TR HOK.out).mono ?_); rintro e y2 ⟨m5, rfl, ho5, hy2⟩)
                | (go_at_call 10; (refine (of_ok (rowL q) _ y2.heap.size y2 (Nat.le_refl _) (slc_ofown (HOR.out.ext (hy1.trans hy2))) HOF.out).mono ?_); rintro e y3 ⟨iv3, D3, rfl, _, _, hy3⟩)
                | (go_at_call 24; (refine (sameV _ _ (rowL q) (rowL q) true ⟨fun _ => rfl, fun _ => rfl⟩ _ (ho5.rd.ext hy3) ((HOR.out.ext (hy1.trans (hy2.trans hy3))).rd) (by omega) (by omega)).mono ?_); rintro e y5 ⟨rfl, hy5⟩)
                | (go_at_call 3; refine (kindRuns_any _).mono ?_; rintro e y4 ⟨rfl, hy4⟩))
              go_ret
              exact ⟨rfl, hxq.trans (hy1.trans (hy2.trans (hy3.trans (hy5.trans hy4))))⟩
end Go.Proofs.Ytdojgdeadhhldaa
