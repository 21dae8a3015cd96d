/- Package kind: flat. -/
import Derived.Test.YtdojgdeadhhldaaKindC
namespace Go.Proofs.Ytdojgdeadhhldaa
open Go.RowKit

set_option maxHeartbeats 4000000 in
set_option maxRecDepth 100000 in
theorem flat_any {w0 : World} {B : Nat} {v : Value} {L : List V} {D : Nat} (h : TellsB w0 B v L D) : ∀ (w : World) (B0 : Nat) (out : Value) (xs : List V) (deep : Nat) (di : Int), di = (deep : Int) → Below B w0 w → B ≤ B0 → B0 ≤ w.heap.size → OwnS V.cells 6 32 w B0 out xs → xs.length ≤ 200 → deep ≤ 16 →
    Calls Try.prog 39 #[out, .agg #[v], .int .i64 di] w (FlatPost w B0 xs L (flatOk xs.length L.length deep D)) := by
  obtain ⟨i0, hi, hz0, hz1, hz2⟩ := info_parts Try.infoV
  induction h with
  | one v x hx =>
    rintro w B0 out xs deep _ rfl hw hB hB0 ho hxl hd
    obtain ⟨ao, co, rfl, _, _⟩ := ho.form
    by_cases h200 : xs.length < 200
    · have hok : flatOk xs.length [x].length deep 0 = true := by simp [flatOk]; omega
      rw [hok]
      have hl : (xs.length : Int) < 200 := by omega
      clear hok
      go_enter Try.func39, Try.ntmps39
      go_wp2_with (first
        | (go_at_call 34; refine (innerV_any _ _ hx _).mono ?_; rintro e x9 ⟨rfl, hx9⟩; have f0 : x9.cell? ⟨w.heap.size, 0, none⟩ = some v := (by rw [hx9.cell (by simp)]; simp [go_sem]); have h1 : w.heap.size < x9.heap.size := World.block_lt_of_cell? _ _ f0)
        | (go_at_call 48; refine (oneV_any _ _ hx _).mono ?_; rintro e y9 ⟨rfl, hy9⟩; have hY : Ext w y9 := Ext.trans ((Ext.refl w).alloc _) (hx9.trans hy9); have hoY := ho.ext hY; have hBY : B0 ≤ y9.heap.size := Nat.le_trans hB0 hY.size; simp only [V.val, headV])
        | (at_builtin; refine wpList_own_push (w := y9) rfl _ _ 33 rfl B0 32 32 i0 _ 6 56 Try.underlying33 hi hz0 hz1 hz2 rfl (by decide) _ _ 1 1 _ x.cells hoY rfl rfl rfl rfl ?c2 ?c3 ?c4 hBY ?_))
      case c2 => exact fun u hu => V.one [x] u (by simpa using hu)
      case c3 => unfold maxLen; omega
      case c4 => omega
      intro v' w2 hown hb
      have hown2 : OwnS V.cells 6 32 w2 B0 v' (xs ++ [x]) := by
        unfold OwnS
        rw [List.length_append, List.flatMap_append]
        simpa using hown
      clear hown
      have hX : Below B0 w w2 := Below.trans (Below.mono hY hB0) hb
      obtain ⟨av, cv, rfl, _, _⟩ := hown2.form
      go_wp2
      refine wp_loop_rounds 1 ?_
      rw [rounds_succ]
      go_wp2
      go_ret2
      exact ⟨_, rfl, fun _ => hown2, fun h => (by cases h), hX⟩
    · have hok : flatOk xs.length [x].length deep 0 = false := by simp [flatOk]; omega
      rw [hok]
      have hl : ¬ (xs.length : Int) < 200 := by omega
      clear hok
      go_enter Try.func39, Try.ntmps39
      go_wp2_with (go_at_call 34; refine (innerV_any _ _ hx _).mono ?_; rintro e x9 ⟨rfl, hx9⟩)
      go_ret2
      exact ⟨_, rfl, fun h => (by cases h), fun _ => rfl, Below.mono (Ext.trans ((Ext.refl w).alloc _) hx9) hB0⟩
  | list sl its hs hits ih =>
    rintro w B0 out xs deep _ rfl hw hB hB0 ho hxl hd
    obtain ⟨ao, co, rfl, _, _⟩ := ho.form
    obtain ⟨_, hm, a, cap, rfl, hc⟩ := hs
    unfold maxLen at hm
    have hlen : (headV its.length :: its.flatMap (·.2.1)).length = 1 + (flatsOf its).length := by rw [List.length_cons, Nat.add_comm]; rfl
    rw [hlen]
    by_cases h200 : xs.length < 200
    · by_cases h16 : deep < 16
      · have hl : (xs.length : Int) < 200 := by omega
        have hl2 : (deep : Int) < 16 := by omega
        go_enter Try.func39, Try.ntmps39
        go_wp2_with (first
          | (go_at_call 34; refine (innerL_any _ _ _ _).mono ?_; rintro e x9 ⟨rfl, hx9⟩; have f0 : x9.cell? ⟨w.heap.size, 0, none⟩ = some (.iface 82 (.agg #[.slice a its.length cap])) := (by rw [hx9.cell (by simp)]; simp [go_sem]); have h1 : w.heap.size < x9.heap.size := World.block_lt_of_cell? _ _ f0)
          | (go_at_call 48; refine (oneL_any _ _ _ _).mono ?_; rintro e y9 ⟨rfl, hy9⟩; have hY : Ext w y9 := Ext.trans ((Ext.refl w).alloc _) (hx9.trans hy9); have hoY := ho.ext hY; have hBY : B0 ≤ y9.heap.size := Nat.le_trans hB0 hY.size; simp only [V.val, headV])
          | (at_builtin; refine wpList_own_push (w := y9) rfl _ _ 33 rfl B0 32 32 i0 _ 6 56 Try.underlying33 hi hz0 hz1 hz2 rfl (by decide) _ _ 1 1 _ [.int .i64 5, .int .i64 (its.length : Int), .string ⟨#[]⟩, .int .i64 0, .int .i64 0, .int .i64 0] hoY rfl rfl rfl rfl ?c2 ?c3 ?c4 hBY ?_))
        case c2 => exact fun u hu => V.one [headV its.length] u (by simpa [V.cells, headV] using hu)
        case c3 => unfold maxLen; omega
        case c4 => omega
        intro v' w2 hown hb
        have hown2 : OwnS V.cells 6 32 w2 B0 v' (xs ++ [headV its.length]) := by
          unfold OwnS
          rw [List.length_append, List.flatMap_append]
          simpa [V.cells, headV] using hown
        clear hown
        have hX : Below B0 w w2 := Below.trans (Below.mono hY hB0) hb
        clear hoY hBY hy9 hx9 f0 h1 hb hY
        go_wp2_with fail
        go_loopw [0, 36] (fun ov iv wr => ∃ k : Nat, k ≤ its.length ∧ iv = .int .i64 (k : Int) ∧ OwnS V.cells 6 32 wr B0 ov (xs ++ (headV its.length :: flatsOf (its.take k))) ∧ Below B0 w wr ∧ xs.length + 1 + (flatsOf (its.take k)).length ≤ 200 ∧ deep + 1 + deepOf (its.take k) ≤ 16) (fun _ iv _ => its.length - (intOf iv).toNat)
        case atStart => exact ⟨0, Nat.zero_le _, rfl, by simpa [flatsOf] using hown2, hX, by simp [flatsOf]; omega, by simp [deepOf]; omega⟩
        case round =>
          obtain ⟨k, hk, rfl, hor, hbr, hn1, hn2⟩ := hrel
          by_cases hlt : k < its.length
          · have hki0 : its.length ≤ 9223372036854775807 := hm
            have hki : (k : Int) < (its.length : Int) := by omega
            obtain ⟨b, off, rfl, hbB, hcc⟩ : ∃ b off, a = some ⟨b, off, none⟩ ∧ b < B ∧ ∀ j, j < its.length * 1 → w0.cell? ⟨b, off + j, none⟩ = (its.map (·.1))[j]? := by
              rcases hc with h0 | h0
              · omega
              · exact h0
            have hBw : Below B w0 wr := Below.trans hw (Below.mono hbr hB)
            have hcell : wr.cell? ⟨b, off + k, none⟩ = some its[k].1 := by
              rw [hBw.cell (p := ⟨b, off + k, none⟩) hbB, hcc k (by omega)]
              simp [hlt]
            have hbs : b < wr.heap.size := World.block_lt_of_cell? _ _ hcell
            obtain ⟨hs1, hs2⟩ := flats_succ its k hlt
            have htk1 := flats_take its (k + 1)
            have htk2 := deepOf_take its (k + 1)
            have hih := ih its[k] (List.getElem_mem hlt)
            have hform := (hits its[k] (List.getElem_mem hlt)).form
            generalize its[k] = t at *
            obtain ⟨u, Lt, Dt⟩ := t
            simp only [] at hcell hs1 hs2 hih hform
            have hB0r : B0 ≤ wr.heap.size := Nat.le_trans hB0 hbr.size
            have hxa : Ext wr (wr.alloc (.cells #[u] 25)) := (Ext.refl wr).alloc _
            have hcall := hih (wr.alloc (.cells #[u] 25)) B0 u0 (xs ++ headV its.length :: flatsOf (its.take k)) (deep + 1) ((deep : Int) + 1) (by omega) (Below.trans hBw (Below.mono hxa (by omega))) hB (by simp; omega) (hor.ext hxa) (by rw [List.length_append, List.length_cons]; omega) (by omega)
            have HS := Lib.hid hs1
            have HC := Lib.hid hc
            clear hs1 ih hih hc hcc hits hor
            have hlen2 : (xs ++ headV its.length :: flatsOf (its.take k)).length = xs.length + 1 + (flatsOf (its.take k)).length := by rw [List.length_append, List.length_cons]; omega
            rw [hlen2] at hcall
            rcases hform with rfl | ⟨tt, xx, rfl⟩
            all_goals
              by_cases hok : xs.length + 1 + (flatsOf (its.take k)).length + Lt.length ≤ 200 ∧ deep + 1 + Dt ≤ 16
              · have hk2 : flatOk (xs.length + 1 + (flatsOf (its.take k)).length) Lt.length (deep + 1) Dt = true := by simp [flatOk]; omega
                rw [hk2] at hcall
                go_wp2_with (go_at_call 39; refine hcall.mono ?_; rintro e z9 ⟨out', rfl, ho1, _, hz9⟩; have ho2 := ho1 rfl; clear ho1)
                go_roundw
                case rel =>
                  refine ⟨k + 1, hlt, by simp, ?_, Below.trans hbr (Below.trans (Below.mono hxa hB0r) hz9), ?_, by rw [hs2]; omega⟩
                  · rw [HS.out]; simpa using ho2
                  · rw [HS.out, List.length_append]; omega
                case measure => simp [intOf]; omega
              · have hk2 : flatOk (xs.length + 1 + (flatsOf (its.take k)).length) Lt.length (deep + 1) Dt = false := by simp [flatOk]; omega
                rw [hk2] at hcall
                go_wp2_with (go_at_call 39; refine hcall.mono ?_; rintro e z9 ⟨out', rfl, _, ho1, hz9⟩; have ho2 := ho1 rfl; clear ho1)
                have hokf : flatOk xs.length (1 + (flatsOf its).length) deep (1 + deepOf its) = false := by
                  have h5 := HS.out
                  rw [h5, List.length_append] at htk1
                  simp [flatOk]; omega
                rw [hokf]
                go_ret2
                exact ⟨_, rfl, fun h => (by cases h), fun _ => rfl, Below.trans hbr (Below.trans (Below.mono hxa hB0r) hz9)⟩
          · have hke : k = its.length := by omega
            have hki : ¬ (k : Int) < (its.length : Int) := by omega
            rw [hke, List.take_length] at hor hn1 hn2
            have hokf : flatOk xs.length (1 + (flatsOf its).length) deep (1 + deepOf its) = true := by simp [flatOk]; omega
            clear hc ih hits
            go_wp2
            go_ret2
            exact ⟨_, rfl, fun _ => hor, fun h => (by cases h), hbr⟩
      · have hok : flatOk xs.length (1 + (flatsOf its).length) deep (1 + deepOf its) = false := by simp [flatOk]; omega
        rw [hok]
        have hl : (xs.length : Int) < 200 := by omega
        have hl2 : ¬ (deep : Int) < 16 := by omega
        clear hok
        go_enter Try.func39, Try.ntmps39
        go_wp2_with (go_at_call 34; refine (innerL_any _ _ _ _).mono ?_; rintro e x9 ⟨rfl, hx9⟩)
        go_ret2
        exact ⟨_, rfl, fun h => (by cases h), fun _ => rfl, Below.mono (Ext.trans ((Ext.refl w).alloc _) hx9) hB0⟩
    · have hok : flatOk xs.length (1 + (flatsOf its).length) deep (1 + deepOf its) = false := by simp [flatOk]; omega
      rw [hok]
      have hl : ¬ (xs.length : Int) < 200 := by omega
      clear hok
      by_cases h16 : deep < 16
      · have hl2 : (deep : Int) < 16 := by omega
        go_enter Try.func39, Try.ntmps39
        go_wp2_with (go_at_call 34; refine (innerL_any _ _ _ _).mono ?_; rintro e x9 ⟨rfl, hx9⟩)
        go_ret2
        exact ⟨_, rfl, fun h => (by cases h), fun _ => rfl, Below.mono (Ext.trans ((Ext.refl w).alloc _) hx9) hB0⟩
      · have hl2 : ¬ (deep : Int) < 16 := by omega
        go_enter Try.func39, Try.ntmps39
        go_wp2_with (go_at_call 34; refine (innerL_any _ _ _ _).mono ?_; rintro e x9 ⟨rfl, hx9⟩)
        go_ret2
        exact ⟨_, rfl, fun h => (by cases h), fun _ => rfl, Below.mono (Ext.trans ((Ext.refl w).alloc _) hx9) hB0⟩
end Go.Proofs.Ytdojgdeadhhldaa
