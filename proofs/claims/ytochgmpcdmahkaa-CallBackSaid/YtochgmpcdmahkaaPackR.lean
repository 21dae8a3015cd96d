/- Contracts of package pack's reader: wrong and Num. -/
import Derived.Test.YtochgmpcdmahkaaPackW
import Derived.Test.YtochgmpcdmahkaaKeep
namespace Go.Proofs.Ytochgmpcdmahkaa
open Go.RowKit

/-- In block r of a world a reader of the bytes bs stands, in state s. -/
structure RdW (w : World) (r : Nat) (a : Option Addr) (cap : Nat) (bs : List UInt8) (s : RS) : Prop where
  c0 : w.cell? ⟨r, 0, none⟩ = some (.slice a bs.length cap)
  c1 : w.cell? ⟨r, 1, none⟩ = some (.int .i64 (s.at_ : Int))
  c2 : w.cell? ⟨r, 2, none⟩ = some (.int .i64 s.err)
  f0 : w.frozen? ⟨r, 0, none⟩ = false
  f1 : w.frozen? ⟨r, 1, none⟩ = false
  f2 : w.frozen? ⟨r, 2, none⟩ = false
  lt : r < w.heap.size
  ok : s.at_ ≤ bs.length
  mx : bs.length ≤ 140737488355328
  lc : bs.length ≤ cap
  cm : cap ≤ maxLen
  by_ : (bs.length = 0 ∧ a = none ∧ cap = 0) ∨ ∃ g off, a = some ⟨g, off, none⟩ ∧ g ≠ r ∧ g < w.heap.size ∧ ∀ j, j < bs.length → w.cell? ⟨g, off + j, none⟩ = (bs.map bcell)[j]?
theorem RdW.drewN {w : World} {r : Nat} {a : Option Addr} {cap : Nat} {bs : List UInt8} {s : RS} (h : RdW w r a cap bs s) (n : Nat) : RdW (w.drewN n) r a cap bs s := ⟨h.c0, h.c1, h.c2, h.f0, h.f1, h.f2, h.lt, h.ok, h.mx, h.lc, h.cm, h.by_⟩
/-- The reader is set anew. -/
theorem RdW.set {w : World} {r : Nat} {a : Option Addr} {cap : Nat} {bs : List UInt8} {s s' : RS} (h : RdW w r a cap bs s) (hs : s'.at_ ≤ bs.length) {w' : World} (hk : KeepR r w w')
    (e0 : w'.cell? ⟨r, 0, none⟩ = w.cell? ⟨r, 0, none⟩) (e1 : w'.cell? ⟨r, 1, none⟩ = some (.int .i64 (s'.at_ : Int))) (e2 : w'.cell? ⟨r, 2, none⟩ = some (.int .i64 s'.err)) (ef : ∀ o, w'.frozen? ⟨r, o, none⟩ = w.frozen? ⟨r, o, none⟩) : RdW w' r a cap bs s' := by
  refine ⟨e0.trans h.c0, e1, e2, (ef 0).trans h.f0, (ef 1).trans h.f1, (ef 2).trans h.f2, Nat.lt_of_lt_of_le h.lt hk.size, hs, h.mx, h.lc, h.cm, ?_⟩
  rcases h.by_ with h0 | ⟨g, off, ha, hg, hgl, hc⟩
  · exact .inl h0
  · exact .inr ⟨g, off, ha, hg, Nat.lt_of_lt_of_le hgl hk.size, fun j hj => (World.cell?_of_block (w := w) (a := ⟨g, off + j, none⟩) (hk.block g hgl hg)).trans (hc j hj)⟩

theorem two_set {w : World} {r : Nat} {v1 v2 u1 u2 : Value} (h1 : w.cell? ⟨r, 1, none⟩ = some u1) (h2 : w.cell? ⟨r, 2, none⟩ = some u2) :
    ((w.setCell ⟨r, 1, none⟩ v1).setCell ⟨r, 2, none⟩ v2).cell? ⟨r, 0, none⟩ = w.cell? ⟨r, 0, none⟩ ∧ ((w.setCell ⟨r, 1, none⟩ v1).setCell ⟨r, 2, none⟩ v2).cell? ⟨r, 1, none⟩ = some v1 ∧
    ((w.setCell ⟨r, 1, none⟩ v1).setCell ⟨r, 2, none⟩ v2).cell? ⟨r, 2, none⟩ = some v2 ∧ ∀ o, ((w.setCell ⟨r, 1, none⟩ v1).setCell ⟨r, 2, none⟩ v2).frozen? ⟨r, o, none⟩ = w.frozen? ⟨r, o, none⟩ := by
  refine ⟨?_, ?_, ?_, fun o => ?_⟩
  · rw [World.cell?_setCell_other _ _ _ _ (by simp), World.cell?_setCell_other _ _ _ _ (by simp)]
  · rw [World.cell?_setCell_other _ _ _ _ (by simp)]; exact World.cell?_setCell_same _ _ _ h1
  · exact World.cell?_setCell_same _ _ _ ((World.cell?_setCell_other _ _ _ _ (by simp)).trans h2)
  · rw [World.frozen?_setCell, World.frozen?_setCell]

theorem one_set {w : World} {r : Nat} {v1 u1 : Value} (h1 : w.cell? ⟨r, 1, none⟩ = some u1) :
    (w.setCell ⟨r, 1, none⟩ v1).cell? ⟨r, 0, none⟩ = w.cell? ⟨r, 0, none⟩ ∧ (w.setCell ⟨r, 1, none⟩ v1).cell? ⟨r, 1, none⟩ = some v1 ∧
    (w.setCell ⟨r, 1, none⟩ v1).cell? ⟨r, 2, none⟩ = w.cell? ⟨r, 2, none⟩ ∧ ∀ o, (w.setCell ⟨r, 1, none⟩ v1).frozen? ⟨r, o, none⟩ = w.frozen? ⟨r, o, none⟩ := by
  refine ⟨?_, ?_, ?_, fun o => ?_⟩
  · rw [World.cell?_setCell_other _ _ _ _ (by simp)]
  · exact World.cell?_setCell_same _ _ _ h1
  · rw [World.cell?_setCell_other _ _ _ _ (by simp)]
  · rw [World.frozen?_setCell]

theorem RdW.step {w wr : World} {r : Nat} {a : Option Addr} {cap : Nat} {bs : List UInt8} {s s' : RS} (hr : RdW wr r a cap bs s) (hk : KeepR r w wr) (hs : s'.at_ ≤ bs.length) (he : s'.err = s.err) (n : Nat) :
    RdW ((wr.drewN n).setCell ⟨r, 1, none⟩ (.int .i64 (s'.at_ : Int))) r a cap bs s' ∧ KeepR r w ((wr.drewN n).setCell ⟨r, 1, none⟩ (.int .i64 (s'.at_ : Int))) := by
  have hn := RdW.drewN hr n
  obtain ⟨e0, e1, e2, ef⟩ := one_set (v1 := .int .i64 (s'.at_ : Int)) hn.c1
  exact ⟨hn.set hs ((KeepR.refl r _).set _) e0 e1 (e2.trans (by rw [hn.c2, he])) ef, (hk.drewN n).set _⟩

theorem wrong_any (r : Nat) (a : Option Addr) (cap : Nat) (bs : List UInt8) (s : RS) (p : Nat) (e : Int) (w : World) (h : RdW w r a cap bs s) (hp : p ≤ bs.length) :
    Calls Try.prog 32 #[.pointer (some ⟨r, 0, none⟩), .int .i64 (p : Int), .int .i64 e] w fun x w' => x = .returned (.int .i64 0) ∧ RdW w' r a cap bs ⟨p, e⟩ ∧ KeepR r w w' := by
  have c1 := h.c1
  have c2 := h.c2
  have f1 := h.f1
  have f2 := h.f2
  go_enter Try.func32, Try.ntmps32
  go_wp2
  go_ret
  obtain ⟨e0, e1, e2, ef⟩ := two_set (v1 := .int .i64 (p : Int)) (v2 := .int .i64 e) c1 c2
  have hk : KeepR r w ((w.setCell ⟨r, 1, none⟩ (.int .i64 (p : Int))).setCell ⟨r, 2, none⟩ (.int .i64 e)) := ((KeepR.refl r w).set _).set _
  exact ⟨rfl, h.set hp hk e0 e1 e2 ef, hk⟩

theorem and127 : ∀ x : Nat, x < 256 → x &&& 127 = x % 128 := by decide +kernel

theorem or_piece (u B i : Nat) (hu : u < 128 ^ i) (hB : B < 256) (hi : i ≤ 9) (h9 : i = 9 → B ≤ 1) :
    bits .or .u64 (u : Int) (IntKind.u64.wrap (IntKind.u64.wrap (bits .and .u8 (B : Int) 127) * 2 ^ (7 * i))) = ((u + B % 128 * 128 ^ i : Nat) : Int) ∧ u + B % 128 * 128 ^ i < 18446744073709551616 := by
  have e1 : bits .and .u8 (B : Int) 127 = ((B % 128 : Nat) : Int) := by
    rw [show (127 : Int) = ((127 : Nat) : Int) from rfl, u8_and_nat _ _ hB (by decide), and127 B hB]
  have hp : (128 : Nat) ^ i = 2 ^ (7 * i) := by rw [Nat.pow_mul]
  have hle : (128 : Nat) ^ i ≤ 128 ^ 9 := Nat.pow_le_pow_right (by decide) hi
  have hx : B % 128 * 128 ^ i < 18446744073709551616 ∧ u + B % 128 * 128 ^ i < 18446744073709551616 := by
    by_cases h : i = 9
    · subst h
      have := h9 rfl
      omega
    · have hle8 : (128 : Nat) ^ i ≤ 128 ^ 8 := Nat.pow_le_pow_right (by decide) (by omega)
      have hm : B % 128 * 128 ^ i ≤ 127 * 128 ^ 8 := Nat.mul_le_mul (by omega) hle8
      omega
  have e2 : IntKind.u64.wrap ((B % 128 : Nat) : Int) = ((B % 128 : Nat) : Int) := by rw [IntKind.wrap_u64]; omega
  have e3 : ((B % 128 : Nat) : Int) * 2 ^ (7 * i) = ((B % 128 * 128 ^ i : Nat) : Int) := by
    rw [hp, Int.natCast_mul, Int.natCast_pow]; rfl
  have e4 : IntKind.u64.wrap ((B % 128 * 128 ^ i : Nat) : Int) = ((B % 128 * 128 ^ i : Nat) : Int) := by rw [IntKind.wrap_u64]; omega
  refine ⟨?_, hx.2⟩
  rw [e1, e2, e3, e4, u64_or_nat _ _ (by omega) hx.1, Nat.or_comm]
  have hm : B % 128 * 128 ^ i % 2 ^ (7 * i) = 0 := by rw [← hp]; exact Nat.mul_mod_left _ _
  rw [nat_join (7 * i) _ u hm (by rw [← hp]; exact hu)]
  congr 1
  omega
theorem and1_u64 (u : Nat) (h : u < 18446744073709551616) : bits .and .u64 (u : Int) 1 = ((u % 2 : Nat) : Int) := by
  rw [show (1 : Int) = ((1 : Nat) : Int) from rfl, u64_and_nat _ _ h (by decide), Nat.and_one_is_mod]

set_option maxHeartbeats 4000000 in
set_option maxRecDepth 100000 in
theorem rnum_any (r : Nat) (a : Option Addr) (cap : Nat) (bs : List UInt8) (s : RS) (w : World) (h : RdW w r a cap bs s) :
    Calls Try.prog 17 #[.pointer (some ⟨r, 0, none⟩)] w fun x w' => x = .returned (.int .i64 (rNum bs s).1) ∧ RdW w' r a cap bs (rNum bs s).2 ∧ KeepR r w w' := by
  have c0 := h.c0
  have c1 := h.c1
  have c2 := h.c2
  by_cases he : s.err = 0
  · have heb : (s.err != 0) = false := by rw [bne_eq_false_iff_eq]; exact he
    have hv : rNum bs s = ((decF bs s.at_ 10 0 0).1, ⟨(decF bs s.at_ 10 0 0).2.1, (decF bs s.at_ 10 0 0).2.2⟩) := by unfold rNum; rw [if_pos he]
    have HV := Lib.hid hv
    have HE := Lib.hid he
    clear hv he
    go_enter Try.func17, Try.ntmps17
    go_wp2
    clear c0 c1 c2
    go_loopw [3, 4] (fun uv iv wr => ∃ (f i u : Nat), iv = .int .i64 (i : Int) ∧ uv = .int .u64 (u : Int) ∧ f + i = 9 ∧ u < 128 ^ i ∧ decF bs s.at_ (f + 1) i u = decF bs s.at_ 10 0 0 ∧ RdW wr r a cap bs s ∧ KeepR r w wr) (fun _ iv _ => (10 - intOf iv).toNat)
    case atStart => exact ⟨9, 0, 0, rfl, rfl, rfl, by decide, rfl, h, KeepR.refl _ _⟩
    case round =>
      obtain ⟨f, i, u, rfl, rfl, hfi, hu, hd, hr, hk⟩ := hrel
      have c0 := hr.c0
      have c1 := hr.c1
      have c2 := hr.c2
      have f1 := hr.f1
      have hmx := hr.mx
      have hok := hr.ok
      by_cases hlt : s.at_ + i < bs.length
      · have hb : bs[s.at_ + i]? = some bs[s.at_ + i] := List.getElem?_eq_getElem hlt
        generalize bs[s.at_ + i] = b at hb
        rw [decF_step _ _ _ _ _ _ hb] at hd
        rcases hr.by_ with h0 | ⟨g, off, rfl, hgr, hgl, hcell⟩
        · have := h0.1
          omega
        have hcb : wr.cell? ⟨g, off + (s.at_ + i), none⟩ = some (.int .u8 (b.toNat : Int)) := by
          rw [hcell _ hlt, List.getElem?_map, hb]; rfl
        have hB := b.toNat_lt
        generalize b.toNat = B at *
        clear hcell hb
        by_cases hA : i = 9 ∧ 1 < B
        · rw [if_pos hA] at hd
          rw [← hd] at HV
          have h9 : ((i : Int) == 9) = true := by rw [beq_iff_eq]; omega
          have hB1 : 1 < B := hA.2
          clear hd hA
          go_wp2
          go_quiet (fail)
          go_wp2
          go_quiet (fail)
          go_wp2_with fail
          refine (wrong_any r _ cap bs s s.at_ 4 _ (RdW.drewN hr _) hok).mono ?_
          rintro e w2 ⟨rfl, hr2, hk2⟩
          go_wp2
          go_ret
          exact ⟨by rw [HV.out]; rfl, by rw [HV.out]; exact hr2, (hk.drewN _).trans hk2⟩
        · rw [if_neg hA] at hd
          have hi9 : i ≤ 9 := by omega
          have hor := or_piece u B i hu hB (by omega) (by omega)
          obtain ⟨hor, hu64⟩ := hor
          by_cases hc128 : 128 ≤ B
          · rw [if_pos hc128] at hd
            have h9 : ((i : Int) == 9) = false := by rw [beq_eq_false_iff_ne]; omega
            have HOR := Lib.hid hor
            obtain ⟨f', rfl⟩ : ∃ f', f = f' + 1 := ⟨f - 1, by omega⟩
            clear hor hu64 hA
            go_wp2
            go_quiet (fail)
            go_wp2
            go_quiet (fail)
            go_wp2
            refine ⟨⟨f', i + 1, u + B % 128 * 128 ^ i, by simp, by rw [HOR.out], by omega, ?_, hd, RdW.drewN hr _, hk.drewN _⟩, by simp [intOf]; omega⟩
            rw [Nat.pow_succ]
            have : B % 128 * 128 ^ i ≤ 127 * 128 ^ i := Nat.mul_le_mul_right _ (by omega)
            omega
          · rw [if_neg hc128] at hd
            have h9c : ((i : Int) == 9) = true ∧ decide ((1 : Int) < (B : Int)) = false ∨ ((i : Int) == 9) = false := by
              by_cases h9 : i = 9
              · left; exact ⟨by rw [beq_iff_eq]; omega, decide_eq_false (by omega)⟩
              · right; rw [beq_eq_false_iff_ne]; omega
            by_cases hz : B = 0 ∧ 0 < i
            · rw [if_pos hz] at hd
              rw [← hd] at HV
              obtain ⟨hz0, hi0⟩ := hz
              have hzb : ((B : Int) == 0) = true := by rw [beq_iff_eq]; omega
              have HOR := Lib.hid hor
              clear hd hor hu64 hA hfi hu hz0
              rcases h9c with ⟨h9, h1B⟩ | h9
              all_goals
                go_wp2
                go_quiet (fail)
                go_wp2
                go_quiet (fail)
                go_wp2_with fail
                refine (wrong_any r _ cap bs s s.at_ 4 _ (RdW.drewN hr _) hok).mono ?_
                rintro e w2 ⟨rfl, hr2, hk2⟩
                go_wp2
                go_ret
                exact ⟨by rw [HV.out]; rfl, by rw [HV.out]; exact hr2, (hk.drewN _).trans hk2⟩
            · rw [if_neg hz] at hd
              rw [← hd] at HV
              have hzc : ((B : Int) == 0) = true ∧ ¬ 0 < i ∨ ((B : Int) == 0) = false := by
                by_cases h0 : B = 0
                · left; exact ⟨by rw [beq_iff_eq]; omega, by omega⟩
                · right; rw [beq_eq_false_iff_ne]; omega
              generalize hu' : u + B % 128 * 128 ^ i = u' at *
              have ha1 := and1_u64 u' hu64
              clear hd hA hfi hu hu' hz
              have hun : unzig u' = if u' % 2 = 1 then -((u' / 2 : Nat) : Int) - 1 else ((u' / 2 : Nat) : Int) := rfl
              rw [hun] at HV
              clear hun
              have hx63 : ¬ (i = 9 ∧ i = 0) := by omega
              rcases (by omega : u' % 2 = 0 ∨ u' % 2 = 1) with hp | hp
              all_goals
                rw [hp] at ha1 HV
                simp only [Int.ofNat_zero, Int.ofNat_one, Int.cast_ofNat_Int] at ha1
                rcases h9c with ⟨h9, h1B⟩ | h9 <;> rcases hzc with ⟨hz0, hz1⟩ | hz0
              all_goals first
                | (exfalso; rw [beq_iff_eq] at h9; omega)
                | (clear hx63
                   go_wp2
                   go_quiet (fail)
                   go_wp2
                   go_quiet (fail)
                   go_wp2
                   have ep : (s.at_ : Int) + ((i : Int) + 1) = ((s.at_ + i + 1 : Nat) : Int) := by omega
                   have st := fun n => RdW.step (s' := ⟨s.at_ + i + 1, 0⟩) hr hk (by simp only []; omega) HE.out.symm n
                   first
                     | (go_ret
                        refine ⟨?_, ?_, ?_⟩
                        · show Ending.returned (.int .i64 ((u' : Int) / 2)) = _
                          rw [HV.out]; simp
                        · rw [HV.out, ep]; exact (st _).1
                        · rw [ep]; exact (st _).2)
                     | (go_ret
                        refine ⟨?_, ?_, ?_⟩
                        · show Ending.returned (.int .i64 (wrap64 (bits .xor .u64 IntKind.u64.max ((u' : Int) / 2)))) = _
                          rw [HV.out, show (u' : Int) / 2 = ((u' / 2 : Nat) : Int) from rfl, xor_max _ (by omega)]
                          have hw : wrap64 ((18446744073709551615 - u' / 2 : Nat) : Int) = -((u' / 2 : Nat) : Int) - 1 := by
                            simp only [wrap64, IntKind.wrap]; omega
                          rw [hw]; simp
                        · rw [HV.out, ep]; exact (st _).1
                        · rw [ep]; exact (st _).2))
      · rw [decF_short _ _ _ _ _ hlt] at hd
        rw [← hd] at HV
        clear hd
        go_wp2
        go_quiet (fail)
        go_wp2_with fail
        refine (wrong_any r a cap bs s s.at_ 3 _ (RdW.drewN hr _) hok).mono ?_
        rintro e w2 ⟨rfl, hr2, hk2⟩
        go_wp2
        go_ret
        exact ⟨by rw [HV.out]; rfl, by rw [HV.out]; exact hr2, (hk.drewN _).trans hk2⟩
  · have heb : (s.err != 0) = true := by rw [bne_iff_ne]; exact he
    have hv : rNum bs s = (0, s) := by unfold rNum; rw [if_neg he]
    have HV := Lib.hid hv
    clear hv he
    go_enter Try.func17, Try.ntmps17
    go_wp2
    go_ret
    exact ⟨by rw [HV.out]; rfl, by rw [HV.out]; exact h, KeepR.refl _ _⟩
end Go.Proofs.Ytochgmpcdmahkaa
