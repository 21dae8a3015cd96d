/- Contracts of the document's reader (impostref1): Num, Within, Count, Flag, Text, End, Read. -/
import Derived.Test.YtochgmpcdmahkaaPackRefW
namespace Go.Proofs.Ytochgmpcdmahkaa
open Go.RowKit

theorem RdW.setAt {w wr : World} {r : Nat} {a : Option Addr} {cap : Nat} {bs : List UInt8} {s : RS} (hr : RdW wr r a cap bs s) (hk : KeepR r w wr) (p : Nat) (hp : p ≤ bs.length) :
    RdW (wr.setCell ⟨r, 1, none⟩ (.int .i64 (p : Int))) r a cap bs ⟨p, s.err⟩ ∧ KeepR r w (wr.setCell ⟨r, 1, none⟩ (.int .i64 (p : Int))) := by
  obtain ⟨e0, e1, e2, ef⟩ := one_set (v1 := .int .i64 (p : Int)) hr.c1
  exact ⟨hr.set (s' := ⟨p, s.err⟩) hp ((KeepR.refl r _).set _) e0 e1 (e2.trans hr.c2) ef, hk.set _⟩
/-- The error is set, then the place. -/
theorem RdW.setBoth {w wr : World} {r : Nat} {a : Option Addr} {cap : Nat} {bs : List UInt8} {s : RS} (hr : RdW wr r a cap bs s) (hk : KeepR r w wr) (p : Nat) (hp : p ≤ bs.length) (e : Int) :
    RdW ((wr.setCell ⟨r, 2, none⟩ (.int .i64 e)).setCell ⟨r, 1, none⟩ (.int .i64 (p : Int))) r a cap bs ⟨p, e⟩ ∧ KeepR r w ((wr.setCell ⟨r, 2, none⟩ (.int .i64 e)).setCell ⟨r, 1, none⟩ (.int .i64 (p : Int))) := by
  obtain ⟨h1, h2, _⟩ := RdW.setErr hr hk e
  exact RdW.setAt h1 h2 p hp
theorem xor0_i64 (x : Int) (h0 : 0 ≤ x) (h1 : x < 9223372036854775808) : bits .xor .i64 x 0 = x := by
  have e0 : bits .xor .i64 x 0 = IntKind.i64.wrap ((BitVec.ofInt 64 x ^^^ BitVec.ofInt 64 0).toNat : Nat) := rfl
  have e1 : (BitVec.ofInt 64 0 : BitVec 64) = 0#64 := by decide
  rw [e0, e1, BitVec.xor_zero, BitVec.toNat_ofInt, IntKind.wrap_i64]
  omega
theorem xorm_i64 (x : Int) (h0 : 0 ≤ x) (h1 : x < 9223372036854775808) : bits .xor .i64 x (-1) = -x - 1 := by
  have e0 : bits .xor .i64 x (-1) = IntKind.i64.wrap ((BitVec.ofInt 64 x ^^^ BitVec.ofInt 64 (-1)).toNat : Nat) := rfl
  have e1 : (BitVec.ofInt 64 (-1) : BitVec 64) = BitVec.allOnes 64 := by decide
  rw [e0, e1, BitVec.xor_comm, ← BitVec.not_def, BitVec.toNat_not, BitVec.toNat_ofInt, IntKind.wrap_i64]
  omega

set_option maxHeartbeats 4000000 in
set_option maxRecDepth 100000 in
theorem qnum_any (r : Nat) (a : Option Addr) (cap : Nat) (bs : List UInt8) (s : RS) (w : World) (h : RdW w r a cap bs s) :
    Calls Try.prog 25 #[.pointer (some ⟨r, 0, none⟩)] w fun x w' => x = .returned (.int .i64 (rNum bs s).1) ∧ RdW w' r a cap bs (rNum bs s).2 ∧ KeepR r w w' := by
  have c0 := h.c0
  have c1 := h.c1
  have c2 := h.c2
  by_cases he : s.err = 0
  · have heb : (s.err != 0) = false := by rw [bne_eq_false_iff_eq]; exact he
    have hv : rNum bs s = ((decF bs s.at_ 10 0 0).1, ⟨(decF bs s.at_ 10 0 0).2.1, (decF bs s.at_ 10 0 0).2.2⟩) := by unfold rNum; rw [if_pos he]
    have HV := Lib.hid hv
    have HE := Lib.hid he
    clear hv he
    go_enter Try.func25, Try.ntmps25
    go_wp2
    clear c0 c1 c2
    go_loopw [3, 4] (fun uv iv wr => ∃ (f i u : Nat), iv = .int .i64 (i : Int) ∧ uv = .int .u64 (u : Int) ∧ f + i = 9 ∧ u < 128 ^ i ∧ decF bs s.at_ (f + 1) i u = decF bs s.at_ 10 0 0 ∧ RdW wr r a cap bs s ∧ KeepR r w wr) (fun _ iv _ => (10 - intOf iv).toNat)
    case atStart => exact ⟨9, 0, 0, rfl, rfl, rfl, by decide, rfl, h, KeepR.refl _ _⟩
    case round =>
      obtain ⟨f, i, u, rfl, rfl, hfi, hu, hd, hr, hk⟩ := hrel
      have c0 := hr.c0
      have c1 := hr.c1
      have c2 := hr.c2
      have f1 := hr.f1
      have f2 := hr.f2
      have hmx := hr.mx
      have hok := hr.ok
      have fin : ∀ n e, RdW ((wr.drewN n).setCell ⟨r, 2, none⟩ (.int .i64 e)) r a cap bs ⟨s.at_, e⟩ ∧ KeepR r w ((wr.drewN n).setCell ⟨r, 2, none⟩ (.int .i64 e)) := fun n e =>
        let x := RdW.setErr (RdW.drewN hr n) (hk.drewN n) e
        ⟨x.1, x.2.1⟩
      by_cases hlt : s.at_ + i < bs.length
      · have hb : bs[s.at_ + i]? = some bs[s.at_ + i] := List.getElem?_eq_getElem hlt
        generalize bs[s.at_ + i] = b at hb
        rw [decF_step _ _ _ _ _ _ hb] at hd
        rcases hr.by_ with h0 | ⟨g, off, rfl, hgr, hgl, hcell⟩
        · have := h0.1
          omega
        have hcb : wr.cell? ⟨g, off + (s.at_ + i), none⟩ = some (.int .u8 (b.toNat : Int)) := by
          rw [hcell _ hlt, List.getElem?_map, hb]; rfl
        have hB := b.toNat_lt
        generalize b.toNat = B at *
        clear hcell hb
        by_cases hA : i = 9 ∧ 1 < B
        · rw [if_pos hA] at hd
          rw [← hd] at HV
          have h9 : ((i : Int) == 9) = true := by rw [beq_iff_eq]; omega
          have hB1 : 1 < B := hA.2
          clear hd hA
          have FIN := Lib.hid fin
          clear fin
          go_wp2
          go_quiet (fail)
          go_wp2
          go_quiet (fail)
          go_wp2
          go_ret
          exact ⟨by rw [HV.out]; rfl, by rw [HV.out]; exact (FIN.out _ 4).1, (FIN.out _ 4).2⟩
        · rw [if_neg hA] at hd
          have hi9 : i ≤ 9 := by omega
          have hor := or_piece u B i hu hB (by omega) (by omega)
          obtain ⟨hor, hu64⟩ := hor
          by_cases hc128 : 128 ≤ B
          · rw [if_pos hc128] at hd
            have h9 : ((i : Int) == 9) = false := by rw [beq_eq_false_iff_ne]; omega
            have HOR := Lib.hid hor
            obtain ⟨f', rfl⟩ : ∃ f', f = f' + 1 := ⟨f - 1, by omega⟩
            clear hor hu64 hA fin
            go_wp2
            go_quiet (fail)
            go_wp2
            go_quiet (fail)
            go_wp2
            refine ⟨⟨f', i + 1, u + B % 128 * 128 ^ i, by simp, by rw [HOR.out], by omega, ?_, hd, RdW.drewN hr _, hk.drewN _⟩, by simp [intOf]; omega⟩
            rw [Nat.pow_succ]
            have : B % 128 * 128 ^ i ≤ 127 * 128 ^ i := Nat.mul_le_mul_right _ (by omega)
            omega
          · rw [if_neg hc128] at hd
            have h9c : ((i : Int) == 9) = true ∧ decide ((1 : Int) < (B : Int)) = false ∨ ((i : Int) == 9) = false := by
              by_cases h9 : i = 9
              · left; exact ⟨by rw [beq_iff_eq]; omega, decide_eq_false (by omega)⟩
              · right; rw [beq_eq_false_iff_ne]; omega
            by_cases hz : B = 0 ∧ 0 < i
            · rw [if_pos hz] at hd
              rw [← hd] at HV
              obtain ⟨hz0, hi0⟩ := hz
              have hzb : ((B : Int) == 0) = true := by rw [beq_iff_eq]; omega
              have HOR := Lib.hid hor
              have FIN := Lib.hid fin
              clear hd hor hu64 hA hfi hu hz0 fin
              rcases h9c with ⟨h9, h1B⟩ | h9
              all_goals
                go_wp2
                go_quiet (fail)
                go_wp2
                go_quiet (fail)
                go_wp2
                go_ret
                exact ⟨by rw [HV.out]; rfl, by rw [HV.out]; exact (FIN.out _ 4).1, (FIN.out _ 4).2⟩
            · rw [if_neg hz] at hd
              rw [← hd] at HV
              have hzc : ((B : Int) == 0) = true ∧ ¬ 0 < i ∨ ((B : Int) == 0) = false := by
                by_cases h0 : B = 0
                · left; exact ⟨by rw [beq_iff_eq]; omega, by omega⟩
                · right; rw [beq_eq_false_iff_ne]; omega
              generalize hu' : u + B % 128 * 128 ^ i = u' at *
              have ha1 := and1_u64 u' hu64
              clear hd hA hfi hu hu' hz fin
              have hun : unzig u' = if u' % 2 = 1 then -((u' / 2 : Nat) : Int) - 1 else ((u' / 2 : Nat) : Int) := rfl
              rw [hun] at HV
              clear hun
              have hx63 : ¬ (i = 9 ∧ i = 0) := by omega
              have hx0 := xor0_i64 ((u' : Int) / 2) (by omega) (by omega)
              have hxm := xorm_i64 ((u' : Int) / 2) (by omega) (by omega)
              rcases (by omega : u' % 2 = 0 ∨ u' % 2 = 1) with hp | hp
              all_goals
                rw [hp] at ha1 HV
                simp only [Int.ofNat_zero, Int.ofNat_one, Int.cast_ofNat_Int] at ha1
                rcases h9c with ⟨h9, h1B⟩ | h9 <;> rcases hzc with ⟨hz0, hz1⟩ | hz0
              all_goals first
                | (exfalso; rw [beq_iff_eq] at h9; omega)
                | (clear hx63
                   go_wp2
                   go_quiet (fail)
                   go_wp2
                   go_quiet (fail)
                   go_wp2
                   have ep : (s.at_ : Int) + (i : Int) + 1 = ((s.at_ + i + 1 : Nat) : Int) := by omega
                   have st := fun n => RdW.step (s' := ⟨s.at_ + i + 1, 0⟩) hr hk (by simp only []; omega) HE.out.symm n
                   go_ret
                   refine ⟨?_, ?_, ?_⟩
                   · rw [HV.out]; simp
                   · rw [HV.out, ep]; exact (st _).1
                   · rw [ep]; exact (st _).2)
      · rw [decF_short _ _ _ _ _ hlt] at hd
        rw [← hd] at HV
        have FIN := Lib.hid fin
        clear hd fin
        go_wp2
        go_quiet (fail)
        go_wp2
        go_ret
        exact ⟨by rw [HV.out]; rfl, by rw [HV.out]; exact (FIN.out _ 3).1, (FIN.out _ 3).2⟩
  · have heb : (s.err != 0) = true := by rw [bne_iff_ne]; exact he
    have hv : rNum bs s = (0, s) := by unfold rNum; rw [if_neg he]
    have HV := Lib.hid hv
    clear hv he
    go_enter Try.func25, Try.ntmps25
    go_wp2
    go_ret
    exact ⟨by rw [HV.out]; rfl, by rw [HV.out]; exact h, KeepR.refl _ _⟩
end Go.Proofs.Ytochgmpcdmahkaa
