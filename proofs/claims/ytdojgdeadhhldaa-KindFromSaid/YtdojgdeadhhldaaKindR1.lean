/- Chapter 8's own answer: walk at a list. -/
import Derived.Test.YtdojgdeadhhldaaKindJ
namespace Go.Proofs.Ytdojgdeadhhldaa
open Go.RowKit

def WalkPost (w : World) (l : List V) (res : Except Int (List V)) (e : Ending) (w' : World) : Prop :=
  Ext w w' ∧ match res with
    | .error c => ∃ p, e = .returned (.tuple #[p, .int .i64 c])
    | .ok r => ∃ Z : Nat, Z + r.length = l.length ∧ e = .returned (.tuple #[.int .i64 (Z : Int), .int .i64 0])

set_option maxHeartbeats 8000000 in
set_option maxRecDepth 100000 in
theorem walk_loop (g deep B : Nat) (hf : g + 1 + deep = 16) (l : List V) (A N : Nat) (t : List V) (hA : l.drop A = ⟨5, (N : Int), ⟨#[]⟩, 0, 0, 0⟩ :: t) (v : Value) (w : World) (hBw : B ≤ w.heap.size) (hl : SlC w B v l) (hm : l.length ≤ 1000000000)
    (hRt : RightV ⟨5, (N : Int), ⟨#[]⟩, 0, 0, 0⟩) (hih : ∀ (w : World) (A : Nat), B ≤ w.heap.size → SlC w B v l → A ≤ l.length → Calls Try.prog 38 #[v, .int .i64 (A : Int), .int .i64 ((deep : Int) + 1)] w (WalkPost w l (nextP g (l.drop A)))) :
    Calls Try.prog 38 #[v, .int .i64 (A : Int), .int .i64 (deep : Int)] w (WalkPost w l (nextP (g + 1) (⟨5, (N : Int), ⟨#[]⟩, 0, 0, 0⟩ :: t))) := by
  obtain ⟨x, hxx⟩ : ∃ x : V, x = ⟨5, (N : Int), ⟨#[]⟩, 0, 0, 0⟩ := ⟨_, rfl⟩
  rw [← hxx] at hA
  have hl0 := hl
  have hAl : A < l.length := by
    rcases Nat.lt_or_ge A l.length with h | h
    · exact h
    · rw [List.drop_eq_nil_of_le h] at hA; cases hA
  have hx : l[A] = x := by
    have := List.drop_eq_getElem_cons hAl
    rw [hA] at this
    exact (List.cons.inj this).1.symm
  obtain ⟨a, cap, rfl, hlc, hcm, hs⟩ := hl
  obtain ⟨b1, o1, rfl, hb1, hc1⟩ := SlS.at_ V.len (SlR.up hs hBw) (by omega) (by decide)
  have d1 := hc1 A hAl
  rw [hx] at d1
  have a0 : w.cell? ⟨b1, o1 + A * 6, none⟩ = some (.int .i64 x.kind) := by have := d1 0 (by decide); simpa [V.cells] using this
  have a1 : w.cell? ⟨b1, o1 + A * 6 + 1, none⟩ = some (.int .i64 x.n) := by have := d1 1 (by decide); simpa [V.cells] using this
  have a2 : w.cell? ⟨b1, o1 + A * 6 + 2, none⟩ = some (.string x.text) := by have := d1 2 (by decide); simpa [V.cells] using this
  have a3 : w.cell? ⟨b1, o1 + A * 6 + 3, none⟩ = some (.int .i64 x.y) := by have := d1 3 (by decide); simpa [V.cells] using this
  have a4 : w.cell? ⟨b1, o1 + A * 6 + 4, none⟩ = some (.int .i64 x.m) := by have := d1 4 (by decide); simpa [V.cells] using this
  have a5 : w.cell? ⟨b1, o1 + A * 6 + 5, none⟩ = some (.int .i64 x.d) := by have := d1 5 (by decide); simpa [V.cells] using this
  clear d1 hc1 hx
  have HL := Lib.hid hl0
  clear hl0 hs
  subst hxx
  simp only [] at a0 a1 a2 a3 a4 a5
  have i1 : (A : Int) < (l.length : Int) := by omega
  have i0 : (0 : Int) ≤ (A : Int) := by omega
  have hd16 : ¬ (16 : Int) ≤ (deep : Int) := by omega
  have e : nextP (g + 1) (⟨5, (N : Int), ⟨#[]⟩, 0, 0, 0⟩ :: t) = manyP (nextP g) N t := by
    simp only [nextP]
    rw [if_neg (by decide), if_pos hRt, if_pos trivial]
    rfl
  have htl : t.length = l.length - (A + 1) := by have := congrArg List.length hA; simp at this; omega
  have htd : l.drop (A + 1) = t := by rw [← List.drop_drop, hA]; rfl
  have E := Lib.hid e
  have HT := Lib.hid htl
  have HD := Lib.hid htd
  clear e htl htd hRt
  go_enter Try.func38, Try.ntmps38
  go_wp2_with fail
  have hX : Ext w ((w.alloc (.cells #[.int .i64 5, .int .i64 (N : Int), .string ⟨#[]⟩, .int .i64 0, .int .i64 0, .int .i64 0] 32)).alloc (.cells #[.int .i64 5, .int .i64 (N : Int), .string ⟨#[]⟩, .int .i64 0, .int .i64 0, .int .i64 0] 32)) := by repeat (first | with_reducible exact Ext.refl _ | with_reducible refine Ext.alloc ?_ _)
  have r1 : ((w.alloc (.cells #[.int .i64 5, .int .i64 (N : Int), .string ⟨#[]⟩, .int .i64 0, .int .i64 0, .int .i64 0] 32)).alloc (.cells #[.int .i64 5, .int .i64 (N : Int), .string ⟨#[]⟩, .int .i64 0, .int .i64 0, .int .i64 0] 32)).cell? ⟨w.heap.size, 1, none⟩ = some (.int .i64 (N : Int)) := by simp [go_sem]
  generalize ((w.alloc (.cells #[.int .i64 5, .int .i64 (N : Int), .string ⟨#[]⟩, .int .i64 0, .int .i64 0, .int .i64 0] 32)).alloc (.cells #[.int .i64 5, .int .i64 (N : Int), .string ⟨#[]⟩, .int .i64 0, .int .i64 0, .int .i64 0] 32)) = W at *
  have z0 : w.heap.size < W.heap.size := World.block_lt_of_cell? _ _ r1
  clear a0 a1 a2 a3 a4 a5
  go_loopw [1, 10] (fun av jv wr => ∃ (j Z : Nat) (l' : List V), jv = .int .i64 (j : Int) ∧ av = .int .i64 (Z : Int) ∧ Z + l'.length = l.length ∧ l.drop Z = l' ∧ j ≤ N ∧ j ≤ Z ∧ manyP (nextP g) N t = manyP (nextP g) (N - j) l' ∧ Ext W wr) (fun _ jv _ => N - (intOf jv).toNat)
  case atStart =>
    have htt := HT.out
    exact ⟨0, A + 1, t, rfl, rfl, by omega, HD.out, Nat.zero_le _, Nat.zero_le _, rfl, Ext.refl _⟩
  case round =>
    obtain ⟨j, Z, l', rfl, rfl, hll, hld, hjN, hjl, hmany, hxr⟩ := hrel
    have r2 := (hxr.cell (p := ⟨w.heap.size, 1, none⟩) z0).trans r1
    have HM := Lib.hid hmany
    have HLD := Lib.hid hld
    have HLL := Lib.hid hll
    have hjb : j ≤ 1000000000 := by omega
    have hjZ := Lib.hid hjl
    have hcall := hih wr Z (Nat.le_trans hBw (hX.trans hxr).size) (HL.out.ext hBw (hX.trans hxr)) (by omega)
    rw [hld] at hcall
    clear hmany hld hll hih hjl
    by_cases hj : j < N
    · have hji : (j : Int) < (N : Int) := by omega
      have hNj : N - j = (N - (j + 1)) + 1 := by omega
      cases hnx : nextP g l' with
      | error c =>
        rw [hnx] at hcall
        have hc0 : (c != 0) = true := by simp [nextP_err g l' c hnx]
        have HF : Hid (nextP (g + 1) (⟨5, (N : Int), ⟨#[]⟩, 0, 0, 0⟩ :: t) = .error c) := Lib.hid (by rw [E.out, HM.out, hNj, manyP_stop _ _ _ _ hnx])
        clear hnx hNj
        go_wp2_with (go_at_call 38; refine hcall.mono ?_; rintro e x1 ⟨hx1, p1, rfl⟩)
        go_ret2
        exact ⟨(hX.trans hxr).trans hx1, by rw [HF.out]; exact ⟨_, rfl⟩⟩
      | ok r =>
        rw [hnx] at hcall
        obtain ⟨p, hp, hlp⟩ := nextP_suffix g l' r hnx
        have hpp := List.length_pos_iff.2 hp
        have hrl : l'.length = p.length + r.length := by rw [hlp, List.length_append]
        have HF : Hid (manyP (nextP g) N t = manyP (nextP g) (N - (j + 1)) r) := Lib.hid (by rw [HM.out, hNj, manyP_step _ _ _ _ hnx])
        have HZ : Hid (∀ Z2, Z2 + r.length = l.length → l.drop Z2 = r ∧ j + 1 ≤ Z2) := Lib.hid (by
          intro Z2 hZ2
          have h1 := HLL.out
          have e1 : Z2 = Z + p.length := by omega
          have hj2 : j ≤ Z := by have := hjZ.out; exact this
          exact ⟨by rw [e1, ← List.drop_drop, HLD.out, hlp, List.drop_left], by omega⟩)
        clear hnx hNj hlp hpp hrl hp
        go_wp2_with (go_at_call 38; refine hcall.mono ?_; rintro e x1 ⟨hx1, Z2, hZ2, rfl⟩)
        go_roundw
        case rel => exact ⟨j + 1, Z2, r, by simp, rfl, hZ2, (HZ.out Z2 hZ2).1, by omega, (HZ.out Z2 hZ2).2, HF.out, hxr.trans hx1⟩
        case measure => simp [intOf]; omega
    · have hjN2 : j = N := by omega
      have hji : ¬ (j : Int) < (N : Int) := by omega
      have HF : Hid (nextP (g + 1) (⟨5, (N : Int), ⟨#[]⟩, 0, 0, 0⟩ :: t) = .ok l') := Lib.hid (by rw [E.out, HM.out, hjN2, Nat.sub_self]; rfl)
      clear hcall
      go_wp2
      go_ret2
      exact ⟨hX.trans hxr, by rw [HF.out]; exact ⟨Z, HLL.out, rfl⟩⟩
end Go.Proofs.Ytdojgdeadhhldaa
