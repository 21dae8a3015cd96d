/- Package sign: Fold. -/
import Derived.Test.YtpagmogikfkncaaSignA
import Derived.Test.YtpagmogikfkncaaBld
namespace Go.Proofs.Ytpagmogikfkncaa
open Go.RowKit

/-- A rune, folded. -/
def foldR (r : Nat) : Int := if (65 ≤ r ∧ r ≤ 90) ∨ (192 ≤ r ∧ r ≤ 222 ∧ r ≠ 215) then (r : Int) + 32 else (r : Int)
theorem foldR_yes (r : Nat) (h : (65 ≤ r ∧ r ≤ 90) ∨ (192 ≤ r ∧ r ≤ 222 ∧ r ≠ 215)) : foldR r = (r : Int) + 32 := if_pos h
theorem foldR_no (r : Nat) (h : ¬ ((65 ≤ r ∧ r ≤ 90) ∨ (192 ≤ r ∧ r ≤ 222 ∧ r ≠ 215))) : foldR r = (r : Int) := if_neg h
def foldL (rs : List (Nat × Nat)) : List UInt8 := rs.flatMap fun d => Lib.encodeRune (foldR d.1)
def foldS (s : ByteArray) : ByteArray := ⟨(foldL (runesAt s 0)).toArray⟩
theorem foldL_cons (d : Nat × Nat) (t : List (Nat × Nat)) : foldL (d :: t) = Lib.encodeRune (foldR d.1) ++ foldL t := by simp [foldL]

theorem BldAt.iter {B b k : Nat} {w : World} {l : List Value} {s : ByteArray} {pos : Nat} (h : BldAt B b w l) (hk : k ≠ b) (hkB : k < B) : BldAt B b (w.iterAt k s pos) l := by
  obtain ⟨hbB, hBs, p, v, hp, hb, ho⟩ := h
  refine ⟨hbB, by rw [Lib.iterAt_size]; exact hBs, p, v, hp, ?_, ?_⟩
  · rw [Lib.iterAt_other w k b s pos (fun e => hk e.symm)]; exact hb
  · exact own_blocks ho fun j hj _ => Lib.iterAt_other w k j s pos (by omega)
theorem Ext.iterAt {w w' : World} {k : Nat} {s : ByteArray} {pos : Nat} (h : Ext w w') (hk : w.heap.size ≤ k) : Ext w (w'.iterAt k s pos) := Lib.below_iterAt h hk s pos
theorem Ext.keepB {w x y : World} {B : Nat} (h : Ext w x) (hk : KeepB B w.heap.size x y) (hB : w.heap.size ≤ B) : Ext w y :=
  Below.trans h ⟨hk.os, hk.tape, hk.output, hk.size, fun k hk' => hk.block k (by omega) (by omega)⟩

set_option maxHeartbeats 4000000 in
set_option maxRecDepth 100000 in
theorem fold_any (s : ByteArray) (w : World) (hs : s.size ≤ 35184372088832) :
    Calls Try.prog 13 #[.string s] w fun e w' => e = .returned (.string (foldS s)) ∧ Ext w w' := by
  have hq : foldS s = ⟨(foldL (runesAt s 0)).toArray⟩ := rfl
  generalize foldS s = q at *
  have HQ := Lib.hid hq
  clear hq
  go_enter Try.func13, Try.ntmps13
  go_wp2
  go_loopw [] (fun wr => ∃ (pos : Nat) (acc : List UInt8), BldAt (w.heap.size + 2) w.heap.size wr (Lib.byteCells acc) ∧ wr.heap[w.heap.size + 1]? = some (.stringIter s pos) ∧ Ext w wr ∧ acc ++ foldL (runesAt s pos) = foldL (runesAt s 0) ∧ acc.length ≤ 4 * pos) (fun wr => s.size - wr.iterPos (w.heap.size + 1))
  case atStart =>
    refine ⟨0, [], ⟨by omega, by simp [World.iter], _, _, .inl rfl, ?_, World.ownsRow_nil _ _ _ _⟩, ?_, ((Ext.refl w).alloc _).trans (Ext.iter _ _), rfl, by simp⟩
    · have := Below.heap_alloc (w.alloc (.cells #[.pointer none, .slice none 0 0] 41)) (.stringIter s 0) w.heap.size (by simp)
      rw [show (w.alloc (.cells #[.pointer none, .slice none 0 0] 41)).iter s 0 = (w.alloc (.cells #[.pointer none, .slice none 0 0] 41)).alloc (.stringIter s 0) from rfl, this]
      show (w.heap.push _)[w.heap.size]? = _
      simp
    · have := World.iter_heap (w.alloc (.cells #[.pointer none, .slice none 0 0] 41)) s 0
      simpa using this
  case round =>
    obtain ⟨pos, acc, hI, hit, hx, hacc, hal⟩ := hrel
    by_cases hp : pos < s.size
    · have hnx : ∀ ty, (Instr.next (.pointer (some ⟨w.heap.size + 1, 0, none⟩)) true ty).run Try.prog wr = _ := fun ty => Lib.run_next_any_at wr (w.heap.size + 1) s pos ty hit hp
      have hwd := decode_wd s pos hp
      have hmx := decode_max s pos
      rw [runesAt_step s pos hp, foldL_cons] at hacc
      generalize Utf8.decode s pos = d at *
      obtain ⟨r, wd⟩ := d
      simp only [] at hacc hnx hwd hmx
      have hit2 := Lib.iterAt_heap wr (w.heap.size + 1) s pos (pos + wd) hit
      have hI2 : BldAt (w.heap.size + 2) w.heap.size (wr.iterAt (w.heap.size + 1) s (pos + wd)) (Lib.byteCells acc) := hI.iter (by omega) (by omega)
      have hx2 : Ext w (wr.iterAt (w.heap.size + 1) s (pos + wd)) := hx.iterAt (by omega)
      have hlen : (Lib.byteCells acc).length + 4 ≤ 140737488355328 := by rw [Lib.byteCells_length]; omega
      have HACC := Lib.hid hacc
      have HL := Lib.hid hlen
      have HI := Lib.hid hI2
      have HIT := Lib.hid hit2
      have HIT0 := Lib.hid hit
      clear hacc hlen hI hit hI2 hit2
      have step : ∀ (x : Int), x = foldR r → ∀ (w' : World), BldAt (w.heap.size + 2) w.heap.size w' (Lib.byteCells acc ++ Lib.runeCells x) → KeepB (w.heap.size + 2) w.heap.size (wr.iterAt (w.heap.size + 1) s (pos + wd)) w' →
          (∃ (pos : Nat) (acc : List UInt8), BldAt (w.heap.size + 2) w.heap.size w' (Lib.byteCells acc) ∧ w'.heap[w.heap.size + 1]? = some (.stringIter s pos) ∧ Ext w w' ∧ acc ++ foldL (runesAt s pos) = foldL (runesAt s 0) ∧ acc.length ≤ 4 * pos) ∧ s.size - w'.iterPos (w.heap.size + 1) < s.size - wr.iterPos (w.heap.size + 1) := by
        rintro x rfl w' hb hk
        have hl4 := Lib.runeCells_le (foldR r)
        rw [Lib.runeCells_length] at hl4
        have hit3 : w'.heap[w.heap.size + 1]? = some (.stringIter s (pos + wd)) := (hk.block _ (by omega) (by omega)).trans HIT.out
        refine ⟨⟨pos + wd, acc ++ Lib.encodeRune (foldR r), ?_, hit3, hx2.keepB hk (by omega), ?_, by rw [List.length_append]; omega⟩, ?_⟩
        · rw [Lib.byteCells_append, Lib.byteCells_encodeRune]; exact hb
        · rw [← HACC.out, List.append_assoc]
        · simp only [World.iterPos, hit3, HIT0.out]
          omega
      have HSTEP := Lib.hid step
      clear step
      have hnx2 : ∀ ty, (Instr.next (.pointer (some ⟨w.heap.size + 1, 0, none⟩)) true ty).run Try.prog wr = .ok (.tuple #[.bool true, .int .i64 pos, .int .i32 r]) (wr.iterAt (w.heap.size + 1) s (pos + wd)) := hnx
      clear hnx
      by_cases hf : (65 ≤ r ∧ r ≤ 90) ∨ (192 ≤ r ∧ r ≤ 222 ∧ r ≠ 215)
      · have HF := Lib.hid (foldR_yes r hf).symm
        have hcases : ((65 : Int) ≤ r ∧ (r : Int) ≤ 90) ∨ (90 < (r : Int) ∧ (192 : Int) ≤ r ∧ (r : Int) ≤ 222 ∧ ((r : Int) != 215) = true) := by
          rcases hf with h | h
          · exact .inl (by omega)
          · exact .inr ⟨by omega, by omega, by omega, by rw [bne_iff_ne]; omega⟩
        clear hf
        rcases hcases with ⟨j1, j2⟩ | ⟨j1, j2, j3, j4⟩
        all_goals
          go_wp2_with (go_at_call 26; refine (writeRune_any (w.heap.size + 2) w.heap.size _ _ (by omega) (by omega) _ HI.out HL.out).mono ?_)
          first | rintro e w2 z rfl hb2 hk2 | rintro e w2 ⟨⟨z, rfl⟩, hb2, hk2⟩
          have hst := HSTEP.out _ HF.out w2 hb2 hk2
          have HST := Lib.hid hst
          clear hst hb2 hk2
          go_wp2
          go_roundw
          case rel => exact HST.out.1
          case measure => exact HST.out.2
      · have HF := Lib.hid (foldR_no r hf).symm
        have hcases : ((r : Int) < 65) ∨ ((65 : Int) ≤ r ∧ 90 < (r : Int) ∧ (r : Int) < 192) ∨ ((65 : Int) ≤ r ∧ 90 < (r : Int) ∧ (192 : Int) ≤ r ∧ 222 < (r : Int)) ∨ ((65 : Int) ≤ r ∧ 90 < (r : Int) ∧ (192 : Int) ≤ r ∧ (r : Int) ≤ 222 ∧ ((r : Int) != 215) = false) := by
          by_cases k1 : r < 65
          · exact .inl (by omega)
          by_cases k2 : r < 192
          · exact .inr (.inl (by omega))
          by_cases k3 : 222 < r
          · exact .inr (.inr (.inl (by omega)))
          · refine .inr (.inr (.inr ⟨by omega, by omega, by omega, by omega, ?_⟩))
            rw [bne_eq_false_iff_eq]
            omega
        clear hf
        rcases hcases with j1 | ⟨j1, j2, j3⟩ | ⟨j1, j2, j3, j4⟩ | ⟨j1, j2, j3, j4, j5⟩
        all_goals
          go_wp2_with (go_at_call 26; refine (writeRune_any (w.heap.size + 2) w.heap.size _ _ (by omega) (by omega) _ HI.out HL.out).mono ?_)
          first | rintro e w2 z rfl hb2 hk2 | rintro e w2 ⟨⟨z, rfl⟩, hb2, hk2⟩
          have hst := HSTEP.out _ HF.out w2 hb2 hk2
          have HST := Lib.hid hst
          clear hst hb2 hk2
          go_wp2
          go_roundw
          case rel => exact HST.out.1
          case measure => exact HST.out.2
    · have hnx : ∀ ty, (Instr.next (.pointer (some ⟨w.heap.size + 1, 0, none⟩)) true ty).run Try.prog wr = _ := fun ty => Lib.run_next_end_at wr (w.heap.size + 1) s pos ty hit hp
      rw [runesAt_end s pos hp] at hacc
      simp only [foldL, List.flatMap_nil, List.append_nil] at hacc
      have HI := Lib.hid hI
      clear hI
      go_wp2_with (go_at_call 27; refine (bldString_any (w.heap.size + 2) w.heap.size acc _ HI.out).mono ?_)
      rintro e w2 ⟨rfl, hb⟩
      go_wp2
      go_ret
      refine ⟨?_, Below.trans hx hb⟩
      rw [HQ.out]
      unfold foldL
      rw [← hacc]
      rfl
end Go.Proofs.Ytpagmogikfkncaa
