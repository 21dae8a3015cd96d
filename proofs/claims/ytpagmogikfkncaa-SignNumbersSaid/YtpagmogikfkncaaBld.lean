/- A strings.Builder of the call's own: copyCheck, WriteRune, String. -/
import Derived.Test.YtpagmogikfkncaaRune
import Derived.Shelf.Strings.BuilderK
namespace Go.Proofs.Ytpagmogikfkncaa
open Go.RowKit

theorem KeepB.refl (B b : Nat) (w : World) : KeepB B b w w := ⟨rfl, rfl, rfl, Nat.le_refl _, fun _ _ _ => rfl⟩
theorem KeepB.trans {B b : Nat} {x y z : World} (h : KeepB B b x y) (k : KeepB B b y z) : KeepB B b x z :=
  ⟨k.os.trans h.os, k.tape.trans h.tape, k.output.trans h.output, Nat.le_trans h.size k.size, fun i hi hb => (k.block i hi hb).trans (h.block i hi hb)⟩
theorem KeepB.set {B b o : Nat} (w : World) (v : Value) : KeepB B b w (w.setCell ⟨b, o, none⟩ v) :=
  ⟨rfl, rfl, rfl, by simp [World.setCell], fun k _ hr => Below.heap_setCell w ⟨b, o, none⟩ v k hr⟩
theorem KeepB.of_below {B b : Nat} {x y : World} (h : Below B x y) : KeepB B b x y := ⟨h.os, h.tape, h.output, h.size, fun k hk _ => h.block k hk⟩
/-- The builder's block written. -/
theorem heap_set_own {w : World} {b o : Nat} {cs : Array Value} {t : TypeId} (v : Value) (h : w.heap[b]? = some (.cells cs t)) : (w.setCell ⟨b, o, none⟩ v).heap[b]? = some (.cells (cs.setIfInBounds o v) t) := heap_setCell_same w b o cs t v h

set_option maxHeartbeats 4000000 in
set_option maxRecDepth 100000 in
theorem copyCheck_any (B b : Nat) (p v : Value) (w : World) (hp : p = .pointer none ∨ p = .pointer (some ⟨b, 0, none⟩)) (hb : w.heap[b]? = some (.cells #[p, v] 41)) :
    Calls Try.prog 28 #[.pointer (some ⟨b, 0, none⟩)] w fun e w' => e = .returned (.tuple #[]) ∧ w'.heap[b]? = some (.cells #[.pointer (some ⟨b, 0, none⟩), v] 41) ∧ KeepB (b + 1) b w w' ∧ (w' = w ∨ w' = w.setCell ⟨b, 0, none⟩ (.pointer (some ⟨b, 0, none⟩))) := by
  have c0 : w.cell? ⟨b, 0, none⟩ = some p := by simp [World.cell?, hb]
  have f0 : w.frozen? ⟨b, 0, none⟩ = false := by simp [World.frozen?, hb]
  have hs := heap_set_own (o := 0) (.pointer (some ⟨b, 0, none⟩)) hb
  have hsh : w.shape? b = some (41, 2) := by simp [World.shape?, hb]
  have HB := Lib.hid hb
  have HS := Lib.hid hs
  clear hb hs
  have sizeB : (Try.prog.info? 41).map (·.size) = some 2 := by kernel_rfl
  obtain ⟨j, hj, hjs⟩ := Option.map_eq_some_iff.1 sizeB
  rcases hp with rfl | rfl
  · go_enter Try.func28, Try.ntmps28
    go_wp2
    rw [Lib.run_to_unsafe w ⟨b, 0, none⟩ Try.underlying39 Try.underlying49 hj (by rw [hjs]; decide) hsh (Nat.zero_lt_succ 1)]
    simp only [Result.andThen]
    rw [Oper.upon_value]
    go_wp2
    rw [run_callFunc_extern Try.func30 (by kernel_rfl) (by kernel_rfl) (by kernel_rfl) (e := Extern.AbiNoEscape.same) (by kernel_rfl)]
    rw [Lib.run_noEscape]
    simp only [Result.andThen]
    rw [Oper.upon_value]
    go_wp2
    rw [Lib.run_from_unsafe w ⟨b, 0, none⟩ Try.underlying49 Try.underlying39 hj hsh (by kernel_rfl)]
    simp only [Result.andThen]
    rw [Oper.upon_value]
    go_wp2
    go_end0
    exact ⟨rfl, HS.out, KeepB.set _ _, .inr rfl⟩
  · go_enter Try.func28, Try.ntmps28
    go_wp2
    rw [Lib.run_neq_ptr_same w _ Try.underlying39 hj]
    go_wp2
    go_end0
    exact ⟨rfl, HB.out, KeepB.refl _ _ _, .inl rfl⟩

theorem own_blocks {B : Nat} {te : TypeId} {sz : Nat} {v : Value} {n : Nat} {xs : List Value} {w w' : World} (h : w.ownsRow B te sz v n xs) (hk : ∀ k, B ≤ k → k < w.heap.size → w'.heap[k]? = w.heap[k]?) : w'.ownsRow B te sz v n xs := by
  obtain ⟨h1, h2⟩ := h
  refine ⟨h1, ?_⟩
  rcases h2 with h2 | ⟨g, cap, cur, rfl, h3, h4, h5⟩
  · exact .inl h2
  · exact .inr ⟨g, cap, cur, rfl, h3, by rw [hk g h3 (Array.getElem?_eq_some_iff.1 h4).1]; exact h4, h5⟩
theorem own_slice {B : Nat} {te : TypeId} {sz : Nat} {v : Value} {n : Nat} {xs : List Value} {w : World} (h : w.ownsRow B te sz v n xs) : ∃ a cap, v = .slice a n cap := by
  rcases h.2 with ⟨rfl, h0⟩ | ⟨g, cap, cur, rfl, _⟩
  · exact ⟨none, 0, by rw [h0]⟩
  · exact ⟨_, _, rfl⟩

set_option maxHeartbeats 4000000 in
set_option maxRecDepth 100000 in
theorem writeRune_any (B b : Nat) (l : List Value) (r : Int) (hr0 : -2147483648 ≤ r) (hr1 : r ≤ 2147483647) (w : World) (h : BldAt B b w l) (hlen : l.length + 4 ≤ 140737488355328) :
    Calls Try.prog 26 #[.pointer (some ⟨b, 0, none⟩), .int .i32 r] w fun e w' => (∃ z, e = .returned (.tuple #[z, .nilIface])) ∧ BldAt B b w' (l ++ Lib.runeCells r) ∧ KeepB B b w w' := by
  obtain ⟨hbB, hBs, p, v, hp, hb, ho⟩ := h
  have hrl := Lib.runeCells_le r
  go_enter Try.func26, Try.ntmps26
  go_wp2_with (go_at_call 28; refine (copyCheck_any B b p v _ hp hb).mono ?_)
  rintro e w1 ⟨rfl, hb1, hk1, hw1⟩
  have ho1 : w1.ownsRow B 5 1 v l.length l := own_blocks ho fun k hk _ => by
    rcases hw1 with rfl | rfl
    · rfl
    · exact Below.heap_setCell _ _ _ _ (by show k ≠ b; omega)
  have hK1 : KeepB B b w w1 := ⟨hk1.os, hk1.tape, hk1.output, hk1.size, fun k hk hne => by
    rcases hw1 with rfl | rfl
    · rfl
    · exact Below.heap_setCell _ _ _ _ hne⟩
  have hsz1 := hk1.size
  clear hw1 hk1 ho hb hp
  obtain ⟨a, cap, rfl⟩ := own_slice ho1
  have c0 : w1.cell? ⟨b, 1, none⟩ = some (.slice a l.length cap) := by simp [World.cell?, hb1]
  have HB := Lib.hid hb1
  clear hb1
  go_wp2_with (go_at_call 29; refine (rune_any B _ l.length l r hr0 hr1 _ ho1 (by omega) (by omega)).mono ?_)
  rintro e w2 ⟨v', rfl, ho2, hbl⟩
  have hb2 := (hbl.block b hbB).trans HB.out
  have f1 : w2.frozen? ⟨b, 1, none⟩ = false := by simp [World.frozen?, hb2]
  have g1 : w2.cell? ⟨b, 1, none⟩ = some (.slice a l.length cap) := by simp [World.cell?, hb2]
  have hs := heap_set_own (o := 1) v' hb2
  obtain ⟨a2, cap2, rfl⟩ := own_slice ho2
  have hK2 : KeepB B b w (w2.setCell ⟨b, 1, none⟩ (.slice a2 (l.length + (Lib.runeCells r).length) cap2)) := (hK1.trans (KeepB.of_below hbl)).trans (KeepB.set _ _)
  have R : BldAt B b (w2.setCell ⟨b, 1, none⟩ (.slice a2 (l.length + (Lib.runeCells r).length) cap2)) (l ++ Lib.runeCells r) := by
    refine ⟨hbB, Nat.le_trans hBs hK2.size, _, _, .inr rfl, hs, ?_⟩
    rw [List.length_append]
    exact own_blocks ho2 fun k hk _ => Below.heap_setCell _ _ _ _ (by show k ≠ b; omega)
  have HR := Lib.hid R
  have HK := Lib.hid hK2
  clear R hK2 hs hb2 hbl ho2 hK1 c0 ho1 HB
  generalize (Lib.runeCells r).length = q at *
  go_wp2
  go_ret2
  exact ⟨⟨_, rfl⟩, HR.out, HK.out⟩

/-- The numbering under which the kit's law on String is read here. -/
def strRen : Go.Shelf.Ren := ⟨fun | 169 => 27 | n => n, fun | 70 => 39 | 9 => 9 | 0 => 0 | 72 => 41 | 37 => 36 | 127 => 48 | 3 => 3 | 5 => 5 | n => n, fun | n => n⟩
theorem strLays : Go.Proofs.Lays.n169 Try.prog strRen := {
  mixed := by kernel_rfl
  f169 := Try.func27.trans (congrArg some (by kernel_rfl))
  t0 := Try.underlying0
  a0 := Try.isAgg0
  z0 := Try.sizeOf0
  v0 := Try.zeroValue0
  t3 := Try.underlying3
  a3 := Try.isAgg3
  z3 := Try.sizeOf3
  v3 := Try.zeroValue3
  t9 := Try.underlying9
  a9 := Try.isAgg9
  z9 := Try.sizeOf9
  v9 := Try.zeroValue9
  t37 := Try.underlying36
  a37 := Try.isAgg36
  z37 := Try.sizeOf36
  v37 := Try.zeroValue36
  t70 := Try.underlying39
  a70 := Try.isAgg39
  z70 := Try.sizeOf39
  v70 := Try.zeroValue39
  t72 := Try.underlying41
  a72 := Try.isAgg41
  z72 := Try.sizeOf41
  v72 := Try.zeroValue41
  t127 := Try.underlying48
  a127 := Try.isAgg48
  z127 := Try.sizeOf48
  v127 := Try.zeroValue48 }
theorem strExtra : Builder.Extra Try.prog strRen := {
  sizeBuilder := by kernel_rfl
  liesBuilder := by kernel_rfl
  t5 := Try.underlying5
  a5 := Try.isAgg5
  z5 := Try.sizeOf5
  v5 := Try.zeroValue5
  infoByte := by kernel_rfl
  cellsByte := by kernel_rfl
  sizeByte := by kernel_rfl
  neB5 := by decide }
theorem BldAt.is {B b : Nat} {w : World} {l : List Value} (h : BldAt B b w l) : Lib.IsBuilder 41 5 b b l w := by
  obtain ⟨hbB, hBs, p, v, hp, hb, ho⟩ := h
  have hne : v.ownBlock ≠ some b := by
    rcases ho.2 with ⟨rfl, _⟩ | ⟨g, cap, cur, rfl, h3, _⟩
    · simp [Value.ownBlock]
    · simp [Value.ownBlock]; omega
  have := own_base ho (Nat.le_of_lt hbB)
  rcases hp with rfl | rfl
  · exact .inl ⟨Nat.le_refl _, v, hb, this, hne⟩
  · exact .inr ⟨Nat.le_refl _, v, hb, this, hne⟩
theorem bldString_any (B b : Nat) (l : List UInt8) (w : World) (h : BldAt B b w (Lib.byteCells l)) :
    Calls Try.prog 27 #[.pointer (some ⟨b, 0, none⟩)] w fun e w' => e = .returned (.string ⟨l.toArray⟩) ∧ Below b w w' :=
  Any.Builder_String_any strLays strExtra b b l w h.is (by have := h.1; have := h.2.1; omega)
end Go.Proofs.Ytpagmogikfkncaa
