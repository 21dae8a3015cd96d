/- Contracts of impostbook's Roomy and Intact at bytes. -/
import Derived.Test.YteenkbfmlnpmlaaCopy
import Derived.Test.YteenkbfmlnpmlaaPackPut
namespace Go.Proofs.Yteenkbfmlnpmlaa
open Go.RowKit

set_option maxHeartbeats 2000000 in
set_option maxRecDepth 100000 in
theorem roomy8 (v : Value) (l : List UInt8) (mk : UInt8) (w : World) (hr : Rd8 w v l) (h2 : l.length ≤ 140737488351232) :
    Calls Try.prog 25 #[v, .int .u8 (mk.toNat : Int)] w fun e w' => ∃ g, e = .returned (.slice (some ⟨g, 0, none⟩) (l.length + 80) (l.length + 80)) ∧ Own8 5 w' w.heap.size (.slice (some ⟨g, 0, none⟩) (l.length + 80) (l.length + 80)) (l ++ List.replicate 80 mk) ∧ Ext w w' := by
  obtain ⟨i0, hi, hz0, hz1, hz2⟩ := info_parts Try.infoU8
  have hr0 := hr
  obtain ⟨_, _, a, cap, rfl, _⟩ := hr0
  have HC : Hid ((l.length : Int) + 80 = ((l.length + 80 : Nat) : Int)) := Lib.hid (by omega)
  go_enter Try.func25, Try.ntmps25
  go_wp2_with (at_make; refine wpList_make_full _ rfl _ _ 38 rfl w.heap.size 5 i0 (.int .u8 0) 1 Try.underlying38 hi hz0 hz1 .i64 .i64 _ _ (l.length + 80) rfl rfl HC.out HC.out ?b2 ?b3 ?b4 ?_)
  case b2 => rw [hz2]; omega
  case b3 => unfold maxLen; omega
  case b4 => exact Nat.le_refl _
  intro w1 hown hg
  have hx : Ext w w1 := (Below.refl w.heap.size w).grown hg (Nat.le_refl _) (fun k hk => by cases hk)
  have hs := src_of_slr (P := Try.prog) Try.underlying38 (hr.ext hx) (bcell_one l)
  go_wp2_with (with_reducible refine wpList_own_copy _ rfl (.tmp 11) (.tmp 12) 38 38 rfl w.heap.size 5 i0 1 Try.underlying38 hi hz1 (by decide) _ _ (l.length + 80) l.length _ _ hown hs rfl rfl ?c1 ?_)
  case c1 => omega
  intro w2 ho2 hb2
  have hx2 : Ext w w2 := Below.trans hx hb2
  have hL : l.map bcell ++ List.drop l.length (madeCells #[Value.int .u8 0] (l.length + 80)).toList = (l ++ List.replicate 80 0).map bcell := by
    have e : (madeCells #[Value.int .u8 0] (l.length + 80)).toList = List.replicate (l.length + 80) (bcell 0) := by
      apply List.ext_getElem
      · simp [madeCells]
      · intro i h1 h2
        simp [madeCells, bcell, Nat.mod_one]
    rw [e]
    simp
  rw [hL] at ho2
  have R : Own8 5 w2 w.heap.size (.slice (some ⟨w.heap.size, 0, none⟩) (l.length + 80) (l.length + 80)) (l ++ List.replicate 80 0) := own8_of ho2 (by simp) rfl
  clear ho2 hown hs hL HC hg
  go_wp2_with fail
  have hlen : l.length ≤ 140737488351232 := h2
  clear h2
  go_loopw [6] (fun iv wr => ∃ k : Nat, k ≤ 80 ∧ iv = .int .i64 ((l.length + k : Nat) : Int) ∧ Own8 5 wr w.heap.size (.slice (some ⟨w.heap.size, 0, none⟩) (l.length + 80) (l.length + 80)) (l ++ (List.replicate k mk ++ List.replicate (80 - k) 0)) ∧ Ext w wr) (fun iv _ => l.length + 80 - (intOf iv).toNat)
  case atStart => exact ⟨0, by omega, rfl, by simpa using R, hx2⟩
  case round =>
    obtain ⟨k, hk, rfl, ho, hxr⟩ := hrel
    by_cases hlt : k < 80
    · have hll : (l ++ (List.replicate k mk ++ List.replicate (80 - k) 0)).length = l.length + 80 := by simp; omega
      obtain ⟨c1, c2, c3, c4⟩ := own8_at ho hll.symm (l.length + k) (by omega)
      have hset := own8_set ho hll.symm (l.length + k) mk (by omega)
      have hxs := fun u => hxr.setCell (p := ⟨w.heap.size, l.length + k, none⟩) (Nat.le_refl _) u
      go_wp2
      have hset2 : (l ++ (List.replicate k mk ++ List.replicate (80 - k) 0)).set (l.length + k) mk = l ++ (List.replicate (k + 1) mk ++ List.replicate (80 - (k + 1)) 0) := by
        rw [List.set_append_right _ _ (by omega), List.set_append_right _ _ (by simp)]
        have e1 : 80 - k = (80 - (k + 1)) + 1 := by omega
        rw [e1, List.replicate_succ, List.replicate_succ']
        simp
      rw [hset2] at hset
      refine ⟨⟨k + 1, by omega, by simp; omega, hset, hxs _⟩, by simp [intOf]; omega⟩
    · obtain rfl : k = 80 := by omega
      go_wp2
      go_ret
      exact ⟨w.heap.size, rfl, by simpa using ho, hxr⟩

set_option maxHeartbeats 2000000 in
set_option maxRecDepth 100000 in
theorem intact8 (g : Nat) (vb : Value) (l : List UInt8) (mk : UInt8) (w : World) (B : Nat) (ho : Own8 5 w B (.slice (some ⟨g, 0, none⟩) (l.length + 80) (l.length + 80)) (l ++ List.replicate 80 mk)) (hb : Rd8 w vb l) (h2 : l.length ≤ 140737488351232) :
    Calls Try.prog 27 #[.slice (some ⟨g, 0, none⟩) (l.length + 80) (l.length + 80), vb, .int .u8 (mk.toNat : Int)] w fun e w' => e = .returned (.bool true) ∧ Ext w w' := by
  have hb0 := hb
  obtain ⟨_, _, a, cap, rfl, _⟩ := hb0
  have hll : (l ++ List.replicate 80 mk).length = l.length + 80 := by simp
  have hrf : Rd8 w (.slice (some ⟨g, 0, none⟩) l.length (l.length + 80)) l := by
    have h1 := Own8.rd ho
    have h3 := Rd8.cut h1 l.length (by omega) (l.length + 80)
    simpa using h3
  have hne : ((l.length : Int) + 80 != (l.length : Int) + 80) = false := by simp
  go_enter Try.func27, Try.ntmps27
  go_wp2_with fail
  refine (same_yes _ _ l l _ hrf hb rfl).mono ?_
  rintro e w1 ⟨rfl, hx1⟩
  go_wp2_with fail
  go_loopw [7] (fun iv wr => ∃ k : Nat, k ≤ 80 ∧ iv = .int .i64 ((l.length + k : Nat) : Int) ∧ Ext w wr) (fun iv _ => l.length + 80 - (intOf iv).toNat)
  case atStart => exact ⟨0, by omega, rfl, hx1⟩
  case round =>
    obtain ⟨k, hk, rfl, hxr⟩ := hrel
    by_cases hlt : k < 80
    · obtain ⟨c1, _, c3, c4⟩ := own8_at ho hll.symm (l.length + k) (by omega)
      have hm : (l ++ List.replicate 80 mk)[l.length + k]'(by omega) = mk := by
        rw [List.getElem_append_right (by omega), List.getElem_replicate]
      rw [hm, ← hxr.cell (p := ⟨g, l.length + k, none⟩) c4] at c1
      have hmn : ((mk.toNat : Int) != (mk.toNat : Int)) = false := by simp
      simp only [bcell] at c1
      clear hm
      go_wp2
      refine ⟨⟨k + 1, by omega, by simp; omega, hxr⟩, by simp [intOf]; omega⟩
    · obtain rfl : k = 80 := by omega
      go_wp2
      go_ret
      exact ⟨rfl, hxr⟩
end Go.Proofs.Yteenkbfmlnpmlaa
