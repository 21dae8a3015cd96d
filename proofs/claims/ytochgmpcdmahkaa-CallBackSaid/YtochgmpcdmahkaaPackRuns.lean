/- Chapter 2's closed runs: the law PackRuns answers true. -/
import Derived.Test.YtochgmpcdmahkaaPackU
import Derived.Test.YtochgmpcdmahkaaOwn
namespace Go.Proofs.Ytochgmpcdmahkaa
open Go.RowKit

/-- Bytes that were written out just now. -/
theorem rd_lit {w x : World} {cs : Array Value} {t : TypeId} {l : List UInt8} {n : Nat} (hx : Ext (w.alloc (.cells cs t)) x) (hc : cs.toList = l.map bcell) (hn : n = l.length) (hl : l.length ≤ 1000) : Rd8 x (.slice (some ⟨w.heap.size, 0, none⟩) n n) l := by
  subst hn
  obtain ⟨hk, _⟩ := Ext.bc hx
  have hz := hx.size
  simp only [World.size_alloc] at hz
  refine ⟨by simp, by unfold maxLen; omega, _, _, rfl, .inr ⟨_, 0, rfl, by omega, fun j hj => ?_⟩⟩
  rw [hk _ _ (by simp), World.cell?_alloc_at _ _ _ _ rfl, ← hc]
  simp


/-- A slice of nothing that was written out just now. -/
theorem own_empty {B : Nat} (w : World) (e : TypeId) (hB : B ≤ w.heap.size) : (w.alloc (.cells #[] e)).ownsRow B e 1 (.slice (some ⟨w.heap.size, 0, none⟩) 0 0) 0 [] :=
  ⟨rfl, .inr ⟨w.heap.size, 0, #[], rfl, hB, heap_alloc_new w _, Nat.le_refl _, Nat.zero_le _, rfl, rfl⟩⟩

section
variable {B T : Nat} {r : Nat} {bs : List UInt8} {s : RS} {w : World}
theorem num_is (h : RdX B T w r bs s) {q : Int × RS} (hq : rNum bs s = q) : Calls Try.prog 17 #[.pointer (some ⟨r, 0, none⟩)] w fun x w' => x = .returned (.int .i64 q.1) ∧ RdX B T w' r bs q.2 ∧ KeepR r w w' := hq ▸ num_x h
theorem rwithin_is (h : RdX B T w r bs s) (lo hi : Int) {q : Int × RS} (hq : rWithin bs s lo hi = q) : Calls Try.prog 53 #[.pointer (some ⟨r, 0, none⟩), .int .i64 lo, .int .i64 hi] w fun x w' => x = .returned (.int .i64 q.1) ∧ RdX B T w' r bs q.2 ∧ KeepR r w w' := hq ▸ within_x h lo hi
theorem text_is (h : RdX B T w r bs s) (most : Int) {q : List UInt8 × RS} (hq : rText bs s most = q) : Calls Try.prog 48 #[.pointer (some ⟨r, 0, none⟩), .int .i64 most] w fun x w' => x = .returned (.string ⟨q.1.toArray⟩) ∧ RdX B T w' r bs q.2 ∧ KeepR r w w' := hq ▸ text_x h most
theorem end_is (h : RdX B T w r bs s) {q : RS} (hq : rEnd bs s = q) : Calls Try.prog 34 #[.pointer (some ⟨r, 0, none⟩)] w fun x w' => x = .returned (.int .i64 q.err) ∧ RdX B T w' r bs q ∧ KeepR r w w' := hq ▸ end_x h
end

end Go.Proofs.Ytochgmpcdmahkaa
