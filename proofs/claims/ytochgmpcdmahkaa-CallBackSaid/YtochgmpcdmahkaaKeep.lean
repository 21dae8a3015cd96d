/- Worlds that differ in one block alone. No function of the program is named. -/
import Derived.Test.YtochgmpcdmahkaaBase
namespace Go.Proofs.Ytochgmpcdmahkaa
open Go.RowKit

/-- All but block r is as it was. -/
structure KeepR (r : Nat) (w w' : World) : Prop where
  os : w'.os = w.os
  tape : w'.tape = w.tape
  output : w'.output = w.output
  size : w.heap.size ≤ w'.heap.size
  block : ∀ k, k < w.heap.size → k ≠ r → w'.heap[k]? = w.heap[k]?
theorem KeepR.refl (r : Nat) (w : World) : KeepR r w w := ⟨rfl, rfl, rfl, Nat.le_refl _, fun _ _ _ => rfl⟩
theorem KeepR.trans {r : Nat} {a b c : World} (h : KeepR r a b) (k : KeepR r b c) : KeepR r a c :=
  ⟨k.os.trans h.os, k.tape.trans h.tape, k.output.trans h.output, Nat.le_trans h.size k.size, fun i hi hr => (k.block i (Nat.lt_of_lt_of_le hi h.size) hr).trans (h.block i hi hr)⟩
theorem KeepR.of_ext {r : Nat} {a b : World} (h : Ext a b) : KeepR r a b := ⟨Below.os h, Below.tape h, Below.output h, h.size, fun k hk _ => Below.block h k hk⟩
theorem KeepR.set {r o : Nat} {a b : World} (h : KeepR r a b) (v : Value) : KeepR r a (b.setCell ⟨r, o, none⟩ v) :=
  h.trans ⟨rfl, rfl, rfl, by simp [World.setCell], fun k _ hr => Below.heap_setCell b ⟨r, o, none⟩ v k hr⟩
theorem KeepR.drew {r : Nat} {a b : World} (h : KeepR r a b) : KeepR r a b.drew := h.trans ⟨rfl, rfl, rfl, Nat.le_refl _, fun _ _ _ => rfl⟩
theorem KeepR.drewN {r : Nat} {a b : World} (h : KeepR r a b) (n : Nat) : KeepR r a (b.drewN n) := h.trans ⟨rfl, rfl, rfl, Nat.le_refl _, fun _ _ _ => rfl⟩
theorem KeepR.below {r B : Nat} {a b : World} (h : KeepR r a b) (hB : B ≤ r) (hs : B ≤ a.heap.size) : Below B a b := ⟨h.os, h.tape, h.output, h.size, fun k hk => h.block k (by omega) (by omega)⟩

/-- All but the blocks r and q is as it was. -/
structure Keep2 (r q : Nat) (w w' : World) : Prop where
  os : w'.os = w.os
  tape : w'.tape = w.tape
  output : w'.output = w.output
  size : w.heap.size ≤ w'.heap.size
  block : ∀ k, k < w.heap.size → k ≠ r → k ≠ q → w'.heap[k]? = w.heap[k]?
theorem Keep2.refl (r q : Nat) (w : World) : Keep2 r q w w := ⟨rfl, rfl, rfl, Nat.le_refl _, fun _ _ _ _ => rfl⟩
theorem Keep2.trans {r q : Nat} {a b c : World} (h : Keep2 r q a b) (k : Keep2 r q b c) : Keep2 r q a c :=
  ⟨k.os.trans h.os, k.tape.trans h.tape, k.output.trans h.output, Nat.le_trans h.size k.size, fun i hi hr hq => (k.block i (Nat.lt_of_lt_of_le hi h.size) hr hq).trans (h.block i hi hr hq)⟩
theorem Keep2.of1 {r q : Nat} {a b : World} (h : KeepR r a b) : Keep2 r q a b := ⟨h.os, h.tape, h.output, h.size, fun k hk hr _ => h.block k hk hr⟩
theorem Keep2.of2 {r q : Nat} {a b : World} (h : KeepR q a b) : Keep2 r q a b := ⟨h.os, h.tape, h.output, h.size, fun k hk _ hq => h.block k hk hq⟩
theorem Keep2.of_ext {r q : Nat} {a b : World} (h : Ext a b) : Keep2 r q a b := .of1 (KeepR.of_ext h)
theorem Keep2.drew {r q : Nat} {a b : World} (h : Keep2 r q a b) : Keep2 r q a b.drew := h.trans ⟨rfl, rfl, rfl, Nat.le_refl _, fun _ _ _ _ => rfl⟩
theorem Ext.keep2 {a b c : World} {r q : Nat} (h : Ext a b) (hk : Keep2 r q b c) (hr : a.heap.size ≤ r) (hq : a.heap.size ≤ q) : Ext a c :=
  Below.trans h ⟨hk.os, hk.tape, hk.output, hk.size, fun k hk' => hk.block k (Nat.lt_of_lt_of_le hk' h.size) (by omega) (by omega)⟩
end Go.Proofs.Ytochgmpcdmahkaa
