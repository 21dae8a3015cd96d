/- Small laws of this set that name no function of the program: bits of a number, slices that read as a list. -/
import Derived.WalkKit
import Derived.WalkSmall
import Derived.KernelRfl
import Derived.Lib.Hide
import Derived.Deep.QuietTactic
import Derived.BigQuiet
namespace Go.Proofs.Ytochgmpcdmahkaa
open Go.RowKit

/-- The lowest bit of a number of 64 bits, by the model's own and. -/
theorem and1_i64 (x : Int) : bits .and .i64 x 1 = x % 2 := by
  have e0 : bits .and .i64 x 1 = IntKind.i64.wrap ((BitVec.ofInt 64 x &&& BitVec.ofInt 64 1).toNat : Nat) := rfl
  have h : (BitVec.ofInt 64 x &&& BitVec.ofInt 64 1).toNat = (x % 2).toNat := by
    rw [BitVec.toNat_and, BitVec.toNat_ofInt, BitVec.toNat_ofInt]
    have e : ((1 : Int) % (2 ^ 64 : Nat)).toNat = 1 := by decide
    rw [e, Nat.and_one_is_mod]
    omega
  rw [e0, h]
  have h2 : 0 ≤ x % 2 ∧ x % 2 < 2 := by omega
  generalize x % 2 = y at *
  obtain rfl | rfl : y = 0 ∨ y = 1 := by omega
  · rfl
  · rfl

/-- The world has grown by blocks of the call's own at most: what was there is as it was. -/
def Ext (w w' : World) : Prop := Below w.heap.size w w'
theorem Ext.refl (w : World) : Ext w w := Below.refl _ _
theorem Ext.trans {a b c : World} (h : Ext a b) (k : Ext b c) : Ext a c := Below.trans h (Below.mono k h.size)
theorem Ext.size {a b : World} (h : Ext a b) : a.heap.size ≤ b.heap.size := Below.size h
theorem Ext.alloc {a b : World} (h : Ext a b) (o : Obj) : Ext a (b.alloc o) := Below.alloc h h.size o
theorem Ext.drew {a b : World} (h : Ext a b) : Ext a b.drew := Below.drew h
theorem Ext.drewN {a b : World} (h : Ext a b) (n : Nat) : Ext a (b.drewN n) := below_drewN h n
theorem Ext.setCell {a b : World} (h : Ext a b) {p : Addr} (hp : a.heap.size ≤ p.block) (u : Value) : Ext a (b.setCell p u) := Below.setCell h hp u
theorem Ext.cell {a b : World} (h : Ext a b) {p : Addr} (hp : p.block < a.heap.size) : b.cell? p = a.cell? p := Below.cell h hp
theorem Ext.frozen {a b : World} (h : Ext a b) {p : Addr} (hp : p.block < a.heap.size) : b.frozen? p = a.frozen? p := Below.frozen h hp

theorem Ext.bc {a c : World} (h : Ext a c) : (∀ b o, b < a.heap.size → c.cell? ⟨b, o, none⟩ = a.cell? ⟨b, o, none⟩) ∧ (∀ b o, b < a.heap.size → c.frozen? ⟨b, o, none⟩ = a.frozen? ⟨b, o, none⟩) :=
  ⟨fun b o hb => Below.cell h (p := ⟨b, o, none⟩) hb, fun b o hb => Below.frozen h (p := ⟨b, o, none⟩) hb⟩

/-- A contract that leaves the world alone, met inside a region that draws. -/
theorem quiet_eq {P : Program} {f : FuncId} {args : Array Value} {w : World} {n : Nat} {v : Value}
    (h : Calls P f args (w.drewN n) fun e w' => e = .returned v ∧ w.drewN n = w') : Calls P f args (w.drewN n) fun e w'' => e = .returned v ∧ ∃ m, w'' = w.drewN m :=
  h.mono fun _ _ ⟨he, hm⟩ => ⟨he, n, hm.symm⟩

/-- A slice of n elements of so many cells each, that reads as these cells, in a block below B (or it is empty). -/
def SlR (w : World) (B : Nat) (size : Nat) (v : Value) (n : Nat) (xs : List Value) : Prop :=
  xs.length = n * size ∧ n ≤ maxLen ∧ ∃ a cap, v = .slice a n cap ∧ (n = 0 ∨ ∃ b off, a = some ⟨b, off, none⟩ ∧ b < B ∧ ∀ j, j < n * size → w.cell? ⟨b, off + j, none⟩ = xs[j]?)

theorem SlR.mono {w w' : World} {B size n : Nat} {v : Value} {xs : List Value} (h : SlR w B size v n xs) (hb : Below B w w') : SlR w' B size v n xs := by
  obtain ⟨h1, h2, a, cap, rfl, h3⟩ := h
  refine ⟨h1, h2, a, cap, rfl, ?_⟩
  rcases h3 with h3 | ⟨b, off, rfl, hlt, hc⟩
  · exact .inl h3
  · exact .inr ⟨b, off, rfl, hlt, fun j hj => (hb.cell (p := ⟨b, off + j, none⟩) hlt).trans (hc j hj)⟩

theorem SlR.ext {w w' : World} {size n : Nat} {v : Value} {xs : List Value} (h : SlR w w.heap.size size v n xs) (hb : Ext w w') : SlR w' w.heap.size size v n xs := h.mono hb
theorem SlR.up {w : World} {B B' size n : Nat} {v : Value} {xs : List Value} (h : SlR w B size v n xs) (hb : B ≤ B') : SlR w B' size v n xs := by
  obtain ⟨h1, h2, a, cap, rfl, h3⟩ := h
  refine ⟨h1, h2, a, cap, rfl, ?_⟩
  rcases h3 with h3 | ⟨b, off, rfl, hlt, hc⟩
  · exact .inl h3
  · exact .inr ⟨b, off, rfl, by omega, hc⟩

theorem SlR.nil (w : World) (B size : Nat) : SlR w B size (.slice none 0 0) 0 [] := ⟨by simp, Nat.zero_le _, none, 0, rfl, .inl rfl⟩

/-- What the call owns reads as it. -/
theorem SlR.of_own {w : World} {base e size n : Nat} {v : Value} {xs : List Value} (h : w.ownsRow base e size v n xs) : SlR w w.heap.size size v n xs := by
  obtain ⟨h1, h2⟩ := h
  rcases h2 with ⟨rfl, rfl⟩ | ⟨g, cap, cur, rfl, hg, hh, hn, hcap, hsz, ht⟩
  · simp at h1
    subst h1
    exact SlR.nil _ _ _
  · refine ⟨h1, by omega, some ⟨g, 0, none⟩, cap, rfl, .inr ⟨g, 0, rfl, ?_, fun j hj => ?_⟩⟩
    · have := (Array.getElem?_eq_some_iff.1 hh).1
      exact this
    · simp only [World.cell?, hh]
      rw [← ht, List.getElem?_take_of_lt hj]
      simp
end Go.Proofs.Ytochgmpcdmahkaa
