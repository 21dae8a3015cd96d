/- Contracts of impostlaw2's put and back: an item written, and read again. -/
import Derived.Test.YteenkbfmlnpmlaaPackRefW
import Derived.Deep.RegionHeld3
namespace Go.Proofs.Yteenkbfmlnpmlaa
open Go.RowKit

theorem own8_form {te : TypeId} {w : World} {B : Nat} {v : Value} {l : List UInt8} (h : Own8 te w B v l) : ∃ a cap, v = .slice a l.length cap ∧ l.length ≤ cap ∧ cap ≤ maxLen := by
  rcases h.2 with ⟨rfl, h0⟩ | ⟨g, cap, cur, rfl, _, _, h5, h6, _⟩
  · exact ⟨none, 0, by rw [h0], by omega, Nat.zero_le _⟩
  · exact ⟨_, _, rfl, h5, h6⟩

/-- The beginning of what a slice reads as. -/
theorem Rd8.cut {w : World} {a : Option Addr} {n cap : Nat} {l : List UInt8} (h : Rd8 w (.slice a n cap) l) (k : Nat) (hk : k ≤ l.length) (c : Nat) : Rd8 w (.slice a k c) (l.take k) := by
  obtain ⟨h1, h2, a', cap', he, h3⟩ := h
  simp only [Value.slice.injEq] at he
  obtain ⟨rfl, rfl, rfl⟩ := he
  have hlen : (l.take k).length = k := by simp; omega
  refine ⟨by simp, by omega, a, c, by rw [hlen], ?_⟩
  rw [hlen]
  rcases h3 with h3 | ⟨b, off, rfl, hlt, hc⟩
  · exact .inl (by omega)
  · by_cases hk0 : k = 0
    · exact .inl hk0
    · exact .inr ⟨b, off, rfl, hlt, fun j hj => by rw [hc j (by omega), List.map_take, List.getElem?_take_of_lt (by omega)]⟩

/-- A thing that is written or asked for. -/
structure Itm where
  kind : Int
  n : Int
  lo : Int
  hi : Int
  s : ByteArray
  f : Bool
def Itm.cells (x : Itm) : Array Value := #[.int .i64 x.kind, .int .i64 x.n, .int .i64 x.lo, .int .i64 x.hi, .string x.s, .bool x.f]
def Itm.ok (x : Itm) : Prop := -9223372036854775808 ≤ x.n ∧ x.n ≤ 9223372036854775807 ∧ x.s.size ≤ 140737488351232
def putL (x : Itm) : List UInt8 := if x.kind = 2 then textL x.s else if x.kind = 3 then numL (if x.f then 1 else 0) else numL x.n

theorem six (w x : World) (v0 v1 v2 v3 v4 v5 : Value) (t : TypeId) (h : Ext (w.alloc (.cells #[v0, v1, v2, v3, v4, v5] t)) x) :
    x.cell? ⟨w.heap.size, 0, none⟩ = some v0 ∧ x.cell? ⟨w.heap.size, 1, none⟩ = some v1 ∧ x.cell? ⟨w.heap.size, 2, none⟩ = some v2 ∧ x.cell? ⟨w.heap.size, 3, none⟩ = some v3 ∧ x.cell? ⟨w.heap.size, 4, none⟩ = some v4 ∧ x.cell? ⟨w.heap.size, 5, none⟩ = some v5 := by
  obtain ⟨hc, _⟩ := Ext.bc h
  refine ⟨?_, ?_, ?_, ?_, ?_, ?_⟩ <;> (rw [hc _ _ (by simp), World.cell?_alloc_at _ _ _ _ rfl]; rfl)

theorem keep6 (w : World) (v0 v1 v2 v3 v4 v5 : Value) (t : TypeId) (o : Nat) (v : Value) {x : World} (h : Ext (w.alloc (.cells #[v0, v1, v2, v3, v4, v5] t)) x) (hv : (#[v0, v1, v2, v3, v4, v5] : Array Value)[o]? = some v) :
    Ext (w.alloc (.cells #[v0, v1, v2, v3, v4, v5] t)) x ∧ x.cell? ⟨w.heap.size, o, none⟩ = some v := by
  obtain ⟨hc, _⟩ := Ext.bc h
  refine ⟨h, ?_⟩
  rw [hc _ _ (by simp), World.cell?_alloc_at _ _ _ _ rfl]
  exact hv

end Go.Proofs.Yteenkbfmlnpmlaa
