/- Package kind: what a thing tells; contracts of the functions that make one, and of those that look at one. -/
import Derived.Test.YtdojgdeadhhldaaVRoom
namespace Go.Proofs.Ytdojgdeadhhldaa
open Go.RowKit

/-- What a value that is no list tells. -/
inductive One : Value → V → Prop
  | none : One .nilIface ⟨0, 0, ⟨#[]⟩, 0, 0, 0⟩
  | int (n : Int) : One (.iface 71 (.int .i64 n)) ⟨1, n, ⟨#[]⟩, 0, 0, 0⟩
  | text (s : ByteArray) : One (.iface 72 (.string s)) ⟨2, 0, s, 0, 0, 0⟩
  | flag (b : Bool) : One (.iface 84 (.bool b)) ⟨3, if b then 1 else 0, ⟨#[]⟩, 0, 0, 0⟩
  | day (y m d : Int) : One (.iface 87 (.agg #[.int .i64 y, .int .i64 m, .int .i64 d])) ⟨4, 0, ⟨#[]⟩, y, m, d⟩
def headV (n : Nat) : V := ⟨5, n, ⟨#[]⟩, 0, 0, 0⟩
def deepOf : List (Value × List V × Nat) → Nat
  | [] => 0
  | t :: ts => max t.2.2 (deepOf ts)
/-- A slice that reads as these cells, in a block of which 'ok' holds (or it is empty). -/
def SlP (w : World) (ok : Nat → Prop) (size : Nat) (v : Value) (n : Nat) (xs : List Value) : Prop :=
  xs.length = n * size ∧ n ≤ maxLen ∧ ∃ a cap, v = .slice a n cap ∧ (n = 0 ∨ ∃ b off, a = some ⟨b, off, none⟩ ∧ ok b ∧ ∀ j, j < n * size → w.cell? ⟨b, off + j, none⟩ = xs[j]?)
/-- What a thing's value tells, told flat, and how many lists lie one in the other; its memory lies in blocks of which 'ok' holds. -/
inductive Tells (w : World) (ok : Nat → Prop) : Value → List V → Nat → Prop
  | one (v : Value) (x : V) (h : One v x) : Tells w ok v [x] 0
  | list (sl : Value) (its : List (Value × List V × Nat)) (hs : SlP w ok 1 sl its.length (its.map (·.1))) (h : ∀ t ∈ its, Tells w ok t.1 t.2.1 t.2.2) :
      Tells w ok (.iface 82 (.agg #[sl])) (headV its.length :: its.flatMap (·.2.1)) (1 + deepOf its)
theorem SlP.keep {w w' : World} {ok ok' : Nat → Prop} {size n : Nat} {v : Value} {xs : List Value} (h : SlP w ok size v n xs) (hk : ∀ b, ok b → w'.heap[b]? = w.heap[b]? ∧ ok' b) : SlP w' ok' size v n xs := by
  obtain ⟨h1, h2, a, cap, rfl, h3⟩ := h
  refine ⟨h1, h2, a, cap, rfl, ?_⟩
  rcases h3 with h3 | ⟨b, off, rfl, hlt, hc⟩
  · exact .inl h3
  · exact .inr ⟨b, off, rfl, (hk b hlt).2, fun j hj => (World.cell?_of_block (a := ⟨b, off + j, none⟩) (hk b hlt).1).trans (hc j hj)⟩
theorem SlP.of_own {w : World} {base e size n : Nat} {v : Value} {xs : List Value} (h : w.ownsRow base e size v n xs) : SlP w (fun b => base ≤ b ∧ b < w.heap.size) size v n xs := by
  obtain ⟨h1, h2⟩ := h
  rcases h2 with ⟨rfl, rfl⟩ | ⟨g, cap, cur, rfl, hg, hh, hn, hcap, hsz, ht⟩
  · exact ⟨h1, Nat.zero_le _, none, 0, rfl, .inl rfl⟩
  · refine ⟨h1, by omega, some ⟨g, 0, none⟩, cap, rfl, .inr ⟨g, 0, rfl, ⟨hg, (Array.getElem?_eq_some_iff.1 hh).1⟩, fun j hj => ?_⟩⟩
    simp only [World.cell?, hh]
    rw [← ht, List.getElem?_take_of_lt hj]
    simp
theorem Tells.keep {w w' : World} {ok ok' : Nat → Prop} {v : Value} {L : List V} {D : Nat} (h : Tells w ok v L D) (hk : ∀ b, ok b → w'.heap[b]? = w.heap[b]? ∧ ok' b) : Tells w' ok' v L D := by
  induction h with
  | one v x h => exact .one v x h
  | list sl its hs _ ih => exact .list sl its (hs.keep hk) ih
abbrev TellsB (w : World) (B : Nat) (v : Value) (L : List V) (D : Nat) : Prop := Tells w (fun b => b < B) v L D
theorem Tells.mono {w w' : World} {B : Nat} {v : Value} {L : List V} {D : Nat} (h : TellsB w B v L D) (hb : Below B w w') : TellsB w' B v L D := h.keep fun b hlt => ⟨hb.block b hlt, hlt⟩
theorem Tells.up {w : World} {B B' : Nat} {v : Value} {L : List V} {D : Nat} (h : TellsB w B v L D) (hb : B ≤ B') : TellsB w B' v L D := h.keep fun _ hlt => ⟨rfl, Nat.lt_of_lt_of_le hlt hb⟩
theorem Tells.ext {w w' : World} {v : Value} {L : List V} {D : Nat} (h : TellsB w w.heap.size v L D) (hx : Ext w w') : TellsB w' w'.heap.size v L D := Tells.up (Tells.mono h hx) hx.size
theorem Tells.form {w : World} {ok : Nat → Prop} {v : Value} {L : List V} {D : Nat} (h : Tells w ok v L D) : v = .nilIface ∨ ∃ t x, v = .iface t x := by
  cases h with
  | one v x h => cases h <;> first | exact .inl rfl | exact .inr ⟨_, _, rfl⟩
  | list sl its hs _ => exact .inr ⟨_, _, rfl⟩
def kindOf (L : List V) : Int := (L.headD V.z).kind

theorem fromInt_any (n : Int) (w : World) : Calls Try.prog 13 #[.int .i64 n] w fun e w' => e = .returned (.agg #[.iface 71 (.int .i64 n)]) ∧ Ext w w' := by
  go_enter Try.func13, Try.ntmps13
  go_wp2
  refine bodyPost_ret (v := .agg #[.iface 71 (.int .i64 n)]) (by simp [results, Try.results13, go_sem]) rfl ⟨rfl, (by repeat (first | exact Ext.refl _ | assumption | refine Ext.trans ?_ (by assumption) | refine Ext.alloc ?_ _ | refine Ext.drew ?_ | refine Ext.drewN ?_ _))⟩
theorem fromText_any (s : ByteArray) (w : World) : Calls Try.prog 14 #[.string s] w fun e w' => e = .returned (.agg #[.iface 72 (.string s)]) ∧ Ext w w' := by
  go_enter Try.func14, Try.ntmps14
  go_wp2
  refine bodyPost_ret (v := .agg #[.iface 72 (.string s)]) (by simp [results, Try.results14, go_sem]) rfl ⟨rfl, (by repeat (first | exact Ext.refl _ | assumption | refine Ext.trans ?_ (by assumption) | refine Ext.alloc ?_ _ | refine Ext.drew ?_ | refine Ext.drewN ?_ _))⟩
theorem fromFlag_any (b : Bool) (w : World) : Calls Try.prog 40 #[.bool b] w fun e w' => e = .returned (.agg #[.iface 84 (.bool b)]) ∧ Ext w w' := by
  go_enter Try.func40, Try.ntmps40
  go_wp2
  refine bodyPost_ret (v := .agg #[.iface 84 (.bool b)]) (by simp [results, Try.results40, go_sem]) rfl ⟨rfl, (by repeat (first | exact Ext.refl _ | assumption | refine Ext.trans ?_ (by assumption) | refine Ext.alloc ?_ _ | refine Ext.drew ?_ | refine Ext.drewN ?_ _))⟩
theorem fromDate_any (y m d : Int) (w : World) : Calls Try.prog 41 #[.agg #[.int .i64 y, .int .i64 m, .int .i64 d]] w fun e w' => e = .returned (.agg #[.iface 87 (.agg #[.int .i64 y, .int .i64 m, .int .i64 d])]) ∧ Ext w w' := by
  go_enter Try.func41, Try.ntmps41
  go_wp2
  refine bodyPost_ret (v := .agg #[.iface 87 (.agg #[.int .i64 y, .int .i64 m, .int .i64 d])]) (by simp [results, Try.results41, go_sem]) rfl ⟨rfl, (by repeat (first | exact Ext.refl _ | assumption | refine Ext.trans ?_ (by assumption) | refine Ext.alloc ?_ _ | refine Ext.drew ?_ | refine Ext.drewN ?_ _))⟩
end Go.Proofs.Ytdojgdeadhhldaa
