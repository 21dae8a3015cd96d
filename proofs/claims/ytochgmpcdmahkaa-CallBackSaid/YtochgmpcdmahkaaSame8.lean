/- Contract of impostbook.Same at bytes. -/
import Derived.Test.YtochgmpcdmahkaaPackW
import Derived.Test.YtochgmpcdmahkaaProg
import Derived.Deep.QuietTactic
import Derived.BigQuiet
namespace Go.Proofs.Ytochgmpcdmahkaa
open Go.RowKit

theorem take_eq_of {α : Type} {xs ys : List α} {k : Nat} (ha : k < xs.length) (hb : k < ys.length) (h : xs.take k = ys.take k) (h2 : xs[k] = ys[k]) : xs.take (k + 1) = ys.take (k + 1) := by
  rw [List.take_succ_eq_append_getElem ha, List.take_succ_eq_append_getElem hb, h, h2]

theorem bytes_inj : ∀ xs ys : List UInt8, (xs.map fun b => (b.toNat : Int)) = (ys.map fun b => (b.toNat : Int)) → xs = ys
  | [], [], _ => rfl
  | [], _ :: _, h => by simp at h
  | _ :: _, [], h => by simp at h
  | x :: xs, y :: ys, h => by
    simp only [List.map_cons, List.cons.injEq] at h
    rw [UInt8.toNat_inj.1 (by omega : x.toNat = y.toNat), bytes_inj xs ys h.2]
end Go.Proofs.Ytochgmpcdmahkaa
