/- Package letter: within, bare, named. -/
import Derived.Test.YtognipephfedkaaFlat
import Derived.Test.YtognipephfedkaaRoomyE
namespace Go.Proofs.Ytognipephfedkaa
open Go.RowKit

/-- A letter without its entries. -/
structure Lt where
  kind : Int
  fr : Int
  to : Int
  te : Int
  ix : Int
  at_ : Int
  co : Int
  me : Int
  off : Int
  sz : Int
  yes : Bool
  data : ByteArray
def Lt.agg (m : Lt) (ev : Value) : Value := .agg #[.int .i64 m.kind, .int .i64 m.fr, .int .i64 m.to, .int .i64 m.te, .int .i64 m.ix, .int .i64 m.at_, .int .i64 m.co, .int .i64 m.me, .int .i64 m.off, .int .i64 m.sz, .bool m.yes, .string m.data, ev]
/-- The named fields, and how many entries. -/
def BareP (m k : Lt) (n j : Nat) : Prop := n = j ∧ m.ix = k.ix ∧ m.at_ = k.at_ ∧ m.co = k.co ∧ m.me = k.me ∧ m.off = k.off ∧ m.sz = k.sz ∧ m.yes = k.yes ∧ m.data = k.data
theorem str_eq_iff (a b : ByteArray) : a.toList = b.toList ↔ a = b := by
  constructor
  · intro h
    rw [ByteArray.toList_eq, ByteArray.toList_eq] at h
    exact ByteArray.ext (Array.toList_inj.1 h)
  · rintro rfl; rfl

theorem lwithin_any (n lo hi : Int) (w : World) : Calls Try.prog 43 #[.int .i64 n, .int .i64 lo, .int .i64 hi] w fun e w' => e = .returned (.bool (decide (lo ≤ n ∧ n ≤ hi))) ∧ w = w' := by
  go_enter Try.func43, Try.ntmps43
  go_wp2
  all_goals
    go_ret
    refine ⟨?_, rfl⟩
    refine congrArg (fun b => Ending.returned (Value.bool b)) (?_ : (_ : Bool) = _)
    rw [Bool.eq_iff_iff]
    simp_all
    try omega

set_option maxHeartbeats 4000000 in
set_option maxRecDepth 100000 in
theorem lbare_any (m k : Lt) (a b : Option Addr) (n j c d : Nat) (w : World) : Calls Try.prog 54 #[m.agg (.slice a n c), k.agg (.slice b j d)] w fun e w' => (∃ q : Bool, e = .returned (.bool q) ∧ (q = true ↔ BareP m k n j)) ∧ Ext w w' := by
  have hs := str_eq_iff m.data k.data
  have HS := Lib.hid hs
  clear hs
  simp only [Lt.agg]
  go_enter Try.func54, Try.ntmps54
  go_wp2
  all_goals
    go_ret
    refine ⟨⟨_, rfl, ?_⟩, (by repeat (first | exact Ext.refl _ | assumption | refine Ext.trans ?_ (by assumption) | refine Ext.alloc ?_ _ | refine Ext.drew ?_ | refine Ext.drewN ?_ _))⟩
    have hs := HS.out
    clear HS
    first
      | (rw [beq_iff_eq, hs]; simp_all only [bne_eq_false_iff_eq, Int.natCast_inj, BareP, true_and, and_true]; done)
      | (simp only [Bool.false_eq_true, false_iff]; intro hb; obtain ⟨b0, b1, b2, b3, b4, b5, b6, b7, b8⟩ := hb; first | (apply_assumption; assumption) | simp_all)
end Go.Proofs.Ytognipephfedkaa
