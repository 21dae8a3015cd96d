/- Package kind: List; values written out; what Of says of them. -/
import Derived.Test.YtdojgdeadhhldaaKindJ
namespace Go.Proofs.Ytdojgdeadhhldaa
open Go.RowKit

set_option maxHeartbeats 1000000 in
theorem listL_any (sl : Value) (n : Nat) (cs : List Value) (w : World) (hs : SlR w w.heap.size 1 sl n cs) (h1 : ∀ u ∈ cs, u.oneCell' = true) (hn : n ≤ 1000000000) : Calls Try.prog 11 #[.agg #[.iface 82 (.agg #[sl])]] w fun e w' => ∃ out, e = .returned (.tuple #[out, .bool true]) ∧ w'.ownsRow w.heap.size 25 1 out n cs ∧ Ext w w' := by
  obtain ⟨i0, hi, hz0, hz1, hz2⟩ := info_parts Try.infoThing
  have hs0 := hs
  obtain ⟨_, _, a, c, rfl, _⟩ := hs
  have hx0 : Ext w (w.alloc (.cells #[.iface 82 (.agg #[.slice a n c])] 25)) := (Ext.refl w).alloc _
  go_enter Try.func11, Try.ntmps11
  go_wp2_with (first
    | (go_at_call 34; refine (innerL_any _ _ _ _).mono ?_; rintro e x ⟨rfl, hx⟩; have hX : Ext w x := hx0.trans hx; have hsrc := src_sl (P := Try.prog) Try.underlying34 (hs0.ext hX) h1)
    | (with_reducible refine wpList_own_src x rfl _ _ 34 34 rfl w.heap.size 25 i0 _ 1 16 Try.underlying34 hi hz0 hz1 hz2 rfl (by decide) _ _ 0 n [] cs (World.ownsRow_nil _ _ _ _) hsrc rfl rfl ?c1 ?c2 ?c3 ?_))
  case c1 => unfold maxLen; omega
  case c2 => omega
  case c3 => exact hX.size
  intro v' w2 hown hb
  replace hown : w2.ownsRow w.heap.size 25 1 v' n cs := by simpa using hown
  go_wp2_with fail
  go_ret2
  exact ⟨_, rfl, hown, Below.trans hX hb⟩
theorem listV_any (v : Value) (x : V) (h : One v x) (w : World) : Calls Try.prog 11 #[.agg #[v]] w fun e w' => e = .returned (.tuple #[.slice none 0 0, .bool false]) ∧ Ext w w' := by
  obtain ⟨i0, hi, hz0, hz1, hz2⟩ := info_parts Try.infoThing
  have hx0 : Ext w (w.alloc (.cells #[v] 25)) := (Ext.refl w).alloc _
  go_enter Try.func11, Try.ntmps11
  go_wp2_with (go_at_call 34; refine (innerV_any _ _ h _).mono ?_; rintro e x ⟨rfl, hx⟩)
  go_ret2
  exact ⟨rfl, (by repeat (first | exact Ext.refl _ | assumption | refine Ext.trans ?_ (by assumption) | refine Ext.alloc ?_ _ | refine Ext.drew ?_ | refine Ext.drewN ?_ _))⟩

/-- Values that a literal writes. -/
theorem slc_lit (w : World) (l : List V) (T : TypeId) (n : Nat) (cs : Array Value) (hn : n = l.length) (hc : cs = (l.flatMap V.cells).toArray) (hm : l.length ≤ 1000) : SlC (w.alloc (.cells cs T)) (w.heap.size + 1) (.slice (some ⟨w.heap.size, 0, none⟩) n n) l := by
  subst hn hc
  refine ⟨_, _, rfl, Nat.le_refl _, by omega, flat_len V.len l, by unfold maxLen; omega, _, _, rfl, .inr ⟨w.heap.size, 0, rfl, Nat.lt_succ_self _, fun j hj => ?_⟩⟩
  rw [World.cell?_alloc_at _ _ _ _ rfl]
  simp
theorem of_ok (l : List V) (v : Value) (B : Nat) (w : World) (hB : B ≤ w.heap.size) (hl : SlC w B v l) (ho : ofP l = 0) : Calls Try.prog 10 #[v] w fun e w' => ∃ iv D, e = .returned (.tuple #[.agg #[iv], .int .i64 0]) ∧ Tells w' (fun b => w.heap.size ≤ b ∧ b < w'.heap.size) iv l D ∧ D ≤ 16 ∧ Ext w w' := by
  refine (of_any l v B w hB hl).mono ?_
  rintro e w' ⟨hx, iv, rfl, h1, _⟩
  obtain ⟨D, h2, h3⟩ := h1 ho
  exact ⟨iv, D, by rw [ho], h2, h3, hx⟩
theorem of_err (l : List V) (c : Int) (v : Value) (B : Nat) (w : World) (hB : B ≤ w.heap.size) (hl : SlC w B v l) (ho : ofP l = c) (hc : c ≠ 0) : Calls Try.prog 10 #[v] w fun e w' => e = .returned (.tuple #[.agg #[.nilIface], .int .i64 c]) ∧ Ext w w' := by
  refine (of_any l v B w hB hl).mono ?_
  rintro e w' ⟨hx, iv, rfl, _, h1⟩
  rw [ho] at h1 ⊢
  rw [h1 hc]
  exact ⟨rfl, hx⟩
theorem Tells.ne {w : World} {ok : Nat → Prop} {v : Value} {L : List V} {D : Nat} (h : Tells w ok v L D) : L ≠ [] := by cases h <;> simp
theorem Tells.cell1 {w : World} {ok : Nat → Prop} {v : Value} {L : List V} {D : Nat} (h : Tells w ok v L D) : v.oneCell' = true := by rcases h.form with rfl | ⟨_, _, rfl⟩ <;> rfl
theorem Tells.b {w : World} {lo : Nat} {v : Value} {L : List V} {D : Nat} (h : Tells w (fun b => lo ≤ b ∧ b < w.heap.size) v L D) : TellsB w w.heap.size v L D := h.keep fun _ hb => ⟨rfl, hb.2⟩
end Go.Proofs.Ytdojgdeadhhldaa
