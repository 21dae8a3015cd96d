/- The laws' same and few of letters. (Written by genLetV.py.) -/
import Derived.Test.YtpfdihidncofaaaLetT
import Derived.Test.YtpfdihidncofaaaOpenE
namespace Go.Proofs.Ytpfdihidncofaaa
open Go.RowKit

set_option maxHeartbeats 16000000 in
set_option maxRecDepth 100000 in
theorem lsame_yes (m : Lt) (a a' : Option Addr) (c c' n : Nat) (es : List Ent) (hn : es.length = n) (w : World) (ha : SlS Ent.cells 3 w (.slice a n c) es) (hb : SlS Ent.cells 3 w (.slice a' n c') es) (hm : n ≤ 1000000000000) : Calls Try.prog 12 #[m.agg (.slice a n c), m.agg (.slice a' n c')] w fun e w' => e = .returned (.bool true) ∧ Ext w w' := by
  obtain ⟨kind, fr, to, te, ix, at_, co, me, off, sz, yes, data⟩ := m
  have hs := fun z (hz : Ext w z) => same_yesE (.slice a n c) (.slice a' n c') es z (SlS.ext ha hz) (SlS.ext hb hz) (by omega)
  have HS := Lib.hid hs
  have hX : ∀ o1 o2, Ext w ((w.alloc o1).alloc o2) := fun o1 o2 => ((Ext.refl w).alloc o1).alloc o2
  clear hs ha hb hn
  simp only [Lt.agg]
  go_enter Try.func12, Try.ntmps12
  go_wp2_with (go_at_call 32; refine (HS.out _ (hX _ _)).mono ?_; rintro e x ⟨rfl, hx⟩)
  go_ret
  exact ⟨rfl, (hX _ _).trans hx⟩

set_option maxHeartbeats 16000000 in
set_option maxRecDepth 100000 in
theorem lfew_any (m : Lt) (a : Option Addr) (c n : Nat) (hc : n ≤ c) (hcm : c ≤ 9223372036854775807) (w : World) : Calls Try.prog 13 #[m.agg (.slice a n c)] w fun e w' => e = .returned (m.agg (.slice a (min n 20) c)) ∧ Ext w w' := by
  obtain ⟨kind, fr, to, te, ix, at_, co, me, off, sz, yes, data⟩ := m
  simp only [Lt.agg]
  by_cases h : 20 < n
  · have hi : (20 : Int) < (n : Int) := by omega
    have hci : (20 : Int) ≤ (c : Int) := by omega
    have e0 : min n 20 = 20 := by omega
    rw [e0]
    clear e0
    go_enter Try.func13, Try.ntmps13
    go_wp2
    refine bodyPost_ret (v := .agg #[.int .i64 kind, .int .i64 fr, .int .i64 to, .int .i64 te, .int .i64 ix, .int .i64 at_, .int .i64 co, .int .i64 me, .int .i64 off, .int .i64 sz, .bool yes, .string data, .slice a 20 c]) ?_ rfl ⟨rfl, ?_⟩
    · simp [results, Try.results13, go_sem]
    · repeat (first | with_reducible exact Ext.refl _ | with_reducible refine Ext.alloc ?_ _ | with_reducible refine Ext.setCell ?_ (by simp) _)
  · have hi : ¬ (20 : Int) < (n : Int) := by omega
    have e0 : min n 20 = n := by omega
    rw [e0]
    clear e0
    go_enter Try.func13, Try.ntmps13
    go_wp2
    refine bodyPost_ret (v := .agg #[.int .i64 kind, .int .i64 fr, .int .i64 to, .int .i64 te, .int .i64 ix, .int .i64 at_, .int .i64 co, .int .i64 me, .int .i64 off, .int .i64 sz, .bool yes, .string data, .slice a n c]) ?_ rfl ⟨rfl, ?_⟩
    · simp [results, Try.results13, go_sem]
    · repeat (first | with_reducible exact Ext.refl _ | with_reducible refine Ext.alloc ?_ _ | with_reducible refine Ext.setCell ?_ (by simp) _)
end Go.Proofs.Ytpfdihidncofaaa
