/- Package kind: wrong panics; Int, Text, Flag, Date; MustInt, MustText, MustDate. (Written by genKindP.py.) -/
import Derived.Test.YtdojgdeadhhldaaKindB
import Derived.Recover
namespace Go.Proofs.Ytdojgdeadhhldaa
open Go.RowKit

def wrongP (asked was : Int) : List PanicEntry := [{ v := .iface 43 (.agg #[.int .i64 asked, .int .i64 was]), recovered := false }]
theorem wrong_any (v : Value) (L : List V) (D : Nat) (w0 : World) (B : Nat) (h : TellsB w0 B v L D) (asked : Int) (w : World) : Calls Try.prog 37 #[.agg #[v], .int .i64 asked] w fun e w' => e = .panicked (wrongP asked (kindOf L)) ∧ Ext w w' := by
  have hX : Ext w (w.alloc (.cells #[v] 25)) := (Ext.refl w).alloc _
  go_enter Try.func37, Try.ntmps37
  go_wp2_with (go_at_call 19; refine (kind_any v L D w0 B h _).mono ?_; rintro e x1 ⟨rfl, hx1⟩)
  exact ⟨rfl, rfl, hX.trans hx1⟩
def hd (L : List V) : V := L.headD V.z
theorem thingInt_any (v : Value) (L : List V) (D : Nat) (w0 : World) (B : Nat) (h : TellsB w0 B v L D) (w : World) : Calls Try.prog 15 #[.agg #[v]] w fun e w' => e = .returned (.tuple #[(if kindOf L = 1 then .int .i64 (hd L).n else .int .i64 0), .bool (decide (kindOf L = 1))]) ∧ Ext w w' := by
  cases h with
  | one _ x h =>
    cases h with
    | none  =>
      have key : Calls Try.prog 15 #[.agg #[.nilIface]] w fun e w' => e = .returned (.tuple #[.int .i64 0, .bool false]) ∧ Ext w w' := by
        obtain ⟨q1, q2, q3, q4, q5⟩ := asked_none
        go_enter Try.func15, Try.ntmps15
        go_wp2
        go_ret2
        exact ⟨rfl, (by repeat (first | exact Ext.refl _ | assumption | refine Ext.trans ?_ (by assumption) | refine Ext.alloc ?_ _ | refine Ext.drew ?_ | refine Ext.drewN ?_ _))⟩
      exact key.mono fun e w' h => ⟨h.1.trans (by simp [kindOf, hd, headV, V.z]), h.2⟩
    | int n =>
      have key : Calls Try.prog 15 #[.agg #[.iface 71 (.int .i64 n)]] w fun e w' => e = .returned (.tuple #[.int .i64 n, .bool true]) ∧ Ext w w' := by
        obtain ⟨q1, q2, q3, q4, q5⟩ := asked_int n
        go_enter Try.func15, Try.ntmps15
        go_wp2
        go_ret2
        exact ⟨rfl, (by repeat (first | exact Ext.refl _ | assumption | refine Ext.trans ?_ (by assumption) | refine Ext.alloc ?_ _ | refine Ext.drew ?_ | refine Ext.drewN ?_ _))⟩
      exact key.mono fun e w' h => ⟨h.1.trans (by simp [kindOf, hd, headV, V.z]), h.2⟩
    | text s =>
      have key : Calls Try.prog 15 #[.agg #[.iface 72 (.string s)]] w fun e w' => e = .returned (.tuple #[.int .i64 0, .bool false]) ∧ Ext w w' := by
        obtain ⟨q1, q2, q3, q4, q5⟩ := asked_text s
        go_enter Try.func15, Try.ntmps15
        go_wp2
        go_ret2
        exact ⟨rfl, (by repeat (first | exact Ext.refl _ | assumption | refine Ext.trans ?_ (by assumption) | refine Ext.alloc ?_ _ | refine Ext.drew ?_ | refine Ext.drewN ?_ _))⟩
      exact key.mono fun e w' h => ⟨h.1.trans (by simp [kindOf, hd, headV, V.z]), h.2⟩
    | flag b =>
      have key : Calls Try.prog 15 #[.agg #[.iface 84 (.bool b)]] w fun e w' => e = .returned (.tuple #[.int .i64 0, .bool false]) ∧ Ext w w' := by
        obtain ⟨q1, q2, q3, q4, q5⟩ := asked_flag b
        go_enter Try.func15, Try.ntmps15
        go_wp2
        go_ret2
        exact ⟨rfl, (by repeat (first | exact Ext.refl _ | assumption | refine Ext.trans ?_ (by assumption) | refine Ext.alloc ?_ _ | refine Ext.drew ?_ | refine Ext.drewN ?_ _))⟩
      exact key.mono fun e w' h => ⟨h.1.trans (by simp [kindOf, hd, headV, V.z]), h.2⟩
    | day y m d =>
      have key : Calls Try.prog 15 #[.agg #[.iface 87 (.agg #[.int .i64 y, .int .i64 m, .int .i64 d])]] w fun e w' => e = .returned (.tuple #[.int .i64 0, .bool false]) ∧ Ext w w' := by
        obtain ⟨q1, q2, q3, q4, q5⟩ := asked_day y m d
        go_enter Try.func15, Try.ntmps15
        go_wp2
        go_ret2
        exact ⟨rfl, (by repeat (first | exact Ext.refl _ | assumption | refine Ext.trans ?_ (by assumption) | refine Ext.alloc ?_ _ | refine Ext.drew ?_ | refine Ext.drewN ?_ _))⟩
      exact key.mono fun e w' h => ⟨h.1.trans (by simp [kindOf, hd, headV, V.z]), h.2⟩
  | list sl its hs _ =>
    obtain ⟨_, _, sa, sc, rfl, _⟩ := hs
    have key : Calls Try.prog 15 #[.agg #[.iface 82 (.agg #[.slice sa its.length sc])]] w fun e w' => e = .returned (.tuple #[.int .i64 0, .bool false]) ∧ Ext w w' := by
      obtain ⟨q1, q2, q3, q4, q5⟩ := asked_list (.slice sa its.length sc)
      go_enter Try.func15, Try.ntmps15
      go_wp2
      go_ret2
      exact ⟨rfl, (by repeat (first | exact Ext.refl _ | assumption | refine Ext.trans ?_ (by assumption) | refine Ext.alloc ?_ _ | refine Ext.drew ?_ | refine Ext.drewN ?_ _))⟩
    exact key.mono fun e w' h => ⟨h.1.trans (by simp [kindOf, hd, headV, V.z]), h.2⟩
theorem thingText_any (v : Value) (L : List V) (D : Nat) (w0 : World) (B : Nat) (h : TellsB w0 B v L D) (w : World) : Calls Try.prog 29 #[.agg #[v]] w fun e w' => e = .returned (.tuple #[(if kindOf L = 2 then .string (hd L).text else .string ⟨#[]⟩), .bool (decide (kindOf L = 2))]) ∧ Ext w w' := by
  cases h with
  | one _ x h =>
    cases h with
    | none  =>
      have key : Calls Try.prog 29 #[.agg #[.nilIface]] w fun e w' => e = .returned (.tuple #[.string ⟨#[]⟩, .bool false]) ∧ Ext w w' := by
        obtain ⟨q1, q2, q3, q4, q5⟩ := asked_none
        go_enter Try.func29, Try.ntmps29
        go_wp2
        go_ret2
        exact ⟨rfl, (by repeat (first | exact Ext.refl _ | assumption | refine Ext.trans ?_ (by assumption) | refine Ext.alloc ?_ _ | refine Ext.drew ?_ | refine Ext.drewN ?_ _))⟩
      exact key.mono fun e w' h => ⟨h.1.trans (by simp [kindOf, hd, headV, V.z]), h.2⟩
    | int n =>
      have key : Calls Try.prog 29 #[.agg #[.iface 71 (.int .i64 n)]] w fun e w' => e = .returned (.tuple #[.string ⟨#[]⟩, .bool false]) ∧ Ext w w' := by
        obtain ⟨q1, q2, q3, q4, q5⟩ := asked_int n
        go_enter Try.func29, Try.ntmps29
        go_wp2
        go_ret2
        exact ⟨rfl, (by repeat (first | exact Ext.refl _ | assumption | refine Ext.trans ?_ (by assumption) | refine Ext.alloc ?_ _ | refine Ext.drew ?_ | refine Ext.drewN ?_ _))⟩
      exact key.mono fun e w' h => ⟨h.1.trans (by simp [kindOf, hd, headV, V.z]), h.2⟩
    | text s =>
      have key : Calls Try.prog 29 #[.agg #[.iface 72 (.string s)]] w fun e w' => e = .returned (.tuple #[.string s, .bool true]) ∧ Ext w w' := by
        obtain ⟨q1, q2, q3, q4, q5⟩ := asked_text s
        go_enter Try.func29, Try.ntmps29
        go_wp2
        go_ret2
        exact ⟨rfl, (by repeat (first | exact Ext.refl _ | assumption | refine Ext.trans ?_ (by assumption) | refine Ext.alloc ?_ _ | refine Ext.drew ?_ | refine Ext.drewN ?_ _))⟩
      exact key.mono fun e w' h => ⟨h.1.trans (by simp [kindOf, hd, headV, V.z]), h.2⟩
    | flag b =>
      have key : Calls Try.prog 29 #[.agg #[.iface 84 (.bool b)]] w fun e w' => e = .returned (.tuple #[.string ⟨#[]⟩, .bool false]) ∧ Ext w w' := by
        obtain ⟨q1, q2, q3, q4, q5⟩ := asked_flag b
        go_enter Try.func29, Try.ntmps29
        go_wp2
        go_ret2
        exact ⟨rfl, (by repeat (first | exact Ext.refl _ | assumption | refine Ext.trans ?_ (by assumption) | refine Ext.alloc ?_ _ | refine Ext.drew ?_ | refine Ext.drewN ?_ _))⟩
      exact key.mono fun e w' h => ⟨h.1.trans (by simp [kindOf, hd, headV, V.z]), h.2⟩
    | day y m d =>
      have key : Calls Try.prog 29 #[.agg #[.iface 87 (.agg #[.int .i64 y, .int .i64 m, .int .i64 d])]] w fun e w' => e = .returned (.tuple #[.string ⟨#[]⟩, .bool false]) ∧ Ext w w' := by
        obtain ⟨q1, q2, q3, q4, q5⟩ := asked_day y m d
        go_enter Try.func29, Try.ntmps29
        go_wp2
        go_ret2
        exact ⟨rfl, (by repeat (first | exact Ext.refl _ | assumption | refine Ext.trans ?_ (by assumption) | refine Ext.alloc ?_ _ | refine Ext.drew ?_ | refine Ext.drewN ?_ _))⟩
      exact key.mono fun e w' h => ⟨h.1.trans (by simp [kindOf, hd, headV, V.z]), h.2⟩
  | list sl its hs _ =>
    obtain ⟨_, _, sa, sc, rfl, _⟩ := hs
    have key : Calls Try.prog 29 #[.agg #[.iface 82 (.agg #[.slice sa its.length sc])]] w fun e w' => e = .returned (.tuple #[.string ⟨#[]⟩, .bool false]) ∧ Ext w w' := by
      obtain ⟨q1, q2, q3, q4, q5⟩ := asked_list (.slice sa its.length sc)
      go_enter Try.func29, Try.ntmps29
      go_wp2
      go_ret2
      exact ⟨rfl, (by repeat (first | exact Ext.refl _ | assumption | refine Ext.trans ?_ (by assumption) | refine Ext.alloc ?_ _ | refine Ext.drew ?_ | refine Ext.drewN ?_ _))⟩
    exact key.mono fun e w' h => ⟨h.1.trans (by simp [kindOf, hd, headV, V.z]), h.2⟩
theorem thingFlag_any (v : Value) (L : List V) (D : Nat) (w0 : World) (B : Nat) (h : TellsB w0 B v L D) (w : World) : Calls Try.prog 30 #[.agg #[v]] w fun e w' => e = .returned (.tuple #[(if kindOf L = 3 then .bool ((hd L).n == 1) else .bool false), .bool (decide (kindOf L = 3))]) ∧ Ext w w' := by
  cases h with
  | one _ x h =>
    cases h with
    | none  =>
      have key : Calls Try.prog 30 #[.agg #[.nilIface]] w fun e w' => e = .returned (.tuple #[.bool false, .bool false]) ∧ Ext w w' := by
        obtain ⟨q1, q2, q3, q4, q5⟩ := asked_none
        go_enter Try.func30, Try.ntmps30
        go_wp2
        go_ret2
        exact ⟨rfl, (by repeat (first | exact Ext.refl _ | assumption | refine Ext.trans ?_ (by assumption) | refine Ext.alloc ?_ _ | refine Ext.drew ?_ | refine Ext.drewN ?_ _))⟩
      exact key.mono fun e w' h => ⟨h.1.trans (by simp [kindOf, hd, headV, V.z]), h.2⟩
    | int n =>
      have key : Calls Try.prog 30 #[.agg #[.iface 71 (.int .i64 n)]] w fun e w' => e = .returned (.tuple #[.bool false, .bool false]) ∧ Ext w w' := by
        obtain ⟨q1, q2, q3, q4, q5⟩ := asked_int n
        go_enter Try.func30, Try.ntmps30
        go_wp2
        go_ret2
        exact ⟨rfl, (by repeat (first | exact Ext.refl _ | assumption | refine Ext.trans ?_ (by assumption) | refine Ext.alloc ?_ _ | refine Ext.drew ?_ | refine Ext.drewN ?_ _))⟩
      exact key.mono fun e w' h => ⟨h.1.trans (by simp [kindOf, hd, headV, V.z]), h.2⟩
    | text s =>
      have key : Calls Try.prog 30 #[.agg #[.iface 72 (.string s)]] w fun e w' => e = .returned (.tuple #[.bool false, .bool false]) ∧ Ext w w' := by
        obtain ⟨q1, q2, q3, q4, q5⟩ := asked_text s
        go_enter Try.func30, Try.ntmps30
        go_wp2
        go_ret2
        exact ⟨rfl, (by repeat (first | exact Ext.refl _ | assumption | refine Ext.trans ?_ (by assumption) | refine Ext.alloc ?_ _ | refine Ext.drew ?_ | refine Ext.drewN ?_ _))⟩
      exact key.mono fun e w' h => ⟨h.1.trans (by simp [kindOf, hd, headV, V.z]), h.2⟩
    | flag b =>
      cases b with
      | false =>
        have key : Calls Try.prog 30 #[.agg #[.iface 84 (.bool false)]] w fun e w' => e = .returned (.tuple #[.bool false, .bool true]) ∧ Ext w w' := by
          obtain ⟨q1, q2, q3, q4, q5⟩ := asked_flag false
          go_enter Try.func30, Try.ntmps30
          go_wp2
          go_ret2
          exact ⟨rfl, (by repeat (first | exact Ext.refl _ | assumption | refine Ext.trans ?_ (by assumption) | refine Ext.alloc ?_ _ | refine Ext.drew ?_ | refine Ext.drewN ?_ _))⟩
        exact key.mono fun e w' h => ⟨h.1.trans (by simp [kindOf, hd, headV, V.z]), h.2⟩
      | true =>
        have key : Calls Try.prog 30 #[.agg #[.iface 84 (.bool true)]] w fun e w' => e = .returned (.tuple #[.bool true, .bool true]) ∧ Ext w w' := by
          obtain ⟨q1, q2, q3, q4, q5⟩ := asked_flag true
          go_enter Try.func30, Try.ntmps30
          go_wp2
          go_ret2
          exact ⟨rfl, (by repeat (first | exact Ext.refl _ | assumption | refine Ext.trans ?_ (by assumption) | refine Ext.alloc ?_ _ | refine Ext.drew ?_ | refine Ext.drewN ?_ _))⟩
        exact key.mono fun e w' h => ⟨h.1.trans (by simp [kindOf, hd, headV, V.z]), h.2⟩
    | day y m d =>
      have key : Calls Try.prog 30 #[.agg #[.iface 87 (.agg #[.int .i64 y, .int .i64 m, .int .i64 d])]] w fun e w' => e = .returned (.tuple #[.bool false, .bool false]) ∧ Ext w w' := by
        obtain ⟨q1, q2, q3, q4, q5⟩ := asked_day y m d
        go_enter Try.func30, Try.ntmps30
        go_wp2
        go_ret2
        exact ⟨rfl, (by repeat (first | exact Ext.refl _ | assumption | refine Ext.trans ?_ (by assumption) | refine Ext.alloc ?_ _ | refine Ext.drew ?_ | refine Ext.drewN ?_ _))⟩
      exact key.mono fun e w' h => ⟨h.1.trans (by simp [kindOf, hd, headV, V.z]), h.2⟩
  | list sl its hs _ =>
    obtain ⟨_, _, sa, sc, rfl, _⟩ := hs
    have key : Calls Try.prog 30 #[.agg #[.iface 82 (.agg #[.slice sa its.length sc])]] w fun e w' => e = .returned (.tuple #[.bool false, .bool false]) ∧ Ext w w' := by
      obtain ⟨q1, q2, q3, q4, q5⟩ := asked_list (.slice sa its.length sc)
      go_enter Try.func30, Try.ntmps30
      go_wp2
      go_ret2
      exact ⟨rfl, (by repeat (first | exact Ext.refl _ | assumption | refine Ext.trans ?_ (by assumption) | refine Ext.alloc ?_ _ | refine Ext.drew ?_ | refine Ext.drewN ?_ _))⟩
    exact key.mono fun e w' h => ⟨h.1.trans (by simp [kindOf, hd, headV, V.z]), h.2⟩
theorem thingDate_any (v : Value) (L : List V) (D : Nat) (w0 : World) (B : Nat) (h : TellsB w0 B v L D) (w : World) : Calls Try.prog 31 #[.agg #[v]] w fun e w' => e = .returned (.tuple #[(if kindOf L = 4 then .agg #[.int .i64 (hd L).y, .int .i64 (hd L).m, .int .i64 (hd L).d] else .agg #[.int .i64 0, .int .i64 0, .int .i64 0]), .bool (decide (kindOf L = 4))]) ∧ Ext w w' := by
  cases h with
  | one _ x h =>
    cases h with
    | none  =>
      have key : Calls Try.prog 31 #[.agg #[.nilIface]] w fun e w' => e = .returned (.tuple #[.agg #[.int .i64 0, .int .i64 0, .int .i64 0], .bool false]) ∧ Ext w w' := by
        obtain ⟨q1, q2, q3, q4, q5⟩ := asked_none
        go_enter Try.func31, Try.ntmps31
        go_wp2
        clear q1 q2 q3 q4 q5
        refine bodyPost_ret (v := .tuple #[.agg #[.int .i64 0, .int .i64 0, .int .i64 0], .bool false]) ?_ rfl ⟨rfl, ?_⟩
        · simp [results, Try.results31, go_sem]
        · repeat (first | with_reducible exact Ext.refl _ | with_reducible refine Ext.alloc ?_ _ | with_reducible refine Ext.setCell ?_ (by simp) _)
      exact key.mono fun e w' h => ⟨h.1.trans (by simp [kindOf, hd, headV, V.z]), h.2⟩
    | int n =>
      have key : Calls Try.prog 31 #[.agg #[.iface 71 (.int .i64 n)]] w fun e w' => e = .returned (.tuple #[.agg #[.int .i64 0, .int .i64 0, .int .i64 0], .bool false]) ∧ Ext w w' := by
        obtain ⟨q1, q2, q3, q4, q5⟩ := asked_int n
        go_enter Try.func31, Try.ntmps31
        go_wp2
        clear q1 q2 q3 q4 q5
        refine bodyPost_ret (v := .tuple #[.agg #[.int .i64 0, .int .i64 0, .int .i64 0], .bool false]) ?_ rfl ⟨rfl, ?_⟩
        · simp [results, Try.results31, go_sem]
        · repeat (first | with_reducible exact Ext.refl _ | with_reducible refine Ext.alloc ?_ _ | with_reducible refine Ext.setCell ?_ (by simp) _)
      exact key.mono fun e w' h => ⟨h.1.trans (by simp [kindOf, hd, headV, V.z]), h.2⟩
    | text s =>
      have key : Calls Try.prog 31 #[.agg #[.iface 72 (.string s)]] w fun e w' => e = .returned (.tuple #[.agg #[.int .i64 0, .int .i64 0, .int .i64 0], .bool false]) ∧ Ext w w' := by
        obtain ⟨q1, q2, q3, q4, q5⟩ := asked_text s
        go_enter Try.func31, Try.ntmps31
        go_wp2
        clear q1 q2 q3 q4 q5
        refine bodyPost_ret (v := .tuple #[.agg #[.int .i64 0, .int .i64 0, .int .i64 0], .bool false]) ?_ rfl ⟨rfl, ?_⟩
        · simp [results, Try.results31, go_sem]
        · repeat (first | with_reducible exact Ext.refl _ | with_reducible refine Ext.alloc ?_ _ | with_reducible refine Ext.setCell ?_ (by simp) _)
      exact key.mono fun e w' h => ⟨h.1.trans (by simp [kindOf, hd, headV, V.z]), h.2⟩
    | flag b =>
      have key : Calls Try.prog 31 #[.agg #[.iface 84 (.bool b)]] w fun e w' => e = .returned (.tuple #[.agg #[.int .i64 0, .int .i64 0, .int .i64 0], .bool false]) ∧ Ext w w' := by
        obtain ⟨q1, q2, q3, q4, q5⟩ := asked_flag b
        go_enter Try.func31, Try.ntmps31
        go_wp2
        clear q1 q2 q3 q4 q5
        refine bodyPost_ret (v := .tuple #[.agg #[.int .i64 0, .int .i64 0, .int .i64 0], .bool false]) ?_ rfl ⟨rfl, ?_⟩
        · simp [results, Try.results31, go_sem]
        · repeat (first | with_reducible exact Ext.refl _ | with_reducible refine Ext.alloc ?_ _ | with_reducible refine Ext.setCell ?_ (by simp) _)
      exact key.mono fun e w' h => ⟨h.1.trans (by simp [kindOf, hd, headV, V.z]), h.2⟩
    | day y m d =>
      have key : Calls Try.prog 31 #[.agg #[.iface 87 (.agg #[.int .i64 y, .int .i64 m, .int .i64 d])]] w fun e w' => e = .returned (.tuple #[.agg #[.int .i64 y, .int .i64 m, .int .i64 d], .bool true]) ∧ Ext w w' := by
        obtain ⟨q1, q2, q3, q4, q5⟩ := asked_day y m d
        go_enter Try.func31, Try.ntmps31
        go_wp2
        clear q1 q2 q3 q4 q5
        refine bodyPost_ret (v := .tuple #[.agg #[.int .i64 y, .int .i64 m, .int .i64 d], .bool true]) ?_ rfl ⟨rfl, ?_⟩
        · simp [results, Try.results31, go_sem]
        · repeat (first | with_reducible exact Ext.refl _ | with_reducible refine Ext.alloc ?_ _ | with_reducible refine Ext.setCell ?_ (by simp) _)
      exact key.mono fun e w' h => ⟨h.1.trans (by simp [kindOf, hd, headV, V.z]), h.2⟩
  | list sl its hs _ =>
    obtain ⟨_, _, sa, sc, rfl, _⟩ := hs
    have key : Calls Try.prog 31 #[.agg #[.iface 82 (.agg #[.slice sa its.length sc])]] w fun e w' => e = .returned (.tuple #[.agg #[.int .i64 0, .int .i64 0, .int .i64 0], .bool false]) ∧ Ext w w' := by
      obtain ⟨q1, q2, q3, q4, q5⟩ := asked_list (.slice sa its.length sc)
      go_enter Try.func31, Try.ntmps31
      go_wp2
      clear q1 q2 q3 q4 q5
      refine bodyPost_ret (v := .tuple #[.agg #[.int .i64 0, .int .i64 0, .int .i64 0], .bool false]) ?_ rfl ⟨rfl, ?_⟩
      · simp [results, Try.results31, go_sem]
      · repeat (first | with_reducible exact Ext.refl _ | with_reducible refine Ext.alloc ?_ _ | with_reducible refine Ext.setCell ?_ (by simp) _)
    exact key.mono fun e w' h => ⟨h.1.trans (by simp [kindOf, hd, headV, V.z]), h.2⟩
theorem must_keep (w : World) (v : Value) {x : World} (h : Ext ((w.alloc (.cells #[v] 25)).alloc (.cells #[.int .i64 0, .int .i64 0, .int .i64 0] 30)) x) :
    x.cell? ⟨w.heap.size, 0, none⟩ = some v ∧ x.cell? ⟨w.heap.size + 1, 0, none⟩ = some (.int .i64 0) ∧ x.cell? ⟨w.heap.size + 1, 1, none⟩ = some (.int .i64 0) ∧ x.cell? ⟨w.heap.size + 1, 2, none⟩ = some (.int .i64 0) ∧
    x.frozen? ⟨w.heap.size + 1, 0, none⟩ = false ∧ x.frozen? ⟨w.heap.size + 1, 1, none⟩ = false ∧ x.frozen? ⟨w.heap.size + 1, 2, none⟩ = false ∧ w.heap.size < x.heap.size ∧ w.heap.size + 1 < x.heap.size ∧ Ext w x := by
  obtain ⟨hc, hf⟩ := Ext.bc h
  have hs := h.size
  refine ⟨?_, ?_, ?_, ?_, ?_, ?_, ?_, ?_, ?_, ?_⟩
  rotate_right 3
  · simp at hs; omega
  · simp at hs; omega
  · exact Ext.trans (((Ext.refl w).alloc _).alloc _) h
  all_goals first
    | (rw [hc _ _ (by simp <;> omega)]; simp [go_sem])
    | (rw [hf _ _ (by simp <;> omega)]; simp [go_sem])
theorem MustInt_yes (v : Value) (L : List V) (D : Nat) (w0 : World) (B : Nat) (h : TellsB w0 B v L D) (hk : kindOf L = 1) (w : World) : Calls Try.prog 18 #[.agg #[v]] w fun e w' => e = .returned (.int .i64 (hd L).n) ∧ Ext w w' := by
  have hc := fun w => thingInt_any v L D w0 B h w
  simp only [hk, if_true, decide_true] at hc
  go_enter Try.func18, Try.ntmps18
  go_wp2_with (go_at_call 15; refine (hc _).mono ?_; rintro e x1 ⟨rfl, hx1⟩; have k1 : x1.cell? ⟨w.heap.size, 0, none⟩ = some v := (by rw [hx1.cell (by simp)]; simp [go_sem]); have hX : Ext w x1 := Ext.trans ((Ext.refl w).alloc _) hx1; clear hx1)
  go_ret
  exact ⟨rfl, hX⟩
theorem MustInt_no (v : Value) (L : List V) (D : Nat) (w0 : World) (B : Nat) (h : TellsB w0 B v L D) (hk : kindOf L ≠ 1) (w : World) : Calls Try.prog 18 #[.agg #[v]] w fun e w' => e = .panicked (wrongP 1 (kindOf L)) ∧ Ext w w' := by
  have hc := fun w => thingInt_any v L D w0 B h w
  simp only [hk, if_false, decide_false] at hc
  go_enter Try.func18, Try.ntmps18
  go_wp2_with (first
    | (go_at_call 15; refine (hc _).mono ?_; rintro e x1 ⟨rfl, hx1⟩; have k1 : x1.cell? ⟨w.heap.size, 0, none⟩ = some v := (by rw [hx1.cell (by simp)]; simp [go_sem]); have hX : Ext w x1 := Ext.trans ((Ext.refl w).alloc _) hx1; clear hx1)
    | (go_at_call 37; refine (wrong_any v L D w0 B h _ _).mono ?_; rintro e x2 ⟨rfl, hx2⟩))
  refine ⟨rfl, rfl, ?_⟩
  refine Ext.trans ?_ hx2
  repeat (first | with_reducible exact hX | with_reducible refine Ext.alloc ?_ _ | with_reducible refine Ext.setCell ?_ (by simp) _)
theorem MustText_yes (v : Value) (L : List V) (D : Nat) (w0 : World) (B : Nat) (h : TellsB w0 B v L D) (hk : kindOf L = 2) (w : World) : Calls Try.prog 44 #[.agg #[v]] w fun e w' => e = .returned (.string (hd L).text) ∧ Ext w w' := by
  have hc := fun w => thingText_any v L D w0 B h w
  simp only [hk, if_true, decide_true] at hc
  go_enter Try.func44, Try.ntmps44
  go_wp2_with (go_at_call 29; refine (hc _).mono ?_; rintro e x1 ⟨rfl, hx1⟩; have k1 : x1.cell? ⟨w.heap.size, 0, none⟩ = some v := (by rw [hx1.cell (by simp)]; simp [go_sem]); have hX : Ext w x1 := Ext.trans ((Ext.refl w).alloc _) hx1; clear hx1)
  go_ret
  exact ⟨rfl, hX⟩
theorem MustText_no (v : Value) (L : List V) (D : Nat) (w0 : World) (B : Nat) (h : TellsB w0 B v L D) (hk : kindOf L ≠ 2) (w : World) : Calls Try.prog 44 #[.agg #[v]] w fun e w' => e = .panicked (wrongP 2 (kindOf L)) ∧ Ext w w' := by
  have hc := fun w => thingText_any v L D w0 B h w
  simp only [hk, if_false, decide_false] at hc
  go_enter Try.func44, Try.ntmps44
  go_wp2_with (first
    | (go_at_call 29; refine (hc _).mono ?_; rintro e x1 ⟨rfl, hx1⟩; have k1 : x1.cell? ⟨w.heap.size, 0, none⟩ = some v := (by rw [hx1.cell (by simp)]; simp [go_sem]); have hX : Ext w x1 := Ext.trans ((Ext.refl w).alloc _) hx1; clear hx1)
    | (go_at_call 37; refine (wrong_any v L D w0 B h _ _).mono ?_; rintro e x2 ⟨rfl, hx2⟩))
  refine ⟨rfl, rfl, ?_⟩
  refine Ext.trans ?_ hx2
  repeat (first | with_reducible exact hX | with_reducible refine Ext.alloc ?_ _ | with_reducible refine Ext.setCell ?_ (by simp) _)
theorem MustDate_yes (v : Value) (L : List V) (D : Nat) (w0 : World) (B : Nat) (h : TellsB w0 B v L D) (hk : kindOf L = 4) (w : World) : Calls Try.prog 46 #[.agg #[v]] w fun e w' => e = .returned (.agg #[.int .i64 (hd L).y, .int .i64 (hd L).m, .int .i64 (hd L).d]) ∧ Ext w w' := by
  have hc := fun w => thingDate_any v L D w0 B h w
  simp only [hk, if_true, decide_true] at hc
  go_enter Try.func46, Try.ntmps46
  go_wp2_with (go_at_call 31; refine (hc _).mono ?_; rintro e x1 ⟨rfl, hx1⟩; obtain ⟨k1, r0, r1, r2, s0, s1, s2, z0, z1, hX⟩ := must_keep w v hx1; clear hx1)
  refine bodyPost_ret (v := .agg #[.int .i64 (hd L).y, .int .i64 (hd L).m, .int .i64 (hd L).d]) ?_ rfl ⟨rfl, ?_⟩
  · simp [results, Try.results46, go_sem, r0, r1, r2, z0, z1]
  · repeat (first | with_reducible exact hX | with_reducible refine Ext.alloc ?_ _ | with_reducible refine Ext.setCell ?_ (by simp) _)
theorem MustDate_no (v : Value) (L : List V) (D : Nat) (w0 : World) (B : Nat) (h : TellsB w0 B v L D) (hk : kindOf L ≠ 4) (w : World) : Calls Try.prog 46 #[.agg #[v]] w fun e w' => e = .panicked (wrongP 4 (kindOf L)) ∧ Ext w w' := by
  have hc := fun w => thingDate_any v L D w0 B h w
  simp only [hk, if_false, decide_false] at hc
  go_enter Try.func46, Try.ntmps46
  go_wp2_with (first
    | (go_at_call 31; refine (hc _).mono ?_; rintro e x1 ⟨rfl, hx1⟩; obtain ⟨k1, r0, r1, r2, s0, s1, s2, z0, z1, hX⟩ := must_keep w v hx1; clear hx1)
    | (go_at_call 37; refine (wrong_any v L D w0 B h _ _).mono ?_; rintro e x2 ⟨rfl, hx2⟩))
  refine ⟨rfl, rfl, ?_⟩
  refine Ext.trans ?_ hx2
  repeat (first | with_reducible exact hX | with_reducible refine Ext.alloc ?_ _ | with_reducible refine Ext.setCell ?_ (by simp) _)
end Go.Proofs.Ytdojgdeadhhldaa
