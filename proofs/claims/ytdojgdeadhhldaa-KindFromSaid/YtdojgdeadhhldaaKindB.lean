/- Package kind: Kind, inner, one: what each does with a thing's value. (Written by genKindB.py.) -/
import Derived.Test.YtdojgdeadhhldaaKindA
namespace Go.Proofs.Ytdojgdeadhhldaa
open Go.RowKit

theorem asked_none  : (∀ w : World, (Instr.typeAssert (.nilIface) 23 71 true).run Try.prog w = .ok (.tuple #[.int .i64 0, .bool false]) w) ∧
    (∀ w : World, (Instr.typeAssert (.nilIface) 23 72 true).run Try.prog w = .ok (.tuple #[.string ⟨#[]⟩, .bool false]) w) ∧
    (∀ w : World, (Instr.typeAssert (.nilIface) 23 84 true).run Try.prog w = .ok (.tuple #[.bool false, .bool false]) w) ∧
    (∀ w : World, (Instr.typeAssert (.nilIface) 23 87 true).run Try.prog w = .ok (.tuple #[.agg #[.int .i64 0, .int .i64 0, .int .i64 0], .bool false]) w) ∧
    (∀ w : World, (Instr.typeAssert (.nilIface) 23 82 true).run Try.prog w = .ok (.tuple #[.agg #[.slice none 0 0], .bool false]) w) :=
  ⟨fun _ => by kernel_rfl, fun _ => by kernel_rfl, fun _ => by kernel_rfl, fun _ => by kernel_rfl, fun _ => by kernel_rfl⟩
theorem asked_int (n : Int) : (∀ w : World, (Instr.typeAssert (.iface 71 (.int .i64 n)) 23 71 true).run Try.prog w = .ok (.tuple #[.int .i64 n, .bool true]) w) ∧
    (∀ w : World, (Instr.typeAssert (.iface 71 (.int .i64 n)) 23 72 true).run Try.prog w = .ok (.tuple #[.string ⟨#[]⟩, .bool false]) w) ∧
    (∀ w : World, (Instr.typeAssert (.iface 71 (.int .i64 n)) 23 84 true).run Try.prog w = .ok (.tuple #[.bool false, .bool false]) w) ∧
    (∀ w : World, (Instr.typeAssert (.iface 71 (.int .i64 n)) 23 87 true).run Try.prog w = .ok (.tuple #[.agg #[.int .i64 0, .int .i64 0, .int .i64 0], .bool false]) w) ∧
    (∀ w : World, (Instr.typeAssert (.iface 71 (.int .i64 n)) 23 82 true).run Try.prog w = .ok (.tuple #[.agg #[.slice none 0 0], .bool false]) w) :=
  ⟨fun _ => by kernel_rfl, fun _ => by kernel_rfl, fun _ => by kernel_rfl, fun _ => by kernel_rfl, fun _ => by kernel_rfl⟩
theorem asked_text (s : ByteArray) : (∀ w : World, (Instr.typeAssert (.iface 72 (.string s)) 23 71 true).run Try.prog w = .ok (.tuple #[.int .i64 0, .bool false]) w) ∧
    (∀ w : World, (Instr.typeAssert (.iface 72 (.string s)) 23 72 true).run Try.prog w = .ok (.tuple #[.string s, .bool true]) w) ∧
    (∀ w : World, (Instr.typeAssert (.iface 72 (.string s)) 23 84 true).run Try.prog w = .ok (.tuple #[.bool false, .bool false]) w) ∧
    (∀ w : World, (Instr.typeAssert (.iface 72 (.string s)) 23 87 true).run Try.prog w = .ok (.tuple #[.agg #[.int .i64 0, .int .i64 0, .int .i64 0], .bool false]) w) ∧
    (∀ w : World, (Instr.typeAssert (.iface 72 (.string s)) 23 82 true).run Try.prog w = .ok (.tuple #[.agg #[.slice none 0 0], .bool false]) w) :=
  ⟨fun _ => by kernel_rfl, fun _ => by kernel_rfl, fun _ => by kernel_rfl, fun _ => by kernel_rfl, fun _ => by kernel_rfl⟩
theorem asked_flag (b : Bool) : (∀ w : World, (Instr.typeAssert (.iface 84 (.bool b)) 23 71 true).run Try.prog w = .ok (.tuple #[.int .i64 0, .bool false]) w) ∧
    (∀ w : World, (Instr.typeAssert (.iface 84 (.bool b)) 23 72 true).run Try.prog w = .ok (.tuple #[.string ⟨#[]⟩, .bool false]) w) ∧
    (∀ w : World, (Instr.typeAssert (.iface 84 (.bool b)) 23 84 true).run Try.prog w = .ok (.tuple #[.bool b, .bool true]) w) ∧
    (∀ w : World, (Instr.typeAssert (.iface 84 (.bool b)) 23 87 true).run Try.prog w = .ok (.tuple #[.agg #[.int .i64 0, .int .i64 0, .int .i64 0], .bool false]) w) ∧
    (∀ w : World, (Instr.typeAssert (.iface 84 (.bool b)) 23 82 true).run Try.prog w = .ok (.tuple #[.agg #[.slice none 0 0], .bool false]) w) :=
  ⟨fun _ => by kernel_rfl, fun _ => by kernel_rfl, fun _ => by kernel_rfl, fun _ => by kernel_rfl, fun _ => by kernel_rfl⟩
theorem asked_day (y m d : Int) : (∀ w : World, (Instr.typeAssert (.iface 87 (.agg #[.int .i64 y, .int .i64 m, .int .i64 d])) 23 71 true).run Try.prog w = .ok (.tuple #[.int .i64 0, .bool false]) w) ∧
    (∀ w : World, (Instr.typeAssert (.iface 87 (.agg #[.int .i64 y, .int .i64 m, .int .i64 d])) 23 72 true).run Try.prog w = .ok (.tuple #[.string ⟨#[]⟩, .bool false]) w) ∧
    (∀ w : World, (Instr.typeAssert (.iface 87 (.agg #[.int .i64 y, .int .i64 m, .int .i64 d])) 23 84 true).run Try.prog w = .ok (.tuple #[.bool false, .bool false]) w) ∧
    (∀ w : World, (Instr.typeAssert (.iface 87 (.agg #[.int .i64 y, .int .i64 m, .int .i64 d])) 23 87 true).run Try.prog w = .ok (.tuple #[.agg #[.int .i64 y, .int .i64 m, .int .i64 d], .bool true]) w) ∧
    (∀ w : World, (Instr.typeAssert (.iface 87 (.agg #[.int .i64 y, .int .i64 m, .int .i64 d])) 23 82 true).run Try.prog w = .ok (.tuple #[.agg #[.slice none 0 0], .bool false]) w) :=
  ⟨fun _ => by kernel_rfl, fun _ => by kernel_rfl, fun _ => by kernel_rfl, fun _ => by kernel_rfl, fun _ => by kernel_rfl⟩
theorem asked_list (sl : Value) : (∀ w : World, (Instr.typeAssert (.iface 82 (.agg #[sl])) 23 71 true).run Try.prog w = .ok (.tuple #[.int .i64 0, .bool false]) w) ∧
    (∀ w : World, (Instr.typeAssert (.iface 82 (.agg #[sl])) 23 72 true).run Try.prog w = .ok (.tuple #[.string ⟨#[]⟩, .bool false]) w) ∧
    (∀ w : World, (Instr.typeAssert (.iface 82 (.agg #[sl])) 23 84 true).run Try.prog w = .ok (.tuple #[.bool false, .bool false]) w) ∧
    (∀ w : World, (Instr.typeAssert (.iface 82 (.agg #[sl])) 23 87 true).run Try.prog w = .ok (.tuple #[.agg #[.int .i64 0, .int .i64 0, .int .i64 0], .bool false]) w) ∧
    (∀ w : World, (Instr.typeAssert (.iface 82 (.agg #[sl])) 23 82 true).run Try.prog w = .ok (.tuple #[.agg #[sl], .bool true]) w) :=
  ⟨fun _ => by kernel_rfl, fun _ => by kernel_rfl, fun _ => by kernel_rfl, fun _ => by kernel_rfl, fun _ => by kernel_rfl⟩
theorem kindV_any (v : Value) (x : V) (h : One v x) (w : World) : Calls Try.prog 19 #[.agg #[v]] w fun e w' => e = .returned (.int .i64 x.kind) ∧ Ext w w' := by
  cases h with
  | none =>
    go_enter Try.func19, Try.ntmps19
    go_wp2
    go_ret
    exact ⟨rfl, (by repeat (first | exact Ext.refl _ | assumption | refine Ext.trans ?_ (by assumption) | refine Ext.alloc ?_ _ | refine Ext.drew ?_ | refine Ext.drewN ?_ _))⟩
  | int n =>
    have hm : ∀ w : World, (method 209 71 (.int .i64 n) "impost/kind.kind").run Try.prog w = .ok (64, .int .i64 n) w := fun _ => by kernel_rfl
    go_enter Try.func19, Try.ntmps19
    go_wp2
    go_ret
    exact ⟨rfl, (by repeat (first | exact Ext.refl _ | assumption | refine Ext.trans ?_ (by assumption) | refine Ext.alloc ?_ _ | refine Ext.drew ?_ | refine Ext.drewN ?_ _))⟩
  | text s =>
    have hm : ∀ w : World, (method 209 72 (.string s) "impost/kind.kind").run Try.prog w = .ok (65, .string s) w := fun _ => by kernel_rfl
    go_enter Try.func19, Try.ntmps19
    go_wp2
    go_ret
    exact ⟨rfl, (by repeat (first | exact Ext.refl _ | assumption | refine Ext.trans ?_ (by assumption) | refine Ext.alloc ?_ _ | refine Ext.drew ?_ | refine Ext.drewN ?_ _))⟩
  | flag b =>
    have hm : ∀ w : World, (method 209 84 (.bool b) "impost/kind.kind").run Try.prog w = .ok (67, .bool b) w := fun _ => by kernel_rfl
    go_enter Try.func19, Try.ntmps19
    go_wp2
    go_ret
    exact ⟨rfl, (by repeat (first | exact Ext.refl _ | assumption | refine Ext.trans ?_ (by assumption) | refine Ext.alloc ?_ _ | refine Ext.drew ?_ | refine Ext.drewN ?_ _))⟩
  | day y m d =>
    have hm : ∀ w : World, (method 209 87 (.agg #[.int .i64 y, .int .i64 m, .int .i64 d]) "impost/kind.kind").run Try.prog w = .ok (68, .agg #[.int .i64 y, .int .i64 m, .int .i64 d]) w := fun _ => by kernel_rfl
    go_enter Try.func19, Try.ntmps19
    go_wp2
    go_ret
    exact ⟨rfl, (by repeat (first | exact Ext.refl _ | assumption | refine Ext.trans ?_ (by assumption) | refine Ext.alloc ?_ _ | refine Ext.drew ?_ | refine Ext.drewN ?_ _))⟩
theorem kindL_any (sl : Value) (w : World) : Calls Try.prog 19 #[.agg #[.iface 82 (.agg #[sl])]] w fun e w' => e = .returned (.int .i64 5) ∧ Ext w w' := by
  have hm : ∀ w : World, (method 209 82 (.agg #[sl]) "impost/kind.kind").run Try.prog w = .ok (66, .agg #[sl]) w := fun _ => by kernel_rfl
  go_enter Try.func19, Try.ntmps19
  go_wp2
  go_ret
  exact ⟨rfl, (by repeat (first | exact Ext.refl _ | assumption | refine Ext.trans ?_ (by assumption) | refine Ext.alloc ?_ _ | refine Ext.drew ?_ | refine Ext.drewN ?_ _))⟩
theorem kind_any (v : Value) (L : List V) (D : Nat) (w0 : World) (B : Nat) (h : TellsB w0 B v L D) (w : World) : Calls Try.prog 19 #[.agg #[v]] w fun e w' => e = .returned (.int .i64 (kindOf L)) ∧ Ext w w' := by
  cases h with
  | one _ x h => exact kindV_any v x h w
  | list sl its _ _ => exact kindL_any sl w
theorem innerV_any (v : Value) (x : V) (h : One v x) (w : World) : Calls Try.prog 34 #[v] w fun e w' => e = .returned (.tuple #[.slice none 0 0, .bool false]) ∧ Ext w w' := by
  cases h with
  | none  =>
    obtain ⟨_, _, _, _, q5⟩ := asked_none 
    go_enter Try.func34, Try.ntmps34
    go_wp2
    go_ret2
    exact ⟨rfl, (by repeat (first | exact Ext.refl _ | assumption | refine Ext.trans ?_ (by assumption) | refine Ext.alloc ?_ _ | refine Ext.drew ?_ | refine Ext.drewN ?_ _))⟩
  | int n =>
    obtain ⟨_, _, _, _, q5⟩ := asked_int n
    go_enter Try.func34, Try.ntmps34
    go_wp2
    go_ret2
    exact ⟨rfl, (by repeat (first | exact Ext.refl _ | assumption | refine Ext.trans ?_ (by assumption) | refine Ext.alloc ?_ _ | refine Ext.drew ?_ | refine Ext.drewN ?_ _))⟩
  | text s =>
    obtain ⟨_, _, _, _, q5⟩ := asked_text s
    go_enter Try.func34, Try.ntmps34
    go_wp2
    go_ret2
    exact ⟨rfl, (by repeat (first | exact Ext.refl _ | assumption | refine Ext.trans ?_ (by assumption) | refine Ext.alloc ?_ _ | refine Ext.drew ?_ | refine Ext.drewN ?_ _))⟩
  | flag b =>
    obtain ⟨_, _, _, _, q5⟩ := asked_flag b
    go_enter Try.func34, Try.ntmps34
    go_wp2
    go_ret2
    exact ⟨rfl, (by repeat (first | exact Ext.refl _ | assumption | refine Ext.trans ?_ (by assumption) | refine Ext.alloc ?_ _ | refine Ext.drew ?_ | refine Ext.drewN ?_ _))⟩
  | day y m d =>
    obtain ⟨_, _, _, _, q5⟩ := asked_day y m d
    go_enter Try.func34, Try.ntmps34
    go_wp2
    go_ret2
    exact ⟨rfl, (by repeat (first | exact Ext.refl _ | assumption | refine Ext.trans ?_ (by assumption) | refine Ext.alloc ?_ _ | refine Ext.drew ?_ | refine Ext.drewN ?_ _))⟩
theorem innerL_any (a : Option Addr) (n c : Nat) (w : World) : Calls Try.prog 34 #[.iface 82 (.agg #[.slice a n c])] w fun e w' => e = .returned (.tuple #[.slice a n c, .bool true]) ∧ Ext w w' := by
  obtain ⟨_, _, _, _, q5⟩ := asked_list (.slice a n c)
  go_enter Try.func34, Try.ntmps34
  go_wp2
  go_ret2
  exact ⟨rfl, (by repeat (first | exact Ext.refl _ | assumption | refine Ext.trans ?_ (by assumption) | refine Ext.alloc ?_ _ | refine Ext.drew ?_ | refine Ext.drewN ?_ _))⟩
theorem one_keep (w : World) (v : Value) {x : World} (h : Ext ((w.alloc (.cells #[v] 25)).alloc (.cells #[.int .i64 0, .int .i64 0, .string ⟨#[]⟩, .int .i64 0, .int .i64 0, .int .i64 0] 32)) x) :
    x.cell? ⟨w.heap.size, 0, none⟩ = some v ∧
    x.cell? ⟨w.heap.size + 1, 0, none⟩ = some (.int .i64 0) ∧ x.cell? ⟨w.heap.size + 1, 1, none⟩ = some (.int .i64 0) ∧ x.cell? ⟨w.heap.size + 1, 2, none⟩ = some (.string ⟨#[]⟩) ∧ x.cell? ⟨w.heap.size + 1, 3, none⟩ = some (.int .i64 0) ∧ x.cell? ⟨w.heap.size + 1, 4, none⟩ = some (.int .i64 0) ∧ x.cell? ⟨w.heap.size + 1, 5, none⟩ = some (.int .i64 0) ∧
    x.frozen? ⟨w.heap.size + 1, 0, none⟩ = false ∧ x.frozen? ⟨w.heap.size + 1, 1, none⟩ = false ∧ x.frozen? ⟨w.heap.size + 1, 2, none⟩ = false ∧ x.frozen? ⟨w.heap.size + 1, 3, none⟩ = false ∧ x.frozen? ⟨w.heap.size + 1, 4, none⟩ = false ∧ x.frozen? ⟨w.heap.size + 1, 5, none⟩ = false ∧
    w.heap.size < x.heap.size ∧ w.heap.size + 1 < x.heap.size ∧ Ext w x := by
  obtain ⟨hc, hf⟩ := Ext.bc h
  have hs := h.size
  refine ⟨?_, ?_, ?_, ?_, ?_, ?_, ?_, ?_, ?_, ?_, ?_, ?_, ?_, ?_, ?_, ?_⟩
  rotate_right 3
  · simp at hs; omega
  · simp at hs; omega
  · exact Ext.trans (((Ext.refl w).alloc _).alloc _) h
  all_goals first
    | (rw [hc _ _ (by simp <;> omega)]; simp [go_sem])
    | (rw [hf _ _ (by simp <;> omega)]; simp [go_sem])

theorem one_ret (tm : Array Value) (W : World) (b : Nat) (x : V) (ht : tm[2]? = some (.pointer (some ⟨b, 0, none⟩))) (h0 : W.cell? ⟨b, 0, none⟩ = some (.int .i64 x.kind)) (h1 : W.cell? ⟨b, 1, none⟩ = some (.int .i64 x.n)) (h2 : W.cell? ⟨b, 2, none⟩ = some (.string x.text)) (h3 : W.cell? ⟨b, 3, none⟩ = some (.int .i64 x.y)) (h4 : W.cell? ⟨b, 4, none⟩ = some (.int .i64 x.m)) (h5 : W.cell? ⟨b, 5, none⟩ = some (.int .i64 x.d)) :
    (results Try.f48 tm).run Try.prog W = .ok x.val W := by
  simp [results, Try.results48, go_sem, V.val, ht, h0, h1, h2, h3, h4, h5]

set_option maxHeartbeats 8000000 in
theorem oneV_any (v : Value) (x : V) (h : One v x) (w : World) : Calls Try.prog 48 #[.agg #[v]] w fun e w' => e = .returned x.val ∧ Ext w w' := by
  cases h with
  | none  =>
    obtain ⟨q1, q2, q3, q4, q5⟩ := asked_none 
    go_enter Try.func48, Try.ntmps48
    go_wp2_with (go_at_call 19; (refine (kindV_any _ _ (One.none ) _).mono ?_); rintro e x9 ⟨rfl, hx9⟩; obtain ⟨f0, r0, r1, r2, r3, r4, r5, s0, s1, s2, s3, s4, s5, h1, h2, hX⟩ := one_keep w _ hx9; clear hx9)
    clear q1 q2 q3 q4 q5
    refine bodyPost_ret (v := V.val ⟨0, 0, ⟨#[]⟩, 0, 0, 0⟩) ?r rfl ⟨rfl, ?e⟩
    case e => repeat (first | with_reducible exact hX | with_reducible refine Ext.alloc ?_ _ | with_reducible refine Ext.setCell ?_ (by simp) _)
    case r =>
      refine one_ret _ _ (w.heap.size + 1) _ rfl ?_ ?_ ?_ ?_ ?_ ?_
      all_goals clear hX s0 s1 s2 s3 s4 s5
      all_goals simp [go_sem, h1, h2, r0, r1, r2, r3, r4, r5]
  | int n =>
    obtain ⟨q1, q2, q3, q4, q5⟩ := asked_int n
    go_enter Try.func48, Try.ntmps48
    go_wp2_with (go_at_call 19; (refine (kindV_any _ _ (One.int n) _).mono ?_); rintro e x9 ⟨rfl, hx9⟩; obtain ⟨f0, r0, r1, r2, r3, r4, r5, s0, s1, s2, s3, s4, s5, h1, h2, hX⟩ := one_keep w _ hx9; clear hx9)
    clear q1 q2 q3 q4 q5
    refine bodyPost_ret (v := V.val ⟨1, n, ⟨#[]⟩, 0, 0, 0⟩) ?r rfl ⟨rfl, ?e⟩
    case e => repeat (first | with_reducible exact hX | with_reducible refine Ext.alloc ?_ _ | with_reducible refine Ext.setCell ?_ (by simp) _)
    case r =>
      refine one_ret _ _ (w.heap.size + 1) _ rfl ?_ ?_ ?_ ?_ ?_ ?_
      all_goals clear hX s0 s1 s2 s3 s4 s5
      all_goals simp [go_sem, h1, h2, r0, r1, r2, r3, r4, r5]
  | text s =>
    obtain ⟨q1, q2, q3, q4, q5⟩ := asked_text s
    go_enter Try.func48, Try.ntmps48
    go_wp2_with (go_at_call 19; (refine (kindV_any _ _ (One.text s) _).mono ?_); rintro e x9 ⟨rfl, hx9⟩; obtain ⟨f0, r0, r1, r2, r3, r4, r5, s0, s1, s2, s3, s4, s5, h1, h2, hX⟩ := one_keep w _ hx9; clear hx9)
    clear q1 q2 q3 q4 q5
    refine bodyPost_ret (v := V.val ⟨2, 0, s, 0, 0, 0⟩) ?r rfl ⟨rfl, ?e⟩
    case e => repeat (first | with_reducible exact hX | with_reducible refine Ext.alloc ?_ _ | with_reducible refine Ext.setCell ?_ (by simp) _)
    case r =>
      refine one_ret _ _ (w.heap.size + 1) _ rfl ?_ ?_ ?_ ?_ ?_ ?_
      all_goals clear hX s0 s1 s2 s3 s4 s5
      all_goals simp [go_sem, h1, h2, r0, r1, r2, r3, r4, r5]
  | flag b =>
    cases b with
    | false =>
      obtain ⟨q1, q2, q3, q4, q5⟩ := asked_flag false
      go_enter Try.func48, Try.ntmps48
      go_wp2_with (go_at_call 19; (refine (kindV_any _ _ (One.flag false) _).mono ?_); rintro e x9 ⟨rfl, hx9⟩; obtain ⟨f0, r0, r1, r2, r3, r4, r5, s0, s1, s2, s3, s4, s5, h1, h2, hX⟩ := one_keep w _ hx9; clear hx9)
      clear q1 q2 q3 q4 q5
      refine bodyPost_ret (v := V.val ⟨3, 0, ⟨#[]⟩, 0, 0, 0⟩) ?r rfl ⟨rfl, ?e⟩
      case e => repeat (first | with_reducible exact hX | with_reducible refine Ext.alloc ?_ _ | with_reducible refine Ext.setCell ?_ (by simp) _)
      case r =>
        refine one_ret _ _ (w.heap.size + 1) _ rfl ?_ ?_ ?_ ?_ ?_ ?_
        all_goals clear hX s0 s1 s2 s3 s4 s5
        all_goals simp [go_sem, h1, h2, r0, r1, r2, r3, r4, r5]
    | true =>
      obtain ⟨q1, q2, q3, q4, q5⟩ := asked_flag true
      go_enter Try.func48, Try.ntmps48
      go_wp2_with (go_at_call 19; (refine (kindV_any _ _ (One.flag true) _).mono ?_); rintro e x9 ⟨rfl, hx9⟩; obtain ⟨f0, r0, r1, r2, r3, r4, r5, s0, s1, s2, s3, s4, s5, h1, h2, hX⟩ := one_keep w _ hx9; clear hx9)
      clear q1 q2 q3 q4 q5
      refine bodyPost_ret (v := V.val ⟨3, 1, ⟨#[]⟩, 0, 0, 0⟩) ?r rfl ⟨rfl, ?e⟩
      case e => repeat (first | with_reducible exact hX | with_reducible refine Ext.alloc ?_ _ | with_reducible refine Ext.setCell ?_ (by simp) _)
      case r =>
        refine one_ret _ _ (w.heap.size + 1) _ rfl ?_ ?_ ?_ ?_ ?_ ?_
        all_goals clear hX s0 s1 s2 s3 s4 s5
        all_goals simp [go_sem, h1, h2, r0, r1, r2, r3, r4, r5]
  | day y m d =>
    obtain ⟨q1, q2, q3, q4, q5⟩ := asked_day y m d
    go_enter Try.func48, Try.ntmps48
    go_wp2_with (go_at_call 19; (refine (kindV_any _ _ (One.day y m d) _).mono ?_); rintro e x9 ⟨rfl, hx9⟩; obtain ⟨f0, r0, r1, r2, r3, r4, r5, s0, s1, s2, s3, s4, s5, h1, h2, hX⟩ := one_keep w _ hx9; clear hx9)
    clear q1 q2 q3 q4 q5
    refine bodyPost_ret (v := V.val ⟨4, 0, ⟨#[]⟩, y, m, d⟩) ?r rfl ⟨rfl, ?e⟩
    case e => repeat (first | with_reducible exact hX | with_reducible refine Ext.alloc ?_ _ | with_reducible refine Ext.setCell ?_ (by simp) _)
    case r =>
      refine one_ret _ _ (w.heap.size + 1) _ rfl ?_ ?_ ?_ ?_ ?_ ?_
      all_goals clear hX s0 s1 s2 s3 s4 s5
      all_goals simp [go_sem, h1, h2, r0, r1, r2, r3, r4, r5]
set_option maxHeartbeats 4000000 in
theorem oneL_any (a : Option Addr) (n c : Nat) (w : World) : Calls Try.prog 48 #[.agg #[.iface 82 (.agg #[.slice a n c])]] w fun e w' => e = .returned (headV n).val ∧ Ext w w' := by
  obtain ⟨q1, q2, q3, q4, q5⟩ := asked_list (.slice a n c)
  go_enter Try.func48, Try.ntmps48
  go_wp2_with (go_at_call 19; (refine (kindL_any _ _).mono ?_); rintro e x9 ⟨rfl, hx9⟩; obtain ⟨f0, r0, r1, r2, r3, r4, r5, s0, s1, s2, s3, s4, s5, h1, h2, hX⟩ := one_keep w _ hx9; clear hx9)
  clear q1 q2 q3 q4 q5
  refine bodyPost_ret (v := V.val (headV n)) ?r rfl ⟨rfl, ?e⟩
  case e => repeat (first | with_reducible exact hX | with_reducible refine Ext.alloc ?_ _ | with_reducible refine Ext.setCell ?_ (by simp) _)
  case r =>
    refine one_ret _ _ (w.heap.size + 1) _ rfl ?_ ?_ ?_ ?_ ?_ ?_
    all_goals clear hX s0 s1 s2 s3 s4 s5
    all_goals simp [go_sem, h1, h2, r0, r1, r2, r3, r4, r5, headV]
end Go.Proofs.Ytdojgdeadhhldaa
