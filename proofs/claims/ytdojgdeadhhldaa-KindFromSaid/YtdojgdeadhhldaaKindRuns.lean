/- The law KindRuns: the walk. -/
import Derived.Test.YtdojgdeadhhldaaKindQ
import Derived.Test.YtdojgdeadhhldaaKindK
import Derived.Test.YtdojgdeadhhldaaQuietS
namespace Go.Proofs.Ytdojgdeadhhldaa
open Go.RowKit

theorem runsClosure (w : World) : Calls Try.prog 17 #[] w fun e w' => e = .panicked (wrongP 1 2) ∧ Ext w w' := by
  have ht : ∀ x : World, TellsB x 0 (.iface 72 (.string ⟨#[97]⟩)) [⟨2, 0, ⟨#[97]⟩, 0, 0, 0⟩] 0 := fun x => .one _ _ (.text _)
  go_enter Try.func17, Try.ntmps17
  go_wp2_with (first
    | (go_at_call 14; refine (fromText_any _ _).mono ?_; rintro e x ⟨rfl, hx⟩)
    | (go_at_call 18; refine (MustInt_no _ _ _ _ _ (ht w) (by decide) _).mono ?_; rintro e y ⟨rfl, hy⟩))
  exact ⟨rfl, rfl, (by repeat (first | exact Ext.refl _ | assumption | refine Ext.trans ?_ (by assumption) | refine Ext.alloc ?_ _ | refine Ext.drew ?_ | refine Ext.drewN ?_ _))⟩

def runsL : List V := [⟨5, 2, ⟨#[]⟩, 0, 0, 0⟩, ⟨1, 5, ⟨#[]⟩, 0, 0, 0⟩, ⟨2, 0, ⟨#[97]⟩, 0, 0, 0⟩]
theorem runs_inv {w : World} {ok : Nat → Prop} {iv : Value} {D : Nat} (h : Tells w ok iv runsL D) : ∃ (a : Option Addr) (c : Nat) (a1 a2 : Value) (D1 D2 : Nat), iv = .iface 82 (.agg #[.slice a 2 c]) ∧ SlP w ok 1 (.slice a 2 c) 2 [a1, a2] ∧ Tells w ok a1 [⟨1, 5, ⟨#[]⟩, 0, 0, 0⟩] D1 ∧ Tells w ok a2 [⟨2, 0, ⟨#[97]⟩, 0, 0, 0⟩] D2 := by
  unfold runsL at h
  generalize hL : [(⟨5, 2, ⟨#[]⟩, 0, 0, 0⟩ : V), ⟨1, 5, ⟨#[]⟩, 0, 0, 0⟩, ⟨2, 0, ⟨#[97]⟩, 0, 0, 0⟩] = L at h
  cases h with
  | one v x h => cases hL
  | list sl its hs hits =>
    simp only [List.cons.injEq, headV, V.mk.injEq, true_and, and_true] at hL
    obtain ⟨h1, h2⟩ := hL
    have h3 : its.length = 2 := by omega
    match its, h3 with
    | [t1, t2], _ =>
      obtain ⟨u1, L1, D1⟩ := t1
      obtain ⟨u2, L2, D2⟩ := t2
      have e1 := hits (u1, L1, D1) (by simp)
      have e2 := hits (u2, L2, D2) (by simp)
      have n1 := e1.ne
      have n2 := e2.ne
      simp only [List.flatMap_cons, List.flatMap_nil, List.append_nil] at h2 e1 e2 n1 n2
      match L1, L2, n1, n2, h2 with
      | [y1], [y2], _, _, h2 =>
        simp only [List.cons_append, List.nil_append, List.cons.injEq, and_true] at h2
        obtain ⟨rfl, rfl⟩ := h2
        have hs0 := hs
        obtain ⟨_, _, a, c, rfl, _⟩ := hs
        exact ⟨a, c, u1, u2, D1, D2, rfl, hs0, e1, e2⟩
      | y1 :: y2 :: L1, z :: L2, _, _, h2 => simp at h2
      | [y1], z1 :: z2 :: L2, _, _, h2 => simp at h2

theorem lit2 (x : World) (b : Nat) (hb : b = x.heap.size) : Calls Try.prog 10 #[.slice (some ⟨b, 0, none⟩) 2 2] (x.alloc (.cells #[.int .i64 5, .int .i64 2, .string ⟨#[]⟩, .int .i64 0, .int .i64 0, .int .i64 0, .int .i64 1, .int .i64 5, .string ⟨#[]⟩, .int .i64 0, .int .i64 0, .int .i64 0] 32)) fun e w' => e = .returned (.tuple #[.agg #[.nilIface], .int .i64 3]) ∧ Ext (x.alloc (.cells #[.int .i64 5, .int .i64 2, .string ⟨#[]⟩, .int .i64 0, .int .i64 0, .int .i64 0, .int .i64 1, .int .i64 5, .string ⟨#[]⟩, .int .i64 0, .int .i64 0, .int .i64 0] 32)) w' := by
  subst hb
  exact of_err _ 3 _ (x.heap.size + 1) _ (by simp) (slc_lit x [⟨5, 2, ⟨#[]⟩, 0, 0, 0⟩, ⟨1, 5, ⟨#[]⟩, 0, 0, 0⟩] _ _ _ rfl rfl (by decide)) (by decide +kernel) (by decide)
theorem lit3 (x : World) (b : Nat) (hb : b = x.heap.size) : Calls Try.prog 10 #[.slice (some ⟨b, 0, none⟩) 2 2] (x.alloc (.cells #[.int .i64 1, .int .i64 5, .string ⟨#[]⟩, .int .i64 0, .int .i64 0, .int .i64 0, .int .i64 0, .int .i64 0, .string ⟨#[]⟩, .int .i64 0, .int .i64 0, .int .i64 0] 32)) fun e w' => e = .returned (.tuple #[.agg #[.nilIface], .int .i64 5]) ∧ Ext (x.alloc (.cells #[.int .i64 1, .int .i64 5, .string ⟨#[]⟩, .int .i64 0, .int .i64 0, .int .i64 0, .int .i64 0, .int .i64 0, .string ⟨#[]⟩, .int .i64 0, .int .i64 0, .int .i64 0] 32)) w' := by
  subst hb
  exact of_err _ 5 _ (x.heap.size + 1) _ (by simp) (slc_lit x [⟨1, 5, ⟨#[]⟩, 0, 0, 0⟩, ⟨0, 0, ⟨#[]⟩, 0, 0, 0⟩] _ _ _ rfl rfl (by decide)) (by decide +kernel) (by decide)
theorem lit4 (x : World) (b : Nat) (hb : b = x.heap.size) : Calls Try.prog 10 #[.slice (some ⟨b, 0, none⟩) 1 1] (x.alloc (.cells #[.int .i64 3, .int .i64 2, .string ⟨#[]⟩, .int .i64 0, .int .i64 0, .int .i64 0] 32)) fun e w' => e = .returned (.tuple #[.agg #[.nilIface], .int .i64 1]) ∧ Ext (x.alloc (.cells #[.int .i64 3, .int .i64 2, .string ⟨#[]⟩, .int .i64 0, .int .i64 0, .int .i64 0] 32)) w' := by
  subst hb
  exact of_err _ 1 _ (x.heap.size + 1) _ (by simp) (slc_lit x [⟨3, 2, ⟨#[]⟩, 0, 0, 0⟩] _ _ _ rfl rfl (by decide)) (by decide +kernel) (by decide)

theorem int_a (x : World) : Calls Try.prog 15 #[.agg #[.iface 72 (.string ⟨#[97]⟩)]] x fun e w' => e = .returned (.tuple #[.int .i64 0, .bool false]) ∧ Ext x w' :=
  thingInt_any _ _ _ x 0 (.one _ _ (.text _)) x
theorem int_7 (x : World) : Calls Try.prog 15 #[.agg #[.iface 71 (.int .i64 7)]] x fun e w' => e = .returned (.tuple #[.int .i64 7, .bool true]) ∧ Ext x w' :=
  thingInt_any _ _ _ x 0 (.one _ _ (.int _)) x
theorem must_7 (x : World) : Calls Try.prog 18 #[.agg #[.iface 71 (.int .i64 7)]] x fun e w' => e = .returned (.int .i64 7) ∧ Ext x w' :=
  MustInt_yes _ _ _ x 0 (.one _ _ (.int _)) rfl x
theorem kind_0 (x : World) : Calls Try.prog 19 #[.agg #[.nilIface]] x fun e w' => e = .returned (.int .i64 0) ∧ Ext x w' := kindV_any _ _ .none x
theorem runsCaught (w : World) : Calls Try.prog 16 #[.func (.func 17) #[] #[]] w fun e w' => e = .returned (.tuple #[.agg #[.int .i64 1, .int .i64 2], .bool true]) ∧ Ext w w' :=
  caught_panics _ #[] (fun _ => by kernel_rfl) 1 2 w fun w1 _ => runsClosure w1

set_option maxHeartbeats 8000000 in
set_option maxRecDepth 100000 in
theorem kindRuns_any (w : World) : Calls Try.prog 3 #[] w fun e w' => e = .returned (.bool true) ∧ Ext w w' := by
  have o1 : ofP runsL = 0 := by decide +kernel
  go_enter Try.func3, Try.ntmps3
  go_wp2_with (first
    | (go_at_call 10; refine (of_ok runsL _ (w.heap.size + 1) _ (by simp) (slc_lit w runsL _ _ _ rfl rfl (by decide)) o1).mono ?_; rintro e x1 ⟨iv, D, rfl, ht, _, hx1⟩; obtain ⟨a, c, a1, a2, D1, D2, rfl, hsl, ht1, ht2⟩ := runs_inv ht; have hX1 : Ext w x1 := (by repeat (first | exact Ext.refl _ | assumption | refine Ext.trans ?_ (by assumption) | refine Ext.alloc ?_ _ | refine Ext.drew ?_ | refine Ext.drewN ?_ _)); have hlist : SlR x1 x1.heap.size 1 (.slice a 2 c) 2 [a1, a2] := hsl.keep fun b hb => ⟨rfl, hb.2⟩; have t1 := ht1.b; have t2 := ht2.b; have hone : ∀ u ∈ [a1, a2], u.oneCell' = true := (by intro u hu; simp only [List.mem_cons, List.not_mem_nil, or_false] at hu; rcases hu with h | h <;> rw [h]; exact ht1.cell1; exact ht2.cell1))
    | (go_at_call 11; (refine (listL_any _ 2 [a1, a2] _ ((hlist.mono ((by repeat (first | exact Ext.refl _ | assumption | refine Ext.trans ?_ (by assumption) | refine Ext.alloc ?_ _ | refine Ext.drew ?_ | refine Ext.drewN ?_ _)) : Ext x1 _)).up (Ext.size (by repeat (first | exact Ext.refl _ | assumption | refine Ext.trans ?_ (by assumption) | refine Ext.alloc ?_ _ | refine Ext.drew ?_ | refine Ext.drewN ?_ _)))) hone (by decide)).mono ?_); rintro e x2 ⟨out, rfl, hown, hx2⟩; have hX2 : Ext x1 x2 := (by repeat (first | exact Ext.refl _ | assumption | refine Ext.trans ?_ (by assumption) | refine Ext.alloc ?_ _ | refine Ext.drew ?_ | refine Ext.drewN ?_ _))))
  have hr := SlR.of_own hown
  obtain ⟨_, _, ao, co, rfl, hr⟩ := hr
  obtain ⟨bo, oo, rfl, hbo, hco⟩ := hr.resolve_left (by decide)
  have k1 : x2.cell? ⟨bo, oo, none⟩ = some a1 := by simpa using hco 0 (by decide)
  have k2 : x2.cell? ⟨bo, oo + 1, none⟩ = some a2 := by simpa using hco 1 (by decide)
  have T1 := fun x (h : Ext x2 x) => t1.ext (hX2.trans h)
  have T2 := fun x (h : Ext x2 x) => t2.ext (hX2.trans h)
  clear hco hown hsl ht1 ht2
  have hX : Ext w x2 := hX1.trans hX2
  have s1 : ∀ x, Ext x2 x → Calls Try.prog 12 #[.agg #[a1], .agg #[.iface 71 (.int .i64 5)]] x fun e w' => e = .returned (.bool true) ∧ Ext x w' := fun x h =>
    kindSame_any _ _ _ _ _ _ true ⟨fun _ => ⟨by simp [flatOk]; have := T1 x h; cases this; exact Nat.zero_le _, by decide, rfl⟩, fun _ => rfl⟩ x (T1 x h) (.one _ _ (.int 5))
  have s2 : ∀ x, Ext x2 x → Calls Try.prog 12 #[.agg #[a2], .agg #[.iface 72 (.string ⟨#[97]⟩)]] x fun e w' => e = .returned (.bool true) ∧ Ext x w' := fun x h =>
    kindSame_any _ _ _ _ _ _ true ⟨fun _ => ⟨by simp [flatOk]; have := T2 x h; cases this; exact Nat.zero_le _, by decide, rfl⟩, fun _ => rfl⟩ x (T2 x h) (.one _ _ (.text _))
  have k1' := fun (x : SubW (Ext x2)) => (x.ok.cell (p := ⟨bo, oo, none⟩) hbo).trans k1
  have k2' := fun (x : SubW (Ext x2)) => (x.ok.cell (p := ⟨bo, oo + 1, none⟩) hbo).trans k2
  have inst : Nonempty (SubW (Ext x2)) := ⟨⟨_, Ext.refl _⟩⟩
  have S1 := Lib.hid s1
  have S2 := Lib.hid s2
  clear hr T1 T2 t1 t2 hone hlist ht hx2 hx1 k1 k2 s1 s2
  refine wp_region_quietS (Ext x2) (by kernel_rfl) (by kernel_rfl) ((Ext.refl _).drew) ?_
  repeat (go_big_quiet_step (first
    | (go_at_call 13; exact quietS_ext (fromInt_any _ _))
    | (go_at_call 14; exact quietS_ext (fromText_any _ _))
    | (go_at_call 12; with_reducible exact quietS_ext (S1.out _ (SubW.ok _)))
    | (go_at_call 12; with_reducible exact quietS_ext (S2.out _ (SubW.ok _)))))
  refine wpQuiet_nil ?_
  rintro _ ⟨y5, rfl⟩
  have hx5 := y5.ok
  generalize y5.w = x5 at hx5 ⊢
  have hX5 : Ext w x5 := hX.trans hx5
  clear k1' k2' inst S1 S2
  go_wp2_with (first
    | (go_at_call 10; with_reducible refine (lit2 _ _ (by simp)).mono ?_; rintro e z2 ⟨rfl, hz2⟩; have hZ2 : Ext w z2 := hX5.trans (Ext.trans ((Ext.refl _).alloc _) hz2))
    | (go_at_call 10; with_reducible refine (lit3 _ _ (by simp)).mono ?_; rintro e z3 ⟨rfl, hz3⟩; have hZ3 : Ext w z3 := hZ2.trans (Ext.trans (((Ext.refl _).alloc _).alloc _) hz3))
    | (go_at_call 10; with_reducible refine (lit4 _ _ (by simp)).mono ?_; rintro e z4 ⟨rfl, hz4⟩; have hZ4 : Ext w z4 := hZ3.trans (Ext.trans (((Ext.refl _).alloc _).alloc _) hz4); clear hz2 hz3 hz4)
    | (go_at_call 14; refine (fromText_any _ _).mono ?_; rintro e y1 ⟨rfl, hy1⟩; have hY0 : Ext w ((z4.alloc (.cells #[.nilIface] 25)).alloc (.cells #[.nilIface] 25)) := (hZ4.alloc _).alloc _; have kz : ∀ x, Ext ((z4.alloc (.cells #[.nilIface] 25)).alloc (.cells #[.nilIface] 25)) x → x.cell? ⟨z4.heap.size + 1, 0, none⟩ = some .nilIface := fun x h => (by rw [h.cell (by simp)]; simp [go_sem]); have KZ := Lib.hid kz; clear kz)
    | (go_at_call 15; with_reducible refine (int_a _).mono ?_; rintro e y2 ⟨rfl, hy2⟩)
    | (go_at_call 15; with_reducible refine (int_7 _).mono ?_; rintro e y4 ⟨rfl, hy4⟩)
    | (go_at_call 16; refine (runsCaught _).mono ?_; rintro e y5 ⟨rfl, hy5⟩; have kk := KZ.out _ (hy1.trans (hy2.trans (hy3.trans (hy4.trans hy5)))); have zz := World.block_lt_of_cell? _ _ kk; have hY5 : Ext w y5 := hY0.trans (hy1.trans (hy2.trans (hy3.trans (hy4.trans hy5)))); clear hy1 hy2 hy3 hy4 hy5 KZ hY0)
    | (go_at_call 19; with_reducible refine (kind_0 _).mono ?_; rintro e y6 ⟨rfl, hy6⟩; have q1 : y6.cell? ⟨y5.heap.size, 0, none⟩ = some (.int .i64 1) := (by rw [hy6.cell (by simp)]; simp [go_sem]); have q2 : y6.cell? ⟨y5.heap.size, 1, none⟩ = some (.int .i64 2) := (by rw [hy6.cell (by simp)]; simp [go_sem]))
    | (go_at_call 18; with_reducible refine (must_7 _).mono ?_; rintro e y8 ⟨rfl, hy8⟩)
    | (go_at_call 13; refine (fromInt_any _ _).mono ?_; rintro e y3 ⟨rfl, hy3⟩))
  go_ret
  exact ⟨rfl, (by repeat (first | exact Ext.refl _ | assumption | refine Ext.trans ?_ (by assumption) | refine Ext.alloc ?_ _ | refine Ext.drew ?_ | refine Ext.drewN ?_ _))⟩
end Go.Proofs.Ytdojgdeadhhldaa
