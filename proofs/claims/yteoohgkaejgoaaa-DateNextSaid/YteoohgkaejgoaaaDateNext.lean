/- The law DateNext of package impostlaw6: the walk. -/
import Derived.Test.YteoohgkaejgoaaaDateOrder
import Derived.Test.YteoohgkaejgoaaaQuietS
import Derived.Laws.Cover1
namespace Go.Proofs.Yteoohgkaejgoaaa
open Go.RowKit
open Go.Op (bytesLess)

set_option maxHeartbeats 8000000 in
set_option maxRecDepth 100000 in
theorem dateNext_any (n : Int) (w : World) : Calls Try.prog 9 #[.int .i64 n] w fun e w' => e = .returned (.bool true) ∧ Ext w w' := by
  obtain ⟨b1, b2⟩ := withI_bd n 0 3652057 (by decide)
  go_enter Try.func9, Try.ntmps9
  go_wp2_with (go_at_call 18; refine (within_any _ _ _ _ (by decide) (by decide) (by decide)).mono ?_; rintro e w' ⟨rfl, rfl⟩)
  generalize withI n 0 3652057 = k at *
  refine (of_yes k _ (by omega) (by omega)).mono ?_
  rintro e w1 ⟨y1, m1, d1, rfl, hd1, h1⟩
  go_wp2_with fail
  refine (of_yes (k + 1) _ (by omega) (by omega)).mono ?_
  rintro e w2 ⟨y2, m2, d2, rfl, hd2, h2⟩
  have hE : Ext w w1 := h1
  clear h1
  obtain ⟨c0, c1, c2, hz⟩ := three w1 w2 _ _ _ _ h2
  have hb12 := before_of hd1 hd2
  have hb21 := before_of hd2 hd1
  have hb11 := before_of hd1 hd1
  rw [decide_eq_true (by omega : k < k + 1)] at hb12
  rw [decide_eq_false (by omega : ¬ k + 1 < k)] at hb21
  rw [decide_eq_false (by omega : ¬ k < k)] at hb11
  have hless := show_less hd1 hd2
  rw [← show_bytes hd1.1, ← show_bytes hd2.1, ← bytes_list, ← bytes_list, decide_eq_true (by omega : k < k + 1)] at hless
  generalize hs1 : showS y1 m1 d1 = s1 at *
  generalize hs2 : showS y2 m2 d2 = s2 at *
  have hnx := next_day hd1 hd2 b2
  obtain ⟨a1, a2, a3, a4, a5, a6⟩ := dayB_of hd1.1
  have l1 := lenI_bd y1 m1
  have HS1 := Lib.hid hs1
  have HS2 := Lib.hid hs2
  have HB12 := Lib.hid hb12
  have HB21 := Lib.hid hb21
  have HB11 := Lib.hid hb11
  have HN := Lib.hid hnx
  clear hs1 hs2 hb12 hb21 hb11 hnx
  go_wp2_with fail
  go_region_held3 (fun x => Ext (w2.alloc (.cells #[.int .i64 y2, .int .i64 m2, .int .i64 d2] 23)) x ∧ x.cell? ⟨w1.heap.size, 0, none⟩ = some (.int .i64 y1) ∧ x.cell? ⟨w1.heap.size, 1, none⟩ = some (.int .i64 m1) ∧ x.cell? ⟨w1.heap.size, 2, none⟩ = some (.int .i64 d1) ∧
    x.cell? ⟨w2.heap.size, 0, none⟩ = some (.int .i64 y2) ∧ x.cell? ⟨w2.heap.size, 1, none⟩ = some (.int .i64 m2) ∧ x.cell? ⟨w2.heap.size, 2, none⟩ = some (.int .i64 d2))
    ((refine two_keep w1 w2 _ _ _ _ _ _ _ h2 ?_; repeat (first | exact Ext.refl _ | assumption | refine Ext.trans ?_ (by assumption) | refine Ext.alloc ?_ _ | refine Ext.drew ?_ | refine Ext.drewN ?_ _)))
    (first
      | (go_at_call 23; (with_reducible refine (before_is y1 m1 d1 y2 m2 d2 _ _ HB12.out).mono ?_); rintro e x ⟨rfl, hx⟩)
      | (go_at_call 23; (with_reducible refine (before_is y2 m2 d2 y1 m1 d1 _ _ HB21.out).mono ?_); rintro e x ⟨rfl, hx⟩)
      | (go_at_call 23; (with_reducible refine (before_is y1 m1 d1 y1 m1 d1 _ _ HB11.out).mono ?_); rintro e x ⟨rfl, hx⟩)
      | (go_at_call 15; (with_reducible refine (show_is y1 m1 d1 s1 _ HS1.out).mono ?_); rintro e x ⟨rfl, hx⟩)
      | (go_at_call 15; (with_reducible refine (show_is y2 m2 d2 s2 _ HS2.out).mono ?_); rintro e x ⟨rfl, hx⟩))
  have hX : Ext (w2.alloc (.cells #[.int .i64 y2, .int .i64 m2, .int .i64 d2] 23)) x := by repeat (first | exact Ext.refl _ | assumption | refine Ext.trans ?_ (by assumption) | refine Ext.alloc ?_ _ | refine Ext.drew ?_ | refine Ext.drewN ?_ _)
  have hWX : Ext w x := (by repeat (first | exact Ext.refl _ | assumption | refine Ext.trans ?_ (by assumption) | refine Ext.alloc ?_ _ | refine Ext.drew ?_ | refine Ext.drewN ?_ _))

  obtain ⟨hX, q1, q2, q3, q4, q5, q6⟩ := two_keep w1 w2 _ _ _ _ _ _ _ h2 hX
  clear c0 c1 c2 hless hx
  have HD1 := Lib.hid hd1
  have HD2 := Lib.hid hd2
  clear hd1 hd2
  have hn := HN.out
  clear HN HS1 HS2 HB12 HB21 HB11
  have l2 : d1 ≤ 31 := by omega
  rcases hn with ⟨rfl, rfl, rfl⟩ | ⟨rfl, rfl, rfl, hm12, hd28⟩ | ⟨rfl, rfl, rfl, rfl, hd28⟩
  · clear l1 a6
    go_wp2
    have e1 : IntKind.i64.wrap (d1 + 1) = d1 + 1 := by rw [IntKind.wrap_i64]; omega
    have hk := fun (x : SubW (Ext (w2.alloc (.cells #[.int .i64 y2, .int .i64 m2, .int .i64 (d1 + 1)] 23)))) => two_keep w1 w2 _ _ _ _ _ _ _ h2 x.ok
    have k1 := fun x => (hk x).2.1
    have k2 := fun x => (hk x).2.2.1
    have k3 := fun x => (hk x).2.2.2.1
    have k4 := fun x => (hk x).2.2.2.2.1
    have k5 := fun x => (hk x).2.2.2.2.2.1
    have k6 := fun x => (hk x).2.2.2.2.2.2
    clear hk
    have inst : Nonempty (SubW (Ext (w2.alloc (.cells #[.int .i64 y2, .int .i64 m2, .int .i64 (d1 + 1)] 23)))) := ⟨⟨_, Ext.refl _⟩⟩
    refine wp_region_quietS (Ext (w2.alloc (.cells #[.int .i64 y2, .int .i64 m2, .int .i64 (d1 + 1)] 23))) (by kernel_rfl) (by kernel_rfl) (by repeat (first | exact Ext.refl _ | assumption | refine Ext.trans ?_ (by assumption) | refine Ext.alloc ?_ _ | refine Ext.drew ?_ | refine Ext.drewN ?_ _)) ?_
    repeat (go_big_quiet_step ((go_at_call 14; exact quietS_ext (lawDay_any _ _ _ _))))
    refine wpQuiet_nil ?_
    rintro _ ⟨y5, rfl⟩
    have hx5 := y5.ok
    generalize y5.w = x5 at hx5 ⊢
    obtain ⟨hX5, r1, r2, r3, r4, r5, r6⟩ := two_keep w1 w2 _ _ _ _ _ _ _ h2 hx5
    have hW5 : Ext w x5 := hE.trans ((Ext.alloc (Ext.refl _) _).trans (h2.trans ((Ext.alloc (Ext.refl _) _).trans hX5)))
    clear k1 k2 k3 k4 k5 k6 inst
    go_wp2_with (go_at_call 3; refine (dateRuns_any _).mono ?_; rintro e w' ⟨rfl, hx⟩)
    go_ret
    exact ⟨rfl, hW5.trans hx⟩
  · clear l1 a6
    go_wp2
    have e1 : IntKind.i64.wrap (d1 + 1) = d1 + 1 := by rw [IntKind.wrap_i64]; omega
    have e2 : IntKind.i64.wrap (m1 + 1) = m1 + 1 := by rw [IntKind.wrap_i64]; omega
    have e3 : (m1 + 1 == m1) = false := by rw [beq_eq_false_iff_ne]; omega
    have e4 : decide (m1 < 12) = true := by rw [decide_eq_true_iff]; exact hm12
    have hk := fun (x : SubW (Ext (w2.alloc (.cells #[.int .i64 y2, .int .i64 (m1 + 1), .int .i64 1] 23)))) => two_keep w1 w2 _ _ _ _ _ _ _ h2 x.ok
    have k1 := fun x => (hk x).2.1
    have k2 := fun x => (hk x).2.2.1
    have k3 := fun x => (hk x).2.2.2.1
    have k4 := fun x => (hk x).2.2.2.2.1
    have k5 := fun x => (hk x).2.2.2.2.2.1
    have k6 := fun x => (hk x).2.2.2.2.2.2
    clear hk
    have inst : Nonempty (SubW (Ext (w2.alloc (.cells #[.int .i64 y2, .int .i64 (m1 + 1), .int .i64 1] 23)))) := ⟨⟨_, Ext.refl _⟩⟩
    refine wp_region_quietS (Ext (w2.alloc (.cells #[.int .i64 y2, .int .i64 (m1 + 1), .int .i64 1] 23))) (by kernel_rfl) (by kernel_rfl) (by repeat (first | exact Ext.refl _ | assumption | refine Ext.trans ?_ (by assumption) | refine Ext.alloc ?_ _ | refine Ext.drew ?_ | refine Ext.drewN ?_ _)) ?_
    repeat (go_big_quiet_step ((go_at_call 14; exact quietS_ext (lawDay_any _ _ _ _))))
    refine wpQuiet_nil ?_
    rintro _ ⟨y5, rfl⟩
    have hx5 := y5.ok
    generalize y5.w = x5 at hx5 ⊢
    obtain ⟨hX5, r1, r2, r3, r4, r5, r6⟩ := two_keep w1 w2 _ _ _ _ _ _ _ h2 hx5
    have hW5 : Ext w x5 := hE.trans ((Ext.alloc (Ext.refl _) _).trans (h2.trans ((Ext.alloc (Ext.refl _) _).trans hX5)))
    clear k1 k2 k3 k4 k5 k6 inst
    go_wp2_with (go_at_call 3; refine (dateRuns_any _).mono ?_; rintro e w' ⟨rfl, hx⟩)
    go_ret
    exact ⟨rfl, hW5.trans hx⟩
  · clear l1 a6
    go_wp2
    have e1 : IntKind.i64.wrap (d1 + 1) = d1 + 1 := by rw [IntKind.wrap_i64]; omega
    have e2 : IntKind.i64.wrap (y1 + 1) = y1 + 1 := by rw [IntKind.wrap_i64]; omega
    have e3 : (y1 + 1 == y1) = false := by rw [beq_eq_false_iff_ne]; omega
    have hk := fun (x : SubW (Ext (w2.alloc (.cells #[.int .i64 (y1 + 1), .int .i64 1, .int .i64 1] 23)))) => two_keep w1 w2 _ _ _ _ _ _ _ h2 x.ok
    have k1 := fun x => (hk x).2.1
    have k2 := fun x => (hk x).2.2.1
    have k3 := fun x => (hk x).2.2.2.1
    have k4 := fun x => (hk x).2.2.2.2.1
    have k5 := fun x => (hk x).2.2.2.2.2.1
    have k6 := fun x => (hk x).2.2.2.2.2.2
    clear hk
    have inst : Nonempty (SubW (Ext (w2.alloc (.cells #[.int .i64 (y1 + 1), .int .i64 1, .int .i64 1] 23)))) := ⟨⟨_, Ext.refl _⟩⟩
    refine wp_region_quietS (Ext (w2.alloc (.cells #[.int .i64 (y1 + 1), .int .i64 1, .int .i64 1] 23))) (by kernel_rfl) (by kernel_rfl) (by repeat (first | exact Ext.refl _ | assumption | refine Ext.trans ?_ (by assumption) | refine Ext.alloc ?_ _ | refine Ext.drew ?_ | refine Ext.drewN ?_ _)) ?_
    repeat (go_big_quiet_step ((go_at_call 14; exact quietS_ext (lawDay_any _ _ _ _))))
    refine wpQuiet_nil ?_
    rintro _ ⟨y5, rfl⟩
    have hx5 := y5.ok
    generalize y5.w = x5 at hx5 ⊢
    obtain ⟨hX5, r1, r2, r3, r4, r5, r6⟩ := two_keep w1 w2 _ _ _ _ _ _ _ h2 hx5
    have hW5 : Ext w x5 := hE.trans ((Ext.alloc (Ext.refl _) _).trans (h2.trans ((Ext.alloc (Ext.refl _) _).trans hX5)))
    clear k1 k2 k3 k4 k5 k6 inst
    go_wp2_with (go_at_call 3; refine (dateRuns_any _).mono ?_; rintro e w' ⟨rfl, hx⟩)
    go_ret
    exact ⟨rfl, hW5.trans hx⟩
end Go.Proofs.Yteoohgkaejgoaaa
