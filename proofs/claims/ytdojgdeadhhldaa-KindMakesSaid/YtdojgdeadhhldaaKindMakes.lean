/- The law KindMakes: the walk. -/
import Derived.Test.YtdojgdeadhhldaaKindRuns
import Derived.Test.YtdojgdeadhhldaaKindS
namespace Go.Proofs.Ytdojgdeadhhldaa
open Go.RowKit

def markV : V := ⟨0, 3, ⟨#[]⟩, 0, 0, 0⟩
theorem slc_own {w : World} {B g n cap : Nat} {xs : List V} (h : OwnS V.cells 6 32 w B (.slice (some ⟨g, 0, none⟩) n cap) xs) (k : Nat) (hk : k ≤ xs.length) (hn : n = xs.length) (hc : k ≤ cap) (hcm : cap ≤ 9223372036854775807) : SlC w w.heap.size (.slice (some ⟨g, 0, none⟩) k cap) (xs.take k) := by
  subst hn
  have h3 := SlS.cut V.len h.rd k hk cap
  have hl : (xs.take k).length = k := by simp; omega
  exact ⟨_, cap, by rw [hl], by omega, hcm, h3⟩

set_option maxHeartbeats 8000000 in
set_option maxRecDepth 100000 in
theorem makes_few (l : List V) (a : Option Addr) (cap : Nat) (w : World) (hl : SlC w w.heap.size (.slice a l.length cap) l) (hm : l.length ≤ 300) : Calls Try.prog 4 #[.slice a l.length cap] w fun e w' => e = .returned (.bool true) ∧ Ext w w' := by
  have hi : ¬ (300 : Int) < (l.length : Int) := by omega
  obtain ⟨_, _, he, hlc, hcm, hs⟩ := id hl
  simp only [Value.slice.injEq] at he
  obtain ⟨rfl, _, rfl⟩ := he
  have hroom := roomyV (.slice a l.length cap) l markV w hs (by omega)
  simp only [V.val, markV] at hroom
  have hi2 : l.length ≤ l.length + 80 := by omega
  have rl := fun w1 (h : Ext w w1) => refOf_any l (.slice a l.length cap) w.heap.size w1 h.size (hl.keep h)
  have lk := Lib.hid (fun w1 (h : Ext w w1) => hl.keep h)
  by_cases ho : ofP l = 0
  · obtain ⟨hne, hlm⟩ := ofP_few ho
    have hpos : 0 < l.length := List.length_pos_iff.2 hne
    obtain ⟨b1, o1, rfl, hb1, hc1⟩ := SlS.at_ V.len (show SlS V.cells 6 w _ l from hs) hpos (by decide)
    have hk0 : w.cell? ⟨b1, o1, none⟩ = some (.int .i64 (kindOf l)) := by
      have := hc1 0 hpos 0 (by decide)
      cases l with
      | nil => exact absurd rfl hne
      | cons x t => simpa [V.cells, kindOf] using this
    rw [ho] at rl
    clear hc1 hs
    go_enter Try.func4, Try.ntmps4
    go_wp2_with (first
      | (go_at_call 20; refine hroom.mono ?_; rintro e w1 ⟨g, rfl, hown, hx1⟩; have hcut := slc_own hown l.length (by simp) (by simp) (by omega) (by omega); rw [List.take_left] at hcut)
      | (go_at_call 10; (refine (of_ok l _ w1.heap.size w1 (Nat.le_refl _) hcut ho).mono ?_); rintro e x1 ⟨iv, D, rfl, t1, hD, hx2⟩; have hst : (store ⟨x1.heap.size, 0, none⟩ iv).run Try.prog (x1.alloc (.cells #[.nilIface] 25)) = .ok () (x1.alloc (.cells #[iv] 25)) := (by rcases t1.form with rfl | ⟨_, _, rfl⟩ <;> simp [go_sem]); have T1 := Lib.hid t1.b; have hX1 : Ext w (x1.alloc (.cells #[iv] 25)) := (hx1.trans hx2).alloc _; have hO : Ext w1 (x1.alloc (.cells #[iv] 25)) := hx2.alloc _; clear t1)
      | (go_at_call 21; with_reducible refine (rl _ hX1).mono ?_; rintro e x2 ⟨rfl, hx3⟩; have hX2 := hX1.trans hx3; have hO2 := hO.trans hx3; have c2 : x2.cell? ⟨x1.heap.size, 0, none⟩ = some iv := (by rw [hx3.cell (by simp)]; simp [go_sem]); have T2 := Lib.hid (T1.out.ext (Ext.trans ((Ext.refl x1).alloc _) hx3)))
      | (go_at_call 22; have hint := intactV g _ l markV _ w.heap.size (hown.ext hO2) ((lk.out _ hX2).sls hX2.size) (by omega); simp only [V.val, markV] at hint; (refine hint.mono ?_); rintro e x3 ⟨rfl, hx4⟩; have c3 := (hx4.cell (p := ⟨x1.heap.size, 0, none⟩) (World.block_lt_of_cell? _ _ c2)).trans c2; have T3 := Lib.hid (T2.out.ext hx4); have hX3 := hX2.trans hx4; clear hint)
      | (go_at_call 23; (refine (flat_yes _ T3.out (by simp [flatOk]; omega)).mono ?_); rintro e x4 ⟨m4, rfl, ho4, hx5⟩; have hX4 := hX3.trans hx5))
    have c4 := (hx5.cell (p := ⟨x1.heap.size, 0, none⟩) (World.block_lt_of_cell? _ _ c3)).trans c3
    have k4 := (hX4.cell (p := ⟨b1, o1, none⟩) hb1).trans hk0
    have hz1 := World.block_lt_of_cell? _ _ c4
    have hz2 := World.block_lt_of_cell? _ _ k4
    have c4' := fun (x : SubW (Ext x4)) => (x.ok.cell (p := ⟨x1.heap.size, 0, none⟩) hz1).trans c4
    have k4' := fun (x : SubW (Ext x4)) => (x.ok.cell (p := ⟨b1, o1, none⟩) hz2).trans k4
    have s1 : ∀ x, Ext x4 x → Calls Try.prog 24 #[m4, .slice (some ⟨b1, o1, none⟩) l.length cap] x fun e w' => e = .returned (.bool true) ∧ Ext x w' := fun x h =>
      sameV _ _ l l true ⟨fun _ => rfl, fun _ => rfl⟩ x (ho4.rd.ext h) ((lk.out _ (hX4.trans h)).sls (hX4.trans h).size) (by omega) (by omega)
    have s2 : ∀ x, Calls Try.prog 19 #[.agg #[iv]] x fun e w' => e = .returned (.int .i64 (kindOf l)) ∧ Ext x w' := fun x => kind_any iv l D x3 x3.heap.size T3.out x
    have hok : flatOk 0 l.length 0 D = true := by simp [flatOk]; omega
    have s3 : ∀ x, Ext x4 x → Calls Try.prog 12 #[.agg #[iv], .agg #[iv]] x fun e w' => e = .returned (.bool true) ∧ Ext x w' := fun x h =>
      kindSame_any iv iv l l D D true ⟨fun _ => ⟨hok, hok, rfl⟩, fun _ => rfl⟩ x (T3.out.ext (hx5.trans h)) (T3.out.ext (hx5.trans h))
    have S1 := Lib.hid s1
    have S2 := Lib.hid s2
    have S3 := Lib.hid s3
    have inst : Nonempty (SubW (Ext x4)) := ⟨⟨_, Ext.refl _⟩⟩
    obtain ⟨am4, cm4, rfl, _, _⟩ := ho4.form
    clear s1 s2 s3 c4 k4 c3 c2 hst rl hroom hcut hk0
    refine wp_region_quietS (Ext x4) (by kernel_rfl) (by kernel_rfl) ((Ext.refl _).drew) ?_
    repeat (go_big_quiet_step (first
      | (go_at_call 24; with_reducible exact quietS_ext (S1.out _ (SubW.ok _)))
      | (go_at_call 19; with_reducible exact quietS_ext (S2.out _))
      | (go_at_call 12; with_reducible exact quietS_ext (S3.out _ (SubW.ok _)))
      | (go_at_call 3; exact quietS_ext (kindRuns_any _))))
    refine wpQuiet_nil ?_
    rintro _ ⟨y5, rfl⟩
    have hx6 := y5.ok
    generalize y5.w = x5 at hx6 ⊢
    clear c4' k4' inst
    go_wp2
    go_ret
    exact ⟨rfl, hX4.trans hx6⟩
  · have hc : (ofP l != 0) = true := by simp [ho]
    have hee : (ofP l != ofP l) = false := by simp
    clear hs
    go_enter Try.func4, Try.ntmps4
    go_wp2_with (first
      | (go_at_call 20; refine hroom.mono ?_; rintro e w1 ⟨g, rfl, hown, hx1⟩; have hcut := slc_own hown l.length (by simp) (by simp) (by omega) (by omega); rw [List.take_left] at hcut)
      | (go_at_call 10; (refine (of_err l (ofP l) _ w1.heap.size w1 (Nat.le_refl _) hcut rfl ho).mono ?_); rintro e x1 ⟨rfl, hx2⟩; have hX1 : Ext w (x1.alloc (.cells #[.nilIface] 25)) := (hx1.trans hx2).alloc _; have hO : Ext w1 (x1.alloc (.cells #[.nilIface] 25)) := hx2.alloc _)
      | (go_at_call 21; with_reducible refine (rl _ hX1).mono ?_; rintro e x2 ⟨rfl, hx3⟩; have hX2 := hX1.trans hx3; have hO2 := hO.trans hx3; have c2 : x2.cell? ⟨x1.heap.size, 0, none⟩ = some .nilIface := (by rw [hx3.cell (by simp)]; simp [go_sem]))
      | (go_at_call 22; have hint := intactV g _ l markV _ w.heap.size (hown.ext hO2) ((lk.out _ hX2).sls hX2.size) (by omega); simp only [V.val, markV] at hint; (refine hint.mono ?_); rintro e x3 ⟨rfl, hx4⟩; have c3 := (hx4.cell (p := ⟨x1.heap.size, 0, none⟩) (World.block_lt_of_cell? _ _ c2)).trans c2; have hX3 := hX2.trans hx4; clear hint)
      | (go_at_call 19; with_reducible refine (kind_0 _).mono ?_; rintro e x4 ⟨rfl, hx5⟩)
      | (go_at_call 3; refine (kindRuns_any _).mono ?_; rintro e x5 ⟨rfl, hx6⟩))
    go_ret
    exact ⟨rfl, hX3.trans (hx5.trans hx6)⟩

set_option maxHeartbeats 8000000 in
set_option maxRecDepth 100000 in
theorem makes_cut (l : List V) (n0 cap : Nat) (hn0 : 300 < n0) (hc0 : n0 ≤ cap) (hn : l.length = 300) (a : Option Addr) (w : World) (hl : SlC w w.heap.size (.slice a l.length cap) l) : Calls Try.prog 4 #[.slice a n0 cap] w fun e w' => e = .returned (.bool true) ∧ Ext w w' := by
  have hi : (300 : Int) < (n0 : Int) := by omega
  have hi3 : (300 : Int) ≤ (cap : Int) := by omega
  have hm : l.length ≤ 300 := by omega
  have HN := Lib.hid hn
  clear hn
  obtain ⟨_, _, he, hlc, hcm, hs⟩ := id hl
  simp only [Value.slice.injEq] at he
  obtain ⟨rfl, _, rfl⟩ := he
  have hroom := roomyV (.slice a l.length cap) l markV w hs (by omega)
  simp only [V.val, markV] at hroom
  have hi2 : l.length ≤ l.length + 80 := by omega
  have rl := fun w1 (h : Ext w w1) => refOf_any l (.slice a l.length cap) w.heap.size w1 h.size (hl.keep h)
  have lk := Lib.hid (fun w1 (h : Ext w w1) => hl.keep h)
  by_cases ho : ofP l = 0
  · obtain ⟨hne, hlm⟩ := ofP_few ho
    have hpos : 0 < l.length := List.length_pos_iff.2 hne
    obtain ⟨b1, o1, rfl, hb1, hc1⟩ := SlS.at_ V.len (show SlS V.cells 6 w _ l from hs) hpos (by decide)
    have hk0 : w.cell? ⟨b1, o1, none⟩ = some (.int .i64 (kindOf l)) := by
      have := hc1 0 hpos 0 (by decide)
      cases l with
      | nil => exact absurd rfl hne
      | cons x t => simpa [V.cells, kindOf] using this
    rw [ho] at rl
    clear hc1 hs
    go_enter Try.func4, Try.ntmps4
    go_wp2_with fail
    rw [← HN.out]
    clear hi hi3 hn0 hc0 hm
    have hm : l.length ≤ 300 := by have := HN.out; omega
    go_wp2_with (first
      | (go_at_call 20; refine hroom.mono ?_; rintro e w1 ⟨g, rfl, hown, hx1⟩; have hcut := slc_own hown l.length (by simp) (by simp) (by omega) (by omega); rw [List.take_left] at hcut)
      | (go_at_call 10; (refine (of_ok l _ w1.heap.size w1 (Nat.le_refl _) hcut ho).mono ?_); rintro e x1 ⟨iv, D, rfl, t1, hD, hx2⟩; have hst : (store ⟨x1.heap.size, 0, none⟩ iv).run Try.prog (x1.alloc (.cells #[.nilIface] 25)) = .ok () (x1.alloc (.cells #[iv] 25)) := (by rcases t1.form with rfl | ⟨_, _, rfl⟩ <;> simp [go_sem]); have T1 := Lib.hid t1.b; have hX1 : Ext w (x1.alloc (.cells #[iv] 25)) := (hx1.trans hx2).alloc _; have hO : Ext w1 (x1.alloc (.cells #[iv] 25)) := hx2.alloc _; clear t1)
      | (go_at_call 21; with_reducible refine (rl _ hX1).mono ?_; rintro e x2 ⟨rfl, hx3⟩; have hX2 := hX1.trans hx3; have hO2 := hO.trans hx3; have c2 : x2.cell? ⟨x1.heap.size, 0, none⟩ = some iv := (by rw [hx3.cell (by simp)]; simp [go_sem]); have T2 := Lib.hid (T1.out.ext (Ext.trans ((Ext.refl x1).alloc _) hx3)))
      | (go_at_call 22; have hint := intactV g _ l markV _ w.heap.size (hown.ext hO2) ((lk.out _ hX2).sls hX2.size) (by omega); simp only [V.val, markV] at hint; (refine hint.mono ?_); rintro e x3 ⟨rfl, hx4⟩; have c3 := (hx4.cell (p := ⟨x1.heap.size, 0, none⟩) (World.block_lt_of_cell? _ _ c2)).trans c2; have T3 := Lib.hid (T2.out.ext hx4); have hX3 := hX2.trans hx4; clear hint)
      | (go_at_call 23; (refine (flat_yes _ T3.out (by simp [flatOk]; omega)).mono ?_); rintro e x4 ⟨m4, rfl, ho4, hx5⟩; have hX4 := hX3.trans hx5))
    have c4 := (hx5.cell (p := ⟨x1.heap.size, 0, none⟩) (World.block_lt_of_cell? _ _ c3)).trans c3
    have k4 := (hX4.cell (p := ⟨b1, o1, none⟩) hb1).trans hk0
    have hz1 := World.block_lt_of_cell? _ _ c4
    have hz2 := World.block_lt_of_cell? _ _ k4
    have c4' := fun (x : SubW (Ext x4)) => (x.ok.cell (p := ⟨x1.heap.size, 0, none⟩) hz1).trans c4
    have k4' := fun (x : SubW (Ext x4)) => (x.ok.cell (p := ⟨b1, o1, none⟩) hz2).trans k4
    have s1 : ∀ x, Ext x4 x → Calls Try.prog 24 #[m4, .slice (some ⟨b1, o1, none⟩) l.length cap] x fun e w' => e = .returned (.bool true) ∧ Ext x w' := fun x h =>
      sameV _ _ l l true ⟨fun _ => rfl, fun _ => rfl⟩ x (ho4.rd.ext h) ((lk.out _ (hX4.trans h)).sls (hX4.trans h).size) (by omega) (by omega)
    have s2 : ∀ x, Calls Try.prog 19 #[.agg #[iv]] x fun e w' => e = .returned (.int .i64 (kindOf l)) ∧ Ext x w' := fun x => kind_any iv l D x3 x3.heap.size T3.out x
    have hok : flatOk 0 l.length 0 D = true := by simp [flatOk]; omega
    have s3 : ∀ x, Ext x4 x → Calls Try.prog 12 #[.agg #[iv], .agg #[iv]] x fun e w' => e = .returned (.bool true) ∧ Ext x w' := fun x h =>
      kindSame_any iv iv l l D D true ⟨fun _ => ⟨hok, hok, rfl⟩, fun _ => rfl⟩ x (T3.out.ext (hx5.trans h)) (T3.out.ext (hx5.trans h))
    have S1 := Lib.hid s1
    have S2 := Lib.hid s2
    have S3 := Lib.hid s3
    have inst : Nonempty (SubW (Ext x4)) := ⟨⟨_, Ext.refl _⟩⟩
    obtain ⟨am4, cm4, rfl, _, _⟩ := ho4.form
    clear s1 s2 s3 c4 k4 c3 c2 hst rl hroom hcut hk0
    refine wp_region_quietS (Ext x4) (by kernel_rfl) (by kernel_rfl) ((Ext.refl _).drew) ?_
    repeat (go_big_quiet_step (first
      | (go_at_call 24; with_reducible exact quietS_ext (S1.out _ (SubW.ok _)))
      | (go_at_call 19; with_reducible exact quietS_ext (S2.out _))
      | (go_at_call 12; with_reducible exact quietS_ext (S3.out _ (SubW.ok _)))
      | (go_at_call 3; exact quietS_ext (kindRuns_any _))))
    refine wpQuiet_nil ?_
    rintro _ ⟨y5, rfl⟩
    have hx6 := y5.ok
    generalize y5.w = x5 at hx6 ⊢
    clear c4' k4' inst
    go_wp2
    go_ret
    exact ⟨rfl, hX4.trans hx6⟩
  · have hc : (ofP l != 0) = true := by simp [ho]
    have hee : (ofP l != ofP l) = false := by simp
    clear hs
    go_enter Try.func4, Try.ntmps4
    go_wp2_with fail
    rw [← HN.out]
    clear hi hi3 hn0 hc0 hm
    have hm : l.length ≤ 300 := by have := HN.out; omega
    go_wp2_with (first
      | (go_at_call 20; refine hroom.mono ?_; rintro e w1 ⟨g, rfl, hown, hx1⟩; have hcut := slc_own hown l.length (by simp) (by simp) (by omega) (by omega); rw [List.take_left] at hcut)
      | (go_at_call 10; (refine (of_err l (ofP l) _ w1.heap.size w1 (Nat.le_refl _) hcut rfl ho).mono ?_); rintro e x1 ⟨rfl, hx2⟩; have hX1 : Ext w (x1.alloc (.cells #[.nilIface] 25)) := (hx1.trans hx2).alloc _; have hO : Ext w1 (x1.alloc (.cells #[.nilIface] 25)) := hx2.alloc _)
      | (go_at_call 21; with_reducible refine (rl _ hX1).mono ?_; rintro e x2 ⟨rfl, hx3⟩; have hX2 := hX1.trans hx3; have hO2 := hO.trans hx3; have c2 : x2.cell? ⟨x1.heap.size, 0, none⟩ = some .nilIface := (by rw [hx3.cell (by simp)]; simp [go_sem]))
      | (go_at_call 22; have hint := intactV g _ l markV _ w.heap.size (hown.ext hO2) ((lk.out _ hX2).sls hX2.size) (by omega); simp only [V.val, markV] at hint; (refine hint.mono ?_); rintro e x3 ⟨rfl, hx4⟩; have c3 := (hx4.cell (p := ⟨x1.heap.size, 0, none⟩) (World.block_lt_of_cell? _ _ c2)).trans c2; have hX3 := hX2.trans hx4; clear hint)
      | (go_at_call 19; with_reducible refine (kind_0 _).mono ?_; rintro e x4 ⟨rfl, hx5⟩)
      | (go_at_call 3; refine (kindRuns_any _).mono ?_; rintro e x5 ⟨rfl, hx6⟩))
    go_ret
    exact ⟨rfl, hX3.trans (hx5.trans hx6)⟩

set_option maxHeartbeats 8000000 in
theorem makes_any (l : List V) (v : Value) (w : World) (hl : SlC w w.heap.size v l) : Calls Try.prog 4 #[v] w fun e w' => e = .returned (.bool true) ∧ Ext w w' := by
  have hl0 := hl
  obtain ⟨a, cap, rfl, hlc, hcm, hs⟩ := hl
  by_cases h : l.length ≤ 300
  · exact makes_few l a cap w hl0 h
  · have hln : (l.take 300).length = 300 := by rw [List.length_take]; omega
    have h3 := SlS.cut V.len (show SlS V.cells 6 w (.slice a l.length cap) l from hs) 300 (by omega) cap
    exact makes_cut (l.take 300) l.length cap (by omega) hlc hln a w (by rw [hln]; exact ⟨a, cap, by rw [hln], by omega, hcm, h3⟩)
end Go.Proofs.Ytdojgdeadhhldaa
