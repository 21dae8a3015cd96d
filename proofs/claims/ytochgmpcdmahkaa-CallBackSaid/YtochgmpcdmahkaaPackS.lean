/- Contracts of the reader: Within, Count, Flag, End, Err, At. -/
import Derived.Test.YtochgmpcdmahkaaPackR
namespace Go.Proofs.Ytochgmpcdmahkaa
open Go.RowKit

theorem eq0 {x : Int} (h : x = 0) : (x == 0) = true ∧ (x != 0) = false := by subst h; exact ⟨rfl, rfl⟩
theorem ne0 {x : Int} (h : ¬ x = 0) : (x == 0) = false ∧ (x != 0) = true := by simp [h]

set_option maxHeartbeats 2000000 in
set_option maxRecDepth 100000 in
theorem rwithin_any (r : Nat) (a : Option Addr) (cap : Nat) (bs : List UInt8) (s : RS) (lo hi : Int) (w : World) (h : RdW w r a cap bs s) :
    Calls Try.prog 53 #[.pointer (some ⟨r, 0, none⟩), .int .i64 lo, .int .i64 hi] w fun x w' => x = .returned (.int .i64 (rWithin bs s lo hi).1) ∧ RdW w' r a cap bs (rWithin bs s lo hi).2 ∧ KeepR r w w' := by
  have hv : rWithin bs s lo hi = if (rNum bs s).2.err = 0 ∧ ((rNum bs s).1 < lo ∨ hi < (rNum bs s).1) then (0, ⟨s.at_, 2⟩) else rNum bs s := rfl
  have c1 := h.c1
  have hok := h.ok
  go_enter Try.func53, Try.ntmps53
  go_wp2_with fail
  refine (rnum_any r a cap bs s _ h).mono ?_
  rintro e w2 ⟨rfl, hr, hk⟩
  generalize rNum bs s = q at *
  obtain ⟨n, s2⟩ := q
  simp only [] at hr hv ⊢
  clear c1
  have c2 := hr.c2
  by_cases he : s2.err = 0
  · obtain ⟨heb, _⟩ := eq0 he
    by_cases hlo : n < lo
    · rw [if_pos ⟨he, .inl hlo⟩] at hv
      have HV := Lib.hid hv
      clear hv he
      go_wp2_with fail
      refine (wrong_any r a cap bs s2 s.at_ 2 _ hr hok).mono ?_
      rintro e w3 ⟨rfl, hr3, hk3⟩
      go_wp2
      go_ret
      exact ⟨by rw [HV.out]; rfl, by rw [HV.out]; exact hr3, hk.trans hk3⟩
    · by_cases hhi : hi < n
      · rw [if_pos ⟨he, .inr hhi⟩] at hv
        have HV := Lib.hid hv
        clear hv he
        go_wp2_with fail
        refine (wrong_any r a cap bs s2 s.at_ 2 _ hr hok).mono ?_
        rintro e w3 ⟨rfl, hr3, hk3⟩
        go_wp2
        go_ret
        exact ⟨by rw [HV.out]; rfl, by rw [HV.out]; exact hr3, hk.trans hk3⟩
      · rw [if_neg (by rintro ⟨_, k | k⟩ <;> omega)] at hv
        have HV := Lib.hid hv
        clear hv he
        go_wp2
        go_ret
        exact ⟨by rw [HV.out]; rfl, by rw [HV.out]; exact hr, hk⟩
  · obtain ⟨heb, _⟩ := ne0 he
    rw [if_neg (fun k => he k.1)] at hv
    have HV := Lib.hid hv
    clear hv he
    go_wp2
    go_ret
    exact ⟨by rw [HV.out]; rfl, by rw [HV.out]; exact hr, hk⟩

set_option maxHeartbeats 2000000 in
set_option maxRecDepth 100000 in
theorem rcount_any (r : Nat) (a : Option Addr) (cap : Nat) (bs : List UInt8) (s : RS) (most : Int) (w : World) (h : RdW w r a cap bs s) :
    Calls Try.prog 50 #[.pointer (some ⟨r, 0, none⟩), .int .i64 most] w fun x w' => x = .returned (.int .i64 (rCount bs s most).1) ∧ RdW w' r a cap bs (rCount bs s most).2 ∧ KeepR r w w' := by
  have hv : rCount bs s most = if (rWithin bs s 0 most).2.err = 0 ∧ (bs.length : Int) - (rWithin bs s 0 most).2.at_ < (rWithin bs s 0 most).1 then (0, ⟨s.at_, 3⟩) else rWithin bs s 0 most := rfl
  have c1 := h.c1
  have hok := h.ok
  go_enter Try.func50, Try.ntmps50
  go_wp2_with fail
  refine (rwithin_any r a cap bs s 0 most _ h).mono ?_
  rintro e w2 ⟨rfl, hr, hk⟩
  generalize rWithin bs s 0 most = q at *
  obtain ⟨n, s2⟩ := q
  simp only [] at hr hv ⊢
  clear c1
  have c0 := hr.c0
  have c1 := hr.c1
  have c2 := hr.c2
  have hmx := hr.mx
  have hok2 := hr.ok
  by_cases he : s2.err = 0
  · obtain ⟨heb, _⟩ := eq0 he
    by_cases hn : (bs.length : Int) - s2.at_ < n
    · rw [if_pos ⟨he, hn⟩] at hv
      have HV := Lib.hid hv
      clear hv he
      go_wp2
      go_quiet (fail)
      go_wp2_with fail
      refine (wrong_any r a cap bs s2 s.at_ 3 _ (RdW.drewN hr _) hok).mono ?_
      rintro e w3 ⟨rfl, hr3, hk3⟩
      go_wp2
      go_ret
      exact ⟨by rw [HV.out]; rfl, by rw [HV.out]; exact hr3, (hk.drewN _).trans hk3⟩
    · rw [if_neg (fun k => hn k.2)] at hv
      have HV := Lib.hid hv
      clear hv he
      go_wp2
      go_quiet (fail)
      go_wp2
      go_ret
      exact ⟨by rw [HV.out]; rfl, by rw [HV.out]; exact RdW.drewN hr _, hk.drewN _⟩
  · obtain ⟨heb, _⟩ := ne0 he
    rw [if_neg (fun k => he k.1)] at hv
    have HV := Lib.hid hv
    clear hv he
    go_wp2
    go_quiet (fail)
    go_wp2
    go_ret
    exact ⟨by rw [HV.out]; rfl, by rw [HV.out]; exact RdW.drewN hr _, hk.drewN _⟩

set_option maxRecDepth 100000 in
theorem rerr_any (r : Nat) (a : Option Addr) (cap : Nat) (bs : List UInt8) (s : RS) (w : World) (h : RdW w r a cap bs s) :
    Calls Try.prog 18 #[.pointer (some ⟨r, 0, none⟩)] w fun x w' => x = .returned (.int .i64 s.err) ∧ w = w' := by
  have c2 := h.c2
  go_enter Try.func18, Try.ntmps18
  go_wp2
  go_ret
  exact ⟨rfl, rfl⟩
set_option maxRecDepth 100000 in
theorem rat_any (r : Nat) (a : Option Addr) (cap : Nat) (bs : List UInt8) (s : RS) (w : World) (h : RdW w r a cap bs s) :
    Calls Try.prog 20 #[.pointer (some ⟨r, 0, none⟩)] w fun x w' => x = .returned (.int .i64 (s.at_ : Int)) ∧ w = w' := by
  have c1 := h.c1
  go_enter Try.func20, Try.ntmps20
  go_wp2
  go_ret
  exact ⟨rfl, rfl⟩

theorem RdW.setErr {w wr : World} {r : Nat} {a : Option Addr} {cap : Nat} {bs : List UInt8} {s : RS} (hr : RdW wr r a cap bs s) (hk : KeepR r w wr) (e : Int) :
    RdW (wr.setCell ⟨r, 2, none⟩ (.int .i64 e)) r a cap bs ⟨s.at_, e⟩ ∧ KeepR r w (wr.setCell ⟨r, 2, none⟩ (.int .i64 e)) ∧ (wr.setCell ⟨r, 2, none⟩ (.int .i64 e)).cell? ⟨r, 2, none⟩ = some (.int .i64 e) := by
  have e2 : (wr.setCell ⟨r, 2, none⟩ (.int .i64 e)).cell? ⟨r, 2, none⟩ = some (.int .i64 e) := World.cell?_setCell_same _ _ _ hr.c2
  refine ⟨hr.set (s' := ⟨s.at_, e⟩) hr.ok ((KeepR.refl r _).set _) ?_ ?_ e2 (fun o => by rw [World.frozen?_setCell]), hk.set _, e2⟩
  · rw [World.cell?_setCell_other _ _ _ _ (by simp)]
  · rw [World.cell?_setCell_other _ _ _ _ (by simp)]; exact hr.c1

set_option maxHeartbeats 2000000 in
set_option maxRecDepth 100000 in
theorem rend_any (r : Nat) (a : Option Addr) (cap : Nat) (bs : List UInt8) (s : RS) (w : World) (h : RdW w r a cap bs s) :
    Calls Try.prog 34 #[.pointer (some ⟨r, 0, none⟩)] w fun x w' => x = .returned (.int .i64 (rEnd bs s).err) ∧ RdW w' r a cap bs (rEnd bs s) ∧ KeepR r w w' := by
  have hv : rEnd bs s = if s.err = 0 ∧ s.at_ < bs.length then ⟨s.at_, 5⟩ else s := rfl
  have c0 := h.c0
  have c1 := h.c1
  have c2 := h.c2
  have f2 := h.f2
  have hmx := h.mx
  have hok := h.ok
  by_cases he : s.err = 0
  · obtain ⟨heb, _⟩ := eq0 he
    by_cases hn : s.at_ < bs.length
    · rw [if_pos ⟨he, hn⟩] at hv
      have HV := Lib.hid hv
      clear hv he
      go_enter Try.func34, Try.ntmps34
      go_wp2
      go_quiet (fail)
      go_wp2
      go_ret
      have := fun n => RdW.setErr (RdW.drewN h n) ((KeepR.refl r w).drewN n) 5
      exact ⟨by rw [HV.out]; rfl, by rw [HV.out]; exact (this _).1, (this _).2.1⟩
    · rw [if_neg (fun k => hn k.2)] at hv
      have HV := Lib.hid hv
      clear hv he
      go_enter Try.func34, Try.ntmps34
      go_wp2
      go_quiet (fail)
      go_wp2
      go_ret
      exact ⟨by rw [HV.out]; rfl, by rw [HV.out]; exact RdW.drewN h _, (KeepR.refl r w).drewN _⟩
  · obtain ⟨heb, _⟩ := ne0 he
    rw [if_neg (fun k => he k.1)] at hv
    have HV := Lib.hid hv
    clear hv he
    go_enter Try.func34, Try.ntmps34
    go_wp2
    go_quiet (fail)
    go_wp2
    go_ret
    exact ⟨by rw [HV.out]; rfl, by rw [HV.out]; exact RdW.drewN h _, (KeepR.refl r w).drewN _⟩
end Go.Proofs.Ytochgmpcdmahkaa
