/- Contracts of the document's reader (impostref1): Within, Count, Flag, Text, End, Read. -/
import Derived.Test.YtochgmpcdmahkaaPackRefR
namespace Go.Proofs.Ytochgmpcdmahkaa
open Go.RowKit

theorem rNum_err (bs : List UInt8) (s : RS) (h : (rNum bs s).2.err ≠ 0) : (rNum bs s).1 = 0 := by
  by_cases he : s.err = 0
  · obtain ⟨p, e⟩ := s
    simp only [] at he
    subst he
    exact (rNum_bad bs p h).2
  · unfold rNum
    rw [if_neg he]

set_option maxHeartbeats 2000000 in
set_option maxRecDepth 100000 in
theorem qwithin_any (r : Nat) (a : Option Addr) (cap : Nat) (bs : List UInt8) (s : RS) (lo hi : Int) (w : World) (h : RdW w r a cap bs s) :
    Calls Try.prog 51 #[.pointer (some ⟨r, 0, none⟩), .int .i64 lo, .int .i64 hi] w fun x w' => x = .returned (.int .i64 (rWithin bs s lo hi).1) ∧ RdW w' r a cap bs (rWithin bs s lo hi).2 ∧ KeepR r w w' := by
  have hv : rWithin bs s lo hi = if (rNum bs s).2.err = 0 ∧ ((rNum bs s).1 < lo ∨ hi < (rNum bs s).1) then (0, ⟨s.at_, 2⟩) else rNum bs s := rfl
  have c1 := h.c1
  have hok := h.ok
  go_enter Try.func51, Try.ntmps51
  go_wp2_with fail
  refine (qnum_any r a cap bs s _ h).mono ?_
  rintro e w2 ⟨rfl, hr, hk⟩
  generalize rNum bs s = q at *
  obtain ⟨n, s2⟩ := q
  simp only [] at hr hv ⊢
  clear c1
  have c1 := hr.c1
  have c2 := hr.c2
  have f1 := hr.f1
  have f2 := hr.f2
  by_cases he : s2.err = 0
  · obtain ⟨heb, _⟩ := eq0 he
    by_cases hlo : n < lo
    · rw [if_pos ⟨he, .inl hlo⟩] at hv
      have HV := Lib.hid hv
      have fin := RdW.setBoth hr hk s.at_ hok 2
      clear hv he
      go_wp2
      go_ret
      exact ⟨by rw [HV.out]; rfl, by rw [HV.out]; exact fin.1, fin.2⟩
    · by_cases hhi : hi < n
      · rw [if_pos ⟨he, .inr hhi⟩] at hv
        have HV := Lib.hid hv
        have fin := RdW.setBoth hr hk s.at_ hok 2
        clear hv he
        go_wp2
        go_ret
        exact ⟨by rw [HV.out]; rfl, by rw [HV.out]; exact fin.1, fin.2⟩
      · rw [if_neg (by rintro ⟨_, k | k⟩ <;> omega)] at hv
        have HV := Lib.hid hv
        clear hv he
        go_wp2
        go_ret
        exact ⟨by rw [HV.out]; rfl, by rw [HV.out]; exact hr, hk⟩
  · obtain ⟨heb, _⟩ := ne0 he
    rw [if_neg (fun k => he k.1)] at hv
    have HV := Lib.hid hv
    clear hv he
    go_wp2
    go_ret
    exact ⟨by rw [HV.out]; rfl, by rw [HV.out]; exact hr, hk⟩

set_option maxHeartbeats 2000000 in
set_option maxRecDepth 100000 in
theorem qcount_any (r : Nat) (a : Option Addr) (cap : Nat) (bs : List UInt8) (s : RS) (most : Int) (w : World) (h : RdW w r a cap bs s) :
    Calls Try.prog 42 #[.pointer (some ⟨r, 0, none⟩), .int .i64 most] w fun x w' => x = .returned (.int .i64 (rCount bs s most).1) ∧ RdW w' r a cap bs (rCount bs s most).2 ∧ KeepR r w w' := by
  have hv : rCount bs s most = if (rWithin bs s 0 most).2.err = 0 ∧ (bs.length : Int) - (rWithin bs s 0 most).2.at_ < (rWithin bs s 0 most).1 then (0, ⟨s.at_, 3⟩) else rWithin bs s 0 most := rfl
  have c1 := h.c1
  have hok := h.ok
  go_enter Try.func42, Try.ntmps42
  go_wp2_with fail
  refine (qwithin_any r a cap bs s 0 most _ h).mono ?_
  rintro e w2 ⟨rfl, hr, hk⟩
  generalize rWithin bs s 0 most = q at *
  obtain ⟨n, s2⟩ := q
  simp only [] at hr hv ⊢
  clear c1
  have c0 := hr.c0
  have c1 := hr.c1
  have c2 := hr.c2
  have f1 := hr.f1
  have f2 := hr.f2
  have hmx := hr.mx
  have hok2 := hr.ok
  by_cases he : s2.err = 0
  · obtain ⟨heb, _⟩ := eq0 he
    by_cases hn : (bs.length : Int) - s2.at_ < n
    · rw [if_pos ⟨he, hn⟩] at hv
      have HV := Lib.hid hv
      have fin := fun m => RdW.setBoth (RdW.drewN hr m) (hk.drewN m) s.at_ hok 3
      have FIN := Lib.hid fin
      clear hv he fin
      go_wp2
      go_quiet (fail)
      go_wp2
      go_ret
      exact ⟨by rw [HV.out]; rfl, by rw [HV.out]; exact (FIN.out _).1, (FIN.out _).2⟩
    · rw [if_neg (fun k => hn k.2)] at hv
      have HV := Lib.hid hv
      clear hv he
      go_wp2
      go_quiet (fail)
      go_wp2
      go_ret
      exact ⟨by rw [HV.out]; rfl, by rw [HV.out]; exact RdW.drewN hr _, hk.drewN _⟩
  · obtain ⟨heb, _⟩ := ne0 he
    rw [if_neg (fun k => he k.1)] at hv
    have HV := Lib.hid hv
    clear hv he
    go_wp2
    go_quiet (fail)
    go_wp2
    go_ret
    exact ⟨by rw [HV.out]; rfl, by rw [HV.out]; exact RdW.drewN hr _, hk.drewN _⟩

set_option maxHeartbeats 2000000 in
set_option maxRecDepth 100000 in
theorem qend_any (r : Nat) (a : Option Addr) (cap : Nat) (bs : List UInt8) (s : RS) (w : World) (h : RdW w r a cap bs s) :
    Calls Try.prog 43 #[.pointer (some ⟨r, 0, none⟩)] w fun x w' => x = .returned (.int .i64 (rEnd bs s).err) ∧ RdW w' r a cap bs (rEnd bs s) ∧ KeepR r w w' := by
  have hv : rEnd bs s = if s.err = 0 ∧ s.at_ < bs.length then ⟨s.at_, 5⟩ else s := rfl
  have c0 := h.c0
  have c1 := h.c1
  have c2 := h.c2
  have f2 := h.f2
  have hmx := h.mx
  have hok := h.ok
  by_cases he : s.err = 0
  · obtain ⟨heb, _⟩ := eq0 he
    by_cases hn : s.at_ < bs.length
    · rw [if_pos ⟨he, hn⟩] at hv
      have HV := Lib.hid hv
      clear hv he
      go_enter Try.func43, Try.ntmps43
      go_wp2
      go_quiet (fail)
      go_wp2
      go_ret
      have := fun n => RdW.setErr (RdW.drewN h n) ((KeepR.refl r w).drewN n) 5
      exact ⟨by rw [HV.out]; rfl, by rw [HV.out]; exact (this _).1, (this _).2.1⟩
    · rw [if_neg (fun k => hn k.2)] at hv
      have HV := Lib.hid hv
      clear hv he
      go_enter Try.func43, Try.ntmps43
      go_wp2
      go_quiet (fail)
      go_wp2
      go_ret
      exact ⟨by rw [HV.out]; rfl, by rw [HV.out]; exact RdW.drewN h _, (KeepR.refl r w).drewN _⟩
  · obtain ⟨heb, _⟩ := ne0 he
    rw [if_neg (fun k => he k.1)] at hv
    have HV := Lib.hid hv
    clear hv he
    go_enter Try.func43, Try.ntmps43
    go_wp2
    go_quiet (fail)
    go_wp2
    go_ret
    exact ⟨by rw [HV.out]; rfl, by rw [HV.out]; exact RdW.drewN h _, (KeepR.refl r w).drewN _⟩

set_option maxHeartbeats 2000000 in
set_option maxRecDepth 100000 in
theorem qtext_any (r : Nat) (a : Option Addr) (cap : Nat) (bs : List UInt8) (s : RS) (most : Int) (w : World) (h : RdW w r a cap bs s) :
    Calls Try.prog 40 #[.pointer (some ⟨r, 0, none⟩), .int .i64 most] w fun x w' => x = .returned (.string ⟨(rText bs s most).1.toArray⟩) ∧ RdW w' r a cap bs (rText bs s most).2 ∧ KeepR r w w' := by
  have hv : rText bs s most = if (rWithin bs s 0 most).2.err ≠ 0 then ([], (rWithin bs s 0 most).2) else if (bs.length : Int) - (rWithin bs s 0 most).2.at_ < (rWithin bs s 0 most).1 then ([], ⟨s.at_, 3⟩)
    else ((bs.drop (rWithin bs s 0 most).2.at_).take (rWithin bs s 0 most).1.toNat, ⟨(rWithin bs s 0 most).2.at_ + (rWithin bs s 0 most).1.toNat, 0⟩) := rfl
  have hval := rWithin_in bs s 0 most
  have c1 := h.c1
  have hok := h.ok
  go_enter Try.func40, Try.ntmps40
  go_wp2_with fail
  refine (qwithin_any r a cap bs s 0 most _ h).mono ?_
  rintro e w2 ⟨rfl, hr, hk⟩
  generalize rWithin bs s 0 most = q at *
  obtain ⟨n, s2⟩ := q
  simp only [] at hr hv hval ⊢
  clear c1
  have c0 := hr.c0
  have c1 := hr.c1
  have c2 := hr.c2
  have f1 := hr.f1
  have f2 := hr.f2
  have hmx := hr.mx
  have hlc := hr.lc
  have hok2 := hr.ok
  by_cases he : s2.err = 0
  · obtain ⟨heb1, heb⟩ := eq0 he
    rw [if_neg (fun k => k he)] at hv
    by_cases hn : (bs.length : Int) - s2.at_ < n
    · rw [if_pos hn] at hv
      have HV := Lib.hid hv
      have fin := fun m => RdW.setBoth (RdW.drewN hr m) (hk.drewN m) s.at_ hok 3
      have FIN := Lib.hid fin
      clear hv he fin
      go_wp2
      go_quiet (fail)
      go_wp2
      go_ret
      exact ⟨by rw [HV.out]; rfl, by rw [HV.out]; exact (FIN.out _).1, (FIN.out _).2⟩
    · rw [if_neg hn] at hv
      have hn0 : 0 ≤ n := (hval he).1
      obtain ⟨n, rfl⟩ := Int.eq_ofNat_of_zero_le hn0
      have HV := Lib.hid hv
      have HE := Lib.hid he
      clear hv he
      go_wp2
      go_quiet (fail)
      go_wp2
      rcases hr.by_ with ⟨h0, rfl, rfl⟩ | ⟨g, off, rfl, hgr, hgl, _⟩
      · obtain rfl : n = 0 := by omega
        obtain ⟨at0, er⟩ := s2
        obtain rfl : at0 = 0 := by simp only [] at hok2; omega
        obtain rfl : bs = [] := List.eq_nil_of_length_eq_zero h0
        simp only [] at *
        have hcv : ∀ m, (convert 55 9 (.slice none 0 0)).run Try.prog (w2.drewN m) = .ok (.string ⟨#[]⟩) (w2.drewN m) := fun m =>
          run_conv_str (P := Try.prog) _ 55 9 5 Try.underlying55 Try.underlying5 Try.underlying9 0 _ [] (SlR.nil _ _ _)
        refine wp_region_quiet_lit (by kernel_rfl) (by kernel_rfl) ?_
        iterate 14 (quiet_step (fail))
        refine wpQuiet_val rfl (.slice none 0 0) (fun w hw => ?_) ?_
        · obtain ⟨m, rfl⟩ := hw
          go_simp
          rfl
        go_simp
        refine wpQuiet_conv rfl _ _ _ rfl _ _ rfl (fun w hw => by obtain ⟨m, rfl⟩ := hw; exact hcv _) ?_
        go_simp
        quiet_step (fail)
        refine wpQuiet_nil ?_
        intro nq2
        go_wp2
        go_ret
        have st := fun n' => RdW.step (s' := ⟨0, 0⟩) hr hk (by simp) HE.out.symm n'
        refine ⟨by rw [HV.out]; rfl, ?_, ?_⟩
        · rw [HV.out]; exact (st _).1
        · exact (st _).2
      · refine wp_region_quiet_lit (by kernel_rfl) (by kernel_rfl) ?_
        iterate 14 (quiet_step (fail))
        have hs1 : IntKind.i64.wrap ((s2.at_ : Int) + (n : Int)) = ((s2.at_ + n : Nat) : Int) := by rw [IntKind.wrap_i64]; omega
        refine wpQuiet_val rfl (.slice (if cap = s2.at_ then some ⟨g, off, none⟩ else some ⟨g, off + s2.at_, none⟩) n (cap - s2.at_)) (fun w hw => ?_) ?_
        · obtain ⟨m, rfl⟩ := hw
          go_simp
          try simp only [hs1]
          rw [if_pos ⟨by omega, by omega⟩, if_pos (by omega)]
          congr 3
          omega
        go_simp
        have hcv : ∀ m, (convert 55 9 (.slice (if cap = s2.at_ then some ⟨g, off, none⟩ else some ⟨g, off + s2.at_, none⟩) n (cap - s2.at_))).run Try.prog (w2.drewN m) = .ok (.string ⟨((bs.drop s2.at_).take n).toArray⟩) (w2.drewN m) := by
          intro m
          have hl : ((bs.drop s2.at_).take n).length = n := by simp; omega
          have hS : SlR (w2.drewN m) w2.heap.size 1 (.slice (if cap = s2.at_ then some ⟨g, off, none⟩ else some ⟨g, off + s2.at_, none⟩) n (cap - s2.at_)) ((bs.drop s2.at_).take n).length (((bs.drop s2.at_).take n).map bcell) := by
            by_cases hn0 : n = 0
            · subst hn0
              exact ⟨by simp, by simp, _, _, rfl, .inl (by simp)⟩
            · rw [if_neg (by omega)]
              exact RdW.piece (RdW.drewN hr m) rfl s2.at_ n _ (by omega) (by omega)
          exact run_conv_str (P := Try.prog) _ 55 9 5 Try.underlying55 Try.underlying5 Try.underlying9 _ _ _ hS
        refine wpQuiet_conv rfl _ _ _ rfl _ _ rfl (fun w hw => by obtain ⟨m, rfl⟩ := hw; exact hcv _) ?_
        go_simp
        quiet_step (fail)
        refine wpQuiet_nil ?_
        intro nq2
        generalize (if cap = s2.at_ then some (⟨g, off, none⟩ : Addr) else some ⟨g, off + s2.at_, none⟩) = ad at *
        go_wp2
        go_ret
        have st := fun n' => RdW.step (s' := ⟨s2.at_ + n, 0⟩) hr hk (by simp only []; omega) HE.out.symm n'
        refine ⟨by rw [HV.out]; rfl, ?_, ?_⟩
        · rw [HV.out]; exact (st _).1
        · exact (st _).2
  · obtain ⟨heb1, heb⟩ := ne0 he
    rw [if_pos he] at hv
    have HV := Lib.hid hv
    clear hv he
    go_wp2
    go_quiet (fail)
    go_wp2
    go_ret
    exact ⟨by rw [HV.out]; rfl, by rw [HV.out]; exact RdW.drewN hr _, hk.drewN _⟩

section
variable {B T : Nat} {r : Nat} {bs : List UInt8} {s : RS} {w : World}
theorem qlift {P : Program} {f : FuncId} {args : Array Value} {v : Value} {s' : RS} (h : RdX B T w r bs s)
    (hc : ∀ a cap, RdW w r a cap bs s → Calls P f args w fun x w' => x = .returned v ∧ RdW w' r a cap bs s' ∧ KeepR r w w') : Calls P f args w fun x w' => x = .returned v ∧ RdX B T w' r bs s' ∧ KeepR r w w' := by
  obtain ⟨a, cap, hr, h1, h2, h3⟩ := h
  exact (hc a cap hr).mono fun e w' ⟨he, hr2, hk⟩ => ⟨he, ⟨a, cap, hr2, h1, h2, fun g off ha => ⟨(h3 g off ha).1, (h3 g off ha).2.1, Nat.lt_of_lt_of_le (h3 g off ha).2.2 hk.size⟩⟩, hk⟩
theorem qnum_x (h : RdX B T w r bs s) : Calls Try.prog 25 #[.pointer (some ⟨r, 0, none⟩)] w fun x w' => x = .returned (.int .i64 (rNum bs s).1) ∧ RdX B T w' r bs (rNum bs s).2 ∧ KeepR r w w' := qlift h fun a cap hr => qnum_any r a cap bs s w hr
theorem qwithin_x (h : RdX B T w r bs s) (lo hi : Int) : Calls Try.prog 51 #[.pointer (some ⟨r, 0, none⟩), .int .i64 lo, .int .i64 hi] w fun x w' => x = .returned (.int .i64 (rWithin bs s lo hi).1) ∧ RdX B T w' r bs (rWithin bs s lo hi).2 ∧ KeepR r w w' := qlift h fun a cap hr => qwithin_any r a cap bs s lo hi w hr
theorem qcount_x (h : RdX B T w r bs s) (most : Int) : Calls Try.prog 42 #[.pointer (some ⟨r, 0, none⟩), .int .i64 most] w fun x w' => x = .returned (.int .i64 (rCount bs s most).1) ∧ RdX B T w' r bs (rCount bs s most).2 ∧ KeepR r w w' := qlift h fun a cap hr => qcount_any r a cap bs s most w hr
theorem qtext_x (h : RdX B T w r bs s) (most : Int) : Calls Try.prog 40 #[.pointer (some ⟨r, 0, none⟩), .int .i64 most] w fun x w' => x = .returned (.string ⟨(rText bs s most).1.toArray⟩) ∧ RdX B T w' r bs (rText bs s most).2 ∧ KeepR r w w' := qlift h fun a cap hr => qtext_any r a cap bs s most w hr
theorem qend_x (h : RdX B T w r bs s) : Calls Try.prog 43 #[.pointer (some ⟨r, 0, none⟩)] w fun x w' => x = .returned (.int .i64 (rEnd bs s).err) ∧ RdX B T w' r bs (rEnd bs s) ∧ KeepR r w w' := qlift h fun a cap hr => qend_any r a cap bs s w hr
end

set_option maxHeartbeats 1000000 in
set_option maxRecDepth 100000 in
theorem qread_new (v : Value) (l : List UInt8) (w : World) (hr : Rd8 w v l) (h2 : l.length ≤ 140737488355328) :
    Calls Try.prog 24 #[v] w fun e w' => ∃ r, e = .returned (.pointer (some ⟨r, 0, none⟩)) ∧ RdX w.heap.size w'.heap.size w' r l ⟨0, 0⟩ ∧ Ext w w' := by
  obtain ⟨i0, hi, hz0, hz1, hz2⟩ := info_parts Try.infoU8
  have hr0 := hr
  obtain ⟨_, _, a, cap, rfl, _⟩ := hr0
  go_enter Try.func24, Try.ntmps24
  go_wp2_with (at_builtin; go_loud (refine wpList_own_src _ rfl _ _ 55 55 rfl w.heap.size 5 i0 (.int .u8 0) 1 1 Try.underlying55 hi hz0 hz1 hz2 rfl (by decide) _ _ 0 l.length [] _ (own_empty _ _ (Nat.le_refl _)) (src_of_slr (P := Try.prog) Try.underlying55 (hr.ext ((Ext.refl w).alloc _)) (bcell_one _)) rfl rfl ?c1 ?c2 ?c3 ?_))
  case c1 => unfold maxLen; omega
  case c2 => omega
  case c3 => simp
  intro v' w1 ho hb
  have R : Own8 5 w1 w.heap.size v' l := own8_of ho (by simp) (by simp)
  clear ho
  obtain ⟨a, cap, rfl⟩ : ∃ a cap, v' = .slice a l.length cap := by
    rcases R.2 with ⟨rfl, h0⟩ | ⟨g, cap, cur, rfl, _⟩
    · exact ⟨none, 0, by rw [h0]⟩
    · exact ⟨_, _, rfl⟩
  have hx : Ext w w1 := Below.trans ((Ext.refl w).alloc _) hb
  go_wp2
  go_ret
  refine ⟨w1.heap.size, rfl, ?_, hx.alloc _⟩
  simpa using RdX.new R h2 hx.size (Ext.refl _)
end Go.Proofs.Ytochgmpcdmahkaa
