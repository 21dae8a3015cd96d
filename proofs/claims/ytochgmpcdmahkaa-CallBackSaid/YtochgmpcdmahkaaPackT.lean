/- Contract of the reader's Text. -/
import Derived.Test.YtochgmpcdmahkaaPackS
namespace Go.Proofs.Ytochgmpcdmahkaa
open Go.RowKit

/-- A piece of the reader's bytes reads as it. -/
theorem RdW.piece {w : World} {r : Nat} {a : Option Addr} {cap : Nat} {bs : List UInt8} {s : RS} (h : RdW w r a cap bs s) {g off : Nat} (ha : a = some ⟨g, off, none⟩) (p n c : Nat) (hp : p + n ≤ bs.length) (hb : bs.length ≠ 0) :
    SlR w w.heap.size 1 (.slice (some ⟨g, off + p, none⟩) n c) ((bs.drop p).take n).length (((bs.drop p).take n).map bcell) := by
  have hl : ((bs.drop p).take n).length = n := by simp; omega
  rcases h.by_ with h0 | ⟨g', off', ha', hg, hgl, hc⟩
  · exact absurd h0.1 hb
  · rw [ha] at ha'
    simp only [Option.some.injEq, Addr.mk.injEq] at ha'
    obtain ⟨rfl, rfl, _⟩ := ha'
    refine ⟨by simp, by have := h.mx; simp only [maxLen]; omega, some ⟨g, off + p, none⟩, c, by rw [hl], .inr ⟨g, off + p, rfl, hgl, fun j hj => ?_⟩⟩
    rw [hl, Nat.mul_one] at hj
    rw [Nat.add_assoc, hc _ (by omega), List.map_take, List.map_drop, List.getElem?_take_of_lt hj, List.getElem?_drop]

theorem wpQuiet_val {P : Program} {ops : Array Oper} {C : World → Prop} {Q : Act → Prop} {o : Oper} {rest : List Oper} {a : Act} (hg : o.guard = none) (u : Value) (hr : ∀ w, C w → (execOp a.eval o).run P w = .ok (.value u) w) (h : wpQuiet P ops C Q rest (a.put o.dst u)) :
    wpQuiet P ops C Q (o :: rest) a := by
  unfold wpQuiet
  have hw : Region.wanted o (yielded ops a.tmps) = true := by simp [Region.wanted, hg]
  rw [if_pos hw]
  exact ⟨u, fun w hw => by unfold Oper.quietAt; rw [hr w hw]; exact ⟨rfl, rfl⟩, h⟩

theorem wpQuiet_conv {P : Program} {ops : Array Oper} {C : World → Prop} {Q : Act → Prop} {o : Oper} {rest : List Oper} {a : Act} (hg : o.guard = none) (src dst : TypeId) (x : Operand) (ho : o.op = .convert src dst x) (v u : Value) (hx : a.eval x = v)
    (hr : ∀ w, C w → (convert src dst v).run P w = .ok u w) (h : wpQuiet P ops C Q rest (a.put o.dst u)) : wpQuiet P ops C Q (o :: rest) a := by
  refine wpQuiet_val hg u (fun w hw => ?_) h
  unfold execOp
  simp only [ho, Sem.run_bind, Sem.run_pure, hx, hr w hw, Result.andThen_ok]

theorem rWithin_in (bs : List UInt8) (s : RS) (lo hi : Int) (h : (rWithin bs s lo hi).2.err = 0) : lo ≤ (rWithin bs s lo hi).1 ∧ (rWithin bs s lo hi).1 ≤ hi := by
  unfold rWithin at h ⊢
  simp only [] at h ⊢
  split at h
  · cases h
  · rename_i hh
    rw [if_neg hh]
    have : ¬ ((rNum bs s).1 < lo ∨ hi < (rNum bs s).1) := fun k => hh ⟨h, k⟩
    omega

set_option maxHeartbeats 2000000 in
set_option maxRecDepth 100000 in
theorem rtext_any (r : Nat) (a : Option Addr) (cap : Nat) (bs : List UInt8) (s : RS) (most : Int) (w : World) (h : RdW w r a cap bs s) :
    Calls Try.prog 48 #[.pointer (some ⟨r, 0, none⟩), .int .i64 most] w fun x w' => x = .returned (.string ⟨(rText bs s most).1.toArray⟩) ∧ RdW w' r a cap bs (rText bs s most).2 ∧ KeepR r w w' := by
  have hv : rText bs s most = if (rWithin bs s 0 most).2.err ≠ 0 then ([], (rWithin bs s 0 most).2) else if (bs.length : Int) - (rWithin bs s 0 most).2.at_ < (rWithin bs s 0 most).1 then ([], ⟨s.at_, 3⟩)
    else ((bs.drop (rWithin bs s 0 most).2.at_).take (rWithin bs s 0 most).1.toNat, ⟨(rWithin bs s 0 most).2.at_ + (rWithin bs s 0 most).1.toNat, 0⟩) := rfl
  have hval := rWithin_in bs s 0 most
  have c1 := h.c1
  have hok := h.ok
  go_enter Try.func48, Try.ntmps48
  go_wp2_with fail
  refine (rwithin_any r a cap bs s 0 most _ h).mono ?_
  rintro e w2 ⟨rfl, hr, hk⟩
  generalize rWithin bs s 0 most = q at *
  obtain ⟨n, s2⟩ := q
  simp only [] at hr hv hval ⊢
  clear c1
  have c0 := hr.c0
  have c1 := hr.c1
  have c2 := hr.c2
  have f1 := hr.f1
  have hmx := hr.mx
  have hlc := hr.lc
  have hok2 := hr.ok
  by_cases he : s2.err = 0
  · obtain ⟨_, heb⟩ := eq0 he
    rw [if_neg (fun k => k he)] at hv
    by_cases hn : (bs.length : Int) - s2.at_ < n
    · rw [if_pos hn] at hv
      have HV := Lib.hid hv
      clear hv he
      go_wp2
      go_quiet (fail)
      go_wp2_with fail
      refine (wrong_any r a cap bs s2 s.at_ 3 _ (RdW.drewN hr _) hok).mono ?_
      rintro e w3 ⟨rfl, hr3, hk3⟩
      go_wp2
      go_ret
      exact ⟨by rw [HV.out]; rfl, by rw [HV.out]; exact hr3, (hk.drewN _).trans hk3⟩
    · rw [if_neg hn] at hv
      have hn0 : 0 ≤ n := (hval he).1
      obtain ⟨n, rfl⟩ := Int.eq_ofNat_of_zero_le hn0
      have HV := Lib.hid hv
      have HE := Lib.hid he
      clear hv he
      go_wp2
      go_quiet (fail)
      go_wp2
      rcases hr.by_ with ⟨h0, rfl, rfl⟩ | ⟨g, off, rfl, hgr, hgl, _⟩
      · obtain rfl : n = 0 := by omega
        obtain ⟨at0, er⟩ := s2
        obtain rfl : at0 = 0 := by simp only [] at hok2; omega
        obtain rfl : bs = [] := List.eq_nil_of_length_eq_zero h0
        simp only [] at *
        have hcv : ∀ m, (convert 55 9 (.slice none 0 0)).run Try.prog (w2.drewN m) = .ok (.string ⟨#[]⟩) (w2.drewN m) := fun m =>
          run_conv_str (P := Try.prog) _ 55 9 5 Try.underlying55 Try.underlying5 Try.underlying9 0 _ [] (SlR.nil _ _ _)
        refine wp_region_quiet_lit (by kernel_rfl) (by kernel_rfl) ?_
        iterate 14 (quiet_step (fail))
        refine wpQuiet_val rfl (.slice none 0 0) (fun w hw => ?_) ?_
        · obtain ⟨m, rfl⟩ := hw
          go_simp
          rfl
        go_simp
        refine wpQuiet_conv rfl _ _ _ rfl _ _ rfl (fun w hw => by obtain ⟨m, rfl⟩ := hw; exact hcv _) ?_
        go_simp
        quiet_step (fail)
        refine wpQuiet_nil ?_
        intro nq2
        go_wp2
        go_ret
        have st := fun n' => RdW.step (s' := ⟨0, 0⟩) hr hk (by simp) HE.out.symm n'
        refine ⟨by rw [HV.out]; rfl, ?_, ?_⟩
        · rw [HV.out]; exact (st _).1
        · exact (st _).2
      · refine wp_region_quiet_lit (by kernel_rfl) (by kernel_rfl) ?_
        iterate 14 (quiet_step (fail))
        have hs1 : IntKind.i64.wrap ((s2.at_ : Int) + (n : Int)) = ((s2.at_ + n : Nat) : Int) := by rw [IntKind.wrap_i64]; omega
        refine wpQuiet_val rfl (.slice (if cap = s2.at_ then some ⟨g, off, none⟩ else some ⟨g, off + s2.at_, none⟩) n (cap - s2.at_)) (fun w hw => ?_) ?_
        · obtain ⟨m, rfl⟩ := hw
          go_simp
          try simp only [hs1]
          rw [if_pos ⟨by omega, by omega⟩, if_pos (by omega)]
          congr 3
          omega
        go_simp
        have hcv : ∀ m, (convert 55 9 (.slice (if cap = s2.at_ then some ⟨g, off, none⟩ else some ⟨g, off + s2.at_, none⟩) n (cap - s2.at_))).run Try.prog (w2.drewN m) = .ok (.string ⟨((bs.drop s2.at_).take n).toArray⟩) (w2.drewN m) := by
          intro m
          have hl : ((bs.drop s2.at_).take n).length = n := by simp; omega
          have hS : SlR (w2.drewN m) w2.heap.size 1 (.slice (if cap = s2.at_ then some ⟨g, off, none⟩ else some ⟨g, off + s2.at_, none⟩) n (cap - s2.at_)) ((bs.drop s2.at_).take n).length (((bs.drop s2.at_).take n).map bcell) := by
            by_cases hn0 : n = 0
            · subst hn0
              exact ⟨by simp, by simp, _, _, rfl, .inl (by simp)⟩
            · rw [if_neg (by omega)]
              exact RdW.piece (RdW.drewN hr m) rfl s2.at_ n _ (by omega) (by omega)
          exact run_conv_str (P := Try.prog) _ 55 9 5 Try.underlying55 Try.underlying5 Try.underlying9 _ _ _ hS
        refine wpQuiet_conv rfl _ _ _ rfl _ _ rfl (fun w hw => by obtain ⟨m, rfl⟩ := hw; exact hcv _) ?_
        go_simp
        quiet_step (fail)
        refine wpQuiet_nil ?_
        intro nq2
        generalize (if cap = s2.at_ then some (⟨g, off, none⟩ : Addr) else some ⟨g, off + s2.at_, none⟩) = ad at *
        go_wp2
        go_ret
        have st := fun n' => RdW.step (s' := ⟨s2.at_ + n, 0⟩) hr hk (by simp only []; omega) HE.out.symm n'
        refine ⟨by rw [HV.out]; rfl, ?_, ?_⟩
        · rw [HV.out]; exact (st _).1
        · exact (st _).2
  · obtain ⟨_, heb⟩ := ne0 he
    rw [if_pos he] at hv
    have HV := Lib.hid hv
    clear hv he
    go_wp2
    go_ret
    exact ⟨by rw [HV.out]; rfl, by rw [HV.out]; exact hr, hk⟩
end Go.Proofs.Ytochgmpcdmahkaa
