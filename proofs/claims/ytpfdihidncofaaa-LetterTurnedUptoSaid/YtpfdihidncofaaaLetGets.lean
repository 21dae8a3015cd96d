/- The law LetterGets: the walk. (Written by genGets.py.) -/
import Derived.Test.YtpfdihidncofaaaLetBack
import Derived.Test.YtpfdihidncofaaaLetU
import Derived.Test.YtpfdihidncofaaaRoomy8
namespace Go.Proofs.Ytpfdihidncofaaa
open Go.RowKit

theorem rget_is (v : Value) (bs : List UInt8) (m : Lt) (es : List Ent) (err : Int) (hg : GetIs bs m es err) (w : World) (hr : Rd8 w v bs) (hb : bs.length ≤ 140737488355328) : Calls Try.prog 20 #[v] w fun e w' => ∃ a c, e = .returned (.tuple #[m.agg (.slice a es.length c), .int .i64 err]) ∧ OwnS Ent.cells 3 36 w' w.heap.size (.slice a es.length c) es ∧ Ext w w' := by
  refine (rget_any v bs w hr hb).mono ?_
  rintro e w' ⟨m', es', ev, err', rfl, ho, hg', hx⟩
  obtain ⟨rfl, rfl, rfl⟩ := GetIs.one hg hg'
  obtain ⟨a, c, rfl, _, _⟩ := ho.form
  exact ⟨a, c, rfl, ho, hx⟩
theorem get_len {bs : List UInt8} {m : Lt} {es : List Ent} {err : Int} (h : GetIs bs m es err) : es.length ≤ 8 := by
  rcases h with ⟨_, _, _, rfl⟩ | ⟨_, _, _, _, rfl⟩ | ⟨_, _, _, _, rfl⟩
  · simp
  · rw [gEs, entsAt_len]; exact (gN_cast bs).2
  · simp
theorem own_cut8 {te : TypeId} {w : World} {B g n : Nat} {l : List UInt8} {mk : UInt8} (h : Own8 te w B (.slice (some ⟨g, 0, none⟩) (n + 80) (n + 80)) (l ++ List.replicate 80 mk)) (hn : l.length = n) : Rd8 w (.slice (some ⟨g, 0, none⟩) n (n + 80)) l := by
  subst hn
  have h3 := Rd8.cut (Own8.rd h) l.length (by simp) (l.length + 80)
  simpa using h3

set_option maxHeartbeats 16000000 in
set_option maxRecDepth 100000 in
theorem lgets_o (g : Lt) (ab : Option Addr) (cb k n : Nat) (eg : List Ent) (bs : List UInt8) (err : Int) (hk : bs.length = k) (hlen : eg.length = n) (w : World) (hb : Rd8 w (.slice ab k cb) bs) (hbl : k ≤ 140737488351232) (hG : GetIs bs g eg err) (he : err = 0) : Calls Try.prog 5 #[.slice ab k cb] w fun e w' => e = .returned (.bool true) ∧ Ext w w' := by
  have hn8 := get_len hG
  have hro := roomy8 (.slice ab k cb) bs 3 w hb (by omega)
  have hin := fun gg z B (ho : Own8 5 z B (.slice (some ⟨gg, 0, none⟩) (bs.length + 80) (bs.length + 80)) (bs ++ List.replicate 80 3)) (hz : Ext w z) => intact8 gg (.slice ab k cb) bs 3 z B ho (hb.ext hz) (by omega)
  have e3 : (((3 : UInt8).toNat : Nat) : Int) = 3 := rfl
  rw [hk, e3] at hro hin
  have hg := fun v z (hr : Rd8 z v bs) => get_is v bs g eg err hG z hr (by omega)
  have hrg := fun z (hz : Ext w z) => rget_is (.slice ab k cb) bs g eg err hG z (hb.ext hz) (by omega)
  have hsm := fun a a' c c' z (ha : SlS Ent.cells 3 z (.slice a n c) eg) (hb : SlS Ent.cells 3 z (.slice a' n c') eg) => lsame_yes g a a' c c' n eg hlen z ha hb (by omega)
  have hr := fun a c z (ha : SlS Ent.cells 3 z (.slice a n c) eg) => lright_is g a c n eg hlen true ⟨fun _ => (get_ok hG he (by omega)).1, fun _ => rfl⟩ z ha
  rw [hlen] at hg hrg
  subst he
  obtain ⟨kind, fr, to, te, ix, at_, co, me, off, sz, yes, data⟩ := g
  simp only [Lt.agg] at hg hrg hsm hr
  have HRO := Lib.hid hro
  have HIN := Lib.hid hin
  have HG := Lib.hid hg
  have HRG := Lib.hid hrg
  have HSM := Lib.hid hsm
  have HK := Lib.hid hk
  have HR := Lib.hid hr
  clear hro hin hg hrg hsm hb hG hk hlen hn8 e3 hr
  go_enter Try.func5, Try.ntmps5
  go_wp2_with (first
    | (go_at_call 19; (with_reducible refine HRO.out.mono ?_); rintro e x1 ⟨gg, rfl, hown, hx1⟩; have HO1 := Lib.hid hown; clear hown)
    | (go_at_call 10; (with_reducible refine (HG.out _ _ (own_cut8 HO1.out HK.out)).mono ?_); rintro e x2 ⟨a2, c2, rfl, ho2, hx2⟩; have HO2 := Lib.hid ho2; have HXA := Lib.hid (Ext.trans hx1 (hx2.alloc (.cells #[.int .i64 kind, .int .i64 fr, .int .i64 to, .int .i64 te, .int .i64 ix, .int .i64 at_, .int .i64 co, .int .i64 me, .int .i64 off, .int .i64 sz, .bool yes, .string data, .slice a2 n c2] 24))); have HYA := Lib.hid (hx2.alloc (.cells #[.int .i64 kind, .int .i64 fr, .int .i64 to, .int .i64 te, .int .i64 ix, .int .i64 at_, .int .i64 co, .int .i64 me, .int .i64 off, .int .i64 sz, .bool yes, .string data, .slice a2 n c2] 24)); clear ho2)
    | (go_at_call 20; (with_reducible refine (HRG.out _ HXA.out).mono ?_); rintro e x3 ⟨a3, c3, rfl, ho3, hx3⟩; have HO3 := Lib.hid ho3; have BM3 := Lib.hid (ext_blk hx3 (new_blk x2 (.cells #[.int .i64 kind, .int .i64 fr, .int .i64 to, .int .i64 te, .int .i64 ix, .int .i64 at_, .int .i64 co, .int .i64 me, .int .i64 off, .int .i64 sz, .bool yes, .string data, .slice a2 n c2] 24))); have zx3 := blk_lt BM3.out; have HE2 := Lib.hid (Ext.trans ((Ext.refl x2).alloc (.cells #[.int .i64 kind, .int .i64 fr, .int .i64 to, .int .i64 te, .int .i64 ix, .int .i64 at_, .int .i64 co, .int .i64 me, .int .i64 off, .int .i64 sz, .bool yes, .string data, .slice a2 n c2] 24)) (hx3.alloc (.cells #[.int .i64 kind, .int .i64 fr, .int .i64 to, .int .i64 te, .int .i64 ix, .int .i64 at_, .int .i64 co, .int .i64 me, .int .i64 off, .int .i64 sz, .bool yes, .string data, .slice a3 n c3] 24))); have HX3 := Lib.hid (HXA.out.trans (hx3.alloc (.cells #[.int .i64 kind, .int .i64 fr, .int .i64 to, .int .i64 te, .int .i64 ix, .int .i64 at_, .int .i64 co, .int .i64 me, .int .i64 off, .int .i64 sz, .bool yes, .string data, .slice a3 n c3] 24))); have HY3 := Lib.hid (HYA.out.trans (hx3.alloc (.cells #[.int .i64 kind, .int .i64 fr, .int .i64 to, .int .i64 te, .int .i64 ix, .int .i64 at_, .int .i64 co, .int .i64 me, .int .i64 off, .int .i64 sz, .bool yes, .string data, .slice a3 n c3] 24))); obtain ⟨p0, _⟩ := blkG BM3.out 0 (.int .i64 kind) rfl; obtain ⟨p1, _⟩ := blkG BM3.out 1 (.int .i64 fr) rfl; obtain ⟨p2, _⟩ := blkG BM3.out 2 (.int .i64 to) rfl; obtain ⟨p3, _⟩ := blkG BM3.out 3 (.int .i64 te) rfl; obtain ⟨p4, _⟩ := blkG BM3.out 4 (.int .i64 ix) rfl; obtain ⟨p5, _⟩ := blkG BM3.out 5 (.int .i64 at_) rfl; obtain ⟨p6, _⟩ := blkG BM3.out 6 (.int .i64 co) rfl; obtain ⟨p7, _⟩ := blkG BM3.out 7 (.int .i64 me) rfl; obtain ⟨p8, _⟩ := blkG BM3.out 8 (.int .i64 off) rfl; obtain ⟨p9, _⟩ := blkG BM3.out 9 (.int .i64 sz) rfl; obtain ⟨p10, _⟩ := blkG BM3.out 10 (.bool yes) rfl; obtain ⟨p11, _⟩ := blkG BM3.out 11 (.string data) rfl; obtain ⟨p12, _⟩ := blkG BM3.out 12 (.slice a2 n c2) rfl; clear ho3)
    | (go_at_call 12; (with_reducible refine (HSM.out _ _ _ _ _ (OwnS.rd (HO2.out.ext HE2.out)) (OwnS.rd (HO3.out.ext ((Ext.refl x3).alloc (.cells #[.int .i64 kind, .int .i64 fr, .int .i64 to, .int .i64 te, .int .i64 ix, .int .i64 at_, .int .i64 co, .int .i64 me, .int .i64 off, .int .i64 sz, .bool yes, .string data, .slice a3 n c3] 24))))).mono ?_); rintro e x4 ⟨rfl, hx4⟩; have BM4 := Lib.hid (ext_blk hx4 (alloc_blk (o' := (.cells #[.int .i64 kind, .int .i64 fr, .int .i64 to, .int .i64 te, .int .i64 ix, .int .i64 at_, .int .i64 co, .int .i64 me, .int .i64 off, .int .i64 sz, .bool yes, .string data, .slice a3 n c3] 24)) BM3.out)); have HE4 := Lib.hid (HE2.out.trans hx4); have HX4 := Lib.hid (HX3.out.trans hx4); have HY4 := Lib.hid (HY3.out.trans hx4); obtain ⟨q0, _⟩ := blkG BM4.out 0 (.int .i64 kind) rfl; obtain ⟨q1, _⟩ := blkG BM4.out 1 (.int .i64 fr) rfl; obtain ⟨q2, _⟩ := blkG BM4.out 2 (.int .i64 to) rfl; obtain ⟨q3, _⟩ := blkG BM4.out 3 (.int .i64 te) rfl; obtain ⟨q4, _⟩ := blkG BM4.out 4 (.int .i64 ix) rfl; obtain ⟨q5, _⟩ := blkG BM4.out 5 (.int .i64 at_) rfl; obtain ⟨q6, _⟩ := blkG BM4.out 6 (.int .i64 co) rfl; obtain ⟨q7, _⟩ := blkG BM4.out 7 (.int .i64 me) rfl; obtain ⟨q8, _⟩ := blkG BM4.out 8 (.int .i64 off) rfl; obtain ⟨q9, _⟩ := blkG BM4.out 9 (.int .i64 sz) rfl; obtain ⟨q10, _⟩ := blkG BM4.out 10 (.bool yes) rfl; obtain ⟨q11, _⟩ := blkG BM4.out 11 (.string data) rfl; obtain ⟨q12, _⟩ := blkG BM4.out 12 (.slice a2 n c2) rfl)
    | (go_at_call 21; refine (HIN.out _ _ _ (own_ext HO1.out HY4.out) HX4.out).mono ?_; rintro e x5 ⟨rfl, hx5⟩; have BM5 := Lib.hid (ext_blk hx5 BM4.out); have HE5 := Lib.hid (HE4.out.trans hx5); have HX5 := Lib.hid (HX4.out.trans hx5); obtain ⟨r0, _⟩ := blkG BM5.out 0 (.int .i64 kind) rfl; obtain ⟨r1, _⟩ := blkG BM5.out 1 (.int .i64 fr) rfl; obtain ⟨r2, _⟩ := blkG BM5.out 2 (.int .i64 to) rfl; obtain ⟨r3, _⟩ := blkG BM5.out 3 (.int .i64 te) rfl; obtain ⟨r4, _⟩ := blkG BM5.out 4 (.int .i64 ix) rfl; obtain ⟨r5, _⟩ := blkG BM5.out 5 (.int .i64 at_) rfl; obtain ⟨r6, _⟩ := blkG BM5.out 6 (.int .i64 co) rfl; obtain ⟨r7, _⟩ := blkG BM5.out 7 (.int .i64 me) rfl; obtain ⟨r8, _⟩ := blkG BM5.out 8 (.int .i64 off) rfl; obtain ⟨r9, _⟩ := blkG BM5.out 9 (.int .i64 sz) rfl; obtain ⟨r10, _⟩ := blkG BM5.out 10 (.bool yes) rfl; obtain ⟨r11, _⟩ := blkG BM5.out 11 (.string data) rfl; obtain ⟨r12, _⟩ := blkG BM5.out 12 (.slice a2 n c2) rfl)
    | (go_at_call 17; (with_reducible refine (HR.out _ _ _ (OwnS.rd (HO2.out.ext HE5.out))).mono ?_); rintro e x6 ⟨rfl, hx6⟩; have HX6 := Lib.hid (HX5.out.trans hx6))
    | (go_at_call 3; refine (lruns_any _).mono ?_; rintro e x9 ⟨rfl, hx9⟩))
  go_ret
  exact ⟨rfl, HX6.out.trans hx9⟩

set_option maxHeartbeats 16000000 in
set_option maxRecDepth 100000 in
theorem lgets_e (g : Lt) (ab : Option Addr) (cb k n : Nat) (eg : List Ent) (bs : List UInt8) (err : Int) (hk : bs.length = k) (hlen : eg.length = n) (w : World) (hb : Rd8 w (.slice ab k cb) bs) (hbl : k ≤ 140737488351232) (hG : GetIs bs g eg err) (he : err ≠ 0) : Calls Try.prog 5 #[.slice ab k cb] w fun e w' => e = .returned (.bool true) ∧ Ext w w' := by
  have hn8 := get_len hG
  have hro := roomy8 (.slice ab k cb) bs 3 w hb (by omega)
  have hin := fun gg z B (ho : Own8 5 z B (.slice (some ⟨gg, 0, none⟩) (bs.length + 80) (bs.length + 80)) (bs ++ List.replicate 80 3)) (hz : Ext w z) => intact8 gg (.slice ab k cb) bs 3 z B ho (hb.ext hz) (by omega)
  have e3 : (((3 : UInt8).toNat : Nat) : Int) = 3 := rfl
  rw [hk, e3] at hro hin
  have hg := fun v z (hr : Rd8 z v bs) => get_is v bs g eg err hG z hr (by omega)
  have hrg := fun z (hz : Ext w z) => rget_is (.slice ab k cb) bs g eg err hG z (hb.ext hz) (by omega)
  have hsm := fun a a' c c' z (ha : SlS Ent.cells 3 z (.slice a n c) eg) (hb : SlS Ent.cells 3 z (.slice a' n c') eg) => lsame_yes g a a' c c' n eg hlen z ha hb (by omega)
  rw [hlen] at hg hrg
  have hne : (err != 0) = true := by simp [he]
  obtain ⟨kind, fr, to, te, ix, at_, co, me, off, sz, yes, data⟩ := g
  simp only [Lt.agg] at hg hrg hsm 
  have HRO := Lib.hid hro
  have HIN := Lib.hid hin
  have HG := Lib.hid hg
  have HRG := Lib.hid hrg
  have HSM := Lib.hid hsm
  have HK := Lib.hid hk
  clear hro hin hg hrg hsm hb hG hk hlen hn8 e3 he
  go_enter Try.func5, Try.ntmps5
  go_wp2_with (first
    | (go_at_call 19; (with_reducible refine HRO.out.mono ?_); rintro e x1 ⟨gg, rfl, hown, hx1⟩; have HO1 := Lib.hid hown; clear hown)
    | (go_at_call 10; (with_reducible refine (HG.out _ _ (own_cut8 HO1.out HK.out)).mono ?_); rintro e x2 ⟨a2, c2, rfl, ho2, hx2⟩; have HO2 := Lib.hid ho2; have HXA := Lib.hid (Ext.trans hx1 (hx2.alloc (.cells #[.int .i64 kind, .int .i64 fr, .int .i64 to, .int .i64 te, .int .i64 ix, .int .i64 at_, .int .i64 co, .int .i64 me, .int .i64 off, .int .i64 sz, .bool yes, .string data, .slice a2 n c2] 24))); have HYA := Lib.hid (hx2.alloc (.cells #[.int .i64 kind, .int .i64 fr, .int .i64 to, .int .i64 te, .int .i64 ix, .int .i64 at_, .int .i64 co, .int .i64 me, .int .i64 off, .int .i64 sz, .bool yes, .string data, .slice a2 n c2] 24)); clear ho2)
    | (go_at_call 20; (with_reducible refine (HRG.out _ HXA.out).mono ?_); rintro e x3 ⟨a3, c3, rfl, ho3, hx3⟩; have HO3 := Lib.hid ho3; have BM3 := Lib.hid (ext_blk hx3 (new_blk x2 (.cells #[.int .i64 kind, .int .i64 fr, .int .i64 to, .int .i64 te, .int .i64 ix, .int .i64 at_, .int .i64 co, .int .i64 me, .int .i64 off, .int .i64 sz, .bool yes, .string data, .slice a2 n c2] 24))); have zx3 := blk_lt BM3.out; have HE2 := Lib.hid (Ext.trans ((Ext.refl x2).alloc (.cells #[.int .i64 kind, .int .i64 fr, .int .i64 to, .int .i64 te, .int .i64 ix, .int .i64 at_, .int .i64 co, .int .i64 me, .int .i64 off, .int .i64 sz, .bool yes, .string data, .slice a2 n c2] 24)) (hx3.alloc (.cells #[.int .i64 kind, .int .i64 fr, .int .i64 to, .int .i64 te, .int .i64 ix, .int .i64 at_, .int .i64 co, .int .i64 me, .int .i64 off, .int .i64 sz, .bool yes, .string data, .slice a3 n c3] 24))); have HX3 := Lib.hid (HXA.out.trans (hx3.alloc (.cells #[.int .i64 kind, .int .i64 fr, .int .i64 to, .int .i64 te, .int .i64 ix, .int .i64 at_, .int .i64 co, .int .i64 me, .int .i64 off, .int .i64 sz, .bool yes, .string data, .slice a3 n c3] 24))); have HY3 := Lib.hid (HYA.out.trans (hx3.alloc (.cells #[.int .i64 kind, .int .i64 fr, .int .i64 to, .int .i64 te, .int .i64 ix, .int .i64 at_, .int .i64 co, .int .i64 me, .int .i64 off, .int .i64 sz, .bool yes, .string data, .slice a3 n c3] 24))); obtain ⟨p0, _⟩ := blkG BM3.out 0 (.int .i64 kind) rfl; obtain ⟨p1, _⟩ := blkG BM3.out 1 (.int .i64 fr) rfl; obtain ⟨p2, _⟩ := blkG BM3.out 2 (.int .i64 to) rfl; obtain ⟨p3, _⟩ := blkG BM3.out 3 (.int .i64 te) rfl; obtain ⟨p4, _⟩ := blkG BM3.out 4 (.int .i64 ix) rfl; obtain ⟨p5, _⟩ := blkG BM3.out 5 (.int .i64 at_) rfl; obtain ⟨p6, _⟩ := blkG BM3.out 6 (.int .i64 co) rfl; obtain ⟨p7, _⟩ := blkG BM3.out 7 (.int .i64 me) rfl; obtain ⟨p8, _⟩ := blkG BM3.out 8 (.int .i64 off) rfl; obtain ⟨p9, _⟩ := blkG BM3.out 9 (.int .i64 sz) rfl; obtain ⟨p10, _⟩ := blkG BM3.out 10 (.bool yes) rfl; obtain ⟨p11, _⟩ := blkG BM3.out 11 (.string data) rfl; obtain ⟨p12, _⟩ := blkG BM3.out 12 (.slice a2 n c2) rfl; clear ho3)
    | (go_at_call 12; (with_reducible refine (HSM.out _ _ _ _ _ (OwnS.rd (HO2.out.ext HE2.out)) (OwnS.rd (HO3.out.ext ((Ext.refl x3).alloc (.cells #[.int .i64 kind, .int .i64 fr, .int .i64 to, .int .i64 te, .int .i64 ix, .int .i64 at_, .int .i64 co, .int .i64 me, .int .i64 off, .int .i64 sz, .bool yes, .string data, .slice a3 n c3] 24))))).mono ?_); rintro e x4 ⟨rfl, hx4⟩; have BM4 := Lib.hid (ext_blk hx4 (alloc_blk (o' := (.cells #[.int .i64 kind, .int .i64 fr, .int .i64 to, .int .i64 te, .int .i64 ix, .int .i64 at_, .int .i64 co, .int .i64 me, .int .i64 off, .int .i64 sz, .bool yes, .string data, .slice a3 n c3] 24)) BM3.out)); have HE4 := Lib.hid (HE2.out.trans hx4); have HX4 := Lib.hid (HX3.out.trans hx4); have HY4 := Lib.hid (HY3.out.trans hx4); obtain ⟨q0, _⟩ := blkG BM4.out 0 (.int .i64 kind) rfl; obtain ⟨q1, _⟩ := blkG BM4.out 1 (.int .i64 fr) rfl; obtain ⟨q2, _⟩ := blkG BM4.out 2 (.int .i64 to) rfl; obtain ⟨q3, _⟩ := blkG BM4.out 3 (.int .i64 te) rfl; obtain ⟨q4, _⟩ := blkG BM4.out 4 (.int .i64 ix) rfl; obtain ⟨q5, _⟩ := blkG BM4.out 5 (.int .i64 at_) rfl; obtain ⟨q6, _⟩ := blkG BM4.out 6 (.int .i64 co) rfl; obtain ⟨q7, _⟩ := blkG BM4.out 7 (.int .i64 me) rfl; obtain ⟨q8, _⟩ := blkG BM4.out 8 (.int .i64 off) rfl; obtain ⟨q9, _⟩ := blkG BM4.out 9 (.int .i64 sz) rfl; obtain ⟨q10, _⟩ := blkG BM4.out 10 (.bool yes) rfl; obtain ⟨q11, _⟩ := blkG BM4.out 11 (.string data) rfl; obtain ⟨q12, _⟩ := blkG BM4.out 12 (.slice a2 n c2) rfl)
    | (go_at_call 21; refine (HIN.out _ _ _ (own_ext HO1.out HY4.out) HX4.out).mono ?_; rintro e x5 ⟨rfl, hx5⟩; have BM5 := Lib.hid (ext_blk hx5 BM4.out); have HE5 := Lib.hid (HE4.out.trans hx5); have HX5 := Lib.hid (HX4.out.trans hx5); obtain ⟨r0, _⟩ := blkG BM5.out 0 (.int .i64 kind) rfl; obtain ⟨r1, _⟩ := blkG BM5.out 1 (.int .i64 fr) rfl; obtain ⟨r2, _⟩ := blkG BM5.out 2 (.int .i64 to) rfl; obtain ⟨r3, _⟩ := blkG BM5.out 3 (.int .i64 te) rfl; obtain ⟨r4, _⟩ := blkG BM5.out 4 (.int .i64 ix) rfl; obtain ⟨r5, _⟩ := blkG BM5.out 5 (.int .i64 at_) rfl; obtain ⟨r6, _⟩ := blkG BM5.out 6 (.int .i64 co) rfl; obtain ⟨r7, _⟩ := blkG BM5.out 7 (.int .i64 me) rfl; obtain ⟨r8, _⟩ := blkG BM5.out 8 (.int .i64 off) rfl; obtain ⟨r9, _⟩ := blkG BM5.out 9 (.int .i64 sz) rfl; obtain ⟨r10, _⟩ := blkG BM5.out 10 (.bool yes) rfl; obtain ⟨r11, _⟩ := blkG BM5.out 11 (.string data) rfl; obtain ⟨r12, _⟩ := blkG BM5.out 12 (.slice a2 n c2) rfl)
    | (go_at_call 3; refine (lruns_any _).mono ?_; rintro e x9 ⟨rfl, hx9⟩))
  go_ret
  exact ⟨rfl, HX5.out.trans hx9⟩

theorem lgets_any (ab : Option Addr) (cb k : Nat) (bs : List UInt8) (hk : bs.length = k) (w : World) (hb : Rd8 w (.slice ab k cb) bs) (hbl : k ≤ 140737488351232) : Calls Try.prog 5 #[.slice ab k cb] w fun e w' => e = .returned (.bool true) ∧ Ext w w' := by
  obtain ⟨g, eg, err, hG⟩ := get_total bs
  by_cases he : err = 0
  · exact lgets_o g ab cb k _ eg bs err hk rfl w hb hbl hG he
  · exact lgets_e g ab cb k _ eg bs err hk rfl w hb hbl hG he
end Go.Proofs.Ytpfdihidncofaaa
