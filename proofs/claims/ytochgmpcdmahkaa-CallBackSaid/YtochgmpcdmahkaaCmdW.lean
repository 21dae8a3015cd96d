/- Package command: the writer: num, text, day, lines. -/
import Derived.Test.YtochgmpcdmahkaaCmdA
import Derived.Test.YtochgmpcdmahkaaPackW
namespace Go.Proofs.Ytochgmpcdmahkaa
open Go.RowKit

/-- What a writer holds: bytes, and whether something was too long. -/
abbrev WS := List UInt8 × Bool
def WI (p : Nat) (w : World) (s : WS) : Prop := ∃ v, w.heap[p]? = some (.cells #[v, .bool s.2] 77 (0, 0)) ∧ Own8 5 w (p + 1) v s.1
theorem WI.lt {p : Nat} {w : World} {s : WS} (h : WI p w s) : p < w.heap.size := by obtain ⟨v, h1, _⟩ := h; exact blk_lt h1
theorem WI.ext {p : Nat} {w w' : World} {s : WS} (h : WI p w s) (hx : Ext w w') : WI p w' s := by
  obtain ⟨v, h1, h2⟩ := h
  exact ⟨v, ext_blk hx h1, own_ext h2 hx⟩
def Z64 (n : Int) : Prop := -9223372036854775808 ≤ n ∧ n ≤ 9223372036854775807
def sN (s : WS) (n : Int) : WS := (s.1 ++ numL n, s.2)
def sT (s : WS) (t : ByteArray) : WS := if t.size ≤ 64 then (s.1 ++ textL t, s.2) else (s.1, true)
def sD (s : WS) (y m d : Int) : WS := sN (sN (sN s y) m) d
def sLn (s : WS) (x : Ln) : WS := sN (sN (sT (sT s x.text) x.cat) x.count) x.price
def sLs (s : WS) (ls : List Ln) : WS := if ls.length ≤ 12 then ls.foldl sLn (sN s ls.length) else (s.1, true)
theorem numL_le (n : Int) : (numL n).length ≤ 10 := (numL_len n).2
theorem sN_le (s : WS) (n : Int) : (sN s n).1.length ≤ s.1.length + 10 := by
  have := numL_le n
  simp only [sN, List.length_append]
  omega
theorem sT_le (s : WS) (t : ByteArray) : (sT s t).1.length ≤ s.1.length + 74 := by
  unfold sT
  split
  · rename_i h
    have := numL_le t.size
    have h2 := bytesOf_len t
    simp only [List.length_append, textL]
    omega
  · simp
theorem sD_le (s : WS) (y m d : Int) : (sD s y m d).1.length ≤ s.1.length + 30 := by
  have h1 := sN_le s y
  have h2 := sN_le (sN s y) m
  have h3 := sN_le (sN (sN s y) m) d
  unfold sD
  omega
theorem sLn_le (s : WS) (x : Ln) : (sLn s x).1.length ≤ s.1.length + 168 := by
  have h1 := sT_le s x.text
  have h2 := sT_le (sT s x.text) x.cat
  have h3 := sN_le (sT (sT s x.text) x.cat) x.count
  have h4 := sN_le (sN (sT (sT s x.text) x.cat) x.count) x.price
  unfold sLn
  omega
theorem fold_le : ∀ (ls : List Ln) (s : WS), (ls.foldl sLn s).1.length ≤ s.1.length + ls.length * 168
  | [], s => by simp
  | x :: ls, s => by
    have h1 := fold_le ls (sLn s x)
    have h2 := sLn_le s x
    rw [List.foldl_cons, List.length_cons, Nat.succ_mul]
    omega
theorem sLs_le (s : WS) (ls : List Ln) : (sLs s ls).1.length ≤ s.1.length + 2100 := by
  unfold sLs
  split
  · rename_i h
    have h1 := fold_le ls (sN s ls.length)
    have h2 := sN_le s ls.length
    omega
  · simp

theorem own8_formW {te : TypeId} {w : World} {B : Nat} {v : Value} {l : List UInt8} (h : Own8 te w B v l) : ∃ a k c, v = .slice a k c := by
  obtain ⟨_, _, a, c, rfl, _⟩ := Own8.slr h
  exact ⟨a, _, c, rfl⟩
theorem own8_setO {te : TypeId} {w : World} {B b o : Nat} {v u : Value} {l : List UInt8} (h : Own8 te w B v l) (hb : b < B) : Own8 te (w.setCell ⟨b, o, none⟩ u) B v l :=
  own_keepE h fun a m c he => Below.heap_setCell _ _ _ _ (Nat.ne_of_gt (Nat.lt_of_lt_of_le hb (own_blkE h a m c he).2))
section
variable {p : Nat} {w : World} {s : WS}
theorem WI.rd {v : Value} (h2 : Own8 5 w (p + 1) v s.1) : Rd8 w v s.1 := Own8.rd h2
set_option maxHeartbeats 2000000 in
theorem wnum_any (n : Int) (h : WI p w s) (hn : Z64 n) (hs : s.1.length ≤ 1000000) : Calls Try.prog 29 #[.pointer (some ⟨p, 0, none⟩), .int .i64 n] w fun e w' => e = .returned (.tuple #[]) ∧ WI p w' (sN s n) ∧ KeepR p w w' := by
  obtain ⟨v, hb, ho⟩ := h
  obtain ⟨c0, f0⟩ := blkG hb 0 v rfl
  have HN := Lib.hid (num_any v s.1 n w (Own8.rd ho) hn.1 hn.2 (by omega))
  have HB := Lib.hid hb
  have hlt := blk_lt hb
  clear hb ho hs hn
  go_enter Try.func29, Try.ntmps29
  go_wp2_with (go_at_call 15; (refine HN.out.mono ?_); rintro e z ⟨v', rfl, ho, hz⟩; obtain ⟨a', k', c', rfl⟩ := own8_formW ho; have HO := Lib.hid ho; have HZ := Lib.hid (ext_blk hz HB.out); obtain ⟨c1, f1⟩ := blkG HZ.out 0 v rfl; clear ho)
  go_end0
  refine ⟨rfl, ⟨_, ?_, own8_base (own8_setO HO.out hlt) hlt⟩, (KeepR.of_ext hz).set _⟩
  rw [heap_setCell_same _ _ 0 _ _ (.slice a' k' c') HZ.out]; rfl
set_option maxHeartbeats 2000000 in
theorem wtext_any (t : ByteArray) (h : WI p w s) (hs : s.1.length ≤ 1000000) : Calls Try.prog 45 #[.pointer (some ⟨p, 0, none⟩), .string t] w fun e w' => e = .returned (.tuple #[]) ∧ WI p w' (sT s t) ∧ KeepR p w w' := by
  obtain ⟨v, hb, ho⟩ := h
  obtain ⟨c0, f0⟩ := blkG hb 0 v rfl
  obtain ⟨c1, f1⟩ := blkG hb 1 (.bool s.2) rfl
  have hlt := blk_lt hb
  by_cases ht : 64 < t.size
  · have hi : (64 : Int) < (t.size : Int) := by omega
    have e : sT s t = (s.1, true) := by unfold sT; rw [if_neg (by omega)]
    rw [e]
    have HO := Lib.hid ho
    have HB := Lib.hid hb
    clear e ho hb
    go_enter Try.func45, Try.ntmps45
    go_wp2
    refine bodyPost_ret (results_none rfl _ _ _) rfl ?_
    refine ⟨rfl, ⟨v, ?_, own8_setO HO.out (Nat.lt_succ_self _)⟩, (KeepR.refl _ _).set _⟩
    rw [heap_setCell_same _ _ 1 _ _ (.bool true) HB.out]; rfl
  · have hi : ¬ (64 : Int) < (t.size : Int) := by omega
    have e : sT s t = (s.1 ++ textL t, s.2) := by unfold sT; rw [if_pos (by omega)]
    rw [e]
    have HN := Lib.hid (text_any v s.1 t w (Own8.rd ho) (by omega))
    have HB := Lib.hid hb
    clear hb ho hs e
    go_enter Try.func45, Try.ntmps45
    go_wp2_with (go_at_call 52; (refine HN.out.mono ?_); rintro e z ⟨v', rfl, ho, hz⟩; obtain ⟨a', k', c', rfl⟩ := own8_formW ho; have HO := Lib.hid ho; have HZ := Lib.hid (ext_blk hz HB.out); obtain ⟨c1, f1⟩ := blkG HZ.out 0 v rfl; clear ho)
    go_end0
    refine ⟨rfl, ⟨_, ?_, own8_base (own8_setO HO.out hlt) hlt⟩, (KeepR.of_ext hz).set _⟩
    rw [heap_setCell_same _ _ 0 _ _ (.slice a' k' c') HZ.out]; rfl
set_option maxHeartbeats 2000000 in
theorem wday_any (y m d : Int) (h : WI p w s) (hy : Z64 y) (hm : Z64 m) (hd : Z64 d) (hs : s.1.length ≤ 900000) : Calls Try.prog 46 #[.pointer (some ⟨p, 0, none⟩), .agg #[.int .i64 y, .int .i64 m, .int .i64 d]] w fun e w' => e = .returned (.tuple #[]) ∧ WI p w' (sD s y m d) ∧ KeepR p w w' := by
  have hlt := h.lt
  have hne : w.heap.size ≠ p := by omega
  have H0 := Lib.hid (h.ext ((Ext.refl w).alloc (.cells #[.int .i64 y, .int .i64 m, .int .i64 d] 26)))
  have B0 := Lib.hid (new_blk w (.cells #[.int .i64 y, .int .i64 m, .int .i64 d] 26))
  have K0 := Lib.hid (KeepR.of_ext (r := p) ((Ext.refl w).alloc (.cells #[.int .i64 y, .int .i64 m, .int .i64 d] 26)))
  have HY := Lib.hid hy
  have HM := Lib.hid hm
  have HD := Lib.hid hd
  have l1 := sN_le s y
  have l2 := sN_le (sN s y) m
  clear hy hm hd h
  go_enter Try.func46, Try.ntmps46
  go_wp2_with (first
    | (go_at_call 29; (with_reducible refine (wnum_any (s := sN (sN s y) m) d H2.out HD.out (by omega)).mono ?_); rintro e z3 ⟨rfl, hw3, hk3⟩; have H3 := Lib.hid hw3; have K3 := Lib.hid (K2.out.trans hk3))
    | (go_at_call 29; (with_reducible refine (wnum_any (s := sN s y) m H1.out HM.out (by omega)).mono ?_); rintro e z2 ⟨rfl, hw2, hk2⟩; have H2 := Lib.hid hw2; have K2 := Lib.hid (K1.out.trans hk2); have B2 := Lib.hid (keep_blk hk2 B1.out hne); obtain ⟨c2, _⟩ := blkG B2.out 2 _ rfl; clear hw2 hk2)
    | (go_at_call 29; (with_reducible refine (wnum_any (s := s) y H0.out HY.out (by omega)).mono ?_); rintro e z1 ⟨rfl, hw1, hk1⟩; have H1 := Lib.hid hw1; have K1 := Lib.hid (K0.out.trans hk1); have B1 := Lib.hid (keep_blk hk1 B0.out hne); obtain ⟨c1, _⟩ := blkG B1.out 1 _ rfl; clear hw1 hk1))
  go_end0
  exact ⟨rfl, H3.out, K3.out⟩
set_option maxHeartbeats 4000000 in
theorem wlines_any (a : Option Addr) (n cap : Nat) (ls : List Ln) (hn : ls.length = n) (hl : SlS Ln.cells 4 w (.slice a n cap) ls) (hz : ∀ x ∈ ls, Z64 x.count ∧ Z64 x.price) (hp : ∀ ad, a = some ad → ad.block ≠ p) (h : WI p w s) (hs : s.1.length ≤ 900000) : Calls Try.prog 47 #[.pointer (some ⟨p, 0, none⟩), .slice a n cap] w fun e w' => e = .returned (.tuple #[]) ∧ WI p w' (sLs s ls) ∧ KeepR p w w' := by
  have hlt := h.lt
  by_cases hlen : 12 < n
  · have hi : (12 : Int) < (n : Int) := by omega
    have e : sLs s ls = (s.1, true) := by unfold sLs; rw [if_neg (by omega)]
    rw [e]
    obtain ⟨v, hb, ho⟩ := h
    obtain ⟨c1, f1⟩ := blkG hb 1 (.bool s.2) rfl
    have HO := Lib.hid ho
    have HB := Lib.hid hb
    clear e ho hb hl hz hp hn
    go_enter Try.func47, Try.ntmps47
    go_wp2
    refine bodyPost_ret (results_none rfl _ _ _) rfl ?_
    refine ⟨rfl, ⟨v, ?_, own8_setO HO.out (Nat.lt_succ_self _)⟩, (KeepR.refl _ _).set _⟩
    rw [heap_setCell_same _ _ 1 _ _ (.bool true) HB.out]; rfl
  · have hi : ¬ (12 : Int) < (n : Int) := by omega
    have e : sLs s ls = ls.foldl sLn (sN s n) := by unfold sLs; rw [if_pos (by omega), hn]
    rw [e]
    have HN := Lib.hid (wnum_any (n : Int) h ⟨by omega, by omega⟩ (by omega))
    have HL := Lib.hid hl
    have HZ := Lib.hid hz
    have HP := Lib.hid hp
    have HLEN := Lib.hid hn
    have l1 := sN_le s n
    clear h hl hz hp hn e
    go_enter Try.func47, Try.ntmps47
    go_wp2_with (go_at_call 29; (with_reducible refine HN.out.mono ?_); rintro e z ⟨rfl, hw1, hk1⟩; have H1 := Lib.hid hw1; clear hw1)
    go_loopw [18] (fun iv wr => ∃ k : Nat, k ≤ n ∧ iv = .int .i64 (k : Int) ∧ Hid (WI p wr ((ls.take k).foldl sLn (sN s n))) ∧ Hid (KeepR p w wr)) (fun iv _ => n - (intOf iv).toNat)
    case atStart => exact ⟨0, by omega, rfl, H1, Lib.hid hk1⟩
    case round =>
      obtain ⟨k, hk, rfl, HW, HK⟩ := hrel
      have hsz := HK.out.size
      by_cases hlt2 : k < n
      · have hki : (k : Int) < (n : Int) := by omega
        have hki0 : (0 : Int) ≤ (k : Int) := by omega
        have hkl : k < ls.length := by rw [HLEN.out]; exact hlt2
        have hL2 := HL.out
        obtain ⟨b1, o1, ha1, hb1, hc1⟩ := SlS.at_ Ln.len hL2 (by omega) (by decide)
        have hbp : b1 ≠ p := HP.out _ ha1
        subst ha1
        have dd := fun j hj => (World.cell?_of_block (w := w) (w' := wr) (a := ⟨b1, o1 + k * 4 + j, none⟩) (HK.out.block b1 hb1 hbp)).trans (hc1 k hkl j hj)
        obtain ⟨x, hx⟩ : ∃ x, ls[k] = x := ⟨_, rfl⟩
        have hZx := HZ.out ls[k] (List.getElem_mem hkl)
        have hstep : (ls.take (k + 1)).foldl sLn (sN s n) = sLn ((ls.take k).foldl sLn (sN s n)) x := by
          rw [← hx, List.take_succ_eq_append_getElem hkl, List.foldl_append]; rfl
        have hfl := fold_le (ls.take k) (sN s n)
        have htk : (ls.take k).length ≤ 12 := by rw [List.length_take]; omega
        have hfl2 : ((ls.take k).foldl sLn (sN s n)).1.length ≤ 950000 := by
          have : (ls.take k).length * 168 ≤ 12 * 168 := Nat.mul_le_mul_right _ htk
          omega
        rw [hx] at dd hZx
        obtain ⟨S, hS⟩ : ∃ S, (ls.take k).foldl sLn (sN s n) = S := ⟨_, rfl⟩
        rw [hS] at hstep hfl2 HW
        have HST := Lib.hid hstep
        obtain ⟨tx, ct, co, pr⟩ := x
        have d0 := dd 0 (by decide)
        have d1 := dd 1 (by decide)
        have d2 := dd 2 (by decide)
        have d3 := dd 3 (by decide)
        simp only [Ln.cells, Nat.add_zero] at d0 d1 d2 d3
        have D0 : wr.cell? ⟨b1, o1 + k * 4, none⟩ = some (.string tx) := d0
        have D1 : wr.cell? ⟨b1, o1 + k * 4 + 1, none⟩ = some (.string ct) := d1
        have D2 : wr.cell? ⟨b1, o1 + k * 4 + 2, none⟩ = some (.int .i64 co) := d2
        have D3 : wr.cell? ⟨b1, o1 + k * 4 + 3, none⟩ = some (.int .i64 pr) := d3
        have W0 := Lib.hid (HW.out.ext ((Ext.refl wr).alloc (.cells #[.string tx, .string ct, .int .i64 co, .int .i64 pr] 107)))
        have B0 := Lib.hid (new_blk wr (.cells #[.string tx, .string ct, .int .i64 co, .int .i64 pr] 107))
        have K0 := Lib.hid (HK.out.trans (KeepR.of_ext (r := p) ((Ext.refl wr).alloc (.cells #[.string tx, .string ct, .int .i64 co, .int .i64 pr] 107))))
        have hne : wr.heap.size ≠ p := by omega
        have m1 := sT_le S tx
        have m2 := sT_le (sT S tx) ct
        have m3 := sN_le (sT (sT S tx) ct) co
        have HZx := Lib.hid hZx
        clear hZx hx dd d0 d1 d2 d3 hstep hS hfl hL2 hc1
        go_wp2_with (first
          | (go_at_call 29; (with_reducible refine (wnum_any (s := sN (sT (sT S tx) ct) co) pr W3.out HZx.out.2 (by omega)).mono ?_); rintro e z4 ⟨rfl, hw4, hk4⟩; have W4 := Lib.hid hw4; have K4 := Lib.hid (K3.out.trans hk4))
          | (go_at_call 29; (with_reducible refine (wnum_any (s := sT (sT S tx) ct) co W2.out HZx.out.1 (by omega)).mono ?_); rintro e z3 ⟨rfl, hw3, hk3⟩; have W3 := Lib.hid hw3; have K3 := Lib.hid (K2.out.trans hk3); have B3 := Lib.hid (keep_blk hk3 B2.out hne); obtain ⟨c3, _⟩ := blkG B3.out 3 _ rfl; clear hw3 hk3)
          | (go_at_call 45; (with_reducible refine (wtext_any (s := sT S tx) ct W1.out (by omega)).mono ?_); rintro e z2 ⟨rfl, hw2, hk2⟩; have W2 := Lib.hid hw2; have K2 := Lib.hid (K1.out.trans hk2); have B2 := Lib.hid (keep_blk hk2 B1.out hne); obtain ⟨c2, _⟩ := blkG B2.out 2 _ rfl; clear hw2 hk2)
          | (go_at_call 45; (with_reducible refine (wtext_any (s := S) tx W0.out (by omega)).mono ?_); rintro e z1 ⟨rfl, hw1, hk1⟩; have W1 := Lib.hid hw1; have K1 := Lib.hid (K0.out.trans hk1); have B1 := Lib.hid (keep_blk hk1 B0.out hne); obtain ⟨c1, _⟩ := blkG B1.out 1 _ rfl; clear hw1 hk1))
        go_roundw
        case rel => exact ⟨k + 1, by omega, by simp, Lib.hid (by rw [HST.out]; exact W4.out), K4⟩
        case measure => simp [intOf]; omega
      · have hki : ¬ (k : Int) < (n : Int) := by omega
        obtain rfl : k = n := by omega
        go_wp2
        go_end0
        refine ⟨rfl, ?_, HK.out⟩
        have := HW.out
        rwa [List.take_of_length_le (by rw [HLEN.out]; exact Nat.le_refl _)] at this
end
end Go.Proofs.Ytochgmpcdmahkaa
