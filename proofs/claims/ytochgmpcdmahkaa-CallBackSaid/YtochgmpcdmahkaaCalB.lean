/- Texts as calls: Decode. (Written by genCalB.py.) -/
import Derived.Test.YtochgmpcdmahkaaCalA
import Derived.Test.YtochgmpcdmahkaaBlk
namespace Go.Proofs.Ytochgmpcdmahkaa
open Go.RowKit

/-- A text as bytes: new memory that reads as it. -/
theorem conv_b (w : World) (s : ByteArray) (hs : s.size ≤ maxLen) (G : Nat) (hG : w.heap.size = G) : ∃ cap wb, (convert 9 55 (.string s)).run Try.prog w = .ok (.slice (some ⟨G, 0, none⟩) s.size cap) wb ∧ Rd8 wb (.slice (some ⟨G, 0, none⟩) s.size cap) s.data.toList ∧ Ext w wb ∧ wb.heap.size = G + 1 := by
  subst hG
  refine ⟨_, _, Lib.run_convert_string_bytes w 9 55 5 s Try.underlying9 Try.underlying55 Try.underlying5, ?_, ?_, Lib.bytesWorld_size w _ s⟩
  · have hl : s.data.toList.length = s.size := bytesOf_len s
    rw [show Rd8 _ _ s.data.toList = SlR _ _ 1 _ s.data.toList.length (s.data.toList.map bcell) from rfl, hl]
    refine ⟨by simp [hl], hs, _, _, rfl, ?_⟩
    by_cases h0 : s.size = 0
    · exact .inl h0
    · refine .inr ⟨w.heap.size, 0, rfl, by rw [Lib.bytesWorld_size]; omega, fun j hj => ?_⟩
      have hj' : j < s.size := by omega
      rw [Nat.zero_add, Lib.bytesWorld_cell w _ s j hj']
      have : j < s.data.toList.length := by omega
      simp [bcell, List.getD, List.getElem?_eq_getElem this]
  · exact ⟨rfl, rfl, rfl, by rw [Lib.bytesWorld_size]; omega, fun k hk => Lib.bytesWorld_at_old w _ s k hk⟩
def dcS1 (bs : List UInt8) : Int × RS := rNum bs ⟨0, 0⟩
def dcS2 (bs : List UInt8) : Int × RS := rNum bs (dcS1 bs).2
def dcRest (bs : List UInt8) : List UInt8 := bs.drop (dcS2 bs).2.at_
def dcE (bs : List UInt8) : Int := if (dcS2 bs).2.err ≠ 0 then (dcS2 bs).2.err else cgE (dcRest bs)
theorem dec_ret (tm : Array Value) (W : World) (b : Nat) (v0 v1 v2 v3 v4 v5 v6 v7 v8 v9 v10 v11 v12 v13 v14 v15 v16 : Value) (er : Int) (ht : tm[2]? = some (.pointer (some ⟨b, 0, none⟩))) (h3 : tm[3]? = some (.int .i64 er)) (h : W.heap[b]? = some (.cells #[v0, v1, v2, v3, v4, v5, v6, v7, v8, v9, v10, v11, v12, v13, v14, v15, v16] 35 (0, 0))) :
    (results Try.f7 tm).run Try.prog W = .ok (.tuple #[.agg #[v0, v1, v2, v3, v4, v5, v6, v7, v8, v9, v10, v11, v12, v13, v14, v15, v16], .int .i64 er]) W := by
  obtain ⟨c0, _⟩ := blkG h 0 _ rfl
  obtain ⟨c1, _⟩ := blkG h 1 _ rfl
  obtain ⟨c2, _⟩ := blkG h 2 _ rfl
  obtain ⟨c3, _⟩ := blkG h 3 _ rfl
  obtain ⟨c4, _⟩ := blkG h 4 _ rfl
  obtain ⟨c5, _⟩ := blkG h 5 _ rfl
  obtain ⟨c6, _⟩ := blkG h 6 _ rfl
  obtain ⟨c7, _⟩ := blkG h 7 _ rfl
  obtain ⟨c8, _⟩ := blkG h 8 _ rfl
  obtain ⟨c9, _⟩ := blkG h 9 _ rfl
  obtain ⟨c10, _⟩ := blkG h 10 _ rfl
  obtain ⟨c11, _⟩ := blkG h 11 _ rfl
  obtain ⟨c12, _⟩ := blkG h 12 _ rfl
  obtain ⟨c13, _⟩ := blkG h 13 _ rfl
  obtain ⟨c14, _⟩ := blkG h 14 _ rfl
  obtain ⟨c15, _⟩ := blkG h 15 _ rfl
  obtain ⟨c16, _⟩ := blkG h 16 _ rfl
  simp [results, Try.results7, go_sem, ht, h3, c0, c1, c2, c3, c4, c5, c6, c7, c8, c9, c10, c11, c12, c13, c14, c15, c16]
set_option maxHeartbeats 4000000 in
set_option maxRecDepth 100000 in
theorem dec_err (s : ByteArray) (hs : s.size ≤ 140737488355328) (w : World) {n1 n2 : Int} {s1 s2 : RS} (e1 : rNum s.data.toList ⟨0, 0⟩ = (n1, s1)) (e2 : rNum s.data.toList s1 = (n2, s2)) (he : s2.err ≠ 0) : Calls Try.prog 7 #[.string s] w fun e w' => e = .returned (.tuple #[.agg #[.int .i64 0, .int .i64 0, .int .i64 0, .string ⟨#[]⟩, .int .i64 0, .string ⟨#[]⟩, .int .i64 0, .int .i64 0, .int .i64 0, .int .i64 0, .int .i64 0, .int .i64 0, .int .i64 0, .slice none 0 0, .string ⟨#[]⟩, .int .i64 0, .int .i64 0], .int .i64 s2.err]) ∧ Ext w w' := by
  obtain ⟨cap0, wb, hcv, hrb, hxb, hsb⟩ := conv_b (w.alloc (.cells #[.int .i64 0, .int .i64 0, .int .i64 0, .string ⟨#[]⟩, .int .i64 0, .string ⟨#[]⟩, .int .i64 0, .int .i64 0, .int .i64 0, .int .i64 0, .int .i64 0, .int .i64 0, .int .i64 0, .slice none 0 0, .string ⟨#[]⟩, .int .i64 0, .int .i64 0] 35)) s (by unfold maxLen; omega) (w.heap.size + 1) (by simp)
  have HRD := Lib.hid (read_new _ s.data.toList wb hrb (Nat.le_trans (Nat.le_of_eq (bytesOf_len s)) hs))
  have E1 := Lib.hid e1
  have E2 := Lib.hid e2
  have HXB := Lib.hid hxb
  have hsz : wb.heap.size = w.heap.size + 2 := hsb
  have hsw : w.heap.size < wb.heap.size := by omega
  have HB0 := Lib.hid (new_blk w (.cells #[.int .i64 0, .int .i64 0, .int .i64 0, .string ⟨#[]⟩, .int .i64 0, .string ⟨#[]⟩, .int .i64 0, .int .i64 0, .int .i64 0, .int .i64 0, .int .i64 0, .int .i64 0, .int .i64 0, .slice none 0 0, .string ⟨#[]⟩, .int .i64 0, .int .i64 0] 35))
  have hu17 := Try.underlying35
  have hu15 := Try.underlying33
  have hi17 : (Try.prog.info? 35).map (·.size) = some 17 := by kernel_rfl
  have hi15 : (Try.prog.info? 33).map (·.size) = some 15 := by kernel_rfl
  have HU17 := Lib.hid hu17
  have HU15 := Lib.hid hu15
  have HI17 := Lib.hid hi17
  have HI15 := Lib.hid hi15
  clear hrb hxb hsb hsz e1 e2 hu17 hu15 hi17 hi15
  have hee : (s2.err != 0) = true := by simp [he]
  clear he
  go_enter Try.func7, Try.ntmps7
  go_wp2_with (first
    | (refine wpList_store_blk (by rfl) 35 _ _ (by rfl) w.heap.size 0 #[.int .i64 0, .int .i64 0, .int .i64 0, .string ⟨#[]⟩, .int .i64 0, .string ⟨#[]⟩, .int .i64 0, .int .i64 0, .int .i64 0, .int .i64 0, .int .i64 0, .int .i64 0, .int .i64 0, .slice none 0 0, .string ⟨#[]⟩, .int .i64 0, .int .i64 0] (by rfl) (by rfl) ZA3.out 17 (by rfl) (by decide) HI17.out (by rfl) #[.int .i64 0, .int .i64 0, .int .i64 0, .string ⟨#[]⟩, .int .i64 0, .string ⟨#[]⟩, .int .i64 0, .int .i64 0, .int .i64 0, .int .i64 0, .int .i64 0, .int .i64 0, .int .i64 0, .slice none 0 0, .string ⟨#[]⟩, .int .i64 0, .int .i64 0] (by rfl) ?_; intro z hz hkz; have ZR := Lib.hid hz; have XR : Hid (Ext w z) := Lib.hid (Ext.keep XA3.out hkz (Nat.le_refl _)); clear hz hkz)
    | (go_at_call 18; (with_reducible refine (err_x H3.out).mono ?_); rintro e w' ⟨rfl, rfl⟩)
    | (go_at_call 17; (with_reducible refine (nx_x H2.out E2.out).mono ?_); rintro e y2 ⟨rfl, hr, hk⟩; have Px := keep_blk hk P2.out hpr; obtain ⟨p2, f2⟩ := blkG Px 1 (.int .i64 0) rfl; have P3 : Hid ((y2.setCell ⟨w1.heap.size, 1, none⟩ (.int .i64 n2)).heap[w1.heap.size]? = some (.cells #[.int .i64 n1, .int .i64 n2, .int .i64 0, .string ⟨#[]⟩, .int .i64 0, .string ⟨#[]⟩, .int .i64 0, .int .i64 0, .int .i64 0, .int .i64 0, .int .i64 0, .int .i64 0, .int .i64 0, .slice none 0 0, .string ⟨#[]⟩, .int .i64 0, .int .i64 0] 35 (0, 0))) := Lib.hid (heap_setCell_same _ _ 1 _ _ (.int .i64 n2) Px); have ZA3 := Lib.hid (set_blk (i := 1) (u := .int .i64 n2) (keep_blk hk ZA2.out hzr) hzp); have H3 := Lib.hid (hr.keep ((KeepR.refl w1.heap.size y2).set (o := 1) (.int .i64 n2)) (.inr (Nat.le_refl _))); have XA3 : Hid (Ext w (y2.setCell ⟨w1.heap.size, 1, none⟩ (.int .i64 n2))) := Lib.hid (Ext.setCell (Ext.keep XA2.out hk (Nat.le_of_lt hwr)) hzl _); clear hr hk Px)
    | (go_at_call 17; (with_reducible refine (nx_x H1.out E1.out).mono ?_); rintro e y1 ⟨rfl, hr, hk⟩; have Px := keep_blk hk P1.out hpr; obtain ⟨p1, f1⟩ := blkG Px 0 (.int .i64 0) rfl; have P2 : Hid ((y1.setCell ⟨w1.heap.size, 0, none⟩ (.int .i64 n1)).heap[w1.heap.size]? = some (.cells #[.int .i64 n1, .int .i64 0, .int .i64 0, .string ⟨#[]⟩, .int .i64 0, .string ⟨#[]⟩, .int .i64 0, .int .i64 0, .int .i64 0, .int .i64 0, .int .i64 0, .int .i64 0, .int .i64 0, .slice none 0 0, .string ⟨#[]⟩, .int .i64 0, .int .i64 0] 35 (0, 0))) := Lib.hid (heap_setCell_same _ _ 0 _ _ (.int .i64 n1) Px); have ZA2 := Lib.hid (set_blk (i := 0) (u := .int .i64 n1) (keep_blk hk ZA1.out hzr) hzp); have H2 := Lib.hid (hr.keep ((KeepR.refl w1.heap.size y1).set (o := 0) (.int .i64 n1)) (.inr (Nat.le_refl _))); have XA2 : Hid (Ext w (y1.setCell ⟨w1.heap.size, 0, none⟩ (.int .i64 n1))) := Lib.hid (Ext.setCell (Ext.keep XA1.out hk (Nat.le_of_lt hwr)) hzl _); clear hr hk Px)
    | (go_at_call 16; (with_reducible refine HRD.out.mono ?_); rintro e w1 ⟨r, rfl, hrd, hx⟩; have hT0 : RdX wb.heap.size w1.heap.size w1 r s.data.toList ⟨0, 0⟩ := hrd; have hwr : w.heap.size < r := Nat.lt_of_lt_of_le hsw hT0.r_in.1; have hrT : r < w1.heap.size := hT0.r_in.2.1; have Z1 := Lib.hid (ext_blk hx (ext_blk HXB.out HB0.out)); have X1 : Hid (Ext w w1) := Lib.hid (Ext.trans ((Ext.refl w).alloc _) (HXB.out.trans hx)); have H1 := Lib.hid (hT0.ext ((Ext.refl w1).alloc (.cells #[.int .i64 0, .int .i64 0, .int .i64 0, .string ⟨#[]⟩, .int .i64 0, .string ⟨#[]⟩, .int .i64 0, .int .i64 0, .int .i64 0, .int .i64 0, .int .i64 0, .int .i64 0, .int .i64 0, .slice none 0 0, .string ⟨#[]⟩, .int .i64 0, .int .i64 0] 35))); have P1 := Lib.hid (new_blk w1 (.cells #[.int .i64 0, .int .i64 0, .int .i64 0, .string ⟨#[]⟩, .int .i64 0, .string ⟨#[]⟩, .int .i64 0, .int .i64 0, .int .i64 0, .int .i64 0, .int .i64 0, .int .i64 0, .int .i64 0, .slice none 0 0, .string ⟨#[]⟩, .int .i64 0, .int .i64 0] 35)); have ZA1 := Lib.hid (alloc_blk (o' := (.cells #[.int .i64 0, .int .i64 0, .int .i64 0, .string ⟨#[]⟩, .int .i64 0, .string ⟨#[]⟩, .int .i64 0, .int .i64 0, .int .i64 0, .int .i64 0, .int .i64 0, .int .i64 0, .int .i64 0, .slice none 0 0, .string ⟨#[]⟩, .int .i64 0, .int .i64 0] 35)) Z1.out); have XA1 : Hid (Ext w (w1.alloc (.cells #[.int .i64 0, .int .i64 0, .int .i64 0, .string ⟨#[]⟩, .int .i64 0, .string ⟨#[]⟩, .int .i64 0, .int .i64 0, .int .i64 0, .int .i64 0, .int .i64 0, .int .i64 0, .int .i64 0, .slice none 0 0, .string ⟨#[]⟩, .int .i64 0, .int .i64 0] 35))) := Lib.hid (Ext.alloc X1.out _); have hpr : w1.heap.size ≠ r := Nat.ne_of_gt hrT; have hzr : w.heap.size ≠ r := Nat.ne_of_lt hwr; have hzp : w.heap.size ≠ w1.heap.size := Nat.ne_of_lt (Nat.lt_trans hwr hrT); have hzl : w.heap.size ≤ w1.heap.size := Nat.le_of_lt (Nat.lt_trans hwr hrT); clear hrd hx hT0))
  exact bodyPost_ret (v := .tuple #[.agg #[.int .i64 0, .int .i64 0, .int .i64 0, .string ⟨#[]⟩, .int .i64 0, .string ⟨#[]⟩, .int .i64 0, .int .i64 0, .int .i64 0, .int .i64 0, .int .i64 0, .int .i64 0, .int .i64 0, .slice none 0 0, .string ⟨#[]⟩, .int .i64 0, .int .i64 0], .int .i64 s2.err]) (dec_ret _ _ w.heap.size _ _ _ _ _ _ _ _ _ _ _ _ _ _ _ _ _ _ rfl rfl ZR.out) rfl ⟨rfl, XR.out⟩
set_option maxHeartbeats 4000000 in
set_option maxRecDepth 100000 in
theorem dec_bad (s : ByteArray) (hs : s.size ≤ 140737488355328) (w : World) {n1 n2 : Int} {s1 s2 : RS} (e1 : rNum s.data.toList ⟨0, 0⟩ = (n1, s1)) (e2 : rNum s.data.toList s1 = (n2, s2)) (he : s2.err = 0) (hat : s2.at_ ≤ s.size) (t2 : ByteArray) (hext : s.extract s2.at_ s.size = t2) (L2 : List UInt8) (hL2 : t2.data.toList = L2) (hLl : L2.length ≤ 140737488355328) (hE : cgE L2 ≠ 0) : Calls Try.prog 7 #[.string s] w fun e w' => e = .returned (.tuple #[.agg #[.int .i64 0, .int .i64 0, .int .i64 0, .string ⟨#[]⟩, .int .i64 0, .string ⟨#[]⟩, .int .i64 0, .int .i64 0, .int .i64 0, .int .i64 0, .int .i64 0, .int .i64 0, .int .i64 0, .slice none 0 0, .string ⟨#[]⟩, .int .i64 0, .int .i64 0], .int .i64 (cgE L2)]) ∧ Ext w w' := by
  have hg : ∀ (v : Value) (z : World) (hr : Rd8 z v L2), Calls Try.prog 19 #[v] z fun e w' => e = .returned (.tuple #[.agg #[.nilIface], .int .i64 (cgE L2)]) ∧ Ext z w' := fun v z hr => (cget_any hr hLl).mono (by
    rintro e w' (⟨_, h⟩ | ⟨h, _⟩)
    · exact h
    · exact absurd h hE)
  have hnn : (cgE L2 != 0) = true := by simp [hE]
  have HG := Lib.hid hg
  clear hg hE
  obtain ⟨cap0, wb, hcv, hrb, hxb, hsb⟩ := conv_b (w.alloc (.cells #[.int .i64 0, .int .i64 0, .int .i64 0, .string ⟨#[]⟩, .int .i64 0, .string ⟨#[]⟩, .int .i64 0, .int .i64 0, .int .i64 0, .int .i64 0, .int .i64 0, .int .i64 0, .int .i64 0, .slice none 0 0, .string ⟨#[]⟩, .int .i64 0, .int .i64 0] 35)) s (by unfold maxLen; omega) (w.heap.size + 1) (by simp)
  have HRD := Lib.hid (read_new _ s.data.toList wb hrb (Nat.le_trans (Nat.le_of_eq (bytesOf_len s)) hs))
  have E1 := Lib.hid e1
  have E2 := Lib.hid e2
  have HXB := Lib.hid hxb
  have hsz : wb.heap.size = w.heap.size + 2 := hsb
  have hsw : w.heap.size < wb.heap.size := by omega
  have HB0 := Lib.hid (new_blk w (.cells #[.int .i64 0, .int .i64 0, .int .i64 0, .string ⟨#[]⟩, .int .i64 0, .string ⟨#[]⟩, .int .i64 0, .int .i64 0, .int .i64 0, .int .i64 0, .int .i64 0, .int .i64 0, .int .i64 0, .slice none 0 0, .string ⟨#[]⟩, .int .i64 0, .int .i64 0] 35))
  have hu17 := Try.underlying35
  have hu15 := Try.underlying33
  have hi17 : (Try.prog.info? 35).map (·.size) = some 17 := by kernel_rfl
  have hi15 : (Try.prog.info? 33).map (·.size) = some 15 := by kernel_rfl
  have HU17 := Lib.hid hu17
  have HU15 := Lib.hid hu15
  have HI17 := Lib.hid hi17
  have HI15 := Lib.hid hi15
  clear hrb hxb hsb hsz e1 e2 hu17 hu15 hi17 hi15
  have hat0 : (0 : Int) ≤ (s2.at_ : Int) := by omega
  have hat1 : (s2.at_ : Int) ≤ (s.size : Int) := by omega
  have hee : (s2.err != 0) = false := by simp [he]
  have HT2 := Lib.hid hL2
  have HT2S : Hid (t2.size ≤ maxLen) := Lib.hid (by rw [← hext, ByteArray.size_extract]; unfold maxLen; omega)
  clear he hL2
  go_enter Try.func7, Try.ntmps7
  go_wp2_with (first
    | (refine wpList_store_blk (by rfl) 35 _ _ (by rfl) w.heap.size 0 #[.int .i64 0, .int .i64 0, .int .i64 0, .string ⟨#[]⟩, .int .i64 0, .string ⟨#[]⟩, .int .i64 0, .int .i64 0, .int .i64 0, .int .i64 0, .int .i64 0, .int .i64 0, .int .i64 0, .slice none 0 0, .string ⟨#[]⟩, .int .i64 0, .int .i64 0] (by rfl) (by rfl) ZA4.out 17 (by rfl) (by decide) HI17.out (by rfl) #[.int .i64 0, .int .i64 0, .int .i64 0, .string ⟨#[]⟩, .int .i64 0, .string ⟨#[]⟩, .int .i64 0, .int .i64 0, .int .i64 0, .int .i64 0, .int .i64 0, .int .i64 0, .int .i64 0, .slice none 0 0, .string ⟨#[]⟩, .int .i64 0, .int .i64 0] (by rfl) ?_; intro z hz hkz; have ZR := Lib.hid hz; have XR : Hid (Ext w z) := Lib.hid (Ext.keep XA4.out hkz (Nat.le_refl _)); clear hz hkz)
    | (go_at_call 19; (with_reducible refine (HG.out _ _ HRB2.out).mono ?_); rintro e x3 ⟨rfl, hx⟩; have ZA4 := Lib.hid (alloc_blk (o' := .cells #[.nilIface] 52) (ext_blk hx (ext_blk HXB2.out ZA3.out))); have XA4 : Hid (Ext w (x3.alloc (.cells #[.nilIface] 52))) := Lib.hid (Ext.alloc (XA3.out.trans (HXB2.out.trans hx)) _); clear hx)
    | (go_at_call 20; (with_reducible refine (at_x H3.out).mono ?_); rintro e w' ⟨rfl, rfl⟩; obtain ⟨cap2, wb2, hcv2, hrb2, hxb2, _⟩ := conv_b (y2.setCell ⟨w1.heap.size, 1, none⟩ (.int .i64 n2)) t2 HT2S.out y2.heap.size (by simp); rw [HT2.out] at hrb2; have HRB2 := Lib.hid hrb2; have HXB2 := Lib.hid hxb2; clear hrb2 hxb2)
    | (go_at_call 18; (with_reducible refine (err_x H3.out).mono ?_); rintro e w' ⟨rfl, rfl⟩)
    | (go_at_call 17; (with_reducible refine (nx_x H2.out E2.out).mono ?_); rintro e y2 ⟨rfl, hr, hk⟩; have Px := keep_blk hk P2.out hpr; obtain ⟨p2, f2⟩ := blkG Px 1 (.int .i64 0) rfl; have P3 : Hid ((y2.setCell ⟨w1.heap.size, 1, none⟩ (.int .i64 n2)).heap[w1.heap.size]? = some (.cells #[.int .i64 n1, .int .i64 n2, .int .i64 0, .string ⟨#[]⟩, .int .i64 0, .string ⟨#[]⟩, .int .i64 0, .int .i64 0, .int .i64 0, .int .i64 0, .int .i64 0, .int .i64 0, .int .i64 0, .slice none 0 0, .string ⟨#[]⟩, .int .i64 0, .int .i64 0] 35 (0, 0))) := Lib.hid (heap_setCell_same _ _ 1 _ _ (.int .i64 n2) Px); have ZA3 := Lib.hid (set_blk (i := 1) (u := .int .i64 n2) (keep_blk hk ZA2.out hzr) hzp); have H3 := Lib.hid (hr.keep ((KeepR.refl w1.heap.size y2).set (o := 1) (.int .i64 n2)) (.inr (Nat.le_refl _))); have XA3 : Hid (Ext w (y2.setCell ⟨w1.heap.size, 1, none⟩ (.int .i64 n2))) := Lib.hid (Ext.setCell (Ext.keep XA2.out hk (Nat.le_of_lt hwr)) hzl _); clear hr hk Px)
    | (go_at_call 17; (with_reducible refine (nx_x H1.out E1.out).mono ?_); rintro e y1 ⟨rfl, hr, hk⟩; have Px := keep_blk hk P1.out hpr; obtain ⟨p1, f1⟩ := blkG Px 0 (.int .i64 0) rfl; have P2 : Hid ((y1.setCell ⟨w1.heap.size, 0, none⟩ (.int .i64 n1)).heap[w1.heap.size]? = some (.cells #[.int .i64 n1, .int .i64 0, .int .i64 0, .string ⟨#[]⟩, .int .i64 0, .string ⟨#[]⟩, .int .i64 0, .int .i64 0, .int .i64 0, .int .i64 0, .int .i64 0, .int .i64 0, .int .i64 0, .slice none 0 0, .string ⟨#[]⟩, .int .i64 0, .int .i64 0] 35 (0, 0))) := Lib.hid (heap_setCell_same _ _ 0 _ _ (.int .i64 n1) Px); have ZA2 := Lib.hid (set_blk (i := 0) (u := .int .i64 n1) (keep_blk hk ZA1.out hzr) hzp); have H2 := Lib.hid (hr.keep ((KeepR.refl w1.heap.size y1).set (o := 0) (.int .i64 n1)) (.inr (Nat.le_refl _))); have XA2 : Hid (Ext w (y1.setCell ⟨w1.heap.size, 0, none⟩ (.int .i64 n1))) := Lib.hid (Ext.setCell (Ext.keep XA1.out hk (Nat.le_of_lt hwr)) hzl _); clear hr hk Px)
    | (go_at_call 16; (with_reducible refine HRD.out.mono ?_); rintro e w1 ⟨r, rfl, hrd, hx⟩; have hT0 : RdX wb.heap.size w1.heap.size w1 r s.data.toList ⟨0, 0⟩ := hrd; have hwr : w.heap.size < r := Nat.lt_of_lt_of_le hsw hT0.r_in.1; have hrT : r < w1.heap.size := hT0.r_in.2.1; have Z1 := Lib.hid (ext_blk hx (ext_blk HXB.out HB0.out)); have X1 : Hid (Ext w w1) := Lib.hid (Ext.trans ((Ext.refl w).alloc _) (HXB.out.trans hx)); have H1 := Lib.hid (hT0.ext ((Ext.refl w1).alloc (.cells #[.int .i64 0, .int .i64 0, .int .i64 0, .string ⟨#[]⟩, .int .i64 0, .string ⟨#[]⟩, .int .i64 0, .int .i64 0, .int .i64 0, .int .i64 0, .int .i64 0, .int .i64 0, .int .i64 0, .slice none 0 0, .string ⟨#[]⟩, .int .i64 0, .int .i64 0] 35))); have P1 := Lib.hid (new_blk w1 (.cells #[.int .i64 0, .int .i64 0, .int .i64 0, .string ⟨#[]⟩, .int .i64 0, .string ⟨#[]⟩, .int .i64 0, .int .i64 0, .int .i64 0, .int .i64 0, .int .i64 0, .int .i64 0, .int .i64 0, .slice none 0 0, .string ⟨#[]⟩, .int .i64 0, .int .i64 0] 35)); have ZA1 := Lib.hid (alloc_blk (o' := (.cells #[.int .i64 0, .int .i64 0, .int .i64 0, .string ⟨#[]⟩, .int .i64 0, .string ⟨#[]⟩, .int .i64 0, .int .i64 0, .int .i64 0, .int .i64 0, .int .i64 0, .int .i64 0, .int .i64 0, .slice none 0 0, .string ⟨#[]⟩, .int .i64 0, .int .i64 0] 35)) Z1.out); have XA1 : Hid (Ext w (w1.alloc (.cells #[.int .i64 0, .int .i64 0, .int .i64 0, .string ⟨#[]⟩, .int .i64 0, .string ⟨#[]⟩, .int .i64 0, .int .i64 0, .int .i64 0, .int .i64 0, .int .i64 0, .int .i64 0, .int .i64 0, .slice none 0 0, .string ⟨#[]⟩, .int .i64 0, .int .i64 0] 35))) := Lib.hid (Ext.alloc X1.out _); have hpr : w1.heap.size ≠ r := Nat.ne_of_gt hrT; have hzr : w.heap.size ≠ r := Nat.ne_of_lt hwr; have hzp : w.heap.size ≠ w1.heap.size := Nat.ne_of_lt (Nat.lt_trans hwr hrT); have hzl : w.heap.size ≤ w1.heap.size := Nat.le_of_lt (Nat.lt_trans hwr hrT); clear hrd hx hT0))
  exact bodyPost_ret (v := .tuple #[.agg #[.int .i64 0, .int .i64 0, .int .i64 0, .string ⟨#[]⟩, .int .i64 0, .string ⟨#[]⟩, .int .i64 0, .int .i64 0, .int .i64 0, .int .i64 0, .int .i64 0, .int .i64 0, .int .i64 0, .slice none 0 0, .string ⟨#[]⟩, .int .i64 0, .int .i64 0], .int .i64 (cgE L2)]) (dec_ret _ _ w.heap.size _ _ _ _ _ _ _ _ _ _ _ _ _ _ _ _ _ _ rfl rfl ZR.out) rfl ⟨rfl, XR.out⟩
set_option maxHeartbeats 4000000 in
set_option maxRecDepth 100000 in
theorem dec_good (s : ByteArray) (hs : s.size ≤ 140737488355328) (w : World) {n1 n2 : Int} {s1 s2 : RS} (e1 : rNum s.data.toList ⟨0, 0⟩ = (n1, s1)) (e2 : rNum s.data.toList s1 = (n2, s2)) (he : s2.err = 0) (hat : s2.at_ ≤ s.size) (t2 : ByteArray) (hext : s.extract s2.at_ s.size = t2) (L2 : List UInt8) (hL2 : t2.data.toList = L2) (hLl : L2.length ≤ 140737488355328) (hE : cgE L2 = 0) (c : Cm) (ls : List Ln) (n : Nat) (hc : (cgR L2).1 = c) (hls : (cgR L2).2.1 = ls) (hn : ls.length = n) : Calls Try.prog 7 #[.string s] w fun e w' => ∃ a' c', e = .returned (.tuple #[Cal.agg n1 n2 c (.slice a' n c'), .int .i64 0]) ∧ OwnS Ln.cells 4 107 w' w.heap.size (.slice a' n c') ls ∧ Ext w w' := by
  obtain ⟨k1, k2, k3, k4, k5, k6, k7, _⟩ := cgE_ok hE
  have hg : ∀ (v : Value) (z : World) (hr : Rd8 z v L2), Calls Try.prog 19 #[v] z fun e w' => ∃ t x, e = .returned (.tuple #[.agg #[.iface t x], .int .i64 0]) ∧ Held w' (.iface t x) c ls n ∧ Ext z w' := fun v z hr => (cget_any hr hLl).mono (by
    rintro e w' (⟨h, _⟩ | ⟨_, _, t, x, h1, h2, h3⟩)
    · exact absurd hE h
    · have h4 := h2.rd
      rw [hc, hls, hn] at h4
      exact ⟨t, x, h1, h4, h3⟩)
  rw [hc] at k1 k4
  have hf : ∀ (t : TypeId) (x : Value) (z : World) (hh : Held z (.iface t x) c ls n), Calls Try.prog 21 #[.agg #[.iface t x]] z fun e w' => ∃ a' c', e = .returned (.tuple #[c.agg (.slice a' n c'), .bool true]) ∧ OwnS Ln.cells 4 107 w' z.heap.size (.slice a' n c') ls ∧ Ext z w' := fun t x z hh => by
    have := flat_ok k1 hh
    rwa [k4] at this
  have HG := Lib.hid hg
  clear hg k1 k2 k3 k4 k5 k6 k7 hE hc hls hn
  obtain ⟨kd, ser, lim, cat, ry, rm, rd, bp, dy, dm, dd, ofs, ofn, ses⟩ := c
  simp only [Cm.agg] at hf
  have HF := Lib.hid hf
  clear hf
  unfold Cal.agg
  obtain ⟨cap0, wb, hcv, hrb, hxb, hsb⟩ := conv_b (w.alloc (.cells #[.int .i64 0, .int .i64 0, .int .i64 0, .string ⟨#[]⟩, .int .i64 0, .string ⟨#[]⟩, .int .i64 0, .int .i64 0, .int .i64 0, .int .i64 0, .int .i64 0, .int .i64 0, .int .i64 0, .slice none 0 0, .string ⟨#[]⟩, .int .i64 0, .int .i64 0] 35)) s (by unfold maxLen; omega) (w.heap.size + 1) (by simp)
  have HRD := Lib.hid (read_new _ s.data.toList wb hrb (Nat.le_trans (Nat.le_of_eq (bytesOf_len s)) hs))
  have E1 := Lib.hid e1
  have E2 := Lib.hid e2
  have HXB := Lib.hid hxb
  have hsz : wb.heap.size = w.heap.size + 2 := hsb
  have hsw : w.heap.size < wb.heap.size := by omega
  have HB0 := Lib.hid (new_blk w (.cells #[.int .i64 0, .int .i64 0, .int .i64 0, .string ⟨#[]⟩, .int .i64 0, .string ⟨#[]⟩, .int .i64 0, .int .i64 0, .int .i64 0, .int .i64 0, .int .i64 0, .int .i64 0, .int .i64 0, .slice none 0 0, .string ⟨#[]⟩, .int .i64 0, .int .i64 0] 35))
  have hu17 := Try.underlying35
  have hu15 := Try.underlying33
  have hi17 : (Try.prog.info? 35).map (·.size) = some 17 := by kernel_rfl
  have hi15 : (Try.prog.info? 33).map (·.size) = some 15 := by kernel_rfl
  have HU17 := Lib.hid hu17
  have HU15 := Lib.hid hu15
  have HI17 := Lib.hid hi17
  have HI15 := Lib.hid hi15
  clear hrb hxb hsb hsz e1 e2 hu17 hu15 hi17 hi15
  have hat0 : (0 : Int) ≤ (s2.at_ : Int) := by omega
  have hat1 : (s2.at_ : Int) ≤ (s.size : Int) := by omega
  have hee : (s2.err != 0) = false := by simp [he]
  have HT2 := Lib.hid hL2
  have HT2S : Hid (t2.size ≤ maxLen) := Lib.hid (by rw [← hext, ByteArray.size_extract]; unfold maxLen; omega)
  clear he hL2
  go_enter Try.func7, Try.ntmps7
  go_wp2_with (first
    | (refine wpList_store_blk (by rfl) 35 _ _ (by rfl) w.heap.size 0 #[.int .i64 n1, .int .i64 n2, .int .i64 kd, .string ser, .int .i64 lim, .string cat, .int .i64 ry, .int .i64 rm, .int .i64 rd, .int .i64 bp, .int .i64 dy, .int .i64 dm, .int .i64 dd, .slice a9 n c9, .string ofs, .int .i64 ofn, .int .i64 ses] (by rfl) (by rfl) Z6.out 17 (by rfl) (by decide) HI17.out (by rfl) #[.int .i64 n1, .int .i64 n2, .int .i64 kd, .string ser, .int .i64 lim, .string cat, .int .i64 ry, .int .i64 rm, .int .i64 rd, .int .i64 bp, .int .i64 dy, .int .i64 dm, .int .i64 dd, .slice a9 n c9, .string ofs, .int .i64 ofn, .int .i64 ses] (by rfl) ?_; intro z7 hz hkz; have ZR := Lib.hid hz; have XR : Hid (Ext w z7) := Lib.hid (Ext.keep X6.out hkz (Nat.le_refl _)); have O7 := Lib.hid (own_keepE O6.out fun a m c' he => hkz.block _ (own_blkE O6.out a m c' he).1 (Nat.ne_of_gt (Nat.lt_of_lt_of_le OB0 (own_blkE O6.out a m c' he).2))); clear hz hkz)
    | (refine wpList_load_blk (by rfl) 35 _ (by rfl) w1.heap.size 0 (by rfl) P6.out [.int .i64 n1, .int .i64 n2, .int .i64 kd, .string ser, .int .i64 lim, .string cat, .int .i64 ry, .int .i64 rm, .int .i64 rd, .int .i64 bp, .int .i64 dy, .int .i64 dm, .int .i64 dd, .slice a9 n c9, .string ofs, .int .i64 ofn, .int .i64 ses] 17 (by rfl) (by rfl) _ HU17.out (by rfl) HI17.out ?_)
    | (refine wpList_store_blk (by rfl) 33 _ _ (by rfl) w1.heap.size 2 #[.int .i64 kd, .string ser, .int .i64 lim, .string cat, .int .i64 ry, .int .i64 rm, .int .i64 rd, .int .i64 bp, .int .i64 dy, .int .i64 dm, .int .i64 dd, .slice a9 n c9, .string ofs, .int .i64 ofn, .int .i64 ses] (by rfl) (by rfl) P5.out 15 (by rfl) (by exact Nat.le_refl 17) HI15.out (by rfl) #[.int .i64 n1, .int .i64 n2, .int .i64 kd, .string ser, .int .i64 lim, .string cat, .int .i64 ry, .int .i64 rm, .int .i64 rd, .int .i64 bp, .int .i64 dy, .int .i64 dm, .int .i64 dd, .slice a9 n c9, .string ofs, .int .i64 ofn, .int .i64 ses] (by rfl) ?_; intro z6 hz hkz; have P6 := Lib.hid hz; have Z6 := Lib.hid (keep_blk hkz Z5.out hzp); have X6 : Hid (Ext w z6) := Lib.hid (Ext.keep X5.out hkz hzl); have O6 := Lib.hid (own_keepE O5.out fun a m c' he => hkz.block _ (own_blkE O5.out a m c' he).1 (Nat.ne_of_gt (Nat.lt_of_lt_of_le OB1 (own_blkE O5.out a m c' he).2))); clear hz hkz)
    | (refine wpList_load_blk (by rfl) 33 _ (by rfl) x4.heap.size 0 (by rfl) D5.out [.int .i64 kd, .string ser, .int .i64 lim, .string cat, .int .i64 ry, .int .i64 rm, .int .i64 rd, .int .i64 bp, .int .i64 dy, .int .i64 dm, .int .i64 dd, .slice a9 n c9, .string ofs, .int .i64 ofn, .int .i64 ses] 15 (by rfl) (by rfl) _ HU15.out (by rfl) HI15.out ?_)
    | (refine wpList_store_blk (by rfl) 33 _ _ (by rfl) x4.heap.size 0 #[.int .i64 kd, .string ser, .int .i64 lim, .string cat, .int .i64 ry, .int .i64 rm, .int .i64 rd, .int .i64 bp, .int .i64 dy, .int .i64 dm, .int .i64 dd, .slice a9 n c9, .string ofs, .int .i64 ofn, .int .i64 ses] (by rfl) (by rfl) D4.out 15 (by rfl) (by decide) HI15.out (by rfl) #[.int .i64 kd, .string ser, .int .i64 lim, .string cat, .int .i64 ry, .int .i64 rm, .int .i64 rd, .int .i64 bp, .int .i64 dy, .int .i64 dm, .int .i64 dd, .slice a9 n c9, .string ofs, .int .i64 ofn, .int .i64 ses] (by rfl) ?_; intro z5 hz hkz; have D5 := Lib.hid hz; have P5 := Lib.hid (keep_blk hkz P4.out pne); have Z5 := Lib.hid (keep_blk hkz Z4.out zne); have X5 : Hid (Ext w z5) := Lib.hid (Ext.keep X4.out hkz wle); have O5 := Lib.hid (own_keepE O4.out fun a m c' he => hkz.block _ (own_blkE O4.out a m c' he).1 (OL.out a m c' he)); clear hz hkz)
    | (go_at_call 21; (with_reducible refine (HF.out t y _ (HH.out.ext (Ext.alloc (Ext.refl _) _))).mono ?_); rintro e x4 ⟨a9, c9, rfl, ho, hx⟩; have Z4 := Lib.hid (alloc_blk (o' := (.cells #[.int .i64 0, .string ⟨#[]⟩, .int .i64 0, .string ⟨#[]⟩, .int .i64 0, .int .i64 0, .int .i64 0, .int .i64 0, .int .i64 0, .int .i64 0, .int .i64 0, .slice none 0 0, .string ⟨#[]⟩, .int .i64 0, .int .i64 0] 33)) (ext_blk hx (alloc_blk Z3x.out))); have P4 := Lib.hid (alloc_blk (o' := (.cells #[.int .i64 0, .string ⟨#[]⟩, .int .i64 0, .string ⟨#[]⟩, .int .i64 0, .int .i64 0, .int .i64 0, .int .i64 0, .int .i64 0, .int .i64 0, .int .i64 0, .slice none 0 0, .string ⟨#[]⟩, .int .i64 0, .int .i64 0] 33)) (ext_blk hx (alloc_blk P3x.out))); have D4 := Lib.hid (new_blk x4 (.cells #[.int .i64 0, .string ⟨#[]⟩, .int .i64 0, .string ⟨#[]⟩, .int .i64 0, .int .i64 0, .int .i64 0, .int .i64 0, .int .i64 0, .int .i64 0, .int .i64 0, .slice none 0 0, .string ⟨#[]⟩, .int .i64 0, .int .i64 0] 33)); have X4 : Hid (Ext w (x4.alloc (.cells #[.int .i64 0, .string ⟨#[]⟩, .int .i64 0, .string ⟨#[]⟩, .int .i64 0, .int .i64 0, .int .i64 0, .int .i64 0, .int .i64 0, .int .i64 0, .int .i64 0, .slice none 0 0, .string ⟨#[]⟩, .int .i64 0, .int .i64 0] 33))) := Lib.hid (Ext.alloc (X3x.out.trans (Ext.trans (Ext.alloc (Ext.refl _) _) hx)) _); have O4 := Lib.hid (OwnS.ext ho ((Ext.refl x4).alloc (.cells #[.int .i64 0, .string ⟨#[]⟩, .int .i64 0, .string ⟨#[]⟩, .int .i64 0, .int .i64 0, .int .i64 0, .int .i64 0, .int .i64 0, .int .i64 0, .int .i64 0, .slice none 0 0, .string ⟨#[]⟩, .int .i64 0, .int .i64 0] 33))); have ol := fun a m c' he => Nat.ne_of_lt (own_blkE ho a m c' he).1; have OL := Lib.hid ol; have pne : w1.heap.size ≠ x4.heap.size := Nat.ne_of_lt (blk_lt (ext_blk hx (alloc_blk P3x.out))); have zne : w.heap.size ≠ x4.heap.size := Nat.ne_of_lt (blk_lt (ext_blk hx (alloc_blk Z3x.out))); have wle : w.heap.size ≤ x4.heap.size := Nat.le_of_lt (blk_lt (ext_blk hx (alloc_blk Z3x.out))); have OB1 : w1.heap.size < (x3.alloc (.cells #[.iface t y] 52)).heap.size := (by have := blk_lt P3x.out; simp; omega); have OB0 : w.heap.size < (x3.alloc (.cells #[.iface t y] 52)).heap.size := (by have := blk_lt Z3x.out; simp; omega); clear ho hx ol st2)
    | (go_at_call 19; (with_reducible refine (HG.out _ _ HRB2.out).mono ?_); rintro e x3 ⟨t, y, rfl, hh, hx⟩; have HH := Lib.hid hh; have Z3x := Lib.hid (ext_blk hx (ext_blk HXB2.out ZA3.out)); have P3x := Lib.hid (ext_blk hx (ext_blk HXB2.out P3.out)); have X3x := Lib.hid (XA3.out.trans (HXB2.out.trans hx)); have st2 := store_new (x := x3) (t := t) (y := y) (T := 52); clear hh hx)
    | (go_at_call 20; (with_reducible refine (at_x H3.out).mono ?_); rintro e w' ⟨rfl, rfl⟩; obtain ⟨cap2, wb2, hcv2, hrb2, hxb2, _⟩ := conv_b (y2.setCell ⟨w1.heap.size, 1, none⟩ (.int .i64 n2)) t2 HT2S.out y2.heap.size (by simp); rw [HT2.out] at hrb2; have HRB2 := Lib.hid hrb2; have HXB2 := Lib.hid hxb2; clear hrb2 hxb2)
    | (go_at_call 18; (with_reducible refine (err_x H3.out).mono ?_); rintro e w' ⟨rfl, rfl⟩)
    | (go_at_call 17; (with_reducible refine (nx_x H2.out E2.out).mono ?_); rintro e y2 ⟨rfl, hr, hk⟩; have Px := keep_blk hk P2.out hpr; obtain ⟨p2, f2⟩ := blkG Px 1 (.int .i64 0) rfl; have P3 : Hid ((y2.setCell ⟨w1.heap.size, 1, none⟩ (.int .i64 n2)).heap[w1.heap.size]? = some (.cells #[.int .i64 n1, .int .i64 n2, .int .i64 0, .string ⟨#[]⟩, .int .i64 0, .string ⟨#[]⟩, .int .i64 0, .int .i64 0, .int .i64 0, .int .i64 0, .int .i64 0, .int .i64 0, .int .i64 0, .slice none 0 0, .string ⟨#[]⟩, .int .i64 0, .int .i64 0] 35 (0, 0))) := Lib.hid (heap_setCell_same _ _ 1 _ _ (.int .i64 n2) Px); have ZA3 := Lib.hid (set_blk (i := 1) (u := .int .i64 n2) (keep_blk hk ZA2.out hzr) hzp); have H3 := Lib.hid (hr.keep ((KeepR.refl w1.heap.size y2).set (o := 1) (.int .i64 n2)) (.inr (Nat.le_refl _))); have XA3 : Hid (Ext w (y2.setCell ⟨w1.heap.size, 1, none⟩ (.int .i64 n2))) := Lib.hid (Ext.setCell (Ext.keep XA2.out hk (Nat.le_of_lt hwr)) hzl _); clear hr hk Px)
    | (go_at_call 17; (with_reducible refine (nx_x H1.out E1.out).mono ?_); rintro e y1 ⟨rfl, hr, hk⟩; have Px := keep_blk hk P1.out hpr; obtain ⟨p1, f1⟩ := blkG Px 0 (.int .i64 0) rfl; have P2 : Hid ((y1.setCell ⟨w1.heap.size, 0, none⟩ (.int .i64 n1)).heap[w1.heap.size]? = some (.cells #[.int .i64 n1, .int .i64 0, .int .i64 0, .string ⟨#[]⟩, .int .i64 0, .string ⟨#[]⟩, .int .i64 0, .int .i64 0, .int .i64 0, .int .i64 0, .int .i64 0, .int .i64 0, .int .i64 0, .slice none 0 0, .string ⟨#[]⟩, .int .i64 0, .int .i64 0] 35 (0, 0))) := Lib.hid (heap_setCell_same _ _ 0 _ _ (.int .i64 n1) Px); have ZA2 := Lib.hid (set_blk (i := 0) (u := .int .i64 n1) (keep_blk hk ZA1.out hzr) hzp); have H2 := Lib.hid (hr.keep ((KeepR.refl w1.heap.size y1).set (o := 0) (.int .i64 n1)) (.inr (Nat.le_refl _))); have XA2 : Hid (Ext w (y1.setCell ⟨w1.heap.size, 0, none⟩ (.int .i64 n1))) := Lib.hid (Ext.setCell (Ext.keep XA1.out hk (Nat.le_of_lt hwr)) hzl _); clear hr hk Px)
    | (go_at_call 16; (with_reducible refine HRD.out.mono ?_); rintro e w1 ⟨r, rfl, hrd, hx⟩; have hT0 : RdX wb.heap.size w1.heap.size w1 r s.data.toList ⟨0, 0⟩ := hrd; have hwr : w.heap.size < r := Nat.lt_of_lt_of_le hsw hT0.r_in.1; have hrT : r < w1.heap.size := hT0.r_in.2.1; have Z1 := Lib.hid (ext_blk hx (ext_blk HXB.out HB0.out)); have X1 : Hid (Ext w w1) := Lib.hid (Ext.trans ((Ext.refl w).alloc _) (HXB.out.trans hx)); have H1 := Lib.hid (hT0.ext ((Ext.refl w1).alloc (.cells #[.int .i64 0, .int .i64 0, .int .i64 0, .string ⟨#[]⟩, .int .i64 0, .string ⟨#[]⟩, .int .i64 0, .int .i64 0, .int .i64 0, .int .i64 0, .int .i64 0, .int .i64 0, .int .i64 0, .slice none 0 0, .string ⟨#[]⟩, .int .i64 0, .int .i64 0] 35))); have P1 := Lib.hid (new_blk w1 (.cells #[.int .i64 0, .int .i64 0, .int .i64 0, .string ⟨#[]⟩, .int .i64 0, .string ⟨#[]⟩, .int .i64 0, .int .i64 0, .int .i64 0, .int .i64 0, .int .i64 0, .int .i64 0, .int .i64 0, .slice none 0 0, .string ⟨#[]⟩, .int .i64 0, .int .i64 0] 35)); have ZA1 := Lib.hid (alloc_blk (o' := (.cells #[.int .i64 0, .int .i64 0, .int .i64 0, .string ⟨#[]⟩, .int .i64 0, .string ⟨#[]⟩, .int .i64 0, .int .i64 0, .int .i64 0, .int .i64 0, .int .i64 0, .int .i64 0, .int .i64 0, .slice none 0 0, .string ⟨#[]⟩, .int .i64 0, .int .i64 0] 35)) Z1.out); have XA1 : Hid (Ext w (w1.alloc (.cells #[.int .i64 0, .int .i64 0, .int .i64 0, .string ⟨#[]⟩, .int .i64 0, .string ⟨#[]⟩, .int .i64 0, .int .i64 0, .int .i64 0, .int .i64 0, .int .i64 0, .int .i64 0, .int .i64 0, .slice none 0 0, .string ⟨#[]⟩, .int .i64 0, .int .i64 0] 35))) := Lib.hid (Ext.alloc X1.out _); have hpr : w1.heap.size ≠ r := Nat.ne_of_gt hrT; have hzr : w.heap.size ≠ r := Nat.ne_of_lt hwr; have hzp : w.heap.size ≠ w1.heap.size := Nat.ne_of_lt (Nat.lt_trans hwr hrT); have hzl : w.heap.size ≤ w1.heap.size := Nat.le_of_lt (Nat.lt_trans hwr hrT); clear hrd hx hT0))
  refine bodyPost_ret (v := .tuple #[.agg #[.int .i64 n1, .int .i64 n2, .int .i64 kd, .string ser, .int .i64 lim, .string cat, .int .i64 ry, .int .i64 rm, .int .i64 rd, .int .i64 bp, .int .i64 dy, .int .i64 dm, .int .i64 dd, .slice a9 n c9, .string ofs, .int .i64 ofn, .int .i64 ses], .int .i64 0]) (dec_ret _ _ w.heap.size _ _ _ _ _ _ _ _ _ _ _ _ _ _ _ _ _ _ rfl rfl ZR.out) rfl ⟨a9, c9, rfl, OwnS.base O7.out (Nat.le_of_lt OB0), XR.out⟩
end Go.Proofs.Ytochgmpcdmahkaa
