/- The law CallBack: a part of the walk. (Written by genCalD.py.) -/
import Derived.Test.YtochgmpcdmahkaaCalBack
namespace Go.Proofs.Ytochgmpcdmahkaa
open Go.RowKit
section

set_option maxHeartbeats 8000000 in
set_option maxRecDepth 100000 in
theorem cback_001 (s q : Int) (zs : Z64 s) (zq : Z64 q) (c : Cm) (a : Option Addr) (n cap : Nat) (ls : List Ln) (hn : ls.length = n) (hc : n ≤ cap) (hin : c.In) (hz : LnIn ls) (t : ByteArray) (ht : t.size ≤ 140737488355328) (cut : Int) (w : World) (hl : SlS Ln.cells 4 w (.slice a n cap) ls) (h20 : n ≤ 20) (hE : dcE t.data.toList = 0) (hQ : putE c ls ≠ 0) : Calls Try.prog 5 #[Cal.agg s q c (.slice a n cap), .string t, .int .i64 cut] w fun e w' => e = .returned (.bool true) ∧ Ext w w' := by
  have hg : ¬ (20 : Int) < (n : Int) := by omega
  have HD := Lib.hid fun (z : World) => (dec_any t ht z).mono (R' := fun e w' => ∃ a' c', e = .returned (.tuple #[Cal.agg (dcS1 t.data.toList).1 (dcS2 t.data.toList).1 (cgR (dcRest t.data.toList)).1 (.slice a' (cgR (dcRest t.data.toList)).2.1.length c'), .int .i64 0]) ∧ SlS Ln.cells 4 w' (.slice a' (cgR (dcRest t.data.toList)).2.1.length c') (cgR (dcRest t.data.toList)).2.1 ∧ Ext z w') (by
    rintro e w' (⟨h, _⟩ | ⟨_, a', c', h1, h2, h3⟩)
    · exact absurd hE h
    · exact ⟨a', c', h1, h2.rd, h3⟩)
  have HE2 := Lib.hid fun (a : Option Addr) (cap : Nat) (z : World) hl => enc_read hE a cap z hl
  clear hE
  generalize (cgR (dcRest t.data.toList)).1 = ed at *
  generalize (cgR (dcRest t.data.toList)).2.1 = el at *
  generalize (dcS1 t.data.toList).1 = n1 at *
  generalize (dcS2 t.data.toList).1 = n2 at *
  generalize el.length = en at *
  obtain ⟨ekd, eser, elim, ecat, ery, erm, erd, ebp, edy, edm, edd, eofs, eofn, eses⟩ := ed
  have HE := Lib.hid fun (z : World) (h : SlS Ln.cells 4 z (.slice a n cap) ls) => enc_any s q zs zq c a n cap ls hn (by omega) hin hz z h
  have HL := Lib.hid hl
  generalize caT s q c ls = T at *
  generalize putE c ls = E at *
  have he0 : (E == 0) = false := by simp [hQ]
  clear hn hin hz hl zs zq hc h20 hQ
  obtain ⟨kd, ser, lim, cat, ry, rm, rd, bp, dy, dm, dd, ofs, ofn, ses⟩ := c
  simp only [Cal.agg] at HE HE2 HD ⊢
  have hu17 := Try.underlying35
  have hu15 := Try.underlying33
  have hi17 : (Try.prog.info? 35).map (·.size) = some 17 := by kernel_rfl
  have hi15 : (Try.prog.info? 33).map (·.size) = some 15 := by kernel_rfl
  have HU17 := Lib.hid hu17
  have HU15 := Lib.hid hu15
  have HI17 := Lib.hid hi17
  have HI15 := Lib.hid hi15
  clear hu17 hu15 hi17 hi15
  go_enter Try.func5, Try.ntmps5
  go_wp2_with (first
    | (refine wpList_load_blk (by rfl) 35 _ (by rfl) (w.heap.size) 0 (by rfl) (new_blk w (.cells #[.int .i64 s, .int .i64 q, .int .i64 kd, .string ser, .int .i64 lim, .string cat, .int .i64 ry, .int .i64 rm, .int .i64 rd, .int .i64 bp, .int .i64 dy, .int .i64 dm, .int .i64 dd, .slice a n cap, .string ofs, .int .i64 ofn, .int .i64 ses] 35)) [.int .i64 s, .int .i64 q, .int .i64 kd, .string ser, .int .i64 lim, .string cat, .int .i64 ry, .int .i64 rm, .int .i64 rd, .int .i64 bp, .int .i64 dy, .int .i64 dm, .int .i64 dd, .slice a n cap, .string ofs, .int .i64 ofn, .int .i64 ses] 17 (by rfl) (by rfl) _ HU17.out (by rfl) HI17.out ?_))
  go_at_call 6
  refine (HE.out _ (HL.out.ext (Ext.alloc (Ext.refl _) _))).mono ?_
  rintro e x1 ⟨rfl, hx1⟩
  have T_x1 : Hid (Ext w x1) := Lib.hid (Ext.trans (Ext.alloc (Ext.refl _) _) hx1)
  have Dm_x1 := Lib.hid (ext_blk hx1 (new_blk w (.cells #[.int .i64 s, .int .i64 q, .int .i64 kd, .string ser, .int .i64 lim, .string cat, .int .i64 ry, .int .i64 rm, .int .i64 rd, .int .i64 bp, .int .i64 dy, .int .i64 dm, .int .i64 dd, .slice a n cap, .string ofs, .int .i64 ofn, .int .i64 ses] 35)))
  clear hx1
  as_aux_lemma =>
    go_wp2_with fail
    go_at_call 7
    refine (HD.out _).mono ?_
    rintro e x2 ⟨a5, c5, rfl, ho5, hx2⟩
    have T_x2 : Hid (Ext x1 x2) := Lib.hid (Ext.trans (Ext.refl _) hx2)
    have HO5 := Lib.hid ho5
    clear ho5
    clear hx2
    as_aux_lemma =>
      go_wp2_with (first
        | (refine wpList_load_blk (by rfl) 35 _ (by rfl) (x2.heap.size) 0 (by rfl) DD_z2.out [.int .i64 n1, .int .i64 n2, .int .i64 ekd, .string eser, .int .i64 elim, .string ecat, .int .i64 ery, .int .i64 erm, .int .i64 erd, .int .i64 ebp, .int .i64 edy, .int .i64 edm, .int .i64 edd, .slice a5 en c5, .string eofs, .int .i64 eofn, .int .i64 eses] 17 (by rfl) (by rfl) _ HU17.out (by rfl) HI17.out ?_)
        | (refine wpList_store_blk (by rfl) 35 _ _ (by rfl) (x2.heap.size) 0 #[.int .i64 n1, .int .i64 n2, .int .i64 ekd, .string eser, .int .i64 elim, .string ecat, .int .i64 ery, .int .i64 erm, .int .i64 erd, .int .i64 ebp, .int .i64 edy, .int .i64 edm, .int .i64 edd, .slice a5 en c5, .string eofs, .int .i64 eofn, .int .i64 eses] (by rfl) (by rfl) (new_blk x2 (.cells #[.int .i64 0, .int .i64 0, .int .i64 0, .string ⟨#[]⟩, .int .i64 0, .string ⟨#[]⟩, .int .i64 0, .int .i64 0, .int .i64 0, .int .i64 0, .int .i64 0, .int .i64 0, .int .i64 0, .slice none 0 0, .string ⟨#[]⟩, .int .i64 0, .int .i64 0] 35)) 17 (by rfl) (by exact Nat.le_refl 17) HI17.out (by rfl) #[.int .i64 n1, .int .i64 n2, .int .i64 ekd, .string eser, .int .i64 elim, .string ecat, .int .i64 ery, .int .i64 erm, .int .i64 erd, .int .i64 ebp, .int .i64 edy, .int .i64 edm, .int .i64 edd, .slice a5 en c5, .string eofs, .int .i64 eofn, .int .i64 eses] (by rfl) ?_; intro z2 hz hkz; have DD_z2 := Lib.hid hz; have T_z2 : Hid (Ext x2 z2) := Lib.hid (Ext.keep ((Ext.refl x2).alloc _) hkz (Nat.le_refl _)); clear hz hkz))
      go_at_call 6
      refine (HE2.out _ _ _ (HO5.out.ext T_z2.out)).mono ?_
      rintro e x3 ⟨rfl, hx3⟩
      have T_x3 : Hid (Ext z2 x3) := Lib.hid (Ext.trans (Ext.refl _) hx3)
      have DD_x3 := Lib.hid (ext_blk hx3 DD_z2.out)
      clear hx3
      as_aux_lemma =>
        go_wp2_with fail
        go_at_call 3
        refine (calruns_any _).mono ?_
        rintro e x4 ⟨rfl, hx4⟩
        have T_x4 : Hid (Ext x3 x4) := Lib.hid (Ext.trans (Ext.refl _) hx4)
        have DD_x4 := Lib.hid (ext_blk hx4 DD_x3.out)
        clear hx4
        as_aux_lemma =>
          go_wp2_with fail
          go_ret
          exact ⟨rfl, ((((T_x1.out.trans T_x2.out).trans T_z2.out).trans T_x3.out).trans T_x4.out)⟩
set_option maxHeartbeats 8000000 in
set_option maxRecDepth 100000 in
theorem cback_000 (s q : Int) (zs : Z64 s) (zq : Z64 q) (c : Cm) (a : Option Addr) (n cap : Nat) (ls : List Ln) (hn : ls.length = n) (hc : n ≤ cap) (hin : c.In) (hz : LnIn ls) (t : ByteArray) (ht : t.size ≤ 140737488355328) (cut : Int) (w : World) (hl : SlS Ln.cells 4 w (.slice a n cap) ls) (h20 : n ≤ 20) (hE : dcE t.data.toList ≠ 0) (hQ : putE c ls ≠ 0) : Calls Try.prog 5 #[Cal.agg s q c (.slice a n cap), .string t, .int .i64 cut] w fun e w' => e = .returned (.bool true) ∧ Ext w w' := by
  have hg : ¬ (20 : Int) < (n : Int) := by omega
  have HD := Lib.hid fun (z : World) => (dec_any t ht z).mono (R' := fun e w' => e = .returned (.tuple #[Cal.agg 0 0 Cm.z (.slice none 0 0), .int .i64 (dcE t.data.toList)]) ∧ Ext z w') (by
    rintro e w' (⟨_, h⟩ | ⟨h, _⟩)
    · exact h
    · exact absurd h hE)
  generalize dcE t.data.toList = E9 at *
  have he90 : (E9 != 0) = true := by simp [hE]
  clear hE
  have HE := Lib.hid fun (z : World) (h : SlS Ln.cells 4 z (.slice a n cap) ls) => enc_any s q zs zq c a n cap ls hn (by omega) hin hz z h
  have HL := Lib.hid hl
  generalize caT s q c ls = T at *
  generalize putE c ls = E at *
  have he0 : (E == 0) = false := by simp [hQ]
  clear hn hin hz hl zs zq hc h20 hQ
  obtain ⟨kd, ser, lim, cat, ry, rm, rd, bp, dy, dm, dd, ofs, ofn, ses⟩ := c
  simp only [Cal.agg, Cm.z] at HE HD ⊢
  have hu17 := Try.underlying35
  have hu15 := Try.underlying33
  have hi17 : (Try.prog.info? 35).map (·.size) = some 17 := by kernel_rfl
  have hi15 : (Try.prog.info? 33).map (·.size) = some 15 := by kernel_rfl
  have HU17 := Lib.hid hu17
  have HU15 := Lib.hid hu15
  have HI17 := Lib.hid hi17
  have HI15 := Lib.hid hi15
  clear hu17 hu15 hi17 hi15
  go_enter Try.func5, Try.ntmps5
  go_wp2_with (first
    | (refine wpList_load_blk (by rfl) 35 _ (by rfl) (w.heap.size) 0 (by rfl) (new_blk w (.cells #[.int .i64 s, .int .i64 q, .int .i64 kd, .string ser, .int .i64 lim, .string cat, .int .i64 ry, .int .i64 rm, .int .i64 rd, .int .i64 bp, .int .i64 dy, .int .i64 dm, .int .i64 dd, .slice a n cap, .string ofs, .int .i64 ofn, .int .i64 ses] 35)) [.int .i64 s, .int .i64 q, .int .i64 kd, .string ser, .int .i64 lim, .string cat, .int .i64 ry, .int .i64 rm, .int .i64 rd, .int .i64 bp, .int .i64 dy, .int .i64 dm, .int .i64 dd, .slice a n cap, .string ofs, .int .i64 ofn, .int .i64 ses] 17 (by rfl) (by rfl) _ HU17.out (by rfl) HI17.out ?_))
  go_at_call 6
  refine (HE.out _ (HL.out.ext (Ext.alloc (Ext.refl _) _))).mono ?_
  rintro e x1 ⟨rfl, hx1⟩
  have T_x1 : Hid (Ext w x1) := Lib.hid (Ext.trans (Ext.alloc (Ext.refl _) _) hx1)
  have Dm_x1 := Lib.hid (ext_blk hx1 (new_blk w (.cells #[.int .i64 s, .int .i64 q, .int .i64 kd, .string ser, .int .i64 lim, .string cat, .int .i64 ry, .int .i64 rm, .int .i64 rd, .int .i64 bp, .int .i64 dy, .int .i64 dm, .int .i64 dd, .slice a n cap, .string ofs, .int .i64 ofn, .int .i64 ses] 35)))
  clear hx1
  as_aux_lemma =>
    go_wp2_with fail
    go_at_call 7
    refine (HD.out _).mono ?_
    rintro e x2 ⟨rfl, hx2⟩
    have T_x2 : Hid (Ext x1 x2) := Lib.hid (Ext.trans (Ext.refl _) hx2)
    clear hx2
    as_aux_lemma =>
      go_wp2_with (first
        | (refine wpList_store_blk (by rfl) 35 _ _ (by rfl) (x2.heap.size) 0 #[.int .i64 0, .int .i64 0, .int .i64 0, .string ⟨#[]⟩, .int .i64 0, .string ⟨#[]⟩, .int .i64 0, .int .i64 0, .int .i64 0, .int .i64 0, .int .i64 0, .int .i64 0, .int .i64 0, .slice none 0 0, .string ⟨#[]⟩, .int .i64 0, .int .i64 0] (by rfl) (by rfl) (new_blk x2 (.cells #[.int .i64 0, .int .i64 0, .int .i64 0, .string ⟨#[]⟩, .int .i64 0, .string ⟨#[]⟩, .int .i64 0, .int .i64 0, .int .i64 0, .int .i64 0, .int .i64 0, .int .i64 0, .int .i64 0, .slice none 0 0, .string ⟨#[]⟩, .int .i64 0, .int .i64 0] 35)) 17 (by rfl) (by exact Nat.le_refl 17) HI17.out (by rfl) #[.int .i64 0, .int .i64 0, .int .i64 0, .string ⟨#[]⟩, .int .i64 0, .string ⟨#[]⟩, .int .i64 0, .int .i64 0, .int .i64 0, .int .i64 0, .int .i64 0, .int .i64 0, .int .i64 0, .slice none 0 0, .string ⟨#[]⟩, .int .i64 0, .int .i64 0] (by rfl) ?_; intro z2 hz hkz; have DD_z2 := Lib.hid hz; have T_z2 : Hid (Ext x2 z2) := Lib.hid (Ext.keep ((Ext.refl x2).alloc _) hkz (Nat.le_refl _)); clear hz hkz))
      go_at_call 3
      refine (calruns_any _).mono ?_
      rintro e x3 ⟨rfl, hx3⟩
      have T_x3 : Hid (Ext z2 x3) := Lib.hid (Ext.trans (Ext.refl _) hx3)
      have DD_x3 := Lib.hid (ext_blk hx3 DD_z2.out)
      clear hx3
      as_aux_lemma =>
        go_wp2_with fail
        go_ret
        exact ⟨rfl, (((T_x1.out.trans T_x2.out).trans T_z2.out).trans T_x3.out)⟩
end
section

set_option maxHeartbeats 8000000 in
set_option maxRecDepth 100000 in
theorem cback_011 (s q : Int) (zs : Z64 s) (zq : Z64 q) (c : Cm) (a : Option Addr) (n cap : Nat) (ls : List Ln) (hn : ls.length = n) (hc : n ≤ cap) (hin : c.In) (hz : LnIn ls) (t : ByteArray) (ht : t.size ≤ 140737488355328) (cut : Int) (w : World) (hl : SlS Ln.cells 4 w (.slice a n cap) ls) (h20 : n ≤ 20) (hE : dcE t.data.toList = 0) (hQ : putE c ls = 0) : Calls Try.prog 5 #[Cal.agg s q c (.slice a n cap), .string t, .int .i64 cut] w fun e w' => e = .returned (.bool true) ∧ Ext w w' := by
  have hg : ¬ (20 : Int) < (n : Int) := by omega
  have HD := Lib.hid fun (z : World) => (dec_any t ht z).mono (R' := fun e w' => ∃ a' c', e = .returned (.tuple #[Cal.agg (dcS1 t.data.toList).1 (dcS2 t.data.toList).1 (cgR (dcRest t.data.toList)).1 (.slice a' (cgR (dcRest t.data.toList)).2.1.length c'), .int .i64 0]) ∧ SlS Ln.cells 4 w' (.slice a' (cgR (dcRest t.data.toList)).2.1.length c') (cgR (dcRest t.data.toList)).2.1 ∧ Ext z w') (by
    rintro e w' (⟨h, _⟩ | ⟨_, a', c', h1, h2, h3⟩)
    · exact absurd hE h
    · exact ⟨a', c', h1, h2.rd, h3⟩)
  have HE2 := Lib.hid fun (a : Option Addr) (cap : Nat) (z : World) hl => enc_read hE a cap z hl
  clear hE
  generalize (cgR (dcRest t.data.toList)).1 = ed at *
  generalize (cgR (dcRest t.data.toList)).2.1 = el at *
  generalize (dcS1 t.data.toList).1 = n1 at *
  generalize (dcS2 t.data.toList).1 = n2 at *
  generalize el.length = en at *
  obtain ⟨ekd, eser, elim, ecat, ery, erm, erd, ebp, edy, edm, edd, eofs, eofn, eses⟩ := ed
  have HA := Lib.hid fun (z : World) => dec_back zs zq hin hz hQ z
  have HB := Lib.hid fun (z : World) (h : SlS Ln.cells 4 z (.slice a n cap) ls) => rbare_any c (putE_0 hQ).1 a n cap ls hn (by omega) z h
  have hcn := Cm.ls_len c hn
  rw [← hcn] at HB
  have hq30 : (c.ls ls).length ≤ 1000000 := by rw [hcn]; unfold Cm.n; split <;> omega
  have HSM := Lib.hid fun (a a' : Option Addr) (cap cap' : Nat) (z : World) (h1 : SlS Ln.cells 4 z (.slice a (c.ls ls).length cap) (c.ls ls)) (h2 : SlS Ln.cells 4 z (.slice a' (c.ls ls).length cap') (c.ls ls)) => calsame_true s q c.bare a a' _ cap cap' (c.ls ls) rfl hq30 z h1 h2
  have HC := Lib.hid fun (j : Nat) (hj : j < (caT s q c ls).size) (z : World) => dec_short zs zq hin hz hQ j hj z
  have hTb := caB_len (s := s) (q := q) hin hz hQ
  rw [← caT_size (s := s) (q := q) hQ] at hTb
  have HE := Lib.hid fun (z : World) (h : SlS Ln.cells 4 z (.slice a n cap) ls) => (by have := enc_any s q zs zq c a n cap ls hn (by omega) hin hz z h; rw [hQ] at this; exact this : Calls Try.prog 6 #[Cal.agg s q c (.slice a n cap)] z fun e w' => e = .returned (.tuple #[.string (caT s q c ls), .int .i64 0]) ∧ Ext z w')
  generalize caT s q c ls = T at *
  obtain ⟨hT0, hT1⟩ := hTb
  have hT2 : ¬ (1100 : Int) < (T.size : Int) := by omega
  have hT3 : ¬ (T.size : Int) < (3 : Int) := by omega
  generalize c.ls ls = cl at *
  generalize cl.length = dn at *
  generalize c.bare = d at *
  have HL := Lib.hid hl
  clear hn hin hz hl zs zq hc h20 hQ hcn hq30
  obtain ⟨dkd, dser, dlim, dcat, dry, drm, drd, dbp, ddy, ddm, ddd, dofs, dofn, dses⟩ := d
  obtain ⟨kd, ser, lim, cat, ry, rm, rd, bp, dy, dm, dd, ofs, ofn, ses⟩ := c
  simp only [Cal.agg, Cm.agg, Cm.z] at HE HA HB HSM HC HE2 HD ⊢
  have hu17 := Try.underlying35
  have hu15 := Try.underlying33
  have hi17 : (Try.prog.info? 35).map (·.size) = some 17 := by kernel_rfl
  have hi15 : (Try.prog.info? 33).map (·.size) = some 15 := by kernel_rfl
  have HU17 := Lib.hid hu17
  have HU15 := Lib.hid hu15
  have HI17 := Lib.hid hi17
  have HI15 := Lib.hid hi15
  clear hu17 hu15 hi17 hi15
  have hbu := fun (a4 : Option Addr) (c4 : Nat) => (by kernel_rfl : Try.prog.built 35 [(0, .int .i64 s), (1, .int .i64 q), (2, .agg #[.int .i64 dkd, .string dser, .int .i64 dlim, .string dcat, .int .i64 dry, .int .i64 drm, .int .i64 drd, .int .i64 dbp, .int .i64 ddy, .int .i64 ddm, .int .i64 ddd, .slice a4 dn c4, .string dofs, .int .i64 dofn, .int .i64 dses])] = some #[.int .i64 s, .int .i64 q, .int .i64 dkd, .string dser, .int .i64 dlim, .string dcat, .int .i64 dry, .int .i64 drm, .int .i64 drd, .int .i64 dbp, .int .i64 ddy, .int .i64 ddm, .int .i64 ddd, .slice a4 dn c4, .string dofs, .int .i64 dofn, .int .i64 dses])
  have HBU := Lib.hid hbu
  clear hbu
  go_enter Try.func5, Try.ntmps5
  go_wp2_with (first
    | (refine wpList_load_blk (by rfl) 35 _ (by rfl) (w.heap.size) 0 (by rfl) (new_blk w (.cells #[.int .i64 s, .int .i64 q, .int .i64 kd, .string ser, .int .i64 lim, .string cat, .int .i64 ry, .int .i64 rm, .int .i64 rd, .int .i64 bp, .int .i64 dy, .int .i64 dm, .int .i64 dd, .slice a n cap, .string ofs, .int .i64 ofn, .int .i64 ses] 35)) [.int .i64 s, .int .i64 q, .int .i64 kd, .string ser, .int .i64 lim, .string cat, .int .i64 ry, .int .i64 rm, .int .i64 rd, .int .i64 bp, .int .i64 dy, .int .i64 dm, .int .i64 dd, .slice a n cap, .string ofs, .int .i64 ofn, .int .i64 ses] 17 (by rfl) (by rfl) _ HU17.out (by rfl) HI17.out ?_))
  go_at_call 6
  refine (HE.out _ (HL.out.ext (Ext.alloc (Ext.refl _) _))).mono ?_
  rintro e x1 ⟨rfl, hx1⟩
  have T_x1 : Hid (Ext w x1) := Lib.hid (Ext.trans (Ext.alloc (Ext.refl _) _) hx1)
  have Dm_x1 := Lib.hid (ext_blk hx1 (new_blk w (.cells #[.int .i64 s, .int .i64 q, .int .i64 kd, .string ser, .int .i64 lim, .string cat, .int .i64 ry, .int .i64 rm, .int .i64 rd, .int .i64 bp, .int .i64 dy, .int .i64 dm, .int .i64 dd, .slice a n cap, .string ofs, .int .i64 ofn, .int .i64 ses] 35)))
  clear hx1
  as_aux_lemma =>
    go_wp2_with fail
    go_at_call 7
    refine (HA.out _).mono ?_
    rintro e x2 ⟨a3, c3, rfl, ho3, hx2⟩
    have T_x2 : Hid (Ext x1 x2) := Lib.hid (Ext.trans (Ext.refl _) hx2)
    have Dm_x2 := Lib.hid (ext_blk hx2 Dm_x1.out)
    have HO3 := Lib.hid ho3
    clear ho3
    clear hx2
    as_aux_lemma =>
      go_wp2_with (first
        | (refine wpList_load_blk (by rfl) 33 _ (by rfl) (w.heap.size) 2 (by rfl) Dm_z2.out [.int .i64 kd, .string ser, .int .i64 lim, .string cat, .int .i64 ry, .int .i64 rm, .int .i64 rd, .int .i64 bp, .int .i64 dy, .int .i64 dm, .int .i64 dd, .slice a n cap, .string ofs, .int .i64 ofn, .int .i64 ses] 15 (by rfl) (by rfl) _ HU15.out (by rfl) HI15.out ?_)
        | (refine wpList_store_blk (by rfl) 35 _ _ (by rfl) (x2.heap.size) 0 #[.int .i64 s, .int .i64 q, .int .i64 dkd, .string dser, .int .i64 dlim, .string dcat, .int .i64 dry, .int .i64 drm, .int .i64 drd, .int .i64 dbp, .int .i64 ddy, .int .i64 ddm, .int .i64 ddd, .slice a3 dn c3, .string dofs, .int .i64 dofn, .int .i64 dses] (by rfl) (by rfl) (new_blk x2 (.cells #[.int .i64 0, .int .i64 0, .int .i64 0, .string ⟨#[]⟩, .int .i64 0, .string ⟨#[]⟩, .int .i64 0, .int .i64 0, .int .i64 0, .int .i64 0, .int .i64 0, .int .i64 0, .int .i64 0, .slice none 0 0, .string ⟨#[]⟩, .int .i64 0, .int .i64 0] 35)) 17 (by rfl) (by exact Nat.le_refl 17) HI17.out (by rfl) #[.int .i64 s, .int .i64 q, .int .i64 dkd, .string dser, .int .i64 dlim, .string dcat, .int .i64 dry, .int .i64 drm, .int .i64 drd, .int .i64 dbp, .int .i64 ddy, .int .i64 ddm, .int .i64 ddd, .slice a3 dn c3, .string dofs, .int .i64 dofn, .int .i64 dses] (by rfl) ?_; intro z2 hz hkz; have Dd_z2 := Lib.hid hz; have T_z2 : Hid (Ext x2 z2) := Lib.hid (Ext.keep ((Ext.refl x2).alloc _) hkz (Nat.le_refl _)); have Dm_z2 := Lib.hid (keep_blk hkz (alloc_blk Dm_x2.out) (Nat.ne_of_lt (blk_lt Dm_x2.out))); clear hz hkz))
      go_at_call 11
      refine (HB.out _ (HL.out.ext ((T_x1.out.trans T_x2.out).trans T_z2.out))).mono ?_
      rintro e x3 ⟨a4, c4, rfl, ho4, hx3⟩
      have T_x3 : Hid (Ext z2 x3) := Lib.hid (Ext.trans (Ext.refl _) hx3)
      have Dm_x3 := Lib.hid (ext_blk hx3 Dm_z2.out)
      have Dd_x3 := Lib.hid (ext_blk hx3 Dd_z2.out)
      have HO4 := Lib.hid ho4
      clear ho4
      clear hx3
      as_aux_lemma =>
        go_wp2_with (first
          | (refine wpList_buildG (by rfl) 35 _ _ _ _ _ _ (by rfl) (.int .i64 s) (.int .i64 q) (.agg #[.int .i64 dkd, .string dser, .int .i64 dlim, .string dcat, .int .i64 dry, .int .i64 drm, .int .i64 drd, .int .i64 dbp, .int .i64 ddy, .int .i64 ddm, .int .i64 ddd, .slice a4 dn c4, .string dofs, .int .i64 dofn, .int .i64 dses]) (by rfl) (by rfl) (by rfl) #[.int .i64 s, .int .i64 q, .int .i64 dkd, .string dser, .int .i64 dlim, .string dcat, .int .i64 dry, .int .i64 drm, .int .i64 drd, .int .i64 dbp, .int .i64 ddy, .int .i64 ddm, .int .i64 ddd, .slice a4 dn c4, .string dofs, .int .i64 dofn, .int .i64 dses] (HBU.out _ _) ?_)
          | (refine wpList_load_blkG (by rfl) 33 _ (by rfl) (x3.heap.size) 0 (by rfl) Db_z3.out [.int .i64 dkd, .string dser, .int .i64 dlim, .string dcat, .int .i64 dry, .int .i64 drm, .int .i64 drd, .int .i64 dbp, .int .i64 ddy, .int .i64 ddm, .int .i64 ddd, .slice a4 dn c4, .string dofs, .int .i64 dofn, .int .i64 dses] 15 (by rfl) (by rfl) _ HU15.out (by rfl) HI15.out ?_)
          | (refine wpList_load_blkG (by rfl) 35 _ (by rfl) (x2.heap.size) 0 (by rfl) Dd_z3.out [.int .i64 s, .int .i64 q, .int .i64 dkd, .string dser, .int .i64 dlim, .string dcat, .int .i64 dry, .int .i64 drm, .int .i64 drd, .int .i64 dbp, .int .i64 ddy, .int .i64 ddm, .int .i64 ddd, .slice a3 dn c3, .string dofs, .int .i64 dofn, .int .i64 dses] 17 (by rfl) (by rfl) _ HU17.out (by rfl) HI17.out ?_)
          | (refine wpList_store_blk (by rfl) 33 _ _ (by rfl) (x3.heap.size) 0 #[.int .i64 dkd, .string dser, .int .i64 dlim, .string dcat, .int .i64 dry, .int .i64 drm, .int .i64 drd, .int .i64 dbp, .int .i64 ddy, .int .i64 ddm, .int .i64 ddd, .slice a4 dn c4, .string dofs, .int .i64 dofn, .int .i64 dses] (by rfl) (by rfl) (new_blk x3 (.cells #[.int .i64 0, .string ⟨#[]⟩, .int .i64 0, .string ⟨#[]⟩, .int .i64 0, .int .i64 0, .int .i64 0, .int .i64 0, .int .i64 0, .int .i64 0, .int .i64 0, .slice none 0 0, .string ⟨#[]⟩, .int .i64 0, .int .i64 0] 33)) 15 (by rfl) (by exact Nat.le_refl 15) HI15.out (by rfl) #[.int .i64 dkd, .string dser, .int .i64 dlim, .string dcat, .int .i64 dry, .int .i64 drm, .int .i64 drd, .int .i64 dbp, .int .i64 ddy, .int .i64 ddm, .int .i64 ddd, .slice a4 dn c4, .string dofs, .int .i64 dofn, .int .i64 dses] (by rfl) ?_; intro z3 hz hkz; have Db_z3 := Lib.hid hz; have T_z3 : Hid (Ext x3 z3) := Lib.hid (Ext.keep ((Ext.refl x3).alloc _) hkz (Nat.le_refl _)); have Dm_z3 := Lib.hid (keep_blk hkz (alloc_blk Dm_x3.out) (Nat.ne_of_lt (blk_lt Dm_x3.out))); have Dd_z3 := Lib.hid (keep_blk hkz (alloc_blk Dd_x3.out) (Nat.ne_of_lt (blk_lt Dd_x3.out))); obtain ⟨cm_z3_0, _⟩ := blkG Dm_z3.out 0 (.int .i64 s) rfl; obtain ⟨cm_z3_1, _⟩ := blkG Dm_z3.out 1 (.int .i64 q) rfl; clear hz hkz))
        go_at_call 10
        refine (HSM.out _ _ _ _ _ (HO3.out.ext ((T_z2.out.trans T_x3.out).trans T_z3.out)) (HO4.out.ext T_z3.out)).mono ?_
        rintro e x4 ⟨rfl, hx4⟩
        have T_x4 : Hid (Ext z3 x4) := Lib.hid (Ext.trans (Ext.refl _) hx4)
        have Dm_x4 := Lib.hid (ext_blk hx4 Dm_z3.out)
        have Dd_x4 := Lib.hid (ext_blk hx4 Dd_z3.out)
        have Db_x4 := Lib.hid (ext_blk hx4 Db_z3.out)
        clear hx4
        as_aux_lemma =>
          go_wp2_with fail
          go_at_call 12
          refine (within_k cut T.size (by omega) (by omega) _).mono ?_
          rintro e x5 ⟨j, rfl, hj, hx5⟩
          have T_x5 : Hid (Ext x4 x5) := Lib.hid (Ext.trans (Ext.refl _) hx5)
          have hj1 : ((j : Nat) : Int) ≤ (T.size : Int) := by omega
          clear hx5
          as_aux_lemma =>
            go_wp2_with fail
            go_at_call 7
            refine (HC.out j hj _).mono ?_
            rintro e x6 ⟨E7, rfl, he7, hx6⟩
            have T_x6 : Hid (Ext x5 x6) := Lib.hid (Ext.trans (Ext.refl _) hx6)
            have hf7 : (E7 == 0) = false := by simp [he7]
            clear hx6
            as_aux_lemma =>
              go_wp2_with fail
              go_at_call 7
              refine (HD.out _).mono ?_
              rintro e x7 ⟨a5, c5, rfl, ho5, hx7⟩
              have T_x7 : Hid (Ext x6 x7) := Lib.hid (Ext.trans (Ext.refl _) hx7)
              have HO5 := Lib.hid ho5
              clear ho5
              clear hx7
              as_aux_lemma =>
                go_wp2_with (first
                  | (refine wpList_load_blk (by rfl) 35 _ (by rfl) (x7.heap.size) 0 (by rfl) DD_z7.out [.int .i64 n1, .int .i64 n2, .int .i64 ekd, .string eser, .int .i64 elim, .string ecat, .int .i64 ery, .int .i64 erm, .int .i64 erd, .int .i64 ebp, .int .i64 edy, .int .i64 edm, .int .i64 edd, .slice a5 en c5, .string eofs, .int .i64 eofn, .int .i64 eses] 17 (by rfl) (by rfl) _ HU17.out (by rfl) HI17.out ?_)
                  | (refine wpList_store_blk (by rfl) 35 _ _ (by rfl) (x7.heap.size) 0 #[.int .i64 n1, .int .i64 n2, .int .i64 ekd, .string eser, .int .i64 elim, .string ecat, .int .i64 ery, .int .i64 erm, .int .i64 erd, .int .i64 ebp, .int .i64 edy, .int .i64 edm, .int .i64 edd, .slice a5 en c5, .string eofs, .int .i64 eofn, .int .i64 eses] (by rfl) (by rfl) (new_blk x7 (.cells #[.int .i64 0, .int .i64 0, .int .i64 0, .string ⟨#[]⟩, .int .i64 0, .string ⟨#[]⟩, .int .i64 0, .int .i64 0, .int .i64 0, .int .i64 0, .int .i64 0, .int .i64 0, .int .i64 0, .slice none 0 0, .string ⟨#[]⟩, .int .i64 0, .int .i64 0] 35)) 17 (by rfl) (by exact Nat.le_refl 17) HI17.out (by rfl) #[.int .i64 n1, .int .i64 n2, .int .i64 ekd, .string eser, .int .i64 elim, .string ecat, .int .i64 ery, .int .i64 erm, .int .i64 erd, .int .i64 ebp, .int .i64 edy, .int .i64 edm, .int .i64 edd, .slice a5 en c5, .string eofs, .int .i64 eofn, .int .i64 eses] (by rfl) ?_; intro z7 hz hkz; have DD_z7 := Lib.hid hz; have T_z7 : Hid (Ext x7 z7) := Lib.hid (Ext.keep ((Ext.refl x7).alloc _) hkz (Nat.le_refl _)); clear hz hkz))
                go_at_call 6
                refine (HE2.out _ _ _ (HO5.out.ext T_z7.out)).mono ?_
                rintro e x8 ⟨rfl, hx8⟩
                have T_x8 : Hid (Ext z7 x8) := Lib.hid (Ext.trans (Ext.refl _) hx8)
                have DD_x8 := Lib.hid (ext_blk hx8 DD_z7.out)
                clear hx8
                as_aux_lemma =>
                  go_wp2_with fail
                  go_at_call 3
                  refine (calruns_any _).mono ?_
                  rintro e x9 ⟨rfl, hx9⟩
                  have T_x9 : Hid (Ext x8 x9) := Lib.hid (Ext.trans (Ext.refl _) hx9)
                  have DD_x9 := Lib.hid (ext_blk hx9 DD_x8.out)
                  clear hx9
                  as_aux_lemma =>
                    go_wp2_with fail
                    go_ret
                    exact ⟨rfl, (((((((((((T_x1.out.trans T_x2.out).trans T_z2.out).trans T_x3.out).trans T_z3.out).trans T_x4.out).trans T_x5.out).trans T_x6.out).trans T_x7.out).trans T_z7.out).trans T_x8.out).trans T_x9.out)⟩
set_option maxHeartbeats 8000000 in
set_option maxRecDepth 100000 in
theorem cback_010 (s q : Int) (zs : Z64 s) (zq : Z64 q) (c : Cm) (a : Option Addr) (n cap : Nat) (ls : List Ln) (hn : ls.length = n) (hc : n ≤ cap) (hin : c.In) (hz : LnIn ls) (t : ByteArray) (ht : t.size ≤ 140737488355328) (cut : Int) (w : World) (hl : SlS Ln.cells 4 w (.slice a n cap) ls) (h20 : n ≤ 20) (hE : dcE t.data.toList ≠ 0) (hQ : putE c ls = 0) : Calls Try.prog 5 #[Cal.agg s q c (.slice a n cap), .string t, .int .i64 cut] w fun e w' => e = .returned (.bool true) ∧ Ext w w' := by
  have hg : ¬ (20 : Int) < (n : Int) := by omega
  have HD := Lib.hid fun (z : World) => (dec_any t ht z).mono (R' := fun e w' => e = .returned (.tuple #[Cal.agg 0 0 Cm.z (.slice none 0 0), .int .i64 (dcE t.data.toList)]) ∧ Ext z w') (by
    rintro e w' (⟨_, h⟩ | ⟨h, _⟩)
    · exact h
    · exact absurd h hE)
  generalize dcE t.data.toList = E9 at *
  have he90 : (E9 != 0) = true := by simp [hE]
  clear hE
  have HA := Lib.hid fun (z : World) => dec_back zs zq hin hz hQ z
  have HB := Lib.hid fun (z : World) (h : SlS Ln.cells 4 z (.slice a n cap) ls) => rbare_any c (putE_0 hQ).1 a n cap ls hn (by omega) z h
  have hcn := Cm.ls_len c hn
  rw [← hcn] at HB
  have hq30 : (c.ls ls).length ≤ 1000000 := by rw [hcn]; unfold Cm.n; split <;> omega
  have HSM := Lib.hid fun (a a' : Option Addr) (cap cap' : Nat) (z : World) (h1 : SlS Ln.cells 4 z (.slice a (c.ls ls).length cap) (c.ls ls)) (h2 : SlS Ln.cells 4 z (.slice a' (c.ls ls).length cap') (c.ls ls)) => calsame_true s q c.bare a a' _ cap cap' (c.ls ls) rfl hq30 z h1 h2
  have HC := Lib.hid fun (j : Nat) (hj : j < (caT s q c ls).size) (z : World) => dec_short zs zq hin hz hQ j hj z
  have hTb := caB_len (s := s) (q := q) hin hz hQ
  rw [← caT_size (s := s) (q := q) hQ] at hTb
  have HE := Lib.hid fun (z : World) (h : SlS Ln.cells 4 z (.slice a n cap) ls) => (by have := enc_any s q zs zq c a n cap ls hn (by omega) hin hz z h; rw [hQ] at this; exact this : Calls Try.prog 6 #[Cal.agg s q c (.slice a n cap)] z fun e w' => e = .returned (.tuple #[.string (caT s q c ls), .int .i64 0]) ∧ Ext z w')
  generalize caT s q c ls = T at *
  obtain ⟨hT0, hT1⟩ := hTb
  have hT2 : ¬ (1100 : Int) < (T.size : Int) := by omega
  have hT3 : ¬ (T.size : Int) < (3 : Int) := by omega
  generalize c.ls ls = cl at *
  generalize cl.length = dn at *
  generalize c.bare = d at *
  have HL := Lib.hid hl
  clear hn hin hz hl zs zq hc h20 hQ hcn hq30
  obtain ⟨dkd, dser, dlim, dcat, dry, drm, drd, dbp, ddy, ddm, ddd, dofs, dofn, dses⟩ := d
  obtain ⟨kd, ser, lim, cat, ry, rm, rd, bp, dy, dm, dd, ofs, ofn, ses⟩ := c
  simp only [Cal.agg, Cm.agg, Cm.z] at HE HA HB HSM HC HD ⊢
  have hu17 := Try.underlying35
  have hu15 := Try.underlying33
  have hi17 : (Try.prog.info? 35).map (·.size) = some 17 := by kernel_rfl
  have hi15 : (Try.prog.info? 33).map (·.size) = some 15 := by kernel_rfl
  have HU17 := Lib.hid hu17
  have HU15 := Lib.hid hu15
  have HI17 := Lib.hid hi17
  have HI15 := Lib.hid hi15
  clear hu17 hu15 hi17 hi15
  have hbu := fun (a4 : Option Addr) (c4 : Nat) => (by kernel_rfl : Try.prog.built 35 [(0, .int .i64 s), (1, .int .i64 q), (2, .agg #[.int .i64 dkd, .string dser, .int .i64 dlim, .string dcat, .int .i64 dry, .int .i64 drm, .int .i64 drd, .int .i64 dbp, .int .i64 ddy, .int .i64 ddm, .int .i64 ddd, .slice a4 dn c4, .string dofs, .int .i64 dofn, .int .i64 dses])] = some #[.int .i64 s, .int .i64 q, .int .i64 dkd, .string dser, .int .i64 dlim, .string dcat, .int .i64 dry, .int .i64 drm, .int .i64 drd, .int .i64 dbp, .int .i64 ddy, .int .i64 ddm, .int .i64 ddd, .slice a4 dn c4, .string dofs, .int .i64 dofn, .int .i64 dses])
  have HBU := Lib.hid hbu
  clear hbu
  go_enter Try.func5, Try.ntmps5
  go_wp2_with (first
    | (refine wpList_load_blk (by rfl) 35 _ (by rfl) (w.heap.size) 0 (by rfl) (new_blk w (.cells #[.int .i64 s, .int .i64 q, .int .i64 kd, .string ser, .int .i64 lim, .string cat, .int .i64 ry, .int .i64 rm, .int .i64 rd, .int .i64 bp, .int .i64 dy, .int .i64 dm, .int .i64 dd, .slice a n cap, .string ofs, .int .i64 ofn, .int .i64 ses] 35)) [.int .i64 s, .int .i64 q, .int .i64 kd, .string ser, .int .i64 lim, .string cat, .int .i64 ry, .int .i64 rm, .int .i64 rd, .int .i64 bp, .int .i64 dy, .int .i64 dm, .int .i64 dd, .slice a n cap, .string ofs, .int .i64 ofn, .int .i64 ses] 17 (by rfl) (by rfl) _ HU17.out (by rfl) HI17.out ?_))
  go_at_call 6
  refine (HE.out _ (HL.out.ext (Ext.alloc (Ext.refl _) _))).mono ?_
  rintro e x1 ⟨rfl, hx1⟩
  have T_x1 : Hid (Ext w x1) := Lib.hid (Ext.trans (Ext.alloc (Ext.refl _) _) hx1)
  have Dm_x1 := Lib.hid (ext_blk hx1 (new_blk w (.cells #[.int .i64 s, .int .i64 q, .int .i64 kd, .string ser, .int .i64 lim, .string cat, .int .i64 ry, .int .i64 rm, .int .i64 rd, .int .i64 bp, .int .i64 dy, .int .i64 dm, .int .i64 dd, .slice a n cap, .string ofs, .int .i64 ofn, .int .i64 ses] 35)))
  clear hx1
  as_aux_lemma =>
    go_wp2_with fail
    go_at_call 7
    refine (HA.out _).mono ?_
    rintro e x2 ⟨a3, c3, rfl, ho3, hx2⟩
    have T_x2 : Hid (Ext x1 x2) := Lib.hid (Ext.trans (Ext.refl _) hx2)
    have Dm_x2 := Lib.hid (ext_blk hx2 Dm_x1.out)
    have HO3 := Lib.hid ho3
    clear ho3
    clear hx2
    as_aux_lemma =>
      go_wp2_with (first
        | (refine wpList_load_blk (by rfl) 33 _ (by rfl) (w.heap.size) 2 (by rfl) Dm_z2.out [.int .i64 kd, .string ser, .int .i64 lim, .string cat, .int .i64 ry, .int .i64 rm, .int .i64 rd, .int .i64 bp, .int .i64 dy, .int .i64 dm, .int .i64 dd, .slice a n cap, .string ofs, .int .i64 ofn, .int .i64 ses] 15 (by rfl) (by rfl) _ HU15.out (by rfl) HI15.out ?_)
        | (refine wpList_store_blk (by rfl) 35 _ _ (by rfl) (x2.heap.size) 0 #[.int .i64 s, .int .i64 q, .int .i64 dkd, .string dser, .int .i64 dlim, .string dcat, .int .i64 dry, .int .i64 drm, .int .i64 drd, .int .i64 dbp, .int .i64 ddy, .int .i64 ddm, .int .i64 ddd, .slice a3 dn c3, .string dofs, .int .i64 dofn, .int .i64 dses] (by rfl) (by rfl) (new_blk x2 (.cells #[.int .i64 0, .int .i64 0, .int .i64 0, .string ⟨#[]⟩, .int .i64 0, .string ⟨#[]⟩, .int .i64 0, .int .i64 0, .int .i64 0, .int .i64 0, .int .i64 0, .int .i64 0, .int .i64 0, .slice none 0 0, .string ⟨#[]⟩, .int .i64 0, .int .i64 0] 35)) 17 (by rfl) (by exact Nat.le_refl 17) HI17.out (by rfl) #[.int .i64 s, .int .i64 q, .int .i64 dkd, .string dser, .int .i64 dlim, .string dcat, .int .i64 dry, .int .i64 drm, .int .i64 drd, .int .i64 dbp, .int .i64 ddy, .int .i64 ddm, .int .i64 ddd, .slice a3 dn c3, .string dofs, .int .i64 dofn, .int .i64 dses] (by rfl) ?_; intro z2 hz hkz; have Dd_z2 := Lib.hid hz; have T_z2 : Hid (Ext x2 z2) := Lib.hid (Ext.keep ((Ext.refl x2).alloc _) hkz (Nat.le_refl _)); have Dm_z2 := Lib.hid (keep_blk hkz (alloc_blk Dm_x2.out) (Nat.ne_of_lt (blk_lt Dm_x2.out))); clear hz hkz))
      go_at_call 11
      refine (HB.out _ (HL.out.ext ((T_x1.out.trans T_x2.out).trans T_z2.out))).mono ?_
      rintro e x3 ⟨a4, c4, rfl, ho4, hx3⟩
      have T_x3 : Hid (Ext z2 x3) := Lib.hid (Ext.trans (Ext.refl _) hx3)
      have Dm_x3 := Lib.hid (ext_blk hx3 Dm_z2.out)
      have Dd_x3 := Lib.hid (ext_blk hx3 Dd_z2.out)
      have HO4 := Lib.hid ho4
      clear ho4
      clear hx3
      as_aux_lemma =>
        go_wp2_with (first
          | (refine wpList_buildG (by rfl) 35 _ _ _ _ _ _ (by rfl) (.int .i64 s) (.int .i64 q) (.agg #[.int .i64 dkd, .string dser, .int .i64 dlim, .string dcat, .int .i64 dry, .int .i64 drm, .int .i64 drd, .int .i64 dbp, .int .i64 ddy, .int .i64 ddm, .int .i64 ddd, .slice a4 dn c4, .string dofs, .int .i64 dofn, .int .i64 dses]) (by rfl) (by rfl) (by rfl) #[.int .i64 s, .int .i64 q, .int .i64 dkd, .string dser, .int .i64 dlim, .string dcat, .int .i64 dry, .int .i64 drm, .int .i64 drd, .int .i64 dbp, .int .i64 ddy, .int .i64 ddm, .int .i64 ddd, .slice a4 dn c4, .string dofs, .int .i64 dofn, .int .i64 dses] (HBU.out _ _) ?_)
          | (refine wpList_load_blkG (by rfl) 33 _ (by rfl) (x3.heap.size) 0 (by rfl) Db_z3.out [.int .i64 dkd, .string dser, .int .i64 dlim, .string dcat, .int .i64 dry, .int .i64 drm, .int .i64 drd, .int .i64 dbp, .int .i64 ddy, .int .i64 ddm, .int .i64 ddd, .slice a4 dn c4, .string dofs, .int .i64 dofn, .int .i64 dses] 15 (by rfl) (by rfl) _ HU15.out (by rfl) HI15.out ?_)
          | (refine wpList_load_blkG (by rfl) 35 _ (by rfl) (x2.heap.size) 0 (by rfl) Dd_z3.out [.int .i64 s, .int .i64 q, .int .i64 dkd, .string dser, .int .i64 dlim, .string dcat, .int .i64 dry, .int .i64 drm, .int .i64 drd, .int .i64 dbp, .int .i64 ddy, .int .i64 ddm, .int .i64 ddd, .slice a3 dn c3, .string dofs, .int .i64 dofn, .int .i64 dses] 17 (by rfl) (by rfl) _ HU17.out (by rfl) HI17.out ?_)
          | (refine wpList_store_blk (by rfl) 33 _ _ (by rfl) (x3.heap.size) 0 #[.int .i64 dkd, .string dser, .int .i64 dlim, .string dcat, .int .i64 dry, .int .i64 drm, .int .i64 drd, .int .i64 dbp, .int .i64 ddy, .int .i64 ddm, .int .i64 ddd, .slice a4 dn c4, .string dofs, .int .i64 dofn, .int .i64 dses] (by rfl) (by rfl) (new_blk x3 (.cells #[.int .i64 0, .string ⟨#[]⟩, .int .i64 0, .string ⟨#[]⟩, .int .i64 0, .int .i64 0, .int .i64 0, .int .i64 0, .int .i64 0, .int .i64 0, .int .i64 0, .slice none 0 0, .string ⟨#[]⟩, .int .i64 0, .int .i64 0] 33)) 15 (by rfl) (by exact Nat.le_refl 15) HI15.out (by rfl) #[.int .i64 dkd, .string dser, .int .i64 dlim, .string dcat, .int .i64 dry, .int .i64 drm, .int .i64 drd, .int .i64 dbp, .int .i64 ddy, .int .i64 ddm, .int .i64 ddd, .slice a4 dn c4, .string dofs, .int .i64 dofn, .int .i64 dses] (by rfl) ?_; intro z3 hz hkz; have Db_z3 := Lib.hid hz; have T_z3 : Hid (Ext x3 z3) := Lib.hid (Ext.keep ((Ext.refl x3).alloc _) hkz (Nat.le_refl _)); have Dm_z3 := Lib.hid (keep_blk hkz (alloc_blk Dm_x3.out) (Nat.ne_of_lt (blk_lt Dm_x3.out))); have Dd_z3 := Lib.hid (keep_blk hkz (alloc_blk Dd_x3.out) (Nat.ne_of_lt (blk_lt Dd_x3.out))); obtain ⟨cm_z3_0, _⟩ := blkG Dm_z3.out 0 (.int .i64 s) rfl; obtain ⟨cm_z3_1, _⟩ := blkG Dm_z3.out 1 (.int .i64 q) rfl; clear hz hkz))
        go_at_call 10
        refine (HSM.out _ _ _ _ _ (HO3.out.ext ((T_z2.out.trans T_x3.out).trans T_z3.out)) (HO4.out.ext T_z3.out)).mono ?_
        rintro e x4 ⟨rfl, hx4⟩
        have T_x4 : Hid (Ext z3 x4) := Lib.hid (Ext.trans (Ext.refl _) hx4)
        have Dm_x4 := Lib.hid (ext_blk hx4 Dm_z3.out)
        have Dd_x4 := Lib.hid (ext_blk hx4 Dd_z3.out)
        have Db_x4 := Lib.hid (ext_blk hx4 Db_z3.out)
        clear hx4
        as_aux_lemma =>
          go_wp2_with fail
          go_at_call 12
          refine (within_k cut T.size (by omega) (by omega) _).mono ?_
          rintro e x5 ⟨j, rfl, hj, hx5⟩
          have T_x5 : Hid (Ext x4 x5) := Lib.hid (Ext.trans (Ext.refl _) hx5)
          have hj1 : ((j : Nat) : Int) ≤ (T.size : Int) := by omega
          clear hx5
          as_aux_lemma =>
            go_wp2_with fail
            go_at_call 7
            refine (HC.out j hj _).mono ?_
            rintro e x6 ⟨E7, rfl, he7, hx6⟩
            have T_x6 : Hid (Ext x5 x6) := Lib.hid (Ext.trans (Ext.refl _) hx6)
            have hf7 : (E7 == 0) = false := by simp [he7]
            clear hx6
            as_aux_lemma =>
              go_wp2_with fail
              go_at_call 7
              refine (HD.out _).mono ?_
              rintro e x7 ⟨rfl, hx7⟩
              have T_x7 : Hid (Ext x6 x7) := Lib.hid (Ext.trans (Ext.refl _) hx7)
              clear hx7
              as_aux_lemma =>
                go_wp2_with (first
                  | (refine wpList_store_blk (by rfl) 35 _ _ (by rfl) (x7.heap.size) 0 #[.int .i64 0, .int .i64 0, .int .i64 0, .string ⟨#[]⟩, .int .i64 0, .string ⟨#[]⟩, .int .i64 0, .int .i64 0, .int .i64 0, .int .i64 0, .int .i64 0, .int .i64 0, .int .i64 0, .slice none 0 0, .string ⟨#[]⟩, .int .i64 0, .int .i64 0] (by rfl) (by rfl) (new_blk x7 (.cells #[.int .i64 0, .int .i64 0, .int .i64 0, .string ⟨#[]⟩, .int .i64 0, .string ⟨#[]⟩, .int .i64 0, .int .i64 0, .int .i64 0, .int .i64 0, .int .i64 0, .int .i64 0, .int .i64 0, .slice none 0 0, .string ⟨#[]⟩, .int .i64 0, .int .i64 0] 35)) 17 (by rfl) (by exact Nat.le_refl 17) HI17.out (by rfl) #[.int .i64 0, .int .i64 0, .int .i64 0, .string ⟨#[]⟩, .int .i64 0, .string ⟨#[]⟩, .int .i64 0, .int .i64 0, .int .i64 0, .int .i64 0, .int .i64 0, .int .i64 0, .int .i64 0, .slice none 0 0, .string ⟨#[]⟩, .int .i64 0, .int .i64 0] (by rfl) ?_; intro z7 hz hkz; have DD_z7 := Lib.hid hz; have T_z7 : Hid (Ext x7 z7) := Lib.hid (Ext.keep ((Ext.refl x7).alloc _) hkz (Nat.le_refl _)); clear hz hkz))
                go_at_call 3
                refine (calruns_any _).mono ?_
                rintro e x8 ⟨rfl, hx8⟩
                have T_x8 : Hid (Ext z7 x8) := Lib.hid (Ext.trans (Ext.refl _) hx8)
                have DD_x8 := Lib.hid (ext_blk hx8 DD_z7.out)
                clear hx8
                as_aux_lemma =>
                  go_wp2_with fail
                  go_ret
                  exact ⟨rfl, ((((((((((T_x1.out.trans T_x2.out).trans T_z2.out).trans T_x3.out).trans T_z3.out).trans T_x4.out).trans T_x5.out).trans T_x6.out).trans T_x7.out).trans T_z7.out).trans T_x8.out)⟩
end
end Go.Proofs.Ytochgmpcdmahkaa
