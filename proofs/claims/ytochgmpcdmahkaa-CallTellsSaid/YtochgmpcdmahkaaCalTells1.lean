/- The law CallTells: a part of the walk. (Written by genCalD.py.) -/
import Derived.Test.YtochgmpcdmahkaaCalD
import Derived.Test.YtochgmpcdmahkaaCalBk
namespace Go.Proofs.Ytochgmpcdmahkaa
open Go.RowKit

set_option maxHeartbeats 8000000 in
set_option maxRecDepth 100000 in
theorem ctells_11 (s q : Int) (zs : Z64 s) (zq : Z64 q) (c : Cm) (a : Option Addr) (n cap : Nat) (ls : List Ln) (hn : ls.length = n) (hc : n ≤ cap) (hin : c.In) (hz : LnIn ls) (t : ByteArray) (ht : t.size ≤ 140737488355328) (w : World) (hl : SlS Ln.cells 4 w (.slice a n cap) ls) (h20 : 20 < n) (hE : dcE t.data.toList = 0) : Calls Try.prog 4 #[Cal.agg s q c (.slice a n cap), .string t] w fun e w' => e = .returned (.bool true) ∧ Ext w w' := by
  have hg : (20 : Int) < (n : Int) := by omega
  have hgc : (20 : Int) ≤ (cap : Int) := by omega
  have hl := SlS.cut Ln.len hl 20 (by omega) cap
  have hn2 : (ls.take 20).length = 20 := by rw [List.length_take]; omega
  have hz2 : LnIn (ls.take 20) := fun x hx => hz x (List.mem_of_mem_take hx)
  replace hn := hn2
  replace hz := hz2
  clear hn2 hz2
  generalize ls.take 20 = ls at *
  have hdk := fun (z : World) => dec_any t ht z
  have hrk := fun (z : World) => rdec_any t ht z
  have HD := Lib.hid fun (z : World) => (hdk z).mono (R' := fun e w' => ∃ a' c', e = .returned (.tuple #[Cal.agg (dcS1 t.data.toList).1 (dcS2 t.data.toList).1 (cgR (dcRest t.data.toList)).1 (.slice a' (cgR (dcRest t.data.toList)).2.1.length c'), .int .i64 0]) ∧ SlS Ln.cells 4 w' (.slice a' (cgR (dcRest t.data.toList)).2.1.length c') (cgR (dcRest t.data.toList)).2.1 ∧ Ext z w') (by
    rintro e w' (⟨h, _⟩ | ⟨_, a', c', h1, h2, h3⟩)
    · exact absurd hE h
    · exact ⟨a', c', h1, h2.rd, h3⟩)
  have HR := Lib.hid fun (z : World) => (hrk z).mono (R' := fun e w' => ∃ a' c', e = .returned (.tuple #[Cal.agg (dcS1 t.data.toList).1 (dcS2 t.data.toList).1 (cgR (dcRest t.data.toList)).1 (.slice a' (cgR (dcRest t.data.toList)).2.1.length c'), .int .i64 0]) ∧ SlS Ln.cells 4 w' (.slice a' (cgR (dcRest t.data.toList)).2.1.length c') (cgR (dcRest t.data.toList)).2.1 ∧ Ext z w') (by
    rintro e w' (⟨h, _⟩ | ⟨_, a', c', h1, h2, h3⟩)
    · exact absurd hE h
    · exact ⟨a', c', h1, h2.rd, h3⟩)
  have hl12 : (cgR (dcRest t.data.toList)).2.1.length ≤ 12 := (cgE_ok (call_read hE).1).2.2.2.2.2.1
  clear hdk hrk hE
  have HCM := Lib.hid fun (a a' : Option Addr) (cap cap' : Nat) (z : World) (h1 : SlS Ln.cells 4 z (.slice a (cgR (dcRest t.data.toList)).2.1.length cap) (cgR (dcRest t.data.toList)).2.1) (h2 : SlS Ln.cells 4 z (.slice a' (cgR (dcRest t.data.toList)).2.1.length cap') (cgR (dcRest t.data.toList)).2.1) => calsame_true (dcS1 t.data.toList).1 (dcS2 t.data.toList).1 (cgR (dcRest t.data.toList)).1 a a' _ cap cap' _ rfl (by omega) z h1 h2
  clear hl12
  generalize (cgR (dcRest t.data.toList)).1 = d at *
  generalize (cgR (dcRest t.data.toList)).2.1 = dl at *
  generalize (dcS1 t.data.toList).1 = n1 at *
  generalize (dcS2 t.data.toList).1 = n2 at *
  generalize dl.length = dn at *
  have HE := Lib.hid fun (z : World) (h : SlS Ln.cells 4 z (.slice a 20 cap) ls) => enc_any s q zs zq c a 20 cap ls hn (by omega) hin hz z h
  have HF := Lib.hid fun (z : World) (h : SlS Ln.cells 4 z (.slice a 20 cap) ls) => renc_any s q zs zq c a 20 cap ls hn (by omega) hin hz z h
  have HL := Lib.hid hl
  generalize caT s q c ls = T at *
  generalize putE c ls = E at *
  clear hn hin hz hl zs zq hc h20
  obtain ⟨kd, ser, lim, cat, ry, rm, rd, bp, dy, dm, dd, ofs, ofn, ses⟩ := c
  obtain ⟨dkd, dser, dlim, dcat, dry, drm, drd, dbp, ddy, ddm, ddd, dofs, dofn, dses⟩ := d
  simp only [Cal.agg] at HE HF HD HR HCM ⊢
  have hu17 := Try.underlying35
  have hu15 := Try.underlying33
  have hi17 : (Try.prog.info? 35).map (·.size) = some 17 := by kernel_rfl
  have hi15 : (Try.prog.info? 33).map (·.size) = some 15 := by kernel_rfl
  have HU17 := Lib.hid hu17
  have HU15 := Lib.hid hu15
  have HI17 := Lib.hid hi17
  have HI15 := Lib.hid hi15
  clear hu17 hu15 hi17 hi15
  go_enter Try.func4, Try.ntmps4
  go_wp2_with (first
    | (refine wpList_load_blk (by rfl) 35 _ (by rfl) (w.heap.size) 0 (by rfl) (new_blk w (.cells #[.int .i64 s, .int .i64 q, .int .i64 kd, .string ser, .int .i64 lim, .string cat, .int .i64 ry, .int .i64 rm, .int .i64 rd, .int .i64 bp, .int .i64 dy, .int .i64 dm, .int .i64 dd, .slice a 20 cap, .string ofs, .int .i64 ofn, .int .i64 ses] 35)) [.int .i64 s, .int .i64 q, .int .i64 kd, .string ser, .int .i64 lim, .string cat, .int .i64 ry, .int .i64 rm, .int .i64 rd, .int .i64 bp, .int .i64 dy, .int .i64 dm, .int .i64 dd, .slice a 20 cap, .string ofs, .int .i64 ofn, .int .i64 ses] 17 (by rfl) (by rfl) _ HU17.out (by rfl) HI17.out ?_))
  go_at_call 6
  refine (HE.out _ (HL.out.ext (Ext.alloc (Ext.refl _) _))).mono ?_
  rintro e x1 ⟨rfl, hx1⟩
  have T_x1 : Hid (Ext w x1) := Lib.hid (Ext.trans (Ext.alloc (Ext.refl _) _) hx1)
  have Dm_x1 := Lib.hid (ext_blk hx1 (new_blk w (.cells #[.int .i64 s, .int .i64 q, .int .i64 kd, .string ser, .int .i64 lim, .string cat, .int .i64 ry, .int .i64 rm, .int .i64 rd, .int .i64 bp, .int .i64 dy, .int .i64 dm, .int .i64 dd, .slice a 20 cap, .string ofs, .int .i64 ofn, .int .i64 ses] 35)))
  clear hx1
  as_aux_lemma =>
    go_wp2_with (first
      | (refine wpList_load_blk (by rfl) 35 _ (by rfl) (w.heap.size) 0 (by rfl) Dm_x1.out [.int .i64 s, .int .i64 q, .int .i64 kd, .string ser, .int .i64 lim, .string cat, .int .i64 ry, .int .i64 rm, .int .i64 rd, .int .i64 bp, .int .i64 dy, .int .i64 dm, .int .i64 dd, .slice a 20 cap, .string ofs, .int .i64 ofn, .int .i64 ses] 17 (by rfl) (by rfl) _ HU17.out (by rfl) HI17.out ?_))
    go_at_call 8
    refine (HF.out _ (HL.out.ext T_x1.out)).mono ?_
    rintro e x2 ⟨rfl, hx2⟩
    have T_x2 : Hid (Ext x1 x2) := Lib.hid (Ext.trans (Ext.refl _) hx2)
    have Dm_x2 := Lib.hid (ext_blk hx2 Dm_x1.out)
    clear hx2
    as_aux_lemma =>
      go_wp2_with fail
      go_at_call 7
      refine (HD.out _).mono ?_
      rintro e x3 ⟨a3, c3, rfl, ho3, hx3⟩
      have T_x3 : Hid (Ext x2 x3) := Lib.hid (Ext.trans (Ext.refl _) hx3)
      have HO3 := Lib.hid ho3
      clear ho3
      clear hx3
      as_aux_lemma =>
        go_wp2_with (first
          | (refine wpList_store_blk (by rfl) 35 _ _ (by rfl) (x3.heap.size) 0 #[.int .i64 n1, .int .i64 n2, .int .i64 dkd, .string dser, .int .i64 dlim, .string dcat, .int .i64 dry, .int .i64 drm, .int .i64 drd, .int .i64 dbp, .int .i64 ddy, .int .i64 ddm, .int .i64 ddd, .slice a3 dn c3, .string dofs, .int .i64 dofn, .int .i64 dses] (by rfl) (by rfl) (new_blk x3 (.cells #[.int .i64 0, .int .i64 0, .int .i64 0, .string ⟨#[]⟩, .int .i64 0, .string ⟨#[]⟩, .int .i64 0, .int .i64 0, .int .i64 0, .int .i64 0, .int .i64 0, .int .i64 0, .int .i64 0, .slice none 0 0, .string ⟨#[]⟩, .int .i64 0, .int .i64 0] 35)) 17 (by rfl) (by exact Nat.le_refl 17) HI17.out (by rfl) #[.int .i64 n1, .int .i64 n2, .int .i64 dkd, .string dser, .int .i64 dlim, .string dcat, .int .i64 dry, .int .i64 drm, .int .i64 drd, .int .i64 dbp, .int .i64 ddy, .int .i64 ddm, .int .i64 ddd, .slice a3 dn c3, .string dofs, .int .i64 dofn, .int .i64 dses] (by rfl) ?_; intro z3 hz hkz; have Dd_z3 := Lib.hid hz; have T_z3 : Hid (Ext x3 z3) := Lib.hid (Ext.keep ((Ext.refl x3).alloc _) hkz (Nat.le_refl _)); clear hz hkz))
        go_at_call 9
        refine (HR.out _).mono ?_
        rintro e x4 ⟨a4, c4, rfl, ho4, hx4⟩
        have T_x4 : Hid (Ext z3 x4) := Lib.hid (Ext.trans (Ext.refl _) hx4)
        have Dd_x4 := Lib.hid (ext_blk hx4 Dd_z3.out)
        have HO4 := Lib.hid ho4
        clear ho4
        clear hx4
        as_aux_lemma =>
          go_wp2_with (first
            | (refine wpList_load_blkG (by rfl) 35 _ (by rfl) (x4.heap.size) 0 (by rfl) De_z4.out [.int .i64 n1, .int .i64 n2, .int .i64 dkd, .string dser, .int .i64 dlim, .string dcat, .int .i64 dry, .int .i64 drm, .int .i64 drd, .int .i64 dbp, .int .i64 ddy, .int .i64 ddm, .int .i64 ddd, .slice a4 dn c4, .string dofs, .int .i64 dofn, .int .i64 dses] 17 (by rfl) (by rfl) _ HU17.out (by rfl) HI17.out ?_)
            | (refine wpList_load_blkG (by rfl) 35 _ (by rfl) (x3.heap.size) 0 (by rfl) Dd_z4.out [.int .i64 n1, .int .i64 n2, .int .i64 dkd, .string dser, .int .i64 dlim, .string dcat, .int .i64 dry, .int .i64 drm, .int .i64 drd, .int .i64 dbp, .int .i64 ddy, .int .i64 ddm, .int .i64 ddd, .slice a3 dn c3, .string dofs, .int .i64 dofn, .int .i64 dses] 17 (by rfl) (by rfl) _ HU17.out (by rfl) HI17.out ?_)
            | (refine wpList_store_blk (by rfl) 35 _ _ (by rfl) (x4.heap.size) 0 #[.int .i64 n1, .int .i64 n2, .int .i64 dkd, .string dser, .int .i64 dlim, .string dcat, .int .i64 dry, .int .i64 drm, .int .i64 drd, .int .i64 dbp, .int .i64 ddy, .int .i64 ddm, .int .i64 ddd, .slice a4 dn c4, .string dofs, .int .i64 dofn, .int .i64 dses] (by rfl) (by rfl) (new_blk x4 (.cells #[.int .i64 0, .int .i64 0, .int .i64 0, .string ⟨#[]⟩, .int .i64 0, .string ⟨#[]⟩, .int .i64 0, .int .i64 0, .int .i64 0, .int .i64 0, .int .i64 0, .int .i64 0, .int .i64 0, .slice none 0 0, .string ⟨#[]⟩, .int .i64 0, .int .i64 0] 35)) 17 (by rfl) (by exact Nat.le_refl 17) HI17.out (by rfl) #[.int .i64 n1, .int .i64 n2, .int .i64 dkd, .string dser, .int .i64 dlim, .string dcat, .int .i64 dry, .int .i64 drm, .int .i64 drd, .int .i64 dbp, .int .i64 ddy, .int .i64 ddm, .int .i64 ddd, .slice a4 dn c4, .string dofs, .int .i64 dofn, .int .i64 dses] (by rfl) ?_; intro z4 hz hkz; have De_z4 := Lib.hid hz; have T_z4 : Hid (Ext x4 z4) := Lib.hid (Ext.keep ((Ext.refl x4).alloc _) hkz (Nat.le_refl _)); have Dd_z4 := Lib.hid (keep_blk hkz (alloc_blk Dd_x4.out) (Nat.ne_of_lt (blk_lt Dd_x4.out))); clear hz hkz))
          go_at_call 10
          refine (HCM.out _ _ _ _ _ (HO3.out.ext ((T_z3.out.trans T_x4.out).trans T_z4.out)) (HO4.out.ext T_z4.out)).mono ?_
          rintro e x5 ⟨rfl, hx5⟩
          have T_x5 : Hid (Ext z4 x5) := Lib.hid (Ext.trans (Ext.refl _) hx5)
          have Dd_x5 := Lib.hid (ext_blk hx5 Dd_z4.out)
          have De_x5 := Lib.hid (ext_blk hx5 De_z4.out)
          clear hx5
          as_aux_lemma =>
            go_wp2_with fail
            go_at_call 3
            refine (calruns_any _).mono ?_
            rintro e x6 ⟨rfl, hx6⟩
            have T_x6 : Hid (Ext x5 x6) := Lib.hid (Ext.trans (Ext.refl _) hx6)
            have Dd_x6 := Lib.hid (ext_blk hx6 Dd_x5.out)
            have De_x6 := Lib.hid (ext_blk hx6 De_x5.out)
            clear hx6
            as_aux_lemma =>
              go_wp2_with fail
              go_ret
              exact ⟨rfl, (((((((T_x1.out.trans T_x2.out).trans T_x3.out).trans T_z3.out).trans T_x4.out).trans T_z4.out).trans T_x5.out).trans T_x6.out)⟩
set_option maxHeartbeats 8000000 in
set_option maxRecDepth 100000 in
theorem ctells_10 (s q : Int) (zs : Z64 s) (zq : Z64 q) (c : Cm) (a : Option Addr) (n cap : Nat) (ls : List Ln) (hn : ls.length = n) (hc : n ≤ cap) (hin : c.In) (hz : LnIn ls) (t : ByteArray) (ht : t.size ≤ 140737488355328) (w : World) (hl : SlS Ln.cells 4 w (.slice a n cap) ls) (h20 : 20 < n) (hE : dcE t.data.toList ≠ 0) : Calls Try.prog 4 #[Cal.agg s q c (.slice a n cap), .string t] w fun e w' => e = .returned (.bool true) ∧ Ext w w' := by
  have hg : (20 : Int) < (n : Int) := by omega
  have hgc : (20 : Int) ≤ (cap : Int) := by omega
  have hl := SlS.cut Ln.len hl 20 (by omega) cap
  have hn2 : (ls.take 20).length = 20 := by rw [List.length_take]; omega
  have hz2 : LnIn (ls.take 20) := fun x hx => hz x (List.mem_of_mem_take hx)
  replace hn := hn2
  replace hz := hz2
  clear hn2 hz2
  generalize ls.take 20 = ls at *
  have HD := Lib.hid fun (z : World) => (dec_any t ht z).mono (R' := fun e w' => e = .returned (.tuple #[Cal.agg 0 0 Cm.z (.slice none 0 0), .int .i64 (dcE t.data.toList)]) ∧ Ext z w') (by
    rintro e w' (⟨_, h⟩ | ⟨h, _⟩)
    · exact h
    · exact absurd h hE)
  have HR := Lib.hid fun (z : World) => (rdec_any t ht z).mono (R' := fun e w' => e = .returned (.tuple #[Cal.agg 0 0 Cm.z (.slice none 0 0), .int .i64 (dcE t.data.toList)]) ∧ Ext z w') (by
    rintro e w' (⟨_, h⟩ | ⟨h, _⟩)
    · exact h
    · exact absurd h hE)
  generalize dcE t.data.toList = E9 at *
  clear hE
  have HCM := Lib.hid fun (z : World) => calsame_true 0 0 Cm.z none none 0 0 0 [] rfl (by decide) z nil_sls nil_sls
  have HE := Lib.hid fun (z : World) (h : SlS Ln.cells 4 z (.slice a 20 cap) ls) => enc_any s q zs zq c a 20 cap ls hn (by omega) hin hz z h
  have HF := Lib.hid fun (z : World) (h : SlS Ln.cells 4 z (.slice a 20 cap) ls) => renc_any s q zs zq c a 20 cap ls hn (by omega) hin hz z h
  have HL := Lib.hid hl
  generalize caT s q c ls = T at *
  generalize putE c ls = E at *
  clear hn hin hz hl zs zq hc h20
  obtain ⟨kd, ser, lim, cat, ry, rm, rd, bp, dy, dm, dd, ofs, ofn, ses⟩ := c
  simp only [Cal.agg, Cm.z] at HE HF HD HR HCM ⊢
  have hu17 := Try.underlying35
  have hu15 := Try.underlying33
  have hi17 : (Try.prog.info? 35).map (·.size) = some 17 := by kernel_rfl
  have hi15 : (Try.prog.info? 33).map (·.size) = some 15 := by kernel_rfl
  have HU17 := Lib.hid hu17
  have HU15 := Lib.hid hu15
  have HI17 := Lib.hid hi17
  have HI15 := Lib.hid hi15
  clear hu17 hu15 hi17 hi15
  go_enter Try.func4, Try.ntmps4
  go_wp2_with (first
    | (refine wpList_load_blk (by rfl) 35 _ (by rfl) (w.heap.size) 0 (by rfl) (new_blk w (.cells #[.int .i64 s, .int .i64 q, .int .i64 kd, .string ser, .int .i64 lim, .string cat, .int .i64 ry, .int .i64 rm, .int .i64 rd, .int .i64 bp, .int .i64 dy, .int .i64 dm, .int .i64 dd, .slice a 20 cap, .string ofs, .int .i64 ofn, .int .i64 ses] 35)) [.int .i64 s, .int .i64 q, .int .i64 kd, .string ser, .int .i64 lim, .string cat, .int .i64 ry, .int .i64 rm, .int .i64 rd, .int .i64 bp, .int .i64 dy, .int .i64 dm, .int .i64 dd, .slice a 20 cap, .string ofs, .int .i64 ofn, .int .i64 ses] 17 (by rfl) (by rfl) _ HU17.out (by rfl) HI17.out ?_))
  go_at_call 6
  refine (HE.out _ (HL.out.ext (Ext.alloc (Ext.refl _) _))).mono ?_
  rintro e x1 ⟨rfl, hx1⟩
  have T_x1 : Hid (Ext w x1) := Lib.hid (Ext.trans (Ext.alloc (Ext.refl _) _) hx1)
  have Dm_x1 := Lib.hid (ext_blk hx1 (new_blk w (.cells #[.int .i64 s, .int .i64 q, .int .i64 kd, .string ser, .int .i64 lim, .string cat, .int .i64 ry, .int .i64 rm, .int .i64 rd, .int .i64 bp, .int .i64 dy, .int .i64 dm, .int .i64 dd, .slice a 20 cap, .string ofs, .int .i64 ofn, .int .i64 ses] 35)))
  clear hx1
  as_aux_lemma =>
    go_wp2_with (first
      | (refine wpList_load_blk (by rfl) 35 _ (by rfl) (w.heap.size) 0 (by rfl) Dm_x1.out [.int .i64 s, .int .i64 q, .int .i64 kd, .string ser, .int .i64 lim, .string cat, .int .i64 ry, .int .i64 rm, .int .i64 rd, .int .i64 bp, .int .i64 dy, .int .i64 dm, .int .i64 dd, .slice a 20 cap, .string ofs, .int .i64 ofn, .int .i64 ses] 17 (by rfl) (by rfl) _ HU17.out (by rfl) HI17.out ?_))
    go_at_call 8
    refine (HF.out _ (HL.out.ext T_x1.out)).mono ?_
    rintro e x2 ⟨rfl, hx2⟩
    have T_x2 : Hid (Ext x1 x2) := Lib.hid (Ext.trans (Ext.refl _) hx2)
    have Dm_x2 := Lib.hid (ext_blk hx2 Dm_x1.out)
    clear hx2
    as_aux_lemma =>
      go_wp2_with fail
      go_at_call 7
      refine (HD.out _).mono ?_
      rintro e x3 ⟨rfl, hx3⟩
      have T_x3 : Hid (Ext x2 x3) := Lib.hid (Ext.trans (Ext.refl _) hx3)
      clear hx3
      as_aux_lemma =>
        go_wp2_with (first
          | (refine wpList_store_blk (by rfl) 35 _ _ (by rfl) (x3.heap.size) 0 #[.int .i64 0, .int .i64 0, .int .i64 0, .string ⟨#[]⟩, .int .i64 0, .string ⟨#[]⟩, .int .i64 0, .int .i64 0, .int .i64 0, .int .i64 0, .int .i64 0, .int .i64 0, .int .i64 0, .slice none 0 0, .string ⟨#[]⟩, .int .i64 0, .int .i64 0] (by rfl) (by rfl) (new_blk x3 (.cells #[.int .i64 0, .int .i64 0, .int .i64 0, .string ⟨#[]⟩, .int .i64 0, .string ⟨#[]⟩, .int .i64 0, .int .i64 0, .int .i64 0, .int .i64 0, .int .i64 0, .int .i64 0, .int .i64 0, .slice none 0 0, .string ⟨#[]⟩, .int .i64 0, .int .i64 0] 35)) 17 (by rfl) (by exact Nat.le_refl 17) HI17.out (by rfl) #[.int .i64 0, .int .i64 0, .int .i64 0, .string ⟨#[]⟩, .int .i64 0, .string ⟨#[]⟩, .int .i64 0, .int .i64 0, .int .i64 0, .int .i64 0, .int .i64 0, .int .i64 0, .int .i64 0, .slice none 0 0, .string ⟨#[]⟩, .int .i64 0, .int .i64 0] (by rfl) ?_; intro z3 hz hkz; have Dd_z3 := Lib.hid hz; have T_z3 : Hid (Ext x3 z3) := Lib.hid (Ext.keep ((Ext.refl x3).alloc _) hkz (Nat.le_refl _)); clear hz hkz))
        go_at_call 9
        refine (HR.out _).mono ?_
        rintro e x4 ⟨rfl, hx4⟩
        have T_x4 : Hid (Ext z3 x4) := Lib.hid (Ext.trans (Ext.refl _) hx4)
        have Dd_x4 := Lib.hid (ext_blk hx4 Dd_z3.out)
        clear hx4
        as_aux_lemma =>
          go_wp2_with (first
            | (refine wpList_load_blkG (by rfl) 35 _ (by rfl) (x4.heap.size) 0 (by rfl) De_z4.out [.int .i64 0, .int .i64 0, .int .i64 0, .string ⟨#[]⟩, .int .i64 0, .string ⟨#[]⟩, .int .i64 0, .int .i64 0, .int .i64 0, .int .i64 0, .int .i64 0, .int .i64 0, .int .i64 0, .slice none 0 0, .string ⟨#[]⟩, .int .i64 0, .int .i64 0] 17 (by rfl) (by rfl) _ HU17.out (by rfl) HI17.out ?_)
            | (refine wpList_load_blkG (by rfl) 35 _ (by rfl) (x3.heap.size) 0 (by rfl) Dd_z4.out [.int .i64 0, .int .i64 0, .int .i64 0, .string ⟨#[]⟩, .int .i64 0, .string ⟨#[]⟩, .int .i64 0, .int .i64 0, .int .i64 0, .int .i64 0, .int .i64 0, .int .i64 0, .int .i64 0, .slice none 0 0, .string ⟨#[]⟩, .int .i64 0, .int .i64 0] 17 (by rfl) (by rfl) _ HU17.out (by rfl) HI17.out ?_)
            | (refine wpList_store_blk (by rfl) 35 _ _ (by rfl) (x4.heap.size) 0 #[.int .i64 0, .int .i64 0, .int .i64 0, .string ⟨#[]⟩, .int .i64 0, .string ⟨#[]⟩, .int .i64 0, .int .i64 0, .int .i64 0, .int .i64 0, .int .i64 0, .int .i64 0, .int .i64 0, .slice none 0 0, .string ⟨#[]⟩, .int .i64 0, .int .i64 0] (by rfl) (by rfl) (new_blk x4 (.cells #[.int .i64 0, .int .i64 0, .int .i64 0, .string ⟨#[]⟩, .int .i64 0, .string ⟨#[]⟩, .int .i64 0, .int .i64 0, .int .i64 0, .int .i64 0, .int .i64 0, .int .i64 0, .int .i64 0, .slice none 0 0, .string ⟨#[]⟩, .int .i64 0, .int .i64 0] 35)) 17 (by rfl) (by exact Nat.le_refl 17) HI17.out (by rfl) #[.int .i64 0, .int .i64 0, .int .i64 0, .string ⟨#[]⟩, .int .i64 0, .string ⟨#[]⟩, .int .i64 0, .int .i64 0, .int .i64 0, .int .i64 0, .int .i64 0, .int .i64 0, .int .i64 0, .slice none 0 0, .string ⟨#[]⟩, .int .i64 0, .int .i64 0] (by rfl) ?_; intro z4 hz hkz; have De_z4 := Lib.hid hz; have T_z4 : Hid (Ext x4 z4) := Lib.hid (Ext.keep ((Ext.refl x4).alloc _) hkz (Nat.le_refl _)); have Dd_z4 := Lib.hid (keep_blk hkz (alloc_blk Dd_x4.out) (Nat.ne_of_lt (blk_lt Dd_x4.out))); clear hz hkz))
          go_at_call 10
          refine (HCM.out _).mono ?_
          rintro e x5 ⟨rfl, hx5⟩
          have T_x5 : Hid (Ext z4 x5) := Lib.hid (Ext.trans (Ext.refl _) hx5)
          have Dd_x5 := Lib.hid (ext_blk hx5 Dd_z4.out)
          have De_x5 := Lib.hid (ext_blk hx5 De_z4.out)
          clear hx5
          as_aux_lemma =>
            go_wp2_with fail
            go_at_call 3
            refine (calruns_any _).mono ?_
            rintro e x6 ⟨rfl, hx6⟩
            have T_x6 : Hid (Ext x5 x6) := Lib.hid (Ext.trans (Ext.refl _) hx6)
            have Dd_x6 := Lib.hid (ext_blk hx6 Dd_x5.out)
            have De_x6 := Lib.hid (ext_blk hx6 De_x5.out)
            clear hx6
            as_aux_lemma =>
              go_wp2_with fail
              go_ret
              exact ⟨rfl, (((((((T_x1.out.trans T_x2.out).trans T_x3.out).trans T_z3.out).trans T_x4.out).trans T_z4.out).trans T_x5.out).trans T_x6.out)⟩
end Go.Proofs.Ytochgmpcdmahkaa
