/- The law NetOnce: the walk. (Written by genNetO.py.) -/
import Derived.Test.YtognipephfedkaaNetP
namespace Go.Proofs.Ytognipephfedkaa
open Go.RowKit
set_option maxHeartbeats 16000000 in
set_option maxRecDepth 100000 in
theorem once_any (l : List LI) (a : Option Addr) (cap : Nat) (w : World) (hl : SlS LI.cells 13 w (.slice a l.length cap) l) (hin : ∀ x ∈ l, x.In w) : Calls Try.prog 5 #[.slice a l.length cap] w fun e w' => e = .returned (.bool true) ∧ Ext w w' := by
  obtain ⟨n, hn⟩ : ∃ n, l.length = n := ⟨_, rfl⟩
  rw [hn] at hl ⊢
  have HL := Lib.hid hl
  have HIN := Lib.hid hin
  have HN := Lib.hid hn
  clear hl hin hn
  obtain ⟨i0, hi, hz0, hz1, hz2⟩ := info_parts Try.infoEnt
  obtain ⟨j0, hjj, hy0, hy1, hy2⟩ := info_parts Try.infoLet
  have hu := Try.underlying27
  have hi : (Try.prog.info? 27).map (·.size) = some 13 := by kernel_rfl
  have HU27 := Lib.hid hu
  have HI27 := Lib.hid hi
  clear hu hi
  have hu := Try.underlying49
  have hi : (Try.prog.info? 49).map (·.size) = some 3 := by kernel_rfl
  have HU49 := Lib.hid hu
  have HI49 := Lib.hid hi
  clear hu hi
  go_enter Try.func5, Try.ntmps5
  go_wp2_with fail
  go_at_call 6
  refine (ns_new w).mono ?_
  rintro e x0 ⟨rfl, h0⟩
  have H0 := Lib.hid h0
  clear h0
  go_wp2_with fail
  go_loopw [4, 5] (fun kv iv wr => ∃ (j : Nat) (kl : List LI) (Ks : List (Nat × Obj)), j ≤ n ∧ iv = .int .i64 ((j : Nat) : Int) ∧ Hid (KS w kl kv Ks) ∧ Hid (NS NT w w.heap.size wr (NL kl) 0 Ks)) (fun _ iv _ => n - (intOf iv).toNat)
  case atStart => exact ⟨0, [], [], by omega, rfl, Lib.hid (KS.start w), H0⟩
  case round =>
    obtain ⟨j, kl, Ks, hj, rfl, HK, HP⟩ := hrel
    obtain ⟨ka, kc, rfl, hkc, hkm⟩ := HK.out.row.form HP.out.box
    obtain ⟨K, hK⟩ : ∃ K, kl.length = K := ⟨_, rfl⟩
    rw [hK] at HK hkc ⊢
    have HKL := Lib.hid hK
    clear hK H0
    by_cases hlt : j < n ∧ j < 200
    · obtain ⟨hlt, hl2⟩ := hlt
      have hjx : j < l.length := by rw [HN.out]; exact hlt
      obtain ⟨x, hxe⟩ : ∃ x, l[j] = x := ⟨_, rfl⟩
      have hq := HIN.out x (by rw [← hxe]; exact List.getElem_mem _)
      obtain ⟨sb, so, rfl, hsb, hcell⟩ := SlS.at_ LI.len HL.out (by omega) (by decide)
      have hcx : ∀ z, Ext w z → z.rangeAt sb (so + j * 13) x.cells := fun z hz i v hv => by
        have hi : i < 13 := by
          rcases Nat.lt_or_ge i 13 with h | h
          · exact h
          · rw [List.getElem?_eq_none (by rw [LI.len]; exact h)] at hv
            cases hv
        rw [hz.cell (p := ⟨sb, so + j * 13 + i, none⟩) hsb, hcell j hjx i hi, hxe]
        exact hv
      clear hcell hxe hjx HIN
      obtain ⟨m, ea, ec, es⟩ := x
      obtain ⟨n2, hes⟩ : ∃ n2, es.length = n2 := ⟨_, rfl⟩
      obtain ⟨kind, fr, to, te, ix, at_, co, me, off, sz, yes, data⟩ := m
      simp only [LI.cells, LI.ev, hes] at hcx
      have HQ := Lib.hid hq
      have HES := Lib.hid hes
      have HRG := Lib.hid hcx
      have hi1 : (0 : Int) ≤ (j : Int) := by omega
      have hi2 : (j : Int) < (n : Int) := by omega
      have hi3 : (j : Int) < 200 := by omega
      have HX0 := Lib.hid HP.out.ext
      clear hq hes hcx HL HN
      by_cases h20 : 20 < n2
      · have h20i : (20 : Int) < (n2 : Int) := by omega
        go_wp2_with (first
          | (refine wpList_load_mid (by rfl) 27 _ (by rfl) sb (so + j * 13) (by rfl) [.int .i64 kind, .int .i64 fr, .int .i64 to, .int .i64 te, .int .i64 ix, .int .i64 at_, .int .i64 co, .int .i64 me, .int .i64 off, .int .i64 sz, .bool yes, .string data, .slice ea n2 ec] _ (HRG.out _ (HX0.out)) HU27.out (by rfl) HI27.out ?_)
          | (refine wpList_store_blk (by rfl) 27 _ _ (by rfl) (wr.heap.size) 0 #[.int .i64 kind, .int .i64 fr, .int .i64 to, .int .i64 te, .int .i64 ix, .int .i64 at_, .int .i64 co, .int .i64 me, .int .i64 off, .int .i64 sz, .bool yes, .string data, .slice ea n2 ec] (by rfl) (by rfl) (new_blk wr (.cells #[.int .i64 0, .int .i64 0, .int .i64 0, .int .i64 0, .int .i64 0, .int .i64 0, .int .i64 0, .int .i64 0, .int .i64 0, .int .i64 0, .bool false, .string ⟨#[]⟩, .slice none 0 0] 27)) 13 (by rfl) (by exact Nat.le_refl 13) HI27.out (by rfl) #[.int .i64 kind, .int .i64 fr, .int .i64 to, .int .i64 te, .int .i64 ix, .int .i64 at_, .int .i64 co, .int .i64 me, .int .i64 off, .int .i64 sz, .bool yes, .string data, .slice ea n2 ec] (by rfl) ?_; intro z1 hz hkz; have DR := Lib.hid hz; have H1 := Lib.hid (NS.add HP.out hz hkz); obtain ⟨c12, _⟩ := blkG DR.out 12 (.slice ea n2 ec) rfl; clear hz hkz)
          | fail)
        exact ⟨⟨j + 1, kl, Ks, by omega, by simp, HK, Lib.hid (H1.out.less (fun p hp => List.mem_cons_of_mem _ hp))⟩, by simp [intOf]; omega⟩
      · have h20i : ¬ (20 : Int) < (n2 : Int) := by omega
        have H20 : Hid (n2 ≤ 20) := Lib.hid (by omega)
        clear h20
        have HSL := Lib.hid (ent_slr HQ.out HES.out)
        go_wp2_with (first
          | (refine wpList_load_mid (by rfl) 27 _ (by rfl) sb (so + j * 13) (by rfl) [.int .i64 kind, .int .i64 fr, .int .i64 to, .int .i64 te, .int .i64 ix, .int .i64 at_, .int .i64 co, .int .i64 me, .int .i64 off, .int .i64 sz, .bool yes, .string data, .slice ea n2 ec] _ (HRG.out _ (HX0.out)) HU27.out (by rfl) HI27.out ?_)
          | (refine wpList_store_blk (by rfl) 27 _ _ (by rfl) (wr.heap.size) 0 #[.int .i64 kind, .int .i64 fr, .int .i64 to, .int .i64 te, .int .i64 ix, .int .i64 at_, .int .i64 co, .int .i64 me, .int .i64 off, .int .i64 sz, .bool yes, .string data, .slice ea n2 ec] (by rfl) (by rfl) (new_blk wr (.cells #[.int .i64 0, .int .i64 0, .int .i64 0, .int .i64 0, .int .i64 0, .int .i64 0, .int .i64 0, .int .i64 0, .int .i64 0, .int .i64 0, .bool false, .string ⟨#[]⟩, .slice none 0 0] 27)) 13 (by rfl) (by exact Nat.le_refl 13) HI27.out (by rfl) #[.int .i64 kind, .int .i64 fr, .int .i64 to, .int .i64 te, .int .i64 ix, .int .i64 at_, .int .i64 co, .int .i64 me, .int .i64 off, .int .i64 sz, .bool yes, .string data, .slice ea n2 ec] (by rfl) ?_; intro z1 hz hkz; have DR := Lib.hid hz; have H1 := Lib.hid (NS.add HP.out hz hkz); obtain ⟨c12, _⟩ := blkG DR.out 12 (.slice ea n2 ec) rfl; have hx1 := H1.out.ext; have ca12 := (HRG.out z1 hx1) 12 _ rfl; have hsb1 := Nat.lt_of_lt_of_le hsb hx1.size; have HX1 := Lib.hid hx1; have OE := Lib.hid (own_nilB (w := z1) (B := z1.heap.size) (sz := 3) 49 rfl (Nat.le_refl _)); clear hz hkz hx1)
          | (at_builtin; go_loud (refine wpList_own_src _ rfl _ _ 25 25 rfl z1.heap.size 49 i0 _ 3 32 Try.underlying25 hi hz0 hz1 hz2 rfl (by decide) _ _ 0 n2 [] (es.flatMap Ent.cells) OE.out (src_of_slr (P := Try.prog) Try.underlying25 (HSL.out _ (HX1.out.alloc _)) (ent_one es)) rfl rfl ?a1 ?a2 ?a3 ?_))
          | fail)
        case a1 => unfold maxLen; have := H20.out; omega
        case a2 => have := H20.out; omega
        intro v5 w5 ho5 hb5
        obtain ⟨a5, k5, rfl⟩ := own_sl ho5
        have hx5 : Ext z1 w5 := Below.trans ((Ext.refl z1).alloc _) hb5
        have R5 : OwnS Ent.cells 3 49 w5 z1.heap.size (.slice a5 n2 k5) es := by
          unfold OwnS
          rw [HES.out]
          exact ho5
        obtain ⟨Es, hE, hE5⟩ := RowB.of R5
        have h2 := H1.out.more hx5 Es (fun p hp => ⟨hE.low p hp, hE5 p hp⟩)
        obtain ⟨tb, htb⟩ : ∃ tb, wr.heap.size = tb := ⟨_, rfl⟩
        have ht1 : tb < z1.heap.size := by rw [← htb]; exact blk_lt DR.out
        have hKt : ∀ p ∈ Ks, p.1 < tb := fun p hp => by rw [← htb]; exact blk_lt (HP.out.box p hp)
        rw [htb] at h2 c12 DR H1 ⊢
        have hwt : w.heap.size ≤ tb := by rw [← htb]; exact HX0.out.size
        have HT := Lib.hid (And.intro ht1 (And.intro hKt hwt))
        have H2 := Lib.hid h2
        have DB := Lib.hid (h2.box (tb, _) (List.mem_append_right _ List.mem_cons_self))
        obtain ⟨q12, f12⟩ := blkG DB.out 12 (.slice ea n2 ec) rfl
        have hb6 : (w5.setCell ⟨tb, 12, none⟩ (.slice a5 n2 k5)).heap[tb]? = some (.cells #[.int .i64 kind, .int .i64 fr, .int .i64 to, .int .i64 te, .int .i64 ix, .int .i64 at_, .int .i64 co, .int .i64 me, .int .i64 off, .int .i64 sz, .bool yes, .string data, .slice a5 n2 k5] 27) := heap_setCell_same _ _ 12 _ _ (.slice a5 n2 k5) DB.out
        have htw := blk_lt DB.out
        have h3 := NS.set H2.out hwt hb6 ((KeepR.refl tb w5).set (o := 12) (.slice a5 n2 k5)) (fun p hp => by have := hE.low p hp; omega) (fun p hp => by have := hKt p hp; omega)
        have HB6 := Lib.hid hb6
        have H3 := Lib.hid h3
        have HR := Lib.hid hE
        have HR6 := Lib.hid (hE.own _ (fun p hp => h3.box p (List.mem_append_left _ hp))).rd
        have HC6 : Hid (#[.int .i64 kind, .int .i64 fr, .int .i64 to, .int .i64 te, .int .i64 ix, .int .i64 at_, .int .i64 co, .int .i64 me, .int .i64 off, .int .i64 sz, .bool yes, .string data, .slice a5 n2 k5].toList = LI.cells ⟨⟨kind, fr, to, te, ix, at_, co, me, off, sz, yes, data⟩, a5, k5, es⟩) := Lib.hid (by simp [LI.cells, LI.ev, HES.out])
        clear h2 h3 hb6 hE5 hE R5 hx5 ho5 hb5 OE ca12 H1 DR ht1 hKt hwt c12
        go_wp2_with (first
          | (generalize hz6 : w5.setCell ⟨tb, 12, none⟩ (.slice a5 n2 k5) = z6 at HB6 H3 HR6 ⊢; refine wpList_load_blk (by rfl) 27 _ (by rfl) (tb) 0 (by rfl) HB6.out [.int .i64 kind, .int .i64 fr, .int .i64 to, .int .i64 te, .int .i64 ix, .int .i64 at_, .int .i64 co, .int .i64 me, .int .i64 off, .int .i64 sz, .bool yes, .string data, .slice a5 n2 k5] 13 (by rfl) (by rfl) _ HU27.out (by rfl) HI27.out ?_)
          | fail)
        go_at_call 7
        refine (ns_send1 H3.out HK.out.ok (by rw [NL_len]; exact HK.out.len) ⟨⟨kind, fr, to, te, ix, at_, co, me, off, sz, yes, data⟩, a5, k5, es⟩ (by simp only [LI.ev, HES.out]; exact HR6.out) (fun h0 ad ha => .inr (by obtain ⟨p, hp, he⟩ := HR.out.blk ad n2 k5 (by simp only at ha; rw [ha]); exact ⟨p, List.mem_append_left _ hp, he⟩)) #[.int .i64 kind, .int .i64 fr, .int .i64 to, .int .i64 te, .int .i64 ix, .int .i64 at_, .int .i64 co, .int .i64 me, .int .i64 off, .int .i64 sz, .bool yes, .string data, .slice a5 n2 k5] HC6.out).mono ?_
        rintro e y7 ⟨rfl, N7, ho7, hok7, hl7, h7⟩
        have H7 := Lib.hid h7
        have HX7 := Lib.hid h7.ext
        have HO7 := Lib.hid ho7
        have HE5 : Hid (0 < n2 → ∃ g cur, Es = [(g, Obj.cells cur 49 (0, 0))] ∧ a5 = some ⟨g, 0, none⟩ ∧ n2 * 3 ≤ cur.size ∧ w.heap.size ≤ g ∧ g ≠ tb ∧ tb < g) := Lib.hid (row_pos HR.out HES.out h7.box HT.out.1 HT.out.2.2)
        clear h7 ho7 hok7 hl7 HB6 H3 HR6 HC6 DB H2 q12 f12 htw
        by_cases hR : RightP ⟨kind, fr, to, te, ix, at_, co, me, off, sz, yes, data⟩ es
        · have HRP := Lib.hid hR
          clear hR
          by_cases hkf : K < 160
          · have hkfi : (K : Int) < 160 := by omega
            go_wp2_with (first
              | (refine wpList_load_mid (by rfl) 27 _ (by rfl) sb (so + j * 13) (by rfl) [.int .i64 kind, .int .i64 fr, .int .i64 to, .int .i64 te, .int .i64 ix, .int .i64 at_, .int .i64 co, .int .i64 me, .int .i64 off, .int .i64 sz, .bool yes, .string data, .slice ea n2 ec] _ (HRG.out _ (HX7.out)) HU27.out (by rfl) HI27.out ?_)
              | fail)
            go_at_call 18
            refine (ref_yes ⟨kind, fr, to, te, ix, at_, co, me, off, sz, yes, data⟩ ea ec n2 es HES.out (by have := H20.out; omega) HRP.out y7 (by rw [← HES.out]; exact SlS.ext HQ.out.2.2 HX7.out)).mono ?_
            rintro e y8 ⟨rfl, hx8⟩
            have h8 := H7.out.grow hx8
            have HX8 := Lib.hid h8.ext
            obtain rfl : N7 = NL kl ++ [(⟨kind, fr, to, te, ix, at_, co, me, off, sz, yes, data⟩, es)] := OneR.one HO7.out (.inl ⟨HRP.out, by rw [NL_len, HKL.out]; omega, rfl⟩)
            have H8 := Lib.hid h8
            have OK8 : Hid (y8.ownsRow w.heap.size 27 13 (.slice ka K kc) K (kl.flatMap LI.cells)) := Lib.hid (by have := HK.out.row.own y8 (fun p hp => h8.box p (List.mem_append_right _ (List.mem_cons_of_mem _ hp))); unfold OwnS at this; rw [HKL.out] at this; exact this)
            clear h8 hx8
            go_wp2_with (first
              | (refine wpList_load_mid (by rfl) 27 _ (by rfl) sb (so + j * 13) (by rfl) [.int .i64 kind, .int .i64 fr, .int .i64 to, .int .i64 te, .int .i64 ix, .int .i64 at_, .int .i64 co, .int .i64 me, .int .i64 off, .int .i64 sz, .bool yes, .string data, .slice ea n2 ec] _ (HRG.out _ (HX8.out)) HU27.out (by rfl) HI27.out ?_)
              | (at_builtin; refine wpList_own_push2 (w := y8) rfl _ _ 44 rfl w.heap.size 27 27 j0 _ 13 128 Try.underlying44 hjj hy0 hy1 hy2 rfl (by decide) _ K 1 1 _ [.int .i64 kind, .int .i64 fr, .int .i64 to, .int .i64 te, .int .i64 ix, .int .i64 at_, .int .i64 co, .int .i64 me, .int .i64 off, .int .i64 sz, .bool yes, .string data, .slice ea n2 ec] OK8.out rfl rfl rfl rfl ?b1 ?b2 ?b3 HX8.out.size ?_)
              | fail)
            case b1 => intro u hu; simp only [List.mem_cons, List.not_mem_nil, or_false] at hu; rcases hu with rfl | rfl | rfl | rfl | rfl | rfl | rfl | rfl | rfl | rfl | rfl | rfl | rfl <;> rfl
            case b2 => unfold maxLen; omega
            case b3 => omega
            intro v9 y9 ho9 hb9 ha9
            obtain ⟨kb, kd, rfl⟩ := own_sl ho9
            obtain ⟨Ks', hK9, h9, hlow9⟩ := KS.push (N' := [(⟨kind, fr, to, te, ix, at_, co, me, off, sz, yes, data⟩, es)]) (Es := Es ++ [(tb, (.cells #[.int .i64 kind, .int .i64 fr, .int .i64 to, .int .i64 te, .int .i64 ix, .int .i64 at_, .int .i64 co, .int .i64 me, .int .i64 off, .int .i64 sz, .bool yes, .string data, .slice a5 n2 k5] 27))]) HK.out (by rw [List.append_assoc]; exact H8.out) (fun p hp q hq => by
                have h1 := HT.out.2.1 q hq
                rcases List.mem_append.1 hp with hp | hp
                · have := HR.out.low p hp; have := HT.out.1; omega
                · rw [List.mem_singleton.1 hp]; exact Nat.ne_of_gt h1) ⟨⟨kind, fr, to, te, ix, at_, co, me, off, sz, yes, data⟩, ea, ec, es⟩ HQ.out HRP.out (by rw [HKL.out]; omega) (by rw [HKL.out]; simpa [LI.cells, LI.ev, HES.out] using ho9) hb9 ha9
            rw [List.append_assoc] at h9
            have HK9 := Lib.hid hK9
            have HK9b : Hid (∀ p ∈ Ks', p.1 < y8.heap.size → p.1 < tb) := Lib.hid fun p hp hlt => by obtain ⟨q, hq, he⟩ := hlow9 p hp hlt; have := HT.out.2.1 q hq; omega
            have hys : ∀ p ∈ Es ++ [(tb, (.cells #[.int .i64 kind, .int .i64 fr, .int .i64 to, .int .i64 te, .int .i64 ix, .int .i64 at_, .int .i64 co, .int .i64 me, .int .i64 off, .int .i64 sz, .bool yes, .string data, .slice a5 n2 k5] 27))], p.1 < y8.heap.size := fun p hp => blk_lt (H8.out.box p (by rcases List.mem_append.1 hp with hp | hp; exact List.mem_append_left _ hp; exact List.mem_append_right _ (List.mem_cons.2 (.inl (List.mem_singleton.1 hp)))))
            have HE0 : Hid (NS NT w w.heap.size y9 (NL kl ++ [(⟨kind, fr, to, te, ix, at_, co, me, off, sz, yes, data⟩, es)]) 0 (Es ++ (tb, (.cells #[.int .i64 kind, .int .i64 fr, .int .i64 to, .int .i64 te, .int .i64 ix, .int .i64 at_, .int .i64 co, .int .i64 me, .int .i64 off, .int .i64 sz, .bool yes, .string data, .slice a5 n2 k5] 27)) :: Ks')) := Lib.hid h9
            have HE1 : Hid (0 < n2 → ∃ g cur, Es = [(g, Obj.cells cur 49 (0, 0))] ∧ a5 = some ⟨g, 0, none⟩ ∧ n2 * 3 ≤ cur.size ∧ w.heap.size ≤ g ∧ g ≠ tb ∧ ∀ p ∈ Ks', p.1 ≠ g) := Lib.hid fun h0 => by
              obtain ⟨g, cur, e1, e2, e3, e4, e5, e6⟩ := HE5.out h0
              refine ⟨g, cur, e1, e2, e3, e4, e5, fun p hp he => ?_⟩
              have hgy : g < y8.heap.size := hys (g, _) (by rw [e1]; exact List.mem_append_left _ List.mem_cons_self)
              have := HK9b.out p hp (by omega)
              omega
            clear hK9 h9 hlow9 ho9 hb9 ha9 hys OK8 H8 HO7 H7 HE5 HK
            go_wp2_with fail
            go_loopw [7] (fun iv wq => ∃ (k : Nat) (Eo : List (Nat × Obj)), k ≤ n2 ∧ iv = .int .i64 ((k : Nat) : Int) ∧ Hid (NS NT w w.heap.size wq (NL kl ++ [(⟨kind, fr, to, te, ix, at_, co, me, off, sz, yes, data⟩, es)]) 0 (Eo ++ (tb, (.cells #[.int .i64 kind, .int .i64 fr, .int .i64 to, .int .i64 te, .int .i64 ix, .int .i64 at_, .int .i64 co, .int .i64 me, .int .i64 off, .int .i64 sz, .bool yes, .string data, .slice a5 n2 k5] 27)) :: Ks')) ∧ Hid (0 < n2 → ∃ g cur, Eo = [(g, Obj.cells cur 49 (0, 0))] ∧ a5 = some ⟨g, 0, none⟩ ∧ n2 * 3 ≤ cur.size ∧ w.heap.size ≤ g ∧ g ≠ tb ∧ ∀ p ∈ Ks', p.1 ≠ g)) (fun iv _ => n2 - (intOf iv).toNat)
            case atStart => exact ⟨0, Es, by omega, rfl, HE0, HE1⟩
            case round =>
              rename World => wq
              obtain ⟨k, Eo, hk, rfl, HE, HG⟩ := hrel
              have BQ := Lib.hid (HE.out.box (tb, _) (List.mem_append_right _ List.mem_cons_self))
              obtain ⟨q12, _⟩ := blkG BQ.out 12 (.slice a5 n2 k5) rfl
              clear HE0 HE1
              by_cases hkl : k < n2
              · have hk0 : (0 : Int) ≤ (k : Int) := by omega
                have hk1 : k ≤ 100 := by have := H20.out; omega
                have hki : (k : Int) < (n2 : Int) := by omega
                obtain ⟨g, cur, rfl, hav, hcs, hgw, hgt, hgk⟩ := HG.out (by omega)
                rw [hav] at q12
                have GQ := Lib.hid (HE.out.box (g, _) (List.mem_append_left _ List.mem_cons_self))
                have HCS : Hid (k * 3 + 3 ≤ cur.size) := Lib.hid (by omega)
                have HGX := Lib.hid (And.intro hav (And.intro hcs (And.intro hgw (And.intro hgt hgk))))
                clear hcs hgw hgt hgk hav HG
                go_wp2_with (first
                  | (refine wpList_store_blk (by rfl) 49 _ _ (by rfl) g (k * 3) #[.int .i64 (-1), .int .i64 0, .string ⟨#[]⟩] (by rfl) (by rfl) GQ.out 3 (by rfl) HCS.out HI49.out (by rfl) _ (by rfl) ?_; intro zq hz hkz; have HE2 := Lib.hid (NS.set (Es := []) HE.out HGX.out.2.2.1 hz hkz (fun p hp => by cases hp) (fun p hp => by rcases List.mem_cons.1 hp with rfl | hp; exact Ne.symm HGX.out.2.2.2.1; exact HGX.out.2.2.2.2 p hp)); clear hz hkz)
                  | fail)
                exact ⟨⟨k + 1, _, by omega, by simp, HE2, Lib.hid fun _ => ⟨g, _, rfl, HGX.out.1, by rw [set3_size _ _ _ rfl HCS.out]; exact HGX.out.2.1, HGX.out.2.2⟩⟩, by simp [intOf]; omega⟩
              · have hki : ¬ (k : Int) < (n2 : Int) := by omega
                go_wp2_with fail
                exact ⟨⟨j + 1, kl ++ [⟨⟨kind, fr, to, te, ix, at_, co, me, off, sz, yes, data⟩, ea, ec, es⟩], Ks', by omega, by simp, HK9, Lib.hid (by rw [NL_snoc]; exact HE.out.less (fun p hp => List.mem_append_right _ (List.mem_cons_of_mem _ hp)))⟩, by simp [intOf]; omega⟩
          · have hkfi : ¬ (K : Int) < 160 := by omega
            go_wp2_with (first
              | (refine wpList_load_mid (by rfl) 27 _ (by rfl) sb (so + j * 13) (by rfl) [.int .i64 kind, .int .i64 fr, .int .i64 to, .int .i64 te, .int .i64 ix, .int .i64 at_, .int .i64 co, .int .i64 me, .int .i64 off, .int .i64 sz, .bool yes, .string data, .slice ea n2 ec] _ (HRG.out _ (HX7.out)) HU27.out (by rfl) HI27.out ?_)
              | fail)
            go_at_call 18
            refine (ref_yes ⟨kind, fr, to, te, ix, at_, co, me, off, sz, yes, data⟩ ea ec n2 es HES.out (by have := H20.out; omega) HRP.out y7 (by rw [← HES.out]; exact SlS.ext HQ.out.2.2 HX7.out)).mono ?_
            rintro e y8 ⟨rfl, hx8⟩
            have h8 := H7.out.grow hx8
            have HX8 := Lib.hid h8.ext
            obtain rfl : N7 = NL kl := OneR.one HO7.out (.inr ⟨.inr (by rw [NL_len, HKL.out]; omega), rfl⟩)
            have HE0 : Hid (NS NT w w.heap.size y8 (NL kl) 0 (Es ++ (tb, (.cells #[.int .i64 kind, .int .i64 fr, .int .i64 to, .int .i64 te, .int .i64 ix, .int .i64 at_, .int .i64 co, .int .i64 me, .int .i64 off, .int .i64 sz, .bool yes, .string data, .slice a5 n2 k5] 27)) :: Ks)) := Lib.hid h8
            have HE1 : Hid (0 < n2 → ∃ g cur, Es = [(g, Obj.cells cur 49 (0, 0))] ∧ a5 = some ⟨g, 0, none⟩ ∧ n2 * 3 ≤ cur.size ∧ w.heap.size ≤ g ∧ g ≠ tb ∧ ∀ p ∈ Ks, p.1 ≠ g) := Lib.hid fun h0 => by
              obtain ⟨g, cur, e1, e2, e3, e4, e5, e6⟩ := HE5.out h0
              exact ⟨g, cur, e1, e2, e3, e4, e5, fun p hp he => by have := HT.out.2.1 p hp; omega⟩
            clear h8 hx8 HO7 H7 HE5
            go_wp2_with fail
            go_loopw [7] (fun iv wq => ∃ (k : Nat) (Eo : List (Nat × Obj)), k ≤ n2 ∧ iv = .int .i64 ((k : Nat) : Int) ∧ Hid (NS NT w w.heap.size wq (NL kl) 0 (Eo ++ (tb, (.cells #[.int .i64 kind, .int .i64 fr, .int .i64 to, .int .i64 te, .int .i64 ix, .int .i64 at_, .int .i64 co, .int .i64 me, .int .i64 off, .int .i64 sz, .bool yes, .string data, .slice a5 n2 k5] 27)) :: Ks)) ∧ Hid (0 < n2 → ∃ g cur, Eo = [(g, Obj.cells cur 49 (0, 0))] ∧ a5 = some ⟨g, 0, none⟩ ∧ n2 * 3 ≤ cur.size ∧ w.heap.size ≤ g ∧ g ≠ tb ∧ ∀ p ∈ Ks, p.1 ≠ g)) (fun iv _ => n2 - (intOf iv).toNat)
            case atStart => exact ⟨0, Es, by omega, rfl, HE0, HE1⟩
            case round =>
              rename World => wq
              obtain ⟨k, Eo, hk, rfl, HE, HG⟩ := hrel
              have BQ := Lib.hid (HE.out.box (tb, _) (List.mem_append_right _ List.mem_cons_self))
              obtain ⟨q12, _⟩ := blkG BQ.out 12 (.slice a5 n2 k5) rfl
              clear HE0 HE1
              by_cases hkl : k < n2
              · have hk0 : (0 : Int) ≤ (k : Int) := by omega
                have hk1 : k ≤ 100 := by have := H20.out; omega
                have hki : (k : Int) < (n2 : Int) := by omega
                obtain ⟨g, cur, rfl, hav, hcs, hgw, hgt, hgk⟩ := HG.out (by omega)
                rw [hav] at q12
                have GQ := Lib.hid (HE.out.box (g, _) (List.mem_append_left _ List.mem_cons_self))
                have HCS : Hid (k * 3 + 3 ≤ cur.size) := Lib.hid (by omega)
                have HGX := Lib.hid (And.intro hav (And.intro hcs (And.intro hgw (And.intro hgt hgk))))
                clear hcs hgw hgt hgk hav HG
                go_wp2_with (first
                  | (refine wpList_store_blk (by rfl) 49 _ _ (by rfl) g (k * 3) #[.int .i64 (-1), .int .i64 0, .string ⟨#[]⟩] (by rfl) (by rfl) GQ.out 3 (by rfl) HCS.out HI49.out (by rfl) _ (by rfl) ?_; intro zq hz hkz; have HE2 := Lib.hid (NS.set (Es := []) HE.out HGX.out.2.2.1 hz hkz (fun p hp => by cases hp) (fun p hp => by rcases List.mem_cons.1 hp with rfl | hp; exact Ne.symm HGX.out.2.2.2.1; exact HGX.out.2.2.2.2 p hp)); clear hz hkz)
                  | fail)
                exact ⟨⟨k + 1, _, by omega, by simp, HE2, Lib.hid fun _ => ⟨g, _, rfl, HGX.out.1, by rw [set3_size _ _ _ rfl HCS.out]; exact HGX.out.2.1, HGX.out.2.2⟩⟩, by simp [intOf]; omega⟩
              · have hki : ¬ (k : Int) < (n2 : Int) := by omega
                go_wp2_with fail
                exact ⟨⟨j + 1, kl, Ks, by omega, by simp, HK, Lib.hid (HE.out.less (fun p hp => List.mem_append_right _ (List.mem_cons_of_mem _ hp)))⟩, by simp [intOf]; omega⟩
        · have HRP := Lib.hid hR
          clear hR
          go_wp2_with (first
            | (refine wpList_load_mid (by rfl) 27 _ (by rfl) sb (so + j * 13) (by rfl) [.int .i64 kind, .int .i64 fr, .int .i64 to, .int .i64 te, .int .i64 ix, .int .i64 at_, .int .i64 co, .int .i64 me, .int .i64 off, .int .i64 sz, .bool yes, .string data, .slice ea n2 ec] _ (HRG.out _ (HX7.out)) HU27.out (by rfl) HI27.out ?_)
            | fail)
          go_at_call 18
          refine (ref_no ⟨kind, fr, to, te, ix, at_, co, me, off, sz, yes, data⟩ ea ec n2 es HES.out (by have := H20.out; omega) HRP.out y7 (by rw [← HES.out]; exact SlS.ext HQ.out.2.2 HX7.out)).mono ?_
          rintro e y8 ⟨rfl, hx8⟩
          have h8 := H7.out.grow hx8
          have HX8 := Lib.hid h8.ext
          obtain rfl : N7 = NL kl := OneR.one HO7.out (.inr ⟨.inl HRP.out, rfl⟩)
          have HE0 : Hid (NS NT w w.heap.size y8 (NL kl) 0 (Es ++ (tb, (.cells #[.int .i64 kind, .int .i64 fr, .int .i64 to, .int .i64 te, .int .i64 ix, .int .i64 at_, .int .i64 co, .int .i64 me, .int .i64 off, .int .i64 sz, .bool yes, .string data, .slice a5 n2 k5] 27)) :: Ks)) := Lib.hid h8
          have HE1 : Hid (0 < n2 → ∃ g cur, Es = [(g, Obj.cells cur 49 (0, 0))] ∧ a5 = some ⟨g, 0, none⟩ ∧ n2 * 3 ≤ cur.size ∧ w.heap.size ≤ g ∧ g ≠ tb ∧ ∀ p ∈ Ks, p.1 ≠ g) := Lib.hid fun h0 => by
            obtain ⟨g, cur, e1, e2, e3, e4, e5, e6⟩ := HE5.out h0
            exact ⟨g, cur, e1, e2, e3, e4, e5, fun p hp he => by have := HT.out.2.1 p hp; omega⟩
          clear h8 hx8 HO7 H7 HE5
          go_wp2_with fail
          go_loopw [7] (fun iv wq => ∃ (k : Nat) (Eo : List (Nat × Obj)), k ≤ n2 ∧ iv = .int .i64 ((k : Nat) : Int) ∧ Hid (NS NT w w.heap.size wq (NL kl) 0 (Eo ++ (tb, (.cells #[.int .i64 kind, .int .i64 fr, .int .i64 to, .int .i64 te, .int .i64 ix, .int .i64 at_, .int .i64 co, .int .i64 me, .int .i64 off, .int .i64 sz, .bool yes, .string data, .slice a5 n2 k5] 27)) :: Ks)) ∧ Hid (0 < n2 → ∃ g cur, Eo = [(g, Obj.cells cur 49 (0, 0))] ∧ a5 = some ⟨g, 0, none⟩ ∧ n2 * 3 ≤ cur.size ∧ w.heap.size ≤ g ∧ g ≠ tb ∧ ∀ p ∈ Ks, p.1 ≠ g)) (fun iv _ => n2 - (intOf iv).toNat)
          case atStart => exact ⟨0, Es, by omega, rfl, HE0, HE1⟩
          case round =>
            rename World => wq
            obtain ⟨k, Eo, hk, rfl, HE, HG⟩ := hrel
            have BQ := Lib.hid (HE.out.box (tb, _) (List.mem_append_right _ List.mem_cons_self))
            obtain ⟨q12, _⟩ := blkG BQ.out 12 (.slice a5 n2 k5) rfl
            clear HE0 HE1
            by_cases hkl : k < n2
            · have hk0 : (0 : Int) ≤ (k : Int) := by omega
              have hk1 : k ≤ 100 := by have := H20.out; omega
              have hki : (k : Int) < (n2 : Int) := by omega
              obtain ⟨g, cur, rfl, hav, hcs, hgw, hgt, hgk⟩ := HG.out (by omega)
              rw [hav] at q12
              have GQ := Lib.hid (HE.out.box (g, _) (List.mem_append_left _ List.mem_cons_self))
              have HCS : Hid (k * 3 + 3 ≤ cur.size) := Lib.hid (by omega)
              have HGX := Lib.hid (And.intro hav (And.intro hcs (And.intro hgw (And.intro hgt hgk))))
              clear hcs hgw hgt hgk hav HG
              go_wp2_with (first
                | (refine wpList_store_blk (by rfl) 49 _ _ (by rfl) g (k * 3) #[.int .i64 (-1), .int .i64 0, .string ⟨#[]⟩] (by rfl) (by rfl) GQ.out 3 (by rfl) HCS.out HI49.out (by rfl) _ (by rfl) ?_; intro zq hz hkz; have HE2 := Lib.hid (NS.set (Es := []) HE.out HGX.out.2.2.1 hz hkz (fun p hp => by cases hp) (fun p hp => by rcases List.mem_cons.1 hp with rfl | hp; exact Ne.symm HGX.out.2.2.2.1; exact HGX.out.2.2.2.2 p hp)); clear hz hkz)
                | fail)
              exact ⟨⟨k + 1, _, by omega, by simp, HE2, Lib.hid fun _ => ⟨g, _, rfl, HGX.out.1, by rw [set3_size _ _ _ rfl HCS.out]; exact HGX.out.2.1, HGX.out.2.2⟩⟩, by simp [intOf]; omega⟩
            · have hki : ¬ (k : Int) < (n2 : Int) := by omega
              go_wp2_with fail
              exact ⟨⟨j + 1, kl, Ks, by omega, by simp, HK, Lib.hid (HE.out.less (fun p hp => List.mem_append_right _ (List.mem_cons_of_mem _ hp)))⟩, by simp [intOf]; omega⟩
    · have hex : j = n ∨ (j < n ∧ 200 ≤ j) := by omega
      have HKK := Lib.hid (And.intro hkc hkm)
      clear HL HIN HN hkc hkm
      rcases hex with rfl | ⟨h1, h2⟩
      · skip
        go_wp2_with fail
        go_at_call 9
        refine (ns_len HP.out).mono ?_
        rintro e y0 ⟨rfl, h0⟩
        rw [NL_len, HKL.out]
        have H0 := Lib.hid h0
        clear h0 HP
        go_wp2_with fail
        go_loopw [8] (fun iv wr3 => ∃ j2 : Nat, j2 ≤ K ∧ iv = .int .i64 ((j2 : Nat) : Int) ∧ Hid (NS NT w w.heap.size wr3 (NL (kl.drop j2)) 0 Ks)) (fun iv _ => K - (intOf iv).toNat)
        case atStart => exact ⟨0, by omega, rfl, H0⟩
        case round =>
          rename World => wr3
          obtain ⟨j2, hj2, rfl, HP⟩ := hrel
          clear H0
          by_cases hlt2 : j2 < K
          · have hj2x : j2 < kl.length := by rw [HKL.out]; exact hlt2
            obtain ⟨q, hqe⟩ : ∃ q, kl[j2] = q := ⟨_, rfl⟩
            have hdr : kl.drop j2 = q :: kl.drop (j2 + 1) := by rw [List.drop_eq_getElem_cons hj2x, hqe]
            have hqm : q ∈ kl := by rw [← hqe]; exact List.getElem_mem _
            have hqin := HK.out.inn q hqm
            have hokd := KS.tail (w := w) HK.out.ok j2
            have hld : (NL (kl.drop j2)).length ≤ 160 := by rw [NL_len, List.length_drop]; have := HK.out.len; omega
            rw [hdr] at HP hokd hld
            have hqr : RightP q.m q.es := hokd (q.m, q.es) (by simp [NL])
            have hq8 := right_len hqr
            obtain ⟨gk, kcap, cur, hkv, hk5, hk6, hk7⟩ := HK.out.row.pos HP.out.box (by omega)
            simp only [Value.slice.injEq] at hkv
            obtain ⟨rfl, hk4, rfl⟩ := hkv
            clear hk4 hk5 hk6 hk7
            have hkcx : ∀ z : World, (∀ p ∈ Ks, z.heap[p.1]? = some p.2) → ∀ i, i < 13 → z.cell? ⟨gk, j2 * 13 + i, none⟩ = q.cells[i]? := fun z hz i hi => by
              have := ((OwnS.at_ LI.len (HK.out.row.own z hz) HKL.out.symm j2 hj2x).1 i hi).1
              rwa [hqe] at this
            have hk0 : (0 : Int) ≤ (j2 : Int) := by omega
            have hki : (j2 : Int) < (K : Int) := by omega
            have hj160 : j2 ≤ 160 := by have := HK.out.len; omega
            obtain ⟨m, qa, qc, qes⟩ := q
            obtain ⟨n3, hes3⟩ : ∃ n3, qes.length = n3 := ⟨_, rfl⟩
            obtain ⟨p0, p1, p2, p3, p4, p5, p6, p7, p8, p9, p10, p11⟩ := m
            simp only [LI.cells, LI.ev, hes3] at hkcx
            have HKC := Lib.hid hkcx
            have HQI := Lib.hid hqin
            have HOKD := Lib.hid (And.intro hokd hld)
            have HES3 := Lib.hid hes3
            have HQ8 : Hid (n3 ≤ 8) := Lib.hid (by simp only at hq8; omega)
            have hKlow : ∀ p ∈ Ks, p.1 < wr3.heap.size := fun p hp => blk_lt (HP.out.box p hp)
            have HKLOW := Lib.hid hKlow
            clear hqe hdr hqm hqin hokd hld hqr hq8 hkcx hes3 hj2x hKlow
            go_wp2_with fail
            go_at_call 10
            refine (ns_twiceB HP.out HOKD.out.1 (by decide) (by decide) HOKD.out.2 0).mono ?_
            rintro e y1 ⟨ht, hall⟩
            obtain ⟨a1, k1, rfl, ho⟩ := Told.ok ht ask_head
            simp only [HES3.out, Lt.agg] at ho ⊢
            obtain ⟨Es, hE, hE5⟩ := RowB.of ho
            have h1 := hall Es (fun p hp => ⟨hE.low p hp, hE5 p hp⟩)
            have H1 := Lib.hid h1
            have HR := Lib.hid hE
            clear ht hall ho h1 hE hE5
            go_wp2_with (first
              | (refine wpList_store_blk (by rfl) 27 _ _ (by rfl) (y1.heap.size) 0 #[.int .i64 p0, .int .i64 p1, .int .i64 p2, .int .i64 p3, .int .i64 p4, .int .i64 p5, .int .i64 p6, .int .i64 p7, .int .i64 p8, .int .i64 p9, .bool p10, .string p11, .slice a1 n3 k1] (by rfl) (by rfl) (new_blk y1 (.cells #[.int .i64 0, .int .i64 0, .int .i64 0, .int .i64 0, .int .i64 0, .int .i64 0, .int .i64 0, .int .i64 0, .int .i64 0, .int .i64 0, .bool false, .string ⟨#[]⟩, .slice none 0 0] 27)) 13 (by rfl) (by exact Nat.le_refl 13) HI27.out (by rfl) #[.int .i64 p0, .int .i64 p1, .int .i64 p2, .int .i64 p3, .int .i64 p4, .int .i64 p5, .int .i64 p6, .int .i64 p7, .int .i64 p8, .int .i64 p9, .bool p10, .string p11, .slice a1 n3 k1] (by rfl) ?_; intro z2 hz hkz; have H2 := Lib.hid (NS.add H1.out hz hkz); have DR := Lib.hid hz; clear hz hkz)
              | fail)
            have HW3 := Lib.hid (row_pos2 HR.out HES3.out (fun p hp => H1.out.box p (List.mem_append_left _ hp)) HP.out.ext.size HKLOW.out)
            obtain ⟨tb, htb⟩ : ∃ tb, y1.heap.size = tb := ⟨_, rfl⟩
            rw [htb] at H2 DR HW3 ⊢
            have hs2 := fun (x : World) (hx : Ext z2 x) => lsame_yes ⟨p0, p1, p2, p3, p4, p5, p6, p7, p8, p9, p10, p11⟩ a1 qa k1 qc n3 qes HES3.out x (SlS.ext (OwnS.rd (HR.out.own z2 (fun p hp => H2.out.box p (List.mem_cons_of_mem _ (List.mem_append_left _ hp))))) hx) (by have h := SlS.ext HQI.out.2.2 (H2.out.ext.trans hx); simp only [LI.ev, HES3.out] at h; exact h) (by have := HQ8.out; omega)
            simp only [Lt.agg] at hs2
            have HS2 := Lib.hid hs2
            clear hs2
            have ub0 := fun (x : SubW (Ext z2)) => (blkG (ext_blk x.ok DR.out) 0 (.int .i64 p0) rfl).1
            have ub1 := fun (x : SubW (Ext z2)) => (blkG (ext_blk x.ok DR.out) 1 (.int .i64 p1) rfl).1
            have ub2 := fun (x : SubW (Ext z2)) => (blkG (ext_blk x.ok DR.out) 2 (.int .i64 p2) rfl).1
            have ub3 := fun (x : SubW (Ext z2)) => (blkG (ext_blk x.ok DR.out) 3 (.int .i64 p3) rfl).1
            have ub4 := fun (x : SubW (Ext z2)) => (blkG (ext_blk x.ok DR.out) 4 (.int .i64 p4) rfl).1
            have ub5 := fun (x : SubW (Ext z2)) => (blkG (ext_blk x.ok DR.out) 5 (.int .i64 p5) rfl).1
            have ub6 := fun (x : SubW (Ext z2)) => (blkG (ext_blk x.ok DR.out) 6 (.int .i64 p6) rfl).1
            have ub7 := fun (x : SubW (Ext z2)) => (blkG (ext_blk x.ok DR.out) 7 (.int .i64 p7) rfl).1
            have ub8 := fun (x : SubW (Ext z2)) => (blkG (ext_blk x.ok DR.out) 8 (.int .i64 p8) rfl).1
            have ub9 := fun (x : SubW (Ext z2)) => (blkG (ext_blk x.ok DR.out) 9 (.int .i64 p9) rfl).1
            have ub10 := fun (x : SubW (Ext z2)) => (blkG (ext_blk x.ok DR.out) 10 (.bool p10) rfl).1
            have ub11 := fun (x : SubW (Ext z2)) => (blkG (ext_blk x.ok DR.out) 11 (.string p11) rfl).1
            have ub12 := fun (x : SubW (Ext z2)) => (blkG (ext_blk x.ok DR.out) 12 (.slice a1 n3 k1) rfl).1
            have uk0 := fun (x : SubW (Ext z2)) => (HKC.out x.w (fun p hp => ext_blk x.ok (H2.out.box p (List.mem_cons_of_mem _ (List.mem_append_right _ hp)))) 0 (by decide)).trans (show _ = some (.int .i64 p0) from rfl)
            have uk1 := fun (x : SubW (Ext z2)) => (HKC.out x.w (fun p hp => ext_blk x.ok (H2.out.box p (List.mem_cons_of_mem _ (List.mem_append_right _ hp)))) 1 (by decide)).trans (show _ = some (.int .i64 p1) from rfl)
            have uk2 := fun (x : SubW (Ext z2)) => (HKC.out x.w (fun p hp => ext_blk x.ok (H2.out.box p (List.mem_cons_of_mem _ (List.mem_append_right _ hp)))) 2 (by decide)).trans (show _ = some (.int .i64 p2) from rfl)
            have uk3 := fun (x : SubW (Ext z2)) => (HKC.out x.w (fun p hp => ext_blk x.ok (H2.out.box p (List.mem_cons_of_mem _ (List.mem_append_right _ hp)))) 3 (by decide)).trans (show _ = some (.int .i64 p3) from rfl)
            have uk4 := fun (x : SubW (Ext z2)) => (HKC.out x.w (fun p hp => ext_blk x.ok (H2.out.box p (List.mem_cons_of_mem _ (List.mem_append_right _ hp)))) 4 (by decide)).trans (show _ = some (.int .i64 p4) from rfl)
            have uk5 := fun (x : SubW (Ext z2)) => (HKC.out x.w (fun p hp => ext_blk x.ok (H2.out.box p (List.mem_cons_of_mem _ (List.mem_append_right _ hp)))) 5 (by decide)).trans (show _ = some (.int .i64 p5) from rfl)
            have uk6 := fun (x : SubW (Ext z2)) => (HKC.out x.w (fun p hp => ext_blk x.ok (H2.out.box p (List.mem_cons_of_mem _ (List.mem_append_right _ hp)))) 6 (by decide)).trans (show _ = some (.int .i64 p6) from rfl)
            have uk7 := fun (x : SubW (Ext z2)) => (HKC.out x.w (fun p hp => ext_blk x.ok (H2.out.box p (List.mem_cons_of_mem _ (List.mem_append_right _ hp)))) 7 (by decide)).trans (show _ = some (.int .i64 p7) from rfl)
            have uk8 := fun (x : SubW (Ext z2)) => (HKC.out x.w (fun p hp => ext_blk x.ok (H2.out.box p (List.mem_cons_of_mem _ (List.mem_append_right _ hp)))) 8 (by decide)).trans (show _ = some (.int .i64 p8) from rfl)
            have uk9 := fun (x : SubW (Ext z2)) => (HKC.out x.w (fun p hp => ext_blk x.ok (H2.out.box p (List.mem_cons_of_mem _ (List.mem_append_right _ hp)))) 9 (by decide)).trans (show _ = some (.int .i64 p9) from rfl)
            have uk10 := fun (x : SubW (Ext z2)) => (HKC.out x.w (fun p hp => ext_blk x.ok (H2.out.box p (List.mem_cons_of_mem _ (List.mem_append_right _ hp)))) 10 (by decide)).trans (show _ = some (.bool p10) from rfl)
            have uk11 := fun (x : SubW (Ext z2)) => (HKC.out x.w (fun p hp => ext_blk x.ok (H2.out.box p (List.mem_cons_of_mem _ (List.mem_append_right _ hp)))) 11 (by decide)).trans (show _ = some (.string p11) from rfl)
            have uk12 := fun (x : SubW (Ext z2)) => (HKC.out x.w (fun p hp => ext_blk x.ok (H2.out.box p (List.mem_cons_of_mem _ (List.mem_append_right _ hp)))) 12 (by decide)).trans (show _ = some (.slice qa n3 qc) from rfl)
            simp only [Nat.add_zero] at uk0
            have inst : Nonempty (SubW (Ext z2)) := ⟨⟨_, Ext.refl _⟩⟩
            clear H1 HP
            refine wp_region_quietS (Ext z2) (by kernel_rfl) (by kernel_rfl) ((Ext.refl _).drew) ?_
            repeat (go_big_quiet_step (first
              | (go_at_call 13; with_reducible exact quietS_ext (HS2.out _ (SubW.ok _)))))
            refine wpQuiet_nil ?_
            rintro _ ⟨y5, rfl⟩
            have hx6 := y5.ok
            generalize y5.w = x5 at hx6 ⊢
            have HE0 : Hid (NS NT w w.heap.size x5 (NL (⟨⟨p0, p1, p2, p3, p4, p5, p6, p7, p8, p9, p10, p11⟩, qa, qc, qes⟩ :: kl.drop (j2 + 1))) 0 (Es ++ (tb, (.cells #[.int .i64 p0, .int .i64 p1, .int .i64 p2, .int .i64 p3, .int .i64 p4, .int .i64 p5, .int .i64 p6, .int .i64 p7, .int .i64 p8, .int .i64 p9, .bool p10, .string p11, .slice a1 n3 k1] 27)) :: Ks)) := Lib.hid ((H2.out.grow hx6).less (fun p hp => by
              rcases List.mem_append.1 hp with hp | hp
              · exact List.mem_cons_of_mem _ (List.mem_append_left _ hp)
              · rcases List.mem_cons.1 hp with rfl | hp
                · exact List.mem_cons_self
                · exact List.mem_cons_of_mem _ (List.mem_append_right _ hp)))
            have HE1 := HW3
            clear inst HS2 H2 DR HR HW3 hx6 ub0 ub1 ub2 ub3 ub4 ub5 ub6 ub7 ub8 ub9 ub10 ub11 ub12 uk0 uk1 uk2 uk3 uk4 uk5 uk6 uk7 uk8 uk9 uk10 uk11 uk12
            go_wp2_with fail
            go_loopw [12] (fun iv wq => ∃ (k : Nat) (Eo : List (Nat × Obj)), k ≤ n3 ∧ iv = .int .i64 ((k : Nat) : Int) ∧ Hid (NS NT w w.heap.size wq (NL (⟨⟨p0, p1, p2, p3, p4, p5, p6, p7, p8, p9, p10, p11⟩, qa, qc, qes⟩ :: kl.drop (j2 + 1))) 0 (Eo ++ (tb, (.cells #[.int .i64 p0, .int .i64 p1, .int .i64 p2, .int .i64 p3, .int .i64 p4, .int .i64 p5, .int .i64 p6, .int .i64 p7, .int .i64 p8, .int .i64 p9, .bool p10, .string p11, .slice a1 n3 k1] 27)) :: Ks)) ∧ Hid (0 < n3 → ∃ g cur, Eo = [(g, Obj.cells cur 49 (0, 0))] ∧ a1 = some ⟨g, 0, none⟩ ∧ n3 * 3 ≤ cur.size ∧ w.heap.size ≤ g ∧ g ≠ tb ∧ ∀ p ∈ Ks, p.1 ≠ g)) (fun iv _ => n3 - (intOf iv).toNat)
            case atStart => exact ⟨0, Es, by omega, rfl, HE0, HE1⟩
            case round =>
              rename World => wq
              obtain ⟨k, Eo, hk, rfl, HE, HG⟩ := hrel
              have BQ := Lib.hid (HE.out.box (tb, _) (List.mem_append_right _ List.mem_cons_self))
              obtain ⟨q12, _⟩ := blkG BQ.out 12 (.slice a1 n3 k1) rfl
              clear HE0 HE1
              by_cases hkl : k < n3
              · have hk0 : (0 : Int) ≤ (k : Int) := by omega
                have hk1 : k ≤ 100 := by have := HQ8.out; omega
                have hki : (k : Int) < (n3 : Int) := by omega
                obtain ⟨g, cur, rfl, hav, hcs, hgw, hgt, hgk⟩ := HG.out (by omega)
                rw [hav] at q12
                have GQ := Lib.hid (HE.out.box (g, _) (List.mem_append_left _ List.mem_cons_self))
                have HCS : Hid (k * 3 + 3 ≤ cur.size) := Lib.hid (by omega)
                have HGX := Lib.hid (And.intro hav (And.intro hcs (And.intro hgw (And.intro hgt hgk))))
                clear hcs hgw hgt hgk hav HG
                go_wp2_with (first
                  | (refine wpList_store_blk (by rfl) 49 _ _ (by rfl) g (k * 3) #[.int .i64 (-2), .int .i64 0, .string ⟨#[]⟩] (by rfl) (by rfl) GQ.out 3 (by rfl) HCS.out HI49.out (by rfl) _ (by rfl) ?_; intro zq hz hkz; have HE2 := Lib.hid (NS.set (Es := []) HE.out HGX.out.2.2.1 hz hkz (fun p hp => by cases hp) (fun p hp => by rcases List.mem_cons.1 hp with rfl | hp; exact Ne.symm HGX.out.2.2.2.1; exact HGX.out.2.2.2.2 p hp)); clear hz hkz)
                  | fail)
                exact ⟨⟨k + 1, _, by omega, by simp, HE2, Lib.hid fun _ => ⟨g, _, rfl, HGX.out.1, by rw [set3_size _ _ _ rfl HCS.out]; exact HGX.out.2.1, HGX.out.2.2⟩⟩, by simp [intOf]; omega⟩
              · have hki : ¬ (k : Int) < (n3 : Int) := by omega
                go_wp2_with fail
                go_at_call 11
                refine (ns_deliver (HE.out.less (As' := Ks) (fun p hp => List.mem_append_right _ (List.mem_cons_of_mem _ hp))) HOKD.out.1 (by decide) (by decide) (by have := HOKD.out.2; omega) 0).mono ?_
                rintro e y4 ⟨ht, h4⟩
                rw [erase_head] at h4
                obtain ⟨a2, k2, rfl, ho⟩ := Told.ok ht ask_head
                simp only [HES3.out, Lt.agg] at ho ⊢
                have H5 := Lib.hid h4
                have HO5 := Lib.hid ho
                clear ht h4 ho HE HG BQ q12
                go_wp2_with (first
                  | (refine wpList_store_blk (by rfl) 27 _ _ (by rfl) (y4.heap.size) 0 #[.int .i64 p0, .int .i64 p1, .int .i64 p2, .int .i64 p3, .int .i64 p4, .int .i64 p5, .int .i64 p6, .int .i64 p7, .int .i64 p8, .int .i64 p9, .bool p10, .string p11, .slice a2 n3 k2] (by rfl) (by rfl) (new_blk y4 (.cells #[.int .i64 0, .int .i64 0, .int .i64 0, .int .i64 0, .int .i64 0, .int .i64 0, .int .i64 0, .int .i64 0, .int .i64 0, .int .i64 0, .bool false, .string ⟨#[]⟩, .slice none 0 0] 27)) 13 (by rfl) (by exact Nat.le_refl 13) HI27.out (by rfl) #[.int .i64 p0, .int .i64 p1, .int .i64 p2, .int .i64 p3, .int .i64 p4, .int .i64 p5, .int .i64 p6, .int .i64 p7, .int .i64 p8, .int .i64 p9, .bool p10, .string p11, .slice a2 n3 k2] (by rfl) ?_; intro z5 hz hkz; have H6 := Lib.hid (NS.add H5.out hz hkz); have DR5 := Lib.hid hz; have HO6 := Lib.hid (own_addS HO5.out hkz); clear hz hkz)
                  | fail)
                have hs5 := fun (x : World) (hx : Ext z5 x) => lsame_yes ⟨p0, p1, p2, p3, p4, p5, p6, p7, p8, p9, p10, p11⟩ a2 qa k2 qc n3 qes HES3.out x (SlS.ext (OwnS.rd HO6.out) hx) (by have h := SlS.ext HQI.out.2.2 (H6.out.ext.trans hx); simp only [LI.ev, HES3.out] at h; exact h) (by have := HQ8.out; omega)
                simp only [Lt.agg] at hs5
                have HS5 := Lib.hid hs5
                clear hs5
                have vb0 := fun (x : SubW (Ext z5)) => (blkG (ext_blk x.ok DR5.out) 0 (.int .i64 p0) rfl).1
                have vb1 := fun (x : SubW (Ext z5)) => (blkG (ext_blk x.ok DR5.out) 1 (.int .i64 p1) rfl).1
                have vb2 := fun (x : SubW (Ext z5)) => (blkG (ext_blk x.ok DR5.out) 2 (.int .i64 p2) rfl).1
                have vb3 := fun (x : SubW (Ext z5)) => (blkG (ext_blk x.ok DR5.out) 3 (.int .i64 p3) rfl).1
                have vb4 := fun (x : SubW (Ext z5)) => (blkG (ext_blk x.ok DR5.out) 4 (.int .i64 p4) rfl).1
                have vb5 := fun (x : SubW (Ext z5)) => (blkG (ext_blk x.ok DR5.out) 5 (.int .i64 p5) rfl).1
                have vb6 := fun (x : SubW (Ext z5)) => (blkG (ext_blk x.ok DR5.out) 6 (.int .i64 p6) rfl).1
                have vb7 := fun (x : SubW (Ext z5)) => (blkG (ext_blk x.ok DR5.out) 7 (.int .i64 p7) rfl).1
                have vb8 := fun (x : SubW (Ext z5)) => (blkG (ext_blk x.ok DR5.out) 8 (.int .i64 p8) rfl).1
                have vb9 := fun (x : SubW (Ext z5)) => (blkG (ext_blk x.ok DR5.out) 9 (.int .i64 p9) rfl).1
                have vb10 := fun (x : SubW (Ext z5)) => (blkG (ext_blk x.ok DR5.out) 10 (.bool p10) rfl).1
                have vb11 := fun (x : SubW (Ext z5)) => (blkG (ext_blk x.ok DR5.out) 11 (.string p11) rfl).1
                have vb12 := fun (x : SubW (Ext z5)) => (blkG (ext_blk x.ok DR5.out) 12 (.slice a2 n3 k2) rfl).1
                have vk0 := fun (x : SubW (Ext z5)) => (HKC.out x.w (fun p hp => ext_blk x.ok (H6.out.box p (List.mem_cons_of_mem _ hp))) 0 (by decide)).trans (show _ = some (.int .i64 p0) from rfl)
                have vk1 := fun (x : SubW (Ext z5)) => (HKC.out x.w (fun p hp => ext_blk x.ok (H6.out.box p (List.mem_cons_of_mem _ hp))) 1 (by decide)).trans (show _ = some (.int .i64 p1) from rfl)
                have vk2 := fun (x : SubW (Ext z5)) => (HKC.out x.w (fun p hp => ext_blk x.ok (H6.out.box p (List.mem_cons_of_mem _ hp))) 2 (by decide)).trans (show _ = some (.int .i64 p2) from rfl)
                have vk3 := fun (x : SubW (Ext z5)) => (HKC.out x.w (fun p hp => ext_blk x.ok (H6.out.box p (List.mem_cons_of_mem _ hp))) 3 (by decide)).trans (show _ = some (.int .i64 p3) from rfl)
                have vk4 := fun (x : SubW (Ext z5)) => (HKC.out x.w (fun p hp => ext_blk x.ok (H6.out.box p (List.mem_cons_of_mem _ hp))) 4 (by decide)).trans (show _ = some (.int .i64 p4) from rfl)
                have vk5 := fun (x : SubW (Ext z5)) => (HKC.out x.w (fun p hp => ext_blk x.ok (H6.out.box p (List.mem_cons_of_mem _ hp))) 5 (by decide)).trans (show _ = some (.int .i64 p5) from rfl)
                have vk6 := fun (x : SubW (Ext z5)) => (HKC.out x.w (fun p hp => ext_blk x.ok (H6.out.box p (List.mem_cons_of_mem _ hp))) 6 (by decide)).trans (show _ = some (.int .i64 p6) from rfl)
                have vk7 := fun (x : SubW (Ext z5)) => (HKC.out x.w (fun p hp => ext_blk x.ok (H6.out.box p (List.mem_cons_of_mem _ hp))) 7 (by decide)).trans (show _ = some (.int .i64 p7) from rfl)
                have vk8 := fun (x : SubW (Ext z5)) => (HKC.out x.w (fun p hp => ext_blk x.ok (H6.out.box p (List.mem_cons_of_mem _ hp))) 8 (by decide)).trans (show _ = some (.int .i64 p8) from rfl)
                have vk9 := fun (x : SubW (Ext z5)) => (HKC.out x.w (fun p hp => ext_blk x.ok (H6.out.box p (List.mem_cons_of_mem _ hp))) 9 (by decide)).trans (show _ = some (.int .i64 p9) from rfl)
                have vk10 := fun (x : SubW (Ext z5)) => (HKC.out x.w (fun p hp => ext_blk x.ok (H6.out.box p (List.mem_cons_of_mem _ hp))) 10 (by decide)).trans (show _ = some (.bool p10) from rfl)
                have vk11 := fun (x : SubW (Ext z5)) => (HKC.out x.w (fun p hp => ext_blk x.ok (H6.out.box p (List.mem_cons_of_mem _ hp))) 11 (by decide)).trans (show _ = some (.string p11) from rfl)
                have vk12 := fun (x : SubW (Ext z5)) => (HKC.out x.w (fun p hp => ext_blk x.ok (H6.out.box p (List.mem_cons_of_mem _ hp))) 12 (by decide)).trans (show _ = some (.slice qa n3 qc) from rfl)
                simp only [Nat.add_zero] at vk0
                have inst : Nonempty (SubW (Ext z5)) := ⟨⟨_, Ext.refl _⟩⟩
                clear HO6 HO5 H5 HKC HQI HOKD
                refine wp_region_quietS (Ext z5) (by kernel_rfl) (by kernel_rfl) ((Ext.refl _).drew) ?_
                repeat (go_big_quiet_step (first
                  | (go_at_call 13; with_reducible exact quietS_ext (HS5.out _ (SubW.ok _)))))
                refine wpQuiet_nil ?_
                rintro _ ⟨y5, rfl⟩
                have hx6 := y5.ok
                generalize y5.w = x6 at hx6 ⊢
                clear inst HS5 vb0 vb1 vb2 vb3 vb4 vb5 vb6 vb7 vb8 vb9 vb10 vb11 vb12 vk0 vk1 vk2 vk3 vk4 vk5 vk6 vk7 vk8 vk9 vk10 vk11 vk12
                go_wp2
                exact ⟨⟨j2 + 1, by omega, by simp, Lib.hid ((H6.out.grow hx6).less (fun p hp => List.mem_cons_of_mem _ hp))⟩, by simp [intOf]; omega⟩
          · have hki : ¬ (j2 : Int) < (K : Int) := by omega
            have hd : kl.drop j2 = [] := List.drop_eq_nil_of_le (by rw [HKL.out]; omega)
            rw [hd] at HP
            have HP2 : Hid (NS NT w w.heap.size wr3 [] 0 Ks) := HP
            clear hd HP
            go_wp2_with fail
            go_at_call 11
            refine (ns_deliver HP2.out (fun p hp => by cases hp) (by decide) (by decide) (by simp) 0).mono ?_
            rintro e y4 ⟨ht, h4⟩
            obtain rfl := toldN ht (by rfl)
            have H5 : Hid (NS NT w w.heap.size y4 [] 0 Ks) := Lib.hid h4
            clear ht h4
            go_wp2_with (first
              | (refine wpList_store_blk (by rfl) 27 _ _ (by rfl) (y4.heap.size) 0 #[.int .i64 0, .int .i64 0, .int .i64 0, .int .i64 0, .int .i64 0, .int .i64 0, .int .i64 0, .int .i64 0, .int .i64 0, .int .i64 0, .bool false, .string ⟨#[]⟩, .slice none 0 0] (by rfl) (by rfl) (new_blk y4 (.cells #[.int .i64 0, .int .i64 0, .int .i64 0, .int .i64 0, .int .i64 0, .int .i64 0, .int .i64 0, .int .i64 0, .int .i64 0, .int .i64 0, .bool false, .string ⟨#[]⟩, .slice none 0 0] 27)) 13 (by rfl) (by exact Nat.le_refl 13) HI27.out (by rfl) #[.int .i64 0, .int .i64 0, .int .i64 0, .int .i64 0, .int .i64 0, .int .i64 0, .int .i64 0, .int .i64 0, .int .i64 0, .int .i64 0, .bool false, .string ⟨#[]⟩, .slice none 0 0] (by rfl) ?_; intro z5 hz hkz; have H6 := Lib.hid (NS.add H5.out hz hkz); clear hz hkz)
              | fail)
            go_at_call 9
            refine (ns_len H6.out).mono ?_
            rintro e y8 ⟨rfl, h8⟩
            have hl0 : (([] : List Let).length : Int) = 0 := rfl
            rw [hl0]
            have H8 := Lib.hid h8.ext
            clear h8
            go_wp2_with (go_at_call 3; refine (netRuns_any _).mono ?_; rintro e x9 ⟨rfl, hx9⟩)
            go_ret
            exact ⟨rfl, H8.out.trans hx9⟩
      · have hi2 : (j : Int) < (n : Int) := by omega
        have hi3 : ¬ (j : Int) < 200 := by omega
        clear h1 h2 hlt
        go_wp2_with fail
        go_at_call 9
        refine (ns_len HP.out).mono ?_
        rintro e y0 ⟨rfl, h0⟩
        rw [NL_len, HKL.out]
        have H0 := Lib.hid h0
        clear h0 HP
        go_wp2_with fail
        go_loopw [8] (fun iv wr3 => ∃ j2 : Nat, j2 ≤ K ∧ iv = .int .i64 ((j2 : Nat) : Int) ∧ Hid (NS NT w w.heap.size wr3 (NL (kl.drop j2)) 0 Ks)) (fun iv _ => K - (intOf iv).toNat)
        case atStart => exact ⟨0, by omega, rfl, H0⟩
        case round =>
          rename World => wr3
          obtain ⟨j2, hj2, rfl, HP⟩ := hrel
          clear H0
          by_cases hlt2 : j2 < K
          · have hj2x : j2 < kl.length := by rw [HKL.out]; exact hlt2
            obtain ⟨q, hqe⟩ : ∃ q, kl[j2] = q := ⟨_, rfl⟩
            have hdr : kl.drop j2 = q :: kl.drop (j2 + 1) := by rw [List.drop_eq_getElem_cons hj2x, hqe]
            have hqm : q ∈ kl := by rw [← hqe]; exact List.getElem_mem _
            have hqin := HK.out.inn q hqm
            have hokd := KS.tail (w := w) HK.out.ok j2
            have hld : (NL (kl.drop j2)).length ≤ 160 := by rw [NL_len, List.length_drop]; have := HK.out.len; omega
            rw [hdr] at HP hokd hld
            have hqr : RightP q.m q.es := hokd (q.m, q.es) (by simp [NL])
            have hq8 := right_len hqr
            obtain ⟨gk, kcap, cur, hkv, hk5, hk6, hk7⟩ := HK.out.row.pos HP.out.box (by omega)
            simp only [Value.slice.injEq] at hkv
            obtain ⟨rfl, hk4, rfl⟩ := hkv
            clear hk4 hk5 hk6 hk7
            have hkcx : ∀ z : World, (∀ p ∈ Ks, z.heap[p.1]? = some p.2) → ∀ i, i < 13 → z.cell? ⟨gk, j2 * 13 + i, none⟩ = q.cells[i]? := fun z hz i hi => by
              have := ((OwnS.at_ LI.len (HK.out.row.own z hz) HKL.out.symm j2 hj2x).1 i hi).1
              rwa [hqe] at this
            have hk0 : (0 : Int) ≤ (j2 : Int) := by omega
            have hki : (j2 : Int) < (K : Int) := by omega
            have hj160 : j2 ≤ 160 := by have := HK.out.len; omega
            obtain ⟨m, qa, qc, qes⟩ := q
            obtain ⟨n3, hes3⟩ : ∃ n3, qes.length = n3 := ⟨_, rfl⟩
            obtain ⟨p0, p1, p2, p3, p4, p5, p6, p7, p8, p9, p10, p11⟩ := m
            simp only [LI.cells, LI.ev, hes3] at hkcx
            have HKC := Lib.hid hkcx
            have HQI := Lib.hid hqin
            have HOKD := Lib.hid (And.intro hokd hld)
            have HES3 := Lib.hid hes3
            have HQ8 : Hid (n3 ≤ 8) := Lib.hid (by simp only at hq8; omega)
            have hKlow : ∀ p ∈ Ks, p.1 < wr3.heap.size := fun p hp => blk_lt (HP.out.box p hp)
            have HKLOW := Lib.hid hKlow
            clear hqe hdr hqm hqin hokd hld hqr hq8 hkcx hes3 hj2x hKlow
            go_wp2_with fail
            go_at_call 10
            refine (ns_twiceB HP.out HOKD.out.1 (by decide) (by decide) HOKD.out.2 0).mono ?_
            rintro e y1 ⟨ht, hall⟩
            obtain ⟨a1, k1, rfl, ho⟩ := Told.ok ht ask_head
            simp only [HES3.out, Lt.agg] at ho ⊢
            obtain ⟨Es, hE, hE5⟩ := RowB.of ho
            have h1 := hall Es (fun p hp => ⟨hE.low p hp, hE5 p hp⟩)
            have H1 := Lib.hid h1
            have HR := Lib.hid hE
            clear ht hall ho h1 hE hE5
            go_wp2_with (first
              | (refine wpList_store_blk (by rfl) 27 _ _ (by rfl) (y1.heap.size) 0 #[.int .i64 p0, .int .i64 p1, .int .i64 p2, .int .i64 p3, .int .i64 p4, .int .i64 p5, .int .i64 p6, .int .i64 p7, .int .i64 p8, .int .i64 p9, .bool p10, .string p11, .slice a1 n3 k1] (by rfl) (by rfl) (new_blk y1 (.cells #[.int .i64 0, .int .i64 0, .int .i64 0, .int .i64 0, .int .i64 0, .int .i64 0, .int .i64 0, .int .i64 0, .int .i64 0, .int .i64 0, .bool false, .string ⟨#[]⟩, .slice none 0 0] 27)) 13 (by rfl) (by exact Nat.le_refl 13) HI27.out (by rfl) #[.int .i64 p0, .int .i64 p1, .int .i64 p2, .int .i64 p3, .int .i64 p4, .int .i64 p5, .int .i64 p6, .int .i64 p7, .int .i64 p8, .int .i64 p9, .bool p10, .string p11, .slice a1 n3 k1] (by rfl) ?_; intro z2 hz hkz; have H2 := Lib.hid (NS.add H1.out hz hkz); have DR := Lib.hid hz; clear hz hkz)
              | fail)
            have HW3 := Lib.hid (row_pos2 HR.out HES3.out (fun p hp => H1.out.box p (List.mem_append_left _ hp)) HP.out.ext.size HKLOW.out)
            obtain ⟨tb, htb⟩ : ∃ tb, y1.heap.size = tb := ⟨_, rfl⟩
            rw [htb] at H2 DR HW3 ⊢
            have hs2 := fun (x : World) (hx : Ext z2 x) => lsame_yes ⟨p0, p1, p2, p3, p4, p5, p6, p7, p8, p9, p10, p11⟩ a1 qa k1 qc n3 qes HES3.out x (SlS.ext (OwnS.rd (HR.out.own z2 (fun p hp => H2.out.box p (List.mem_cons_of_mem _ (List.mem_append_left _ hp))))) hx) (by have h := SlS.ext HQI.out.2.2 (H2.out.ext.trans hx); simp only [LI.ev, HES3.out] at h; exact h) (by have := HQ8.out; omega)
            simp only [Lt.agg] at hs2
            have HS2 := Lib.hid hs2
            clear hs2
            have ub0 := fun (x : SubW (Ext z2)) => (blkG (ext_blk x.ok DR.out) 0 (.int .i64 p0) rfl).1
            have ub1 := fun (x : SubW (Ext z2)) => (blkG (ext_blk x.ok DR.out) 1 (.int .i64 p1) rfl).1
            have ub2 := fun (x : SubW (Ext z2)) => (blkG (ext_blk x.ok DR.out) 2 (.int .i64 p2) rfl).1
            have ub3 := fun (x : SubW (Ext z2)) => (blkG (ext_blk x.ok DR.out) 3 (.int .i64 p3) rfl).1
            have ub4 := fun (x : SubW (Ext z2)) => (blkG (ext_blk x.ok DR.out) 4 (.int .i64 p4) rfl).1
            have ub5 := fun (x : SubW (Ext z2)) => (blkG (ext_blk x.ok DR.out) 5 (.int .i64 p5) rfl).1
            have ub6 := fun (x : SubW (Ext z2)) => (blkG (ext_blk x.ok DR.out) 6 (.int .i64 p6) rfl).1
            have ub7 := fun (x : SubW (Ext z2)) => (blkG (ext_blk x.ok DR.out) 7 (.int .i64 p7) rfl).1
            have ub8 := fun (x : SubW (Ext z2)) => (blkG (ext_blk x.ok DR.out) 8 (.int .i64 p8) rfl).1
            have ub9 := fun (x : SubW (Ext z2)) => (blkG (ext_blk x.ok DR.out) 9 (.int .i64 p9) rfl).1
            have ub10 := fun (x : SubW (Ext z2)) => (blkG (ext_blk x.ok DR.out) 10 (.bool p10) rfl).1
            have ub11 := fun (x : SubW (Ext z2)) => (blkG (ext_blk x.ok DR.out) 11 (.string p11) rfl).1
            have ub12 := fun (x : SubW (Ext z2)) => (blkG (ext_blk x.ok DR.out) 12 (.slice a1 n3 k1) rfl).1
            have uk0 := fun (x : SubW (Ext z2)) => (HKC.out x.w (fun p hp => ext_blk x.ok (H2.out.box p (List.mem_cons_of_mem _ (List.mem_append_right _ hp)))) 0 (by decide)).trans (show _ = some (.int .i64 p0) from rfl)
            have uk1 := fun (x : SubW (Ext z2)) => (HKC.out x.w (fun p hp => ext_blk x.ok (H2.out.box p (List.mem_cons_of_mem _ (List.mem_append_right _ hp)))) 1 (by decide)).trans (show _ = some (.int .i64 p1) from rfl)
            have uk2 := fun (x : SubW (Ext z2)) => (HKC.out x.w (fun p hp => ext_blk x.ok (H2.out.box p (List.mem_cons_of_mem _ (List.mem_append_right _ hp)))) 2 (by decide)).trans (show _ = some (.int .i64 p2) from rfl)
            have uk3 := fun (x : SubW (Ext z2)) => (HKC.out x.w (fun p hp => ext_blk x.ok (H2.out.box p (List.mem_cons_of_mem _ (List.mem_append_right _ hp)))) 3 (by decide)).trans (show _ = some (.int .i64 p3) from rfl)
            have uk4 := fun (x : SubW (Ext z2)) => (HKC.out x.w (fun p hp => ext_blk x.ok (H2.out.box p (List.mem_cons_of_mem _ (List.mem_append_right _ hp)))) 4 (by decide)).trans (show _ = some (.int .i64 p4) from rfl)
            have uk5 := fun (x : SubW (Ext z2)) => (HKC.out x.w (fun p hp => ext_blk x.ok (H2.out.box p (List.mem_cons_of_mem _ (List.mem_append_right _ hp)))) 5 (by decide)).trans (show _ = some (.int .i64 p5) from rfl)
            have uk6 := fun (x : SubW (Ext z2)) => (HKC.out x.w (fun p hp => ext_blk x.ok (H2.out.box p (List.mem_cons_of_mem _ (List.mem_append_right _ hp)))) 6 (by decide)).trans (show _ = some (.int .i64 p6) from rfl)
            have uk7 := fun (x : SubW (Ext z2)) => (HKC.out x.w (fun p hp => ext_blk x.ok (H2.out.box p (List.mem_cons_of_mem _ (List.mem_append_right _ hp)))) 7 (by decide)).trans (show _ = some (.int .i64 p7) from rfl)
            have uk8 := fun (x : SubW (Ext z2)) => (HKC.out x.w (fun p hp => ext_blk x.ok (H2.out.box p (List.mem_cons_of_mem _ (List.mem_append_right _ hp)))) 8 (by decide)).trans (show _ = some (.int .i64 p8) from rfl)
            have uk9 := fun (x : SubW (Ext z2)) => (HKC.out x.w (fun p hp => ext_blk x.ok (H2.out.box p (List.mem_cons_of_mem _ (List.mem_append_right _ hp)))) 9 (by decide)).trans (show _ = some (.int .i64 p9) from rfl)
            have uk10 := fun (x : SubW (Ext z2)) => (HKC.out x.w (fun p hp => ext_blk x.ok (H2.out.box p (List.mem_cons_of_mem _ (List.mem_append_right _ hp)))) 10 (by decide)).trans (show _ = some (.bool p10) from rfl)
            have uk11 := fun (x : SubW (Ext z2)) => (HKC.out x.w (fun p hp => ext_blk x.ok (H2.out.box p (List.mem_cons_of_mem _ (List.mem_append_right _ hp)))) 11 (by decide)).trans (show _ = some (.string p11) from rfl)
            have uk12 := fun (x : SubW (Ext z2)) => (HKC.out x.w (fun p hp => ext_blk x.ok (H2.out.box p (List.mem_cons_of_mem _ (List.mem_append_right _ hp)))) 12 (by decide)).trans (show _ = some (.slice qa n3 qc) from rfl)
            simp only [Nat.add_zero] at uk0
            have inst : Nonempty (SubW (Ext z2)) := ⟨⟨_, Ext.refl _⟩⟩
            clear H1 HP
            refine wp_region_quietS (Ext z2) (by kernel_rfl) (by kernel_rfl) ((Ext.refl _).drew) ?_
            repeat (go_big_quiet_step (first
              | (go_at_call 13; with_reducible exact quietS_ext (HS2.out _ (SubW.ok _)))))
            refine wpQuiet_nil ?_
            rintro _ ⟨y5, rfl⟩
            have hx6 := y5.ok
            generalize y5.w = x5 at hx6 ⊢
            have HE0 : Hid (NS NT w w.heap.size x5 (NL (⟨⟨p0, p1, p2, p3, p4, p5, p6, p7, p8, p9, p10, p11⟩, qa, qc, qes⟩ :: kl.drop (j2 + 1))) 0 (Es ++ (tb, (.cells #[.int .i64 p0, .int .i64 p1, .int .i64 p2, .int .i64 p3, .int .i64 p4, .int .i64 p5, .int .i64 p6, .int .i64 p7, .int .i64 p8, .int .i64 p9, .bool p10, .string p11, .slice a1 n3 k1] 27)) :: Ks)) := Lib.hid ((H2.out.grow hx6).less (fun p hp => by
              rcases List.mem_append.1 hp with hp | hp
              · exact List.mem_cons_of_mem _ (List.mem_append_left _ hp)
              · rcases List.mem_cons.1 hp with rfl | hp
                · exact List.mem_cons_self
                · exact List.mem_cons_of_mem _ (List.mem_append_right _ hp)))
            have HE1 := HW3
            clear inst HS2 H2 DR HR HW3 hx6 ub0 ub1 ub2 ub3 ub4 ub5 ub6 ub7 ub8 ub9 ub10 ub11 ub12 uk0 uk1 uk2 uk3 uk4 uk5 uk6 uk7 uk8 uk9 uk10 uk11 uk12
            go_wp2_with fail
            go_loopw [12] (fun iv wq => ∃ (k : Nat) (Eo : List (Nat × Obj)), k ≤ n3 ∧ iv = .int .i64 ((k : Nat) : Int) ∧ Hid (NS NT w w.heap.size wq (NL (⟨⟨p0, p1, p2, p3, p4, p5, p6, p7, p8, p9, p10, p11⟩, qa, qc, qes⟩ :: kl.drop (j2 + 1))) 0 (Eo ++ (tb, (.cells #[.int .i64 p0, .int .i64 p1, .int .i64 p2, .int .i64 p3, .int .i64 p4, .int .i64 p5, .int .i64 p6, .int .i64 p7, .int .i64 p8, .int .i64 p9, .bool p10, .string p11, .slice a1 n3 k1] 27)) :: Ks)) ∧ Hid (0 < n3 → ∃ g cur, Eo = [(g, Obj.cells cur 49 (0, 0))] ∧ a1 = some ⟨g, 0, none⟩ ∧ n3 * 3 ≤ cur.size ∧ w.heap.size ≤ g ∧ g ≠ tb ∧ ∀ p ∈ Ks, p.1 ≠ g)) (fun iv _ => n3 - (intOf iv).toNat)
            case atStart => exact ⟨0, Es, by omega, rfl, HE0, HE1⟩
            case round =>
              rename World => wq
              obtain ⟨k, Eo, hk, rfl, HE, HG⟩ := hrel
              have BQ := Lib.hid (HE.out.box (tb, _) (List.mem_append_right _ List.mem_cons_self))
              obtain ⟨q12, _⟩ := blkG BQ.out 12 (.slice a1 n3 k1) rfl
              clear HE0 HE1
              by_cases hkl : k < n3
              · have hk0 : (0 : Int) ≤ (k : Int) := by omega
                have hk1 : k ≤ 100 := by have := HQ8.out; omega
                have hki : (k : Int) < (n3 : Int) := by omega
                obtain ⟨g, cur, rfl, hav, hcs, hgw, hgt, hgk⟩ := HG.out (by omega)
                rw [hav] at q12
                have GQ := Lib.hid (HE.out.box (g, _) (List.mem_append_left _ List.mem_cons_self))
                have HCS : Hid (k * 3 + 3 ≤ cur.size) := Lib.hid (by omega)
                have HGX := Lib.hid (And.intro hav (And.intro hcs (And.intro hgw (And.intro hgt hgk))))
                clear hcs hgw hgt hgk hav HG
                go_wp2_with (first
                  | (refine wpList_store_blk (by rfl) 49 _ _ (by rfl) g (k * 3) #[.int .i64 (-2), .int .i64 0, .string ⟨#[]⟩] (by rfl) (by rfl) GQ.out 3 (by rfl) HCS.out HI49.out (by rfl) _ (by rfl) ?_; intro zq hz hkz; have HE2 := Lib.hid (NS.set (Es := []) HE.out HGX.out.2.2.1 hz hkz (fun p hp => by cases hp) (fun p hp => by rcases List.mem_cons.1 hp with rfl | hp; exact Ne.symm HGX.out.2.2.2.1; exact HGX.out.2.2.2.2 p hp)); clear hz hkz)
                  | fail)
                exact ⟨⟨k + 1, _, by omega, by simp, HE2, Lib.hid fun _ => ⟨g, _, rfl, HGX.out.1, by rw [set3_size _ _ _ rfl HCS.out]; exact HGX.out.2.1, HGX.out.2.2⟩⟩, by simp [intOf]; omega⟩
              · have hki : ¬ (k : Int) < (n3 : Int) := by omega
                go_wp2_with fail
                go_at_call 11
                refine (ns_deliver (HE.out.less (As' := Ks) (fun p hp => List.mem_append_right _ (List.mem_cons_of_mem _ hp))) HOKD.out.1 (by decide) (by decide) (by have := HOKD.out.2; omega) 0).mono ?_
                rintro e y4 ⟨ht, h4⟩
                rw [erase_head] at h4
                obtain ⟨a2, k2, rfl, ho⟩ := Told.ok ht ask_head
                simp only [HES3.out, Lt.agg] at ho ⊢
                have H5 := Lib.hid h4
                have HO5 := Lib.hid ho
                clear ht h4 ho HE HG BQ q12
                go_wp2_with (first
                  | (refine wpList_store_blk (by rfl) 27 _ _ (by rfl) (y4.heap.size) 0 #[.int .i64 p0, .int .i64 p1, .int .i64 p2, .int .i64 p3, .int .i64 p4, .int .i64 p5, .int .i64 p6, .int .i64 p7, .int .i64 p8, .int .i64 p9, .bool p10, .string p11, .slice a2 n3 k2] (by rfl) (by rfl) (new_blk y4 (.cells #[.int .i64 0, .int .i64 0, .int .i64 0, .int .i64 0, .int .i64 0, .int .i64 0, .int .i64 0, .int .i64 0, .int .i64 0, .int .i64 0, .bool false, .string ⟨#[]⟩, .slice none 0 0] 27)) 13 (by rfl) (by exact Nat.le_refl 13) HI27.out (by rfl) #[.int .i64 p0, .int .i64 p1, .int .i64 p2, .int .i64 p3, .int .i64 p4, .int .i64 p5, .int .i64 p6, .int .i64 p7, .int .i64 p8, .int .i64 p9, .bool p10, .string p11, .slice a2 n3 k2] (by rfl) ?_; intro z5 hz hkz; have H6 := Lib.hid (NS.add H5.out hz hkz); have DR5 := Lib.hid hz; have HO6 := Lib.hid (own_addS HO5.out hkz); clear hz hkz)
                  | fail)
                have hs5 := fun (x : World) (hx : Ext z5 x) => lsame_yes ⟨p0, p1, p2, p3, p4, p5, p6, p7, p8, p9, p10, p11⟩ a2 qa k2 qc n3 qes HES3.out x (SlS.ext (OwnS.rd HO6.out) hx) (by have h := SlS.ext HQI.out.2.2 (H6.out.ext.trans hx); simp only [LI.ev, HES3.out] at h; exact h) (by have := HQ8.out; omega)
                simp only [Lt.agg] at hs5
                have HS5 := Lib.hid hs5
                clear hs5
                have vb0 := fun (x : SubW (Ext z5)) => (blkG (ext_blk x.ok DR5.out) 0 (.int .i64 p0) rfl).1
                have vb1 := fun (x : SubW (Ext z5)) => (blkG (ext_blk x.ok DR5.out) 1 (.int .i64 p1) rfl).1
                have vb2 := fun (x : SubW (Ext z5)) => (blkG (ext_blk x.ok DR5.out) 2 (.int .i64 p2) rfl).1
                have vb3 := fun (x : SubW (Ext z5)) => (blkG (ext_blk x.ok DR5.out) 3 (.int .i64 p3) rfl).1
                have vb4 := fun (x : SubW (Ext z5)) => (blkG (ext_blk x.ok DR5.out) 4 (.int .i64 p4) rfl).1
                have vb5 := fun (x : SubW (Ext z5)) => (blkG (ext_blk x.ok DR5.out) 5 (.int .i64 p5) rfl).1
                have vb6 := fun (x : SubW (Ext z5)) => (blkG (ext_blk x.ok DR5.out) 6 (.int .i64 p6) rfl).1
                have vb7 := fun (x : SubW (Ext z5)) => (blkG (ext_blk x.ok DR5.out) 7 (.int .i64 p7) rfl).1
                have vb8 := fun (x : SubW (Ext z5)) => (blkG (ext_blk x.ok DR5.out) 8 (.int .i64 p8) rfl).1
                have vb9 := fun (x : SubW (Ext z5)) => (blkG (ext_blk x.ok DR5.out) 9 (.int .i64 p9) rfl).1
                have vb10 := fun (x : SubW (Ext z5)) => (blkG (ext_blk x.ok DR5.out) 10 (.bool p10) rfl).1
                have vb11 := fun (x : SubW (Ext z5)) => (blkG (ext_blk x.ok DR5.out) 11 (.string p11) rfl).1
                have vb12 := fun (x : SubW (Ext z5)) => (blkG (ext_blk x.ok DR5.out) 12 (.slice a2 n3 k2) rfl).1
                have vk0 := fun (x : SubW (Ext z5)) => (HKC.out x.w (fun p hp => ext_blk x.ok (H6.out.box p (List.mem_cons_of_mem _ hp))) 0 (by decide)).trans (show _ = some (.int .i64 p0) from rfl)
                have vk1 := fun (x : SubW (Ext z5)) => (HKC.out x.w (fun p hp => ext_blk x.ok (H6.out.box p (List.mem_cons_of_mem _ hp))) 1 (by decide)).trans (show _ = some (.int .i64 p1) from rfl)
                have vk2 := fun (x : SubW (Ext z5)) => (HKC.out x.w (fun p hp => ext_blk x.ok (H6.out.box p (List.mem_cons_of_mem _ hp))) 2 (by decide)).trans (show _ = some (.int .i64 p2) from rfl)
                have vk3 := fun (x : SubW (Ext z5)) => (HKC.out x.w (fun p hp => ext_blk x.ok (H6.out.box p (List.mem_cons_of_mem _ hp))) 3 (by decide)).trans (show _ = some (.int .i64 p3) from rfl)
                have vk4 := fun (x : SubW (Ext z5)) => (HKC.out x.w (fun p hp => ext_blk x.ok (H6.out.box p (List.mem_cons_of_mem _ hp))) 4 (by decide)).trans (show _ = some (.int .i64 p4) from rfl)
                have vk5 := fun (x : SubW (Ext z5)) => (HKC.out x.w (fun p hp => ext_blk x.ok (H6.out.box p (List.mem_cons_of_mem _ hp))) 5 (by decide)).trans (show _ = some (.int .i64 p5) from rfl)
                have vk6 := fun (x : SubW (Ext z5)) => (HKC.out x.w (fun p hp => ext_blk x.ok (H6.out.box p (List.mem_cons_of_mem _ hp))) 6 (by decide)).trans (show _ = some (.int .i64 p6) from rfl)
                have vk7 := fun (x : SubW (Ext z5)) => (HKC.out x.w (fun p hp => ext_blk x.ok (H6.out.box p (List.mem_cons_of_mem _ hp))) 7 (by decide)).trans (show _ = some (.int .i64 p7) from rfl)
                have vk8 := fun (x : SubW (Ext z5)) => (HKC.out x.w (fun p hp => ext_blk x.ok (H6.out.box p (List.mem_cons_of_mem _ hp))) 8 (by decide)).trans (show _ = some (.int .i64 p8) from rfl)
                have vk9 := fun (x : SubW (Ext z5)) => (HKC.out x.w (fun p hp => ext_blk x.ok (H6.out.box p (List.mem_cons_of_mem _ hp))) 9 (by decide)).trans (show _ = some (.int .i64 p9) from rfl)
                have vk10 := fun (x : SubW (Ext z5)) => (HKC.out x.w (fun p hp => ext_blk x.ok (H6.out.box p (List.mem_cons_of_mem _ hp))) 10 (by decide)).trans (show _ = some (.bool p10) from rfl)
                have vk11 := fun (x : SubW (Ext z5)) => (HKC.out x.w (fun p hp => ext_blk x.ok (H6.out.box p (List.mem_cons_of_mem _ hp))) 11 (by decide)).trans (show _ = some (.string p11) from rfl)
                have vk12 := fun (x : SubW (Ext z5)) => (HKC.out x.w (fun p hp => ext_blk x.ok (H6.out.box p (List.mem_cons_of_mem _ hp))) 12 (by decide)).trans (show _ = some (.slice qa n3 qc) from rfl)
                simp only [Nat.add_zero] at vk0
                have inst : Nonempty (SubW (Ext z5)) := ⟨⟨_, Ext.refl _⟩⟩
                clear HO6 HO5 H5 HKC HQI HOKD
                refine wp_region_quietS (Ext z5) (by kernel_rfl) (by kernel_rfl) ((Ext.refl _).drew) ?_
                repeat (go_big_quiet_step (first
                  | (go_at_call 13; with_reducible exact quietS_ext (HS5.out _ (SubW.ok _)))))
                refine wpQuiet_nil ?_
                rintro _ ⟨y5, rfl⟩
                have hx6 := y5.ok
                generalize y5.w = x6 at hx6 ⊢
                clear inst HS5 vb0 vb1 vb2 vb3 vb4 vb5 vb6 vb7 vb8 vb9 vb10 vb11 vb12 vk0 vk1 vk2 vk3 vk4 vk5 vk6 vk7 vk8 vk9 vk10 vk11 vk12
                go_wp2
                exact ⟨⟨j2 + 1, by omega, by simp, Lib.hid ((H6.out.grow hx6).less (fun p hp => List.mem_cons_of_mem _ hp))⟩, by simp [intOf]; omega⟩
          · have hki : ¬ (j2 : Int) < (K : Int) := by omega
            have hd : kl.drop j2 = [] := List.drop_eq_nil_of_le (by rw [HKL.out]; omega)
            rw [hd] at HP
            have HP2 : Hid (NS NT w w.heap.size wr3 [] 0 Ks) := HP
            clear hd HP
            go_wp2_with fail
            go_at_call 11
            refine (ns_deliver HP2.out (fun p hp => by cases hp) (by decide) (by decide) (by simp) 0).mono ?_
            rintro e y4 ⟨ht, h4⟩
            obtain rfl := toldN ht (by rfl)
            have H5 : Hid (NS NT w w.heap.size y4 [] 0 Ks) := Lib.hid h4
            clear ht h4
            go_wp2_with (first
              | (refine wpList_store_blk (by rfl) 27 _ _ (by rfl) (y4.heap.size) 0 #[.int .i64 0, .int .i64 0, .int .i64 0, .int .i64 0, .int .i64 0, .int .i64 0, .int .i64 0, .int .i64 0, .int .i64 0, .int .i64 0, .bool false, .string ⟨#[]⟩, .slice none 0 0] (by rfl) (by rfl) (new_blk y4 (.cells #[.int .i64 0, .int .i64 0, .int .i64 0, .int .i64 0, .int .i64 0, .int .i64 0, .int .i64 0, .int .i64 0, .int .i64 0, .int .i64 0, .bool false, .string ⟨#[]⟩, .slice none 0 0] 27)) 13 (by rfl) (by exact Nat.le_refl 13) HI27.out (by rfl) #[.int .i64 0, .int .i64 0, .int .i64 0, .int .i64 0, .int .i64 0, .int .i64 0, .int .i64 0, .int .i64 0, .int .i64 0, .int .i64 0, .bool false, .string ⟨#[]⟩, .slice none 0 0] (by rfl) ?_; intro z5 hz hkz; have H6 := Lib.hid (NS.add H5.out hz hkz); clear hz hkz)
              | fail)
            go_at_call 9
            refine (ns_len H6.out).mono ?_
            rintro e y8 ⟨rfl, h8⟩
            have hl0 : (([] : List Let).length : Int) = 0 := rfl
            rw [hl0]
            have H8 := Lib.hid h8.ext
            clear h8
            go_wp2_with (go_at_call 3; refine (netRuns_any _).mono ?_; rintro e x9 ⟨rfl, hx9⟩)
            go_ret
            exact ⟨rfl, H8.out.trans hx9⟩
end Go.Proofs.Ytognipephfedkaa
