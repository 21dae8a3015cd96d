/- The document's net: Send. (Written by genNetG.py.) -/
import Derived.Test.YtognipephfedkaaNetF
namespace Go.Proofs.Ytognipephfedkaa
open Go.RowKit
section

section
variable {S : Nat → Prop} {w : World} {b : Nat} {side : Int} {N : List Let}
set_option maxHeartbeats 4000000 in
set_option maxRecDepth 100000 in
theorem rsend (h : NetP RT S w b (byL N) side) (hN : OkN N) (hm : N.length ≤ 160) (sa : Option Addr) (sn sc : Nat) (xs : List LI) (hn : xs.length = sn) (hl : SlS LI.cells 13 w (.slice sa sn sc) xs) (hes : ∀ x ∈ xs, SlS Ent.cells 3 w x.ev x.es) (hx : xs.length ≤ 1000000) (hx2 : ∀ x ∈ xs, x.es.length ≤ 1000000)
    (hd1 : ∀ a, sa = some a → ¬ S a.block) (hd2 : ∀ x ∈ xs, 0 < x.es.length → ∀ a, x.a = some a → ¬ S a.block) :
    Calls Try.prog 15 #[.pointer (some ⟨b, 0, none⟩), .slice sa sn sc] w fun e w' => e = .returned (.tuple #[]) ∧ ∃ N', SendR N xs N' ∧ OkN N' ∧ N'.length ≤ 160 ∧ NetP RT (up S w w') w' b (byL N') side ∧ KeepS S w w' := by
  have hlow := h.low
  have HL := Lib.hid fun (z : World) (hk : KeepS S w z) => slS_keepS hl hk (fun a n c he => by cases he; exact hd1 _ rfl)
  have HE := Lib.hid fun (z : World) (hk : KeepS S w z) x (hxm : x ∈ xs) => slS_keepP (hes x hxm) hk (fun h0 a n c he => by simp only [LI.ev, Value.slice.injEq] at he; exact hd2 x hxm h0 _ he.1)
  obtain ⟨i0, hi, hz0, hz1, hz2⟩ := info_parts Try.infoB
  have hlow2 := Lib.hid hlow
  have H0 := Lib.hid h
  have HNN := Lib.hid hN
  have HD1 := Lib.hid hd1
  have HX2 := Lib.hid hx2
  clear h hN hl hes hd1 hd2 hlow hx2
  go_enter Try.func15, Try.ntmps15
  go_wp2_with fail
  go_loopw [4] (fun iv wr => ∃ (j : Nat) (N' : List Let), j ≤ sn ∧ iv = .int .i64 ((j : Nat) : Int) ∧ SendR N (xs.take j) N' ∧ OkN N' ∧ N'.length ≤ 160 ∧ NetP RT (up S w wr) wr b (byL N') side ∧ KeepS S w wr) (fun iv _ => sn - (intOf iv).toNat)
  case atStart => exact ⟨0, N, by omega, rfl, by simp [SendR], HNN.out, hm, H0.out.upto (Ext.refl _), KeepS.refl _ _⟩
  case round =>
    obtain ⟨j, M, hj, rfl, hs, hok, hm2, hp, hk⟩ := hrel
    by_cases hlt : j < sn
    · have hjx : j < xs.length := by omega
      obtain ⟨x, hxe⟩ : ∃ x, xs[j] = x := ⟨_, rfl⟩
      have hxm : x ∈ xs := by rw [← hxe]; exact List.getElem_mem _
      have hrx := HE.out wr hk x hxm
      have hrl := HX2.out x hxm
      obtain ⟨sb, so, rfl, hsb, hcell⟩ := SlS.at_ LI.len (HL.out wr hk) (by omega) (by decide)
      have hSsb : ¬ S sb := HD1.out _ rfl
      have hcx := fun i (hi : i < 13) => hcell j hjx i hi
      rw [hxe] at hcx
      have htk : xs.take (j + 1) = xs.take j ++ [x] := by rw [List.take_succ_eq_append_getElem hjx, hxe]
      have HTK := Lib.hid htk
      clear hcell hxe htk
      obtain ⟨m, ea, ec, es⟩ := x
      obtain ⟨n, hes⟩ : ∃ n, es.length = n := ⟨_, rfl⟩
      have c0 := hcx 0 (by decide)
      have c1 := hcx 1 (by decide)
      have c2 := hcx 2 (by decide)
      have c3 := hcx 3 (by decide)
      have c4 := hcx 4 (by decide)
      have c5 := hcx 5 (by decide)
      have c6 := hcx 6 (by decide)
      have c7 := hcx 7 (by decide)
      have c8 := hcx 8 (by decide)
      have c9 := hcx 9 (by decide)
      have c10 := hcx 10 (by decide)
      have c11 := hcx 11 (by decide)
      have c12 := hcx 12 (by decide)
      obtain ⟨kind, fr, to, te, ix, at_, co, me, off, sz, yes, data⟩ := m
      simp only [LI.cells, LI.ev, hes, List.getElem?_cons_zero, List.getElem?_cons_succ, Nat.add_zero] at c0 c1 c2 c3 c4 c5 c6 c7 c8 c9 c10 c11 c12 hrx hrl
      have HCX : Hid (∀ z, Ext wr z → z.cell? ⟨sb, so + j * 13, none⟩ = some (.int .i64 kind) ∧ z.cell? ⟨sb, so + j * 13 + 1, none⟩ = some (.int .i64 fr) ∧ z.cell? ⟨sb, so + j * 13 + 2, none⟩ = some (.int .i64 to) ∧ z.cell? ⟨sb, so + j * 13 + 3, none⟩ = some (.int .i64 te) ∧ z.cell? ⟨sb, so + j * 13 + 4, none⟩ = some (.int .i64 ix) ∧ z.cell? ⟨sb, so + j * 13 + 5, none⟩ = some (.int .i64 at_) ∧ z.cell? ⟨sb, so + j * 13 + 6, none⟩ = some (.int .i64 co) ∧ z.cell? ⟨sb, so + j * 13 + 7, none⟩ = some (.int .i64 me) ∧ z.cell? ⟨sb, so + j * 13 + 8, none⟩ = some (.int .i64 off) ∧ z.cell? ⟨sb, so + j * 13 + 9, none⟩ = some (.int .i64 sz) ∧ z.cell? ⟨sb, so + j * 13 + 10, none⟩ = some (.bool yes) ∧ z.cell? ⟨sb, so + j * 13 + 11, none⟩ = some (.string data) ∧ z.cell? ⟨sb, so + j * 13 + 12, none⟩ = some (.slice ea n ec)) := Lib.hid fun z hz => ⟨(hz.cell (p := ⟨sb, so + j * 13, none⟩) hsb).trans c0, (hz.cell (p := ⟨sb, so + j * 13 + 1, none⟩) hsb).trans c1, (hz.cell (p := ⟨sb, so + j * 13 + 2, none⟩) hsb).trans c2, (hz.cell (p := ⟨sb, so + j * 13 + 3, none⟩) hsb).trans c3, (hz.cell (p := ⟨sb, so + j * 13 + 4, none⟩) hsb).trans c4, (hz.cell (p := ⟨sb, so + j * 13 + 5, none⟩) hsb).trans c5, (hz.cell (p := ⟨sb, so + j * 13 + 6, none⟩) hsb).trans c6, (hz.cell (p := ⟨sb, so + j * 13 + 7, none⟩) hsb).trans c7, (hz.cell (p := ⟨sb, so + j * 13 + 8, none⟩) hsb).trans c8, (hz.cell (p := ⟨sb, so + j * 13 + 9, none⟩) hsb).trans c9, (hz.cell (p := ⟨sb, so + j * 13 + 10, none⟩) hsb).trans c10, (hz.cell (p := ⟨sb, so + j * 13 + 11, none⟩) hsb).trans c11, (hz.cell (p := ⟨sb, so + j * 13 + 12, none⟩) hsb).trans c12⟩
      clear hcx
      have hi1 : (0 : Int) ≤ (j : Int) := by omega
      have hi2 : (j : Int) < (sn : Int) := by omega
      have HS := Lib.hid hs
      have HOK := Lib.hid hok
      have HP := Lib.hid hp
      have HK := Lib.hid hk
      have HR := Lib.hid hrx
      have HN := Lib.hid hes
      have HRL := Lib.hid hrl
      clear hs hok hp hk hrx hes HL HE hrl
      have hnn : n ≤ 1000000 := by have := HRL.out; omega
      by_cases hR : RightP ⟨kind, fr, to, te, ix, at_, co, me, off, sz, yes, data⟩ es
      · have hRi := fun (z : World) (hz : Ext wr z) => lref_is ⟨kind, fr, to, te, ix, at_, co, me, off, sz, yes, data⟩ ea ec n es HN.out hnn true (by simp [hR]) z (HR.out.ext hz)
        have hPut := fun (z : World) (hz : Ext wr z) => refPut_any ⟨kind, fr, to, te, ix, at_, co, me, off, sz, yes, data⟩ ea ec n es HN.out z (HR.out.ext hz) (right_small hR).1
        simp only [Lt.agg] at hPut hRi
        have HRI := Lib.hid hRi
        have HPut := Lib.hid hPut
        have hlp := ltL_pos ⟨kind, fr, to, te, ix, at_, co, me, off, sz, yes, data⟩ es
        generalize hLL : ltL ⟨kind, fr, to, te, ix, at_, co, me, off, sz, yes, data⟩ es = L at *
        have HLP := Lib.hid hlp
        have HRR := Lib.hid hR
        have HLL := Lib.hid hLL
        clear hPut hR hlp hLL hRi
        go_wp2_with fail
        go_at_call 18
        refine (HRI.out _ (Ext.refl wr)).mono ?_
        rintro e y ⟨rfl, TX⟩
        obtain ⟨v, vs, hNI⟩ := HP.out
        obtain ⟨va, vc, rfl, _, _⟩ := hNI.form
        rw [byL_len] at hNI
        obtain ⟨p0, f0⟩ := blkG (ext_blk TX hNI.blk) 0 _ rfl
        have hby := blk_lt (ext_blk TX hNI.blk)
        have HNI := Lib.hid fun (z : World) (hz : Ext y z) => hNI.ext (TX.trans hz)
        have HTX := Lib.hid TX
        have HBK := Lib.hid fun (z : World) (hz : Ext y z) => ext_blk hz (ext_blk TX hNI.blk)
        clear c0 c1 c2 c3 c4 c5 c6 c7 c8 c9 c10 c11 c12
        obtain ⟨c0, c1, c2, c3, c4, c5, c6, c7, c8, c9, c10, c11, c12⟩ := HCX.out y TX
        have hsby : sb < y.heap.size := Nat.lt_of_lt_of_le hsb TX.size
        clear hNI TX HRI HP
        by_cases hfull : M.length < 160
        · have hf1 : (M.length : Int) < 160 := by omega
          have HSZ : Hid (M.length + 1 ≤ maxLen) := Lib.hid (by unfold maxLen; omega)
          have HSY : Hid ((M.length + 1) * 24 ≤ 140737488355328) := Lib.hid (by omega)
          go_upto_region 4 with (fail)
          go_region_law
            (first
              | (go_simp; go_at_call 24; (with_reducible refine (HPut.out _ (Ext.trans HTX.out (by first | exact Ext.refl _ | exact Ext.drew (Ext.refl _)))).mono ?_); rintro e x1 ⟨u, hu, ho, hxy⟩; subst hu; obtain ⟨ug, uc, rfl⟩ := put_formN ho HLP.out; have TY : Ext y x1 := (by first | exact hxy | exact Ext.trans (Ext.drew (Ext.refl _)) hxy); obtain ⟨p1, f1⟩ := blkG (HBK.out _ TY) 0 _ rfl; have hb1 := blk_lt (HBK.out _ TY); have HO1 := Lib.hid ho; have HT1 := Lib.hid TY; clear ho hxy TY)
              | (refine step_own_src2 _ (by rfl) _ _ _ _ (by rfl) 0 53 i0 _ 1 24 Try.underlying38 hi hz0 hz1 hz2 rfl (by decide) (.slice va M.length vc) (.slice (some ⟨x1.heap.size, 0, none⟩) 1 1) M.length 1 _ [.slice (some ⟨ug, 0, none⟩) L.length uc] (((by have := (HNI.out x1 HT1.out).own; rwa [byL_len] at this : x1.ownsRow 0 53 1 (.slice va M.length vc) M.length vs).alloc _).drew) (src_new Try.underlying38 _ rfl (by intro u hu; simp only [List.mem_cons, List.not_mem_nil, or_false] at hu; subst hu; rfl) (heap_alloc_new x1 _)) (by rfl) (by rfl) HSZ.out HSY.out (Nat.zero_le _) ?_; intro v7 w7 ho7 hb7 hap7; obtain ⟨a7, c7, rfl⟩ := own_sl ho7; have HB7 : Hid (Below 0 x1 w7) := Lib.hid (Below.trans (Below.alloc (Below.refl 0 x1) (Nat.zero_le _) _) hb7); have hap8 : Apart (.slice va M.length vc) x1 (.slice a7 (M.length + 1) c7) w7 := (fun bb hbb hn => ⟨(hap7 bb (by simp; omega) hn).1.trans (heap_alloc_lt x1 _ bb hbb), (hap7 bb (by simp; omega) hn).2⟩); have HAP := Lib.hid hap8; have B7 := (hap8 b hb1 (fun a n c he => ((HNI.out x1 HT1.out).sv a n c he).2)).1.trans (HBK.out _ HT1.out); obtain ⟨r0, g0⟩ := blkG B7 0 _ rfl; have hbl7 := blk_lt B7; have HO7 := Lib.hid ho7; clear ho7 hb7 hap7 hap8 B7))
          all_goals
            have hub := own_blkE HO1.out ⟨ug, 0, none⟩ _ _ rfl
            have hwr : y.heap.size ≤ ug := by have := hub.2; simp at this; omega
            have hyw : w.heap.size ≤ y.heap.size := Nat.le_trans HK.out.size HTX.out.size
            have hxw : y.heap.size ≤ x1.heap.size := HT1.out.size
            have hw7 := HB7.out.size
            have hPU := (HNI.out x1 HT1.out).push (S2 := up S w (w7.setCell ⟨b, 0, none⟩ (.slice a7 (M.length + 1) c7))) (l := L) (fun k hs => by
                rcases hs with hs | hs
                · exact .inl hs
                · exact .inr ⟨hs.1, by have := HTX.out.size; simp; omega⟩)
              (Own8.rd HO1.out) rfl (fun a n c he => by
                cases he
                refine ⟨.inr ⟨by show _ ≤ ug; omega, by have := hub.1; show ug < _; simp at this ⊢; omega⟩, ?_, hub.1⟩
                rintro (hs | hs)
                · have := hlow2.out _ hs
                  simp only at *
                  omega
                · have h9 : ug < wr.heap.size := hs.2
                  have h8 := HTX.out.size
                  omega)
              (by rw [byL_len]; exact HO7.out) HAP.out HB7.out (fun k h1 h2 => .inr ⟨by omega, by simpa using h2⟩) (fun k hs => by
                rcases hs with hs | hs
                · have := hlow2.out _ hs
                  omega
                · simpa using hs.2)
            have hKK : KeepS S w (w7.setCell ⟨b, 0, none⟩ (.slice a7 (M.length + 1) c7)) := ((HK.out.trans (KeepS.of_ext HTX.out)).trans (KeepS.of_ext HT1.out)).after hPU.2 (fun i hi hs => by
              rcases hs with hs | hs
              · exact hs
              · omega)
            have hone : OneR M ⟨⟨kind, fr, to, te, ix, at_, co, me, off, sz, yes, data⟩, ea, ec, es⟩ (M ++ [(⟨kind, fr, to, te, ix, at_, co, me, off, sz, yes, data⟩, es)]) := .inl ⟨HRR.out, hfull, rfl⟩
            have hby2 : byL (M ++ [(⟨kind, fr, to, te, ix, at_, co, me, off, sz, yes, data⟩, es)]) = byL M ++ [L] := by simp [byL, HLL.out]
            have FIN : Hid (SendR N (xs.take (j + 1)) (M ++ [(⟨kind, fr, to, te, ix, at_, co, me, off, sz, yes, data⟩, es)]) ∧ OkN (M ++ [(⟨kind, fr, to, te, ix, at_, co, me, off, sz, yes, data⟩, es)]) ∧ (M ++ [((⟨kind, fr, to, te, ix, at_, co, me, off, sz, yes, data⟩ : Lt), es)]).length ≤ 160 ∧ NetP RT (up S w (w7.setCell ⟨b, 0, none⟩ (.slice a7 (M.length + 1) c7))) (w7.setCell ⟨b, 0, none⟩ (.slice a7 (M.length + 1) c7)) b (byL (M ++ [(⟨kind, fr, to, te, ix, at_, co, me, off, sz, yes, data⟩, es)])) side ∧ KeepS S w (w7.setCell ⟨b, 0, none⟩ (.slice a7 (M.length + 1) c7))) := Lib.hid ⟨by rw [HTK.out]; exact SendR.snoc HS.out hone, (hone.ok HOK.out hm2).1, (hone.ok HOK.out hm2).2.1, by rw [hby2]; exact ⟨_, _, hPU.1⟩, hKK⟩
            clear HB7 HAP HO7 hPU hKK hone hby2 HO1 HNI HOK HS HK HRR HLL HTK HR HCX HBK
            go_wp2
            refine ⟨⟨j + 1, _, by omega, by simp, FIN.out⟩, by simp [intOf]; omega⟩
        · have hf1 : ¬ (M.length : Int) < 160 := by omega
          have hone : OneR M ⟨⟨kind, fr, to, te, ix, at_, co, me, off, sz, yes, data⟩, ea, ec, es⟩ M := .inr ⟨.inr (by omega), rfl⟩
          have FIN : Hid (SendR N (xs.take (j + 1)) M ∧ OkN M ∧ M.length ≤ 160 ∧ NetP RT (up S w y) y b (byL M) side ∧ KeepS S w y) := Lib.hid ⟨by rw [HTK.out]; exact SendR.snoc HS.out hone, HOK.out, hm2, ⟨_, _, (HNI.out y (Ext.refl _)).up (fun k hs => by
              rcases hs with hs | hs
              · exact .inl hs
              · exact .inr ⟨hs.1, Nat.lt_of_lt_of_le hs.2 HTX.out.size⟩) (up_low hlow2.out (Nat.le_trans HK.out.size HTX.out.size))⟩, HK.out.trans (KeepS.of_ext HTX.out)⟩
          clear hone HNI HOK HS HK HRR HLL HTK HR
          go_wp2
          refine ⟨⟨j + 1, _, by omega, by simp, FIN.out⟩, by simp [intOf]; omega⟩
      · have hRi := fun (z : World) (hz : Ext wr z) => lref_is ⟨kind, fr, to, te, ix, at_, co, me, off, sz, yes, data⟩ ea ec n es HN.out hnn false (by simp [hR]) z (HR.out.ext hz)
        simp only [Lt.agg] at hRi
        have HRI := Lib.hid hRi
        have hone : OneR M ⟨⟨kind, fr, to, te, ix, at_, co, me, off, sz, yes, data⟩, ea, ec, es⟩ M := .inr ⟨.inl hR, rfl⟩
        have HONE := Lib.hid hone
        clear hRi hR hone
        go_wp2_with fail
        go_at_call 18
        refine (HRI.out _ (Ext.refl wr)).mono ?_
        rintro e y ⟨rfl, TX⟩
        have HTX := Lib.hid TX
        have FIN : Hid (SendR N (xs.take (j + 1)) M ∧ OkN M ∧ M.length ≤ 160 ∧ NetP RT (up S w y) y b (byL M) side ∧ KeepS S w y) := Lib.hid ⟨by rw [HTK.out]; exact SendR.snoc HS.out HONE.out, HOK.out, hm2, by
          obtain ⟨v, vs, hNI⟩ := HP.out
          exact ⟨_, _, (hNI.ext HTX.out).up (fun k hs => by
              rcases hs with hs | hs
              · exact .inl hs
              · exact .inr ⟨hs.1, Nat.lt_of_lt_of_le hs.2 HTX.out.size⟩) (up_low hlow2.out (Nat.le_trans HK.out.size HTX.out.size))⟩, HK.out.trans (KeepS.of_ext HTX.out)⟩
        clear TX HP HOK HS HK HTK HR HRI HONE
        go_wp2
        refine ⟨⟨j + 1, _, by omega, by simp, FIN.out⟩, by simp [intOf]; omega⟩
    · obtain rfl : j = sn := by omega
      have htk : xs.take j = xs := List.take_of_length_le (by omega)
      rw [htk] at hs
      have FIN := Lib.hid (And.intro hs (And.intro hok (And.intro hm2 (And.intro hp hk))))
      clear hs hok hp hk hlow2 HL HE
      go_wp2
      go_end0
      exact ⟨rfl, M, FIN.out⟩
end
end
section

theorem own_low {w : World} {B e s n : Nat} {v : Value} {xs : List Value} (h : w.ownsRow B e s v n xs) : w.ownsRow 0 e s v n xs := by
  obtain ⟨h1, h2⟩ := h
  refine ⟨h1, ?_⟩
  rcases h2 with h2 | ⟨g, cap, cur, h2, _, h3⟩
  · exact .inl h2
  · exact .inr ⟨g, cap, cur, h2, Nat.zero_le _, h3⟩
theorem own_nilB {w : World} {B G sz : Nat} (e : TypeId) (hG : w.heap.size = G) (hB : B ≤ G) : (w.alloc (.cells #[] e)).ownsRow B e sz (.slice (some ⟨G, 0, none⟩) 0 0) 0 [] := by
  subst hG
  exact ⟨by simp, .inr ⟨w.heap.size, 0, #[], rfl, hB, heap_alloc_new w _, Nat.le_refl _, by decide, by simp, by simp⟩⟩
theorem src_cut {P : Program} {z : World} {tx e : TypeId} {g n c a m c' : Nat} {vs : List Value} (ht : P.underlying tx = some (.slice e)) (h : z.ownsRow 0 e 1 (.slice (some ⟨g, 0, none⟩) n c) n vs) (hone : ∀ u ∈ vs, u.oneCell' = true) (ham : a + m ≤ n) (ys : List Value) (hys : ys = (vs.drop a).take m) : Src P 1 tx (.slice (some ⟨g, a, none⟩) m c') m ys z := by
  subst hys
  have hl : vs.length = n := by have := h.1; simpa using this
  refine Src.ofSlice _ ht _ m c' _ (by simp; omega) (fun j u hj => ?_) (fun u hu => hone u (List.mem_of_mem_drop (List.mem_of_mem_take hu)))
  have e1 : (⟨g, a, none⟩ : Addr).add j = ⟨g, a + j, none⟩ := by unfold Addr.add; split <;> simp_all
  rw [e1]
  refine (own_at h (a + j) u ?_).1
  rw [List.getElem?_take] at hj
  split at hj
  · rwa [List.getElem?_drop] at hj
  · cases hj
section
variable {T : TypeId} {S : Nat → Prop} {w w7 : World} {b : Nat} {side : Int} {ls : List (List UInt8)} {N : List Let} {v v7 : Value} {vs : List Value}
theorem NI.fresh (h : NI T S w b ls side v vs) (i : Nat) (hi : i < ls.length) (hx : Ext w w7) (ho : w7.ownsRow w.heap.size 53 1 v7 (ls.length - 1) (vs.take i ++ vs.drop (i + 1))) :
    NI T (Go.Proofs.Ytognipephfedkaa.up S w (w7.setCell ⟨b, 0, none⟩ v7)) (w7.setCell ⟨b, 0, none⟩ v7) b (ls.eraseIdx i) side v7 (vs.eraseIdx i) ∧ KeepS S w (w7.setCell ⟨b, 0, none⟩ v7) := by
  have hbw := blk_lt h.blk
  have hK : KeepS S w (w7.setCell ⟨b, 0, none⟩ v7) := (KeepS.of_ext hx).trans (KeepS.of_keep ((KeepR.refl b w7).set (o := 0) _) h.sb)
  have hv7 := own_blkE ho
  have hv7b : ∀ a m c, v7 = .slice (some a) m c → a.block ≠ b := fun a m c he => by have := (hv7 a m c he).2; omega
  have hlen : (ls.eraseIdx i).length = ls.length - 1 := by rw [List.length_eraseIdx_of_lt (by omega)]
  have hvl := h.len
  have hsz : w.heap.size ≤ w7.heap.size := hx.size
  refine ⟨⟨fun k hs => ?_, .inl h.sb, heap_setCell_same _ _ 0 _ _ _ (ext_blk hx h.blk), ?_, ?_, fun j hj => ?_⟩, hK⟩
  · rcases hs with hs | hs
    · exact Nat.lt_of_lt_of_le (h.low k hs) hK.size
    · exact hs.2
  · rw [hlen, List.eraseIdx_eq_take_drop_succ]
    exact own_keepE (own_low ho) (fun a m c' he => Below.heap_setCell _ _ _ _ (hv7b a m c' he))
  · intro a m c' he
    exact ⟨.inr ⟨(hv7 a m c' he).2, by simpa using (hv7 a m c' he).1⟩, hv7b a m c' he⟩
  · rw [hlen] at hj
    have hget : ∀ {α : Type} (xs : List α), (xs.eraseIdx i)[j]? = if j < i then xs[j]? else xs[j + 1]? := fun xs => List.getElem?_eraseIdx ..
    obtain ⟨j', hj', e1, e2⟩ : ∃ j', ∃ h' : j' < ls.length, (ls.eraseIdx i)[j]'(by omega) = ls[j'] ∧ (vs.eraseIdx i)[j]? = vs[j']? := by
      have e1 := hget ls
      rw [List.getElem?_eq_getElem (by omega)] at e1
      by_cases hji : j < i
      · rw [if_pos hji, List.getElem?_eq_getElem (by omega)] at e1
        exact ⟨j, by omega, by simpa using e1, by rw [hget vs, if_pos hji]⟩
      · rw [if_neg hji, List.getElem?_eq_getElem (by omega)] at e1
        exact ⟨j + 1, by omega, by simpa using e1, by rw [hget vs, if_neg hji]⟩
    obtain ⟨u, h1, h2⟩ := h.rows j' hj'
    refine ⟨u, e2.trans h1, ?_⟩
    rw [e1]
    refine ⟨rd8_keep h2.rd hK.size (fun a m c' he => ?_), fun a m c' he => ?_, h2.one⟩
    · obtain ⟨q1, q2, q3⟩ := h2.is a m c' he
      exact (Below.heap_setCell _ _ _ _ q2).trans (Below.block hx _ (h.low _ q1))
    · obtain ⟨q1, q2, q3⟩ := h2.is a m c' he
      refine ⟨.inl q1, q2, fun a' m' c'' he' hb => ?_⟩
      have := (hv7 a' m' c'' he').2
      have := h.low _ q1
      omega
set_option maxHeartbeats 4000000 in
set_option maxRecDepth 100000 in
theorem drop_0 (h : NetP RT S w b (byL N) side) (hm : N.length ≤ 1000000) (k : Int) (h0 : N.length = 0) : Calls Try.prog 17 #[.pointer (some ⟨b, 0, none⟩), .int .i64 k] w fun e w' => e = .returned (.bool false) ∧ Ext w w' := by
  have HPL := Lib.hid fun (z : World) (hz : Ext w z) => rplace (h.ext hz) k (by rw [byL_len]; exact hm)
  rw [byL_len] at HPL
  have hpl : placeN k N.length = -1 := by unfold placeN; rw [if_pos h0]
  rw [hpl] at HPL
  clear h hm h0 hpl
  go_enter Try.func17, Try.ntmps17
  go_wp2_with fail
  go_at_call 25
  refine (HPL.out _ (Ext.refl w)).mono ?_
  rintro e y ⟨rfl, rfl⟩
  go_wp2
  go_ret
  exact ⟨rfl, Ext.refl _⟩
set_option maxHeartbeats 4000000 in
set_option maxRecDepth 100000 in
theorem drop_1 (h : NetP RT S w b (byL N) side) (hm : N.length ≤ 1000000) (k : Int) (h0 : N.length ≠ 0) (hi : placeI N k < N.length) : Calls Try.prog 17 #[.pointer (some ⟨b, 0, none⟩), .int .i64 k] w fun e w' => e = .returned (.bool true) ∧ NetP RT (up S w w') w' b (byL (N.eraseIdx (placeI N k))) side ∧ KeepS S w w' := by
  have HPL := Lib.hid fun (z : World) (hz : Ext w z) => rplace (h.ext hz) k (by rw [byL_len]; exact hm)
  rw [byL_len, placeN_is N k h0] at HPL
  obtain ⟨v, vs, h⟩ := h
  obtain ⟨g, gc, u, rfl, _, _, hgw, _⟩ := h.at_ (placeI N k) hi
  have H := Lib.hid h
  have HONE := Lib.hid h.hone
  have hvl := h.len
  rw [byL_len] at hvl
  rw [byL_erase]
  generalize placeI N k = i at *
  obtain ⟨hcap1, hcap2⟩ : N.length ≤ gc ∧ gc ≤ maxLen := by
    obtain ⟨a, c, he, h1, h2⟩ := h.form
    rw [byL_len] at he h1
    cases he
    exact ⟨h1, h2⟩
  have hown := h.own
  rw [byL_len] at hown
  obtain ⟨n, hn⟩ : ∃ n, N.length = n := ⟨_, rfl⟩
  have hb0 := (blkG h.blk 0 _ rfl)
  rw [hn] at hb0
  obtain ⟨q0, f0⟩ := hb0
  have HBK := Lib.hid h.blk
  rw [hn] at hvl hcap1 hown hi hm HBK H
  have HNN := Lib.hid hn
  unfold maxLen at hcap2
  have hi0 : (0 : Int) ≤ (i : Int) := by omega
  have hi1 : (i : Int) ≤ (gc : Int) := by omega
  have hi2 : (i : Int) + 1 ≤ (n : Int) := by omega
  have hi3 : (n : Int) ≤ (gc : Int) := by omega
  have hi4 : ¬ (i : Int) < 0 := by omega
  have hi5 : (0 : Int) ≤ (i : Int) + 1 := by omega
  have hw1 : IntKind.i64.wrap ((i : Int) + 1) = (i : Int) + 1 := by rw [IntKind.wrap_i64]; omega
  have ht1 : ((i : Int) + 1).toNat = i + 1 := by omega
  have hbw := blk_lt h.blk
  obtain ⟨i0, hi', hz0, hz1, hz2⟩ := info_parts Try.infoB
  clear h
  go_enter Try.func17, Try.ntmps17
  go_wp2_with fail
  go_at_call 25
  refine (HPL.out _ (Ext.refl w)).mono ?_
  rintro e y ⟨rfl, rfl⟩
  go_upto_region 4 with (fail)
  by_cases hgc : gc = i + 1
  · obtain rfl : n = i + 1 := by omega
    subst hgc
    have hj1 : (i : Int) ≤ (i : Int) + 1 := by omega
    have HS1 : Hid ((vs.take i) = (vs.drop 0).take i) := Lib.hid (by simp)
    have HS2 : Hid ((vs.drop (i + 1)) = (vs.drop 0).take 0) := Lib.hid (by rw [List.take_zero]; exact List.drop_of_length_le (by omega))
    have HOW := Lib.hid fun (z : World) (hz : Ext w z) => own_ext hown hz
    have HFIN := Lib.hid fun (w7 : World) (v7 : Value) (hx : Ext w w7) (ho : w7.ownsRow w.heap.size 53 1 v7 (i + 1 - 1) (vs.take i ++ vs.drop (i + 1))) => H.out.fresh (w7 := w7) (v7 := v7) i (by rw [byL_len, HNN.out]; exact hi) hx (by rw [byL_len, HNN.out]; exact ho)
    have HM1 : Hid (0 + i ≤ maxLen) := Lib.hid (by unfold maxLen; omega)
    have HM2 : Hid ((0 + i) * 24 ≤ 140737488355328) := Lib.hid (by omega)
    have HM3 : Hid (i + 0 ≤ maxLen) := Lib.hid (by unfold maxLen; omega)
    have HM4 : Hid ((i + 0) * 24 ≤ 140737488355328) := Lib.hid (by omega)
    have HM5 : Hid (0 + i ≤ i + 1) := Lib.hid (by omega)
    have HM6 : Hid (0 + 0 ≤ i + 1) := Lib.hid (by omega)
    have HM7 : Hid (i + 0 = i + 1 - 1) := Lib.hid (by omega)
    clear H hown
    go_region_law
      (first
        | (refine step_own_src2 _ (by rfl) _ _ _ _ (by rfl) w.heap.size 53 i0 _ 1 24 Try.underlying38 hi' hz0 hz1 hz2 rfl (by decide) (.slice (some ⟨w.heap.size, 0, none⟩) 0 0) (.slice (some ⟨g, 0, none⟩) i (i + 1)) 0 i [] (vs.take i) (own_nilB (w := w.drew) 53 rfl (Nat.le_refl _)) (src_cut Try.underlying38 (HOW.out _ (Ext.alloc (Ext.drew (Ext.refl w)) _)) HONE.out HM5.out _ HS1.out) (by rfl) (by rfl) HM1.out HM2.out (by simp) ?_; intro v6 w6 ho6 hb6 hap6; rw [Nat.zero_add, List.nil_append] at ho6; obtain ⟨a6, c6, rfl⟩ := own_sl ho6; have hx6 : Ext w w6 := Below.trans (Ext.alloc (Ext.drew (Ext.refl w)) _) hb6; obtain ⟨q6, f6⟩ := blkG (ext_blk hx6 HBK.out) 0 _ rfl; have HO6 := Lib.hid ho6; have HX6 := Lib.hid hx6; clear ho6 hb6 hap6 hx6)
        | (refine step_own_src2 _ (by rfl) _ _ _ _ (by rfl) w.heap.size 53 i0 _ 1 24 Try.underlying38 hi' hz0 hz1 hz2 rfl (by decide) (.slice a6 i c6) (.slice (some ⟨g, 0, none⟩) 0 0) i 0 (vs.take i) (vs.drop (i + 1)) HO6.out (src_cut Try.underlying38 (HOW.out _ HX6.out) HONE.out HM6.out _ HS2.out) (by rfl) (by rfl) HM3.out HM4.out HX6.out.size ?_; intro v7 w7 ho7 hb7 hap7; rw [HM7.out] at ho7; obtain ⟨a7, c7, rfl⟩ := own_sl ho7; have hx7 : Ext w w7 := Below.trans HX6.out hb7; obtain ⟨q7, f7⟩ := blkG (ext_blk hx7 HBK.out) 0 _ rfl; have hb7w := blk_lt (ext_blk hx7 HBK.out); have HF7 := Lib.hid (HFIN.out _ _ hx7 ho7); clear ho7 hb7 hap7 hx7)
        | fail)
    all_goals
      clear HOW HFIN HM1 HM2 HM3 HM4 HM5 HM6 HM7 HS1 HS2 HO6 HX6
      go_wp2
      go_ret
      exact ⟨rfl, ⟨_, _, HF7.out.1⟩, HF7.out.2⟩
  · skip
    have HS1 : Hid ((vs.take i) = (vs.drop 0).take i) := Lib.hid (by simp)
    have HS2 : Hid ((vs.drop (i + 1)) = (vs.drop (i + 1)).take (n - (i + 1))) := Lib.hid (by rw [List.take_of_length_le]; rw [List.length_drop]; omega)
    have HOW := Lib.hid fun (z : World) (hz : Ext w z) => own_ext hown hz
    have HFIN := Lib.hid fun (w7 : World) (v7 : Value) (hx : Ext w w7) (ho : w7.ownsRow w.heap.size 53 1 v7 (n - 1) (vs.take i ++ vs.drop (i + 1))) => H.out.fresh (w7 := w7) (v7 := v7) i (by rw [byL_len, HNN.out]; exact hi) hx (by rw [byL_len, HNN.out]; exact ho)
    have HM1 : Hid (0 + i ≤ maxLen) := Lib.hid (by unfold maxLen; omega)
    have HM2 : Hid ((0 + i) * 24 ≤ 140737488355328) := Lib.hid (by omega)
    have HM3 : Hid (i + (n - (i + 1)) ≤ maxLen) := Lib.hid (by unfold maxLen; omega)
    have HM4 : Hid ((i + (n - (i + 1))) * 24 ≤ 140737488355328) := Lib.hid (by omega)
    have HM5 : Hid (0 + i ≤ n) := Lib.hid (by omega)
    have HM6 : Hid (i + 1 + (n - (i + 1)) ≤ n) := Lib.hid (by omega)
    have HM7 : Hid (i + (n - (i + 1)) = n - 1) := Lib.hid (by omega)
    clear H hown
    go_region_law
      (first
        | (refine step_own_src2 _ (by rfl) _ _ _ _ (by rfl) w.heap.size 53 i0 _ 1 24 Try.underlying38 hi' hz0 hz1 hz2 rfl (by decide) (.slice (some ⟨w.heap.size, 0, none⟩) 0 0) (.slice (some ⟨g, 0, none⟩) i gc) 0 i [] (vs.take i) (own_nilB (w := w.drew) 53 rfl (Nat.le_refl _)) (src_cut Try.underlying38 (HOW.out _ (Ext.alloc (Ext.drew (Ext.refl w)) _)) HONE.out HM5.out _ HS1.out) (by rfl) (by rfl) HM1.out HM2.out (by simp) ?_; intro v6 w6 ho6 hb6 hap6; rw [Nat.zero_add, List.nil_append] at ho6; obtain ⟨a6, c6, rfl⟩ := own_sl ho6; have hx6 : Ext w w6 := Below.trans (Ext.alloc (Ext.drew (Ext.refl w)) _) hb6; obtain ⟨q6, f6⟩ := blkG (ext_blk hx6 HBK.out) 0 _ rfl; have HO6 := Lib.hid ho6; have HX6 := Lib.hid hx6; clear ho6 hb6 hap6 hx6)
        | (refine step_own_src2 _ (by rfl) _ _ _ _ (by rfl) w.heap.size 53 i0 _ 1 24 Try.underlying38 hi' hz0 hz1 hz2 rfl (by decide) (.slice a6 i c6) (.slice (some ⟨g, i + 1, none⟩) (n - (i + 1)) (gc - (i + 1))) i (n - (i + 1)) (vs.take i) (vs.drop (i + 1)) HO6.out (src_cut Try.underlying38 (HOW.out _ HX6.out) HONE.out HM6.out _ HS2.out) (by rfl) (by rfl) HM3.out HM4.out HX6.out.size ?_; intro v7 w7 ho7 hb7 hap7; rw [HM7.out] at ho7; obtain ⟨a7, c7, rfl⟩ := own_sl ho7; have hx7 : Ext w w7 := Below.trans HX6.out hb7; obtain ⟨q7, f7⟩ := blkG (ext_blk hx7 HBK.out) 0 _ rfl; have hb7w := blk_lt (ext_blk hx7 HBK.out); have HF7 := Lib.hid (HFIN.out _ _ hx7 ho7); clear ho7 hb7 hap7 hx7)
        | fail)
    all_goals
      clear HOW HFIN HM1 HM2 HM3 HM4 HM5 HM6 HM7 HS1 HS2 HO6 HX6
      go_wp2
      go_ret
      exact ⟨rfl, ⟨_, _, HF7.out.1⟩, HF7.out.2⟩
end
end
end Go.Proofs.Ytognipephfedkaa
