/- The law NetPlays: the walk. (Written by genNetM.py.) -/
import Derived.Test.YtognipephfedkaaNetL
import Derived.Test.YtognipephfedkaaNetI
namespace Go.Proofs.Ytognipephfedkaa
open Go.RowKit

def TF (N : List Let) (side k : Int) (m : Lt) (ok : Bool) (es : List Ent) : Prop := (askOf N side k = none ∧ m = Lt.z ∧ ok = false ∧ es = []) ∨ (askOf N side k = some (m, es) ∧ ok = true)
theorem TF.one {N : List Let} {side k : Int} {m m' : Lt} {ok ok' : Bool} {es es' : List Ent} (h : TF N side k m ok es) (h' : TF N side k m' ok' es') : m' = m ∧ ok' = ok ∧ es' = es := by
  rcases h with ⟨a1, rfl, rfl, rfl⟩ | ⟨a1, rfl⟩ <;> rcases h' with ⟨a2, rfl, rfl, rfl⟩ | ⟨a2, rfl⟩
  · exact ⟨rfl, rfl, rfl⟩
  · rw [a1] at a2; cases a2
  · rw [a1] at a2; cases a2
  · rw [a1] at a2
    cases a2
    exact ⟨rfl, rfl, rfl⟩
theorem told_one {side k : Int} {N : List Let} {e : Ending} {x y : World} (hN : OkN N) (h : Told side N k x e y) :
    ∃ (m : Lt) (ok : Bool) (es : List Ent) (n : Nat) (a : Option Addr) (c : Nat), TF N side k m ok es ∧ es.length = n ∧ n ≤ 1000000 ∧ e = .returned (.tuple #[m.agg (.slice a n c), .bool ok]) ∧ OwnS Ent.cells 3 49 y x.heap.size (.slice a n c) es := by
  rcases h with ⟨q, e1⟩ | ⟨p, q, v1, c1, e1, o1⟩
  · exact ⟨Lt.z, false, [], 0, none, 0, .inl ⟨q, rfl, rfl, rfl⟩, rfl, by omega, e1, World.ownsRow_nil _ _ _ _⟩
  · exact ⟨p.1, true, p.2, p.2.length, v1, c1, .inr ⟨q, rfl⟩, rfl, by have := right_len (hN _ (ask_mem q)); omega, e1, o1⟩
theorem own_add {x z : World} {te : TypeId} {B s n : Nat} {v : Value} {xs : List Value} {o' : Obj} (h : x.ownsRow B te s v n xs) (hk : KeepR x.heap.size (x.alloc o') z) : z.ownsRow B te s v n xs :=
  own_keepE h fun a m c he => by
    have hb := (own_blkE h a m c he).1
    exact (hk.block _ (by simp; omega) (Nat.ne_of_lt hb)).trans (Below.heap_alloc x o' _ hb)
theorem okN_erase {N : List Let} (h : OkN N) (i : Nat) : OkN (N.eraseIdx i) := fun p hp => h p (List.mem_of_mem_eraseIdx hp)
theorem erase_160 {N : List Let} (h : N.length ≤ 160) (i : Nat) : (N.eraseIdx i).length ≤ 160 := Nat.le_trans (List.length_eraseIdx_le ..) h
theorem side_7 (k : Int) : 0 ≤ k % 128 ∧ k % 128 ≤ 127 := by omega
set_option maxHeartbeats 16000000 in
set_option maxRecDepth 100000 in
theorem plays_any (l : List AK) (a : Option Addr) (cap : Nat) (w : World) (hl : SlS AK.cells 15 w (.slice a l.length cap) l) (hin : ∀ x ∈ l, x.li.In w) : Calls Try.prog 4 #[.slice a l.length cap] w fun e w' => e = .returned (.bool true) ∧ Ext w w' := by
  obtain ⟨n, hn⟩ : ∃ n, l.length = n := ⟨_, rfl⟩
  rw [hn] at hl ⊢
  have HL := Lib.hid hl
  have HIN := Lib.hid hin
  have HN := Lib.hid hn
  clear hl hin hn
  have hu := Try.underlying27
  have hi : (Try.prog.info? 27).map (·.size) = some 13 := by kernel_rfl
  have HU27 := Lib.hid hu
  have HI27 := Lib.hid hi
  clear hu hi
  have hu := Try.underlying42
  have hi : (Try.prog.info? 42).map (·.size) = some 15 := by kernel_rfl
  have HU42 := Lib.hid hu
  have HI42 := Lib.hid hi
  clear hu hi
  go_enter Try.func4, Try.ntmps4
  go_wp2_with fail
  go_at_call 6
  refine (ns_new w).mono ?_
  rintro e x0 ⟨rfl, h0⟩
  have H0 := Lib.hid (PN.new h0)
  clear h0
  go_wp2_with fail
  go_loopw [5] (fun iv wr => ∃ (j : Nat) (N : List Let) (s : Int), j ≤ n ∧ iv = .int .i64 ((j : Nat) : Int) ∧ OkN N ∧ N.length ≤ 160 ∧ 0 ≤ s ∧ s ≤ 127 ∧ PN w w.heap.size x0.heap.size wr N s N s [] []) (fun iv _ => n - (intOf iv).toNat)
  case atStart => exact ⟨0, [], 0, by omega, rfl, (fun p hp => by cases hp), by simp, by omega, by omega, H0.out⟩
  case round =>
    obtain ⟨j, N, s, hj, rfl, hok, hm, hs0, hs1, hp⟩ := hrel
    have HOK := Lib.hid hok
    have HM := Lib.hid hm
    have HS := Lib.hid (And.intro hs0 hs1)
    have HP := Lib.hid hp
    clear hok hm hs0 hs1 hp H0
    by_cases hlt : j < n ∧ j < 250
    · obtain ⟨hlt, hl2⟩ := hlt
      have hjx : j < l.length := by rw [HN.out]; exact hlt
      obtain ⟨x, hxe⟩ : ∃ x, l[j] = x := ⟨_, rfl⟩
      have hq := HIN.out x (by rw [← hxe]; exact List.getElem_mem _)
      obtain ⟨sb, so, rfl, hsb, hcell⟩ := SlS.at_ AK.len (HL.out.ext HP.out.ext) (by omega) (by decide)
      have hcx : wr.rangeAt sb (so + j * 15) x.cells := fun i v hv => by
        have hi : i < 15 := by
          rcases Nat.lt_or_ge i 15 with h | h
          · exact h
          · rw [List.getElem?_eq_none (by rw [AK.len]; exact h)] at hv
            cases hv
        rw [hcell j hjx i hi, hxe]
        exact hv
      clear hcell hxe hjx HIN
      obtain ⟨qk, kk, m, ea, ec, es⟩ := x
      obtain ⟨n2, hes⟩ : ∃ n2, es.length = n2 := ⟨_, rfl⟩
      obtain ⟨kind, fr, to, te, ix, at_, co, me, off, sz, yes, data⟩ := m
      simp only [AK.cells, LI.cells, LI.ev, hes] at hcx
      have HQ := Lib.hid hq
      have HCE : Hid (#[.int .i64 kind, .int .i64 fr, .int .i64 to, .int .i64 te, .int .i64 ix, .int .i64 at_, .int .i64 co, .int .i64 me, .int .i64 off, .int .i64 sz, .bool yes, .string data, .slice ea n2 ec].toList = LI.cells ⟨⟨kind, fr, to, te, ix, at_, co, me, off, sz, yes, data⟩, ea, ec, es⟩) := Lib.hid (by simp [LI.cells, LI.ev, hes])
      have HES := Lib.hid hes
      have RG := Lib.hid hcx
      have hi1 : (0 : Int) ≤ (j : Int) := by omega
      have hi2 : (j : Int) < (n : Int) := by omega
      have hi3 : (j : Int) < 250 := by omega
      clear hq hes hcx HL HN
      by_cases h20 : 20 < n2
      · have h20i : (20 : Int) < (n2 : Int) := by omega
        go_wp2_with (first
          | (refine wpList_load_mid (by rfl) 42 _ (by rfl) sb (so + j * 15) (by rfl) [.int .i64 qk, .int .i64 kk, .int .i64 kind, .int .i64 fr, .int .i64 to, .int .i64 te, .int .i64 ix, .int .i64 at_, .int .i64 co, .int .i64 me, .int .i64 off, .int .i64 sz, .bool yes, .string data, .slice ea n2 ec] _ RG.out HU42.out (by rfl) HI42.out ?_)
          | (refine wpList_store_blk (by rfl) 42 _ _ (by rfl) (wr.heap.size) 0 #[.int .i64 qk, .int .i64 kk, .int .i64 kind, .int .i64 fr, .int .i64 to, .int .i64 te, .int .i64 ix, .int .i64 at_, .int .i64 co, .int .i64 me, .int .i64 off, .int .i64 sz, .bool yes, .string data, .slice ea n2 ec] (by rfl) (by rfl) (new_blk wr (.cells #[.int .i64 0, .int .i64 0, .int .i64 0, .int .i64 0, .int .i64 0, .int .i64 0, .int .i64 0, .int .i64 0, .int .i64 0, .int .i64 0, .int .i64 0, .int .i64 0, .bool false, .string ⟨#[]⟩, .slice none 0 0] 42)) 15 (by rfl) (by exact Nat.le_refl 15) HI42.out (by rfl) #[.int .i64 qk, .int .i64 kk, .int .i64 kind, .int .i64 fr, .int .i64 to, .int .i64 te, .int .i64 ix, .int .i64 at_, .int .i64 co, .int .i64 me, .int .i64 off, .int .i64 sz, .bool yes, .string data, .slice ea n2 ec] (by rfl) ?_; intro z1 hz hkz; have DR := Lib.hid hz; have H1 := Lib.hid (PN.add HP.out hz hkz); obtain ⟨c0, _⟩ := blkG DR.out 0 (.int .i64 qk) rfl; obtain ⟨c1, _⟩ := blkG DR.out 1 (.int .i64 kk) rfl; obtain ⟨c14, _⟩ := blkG DR.out 14 (.slice ea n2 ec) rfl; clear hz hkz)
          | fail)
        exact ⟨⟨j + 1, N, s, by omega, by simp, HOK.out, HM.out, HS.out.1, HS.out.2, PN.drop H1.out⟩, by simp [intOf]; omega⟩
      · have h20i : ¬ (20 : Int) < (n2 : Int) := by omega
        have h20n : es.length ≤ 1000000 := by rw [HES.out]; omega
        have H20 := Lib.hid h20n
        clear h20n h20
        by_cases hk1 : qk = 1
        · subst hk1
          go_wp2_with (first
            | (refine wpList_load_mid (by rfl) 42 _ (by rfl) sb (so + j * 15) (by rfl) [.int .i64 1, .int .i64 kk, .int .i64 kind, .int .i64 fr, .int .i64 to, .int .i64 te, .int .i64 ix, .int .i64 at_, .int .i64 co, .int .i64 me, .int .i64 off, .int .i64 sz, .bool yes, .string data, .slice ea n2 ec] _ RG.out HU42.out (by rfl) HI42.out ?_)
            | (refine wpList_store_blk (by rfl) 42 _ _ (by rfl) (wr.heap.size) 0 #[.int .i64 1, .int .i64 kk, .int .i64 kind, .int .i64 fr, .int .i64 to, .int .i64 te, .int .i64 ix, .int .i64 at_, .int .i64 co, .int .i64 me, .int .i64 off, .int .i64 sz, .bool yes, .string data, .slice ea n2 ec] (by rfl) (by rfl) (new_blk wr (.cells #[.int .i64 0, .int .i64 0, .int .i64 0, .int .i64 0, .int .i64 0, .int .i64 0, .int .i64 0, .int .i64 0, .int .i64 0, .int .i64 0, .int .i64 0, .int .i64 0, .bool false, .string ⟨#[]⟩, .slice none 0 0] 42)) 15 (by rfl) (by exact Nat.le_refl 15) HI42.out (by rfl) #[.int .i64 1, .int .i64 kk, .int .i64 kind, .int .i64 fr, .int .i64 to, .int .i64 te, .int .i64 ix, .int .i64 at_, .int .i64 co, .int .i64 me, .int .i64 off, .int .i64 sz, .bool yes, .string data, .slice ea n2 ec] (by rfl) ?_; intro z1 hz hkz; have DR := Lib.hid hz; have H1 := Lib.hid (PN.add HP.out hz hkz); obtain ⟨c0, _⟩ := blkG DR.out 0 (.int .i64 1) rfl; obtain ⟨c1, _⟩ := blkG DR.out 1 (.int .i64 kk) rfl; obtain ⟨c14, _⟩ := blkG DR.out 14 (.slice ea n2 ec) rfl; clear hz hkz)
            | (refine wpList_load_blk (by rfl) 27 _ (by rfl) (wr.heap.size) 2 (by rfl) DR.out [.int .i64 kind, .int .i64 fr, .int .i64 to, .int .i64 te, .int .i64 ix, .int .i64 at_, .int .i64 co, .int .i64 me, .int .i64 off, .int .i64 sz, .bool yes, .string data, .slice ea n2 ec] 13 (by rfl) (by rfl) _ HU27.out (by rfl) HI27.out ?_)
            | fail)
          go_at_call 7
          refine (pn_send H1.out HOK.out HM.out _ HQ.out #[.int .i64 kind, .int .i64 fr, .int .i64 to, .int .i64 te, .int .i64 ix, .int .i64 at_, .int .i64 co, .int .i64 me, .int .i64 off, .int .i64 sz, .bool yes, .string data, .slice ea n2 ec] HCE.out).mono ?_
          rintro e x1 ⟨rfl, N1, h1, h2, h3, h4⟩
          have H2 := Lib.hid h4
          have HO1 := Lib.hid h1
          have DR2 := Lib.hid (H2.out.box (wr.heap.size, _) List.mem_cons_self)
          clear h1 h2 h3 h4 c0 c1 c14
          go_wp2_with (first
            | (refine wpList_load_blk (by rfl) 27 _ (by rfl) (wr.heap.size) 2 (by rfl) DR2.out [.int .i64 kind, .int .i64 fr, .int .i64 to, .int .i64 te, .int .i64 ix, .int .i64 at_, .int .i64 co, .int .i64 me, .int .i64 off, .int .i64 sz, .bool yes, .string data, .slice ea n2 ec] 13 (by rfl) (by rfl) _ HU27.out (by rfl) HI27.out ?_)
            | fail)
          go_at_call 15
          refine (pr_send H2.out HOK.out HM.out _ HQ.out H20.out #[.int .i64 kind, .int .i64 fr, .int .i64 to, .int .i64 te, .int .i64 ix, .int .i64 at_, .int .i64 co, .int .i64 me, .int .i64 off, .int .i64 sz, .bool yes, .string data, .slice ea n2 ec] HCE.out).mono ?_
          rintro e x2 ⟨rfl, N2, h1, h2, h3, h4⟩
          obtain rfl := OneR.one HO1.out h1
          have H3 := Lib.hid h4
          have FIN := Lib.hid (And.intro h2 (And.intro h3 HS.out))
          clear h1 h2 h3 h4 HO1 DR2 H2 DR H1 HOK HM HQ HCE HES H20
          obtain ⟨ra, rc, hrc⟩ := H3.out.rcell
          have hrb := World.block_lt_of_cell? _ _ hrc
          have HLEN := Lib.hid fun (z : World) (hz : Ext x2 z) => pn_len (H3.out.grow hz)
          go_wp2_with fail
          go_quiet (first | (go_at_call 9; exact quiet_eq (HLEN.out _ (Ext.drewN (Ext.refl _) _))) | fail)
          go_wp2
          exact ⟨⟨j + 1, N1, s, by omega, by simp, FIN.out.1, FIN.out.2.1, FIN.out.2.2.1, FIN.out.2.2.2, PN.drop (H3.out.grow (Ext.drewN (Ext.refl _) _))⟩, by simp [intOf]; omega⟩
        · skip
          by_cases hk2 : qk = 2
          · subst hk2
            go_wp2_with (first
              | (refine wpList_load_mid (by rfl) 42 _ (by rfl) sb (so + j * 15) (by rfl) [.int .i64 2, .int .i64 kk, .int .i64 kind, .int .i64 fr, .int .i64 to, .int .i64 te, .int .i64 ix, .int .i64 at_, .int .i64 co, .int .i64 me, .int .i64 off, .int .i64 sz, .bool yes, .string data, .slice ea n2 ec] _ RG.out HU42.out (by rfl) HI42.out ?_)
              | (refine wpList_store_blk (by rfl) 42 _ _ (by rfl) (wr.heap.size) 0 #[.int .i64 2, .int .i64 kk, .int .i64 kind, .int .i64 fr, .int .i64 to, .int .i64 te, .int .i64 ix, .int .i64 at_, .int .i64 co, .int .i64 me, .int .i64 off, .int .i64 sz, .bool yes, .string data, .slice ea n2 ec] (by rfl) (by rfl) (new_blk wr (.cells #[.int .i64 0, .int .i64 0, .int .i64 0, .int .i64 0, .int .i64 0, .int .i64 0, .int .i64 0, .int .i64 0, .int .i64 0, .int .i64 0, .int .i64 0, .int .i64 0, .bool false, .string ⟨#[]⟩, .slice none 0 0] 42)) 15 (by rfl) (by exact Nat.le_refl 15) HI42.out (by rfl) #[.int .i64 2, .int .i64 kk, .int .i64 kind, .int .i64 fr, .int .i64 to, .int .i64 te, .int .i64 ix, .int .i64 at_, .int .i64 co, .int .i64 me, .int .i64 off, .int .i64 sz, .bool yes, .string data, .slice ea n2 ec] (by rfl) ?_; intro z1 hz hkz; have DR := Lib.hid hz; have H1 := Lib.hid (PN.add HP.out hz hkz); obtain ⟨c0, _⟩ := blkG DR.out 0 (.int .i64 2) rfl; obtain ⟨c1, _⟩ := blkG DR.out 1 (.int .i64 kk) rfl; obtain ⟨c14, _⟩ := blkG DR.out 14 (.slice ea n2 ec) rfl; clear hz hkz)
              | (refine wpList_store_blk (by rfl) 27 _ _ (by rfl) (z1.heap.size) 0 #[.int .i64 0, .int .i64 0, .int .i64 0, .int .i64 0, .int .i64 0, .int .i64 0, .int .i64 0, .int .i64 0, .int .i64 0, .int .i64 0, .bool false, .string ⟨#[]⟩, .slice none 0 0] (by rfl) (by rfl) (new_blk z1 (.cells #[.int .i64 0, .int .i64 0, .int .i64 0, .int .i64 0, .int .i64 0, .int .i64 0, .int .i64 0, .int .i64 0, .int .i64 0, .int .i64 0, .bool false, .string ⟨#[]⟩, .slice none 0 0] 27)) 13 (by rfl) (by exact Nat.le_refl 13) HI27.out (by rfl) #[.int .i64 0, .int .i64 0, .int .i64 0, .int .i64 0, .int .i64 0, .int .i64 0, .int .i64 0, .int .i64 0, .int .i64 0, .int .i64 0, .bool false, .string ⟨#[]⟩, .slice none 0 0] (by rfl) ?_; intro z2 hz hkz; have H2 := Lib.hid (PN.add H1.out hz hkz); have DR2 := Lib.hid (H2.out.box (wr.heap.size, _) (List.mem_cons_of_mem _ List.mem_cons_self)); obtain ⟨d0, _⟩ := blkG DR2.out 0 (.int .i64 2) rfl; obtain ⟨d1, _⟩ := blkG DR2.out 1 (.int .i64 kk) rfl; clear hz hkz c0 c1 c14)
              | fail)
            go_at_call 11
            refine (pn_deliver H2.out HOK.out HS.out.1 HS.out.2 HM.out kk).mono ?_
            rintro e x3 ⟨ht, hall⟩
            obtain ⟨m1, ok1, es1, n1, a1, k1, htf, hn1, hn1m, rfl, ho⟩ := told_one HOK.out ht
            obtain ⟨Bs, hB1, hB2⟩ := own_bs ho
            have H3 := Lib.hid (hall Bs hB1)
            have HB1 := Lib.hid hB1
            have HB2 := Lib.hid hB2
            have HTF := Lib.hid htf
            have HN1 := Lib.hid (And.intro hn1 hn1m)
            obtain ⟨p0, p1, p2, p3, p4, p5, p6, p7, p8, p9, p10, p11⟩ := m1
            simp only [Lt.agg]
            have hb12 : wr.heap.size < z1.heap.size := blk_lt DR.out
            have hb22 : z1.heap.size < z2.heap.size := blk_lt (H2.out.box (z1.heap.size, _) List.mem_cons_self)
            have HBB := Lib.hid (And.intro hb12 hb22)
            have DB3 := Lib.hid (H3.out.box (z1.heap.size, _) List.mem_cons_self)
            clear ht hall htf hn1 hn1m ho hB1 hB2 d0 d1 hb12 hb22
            go_wp2_with (first
              | (refine wpList_store_blk (by rfl) 27 _ _ (by rfl) (z1.heap.size) 0 #[.int .i64 p0, .int .i64 p1, .int .i64 p2, .int .i64 p3, .int .i64 p4, .int .i64 p5, .int .i64 p6, .int .i64 p7, .int .i64 p8, .int .i64 p9, .bool p10, .string p11, .slice a1 n1 k1] (by rfl) (by rfl) DB3.out 13 (by rfl) (by exact Nat.le_refl 13) HI27.out (by rfl) #[.int .i64 p0, .int .i64 p1, .int .i64 p2, .int .i64 p3, .int .i64 p4, .int .i64 p5, .int .i64 p6, .int .i64 p7, .int .i64 p8, .int .i64 p9, .bool p10, .string p11, .slice a1 n1 k1] (by rfl) ?_; intro z4 hz hkz; have H4 := Lib.hid (PN.set H3.out (Nat.le_trans HP.out.ext.size (Nat.le_of_lt HBB.out.1)) hz hkz (fun p hp => by rw [List.mem_singleton.1 hp]; exact Nat.ne_of_lt HBB.out.1) (fun p hp he => by have := (HB1.out p hp).1; have := HBB.out.2; omega)); have DR4 := Lib.hid (H4.out.box (wr.heap.size, _) (List.mem_cons_of_mem _ List.mem_cons_self)); obtain ⟨e0, _⟩ := blkG DR4.out 0 (.int .i64 2) rfl; obtain ⟨e1, _⟩ := blkG DR4.out 1 (.int .i64 kk) rfl; clear hz hkz)
              | fail)
            go_at_call 16
            refine (pr_look H4.out HOK.out HS.out.1 HS.out.2 HM.out kk false).mono ?_
            rintro e x5 ⟨ht, h5⟩
            obtain ⟨m2, ok2, es2, n3, a2, k2, htf, hn2, hn2m, rfl, ho⟩ := told_one HOK.out ht
            obtain ⟨rfl, rfl, rfl⟩ := TF.one HTF.out htf
            obtain rfl : n1 = n3 := HN1.out.1.symm.trans hn2
            have H5 : Hid (PN w w.heap.size x0.heap.size x5 (N.eraseIdx (placeI N kk)) s (N.eraseIdx (placeI N kk)) s _ _) := Lib.hid h5
            have HO5 := Lib.hid ho
            simp only [Lt.agg]
            clear ht h5 htf hn2 hn2m ho e0 e1 DR4 DB3 H3 HB1
            go_wp2_with (first
              | (refine wpList_store_blk (by rfl) 27 _ _ (by rfl) (x5.heap.size) 0 #[.int .i64 p0, .int .i64 p1, .int .i64 p2, .int .i64 p3, .int .i64 p4, .int .i64 p5, .int .i64 p6, .int .i64 p7, .int .i64 p8, .int .i64 p9, .bool p10, .string p11, .slice a2 n1 k2] (by rfl) (by rfl) (new_blk x5 (.cells #[.int .i64 0, .int .i64 0, .int .i64 0, .int .i64 0, .int .i64 0, .int .i64 0, .int .i64 0, .int .i64 0, .int .i64 0, .int .i64 0, .bool false, .string ⟨#[]⟩, .slice none 0 0] 27)) 13 (by rfl) (by exact Nat.le_refl 13) HI27.out (by rfl) #[.int .i64 p0, .int .i64 p1, .int .i64 p2, .int .i64 p3, .int .i64 p4, .int .i64 p5, .int .i64 p6, .int .i64 p7, .int .i64 p8, .int .i64 p9, .bool p10, .string p11, .slice a2 n1 k2] (by rfl) ?_; intro z6 hz hkz; have H6 := Lib.hid (PN.add H5.out hz hkz); have HO6 := Lib.hid (own_add HO5.out hkz); have DX := Lib.hid hz; have DY := Lib.hid (H6.out.box (z1.heap.size, _) (List.mem_cons_of_mem _ List.mem_cons_self)); clear hz hkz)
              | (refine wpList_load_blk (by rfl) 27 _ (by rfl) (z1.heap.size) 0 (by rfl) DY.out [.int .i64 p0, .int .i64 p1, .int .i64 p2, .int .i64 p3, .int .i64 p4, .int .i64 p5, .int .i64 p6, .int .i64 p7, .int .i64 p8, .int .i64 p9, .bool p10, .string p11, .slice a1 n1 k1] 13 (by rfl) (by rfl) _ HU27.out (by rfl) HI27.out ?_)
              | (refine wpList_load_blk (by rfl) 27 _ (by rfl) (x5.heap.size) 0 (by rfl) DX.out [.int .i64 p0, .int .i64 p1, .int .i64 p2, .int .i64 p3, .int .i64 p4, .int .i64 p5, .int .i64 p6, .int .i64 p7, .int .i64 p8, .int .i64 p9, .bool p10, .string p11, .slice a2 n1 k2] 13 (by rfl) (by rfl) _ HU27.out (by rfl) HI27.out ?_)
              | fail)
            go_at_call 13
            refine (lsame_yes ⟨p0, p1, p2, p3, p4, p5, p6, p7, p8, p9, p10, p11⟩ a1 a2 k1 k2 n1 es2 HN1.out.1 z6 (HB2.out z6 H6.out.bos).rd (OwnS.rd HO6.out) (by have := HN1.out.2; omega)).mono ?_
            rintro e x7 ⟨rfl, hx7⟩
            have H7 := Lib.hid (H6.out.grow hx7)
            have FIN : Hid (OkN (N.eraseIdx (placeI N kk)) ∧ (N.eraseIdx (placeI N kk)).length ≤ 160 ∧ 0 ≤ s ∧ s ≤ 127) := Lib.hid ⟨okN_erase HOK.out _, erase_160 HM.out _, HS.out⟩
            clear hx7 DX DY HO6 H6 HO5 H5 H4 HB2 HTF HN1 H2 DR2 DR H1 HOK HM HQ HCE HES H20 HBB
            obtain ⟨ra, rc, hrc⟩ := H7.out.rcell
            have hrb := World.block_lt_of_cell? _ _ hrc
            have HLEN := Lib.hid fun (z : World) (hz : Ext x7 z) => pn_len (H7.out.grow hz)
            go_wp2_with fail
            go_quiet (first | (go_at_call 9; exact quiet_eq (HLEN.out _ (Ext.drewN (Ext.refl _) _))) | fail)
            go_wp2
            exact ⟨⟨j + 1, (N.eraseIdx (placeI N kk)), s, by omega, by simp, FIN.out.1, FIN.out.2.1, FIN.out.2.2.1, FIN.out.2.2.2, PN.drop (H7.out.grow (Ext.drewN (Ext.refl _) _))⟩, by simp [intOf]; omega⟩
          · skip
            by_cases hk3 : qk = 3
            · subst hk3
              go_wp2_with (first
                | (refine wpList_load_mid (by rfl) 42 _ (by rfl) sb (so + j * 15) (by rfl) [.int .i64 3, .int .i64 kk, .int .i64 kind, .int .i64 fr, .int .i64 to, .int .i64 te, .int .i64 ix, .int .i64 at_, .int .i64 co, .int .i64 me, .int .i64 off, .int .i64 sz, .bool yes, .string data, .slice ea n2 ec] _ RG.out HU42.out (by rfl) HI42.out ?_)
                | (refine wpList_store_blk (by rfl) 42 _ _ (by rfl) (wr.heap.size) 0 #[.int .i64 3, .int .i64 kk, .int .i64 kind, .int .i64 fr, .int .i64 to, .int .i64 te, .int .i64 ix, .int .i64 at_, .int .i64 co, .int .i64 me, .int .i64 off, .int .i64 sz, .bool yes, .string data, .slice ea n2 ec] (by rfl) (by rfl) (new_blk wr (.cells #[.int .i64 0, .int .i64 0, .int .i64 0, .int .i64 0, .int .i64 0, .int .i64 0, .int .i64 0, .int .i64 0, .int .i64 0, .int .i64 0, .int .i64 0, .int .i64 0, .bool false, .string ⟨#[]⟩, .slice none 0 0] 42)) 15 (by rfl) (by exact Nat.le_refl 15) HI42.out (by rfl) #[.int .i64 3, .int .i64 kk, .int .i64 kind, .int .i64 fr, .int .i64 to, .int .i64 te, .int .i64 ix, .int .i64 at_, .int .i64 co, .int .i64 me, .int .i64 off, .int .i64 sz, .bool yes, .string data, .slice ea n2 ec] (by rfl) ?_; intro z1 hz hkz; have DR := Lib.hid hz; have H1 := Lib.hid (PN.add HP.out hz hkz); obtain ⟨c0, _⟩ := blkG DR.out 0 (.int .i64 3) rfl; obtain ⟨c1, _⟩ := blkG DR.out 1 (.int .i64 kk) rfl; obtain ⟨c14, _⟩ := blkG DR.out 14 (.slice ea n2 ec) rfl; clear hz hkz)
                | (refine wpList_store_blk (by rfl) 27 _ _ (by rfl) (z1.heap.size) 0 #[.int .i64 0, .int .i64 0, .int .i64 0, .int .i64 0, .int .i64 0, .int .i64 0, .int .i64 0, .int .i64 0, .int .i64 0, .int .i64 0, .bool false, .string ⟨#[]⟩, .slice none 0 0] (by rfl) (by rfl) (new_blk z1 (.cells #[.int .i64 0, .int .i64 0, .int .i64 0, .int .i64 0, .int .i64 0, .int .i64 0, .int .i64 0, .int .i64 0, .int .i64 0, .int .i64 0, .bool false, .string ⟨#[]⟩, .slice none 0 0] 27)) 13 (by rfl) (by exact Nat.le_refl 13) HI27.out (by rfl) #[.int .i64 0, .int .i64 0, .int .i64 0, .int .i64 0, .int .i64 0, .int .i64 0, .int .i64 0, .int .i64 0, .int .i64 0, .int .i64 0, .bool false, .string ⟨#[]⟩, .slice none 0 0] (by rfl) ?_; intro z2 hz hkz; have H2 := Lib.hid (PN.add H1.out hz hkz); have DR2 := Lib.hid (H2.out.box (wr.heap.size, _) (List.mem_cons_of_mem _ List.mem_cons_self)); obtain ⟨d0, _⟩ := blkG DR2.out 0 (.int .i64 3) rfl; obtain ⟨d1, _⟩ := blkG DR2.out 1 (.int .i64 kk) rfl; clear hz hkz c0 c1 c14)
                | fail)
              go_at_call 10
              refine (pn_twice H2.out HOK.out HS.out.1 HS.out.2 HM.out kk).mono ?_
              rintro e x3 ⟨ht, hall⟩
              obtain ⟨m1, ok1, es1, n1, a1, k1, htf, hn1, hn1m, rfl, ho⟩ := told_one HOK.out ht
              obtain ⟨Bs, hB1, hB2⟩ := own_bs ho
              have H3 := Lib.hid (hall Bs hB1)
              have HB1 := Lib.hid hB1
              have HB2 := Lib.hid hB2
              have HTF := Lib.hid htf
              have HN1 := Lib.hid (And.intro hn1 hn1m)
              obtain ⟨p0, p1, p2, p3, p4, p5, p6, p7, p8, p9, p10, p11⟩ := m1
              simp only [Lt.agg]
              have hb12 : wr.heap.size < z1.heap.size := blk_lt DR.out
              have hb22 : z1.heap.size < z2.heap.size := blk_lt (H2.out.box (z1.heap.size, _) List.mem_cons_self)
              have HBB := Lib.hid (And.intro hb12 hb22)
              have DB3 := Lib.hid (H3.out.box (z1.heap.size, _) List.mem_cons_self)
              clear ht hall htf hn1 hn1m ho hB1 hB2 d0 d1 hb12 hb22
              go_wp2_with (first
                | (refine wpList_store_blk (by rfl) 27 _ _ (by rfl) (z1.heap.size) 0 #[.int .i64 p0, .int .i64 p1, .int .i64 p2, .int .i64 p3, .int .i64 p4, .int .i64 p5, .int .i64 p6, .int .i64 p7, .int .i64 p8, .int .i64 p9, .bool p10, .string p11, .slice a1 n1 k1] (by rfl) (by rfl) DB3.out 13 (by rfl) (by exact Nat.le_refl 13) HI27.out (by rfl) #[.int .i64 p0, .int .i64 p1, .int .i64 p2, .int .i64 p3, .int .i64 p4, .int .i64 p5, .int .i64 p6, .int .i64 p7, .int .i64 p8, .int .i64 p9, .bool p10, .string p11, .slice a1 n1 k1] (by rfl) ?_; intro z4 hz hkz; have H4 := Lib.hid (PN.set H3.out (Nat.le_trans HP.out.ext.size (Nat.le_of_lt HBB.out.1)) hz hkz (fun p hp => by rw [List.mem_singleton.1 hp]; exact Nat.ne_of_lt HBB.out.1) (fun p hp he => by have := (HB1.out p hp).1; have := HBB.out.2; omega)); have DR4 := Lib.hid (H4.out.box (wr.heap.size, _) (List.mem_cons_of_mem _ List.mem_cons_self)); obtain ⟨e0, _⟩ := blkG DR4.out 0 (.int .i64 3) rfl; obtain ⟨e1, _⟩ := blkG DR4.out 1 (.int .i64 kk) rfl; clear hz hkz)
                | fail)
              go_at_call 16
              refine (pr_look H4.out HOK.out HS.out.1 HS.out.2 HM.out kk true).mono ?_
              rintro e x5 ⟨ht, h5⟩
              obtain ⟨m2, ok2, es2, n3, a2, k2, htf, hn2, hn2m, rfl, ho⟩ := told_one HOK.out ht
              obtain ⟨rfl, rfl, rfl⟩ := TF.one HTF.out htf
              obtain rfl : n1 = n3 := HN1.out.1.symm.trans hn2
              have H5 : Hid (PN w w.heap.size x0.heap.size x5 N s N s _ _) := Lib.hid h5
              have HO5 := Lib.hid ho
              simp only [Lt.agg]
              clear ht h5 htf hn2 hn2m ho e0 e1 DR4 DB3 H3 HB1
              go_wp2_with (first
                | (refine wpList_store_blk (by rfl) 27 _ _ (by rfl) (x5.heap.size) 0 #[.int .i64 p0, .int .i64 p1, .int .i64 p2, .int .i64 p3, .int .i64 p4, .int .i64 p5, .int .i64 p6, .int .i64 p7, .int .i64 p8, .int .i64 p9, .bool p10, .string p11, .slice a2 n1 k2] (by rfl) (by rfl) (new_blk x5 (.cells #[.int .i64 0, .int .i64 0, .int .i64 0, .int .i64 0, .int .i64 0, .int .i64 0, .int .i64 0, .int .i64 0, .int .i64 0, .int .i64 0, .bool false, .string ⟨#[]⟩, .slice none 0 0] 27)) 13 (by rfl) (by exact Nat.le_refl 13) HI27.out (by rfl) #[.int .i64 p0, .int .i64 p1, .int .i64 p2, .int .i64 p3, .int .i64 p4, .int .i64 p5, .int .i64 p6, .int .i64 p7, .int .i64 p8, .int .i64 p9, .bool p10, .string p11, .slice a2 n1 k2] (by rfl) ?_; intro z6 hz hkz; have H6 := Lib.hid (PN.add H5.out hz hkz); have HO6 := Lib.hid (own_add HO5.out hkz); have DX := Lib.hid hz; have DY := Lib.hid (H6.out.box (z1.heap.size, _) (List.mem_cons_of_mem _ List.mem_cons_self)); clear hz hkz)
                | (refine wpList_load_blk (by rfl) 27 _ (by rfl) (z1.heap.size) 0 (by rfl) DY.out [.int .i64 p0, .int .i64 p1, .int .i64 p2, .int .i64 p3, .int .i64 p4, .int .i64 p5, .int .i64 p6, .int .i64 p7, .int .i64 p8, .int .i64 p9, .bool p10, .string p11, .slice a1 n1 k1] 13 (by rfl) (by rfl) _ HU27.out (by rfl) HI27.out ?_)
                | (refine wpList_load_blk (by rfl) 27 _ (by rfl) (x5.heap.size) 0 (by rfl) DX.out [.int .i64 p0, .int .i64 p1, .int .i64 p2, .int .i64 p3, .int .i64 p4, .int .i64 p5, .int .i64 p6, .int .i64 p7, .int .i64 p8, .int .i64 p9, .bool p10, .string p11, .slice a2 n1 k2] 13 (by rfl) (by rfl) _ HU27.out (by rfl) HI27.out ?_)
                | fail)
              go_at_call 13
              refine (lsame_yes ⟨p0, p1, p2, p3, p4, p5, p6, p7, p8, p9, p10, p11⟩ a1 a2 k1 k2 n1 es2 HN1.out.1 z6 (HB2.out z6 H6.out.bos).rd (OwnS.rd HO6.out) (by have := HN1.out.2; omega)).mono ?_
              rintro e x7 ⟨rfl, hx7⟩
              have H7 := Lib.hid (H6.out.grow hx7)
              have FIN : Hid (OkN N ∧ N.length ≤ 160 ∧ 0 ≤ s ∧ s ≤ 127) := Lib.hid ⟨HOK.out, HM.out, HS.out⟩
              clear hx7 DX DY HO6 H6 HO5 H5 H4 HB2 HTF HN1 H2 DR2 DR H1 HOK HM HQ HCE HES H20 HBB
              obtain ⟨ra, rc, hrc⟩ := H7.out.rcell
              have hrb := World.block_lt_of_cell? _ _ hrc
              have HLEN := Lib.hid fun (z : World) (hz : Ext x7 z) => pn_len (H7.out.grow hz)
              go_wp2_with fail
              go_quiet (first | (go_at_call 9; exact quiet_eq (HLEN.out _ (Ext.drewN (Ext.refl _) _))) | fail)
              go_wp2
              exact ⟨⟨j + 1, N, s, by omega, by simp, FIN.out.1, FIN.out.2.1, FIN.out.2.2.1, FIN.out.2.2.2, PN.drop (H7.out.grow (Ext.drewN (Ext.refl _) _))⟩, by simp [intOf]; omega⟩
            · skip
              by_cases hk4 : qk = 4
              · subst hk4
                go_wp2_with (first
                  | (refine wpList_load_mid (by rfl) 42 _ (by rfl) sb (so + j * 15) (by rfl) [.int .i64 4, .int .i64 kk, .int .i64 kind, .int .i64 fr, .int .i64 to, .int .i64 te, .int .i64 ix, .int .i64 at_, .int .i64 co, .int .i64 me, .int .i64 off, .int .i64 sz, .bool yes, .string data, .slice ea n2 ec] _ RG.out HU42.out (by rfl) HI42.out ?_)
                  | (refine wpList_store_blk (by rfl) 42 _ _ (by rfl) (wr.heap.size) 0 #[.int .i64 4, .int .i64 kk, .int .i64 kind, .int .i64 fr, .int .i64 to, .int .i64 te, .int .i64 ix, .int .i64 at_, .int .i64 co, .int .i64 me, .int .i64 off, .int .i64 sz, .bool yes, .string data, .slice ea n2 ec] (by rfl) (by rfl) (new_blk wr (.cells #[.int .i64 0, .int .i64 0, .int .i64 0, .int .i64 0, .int .i64 0, .int .i64 0, .int .i64 0, .int .i64 0, .int .i64 0, .int .i64 0, .int .i64 0, .int .i64 0, .bool false, .string ⟨#[]⟩, .slice none 0 0] 42)) 15 (by rfl) (by exact Nat.le_refl 15) HI42.out (by rfl) #[.int .i64 4, .int .i64 kk, .int .i64 kind, .int .i64 fr, .int .i64 to, .int .i64 te, .int .i64 ix, .int .i64 at_, .int .i64 co, .int .i64 me, .int .i64 off, .int .i64 sz, .bool yes, .string data, .slice ea n2 ec] (by rfl) ?_; intro z1 hz hkz; have DR := Lib.hid hz; have H1 := Lib.hid (PN.add HP.out hz hkz); obtain ⟨c0, _⟩ := blkG DR.out 0 (.int .i64 4) rfl; obtain ⟨c1, _⟩ := blkG DR.out 1 (.int .i64 kk) rfl; obtain ⟨c14, _⟩ := blkG DR.out 14 (.slice ea n2 ec) rfl; clear hz hkz)
                  | fail)
                obtain ⟨b, hb⟩ : ∃ b, decide (N.length ≠ 0) = b := ⟨_, rfl⟩
                have HLO := Lib.hid fun (z : World) (hz : Ext z1 z) => pn_lose (H1.out.grow hz) HM.out kk
                rw [hb] at HLO
                go_region_law
                  (first
                    | (go_simp; go_at_call 14; (with_reducible refine (HLO.out _ (Ext.drew (Ext.refl _))).mono ?_); rintro e x2 ⟨rfl, h2⟩; have H2 := Lib.hid h2; have HDP := Lib.hid (pr_drop h2 HM.out kk); rw [hb] at HDP; have DR2 := Lib.hid (h2.box (wr.heap.size, _) List.mem_cons_self); obtain ⟨d0, _⟩ := blkG DR2.out 0 (.int .i64 4) rfl; obtain ⟨d1, _⟩ := blkG DR2.out 1 (.int .i64 kk) rfl; clear h2)
                    | (go_simp; go_at_call 17; (with_reducible refine HDP.out.mono ?_); rintro e x3 ⟨rfl, h3⟩; have H3 := Lib.hid h3; clear h3)
                    | fail)
                all_goals
                  have FIN : Hid (OkN (N.eraseIdx (placeI N kk)) ∧ (N.eraseIdx (placeI N kk)).length ≤ 160 ∧ 0 ≤ s ∧ s ≤ 127) := Lib.hid ⟨okN_erase HOK.out _, erase_160 HM.out _, HS.out⟩
                  clear HLO HDP H2 DR2 DR H1 HOK HM HQ HCE HES H20
                  obtain ⟨ra, rc, hrc⟩ := H3.out.rcell
                  have hrb := World.block_lt_of_cell? _ _ hrc
                  have HLEN := Lib.hid fun (z : World) (hz : Ext x3 z) => pn_len (H3.out.grow hz)
                  go_wp2_with fail
                  go_quiet (first | (go_at_call 9; exact quiet_eq (HLEN.out _ (Ext.drewN (Ext.refl _) _))) | fail)
                  go_wp2
                  exact ⟨⟨j + 1, (N.eraseIdx (placeI N kk)), s, by omega, by simp, FIN.out.1, FIN.out.2.1, FIN.out.2.2.1, FIN.out.2.2.2, PN.drop (H3.out.grow (Ext.drewN (Ext.refl _) _))⟩, by simp [intOf]; omega⟩
              · skip
                by_cases hk5 : qk = 5
                · subst hk5
                  have e127 := and127i kk
                  go_wp2_with (first
                    | (refine wpList_load_mid (by rfl) 42 _ (by rfl) sb (so + j * 15) (by rfl) [.int .i64 5, .int .i64 kk, .int .i64 kind, .int .i64 fr, .int .i64 to, .int .i64 te, .int .i64 ix, .int .i64 at_, .int .i64 co, .int .i64 me, .int .i64 off, .int .i64 sz, .bool yes, .string data, .slice ea n2 ec] _ RG.out HU42.out (by rfl) HI42.out ?_)
                    | (refine wpList_store_blk (by rfl) 42 _ _ (by rfl) (wr.heap.size) 0 #[.int .i64 5, .int .i64 kk, .int .i64 kind, .int .i64 fr, .int .i64 to, .int .i64 te, .int .i64 ix, .int .i64 at_, .int .i64 co, .int .i64 me, .int .i64 off, .int .i64 sz, .bool yes, .string data, .slice ea n2 ec] (by rfl) (by rfl) (new_blk wr (.cells #[.int .i64 0, .int .i64 0, .int .i64 0, .int .i64 0, .int .i64 0, .int .i64 0, .int .i64 0, .int .i64 0, .int .i64 0, .int .i64 0, .int .i64 0, .int .i64 0, .bool false, .string ⟨#[]⟩, .slice none 0 0] 42)) 15 (by rfl) (by exact Nat.le_refl 15) HI42.out (by rfl) #[.int .i64 5, .int .i64 kk, .int .i64 kind, .int .i64 fr, .int .i64 to, .int .i64 te, .int .i64 ix, .int .i64 at_, .int .i64 co, .int .i64 me, .int .i64 off, .int .i64 sz, .bool yes, .string data, .slice ea n2 ec] (by rfl) ?_; intro z1 hz hkz; have DR := Lib.hid hz; have H1 := Lib.hid (PN.add HP.out hz hkz); obtain ⟨c0, _⟩ := blkG DR.out 0 (.int .i64 5) rfl; obtain ⟨c1, _⟩ := blkG DR.out 1 (.int .i64 kk) rfl; obtain ⟨c14, _⟩ := blkG DR.out 14 (.slice ea n2 ec) rfl; clear hz hkz)
                    | fail)
                  go_at_call 12
                  refine (pn_split H1.out kk).mono ?_
                  rintro e x1 ⟨rfl, h1⟩
                  have H2 := Lib.hid h1
                  have DR2 := Lib.hid (h1.box (wr.heap.size, _) List.mem_cons_self)
                  obtain ⟨d1, _⟩ := blkG DR2.out 1 (.int .i64 kk) rfl
                  obtain ⟨r1, r2, r3⟩ := h1.rside
                  have H3 := Lib.hid (h1.rsplit (kk % 128))
                  have FIN := Lib.hid (And.intro HOK.out (And.intro HM.out (side_7 kk)))
                  clear h1 c0 c1 c14 H2 DR2 DR H1 HOK HM HQ HCE HES H20
                  go_wp2_with fail
                  obtain ⟨ra, rc, hrc⟩ := H3.out.rcell
                  have hrb := World.block_lt_of_cell? _ _ hrc
                  have HLEN := Lib.hid fun (z : World) (hz : Ext (x1.setCell ⟨x0.heap.size, 1, none⟩ (.int .i64 (kk % 128))) z) => pn_len (H3.out.grow hz)
                  go_wp2_with fail
                  go_quiet (first | (go_at_call 9; exact quiet_eq (HLEN.out _ (Ext.drewN (Ext.refl _) _))) | fail)
                  go_wp2
                  exact ⟨⟨j + 1, N, (kk % 128), by omega, by simp, FIN.out.1, FIN.out.2.1, FIN.out.2.2.1, FIN.out.2.2.2, PN.drop (H3.out.grow (Ext.drewN (Ext.refl _) _))⟩, by simp [intOf]; omega⟩
                · skip
                  go_wp2_with (first
                    | (refine wpList_load_mid (by rfl) 42 _ (by rfl) sb (so + j * 15) (by rfl) [.int .i64 qk, .int .i64 kk, .int .i64 kind, .int .i64 fr, .int .i64 to, .int .i64 te, .int .i64 ix, .int .i64 at_, .int .i64 co, .int .i64 me, .int .i64 off, .int .i64 sz, .bool yes, .string data, .slice ea n2 ec] _ RG.out HU42.out (by rfl) HI42.out ?_)
                    | (refine wpList_store_blk (by rfl) 42 _ _ (by rfl) (wr.heap.size) 0 #[.int .i64 qk, .int .i64 kk, .int .i64 kind, .int .i64 fr, .int .i64 to, .int .i64 te, .int .i64 ix, .int .i64 at_, .int .i64 co, .int .i64 me, .int .i64 off, .int .i64 sz, .bool yes, .string data, .slice ea n2 ec] (by rfl) (by rfl) (new_blk wr (.cells #[.int .i64 0, .int .i64 0, .int .i64 0, .int .i64 0, .int .i64 0, .int .i64 0, .int .i64 0, .int .i64 0, .int .i64 0, .int .i64 0, .int .i64 0, .int .i64 0, .bool false, .string ⟨#[]⟩, .slice none 0 0] 42)) 15 (by rfl) (by exact Nat.le_refl 15) HI42.out (by rfl) #[.int .i64 qk, .int .i64 kk, .int .i64 kind, .int .i64 fr, .int .i64 to, .int .i64 te, .int .i64 ix, .int .i64 at_, .int .i64 co, .int .i64 me, .int .i64 off, .int .i64 sz, .bool yes, .string data, .slice ea n2 ec] (by rfl) ?_; intro z1 hz hkz; have DR := Lib.hid hz; have H1 := Lib.hid (PN.add HP.out hz hkz); obtain ⟨c0, _⟩ := blkG DR.out 0 (.int .i64 qk) rfl; obtain ⟨c1, _⟩ := blkG DR.out 1 (.int .i64 kk) rfl; obtain ⟨c14, _⟩ := blkG DR.out 14 (.slice ea n2 ec) rfl; clear hz hkz)
                    | fail)
                  have FIN := Lib.hid (And.intro HOK.out (And.intro HM.out HS.out))
                  obtain ⟨ra, rc, hrc⟩ := H1.out.rcell
                  have hrb := World.block_lt_of_cell? _ _ hrc
                  have HLEN := Lib.hid fun (z : World) (hz : Ext z1 z) => pn_len (H1.out.grow hz)
                  go_wp2_with fail
                  go_quiet (first | (go_at_call 9; exact quiet_eq (HLEN.out _ (Ext.drewN (Ext.refl _) _))) | fail)
                  go_wp2
                  exact ⟨⟨j + 1, N, s, by omega, by simp, FIN.out.1, FIN.out.2.1, FIN.out.2.2.1, FIN.out.2.2.2, PN.drop (H1.out.grow (Ext.drewN (Ext.refl _) _))⟩, by simp [intOf]; omega⟩
    · have hex : j = n ∨ (j < n ∧ 250 ≤ j) := by omega
      rcases hex with rfl | ⟨h1, h2⟩
      · go_wp2_with (go_at_call 3; refine (netRuns_any _).mono ?_; rintro e x9 ⟨rfl, hx9⟩)
        go_ret
        exact ⟨rfl, HP.out.ext.trans hx9⟩
      · have hi2 : (j : Int) < (n : Int) := by omega
        have hi3 : ¬ (j : Int) < 250 := by omega
        go_wp2_with (go_at_call 3; refine (netRuns_any _).mono ?_; rintro e x9 ⟨rfl, hx9⟩)
        go_ret
        exact ⟨rfl, HP.out.ext.trans hx9⟩
end Go.Proofs.Ytognipephfedkaa
