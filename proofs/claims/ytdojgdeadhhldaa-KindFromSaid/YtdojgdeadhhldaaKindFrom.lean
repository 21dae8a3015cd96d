/- The law KindFrom: the walk. -/
import Derived.Test.YtdojgdeadhhldaaKindFrom1
import Derived.Test.YtdojgdeadhhldaaKindDeep
import Derived.Test.YtdojgdeadhhldaaKindTakes
import Derived.Test.YtdojgdeadhhldaaQuietS
import Derived.Deep.Cut
namespace Go.Proofs.Ytdojgdeadhhldaa
open Go.RowKit

/-- The state of the first loop: the things and the values that they tell lie in two own rows; what the things hold lies in neither. -/
structure FromI (w wr : World) (n : Nat) (tv wv : Value) (its : List (Value × V × Nat)) : Prop where
  le : its.length ≤ n
  things : wr.ownsRow w.heap.size 25 1 tv its.length (its.map fun t => t.1)
  want : OwnS V.cells 6 32 wr w.heap.size wv (headV n :: its.map fun t => t.2.1)
  sep : Sep tv wv
  tells : ∀ t ∈ its, Tells wr (fun b => w.heap.size ≤ b ∧ b < wr.heap.size ∧ notBlk tv b ∧ notBlk wv b) t.1 [t.2.1] t.2.2
  deep : ∀ t ∈ its, t.2.2 ≤ 1
  ext : Ext w wr
  size : w.heap.size ≤ wr.heap.size
def ones (its : List (Value × V × Nat)) : List (Value × List V × Nat) := its.map fun t => (t.1, [t.2.1], t.2.2)
theorem deep_le : ∀ (its : List (Value × V × Nat)), (∀ t ∈ its, t.2.2 ≤ 1) → deepOf (ones its) ≤ 1
  | [], _ => Nat.zero_le _
  | t :: ts, h => by
    have h1 := h t (by simp)
    have h2 := deep_le ts fun u hu => h u (List.mem_cons_of_mem _ hu)
    rw [ones, List.map_cons, deepOf]
    exact Nat.max_le.2 ⟨h1, h2⟩
theorem flat_ones (its : List (Value × V × Nat)) : (its.map fun t => (t.1, [t.2.1], t.2.2)).flatMap (·.2.1) = its.map fun t => t.2.1 := by
  induction its with
  | nil => rfl
  | cons t ts ih => simp only [List.map_cons, List.flatMap_cons, ih]; rfl

set_option maxHeartbeats 16000000 in
set_option maxRecDepth 100000 in
theorem from_few (l : List V) (h100 : l.length ≤ 100) (v : Value) (w : World) (hl : SlC w w.heap.size v l) : Calls Try.prog 6 #[v] w fun e w' => e = .returned (.bool true) ∧ Ext w w' := by
  obtain ⟨i0, hi, iz0, iz1, iz2⟩ := info_parts Try.infoV
  obtain ⟨j0, ji, jz0, jz1, jz2⟩ := info_parts Try.infoThing
  obtain ⟨a, cap, rfl, hlc, hcm, hs⟩ := hl
  have hi100 : ¬ (100 : Int) < (l.length : Int) := by omega
  obtain ⟨n, hn⟩ : ∃ n, l.length = n := ⟨_, rfl⟩
  have HS : Hid (SlS V.cells 6 w (.slice a l.length cap) l) := Lib.hid hs
  have hn100 : n ≤ 100 := by omega
  clear hs
  rw [hn] at HS hi100 ⊢
  have HN := Lib.hid hn
  clear hn h100 hlc
  go_enter Try.func6, Try.ntmps6
  go_wp2_with fail
  have hX0 : Ext w (w.alloc (.cells #[.int .i64 5, .int .i64 (n : Int), .string ⟨#[]⟩, .int .i64 0, .int .i64 0, .int .i64 0] 32)) := (Ext.refl w).alloc _
  have hrow := own_lit w [headV n] 1 #[.int .i64 5, .int .i64 (n : Int), .string ⟨#[]⟩, .int .i64 0, .int .i64 0, .int .i64 0] rfl rfl (by simp)
  have hzz : w.heap.size ≤ (w.alloc (.cells #[.int .i64 5, .int .i64 (n : Int), .string ⟨#[]⟩, .int .i64 0, .int .i64 0, .int .i64 0] 32)).heap.size := by simp
  generalize (w.alloc (.cells #[.int .i64 5, .int .i64 (n : Int), .string ⟨#[]⟩, .int .i64 0, .int .i64 0, .int .i64 0] 32)) = Z at *
  go_loopw [3, 4, 5] (fun tv wv iv wr => ∃ its, FromI w wr n tv wv its ∧ iv = .int .i64 (its.length : Int)) (fun _ _ iv _ => n - (intOf iv).toNat)
  case atStart => exact ⟨[], ⟨Nat.zero_le _, World.ownsRow_nil _ _ _ _, hrow, fun a n c a' n' c' h1 _ => (by cases h1), by simp, by simp, hX0, hzz⟩, rfl⟩
  case round =>
    obtain ⟨its, hI, rfl⟩ := hrel
    clear hrow
    by_cases hq : its.length < n
    · have hqi : (its.length : Int) < (n : Int) := by omega
      have hqi0 : (0 : Int) ≤ (its.length : Int) := by omega
      have hql : its.length < l.length := by have := HN.out; omega
      obtain ⟨b1, o1, rfl, hb1, hc1⟩ := SlS.at_ V.len (show SlS V.cells 6 w _ l from HS.out) (by omega) (by decide)
      have hxq := hc1 its.length hql
      have hbr := Nat.lt_of_lt_of_le hb1 hI.size
      have g0 := (hI.ext.cell (p := ⟨b1, o1 + its.length * 6 + 0, none⟩) hb1).trans (hxq 0 (by decide))
      have g1 := (hI.ext.cell (p := ⟨b1, o1 + its.length * 6 + 1, none⟩) hb1).trans (hxq 1 (by decide))
      have g2 := (hI.ext.cell (p := ⟨b1, o1 + its.length * 6 + 2, none⟩) hb1).trans (hxq 2 (by decide))
      have g3 := (hI.ext.cell (p := ⟨b1, o1 + its.length * 6 + 3, none⟩) hb1).trans (hxq 3 (by decide))
      have g4 := (hI.ext.cell (p := ⟨b1, o1 + its.length * 6 + 4, none⟩) hb1).trans (hxq 4 (by decide))
      have g5 := (hI.ext.cell (p := ⟨b1, o1 + its.length * 6 + 5, none⟩) hb1).trans (hxq 5 (by decide))
      clear hxq hc1
      generalize l[its.length] = x at *
      simp only [V.cells, List.getElem?_cons_zero, List.getElem?_cons_succ, Nat.add_zero] at g0 g1 g2 g3 g4 g5
      have HI := Lib.hid hI
      clear hI
      go_wp2_with (first
        | (go_at_call 26; (refine (lone_any x _).mono ?_); rintro e z1 ⟨v, y, D, rfl, t1, hD1, hz1⟩; have st1 : (store ⟨z1.heap.size, 0, none⟩ v).run Try.prog (z1.alloc (.cells #[.nilIface] 25)) = .ok () (z1.alloc (.cells #[v] 25)) := (by rcases t1.form with rfl | ⟨_, _, rfl⟩ <;> simp [go_sem]); have T1 := Lib.hid (t1.keep (w' := z1.alloc (.cells #[v] 25)) (ok' := fun b => b < (z1.alloc (.cells #[v] 25)).heap.size) fun b hb => ⟨(Ext.refl z1 |>.alloc _).block b hb.2, by simp; omega⟩); have T0 := Lib.hid t1; clear t1)
        | (go_at_call 23; (refine (flat_yes _ T1.out (by simp [flatOk]; omega)).mono ?_); rintro e z2 ⟨m, rfl, hom, hz2⟩))
      have c1 : (z1.alloc (.cells #[v] 25)).cell? ⟨z1.heap.size, 0, none⟩ = some v := by simp [go_sem]
      have k1s : z1.heap.size < (z1.alloc (.cells #[v] 25)).heap.size := by simp
      have c2 := (hz2.cell (p := ⟨z1.heap.size, 0, none⟩) k1s).trans c1
      have hsz2 := World.block_lt_of_cell? _ _ c2
      obtain ⟨gm, cm, rfl⟩ : ∃ g c, m = .slice (some ⟨g, 0, none⟩) 1 c := by
        rcases hom.2 with ⟨h0, h00⟩ | ⟨gg, cc, cur, h0, _⟩
        · simp at h00
        · exact ⟨gg, cc, h0⟩
      obtain ⟨hat, hbg⟩ := OwnS.at_ V.len hom rfl 0 (by simp)
      obtain ⟨hg1, hg2⟩ := hbg (by decide)
      have m0 : z2.cell? ⟨gm, 0, none⟩ = some (.int .i64 y.kind) := (hat 0 (by decide)).1
      have s2 : ∀ z, Calls Try.prog 19 #[.agg #[v]] z fun e w' => e = .returned (.int .i64 y.kind) ∧ Ext z w' := fun z => kind_any v [y] D _ _ T1.out z
      have S2 := Lib.hid s2
      have c2' := fun (u : SubW (Ext z2)) => (u.ok.cell (p := ⟨z1.heap.size, 0, none⟩) hsz2).trans c2
      have m0' := fun (u : SubW (Ext z2)) => (u.ok.cell (p := ⟨gm, 0, none⟩) hg2).trans m0
      have inst : Nonempty (SubW (Ext z2)) := ⟨⟨_, Ext.refl _⟩⟩
      have HAT := Lib.hid hat
      have HZ1 := Lib.hid hz1
      clear s2 c1 st1 hat hbg m0 g0 g1 g2 g3 g4 g5 hz1
      refine wp_region_quietS (Ext z2) (by kernel_rfl) (by kernel_rfl) ((Ext.refl _).drew) ?_
      repeat (go_big_quiet_step (first | (go_at_call 19; with_reducible exact quietS_ext (S2.out _))))
      refine wpQuiet_nil ?_
      rintro _ ⟨y5, rfl⟩
      have hx6 := y5.ok
      have c3 := c2' y5
      generalize y5.w = x5 at hx6 c3 ⊢
      clear c2' m0' inst y5
      have hI := HI.out
      have hW5 : Ext wr x5 := HZ1.out.trans (Ext.trans ((Ext.refl z1).alloc _) (hz2.trans hx6))
      have ht5 := own_ext hI.things hW5
      have hw5 : OwnS V.cells 6 32 x5 w.heap.size _ _ := hI.want.ext hW5
      have hsep := hI.sep
      have hsz5 : w.heap.size ≤ x5.heap.size := Nat.le_trans hI.size hW5.size
      have hlr := hI.le
      have hv1 : v.oneCell' = true := T0.out.cell1
      have hzr1 := HZ1.out.size
      have hg1' : wr.heap.size < gm := by simp at hg1; omega
      have hnb : notBlk u3 gm := fun a n c he => Nat.ne_of_lt (Nat.lt_trans (own_blk hI.things a n c he) hg1')
      have hgx : gm < x5.heap.size := Nat.lt_of_lt_of_le hg2 hx6.size
      clear hI
      go_wp2_with (at_builtin; refine wpList_own_push2 (w := x5) rfl _ _ 34 rfl w.heap.size 25 25 j0 _ 1 16 Try.underlying34 ji jz0 jz1 jz2 rfl (by decide) _ its.length 1 1 _ [v] ht5 rfl rfl rfl rfl ?d2 ?d3 ?d4 hsz5 ?_)
      all_goals try (intro u hu; simp only [List.mem_cons, List.not_mem_nil, or_false] at hu; rw [hu]; exact hv1)
      case d3 => unfold maxLen; omega
      case d4 => omega
      intro tv' w6 ho6 hb6 hap6
      obtain ⟨hsep6, hk6⟩ := sep_step hsep hap6 (own_blk hw5)
      have hw6 : OwnS V.cells 6 32 w6 w.heap.size _ _ := own_keep hw5 hk6
      have hb6s := hb6.size
      have hgb := (hap6 gm hgx hnb).1
      have kc := fun j (hj : j < 6) => (World.cell?_of_block (a := ⟨gm, 0 * 6 + j, none⟩) hgb).trans ((hx6.cell (p := ⟨gm, 0 * 6 + j, none⟩) hg2).trans (HAT.out j hj).1)
      have k0 : w6.cell? ⟨gm, 0, none⟩ = some (.int .i64 y.kind) := kc 0 (by decide)
      have k1 : w6.cell? ⟨gm, 1, none⟩ = some (.int .i64 y.n) := kc 1 (by decide)
      have k2 : w6.cell? ⟨gm, 2, none⟩ = some (.string y.text) := kc 2 (by decide)
      have k3 : w6.cell? ⟨gm, 3, none⟩ = some (.int .i64 y.y) := kc 3 (by decide)
      have k4 : w6.cell? ⟨gm, 4, none⟩ = some (.int .i64 y.m) := kc 4 (by decide)
      have k5 : w6.cell? ⟨gm, 5, none⟩ = some (.int .i64 y.d) := kc 5 (by decide)
      clear kc hsep
      have hrl : (headV n :: its.map fun t => t.2.1).length = its.length + 1 := by simp
      have hw6' := hw6
      unfold OwnS at hw6'
      rw [hrl] at hw6'
      have hsz6 : w.heap.size ≤ w6.heap.size := by omega
      go_wp2_with (at_builtin; refine wpList_own_push2 (w := w6) rfl _ _ 33 rfl w.heap.size 32 32 i0 _ 6 56 Try.underlying33 hi iz0 iz1 iz2 rfl (by decide) _ (its.length + 1) 1 1 _ [.int .i64 y.kind, .int .i64 y.n, .string y.text, .int .i64 y.y, .int .i64 y.m, .int .i64 y.d] hw6' rfl rfl rfl rfl ?c2 ?c3 ?c4 hsz6 ?_)
      case c2 => intro u hu; simp only [List.mem_cons, List.not_mem_nil, or_false] at hu; rcases hu with rfl | rfl | rfl | rfl | rfl | rfl <;> rfl
      case c3 => unfold maxLen; omega
      case c4 => omega
      intro wv' w7 ho7 hb7 hap7
      obtain ⟨hsep7, hk7⟩ := sep_step hsep6.symm hap7 (own_blk ho6)
      have ht7 := own_keep ho6 hk7
      have hb7s := hb7.size
      have hFI : FromI w w7 n tv' wv' (its ++ [(v, y, D)]) := by
        have hI := HI.out
        have step : ∀ b, b < x5.heap.size → notBlk u3 b → notBlk u4 b → w7.heap[b]? = x5.heap[b]? ∧ notBlk tv' b ∧ notBlk wv' b := fun b hb ht hw => by
          obtain ⟨p1, p2⟩ := hap6 b hb ht
          obtain ⟨p3, p4⟩ := hap7 b (by omega) hw
          exact ⟨p3.trans p1, p2, p4⟩
        refine ⟨by simp; omega, ?_, ?_, hsep7.symm, ?_, ?_, Below.trans (Below.trans (Ext.trans hI.ext hW5) hb6) hb7, by omega⟩
        · simpa using ht7
        · unfold OwnS
          rw [List.map_append, ← List.cons_append, List.length_append, List.flatMap_append, hrl]
          simpa [V.cells] using ho7
        · intro t ht
          rcases List.mem_append.1 ht with ht | ht
          · refine (hI.tells t ht).keep fun b hb => ?_
            obtain ⟨q1, q2, q3, q4⟩ := hb
            obtain ⟨p1, p2, p3⟩ := step b (Nat.lt_of_lt_of_le q2 hW5.size) q3 q4
            exact ⟨p1.trans (Below.block hW5 b q2), q1, by have := hW5.size; omega, p2, p3⟩
          · simp at ht
            subst ht
            refine T0.out.keep fun b hb => ?_
            obtain ⟨q1, q2⟩ := hb
            have hzx : Ext z1 x5 := Ext.trans ((Ext.refl z1).alloc _) (hz2.trans hx6)
            obtain ⟨p1, p2, p3⟩ := step b (Nat.lt_of_lt_of_le q2 hzx.size) (fun a n c he => Nat.ne_of_lt (Nat.lt_of_lt_of_le (own_blk hI.things a n c he) q1)) (fun a n c he => Nat.ne_of_lt (Nat.lt_of_lt_of_le (own_blk hI.want a n c he) q1))
            exact ⟨p1.trans (Below.block hzx b q2), by have := hI.size; omega, by have := hzx.size; omega, p2, p3⟩
        · intro t ht
          rcases List.mem_append.1 ht with ht | ht
          · exact hI.deep t ht
          · simp at ht
            subst ht
            exact hD1
      clear ho6 ho7 hap6 hap7 hsep6 hsep7 hk6 hk7 hw6 hw6' ht7 hw5 ht5 HI HAT T0 T1 S2
      go_wp2_with fail
      go_roundw
      case rel => exact ⟨_, hFI, by simp⟩
      case measure => simp [intOf]; omega
    · have hqi : ¬ (its.length : Int) < (n : Int) := by omega
      have hle := hI.le
      have hqn : its.length = n := by omega
      have hrow2 := SlR.of_own hI.things
      rw [hqn] at hrow2
      have hcs : ∀ u ∈ its.map fun t => t.1, u.oneCell' = true := by
        intro u hu
        obtain ⟨t, ht, rfl⟩ := List.mem_map.1 hu
        exact (hI.tells t ht).cell1
      have HI := Lib.hid hI
      have hglt := fun a0 n0 c0 he => own_blk hI.things a0 n0 c0 he
      have hsepU := hI.sep
      obtain ⟨_, _, am, cm, hform, _⟩ := SlR.of_own hI.things
      rw [hqn] at hform
      have hthr := hI.things
      rw [hqn] at hthr
      subst hform
      have HGL := Lib.hid hglt
      have HSP := Lib.hid hsepU
      have HTH := Lib.hid hthr
      have HQN := Lib.hid hqn
      clear hI hqn hglt hsepU hthr
      go_wp2_with (go_at_call 27; (refine (fromList_any _ n _ _ hrow2 hcs (by omega)).mono ?_); rintro e y1 ⟨sl', rfl, hsl, hy1⟩)
      obtain ⟨D', hD'⟩ : ∃ D', 1 + deepOf (ones its) = D' := ⟨_, rfl⟩
      have hD2 : D' ≤ 2 := by have := deep_le its HI.out.deep; omega
      have hY1 : Ext wr (y1.alloc (.cells #[.iface 82 (.agg #[sl'])] 25)) := hy1.alloc _
      have TT : Tells (y1.alloc (.cells #[.iface 82 (.agg #[sl'])] 25)) (fun b => w.heap.size ≤ b ∧ b < (y1.alloc (.cells #[.iface 82 (.agg #[sl'])] 25)).heap.size ∧ notBlk (.slice am n cm) b) (.iface 82 (.agg #[sl'])) (headV n :: its.map fun t => t.2.1) D' := by
        have hsz := HI.out.size
        have hm1 : (ones its).map (fun t => t.1) = its.map fun t => t.1 := by simp [ones]
        have := Tells.list (w := y1.alloc (.cells #[.iface 82 (.agg #[sl'])] 25)) (ok := fun b => w.heap.size ≤ b ∧ b < (y1.alloc (.cells #[.iface 82 (.agg #[sl'])] 25)).heap.size ∧ notBlk (.slice am n cm) b) sl' (ones its) (by
            have hl : (ones its).length = n := by rw [ones, List.length_map]; exact HQN.out
            rw [hl, hm1]
            refine (SlP.of_own hsl).keep fun b hb => ?_
            obtain ⟨q1, q2⟩ := hb
            exact ⟨Below.heap_alloc _ _ b q2, by omega, by simp; omega, fun a0 n0 c0 he => Nat.ne_of_lt (Nat.lt_of_lt_of_le (HGL.out a0 n0 c0 he) q1)⟩) (fun t ht => by
            obtain ⟨u, hu, rfl⟩ := List.mem_map.1 ht
            refine (HI.out.tells u hu).keep fun b hb => ?_
            obtain ⟨q1, q2, q3, q4⟩ := hb
            exact ⟨Below.block hY1 b q2, q1, Nat.lt_of_lt_of_le q2 hY1.size, q3⟩)
        rw [hD'] at this
        have e1 : headV (ones its).length :: (ones its).flatMap (·.2.1) = headV n :: its.map fun t => t.2.1 := by
          have hl : (ones its).length = n := by rw [ones, List.length_map]; exact HQN.out
          rw [hl, ones, flat_ones]
        rw [e1] at this
        exact this
      obtain ⟨L, hL⟩ : ∃ L, headV n :: (its.map fun t => t.2.1) = L := ⟨_, rfl⟩
      have hLl : L.length = n + 1 := by rw [← hL, List.length_cons, List.length_map, HQN.out]
      have hLk : kindOf L = 5 := by rw [← hL]; rfl
      have hLn : (hd L).n = (n : Int) := by rw [← hL]; rfl
      have hwant0 := HI.out.want
      rw [hL] at TT hwant0
      have hwY := OwnS.ext hwant0 hY1
      have htY := own_ext HTH.out hY1
      have hXY : Ext w (y1.alloc (.cells #[.iface 82 (.agg #[sl'])] 25)) := HI.out.ext.trans hY1
      have hbx : (y1.alloc (.cells #[.iface 82 (.agg #[sl'])] 25)).heap[y1.heap.size]? = some (.cells #[.iface 82 (.agg #[sl'])] 25 (0, 0)) := new_blk _ _
      have hy1s := hy1.size
      have HLL := Lib.hid hLl
      have HLK := Lib.hid hLk
      have HLN := Lib.hid hLn
      clear hL hLl hLk hLn hwant0 hrow2 hcs hY1 hsl hy1 hD'
      generalize (y1.alloc (.cells #[.iface 82 (.agg #[sl'])] 25)) = Y at *
      generalize (Value.iface 82 (.agg #[sl'])) = vv at *
      have hY1s := blk_lt hbx
      go_loopw [10] (fun iv wq => ∃ (k : Nat) (cs' : List Value), k ≤ n ∧ iv = .int .i64 (k : Int) ∧ wq.ownsRow w.heap.size 25 1 (.slice am n cm) n cs' ∧ OwnS V.cells 6 32 wq w.heap.size u4 L ∧ Hid (wq.heap[y1.heap.size]? = some (.cells #[vv] 25 (0, 0))) ∧ Tells wq (fun b => w.heap.size ≤ b ∧ b < wq.heap.size ∧ notBlk (.slice am n cm) b) vv L D' ∧ Ext w wq) (fun iv _ => n - (intOf iv).toNat)
      case atStart => exact ⟨0, _, Nat.zero_le _, rfl, htY, hwY, Lib.hid hbx, TT, hXY⟩
      case round =>
        rename World => wq
        obtain ⟨k, cs', hk, rfl, how, hwn, HBX, ht, hxq⟩ := hrel
        clear hbx htY hwY TT hXY
        obtain ⟨c4, _⟩ := blk HBX.out 0 vv rfl
        have HWN := Lib.hid hwn
        have HTT := Lib.hid ht
        clear hwn ht
        by_cases hlt : k < n
        · have hki : (k : Int) < (n : Int) := by omega
          have hki0 : (0 : Int) ≤ (k : Int) := by omega
          have hcl : cs'.length = n := by have := how.1; omega
          obtain ⟨g, rfl⟩ : ∃ g, am = some ⟨g, 0, none⟩ := by
            rcases how.2 with ⟨h0, _⟩ | ⟨gg, cc, cur, h0, _⟩
            · cases h0; omega
            · cases h0; exact ⟨_, rfl⟩
          have hgw : g < wr.heap.size := HGL.out _ _ _ rfl
          have hat := fun z (hz : Ext wq z) => own_at (own_ext how hz) k _ (List.getElem?_eq_getElem (show k < cs'.length by omega))
          have hset := fun z (hz : Ext wq z) u => own_set (own_ext how hz) k u (show k < cs'.length by omega)
          have HS2 := Lib.hid hset
          have HAT := Lib.hid hat
          clear hset hat how
          go_wp2_with (go_at_call 14; (refine (fromText_any _ _).mono ?_); rintro e z ⟨rfl, hz⟩; obtain ⟨g1, g2, g3, g4⟩ := HAT.out z hz)
          go_roundw
          case rel =>
            refine ⟨k + 1, _, by omega, by simp, HS2.out z hz _, own_keep (OwnS.ext HWN.out hz) fun a0 n0 c0 he => Below.heap_setCell _ _ _ _ (fun h => (HSP.out _ _ _ _ _ _ rfl he) h.symm), Lib.hid (set_blk (ext_blk hz HBX.out) (by omega)), HTT.out.keep fun b hb => ?_, (hxq.trans hz).setCell g3 _⟩
            obtain ⟨q1, q2, q3⟩ := hb
            exact ⟨(Below.heap_setCell z ⟨g, k, none⟩ _ b (fun h => q3 _ _ _ rfl h.symm)).trans (Below.block hz b q2), q1, by have := hz.size; simp; omega, q3⟩
          case measure => simp [intOf]; omega
        · have hki : ¬ (k : Int) < (n : Int) := by omega
          have T4 : Hid (TellsB wq wq.heap.size vv L D') := Lib.hid (HTT.out.keep fun b hb => ⟨rfl, hb.2.1⟩)
          have hok : flatOk 0 L.length 0 D' = true := by simp [flatOk]; have := HLL.out; omega
          have LST : Hid (∀ z, Ext wq z → Calls Try.prog 11 #[.agg #[vv]] z fun e w' => ∃ (a : Option Addr) (c : Nat), e = .returned (.tuple #[.slice a n c, .bool true]) ∧ Ext z w') := Lib.hid (by
            intro z hz
            refine (thingList2 z (T4.out.ext hz) (by have := HLL.out; omega)).mono ?_
            rintro e w' ⟨a, c, n', rfl, _, h2, h3⟩
            rw [if_pos HLK.out, HLN.out] at h2
            obtain rfl : n' = n := by omega
            exact ⟨a, c, by simp [HLK.out], h3⟩)
          have KND : Hid (∀ z, Calls Try.prog 19 #[.agg #[vv]] z fun e w' => e = .returned (.int .i64 5) ∧ Ext z w') := Lib.hid (by
            intro z
            have := kind_any vv L D' _ _ T4.out z
            rw [HLK.out] at this
            exact this)
          clear how
          have hLb : L.length ≤ 1000000 := by have := HLL.out; omega
          go_wp2_with (first
            | (go_at_call 23; (refine (flat_yes _ T4.out hok).mono ?_); rintro e z1 ⟨m1, rfl, ho1, hz1⟩; have B1 := Lib.hid (ext_blk hz1 HBX.out); obtain ⟨c5, _⟩ := blk B1.out 0 vv rfl; have HO1 := Lib.hid ho1; clear ho1)
            | (go_at_call 11; (refine (LST.out _ hz1).mono ?_); rintro e z2 ⟨a2, k2, rfl, hz2⟩)
            | (go_at_call 24; (refine (sameV _ _ L L true ⟨fun _ => rfl, fun _ => rfl⟩ _ (OwnS.rd (HO1.out.ext hz2)) (OwnS.rd (HWN.out.ext (hz1.trans hz2))) (by omega) (by omega)).mono ?_); rintro e z3 ⟨rfl, hz3⟩; have B3 := Lib.hid (ext_blk hz3 (ext_blk hz2 B1.out)); obtain ⟨c6, _⟩ := blk B3.out 0 vv rfl)
            | (go_at_call 19; (refine (KND.out _).mono ?_); rintro e z4 ⟨rfl, hz4⟩)
            | (go_at_call 3; refine (kindRuns_any _).mono ?_; rintro e z5 ⟨rfl, hz5⟩))
          go_ret
          exact ⟨rfl, hxq.trans (hz1.trans (hz2.trans (hz3.trans (hz4.trans hz5))))⟩
set_option maxHeartbeats 16000000 in
set_option maxRecDepth 100000 in
theorem from_many (l : List V) (h100 : 100 < l.length) (v : Value) (w : World) (hl : SlC w w.heap.size v l) : Calls Try.prog 6 #[v] w fun e w' => e = .returned (.bool true) ∧ Ext w w' := by
  obtain ⟨i0, hi, iz0, iz1, iz2⟩ := info_parts Try.infoV
  obtain ⟨j0, ji, jz0, jz1, jz2⟩ := info_parts Try.infoThing
  obtain ⟨a, cap, rfl, hlc, hcm, hs⟩ := hl
  have hi100 : (100 : Int) < (l.length : Int) := by omega
  have h0100 : (100 : Int) ≤ (cap : Int) := by omega
  have hs2 : SlS V.cells 6 w (.slice a 100 cap) (l.take 100) := SlS.cut V.len (show SlS V.cells 6 w _ l from hs) 100 (by omega) cap
  have hl2 : (l.take 100).length = 100 := by rw [List.length_take]; omega
  clear hs
  go_enter Try.func6, Try.ntmps6
  go_upto_region 3 with (fail)
  obtain ⟨n, hn⟩ : ∃ n : Nat, n = 100 := ⟨_, rfl⟩
  have e1 : Value.slice a 100 cap = Value.slice a n cap := by rw [hn]
  rw [e1]
  have HS : Hid (SlS V.cells 6 w (.slice a n cap) (l.take 100)) := Lib.hid (by rw [hn]; exact hs2)
  have hn100 : n ≤ 100 := by omega
  obtain ⟨l', hl'⟩ : ∃ l', l' = l.take 100 := ⟨_, rfl⟩
  rw [← hl'] at HS hl2
  rw [← hn] at hl2
  have HN := Lib.hid hl2
  clear e1 hn hs2 hl' hl2 h100 hi100 h0100 hlc
  generalize l.length = n0
  clear l
  rename List V => l
  go_wp2_with fail
  have hX0 : Ext w (w.alloc (.cells #[.int .i64 5, .int .i64 (n : Int), .string ⟨#[]⟩, .int .i64 0, .int .i64 0, .int .i64 0] 32)) := (Ext.refl w).alloc _
  have hrow := own_lit w [headV n] 1 #[.int .i64 5, .int .i64 (n : Int), .string ⟨#[]⟩, .int .i64 0, .int .i64 0, .int .i64 0] rfl rfl (by simp)
  have hzz : w.heap.size ≤ (w.alloc (.cells #[.int .i64 5, .int .i64 (n : Int), .string ⟨#[]⟩, .int .i64 0, .int .i64 0, .int .i64 0] 32)).heap.size := by simp
  generalize (w.alloc (.cells #[.int .i64 5, .int .i64 (n : Int), .string ⟨#[]⟩, .int .i64 0, .int .i64 0, .int .i64 0] 32)) = Z at *
  go_loopw [3, 4, 5] (fun tv wv iv wr => ∃ its, FromI w wr n tv wv its ∧ iv = .int .i64 (its.length : Int)) (fun _ _ iv _ => n - (intOf iv).toNat)
  case atStart => exact ⟨[], ⟨Nat.zero_le _, World.ownsRow_nil _ _ _ _, hrow, fun a n c a' n' c' h1 _ => (by cases h1), by simp, by simp, hX0, hzz⟩, rfl⟩
  case round =>
    obtain ⟨its, hI, rfl⟩ := hrel
    clear hrow
    by_cases hq : its.length < n
    · have hqi : (its.length : Int) < (n : Int) := by omega
      have hqi0 : (0 : Int) ≤ (its.length : Int) := by omega
      have hql : its.length < l.length := by have := HN.out; omega
      obtain ⟨b1, o1, rfl, hb1, hc1⟩ := SlS.at_ V.len (show SlS V.cells 6 w _ l from HS.out) (by omega) (by decide)
      have hxq := hc1 its.length hql
      have hbr := Nat.lt_of_lt_of_le hb1 hI.size
      have g0 := (hI.ext.cell (p := ⟨b1, o1 + its.length * 6 + 0, none⟩) hb1).trans (hxq 0 (by decide))
      have g1 := (hI.ext.cell (p := ⟨b1, o1 + its.length * 6 + 1, none⟩) hb1).trans (hxq 1 (by decide))
      have g2 := (hI.ext.cell (p := ⟨b1, o1 + its.length * 6 + 2, none⟩) hb1).trans (hxq 2 (by decide))
      have g3 := (hI.ext.cell (p := ⟨b1, o1 + its.length * 6 + 3, none⟩) hb1).trans (hxq 3 (by decide))
      have g4 := (hI.ext.cell (p := ⟨b1, o1 + its.length * 6 + 4, none⟩) hb1).trans (hxq 4 (by decide))
      have g5 := (hI.ext.cell (p := ⟨b1, o1 + its.length * 6 + 5, none⟩) hb1).trans (hxq 5 (by decide))
      clear hxq hc1
      generalize l[its.length] = x at *
      simp only [V.cells, List.getElem?_cons_zero, List.getElem?_cons_succ, Nat.add_zero] at g0 g1 g2 g3 g4 g5
      have HI := Lib.hid hI
      clear hI
      go_wp2_with (first
        | (go_at_call 26; (refine (lone_any x _).mono ?_); rintro e z1 ⟨v, y, D, rfl, t1, hD1, hz1⟩; have st1 : (store ⟨z1.heap.size, 0, none⟩ v).run Try.prog (z1.alloc (.cells #[.nilIface] 25)) = .ok () (z1.alloc (.cells #[v] 25)) := (by rcases t1.form with rfl | ⟨_, _, rfl⟩ <;> simp [go_sem]); have T1 := Lib.hid (t1.keep (w' := z1.alloc (.cells #[v] 25)) (ok' := fun b => b < (z1.alloc (.cells #[v] 25)).heap.size) fun b hb => ⟨(Ext.refl z1 |>.alloc _).block b hb.2, by simp; omega⟩); have T0 := Lib.hid t1; clear t1)
        | (go_at_call 23; (refine (flat_yes _ T1.out (by simp [flatOk]; omega)).mono ?_); rintro e z2 ⟨m, rfl, hom, hz2⟩))
      have c1 : (z1.alloc (.cells #[v] 25)).cell? ⟨z1.heap.size, 0, none⟩ = some v := by simp [go_sem]
      have k1s : z1.heap.size < (z1.alloc (.cells #[v] 25)).heap.size := by simp
      have c2 := (hz2.cell (p := ⟨z1.heap.size, 0, none⟩) k1s).trans c1
      have hsz2 := World.block_lt_of_cell? _ _ c2
      obtain ⟨gm, cm, rfl⟩ : ∃ g c, m = .slice (some ⟨g, 0, none⟩) 1 c := by
        rcases hom.2 with ⟨h0, h00⟩ | ⟨gg, cc, cur, h0, _⟩
        · simp at h00
        · exact ⟨gg, cc, h0⟩
      obtain ⟨hat, hbg⟩ := OwnS.at_ V.len hom rfl 0 (by simp)
      obtain ⟨hg1, hg2⟩ := hbg (by decide)
      have m0 : z2.cell? ⟨gm, 0, none⟩ = some (.int .i64 y.kind) := (hat 0 (by decide)).1
      have s2 : ∀ z, Calls Try.prog 19 #[.agg #[v]] z fun e w' => e = .returned (.int .i64 y.kind) ∧ Ext z w' := fun z => kind_any v [y] D _ _ T1.out z
      have S2 := Lib.hid s2
      have c2' := fun (u : SubW (Ext z2)) => (u.ok.cell (p := ⟨z1.heap.size, 0, none⟩) hsz2).trans c2
      have m0' := fun (u : SubW (Ext z2)) => (u.ok.cell (p := ⟨gm, 0, none⟩) hg2).trans m0
      have inst : Nonempty (SubW (Ext z2)) := ⟨⟨_, Ext.refl _⟩⟩
      have HAT := Lib.hid hat
      have HZ1 := Lib.hid hz1
      clear s2 c1 st1 hat hbg m0 g0 g1 g2 g3 g4 g5 hz1
      refine wp_region_quietS (Ext z2) (by kernel_rfl) (by kernel_rfl) ((Ext.refl _).drew) ?_
      repeat (go_big_quiet_step (first | (go_at_call 19; with_reducible exact quietS_ext (S2.out _))))
      refine wpQuiet_nil ?_
      rintro _ ⟨y5, rfl⟩
      have hx6 := y5.ok
      have c3 := c2' y5
      generalize y5.w = x5 at hx6 c3 ⊢
      clear c2' m0' inst y5
      have hI := HI.out
      have hW5 : Ext wr x5 := HZ1.out.trans (Ext.trans ((Ext.refl z1).alloc _) (hz2.trans hx6))
      have ht5 := own_ext hI.things hW5
      have hw5 : OwnS V.cells 6 32 x5 w.heap.size _ _ := hI.want.ext hW5
      have hsep := hI.sep
      have hsz5 : w.heap.size ≤ x5.heap.size := Nat.le_trans hI.size hW5.size
      have hlr := hI.le
      have hv1 : v.oneCell' = true := T0.out.cell1
      have hzr1 := HZ1.out.size
      have hg1' : wr.heap.size < gm := by simp at hg1; omega
      have hnb : notBlk u3 gm := fun a n c he => Nat.ne_of_lt (Nat.lt_trans (own_blk hI.things a n c he) hg1')
      have hgx : gm < x5.heap.size := Nat.lt_of_lt_of_le hg2 hx6.size
      clear hI
      go_wp2_with (at_builtin; refine wpList_own_push2 (w := x5) rfl _ _ 34 rfl w.heap.size 25 25 j0 _ 1 16 Try.underlying34 ji jz0 jz1 jz2 rfl (by decide) _ its.length 1 1 _ [v] ht5 rfl rfl rfl rfl ?d2 ?d3 ?d4 hsz5 ?_)
      all_goals try (intro u hu; simp only [List.mem_cons, List.not_mem_nil, or_false] at hu; rw [hu]; exact hv1)
      case d3 => unfold maxLen; omega
      case d4 => omega
      intro tv' w6 ho6 hb6 hap6
      obtain ⟨hsep6, hk6⟩ := sep_step hsep hap6 (own_blk hw5)
      have hw6 : OwnS V.cells 6 32 w6 w.heap.size _ _ := own_keep hw5 hk6
      have hb6s := hb6.size
      have hgb := (hap6 gm hgx hnb).1
      have kc := fun j (hj : j < 6) => (World.cell?_of_block (a := ⟨gm, 0 * 6 + j, none⟩) hgb).trans ((hx6.cell (p := ⟨gm, 0 * 6 + j, none⟩) hg2).trans (HAT.out j hj).1)
      have k0 : w6.cell? ⟨gm, 0, none⟩ = some (.int .i64 y.kind) := kc 0 (by decide)
      have k1 : w6.cell? ⟨gm, 1, none⟩ = some (.int .i64 y.n) := kc 1 (by decide)
      have k2 : w6.cell? ⟨gm, 2, none⟩ = some (.string y.text) := kc 2 (by decide)
      have k3 : w6.cell? ⟨gm, 3, none⟩ = some (.int .i64 y.y) := kc 3 (by decide)
      have k4 : w6.cell? ⟨gm, 4, none⟩ = some (.int .i64 y.m) := kc 4 (by decide)
      have k5 : w6.cell? ⟨gm, 5, none⟩ = some (.int .i64 y.d) := kc 5 (by decide)
      clear kc hsep
      have hrl : (headV n :: its.map fun t => t.2.1).length = its.length + 1 := by simp
      have hw6' := hw6
      unfold OwnS at hw6'
      rw [hrl] at hw6'
      have hsz6 : w.heap.size ≤ w6.heap.size := by omega
      go_wp2_with (at_builtin; refine wpList_own_push2 (w := w6) rfl _ _ 33 rfl w.heap.size 32 32 i0 _ 6 56 Try.underlying33 hi iz0 iz1 iz2 rfl (by decide) _ (its.length + 1) 1 1 _ [.int .i64 y.kind, .int .i64 y.n, .string y.text, .int .i64 y.y, .int .i64 y.m, .int .i64 y.d] hw6' rfl rfl rfl rfl ?c2 ?c3 ?c4 hsz6 ?_)
      case c2 => intro u hu; simp only [List.mem_cons, List.not_mem_nil, or_false] at hu; rcases hu with rfl | rfl | rfl | rfl | rfl | rfl <;> rfl
      case c3 => unfold maxLen; omega
      case c4 => omega
      intro wv' w7 ho7 hb7 hap7
      obtain ⟨hsep7, hk7⟩ := sep_step hsep6.symm hap7 (own_blk ho6)
      have ht7 := own_keep ho6 hk7
      have hb7s := hb7.size
      have hFI : FromI w w7 n tv' wv' (its ++ [(v, y, D)]) := by
        have hI := HI.out
        have step : ∀ b, b < x5.heap.size → notBlk u3 b → notBlk u4 b → w7.heap[b]? = x5.heap[b]? ∧ notBlk tv' b ∧ notBlk wv' b := fun b hb ht hw => by
          obtain ⟨p1, p2⟩ := hap6 b hb ht
          obtain ⟨p3, p4⟩ := hap7 b (by omega) hw
          exact ⟨p3.trans p1, p2, p4⟩
        refine ⟨by simp; omega, ?_, ?_, hsep7.symm, ?_, ?_, Below.trans (Below.trans (Ext.trans hI.ext hW5) hb6) hb7, by omega⟩
        · simpa using ht7
        · unfold OwnS
          rw [List.map_append, ← List.cons_append, List.length_append, List.flatMap_append, hrl]
          simpa [V.cells] using ho7
        · intro t ht
          rcases List.mem_append.1 ht with ht | ht
          · refine (hI.tells t ht).keep fun b hb => ?_
            obtain ⟨q1, q2, q3, q4⟩ := hb
            obtain ⟨p1, p2, p3⟩ := step b (Nat.lt_of_lt_of_le q2 hW5.size) q3 q4
            exact ⟨p1.trans (Below.block hW5 b q2), q1, by have := hW5.size; omega, p2, p3⟩
          · simp at ht
            subst ht
            refine T0.out.keep fun b hb => ?_
            obtain ⟨q1, q2⟩ := hb
            have hzx : Ext z1 x5 := Ext.trans ((Ext.refl z1).alloc _) (hz2.trans hx6)
            obtain ⟨p1, p2, p3⟩ := step b (Nat.lt_of_lt_of_le q2 hzx.size) (fun a n c he => Nat.ne_of_lt (Nat.lt_of_lt_of_le (own_blk hI.things a n c he) q1)) (fun a n c he => Nat.ne_of_lt (Nat.lt_of_lt_of_le (own_blk hI.want a n c he) q1))
            exact ⟨p1.trans (Below.block hzx b q2), by have := hI.size; omega, by have := hzx.size; omega, p2, p3⟩
        · intro t ht
          rcases List.mem_append.1 ht with ht | ht
          · exact hI.deep t ht
          · simp at ht
            subst ht
            exact hD1
      clear ho6 ho7 hap6 hap7 hsep6 hsep7 hk6 hk7 hw6 hw6' ht7 hw5 ht5 HI HAT T0 T1 S2
      go_wp2_with fail
      go_roundw
      case rel => exact ⟨_, hFI, by simp⟩
      case measure => simp [intOf]; omega
    · have hqi : ¬ (its.length : Int) < (n : Int) := by omega
      have hle := hI.le
      have hqn : its.length = n := by omega
      have hrow2 := SlR.of_own hI.things
      rw [hqn] at hrow2
      have hcs : ∀ u ∈ its.map fun t => t.1, u.oneCell' = true := by
        intro u hu
        obtain ⟨t, ht, rfl⟩ := List.mem_map.1 hu
        exact (hI.tells t ht).cell1
      have HI := Lib.hid hI
      have hglt := fun a0 n0 c0 he => own_blk hI.things a0 n0 c0 he
      have hsepU := hI.sep
      obtain ⟨_, _, am, cm, hform, _⟩ := SlR.of_own hI.things
      rw [hqn] at hform
      have hthr := hI.things
      rw [hqn] at hthr
      subst hform
      have HGL := Lib.hid hglt
      have HSP := Lib.hid hsepU
      have HTH := Lib.hid hthr
      have HQN := Lib.hid hqn
      clear hI hqn hglt hsepU hthr
      go_wp2_with (go_at_call 27; (refine (fromList_any _ n _ _ hrow2 hcs (by omega)).mono ?_); rintro e y1 ⟨sl', rfl, hsl, hy1⟩)
      obtain ⟨D', hD'⟩ : ∃ D', 1 + deepOf (ones its) = D' := ⟨_, rfl⟩
      have hD2 : D' ≤ 2 := by have := deep_le its HI.out.deep; omega
      have hY1 : Ext wr (y1.alloc (.cells #[.iface 82 (.agg #[sl'])] 25)) := hy1.alloc _
      have TT : Tells (y1.alloc (.cells #[.iface 82 (.agg #[sl'])] 25)) (fun b => w.heap.size ≤ b ∧ b < (y1.alloc (.cells #[.iface 82 (.agg #[sl'])] 25)).heap.size ∧ notBlk (.slice am n cm) b) (.iface 82 (.agg #[sl'])) (headV n :: its.map fun t => t.2.1) D' := by
        have hsz := HI.out.size
        have hm1 : (ones its).map (fun t => t.1) = its.map fun t => t.1 := by simp [ones]
        have := Tells.list (w := y1.alloc (.cells #[.iface 82 (.agg #[sl'])] 25)) (ok := fun b => w.heap.size ≤ b ∧ b < (y1.alloc (.cells #[.iface 82 (.agg #[sl'])] 25)).heap.size ∧ notBlk (.slice am n cm) b) sl' (ones its) (by
            have hl : (ones its).length = n := by rw [ones, List.length_map]; exact HQN.out
            rw [hl, hm1]
            refine (SlP.of_own hsl).keep fun b hb => ?_
            obtain ⟨q1, q2⟩ := hb
            exact ⟨Below.heap_alloc _ _ b q2, by omega, by simp; omega, fun a0 n0 c0 he => Nat.ne_of_lt (Nat.lt_of_lt_of_le (HGL.out a0 n0 c0 he) q1)⟩) (fun t ht => by
            obtain ⟨u, hu, rfl⟩ := List.mem_map.1 ht
            refine (HI.out.tells u hu).keep fun b hb => ?_
            obtain ⟨q1, q2, q3, q4⟩ := hb
            exact ⟨Below.block hY1 b q2, q1, Nat.lt_of_lt_of_le q2 hY1.size, q3⟩)
        rw [hD'] at this
        have e1 : headV (ones its).length :: (ones its).flatMap (·.2.1) = headV n :: its.map fun t => t.2.1 := by
          have hl : (ones its).length = n := by rw [ones, List.length_map]; exact HQN.out
          rw [hl, ones, flat_ones]
        rw [e1] at this
        exact this
      obtain ⟨L, hL⟩ : ∃ L, headV n :: (its.map fun t => t.2.1) = L := ⟨_, rfl⟩
      have hLl : L.length = n + 1 := by rw [← hL, List.length_cons, List.length_map, HQN.out]
      have hLk : kindOf L = 5 := by rw [← hL]; rfl
      have hLn : (hd L).n = (n : Int) := by rw [← hL]; rfl
      have hwant0 := HI.out.want
      rw [hL] at TT hwant0
      have hwY := OwnS.ext hwant0 hY1
      have htY := own_ext HTH.out hY1
      have hXY : Ext w (y1.alloc (.cells #[.iface 82 (.agg #[sl'])] 25)) := HI.out.ext.trans hY1
      have hbx : (y1.alloc (.cells #[.iface 82 (.agg #[sl'])] 25)).heap[y1.heap.size]? = some (.cells #[.iface 82 (.agg #[sl'])] 25 (0, 0)) := new_blk _ _
      have hy1s := hy1.size
      have HLL := Lib.hid hLl
      have HLK := Lib.hid hLk
      have HLN := Lib.hid hLn
      clear hL hLl hLk hLn hwant0 hrow2 hcs hY1 hsl hy1 hD'
      generalize (y1.alloc (.cells #[.iface 82 (.agg #[sl'])] 25)) = Y at *
      generalize (Value.iface 82 (.agg #[sl'])) = vv at *
      have hY1s := blk_lt hbx
      go_loopw [10] (fun iv wq => ∃ (k : Nat) (cs' : List Value), k ≤ n ∧ iv = .int .i64 (k : Int) ∧ wq.ownsRow w.heap.size 25 1 (.slice am n cm) n cs' ∧ OwnS V.cells 6 32 wq w.heap.size u4 L ∧ Hid (wq.heap[y1.heap.size]? = some (.cells #[vv] 25 (0, 0))) ∧ Tells wq (fun b => w.heap.size ≤ b ∧ b < wq.heap.size ∧ notBlk (.slice am n cm) b) vv L D' ∧ Ext w wq) (fun iv _ => n - (intOf iv).toNat)
      case atStart => exact ⟨0, _, Nat.zero_le _, rfl, htY, hwY, Lib.hid hbx, TT, hXY⟩
      case round =>
        rename World => wq
        obtain ⟨k, cs', hk, rfl, how, hwn, HBX, ht, hxq⟩ := hrel
        clear hbx htY hwY TT hXY
        obtain ⟨c4, _⟩ := blk HBX.out 0 vv rfl
        have HWN := Lib.hid hwn
        have HTT := Lib.hid ht
        clear hwn ht
        by_cases hlt : k < n
        · have hki : (k : Int) < (n : Int) := by omega
          have hki0 : (0 : Int) ≤ (k : Int) := by omega
          have hcl : cs'.length = n := by have := how.1; omega
          obtain ⟨g, rfl⟩ : ∃ g, am = some ⟨g, 0, none⟩ := by
            rcases how.2 with ⟨h0, _⟩ | ⟨gg, cc, cur, h0, _⟩
            · cases h0; omega
            · cases h0; exact ⟨_, rfl⟩
          have hgw : g < wr.heap.size := HGL.out _ _ _ rfl
          have hat := fun z (hz : Ext wq z) => own_at (own_ext how hz) k _ (List.getElem?_eq_getElem (show k < cs'.length by omega))
          have hset := fun z (hz : Ext wq z) u => own_set (own_ext how hz) k u (show k < cs'.length by omega)
          have HS2 := Lib.hid hset
          have HAT := Lib.hid hat
          clear hset hat how
          go_wp2_with (go_at_call 14; (refine (fromText_any _ _).mono ?_); rintro e z ⟨rfl, hz⟩; obtain ⟨g1, g2, g3, g4⟩ := HAT.out z hz)
          go_roundw
          case rel =>
            refine ⟨k + 1, _, by omega, by simp, HS2.out z hz _, own_keep (OwnS.ext HWN.out hz) fun a0 n0 c0 he => Below.heap_setCell _ _ _ _ (fun h => (HSP.out _ _ _ _ _ _ rfl he) h.symm), Lib.hid (set_blk (ext_blk hz HBX.out) (by omega)), HTT.out.keep fun b hb => ?_, (hxq.trans hz).setCell g3 _⟩
            obtain ⟨q1, q2, q3⟩ := hb
            exact ⟨(Below.heap_setCell z ⟨g, k, none⟩ _ b (fun h => q3 _ _ _ rfl h.symm)).trans (Below.block hz b q2), q1, by have := hz.size; simp; omega, q3⟩
          case measure => simp [intOf]; omega
        · have hki : ¬ (k : Int) < (n : Int) := by omega
          have T4 : Hid (TellsB wq wq.heap.size vv L D') := Lib.hid (HTT.out.keep fun b hb => ⟨rfl, hb.2.1⟩)
          have hok : flatOk 0 L.length 0 D' = true := by simp [flatOk]; have := HLL.out; omega
          have LST : Hid (∀ z, Ext wq z → Calls Try.prog 11 #[.agg #[vv]] z fun e w' => ∃ (a : Option Addr) (c : Nat), e = .returned (.tuple #[.slice a n c, .bool true]) ∧ Ext z w') := Lib.hid (by
            intro z hz
            refine (thingList2 z (T4.out.ext hz) (by have := HLL.out; omega)).mono ?_
            rintro e w' ⟨a, c, n', rfl, _, h2, h3⟩
            rw [if_pos HLK.out, HLN.out] at h2
            obtain rfl : n' = n := by omega
            exact ⟨a, c, by simp [HLK.out], h3⟩)
          have KND : Hid (∀ z, Calls Try.prog 19 #[.agg #[vv]] z fun e w' => e = .returned (.int .i64 5) ∧ Ext z w') := Lib.hid (by
            intro z
            have := kind_any vv L D' _ _ T4.out z
            rw [HLK.out] at this
            exact this)
          clear how
          have hLb : L.length ≤ 1000000 := by have := HLL.out; omega
          go_wp2_with (first
            | (go_at_call 23; (refine (flat_yes _ T4.out hok).mono ?_); rintro e z1 ⟨m1, rfl, ho1, hz1⟩; have B1 := Lib.hid (ext_blk hz1 HBX.out); obtain ⟨c5, _⟩ := blk B1.out 0 vv rfl; have HO1 := Lib.hid ho1; clear ho1)
            | (go_at_call 11; (refine (LST.out _ hz1).mono ?_); rintro e z2 ⟨a2, k2, rfl, hz2⟩)
            | (go_at_call 24; (refine (sameV _ _ L L true ⟨fun _ => rfl, fun _ => rfl⟩ _ (OwnS.rd (HO1.out.ext hz2)) (OwnS.rd (HWN.out.ext (hz1.trans hz2))) (by omega) (by omega)).mono ?_); rintro e z3 ⟨rfl, hz3⟩; have B3 := Lib.hid (ext_blk hz3 (ext_blk hz2 B1.out)); obtain ⟨c6, _⟩ := blk B3.out 0 vv rfl)
            | (go_at_call 19; (refine (KND.out _).mono ?_); rintro e z4 ⟨rfl, hz4⟩)
            | (go_at_call 3; refine (kindRuns_any _).mono ?_; rintro e z5 ⟨rfl, hz5⟩))
          go_ret
          exact ⟨rfl, hxq.trans (hz1.trans (hz2.trans (hz3.trans (hz4.trans hz5))))⟩
theorem from_any (l : List V) (v : Value) (w : World) (hl : SlC w w.heap.size v l) : Calls Try.prog 6 #[v] w fun e w' => e = .returned (.bool true) ∧ Ext w w' := by
  rcases Nat.lt_or_ge 100 l.length with h | h
  · exact from_many l h v w hl
  · exact from_few l h v w hl
end Go.Proofs.Ytdojgdeadhhldaa
