/- Package net: told. -/
import Derived.Test.YtognipephfedkaaNetB
import Derived.Test.YtognipephfedkaaNetU
import Derived.Test.YtognipephfedkaaQuietS
import Derived.Test.YtognipephfedkaaSet13
import Derived.Shelf.SlicesE.Delete
namespace Go.Proofs.Ytognipephfedkaa
open Go.RowKit
open Go.RowKit Go.Shelf Go.Sort
section

abbrev Let := Lt × List Ent
def byL (N : List Let) : List (List UInt8) := N.map fun p => ltL p.1 p.2
def OkN (N : List Let) : Prop := ∀ p ∈ N, RightP p.1 p.2
/-- Is just one of two nodes in the side? -/
def cutB (side fr to : Int) : Bool := (side / 2 ^ fr.toNat % 2) != (side / 2 ^ to.toNat % 2)
theorem cut_all : ∀ (s : Fin 128) (f t : Fin 7), bits .and .i64 (bits .xor .i64 ((s.val : Int) / 2 ^ f.val) ((s.val : Int) / 2 ^ t.val)) 1 = if cutB (s.val : Int) (f.val : Int) (t.val : Int) then 1 else 0 := by decide +kernel
theorem cut_law {side fr to : Int} (h0 : 0 ≤ side) (h1 : side ≤ 127) (f0 : 0 ≤ fr) (f1 : fr ≤ 6) (t0 : 0 ≤ to) (t1 : to ≤ 6) : bits .and .i64 (bits .xor .i64 (side / 2 ^ fr.toNat) (side / 2 ^ to.toNat)) 1 = if cutB side fr to then 1 else 0 := by
  obtain ⟨s, rfl⟩ := Int.eq_ofNat_of_zero_le h0
  obtain ⟨f, rfl⟩ := Int.eq_ofNat_of_zero_le f0
  obtain ⟨t, rfl⟩ := Int.eq_ofNat_of_zero_le t0
  exact cut_all ⟨s, by omega⟩ ⟨f, by omega⟩ ⟨t, by omega⟩
theorem right_ends {m : Lt} {es : List Ent} (h : RightP m es) : (0 ≤ m.fr ∧ m.fr ≤ 6) ∧ (0 ≤ m.to ∧ m.to ≤ 6) := by
  unfold RightP at h
  exact ⟨h.2.1, h.2.2.1⟩
theorem right_len {m : Lt} {es : List Ent} (h : RightP m es) : es.length ≤ 8 := (right_small h).2.1
theorem right_bytes {m : Lt} {es : List Ent} (h : RightP m es) : (ltL m es).length ≤ 30000000 := by
  have := SmallL.mid (right_small h).1 es.length
  rwa [List.take_length] at this
theorem get_right {m : Lt} {es : List Ent} (h : RightP m es) (v : Value) (w : World) (hr : Rd8 w v (ltL m es)) : Calls Try.prog 32 #[v] w fun e w' => ∃ a c, e = .returned (.tuple #[m.agg (.slice a es.length c), .int .i64 0]) ∧ OwnS Ent.cells 3 49 w' w.heap.size (.slice a es.length c) es ∧ Ext w w' :=
  get_is v (ltL m es) m es 0 (back_is h) w hr (by have := right_bytes h; omega)
theorem told_ret (tm : Array Value) (W : World) (b : Nat) (v0 v1 v2 v3 v4 v5 v6 v7 v8 v9 v10 v11 v12 : Value) (ok : Bool) (ht : tm[4]? = some (.pointer (some ⟨b, 0, none⟩))) (h3 : tm[5]? = some (.bool ok)) (h : W.heap[b]? = some (.cells #[v0, v1, v2, v3, v4, v5, v6, v7, v8, v9, v10, v11, v12] 27 (0, 0))) :
    (results Try.f21 tm).run Try.prog W = .ok (.tuple #[.agg #[v0, v1, v2, v3, v4, v5, v6, v7, v8, v9, v10, v11, v12], .bool ok]) W := by
  obtain ⟨c0, _⟩ := blkG h 0 _ rfl
  obtain ⟨c1, _⟩ := blkG h 1 _ rfl
  obtain ⟨c2, _⟩ := blkG h 2 _ rfl
  obtain ⟨c3, _⟩ := blkG h 3 _ rfl
  obtain ⟨c4, _⟩ := blkG h 4 _ rfl
  obtain ⟨c5, _⟩ := blkG h 5 _ rfl
  obtain ⟨c6, _⟩ := blkG h 6 _ rfl
  obtain ⟨c7, _⟩ := blkG h 7 _ rfl
  obtain ⟨c8, _⟩ := blkG h 8 _ rfl
  obtain ⟨c9, _⟩ := blkG h 9 _ rfl
  obtain ⟨c10, _⟩ := blkG h 10 _ rfl
  obtain ⟨c11, _⟩ := blkG h 11 _ rfl
  obtain ⟨c12, _⟩ := blkG h 12 _ rfl
  simp [results, Try.results21, go_sem, ht, h3, c0, c1, c2, c3, c4, c5, c6, c7, c8, c9, c10, c11, c12]
section
variable {S : Nat → Prop} {w : World} {b : Nat} {side : Int} {v : Value} {vs : List Value} {N : List Let}
theorem set13_ext {w0 w : World} {b : Nat} {b0 b1 b2 b3 b4 b5 b6 b7 b8 b9 b10 b11 b12 : Value} (h : Ext w0 w) (hb : w0.heap.size ≤ b) : Ext w0 (((((((((((((w.setCell ⟨b, 0, none⟩ b0).setCell ⟨b, 1, none⟩ b1).setCell ⟨b, 2, none⟩ b2).setCell ⟨b, 3, none⟩ b3).setCell ⟨b, 4, none⟩ b4).setCell ⟨b, 5, none⟩ b5).setCell ⟨b, 6, none⟩ b6).setCell ⟨b, 7, none⟩ b7).setCell ⟨b, 8, none⟩ b8).setCell ⟨b, 9, none⟩ b9).setCell ⟨b, 10, none⟩ b10).setCell ⟨b, 11, none⟩ b11).setCell ⟨b, 12, none⟩ b12) := by
  repeat (first | with_reducible exact h | with_reducible refine Ext.setCell ?_ hb _)
theorem set13_ownE {w : World} {b : Nat} {b0 b1 b2 b3 b4 b5 b6 b7 b8 b9 b10 b11 b12 : Value} {te : TypeId} {B0 : Nat} {v : Value} {es : List Ent} (h : OwnS Ent.cells 3 te w B0 v es) (hb : ∀ a m c', v = .slice (some a) m c' → a.block ≠ b) : OwnS Ent.cells 3 te (((((((((((((w.setCell ⟨b, 0, none⟩ b0).setCell ⟨b, 1, none⟩ b1).setCell ⟨b, 2, none⟩ b2).setCell ⟨b, 3, none⟩ b3).setCell ⟨b, 4, none⟩ b4).setCell ⟨b, 5, none⟩ b5).setCell ⟨b, 6, none⟩ b6).setCell ⟨b, 7, none⟩ b7).setCell ⟨b, 8, none⟩ b8).setCell ⟨b, 9, none⟩ b9).setCell ⟨b, 10, none⟩ b10).setCell ⟨b, 11, none⟩ b11).setCell ⟨b, 12, none⟩ b12) B0 v es := by
  repeat (first | with_reducible exact h | with_reducible refine OwnS.setO ?_ hb)
theorem drew_blkN {w : World} {b n : Nat} {o : Obj} (h : w.heap[b]? = some o) : (w.drewN n).heap[b]? = some o := h
/-- The bytes at a place. -/
theorem byL_len (N : List Let) : (byL N).length = N.length := by simp [byL]
theorem NI.at_ {T : TypeId} (h : NI T S w b (byL N) side v vs) (i : Nat) (hi : i < N.length) : ∃ g c u, v = .slice (some ⟨g, 0, none⟩) N.length c ∧ N.length ≤ c ∧ w.cell? ⟨g, i, none⟩ = some u ∧ g < w.heap.size ∧ Rd8 w u (ltL N[i].1 N[i].2) := by
  obtain ⟨u, h1, h2⟩ := h.rows i (by rw [byL_len]; exact hi)
  have ho := h.own
  have ho2 := ho.2
  rw [byL_len] at ho ho2
  rcases ho2 with ⟨_, h0⟩ | ⟨g, cap, cur, rfl, hg, hh, hn, hcap, hsz, ht⟩
  · omega
  · obtain ⟨q1, _, _, q2⟩ := own_at ho i u h1
    refine ⟨g, cap, u, rfl, hn, q1, q2, ?_⟩
    have e : (byL N)[i]'(by rw [byL_len]; exact hi) = ltL N[i].1 N[i].2 := by simp [byL]
    rw [← e]
    exact h2.rd
set_option maxHeartbeats 4000000 in
set_option maxRecDepth 100000 in
theorem told_1 (h : NetP NT S w b (byL N) side) (hN : OkN N) (hs0 : 0 ≤ side) (hs1 : side ≤ 127) (i : Nat) (hi : i < N.length) (hm : N.length ≤ 1000000) (hc : cutB side N[i].1.fr N[i].1.to = true) : Calls Try.prog 21 #[.pointer (some ⟨b, 0, none⟩), .int .i64 (i : Int)] w fun e w' => e = .returned (.tuple #[.agg #[.int .i64 0, .int .i64 0, .int .i64 0, .int .i64 0, .int .i64 0, .int .i64 0, .int .i64 0, .int .i64 0, .int .i64 0, .int .i64 0, .bool false, .string ⟨#[]⟩, .slice none 0 0], .bool false]) ∧ Ext w w' := by
  obtain ⟨v, vs, h⟩ := h
  obtain ⟨g, c, u, rfl, hnc, hu, hu1, hr⟩ := h.at_ i hi
  have hr1 := hr
  obtain ⟨_, _, au, cu, rfl, _⟩ := hr1
  have hr0 := hr
  generalize hlu : (ltL N[i].1 N[i].2).length = lu at hu hr
  have hR := hN _ (List.getElem_mem hi)
  have hends := right_ends hR
  have hl8 := right_len hR
  have HG := Lib.hid fun (z : World) (hz : Ext w z) => get_right hR (.slice au lu cu) z (by rw [← hlu]; exact hr0.ext hz)
  have HB := Lib.hid h.blk
  clear h hN hR hr hr0 hlu
  generalize N[i] = p at *
  obtain ⟨m, es⟩ := p
  simp only at hends hc HG hl8 ⊢
  obtain ⟨n, hn⟩ : ∃ n, es.length = n := ⟨_, rfl⟩
  rw [hn] at HG hl8
  have hcl := cut_law hs0 hs1 hends.1.1 hends.1.2 hends.2.1 hends.2.2
  rw [hc] at hcl
  replace hcl := hcl.trans (if_pos rfl)
  obtain ⟨kind, fr, to, te, ix, at_, co, me, off, sz, yes, data⟩ := m
  simp only [Lt.agg] at HG hends hcl ⊢
  obtain ⟨⟨f0, f1⟩, t0, t1⟩ := hends
  have hi0 : (0 : Int) ≤ (i : Int) := by omega
  have hi1 : (i : Int) < (N.length : Int) := by omega
  have wf : IntKind.u64.wrap fr = fr := by rw [IntKind.wrap_u64]; omega
  have wt : IntKind.u64.wrap to = to := by rw [IntKind.wrap_u64]; omega
  obtain ⟨l0, _⟩ := blkG HB.out 0 (.slice (some ⟨g, 0, none⟩) N.length c) rfl
  have hbw := blk_lt HB.out
  clear hc hs0 hs1
  
  go_enter Try.func21, Try.ntmps21
  go_wp2_with fail
  go_at_call 32
  refine (HG.out _ ((Ext.refl w).alloc _)).mono ?_
  rintro e x1 ⟨a1, c1, rfl, ho, hx1⟩
  have HO := Lib.hid ho
  have HX := Lib.hid hx1
  clear ho hx1
  have T1 : Hid (Ext w x1) := Lib.hid (((Ext.refl w).alloc _).trans HX.out)
  have Z1 := Lib.hid (ext_blk HX.out (new_blk w (.cells #[.int .i64 0, .int .i64 0, .int .i64 0, .int .i64 0, .int .i64 0, .int .i64 0, .int .i64 0, .int .i64 0, .int .i64 0, .int .i64 0, .bool false, .string ⟨#[]⟩, .slice none 0 0] 27)))
  obtain ⟨s1, _⟩ := blkG (ext_blk T1.out HB.out) 1 (.int .i64 side) rfl
  have hz1 := blk_lt Z1.out
  have hzb := Nat.lt_of_lt_of_le hbw T1.out.size
  go_wp2_with fail
  obtain ⟨i0, j0⟩ := blkG Z1.out 0 (.int .i64 0) rfl
  obtain ⟨i1, j1⟩ := blkG Z1.out 1 (.int .i64 0) rfl
  obtain ⟨i2, j2⟩ := blkG Z1.out 2 (.int .i64 0) rfl
  obtain ⟨i3, j3⟩ := blkG Z1.out 3 (.int .i64 0) rfl
  obtain ⟨i4, j4⟩ := blkG Z1.out 4 (.int .i64 0) rfl
  obtain ⟨i5, j5⟩ := blkG Z1.out 5 (.int .i64 0) rfl
  obtain ⟨i6, j6⟩ := blkG Z1.out 6 (.int .i64 0) rfl
  obtain ⟨i7, j7⟩ := blkG Z1.out 7 (.int .i64 0) rfl
  obtain ⟨i8, j8⟩ := blkG Z1.out 8 (.int .i64 0) rfl
  obtain ⟨i9, j9⟩ := blkG Z1.out 9 (.int .i64 0) rfl
  obtain ⟨i10, j10⟩ := blkG Z1.out 10 (.bool false) rfl
  obtain ⟨i11, j11⟩ := blkG Z1.out 11 (.string ⟨#[]⟩) rfl
  obtain ⟨i12, j12⟩ := blkG Z1.out 12 (.slice none 0 0) rfl
  go_quiet (fail)
  go_wp2
  refine bodyPost_ret (v := .tuple #[.agg #[.int .i64 0, .int .i64 0, .int .i64 0, .int .i64 0, .int .i64 0, .int .i64 0, .int .i64 0, .int .i64 0, .int .i64 0, .int .i64 0, .bool false, .string ⟨#[]⟩, .slice none 0 0], .bool false]) (told_ret _ _ w.heap.size _ _ _ _ _ _ _ _ _ _ _ _ _ _ rfl rfl (set13_blk (drew_blkN (alloc_blk Z1.out)))) rfl ⟨rfl, ?_⟩
  exact set13_ext (Ext.drewN (Ext.alloc T1.out _) _) (Nat.le_refl _)
set_option maxHeartbeats 4000000 in
set_option maxRecDepth 100000 in
theorem told_0 (h : NetP NT S w b (byL N) side) (hN : OkN N) (hs0 : 0 ≤ side) (hs1 : side ≤ 127) (i : Nat) (hi : i < N.length) (hm : N.length ≤ 1000000) (hc : cutB side N[i].1.fr N[i].1.to = false) : Calls Try.prog 21 #[.pointer (some ⟨b, 0, none⟩), .int .i64 (i : Int)] w fun e w' => ∃ a c, e = .returned (.tuple #[N[i].1.agg (.slice a N[i].2.length c), .bool true]) ∧ OwnS Ent.cells 3 49 w' w.heap.size (.slice a N[i].2.length c) N[i].2 ∧ Ext w w' := by
  obtain ⟨v, vs, h⟩ := h
  obtain ⟨g, c, u, rfl, hnc, hu, hu1, hr⟩ := h.at_ i hi
  have hr1 := hr
  obtain ⟨_, _, au, cu, rfl, _⟩ := hr1
  have hr0 := hr
  generalize hlu : (ltL N[i].1 N[i].2).length = lu at hu hr
  have hR := hN _ (List.getElem_mem hi)
  have hends := right_ends hR
  have hl8 := right_len hR
  have HG := Lib.hid fun (z : World) (hz : Ext w z) => get_right hR (.slice au lu cu) z (by rw [← hlu]; exact hr0.ext hz)
  have HB := Lib.hid h.blk
  clear h hN hR hr hr0 hlu
  generalize N[i] = p at *
  obtain ⟨m, es⟩ := p
  simp only at hends hc HG hl8 ⊢
  obtain ⟨n, hn⟩ : ∃ n, es.length = n := ⟨_, rfl⟩
  rw [hn] at HG hl8 ⊢
  have hcl := cut_law hs0 hs1 hends.1.1 hends.1.2 hends.2.1 hends.2.2
  rw [hc] at hcl
  replace hcl := hcl.trans (if_neg (by decide))
  obtain ⟨kind, fr, to, te, ix, at_, co, me, off, sz, yes, data⟩ := m
  simp only [Lt.agg] at HG hends hcl ⊢
  obtain ⟨⟨f0, f1⟩, t0, t1⟩ := hends
  have hi0 : (0 : Int) ≤ (i : Int) := by omega
  have hi1 : (i : Int) < (N.length : Int) := by omega
  have wf : IntKind.u64.wrap fr = fr := by rw [IntKind.wrap_u64]; omega
  have wt : IntKind.u64.wrap to = to := by rw [IntKind.wrap_u64]; omega
  obtain ⟨l0, _⟩ := blkG HB.out 0 (.slice (some ⟨g, 0, none⟩) N.length c) rfl
  have hbw := blk_lt HB.out
  clear hc hs0 hs1
  
  go_enter Try.func21, Try.ntmps21
  go_wp2_with fail
  go_at_call 32
  refine (HG.out _ ((Ext.refl w).alloc _)).mono ?_
  rintro e x1 ⟨a1, c1, rfl, ho, hx1⟩
  have HO := Lib.hid ho
  have HX := Lib.hid hx1
  clear ho hx1
  have T1 : Hid (Ext w x1) := Lib.hid (((Ext.refl w).alloc _).trans HX.out)
  have Z1 := Lib.hid (ext_blk HX.out (new_blk w (.cells #[.int .i64 0, .int .i64 0, .int .i64 0, .int .i64 0, .int .i64 0, .int .i64 0, .int .i64 0, .int .i64 0, .int .i64 0, .int .i64 0, .bool false, .string ⟨#[]⟩, .slice none 0 0] 27)))
  obtain ⟨s1, _⟩ := blkG (ext_blk T1.out HB.out) 1 (.int .i64 side) rfl
  have hz1 := blk_lt Z1.out
  have hzb := Nat.lt_of_lt_of_le hbw T1.out.size
  go_wp2_with fail
  have HO1 : OwnS Ent.cells 3 49 x1 (w.heap.size + 1) (.slice a1 n c1) es := by simpa using HO.out
  have HNB : ∀ a m c', Value.slice a1 n c1 = .slice (some a) m c' → a.block ≠ w.heap.size := fun a m c' he => Nat.ne_of_gt (own_blkE HO1 a m c' he).2
  obtain ⟨i0, j0⟩ := blkG Z1.out 0 (.int .i64 0) rfl
  obtain ⟨i1, j1⟩ := blkG Z1.out 1 (.int .i64 0) rfl
  obtain ⟨i2, j2⟩ := blkG Z1.out 2 (.int .i64 0) rfl
  obtain ⟨i3, j3⟩ := blkG Z1.out 3 (.int .i64 0) rfl
  obtain ⟨i4, j4⟩ := blkG Z1.out 4 (.int .i64 0) rfl
  obtain ⟨i5, j5⟩ := blkG Z1.out 5 (.int .i64 0) rfl
  obtain ⟨i6, j6⟩ := blkG Z1.out 6 (.int .i64 0) rfl
  obtain ⟨i7, j7⟩ := blkG Z1.out 7 (.int .i64 0) rfl
  obtain ⟨i8, j8⟩ := blkG Z1.out 8 (.int .i64 0) rfl
  obtain ⟨i9, j9⟩ := blkG Z1.out 9 (.int .i64 0) rfl
  obtain ⟨i10, j10⟩ := blkG Z1.out 10 (.bool false) rfl
  obtain ⟨i11, j11⟩ := blkG Z1.out 11 (.string ⟨#[]⟩) rfl
  obtain ⟨i12, j12⟩ := blkG Z1.out 12 (.slice none 0 0) rfl
  go_quiet (fail)
  go_wp2
  refine bodyPost_ret (v := .tuple #[.agg #[.int .i64 kind, .int .i64 fr, .int .i64 to, .int .i64 te, .int .i64 ix, .int .i64 at_, .int .i64 co, .int .i64 me, .int .i64 off, .int .i64 sz, .bool yes, .string data, .slice a1 n c1], .bool true]) (told_ret _ _ w.heap.size _ _ _ _ _ _ _ _ _ _ _ _ _ _ rfl rfl (set13_blk (drew_blkN (alloc_blk Z1.out)))) rfl ⟨a1, c1, rfl, ?_, ?_⟩
  · exact OwnS.base (B' := w.heap.size + 1) (set13_ownE (own_ext HO1 (Ext.drewN ((Ext.refl x1).alloc _) _)) HNB) (Nat.le_succ _)
  · exact set13_ext (Ext.drewN (Ext.alloc T1.out _) _) (Nat.le_refl _)
end
end
section

structure OneV where
  val : Value
  one : val.oneCell' = true
instance : Inhabited OneV := ⟨⟨.slice none 0 0, rfl⟩⟩
def encV (x : OneV) : Value := x.val
def zrV : OneV := ⟨.slice none 0 0, rfl⟩
def delRen : Go.Shelf.Ren := ⟨fun | 45 => 22 | n => n, fun | 0 => 0 | 3 => 3 | 4 => 4 | 22 => 38 | 23 => 53 | n => n, fun | n => n⟩
theorem delLays : Go.Proofs.SlLaysE.n45 Try.prog delRen := {
  mixed := by kernel_rfl
  f45 := ⟨"slices.Delete[[][]byte,[]byte]", by decide, Try.func22.trans (congrArg some (by kernel_rfl))⟩
  t0 := Try.underlying0
  a0 := Try.isAgg0
  z0 := Try.sizeOf0
  v0 := Try.zeroValue0
  t3 := Try.underlying3
  a3 := Try.isAgg3
  z3 := Try.sizeOf3
  v3 := Try.zeroValue3
  t4 := Try.underlying4
  a4 := Try.isAgg4
  z4 := Try.sizeOf4
  v4 := Try.zeroValue4
  t22 := Try.underlying38
  a22 := Try.isAgg38
  z22 := Try.sizeOf38
  v22 := Try.zeroValue38
  a23 := Try.isAgg53
  z23 := Try.sizeOf53 }
theorem Try.infoB : (Try.prog.info? 53).map (fun i => (i.zero, i.size, i.bytes)) = some (some (.slice none 0 0), 1, 24) := by kernel_rfl
theorem heap_putRow {α : Type} [Inhabited α] (enc : α → Value) (w : World) (g off : Nat) (d : Array α) (k : Nat) : (putRow enc w g off d).heap[k]? = if g = k then (w.heap[k]?).map (Go.Sort.onCells (putCells enc off d)) else w.heap[k]? := by
  unfold putRow mapBlock
  simp only [Array.getElem?_modify]
theorem ex_ds : ∀ (vs : List Value), (∀ u ∈ vs, u.oneCell' = true) → ∃ ds : List OneV, ds.map encV = vs
  | [], _ => ⟨[], rfl⟩
  | u :: vs, h => by
    obtain ⟨ds, hd⟩ := ex_ds vs (fun x hx => h x (List.mem_cons_of_mem _ hx))
    exact ⟨⟨u, h u (List.mem_cons_self ..)⟩ :: ds, by rw [List.map_cons, hd]; rfl⟩
theorem ndel {w : World} {g n c : Nat} {vs : List Value} (h : w.ownsRow 0 53 1 (.slice (some ⟨g, 0, none⟩) n c) n vs) (hone : ∀ u ∈ vs, u.oneCell' = true) (i : Nat) (hi : i < n) :
    Calls Try.prog 22 #[.slice (some ⟨g, 0, none⟩) n c, .int .i64 (i : Int), .int .i64 ((i : Int) + 1)] w fun e w' => e = .returned (.slice (some ⟨g, 0, none⟩) (n - 1) c) ∧ w'.ownsRow 0 53 1 (.slice (some ⟨g, 0, none⟩) (n - 1) c) (n - 1) (vs.take i ++ vs.drop (i + 1)) ∧ KeepR g w w' := by
  obtain ⟨i0, hi0, hz0, hz1, hz2⟩ := info_parts Try.infoB
  obtain ⟨ds, hds⟩ := ex_ds vs hone
  have hlen : vs.length = n := by have := h.1; simpa using this
  have hdl : ds.toArray.size = n := by rw [← hlen, ← hds]; simp
  have hat := fun k u (hk : vs[k]? = some u) => own_at h k u hk
  obtain ⟨_, h2⟩ := h
  rcases h2 with ⟨h0, _⟩ | ⟨g', cap, cur, he, hg, hh, hn, hcap, hsz, ht⟩
  · cases h0
  · cases he
    unfold maxLen at hcap
    have hget : ∀ j (hj : j < n), vs[j]? = some (encV ds.toArray[j]!) := by
      intro j hj
      have hj2 : j < ds.length := by simpa using (by omega : j < ds.toArray.size)
      rw [← hds, List.getElem?_map, List.getElem?_eq_getElem hj2, getElem!_pos _ _ (by omega)]
      simp
    have hH : Holds encV w g 0 ds.toArray := by
      intro j hj
      obtain ⟨q1, q2, _⟩ := hat j _ (hget j (by omega))
      rw [Nat.zero_add]
      exact ⟨q1, q2⟩
    have hD := AnyE.slices_Delete delLays encV (fun x => x.one) zrV (fun _ => Try.zeroValue53 _) i0 hi0 hz1 g 0 c i (i + 1) ds.toArray w hH (by omega) (by omega) (by omega) (by omega)
    rw [hdl] at hD
    have e1 : (((i + 1 : Nat)) : Int) = (i : Int) + 1 := by omega
    rw [e1] at hD
    refine hD.mono ?_
    rintro e w' ⟨rfl, q, rfl⟩
    have hnn : n - (i + 1 - i) = n - 1 := by omega
    rw [hnn]
    have hgs : g < w.heap.size := blk_lt hh
    obtain ⟨D, hDD⟩ : ∃ D, (ds.toArray.toList.take i ++ ds.toArray.toList.drop (i + 1) ++ List.replicate (i + 1 - i) zrV).toArray = D := ⟨_, rfl⟩
    have hDs : D.size = n := by rw [← hDD]; simp at hdl ⊢; omega
    rw [hDD]
    have hb : (putRow encV (Go.Sort.ahead w q) g 0 D).heap[g]? = some (.cells (putCells encV 0 D cur) 53 (0, 0)) := by
      rw [heap_putRow, if_pos rfl]
      show (w.heap[g]?).map _ = _
      rw [hh]
      rfl
    refine ⟨rfl, ⟨?_, .inr ⟨g, c, putCells encV 0 D cur, rfl, Nat.zero_le _, hb, by omega, hcap, ?_, ?_⟩⟩, ?_⟩
    · rw [List.length_append, List.length_take, List.length_drop]
      omega
    · simp only [putCells, Array.size_mapIdx]
      exact hsz
    · apply List.ext_getElem?
      intro k
      have hcs : n ≤ cur.size := by
        have := congrArg List.length ht
        simp at this
        omega
      by_cases hk : k < (n - 1) * 1
      · rw [List.getElem?_take_of_lt hk]
        have hk2 : k < n := by omega
        have hk3 : k < cur.size := by omega
        simp only [putCells, Array.getElem?_toList, Array.getElem?_mapIdx, Array.getElem?_eq_getElem hk3, Option.map_some]
        rw [if_pos (by omega), Nat.sub_zero, getElem!_pos _ _ (by omega)]
        have hDk : (D[k]'(by omega)) = (ds.take i ++ ds.drop (i + 1))[k]'(by simp at hdl ⊢; omega) := by
          subst hDD
          simp only [List.getElem_toArray]
          rw [List.getElem_append_left (by simp at hdl ⊢; omega)]
        have hv : vs.take i ++ vs.drop (i + 1) = (ds.take i ++ ds.drop (i + 1)).map encV := by rw [← hds, ← List.map_take, ← List.map_drop, ← List.map_append]
        rw [hDk, hv, List.getElem?_map, List.getElem?_eq_getElem]
        rfl
      · rw [List.getElem?_eq_none (by rw [List.length_take]; omega), List.getElem?_eq_none (by rw [List.length_append, List.length_take, List.length_drop]; omega)]
    · refine ⟨rfl, rfl, rfl, ?_, fun k hk hne => ?_⟩
      · show w.heap.size ≤ (w.heap.modify g _).size
        rw [Array.size_modify]
        exact Nat.le_refl _
      · rw [heap_putRow, if_neg (Ne.symm hne)]
        rfl
end
end Go.Proofs.Ytognipephfedkaa
