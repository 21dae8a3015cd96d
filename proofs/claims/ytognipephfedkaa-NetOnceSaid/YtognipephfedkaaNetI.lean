/- Laws of the walk for structs that lie in a block known whole: loaded in one step, stored in one step (the world behind is a letter). No function of the program is named. -/
import Derived.Test.YtognipephfedkaaNetB
import Derived.Deep.MidRow
import Derived.Test.YtognipephfedkaaNetH
import Derived.Test.YtognipephfedkaaNetU
namespace Go.Proofs.Ytognipephfedkaa
open Go.RowKit
section
variable {P : Program}

theorem range_blk {w : World} {b : Nat} {C : Array Value} {T : TypeId} (H : w.heap[b]? = some (.cells C T (0, 0))) (o n : Nat) (cs : List Value) (hc : (C.toList.drop o).take n = cs) : w.rangeAt b o cs := by
  subst hc
  intro j v hv
  have hj : j < n := by
    rcases Nat.lt_or_ge j n with h | h
    · exact h
    · simp [List.getElem?_take, Nat.not_lt.2 h] at hv
  rw [List.getElem?_take_of_lt hj, List.getElem?_drop] at hv
  simp only [World.cell?, H]
  simpa using hv
theorem there_blk {w : World} {b : Nat} {C : Array Value} {T : TypeId} (H : w.heap[b]? = some (.cells C T (0, 0))) (o n : Nat) (hn : o + n ≤ C.size) : w.there b o n := by
  intro j hj
  constructor
  · simp only [World.cell?, H]
    rw [Option.isSome_iff_exists]
    exact ⟨C[o + j]'(by omega), by simp [Array.getElem?_eq_getElem (show o + j < C.size by omega)]⟩
  · simp [World.frozen?, H]
theorem setCells_keep (b : Nat) : ∀ (vs : List Value) (o : Nat) (w : World), KeepR b w (w.setCells b o vs)
  | [], _, w => KeepR.refl b w
  | v :: vs, o, w => ((KeepR.refl b w).set v).trans (setCells_keep b vs (o + 1) (w.setCell ⟨b, o, none⟩ v))
theorem setCells_blk (b : Nat) (T : TypeId) : ∀ (vs : List Value) (o : Nat) (w : World) (C : Array Value), w.heap[b]? = some (.cells C T (0, 0)) → o + vs.length ≤ C.size →
    (w.setCells b o vs).heap[b]? = some (.cells (C.toList.take o ++ vs ++ C.toList.drop (o + vs.length)).toArray T (0, 0))
  | [], o, w, C, H, _ => by
    show w.heap[b]? = _
    rw [H]
    simp
  | v :: vs, o, w, C, H, hn => by
    simp only [List.length_cons] at hn
    have h1 := heap_setCell_same w b o C T v H
    have h2 := setCells_blk b T vs (o + 1) (w.setCell ⟨b, o, none⟩ v) (C.setIfInBounds o v) h1 (by simp; omega)
    show ((w.setCell ⟨b, o, none⟩ v).setCells b (o + 1) vs).heap[b]? = _
    rw [h2]
    have ho : o < C.toList.length := by simp; omega
    rw [Array.toList_setIfInBounds, List.take_succ_eq_append_getElem (by simpa using ho), List.take_set, List.set_eq_of_length_le (by simp; omega), List.getElem_set_self, List.drop_set_of_lt (by omega)]
    simp [List.length_cons, Nat.add_assoc, Nat.add_comm 1]
/-- A struct in a block, loaded in one step. -/
theorem wpList_load_blk {ops : Array Oper} {rest : List Oper} {op : Oper} {a : Act} {w : World} {Q : Exit → Act → World → Prop} (hgd : op.guard = none) (ty : TypeId) (x : Operand) (ho : op.op = .load ty x)
    (b o : Nat) (hx : a.eval x = .pointer (some ⟨b, o, none⟩)) {C : Array Value} {T : TypeId} (H : w.heap[b]? = some (.cells C T (0, 0))) (cs : List Value) (n : Nat) (hc : (C.toList.drop o).take n = cs) (hn : cs.length = n) (d : TypeDesc)
    (hu : P.underlying ty = some d) (hd : d.isRow = true) (hi : (P.info? ty).map (·.size) = some n)
    (h : wpList P ops Q rest (a.put op.dst (.agg cs.toArray)) w) : wpList P ops Q (op :: rest) a w :=
  wpList_load_mid hgd ty x ho b o hx cs d (range_blk H o n cs hc) hu hd (by rw [hn]; exact hi) h
/-- A struct stored into a block in one step: the world behind is a letter. -/
theorem wpList_store_blk {ops : Array Oper} {rest : List Oper} {op : Oper} {a : Act} {w : World} {Q : Exit → Act → World → Prop} (hgd : op.guard = none) (ty : TypeId) (x y : Operand) (ho : op.op = .store ty x y)
    (b o : Nat) (cells : Array Value) (hx : a.eval x = .pointer (some ⟨b, o, none⟩)) (hy : a.eval y = .agg cells) {C : Array Value} {T : TypeId} (H : w.heap[b]? = some (.cells C T (0, 0))) (n : Nat) (hn : cells.size = n) (hs : o + n ≤ C.size)
    (hi : (P.info? ty).map (·.size) = some n) (h1 : cells.toList.all (·.oneCell') = true) (C' : Array Value) (hC : (C.toList.take o ++ cells.toList ++ C.toList.drop (o + n)).toArray = C')
    (h : ∀ z : World, z.heap[b]? = some (.cells C' T (0, 0)) → KeepR b w z → wpList P ops Q rest (a.put op.dst undef) z) : wpList P ops Q (op :: rest) a w := by
  subst hn hC
  refine wpList_store_mid hgd ty x y ho b o cells hx hy (there_blk H o _ hs) hi (by rw [← Array.all_toList]; exact h1) (h _ ?_ (setCells_keep b _ _ _))
  have := setCells_blk b T cells.toList o w C H (by simpa using hs)
  simpa using this
/-- The same two, at an operation whose guard is known to want it. -/
theorem wpList_load_blkG {ops : Array Oper} {rest : List Oper} {op : Oper} {a : Act} {w : World} {Q : Exit → Act → World → Prop} (hgd : Region.wanted op (yielded ops a.tmps) = true) (ty : TypeId) (x : Operand) (ho : op.op = .load ty x)
    (b o : Nat) (hx : a.eval x = .pointer (some ⟨b, o, none⟩)) {C : Array Value} {T : TypeId} (H : w.heap[b]? = some (.cells C T (0, 0))) (cs : List Value) (n : Nat) (hc : (C.toList.drop o).take n = cs) (hn : cs.length = n) (d : TypeDesc)
    (hu : P.underlying ty = some d) (hd : d.isRow = true) (hi : (P.info? ty).map (·.size) = some n)
    (h : wpList P ops Q rest (a.put op.dst (.agg cs.toArray)) w) : wpList P ops Q (op :: rest) a w :=
  BigFrame.wpList_want hgd fun _ hK => wp_load_mid ty x ho b o hx cs d (range_blk H o n cs hc) hu hd (by rw [hn]; exact hi) (hK _ _ h)
end
section

section
variable {S : Nat → Prop} {w : World} {b : Nat} {side : Int} {N : List Let}
theorem ndrop (h : NetP RT S w b (byL N) side) (hm : N.length ≤ 1000000) (k : Int) : Calls Try.prog 17 #[.pointer (some ⟨b, 0, none⟩), .int .i64 k] w fun e w' => e = .returned (.bool (decide (N.length ≠ 0))) ∧ NetP RT (up S w w') w' b (byL (N.eraseIdx (placeI N k))) side ∧ KeepS S w w' := by
  by_cases h0 : N.length = 0
  · refine (drop_0 h hm k h0).mono fun e w' ⟨he, hx⟩ => ⟨by rw [he]; simp [h0], ?_, KeepS.of_ext hx⟩
    have : N = [] := List.eq_nil_of_length_eq_zero h0
    subst this
    exact h.upto hx
  · exact (drop_1 h hm k h0 (placeI_lt N k h0)).mono fun e w' ⟨he, hp, hk⟩ => ⟨by rw [he]; simp [h0], hp, hk⟩
theorem rget_right {m : Lt} {es : List Ent} (h : RightP m es) (v : Value) (w : World) (hr : Rd8 w v (ltL m es)) : Calls Try.prog 26 #[v] w fun e w' => ∃ a c, e = .returned (.tuple #[m.agg (.slice a es.length c), .int .i64 0]) ∧ OwnS Ent.cells 3 49 w' w.heap.size (.slice a es.length c) es ∧ Ext w w' :=
  rget_is v _ m es 0 (back_is h) w hr (by have := right_bytes h; omega)
theorem look_ret (tm : Array Value) (W : World) (b : Nat) (v0 v1 v2 v3 v4 v5 v6 v7 v8 v9 v10 v11 v12 : Value) (ok : Bool) (ht : tm[6]? = some (.pointer (some ⟨b, 0, none⟩))) (h3 : tm[7]? = some (.bool ok)) (h : W.heap[b]? = some (.cells #[v0, v1, v2, v3, v4, v5, v6, v7, v8, v9, v10, v11, v12] 27 (0, 0))) :
    (results Try.f16 tm).run Try.prog W = .ok (.tuple #[.agg #[v0, v1, v2, v3, v4, v5, v6, v7, v8, v9, v10, v11, v12], .bool ok]) W := by
  obtain ⟨c0, _⟩ := blkG h 0 _ rfl
  obtain ⟨c1, _⟩ := blkG h 1 _ rfl
  obtain ⟨c2, _⟩ := blkG h 2 _ rfl
  obtain ⟨c3, _⟩ := blkG h 3 _ rfl
  obtain ⟨c4, _⟩ := blkG h 4 _ rfl
  obtain ⟨c5, _⟩ := blkG h 5 _ rfl
  obtain ⟨c6, _⟩ := blkG h 6 _ rfl
  obtain ⟨c7, _⟩ := blkG h 7 _ rfl
  obtain ⟨c8, _⟩ := blkG h 8 _ rfl
  obtain ⟨c9, _⟩ := blkG h 9 _ rfl
  obtain ⟨c10, _⟩ := blkG h 10 _ rfl
  obtain ⟨c11, _⟩ := blkG h 11 _ rfl
  obtain ⟨c12, _⟩ := blkG h 12 _ rfl
  simp [results, Try.results16, go_sem, ht, h3, c0, c1, c2, c3, c4, c5, c6, c7, c8, c9, c10, c11, c12]
theorem cut_ref {side fr to : Int} : (!(side / 2 ^ fr.toNat % 2 == 1) == (side / 2 ^ to.toNat % 2 == 1)) = cutB side fr to := by
  unfold cutB
  rcases Int.emod_two_eq (side / 2 ^ fr.toNat) with h | h <;> rcases Int.emod_two_eq (side / 2 ^ to.toNat) with h' | h' <;> rw [h, h'] <;> decide
theorem look_fin {z1 x2 z9 : World} {ls : List (List UInt8)} {nq : Nat} (hlow : ∀ k, S k → k < w.heap.size) (hx : Ext w z1) (hnp : NetP RT (up S z1 x2) x2 b ls side) (hkp : KeepS S z1 x2) (hkz : KeepR w.heap.size (x2.drewN nq) z9) (hwz : w.heap.size < z1.heap.size) : NetP RT (up S w z9) z9 b ls side ∧ KeepS S w z9 := by
  have k1 : KeepS (fun q => q = w.heap.size) (x2.drewN nq) z9 := KeepS.of_keep hkz rfl
  have h1 := (hnp.ext (Ext.drewN (Ext.refl x2) nq)).keep k1 (fun k hs he => by
    rcases hs with hs | hs
    · have := hlow k hs; omega
    · omega)
  have hsz : x2.heap.size ≤ z9.heap.size := k1.size
  refine ⟨?_, ((KeepS.of_ext hx).trans (hkp.trans (KeepS.of_ext (Ext.drewN (Ext.refl x2) nq)))).after k1 (fun i hi he => by omega)⟩
  obtain ⟨v, vs, h2⟩ := h1
  refine ⟨v, vs, h2.up (fun k hs => ?_) (fun k hs => ?_)⟩
  · rcases hs with hs | hs
    · exact .inl hs
    · exact .inr ⟨by omega, by omega⟩
  · rcases hs with hs | hs
    · have := hlow k hs
      have := hkp.size
      omega
    · exact hs.2
set_option maxHeartbeats 4000000 in
set_option maxRecDepth 100000 in
theorem look_empty (h : NetP RT S w b (byL N) side) (hm : N.length ≤ 1000000) (k : Int) (st : Bool) (h0 : N.length = 0) : Calls Try.prog 16 #[.pointer (some ⟨b, 0, none⟩), .int .i64 k, .bool st] w fun e w' => e = .returned (.tuple #[.agg #[.int .i64 0, .int .i64 0, .int .i64 0, .int .i64 0, .int .i64 0, .int .i64 0, .int .i64 0, .int .i64 0, .int .i64 0, .int .i64 0, .bool false, .string ⟨#[]⟩, .slice none 0 0], .bool false]) ∧ Ext w w' := by
  have HPL := Lib.hid fun (z : World) (hz : Ext w z) => rplace (h.ext hz) k (by rw [byL_len]; exact hm)
  rw [byL_len] at HPL
  have hpl : placeN k N.length = -1 := by unfold placeN; rw [if_pos h0]
  rw [hpl] at HPL
  clear h hm h0 hpl
  have hu27 := Try.underlying27
  have hi27 : (Try.prog.info? 27).map (·.size) = some 13 := by kernel_rfl
  have HU27 := Lib.hid hu27
  have HI27 := Lib.hid hi27
  clear hu27 hi27
  go_enter Try.func16, Try.ntmps16
  go_wp2_with fail
  go_at_call 25
  refine (HPL.out _ ((Ext.refl w).alloc _)).mono ?_
  rintro e y ⟨rfl, rfl⟩
  go_wp2_with (refine wpList_store_blk (by rfl) 27 _ _ (by rfl) (w.heap.size) 0 #[.int .i64 0, .int .i64 0, .int .i64 0, .int .i64 0, .int .i64 0, .int .i64 0, .int .i64 0, .int .i64 0, .int .i64 0, .int .i64 0, .bool false, .string ⟨#[]⟩, .slice none 0 0] (by rfl) (by rfl) (new_blk w (.cells #[.int .i64 0, .int .i64 0, .int .i64 0, .int .i64 0, .int .i64 0, .int .i64 0, .int .i64 0, .int .i64 0, .int .i64 0, .int .i64 0, .bool false, .string ⟨#[]⟩, .slice none 0 0] 27)) 13 (by rfl) (by exact Nat.le_refl 13) HI27.out (by rfl) #[.int .i64 0, .int .i64 0, .int .i64 0, .int .i64 0, .int .i64 0, .int .i64 0, .int .i64 0, .int .i64 0, .int .i64 0, .int .i64 0, .bool false, .string ⟨#[]⟩, .slice none 0 0] (by rfl) ?_; intro z1 hz hkz; have DR := Lib.hid hz; have TZ : Hid (Ext w z1) := Lib.hid (Ext.keep ((Ext.refl w).alloc _) hkz (Nat.le_refl _)); clear hz hkz)
  refine bodyPost_ret (v := .tuple #[.agg #[.int .i64 0, .int .i64 0, .int .i64 0, .int .i64 0, .int .i64 0, .int .i64 0, .int .i64 0, .int .i64 0, .int .i64 0, .int .i64 0, .bool false, .string ⟨#[]⟩, .slice none 0 0], .bool false]) (look_ret _ _ w.heap.size _ _ _ _ _ _ _ _ _ _ _ _ _ _ rfl rfl DR.out) rfl ⟨rfl, TZ.out⟩
set_option maxHeartbeats 4000000 in
set_option maxRecDepth 100000 in
theorem look_11 (h : NetP RT S w b (byL N) side) (hN : OkN N) (hs0 : 0 ≤ side) (hs1 : side ≤ 127) (hm : N.length ≤ 1000000) (k : Int) (h0 : N.length ≠ 0) (hi : placeI N k < N.length) (hc : cutB side N[placeI N k].1.fr N[placeI N k].1.to = true) : Calls Try.prog 16 #[.pointer (some ⟨b, 0, none⟩), .int .i64 k, .bool true] w fun e w' => e = .returned (.tuple #[.agg #[.int .i64 0, .int .i64 0, .int .i64 0, .int .i64 0, .int .i64 0, .int .i64 0, .int .i64 0, .int .i64 0, .int .i64 0, .int .i64 0, .bool false, .string ⟨#[]⟩, .slice none 0 0], .bool false]) ∧ Ext w w' := by
  have HPL := Lib.hid fun (z : World) (hz : Ext w z) => rplace (h.ext hz) k (by rw [byL_len]; exact hm)
  rw [byL_len, placeN_is N k h0] at HPL
  have hlow := h.low
  have hSb := h.sb
  obtain ⟨v, vs, h⟩ := h
  obtain ⟨g, c, u, rfl, hnc, hu, hu1, hr⟩ := h.at_ (placeI N k) hi
  generalize placeI N k = i at *
  have hr1 := hr
  obtain ⟨_, _, au, cu, rfl, _⟩ := hr1
  have hr0 := hr
  generalize hlu : (ltL N[i].1 N[i].2).length = lu at hu hr
  have hR := hN _ (List.getElem_mem hi)
  have hends := right_ends hR
  have hl8 := right_len hR
  have HG := Lib.hid fun (z : World) (hz : Ext w z) => rget_right hR (.slice au lu cu) z (by rw [← hlu]; exact hr0.ext hz)
  have HB := Lib.hid h.blk
  have HL := Lib.hid hlow
  have HSB := Lib.hid hSb
  clear h hN hR hr hr0 hlu hlow hSb
  generalize N[i] = p at *
  obtain ⟨m, es⟩ := p
  simp only at hends hc HG hl8 ⊢
  obtain ⟨n, hn⟩ : ∃ n, es.length = n := ⟨_, rfl⟩
  rw [hn] at HG hl8
  obtain ⟨kind, fr, to, te, ix, at_, co, me, off, sz, yes, data⟩ := m
  simp only [Lt.agg] at HG hends
  obtain ⟨⟨f0, f1⟩, t0, t1⟩ := hends
  have hcr := cut_ref (side := side) (fr := fr) (to := to)
  rw [hc] at hcr
  have hP := and1_i64 (side / 2 ^ fr.toNat)
  have hQ := and1_i64 (side / 2 ^ to.toNat)
  generalize side / 2 ^ fr.toNat % 2 = P1 at hcr hP
  generalize side / 2 ^ to.toNat % 2 = Q1 at hcr hQ
  have hi0 : (0 : Int) ≤ (i : Int) := by omega
  have hi1 : (i : Int) < (N.length : Int) := by omega
  have hi2 : ¬ (i : Int) < 0 := by omega
  obtain ⟨l0, _⟩ := blkG HB.out 0 (.slice (some ⟨g, 0, none⟩) N.length c) rfl
  have hbw := blk_lt HB.out
  clear hc hs0 hs1
  have hu27 := Try.underlying27
  have hi27 : (Try.prog.info? 27).map (·.size) = some 13 := by kernel_rfl
  have HU27 := Lib.hid hu27
  have HI27 := Lib.hid hi27
  clear hu27 hi27
  go_enter Try.func16, Try.ntmps16
  go_wp2_with fail
  go_at_call 25
  refine (HPL.out _ ((Ext.refl w).alloc _)).mono ?_
  rintro e y ⟨rfl, rfl⟩
  go_wp2_with fail
  go_at_call 26
  refine (HG.out _ ((Ext.refl w).alloc _)).mono ?_
  rintro e x1 ⟨a1, c1, rfl, ho, hx1⟩
  have HO := Lib.hid ho
  have T1 : Hid (Ext w x1) := Lib.hid (((Ext.refl w).alloc _).trans hx1)
  have Z1 := Lib.hid (ext_blk hx1 (new_blk w (.cells #[.int .i64 0, .int .i64 0, .int .i64 0, .int .i64 0, .int .i64 0, .int .i64 0, .int .i64 0, .int .i64 0, .int .i64 0, .int .i64 0, .bool false, .string ⟨#[]⟩, .slice none 0 0] 27)))
  clear ho hx1
  go_wp2_with (first
    | (refine wpList_store_blk (by rfl) 27 _ _ (by rfl) (x1.heap.size) 0 #[.int .i64 kind, .int .i64 fr, .int .i64 to, .int .i64 te, .int .i64 ix, .int .i64 at_, .int .i64 co, .int .i64 me, .int .i64 off, .int .i64 sz, .bool yes, .string data, .slice a1 n c1] (by rfl) (by rfl) (new_blk x1 (.cells #[.int .i64 0, .int .i64 0, .int .i64 0, .int .i64 0, .int .i64 0, .int .i64 0, .int .i64 0, .int .i64 0, .int .i64 0, .int .i64 0, .bool false, .string ⟨#[]⟩, .slice none 0 0] 27)) 13 (by rfl) (by exact Nat.le_refl 13) HI27.out (by rfl) #[.int .i64 kind, .int .i64 fr, .int .i64 to, .int .i64 te, .int .i64 ix, .int .i64 at_, .int .i64 co, .int .i64 me, .int .i64 off, .int .i64 sz, .bool yes, .string data, .slice a1 n c1] (by rfl) ?_; intro z1 hz hkz; have DM := Lib.hid hz; have TZ : Hid (Ext x1 z1) := Lib.hid (Ext.keep ((Ext.refl x1).alloc _) hkz (Nat.le_refl _)); clear hz hkz; obtain ⟨s1, _⟩ := blkG (ext_blk (T1.out.trans TZ.out) HB.out) 1 (.int .i64 side) rfl; obtain ⟨s2, _⟩ := blkG DM.out 1 (.int .i64 fr) rfl; obtain ⟨s3, _⟩ := blkG DM.out 2 (.int .i64 to) rfl)
    | fail)
  have hxx := (T1.out.trans TZ.out)
  have ZR := Lib.hid (ext_blk TZ.out Z1.out)
  have TW := Lib.hid hxx
  go_quiet (fail)
  go_wp2_with (first
    | (refine wpList_store_blk (by rfl) 27 _ _ (by rfl) (w.heap.size) 0 #[.int .i64 0, .int .i64 0, .int .i64 0, .int .i64 0, .int .i64 0, .int .i64 0, .int .i64 0, .int .i64 0, .int .i64 0, .int .i64 0, .bool false, .string ⟨#[]⟩, .slice none 0 0] (by rfl) (by rfl) (drew_blkN ZR.out) 13 (by rfl) (by exact Nat.le_refl 13) HI27.out (by rfl) #[.int .i64 0, .int .i64 0, .int .i64 0, .int .i64 0, .int .i64 0, .int .i64 0, .int .i64 0, .int .i64 0, .int .i64 0, .int .i64 0, .bool false, .string ⟨#[]⟩, .slice none 0 0] (by rfl) ?_; intro z9 hz hkz; have DR := Lib.hid hz; have HKZ := Lib.hid hkz; clear hz hkz)
    | fail)
  refine bodyPost_ret (v := .tuple #[.agg #[.int .i64 0, .int .i64 0, .int .i64 0, .int .i64 0, .int .i64 0, .int .i64 0, .int .i64 0, .int .i64 0, .int .i64 0, .int .i64 0, .bool false, .string ⟨#[]⟩, .slice none 0 0], .bool false]) (look_ret _ _ w.heap.size _ _ _ _ _ _ _ _ _ _ _ _ _ _ rfl rfl DR.out) rfl ⟨rfl, Ext.keep (Ext.drewN TW.out _) HKZ.out (Nat.le_refl _)⟩
set_option maxHeartbeats 4000000 in
set_option maxRecDepth 100000 in
theorem look_10 (h : NetP RT S w b (byL N) side) (hN : OkN N) (hs0 : 0 ≤ side) (hs1 : side ≤ 127) (hm : N.length ≤ 1000000) (k : Int) (h0 : N.length ≠ 0) (hi : placeI N k < N.length) (hc : cutB side N[placeI N k].1.fr N[placeI N k].1.to = false) : Calls Try.prog 16 #[.pointer (some ⟨b, 0, none⟩), .int .i64 k, .bool true] w fun e w' => ∃ a c, e = .returned (.tuple #[N[placeI N k].1.agg (.slice a N[placeI N k].2.length c), .bool true]) ∧ OwnS Ent.cells 3 49 w' w.heap.size (.slice a N[placeI N k].2.length c) N[placeI N k].2 ∧ Ext w w' := by
  have HPL := Lib.hid fun (z : World) (hz : Ext w z) => rplace (h.ext hz) k (by rw [byL_len]; exact hm)
  rw [byL_len, placeN_is N k h0] at HPL
  have hlow := h.low
  have hSb := h.sb
  obtain ⟨v, vs, h⟩ := h
  obtain ⟨g, c, u, rfl, hnc, hu, hu1, hr⟩ := h.at_ (placeI N k) hi
  generalize placeI N k = i at *
  have hr1 := hr
  obtain ⟨_, _, au, cu, rfl, _⟩ := hr1
  have hr0 := hr
  generalize hlu : (ltL N[i].1 N[i].2).length = lu at hu hr
  have hR := hN _ (List.getElem_mem hi)
  have hends := right_ends hR
  have hl8 := right_len hR
  have HG := Lib.hid fun (z : World) (hz : Ext w z) => rget_right hR (.slice au lu cu) z (by rw [← hlu]; exact hr0.ext hz)
  have HB := Lib.hid h.blk
  have HL := Lib.hid hlow
  have HSB := Lib.hid hSb
  clear h hN hR hr hr0 hlu hlow hSb
  generalize N[i] = p at *
  obtain ⟨m, es⟩ := p
  simp only at hends hc HG hl8 ⊢
  obtain ⟨n, hn⟩ : ∃ n, es.length = n := ⟨_, rfl⟩
  rw [hn] at HG hl8 ⊢
  obtain ⟨kind, fr, to, te, ix, at_, co, me, off, sz, yes, data⟩ := m
  simp only [Lt.agg] at HG hends ⊢
  obtain ⟨⟨f0, f1⟩, t0, t1⟩ := hends
  have hcr := cut_ref (side := side) (fr := fr) (to := to)
  rw [hc] at hcr
  have hP := and1_i64 (side / 2 ^ fr.toNat)
  have hQ := and1_i64 (side / 2 ^ to.toNat)
  generalize side / 2 ^ fr.toNat % 2 = P1 at hcr hP
  generalize side / 2 ^ to.toNat % 2 = Q1 at hcr hQ
  have hi0 : (0 : Int) ≤ (i : Int) := by omega
  have hi1 : (i : Int) < (N.length : Int) := by omega
  have hi2 : ¬ (i : Int) < 0 := by omega
  obtain ⟨l0, _⟩ := blkG HB.out 0 (.slice (some ⟨g, 0, none⟩) N.length c) rfl
  have hbw := blk_lt HB.out
  clear hc hs0 hs1
  have hu27 := Try.underlying27
  have hi27 : (Try.prog.info? 27).map (·.size) = some 13 := by kernel_rfl
  have HU27 := Lib.hid hu27
  have HI27 := Lib.hid hi27
  clear hu27 hi27
  go_enter Try.func16, Try.ntmps16
  go_wp2_with fail
  go_at_call 25
  refine (HPL.out _ ((Ext.refl w).alloc _)).mono ?_
  rintro e y ⟨rfl, rfl⟩
  go_wp2_with fail
  go_at_call 26
  refine (HG.out _ ((Ext.refl w).alloc _)).mono ?_
  rintro e x1 ⟨a1, c1, rfl, ho, hx1⟩
  have HO := Lib.hid ho
  have T1 : Hid (Ext w x1) := Lib.hid (((Ext.refl w).alloc _).trans hx1)
  have Z1 := Lib.hid (ext_blk hx1 (new_blk w (.cells #[.int .i64 0, .int .i64 0, .int .i64 0, .int .i64 0, .int .i64 0, .int .i64 0, .int .i64 0, .int .i64 0, .int .i64 0, .int .i64 0, .bool false, .string ⟨#[]⟩, .slice none 0 0] 27)))
  clear ho hx1
  go_wp2_with (first
    | (refine wpList_store_blk (by rfl) 27 _ _ (by rfl) (x1.heap.size) 0 #[.int .i64 kind, .int .i64 fr, .int .i64 to, .int .i64 te, .int .i64 ix, .int .i64 at_, .int .i64 co, .int .i64 me, .int .i64 off, .int .i64 sz, .bool yes, .string data, .slice a1 n c1] (by rfl) (by rfl) (new_blk x1 (.cells #[.int .i64 0, .int .i64 0, .int .i64 0, .int .i64 0, .int .i64 0, .int .i64 0, .int .i64 0, .int .i64 0, .int .i64 0, .int .i64 0, .bool false, .string ⟨#[]⟩, .slice none 0 0] 27)) 13 (by rfl) (by exact Nat.le_refl 13) HI27.out (by rfl) #[.int .i64 kind, .int .i64 fr, .int .i64 to, .int .i64 te, .int .i64 ix, .int .i64 at_, .int .i64 co, .int .i64 me, .int .i64 off, .int .i64 sz, .bool yes, .string data, .slice a1 n c1] (by rfl) ?_; intro z1 hz hkz; have DM := Lib.hid hz; have TZ : Hid (Ext x1 z1) := Lib.hid (Ext.keep ((Ext.refl x1).alloc _) hkz (Nat.le_refl _)); clear hz hkz; obtain ⟨s1, _⟩ := blkG (ext_blk (T1.out.trans TZ.out) HB.out) 1 (.int .i64 side) rfl; obtain ⟨s2, _⟩ := blkG DM.out 1 (.int .i64 fr) rfl; obtain ⟨s3, _⟩ := blkG DM.out 2 (.int .i64 to) rfl)
    | fail)
  have hxx := (T1.out.trans TZ.out)
  have ZR := Lib.hid (ext_blk TZ.out Z1.out)
  have TW := Lib.hid hxx
  go_quiet (fail)
  go_wp2_with (first
    | (refine wpList_load_blk (by rfl) 27 _ (by rfl) (x1.heap.size) 0 (by rfl) (drew_blkN DM.out) [.int .i64 kind, .int .i64 fr, .int .i64 to, .int .i64 te, .int .i64 ix, .int .i64 at_, .int .i64 co, .int .i64 me, .int .i64 off, .int .i64 sz, .bool yes, .string data, .slice a1 n c1] 13 (by rfl) (by rfl) _ HU27.out (by rfl) HI27.out ?_)
    | (refine wpList_store_blk (by rfl) 27 _ _ (by rfl) (w.heap.size) 0 #[.int .i64 kind, .int .i64 fr, .int .i64 to, .int .i64 te, .int .i64 ix, .int .i64 at_, .int .i64 co, .int .i64 me, .int .i64 off, .int .i64 sz, .bool yes, .string data, .slice a1 n c1] (by rfl) (by rfl) (drew_blkN ZR.out) 13 (by rfl) (by exact Nat.le_refl 13) HI27.out (by rfl) #[.int .i64 kind, .int .i64 fr, .int .i64 to, .int .i64 te, .int .i64 ix, .int .i64 at_, .int .i64 co, .int .i64 me, .int .i64 off, .int .i64 sz, .bool yes, .string data, .slice a1 n c1] (by rfl) ?_; intro z9 hz hkz; have DR := Lib.hid hz; have HKZ := Lib.hid hkz; clear hz hkz)
    | fail)
  refine bodyPost_ret (v := .tuple #[.agg #[.int .i64 kind, .int .i64 fr, .int .i64 to, .int .i64 te, .int .i64 ix, .int .i64 at_, .int .i64 co, .int .i64 me, .int .i64 off, .int .i64 sz, .bool yes, .string data, .slice a1 n c1], .bool true]) (look_ret _ _ w.heap.size _ _ _ _ _ _ _ _ _ _ _ _ _ _ rfl rfl DR.out) rfl ⟨a1, c1, rfl, ((HO.out.ext (Ext.drewN TZ.out _)).keepR HKZ.out (by simp)).base (by simp), Ext.keep (Ext.drewN TW.out _) HKZ.out (Nat.le_refl _)⟩
set_option maxHeartbeats 4000000 in
set_option maxRecDepth 100000 in
theorem look_01 (h : NetP RT S w b (byL N) side) (hN : OkN N) (hs0 : 0 ≤ side) (hs1 : side ≤ 127) (hm : N.length ≤ 1000000) (k : Int) (h0 : N.length ≠ 0) (hi : placeI N k < N.length) (hc : cutB side N[placeI N k].1.fr N[placeI N k].1.to = true) : Calls Try.prog 16 #[.pointer (some ⟨b, 0, none⟩), .int .i64 k, .bool false] w fun e w' => e = .returned (.tuple #[.agg #[.int .i64 0, .int .i64 0, .int .i64 0, .int .i64 0, .int .i64 0, .int .i64 0, .int .i64 0, .int .i64 0, .int .i64 0, .int .i64 0, .bool false, .string ⟨#[]⟩, .slice none 0 0], .bool false]) ∧ NetP RT (up S w w') w' b (byL (N.eraseIdx (placeI N k))) side ∧ KeepS S w w' := by
  have HPL := Lib.hid fun (z : World) (hz : Ext w z) => rplace (h.ext hz) k (by rw [byL_len]; exact hm)
  rw [byL_len, placeN_is N k h0] at HPL
  have HD := Lib.hid fun (z : World) (hz : Ext w z) => drop_1 (h.ext hz) hm k h0 hi
  have hlow := h.low
  have hSb := h.sb
  obtain ⟨v, vs, h⟩ := h
  obtain ⟨g, c, u, rfl, hnc, hu, hu1, hr⟩ := h.at_ (placeI N k) hi
  generalize placeI N k = i at *
  have hr1 := hr
  obtain ⟨_, _, au, cu, rfl, _⟩ := hr1
  have hr0 := hr
  generalize hlu : (ltL N[i].1 N[i].2).length = lu at hu hr
  have hR := hN _ (List.getElem_mem hi)
  have hends := right_ends hR
  have hl8 := right_len hR
  have HG := Lib.hid fun (z : World) (hz : Ext w z) => rget_right hR (.slice au lu cu) z (by rw [← hlu]; exact hr0.ext hz)
  have HB := Lib.hid h.blk
  have HL := Lib.hid hlow
  have HSB := Lib.hid hSb
  clear h hN hR hr hr0 hlu hlow hSb
  generalize N.eraseIdx i = N' at *
  generalize N[i] = p at *
  obtain ⟨m, es⟩ := p
  simp only at hends hc HG hl8 ⊢
  obtain ⟨n, hn⟩ : ∃ n, es.length = n := ⟨_, rfl⟩
  rw [hn] at HG hl8
  obtain ⟨kind, fr, to, te, ix, at_, co, me, off, sz, yes, data⟩ := m
  simp only [Lt.agg] at HG hends
  obtain ⟨⟨f0, f1⟩, t0, t1⟩ := hends
  have hcr := cut_ref (side := side) (fr := fr) (to := to)
  rw [hc] at hcr
  have hP := and1_i64 (side / 2 ^ fr.toNat)
  have hQ := and1_i64 (side / 2 ^ to.toNat)
  generalize side / 2 ^ fr.toNat % 2 = P1 at hcr hP
  generalize side / 2 ^ to.toNat % 2 = Q1 at hcr hQ
  have hi0 : (0 : Int) ≤ (i : Int) := by omega
  have hi1 : (i : Int) < (N.length : Int) := by omega
  have hi2 : ¬ (i : Int) < 0 := by omega
  obtain ⟨l0, _⟩ := blkG HB.out 0 (.slice (some ⟨g, 0, none⟩) N.length c) rfl
  have hbw := blk_lt HB.out
  clear hc hs0 hs1
  have hu27 := Try.underlying27
  have hi27 : (Try.prog.info? 27).map (·.size) = some 13 := by kernel_rfl
  have HU27 := Lib.hid hu27
  have HI27 := Lib.hid hi27
  clear hu27 hi27
  go_enter Try.func16, Try.ntmps16
  go_wp2_with fail
  go_at_call 25
  refine (HPL.out _ ((Ext.refl w).alloc _)).mono ?_
  rintro e y ⟨rfl, rfl⟩
  go_wp2_with fail
  go_at_call 26
  refine (HG.out _ ((Ext.refl w).alloc _)).mono ?_
  rintro e x1 ⟨a1, c1, rfl, ho, hx1⟩
  have HO := Lib.hid ho
  have T1 : Hid (Ext w x1) := Lib.hid (((Ext.refl w).alloc _).trans hx1)
  have Z1 := Lib.hid (ext_blk hx1 (new_blk w (.cells #[.int .i64 0, .int .i64 0, .int .i64 0, .int .i64 0, .int .i64 0, .int .i64 0, .int .i64 0, .int .i64 0, .int .i64 0, .int .i64 0, .bool false, .string ⟨#[]⟩, .slice none 0 0] 27)))
  clear ho hx1
  go_wp2_with (first
    | (refine wpList_store_blk (by rfl) 27 _ _ (by rfl) (x1.heap.size) 0 #[.int .i64 kind, .int .i64 fr, .int .i64 to, .int .i64 te, .int .i64 ix, .int .i64 at_, .int .i64 co, .int .i64 me, .int .i64 off, .int .i64 sz, .bool yes, .string data, .slice a1 n c1] (by rfl) (by rfl) (new_blk x1 (.cells #[.int .i64 0, .int .i64 0, .int .i64 0, .int .i64 0, .int .i64 0, .int .i64 0, .int .i64 0, .int .i64 0, .int .i64 0, .int .i64 0, .bool false, .string ⟨#[]⟩, .slice none 0 0] 27)) 13 (by rfl) (by exact Nat.le_refl 13) HI27.out (by rfl) #[.int .i64 kind, .int .i64 fr, .int .i64 to, .int .i64 te, .int .i64 ix, .int .i64 at_, .int .i64 co, .int .i64 me, .int .i64 off, .int .i64 sz, .bool yes, .string data, .slice a1 n c1] (by rfl) ?_; intro z1 hz hkz; have DM := Lib.hid hz; have TZ : Hid (Ext x1 z1) := Lib.hid (Ext.keep ((Ext.refl x1).alloc _) hkz (Nat.le_refl _)); clear hz hkz)
    | fail)
  go_at_call 17
  refine (HD.out _ (T1.out.trans TZ.out)).mono ?_
  rintro e x2 ⟨rfl, hnp, hkp⟩
  have hTW := T1.out.trans TZ.out
  have hwx : w.heap.size ≤ x1.heap.size := T1.out.size
  have HNP := Lib.hid hnp
  have HKP := Lib.hid hkp
  have ZR := Lib.hid ((hkp.block _ (blk_lt (ext_blk TZ.out Z1.out)) (fun hs => Nat.lt_irrefl _ (HL.out _ hs))).trans (ext_blk TZ.out Z1.out))
  have DM2 := Lib.hid ((hkp.block _ (blk_lt DM.out) (fun hs => by have := HL.out _ hs; omega)).trans DM.out)
  have TW := Lib.hid hTW
  obtain ⟨v2, vs2, hni⟩ := hnp
  obtain ⟨s1, _⟩ := blkG hni.blk 1 (.int .i64 side) rfl
  obtain ⟨s2, _⟩ := blkG DM2.out 1 (.int .i64 fr) rfl
  obtain ⟨s3, _⟩ := blkG DM2.out 2 (.int .i64 to) rfl
  clear hkp hni hTW
  go_wp2_with fail
  go_quiet (fail)
  go_wp2_with (first
    | (refine wpList_store_blk (by rfl) 27 _ _ (by rfl) (w.heap.size) 0 #[.int .i64 0, .int .i64 0, .int .i64 0, .int .i64 0, .int .i64 0, .int .i64 0, .int .i64 0, .int .i64 0, .int .i64 0, .int .i64 0, .bool false, .string ⟨#[]⟩, .slice none 0 0] (by rfl) (by rfl) (drew_blkN ZR.out) 13 (by rfl) (by exact Nat.le_refl 13) HI27.out (by rfl) #[.int .i64 0, .int .i64 0, .int .i64 0, .int .i64 0, .int .i64 0, .int .i64 0, .int .i64 0, .int .i64 0, .int .i64 0, .int .i64 0, .bool false, .string ⟨#[]⟩, .slice none 0 0] (by rfl) ?_; intro z9 hz hkz; have DR := Lib.hid hz; have HKZ := Lib.hid hkz; clear hz hkz)
    | fail)
  refine bodyPost_ret (v := .tuple #[.agg #[.int .i64 0, .int .i64 0, .int .i64 0, .int .i64 0, .int .i64 0, .int .i64 0, .int .i64 0, .int .i64 0, .int .i64 0, .int .i64 0, .bool false, .string ⟨#[]⟩, .slice none 0 0], .bool false]) (look_ret _ _ w.heap.size _ _ _ _ _ _ _ _ _ _ _ _ _ _ rfl rfl DR.out) rfl ⟨rfl, look_fin HL.out TW.out HNP.out HKP.out HKZ.out (Nat.lt_of_lt_of_le (blk_lt Z1.out) TZ.out.size)⟩
set_option maxHeartbeats 4000000 in
set_option maxRecDepth 100000 in
theorem look_00 (h : NetP RT S w b (byL N) side) (hN : OkN N) (hs0 : 0 ≤ side) (hs1 : side ≤ 127) (hm : N.length ≤ 1000000) (k : Int) (h0 : N.length ≠ 0) (hi : placeI N k < N.length) (hc : cutB side N[placeI N k].1.fr N[placeI N k].1.to = false) : Calls Try.prog 16 #[.pointer (some ⟨b, 0, none⟩), .int .i64 k, .bool false] w fun e w' => ∃ a c, e = .returned (.tuple #[N[placeI N k].1.agg (.slice a N[placeI N k].2.length c), .bool true]) ∧ OwnS Ent.cells 3 49 w' w.heap.size (.slice a N[placeI N k].2.length c) N[placeI N k].2 ∧ NetP RT (up S w w') w' b (byL (N.eraseIdx (placeI N k))) side ∧ KeepS S w w' := by
  have HPL := Lib.hid fun (z : World) (hz : Ext w z) => rplace (h.ext hz) k (by rw [byL_len]; exact hm)
  rw [byL_len, placeN_is N k h0] at HPL
  have HD := Lib.hid fun (z : World) (hz : Ext w z) => drop_1 (h.ext hz) hm k h0 hi
  have hlow := h.low
  have hSb := h.sb
  obtain ⟨v, vs, h⟩ := h
  obtain ⟨g, c, u, rfl, hnc, hu, hu1, hr⟩ := h.at_ (placeI N k) hi
  generalize placeI N k = i at *
  have hr1 := hr
  obtain ⟨_, _, au, cu, rfl, _⟩ := hr1
  have hr0 := hr
  generalize hlu : (ltL N[i].1 N[i].2).length = lu at hu hr
  have hR := hN _ (List.getElem_mem hi)
  have hends := right_ends hR
  have hl8 := right_len hR
  have HG := Lib.hid fun (z : World) (hz : Ext w z) => rget_right hR (.slice au lu cu) z (by rw [← hlu]; exact hr0.ext hz)
  have HB := Lib.hid h.blk
  have HL := Lib.hid hlow
  have HSB := Lib.hid hSb
  clear h hN hR hr hr0 hlu hlow hSb
  generalize N.eraseIdx i = N' at *
  generalize N[i] = p at *
  obtain ⟨m, es⟩ := p
  simp only at hends hc HG hl8 ⊢
  obtain ⟨n, hn⟩ : ∃ n, es.length = n := ⟨_, rfl⟩
  rw [hn] at HG hl8 ⊢
  obtain ⟨kind, fr, to, te, ix, at_, co, me, off, sz, yes, data⟩ := m
  simp only [Lt.agg] at HG hends ⊢
  obtain ⟨⟨f0, f1⟩, t0, t1⟩ := hends
  have hcr := cut_ref (side := side) (fr := fr) (to := to)
  rw [hc] at hcr
  have hP := and1_i64 (side / 2 ^ fr.toNat)
  have hQ := and1_i64 (side / 2 ^ to.toNat)
  generalize side / 2 ^ fr.toNat % 2 = P1 at hcr hP
  generalize side / 2 ^ to.toNat % 2 = Q1 at hcr hQ
  have hi0 : (0 : Int) ≤ (i : Int) := by omega
  have hi1 : (i : Int) < (N.length : Int) := by omega
  have hi2 : ¬ (i : Int) < 0 := by omega
  obtain ⟨l0, _⟩ := blkG HB.out 0 (.slice (some ⟨g, 0, none⟩) N.length c) rfl
  have hbw := blk_lt HB.out
  clear hc hs0 hs1
  have hu27 := Try.underlying27
  have hi27 : (Try.prog.info? 27).map (·.size) = some 13 := by kernel_rfl
  have HU27 := Lib.hid hu27
  have HI27 := Lib.hid hi27
  clear hu27 hi27
  go_enter Try.func16, Try.ntmps16
  go_wp2_with fail
  go_at_call 25
  refine (HPL.out _ ((Ext.refl w).alloc _)).mono ?_
  rintro e y ⟨rfl, rfl⟩
  go_wp2_with fail
  go_at_call 26
  refine (HG.out _ ((Ext.refl w).alloc _)).mono ?_
  rintro e x1 ⟨a1, c1, rfl, ho, hx1⟩
  have HO := Lib.hid ho
  have T1 : Hid (Ext w x1) := Lib.hid (((Ext.refl w).alloc _).trans hx1)
  have Z1 := Lib.hid (ext_blk hx1 (new_blk w (.cells #[.int .i64 0, .int .i64 0, .int .i64 0, .int .i64 0, .int .i64 0, .int .i64 0, .int .i64 0, .int .i64 0, .int .i64 0, .int .i64 0, .bool false, .string ⟨#[]⟩, .slice none 0 0] 27)))
  clear ho hx1
  go_wp2_with (first
    | (refine wpList_store_blk (by rfl) 27 _ _ (by rfl) (x1.heap.size) 0 #[.int .i64 kind, .int .i64 fr, .int .i64 to, .int .i64 te, .int .i64 ix, .int .i64 at_, .int .i64 co, .int .i64 me, .int .i64 off, .int .i64 sz, .bool yes, .string data, .slice a1 n c1] (by rfl) (by rfl) (new_blk x1 (.cells #[.int .i64 0, .int .i64 0, .int .i64 0, .int .i64 0, .int .i64 0, .int .i64 0, .int .i64 0, .int .i64 0, .int .i64 0, .int .i64 0, .bool false, .string ⟨#[]⟩, .slice none 0 0] 27)) 13 (by rfl) (by exact Nat.le_refl 13) HI27.out (by rfl) #[.int .i64 kind, .int .i64 fr, .int .i64 to, .int .i64 te, .int .i64 ix, .int .i64 at_, .int .i64 co, .int .i64 me, .int .i64 off, .int .i64 sz, .bool yes, .string data, .slice a1 n c1] (by rfl) ?_; intro z1 hz hkz; have DM := Lib.hid hz; have TZ : Hid (Ext x1 z1) := Lib.hid (Ext.keep ((Ext.refl x1).alloc _) hkz (Nat.le_refl _)); clear hz hkz)
    | fail)
  go_at_call 17
  refine (HD.out _ (T1.out.trans TZ.out)).mono ?_
  rintro e x2 ⟨rfl, hnp, hkp⟩
  have hTW := T1.out.trans TZ.out
  have hwx : w.heap.size ≤ x1.heap.size := T1.out.size
  have HNP := Lib.hid hnp
  have HKP := Lib.hid hkp
  have ZR := Lib.hid ((hkp.block _ (blk_lt (ext_blk TZ.out Z1.out)) (fun hs => Nat.lt_irrefl _ (HL.out _ hs))).trans (ext_blk TZ.out Z1.out))
  have DM2 := Lib.hid ((hkp.block _ (blk_lt DM.out) (fun hs => by have := HL.out _ hs; omega)).trans DM.out)
  have TW := Lib.hid hTW
  obtain ⟨v2, vs2, hni⟩ := hnp
  obtain ⟨s1, _⟩ := blkG hni.blk 1 (.int .i64 side) rfl
  obtain ⟨s2, _⟩ := blkG DM2.out 1 (.int .i64 fr) rfl
  obtain ⟨s3, _⟩ := blkG DM2.out 2 (.int .i64 to) rfl
  clear hkp hni hTW
  go_wp2_with fail
  go_quiet (fail)
  go_wp2_with (first
    | (refine wpList_load_blk (by rfl) 27 _ (by rfl) (x1.heap.size) 0 (by rfl) (drew_blkN DM2.out) [.int .i64 kind, .int .i64 fr, .int .i64 to, .int .i64 te, .int .i64 ix, .int .i64 at_, .int .i64 co, .int .i64 me, .int .i64 off, .int .i64 sz, .bool yes, .string data, .slice a1 n c1] 13 (by rfl) (by rfl) _ HU27.out (by rfl) HI27.out ?_)
    | (refine wpList_store_blk (by rfl) 27 _ _ (by rfl) (w.heap.size) 0 #[.int .i64 kind, .int .i64 fr, .int .i64 to, .int .i64 te, .int .i64 ix, .int .i64 at_, .int .i64 co, .int .i64 me, .int .i64 off, .int .i64 sz, .bool yes, .string data, .slice a1 n c1] (by rfl) (by rfl) (drew_blkN ZR.out) 13 (by rfl) (by exact Nat.le_refl 13) HI27.out (by rfl) #[.int .i64 kind, .int .i64 fr, .int .i64 to, .int .i64 te, .int .i64 ix, .int .i64 at_, .int .i64 co, .int .i64 me, .int .i64 off, .int .i64 sz, .bool yes, .string data, .slice a1 n c1] (by rfl) ?_; intro z9 hz hkz; have DR := Lib.hid hz; have HKZ := Lib.hid hkz; clear hz hkz)
    | fail)
  refine bodyPost_ret (v := .tuple #[.agg #[.int .i64 kind, .int .i64 fr, .int .i64 to, .int .i64 te, .int .i64 ix, .int .i64 at_, .int .i64 co, .int .i64 me, .int .i64 off, .int .i64 sz, .bool yes, .string data, .slice a1 n c1], .bool true]) (look_ret _ _ w.heap.size _ _ _ _ _ _ _ _ _ _ _ _ _ _ rfl rfl DR.out) rfl ⟨a1, c1, rfl, ?_, look_fin HL.out TW.out HNP.out HKP.out HKZ.out (Nat.lt_of_lt_of_le (blk_lt Z1.out) TZ.out.size)⟩
  have ho2 : OwnS Ent.cells 3 49 x2 (w.heap.size + 1) (.slice a1 n c1) es := by
    have h1 := HO.out.ext TZ.out
    have h3 : OwnS Ent.cells 3 49 z1 (w.heap.size + 1) (.slice a1 n c1) es := by simpa using h1
    refine own_keepE h3 (fun a m c' he => HKP.out.block _ ?_ (fun hs => ?_))
    · exact (own_blkE h1 a m c' he).1
    · have := (own_blkE h1 a m c' he).2
      have := HL.out _ hs
      simp at *
      omega
  exact (OwnS.keepR (show OwnS Ent.cells 3 49 (x2.drewN nq) (w.heap.size + 1) (.slice a1 n c1) es from OwnS.ext ho2 (Ext.drewN (Ext.refl x2) nq)) HKZ.out (by omega)).base (by omega)
theorem nlook (h : NetP RT S w b (byL N) side) (hN : OkN N) (hs0 : 0 ≤ side) (hs1 : side ≤ 127) (hm : N.length ≤ 1000000) (k : Int) (st : Bool) : Calls Try.prog 16 #[.pointer (some ⟨b, 0, none⟩), .int .i64 k, .bool st] w fun e w' => Told side N k w e w' ∧ NetP RT (up S w w') w' b (byL (if st then N else N.eraseIdx (placeI N k))) side ∧ KeepS S w w' := by
  rcases ask_cases N side k with ⟨h0, h1⟩ | ⟨hi, h0, ⟨hc, h1⟩ | ⟨hc, h1⟩⟩
  · refine (look_empty h hm k st h0).mono fun e w' ⟨he, hx⟩ => ⟨.inl ⟨h1, he⟩, ?_, KeepS.of_ext hx⟩
    have : N = [] := List.eq_nil_of_length_eq_zero h0
    subst this
    simpa using h.upto hx
  · cases st
    · exact (look_01 h hN hs0 hs1 hm k h0 hi hc).mono fun e w' ⟨he, hp, hx⟩ => ⟨.inl ⟨h1, he⟩, hp, hx⟩
    · exact (look_11 h hN hs0 hs1 hm k h0 hi hc).mono fun e w' ⟨he, hx⟩ => ⟨.inl ⟨h1, he⟩, h.upto hx, KeepS.of_ext hx⟩
  · cases st
    · exact (look_00 h hN hs0 hs1 hm k h0 hi hc).mono fun e w' ⟨a, c, he, ho, hp, hx⟩ => ⟨.inr ⟨_, h1, a, c, he, ho⟩, hp, hx⟩
    · exact (look_10 h hN hs0 hs1 hm k h0 hi hc).mono fun e w' ⟨a, c, he, ho, hx⟩ => ⟨.inr ⟨_, h1, a, c, he, ho⟩, h.upto hx, KeepS.of_ext hx⟩
end
end
end Go.Proofs.Ytognipephfedkaa
