/- The law's same. (Turned from XLetV by hand.) -/
import Derived.Test.YtognipephfedkaaNetI
import Derived.Test.YtognipephfedkaaRoomyE
import Derived.Test.YtognipephfedkaaQuietS
namespace Go.Proofs.Ytognipephfedkaa
open Go.RowKit
section

set_option maxHeartbeats 16000000 in
set_option maxRecDepth 100000 in
theorem lsame_yes (m : Lt) (a a' : Option Addr) (c c' n : Nat) (es : List Ent) (hn : es.length = n) (w : World) (ha : SlS Ent.cells 3 w (.slice a n c) es) (hb : SlS Ent.cells 3 w (.slice a' n c') es) (hm : n ≤ 1000000000000) : Calls Try.prog 13 #[m.agg (.slice a n c), m.agg (.slice a' n c')] w fun e w' => e = .returned (.bool true) ∧ Ext w w' := by
  obtain ⟨kind, fr, to, te, ix, at_, co, me, off, sz, yes, data⟩ := m
  have hs := fun z (hz : Ext w z) => same_yesE (.slice a n c) (.slice a' n c') es z (SlS.ext ha hz) (SlS.ext hb hz) (by omega)
  have HS := Lib.hid hs
  have hX : ∀ o1 o2, Ext w ((w.alloc o1).alloc o2) := fun o1 o2 => ((Ext.refl w).alloc o1).alloc o2
  clear hs ha hb hn
  simp only [Lt.agg]
  go_enter Try.func13, Try.ntmps13
  go_wp2_with (go_at_call 23; refine (HS.out _ (hX _ _)).mono ?_; rintro e x ⟨rfl, hx⟩)
  go_ret
  exact ⟨rfl, (hX _ _).trans hx⟩

end
section

/-- A net, what is under way, and blocks that are the law's own. -/
structure NS (T : TypeId) (w : World) (b : Nat) (x : World) (N : List Let) (side : Int) (As : List (Nat × Obj)) : Prop where
  net : ∃ S, NetP T S x b (byL N) side ∧ (∀ k, S k → w.heap.size ≤ k) ∧ ∀ p ∈ As, ¬ S p.1
  ext : Ext w x
  box : ∀ p ∈ As, x.heap[p.1]? = some p.2
section
variable {T : TypeId} {w x y z : World} {b : Nat} {N : List Let} {side : Int} {As : List (Nat × Obj)} {o : Obj}
theorem NS.grow (h : NS T w b x N side As) (hx : Ext x y) : NS T w b y N side As := by
  obtain ⟨⟨S, h1, h2, h3⟩, h4, h5⟩ := h
  exact ⟨⟨S, h1.ext hx, h2, h3⟩, h4.trans hx, fun p hp => ext_blk hx (h5 p hp)⟩
theorem NS.add {o' : Obj} (h : NS T w b x N side As) (hz : z.heap[x.heap.size]? = some o) (hk : KeepR x.heap.size (x.alloc o') z) : NS T w b z N side ((x.heap.size, o) :: As) := by
  have h0 := h.grow (Ext.alloc (Ext.refl x) o')
  obtain ⟨⟨S, h1, h2, h3⟩, h4, h5⟩ := h
  have k1 : KeepS (fun q => q = x.heap.size) (x.alloc o') z := KeepS.of_keep hk rfl
  refine ⟨⟨S, (h1.ext (Ext.alloc (Ext.refl x) o')).keep k1 (fun k hs he => by have := h1.low k hs; omega), h2, fun p hp => ?_⟩, Ext.keep h0.ext hk h4.size, fun p hp => ?_⟩
  · rcases List.mem_cons.1 hp with rfl | hp
    · intro hs
      exact Nat.lt_irrefl _ (h1.low _ hs)
    · exact h3 p hp
  · rcases List.mem_cons.1 hp with rfl | hp
    · exact hz
    · exact keep_blk hk (alloc_blk (h5 p hp)) (Nat.ne_of_lt (blk_lt (h5 p hp)))
theorem NS.step {S S' : Nat → Prop} {N' : List Let} {side' : Int} (h1 : NetP T S' y b (byL N') side') (hS : ∀ k, S' k → S k ∨ x.heap.size ≤ k) (hk : KeepS S x y) (h2 : ∀ k, S k → w.heap.size ≤ k) (h3 : ∀ p ∈ As, ¬ S p.1) (h4 : Ext w x) (h5 : ∀ p ∈ As, x.heap[p.1]? = some p.2) : NS T w b y N' side' As := by
  refine ⟨⟨S', h1, fun k hs => ?_, fun p hp hs => ?_⟩, hk.ext h4 h2, fun p hp => (hk.block _ (blk_lt (h5 p hp)) (h3 p hp)).trans (h5 p hp)⟩
  · rcases hS k hs with hs | hs
    · exact h2 k hs
    · exact Nat.le_trans h4.size hs
  · rcases hS _ hs with hs | hs
    · exact h3 p hp hs
    · have := blk_lt (h5 p hp)
      omega
theorem up_or {S : Nat → Prop} : ∀ k, up S x y k → S k ∨ x.heap.size ≤ k := fun k hs => by
  rcases hs with hs | hs
  · exact .inl hs
  · exact .inr hs.1
theorem ns_new (w : World) : Calls Try.prog 6 #[] w fun e x => e = .returned (.pointer (some ⟨w.heap.size, 0, none⟩)) ∧ NS NT w w.heap.size x [] 0 [] := by
  refine (nnew w).mono ?_
  rintro e x ⟨rfl, h, hx⟩
  exact ⟨rfl, ⟨_, h, fun k hk => by omega, fun p hp => by cases hp⟩, hx, fun p hp => by cases hp⟩
theorem ns_len (h : NS NT w b x N side As) : Calls Try.prog 9 #[.pointer (some ⟨b, 0, none⟩)] x fun e y => e = .returned (.int .i64 (N.length : Int)) ∧ NS NT w b y N side As := by
  obtain ⟨S, h1, _⟩ := h.net
  refine (nlen h1).mono ?_
  rintro e y ⟨rfl, rfl⟩
  rw [byL_len]
  exact ⟨rfl, h⟩
theorem ns_split (h : NS NT w b x N side As) (k : Int) : Calls Try.prog 12 #[.pointer (some ⟨b, 0, none⟩), .int .i64 k] x fun e y => e = .returned (.tuple #[]) ∧ NS NT w b y N (k % 128) As := by
  obtain ⟨⟨S, h1, h2, h3⟩, h4, h5⟩ := h
  refine (nsplit h1 k).mono ?_
  rintro e y ⟨rfl, hp, hk⟩
  exact ⟨rfl, NS.step hp (fun k hs => .inl hs) hk h2 h3 h4 h5⟩
theorem ns_twice (h : NS NT w b x N side As) (hN : OkN N) (hs0 : 0 ≤ side) (hs1 : side ≤ 127) (hm : N.length ≤ 1000000) (k : Int) : Calls Try.prog 10 #[.pointer (some ⟨b, 0, none⟩), .int .i64 k] x fun e y => Told side N k x e y ∧ NS NT w b y N side As := by
  obtain ⟨S, h1, _⟩ := h.net
  exact (ntwice h1 hN hs0 hs1 hm k).mono fun e y ⟨ht, hx⟩ => ⟨ht, h.grow hx⟩
theorem ns_deliver (h : NS NT w b x N side As) (hN : OkN N) (hs0 : 0 ≤ side) (hs1 : side ≤ 127) (hm : N.length ≤ 1000000) (k : Int) : Calls Try.prog 11 #[.pointer (some ⟨b, 0, none⟩), .int .i64 k] x fun e y => Told side N k x e y ∧ NS NT w b y (N.eraseIdx (placeI N k)) side As := by
  obtain ⟨⟨S, h1, h2, h3⟩, h4, h5⟩ := h
  exact (ndeliver h1 hN hs0 hs1 hm k).mono fun e y ⟨ht, hp, hk⟩ => ⟨ht, NS.step hp up_or hk h2 h3 h4 h5⟩
theorem ns_lose (h : NS NT w b x N side As) (hm : N.length ≤ 1000000) (k : Int) : Calls Try.prog 14 #[.pointer (some ⟨b, 0, none⟩), .int .i64 k] x fun e y => e = .returned (.bool (decide (N.length ≠ 0))) ∧ NS NT w b y (N.eraseIdx (placeI N k)) side As := by
  obtain ⟨⟨S, h1, h2, h3⟩, h4, h5⟩ := h
  exact (nlose h1 hm k).mono fun e y ⟨ht, hp, hk⟩ => ⟨ht, NS.step hp up_or hk h2 h3 h4 h5⟩
theorem ns_lose0 (h : NS NT w b x [] side As) (k : Int) (z : World) (hz : Ext x z) : Calls Try.prog 14 #[.pointer (some ⟨b, 0, none⟩), .int .i64 k] z fun e y => e = .returned (.bool false) ∧ Ext z y := by
  obtain ⟨S, h1, _⟩ := (h.grow hz).net
  exact lose_0 h1 (by simp) k rfl
theorem ns_send (h : NS NT w b x N side As) (hN : OkN N) (hm : N.length ≤ 160) (sa : Option Addr) (sn sc : Nat) (xs : List LI) (hn : xs.length = sn) (hl : SlS LI.cells 13 x (.slice sa sn sc) xs) (hes : ∀ q ∈ xs, SlS Ent.cells 3 x q.ev q.es) (hx : xs.length ≤ 1000000)
    (hd1 : ∀ a, sa = some a → x.heap.size ≤ a.block ∨ a.block < w.heap.size ∨ ∃ p ∈ As, p.1 = a.block) (hd2 : ∀ q ∈ xs, 0 < q.es.length → ∀ a, q.a = some a → a.block < w.heap.size ∨ ∃ p ∈ As, p.1 = a.block) :
    Calls Try.prog 7 #[.pointer (some ⟨b, 0, none⟩), .slice sa sn sc] x fun e y => e = .returned (.tuple #[]) ∧ ∃ N', SendR N xs N' ∧ OkN N' ∧ N'.length ≤ 160 ∧ NS NT w b y N' side As := by
  obtain ⟨⟨S, h1, h2, h3⟩, h4, h5⟩ := h
  have hno : ∀ q, q < w.heap.size ∨ (∃ p ∈ As, p.1 = q) → ¬ S q := by
    rintro q (hq | ⟨p, hp, rfl⟩) hs
    · have := h2 q hs
      omega
    · exact h3 p hp hs
  refine (nsend h1 hN hm sa sn sc xs hn hl hes hx (fun a ha hs => ?_) (fun q hq h0 a ha => hno _ (hd2 q hq h0 a ha))).mono fun e y ⟨ht, N', hs, hok, hl2, hp, hk⟩ => ⟨ht, N', hs, hok, hl2, NS.step hp up_or hk h2 h3 h4 h5⟩
  rcases hd1 a ha with h | h
  · have := h1.low _ hs
    omega
  · exact hno _ h hs
theorem Told.ok {k : Int} {e : Ending} {p : Let} (h : Told side N k x e y) (ha : askOf N side k = some p) : ∃ a c, e = .returned (.tuple #[p.1.agg (.slice a p.2.length c), .bool true]) ∧ OwnS Ent.cells 3 49 y x.heap.size (.slice a p.2.length c) p.2 := by
  rcases h with ⟨h1, _⟩ | ⟨p', h1, h2⟩
  · rw [h1] at ha; cases ha
  · rw [h1] at ha
    cases ha
    exact h2
theorem Told.no {k : Int} {e : Ending} (h : Told side N k x e y) (ha : askOf N side k = none) : e = .returned (.tuple #[Lt.z.agg (.slice none 0 0), .bool false]) := by
  rcases h with ⟨_, h2⟩ | ⟨p', h1, h2⟩
  · exact h2
  · rw [h1] at ha; cases ha
end
theorem yes_ret (tm : Array Value) (W : World) (b : Nat) (v0 v1 v2 v3 v4 v5 v6 v7 v8 v9 v10 v11 v12 : Value) (ht : tm[4]? = some (.pointer (some ⟨b, 0, none⟩))) (h : W.heap[b]? = some (.cells #[v0, v1, v2, v3, v4, v5, v6, v7, v8, v9, v10, v11, v12] 27 (0, 0))) :
    (results Try.f8 tm).run Try.prog W = .ok (.agg #[v0, v1, v2, v3, v4, v5, v6, v7, v8, v9, v10, v11, v12]) W := by
  obtain ⟨c0, _⟩ := blkG h 0 _ rfl
  obtain ⟨c1, _⟩ := blkG h 1 _ rfl
  obtain ⟨c2, _⟩ := blkG h 2 _ rfl
  obtain ⟨c3, _⟩ := blkG h 3 _ rfl
  obtain ⟨c4, _⟩ := blkG h 4 _ rfl
  obtain ⟨c5, _⟩ := blkG h 5 _ rfl
  obtain ⟨c6, _⟩ := blkG h 6 _ rfl
  obtain ⟨c7, _⟩ := blkG h 7 _ rfl
  obtain ⟨c8, _⟩ := blkG h 8 _ rfl
  obtain ⟨c9, _⟩ := blkG h 9 _ rfl
  obtain ⟨c10, _⟩ := blkG h 10 _ rfl
  obtain ⟨c11, _⟩ := blkG h 11 _ rfl
  obtain ⟨c12, _⟩ := blkG h 12 _ rfl
  simp [results, Try.results8, go_sem, ht, c0, c1, c2, c3, c4, c5, c6, c7, c8, c9, c10, c11, c12]
set_option maxHeartbeats 4000000 in
set_option maxRecDepth 100000 in
theorem yes_any (f t : Int) (w : World) : Calls Try.prog 8 #[.int .i64 f, .int .i64 t] w fun e w' => e = .returned (.agg #[.int .i64 2, .int .i64 f, .int .i64 t, .int .i64 1, .int .i64 0, .int .i64 0, .int .i64 0, .int .i64 0, .int .i64 0, .int .i64 0, .bool true, .string ⟨#[]⟩, .slice none 0 0]) ∧ Ext w w' := by
  have hu27 := Try.underlying27
  have hi27 : (Try.prog.info? 27).map (·.size) = some 13 := by kernel_rfl
  have HU27 := Lib.hid hu27
  have HI27 := Lib.hid hi27
  clear hu27 hi27
  go_enter Try.func8, Try.ntmps8
  go_wp2_with (refine wpList_store_blk (by rfl) 27 _ _ (by rfl) (w.heap.size) 0 #[.int .i64 2, .int .i64 f, .int .i64 t, .int .i64 1, .int .i64 0, .int .i64 0, .int .i64 0, .int .i64 0, .int .i64 0, .int .i64 0, .bool true, .string ⟨#[]⟩, .slice none 0 0] (by rfl) (by rfl) (new_blk w (.cells #[.int .i64 0, .int .i64 0, .int .i64 0, .int .i64 0, .int .i64 0, .int .i64 0, .int .i64 0, .int .i64 0, .int .i64 0, .int .i64 0, .bool false, .string ⟨#[]⟩, .slice none 0 0] 27)) 13 (by rfl) (by exact Nat.le_refl 13) HI27.out (by rfl) #[.int .i64 2, .int .i64 f, .int .i64 t, .int .i64 1, .int .i64 0, .int .i64 0, .int .i64 0, .int .i64 0, .int .i64 0, .int .i64 0, .bool true, .string ⟨#[]⟩, .slice none 0 0] (by rfl) ?_; intro z1 hz hkz; have DR := Lib.hid hz; have TZ : Hid (Ext w z1) := Lib.hid (Ext.keep ((Ext.refl w).alloc _) hkz (Nat.le_refl _)); clear hz hkz)
  exact bodyPost_ret (v := .agg #[.int .i64 2, .int .i64 f, .int .i64 t, .int .i64 1, .int .i64 0, .int .i64 0, .int .i64 0, .int .i64 0, .int .i64 0, .int .i64 0, .bool true, .string ⟨#[]⟩, .slice none 0 0]) (yes_ret _ _ w.heap.size _ _ _ _ _ _ _ _ _ _ _ _ _ rfl DR.out) rfl ⟨rfl, TZ.out⟩
end
section

def mY (f t : Int) : Lt := ⟨2, f, t, 1, 0, 0, 0, 0, 0, 0, true, ⟨#[]⟩⟩
theorem mY01 : RightP (mY 0 1) [] := by simp [RightP, NamedP, mY, EntP, PieceP]
theorem mY12 : RightP (mY 1 2) [] := by simp [RightP, NamedP, mY, EntP, PieceP]
theorem mY00 : ¬ RightP (mY 0 0) [] := fun h => h.2.2.2.1 rfl
def liY (f t : Int) : LI := ⟨mY f t, none, 0, []⟩
def NY1 : List Let := [(mY 1 2, [])]
def NY : List Let := (mY 0 1, []) :: NY1
theorem okY1 : OkN NY1 := fun p hp => by
  rw [List.mem_singleton.1 hp]
  exact mY12
theorem okY : OkN NY := fun p hp => by
  rcases List.mem_cons.1 hp with rfl | hp
  · exact mY01
  · exact okY1 p hp
theorem sendY {N' : List Let} (h : SendR [] [liY 0 1, liY 1 2, liY 0 0] N') : N' = NY :=
  SendR.one h ⟨_, .inl ⟨mY01, by decide, rfl⟩, _, .inl ⟨mY12, by decide, rfl⟩, _, .inr ⟨.inl mY00, rfl⟩, rfl⟩
theorem toldY {side k f t : Int} {N : List Let} {x y : World} {e : Ending} (h : Told side N k x e y) (ha : askOf N side k = some (mY f t, [])) : ∃ a c, e = .returned (.tuple #[.agg #[.int .i64 2, .int .i64 f, .int .i64 t, .int .i64 1, .int .i64 0, .int .i64 0, .int .i64 0, .int .i64 0, .int .i64 0, .int .i64 0, .bool true, .string ⟨#[]⟩, .slice a 0 c], .bool true]) := by
  obtain ⟨a, c, h1, _⟩ := Told.ok h ha
  exact ⟨a, c, h1⟩
theorem toldN {side k : Int} {N : List Let} {x y : World} {e : Ending} (h : Told side N k x e y) (ha : askOf N side k = none) : e = .returned (.tuple #[.agg #[.int .i64 0, .int .i64 0, .int .i64 0, .int .i64 0, .int .i64 0, .int .i64 0, .int .i64 0, .int .i64 0, .int .i64 0, .int .i64 0, .bool false, .string ⟨#[]⟩, .slice none 0 0], .bool false]) := Told.no h ha
theorem sls_no {w : World} (a : Option Addr) (c : Nat) : SlS Ent.cells 3 w (.slice a 0 c) [] := ⟨by simp, Nat.zero_le _, a, c, rfl, .inl rfl⟩
theorem same_mY (f t : Int) (a : Option Addr) (c : Nat) (z : World) : Calls Try.prog 13 #[.agg #[.int .i64 2, .int .i64 f, .int .i64 t, .int .i64 1, .int .i64 0, .int .i64 0, .int .i64 0, .int .i64 0, .int .i64 0, .int .i64 0, .bool true, .string ⟨#[]⟩, .slice a 0 c], .agg #[.int .i64 2, .int .i64 f, .int .i64 t, .int .i64 1, .int .i64 0, .int .i64 0, .int .i64 0, .int .i64 0, .int .i64 0, .int .i64 0, .bool true, .string ⟨#[]⟩, .slice none 0 0]] z fun e y => e = .returned (.bool true) ∧ Ext z y :=
  lsame_yes (mY f t) a none c 0 0 [] rfl z (sls_no a c) (sls_no none 0) (by omega)
theorem blk_sls {z : World} {g : Nat} (qs : List LI) (n : Nat) (C : Array Value) (hb : z.heap[g]? = some (.cells C 27 (0, 0))) (hC : C.toList = qs.flatMap LI.cells) (hn : qs.length = n) (hl : n ≤ 1000) : SlS LI.cells 13 z (.slice (some ⟨g, 0, none⟩) n n) qs := by
  subst hn
  refine ⟨flat_len LI.len qs, by unfold maxLen; omega, _, _, rfl, .inr ⟨g, 0, rfl, blk_lt hb, fun j hj => ?_⟩⟩
  rw [← hC]
  simp [World.cell?, hb]
theorem lit_sls {x : World} (qs : List LI) (n : Nat) (C : Array Value) (hC : C.toList = qs.flatMap LI.cells) (hn : qs.length = n) (hl : n ≤ 1000) : SlS LI.cells 13 (x.alloc (.cells C 27)) (.slice (some ⟨x.heap.size, 0, none⟩) n n) qs :=
  blk_sls qs n C (new_blk x _) hC hn hl
theorem ns_send3 {w x : World} {b : Nat} (h : NS NT w b x [] 0 []) : Calls Try.prog 7 #[.pointer (some ⟨b, 0, none⟩), .slice (some ⟨x.heap.size, 0, none⟩) 3 3] (x.alloc (.cells (List.toArray [.int .i64 2, .int .i64 0, .int .i64 1, .int .i64 1, .int .i64 0, .int .i64 0, .int .i64 0, .int .i64 0, .int .i64 0, .int .i64 0, .bool true, .string ⟨#[]⟩, .slice none 0 0, .int .i64 2, .int .i64 1, .int .i64 2, .int .i64 1, .int .i64 0, .int .i64 0, .int .i64 0, .int .i64 0, .int .i64 0, .int .i64 0, .bool true, .string ⟨#[]⟩, .slice none 0 0, .int .i64 2, .int .i64 0, .int .i64 0, .int .i64 1, .int .i64 0, .int .i64 0, .int .i64 0, .int .i64 0, .int .i64 0, .int .i64 0, .bool true, .string ⟨#[]⟩, .slice none 0 0]) 27)) fun e y => e = .returned (.tuple #[]) ∧ NS NT w b y NY 0 [(x.heap.size, (.cells (List.toArray [.int .i64 2, .int .i64 0, .int .i64 1, .int .i64 1, .int .i64 0, .int .i64 0, .int .i64 0, .int .i64 0, .int .i64 0, .int .i64 0, .bool true, .string ⟨#[]⟩, .slice none 0 0, .int .i64 2, .int .i64 1, .int .i64 2, .int .i64 1, .int .i64 0, .int .i64 0, .int .i64 0, .int .i64 0, .int .i64 0, .int .i64 0, .bool true, .string ⟨#[]⟩, .slice none 0 0, .int .i64 2, .int .i64 0, .int .i64 0, .int .i64 1, .int .i64 0, .int .i64 0, .int .i64 0, .int .i64 0, .int .i64 0, .int .i64 0, .bool true, .string ⟨#[]⟩, .slice none 0 0]) 27))] := by
  have h1 := NS.add h (new_blk x (.cells (List.toArray [.int .i64 2, .int .i64 0, .int .i64 1, .int .i64 1, .int .i64 0, .int .i64 0, .int .i64 0, .int .i64 0, .int .i64 0, .int .i64 0, .bool true, .string ⟨#[]⟩, .slice none 0 0, .int .i64 2, .int .i64 1, .int .i64 2, .int .i64 1, .int .i64 0, .int .i64 0, .int .i64 0, .int .i64 0, .int .i64 0, .int .i64 0, .bool true, .string ⟨#[]⟩, .slice none 0 0, .int .i64 2, .int .i64 0, .int .i64 0, .int .i64 1, .int .i64 0, .int .i64 0, .int .i64 0, .int .i64 0, .int .i64 0, .int .i64 0, .bool true, .string ⟨#[]⟩, .slice none 0 0]) 27)) (KeepR.refl x.heap.size _)
  refine (ns_send h1 (fun p hp => by cases hp) (by decide) (some ⟨x.heap.size, 0, none⟩) 3 3 [liY 0 1, liY 1 2, liY 0 0] rfl ?_ ?_ (by decide) ?_ ?_).mono ?_
  · exact lit_sls [liY 0 1, liY 1 2, liY 0 0] 3 _ (by rfl) rfl (by omega)
  · intro q hq
    simp only [List.mem_cons, List.not_mem_nil, or_false] at hq
    rcases hq with rfl | rfl | rfl <;> exact sls_no none 0
  · intro a ha
    cases ha
    exact .inr (.inr ⟨_, List.mem_cons_self, rfl⟩)
  · intro q hq _ a ha
    simp only [List.mem_cons, List.not_mem_nil, or_false] at hq
    rcases hq with rfl | rfl | rfl <;> cases ha
  · rintro e y ⟨rfl, N', hs, _, _, hn⟩
    rw [sendY hs] at hn
    exact ⟨rfl, hn⟩
set_option maxHeartbeats 16000000 in
set_option maxRecDepth 100000 in
theorem netRuns_any (w : World) : Calls Try.prog 3 #[] w fun e w' => e = .returned (.bool true) ∧ Ext w w' := by
  have hu27 := Try.underlying27
  have hi27 : (Try.prog.info? 27).map (·.size) = some 13 := by kernel_rfl
  have HU27 := Lib.hid hu27
  have HI27 := Lib.hid hi27
  clear hu27 hi27
  go_enter Try.func3, Try.ntmps3
  go_wp2_with fail
  go_at_call 6
  refine (ns_new w).mono ?_
  rintro e x0 ⟨rfl, h0⟩
  have H0 := Lib.hid h0
  clear h0
  go_wp2_with fail
  go_at_call 8
  refine (yes_any 0 1 _).mono ?_
  rintro e x1 ⟨rfl, hx1⟩
  go_wp2_with fail
  go_at_call 8
  refine (yes_any 1 2 _).mono ?_
  rintro e x2 ⟨rfl, hx2⟩
  go_wp2_with fail
  go_at_call 8
  refine (yes_any 0 0 _).mono ?_
  rintro e x3 ⟨rfl, hx3⟩
  have H3 := Lib.hid (((H0.out.grow hx1).grow hx2).grow hx3)
  clear hx1 hx2 hx3
  go_wp2_with fail
  go_at_call 7
  refine (ns_send3 H3.out).mono ?_
  rintro e x4 ⟨rfl, h4⟩
  have H4 := Lib.hid h4
  clear h4
  go_wp2_with fail
  go_at_call 9
  refine (ns_len H4.out).mono ?_
  rintro e x5 ⟨rfl, h5⟩
  have H5 := Lib.hid h5
  clear h5
  have hl5 : (NY.length : Int) = 2 := rfl
  rw [hl5]
  go_wp2_with fail
  go_at_call 10
  refine (ns_twice H5.out okY (by decide) (by decide) (by decide) (-1)).mono ?_
  rintro e x6 ⟨ht6, h6⟩
  obtain ⟨a6, c6, rfl⟩ := toldY (f := 1) (t := 2) ht6 (by rfl)
  have H6 := Lib.hid h6
  clear h6 ht6
  go_wp2_with (refine wpList_store_blk (by rfl) 27 _ _ (by rfl) (x6.heap.size) 0 #[.int .i64 2, .int .i64 1, .int .i64 2, .int .i64 1, .int .i64 0, .int .i64 0, .int .i64 0, .int .i64 0, .int .i64 0, .int .i64 0, .bool true, .string ⟨#[]⟩, .slice a6 0 c6] (by rfl) (by rfl) (new_blk x6 (.cells #[.int .i64 0, .int .i64 0, .int .i64 0, .int .i64 0, .int .i64 0, .int .i64 0, .int .i64 0, .int .i64 0, .int .i64 0, .int .i64 0, .bool false, .string ⟨#[]⟩, .slice none 0 0] 27)) 13 (by rfl) (by exact Nat.le_refl 13) HI27.out (by rfl) #[.int .i64 2, .int .i64 1, .int .i64 2, .int .i64 1, .int .i64 0, .int .i64 0, .int .i64 0, .int .i64 0, .int .i64 0, .int .i64 0, .bool true, .string ⟨#[]⟩, .slice a6 0 c6] (by rfl) ?_; intro z6 hz hkz; have H6z := Lib.hid (NS.add H6.out hz hkz); clear hz hkz)
  go_at_call 11
  refine (ns_deliver H6z.out okY (by decide) (by decide) (by decide) 2).mono ?_
  rintro e x7 ⟨ht7, h7⟩
  obtain ⟨a7, c7, rfl⟩ := toldY (f := 0) (t := 1) ht7 (by rfl)
  have H7 : Hid (NS NT w w.heap.size x7 NY1 0 _) := Lib.hid h7
  clear h7 ht7
  go_wp2_with (refine wpList_store_blk (by rfl) 27 _ _ (by rfl) (x7.heap.size) 0 #[.int .i64 2, .int .i64 0, .int .i64 1, .int .i64 1, .int .i64 0, .int .i64 0, .int .i64 0, .int .i64 0, .int .i64 0, .int .i64 0, .bool true, .string ⟨#[]⟩, .slice a7 0 c7] (by rfl) (by rfl) (new_blk x7 (.cells #[.int .i64 0, .int .i64 0, .int .i64 0, .int .i64 0, .int .i64 0, .int .i64 0, .int .i64 0, .int .i64 0, .int .i64 0, .int .i64 0, .bool false, .string ⟨#[]⟩, .slice none 0 0] 27)) 13 (by rfl) (by exact Nat.le_refl 13) HI27.out (by rfl) #[.int .i64 2, .int .i64 0, .int .i64 1, .int .i64 1, .int .i64 0, .int .i64 0, .int .i64 0, .int .i64 0, .int .i64 0, .int .i64 0, .bool true, .string ⟨#[]⟩, .slice a7 0 c7] (by rfl) ?_; intro z7 hz hkz; have H7z := Lib.hid (NS.add H7.out hz hkz); clear hz hkz)
  go_at_call 9
  refine (ns_len H7z.out).mono ?_
  rintro e x8 ⟨rfl, h8⟩
  have H8 := Lib.hid h8
  clear h8
  have hl8 : (NY1.length : Int) = 1 := rfl
  rw [hl8]
  go_wp2_with fail
  go_at_call 12
  refine (ns_split H8.out 2).mono ?_
  rintro e x9 ⟨rfl, h9⟩
  have H9 : Hid (NS NT w w.heap.size x9 NY1 2 _) := Lib.hid h9
  clear h9
  go_wp2_with fail
  go_at_call 10
  refine (ns_twice H9.out okY1 (by decide) (by decide) (by decide) 0).mono ?_
  rintro e x10 ⟨ht10, h10⟩
  obtain rfl := toldN ht10 (by rfl)
  have H10 := Lib.hid h10
  clear h10 ht10
  go_wp2_with (refine wpList_store_blk (by rfl) 27 _ _ (by rfl) (x10.heap.size) 0 #[.int .i64 0, .int .i64 0, .int .i64 0, .int .i64 0, .int .i64 0, .int .i64 0, .int .i64 0, .int .i64 0, .int .i64 0, .int .i64 0, .bool false, .string ⟨#[]⟩, .slice none 0 0] (by rfl) (by rfl) (new_blk x10 (.cells #[.int .i64 0, .int .i64 0, .int .i64 0, .int .i64 0, .int .i64 0, .int .i64 0, .int .i64 0, .int .i64 0, .int .i64 0, .int .i64 0, .bool false, .string ⟨#[]⟩, .slice none 0 0] 27)) 13 (by rfl) (by exact Nat.le_refl 13) HI27.out (by rfl) #[.int .i64 0, .int .i64 0, .int .i64 0, .int .i64 0, .int .i64 0, .int .i64 0, .int .i64 0, .int .i64 0, .int .i64 0, .int .i64 0, .bool false, .string ⟨#[]⟩, .slice none 0 0] (by rfl) ?_; intro z10 hz hkz; have H10z := Lib.hid (NS.add H10.out hz hkz); clear hz hkz)
  go_at_call 12
  refine (ns_split H10z.out 6).mono ?_
  rintro e x11 ⟨rfl, h11⟩
  have H11 : Hid (NS NT w w.heap.size x11 NY1 6 _) := Lib.hid h11
  clear h11
  go_wp2_with fail
  go_at_call 11
  refine (ns_deliver H11.out okY1 (by decide) (by decide) (by decide) 0).mono ?_
  rintro e x12 ⟨ht12, h12⟩
  obtain ⟨a12, c12, rfl⟩ := toldY (f := 1) (t := 2) ht12 (by rfl)
  have H12 : Hid (NS NT w w.heap.size x12 [] 6 _) := Lib.hid h12
  clear h12 ht12
  go_wp2_with (refine wpList_store_blk (by rfl) 27 _ _ (by rfl) (x12.heap.size) 0 #[.int .i64 2, .int .i64 1, .int .i64 2, .int .i64 1, .int .i64 0, .int .i64 0, .int .i64 0, .int .i64 0, .int .i64 0, .int .i64 0, .bool true, .string ⟨#[]⟩, .slice a12 0 c12] (by rfl) (by rfl) (new_blk x12 (.cells #[.int .i64 0, .int .i64 0, .int .i64 0, .int .i64 0, .int .i64 0, .int .i64 0, .int .i64 0, .int .i64 0, .int .i64 0, .int .i64 0, .bool false, .string ⟨#[]⟩, .slice none 0 0] 27)) 13 (by rfl) (by exact Nat.le_refl 13) HI27.out (by rfl) #[.int .i64 2, .int .i64 1, .int .i64 2, .int .i64 1, .int .i64 0, .int .i64 0, .int .i64 0, .int .i64 0, .int .i64 0, .int .i64 0, .bool true, .string ⟨#[]⟩, .slice a12 0 c12] (by rfl) ?_; intro z12 hz hkz; have H12z := Lib.hid (NS.add H12.out hz hkz); clear hz hkz)
  go_at_call 11
  refine (ns_deliver H12z.out (fun p hp => by cases hp) (by decide) (by decide) (by decide) 0).mono ?_
  rintro e x13 ⟨ht13, h13⟩
  obtain rfl := toldN ht13 (by rfl)
  have H13 : Hid (NS NT w w.heap.size x13 [] 6 _) := Lib.hid h13
  clear h13 ht13
  go_wp2_with (refine wpList_store_blk (by rfl) 27 _ _ (by rfl) (x13.heap.size) 0 #[.int .i64 0, .int .i64 0, .int .i64 0, .int .i64 0, .int .i64 0, .int .i64 0, .int .i64 0, .int .i64 0, .int .i64 0, .int .i64 0, .bool false, .string ⟨#[]⟩, .slice none 0 0] (by rfl) (by rfl) (new_blk x13 (.cells #[.int .i64 0, .int .i64 0, .int .i64 0, .int .i64 0, .int .i64 0, .int .i64 0, .int .i64 0, .int .i64 0, .int .i64 0, .int .i64 0, .bool false, .string ⟨#[]⟩, .slice none 0 0] 27)) 13 (by rfl) (by exact Nat.le_refl 13) HI27.out (by rfl) #[.int .i64 0, .int .i64 0, .int .i64 0, .int .i64 0, .int .i64 0, .int .i64 0, .int .i64 0, .int .i64 0, .int .i64 0, .int .i64 0, .bool false, .string ⟨#[]⟩, .slice none 0 0] (by rfl) ?_; intro z13 hz hkz; have H13z := Lib.hid (NS.add H13.out hz hkz); clear hz hkz)
  have B6 := H13z.out.box (x6.heap.size, _) (List.mem_cons_of_mem _ (List.mem_cons_of_mem _ (List.mem_cons_of_mem _ (List.mem_cons_of_mem _ List.mem_cons_self))))
  have B7 := H13z.out.box (x7.heap.size, _) (List.mem_cons_of_mem _ (List.mem_cons_of_mem _ (List.mem_cons_of_mem _ List.mem_cons_self)))
  have B12 := H13z.out.box (x12.heap.size, _) (List.mem_cons_of_mem _ List.mem_cons_self)
  have EX := Lib.hid H13z.out.ext
  have hL := fun (x : SubW (Ext z13)) => ns_lose0 H13z.out 0 x.w x.ok
  have k6_0 := fun (x : SubW (Ext z13)) => (blkG (ext_blk x.ok B6) 0 (.int .i64 2) rfl).1
  have k6_1 := fun (x : SubW (Ext z13)) => (blkG (ext_blk x.ok B6) 1 (.int .i64 1) rfl).1
  have k6_2 := fun (x : SubW (Ext z13)) => (blkG (ext_blk x.ok B6) 2 (.int .i64 2) rfl).1
  have k6_3 := fun (x : SubW (Ext z13)) => (blkG (ext_blk x.ok B6) 3 (.int .i64 1) rfl).1
  have k6_4 := fun (x : SubW (Ext z13)) => (blkG (ext_blk x.ok B6) 4 (.int .i64 0) rfl).1
  have k6_5 := fun (x : SubW (Ext z13)) => (blkG (ext_blk x.ok B6) 5 (.int .i64 0) rfl).1
  have k6_6 := fun (x : SubW (Ext z13)) => (blkG (ext_blk x.ok B6) 6 (.int .i64 0) rfl).1
  have k6_7 := fun (x : SubW (Ext z13)) => (blkG (ext_blk x.ok B6) 7 (.int .i64 0) rfl).1
  have k6_8 := fun (x : SubW (Ext z13)) => (blkG (ext_blk x.ok B6) 8 (.int .i64 0) rfl).1
  have k6_9 := fun (x : SubW (Ext z13)) => (blkG (ext_blk x.ok B6) 9 (.int .i64 0) rfl).1
  have k6_10 := fun (x : SubW (Ext z13)) => (blkG (ext_blk x.ok B6) 10 (.bool true) rfl).1
  have k6_11 := fun (x : SubW (Ext z13)) => (blkG (ext_blk x.ok B6) 11 (.string ⟨#[]⟩) rfl).1
  have k6_12 := fun (x : SubW (Ext z13)) => (blkG (ext_blk x.ok B6) 12 (.slice a6 0 c6) rfl).1
  have k7_0 := fun (x : SubW (Ext z13)) => (blkG (ext_blk x.ok B7) 0 (.int .i64 2) rfl).1
  have k7_1 := fun (x : SubW (Ext z13)) => (blkG (ext_blk x.ok B7) 1 (.int .i64 0) rfl).1
  have k7_2 := fun (x : SubW (Ext z13)) => (blkG (ext_blk x.ok B7) 2 (.int .i64 1) rfl).1
  have k7_3 := fun (x : SubW (Ext z13)) => (blkG (ext_blk x.ok B7) 3 (.int .i64 1) rfl).1
  have k7_4 := fun (x : SubW (Ext z13)) => (blkG (ext_blk x.ok B7) 4 (.int .i64 0) rfl).1
  have k7_5 := fun (x : SubW (Ext z13)) => (blkG (ext_blk x.ok B7) 5 (.int .i64 0) rfl).1
  have k7_6 := fun (x : SubW (Ext z13)) => (blkG (ext_blk x.ok B7) 6 (.int .i64 0) rfl).1
  have k7_7 := fun (x : SubW (Ext z13)) => (blkG (ext_blk x.ok B7) 7 (.int .i64 0) rfl).1
  have k7_8 := fun (x : SubW (Ext z13)) => (blkG (ext_blk x.ok B7) 8 (.int .i64 0) rfl).1
  have k7_9 := fun (x : SubW (Ext z13)) => (blkG (ext_blk x.ok B7) 9 (.int .i64 0) rfl).1
  have k7_10 := fun (x : SubW (Ext z13)) => (blkG (ext_blk x.ok B7) 10 (.bool true) rfl).1
  have k7_11 := fun (x : SubW (Ext z13)) => (blkG (ext_blk x.ok B7) 11 (.string ⟨#[]⟩) rfl).1
  have k7_12 := fun (x : SubW (Ext z13)) => (blkG (ext_blk x.ok B7) 12 (.slice a7 0 c7) rfl).1
  have k12_0 := fun (x : SubW (Ext z13)) => (blkG (ext_blk x.ok B12) 0 (.int .i64 2) rfl).1
  have k12_1 := fun (x : SubW (Ext z13)) => (blkG (ext_blk x.ok B12) 1 (.int .i64 1) rfl).1
  have k12_2 := fun (x : SubW (Ext z13)) => (blkG (ext_blk x.ok B12) 2 (.int .i64 2) rfl).1
  have k12_3 := fun (x : SubW (Ext z13)) => (blkG (ext_blk x.ok B12) 3 (.int .i64 1) rfl).1
  have k12_4 := fun (x : SubW (Ext z13)) => (blkG (ext_blk x.ok B12) 4 (.int .i64 0) rfl).1
  have k12_5 := fun (x : SubW (Ext z13)) => (blkG (ext_blk x.ok B12) 5 (.int .i64 0) rfl).1
  have k12_6 := fun (x : SubW (Ext z13)) => (blkG (ext_blk x.ok B12) 6 (.int .i64 0) rfl).1
  have k12_7 := fun (x : SubW (Ext z13)) => (blkG (ext_blk x.ok B12) 7 (.int .i64 0) rfl).1
  have k12_8 := fun (x : SubW (Ext z13)) => (blkG (ext_blk x.ok B12) 8 (.int .i64 0) rfl).1
  have k12_9 := fun (x : SubW (Ext z13)) => (blkG (ext_blk x.ok B12) 9 (.int .i64 0) rfl).1
  have k12_10 := fun (x : SubW (Ext z13)) => (blkG (ext_blk x.ok B12) 10 (.bool true) rfl).1
  have k12_11 := fun (x : SubW (Ext z13)) => (blkG (ext_blk x.ok B12) 11 (.string ⟨#[]⟩) rfl).1
  have k12_12 := fun (x : SubW (Ext z13)) => (blkG (ext_blk x.ok B12) 12 (.slice a12 0 c12) rfl).1
  have HL := Lib.hid hL
  have inst : Nonempty (SubW (Ext z13)) := ⟨⟨_, Ext.refl _⟩⟩
  clear hL B6 B7 B12
  refine wp_region_quietS (Ext z13) (by kernel_rfl) (by kernel_rfl) ((Ext.refl _).drew) ?_
  repeat (go_big_quiet_step (first
    | (go_at_call 8; with_reducible exact quietS_ext (yes_any _ _ _))
    | (go_at_call 13; with_reducible exact quietS_ext (same_mY _ _ _ _ _))
    | (go_at_call 14; exact quietS_ext (HL.out _))))
  refine wpQuiet_nil ?_
  rintro _ ⟨y5, rfl⟩
  have hx6 := y5.ok
  generalize y5.w = x5 at hx6 ⊢
  clear inst
  go_wp2
  go_ret
  exact ⟨rfl, EX.out.trans hx6⟩
end
end Go.Proofs.Ytognipephfedkaa
