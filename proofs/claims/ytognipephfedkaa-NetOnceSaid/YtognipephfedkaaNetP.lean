/- A net's state beside blocks of the law's own that turn; the letters that the law keeps. -/
import Derived.Test.YtognipephfedkaaNetK
import Derived.Test.YtognipephfedkaaNetW
namespace Go.Proofs.Ytognipephfedkaa
open Go.RowKit
section
section
variable {T : TypeId} {w x y z : World} {b : Nat} {N : List Let} {side : Int} {As As' : List (Nat × Obj)}
/-- Blocks turned, made or forgotten. -/
theorem NS.turn {R : Nat → Prop} (h : NS T w b x N side As) (hk : KeepS R x z) (hR : ∀ k, R k → w.heap.size ≤ k ∧ ∃ p ∈ As, p.1 = k) (hA : ∀ p ∈ As', (x.heap.size ≤ p.1 ∨ ∃ q ∈ As, q.1 = p.1) ∧ z.heap[p.1]? = some p.2) : NS T w b z N side As' := by
  obtain ⟨⟨S, h1, h2, h3⟩, h4, h5⟩ := h
  refine ⟨⟨S, h1.keep hk (fun k hs hr => ?_), h2, fun p hp hs => ?_⟩, hk.ext h4 (fun k hr => (hR k hr).1), fun p hp => (hA p hp).2⟩
  · obtain ⟨_, p, hp, rfl⟩ := hR k hr
    exact h3 p hp hs
  · rcases (hA p hp).1 with hn | ⟨q, hq, he⟩
    · have := h1.low _ hs
      omega
    · exact h3 q hq (he ▸ hs)
theorem NS.more (h : NS T w b x N side As) (hx : Ext x y) (Bs : List (Nat × Obj)) (hB : ∀ p ∈ Bs, x.heap.size ≤ p.1 ∧ y.heap[p.1]? = some p.2) : NS T w b y N side (Bs ++ As) :=
  h.turn (R := fun _ => False) (KeepS.of_ext hx) (fun _ hf => hf.elim) fun p hp => by
    rcases List.mem_append.1 hp with hp | hp
    · exact ⟨.inl (hB p hp).1, (hB p hp).2⟩
    · exact ⟨.inr ⟨p, hp, rfl⟩, ext_blk hx (h.box p hp)⟩
theorem NS.less (h : NS T w b x N side As) (hs : ∀ p ∈ As', p ∈ As) : NS T w b x N side As' :=
  h.turn (R := fun _ => False) (KeepS.refl _ _) (fun _ hf => hf.elim) fun p hp => ⟨.inr ⟨p, hs p hp, rfl⟩, h.box p (hs p hp)⟩
/-- One block of them turned. -/
theorem NS.set {r : Nat} {o o' : Obj} {Es : List (Nat × Obj)} (h : NS T w b x N side (Es ++ (r, o) :: As)) (hr : w.heap.size ≤ r) (hz : z.heap[r]? = some o') (hk : KeepR r x z) (hE : ∀ p ∈ Es, p.1 ≠ r) (ha : ∀ p ∈ As, p.1 ≠ r) : NS T w b z N side (Es ++ (r, o') :: As) :=
  h.turn (R := fun q => q = r) (KeepS.of_keep hk rfl) (fun k he => by subst he; exact ⟨hr, (k, o), List.mem_append_right _ List.mem_cons_self, rfl⟩) fun p hp => by
    rcases List.mem_append.1 hp with hp | hp
    · exact ⟨.inr ⟨p, List.mem_append_left _ hp, rfl⟩, keep_blk hk (h.box p (List.mem_append_left _ hp)) (hE p hp)⟩
    · rcases List.mem_cons.1 hp with rfl | hp
      · exact ⟨.inr ⟨_, List.mem_append_right _ List.mem_cons_self, rfl⟩, hz⟩
      · exact ⟨.inr ⟨p, List.mem_append_right _ (List.mem_cons_of_mem _ hp), rfl⟩, keep_blk hk (h.box p (List.mem_append_right _ (List.mem_cons_of_mem _ hp))) (ha p hp)⟩
end
/-- A row as blocks that stay: what it holds, wherever these stand. -/
structure RowB {α : Type} (c : α → List Value) (sz : Nat) (te : TypeId) (B : Nat) (v : Value) (xs : List α) (Bs : List (Nat × Obj)) : Prop where
  low : ∀ p ∈ Bs, B ≤ p.1
  blk : ∀ a m k, v = .slice (some a) m k → ∃ p ∈ Bs, p.1 = a.block
  is : ∀ p ∈ Bs, ∃ a m k, v = .slice (some a) m k ∧ a.block = p.1
  sg : ∀ p ∈ Bs, Bs = [p]
  own : ∀ z : World, (∀ p ∈ Bs, z.heap[p.1]? = some p.2) → OwnS c sz te z B v xs
theorem RowB.of {α : Type} {c : α → List Value} {sz : Nat} {te : TypeId} {y : World} {B : Nat} {v : Value} {xs : List α} (h : OwnS c sz te y B v xs) : ∃ Bs, RowB c sz te B v xs Bs ∧ ∀ p ∈ Bs, y.heap[p.1]? = some p.2 := by
  obtain ⟨h1, h2⟩ := h
  rcases h2 with ⟨rfl, h0⟩ | ⟨g, cap, cur, rfl, hg, hh, h3⟩
  · exact ⟨[], ⟨fun p hp => (by cases hp), fun a m k he => (by cases he), fun p hp => (by cases hp), fun p hp => (by cases hp), fun z _ => ⟨h1, .inl ⟨rfl, h0⟩⟩⟩, fun p hp => (by cases hp)⟩
  · refine ⟨[(g, .cells cur te (0, 0))], ⟨fun p hp => ?_, fun a m k he => ?_, fun p hp => ?_, fun p hp => (by rw [List.mem_singleton.1 hp]), fun z hz => ⟨h1, .inr ⟨g, cap, cur, rfl, hg, hz _ List.mem_cons_self, h3⟩⟩⟩, fun p hp => ?_⟩
    · rw [List.mem_singleton.1 hp]
      exact hg
    · cases he
      exact ⟨_, List.mem_cons_self, rfl⟩
    · rw [List.mem_singleton.1 hp]
      exact ⟨_, _, _, rfl, rfl⟩
    · rw [List.mem_singleton.1 hp]
      exact hh
/-- The letters that the law keeps, as they are under way. -/
def NL (kl : List LI) : List Let := kl.map fun q => (q.m, q.es)
theorem NL_len (kl : List LI) : (NL kl).length = kl.length := by simp [NL]
theorem NL_snoc (kl : List LI) (q : LI) : NL (kl ++ [q]) = NL kl ++ [(q.m, q.es)] := by simp [NL]
theorem ask_head {q : LI} {kl : List LI} : askOf (NL (q :: kl)) 0 0 = some (q.m, q.es) := by
  have h0 : placeI (NL (q :: kl)) 0 = 0 := by
    unfold placeI placeN
    split
    · rfl
    · simp
  unfold askOf
  rw [h0]
  have h1 : (NL (q :: kl))[0]? = some (q.m, q.es) := rfl
  rw [h1]
  simp only []
  rw [if_neg]
  unfold cutB
  simp
theorem erase_head {q : LI} {kl : List LI} : (NL (q :: kl)).eraseIdx (placeI (NL (q :: kl)) 0) = NL kl := by
  have h0 : placeI (NL (q :: kl)) 0 = 0 := by
    unfold placeI placeN
    split
    · rfl
    · simp
  rw [h0]
  rfl
theorem own_addS {x z : World} {te : TypeId} {B s n : Nat} {v : Value} {xs : List Value} {o' : Obj} (h : x.ownsRow B te s v n xs) (hk : KeepR x.heap.size (x.alloc o') z) : z.ownsRow B te s v n xs :=
  own_keepE h fun a m c he => by
    have hb := (own_blkE h a m c he).1
    exact (hk.block _ (by simp; omega) (Nat.ne_of_lt hb)).trans (Below.heap_alloc x o' _ hb)
/-- A row of three cells each in a block known whole, one element stored: the block is as long as before. -/
theorem set3_size (C : Array Value) (o : Nat) (cs : List Value) (hn : cs.length = 3) (ho : o + 3 ≤ C.size) : (C.toList.take o ++ cs ++ C.toList.drop (o + 3)).toArray.size = C.size := by
  simp
  omega
end
section
section
variable {w x y z : World} {b : Nat} {N : List Let} {side : Int} {As : List (Nat × Obj)}
theorem ns_send1 (h : NS NT w b x N 0 As) (hN : OkN N) (hm : N.length ≤ 160) (q : LI) (hq : SlS Ent.cells 3 x q.ev q.es) (hqa : 0 < q.es.length → ∀ a, q.a = some a → a.block < w.heap.size ∨ ∃ p ∈ As, p.1 = a.block) (C : Array Value) (hC : C.toList = q.cells) : Calls Try.prog 7 #[.pointer (some ⟨b, 0, none⟩), .slice (some ⟨x.heap.size, 0, none⟩) 1 1] (x.alloc (.cells C 27)) fun e y => e = .returned (.tuple #[]) ∧ ∃ N', OneR N q N' ∧ OkN N' ∧ N'.length ≤ 160 ∧ NS NT w b y N' 0 As := by
  have h0 := NS.add h (new_blk x (.cells C 27)) (KeepR.refl x.heap.size _)
  refine (ns_send h0 hN hm _ 1 1 [q] rfl (lit_sls [q] 1 C (by rw [hC]; simp) rfl (by omega)) (fun q' hq' => ?_) (by simp) ?_ ?_).mono ?_
  · rw [List.mem_singleton.1 hq']
    exact SlS.ext hq (Ext.alloc (Ext.refl x) _)
  · intro a ha
    cases ha
    exact .inr (.inr ⟨_, List.mem_cons_self, rfl⟩)
  · intro q' hq' hp a ha
    rw [List.mem_singleton.1 hq'] at hp ha
    rcases hqa hp a ha with h | ⟨p, hp, he⟩
    · exact .inl h
    · exact .inr ⟨p, List.mem_cons_of_mem _ hp, he⟩
  · rintro e y ⟨rfl, N', ⟨N2', hs, hs2⟩, hok, hl, hn⟩
    cases hs2
    exact ⟨rfl, _, hs, hok, hl, hn.less (fun p hp => List.mem_cons_of_mem _ hp)⟩
theorem ns_twiceB (h : NS NT w b x N side As) (hN : OkN N) (hs0 : 0 ≤ side) (hs1 : side ≤ 127) (hm : N.length ≤ 160) (k : Int) : Calls Try.prog 10 #[.pointer (some ⟨b, 0, none⟩), .int .i64 k] x fun e y => Told side N k x e y ∧ ∀ Bs, (∀ p ∈ Bs, x.heap.size ≤ p.1 ∧ y.heap[p.1]? = some p.2) → NS NT w b y N side (Bs ++ As) := by
  obtain ⟨S, h1, _⟩ := h.net
  exact (ntwice h1 hN hs0 hs1 (by omega) k).mono fun e y ⟨ht, hx⟩ => ⟨ht, fun Bs hB => h.more hx Bs hB⟩
theorem ref_yes (m : Lt) (a : Option Addr) (c n : Nat) (es : List Ent) (hn : es.length = n) (hle : n ≤ 1000000) (h : RightP m es) (z : World) (hl : SlS Ent.cells 3 z (.slice a n c) es) : Calls Try.prog 18 #[m.agg (.slice a n c)] z fun e y => e = .returned (.bool true) ∧ Ext z y := by
  subst hn
  refine (ref_any m a c es z hl hle).mono ?_
  rintro e y ⟨⟨q, rfl, hq⟩, hx⟩
  rw [hq.2 h]
  exact ⟨rfl, hx⟩
theorem ref_no (m : Lt) (a : Option Addr) (c n : Nat) (es : List Ent) (hn : es.length = n) (hle : n ≤ 1000000) (h : ¬ RightP m es) (z : World) (hl : SlS Ent.cells 3 z (.slice a n c) es) : Calls Try.prog 18 #[m.agg (.slice a n c)] z fun e y => e = .returned (.bool false) ∧ Ext z y := by
  subst hn
  refine (ref_any m a c es z hl hle).mono ?_
  rintro e y ⟨⟨q, rfl, hq⟩, hx⟩
  have : q = false := by
    cases q
    · rfl
    · exact absurd (hq.1 rfl) h
  rw [this]
  exact ⟨rfl, hx⟩
end
/-- The letters kept. -/
structure KS (w : World) (kl : List LI) (kv : Value) (Ks : List (Nat × Obj)) : Prop where
  inn : ∀ q ∈ kl, q.In w
  ok : OkN (NL kl)
  len : kl.length ≤ 160
  row : RowB LI.cells 13 27 w.heap.size kv kl Ks
section
variable {w x y z : World} {b : Nat} {kl : List LI} {kv : Value} {Ks : List (Nat × Obj)}
theorem KS.start (w : World) : KS w [] (.slice none 0 0) [] :=
  ⟨fun q hq => (by cases hq), fun p hp => (by cases hp), by simp, ⟨fun p hp => (by cases hp), fun a m k he => (by cases he), fun p hp => (by cases hp), fun p hp => (by cases hp), fun z _ => World.ownsRow_nil _ _ _ _⟩⟩
theorem RowB.form {α : Type} {c : α → List Value} {sz : Nat} {te : TypeId} {B : Nat} {v : Value} {xs : List α} {Bs : List (Nat × Obj)} {y : World} (h : RowB c sz te B v xs Bs) (hy : ∀ p ∈ Bs, y.heap[p.1]? = some p.2) : ∃ a cap, v = .slice a xs.length cap ∧ xs.length ≤ cap ∧ cap ≤ maxLen := OwnS.form (h.own y hy)
theorem RowB.pos {α : Type} {c : α → List Value} {sz : Nat} {te : TypeId} {B : Nat} {v : Value} {xs : List α} {Bs : List (Nat × Obj)} {y : World} (h : RowB c sz te B v xs Bs) (hy : ∀ p ∈ Bs, y.heap[p.1]? = some p.2) (hp : 0 < xs.length) : ∃ g cap cur, v = .slice (some ⟨g, 0, none⟩) xs.length cap ∧ (g, Obj.cells cur te (0, 0)) ∈ Bs ∧ B ≤ g ∧ xs.length * sz ≤ cur.size := by
  obtain ⟨h1, h2⟩ := h.own y hy
  rcases h2 with ⟨rfl, h0⟩ | ⟨g, cap, cur, rfl, hg, hh, hn, hcm, hcs, ht⟩
  · omega
  · obtain ⟨p, hp, he⟩ := h.blk _ _ _ rfl
    have hq := hy p hp
    obtain ⟨p1, p2⟩ := p
    simp only at he hq
    subst he
    have hq2 : Obj.cells cur te (0, 0) = p2 := Option.some.inj (hh.symm.trans hq)
    subst hq2
    refine ⟨_, cap, cur, rfl, hp, hg, ?_⟩
    rw [hcs]
    exact Nat.mul_le_mul_right _ hn
/-- One more letter kept: the row grown. -/
theorem KS.push (h : KS w kl kv Ks) {N' : List Let} {Es : List (Nat × Obj)} (hn : NS NT w b x (NL kl ++ N') 0 (Es ++ Ks)) (hE : ∀ p ∈ Es, ∀ q ∈ Ks, p.1 ≠ q.1) (q : LI) (hq : q.In w) (hR : RightP q.m q.es) (hl : kl.length < 160) {v' : Value} (ho : y.ownsRow w.heap.size 27 13 v' (kl.length + 1) (kl.flatMap LI.cells ++ q.cells)) (hb : Below w.heap.size x y) (ha : Apart kv x v' y) :
    ∃ Ks', KS w (kl ++ [q]) v' Ks' ∧ NS NT w b y (NL kl ++ N') 0 (Es ++ Ks') ∧ (∀ p ∈ Ks', p.1 < x.heap.size → ∃ q ∈ Ks, q.1 = p.1) := by
  have ho2 : OwnS LI.cells 13 27 y w.heap.size v' (kl ++ [q]) := by
    unfold OwnS
    rw [List.length_append, List.flatMap_append]
    simpa using ho
  obtain ⟨Ks', hK, hK2⟩ := RowB.of ho2
  have hkeep : KeepS (fun k => ∃ a m c, kv = .slice (some a) m c ∧ a.block = k) x y := by
    refine ⟨Below.os hb, Below.tape hb, Below.output hb, hb.size, fun k hk hn => (ha k hk (fun a m c he hbk => hn ⟨a, m, c, he, hbk⟩)).1⟩
  have hblk : ∀ p ∈ Ks', x.heap.size ≤ p.1 ∨ ∃ q ∈ Ks, q.1 = p.1 := fun p hp => by
    rcases Nat.lt_or_ge p.1 x.heap.size with hlt | hge
    · right
      obtain ⟨a, m, k, he, hbk⟩ := hK.is p hp
      by_cases hnb : ∃ a m c, kv = .slice (some a) m c ∧ a.block = p.1
      · obtain ⟨a', m', c', he', hb'⟩ := hnb
        obtain ⟨q, hq, hqe⟩ := h.row.blk a' m' c' he'
        exact ⟨q, hq, hqe.trans hb'⟩
      · exact absurd hbk ((ha p.1 hlt (fun a m c he hbk => hnb ⟨a, m, c, he, hbk⟩)).2 a m k he)
    · exact .inl hge
  refine ⟨Ks', ⟨fun q' hq' => ?_, ?_, by simp; omega, hK⟩, ?_, fun p hp hlt => ?_⟩
  · rcases List.mem_append.1 hq' with hq' | hq'
    · exact h.inn q' hq'
    · rw [List.mem_singleton.1 hq']
      exact hq
  · rw [NL_snoc]
    intro p hp
    rcases List.mem_append.1 hp with hp | hp
    · exact h.ok p hp
    · rw [List.mem_singleton.1 hp]
      exact hR
  · refine hn.turn hkeep (fun k hk => ?_) (fun p hp => ?_)
    · obtain ⟨a, m, c, he, hbk⟩ := hk
      obtain ⟨p, hp, hpe⟩ := h.row.blk a m c he
      exact ⟨by have := h.row.low p hp; omega, p, List.mem_append_right _ hp, hpe.trans hbk⟩
    · rcases List.mem_append.1 hp with hp | hp
      · have hbx := hn.box p (List.mem_append_left _ hp)
        refine ⟨.inr ⟨p, List.mem_append_left _ hp, rfl⟩, (hkeep.block _ (blk_lt hbx) (fun hk => ?_)).trans hbx⟩
        obtain ⟨a, m, c, he, hbk⟩ := hk
        obtain ⟨q, hq, hqe⟩ := h.row.blk a m c he
        exact hE p hp q hq (hbk.symm.trans hqe.symm)
      · rcases hblk p hp with hg | ⟨q, hq, hqe⟩
        · exact ⟨.inl hg, hK2 p hp⟩
        · exact ⟨.inr ⟨q, List.mem_append_right _ hq, hqe⟩, hK2 p hp⟩
  · rcases hblk p hp with hg | hq
    · omega
    · exact hq
theorem ent_one (es : List Ent) : ∀ u ∈ es.flatMap Ent.cells, u.oneCell' = true := by
  intro u hu
  obtain ⟨e, _, h⟩ := List.mem_flatMap.1 hu
  simp only [Ent.cells, List.mem_cons, List.not_mem_nil, or_false] at h
  rcases h with rfl | rfl | rfl <;> rfl
theorem ent_slr {m : Lt} {ea : Option Addr} {ec n2 : Nat} {es : List Ent} (hq : LI.In w ⟨m, ea, ec, es⟩) (hes : es.length = n2) : ∀ z, Ext w z → SlR z z.heap.size 3 (.slice ea n2 ec) n2 (es.flatMap Ent.cells) := fun z hz => by
  subst hes
  exact SlS.ext hq.2.2 hz
theorem row_pos {B n2 k5 tb : Nat} {a5 : Option Addr} {es : List Ent} {Es : List (Nat × Obj)} {o : Obj} (h : RowB Ent.cells 3 49 B (.slice a5 n2 k5) es Es) (hes : es.length = n2) (hbox : ∀ p ∈ Es ++ (tb, o) :: Ks, y.heap[p.1]? = some p.2) (h1 : tb < B) (h2 : w.heap.size ≤ tb) :
    0 < n2 → ∃ g cur, Es = [(g, Obj.cells cur 49 (0, 0))] ∧ a5 = some ⟨g, 0, none⟩ ∧ n2 * 3 ≤ cur.size ∧ w.heap.size ≤ g ∧ g ≠ tb ∧ tb < g := by
  intro h0
  obtain ⟨g, cap, cur, he, hm, hg, hs⟩ := h.pos (fun p hp => hbox p (List.mem_append_left _ hp)) (by omega)
  simp only [Value.slice.injEq] at he
  refine ⟨g, cur, h.sg _ hm, he.1, by rw [← hes]; exact hs, by omega, by omega, by omega⟩
theorem row_pos2 {x : World} {n2 k5 : Nat} {a5 : Option Addr} {es : List Ent} {Es : List (Nat × Obj)} (h : RowB Ent.cells 3 49 x.heap.size (.slice a5 n2 k5) es Es) (hes : es.length = n2) (hbox : ∀ p ∈ Es, y.heap[p.1]? = some p.2) (h2 : w.heap.size ≤ x.heap.size) (hK : ∀ p ∈ Ks, p.1 < x.heap.size) :
    0 < n2 → ∃ g cur, Es = [(g, Obj.cells cur 49 (0, 0))] ∧ a5 = some ⟨g, 0, none⟩ ∧ n2 * 3 ≤ cur.size ∧ w.heap.size ≤ g ∧ g ≠ y.heap.size ∧ ∀ p ∈ Ks, p.1 ≠ g := by
  intro h0
  obtain ⟨g, cap, cur, he, hm, hg, hs⟩ := h.pos hbox (by omega)
  simp only [Value.slice.injEq] at he
  have := blk_lt (hbox _ hm)
  simp only at this
  exact ⟨g, cur, h.sg _ hm, he.1, by rw [← hes]; exact hs, by omega, by omega, fun p hp he => by have := hK p hp; omega⟩
theorem Try.infoLet : (Try.prog.info? 27).map (fun i => (i.zero, i.size, i.bytes)) = some (some (.agg #[.int .i64 0, .int .i64 0, .int .i64 0, .int .i64 0, .int .i64 0, .int .i64 0, .int .i64 0, .int .i64 0, .int .i64 0, .int .i64 0, .bool false, .string ⟨#[]⟩, .slice none 0 0]), 13, 128) := by kernel_rfl
theorem KS.tail {w : World} {kl : List LI} (h : OkN (NL kl)) (j : Nat) : OkN (NL (kl.drop j)) := fun p hp => h p (by
  unfold NL at *
  rw [List.map_drop] at hp
  exact List.mem_of_mem_drop hp)
end
end
end Go.Proofs.Ytognipephfedkaa
