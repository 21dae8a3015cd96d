/- Two nets, the program's and the document's, as the law holds them; their calls. (Written by genNetL.py.) -/
import Derived.Test.YtognipephfedkaaNetK
import Derived.Test.YtognipephfedkaaNetW
import Derived.Test.YtognipephfedkaaNetI
namespace Go.Proofs.Ytognipephfedkaa
open Go.RowKit

/-- Two nets, apart; blocks that are neither's (As); blocks that are not the second's (Bs). -/
structure PN (w : World) (b1 b2 : Nat) (x : World) (N1 : List Let) (s1 : Int) (N2 : List Let) (s2 : Int) (As Bs : List (Nat × Obj)) : Prop where
  nets : ∃ S1 S2, NetP NT S1 x b1 (byL N1) s1 ∧ NetP RT S2 x b2 (byL N2) s2 ∧ (∀ k, S1 k → w.heap.size ≤ k) ∧ (∀ k, S2 k → w.heap.size ≤ k) ∧ (∀ k, S1 k → ¬ S2 k) ∧ (∀ p ∈ As, ¬ S1 p.1 ∧ ¬ S2 p.1) ∧ ∀ p ∈ Bs, ¬ S2 p.1
  ext : Ext w x
  box : ∀ p ∈ As, x.heap[p.1]? = some p.2
  bos : ∀ p ∈ Bs, x.heap[p.1]? = some p.2
section
variable {w x y z : World} {b1 b2 : Nat} {N1 N2 : List Let} {s1 s2 : Int} {As Bs : List (Nat × Obj)} {o o' : Obj}
theorem PN.grow (h : PN w b1 b2 x N1 s1 N2 s2 As Bs) (hx : Ext x y) : PN w b1 b2 y N1 s1 N2 s2 As Bs := by
  obtain ⟨⟨S1, S2, h1, h2, h3⟩, h4, h5, h6⟩ := h
  exact ⟨⟨S1, S2, h1.ext hx, h2.ext hx, h3⟩, h4.trans hx, fun p hp => ext_blk hx (h5 p hp), fun p hp => ext_blk hx (h6 p hp)⟩
theorem PN.drop (h : PN w b1 b2 x N1 s1 N2 s2 As Bs) : PN w b1 b2 x N1 s1 N2 s2 [] [] := by
  obtain ⟨⟨S1, S2, h1, h2, h3, h4, h5, _⟩, h6, _, _⟩ := h
  exact ⟨⟨S1, S2, h1, h2, h3, h4, h5, fun p hp => (by cases hp), fun p hp => (by cases hp)⟩, h6, fun p hp => (by cases hp), fun p hp => (by cases hp)⟩
/-- A new block of the law's own. -/
theorem PN.add (h : PN w b1 b2 x N1 s1 N2 s2 As Bs) (hz : z.heap[x.heap.size]? = some o) (hk : KeepR x.heap.size (x.alloc o') z) : PN w b1 b2 z N1 s1 N2 s2 ((x.heap.size, o) :: As) Bs := by
  have h0 := h.grow (Ext.alloc (Ext.refl x) o')
  obtain ⟨⟨S1, S2, h1, h2, h3, h4, h5, h6, h7⟩, he, hb, hc⟩ := h
  have k1 : KeepS (fun q => q = x.heap.size) (x.alloc o') z := KeepS.of_keep hk rfl
  refine ⟨⟨S1, S2, (h1.ext (Ext.alloc (Ext.refl x) o')).keep k1 (fun k hs he => by have := h1.low k hs; omega), (h2.ext (Ext.alloc (Ext.refl x) o')).keep k1 (fun k hs he => by have := h2.low k hs; omega), h3, h4, h5, fun p hp => ?_, h7⟩, Ext.keep h0.ext hk he.size, fun p hp => ?_, fun p hp => ?_⟩
  · rcases List.mem_cons.1 hp with rfl | hp
    · exact ⟨fun hs => Nat.lt_irrefl _ (h1.low _ hs), fun hs => Nat.lt_irrefl _ (h2.low _ hs)⟩
    · exact h6 p hp
  · rcases List.mem_cons.1 hp with rfl | hp
    · exact hz
    · exact keep_blk hk (alloc_blk (hb p hp)) (Nat.ne_of_lt (blk_lt (hb p hp)))
  · exact keep_blk hk (alloc_blk (hc p hp)) (Nat.ne_of_lt (blk_lt (hc p hp)))
/-- The law's own block, turned. -/
theorem PN.set {r : Nat} (h : PN w b1 b2 x N1 s1 N2 s2 ((r, o) :: As) Bs) (hr : w.heap.size ≤ r) (hz : z.heap[r]? = some o') (hk : KeepR r x z) (ha : ∀ p ∈ As, p.1 ≠ r) (hb2 : ∀ p ∈ Bs, p.1 ≠ r) : PN w b1 b2 z N1 s1 N2 s2 ((r, o') :: As) Bs := by
  obtain ⟨⟨S1, S2, h1, h2, h3, h4, h5, h6, h7⟩, he, hb, hc⟩ := h
  have k1 : KeepS (fun q => q = r) x z := KeepS.of_keep hk rfl
  have hr0 := h6 (r, o) List.mem_cons_self
  refine ⟨⟨S1, S2, h1.keep k1 (fun k hs he => hr0.1 (he ▸ hs)), h2.keep k1 (fun k hs he => hr0.2 (he ▸ hs)), h3, h4, h5, fun p hp => ?_, h7⟩, Ext.keep he hk hr, fun p hp => ?_, fun p hp => ?_⟩
  · rcases List.mem_cons.1 hp with rfl | hp
    · exact hr0
    · exact h6 p (List.mem_cons_of_mem _ hp)
  · rcases List.mem_cons.1 hp with rfl | hp
    · exact hz
    · exact keep_blk hk (hb p (List.mem_cons_of_mem _ hp)) (ha p hp)
  · exact keep_blk hk (hc p hp) (hb2 p hp)
/-- What the first net's calls do. -/
theorem PN.step1 {S1 S1' S2 : Nat → Prop} {N1' : List Let} {s1' : Int} (g2 : NetP RT S2 x b2 (byL N2) s2) (g3 : ∀ k, S1 k → w.heap.size ≤ k) (g4 : ∀ k, S2 k → w.heap.size ≤ k) (g5 : ∀ k, S1 k → ¬ S2 k) (g6 : ∀ p ∈ As, ¬ S1 p.1 ∧ ¬ S2 p.1) (g7 : Ext w x) (g8 : ∀ p ∈ As, x.heap[p.1]? = some p.2)
    (h1 : NetP NT S1' y b1 (byL N1') s1') (hS : ∀ k, S1' k → S1 k ∨ x.heap.size ≤ k) (hk : KeepS S1 x y) : (∀ Bs, (∀ p ∈ Bs, x.heap.size ≤ p.1 ∧ y.heap[p.1]? = some p.2) → PN w b1 b2 y N1' s1' N2 s2 As Bs) := by
  intro Bs hB
  refine ⟨⟨S1', S2, h1, g2.keep hk (fun k h2 h1 => g5 k h1 h2), fun k hs => ?_, g4, fun k hs h2 => ?_, fun p hp => ⟨fun hs => ?_, (g6 p hp).2⟩, fun p hp hs => ?_⟩, hk.ext g7 g3, fun p hp => (hk.block _ (blk_lt (g8 p hp)) (g6 p hp).1).trans (g8 p hp), fun p hp => (hB p hp).2⟩
  · rcases hS k hs with hs | hs
    · exact g3 k hs
    · exact Nat.le_trans g7.size hs
  · rcases hS k hs with hs | hs
    · exact g5 k hs h2
    · have := g2.low k h2
      omega
  · rcases hS _ hs with hs | hs
    · exact (g6 p hp).1 hs
    · have := blk_lt (g8 p hp)
      omega
  · have := g2.low _ hs
    have := (hB p hp).1
    omega
theorem PN.step2 {S1 S2 S2' : Nat → Prop} {N2' : List Let} {s2' : Int} (g1 : NetP NT S1 x b1 (byL N1) s1) (g3 : ∀ k, S1 k → w.heap.size ≤ k) (g4 : ∀ k, S2 k → w.heap.size ≤ k) (g5 : ∀ k, S1 k → ¬ S2 k) (g6 : ∀ p ∈ As, ¬ S1 p.1 ∧ ¬ S2 p.1) (g6b : ∀ p ∈ Bs, ¬ S2 p.1) (g7 : Ext w x) (g8 : ∀ p ∈ As, x.heap[p.1]? = some p.2) (g9 : ∀ p ∈ Bs, x.heap[p.1]? = some p.2)
    (h2 : NetP RT S2' y b2 (byL N2') s2') (hS : ∀ k, S2' k → S2 k ∨ x.heap.size ≤ k) (hk : KeepS S2 x y) : PN w b1 b2 y N1 s1 N2' s2' As Bs := by
  refine ⟨⟨S1, S2', g1.keep hk g5, h2, g3, fun k hs => ?_, fun k h1 hs => ?_, fun p hp => ⟨(g6 p hp).1, fun hs => ?_⟩, fun p hp hs => ?_⟩, hk.ext g7 g4, fun p hp => (hk.block _ (blk_lt (g8 p hp)) (g6 p hp).2).trans (g8 p hp), fun p hp => (hk.block _ (blk_lt (g9 p hp)) (g6b p hp)).trans (g9 p hp)⟩
  · rcases hS k hs with hs | hs
    · exact g4 k hs
    · exact Nat.le_trans g7.size hs
  · rcases hS k hs with hs | hs
    · exact g5 k h1 hs
    · have := g1.low k h1
      omega
  · rcases hS _ hs with hs | hs
    · exact (g6 p hp).2 hs
    · have := blk_lt (g8 p hp)
      omega
  · rcases hS _ hs with hs | hs
    · exact g6b p hp hs
    · have := blk_lt (g9 p hp)
      omega
theorem pn_len (h : PN w b1 b2 x N1 s1 N2 s2 As Bs) : Calls Try.prog 9 #[.pointer (some ⟨b1, 0, none⟩)] x fun e y => e = .returned (.int .i64 (N1.length : Int)) ∧ x = y := by
  obtain ⟨S, _, h1, _⟩ := h.nets
  refine (nlen h1).mono ?_
  rintro e y ⟨rfl, rfl⟩
  rw [byL_len]
  exact ⟨rfl, rfl⟩
/-- The document's list, read. -/
theorem PN.rcell (h : PN w b1 b2 x N1 s1 N2 s2 As Bs) : ∃ a c, x.cell? ⟨b2, 0, none⟩ = some (.slice a N2.length c) := by
  obtain ⟨_, S, _, ⟨v, vs, hn⟩, _⟩ := h.nets
  obtain ⟨a, c, rfl, _, _⟩ := hn.form
  rw [byL_len] at hn
  exact ⟨a, c, (blkG hn.blk 0 _ rfl).1⟩
theorem PN.rside (h : PN w b1 b2 x N1 s1 N2 s2 As Bs) : x.cell? ⟨b2, 1, none⟩ = some (.int .i64 s2) ∧ x.frozen? ⟨b2, 1, none⟩ = false ∧ b2 < x.heap.size := by
  obtain ⟨_, S, _, ⟨v, vs, hn⟩, _⟩ := h.nets
  exact ⟨(blkG hn.blk 1 _ rfl).1, (blkG hn.blk 1 _ rfl).2, blk_lt hn.blk⟩
theorem pn_split (h : PN w b1 b2 x N1 s1 N2 s2 As Bs) (k : Int) : Calls Try.prog 12 #[.pointer (some ⟨b1, 0, none⟩), .int .i64 k] x fun e y => e = .returned (.tuple #[]) ∧ PN w b1 b2 y N1 (k % 128) N2 s2 As [] := by
  obtain ⟨⟨S1, S2, h1, h2, h3, h4, h5, h6, h7⟩, he, hb, hc⟩ := h
  refine (nsplit h1 k).mono ?_
  rintro e y ⟨rfl, hp, hk⟩
  exact ⟨rfl, PN.step1 h2 h3 h4 h5 h6 he hb hp (fun k hs => .inl hs) hk [] (fun p hp => by cases hp)⟩
/-- The document's sides, stored. -/
theorem PN.rsplit (h : PN w b1 b2 x N1 s1 N2 s2 As Bs) (k : Int) : PN w b1 b2 (x.setCell ⟨b2, 1, none⟩ (.int .i64 k)) N1 s1 N2 k As Bs := by
  obtain ⟨⟨S1, S2, h1, ⟨v, vs, h2⟩, h3, h4, h5, h6, h7⟩, he, hb, hc⟩ := h
  have hk : KeepS S2 x (x.setCell ⟨b2, 1, none⟩ (.int .i64 k)) := KeepS.of_keep ((KeepR.refl b2 x).set (o := 1) _) h2.sb
  refine PN.step2 h1 h3 h4 h5 h6 h7 he hb hc ⟨v, vs, ?_⟩ (fun k hs => .inl hs) hk
  refine ⟨fun q hq => Nat.lt_of_lt_of_le (h2.low q hq) hk.size, h2.sb, heap_setCell_same _ _ 1 _ _ (.int .i64 k) h2.blk, own_keepE h2.own (fun a n c he => Below.heap_setCell _ _ _ _ (h2.sv a n c he).2), h2.sv, fun i hi => ?_⟩
  obtain ⟨u, e1, e2⟩ := h2.rows i hi
  exact ⟨u, e1, rd8_keep e2.rd hk.size (fun a n c he => Below.heap_setCell _ _ _ _ (e2.is a n c he).2.1), e2.is, e2.one⟩
theorem pn_twice (h : PN w b1 b2 x N1 s1 N2 s2 As Bs) (hN : OkN N1) (hs0 : 0 ≤ s1) (hs1 : s1 ≤ 127) (hm : N1.length ≤ 160) (k : Int) : Calls Try.prog 10 #[.pointer (some ⟨b1, 0, none⟩), .int .i64 k] x fun e y => Told s1 N1 k x e y ∧ ∀ Bs', (∀ p ∈ Bs', x.heap.size ≤ p.1 ∧ y.heap[p.1]? = some p.2) → PN w b1 b2 y N1 s1 N2 s2 As Bs' := by
  obtain ⟨⟨S1, S2, h1, h2, h3, h4, h5, h6, h7⟩, he, hb, hc⟩ := h
  exact (ntwice h1 hN hs0 hs1 (by omega) k).mono fun e y ⟨ht, hx⟩ => ⟨ht, PN.step1 h2 h3 h4 h5 h6 he hb (h1.ext hx) (fun k hs => .inl hs) (KeepS.of_ext hx)⟩
theorem pn_deliver (h : PN w b1 b2 x N1 s1 N2 s2 As Bs) (hN : OkN N1) (hs0 : 0 ≤ s1) (hs1 : s1 ≤ 127) (hm : N1.length ≤ 160) (k : Int) : Calls Try.prog 11 #[.pointer (some ⟨b1, 0, none⟩), .int .i64 k] x fun e y => Told s1 N1 k x e y ∧ ∀ Bs', (∀ p ∈ Bs', x.heap.size ≤ p.1 ∧ y.heap[p.1]? = some p.2) → PN w b1 b2 y (N1.eraseIdx (placeI N1 k)) s1 N2 s2 As Bs' := by
  obtain ⟨⟨S1, S2, h1, h2, h3, h4, h5, h6, h7⟩, he, hb, hc⟩ := h
  exact (ndeliver h1 hN hs0 hs1 (by omega) k).mono fun e y ⟨ht, hp, hk⟩ => ⟨ht, PN.step1 h2 h3 h4 h5 h6 he hb hp up_or hk⟩
theorem pn_lose (h : PN w b1 b2 x N1 s1 N2 s2 As Bs) (hm : N1.length ≤ 160) (k : Int) : Calls Try.prog 14 #[.pointer (some ⟨b1, 0, none⟩), .int .i64 k] x fun e y => e = .returned (.bool (decide (N1.length ≠ 0))) ∧ PN w b1 b2 y (N1.eraseIdx (placeI N1 k)) s1 N2 s2 As [] := by
  obtain ⟨⟨S1, S2, h1, h2, h3, h4, h5, h6, h7⟩, he, hb, hc⟩ := h
  exact (nlose h1 (by omega) k).mono fun e y ⟨ht, hp, hk⟩ => ⟨ht, PN.step1 h2 h3 h4 h5 h6 he hb hp up_or hk [] (fun p hp => by cases hp)⟩
theorem pr_drop (h : PN w b1 b2 x N1 s1 N2 s2 As Bs) (hm : N2.length ≤ 160) (k : Int) : Calls Try.prog 17 #[.pointer (some ⟨b2, 0, none⟩), .int .i64 k] x fun e y => e = .returned (.bool (decide (N2.length ≠ 0))) ∧ PN w b1 b2 y N1 s1 (N2.eraseIdx (placeI N2 k)) s2 As Bs := by
  obtain ⟨⟨S1, S2, h1, h2, h3, h4, h5, h6, h7⟩, he, hb, hc⟩ := h
  exact (ndrop h2 (by omega) k).mono fun e y ⟨ht, hp, hk⟩ => ⟨ht, PN.step2 h1 h3 h4 h5 h6 h7 he hb hc hp up_or hk⟩
theorem pr_look (h : PN w b1 b2 x N1 s1 N2 s2 As Bs) (hN : OkN N2) (hs0 : 0 ≤ s2) (hs1 : s2 ≤ 127) (hm : N2.length ≤ 160) (k : Int) (st : Bool) : Calls Try.prog 16 #[.pointer (some ⟨b2, 0, none⟩), .int .i64 k, .bool st] x fun e y => Told s2 N2 k x e y ∧ PN w b1 b2 y N1 s1 (if st then N2 else N2.eraseIdx (placeI N2 k)) s2 As Bs := by
  obtain ⟨⟨S1, S2, h1, h2, h3, h4, h5, h6, h7⟩, he, hb, hc⟩ := h
  exact (nlook h2 hN hs0 hs1 (by omega) k st).mono fun e y ⟨ht, hp, hk⟩ => ⟨ht, PN.step2 h1 h3 h4 h5 h6 h7 he hb hc hp up_or hk⟩
theorem LI.blk {q : LI} (h : q.In w) (hp : 0 < q.es.length) : ∀ a, q.a = some a → a.block < w.heap.size := by
  intro a ha
  obtain ⟨_, _, b, off, e, hb, _⟩ : q.es.length ≤ q.cap ∧ q.cap ≤ maxLen ∧ ∃ b off, q.a = some ⟨b, off, none⟩ ∧ b < w.heap.size ∧ True := by
    obtain ⟨h1, h2, h3⟩ := h
    obtain ⟨b, off, e, hb, _⟩ := SlS.at_ Ent.three (show SlS Ent.cells 3 w (.slice q.a q.es.length q.cap) q.es from h3) hp (by decide)
    exact ⟨h1, h2, b, off, e, hb, trivial⟩
  rw [ha] at e
  cases e
  exact hb
/-- One letter, laid into a list of one and sent. -/
theorem one_sls (q : LI) (C : Array Value) (hC : C.toList = q.cells) : SlS LI.cells 13 (x.alloc (.cells C 27)) (.slice (some ⟨x.heap.size, 0, none⟩) 1 1) [q] :=
  lit_sls [q] 1 C (by rw [hC]; simp) rfl (by omega)
theorem pn_send (h : PN w b1 b2 x N1 s1 N2 s2 As Bs) (hN : OkN N1) (hm : N1.length ≤ 160) (q : LI) (hq : q.In w) (C : Array Value) (hC : C.toList = q.cells) : Calls Try.prog 7 #[.pointer (some ⟨b1, 0, none⟩), .slice (some ⟨x.heap.size, 0, none⟩) 1 1] (x.alloc (.cells C 27)) fun e y => e = .returned (.tuple #[]) ∧ ∃ N', OneR N1 q N' ∧ OkN N' ∧ N'.length ≤ 160 ∧ PN w b1 b2 y N' s1 N2 s2 As [] := by
  have h0 := PN.add h (new_blk x (.cells C 27)) (KeepR.refl x.heap.size _)
  obtain ⟨⟨S1, S2, h1, h2, h3, h4, h5, h6, h7⟩, he, hb, hc⟩ := h0
  refine (nsend h1 hN hm _ 1 1 [q] rfl (one_sls q C hC) (fun q' hq' => ?_) (by simp) ?_ ?_).mono ?_
  · rw [List.mem_singleton.1 hq']
    exact hq.2.2.ext he
  · intro a ha
    cases ha
    exact (h6 _ List.mem_cons_self).1
  · intro q' hq' hp a ha hs
    rw [List.mem_singleton.1 hq'] at hp ha
    have := h3 _ hs
    have := LI.blk hq hp a ha
    omega
  · rintro e y ⟨rfl, N', ⟨N2', hs, hs2⟩, hok, hl, hp, hk⟩
    cases hs2
    exact ⟨rfl, _, hs, hok, hl, PN.step1 h2 h3 h4 h5 (fun p hp => h6 p (List.mem_cons_of_mem _ hp)) he (fun p hp => hb p (List.mem_cons_of_mem _ hp)) hp up_or hk [] (fun p hp => by cases hp)⟩
theorem pr_send (h : PN w b1 b2 x N1 s1 N2 s2 As Bs) (hN : OkN N2) (hm : N2.length ≤ 160) (q : LI) (hq : q.In w) (h20 : q.es.length ≤ 1000000) (C : Array Value) (hC : C.toList = q.cells) : Calls Try.prog 15 #[.pointer (some ⟨b2, 0, none⟩), .slice (some ⟨x.heap.size, 0, none⟩) 1 1] (x.alloc (.cells C 27)) fun e y => e = .returned (.tuple #[]) ∧ ∃ N', OneR N2 q N' ∧ OkN N' ∧ N'.length ≤ 160 ∧ PN w b1 b2 y N1 s1 N' s2 As Bs := by
  have h0 := PN.add h (new_blk x (.cells C 27)) (KeepR.refl x.heap.size _)
  obtain ⟨⟨S1, S2, h1, h2, h3, h4, h5, h6, h7⟩, he, hb, hc⟩ := h0
  refine (rsend h2 hN hm _ 1 1 [q] rfl (one_sls q C hC) (fun q' hq' => ?_) (by simp) (fun q' hq' => ?_) ?_ ?_).mono ?_
  · rw [List.mem_singleton.1 hq']
    exact hq.2.2.ext he
  · rw [List.mem_singleton.1 hq']
    exact h20
  · intro a ha
    cases ha
    exact (h6 _ List.mem_cons_self).2
  · intro q' hq' hp a ha hs
    rw [List.mem_singleton.1 hq'] at hp ha
    have := h4 _ hs
    have := LI.blk hq hp a ha
    omega
  · rintro e y ⟨rfl, N', ⟨N2', hs, hs2⟩, hok, hl, hp, hk⟩
    cases hs2
    exact ⟨rfl, _, hs, hok, hl, PN.step2 h1 h3 h4 h5 (fun p hp => h6 p (List.mem_cons_of_mem _ hp)) h7 he (fun p hp => hb p (List.mem_cons_of_mem _ hp)) hc hp up_or hk⟩
/-- The document's net is made beside the program's. -/
theorem PN.new {As : List (Nat × Obj)} (h : NS NT w b1 x [] 0 As) : PN w b1 x.heap.size (x.alloc (.cells #[.slice none 0 0, .int .i64 0] RT)) [] 0 [] 0 [] [] := by
  obtain ⟨⟨S, h1, h2, h3⟩, h4, h5⟩ := h
  refine ⟨⟨S, fun k => k = x.heap.size, h1.ext (Ext.alloc (Ext.refl x) _), ⟨.slice none 0 0, [], ?_⟩, h2, fun k hk => by have := h4.size; omega, fun k hs hk => by have := h1.low k hs; omega, fun p hp => (by cases hp), fun p hp => (by cases hp)⟩, h4.alloc _, fun p hp => (by cases hp), fun p hp => (by cases hp)⟩
  exact ⟨fun k hk => by subst hk; simp, rfl, new_blk x _, World.ownsRow_nil _ _ _ _, (fun a n c he => by cases he), (fun i hi => by simp [byL] at hi)⟩
/-- The row of what was told, as a block that stays. -/
theorem own_bs {v : Value} {B : Nat} {es : List Ent} (h : OwnS Ent.cells 3 49 y B v es) : ∃ Bs : List (Nat × Obj), (∀ p ∈ Bs, B ≤ p.1 ∧ y.heap[p.1]? = some p.2) ∧ ∀ z : World, (∀ p ∈ Bs, z.heap[p.1]? = some p.2) → OwnS Ent.cells 3 49 z B v es := by
  obtain ⟨h1, h2⟩ := h
  rcases h2 with ⟨rfl, h0⟩ | ⟨g, cap, cur, rfl, hg, hh, h3⟩
  · exact ⟨[], fun p hp => (by cases hp), fun z _ => ⟨h1, .inl ⟨rfl, h0⟩⟩⟩
  · refine ⟨[(g, .cells cur 49 (0, 0))], fun p hp => ?_, fun z hz => ⟨h1, .inr ⟨g, cap, cur, rfl, hg, hz _ List.mem_cons_self, h3⟩⟩⟩
    rw [List.mem_singleton.1 hp]
    exact ⟨hg, hh⟩
theorem ask_mem {side k : Int} {N : List Let} {p : Let} (h : askOf N side k = some p) : p ∈ N := by
  unfold askOf at h
  split at h
  · cases h
  · rename_i q hq
    split at h
    · cases h
    · cases h
      exact List.mem_of_getElem? hq
/-- What two nets that hold the same tell of a number. -/
theorem told_two {side k : Int} {N : List Let} {e1 e2 : Ending} {x1 y1 x2 y2 : World} (hN : OkN N) (h1 : Told side N k x1 e1 y1) (h2 : Told side N k x2 e2 y2) :
    ∃ (m : Lt) (ok : Bool) (es : List Ent) (n : Nat) (a1 a2 : Option Addr) (c1 c2 : Nat), es.length = n ∧ n ≤ 1000000 ∧ e1 = .returned (.tuple #[m.agg (.slice a1 n c1), .bool ok]) ∧ e2 = .returned (.tuple #[m.agg (.slice a2 n c2), .bool ok]) ∧ OwnS Ent.cells 3 49 y1 x1.heap.size (.slice a1 n c1) es ∧ OwnS Ent.cells 3 49 y2 x2.heap.size (.slice a2 n c2) es := by
  rcases h1 with ⟨q1, e1⟩ | ⟨p, q1, v1, c1, e1, o1⟩ <;> rcases h2 with ⟨q2, e2⟩ | ⟨p', q2, v2, c2, e2, o2⟩
  · exact ⟨Lt.z, false, [], 0, none, none, 0, 0, rfl, by omega, e1, e2, World.ownsRow_nil _ _ _ _, World.ownsRow_nil _ _ _ _⟩
  · rw [q1] at q2; cases q2
  · rw [q1] at q2; cases q2
  · rw [q1] at q2
    cases q2
    exact ⟨p.1, true, p.2, p.2.length, v1, v2, c1, c2, rfl, by have := right_len (hN _ (ask_mem q1)); omega, e1, e2, o1, o2⟩
end
end Go.Proofs.Ytognipephfedkaa
