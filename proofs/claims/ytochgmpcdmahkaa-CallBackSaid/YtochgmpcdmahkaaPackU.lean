/- Readers in a world, and what leaves them alone; the contract of Read. -/
import Derived.Test.YtochgmpcdmahkaaPackT
import Derived.Test.YtochgmpcdmahkaaSame8
namespace Go.Proofs.Ytochgmpcdmahkaa
open Go.RowKit

theorem RdW.frame {w w' : World} {r : Nat} {a : Option Addr} {cap : Nat} {bs : List UInt8} {s : RS} (h : RdW w r a cap bs s) (hs : w.heap.size ≤ w'.heap.size) (h1 : w'.heap[r]? = w.heap[r]?)
    (h2 : ∀ g off, a = some ⟨g, off, none⟩ → w'.heap[g]? = w.heap[g]?) : RdW w' r a cap bs s := by
  have hc : ∀ o, w'.cell? ⟨r, o, none⟩ = w.cell? ⟨r, o, none⟩ := fun o => World.cell?_of_block (w := w) (a := ⟨r, o, none⟩) h1
  have hf : ∀ o, w'.frozen? ⟨r, o, none⟩ = w.frozen? ⟨r, o, none⟩ := fun o => by simp only [World.frozen?, h1]
  refine ⟨(hc 0).trans h.c0, (hc 1).trans h.c1, (hc 2).trans h.c2, (hf 0).trans h.f0, (hf 1).trans h.f1, (hf 2).trans h.f2, Nat.lt_of_lt_of_le h.lt hs, h.ok, h.mx, h.lc, h.cm, ?_⟩
  rcases h.by_ with h0 | ⟨g, off, ha, hg, hgl, hcc⟩
  · exact .inl h0
  · exact .inr ⟨g, off, ha, hg, Nat.lt_of_lt_of_le hgl hs, fun j hj => (World.cell?_of_block (w := w) (a := ⟨g, off + j, none⟩) (h2 g off ha)).trans (hcc j hj)⟩

/-- A reader whose blocks lie from B on and below T. -/
def RdX (B T : Nat) (w : World) (r : Nat) (bs : List UInt8) (s : RS) : Prop :=
  ∃ a cap, RdW w r a cap bs s ∧ B ≤ r ∧ r < T ∧ ∀ g off, a = some ⟨g, off, none⟩ → B ≤ g ∧ g < T ∧ g < w.heap.size
theorem RdX.frame {B T : Nat} {w w' : World} {r : Nat} {bs : List UInt8} {s : RS} (h : RdX B T w r bs s) (hs : w.heap.size ≤ w'.heap.size) (hb : ∀ k, B ≤ k → k < T → k < w.heap.size → w'.heap[k]? = w.heap[k]?) : RdX B T w' r bs s := by
  obtain ⟨a, cap, hr, h1, h2, h3⟩ := h
  exact ⟨a, cap, hr.frame hs (hb r h1 h2 hr.lt) (fun g off ha => hb g (h3 g off ha).1 (h3 g off ha).2.1 (h3 g off ha).2.2), h1, h2, fun g off ha => ⟨(h3 g off ha).1, (h3 g off ha).2.1, Nat.lt_of_lt_of_le (h3 g off ha).2.2 hs⟩⟩
theorem RdX.ext {B T : Nat} {w w' : World} {r : Nat} {bs : List UInt8} {s : RS} (h : RdX B T w r bs s) (hx : Ext w w') : RdX B T w' r bs s := h.frame hx.size (fun k _ _ hk => Below.block hx k hk)
theorem RdX.keep {B T : Nat} {w w' : World} {r r' : Nat} {bs : List UInt8} {s : RS} (h : RdX B T w r bs s) (hk : KeepR r' w w') (hr : r' < B ∨ T ≤ r') : RdX B T w' r bs s :=
  h.frame hk.size (fun k h1 h2 hl => hk.block k hl (by omega))
theorem RdX.up {B T T' : Nat} {w : World} {r : Nat} {bs : List UInt8} {s : RS} (h : RdX B T w r bs s) (ht : T ≤ T') : RdX B T' w r bs s := by
  obtain ⟨a, cap, hr, h1, h2, h3⟩ := h
  exact ⟨a, cap, hr, h1, by omega, fun g off ha => ⟨(h3 g off ha).1, by have := (h3 g off ha).2.1; omega, (h3 g off ha).2.2⟩⟩
theorem RdX.low {B B' T : Nat} {w : World} {r : Nat} {bs : List UInt8} {s : RS} (h : RdX B T w r bs s) (ht : B' ≤ B) : RdX B' T w r bs s := by
  obtain ⟨a, cap, hr, h1, h2, h3⟩ := h
  exact ⟨a, cap, hr, by omega, by omega, fun g off ha => ⟨by have := (h3 g off ha).1; omega, (h3 g off ha).2⟩⟩
theorem RdX.r_in {B T : Nat} {w : World} {r : Nat} {bs : List UInt8} {s : RS} (h : RdX B T w r bs s) : B ≤ r ∧ r < T ∧ r < w.heap.size ∧ s.at_ ≤ bs.length ∧ bs.length ≤ 140737488355328 := by
  obtain ⟨a, cap, hr, h1, h2, h3⟩ := h
  exact ⟨h1, h2, hr.lt, hr.ok, hr.mx⟩
/-- A reader of the call's own was turned: nothing that was there has. -/
theorem Ext.keep {a b c : World} {r : Nat} (h : Ext a b) (hk : KeepR r b c) (hr : a.heap.size ≤ r) : Ext a c := Below.trans h (hk.below hr h.size)

section
variable {B T : Nat} {r : Nat} {bs : List UInt8} {s : RS} {w : World}
theorem num_x (h : RdX B T w r bs s) : Calls Try.prog 17 #[.pointer (some ⟨r, 0, none⟩)] w fun x w' => x = .returned (.int .i64 (rNum bs s).1) ∧ RdX B T w' r bs (rNum bs s).2 ∧ KeepR r w w' := by
  obtain ⟨a, cap, hr, h1, h2, h3⟩ := h
  exact (rnum_any r a cap bs s w hr).mono fun e w' ⟨he, hr2, hk⟩ => ⟨he, ⟨a, cap, hr2, h1, h2, fun g off ha => ⟨(h3 g off ha).1, (h3 g off ha).2.1, Nat.lt_of_lt_of_le (h3 g off ha).2.2 hk.size⟩⟩, hk⟩
theorem within_x (h : RdX B T w r bs s) (lo hi : Int) : Calls Try.prog 53 #[.pointer (some ⟨r, 0, none⟩), .int .i64 lo, .int .i64 hi] w fun x w' => x = .returned (.int .i64 (rWithin bs s lo hi).1) ∧ RdX B T w' r bs (rWithin bs s lo hi).2 ∧ KeepR r w w' := by
  obtain ⟨a, cap, hr, h1, h2, h3⟩ := h
  exact (rwithin_any r a cap bs s lo hi w hr).mono fun e w' ⟨he, hr2, hk⟩ => ⟨he, ⟨a, cap, hr2, h1, h2, fun g off ha => ⟨(h3 g off ha).1, (h3 g off ha).2.1, Nat.lt_of_lt_of_le (h3 g off ha).2.2 hk.size⟩⟩, hk⟩
theorem count_x (h : RdX B T w r bs s) (most : Int) : Calls Try.prog 50 #[.pointer (some ⟨r, 0, none⟩), .int .i64 most] w fun x w' => x = .returned (.int .i64 (rCount bs s most).1) ∧ RdX B T w' r bs (rCount bs s most).2 ∧ KeepR r w w' := by
  obtain ⟨a, cap, hr, h1, h2, h3⟩ := h
  exact (rcount_any r a cap bs s most w hr).mono fun e w' ⟨he, hr2, hk⟩ => ⟨he, ⟨a, cap, hr2, h1, h2, fun g off ha => ⟨(h3 g off ha).1, (h3 g off ha).2.1, Nat.lt_of_lt_of_le (h3 g off ha).2.2 hk.size⟩⟩, hk⟩
theorem text_x (h : RdX B T w r bs s) (most : Int) : Calls Try.prog 48 #[.pointer (some ⟨r, 0, none⟩), .int .i64 most] w fun x w' => x = .returned (.string ⟨(rText bs s most).1.toArray⟩) ∧ RdX B T w' r bs (rText bs s most).2 ∧ KeepR r w w' := by
  obtain ⟨a, cap, hr, h1, h2, h3⟩ := h
  exact (rtext_any r a cap bs s most w hr).mono fun e w' ⟨he, hr2, hk⟩ => ⟨he, ⟨a, cap, hr2, h1, h2, fun g off ha => ⟨(h3 g off ha).1, (h3 g off ha).2.1, Nat.lt_of_lt_of_le (h3 g off ha).2.2 hk.size⟩⟩, hk⟩
theorem end_x (h : RdX B T w r bs s) : Calls Try.prog 34 #[.pointer (some ⟨r, 0, none⟩)] w fun x w' => x = .returned (.int .i64 (rEnd bs s).err) ∧ RdX B T w' r bs (rEnd bs s) ∧ KeepR r w w' := by
  obtain ⟨a, cap, hr, h1, h2, h3⟩ := h
  exact (rend_any r a cap bs s w hr).mono fun e w' ⟨he, hr2, hk⟩ => ⟨he, ⟨a, cap, hr2, h1, h2, fun g off ha => ⟨(h3 g off ha).1, (h3 g off ha).2.1, Nat.lt_of_lt_of_le (h3 g off ha).2.2 hk.size⟩⟩, hk⟩
theorem err_x (h : RdX B T w r bs s) : Calls Try.prog 18 #[.pointer (some ⟨r, 0, none⟩)] w fun x w' => x = .returned (.int .i64 s.err) ∧ w = w' := by
  obtain ⟨a, cap, hr, h1, h2, h3⟩ := h
  exact rerr_any r a cap bs s w hr
theorem at_x (h : RdX B T w r bs s) : Calls Try.prog 20 #[.pointer (some ⟨r, 0, none⟩)] w fun x w' => x = .returned (.int .i64 (s.at_ : Int)) ∧ w = w' := by
  obtain ⟨a, cap, hr, h1, h2, h3⟩ := h
  exact rat_any r a cap bs s w hr
end

/-- What a new reader is made of. -/
theorem RdX.new {te td : TypeId} {w w' : World} {B : Nat} {v : Value} {l : List UInt8} (ho : Own8 te w B v l) (hl : l.length ≤ 140737488355328) (hB : B ≤ w.heap.size) (hx : Ext (w.alloc (.cells #[v, .int .i64 0, .int .i64 0] td)) w') : RdX B (w.heap.size + 1) w' w.heap.size l ⟨0, 0⟩ := by
  obtain ⟨hc, hf⟩ := Ext.bc hx
  have hz := hx.size
  simp only [World.size_alloc] at hz
  have hb : ∀ o, w'.cell? ⟨w.heap.size, o, none⟩ = (#[v, .int .i64 0, .int .i64 0] : Array Value)[o]? := fun o => by
    rw [hc _ _ (by simp)]; simp [go_sem]
  have hfz : ∀ o, w'.frozen? ⟨w.heap.size, o, none⟩ = false := fun o => by
    rw [hf _ _ (by simp)]
    have hh := heap_alloc_new w (.cells #[v, .int .i64 0, .int .i64 0] td)
    simp only [World.frozen?, hh]
    simp
  have mk : ∀ a cap, v = .slice a l.length cap → l.length ≤ cap → cap ≤ maxLen → ((l.length = 0 ∧ a = none ∧ cap = 0) ∨ ∃ g off, a = some ⟨g, off, none⟩ ∧ g ≠ w.heap.size ∧ g < w'.heap.size ∧ ∀ j, j < l.length → w'.cell? ⟨g, off + j, none⟩ = (l.map bcell)[j]?) →
      RdW w' w.heap.size a cap l ⟨0, 0⟩ := fun a cap hv h1 h2 h3 => ⟨by rw [hb, ← hv]; rfl, by rw [hb]; rfl, by rw [hb]; rfl, hfz 0, hfz 1, hfz 2, by omega, Nat.zero_le _, hl, h1, h2, h3⟩
  have ho0 := ho
  obtain ⟨_, h2⟩ := ho
  rcases h2 with ⟨rfl, h0⟩ | ⟨g, cap, cur, rfl, h3, h4, h5, h6, h7, h8⟩
  · have hm := mk none 0 (by rw [h0]) (by omega) (Nat.zero_le _) (.inl ⟨h0, rfl, rfl⟩)
    exact ⟨none, 0, hm, hB, by omega, fun g off hg => by cases hg⟩
  · have hg : g < w.heap.size := (Array.getElem?_eq_some_iff.1 h4).1
    have hm := mk (some ⟨g, 0, none⟩) cap rfl h5 h6 (.inr ⟨g, 0, rfl, by omega, by omega, fun j hj => by
      rw [hc _ _ (by simp; omega), Ext.cell ((Ext.refl w).alloc _) (p := ⟨g, 0 + j, none⟩) hg]
      simp only [World.cell?, h4, Nat.zero_add]
      rw [← h8, List.getElem?_take_of_lt (by omega)]
      simp⟩)
    refine ⟨_, _, hm, hB, by omega, fun g' off' hg' => ?_⟩
    simp only [Option.some.injEq, Addr.mk.injEq] at hg'
    omega

set_option maxHeartbeats 1000000 in
set_option maxRecDepth 100000 in
theorem read_new (v : Value) (l : List UInt8) (w : World) (hr : Rd8 w v l) (h2 : l.length ≤ 140737488355328) :
    Calls Try.prog 16 #[v] w fun e w' => ∃ r, e = .returned (.pointer (some ⟨r, 0, none⟩)) ∧ RdX w.heap.size w'.heap.size w' r l ⟨0, 0⟩ ∧ Ext w w' := by
  obtain ⟨i0, hi, hz0, hz1, hz2⟩ := info_parts Try.infoU8
  have hs := src_of_slr (P := Try.prog) Try.underlying55 hr (bcell_one l)
  have hn := World.ownsRow_nil w w.heap.size 5 1
  have hr0 := hr
  obtain ⟨_, _, a, cap, rfl, _⟩ := hr0
  go_enter Try.func16, Try.ntmps16
  go_wp2_with (at_builtin; refine wpList_own_src _ rfl _ _ 55 55 rfl w.heap.size 5 i0 (.int .u8 0) 1 1 Try.underlying55 hi hz0 hz1 hz2 rfl (by decide) _ _ _ _ _ _ hn hs rfl rfl ?c1 ?c2 ?c3 ?_)
  case c1 => unfold maxLen; omega
  case c2 => omega
  case c3 => exact Nat.le_refl _
  intro v' w1 ho hb
  have R : Own8 5 w1 w.heap.size v' l := own8_of ho (by simp) (by simp)
  clear ho
  have hform : ∃ a cap, v' = .slice a l.length cap := by
    rcases R.2 with ⟨rfl, h0⟩ | ⟨g, cap, cur, rfl, _⟩
    · exact ⟨none, 0, by rw [h0]⟩
    · exact ⟨_, _, rfl⟩
  obtain ⟨a, cap, rfl⟩ := hform
  have hx : Ext w w1 := hb
  go_wp2
  go_ret
  refine ⟨w1.heap.size, rfl, ?_, hx.alloc _⟩
  simpa using RdX.new R h2 hx.size (Ext.refl _)
end Go.Proofs.Ytochgmpcdmahkaa
