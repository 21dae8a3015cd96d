/- A net in memory: its struct, its row of bytes, which blocks are its own. -/
import Derived.Test.YtognipephfedkaaLetT
import Derived.Test.YtognipephfedkaaCopy
import Derived.Deep.RegionHeld3
namespace Go.Proofs.Ytognipephfedkaa
open Go.RowKit
section

/-- All but the blocks of a class is as it was. -/
structure KeepS (S : Nat → Prop) (w w' : World) : Prop where
  os : w'.os = w.os
  tape : w'.tape = w.tape
  output : w'.output = w.output
  size : w.heap.size ≤ w'.heap.size
  block : ∀ k, k < w.heap.size → ¬ S k → w'.heap[k]? = w.heap[k]?
theorem KeepS.refl (S : Nat → Prop) (w : World) : KeepS S w w := ⟨rfl, rfl, rfl, Nat.le_refl _, fun _ _ _ => rfl⟩
theorem KeepS.trans {S : Nat → Prop} {a b c : World} (h : KeepS S a b) (k : KeepS S b c) : KeepS S a c :=
  ⟨k.os.trans h.os, k.tape.trans h.tape, k.output.trans h.output, Nat.le_trans h.size k.size, fun i hi hs => (k.block i (Nat.lt_of_lt_of_le hi h.size) hs).trans (h.block i hi hs)⟩
theorem KeepS.of_ext {S : Nat → Prop} {a b : World} (h : Ext a b) : KeepS S a b := ⟨Below.os h, Below.tape h, Below.output h, h.size, fun k hk _ => Below.block h k hk⟩
theorem KeepS.of_keep {S : Nat → Prop} {r : Nat} {a b : World} (h : KeepR r a b) (hr : S r) : KeepS S a b := ⟨h.os, h.tape, h.output, h.size, fun k hk hs => h.block k hk (fun he => hs (he ▸ hr))⟩
theorem KeepS.mono {S S' : Nat → Prop} {a b : World} (h : KeepS S a b) (hs : ∀ k, k < a.heap.size → S k → S' k) : KeepS S' a b := ⟨h.os, h.tape, h.output, h.size, fun k hk hn => h.block k hk (fun he => hn (hs k hk he))⟩
theorem KeepS.ext {S : Nat → Prop} {w a b : World} (h : KeepS S a b) (hx : Ext w a) (hB : ∀ k, S k → w.heap.size ≤ k) : Ext w b :=
  ⟨h.os.trans (Below.os hx), h.tape.trans (Below.tape hx), h.output.trans (Below.output hx), Nat.le_trans hx.size h.size, fun k hk => (h.block k (Nat.lt_of_lt_of_le hk hx.size) (fun hs => Nat.lt_irrefl _ (Nat.lt_of_lt_of_le hk (hB k hs)))).trans (Below.block hx k hk)⟩
/-- A call that is known to leave a class alone, met behind others. -/
theorem KeepS.after {S S' : Nat → Prop} {a b c : World} (h : KeepS S a b) (k : KeepS S' b c) (hs : ∀ i, i < a.heap.size → S' i → S i) : KeepS S a c :=
  ⟨k.os.trans h.os, k.tape.trans h.tape, k.output.trans h.output, Nat.le_trans h.size k.size, fun i hi hn => (k.block i (Nat.lt_of_lt_of_le hi h.size) (fun he => hn (hs i hi he))).trans (h.block i hi hn)⟩
/-- The class grown by what came new. -/
def up (S : Nat → Prop) (w w' : World) : Nat → Prop := fun k => S k ∨ (w.heap.size ≤ k ∧ k < w'.heap.size)
theorem rd8_keep {w w' : World} {u : Value} {l : List UInt8} (h : Rd8 w u l) (hs : w.heap.size ≤ w'.heap.size) (hk : ∀ a n c, u = .slice (some a) n c → w'.heap[a.block]? = w.heap[a.block]?) : Rd8 w' u l := by
  obtain ⟨h1, h2, a, cap, rfl, h3⟩ := h
  refine ⟨h1, h2, a, cap, rfl, ?_⟩
  rcases h3 with h3 | ⟨b, off, rfl, hlt, hc⟩
  · exact .inl h3
  · refine .inr ⟨b, off, rfl, Nat.lt_of_lt_of_le hlt hs, fun j hj => ?_⟩
    rw [World.cell?_of_block (a := ⟨b, off + j, none⟩) (hk ⟨b, off, none⟩ _ _ rfl)]
    exact hc j hj
theorem own_notBlk {w : World} {B e s n : Nat} {u : Value} {xs : List Value} (h : w.ownsRow B e s u n xs) (k : Nat) (hk : w.heap.size ≤ k ∨ k < B) : notBlk u k := by
  intro a m c he hb
  have := own_blkE h a m c he
  omega
theorem nil_notBlk (k : Nat) : notBlk (.slice none 0 0) k := fun _ _ _ he => by cases he
structure RowOk (S : Nat → Prop) (b : Nat) (v : Value) (w : World) (u : Value) (l : List UInt8) : Prop where
  rd : Rd8 w u l
  is : ∀ a n c, u = .slice (some a) n c → S a.block ∧ a.block ≠ b ∧ notBlk v a.block
  one : u.oneCell' = true
structure NI (T : TypeId) (S : Nat → Prop) (w : World) (b : Nat) (ls : List (List UInt8)) (side : Int) (v : Value) (vs : List Value) : Prop where
  low : ∀ k, S k → k < w.heap.size
  sb : S b
  blk : w.heap[b]? = some (.cells #[v, .int .i64 side] T (0, 0))
  own : w.ownsRow 0 53 1 v ls.length vs
  sv : ∀ a n c, v = .slice (some a) n c → S a.block ∧ a.block ≠ b
  rows : ∀ i (h : i < ls.length), ∃ u, vs[i]? = some u ∧ RowOk S b v w u ls[i]
def NetP (T : TypeId) (S : Nat → Prop) (w : World) (b : Nat) (ls : List (List UInt8)) (side : Int) : Prop := ∃ v vs, NI T S w b ls side v vs
variable {T : TypeId} {S S' : Nat → Prop} {w w' : World} {b : Nat} {ls : List (List UInt8)} {side : Int} {v : Value} {vs : List Value}
theorem NI.len (h : NI T S w b ls side v vs) : vs.length = ls.length := by have := h.own.1; simpa using this
theorem NI.form (h : NI T S w b ls side v vs) : ∃ a c, v = .slice a ls.length c ∧ ls.length ≤ c ∧ c ≤ maxLen := by
  obtain ⟨h1, h2⟩ := h.own
  rcases h2 with ⟨rfl, h0⟩ | ⟨g, cap, cur, rfl, hg, hh, hn, hcap, hsz, ht⟩
  · rw [h0]
    exact ⟨none, 0, rfl, Nat.le_refl _, Nat.zero_le _⟩
  · exact ⟨_, cap, rfl, hn, by omega⟩
/-- Another's work leaves it as it is. -/
theorem NI.keep (h : NI T S w b ls side v vs) (hk : KeepS S' w w') (hd : ∀ k, S k → ¬ S' k) : NI T S w' b ls side v vs := by
  have hb : ∀ k, S k → w'.heap[k]? = w.heap[k]? := fun k hs => hk.block k (h.low k hs) (hd k hs)
  refine ⟨fun k hs => Nat.lt_of_lt_of_le (h.low k hs) hk.size, h.sb, (hb b h.sb).trans h.blk, own_keepE h.own (fun a n c he => hb _ (h.sv a n c he).1), h.sv, fun i hi => ?_⟩
  obtain ⟨u, h1, h2⟩ := h.rows i hi
  exact ⟨u, h1, rd8_keep h2.rd hk.size (fun a n c he => hb _ (h2.is a n c he).1), h2.is, h2.one⟩
theorem NI.ext (h : NI T S w b ls side v vs) (hx : Ext w w') : NI T S w' b ls side v vs :=
  h.keep (S' := fun _ => False) (KeepS.of_ext hx) (fun _ _ hf => hf)
theorem NI.up (h : NI T S w b ls side v vs) (hs : ∀ k, S k → S' k) (hl : ∀ k, S' k → k < w.heap.size) : NI T S' w b ls side v vs := by
  refine ⟨hl, hs _ h.sb, h.blk, h.own, fun a n c he => ⟨hs _ (h.sv a n c he).1, (h.sv a n c he).2⟩, fun i hi => ?_⟩
  obtain ⟨u, h1, h2⟩ := h.rows i hi
  exact ⟨u, h1, h2.rd, fun a n c he => ⟨hs _ (h2.is a n c he).1, (h2.is a n c he).2⟩, h2.one⟩
theorem NetP.keep (h : NetP T S w b ls side) (hk : KeepS S' w w') (hd : ∀ k, S k → ¬ S' k) : NetP T S w' b ls side := by
  obtain ⟨v, vs, h⟩ := h
  exact ⟨v, vs, h.keep hk hd⟩
theorem NetP.ext (h : NetP T S w b ls side) (hx : Ext w w') : NetP T S w' b ls side := by
  obtain ⟨v, vs, h⟩ := h
  exact ⟨v, vs, h.ext hx⟩
theorem NetP.low (h : NetP T S w b ls side) : ∀ k, S k → k < w.heap.size := by
  obtain ⟨v, vs, h⟩ := h
  exact h.low
theorem NetP.sb (h : NetP T S w b ls side) : S b := by
  obtain ⟨v, vs, h⟩ := h
  exact h.sb
theorem NetP.upto (h : NetP T S w b ls side) (hx : Ext w w') : NetP T (Go.Proofs.Ytognipephfedkaa.up S w w') w' b ls side := by
  obtain ⟨v, vs, h⟩ := h
  exact ⟨v, vs, (h.ext hx).up (fun k hs => .inl hs) (fun k hs => by
    rcases hs with hs | hs
    · exact Nat.lt_of_lt_of_le (h.low k hs) hx.size
    · exact hs.2)⟩
theorem up_low (hl : ∀ k, S k → k < w.heap.size) (hs : w.heap.size ≤ w'.heap.size) : ∀ k, up S w w' k → k < w'.heap.size := by
  rintro k (h | h)
  · exact Nat.lt_of_lt_of_le (hl k h) hs
  · exact h.2
theorem up_dis (hd : ∀ k, S k → ¬ S' k) (hl : ∀ k, S' k → k < w.heap.size) : ∀ k, up S w w' k → ¬ S' k := by
  rintro k (h | h) h2
  · exact hd k h h2
  · have := hl k h2
    omega
theorem up_dis2 (hd : ∀ k, S k → ¬ S' k) (hl : ∀ k, S k → k < w.heap.size) : ∀ k, S k → ¬ up S' w w' k := by
  rintro k h (h2 | h2)
  · exact hd k h h2
  · have := hl k h
    omega
theorem up_base {B : Nat} (hB : ∀ k, S k → B ≤ k) (hw : B ≤ w.heap.size) : ∀ k, up S w w' k → B ≤ k := by
  rintro k (h | h)
  · exact hB k h
  · omega
/-- The numbers of a place. -/
def placeN (k : Int) (n : Nat) : Int := if n = 0 then -1 else k % (n : Int)
theorem placeN_bd (k : Int) (n : Nat) (hn : n ≠ 0) : 0 ≤ placeN k n ∧ placeN k n < n := by
  unfold placeN
  rw [if_neg hn]
  exact ⟨Int.emod_nonneg _ (by omega), Int.emod_lt_of_pos _ (by omega)⟩
end
section

abbrev NT : TypeId := 52
abbrev RT : TypeId := 40
theorem nnew (w : World) : Calls Try.prog 6 #[] w fun e w' => e = .returned (.pointer (some ⟨w.heap.size, 0, none⟩)) ∧ NetP NT (fun k => k = w.heap.size) w' w.heap.size [] 0 ∧ Ext w w' := by
  go_enter Try.func6, Try.ntmps6
  go_wp2
  go_ret
  refine ⟨rfl, ⟨.slice none 0 0, [], ?_⟩, (by repeat (first | exact Ext.refl _ | assumption | refine Ext.trans ?_ (by assumption) | refine Ext.alloc ?_ _ | refine Ext.drew ?_ | refine Ext.drewN ?_ _))⟩
  exact ⟨fun k hk => by subst hk; simp, rfl, new_blk w _, World.ownsRow_nil _ _ _ _, (fun a n c he => by cases he), (fun i hi => by simp at hi)⟩
section
variable {S : Nat → Prop} {w : World} {b : Nat} {ls : List (List UInt8)} {side : Int} {v : Value} {vs : List Value}
theorem nlen (h : NetP NT S w b ls side) : Calls Try.prog 9 #[.pointer (some ⟨b, 0, none⟩)] w fun e w' => e = .returned (.int .i64 (ls.length : Int)) ∧ w = w' := by
  obtain ⟨v, vs, h⟩ := h
  obtain ⟨a, c, rfl, _, _⟩ := h.form
  obtain ⟨c0, _⟩ := blkG h.blk 0 _ rfl
  clear h
  go_enter Try.func9, Try.ntmps9
  go_wp2
  go_ret
  exact ⟨rfl, rfl⟩
theorem and127i (x : Int) : bits .and .i64 x 127 = x % 128 := by
  have e0 : bits .and .i64 x 127 = IntKind.i64.wrap ((BitVec.ofInt 64 x &&& BitVec.ofInt 64 127).toNat : Nat) := rfl
  have h : (BitVec.ofInt 64 x &&& BitVec.ofInt 64 127).toNat = (x % 128).toNat := by
    rw [BitVec.toNat_and, BitVec.toNat_ofInt, BitVec.toNat_ofInt]
    have e : ((127 : Int) % (2 ^ 64 : Nat)).toNat = 2 ^ 7 - 1 := by decide
    rw [e, Nat.and_two_pow_sub_one_eq_mod]
    omega
  rw [e0, h]
  have h2 : 0 ≤ x % 128 ∧ x % 128 < 128 := by omega
  generalize x % 128 = y at *
  rw [IntKind.wrap_i64]
  omega
theorem nsplit (h : NetP NT S w b ls side) (k : Int) : Calls Try.prog 12 #[.pointer (some ⟨b, 0, none⟩), .int .i64 k] w fun e w' => e = .returned (.tuple #[]) ∧ NetP NT S w' b ls (k % 128) ∧ KeepS S w w' := by
  obtain ⟨v, vs, h⟩ := h
  have H := Lib.hid h
  obtain ⟨c1, f1⟩ := blkG h.blk 1 _ rfl
  have e1 := and127i k
  have hk : KeepS S w (w.setCell ⟨b, 1, none⟩ (.int .i64 (k % 128))) := KeepS.of_keep ((KeepR.refl b w).set (o := 1) _) h.sb
  have hb : (w.setCell ⟨b, 1, none⟩ (.int .i64 (k % 128))).heap[b]? = some (.cells #[v, .int .i64 (k % 128)] NT (0, 0)) := heap_setCell_same _ _ 1 _ _ (.int .i64 (k % 128)) h.blk
  have hlt := blk_lt h.blk
  have HK := Lib.hid hk
  have HB := Lib.hid hb
  clear h hk hb
  go_enter Try.func12, Try.ntmps12
  go_wp2
  go_end0
  refine ⟨rfl, ⟨v, vs, ?_⟩, HK.out⟩
  have h := H.out
  refine ⟨fun q hq => Nat.lt_of_lt_of_le (h.low q hq) HK.out.size, h.sb, HB.out, own_keepE h.own (fun a n c he => Below.heap_setCell _ _ _ _ (h.sv a n c he).2), h.sv, fun i hi => ?_⟩
  obtain ⟨u, h1, h2⟩ := h.rows i hi
  exact ⟨u, h1, rd8_keep h2.rd HK.out.size (fun a n c he => Below.heap_setCell _ _ _ _ (h2.is a n c he).2.1), h2.is, h2.one⟩
theorem place_law (k : Int) (n : Nat) (hn : n ≠ 0) : (k.tmod (n : Int) + (n : Int)).tmod (n : Int) = k % (n : Int) ∧ -(n : Int) < k.tmod (n : Int) ∧ k.tmod (n : Int) < n := by
  have h1 := Int.emod_nonneg k (by omega : (n : Int) ≠ 0)
  have h2 := Int.emod_lt_of_pos k (by omega : 0 < (n : Int))
  have h3 : k.tmod n = k % n ∨ k.tmod n = k % n - n := by
    rw [Int.tmod_eq_emod]
    split
    · left; omega
    · right; rw [Int.natAbs_of_nonneg (by omega)]
  have h4 : -(n : Int) < k.tmod n := by
    have := Int.lt_tmod_of_pos k (by omega : 0 < (n : Int))
    exact this
  have h5 := Int.tmod_lt_of_pos k (by omega : 0 < (n : Int))
  refine ⟨?_, h4, h5⟩
  rw [Int.tmod_eq_emod_of_nonneg (by omega), Int.add_emod_right]
  rcases h3 with h3 | h3
  · rw [h3, Int.emod_emod]
  · rw [h3, Int.sub_emod_right, Int.emod_emod]
theorem tmod_pl (k : Int) (n : Nat) (hn : n ≠ 0) : (0 ≤ k.tmod n ∧ k % (n : Int) = k.tmod n) ∨ (k.tmod n < 0 ∧ k % (n : Int) = k.tmod n + n) := by
  have h1 := Int.emod_nonneg k (by omega : (n : Int) ≠ 0)
  have h2 := Int.emod_lt_of_pos k (by omega : 0 < (n : Int))
  have h3 : k.tmod n = k % n ∨ k.tmod n = k % n - n := by
    rw [Int.tmod_eq_emod]
    split
    · left; omega
    · right; rw [Int.natAbs_of_nonneg (by omega)]
  omega
theorem nplace (h : NetP NT S w b ls side) (k : Int) (hm : ls.length ≤ 1000000) : Calls Try.prog 20 #[.pointer (some ⟨b, 0, none⟩), .int .i64 k] w fun e w' => e = .returned (.int .i64 (placeN k ls.length)) ∧ w = w' := by
  obtain ⟨v, vs, h⟩ := h
  obtain ⟨a, c, rfl, _, _⟩ := h.form
  obtain ⟨c0, _⟩ := blkG h.blk 0 _ rfl
  clear h
  obtain ⟨n, hn⟩ : ∃ n, ls.length = n := ⟨_, rfl⟩
  rw [hn] at c0 hm ⊢
  clear hn
  by_cases h0 : n = 0
  · subst h0
    go_enter Try.func20, Try.ntmps20
    go_wp2
    go_ret
    exact ⟨rfl, rfl⟩
  · obtain ⟨p1, p2, p3⟩ := place_law k n h0
    have q0 : ((n : Int) == 0) = false := by simp; omega
    have q1 : ¬ (n : Int) = 0 := by omega
    have q2 : IntKind.i64.wrap (k.tmod n + n) = k.tmod n + n := by rw [IntKind.wrap_i64]; omega
    have HP : Hid (placeN k n = (k.tmod (n : Int) + (n : Int)) % (n : Int)) := Lib.hid (by unfold placeN; rw [if_neg h0, ← p1, Int.tmod_eq_emod_of_nonneg (by omega)])
    rw [HP.out]
    clear p1
    go_enter Try.func20, Try.ntmps20
    go_wp2
    go_ret
    exact ⟨rfl, rfl⟩
theorem rplace (h : NetP RT S w b ls side) (k : Int) (hm : ls.length ≤ 1000000) : Calls Try.prog 25 #[.pointer (some ⟨b, 0, none⟩), .int .i64 k] w fun e w' => e = .returned (.int .i64 (placeN k ls.length)) ∧ w = w' := by
  obtain ⟨v, vs, h⟩ := h
  obtain ⟨a, c, rfl, _, _⟩ := h.form
  obtain ⟨c0, _⟩ := blkG h.blk 0 _ rfl
  clear h
  obtain ⟨n, hn⟩ : ∃ n, ls.length = n := ⟨_, rfl⟩
  rw [hn] at c0 hm ⊢
  clear hn
  by_cases h0 : n = 0
  · subst h0
    go_enter Try.func25, Try.ntmps25
    go_wp2
    go_ret
    exact ⟨rfl, rfl⟩
  · obtain ⟨_, p2, p3⟩ := place_law k n h0
    have q0 : ((n : Int) == 0) = false := by simp; omega
    have q1 : ¬ (n : Int) = 0 := by omega
    have t := tmod_pl k n h0
    by_cases hneg : k.tmod (n : Int) < 0
    · have q2 : IntKind.i64.wrap (k.tmod n + n) = k.tmod n + n := by rw [IntKind.wrap_i64]; omega
      have HP : Hid (placeN k n = k.tmod (n : Int) + (n : Int)) := Lib.hid (by unfold placeN; rw [if_neg h0]; omega)
      rw [HP.out]
      clear t
      go_enter Try.func25, Try.ntmps25
      go_wp2
      go_ret
      exact ⟨rfl, rfl⟩
    · have HP : Hid (placeN k n = k.tmod (n : Int)) := Lib.hid (by unfold placeN; rw [if_neg h0]; omega)
      rw [HP.out]
      clear t
      go_enter Try.func25, Try.ntmps25
      go_wp2
      go_ret
      exact ⟨rfl, rfl⟩
end
end
end Go.Proofs.Ytognipephfedkaa
