/- Plain law: what a reader makes of bytes as a command; the contract of day. (Written by genCmdG.py.) -/
import Derived.Test.YtochgmpcdmahkaaCmdA
import Derived.Test.YtochgmpcdmahkaaPackU
import Derived.Test.YtochgmpcdmahkaaKeep
namespace Go.Proofs.Ytochgmpcdmahkaa
open Go.RowKit

def tR (bs : List UInt8) (s : RS) : ByteArray × RS := (⟨(rText bs s 64).1.toArray⟩, (rText bs s 64).2)
def dR (bs : List UInt8) (s : RS) : (Int × Int × Int) × RS :=
  (((rNum bs s).1, (rNum bs (rNum bs s).2).1, (rNum bs (rNum bs (rNum bs s).2).2).1), (rNum bs (rNum bs (rNum bs s).2).2).2)
def lnR (bs : List UInt8) (s : RS) : Ln × RS :=
  (⟨(tR bs s).1, (tR bs (tR bs s).2).1, (rNum bs (tR bs (tR bs s).2).2).1, (rNum bs (rNum bs (tR bs (tR bs s).2).2).2).1⟩, (rNum bs (rNum bs (tR bs (tR bs s).2).2).2).2)
def lnSt (bs : List UInt8) (s : RS) : Nat → RS
  | 0 => s
  | k + 1 => (lnR bs (lnSt bs s k)).2
def lnsAt (bs : List UInt8) (s : RS) (k : Nat) : List Ln := (List.range k).map fun i => (lnR bs (lnSt bs s i)).1
theorem lnsAt_succ (bs : List UInt8) (s : RS) (k : Nat) : lnsAt bs s (k + 1) = lnsAt bs s k ++ [(lnR bs (lnSt bs s k)).1] := by
  simp [lnsAt, List.range_succ]
theorem lnsAt_len (bs : List UInt8) (s : RS) (k : Nat) : (lnsAt bs s k).length = k := by simp [lnsAt]
def lcR (bs : List UInt8) (s : RS) : Nat × RS := ((rCount bs s 12).1.toNat, (rCount bs s 12).2)
/-- The fields of a kind. -/
def gR (bs : List UInt8) (k : Int) (s : RS) : Cm × List Ln × RS :=
  if k = 1 then (⟨1, (tR bs s).1, (rNum bs (tR bs s).2).1, ⟨#[]⟩, 0, 0, 0, 0, 0, 0, 0, ⟨#[]⟩, 0, 0⟩, [], (rNum bs (tR bs s).2).2)
  else if k = 2 then (⟨2, (tR bs s).1, 0, ⟨#[]⟩, 0, 0, 0, 0, 0, 0, 0, ⟨#[]⟩, 0, 0⟩, [], (tR bs s).2)
  else if k = 3 then (⟨3, ⟨#[]⟩, 0, (tR bs s).1, (dR bs (tR bs s).2).1.1, (dR bs (tR bs s).2).1.2.1, (dR bs (tR bs s).2).1.2.2, (rNum bs (dR bs (tR bs s).2).2).1, 0, 0, 0, ⟨#[]⟩, 0, 0⟩, [], (rNum bs (dR bs (tR bs s).2).2).2)
  else   if k = 4 then (⟨4, (tR bs s).1, 0, ⟨#[]⟩, 0, 0, 0, 0, (dR bs (tR bs s).2).1.1, (dR bs (tR bs s).2).1.2.1, (dR bs (tR bs s).2).1.2.2, ⟨#[]⟩, 0, 0⟩, lnsAt bs (lcR bs (dR bs (tR bs s).2).2).2 (lcR bs (dR bs (tR bs s).2).2).1, lnSt bs (lcR bs (dR bs (tR bs s).2).2).2 (lcR bs (dR bs (tR bs s).2).2).1)
  else if k = 5 then (⟨5, (tR bs s).1, 0, ⟨#[]⟩, 0, 0, 0, 0, (dR bs (tR bs s).2).1.1, (dR bs (tR bs s).2).1.2.1, (dR bs (tR bs s).2).1.2.2, (tR bs (dR bs (tR bs s).2).2).1, (rNum bs (tR bs (dR bs (tR bs s).2).2).2).1, 0⟩, [], (rNum bs (tR bs (dR bs (tR bs s).2).2).2).2)
  else if k = 6 then (⟨6, ⟨#[]⟩, 0, ⟨#[]⟩, 0, 0, 0, 0, 0, 0, 0, ⟨#[]⟩, 0, 0⟩, [], s)
  else if k = 7 then (⟨7, ⟨#[]⟩, 0, ⟨#[]⟩, 0, 0, 0, 0, 0, 0, 0, ⟨#[]⟩, 0, (rNum bs s).1⟩, [], (rNum bs s).2)
  else if k = 8 then (⟨8, (tR bs s).1, 0, ⟨#[]⟩, 0, 0, 0, 0, 0, 0, 0, ⟨#[]⟩, 0, 0⟩, [], (tR bs s).2)
  else (Cm.z, [], s)
theorem rText64 (bs : List UInt8) (s : RS) : (tR bs s).1.size ≤ 64 := by
  have key : (rText bs s 64).1.length ≤ 64 := by
    unfold rText
    simp only []
    split
    · simp
    · split
      · simp
      · rename_i h _
        have := rWithin_in bs s 0 64 (by simpa using h)
        rw [List.length_take]
        omega
  simpa [tR, ByteArray.size] using key
theorem rNum_z (bs : List UInt8) (s : RS) (hs : (rNum bs s).2.err ≠ 0) : (rNum bs s).1 = 0 := by
  unfold rNum at hs ⊢
  split
  · rename_i h0
    rw [if_pos h0] at hs
    simp only [] at hs ⊢
    have dk : ∀ a f i u, (decF bs a f i u).2.2 ≠ 0 → (decF bs a f i u).1 = 0 := by
      intro a f
      induction f with
      | zero => intro i u _; rfl
      | succ f ih =>
        intro i u hh
        unfold decF at hh ⊢
        split
        · rename_i hlt
          rw [dif_pos hlt] at hh
          simp only [] at hh ⊢
          split
          · rfl
          · rename_i h1
            rw [if_neg h1] at hh
            split
            · rename_i h2
              rw [if_pos h2] at hh
              exact ih _ _ hh
            · rename_i h2
              rw [if_neg h2] at hh
              split
              · rfl
              · rename_i h3
                rw [if_neg h3] at hh
                exact absurd rfl hh
        · rfl
    exact dk _ _ _ _ hs
  · rfl
theorem rWithin_z (bs : List UInt8) (s : RS) (lo hi : Int) (h : (rWithin bs s lo hi).2.err ≠ 0) : (rWithin bs s lo hi).1 = 0 := by
  unfold rWithin at h ⊢
  simp only [] at h ⊢
  split
  · rfl
  · rename_i hc
    rw [if_neg hc] at h
    exact rNum_z bs s h
theorem rCount_bd (bs : List UInt8) (s : RS) (most : Nat) : 0 ≤ (rCount bs s most).1 ∧ (rCount bs s most).1 ≤ most := by
  unfold rCount
  simp only []
  split
  · exact ⟨Int.le_refl _, by simp⟩
  · by_cases h : (rWithin bs s 0 most).2.err = 0
    · exact rWithin_in bs s 0 most h
    · rw [rWithin_z bs s 0 most h]
      exact ⟨Int.le_refl _, by simp⟩
theorem lcR_is (bs : List UInt8) (s : RS) : (rCount bs s 12).1 = ((lcR bs s).1 : Int) ∧ (lcR bs s).1 ≤ 12 := by
  have := rCount_bd bs s 12
  have e : ((12 : Nat) : Int) = 12 := rfl
  rw [e] at this
  unfold lcR
  simp only
  omega
/-- The state of a reading: the reader, the command's cells, what else was there. -/
structure CI (w : World) (r p : Nat) (bs : List UInt8) (B T : Nat) (z : World) (A : Array Value) (s : RS) : Prop where
  rd : RdX B T z r bs s
  cb : z.heap[p]? = some (.cells A 33 (0, 0))
  kp : Keep2 r p w z
theorem CI.keep {w z y : World} {r p B T : Nat} {bs : List UInt8} {A : Array Value} {s s' : RS} (h : CI w r p bs B T z A s) (hrd : RdX B T y r bs s') (hk : KeepR r z y) (hne : p ≠ r) : CI w r p bs B T y A s' :=
  ⟨hrd, keep_blk hk h.cb hne, h.kp.trans (.of1 hk)⟩
theorem CI.set {w z : World} {r p B T : Nat} {bs : List UInt8} {A A' : Array Value} {s : RS} (h : CI w r p bs B T z A s) (o : Nat) (u : Value) (hT : T ≤ p) (hA : A.setIfInBounds o u = A') : CI w r p bs B T (z.setCell ⟨p, o, none⟩ u) A' s :=
  ⟨h.rd.keep ((KeepR.refl p z).set u) (.inr hT), by rw [heap_setCell_same _ _ _ _ _ _ h.cb, hA], h.kp.trans (.of2 ((KeepR.refl p z).set u))⟩
theorem CI.ext {w z y : World} {r p B T : Nat} {bs : List UInt8} {A : Array Value} {s : RS} (h : CI w r p bs B T z A s) (hx : Ext z y) : CI w r p bs B T y A s :=
  ⟨h.rd.ext hx, ext_blk hx h.cb, h.kp.trans (.of_ext hx)⟩
theorem CI.below {w z y : World} {r p B T C : Nat} {bs : List UInt8} {A : Array Value} {s : RS} (h : CI w r p bs B T z A s) (hb : Below C z y) (hT : T ≤ C) (hp : p < C) (hw : w.heap.size ≤ C) : CI w r p bs B T y A s :=
  ⟨h.rd.frame hb.size (fun k _ hk _ => Below.block hb k (by omega)), below_blk hb hp h.cb,
    ⟨hb.os.trans h.kp.os, hb.tape.trans h.kp.tape, hb.output.trans h.kp.output, Nat.le_trans h.kp.size hb.size, fun k hk hr hq => (Below.block hb k (by omega)).trans (h.kp.block k hk hr hq)⟩⟩
theorem KeepR.setN {r p o : Nat} {a b : World} (h : KeepR r a b) (hp : a.heap.size ≤ p) (u : Value) : KeepR r a (b.setCell ⟨p, o, none⟩ u) :=
  ⟨h.os, h.tape, h.output, by have := h.size; simpa [World.setCell] using this, fun k hk hr => (Below.heap_setCell b ⟨p, o, none⟩ u k (show k ≠ p by omega)).trans (h.block k hk hr)⟩
theorem Keep2.setN {r q p o : Nat} {a b : World} (h : Keep2 r q a b) (hp : a.heap.size ≤ p) (u : Value) : Keep2 r q a (b.setCell ⟨p, o, none⟩ u) :=
  ⟨h.os, h.tape, h.output, by have := h.size; simpa [World.setCell] using this, fun k hk hr hq => (Below.heap_setCell b ⟨p, o, none⟩ u k (show k ≠ p by omega)).trans (h.block k hk hr hq)⟩
theorem CI.setO {w z : World} {r p b B T : Nat} {bs : List UInt8} {A : Array Value} {s : RS} (h : CI w r p bs B T z A s) (o : Nat) (u : Value) (hT : T ≤ b) (hb : p ≠ b) (hw : w.heap.size ≤ b) : CI w r p bs B T (z.setCell ⟨b, o, none⟩ u) A s :=
  ⟨h.rd.keep ((KeepR.refl b z).set u) (.inr hT), set_blk h.cb hb, h.kp.setN hw u⟩
section
variable {B T : Nat} {r : Nat} {bs : List UInt8} {s : RS} {w : World}
theorem tx_x (h : RdX B T w r bs s) {t : ByteArray} {s' : RS} (e : tR bs s = (t, s')) : Calls Try.prog 48 #[.pointer (some ⟨r, 0, none⟩), .int .i64 64] w fun x w' => x = .returned (.string t) ∧ RdX B T w' r bs s' ∧ KeepR r w w' := by
  have := text_x h 64
  unfold tR at e
  simp only [Prod.mk.injEq] at e
  rw [e.1, e.2] at this
  exact this
theorem nx_x (h : RdX B T w r bs s) {n : Int} {s' : RS} (e : rNum bs s = (n, s')) : Calls Try.prog 17 #[.pointer (some ⟨r, 0, none⟩)] w fun x w' => x = .returned (.int .i64 n) ∧ RdX B T w' r bs s' ∧ KeepR r w w' := by
  have := num_x h
  rw [e] at this
  exact this
set_option maxHeartbeats 4000000 in
theorem day_x (h : RdX B T w r bs s) (hT : T ≤ w.heap.size) {y m d : Int} {s' : RS} (e : dR bs s = ((y, m, d), s')) : Calls Try.prog 49 #[.pointer (some ⟨r, 0, none⟩)] w fun x w' => x = .returned (.agg #[.int .i64 y, .int .i64 m, .int .i64 d]) ∧ RdX B T w' r bs s' ∧ KeepR r w w' := by
  obtain ⟨n1, s1, e1⟩ : ∃ n s', rNum bs s = (n, s') := ⟨_, _, rfl⟩
  obtain ⟨n2, s2, e2⟩ : ∃ n s', rNum bs s1 = (n, s') := ⟨_, _, rfl⟩
  obtain ⟨n3, s3, e3⟩ : ∃ n s', rNum bs s2 = (n, s') := ⟨_, _, rfl⟩
  have e' : n1 = y ∧ n2 = m ∧ n3 = d ∧ s3 = s' := by
    unfold dR at e
    rw [e1] at e
    simp only at e
    rw [e2] at e
    simp only at e
    rw [e3] at e
    simpa [and_assoc] using e
  obtain ⟨rfl, rfl, rfl, rfl⟩ := e'
  have E1 := Lib.hid e1
  have E2 := Lib.hid e2
  have E3 := Lib.hid e3
  obtain ⟨_, _, hrl, _, _⟩ := h.r_in
  have hne : w.heap.size ≠ r := by omega
  have hne1 : w.heap.size + 1 ≠ r := by omega
  have H0 := Lib.hid (h.ext (((Ext.refl w).alloc (.cells #[.int .i64 0, .int .i64 0, .int .i64 0] 26)).alloc (.cells #[.int .i64 0, .int .i64 0, .int .i64 0] 26)))
  have K0 := Lib.hid (KeepR.of_ext (r := r) (((Ext.refl w).alloc (.cells #[.int .i64 0, .int .i64 0, .int .i64 0] 26)).alloc (.cells #[.int .i64 0, .int .i64 0, .int .i64 0] 26)))
  have A0 : Hid (((w.alloc (.cells #[.int .i64 0, .int .i64 0, .int .i64 0] 26)).alloc (.cells #[.int .i64 0, .int .i64 0, .int .i64 0] 26)).heap[w.heap.size]? = some (.cells #[.int .i64 0, .int .i64 0, .int .i64 0] 26 (0, 0))) := Lib.hid (alloc_blk (new_blk w _))
  have B0 : Hid (((w.alloc (.cells #[.int .i64 0, .int .i64 0, .int .i64 0] 26)).alloc (.cells #[.int .i64 0, .int .i64 0, .int .i64 0] 26)).heap[w.heap.size + 1]? = some (.cells #[.int .i64 0, .int .i64 0, .int .i64 0] 26 (0, 0))) := Lib.hid (by
    have := new_blk (w.alloc (.cells #[.int .i64 0, .int .i64 0, .int .i64 0] 26)) (.cells #[.int .i64 0, .int .i64 0, .int .i64 0] 26)
    simpa using this)
  clear e1 e2 e3 e h
  have hT1 : T ≤ w.heap.size + 1 := by omega
  have hnn : w.heap.size ≠ w.heap.size + 1 := by omega
  have hle : w.heap.size ≤ w.heap.size + 1 := by omega
  go_enter Try.func49, Try.ntmps49
  go_wp2_with (first
    | (go_at_call 17; (with_reducible refine (nx_x H2.out E3.out).mono ?_); rintro e z3 ⟨rfl, hr3, hk3⟩; have A3 := Lib.hid (keep_blk hk3 A2.out hne); have B3 := Lib.hid (keep_blk hk3 B2.out hne1); obtain ⟨b0, g0⟩ := blkG B3.out 0 (.int .i64 n1) rfl; obtain ⟨b1, g1⟩ := blkG B3.out 1 (.int .i64 n2) rfl; obtain ⟨b2, g2⟩ := blkG B3.out 2 (.int .i64 0) rfl; obtain ⟨a0, f0⟩ := blkG A3.out 0 (.int .i64 0) rfl; obtain ⟨a1, f1⟩ := blkG A3.out 1 (.int .i64 0) rfl; obtain ⟨a2, f2⟩ := blkG A3.out 2 (.int .i64 0) rfl; have H3 := Lib.hid hr3; have K3 := Lib.hid (K2.out.trans hk3); have zl := blk_lt A3.out; clear hr3 hk3)
    | (go_at_call 17; (with_reducible refine (nx_x H1.out E2.out).mono ?_); rintro e z2 ⟨rfl, hr2, hk2⟩; have A2 := Lib.hid (set_blk (i := 1) (u := .int .i64 n2) (keep_blk hk2 A1.out hne) hnn); have Bx := keep_blk hk2 B1.out hne1; obtain ⟨x1, y1⟩ := blkG Bx 1 (.int .i64 0) rfl; have B2 : Hid ((z2.setCell ⟨w.heap.size + 1, 1, none⟩ (.int .i64 n2)).heap[w.heap.size + 1]? = some (.cells #[.int .i64 n1, .int .i64 n2, .int .i64 0] 26 (0, 0))) := Lib.hid (heap_setCell_same _ _ 1 _ _ (.int .i64 n2) Bx); have H2 := Lib.hid (hr2.keep ((KeepR.refl (w.heap.size + 1) z2).set (o := 1) (.int .i64 n2)) (.inr hT1)); have K2 := Lib.hid (KeepR.setN (o := 1) (K1.out.trans hk2) hle (.int .i64 n2)); clear hr2 hk2 Bx)
    | (go_at_call 17; (with_reducible refine (nx_x H0.out E1.out).mono ?_); rintro e z1 ⟨rfl, hr1, hk1⟩; have A1 := Lib.hid (set_blk (i := 0) (u := .int .i64 n1) (keep_blk hk1 A0.out hne) hnn); have Bx := keep_blk hk1 B0.out hne1; obtain ⟨x0, y0⟩ := blkG Bx 0 (.int .i64 0) rfl; have B1 : Hid ((z1.setCell ⟨w.heap.size + 1, 0, none⟩ (.int .i64 n1)).heap[w.heap.size + 1]? = some (.cells #[.int .i64 n1, .int .i64 0, .int .i64 0] 26 (0, 0))) := Lib.hid (heap_setCell_same _ _ 0 _ _ (.int .i64 n1) Bx); have H1 := Lib.hid (hr1.keep ((KeepR.refl (w.heap.size + 1) z1).set (o := 0) (.int .i64 n1)) (.inr hT1)); have K1 := Lib.hid (KeepR.setN (o := 0) (K0.out.trans hk1) hle (.int .i64 n1)); clear hr1 hk1 Bx))
  refine bodyPost_ret (v := .agg #[.int .i64 n1, .int .i64 n2, .int .i64 n3]) ?_ rfl ⟨rfl, ?_, ?_⟩
  · simp [results, Try.results49, go_sem, zl, a0, a1, a2]
  · exact (((H3.out.keep ((KeepR.refl (w.heap.size + 1) _).set (o := 2) _) (.inr hT1)).keep ((KeepR.refl w.heap.size _).set (o := 0) _) (.inr hT)).keep ((KeepR.refl w.heap.size _).set (o := 1) _) (.inr hT)).keep ((KeepR.refl w.heap.size _).set (o := 2) _) (.inr hT)
  · exact (((K3.out.setN (o := 2) hle _).setN (o := 0) (Nat.le_refl _) _).setN (o := 1) (Nat.le_refl _) _).setN (o := 2) (Nat.le_refl _) _
end
end Go.Proofs.Ytochgmpcdmahkaa
