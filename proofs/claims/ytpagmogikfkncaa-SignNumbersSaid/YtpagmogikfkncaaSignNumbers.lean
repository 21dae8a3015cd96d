/- The law SignNumbers of package impostlaw3: the walk. -/
import Derived.Test.YtpagmogikfkncaaSignNumLaw
import Derived.Test.YtpagmogikfkncaaWithin
import Derived.Test.YtpagmogikfkncaaSignD
namespace Go.Proofs.Ytpagmogikfkncaa
open Go.RowKit

theorem digits_is (s : ByteArray) (v : Int) (b : Bool) (h : digB s = (v, b)) (hs : s.size ≤ 9223372036854775807) (w : World) : Calls Try.prog 17 #[.string s] w fun e w' => e = .returned (.tuple #[.int .i64 v, .bool b]) ∧ Ext w w' := by
  have := digits_any s w hs
  rw [h] at this
  exact this
theorem slr_one (w : World) (t : TypeId) (b : UInt8) (k : Int) (h : Value.int .u8 k = bcell b) : SlR (w.alloc (.cells #[.int .u8 k] t)) (w.heap.size + 1) 1 (.slice (some ⟨w.heap.size, 0, none⟩) 1 1) [b].length ([b].map bcell) := by
  refine ⟨rfl, by simp [maxLen], _, _, rfl, .inr ⟨w.heap.size, 0, rfl, by omega, fun j hj => ?_⟩⟩
  have : j = 0 := by simp at hj; omega
  subst this
  rw [World.cell?_alloc_at _ _ _ _ rfl, h]
  rfl
theorem num_le (n : Nat) : ∀ (L : List UInt8) (k : Nat), NumInv n L k → k ≤ n := by
  have gen : ∀ (L : List UInt8) (a : Nat), a ≤ numL L a := by
    intro L
    induction L with
    | nil => intro a; exact Nat.le_refl _
    | cons b t ih => intro a; have := ih (10 * a + (b.toNat - 48)); rw [numL]; omega
  intro L k h
  have := gen L k
  rw [h.2.2.2.1] at this
  exact this
theorem enc_le (r : Int) : (Utf8.encode r).size ≤ 4 := by
  obtain ⟨v, _, v2, _⟩ := encode_all r
  have h := enc_size v
  have e : (Utf8.encode r).size = (Utf8.encode (v : Int)).size := by rw [← size_list, ← size_list, v2, encode_data]
  omega
def strSz : Value → Nat
  | .string s => s.size
  | _ => 0

set_option maxHeartbeats 4000000 in
set_option maxRecDepth 100000 in
theorem signNumbers_any (n : Nat) (hn : (n : Int) ≤ 4294967295) (k : Int) (hk : -9223372036854775808 ≤ k ∧ k ≤ 9223372036854775807) (r : Int) (hr : -2147483648 ≤ r ∧ r ≤ 2147483647) (w : World) : Calls Try.prog 10 #[.int .u32 (n : Int), .int .i64 k, .int .i32 r] w fun e w' => e = .returned (.bool true) ∧ Ext w w' := by
  go_enter Try.func10, Try.ntmps10
  go_wp2
  go_loopw [7, 8] (fun sv kv wr => ∃ (L : List UInt8) (m : Nat), sv = .string (⟨L.toArray⟩ : ByteArray) ∧ kv = .int .i64 (m : Int) ∧ NumInv n L m ∧ Ext w wr) (fun sv _ _ => 11 - strSz sv)
  case atStart => exact ⟨[], n, rfl, rfl, num_start n (by omega), Ext.refl _⟩
  case round =>
    obtain ⟨L, m, rfl, rfl, hI, hx⟩ := hrel
    have hk2 : m ≤ n := num_le n L m hI
    have hl2 := hI.2.1
    have hsz : ((⟨L.toArray⟩ : ByteArray)).size = L.length := (data_size _ L rfl).1
    have hstep : ∀ (hg : 0 < m ∨ L = []), NumInv n (numDig m :: L) (m / 10) := num_step n L m hI
    have hlen : ∀ (hg : 0 < m ∨ L = []), L.length < 10 := num_len n L m hI
    have hv : Value.int .u8 (48 + (m : Int) % 10) = bcell (numDig m) := by unfold bcell; rw [numDig_nat]; rfl
    have hcv := run_conv_str (P := Try.prog) _ 36 9 5 Try.underlying36 Try.underlying5 Try.underlying9 _ _ [numDig m] (slr_one wr 5 (numDig m) _ hv)
    have hcat : ByteArray.mk #[numDig m] ++ ⟨L.toArray⟩ = ⟨(numDig m :: L).toArray⟩ := ByteArray.mk_append_mk [numDig m] L
    have hx2 : ∀ o, Ext w (wr.alloc o) := fun o => hx.alloc o
    clear hv
    by_cases hm : 0 < m
    · have h1 := hstep (.inl hm)
      have h2 := hlen (.inl hm)
      have hm2 : (0 : Int) < (m : Int) := by omega
      have HI := Lib.hid h1
      clear hI hstep hlen h1
      go_wp2_with (with_reducible refine wpList_conv rfl _ _ _ rfl _ _ rfl hcv ?_)
      refine ⟨⟨numDig m :: L, m / 10, congrArg Value.string hcat, by simp, HI.out, hx2 _⟩, ?_⟩
      have e1 : (⟨(numDig m :: L).toArray⟩ : ByteArray).size = L.length + 1 := (data_size _ _ rfl).1
      show 11 - ByteArray.size _ < 11 - ByteArray.size _
      rw [e1, hsz]
      omega
    · have hm2 : ¬ (0 : Int) < (m : Int) := by omega
      by_cases hL : L = []
      · have h1 := hstep (.inr hL)
        have h2 := hlen (.inr hL)
        have HI := Lib.hid h1
        obtain ⟨y1, y2⟩ := empty_yes (⟨L.toArray⟩ : ByteArray) (by rw [hsz, hL]; rfl)
        clear hI hstep hlen h1 hL
        go_wp2_with (with_reducible refine wpList_conv rfl _ _ _ rfl _ _ rfl hcv ?_)
        refine ⟨⟨numDig m :: L, m / 10, congrArg Value.string hcat, by simp, HI.out, hx2 _⟩, ?_⟩
        have e1 : (⟨(numDig m :: L).toArray⟩ : ByteArray).size = L.length + 1 := (data_size _ _ rfl).1
        show 11 - ByteArray.size _ < 11 - ByteArray.size _
        rw [e1, hsz]
        omega
      · have hp : 0 < L.length := List.length_pos_iff.2 hL
        obtain rfl : m = 0 := by omega
        obtain ⟨y1, y2⟩ := empty_no (⟨L.toArray⟩ : ByteArray) (by rw [hsz]; exact hp)
        have d1 := num_read n L _ rfl hI hL
        have d2 := num_ahead n 0 L _ ⟨#[48]⟩ rfl rfl hI hL
        have d3 := fun i hi hr => num_odd n 0 L _ i r rfl hI hi hr
        generalize (⟨L.toArray⟩ : ByteArray) = s at *
        clear hstep hlen hcv hcat hI hL hk2 hx2 hm
        have z1 : (ByteArray.mk #[48] ++ s).size ≤ 9223372036854775807 := by rw [ByteArray.size_append, hsz]; show 1 + L.length ≤ _; omega
        rw [← hsz] at hl2 hp
        clear hsz
        have hwb := withI_bd k 0 (s.size : Int) (by omega)
        have z0 : s.size ≤ 9223372036854775807 := by omega
        go_wp2_with (first
          | (go_at_call 17; refine (digits_is _ _ _ (by with_reducible assumption) (by with_reducible assumption) _).mono ?_; rintro e w' ⟨rfl, hx⟩)
          | (go_at_call 25; refine (within_any _ _ _ _ (by omega) (by omega) (by omega)).mono ?_; rintro e w' ⟨rfl, rfl⟩))
        generalize withI k 0 (s.size : Int) = j at *
        obtain ⟨i, rfl⟩ : ∃ i : Nat, j = (i : Int) := ⟨j.toNat, by omega⟩
        have i2 : (i : Int) ≤ (s.size : Int) := hwb.2
        have i3 : i ≤ s.size := by omega
        have e1 := extract_size s i i3
        have e2 : (s.extract i s.size).size = s.size - i := by rw [ByteArray.size_extract]; omega
        have e3 : (Utf8.encode r).size ≤ 4 := enc_le r
        have d4 := d3 i i3
        obtain ⟨enc, henc⟩ : ∃ enc : Int → ByteArray, ∀ x, Utf8.encode x = enc x := ⟨Utf8.encode, fun _ => rfl⟩
        rw [henc] at d4 e3
        have z2 : (s.extract 0 i ++ enc r ++ s.extract i s.size).size ≤ 9223372036854775807 := by
          rw [ByteArray.size_append, ByteArray.size_append, e1, e2]
          omega
        have z3 : i + (enc r).size ≤ 9223372036854775807 := by omega
        have z4 : i + (enc r).size + (s.size - i) ≤ 9223372036854775807 := by omega
        obtain ⟨q1, q2, hq⟩ : ∃ q1 q2, digB (s.extract 0 i ++ enc r ++ s.extract i s.size) = (q1, q2) := ⟨_, _, rfl⟩
        have hq2 : ¬ (48 ≤ r ∧ r ≤ 57) → q2 = false := fun h => by have := d4 h; rw [hq] at this; exact (congrArg Prod.snd this)
        clear d1 d2 d3 d4 y1 y2
        rename World => x9
        have hX : Ext w x9 := (by repeat (first | exact Ext.refl _ | assumption | refine Ext.trans ?_ (by assumption) | refine Ext.alloc ?_ _ | refine Ext.drew ?_ | refine Ext.drewN ?_ _))
        have inst : Nonempty (SubW (Ext x9)) := ⟨⟨_, Ext.refl _⟩⟩
        refine wp_region_quietS (Ext x9) (by kernel_rfl) (by kernel_rfl) ((Ext.refl _).drew) ?_
        repeat (go_big_quiet_step (first
          | (go_at_call 17; exact quietS_ext (digits_is _ _ _ (by with_reducible assumption) (by with_reducible assumption) _))))
        refine wpQuiet_nil ?_
        rintro _ ⟨y5, rfl⟩
        have hx5 := y5.ok
        generalize y5.w = x5 at hx5 ⊢
        by_cases hr1 : 48 ≤ r
        · by_cases hr2 : r ≤ 57
          · go_wp2_with (go_at_call 3; refine (signRuns_any _).mono ?_; rintro e w' ⟨rfl, hx⟩)
            go_ret
            exact ⟨rfl, (hX.trans hx5).trans hx⟩
          · obtain rfl := hq2 (by omega)
            go_wp2_with (go_at_call 3; refine (signRuns_any _).mono ?_; rintro e w' ⟨rfl, hx⟩)
            go_ret
            exact ⟨rfl, (hX.trans hx5).trans hx⟩
        · obtain rfl := hq2 (by omega)
          go_wp2_with (go_at_call 3; refine (signRuns_any _).mono ?_; rintro e w' ⟨rfl, hx⟩)
          go_ret
          exact ⟨rfl, (hX.trans hx5).trans hx⟩
end Go.Proofs.Ytpagmogikfkncaa
