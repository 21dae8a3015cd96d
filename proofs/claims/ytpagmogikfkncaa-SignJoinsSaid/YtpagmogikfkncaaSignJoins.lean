/- The law SignJoins of package impostlaw3: the walk. -/
import Derived.Test.YtpagmogikfkncaaSignJoinLaw
import Derived.Test.YtpagmogikfkncaaSignF
import Derived.Test.YtpagmogikfkncaaWithin
import Derived.Test.YtpagmogikfkncaaSignE
namespace Go.Proofs.Ytpagmogikfkncaa
open Go.RowKit

/-- The signs that the law puts between. -/
def signsK : ByteArray := ⟨#[45, 95, 46, 48, 49, 50, 51, 52, 53, 54, 55, 56, 57]⟩
theorem signs_at : ∀ p : Fin 13, (Utf8.decode signsK p.val).2 = 1 ∧ (Utf8.decode signsK p.val).1 < 128 ∧ otherB ((Utf8.decode signsK p.val).1 : Int) = true := by decide +kernel
theorem encode_one (r : Nat) (h : r < 128) : (Utf8.encode (r : Int)).data.toList = [UInt8.ofNat r] := by
  rw [encode_data, Lib.encodeRune, Lib.encodeRuneZ_one (by omega) (by omega)]
  rfl

theorem name_is (s : ByteArray) (v : Bool) (h : nameB s = v) (hs : s.size ≤ 9223372036854775807) (w : World) : Calls Try.prog 12 #[.string s] w fun e w' => e = .returned (.bool v) ∧ Ext w w' := h ▸ name_any s w hs

set_option maxHeartbeats 4000000 in
set_option maxRecDepth 100000 in
theorem signJoins_any (a b : ByteArray) (n : Int) (hn : -9223372036854775808 ≤ n ∧ n ≤ 9223372036854775807) (w : World) (ha : a.size ≤ 9223372036854775807) (hb : b.size ≤ 9223372036854775807) : Calls Try.prog 11 #[.string a, .string b, .int .i64 n] w fun e w' => e = .returned (.bool true) ∧ Ext w w' := by
  by_cases hg : nameB a = true ∧ nameB b = true ∧ a.size + b.size ≤ 23
  · obtain ⟨h1, h2, h3⟩ := hg
    have hsum : decide ((23 : Int) < (a.size : Int) + (b.size : Int)) = false := by simp; omega
    have hj := name_joined a b h1 h2 h3
    go_enter Try.func11, Try.ntmps11
    go_wp2_with (first
      | (go_at_call 12; refine (name_any _ _ (by omega)).mono ?_; rintro e w' ⟨rfl, hx⟩))
    rename World => w9
    have hX : Ext w w9 := (by repeat (first | exact Ext.refl _ | assumption | refine Ext.trans ?_ (by assumption) | refine Ext.alloc ?_ _ | refine Ext.drew ?_ | refine Ext.drewN ?_ _))
    clear hx
    go_loopw [] (fun wr => ∃ pos : Nat, pos ≤ 13 ∧ wr.heap[w9.heap.size]? = some (.stringIter signsK pos) ∧ Ext w wr) (fun wr => 13 - wr.iterPos w9.heap.size)
    case atStart => exact ⟨0, by omega, World.iter_heap w9 signsK 0, hX.trans (Ext.iter _ _)⟩
    case round =>
      obtain ⟨pos, hpos, hit, hE⟩ := hrel
      by_cases hp : pos < 13
      · have hp2 : pos < signsK.size := hp
        have hnx : ∀ ty, (Instr.next (.pointer (some ⟨w9.heap.size, 0, none⟩)) true ty).run Try.prog wr = _ := fun ty => Lib.run_next_any_at wr w9.heap.size signsK pos ty hit hp2
        obtain ⟨q1, q2, q3⟩ := signs_at ⟨pos, hp⟩
        simp only [] at q1 q2 q3
        generalize Utf8.decode signsK pos = d at *
        obtain ⟨r, wd⟩ := d
        simp only [] at hnx q1 q2 q3
        subst q1
        have he := encode_one r q2
        have hes : (Utf8.encode (r : Int)).size = 1 := by rw [← size_lst, he]; rfl
        have hnb : ∀ E : ByteArray, E.data.toList = [UInt8.ofNat r] → nameB (a ++ E ++ b) = true := fun E h => by
          have hr : (UInt8.ofNat r).toNat = r := by rw [UInt8.toNat_ofNat']; omega
          exact name_between a b E (UInt8.ofNat r) h (by omega) (by rw [hr]; exact q3) h1 h2 h3
        have hnb2 := hnb _ he
        have hit2 := Lib.iterAt_heap wr w9.heap.size signsK pos (pos + 1) hit
        have hE2 : Ext w (wr.iterAt w9.heap.size signsK (pos + 1)) := hE.iterAt hX.size
        have hlt : w9.heap.size < (wr.iterAt w9.heap.size signsK (pos + 1)).heap.size := (Array.getElem?_eq_some_iff.1 hit2).1
        obtain ⟨enc, henc⟩ : ∃ enc : Int → ByteArray, ∀ x, Utf8.encode x = enc x := ⟨Utf8.encode, fun _ => rfl⟩
        rw [henc] at hes hnb2
        have hz1 : a.size + 1 ≤ 9223372036854775807 := by omega
        have hz2 : a.size + 1 + b.size ≤ 9223372036854775807 := by omega
        have hsz : (a ++ enc (r : Int) ++ b).size ≤ 9223372036854775807 := by rw [ByteArray.size_append, ByteArray.size_append, hes]; exact hz2
        clear he hnb
        go_wp2_with (go_at_call 12; refine (name_any _ _ hsz).mono ?_; rintro e w' ⟨rfl, hx⟩)
        go_roundw
        case rel => exact ⟨pos + 1, by omega, (Below.block hx _ hlt).trans hit2, hE2.trans hx⟩
        case measure => simp only [World.iterPos, (Below.block hx _ hlt).trans hit2, hit]; omega
      · have hp2 : ¬ pos < signsK.size := hp
        have hnx : ∀ ty, (Instr.next (.pointer (some ⟨w9.heap.size, 0, none⟩)) true ty).run Try.prog wr = _ := fun ty => Lib.run_next_end_at wr w9.heap.size signsK pos ty hit hp2
        have hwb := withI_bd n 0 (a.size : Int) (by omega)
        clear hit hX
        go_wp2_with (go_at_call 25; refine (within_any _ _ _ _ (by omega) (by omega) (by omega)).mono ?_; rintro e w' ⟨rfl, rfl⟩)
        generalize withI n 0 (a.size : Int) = k at *
        obtain ⟨i, rfl⟩ : ∃ i : Nat, k = (i : Int) := ⟨k.toNat, by omega⟩
        have hbl := name_blank a i
        have i2 : (i : Int) ≤ (a.size : Int) := hwb.2
        have i3 : i ≤ a.size := by omega
        have e1 := extract_size a i i3
        have e2 : (a.extract i a.size).size = a.size - i := by rw [ByteArray.size_extract]; omega
        have z1 : (a ++ b).size ≤ 9223372036854775807 := by rw [ByteArray.size_append]; omega
        have z2 : (a.extract 0 i ++ ⟨#[32]⟩ ++ a.extract i a.size).size ≤ 9223372036854775807 := by
          rw [ByteArray.size_append, ByteArray.size_append, e1, e2]
          show i + 1 + (a.size - i) ≤ _
          omega
        have z3 : a.size + b.size ≤ 9223372036854775807 := by omega
        have z4 : i + 1 ≤ 9223372036854775807 := by omega
        have z5 : i + 1 + (a.size - i) ≤ 9223372036854775807 := by omega
        have inst : Nonempty (SubW (Ext wr)) := ⟨⟨_, Ext.refl _⟩⟩
        refine wp_region_quietS (Ext wr) (by kernel_rfl) (by kernel_rfl) ((Ext.refl _).drew) ?_
        repeat (go_big_quiet_step (first
          | (go_at_call 12; exact quietS_ext (name_is _ _ (by with_reducible assumption) (by with_reducible assumption) _))
          | (go_at_call 3; exact quietS_ext (signRuns_any _))))
        refine wpQuiet_nil ?_
        rintro _ ⟨y5, rfl⟩
        have hx5 := y5.ok
        generalize y5.w = x5 at hx5 ⊢
        go_wp2
        go_ret
        exact ⟨rfl, hE.trans hx5⟩
  · have hc : nameB a = false ∨ (nameB a = true ∧ nameB b = false) ∨ (nameB a = true ∧ nameB b = true ∧ decide ((23 : Int) < (a.size : Int) + (b.size : Int)) = true) := by
      cases h1 : nameB a
      · exact .inl rfl
      · cases h2 : nameB b
        · exact .inr (.inl ⟨rfl, rfl⟩)
        · refine .inr (.inr ⟨rfl, rfl, ?_⟩)
          have : ¬ a.size + b.size ≤ 23 := fun h => hg ⟨h1, h2, h⟩
          rw [decide_eq_true_iff]
          omega
    have hz : nameB a = true → a.size ≤ 24 := fun h => (name_parts a h).2.1
    have hy : nameB b = true → b.size ≤ 24 := fun h => (name_parts b h).2.1
    rcases hc with h1 | ⟨h1, h2⟩ | ⟨h1, h2, h3⟩
    all_goals
      try replace hz := hz h1
      try replace hy := hy h2
      clear hg
      go_enter Try.func11, Try.ntmps11
      go_wp2_with (first
        | (go_at_call 12; refine (name_any _ _ (by assumption)).mono ?_; rintro e w' ⟨rfl, hx⟩)
        | (go_at_call 3; refine (signRuns_any _).mono ?_; rintro e w' ⟨rfl, hx⟩))
      go_ret
      exact ⟨rfl, by repeat (first | exact Ext.refl _ | assumption | refine Ext.trans ?_ (by assumption))⟩
end Go.Proofs.Ytpagmogikfkncaa
