/- The laws SignCuts, SignWidths of package impostlaw3: plain laws and walks. -/
import Derived.Test.YtpagmogikfkncaaSignRuns
import Derived.Test.YtpagmogikfkncaaRuneLaw
import Derived.Test.YtpagmogikfkncaaQuietS
import Derived.Laws.IdiomStrings
namespace Go.Proofs.Ytpagmogikfkncaa
open Go.RowKit

theorem cutPos_span : ∀ (rs : List (Nat × Nat)) (n : Int) (p : Nat), cutPos rs n p = p + spanN rs n.toNat
  | [], n, p => by simp [cutPos, spanN]
  | d :: t, n, p => by
    by_cases h : n ≤ 0
    · rw [cutPos_stop _ _ _ _ h, show n.toNat = 0 from by omega, spanN_zero]; rfl
    · rw [cutPos_go _ _ _ _ h, cutPos_span t, show n.toNat = (n - 1).toNat + 1 from by omega, spanN]
      omega
def cutN (s : ByteArray) (n : Int) : Nat := spanN (runes s.data.toList) n.toNat
theorem cutB_eq (s : ByteArray) (n : Int) : cutB s n = s.extract 0 (cutN s n) := by
  rw [cutB, cutPos_span, Nat.zero_add]
  rfl
theorem size_list (s : ByteArray) : s.data.toList.length = s.size := by rw [Array.length_toList]; rfl
theorem cutN_le (s : ByteArray) (n : Int) : cutN s n ≤ s.size := by
  have := runes_span_le _ n.toNat s.data.toList (Nat.le_refl _)
  rwa [size_list] at this
theorem extract_size (s : ByteArray) (k : Nat) (h : k ≤ s.size) : (s.extract 0 k).size = k := by
  rw [ByteArray.size_extract]
  omega
theorem extract_take (s : ByteArray) (k : Nat) : (s.extract 0 k).data.toList = s.data.toList.take k := by
  rw [ByteArray.data_extract, Array.toList_extract]
  simp [List.extract]
theorem extract_drop (s : ByteArray) (k : Nat) : (s.extract k s.size).data.toList = s.data.toList.drop k := by
  rw [ByteArray.data_extract, Array.toList_extract]
  simp only [List.extract]
  rw [List.take_of_length_le]
  rw [List.length_drop, size_list]
  omega
theorem widthN_eq (s : ByteArray) : widthN s = (runes s.data.toList).length := rfl
theorem cut_size (s : ByteArray) (n : Int) : (cutB s n).size = cutN s n := by rw [cutB_eq, extract_size _ _ (cutN_le s n)]
theorem cut_width (s : ByteArray) (n : Int) : widthN (cutB s n) = min n.toNat (widthN s) := by
  rw [widthN_eq, cutB_eq, extract_take, cutN, (runes_cut _ n.toNat s.data.toList (Nat.le_refl _)).1, List.length_take, widthN_eq]
theorem rest_width (s : ByteArray) (n : Int) : widthN (s.extract (cutB s n).size s.size) = widthN s - n.toNat := by
  rw [widthN_eq, cut_size, extract_drop, cutN, (runes_cut _ n.toNat s.data.toList (Nat.le_refl _)).2, List.length_drop, widthN_eq]
theorem cut_whole (s : ByteArray) : cutB s (widthN s : Int) = s := by
  have h : cutN s (widthN s : Int) = s.size := by
    rw [cutN, Int.toNat_natCast, widthN_eq, runes_span_all _ _ _ (Nat.le_refl _) (Nat.le_refl _), size_list]
  rw [cutB_eq, h, extract_all]

theorem runesFrom_size (s : ByteArray) : ∀ (b i : Nat) (acc : Array Value), s.size ≤ i + b → (Conv.runesFrom s b i acc).size = acc.size + (runesAt s i).length
  | 0, i, acc, h => by
    rw [runesAt_end s i (by omega)]
    simp [Conv.runesFrom]
  | b + 1, i, acc, h => by
    unfold Conv.runesFrom
    by_cases hp : i < s.size
    · have hw := decode_wd s i hp
      rw [if_pos hp, runesAt_step s i hp]
      have := runesFrom_size s b (i + (Utf8.decode s i).2) (acc.push (.int .i32 (Int.ofNat (Utf8.decode s i).1))) (by omega)
      simp only [] at this ⊢
      rw [this, Array.size_push, List.length_cons]
      omega
    · rw [if_neg hp, runesAt_end s i hp]
      simp

set_option maxHeartbeats 4000000 in
set_option maxRecDepth 100000 in
theorem signCuts_any (s : ByteArray) (n : Int) (hn : -9223372036854775808 ≤ n ∧ n ≤ 9223372036854775807) (w : World) (hs : s.size ≤ 9223372036854775807) : Calls Try.prog 8 #[.string s, .int .i64 n] w fun e w' => e = .returned (.bool true) ∧ Ext w w' := by
  have hq : cutB s n = s.extract 0 (cutB s n).size := by rw [cut_size]; exact cutB_eq s n
  have hle : (cutB s n).size ≤ s.size := by rw [cut_size]; exact cutN_le s n
  have h1 : ((widthN (cutB s n) : Int)) = min (max n 0) (widthN s : Int) := by rw [cut_width]; omega
  have h2 : ((widthN (cutB s n) : Int)) + (widthN (s.extract (cutB s n).size s.size) : Int) = (widthN s : Int) := by rw [cut_width, rest_width]; omega
  have hwl : widthN s ≤ s.size := runesAt_len s 0
  have hrs : (s.extract (cutB s n).size s.size).size ≤ 9223372036854775807 := by rw [ByteArray.size_extract]; omega
  go_enter Try.func8, Try.ntmps8
  go_wp2_with (go_at_call 16; refine (cut_any _ _ _ (by omega)).mono ?_)
  rintro e w1 ⟨rfl, hx1⟩
  generalize cutB s n = c at *
  have hex := hq.symm
  have hlt : decide ((s.size : Int) < (c.size : Int)) = false := by simp; omega
  have i2 : (c.size : Int) ≤ (s.size : Int) := by omega
  clear hq
  go_wp2_with (go_at_call 15; refine (width_any _ _ (by omega)).mono ?_)
  rintro e w2 ⟨rfl, hx2⟩
  have hX := hx1.trans hx2
  clear hx1 hx2
  go_wp2
  have h1b : ((widthN c : Int) == min (max n 0) (widthN s : Int)) = true := by rw [beq_iff_eq]; exact h1
  have h2b : wrap64 ((widthN c : Int) + (widthN (s.extract c.size s.size) : Int)) = (widthN s : Int) := by rw [h2]; simp only [wrap64]; omega
  clear h1 h2
  have inst : Nonempty (SubW (Ext w2)) := ⟨⟨_, Ext.refl _⟩⟩
  refine wp_region_quietS (Ext w2) (by kernel_rfl) (by kernel_rfl) ((Ext.refl _).drew) ?_
  repeat (go_big_quiet_step (first
    | (go_at_call 15; exact quietS_ext (width_any _ _ (by omega)))
    | (go_at_call 3; exact quietS_ext (signRuns_any _))))
  refine wpQuiet_nil ?_
  rintro _ ⟨y5, rfl⟩
  have hx5 := y5.ok
  generalize y5.w = x5 at hx5 ⊢
  go_wp2
  go_ret
  exact ⟨rfl, hX.trans hx5⟩
end Go.Proofs.Ytpagmogikfkncaa
