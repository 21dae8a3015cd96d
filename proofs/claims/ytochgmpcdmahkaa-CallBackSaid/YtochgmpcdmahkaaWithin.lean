/- Contract of impostbook.Within: a number brought into lo .. hi. -/
import Derived.Test.YtochgmpcdmahkaaProg
import Derived.Test.YtochgmpcdmahkaaBase
namespace Go.Proofs.Ytochgmpcdmahkaa
open Go.RowKit

def withI (n lo hi : Int) : Int := lo + n % (hi - lo + 1)
theorem withI_bd (n lo hi : Int) (h : lo ≤ hi) : lo ≤ withI n lo hi ∧ withI n lo hi ≤ hi := by
  unfold withI
  have h1 := Int.emod_nonneg n (by omega : hi - lo + 1 ≠ 0)
  have h2 := Int.emod_lt_of_pos n (by omega : 0 < hi - lo + 1)
  omega
theorem tmod_eq (n d : Int) (hd : 0 < d) : (0 ≤ n.tmod d ∧ n % d = n.tmod d) ∨ (n.tmod d < 0 ∧ n % d = n.tmod d + d) := by
  have h1 := Int.emod_nonneg n (by omega : d ≠ 0)
  have h2 := Int.emod_lt_of_pos n hd
  have h3 : n.tmod d = n % d ∨ n.tmod d = n % d - d := by
    rw [Int.tmod_eq_emod]
    split
    · left; omega
    · right; rw [Int.natAbs_of_nonneg (by omega)]
  rcases h3 with h3 | h3
  · left; omega
  · by_cases h0 : n.tmod d < 0
    · right; omega
    · omega

set_option maxHeartbeats 400000 in
theorem within_any (n lo hi : Int) (w : World) (h : lo ≤ hi) (h0 : 0 ≤ lo) (h1 : hi ≤ 4611686018427387904) :
    Calls Try.prog 12 #[.int .i64 n, .int .i64 lo, .int .i64 hi] w fun e w' => e = .returned (.int .i64 (withI n lo hi)) ∧ w = w' := by
  have hb := withI_bd n lo hi h
  have hf : withI n lo hi = lo + n % (hi - lo + 1) := rfl
  have HF := Lib.hid hf
  clear hf
  have ht := tmod_eq n (hi - lo + 1) (by omega)
  have t1 := Int.emod_lt_of_pos n (by omega : 0 < hi - lo + 1)
  have t2 := Int.emod_nonneg n (by omega : hi - lo + 1 ≠ 0)
  rcases ht with ⟨ht, he⟩ | ⟨ht, he⟩
  · have HE := Lib.hid he
    have b1 : n.tmod (hi - lo + 1) < hi - lo + 1 := by omega
    clear he t1 t2
    go_enter Try.func12, Try.ntmps12
    go_wp2
    go_ret
    exact ⟨by rw [HF.out, HE.out]; rfl, rfl⟩
  · have HE := Lib.hid he
    have b1 : -(hi - lo + 1) ≤ n.tmod (hi - lo + 1) := by omega
    clear he t1 t2
    go_enter Try.func12, Try.ntmps12
    go_wp2
    go_ret
    exact ⟨by rw [HF.out, HE.out, show lo + (n.tmod (hi - lo + 1) + (hi - lo + 1)) = lo + (n.tmod (hi - lo + 1) + hi - lo + 1) from by omega]; rfl, rfl⟩
end Go.Proofs.Ytochgmpcdmahkaa
