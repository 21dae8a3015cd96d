/- Contracts of package rate and of the document's answer to it. -/
import Derived.Test.YtbkmgjblflhgiaaWithin
import Derived.Deep.QuietTactic
import Derived.BigQuiet
namespace Go.Proofs.Ytbkmgjblflhgiaa
open Go.RowKit

/-- bp of d parts of an amount, without its sign, rounded half up. -/
def rateOut (u bp d : Int) : Int := u / d * bp + (2 * (u % d) * bp + d) / (2 * d)
def shareR (n bp d : Int) : Int × Int :=
  if bp < 0 ∨ 100000 < bp then (0, 1) else if 9223372036854775807 < rateOut n.natAbs bp d then (0, 7) else (if n < 0 then -rateOut n.natAbs bp d else rateOut n.natAbs bp d, 0)

theorem compl_u64 (n : Int) (h : n < 0) (h1 : -9223372036854775808 ≤ n) : bits .xor .u64 IntKind.u64.max (IntKind.u64.wrap n) = -n - 1 := by
  have e1 : IntKind.u64.wrap n = ((n + 18446744073709551616).toNat : Nat) := by
    rw [IntKind.wrap_u64]; omega
  rw [e1, show IntKind.u64.max = ((18446744073709551615 : Nat) : Int) from rfl, u64_xor_nat _ _ (by decide) (by omega)]
  have e2 : (18446744073709551615 : Nat) ^^^ (n + 18446744073709551616).toNat = 18446744073709551615 - (n + 18446744073709551616).toNat := by
    have h2 := BitVec.toNat_not (x := BitVec.ofNat 64 (n + 18446744073709551616).toNat)
    rw [BitVec.not_def, BitVec.toNat_xor, BitVec.toNat_allOnes, BitVec.toNat_ofNat, Nat.mod_eq_of_lt (by omega)] at h2
    exact h2
  rw [e2]
  omega

theorem rate_bd (u bp d : Int) (hu : 0 ≤ u) (hd : 10000 ≤ d) (hd1 : d ≤ 110000) (hb : 0 ≤ bp) (hb1 : bp ≤ 100000) :
    0 ≤ u / d ∧ u / d ≤ u ∧ 0 ≤ u % d ∧ u % d < d ∧ 0 ≤ u / d * bp ∧ 0 ≤ 2 * (u % d) * bp ∧ 2 * (u % d) * bp ≤ 22000000000 ∧ 0 ≤ (2 * (u % d) * bp + d) / (2 * d) ∧ (2 * (u % d) * bp + d) / (2 * d) ≤ 1100001 := by
  have a1 : 0 ≤ u / d := Int.ediv_nonneg hu (by omega)
  have a2 : u / d ≤ u := Int.ediv_le_self _ hu
  have a3 := Int.emod_nonneg u (by omega : d ≠ 0)
  have a4 := Int.emod_lt_of_pos u (by omega : 0 < d)
  have a5 : 0 ≤ u / d * bp := Int.mul_nonneg a1 hb
  have a6 : 0 ≤ 2 * (u % d) * bp := Int.mul_nonneg (by omega) hb
  have a7 : 2 * (u % d) * bp ≤ 220000 * 100000 := Int.mul_le_mul (by omega) hb1 hb (by omega)
  have a8 : 0 ≤ (2 * (u % d) * bp + d) / (2 * d) := Int.ediv_nonneg (by omega) (by omega)
  have a9 : (2 * (u % d) * bp + d) / (2 * d) ≤ 1100001 := by
    have : (2 * (u % d) * bp + d) / (2 * d) < 1100002 := by
      rw [Int.ediv_lt_iff_lt_mul (by omega)]
      omega
    omega
  exact ⟨a1, a2, a3, a4, a5, a6, a7, a8, a9⟩

/-- More than the bound, by the first product alone. -/
theorem rate_over (q bp : Int) (hb : 0 < bp) : 9223372036854775807 / bp < q ↔ 9223372036854775807 < q * bp := by
  rw [Int.ediv_lt_iff_lt_mul hb]

theorem ret2i {x y : Int} {p : Int × Int} (h : p = (x, y)) : Ending.returned (.tuple #[.int .i64 x, .int .i64 y]) = .returned (.tuple #[.int .i64 p.1, .int .i64 p.2]) := by rw [h]

set_option maxHeartbeats 1000000 in
theorem share_any (n bp d : Int) (w : World) (hn : -9223372036854775808 ≤ n ∧ n ≤ 9223372036854775807) (hd : 10000 ≤ d ∧ d ≤ 110000) :
    Calls Try.prog 17 #[.int .i64 n, .int .i64 bp, .int .i64 d] w fun e w' => e = .returned (.tuple #[.int .i64 (shareR n bp d).1, .int .i64 (shareR n bp d).2]) ∧ Ext w w' := by
  obtain ⟨hn0, hn1⟩ := hn
  obtain ⟨hd0, hd1⟩ := hd
  by_cases h0 : bp < 0
  · have hr : shareR n bp d = (0, 1) := by unfold shareR; rw [if_pos (.inl h0)]
    have HR := Lib.hid hr
    clear hr
    go_enter Try.func17, Try.ntmps17
    go_wp2
    go_ret2
    exact ⟨ret2i HR.out, Ext.refl _⟩
  · by_cases h1 : 100000 < bp
    · have hr : shareR n bp d = (0, 1) := by unfold shareR; rw [if_pos (.inr h1)]
      have HR := Lib.hid hr
      clear hr
      go_enter Try.func17, Try.ntmps17
      go_wp2
      go_ret2
      exact ⟨ret2i HR.out, Ext.refl _⟩
    · obtain ⟨u, hu⟩ : ∃ u : Int, u = n.natAbs := ⟨_, rfl⟩
      have hr : shareR n bp d = if 9223372036854775807 < rateOut u bp d then (0, 7) else (if n < 0 then -rateOut u bp d else rateOut u bp d, 0) := by
        unfold shareR; rw [if_neg (by omega), hu]
      have HR := Lib.hid hr
      clear hr
      have hu0 : 0 ≤ u := by omega
      have hu1 : u ≤ 9223372036854775808 := by omega
      have h0' : 0 ≤ bp := by omega
      have h1' : bp ≤ 100000 := by omega
      clear h0 h1
      obtain ⟨a1, a2, a3, a4, a5, a6, a7, a8, a9⟩ := rate_bd u bp d hu0 hd0 hd1 (by omega) (by omega)
      have hro : rateOut u bp d = u / d * bp + (2 * (u % d) * bp + d) / (2 * d) := rfl
      have HO := Lib.hid hro
      clear hro
      rcases (by omega : (n < 0 ∧ n = -u) ∨ (0 ≤ n ∧ u = n)) with ⟨hneg, rfl⟩ | ⟨hneg, rfl⟩
      all_goals
        clear hu
        try
          have hc := compl_u64 (-u) hneg hn0
          rw [Int.neg_neg] at hc
        by_cases hp : 0 < bp
        · by_cases hov : 9223372036854775807 / bp < u / d
          · have hov' := (rate_over _ _ hp).1 hov
            have HR2 := HR.out.trans (if_pos (by rw [HO.out]; omega))
            have HR3 := Lib.hid HR2
            clear HR2 HR HO
            go_enter Try.func17, Try.ntmps17
            go_wp2
            go_quiet (fail)
            go_wp2
            go_ret2
            exact ⟨ret2i HR3.out, (by repeat (first | exact Ext.refl _ | assumption | refine Ext.trans ?_ (by assumption) | refine Ext.alloc ?_ _ | refine Ext.drew ?_ | refine Ext.drewN ?_ _))⟩
          · have hov' : u / d * bp ≤ 9223372036854775807 := by have := rate_over (u / d) bp hp; omega
            by_cases hbig : 9223372036854775807 < u / d * bp + (2 * (u % d) * bp + d) / (2 * d)
            · have HR2 := HR.out.trans (if_pos (by rw [HO.out]; exact hbig))
              have HR3 := Lib.hid HR2
              clear HR2 HR HO
              go_enter Try.func17, Try.ntmps17
              go_wp2
              go_quiet (fail)
              go_wp2
              go_ret2
              exact ⟨ret2i HR3.out, (by repeat (first | exact Ext.refl _ | assumption | refine Ext.trans ?_ (by assumption) | refine Ext.alloc ?_ _ | refine Ext.drew ?_ | refine Ext.drewN ?_ _))⟩
            · have HR2 := HR.out.trans (if_neg (by rw [HO.out]; exact hbig))
              rw [HO.out] at HR2
              first
                | rw [if_pos hneg] at HR2
                | rw [if_neg (by omega)] at HR2
              have HR3 := Lib.hid HR2
              clear HR2 HR HO
              go_enter Try.func17, Try.ntmps17
              go_wp2
              go_quiet (fail)
              go_wp2
              go_ret2
              exact ⟨ret2i HR3.out, (by repeat (first | exact Ext.refl _ | assumption | refine Ext.trans ?_ (by assumption) | refine Ext.alloc ?_ _ | refine Ext.drew ?_ | refine Ext.drewN ?_ _))⟩
        · obtain rfl : bp = 0 := by omega
          have hz : rateOut u 0 d = 0 := by
            unfold rateOut
            rw [Int.mul_zero, Int.mul_zero, Int.zero_add, Int.zero_add]
            exact Int.ediv_eq_zero_of_lt (by omega) (by omega)
          have HR2 := HR.out.trans (if_neg (by rw [hz]; decide))
          rw [hz] at HR2
          have HR3 : Hid (shareR _ 0 d = (0, 0)) := HR2.trans (by split <;> rfl)
          have hz2 : d / (2 * d) = 0 := Int.ediv_eq_zero_of_lt (by omega) (by omega)
          clear HR2 HR HO hz
          go_enter Try.func17, Try.ntmps17
          go_wp2
          go_quiet (fail)
          go_wp2
          go_ret2
          exact ⟨ret2i HR3.out, (by repeat (first | exact Ext.refl _ | assumption | refine Ext.trans ?_ (by assumption) | refine Ext.alloc ?_ _ | refine Ext.drew ?_ | refine Ext.drewN ?_ _))⟩
end Go.Proofs.Ytbkmgjblflhgiaa
