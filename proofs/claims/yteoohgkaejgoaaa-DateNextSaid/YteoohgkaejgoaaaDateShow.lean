/- Contracts of date.put and date.Show: a day's digits. -/
import Derived.Test.YteoohgkaejgoaaaDateB
import Derived.Test.YteoohgkaejgoaaaOwn
namespace Go.Proofs.Yteoohgkaejgoaaa
open Go.RowKit

def dig (m : Nat) : UInt8 := UInt8.ofNat (48 + m % 10)
theorem dig_nat (m : Nat) : (dig m).toNat = 48 + m % 10 := by
  unfold dig
  rw [UInt8.toNat_ofNat']
  omega
/-- The last k digits. -/
def digs (n : Nat) : Nat → List UInt8
  | 0 => []
  | k + 1 => dig (n / 10 ^ k) :: digs n k
theorem digs_len (n k : Nat) : (digs n k).length = k := by induction k with | zero => rfl | succ k ih => simp [digs, ih]

theorem Try.infoU8 : (Try.prog.info? 5).map (fun i => (i.zero, i.size, i.bytes)) = some (some (.int .u8 0), 1, 1) := by kernel_rfl

theorem set_mid (l : List UInt8) (i j : Nat) (d : List UInt8) (x : UInt8) (hd : d.length = j) : (((l ++ List.replicate (i + 1) 0) ++ d).map bcell).set (l.length + i) (bcell x) = ((l ++ List.replicate i 0) ++ x :: d).map bcell := by
  rw [List.replicate_succ']
  simp only [List.map_append, List.map_cons, List.map_nil, List.append_assoc]
  rw [List.set_append_right _ _ (by simp), List.set_append_right _ _ (by simp)]
  simp

set_option maxHeartbeats 2000000 in
theorem put_any (B : Nat) (v : Value) (l : List UInt8) (n K : Nat) (w : World) (hB : B ≤ w.heap.size) (hown : Own8 5 w B v l) (hl : l.length ≤ 1000) (hn : n ≤ 100000) (hK : 1 ≤ K) (hK2 : K ≤ 20) :
    Calls Try.prog 26 #[v, .int .i64 n, .int .i64 K] w fun e w' => ∃ v', e = .returned v' ∧ Own8 5 w' B v' (l ++ digs n K) ∧ Below B w w' := by
  obtain ⟨i0, hi, hz0, hz1, hz2⟩ := info_parts Try.infoU8
  have hsl := hown.slr
  obtain ⟨_, _, a, cap, rfl, _⟩ := hsl
  go_enter Try.func26, Try.ntmps26
  go_wp2
  go_loopw [0, 12] (fun v iv wr => ∃ k : Nat, k ≤ K ∧ iv = .int .i64 k ∧ Own8 5 wr B v (l ++ List.replicate k 0) ∧ Below B w wr) (fun _ iv _ => K - (intOf iv).toNat)
  case atStart => exact ⟨0, Nat.zero_le _, rfl, by simpa using hown, Below.refl _ _⟩
  case round =>
    clear hown
    obtain ⟨k, hk, rfl, ho, hb⟩ := hrel
    have hbs := hb.size
    by_cases hlt : k < K
    · go_wp2_with (at_builtin; refine wpList_own_push rfl _ _ 44 rfl B 5 _ i0 (.int .u8 0) 1 1 Try.underlying44 hi hz0 hz1 hz2 rfl (by decide) _ _ 1 _ _ [.int .u8 0] ho rfl rfl rfl rfl ?c1 ?c2 ?c3 ?c4 ?_)
      case c1 => intro u hu; simp at hu; subst hu; rfl
      case c2 => simp [maxLen]; omega
      case c3 => simp; omega
      case c4 => omega
      intro v' w1 ho1 hb1
      have R : Own8 5 w1 B v' (l ++ List.replicate (k + 1) 0) := by
        rw [List.replicate_succ']
        exact own8_of ho1 (by simp; omega) (by simp [bcell])
      have hbl := hb.trans hb1
      clear ho1 ho hb1
      go_wp2
      go_roundw
      case rel => exact ⟨k + 1, by omega, by simp, R, hbl⟩
      case measure => simp [intOf]; omega
    · obtain rfl : k = K := by omega
      obtain ⟨q1, q2⟩ := ho
      rcases q2 with ⟨rfl, h0⟩ | ⟨g, cap', cur, rfl, hg⟩
      · simp at h0; omega
      have ho2 : Own8 5 wr B (.slice (some ⟨g, 0, none⟩) (l ++ List.replicate k 0).length cap') (l ++ List.replicate k 0) := ⟨q1, .inr ⟨g, cap', cur, rfl, hg⟩⟩
      have hgB : B ≤ g := hg.1
      clear q1 hg
      simp only [List.length_append, List.length_replicate] at ho2 ⊢
      go_wp2
      have hw0 := hb
      clear hb hbs
      go_loopw [1, 8] (fun nv iv wr => ∃ j : Nat, j ≤ k ∧ iv = .int .i64 ((k : Int) - 1 - (j : Int)) ∧ nv = .int .i64 ((n / 10 ^ j : Nat) : Int) ∧ Own8 5 wr B (.slice (some ⟨g, 0, none⟩) (l.length + k) cap') ((l ++ List.replicate (k - j) 0) ++ digs n j) ∧ Below B w wr) (fun _ iv _ => (intOf iv + 1).toNat)
      case atStart => exact ⟨0, Nat.zero_le _, by simp, by simp, by simpa [digs] using ho2, hw0⟩
      case round =>
        clear ho2 hw0
        obtain ⟨j, hj, rfl, rfl, ho, hb⟩ := hrel
        by_cases hlt : j < k
        · obtain ⟨q, hq⟩ : ∃ q, k = j + 1 + q := ⟨k - j - 1, by omega⟩
          subst hq
          have e1 : j + 1 + q - j = q + 1 := by omega
          rw [e1] at ho
          have hlen : (((l ++ List.replicate (q + 1) 0) ++ digs n j).map bcell).length = l.length + (j + 1 + q) := by simp [digs_len]; omega
          have hof : ((j + 1 + q : Nat) : Int) - 1 - (j : Int) = (q : Int) := by omega
          have ho' : wr.ownsRow B 5 1 (.slice (some ⟨g, 0, none⟩) (l.length + (j + 1 + q)) cap') (l.length + (j + 1 + q)) (((l ++ List.replicate (q + 1) 0) ++ digs n j).map bcell) := by
            have h := ho
            unfold Own8 at h
            have hL : ((l ++ List.replicate (q + 1) 0) ++ digs n j).length = l.length + (j + 1 + q) := by rw [← hlen, List.length_map]
            rw [hL] at h
            exact h
          have hc : wr.cell? ⟨g, l.length + q, none⟩ = some (bcell 0) := by
            rw [ho'.cellAt _ (by omega)]
            rw [List.replicate_succ']
            simp
          have hf : wr.frozen? ⟨g, l.length + q, none⟩ = false := ho'.frozenAt _
          have hst := (ho'.stored (l.length + q) (bcell (dig (n / 10 ^ j)))).1
          rw [set_mid l q j (digs n j) _ (digs_len n j)] at hst
          have R : Own8 5 (wr.setCell ⟨g, l.length + q, none⟩ (bcell (dig (n / 10 ^ j)))) B (.slice (some ⟨g, 0, none⟩) (l.length + (j + 1 + q)) cap') ((l ++ List.replicate q 0) ++ digs n (j + 1)) := by
            refine own8_of hst (by simp [digs_len]; omega) rfl
          have hbl : Below B w (wr.setCell ⟨g, l.length + q, none⟩ (bcell (dig (n / 10 ^ j)))) := hb.setCell hgB _
          have hdiv : n / 10 ^ (j + 1) = n / 10 ^ j / 10 := by rw [Nat.pow_succ, Nat.div_div_eq_div_mul]
          have hmm : n / 10 ^ j ≤ n := Nat.div_le_self _ _
          clear hst ho ho' hlen e1 hb
          generalize n / 10 ^ j = M at *
          have hdv : bcell (dig M) = .int .u8 (48 + (M : Int) % 10) := by
            unfold bcell
            rw [dig_nat]
            congr 1
          rw [hdv] at R hbl
          have HD := Lib.hid hdiv
          have HR := Lib.hid R
          have HB := Lib.hid hbl
          have hm : (M : Int) ≤ 100000 := by omega
          clear hdv hdiv R hbl
          rw [hof]
          clear hof
          go_wp2
          refine ⟨⟨j + 1, by omega, ?_, ?_, ?_, HB.out⟩, ?_⟩
          · congr 1; omega
          · rw [HD.out]; congr 1
          · rw [show j + 1 + q - (j + 1) = q from by omega]; exact HR.out
          · (simp [intOf]) <;> omega
        · obtain rfl : j = k := by omega
          rw [Nat.sub_self] at ho
          have hi : ((j : Int) - 1 - (j : Int)) = -1 := by omega
          rw [hi]
          clear hi
          go_wp2
          go_ret
          exact ⟨_, rfl, by simpa using ho, hb⟩

/-- A day as a text. -/
def showL (y m d : Int) : List UInt8 := digs y.toNat 4 ++ [45] ++ digs m.toNat 2 ++ [45] ++ digs d.toNat 2
def showS (y m d : Int) : ByteArray := if dayB y m d then ⟨(showL y m d).toArray⟩ else ByteArray.empty

set_option maxHeartbeats 2000000 in
theorem show_any (y m d : Int) (w : World) : Calls Try.prog 15 #[.agg #[.int .i64 y, .int .i64 m, .int .i64 d]] w fun e w' => e = .returned (.string (showS y m d)) ∧ Ext w w' := by
  obtain ⟨i0, hi, hz0, hz1, hz2⟩ := info_parts Try.infoU8
  have hv : showS y m d = if dayB y m d then ⟨(showL y m d).toArray⟩ else ByteArray.empty := rfl
  cases hb : dayB y m d
  · rw [hb] at hv
    have HV := Lib.hid hv
    clear hv
    go_enter Try.func15, Try.ntmps15
    go_wp2_with (go_at_call 19; refine (dateRight_any _ _ _ _).mono ?_; rintro e w' ⟨rfl, hx⟩)
    go_ret
    exact ⟨by rw [HV.out]; rfl, (by repeat (first | exact Ext.refl _ | assumption | refine Ext.trans ?_ (by assumption) | refine Ext.alloc ?_ _ | refine Ext.drew ?_ | refine Ext.drewN ?_ _))⟩
  · rw [hb] at hv
    have HV := Lib.hid hv
    clear hv
    obtain ⟨a1, a2, a3, a4, a5, a6⟩ := dayB_of hb
    obtain ⟨l1, l2⟩ := lenI_bd y m
    obtain ⟨Y, rfl⟩ := Int.eq_ofNat_of_zero_le (by omega : 0 ≤ y)
    obtain ⟨M, rfl⟩ := Int.eq_ofNat_of_zero_le (by omega : 0 ≤ m)
    obtain ⟨D, rfl⟩ := Int.eq_ofNat_of_zero_le (by omega : 0 ≤ d)
    go_enter Try.func15, Try.ntmps15
    go_wp2_with (go_at_call 19; refine (dateRight_any _ _ _ _).mono ?_; rintro e w' ⟨rfl, hx⟩; obtain ⟨hc, hf⟩ := Ext.bc hx)
    have hcy : w'.cell? ⟨w.heap.size, 0, none⟩ = some (.int .i64 (Y : Int)) := by rw [hc _ _ (by simp)]; simp
    have hcm : w'.cell? ⟨w.heap.size, 1, none⟩ = some (.int .i64 (M : Int)) := by rw [hc _ _ (by simp)]; simp
    have hcd : w'.cell? ⟨w.heap.size, 2, none⟩ = some (.int .i64 (D : Int)) := by rw [hc _ _ (by simp)]; simp
    have hz : w.heap.size < w'.heap.size := by have := hx.size; simp at this; omega
    clear hc hf
    go_wp2_with fail
    refine (put_any w'.heap.size (.slice none 0 0) [] Y 4 w' (Nat.le_refl _) (World.ownsRow_nil _ _ _ _) (by simp) (by omega) (by decide) (by decide)).mono ?_
    rintro e w1 ⟨v1, rfl, ho1, hb1⟩
    have hb1s := hb1.size
    have hcm1 : w1.cell? ⟨w.heap.size, 1, none⟩ = some (.int .i64 (M : Int)) := by rw [hb1.cell (p := ⟨w.heap.size, 1, none⟩) hz]; exact hcm
    have hcd1 : w1.cell? ⟨w.heap.size, 2, none⟩ = some (.int .i64 (D : Int)) := by rw [hb1.cell (p := ⟨w.heap.size, 2, none⟩) hz]; exact hcd
    go_wp2_with (at_builtin; refine wpList_own_push rfl _ _ 44 rfl w'.heap.size 5 _ i0 (.int .u8 0) 1 1 Try.underlying44 hi hz0 hz1 hz2 rfl (by decide) _ _ 1 _ _ [.int .u8 45] ho1 rfl rfl rfl rfl ?c1 ?c2 ?c3 ?c4 ?_)
    case c1 => intro u hu; simp at hu; subst hu; rfl
    case c2 => simp [maxLen, digs_len]
    case c3 => simp [digs_len]
    case c4 => omega
    intro v2 w2 ho2 hb2
    have hb2s := hb2.size
    have R2 : Own8 5 w2 w'.heap.size v2 (digs Y 4 ++ [45]) := own8_of ho2 (by simp <;> omega) (by simp [bcell])
    have hcm2 : w2.cell? ⟨w.heap.size, 1, none⟩ = some (.int .i64 (M : Int)) := by rw [hb2.cell (p := ⟨w.heap.size, 1, none⟩) hz]; exact hcm1
    have hcd2 : w2.cell? ⟨w.heap.size, 2, none⟩ = some (.int .i64 (D : Int)) := by rw [hb2.cell (p := ⟨w.heap.size, 2, none⟩) hz]; exact hcd1
    clear ho2 ho1 hcm1 hcd1
    go_wp2_with fail
    refine (put_any w'.heap.size v2 _ M 2 w2 (by omega) R2 (by simp [digs_len]) (by omega) (by decide) (by decide)).mono ?_
    rintro e w3 ⟨v3, rfl, ho3, hb3⟩
    have hb3s := hb3.size
    have hcd3 : w3.cell? ⟨w.heap.size, 2, none⟩ = some (.int .i64 (D : Int)) := by rw [hb3.cell (p := ⟨w.heap.size, 2, none⟩) hz]; exact hcd2
    clear R2 hcm2 hcd2
    go_wp2_with (at_builtin; refine wpList_own_push rfl _ _ 44 rfl w'.heap.size 5 _ i0 (.int .u8 0) 1 1 Try.underlying44 hi hz0 hz1 hz2 rfl (by decide) _ _ 1 _ _ [.int .u8 45] ho3 rfl rfl rfl rfl ?d1 ?d2 ?d3 ?d4 ?_)
    case d1 => intro u hu; simp at hu; subst hu; rfl
    case d2 => simp [maxLen, digs_len]
    case d3 => simp [digs_len]
    case d4 => omega
    intro v4 w4 ho4 hb4
    have hb4s := hb4.size
    have R4 : Own8 5 w4 w'.heap.size v4 (digs Y 4 ++ [45] ++ digs M 2 ++ [45]) := own8_of ho4 (by simp <;> omega) (by simp [bcell])
    have hcd4 : w4.cell? ⟨w.heap.size, 2, none⟩ = some (.int .i64 (D : Int)) := by rw [hb4.cell (p := ⟨w.heap.size, 2, none⟩) hz]; exact hcd3
    clear ho4 ho3 hcd3
    go_wp2_with fail
    refine (put_any w'.heap.size v4 _ D 2 w4 (by omega) R4 (by simp [digs_len]) (by omega) (by decide) (by decide)).mono ?_
    rintro e w5 ⟨v5, rfl, ho5, hb5⟩
    have hcv := run_conv_str (P := Try.prog) w5 44 9 5 Try.underlying44 Try.underlying5 Try.underlying9 _ v5 _ ho5.slr
    clear R4
    go_wp2_with (with_reducible refine wpList_conv rfl _ _ _ rfl _ _ rfl hcv ?_)
    go_ret
    have e5 : Ext w' w5 := ((hb1.trans hb2).trans (hb3.trans hb4)).trans hb5
    exact ⟨by rw [HV.out]; rfl, (by repeat (first | exact Ext.refl _ | assumption | refine Ext.trans ?_ (by assumption) | refine Ext.alloc ?_ _ | refine Ext.drew ?_ | refine Ext.drewN ?_ _))⟩
end Go.Proofs.Yteoohgkaejgoaaa
