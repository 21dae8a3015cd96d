/- Package command: read, any kind. (Written by genCmdG.py.) -/
import Derived.Test.YteenkbfmlnpmlaaCmdH
import Derived.Test.YteenkbfmlnpmlaaCmdH4
import Derived.Test.YteenkbfmlnpmlaaCmdD
import Derived.Test.YteenkbfmlnpmlaaCmdX
import Derived.Test.YteenkbfmlnpmlaaNumBd
namespace Go.Proofs.Yteenkbfmlnpmlaa
open Go.RowKit

section
variable {B T r p : Nat} {bs : List UInt8} {w : World}
theorem read_ok {k : Int} (hk : 1 ≤ k ∧ k ≤ 8) {s s' : RS} {c : Cm} {ls : List Ln} (hg : gR bs k s = (c, ls, s')) (hc : w.heap[p]? = some (.cells #[.int .i64 k, .string ⟨#[]⟩, .int .i64 0, .string ⟨#[]⟩, .int .i64 0, .int .i64 0, .int .i64 0, .int .i64 0, .int .i64 0, .int .i64 0, .int .i64 0, .slice none 0 0, .string ⟨#[]⟩, .int .i64 0, .int .i64 0] 37 (0, 0))) (h : RdX B T w r bs s) (hT : T ≤ p) : Calls Try.prog 37 #[.pointer (some ⟨r, 0, none⟩), .pointer (some ⟨p, 0, none⟩)] w fun e w' => e = .returned (.tuple #[]) ∧ ∃ a' c', CI w r p bs B T w' #[.int .i64 c.kd, .string c.ser, .int .i64 c.lim, .string c.cat, .int .i64 c.ry, .int .i64 c.rm, .int .i64 c.rd, .int .i64 c.bp, .int .i64 c.dy, .int .i64 c.dm, .int .i64 c.dd, .slice a' ls.length c', .string c.ofs, .int .i64 c.ofn, .int .i64 c.ses] s' ∧ OwnS Ln.cells 4 56 w' w.heap.size (.slice a' ls.length c') ls := by
  have hk' : k = 1 ∨ k = 2 ∨ k = 3 ∨ k = 4 ∨ k = 5 ∨ k = 6 ∨ k = 7 ∨ k = 8 := by omega
  clear hk
  rcases hk' with rfl | rfl | rfl | rfl | rfl | rfl | rfl | rfl
  · have h1 : ((⟨1, (tR bs s).1, (rNum bs (tR bs s).2).1, ⟨#[]⟩, 0, 0, 0, 0, 0, 0, 0, ⟨#[]⟩, 0, 0⟩ : Cm), ([] : List Ln), (rNum bs (tR bs s).2).2) = (c, ls, s') := hg
    cases h1
    refine (read_1 rfl rfl hc h hT).mono ?_
    rintro e w' ⟨rfl, h⟩
    exact ⟨rfl, none, 0, h, nil_own⟩
  · have h1 : ((⟨2, (tR bs s).1, 0, ⟨#[]⟩, 0, 0, 0, 0, 0, 0, 0, ⟨#[]⟩, 0, 0⟩ : Cm), ([] : List Ln), (tR bs s).2) = (c, ls, s') := hg
    cases h1
    refine (read_2 rfl hc h hT).mono ?_
    rintro e w' ⟨rfl, h⟩
    exact ⟨rfl, none, 0, h, nil_own⟩
  · have h1 : ((⟨3, ⟨#[]⟩, 0, (tR bs s).1, (dR bs (tR bs s).2).1.1, (dR bs (tR bs s).2).1.2.1, (dR bs (tR bs s).2).1.2.2, (rNum bs (dR bs (tR bs s).2).2).1, 0, 0, 0, ⟨#[]⟩, 0, 0⟩ : Cm), ([] : List Ln), (rNum bs (dR bs (tR bs s).2).2).2) = (c, ls, s') := hg
    cases h1
    refine (read_3 rfl rfl rfl hc h hT).mono ?_
    rintro e w' ⟨rfl, h⟩
    exact ⟨rfl, none, 0, h, nil_own⟩
  · have h1 : (⟨4, (tR bs s).1, 0, ⟨#[]⟩, 0, 0, 0, 0, (dR bs (tR bs s).2).1.1, (dR bs (tR bs s).2).1.2.1, (dR bs (tR bs s).2).1.2.2, ⟨#[]⟩, 0, 0⟩, lnsAt bs (lcR bs (dR bs (tR bs s).2).2).2 (lcR bs (dR bs (tR bs s).2).2).1, lnSt bs (lcR bs (dR bs (tR bs s).2).2).2 (lcR bs (dR bs (tR bs s).2).2).1) = (c, ls, s') := hg
    cases h1
    refine (read_4 rfl rfl rfl hc h hT).mono ?_
    rintro e w' ⟨rfl, a', c', h, ho⟩
    refine ⟨rfl, a', c', ?_, ?_⟩
    · rw [lnsAt_len]; exact h
    · rw [lnsAt_len]; exact ho
  · have h1 : ((⟨5, (tR bs s).1, 0, ⟨#[]⟩, 0, 0, 0, 0, (dR bs (tR bs s).2).1.1, (dR bs (tR bs s).2).1.2.1, (dR bs (tR bs s).2).1.2.2, (tR bs (dR bs (tR bs s).2).2).1, (rNum bs (tR bs (dR bs (tR bs s).2).2).2).1, 0⟩ : Cm), ([] : List Ln), (rNum bs (tR bs (dR bs (tR bs s).2).2).2).2) = (c, ls, s') := hg
    cases h1
    refine (read_5 rfl rfl rfl rfl hc h hT).mono ?_
    rintro e w' ⟨rfl, h⟩
    exact ⟨rfl, none, 0, h, nil_own⟩
  · have h1 : ((⟨6, ⟨#[]⟩, 0, ⟨#[]⟩, 0, 0, 0, 0, 0, 0, 0, ⟨#[]⟩, 0, 0⟩ : Cm), ([] : List Ln), s) = (c, ls, s') := hg
    cases h1
    refine (read_6 hc h hT).mono ?_
    rintro e w' ⟨rfl, h⟩
    exact ⟨rfl, none, 0, h, nil_own⟩
  · have h1 : ((⟨7, ⟨#[]⟩, 0, ⟨#[]⟩, 0, 0, 0, 0, 0, 0, 0, ⟨#[]⟩, 0, (rNum bs s).1⟩ : Cm), ([] : List Ln), (rNum bs s).2) = (c, ls, s') := hg
    cases h1
    refine (read_7 rfl hc h hT).mono ?_
    rintro e w' ⟨rfl, h⟩
    exact ⟨rfl, none, 0, h, nil_own⟩
  · have h1 : ((⟨8, (tR bs s).1, 0, ⟨#[]⟩, 0, 0, 0, 0, 0, 0, 0, ⟨#[]⟩, 0, 0⟩ : Cm), ([] : List Ln), (tR bs s).2) = (c, ls, s') := hg
    cases h1
    refine (read_8 rfl hc h hT).mono ?_
    rintro e w' ⟨rfl, h⟩
    exact ⟨rfl, none, 0, h, nil_own⟩
end
theorem rNum_z64 (bs : List UInt8) (s : RS) : Z64 (rNum bs s).1 := rNum_bd bs s
theorem gR_kd (bs : List UInt8) (k : Int) (s : RS) (hk : 1 ≤ k ∧ k ≤ 8) : (gR bs k s).1.kd = k := by
  have hk' : k = 1 ∨ k = 2 ∨ k = 3 ∨ k = 4 ∨ k = 5 ∨ k = 6 ∨ k = 7 ∨ k = 8 := by omega
  rcases hk' with rfl | rfl | rfl | rfl | rfl | rfl | rfl | rfl <;> rfl
theorem gR_in (bs : List UInt8) (k : Int) (s : RS) (hk : 1 ≤ k ∧ k ≤ 8) : (gR bs k s).1.In := by
  have hk' : k = 1 ∨ k = 2 ∨ k = 3 ∨ k = 4 ∨ k = 5 ∨ k = 6 ∨ k = 7 ∨ k = 8 := by omega
  have z0 : ∀ n : Int, -8 ≤ n → n ≤ 8 → Z64 n := fun n h1 h2 => ⟨by omega, by omega⟩
  rcases hk' with rfl | rfl | rfl | rfl | rfl | rfl | rfl | rfl <;> constructor <;> first | exact rNum_z64 _ _ | exact z0 0 (by decide) (by decide) | exact z0 1 (by decide) (by decide) | exact z0 2 (by decide) (by decide) | exact z0 3 (by decide) (by decide) | exact z0 4 (by decide) (by decide) | exact z0 5 (by decide) (by decide) | exact z0 6 (by decide) (by decide) | exact z0 7 (by decide) (by decide) | exact z0 8 (by decide) (by decide)
theorem lnsAt_in (bs : List UInt8) (s : RS) (n : Nat) : LnIn (lnsAt bs s n) := by
  intro x hx
  obtain ⟨i, _, rfl⟩ := List.mem_map.1 hx
  exact ⟨rNum_z64 _ _, rNum_z64 _ _⟩
theorem gR_lnin (bs : List UInt8) (k : Int) (s : RS) (hk : 1 ≤ k ∧ k ≤ 8) : LnIn (gR bs k s).2.1 := by
  have hk' : k = 1 ∨ k = 2 ∨ k = 3 ∨ k = 4 ∨ k = 5 ∨ k = 6 ∨ k = 7 ∨ k = 8 := by omega
  rcases hk' with rfl | rfl | rfl | rfl | rfl | rfl | rfl | rfl <;> first | exact lnsAt_in _ _ _ | (intro x hx; cases hx)
theorem gR_ls (bs : List UInt8) (k : Int) (s : RS) (hk : 1 ≤ k ∧ k ≤ 8) : (gR bs k s).1.ls (gR bs k s).2.1 = (gR bs k s).2.1 ∧ (gR bs k s).1.n (gR bs k s).2.1.length = (gR bs k s).2.1.length ∧ (gR bs k s).2.1.length ≤ 12 := by
  have hk' : k = 1 ∨ k = 2 ∨ k = 3 ∨ k = 4 ∨ k = 5 ∨ k = 6 ∨ k = 7 ∨ k = 8 := by omega
  rcases hk' with rfl | rfl | rfl | rfl | rfl | rfl | rfl | rfl
  iterate 3 exact ⟨rfl, rfl, Nat.zero_le _⟩
  · exact ⟨rfl, rfl, by show (lnsAt _ _ _).length ≤ 12; rw [lnsAt_len]; exact (lcR_is _ _).2⟩
  iterate 4 exact ⟨rfl, rfl, Nat.zero_le _⟩
end Go.Proofs.Yteenkbfmlnpmlaa
