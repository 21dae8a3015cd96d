/- Arguments opened: a slice of bytes; a slice of structs of cells. No function of the program is named. -/
import Derived.Test.YteenkbfmlnpmlaaLaw
import Derived.Test.YteenkbfmlnpmlaaPackW
import Derived.ChangeSlices
import Derived.Deep.Slices
namespace Go.Proofs.Yteenkbfmlnpmlaa
open Go.ChangeShapes Go.WideShapes Go.RowKit
section
variable {H : Type} {enc : TypeId × Value → H} {P : Program} {w : World} {base : Nat} {spare : Nat → Bool} {held : Bool}

/-- Bytes that came in. -/
structure Arg8 (w : World) (v : Value) (l : List UInt8) : Prop where
  rd : Rd8 w v l
  form : ∃ a cap, v = .slice a l.length cap ∧ l.length ≤ cap ∧ cap ≤ maxLen

theorem open_bytes {r : Reach} {b0 : Nat} {t e : TypeId} {v : Value} {d : DataW H} {p : List MemPlace} (ht : P.underlying t = some (.slice e)) (he : P.underlying e = some (.int .u8)) (hc : P.cellsOf e = 1) (hb : P.bytesOf e = 1)
    (hv : Value.okWide P w r b0 t v) (h : DataW.Trod enc P w base spare held t v d p) : ∃ l : List UInt8, Arg8 w v l ∧ ((∀ n ∈ d.weights P t, n ≤ 140737488351232) → l.length ≤ 140737488351232) ∧ (l = [] ∨ ∃ ds sp, d = .slice ds sp ∧ ds.length = l.length) := by
  obtain ⟨a0, len0, cap0, rfl⟩ := okWide_slice ht hv
  obtain ⟨fuel, hf⟩ := h
  rcases open_ints ht he hc hf with ⟨hcs, hx⟩ | ⟨a, len, cap, zs, hcs, hb0, hlc, hcm, hzl, hx, hcell, hwf⟩
  · simp only [Value.cells, List.cons.injEq, Value.slice.injEq, and_true] at hcs
    obtain ⟨rfl, rfl, rfl⟩ := hcs
    exact ⟨[], ⟨Rd8.nil w, none, 0, rfl, Nat.le_refl _, Nat.zero_le _⟩, fun _ => Nat.zero_le _, .inl rfl⟩
  · simp only [Value.cells, List.cons.injEq, Value.slice.injEq, and_true] at hcs
    obtain ⟨rfl, rfl, rfl⟩ := hcs
    have hle : len0 ≤ zs.length := by rw [hzl]; split <;> omega
    have hl : ((zs.take len0).map fun n => UInt8.ofNat n.toNat).length = len0 := by simp; omega
    have hbd : ∀ n ∈ zs, 0 ≤ n ∧ n < 256 := fun n hn => by
      have := hwf n hn
      simp [Lit.wf, IntKind.min, IntKind.max, IntKind.signed, IntKind.bits] at this
      omega
    refine ⟨(zs.take len0).map fun n => UInt8.ofNat n.toNat, ⟨?_, some a, cap0, by rw [hl], by rw [hl]; exact hlc, hcm⟩, fun hw => ?_, .inr ⟨_, _, congrArg Prod.fst hx, ?_⟩⟩
    · refine ⟨by simp, by rw [hl]; unfold maxLen at *; omega, some a, cap0, by rw [hl], ?_⟩
      rw [hl]
      by_cases h0 : len0 = 0
      · exact .inl h0
      · right
        obtain ⟨b, off, sp⟩ := a
        have h00 := hcell 0 (by omega)
        have hsp : sp = none := by simpa [Addr.add] using World.cell?_spot h00
        subst hsp
        refine ⟨b, off, rfl, by simpa using World.block_lt_of_cell? w ⟨b, off, none⟩ (by simpa [Addr.add] using h00), fun j hj => ?_⟩
        have e1 : (⟨b, off, none⟩ : Addr).add j = ⟨b, off + j, none⟩ := by unfold Addr.add; split <;> simp_all
        rw [← e1, hcell j (by omega)]
        have hj2 : j < zs.length := by omega
        have hz : zs.getD j 0 = zs[j] := by simp [List.getD, hj2]
        rw [hz]
        have hz2 := hbd zs[j] (List.getElem_mem _)
        simp only [List.map_map, List.getElem?_map, List.getElem?_take_of_lt (by omega : j < len0), List.getElem?_eq_getElem hj2, Option.map_some, Function.comp]
        rw [bcell_of _ hz2.1 hz2.2]
    · have hxe : d = .slice (lits .u8 (zs.take len0)) (lits .u8 (zs.drop len0)) := congrArg Prod.fst hx
      subst hxe
      have := hw ((lits (H := H) .u8 (zs.take len0)).length + (lits (H := H) .u8 (zs.drop len0)).length) (by simp [DataW.weights, ht, hb])
      simp only [lits, List.length_map, List.length_take, List.length_drop] at this
      rw [hl]
      omega
    · rw [hl]
      simp [lits]
      omega
end
end Go.Proofs.Yteenkbfmlnpmlaa
