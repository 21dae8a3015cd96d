/- The law PackWrites of package impostlaw2: the walk. -/
import Derived.Test.YtmhppikbnobedaaItems
import Derived.Test.YtmhppikbnobedaaRoomy8
import Derived.Test.YtmhppikbnobedaaPackOne
import Derived.Deep.RegionHeld3
namespace Go.Proofs.Ytmhppikbnobedaa
open Go.RowKit

/-- The cells of an item of a slice that came in, later. -/
theorem ArgI.at_ {w wr : World} {a : Option Addr} {n cap : Nat} {xs : List Itm} (h : ArgI w (.slice a n cap) xs) (hx : Ext w wr) (hn : 0 < xs.length) : ∃ b off, a = some ⟨b, off, none⟩ ∧ n = xs.length ∧ b < w.heap.size ∧
    ∀ k (hk : k < xs.length), wr.cell? ⟨b, off + k * 6, none⟩ = some (.int .i64 (xs[k]).kind) ∧ wr.cell? ⟨b, off + k * 6 + 1, none⟩ = some (.int .i64 (xs[k]).n) ∧ wr.cell? ⟨b, off + k * 6 + 2, none⟩ = some (.int .i64 (xs[k]).lo) ∧
      wr.cell? ⟨b, off + k * 6 + 3, none⟩ = some (.int .i64 (xs[k]).hi) ∧ wr.cell? ⟨b, off + k * 6 + 4, none⟩ = some (.string (xs[k]).s) ∧ wr.cell? ⟨b, off + k * 6 + 5, none⟩ = some (.bool (xs[k]).f) := by
  obtain ⟨a', cap', he, _, _, h3⟩ := h.form
  simp only [Value.slice.injEq] at he
  obtain ⟨rfl, rfl, rfl⟩ := he
  rcases h3 with h0 | ⟨b, off, rfl, hb, hc⟩
  · omega
  · refine ⟨b, off, rfl, rfl, hb, fun k hk => ?_⟩
    have g : ∀ j, j < 6 → wr.cell? ⟨b, off + k * 6 + j, none⟩ = (xs[k]).cells[j]? := fun j hj => by
      rw [hx.cell (p := ⟨b, off + k * 6 + j, none⟩) hb, Nat.add_assoc]
      exact hc k hk j hj
    exact ⟨g 0 (by decide), g 1 (by decide), g 2 (by decide), g 3 (by decide), g 4 (by decide), g 5 (by decide)⟩

theorem bcell_turn (b : UInt8) : Value.int .u8 (255 - (b.toNat : Int)) = bcell (255 - b) := by
  unfold bcell
  congr 1
  have := b.toNat_lt
  rw [UInt8.toNat_sub]
  simp
  omega
theorem keepI (w x : World) (b off k : Nat) {v0 v1 v2 v3 v4 v5 : Value} (c0 : w.cell? ⟨b, off + k * 6, none⟩ = some v0) (c1 : w.cell? ⟨b, off + k * 6 + 1, none⟩ = some v1) (c2 : w.cell? ⟨b, off + k * 6 + 2, none⟩ = some v2)
    (c3 : w.cell? ⟨b, off + k * 6 + 3, none⟩ = some v3) (c4 : w.cell? ⟨b, off + k * 6 + 4, none⟩ = some v4) (c5 : w.cell? ⟨b, off + k * 6 + 5, none⟩ = some v5) (h : Ext w x) :
    Ext w x ∧ x.cell? ⟨b, off + k * 6, none⟩ = some v0 ∧ x.cell? ⟨b, off + k * 6 + 1, none⟩ = some v1 ∧ x.cell? ⟨b, off + k * 6 + 2, none⟩ = some v2 ∧ x.cell? ⟨b, off + k * 6 + 3, none⟩ = some v3 ∧ x.cell? ⟨b, off + k * 6 + 4, none⟩ = some v4 ∧ x.cell? ⟨b, off + k * 6 + 5, none⟩ = some v5 := by
  have hb := World.block_lt_of_cell? w _ c0
  have g : ∀ o, x.cell? ⟨b, o, none⟩ = w.cell? ⟨b, o, none⟩ := fun o => h.cell (p := ⟨b, o, none⟩) hb
  exact ⟨h, (g _).trans c0, (g _).trans c1, (g _).trans c2, (g _).trans c3, (g _).trans c4, (g _).trans c5⟩

set_option maxHeartbeats 8000000 in
set_option maxRecDepth 100000 in
theorem packWrites_any (v : Value) (l : List UInt8) (a : Option Addr) (cap : Nat) (xs : List Itm) (w : World) (hr : Rd8 w v l) (hi : ArgI w (.slice a xs.length cap) xs) (hl : l.length ≤ 2000000) (hxs : ∀ x ∈ xs, x.ok ∧ x.s.size ≤ 2000000) (hnn : xs.length ≤ 2000000) :
    Calls Try.prog 4 #[v, .slice a xs.length cap] w fun e w' => e = .returned (.bool true) ∧ Ext w w' := by
  have hr0 := hr
  obtain ⟨_, _, av, cv, rfl, _⟩ := hr0
  go_enter Try.func4, Try.ntmps4
  go_wp2_with fail
  refine (roomy8 _ l 33 _ hr (by omega)).mono ?_
  rintro e w1 ⟨g, rfl, ho, hx1⟩
  go_wp2_with fail
  go_loopw [6] (fun iv wr => ∃ k : Nat, k ≤ xs.length ∧ iv = .int .i64 (k : Int) ∧ Ext w1 wr) (fun iv _ => xs.length - (intOf iv).toNat)
  case atStart => exact ⟨0, by omega, rfl, Ext.refl _⟩
  case round =>
    obtain ⟨k, hk, rfl, hxr⟩ := hrel
    have hor := own_ext ho hxr
    by_cases hlt : k < xs.length ∧ k < 100
    · obtain ⟨h1, h2⟩ := hlt
      have hkl : k < xs.length := by omega
      obtain ⟨b, off, rfl, _, hb, hat⟩ := hi.at_ (hx1.trans hxr) (by omega)
      obtain ⟨c0, c1, c2, c3, c4, c5⟩ := hat k hkl
      have hok := hxs _ (List.getElem_mem hkl)
      have hd1 : decide ((k : Int) < (xs.length : Int)) = true := decide_eq_true (by omega)
      have hd2 : decide ((k : Int) < 100) = true := decide_eq_true (by omega)
      generalize xs[k] = x at *
      go_wp2
      have i1 : (0 : Int) ≤ (k : Int) := by omega
      have i2 : (k : Int) < (xs.length : Int) := by omega
      have i3 : (l.length : Int) ≤ (l.length : Int) + 80 := by omega
      have hrf : Rd8 wr (.slice (some ⟨g, 0, none⟩) l.length (l.length + 80)) l := by
        have h3 := Rd8.cut (Own8.rd hor) l.length (by simp) (l.length + 80)
        simpa using h3
      have hb2 : l.length + (if x.kind = 2 then x.s.size else 0) ≤ 140737488355300 := by
        have := hok.2
        split <;> omega
      have hput := fun v w hr => put_any v l x w hr hok.1 hb2
      simp only [Itm.cells] at hput
      have HP := Lib.hid hput
      clear hput hb2
      go_region_held3 (fun z => Ext wr z ∧ z.cell? ⟨b, off + k * 6, none⟩ = some (.int .i64 x.kind) ∧ z.cell? ⟨b, off + k * 6 + 1, none⟩ = some (.int .i64 x.n) ∧ z.cell? ⟨b, off + k * 6 + 2, none⟩ = some (.int .i64 x.lo) ∧
          z.cell? ⟨b, off + k * 6 + 3, none⟩ = some (.int .i64 x.hi) ∧ z.cell? ⟨b, off + k * 6 + 4, none⟩ = some (.string x.s) ∧ z.cell? ⟨b, off + k * 6 + 5, none⟩ = some (.bool x.f))
        ((refine keepI _ _ _ _ _ c0 c1 c2 c3 c4 c5 ?_; repeat (first | exact Ext.refl _ | assumption | refine Ext.trans ?_ (by assumption) | refine Ext.alloc ?_ _ | refine Ext.drew ?_ | refine Ext.drewN ?_ _)))
        (first
          | (go_at_call 23; (with_reducible refine (HP.out _ _ (hrf.ext (by repeat (first | exact Ext.refl _ | assumption | refine Ext.trans ?_ (by assumption) | refine Ext.alloc ?_ _ | refine Ext.drew ?_ | refine Ext.drewN ?_ _)))).mono ?_); rintro e x1 ⟨v1, v2, rfl, ho1, ho2, hx2⟩))
      all_goals
        have hB := (Ext.trans (Ext.drew (Ext.refl wr)) hx2)
        have hsz := hB.size
        have ho1 : Own8 5 x1 wr.heap.size v1 (l ++ putL x) := ho1
        have ho2 : Own8 5 x1 wr.heap.size v2 (l ++ putL x) := ho2
        obtain ⟨ap, cp, rfl, hlc, hcm⟩ := own8_form ho1
        have hll : (l ++ putL x).length ≤ 4000100 := by
          have := hok.2
          have q1 := numL_len x.s.size
          have q2 := numL_len x.n
          have q3 := numL_len (if x.f then 1 else 0)
          simp only [List.length_append, putL]
          split
          · simp only [textL, List.length_append, bytesOf_len]; omega
          · split <;> omega
        generalize l ++ putL x = L at *
        clear HP c0 c1 c2 c3 c4 c5 hat hd1 hd2 i1 i2 i3
        go_wp2_with fail
        refine (same_yes _ _ _ _ _ (Own8.rd ho1) (Own8.rd ho2) rfl).mono ?_
        rintro e x2 ⟨rfl, hx3⟩
        have ho3 : Own8 5 x2 wr.heap.size (.slice ap L.length cp) L := own_ext ho1 hx3
        have hx4 := hB.trans hx3
        clear ho1 ho2 hB hx2 hx3 hsz
        go_wp2_with fail
        go_loopw [9] (fun jv wz => ∃ (j : Nat) (M : List UInt8), j ≤ L.length ∧ jv = .int .i64 (j : Int) ∧ M.length = L.length ∧ Own8 5 wz wr.heap.size (.slice ap L.length cp) M ∧ Ext wr wz) (fun jv _ => L.length - (intOf jv).toNat)
        case atStart => exact ⟨0, L, by omega, rfl, rfl, ho3, hx4⟩
        case round =>
          obtain ⟨j, M, hj, rfl, hM, hoM, hxz⟩ := hrel
          by_cases hjl : j < L.length
          · obtain ⟨gp, rfl⟩ : ∃ gp, ap = some ⟨gp, 0, none⟩ := by
              rcases hoM.2 with ⟨h, h0⟩ | ⟨g', cap', cur, h, _⟩
              · omega
              · simp only [Value.slice.injEq] at h
                exact ⟨g', h.1⟩
            obtain ⟨d1, d2, d3, d4⟩ := own8_at hoM hM.symm j (by omega)
            have hb := M[j].toNat_lt
            have hset := own8_set hoM hM.symm j (255 - M[j]) (by omega)
            have hcell := bcell_turn M[j]
            rw [← hcell] at hset
            simp only [bcell] at d1
            clear hcell
            generalize M[j].toNat = y at *
            generalize 255 - M[j] = z at *
            have hxw := fun u => hxz.setCell (p := ⟨gp, j, none⟩) d3 u
            go_wp2
            refine ⟨⟨j + 1, M.set j z, by omega, by simp, by simpa using hM, hset, hxw _⟩, ?_⟩
            simp [intOf]; omega
          · go_wp2
            refine ⟨⟨k + 1, by omega, by simp, hxr.trans hxz⟩, ?_⟩
            simp [intOf]; omega
    · have hrw := hr.ext (hx1.trans hxr)
      have hW := hx1.trans hxr
      have hd : ¬ k < xs.length ∨ (k < xs.length ∧ decide ((k : Int) < 100) = false) := by
        by_cases h : k < xs.length
        · exact .inr ⟨h, decide_eq_false (by omega)⟩
        · exact .inl h
      rcases hd with hd | ⟨hd, hd2⟩
      all_goals
        go_wp2_with fail
        refine (intact8 g _ l 33 _ w.heap.size hor hrw (by omega)).mono ?_
        rintro e x1 ⟨rfl, hx2⟩
        go_wp2_with (go_at_call 3; refine (packRuns_any _).mono ?_; rintro e w' ⟨rfl, hx⟩)
        go_ret
        exact ⟨rfl, (hW.trans hx2).trans hx⟩
end Go.Proofs.Ytmhppikbnobedaa
