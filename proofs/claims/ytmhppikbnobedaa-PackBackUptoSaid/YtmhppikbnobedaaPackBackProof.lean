/- The law PackBack of package impostlaw2 answers true, for every argument of bulk at most 1048576 and in every world: the given second statement, without a further condition. -/
import Derived.Test.YtmhppikbnobedaaLaw
import Derived.Test.YtmhppikbnobedaaBulk
import Derived.Test.YtmhppikbnobedaaPackBack
namespace Go.Proofs.Ytmhppikbnobedaa.packBack
open Go.ChangeShapes Go.WideShapes Go.ChangeAt Go.RowKit
open Go.ChangeMaps (open_string shut_string)

theorem items_small {H : Type} {d : DataW H} {xs : List Itm} (hb : Rows.uptoBulk d ≤ 1048576) (hn : ∀ x ∈ xs, -9223372036854775808 ≤ x.n ∧ x.n ≤ 9223372036854775807)
    (hd : d = .nil ∧ xs = [] ∨ ∃ ds sp, d = .slice ds sp ∧ ds.length = xs.length ∧ ∀ i (h : i < xs.length), ∃ e0 e1 e2 e3 e5, ds[i]? = some (.agg [e0, e1, e2, e3, .lit (.string (xs[i]).s.data.toList), e5])) :
    xs.length ≤ 1048576 ∧ ∀ x ∈ xs, x.ok ∧ x.s.size ≤ 1048576 := by
  rcases hd with ⟨_, rfl⟩ | ⟨ds, sp, rfl, hl, he⟩
  · exact ⟨by simp, fun x hx => by cases hx⟩
  · have h1 := bulk_slice_len ds sp
    refine ⟨by omega, fun x hx => ?_⟩
    obtain ⟨i, hi, rfl⟩ := List.getElem_of_mem hx
    obtain ⟨e0, e1, e2, e3, e5, hg⟩ := he i hi
    have hm := bulk_mem (List.mem_of_getElem? hg)
    have hs := bulk_slice ds sp
    have ha := bulk_agg (H := H) (d := .lit (.string (xs[i]).s.data.toList)) (l := [e0, e1, e2, e3, .lit (.string (xs[i]).s.data.toList), e5]) (by simp)
    rw [bulk_string] at ha
    have hz : (xs[i]).s.data.toList.length = (xs[i]).s.size := by rw [Array.length_toList]; rfl
    have := hn _ hx
    exact ⟨⟨this.1, this.2, by omega⟩, by omega⟩

set_option maxRecDepth 100000 in
theorem lifted (os : Os) (started : os.Started) (H : Type) (enc : TypeId × Value → H) (F : Stop.Interp) :
    ReturnsInHanded {} Try.checked os 5 .any ((Rows.OpenSpec.upto Rows.packBackSpec).pre6 enc Try.prog Try.f5 Rows.packBackUptoRow.domain false) (((Rows.OpenSpec.upto Rows.packBackSpec).at F).post enc Try.prog Try.f5 false true false false) := by
  refine returnsInHanded_of_cond (C := Try.checked) (s := Rows.OpenSpec.upto Rows.packBackSpec) (k := Rows.uptoSmall) rfl Try.own started (by kernel_rfl) Try.func5
    (OpenSpec.witness (enc := enc) (C := Try.checked) (s := Rows.OpenSpec.upto Rows.packBackSpec) (k := Rows.uptoSmall) rfl false ⟨#[], #[.slice none 0 0, .slice none 0 0], []⟩ 8 (by kernel_rfl) (by kernel_rfl) (by kernel_rfl) (x := ([.nil, .nil], [], [])) (by kernel_rfl) rfl (by kernel_rfl)) ?_
  intro W base args ds gs before hval0 hW hcnd hk _
  have hval : ∀ (j : Nat) t v, Try.f5.params[j]? = some t → args[j]? = some v → Value.okWide Try.prog W .any base t v := hval0
  have hW' := hW
  obtain ⟨p, q, hA0, hV, rfl, hfz, hnd⟩ := hW
  have hA : DataW.TrodAll enc Try.prog W 0 (fun _ => true) true Try.f5.params.toList args.toList ds p := hA0
  rw [Try.params5] at hA hval
  obtain ⟨rfl, rfl⟩ := trodVars_none hV
  obtain ⟨v0, vs0, d0, ds0, p0, q0, hargs, rfl, rfl, h0, r0⟩ := trodAll_cons hA
  obtain ⟨v1, vs1, d1, ds1, p1, q1, rfl, rfl, rfl, h1, r1⟩ := trodAll_cons r0
  obtain ⟨rfl, rfl, rfl⟩ := trodAll_nil r1
  obtain rfl : args = #[v0, v1] := by cases args; simp_all
  obtain ⟨xs, hi, hn, hd⟩ := open_items (hval 0 36 v0 rfl rfl) h0
  obtain ⟨l, ⟨hrd, _⟩, _, hl⟩ := open_bytes Try.underlying22 Try.underlying5 (by kernel_rfl) (by kernel_rfl) (hval 1 22 v1 rfl rfl) h1
  obtain ⟨s1, s2⟩ := items_small (bulk_small hk (d := d0) (by simp)) hn hd
  have hll : l.length ≤ 1048576 := by
    rcases hl with rfl | ⟨ds, sp, rfl, e⟩
    · simp
    · have := bulk_slice_len ds sp
      have := bulk_small hk (d := .slice ds sp) (by simp)
      omega
  have hform := hi.form
  obtain ⟨a, cap, rfl, _⟩ := hform
  refine (packBack_any v1 l a cap xs W hrd hi (by omega) s2 (by omega)).mono fun e W' ⟨he, hb⟩ => ?_
  subst he
  exact ⟨_, rfl, lawPost Try.laidOut (by kernel_rfl) rfl hW' hb rfl Try.underlying4 rfl rfl rfl⟩

/-- The statement. -/
theorem proved : Rows.PackBackUptoSaid :=
  OpenClaim.holds_of_cond 5 Try.f5 rfl rfl rfl rfl rfl rfl rfl ⟨rfl, rfl, rfl, rfl, rfl⟩ rfl rfl rfl rfl rfl (by kernel_rfl) Try.func5 (by kernel_rfl)
    (of_decide_eq_true (by kernel_rfl)) (by unfold Func.isWrapper; first | (rw [if_pos (by decide +kernel)]; kernel_rfl) | (rw [if_neg (by decide +kernel)]; exact ⟨rfl, rfl⟩))
    (fun os started H enc _ F => lifted os started H enc F)
#print axioms proved
end Go.Proofs.Ytmhppikbnobedaa.packBack
