/- A region's order of the text, checked by a small table: for regions of many operations, at which the kernel's own run of 'Region.lexB' takes all memory. No function of the program is named. -/
import Derived.Test.YtognipephfedkaaQuietS
namespace Go.Proofs.Ytognipephfedkaa
open Go.RowKit

abbrev OpT := Option Nat × List Nat × List Nat
/-- What an operation writes, at what it looks, on what it waits. -/
def opT (ops : Array Oper) (o : Oper) : OpT := (o.dst, o.looksAt ops, (o.after.toList.filter (Region.binds .any)).map fun e => e.on)
def apartT (x y : OpT) : Bool :=
  (match x.1 with
   | some d => !y.2.1.contains d && y.1 != some d
   | none => true) &&
  (match y.1 with
   | some d => !x.2.1.contains d
   | none => true)
def chkT : Nat → List OpT → Bool
  | _, [] => true
  | k, x :: r => x.2.2.all (fun e => Nat.blt e k) && r.all (fun y => y.2.2.contains k || apartT x y) && chkT (k + 1) r
theorem apart_opT (ops : Array Oper) (x y : Oper) : apartT (opT ops x) (opT ops y) = x.apart ops y := rfl

/-- The array that is true below k. -/
def upTo (n k : Nat) (A : Array Bool) : Prop := A.size = n ∧ ∀ i, i < n → A.getD i true = decide (i < k) ∧ A.getD i false = decide (i < k)
theorem lex_ind (ops : Array Oper) : ∀ (l : List Oper) (k : Nat) (A : Array Bool), (∀ j, l[j]? = ops[k + j]?) → k + l.length = ops.size → upTo ops.size k A → chkT k (l.map (opT ops)) = true → Region.lexFrom .any ops l.length k A = true
  | [], k, A, _, hn, hA, _ => by
    simp only [List.length_nil, Nat.add_zero] at hn
    simp only [List.length_nil, Region.lexFrom, List.isEmpty_iff]
    refine List.eq_nil_iff_forall_not_mem.2 fun j hj => ?_
    obtain ⟨h1, o, ho, _⟩ := mem_ready.1 hj
    have hlt := (Array.getElem?_eq_some_iff.1 ho).1
    rw [(hA.2 j hlt).1] at h1
    simp at h1
    omega
  | o :: l, k, A, hl, hn, hA, hc => by
    simp only [List.map_cons, chkT, Bool.and_eq_true] at hc
    obtain ⟨⟨h1, h2⟩, h3⟩ := hc
    simp only [List.length_cons] at hn
    have hk : k < ops.size := by omega
    have ho : ops[k]? = some o := by have := hl 0; simpa using this.symm
    simp only [List.length_cons, Region.lexFrom, Bool.and_eq_true]
    refine ⟨⟨?_, ?_⟩, lex_ind ops l (k + 1) _ (fun j => by have := hl (j + 1); simpa [Nat.add_assoc, Nat.add_comm 1 j] using this) (by omega) ⟨by simpa using hA.1, fun i hi => ?_⟩ h3⟩
    · rw [List.contains_iff_mem]
      refine mem_ready.2 ⟨by rw [(hA.2 k hk).1]; simp, o, ho, fun e he hb => ?_⟩
      have hm : e.on ∈ (opT ops o).2.2 := List.mem_map.2 ⟨e, List.mem_filter.2 ⟨by simpa using he, hb⟩, rfl⟩
      have hlt := List.all_eq_true.1 h1 _ hm
      have hlt' : e.on < k := by simpa using hlt
      rw [(hA.2 e.on (by omega)).2]
      simp [hlt']
    · unfold Region.free
      simp only [ho]
      refine List.all_eq_true.2 fun j hj => ?_
      have hjn := List.mem_range.1 hj
      rcases Nat.lt_trichotomy j k with hlt | rfl | hgt
      · rw [(hA.2 j hjn).1]; simp [hlt]
      · simp
      · obtain ⟨d, rfl⟩ : ∃ d, j = k + (d + 1) := ⟨j - k - 1, by omega⟩
        have hoj := hl (d + 1)
        simp only [List.getElem?_cons_succ] at hoj
        have hd : d < l.length := by omega
        rw [List.getElem?_eq_getElem hd] at hoj
        rw [← hoj]
        have hm := List.all_eq_true.1 h2 (opT ops l[d]) (List.mem_map.2 ⟨l[d], List.getElem_mem hd, rfl⟩)
        simp only [Bool.or_eq_true] at hm ⊢
        rcases hm with hm | hm
        · refine .inr (.inl ?_)
          rw [List.contains_iff_mem] at hm
          obtain ⟨e, he, hee⟩ := List.mem_map.1 hm
          obtain ⟨he1, he2⟩ := List.mem_filter.1 he
          rw [← Array.any_toList]
          exact List.any_eq_true.2 ⟨e, he1, by simp [he2, hee]⟩
        · exact .inr (.inr hm)
    · obtain ⟨a1, a2⟩ := hA.2 i hi
      have hs : i < A.size := by rw [hA.1]; exact hi
      by_cases hik : i = k
      · subst hik
        simp [hs]
      · have e : ∀ b, (A.setIfInBounds k true).getD i b = A.getD i b := fun b => by simp [Array.getD, hs, Array.getElem_setIfInBounds, Ne.symm hik]
        rw [e, e, a1, a2]
        have : (decide (i < k)) = (decide (i < k + 1)) := by rw [decide_eq_decide]; omega
        exact ⟨this, this⟩

theorem lexB_of (l : List Oper) (T : List OpT) (hs : Region.noSelect l.toArray = true) (hT : l.map (opT l.toArray) = T) (h : chkT 0 T = true) : Region.lexB .any l.toArray = true := by
  subst hT
  rw [Region.lexB, hs, Bool.true_and]
  have := lex_ind l.toArray l 0 (Array.replicate l.toArray.size false) (fun j => by simp) (by simp) ⟨by simp, fun i hi => by
    have hi' : i < l.length := by simpa using hi
    simp [Array.getD, hi']⟩ h
  simpa using this
end Go.Proofs.Ytognipephfedkaa
