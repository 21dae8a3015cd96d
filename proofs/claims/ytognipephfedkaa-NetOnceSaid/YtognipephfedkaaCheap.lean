/- A region whose operations are carried out in the order of the text and only read: walked by the quiet walk's cheap step. No function of the program is named. -/
import Derived.Test.YtognipephfedkaaLex
import Derived.Deep.Cut
namespace Go.Proofs.Ytognipephfedkaa
open Go.RowKit

theorem wpList_of_quiet {P : Program} {ops : Array Oper} {C : World → Prop} {Q : Act → Prop} {Q' : Exit → Act → World → Prop} (hQ : ∀ a w, C w → Q a → Q' .normal a w) : ∀ (l : List Oper) (a : Act) (w : World), C w → wpQuiet P ops C Q l a → wpList P ops Q' l a w
  | [], a, w, hw, h => hQ a w hw h
  | o :: rest, a, w, hw, h => by
    simp only [wpQuiet] at h
    simp only [wpList]
    by_cases hg : Region.wanted o (yielded ops a.tmps) = true
    · rw [if_pos hg] at h ⊢
      exact .inl (Oper.wp_of_quiet hw (fun a' w' hw' hk => wpList_of_quiet hQ rest a' w' hw' hk) h)
    · rw [if_neg hg] at h ⊢
      exact wpList_of_quiet hQ rest _ w hw h
theorem wp_region_cheap {P : Program} {id : Nat} {Q : Exit → Act → World → Prop} {a : Act} {w : World} {l : List Oper} (h : wpQuiet P l.toArray (fun w' => w' = w) (fun a' => Q .normal a' w) l a) : (Code.region id l.toArray false).wp P Q a w :=
  wp_region_lit (wpList_of_quiet (C := fun w' => w' = w) (Q := fun a' => Q .normal a' w) (fun _ w' hw' h => by rw [hw']; exact h) l a w rfl h)
end Go.Proofs.Ytognipephfedkaa
