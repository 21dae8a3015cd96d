/- A region that draws its order, whose operations read alone and whose callees yield one value and leave a world of a class: walked once, in the order of the text. No function of the program is named. -/
import Derived.Test.YtognipephfedkaaBase
import Derived.Deep.QuietTactic
import Derived.BigQuiet
namespace Go.Proofs.Ytognipephfedkaa
open Go.RowKit

/-- A world of a class. -/
structure SubW (S : World → Prop) where
  w : World
  ok : S w
theorem wp_region_quietS {P : Program} {id : Nat} {Q : Exit → Act → World → Prop} {a : Act} {w : World} {l : List Oper} (S : World → Prop) (hm : P.follows .mixedOrders = true) (hB : Region.lexB .any l.toArray = true) (hS : S w.drew)
    (h : wpQuiet P l.toArray (fun w' => ∃ x : SubW S, w' = x.w) (fun a' => ∀ w', (∃ x : SubW S, w' = x.w) → Q .normal a' w') l a) : (Code.region id l.toArray true).wp P Q a w :=
  wp_region_quiet (C := fun w' => ∃ x : SubW S, w' = x.w) hm hB ⟨⟨w.drew, hS⟩, rfl⟩ (by simpa using h)
theorem quietS_call {P : Program} {f : FuncId} {args : Array Value} {S : World → Prop} {x : SubW S} {v : Value} (h : Calls P f args x.w fun e w' => e = .returned v ∧ S w') :
    Calls P f args x.w fun e w'' => e = .returned v ∧ ∃ y : SubW S, w'' = y.w := h.mono fun _ w' ⟨he, hs⟩ => ⟨he, ⟨w', hs⟩, rfl⟩
/-- What is left of a region, its first k operations carried out: from here on in the order of the text, in the worlds of a class. -/
theorem wpAny_quietS {P : Program} {Q : Exit → Act → World → Prop} {fuel : Nat} {listed : Array Bool} {a : Act} {w : World} {full : List Oper} (S : World → Prop) (k : Nat) (hf : fuel = (full.drop k).length) (hs : Region.noSelect full.toArray = true)
    (hB : Region.lexFrom .any full.toArray (full.drop k).length k listed = true) (hS : S w)
    (h : wpQuiet P full.toArray (fun w' => ∃ x : SubW S, w' = x.w) (fun a' => ∀ w', (∃ x : SubW S, w' = x.w) → Q .normal a' w') (full.drop k) a) : wpAny P .any full.toArray Q fuel listed a w := by
  subst hf
  refine wpAny_of_quiet (C := fun w' => ∃ x : SubW S, w' = x.w) (Q := fun a' => ∀ w', (∃ x : SubW S, w' = x.w) → Q .normal a' w') (fun _ w' hw' h => h w' hw') _ _ _ _ ⟨⟨w, hS⟩, rfl⟩ ?_
  exact wpAnyQ_lex hs (full.drop k) k listed a (fun j => by simp [List.getElem?_drop]) hB h
/-- A contract that ends in Ext, met in a world that has grown behind W0. -/
theorem quietS_ext {P : Program} {f : FuncId} {args : Array Value} {W0 : World} {x : SubW (Ext W0)} {v : Value} (h : Calls P f args x.w fun e w' => e = .returned v ∧ Ext x.w w') :
    Calls P f args x.w fun e w'' => e = .returned v ∧ ∃ y : SubW (Ext W0), w'' = y.w := quietS_call (h.mono fun _ _ ⟨he, hx⟩ => ⟨he, x.ok.trans hx⟩)
/-- A contract that leaves the world alone. -/
theorem quietS_eq {P : Program} {f : FuncId} {args : Array Value} {S : World → Prop} {x : SubW S} {v : Value} (h : Calls P f args x.w fun e w' => e = .returned v ∧ x.w = w') :
    Calls P f args x.w fun e w'' => e = .returned v ∧ ∃ y : SubW S, w'' = y.w := quietS_call (h.mono fun _ _ ⟨he, hx⟩ => ⟨he, hx ▸ x.ok⟩)
end Go.Proofs.Ytognipephfedkaa
