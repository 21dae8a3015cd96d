/- The document's own answer: RightLetter, whatever the kind. -/
import Derived.Test.YtognipephfedkaaLetR0
import Derived.Test.YtognipephfedkaaLetR1
import Derived.Test.YtognipephfedkaaLetR2
import Derived.Test.YtognipephfedkaaLetR3
import Derived.Test.YtognipephfedkaaLetR4
import Derived.Test.YtognipephfedkaaLetR5
import Derived.Test.YtognipephfedkaaLetR6
namespace Go.Proofs.Ytognipephfedkaa
open Go.RowKit

theorem ref_any (m : Lt) (a : Option Addr) (c : Nat) (es : List Ent) (w : World) (hl : SlS Ent.cells 3 w (.slice a es.length c) es) (hlen : es.length ≤ 1000000) : Calls Try.prog 18 #[m.agg (.slice a es.length c)] w fun e w' => RetB (RightP m es) e ∧ Ext w w' := by
  by_cases hb : (1 ≤ m.kind ∧ m.kind ≤ 6) ∧ BaseP m
  · obtain ⟨hk, hb⟩ := hb
    have : m.kind = 1 ∨ m.kind = 2 ∨ m.kind = 3 ∨ m.kind = 4 ∨ m.kind = 5 ∨ m.kind = 6 := by omega
    rcases this with h | h | h | h | h | h
    · exact ref1_any m h hb a c _ es rfl w
    · exact ref2_any m h hb a c _ es rfl w
    · exact ref3_any m h hb a c es w hl hlen
    · exact ref4_any m h hb a c _ es rfl w
    · exact ref5_any m h hb a c _ es rfl w
    · exact ref6_any m h hb a c _ es rfl w
  · exact ref0_any m hb a c _ es w
end Go.Proofs.Ytognipephfedkaa
