/- The law CallTells: the walk. (Written by genCalD.py.) -/
import Derived.Test.YtochgmpcdmahkaaCalTells0
import Derived.Test.YtochgmpcdmahkaaCalTells1
namespace Go.Proofs.Ytochgmpcdmahkaa
open Go.RowKit

theorem ctells_any (s q : Int) (zs : Z64 s) (zq : Z64 q) (c : Cm) (a : Option Addr) (n cap : Nat) (ls : List Ln) (hn : ls.length = n) (hc : n ≤ cap) (hin : c.In) (hz : LnIn ls) (t : ByteArray) (ht : t.size ≤ 140737488355328) (w : World) (hl : SlS Ln.cells 4 w (.slice a n cap) ls) : Calls Try.prog 4 #[Cal.agg s q c (.slice a n cap), .string t] w fun e w' => e = .returned (.bool true) ∧ Ext w w' := by
  by_cases hE : dcE t.data.toList = 0
  · by_cases h20 : n ≤ 20
    · exact ctells_01 s q zs zq c a n cap ls hn hc hin hz t ht w hl h20 hE
    · exact ctells_11 s q zs zq c a n cap ls hn hc hin hz t ht w hl (by omega) hE
  · by_cases h20 : n ≤ 20
    · exact ctells_00 s q zs zq c a n cap ls hn hc hin hz t ht w hl h20 hE
    · exact ctells_10 s q zs zq c a n cap ls hn hc hin hz t ht w hl (by omega) hE
end Go.Proofs.Ytochgmpcdmahkaa
