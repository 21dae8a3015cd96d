/- The law CallBack: the walk. (Written by genCalD.py.) -/
import Derived.Test.YtochgmpcdmahkaaCalBack00
import Derived.Test.YtochgmpcdmahkaaCalBack11
namespace Go.Proofs.Ytochgmpcdmahkaa
open Go.RowKit

theorem cback_any (s q : Int) (zs : Z64 s) (zq : Z64 q) (c : Cm) (a : Option Addr) (n cap : Nat) (ls : List Ln) (hn : ls.length = n) (hc : n ≤ cap) (hin : c.In) (hz : LnIn ls) (t : ByteArray) (ht : t.size ≤ 140737488355328) (cut : Int) (w : World) (hl : SlS Ln.cells 4 w (.slice a n cap) ls) : Calls Try.prog 5 #[Cal.agg s q c (.slice a n cap), .string t, .int .i64 cut] w fun e w' => e = .returned (.bool true) ∧ Ext w w' := by
  by_cases hE : dcE t.data.toList = 0
  · by_cases h20 : n ≤ 20
    · by_cases hQ : putE c ls = 0
      · exact cback_011 s q zs zq c a n cap ls hn hc hin hz t ht cut w hl h20 hE hQ
      · exact cback_001 s q zs zq c a n cap ls hn hc hin hz t ht cut w hl h20 hE hQ
    · by_cases hQ : putE c (ls.take 20) = 0
      · exact cback_111 s q zs zq c a n cap ls hn hc hin hz t ht cut w hl (by omega) hE hQ
      · exact cback_101 s q zs zq c a n cap ls hn hc hin hz t ht cut w hl (by omega) hE hQ
  · by_cases h20 : n ≤ 20
    · by_cases hQ : putE c ls = 0
      · exact cback_010 s q zs zq c a n cap ls hn hc hin hz t ht cut w hl h20 hE hQ
      · exact cback_000 s q zs zq c a n cap ls hn hc hin hz t ht cut w hl h20 hE hQ
    · by_cases hQ : putE c (ls.take 20) = 0
      · exact cback_110 s q zs zq c a n cap ls hn hc hin hz t ht cut w hl (by omega) hE hQ
      · exact cback_100 s q zs zq c a n cap ls hn hc hin hz t ht cut w hl (by omega) hE hQ
end Go.Proofs.Ytochgmpcdmahkaa
