/- The law CommandBack: the walk. (Written by genCmdBack.py.) -/
import Derived.Test.YteenkbfmlnpmlaaCmdBack2
import Derived.Test.YteenkbfmlnpmlaaCmdBack3
namespace Go.Proofs.Yteenkbfmlnpmlaa
open Go.RowKit

theorem cback_as (c : Cm) (a : Option Addr) (n m cap : Nat) (ls : List Ln) (hf : ∀ z, Calls Try.prog 18 #[c.agg (.slice a n cap)] z fun e w' => e = .returned (c.agg (.slice a m cap)) ∧ Ext z w') (hn : ls.length = m) (hm : m ≤ 30) (hin : c.In) (hz : LnIn ls) (ab : Option Addr) (cb k : Nat) (bs : List UInt8) (hk : bs.length = k) (cut : Int) (w : World) (hl : SlS Ln.cells 4 w (.slice a m cap) ls) (hb : Rd8 w (.slice ab k cb) bs) (hbl : k ≤ 140737488351232) (hE : cgE bs = 0) : Calls Try.prog 7 #[c.agg (.slice a n cap), .slice ab k cb, .int .i64 cut] w fun e w' => e = .returned (.bool true) ∧ Ext w w' := by
  rcases putE_cases c ls with ⟨h1, h2⟩ | ⟨h1, h2⟩ | ⟨h1, h2⟩
  · exact cback_oks c a n m cap ls hf hn hm hin hz ab cb k bs hk cut w hl hb hbl hE h1 h2
  · exact cback_lgs c a n m cap ls hf hn hm hin hz ab cb k bs hk cut w hl hb hbl hE h1 h2
  · exact cback_nos c a n m cap ls hf hn hm hin hz ab cb k bs hk cut w hl hb hbl hE h1
theorem cback_an (c : Cm) (a : Option Addr) (n m cap : Nat) (ls : List Ln) (hf : ∀ z, Calls Try.prog 18 #[c.agg (.slice a n cap)] z fun e w' => e = .returned (c.agg (.slice a m cap)) ∧ Ext z w') (hn : ls.length = m) (hm : m ≤ 30) (hin : c.In) (hz : LnIn ls) (ab : Option Addr) (cb k : Nat) (bs : List UInt8) (hk : bs.length = k) (cut : Int) (w : World) (hl : SlS Ln.cells 4 w (.slice a m cap) ls) (hb : Rd8 w (.slice ab k cb) bs) (hbl : k ≤ 140737488351232) (hE : cgE bs ≠ 0) : Calls Try.prog 7 #[c.agg (.slice a n cap), .slice ab k cb, .int .i64 cut] w fun e w' => e = .returned (.bool true) ∧ Ext w w' := by
  rcases putE_cases c ls with ⟨h1, h2⟩ | ⟨h1, h2⟩ | ⟨h1, h2⟩
  · exact cback_okn c a n m cap ls hf hn hm hin hz ab cb k bs hk cut w hl hb hbl hE h1 h2
  · exact cback_lgn c a n m cap ls hf hn hm hin hz ab cb k bs hk cut w hl hb hbl hE h1 h2
  · exact cback_non c a n m cap ls hf hn hm hin hz ab cb k bs hk cut w hl hb hbl hE h1
theorem cback_any (c : Cm) (a : Option Addr) (n cap : Nat) (ls : List Ln) (hn : ls.length = n) (hc : n ≤ cap) (hin : c.In) (hz : LnIn ls) (ab : Option Addr) (cb k : Nat) (bs : List UInt8) (hk : bs.length = k) (cut : Int) (w : World) (hl : SlS Ln.cells 4 w (.slice a n cap) ls) (hb : Rd8 w (.slice ab k cb) bs) (hbl : k ≤ 140737488351232) : Calls Try.prog 7 #[c.agg (.slice a n cap), .slice ab k cb, .int .i64 cut] w fun e w' => e = .returned (.bool true) ∧ Ext w w' := by
  obtain ⟨m, ls', h1, h2, h3, h4, h5, h6⟩ := few_ex c a n cap ls hn hc hz w hl
  by_cases hE : cgE bs = 0
  · exact cback_as c a n m cap ls' h6 h1 h2 hin h5 ab cb k bs hk cut w h4 hb hbl hE
  · exact cback_an c a n m cap ls' h6 h1 h2 hin h5 ab cb k bs hk cut w h4 hb hbl hE
end Go.Proofs.Yteenkbfmlnpmlaa
