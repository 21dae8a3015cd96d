/- The law of an own row's append at a step of a region that draws its order. No function of the program is named. -/
import Derived.Test.YteenkbfmlnpmlaaOwn2
import Derived.Deep.AppendLies
namespace Go.Proofs.Yteenkbfmlnpmlaa
open Go.RowKit
variable {P : Program}

theorem step_own_src2 (w : World) {ops : Array Oper} {o : Oper} {a : Act} {K : Act → World → Prop} {Q : Exit → Act → World → Prop} {E : Prop} (hgd : o.guard = none) (s x : Operand) (t tx : TypeId)
    (ho : o.op = .call { callee := .builtin .append, args := #[s, x], argTypes := #[t, tx] }) (B : Nat) (e : TypeId) (i : TypeInfo) (z : Value) (size bytes : Nat) (ht : P.underlying t = some (.slice e)) (hi : P.info? e = some i) (hz : i.zero = some z)
    (hsize : i.size = size) (hby : i.bytes = bytes) (hzs : z.cells.size = size) (hsz : 0 < size) (v xv : Value) (n m : Nat) (xs news : List Value)
    (hown : w.ownsRow B e size v n xs) (hsrc : Src P size tx xv m news w) (hs : a.eval s = v) (hx : a.eval x = xv) (h63 : n + m ≤ maxLen) (hbytes : (n + m) * bytes ≤ 140737488355328) (hbase : B ≤ w.heap.size)
    (h : ∀ v' w', w'.ownsRow B e size v' (n + m) (xs ++ news) → Below B w w' → Apart v w v' w' → K (a.put o.dst v') w') :
    if Region.wanted o (yielded ops a.tmps) = true then Oper.wp P o a w K Q else E := by
  have hw : Region.wanted o (yielded ops a.tmps) = true := by simp [Region.wanted, hgd]
  rw [if_pos hw]
  obtain ⟨v', w', hr, h2, h3, h4⟩ := own_src2 (P := P) w B t tx o.type e i z size bytes ht hi hz hsize hby hzs hsz v n xs hown xv m news hsrc h63 hbytes hbase
  unfold Oper.wp execOp
  simp only [ho, resolve, invoke, builtin, Sem.run_bind, Sem.run_pure, Result.andThen_ok, List.map_toArray, List.map_cons, List.map_nil, hs, hx, hr]
  exact h v' w' h2 h3 h4
/-- A block that was made just ahead, as a source. -/
theorem src_new {w : World} {t e T : TypeId} {m size c : Nat} {B : Nat} (ht : P.underlying t = some (.slice e)) (news : List Value) (hl : news.length = m * size) (h1 : ∀ u ∈ news, u.oneCell' = true) (hb : w.heap[B]? = some (.cells news.toArray T (0, 0))) :
    Src P size t (.slice (some ⟨B, 0, none⟩) m c) m news w :=
  Src.ofSlice _ ht _ m c news hl (fun j u hj => World.news_of_block hb j u (by simpa using hj)) h1
end Go.Proofs.Yteenkbfmlnpmlaa
