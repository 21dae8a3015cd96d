/- Texts of this proof, put together by program; each has its own remark. -/
import Derived.Test.YtbknmeafcbhicaaGreatDoorProg
import Derived.ChangeSlices
import Derived.Deep.Slices
import Derived.Lib.SmallJoins
import Derived.Test.YtbknmeafcbhicaaGreatDoorM1
import Derived.Test.YtbknmeafcbhicaaGreatDoorM2
import Derived.Test.YtbknmeafcbhicaaGreatDoorM3
import Derived.Test.YtbknmeafcbhicaaGreatDoorM4

/- UNFINISHED States: totals, invoices held against one another. -/
namespace Go.Proofs.YtbknmeafcbhicaaGreatDoor.Ev
open Go
def samePt (x y:bil.Pt):Bool:=bytesEq x.cat.data.toList y.cat.data.toList&&(eqI x.bp y.bp&&(eqI x.net y.net&&(eqI x.tax y.tax&&true)))
theorem samePt_eq (x y:bil.Pt):samePt x y=decide (x=y):=by
 obtain⟨a,b,c,d⟩:=x
 obtain⟨a',b',c',d'⟩:=y
 unfold samePt
 rw [beq_bytes,eqI_eq,eqI_eq,eqI_eq]
 simp only [bil.Pt.mk.injEq]
 by_cases h1:a=a'<;>by_cases h2:b=b'<;>by_cases h3:c=c'<;>by_cases h4:d=d'<;>simp [h1,h2,h3,h4]
def lpPe (L L':Nat) (l e:List bil.Pt) (n:Int):Option AV:=loopS (evS c48 L b1_ptEq) l1_ptEq 0 L' (stL [(q0,.fl .part l),(q1,.fl .part e),(q12,i64 (.ofNat l.length)),(q13,i64 n)]) m0 (k1_ptEq c48 L fun r m=>frzK m .any r some)
theorem round_ptEq (L L' n:Nat) (l e:List bil.Pt):lpPe L (Nat.succ L') l e (.ofNat n)=bif ltI (.ofNat n) (.ofNat l.length) then bif inI (.ofNat n) l.length then bif inI (.ofNat n) e.length then
 bif (bif true then !samePt (nth (t:=.part) l n) (nth (t:=.part) e n) else samePt (nth (t:=.part) l n) (nth (t:=.part) e n)) then some (.bool false) else lpPe L L' l e (wrapK .i64 (.ofNat n+1)) else none else none else some (.bool true):=by kernel_rfl
theorem loop_ptEq (L:Nat) (l e:List bil.Pt) (hl:l.length < 1000000) (he:l.length=e.length):∀ (t s:List bil.Pt) (n f:Nat),l.drop n=t→e.drop n=s→n≤l.length→t.length < f→lpPe L f l e (.ofNat n)=some (.bool (decide (t=s)))
 | t,s,n,0,_,_,_,hf=>by omega
 | [],s,n,f+1,hd,hs,hn,hf=>by
  have h0:=drop_nil hd hn
  have:s=[]:=by rw [← hs];exact List.drop_eq_nil_of_le (by omega)
  subst this
  rw [round_ptEq,h0,le_nat (Nat.le_refl _),cond_false]
  rfl
 | x::t,s,n,f+1,hd,hs,hn,hf=>by
  obtain⟨h1,h2,h3⟩:=drop_cons (t:=.part) hd
  cases s with
  | nil=>have:=drop_nil hs (by omega);omega
  | cons y s =>
   obtain⟨g1,g2,g3⟩:=drop_cons (t:=.part) hs
   have ih:=loop_ptEq L l e hl he t s (n+1) f h3 g3 (by omega) (by simp at hf;omega)
   rw [round_ptEq,lt_nat h1,cond_true,in_nat h1,cond_true,in_nat g1,cond_true,cond_true,h2,g2,wrap_succ (by omega),ih,samePt_eq]
   by_cases h:x=y
   ·rw [decide_eq_true h,Bool.not_true,cond_false]
    simp [h]
   ·rw [decide_eq_false h,Bool.not_false,cond_true]
    simp [h]
theorem run_ptEq (l e:List bil.Pt) (hl:l.length < 1000000):callF c48 1000001 s_ptEq .any [.fl .part l,.fl .part e] some=some (.bool (decide (l=e))):=by
 have e0:∀ L,callF c48 L s_ptEq .any [.fl .part l,.fl .part e] some=bif !eqI (.ofNat l.length) (.ofNat e.length) then some (.bool false) else lpPe L L l e (.ofNat 0):=fun L=>by kernel_rfl
 rw [e0]
 by_cases h:l.length=e.length
 ·rw [eq_true' (by rw [h]),Bool.not_true,cond_false]
  exact loop_ptEq _ l e hl h l e 0 _ rfl rfl (by omega) (by omega)
 ·rw [eq_false' (fun hh=>h (Int.ofNat.inj hh)),Bool.not_false,cond_true,decide_eq_false fun he=>h (by rw [he])]
def G_ptEq:List AV→Option (Bool × AV)
 | [.fl .part l,.fl .part e]=>some (Nat.blt l.length 1000000,.bool (decide (l=e)))
 | _=>none
def c49:ClS:=addG 151 G_ptEq c48
theorem snd49:SoundS Tryz.prog c49:=add_gn snd48 mix ok_ptEq .any G_ptEq fun xs r h=>by
 unfold G_ptEq at h
 split at h<;>first | (cases h;done) | skip
 obtain⟨hg,rfl⟩:=Prod.mk.inj (Option.some.inj h)
 exact⟨rfl,_,run_ptEq _ _ (blt_iff.1 hg)⟩
def cTo (t:bil.Tot):List AV:=[i64 t.net,i64 t.tax,i64 t.gross,.fl .part t.parts]
def G_equal:List AV→Option (Bool × AV)
 | [.agg [.int .i64 n,.int .i64 t,.int .i64 g,.fl .part l],.agg [.int .i64 n',.int .i64 t',.int .i64 g',.fl .part l']]=>some (Nat.blt l.length 1000000,.bool (decide ((⟨n,t,g,l⟩:bil.Tot)=⟨n',t',g',l'⟩)))
 | _=>none
theorem run_equal (L:Nat) (t t':bil.Tot) (h:t.parts.length < 1000000):callF c49 L s_equal .any [.agg (cTo t),.agg (cTo t')] some=some (.bool (decide (t=t'))):=by
 have e:callF c49 L s_equal .any [.agg (cTo t),.agg (cTo t')] some=bif eqI t.net t'.net then bif eqI t.tax t'.tax then bif eqI t.gross t'.gross then bif Nat.blt t.parts.length 1000000 then bif decide (t.parts=t'.parts) then some (.bool true) else some (.bool false) else none else some (.bool false) else some (.bool false) else some (.bool false):=by kernel_rfl
 rw [e,bltN_true h,eqI_eq,eqI_eq,eqI_eq]
 obtain⟨a,b,c,d⟩:=t
 obtain⟨a',b',c',d'⟩:=t'
 simp only [bil.Tot.mk.injEq]
 by_cases h1:a=a'<;>by_cases h2:b=b'<;>by_cases h3:c=c'<;>by_cases h4:d=d'<;>simp [h1,h2,h3,h4]
def c50:ClS:=addG 96 G_equal c49
theorem snd50:SoundS Tryz.prog c50:=add_gn snd49 mix ok_equal .any G_equal fun xs r h=>by
 unfold G_equal at h
 split at h<;>first | (cases h;done) | skip
 rename_i n t g l n' t' g' l'
 obtain⟨hg,rfl⟩:=Prod.mk.inj (Option.some.inj h)
 exact⟨rfl,0,run_equal 0 ⟨n,t,g,l⟩ ⟨n',t',g',l'⟩ (blt_iff.1 hg)⟩
def mTot (t:bil.Tot):Mem:=⟨T.nil.node (some ⟨.raw (cTo t),1,false⟩) T.nil,1,1,1⟩
def mSu (t:bil.Tot) (a b:List Int):Mem:=⟨(T.node T.nil (some ⟨.ls .int a,1,true⟩) T.nil).node (some ⟨.raw (cTo t),1,false⟩) ((T.node T.nil (some ⟨.ls .int b,1,true⟩) T.nil).node none T.nil),3,7,7⟩
def kSu (L:Nat):Ex→T AV→Mem→Option AV:=k1_sums c50 L fun r m=>frzK m .any r some
def lpSu0 (L L':Nat) (t:bil.Tot) (n:Int):Option AV:=loopS (evS c50 L b1_sums) l1_sums 0 L' (stL [(q1,.ptr 0 0),(q3,.nilsl),(q4,.nilsl),(q14,.fl .part t.parts),(q15,i64 (.ofNat t.parts.length)),(q16,i64 n)]) (mTot t) (kSu L)
def lpSu (L L' u v:Nat) (t:bil.Tot) (a b:List Int) (n:Int):Option AV:=loopS (evS c50 L b1_sums) l1_sums 0 L' (stL [(q1,.ptr 0 0),(q3,.so 1 1 0 u),(q4,.so 2 1 0 v),(q14,.fl .part t.parts),(q15,i64 (.ofNat t.parts.length)),(q16,i64 n)]) (mSu t a b) (kSu L)
theorem round_sums0 (L L':Nat) (t:bil.Tot):lpSu0 L (Nat.succ L') t (.ofNat 0)=bif ltI (.ofNat 0) (.ofNat t.parts.length) then bif inI (.ofNat 0) t.parts.length then lpSu L L' 1 1 t [(nP t.parts 0).net] [(nP t.parts 0).tax] (wrapK .i64 (.ofNat 0+1)) else none
 else bif true&&true&&([t.net,t.tax].all gI&&Nat.blt [t.net,t.tax].length 1000000) then bif exB [t.net,t.tax] then bif eqI (exN []) t.net then bif eqI (exN []) t.tax then bif eqI (exN [t.net,t.tax]) t.gross then some (.bool true) else some (.bool false) else some (.bool false) else some (.bool false) else some (.bool false) else none:=by kernel_rfl
def endS2 (t:bil.Tot) (a b:List Int):Option AV:=bif true&&true&&([t.net,t.tax].all gI&&Nat.blt [t.net,t.tax].length 1000000) then bif exB [t.net,t.tax] then some (.bool false) else some (.bool false) else none
def endSu (u v:Nat) (t:bil.Tot) (a b:List Int):Option AV :=
 bif Nat.beq u a.length&&true&&(a.all gI&&Nat.blt a.length 1000000) then
  bif exB a then bif Nat.beq v b.length&&true&&(b.all gI&&Nat.blt b.length 1000000) then bif exB b then bif true&&true&&([t.net,t.tax].all gI&&Nat.blt [t.net,t.tax].length 1000000) then
    bif exB [t.net,t.tax] then bif eqI (exN a) t.net then bif eqI (exN b) t.tax then bif eqI (exN [t.net,t.tax]) t.gross then some (.bool true) else some (.bool false) else some (.bool false) else some (.bool false) else some (.bool false) else none
   else endS2 t a b else none
  else bif Nat.beq v b.length&&true&&(b.all gI&&Nat.blt b.length 1000000) then bif exB b then endS2 t a b else endS2 t a b else none
 else none
theorem round_sums (L L' u v n:Nat) (t:bil.Tot) (a b:List Int):lpSu L (Nat.succ L') u v t a b (.ofNat n)=bif ltI (.ofNat n) (.ofNat t.parts.length) then bif inI (.ofNat n) t.parts.length then bif Nat.beq a.length u then bif Nat.blt (u+1) 1048576 then bif Nat.beq b.length v then bif Nat.blt (v+1) 1048576 then
  lpSu L L' (a++[(nP t.parts n).net]).length (b++[(nP t.parts n).tax]).length t (a++[(nP t.parts n).net]) (b++[(nP t.parts n).tax]) (wrapK .i64 (.ofNat n+1)) else none else none else none else none else none
 else endSu u v t a b:=by kernel_rfl
theorem wrap_i {n:Int} (h:bil.I64 n):IntKind.i64.wrap n=n:=by rw [← wrapK_eq,wrap64 h]
theorem end_sums (t:bil.Tot) (hn:gI t.net=true) (ht:gI t.tax=true) (hgr:gI t.gross=true) (hg:t.parts.all gPb=true) (hl:t.parts.length < 1000) :
  endSu (t.parts.map (·.net)).length (t.parts.map (·.tax)).length t (t.parts.map (·.net)) (t.parts.map (·.tax))=some (.bool (bil.sumsF t)):=by
 have ha:(t.parts.map (·.net)).all gI=true:=by
  rw [List.all_eq_true] at hg ⊢
  intro x hx
  obtain⟨p,hp,rfl⟩:=List.mem_map.1 hx
  have:=hg p hp
  unfold gPb at this
  rw [Bool.and_eq_true] at this
  exact this.1
 have hb:(t.parts.map (·.tax)).all gI=true:=by
  rw [List.all_eq_true] at hg ⊢
  intro x hx
  obtain⟨p,hp,rfl⟩:=List.mem_map.1 hx
  have:=hg p hp
  unfold gPb at this
  rw [Bool.and_eq_true] at this
  exact this.2
 have e3:[t.net,t.tax].all gI=true:=by simp [hn,ht]
 unfold endSu endS2
 rw [beqN_true rfl,beqN_true rfl,ha,hb,e3,bltN_true (by rw [List.length_map];omega),bltN_true (by rw [List.length_map];omega),bltN_true (by simp)]
 unfold bil.sumsF exB exN
 have e4:[t.net,t.tax].sum=t.net+t.tax:=by simp
 rw [e4]
 generalize hA:(t.parts.map (·.net)).sum=A
 generalize hB:(t.parts.map (·.tax)).sum=B
 have hn':=gI_iff.1 hn
 have ht':=gI_iff.1 ht
 by_cases h1:bil.I64 A
 ·rw [decide_eq_true h1]
  by_cases h2:bil.I64 B
  ·rw [decide_eq_true h2]
   by_cases h3:bil.I64 (t.net+t.tax)
   ·rw [decide_eq_true h3,wrap_i h1,wrap_i h2,wrap_i h3,eqI_eq,eqI_eq,eqI_eq]
    by_cases q1:A=t.net<;>by_cases q2:B=t.tax<;>by_cases q3:t.net+t.tax=t.gross<;>simp [q1,q2,q3]
   ·have:¬ t.net+t.tax=t.gross:=fun h=>h3 (h ▸ gI_iff.1 hgr)
    rw [decide_eq_false h3,decide_eq_false this]
    simp
  ·have:¬ B=t.tax:=fun h=>h2 (h ▸ ht')
   rw [decide_eq_false h2,decide_eq_false this]
   cases decide (bil.I64 (t.net+t.tax))<;>simp
 ·have:¬ A=t.net:=fun h=>h1 (h ▸ hn')
  rw [decide_eq_false h1,decide_eq_false this]
  cases decide (bil.I64 B)<;>cases decide (bil.I64 (t.net+t.tax))<;>simp
theorem loop_sums (L u v:Nat) (t:bil.Tot) (hn:gI t.net=true) (ht:gI t.tax=true) (hgr:gI t.gross=true) (hg:t.parts.all gPb=true) (hl:t.parts.length < 1000):∀ (s:List bil.Pt) (n f:Nat),t.parts.drop n=s→n≤t.parts.length→s.length < f →
  lpSu L f n n t ((t.parts.take n).map (·.net)) ((t.parts.take n).map (·.tax)) (.ofNat n)=some (.bool (bil.sumsF t))
 | s,n,0,_,_,hf=>by omega
 | [],n,f+1,hd,hn',hf=>by
  have h0:=drop_nil hd hn'
  subst h0
  rw [round_sums,le_nat (Nat.le_refl _),cond_false,List.take_length]
  have:=end_sums t hn ht hgr hg hl
  rw [List.length_map,List.length_map] at this
  exact this
 | x::s,n,f+1,hd,hn',hf=>by
  obtain⟨h1,h2,h3⟩:=drop_cons (t:=.part) hd
  have ih:=loop_sums L u v t hn ht hgr hg hl s (n+1) f h3 (by omega) (by simp at hf;omega)
  have et:t.parts.take (n+1)=t.parts.take n++[x]:=by
   rw [List.take_add_one,List.getElem?_eq_getElem h1]
   congr 1
   have:=List.getElem_cons_drop (h:=h1)
   rw [hd] at this
   have e:=(List.cons.inj this).1
   simp only [Option.toList,e]
  rw [round_sums,lt_nat h1,cond_true,in_nat h1,cond_true,beqN_true (by rw [List.length_map,List.length_take];omega),cond_true,bltN_true (by omega),cond_true,beqN_true (by rw [List.length_map,List.length_take];omega),cond_true,cond_true]
  have hx:nP t.parts n=x:=h2
  rw [hx,wrap_succ (by omega)]
  rw [et,List.map_append,List.map_append] at ih
  have l1:((t.parts.take n).map (fun p:bil.Pt=>p.net)++[x.net]).length=n+1:=by rw [List.length_append,List.length_map,List.length_take,List.length_singleton];omega
  have l2:((t.parts.take n).map (fun p:bil.Pt=>p.tax)++[x.tax]).length=n+1:=by rw [List.length_append,List.length_map,List.length_take,List.length_singleton];omega
  rw [l1,l2]
  exact ih
theorem run_sums (t:bil.Tot) (hn:gI t.net=true) (ht:gI t.tax=true) (hgr:gI t.gross=true) (hg:t.parts.all gPb=true) (hl:t.parts.length < 1000) (hne:t.parts≠[]):callF c50 1001 s_sums .any [.agg (cTo t)] some=some (.bool (bil.sumsF t)):=by
 have e:∀ L,callF c50 L s_sums .any [.agg (cTo t)] some=lpSu0 L L t (.ofNat 0):=fun L=>by kernel_rfl
 rw [e]
 obtain⟨x,s,hx⟩:∃ x s,t.parts=x::s:=by
  cases h:t.parts with
  | nil=>exact absurd h hne
  | cons x s=>exact⟨x,s,rfl⟩
 have h1:0 < t.parts.length:=by rw [hx];simp
 rw [round_sums0,lt_nat h1,cond_true,in_nat h1,cond_true,wrap_succ (by omega)]
 have:=loop_sums 1001 1 1 t hn ht hgr hg hl s 1 1000 (by rw [hx];rfl) (by omega) (by rw [hx] at hl;simp at hl;omega)
 have e1:t.parts.take 1=[x]:=by rw [hx];rfl
 have e2:nP t.parts 0=x:=by rw [hx];rfl
 rw [e1] at this
 rw [e2]
 exact this
def gTt (t:bil.Tot):Bool:=gI t.net&&(gI t.tax&&(gI t.gross&&(t.parts.all gPb&&Nat.blt t.parts.length 1000)))
theorem gTt_iff {t:bil.Tot}:gTt t=true↔gI t.net=true∧gI t.tax=true∧gI t.gross=true∧t.parts.all gPb=true∧t.parts.length < 1000:=by
 unfold gTt
 rw [Bool.and_eq_true,Bool.and_eq_true,Bool.and_eq_true,Bool.and_eq_true,blt_iff]
def G_sums:List AV→Option (Bool × AV)
 | [.agg [.int .i64 n,.int .i64 t,.int .i64 g,.fl .part l]]=>some (gTt ⟨n,t,g,l⟩&&Nat.blt 0 l.length,.bool (bil.sumsF ⟨n,t,g,l⟩))
 | _=>none
def c51:ClS:=addG 93 G_sums c50
theorem snd51:SoundS Tryz.prog c51:=add_gn snd50 mix ok_sums .any G_sums fun xs r h=>by
 unfold G_sums at h
 split at h<;>first | (cases h;done) | skip
 rename_i n t g l
 obtain⟨hg,rfl⟩:=Prod.mk.inj (Option.some.inj h)
 rw [Bool.and_eq_true] at hg
 obtain⟨a,b,c,d,e⟩:=gTt_iff.1 hg.1
 exact⟨rfl,_,run_sums ⟨n,t,g,l⟩ a b c d e fun h0=>by
  have:=blt_iff.1 hg.2
  rw [show l=[] from h0] at this
  simp at this⟩
end Go.Proofs.YtbknmeafcbhicaaGreatDoor.Ev

/- States: may totals be; the invoice that bears a number; the one that is taken back. -/
namespace Go.Proofs.YtbknmeafcbhicaaGreatDoor.Ev
open Go
def lpTo (L L':Nat) (t:bil.Tot) (n:Int):Option AV:=loopS (evS c51 L b1_totOk) l1_totOk 0 L' (stL [(q1,.ptr 0 0),(q18,.fl .part t.parts),(q19,i64 (.ofNat t.parts.length)),(q20,i64 n)]) (mTot t) (k1_totOk c51 L fun r m=>frzK m .any r some)
def bpT (x:bil.Pt) (q:Option AV):Option AV :=
 bif ltI x.bp 0 then some (.bool false) else bif ltI 100000 x.bp then some (.bool false) else bif gI x.net then bif !eqI (taxR x.net x.bp).2 0 then some (.bool false) else bif !eqI (taxR x.net x.bp).1 x.tax then some (.bool false) else q else none
theorem round_totOk (L L' n:Nat) (t:bil.Tot):lpTo L (Nat.succ L') t (.ofNat n)=bif ltI (.ofNat n) (.ofNat t.parts.length) then bif inI (.ofNat n) t.parts.length then bif E.name (nP t.parts n).cat then
  bif ltI 0 (.ofNat n) then bif inI (wrapK .i64 (.ofNat n - 1)) t.parts.length then bif !bytesLt (nP t.parts (wrapK .i64 (.ofNat n - 1)).toNat).cat.data.toList (nP t.parts n).cat.data.toList then some (.bool false) else bpT (nP t.parts n) (lpTo L L' t (wrapK .i64 (.ofNat n+1))) else none
  else bpT (nP t.parts n) (lpTo L L' t (wrapK .i64 (.ofNat n+1)))
  else some (.bool false) else none
 else bif gTt t&&Nat.blt 0 t.parts.length then bif bil.sumsF t then some (.bool true) else some (.bool false) else none:=by kernel_rfl
theorem bpT_eq (x:bil.Pt) (q:Option AV) (h:bil.I64 x.net):bpT x q=bif decide (0≤x.bp)&&(decide (x.bp≤100000)&&decide (E.tax x.net x.bp=some x.tax)) then q else some (.bool false):=by
 unfold bpT
 rw [ltI_eq,ltI_eq,gI_iff.2 h,eqI_eq,eqI_eq,taxO_eq h]
 by_cases h1:x.bp < 0
 ·rw [decide_eq_true h1,decide_eq_false (by omega:¬ 0≤x.bp)];rfl
 ·rw [decide_eq_false h1,decide_eq_true (by omega:0≤x.bp)]
  by_cases h2:100000 < x.bp
  ·rw [decide_eq_true h2,decide_eq_false (by omega:¬ x.bp≤100000)];rfl
  ·rw [decide_eq_false h2,decide_eq_true (by omega:x.bp≤100000)]
   by_cases h3:(taxR x.net x.bp).2=0
   ·by_cases h4:(taxR x.net x.bp).1=x.tax
    ·simp [h3,h4]
    ·simp [h3,h4]
   ·simp [h3]
theorem loop_totOk (L:Nat) (t:bil.Tot) (hg:gTt t=true) (hne:0 < t.parts.length):∀ (s:List bil.Pt) (n f:Nat),t.parts.drop n=s→n≤t.parts.length→s.length < f →
  lpTo L f t (.ofNat n)=some (.bool (okFrom (bil.ptOk E) bil.ptLt (prevL (t:=.part) t.parts n) s&&bil.sumsF t))
 | s,n,0,_,_,hf=>by omega
 | [],n,f+1,hd,hn,hf=>by
  rw [round_totOk,drop_nil hd hn,le_nat (Nat.le_refl _),cond_false,hg,bltN_true hne]
  unfold okFrom
  cases bil.sumsF t<;>rfl
 | x::s,n,f+1,hd,hn,hf=>by
  obtain⟨h1,h2,h3⟩:=drop_cons (t:=.part) hd
  obtain⟨g1,g2,g3,g4,g5⟩:=gTt_iff.1 hg
  have ih:=loop_totOk L t hg hne s (n+1) f h3 (by omega) (by simp at hf;omega)
  rw [prevL_succ h2] at ih
  have hx:bil.I64 x.net:=by
   have:=List.all_eq_true.1 g4 x (List.mem_of_mem_drop (by rw [hd];exact List.mem_cons_self))
   unfold gPb at this
   rw [Bool.and_eq_true] at this
   exact gI_iff.1 this.1
  have hn2:nP t.parts n=x:=h2
  rw [round_totOk,lt_nat h1,cond_true,in_nat h1,cond_true,hn2,wrap_succ (by omega),ih,bpT_eq _ _ hx]
  have e:bil.ptOk E x=(E.name x.cat&&(decide (0≤x.bp)&&(decide (x.bp≤100000)&&decide (E.tax x.net x.bp=some x.tax)))):=rfl
  generalize (decide (0≤x.bp)&&(decide (x.bp≤100000)&&decide (E.tax x.net x.bp=some x.tax)))=q at *
  cases n with
  | zero =>
   rw [okFrom_zero (t:=.part),e]
   show (bif E.name x.cat then _ else _)=_
   cases E.name x.cat<;>cases q<;>rfl
  | succ n =>
   rw [lt_zero_succ,cond_true,wrap_pred (by omega),in_nat (by omega),cond_true,okFrom_succ (t:=.part),e,toNat_of,blt_bytes]
   have e2:bil.ptLt (nth (t:=.part) t.parts n) x=bil.less (nP t.parts n).cat x.cat:=rfl
   rw [e2]
   cases E.name x.cat<;>cases q<;>cases bil.less (nP t.parts n).cat x.cat<;>rfl
theorem run_totOk (t:bil.Tot) (hg:gTt t=true):callF c51 1001 s_totOk .any [.agg (cTo t)] some=some (.bool (bil.totOk E t)):=by
 have e:∀ L,callF c51 L s_totOk .any [.agg (cTo t)] some=bif ltI (.ofNat t.parts.length) 1 then some (.bool false) else bif ltI 12 (.ofNat t.parts.length) then some (.bool false) else lpTo L L t (.ofNat 0):=fun L=>by kernel_rfl
 rw [e]
 unfold bil.totOk
 by_cases h:t.parts.length < 1
 ·rw [lt_true (by simp;omega),cond_true,decide_eq_false (by omega)];rfl
 ·rw [lt_false (by simp;omega),cond_false,decide_eq_true (by omega:1≤t.parts.length),Bool.true_and]
  by_cases h':12 < t.parts.length
  ·rw [lt_true (by simp;omega),cond_true,decide_eq_false (by omega)];rfl
  ·rw [lt_false (by simp;omega),cond_false,decide_eq_true (by omega:t.parts.length≤12),Bool.true_and]
   rw [loop_totOk 1001 t hg (by omega) t.parts 0 1001 rfl (by omega) (by omega)]
   unfold prevL
   rw [okFrom_none,Bool.and_assoc]
def G_totOk:List AV→Option (Bool × AV)
 | [.agg [.int .i64 n,.int .i64 t,.int .i64 g,.fl .part l]]=>some (gTt ⟨n,t,g,l⟩,.bool (bil.totOk E ⟨n,t,g,l⟩))
 | _=>none
def c52:ClS:=addG 57 G_totOk c51
theorem snd52:SoundS Tryz.prog c52:=add_gn snd51 mix ok_totOk .any G_totOk fun xs r h=>by
 unfold G_totOk at h
 split at h<;>first | (cases h;done) | skip
 rename_i n t g l
 obtain⟨hg,rfl⟩:=Prod.mk.inj (Option.some.inj h)
 exact⟨rfl,_,run_totOk ⟨n,t,g,l⟩ hg⟩
def cPs (p:bil.Pst):List AV:=enc .posted p
def sameRf (x y:bil.Ref):Bool:=bytesEq x.ser.data.toList y.ser.data.toList&&(eqI x.num y.num&&true)
theorem sameRf_eq (x y:bil.Ref):sameRf x y=decide (x=y):=by
 obtain⟨a,b⟩:=x
 obtain⟨a',b'⟩:=y
 unfold sameRf
 rw [beq_bytes,eqI_eq]
 simp only [bil.Ref.mk.injEq]
 by_cases h1:a=a'<;>by_cases h2:b=b'<;>simp [h1,h2]
def hRf (r:bil.Ref):T Blk:=.node .nil (some ⟨.raw [tx r.ser,i64 r.num],1,false⟩) .nil
def H_findIs:List AV→Mem→Option (Bool × AV × T Blk × Nat)
 | [.agg cs,.ptr 0 0],⟨.node .nil (some ⟨.raw [.str c,.int .i64 n],1,false⟩) .nil,1,0,0⟩=>(match dec .posted cs with
  | some p=>some (true,.bool (decide (bil.Pst.ref p=⟨⟨⟨c⟩⟩,n⟩)),hRf ⟨⟨⟨c⟩⟩,n⟩,1)
  | none=>none)
 | _,_=>none
def c53:ClS:=addN 95 H_findIs c52
theorem snd53:SoundS Tryz.prog c53:=add_mem snd52 mix ok_findIs H_findIs fun xs m r h1 n1 h=>by
 unfold H_findIs at h
 split at h<;>first | (cases h;done) | skip
 rename_i cs c n
 cases hd:dec .posted cs with
 | none=>rw [hd] at h;cases h
 | some p =>
  rw [hd] at h
  simp only [Option.some.injEq,Prod.mk.injEq] at h
  obtain⟨_,rfl,rfl,rfl⟩:=h
  refine⟨rfl,0,?_⟩
  have hcs:=dec_enc hd
  rw [← hcs]
  have e:∀ p:bil.Pst,callS c52 0 s_findIs [.agg (cPs p),.ptr 0 0] ⟨.node .nil (some ⟨.raw [.str c,.int .i64 n],1,false⟩) .nil,1,0,0⟩ (fun r m=>trimK 1 r m fun r m=>some (r,m.h,m.nx)) =
   bif (bif false then !sameRf p.ref ⟨⟨⟨c⟩⟩,n⟩ else sameRf p.ref ⟨⟨⟨c⟩⟩,n⟩) then some (.bool true,hRf ⟨⟨⟨c⟩⟩,n⟩,1) else some (.bool false,hRf ⟨⟨⟨c⟩⟩,n⟩,1):=fun p=>by kernel_rfl
  refine (e p).trans ?_
  rw [cond_false,sameRf_eq]
  cases decide (p.ref=⟨⟨⟨c⟩⟩,n⟩)<;>rfl
def lpPI (L L':Nat) (l:List bil.Pst) (r:bil.Ref) (n:Int):Option (AV × T Blk × Nat):=loopS (evS c53 L b1_ixPst) l1_ixPst 1 L' (stL [(q0,.fl .posted l),(q1,.fn 95 [.ptr 0 0]),(q7,i64 (.ofNat l.length)),(q8,i64 n)]) ⟨hRf r,1,1,1⟩ (k1_ixPst c53 L fun r m=>trimK 1 r m fun r m=>some (r,m.h,m.nx))
theorem round_ixPst (L L' n:Nat) (l:List bil.Pst) (r:bil.Ref):lpPI L (Nat.succ L') l r (.ofNat n) =
 bif ltI (.ofNat n) (.ofNat l.length) then bif inI (.ofNat n) l.length then bif decide ((nth (t:=.posted) l n).ref=r) then some (i64 (.ofNat n),hRf r,1) else lpPI L L' l r (wrapK .i64 (.ofNat n+1)) else none
 else some (i64 (-1),hRf r,1):=by kernel_rfl
def pstNm (r:bil.Ref) (x:bil.Pst):Bool:=decide (x.ref=r)
theorem loop_ixPst (L:Nat) (l:List bil.Pst) (hl:l.length < 1000000) (r:bil.Ref):∀ (t:List bil.Pst) (n f:Nat),l.drop n=t→n≤l.length→t.length < f →
  lpPI L f l r (.ofNat n)=some (i64 (ixFrom (pstNm r) n t),hRf r,1)
 | t,n,0,_,_,hf=>by omega
 | [],n,f+1,hd,hn,hf=>by
  rw [round_ixPst,drop_nil hd hn,le_nat (Nat.le_refl _),cond_false]
  rfl
 | x::t,n,f+1,hd,hn,hf=>by
  obtain⟨h1,h2,h3⟩:=drop_cons (t:=.posted) hd
  have ih:=loop_ixPst L l hl r t (n+1) f h3 (by omega) (by simp at hf;omega)
  rw [round_ixPst,lt_nat h1,cond_true,in_nat h1,cond_true,h2,wrap_succ (by omega),ih,ixFrom]
  show _=some (i64 (bif decide (x.ref=r) then _ else _),_,_)
  cases decide (x.ref=r)<;>rfl
def H_ixPst:List AV→Mem→Option (Bool × AV × T Blk × Nat)
 | [.fl .posted l,.fn 95 [.ptr 0 0]],⟨.node .nil (some ⟨.raw [.str c,.int .i64 n],1,false⟩) .nil,1,0,0⟩=>some (Nat.blt l.length 1000000,i64 (ixO (bil.findP l ⟨⟨⟨c⟩⟩,n⟩)),hRf ⟨⟨⟨c⟩⟩,n⟩,1)
 | _,_=>none
def c54:ClS:=addN 94 H_ixPst c53
theorem snd54:SoundS Tryz.prog c54:=add_mem snd53 mix ok_ixPst H_ixPst fun xs m r h1 n1 h=>by
 unfold H_ixPst at h
 split at h<;>first | (cases h;done) | skip
 rename_i l c n
 simp only [Option.some.injEq,Prod.mk.injEq] at h
 obtain⟨hg,rfl,rfl,rfl⟩:=h
 refine⟨rfl,l.length+1,?_⟩
 have e:∀ L,callS c53 L s_ixPst [.fl .posted l,.fn 95 [.ptr 0 0]] ⟨.node .nil (some ⟨.raw [.str c,.int .i64 n],1,false⟩) .nil,1,0,0⟩ (fun r m=>trimK 1 r m fun r m=>some (r,m.h,m.nx))=lpPI L L l ⟨⟨⟨c⟩⟩,n⟩ (.ofNat 0):=fun L=>by kernel_rfl
 refine (e _).trans ?_
 rw [loop_ixPst _ l (blt_iff.1 hg) ⟨⟨⟨c⟩⟩,n⟩ l 0 _ rfl (by omega) (by omega),ixFrom_zero]
 rfl
def G_find:List AV→Option (Bool × AV)
 | [.fl .posted l,.agg [.str c,.int .i64 n]]=>some (Nat.blt l.length 1000000,i64 (ixO (bil.findP l ⟨⟨⟨c⟩⟩,n⟩)))
 | _=>none
def c55:ClS:=addFz 58 [.lst .posted,.any] G_find c54
theorem snd55:SoundS Tryz.prog c55:=add_thw snd54 mix ok_find .any [.lst .posted,.any] G_find fun xs r h=>by
 unfold G_find at h
 split at h<;>first | (cases h;done) | skip
 rename_i l c n
 obtain⟨hg,rfl⟩:=Prod.mk.inj (Option.some.inj h)
 refine⟨rfl,0,?_⟩
 have e:callF c54 0 s_find .any [.fl .posted l,.agg [.str c,.int .i64 n]] some=bif Nat.blt l.length 1000000 then some (i64 (ixO (bil.findP l ⟨⟨⟨c⟩⟩,n⟩))) else none:=by kernel_rfl
 rw [e,hg];rfl
theorem backPs_all:∀ {ps ps':List bil.Pt},bil.backPs ps=some ps'→ps'.length=ps.length∧ps'.all gPb=true
 | [],ps',h=>by
  simp only [bil.backPs,Option.some.injEq] at h
  subst h
  exact⟨rfl,rfl⟩
 | p::ps,ps',h=>by
  unfold bil.backPs at h
  split at h
  ·cases h
  ·rename_i n hn
   split at h
   ·cases h
   ·rename_i x hx
    cases hb:bil.backPs ps with
    | none=>rw [hb] at h;cases h
    | some l =>
     rw [hb] at h
     cases h
     obtain⟨i1,i2⟩:=backPs_all hb
     obtain⟨rfl,h1⟩:=bil.negZ_some hn
     obtain⟨rfl,h2⟩:=bil.negZ_some hx
     refine⟨by rw [List.length_cons,List.length_cons,i1],?_⟩
     rw [List.all_cons,i2,Bool.and_true]
     unfold gPb
     rw [gI_iff.2 h1,gI_iff.2 h2];rfl
theorem back_all {t t':bil.Tot} (h:bil.backF t=some t'):t'.parts.length=t.parts.length∧(t.parts.length < 1000→gTt t'=true):=by
 unfold bil.backF at h
 split at h
 ·cases h
 ·rename_i n hn
  split at h
  ·cases h
  ·rename_i x hx
   split at h
   ·cases h
   ·rename_i g hg
    cases hb:bil.backPs t.parts with
    | none=>rw [hb] at h;cases h
    | some l =>
     rw [hb] at h
     cases h
     obtain⟨i1,i2⟩:=backPs_all hb
     obtain⟨rfl,h1⟩:=bil.negZ_some hn
     obtain⟨rfl,h2⟩:=bil.negZ_some hx
     obtain⟨rfl,h3⟩:=bil.negZ_some hg
     exact⟨i1,fun hl=>gTt_iff.2 ⟨gI_iff.2 h1,gI_iff.2 h2,gI_iff.2 h3,i2,by rw [i1];exact hl⟩⟩
theorem back_len {t t':bil.Tot} (h:bil.backF t=some t'):t'.parts.length=t.parts.length:=(back_all h).1
def gPs (p:bil.Pst):Bool:=gTt p.tot&&!p.tot.parts.isEmpty
def nPs (l:List bil.Pst) (n:Nat):bil.Pst:=nth (t:=.posted) l n
theorem gTo_of {t:bil.Tot} (h:gTt t=true) (hne:t.parts.isEmpty=false):gTo t=true:=by
 obtain⟨a,b,c,d,e⟩:=gTt_iff.1 h
 unfold gTo
 rw [a,b,c,d,hne,bltN_true e];rfl
theorem run_takes (p q:bil.Pst) (hq:gPs q=true):callF c55 0 s_takes .any [.agg (cPs p),.agg (cPs q)] some=some (.bool (bil.takesF E p q)):=by
 have e:callF c55 0 s_takes .any [.agg (cPs p),.agg (cPs q)] some=bif gTo q.tot then bif (bif false then !sameRf q.of_ bil.Ref.z else sameRf q.of_ bil.Ref.z) then bif bil.beforeF E p.day q.day then some (.bool false) else
   bif eqI (backR q.tot).2 0 then bif Nat.blt (backR q.tot).1.parts.length 1000000 then bif decide ((backR q.tot).1=p.tot) then some (.bool true) else some (.bool false) else none else some (.bool false) else some (.bool false) else none:=by kernel_rfl
 unfold gPs at hq
 rw [Bool.and_eq_true,Bool.not_eq_true'] at hq
 rw [e,gTo_of hq.1 hq.2,cond_true,cond_false,sameRf_eq]
 unfold bil.takesF
 by_cases h1:q.of_=bil.Ref.z
 ·rw [decide_eq_true h1,cond_true]
  cases bil.beforeF E p.day q.day with
  | true=>rfl
  | false =>
   unfold backR
   cases hb:bil.backF q.tot with
   | none=>rfl
   | some x =>
    have:=back_len hb
    obtain⟨_,_,_,_,hl⟩:=gTt_iff.1 hq.1
    show (bif Nat.blt x.parts.length 1000000 then bif decide (x=p.tot) then _ else _ else _)=_
    rw [bltN_true (by omega),cond_true]
    by_cases h2:x=p.tot
    ·rw [decide_eq_true h2];simp [h2]
    ·rw [decide_eq_false h2];simp [h2]
 ·rw [decide_eq_false h1];rfl
def G_takes:List AV→Option (Bool × AV)
 | [.agg cs,.agg ds]=>(match dec .posted cs with
  | some p=>(match dec .posted ds with
   | some q=>some (gPs q,.bool (bil.takesF E p q))
   | none=>none)
  | none=>none)
 | _=>none
def c56:ClS:=addG 59 G_takes c55
theorem snd56:SoundS Tryz.prog c56:=add_gn snd55 mix ok_takes .any G_takes fun xs r h=>by
 unfold G_takes at h
 split at h<;>first | (cases h;done) | skip
 rename_i cs ds
 cases hd:dec .posted cs with
 | none=>rw [hd] at h;cases h
 | some p =>
  rw [hd] at h
  cases hd2:dec .posted ds with
  | none=>rw [hd2] at h;cases h
  | some q =>
   rw [hd2] at h
   obtain⟨hg,rfl⟩:=Prod.mk.inj (Option.some.inj h)
   rw [← dec_enc hd,← dec_enc hd2]
   exact⟨rfl,0,run_takes p q hg⟩
def hPs (p:bil.Pst):T Blk:=.node .nil (some ⟨.raw (cPs p),1,false⟩) .nil
def H_numIs:List AV→Mem→Option (Bool × AV × T Blk × Nat)
 | [.agg [.str c,.int .i64 n,.int .i64 l,.bool s],.ptr 0 0],⟨.node .nil (some ⟨.raw cs,1,false⟩) .nil,1,0,0⟩=>(match dec .posted cs with
  | some p=>some (true,.bool (bytesEq c p.ref.ser.data.toList),hPs p,1)
  | none=>none)
 | _,_=>none
def c57:ClS:=addN 61 H_numIs c56
theorem snd57:SoundS Tryz.prog c57:=add_mem snd56 mix ok_numIs H_numIs fun xs m r h1 n1 h=>by
 unfold H_numIs at h
 split at h<;>first | (cases h;done) | skip
 rename_i c n l s cs
 cases hd:dec .posted cs with
 | none=>rw [hd] at h;cases h
 | some p =>
  rw [hd] at h
  simp only [Option.some.injEq,Prod.mk.injEq] at h
  obtain⟨_,rfl,rfl,rfl⟩:=h
  refine⟨rfl,0,?_⟩
  rw [← dec_enc hd]
  have e:callS c56 0 s_numIs [.agg [.str c,i64 n,i64 l,.bool s],.ptr 0 0] ⟨hPs p,1,0,0⟩ (fun r m=>trimK 1 r m fun r m=>some (r,m.h,m.nx)) =
   bif bytesEq c p.ref.ser.data.toList then some (.bool true,hPs p,1) else some (.bool false,hPs p,1):=by kernel_rfl
  refine e.trans ?_
  cases bytesEq c p.ref.ser.data.toList<;>rfl
def lpNJ (L L':Nat) (l:List bil.Sr) (p:bil.Pst) (n:Int):Option (AV × T Blk × Nat):=loopS (evS c57 L b1_ixSr) l1_ixSr 1 L' (stL [(q0,.fl .series l),(q1,.fn 61 [.ptr 0 0]),(q7,i64 (.ofNat l.length)),(q8,i64 n)]) ⟨hPs p,1,1,1⟩ (k1_ixSr c57 L fun r m=>trimK 1 r m fun r m=>some (r,m.h,m.nx))
theorem round_ixSj (L L' n:Nat) (l:List bil.Sr) (p:bil.Pst):lpNJ L (Nat.succ L') l p (.ofNat n) =
 bif ltI (.ofNat n) (.ofNat l.length) then bif inI (.ofNat n) l.length then bif bytesEq (nth (t:=.series) l n).name.data.toList p.ref.ser.data.toList then some (i64 (.ofNat n),hPs p,1) else lpNJ L L' l p (wrapK .i64 (.ofNat n+1)) else none
 else some (i64 (-1),hPs p,1):=by kernel_rfl
theorem loop_ixSj (L:Nat) (l:List bil.Sr) (hl:l.length < 1000000) (p:bil.Pst):∀ (t:List bil.Sr) (n f:Nat),l.drop n=t→n≤l.length→t.length < f →
  lpNJ L f l p (.ofNat n)=some (i64 (ixFrom (srNm p.ref.ser) n t),hPs p,1)
 | t,n,0,_,_,hf=>by omega
 | [],n,f+1,hd,hn,hf=>by
  rw [round_ixSj,drop_nil hd hn,le_nat (Nat.le_refl _),cond_false]
  rfl
 | x::t,n,f+1,hd,hn,hf=>by
  obtain⟨h1,h2,h3⟩:=drop_cons (t:=.series) hd
  have ih:=loop_ixSj L l hl p t (n+1) f h3 (by omega) (by simp at hf;omega)
  rw [round_ixSj,lt_nat h1,cond_true,in_nat h1,cond_true,h2,wrap_succ (by omega),ih,beq_bytes,ixFrom]
  show _=some (i64 (bif decide (x.name=_) then _ else _),_,_)
  cases decide (x.name=p.ref.ser)<;>rfl
def H_ixSj:List AV→Mem→Option (Bool × AV × T Blk × Nat)
 | [.fl .series l,.fn 61 [.ptr 0 0]],⟨.node .nil (some ⟨.raw cs,1,false⟩) .nil,1,0,0⟩=>(match dec .posted cs with
  | some p=>some (Nat.blt l.length 1000000,i64 (ixO (bil.srAt l p.ref.ser)),hPs p,1)
  | none=>none)
 | _,_=>none
def c58:ClS:=addN 60 H_ixSj c57
theorem snd58:SoundS Tryz.prog c58:=add_mem snd57 mix ok_ixSr H_ixSj fun xs m r h1 n1 h=>by
 unfold H_ixSj at h
 split at h<;>first | (cases h;done) | skip
 rename_i l cs
 cases hd:dec .posted cs with
 | none=>rw [hd] at h;cases h
 | some p =>
  rw [hd] at h
  simp only [Option.some.injEq,Prod.mk.injEq] at h
  obtain⟨hg,rfl,rfl,rfl⟩:=h
  refine⟨rfl,l.length+1,?_⟩
  rw [← dec_enc hd]
  have e:∀ L,callS c57 L s_ixSr [.fl .series l,.fn 61 [.ptr 0 0]] ⟨hPs p,1,0,0⟩ (fun r m=>trimK 1 r m fun r m=>some (r,m.h,m.nx))=lpNJ L L l p (.ofNat 0):=fun L=>by kernel_rfl
  refine (e _).trans ?_
  rw [loop_ixSj _ l (blt_iff.1 hg) p l 0 _ rfl (by omega) (by omega),ixFrom_zero]
  rfl
end Go.Proofs.YtbknmeafcbhicaaGreatDoor.Ev

/- States: may the invoices be. -/
namespace Go.Proofs.YtbknmeafcbhicaaGreatDoor.Ev
open Go
def mAr (a:List Int):Mem:=⟨T.nil.node (some ⟨.ls .int a,1,false⟩) T.nil,1,1,1⟩
def lpPo (L L':Nat) (l:List bil.Pst) (a:List Int) (n:Int):Option AV:=loopS (evS c58 L b1_posted) l1_posted 0 L' (stL [(q0,.fl .posted l),(q3,.ptr 0 0),(q12,.fl .posted l),(q13,i64 (.ofNat l.length)),(q14,i64 n)]) (mAr a) (k1_posted c58 L fun r m=>frzK m .any r some)
def lpPb (L L':Nat) (l:List bil.Pst) (a:List Int) (n:Int):Option AV:=loopS (evS c58 L b2_posted) l2_posted 0 L' (stL [(q3,.ptr 0 0),(q56,.fl .posted l),(q57,i64 (.ofNat l.length)),(q58,i64 n)]) (mAr a) (k2_posted c58 L fun r m=>frzK m .any r some)
def nI (a:List Int) (n:Nat):Int:=nth (t:=.int) a n
def ixL (l:List bil.Pst) (n:Nat):Int:=ixO (bil.findP (l.take n) (nPs l n).of_)
theorem round_posted (L L' n:Nat) (l:List bil.Pst) (a:List Int):lpPo L (Nat.succ L') l a (.ofNat n) =
 bif ltI (.ofNat n) (.ofNat l.length) then bif inI (.ofNat n) l.length then bif bil.dayF E (nPs l n).day then bif gTt (nPs l n).tot then bif bil.totOk E (nPs l n).tot then
  bif (bif false then !sameRf (nPs l n).of_ bil.Ref.z else sameRf (nPs l n).of_ bil.Ref.z) then lpPo L L' l a (wrapK .i64 (.ofNat n+1)) else
   bif inI (.ofNat n) (l.length+1) then bif true&&(true&&true)&&Nat.blt (l.take n).length 1000000 then bif ltI (ixL l n) 0 then some (.bool false) else bif inI (ixL l n) l.length then bif gPs (nPs l (ixL l n).toNat) then bif bil.takesF E (nPs l n) (nPs l (ixL l n).toNat) then
    bif inI (ixL l n) 40 then bif Nat.blt (ixL l n).toNat a.length then bif inI (ixL l n) 40 then bif Nat.blt (ixL l n).toNat a.length then lpPo L L' l (a.set (ixL l n).toNat (wrapK .i64 (nI a (ixL l n).toNat+1))) (wrapK .i64 (.ofNat n+1)) else none else none else none else none
    else some (.bool false) else none else none else none else none
  else some (.bool false) else none else some (.bool false) else none else lpPb L L l a 0:=by kernel_rfl
theorem round_posted2 (L L' n:Nat) (l:List bil.Pst) (a:List Int):lpPb L (Nat.succ L') l a (.ofNat n) =
 bif ltI (.ofNat n) (.ofNat l.length) then bif inI (.ofNat n) l.length then bif inI (.ofNat n) 40 then bif Nat.blt n a.length then bif ltI 1 (nI a n) then some (.bool false) else
  bif (nPs l n).back then bif inI (.ofNat n) 40 then bif Nat.blt n a.length then bif eqI (nI a n) 1 then lpPb L L' l a (wrapK .i64 (.ofNat n+1)) else some (.bool false) else none else none
  else bif inI (.ofNat n) 40 then bif Nat.blt n a.length then bif eqI (nI a n) 1 then some (.bool false) else lpPb L L' l a (wrapK .i64 (.ofNat n+1)) else none else none
 else none else none else none else some (.bool true):=by kernel_rfl
def cntP (l:List bil.Pst) (n k:Nat):Nat:=((List.range n).filter fun j=>decide (bil.backsTo l j=some k)).length
theorem cntP_succ (l:List bil.Pst) (n k:Nat):cntP l (n+1) k=cntP l n k+if bil.backsTo l n=some k then 1 else 0:=by
 unfold cntP
 rw [List.range_succ,List.filter_append,List.length_append]
 congr 1
 by_cases h:bil.backsTo l n=some k<;>simp [h]
theorem cntP_le (l:List bil.Pst) (n k:Nat):cntP l n k≤n:=by
 unfold cntP
 have:=List.length_filter_le (fun j=>decide (bil.backsTo l j=some k)) (List.range n)
 rw [List.length_range] at this
 exact this
def cA (l:List bil.Pst) (n:Nat):List Int:=(List.range 40).map fun k=>.ofNat (cntP l n k)
theorem cA_len (l:List bil.Pst) (n:Nat):(cA l n).length=40:=by unfold cA;rw [List.length_map,List.length_range]
theorem cA_nth (l:List bil.Pst) (n:Nat) {k:Nat} (h:k < 40):nI (cA l n) k=.ofNat (cntP l n k):=by
 have:(cA l n)[k]?=some (.ofNat (cntP l n k)):=by
  unfold cA
  rw [List.getElem?_map,List.getElem?_range h];rfl
 rw [get_nth (t:=.int) (by rw [cA_len];exact h)] at this
 exact Option.some.inj this
theorem cA_none {l:List bil.Pst} {n:Nat} (h:bil.backsTo l n=none):cA l (n+1)=cA l n:=by
 unfold cA
 refine List.map_congr_left fun k _=>?_
 rw [cntP_succ,h,if_neg (by simp)];rfl
theorem cA_some {l:List bil.Pst} {n k:Nat} (hk:k < 40) (h:bil.backsTo l n=some k):cA l (n+1)=(cA l n).set k (.ofNat (cntP l n k+1)):=by
 refine List.ext_getElem? fun j=>?_
 by_cases hj:j < 40
 ·rw [List.getElem?_set]
  unfold cA
  rw [List.getElem?_map,List.getElem?_map,List.getElem?_range hj,List.length_map,List.length_range,Option.map_some,Option.map_some,cntP_succ,h]
  by_cases hkj:k=j
  ·subst hkj
   simp [hk]
  ·simp [hkj]
 ·rw [List.getElem?_eq_none (by rw [cA_len];omega),List.getElem?_eq_none (by rw [List.length_set,cA_len];omega)]
theorem nPs_get {l:List bil.Pst} {n:Nat} (h:n < l.length):l[n]?=some (nPs l n):=get_nth (t:=.posted) h
theorem loop_posted2 (L:Nat) (l:List bil.Pst) (h:bil.PostedOk E l):∀ (t:List bil.Pst) (n f:Nat),l.drop n=t→n≤l.length→t.length < f→lpPb L f l (cA l l.length) (.ofNat n)=some (.bool true)
 | t,n,0,_,_,hf=>by omega
 | [],n,f+1,hd,hn,hf=>by
  rw [round_posted2,drop_nil hd hn,le_nat (Nat.le_refl _),cond_false]
 | x::t,n,f+1,hd,hn,hf=>by
  obtain⟨h1,h2,h3⟩:=drop_cons (t:=.posted) hd
  have ih:=loop_posted2 L l h t (n+1) f h3 (by omega) (by simp at hf;omega)
  have hlen:=h.len
  obtain⟨k1,k2⟩:=h.back n _ (nPs_get h1)
  have hc:bil.cntB l n=cntP l l.length n:=rfl
  rw [hc] at k1 k2
  rw [round_posted2,lt_nat h1,cond_true,in_nat h1,cond_true,in_nat (by omega:n < 40),cond_true,bltN_true (by rw [cA_len];omega),cond_true,cA_nth l _ (by omega),lt_false (by simp;omega),cond_false,wrap_succ (by omega),ih,eqI_eq]
  cases hb:(nPs l n).back with
  | true =>
   rw [cond_true,cond_true,cond_true,k2.1 hb];rfl
  | false =>
   have:cntP l l.length n=0:=by
    rcases Nat.lt_or_ge (cntP l l.length n) 1 with h | h
    ·omega
    ·have:=k2.2 (by omega)
     rw [hb] at this;cases this
   rw [cond_false,cond_true,cond_true,this];rfl
theorem loop_posted (L:Nat) (l:List bil.Pst) (h:bil.PostedOk E l) (hg:l.all gPs=true) (hL:l.length < L):∀ (t:List bil.Pst) (n f:Nat),l.drop n=t→n≤l.length→t.length < f→lpPo L f l (cA l n) (.ofNat n)=some (.bool true)
 | t,n,0,_,_,hf=>by omega
 | [],n,f+1,hd,hn,hf=>by
  rw [round_posted,drop_nil hd hn,le_nat (Nat.le_refl _),cond_false]
  exact loop_posted2 L l h l 0 L rfl (by omega) hL
 | x::t,n,f+1,hd,hn,hf=>by
  obtain⟨h1,h2,h3⟩:=drop_cons (t:=.posted) hd
  have ih:=loop_posted L l h hg hL t (n+1) f h3 (by omega) (by simp at hf;omega)
  have hlen:=h.len
  have hget:=nPs_get h1
  have hmem:=List.mem_of_getElem? hget
  obtain⟨d1,d2⟩:=h.tot _ hmem
  have g1:=List.all_eq_true.1 hg _ hmem
  have g2:gTt (nPs l n).tot=true:=by
   unfold gPs at g1
   rw [Bool.and_eq_true] at g1
   exact g1.1
  rw [round_posted,lt_nat h1,cond_true,in_nat h1,cond_true,d1,cond_true,g2,cond_true,d2,cond_true,cond_false,sameRf_eq,wrap_succ (by omega)]
  rcases h.of_ n _ hget with h0 | ⟨k,q,e1,e2,e3⟩
  ·rw [decide_eq_true h0,cond_true]
   have hbt:bil.backsTo l n=none:=by
    unfold bil.backsTo
    rw [hget]
    simp only [h0,if_true]
   rw [← cA_none hbt]
   exact ih
  ·by_cases h0:(nPs l n).of_=bil.Ref.z
   ·rw [decide_eq_true h0,cond_true]
    have hbt:bil.backsTo l n=none:=by
     unfold bil.backsTo
     rw [hget]
     simp only [h0,if_true]
    rw [← cA_none hbt]
    exact ih
   ·have hbt:bil.backsTo l n=some k:=by
     unfold bil.backsTo
     rw [hget]
     simp only [h0,if_false]
     exact e1
    have hk:=(bil.backs_lt hbt).1
    have hix:ixL l n=.ofNat k:=by unfold ixL;rw [e1];rfl
    have hq:nPs l k=q:=by
     have:=nPs_get (l:=l) (n:=k) (by omega)
     rw [e2] at this
     exact (Option.some.inj this).symm
    have g3:=List.all_eq_true.1 hg _ (List.mem_of_getElem? e2)
    rw [decide_eq_false h0,cond_false,in_nat (by omega),cond_true,bltN_true (by rw [List.length_take];omega),hix,toNat_of,hq,lt_false (by simp only [Int.ofNat_eq_natCast];omega),cond_false,in_nat (by omega:k < l.length),cond_true,g3,cond_true,e3,cond_true,in_nat (by omega:k < 40),cond_true,bltN_true (by rw [cA_len];omega),cond_true,cond_true,cond_true,cA_nth l n (by omega)]
    have:=cntP_le l n k
    rw [wrap_succ (by omega),← cA_some (by omega) hbt]
    exact ih
theorem run_posted (l:List bil.Pst) (h:bil.PostedOk E l) (hg:l.all gPs=true):callF c58 41 s_posted .any [.fl .posted l] some=some (.bool true):=by
 have e:∀ L,callF c58 L s_posted .any [.fl .posted l] some=bif ltI 40 (.ofNat l.length) then some (.bool false) else lpPo L L l (cA l 0) (.ofNat 0):=fun L=>by kernel_rfl
 have hlen:=h.len
 rw [e,lt_false (by simp only [Int.ofNat_eq_natCast];omega),cond_false]
 exact loop_posted 41 l h hg (by omega) l 0 41 rfl (by omega) (by omega)
open Classical in
noncomputable def G_posted:List AV→Option (Bool × AV)
 | [.fl .posted l]=>some (decide (bil.PostedOk E l)&&l.all gPs,.bool true)
 | _=>none
noncomputable def c59:ClS:=addG 27 G_posted c58
theorem snd59:SoundS Tryz.prog c59:=add_gn snd58 mix ok_posted .any G_posted fun xs r h=>by
 unfold G_posted at h
 split at h<;>first | (cases h;done) | skip
 obtain⟨hg,rfl⟩:=Prod.mk.inj (Option.some.inj h)
 rw [Bool.and_eq_true] at hg
 exact⟨rfl,_,run_posted _ (@of_decide_eq_true _ (Classical.propDecidable _) hg.1) hg.2⟩
end Go.Proofs.YtbknmeafcbhicaaGreatDoor.Ev

/- Billing as plain functions: a right state stays right behind any call; what a session that is over, or never was, is told. (No program in sight.) -/
namespace Go.Proofs.YtbknmeafcbhicaaGreatDoor.bil
section
variable (E:Env)
theorem bill_ok {s:St} {c:Cd} (h:StOk E s):StOk E (billF E s c).1:=by
 unfold billF
 split
 ·exact h
 ·rename_i t ht
  obtain⟨htk,_⟩:=totalF_ok E ht
  have hday:dayF E c.day=true:=by
   unfold totalF at ht
   split at ht
   ·cases ht
   ·split at ht
    ·cases ht
    ·rename_i hd
     simpa using hd
  cases hi:issueF E s c.series ⟨Ref.z,c.day,t,Ref.z,false⟩ with
  | mk s' r =>
   rcases issue_ok E h hi with⟨_,rfl⟩ | ⟨_,n,l,b,rfl,hl,h1,h2,h3⟩
   ·exact h
   ·exact⟨h.table,h1,h.sess,h.next,posted_bill E h.posted hl hday htk rfl rfl,h2,h3⟩
theorem credit_ok {s:St} {c:Cd} (h:StOk E s):StOk E (creditF E s c).1:=by
 unfold creditF
 split
 ·exact h
 ·rename_i k hk
  split
  ·exact h
  ·rename_i p hp
   split
   ·exact h
   ·rename_i hb
    split
    ·exact h
    ·rename_i hd
     split
     ·exact h
     ·rename_i t ht
      have hpm:p∈s.posted:=List.mem_of_getElem? hp
      have hkl:k < s.posted.length:=(findIdx_lt hk).1
      have hoz:c.of_≠Ref.z:=fun he=>by
       obtain⟨_,q,hq,hqe⟩:=findIdx_lt hk
       have hq2:q.ref=Ref.z:=by rw [← he];simpa using hqe
       have:=h.numbers.num k q hq
       rw [hq2] at this
       simp only [Ref.z] at this
       omega
      have hback:p.back=false:=by
       cases hbb:p.back
       ·rfl
       ·exact absurd (.inl hbb) hb
      have hpo:p.of_=Ref.z:=Classical.byContradiction fun he=>hb (.inr he)
      have hday:dayF E c.day=true:=by
       cases hbb:dayF E c.day
       ·exact absurd (.inl hbb) hd
       ·rfl
      have hnb:beforeF E c.day p.day=false:=by
       cases hbb:beforeF E c.day p.day
       ·rfl
       ·exact absurd (.inr hbb) hd
      cases hi:issueF E s c.series ⟨Ref.z,c.day,t,c.of_,false⟩ with
      | mk s' r =>
       rcases issue_ok E h hi with⟨hr,rfl⟩ | ⟨hr,n,l,b,rfl,hl,h1,h2,h3⟩
       ·simp only
        rw [if_neg hr]
        exact h
       ·simp only
        rw [if_pos hr]
        have hp2:(s.posted++[({ ref:=⟨c.series,n⟩,day:=c.day,tot:=t,of_:=c.of_,back:=false }:Pst)])[k]?=some p:=by rw [List.getElem?_append_left hkl];exact hp
        have hmap:((s.posted++[({ ref:=⟨c.series,n⟩,day:=c.day,tot:=t,of_:=c.of_,back:=false }:Pst)]).set k { p with back:=true }).map (·.ref)=(s.posted++[({ ref:=⟨c.series,n⟩,day:=c.day,tot:=t,of_:=c.of_,back:=false }:Pst)]).map (·.ref):=by
         rw [List.map_set]
         refine List.ext_getElem? fun i=>?_
         by_cases hik:k=i
         ·subst hik
          rw [List.getElem?_set_self (by rw [List.length_map,List.length_append];omega),List.getElem?_map,hp2]
          rfl
         ·rw [List.getElem?_set_ne hik]
        refine⟨h.table,h1,h.sess,h.next,?_,numbers_map hmap h2,?_⟩
        ·refine posted_credit E h.posted hl hday (backF_ok E (h.posted.tot p hpm).2 ht) hoz rfl hk hp hback ?_
         unfold takesF
         simp [hpo,hnb,ht]
        ·show bookedF [] _=some b
         rw [booked_back hp2]
         exact h3
theorem open_numbers {l:List Sr} {p:List Pst} {l':List Sr} {name:ByteArray} {limit:Int} (hn:NumbersOk l p) (h:srOpen E l name limit=(l',0)):NumbersOk l' p:=by
 unfold srOpen at h
 split at h
 ·cases h
 ·split at h
  ·cases h
  ·split at h
   ·cases h
   ·split at h
    ·cases h
    ·rename_i h4
     split at h
     ·cases h
     ·simp only [Prod.mk.injEq,and_true] at h
      subst h
      have hnew:∀ x∈l,x.name≠name:=fun x hx he=>h4 (by
       rw [List.any_eq_true]
       exact⟨x,hx,by simp [he]⟩)
      refine⟨fun q hq=>?_,hn.num,fun x hx=>?_⟩
      ·obtain⟨x,hx,he⟩:=hn.ser q hq
       exact⟨x,insF_mem.2 (.inr hx),he⟩
      ·rcases insF_mem.1 hx with rfl | hx
       ·simp only
        have h0:cntS p name=0:=by
         unfold cntS
         rw [List.length_eq_zero_iff,List.filter_eq_nil_iff]
         intro q hq he
         obtain⟨x,hx,hxe⟩:=hn.ser q hq
         exact hnew x hx (hxe.trans (by simpa using he))
        rw [h0]
        rfl
       ·exact hn.next x hx
theorem shut_ok {l l':List Sr} {p:List Pst} {name:ByteArray} (hs:srRight E l=true) (hn:NumbersOk l p) (h:srShutF E l name=(l',0)):srRight E l'=true∧NumbersOk l' p:=by
 unfold srShutF at h
 split at h
 rename_i k e hf
 split at h
 ·rename_i he
  have:=congrArg Prod.snd h
  exact absurd this he
 ·rename_i he
  have he0:e=0:=by simpa using he
  subst he0
  obtain⟨x,hx,_,_⟩:=free_ok E hf
  rw [hx] at h
  simp only [Prod.mk.injEq,and_true] at h
  subst h
  have hxm:x∈l:=List.mem_of_getElem? hx
  have hkl:k < l.length:=by
   rcases Nat.lt_or_ge k l.length with h | h
   ·exact h
   ·rw [List.getElem?_eq_none h] at hx;cases hx
  have hxo:srOk E x=true:=by
   unfold srRight at hs
   simp only [Bool.and_eq_true,List.all_eq_true] at hs
   exact hs.2.1 x hxm
  refine⟨srSet_right E hs hx rfl hxo,fun q hq=>?_,hn.num,fun y hy=>?_⟩
  ·obtain⟨y,hy,he⟩:=hn.ser q hq
   obtain⟨i,hi⟩:=List.getElem?_of_mem hy
   by_cases hik:k=i
   ·subst hik
    rw [hx] at hi
    cases hi
    exact⟨_,List.mem_of_getElem? (List.getElem?_set_self hkl),he⟩
   ·exact⟨y,List.mem_of_getElem? (by rw [List.getElem?_set_ne hik];exact hi),he⟩
  ·rcases List.mem_or_eq_of_mem_set hy with hy | rfl
   ·exact hn.next y hy
   ·exact hn.next x hxm
theorem leave_ok {l l':List Ses} {id:Int} (hs:sesRight l=true) (h:sesLeave l id=(l',0)):sesRight l'=true∧∀ x∈l',x∈l:=by
 unfold sesLeave at h
 split at h
 ·cases h
 ·rename_i k hk
  simp only [Prod.mk.injEq,and_true] at h
  subst h
  rw [sesRight_iff] at hs ⊢
  obtain⟨h1,h2,h3,h4⟩:=hs
  have hm:∀ x∈l.eraseIdx k,x∈l:=fun x hx=>List.mem_of_mem_eraseIdx hx
  exact⟨⟨Nat.le_trans (List.length_eraseIdx_le ..) h1,fun x hx=>h2 x (hm x hx),fun x hx=>h3 x (hm x hx),h4.sublist (List.eraseIdx_sublist ..)⟩,hm⟩
theorem do_ok {s:St} {c:Cd} (h:StOk E s):StOk E (doF E s c).1:=by
 unfold doF
 split
 ·simp only
  split
  ·rename_i h0
   have e:srOpen E s.series c.series c.limit=((srOpen E s.series c.series c.limit).1,0):=by rw [← h0]
   exact⟨h.table,srOpen_right E e,h.sess,h.next,h.posted,open_numbers E h.numbers e,h.book⟩
  ·exact h
 ·split
  ·simp only
   split
   ·rename_i h0
    have e:srShutF E s.series c.series=((srShutF E s.series c.series).1,0):=by rw [← h0]
    obtain⟨a,b⟩:=shut_ok E h.series h.numbers e
    exact⟨h.table,a,h.sess,h.next,h.posted,b,h.book⟩
   ·exact h
  ·split
   ·simp only
    split
    ·rename_i h0
     have e:vatPut E s.table c.row=((vatPut E s.table c.row).1,0):=by rw [← h0]
     exact⟨vatPut_right E e,h.series,h.sess,h.next,h.posted,h.numbers,h.book⟩
    ·exact h
   ·split
    ·exact bill_ok E h
    ·split
     ·exact credit_ok E h
     ·split
      ·simp only
       split
       ·rename_i h0
        have e:sesLeave s.sess c.session=((sesLeave s.sess c.session).1,0):=by rw [← h0]
        obtain⟨a,b⟩:=leave_ok h.sess e
        exact⟨h.table,h.series,a,⟨h.next.1,h.next.2.1,fun x hx=>h.next.2.2 x (b x hx)⟩,h.posted,h.numbers,h.book⟩
       ·exact h
      ·exact h
theorem keep_ok {l:List Ses} {id seq:Int} {r:Rp} {nx:Int} (hs:sesRight l=true) (hn:∀ x∈l,x.id < nx):sesRight (keepF l id seq r)=true∧∀ x∈keepF l id seq r,x.id < nx:=by
 unfold keepF
 split
 ·exact⟨hs,hn⟩
 ·rename_i rr had hlk
  split
  ·exact⟨hs,hn⟩
  ·rename_i hhad
   split
   ·exact⟨hs,hn⟩
   ·rename_i k hk
    split
    ·exact⟨hs,hn⟩
    ·rename_i x hx
     have hxm:x∈l:=List.mem_of_getElem? hx
     have hseq:1≤seq∧seq≤1099511627776:=by
      unfold lookF at hlk
      rw [hk] at hlk
      simp only [hx] at hlk
      split at hlk
      ·cases hlk
      ·omega
     rw [sesRight_iff] at hs ⊢
     obtain⟨h1,h2,h3,h4⟩:=hs
     refine⟨⟨by rw [List.length_set];exact h1,fun y hy=>?_,fun y hy=>?_,pw_set h4 hx (fun z hz=>hz) (fun z hz=>hz)⟩,fun y hy=>?_⟩
     ·rcases List.mem_or_eq_of_mem_set hy with hy | rfl
      ·exact h2 y hy
      ·unfold sesOk
       simp only [Bool.and_eq_true,Bool.or_eq_true,decide_eq_true_eq]
       exact⟨by omega,by omega,.inl (by omega)⟩
     ·rcases List.mem_or_eq_of_mem_set hy with hy | rfl
      ·exact h3 y hy
      ·exact h3 x hxm
     ·rcases List.mem_or_eq_of_mem_set hy with hy | rfl
      ·exact hn y hy
      ·exact hn x hxm
theorem join_ok {s:St} (h:StOk E s):StOk E (joinF s).1:=by
 unfold joinF
 split
 ·exact h
 ·rename_i hc
  have hs:=h.sess
  rw [sesRight_iff] at hs
  obtain⟨h1,h2,h3,h4⟩:=hs
  obtain⟨n1,n2,n3⟩:=h.next
  have hc':s.sess.length < 8∧s.next < 1099511627776:=by
   constructor
   ·exact Nat.lt_of_not_le fun he=>hc (.inl he)
   ·exact Int.lt_of_not_ge fun he=>hc (.inr he)
  refine⟨h.table,h.series,?_,⟨by simp only;omega,by simp only;omega,fun x hx=>?_⟩,h.posted,h.numbers,h.book⟩
  ·simp only
   rw [sesRight_iff]
   refine⟨by rw [insF_len];omega,fun x hx=>?_,fun x hx=>?_,insF_pw sesLt_trans h4 fun x hx=>?_⟩
   ·rcases insF_mem.1 hx with rfl | hx
    ·rfl
    ·exact h2 x hx
   ·rcases insF_mem.1 hx with rfl | hx
    ·simp only;omega
    ·exact h3 x hx
   ·left
    unfold sesLt
    simpa using n3 x hx
  ·simp only at hx ⊢
   rcases insF_mem.1 hx with rfl | hx
   ·simp only;omega
   ·have:=n3 x hx
    omega
theorem apply_ok {s:St} {c:Ca} (h:StOk E s):StOk E (applyF E s c).1:=by
 unfold applyF
 split
 ·exact h
 ·split
  ·exact join_ok E h
  ·split
   ·exact h
   ·split
    ·exact h
    ·cases hd:doF E s c.cmd with
     | mk s' r =>
      have h':StOk E s':=by
       have:=do_ok E (c:=c.cmd) h
       rw [hd] at this
       exact this
      obtain⟨a,b⟩:=keep_ok (id:=c.session) (seq:=c.seq) (r:=r) h'.sess h'.next.2.2
      exact⟨h'.table,h'.series,a,⟨h'.next.1,h'.next.2.1,b⟩,h'.posted,h'.numbers,h'.book⟩
theorem new_ok:StOk E ⟨[],[],[],[],[],1⟩:=by
 refine⟨by rfl,by rfl,by rfl,⟨by simp,by simp,fun x hx=>by cases hx⟩,⟨by simp,fun p hp=>(by cases hp),fun i p hp=>(by simp at hp),fun i p hp=>(by simp at hp)⟩,⟨fun p hp=>(by cases hp),fun i p hp=>(by simp at hp),fun x hx=>(by cases hx)⟩,rfl⟩
end
end Go.Proofs.YtbknmeafcbhicaaGreatDoor.bil

/- Billing as plain functions: no command is answered that a session is over, but by the session's want. (No program in sight.) -/
namespace Go.Proofs.YtbknmeafcbhicaaGreatDoor.bil
section
variable (E:Env)
theorem row_why (r:Rt):rowF E r≠15:=by
 unfold rowF
 repeat' split
 all_goals decide
theorem vatPut_why (l:List Rt) (r:Rt):(vatPut E l r).2≠15:=by
 unfold vatPut
 repeat' split
 all_goals first
  | exact row_why E r
  | simp
theorem srOpen_why (l:List Sr) (n:ByteArray) (k:Int):(srOpen E l n k).2≠15:=by
 unfold srOpen
 repeat' split
 all_goals simp
theorem srFree_why (l:List Sr) (n:ByteArray):(srFree E l n).2≠15:=by
 unfold srFree
 repeat' split
 all_goals simp
theorem srShut_why (l:List Sr) (n:ByteArray):(srShutF E l n).2≠15:=by
 have hf:=srFree_why E l n
 unfold srShutF
 split
 rename_i k e he
 rw [he] at hf
 repeat' split
 all_goals first
  | exact hf
  | simp
theorem srTake_why {l:List Sr} {n:ByteArray} {e:Int} (h:srTakeF E l n=.inr e):e≠15:=by
 have hf:=srFree_why E l n
 unfold srTakeF at h
 split at h
 rename_i k e' he
 rw [he] at hf
 split at h
 ·cases h
  exact hf
 ·split at h
  ·cases h
   decide
  ·split at h
   ·cases h
    decide
   ·cases h
theorem book_why {b:List Bal} {t:Tot} {e:Int} (h:bookOne b t=.inr e):e≠15:=by
 unfold bookOne enterF at h
 split at h
 ·cases h
  decide
 ·split at h
  ·cases h
   decide
  ·split at h
   ·cases h
    decide
   ·cases h
theorem issue_why (s:St) (n:ByteArray) (p:Pst):(issueF E s n p).2.why≠15:=by
 unfold issueF
 split
 ·rename_i e he
  exact srTake_why E he
 ·split
  ·simp [whyR]
  ·split
   ·rename_i e he
    exact book_why he
   ·simp
theorem line_why {t:List Rt} {d:Dt} {x:Li} {e:Int} (h:lineF E t d x=.inr e):e≠15:=by
 unfold lineF at h
 repeat' split at h
 all_goals first
  | (cases h;decide)
  | cases h
theorem parts_why {t:List Rt} {d:Dt}:∀ {ls:List Li} {ps:List Pt} {e:Int},partsF E t d ls ps=.inr e→e≠15
 | [],ps,e,h=>by cases h
 | x::xs,ps,e,h=>by
  unfold partsF at h
  split at h
  ·rename_i e' he
   cases h
   exact line_why E he
  ·split at h
   ·cases h
    decide
   ·exact parts_why h
theorem total_why {t:List Rt} {d:Dt} {ls:List Li} {e:Int} (h:totalF E t d ls=.inr e):e≠15:=by
 unfold totalF at h
 split at h
 ·cases h;decide
 ·split at h
  ·cases h;decide
  ·split at h
   ·cases h;decide
   ·split at h
    ·cases h;decide
    ·split at h
     ·rename_i e' he
      cases h
      exact parts_why E he
     ·split at h
      ·cases h;decide
      ·split at h
       ·cases h;decide
       ·cases h
theorem bill_why (s:St) (c:Cd):(billF E s c).2.why≠15:=by
 unfold billF
 split
 ·rename_i e he
  exact total_why E he
 ·exact issue_why E _ _ _
theorem credit_why (s:St) (c:Cd):(creditF E s c).2.why≠15:=by
 unfold creditF
 split
 ·simp [whyR]
 ·split
  ·simp [whyR]
  ·split
   ·simp [whyR]
   ·split
    ·simp [whyR]
    ·split
     ·simp [whyR]
     ·rename_i t ht
      have hi:=issue_why E s c.series ⟨Ref.z,c.day,t,c.of_,false⟩
      split
      rename_i s' r hr
      rw [hr] at hi
      split
      ·exact hi
      ·exact hi
theorem ask_why (s:St) (n:ByteArray):(askF s n).why≠15:=by
 unfold askF
 repeat' split
 all_goals first
  | decide
  | (show (0:Int)≠15;decide)
theorem do_why (s:St) (c:Cd):(doF E s c).2.why≠15:=by
 unfold doF
 split
 ·exact srOpen_why E _ _ _
 ·split
  ·exact srShut_why E _ _
  ·split
   ·exact vatPut_why E _ _
   ·split
    ·exact bill_why E _ _
    ·split
     ·exact credit_why E _ _
     ·split
      ·simp only [whyR]
       unfold sesLeave
       split
       ·simp
       ·simp
      ·exact ask_why _ _
def RepOk (l:List Ses):Prop:=∀ x∈l,x.rep.why≠15
theorem do_sess (s:St) (c:Cd) (h:RepOk s.sess):RepOk (doF E s c).1.sess:=by
 have hi:∀ n p,(issueF E s n p).1.sess=s.sess:=fun n p=>by
  unfold issueF
  repeat' split
  all_goals rfl
 unfold doF
 split
 ·simp only
  split
  ·exact h
  ·exact h
 ·split
  ·simp only
   split
   ·exact h
   ·exact h
  ·split
   ·simp only
    split
    ·exact h
    ·exact h
   ·split
    ·unfold billF
     split
     ·exact h
     ·rw [hi]
      exact h
    ·split
     ·unfold creditF
      repeat' split
      all_goals first
       | exact h
       | (rename_i s' r hr hw;have:=hi c.series;simp only;rename_i t ht;have e:=hi c.series ⟨Ref.z,c.day,t,c.of_,false⟩;rw [hr] at e;simp only at e;rw [e];exact h)
       | skip
      all_goals first
       | (rename_i t ht _ s' r hr _;have e:=hi c.series ⟨Ref.z,c.day,t,c.of_,false⟩;rw [hr] at e;simp only at e ⊢;rw [e];exact h)
     ·split
      ·simp only
       split
       ·unfold sesLeave
        split
        ·intro x hx;cases hx
        ·exact fun x hx=>h x (List.mem_of_mem_eraseIdx hx)
       ·exact h
      ·exact h
theorem keep_rep {l:List Ses} {id seq:Int} {r:Rp} (h:RepOk l) (hr:r.why≠15):RepOk (keepF l id seq r):=by
 unfold keepF
 repeat' split
 all_goals first
  | exact h
  | (intro y hy;rcases List.mem_or_eq_of_mem_set hy with hy | rfl;exact h y hy;exact hr)
theorem apply_rep {s:St} {c:Ca} (h:RepOk s.sess):RepOk (applyF E s c).1.sess:=by
 unfold applyF
 split
 ·exact h
 ·split
  ·unfold joinF
   split
   ·exact h
   ·intro x hx
    rcases insF_mem.1 hx with rfl | hx
    ·simp
    ·exact h x hx
  ·split
   ·exact h
   ·split
    ·exact h
    ·have h1:=do_sess E s c.cmd h
     have h2:=do_why E s c.cmd
     cases hd:doF E s c.cmd with
     | mk s' r =>
      rw [hd] at h1 h2
      exact keep_rep h1 h2
theorem expired_law {s:St} (h:RepOk s.sess) (id:Int) (c:Cd) (hk:c.kind=8) :
  ((∃ x∈s.sess,x.id=id)→(applyF E s ⟨id,1,c⟩).2.why≠15)∧((¬ ∃ x∈s.sess,x.id=id)→applyF E s ⟨id,1,c⟩=(s,whyR 15)):=by
 have hl:∀ k,sesAt s.sess id=some k→∃ x,s.sess[k]?=some x∧x.id=id:=fun k hk=>by
  obtain⟨_,x,hx,he⟩:=findIdx_lt hk
  exact⟨x,hx,by simpa using he⟩
 unfold applyF
 simp only [hk]
 rw [if_neg (by decide),if_neg (by decide)]
 constructor
 ·rintro ⟨x,hx,hxi⟩
  have hs:∃ k,sesAt s.sess id=some k:=by
   cases hq:sesAt s.sess id with
   | some k=>exact⟨k,rfl⟩
   | none =>
    unfold sesAt at hq
    rw [List.findIdx?_eq_none_iff] at hq
    have:=hq x hx
    simp [hxi] at this
  obtain⟨k,hk'⟩:=hs
  obtain⟨y,hy,_⟩:=hl k hk'
  have hym:y∈s.sess:=List.mem_of_getElem? hy
  unfold lookF
  rw [hk']
  simp only [hy]
  rw [if_neg (by decide)]
  by_cases h1:(1:Int)=y.last
  ·rw [if_pos h1]
   simp only
   simpa using h y hym
  ·rw [if_neg h1]
   by_cases h2:(1:Int) < y.last
   ·rw [if_pos h2]
    simp [whyR]
   ·rw [if_neg h2]
    simp only
    rw [if_neg (by decide)]
    have:=do_why E s c
    cases hd:doF E s c with
    | mk s' r =>
     rw [hd] at this
     exact this
 ·intro hn
  have hq:sesAt s.sess id=none:=by
   unfold sesAt
   rw [List.findIdx?_eq_none_iff]
   intro x hx
   cases hb:(x.id == id)
   ·rfl
   ·exact absurd ⟨x,hx,by simpa using hb⟩ hn
  unfold lookF
  rw [hq]
end
end Go.Proofs.YtbknmeafcbhicaaGreatDoor.bil

/- States: do the invoices bear 1, 2, 3 and so on; their book; sessions; may a state be. -/
namespace Go.Proofs.YtbknmeafcbhicaaGreatDoor.Ev
open Go
noncomputable section
def cSt (s:bil.St):List AV:=[.fl .rate s.table,.fl .series s.series,.fl .posted s.posted,.fl .bal s.book,.fl .ses s.sess,i64 s.next]
def mNu (s:bil.St) (a:List Int):Mem:=⟨(T.node T.nil (some ⟨.ls .int a,1,false⟩) T.nil).node (some ⟨.raw (cSt s),1,false⟩) T.nil,2,3,3⟩
def lpNu (L L':Nat) (s:bil.St) (a:List Int) (n:Int):Option AV:=loopS (evS c59 L b1_numbers) l1_numbers 0 L' (stL [(q1,.ptr 0 0),(q3,.ptr 1 0),(q10,.fl .posted s.posted),(q11,i64 (.ofNat s.posted.length)),(q12,i64 n)]) (mNu s a) (k1_numbers c59 L fun r m=>frzK m .any r some)
def lpNs (L L':Nat) (l:List bil.Sr) (a:List Int) (n:Int):Option AV:=loopS (evS c59 L b2_numbers) l2_numbers 0 L' (stL [(q3,.ptr 0 0),(q36,.fl .series l),(q37,i64 (.ofNat l.length)),(q38,i64 n)]) (mAr a) (k2_numbers c59 L fun r m=>frzK m .any r some)
def ixN (s:bil.St) (n:Nat):Int:=ixO (bil.srAt s.series (nPs s.posted n).ref.ser)
def stN (a:List Int) (k:Int):List Int:=a.set k.toNat (wrapK .i64 (nI a k.toNat+1))
theorem round_numbers (L L' n:Nat) (s:bil.St) (a:List Int):lpNu L (Nat.succ L') s a (.ofNat n) =
 bif ltI (.ofNat n) (.ofNat s.posted.length) then bif inI (.ofNat n) s.posted.length then bif Nat.blt s.series.length 1000000 then bif ltI (ixN s n) 0 then some (.bool false) else
  bif inI (ixN s n) 8 then bif Nat.blt (ixN s n).toNat a.length then bif inI (ixN s n) 8 then bif Nat.blt (ixN s n).toNat a.length then bif inI (ixN s n) 8 then bif Nat.blt (ixN s n).toNat (stN a (ixN s n)).length then
   bif !eqI (nPs s.posted n).ref.num (nI (stN a (ixN s n)) (ixN s n).toNat) then some (.bool false) else lpNu L L' s (stN a (ixN s n)) (wrapK .i64 (.ofNat n+1))
  else none else none else none else none else none else none else none else none else lpNs L L s.series a 0:=by kernel_rfl
theorem round_numbers2 (L L' n:Nat) (l:List bil.Sr) (a:List Int):lpNs L (Nat.succ L') l a (.ofNat n) =
 bif ltI (.ofNat n) (.ofNat l.length) then bif inI (.ofNat n) l.length then bif inI (.ofNat n) 8 then bif Nat.blt n a.length then
  bif !eqI (nth (t:=.series) l n).next (wrapK .i64 (nI a n+1)) then some (.bool false) else lpNs L L' l a (wrapK .i64 (.ofNat n+1)) else none else none else none else some (.bool true):=by kernel_rfl
def nA (s:bil.St) (n:Nat):List Int:=(List.range 8).map fun k=>.ofNat (match s.series[k]? with | some x=>bil.cntS (s.posted.take n) x.name | none=>0)
theorem nA_len (s:bil.St) (n:Nat):(nA s n).length=8:=by unfold nA;rw [List.length_map,List.length_range]
theorem cntS_le (l:List bil.Pst) (c:ByteArray):bil.cntS l c≤l.length:=List.length_filter_le _ _
theorem nA_nth {s:bil.St} {n k:Nat} {x:bil.Sr} (h:k < 8) (hx:s.series[k]?=some x):nI (nA s n) k=.ofNat (bil.cntS (s.posted.take n) x.name):=by
 have:(nA s n)[k]?=some (.ofNat (bil.cntS (s.posted.take n) x.name)):=by
  unfold nA
  rw [List.getElem?_map,List.getElem?_range h,Option.map_some,hx]
 rw [get_nth (t:=.int) (by rw [nA_len];exact h)] at this
 exact Option.some.inj this
theorem nA_next {s:bil.St} {n k:Nat} {x:bil.Sr} (hs:bil.srRight E s.series=true) (hn:n < s.posted.length) (hk:k < 8) (hx:s.series[k]?=some x) (he:x.name=(nPs s.posted n).ref.ser) :
  nA s (n+1)=(nA s n).set k (.ofNat (bil.cntS (s.posted.take n) x.name+1)):=by
 have hpw:s.series.Pairwise (fun a b=>bil.srLt a b=true):=by
  unfold bil.srRight at hs
  simp only [Bool.and_eq_true,bil.chain_pw bil.srLt_trans] at hs
  exact hs.2.2
 have ht:s.posted.take (n+1)=s.posted.take n++[nPs s.posted n]:=by
  rw [List.take_add_one,nPs_get hn];rfl
 refine List.ext_getElem? fun j=>?_
 by_cases hj:j < 8
 ·rw [List.getElem?_set]
  unfold nA
  rw [List.getElem?_map,List.getElem?_map,List.getElem?_range hj,List.length_map,List.length_range,Option.map_some,Option.map_some,ht]
  by_cases hkj:k=j
  ·subst hkj
   rw [if_pos rfl,if_pos hk,hx]
   simp only
   rw [bil.cntS_app,if_pos he.symm]
  ·rw [if_neg hkj]
   cases hy:s.series[j]? with
   | none=>rfl
   | some y =>
    simp only
    rw [bil.cntS_app,if_neg fun h=>hkj (bil.pw_names hpw hx hy (he.trans h))];rfl
 ·rw [List.getElem?_eq_none (by rw [nA_len];omega),List.getElem?_eq_none (by rw [List.length_set,nA_len];omega)]
theorem loop_numbers2 (L:Nat) (s:bil.St) (hs:bil.srRight E s.series=true) (h:bil.NumbersOk s.series s.posted) (hl:s.posted.length < 1000000):∀ (t:List bil.Sr) (n f:Nat),s.series.drop n=t→n≤s.series.length→t.length < f →
  lpNs L f s.series (nA s s.posted.length) (.ofNat n)=some (.bool true)
 | t,n,0,_,_,hf=>by omega
 | [],n,f+1,hd,hn,hf=>by
  rw [round_numbers2,drop_nil hd hn,le_nat (Nat.le_refl _),cond_false]
 | x::t,n,f+1,hd,hn,hf=>by
  obtain⟨h1,h2,h3⟩:=drop_cons (t:=.series) hd
  have ih:=loop_numbers2 L s hs h hl t (n+1) f h3 (by omega) (by simp at hf;omega)
  have h8:s.series.length≤8:=by
   unfold bil.srRight at hs
   simp only [Bool.and_eq_true,decide_eq_true_eq] at hs
   exact hs.1
  have hx:s.series[n]?=some x:=by rw [get_nth (t:=.series) h1,h2]
  have hnx:=h.next x (List.mem_of_getElem? hx)
  have hc:=nA_nth (n:=s.posted.length) (by omega:n < 8) hx
  rw [List.take_length] at hc
  have:=cntS_le s.posted x.name
  rw [round_numbers2,lt_nat h1,cond_true,in_nat h1,cond_true,in_nat (by omega:n < 8),cond_true,bltN_true (by rw [nA_len];omega),cond_true,h2,hc,wrap_succ (by omega),wrap_succ (by omega),ih,eq_true' (by rw [hnx];rfl),Bool.not_true,cond_false]
theorem loop_numbers (L:Nat) (s:bil.St) (hs:bil.srRight E s.series=true) (h:bil.NumbersOk s.series s.posted) (hl:s.posted.length < 1000000) (hL:8 < L):∀ (t:List bil.Pst) (n f:Nat),s.posted.drop n=t→n≤s.posted.length→t.length < f →
  lpNu L f s (nA s n) (.ofNat n)=some (.bool true)
 | t,n,0,_,_,hf=>by omega
 | [],n,f+1,hd,hn,hf=>by
  have h8:s.series.length≤8:=by
   unfold bil.srRight at hs
   simp only [Bool.and_eq_true,decide_eq_true_eq] at hs
   exact hs.1
  rw [round_numbers,drop_nil hd hn,le_nat (Nat.le_refl _),cond_false]
  exact loop_numbers2 L s hs h hl s.series 0 L rfl (by omega) (by omega)
 | x::t,n,f+1,hd,hn,hf=>by
  obtain⟨h1,h2,h3⟩:=drop_cons (t:=.posted) hd
  have ih:=loop_numbers L s hs h hl hL t (n+1) f h3 (by omega) (by simp at hf;omega)
  have h8:s.series.length≤8:=by
   unfold bil.srRight at hs
   simp only [Bool.and_eq_true,decide_eq_true_eq] at hs
   exact hs.1
  have hget:=nPs_get h1
  obtain⟨y,hy1,hy2⟩:=h.ser _ (List.mem_of_getElem? hget)
  have hsome:∃ k z,bil.srAt s.series (nPs s.posted n).ref.ser=some k∧s.series[k]?=some z∧z.name=(nPs s.posted n).ref.ser:=by
   cases hk:bil.srAt s.series (nPs s.posted n).ref.ser with
   | none =>
    unfold bil.srAt at hk
    rw [List.findIdx?_eq_none_iff] at hk
    have:=hk y hy1
    simp [hy2] at this
   | some k =>
    obtain⟨g1,z,g2,g3⟩:=bil.findIdx_lt hk
    exact⟨k,z,rfl,g2,by simpa using g3⟩
  obtain⟨k,z,hk,hz,hzn⟩:=hsome
  have hk8:k < s.series.length:=(List.getElem?_eq_some_iff.1 hz).1
  have hix:ixN s n=.ofNat k:=by unfold ixN;rw [hk];rfl
  have hnum:=h.num n _ hget
  have hcl:=cntS_le (s.posted.take n) z.name
  rw [List.length_take] at hcl
  have hst:stN (nA s n) (.ofNat k)=nA s (n+1):=by
   rw [nA_next hs h1 (by omega) hz hzn]
   unfold stN
   rw [toNat_of,nA_nth (by omega) hz,wrap_succ (by omega)]
  have hnx:=nA_nth (s:=s) (n:=n+1) (by omega:k < 8) hz
  have ht:s.posted.take (n+1)=s.posted.take n++[nPs s.posted n]:=by
   rw [List.take_add_one,hget];rfl
  rw [ht,bil.cntS_app,if_pos hzn.symm] at hnx
  rw [round_numbers,lt_nat h1,cond_true,in_nat h1,cond_true,bltN_true (by omega:s.series.length < 1000000),cond_true,hix,lt_false (by simp only [Int.ofNat_eq_natCast];omega),cond_false,in_nat (by omega:k < 8),cond_true,toNat_of,bltN_true (by rw [nA_len];omega),cond_true,cond_true,cond_true,cond_true,hst,bltN_true (by rw [nA_len];omega),cond_true,hnx,wrap_succ (by omega),ih,eq_true' (by rw [hnum,hzn];rfl),Bool.not_true,cond_false]
theorem run_numbers (s:bil.St) (hs:bil.srRight E s.series=true) (h:bil.NumbersOk s.series s.posted) (hl:s.posted.length < 1000):callF c59 1000 s_numbers .any [.agg (cSt s)] some=some (.bool true):=by
 have e:∀ L,callF c59 L s_numbers .any [.agg (cSt s)] some=lpNu L L s [0,0,0,0,0,0,0,0] (.ofNat 0):=fun L=>by kernel_rfl
 have e0:nA s 0=[0,0,0,0,0,0,0,0]:=by
  have:nA s 0=(List.range 8).map fun _=>0:=by
   unfold nA
   refine List.map_congr_left fun k _=>?_
   cases s.series[k]?<;>rfl
  exact this
 rw [e,← e0]
 exact loop_numbers 1000 s hs h (by omega) (by omega) s.posted 0 1000 rfl (by omega) (by omega)
open Classical in
def G_numbers:List AV→Option (Bool × AV)
 | [.agg [.fl .rate t,.fl .series l,.fl .posted p,.fl .bal b,.fl .ses z,.int .i64 n]]=>some (bil.srRight E l&&(decide (bil.NumbersOk l p)&&Nat.blt p.length 1000),.bool true)
 | _=>none
def c60:ClS:=addG 28 G_numbers c59
theorem snd60:SoundS Tryz.prog c60:=add_gn snd59 mix ok_numbers .any G_numbers fun xs r h=>by
 unfold G_numbers at h
 split at h<;>first | (cases h;done) | skip
 rename_i t l p b z n
 obtain⟨hg,rfl⟩:=Prod.mk.inj (Option.some.inj h)
 rw [Bool.and_eq_true,Bool.and_eq_true] at hg
 exact⟨rfl,_,run_numbers ⟨t,l,p,b,z,n⟩ hg.1 (@of_decide_eq_true _ (Classical.propDecidable _) hg.2.1) (blt_iff.1 hg.2.2)⟩
def bA (b:List bil.Bal) (e:Int):Option AV:=some (.tup [.fl .bal b,i64 e])
def kBo (L:Nat):Ex→T AV→Mem→Option AV:=k1_booked c60 L fun r m=>frzK m (.tup [.lst .bal,.any]) r some
def lpBo0 (L L':Nat) (l:List bil.Pst) (n:Int):Option AV:=loopS (evS c60 L b1_booked) l1_booked 0 L' (stL [(q4,.nilsl),(q9,.fl .posted l),(q10,i64 (.ofNat l.length)),(q11,i64 n)]) m0 (kBo L)
def lpBo (L L':Nat) (l:List bil.Pst) (b:List bil.Bal) (n:Int):Option AV:=loopS (evS c60 L b1_booked) l1_booked 0 L' (stL [(q4,.fl .bal b),(q9,.fl .posted l),(q10,i64 (.ofNat l.length)),(q11,i64 n)]) m0 (kBo L)
def gEn (p:bil.Pst):Bool:=!p.tot.parts.isEmpty&&(p.tot.parts.all gPt&&Nat.blt p.tot.parts.length 100)
def enP (p:bil.Pst):List bil.Bal × Int:=entR p.tot.parts p.tot.gross
theorem round_booked0 (L L' n:Nat) (l:List bil.Pst):lpBo0 L (Nat.succ L') l (.ofNat n)=bif ltI (.ofNat n) (.ofNat l.length) then bif inI (.ofNat n) l.length then bif gEn (nPs l n) then bif !eqI (enP (nPs l n)).2 0 then bA [] (enP (nPs l n)).2 else
  bif (enP (nPs l n)).1.all gBal&&Nat.blt (enP (nPs l n)).1.length 1000 then bif !eqI (enterR [] (enP (nPs l n)).1).2 0 then bA [] (enterR [] (enP (nPs l n)).1).2 else lpBo L L' l (enterR [] (enP (nPs l n)).1).1 (wrapK .i64 (.ofNat n+1)) else none else none else none
 else bA [] 0:=by kernel_rfl
theorem round_booked (L L' n:Nat) (l:List bil.Pst) (b:List bil.Bal):lpBo L (Nat.succ L') l b (.ofNat n)=bif ltI (.ofNat n) (.ofNat l.length) then bif inI (.ofNat n) l.length then bif gEn (nPs l n) then bif !eqI (enP (nPs l n)).2 0 then bA [] (enP (nPs l n)).2 else
  bif b.all gBal&&((enP (nPs l n)).1.all gBal&&(Nat.blt b.length 50000&&Nat.blt (enP (nPs l n)).1.length 1000)) then bif !eqI (enterR b (enP (nPs l n)).1).2 0 then bA [] (enterR b (enP (nPs l n)).1).2 else lpBo L L' l (enterR b (enP (nPs l n)).1).1 (wrapK .i64 (.ofNat n+1)) else none else none else none
 else bA b 0:=by kernel_rfl
theorem entF_all:∀ {ps:List bil.Pt} {m:List bil.Bal},bil.entF ps=some m→m.all gBal=true∧m.length=2*ps.length
 | [],m,h=>by
  simp only [bil.entF,Option.some.injEq] at h
  subst h
  exact⟨rfl,rfl⟩
 | p::ps,m,h=>by
  unfold bil.entF at h
  split at h
  ·cases h
  ·rename_i n hn
   split at h
   ·cases h
   ·rename_i x hx
    cases hb:bil.entF ps with
    | none=>rw [hb] at h;cases h
    | some l =>
     rw [hb] at h
     cases h
     obtain⟨i1,i2⟩:=entF_all hb
     obtain⟨rfl,h1⟩:=bil.negZ_some hn
     obtain⟨rfl,h2⟩:=bil.negZ_some hx
     refine⟨?_,by simp only [List.length_cons];omega⟩
     rw [List.all_cons,List.all_cons,i1]
     unfold gBal
     rw [gI_iff.2 h1,gI_iff.2 h2];rfl
theorem bals_all:∀ {e b b':List bil.Bal},allA b→bil.balsPut b e=some b'→allA b'∧b'.length≤b.length+e.length
 | [],b,b',hI,h=>by
  simp only [bil.balsPut,Option.some.injEq] at h
  subst h
  exact⟨hI,by simp⟩
 | x::e,b,b',hI,h=>by
  unfold bil.balsPut at h
  split at h
  ·cases h
  ·rename_i c hc
   obtain⟨i1,i2,_⟩:=put_all hI hc
   obtain⟨j1,j2⟩:=bals_all i1 h
   exact⟨j1,by simp only [List.length_cons];omega⟩
theorem allA_g {l:List bil.Bal} (h:allA l):l.all gBal=true:=by
 rw [List.all_eq_true]
 exact fun x hx=>gI_iff.2 (h x hx)
theorem one_booked {b b':List bil.Bal} {p:bil.Pst} (hg:gI p.tot.gross=true) (hb:allA b) (h:bil.bookOne b p.tot=.inl b') :
  (enP p).2=0∧(enP p).1.all gBal=true∧(enP p).1.length=1+2*p.tot.parts.length∧enterR b (enP p).1=(b',0)∧allA b'∧b'.length≤b.length+1+2*p.tot.parts.length:=by
 unfold bil.bookOne bil.entriesF at h
 unfold enP entR
 cases he:bil.entF p.tot.parts with
 | none=>rw [he] at h;cases h
 | some m =>
  rw [he] at h
  simp only [Option.map_some] at h
  obtain⟨i1,i2⟩:=entF_all he
  simp only
  have hlen:(⟨bil.owedA,p.tot.gross⟩::m:List bil.Bal).length=1+2*p.tot.parts.length:=by rw [List.length_cons,i2];omega
  refine⟨trivial,by rw [List.all_cons,i1];unfold gBal;rw [hg];rfl,hlen,?_,?_⟩
  ·unfold enterR
   rw [h]
  ·unfold bil.enterF at h
   split at h
   ·cases h
   ·cases hp:bil.balsPut b (⟨bil.owedA,p.tot.gross⟩::m) with
    | none=>rw [hp] at h;cases h
    | some c =>
     rw [hp] at h
     cases h
     obtain⟨j1,j2⟩:=bals_all hb hp
     exact⟨j1,by omega⟩
theorem pt_of {t:bil.Tot} (h:bil.totOk E t=true) (g:gTt t=true):t.parts.isEmpty=false∧t.parts.all gPt=true∧t.parts.length≤12∧1≤t.parts.length:=by
 obtain⟨h1,h2,h3,_⟩:=(bil.totOk_iff E).1 h
 obtain⟨_,_,_,g4,_⟩:=gTt_iff.1 g
 refine⟨?_,?_,h2,h1⟩
 ·cases hp:t.parts with
  | nil=>rw [hp] at h1;simp at h1
  | cons x l=>rfl
 ·rw [List.all_eq_true] at g4 ⊢
  intro x hx
  have hx4:=g4 x hx
  obtain⟨n1,_⟩:=h3 x hx
  have n2:nameB x.cat=true:=n1
  unfold nameB at n2
  simp only [Bool.and_eq_true,decide_eq_true_eq] at n2
  have hsz:x.cat.data.toList.length=x.cat.size:=by rw [Array.length_toList];rfl
  unfold gPb at hx4
  unfold gPt
  rw [Bool.and_eq_true] at hx4
  rw [hx4.1,hx4.2,bltN_true (by omega)];rfl
theorem gEn_of {p:bil.Pst} (h:bil.totOk E p.tot=true) (g:gTt p.tot=true):gEn p=true:=by
 obtain⟨h1,h2,h3,h4⟩:=pt_of h g
 unfold gEn
 rw [h1,h2,bltN_true (by omega)];rfl
def gBk (p:bil.Pst):Bool:=bil.totOk E p.tot&&gTt p.tot
theorem gross_of {t:bil.Tot} (g:gTt t=true):gI t.gross=true:=(gTt_iff.1 g).2.2.1
theorem loop_booked (L:Nat) (l:List bil.Pst) (hg:l.all gBk=true) (hl:l.length < 1000):∀ (t:List bil.Pst) (n f:Nat) (b b':List bil.Bal),l.drop n=t→n≤l.length→t.length < f→allA b→b.length≤25*n→bil.bookedF b t=some b' →
  lpBo L f l b (.ofNat n)=bA b' 0∧allA b'∧b'.length≤25*l.length
 | t,n,0,b,b',_,_,hf,_,_,_=>by omega
 | [],n,f+1,b,b',hd,hn,hf,hb,hbl,h=>by
  have hn0:=drop_nil hd hn
  simp only [bil.bookedF,Option.some.injEq] at h
  subst h
  rw [round_booked,le_nat (by omega),cond_false]
  exact⟨rfl,hb,by omega⟩
 | x::t,n,f+1,b,b',hd,hn,hf,hb,hbl,h=>by
  obtain⟨h1,h2,h3⟩:=drop_cons (t:=.posted) hd
  have hx:=List.all_eq_true.1 hg x (List.mem_of_mem_drop (by rw [hd];exact List.mem_cons_self))
  unfold gBk at hx
  rw [Bool.and_eq_true] at hx
  unfold bil.bookedF at h
  cases ho:bil.bookOne b x.tot with
  | inr e=>rw [ho] at h;cases h
  | inl c =>
   rw [ho] at h
   obtain⟨o1,o2,o3,o4,o5,o6⟩:=one_booked (gross_of hx.2) hb ho
   obtain⟨_,_,p3,_⟩:=pt_of hx.1 hx.2
   have ih:=loop_booked L l hg hl t (n+1) f c b' h3 (by omega) (by simp at hf;omega) o5 (by omega) h
   have h2':nPs l n=x:=h2
   rw [round_booked,lt_nat h1,cond_true,in_nat h1,cond_true,h2',gEn_of hx.1 hx.2,cond_true,o1,eq_true' rfl,Bool.not_true,cond_false,allA_g hb,o2,bltN_true (by omega),bltN_true (by omega),Bool.and_self,Bool.and_self,Bool.and_self,cond_true,o4,wrap_succ (by omega)]
   exact ih
theorem loop_booked0 (L:Nat) (l:List bil.Pst) (hg:l.all gBk=true) (hl:l.length < 1000) (f:Nat) (hf:l.length < f) (b':List bil.Bal) (h:bil.bookedF [] l=some b'):lpBo0 L f l (.ofNat 0)=bA b' 0∧allA b'∧b'.length≤25*l.length:=by
 cases f with
 | zero=>omega
 | succ f =>
  cases l with
  | nil =>
   simp only [bil.bookedF,Option.some.injEq] at h
   subst h
   rw [round_booked0]
   exact⟨rfl,fun _ hx=>(by cases hx),by simp⟩
  | cons x t =>
   have hx:=List.all_eq_true.1 hg x List.mem_cons_self
   unfold gBk at hx
   rw [Bool.and_eq_true] at hx
   unfold bil.bookedF at h
   cases ho:bil.bookOne [] x.tot with
   | inr e=>rw [ho] at h;cases h
   | inl c =>
    rw [ho] at h
    obtain⟨o1,o2,o3,o4,o5,o6⟩:=one_booked (gross_of hx.2) (fun _ hx=>by cases hx) ho
    obtain⟨_,_,p3,_⟩:=pt_of hx.1 hx.2
    have ih:=loop_booked L (x::t) hg hl t 1 f c b' rfl (by simp) (by simp at hf;omega) o5 (by simp at o6;omega) h
    have h2':nPs (x::t) 0=x:=rfl
    have h1:0 < (x::t).length:=by simp
    rw [round_booked0,lt_nat h1,cond_true,in_nat h1,cond_true,h2',gEn_of hx.1 hx.2,cond_true,o1,eq_true' rfl,Bool.not_true,cond_false,o2,bltN_true (by omega),Bool.and_self,cond_true,o4,wrap_succ (by omega)]
    exact ih
def bkB (l:List bil.Pst):List bil.Bal:=(bil.bookedF [] l).getD []
def G_booked:List AV→Option (Bool × AV)
 | [.fl .posted l]=>some (l.all gBk&&(Nat.blt l.length 1000&&(bil.bookedF [] l).isSome),.tup [.fl .bal (bkB l),i64 0])
 | _=>none
def c61:ClS:=addG 29 G_booked c60
theorem snd61:SoundS Tryz.prog c61:=add_gn snd60 mix ok_booked (.tup [.lst .bal,.any]) G_booked fun xs r h=>by
 unfold G_booked at h
 split at h<;>first | (cases h;done) | skip
 rename_i l
 obtain⟨hg,rfl⟩:=Prod.mk.inj (Option.some.inj h)
 rw [Bool.and_eq_true,Bool.and_eq_true] at hg
 obtain⟨g1,g2,g3⟩:=hg
 obtain⟨b,hb⟩:=Option.isSome_iff_exists.1 g3
 have e:∀ L,callF c60 L s_booked (.tup [.lst .bal,.any]) [.fl .posted l] some=lpBo0 L L l (.ofNat 0):=fun L=>by kernel_rfl
 refine⟨rfl,1000,(e _).trans ?_⟩
 have hbk:bkB l=b:=by unfold bkB;rw [hb];rfl
 rw [hbk]
 have h2:=blt_iff.1 g2
 exact (loop_booked0 1000 l g1 h2 1000 h2 b hb).1
def nZ (l:List bil.Ses) (n:Nat):bil.Ses:=nth (t:=.ses) l n
def G_sessions:List AV→Option (Bool × AV)
 | [.agg [.fl .rate t,.fl .series l,.fl .posted p,.fl .bal b,.fl .ses z,.int .i64 n]]=>some (bil.sesRight z&&(decide (1≤n)&&(decide (n≤1099511627776)&&z.all fun x=>decide (x.id < n))),.bool true)
 | _=>none
def c62:ClS:=addG 26 G_sessions c61
theorem snd62:SoundS Tryz.prog c62:=add_gn snd61 mix ok_sessions .any G_sessions fun xs r h=>by
 unfold G_sessions at h
 split at h<;>first | (cases h;done) | skip
 rename_i t l p b z n
 obtain⟨hg,rfl⟩:=Prod.mk.inj (Option.some.inj h)
 simp only [Bool.and_eq_true,decide_eq_true_eq,List.all_eq_true] at hg
 obtain⟨g1,g2,g3,g4⟩:=hg
 refine⟨rfl,0,?_⟩
 have e:callF c61 0 s_sessions .any [.agg [.fl .rate t,.fl .series l,.fl .posted p,.fl .bal b,.fl .ses z,.int .i64 n]] some=bif bil.sesRight z then bif !ltI n 1 then bif !ltI 1099511627776 n then bif eqI (.ofNat z.length) 0 then some (.bool true) else
   bif inI (wrapK .i64 (.ofNat z.length - 1)) z.length then bif ltI (nZ z (wrapK .i64 (.ofNat z.length - 1)).toNat).id n then some (.bool true) else some (.bool false) else none else some (.bool false) else some (.bool false) else some (.bool false):=by kernel_rfl
 have h8:=(bil.sesRight_iff.1 g1).1
 rw [e,g1,cond_true,lt_false (by omega),Bool.not_false,cond_true,lt_false (by omega),Bool.not_false,cond_true]
 cases z with
 | nil=>rfl
 | cons x z =>
  have hk:Int.ofNat (x::z).length=Int.ofNat (z.length+1):=rfl
  rw [eq_false' (by simp;omega),cond_false,hk,wrap_pred (by simp at h8;omega),in_nat (by simp),cond_true,toNat_of,lt_true,cond_true]
  exact g4 _ (List.mem_of_getElem? (get_nth (t:=.ses) (by simp)))
def gP (p:bil.Pst):Bool:=gTt p.tot
def StG (s:bil.St):Prop:=bil.StOk E s∧s.posted.all gP=true
theorem stG_book {s:bil.St} (h:StG s):allA s.book∧s.book.length≤1000∧s.posted.all gBk=true:=by
 have hp:=h.1.posted
 have hg:=h.2
 have hbk:s.posted.all gBk=true:=by
  rw [List.all_eq_true] at hg ⊢
  intro x hx
  unfold gBk
  rw [(hp.tot x hx).2,show gTt x.tot=true from hg x hx];rfl
 have hl:=hp.len
 obtain⟨_,h2,h3⟩:=loop_booked0 1000 s.posted hbk (by omega) 1000 (by omega) s.book h.1.book
 exact⟨h2,by omega,hbk⟩
theorem run_right (s:bil.St) (h:StG s):callF c62 0 s_right .any [.agg (cSt s)] some=some (.bool true):=by
 have e:callF c62 0 s_right .any [.agg (cSt s)] some=bif bil.vatRight E s.table then bif bil.srRight E s.series then bif bil.sesRight s.sess&&(decide (1≤s.next)&&(decide (s.next≤1099511627776)&&s.sess.all fun x=>decide (x.id < s.next))) then
   bif @decide (bil.PostedOk E s.posted) (Classical.propDecidable _)&&s.posted.all gPs then bif bil.srRight E s.series&&(@decide (bil.NumbersOk s.series s.posted) (Classical.propDecidable _)&&Nat.blt s.posted.length 1000) then
    bif s.posted.all gBk&&(Nat.blt s.posted.length 1000&&(bil.bookedF [] s.posted).isSome) then bif Nat.blt (bkB s.posted).length 1000000 then bif decide (bkB s.posted=s.book) then some (.bool true) else some (.bool false) else none else none else none else none else none else some (.bool false) else some (.bool false):=by kernel_rfl
 obtain⟨hb1,hb2,hb3⟩:=stG_book h
 obtain⟨⟨o1,o2,o3,⟨o4,o5,o6⟩,o7,o8,o9⟩,hg⟩:=h
 have hps:s.posted.all gPs=true:=by
  rw [List.all_eq_true] at hg ⊢
  intro x hx
  unfold gPs
  rw [show gTt x.tot=true from hg x hx,(pt_of (o7.tot x hx).2 (hg x hx)).1];rfl
 have hz:(s.sess.all fun x=>decide (x.id < s.next))=true:=by
  rw [List.all_eq_true]
  exact fun x hx=>decide_eq_true (o6 x hx)
 have hbk:bkB s.posted=s.book:=by unfold bkB;rw [o9];rfl
 have hl:=o7.len
 rw [e,o1,o2,o3,decide_eq_true o4,decide_eq_true o5,hz,hps,hb3,@decide_eq_true _ (Classical.propDecidable _) o7,@decide_eq_true _ (Classical.propDecidable _) o8,bltN_true (by omega:s.posted.length < 1000),hbk,bltN_true (by omega),decide_eq_true (Eq.refl s.book),o9]
 rfl
open Classical in
def G_right:List AV→Option (Bool × AV)
 | [.agg [.fl .rate t,.fl .series l,.fl .posted p,.fl .bal b,.fl .ses z,.int .i64 n]]=>some (decide (StG ⟨t,l,p,b,z,n⟩),.bool true)
 | _=>none
def c63:ClS:=addFz 11 [.agg [.any,.any,.lst .posted,.any,.any,.any]] G_right c62
theorem snd63:SoundS Tryz.prog c63:=add_thw snd62 mix ok_right .any [.agg [.any,.any,.lst .posted,.any,.any,.any]] G_right fun xs r h=>by
 unfold G_right at h
 split at h<;>first | (cases h;done) | skip
 rename_i t l p b z n
 obtain⟨hg,rfl⟩:=Prod.mk.inj (Option.some.inj h)
 exact⟨rfl,0,run_right ⟨t,l,p,b,z,n⟩ (@of_decide_eq_true _ (Classical.propDecidable _) hg)⟩
end
end Go.Proofs.YtbknmeafcbhicaaGreatDoor.Ev

/- Functions as the machine for symbols has them; they are the program's. Written by program (sytold.py). -/
namespace Go.Proofs.YtbknmeafcbhicaaGreatDoor.Ev
open Go Z
set_option maxRecDepth 100000
def l1_copied:List Path:=[q1,q2,q26,q27]
def b1_copied:SC:=(s (r [o q28 (.bin .lss) [.t q27,.t q26] 0]) (s (c q28 .skip (.exit 0)) (s (.blk 1 (s (r [m q29 q27 0,m q3 q29 1]) (d [o q30 (.fad 2) [.t q1] 0,o q31 .ld1 [.t q30] 1,m q32 q3 0,o q33 (.fad 2) [.t q1] 0,o q34 .ld1 [.t q33] 8,m q35 q3 0,o q36 (.ixs 12) [.t q34,.t q35] 56,o q37 (.fad 5) [.t q36] 120,o q38 (.fad 3) [.t q37] 248,o q39 .ld1 [.t q38] 504,⟨⟨q40,(.app 4 40),[.c .nilsl,.t q39],none,1016⟩,.ice⟩,o q41 (.ixs 12) [.t q31,.t q32] 2047,o q42 (.fad 5) [.t q41] 4095,o q43 (.fad 3) [.t q42] 8191,u (.st 1) [.t q43,.t q40] 16383]))) (r [o q44 (.bin .add) [.t q27,i 1] 0,m q27 q44 1]))))
def a1_copied:SC:=(s (r [o q45 (.ldn 6) [.t q1] 0,u (.st 6) [.t q2,.t q45] 1]) .ret)
def s_copied:FnS:=⟨46,(s (r [o q1 .box [.t q0] 0,o q2 (.new [.nilsl,.nilsl,.nilsl,.nilsl,.nilsl,(.int .i64 (0))]) [] 0]) (s (r [o q4 (.fad 0) [.t q1] 0,o q5 .ld1 [.t q4] 1,⟨⟨q6,(.app 5 48),[.c .nilsl,.t q5],none,3⟩,.ice⟩,o q7 (.fad 0) [.t q1] 7,u (.st 1) [.t q7,.t q6] 15]) (s (r [o q8 (.fad 1) [.t q1] 0,o q9 .ld1 [.t q8] 1,⟨⟨q10,(.app 4 40),[.c .nilsl,.t q9],none,3⟩,.ice⟩,o q11 (.fad 1) [.t q1] 7,u (.st 1) [.t q11,.t q10] 15]) (s (r [o q12 (.fad 3) [.t q1] 0,o q13 .ld1 [.t q12] 1,⟨⟨q14,(.app 2 24),[.c .nilsl,.t q13],none,3⟩,.ice⟩,o q15 (.fad 3) [.t q1] 7,u (.st 1) [.t q15,.t q14] 15]) (s (r [o q16 (.fad 4) [.t q1] 0,o q17 .ld1 [.t q16] 1,⟨⟨q18,(.app 5 40),[.c .nilsl,.t q17],none,3⟩,.ice⟩,o q19 (.fad 4) [.t q1] 7,u (.st 1) [.t q19,.t q18] 15]) (s (r [o q20 (.fad 2) [.t q1] 0,o q21 .ld1 [.t q20] 1,o q22 (.app 12 128) [.c .nilsl,.t q21] 3,o q23 (.fad 2) [.t q1] 7,u (.st 1) [.t q23,.t q22] 15]) (s (s (r [o q24 (.fad 2) [.t q1] 0,o q25 .ld1 [.t q24] 1,o q26 .len [.t q25] 3,o q27 .mov [i 0] 0]) (.blk 0 (.loop l1_copied 0 b1_copied))) a1_copied))))))),[(.cn q2 6)]⟩
def k1_copied {β:Type} (cl:ClS) (L:Nat) (K:AV→Mem→Option β):Ex→T AV→Mem→Option β:=kBlk 0 (kSeq (evS cl L a1_copied) (endS s_copied.res K))
theorem ok_copied:FnOkS Tryz.prog 10 s_copied:=fnOkS_of Tryz.func10 (by kernel_rfl) (by kernel_rfl) Tryz.ntmps10 (by kernel_rfl) (by kernel_rfl)
def s_why:FnS:=⟨5,(s (r [o q2 (.new [(.int .i64 (0)),(.int .i64 (0)),(.int .i64 (0))]) [] 0]) (s (r [m q3 q0 0,o q4 (.build [(.int .i64 (0)),(.int .i64 (0)),(.int .i64 (0))] [(0,1)]) [.t q3] 1,u (.st 3) [.t q2,.t q4] 3]) .ret)),[(.cn q2 3)]⟩
theorem ok_why:FnOkS Tryz.prog 12 s_why:=fnOkS_of Tryz.func12 (by kernel_rfl) (by kernel_rfl) Tryz.ntmps12 (by kernel_rfl) (by kernel_rfl)
def s_issue:FnS:=⟨83,(s (r [o q5 .box [.t q2] 0,o q6 (.new [(.int .i64 (0)),(.int .i64 (0)),(.int .i64 (0))]) [] 0]) (s (r [m q13 q0 0,o q14 .nchk [.t q13] 1,o q15 (.fad 1) [.t q14] 3,o q16 .ld1 [.t q15] 7,m q17 q1 0,o q18 (.call 111) [.t q16,.t q17] 31,m q12 q18 63,o q19 (.ext 0) [.t q12] 127,o q20 (.ext 1) [.t q12] 127,o q21 (.ext 2) [.t q12] 127,m q7 q19 255,m q8 q20 1535,m q9 q21 4095]) (s (s (r [m q22 q9 0,o q23 (.bin .neq) [.t q22,i 0] 1]) (c q23 (s (r [m q24 q9 0,o q25 (.call 12) [.t q24] 1,u (.st 3) [.t q6,.t q25] 3]) .ret) .skip)) (s (s (r [m q26 q0 0,o q27 .nchk [.t q26] 1,o q28 (.fad 2) [.t q27] 3,o q29 .ld1 [.t q28] 7,o q30 .len [.t q29] 15,o q31 (.bin .geq) [.t q30,i 40] 31]) (c q31 (s (r [o q32 (.call 12) [i 14] 0,u (.st 3) [.t q6,.t q32] 1]) .ret) .skip)) (s (r [o q34 (.fad 5) [.t q5] 0,o q35 (.ldn 4) [.t q34] 1,o q36 (.call 62) [.t q35] 3,m q33 q36 7,o q37 (.ext 0) [.t q33] 15,o q38 (.ext 1) [.t q33] 15,m q10 q37 31,m q9 q38 127]) (s (s (r [m q39 q9 0,o q40 (.bin .neq) [.t q39,i 0] 1]) (c q40 (s (r [m q41 q9 0,o q42 (.call 12) [.t q41] 1,u (.st 3) [.t q6,.t q42] 3]) .ret) .skip)) (s (r [m q44 q0 0,o q45 .nchk [.t q44] 1,o q46 (.fad 3) [.t q45] 3,o q47 .ld1 [.t q46] 7,m q48 q10 0,o q49 (.call 63) [.t q47,.t q48] 31,m q43 q49 63,o q50 (.ext 0) [.t q43] 127,o q51 (.ext 1) [.t q43] 127,m q11 q50 255,m q9 q51 1023]) (s (s (r [m q52 q9 0,o q53 (.bin .neq) [.t q52,i 0] 1]) (c q53 (s (r [m q54 q9 0,o q55 (.call 12) [.t q54] 1,u (.st 3) [.t q6,.t q55] 3]) .ret) .skip)) (s (r [m q56 q1 0,m q57 q8 0,o q58 (.build [(.str []),(.int .i64 (0))] [(0,1),(1,1)]) [.t q56,.t q57] 3,o q59 (.fad 0) [.t q5] 7,u (.st 2) [.t q59,.t q58] 15]) (s (d [m q60 q0 0,m q61 q0 0,m q62 q0 0,m q63 q7 0,m q64 q11 0,m q65 q0 0,o q66 .nchk [.t q65] 32,o q67 (.fad 2) [.t q66] 96,o q68 .ld1 [.t q67] 224,o q69 (.ldn 12) [.t q5] 0,o q70 (.bsl [(.str []),(.int .i64 (0)),(.int .i64 (0)),(.int .i64 (0)),(.int .i64 (0)),(.int .i64 (0)),(.int .i64 (0)),(.int .i64 (0)),.nilsl,(.str []),(.int .i64 (0)),(.bool false)] 1 12 [(0,12)]) [.t q69] 512,⟨⟨q71,(.app 12 128),[.t q68,.t q70],none,2016⟩,(.ty .posted 0)⟩,o q72 .nchk [.t q60] 4073,o q73 (.fad 1) [.t q72] 8169,u (.st 1) [.t q73,.t q63] 16361,o q74 .nchk [.t q61] 32763,o q75 (.fad 3) [.t q74] 65531,u (.st 1) [.t q75,.t q64] 131067,o q76 .nchk [.t q62] 262143,o q77 (.fad 2) [.t q76] 524287,u (.st 1) [.t q77,.t q71] 1048575]) (s (r [m q78 q8 0,o q79 (.fad 5) [.t q5] 0,o q80 (.fad 2) [.t q79] 2,o q81 .ld1 [.t q80] 6,o q82 (.build [(.int .i64 (0)),(.int .i64 (0)),(.int .i64 (0))] [(1,1),(2,1)]) [.t q78,.t q81] 15,u (.st 3) [.t q6,.t q82] 31]) .ret))))))))))),[(.cn q6 3)]⟩
theorem ok_issue:FnOkS Tryz.prog 73 s_issue:=fnOkS_of Tryz.func73 (by kernel_rfl) (by kernel_rfl) Tryz.ntmps73 (by kernel_rfl) (by kernel_rfl)
def s_bill:FnS:=⟨31,(s (r [o q3 .box [.t q1] 0,o q4 (.new [(.int .i64 (0)),(.int .i64 (0)),(.int .i64 (0))]) [] 0]) (s (d [m q8 q0 0,o q9 .nchk [.t q8] 1,o q10 (.fad 0) [.t q9] 3,o q11 .ld1 [.t q10] 7,o q12 (.fad 8) [.t q3] 0,o q13 (.ldn 3) [.t q12] 16,o q14 (.fad 11) [.t q3] 0,o q15 .ld1 [.t q14] 64,o q16 (.call 72) [.t q11,.t q13,.t q15] 255,m q7 q16 511,o q17 (.ext 0) [.t q7] 1023,o q18 (.ext 1) [.t q7] 1023,o q5 (.new [(.int .i64 (0)),(.int .i64 (0)),(.int .i64 (0)),.nilsl]) [] 0,u (.st 4) [.t q5,.t q17] 6143,m q6 q18 16383]) (s (s (r [m q19 q6 0,o q20 (.bin .neq) [.t q19,i 0] 1]) (c q20 (s (r [m q21 q6 0,o q22 (.call 12) [.t q21] 1,u (.st 3) [.t q4,.t q22] 3]) .ret) .skip)) (s (r [m q23 q0 0,o q24 (.fad 1) [.t q3] 0,o q25 .ld1 [.t q24] 2,o q26 (.fad 8) [.t q3] 0,o q27 (.ldn 3) [.t q26] 8,o q28 (.ldn 4) [.t q5] 0,o q29 (.build [(.str []),(.int .i64 (0)),(.int .i64 (0)),(.int .i64 (0)),(.int .i64 (0)),(.int .i64 (0)),(.int .i64 (0)),(.int .i64 (0)),.nilsl,(.str []),(.int .i64 (0)),(.bool false)] [(2,3),(5,4)]) [.t q27,.t q28] 56,o q30 (.call 73) [.t q23,.t q25,.t q29] 127,u (.st 3) [.t q4,.t q30] 255]) .ret)))),[(.cn q4 3)]⟩
theorem ok_bill:FnOkS Tryz.prog 39 s_bill:=fnOkS_of Tryz.func39 (by kernel_rfl) (by kernel_rfl) Tryz.ntmps39 (by kernel_rfl) (by kernel_rfl)
def s_credit:FnS:=⟨79,(s (r [o q3 .box [.t q1] 0,o q4 (.new [(.int .i64 (0)),(.int .i64 (0)),(.int .i64 (0))]) [] 0]) (s (d [m q10 q0 0,o q11 .nchk [.t q10] 1,o q12 (.fad 2) [.t q11] 3,o q13 .ld1 [.t q12] 7,o q14 (.fad 12) [.t q3] 0,o q15 (.ldn 2) [.t q14] 16,o q16 (.call 58) [.t q13,.t q15] 63,m q5 q16 127]) (s (s (r [m q17 q5 0,o q18 (.bin .lss) [.t q17,i 0] 1]) (c q18 (s (r [o q19 (.call 12) [i 11] 0,u (.st 3) [.t q4,.t q19] 1]) .ret) .skip)) (s (r [m q20 q0 0,o q21 .nchk [.t q20] 1,o q22 (.fad 2) [.t q21] 3,o q23 .ld1 [.t q22] 7,m q24 q5 0,o q25 (.ixs 12) [.t q23,.t q24] 31,o q26 (.ldn 12) [.t q25] 63,o q6 (.new [(.str []),(.int .i64 (0)),(.int .i64 (0)),(.int .i64 (0)),(.int .i64 (0)),(.int .i64 (0)),(.int .i64 (0)),(.int .i64 (0)),.nilsl,(.str []),(.int .i64 (0)),(.bool false)]) [] 0,u (.st 12) [.t q6,.t q26] 255]) (s (s (r [o q27 (.fad 11) [.t q6] 0,o q28 .ld1 [.t q27] 1,m q29 q28 3,g q30 (.fad 9) [.t q6] q29 false 7,g q31 (.ldn 2) [.t q30] q29 false 15,g q32 (.build [(.str []),(.int .i64 (0))] []) [] q29 false 7,g q33 (.eqa true [(0,.str),(1,.int)]) [.t q31,.t q32] q29 false 63,o q34 .pick [.t q29,.c (.bool true),.t q33] 127]) (c q34 (s (r [o q35 (.call 12) [i 12] 0,u (.st 3) [.t q4,.t q35] 1]) .ret) .skip)) (s (s (r [o q36 (.fad 8) [.t q3] 0,o q37 (.ldn 3) [.t q36] 1,o q38 (.call 56) [.t q37] 3,o q39 (.un .not) [.t q38] 7,m q40 q39 15,g q41 (.fad 8) [.t q3] q40 false 31,g q42 (.ldn 3) [.t q41] q40 false 63,g q43 (.fad 2) [.t q6] q40 false 31,g q44 (.ldn 3) [.t q43] q40 false 159,g q45 (.call 74) [.t q42,.t q44] q40 false 511,o q46 .pick [.t q40,.c (.bool true),.t q45] 1023]) (c q46 (s (r [o q47 (.call 12) [i 9] 0,u (.st 3) [.t q4,.t q47] 1]) .ret) .skip)) (s (r [o q49 (.fad 5) [.t q6] 0,o q50 (.ldn 4) [.t q49] 1,o q51 (.call 75) [.t q50] 3,m q48 q51 7,o q52 (.ext 0) [.t q48] 15,o q53 (.ext 1) [.t q48] 15,o q7 (.new [(.int .i64 (0)),(.int .i64 (0)),(.int .i64 (0)),.nilsl]) [] 0,u (.st 4) [.t q7,.t q52] 95,m q8 q53 255]) (s (s (r [m q54 q8 0,o q55 (.bin .neq) [.t q54,i 0] 1]) (c q55 (s (r [m q56 q8 0,o q57 (.call 12) [.t q56] 1,u (.st 3) [.t q4,.t q57] 3]) .ret) .skip)) (s (r [m q58 q0 0,o q59 (.fad 1) [.t q3] 0,o q60 .ld1 [.t q59] 2,o q61 (.fad 8) [.t q3] 0,o q62 (.ldn 3) [.t q61] 8,o q63 (.ldn 4) [.t q7] 0,o q64 (.fad 12) [.t q3] 0,o q65 (.ldn 2) [.t q64] 64,o q66 (.build [(.str []),(.int .i64 (0)),(.int .i64 (0)),(.int .i64 (0)),(.int .i64 (0)),(.int .i64 (0)),(.int .i64 (0)),(.int .i64 (0)),.nilsl,(.str []),(.int .i64 (0)),(.bool false)] [(2,3),(5,4),(9,2)]) [.t q62,.t q63,.t q65] 248,o q67 (.call 73) [.t q58,.t q60,.t q66] 511,o q9 (.new [(.int .i64 (0)),(.int .i64 (0)),(.int .i64 (0))]) [] 0,u (.st 3) [.t q9,.t q67] 2047]) (s (s (r [o q68 (.fad 0) [.t q9] 0,o q69 .ld1 [.t q68] 1,o q70 (.bin .eql) [.t q69,i 0] 3]) (c q70 (r [m q71 q0 0,o q72 .nchk [.t q71] 1,o q73 (.fad 2) [.t q72] 3,o q74 .ld1 [.t q73] 7,m q75 q5 0,o q76 (.ixs 12) [.t q74,.t q75] 31,o q77 (.fad 11) [.t q76] 63,u (.st 1) [.t q77,.c (.bool true)] 127]) .skip)) (s (r [o q78 (.ldn 3) [.t q9] 0,u (.st 3) [.t q4,.t q78] 1]) .ret))))))))))),[(.cn q4 3)]⟩
theorem ok_credit:FnOkS Tryz.prog 40 s_credit:=fnOkS_of Tryz.func40 (by kernel_rfl) (by kernel_rfl) Tryz.ntmps40 (by kernel_rfl) (by kernel_rfl)
def l1_ask:List Path:=[q4,q7,q29,q30,q31]
def b1_ask:SC:=(s (r [o q32 (.bin .lss) [.t q31,.t q30] 0]) (s (c q32 .skip (.exit 0)) (s (.blk 1 (s (r [o q33 (.ixs 2) [.t q29,.t q31] 0,o q34 (.ldn 2) [.t q33] 1,o q9 (.new [(.str []),(.int .i64 (0))]) [] 0,u (.st 2) [.t q9,.t q34] 7]) (s (r [o q35 (.fad 0) [.t q9] 0,o q36 .ld1 [.t q35] 1,o q37 (.sbin .eql) [.t q36,.c (.str [111,119,101,100])] 3]) (c q37 (r [o q38 (.fad 1) [.t q9] 0,o q39 .ld1 [.t q38] 1,o q40 (.fad 2) [.t q7] 3,u (.st 1) [.t q40,.t q39] 7]) .skip)))) (r [o q41 (.bin .add) [.t q31,i 1] 0,m q31 q41 1]))))
def a1_ask:SC:=(s (r [o q42 (.ldn 3) [.t q7] 0,u (.st 3) [.t q4,.t q42] 1]) .ret)
def s_ask:FnS:=⟨43,(s (r [o q4 (.new [(.int .i64 (0)),(.int .i64 (0)),(.int .i64 (0))]) [] 0]) (s (r [m q11 q0 0,o q12 .nchk [.t q11] 1,o q13 (.fad 1) [.t q12] 3,o q14 .ld1 [.t q13] 7,m q15 q1 0,o q16 (.call 77) [.t q14,.t q15] 31,m q10 q16 63,o q17 (.ext 0) [.t q10] 127,o q18 (.ext 1) [.t q10] 127,o q5 (.new [(.str []),(.int .i64 (0)),(.int .i64 (0)),(.bool false)]) [] 0,u (.st 4) [.t q5,.t q17] 767,m q6 q18 2047]) (s (s (r [m q19 q6 0,o q20 (.un .not) [.t q19] 1]) (c q20 (s (r [o q21 (.call 12) [i 11] 0,u (.st 3) [.t q4,.t q21] 1]) .ret) .skip)) (s (r [o q22 (.fad 1) [.t q5] 0,o q23 .ld1 [.t q22] 1,o q24 (.bin .sub) [.t q23,i 1] 3,o q25 (.build [(.int .i64 (0)),(.int .i64 (0)),(.int .i64 (0))] [(1,1)]) [.t q24] 7,o q7 (.new [(.int .i64 (0)),(.int .i64 (0)),(.int .i64 (0))]) [] 0,u (.st 3) [.t q7,.t q25] 31]) (s (s (r [m q26 q0 0,o q27 .nchk [.t q26] 1,o q28 (.fad 3) [.t q27] 3,o q29 .ld1 [.t q28] 7,o q30 .len [.t q29] 15,o q31 .mov [i 0] 0]) (.blk 0 (.loop l1_ask 2 b1_ask))) a1_ask))))),[(.cn q4 3)]⟩
def k1_ask {β:Type} (cl:ClS) (L:Nat) (K:AV→Mem→Option β):Ex→T AV→Mem→Option β:=kBlk 0 (kSeq (evS cl L a1_ask) (endS s_ask.res K))
theorem ok_ask:FnOkS Tryz.prog 43 s_ask:=fnOkS_of Tryz.func43 (by kernel_rfl) (by kernel_rfl) Tryz.ntmps43 (by kernel_rfl) (by kernel_rfl)
def s_keptSr:FnS:=⟨14,(s (r [o q6 (.new [(.int .i64 (0)),(.int .i64 (0)),(.int .i64 (0))]) [] 0]) (s (s (r [m q7 q2 0,o q8 (.bin .eql) [.t q7,i 0] 1]) (c q8 (r [m q9 q0 0,m q10 q1 0,o q11 .nchk [.t q9] 3,u (.st 1) [.t q11,.t q10] 7]) .skip)) (s (r [m q12 q2 0,o q13 (.call 12) [.t q12] 1,u (.st 3) [.t q6,.t q13] 3]) .ret))),[(.cn q6 3)]⟩
theorem ok_keptSr:FnOkS Tryz.prog 35 s_keptSr:=fnOkS_of Tryz.func35 (by kernel_rfl) (by kernel_rfl) Tryz.ntmps35 (by kernel_rfl) (by kernel_rfl)
def s_keptRt:FnS:=⟨14,(s (r [o q6 (.new [(.int .i64 (0)),(.int .i64 (0)),(.int .i64 (0))]) [] 0]) (s (s (r [m q7 q2 0,o q8 (.bin .eql) [.t q7,i 0] 1]) (c q8 (r [m q9 q0 0,m q10 q1 0,o q11 .nchk [.t q9] 3,u (.st 1) [.t q11,.t q10] 7]) .skip)) (s (r [m q12 q2 0,o q13 (.call 12) [.t q12] 1,u (.st 3) [.t q6,.t q13] 3]) .ret))),[(.cn q6 3)]⟩
theorem ok_keptRt:FnOkS Tryz.prog 38 s_keptRt:=fnOkS_of Tryz.func38 (by kernel_rfl) (by kernel_rfl) Tryz.ntmps38 (by kernel_rfl) (by kernel_rfl)
def s_keptSes:FnS:=⟨14,(s (r [o q6 (.new [(.int .i64 (0)),(.int .i64 (0)),(.int .i64 (0))]) [] 0]) (s (s (r [m q7 q2 0,o q8 (.bin .eql) [.t q7,i 0] 1]) (c q8 (r [m q9 q0 0,m q10 q1 0,o q11 .nchk [.t q9] 3,u (.st 1) [.t q11,.t q10] 7]) .skip)) (s (r [m q12 q2 0,o q13 (.call 12) [.t q12] 1,u (.st 3) [.t q6,.t q13] 3]) .ret))),[(.cn q6 3)]⟩
theorem ok_keptSes:FnOkS Tryz.prog 42 s_keptSes:=fnOkS_of Tryz.func42 (by kernel_rfl) (by kernel_rfl) Tryz.ntmps42 (by kernel_rfl) (by kernel_rfl)
def s_do:FnS:=⟨103,(s (r [o q3 .box [.t q1] 0,o q4 (.new [(.int .i64 (0)),(.int .i64 (0)),(.int .i64 (0))]) [] 0]) (s (s (r [o q13 (.fad 0) [.t q3] 0,o q14 .ld1 [.t q13] 1]) (.blk 0 (s (r [o q16 (.bin .eql) [.t q14,i 1] 0,m q15 q16 1]) (c q15 (s (d [m q18 q0 0,o q19 .nchk [.t q18] 1,o q20 (.fad 1) [.t q19] 3,o q21 .ld1 [.t q20] 7,o q22 (.fad 1) [.t q3] 0,o q23 .ld1 [.t q22] 16,o q24 (.fad 2) [.t q3] 0,o q25 .ld1 [.t q24] 64,o q26 (.call 34) [.t q21,.t q23,.t q25] 255,m q17 q26 511,o q27 (.ext 0) [.t q17] 1023,o q28 (.ext 1) [.t q17] 1023,m q5 q27 2047,m q6 q28 8191]) (s (r [m q29 q0 0,o q30 .nchk [.t q29] 1,o q31 (.fad 1) [.t q30] 3,m q32 q5 0,m q33 q6 0,o q34 (.call 35) [.t q31,.t q32,.t q33] 31,u (.st 3) [.t q4,.t q34] 63]) .ret)) (s (r [o q36 (.bin .eql) [.t q14,i 2] 0,m q35 q36 1]) (c q35 (s (d [m q38 q0 0,o q39 .nchk [.t q38] 1,o q40 (.fad 1) [.t q39] 3,o q41 .ld1 [.t q40] 7,o q42 (.fad 1) [.t q3] 0,o q43 .ld1 [.t q42] 16,o q44 (.call 36) [.t q41,.t q43] 63,m q37 q44 127,o q45 (.ext 0) [.t q37] 255,o q46 (.ext 1) [.t q37] 255,m q7 q45 511,m q8 q46 2047]) (s (r [m q47 q0 0,o q48 .nchk [.t q47] 1,o q49 (.fad 1) [.t q48] 3,m q50 q7 0,m q51 q8 0,o q52 (.call 35) [.t q49,.t q50,.t q51] 31,u (.st 3) [.t q4,.t q52] 63]) .ret)) (s (r [o q54 (.bin .eql) [.t q14,i 3] 0,m q53 q54 1]) (c q53 (s (d [m q56 q0 0,o q57 .nchk [.t q56] 1,o q58 (.fad 0) [.t q57] 3,o q59 .ld1 [.t q58] 7,o q60 (.fad 3) [.t q3] 0,o q61 (.ldn 5) [.t q60] 16,o q62 (.call 37) [.t q59,.t q61] 63,m q55 q62 127,o q63 (.ext 0) [.t q55] 255,o q64 (.ext 1) [.t q55] 255,m q9 q63 511,m q10 q64 2047]) (s (r [m q65 q0 0,o q66 .nchk [.t q65] 1,o q67 (.fad 0) [.t q66] 3,m q68 q9 0,m q69 q10 0,o q70 (.call 38) [.t q67,.t q68,.t q69] 31,u (.st 3) [.t q4,.t q70] 63]) .ret)) (s (r [o q72 (.bin .eql) [.t q14,i 4] 0,m q71 q72 1]) (c q71 (s (r [m q73 q0 0,o q74 (.ldn 15) [.t q3] 0,o q75 (.call 39) [.t q73,.t q74] 3,u (.st 3) [.t q4,.t q75] 7]) .ret) (s (r [o q77 (.bin .eql) [.t q14,i 5] 0,m q76 q77 1]) (c q76 (s (r [m q78 q0 0,o q79 (.ldn 15) [.t q3] 0,o q80 (.call 40) [.t q78,.t q79] 3,u (.st 3) [.t q4,.t q80] 7]) .ret) (s (r [o q82 (.bin .eql) [.t q14,i 7] 0,m q81 q82 1]) (c q81 (s (d [m q84 q0 0,o q85 .nchk [.t q84] 1,o q86 (.fad 4) [.t q85] 3,o q87 .ld1 [.t q86] 7,o q88 (.fad 14) [.t q3] 0,o q89 .ld1 [.t q88] 16,o q90 (.call 41) [.t q87,.t q89] 63,m q83 q90 127,o q91 (.ext 0) [.t q83] 255,o q92 (.ext 1) [.t q83] 255,m q11 q91 511,m q12 q92 2047]) (s (r [m q93 q0 0,o q94 .nchk [.t q93] 1,o q95 (.fad 4) [.t q94] 3,m q96 q11 0,m q97 q12 0,o q98 (.call 42) [.t q95,.t q96,.t q97] 31,u (.st 3) [.t q4,.t q98] 63]) .ret)) .skip)))))))))))))) (s (r [m q99 q0 0,o q100 (.fad 1) [.t q3] 0,o q101 .ld1 [.t q100] 2,o q102 (.call 43) [.t q99,.t q101] 7,u (.st 3) [.t q4,.t q102] 15]) .ret))),[(.cn q4 3)]⟩
theorem ok_do:FnOkS Tryz.prog 15 s_do:=fnOkS_of Tryz.func15 (by kernel_rfl) (by kernel_rfl) Tryz.ntmps15 (by kernel_rfl) (by kernel_rfl)
def s_join:FnS:=⟨42,(s (r [o q1 .box [.t q0] 0,o q2 (.new [.nilsl,.nilsl,.nilsl,.nilsl,.nilsl,(.int .i64 (0))]) [] 0,o q3 (.new [(.int .i64 (0)),(.int .i64 (0)),(.int .i64 (0))]) [] 0]) (s (s (r [o q7 (.fad 4) [.t q1] 0,o q8 .ld1 [.t q7] 1,o q9 .len [.t q8] 3,o q10 (.bin .geq) [.t q9,i 8] 7,m q11 q10 15,g q12 (.fad 5) [.t q1] q11 false 31,g q13 .ld1 [.t q12] q11 false 63,g q14 (.bin .geq) [.t q13,i 1099511627776] q11 false 127,o q15 .pick [.t q11,.c (.bool true),.t q14] 255]) (c q15 (s (d [o q16 (.ldn 6) [.t q1] 0,o q17 (.call 12) [i 14] 0,u (.st 6) [.t q2,.t q16] 3,u (.st 3) [.t q3,.t q17] 7]) .ret) .skip)) (s (r [o q19 (.fad 4) [.t q1] 0,o q20 .ld1 [.t q19] 1,o q21 (.fad 5) [.t q1] 0,o q22 .ld1 [.t q21] 4,o q23 (.call 31) [.t q20,.t q22] 15,m q18 q23 31,o q24 (.ext 0) [.t q18] 63,o q25 (.ext 1) [.t q18] 63,m q4 q24 127,m q5 q25 511]) (s (s (r [m q26 q5 0,o q27 (.bin .neq) [.t q26,i 0] 1]) (c q27 (s (d [o q28 (.ldn 6) [.t q1] 0,m q29 q5 0,o q30 (.call 12) [.t q29] 2,u (.st 6) [.t q2,.t q28] 7,u (.st 3) [.t q3,.t q30] 15]) .ret) .skip)) (s (r [o q31 (.fad 5) [.t q1] 0,o q32 .ld1 [.t q31] 1,o q33 (.build [(.int .i64 (0)),(.int .i64 (0)),(.int .i64 (0))] [(1,1)]) [.t q32] 3,o q6 (.new [(.int .i64 (0)),(.int .i64 (0)),(.int .i64 (0))]) [] 0,u (.st 3) [.t q6,.t q33] 15]) (s (r [m q34 q4 0,o q35 (.fad 4) [.t q1] 1,u (.st 1) [.t q35,.t q34] 3]) (s (r [o q36 (.fad 5) [.t q1] 0,o q37 .ld1 [.t q36] 1,o q38 (.bin .add) [.t q37,i 1] 3,o q39 (.fad 5) [.t q1] 7,u (.st 1) [.t q39,.t q38] 15]) (s (d [o q40 (.ldn 6) [.t q1] 0,o q41 (.ldn 3) [.t q6] 0,u (.st 6) [.t q2,.t q40] 1,u (.st 3) [.t q3,.t q41] 7]) .ret)))))))),[(.cn q2 6),(.cn q3 3)]⟩
theorem ok_join:FnOkS Tryz.prog 13 s_join:=fnOkS_of Tryz.func13 (by kernel_rfl) (by kernel_rfl) Tryz.ntmps13 (by kernel_rfl) (by kernel_rfl)
def s_apply:FnS:=⟨78,(s (r [o q2 .box [.t q0] 0,o q3 .box [.t q1] 0,o q4 (.new [.nilsl,.nilsl,.nilsl,.nilsl,.nilsl,(.int .i64 (0))]) [] 0,o q5 (.new [(.int .i64 (0)),(.int .i64 (0)),(.int .i64 (0))]) [] 0]) (s (r [o q12 (.ldn 6) [.t q2] 0,o q13 (.call 10) [.t q12] 1,u (.st 6) [.t q2,.t q13] 3]) (s (s (r [o q14 (.ldn 6) [.t q2] 0,o q15 (.call 11) [.t q14] 1,o q16 (.un .not) [.t q15] 3]) (c q16 (s (d [o q17 (.ldn 6) [.t q2] 0,o q18 (.call 12) [i 1] 0,u (.st 6) [.t q4,.t q17] 3,u (.st 3) [.t q5,.t q18] 7]) .ret) .skip)) (s (s (r [o q19 (.fad 2) [.t q3] 0,o q20 (.fad 0) [.t q19] 1,o q21 .ld1 [.t q20] 3,o q22 (.bin .lss) [.t q21,i 1] 7,m q23 q22 15,g q24 (.fad 2) [.t q3] q23 false 31,g q25 (.fad 0) [.t q24] q23 false 63,g q26 .ld1 [.t q25] q23 false 127,g q27 (.bin .gtr) [.t q26,i 8] q23 false 255,o q28 .pick [.t q23,.c (.bool true),.t q27] 511]) (c q28 (s (d [o q29 (.ldn 6) [.t q2] 0,o q30 (.call 12) [i 17] 0,u (.st 6) [.t q4,.t q29] 3,u (.st 3) [.t q5,.t q30] 7]) .ret) .skip)) (s (s (r [o q31 (.fad 2) [.t q3] 0,o q32 (.fad 0) [.t q31] 1,o q33 .ld1 [.t q32] 3,o q34 (.bin .eql) [.t q33,i 6] 7]) (c q34 (s (r [o q35 (.ldn 6) [.t q2] 0,o q36 (.call 13) [.t q35] 1,o q37 (.ext 0) [.t q36] 3,o q38 (.ext 1) [.t q36] 3,u (.st 6) [.t q4,.t q37] 15,u (.st 3) [.t q5,.t q38] 31]) .ret) .skip)) (s (r [o q40 (.fad 4) [.t q2] 0,o q41 .ld1 [.t q40] 1,o q42 (.fad 0) [.t q3] 0,o q43 .ld1 [.t q42] 4,o q44 (.fad 1) [.t q3] 0,o q45 .ld1 [.t q44] 16,o q46 (.call 14) [.t q41,.t q43,.t q45] 63,m q39 q46 127,o q47 (.ext 0) [.t q39] 255,o q48 (.ext 1) [.t q39] 255,o q49 (.ext 2) [.t q39] 255,o q6 (.new [(.int .i64 (0)),(.int .i64 (0)),(.int .i64 (0))]) [] 0,u (.st 3) [.t q6,.t q47] 2559,m q7 q48 7167,m q8 q49 16383]) (s (s (r [m q50 q8 0,o q51 (.bin .neq) [.t q50,i 0] 1]) (c q51 (s (d [o q52 (.ldn 6) [.t q2] 0,m q53 q8 0,o q54 (.call 12) [.t q53] 2,u (.st 6) [.t q4,.t q52] 7,u (.st 3) [.t q5,.t q54] 15]) .ret) .skip)) (s (s (r [m q55 q7 0]) (c q55 (s (d [o q56 (.ldn 6) [.t q2] 0,o q57 (.ldn 3) [.t q6] 0,u (.st 6) [.t q4,.t q56] 1,u (.st 3) [.t q5,.t q57] 7]) .ret) .skip)) (s (r [o q58 (.fad 2) [.t q3] 0,o q59 (.ldn 15) [.t q58] 1,o q60 (.call 15) [.t q2,.t q59] 3,o q9 (.new [(.int .i64 (0)),(.int .i64 (0)),(.int .i64 (0))]) [] 0,u (.st 3) [.t q9,.t q60] 15]) (s (s (r [o q62 (.fad 4) [.t q2] 0,o q63 .ld1 [.t q62] 1,o q64 (.fad 0) [.t q3] 0,o q65 .ld1 [.t q64] 4,o q66 (.fad 1) [.t q3] 0,o q67 .ld1 [.t q66] 16,o q68 (.ldn 3) [.t q9] 0,o q69 (.call 16) [.t q63,.t q65,.t q67,.t q68] 127,m q61 q69 255,o q70 (.ext 0) [.t q61] 511,o q71 (.ext 1) [.t q61] 511,m q10 q70 1023,m q11 q71 4095]) (s (r [m q72 q11 0,o q73 (.bin .eql) [.t q72,i 0] 1]) (c q73 (r [m q74 q10 0,o q75 (.fad 4) [.t q2] 1,u (.st 1) [.t q75,.t q74] 3]) .skip))) (s (d [o q76 (.ldn 6) [.t q2] 0,o q77 (.ldn 3) [.t q9] 0,u (.st 6) [.t q4,.t q76] 1,u (.st 3) [.t q5,.t q77] 7]) .ret))))))))))),[(.cn q4 6),(.cn q5 3)]⟩
theorem ok_apply:FnOkS Tryz.prog 7 s_apply:=fnOkS_of Tryz.func7 (by kernel_rfl) (by kernel_rfl) Tryz.ntmps7 (by kernel_rfl) (by kernel_rfl)
def l1_play:List Path:=[q2,q4,q6,q12,q13,q14]
def b1_play:SC:=(s (r [o q15 (.bin .lss) [.t q14,.t q13] 0]) (s (c q15 .skip (.exit 0)) (s (.blk 1 (s (r [o q16 (.ixs 17) [.t q12,.t q14] 0,o q17 (.ldn 17) [.t q16] 1,o q8 (.new [(.int .i64 (0)),(.int .i64 (0)),(.int .i64 (0)),(.str []),(.int .i64 (0)),(.str []),(.int .i64 (0)),(.int .i64 (0)),(.int .i64 (0)),(.int .i64 (0)),(.int .i64 (0)),(.int .i64 (0)),(.int .i64 (0)),.nilsl,(.str []),(.int .i64 (0)),(.int .i64 (0))]) [] 0,u (.st 17) [.t q8,.t q17] 7]) (s (r [o q9 (.new [(.int .i64 (0)),(.int .i64 (0)),(.int .i64 (0))]) [] 0]) (s (r [o q19 (.ldn 6) [.t q2] 0,o q20 (.ldn 17) [.t q8] 0,o q21 (.call 7) [.t q19,.t q20] 3,m q18 q21 7,o q22 (.ext 0) [.t q18] 15,o q23 (.ext 1) [.t q18] 15,u (.st 6) [.t q2,.t q22] 31,u (.st 3) [.t q9,.t q23] 127]) (r [m q24 q6 0,o q25 (.ldn 3) [.t q9] 0,o q26 (.bsl [(.int .i64 (0)),(.int .i64 (0)),(.int .i64 (0))] 1 3 [(0,3)]) [.t q25] 2,⟨⟨q27,(.app 3 24),[.t q24,.t q26],none,7⟩,(.ty .reply 0)⟩,m q6 q27 15]))))) (r [o q28 (.bin .add) [.t q14,i 1] 0,m q14 q28 1]))))
def a1_play:SC:=(s (r [o q29 (.ldn 6) [.t q2] 0,m q30 q6 0,u (.st 6) [.t q4,.t q29] 1,m q5 q30 7]) .ret)
def s_play:FnS:=⟨31,(s (r [o q2 .box [.t q0] 0,o q4 (.new [.nilsl,.nilsl,.nilsl,.nilsl,.nilsl,(.int .i64 (0))]) [] 0,o q5 .mov [.c .nilsl] 0]) (s (r [o q10 (.ldn 6) [.t q2] 0,o q11 (.call 10) [.t q10] 1,u (.st 6) [.t q2,.t q11] 3]) (s (r [o q6 .mov [.c .nilsl] 0]) (s (s (r [m q12 q1 0,o q13 .len [.t q12] 1,o q14 .mov [i 0] 0]) (.blk 0 (.loop l1_play 0 b1_play))) a1_play)))),[(.cn q4 6),.t q5]⟩
def k1_play {β:Type} (cl:ClS) (L:Nat) (K:AV→Mem→Option β):Ex→T AV→Mem→Option β:=kBlk 0 (kSeq (evS cl L a1_play) (endS s_play.res K))
theorem ok_play:FnOkS Tryz.prog 4 s_play:=fnOkS_of Tryz.func4 (by kernel_rfl) (by kernel_rfl) Tryz.ntmps4 (by kernel_rfl) (by kernel_rfl)
end Go.Proofs.YtbknmeafcbhicaaGreatDoor.Ev

/- States: a state in new memory; refusals; a list that was changed. -/
namespace Go.Proofs.YtbknmeafcbhicaaGreatDoor.Ev
open Go
noncomputable section
def stC (s:bil.St) (v:AV):List AV:=[.fl .rate s.table,.fl .series s.series,v,.fl .bal s.book,.fl .ses s.sess,i64 s.next]
def rpA (r:bil.Rp):AV:=.agg [i64 r.why,i64 r.number,i64 r.gross]
theorem stG_small {s:bil.St} (h:StG s):s.table.length≤24∧s.series.length≤8∧s.posted.length≤40∧s.book.length≤1000∧s.sess.length≤8∧∀ p∈s.posted,p.tot.parts.length≤12:=by
 obtain⟨_,h2,h3⟩:=stG_book h
 have h4:=h.1.table
 have h5:=h.1.series
 unfold bil.vatRight at h4
 unfold bil.srRight at h5
 simp only [Bool.and_eq_true,decide_eq_true_eq] at h4 h5
 exact⟨h4.1,h5.1,h.1.posted.len,h2,(bil.sesRight_iff.1 h.1.sess).1,fun p hp=>(pt_of (h.1.posted.tot p hp).2 (List.all_eq_true.1 h.2 p hp)).2.2.1⟩
def mCp (s:bil.St) (len:Nat) (l:List bil.Pst):Mem:=⟨(T.node T.nil (some ⟨.raw [.nilsl,.nilsl,.nilsl,.nilsl,.nilsl,i64 0],1,false⟩) T.nil).node (some ⟨.raw (stC s (.so 2 12 0 len)),1,false⟩) ((T.node T.nil (some ⟨.ls .posted l,12,true⟩) T.nil).node none T.nil),3,7,7⟩
def hPl (l:List bil.Pst):T Blk:=.node .nil (some ⟨.ls .posted l,12,true⟩) .nil
def kCp (L:Nat):Ex→T AV→Mem→Option (AV × T Blk × Nat):=k1_copied c63 L fun r m=>trimK 0 r m fun r m=>some (r,m.h,m.nx)
def lpCp (L L':Nat) (s:bil.St) (len:Nat) (l:List bil.Pst) (n:Int):Option (AV × T Blk × Nat):=loopS (evS c63 L b1_copied) l1_copied 0 L' (stL [(q1,.ptr 0 0),(q2,.ptr 1 0),(q26,i64 (.ofNat len)),(q27,i64 n)]) (mCp s len l) (kCp L)
theorem round_copied (L L' n len:Nat) (s:bil.St) (l:List bil.Pst):lpCp L (Nat.succ L') s len l (.ofNat n)=bif ltI (.ofNat n) (.ofNat len) then bif inI (.ofNat n) len then bif Nat.blt n l.length then bif Nat.blt (nPs l n).tot.parts.length 1048576 then bif inI (.ofNat n) len then bif Nat.blt n l.length then
 lpCp L L' s len (l.set n (nPs l n)) (wrapK .i64 (.ofNat n+1)) else none else none else none else none else none else some (.agg (stC s (.so 0 12 0 len)),hPl l,1):=by kernel_rfl
theorem set_self {l:List bil.Pst} {n:Nat} (h:n < l.length):l.set n (nPs l n)=l:=by
 refine List.ext_getElem? fun j=>?_
 rw [List.getElem?_set]
 by_cases hj:n=j
 ·subst hj
  rw [if_pos rfl,if_pos h,nPs_get h]
 ·rw [if_neg hj]
theorem loop_copied (L:Nat) (s:bil.St) (l:List bil.Pst) (hl:l.length < 1000) (hp:∀ p∈l,p.tot.parts.length≤12):∀ (t:List bil.Pst) (n f:Nat),l.drop n=t→n≤l.length→t.length < f→lpCp L f s l.length l (.ofNat n)=some (.agg (stC s (.so 0 12 0 l.length)),hPl l,1)
 | t,n,0,_,_,hf=>by omega
 | [],n,f+1,hd,hn,hf=>by
  rw [round_copied,drop_nil hd hn,le_nat (Nat.le_refl _),cond_false]
 | x::t,n,f+1,hd,hn,hf=>by
  obtain⟨h1,h2,h3⟩:=drop_cons (t:=.posted) hd
  have ih:=loop_copied L s l hl hp t (n+1) f h3 (by omega) (by simp at hf;omega)
  have:=hp _ (List.mem_of_getElem? (nPs_get h1))
  rw [round_copied,lt_nat h1,cond_true,in_nat h1,cond_true,bltN_true h1,cond_true,bltN_true (by omega),cond_true,cond_true,cond_true,set_self h1,wrap_succ (by omega),ih]
theorem first2 {g1 g2:Bool} {r1 r2 r:AV} {h1 h2 h:T Blk} {n1 n2 n:Nat} (hf:firstT [(g1,r1,h1,n1),(g2,r2,h2,n2)]=some (r,h,n)):(g1=true∧r=r1∧h=h1∧n=n1)∨(g1=false∧g2=true∧r=r2∧h=h2∧n=n2):=by
 cases g1 with
 | true =>
  have hf:some (r1,h1,n1)=some (r,h,n):=hf
  cases hf
  exact .inl ⟨rfl,rfl,rfl,rfl⟩
 | false =>
  cases g2 with
  | true =>
   have hf:some (r2,h2,n2)=some (r,h,n):=hf
   cases hf
   exact .inr ⟨rfl,rfl,rfl,rfl,rfl⟩
  | false =>
   have hf:none=some (r,h,n):=hf
   cases hf
open Classical in
def H_copied:List AV→Mem→List (Bool × AV × T Blk × Nat)
 | [.agg [.fl .rate t,.fl .series l,.fl .posted p,.fl .bal b,.fl .ses z,.int .i64 n]],⟨.nil,0,0,0⟩ =>
  [(decide (StG ⟨t,l,p,b,z,n⟩)&&p.isEmpty,.agg (stC ⟨t,l,p,b,z,n⟩ .nilsl),.nil,0),(decide (StG ⟨t,l,p,b,z,n⟩),.agg (stC ⟨t,l,p,b,z,n⟩ (.so 0 12 0 p.length)),hPl p,1)]
 | _,_=>[]
theorem dec_true {p:Prop} {i:Decidable p} (h:@decide p i=true):p:=of_decide_eq_true h
def c64:ClS:=addNs 10 H_copied c63
theorem snd64:SoundS Tryz.prog c64:=add_mems snd63 mix ok_copied H_copied fun xs m r h1 n1 h=>by
 unfold H_copied at h
 split at h<;>first | (cases h;done) | skip
 rename_i t l p b z n
 refine⟨rfl,?_⟩
 have fin:∀ (hG:StG ⟨t,l,p,b,z,n⟩),(p=[]→r=.agg (stC ⟨t,l,p,b,z,n⟩ .nilsl)∧h1=.nil∧n1=0)→(p≠[]→r=.agg (stC ⟨t,l,p,b,z,n⟩ (.so 0 12 0 p.length))∧h1=hPl p∧n1=1) →
   ∃ L,callS c63 L s_copied [.agg [.fl .rate t,.fl .series l,.fl .posted p,.fl .bal b,.fl .ses z,i64 n]] ⟨.nil,0,0,0⟩ (fun r m=>trimK 0 r m fun r m=>some (r,m.h,m.nx))=some (r,h1,n1):=fun hG f1 f2=>by
  obtain⟨k1,k2,k3,k4,k5,k6⟩:=stG_small hG
  simp only at k1 k2 k3 k4 k5 k6
  cases p with
  | nil =>
   obtain⟨rfl,rfl,rfl⟩:=f1 rfl
   refine⟨5,?_⟩
   have e:callS c63 5 s_copied [.agg [.fl .rate t,.fl .series l,.fl .posted [],.fl .bal b,.fl .ses z,i64 n]] ⟨.nil,0,0,0⟩ (fun r m=>trimK 0 r m fun r m=>some (r,m.h,m.nx)) =
    bif Nat.blt t.length 1048576 then bif Nat.blt l.length 1048576 then bif Nat.blt b.length 1048576 then bif Nat.blt z.length 1048576 then some (.agg (stC ⟨t,l,[],b,z,n⟩ .nilsl),.nil,0) else none else none else none else none:=by kernel_rfl
   rw [bltN_true (by omega),bltN_true (by omega),bltN_true (by omega),bltN_true (by omega),cond_true,cond_true,cond_true,cond_true] at e
   exact e
  | cons x p =>
   obtain⟨rfl,rfl,rfl⟩:=f2 (by simp)
   refine⟨1000,?_⟩
   have e:∀ L,callS c63 L s_copied [.agg [.fl .rate t,.fl .series l,.fl .posted (x::p),.fl .bal b,.fl .ses z,i64 n]] ⟨.nil,0,0,0⟩ (fun r m=>trimK 0 r m fun r m=>some (r,m.h,m.nx)) =
    bif Nat.blt t.length 1048576 then bif Nat.blt l.length 1048576 then bif Nat.blt b.length 1048576 then bif Nat.blt z.length 1048576 then bif Nat.blt (x::p).length 1048576 then lpCp L L ⟨t,l,x::p,b,z,n⟩ (x::p).length (x::p) (.ofNat 0) else none else none else none else none else none:=fun L=>by kernel_rfl
   have e1:=e 1000
   rw [bltN_true (by omega),bltN_true (by omega),bltN_true (by omega),bltN_true (by omega),bltN_true (by omega),cond_true,cond_true,cond_true,cond_true,cond_true] at e1
   exact e1.trans (loop_copied 1000 _ (x::p) (by omega) k6 (x::p) 0 1000 rfl (by omega) (by omega))
 rcases first2 h with⟨a,a1,a2,a3⟩ | ⟨a,b',a1,a2,a3⟩
 ·rw [Bool.and_eq_true] at a
  exact fin (dec_true a.1) (fun _=>⟨a1,a2,a3⟩) fun hne=>absurd (List.isEmpty_iff.1 a.2) hne
 ·rw [b',Bool.true_and] at a
  exact fin (dec_true b') (fun he=>by rw [he] at a;cases a) fun _=>⟨a1,a2,a3⟩
def G_why:List AV→Option (Bool × AV)
 | [.int .i64 e]=>some (true,.agg [i64 e,i64 0,i64 0])
 | _=>none
def c65:ClS:=addG 12 G_why c64
theorem snd65:SoundS Tryz.prog c65:=add_gn snd64 mix ok_why .any G_why fun xs r h=>by
 unfold G_why at h
 split at h<;>first | (cases h;done) | skip
 cases h
 exact⟨rfl,0,by kernel_rfl⟩
def G_new:List AV→Option (Bool × AV)
 | []=>some (true,.agg (cSt ⟨[],[],[],[],[],1⟩))
 | _=>none
def c66:ClS:=addG 5 G_new c65
theorem snd66:SoundS Tryz.prog c66:=add_gn snd65 mix ok_new (.agg [.lst .rate,.lst .series,.lst .posted,.lst .bal,.lst .ses,.any]) G_new fun xs r h=>by
 unfold G_new at h
 split at h<;>first | (cases h;done) | skip
 cases h
 exact⟨rfl,0,by kernel_rfl⟩
def hS0 (s:bil.St):T Blk:=.node .nil (some ⟨.raw (stC s .nilsl),1,false⟩) .nil
def hS1 (s:bil.St):T Blk:=.node (hPl s.posted) (some ⟨.raw (stC s (.so 1 12 0 s.posted.length)),1,false⟩) .nil
def hS2 (s:bil.St):T Blk:=.node .nil (some ⟨.raw (stC s (.so 2 12 0 s.posted.length)),1,false⟩) ((hPl s.posted).node none T.nil)
def hS (s:bil.St):Bool→T Blk
 | false=>hS0 s
 | true=>hS1 s
def nS:Bool→Nat
 | false=>1
 | true=>2
def stOf:Mem→Option (Bool × bil.St × Bool)
 | ⟨.node .nil (some ⟨.raw [.fl .rate t,.fl .series l,.nilsl,.fl .bal b,.fl .ses z,.int .i64 n],1,false⟩) .nil,1,0,0⟩=>some (true,⟨t,l,[],b,z,n⟩,false)
 | ⟨.node (.node .nil (some ⟨.ls .posted p,12,true⟩) .nil) (some ⟨.raw [.fl .rate t,.fl .series l,.so 1 12 0 len,.fl .bal b,.fl .ses z,.int .i64 n],1,false⟩) .nil,2,0,0⟩=>some (Nat.beq len p.length,⟨t,l,p,b,z,n⟩,true)
 | _=>none
theorem stOf_inv {m:Mem} {s:bil.St} {k:Bool} (h:stOf m=some (true,s,k)):m=⟨hS s k,nS k,0,0⟩∧(k=false→s.posted=[]):=by
 unfold stOf at h
 split at h<;>first | (cases h;done) | skip
 ·cases h
  exact⟨rfl,fun _=>rfl⟩
 ·rename_i p t l len b z n
  simp only [Option.some.injEq,Prod.mk.injEq] at h
  obtain⟨hg,rfl,rfl⟩:=h
  have:=Nat.eq_of_beq_eq_true hg
  subst this
  exact⟨rfl,fun h=>by cases h⟩
def H_keptSr (xs:List AV) (m:Mem):List (Bool × AV × T Blk × Nat):=match xs,stOf m with
 | [.ptr 0 1,.fl .series l,.int .i64 e],some (g,s,k)=>[(g&&eqI e 0,rpA ⟨e,0,0⟩,hS { s with series:=l } k,nS k),(g,rpA ⟨e,0,0⟩,hS s k,nS k)]
 | _,_=>[]
def c67:ClS:=addNs 35 H_keptSr c66
theorem snd67:SoundS Tryz.prog c67:=add_mems snd66 mix ok_keptSr H_keptSr fun xs m r h1 n1 h=>by
 unfold H_keptSr at h
 split at h<;>first | (cases h;done) | skip
 rename_i l e g s k hs
 have hg:g=true:=by
  cases g with
  | true=>rfl
  | false=>cases h
 subst hg
 obtain⟨rfl,hk⟩:=stOf_inv hs
 have e0:callS c66 0 s_keptSr [.ptr 0 1,.fl .series l,i64 e] ⟨hS s k,nS k,0,0⟩ (fun r m1=>trimK (nS k) r m1 fun r m1=>some (r,m1.h,m1.nx))=bif eqI e 0 then some (rpA ⟨e,0,0⟩,hS { s with series:=l } k,nS k) else some (rpA ⟨e,0,0⟩,hS s k,nS k):=by
  cases k
  ·kernel_rfl
  ·kernel_rfl
 refine⟨?_,0,e0.trans ?_⟩
 ·cases k<;>rfl
 ·rcases first2 h with⟨a,rfl,rfl,rfl⟩ | ⟨a,_,rfl,rfl,rfl⟩
  ·rw [Bool.true_and] at a
   rw [a];rfl
  ·rw [Bool.true_and] at a
   rw [a];rfl
def H_keptRt (xs:List AV) (m:Mem):List (Bool × AV × T Blk × Nat):=match xs,stOf m with
 | [.ptr 0 0,.fl .rate l,.int .i64 e],some (g,s,k)=>[(g&&eqI e 0,rpA ⟨e,0,0⟩,hS { s with table:=l } k,nS k),(g,rpA ⟨e,0,0⟩,hS s k,nS k)]
 | _,_=>[]
def c68:ClS:=addNs 38 H_keptRt c67
theorem snd68:SoundS Tryz.prog c68:=add_mems snd67 mix ok_keptRt H_keptRt fun xs m r h1 n1 h=>by
 unfold H_keptRt at h
 split at h<;>first | (cases h;done) | skip
 rename_i l e g s k hs
 have hg:g=true:=by
  cases g with
  | true=>rfl
  | false=>cases h
 subst hg
 obtain⟨rfl,hk⟩:=stOf_inv hs
 have e0:callS c67 0 s_keptRt [.ptr 0 0,.fl .rate l,i64 e] ⟨hS s k,nS k,0,0⟩ (fun r m1=>trimK (nS k) r m1 fun r m1=>some (r,m1.h,m1.nx))=bif eqI e 0 then some (rpA ⟨e,0,0⟩,hS { s with table:=l } k,nS k) else some (rpA ⟨e,0,0⟩,hS s k,nS k):=by
  cases k
  ·kernel_rfl
  ·kernel_rfl
 refine⟨?_,0,e0.trans ?_⟩
 ·cases k<;>rfl
 ·rcases first2 h with⟨a,rfl,rfl,rfl⟩ | ⟨a,_,rfl,rfl,rfl⟩
  ·rw [Bool.true_and] at a
   rw [a];rfl
  ·rw [Bool.true_and] at a
   rw [a];rfl
def H_keptSes (xs:List AV) (m:Mem):List (Bool × AV × T Blk × Nat):=match xs,stOf m with
 | [.ptr 0 4,.fl .ses l,.int .i64 e],some (g,s,k)=>[(g&&eqI e 0,rpA ⟨e,0,0⟩,hS { s with sess:=l } k,nS k),(g,rpA ⟨e,0,0⟩,hS s k,nS k)]
 | _,_=>[]
def c69:ClS:=addNs 42 H_keptSes c68
theorem snd69:SoundS Tryz.prog c69:=add_mems snd68 mix ok_keptSes H_keptSes fun xs m r h1 n1 h=>by
 unfold H_keptSes at h
 split at h<;>first | (cases h;done) | skip
 rename_i l e g s k hs
 have hg:g=true:=by
  cases g with
  | true=>rfl
  | false=>cases h
 subst hg
 obtain⟨rfl,hk⟩:=stOf_inv hs
 have e0:callS c68 0 s_keptSes [.ptr 0 4,.fl .ses l,i64 e] ⟨hS s k,nS k,0,0⟩ (fun r m1=>trimK (nS k) r m1 fun r m1=>some (r,m1.h,m1.nx))=bif eqI e 0 then some (rpA ⟨e,0,0⟩,hS { s with sess:=l } k,nS k) else some (rpA ⟨e,0,0⟩,hS s k,nS k):=by
  cases k
  ·kernel_rfl
  ·kernel_rfl
 refine⟨?_,0,e0.trans ?_⟩
 ·cases k<;>rfl
 ·rcases first2 h with⟨a,rfl,rfl,rfl⟩ | ⟨a,_,rfl,rfl,rfl⟩
  ·rw [Bool.true_and] at a
   rw [a];rfl
  ·rw [Bool.true_and] at a
   rw [a];rfl
end
end Go.Proofs.YtbknmeafcbhicaaGreatDoor.Ev

/- States: an invoice in a series. -/
namespace Go.Proofs.YtbknmeafcbhicaaGreatDoor.Ev
open Go
noncomputable section
def isF (s:bil.St) (c:ByteArray) (p:bil.Pst):bil.St × bil.Rp:=bil.issueF E s c p
def newP (s:bil.St) (c:ByteArray) (p:bil.Pst):bil.Pst:={ p with ref:=⟨c,(takeR s.series c).2.1⟩ }
def isS (s:bil.St) (c:ByteArray) (p:bil.Pst):bil.St:={ s with series:=(takeR s.series c).1,book:=(enterR s.book (enP p).1).1,posted:=s.posted++[newP s c p] }
theorem isF_eq (s:bil.St) (c:ByteArray) (p:bil.Pst):isF s c p=if (takeR s.series c).2.2≠0 then (s,⟨(takeR s.series c).2.2,0,0⟩) else if 40≤s.posted.length then (s,⟨14,0,0⟩) else
  if (enP p).2≠0 then (s,⟨(enP p).2,0,0⟩) else if (enterR s.book (enP p).1).2≠0 then (s,⟨(enterR s.book (enP p).1).2,0,0⟩) else (isS s c p,⟨0,(takeR s.series c).2.1,p.tot.gross⟩):=by
 unfold isS newP isF bil.issueF takeR
 cases ht:bil.srTakeF E s.series c with
 | inr e =>
  have:=bil.take_err E ht
  simp only
  rw [if_pos this];rfl
 | inl q =>
  obtain⟨l,n⟩:=q
  simp only
  rw [if_neg (fun h:(0:Int)≠0=>h rfl)]
  by_cases h40:40≤s.posted.length
  ·rw [if_pos h40,if_pos h40];rfl
  ·rw [if_neg h40,if_neg h40]
   unfold bil.bookOne bil.entriesF enP entR
   cases he:bil.entF p.tot.parts with
   | none=>rfl
   | some m =>
    simp only [Option.map_some]
    rw [if_neg (fun h:(0:Int)≠0=>h rfl)]
    unfold enterR
    cases hn:bil.enterF s.book (⟨bil.owedA,p.tot.gross⟩::m) with
    | inl b=>simp
    | inr e =>
     have:e≠0:=by
      have hb:bil.bookOne s.book p.tot=.inr e:=by
       unfold bil.bookOne bil.entriesF
       rw [he]
       simp only [Option.map_some]
       exact hn
      exact bil.book_err hb
     simp only
     rw [if_pos this];rfl
def hA (s:bil.St):Bool→T Blk
 | false=>hS1 s
 | true=>hS2 s
def nA':Bool→Nat
 | false=>2
 | true=>3
def koI (s:bil.St) (k:Bool) (e:Int):Option (AV × T Blk × Nat):=some (rpA ⟨e,0,0⟩,hS s k,nS k)
def gBo (s:bil.St) (p:bil.Pst):Bool:=s.book.all gBal&&((enP p).1.all gBal&&(Nat.blt s.book.length 50000&&Nat.blt (enP p).1.length 1000))
def kT (n:Nat) (r:AV) (m:Mem):Option (AV × T Blk × Nat):=trimK n r m fun r m=>some (r,m.h,m.nx)
theorem top_issue0 (s:bil.St) (c:ByteArray) (p:bil.Pst):callS c69 0 s_issue [.ptr 0 0,tx c,.agg (cPs p)] ⟨hS0 s,1,0,0⟩ (kT 1)=bif !eqI (takeR s.series c).2.2 0 then koI s false (takeR s.series c).2.2 else
 bif gEn p then bif !eqI (enP p).2 0 then koI s false (enP p).2 else bif gBo s p then bif !eqI (enterR s.book (enP p).1).2 0 then koI s false (enterR s.book (enP p).1).2 else some (rpA ⟨0,(takeR s.series c).2.1,p.tot.gross⟩,hS1 { isS s c p with posted:=[newP s c p] },2) else none else none:=by kernel_rfl
theorem top_issue1 (s:bil.St) (c:ByteArray) (p:bil.Pst):callS c69 0 s_issue [.ptr 0 0,tx c,.agg (cPs p)] ⟨hS1 s,2,0,0⟩ (kT 2)=bif !eqI (takeR s.series c).2.2 0 then koI s true (takeR s.series c).2.2 else bif !ltI (.ofNat s.posted.length) 40 then koI s true 14 else
 bif gEn p then bif !eqI (enP p).2 0 then koI s true (enP p).2 else bif gBo s p then bif !eqI (enterR s.book (enP p).1).2 0 then koI s true (enterR s.book (enP p).1).2 else bif Nat.beq s.posted.length s.posted.length then bif Nat.blt (s.posted.length+1) 1048576 then some (rpA ⟨0,(takeR s.series c).2.1,p.tot.gross⟩,hS2 (isS s c p),3) else none else none else none else none:=by kernel_rfl
theorem entP_bd (p:bil.Pst) (h:gBk p=true):(enP p).1.all gBal=true∧(enP p).1.length < 1000:=by
 unfold gBk at h
 rw [Bool.and_eq_true] at h
 obtain⟨_,_,h3,_⟩:=pt_of h.1 h.2
 have hg:=gross_of h.2
 unfold enP entR
 cases he:bil.entF p.tot.parts with
 | none=>exact⟨rfl,by simp⟩
 | some m =>
  obtain⟨i1,i2⟩:=entF_all he
  refine⟨?_,by simp only [List.length_cons];omega⟩
  simp only [List.all_cons,i1,Bool.and_true]
  exact hg
theorem run_issue (s:bil.St) (c:ByteArray) (p:bil.Pst) (k:Bool) (hk:k=false→s.posted=[]) (hG:StG s) (hp:gBk p=true) :
  callS c69 0 s_issue [.ptr 0 0,tx c,.agg (cPs p)] ⟨hS s k,nS k,0,0⟩ (kT (nS k))=bif !eqI (isF s c p).2.why 0 then some (rpA (isF s c p).2,hS s k,nS k) else some (rpA (isF s c p).2,hA (isF s c p).1 k,nA' k):=by
 obtain⟨k1,k2,k3,k4,k5,k6⟩:=stG_small hG
 obtain⟨e1,e2⟩:=entP_bd p hp
 obtain⟨b1,b2,_⟩:=stG_book hG
 have hgb:gBo s p=true:=by
  unfold gBo
  rw [allA_g b1,e1,bltN_true (by omega),bltN_true e2];rfl
 have hge:gEn p=true:=by
  unfold gBk at hp
  rw [Bool.and_eq_true] at hp
  exact gEn_of hp.1 hp.2
 have key:∀ okv:Option (AV × T Blk × Nat),okv=some (rpA ⟨0,(takeR s.series c).2.1,p.tot.gross⟩,hA (isS s c p) k,nA' k) →
   (bif !eqI (takeR s.series c).2.2 0 then koI s k (takeR s.series c).2.2 else bif !ltI (.ofNat s.posted.length) 40 then koI s k 14 else bif !eqI (enP p).2 0 then koI s k (enP p).2 else bif !eqI (enterR s.book (enP p).1).2 0 then koI s k (enterR s.book (enP p).1).2 else okv) =
   bif !eqI (isF s c p).2.why 0 then some (rpA (isF s c p).2,hS s k,nS k) else some (rpA (isF s c p).2,hA (isF s c p).1 k,nA' k):=fun okv hok=>by
  rw [isF_eq]
  by_cases h1:(takeR s.series c).2.2≠0
  ·rw [if_pos h1,eq_false' h1]
   rfl
  ·rw [if_neg h1,eq_true' (Decidable.not_not.1 h1),Bool.not_true,cond_false]
   by_cases h2:40≤s.posted.length
   ·rw [if_pos h2,lt_false (by simp only [Int.ofNat_eq_natCast];omega)];rfl
   ·rw [if_neg h2,lt_true (by simp only [Int.ofNat_eq_natCast];omega),Bool.not_true,cond_false]
    by_cases h3:(enP p).2≠0
    ·rw [if_pos h3,eq_false' h3]
     rfl
    ·rw [if_neg h3,eq_true' (Decidable.not_not.1 h3),Bool.not_true,cond_false]
     by_cases h4:(enterR s.book (enP p).1).2≠0
     ·rw [if_pos h4,eq_false' h4]
      rfl
     ·rw [if_neg h4,eq_true' (Decidable.not_not.1 h4),Bool.not_true,cond_false,hok];rfl
 cases k with
 | false =>
  refine (top_issue0 s c p).trans ?_
  have h0:=hk rfl
  rw [hge,hgb,cond_true,cond_true]
  have:=key (some (rpA ⟨0,(takeR s.series c).2.1,p.tot.gross⟩,hS1 { isS s c p with posted:=[newP s c p] },2)) (by
   have:isS s c p={ isS s c p with posted:=[newP s c p] }:=by unfold isS;rw [h0];rfl
   rw [← this];rfl)
  rw [h0,lt_true (by decide),Bool.not_true,cond_false] at this
  exact this
 | true =>
  refine (top_issue1 s c p).trans ?_
  rw [hge,hgb,cond_true,cond_true,beqN_true rfl,cond_true,bltN_true (by omega),cond_true]
  exact key _ rfl
open Classical in
def H_issue (xs:List AV) (m:Mem):List (Bool × AV × T Blk × Nat):=match xs,stOf m with
 | [.ptr 0 0,.str c,.agg cs],some (g,s,k)=>(match dec .posted cs with
  | some p=>[(g&&(decide (StG s)&&(gBk p&&!eqI (isF s ⟨⟨c⟩⟩ p).2.why 0)),rpA (isF s ⟨⟨c⟩⟩ p).2,hS s k,nS k),(g&&(decide (StG s)&&gBk p),rpA (isF s ⟨⟨c⟩⟩ p).2,hA (isF s ⟨⟨c⟩⟩ p).1 k,nA' k)]
  | none=>[])
 | _,_=>[]
def c70:ClS:=addNs 73 H_issue c69
theorem snd70:SoundS Tryz.prog c70:=add_mems snd69 mix ok_issue H_issue fun xs m r h1 n1 h=>by
 unfold H_issue at h
 split at h<;>first | (cases h;done) | skip
 rename_i c cs g s k hs
 cases hd:dec .posted cs with
 | none=>rw [hd] at h;cases h
 | some p =>
  rw [hd] at h
  have hcs:=dec_enc hd
  rw [← hcs]
  have fin:g=true→StG s→gBk p=true→m=⟨hS s k,nS k,0,0⟩∧callS c69 0 s_issue [.ptr 0 0,.str c,.agg (enc .posted p)] ⟨hS s k,nS k,0,0⟩ (kT (nS k))=bif !eqI (isF s ⟨⟨c⟩⟩ p).2.why 0 then some (rpA (isF s ⟨⟨c⟩⟩ p).2,hS s k,nS k) else some (rpA (isF s ⟨⟨c⟩⟩ p).2,hA (isF s ⟨⟨c⟩⟩ p).1 k,nA' k):=fun hg hG hp=>by
   subst hg
   obtain⟨rfl,hk⟩:=stOf_inv hs
   exact⟨rfl,run_issue s ⟨⟨c⟩⟩ p k hk hG hp⟩
  rcases first2 h with⟨a,a1,a2,a3⟩ | ⟨b,a,a1,a2,a3⟩
  ·rw [Bool.and_eq_true,Bool.and_eq_true,Bool.and_eq_true] at a
   obtain⟨g1,g2,g3,g4⟩:=a
   obtain⟨rfl,f2⟩:=fin g1 (dec_true g2) g3
   refine⟨by cases k<;>rfl,0,f2.trans ?_⟩
   rw [g4,a1,a2,a3];rfl
  ·rw [Bool.and_eq_true,Bool.and_eq_true] at a
   obtain⟨g1,g2,g3⟩:=a
   obtain⟨rfl,f2⟩:=fin g1 (dec_true g2) g3
   rw [g1,g2,g3,Bool.true_and,Bool.true_and,Bool.true_and] at b
   refine⟨by cases k<;>rfl,0,f2.trans ?_⟩
   rw [b,a1,a2,a3];rfl
end
end Go.Proofs.YtbknmeafcbhicaaGreatDoor.Ev

/- States: a bill, a credit note, what is asked. -/
namespace Go.Proofs.YtbknmeafcbhicaaGreatDoor.Ev
open Go
noncomputable section
def cCd (c:bil.Cd):List AV:=[i64 c.kind,tx c.series,i64 c.limit,tx c.row.cat,i64 c.row.fr.y,i64 c.row.fr.m,i64 c.row.fr.d,i64 c.row.bp,i64 c.day.y,i64 c.day.m,i64 c.day.d,.fl .line c.lines,tx c.of_.ser,i64 c.of_.num,i64 c.session]
def cdOf:List AV→Option bil.Cd
 | [.int .i64 k,.str s,.int .i64 li,.str rc,.int .i64 ry,.int .i64 rm,.int .i64 rd,.int .i64 rb,.int .i64 y,.int .i64 m,.int .i64 d,.fl .line ls,.str os,.int .i64 on,.int .i64 ss]=>some ⟨k,⟨⟨s⟩⟩,li,⟨⟨⟨rc⟩⟩,⟨ry,rm,rd⟩,rb⟩,⟨y,m,d⟩,ls,⟨⟨⟨os⟩⟩,on⟩,ss⟩
 | _=>none
theorem cdOf_inv {cs:List AV} {c:bil.Cd} (h:cdOf cs=some c):cCd c=cs:=by
 unfold cdOf at h
 split at h<;>first | (cases h;done) | (cases h;rfl)
def blP (s:bil.St) (c:bil.Cd):bil.Pst:=⟨bil.Ref.z,c.day,(totR s.table c.day c.lines).1,bil.Ref.z,false⟩
def nil' (s:bil.St):bil.St:=⟨s.table,s.series,[],s.book,s.sess,s.next⟩
theorem nil_eq {s:bil.St} (h:s.posted=[]):nil' s=s:=by
 obtain⟨a,b,c,d,e,f⟩:=s
 simp only at h
 subst h
 rfl
def twoD (g app:Bool) (k:Bool) (q:bil.St × bil.Rp):List (Bool × AV × T Blk × Nat):=[(g&&!app,rpA q.2,hS q.1 k,nS k),(g,rpA q.2,hA q.1 k,nA' k)]
def outD (app:Bool) (k:Bool) (q:bil.St × bil.Rp):Option (AV × T Blk × Nat):=bif app then some (rpA q.2,hA q.1 k,nA' k) else some (rpA q.2,hS q.1 k,nS k)
theorem twoD_inv {g app k:Bool} {q:bil.St × bil.Rp} {r:AV} {h:T Blk} {n:Nat} (hf:firstT (twoD g app k q)=some (r,h,n)):g=true∧outD app k q=some (r,h,n):=by
 rcases first2 hf with⟨a,rfl,rfl,rfl⟩ | ⟨b,rfl,rfl,rfl,rfl⟩
 ·rw [Bool.and_eq_true,Bool.not_eq_true'] at a
  exact⟨a.1,by rw [a.2];rfl⟩
 ·rw [Bool.true_and,Bool.not_eq_false'] at b
  exact⟨rfl,by rw [b];rfl⟩
def blF (s:bil.St) (c:bil.Cd):bil.St × bil.Rp:=bil.billF E s c
def tailI (s:bil.St) (k:Bool) (c:ByteArray) (p:bil.Pst) (g:Bool):Option (AV × T Blk × Nat) :=
 bif g&&(@decide (StG s) (Classical.propDecidable _)&&(gBk p&&!eqI (isF s c p).2.why 0)) then some (rpA (isF s c p).2,hS s k,nS k) else bif g&&(@decide (StG s) (Classical.propDecidable _)&&gBk p) then some (rpA (isF s c p).2,hA (isF s c p).1 k,nA' k) else none
theorem top_bill0 (s:bil.St) (c:bil.Cd):callS c70 0 s_bill [.ptr 0 0,.agg (cCd c)] ⟨hS0 (nil' s),1,0,0⟩ (kT 1)=bif c.lines.all gLi then bif !eqI (totR s.table c.day c.lines).2 0 then koI (nil' s) false (totR s.table c.day c.lines).2 else tailI (nil' s) false c.series (blP s c) true else none:=by kernel_rfl
theorem top_bill1 (s:bil.St) (c:bil.Cd):callS c70 0 s_bill [.ptr 0 0,.agg (cCd c)] ⟨hS1 s,2,0,0⟩ (kT 2)=bif c.lines.all gLi then bif !eqI (totR s.table c.day c.lines).2 0 then koI s true (totR s.table c.day c.lines).2 else tailI s true c.series (blP s c) (Nat.beq s.posted.length s.posted.length) else none:=by kernel_rfl
theorem tailI_eq {s:bil.St} {k:Bool} {c:ByteArray} {p:bil.Pst} {g:Bool} (hg:g=true) (hG:StG s) (hp:gBk p=true):tailI s k c p g=outD (eqI (isF s c p).2.why 0) k ((bif eqI (isF s c p).2.why 0 then (isF s c p).1 else s),(isF s c p).2):=by
 unfold tailI
 rw [hg,@decide_eq_true _ (Classical.propDecidable _) hG,hp,Bool.true_and,Bool.true_and,Bool.true_and,Bool.true_and,Bool.true_and]
 cases eqI (isF s c p).2.why 0<;>rfl
theorem isF_same {s:bil.St} {c:ByteArray} {p:bil.Pst} (h:(isF s c p).2.why≠0):(isF s c p).1=s:=by
 rw [isF_eq] at h ⊢
 split
 ·rfl
 ·split
  ·rfl
  ·split
   ·rfl
   ·split
    ·rfl
    ·rename_i h1 h2 h3 h4
     rw [if_neg h1,if_neg h2,if_neg h3,if_neg h4] at h
     exact absurd rfl h
theorem isF_both (s:bil.St) (c:ByteArray) (p:bil.Pst):((bif eqI (isF s c p).2.why 0 then (isF s c p).1 else s),(isF s c p).2)=isF s c p:=by
 by_cases h:(isF s c p).2.why=0
 ·rw [eq_true' h];rfl
 ·rw [eq_false' h]
  exact Prod.ext (isF_same h).symm rfl
theorem whole_i64:∀ {ps ps':List bil.Pt} {n t n' t':Int},bil.wholeF E ps n t=some (ps',n',t')→bil.I64 n→bil.I64 t→bil.I64 n'∧bil.I64 t'
 | [],ps',n,t,n',t',h,hn,ht=>by
  simp only [bil.wholeF,Option.some.injEq,Prod.mk.injEq] at h
  obtain⟨_,rfl,rfl⟩:=h
  exact⟨hn,ht⟩
 | p::ps,ps',n,t,n',t',h,hn,ht=>by
  unfold bil.wholeF at h
  split at h
  ·cases h
  ·split at h
   ·cases h
   ·rename_i m hm
    split at h
    ·cases h
    ·rename_i u hu
     cases hw:bil.wholeF E ps m u with
     | none=>rw [hw] at h;cases h
     | some q =>
      obtain⟨qs,q1,q2⟩:=q
      rw [hw] at h
      cases h
      exact whole_i64 hw (bil.addZ_some hm).2 (bil.addZ_some hu).2
theorem tax_num {n bp x:Int} (h:E.tax n bp=some x):bil.I64 n∧bil.I64 x:=by
 have hn:bil.I64 n:=by
  have:taxO n bp=some x:=h
  unfold taxO at this
  split at this
  ·rename_i hh
   exact hh.1
  ·cases this
 rw [taxO_eq hn] at h
 split at h
 ·cases h
  exact⟨hn,tax_i64 n bp⟩
 ·cases h
theorem parts_num {t:bil.Tot} (h:bil.totOk E t=true):t.parts.all gPb=true:=by
 rw [List.all_eq_true]
 intro p hp
 obtain⟨_,_,_,h4⟩:=((bil.totOk_iff E).1 h).2.2.1 p hp
 obtain⟨a,b⟩:=tax_num h4
 unfold gPb
 rw [gI_iff.2 a,gI_iff.2 b];rfl
theorem total_num {tb:List bil.Rt} {d:bil.Dt} {l:List bil.Li} {t:bil.Tot} (h:bil.totalF E tb d l=.inl t):bil.totOk E t=true∧gTt t=true:=by
 obtain⟨h1,h2⟩:=bil.totalF_ok E h
 obtain⟨_,hl,_⟩:=(bil.totOk_iff E).1 h1
 have hnt:bil.I64 t.net∧bil.I64 t.tax:=by
  unfold bil.totalF at h
  split at h
  ·cases h
  ·split at h
   ·cases h
   ·split at h
    ·cases h
    ·split at h
     ·cases h
     ·split at h
      ·cases h
      ·split at h
       ·cases h
       ·rename_i ps' n x hw
        split at h
        ·cases h
        ·cases h
         exact whole_i64 hw (show bil.I64 0 from ⟨by decide,by decide⟩) (show bil.I64 0 from ⟨by decide,by decide⟩)
 exact⟨h1,gTt_iff.2 ⟨gI_iff.2 hnt.1,gI_iff.2 hnt.2,gI_iff.2 h2,parts_num h1,by omega⟩⟩
theorem line_err0 {t:List bil.Rt} {d:bil.Dt} {x:bil.Li} {e:Int} (h:bil.lineF E t d x=.inr e):e≠0:=by
 unfold bil.lineF at h
 repeat' split at h
 all_goals first
  | (cases h;decide)
  | cases h
theorem parts_err0 {t:List bil.Rt} {d:bil.Dt}:∀ {ls:List bil.Li} {ps:List bil.Pt} {e:Int},bil.partsF E t d ls ps=.inr e→e≠0
 | [],ps,e,h=>by cases h
 | x::xs,ps,e,h=>by
  unfold bil.partsF at h
  split at h
  ·rename_i e' he
   cases h
   exact line_err0 he
  ·split at h
   ·cases h
    decide
   ·exact parts_err0 h
theorem total_err0 {t:List bil.Rt} {d:bil.Dt} {ls:List bil.Li} {e:Int} (h:bil.totalF E t d ls=.inr e):e≠0:=by
 unfold bil.totalF at h
 split at h
 ·cases h;decide
 ·split at h
  ·cases h;decide
  ·split at h
   ·cases h;decide
   ·split at h
    ·cases h;decide
    ·split at h
     ·rename_i e' he
      cases h
      exact parts_err0 he
     ·split at h
      ·cases h;decide
      ·split at h
       ·cases h;decide
       ·cases h
theorem run_bill (s:bil.St) (c:bil.Cd) (k:Bool) (hk:k=false→s.posted=[]) (hG:StG s) (hc:c.lines.all gLi=true):callS c70 0 s_bill [.ptr 0 0,.agg (cCd c)] ⟨hS s k,nS k,0,0⟩ (kT (nS k))=outD (eqI (blF s c).2.why 0) k (blF s c):=by
 have key:∀ g,g=true→(bif c.lines.all gLi then bif !eqI (totR s.table c.day c.lines).2 0 then koI s k (totR s.table c.day c.lines).2 else tailI s k c.series (blP s c) g else none)=outD (eqI (blF s c).2.why 0) k (blF s c):=fun g hg=>by
  rw [hc,cond_true]
  unfold blF bil.billF totR blP totR
  cases ht:bil.totalF E s.table c.day c.lines with
  | inr e =>
   have he:=total_err0 ht
   simp only
   rw [eq_false' he]
   show koI s k e=outD (eqI e 0) k (s,⟨e,0,0⟩)
   rw [eq_false' he];rfl
  | inl t =>
   obtain⟨h1,h2⟩:=total_num ht
   simp only
   rw [eq_true' rfl,Bool.not_true,cond_false,tailI_eq hg hG (by unfold gBk;rw [h1,h2];rfl),isF_both]
   rfl
 cases k with
 | false =>
  have h0:=nil_eq (hk rfl)
  have:=top_bill0 s c
  rw [h0] at this
  exact this.trans (key true rfl)
 | true=>exact (top_bill1 s c).trans (key _ (beqN_true rfl))
def H_bill (xs:List AV) (m:Mem):List (Bool × AV × T Blk × Nat):=match xs,stOf m with
 | [.ptr 0 0,.agg cs],some (g,s,k)=>(match cdOf cs with
  | some c=>twoD (g&&(@decide (StG s) (Classical.propDecidable _)&&c.lines.all gLi)) (eqI (blF s c).2.why 0) k (blF s c)
  | none=>[])
 | _,_=>[]
def c71:ClS:=addNs 39 H_bill c70
theorem snd71:SoundS Tryz.prog c71:=add_mems snd70 mix ok_bill H_bill fun xs m r h1 n1 h=>by
 unfold H_bill at h
 split at h<;>first | (cases h;done) | skip
 rename_i cs g s k hs
 cases hd:cdOf cs with
 | none=>rw [hd] at h;cases h
 | some c =>
  rw [hd] at h
  obtain⟨a,b⟩:=twoD_inv h
  rw [Bool.and_eq_true,Bool.and_eq_true] at a
  obtain⟨rfl,a2,a3⟩:=a
  obtain⟨rfl,hk⟩:=stOf_inv hs
  rw [← cdOf_inv hd]
  exact⟨by cases k<;>rfl,0,(run_bill s c k hk (dec_true a2) a3).trans b⟩
def crF (s:bil.St) (c:bil.Cd):bil.St × bil.Rp:=bil.creditF E s c
def ixC (s:bil.St) (c:bil.Cd):Int:=ixO (bil.findP s.posted c.of_)
def crP (s:bil.St) (c:bil.Cd) (i:Nat):bil.Pst:=⟨bil.Ref.z,c.day,(backR (nPs s.posted i).tot).1,c.of_,false⟩
def mkB (l:List bil.Pst) (i:Nat):List bil.Pst:=l.set i { nPs l i with back:=true }
def hS1x (s:bil.St) (len:Nat) (l:List bil.Pst):T Blk:=.node (hPl l) (some ⟨.raw (stC s (.so 1 12 0 len)),1,false⟩) .nil
def hS2x (s:bil.St) (len:Nat) (l:List bil.Pst):T Blk:=.node .nil (some ⟨.raw (stC s (.so 2 12 0 len)),1,false⟩) ((hPl l).node none T.nil)
def crI (s:bil.St) (c:bil.Cd) (i:Nat):bil.St × bil.Rp:=isF s c.series (crP s c i)
def crA (s:bil.St) (c:bil.Cd):Option (AV × T Blk × Nat):=bif eqI (crI s c (ixC s c).toNat).2.why 0 then bif inI (ixC s c) s.posted.length then bif Nat.blt (ixC s c).toNat s.posted.length then some (rpA (crI s c (ixC s c).toNat).2,hS1x s s.posted.length (mkB s.posted (ixC s c).toNat),2) else none else none else some (rpA (crI s c (ixC s c).toNat).2,hS s true,2)
def crB (s:bil.St) (c:bil.Cd) (q:bil.St × bil.Rp) (i:Int):Option (AV × T Blk × Nat):=bif eqI q.2.why 0 then bif inI i q.1.posted.length then bif Nat.blt i.toNat q.1.posted.length then some (rpA q.2,hS2x q.1 q.1.posted.length (mkB q.1.posted i.toNat),3) else none else none else some (rpA q.2,hS2 q.1,3)
theorem top_credit0 (s:bil.St) (c:bil.Cd):callS c71 0 s_credit [.ptr 0 0,.agg (cCd c)] ⟨hS0 (nil' s),1,0,0⟩ (kT 1)=bif ltI (ixO (bil.findP [] c.of_)) 0 then koI (nil' s) false 11 else none:=by kernel_rfl
theorem top_credit1 (s:bil.St) (c:bil.Cd):callS c71 0 s_credit [.ptr 0 0,.agg (cCd c)] ⟨hS1 s,2,0,0⟩ (kT 2) =
 bif Nat.beq s.posted.length s.posted.length&&(true&&true)&&Nat.blt s.posted.length 1000000 then bif ltI (ixC s c) 0 then koI s true 11 else bif inI (ixC s c) s.posted.length then bif Nat.blt (ixC s c).toNat s.posted.length then
  bif (nPs s.posted (ixC s c).toNat).back then koI s true 12 else bif (bif true then !sameRf (nPs s.posted (ixC s c).toNat).of_ bil.Ref.z else sameRf (nPs s.posted (ixC s c).toNat).of_ bil.Ref.z) then koI s true 12 else
   bif bil.dayF E c.day then bif bil.beforeF E c.day (nPs s.posted (ixC s c).toNat).day then koI s true 9 else bif gTo (nPs s.posted (ixC s c).toNat).tot then bif !eqI (backR (nPs s.posted (ixC s c).toNat).tot).2 0 then koI s true (backR (nPs s.posted (ixC s c).toNat).tot).2 else
    bif Nat.beq s.posted.length s.posted.length&&(@decide (StG s) (Classical.propDecidable _)&&(gBk (crP s c (ixC s c).toNat)&&!eqI (crI s c (ixC s c).toNat).2.why 0)) then crA s c else
    bif Nat.beq s.posted.length s.posted.length&&(@decide (StG s) (Classical.propDecidable _)&&gBk (crP s c (ixC s c).toNat)) then crB s c (crI s c (ixC s c).toNat) (ixC s c) else none
   else none else koI s true 9 else none else none else none:=by kernel_rfl
end
end Go.Proofs.YtbknmeafcbhicaaGreatDoor.Ev

/- States: a credit note, what is asked. -/
namespace Go.Proofs.YtbknmeafcbhicaaGreatDoor.Ev
open Go
noncomputable section
theorem ix_get {l:List bil.Pst} {r:bil.Ref} {i:Nat} (h:bil.findP l r=some i):i < l.length∧l[i]?=some (nPs l i):=by
 have h1:=(bil.findIdx_lt h).1
 exact⟨h1,nPs_get h1⟩
theorem crP_ok {s:bil.St} {c:bil.Cd} {i:Nat} {t:bil.Tot} (hG:StG s) (hi:i < s.posted.length) (hb:bil.backF (nPs s.posted i).tot=some t):gBk ⟨bil.Ref.z,c.day,t,c.of_,false⟩=true:=by
 have hm:=List.mem_of_getElem? (nPs_get hi)
 have h1:=(hG.1.posted.tot _ hm).2
 have h2:gTt (nPs s.posted i).tot=true:=List.all_eq_true.1 hG.2 _ hm
 have h3:=bil.backF_ok E h1 hb
 have h4:=(back_all hb).2 (gTt_iff.1 h2).2.2.2.2
 unfold gBk
 rw [h3,h4];rfl
theorem isF_some {s:bil.St} {c:ByteArray} {p:bil.Pst} (h:(isF s c p).2.why=0):∃ n,(isF s c p).1.posted=s.posted++[{ p with ref:=⟨c,n⟩ }]:=by
 rw [isF_eq] at h ⊢
 split at h
 ·rename_i h1
  exact absurd h h1
 ·split at h
  ·cases h
  ·split at h
   ·rename_i h1
    exact absurd h h1
   ·split at h
    ·rename_i h1
     exact absurd h h1
    ·rename_i h1 h2 h3 h4
     rw [if_neg h1,if_neg h2,if_neg h3,if_neg h4]
     exact⟨_,rfl⟩
theorem run_credit (
          s:bil.St) (c:bil.Cd) (k:Bool) (hk:k=false→s.posted=[]) (hG:StG s):callS c71 0 s_credit [.ptr 0 0,.agg (cCd c)] ⟨hS s k,nS k,0,0⟩ (kT (nS k))=outD (eqI (crF s c).2.why 0) k (crF s c):=by
 cases k with
 | false =>
  have h0:=nil_eq (hk rfl)
  have e:=top_credit0 s c
  rw [h0] at e
  refine e.trans ?_
  unfold crF bil.creditF
  rw [hk rfl]
  rfl
 | true =>
  refine (top_credit1 s c).trans ?_
  have hl:=(stG_small hG).2.2.1
  rw [beqN_true rfl,bltN_true (by omega),Bool.and_self,Bool.and_self,Bool.and_self,cond_true]
  unfold crF bil.creditF
  have hix:ixC s c=ixO (bil.findP s.posted c.of_):=rfl
  cases hf:bil.findP s.posted c.of_ with
  | none =>
   rw [hf] at hix
   rw [hix];rfl
  | some i =>
   rw [hf] at hix
   obtain⟨hi,hget⟩:=ix_get hf
   have hix:ixC s c=.ofNat i:=hix
   have hm:=List.mem_of_getElem? hget
   rw [hix,lt_false (by simp only [Int.ofNat_eq_natCast];omega),cond_false,in_nat hi,cond_true,toNat_of,bltN_true hi,cond_true,sameRf_eq]
   simp only [hget]
   cases hbk:(nPs s.posted i).back with
   | true=>rfl
   | false =>
    rw [cond_false,cond_true]
    by_cases hof:(nPs s.posted i).of_=bil.Ref.z
    ·rw [decide_eq_true hof,Bool.not_true,cond_false,if_neg (by simp [hof])]
     cases hd:bil.dayF E c.day with
     | false=>rfl
     | true =>
      rw [cond_true]
      cases hbf:bil.beforeF E c.day (nPs s.posted i).day with
      | true=>rfl
      | false =>
       rw [cond_false,if_neg (by simp)]
       have h1:=(hG.1.posted.tot _ hm).2
       have h2:gTt (nPs s.posted i).tot=true:=List.all_eq_true.1 hG.2 _ hm
       rw [gTo_of h2 (pt_of h1 h2).1,cond_true]
       have hcr:crP s c i=⟨bil.Ref.z,c.day,(backR (nPs s.posted i).tot).1,c.of_,false⟩:=rfl
       have hcI:crI s c i=isF s c.series (crP s c i):=rfl
       unfold backR at hcr ⊢
       cases hb:bil.backF (nPs s.posted i).tot with
       | none=>rfl
       | some t =>
        rw [hb] at hcr
        have hcr:crP s c i=⟨bil.Ref.z,c.day,t,c.of_,false⟩:=hcr
        have hgb:=crP_ok (c:=c) hG hi hb
        simp only
        rw [eq_true' rfl,Bool.not_true,cond_false,hcr,hgb,@decide_eq_true _ (Classical.propDecidable _) hG,Bool.true_and,Bool.true_and,Bool.true_and,Bool.true_and,Bool.true_and,hcI,hcr]
        show _=outD (eqI (match isF s c.series ⟨bil.Ref.z,c.day,t,c.of_,false⟩ with | (s',r)=>if r.why=0 then ({ s' with posted:=s'.posted.set i { nPs s.posted i with back:=true } },r) else (s',r)).2.why 0) true (match isF s c.series ⟨bil.Ref.z,c.day,t,c.of_,false⟩ with | (s',r)=>if r.why=0 then ({ s' with posted:=s'.posted.set i { nPs s.posted i with back:=true } },r) else (s',r))
        have hA':crA s c=bif eqI (isF s c.series ⟨bil.Ref.z,c.day,t,c.of_,false⟩).2.why 0 then bif inI (.ofNat i) s.posted.length then bif Nat.blt i s.posted.length then some (rpA (isF s c.series ⟨bil.Ref.z,c.day,t,c.of_,false⟩).2,hS1x s s.posted.length (mkB s.posted i),2) else none else none else some (rpA (isF s c.series ⟨bil.Ref.z,c.day,t,c.of_,false⟩).2,hS s true,2):=by
         unfold crA
         rw [hix,toNat_of,hcI,hcr]
        rw [hA']
        have hsm:=isF_same (s:=s) (c:=c.series) (p:=⟨bil.Ref.z,c.day,t,c.of_,false⟩)
        have hso:=isF_some (s:=s) (c:=c.series) (p:=⟨bil.Ref.z,c.day,t,c.of_,false⟩)
        generalize isF s c.series ⟨bil.Ref.z,c.day,t,c.of_,false⟩=Q at hsm hso
        obtain⟨s',r⟩:=Q
        simp only at hsm hso
        by_cases hw:r.why=0
        ·obtain⟨n,hp⟩:=hso hw
         have hil:i < s'.posted.length:=by rw [hp,List.length_append];omega
         have hni:nPs s'.posted i=nPs s.posted i:=by
          have g1:=nPs_get hil
          rw [hp,List.getElem?_append_left hi,hget] at g1
          rw [hp]
          exact (Option.some.inj g1).symm
         simp only [hw,if_true]
         unfold crB
         simp only [hw]
         rw [eq_true' rfl,Bool.not_true,cond_false,cond_true,in_nat hil,cond_true,toNat_of,bltN_true hil,cond_true]
         show some (rpA r,hS2x s' s'.posted.length (mkB s'.posted i),3)=some (rpA r,hS2 { s' with posted:=s'.posted.set i { nPs s.posted i with back:=true } },3)
         have:mkB s'.posted i=s'.posted.set i { nPs s.posted i with back:=true }:=by unfold mkB;rw [hni]
         rw [this]
         unfold hS2 hS2x
         simp only [List.length_set]
         rfl
        ·have:=hsm hw
         subst this
         simp only [hw,if_false]
         rw [eq_false' hw]
         rfl
    ·rw [decide_eq_false hof,Bool.not_false,cond_true,if_pos (.inr hof)];rfl
def H_credit (xs:List AV) (m:Mem):List (Bool × AV × T Blk × Nat):=match xs,stOf m with
 | [.ptr 0 0,.agg cs],some (g,s,k)=>(match cdOf cs with
  | some c=>twoD (g&&@decide (StG s) (Classical.propDecidable _)) (eqI (crF s c).2.why 0) k (crF s c)
  | none=>[])
 | _,_=>[]
def c72:ClS:=addNs 40 H_credit c71
theorem snd72:SoundS Tryz.prog c72:=add_mems snd71 mix ok_credit H_credit fun xs m r h1 n1 h=>by
 unfold H_credit at h
 split at h<;>first | (cases h;done) | skip
 rename_i cs g s k hs
 cases hd:cdOf cs with
 | none=>rw [hd] at h;cases h
 | some c =>
  rw [hd] at h
  obtain⟨a,b⟩:=twoD_inv h
  rw [Bool.and_eq_true] at a
  obtain⟨rfl,a2⟩:=a
  obtain⟨rfl,hk⟩:=stOf_inv hs
  rw [← cdOf_inv hd]
  exact⟨by cases k<;>rfl,0,(run_credit s c k hk (dec_true a2)).trans b⟩
def mAk (s:bil.St) (k:Bool) (num g:Int):Mem:=match k with
 | false=>⟨(T.node T.nil (some ⟨.raw [i64 0,i64 0,i64 0],1,false⟩) T.nil).node (some ⟨.raw (stC s .nilsl),1,false⟩) ((T.node T.nil (some ⟨.raw [i64 0,i64 num,i64 g],1,false⟩) T.nil).node none T.nil),3,7,7⟩
 | true=>⟨((T.node T.nil (some ⟨.raw [i64 0,i64 num,i64 g],1,false⟩) T.nil).node (some ⟨.ls .posted s.posted,12,true⟩) T.nil).node (some ⟨.raw (stC s (.so 1 12 0 s.posted.length)),1,false⟩) ((T.node T.nil (some ⟨.raw [i64 0,i64 0,i64 0],1,false⟩) T.nil).node none T.nil),4,15,15⟩
def slA (k:Bool) (s:bil.St) (n:Int):T AV:=match k with
 | false=>stL [(q4,.ptr 1 0),(q7,.ptr 2 0),(q29,.fl .bal s.book),(q30,i64 (.ofNat s.book.length)),(q31,i64 n)]
 | true=>stL [(q4,.ptr 2 0),(q7,.ptr 3 0),(q29,.fl .bal s.book),(q30,i64 (.ofNat s.book.length)),(q31,i64 n)]
def lpAk (L L':Nat) (s:bil.St) (k:Bool) (num g:Int) (n:Int):Option (AV × T Blk × Nat):=loopS (evS c72 L b1_ask) l1_ask 2 L' (slA k s n) (mAk s k num g) (k1_ask c72 L (kT (nS k)))
def nB (l:List bil.Bal) (n:Nat):bil.Bal:=nth (t:=.bal) l n
theorem round_ask (L L' n:Nat) (s:bil.St) (k:Bool) (num g:Int):lpAk L (Nat.succ L') s k num g (.ofNat n)=bif ltI (.ofNat n) (.ofNat s.book.length) then bif inI (.ofNat n) s.book.length then
  bif bytesEq (nB s.book n).acc.data.toList [111,119,101,100] then lpAk L L' s k num (nB s.book n).amt (wrapK .i64 (.ofNat n+1)) else lpAk L L' s k num g (wrapK .i64 (.ofNat n+1)) else none else some (rpA ⟨0,num,g⟩,hS s k,nS k):=by
 cases k
 ·kernel_rfl
 ·kernel_rfl
theorem top_ask0 (L:Nat) (s:bil.St) (c:ByteArray):callS c72 L s_ask [.ptr 0 0,tx c] ⟨hS0 s,1,0,0⟩ (kT 1)=bif Nat.blt s.series.length 1000000 then bif (findS s.series c).2 then lpAk L L s false (wrapK .i64 ((findS s.series c).1.next - 1)) 0 (.ofNat 0) else koI s false 11 else none:=by kernel_rfl
theorem top_ask1 (L:Nat) (s:bil.St) (c:ByteArray):callS c72 L s_ask [.ptr 0 0,tx c] ⟨hS1 s,2,0,0⟩ (kT 2)=bif Nat.blt s.series.length 1000000 then bif (findS s.series c).2 then lpAk L L s true (wrapK .i64 ((findS s.series c).1.next - 1)) 0 (.ofNat 0) else koI s true 11 else none:=by kernel_rfl
def owF (g:Int) (b:bil.Bal):Int:=if b.acc=bil.owedA then b.amt else g
theorem loop_ask (L:Nat) (s:bil.St) (k:Bool) (num:Int) (hl:s.book.length < 1000000):∀ (t:List bil.Bal) (n f:Nat) (g:Int),s.book.drop n=t→n≤s.book.length→t.length < f→lpAk L f s k num g (.ofNat n)=some (rpA ⟨0,num,t.foldl owF g⟩,hS s k,nS k)
 | t,n,0,g,_,_,hf=>by omega
 | [],n,f+1,g,hd,hn,hf=>by
  rw [round_ask,drop_nil hd hn,le_nat (Nat.le_refl _),cond_false];rfl
 | x::t,n,f+1,g,hd,hn,hf=>by
  obtain⟨h1,h2,h3⟩:=drop_cons (t:=.bal) hd
  have h2:nB s.book n=x:=h2
  have ih:=fun g=>loop_ask L s k num hl t (n+1) f g h3 (by omega) (by simp at hf;omega)
  have hb:=beq_bytes x.acc bil.owedA
  have ho:bil.owedA.data.toList=[111,119,101,100]:=rfl
  rw [ho] at hb
  rw [round_ask,lt_nat h1,cond_true,in_nat h1,cond_true,h2,hb,wrap_succ (by omega),ih,ih,List.foldl_cons]
  unfold owF
  by_cases h:x.acc=bil.owedA
  ·rw [decide_eq_true h,if_pos h];rfl
  ·rw [decide_eq_false h,if_neg h];rfl
def akF (s:bil.St) (c:ByteArray):bil.Rp:=bil.askF s c
theorem run_ask (s:bil.St) (c:ByteArray) (k:Bool) (hG:StG s):callS c72 1001 s_ask [.ptr 0 0,tx c] ⟨hS s k,nS k,0,0⟩ (kT (nS k))=some (rpA (akF s c),hS s k,nS k):=by
 obtain⟨k1,k2,k3,k4,k5,k6⟩:=stG_small hG
 have key:(bif Nat.blt s.series.length 1000000 then bif (findS s.series c).2 then lpAk 1001 1001 s k (wrapK .i64 ((findS s.series c).1.next - 1)) 0 (.ofNat 0) else koI s k 11 else none)=some (rpA (akF s c),hS s k,nS k):=by
  rw [bltN_true (by omega),cond_true]
  unfold findS akF bil.askF
  cases hf:bil.srAt s.series c with
  | none=>rfl
  | some i =>
   obtain⟨hi,x,hx,_⟩:=bil.findIdx_lt hf
   have hn:nth (t:=.series) s.series i=x:=by
    have:=get_nth (t:=.series) hi
    rw [hx] at this
    exact (Option.some.inj this).symm
   have hok:1≤x.next∧x.next≤x.limit+1∧x.limit≤1099511627776:=by
    have h5:=hG.1.series
    unfold bil.srRight at h5
    simp only [Bool.and_eq_true,decide_eq_true_eq,List.all_eq_true] at h5
    have:=h5.2.1 x (List.mem_of_getElem? hx)
    unfold bil.srOk at this
    simp only [Bool.and_eq_true,decide_eq_true_eq] at this
    omega
   simp only [hx]
   rw [cond_true,hn,wrap64 ⟨by omega,by omega⟩,loop_ask 1001 s k _ (by omega) s.book 0 1001 0 rfl (by omega) (by omega)]
   rfl
 cases k with
 | false=>exact (top_ask0 1001 s c).trans key
 | true=>exact (top_ask1 1001 s c).trans key
def H_ask (xs:List AV) (m:Mem):List (Bool × AV × T Blk × Nat):=match xs,stOf m with
 | [.ptr 0 0,.str c],some (g,s,k)=>[(g&&@decide (StG s) (Classical.propDecidable _),rpA (akF s ⟨⟨c⟩⟩),hS s k,nS k)]
 | _,_=>[]
theorem first1 {g1:Bool} {r1 r:AV} {h1 h:T Blk} {n1 n:Nat} (hf:firstT [(g1,r1,h1,n1)]=some (r,h,n)):g1=true∧r=r1∧h=h1∧n=n1:=by
 cases g1 with
 | true =>
  have hf:some (r1,h1,n1)=some (r,h,n):=hf
  cases hf
  exact⟨rfl,rfl,rfl,rfl⟩
 | false =>
  have hf:none=some (r,h,n):=hf
  cases hf
def c73:ClS:=addNs 43 H_ask c72
theorem snd73:SoundS Tryz.prog c73:=add_mems snd72 mix ok_ask H_ask fun xs m r h1 n1 h=>by
 unfold H_ask at h
 split at h<;>first | (cases h;done) | skip
 rename_i c g s k hs
 obtain⟨a,rfl,rfl,rfl⟩:=first1 h
 rw [Bool.and_eq_true] at a
 obtain⟨rfl,a2⟩:=a
 obtain⟨rfl,hk⟩:=stOf_inv hs
 exact⟨by cases k<;>rfl,1001,run_ask s ⟨⟨c⟩⟩ k (dec_true a2)⟩
end
end Go.Proofs.YtbknmeafcbhicaaGreatDoor.Ev

/- States: a command done. -/
namespace Go.Proofs.YtbknmeafcbhicaaGreatDoor.Ev
open Go
noncomputable section
def keT (g:Bool) (s s':bil.St) (k:Bool) (e:Int):Option (AV × T Blk × Nat):=bif g&&eqI e 0 then some (rpA ⟨e,0,0⟩,hS s' k,nS k) else bif g then some (rpA ⟨e,0,0⟩,hS s k,nS k) else none
def twT (g app k:Bool) (q:bil.St × bil.Rp):Option (AV × T Blk × Nat):=bif g&&!app then some (rpA q.2,hS q.1 k,nS k) else bif g then some (rpA q.2,hA q.1 k,nA' k) else none
def gSt (s:bil.St):Bool:=@decide (StG s) (Classical.propDecidable _)
def treeD (g:Bool) (s:bil.St) (c:bil.Cd) (k:Bool):Option (AV × T Blk × Nat) :=
 bif eqI c.kind 1 then keT g s { s with series:=(openR s.series c.series c.limit).1 } k (openR s.series c.series c.limit).2 else
 bif eqI c.kind 2 then keT g s { s with series:=(shutR s.series c.series).1 } k (shutR s.series c.series).2 else
 bif eqI c.kind 3 then keT g s { s with table:=(putR s.table c.row).1 } k (putR s.table c.row).2 else
 bif eqI c.kind 4 then twT (g&&(gSt s&&c.lines.all gLi)) (eqI (blF s c).2.why 0) k (blF s c) else
 bif eqI c.kind 5 then twT (g&&gSt s) (eqI (crF s c).2.why 0) k (crF s c) else
 bif eqI c.kind 7 then keT g s { s with sess:=(leaveR s.sess c.session).1 } k (leaveR s.sess c.session).2 else
 bif g&&gSt s then some (rpA (akF s c.series),hS s k,nS k) else none
theorem top_do0 (s:bil.St) (c:bil.Cd):callS c73 0 s_do [.ptr 0 0,.agg (cCd c)] ⟨hS0 (nil' s),1,0,0⟩ (kT 1)=treeD true (nil' s) c false:=by kernel_rfl
theorem top_do1 (s:bil.St) (c:bil.Cd):callS c73 0 s_do [.ptr 0 0,.agg (cCd c)] ⟨hS1 s,2,0,0⟩ (kT 2)=treeD (Nat.beq s.posted.length s.posted.length) s c true:=by kernel_rfl
def dF (s:bil.St) (c:bil.Cd):bil.St × bil.Rp:=bil.doF E s c
def appD (c:bil.Cd) (r:bil.Rp):Bool:=(eqI c.kind 4 || eqI c.kind 5)&&eqI r.why 0
theorem keT_eq {g:Bool} {s s':bil.St} {k:Bool} {e:Int} (hg:g=true):keT g s s' k e=some (rpA ⟨e,0,0⟩,hS (if e=0 then s' else s) k,nS k):=by
 unfold keT
 rw [hg,Bool.true_and]
 by_cases h:e=0
 ·rw [eq_true' h,if_pos h];rfl
 ·rw [eq_false' h,if_neg h];rfl
theorem twT_eq {g app k:Bool} {q:bil.St × bil.Rp} (hg:g=true):twT g app k q=outD app k q:=by
 unfold twT
 rw [hg]
 cases app<;>rfl
theorem gSt_of {s:bil.St} (h:StG s):gSt s=true:=@decide_eq_true _ (Classical.propDecidable _) h
theorem leave_eq {s:bil.St} (h:StG s) (id:Int):leaveR s.sess id=bil.sesLeave s.sess id:=by
 unfold leaveR
 rw [h.1.sess,if_neg (by simp)]
theorem tree_do {s:bil.St} {g:Bool} (c:bil.Cd) (k:Bool) (hg:g=true) (hG:StG s) (hc:c.lines.all gLi=true):treeD g s c k=outD (appD c (dF s c).2) k (dF s c):=by
 have hgs:=gSt_of hG
 unfold treeD dF bil.doF appD
 rw [keT_eq hg,keT_eq hg,keT_eq hg,keT_eq hg,twT_eq (by rw [hg,hgs,hc];rfl),twT_eq (by rw [hg,hgs];rfl),hg,hgs,leave_eq hG]
 simp only [eqI_eq]
 by_cases h1:c.kind=1
 ·simp only [h1];rfl
 ·by_cases h2:c.kind=2
  ·simp only [h2];rfl
  ·by_cases h3:c.kind=3
   ·simp only [h3];rfl
   ·by_cases h4:c.kind=4
    ·simp only [h4];rfl
    ·by_cases h5:c.kind=5
     ·simp only [h5];rfl
     ·by_cases h7:c.kind=7
      ·simp only [h7];rfl
      ·simp only [h1,h2,h3,h4,h5,h7,if_false,decide_false,cond_false,Bool.or_self,Bool.false_and]
       rfl
def H_do (xs:List AV) (m:Mem):List (Bool × AV × T Blk × Nat):=match xs,stOf m with
 | [.ptr 0 0,.agg cs],some (g,s,k)=>(match cdOf cs with
  | some c=>twoD (g&&(gSt s&&c.lines.all gLi)) (appD c (dF s c).2) k (dF s c)
  | none=>[])
 | _,_=>[]
theorem gSt_to {s:bil.St} (h:gSt s=true):StG s:=dec_true h
def c74:ClS:=addNs 15 H_do c73
theorem snd74:SoundS Tryz.prog c74:=add_mems snd73 mix ok_do H_do fun xs m r h1 n1 h=>by
 unfold H_do at h
 split at h<;>first | (cases h;done) | skip
 rename_i cs g s k hs
 cases hd:cdOf cs with
 | none=>rw [hd] at h;cases h
 | some c =>
  rw [hd] at h
  obtain⟨a,b⟩:=twoD_inv h
  rw [Bool.and_eq_true,Bool.and_eq_true] at a
  obtain⟨rfl,a2,a3⟩:=a
  obtain⟨rfl,hk⟩:=stOf_inv hs
  rw [← cdOf_inv hd]
  refine⟨by cases k<;>rfl,0,Eq.trans ?_ b⟩
  cases k with
  | false =>
   have h0:=nil_eq (hk rfl)
   have:=top_do0 s c
   rw [h0] at this
   exact this.trans (tree_do c false rfl (gSt_to a2) a3)
  | true=>exact (top_do1 s c).trans (tree_do c true (beqN_true rfl) (gSt_to a2) a3)
def svA (s:bil.St):Bool→List AV
 | false=>stC s .nilsl
 | true=>stC s (.so 0 12 0 s.posted.length)
def hV (s:bil.St):Bool→T Blk
 | false=>.nil
 | true=>hPl s.posted
def nV:Bool→Nat
 | false=>0
 | true=>1
def svOf:List AV→Mem→Option (Bool × bil.St × Bool)
 | [.fl .rate t,.fl .series l,.nilsl,.fl .bal b,.fl .ses z,.int .i64 n],⟨.nil,0,0,0⟩=>some (true,⟨t,l,[],b,z,n⟩,false)
 | [.fl .rate t,.fl .series l,.so 0 12 0 len,.fl .bal b,.fl .ses z,.int .i64 n],⟨.node .nil (some ⟨.ls .posted p,12,true⟩) .nil,1,0,0⟩=>some (Nat.beq len p.length,⟨t,l,p,b,z,n⟩,true)
 | _,_=>none
theorem svOf_inv {cs:List AV} {m:Mem} {s:bil.St} {k:Bool} (h:svOf cs m=some (true,s,k)):cs=svA s k∧m=⟨hV s k,nV k,0,0⟩∧(k=false→s.posted=[]):=by
 unfold svOf at h
 split at h<;>first | (cases h;done) | skip
 ·cases h
  exact⟨rfl,rfl,fun _=>rfl⟩
 ·rename_i t l len b z n p
  simp only [Option.some.injEq,Prod.mk.injEq] at h
  obtain⟨hg,rfl,rfl⟩:=h
  have:=Nat.eq_of_beq_eq_true hg
  subst this
  exact⟨rfl,rfl,fun h=>by cases h⟩
def joF (s:bil.St):bil.St × bil.Rp:=bil.joinF s
def joA (q:bil.St × bil.Rp) (k:Bool):Option (AV × T Blk × Nat):=some (.tup [.agg (svA q.1 k),rpA q.2],hV q.1 k,nV k)
theorem top_join (s:bil.St) (k:Bool):callS c74 0 s_join [.agg (svA s k)] ⟨hV s k,nV k,0,0⟩ (kT (nV k))=bif !ltI (.ofNat s.sess.length) 8 then joA (s,⟨14,0,0⟩) k else bif !ltI s.next 1099511627776 then joA (s,⟨14,0,0⟩) k else
  bif !eqI (joinR s.sess s.next).2 0 then joA (s,⟨(joinR s.sess s.next).2,0,0⟩) k else joA ({ s with sess:=(joinR s.sess s.next).1,next:=wrapK .i64 (s.next+1) },⟨0,s.next,0⟩) k:=by
 cases k
 ·kernel_rfl
 ·kernel_rfl
theorem run_join (s:bil.St) (k:Bool) (hG:StG s):callS c74 0 s_join [.agg (svA s k)] ⟨hV s k,nV k,0,0⟩ (kT (nV k))=joA (joF s) k:=by
 rw [top_join]
 unfold joF bil.joinF
 by_cases h1:8≤s.sess.length
 ·rw [lt_false (by simp only [Int.ofNat_eq_natCast];omega),if_pos (.inl h1)];rfl
 ·rw [lt_true (by simp only [Int.ofNat_eq_natCast];omega),Bool.not_true,cond_false]
  by_cases h2:1099511627776≤s.next
  ·rw [lt_false (by omega),if_pos (.inr h2)];rfl
  ·obtain⟨n1,n2,n3⟩:=hG.1.next
   have hj:joinR s.sess s.next=(bil.insF bil.sesLt (freshS s.next) s.sess,0):=by
    unfold joinR
    rw [if_neg (by rw [hG.1.sess];simp;omega)]
    have:bil.sesAt s.sess s.next=none:=by
     unfold bil.sesAt
     rw [List.findIdx?_eq_none_iff]
     intro x hx
     have:=n3 x hx
     simp;omega
    rw [this,if_neg (by simp),if_neg h1]
   rw [lt_true (by omega),Bool.not_true,cond_false,hj,eq_true' rfl,Bool.not_true,cond_false,wrap64 ⟨by omega,by omega⟩,if_neg (by omega)]
   rfl
def H_join (xs:List AV) (m:Mem):List (Bool × AV × T Blk × Nat):=match xs with
 | [.agg cs]=>(match svOf cs m with
  | some (g,s,k)=>[(g&&gSt s,.tup [.agg (svA (joF s).1 k),rpA (joF s).2],hV (joF s).1 k,nV k)]
  | none=>[])
 | _=>[]
def c75:ClS:=addNs 13 H_join c74
theorem snd75:SoundS Tryz.prog c75:=add_mems snd74 mix ok_join H_join fun xs m r h1 n1 h=>by
 unfold H_join at h
 split at h<;>first | (cases h;done) | skip
 rename_i cs
 cases hs:svOf cs m with
 | none=>rw [hs] at h;cases h
 | some q =>
  obtain⟨g,s,k⟩:=q
  rw [hs] at h
  obtain⟨a,rfl,rfl,rfl⟩:=first1 h
  rw [Bool.and_eq_true] at a
  obtain⟨rfl,a2⟩:=a
  obtain⟨rfl,rfl,hk⟩:=svOf_inv hs
  exact⟨by cases k<;>rfl,0,run_join s k (gSt_to a2)⟩
end
end Go.Proofs.YtbknmeafcbhicaaGreatDoor.Ev

/- States: the state behind a call. -/
namespace Go.Proofs.YtbknmeafcbhicaaGreatDoor.Ev
open Go
noncomputable section
def cCa (a:bil.Ca):List AV:=i64 a.session::i64 a.seq::cCd a.cmd
def shSt:Sh:=.agg [.any,.any,.lst .posted,.any,.any,.any]
def oA (s:bil.St) (p:List bil.Pst) (r:bil.Rp):Option AV:=some (.tup [.agg [.fl .rate s.table,.fl .series s.series,.fl .posted p,.fl .bal s.book,.fl .ses s.sess,i64 s.next],rpA r])
def oP (k:Bool) (s:bil.St) (p:List bil.Pst) (r:bil.Rp):Option AV:=match k with
 | false=>oA s [] r
 | true=>bif Nat.beq p.length p.length then oA s p r else none
def kpT (k:Bool) (a:bil.Ca) (q:bil.St × bil.Rp):Option AV :=
 bif eqI (keepR q.1.sess a.session a.seq q.2).2 0 then oP k { q.1 with sess:=(keepR q.1.sess a.session a.seq q.2).1 } q.1.posted q.2 else oP k q.1 q.1.posted q.2
def treeA (g:Bool) (k:Bool) (s:bil.St) (a:bil.Ca):Option AV :=
 bif true&&(true&&(true&&(g&&(true&&(true&&true)))))&&true&&gSt s then bif ltI a.cmd.kind 1 then oP k s s.posted ⟨17,0,0⟩ else bif ltI 8 a.cmd.kind then oP k s s.posted ⟨17,0,0⟩ else
  bif eqI a.cmd.kind 6 then bif g&&gSt s then oP k (joF s).1 (joF s).1.posted (joF s).2 else none else
   bif (lookR s.sess a.session a.seq).2.1 then bif !eqI (lookR s.sess a.session a.seq).2.2 0 then oP k s s.posted ⟨(lookR s.sess a.session a.seq).2.2,0,0⟩ else oP k s s.posted (lookR s.sess a.session a.seq).1
   else bif !eqI (lookR s.sess a.session a.seq).2.2 0 then oP k s s.posted ⟨(lookR s.sess a.session a.seq).2.2,0,0⟩ else
    bif g&&(gSt s&&a.cmd.lines.all gLi)&&!appD a.cmd (dF s a.cmd).2 then kpT k a (dF s a.cmd) else bif g&&(gSt s&&a.cmd.lines.all gLi) then kpT true a (dF s a.cmd) else none
 else none
theorem top_apply (s:bil.St) (a:bil.Ca):callF c75 0 s_apply (.tup [shSt,.any]) [.agg (cSt s),.agg (cCa a)] some=bif gSt s&&s.posted.isEmpty then treeA true false (nil' s) a else bif gSt s then treeA (Nat.beq s.posted.length s.posted.length) true s a else none:=by kernel_rfl
def apF (s:bil.St) (a:bil.Ca):bil.St × bil.Rp:=bil.applyF E s a
theorem dF_posted {s:bil.St} {c:bil.Cd} (h:appD c (dF s c).2=false):(dF s c).1.posted=s.posted:=by
 unfold appD at h
 unfold dF bil.doF at *
 by_cases h1:c.kind=1
 ·rw [if_pos h1]
  simp only
  split<;>rfl
 ·by_cases h2:c.kind=2
  ·rw [if_neg h1,if_pos h2]
   simp only
   split<;>rfl
  ·by_cases h3:c.kind=3
   ·rw [if_neg h1,if_neg h2,if_pos h3]
    simp only
    split<;>rfl
   ·by_cases h4:c.kind=4
    ·rw [if_neg h1,if_neg h2,if_neg h3,if_pos h4] at h ⊢
     rw [eqI_eq,eqI_eq,eqI_eq,decide_eq_true h4] at h
     have hb:(blF s c).2.why≠0:=by
      intro hw
      have hw:(bil.billF E s c).2.why=0:=hw
      simp [hw] at h
     show (blF s c).1.posted=s.posted
     revert hb
     unfold blF bil.billF
     cases bil.totalF E s.table c.day c.lines with
     | inr e=>intro _;rfl
     | inl t =>
      intro hb
      show (isF s c.series _).1.posted=_
      rw [isF_same hb]
    ·by_cases h5:c.kind=5
     ·rw [if_neg h1,if_neg h2,if_neg h3,if_neg h4,if_pos h5] at h ⊢
      rw [eqI_eq,eqI_eq,eqI_eq,decide_eq_true h5] at h
      have hb:(crF s c).2.why≠0:=by
       intro hw
       have hw:(bil.creditF E s c).2.why=0:=hw
       simp [hw] at h
      show (crF s c).1.posted=s.posted
      revert hb
      unfold crF bil.creditF
      cases bil.findP s.posted c.of_ with
      | none=>intro _;rfl
      | some i =>
       simp only
       cases s.posted[i]? with
       | none=>intro _;rfl
       | some p =>
        simp only
        split
        ·intro _;rfl
        ·split
         ·intro _;rfl
         ·cases bil.backF p.tot with
          | none=>intro _;rfl
          | some t =>
           simp only
           have hsm:=isF_same (s:=s) (c:=c.series) (p:=⟨bil.Ref.z,c.day,t,c.of_,false⟩)
           unfold isF at hsm
           generalize bil.issueF E s c.series ⟨bil.Ref.z,c.day,t,c.of_,false⟩=Q at hsm
           obtain⟨s',r⟩:=Q
           simp only at hsm ⊢
           by_cases hw:r.why=0
           ·simp [hw]
           ·intro _
            rw [if_neg hw,hsm hw]
     ·by_cases h7:c.kind=7
      ·rw [if_neg h1,if_neg h2,if_neg h3,if_neg h4,if_neg h5,if_pos h7]
       simp only
       split<;>rfl
      ·rw [if_neg h1,if_neg h2,if_neg h3,if_neg h4,if_neg h5,if_neg h7]
theorem joF_posted (s:bil.St):(joF s).1.posted=s.posted:=by
 unfold joF bil.joinF
 split<;>rfl
def outA (q:bil.St × bil.Rp):Option AV:=some (.tup [.agg (cSt q.1),rpA q.2])
theorem oP_eq {k:Bool} {s:bil.St} {r:bil.Rp} (hk:k=false→s.posted=[]):oP k s s.posted r=outA (s,r):=by
 cases k with
 | false =>
  obtain⟨t,l,p,b,z,n⟩:=s
  have h0:p=[]:=hk rfl
  subst h0
  rfl
 | true =>
  show (bif Nat.beq s.posted.length s.posted.length then _ else _)=_
  rw [beqN_true rfl];rfl
theorem look_eq {l:List bil.Ses} (h:bil.sesRight l=true) (id sq:Int):lookR l id sq=match bil.lookF l id sq with | .inr e=>(rp0,false,e) | .inl (r,had)=>(r,had,0):=by
 unfold lookR
 rw [h,if_neg (by simp)]
 cases bil.lookF l id sq<;>rfl
theorem lookF_err {l:List bil.Ses} {id sq e:Int} (h:bil.lookF l id sq=.inr e):e≠0:=by
 unfold bil.lookF at h
 repeat' split at h
 all_goals first
  | (cases h;decide)
  | cases h
theorem kp_eq {k:Bool} {a:bil.Ca} {q:bil.St × bil.Rp} (hz:bil.sesRight q.1.sess=true) (hk:k=false→q.1.posted=[]):kpT k a q=outA ({ q.1 with sess:=bil.keepF q.1.sess a.session a.seq q.2 },q.2):=by
 unfold kpT keepR
 rw [look_eq hz]
 unfold bil.keepF
 cases hl:bil.lookF q.1.sess a.session a.seq with
 | inr e =>
  have:=lookF_err hl
  simp only
  rw [if_pos this,eq_false' this]
  exact oP_eq hk
 | inl v =>
  obtain⟨r,had⟩:=v
  simp only
  rw [if_neg (fun h:(0:Int)≠0=>h rfl)]
  cases had with
  | true=>exact oP_eq hk
  | false =>
   rw [if_neg (by simp),eq_true' rfl,cond_true]
   simp only [Bool.false_eq_true,if_false]
   exact oP_eq (s:={ q.1 with sess:=_ }) hk
theorem tree_apply {g:Bool} {k:Bool} {s:bil.St} {a:bil.Ca} (hg:g=true) (hG:StG s) (hk:k=false→s.posted=[]) (hc:a.cmd.lines.all gLi=true):treeA g k s a=outA (apF s a):=by
 have hgs:=gSt_of hG
 have hd:bil.StOk E (dF s a.cmd).1:=bil.do_ok E hG.1
 unfold treeA apF bil.applyF
 rw [hg,hgs,hc,Bool.and_self,Bool.and_self,Bool.and_self,Bool.and_self,Bool.and_self,Bool.and_self,cond_true,ltI_eq,ltI_eq,eqI_eq]
 by_cases h1:a.cmd.kind < 1
 ·rw [decide_eq_true h1,if_pos (.inl h1)]
  exact oP_eq hk
 ·by_cases h2:8 < a.cmd.kind
  ·rw [decide_eq_false h1,decide_eq_true h2,if_pos (.inr h2)]
   exact oP_eq hk
  ·rw [decide_eq_false h1,decide_eq_false h2,if_neg (by omega)]
   by_cases h6:a.cmd.kind=6
   ·rw [decide_eq_true h6,if_pos h6]
    show oP k (joF s).1 (joF s).1.posted (joF s).2=outA (joF s)
    exact oP_eq fun h=>by rw [joF_posted];exact hk h
   ·rw [decide_eq_false h6,if_neg h6,look_eq hG.1.sess]
    cases hl:bil.lookF s.sess a.session a.seq with
    | inr e =>
     have:=lookF_err hl
     simp only
     rw [eq_false' this]
     exact oP_eq hk
    | inl v =>
     obtain⟨r,had⟩:=v
     simp only
     rw [eq_true' rfl]
     cases had with
     | true=>exact oP_eq hk
     | false =>
      show (bif true&&!appD a.cmd (dF s a.cmd).2 then kpT k a (dF s a.cmd) else kpT true a (dF s a.cmd))=outA ({ (dF s a.cmd).1 with sess:=bil.keepF (dF s a.cmd).1.sess a.session a.seq (dF s a.cmd).2 },(dF s a.cmd).2)
      cases hap:appD a.cmd (dF s a.cmd).2 with
      | true=>exact kp_eq hd.sess (fun h=>by cases h)
      | false=>exact kp_eq hd.sess (fun h=>by rw [dF_posted hap];exact hk h)
theorem run_apply (s:bil.St) (a:bil.Ca) (hG:StG s) (hc:a.cmd.lines.all gLi=true):callF c75 0 s_apply (.tup [shSt,.any]) [.agg (cSt s),.agg (cCa a)] some=outA (apF s a):=by
 rw [top_apply,gSt_of hG,Bool.true_and,cond_true]
 cases hp:s.posted.isEmpty with
 | true =>
  have h0:=List.isEmpty_iff.1 hp
  rw [cond_true,nil_eq h0]
  exact tree_apply rfl hG (fun _=>h0) hc
 | false =>
  rw [cond_false]
  exact tree_apply (beqN_true rfl) hG (fun h=>by cases h) hc
theorem dF_gP {s:bil.St} (c:bil.Cd) (hG:StG s):(dF s c).1.posted.all gP=true:=by
 cases hap:appD c (dF s c).2 with
 | false=>rw [dF_posted hap];exact hG.2
 | true =>
  unfold appD at hap
  rw [Bool.and_eq_true,Bool.or_eq_true,eqI_eq,eqI_eq,eqI_eq,decide_eq_true_eq,decide_eq_true_eq,decide_eq_true_eq] at hap
  obtain⟨hk,hw⟩:=hap
  rcases hk with hk | hk
  ·have e:dF s c=blF s c:=by
    unfold dF bil.doF
    rw [if_neg (by omega),if_neg (by omega),if_neg (by omega),if_pos hk];rfl
   rw [e] at hw ⊢
   revert hw
   unfold blF bil.billF
   cases ht:bil.totalF E s.table c.day c.lines with
   | inr x=>intro _;exact hG.2
   | inl t =>
    intro hw
    obtain⟨n,hp⟩:=isF_some (s:=s) (c:=c.series) hw
    show (isF s c.series _).1.posted.all gP=true
    rw [hp,List.all_append,hG.2]
    have:=(total_num ht).2
    simp only [List.all_cons,List.all_nil,Bool.and_true,Bool.true_and]
    exact this
  ·have e:dF s c=crF s c:=by
    unfold dF bil.doF
    rw [if_neg (by omega),if_neg (by omega),if_neg (by omega),if_neg (by omega),if_pos hk];rfl
   rw [e] at hw ⊢
   revert hw
   unfold crF bil.creditF
   cases hf:bil.findP s.posted c.of_ with
   | none=>intro _;exact hG.2
   | some i =>
    obtain⟨hi,hget⟩:=ix_get hf
    simp only [hget]
    split
    ·intro _;exact hG.2
    ·split
     ·intro _;exact hG.2
     ·cases hb:bil.backF (nPs s.posted i).tot with
      | none=>intro _;exact hG.2
      | some t =>
       have hso:=isF_some (s:=s) (c:=c.series) (p:=⟨bil.Ref.z,c.day,t,c.of_,false⟩)
       have hsm:=isF_same (s:=s) (c:=c.series) (p:=⟨bil.Ref.z,c.day,t,c.of_,false⟩)
       unfold isF at hso hsm
       simp only
       generalize bil.issueF E s c.series ⟨bil.Ref.z,c.day,t,c.of_,false⟩=Q at hso hsm
       obtain⟨s',r⟩:=Q
       simp only at hso hsm ⊢
       by_cases hw:r.why=0
       ·intro _
        rw [if_pos hw]
        obtain⟨n,hp⟩:=hso hw
        have h2:gTt (nPs s.posted i).tot=true:=List.all_eq_true.1 hG.2 _ (List.mem_of_getElem? hget)
        have ht:gTt t=true:=(back_all hb).2 (gTt_iff.1 h2).2.2.2.2
        show (s'.posted.set i _).all gP=true
        rw [List.all_eq_true]
        intro x hx
        rcases List.mem_or_eq_of_mem_set hx with hx | rfl
        ·rw [hp] at hx
         rcases List.mem_append.1 hx with hx | hx
         ·exact List.all_eq_true.1 hG.2 x hx
         ·rw [List.mem_singleton.1 hx]
          exact ht
        ·exact h2
       ·intro hh
        rw [if_neg hw] at hh
        exact absurd hh hw
theorem apF_ok {s:bil.St} {a:bil.Ca} (hG:StG s):StG (apF s a).1:=by
 refine⟨bil.apply_ok E hG.1,?_⟩
 unfold apF bil.applyF
 split
 ·exact hG.2
 ·split
  ·show (joF s).1.posted.all gP=true
   rw [joF_posted];exact hG.2
  ·split
   ·exact hG.2
   ·split
    ·exact hG.2
    ·exact dF_gP a.cmd hG
theorem new_G:StG ⟨[],[],[],[],[],1⟩:=⟨bil.new_ok E,rfl⟩
def stVal:List AV→Option bil.St
 | [.fl .rate t,.fl .series l,.fl .posted p,.fl .bal b,.fl .ses z,.int .i64 n]=>some ⟨t,l,p,b,z,n⟩
 | _=>none
theorem stVal_inv {cs:List AV} {s:bil.St} (h:stVal cs=some s):cSt s=cs:=by
 unfold stVal at h
 split at h<;>first | (cases h;done) | (cases h;rfl)
def caOf:List AV→Option bil.Ca
 | .int .i64 x::.int .i64 y::cs=>(match cdOf cs with
  | some c=>some ⟨x,y,c⟩
  | none=>none)
 | _=>none
theorem caOf_inv {cs:List AV} {a:bil.Ca} (h:caOf cs=some a):cCa a=cs:=by
 unfold caOf at h
 split at h<;>first | (cases h;done) | skip
 rename_i x y cs
 cases hc:cdOf cs with
 | none=>rw [hc] at h;cases h
 | some c =>
  rw [hc] at h
  cases h
  unfold cCa
  rw [cdOf_inv hc]
  rfl
def G_apply:List AV→Option (Bool × AV)
 | [.agg cs,.agg ds]=>(match stVal cs with
  | some s=>(match caOf ds with
   | some a=>some (gSt s&&a.cmd.lines.all gLi,.tup [.agg (cSt (apF s a).1),rpA (apF s a).2])
   | none=>none)
  | none=>none)
 | _=>none
def c76:ClS:=addG 7 G_apply c75
theorem snd76:SoundS Tryz.prog c76:=add_gn snd75 mix ok_apply (.tup [shSt,.any]) G_apply fun xs r h=>by
 unfold G_apply at h
 split at h<;>first | (cases h;done) | skip
 rename_i cs ds
 cases hs:stVal cs with
 | none=>rw [hs] at h;cases h
 | some s =>
  rw [hs] at h
  cases ha:caOf ds with
  | none=>rw [ha] at h;cases h
  | some a =>
   rw [ha] at h
   obtain⟨hg,rfl⟩:=Prod.mk.inj (Option.some.inj h)
   rw [Bool.and_eq_true] at hg
   rw [← stVal_inv hs,← caOf_inv ha]
   exact⟨rfl,0,run_apply s a (gSt_to hg.1) hg.2⟩
end
end Go.Proofs.YtbknmeafcbhicaaGreatDoor.Ev

/- States: the state behind calls. -/
namespace Go.Proofs.YtbknmeafcbhicaaGreatDoor.Ev
open Go
noncomputable section
def shS1:Sh:=.agg [.any,.any,.lst .posted,.any,.any,.any]
def kCf (L:Nat):Ex→T AV→Mem→Option AV:=k1_copied c76 L fun r m=>frzK m shS1 r some
def lpCf (L L':Nat) (s:bil.St) (len:Nat) (l:List bil.Pst) (n:Int):Option AV:=loopS (evS c76 L b1_copied) l1_copied 0 L' (stL [(q1,.ptr 0 0),(q2,.ptr 1 0),(q26,i64 (.ofNat len)),(q27,i64 n)]) (mCp s len l) (kCf L)
theorem round_cpF (L L' n len:Nat) (s:bil.St) (l:List bil.Pst):lpCf L (Nat.succ L') s len l (.ofNat n)=bif ltI (.ofNat n) (.ofNat len) then bif inI (.ofNat n) len then bif Nat.blt n l.length then bif Nat.blt (nPs l n).tot.parts.length 1048576 then bif inI (.ofNat n) len then bif Nat.blt n l.length then
 lpCf L L' s len (l.set n (nPs l n)) (wrapK .i64 (.ofNat n+1)) else none else none else none else none else none else bif Nat.beq len l.length then some (.agg (stC s (.fl .posted l))) else none:=by kernel_rfl
theorem loop_cpF (L:Nat) (s:bil.St) (l:List bil.Pst) (hl:l.length < 1000) (hp:∀ p∈l,p.tot.parts.length≤12):∀ (t:List bil.Pst) (n f:Nat),l.drop n=t→n≤l.length→t.length < f→lpCf L f s l.length l (.ofNat n)=some (.agg (stC s (.fl .posted l)))
 | t,n,0,_,_,hf=>by omega
 | [],n,f+1,hd,hn,hf=>by
  rw [round_cpF,drop_nil hd hn,le_nat (Nat.le_refl _),cond_false,beqN_true rfl];rfl
 | x::t,n,f+1,hd,hn,hf=>by
  obtain⟨h1,h2,h3⟩:=drop_cons (t:=.posted) hd
  have ih:=loop_cpF L s l hl hp t (n+1) f h3 (by omega) (by simp at hf;omega)
  have:=hp _ (List.mem_of_getElem? (nPs_get h1))
  rw [round_cpF,lt_nat h1,cond_true,in_nat h1,cond_true,bltN_true h1,cond_true,bltN_true (by omega),cond_true,cond_true,cond_true,set_self h1,wrap_succ (by omega),ih]
def gSm (t:List bil.Rt) (l:List bil.Sr) (b:List bil.Bal) (z:List bil.Ses) (q:Option AV):Option AV:=bif Nat.blt t.length 1048576 then bif Nat.blt l.length 1048576 then bif Nat.blt b.length 1048576 then bif Nat.blt z.length 1048576 then q else none else none else none else none
theorem top_cpF0 (t:List bil.Rt) (l:List bil.Sr) (b:List bil.Bal) (z:List bil.Ses) (n:Int):callF c76 5 s_copied shS1 [.agg [.fl .rate t,.fl .series l,.fl .posted [],.fl .bal b,.fl .ses z,i64 n]] some=gSm t l b z (some (.agg (stC ⟨t,l,[],b,z,n⟩ (.fl .posted [])))):=by kernel_rfl
theorem top_cpF1 (L:Nat) (x:bil.Pst) (p:List bil.Pst) (t:List bil.Rt) (l:List bil.Sr) (b:List bil.Bal) (z:List bil.Ses) (n:Int):callF c76 L s_copied shS1 [.agg [.fl .rate t,.fl .series l,.fl .posted (x::p),.fl .bal b,.fl .ses z,i64 n]] some =
 gSm t l b z (bif Nat.blt (x::p).length 1048576 then lpCf L L ⟨t,l,x::p,b,z,n⟩ (x::p).length (x::p) (.ofNat 0) else none):=by kernel_rfl
theorem gSm_eq {s:bil.St} (h:StG s) (q:Option AV):gSm s.table s.series s.book s.sess q=q:=by
 obtain⟨k1,k2,k3,k4,k5,k6⟩:=stG_small h
 unfold gSm
 rw [bltN_true (by omega),bltN_true (by omega),bltN_true (by omega),bltN_true (by omega)];rfl
theorem run_cpF (s:bil.St) (h:StG s):∃ L,callF c76 L s_copied shS1 [.agg (cSt s)] some=some (.agg (cSt s)):=by
 obtain⟨k1,k2,k3,k4,k5,k6⟩:=stG_small h
 have hq:=gSm_eq h
 obtain⟨t,l,p,b,z,n⟩:=s
 cases p with
 | nil=>exact⟨5,(top_cpF0 t l b z n).trans (hq _)⟩
 | cons x p =>
  refine⟨1000,(top_cpF1 1000 x p t l b z n).trans ((hq _).trans ?_)⟩
  simp only at k3 k6
  rw [bltN_true (by omega),cond_true,loop_cpF 1000 _ (x::p) (by omega) k6 (x::p) 0 1000 rfl (by omega) (by omega)]
  rfl
def G_cpF:List AV→Option (Bool × AV)
 | [.agg cs]=>(match stVal cs with
  | some s=>some (gSt s,.agg (cSt s))
  | none=>none)
 | _=>none
def c77:ClS:=addG 10 G_cpF c76
theorem snd77:SoundS Tryz.prog c77:=add_gn snd76 mix ok_copied shS1 G_cpF fun xs r h=>by
 unfold G_cpF at h
 split at h<;>first | (cases h;done) | skip
 rename_i cs
 cases hs:stVal cs with
 | none=>rw [hs] at h;cases h
 | some s =>
  rw [hs] at h
  obtain⟨hg,rfl⟩:=Prod.mk.inj (Option.some.inj h)
  rw [← stVal_inv hs]
  exact⟨rfl,run_cpF s (gSt_to hg)⟩
def playS:bil.St→List bil.Ca→bil.St
 | s,[]=>s
 | s,a::l=>playS (apF s a).1 l
def playR:bil.St→List bil.Ca→List bil.Rp
 | _,[]=>[]
 | s,a::l=>(apF s a).2::playR (apF s a).1 l
def kPl (L:Nat):Ex→T AV→Mem→Option AV:=k1_play c77 L fun r m=>frzK m (.tup [shSt,.lst .reply]) r some
def mPl0 (s:bil.St):Mem:=⟨(T.node T.nil (some ⟨.raw [.nilsl,.nilsl,.nilsl,.nilsl,.nilsl,i64 0],1,false⟩) T.nil).node (some ⟨.raw (cSt s),1,false⟩) T.nil,2,3,3⟩
def mPl (s:bil.St) (l:List bil.Rp):Mem:=⟨(T.node T.nil (some ⟨.raw [.nilsl,.nilsl,.nilsl,.nilsl,.nilsl,i64 0],1,false⟩) T.nil).node (some ⟨.raw (cSt s),1,false⟩) ((T.node T.nil (some ⟨.ls .reply l,3,true⟩) T.nil).node none T.nil),3,7,7⟩
def lpPl0 (L L':Nat) (s:bil.St) (l:List bil.Ca) (n:Int):Option AV:=loopS (evS c77 L b1_play) l1_play 0 L' (stL [(q2,.ptr 0 0),(q4,.ptr 1 0),(q6,.nilsl),(q12,.fl .call l),(q13,i64 (.ofNat l.length)),(q14,i64 n)]) (mPl0 s) (kPl L)
def lpPl (L L':Nat) (s:bil.St) (l:List bil.Ca) (len:Nat) (o:List bil.Rp) (n:Int):Option AV:=loopS (evS c77 L b1_play) l1_play 0 L' (stL [(q2,.ptr 0 0),(q4,.ptr 1 0),(q6,.so 2 3 0 len),(q12,.fl .call l),(q13,i64 (.ofNat l.length)),(q14,i64 n)]) (mPl s o) (kPl L)
def nC (l:List bil.Ca) (n:Nat):bil.Ca:=nth (t:=.call) l n
def gCa (a:bil.Ca):Bool:=a.cmd.lines.all gLi
def oPl (s:bil.St) (o:List bil.Rp):Option AV:=some (.tup [.agg (cSt s),.fl .reply o])
theorem top_play (L:Nat) (s:bil.St) (l:List bil.Ca):callF c77 L s_play (.tup [shSt,.lst .reply]) [.agg (cSt s),.fl .call l] some=bif gSt s then lpPl0 L L s l (.ofNat 0) else none:=by kernel_rfl
theorem round_play0 (L L' n:Nat) (s:bil.St) (l:List bil.Ca):lpPl0 L (Nat.succ L') s l (.ofNat n)=bif ltI (.ofNat n) (.ofNat l.length) then bif inI (.ofNat n) l.length then bif gSt s&&gCa (nC l n) then lpPl L L' (apF s (nC l n)).1 l 1 [(apF s (nC l n)).2] (wrapK .i64 (.ofNat n+1)) else none else none else oPl s []:=by kernel_rfl
theorem round_play (L L' n len:Nat) (s:bil.St) (l:List bil.Ca) (o:List bil.Rp):lpPl L (Nat.succ L') s l len o (.ofNat n)=bif ltI (.ofNat n) (.ofNat l.length) then bif inI (.ofNat n) l.length then bif gSt s&&gCa (nC l n) then bif Nat.beq o.length len then bif Nat.blt (len+1) 1048576 then
 lpPl L L' (apF s (nC l n)).1 l (o++[(apF s (nC l n)).2]).length (o++[(apF s (nC l n)).2]) (wrapK .i64 (.ofNat n+1)) else none else none else none else none else bif Nat.beq len o.length then oPl s o else none:=by kernel_rfl
theorem playS_ok:∀ (l:List bil.Ca) (s:bil.St),StG s→StG (playS s l)
 | [],_,h=>h
 | _::l,_,h=>playS_ok l _ (apF_ok h)
theorem loop_play (L:Nat) (l:List bil.Ca) (hl:l.length < 1000000) (hg:l.all gCa=true):∀ (t:List bil.Ca) (n f:Nat) (s:bil.St) (o:List bil.Rp),l.drop n=t→n≤l.length→t.length < f→StG s→o.length=n→lpPl L f s l o.length o (.ofNat n)=oPl (playS s t) (o++playR s t)
 | t,n,0,s,o,_,_,hf,_,_=>by omega
 | [],n,f+1,s,o,hd,hn,hf,hG,ho=>by
  rw [round_play,drop_nil hd hn,le_nat (Nat.le_refl _),cond_false,beqN_true rfl]
  show oPl s o=oPl s (o++[])
  rw [List.append_nil]
 | x::t,n,f+1,s,o,hd,hn,hf,hG,ho=>by
  obtain⟨h1,h2,h3⟩:=drop_cons (t:=.call) hd
  have h2:nC l n=x:=h2
  have hx:=List.all_eq_true.1 hg x (List.mem_of_mem_drop (by rw [hd];exact List.mem_cons_self))
  have ih:=loop_play L l hl hg t (n+1) f (apF s x).1 (o++[(apF s x).2]) h3 (by omega) (by simp at hf;omega) (apF_ok hG) (by rw [List.length_append,ho];rfl)
  rw [round_play,lt_nat h1,cond_true,in_nat h1,cond_true,h2,hx,gSt_of hG,Bool.and_self,cond_true,beqN_true rfl,cond_true,bltN_true (by omega),cond_true,wrap_succ (by omega),ih,List.append_assoc]
  rfl
theorem run_play (s:bil.St) (l:List bil.Ca) (hG:StG s) (hl:l.length < 1000000) (hg:l.all gCa=true):callF c77 1000001 s_play (.tup [shSt,.lst .reply]) [.agg (cSt s),.fl .call l] some=oPl (playS s l) (playR s l):=by
 rw [top_play,gSt_of hG,cond_true]
 cases l with
 | nil=>rw [round_play0];rfl
 | cons x t =>
  have h1:0 < (x::t).length:=by simp
  have hx:=List.all_eq_true.1 hg x List.mem_cons_self
  have hn:nC (x::t) 0=x:=rfl
  rw [round_play0,lt_nat h1,cond_true,in_nat h1,cond_true,hn,hx,gSt_of hG,Bool.and_self,cond_true,wrap_succ (by omega)]
  exact loop_play 1000001 (x::t) hl hg t 1 1000000 (apF s x).1 [(apF s x).2] rfl (by simp) (by simp at hl;omega) (apF_ok hG) rfl
def G_play:List AV→Option (Bool × AV)
 | [.agg cs,.fl .call l]=>(match stVal cs with
  | some s=>some (gSt s&&(Nat.blt l.length 1000000&&l.all gCa),.tup [.agg (cSt (playS s l)),.fl .reply (playR s l)])
  | none=>none)
 | _=>none
def c78:ClS:=addG 4 G_play c77
theorem snd78:SoundS Tryz.prog c78:=add_gn snd77 mix ok_play (.tup [shSt,.lst .reply]) G_play fun xs r h=>by
 unfold G_play at h
 split at h<;>first | (cases h;done) | skip
 rename_i cs l
 cases hs:stVal cs with
 | none=>rw [hs] at h;cases h
 | some s =>
  rw [hs] at h
  obtain⟨hg,rfl⟩:=Prod.mk.inj (Option.some.inj h)
  rw [Bool.and_eq_true,Bool.and_eq_true] at hg
  rw [← stVal_inv hs]
  exact⟨rfl,_,run_play s l (gSt_to hg.1) (blt_iff.1 hg.2.1) hg.2.2⟩
end
end Go.Proofs.YtbknmeafcbhicaaGreatDoor.Ev

/- Functions as the machine for symbols has them; they are the program's. Written by program (sytold.py). -/
namespace Go.Proofs.YtbknmeafcbhicaaGreatDoor.Ev
open Go Z
set_option maxRecDepth 100000
def l1_few:List Path:=[q0,q1,q5,q6]
def b1_few:SC:=(s (s (r [m q8 q6 0,m q9 q0 0,o q10 .len [.t q9] 2,o q11 (.bin .lss) [.t q8,.t q10] 7,m q12 q11 15,g q13 .mov [.t q6] q12 true 31,g q14 .mov [.t q1] q12 true 31,g q15 (.bin .lss) [.t q13,.t q14] q12 true 127,o q16 .pick [.t q12,.t q15,.c (.bool false)] 255]) (c q16 .skip (.exit 0))) (s (.blk 1 (s (r [m q19 q0 0,m q20 q6 0,o q21 (.ixs 17) [.t q19,.t q20] 3,o q22 (.ldn 17) [.t q21] 7,o q7 (.new [(.int .i64 (0)),(.int .i64 (0)),(.int .i64 (0)),(.str []),(.int .i64 (0)),(.str []),(.int .i64 (0)),(.int .i64 (0)),(.int .i64 (0)),(.int .i64 (0)),(.int .i64 (0)),(.int .i64 (0)),(.int .i64 (0)),.nilsl,(.str []),(.int .i64 (0)),(.int .i64 (0))]) [] 0,u (.st 17) [.t q7,.t q22] 31]) (s (s (r [o q23 (.fad 2) [.t q7] 0,o q24 (.fad 11) [.t q23] 1,o q25 .ld1 [.t q24] 3,o q26 .len [.t q25] 7,o q27 (.bin .gtr) [.t q26,i 15] 15]) (c q27 (r [o q28 (.fad 2) [.t q7] 0,o q29 (.fad 11) [.t q28] 1,o q30 .ld1 [.t q29] 3,o q31 (.slc 4 false true) [.t q30,i 15] 7,o q32 (.fad 2) [.t q7] 15,o q33 (.fad 11) [.t q32] 31,u (.st 1) [.t q33,.t q31] 63]) .skip)) (r [m q34 q5 0,o q35 (.ldn 17) [.t q7] 0,o q36 (.bsl [(.int .i64 (0)),(.int .i64 (0)),(.int .i64 (0)),(.str []),(.int .i64 (0)),(.str []),(.int .i64 (0)),(.int .i64 (0)),(.int .i64 (0)),(.int .i64 (0)),(.int .i64 (0)),(.int .i64 (0)),(.int .i64 (0)),.nilsl,(.str []),(.int .i64 (0)),(.int .i64 (0))] 1 17 [(0,17)]) [.t q35] 2,⟨⟨q37,(.app 17 176),[.t q34,.t q36],none,7⟩,(.ty .call 0)⟩,m q5 q37 15])))) (r [m q17 q6 0,o q18 (.bin .add) [.t q17,i 1] 1,m q6 q18 3])))
def a1_few:SC:=(s (r [m q38 q5 0,m q4 q38 1]) .ret)
def s_few:FnS:=⟨39,(s (r [o q4 .mov [.c .nilsl] 0]) (s (r [o q5 .mov [.c .nilsl] 0]) (s (s (r [o q6 .mov [i 0] 0]) (.blk 0 (.loop l1_few 0 b1_few))) a1_few))),[.t q4]⟩
def k1_few {β:Type} (cl:ClS) (L:Nat) (K:AV→Mem→Option β):Ex→T AV→Mem→Option β:=kBlk 0 (kSeq (evS cl L a1_few) (endS s_few.res K))
theorem ok_few:FnOkS Tryz.prog 6 s_few:=fnOkS_of Tryz.func6 (by kernel_rfl) (by kernel_rfl) Tryz.ntmps6 (by kernel_rfl) (by kernel_rfl)
def l1_expired:List Path:=[q1,q5,q7,q8]
def b1_expired:SC:=(s (s (r [m q19 q8 0,o q20 (.fad 4) [.t q5] 0,o q21 .ld1 [.t q20] 2,o q22 .len [.t q21] 6,o q23 (.bin .lss) [.t q19,.t q22] 15]) (c q23 .skip (.exit 0))) (s (.blk 1 (r [m q26 q7 0,m q27 q26 1,g q28 (.fad 4) [.t q5] q27 false 3,g q29 .ld1 [.t q28] q27 false 7,g q30 .mov [.t q8] q27 false 3,g q31 (.ixs 5) [.t q29,.t q30] q27 false 31,g q32 (.fad 0) [.t q31] q27 false 63,g q33 .ld1 [.t q32] q27 false 127,g q34 .mov [.t q1] q27 false 3,g q35 (.bin .eql) [.t q33,.t q34] q27 false 511,o q36 .pick [.t q27,.c (.bool true),.t q35] 1023,m q7 q36 2047])) (r [m q24 q8 0,o q25 (.bin .add) [.t q24,i 1] 1,m q8 q25 3])))
def a1_expired:SC:=(s (r [m q37 q1 0,o q38 (.build [(.int .i64 (0)),(.str []),(.int .i64 (0)),(.str []),(.int .i64 (0)),(.int .i64 (0)),(.int .i64 (0)),(.int .i64 (0)),(.int .i64 (0)),(.int .i64 (0)),(.int .i64 (0)),.nilsl,(.str []),(.int .i64 (0)),(.int .i64 (0))] [(0,1),(1,1)]) [i 8,.c (.str [97])] 0,o q39 (.build [(.int .i64 (0)),(.int .i64 (0)),(.int .i64 (0)),(.str []),(.int .i64 (0)),(.str []),(.int .i64 (0)),(.int .i64 (0)),(.int .i64 (0)),(.int .i64 (0)),(.int .i64 (0)),(.int .i64 (0)),(.int .i64 (0)),.nilsl,(.str []),(.int .i64 (0)),(.int .i64 (0))] [(0,1),(1,1),(2,15)]) [.t q37,i 1,.t q38] 3,o q9 (.new [(.int .i64 (0)),(.int .i64 (0)),(.int .i64 (0)),(.str []),(.int .i64 (0)),(.str []),(.int .i64 (0)),(.int .i64 (0)),(.int .i64 (0)),(.int .i64 (0)),(.int .i64 (0)),(.int .i64 (0)),(.int .i64 (0)),.nilsl,(.str []),(.int .i64 (0)),(.int .i64 (0))]) [] 0,u (.st 17) [.t q9,.t q39] 15]) (s (r [o q41 (.ldn 6) [.t q5] 0,o q42 (.ldn 17) [.t q9] 0,o q43 (.call 7) [.t q41,.t q42] 3,m q40 q43 7,o q44 (.ext 0) [.t q40] 15,o q45 (.ext 1) [.t q40] 15,o q10 (.new [.nilsl,.nilsl,.nilsl,.nilsl,.nilsl,(.int .i64 (0))]) [] 0,o q11 (.new [(.int .i64 (0)),(.int .i64 (0)),(.int .i64 (0))]) [] 0,u (.st 6) [.t q10,.t q44] 223,u (.st 3) [.t q11,.t q45] 511]) (s (s (r [m q46 q7 0]) (c q46 (s (r [o q47 (.fad 0) [.t q11] 0,o q48 .ld1 [.t q47] 1,o q49 (.bin .neq) [.t q48,i 15] 3,m q50 q49 7,g q51 (.call 8) [] q50 true 15,o q52 .pick [.t q50,.t q51,.c (.bool false)] 31,m q4 q52 63]) .ret) .skip)) (s (r [o q53 (.fad 0) [.t q11] 0,o q54 .ld1 [.t q53] 1,o q55 (.bin .eql) [.t q54,i 15] 3,m q56 q55 7,g q57 (.ldn 6) [.t q5] q56 true 15,g q58 (.ldn 6) [.t q10] q56 true 15,g q59 (.call 9) [.t q57,.t q58] q56 true 63,o q60 .pick [.t q56,.t q59,.c (.bool false)] 127,m q61 q60 255,g q62 (.call 8) [] q61 true 511,o q63 .pick [.t q61,.t q62,.c (.bool false)] 1023,m q4 q63 2047]) .ret))))
def s_expired:FnS:=⟨64,(s (r [o q4 .mov [.c (.bool false)] 0]) (s (r [o q13 (.call 5) [] 0,m q14 q0 0,o q15 (.call 6) [.t q14,i 40] 3,o q16 (.call 4) [.t q13,.t q15] 7,m q12 q16 15,o q17 (.ext 0) [.t q12] 31,o q18 (.ext 1) [.t q12] 31,o q5 (.new [.nilsl,.nilsl,.nilsl,.nilsl,.nilsl,(.int .i64 (0))]) [] 0,u (.st 6) [.t q5,.t q17] 191,m q6 q18 511]) (s (r [o q7 .mov [.c (.bool false)] 0]) (s (s (r [o q8 .mov [i 0] 0]) (.blk 0 (.loop l1_expired 0 b1_expired))) a1_expired)))),[.t q4]⟩
def k1_expired {β:Type} (cl:ClS) (L:Nat) (K:AV→Mem→Option β):Ex→T AV→Mem→Option β:=kBlk 0 (kSeq (evS cl L a1_expired) (endS s_expired.res K))
theorem ok_expired:FnOkS Tryz.prog 3 s_expired:=fnOkS_of Tryz.func3 (by kernel_rfl) (by kernel_rfl) Tryz.ntmps3 (by kernel_rfl) (by kernel_rfl)
def s_states:FnS:=⟨45,(s (r [o q2 .box [.t q0] 0,o q3 .box [.t q1] 0,o q4 .mov [.c (.bool false)] 0]) (s (r [o q5 (.fad 0) [.t q2] 0,o q6 .ld1 [.t q5] 1,o q7 (.fad 0) [.t q3] 0,o q8 .ld1 [.t q7] 4,o q9 (.call 19) [.t q6,.t q8] 15,m q10 q9 31,g q11 (.fad 1) [.t q2] q10 true 63,g q12 .ld1 [.t q11] q10 true 127,g q13 (.fad 1) [.t q3] q10 true 63,g q14 .ld1 [.t q13] q10 true 319,g q15 (.call 20) [.t q12,.t q14] q10 true 1023,o q16 .pick [.t q10,.t q15,.c (.bool false)] 2047,m q17 q16 4095,g q18 (.fad 2) [.t q2] q17 true 8191,g q19 .ld1 [.t q18] q17 true 16383,g q20 (.fad 2) [.t q3] q17 true 8191,g q21 .ld1 [.t q20] q17 true 40959,g q22 (.call 21) [.t q19,.t q21] q17 true 131071,o q23 .pick [.t q17,.t q22,.c (.bool false)] 262143,m q24 q23 524287,g q25 (.fad 3) [.t q2] q24 true 1048575,g q26 .ld1 [.t q25] q24 true 2097151,g q27 (.fad 3) [.t q3] q24 true 1048575,g q28 .ld1 [.t q27] q24 true 5242879,g q29 (.call 22) [.t q26,.t q28] q24 true 16777215,o q30 .pick [.t q24,.t q29,.c (.bool false)] 33554431,m q31 q30 67108863,g q32 (.fad 4) [.t q2] q31 true 134217727,g q33 .ld1 [.t q32] q31 true 268435455,g q34 (.fad 4) [.t q3] q31 true 134217727,g q35 .ld1 [.t q34] q31 true 671088639,g q36 (.call 23) [.t q33,.t q35] q31 true 2147483647,o q37 .pick [.t q31,.t q36,.c (.bool false)] 4294967295,m q38 q37 8589934591,g q39 (.fad 5) [.t q2] q38 true 17179869183,g q40 .ld1 [.t q39] q38 true 34359738367,g q41 (.fad 5) [.t q3] q38 true 17179869183,g q42 .ld1 [.t q41] q38 true 85899345919,g q43 (.bin .eql) [.t q40,.t q42] q38 true 274877906943,o q44 .pick [.t q38,.t q43,.c (.bool false)] 549755813887,m q4 q44 1099511627775]) .ret)),[.t q4]⟩
theorem ok_states:FnOkS Tryz.prog 9 s_states:=fnOkS_of Tryz.func9 (by kernel_rfl) (by kernel_rfl) Tryz.ntmps9 (by kernel_rfl) (by kernel_rfl)
def l1_sPosted:List Path:=[q0,q1,q5]
def b1_sPosted:SC:=(s (s (r [m q11 q5 0,m q12 q0 0,o q13 .len [.t q12] 2,o q14 (.bin .lss) [.t q11,.t q13] 7]) (c q14 .skip (.exit 0))) (s (.blk 1 (s (d [m q17 q0 0,m q18 q5 0,o q19 (.ixs 12) [.t q17,.t q18] 3,o q20 (.fad 0) [.t q19] 7,o q21 (.ldn 2) [.t q20] 15,m q22 q1 0,m q23 q5 0,o q24 (.ixs 12) [.t q22,.t q23] 96,o q25 (.fad 0) [.t q24] 224,o q26 (.ldn 2) [.t q25] 480,o q27 (.eqa true [(0,.str),(1,.int)]) [.t q21,.t q26] 1023,m q28 q27 2047,g q29 .mov [.t q0] q28 false 4095,g q30 .mov [.t q5] q28 false 4095,g q31 (.ixs 12) [.t q29,.t q30] q28 false 16383,g q32 (.fad 2) [.t q31] q28 false 32767,g q33 (.ldn 3) [.t q32] q28 false 65535,g q34 .mov [.t q1] q28 false 4095,g q35 .mov [.t q5] q28 false 4095,g q36 (.ixs 12) [.t q34,.t q35] q28 false 397311,g q37 (.fad 2) [.t q36] q28 false 921599,g q38 (.ldn 3) [.t q37] q28 false 1970175,g q39 (.eqa true [(0,.int),(1,.int),(2,.int)]) [.t q33,.t q38] q28 false 4194303,o q40 .pick [.t q28,.c (.bool true),.t q39] 8388607,m q41 q40 16777215,g q42 .mov [.t q0] q41 false 33554431,g q43 .mov [.t q5] q41 false 33554431,g q44 (.ixs 12) [.t q42,.t q43] q41 false 134217727,g q45 (.fad 9) [.t q44] q41 false 268435455,g q46 (.ldn 2) [.t q45] q41 false 536870911,g q47 .mov [.t q1] q41 false 33554431,g q48 .mov [.t q5] q41 false 33554431,g q49 (.ixs 12) [.t q47,.t q48] q41 false 3254779903,g q50 (.fad 9) [.t q49] q41 false 7549747199,g q51 (.ldn 2) [.t q50] q41 false 16139681791,g q52 (.eqa true [(0,.str),(1,.int)]) [.t q46,.t q51] q41 false 34359738367,o q53 .pick [.t q41,.c (.bool true),.t q52] 68719476735,m q54 q53 137438953471,g q55 .mov [.t q0] q54 false 274877906943,g q56 .mov [.t q5] q54 false 274877906943,g q57 (.ixs 12) [.t q55,.t q56] q54 false 1099511627775,g q58 (.fad 11) [.t q57] q54 false 2199023255551,g q59 .ld1 [.t q58] q54 false 4398046511103,g q60 .mov [.t q1] q54 false 274877906943,g q61 .mov [.t q5] q54 false 274877906943,g q62 (.ixs 12) [.t q60,.t q61] q54 false 26663156973567,g q63 (.fad 11) [.t q62] q54 false 61847529062399,g q64 .ld1 [.t q63] q54 false 132216273240063,g q65 (.eqk true .b) [.t q59,.t q64] q54 false 281474976710655,o q66 .pick [.t q54,.c (.bool true),.t q65] 562949953421311,m q67 q66 1125899906842623,g q68 .mov [.t q0] q67 false 2251799813685247,g q69 .mov [.t q5] q67 false 2251799813685247,g q70 (.ixs 12) [.t q68,.t q69] q67 false 9007199254740991,g q71 (.fad 5) [.t q70] q67 false 18014398509481983,g q72 (.ldn 4) [.t q71] q67 false 36028797018963967,g q73 .mov [.t q1] q67 false 2251799813685247,g q74 .mov [.t q5] q67 false 2251799813685247,g q75 (.ixs 12) [.t q73,.t q74] q67 false 218424581927469055,g q76 (.fad 5) [.t q75] q67 false 506654958079180799,g q77 (.ldn 4) [.t q76] q67 false 1083115710382604287,g q78 (.call 52) [.t q72,.t q77] q67 false 2305843009213693951,g q79 (.un .not) [.t q78] q67 false 4611686018427387903,o q80 .pick [.t q67,.c (.bool true),.t q79] 9223372036854775807]) (c q80 (s (r [o q4 .mov [.c (.bool false)] 0]) .ret) .skip))) (r [m q15 q5 0,o q16 (.bin .add) [.t q15,i 1] 1,m q5 q16 3])))
def a1_sPosted:SC:=(s (r [o q4 .mov [.c (.bool true)] 0]) .ret)
def s_sPosted:FnS:=⟨81,(s (r [o q4 .mov [.c (.bool false)] 0]) (s (s (r [m q6 q0 0,o q7 .len [.t q6] 1,m q8 q1 0,o q9 .len [.t q8] 4,o q10 (.bin .neq) [.t q7,.t q9] 15]) (c q10 (s (r [o q4 .mov [.c (.bool false)] 0]) .ret) .skip)) (s (s (r [o q5 .mov [i 0] 0]) (.blk 0 (.loop l1_sPosted 0 b1_sPosted))) a1_sPosted))),[.t q4]⟩
def k1_sPosted {β:Type} (cl:ClS) (L:Nat) (K:AV→Mem→Option β):Ex→T AV→Mem→Option β:=kBlk 0 (kSeq (evS cl L a1_sPosted) (endS s_sPosted.res K))
theorem ok_sPosted:FnOkS Tryz.prog 21 s_sPosted:=fnOkS_of Tryz.func21 (by kernel_rfl) (by kernel_rfl) Tryz.ntmps21 (by kernel_rfl) (by kernel_rfl)
def s_sTotals:FnS:=⟨31,(s (r [o q2 .box [.t q0] 0,o q3 .box [.t q1] 0,o q4 .mov [.c (.bool false)] 0]) (s (r [o q5 (.fad 0) [.t q2] 0,o q6 .ld1 [.t q5] 1,o q7 (.fad 0) [.t q3] 0,o q8 .ld1 [.t q7] 4,o q9 (.bin .eql) [.t q6,.t q8] 15,m q10 q9 31,g q11 (.fad 1) [.t q2] q10 true 63,g q12 .ld1 [.t q11] q10 true 127,g q13 (.fad 1) [.t q3] q10 true 63,g q14 .ld1 [.t q13] q10 true 319,g q15 (.bin .eql) [.t q12,.t q14] q10 true 1023,o q16 .pick [.t q10,.t q15,.c (.bool false)] 2047,m q17 q16 4095,g q18 (.fad 2) [.t q2] q17 true 8191,g q19 .ld1 [.t q18] q17 true 16383,g q20 (.fad 2) [.t q3] q17 true 8191,g q21 .ld1 [.t q20] q17 true 40959,g q22 (.bin .eql) [.t q19,.t q21] q17 true 131071,o q23 .pick [.t q17,.t q22,.c (.bool false)] 262143,m q24 q23 524287,g q25 (.fad 3) [.t q2] q24 true 1048575,g q26 .ld1 [.t q25] q24 true 2097151,g q27 (.fad 3) [.t q3] q24 true 1048575,g q28 .ld1 [.t q27] q24 true 5242879,g q29 (.call 89) [.t q26,.t q28] q24 true 16777215,o q30 .pick [.t q24,.t q29,.c (.bool false)] 33554431,m q4 q30 67108863]) .ret)),[.t q4]⟩
theorem ok_sTotals:FnOkS Tryz.prog 52 s_sTotals:=fnOkS_of Tryz.func52 (by kernel_rfl) (by kernel_rfl) Tryz.ntmps52 (by kernel_rfl) (by kernel_rfl)
def l1_sameRt:List Path:=[q0,q1,q5]
def b1_sameRt:SC:=(s (s (r [m q11 q5 0,m q12 q0 0,o q13 .len [.t q12] 2,o q14 (.bin .lss) [.t q11,.t q13] 7]) (c q14 .skip (.exit 0))) (s (.blk 1 (s (d [m q17 q0 0,m q18 q5 0,o q19 (.ixs 5) [.t q17,.t q18] 3,o q20 (.ldn 5) [.t q19] 7,m q21 q1 0,m q22 q5 0,o q23 (.ixs 5) [.t q21,.t q22] 48,o q24 (.ldn 5) [.t q23] 112,o q25 (.eqa true [(0,.str),(1,.int),(2,.int),(3,.int),(4,.int)]) [.t q20,.t q24] 255]) (c q25 (s (r [o q4 .mov [.c (.bool false)] 0]) .ret) .skip))) (r [m q15 q5 0,o q16 (.bin .add) [.t q15,i 1] 1,m q5 q16 3])))
def a1_sameRt:SC:=(s (r [o q4 .mov [.c (.bool true)] 0]) .ret)
def s_sameRt:FnS:=⟨26,(s (r [o q4 .mov [.c (.bool false)] 0]) (s (s (r [m q6 q0 0,o q7 .len [.t q6] 1,m q8 q1 0,o q9 .len [.t q8] 4,o q10 (.bin .neq) [.t q7,.t q9] 15]) (c q10 (s (r [o q4 .mov [.c (.bool false)] 0]) .ret) .skip)) (s (s (r [o q5 .mov [i 0] 0]) (.blk 0 (.loop l1_sameRt 0 b1_sameRt))) a1_sameRt))),[.t q4]⟩
def k1_sameRt {β:Type} (cl:ClS) (L:Nat) (K:AV→Mem→Option β):Ex→T AV→Mem→Option β:=kBlk 0 (kSeq (evS cl L a1_sameRt) (endS s_sameRt.res K))
theorem ok_sameRt:FnOkS Tryz.prog 19 s_sameRt:=fnOkS_of Tryz.func19 (by kernel_rfl) (by kernel_rfl) Tryz.ntmps19 (by kernel_rfl) (by kernel_rfl)
def l1_sameSr:List Path:=[q0,q1,q5]
def b1_sameSr:SC:=(s (s (r [m q11 q5 0,m q12 q0 0,o q13 .len [.t q12] 2,o q14 (.bin .lss) [.t q11,.t q13] 7]) (c q14 .skip (.exit 0))) (s (.blk 1 (s (d [m q17 q0 0,m q18 q5 0,o q19 (.ixs 4) [.t q17,.t q18] 3,o q20 (.ldn 4) [.t q19] 7,m q21 q1 0,m q22 q5 0,o q23 (.ixs 4) [.t q21,.t q22] 48,o q24 (.ldn 4) [.t q23] 112,o q25 (.eqa true [(0,.str),(1,.int),(2,.int),(3,.bool)]) [.t q20,.t q24] 255]) (c q25 (s (r [o q4 .mov [.c (.bool false)] 0]) .ret) .skip))) (r [m q15 q5 0,o q16 (.bin .add) [.t q15,i 1] 1,m q5 q16 3])))
def a1_sameSr:SC:=(s (r [o q4 .mov [.c (.bool true)] 0]) .ret)
def s_sameSr:FnS:=⟨26,(s (r [o q4 .mov [.c (.bool false)] 0]) (s (s (r [m q6 q0 0,o q7 .len [.t q6] 1,m q8 q1 0,o q9 .len [.t q8] 4,o q10 (.bin .neq) [.t q7,.t q9] 15]) (c q10 (s (r [o q4 .mov [.c (.bool false)] 0]) .ret) .skip)) (s (s (r [o q5 .mov [i 0] 0]) (.blk 0 (.loop l1_sameSr 0 b1_sameSr))) a1_sameSr))),[.t q4]⟩
def k1_sameSr {β:Type} (cl:ClS) (L:Nat) (K:AV→Mem→Option β):Ex→T AV→Mem→Option β:=kBlk 0 (kSeq (evS cl L a1_sameSr) (endS s_sameSr.res K))
theorem ok_sameSr:FnOkS Tryz.prog 20 s_sameSr:=fnOkS_of Tryz.func20 (by kernel_rfl) (by kernel_rfl) Tryz.ntmps20 (by kernel_rfl) (by kernel_rfl)
def l1_sameBal:List Path:=[q0,q1,q5]
def b1_sameBal:SC:=(s (s (r [m q11 q5 0,m q12 q0 0,o q13 .len [.t q12] 2,o q14 (.bin .lss) [.t q11,.t q13] 7]) (c q14 .skip (.exit 0))) (s (.blk 1 (s (d [m q17 q0 0,m q18 q5 0,o q19 (.ixs 2) [.t q17,.t q18] 3,o q20 (.ldn 2) [.t q19] 7,m q21 q1 0,m q22 q5 0,o q23 (.ixs 2) [.t q21,.t q22] 48,o q24 (.ldn 2) [.t q23] 112,o q25 (.eqa true [(0,.str),(1,.int)]) [.t q20,.t q24] 255]) (c q25 (s (r [o q4 .mov [.c (.bool false)] 0]) .ret) .skip))) (r [m q15 q5 0,o q16 (.bin .add) [.t q15,i 1] 1,m q5 q16 3])))
def a1_sameBal:SC:=(s (r [o q4 .mov [.c (.bool true)] 0]) .ret)
def s_sameBal:FnS:=⟨26,(s (r [o q4 .mov [.c (.bool false)] 0]) (s (s (r [m q6 q0 0,o q7 .len [.t q6] 1,m q8 q1 0,o q9 .len [.t q8] 4,o q10 (.bin .neq) [.t q7,.t q9] 15]) (c q10 (s (r [o q4 .mov [.c (.bool false)] 0]) .ret) .skip)) (s (s (r [o q5 .mov [i 0] 0]) (.blk 0 (.loop l1_sameBal 0 b1_sameBal))) a1_sameBal))),[.t q4]⟩
def k1_sameBal {β:Type} (cl:ClS) (L:Nat) (K:AV→Mem→Option β):Ex→T AV→Mem→Option β:=kBlk 0 (kSeq (evS cl L a1_sameBal) (endS s_sameBal.res K))
theorem ok_sameBal:FnOkS Tryz.prog 22 s_sameBal:=fnOkS_of Tryz.func22 (by kernel_rfl) (by kernel_rfl) Tryz.ntmps22 (by kernel_rfl) (by kernel_rfl)
def l1_sameSes:List Path:=[q0,q1,q5]
def b1_sameSes:SC:=(s (s (r [m q11 q5 0,m q12 q0 0,o q13 .len [.t q12] 2,o q14 (.bin .lss) [.t q11,.t q13] 7]) (c q14 .skip (.exit 0))) (s (.blk 1 (s (d [m q17 q0 0,m q18 q5 0,o q19 (.ixs 5) [.t q17,.t q18] 3,o q20 (.ldn 5) [.t q19] 7,m q21 q1 0,m q22 q5 0,o q23 (.ixs 5) [.t q21,.t q22] 48,o q24 (.ldn 5) [.t q23] 112,o q25 (.eqa true [(0,.int),(1,.int),(2,.int),(3,.int),(4,.int)]) [.t q20,.t q24] 255]) (c q25 (s (r [o q4 .mov [.c (.bool false)] 0]) .ret) .skip))) (r [m q15 q5 0,o q16 (.bin .add) [.t q15,i 1] 1,m q5 q16 3])))
def a1_sameSes:SC:=(s (r [o q4 .mov [.c (.bool true)] 0]) .ret)
def s_sameSes:FnS:=⟨26,(s (r [o q4 .mov [.c (.bool false)] 0]) (s (s (r [m q6 q0 0,o q7 .len [.t q6] 1,m q8 q1 0,o q9 .len [.t q8] 4,o q10 (.bin .neq) [.t q7,.t q9] 15]) (c q10 (s (r [o q4 .mov [.c (.bool false)] 0]) .ret) .skip)) (s (s (r [o q5 .mov [i 0] 0]) (.blk 0 (.loop l1_sameSes 0 b1_sameSes))) a1_sameSes))),[.t q4]⟩
def k1_sameSes {β:Type} (cl:ClS) (L:Nat) (K:AV→Mem→Option β):Ex→T AV→Mem→Option β:=kBlk 0 (kSeq (evS cl L a1_sameSes) (endS s_sameSes.res K))
theorem ok_sameSes:FnOkS Tryz.prog 23 s_sameSes:=fnOkS_of Tryz.func23 (by kernel_rfl) (by kernel_rfl) Tryz.ntmps23 (by kernel_rfl) (by kernel_rfl)
def l1_samePt:List Path:=[q0,q1,q5]
def b1_samePt:SC:=(s (s (r [m q11 q5 0,m q12 q0 0,o q13 .len [.t q12] 2,o q14 (.bin .lss) [.t q11,.t q13] 7]) (c q14 .skip (.exit 0))) (s (.blk 1 (s (d [m q17 q0 0,m q18 q5 0,o q19 (.ixs 4) [.t q17,.t q18] 3,o q20 (.ldn 4) [.t q19] 7,m q21 q1 0,m q22 q5 0,o q23 (.ixs 4) [.t q21,.t q22] 48,o q24 (.ldn 4) [.t q23] 112,o q25 (.eqa true [(0,.str),(1,.int),(2,.int),(3,.int)]) [.t q20,.t q24] 255]) (c q25 (s (r [o q4 .mov [.c (.bool false)] 0]) .ret) .skip))) (r [m q15 q5 0,o q16 (.bin .add) [.t q15,i 1] 1,m q5 q16 3])))
def a1_samePt:SC:=(s (r [o q4 .mov [.c (.bool true)] 0]) .ret)
def s_samePt:FnS:=⟨26,(s (r [o q4 .mov [.c (.bool false)] 0]) (s (s (r [m q6 q0 0,o q7 .len [.t q6] 1,m q8 q1 0,o q9 .len [.t q8] 4,o q10 (.bin .neq) [.t q7,.t q9] 15]) (c q10 (s (r [o q4 .mov [.c (.bool false)] 0]) .ret) .skip)) (s (s (r [o q5 .mov [i 0] 0]) (.blk 0 (.loop l1_samePt 0 b1_samePt))) a1_samePt))),[.t q4]⟩
def k1_samePt {β:Type} (cl:ClS) (L:Nat) (K:AV→Mem→Option β):Ex→T AV→Mem→Option β:=kBlk 0 (kSeq (evS cl L a1_samePt) (endS s_samePt.res K))
theorem ok_samePt:FnOkS Tryz.prog 89 s_samePt:=fnOkS_of Tryz.func89 (by kernel_rfl) (by kernel_rfl) Tryz.ntmps89 (by kernel_rfl) (by kernel_rfl)
end Go.Proofs.YtbknmeafcbhicaaGreatDoor.Ev

/- The law's own functions: what is held against itself is the same; few calls. -/
namespace Go.Proofs.YtbknmeafcbhicaaGreatDoor.Ev
open Go
noncomputable section
theorem bEq_self (x:ByteArray):bytesEq x.data.toList x.data.toList=true:=by rw [beq_bytes];exact decide_eq_true rfl
theorem eqI_self (x:Int):eqI x x=true:=eq_true' rfl
def sRtx (x:bil.Rt):Bool:=bytesEq x.cat.data.toList x.cat.data.toList&&(eqI x.fr.y x.fr.y&&(eqI x.fr.m x.fr.m&&(eqI x.fr.d x.fr.d&&(eqI x.bp x.bp&&true))))
theorem sRtx_eq (x:bil.Rt):sRtx x=true:=by
 unfold sRtx
 simp only [bEq_self,eqI_self,Bool.and_true,Bool.and_self]
def lpRtx (L L':Nat) (s:List bil.Rt) (n:Int):Option AV:=loopS (evS c78 L b1_sameRt) l1_sameRt 0 L' (stL [(q0,.fl .rate s),(q1,.fl .rate s),(q5,i64 n)]) m0 (k1_sameRt c78 L fun r m=>frzK m .any r some)
theorem round_sameRt (L L' n:Nat) (s:List bil.Rt):lpRtx L (Nat.succ L') s (.ofNat n)=bif ltI (.ofNat n) (.ofNat s.length) then bif inI (.ofNat n) s.length then bif inI (.ofNat n) s.length then bif (bif true then !sRtx (nth (t:=.rate) s n) else sRtx (nth (t:=.rate) s n)) then some (.bool false) else lpRtx L L' s (wrapK .i64 (.ofNat n+1)) else none else none else some (.bool true):=by kernel_rfl
theorem loop_sameRt (L:Nat) (s:List bil.Rt) (hl:s.length < 1000000):∀ (t:List bil.Rt) (n f:Nat),s.drop n=t→n≤s.length→t.length < f→lpRtx L f s (.ofNat n)=some (.bool true)
 | t,n,0,_,_,hf=>by omega
 | [],n,f+1,hd,hn,hf=>by
  rw [round_sameRt,drop_nil hd hn,le_nat (Nat.le_refl _),cond_false]
 | x::t,n,f+1,hd,hn,hf=>by
  obtain⟨h1,h2,h3⟩:=drop_cons (t:=.rate) hd
  have ih:=loop_sameRt L s hl t (n+1) f h3 (by omega) (by simp at hf;omega)
  rw [round_sameRt,lt_nat h1,cond_true,in_nat h1,cond_true,cond_true,cond_true,sRtx_eq,Bool.not_true,cond_false,wrap_succ (by omega),ih]
def G_sameRt:List AV→Option (Bool × AV)
 | [.fl .rate l,.fl .rate l']=>some (@decide (l=l') (Classical.propDecidable _)&&Nat.blt l.length 1000000,.bool true)
 | _=>none
def c79:ClS:=addG 19 G_sameRt c78
theorem snd79:SoundS Tryz.prog c79:=add_gn snd78 mix ok_sameRt .any G_sameRt fun xs r h=>by
 unfold G_sameRt at h
 split at h<;>first | (cases h;done) | skip
 rename_i l l'
 obtain⟨hg,rfl⟩:=Prod.mk.inj (Option.some.inj h)
 rw [Bool.and_eq_true] at hg
 have he:l=l':=dec_true hg.1
 subst he
 have e:∀ L,callF c78 L s_sameRt .any [.fl .rate l,.fl .rate l] some=bif !eqI (.ofNat l.length) (.ofNat l.length) then some (.bool false) else lpRtx L L l (.ofNat 0):=fun L=>by kernel_rfl
 have hl:=blt_iff.1 hg.2
 refine⟨rfl,l.length+1,?_⟩
 rw [e,eqI_self,Bool.not_true,cond_false,loop_sameRt _ l hl l 0 _ rfl (by omega) (by omega)]
def sSrx (x:bil.Sr):Bool:=bytesEq x.name.data.toList x.name.data.toList&&(eqI x.next x.next&&(eqI x.limit x.limit&&((bif x.shut then x.shut else !x.shut)&&true)))
theorem sSrx_eq (x:bil.Sr):sSrx x=true:=by
 unfold sSrx
 simp only [bEq_self,eqI_self,Bool.and_true,Bool.and_self]
 cases x.shut<;>rfl
def lpSrx (L L':Nat) (s:List bil.Sr) (n:Int):Option AV:=loopS (evS c79 L b1_sameSr) l1_sameSr 0 L' (stL [(q0,.fl .series s),(q1,.fl .series s),(q5,i64 n)]) m0 (k1_sameSr c79 L fun r m=>frzK m .any r some)
theorem round_sameSr (L L' n:Nat) (s:List bil.Sr):lpSrx L (Nat.succ L') s (.ofNat n)=bif ltI (.ofNat n) (.ofNat s.length) then bif inI (.ofNat n) s.length then bif inI (.ofNat n) s.length then bif (bif true then !sSrx (nth (t:=.series) s n) else sSrx (nth (t:=.series) s n)) then some (.bool false) else lpSrx L L' s (wrapK .i64 (.ofNat n+1)) else none else none else some (.bool true):=by kernel_rfl
theorem loop_sameSr (L:Nat) (s:List bil.Sr) (hl:s.length < 1000000):∀ (t:List bil.Sr) (n f:Nat),s.drop n=t→n≤s.length→t.length < f→lpSrx L f s (.ofNat n)=some (.bool true)
 | t,n,0,_,_,hf=>by omega
 | [],n,f+1,hd,hn,hf=>by
  rw [round_sameSr,drop_nil hd hn,le_nat (Nat.le_refl _),cond_false]
 | x::t,n,f+1,hd,hn,hf=>by
  obtain⟨h1,h2,h3⟩:=drop_cons (t:=.series) hd
  have ih:=loop_sameSr L s hl t (n+1) f h3 (by omega) (by simp at hf;omega)
  rw [round_sameSr,lt_nat h1,cond_true,in_nat h1,cond_true,cond_true,cond_true,sSrx_eq,Bool.not_true,cond_false,wrap_succ (by omega),ih]
def G_sameSr:List AV→Option (Bool × AV)
 | [.fl .series l,.fl .series l']=>some (@decide (l=l') (Classical.propDecidable _)&&Nat.blt l.length 1000000,.bool true)
 | _=>none
def c80:ClS:=addG 20 G_sameSr c79
theorem snd80:SoundS Tryz.prog c80:=add_gn snd79 mix ok_sameSr .any G_sameSr fun xs r h=>by
 unfold G_sameSr at h
 split at h<;>first | (cases h;done) | skip
 rename_i l l'
 obtain⟨hg,rfl⟩:=Prod.mk.inj (Option.some.inj h)
 rw [Bool.and_eq_true] at hg
 have he:l=l':=dec_true hg.1
 subst he
 have e:∀ L,callF c79 L s_sameSr .any [.fl .series l,.fl .series l] some=bif !eqI (.ofNat l.length) (.ofNat l.length) then some (.bool false) else lpSrx L L l (.ofNat 0):=fun L=>by kernel_rfl
 have hl:=blt_iff.1 hg.2
 refine⟨rfl,l.length+1,?_⟩
 rw [e,eqI_self,Bool.not_true,cond_false,loop_sameSr _ l hl l 0 _ rfl (by omega) (by omega)]
def sBalx (x:bil.Bal):Bool:=bytesEq x.acc.data.toList x.acc.data.toList&&(eqI x.amt x.amt&&true)
theorem sBalx_eq (x:bil.Bal):sBalx x=true:=by
 unfold sBalx
 simp only [bEq_self,eqI_self,Bool.and_true,Bool.and_self]
def lpBalx (L L':Nat) (s:List bil.Bal) (n:Int):Option AV:=loopS (evS c80 L b1_sameBal) l1_sameBal 0 L' (stL [(q0,.fl .bal s),(q1,.fl .bal s),(q5,i64 n)]) m0 (k1_sameBal c80 L fun r m=>frzK m .any r some)
theorem round_sameBal (L L' n:Nat) (s:List bil.Bal):lpBalx L (Nat.succ L') s (.ofNat n)=bif ltI (.ofNat n) (.ofNat s.length) then bif inI (.ofNat n) s.length then bif inI (.ofNat n) s.length then bif (bif true then !sBalx (nth (t:=.bal) s n) else sBalx (nth (t:=.bal) s n)) then some (.bool false) else lpBalx L L' s (wrapK .i64 (.ofNat n+1)) else none else none else some (.bool true):=by kernel_rfl
theorem loop_sameBal (L:Nat) (s:List bil.Bal) (hl:s.length < 1000000):∀ (t:List bil.Bal) (n f:Nat),s.drop n=t→n≤s.length→t.length < f→lpBalx L f s (.ofNat n)=some (.bool true)
 | t,n,0,_,_,hf=>by omega
 | [],n,f+1,hd,hn,hf=>by
  rw [round_sameBal,drop_nil hd hn,le_nat (Nat.le_refl _),cond_false]
 | x::t,n,f+1,hd,hn,hf=>by
  obtain⟨h1,h2,h3⟩:=drop_cons (t:=.bal) hd
  have ih:=loop_sameBal L s hl t (n+1) f h3 (by omega) (by simp at hf;omega)
  rw [round_sameBal,lt_nat h1,cond_true,in_nat h1,cond_true,cond_true,cond_true,sBalx_eq,Bool.not_true,cond_false,wrap_succ (by omega),ih]
def G_sameBal:List AV→Option (Bool × AV)
 | [.fl .bal l,.fl .bal l']=>some (@decide (l=l') (Classical.propDecidable _)&&Nat.blt l.length 1000000,.bool true)
 | _=>none
def c81:ClS:=addG 22 G_sameBal c80
theorem snd81:SoundS Tryz.prog c81:=add_gn snd80 mix ok_sameBal .any G_sameBal fun xs r h=>by
 unfold G_sameBal at h
 split at h<;>first | (cases h;done) | skip
 rename_i l l'
 obtain⟨hg,rfl⟩:=Prod.mk.inj (Option.some.inj h)
 rw [Bool.and_eq_true] at hg
 have he:l=l':=dec_true hg.1
 subst he
 have e:∀ L,callF c80 L s_sameBal .any [.fl .bal l,.fl .bal l] some=bif !eqI (.ofNat l.length) (.ofNat l.length) then some (.bool false) else lpBalx L L l (.ofNat 0):=fun L=>by kernel_rfl
 have hl:=blt_iff.1 hg.2
 refine⟨rfl,l.length+1,?_⟩
 rw [e,eqI_self,Bool.not_true,cond_false,loop_sameBal _ l hl l 0 _ rfl (by omega) (by omega)]
def sSesx (x:bil.Ses):Bool:=eqI x.id x.id&&(eqI x.last x.last&&(eqI x.rep.why x.rep.why&&(eqI x.rep.number x.rep.number&&(eqI x.rep.gross x.rep.gross&&true))))
theorem sSesx_eq (x:bil.Ses):sSesx x=true:=by
 unfold sSesx
 simp only [bEq_self,eqI_self,Bool.and_true,Bool.and_self]
def lpSesx (L L':Nat) (s:List bil.Ses) (n:Int):Option AV:=loopS (evS c81 L b1_sameSes) l1_sameSes 0 L' (stL [(q0,.fl .ses s),(q1,.fl .ses s),(q5,i64 n)]) m0 (k1_sameSes c81 L fun r m=>frzK m .any r some)
theorem round_sameSes (L L' n:Nat) (s:List bil.Ses):lpSesx L (Nat.succ L') s (.ofNat n)=bif ltI (.ofNat n) (.ofNat s.length) then bif inI (.ofNat n) s.length then bif inI (.ofNat n) s.length then bif (bif true then !sSesx (nth (t:=.ses) s n) else sSesx (nth (t:=.ses) s n)) then some (.bool false) else lpSesx L L' s (wrapK .i64 (.ofNat n+1)) else none else none else some (.bool true):=by kernel_rfl
theorem loop_sameSes (L:Nat) (s:List bil.Ses) (hl:s.length < 1000000):∀ (t:List bil.Ses) (n f:Nat),s.drop n=t→n≤s.length→t.length < f→lpSesx L f s (.ofNat n)=some (.bool true)
 | t,n,0,_,_,hf=>by omega
 | [],n,f+1,hd,hn,hf=>by
  rw [round_sameSes,drop_nil hd hn,le_nat (Nat.le_refl _),cond_false]
 | x::t,n,f+1,hd,hn,hf=>by
  obtain⟨h1,h2,h3⟩:=drop_cons (t:=.ses) hd
  have ih:=loop_sameSes L s hl t (n+1) f h3 (by omega) (by simp at hf;omega)
  rw [round_sameSes,lt_nat h1,cond_true,in_nat h1,cond_true,cond_true,cond_true,sSesx_eq,Bool.not_true,cond_false,wrap_succ (by omega),ih]
def G_sameSes:List AV→Option (Bool × AV)
 | [.fl .ses l,.fl .ses l']=>some (@decide (l=l') (Classical.propDecidable _)&&Nat.blt l.length 1000000,.bool true)
 | _=>none
def c82:ClS:=addG 23 G_sameSes c81
theorem snd82:SoundS Tryz.prog c82:=add_gn snd81 mix ok_sameSes .any G_sameSes fun xs r h=>by
 unfold G_sameSes at h
 split at h<;>first | (cases h;done) | skip
 rename_i l l'
 obtain⟨hg,rfl⟩:=Prod.mk.inj (Option.some.inj h)
 rw [Bool.and_eq_true] at hg
 have he:l=l':=dec_true hg.1
 subst he
 have e:∀ L,callF c81 L s_sameSes .any [.fl .ses l,.fl .ses l] some=bif !eqI (.ofNat l.length) (.ofNat l.length) then some (.bool false) else lpSesx L L l (.ofNat 0):=fun L=>by kernel_rfl
 have hl:=blt_iff.1 hg.2
 refine⟨rfl,l.length+1,?_⟩
 rw [e,eqI_self,Bool.not_true,cond_false,loop_sameSes _ l hl l 0 _ rfl (by omega) (by omega)]
def sPtx (x:bil.Pt):Bool:=bytesEq x.cat.data.toList x.cat.data.toList&&(eqI x.bp x.bp&&(eqI x.net x.net&&(eqI x.tax x.tax&&true)))
theorem sPtx_eq (x:bil.Pt):sPtx x=true:=by
 unfold sPtx
 simp only [bEq_self,eqI_self,Bool.and_true,Bool.and_self]
def lpPtx (L L':Nat) (s:List bil.Pt) (n:Int):Option AV:=loopS (evS c82 L b1_samePt) l1_samePt 0 L' (stL [(q0,.fl .part s),(q1,.fl .part s),(q5,i64 n)]) m0 (k1_samePt c82 L fun r m=>frzK m .any r some)
theorem round_samePt (L L' n:Nat) (s:List bil.Pt):lpPtx L (Nat.succ L') s (.ofNat n)=bif ltI (.ofNat n) (.ofNat s.length) then bif inI (.ofNat n) s.length then bif inI (.ofNat n) s.length then bif (bif true then !sPtx (nth (t:=.part) s n) else sPtx (nth (t:=.part) s n)) then some (.bool false) else lpPtx L L' s (wrapK .i64 (.ofNat n+1)) else none else none else some (.bool true):=by kernel_rfl
theorem loop_samePt (L:Nat) (s:List bil.Pt) (hl:s.length < 1000000):∀ (t:List bil.Pt) (n f:Nat),s.drop n=t→n≤s.length→t.length < f→lpPtx L f s (.ofNat n)=some (.bool true)
 | t,n,0,_,_,hf=>by omega
 | [],n,f+1,hd,hn,hf=>by
  rw [round_samePt,drop_nil hd hn,le_nat (Nat.le_refl _),cond_false]
 | x::t,n,f+1,hd,hn,hf=>by
  obtain⟨h1,h2,h3⟩:=drop_cons (t:=.part) hd
  have ih:=loop_samePt L s hl t (n+1) f h3 (by omega) (by simp at hf;omega)
  rw [round_samePt,lt_nat h1,cond_true,in_nat h1,cond_true,cond_true,cond_true,sPtx_eq,Bool.not_true,cond_false,wrap_succ (by omega),ih]
def G_samePt:List AV→Option (Bool × AV)
 | [.fl .part l,.fl .part l']=>some (@decide (l=l') (Classical.propDecidable _)&&Nat.blt l.length 1000000,.bool true)
 | _=>none
def c83:ClS:=addG 89 G_samePt c82
theorem snd83:SoundS Tryz.prog c83:=add_gn snd82 mix ok_samePt .any G_samePt fun xs r h=>by
 unfold G_samePt at h
 split at h<;>first | (cases h;done) | skip
 rename_i l l'
 obtain⟨hg,rfl⟩:=Prod.mk.inj (Option.some.inj h)
 rw [Bool.and_eq_true] at hg
 have he:l=l':=dec_true hg.1
 subst he
 have e:∀ L,callF c82 L s_samePt .any [.fl .part l,.fl .part l] some=bif !eqI (.ofNat l.length) (.ofNat l.length) then some (.bool false) else lpPtx L L l (.ofNat 0):=fun L=>by kernel_rfl
 have hl:=blt_iff.1 hg.2
 refine⟨rfl,l.length+1,?_⟩
 rw [e,eqI_self,Bool.not_true,cond_false,loop_samePt _ l hl l 0 _ rfl (by omega) (by omega)]
end
end Go.Proofs.YtbknmeafcbhicaaGreatDoor.Ev

/- The law's own call: a session asks (its lines are nil). -/
namespace Go.Proofs.YtbknmeafcbhicaaGreatDoor.Ev
open Go
noncomputable section
theorem addG_to {f:Nat} {G:List AV→Option (Bool × AV)} {cl:ClS} {xs:List AV} {r:AV} {m:Mem} (h:G xs=some (true,r)):erC (addG f G cl) f xs m=some (r,m):=by
 unfold erC addG addO addA
 simp only [h]
 simp
 rfl
theorem add_move {P:Program} {f:Nat} {G:List AV→Option (Bool × AV)} {cl cl':ClS} (h:SoundS P (addG f G cl)) (h':SoundS P cl'):SoundS P (addG f G cl'):=fun g xs m r m' hr=>by
 rcases addG_inv hr with⟨rfl,hG,rfl⟩ | hr
 ·exact h _ _ _ _ _ (addG_to hG)
 ·exact h' _ _ _ _ _ hr
def serA:ByteArray:=⟨#[97]⟩
def askC (id:Int):bil.Ca:=⟨id,1,⟨8,serA,0,⟨⟨#[]⟩,⟨0,0,0⟩,0⟩,⟨0,0,0⟩,[],bil.Ref.z,0⟩⟩
def askD:List AV:=[i64 8,.str [97],i64 0,.str [],i64 0,i64 0,i64 0,i64 0,i64 0,i64 0,i64 0,.nilsl,.str [],i64 0,i64 0]
def askR:List AV:=i64 1::askD
theorem decC {p:Prop} (h:p):@decide p (Classical.propDecidable _)=true:=@decide_eq_true _ (Classical.propDecidable _) h
def H_doN (xs:List AV) (m:Mem):List (Bool × AV × T Blk × Nat):=match xs,stOf m with
 | [.ptr 0 0,.agg cs],some (g,s,k)=>[(g&&(gSt s&&@decide (cs=askD) (Classical.propDecidable _)),rpA (akF s serA),hS s k,nS k)]
 | _,_=>[]
theorem top_doN (s:bil.St) (k:Bool):callS c76 0 s_do [.ptr 0 0,.agg askD] ⟨hS s k,nS k,0,0⟩ (kT (nS k))=(match k with | false=>bif true&&gSt (nil' s) then some (rpA (akF (nil' s) serA),hS (nil' s) k,nS k) else none | true=>bif Nat.beq s.posted.length s.posted.length&&gSt s then some (rpA (akF s serA),hS s k,nS k) else none):=by
 cases k
 ·kernel_rfl
 ·kernel_rfl
def c76a:ClS:=addNs 15 H_doN c76
theorem snd76a:SoundS Tryz.prog c76a:=add_mems snd76 mix ok_do H_doN fun xs m r h1 n1 h=>by
 unfold H_doN at h
 split at h<;>first | (cases h;done) | skip
 rename_i cs g s k hs
 obtain⟨a,rfl,rfl,rfl⟩:=first1 h
 rw [Bool.and_eq_true,Bool.and_eq_true] at a
 obtain⟨rfl,a2,a3⟩:=a
 obtain⟨rfl,hk⟩:=stOf_inv hs
 have he:cs=askD:=dec_true a3
 subst he
 refine⟨by cases k<;>rfl,0,?_⟩
 have e:=top_doN s k
 cases k with
 | false =>
  refine e.trans ?_
  show (bif true&&gSt (nil' s) then some (rpA (akF (nil' s) serA),hS (nil' s) false,nS false) else none)=_
  rw [nil_eq (hk rfl),a2];rfl
 | true =>
  refine e.trans ?_
  show (bif Nat.beq s.posted.length s.posted.length&&gSt s then some (rpA (akF s serA),hS s true,nS true) else none)=_
  rw [beqN_true rfl,a2];rfl
def treeN (g:Bool) (k:Bool) (s:bil.St) (id:Int):Option AV :=
 bif true&&(true&&(true&&(g&&(true&&(true&&true)))))&&true&&gSt s then bif (lookR s.sess id 1).2.1 then bif !eqI (lookR s.sess id 1).2.2 0 then oP k s s.posted ⟨(lookR s.sess id 1).2.2,0,0⟩ else oP k s s.posted (lookR s.sess id 1).1
  else bif !eqI (lookR s.sess id 1).2.2 0 then oP k s s.posted ⟨(lookR s.sess id 1).2.2,0,0⟩ else bif g&&(gSt s&&@decide (askD=askD) (Classical.propDecidable _)) then kpT k (askC id) (s,akF s serA) else none
 else none
theorem top_applyN (s:bil.St) (id:Int):callF c76a 0 s_apply (.tup [shSt,.any]) [.agg (cSt s),.agg (i64 id::askR)] some=bif gSt s&&s.posted.isEmpty then treeN true false (nil' s) id else bif gSt s then treeN (Nat.beq s.posted.length s.posted.length) true s id else none:=by kernel_rfl
theorem treeN_eq {g k:Bool} {s:bil.St} (id:Int) (hg:g=true) (hG:StG s):treeN g k s id=treeA g k s (askC id):=by
 have hgs:=gSt_of hG
 unfold treeN treeA
 rw [hg,hgs,decC rfl]
 rfl
theorem run_applyN (s:bil.St) (id:Int) (hG:StG s):callF c76a 0 s_apply (.tup [shSt,.any]) [.agg (cSt s),.agg (i64 id::askR)] some=outA (apF s (askC id)):=by
 rw [top_applyN,gSt_of hG,Bool.true_and,cond_true]
 cases hp:s.posted.isEmpty with
 | true =>
  have h0:=List.isEmpty_iff.1 hp
  rw [cond_true,nil_eq h0,treeN_eq id rfl hG]
  exact tree_apply rfl hG (fun _=>h0) rfl
 | false =>
  rw [cond_false,treeN_eq id (beqN_true rfl) hG]
  exact tree_apply (beqN_true rfl) hG (fun h=>by cases h) rfl
def G_applyN:List AV→Option (Bool × AV)
 | [.agg cs,.agg (.int .i64 id::rest)]=>(match stVal cs with
  | some s=>some (gSt s&&@decide (rest=askR) (Classical.propDecidable _),.tup [.agg (cSt (apF s (askC id)).1),rpA (apF s (askC id)).2])
  | none=>none)
 | _=>none
def c76b:ClS:=addG 7 G_applyN c76a
theorem snd76b:SoundS Tryz.prog c76b:=add_gn snd76a mix ok_apply (.tup [shSt,.any]) G_applyN fun xs r h=>by
 unfold G_applyN at h
 split at h<;>first | (cases h;done) | skip
 rename_i cs id rest
 cases hs:stVal cs with
 | none=>rw [hs] at h;cases h
 | some s =>
  rw [hs] at h
  obtain⟨hg,rfl⟩:=Prod.mk.inj (Option.some.inj h)
  rw [Bool.and_eq_true] at hg
  have he:rest=askR:=dec_true hg.2
  subst he
  rw [← stVal_inv hs]
  exact⟨rfl,0,run_applyN s id (gSt_to hg.1)⟩
end
end Go.Proofs.YtbknmeafcbhicaaGreatDoor.Ev

/- The law's own functions, second part: totals, invoices, states; few calls. -/
namespace Go.Proofs.YtbknmeafcbhicaaGreatDoor.Ev
open Go
noncomputable section
def G_sTotals:List AV→Option (Bool × AV)
 | [.agg [.int .i64 n,.int .i64 t,.int .i64 g,.fl .part l],.agg [.int .i64 n',.int .i64 t',.int .i64 g',.fl .part l']]=>some (@decide ((⟨n,t,g,l⟩:bil.Tot)=⟨n',t',g',l'⟩) (Classical.propDecidable _)&&Nat.blt l.length 1000000,.bool true)
 | _=>none
def c84:ClS:=addG 52 G_sTotals c83
theorem snd84:SoundS Tryz.prog c84:=add_gn snd83 mix ok_sTotals .any G_sTotals fun xs r h=>by
 unfold G_sTotals at h
 split at h<;>first | (cases h;done) | skip
 rename_i n t g l n' t' g' l'
 obtain⟨hg,rfl⟩:=Prod.mk.inj (Option.some.inj h)
 rw [Bool.and_eq_true] at hg
 have he:(⟨n,t,g,l⟩:bil.Tot)=⟨n',t',g',l'⟩:=dec_true hg.1
 cases he
 refine⟨rfl,0,?_⟩
 have e:callF c83 0 s_sTotals .any [.agg [.int .i64 n,.int .i64 t,.int .i64 g,.fl .part l],.agg [.int .i64 n,.int .i64 t,.int .i64 g,.fl .part l]] some=bif eqI n n then bif eqI t t then bif eqI g g then bif @decide (l=l) (Classical.propDecidable _)&&Nat.blt l.length 1000000 then some (.bool true) else none else some (.bool false) else some (.bool false) else some (.bool false):=by kernel_rfl
 rw [e,eqI_self,eqI_self,eqI_self,decC rfl,hg.2];rfl
def sRfx (x:bil.Ref):Bool:=bytesEq x.ser.data.toList x.ser.data.toList&&(eqI x.num x.num&&true)
def sDtx (x:bil.Dt):Bool:=eqI x.y x.y&&(eqI x.m x.m&&(eqI x.d x.d&&true))
theorem sRfx_eq (x:bil.Ref):sRfx x=true:=by unfold sRfx;rw [bEq_self,eqI_self];rfl
theorem sDtx_eq (x:bil.Dt):sDtx x=true:=by unfold sDtx;rw [eqI_self,eqI_self,eqI_self];rfl
def lpPx (L L':Nat) (s:List bil.Pst) (n:Int):Option AV:=loopS (evS c84 L b1_sPosted) l1_sPosted 0 L' (stL [(q0,.fl .posted s),(q1,.fl .posted s),(q5,i64 n)]) m0 (k1_sPosted c84 L fun r m=>frzK m .any r some)
def i2 (b:Bool) (q:Option AV):Option AV:=bif b then bif b then q else none else none
def tlP (L L' n:Nat) (s:List bil.Pst):Option AV:=i2 (inI (.ofNat n) s.length) (bif @decide ((nPs s n).tot=(nPs s n).tot) (Classical.propDecidable _)&&Nat.blt (nPs s n).tot.parts.length 1000000 then lpPx L L' s (wrapK .i64 (.ofNat n+1)) else none)
theorem round_sPosted (L L' n:Nat) (s:List bil.Pst):lpPx L (Nat.succ L') s (.ofNat n)=bif ltI (.ofNat n) (.ofNat s.length) then i2 (inI (.ofNat n) s.length) (
 bif (bif true then !sRfx (nPs s n).ref else sRfx (nPs s n).ref) then some (.bool false) else i2 (inI (.ofNat n) s.length) (bif (bif true then !sDtx (nPs s n).day else sDtx (nPs s n).day) then some (.bool false) else i2 (inI (.ofNat n) s.length) (
  bif (bif true then !sRfx (nPs s n).of_ else sRfx (nPs s n).of_) then some (.bool false) else bif inI (.ofNat n) s.length then bif (nPs s n).back then bif inI (.ofNat n) s.length then bif (nPs s n).back then tlP L L' n s else some (.bool false) else none
   else bif inI (.ofNat n) s.length then bif (nPs s n).back then some (.bool false) else tlP L L' n s else none else none))) else some (.bool true):=by kernel_rfl
theorem loop_sPosted (L:Nat) (s:List bil.Pst) (hl:s.length < 1000000) (hp:∀ p∈s,p.tot.parts.length≤12):∀ (t:List bil.Pst) (n f:Nat),s.drop n=t→n≤s.length→t.length < f→lpPx L f s (.ofNat n)=some (.bool true)
 | t,n,0,_,_,hf=>by omega
 | [],n,f+1,hd,hn,hf=>by
  rw [round_sPosted,drop_nil hd hn,le_nat (Nat.le_refl _),cond_false]
 | x::t,n,f+1,hd,hn,hf=>by
  obtain⟨h1,h2,h3⟩:=drop_cons (t:=.posted) hd
  have ih:=loop_sPosted L s hl hp t (n+1) f h3 (by omega) (by simp at hf;omega)
  have h12:=hp _ (List.mem_of_getElem? (nPs_get h1))
  have ht:tlP L f n s=some (.bool true):=by
   unfold tlP i2
   rw [in_nat h1,cond_true,cond_true,decC rfl,bltN_true (by omega),Bool.and_self,cond_true,wrap_succ (by omega),ih]
  rw [round_sPosted,lt_nat h1,cond_true,ht,sRfx_eq,sRfx_eq,sDtx_eq]
  unfold i2
  rw [in_nat h1]
  cases (nPs s n).back<;>rfl
def gP12 (p:bil.Pst):Bool:=Nat.blt p.tot.parts.length 13
def G_sPosted:List AV→Option (Bool × AV)
 | [.fl .posted l,.fl .posted l']=>some (@decide (l=l') (Classical.propDecidable _)&&(Nat.blt l.length 1000000&&l.all gP12),.bool true)
 | _=>none
def c85:ClS:=addG 21 G_sPosted c84
theorem snd85:SoundS Tryz.prog c85:=add_gn snd84 mix ok_sPosted .any G_sPosted fun xs r h=>by
 unfold G_sPosted at h
 split at h<;>first | (cases h;done) | skip
 rename_i l l'
 obtain⟨hg,rfl⟩:=Prod.mk.inj (Option.some.inj h)
 rw [Bool.and_eq_true,Bool.and_eq_true] at hg
 have he:l=l':=dec_true hg.1
 subst he
 have e:∀ L,callF c84 L s_sPosted .any [.fl .posted l,.fl .posted l] some=bif !eqI (.ofNat l.length) (.ofNat l.length) then some (.bool false) else lpPx L L l (.ofNat 0):=fun L=>by kernel_rfl
 have hl:=blt_iff.1 hg.2.1
 refine⟨rfl,l.length+1,?_⟩
 rw [e,eqI_self,Bool.not_true,cond_false,loop_sPosted _ l hl (fun p hp=>by have:=blt_iff.1 (List.all_eq_true.1 hg.2.2 p hp);omega) l 0 _ rfl (by omega) (by omega)]
def G_states:List AV→Option (Bool × AV)
 | [.agg cs,.agg ds]=>(match stVal cs with
  | some s=>(match stVal ds with
   | some t=>some (gSt s&&@decide (s=t) (Classical.propDecidable _),.bool true)
   | none=>none)
  | none=>none)
 | _=>none
def c86:ClS:=addG 9 G_states c85
theorem snd86:SoundS Tryz.prog c86:=add_gn snd85 mix ok_states .any G_states fun xs r h=>by
 unfold G_states at h
 split at h<;>first | (cases h;done) | skip
 rename_i cs ds
 cases hs:stVal cs with
 | none=>rw [hs] at h;cases h
 | some s =>
  rw [hs] at h
  cases ht:stVal ds with
  | none=>rw [ht] at h;cases h
  | some t =>
   rw [ht] at h
   obtain⟨hg,rfl⟩:=Prod.mk.inj (Option.some.inj h)
   rw [Bool.and_eq_true] at hg
   have he:s=t:=dec_true hg.2
   subst he
   rw [← stVal_inv hs,← stVal_inv ht]
   obtain⟨k1,k2,k3,k4,k5,k6⟩:=stG_small (gSt_to hg.1)
   have e:callF c85 0 s_states .any [.agg (cSt s),.agg (cSt s)] some=bif @decide (s.table=s.table) (Classical.propDecidable _)&&Nat.blt s.table.length 1000000 then bif @decide (s.series=s.series) (Classical.propDecidable _)&&Nat.blt s.series.length 1000000 then
     bif @decide (s.posted=s.posted) (Classical.propDecidable _)&&(Nat.blt s.posted.length 1000000&&s.posted.all gP12) then bif @decide (s.book=s.book) (Classical.propDecidable _)&&Nat.blt s.book.length 1000000 then bif @decide (s.sess=s.sess) (Classical.propDecidable _)&&Nat.blt s.sess.length 1000000 then
      bif eqI s.next s.next then some (.bool true) else some (.bool false) else none else none else none else none else none:=by kernel_rfl
   have h12:s.posted.all gP12=true:=by
    rw [List.all_eq_true]
    intro p hp
    unfold gP12
    exact bltN_true (by have:=k6 p hp;omega)
   refine⟨rfl,0,?_⟩
   rw [e,decC rfl,decC rfl,decC rfl,decC rfl,decC rfl,bltN_true (by omega),bltN_true (by omega),bltN_true (by omega),bltN_true (by omega),bltN_true (by omega),h12,eqI_self]
   rfl
def fewC (a:bil.Ca):bil.Ca:={ a with cmd:={ a.cmd with lines:=a.cmd.lines.take 15 } }
def fewL (l:List bil.Ca) (n:Nat):List bil.Ca:=(l.take n).map fewC
def kFw (L:Nat):Ex→T AV→Mem→Option AV:=k1_few c86 L fun r m=>frzK m (.lst .call) r some
def mFw (o:List bil.Ca):Mem:=⟨T.nil.node (some ⟨.ls .call o,17,true⟩) T.nil,1,1,1⟩
def lpFw0 (L L':Nat) (l:List bil.Ca) (n:Int):Option AV:=loopS (evS c86 L b1_few) l1_few 0 L' (stL [(q0,.fl .call l),(q1,i64 40),(q5,.nilsl),(q6,i64 n)]) m0 (kFw L)
def lpFw (L L':Nat) (l:List bil.Ca) (len:Nat) (o:List bil.Ca) (n:Int):Option AV:=loopS (evS c86 L b1_few) l1_few 0 L' (stL [(q0,.fl .call l),(q1,i64 40),(q5,.so 0 17 0 len),(q6,i64 n)]) (mFw o) (kFw L)
theorem round_few0 (L L' n:Nat) (l:List bil.Ca):lpFw0 L (Nat.succ L') l (.ofNat n)=bif ltI (.ofNat n) (.ofNat l.length) then bif ltI (.ofNat n) 40 then bif inI (.ofNat n) l.length then bif ltI 15 (.ofNat (nC l n).cmd.lines.length) then bif inI 15 ((nC l n).cmd.lines.length+1) then
 lpFw L L' l 1 [fewC (nC l n)] (wrapK .i64 (.ofNat n+1)) else none else lpFw L L' l 1 [nC l n] (wrapK .i64 (.ofNat n+1)) else none else some (.fl .call []) else some (.fl .call []):=by kernel_rfl
def apC (L L':Nat) (l:List bil.Ca) (len:Nat) (o:List bil.Ca) (n:Nat) (x:bil.Ca):Option AV:=bif Nat.beq o.length len then bif Nat.blt (len+1) 1048576 then lpFw L L' l (o++[x]).length (o++[x]) (wrapK .i64 (.ofNat n+1)) else none else none
def enC (len:Nat) (o:List bil.Ca):Option AV:=bif Nat.beq len o.length then some (.fl .call o) else none
theorem round_few (L L' n len:Nat) (l o:List bil.Ca):lpFw L (Nat.succ L') l len o (.ofNat n)=bif ltI (.ofNat n) (.ofNat l.length) then bif ltI (.ofNat n) 40 then bif inI (.ofNat n) l.length then bif ltI 15 (.ofNat (nC l n).cmd.lines.length) then bif inI 15 ((nC l n).cmd.lines.length+1) then
 apC L L' l len o n (fewC (nC l n)) else none else apC L L' l len o n (nC l n) else none else enC len o else enC len o:=by kernel_rfl
theorem few_short {x:bil.Ca} (h:¬ 15 < x.cmd.lines.length):fewC x=x:=by
 obtain⟨a,b,c,d,e,f,g,ls,i,j⟩:=x
 unfold fewC
 simp only at h ⊢
 rw [List.take_of_length_le (by omega)]
theorem in15 {n:Nat} (h:15 < n):inI 15 (n+1)=true:=in_nat (by omega:15 < n+1)
theorem loop_few (L:Nat) (l:List bil.Ca):∀ (t:List bil.Ca) (n f:Nat) (o:List bil.Ca),l.drop n=t→n≤l.length→n≤40→41 - n≤f→o.length=n→lpFw L f l o.length o (.ofNat n)=some (.fl .call (o++fewL t (40 - n)))
 | t,n,0,o,_,_,h40,hf,_=>by omega
 | [],n,f+1,o,hd,hn,h40,hf,ho=>by
  rw [round_few,drop_nil hd hn,le_nat (Nat.le_refl _),cond_false]
  unfold enC fewL
  rw [beqN_true rfl,List.take_nil]
  simp
 | x::t,n,f+1,o,hd,hn,h40,hf,ho=>by
  obtain⟨h1,h2,h3⟩:=drop_cons (t:=.call) hd
  have h2:nC l n=x:=h2
  rw [round_few,lt_nat h1,cond_true]
  by_cases h4:n < 40
  ·have ih:=fun y=>loop_few L l t (n+1) f (o++[y]) h3 (by omega) (by omega) (by omega) (by rw [List.length_append,ho];rfl)
   have e40:40 - n=(40 - (n+1))+1:=by omega
   have key:∀ y,apC L f l o.length o n y=some (.fl .call (o++[y]++fewL t (40 - (n+1)))):=fun y=>by
    unfold apC
    rw [beqN_true rfl,cond_true,bltN_true (by omega),cond_true,wrap_succ (by omega),ih]
   have hfl:fewL (x::t) (40 - n)=fewC x::fewL t (40 - (n+1)):=by
    rw [e40];rfl
   rw [lt_true (show Int.ofNat n < 40 by simp only [Int.ofNat_eq_natCast];omega),cond_true,in_nat h1,cond_true,h2,key,key,hfl]
   by_cases h15:15 < x.cmd.lines.length
   ·rw [lt_true (show (15:Int) < .ofNat x.cmd.lines.length by simp only [Int.ofNat_eq_natCast];omega),cond_true,in15 h15,cond_true,List.append_assoc];rfl
   ·rw [lt_false (show Int.ofNat x.cmd.lines.length≤15 by simp only [Int.ofNat_eq_natCast];omega),cond_false,few_short h15,List.append_assoc];rfl
  ·have:n=40:=by omega
   subst this
   rw [lt_false (show (40:Int)≤Int.ofNat 40 by decide),cond_false]
   unfold enC fewL
   rw [beqN_true rfl]
   simp
theorem run_few (l:List bil.Ca):callF c86 50 s_few (.lst .call) [.fl .call l,i64 40] some=some (.fl .call (fewL l 40)):=by
 have e:∀ L,callF c86 L s_few (.lst .call) [.fl .call l,i64 40] some=lpFw0 L L l (.ofNat 0):=fun L=>by kernel_rfl
 rw [e]
 cases l with
 | nil=>rw [round_few0];rfl
 | cons x t =>
  have h1:0 < (x::t).length:=by simp
  have hn:nC (x::t) 0=x:=rfl
  have ih:=fun y=>loop_few 50 (x::t) t 1 49 [y] rfl (by simp) (by omega) (by omega) rfl
  have hfl:fewL (x::t) 40=fewC x::fewL t 39:=rfl
  have ih':∀ y:bil.Ca,lpFw 50 49 (x::t) 1 [y] (.ofNat 1)=some (.fl .call (y::fewL t 39)):=ih
  rw [round_few0,lt_nat h1,cond_true,lt_true (show Int.ofNat 0 < 40 by decide),cond_true,in_nat h1,cond_true,hn,wrap_succ (by omega),ih',ih',hfl]
  by_cases h15:15 < x.cmd.lines.length
  ·rw [lt_true (show (15:Int) < .ofNat x.cmd.lines.length by simp only [Int.ofNat_eq_natCast];omega),cond_true,in15 h15];rfl
  ·rw [lt_false (show Int.ofNat x.cmd.lines.length≤15 by simp only [Int.ofNat_eq_natCast];omega),cond_false,few_short h15]
def G_few:List AV→Option (Bool × AV)
 | [.fl .call l,.int .i64 n]=>some (eqI n 40,.fl .call (fewL l 40))
 | _=>none
def c87:ClS:=addG 6 G_few c86
theorem snd87:SoundS Tryz.prog c87:=add_gn snd86 mix ok_few (.lst .call) G_few fun xs r h=>by
 unfold G_few at h
 split at h<;>first | (cases h;done) | skip
 obtain⟨hg,rfl⟩:=Prod.mk.inj (Option.some.inj h)
 rw [eqI_eq,decide_eq_true_eq] at hg
 subst hg
 exact⟨rfl,_,run_few _⟩
end
end Go.Proofs.YtbknmeafcbhicaaGreatDoor.Ev

/- What the law comes to. -/
namespace Go.Proofs.YtbknmeafcbhicaaGreatDoor.Ev
open Go
noncomputable section
def G_awk:List AV→Option (Bool × AV)
 | []=>some (true,.bool true)
 | _=>none
def c88:ClS:=addG 8 G_awk c87
def c89:ClS:=addG 7 G_applyN c88
def s00:bil.St:=⟨[],[],[],[],[],1⟩
def endX (l:List bil.Ca):bil.St:=playS s00 (fewL l 40)
def mEx (s:bil.St):Mem:=⟨T.nil.node (some ⟨.raw (cSt s),1,false⟩) T.nil,1,1,1⟩
def kEx (L:Nat):Ex→T AV→Mem→Option AV:=k1_expired c89 L fun r m=>frzK m .any r some
def lpEx (L L':Nat) (s:bil.St) (id:Int) (b:Bool) (n:Int):Option AV:=match b with
 | false=>loopS (evS c89 L b1_expired) l1_expired 0 L' (stL [(q1,.int .i64 id),(q5,.ptr 0 0),(q7,.bool false),(q8,i64 n)]) (mEx s) (kEx L)
 | true=>loopS (evS c89 L b1_expired) l1_expired 0 L' (stL [(q1,.int .i64 id),(q5,.ptr 0 0),(q7,.bool true),(q8,i64 n)]) (mEx s) (kEx L)
def enEx (s:bil.St) (id:Int) (b:Bool):Option AV :=
 bif gSt s&&@decide (askR=askR) (Classical.propDecidable _) then (match b with
  | false=>bif eqI (apF s (askC id)).2.why 15 then bif gSt s&&@decide (s=(apF s (askC id)).1) (Classical.propDecidable _) then some (.bool true) else none else some (.bool false)
  | true=>bif !eqI (apF s (askC id)).2.why 15 then some (.bool true) else some (.bool false)) else none
theorem round_expired0 (L L' n:Nat) (s:bil.St) (id:Int):lpEx L (Nat.succ L') s id false (.ofNat n)=bif ltI (.ofNat n) (.ofNat s.sess.length) then bif inI (.ofNat n) s.sess.length then bif eqI (nZ s.sess n).id id then lpEx L L' s id true (wrapK .i64 (.ofNat n+1)) else lpEx L L' s id false (wrapK .i64 (.ofNat n+1)) else none else enEx s id false:=by kernel_rfl
theorem round_expired1 (L L' n:Nat) (s:bil.St) (id:Int):lpEx L (Nat.succ L') s id true (.ofNat n)=bif ltI (.ofNat n) (.ofNat s.sess.length) then lpEx L L' s id true (wrapK .i64 (.ofNat n+1)) else enEx s id true:=by kernel_rfl
theorem loop_expired (L:Nat) (s:bil.St) (id:Int) (hl:s.sess.length < 1000000):∀ (t:List bil.Ses) (n f:Nat) (b:Bool),s.sess.drop n=t→n≤s.sess.length→t.length < f→lpEx L f s id b (.ofNat n)=enEx s id (b || t.any fun x=>decide (x.id=id))
 | t,n,0,b,_,_,hf=>by omega
 | [],n,f+1,b,hd,hn,hf=>by
  cases b
  ·rw [round_expired0,drop_nil hd hn,le_nat (Nat.le_refl _)];rfl
  ·rw [round_expired1,drop_nil hd hn,le_nat (Nat.le_refl _)];rfl
 | x::t,n,f+1,b,hd,hn,hf=>by
  obtain⟨h1,h2,h3⟩:=drop_cons (t:=.ses) hd
  have h2:nZ s.sess n=x:=h2
  have ih:=fun b=>loop_expired L s id hl t (n+1) f b h3 (by omega) (by simp at hf;omega)
  cases b
  ·rw [round_expired0,lt_nat h1,cond_true,in_nat h1,cond_true,h2,wrap_succ (by omega),ih,ih,eqI_eq,List.any_cons]
   cases decide (x.id=id)<;>rfl
  ·rw [round_expired1,lt_nat h1,cond_true,wrap_succ (by omega),ih];rfl
theorem few_gCa {l:List bil.Ca} (h:l.all gCa=true):(fewL l 40).all gCa=true:=by
 rw [List.all_eq_true] at h ⊢
 intro x hx
 unfold fewL at hx
 obtain⟨y,hy,rfl⟩:=List.mem_map.1 hx
 have:=h y (List.mem_of_mem_take hy)
 unfold gCa fewC at *
 simp only
 rw [List.all_eq_true] at this ⊢
 exact fun z hz=>this z (List.mem_of_mem_take hz)
theorem few_len (l:List bil.Ca):(fewL l 40).length≤40:=by
 unfold fewL
 rw [List.length_map,List.length_take]
 omega
theorem playS_rep:∀ (l:List bil.Ca) (s:bil.St),bil.RepOk s.sess→bil.RepOk (playS s l).sess
 | [],_,h=>h
 | _::l,_,h=>playS_rep l _ (bil.apply_rep E h)
theorem top_expired (L:Nat) (l:List bil.Ca) (id:Int):callF c89 L s_expired .any [.fl .call l,i64 id] some=bif gSt s00&&(Nat.blt (fewL l 40).length 1000000&&(fewL l 40).all gCa) then lpEx L L (endX l) id false (.ofNat 0) else none:=by kernel_rfl
theorem run_expired (l:List bil.Ca) (id:Int) (h:l.all gCa=true):callF c89 1000 s_expired .any [.fl .call l,i64 id] some=some (.bool true):=by
 have hG:StG (endX l):=playS_ok _ _ new_G
 have hR:bil.RepOk (endX l).sess:=playS_rep _ _ (fun x hx=>by cases hx)
 obtain⟨_,_,_,_,k5,_⟩:=stG_small hG
 have hn:=few_len l
 rw [top_expired,show gSt s00=true from gSt_of new_G,few_gCa h,bltN_true (by omega),Bool.and_self,Bool.and_self,cond_true,loop_expired 1000 _ id (by omega) (endX l).sess 0 1000 false rfl (by omega) (by omega)]
 have hgs:=gSt_of hG
 generalize endX l=s at hG hR hgs
 unfold enEx
 rw [hgs,decC rfl,Bool.and_self,cond_true,Bool.false_or]
 obtain⟨e1,e2⟩:=bil.expired_law E hR id (askC id).cmd rfl
 cases ha:s.sess.any fun x=>decide (x.id=id) with
 | true =>
  have:∃ x∈s.sess,x.id=id:=by
   rw [List.any_eq_true] at ha
   obtain⟨x,hx,he⟩:=ha
   exact⟨x,hx,by simpa using he⟩
  have h15:(apF s (askC id)).2.why≠15:=e1 this
  show (bif !eqI (apF s (askC id)).2.why 15 then some (AV.bool true) else some (AV.bool false))=_
  rw [eq_false' h15];rfl
 | false =>
  have:¬ ∃ x∈s.sess,x.id=id:=by
   rintro ⟨x,hx,he⟩
   have:(s.sess.any fun x=>decide (x.id=id))=true:=List.any_eq_true.2 ⟨x,hx,by simpa using he⟩
   rw [ha] at this
   cases this
  have h15:apF s (askC id)=(s,bil.whyR 15):=e2 this
  show (bif eqI (apF s (askC id)).2.why 15 then bif true&&@decide (s=(apF s (askC id)).1) (Classical.propDecidable _) then some (AV.bool true) else none else some (AV.bool false))=_
  rw [h15,show eqI (s,bil.whyR 15).2.why 15=true from eq_true' rfl,decC rfl];rfl
end
end Go.Proofs.YtbknmeafcbhicaaGreatDoor.Ev

/- The calls that came in, as the machine for symbols has them. -/
namespace Go.Proofs.YtbknmeafcbhicaaGreatDoor.Ev
open Go Go.Joins Go.ChangeShapes Go.WideShapes Go.RowKit Go.Deep
def iceR (w:World):Ren:=⟨fun _=>none,fun b=>match w.heap[b]? with | some (.cells c _ _)=>some c | _=>none⟩
theorem ice_cell {w:World} {a:Addr} {v:Value} (h:w.cell? a=some v):∃ c,(iceR w).ice a.block=some c∧a.spot=none∧c[a.off]?=some v:=by
 unfold World.cell? at h
 split at h
 ·rename_i c e fz hb
  split at h
  ·cases h
  ·rename_i hs
   refine⟨c,?_,?_,h⟩
   ·show (match w.heap[a.block]? with | some (.cells c _ _)=>some c | _=>none)=some c
    rw [hb]
   ·cases hsp:a.spot with
    | none=>rfl
    | some x=>rw [hsp] at hs;simp at hs
 ·cases h
theorem add_none {b o k:Nat}:Addr.add ⟨b,o,none⟩ k=⟨b,o+k,none⟩:=by
 unfold Addr.add
 split
 ·rename_i hz;rw [hz];simp
 ·rfl
theorem fl_of {t:LTy} (hw:0 < wd t) {w:World} {a:Addr} {len cap:Nat} (hlc:len≤cap) (Q:Elem t→Prop)
  (h:∀ i,i < len→∃ x:Elem t,Q x∧∀ j,j < wd t→∃ X y,(enc t x)[j]?=some X∧w.cell? (a.add (i*wd t+j))=some y∧VR (iceR w) X y) :
  ∃ l:List (Elem t),VR (iceR w) (.fl t l) (.slice (some a) len cap)∧∀ x∈l,Q x:=by
 by_cases h0:len=0
 ·subst h0
  exact⟨[],.fle t a cap,fun x hx=>by cases hx⟩
 ·haveI:Inhabited (Elem t):=⟨(h 0 (by omega)).choose⟩
  obtain⟨X,hX⟩:=Go.Deep.choose_lt h
  obtain⟨_,y0,_,hc0,_⟩:=(hX 0 (by omega)).2 0 hw
  obtain⟨b,o,sp⟩:=a
  obtain⟨c0,hi0,hs0,_⟩:=ice_cell hc0
  have hsp:sp=none:=by
   unfold Addr.add at hs0
   split at hs0
   ·exact hs0
   ·rename_i hz
    exact absurd (by omega) hz
  subst hsp
  have hb:(iceR w).ice b=some c0:=by rw [add_none] at hi0;exact hi0
  have hcell:∀ k y,w.cell? (Addr.add ⟨b,o,none⟩ k)=some y→c0[o+k]?=some y:=fun k y hk=>by
   rw [add_none] at hk
   obtain⟨c1,hi1,_,hc1⟩:=ice_cell hk
   have:c1=c0:=Option.some.inj (hi1.symm.trans hb)
   subst this
   exact hc1
  have hlen:((List.range len).map X).length=len:=by simp
  have hnth:∀ n,n < len→nth ((List.range len).map X) n=X n:=fun n hn=>by
   rw [nth_get (by rw [hlen];exact hn)]
   simp
  refine⟨(List.range len).map X,?_,fun x hx=>?_⟩
  ·have key:VR (iceR w) (.fl t ((List.range len).map X)) (.slice (some ⟨b,o,none⟩) ((List.range len).map X).length cap):=by
    refine .fl hb ?_ (by rw [hlen];exact hlc) fun n j x y hn hx hy=>?_
    ·rw [hlen]
     obtain⟨_,y,_,hc,_⟩:=(hX (len - 1) (by omega)).2 (wd t - 1) (by omega)
     have:=(Array.getElem?_eq_some_iff.1 (hcell _ _ hc)).1
     have e:len*wd t=(len - 1)*wd t+wd t:=by
      obtain⟨k,rfl⟩:∃ k,len=k+1:=⟨len - 1,by omega⟩
      rw [Nat.succ_mul];simp
     omega
    ·rw [hlen] at hn
     rw [hnth n hn] at hx
     have hj:j < wd t:=by
      have:=(List.getElem?_eq_some_iff.1 hx).1
      rw [enc_len] at this
      exact this
     obtain⟨X',y',e1,e2,e3⟩:=(hX n hn).2 j hj
     rw [hx] at e1
     cases e1
     have:=hcell _ _ e2
     rw [← Nat.add_assoc,hy] at this
     cases this
     exact e3
   rw [hlen] at key
   exact key
  ·simp only [List.mem_map,List.mem_range] at hx
   obtain⟨i,hi',rfl⟩:=hx
   exact (hX i hi').1
theorem el_of {t:LTy} {w:World} {a:Addr} {i:Nat} {x:Elem t} {cs:List Value} (hv:VRs (iceR w) (enc t x) cs) (hat:∀ j,j < wd t→w.cell? ((a.add (i*wd t)).add j)=cs[j]?) :
  ∀ j,j < wd t→∃ X y,(enc t x)[j]?=some X∧w.cell? (a.add (i*wd t+j))=some y∧VR (iceR w) X y:=fun j hj=>by
 have h1:j < (enc t x).length:=by rw [enc_len];exact hj
 have h2:j < cs.length:=by rw [← hv.1];exact h1
 refine⟨(enc t x)[j],cs[j],List.getElem?_eq_getElem h1,?_,hv.2 j _ _ (List.getElem?_eq_getElem h1) (List.getElem?_eq_getElem h2)⟩
 rw [← Go.Deep.add_add,hat j hj,List.getElem?_eq_getElem h2]
theorem vr_tx {ρ:Ren} (s:ByteArray):VR ρ (tx s) (.string s):=by
 obtain⟨⟨l⟩⟩:=s
 exact .str l
section
variable {H:Type} {enc:TypeId × Value→H} {w:World} {base:Nat} {spare:Nat→Bool} {held:Bool}
set_option maxRecDepth 100000 in
theorem open_lines {n:Nat} {c:Value} {y:DataW H × List MemPlace} (hf:DataW.trod enc Tryz.prog w base spare held n 44 [c]=some y) :
  ∃ l:List bil.Li,VR (iceR w) (.fl .line l) c∧∀ x∈l,gLi x=true:=by
 rcases Go.Deep.open_slice Tryz.underlying44 hf with⟨hcs,_⟩ | ⟨a,len,cap,m,n,D,Pl,hcs,hb0,hlc,hcm,hm,hx,hi⟩
 ·simp only [List.cons.injEq,and_true] at hcs
  subst hcs
  exact⟨[],.fl0 .line,fun x hx=>by cases hx⟩
 ·simp only [List.cons.injEq,and_true] at hcs
  subst hcs
  have hC:Tryz.prog.cellsOf 202=4:=by kernel_rfl
  have hlm:len≤m:=by rw [hm];split<;>omega
  refine fl_of (t:=.line) (by decide) hlc (fun x=>gLi x=true) fun i hil=>?_
  obtain⟨cs',hc,ht⟩:=hi i (by omega)
  rw [hC] at hc
  obtain⟨_,hcl,hat⟩:=World.cells?_some hc
  obtain⟨ys,n',hn',hy,hlen,hyl,hf2⟩:=DataW.trod_struct Tryz.underlying202 ht
  match cs',hcl with
  | [c0,c1,c2,c3],_ =>
   match ys,hyl with
   | [y0,y1,y2,y3],_ =>
    have ki:Tryz.prog.cellsOf 3=1:=by kernel_rfl
    have ks:Tryz.prog.cellsOf 9=1:=by kernel_rfl
    have g0:DataW.trod enc Tryz.prog w base spare held n' 9 [c0]=some y0:=by simpa [ks] using hf2 0 _ rfl
    have g1:DataW.trod enc Tryz.prog w base spare held n' 9 [c1]=some y1:=by simpa [ks] using hf2 1 _ rfl
    have g2:DataW.trod enc Tryz.prog w base spare held n' 3 [c2]=some y2:=by simpa [ki] using hf2 2 _ rfl
    have g3:DataW.trod enc Tryz.prog w base spare held n' 3 [c3]=some y3:=by simpa [ki] using hf2 3 _ rfl
    obtain⟨b0,e0,_⟩:=DataW.trod_string Tryz.underlying9 g0
    obtain⟨b1,e1,_⟩:=DataW.trod_string Tryz.underlying9 g1
    obtain⟨b2,e2,_,w2⟩:=DataW.trod_int Tryz.underlying3 g2
    obtain⟨b3,e3,_,w3⟩:=DataW.trod_int Tryz.underlying3 g3
    simp only [List.cons.injEq,and_true] at e0 e1 e2 e3
    subst e0 e1 e2 e3
    refine⟨⟨b0,b1,b2,b3⟩,?_,el_of (t:=.line) (x:=⟨b0,b1,b2,b3⟩) (.cons (vr_tx b0) (.cons (vr_tx b1) (.cons (.int .i64 b2) (.cons (.int .i64 b3) .nil)))) hat⟩
    unfold gLi
    have q2:=bd64 w2
    have q3:=bd64 w3
    rw [gI_iff.2 (show bil.I64 b2 from ⟨by omega,by omega⟩),gI_iff.2 (show bil.I64 b3 from ⟨by omega,by omega⟩)];rfl
set_option maxRecDepth 100000 in
theorem open_calls {n:Nat} {c:Value} {y:DataW H × List MemPlace} (hf:DataW.trod enc Tryz.prog w base spare held n 22 [c]=some y) :
  ∃ l:List bil.Ca,VR (iceR w) (.fl .call l) c∧∀ x∈l,gCa x=true:=by
 rcases Go.Deep.open_slice Tryz.underlying22 hf with⟨hcs,_⟩ | ⟨a,len,cap,m,n,D,Pl,hcs,hb0,hlc,hcm,hm,hx,hi⟩
 ·simp only [List.cons.injEq,and_true] at hcs
  subst hcs
  exact⟨[],.fl0 .call,fun x hx=>by cases hx⟩
 ·simp only [List.cons.injEq,and_true] at hcs
  subst hcs
  have hC:Tryz.prog.cellsOf 50=17:=by kernel_rfl
  have hlm:len≤m:=by rw [hm];split<;>omega
  refine fl_of (t:=.call) (by decide) hlc (fun x=>gCa x=true) fun i hil=>?_
  obtain⟨cs',hc,ht⟩:=hi i (by omega)
  rw [hC] at hc
  obtain⟨_,hcl,hat⟩:=World.cells?_some hc
  have ki:Tryz.prog.cellsOf 3=1:=by kernel_rfl
  have ks:Tryz.prog.cellsOf 9=1:=by kernel_rfl
  have kl:Tryz.prog.cellsOf 44=1:=by kernel_rfl
  have kd:Tryz.prog.cellsOf 41=3:=by kernel_rfl
  have kr:Tryz.prog.cellsOf 43=5:=by kernel_rfl
  have kf:Tryz.prog.cellsOf 46=2:=by kernel_rfl
  have kc:Tryz.prog.cellsOf 48=15:=by kernel_rfl
  match cs',hcl with
  | [c0,c1,c2,c3,c4,c5,c6,c7,c8,c9,c10,c11,c12,c13,c14,c15,c16],_ =>
   obtain⟨ys,n1,_,_,_,hyl,hf2⟩:=DataW.trod_struct Tryz.underlying50 ht
   match ys,hyl with
   | [y0,y1,y2],_ =>
    have g0:DataW.trod enc Tryz.prog w base spare held n1 3 [c0]=some y0:=by simpa [ki] using hf2 0 _ rfl
    have g1:DataW.trod enc Tryz.prog w base spare held n1 3 [c1]=some y1:=by simpa [ki] using hf2 1 _ rfl
    have gc:DataW.trod enc Tryz.prog w base spare held n1 48 [c2,c3,c4,c5,c6,c7,c8,c9,c10,c11,c12,c13,c14,c15,c16]=some y2:=by simpa [kc] using hf2 2 _ rfl
    obtain⟨zs,n2,_,_,_,hzl,hf3⟩:=DataW.trod_struct Tryz.underlying48 gc
    match zs,hzl with
    | [z0,z1,z2,z3,z4,z5,z6,z7],_ =>
     have g2:DataW.trod enc Tryz.prog w base spare held n2 3 [c2]=some z0:=by simpa [ki] using hf3 0 _ rfl
     have g3:DataW.trod enc Tryz.prog w base spare held n2 9 [c3]=some z1:=by simpa [ks] using hf3 1 _ rfl
     have g4:DataW.trod enc Tryz.prog w base spare held n2 3 [c4]=some z2:=by simpa [ki] using hf3 2 _ rfl
     have gr:DataW.trod enc Tryz.prog w base spare held n2 43 [c5,c6,c7,c8,c9]=some z3:=by simpa [kr] using hf3 3 _ rfl
     have gd:DataW.trod enc Tryz.prog w base spare held n2 41 [c10,c11,c12]=some z4:=by simpa [kd] using hf3 4 _ rfl
     have g13:DataW.trod enc Tryz.prog w base spare held n2 44 [c13]=some z5:=by simpa [kl] using hf3 5 _ rfl
     have gf:DataW.trod enc Tryz.prog w base spare held n2 46 [c14,c15]=some z6:=by simpa [kf] using hf3 6 _ rfl
     have g16:DataW.trod enc Tryz.prog w base spare held n2 3 [c16]=some z7:=by simpa [ki] using hf3 7 _ rfl
     obtain⟨us,n3,_,_,_,hul,hf4⟩:=DataW.trod_struct Tryz.underlying43 gr
     obtain⟨vs,n4,_,_,_,hvl,hf5⟩:=DataW.trod_struct Tryz.underlying41 gd
     obtain⟨ws,n5,_,_,_,hwl,hf6⟩:=DataW.trod_struct Tryz.underlying46 gf
     match us,hul,vs,hvl,ws,hwl with
     | [u0,u1,u2],_,[v0,v1,v2],_,[w0,w1],_ =>
      have g5:DataW.trod enc Tryz.prog w base spare held n3 9 [c5]=some u0:=by simpa [ks] using hf4 0 _ rfl
      have gd2:DataW.trod enc Tryz.prog w base spare held n3 41 [c6,c7,c8]=some u1:=by simpa [kd] using hf4 1 _ rfl
      have g9:DataW.trod enc Tryz.prog w base spare held n3 3 [c9]=some u2:=by simpa [ki] using hf4 2 _ rfl
      have g10:DataW.trod enc Tryz.prog w base spare held n4 3 [c10]=some v0:=by simpa [ki] using hf5 0 _ rfl
      have g11:DataW.trod enc Tryz.prog w base spare held n4 3 [c11]=some v1:=by simpa [ki] using hf5 1 _ rfl
      have g12:DataW.trod enc Tryz.prog w base spare held n4 3 [c12]=some v2:=by simpa [ki] using hf5 2 _ rfl
      have g14:DataW.trod enc Tryz.prog w base spare held n5 9 [c14]=some w0:=by simpa [ks] using hf6 0 _ rfl
      have g15:DataW.trod enc Tryz.prog w base spare held n5 3 [c15]=some w1:=by simpa [ki] using hf6 1 _ rfl
      obtain⟨ts,n6,_,_,_,htl,hf7⟩:=DataW.trod_struct Tryz.underlying41 gd2
      match ts,htl with
      | [t0,t1,t2],_ =>
       have g6:DataW.trod enc Tryz.prog w base spare held n6 3 [c6]=some t0:=by simpa [ki] using hf7 0 _ rfl
       have g7:DataW.trod enc Tryz.prog w base spare held n6 3 [c7]=some t1:=by simpa [ki] using hf7 1 _ rfl
       have g8:DataW.trod enc Tryz.prog w base spare held n6 3 [c8]=some t2:=by simpa [ki] using hf7 2 _ rfl
       obtain⟨b0,e0,_⟩:=DataW.trod_int Tryz.underlying3 g0
       obtain⟨b1,e1,_⟩:=DataW.trod_int Tryz.underlying3 g1
       obtain⟨b2,e2,_⟩:=DataW.trod_int Tryz.underlying3 g2
       obtain⟨b3,e3,_⟩:=DataW.trod_string Tryz.underlying9 g3
       obtain⟨b4,e4,_⟩:=DataW.trod_int Tryz.underlying3 g4
       obtain⟨b5,e5,_⟩:=DataW.trod_string Tryz.underlying9 g5
       obtain⟨b6,e6,_⟩:=DataW.trod_int Tryz.underlying3 g6
       obtain⟨b7,e7,_⟩:=DataW.trod_int Tryz.underlying3 g7
       obtain⟨b8,e8,_⟩:=DataW.trod_int Tryz.underlying3 g8
       obtain⟨b9,e9,_⟩:=DataW.trod_int Tryz.underlying3 g9
       obtain⟨b10,e10,_⟩:=DataW.trod_int Tryz.underlying3 g10
       obtain⟨b11,e11,_⟩:=DataW.trod_int Tryz.underlying3 g11
       obtain⟨b12,e12,_⟩:=DataW.trod_int Tryz.underlying3 g12
       obtain⟨b14,e14,_⟩:=DataW.trod_string Tryz.underlying9 g14
       obtain⟨b15,e15,_⟩:=DataW.trod_int Tryz.underlying3 g15
       obtain⟨b16,e16,_⟩:=DataW.trod_int Tryz.underlying3 g16
       simp only [List.cons.injEq,and_true] at e0 e1 e2 e3 e4 e5 e6 e7 e8 e9 e10 e11 e12 e14 e15 e16
       subst e0 e1 e2 e3 e4 e5 e6 e7 e8 e9 e10 e11 e12 e14 e15 e16
       obtain⟨ls,hls,hg⟩:=open_lines g13
       refine⟨⟨b0,b1,⟨b2,b3,b4,⟨b5,⟨b6,b7,b8⟩,b9⟩,⟨b10,b11,b12⟩,ls,⟨b14,b15⟩,b16⟩⟩,List.all_eq_true.2 hg,
        el_of (t:=.call) (x:=⟨b0,b1,⟨b2,b3,b4,⟨b5,⟨b6,b7,b8⟩,b9⟩,⟨b10,b11,b12⟩,ls,⟨b14,b15⟩,b16⟩⟩)
         (.cons (.int .i64 b0) (.cons (.int .i64 b1) (.cons (.int .i64 b2) (.cons (vr_tx b3) (.cons (.int .i64 b4) (.cons (vr_tx b5) (.cons (.int .i64 b6) (.cons (.int .i64 b7) (.cons (.int .i64 b8) (.cons (.int .i64 b9)
         (.cons (.int .i64 b10) (.cons (.int .i64 b11) (.cons (.int .i64 b12) (.cons hls (.cons (vr_tx b14) (.cons (.int .i64 b15) (.cons (.int .i64 b16) .nil))))))))))))))))) hat⟩
end
end Go.Proofs.YtbknmeafcbhicaaGreatDoor.Ev

/- The slots' places in the small machine's trees, by number. Written by program. -/
namespace Go.Proofs.YtbknmeafcbhicaaGreatDoor.Ev.Aw
open Go
abbrev p0:Path:=[]
abbrev p1:Path:=[true]
abbrev p2:Path:=[false,true]
abbrev p3:Path:=[true,true]
abbrev p4:Path:=[false,false,true]
abbrev p5:Path:=[true,false,true]
abbrev p6:Path:=[false,true,true]
abbrev p7:Path:=[true,true,true]
abbrev p8:Path:=[false,false,false,true]
abbrev p9:Path:=[true,false,false,true]
abbrev p10:Path:=[false,true,false,true]
abbrev p11:Path:=[true,true,false,true]
abbrev p12:Path:=[false,false,true,true]
abbrev p13:Path:=[true,false,true,true]
abbrev p14:Path:=[false,true,true,true]
abbrev p15:Path:=[true,true,true,true]
abbrev p16:Path:=[false,false,false,false,true]
abbrev p17:Path:=[true,false,false,false,true]
abbrev p18:Path:=[false,true,false,false,true]
abbrev p19:Path:=[true,true,false,false,true]
abbrev p20:Path:=[false,false,true,false,true]
abbrev p21:Path:=[true,false,true,false,true]
abbrev p22:Path:=[false,true,true,false,true]
abbrev p23:Path:=[true,true,true,false,true]
abbrev p24:Path:=[false,false,false,true,true]
abbrev p25:Path:=[true,false,false,true,true]
abbrev p26:Path:=[false,true,false,true,true]
abbrev p27:Path:=[true,true,false,true,true]
abbrev p28:Path:=[false,false,true,true,true]
abbrev p29:Path:=[true,false,true,true,true]
abbrev p30:Path:=[false,true,true,true,true]
abbrev p31:Path:=[true,true,true,true,true]
abbrev p32:Path:=[false,false,false,false,false,true]
abbrev p33:Path:=[true,false,false,false,false,true]
abbrev p34:Path:=[false,true,false,false,false,true]
abbrev p35:Path:=[true,true,false,false,false,true]
abbrev p36:Path:=[false,false,true,false,false,true]
abbrev p37:Path:=[true,false,true,false,false,true]
abbrev p38:Path:=[false,true,true,false,false,true]
abbrev p39:Path:=[true,true,true,false,false,true]
abbrev p40:Path:=[false,false,false,true,false,true]
abbrev p41:Path:=[true,false,false,true,false,true]
abbrev p42:Path:=[false,true,false,true,false,true]
abbrev p43:Path:=[true,true,false,true,false,true]
abbrev p44:Path:=[false,false,true,true,false,true]
abbrev p45:Path:=[true,false,true,true,false,true]
abbrev p46:Path:=[false,true,true,true,false,true]
abbrev p47:Path:=[true,true,true,true,false,true]
abbrev p48:Path:=[false,false,false,false,true,true]
abbrev p49:Path:=[true,false,false,false,true,true]
abbrev p50:Path:=[false,true,false,false,true,true]
abbrev p51:Path:=[true,true,false,false,true,true]
abbrev p52:Path:=[false,false,true,false,true,true]
abbrev p53:Path:=[true,false,true,false,true,true]
abbrev p54:Path:=[false,true,true,false,true,true]
abbrev p55:Path:=[true,true,true,false,true,true]
abbrev p56:Path:=[false,false,false,true,true,true]
abbrev p57:Path:=[true,false,false,true,true,true]
abbrev p58:Path:=[false,true,false,true,true,true]
abbrev p59:Path:=[true,true,false,true,true,true]
abbrev p60:Path:=[false,false,true,true,true,true]
abbrev p61:Path:=[true,false,true,true,true,true]
abbrev p62:Path:=[false,true,true,true,true,true]
abbrev p63:Path:=[true,true,true,true,true,true]
abbrev p64:Path:=[false,false,false,false,false,false,true]
abbrev p65:Path:=[true,false,false,false,false,false,true]
abbrev p66:Path:=[false,true,false,false,false,false,true]
abbrev p67:Path:=[true,true,false,false,false,false,true]
abbrev p68:Path:=[false,false,true,false,false,false,true]
abbrev p69:Path:=[true,false,true,false,false,false,true]
abbrev p70:Path:=[false,true,true,false,false,false,true]
abbrev p71:Path:=[true,true,true,false,false,false,true]
abbrev p72:Path:=[false,false,false,true,false,false,true]
abbrev p73:Path:=[true,false,false,true,false,false,true]
abbrev p74:Path:=[false,true,false,true,false,false,true]
abbrev p75:Path:=[true,true,false,true,false,false,true]
abbrev p76:Path:=[false,false,true,true,false,false,true]
abbrev p77:Path:=[true,false,true,true,false,false,true]
abbrev p78:Path:=[false,true,true,true,false,false,true]
abbrev p79:Path:=[true,true,true,true,false,false,true]
abbrev p80:Path:=[false,false,false,false,true,false,true]
abbrev p81:Path:=[true,false,false,false,true,false,true]
abbrev p82:Path:=[false,true,false,false,true,false,true]
abbrev p83:Path:=[true,true,false,false,true,false,true]
abbrev p84:Path:=[false,false,true,false,true,false,true]
abbrev p85:Path:=[true,false,true,false,true,false,true]
abbrev p86:Path:=[false,true,true,false,true,false,true]
abbrev p87:Path:=[true,true,true,false,true,false,true]
abbrev p88:Path:=[false,false,false,true,true,false,true]
abbrev p89:Path:=[true,false,false,true,true,false,true]
abbrev p90:Path:=[false,true,false,true,true,false,true]
abbrev p91:Path:=[true,true,false,true,true,false,true]
abbrev p92:Path:=[false,false,true,true,true,false,true]
abbrev p93:Path:=[true,false,true,true,true,false,true]
abbrev p94:Path:=[false,true,true,true,true,false,true]
abbrev p95:Path:=[true,true,true,true,true,false,true]
abbrev p96:Path:=[false,false,false,false,false,true,true]
abbrev p97:Path:=[true,false,false,false,false,true,true]
abbrev p98:Path:=[false,true,false,false,false,true,true]
abbrev p99:Path:=[true,true,false,false,false,true,true]
abbrev p100:Path:=[false,false,true,false,false,true,true]
abbrev p101:Path:=[true,false,true,false,false,true,true]
abbrev p102:Path:=[false,true,true,false,false,true,true]
abbrev p103:Path:=[true,true,true,false,false,true,true]
abbrev p104:Path:=[false,false,false,true,false,true,true]
abbrev p105:Path:=[true,false,false,true,false,true,true]
abbrev p106:Path:=[false,true,false,true,false,true,true]
abbrev p107:Path:=[true,true,false,true,false,true,true]
abbrev p108:Path:=[false,false,true,true,false,true,true]
abbrev p109:Path:=[true,false,true,true,false,true,true]
abbrev p110:Path:=[false,true,true,true,false,true,true]
abbrev p111:Path:=[true,true,true,true,false,true,true]
abbrev p112:Path:=[false,false,false,false,true,true,true]
abbrev p113:Path:=[true,false,false,false,true,true,true]
abbrev p114:Path:=[false,true,false,false,true,true,true]
abbrev p115:Path:=[true,true,false,false,true,true,true]
abbrev p116:Path:=[false,false,true,false,true,true,true]
abbrev p117:Path:=[true,false,true,false,true,true,true]
abbrev p118:Path:=[false,true,true,false,true,true,true]
abbrev p119:Path:=[true,true,true,false,true,true,true]
abbrev p120:Path:=[false,false,false,true,true,true,true]
abbrev o (d:Path) (k:Kd) (a:List Opd) (b:Nat):AOper:=⟨some d,k,a,none,b⟩
abbrev u (k:Kd) (a:List Opd) (b:Nat):AOper:=⟨none,k,a,none,b⟩
abbrev g (d:Path) (k:Kd) (a:List Opd) (p:Path) (w:Bool) (b:Nat):AOper:=⟨some d,k,a,some (p,w),b⟩
abbrev v (k:Kd) (a:List Opd) (p:Path) (w:Bool) (b:Nat):AOper:=⟨none,k,a,some (p,w),b⟩
abbrev m (d x:Path) (b:Nat):AOper:=⟨some d,.mov,[.t x],none,b⟩
abbrev i (n:Int):Opd:=.c (.int .i64 n)
abbrev s (a b:AC):AC:=.seq a b
abbrev r (l:List AOper):AC:=.reg false l
abbrev d (l:List AOper):AC:=.reg true l
abbrev c (p:Path) (a b:AC):AC:=.cond (.t p) a b
abbrev t0:=Opd.t p0
abbrev t1:=Opd.t p1
abbrev t2:=Opd.t p2
abbrev t3:=Opd.t p3
abbrev t4:=Opd.t p4
abbrev t5:=Opd.t p5
abbrev t6:=Opd.t p6
abbrev t7:=Opd.t p7
abbrev t8:=Opd.t p8
abbrev t9:=Opd.t p9
abbrev t10:=Opd.t p10
abbrev t11:=Opd.t p11
abbrev t12:=Opd.t p12
abbrev t13:=Opd.t p13
abbrev t14:=Opd.t p14
abbrev t15:=Opd.t p15
abbrev t16:=Opd.t p16
abbrev t17:=Opd.t p17
abbrev t18:=Opd.t p18
abbrev t19:=Opd.t p19
abbrev t20:=Opd.t p20
abbrev t21:=Opd.t p21
abbrev t22:=Opd.t p22
abbrev t23:=Opd.t p23
abbrev t24:=Opd.t p24
abbrev t25:=Opd.t p25
abbrev t26:=Opd.t p26
abbrev t27:=Opd.t p27
abbrev t28:=Opd.t p28
abbrev t29:=Opd.t p29
abbrev t30:=Opd.t p30
abbrev t31:=Opd.t p31
abbrev t32:=Opd.t p32
abbrev t33:=Opd.t p33
abbrev t34:=Opd.t p34
abbrev t35:=Opd.t p35
abbrev t36:=Opd.t p36
abbrev t37:=Opd.t p37
abbrev t38:=Opd.t p38
abbrev t39:=Opd.t p39
abbrev t40:=Opd.t p40
abbrev t41:=Opd.t p41
abbrev t42:=Opd.t p42
abbrev t43:=Opd.t p43
abbrev t44:=Opd.t p44
abbrev t45:=Opd.t p45
abbrev t46:=Opd.t p46
abbrev t47:=Opd.t p47
abbrev t48:=Opd.t p48
abbrev t49:=Opd.t p49
abbrev t50:=Opd.t p50
abbrev t51:=Opd.t p51
abbrev t52:=Opd.t p52
abbrev t53:=Opd.t p53
abbrev t54:=Opd.t p54
abbrev t55:=Opd.t p55
abbrev t56:=Opd.t p56
abbrev t57:=Opd.t p57
abbrev t58:=Opd.t p58
abbrev t59:=Opd.t p59
abbrev t60:=Opd.t p60
abbrev t61:=Opd.t p61
abbrev t62:=Opd.t p62
abbrev t63:=Opd.t p63
abbrev t64:=Opd.t p64
abbrev t65:=Opd.t p65
abbrev t66:=Opd.t p66
abbrev t67:=Opd.t p67
abbrev t68:=Opd.t p68
abbrev t69:=Opd.t p69
abbrev t70:=Opd.t p70
abbrev t71:=Opd.t p71
abbrev t72:=Opd.t p72
abbrev t73:=Opd.t p73
abbrev t74:=Opd.t p74
abbrev t75:=Opd.t p75
abbrev t76:=Opd.t p76
abbrev t77:=Opd.t p77
abbrev t78:=Opd.t p78
abbrev t79:=Opd.t p79
abbrev t80:=Opd.t p80
abbrev t81:=Opd.t p81
abbrev t82:=Opd.t p82
abbrev t83:=Opd.t p83
abbrev t84:=Opd.t p84
abbrev t85:=Opd.t p85
abbrev t86:=Opd.t p86
abbrev t87:=Opd.t p87
abbrev t88:=Opd.t p88
abbrev t89:=Opd.t p89
abbrev t90:=Opd.t p90
abbrev t91:=Opd.t p91
abbrev t92:=Opd.t p92
abbrev t93:=Opd.t p93
abbrev t94:=Opd.t p94
abbrev t95:=Opd.t p95
abbrev t96:=Opd.t p96
abbrev t97:=Opd.t p97
abbrev t98:=Opd.t p98
abbrev t99:=Opd.t p99
abbrev t100:=Opd.t p100
abbrev t101:=Opd.t p101
abbrev t102:=Opd.t p102
abbrev t103:=Opd.t p103
abbrev t104:=Opd.t p104
abbrev t105:=Opd.t p105
abbrev t106:=Opd.t p106
abbrev t107:=Opd.t p107
abbrev t108:=Opd.t p108
abbrev t109:=Opd.t p109
abbrev t110:=Opd.t p110
abbrev t111:=Opd.t p111
abbrev t112:=Opd.t p112
abbrev t113:=Opd.t p113
abbrev t114:=Opd.t p114
abbrev t115:=Opd.t p115
abbrev t116:=Opd.t p116
abbrev t117:=Opd.t p117
abbrev t118:=Opd.t p118
abbrev t119:=Opd.t p119
abbrev t120:=Opd.t p120
end Go.Proofs.YtbknmeafcbhicaaGreatDoor.Ev.Aw
