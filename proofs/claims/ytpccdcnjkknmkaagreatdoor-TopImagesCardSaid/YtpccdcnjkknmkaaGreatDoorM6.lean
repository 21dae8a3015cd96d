/- Texts of this proof, put together by program; each has its own remark. -/
import Derived.Test.YtpccdcnjkknmkaaGreatDoorProg
import Derived.Deep.AppendLies
import Derived.Deep.MidRow
import Derived.Deep.RegionLaw
import Derived.Deep.RegionHeld3
import Derived.ChangeSlices
import Derived.Deep.Slices
import Derived.Lib.SmallJoins
import Derived.Test.YtpccdcnjkknmkaaGreatDoorM1
import Derived.Test.YtpccdcnjkknmkaaGreatDoorM3
import Derived.Test.YtpccdcnjkknmkaaGreatDoorM4
import Derived.Test.YtpccdcnjkknmkaaGreatDoorM5

namespace Go.Proofs.YtpccdcnjkknmkaaGreatDoor.Ev
open Go
noncomputable section
def okAt (bs:List UInt8) (p:Nat):Bool:=Nat.ble p bs.length&&(Nat.blt 0 bs.length&&Nat.blt bs.length 100000000)
def gn (bs:List UInt8) (p:Nat):Bool:=gN bs p&&okAt bs p
def gt (bs:List UInt8) (p:Nat):Bool:=gT bs p 64&&okAt bs p
def gf (bs:List UInt8) (p:Nat):Bool:=gF bs p&&okAt bs p
abbrev cP (bs:List UInt8) (r:AV) (p:Nat):Option (AV × List UInt8 × Nat):=some (r,bs,p)
def aN3 (bs:List UInt8) (p:Nat):Nat:=aN bs (aN bs (aN bs p))
def vDay (bs:List UInt8) (p:Nat):bil.Dt:=⟨vN bs p,vN bs (aN bs p),vN bs (aN bs (aN bs p))⟩
def gDay (bs:List UInt8) (p:Nat):Bool:=gn bs p&&(gn bs (aN bs p)&&gn bs (aN bs (aN bs p)))
def qJ4 (ys:List AV) (bs:List UInt8) (p:Nat):Option (Bool × AV × Nat):=match ys with
 | []=>some (gDay bs p,.agg (cD (vDay bs p)),aN3 bs p)
 | _=>none
def c107:ClS:=xR8 65 qJ4 c106
theorem qN1:zA1 Tryz.prog c107:=zU9 qN2 mix qA4 rfl .any qJ4 fun ys bs p r p' h=>by
 unfold qJ4 at h
 split at h<;>first | (cases h;done) | skip
 simp only [Option.some.injEq,Prod.mk.injEq] at h
 obtain⟨hg,rfl,rfl⟩:=h
 unfold gDay at hg
 simp only [Bool.and_eq_true] at hg
 refine⟨0,?_⟩
 have e:zC4 c106 0 uR2 [.ptr 0 0] (rdM bs p) (rdfK .any)=bif gn bs p then bif gn bs (aN bs p) then bif gn bs (aN bs (aN bs p)) then cP bs (.agg (cD (vDay bs p))) (aN3 bs p) else none else none else none:=by kernel_rfl
 rw [e,hg.1,hg.2.1,hg.2.2];rfl
def vRow (bs:List UInt8) (p:Nat):bil.Rt:=⟨⟨⟨vT bs p 64⟩⟩,vDay bs (aT bs p 64),vN bs (aN3 bs (aT bs p 64))⟩
def aRow (bs:List UInt8) (p:Nat):Nat:=aN bs (aN3 bs (aT bs p 64))
def gRow (bs:List UInt8) (p:Nat):Bool:=gt bs p&&(gDay bs (aT bs p 64)&&gn bs (aN3 bs (aT bs p 64)))
def qI9 (ys:List AV) (bs:List UInt8) (p:Nat):Option (Bool × AV × Nat):=match ys with
 | []=>some (gRow bs p,.agg (cRt (vRow bs p)),aRow bs p)
 | _=>none
def c108:ClS:=xR8 20 qI9 c107
theorem qN0:zA1 Tryz.prog c108:=zU9 qN1 mix qA2 rfl .any qI9 fun ys bs p r p' h=>by
 unfold qI9 at h
 split at h<;>first | (cases h;done) | skip
 simp only [Option.some.injEq,Prod.mk.injEq] at h
 obtain⟨hg,rfl,rfl⟩:=h
 unfold gRow at hg
 simp only [Bool.and_eq_true] at hg
 refine⟨0,?_⟩
 have e:zC4 c107 0 uR0 [.ptr 0 0] (rdM bs p) (rdfK .any)=bif gt bs p then bif gDay bs (aT bs p 64)&&true then bif gn bs (aN3 bs (aT bs p 64)) then cP bs (.agg (cRt (vRow bs p))) (aRow bs p) else none else none else none:=by kernel_rfl
 rw [e,hg.1,hg.2.1,hg.2.2];rfl
def vOne (bs:List UInt8) (p:Nat):bil.Sr:=⟨⟨⟨vT bs p 64⟩⟩,1,vN bs (aT bs p 64),vF bs (aN bs (aT bs p 64))⟩
def aOne (bs:List UInt8) (p:Nat):Nat:=aF bs (aN bs (aT bs p 64))
def gOne (bs:List UInt8) (p:Nat):Bool:=gt bs p&&(gn bs (aT bs p 64)&&gf bs (aN bs (aT bs p 64)))
def qJ0 (ys:List AV) (bs:List UInt8) (p:Nat):Option (Bool × AV × Nat):=match ys with
 | []=>some (gOne bs p,.agg (enc .series (vOne bs p)),aOne bs p)
 | _=>none
def c109:ClS:=xR8 22 qJ0 c108
theorem qM9:zA1 Tryz.prog c109:=zU9 qN0 mix qA3 rfl .any qJ0 fun ys bs p r p' h=>by
 unfold qJ0 at h
 split at h<;>first | (cases h;done) | skip
 simp only [Option.some.injEq,Prod.mk.injEq] at h
 obtain⟨hg,rfl,rfl⟩:=h
 unfold gOne at hg
 simp only [Bool.and_eq_true] at hg
 refine⟨0,?_⟩
 have e:zC4 c108 0 uR1 [.ptr 0 0] (rdM bs p) (rdfK .any)=bif gt bs p then bif gn bs (aT bs p 64) then bif gf bs (aN bs (aT bs p 64)) then
  bif vF bs (aN bs (aT bs p 64)) then cP bs (.agg [.str (vT bs p 64),i64 1,i64 (vN bs (aT bs p 64)),.bool true]) (aOne bs p) else cP bs (.agg [.str (vT bs p 64),i64 1,i64 (vN bs (aT bs p 64)),.bool false]) (aOne bs p) else none else none else none:=by kernel_rfl
 rw [e,hg.1,hg.2.1,hg.2.2]
 show (bif vF bs (aN bs (aT bs p 64)) then _ else _)=cP bs (.agg [.str (vT bs p 64),i64 1,i64 (vN bs (aT bs p 64)),.bool (vF bs (aN bs (aT bs p 64)))]) (aOne bs p)
 cases vF bs (aN bs (aT bs p 64))<;>rfl
def zZ8 (bs:List UInt8) (p:Nat):bil.Pt:=⟨⟨⟨vT bs p 64⟩⟩,vN bs (aT bs p 64),vN bs (aN bs (aT bs p 64)),0⟩
def zN7 (bs:List UInt8) (p:Nat):Nat:=aN bs (aN bs (aT bs p 64))
def zY2 (bs:List UInt8) (p:Nat):Bool:=gt bs p&&(gn bs (aT bs p 64)&&gn bs (aN bs (aT bs p 64)))
def vV6 (ys:List AV) (bs:List UInt8) (p:Nat):Option (Bool × AV × Nat):=match ys with
 | []=>some (zY2 bs p,.agg (enc .part (zZ8 bs p)),zN7 bs p)
 | _=>none
def c110:ClS:=xR8 68 vV6 c109
theorem qM8:zA1 Tryz.prog c110:=zU9 qM9 mix uE9 rfl .any vV6 fun ys bs p r p' h=>by
 unfold vV6 at h
 split at h<;>first | (cases h;done) | skip
 simp only [Option.some.injEq,Prod.mk.injEq] at h
 obtain⟨hg,rfl,rfl⟩:=h
 unfold zY2 at hg
 simp only [Bool.and_eq_true] at hg
 refine⟨0,?_⟩
 have e:zC4 c109 0 vB3 [.ptr 0 0] (rdM bs p) (rdfK .any)=bif gt bs p then bif gn bs (aT bs p 64) then bif gn bs (aN bs (aT bs p 64)) then cP bs (.agg (enc .part (zZ8 bs p))) (zN7 bs p) else none else none else none:=by kernel_rfl
 rw [e,hg.1,hg.2.1,hg.2.2];rfl
def aN5 (bs:List UInt8) (p:Nat):Nat:=aN bs (aN bs (aN3 bs p))
def vSes (bs:List UInt8) (p:Nat):bil.Ses:=⟨vN bs p,vN bs (aN bs p),⟨vN bs (aN bs (aN bs p)),vN bs (aN3 bs p),vN bs (aN bs (aN3 bs p))⟩⟩
def gSes (bs:List UInt8) (p:Nat):Bool:=gn bs p&&(gn bs (aN bs p)&&(gn bs (aN bs (aN bs p))&&(gn bs (aN3 bs p)&&gn bs (aN bs (aN3 bs p)))))
def qI8 (ys:List AV) (bs:List UInt8) (p:Nat):Option (Bool × AV × Nat):=match ys with
 | []=>some (gSes bs p,.agg (enc .ses (vSes bs p)),aN5 bs p)
 | _=>none
def c111:ClS:=xR8 26 qI8 c110
theorem qM7:zA1 Tryz.prog c111:=zU9 qM8 mix wR0 rfl .any qI8 fun ys bs p r p' h=>by
 unfold qI8 at h
 split at h<;>first | (cases h;done) | skip
 simp only [Option.some.injEq,Prod.mk.injEq] at h
 obtain⟨hg,rfl,rfl⟩:=h
 unfold gSes at hg
 simp only [Bool.and_eq_true] at hg
 refine⟨0,?_⟩
 have e:zC4 c110 0 xH4 [.ptr 0 0] (rdM bs p) (rdfK .any)=bif gn bs p then bif gn bs (aN bs p) then bif gn bs (aN bs (aN bs p)) then bif gn bs (aN3 bs p) then bif gn bs (aN bs (aN3 bs p)) then cP bs (.agg (enc .ses (vSes bs p))) (aN5 bs p) else none else none else none else none else none:=by kernel_rfl
 rw [e,hg.1,hg.2.1,hg.2.2.1,hg.2.2.2.1,hg.2.2.2.2];rfl
end
noncomputable section
def repL {α:Type} (v:Nat->α) (a:Nat->Nat):Nat->Nat->List α
 | 0,_=>[]
 | k+1,p=>v p::repL v a k (a p)
def repP (a:Nat->Nat):Nat->Nat->Nat
 | 0,p=>p
 | k+1,p=>repP a k (a p)
def repG (g:Nat->Bool) (a:Nat->Nat):Nat->Nat->Bool
 | 0,_=>true
 | k+1,p=>g p&&repG g a k (a p)
def gc (bs:List UInt8) (p:Nat) (most:Int):Bool:=gC bs p most&&okAt bs p
def nCt (bs:List UInt8) (p:Nat) (most:Int):Nat:=(vC bs p most).toNat
def gnC (bs:List UInt8) (p:Nat) (most:Int):Bool:=gc bs p most&&(eqI (vC bs p most) (.ofNat (nCt bs p most))&&Nat.blt (nCt bs p most) 100000)
theorem vO3 {bs:List UInt8} {p:Nat} (h:gRow bs p=true):okAt bs p=true:=by
 unfold gRow gt at h
 simp only [Bool.and_eq_true] at h
 exact h.1.2
theorem vO2 {bs:List UInt8} {p:Nat} (h:gSes bs p=true):okAt bs p=true:=by
 unfold gSes gn at h
 simp only [Bool.and_eq_true] at h
 exact h.1.2
def qB8 (L L' p:Nat) (n i:Int) (bs:List UInt8):Option (AV × List UInt8 × Nat):=zC7 (evS c111 L xR2) xN3 1 L' (stL [(q0,.ptr 0 0),(q2,.fn 20 []),(q7,.nilsl),(q10,i64 n),(q11,i64 i)]) ⟨.node .nil (some (rdB bs p)) .nil,1,1,1⟩ (xN8 c111 L (rdfK (.lst .rate)))
def wR8 (L L' p:Nat) (n i:Int) (l:List bil.Rt) (bs:List UInt8):Option (AV × List UInt8 × Nat):=zC7 (evS c111 L xR2) xN3 1 L' (stL [(q0,.ptr 0 0),(q2,.fn 20 []),(q7,.so 1 5 0 l.length),(q10,i64 n),(q11,i64 i)]) ⟨.node (.node .nil (some ⟨.ls .rate l,5,true⟩) .nil) (some (rdB bs p)) .nil,2,3,3⟩ (xN8 c111 L (rdfK (.lst .rate)))
theorem xJ4 (L L' p i:Nat) (n:Int) (bs:List UInt8):qB8 L (Nat.succ L') p n (.ofNat i) bs =
 bif ltI (.ofNat i) n then bif true&&okAt bs p then bif gRow bs p&&true then wR8 L L' (aRow bs p) n (zA3 .i64 (.ofNat i+1)) [vRow bs p] bs else none else none else some (.fl .rate [],bs,p):=by kernel_rfl
theorem xJ0 (L L' p i:Nat) (n:Int) (l:List bil.Rt) (bs:List UInt8):wR8 L (Nat.succ L') p n (.ofNat i) l bs =
 bif ltI (.ofNat i) n then bif true&&okAt bs p then bif gRow bs p&&true then bif Nat.beq l.length l.length then bif Nat.blt (l.length+1) 1048576 then wR8 L L' (aRow bs p) n (zA3 .i64 (.ofNat i+1)) (l++[vRow bs p]) bs else none else none else none else none
 else bif Nat.beq l.length l.length then some (.fl .rate l,bs,p) else none:=by kernel_rfl
theorem wI2 (L N:Nat) (bs:List UInt8) (hN:N < 100000):∀ (k i f p:Nat) (l:List bil.Rt),i+k=N->k < f->l.length=i->repG (gRow bs) (aRow bs) k p=true ->
  wR8 L f p (.ofNat N) (.ofNat i) l bs=some (.fl .rate (l++repL (vRow bs) (aRow bs) k p),bs,repP (aRow bs) k p)
 | k,i,0,p,l,_,hf,_,_=>by omega
 | 0,i,f+1,p,l,hi,hf,hl,hg=>by
  rw [xJ0,zB6 (by omega),cond_false,zA6 rfl,cond_true]
  show _=some (AV.fl .rate (l++[]),bs,p)
  rw [List.append_nil]
 | k+1,i,f+1,p,l,hi,hf,hl,hg=>by
  rw [repG,Bool.and_eq_true] at hg
  have ih:=wI2 L N bs hN k (i+1) f (aRow bs p) (l++[vRow bs p]) (by omega) (by omega) (by simp [hl]) hg.2
  rw [xJ0,zB4 (by omega),cond_true,vO3 hg.1,hg.1,zA6 rfl,zA0 (by omega),zA2 (by omega)]
  show wR8 L f _ _ _ _ bs=_
  rw [ih,List.append_assoc]
  rfl
theorem uH3 (L N:Nat) (bs:List UInt8) (hN:N < 100000) (f p:Nat) (hf:N < f) (hg:repG (gRow bs) (aRow bs) N p=true) :
  qB8 L f p (.ofNat N) (.ofNat 0) bs=some (.fl .rate (repL (vRow bs) (aRow bs) N p),bs,repP (aRow bs) N p):=by
 obtain⟨f,rfl⟩:∃ f',f=f'+1:=⟨f - 1,by omega⟩
 cases N with
 | zero=>rw [xJ4,zB6 (Nat.le_refl _),cond_false];rfl
 | succ N =>
  rw [repG,Bool.and_eq_true] at hg
  rw [xJ4,zB4 (by omega),cond_true,vO3 hg.1,hg.1,zA2 (by omega)]
  show wR8 L f _ _ _ _ bs=_
  rw [wI2 L (N+1) bs hN N 1 f (aRow bs p) [vRow bs p] (by omega) (by omega) rfl hg.2]
  rfl
def xD4 (ys:List AV) (bs:List UInt8) (p:Nat):Option (Bool × AV × Nat):=match ys with
 | [.int .i64 most,.fn 20 []]=>some (gnC bs p most&&repG (gRow bs) (aRow bs) (nCt bs p most) (aC bs p most),.fl .rate (repL (vRow bs) (aRow bs) (nCt bs p most) (aC bs p most)),repP (aRow bs) (nCt bs p most) (aC bs p most))
 | _=>none
def c112:ClS:=xR8 19 xD4 c111
theorem qM6:zA1 Tryz.prog c112:=zU9 qM7 mix vG4 rfl (.lst .rate) xD4 fun ys bs p r p' h=>by
 unfold xD4 at h
 split at h<;>first | (cases h;done) | skip
 rename_i most
 simp only [Option.some.injEq,Prod.mk.injEq] at h
 obtain⟨hg,rfl,rfl⟩:=h
 unfold gnC at hg
 simp only [Bool.and_eq_true] at hg
 obtain⟨⟨h1,h2,h3⟩,h4⟩:=hg
 have h3:nCt bs p most < 100000:=blt_iff.1 h3
 rw [zC5,decide_eq_true_eq] at h2
 refine⟨100001,?_⟩
 have e:∀ L,zC4 c111 L s_liRate [.ptr 0 0,.int .i64 most,.fn 20 []] (rdM bs p) (rdfK (.lst .rate))=bif gc bs p most then qB8 L L (aC bs p most) (vC bs p most) (.ofNat 0) bs else none:=fun L=>by kernel_rfl
 rw [e,h1,cond_true,h2,uH3 100001 _ bs h3 100001 _ (by omega) h4]
def qB7 (L L' p:Nat) (n i:Int) (bs:List UInt8):Option (AV × List UInt8 × Nat):=zC7 (evS c112 L wL6) wI9 1 L' (stL [(q0,.ptr 0 0),(q2,.fn 26 []),(q7,.nilsl),(q10,i64 n),(q11,i64 i)]) ⟨.node .nil (some (rdB bs p)) .nil,1,1,1⟩ (wJ2 c112 L (rdfK (.lst .ses)))
def wR6 (L L' p:Nat) (n i:Int) (l:List bil.Ses) (bs:List UInt8):Option (AV × List UInt8 × Nat):=zC7 (evS c112 L wL6) wI9 1 L' (stL [(q0,.ptr 0 0),(q2,.fn 26 []),(q7,.so 1 5 0 l.length),(q10,i64 n),(q11,i64 i)]) ⟨.node (.node .nil (some ⟨.ls .ses l,5,true⟩) .nil) (some (rdB bs p)) .nil,2,3,3⟩ (wJ2 c112 L (rdfK (.lst .ses)))
theorem xJ2 (L L' p i:Nat) (n:Int) (bs:List UInt8):qB7 L (Nat.succ L') p n (.ofNat i) bs =
 bif ltI (.ofNat i) n then bif true&&okAt bs p then bif gSes bs p&&true then wR6 L L' (aN5 bs p) n (zA3 .i64 (.ofNat i+1)) [vSes bs p] bs else none else none else some (.fl .ses [],bs,p):=by kernel_rfl
theorem xI8 (L L' p i:Nat) (n:Int) (l:List bil.Ses) (bs:List UInt8):wR6 L (Nat.succ L') p n (.ofNat i) l bs =
 bif ltI (.ofNat i) n then bif true&&okAt bs p then bif gSes bs p&&true then bif Nat.beq l.length l.length then bif Nat.blt (l.length+1) 1048576 then wR6 L L' (aN5 bs p) n (zA3 .i64 (.ofNat i+1)) (l++[vSes bs p]) bs else none else none else none else none
 else bif Nat.beq l.length l.length then some (.fl .ses l,bs,p) else none:=by kernel_rfl
theorem wI0 (L N:Nat) (bs:List UInt8) (hN:N < 100000):∀ (k i f p:Nat) (l:List bil.Ses),i+k=N->k < f->l.length=i->repG (gSes bs) (aN5 bs) k p=true ->
  wR6 L f p (.ofNat N) (.ofNat i) l bs=some (.fl .ses (l++repL (vSes bs) (aN5 bs) k p),bs,repP (aN5 bs) k p)
 | k,i,0,p,l,_,hf,_,_=>by omega
 | 0,i,f+1,p,l,hi,hf,hl,hg=>by
  rw [xI8,zB6 (by omega),cond_false,zA6 rfl,cond_true]
  show _=some (AV.fl .ses (l++[]),bs,p)
  rw [List.append_nil]
 | k+1,i,f+1,p,l,hi,hf,hl,hg=>by
  rw [repG,Bool.and_eq_true] at hg
  have ih:=wI0 L N bs hN k (i+1) f (aN5 bs p) (l++[vSes bs p]) (by omega) (by omega) (by simp [hl]) hg.2
  rw [xI8,zB4 (by omega),cond_true,vO2 hg.1,hg.1,zA6 rfl,zA0 (by omega),zA2 (by omega)]
  show wR6 L f _ _ _ _ bs=_
  rw [ih,List.append_assoc]
  rfl
theorem uH2 (L N:Nat) (bs:List UInt8) (hN:N < 100000) (f p:Nat) (hf:N < f) (hg:repG (gSes bs) (aN5 bs) N p=true) :
  qB7 L f p (.ofNat N) (.ofNat 0) bs=some (.fl .ses (repL (vSes bs) (aN5 bs) N p),bs,repP (aN5 bs) N p):=by
 obtain⟨f,rfl⟩:∃ f',f=f'+1:=⟨f - 1,by omega⟩
 cases N with
 | zero=>rw [xJ2,zB6 (Nat.le_refl _),cond_false];rfl
 | succ N =>
  rw [repG,Bool.and_eq_true] at hg
  rw [xJ2,zB4 (by omega),cond_true,vO2 hg.1,hg.1,zA2 (by omega)]
  show wR6 L f _ _ _ _ bs=_
  rw [wI0 L (N+1) bs hN N 1 f (aN5 bs p) [vSes bs p] (by omega) (by omega) rfl hg.2]
  rfl
def wA1 (ys:List AV) (bs:List UInt8) (p:Nat):Option (Bool × AV × Nat):=match ys with
 | [.int .i64 most,.fn 26 []]=>some (gnC bs p most&&repG (gSes bs) (aN5 bs) (nCt bs p most) (aC bs p most),.fl .ses (repL (vSes bs) (aN5 bs) (nCt bs p most) (aC bs p most)),repP (aN5 bs) (nCt bs p most) (aC bs p most))
 | _=>none
def c113:ClS:=xR8 25 wA1 c112
theorem qM5:zA1 Tryz.prog c113:=zU9 qM6 mix uE4 rfl (.lst .ses) wA1 fun ys bs p r p' h=>by
 unfold wA1 at h
 split at h<;>first | (cases h;done) | skip
 rename_i most
 simp only [Option.some.injEq,Prod.mk.injEq] at h
 obtain⟨hg,rfl,rfl⟩:=h
 unfold gnC at hg
 simp only [Bool.and_eq_true] at hg
 obtain⟨⟨h1,h2,h3⟩,h4⟩:=hg
 have h3:nCt bs p most < 100000:=blt_iff.1 h3
 rw [zC5,decide_eq_true_eq] at h2
 refine⟨100001,?_⟩
 have e:∀ L,zC4 c112 L s_liSes [.ptr 0 0,.int .i64 most,.fn 26 []] (rdM bs p) (rdfK (.lst .ses))=bif gc bs p most then qB7 L L (aC bs p most) (vC bs p most) (.ofNat 0) bs else none:=fun L=>by kernel_rfl
 rw [e,h1,cond_true,h2,uH2 100001 _ bs h3 100001 _ (by omega) h4]
end
set_option maxHeartbeats 4000000
set_option maxRecDepth 100000
def d_liPart:SOf Tryz.prog 67 [([0,2,7,10,11],1)] [(15,(.ty .part 0))]:=⟨_,by conv=>lhs;reduce⟩
def s_liPart:FnS:=d_liPart.1
def xN4:List Path:=[q0,q2,q7,q10,q11]
def xR3:SC:=(⟨_,by conv=>lhs;reduce⟩:VOf (s_liPart.lp 0)).1
def vV1:SC:=(⟨_,by conv=>lhs;reduce⟩:VOf (s_liPart.af 0)).1
def xN9 {β:Type} (cl:ClS) (L:Nat) (K:AV->Mem->Option β):Ex->T AV->Mem->Option β:=kBlk 0 (kSeq (evS cl L vV1) (endS s_liPart.res K))
theorem vG5:zB2 Tryz.prog 67 s_liPart:=zA8 d_liPart.2
def d_liSr:SOf Tryz.prog 21 [([0,2,7,10,11],1)] [(15,(.ty .series 0))]:=⟨_,by conv=>lhs;reduce⟩
def s_liSr:FnS:=d_liSr.1
def vL4:List Path:=[q0,q2,q7,q10,q11]
def vT0:SC:=(⟨_,by conv=>lhs;reduce⟩:VOf (s_liSr.lp 0)).1
def qI3:SC:=(⟨_,by conv=>lhs;reduce⟩:VOf (s_liSr.af 0)).1
def vM6 {β:Type} (cl:ClS) (L:Nat) (K:AV->Mem->Option β):Ex->T AV->Mem->Option β:=kBlk 0 (kSeq (evS cl L qI3) (endS s_liSr.res K))
theorem uZ9:zB2 Tryz.prog 21 s_liSr:=zA8 d_liSr.2
def d_iPosted:SOf Tryz.prog 24 [] []:=⟨_,by conv=>lhs;reduce⟩
def xH3:FnS:=d_iPosted.1
theorem wQ9:zB2 Tryz.prog 24 xH3:=zA8 d_iPosted.2
noncomputable section
theorem wK1 {bs:List UInt8} {p:Nat} (h:zY2 bs p=true):okAt bs p=true:=by
 unfold zY2 gt at h
 simp only [Bool.and_eq_true] at h
 exact h.1.2
theorem vO5 {bs:List UInt8} {p:Nat} (h:gOne bs p=true):okAt bs p=true:=by
 unfold gOne gt at h
 simp only [Bool.and_eq_true] at h
 exact h.1.2
def qR5 (L L' p:Nat) (n i:Int) (bs:List UInt8):Option (AV × T Blk × Nat):=zC7 (evS c113 L xR3) xN4 1 L' (stL [(q0,.ptr 0 0),(q2,.fn 68 []),(q7,.nilsl),(q10,i64 n),(q11,i64 i)]) ⟨.node .nil (some (rdB bs p)) .nil,1,1,1⟩ (xN9 c113 L fun r m=>zD1 1 r m fun r m=>some (r,m.h,m.nx))
def wR9 (L L' p:Nat) (n i:Int) (l:List bil.Pt) (bs:List UInt8):Option (AV × T Blk × Nat):=zC7 (evS c113 L xR3) xN4 1 L' (stL [(q0,.ptr 0 0),(q2,.fn 68 []),(q7,.so 1 4 0 l.length),(q10,i64 n),(q11,i64 i)]) ⟨.node (.node .nil (some ⟨.ls .part l,4,true⟩) .nil) (some (rdB bs p)) .nil,2,3,3⟩ (xN9 c113 L fun r m=>zD1 1 r m fun r m=>some (r,m.h,m.nx))
def rsPq (bs:List UInt8) (p:Nat) (l:List bil.Pt):Option (AV × T Blk × Nat):=some (.so 1 4 0 l.length,.node (.node .nil (some ⟨.ls .part l,4,true⟩) .nil) (some (rdB bs p)) .nil,2)
theorem xJ5 (L L' p i:Nat) (n:Int) (bs:List UInt8):qR5 L (Nat.succ L') p n (.ofNat i) bs =
 bif ltI (.ofNat i) n then bif true&&okAt bs p then bif zY2 bs p&&true then wR9 L L' (zN7 bs p) n (zA3 .i64 (.ofNat i+1)) [zZ8 bs p] bs else none else none else some (.nilsl,.node .nil (some (rdB bs p)) .nil,1):=by kernel_rfl
theorem xJ1 (L L' p i:Nat) (n:Int) (l:List bil.Pt) (bs:List UInt8):wR9 L (Nat.succ L') p n (.ofNat i) l bs =
 bif ltI (.ofNat i) n then bif true&&okAt bs p then bif zY2 bs p&&true then bif Nat.beq l.length l.length then bif Nat.blt (l.length+1) 1048576 then wR9 L L' (zN7 bs p) n (zA3 .i64 (.ofNat i+1)) (l++[zZ8 bs p]) bs else none else none else none else none
 else rsPq bs p l:=by kernel_rfl
theorem wI3 (L N:Nat) (bs:List UInt8) (hN:N < 100000):∀ (k i f p:Nat) (l:List bil.Pt),i+k=N->k < f->l.length=i->repG (zY2 bs) (zN7 bs) k p=true ->
  wR9 L f p (.ofNat N) (.ofNat i) l bs=rsPq bs (repP (zN7 bs) k p) (l++repL (zZ8 bs) (zN7 bs) k p)
 | k,i,0,p,l,_,hf,_,_=>by omega
 | 0,i,f+1,p,l,hi,hf,hl,hg=>by
  rw [xJ1,zB6 (by omega),cond_false]
  show _=rsPq bs p (l++[])
  rw [List.append_nil]
 | k+1,i,f+1,p,l,hi,hf,hl,hg=>by
  rw [repG,Bool.and_eq_true] at hg
  have ih:=wI3 L N bs hN k (i+1) f (zN7 bs p) (l++[zZ8 bs p]) (by omega) (by omega) (by simp [hl]) hg.2
  rw [xJ1,zB4 (by omega),cond_true,wK1 hg.1,hg.1,zA6 rfl,zA0 (by omega),zA2 (by omega)]
  show wR9 L f _ _ _ _ bs=_
  rw [ih,List.append_assoc]
  rfl
def xD5:List AV->Mem->List (Bool × AV × T Blk × Nat)
 | [.ptr 0 0,.int .i64 most,.fn 68 []],⟨.node .nil (some ⟨.raw [.fl .byte bs,.int .i64 (.ofNat p),.int .i64 (.ofNat 0)],1,false⟩) .nil,1,0,0⟩ =>
  [((gnC bs p most&&Nat.beq (nCt bs p most) 0),.nilsl,.node .nil (some (rdB bs (aC bs p most))) .nil,1),
   ((gnC bs p most&&(repG (zY2 bs) (zN7 bs) (nCt bs p most) (aC bs p most)&&Nat.blt 0 (nCt bs p most))),.so 1 4 0 (repL (zZ8 bs) (zN7 bs) (nCt bs p most) (aC bs p most)).length,.node (.node .nil (some ⟨.ls .part (repL (zZ8 bs) (zN7 bs) (nCt bs p most) (aC bs p most)),4,true⟩) .nil) (some (rdB bs (repP (zN7 bs) (nCt bs p most) (aC bs p most)))) .nil,2)]
 | _,_=>[]
def c114:ClS:=zV0 67 xD5 c113
theorem qM4:zA1 Tryz.prog c114:=zG4 qM5 mix vG5 xD5 fun xs m r h1 n1 h=>by
 unfold xD5 at h
 split at h<;>first | (cases h;done) | skip
 rename_i most bs p
 have e:∀ L,zC4 c113 L s_liPart [.ptr 0 0,.int .i64 most,.fn 68 []] (rdM bs p) (fun r m=>zD1 1 r m fun r m=>some (r,m.h,m.nx))=bif gc bs p most then qR5 L L (aC bs p most) (vC bs p most) (.ofNat 0) bs else none:=fun L=>by kernel_rfl
 cases hc:gnC bs p most with
 | false=>rw [hc] at h;cases h
 | true =>
  have hg:=hc
  unfold gnC at hg
  simp only [Bool.and_eq_true] at hg
  obtain⟨g1,g2,g3⟩:=hg
  have g3:nCt bs p most < 100000:=blt_iff.1 g3
  rw [zC5,decide_eq_true_eq] at g2
  rw [hc,Bool.true_and] at h
  cases hz:Nat.beq (nCt bs p most) 0 with
  | true =>
   rw [hz] at h
   cases h
   have h0:nCt bs p most=0:=beqN.1 hz
   refine⟨rfl,100001,(e _).trans ?_⟩
   rw [g1,cond_true,g2,h0,xJ5 100001 100000,zB6 (Nat.le_refl _),cond_false]
  | false =>
   rw [hz,Bool.true_and] at h
   cases hr:repG (zY2 bs) (zN7 bs) (nCt bs p most) (aC bs p most)&&Nat.blt 0 (nCt bs p most) with
   | false=>rw [hr] at h;cases h
   | true =>
    rw [hr] at h
    cases h
    rw [Bool.and_eq_true] at hr
    obtain⟨k,hk⟩:∃ k,nCt bs p most=k+1:=⟨nCt bs p most - 1,by have:=blt_iff.1 hr.2;omega⟩
    refine⟨rfl,100001,(e _).trans ?_⟩
    rw [hk] at hr g3 g2 ⊢
    have hr1:=hr.1
    rw [repG,Bool.and_eq_true] at hr1
    rw [g1,cond_true,g2,xJ5 100001 100000,zB4 (by omega),cond_true,wK1 hr1.1,hr1.1,zA2 (by omega)]
    show wR9 100001 100000 _ _ _ _ bs=_
    rw [wI3 100001 (k+1) bs g3 k 1 100000 (zN7 bs (aC bs p most)) [zZ8 bs (aC bs p most)] (by omega) (by omega) rfl hr1.2]
    rfl
def qR4 (L L' p:Nat) (n i:Int) (bs:List UInt8):Option (AV × T Blk × Nat):=zC7 (evS c114 L vT0) vL4 1 L' (stL [(q0,.ptr 0 0),(q2,.fn 22 []),(q7,.nilsl),(q10,i64 n),(q11,i64 i)]) ⟨.node .nil (some (rdB bs p)) .nil,1,1,1⟩ (vM6 c114 L fun r m=>zD1 1 r m fun r m=>some (r,m.h,m.nx))
def wR7 (L L' p:Nat) (n i:Int) (l:List bil.Sr) (bs:List UInt8):Option (AV × T Blk × Nat):=zC7 (evS c114 L vT0) vL4 1 L' (stL [(q0,.ptr 0 0),(q2,.fn 22 []),(q7,.so 1 4 0 l.length),(q10,i64 n),(q11,i64 i)]) ⟨.node (.node .nil (some ⟨.ls .series l,4,true⟩) .nil) (some (rdB bs p)) .nil,2,3,3⟩ (vM6 c114 L fun r m=>zD1 1 r m fun r m=>some (r,m.h,m.nx))
def rsSq (bs:List UInt8) (p:Nat) (l:List bil.Sr):Option (AV × T Blk × Nat):=some (.so 1 4 0 l.length,.node (.node .nil (some ⟨.ls .series l,4,true⟩) .nil) (some (rdB bs p)) .nil,2)
theorem xJ3 (L L' p i:Nat) (n:Int) (bs:List UInt8):qR4 L (Nat.succ L') p n (.ofNat i) bs =
 bif ltI (.ofNat i) n then bif true&&okAt bs p then bif gOne bs p&&true then wR7 L L' (aOne bs p) n (zA3 .i64 (.ofNat i+1)) [vOne bs p] bs else none else none else some (.nilsl,.node .nil (some (rdB bs p)) .nil,1):=by kernel_rfl
theorem xI9 (L L' p i:Nat) (n:Int) (l:List bil.Sr) (bs:List UInt8):wR7 L (Nat.succ L') p n (.ofNat i) l bs =
 bif ltI (.ofNat i) n then bif true&&okAt bs p then bif gOne bs p&&true then bif Nat.beq l.length l.length then bif Nat.blt (l.length+1) 1048576 then wR7 L L' (aOne bs p) n (zA3 .i64 (.ofNat i+1)) (l++[vOne bs p]) bs else none else none else none else none
 else rsSq bs p l:=by kernel_rfl
theorem wI1 (L N:Nat) (bs:List UInt8) (hN:N < 100000):∀ (k i f p:Nat) (l:List bil.Sr),i+k=N->k < f->l.length=i->repG (gOne bs) (aOne bs) k p=true ->
  wR7 L f p (.ofNat N) (.ofNat i) l bs=rsSq bs (repP (aOne bs) k p) (l++repL (vOne bs) (aOne bs) k p)
 | k,i,0,p,l,_,hf,_,_=>by omega
 | 0,i,f+1,p,l,hi,hf,hl,hg=>by
  rw [xI9,zB6 (by omega),cond_false]
  show _=rsSq bs p (l++[])
  rw [List.append_nil]
 | k+1,i,f+1,p,l,hi,hf,hl,hg=>by
  rw [repG,Bool.and_eq_true] at hg
  have ih:=wI1 L N bs hN k (i+1) f (aOne bs p) (l++[vOne bs p]) (by omega) (by omega) (by simp [hl]) hg.2
  rw [xI9,zB4 (by omega),cond_true,vO5 hg.1,hg.1,zA6 rfl,zA0 (by omega),zA2 (by omega)]
  show wR7 L f _ _ _ _ bs=_
  rw [ih,List.append_assoc]
  rfl
def vW1:List AV->Mem->List (Bool × AV × T Blk × Nat)
 | [.ptr 0 0,.int .i64 most,.fn 22 []],⟨.node .nil (some ⟨.raw [.fl .byte bs,.int .i64 (.ofNat p),.int .i64 (.ofNat 0)],1,false⟩) .nil,1,0,0⟩ =>
  [((gnC bs p most&&Nat.beq (nCt bs p most) 0),.nilsl,.node .nil (some (rdB bs (aC bs p most))) .nil,1),
   ((gnC bs p most&&(repG (gOne bs) (aOne bs) (nCt bs p most) (aC bs p most)&&Nat.blt 0 (nCt bs p most))),.so 1 4 0 (repL (vOne bs) (aOne bs) (nCt bs p most) (aC bs p most)).length,.node (.node .nil (some ⟨.ls .series (repL (vOne bs) (aOne bs) (nCt bs p most) (aC bs p most)),4,true⟩) .nil) (some (rdB bs (repP (aOne bs) (nCt bs p most) (aC bs p most)))) .nil,2)]
 | _,_=>[]
def c115:ClS:=zV0 21 vW1 c114
theorem qM3:zA1 Tryz.prog c115:=zG4 qM4 mix uZ9 vW1 fun xs m r h1 n1 h=>by
 unfold vW1 at h
 split at h<;>first | (cases h;done) | skip
 rename_i most bs p
 have e:∀ L,zC4 c114 L s_liSr [.ptr 0 0,.int .i64 most,.fn 22 []] (rdM bs p) (fun r m=>zD1 1 r m fun r m=>some (r,m.h,m.nx))=bif gc bs p most then qR4 L L (aC bs p most) (vC bs p most) (.ofNat 0) bs else none:=fun L=>by kernel_rfl
 cases hc:gnC bs p most with
 | false=>rw [hc] at h;cases h
 | true =>
  have hg:=hc
  unfold gnC at hg
  simp only [Bool.and_eq_true] at hg
  obtain⟨g1,g2,g3⟩:=hg
  have g3:nCt bs p most < 100000:=blt_iff.1 g3
  rw [zC5,decide_eq_true_eq] at g2
  rw [hc,Bool.true_and] at h
  cases hz:Nat.beq (nCt bs p most) 0 with
  | true =>
   rw [hz] at h
   cases h
   have h0:nCt bs p most=0:=beqN.1 hz
   refine⟨rfl,100001,(e _).trans ?_⟩
   rw [g1,cond_true,g2,h0,xJ3 100001 100000,zB6 (Nat.le_refl _),cond_false]
  | false =>
   rw [hz,Bool.true_and] at h
   cases hr:repG (gOne bs) (aOne bs) (nCt bs p most) (aC bs p most)&&Nat.blt 0 (nCt bs p most) with
   | false=>rw [hr] at h;cases h
   | true =>
    rw [hr] at h
    cases h
    rw [Bool.and_eq_true] at hr
    obtain⟨k,hk⟩:∃ k,nCt bs p most=k+1:=⟨nCt bs p most - 1,by have:=blt_iff.1 hr.2;omega⟩
    refine⟨rfl,100001,(e _).trans ?_⟩
    rw [hk] at hr g3 g2 ⊢
    have hr1:=hr.1
    rw [repG,Bool.and_eq_true] at hr1
    rw [g1,cond_true,g2,xJ3 100001 100000,zB4 (by omega),cond_true,vO5 hr1.1,hr1.1,zA2 (by omega)]
    show wR7 100001 100000 _ _ _ _ bs=_
    rw [wI1 100001 (k+1) bs g3 k 1 100000 (aOne bs (aC bs p most)) [vOne bs (aC bs p most)] (by omega) (by omega) rfl hr1.2]
    rfl
end
noncomputable section
def p2P (bs:List UInt8) (p:Nat):Nat:=aN3 bs (aT bs p 64)
def p4P (bs:List UInt8) (p:Nat):Nat:=aN bs (aT bs (p2P bs p) 64)
def nPq (bs:List UInt8) (p:Nat):Nat:=nCt bs (p4P bs p) 12
def p5P (bs:List UInt8) (p:Nat):Nat:=aC bs (p4P bs p) 12
def vPs (bs:List UInt8) (p:Nat):List bil.Pt:=repL (zZ8 bs) (zN7 bs) (nPq bs p) (p5P bs p)
def vPst (bs:List UInt8) (p:Nat):bil.Pst:=⟨⟨⟨⟨vT bs p 64⟩⟩,0⟩,vDay bs (aT bs p 64),⟨0,0,0,vPs bs p⟩,⟨⟨⟨vT bs (p2P bs p) 64⟩⟩,vN bs (aT bs (p2P bs p) 64)⟩,false⟩
def aPst (bs:List UInt8) (p:Nat):Nat:=repP (zN7 bs) (nPq bs p) (p5P bs p)
def gPst (bs:List UInt8) (p:Nat):Bool:=gt bs p&&(gDay bs (aT bs p 64)&&(gt bs (p2P bs p)&&(gn bs (aT bs (p2P bs p) 64)&&(gnC bs (p4P bs p) 12&&(repG (zY2 bs) (zN7 bs) (nPq bs p) (p5P bs p)&&Nat.blt 0 (nPq bs p))))))
def cPst (x:bil.Pst) (v:AV):List AV:=[tx x.ref.ser,i64 x.ref.num,i64 x.day.y,i64 x.day.m,i64 x.day.d,i64 x.tot.net,i64 x.tot.tax,i64 x.tot.gross,v,tx x.of_.ser,i64 x.of_.num,.bool x.back]
def qJ6:List AV->Mem->List (Bool × AV × T Blk × Nat)
 | [.ptr 0 0],⟨.node .nil (some ⟨.raw [.fl .byte bs,.int .i64 (.ofNat p),.int .i64 (.ofNat 0)],1,false⟩) .nil,1,0,0⟩ =>
  [(gPst bs p,.agg (cPst (vPst bs p) (.so 1 4 0 (vPs bs p).length)),.node (.node .nil (some ⟨.ls .part (vPs bs p),4,true⟩) .nil) (some (rdB bs (aPst bs p))) .nil,2)]
 | _,_=>[]
def c116:ClS:=zV0 24 qJ6 c115
theorem zN9:zA1 Tryz.prog c116:=zG4 qM3 mix wQ9 qJ6 fun xs m r h1 n1 h=>by
 unfold qJ6 at h
 split at h<;>first | (cases h;done) | skip
 rename_i bs p
 cases hg:gPst bs p with
 | false=>rw [hg] at h;cases h
 | true =>
  rw [hg] at h
  cases h
  unfold gPst at hg
  simp only [Bool.and_eq_true] at hg
  obtain⟨g1,g2,g3,g4,g5,g6,g7⟩:=hg
  refine⟨rfl,0,?_⟩
  have e:zC4 c115 0 xH3 [.ptr 0 0] (rdM bs p) (fun r m=>zD1 1 r m fun r m=>some (r,m.h,m.nx)) =
   bif gt bs p then bif gDay bs (aT bs p 64)&&true then bif gt bs (p2P bs p) then bif gn bs (aT bs (p2P bs p) 64) then bif gnC bs (p4P bs p) 12&&Nat.beq (nPq bs p) 0 then
     some (.agg (cPst (vPst bs p) .nilsl),.node .nil (some (rdB bs (p5P bs p))) .nil,1)
    else bif gnC bs (p4P bs p) 12&&(repG (zY2 bs) (zN7 bs) (nPq bs p) (p5P bs p)&&Nat.blt 0 (nPq bs p)) then
     some (.agg (cPst (vPst bs p) (.so 1 4 0 (vPs bs p).length)),.node (.node .nil (some ⟨.ls .part (vPs bs p),4,true⟩) .nil) (some (rdB bs (aPst bs p))) .nil,2) else none
   else none else none else none else none:=by kernel_rfl
  refine e.trans ?_
  have h0:Nat.beq (nPq bs p) 0=false:=zL3 (by have:=blt_iff.1 g7;omega)
  rw [g1,g2,g3,g4,g5,g6,g7,h0]
  rfl
end
noncomputable section
def sL:SC->SC | .seq a _=>a | c=>c
def sR:SC->SC | .seq _ b=>b | c=>c
def sB:SC->SC | .blk _ b=>b | c=>c
def opsOf:SC->List SOp | .reg _ l=>l | _=>[]
abbrev fnP:AV:=.fn 24 []
def zB:Blk:=⟨.raw [.nilsl,.nilsl,.nilsl,.nilsl,.nilsl,i64 0],1,false⟩
def gB (t:List bil.Rt) (L:List bil.Sr) (bs:List UInt8) (p:Nat):List Blk:=[zB,rdB bs p,⟨.raw [.fl .rate t,.so 3 4 0 L.length,.nilsl,.nilsl,.nilsl,i64 0],1,false⟩,⟨.ls .series L,4,true⟩]
def vQ (k:Bool) (l:List Pnd):AV:=match k with | false=>.nilsl | true=>.so 4 12 0 l.length
def mQ (t:List bil.Rt) (L:List bil.Sr) (bs:List UInt8) (p:Nat) (k:Bool) (l:List Pnd):List Blk:=gB t L bs p++(match k with | false=>[] | true=>[⟨.ls .pend l,12,true⟩])
def tmQ (v:AV) (n i:Int):T AV:=stL [(q0,.ptr 1 0),(q2,fnP),(q7,v),(q10,i64 n),(q11,i64 i)]
def tmQ1 (v:AV) (n i:Int) (b:Bool):T AV:=stL [(q0,.ptr 1 0),(q2,fnP),(q7,v),(q10,i64 n),(q11,i64 i),(q12,.bool b)]
def tmQ4 (v:AV) (n i:Int) (x:AV):T AV:=stL [(q0,.ptr 1 0),(q2,fnP),(q7,v),(q10,i64 n),(q11,i64 i),(q16,v),(q19,x)]
def lvQ1:List Path:=[q0,q2,q7,q10,q11,q12]
def lvQ4:List Path:=[q0,q2,q7,q10,q11,q16,q19]
section
variable (t:List bil.Rt) (L:List bil.Sr) (bs:List UInt8) (p:Nat) (l:List Pnd) (N i:Int)
theorem pQ1 (k:Bool):evS c116 0 (sL zC6) (tmQ (vQ k l) N i) (gM (mQ t L bs p k l)) (gK lvQ1 4) =
  bif ltI i N then some (.nrm,tmQ1 (vQ k l) N i true,gM (mQ t L bs p k l)) else some (.nrm,tmQ1 (vQ k l) N i false,gM (mQ t L bs p k l)):=by
 cases k<;>kernel_rfl
theorem pQ2 (k:Bool):evS c116 0 (sL (sR zC6)) (tmQ1 (vQ k l) N i true) (gM (mQ t L bs p k l)) (gK zP0 4)=some (.nrm,tmQ (vQ k l) N i,gM (mQ t L bs p k l)):=by
 cases k<;>kernel_rfl
theorem pQ2x (k:Bool):evS c116 0 (sL (sR zC6)) (tmQ1 (vQ k l) N i false) (gM (mQ t L bs p k l)) (gK zP0 4)=some (.ext 0,tmQ (vQ k l) N i,gM (mQ t L bs p k l)):=by
 cases k<;>kernel_rfl
theorem pQ3 (k:Bool):evS c116 0 (sL (sB (sL (sR (sR zC6))))) (tmQ (vQ k l) N i) (gM (mQ t L bs p k l)) (gK zP0 4)=bif true&&okAt bs p then some (.nrm,tmQ (vQ k l) N i,gM (mQ t L bs p k l)) else none:=by
 cases k<;>kernel_rfl
def ptB (l:List bil.Pt):Blk:=⟨.ls .part l,4,true⟩
def nQ (k:Bool):Nat:=bif k then 5 else 4
theorem pQ4 (k:Bool):opsS c116 ((opsOf (sR (sB (sL (sR (sR zC6)))))).take 4) (tmQ (vQ k l) N i) (gM (mQ t L bs p k l)) (gO lvQ4 4) =
  bif gPst bs p then some (tmQ4 (vQ k l) N i (.agg (cPst (vPst bs p) (.so (nQ k) 4 0 (vPs bs p).length))),gM (mQ t L bs (aPst bs p) k l++[ptB (vPs bs p)])) else none:=by
 cases k<;>kernel_rfl
def sufQ (k:Bool) (l:List Pnd) (r:Option (T AV × Mem)):Option (T AV × Mem):=match k with
 | false=>r
 | true=>bif Nat.beq l.length l.length then bif Nat.blt (l.length+1) 1048576 then r else none else none
def appQ (k:Bool) (l:List Pnd) (x:Pnd):List Pnd:=match k with | false=>[x] | true=>l++[x]
theorem pQ5 (k:Bool) (x:Pnd):opsS c116 ((opsOf (sR (sB (sL (sR (sR zC6)))))).drop 4) (tmQ4 (vQ k l) N i (.agg (enc .pend x))) (gM1 (mQ t L bs p k l)) (gO zP0 4) =
  sufQ k l (some (tmQ (vQ true (appQ k l x)) N i,gM (mQ t L bs p true (appQ k l x)))):=by
 cases k<;>kernel_rfl
theorem pQ6:evS c116 0 (sR (sR (sR zC6))) (tmQ (vQ true l) N i) (gM (mQ t L bs p true l)) (gK zP0 4)=some (.nrm,tmQ (vQ true l) N (zA3 .i64 (i+1)),gM (mQ t L bs p true l)):=by
 kernel_rfl
theorem pQ7:evS c116 0 xD3 (tmQ (vQ true l) N i) (gM (mQ t L bs p true l)) (gK [q6] 4)=some (.ret,stL [(q6,vQ true l)],gM (mQ t L bs p true l)):=by
 kernel_rfl
def tmQ0:T AV:=stL [(q0,.ptr 1 0),(q1,i64 40),(q2,fnP)]
theorem pQ8:evS c116 0 (sL s_liPst.body) tmQ0 (gM (gB t L bs p)) (gK [q0,q1,q2] 4)=some (.nrm,tmQ0,gM (gB t L bs p)):=by
 kernel_rfl
theorem pQ9:evS c116 0 (sL (sR s_liPst.body)) tmQ0 (gM (gB t L bs p)) (gK [q0,q1,q2,q7] 4)=some (.nrm,stL [(q0,.ptr 1 0),(q1,i64 40),(q2,fnP),(q7,.nilsl)],gM (gB t L bs p)):=by
 kernel_rfl
theorem pQ10:evS c116 0 (sL (sL (sR (sR s_liPst.body)))) (stL [(q0,.ptr 1 0),(q1,i64 40),(q2,fnP),(q7,.nilsl)]) (gM (gB t L bs p)) (gK zP0 4) =
  bif gc bs p 40 then some (.nrm,tmQ .nilsl (vC bs p 40) 0,gM (gB t L bs (aC bs p 40))) else none:=by
 kernel_rfl
end
end
noncomputable section
theorem uO7 {α:Type} (l:List α) (x:α) (j:Nat):l[j]?=if j=l.length then none else (l++[x])[j]?:=by
 split
 ·rename_i h;subst h;exact List.getElem?_eq_none (Nat.le_refl _)
 ·rename_i h
  rw [List.getElem?_append]
  split
  ·rfl
  ·rw [List.getElem?_eq_none (by omega),List.getElem?_eq_none (by simp;omega)]
theorem uR8 (t:List bil.Rt) (L:List bil.Sr) (bs:List UInt8) (p:Nat) (k:Bool) (l:List Pnd):nQ k=(mQ t L bs p k l).length:=by cases k<;>rfl
theorem wU9 {ice0:Ren} {w0 w:World} {ρ:Ren} {a:Act} {code:Code} {t:List bil.Rt} {L:List bil.Sr} {bs:List UInt8} {p N i:Nat} {k:Bool} {l:List bil.Pst} {us:List PA} {Q:Exit->Act->World->Prop} (hc:comp Tryz.prog 24 code=some (er zC6))
  (hp:∀ q x,ice0 q=some x->q < 4) (hs:PS w0.heap.size ice0 w0 24 ρ w (gM (mQ t L bs p k (zipP l us))) (tmQ (vQ k (zipP l us)) (.ofNat N) (.ofNat i)) a (ptsL l) us) (hi:i < N) (hN:N < 1000) (hl:l.length=i) (hk:k=false->l=[])
  (hg:gPst bs p=true)
  (hQ:∀ ρ' w' a' us',PS w0.heap.size ice0 w0 24 ρ' w' (gM (mQ t L bs (aPst bs p) true (zipP (l++[vPst bs p]) us'))) (tmQ (vQ true (zipP (l++[vPst bs p]) us')) (.ofNat N) (.ofNat (i+1))) a' (ptsL (l++[vPst bs p])) us'->a'.defers=a.defers->Q .normal a' w'):code.wp Tryz.prog Q a w:=by
 have hc1:comp Tryz.prog 24 code=some (.seq (er (sL zC6)) (er (sR zC6))):=hc
 obtain⟨x1,y1,rfl,hx1,hy1⟩:=zA4 hc1
 have hy1':comp Tryz.prog 24 y1=some (.seq (er (sL (sR zC6))) (er (sR (sR zC6)))):=hy1
 obtain⟨x2,y2,rfl,hx2,hy2⟩:=zA4 hy1'
 have hy2':comp Tryz.prog 24 y2=some (.seq (er (sL (sR (sR zC6)))) (er (sR (sR (sR zC6))))):=hy2
 obtain⟨x3,y3,rfl,hx3,hy3⟩:=zA4 hy2'
 have hx3':comp Tryz.prog 24 x3=some (.blk 1 (er (sB (sL (sR (sR zC6)))))):=hx3
 obtain⟨x4,rfl,hx4⟩:=zK1 hx3'
 have hx4':comp Tryz.prog 24 x4=some (.seq (er (sL (sB (sL (sR (sR zC6)))))) (er (sR (sB (sL (sR (sR zC6))))))):=hx4
 obtain⟨x5,x6,rfl,hx5,hx6⟩:=zA4 hx4'
 have hx6':comp Tryz.prog 24 x6=some (er (.reg false (opsOf (sR (sB (sL (sR (sR zC6)))))))):=hx6
 obtain⟨id,ops,rfl,hsz,hop⟩:=(yY1 hx6').ex
 have hok:okAt bs p=true:=by
  unfold gPst gt at hg
  simp only [Bool.and_eq_true] at hg
  exact hg.1.2
 have hasl:us.length=l.length:=by rw [hs.sd.len];exact List.length_map _
 refine wp_seq (piece zN9 mix hx1 rfl ((pQ1 t L bs p _ (.ofNat N) (.ofNat i) k).trans (by rw [zB4 hi,cond_true])) hp hs fun ρ1 w1 a1 hs1 hd1=>?_)
 refine wp_seq (piece zN9 mix hx2 rfl (pQ2 t L bs p _ (.ofNat N) (.ofNat i) k) hp hs1 fun ρ2 w2 a2 hs2 hd2=>?_)
 refine wp_seq (wp_block (wp_seq (piece zN9 mix hx5 rfl ((pQ3 t L bs p _ (.ofNat N) (.ofNat i) k).trans (by rw [hok];rfl)) hp hs2 fun ρ3 w3 a3 hs3 hd3=>?_)))
 refine wp_region ?_
 have e:List.range ops.size=List.range' 0 ((opsOf (sR (sB (sL (sR (sR zC6)))))).take 4).length++(List.range' 4 ((opsOf (sR (sB (sL (sR (sR zC6)))))).drop 4).length++[]):=by rw [hsz];rfl
 rw [e]
 refine zM0 zN9 (RegS.take hop) ((pQ4 t L bs p _ (.ofNat N) (.ofNat i) k).trans (by rw [hg];rfl)) hp hs3 fun ρ4 w4 a4 hs4 hd4=>?_
 obtain⟨u,hs5⟩:=qR8 (q:=vPst bs p) (t:=19) (i:=nQ k) (m':=gM1 (mQ t L bs (aPst bs p) k (zipP l us))) (tm':=fun b=>tmQ4 (vQ k (zipP l us)) (.ofNat N) (.ofNat i) (.agg (enc .pend (pnd (vPst bs p) b)))) (o:=true) hs4
  (by rw [xB0,uR8 t L bs (aPst bs p) k (zipP l us),List.getElem?_append_right (Nat.le_refl _),Nat.sub_self];rfl)
  (fun j=>by rw [qT7,xB0,uR8 t L bs (aPst bs p) k (zipP l us)];exact uO7 _ _ _)
  (by show _+1=(_++[_]).length;rw [List.length_append];rfl) rfl
  (fun b s x hx=>by
   replace hx:((stL [(q0,.ptr 1 0),(q2,fnP),(q7,vQ k (zipP l us)),(q10,i64 (.ofNat N)),(q11,i64 (.ofNat i)),(q16,vQ k (zipP l us))]).set (pth 19) (.agg (enc .pend (pnd (vPst bs p) b)))).get (pth s)=some x:=hx
   show _∨((stL [(q0,.ptr 1 0),(q2,fnP),(q7,vQ k (zipP l us)),(q10,i64 (.ofNat N)),(q11,i64 (.ofNat i)),(q16,vQ k (zipP l us))]).set (pth 19) (.agg (cPst (vPst bs p) (.so (nQ k) 4 0 (vPs bs p).length)))).get (pth s)=some x
   simp only [T.get_set,yK0] at hx ⊢
   split at hx
   ·rename_i h;cases hx;exact .inl ⟨h,rfl⟩
   ·rename_i h;rw [if_neg h];exact .inr hx)
 have ez:appQ k (zipP l us) (pnd (vPst bs p) u)=zipP (l++[vPst bs p]) (us++[u]):=by
  rw [uT8 hasl]
  cases k with
  | true=>rfl
  | false =>
   have h0:=hk rfl
   subst h0
   have:us=[]:=List.eq_nil_of_length_eq_zero hasl
   subst this
   rfl
 have hsuf:∀ r,sufQ k (zipP l us) r=r:=fun r=>by
  cases k with
  | false=>rfl
  | true =>
   unfold sufQ
   have hzl:(zipP l us).length=l.length:=zL4 hasl
   simp only
   rw [zA6 rfl,cond_true,zA0 (by omega),cond_true]
 refine zM0 zN9 (RegS.drop hop) ((pQ5 t L bs (aPst bs p) _ (.ofNat N) (.ofNat i) k _).trans (hsuf _)) hp hs5 fun ρ6 w6 a6 hs6 hd6=>?_
 rw [ez] at hs6
 have ei:zA3 .i64 (Int.ofNat i+1)=.ofNat (i+1):=zA2 (by omega)
 refine piece zN9 mix hy3 rfl ((pQ6 t L bs (aPst bs p) _ (.ofNat N) (.ofNat i)).trans (by rw [ei])) hp hs6 fun ρ7 w7 a7 hs7 hd7=>?_
 exact hQ ρ7 w7 a7 _ hs7 (by rw [hd7,hd6,hd4,hd3,hd2,hd1])
end
noncomputable section
theorem yU0 {ice0:Ren} {w0:World} {x:Code} {t:List bil.Rt} {L:List bil.Sr} {bs:List UInt8} {N:Nat} {Q:Exit->Act->World->Prop} (hc:comp Tryz.prog 24 x=some (er zC6)) (hp:∀ q x,ice0 q=some x->q < 4) (hN:N < 1000) :
  ∀ (r i p:Nat) (k:Bool) (l:List bil.Pst) (us:List PA) (ρ:Ren) (w:World) (a:Act),i+r=N->l.length=i->(k=false->l=[])->repG (gPst bs) (aPst bs) r p=true ->
  PS w0.heap.size ice0 w0 24 ρ w (gM (mQ t L bs p k (zipP l us))) (tmQ (vQ k (zipP l us)) (.ofNat N) (.ofNat i)) a (ptsL l) us ->
  (∀ ρ' w' a' us',PS w0.heap.size ice0 w0 24 ρ' w' (gM (mQ t L bs (repP (aPst bs) r p) (k || Nat.blt 0 r) (zipP (l++repL (vPst bs) (aPst bs) r p) us'))) (tmQ (vQ (k || Nat.blt 0 r) (zipP (l++repL (vPst bs) (aPst bs) r p) us')) (.ofNat N) (.ofNat N)) a' (ptsL (l++repL (vPst bs) (aPst bs) r p)) us'->a'.defers=a.defers->Q (.exit 0) a' w') ->
  Unr Tryz.prog x Q (r+1) a w
 | 0,i,p,k,l,us,ρ,w,a,hi,hl,hk,hr,hs,hfin=>by
  have hc1:comp Tryz.prog 24 x=some (.seq (er (sL zC6)) (er (sR zC6))):=hc
  obtain⟨x1,y1,rfl,hx1,hy1⟩:=zA4 hc1
  have hy1':comp Tryz.prog 24 y1=some (.seq (er (sL (sR zC6))) (er (sR (sR zC6)))):=hy1
  obtain⟨x2,y2,rfl,hx2,hy2⟩:=zA4 hy1'
  have hiN:i=N:=by omega
  subst hiN
  refine wp_seq (piece zN9 mix hx1 rfl ((pQ1 t L bs p _ (.ofNat i) (.ofNat i) k).trans (by rw [zB6 (Nat.le_refl _),cond_false])) hp hs fun ρ1 w1 a1 hs1 hd1=>?_)
  refine wp_seq (piece zN9 mix hx2 rfl (pQ2x t L bs p _ (.ofNat i) (.ofNat i) k) hp hs1 fun ρ2 w2 a2 hs2 hd2=>?_)
  refine hfin ρ2 w2 a2 us ?_ (hd2.trans hd1)
  have e1:l++repL (vPst bs) (aPst bs) 0 p=l:=List.append_nil l
  have e2:(k || Nat.blt 0 0)=k:=by cases k<;>rfl
  rw [e1,e2]
  exact hs2
 | r+1,i,p,k,l,us,ρ,w,a,hi,hl,hk,hr,hs,hfin=>by
  rw [repG,Bool.and_eq_true] at hr
  refine wU9 hc hp hs (by omega) hN hl hk hr.1 fun ρ' w' a' us' hs' hd'=>?_
  refine yU0 hc hp hN r (i+1) (aPst bs p) true (l++[vPst bs p]) us' ρ' w' a' (by omega) (by rw [List.length_append,hl];rfl) (fun h=>by cases h) hr.2 hs' fun ρ2 w2 a2 us2 hs2 hd2=>?_
  have e1:l++[vPst bs p]++repL (vPst bs) (aPst bs) r (aPst bs p)=l++repL (vPst bs) (aPst bs) (r+1) p:=by rw [List.append_assoc];rfl
  have e2:(true || Nat.blt 0 r)=(k || Nat.blt 0 (r+1)):=by cases k<;>rfl
  rw [e1,e2] at hs2
  exact hfin ρ2 w2 a2 us2 hs2 (hd2.trans hd')
theorem uH6 {ice0:Ren} {w0 w:World} {ρ:Ren} {t:List bil.Rt} {L:List bil.Sr} {bs:List UInt8} {p:Nat} (hm:PM ice0 w0 ρ w (gM (gB t L bs p)) [] []) (hg:gnC bs p 40=true) (hn:0 < nCt bs p 40) (hn2:nCt bs p 40<=40) (hr:repG (gPst bs) (aPst bs) (nCt bs p 40) (aC bs p 40)=true)
  {ys:List Value} (hv:VRs ρ [.ptr 1 0,i64 40,fnP] ys) :
  Calls Tryz.prog 23 ys.toArray w fun e w'=>∃ ρ' us v,e=.returned v/\VR ρ' (vQ true (zipP (repL (vPst bs) (aPst bs) (nCt bs p 40) (aC bs p 40)) us)) v /\
   PM ice0 w0 ρ' w' (gM (mQ t L bs (repP (aPst bs) (nCt bs p 40) (aC bs p 40)) true (zipP (repL (vPst bs) (aPst bs) (nCt bs p 40) (aC bs p 40)) us))) (repL (vPst bs) (aPst bs) (nCt bs p 40) (aC bs p 40)) us/\ρ.le ρ':=by
 unfold gnC at hg
 simp only [Bool.and_eq_true] at hg
 obtain⟨g1,g2,g3⟩:=hg
 rw [zC5,decide_eq_true_eq] at g2
 have hp:∀ q x,ρ q=some x->q < 4:=hm.dom
 refine yB9 wG6 (xs:=[.ptr 1 0,i64 40,fnP]) (tm0:=tmQ0) (by kernel_rfl) (by decide) hv fun code a hc htr hdf=>?_
 have hs:PS w0.heap.size ρ w0 24 ρ w (gM (gB t L bs p)) tmQ0 a (ptsL []) []:=hm.pin.ps htr
 have hc1:comp Tryz.prog 24 code=some (.seq (er (sL s_liPst.body)) (er (sR s_liPst.body))):=hc
 obtain⟨x1,y1,rfl,hx1,hy1⟩:=zA4 hc1
 have hy1':comp Tryz.prog 24 y1=some (.seq (er (sL (sR s_liPst.body))) (er (sR (sR s_liPst.body)))):=hy1
 obtain⟨x2,y2,rfl,hx2,hy2⟩:=zA4 hy1'
 have hy2':comp Tryz.prog 24 y2=some (.seq (er (sL (sR (sR s_liPst.body)))) (er xD3)):=hy2
 obtain⟨x3,y3,rfl,hx3,hy3⟩:=zA4 hy2'
 have hx3':comp Tryz.prog 24 x3=some (.seq (er (sL (sL (sR (sR s_liPst.body))))) (.blk 0 (.loop (er zC6)))):=hx3
 obtain⟨x4,x5,rfl,hx4,hx5⟩:=zA4 hx3'
 obtain⟨x6,rfl,hx6⟩:=zK1 hx5
 obtain⟨x7,rfl,hx7⟩:=zP2 hx6
 refine wp_seq (piece zN9 mix hx1 rfl (pQ8 t L bs p) hp hs fun ρ1 w1 a1 hs1 hd1=>?_)
 refine wp_seq (piece zN9 mix hx2 rfl (pQ9 t L bs p) hp hs1 fun ρ2 w2 a2 hs2 hd2=>?_)
 refine wp_seq (wp_seq (piece zN9 mix hx4 rfl ((pQ10 t L bs p).trans (by rw [g1,g2];rfl)) hp hs2 fun ρ3 w3 a3 hs3 hd3=>?_))
 refine wp_block (yG4 (yU0 (t:=t) (L:=L) (bs:=bs) (ice0:=ρ) (w0:=w0) (N:=nCt bs p 40) hx7 hp (by omega) (nCt bs p 40) 0 (aC bs p 40) false [] [] ρ3 w3 a3 (Nat.zero_add _) rfl (fun _=>rfl) hr hs3 fun ρ4 w4 a4 us hs4 hd4=>?_))
 have ek:(false || Nat.blt 0 (nCt bs p 40))=true:=zA0 hn
 rw [ek,List.nil_append] at hs4
 refine piece zN9 mix hy3 rfl (pQ7 t L bs _ _ _ _) hp hs4 fun ρ5 w5 a5 hs5 hd5=>?_
 refine⟨.inr rfl,by rw [hd5,hd4,hd3,hd2,hd1];exact hdf,ρ5,_,_,[vQ true (zipP (repL (vPst bs) (aPst bs) (nCt bs p 40) (aC bs p 40)) us)],hs5.sr,rfl,fun v hv=>⟨ρ5,us,v,rfl,hv,?_⟩⟩
 exact hm.unpin hs5.pm
end
set_option maxHeartbeats 4000000
set_option maxRecDepth 100000
def d_ixSrF:SOf Tryz.prog 70 [([0,1,7,8],3)] []:=⟨_,by conv=>lhs;reduce⟩
def s_ixSrF:FnS:=d_ixSrF.1
def uI7:List Path:=[q0,q1,q7,q8]
def uO2:SC:=(⟨_,by conv=>lhs;reduce⟩:VOf (s_ixSrF.lp 0)).1
def uP6:SC:=(⟨_,by conv=>lhs;reduce⟩:VOf (s_ixSrF.af 0)).1
def uJ9 {β:Type} (cl:ClS) (L:Nat) (K:AV->Mem->Option β):Ex->T AV->Mem->Option β:=kBlk 0 (kSeq (evS cl L uP6) (endS s_ixSrF.res K))
theorem uE5:zB2 Tryz.prog 70 s_ixSrF:=zA8 d_ixSrF.2
def d_ixPstF:SOf Tryz.prog 73 [([0,1,7,8],2)] []:=⟨_,by conv=>lhs;reduce⟩
def s_ixPstF:FnS:=d_ixPstF.1
def vL6:List Path:=[q0,q1,q7,q8]
def vT2:SC:=(⟨_,by conv=>lhs;reduce⟩:VOf (s_ixPstF.lp 0)).1
def vV2:SC:=(⟨_,by conv=>lhs;reduce⟩:VOf (s_ixPstF.af 0)).1
def vM8 {β:Type} (cl:ClS) (L:Nat) (K:AV->Mem->Option β):Ex->T AV->Mem->Option β:=kBlk 0 (kSeq (evS cl L vV2) (endS s_ixPstF.res K))
theorem vG9:zB2 Tryz.prog 73 s_ixPstF:=zA8 d_ixPstF.2
noncomputable section
def nPn (l:List Pnd) (i:Nat):Pnd:=nth (t:=.pend) l i
def hF1 (i:Nat) (q:List Pnd) (o:Bool):T Blk:=.node (.node .nil (some ⟨.ls .pend q,12,o⟩) .nil) (some ⟨.raw [.tp 1 i 12 0],1,false⟩) .nil
def wB3:List AV->Mem->Option (Bool × AV × T Blk × Nat)
 | [.agg [.str c,.int .i64 _,.int .i64 _,.bool _],.ptr 0 0],⟨.node (.node .nil (some ⟨.ls .pend q,12,o⟩) .nil) (some ⟨.raw [.tp 1 i 12 0],1,false⟩) .nil,2,0,0⟩ =>
  some (Nat.blt i q.length,.bool (zC1 c (nPn q i).ref.ser.data.toList),hF1 i q o,2)
 | _,_=>none
def c121:ClS:=addN 71 wB3 c116
theorem qM2:zA1 Tryz.prog c121:=zE5 zN9 mix uF1 wB3 fun xs m r h1 n1 h=>by
 unfold wB3 at h
 split at h<;>first | (cases h;done) | skip
 rename_i c n l s q o i
 simp only [Option.some.injEq,Prod.mk.injEq] at h
 obtain⟨hg,rfl,rfl,rfl⟩:=h
 refine⟨rfl,0,?_⟩
 have e:zC4 c116 0 vB5 [.agg [.str c,.int .i64 n,.int .i64 l,.bool s],.ptr 0 0] ⟨hF1 i q o,2,0,0⟩ (fun r m=>zD1 2 r m fun r m=>some (r,m.h,m.nx)) =
  bif Nat.blt i q.length then bif zC1 c (nPn q i).ref.ser.data.toList then some (.bool true,hF1 i q o,2) else some (.bool false,hF1 i q o,2) else none:=by kernel_rfl
 refine e.trans ?_
 rw [hg,cond_true]
 cases zC1 c (nPn q i).ref.ser.data.toList<;>rfl
def hF2 (i:Nat) (L:List bil.Sr) (o1:Bool) (q:List Pnd) (o:Bool):T Blk:=.node (.node .nil (some ⟨.raw [.tp 2 i 12 0],1,false⟩) .nil) (some ⟨.ls .series L,4,o1⟩) (.node (.node .nil (some ⟨.ls .pend q,12,o⟩) .nil) none .nil)
def lpFS (F F' i:Nat) (L:List bil.Sr) (o1:Bool) (q:List Pnd) (o:Bool) (n:Int):Option (AV × T Blk × Nat):=zC7 (evS c121 F uO2) uI7 3 F' (stL [(q0,.so 0 4 0 L.length),(q1,.fn 71 [.ptr 1 0]),(q7,i64 (.ofNat L.length)),(q8,i64 n)]) ⟨hF2 i L o1 q o,3,7,7⟩ (uJ9 c121 F fun r m=>zD1 3 r m fun r m=>some (r,m.h,m.nx))
theorem wE5 (F F' i n:Nat) (L:List bil.Sr) (o1:Bool) (q:List Pnd) (o:Bool):lpFS F (Nat.succ F') i L o1 q o (.ofNat n) =
 bif ltI (.ofNat n) (.ofNat L.length) then bif inI (.ofNat n) L.length then bif Nat.blt n L.length then bif Nat.blt i q.length then bif zC1 (nth (t:=.series) L n).name.data.toList (nPn q i).ref.ser.data.toList then some (i64 (.ofNat n),hF2 i L o1 q o,3)
  else lpFS F F' i L o1 q o (zA3 .i64 (.ofNat n+1)) else none else none else none
 else some (i64 (-1),hF2 i L o1 q o,3):=by kernel_rfl
theorem vI8 (F i:Nat) (L:List bil.Sr) (o1:Bool) (q:List Pnd) (o:Bool) (hi:i < q.length) (hl:L.length < 1000000):∀ (t:List bil.Sr) (n f:Nat),L.drop n=t->n<=L.length->t.length < f ->
  lpFS F f i L o1 q o (.ofNat n)=some (i64 (zK8 (srNm (nPn q i).ref.ser) n t),hF2 i L o1 q o,3)
 | t,n,0,_,_,hf=>by omega
 | [],n,f+1,hd,hn,hf=>by
  rw [wE5,drop_nil hd hn,zB6 (Nat.le_refl _),cond_false]
  rfl
 | x::t,n,f+1,hd,hn,hf=>by
  obtain⟨h1,h2,h3⟩:=zA5 (t:=.series) hd
  have ih:=vI8 F i L o1 q o hi hl t (n+1) f h3 (by omega) (by simp at hf;omega)
  rw [wE5,zB4 h1,cond_true,zA9 h1,cond_true,zA0 h1,cond_true,zA0 hi,cond_true,h2,zA2 (by omega),ih,zF2,zK8]
  show _=some (i64 (bif decide (x.name=_) then _ else _),_,_)
  cases decide (x.name=(nPn q i).ref.ser)<;>rfl
def vW7:List AV->Mem->Option (Bool × AV × T Blk × Nat)
 | [.so 0 4 0 len,.fn 71 [.ptr 1 0]],⟨.node (.node .nil (some ⟨.raw [.tp 2 i 12 0],1,false⟩) .nil) (some ⟨.ls .series L,4,o1⟩) (.node (.node .nil (some ⟨.ls .pend q,12,o⟩) .nil) none .nil),3,0,0⟩ =>
  some (Nat.beq len L.length&&(Nat.blt i q.length&&Nat.blt L.length 1000000),i64 (ixO (bil.srAt L (nPn q i).ref.ser)),hF2 i L o1 q o,3)
 | _,_=>none
def c122:ClS:=addN 70 vW7 c121
theorem qM1:zA1 Tryz.prog c122:=zE5 qM2 mix uE5 vW7 fun xs m r h1 n1 h=>by
 unfold vW7 at h
 split at h<;>first | (cases h;done) | skip
 rename_i len i L o1 q o
 simp only [Option.some.injEq,Prod.mk.injEq,Bool.and_eq_true] at h
 obtain⟨⟨hg1,hg2,hg3⟩,rfl,rfl,rfl⟩:=h
 have hle:len=L.length:=beqN.1 hg1
 subst hle
 refine⟨rfl,L.length+1,?_⟩
 have e:∀ F,zC4 c121 F s_ixSrF [.so 0 4 0 L.length,.fn 71 [.ptr 1 0]] ⟨hF2 i L o1 q o,3,0,0⟩ (fun r m=>zD1 3 r m fun r m=>some (r,m.h,m.nx))=lpFS F F i L o1 q o (.ofNat 0):=fun F=>by kernel_rfl
 refine (e _).trans ?_
 rw [vI8 _ i L o1 q o (blt_iff.1 hg2) (blt_iff.1 hg3) L 0 _ rfl (by omega) (by omega),zJ3]
 rfl
def wB2:List AV->Mem->Option (Bool × AV × T Blk × Nat)
 | [.agg cs,.ptr 0 0],⟨.node (.node .nil (some ⟨.ls .pend q,12,o⟩) .nil) (some ⟨.raw [.tp 1 i 12 0],1,false⟩) .nil,2,0,0⟩=>(match dec .pend cs with
  | some p=>some (Nat.blt i q.length,.bool (decide (Pnd.ref p=(nPn q i).of_)),hF1 i q o,2)
  | none=>none)
 | _,_=>none
def c123:ClS:=addN 74 wB2 c122
theorem qM0:zA1 Tryz.prog c123:=zE5 qM1 mix uF0 wB2 fun xs m r h1 n1 h=>by
 unfold wB2 at h
 split at h<;>first | (cases h;done) | skip
 rename_i cs q o i
 cases hd:dec .pend cs with
 | none=>rw [hd] at h;cases h
 | some p =>
  rw [hd] at h
  simp only [Option.some.injEq,Prod.mk.injEq] at h
  obtain⟨hg,rfl,rfl,rfl⟩:=h
  refine⟨rfl,0,?_⟩
  rw [<- zK7 hd]
  have e:∀ p:Pnd,zC4 c122 0 vB4 [.agg (enc .pend p),.ptr 0 0] ⟨hF1 i q o,2,0,0⟩ (fun r m=>zD1 2 r m fun r m=>some (r,m.h,m.nx)) =
   bif Nat.blt i q.length then bif (bif false then !zM7 p.ref (nPn q i).of_ else zM7 p.ref (nPn q i).of_) then some (.bool true,hF1 i q o,2) else some (.bool false,hF1 i q o,2) else none:=fun p=>by kernel_rfl
  refine (e p).trans ?_
  rw [hg,cond_true,cond_false,zL6]
  cases decide (p.ref=(nPn q i).of_)<;>rfl
def hF3 (i:Nat) (q:List Pnd) (o:Bool):T Blk:=.node (.node .nil (some ⟨.raw [.tp 0 i 12 0],1,false⟩) .nil) (some ⟨.ls .pend q,12,o⟩) .nil
def lpFP (F F' i len:Nat) (q:List Pnd) (o:Bool) (n:Int):Option (AV × T Blk × Nat):=zC7 (evS c123 F vT2) vL6 2 F' (stL [(q0,.so 0 12 0 len),(q1,.fn 74 [.ptr 1 0]),(q7,i64 (.ofNat len)),(q8,i64 n)]) ⟨hF3 i q o,2,3,3⟩ (vM8 c123 F fun r m=>zD1 2 r m fun r m=>some (r,m.h,m.nx))
theorem wE6 (F F' i n len:Nat) (q:List Pnd) (o:Bool):lpFP F (Nat.succ F') i len q o (.ofNat n) =
 bif ltI (.ofNat n) (.ofNat len) then bif inI (.ofNat n) len then bif Nat.blt n q.length then bif Nat.blt i q.length then bif decide ((nPn q n).ref=(nPn q i).of_) then some (i64 (.ofNat n),hF3 i q o,2)
  else lpFP F F' i len q o (zA3 .i64 (.ofNat n+1)) else none else none else none
 else some (i64 (-1),hF3 i q o,2):=by kernel_rfl
def wP1 (r:bil.Ref) (x:Pnd):Bool:=decide (x.ref=r)
theorem vI9 (F i len:Nat) (q:List Pnd) (o:Bool) (hi:i < q.length) (hq:len<=q.length) (hl:len < 1000000):∀ (t:List Pnd) (n f:Nat),(q.take len).drop n=t->n<=len->t.length < f ->
  lpFP F f i len q o (.ofNat n)=some (i64 (zK8 (wP1 (nPn q i).of_) n t),hF3 i q o,2)
 | t,n,0,_,_,hf=>by omega
 | [],n,f+1,hd,hn,hf=>by
  have hlen:(q.take len).length=len:=by rw [List.length_take];omega
  have hnl:n=len:=by have:=drop_nil hd (by omega);omega
  rw [wE6,hnl,zB6 (Nat.le_refl _),cond_false]
  rfl
 | x::t,n,f+1,hd,hn,hf=>by
  have hlen:(q.take len).length=len:=by rw [List.length_take];omega
  obtain⟨h1,h2,h3⟩:=zA5 (t:=.pend) hd
  rw [hlen] at h1
  have h4:nPn q n=x:=by
   rw [<- h2]
   unfold nPn nth
   rw [List.getD_eq_getElem?_getD,List.getD_eq_getElem?_getD,List.getElem?_take_of_lt h1]
  have ih:=vI9 F i len q o hi hq hl t (n+1) f h3 (by omega) (by simp at hf;omega)
  rw [wE6,zB4 h1,cond_true,zA9 h1,cond_true,zA0 (by omega),cond_true,zA0 hi,cond_true,h4,zA2 (by omega),ih,zK8]
  show _=some (i64 (bif decide (x.ref=_) then _ else _),_,_)
  cases decide (x.ref=(nPn q i).of_)<;>rfl
def vW6:List AV->Mem->Option (Bool × AV × T Blk × Nat)
 | [.so 0 12 0 len,.fn 74 [.ptr 1 0]],⟨.node (.node .nil (some ⟨.raw [.tp 0 i 12 0],1,false⟩) .nil) (some ⟨.ls .pend q,12,o⟩) .nil,2,0,0⟩ =>
  some (Nat.ble len q.length&&(Nat.blt i q.length&&Nat.blt len 1000000),i64 (ixO ((q.take len).findIdx? (wP1 (nPn q i).of_))),hF3 i q o,2)
 | _,_=>none
def c124:ClS:=addN 73 vW6 c123
theorem zG7:zA1 Tryz.prog c124:=zE5 qM0 mix vG9 vW6 fun xs m r h1 n1 h=>by
 unfold vW6 at h
 split at h<;>first | (cases h;done) | skip
 rename_i len i q o
 simp only [Option.some.injEq,Prod.mk.injEq,Bool.and_eq_true] at h
 obtain⟨⟨hg1,hg2,hg3⟩,rfl,rfl,rfl⟩:=h
 have hle:len<=q.length:=Nat.le_of_ble_eq_true hg1
 refine⟨rfl,len+1,?_⟩
 have e:∀ F,zC4 c123 F s_ixPstF [.so 0 12 0 len,.fn 74 [.ptr 1 0]] ⟨hF3 i q o,2,0,0⟩ (fun r m=>zD1 2 r m fun r m=>some (r,m.h,m.nx))=lpFP F F i len q o (.ofNat 0):=fun F=>by kernel_rfl
 refine (e _).trans ?_
 rw [vI9 _ i len q o (blt_iff.1 hg2) hle (blt_iff.1 hg3) (q.take len) 0 _ rfl (by omega) (by rw [List.length_take];omega),zJ3]
end
noncomputable section
def mF (t:List bil.Rt) (z:List bil.Ses) (nx:Int) (a b:Nat) (L:List bil.Sr) (q:List Pnd):List Blk:=[zB,⟨.raw [.fl .rate t,.so 2 4 0 a,.so 3 12 0 b,.nilsl,.fl .ses z,i64 nx],1,false⟩,⟨.ls .series L,4,true⟩,⟨.ls .pend q,12,true⟩]
def cF (i:Nat):Blk:=⟨.raw [.tp 3 i 12 0],1,false⟩
def tmF (N i:Int):T AV:=stL [(q0,.ptr 1 0),(q14,i64 N),(q15,i64 i)]
def tmF1 (N i:Int) (b:Bool):T AV:=stL [(q0,.ptr 1 0),(q14,i64 N),(q15,i64 i),(q16,.bool b)]
def tmFA (N i:Int):T AV:=stL [(q0,.ptr 1 0),(q3,i64 i),(q14,i64 N),(q15,i64 i)]
def tmFB (N i:Int):T AV:=stL [(q0,.ptr 1 0),(q3,i64 i),(q4,.ptr 4 0),(q14,i64 N),(q15,i64 i)]
def tmFC (N i v:Int):T AV:=stL [(q0,.ptr 1 0),(q3,i64 i),(q4,.ptr 4 0),(q5,i64 v),(q14,i64 N),(q15,i64 i)]
def tmFD (N:Int) (i:Nat) (v:Int):T AV:=stL [(q0,.ptr 1 0),(q3,i64 (.ofNat i)),(q4,.ptr 4 0),(q5,i64 v),(q14,i64 N),(q15,i64 (.ofNat i)),(q32,.bool false),(q35,.tp 3 i 12 5)]
def tmFE (N i v:Int):T AV:=stL [(q0,.ptr 1 0),(q3,i64 i),(q4,.ptr 4 0),(q5,i64 v),(q14,i64 N),(q15,i64 i),(q38,.bool false)]
def lvF1:List Path:=[q0,q14,q15,q16]
def lvFA:List Path:=[q0,q3,q14,q15]
def lvFB:List Path:=[q0,q3,q4,q14,q15]
def lvFC:List Path:=[q0,q3,q4,q5,q14,q15]
def lvFD:List Path:=[q0,q3,q4,q5,q14,q15,q32,q35]
def lvFE:List Path:=[q0,q3,q4,q5,q14,q15,q38]
def bbF:SC:=sB (sL (sR (sR zF5)))
def dF_:SC:=sL (sR (sR (sR bbF)))
def eF1:SC:=sL (sR (sR (sR (sR bbF))))
def eF2:SC:=sL (sR (sR (sR (sR (sR bbF)))))
def eF3:SC:=sL (sR (sR (sR (sR (sR (sR bbF))))))
def eF4:SC:=sL (sR (sR (sR (sR (sR (sR (sR bbF)))))))
def eF5:SC:=sR (sR (sR (sR (sR (sR (sR (sR bbF)))))))
section
variable (t:List bil.Rt) (z:List bil.Ses) (nx:Int) (a b:Nat) (L:List bil.Sr) (q:List Pnd) (N:Int) (i k:Nat)
theorem pF1:evS c124 0 (sL zF5) (tmF N (.ofNat i)) (gM (mF t z nx a b L q)) (gK lvF1 4)=bif ltI (.ofNat i) N then some (.nrm,tmF1 N (.ofNat i) true,gM (mF t z nx a b L q)) else some (.nrm,tmF1 N (.ofNat i) false,gM (mF t z nx a b L q)):=by kernel_rfl
theorem pF2:evS c124 0 (sL (sR zF5)) (tmF1 N (.ofNat i) true) (gM (mF t z nx a b L q)) (gK yA8 4)=some (.nrm,tmF N (.ofNat i),gM (mF t z nx a b L q)):=by kernel_rfl
theorem pF2x:evS c124 0 (sL (sR zF5)) (tmF1 N (.ofNat i) false) (gM (mF t z nx a b L q)) (gK yA8 4)=some (.ext 0,tmF N (.ofNat i),gM (mF t z nx a b L q)):=by kernel_rfl
theorem pFA:evS c124 0 (sL bbF) (tmF N (.ofNat i)) (gM (mF t z nx a b L q)) (gK lvFA 4)=some (.nrm,tmFA N (.ofNat i),gM (mF t z nx a b L q)):=by kernel_rfl
theorem pFB:evS c124 0 (sL (sR bbF)) (tmFA N (.ofNat i)) (gM (mF t z nx a b L q)) (gK lvFB 4)=bif inI (.ofNat i) b then some (.nrm,tmFB N (.ofNat i),gM (mF t z nx a b L q++[cF i])) else none:=by kernel_rfl
theorem pFC:evS c124 0 (sL (sR (sR bbF))) (tmFB N (.ofNat i)) (gM (mF t z nx a b L q++[cF i])) (gK lvFC 4) =
 bif Nat.beq a L.length&&(Nat.blt i q.length&&Nat.blt L.length 1000000) then some (.nrm,tmFC N (.ofNat i) (ixO (bil.srAt L (nPn q i).ref.ser)),gM (mF t z nx a b L q++[cF i])) else none:=by kernel_rfl
theorem pFD1:opsS c124 ((opsOf (sL dF_)).take 6) (tmFC N (.ofNat i) (.ofNat k)) (gM (mF t z nx a b L q++[cF i])) (gO lvFD 4) =
 bif ltI (.ofNat k) 0 then some (stL [(q0,.ptr 1 0),(q3,i64 (.ofNat i)),(q4,.ptr 4 0),(q5,i64 (.ofNat k)),(q14,i64 N),(q15,i64 (.ofNat i)),(q32,.bool true),(q35,.tup [])],gM (mF t z nx a b L q++[cF i]))
 else some (tmFD N i (.ofNat k),gM (mF t z nx a b L q++[cF i])):=by kernel_rfl
theorem pFD2:opsS c124 ((opsOf (sL dF_)).drop 7) ((tmFD N i (.ofNat k)).set q36 (.bool true)) (gM (mF t z nx a b L q++[cF i])) (gO lvFE 4)=some (tmFE N (.ofNat i) (.ofNat k),gM (mF t z nx a b L q++[cF i])):=by kernel_rfl
theorem pFD3:evS c124 0 (sR dF_) (tmFE N (.ofNat i) (.ofNat k)) (gM (mF t z nx a b L q++[cF i])) (gK lvFC 4)=some (.nrm,tmFC N (.ofNat i) (.ofNat k),gM (mF t z nx a b L q++[cF i])):=by kernel_rfl
def nSr (L:List bil.Sr) (k:Nat):bil.Sr:=nth (t:=.series) L k
theorem pFE1:evS c124 0 eF1 (tmFC N (.ofNat i) (.ofNat k)) (gM (mF t z nx a b L q++[cF i])) (gK lvFC 4) =
 bif inI (.ofNat k) a then bif Nat.blt k L.length then bif Nat.blt i q.length then
  some (.nrm,tmFC N (.ofNat i) (.ofNat k),gM (mF t z nx a b L (q.set i { nPn q i with ref:={ (nPn q i).ref with num:=(nSr L k).next } })++[cF i])) else none else none else none:=by kernel_rfl
theorem pFE2:evS c124 0 eF2 (tmFC N (.ofNat i) (.ofNat k)) (gM (mF t z nx a b L q++[cF i])) (gK lvFC 4) =
 bif inI (.ofNat k) a then bif Nat.blt k L.length then bif inI (.ofNat k) a then bif Nat.blt k L.length then
  some (.nrm,tmFC N (.ofNat i) (.ofNat k),gM (mF t z nx a b (L.set k { nSr L k with next:=zA3 .i64 ((nSr L k).next+1) }) q++[cF i])) else none else none else none else none:=by kernel_rfl
theorem pFE3:evS c124 0 eF3 (tmFC N (.ofNat i) (.ofNat k)) (gM (mF t z nx a b L q++[cF i])) (gK lvFC 4) =
 bif Nat.blt i q.length then bif (bif false then !zM7 (nPn q i).of_ bil.Ref.z else zM7 (nPn q i).of_ bil.Ref.z) then some (.ext 1,tmFC N (.ofNat i) (.ofNat k),gM (mF t z nx a b L q++[cF i]))
 else some (.nrm,tmFC N (.ofNat i) (.ofNat k),gM (mF t z nx a b L q++[cF i])) else none:=by kernel_rfl
def tmE4 (N:Int) (i k b:Nat):T AV:=stL [(q0,.ptr 1 0),(q3,i64 (.ofNat i)),(q4,.ptr 4 0),(q5,i64 (.ofNat k)),(q14,i64 N),(q15,i64 (.ofNat i)),(q68,.ptr 1 0),(q69,.ptr 1 0),(q70,.ptr 1 2),(q71,.so 3 12 0 b),(q72,i64 (.ofNat i))]
def kE4 (r:Option AV) (tm:T AV) (m:Mem):Option (Ex × T AV × Mem):=match r with
 | some v=>putS (some q73) v tm fun tm=>opsS c124 ((opsOf eF4).drop 6) tm m fun tm m=>gK lvFC 4 .nrm tm m
 | none=>none
theorem pFE4a:evS c124 0 eF4 (tmFC N (.ofNat i) (.ofNat k)) (gM (mF t z nx a b L q++[cF i])) (gK lvFC 4) =
 kE4 (slcA 12 false true (.so 3 12 0 b) [i64 (.ofNat i)]) (tmE4 N i k b) (gM (mF t z nx a b L q++[cF i])):=by kernel_rfl
theorem pFE4b:kE4 (some (.so 3 12 0 i)) (tmE4 N i k b) (gM (mF t z nx a b L q++[cF i])) =
 bif Nat.ble i q.length&&(Nat.blt i q.length&&Nat.blt i 1000000) then some (.nrm,tmFC N (.ofNat i) (ixO ((q.take i).findIdx? (wP1 (nPn q i).of_))),gM (mF t z nx a b L q++[cF i])) else none:=by kernel_rfl
theorem qN8 (h0:0 < i) (h:i<=b):slcA 12 false true (.so 3 12 0 b) [i64 (.ofNat i)]=some (.so 3 12 0 i):=by
 have hb:zU6 false true b [i64 (.ofNat i)]=some (0,i):=by
  simp only [zU6,bndA,i64,Nat.ble_eq_true_of_le h,cond_true]
 simp only [slcA,hb]
 rw [zA6 rfl,cond_true,zL3 (by omega),cond_false,Nat.zero_add,Nat.sub_zero]
theorem pFE5:evS c124 0 eF5 (tmFC N (.ofNat i) (.ofNat k)) (gM (mF t z nx a b L q++[cF i])) (gK yA8 4) =
 bif ltI (.ofNat k) 0 then some (.ret,tmF N (.ofNat i),gM (mF t z nx a b L q)) else bif inI (.ofNat k) b then bif Nat.blt k q.length then
  some (.nrm,tmF N (.ofNat i),gM (mF t z nx a b L (q.set k { nPn q k with back:=true }))) else none else none:=by kernel_rfl
theorem pFI:evS c124 0 (sR (sR (sR zF5))) (tmF N (.ofNat i)) (gM (mF t z nx a b L q)) (gK yA8 4)=some (.nrm,tmF N (zA3 .i64 (.ofNat i+1)),gM (mF t z nx a b L q)):=by kernel_rfl
theorem pFIx:evS c124 0 (sR (sR (sR zF5))) (tmFC N (.ofNat i) (.ofNat k)) (gM (mF t z nx a b L q++[cF i])) (gK yA8 4)=some (.nrm,tmF N (zA3 .i64 (.ofNat i+1)),gM (mF t z nx a b L q)):=by kernel_rfl
def tmF0:T AV:=stL [(q0,.ptr 1 0)]
theorem pF8:evS c124 0 (sL s_fill.body) tmF0 (gM (mF t z nx a b L q)) (gK [q0,q2] 4)=some (.nrm,stL [(q0,.ptr 1 0),(q2,.bool false)],gM (mF t z nx a b L q)):=by kernel_rfl
theorem pF9:evS c124 0 (sL (sL (sR s_fill.body))) (stL [(q0,.ptr 1 0),(q2,.bool false)]) (gM (mF t z nx a b L q)) (gK yA8 4)=some (.nrm,tmF (.ofNat b) 0,gM (mF t z nx a b L q)):=by kernel_rfl
end
end
section
variable {P:Program} {n:Nat} {ops:Array Oper}
theorem wX6 {o:Oper} {ao:AOper} {tm:T AV} {a:Act} {ρ:Ren} (hco:CompO P n ops o ao) (hw:yI1 ao.guard tm=some true) (ht:TR ρ tm a n):Region.wanted o (yielded ops a.tmps)=true:=by
 unfold Region.wanted
 rcases hco.guard with⟨h1,h2⟩ | ⟨j,want,d,h1,h2,h3⟩
 ·rw [h1]
 ·rw [h3] at hw
  simp only [yI1] at hw
  rw [h1]
  simp only [yielded,h2,Option.bind_some]
  cases hg:tm.get (pth d) with
  | none=>rw [hg] at hw;cases hw
  | some x =>
   rw [hg] at hw
   obtain⟨y,hy1,hy2⟩:=ht.2 d x hg
   rw [hy1]
   cases hy2<;>first | (cases hw;done) | skip
   rename_i c
   cases c<;>cases want<;>first | rfl | (cases hw;done)
theorem zT5 {o:Oper} {ao:AOper} {k:Nat} {rest:List Nat} {Q:Exit->Act->World->Prop} {tm:T AV} (ho:ops[k]?=some o) (hco:CompO P n ops o ao) (hw:yI1 ao.guard tm=some true) {f:Nat} (hk:ao.k=.call f) {xs:List AV} (hx:yR6 ao.args tm some=some xs)
  {fn : Func} (h1 : P.funcs[f]? = some fn) (h2 : (fn.name == "runtime.NumGoroutine") = false) (h3 : fn.body.isNone = false) {a : Act} {w : World} {ρ : Ren} (ht : TR ρ tm a n)
  (h:∀ ys,VRs ρ xs ys->Calls P f ys.toArray w fun e w'=>∃ v,e=.returned v/\wpOps P ops Q rest (a.put o.dst v) w'):wpOps P ops Q (k::rest) a w:=by
 simp only [wpOps_cons,wpOp,ho]
 rw [if_pos (wX6 hco hw ht)]
 left
 rcases hco.kd with hbad | ⟨ys,hkd,hargs⟩
 ·rw [hk] at hbad;cases hbad
 rw [hk] at hkd
 obtain⟨vs,hk2,hl,hv⟩:=yO8 hx
 cases hk2
 have hvr:=yH8 (ρ:=ρ) (a:=a) hargs hl hv fun t x _ hget=>ht.2 t x hget
 unfold Oper.wp
 rw [qG3 hkd,xP8 h1 h2 h3,Oper.upon_enter]
 refine (h _ hvr).mono fun e w' he=>?_
 obtain⟨v,rfl,h5⟩:=he
 exact h5
end
theorem qO7 {P:Program} {n:Nat} {cl:ClS} (hcl:zA1 P cl) (hmix:P.follows .mixedOrders=true) {L base:Nat} {c:SC} {code:Code} (hc:comp P n code=some (er c)) (hbo:zE3 base c=true) {tm tm':T AV} {m m':Mem} {ex:Ex} {live:List Path}
  (h:evS cl L c tm m (gK live base)=some (ex,tm',m')) {S:Nat->Prop} {ice0:Ren} {w0 w:World} {ρ:Ren} {a:Act} {Q:Exit->Act->World->Prop} (hp0:∀ q x,ice0 q=some x->q < base) (hs:SR n ρ w m tm a) (hf:FR S ice0 w0 ρ w m)
  (hQ:∀ ρ' w' a',SR n ρ' w' m' tm' a'->FR S ice0 w0 ρ' w' m'->a'.defers=a.defers->Q (exOf ex) a' w'):code.wp P Q a w:=by
 obtain⟨ex1,tm1,m1,hk,hw⟩:=zY5 (n:=n) base hcl hmix L c code hbo hc tm m _ _ h
 obtain⟨tm2,m2,hg,hk2⟩:=yB4 hk
 cases hk2
 refine hw S ice0 w0 ρ w a Q hp0 hs hf fun ρ1 w1 a1 hs1 hf1 hd1=>?_
 obtain⟨ρ2,hs2,hf2⟩:=wU3 hp0 hg hs1 hf1
 exact hQ ρ2 w1 a1 hs2 hf2 hd1
theorem wF7 {l:List bil.Pst} {k:Nat} {x y:bil.Pst} (h:l[k]?=some y) (he:x.tot.parts=y.tot.parts):ptsL (l.set k x)=ptsL l:=by
 unfold ptsL
 apply List.ext_getElem?
 intro i
 rw [List.getElem?_map,List.getElem?_map]
 by_cases hi:k=i
 ·subst hi
  rw [List.getElem?_set_self (List.getElem?_eq_some_iff.1 h).1,h]
  simp [he]
 ·rw [List.getElem?_set_ne hi]
end Go.Proofs.YtpccdcnjkknmkaaGreatDoor.Ev
namespace Go.Proofs.YtpccdcnjkknmkaaGreatDoor
open Go.RowKit
variable {P:Program}
def vH6 (v:Value) (b:Nat):Prop:=∀ a n c,v=.slice (some a) n c->a.block≠b
def Apart (v:Value) (w:World) (v':Value) (w':World):Prop:=∀ b,b < w.heap.size->vH6 v b->w'.heap[b]?=w.heap[b]?/\vH6 v' b
theorem zI1 (w:World) (o:Obj) (b:Nat) (h:b < w.heap.size):(w.alloc o).heap[b]?=w.heap[b]?:=by
 exact Below.heap_alloc w o b h
theorem heap_setCells_other (g b:Nat) (h:g≠b):∀ (vs:List Value) (o:Nat) (w:World),(w.setCells g o vs).heap[b]?=w.heap[b]?
 | [],_,_=>rfl
 | v::vs,o,w=>(heap_setCells_other g b h vs (o+1) (w.setCell ⟨g,o,none⟩ v)).trans (Below.heap_setCell w ⟨g,o,none⟩ v b (Ne.symm h))
theorem xR7 (v:Value) (w:World) (o:Obj) (n c:Nat):Apart v w (.slice (some ⟨w.heap.size,0,none⟩) n c) (w.drew.alloc o):=by
 intro b hb _
 refine⟨zI1 w.drew o b hb,fun a n c he=>?_⟩
 cases he
 exact Nat.ne_of_gt hb
theorem uC9 (w:World) (B:Nat) (t tx ty e:TypeId) (i:TypeInfo) (z:Value) (size bytes:Nat) (ht:P.underlying t=some (.slice e)) (hi:P.info? e=some i) (hz:i.zero=some z)
  (hsize:i.size=size) (hby:i.bytes=bytes) (hzs:z.cells.size=size) (hsz:0 < size)
  (v:Value) (n:Nat) (xs:List Value) (hown:w.ownsRow B e size v n xs) (x:Value) (m:Nat) (news:List Value) (hs:Src P size tx x m news w)
  (h63:n+m<=maxLen) (hbytes:(n+m)*bytes<=140737488355328) (hbase:B<=w.heap.size) :
  ∃ v' w',(Builtin.append_ #[t,tx] ty #[v,x]).run P w=.ok v' w'/\w'.ownsRow B e size v' (n+m) (xs++news)/\Below B w w'/\Apart v w v' w':=by
 subst hsize hby
 have hsmall:n+m<=9223372036854775807:=by simp only [maxLen] at h63;omega
 have hl:=hs.newsLen
 have hlen:(xs++news).length=(n+m)*i.size:=by rw [List.length_append,hown.1,hl,Nat.add_mul]
 have grown:∀ (old:Nat),old < n+m ->
   (w.drew.alloc (.cells ((xs++news).toArray++Builtin.zeroCells z.cells (grownCap w (n+m) old e - (n+m))) e)).ownsRow B e i.size
    (.slice (some ⟨w.heap.size,0,none⟩) (n+m) (grownCap w (n+m) old e)) (n+m) (xs++news) /\
   Below B w (w.drew.alloc (.cells ((xs++news).toArray++Builtin.zeroCells z.cells (grownCap w (n+m) old e - (n+m))) e)):=by
  intro old ho
  have hge:=grownCap_ge w (n+m) old e
  have hcm:grownCap w (n+m) old e<=maxLen:=grownCap_le_maxLen w (n+m) old e h63
  refine⟨⟨hlen,.inr ⟨w.heap.size,_,_,rfl,hbase,heap_alloc_new w.drew _,hge,hcm,?_,?_⟩⟩,((Below.refl B w).drew).alloc hbase _⟩
  ·simp only [Array.size_append,List.size_toArray,size_zeroCells,hzs,hlen,<- Nat.add_mul]
   congr 1
   omega
  ·simp only [Array.toList_append]
   rw [<- hlen]
   exact List.take_left
 rcases hown.2 with⟨rfl,rfl⟩ | ⟨g,cap,cur,rfl,hbg,hg,hnc,hcm,hcs,htake⟩
 ·have hx:xs=[]:=List.eq_nil_of_length_eq_zero (by simpa using hown.1)
  subst hx
  by_cases hm:m=0
  ·subst hm
   have hn:news=[]:=List.eq_nil_of_length_eq_zero (by simpa using hl)
   subst hn
   refine⟨.slice none 0 0,w,?_,World.ownsRow_nil w B e i.size,Below.refl _ _,fun b _ hb=>⟨rfl,hb⟩⟩
   have h1:=hs.cells
   have h2:=hs.len w
   have h3:(Builtin.lenOf (.slice none 0 0)).run P w=.ok 0 w:=rfl
   rcases hs.kind with⟨e',hk⟩ | hk <;>
    simp [Builtin.append_,run_underlying ht,run_underlying hk,sizeOf,typeInfo,hi,h2,h1]
  ·have hr:=run_append_grow_src (P:=P) w t tx ty e i z ht hi hz none 0 0 [] (run_firstCells_none w.drew i.size 0 0 0) x m news hs (by omega) (by omega) (growslice_fits (by omega) (by simpa using hbytes))
   have hgr:=grown 0 (by omega)
   simp only [Nat.zero_add,List.nil_append] at hgr hr ⊢
   exact⟨_,_,hr,hgr.1,hgr.2,xR7 _ _ _ _ _⟩
 ·by_cases hroom:n+m<=cap
  ·have hfit:n*i.size+news.length<=cur.size:=by rw [hl,hcs,<- Nat.add_mul];exact Nat.mul_le_mul_right _ hroom
   have hr:=run_append_room_src (P:=P) w t tx ty e i ht hi g 0 n cap x m news hs hroom
    (fun j hj=>by
     rw [Nat.zero_add]
     have:n*i.size+j < cur.size:=by omega
     simp [World.cell?,hg,this])
    (fun j hj=>by simp [World.frozen?,hg])
   rw [Nat.zero_add] at hr
   obtain⟨cur',c1,c2,c3⟩:=zK5 g e news (n*i.size) w cur hg hfit
   refine⟨_,_,hr,⟨hlen,.inr ⟨g,cap,cur',rfl,hbg,c1,hroom,hcm,by rw [c2];exact hcs,?_⟩⟩,zM3 g hbg _ _ (Below.refl _ _),fun b _ hb=>⟨heap_setCells_other g b (fun h=>hb _ _ _ rfl h) _ _ _,fun a n c he=>by cases he;exact hb _ _ _ rfl⟩⟩
   rw [c3,htake,<- hlen]
   exact List.take_left
  ·have holds:∀ j u,xs[j]?=some u->w.drew.cell? ((⟨g,0,none⟩:Addr).add j)=some u:=hown.cells (g:=g) rfl
   have hr:=run_append_grow_src (P:=P) w t tx ty e i z ht hi hz (some ⟨g,0,none⟩) n cap xs (run_firstCells_some w.drew i.size n ⟨g,0,none⟩ n cap xs hown.1 holds) x m news hs (by omega) (by omega) (growslice_fits (by omega) hbytes)
   have hgr:=grown cap (by omega)
   exact⟨_,_,hr,hgr.1,hgr.2,xR7 _ _ _ _ _⟩
theorem zG5 (w:World) {ops:Array Oper} {o:Oper} {a:Act} {K:Act->World->Prop} {Q:Exit->Act->World->Prop} {E:Prop} (hgd:o.guard=none) (s x:Operand) (t tx:TypeId)
  (ho:o.op=.call { callee:=.builtin .append,args:=#[s,x],argTypes:=#[t,tx] }) (B:Nat) (e:TypeId) (i:TypeInfo) (z:Value) (size bytes:Nat) (ht:P.underlying t=some (.slice e)) (hi:P.info? e=some i) (hz:i.zero=some z)
  (hsize:i.size=size) (hby:i.bytes=bytes) (hzs:z.cells.size=size) (hsz:0 < size) (v xv:Value) (n m:Nat) (xs news:List Value)
  (hown:w.ownsRow B e size v n xs) (hsrc:Src P size tx xv m news w) (hs:a.eval s=v) (hx:a.eval x=xv) (h63:n+m<=maxLen) (hbytes:(n+m)*bytes<=140737488355328) (hbase:B<=w.heap.size)
  (h:∀ v' w',w'.ownsRow B e size v' (n+m) (xs++news)->Below B w w'->Apart v w v' w'->K (a.put o.dst v') w') :
  if Region.wanted o (yielded ops a.tmps)=true then Oper.wp P o a w K Q else E:=by
 have hw:Region.wanted o (yielded ops a.tmps)=true:=by simp [Region.wanted,hgd]
 rw [if_pos hw]
 obtain⟨v',w',hr,h2,h3,h4⟩:=uC9 (P:=P) w B t tx o.type e i z size bytes ht hi hz hsize hby hzs hsz v n xs hown xv m news hsrc h63 hbytes hbase
 unfold Oper.wp execOp
 simp only [ho,resolve,invoke,builtin,Sem.run_bind,Sem.run_pure,Result.andThen_ok,List.map_toArray,List.map_cons,List.map_nil,hs,hx,hr]
 exact h v' w' h2 h3 h4
theorem zZ9 {w:World} {t e T:TypeId} {m size c:Nat} {B:Nat} (ht:P.underlying t=some (.slice e)) (news:List Value) (hl:news.length=m*size) (h1:∀ u∈news,u.oneCell'=true) (hb:w.heap[B]?=some (.cells news.toArray T (0,0))) :
  Src P size t (.slice (some ⟨B,0,none⟩) m c) m news w :=
 Src.ofSlice _ ht _ m c news hl (fun j u hj=>World.news_of_block hb j u (by simpa using hj)) h1
end Go.Proofs.YtpccdcnjkknmkaaGreatDoor
namespace Go.Proofs.YtpccdcnjkknmkaaGreatDoor
open Go.RowKit
variable {P:Program}
theorem uR6 {w:World} {B e size n c:Nat} {g:Nat} {xs:List Value} (h:w.ownsRow B e size (.slice (some ⟨g,0,none⟩) n c) n xs) (k:Nat) (u:Value) (hk:xs[k]?=some u) :
  w.cell? ⟨g,k,none⟩=some u/\w.frozen? ⟨g,k,none⟩=false/\B<=g/\g < w.heap.size:=by
 obtain⟨h1,h2⟩:=h
 rcases h2 with⟨h0,_⟩ | ⟨g',cap,cur,he,h3,h4,h5,h6,h7,h8⟩
 ·simp at h0
 ·simp only [Value.slice.injEq,Option.some.injEq,Addr.mk.injEq,and_true,true_and] at he
  obtain⟨rfl,rfl⟩:=he
  refine⟨?_,by simp [World.frozen?,h4],h3,(Array.getElem?_eq_some_iff.1 h4).1⟩
  have hkl:k < xs.length:=by
   rcases Nat.lt_or_ge k xs.length with h | h
   ·exact h
   ·rw [List.getElem?_eq_none h] at hk;cases hk
  rw [h1] at hkl
  rw [<- h8,List.getElem?_take_of_lt hkl] at hk
  simpa [World.cell?,h4] using hk
end Go.Proofs.YtpccdcnjkknmkaaGreatDoor
namespace Go.Proofs.YtpccdcnjkknmkaaGreatDoor
open Go.RowKit
section
variable {α:Type} {c:α->List Value} {sz:Nat}
theorem zB5 (hc:∀ x,(c x).length=sz):∀ xs:List α,(xs.flatMap c).length=xs.length*sz
 | []=>by simp
 | x::xs=>by rw [List.flatMap_cons,List.length_append,hc,zB5 hc xs,List.length_cons,Nat.succ_mul,Nat.add_comm]
theorem yN3 (hc:∀ x,(c x).length=sz):∀ (xs:List α) (i:Nat),(xs.flatMap c).drop (i*sz)=(xs.drop i).flatMap c
 | xs,0=>by simp
 | [],i+1=>by simp
 | x::xs,i+1=>by
  rw [List.flatMap_cons,List.drop_succ_cons,<- yN3 hc xs i,Nat.succ_mul,Nat.add_comm,<- List.drop_drop]
  rw [show (c x++xs.flatMap c).drop sz=xs.flatMap c from by rw [<- hc x];exact List.drop_left]
theorem yN2 (hc:∀ x,(c x).length=sz):∀ (xs:List α) (i:Nat),(xs.flatMap c).take (i*sz)=(xs.take i).flatMap c
 | xs,0=>by simp
 | [],i+1=>by simp
 | x::xs,i+1=>by
  rw [List.flatMap_cons,List.take_succ_cons,List.flatMap_cons,<- yN2 hc xs i,Nat.succ_mul,Nat.add_comm,List.take_add]
  rw [show (c x++xs.flatMap c).take sz=c x from by rw [<- hc x];exact List.take_left,show (c x++xs.flatMap c).drop sz=xs.flatMap c from by rw [<- hc x];exact List.drop_left]
theorem flat_get (hc:∀ x,(c x).length=sz) (xs:List α) (i:Nat) (h:i < xs.length) (j:Nat) (hj:j < sz):(xs.flatMap c)[i*sz+j]?=(c xs[i])[j]?:=by
 rw [<- List.getElem?_drop,yN3 hc,List.drop_eq_getElem_cons h,List.flatMap_cons,List.getElem?_append_left (by rw [hc];exact hj)]
end
def SlS {α:Type} (c:α->List Value) (sz:Nat) (w:World) (v:Value) (xs:List α):Prop:=SlR w w.heap.size sz v xs.length (xs.flatMap c)
section
variable {α:Type} {c:α->List Value} {sz:Nat} {w w':World} {v:Value} {xs:List α}
theorem SlS.ext (h:SlS c sz w v xs) (hx:Ext w w'):SlS c sz w' v xs:=(SlR.ext h hx).up hx.size
theorem SlS.nil:SlS c sz w (.slice none 0 0) []:=SlR.nil _ _ _
theorem SlS.at_ {a:Option Addr} {n cap:Nat} (hc:∀ x,(c x).length=sz) (h:SlS c sz w (.slice a n cap) xs) (hn:0 < xs.length) (_hsz:0 < sz):∃ b off,a=some ⟨b,off,none⟩/\b < w.heap.size /\
  ∀ k (hk:k < xs.length) j,j < sz->w.cell? ⟨b,off+k*sz+j,none⟩=(c xs[k])[j]?:=by
 obtain⟨h1,_,a',cap',he,h3⟩:=h
 simp only [Value.slice.injEq] at he
 obtain⟨rfl,rfl,rfl⟩:=he
 rcases h3 with h0 | ⟨b,off,rfl,hb,hcell⟩
 ·omega
 ·refine⟨b,off,rfl,hb,fun k hk j hj=>?_⟩
  have hlt:k*sz+j < xs.length*sz:=by
   have:(k+1)*sz<=xs.length*sz:=Nat.mul_le_mul_right _ hk
   rw [Nat.succ_mul] at this
   omega
  rw [Nat.add_assoc,hcell _ hlt,flat_get hc xs k hk j hj]
theorem SlS.cut {a:Option Addr} {n cap:Nat} (hc:∀ x,(c x).length=sz) (h:SlS c sz w (.slice a n cap) xs) (k:Nat) (hk:k<=xs.length) (cp:Nat):SlS c sz w (.slice a k cp) (xs.take k):=by
 obtain⟨h1,h2,a',cap',he,h3⟩:=h
 simp only [Value.slice.injEq] at he
 obtain⟨rfl,rfl,rfl⟩:=he
 have hlen:(xs.take k).length=k:=by simp;omega
 refine⟨zB5 hc _,by omega,a,cp,by rw [hlen],?_⟩
 rw [hlen]
 rcases h3 with h3 | ⟨b,off,rfl,hlt,hcell⟩
 ·exact .inl (by omega)
 ·by_cases hk0:k=0
  ·exact .inl hk0
  ·refine .inr ⟨b,off,rfl,hlt,fun j hj=>?_⟩
   have:k*sz<=xs.length*sz:=Nat.mul_le_mul_right _ hk
   rw [hcell j (by omega),<- yN2 hc,List.getElem?_take_of_lt hj]
end
def OwnS {α:Type} (c:α->List Value) (sz:Nat) (te:TypeId) (w:World) (B:Nat) (v:Value) (xs:List α):Prop:=w.ownsRow B te sz v xs.length (xs.flatMap c)
section
variable {α:Type} {c:α->List Value} {sz:Nat} {te:TypeId} {w w':World} {B:Nat} {v:Value} {xs:List α}
theorem OwnS.rd (h:OwnS c sz te w B v xs):SlS c sz w v xs:=SlR.of_own h
theorem OwnS.ext (h:OwnS c sz te w B v xs) (hx:Ext w w'):OwnS c sz te w' B v xs:=vE6 h hx
theorem OwnS.base {B':Nat} (h:OwnS c sz te w B' v xs) (hb:B<=B'):OwnS c sz te w B v xs:=wG0 h hb
end
theorem OwnS.at_ {α:Type} {c:α->List Value} {sz:Nat} {te:TypeId} {w:World} {B g n cap:Nat} {xs:List α} (hc:∀ x,(c x).length=sz) (h:OwnS c sz te w B (.slice (some ⟨g,0,none⟩) n cap) xs) (hn:n=xs.length) (k:Nat) (hk:k < xs.length) :
  (∀ j,j < sz->w.cell? ⟨g,k*sz+j,none⟩=(c xs[k])[j]?/\w.frozen? ⟨g,k*sz+j,none⟩=false)/\(0 < sz->B<=g/\g < w.heap.size):=by
 subst hn
 unfold OwnS at h
 have hh:∀ j (hj:j < sz),(xs.flatMap c)[k*sz+j]?=some ((c xs[k])[j]'(by rw [hc];exact hj)):=fun j hj=>by
  rw [flat_get hc xs k hk j hj,List.getElem?_eq_getElem]
 refine⟨fun j hj=>?_,fun hs=>?_⟩
 ·obtain⟨h1,h2,_⟩:=uR6 h _ _ (hh j hj)
  exact⟨h1.trans (List.getElem?_eq_getElem _).symm,h2⟩
 ·obtain⟨_,_,h3,h4⟩:=uR6 h _ _ (hh 0 hs)
  exact⟨h3,h4⟩
theorem xB3 {α:Type} {c:α->List Value} {sz:Nat} (hc:∀ x,(c x).length=sz) (xs:List α) (k:Nat) (hk:k < xs.length) (y:α):(xs.set k y).flatMap c=(xs.flatMap c).take (k*sz)++(c y++(xs.flatMap c).drop ((k+1)*sz)):=by
 rw [yN2 hc,yN3 hc,List.set_eq_take_append_cons_drop,if_pos hk,List.flatMap_append,List.flatMap_cons]
section
theorem OwnS.keepR {α:Type} {c:α->List Value} {sz:Nat} {te:TypeId} {w w':World} {B r:Nat} {v:Value} {xs:List α} (h:OwnS c sz te w B v xs) (hk:KeepR r w w') (hr:r < B):OwnS c sz te w' B v xs:=by
 obtain⟨h1,h2⟩:=h
 refine⟨h1,?_⟩
 rcases h2 with h2 | ⟨g,cap,cur,rfl,h3,h4,h5⟩
 ·exact .inl h2
 ·exact .inr ⟨g,cap,cur,rfl,h3,(hk.block g (Array.getElem?_eq_some_iff.1 h4).1 (by omega)).trans h4,h5⟩
theorem blkG {w:World} {b:Nat} {C:Array Value} {T:TypeId} (h:w.heap[b]?=some (.cells C T (0,0))) (o:Nat) (v:Value) (hv:C[o]?=some v):w.cell? ⟨b,o,none⟩=some v/\w.frozen? ⟨b,o,none⟩=false:=by
 constructor
 ·simp [World.cell?,h,hv]
 ·simp [World.frozen?,h]
theorem zZ2 {w:World} {b:Nat} {o:Obj} (h:w.heap[b]?=some o):b < w.heap.size:=(Array.getElem?_eq_some_iff.1 h).1
theorem zU5 {a z:World} {b:Nat} {o:Obj} (h:Ext a z) (H:a.heap[b]?=some o):z.heap[b]?=some o:=(Below.block h b (zZ2 H)).trans H
theorem yO4 {a z:World} {b B:Nat} {o:Obj} (h:Below B a z) (hb:b < B) (H:a.heap[b]?=some o):z.heap[b]?=some o:=(Below.block h b hb).trans H
theorem zM4 {a:World} {b:Nat} {o o':Obj} (H:a.heap[b]?=some o):(a.alloc o').heap[b]?=some o:=(Below.heap_alloc a o' b (zZ2 H)).trans H
theorem yZ2 (a:World) (o:Obj):(a.alloc o).heap[a.heap.size]?=some o:=heap_alloc_new a o
theorem yK2 {w w':World} {B e s n:Nat} {u:Value} {xs:List Value} (h:w.ownsRow B e s u n xs) (hk:∀ a m c,u=.slice (some a) m c->w'.heap[a.block]?=w.heap[a.block]?):w'.ownsRow B e s u n xs:=by
 obtain⟨h1,h2⟩:=h
 refine⟨h1,?_⟩
 rcases h2 with h2 | ⟨gg,cc,cur,rfl,h3,h4,h5⟩
 ·exact .inl h2
 ·exact .inr ⟨gg,cc,cur,rfl,h3,(hk _ _ _ rfl).trans h4,h5⟩
theorem uD0 {w:World} {B e s n:Nat} {u:Value} {xs:List Value} (h:w.ownsRow B e s u n xs):∀ a m c,u=.slice (some a) m c->a.block < w.heap.size/\B<=a.block:=by
 rintro a m c rfl
 rcases h.2 with⟨h0,_⟩ | ⟨gg,cc,cur,h0,hB,h2,_⟩
 ·cases h0
 ·simp only [Value.slice.injEq,Option.some.injEq] at h0
  rw [h0.1]
  exact⟨(Array.getElem?_eq_some_iff.1 h2).1,hB⟩
theorem OwnS.setO {α:Type} {c:α->List Value} {sz:Nat} {te:TypeId} {w:World} {B b o:Nat} {v u:Value} {xs:List α} (h:OwnS c sz te w B v xs) (hb:∀ a m c',v=.slice (some a) m c'->a.block≠b):OwnS c sz te (w.setCell ⟨b,o,none⟩ u) B v xs :=
 yK2 h fun a m c' he=>Below.heap_setCell _ _ _ _ (hb a m c' he)
end
section
variable {P:Program}
end
theorem Tryz.infoI:(Tryz.prog.info? 3).map (fun i=>(i.zero,i.size,i.bytes))=some (some (.int .i64 0),1,8):=by kernel_rfl
def ptC (x:bil.Pt):List Value:=[.string x.cat,.int .i64 x.bp,.int .i64 x.net,.int .i64 x.tax]
def taxN (x:bil.Pt):Int:=(zE9 x.net x.bp 10000).1
def zK9 (x:bil.Pt):bil.Pt:={ x with tax:=taxN x }
def zP6 (ps:List bil.Pt) (i:Nat):List bil.Pt:=(ps.take i).map zK9++ps.drop i
theorem blkZ {w:World} {b:Nat} {C:Array Value} {T:TypeId} {fz:Nat × Nat} (hz:fz.2<=fz.1) (h:w.heap[b]?=some (.cells C T fz)) (o:Nat) (v:Value) (hv:C[o]?=some v):w.cell? ⟨b,o,none⟩=some v/\w.frozen? ⟨b,o,none⟩=false:=by
 constructor
 ·simp [World.cell?,h,hv]
 ·simp [World.frozen?,h];omega
theorem zJ4 (w:World) (g i:Nat) (cs:Array Value) (t:TypeId) (fz:Nat × Nat) (v:Value) (hg:w.heap[g]?=some (.cells cs t fz)):(w.setCell ⟨g,i,none⟩ v).heap[g]?=some (.cells (cs.setIfInBounds i v) t fz):=by
 rw [setCell_eq_setRow w g i cs t fz v hg]
 exact setRow_heap w g cs _ t _ hg
structure RkI (w wr:World) (g po:Nat) (D:Array Value) (tg:TypeId) (fg:Nat × Nat) (ps:List bil.Pt) (i j:Nat) (xn xt:Value):Prop where
 part:∃ D':Array Value,wr.heap[g]?=some (.cells D' tg fg)/\D'.size=D.size/\∀ (q:Nat) (v:Value),((zP6 ps i).flatMap ptC)[q]?=some v->D'[po+q]?=some v
 nets:wr.ownsRow w.heap.size 3 1 xn j ((ps.take j).map fun x=>.int .i64 x.net)
 taxes:wr.ownsRow w.heap.size 3 1 xt j ((ps.take j).map fun x=>.int .i64 (taxN x))
 apart:∀ b,xn.ownBlock=some b->xt.ownBlock≠some b
 keep:∀ k,k < w.heap.size->k≠g->wr.heap[k]?=w.heap[k]?
 size:w.heap.size<=wr.heap.size
 os:wr.os=w.os
 tape:wr.tape=w.tape
 output:wr.output=w.output
theorem zO8 (ps:List bil.Pt) (i j:Nat):(zP6 ps i)[j]?=ps[j]?.map fun x=>if j < i then zK9 x else x:=by
 unfold zP6
 rw [List.getElem?_append]
 split
 ·rename_i h
  rw [List.length_map,List.length_take] at h
  rw [List.getElem?_map,List.getElem?_take_of_lt (by omega)]
  cases ps[j]? with
  | none=>rfl
  | some x=>simp [show j < i by omega]
 ·rename_i h
  rw [List.length_map,List.length_take] at h ⊢
  rw [List.getElem?_drop]
  rcases Nat.lt_or_ge i ps.length with h1 | h1
  ·rw [Nat.min_eq_left (by omega)] at h ⊢
   rw [show i+(j - i)=j by omega]
   cases ps[j]? with
   | none=>rfl
   | some x=>simp [show ¬ j < i by omega]
  ·rw [Nat.min_eq_right h1] at h ⊢
   rw [List.getElem?_eq_none (by omega),List.getElem?_eq_none (by omega)]
   rfl
theorem xW1 (ps:List bil.Pt) (i:Nat):(zP6 ps i).length=ps.length:=by
 unfold zP6
 rw [List.length_append,List.length_map,List.length_take,List.length_drop]
 omega
theorem uG5 {ps:List bil.Pt} {i:Nat} {x:bil.Pt} (h:ps[i]?=some x):zP6 ps (i+1)=(zP6 ps i).set i (zK9 x):=by
 have hi:i < ps.length:=(List.getElem?_eq_some_iff.1 h).1
 apply List.ext_getElem?
 intro j
 rw [zO8]
 by_cases hj:i=j
 ·subst hj
  rw [List.getElem?_set_self (by rw [xW1];exact hi),h]
  simp
 ·rw [List.getElem?_set_ne hj,zO8]
  cases ps[j]? with
  | none=>rfl
  | some y =>
   by_cases h1:j < i
   ·simp [h1,show j < i+1 by omega]
   ·simp [h1,show ¬ j < i+1 by omega]
theorem yY5 (x:bil.Pt):(ptC x).length=4:=rfl
theorem zM9 {ps:List bil.Pt} {i k j:Nat} {x:bil.Pt} (h:(zP6 ps k)[i]?=some x) (hj:j < 4):((zP6 ps k).flatMap ptC)[i*4+j]?=(ptC x)[j]?:=by
 obtain⟨hi,he⟩:=List.getElem?_eq_some_iff.1 h
 rw [flat_get yY5 (zP6 ps k) i hi j hj,he]
theorem uG6 {D':Array Value} {po i:Nat} {ps:List bil.Pt} {x:bil.Pt} (h:ps[i]?=some x) (hc:∀ (q:Nat) (v:Value),((zP6 ps i).flatMap ptC)[q]?=some v->D'[po+q]?=some v) :
  ∀ (q:Nat) (v:Value),((zP6 ps (i+1)).flatMap ptC)[q]?=some v->(D'.setIfInBounds (po+i*4+3) (.int .i64 (taxN x)))[po+q]?=some v:=by
 intro q v hq
 have hx:(zP6 ps i)[i]?=some x:=by rw [zO8,h];simp
 have hx2:(zP6 ps (i+1))[i]?=some (zK9 x):=by rw [zO8,h];simp
 by_cases he:q=i*4+3
 ·subst he
  rw [zM9 hx2 (by decide)] at hq
  have hv:v=.int .i64 (taxN x):=(Option.some.inj hq).symm
  subst hv
  have h0:=hc (i*4+3) _ ((zM9 hx (by decide)).trans rfl)
  have hlt:=(Array.getElem?_eq_some_iff.1 h0).1
  rw [show po+(i*4+3)=po+i*4+3 by omega] at hlt ⊢
  rw [Array.getElem?_setIfInBounds_self_of_lt hlt]
 ·rw [Array.getElem?_setIfInBounds_ne (by omega)]
  refine hc q v ?_
  rw [<- hq,uG5 h,xB3 yY5 _ i (by rw [xW1];exact (List.getElem?_eq_some_iff.1 h).1)]
  have hfl:((zP6 ps i).flatMap ptC).length=ps.length*4:=by rw [zB5 yY5,xW1]
  have hil:i < ps.length:=(List.getElem?_eq_some_iff.1 h).1
  rw [List.getElem?_append]
  split
  ·rename_i h1
   rw [List.length_take] at h1
   rw [List.getElem?_take_of_lt (by omega)]
  ·rename_i h1
   rw [List.length_take,hfl,Nat.min_eq_left (by omega)] at h1 ⊢
   rw [List.getElem?_append,yY5]
   split
   ·rename_i h2
    obtain⟨j,rfl⟩:∃ j,q=i*4+j:=⟨q - i*4,by omega⟩
    rw [Nat.add_sub_cancel_left] at h2 ⊢
    rw [zM9 hx h2]
    match j,h2 with
    | 0,_=>rfl
    | 1,_=>rfl
    | 2,_=>rfl
    | 3,_=>exact absurd rfl he
   ·rename_i h2
    rw [List.getElem?_drop]
    congr 1
    omega
theorem RkI.tax {w wr x1 Z:World} {g po:Nat} {D:Array Value} {tg:TypeId} {fg:Nat × Nat} {ps:List bil.Pt} {i:Nat} {xn xt:Value} {x:bil.Pt} (h:RkI w wr g po D tg fg ps i i xn xt) (hg:g < w.heap.size) (hx:ps[i]?=some x) (h1:Ext wr x1) (hZ:x1.setCell ⟨g,po+i*4+3,none⟩ (.int .i64 (taxN x))=Z):RkI w Z g po D tg fg ps (i+1) i xn xt:=by
 subst hZ
 obtain⟨⟨D',e1,e2,e3⟩,b1,b2,b3,b4,b5,b6,b7,b8⟩:=h
 have hs:x1.heap.size=(x1.setCell ⟨g,po+i*4+3,none⟩ (.int .i64 (taxN x))).heap.size:=by simp [World.setCell]
 have own:∀ {e s n:Nat} {u:Value} {xs:List Value},wr.ownsRow w.heap.size e s u n xs->(x1.setCell ⟨g,po+i*4+3,none⟩ (.int .i64 (taxN x))).ownsRow w.heap.size e s u n xs:=fun ho=>yK2 (vE6 ho h1) fun a m c he=>by
  have:=(uD0 ho a m c he).2
  exact Below.heap_setCell _ _ _ _ (by show a.block≠g;omega)
 refine { part:=⟨_,zJ4 x1 g _ D' tg _ _ (zU5 h1 e1),by rw [Array.size_setIfInBounds];exact e2,uG6 hx e3⟩,nets:=own b1,taxes:=own b2,apart:=b3,keep:=fun k hk hkg=>?_,size:=by rw [<- hs];exact Nat.le_trans b5 h1.size,os:=?_,tape:=?_,output:=?_ }
 ·rw [Below.heap_setCell _ _ _ k (by show k≠g;exact hkg),Below.block h1 k (by omega)]
  exact b4 k hk hkg
 ·exact (Below.os h1).trans b6
 ·exact (Below.tape h1).trans b7
 ·exact (Below.output h1).trans b8
theorem xP0 (w:World) (o:Obj):w.heap.size<=(w.alloc o).drew.heap.size:=by show _<=(w.heap.push o).size;simp
theorem qE5 {w Z w7:World} {o:Obj} {B:Nat} (h:w.heap.size<=Z.heap.size) (hb:Below B (Z.alloc o).drew w7):w.heap.size<=w7.heap.size:=Nat.le_trans h (Nat.le_trans (xP0 Z o) hb.size)
theorem yM8 (w:World) (o o':Obj):w.heap.size<=((w.alloc o).alloc o').drew.heap.size:=by show _<=((w.heap.push o).push o').size;simp;omega
theorem wJ7 {w Z w7:World} {o o':Obj} {B:Nat} (h:w.heap.size<=Z.heap.size) (hb:Below B ((Z.alloc o).alloc o').drew w7):w.heap.size<=w7.heap.size:=Nat.le_trans h (Nat.le_trans (yM8 Z o o') hb.size)
theorem zT2 (w:World) (o o':Obj) (b:Nat) (h:b < w.heap.size):((w.alloc o).alloc o').heap[b]?=w.heap[b]?:=(zI1 (w.alloc o) o' b (by simp;omega)).trans (zI1 w o b h)
theorem wG9 (w:World) (o o':Obj):((w.alloc o).alloc o').heap[w.heap.size+1]?=some o':=by
 have:=yZ2 (w.alloc o) o'
 rwa [World.size_alloc] at this
theorem wR5 {Z w7:World} {B e s n:Nat} {v v7:Value} {xs:List Value} {o o':Obj} (h:Z.ownsRow B e s v n xs) (hap:Apart v ((Z.alloc o).alloc o').drew v7 w7):w7.heap[Z.heap.size+1]?=some o':=by
 have h1:=(hap (Z.heap.size+1) (by show _ < ((Z.heap.push o).push o').size;simp) (by
  intro a m c he hab
  have:=(wF9 h a.block (by rw [he];rfl)).2
  omega)).1
 exact h1.trans (wG9 Z o o')
theorem xW3 {Z w7:World} {B e s n:Nat} {v v7:Value} {xs:List Value} {o o':Obj} (h:Z.ownsRow B e s v n xs) (hap:Apart v ((Z.alloc o).alloc o').drew v7 w7):w7.heap[Z.heap.size]?=some o:=by
 have h1:=(hap Z.heap.size (by show _ < ((Z.heap.push o).push o').size;simp;omega) (by
  intro a m c he hab
  have:=(wF9 h a.block (by rw [he];rfl)).2
  omega)).1
 exact h1.trans (zM4 (yZ2 Z o))
theorem bel0 {Z w7:World} {B:Nat} (hb:Below B Z.drew w7):Below B Z w7:=⟨hb.os,hb.tape,hb.output,hb.size,hb.block⟩
theorem bel1 {Z w7:World} {B:Nat} {o:Obj} (h:B<=Z.heap.size) (hb:Below B (Z.alloc o).drew w7):Below B Z w7:=((Below.refl B Z).alloc h o).trans (bel0 hb)
theorem bel3 {Z w7:World} {B:Nat} {o:Obj} (h:B<=Z.heap.size) (hb:Below B (Z.alloc o) w7):Below B Z w7:=((Below.refl B Z).alloc h o).trans hb
theorem bel2 {Z w7:World} {B:Nat} {o o':Obj} (h:B<=Z.heap.size) (hb:Below B ((Z.alloc o).alloc o').drew w7):Below B Z w7:=(((Below.refl B Z).alloc h o).alloc (Nat.le_trans h (by simp)) o').trans (bel0 hb)
theorem RkI.more {w Z w8:World} {g po:Nat} {D:Array Value} {tg:TypeId} {fg:Nat × Nat} {ps:List bil.Pt} {i:Nat} {xn xt v7 v8:Value} {x:bil.Pt} (h:RkI w Z g po D tg fg ps (i+1) i xn xt) (hg:g < w.heap.size) (hx:ps[i]?=some x) (hB:Below w.heap.size Z w8)
  (hn:w8.ownsRow w.heap.size 3 1 v7 (i+1) ((ps.take i).map (fun x=>Value.int .i64 x.net)++[.int .i64 x.net])) (ht:w8.ownsRow w.heap.size 3 1 v8 (i+1) ((ps.take i).map (fun x=>Value.int .i64 (taxN x))++[.int .i64 (taxN x)])) (ha:∀ b,v8.ownBlock=some b->v7.ownBlock≠some b) :
  RkI w w8 g po D tg fg ps (i+1) (i+1) v7 v8:=by
 obtain⟨⟨D',e1,e2,e3⟩,b1,b2,b3,b4,b5,b6,b7,b8⟩:=h
 have htk:∀ (f:bil.Pt->Value),(ps.take i).map f++[f x]=(ps.take (i+1)).map f:=fun f=>by
  rw [List.take_add_one,hx,List.map_append];rfl
 refine { part:=⟨D',(hB.block g hg).trans e1,e2,e3⟩,nets:=?_,taxes:=?_,apart:=fun b h1 h2=>ha b h2 h1,keep:=fun k hk hkg=>(hB.block k hk).trans (b4 k hk hkg),size:=Nat.le_trans b5 hB.size,os:=hB.os.trans b6,tape:=hB.tape.trans b7,output:=hB.output.trans b8 }
 ·rw [<- htk fun x=>Value.int .i64 x.net];exact hn
 ·rw [<- htk fun x=>Value.int .i64 (taxN x)];exact ht
theorem yN5 (l:List Int) (b n cap:Nat) (cur:Array Value) (te:TypeId) (w:World) (H:w.heap[b]?=some (.cells cur te (0,0))) (hl:l.length=n) (hc:cur.toList.take (n*1)=l.map fun x=>.int .i64 x) (hI:∀ x∈l,In64 x) (hn:n < 1000000) (hs:bil.I64 l.sum) :
  Calls Tryz.prog 113 #[.slice (some ⟨b,0,none⟩) n cap] w fun e w'=>e=.returned (.tuple #[.int .i64 l.sum,.bool true])/\Ext w w':=by
 subst hl
 have h:=yV5 l b 0 cap w hI hn (zZ2 H) (fun k hk=>by
  refine (blkG H (0+k) _ ?_).1
  rw [Nat.zero_add]
  have:(cur.toList.take (l.length*1))[k]?=some (.int .i64 l[k]):=by rw [hc,List.getElem?_map,List.getElem?_eq_getElem hk];rfl
  rw [List.getElem?_take_of_lt (by omega),Array.getElem?_toList] at this
  exact this)
 rw [decide_eq_true hs] at h
 have hw:IntKind.i64.wrap l.sum=l.sum:=by rw [IntKind.wrap_i64];obtain⟨h1,h2⟩:=hs;omega
 rwa [hw] at h
theorem zO0 {Z y w7:World} {B e s n:Nat} {u v v7:Value} {xs:List Value} (h:Z.ownsRow B e s u n xs) (hy:∀ k,k < Z.heap.size->y.heap[k]?=Z.heap[k]?) (hsz:Z.heap.size<=y.heap.size) (hap:Apart v y v7 w7) (hv:∀ b,v.ownBlock=some b->u.ownBlock≠some b) :
  w7.ownsRow B e s u n xs/\∀ b,v7.ownBlock=some b->u.ownBlock≠some b:=by
 have hnb:∀ b,u.ownBlock=some b->b < Z.heap.size/\vH6 v b:=fun b hb=>by
  refine⟨(wF9 h b hb).2,?_⟩
  intro a m c he hab
  subst he
  exact hv b (by rw [<- hab];rfl) hb
 refine⟨yK2 h fun a m c he=>?_,fun b hb hu=>?_⟩
 ·subst he
  obtain⟨h1,h2⟩:=hnb a.block rfl
  rw [(hap a.block (by omega) h2).1]
  exact hy _ h1
 ·obtain⟨h1,h2⟩:=hnb b hu
  have h3:=(hap b (by omega) h2).2
  cases v7 with
  | slice a m c =>
   cases a with
   | none=>cases hb
   | some a=>exact h3 a m c rfl (Option.some.inj hb)
  | _=>cases hb
structure RkEnd (R o g po:Nat) (C D:Array Value) (tR tg:TypeId) (fR fg:Nat × Nat) (ps:List bil.Pt) (sN sT:Int) (w w':World):Prop where
 part:∃ D':Array Value,w'.heap[g]?=some (.cells D' tg fg)/\D'.size=D.size/\∀ (q:Nat) (v:Value),((ps.map zK9).flatMap ptC)[q]?=some v->D'[po+q]?=some v
 row:w'.heap[R]?=some (.cells (((C.setIfInBounds o (.int .i64 sN)).setIfInBounds (o+1) (.int .i64 sT)).setIfInBounds (o+2) (.int .i64 (sN+sT))) tR fR)
 keep:Keep2 R g w w'
theorem RkEnd.of {R o g po:Nat} {C D:Array Value} {tR tg:TypeId} {fR fg:Nat × Nat} {ps:List bil.Pt} {sN sT:Int} {w wr Z x3:World} {i:Nat} {xn xt:Value} (HI:RkI w wr g po D tg fg ps i i xn xt) (HK:KeepR R wr Z) (HX:Ext Z x3)
  (HR:x3.heap[R]?=some (.cells ((C.setIfInBounds o (.int .i64 sN)).setIfInBounds (o+1) (.int .i64 sT)) tR fR)) (hi:ps.length<=i) (hne:g≠R) (_hR:R < w.heap.size):RkEnd R o g po C D tR tg fR fg ps sN sT w (x3.setCell ⟨R,o+2,none⟩ (.int .i64 (sN+sT))):=by
 have hK:KeepR R wr (x3.setCell ⟨R,o+2,none⟩ (.int .i64 (sN+sT))):=(HK.trans (KeepR.of_ext HX)).set _
 obtain⟨⟨D',e1,e2,e3⟩,b1,b2,b3,b4,b5,b6,b7,b8⟩:=HI
 have hm:zP6 ps i=ps.map zK9:=by unfold zP6;rw [List.take_of_length_le hi,List.drop_eq_nil_of_le hi,List.append_nil]
 rw [hm] at e3
 exact { part:=⟨D',(hK.block g (zZ2 e1) hne).trans e1,e2,e3⟩,row:=zJ4 x3 R (o+2) _ tR _ _ HR,keep:=⟨hK.os.trans b6,hK.tape.trans b7,hK.output.trans b8,Nat.le_trans b5 hK.size,fun k hk h1 h2=>(hK.block k (Nat.lt_of_lt_of_le hk b5) h1).trans (b4 k hk h2)⟩ }
set_option maxHeartbeats 4000000 in
set_option maxRecDepth 100000 in
theorem vD4 (R o g po n cap:Nat) (C D:Array Value) (tR tg:TypeId) (fR fg:Nat × Nat) (hfR:fR.2<=fR.1) (hfg:fg.2<=fg.1) (ps:List bil.Pt) (w:World) (HR:w.heap[R]?=some (.cells C tR fR)) (Hg:w.heap[g]?=some (.cells D tg fg)) (hne:g≠R)
  (c0 c1 c2:Value) (h0:C[o]?=some c0) (h1:C[o+1]?=some c1) (h2:C[o+2]?=some c2) (h3:C[o+3]?=some (.slice (some ⟨g,po,none⟩) n cap)) (hn:ps.length=n) (hn1:0 < n) (hn2:n<=1000) (hcap:n<=cap)
  (hD:∀ (q:Nat) (v:Value),(ps.flatMap ptC)[q]?=some v->D[po+q]?=some v) (hok:∀ x∈ps,(zE9 x.net x.bp 10000).2=0/\In64 x.net/\In64 (taxN x)) (hsn:bil.I64 (ps.map (·.net)).sum) (hst:bil.I64 (ps.map taxN).sum) (hsg:bil.I64 ((ps.map (·.net)).sum+(ps.map taxN).sum)) :
  Calls Tryz.prog 72 #[.pointer (some ⟨R,o,none⟩)] w fun e w'=>e=.returned (.bool true)/\RkEnd R o g po C D tR tg fR fg ps (ps.map (·.net)).sum (ps.map taxN).sum w w':=by
 obtain⟨i0,hi,iz0,iz1,iz2⟩:=info_parts Tryz.infoI
 obtain⟨p3,f3⟩:=blkZ hfR HR (o+3) _ h3
 have hRl:=zZ2 HR
 have hgl:=zZ2 Hg
 have HD:=Lib.hid hD
 have HOK:=Lib.hid hok
 clear hD hok
 go_enter Tryz.func72,Tryz.ntmps72
 go_wp2
 go_loopw [3,4,16] (fun xn xt iv wr=>∃ (i:Nat),iv=.int .i64 i/\i<=n/\RkI w wr g po D tg fg ps i i xn xt) (fun _ _ iv _=>n - (intOf iv).toNat)
 case atStart =>
  refine⟨0,rfl,Nat.zero_le _,?_⟩
  exact { part:=⟨D,Hg,rfl,fun q v hq=>HD.out q v (by simpa [zP6] using hq)⟩,nets:=⟨rfl,.inl ⟨rfl,rfl⟩⟩,taxes:=⟨rfl,.inl ⟨rfl,rfl⟩⟩,apart:=fun b hb=>(by cases hb),keep:=fun _ _ _=>rfl,size:=Nat.le_refl _,os:=rfl,tape:=rfl,output:=rfl }
 case round =>
  obtain⟨i,rfl,hin,hI⟩:=hrel
  by_cases hlt:i < n
  ·have hki:(i:Int) < (n:Int):=by omega
   obtain⟨D',hg',hDs,hDc⟩:=hI.part
   have hRr:wr.heap[R]?=some (.cells C tR fR):=(hI.keep R hRl (Ne.symm hne)).trans HR
   obtain⟨k3,l3⟩:=blkZ hfR hRr (o+3) _ h3
   obtain⟨x,hx⟩:∃ x,ps[i]?=some x:=⟨_,List.getElem?_eq_getElem (by omega)⟩
   have hcell:∀ j v,j < 4->(ptC x)[j]?=some v->D'[po+(i*4+j)]?=some v:=fun j v hj hv=>hDc _ v ((zM9 (by rw [zO8,hx];simp) hj).trans hv)
   have d1:=blkZ hfg hg' (po+i*4+1) (.int .i64 x.bp) (by rw [Nat.add_assoc];exact hcell 1 _ (by decide) rfl)
   have d2:=blkZ hfg hg' (po+i*4+2) (.int .i64 x.net) (by rw [Nat.add_assoc];exact hcell 2 _ (by decide) rfl)
   have d3:=blkZ hfg hg' (po+i*4+3) (.int .i64 x.tax) (by rw [Nat.add_assoc];exact hcell 3 _ (by decide) rfl)
   obtain⟨d1,e1⟩:=d1
   obtain⟨d2,e2⟩:=d2
   obtain⟨d3,e3⟩:=d3
   have HI:=Lib.hid hI
   have HX:=Lib.hid hx
   have HDC:=Lib.hid hDc
   have HGG:=Lib.hid hg'
   clear hI hx hDc hg' hDs hcell hRr HR Hg h0 h1 h2 h3
   have hokx:=HOK.out x (List.mem_of_getElem? HX.out)
   have HTX:Hid (∀ z,Calls Tryz.prog 112 #[.int .i64 x.net,.int .i64 x.bp] z fun e w'=>e=.returned (.tuple #[.int .i64 (taxN x),.int .i64 0])/\Ext z w'):=Lib.hid fun z=>by
    have:=wZ2 x.net x.bp z hokx.2.1
    rw [hokx.1] at this
    exact this
   have HCX:Hid (∀ z,Ext wr z->z.cell? ⟨g,po+i*4+3,none⟩=some (.int .i64 x.tax)/\z.frozen? ⟨g,po+i*4+3,none⟩=false):=Lib.hid fun z hz=>blkZ hfg (zU5 hz HGG.out) _ _ (by rw [Nat.add_assoc];exact HDC.out _ _ ((zM9 (by rw [zO8,HX.out];simp) (by decide)).trans rfl))
   clear hokx
   go_wp2_with fail
   go_region_law
    (first
     | (go_simp;go_at_call 112;(with_reducible refine (HTX.out _).mono ?_);rintro e x1 ⟨he,hx1⟩;subst he;have HX1:Hid (Ext wr x1):=Lib.hid (by first | exact hx1 | exact Ext.trans (Ext.drew (Ext.refl _)) hx1);obtain⟨d4,e4⟩:=HCX.out x1 HX1.out;clear hx1)
     | fail)
   all_goals
    generalize hZ:x1.setCell ⟨g,po+i*4+3,none⟩ (.int .i64 (taxN x))=Z
    have hJ:=RkI.tax HI.out hgl HX.out HX1.out hZ
    have HJ:=Lib.hid hJ
    obtain⟨D2,hg2,hDs2,hDc2⟩:=hJ.part
    have q1:=blkZ hfg hg2 (po+i*4+2) (.int .i64 x.net) (by rw [Nat.add_assoc];exact hDc2 _ _ ((zM9 (x:=zK9 x) (by rw [zO8,HX.out];simp) (by decide)).trans rfl))
    have q2:=blkZ hfg hg2 (po+i*4+3) (.int .i64 (taxN x)) (by rw [Nat.add_assoc];exact hDc2 _ _ ((zM9 (x:=zK9 x) (by rw [zO8,HX.out];simp) (by decide)).trans rfl))
    obtain⟨m1,m2⟩:=q1
    obtain⟨m3,m4⟩:=q2
    have HG2:=Lib.hid hg2
    have hgz:g < Z.heap.size:=zZ2 hg2
    have HD3:Hid (D2[po+i*4+3]?=some (.int .i64 (taxN x))):=Lib.hid (by rw [Nat.add_assoc];exact hDc2 _ _ ((zM9 (x:=zK9 x) (by rw [zO8,HX.out];simp) (by decide)).trans rfl))
    clear hJ hDs2 hDc2 hg2 hZ HI HX1 HCX HTX HGG HDC d1 d2 d3 d4 e1 e2 e3 e4 k3 l3
    have HSZ:Hid (i+1<=maxLen):=Lib.hid (by unfold maxLen;omega)
    have HSY:Hid ((i+1)*8<=140737488355328):=Lib.hid (by omega)
    go_wp2_with fail
    go_region_law
     (first
      | (refine zG5 _ (by rfl) _ _ _ _ (by rfl) w.heap.size 3 i0 _ 1 8 Tryz.underlying23 hi iz0 iz1 iz2 rfl (by decide) u3 (.slice (some ⟨Z.heap.size,0,none⟩) 1 1) i 1 _ [.int .i64 x.net] (by first | exact (HJ.out.nets.alloc _).drew | exact HJ.out.nets.drew.alloc _) (zZ9 Tryz.underlying23 _ rfl (by intro u hu;simp only [List.mem_cons,List.not_mem_nil,or_false] at hu;subst hu;rfl) (heap_alloc_new Z _)) (by rfl) (by rfl) HSZ.out HSY.out (Nat.le_trans HJ.out.size (xP0 Z _)) ?_;intro v7 w7 ho7 hb7 hap7;have HO7:=Lib.hid ho7;have HB7:Hid (Below w.heap.size Z w7):=Lib.hid (bel1 HJ.out.size hb7);have HT7:=Lib.hid (zO0 HJ.out.taxes (fun k hk=>zI1 Z _ k hk) (xP0 Z _) hap7 HJ.out.apart);have HG7:Hid (w7.heap[g]?=some (.cells D2 tg fg)):=Lib.hid (yO4 hb7 hgl (zM4 HG2.out));obtain⟨r3,r4⟩:=blkZ hfg HG7.out _ _ HD3.out;have hs7:w.heap.size<=w7.heap.size:=qE5 HJ.out.size hb7;clear ho7 hb7 hap7)
      | (refine zG5 _ (by rfl) _ _ _ _ (by rfl) w.heap.size 3 i0 _ 1 8 Tryz.underlying23 hi iz0 iz1 iz2 rfl (by decide) u4 (.slice (some ⟨w7.heap.size,0,none⟩) 1 1) i 1 _ [.int .i64 (taxN x)] (by first | exact (HT7.out.1.alloc _).drew | exact HT7.out.1.drew.alloc _) (zZ9 Tryz.underlying23 _ rfl (by intro u hu;simp only [List.mem_cons,List.not_mem_nil,or_false] at hu;subst hu;rfl) (heap_alloc_new w7 _)) (by rfl) (by rfl) HSZ.out HSY.out (Nat.le_trans hs7 (xP0 w7 _)) ?_;intro v8 w8 ho8 hb8 hap8;have HO8:=Lib.hid ho8;have HB8:Hid (Below w.heap.size w7 w8):=Lib.hid (by first | exact bel3 hs7 hb8 | exact bel1 hs7 hb8 | exact hb8 | exact bel0 hb8);have HN8:=Lib.hid (zO0 HO7.out (fun k hk=>zI1 w7 _ k hk) (xP0 w7 _) hap8 (fun b hb hb2=>HT7.out.2 b hb2 hb));clear ho8 hb8 hap8)
      | (refine zG5 _ (by rfl) _ _ _ _ (by rfl) w.heap.size 3 i0 _ 1 8 Tryz.underlying23 hi iz0 iz1 iz2 rfl (by decide) u3 (.slice (some ⟨Z.heap.size,0,none⟩) 1 1) i 1 _ [.int .i64 x.net] (((HJ.out.nets.alloc _).alloc _).drew) (zZ9 Tryz.underlying23 _ rfl (by intro u hu;simp only [List.mem_cons,List.not_mem_nil,or_false] at hu;subst hu;rfl) (zM4 (yZ2 Z _))) (by rfl) (by rfl) HSZ.out HSY.out (Nat.le_trans HJ.out.size (yM8 Z _ _)) ?_;intro v7 w7 ho7 hb7 hap7;have HO7:=Lib.hid ho7;have HA7:=Lib.hid (wR5 HJ.out.nets hap7);have HB7:Hid (Below w.heap.size Z w7):=Lib.hid (bel2 HJ.out.size hb7);have HT7:=Lib.hid (zO0 HJ.out.taxes (fun k hk=>zT2 Z _ _ k hk) (yM8 Z _ _) hap7 HJ.out.apart);have HG7:Hid (w7.heap[g]?=some (.cells D2 tg fg)):=Lib.hid (yO4 hb7 hgl (zM4 (zM4 HG2.out)));obtain⟨r3,r4⟩:=blkZ hfg HG7.out _ _ HD3.out;have hs7:w.heap.size<=w7.heap.size:=wJ7 HJ.out.size hb7;clear ho7 hb7 hap7)
      | (refine zG5 _ (by rfl) _ _ _ _ (by rfl) w.heap.size 3 i0 _ 1 8 Tryz.underlying23 hi iz0 iz1 iz2 rfl (by decide) u4 (.slice (some ⟨Z.heap.size+1,0,none⟩) 1 1) i 1 _ [.int .i64 (taxN x)] (by first | exact HT7.out.1 | exact HT7.out.1.drew) (zZ9 Tryz.underlying23 _ rfl (by intro u hu;simp only [List.mem_cons,List.not_mem_nil,or_false] at hu;subst hu;rfl) HA7.out) (by rfl) (by rfl) HSZ.out HSY.out hs7 ?_;intro v8 w8 ho8 hb8 hap8;have HO8:=Lib.hid ho8;have HB8:Hid (Below w.heap.size w7 w8):=Lib.hid (by first | exact bel3 hs7 hb8 | exact bel1 hs7 hb8 | exact hb8 | exact bel0 hb8);have HN8:=Lib.hid (zO0 HO7.out (fun k hk=>rfl) (Nat.le_refl _) hap8 (fun b hb hb2=>HT7.out.2 b hb2 hb));clear ho8 hb8 hap8)
      | (refine zG5 _ (by rfl) _ _ _ _ (by rfl) w.heap.size 3 i0 _ 1 8 Tryz.underlying23 hi iz0 iz1 iz2 rfl (by decide) u3 (.slice (some ⟨Z.heap.size+1,0,none⟩) 1 1) i 1 _ [.int .i64 x.net] (((HJ.out.nets.alloc _).alloc _).drew) (zZ9 Tryz.underlying23 _ rfl (by intro u hu;simp only [List.mem_cons,List.not_mem_nil,or_false] at hu;subst hu;rfl) (wG9 Z _ _)) (by rfl) (by rfl) HSZ.out HSY.out (Nat.le_trans HJ.out.size (yM8 Z _ _)) ?_;intro v7 w7 ho7 hb7 hap7;have HO7:=Lib.hid ho7;have HB9:=Lib.hid (xW3 HJ.out.nets hap7);have HB7:Hid (Below w.heap.size Z w7):=Lib.hid (bel2 HJ.out.size hb7);have HT7:=Lib.hid (zO0 HJ.out.taxes (fun k hk=>zT2 Z _ _ k hk) (yM8 Z _ _) hap7 HJ.out.apart);have HG7:Hid (w7.heap[g]?=some (.cells D2 tg fg)):=Lib.hid (yO4 hb7 hgl (zM4 (zM4 HG2.out)));obtain⟨r3,r4⟩:=blkZ hfg HG7.out _ _ HD3.out;have hs7:w.heap.size<=w7.heap.size:=wJ7 HJ.out.size hb7;clear ho7 hb7 hap7)
      | (refine zG5 _ (by rfl) _ _ _ _ (by rfl) w.heap.size 3 i0 _ 1 8 Tryz.underlying23 hi iz0 iz1 iz2 rfl (by decide) u4 (.slice (some ⟨Z.heap.size,0,none⟩) 1 1) i 1 _ [.int .i64 (taxN x)] (by first | exact HT7.out.1 | exact HT7.out.1.drew) (zZ9 Tryz.underlying23 _ rfl (by intro u hu;simp only [List.mem_cons,List.not_mem_nil,or_false] at hu;subst hu;rfl) HB9.out) (by rfl) (by rfl) HSZ.out HSY.out hs7 ?_;intro v8 w8 ho8 hb8 hap8;have HO8:=Lib.hid ho8;have HB8:Hid (Below w.heap.size w7 w8):=Lib.hid (by first | exact bel3 hs7 hb8 | exact bel1 hs7 hb8 | exact hb8 | exact bel0 hb8);have HN8:=Lib.hid (zO0 HO7.out (fun k hk=>rfl) (Nat.le_refl _) hap8 (fun b hb hb2=>HT7.out.2 b hb2 hb));clear ho8 hb8 hap8)
      | fail)
    all_goals
     go_wp2_with fail
     refine⟨⟨i+1,by simp,by omega,RkI.more HJ.out hgl HX.out (HB7.out.trans HB8.out) HN8.out.1 HO8.out HN8.out.2⟩,by simp [intOf];omega⟩
  ·have hki:¬ (i:Int) < (n:Int):=by omega
   obtain rfl:i=n:=by omega
   have HI:=Lib.hid hI
   have hRr:wr.heap[R]?=some (.cells C tR fR):=(hI.keep R hRl (Ne.symm hne)).trans HR
   obtain⟨k0,l0⟩:=blkZ hfR hRr o _ h0
   obtain⟨k1,l1⟩:=blkZ hfR hRr (o+1) _ h1
   obtain⟨k2,l2⟩:=blkZ hfR hRr (o+2) _ h2
   have hwl:=hI.size
   obtain⟨bn,cn,curn,hxn,hbn,hhn,hcn⟩:∃ bn cn curn,u3=.slice (some ⟨bn,0,none⟩) i cn/\w.heap.size<=bn/\wr.heap[bn]?=some (.cells curn 3 (0,0))/\curn.toList.take (i*1)=(ps.take i).map (fun x=>Value.int .i64 x.net):=by
    rcases hI.nets.2 with⟨_,h0⟩ | ⟨bn,cn,curn,e1,e2,e3,_,_,_,e4⟩
    ·omega
    ·exact⟨bn,cn,curn,e1,e2,e3,e4⟩
   obtain⟨bt,ct,curt,hxt,hbt,hht,hct⟩:∃ bn cn curn,u4=.slice (some ⟨bn,0,none⟩) i cn/\w.heap.size<=bn/\wr.heap[bn]?=some (.cells curn 3 (0,0))/\curn.toList.take (i*1)=(ps.take i).map (fun x=>Value.int .i64 (taxN x)):=by
    rcases hI.taxes.2 with⟨_,h0⟩ | ⟨bn,cn,curn,e1,e2,e3,_,_,_,e4⟩
    ·omega
    ·exact⟨bn,cn,curn,e1,e2,e3,e4⟩
   subst hxn hxt
   have hps:ps.take i=ps:=List.take_of_length_le (by omega)
   rw [hps] at hcn hct
   have HEN:Hid (∀ z,Ext wr z->Calls Tryz.prog 113 #[.slice (some ⟨bn,0,none⟩) i cn] z fun e w'=>e=.returned (.tuple #[.int .i64 (ps.map (·.net)).sum,.bool true])/\Ext z w'):=Lib.hid fun z hz =>
    yN5 (ps.map (·.net)) bn i cn curn _ z (zU5 hz hhn) (by rw [List.length_map,hn]) (by rw [hcn,List.map_map];rfl) (fun y hy=>by obtain⟨q,hq,rfl⟩:=List.mem_map.1 hy;exact (HOK.out q hq).2.1) (by omega) hsn
   have HET:Hid (∀ z,z.heap[bt]?=wr.heap[bt]?->Calls Tryz.prog 113 #[.slice (some ⟨bt,0,none⟩) i ct] z fun e w'=>e=.returned (.tuple #[.int .i64 (ps.map taxN).sum,.bool true])/\Ext z w'):=Lib.hid fun z hz =>
    yN5 (ps.map taxN) bt i ct curt _ z (hz.trans hht) (by rw [List.length_map,hn]) (by rw [hct,List.map_map];rfl) (fun y hy=>by obtain⟨q,hq,rfl⟩:=List.mem_map.1 hy;exact (HOK.out q hq).2.2) (by omega) hst
   have HRR:=Lib.hid hRr
   have HHT:=Lib.hid hht
   have H0:=Lib.hid h0
   have H1:=Lib.hid h1
   have H2:=Lib.hid h2
   have hbtR:bt≠R:=by omega
   have HXT:Hid (∀ (x1:World) (v:Value),Ext wr x1->(x1.setCell ⟨R,o,none⟩ v).heap[bt]?=wr.heap[bt]?):=Lib.hid fun x1 v hx=>(Below.heap_setCell _ _ _ bt (by show bt≠R;exact hbtR)).trans (Below.block hx bt (zZ2 HHT.out))
   have hsz0:o < C.size:=(Array.getElem?_eq_some_iff.1 h0).1
   have hsz1:o+1 < C.size:=(Array.getElem?_eq_some_iff.1 h1).1
   have hsz2:o+2 < C.size:=(Array.getElem?_eq_some_iff.1 h2).1
   clear hI hRr hhn hht hcn hct HR Hg h0 h1 h2 h3 p3 f3 k0 l0 k1 l1 k2 l2
   go_wp2_with (first
    | (go_at_call 113;(with_reducible refine (HEN.out _ (Ext.refl _)).mono ?_);rintro e x1 ⟨he,hx1⟩;subst he;have HX1:=Lib.hid hx1;obtain⟨a0,b0⟩:=blkZ hfR (zU5 hx1 HRR.out) o _ H0.out;clear hx1)
    | (go_at_call 113;(with_reducible refine (HET.out _ (HXT.out _ _ HX1.out)).mono ?_);rintro e x2 ⟨he,hx2⟩;subst he;have HX2:=Lib.hid hx2;have HR2:=Lib.hid (zU5 hx2 (zJ4 x1 R o C tR fR (.int .i64 (ps.map (·.net)).sum) (zU5 HX1.out HRR.out)));obtain⟨a1,b1⟩:=blkZ hfR HR2.out (o+1) c1 (by rw [Array.getElem?_setIfInBounds_ne (by omega)];exact H1.out);clear hx2))
   have HR3:=Lib.hid (zJ4 x2 R (o+1) (C.setIfInBounds o (.int .i64 (ps.map (·.net)).sum)) tR fR (.int .i64 (ps.map taxN).sum) HR2.out)
   have HK3:Hid (KeepR R wr (x2.setCell ⟨R,o+1,none⟩ (.int .i64 (ps.map taxN).sum))):=Lib.hid (((((KeepR.of_ext HX1.out).set (o:=o) (.int .i64 (ps.map (·.net)).sum)).trans (KeepR.of_ext HX2.out))).set _)
   clear a0 b0 a1 b1 HX1 HX2 HR2 HXT HEN HET
   generalize x2.setCell ⟨R,o+1,none⟩ (.int .i64 (ps.map taxN).sum)=Z at *
   have HE3:Hid (∀ z:World,z.heap[Z.heap.size]?=some (.cells #[.int .i64 (ps.map (·.net)).sum,.int .i64 (ps.map taxN).sum] 3 (0,0))->Calls Tryz.prog 113 #[.slice (some ⟨Z.heap.size,0,none⟩) 2 2] z fun e w'=>e=.returned (.tuple #[.int .i64 ((ps.map (·.net)).sum+(ps.map taxN).sum),.bool true])/\Ext z w'):=Lib.hid fun z hz=>by
    have:=yN5 [(ps.map (·.net)).sum,(ps.map taxN).sum] Z.heap.size 2 2 _ _ z hz rfl rfl (fun y hy=>by simp only [List.mem_cons,List.not_mem_nil,or_false] at hy;rcases hy with rfl | rfl<;>assumption) (by omega) (by rw [show [(ps.map (·.net)).sum,(ps.map taxN).sum].sum=(ps.map (·.net)).sum+(ps.map taxN).sum by simp];exact hsg)
    rwa [show [(ps.map (·.net)).sum,(ps.map taxN).sum].sum=(ps.map (·.net)).sum+(ps.map taxN).sum by simp] at this
   obtain⟨a0,b0⟩:=blkZ hfR HR3.out o (.int .i64 (ps.map (·.net)).sum) (by rw [Array.getElem?_setIfInBounds_ne (by omega),Array.getElem?_setIfInBounds_self_of_lt hsz0])
   obtain⟨a1,b1⟩:=blkZ hfR HR3.out (o+1) (.int .i64 (ps.map taxN).sum) (by rw [Array.getElem?_setIfInBounds_self_of_lt (by simpa using hsz1)])
   have H2':Hid (((C.setIfInBounds o (.int .i64 (ps.map (·.net)).sum)).setIfInBounds (o+1) (.int .i64 (ps.map taxN).sum))[o+2]?=some c2):=Lib.hid (by rw [Array.getElem?_setIfInBounds_ne (by omega),Array.getElem?_setIfInBounds_ne (by omega)];exact H2.out)
   have hRz:R < Z.heap.size:=zZ2 HR3.out
   have HN3:Hid (∀ o:Obj,(Z.alloc o).drew.heap[Z.heap.size]?=some o):=Lib.hid fun o=>yZ2 Z o
   generalize hsN:(ps.map (·.net)).sum=sN at *
   generalize hsT:(ps.map taxN).sum=sT at *
   go_wp2_with fail
   go_region_law
    (first
     | (go_simp;go_at_call 113;(with_reducible refine (HE3.out _ (HN3.out _)).mono ?_);rintro e x3 ⟨he,hx3⟩;subst he;have HX3:Hid (Ext Z x3):=Lib.hid (Ext.trans (Ext.alloc (Ext.refl Z) _) (by first | exact hx3 | exact Ext.trans (Ext.drew (Ext.refl _)) hx3));have HR4:=Lib.hid (zU5 HX3.out HR3.out);obtain⟨a4,b4⟩:=blkZ hfR HR4.out (o+2) c2 H2'.out;clear hx3)
     | fail)
   all_goals
    go_wp2_with fail
    go_ret
    refine⟨rfl,?_⟩
    have:=RkEnd.of (sN:=sN) (sT:=sT) HI.out HK3.out HX3.out HR4.out (by omega) hne hRl
    rw [hsN,hsT];exact this
end Go.Proofs.YtpccdcnjkknmkaaGreatDoor
namespace Go.Proofs.YtpccdcnjkknmkaaGreatDoor.Ev
open Go
def qO5 (t:bil.Tot):bil.Tot:=⟨(t.parts.map (·.net)).sum,(t.parts.map taxN).sum,(t.parts.map (·.net)).sum+(t.parts.map taxN).sum,t.parts.map zK9⟩
def yJ7 (q:bil.Pst):bil.Pst:={ q with tot:=qO5 q.tot }
structure RkOk (t:bil.Tot):Prop where
 pos:0 < t.parts.length
 few:t.parts.length<=1000
 ok:∀ x∈t.parts,(zE9 x.net x.bp 10000).2=0/\In64 x.net/\In64 (taxN x)
 net:bil.I64 (t.parts.map (·.net)).sum
 tax:bil.I64 (t.parts.map taxN).sum
 gross:bil.I64 ((t.parts.map (·.net)).sum+(t.parts.map taxN).sum)
theorem vD3 {ice0:Ren} {w0:World} {n:Nat} {ρ:Ren} {w:World} {m m':Mem} {tm:T AV} {a:Act} {l:List bil.Pst} {us:List PA} {i k:Nat} {q:bil.Pst} {o:Bool} (hs:PS w0.heap.size ice0 w0 n ρ w m tm a (ptsL l) us)
  (hB:m.at i=some ⟨.ls .pend (zipP l us),12,o⟩) (hk:l[k]?=some q) (hq:RkOk q.tot) (hat:∀ j,m'.at j=if j=i then some ⟨.ls .pend (zipP (l.set k (yJ7 q)) us),12,o⟩ else m.at j) (hnx:m'.nx=m.nx) {ys:List Value} (hv:VRs ρ [.tp i k 12 5] ys) :
  Calls Tryz.prog 72 ys.toArray w fun e w'=>e=.returned (.bool true)/\PS w0.heap.size ice0 w0 n ρ w' m' tm a (ptsL (l.set k (yJ7 q))) us:=by
 obtain⟨hr,hf,hd⟩:=hs
 have hlen:us.length=l.length:=by rw [hd.len];exact List.length_map _
 have hkl:k < l.length:=(List.getElem?_eq_some_iff.1 hk).1
 obtain⟨u,hu⟩:∃ u,us[k]?=some u:=⟨_,List.getElem?_eq_getElem (by omega)⟩
 obtain⟨y,rfl,hy⟩:=zT6 hv
 cases hy with
 | tp hri =>
 rename_i R sh K
 obtain⟨b,sh',K',C,tR,fR,g1,HR,g3,g4,g5⟩:=hr.mem i _ hB
 rw [hri] at g1
 cases g1
 have hfR:fR.2<=fR.1:=by
  have:=g3 fR.1 (.inr (show (12:Nat)≠1 by decide))
  omega
 have hbk:ρ.blk i=some R:=by simp [Ren.blk,hri]
 have hpk:(ptsL l)[k]?=some q.tot.parts:=by unfold ptsL;rw [List.getElem?_map,hk];rfl
 obtain⟨⟨D,tg,fg,Hg,hfg,hD⟩,hcap⟩:=hd.row k u _ hu hpk
 obtain⟨u1,u2,u3⟩:=hd.free u (List.mem_of_getElem? hu)
 have hne:u.g≠R:=fun he=>u1 ⟨i,_,hB,by rw [he];exact hbk⟩
 have hcell:∀ z x,z < 12->(enc .pend (pnd q u))[z]?=some x->∃ y,C[sh+(k*12+z)]?=some y/\VR ρ x y:=fun z x hz hx=>by
  have h1:=flat_get .pend (zipP l us) k z (by rw [zL4 hlen];exact hkl) hz
  rw [zZ5 hk hu] at h1
  exact g4 _ x (h1.trans hx)
 obtain⟨c0,h0,v0⟩:=hcell 5 _ (by decide) rfl
 obtain⟨c1,h1,v1⟩:=hcell 6 _ (by decide) rfl
 obtain⟨c2,h2,v2⟩:=hcell 7 _ (by decide) rfl
 obtain⟨c3,h3,v3⟩:=hcell 8 _ (by decide) rfl
 cases v3
 have hRk:=vD4 R (sh+k*12+5) u.g u.o q.tot.parts.length u.cap C D tR tg fR fg hfR hfg q.tot.parts w HR Hg hne c0 c1 c2 (by rw [<- h0];congr 1) (by rw [<- h1];congr 1) (by rw [<- h2];congr 1) (by rw [show sh+k*12+5+3=sh+(k*12+8) by omega];exact h3) rfl hq.pos hq.few hcap hD hq.ok hq.net hq.tax hq.gross
 refine hRk.mono fun e w' he=>?_
 obtain⟨rfl,hE⟩:=he
 refine⟨rfl,?_⟩
 obtain⟨⟨D',e1,e2,e3⟩,e4,e5⟩:=hE
 have hlt:∀ j B b,m.at j=some B->ρ.blk j=some b->b < w.heap.size:=fun j B b hj hb=>by
  obtain⟨b',k1,k2⟩:=(hr.mem j B hj).blk
  rw [hb] at k1;cases k1;exact k2
 have hkeep:∀ j B b,m.at j=some B->j≠i->ρ.blk j=some b->w'.heap[b]?=w.heap[b]?:=fun j B b hj hne' hb=>by
  refine e5.block b (hlt j B b hj hb) (fun he=>?_) (fun he=>u1 ⟨j,B,hj,by rw [<- he];exact hb⟩)
  exact hr.inj j i B _ hj hB hne' (by rw [hb,hbk,he])
 have hex:∀ j B,m'.at j=some B->∃ B',m.at j=some B':=fun j B hj=>by
  rw [hat] at hj
  split at hj
  ·rename_i he;subst he;exact⟨_,hB⟩
  ·exact⟨_,hj⟩
 have hset:∀ z (v:Value),C[z]?=some v->z≠sh+k*12+5->z≠sh+k*12+5+1->z≠sh+k*12+5+2->(((C.setIfInBounds (sh+k*12+5) (.int .i64 (q.tot.parts.map (·.net)).sum)).setIfInBounds (sh+k*12+5+1) (.int .i64 (q.tot.parts.map taxN).sum)).setIfInBounds (sh+k*12+5+2) (.int .i64 ((q.tot.parts.map (·.net)).sum+(q.tot.parts.map taxN).sum)))[z]?=some v:=fun z v hz n0 n1 n2=>by
  rw [Array.getElem?_setIfInBounds_ne (by omega),Array.getElem?_setIfInBounds_ne (by omega),Array.getElem?_setIfInBounds_ne (by omega)]
  exact hz
 have hz0:sh+k*12+5 < C.size:=by have:=(Array.getElem?_eq_some_iff.1 h0).1;omega
 have hz1:sh+k*12+5+1 < C.size:=by have:=(Array.getElem?_eq_some_iff.1 h1).1;omega
 have hz2:sh+k*12+5+2 < C.size:=by have:=(Array.getElem?_eq_some_iff.1 h2).1;omega
 have hlen':us.length=(l.set k (yJ7 q)).length:=by rw [List.length_set];exact hlen
 refine⟨⟨hr.tr,fun j B hj=>?_,fun j z B D hj hz=>?_,fun j hj=>?_,fun j hj=>hr.fresh j (by rw [<- hnx];exact hj),fun b c hb=>?_,fun j B b hj hb=>?_⟩,⟨Nat.le_trans hf.size e5.size,fun b hb hS=>?_,fun j B b hj hb=>?_,hf.out.trans ⟨e5.os,e5.tape,e5.output⟩,hf.ext,hf.nice,fun q x hq=>⟨(hf.pin q x hq).1,by rw [hnx];exact (hf.pin q x hq).2⟩⟩,⟨?_,fun j v p hv hp=>?_,fun v hv=>?_,hd.inj⟩⟩
 ·rw [hat] at hj
  split at hj
  ·rename_i he
   subst he
   cases hj
   refine⟨R,sh,K,_,tR,fR,hri,e4,fun z hz=>?_,fun z x hx=>?_,fun ho=>?_⟩
   ·omega
   ·replace hx:(flat .pend (zipP (l.set k (yJ7 q)) us))[z]?=some x:=hx
    obtain⟨nn,zz,hn,hz,hqe,hxe⟩:=zQ7 hx
    clear hx
    subst hqe
    have hx:=hxe
    clear hxe
    rw [xS0 hu] at hx hn
    rw [List.length_set,zL4 hlen] at hn
    by_cases he:k=nn
    ·subst he
     have e:nth (t:=.pend) ((zipP l us).set k (pnd (yJ7 q) u)) k=pnd (yJ7 q) u:=by
      unfold nth
      rw [List.getD_eq_getElem?_getD,List.getElem?_set_self (by rw [zL4 hlen];exact hn)]
      rfl
     rw [e] at hx
     have old:zz≠5->zz≠6->zz≠7->(enc .pend (pnd q u))[zz]?=some x->∃ y,(((C.setIfInBounds (sh+k*12+5) (.int .i64 (q.tot.parts.map (·.net)).sum)).setIfInBounds (sh+k*12+5+1) (.int .i64 (q.tot.parts.map taxN).sum)).setIfInBounds (sh+k*12+5+2) (.int .i64 ((q.tot.parts.map (·.net)).sum+(q.tot.parts.map taxN).sum)))[sh+(k*12+zz)]?=some y/\VR ρ x y:=fun n5 n6 n7 h=>by
      obtain⟨y,j1,j2⟩:=hcell zz x hz h
      exact⟨y,hset _ y j1 (by omega) (by omega) (by omega),j2⟩
     match zz,hz,hx with
     | 0,_,hx=>exact old (by decide) (by decide) (by decide) hx
     | 1,_,hx=>exact old (by decide) (by decide) (by decide) hx
     | 2,_,hx=>exact old (by decide) (by decide) (by decide) hx
     | 3,_,hx=>exact old (by decide) (by decide) (by decide) hx
     | 4,_,hx=>exact old (by decide) (by decide) (by decide) hx
     | 5,_,hx =>
      cases hx
      refine⟨_,?_,.int _ _⟩
      show _=some (Value.int .i64 (q.tot.parts.map (·.net)).sum)
      rw [show sh+(k*wd .pend+5)=sh+k*12+5 by show sh+(k*12+5)=_;omega,Array.getElem?_setIfInBounds_ne (by omega),Array.getElem?_setIfInBounds_ne (by omega),Array.getElem?_setIfInBounds_self_of_lt hz0]
     | 6,_,hx =>
      cases hx
      refine⟨_,?_,.int _ _⟩
      show _=some (Value.int .i64 (q.tot.parts.map taxN).sum)
      rw [show sh+(k*wd .pend+6)=sh+k*12+5+1 by show sh+(k*12+6)=_;omega,Array.getElem?_setIfInBounds_ne (by omega),Array.getElem?_setIfInBounds_self_of_lt (by simpa using hz1)]
     | 7,_,hx =>
      cases hx
      refine⟨_,?_,.int _ _⟩
      show _=some (Value.int .i64 ((q.tot.parts.map (·.net)).sum+(q.tot.parts.map taxN).sum))
      rw [show sh+(k*wd .pend+7)=sh+k*12+5+2 by show sh+(k*12+7)=_;omega,Array.getElem?_setIfInBounds_self_of_lt (by simpa using hz2)]
     | 8,_,hx =>
      refine old (by decide) (by decide) (by decide) ?_
      rw [<- hx]
      show some (AV.vs _ _ _)=some (AV.vs _ (q.tot.parts.map zK9).length _)
      rw [List.length_map]
      rfl
     | 9,_,hx=>exact old (by decide) (by decide) (by decide) hx
     | 10,_,hx=>exact old (by decide) (by decide) (by decide) hx
     | 11,_,hx=>exact old (by decide) (by decide) (by decide) hx
    ·have e:nth (t:=.pend) ((zipP l us).set k (pnd (yJ7 q) u)) nn=nth (t:=.pend) (zipP l us) nn:=by
      unfold nth
      rw [List.getD_eq_getElem?_getD,List.getElem?_set_ne he,List.getD_eq_getElem?_getD]
     rw [e] at hx
     have hfg:=flat_get .pend (zipP l us) nn zz (by rw [zL4 hlen];exact hn) hz
     obtain⟨y,j1,j2⟩:=g4 _ x (hfg.trans hx)
     have hz':zz < 12:=hz
     refine⟨y,hset _ y j1 ?_ ?_ ?_,j2⟩
     ·show sh+(nn*12+zz)≠_;omega
     ·show sh+(nn*12+zz)≠_;omega
     ·show sh+(nn*12+zz)≠_;omega
   ·obtain⟨g6,g7⟩:=g5 ho
    refine⟨?_,by simpa using g7⟩
    have g6':(flat .pend (zipP l us)).length<=K*12:=g6
    rw [zB5,zL4 hlen] at g6'
    show (flat .pend (zipP (l.set k (yJ7 q)) us)).length<=_
    rw [zB5,zL4 hlen',List.length_set]
    exact g6'
  ·rename_i hne'
   exact (hr.mem j B hj).move ρ.le_refl fun b hb=>hkeep j B b hj hne' hb
 ·obtain⟨B',hB'⟩:=hex j B hj
  obtain⟨C',hC'⟩:=hex z D hz
  exact hr.inj j z B' C' hB' hC'
 ·rw [hat]
  split
  ·rename_i he;subst he
   rw [hr.wf j (by rw [<- hnx];exact hj)] at hB;cases hB
  ·exact hr.wf j (by rw [<- hnx];exact hj)
 ·obtain⟨e',fz,h⟩:=hr.ice b c hb
  refine⟨e',fz,(e5.block b (Array.getElem?_eq_some_iff.1 h).1 (fun he=>?_) (fun he=>?_)).trans h⟩
  ·rw [he,hr.dis i _ R hB hbk] at hb;cases hb
  ·rw [he,u2] at hb;cases hb
 ·obtain⟨B',hB'⟩:=hex j B hj
  exact hr.dis j B' b hB' hb
 ·have h6:R < w0.heap.size->False:=fun h=>by
   rcases hf.own i _ R hB hbk with h7 | h7
   ·omega
   ·exact h7
  rw [e5.block b (Nat.lt_of_lt_of_le hb hf.size) (fun he=>h6 (by rw [<- he];exact hb)) (fun he=>by omega)]
  exact hf.keep b hb hS
 ·obtain⟨B',hB'⟩:=hex j B hj
  exact hf.own j B' b hB' hb
 ·unfold ptsL;rw [List.length_map,List.length_set];exact hlen
 ·by_cases he:k=j
  ·subst he
   rw [hu] at hv
   cases hv
   unfold ptsL at hp
   rw [List.getElem?_map,List.getElem?_set_self hkl] at hp
   cases hp
   exact⟨⟨D',tg,fg,e1,hfg,e3⟩,by show (q.tot.parts.map zK9).length<=_;rw [List.length_map];exact hcap⟩
  ·unfold ptsL at hp
   rw [List.getElem?_map,List.getElem?_set_ne he] at hp
   have hvm:=List.mem_of_getElem? hv
   refine (hd.row j v p hv (by unfold ptsL;rw [List.getElem?_map];exact hp)).move (e5.block v.g (hd.lt v hvm) (fun h=>?_) (fun h=>?_))
   ·exact (hd.free v hvm).1 ⟨i,_,hB,by rw [h];exact hbk⟩
   ·exact he (hd.inj k j u v hu hv h.symm)
 ·obtain⟨f1,f2,f3⟩:=hd.free v hv
  refine⟨fun ⟨j,B,hj,hb⟩=>?_,f2,f3⟩
  obtain⟨B',hB'⟩:=hex j B hj
  exact f1 ⟨j,B',hB',hb⟩
noncomputable section
theorem wZ0 {x:bil.Pt} (h:bil.ptOk E x=true):(zE9 x.net x.bp 10000).2=0/\In64 x.net/\x.tax=(zE9 x.net x.bp 10000).1:=by
 unfold bil.ptOk at h
 simp only [Bool.and_eq_true,decide_eq_true_eq] at h
 have h1:taxO x.net x.bp=some x.tax:=h.2.2.2
 unfold taxO at h1
 split at h1
 ·rename_i h2
  exact⟨h2.2,⟨h2.1.1,h2.1.2⟩,(Option.some.inj h1).symm⟩
 ·cases h1
theorem vP3 {x:bil.Pt} (h:bil.ptOk E x=true):zK9 (bil.barePt x)=x:=by
 obtain⟨_,_,h3⟩:=wZ0 h
 unfold zK9 taxN bil.barePt
 rw [<- h3]
theorem xY8 {s:bil.St} (hG:StG s) {p:bil.Pst} (hp:p∈s.posted):RkOk (bil.barePst p).tot/\yJ7 (bil.barePst p)={ bil.barePst p with tot:=p.tot }:=by
 obtain⟨_,t0⟩:=hG.1.posted.tot p hp
 have hg:=List.all_eq_true.1 hG.2 p hp
 obtain⟨g1,g2,g3,g4,g5⟩:=gTt_iff.1 hg
 unfold bil.totOk at t0
 simp only [Bool.and_eq_true,decide_eq_true_eq,List.all_eq_true] at t0
 obtain⟨t1,t2,t3,_,t5⟩:=t0
 unfold bil.sumsF at t5
 simp only [Bool.and_eq_true,decide_eq_true_eq] at t5
 obtain⟨s1,s2,s3⟩:=t5
 have e1:(p.tot.parts.map bil.barePt).map (·.net)=p.tot.parts.map (·.net):=by rw [List.map_map];rfl
 have e2:(p.tot.parts.map bil.barePt).map taxN=p.tot.parts.map (·.tax):=by
  rw [List.map_map]
  exact List.map_congr_left fun x hx=>(wZ0 (t3 x hx)).2.2.symm
 have e3:(p.tot.parts.map bil.barePt).map zK9=p.tot.parts:=by
  rw [List.map_map]
  conv=>rhs;rw [<- List.map_id p.tot.parts]
  exact List.map_congr_left fun x hx=>vP3 (t3 x hx)
 refine⟨⟨?_,?_,fun x hx=>?_,?_,?_,?_⟩,?_⟩
 ·show 0 < (p.tot.parts.map bil.barePt).length
  rw [List.length_map];omega
 ·show (p.tot.parts.map bil.barePt).length<=_
  rw [List.length_map];omega
 ·replace hx:x∈p.tot.parts.map bil.barePt:=hx
  obtain⟨y,hy,rfl⟩:=List.mem_map.1 hx
  obtain⟨h1,h2,h3⟩:=wZ0 (t3 y hy)
  refine⟨h1,h2,?_⟩
  show In64 (zE9 y.net y.bp 10000).1
  rw [<- h3]
  have q2:=List.all_eq_true.1 g4 y hy
  unfold gPb at q2
  simp only [Bool.and_eq_true] at q2
  exact gI_iff.1 q2.2
 ·show bil.I64 ((p.tot.parts.map bil.barePt).map (·.net)).sum
  rw [e1,s1];exact gI_iff.1 g1
 ·show bil.I64 ((p.tot.parts.map bil.barePt).map taxN).sum
  rw [e2,s2];exact gI_iff.1 g2
 ·show bil.I64 (((p.tot.parts.map bil.barePt).map (·.net)).sum+((p.tot.parts.map bil.barePt).map taxN).sum)
  rw [e1,e2,s1,s2,s3];exact gI_iff.1 g3
 ·unfold yJ7 qO5
  show ({ bil.barePst p with tot:=⟨((p.tot.parts.map bil.barePt).map (·.net)).sum,((p.tot.parts.map bil.barePt).map taxN).sum,((p.tot.parts.map bil.barePt).map (·.net)).sum+((p.tot.parts.map bil.barePt).map taxN).sum,(p.tot.parts.map bil.barePt).map zK9⟩ }:bil.Pst)=_
  rw [e1,e2,e3,s1,s2,s3]
theorem wZ6 (ss:List bil.Sr) (l:List bil.Pst) (n:Nat) (c:ByteArray):bil.srAt (bil.fillS ss l n) c=bil.srAt ss c:=by
 unfold bil.srAt bil.fillS
 rw [List.findIdx?_map]
 rfl
theorem wC5:∀ {l:List bil.Pst} {us:List PA},us.length=l.length->(zipP l us).map (·.ref)=l.map (·.ref)
 | [],us,h=>by unfold zipP;rfl
 | x::l,[],h=>by simp at h
 | x::l,u::us,h=>by
  show (pnd x u).ref::(zipP l us).map _=x.ref::_
  rw [wC5 (by simpa using h)]
  rfl
theorem vX9 {l:List bil.Pst} {us:List PA} (h:us.length=l.length) (i:Nat) (r:bil.Ref):((zipP l us).take i).findIdx? (wP1 r)=bil.findP (l.take i) r:=by
 have e1:((zipP l us).take i).findIdx? (wP1 r)=(((zipP l us).take i).map (·.ref)).findIdx? fun q=>decide (q=r):=by rw [List.findIdx?_map];rfl
 have e2:bil.findP (l.take i) r=((l.take i).map (·.ref)).findIdx? fun q=>decide (q=r):=by unfold bil.findP;rw [List.findIdx?_map];rfl
 rw [e1,e2,List.map_take,List.map_take,wC5 h]
theorem qT6 (t:List bil.Rt) (z:List bil.Ses) (nx:Int) (a b:Nat) (L:List bil.Sr) (q q':List Pnd) (x:List Blk) (j:Nat):(gM (mF t z nx a b L q'++x)).at j=if j=3 then some ⟨.ls .pend q',12,true⟩ else (gM (mF t z nx a b L q++x)).at j:=by
 rw [xB0,xB0]
 match j with
 | 0=>rfl
 | 1=>rfl
 | 2=>rfl
 | 3=>rfl
 | j+4=>rfl
set_option maxHeartbeats 1000000 in
theorem vR4 {ice0:Ren} {w0 w:World} {ρ:Ren} {a:Act} {code:Code} {t:List bil.Rt} {z:List bil.Ses} {nx:Int} {s:bil.St} {i:Nat} {us:List PA} {Q:Exit->Act->World->Prop} (hc:comp Tryz.prog 118 code=some (er zF5)) (hG:StG s)
  (hp:∀ q x,ice0 q=some x->q < 4) (hs:PS w0.heap.size ice0 w0 118 ρ w (gM (mF t z nx s.series.length s.posted.length (bil.fillS s.series s.posted i) (zipP (bil.fillP s.posted i) us))) (tmF (.ofNat s.posted.length) (.ofNat i)) a (ptsL (bil.fillP s.posted i)) us) (hi:i < s.posted.length)
  (hQ:∀ ρ' w' a',PS w0.heap.size ice0 w0 118 ρ' w' (gM (mF t z nx s.series.length s.posted.length (bil.fillS s.series s.posted (i+1)) (zipP (bil.fillP s.posted (i+1)) us))) (tmF (.ofNat s.posted.length) (.ofNat (i+1))) a' (ptsL (bil.fillP s.posted (i+1))) us->a'.defers=a.defers->Q .normal a' w'):code.wp Tryz.prog Q a w:=by
 obtain⟨l1,l2,l3,l4,l5,l6⟩:=zE6 hG
 have hus:us.length=(bil.fillP s.posted i).length:=by rw [hs.sd.len];exact List.length_map _
 have hus':us.length=s.posted.length:=by rw [hus,bil.fillP_len]
 obtain⟨p,hpi⟩:∃ p,s.posted[i]?=some p:=⟨_,List.getElem?_eq_getElem hi⟩
 obtain⟨u,hu⟩:∃ u,us[i]?=some u:=⟨_,List.getElem?_eq_getElem (by omega)⟩
 have hpm:=List.mem_of_getElem? hpi
 have hfi:(bil.fillP s.posted i)[i]?=some (bil.barePst p):=by rw [bil.fillP_get,hpi,Option.map_some,if_neg (Nat.lt_irrefl _)]
 obtain⟨hrk,hrp⟩:=xY8 hG hpm
 have hzl:∀ l:List bil.Pst,l.length=s.posted.length->(zipP l us).length=s.posted.length:=fun l h=>(zL4 (by rw [hus',h])).trans h
 have hfl:=bil.fillP_len s.posted i
 have hfsl:=bil.fillS_len s.series s.posted i
 obtain⟨x,hx,hxe⟩:=hG.1.numbers.ser p hpm
 obtain⟨k,hk⟩:∃ k,bil.srAt s.series p.ref.ser=some k:=by
  cases h:bil.srAt s.series p.ref.ser with
  | some k=>exact⟨k,rfl⟩
  | none =>
   unfold bil.srAt at h
   rw [List.findIdx?_eq_none_iff] at h
   have:=h x hx
   simp [hxe] at this
 obtain⟨hkl,x',hx',hxn'⟩:=bil.findIdx_lt hk
 obtain⟨hs1,hs2⟩:=bil.fillS_succ E hG.1.series hpi hk hx'
 have hnum:=hG.1.numbers.num i p hpi
 have hcnt:bil.cntS (s.posted.take i) p.ref.ser<=40:=by
  unfold bil.cntS
  refine Nat.le_trans (List.length_filter_le _ _) ?_
  rw [List.length_take];omega
 have hc1:comp Tryz.prog 118 code=some (.seq (er (sL zF5)) (er (sR zF5))):=hc
 obtain⟨x1,y1,rfl,hx1,hy1⟩:=zA4 hc1
 have hy1':comp Tryz.prog 118 y1=some (.seq (er (sL (sR zF5))) (er (sR (sR zF5)))):=hy1
 obtain⟨x2,y2,rfl,hx2,hy2⟩:=zA4 hy1'
 have hy2':comp Tryz.prog 118 y2=some (.seq (er (sL (sR (sR zF5)))) (er (sR (sR (sR zF5))))):=hy2
 obtain⟨x3,y3,rfl,hx3,hy3⟩:=zA4 hy2'
 have hx3':comp Tryz.prog 118 x3=some (.blk 1 (er bbF)):=hx3
 obtain⟨b0,rfl,hb0⟩:=zK1 hx3'
 have hb0':comp Tryz.prog 118 b0=some (.seq (er (sL bbF)) (er (sR bbF))):=hb0
 obtain⟨ba,r1,rfl,hba,hr1⟩:=zA4 hb0'
 have hr1':comp Tryz.prog 118 r1=some (.seq (er (sL (sR bbF))) (er (sR (sR bbF)))):=hr1
 obtain⟨bb,r2,rfl,hbb,hr2⟩:=zA4 hr1'
 have hr2':comp Tryz.prog 118 r2=some (.seq (er (sL (sR (sR bbF)))) (er (sR (sR (sR bbF))))):=hr2
 obtain⟨bc,r3,rfl,hbc,hr3⟩:=zA4 hr2'
 have hr3':comp Tryz.prog 118 r3=some (.seq (er dF_) (er (sR (sR (sR (sR bbF)))))):=hr3
 obtain⟨bd,r4,rfl,hbd,hr4⟩:=zA4 hr3'
 have hbd':comp Tryz.prog 118 bd=some (.seq (er (sL dF_)) (er (sR dF_))):=hbd
 obtain⟨d1,d2,rfl,hD1,hD2⟩:=zA4 hbd'
 have hD1':comp Tryz.prog 118 d1=some (er (.reg false (opsOf (sL dF_)))):=hD1
 obtain⟨id,ops,rfl,hsz,hop⟩:=(yY1 hD1').ex
 have hr4':comp Tryz.prog 118 r4=some (.seq (er eF1) (er (sR (sR (sR (sR (sR bbF))))))):=hr4
 obtain⟨e1,r5,rfl,he1,hr5⟩:=zA4 hr4'
 have hr5':comp Tryz.prog 118 r5=some (.seq (er eF2) (er (sR (sR (sR (sR (sR (sR bbF)))))))):=hr5
 obtain⟨e2,r6,rfl,he2,hr6⟩:=zA4 hr5'
 have hr6':comp Tryz.prog 118 r6=some (.seq (er eF3) (er (sR (sR (sR (sR (sR (sR (sR bbF))))))))):=hr6
 obtain⟨e3,r7,rfl,he3,hr7⟩:=zA4 hr6'
 have hr7':comp Tryz.prog 118 r7=some (.seq (er eF4) (er eF5)):=hr7
 obtain⟨e4,e5,rfl,he4,he5⟩:=zA4 hr7'
 refine wp_seq (piece zG7 mix hx1 rfl ((pF1 t z nx _ _ _ _ (.ofNat s.posted.length) i).trans (by rw [zB4 hi,cond_true])) hp hs fun ρ1 w1 a1 hs1' hd1=>?_)
 refine wp_seq (piece zG7 mix hx2 rfl (pF2 t z nx _ _ _ _ (.ofNat s.posted.length) i) hp hs1' fun ρ2 w2 a2 hs2' hd2=>?_)
 refine wp_seq (wp_block (wp_seq (piece zG7 mix hba rfl (pFA t z nx _ _ _ _ (.ofNat s.posted.length) i) hp hs2' fun ρ3 w3 a3 hs3 hd3=>?_)))
 refine wp_seq (piece zG7 mix hbb rfl ((pFB t z nx _ _ _ _ (.ofNat s.posted.length) i).trans (by rw [zA9 hi,cond_true])) hp hs3 fun ρ4 w4 a4 hs4 hd4=>?_)
 have hnm:(nPn (zipP (bil.fillP s.posted i) us) i).ref.ser=p.ref.ser:=by
  unfold nPn;rw [zZ5 hfi hu];rfl
 refine wp_seq (piece zG7 mix hbc rfl ((pFC t z nx _ _ _ _ (.ofNat s.posted.length) i).trans (by
  rw [zA6 hfsl.symm,zA0 (by rw [hzl _ hfl];exact hi),zA0 (by rw [hfsl];omega),hnm,wZ6,hk];rfl)) hp hs4 fun ρ5 w5 a5 hs5 hd5=>?_)
 refine wp_seq (wp_seq (wp_region ?_))
 have e:List.range ops.size=List.range' 0 ((opsOf (sL dF_)).take 6).length++(6::(List.range' 7 ((opsOf (sL dF_)).drop 7).length++[])):=by rw [hsz];rfl
 rw [e]
 refine zM0 zG7 (RegS.take hop) ((pFD1 t z nx _ _ _ _ (.ofNat s.posted.length) i k).trans (by rw [zB0 (show (0:Int)<=Int.ofNat k by simp),cond_false])) hp hs5 fun ρ6 w6 a6 hs6 hd6=>?_
 obtain⟨o6,ho6,hco6⟩:=hop 6 _ rfl
 refine zT5 ho6 hco6 (tm:=tmFD (.ofNat s.posted.length) i (.ofNat k)) rfl rfl (xs:=[.tp 3 i 12 5]) rfl Tryz.func72 (by kernel_rfl) (by kernel_rfl) hs6.sr.tr fun ys hys=>?_
 refine (vD3 (m':=gM (mF t z nx s.series.length s.posted.length (bil.fillS s.series s.posted i) (zipP ((bil.fillP s.posted i).set i (yJ7 (bil.barePst p))) us)++[cF i])) (o:=true) hs6 (by rw [xB0];rfl) hfi hrk (fun j=>qT6 t z nx _ _ _ _ _ _ j) rfl hys).mono fun ee w7 hee=>?_
 obtain⟨rfl,hs7⟩:=hee
 refine⟨_,rfl,?_⟩
 rw [hrp] at hs7
 have hst:o6.dst=some 36:=by
  rcases hco6.dst with⟨_,h⟩ | ⟨d,h1,h2,_⟩
  ·cases h
  ·have:pth d=pth 36:=(Option.some.inj h2).symm
   rw [h1,zL9 this]
 have hs8:PS w0.heap.size ice0 w0 118 ρ6 w7 (gM (mF t z nx s.series.length s.posted.length (bil.fillS s.series s.posted i) (zipP ((bil.fillP s.posted i).set i { bil.barePst p with tot:=p.tot }) us)++[cF i])) ((tmFD (.ofNat s.posted.length) i (.ofNat k)).set q36 (.bool true)) (a6.put o6.dst (.bool true)) (ptsL ((bil.fillP s.posted i).set i { bil.barePst p with tot:=p.tot })) us:=by
  refine hs7.pm.ps ?_
  exact TR.put hs7.sr.tr ρ6.le_refl hco6.dst (.bool true)
 refine zM0 zG7 (RegS.drop hop) (pFD2 t z nx _ _ _ _ (.ofNat s.posted.length) i k) hp hs8 fun ρ9 w9 a9 hs9 hd9=>?_
 refine piece zG7 mix hD2 rfl (pFD3 t z nx _ _ _ _ (.ofNat s.posted.length) i k) hp hs9 fun ρ10 w10 a10 hs10 hd10=>?_
 have hp1:((bil.fillP s.posted i).set i { bil.barePst p with tot:=p.tot })[i]?=some { bil.barePst p with tot:=p.tot }:=List.getElem?_set_self (by rw [hfl];exact hi)
 have hl1:((bil.fillP s.posted i).set i { bil.barePst p with tot:=p.tot }).length=s.posted.length:=by rw [List.length_set,hfl]
 have hn1:nPn (zipP ((bil.fillP s.posted i).set i { bil.barePst p with tot:=p.tot }) us) i=pnd { bil.barePst p with tot:=p.tot } u:=zZ5 hp1 hu
 have hnx1:(nSr (bil.fillS s.series s.posted i) k).next=p.ref.num:=by
  unfold nSr nth
  rw [List.getD_eq_getElem?_getD,hs1,hnum]
  rfl
 have ez1:(zipP ((bil.fillP s.posted i).set i { bil.barePst p with tot:=p.tot }) us).set i { nPn (zipP ((bil.fillP s.posted i).set i { bil.barePst p with tot:=p.tot }) us) i with ref:={ (nPn (zipP ((bil.fillP s.posted i).set i { bil.barePst p with tot:=p.tot }) us) i).ref with num:=(nSr (bil.fillS s.series s.posted i) k).next } }=zipP ((bil.fillP s.posted i).set i { p with back:=false }) us:=by
  rw [hn1,hnx1]
  have:(bil.fillP s.posted i).set i { p with back:=false }=((bil.fillP s.posted i).set i { bil.barePst p with tot:=p.tot }).set i { p with back:=false }:=by rw [List.set_set]
  have e3:=xS0 (l:=(bil.fillP s.posted i).set i { bil.barePst p with tot:=p.tot }) (q:={ p with back:=false }) hu
  rw [this,e3]
  rfl
 refine wp_seq (piece zG7 mix he1 rfl ((pFE1 t z nx _ _ _ _ (.ofNat s.posted.length) i k).trans (by
  rw [zA9 hkl,cond_true,zA0 (by rw [hfsl];exact hkl),cond_true,zA0 (by rw [hzl _ hl1];exact hi),cond_true,ez1])) hp hs10 fun ρ11 w11 a11 hs11 hd11=>?_)
 have eL:(bil.fillS s.series s.posted i).set k { nSr (bil.fillS s.series s.posted i) k with next:=zA3 .i64 ((nSr (bil.fillS s.series s.posted i) k).next+1) }=bil.fillS s.series s.posted (i+1):=by
  have hsr:nSr (bil.fillS s.series s.posted i) k={ x' with next:=(bil.cntS (s.posted.take i) p.ref.ser:Int)+1 }:=by
   unfold nSr nth
   rw [List.getD_eq_getElem?_getD,hs1]
   rfl
  rw [hs2,hsr]
  have hw:zA3 .i64 (((bil.cntS (s.posted.take i) p.ref.ser:Int)+1)+1)=((bil.cntS (s.posted.take i) p.ref.ser:Int)+1)+1:=wrap64 ⟨by omega,by omega⟩
  show (bil.fillS s.series s.posted i).set k { x' with next:=zA3 .i64 (((bil.cntS (s.posted.take i) p.ref.ser:Int)+1)+1) }=_
  rw [hw]
 refine wp_seq (piece zG7 mix he2 rfl ((pFE2 t z nx _ _ _ _ (.ofNat s.posted.length) i k).trans (by
  rw [zA9 hkl,cond_true,zA0 (by rw [hfsl];exact hkl),cond_true,cond_true,cond_true,eL])) hp hs11 fun ρ12 w12 a12 hs12 hd12=>?_)
 have hl2:((bil.fillP s.posted i).set i { p with back:=false }).length=s.posted.length:=by rw [List.length_set,hfl]
 have hp2:((bil.fillP s.posted i).set i { p with back:=false })[i]?=some { p with back:=false }:=List.getElem?_set_self (by rw [hfl];exact hi)
 have hn2:nPn (zipP ((bil.fillP s.posted i).set i { p with back:=false }) us) i=pnd { p with back:=false } u:=zZ5 hp2 hu
 have hof:(nPn (zipP ((bil.fillP s.posted i).set i { p with back:=false }) us) i).of_=p.of_:=by rw [hn2];rfl
 have hpt:ptsL ((bil.fillP s.posted i).set i { bil.barePst p with tot:=p.tot })=ptsL ((bil.fillP s.posted i).set i { p with back:=false }):=by
  have:(bil.fillP s.posted i).set i { p with back:=false }=((bil.fillP s.posted i).set i { bil.barePst p with tot:=p.tot }).set i { p with back:=false }:=by rw [List.set_set]
  rw [this]
  exact (wF7 (x:={ p with back:=false }) hp1 rfl).symm
 rw [hpt] at hs12
 have hdd:a12.defers=a.defers:=by rw [hd12,hd11,hd10,hd9,put_defers,hd6,hd5,hd4,hd3,hd2,hd1]
 have hwi:zA3 .i64 (Int.ofNat i+1)=.ofNat (i+1):=zA2 (by omega)
 by_cases hz:p.of_=bil.Ref.z
 ·refine wp_seq (piece zG7 mix he3 rfl ((pFE3 t z nx _ _ _ _ (.ofNat s.posted.length) i k).trans (by
   rw [zA0 (by rw [hzl _ hl2];exact hi),cond_true,cond_false,zL6,hof,decide_eq_true hz,cond_true])) hp hs12 fun ρ13 w13 a13 hs13 hd13=>?_)
  have ef:=bil.fillP_bill hpi hz
  rw [<- ef] at hs13
  refine piece zG7 mix hy3 rfl ((pFIx t z nx _ _ _ _ (.ofNat s.posted.length) i k).trans (by rw [hwi])) hp hs13 fun ρ14 w14 a14 hs14 hd14=>?_
  exact hQ ρ14 w14 a14 hs14 (by rw [hd14,hd13,hdd])
 ·refine wp_seq (piece zG7 mix he3 rfl ((pFE3 t z nx _ _ _ _ (.ofNat s.posted.length) i k).trans (by
   rw [zA0 (by rw [hzl _ hl2];exact hi),cond_true,cond_false,zL6,hof,decide_eq_false hz,cond_false])) hp hs12 fun ρ13 w13 a13 hs13 hd13=>?_)
  obtain⟨k2,q0',hk2,_,_⟩:=(hG.1.posted.of_ i p hpi).resolve_left hz
  obtain⟨q,hq,hk2i,ef⟩:=bil.fillP_credit hpi hz hk2
  obtain⟨u2,hu2⟩:∃ u2,us[k2]?=some u2:=⟨_,List.getElem?_eq_getElem (by omega)⟩
  have hfind:((zipP ((bil.fillP s.posted i).set i { p with back:=false }) us).take i).findIdx? (wP1 (nPn (zipP ((bil.fillP s.posted i).set i { p with back:=false }) us) i).of_)=some k2:=by
   rw [hof,vX9 (by rw [hus',hl2])]
   have e1:((bil.fillP s.posted i).set i { p with back:=false }).take i=(bil.fillP s.posted i).take i:=List.take_set_of_le (Nat.le_refl _)
   rw [e1,bil.fillP_find]
   exact hk2
  refine wp_seq (piece zG7 mix he4 rfl ((pFE4a t z nx _ _ _ _ (.ofNat s.posted.length) i k).trans (by
   rw [qN8 _ _ (by omega) (Nat.le_of_lt hi),pFE4b,Nat.ble_eq_true_of_le (by rw [hzl _ hl2];omega),zA0 (by rw [hzl _ hl2];exact hi),zA0 (by omega),hfind];rfl)) hp hs13 fun ρ14 w14 a14 hs14 hd14=>?_)
  have hn3:nPn (zipP ((bil.fillP s.posted i).set i { p with back:=false }) us) k2=pnd q u2:=zZ5 hq hu2
  have ez3:(zipP ((bil.fillP s.posted i).set i { p with back:=false }) us).set k2 { nPn (zipP ((bil.fillP s.posted i).set i { p with back:=false }) us) k2 with back:=true }=zipP (bil.fillP s.posted (i+1)) us:=by
   rw [ef,xS0 hu2,hn3]
   rfl
  refine piece zG7 mix he5 rfl ((pFE5 t z nx _ _ _ _ (.ofNat s.posted.length) i k2).trans (by
   rw [zB0 (show (0:Int)<=Int.ofNat k2 by simp),cond_false,zA9 (by omega),cond_true,zA0 (by rw [hzl _ hl2];omega),cond_true,ez3])) hp hs14 fun ρ15 w15 a15 hs15 hd15=>?_
  have hpt3:ptsL ((bil.fillP s.posted i).set i { p with back:=false })=ptsL (bil.fillP s.posted (i+1)):=by
   rw [ef]
   exact (wF7 (x:={ q with back:=true }) hq rfl).symm
  rw [hpt3] at hs15
  refine piece zG7 mix hy3 rfl ((pFI t z nx _ _ _ _ (.ofNat s.posted.length) i).trans (by rw [hwi])) hp hs15 fun ρ16 w16 a16 hs16 hd16=>?_
  exact hQ ρ16 w16 a16 hs16 (by rw [hd16,hd15,hd14,hd13,hdd])
end
noncomputable section
theorem xM4 {ice0:Ren} {w0:World} {x:Code} {t:List bil.Rt} {z:List bil.Ses} {nx:Int} {s:bil.St} {us:List PA} {Q:Exit->Act->World->Prop} (hc:comp Tryz.prog 118 x=some (er zF5)) (hG:StG s) (hp:∀ q x,ice0 q=some x->q < 4) :
  ∀ (r i:Nat) (ρ:Ren) (w:World) (a:Act),i+r=s.posted.length ->
  PS w0.heap.size ice0 w0 118 ρ w (gM (mF t z nx s.series.length s.posted.length (bil.fillS s.series s.posted i) (zipP (bil.fillP s.posted i) us))) (tmF (.ofNat s.posted.length) (.ofNat i)) a (ptsL (bil.fillP s.posted i)) us ->
  (∀ ρ' w' a',PS w0.heap.size ice0 w0 118 ρ' w' (gM (mF t z nx s.series.length s.posted.length s.series (zipP s.posted us))) (tmF (.ofNat s.posted.length) (.ofNat s.posted.length)) a' (ptsL s.posted) us->a'.defers=a.defers->Q (.exit 0) a' w') ->
  Unr Tryz.prog x Q (r+1) a w
 | 0,i,ρ,w,a,hi,hs,hfin=>by
  have hc1:comp Tryz.prog 118 x=some (.seq (er (sL zF5)) (er (sR zF5))):=hc
  obtain⟨x1,y1,rfl,hx1,hy1⟩:=zA4 hc1
  have hy1':comp Tryz.prog 118 y1=some (.seq (er (sL (sR zF5))) (er (sR (sR zF5)))):=hy1
  obtain⟨x2,y2,rfl,hx2,hy2⟩:=zA4 hy1'
  have hiN:i=s.posted.length:=by omega
  subst hiN
  rw [bil.fillS_all hG.1.numbers,bil.fillP_all E hG.1.posted] at hs
  refine wp_seq (piece zG7 mix hx1 rfl ((pF1 t z nx _ _ _ _ (.ofNat s.posted.length) s.posted.length).trans (by rw [zB6 (Nat.le_refl _),cond_false])) hp hs fun ρ1 w1 a1 hs1 hd1=>?_)
  refine wp_seq (piece zG7 mix hx2 rfl (pF2x t z nx _ _ _ _ (.ofNat s.posted.length) s.posted.length) hp hs1 fun ρ2 w2 a2 hs2 hd2=>?_)
  exact hfin ρ2 w2 a2 hs2 (hd2.trans hd1)
 | r+1,i,ρ,w,a,hi,hs,hfin=>by
  refine vR4 hc hG hp hs (by omega) fun ρ' w' a' hs' hd'=>?_
  exact xM4 hc hG hp r (i+1) ρ' w' a' (by omega) hs' fun ρ2 w2 a2 hs2 hd2=>hfin ρ2 w2 a2 hs2 (hd2.trans hd')
def mSF (t:List bil.Rt) (z:List bil.Ses) (nx:Int) (a b:Nat) (L:List bil.Sr) (P:List bil.Pst) (B:AV):List Blk:=[zB,⟨.raw [.fl .rate t,.so 2 4 0 a,.so 3 12 0 b,B,.fl .ses z,i64 nx],1,false⟩,⟨.ls .series L,4,true⟩,⟨.ls .posted P,12,true⟩]
def qL1 (b:Nat) (n:Int):T AV:=stL [(q0,.ptr 1 0),(q89,.so 3 12 0 b),(q90,i64 (.ofNat b)),(q91,i64 n)]
def kFb (F:Nat):Ex->T AV->Mem->Option (Ex × T AV × Mem):=kBlk 2 (kSeq (evS c124 F qI0) (gK [q2] 4))
section
variable (t:List bil.Rt) (z:List bil.Ses) (nx:Int) (a b:Nat) (L:List bil.Sr) (P:List bil.Pst)
def qB9 (F F':Nat) (n:Int):Option (Ex × T AV × Mem):=zC7 (evS c124 F vS2) vK6 4 F' (qL1 b n) (gM (mSF t z nx a b L P .nilsl)) (kFb F)
def lpFb (F F':Nat) (k:List bil.Bal) (n:Int):Option (Ex × T AV × Mem):=zC7 (evS c124 F vS2) vK6 4 F' (qL1 b n) (gM (mSF t z nx a b L P (.fl .bal k))) (kFb F)
def rsFb (v:Bool) (B:AV):Option (Ex × T AV × Mem):=some (.ret,stL [(q2,.bool v)],gM (mSF t z nx a b L P B))
theorem qL0 (F:Nat) (N:Int):evS c124 F wA0 (tmF N N) (gM (mSF t z nx a b L P .nilsl)) (gK [q2] 4)=qB9 t z nx a b L P F F 0:=by kernel_rfl
theorem vD0 (F F' n:Nat):qB9 t z nx a b L P F (Nat.succ F') (.ofNat n)=bif ltI (.ofNat n) (.ofNat b) then bif inI (.ofNat n) b then bif Nat.blt n P.length then bif gEn (nPs P n) then bif !eqI (enP (nPs P n)).2 0 then rsFb t z nx a b L P false .nilsl else
  bif (enP (nPs P n)).1.all gBal&&Nat.blt (enP (nPs P n)).1.length 1000 then bif !eqI (zD7 [] (enP (nPs P n)).1).2 0 then rsFb t z nx a b L P false (.fl .bal (zD7 [] (enP (nPs P n)).1).1) else lpFb t z nx a b L P F F' (zD7 [] (enP (nPs P n)).1).1 (zA3 .i64 (.ofNat n+1)) else none else none else none else none
 else rsFb t z nx a b L P true .nilsl:=by kernel_rfl
theorem wE7 (F F' n:Nat) (k:List bil.Bal):lpFb t z nx a b L P F (Nat.succ F') k (.ofNat n)=bif ltI (.ofNat n) (.ofNat b) then bif inI (.ofNat n) b then bif Nat.blt n P.length then bif gEn (nPs P n) then bif !eqI (enP (nPs P n)).2 0 then rsFb t z nx a b L P false (.fl .bal k) else
  bif k.all gBal&&((enP (nPs P n)).1.all gBal&&(Nat.blt k.length 50000&&Nat.blt (enP (nPs P n)).1.length 1000)) then bif !eqI (zD7 k (enP (nPs P n)).1).2 0 then rsFb t z nx a b L P false (.fl .bal (zD7 k (enP (nPs P n)).1).1) else lpFb t z nx a b L P F F' (zD7 k (enP (nPs P n)).1).1 (zA3 .i64 (.ofNat n+1)) else none else none else none else none
 else rsFb t z nx a b L P true (.fl .bal k):=by kernel_rfl
theorem vJ0 (F:Nat) (hg:P.all gBk=true) (hl:P.length < 1000) (hb:b=P.length):∀ (u:List bil.Pst) (n f:Nat) (k k':List bil.Bal),P.drop n=u->n<=P.length->u.length < f->allA k->k.length<=25*n->bil.bookedF k u=some k' ->
  lpFb t z nx a b L P F f k (.ofNat n)=rsFb t z nx a b L P true (.fl .bal k')
 | u,n,0,k,k',_,_,hf,_,_,_=>by omega
 | [],n,f+1,k,k',hd,hn,hf,hk,hkl,h=>by
  have hn0:=drop_nil hd hn
  simp only [bil.bookedF,Option.some.injEq] at h
  subst h
  rw [wE7,zB6 (by omega),cond_false]
 | x::u,n,f+1,k,k',hd,hn,hf,hk,hkl,h=>by
  obtain⟨h1,h2,h3⟩:=zA5 (t:=.posted) hd
  have hx:=List.all_eq_true.1 hg x (List.mem_of_mem_drop (by rw [hd];exact List.mem_cons_self))
  unfold gBk at hx
  rw [Bool.and_eq_true] at hx
  unfold bil.bookedF at h
  cases ho:bil.bookOne k x.tot with
  | inr e=>rw [ho] at h;cases h
  | inl c =>
   rw [ho] at h
   obtain⟨o1,o2,o3,o4,o5,o6⟩:=zR5 (zY0 hx.2) hk ho
   obtain⟨_,_,p3,_⟩:=yY4 hx.1 hx.2
   have ih:=vJ0 F hg hl hb u (n+1) f c k' h3 (by omega) (by simp at hf;omega) o5 (by omega) h
   have h2':nPs P n=x:=h2
   rw [wE7,zB4 (by omega),cond_true,zA9 (by omega),cond_true,zA0 h1,cond_true,h2',xP2 hx.1 hx.2,cond_true,o1,zB8 rfl,Bool.not_true,cond_false,vT8 hk,o2,zA0 (by omega),zA0 (by omega),Bool.and_self,Bool.and_self,Bool.and_self,cond_true,o4,zA2 (by omega)]
   exact ih
theorem qO2 (F:Nat) (hg:P.all gBk=true) (hl:P.length < 1000) (hb:b=P.length) (h0:0 < P.length) (hF:P.length < F) (k':List bil.Bal) (h:bil.bookedF [] P=some k') (N:Int) :
  evS c124 F wA0 (tmF N N) (gM (mSF t z nx a b L P .nilsl)) (gK [q2] 4)=rsFb t z nx a b L P true (.fl .bal k'):=by
 rw [qL0]
 obtain⟨f,rfl⟩:∃ f,F=f+1:=⟨F - 1,by omega⟩
 cases P with
 | nil=>simp at h0
 | cons x u =>
  have hx:=List.all_eq_true.1 hg x List.mem_cons_self
  unfold gBk at hx
  rw [Bool.and_eq_true] at hx
  unfold bil.bookedF at h
  cases ho:bil.bookOne [] x.tot with
  | inr e=>rw [ho] at h;cases h
  | inl c =>
   rw [ho] at h
   obtain⟨o1,o2,o3,o4,o5,o6⟩:=zR5 (zY0 hx.2) (fun _ hx=>by cases hx) ho
   obtain⟨_,_,p3,_⟩:=yY4 hx.1 hx.2
   have ih:=vJ0 t z nx a b L (x::u) (f+1) hg hl hb u 1 f c k' rfl (by simp) (by simp at hF;omega) o5 (by simp at o6;omega) h
   have h2':nPs (x::u) 0=x:=rfl
   have h1:0 < (x::u).length:=by simp
   show qB9 t z nx a b L (x::u) (f+1) (Nat.succ f) (.ofNat 0)=_
   rw [vD0,zB4 (by omega),cond_true,zA9 (by omega),cond_true,zA0 h1,cond_true,h2',xP2 hx.1 hx.2,cond_true,o1,zB8 rfl,Bool.not_true,cond_false,o2,zA0 (by omega),Bool.and_self,cond_true,o4,zA2 (by omega)]
   exact ih
end
theorem uL0 {ice0:Ren} {w0 w:World} {ρ:Ren} {t:List bil.Rt} {z:List bil.Ses} {nx:Int} {s:bil.St} {us:List PA} (hG:StG s) (h0:0 < s.posted.length)
  (hm:PM ice0 w0 ρ w (gM (mF t z nx s.series.length s.posted.length (s.series.map bil.bareSr) (zipP (s.posted.map bil.barePst) us))) (s.posted.map bil.barePst) us) {ys:List Value} (hv:VRs ρ [.ptr 1 0] ys) :
  Calls Tryz.prog 29 ys.toArray w fun e w'=>e=.returned (.bool true)/\∃ ρ',SM ρ' w' (gM (mSF t z nx s.series.length s.posted.length s.series s.posted (.fl .bal s.book))) /\
   FR (fun _=>False) ice0 w0 ρ' w' (gM (mSF t z nx s.series.length s.posted.length s.series s.posted (.fl .bal s.book)))/\ρ.le ρ':=by
 obtain⟨l1,l2,l3,l4,l5,l6⟩:=zE6 hG
 obtain⟨_,_,hbk⟩:=zV8 hG
 have hp:∀ q x,ρ q=some x->q < 4:=hm.dom
 rw [<- bil.fillS_zero s.series s.posted,<- bil.fillP_zero] at hm
 refine yB9 vH2 (xs:=[.ptr 1 0]) (tm0:=tmF0) (by kernel_rfl) (by decide) hv fun code a hc htr hdf=>?_
 have hs:=hm.pin.ps (n:=118) htr
 have hc1:comp Tryz.prog 118 code=some (.seq (er (sL s_fill.body)) (er (sR s_fill.body))):=hc
 obtain⟨x1,y1,rfl,hx1,hy1⟩:=zA4 hc1
 have hy1':comp Tryz.prog 118 y1=some (.seq (er (sL (sR s_fill.body))) (er wA0)):=hy1
 obtain⟨x2,y2,rfl,hx2,hy2⟩:=zA4 hy1'
 have hx2':comp Tryz.prog 118 x2=some (.seq (er (sL (sL (sR s_fill.body)))) (.blk 0 (.loop (er zF5)))):=hx2
 obtain⟨x3,x4,rfl,hx3,hx4⟩:=zA4 hx2'
 obtain⟨x5,rfl,hx5⟩:=zK1 hx4
 obtain⟨x6,rfl,hx6⟩:=zP2 hx5
 refine wp_seq (piece zG7 mix hx1 rfl (pF8 t z nx _ _ _ _) hp hs fun ρ1 w1 a1 hs1 hd1=>?_)
 refine wp_seq (wp_seq (piece zG7 mix hx3 rfl (pF9 t z nx _ _ _ _) hp hs1 fun ρ2 w2 a2 hs2 hd2=>?_))
 refine wp_block (yG4 (xM4 (ice0:=ρ) (w0:=w0) (t:=t) (z:=z) (nx:=nx) (s:=s) (us:=us) hx6 hG hp s.posted.length 0 ρ2 w2 a2 (Nat.zero_add _) hs2 fun ρ4 w4 a4 hs4 hd4=>?_))
 obtain⟨ρ5,hs5,hf5,_⟩:=wM7 (m':=gM (mSF t z nx s.series.length s.posted.length s.series s.posted .nilsl)) (i:=3) (o:=true) hs4 (by rw [xB0];rfl) (fun p hp=>by
   have:=(hG.1.posted.tot p hp).2
   unfold bil.totOk at this
   simp only [Bool.and_eq_true,decide_eq_true_eq] at this
   omega) (fun j=>by
   rw [xB0,xB0]
   match j with
   | 0=>rfl
   | 1=>rfl
   | 2=>rfl
   | 3=>rfl
   | j+4=>rfl) rfl
 refine qO7 zG7 mix hy2 rfl (qO2 t z nx s.series.length s.posted.length s.series s.posted 1000 hbk (by omega) rfl h0 (by omega) s.book hG.1.book _) hp hs5 hf5 fun ρ6 w6 a6 hs6 hf6 hd6=>?_
 refine⟨.inr rfl,by rw [hd6,hd4,hd2,hd1];exact hdf,ρ6,_,_,[.bool true],hs6,rfl,fun v hv=>?_⟩
 cases hv
 refine⟨rfl,ρ6,⟨hs6.mem,hs6.inj,hs6.wf,hs6.fresh,hs6.ice,hs6.dis⟩,wK3 (pin:=ρ.f) hm.fr hf6 fun q x hq=>(hm.fr.pin q x hq).1,⟨fun q x hq=>(hf6.pin q x hq).1,hf6.ext⟩⟩
end
noncomputable section
theorem qB3 {P:Program} {f:Nat} {G:List AV->Option (Bool × AV)} {cl cl':ClS} (h:zA1 P (addG f G cl)) (h':zA1 P cl'):zA1 P (addG f G cl'):=fun g xs m r m' hr=>by
 rcases zZ4 hr with⟨rfl,hG,rfl⟩ | hr
 ·refine h _ _ _ _ _ ?_
  unfold erC addG addO addA
  rw [Nat.beq_refl,cond_true]
  simp only [hG]
  rfl
 ·exact h' _ _ _ _ _ hr
def vW0:List AV->Mem->Option (Bool × AV × T Blk × Nat)
 | [.fl .byte bs],⟨.nil,0,0,0⟩=>some (Nat.blt bs.length 1048576,.ptr 0 0,.node .nil (some (rdB bs 0)) .nil,1)
 | _,_=>none
def c125:ClS:=addN 18 vW0 c124
theorem uQ7:zA1 Tryz.prog c125:=zE5 zG7 mix uE2 vW0 fun xs m r h1 n1 h=>by
 unfold vW0 at h
 split at h<;>first | (cases h;done) | skip
 rename_i bs
 simp only [Option.some.injEq,Prod.mk.injEq] at h
 obtain⟨hg,rfl,rfl,rfl⟩:=h
 refine⟨rfl,0,?_⟩
 have e:zC4 c124 0 vA9 [.fl .byte bs] ⟨.nil,0,0,0⟩ (fun r m=>zD1 0 r m fun r m=>some (r,m.h,m.nx))=bif Nat.blt bs.length 1048576 then some (.ptr 0 0,.node .nil (some (rdB bs 0)) .nil,1) else none:=by kernel_rfl
 refine e.trans ?_
 rw [hg];rfl
def c126:ClS:=xZ7 12 [.agg [.any,.lst .series,.lst .posted,.lst .bal,.any,.any]] zV1 c125
theorem wO5:zA1 Tryz.prog (addG 12 zV1 c62):=zC2 qL4 mix wG5 .any zV1 fun xs r h=>by
 unfold zV1 at h
 split at h<;>first | (cases h;done) | skip
 rename_i t l p b z n
 obtain⟨hg,rfl⟩:=Prod.mk.inj (Option.some.inj h)
 exact⟨rfl,0,xH9 ⟨t,l,p,b,z,n⟩ (@of_decide_eq_true _ (Classical.propDecidable _) hg)⟩
theorem zM6:zA1 Tryz.prog c126:=xD0 uQ7 (qB3 wO5 uQ7) _
end
noncomputable section
def Rest (bs:List UInt8) (p:Nat) (l:List UInt8):Prop:=∃ pre,bs=pre++l/\p=pre.length
def Few8 (bs:List UInt8):Prop:=0 < bs.length/\bs.length < 100000000
theorem Rest.ok {bs l:List UInt8} {p:Nat} (h:Rest bs p l) (hf:Few8 bs):okAt bs p=true:=by
 obtain⟨pre,rfl,rfl⟩:=h
 unfold okAt
 rw [Nat.ble_eq_true_of_le (by rw [List.length_append];omega),zA0 hf.1,zA0 hf.2]
 rfl
theorem Rest.skip {bs l m:List UInt8} {p:Nat} (h:Rest bs p (l++m)):Rest bs (p+l.length) m:=by
 obtain⟨pre,rfl,rfl⟩:=h
 exact⟨pre++l,by rw [List.append_assoc],by rw [List.length_append]⟩
theorem xU8 {bs l:List UInt8} {p:Nat} {n:Int} (h:Rest bs p (numL n++l)) (hn:bil.I64 n):rNum bs ⟨p,0⟩=(n,⟨p+(numL n).length,0⟩):=by
 obtain⟨pre,rfl,rfl⟩:=h
 have:=uC6 pre l n hn.1 hn.2
 rw [List.append_assoc] at this
 exact this
theorem zM8 {bs l:List UInt8} {p:Nat} {n:Int} (h:Rest bs p (numL n++l)) (hn:bil.I64 n) (hf:Few8 bs):gn bs p=true/\vN bs p=n/\Rest bs (aN bs p) l:=by
 have e:=xU8 h hn
 unfold gn gN vN aN
 rw [e,h.ok hf]
 exact⟨rfl,rfl,h.skip⟩
theorem xF5 {bs l:List UInt8} {p:Nat} {n lo hi:Int} (h:Rest bs p (numL n++l)) (hn:bil.I64 n) (h1:lo<=n) (h2:n<=hi):zD8 bs ⟨p,0⟩ lo hi=(n,⟨p+(numL n).length,0⟩):=by
 unfold zD8
 simp only [xU8 h hn]
 rw [if_neg (by rintro ⟨_,k | k⟩<;>omega)]
theorem yX9 {bs l:List UInt8} {p:Nat} (h:Rest bs p l):bs.length=p+l.length:=by
 obtain⟨pre,rfl,rfl⟩:=h
 rw [List.length_append]
theorem uU8 {bs l s:List UInt8} {p:Nat} (h:Rest bs p (numL (s.length:Int)++s++l)) (hs:s.length<=64) (hf:Few8 bs):gt bs p=true/\vT bs p 64=s/\Rest bs (aT bs p 64) l:=by
 have h':=h
 rw [List.append_assoc] at h'
 have e:=xF5 (lo:=0) (hi:=64) h' ⟨by omega,by omega⟩ (by omega) (by omega)
 have hk:=h'.skip
 have hl:=yX9 hk
 rw [List.length_append] at hl
 have et:yY2 bs ⟨p,0⟩ 64=(s,⟨p+(numL (s.length:Int)).length+s.length,0⟩):=by
  unfold yY2
  simp only [e]
  rw [if_neg (by simp),if_neg (by omega)]
  have hd:bs.drop (p+(numL (s.length:Int)).length)=s++l:=by
   obtain⟨pre,hb,hp⟩:=hk
   rw [hb,hp,List.drop_left]
  rw [hd,Int.toNat_natCast,List.take_left]
 unfold gt gT vT aT
 rw [et,h.ok hf]
 exact⟨rfl,rfl,hk.skip⟩
theorem qE6 {bs l:List UInt8} {p:Nat} {f:Bool} (h:Rest bs p (numL (bif f then 1 else 0)++l)) (hf:Few8 bs):gf bs p=true/\vF bs p=f/\Rest bs (aF bs p) l:=by
 have e:=xU8 h (by cases f<;>exact⟨by decide,by decide⟩)
 have ef:yY3 bs ⟨p,0⟩=(f,⟨p+(numL (bif f then 1 else 0)).length,0⟩):=by
  unfold yY3
  simp only [e]
  cases f<;>simp
 unfold gf gF vF aF
 rw [ef,h.ok hf]
 exact⟨rfl,rfl,h.skip⟩
theorem zY9 {bs l:List UInt8} {p n:Nat} {most:Int} (h:Rest bs p (numL (.ofNat n)++l)) (hn:n < 100000) (hm:(n:Int)<=most) (hl:n<=l.length) (hf:Few8 bs):gnC bs p most=true/\nCt bs p most=n/\Rest bs (aC bs p most) l:=by
 have hi:bil.I64 (.ofNat n):=⟨by simp only [Int.ofNat_eq_natCast];omega,by simp only [Int.ofNat_eq_natCast];omega⟩
 have e:=xF5 (lo:=0) (hi:=most) h hi (by simp only [Int.ofNat_eq_natCast];omega) (by simpa using hm)
 have hk:=h.skip
 have hb:=yX9 hk
 have ec:zX2 bs ⟨p,0⟩ most=(.ofNat n,⟨p+(numL (.ofNat n)).length,0⟩):=by
  unfold zX2
  simp only [e]
  rw [if_neg (by
   rintro ⟨_,k⟩
   have k2:(bs.length:Int) - (p+(numL (Int.ofNat n)).length:Nat) < (n:Int):=k
   omega)]
 have en:nCt bs p most=n:=by unfold nCt vC;rw [ec];rfl
 refine⟨?_,en,?_⟩
 ·unfold gnC
  rw [en]
  unfold gc gC vC
  rw [ec,h.ok hf,zA0 hn,zD3]
  rfl
 ·unfold aC
  rw [ec]
  exact hk
end
noncomputable section
def eRt (x:bil.Rt):List UInt8:=txB x.cat++(numL x.fr.y++(numL x.fr.m++(numL x.fr.d++numL x.bp)))
def eSr (x:bil.Sr):List UInt8:=txB x.name++(numL x.limit++numL (bif x.shut then 1 else 0))
def ePt (x:bil.Pt):List UInt8:=txB x.cat++(numL x.bp++numL x.net)
def ePst (p:bil.Pst):List UInt8:=txB p.ref.ser++(numL p.day.y++(numL p.day.m++(numL p.day.d++(txB p.of_.ser++(numL p.of_.num++(numL (.ofNat p.tot.parts.length)++p.tot.parts.flatMap ePt))))))
def eSs (x:bil.Ses):List UInt8:=numL x.id++(numL x.last++(numL x.rep.why++(numL x.rep.number++numL x.rep.gross)))
theorem zO2 {α:Type} {w:List UInt8->α->List UInt8} {e:α->List UInt8} (h:∀ l x,w l x=l++e x):∀ (t:List α) (l:List UInt8),t.foldl w l=l++t.flatMap e
 | [],l=>by simp
 | x::t,l=>by rw [List.foldl_cons,zO2 h t,h,List.flatMap_cons,List.append_assoc]
theorem wRt_e (l:List UInt8) (x:bil.Rt):wRt l x=l++eRt x:=by unfold wRt eRt;simp only [List.append_assoc]
theorem wSr_e (l:List UInt8) (x:bil.Sr):wSr l x=l++eSr x:=by unfold wSr eSr;simp only [List.append_assoc]
theorem wPt_e (l:List UInt8) (x:bil.Pt):wPt l x=l++ePt x:=by unfold wPt ePt;simp only [List.append_assoc]
theorem wSs_e (l:List UInt8) (x:bil.Ses):wSs l x=l++eSs x:=by unfold wSs eSs;simp only [List.append_assoc]
theorem qK8 (l:List UInt8) (x:bil.Pst):wPst l x=l++ePst x:=by
 unfold wPst ePst
 rw [zO2 wPt_e]
 simp only [List.append_assoc]
def ePut (s:bil.St):List UInt8:=numL (.ofNat s.table.length)++(s.table.flatMap eRt++(numL (.ofNat s.series.length)++(s.series.flatMap eSr++(numL (.ofNat s.posted.length)++(s.posted.flatMap ePst++(numL (.ofNat s.sess.length)++(s.sess.flatMap eSs++numL s.next)))))))
theorem uR5 (s:bil.St):putB s=ePut s:=by
 unfold putB ePut
 rw [zO2 wRt_e,zO2 wSr_e,zO2 qK8,zO2 wSs_e]
 simp only [List.append_assoc,List.nil_append]
def tx64 (s:ByteArray):Prop:=s.data.toList.length<=64
theorem vS0 (s:ByteArray):(⟨⟨s.data.toList⟩⟩:ByteArray)=s:=bil.ba_ext rfl
theorem xF8 {bs l:List UInt8} {p:Nat} {s:ByteArray} (h:Rest bs p (txB s++l)) (hs:tx64 s) (hf:Few8 bs):gt bs p=true/\vT bs p 64=s.data.toList/\Rest bs (aT bs p 64) l:=uU8 h hs hf
theorem uT2 {bs l:List UInt8} {p:Nat} {d:bil.Dt} (h:Rest bs p (numL d.y++(numL d.m++(numL d.d++l)))) (h1:bil.I64 d.y) (h2:bil.I64 d.m) (h3:bil.I64 d.d) (hf:Few8 bs):gDay bs p=true/\vDay bs p=d/\Rest bs (aN3 bs p) l:=by
 obtain⟨a1,a2,a3⟩:=zM8 h h1 hf
 obtain⟨b1,b2,b3⟩:=zM8 a3 h2 hf
 obtain⟨c1,c2,c3⟩:=zM8 b3 h3 hf
 refine⟨by unfold gDay;rw [a1,b1,c1];rfl,?_,c3⟩
 unfold vDay
 rw [a2,b2,c2]
def okRt (x:bil.Rt):Prop:=tx64 x.cat/\bil.I64 x.fr.y/\bil.I64 x.fr.m/\bil.I64 x.fr.d/\bil.I64 x.bp
theorem qO4 {bs l:List UInt8} {p:Nat} {x:bil.Rt} (hf:Few8 bs) (hx:okRt x) (h:Rest bs p (eRt x++l)):gRow bs p=true/\vRow bs p=x/\Rest bs (aRow bs p) l:=by
 obtain⟨h0,h1,h2,h3,h4⟩:=hx
 unfold eRt at h
 simp only [List.append_assoc] at h
 obtain⟨a1,a2,a3⟩:=xF8 (s:=x.cat) (by simpa only [List.append_assoc] using h) h0 hf
 obtain⟨b1,b2,b3⟩:=uT2 a3 h1 h2 h3 hf
 obtain⟨c1,c2,c3⟩:=zM8 b3 h4 hf
 refine⟨by unfold gRow;rw [a1,b1,c1];rfl,?_,c3⟩
 unfold vRow
 rw [a2,b2,c2,vS0]
def qA8 (x:bil.Sr):Prop:=tx64 x.name/\bil.I64 x.limit
theorem qP6 {bs l:List UInt8} {p:Nat} {x:bil.Sr} (hf:Few8 bs) (hx:qA8 x) (h:Rest bs p (eSr x++l)):gOne bs p=true/\vOne bs p=bil.bareSr x/\Rest bs (aOne bs p) l:=by
 obtain⟨h0,h1⟩:=hx
 unfold eSr at h
 obtain⟨a1,a2,a3⟩:=xF8 (s:=x.name) (by simpa only [List.append_assoc] using h) h0 hf
 obtain⟨b1,b2,b3⟩:=zM8 a3 h1 hf
 obtain⟨c1,c2,c3⟩:=qE6 b3 hf
 refine⟨by unfold gOne;rw [a1,b1,c1];rfl,?_,c3⟩
 unfold vOne bil.bareSr
 rw [a2,b2,c2,vS0]
def okPt (x:bil.Pt):Prop:=tx64 x.cat/\bil.I64 x.bp/\bil.I64 x.net
theorem uY8 {bs l:List UInt8} {p:Nat} {x:bil.Pt} (hf:Few8 bs) (hx:okPt x) (h:Rest bs p (ePt x++l)):zY2 bs p=true/\zZ8 bs p=bil.barePt x/\Rest bs (zN7 bs p) l:=by
 obtain⟨h0,h1,h2⟩:=hx
 unfold ePt at h
 obtain⟨a1,a2,a3⟩:=xF8 (s:=x.cat) (by simpa only [List.append_assoc] using h) h0 hf
 obtain⟨b1,b2,b3⟩:=zM8 a3 h1 hf
 obtain⟨c1,c2,c3⟩:=zM8 b3 h2 hf
 refine⟨by unfold zY2;rw [a1,b1,c1];rfl,?_,c3⟩
 unfold zZ8 bil.barePt
 rw [a2,b2,c2,vS0]
def okSs (x:bil.Ses):Prop:=bil.I64 x.id/\bil.I64 x.last/\bil.I64 x.rep.why/\bil.I64 x.rep.number/\bil.I64 x.rep.gross
theorem qN9 {bs l:List UInt8} {p:Nat} {x:bil.Ses} (hf:Few8 bs) (hx:okSs x) (h:Rest bs p (eSs x++l)):gSes bs p=true/\vSes bs p=x/\Rest bs (aN5 bs p) l:=by
 obtain⟨h0,h1,h2,h3,h4⟩:=hx
 unfold eSs at h
 simp only [List.append_assoc] at h
 obtain⟨a1,a2,a3⟩:=zM8 h h0 hf
 obtain⟨b1,b2,b3⟩:=zM8 a3 h1 hf
 obtain⟨c1,c2,c3⟩:=zM8 b3 h2 hf
 obtain⟨d1,d2,d3⟩:=zM8 c3 h3 hf
 obtain⟨e1,e2,e3⟩:=zM8 d3 h4 hf
 refine⟨?_,?_,e3⟩
 ·unfold gSes
  rw [a1,b1,c1]
  show (true&&(true&&(true&&(gn bs (aN3 bs p)&&gn bs (aN bs (aN3 bs p))))))=true
  rw [show gn bs (aN3 bs p)=true from d1,show gn bs (aN bs (aN3 bs p))=true from e1]
  rfl
 ·unfold vSes
  rw [a2,b2,c2,show vN bs (aN3 bs p)=x.rep.number from d2,show vN bs (aN bs (aN3 bs p))=x.rep.gross from e2]
theorem yS8 {α β:Type} {bs:List UInt8} {g:Nat->Bool} {v:Nat->β} {a:Nat->Nat} {e:α->List UInt8} {f:α->β} {ok:α->Prop} (h:∀ (x:α) (l:List UInt8) (p:Nat),ok x->Rest bs p (e x++l)->g p=true/\v p=f x/\Rest bs (a p) l) :
  ∀ (xs:List α) (l:List UInt8) (p:Nat),(∀ x∈xs,ok x)->Rest bs p (xs.flatMap e++l)->repG g a xs.length p=true/\repL v a xs.length p=xs.map f/\Rest bs (repP a xs.length p) l
 | [],l,p,_,hr=>⟨rfl,rfl,hr⟩
 | x::xs,l,p,hx,hr=>by
  rw [List.flatMap_cons,List.append_assoc] at hr
  obtain⟨h1,h2,h3⟩:=h x _ p (hx x List.mem_cons_self) hr
  obtain⟨k1,k2,k3⟩:=yS8 h xs l (a p) (fun y hy=>hx y (List.mem_cons_of_mem _ hy)) h3
  refine⟨?_,?_,k3⟩
  ·rw [List.length_cons,repG,h1,k1];rfl
  ·rw [List.length_cons,repL,h2,k2];rfl
theorem yB6 {α:Type} {e:α->List UInt8} (h:∀ x,1<=(e x).length):∀ xs:List α,xs.length<=(xs.flatMap e).length
 | []=>Nat.le_refl _
 | x::xs=>by
  have:=yB6 h xs
  have:=h x
  rw [List.flatMap_cons,List.length_append,List.length_cons]
  omega
theorem vH5 (n:Int):1<=(numL n).length:=(zC3 n).1
theorem vY2 (s:ByteArray):1<=(txB s).length:=by
 show 1<=(numL _++_).length
 rw [List.length_append]
 have:=vH5 (s.data.toList.length:Int)
 omega
def qA9 (x:bil.Pst):Prop:=tx64 x.ref.ser/\bil.I64 x.day.y/\bil.I64 x.day.m/\bil.I64 x.day.d/\tx64 x.of_.ser/\bil.I64 x.of_.num/\0 < x.tot.parts.length/\x.tot.parts.length<=12/\∀ q∈x.tot.parts,okPt q
theorem qO6 {bs l:List UInt8} {p:Nat} {x:bil.Pst} (hf:Few8 bs) (hx:qA9 x) (h:Rest bs p (ePst x++l)):gPst bs p=true/\vPst bs p=bil.barePst x/\Rest bs (aPst bs p) l:=by
 obtain⟨h0,h1,h2,h3,h4,h5,h6,h7,h8⟩:=hx
 unfold ePst at h
 obtain⟨a1,a2,a3⟩:=xF8 (s:=x.ref.ser) (by simpa only [List.append_assoc] using h) h0 hf
 obtain⟨b1,b2,b3⟩:=uT2 a3 h1 h2 h3 hf
 obtain⟨c1,c2,c3⟩:=xF8 (s:=x.of_.ser) (by simpa only [List.append_assoc] using b3) h4 hf
 obtain⟨d1,d2,d3⟩:=zM8 c3 h5 hf
 have hge:x.tot.parts.length<=(x.tot.parts.flatMap ePt++l).length:=by
  have:=yB6 (e:=ePt) (fun q=>by unfold ePt;rw [List.length_append];have:=vY2 q.cat;omega) x.tot.parts
  rw [List.length_append];omega
 obtain⟨e1,e2,e3⟩:=zY9 (most:=12) d3 (by omega) (by omega) hge hf
 obtain⟨f1,f2,f3⟩:=yS8 (f:=bil.barePt) (fun q l p hq hr=>uY8 hf hq hr) x.tot.parts l _ h8 e3
 have en:nPq bs p=x.tot.parts.length:=e2
 refine⟨?_,?_,?_⟩
 ·unfold gPst
  rw [a1,b1,en,zA0 h6]
  show (true&&(true&&(gt bs (aN3 bs (aT bs p 64))&&(gn bs (aT bs (aN3 bs (aT bs p 64)) 64)&&(gnC bs (aN bs (aT bs (aN3 bs (aT bs p 64)) 64)) 12&&(repG (zY2 bs) (zN7 bs) x.tot.parts.length (aC bs (aN bs (aT bs (aN3 bs (aT bs p 64)) 64)) 12)&&true))))))=true
  rw [c1,d1,e1,f1]
  rfl
 ·unfold vPst vPs bil.barePst
  rw [en,a2,b2,show vT bs (p2P bs p) 64=x.of_.ser.data.toList from c2,show vN bs (aT bs (p2P bs p) 64)=x.of_.num from d2,show repL (zZ8 bs) (zN7 bs) x.tot.parts.length (p5P bs p)=x.tot.parts.map bil.barePt from f2,vS0,vS0]
 ·unfold aPst
  rw [en]
  exact f3
end
noncomputable section
def Sml (e:Int):Prop:=0<=e/\e<=17
def rpOk (r:bil.Rp):Prop:=bil.I64 r.why/\bil.I64 r.number/\bil.I64 r.gross
theorem sml_I {e:Int} (h:Sml e):bil.I64 e:=by obtain⟨h1,h2⟩:=h;exact⟨by omega,by omega⟩
theorem zI4 {e:Int} (h:Sml e):rpOk (bil.whyR e):=⟨sml_I h,⟨by show -_<=(0:Int);omega,by show (0:Int)<=_;omega⟩,⟨by show -_<=(0:Int);omega,by show (0:Int)<=_;omega⟩⟩
theorem sml0:Sml 0:=⟨by decide,by decide⟩
theorem i0:bil.I64 0:=⟨by decide,by decide⟩
theorem uV8 (r:bil.Rt):Sml (bil.rowF E r):=by
 unfold bil.rowF
 split
 ·first | exact sml0 | exact⟨by decide,by decide⟩
 ·split
  ·first | exact sml0 | exact⟨by decide,by decide⟩
  ·split<;>(first | exact sml0 | exact⟨by decide,by decide⟩)
theorem uA1 (l:List bil.Sr) (c:ByteArray) (n:Int):Sml (bil.srOpen E l c n).2:=by
 unfold bil.srOpen
 repeat' (first | exact sml0 | exact⟨by decide,by decide⟩ | split)
theorem wD2 (l:List bil.Sr) (c:ByteArray):Sml (bil.srFree E l c).2:=by
 unfold bil.srFree
 repeat' (first | exact sml0 | exact⟨by decide,by decide⟩ | split)
theorem uA0 (l:List bil.Sr) (c:ByteArray):Sml (bil.srShutF E l c).2:=by
 have h:=wD2 l c
 unfold bil.srShutF
 split
 rename_i k e he
 rw [he] at h
 split
 ·exact h
 ·split<;>(first | exact sml0 | exact⟨by decide,by decide⟩)
theorem uV9 (l:List bil.Rt) (r:bil.Rt):Sml (bil.vatPut E l r).2:=by
 have h:=uV8 r
 unfold bil.vatPut
 split
 ·first | exact sml0 | exact⟨by decide,by decide⟩
 ·split
  ·exact h
  ·split
   ·first | exact sml0 | exact⟨by decide,by decide⟩
   ·split<;>(first | exact sml0 | exact⟨by decide,by decide⟩)
theorem wZ8 (l:List bil.Ses) (i:Int):Sml (bil.sesLeave l i).2:=by
 unfold bil.sesLeave
 split<;>(first | exact sml0 | exact⟨by decide,by decide⟩)
theorem vZ9 {l:List bil.Sr} {c:ByteArray} {e:Int} (h:bil.srTakeF E l c=.inr e):Sml e:=by
 have h0:=wD2 l c
 unfold bil.srTakeF at h
 split at h
 rename_i k e' he
 rw [he] at h0
 split at h
 ·cases h;exact h0
 ·split at h
  ·cases h;first | exact sml0 | exact⟨by decide,by decide⟩
  ·split at h<;>cases h
   first | exact sml0 | exact⟨by decide,by decide⟩
theorem uA2 {t:List bil.Rt} {d:bil.Dt} {x:bil.Li} {e:Int} (h:bil.lineF E t d x=.inr e):Sml e:=by
 unfold bil.lineF at h
 repeat' (first | (cases h;(first | exact sml0 | exact⟨by decide,by decide⟩)) | (cases h;done) | split at h)
theorem xG9 {t:List bil.Rt} {d:bil.Dt}:∀ {ls:List bil.Li} {ps:List bil.Pt} {e:Int},bil.partsF E t d ls ps=.inr e->Sml e
 | [],ps,e,h=>by unfold bil.partsF at h;cases h
 | x::xs,ps,e,h=>by
  unfold bil.partsF at h
  split at h
  ·cases h
   exact uA2 (by assumption)
  ·repeat' (first | exact xG9 h | (cases h;(first | exact sml0 | exact⟨by decide,by decide⟩)) | split at h)
theorem wZ7 {t:List bil.Rt} {d:bil.Dt} {ls:List bil.Li} {e:Int} (h:bil.totalF E t d ls=.inr e):Sml e:=by
 unfold bil.totalF at h
 split at h
 ·cases h;first | exact sml0 | exact⟨by decide,by decide⟩
 ·split at h
  ·cases h;first | exact sml0 | exact⟨by decide,by decide⟩
  ·split at h
   ·cases h;first | exact sml0 | exact⟨by decide,by decide⟩
   ·split at h
    ·cases h;first | exact sml0 | exact⟨by decide,by decide⟩
    ·split at h
     ·cases h;exact xG9 (by assumption)
     ·repeat' (first | (cases h;(first | exact sml0 | exact⟨by decide,by decide⟩)) | (cases h;done) | split at h)
theorem uA3 {b:List bil.Bal} {t:bil.Tot} {e:Int} (h:bil.bookOne b t=.inr e):Sml e:=by
 unfold bil.bookOne bil.enterF at h
 repeat' (first | (cases h;(first | exact sml0 | exact⟨by decide,by decide⟩)) | (cases h;done) | split at h)
theorem wE1 {s:bil.St} {name:ByteArray} {p:bil.Pst} (hG:StG s) (hp:bil.I64 p.tot.gross):rpOk (bil.issueF E s name p).2:=by
 unfold bil.issueF
 split
 ·rename_i e he
  exact zI4 (vZ9 he)
 ·rename_i l n hn
  split
  ·exact zI4 ⟨by decide,by decide⟩
  ·split
   ·rename_i e he
    exact zI4 (uA3 he)
   ·refine⟨i0,?_,hp⟩
    have hs:=hG.1.series
    unfold bil.srTakeF at hn
    split at hn
    split at hn
    ·cases hn
    ·split at hn
     ·cases hn
     ·rename_i x hx
      split at hn
      ·cases hn
      ·simp only [Sum.inl.injEq,Prod.mk.injEq] at hn
       obtain⟨_,rfl⟩:=hn
       unfold bil.srRight at hs
       simp only [Bool.and_eq_true,List.all_eq_true] at hs
       have hx2:=hs.2.1 x (List.mem_of_getElem? hx)
       unfold bil.srOk at hx2
       simp only [Bool.and_eq_true,decide_eq_true_eq] at hx2
       obtain⟨_,h1,h2,h3,h4⟩:=hx2
       exact⟨by show _<=x.next;omega,by show x.next<=_;omega⟩
theorem xS6 {t:List bil.Rt} {d:bil.Dt} {ls:List bil.Li} {x:bil.Tot} (h:bil.totalF E t d ls=.inl x):bil.I64 x.gross:=by
 unfold bil.totalF at h
 repeat' (first | (cases h;done) | split at h)
 rename_i g hg
 cases h
 exact (bil.addZ_some hg).2
theorem wV3 {t x:bil.Tot} (h:bil.backF t=some x):bil.I64 x.gross:=by
 unfold bil.backF at h
 repeat' (first | (cases h;done) | split at h)
 rename_i g hg
 rw [Option.map_eq_some_iff] at h
 obtain⟨l,_,rfl⟩:=h
 obtain⟨h1,h2⟩:=bil.negZ_some hg
 show bil.I64 g
 rw [h1]
 exact h2
theorem xP5:∀ (l:List bil.Bal) (g:Int),allA l->bil.I64 g->bil.I64 (l.foldl (fun g b=>if b.acc=bil.owedA then b.amt else g) g)
 | [],g,_,h=>h
 | b::l,g,ha,h=>by
  rw [List.foldl_cons]
  refine xP5 l _ (fun x hx=>ha x (List.mem_cons_of_mem _ hx)) ?_
  split
  ·exact ha b List.mem_cons_self
  ·exact h
theorem qO3 {s:bil.St} {c:ByteArray} (hG:StG s):rpOk (bil.askF s c):=by
 unfold bil.askF
 split
 ·exact zI4 ⟨by decide,by decide⟩
 ·split
  ·exact zI4 ⟨by decide,by decide⟩
  ·rename_i x hx
   have hs:=hG.1.series
   unfold bil.srRight at hs
   simp only [Bool.and_eq_true,List.all_eq_true] at hs
   have hx2:=hs.2.1 x (List.mem_of_getElem? hx)
   unfold bil.srOk at hx2
   simp only [Bool.and_eq_true,decide_eq_true_eq] at hx2
   obtain⟨_,h1,h2,h3,h4⟩:=hx2
   exact⟨i0,⟨by show _<=x.next - 1;omega,by show x.next - 1<=_;omega⟩,xP5 _ _ (zV8 hG).1 i0⟩
theorem rp_do {s:bil.St} {c:bil.Cd} (hG:StG s):rpOk (bil.doF E s c).2:=by
 unfold bil.doF
 split
 ·exact zI4 (uA1 _ _ _)
 ·split
  ·exact zI4 (uA0 _ _)
  ·split
   ·exact zI4 (uV9 _ _)
   ·split
    ·unfold bil.billF
     split
     ·rename_i e he
      exact zI4 (wZ7 he)
     ·rename_i t ht
      exact wE1 hG (xS6 ht)
    ·split
     ·unfold bil.creditF
      split
      ·exact zI4 ⟨by decide,by decide⟩
      ·split
       ·exact zI4 ⟨by decide,by decide⟩
       ·split
        ·exact zI4 ⟨by decide,by decide⟩
        ·split
         ·exact zI4 ⟨by decide,by decide⟩
         ·split
          ·exact zI4 ⟨by decide,by decide⟩
          ·rename_i t ht
           have h0:=wE1 (s:=s) (name:=c.series) (p:=⟨bil.Ref.z,c.day,t,c.of_,false⟩) hG (wV3 ht)
           split
           rename_i s' r hi
           rw [hi] at h0
           split<;>exact h0
     ·split
      ·exact zI4 (wZ8 _ _)
      ·exact qO3 hG
theorem yU8 (s:bil.St) (name:ByteArray) (p:bil.Pst):(bil.issueF E s name p).1.sess=s.sess:=by
 unfold bil.issueF
 split
 ·rfl
 ·split
  ·rfl
  ·split<;>rfl
theorem vQ0 (s:bil.St) (c:bil.Cd):∀ x∈(bil.doF E s c).1.sess,x∈s.sess:=by
 unfold bil.doF
 split
 ·split<;>exact fun _ h=>h
 ·split
  ·split<;>exact fun _ h=>h
  ·split
   ·split<;>exact fun _ h=>h
   ·split
    ·unfold bil.billF
     split
     ·exact fun _ h=>h
     ·rw [yU8];exact fun _ h=>h
    ·split
     ·unfold bil.creditF
      split
      ·exact fun _ h=>h
      ·split
       ·exact fun _ h=>h
       ·split
        ·exact fun _ h=>h
        ·split
         ·exact fun _ h=>h
         ·split
          ·exact fun _ h=>h
          ·rename_i t ht
           have h0:=yU8 s c.series ⟨bil.Ref.z,c.day,t,c.of_,false⟩
           split
           rename_i s' r hi
           rw [hi] at h0
           split
           ·show ∀ x∈s'.sess,_
            rw [h0];exact fun _ h=>h
           ·show ∀ x∈s'.sess,_
            rw [h0];exact fun _ h=>h
     ·split
      ·unfold bil.sesLeave
       split
       ·exact fun _ h=>h
       ·split
        ·exact fun x h=>List.mem_of_mem_eraseIdx h
        ·exact fun _ h=>h
      ·exact fun _ h=>h
def StH (s:bil.St):Prop:=StG s/\∀ x∈s.sess,rpOk x.rep
theorem apF_H {s:bil.St} {a:bil.Ca} (h:StH s):StH (apF s a).1/\rpOk (apF s a).2:=by
 obtain⟨hG,hr⟩:=h
 have hG':=qY0 (a:=a) hG
 have key:(
       ∀ x∈(bil.applyF E s a).1.sess,rpOk x.rep)/\rpOk (bil.applyF E s a).2:=by
  unfold bil.applyF
  split
  ·exact⟨hr,zI4 ⟨by decide,by decide⟩⟩
  ·split
   ·unfold bil.joinF
    split
    ·exact⟨hr,zI4 ⟨by decide,by decide⟩⟩
    ·refine⟨fun x hx=>?_,i0,?_,i0⟩
     ·rcases bil.insF_mem.1 hx with rfl | h1
      ·exact⟨i0,i0,i0⟩
      ·exact hr x h1
     ·obtain⟨h1,h2,_⟩:=hG.1.next
      exact⟨by show _<=s.next;omega,by show s.next<=_;omega⟩
   ·split
    ·rename_i e he
     refine⟨hr,zI4 ?_⟩
     unfold bil.lookF at he
     repeat' (first | (cases he;(first | exact sml0 | exact⟨by decide,by decide⟩)) | (cases he;done) | split at he)
    ·rename_i old had hl
     split
     ·refine⟨hr,?_⟩
      unfold bil.lookF at hl
      split at hl
      ·cases hl
      ·split at hl
       ·cases hl
       ·rename_i x hx
        split at hl
        ·cases hl
        ·split at hl
         ·simp only [Sum.inl.injEq,Prod.mk.injEq] at hl
          rw [<- hl.1]
          exact hr x (List.mem_of_getElem? hx)
         ·split at hl
          ·cases hl
          ·simp only [Sum.inl.injEq,Prod.mk.injEq] at hl
           rw [<- hl.1]
           exact⟨i0,i0,i0⟩
     ·have h1:=rp_do (c:=a.cmd) hG
      have h2:=vQ0 s a.cmd
      split
      rename_i s' r hd
      rw [hd] at h1 h2
      refine⟨fun x hx=>?_,h1⟩
      have h3:∀ x∈s'.sess,rpOk x.rep:=fun x hx=>hr x (h2 x hx)
      replace hx:x∈bil.keepF s'.sess a.session a.seq r:=hx
      unfold bil.keepF at hx
      split at hx
      ·exact h3 x hx
      ·split at hx
       ·exact h3 x hx
       ·split at hx
        ·exact h3 x hx
        ·split at hx
         ·exact h3 x hx
         ·rcases List.mem_or_eq_of_mem_set hx with h4 | h4
          ·exact h3 x h4
          ·rw [h4];exact h1
 exact⟨⟨hG',key.1⟩,key.2⟩
theorem new_H:StH ⟨[],[],[],[],[],1⟩:=⟨new_G,fun x hx=>by cases hx⟩
theorem yZ3 {c:ByteArray} (h:E.name c=true):c.data.toList.length<=24:=by
 have h':yK5 c=true:=h
 unfold yK5 at h'
 simp only [Bool.and_eq_true,decide_eq_true_eq] at h'
 have:c.data.toList.length=c.size:=by rw [Array.length_toList];rfl
 omega
theorem qW9 {d:bil.Dt} (h:bil.dayF E d=true):bil.I64 d.y/\bil.I64 d.m/\bil.I64 d.d:=by
 have h':dayB d.y d.m d.d=true:=h
 unfold dayB at h'
 simp only [Bool.and_eq_true,decide_eq_true_eq] at h'
 have:=xW4 d.y d.m
 obtain⟨h1,h2,h3,h4,h5,h6⟩:=h'
 exact⟨⟨by omega,by omega⟩,⟨by omega,by omega⟩,⟨by omega,by omega⟩⟩
theorem uR4 {s:bil.St} (hG:StG s) {p:bil.Pst} (hp:p∈s.posted):p.ref.ser.data.toList.length<=24/\bil.I64 p.ref.num:=by
 obtain⟨x,hx,he⟩:=hG.1.numbers.ser p hp
 have hs:=hG.1.series
 unfold bil.srRight at hs
 simp only [Bool.and_eq_true,List.all_eq_true] at hs
 have hx2:=hs.2.1 x hx
 unfold bil.srOk at hx2
 simp only [Bool.and_eq_true] at hx2
 obtain⟨i,hi⟩:=List.getElem?_of_mem hp
 have hn:=hG.1.numbers.num i p hi
 have hl:bil.cntS (s.posted.take i) p.ref.ser<=40:=by
  unfold bil.cntS
  refine Nat.le_trans (List.length_filter_le _ _) ?_
  rw [List.length_take]
  have:=(zE6 hG).2.2.1
  omega
 refine⟨by rw [<- he];exact yZ3 hx2.1,?_⟩
 rw [hn]
 exact⟨by omega,by omega⟩
theorem vD8 {s:bil.St} (h:StH s):gPut s=true/\(∀ x∈s.table,okRt x)/\(∀ x∈s.series,qA8 x)/\(∀ p∈s.posted,qA9 p)/\(∀ z∈s.sess,okSs z)/\bil.I64 s.next:=by
 obtain⟨hG,hr⟩:=h
 obtain⟨l1,l2,l3,l4,l5,l6⟩:=zE6 hG
 have ht:∀ x∈s.table,okRt x/\x.cat.data.toList.length<=24:=fun x hx=>by
  have h1:=hG.1.table
  unfold bil.vatRight at h1
  simp only [Bool.and_eq_true,List.all_eq_true,beq_iff_eq] at h1
  have h2:=h1.2.1 x hx
  unfold bil.rowF at h2
  split at h2
  ·cases h2
  ·rename_i hn
   split at h2
   ·cases h2
   ·rename_i hd
    split at h2
    ·cases h2
    ·rename_i hb
     have hn':=yZ3 (c:=x.cat) (by simpa using hn)
     obtain⟨d1,d2,d3⟩:=qW9 (d:=x.fr) (by simpa using hd)
     exact⟨⟨by show _<=_;omega,d1,d2,d3,⟨by omega,by omega⟩⟩,hn'⟩
 have hs:∀ x∈s.series,qA8 x/\x.name.data.toList.length<=24:=fun x hx=>by
  have h1:=hG.1.series
  unfold bil.srRight at h1
  simp only [Bool.and_eq_true,List.all_eq_true] at h1
  have h2:=h1.2.1 x hx
  unfold bil.srOk at h2
  simp only [Bool.and_eq_true,decide_eq_true_eq] at h2
  have hn':=yZ3 (c:=x.name) h2.1
  exact⟨⟨by show _<=_;omega,⟨by omega,by omega⟩⟩,hn'⟩
 have hz:∀ x∈s.sess,okSs x:=fun x hx=>by
  have h1:=(bil.sesRight_iff.1 hG.1.sess)
  obtain⟨n1,n2,n3⟩:=hG.1.next
  have h2:=h1.2.1 x hx
  have h3:=h1.2.2.1 x hx
  have h4:=n3 x hx
  unfold bil.sesOk at h2
  simp only [Bool.and_eq_true,decide_eq_true_eq] at h2
  obtain⟨r1,r2,r3⟩:=hr x hx
  exact⟨⟨by omega,by omega⟩,⟨by omega,by omega⟩,r1,r2,r3⟩
 have hp:∀ p∈s.posted,qA9 p/\p.ref.ser.data.toList.length<=24/\p.of_.ser.data.toList.length<=24/\∀ q∈p.tot.parts,okPt q/\q.cat.data.toList.length<=24:=fun p hp=>by
  obtain⟨a1,a2⟩:=uR4 hG hp
  obtain⟨d0,t0⟩:=hG.1.posted.tot p hp
  obtain⟨d1,d2,d3⟩:=qW9 d0
  obtain⟨i,hi⟩:=List.getElem?_of_mem hp
  have ho:p.of_.ser.data.toList.length<=24/\bil.I64 p.of_.num:=by
   rcases hG.1.posted.of_ i p hi with h1 | ⟨k,q,hk,hq,_⟩
   ·rw [h1];exact⟨Nat.zero_le _,i0⟩
   ·obtain⟨_,x,hx,he⟩:=bil.findIdx_lt hk
    have hxm:x∈s.posted:=List.mem_of_mem_take (List.mem_of_getElem? hx)
    have he':x.ref=p.of_:=by simpa using he
    rw [<- he']
    exact uR4 hG hxm
  have hg:=List.all_eq_true.1 hG.2 p hp
  obtain⟨g1,g2,g3,g4,g5⟩:=gTt_iff.1 hg
  unfold bil.totOk at t0
  simp only [Bool.and_eq_true,decide_eq_true_eq,List.all_eq_true] at t0
  have hq:∀ q∈p.tot.parts,okPt q/\q.cat.data.toList.length<=24:=fun q hq=>by
   have q1:=t0.2.2.1 q hq
   unfold bil.ptOk at q1
   simp only [Bool.and_eq_true,decide_eq_true_eq] at q1
   have hn':=yZ3 (c:=q.cat) q1.1
   have q2:=List.all_eq_true.1 g4 q hq
   unfold gPb at q2
   simp only [Bool.and_eq_true] at q2
   exact⟨⟨by show _<=_;omega,⟨by omega,by omega⟩,gI_iff.1 q2.1⟩,hn'⟩
  exact⟨⟨by show _<=_;omega,d1,d2,d3,by show _<=_;omega,ho.2,by omega,t0.2.1,fun q h=>(hq q h).1⟩,a1,ho.1,hq⟩
 have hnx:bil.I64 s.next:=by
  obtain⟨n1,n2,_⟩:=hG.1.next
  exact⟨by omega,by omega⟩
 refine⟨?_,fun x hx=>(ht x hx).1,fun x hx=>(hs x hx).1,fun x hx=>(hp x hx).1,hz,hnx⟩
 unfold gPut
 simp only [Bool.and_eq_true,List.all_eq_true]
 refine⟨fun x hx=>?_,fun x hx=>?_,fun p hpp=>?_,fun x hx=>?_,gI_iff.2 hnx,zA0 (by omega),zA0 (by omega),zA0 (by omega),zA0 (by omega)⟩
 ·obtain⟨⟨h0,h1,h2,h3,h4⟩,h5⟩:=ht x hx
  unfold gWr gTx
  rw [zA0 (by omega),gI_iff.2 h1,gI_iff.2 h2,gI_iff.2 h3,gI_iff.2 h4];rfl
 ·obtain⟨⟨h0,h1⟩,h5⟩:=hs x hx
  unfold gWs gTx
  rw [zA0 (by omega),gI_iff.2 h1];rfl
 ·obtain⟨⟨h0,h1,h2,h3,h4,h5,h6,h7,h8⟩,k1,k2,k3⟩:=hp p hpp
  unfold gWq gTx
  rw [zA0 (by omega),zA0 (by omega),gI_iff.2 h1,gI_iff.2 h2,gI_iff.2 h3,gI_iff.2 h5,zA0 (show p.tot.parts.length < 1000 by omega)]
  simp only [Bool.true_and,Bool.and_true,List.all_eq_true]
  intro q hq
  obtain⟨⟨p1,p2,p3⟩,p4⟩:=k3 q hq
  unfold gWp gTx
  rw [zA0 (by omega),gI_iff.2 p2,gI_iff.2 p3];rfl
 ·obtain⟨h0,h1,h2,h3,h4⟩:=hz x hx
  unfold gWz
  rw [gI_iff.2 h0,gI_iff.2 h1,gI_iff.2 h2,gI_iff.2 h3,gI_iff.2 h4];rfl
end
noncomputable section
def p1G (bs:List UInt8):Nat:=aC bs 0 24
def p2G (bs:List UInt8) (s:bil.St):Nat:=repP (aRow bs) s.table.length (p1G bs)
def p3G (bs:List UInt8) (s:bil.St):Nat:=aC bs (p2G bs s) 8
def p4G (bs:List UInt8) (s:bil.St):Nat:=repP (aOne bs) s.series.length (p3G bs s)
def p5G (bs:List UInt8) (s:bil.St):Nat:=aC bs (p4G bs s) 40
def p6G (bs:List UInt8) (s:bil.St):Nat:=repP (aPst bs) s.posted.length (p5G bs s)
def p7G (bs:List UInt8) (s:bil.St):Nat:=aC bs (p6G bs s) 8
def p8G (bs:List UInt8) (s:bil.St):Nat:=repP (aN5 bs) s.sess.length (p7G bs s)
def p9G (bs:List UInt8) (s:bil.St):Nat:=aN bs (p8G bs s)
structure Bk (bs:List UInt8) (s:bil.St):Prop where
 few:Few8 bs
 c1:gnC bs 0 24=true
 n1:nCt bs 0 24=s.table.length
 r1:repG (gRow bs) (aRow bs) s.table.length (p1G bs)=true
 v1:repL (vRow bs) (aRow bs) s.table.length (p1G bs)=s.table
 c2:gnC bs (p2G bs s) 8=true
 n2:nCt bs (p2G bs s) 8=s.series.length
 r2:repG (gOne bs) (aOne bs) s.series.length (p3G bs s)=true
 v2:repL (vOne bs) (aOne bs) s.series.length (p3G bs s)=s.series.map bil.bareSr
 c3:gnC bs (p4G bs s) 40=true
 n3:nCt bs (p4G bs s) 40=s.posted.length
 r3:repG (gPst bs) (aPst bs) s.posted.length (p5G bs s)=true
 v3:repL (vPst bs) (aPst bs) s.posted.length (p5G bs s)=s.posted.map bil.barePst
 c4:gnC bs (p6G bs s) 8=true
 n4:nCt bs (p6G bs s) 8=s.sess.length
 r4:repG (gSes bs) (aN5 bs) s.sess.length (p7G bs s)=true
 v4:repL (vSes bs) (aN5 bs) s.sess.length (p7G bs s)=s.sess
 g5:gn bs (p8G bs s)=true
 v5:vN bs (p8G bs s)=s.next
 e5:Nat.ble bs.length (p9G bs s)=true
 o5:okAt bs (p9G bs s)=true
theorem uY4 {s:bil.St} (h:gPut s=true):(putB s).length < 90000000:=by
 unfold gPut at h
 simp only [Bool.and_eq_true] at h
 obtain⟨g1,g2,g3,g4,g5,n1,n2,n3,n4⟩:=h
 have n1:s.table.length < 1000:=blt_iff.1 n1
 have n2:s.series.length < 1000:=blt_iff.1 n2
 have n3:s.posted.length < 60:=blt_iff.1 n3
 have n4:s.sess.length < 1000:=blt_iff.1 n4
 have k0:=zC3 (Int.ofNat s.table.length)
 have k1:=zC3 (Int.ofNat s.series.length)
 have k2:=zC3 (Int.ofNat s.posted.length)
 have k3:=zC3 (Int.ofNat s.sess.length)
 have k4:=zC3 s.next
 have f1:=zI2 (fun l x h=>(xS4 (l:=l) h).1) s.table ([]++numL (.ofNat s.table.length)) g1
 generalize hb1:s.table.foldl wRt ([]++numL (.ofNat s.table.length))=b1 at f1
 have f2:=zI2 (fun l x h=>(xS3 (l:=l) h).1) s.series (b1++numL (.ofNat s.series.length)) g2
 generalize hb2:s.series.foldl wSr (b1++numL (.ofNat s.series.length))=b2 at f2
 have f3:=zI2 (g:=gWq) (fun l x h=>yW5 (l:=l) (p:=x) h) s.posted (b2++numL (.ofNat s.posted.length)) g3
 generalize hb3:s.posted.foldl wPst (b2++numL (.ofNat s.posted.length))=b3 at f3
 have f4:=zI2 (g:=gWz) (fun l x _=>xS2 (l:=l) (x:=x)) s.sess (b3++numL (.ofNat s.sess.length)) g4
 generalize hb4:s.sess.foldl wSs (b3++numL (.ofNat s.sess.length))=b4 at f4
 simp only [List.length_append,List.length_nil] at f1 f2 f3 f4
 unfold putB
 rw [hb1,hb2,hb3,hb4,List.length_append]
 omega
theorem qW5 (x:bil.Rt):1<=(eRt x).length:=by unfold eRt;rw [List.length_append];have:=vY2 x.cat;omega
theorem qW4 (x:bil.Sr):1<=(eSr x).length:=by unfold eSr;rw [List.length_append];have:=vY2 x.name;omega
theorem qF5 (x:bil.Pst):1<=(ePst x).length:=by unfold ePst;rw [List.length_append];have:=vY2 x.ref.ser;omega
theorem qW3 (x:bil.Ses):1<=(eSs x).length:=by unfold eSs;rw [List.length_append];have:=vH5 x.id;omega
theorem yG9 {s:bil.St} (h:StH s):Bk (putB s) s:=by
 obtain⟨hg,ht,hs,hp,hz,hn⟩:=vD8 h
 obtain⟨l1,l2,l3,l4,l5,l6⟩:=zE6 h.1
 have hlen:=uY4 hg
 have he:=uR5 s
 generalize putB s=bs at *
 have hf:Few8 bs:=by
  refine⟨?_,by omega⟩
  rw [he]
  unfold ePut
  rw [List.length_append]
  have:=vH5 (Int.ofNat s.table.length)
  omega
 have hr:Rest bs 0 (ePut s):=⟨[],he,rfl⟩
 unfold ePut at hr
 obtain⟨a1,a2,a3⟩:=zY9 (most:=24) hr (by omega) (by omega) (by
  rw [List.length_append]
  have:=yB6 qW5 s.table
  omega) hf
 obtain⟨b1,b2,b3⟩:=yS8 (f:=id) (fun q l p hq hr=>qO4 hf hq hr) s.table _ _ ht a3
 obtain⟨c1,c2,c3⟩:=zY9 (most:=8) b3 (by omega) (by omega) (by
  rw [List.length_append]
  have:=yB6 qW4 s.series
  omega) hf
 obtain⟨d1,d2,d3⟩:=yS8 (f:=bil.bareSr) (fun q l p hq hr=>qP6 hf hq hr) s.series _ _ hs c3
 obtain⟨e1,e2,e3⟩:=zY9 (most:=40) d3 (by omega) (by omega) (by
  rw [List.length_append]
  have:=yB6 qF5 s.posted
  omega) hf
 obtain⟨f1,f2,f3⟩:=yS8 (f:=bil.barePst) (fun q l p hq hr=>qO6 hf hq hr) s.posted _ _ hp e3
 obtain⟨g1,g2,g3⟩:=zY9 (most:=8) f3 (by omega) (by omega) (by
  rw [List.length_append]
  have:=yB6 qW3 s.sess
  omega) hf
 obtain⟨h1,h2,h3⟩:=yS8 (f:=id) (fun q l p hq hr=>qN9 hf hq hr) s.sess _ _ hz g3
 obtain⟨i1,i2,i3⟩:=zM8 (l:=[]) (by rw [List.append_nil];exact h3) hn hf
 have hfin:=yX9 i3
 rw [List.length_nil,Nat.add_zero] at hfin
 exact⟨hf,a1,a2,b1,b2.trans (List.map_id _),c1,c2,d1,d2,e1,e2,f1,f2,g1,g2,h1,h2.trans (List.map_id _),i1,i2,Nat.ble_eq_true_of_le (by rw [hfin];exact Nat.le_refl _),i3.ok hf⟩
theorem yB5 {α:Type} {e:α->List UInt8} {k:Nat}:∀ xs:List α,(∀ x∈xs,(e x).length<=k)->(xs.flatMap e).length<=xs.length*k
 | [],_=>Nat.zero_le _
 | x::xs,h=>by
  have h1:=yB5 xs fun y hy=>h y (List.mem_cons_of_mem _ hy)
  have h2:=h x List.mem_cons_self
  rw [List.flatMap_cons,List.length_append,List.length_cons,Nat.succ_mul]
  omega
theorem zG1 (n:Int):(numL n).length<=10:=by have:=zC3 n;omega
theorem xF9 {s:ByteArray} (h:tx64 s):(txB s).length<=74:=by
 have h':s.data.toList.length<=64:=h
 have h2:=zG1 (s.data.toList.length:Int)
 show (numL _++_).length<=_
 rw [List.length_append];omega
theorem xK0 {s:bil.St} (h:StH s):(putB s).length < 100000:=by
 obtain⟨_,ht,hs,hp,hz,_⟩:=vD8 h
 obtain⟨l1,l2,l3,l4,l5,l6⟩:=zE6 h.1
 have f1:=yB5 (e:=eRt) (k:=120) s.table fun x hx=>by
  have:=xF9 (ht x hx).1
  have:=zG1 x.fr.y
  have:=zG1 x.fr.m
  have:=zG1 x.fr.d
  have:=zG1 x.bp
  unfold eRt
  simp only [List.length_append] at *;omega
 have f2:=yB5 (e:=eSr) (k:=100) s.series fun x hx=>by
  have:=xF9 (hs x hx).1
  have:=zG1 x.limit
  have:=zG1 (bif x.shut then 1 else 0)
  unfold eSr
  simp only [List.length_append] at *;omega
 have f3:=yB5 (e:=ePst) (k:=1500) s.posted fun x hx=>by
  obtain⟨h0,_,_,_,h4,_,_,h7,h8⟩:=hp x hx
  have:=xF9 h0
  have:=xF9 h4
  have:=zG1 x.day.y
  have:=zG1 x.day.m
  have:=zG1 x.day.d
  have:=zG1 x.of_.num
  have:=zG1 (.ofNat x.tot.parts.length)
  have f:=yB5 (e:=ePt) (k:=100) x.tot.parts fun q hq=>by
   have:=xF9 (h8 q hq).1
   have:=zG1 q.bp
   have:=zG1 q.net
   unfold ePt
   simp only [List.length_append] at *;omega
  unfold ePst
  simp only [List.length_append] at *;omega
 have f4:=yB5 (e:=eSs) (k:=60) s.sess fun x hx=>by
  have:=zG1 x.id
  have:=zG1 x.last
  have:=zG1 x.rep.why
  have:=zG1 x.rep.number
  have:=zG1 x.rep.gross
  unfold eSs
  simp only [List.length_append] at *;omega
 have n1:=zG1 (.ofNat s.table.length)
 have n2:=zG1 (.ofNat s.series.length)
 have n3:=zG1 (.ofNat s.posted.length)
 have n4:=zG1 (.ofNat s.sess.length)
 have n5:=zG1 s.next
 rw [uR5]
 unfold ePut
 simp only [List.length_append]
 omega
end
noncomputable section
def sN:Nat->SC->SC | 0,c=>c | n+1,c=>sN n (sR c)
def tG4:T AV:=stL [(q2,.ptr 0 0),(q3,i64 0),(q4,.ptr 1 0),(q5,.ptr 2 0)]
def stB (t:List bil.Rt) (x y b z:AV) (nx:Int):Blk:=⟨.raw [.fl .rate t,x,y,b,z,i64 nx],1,false⟩
def gG (bs:List UInt8) (p:Nat) (S:Blk) (L:List bil.Sr) (q:List Pnd):List Blk:=[zB,rdB bs p,S,⟨.ls .series L,4,true⟩,⟨.ls .pend q,12,true⟩]
section
variable (bs:List UInt8) (p a b:Nat) (nx:Int) (t:List bil.Rt) (L:List bil.Sr) (q:List Pnd) (P:List bil.Pst) (k:List bil.Bal) (z:List bil.Ses)
theorem pG1:evS c126 0 (sL s_iget.body) (stL [(q0,.fl .byte bs)]) m0 (gK [q0,q2,q3] 0)=some (.nrm,stL [(q0,.fl .byte bs),(q2,.ptr 0 0),(q3,i64 0)],gM [zB]):=by kernel_rfl
theorem pG2:evS c126 0 (sL (sN 1 s_iget.body)) (stL [(q0,.fl .byte bs),(q2,.ptr 0 0),(q3,i64 0)]) (gM [zB]) (gK [q2,q3,q4] 0)=bif Nat.blt bs.length 1048576 then some (.nrm,stL [(q2,.ptr 0 0),(q3,i64 0),(q4,.ptr 1 0)],gM [zB,rdB bs 0]) else none:=by kernel_rfl
theorem pG3:evS c126 0 (sL (sN 2 s_iget.body)) (stL [(q2,.ptr 0 0),(q3,i64 0),(q4,.ptr 1 0)]) (gM [zB,rdB bs p]) (gK [q2,q3,q4,q5] 0)=some (.nrm,tG4,gM [zB,rdB bs p,zB]):=by kernel_rfl
theorem pG4:evS c126 0 (sL (sN 3 s_iget.body)) tG4 (gM [zB,rdB bs p,zB]) (gK [q2,q3,q4,q5] 0) =
 bif gnC bs p 24&&repG (gRow bs) (aRow bs) (nCt bs p 24) (aC bs p 24)&&true then some (.nrm,tG4,gM [zB,rdB bs (repP (aRow bs) (nCt bs p 24) (aC bs p 24)),stB (repL (vRow bs) (aRow bs) (nCt bs p 24) (aC bs p 24)) .nilsl .nilsl .nilsl .nilsl 0]) else none:=by kernel_rfl
theorem pG5:evS c126 0 (sL (sN 4 s_iget.body)) tG4 (gM [zB,rdB bs p,stB t .nilsl .nilsl .nilsl .nilsl 0]) (gK [q2,q3,q4,q5] 0) =
 bif gnC bs p 8&&Nat.beq (nCt bs p 8) 0 then some (.nrm,tG4,gM [zB,rdB bs (aC bs p 8),stB t .nilsl .nilsl .nilsl .nilsl 0]) else
 bif gnC bs p 8&&(repG (gOne bs) (aOne bs) (nCt bs p 8) (aC bs p 8)&&Nat.blt 0 (nCt bs p 8)) then some (.nrm,tG4,gM (gB t (repL (vOne bs) (aOne bs) (nCt bs p 8) (aC bs p 8)) bs (repP (aOne bs) (nCt bs p 8) (aC bs p 8)))) else none:=by kernel_rfl
theorem pG6a:opsS c126 ((opsOf (sL (sN 5 s_iget.body))).take 1) tG4 (gM (gB t L bs p)) (gO [q2,q3,q4,q5,q15] 0)=some (stL [(q2,.ptr 0 0),(q3,i64 0),(q4,.ptr 1 0),(q5,.ptr 2 0),(q15,.ptr 1 0)],gM (gB t L bs p)):=by kernel_rfl
theorem pG6b:opsS c126 ((opsOf (sL (sN 5 s_iget.body))).drop 2) ((stL [(q2,.ptr 0 0),(q3,i64 0),(q4,.ptr 1 0),(q5,.ptr 2 0),(q15,.ptr 1 0)]).set q16 (vQ true q)) (gM (mQ t L bs p true q)) (gO [q2,q3,q4,q5] 0) =
 some (tG4,gM (gG bs p (stB t (.so 3 4 0 L.length) (.so 4 12 0 q.length) .nilsl .nilsl 0) L q)):=by kernel_rfl
theorem pG7:evS c126 0 (sL (sN 6 s_iget.body)) tG4 (gM (gG bs p (stB t (.so 3 4 0 a) (.so 4 12 0 b) .nilsl .nilsl 0) L q)) (gK [q2,q3,q4,q5] 0) =
 bif gnC bs p 8&&repG (gSes bs) (aN5 bs) (nCt bs p 8) (aC bs p 8)&&true then some (.nrm,tG4,gM (gG bs (repP (aN5 bs) (nCt bs p 8) (aC bs p 8)) (stB t (.so 3 4 0 a) (.so 4 12 0 b) .nilsl (.fl .ses (repL (vSes bs) (aN5 bs) (nCt bs p 8) (aC bs p 8))) 0) L q)) else none:=by kernel_rfl
theorem pG8:evS c126 0 (sL (sN 7 s_iget.body)) tG4 (gM (gG bs p (stB t (.so 3 4 0 a) (.so 4 12 0 b) .nilsl (.fl .ses z) 0) L q)) (gK [q2,q3,q4,q5] 0) =
 bif gn bs p then some (.nrm,tG4,gM (gG bs (aN bs p) (stB t (.so 3 4 0 a) (.so 4 12 0 b) .nilsl (.fl .ses z) (vN bs p)) L q)) else none:=by kernel_rfl
theorem pG9:evS c126 0 (sL (sN 8 s_iget.body)) tG4 (gM (gG bs p (stB t (.so 3 4 0 a) (.so 4 12 0 b) .nilsl (.fl .ses z) nx) L q)) (gK [q2,q3,q5] 0) =
 bif Nat.ble bs.length p&&okAt bs p then some (.nrm,stL [(q2,.ptr 0 0),(q3,i64 0),(q5,.ptr 1 0)],gM (mF t z nx a b L q)) else none:=by kernel_rfl
theorem pG10a:opsS c126 ((opsOf (sL (sL (sN 9 s_iget.body)))).drop 1) ((stL [(q2,.ptr 0 0),(q3,i64 0),(q5,.ptr 1 0)]).set q30 (.bool true)) (gM (mSF t z nx a b L P (.fl .bal k))) (gO [q2,q3,q5,q36] 0) =
 bif true&&(Nat.beq a L.length&&(Nat.beq b P.length&&(true&&(true&&(true&&true)))))&&true&&@decide (StG ⟨t,L,P,k,z,nx⟩) (Classical.propDecidable _) then
  some (stL [(q2,.ptr 0 0),(q3,i64 0),(q5,.ptr 1 0),(q36,.bool false)],gM (mSF t z nx a b L P (.fl .bal k))) else none:=by kernel_rfl
theorem pG10b:evS c126 0 (sR (sL (sN 9 s_iget.body))) (stL [(q2,.ptr 0 0),(q3,i64 0),(q5,.ptr 1 0),(q36,.bool false)]) (gM (mSF t z nx a b L P (.fl .bal k))) (gK [q2,q3,q5] 0) =
 some (.nrm,stL [(q2,.ptr 0 0),(q3,i64 0),(q5,.ptr 1 0)],gM (mSF t z nx a b L P (.fl .bal k))):=by kernel_rfl
def mEnd:List Blk:=[stB t (.so 1 4 0 a) (.so 2 12 0 b) (.fl .bal k) (.fl .ses z) nx,⟨.ls .series L,4,true⟩,⟨.ls .posted P,12,true⟩]
theorem pG11:evS c126 0 (sN 10 s_iget.body) (stL [(q2,.ptr 0 0),(q3,i64 0),(q5,.ptr 1 0)]) (gM (mSF t z nx a b L P (.fl .bal k))) (gK [q2,q3] 0) =
 some (.ret,stL [(q2,.ptr 0 0),(q3,i64 0)],gM (mEnd a b nx t L P k z)):=by kernel_rfl
end
end
noncomputable section
def rGet (s:bil.St):AV:=.tup [.agg (cSt s),i64 0]
def vA1:Sh:=.tup [.agg [.any,.lst .series,.lst .posted,.lst .bal,.any,.any],.any]
theorem qW6 {P:Program} {n:Nat} {ops:Array Oper} {o:Oper} {ao:AOper} {d:Nat} (hco:CompO P n ops o ao) (h:ao.dst=some (pth d)):o.dst=some d:=by
 rcases hco.dst with⟨_,h1⟩ | ⟨e,h1,h2,_⟩
 ·rw [h] at h1;cases h1
 ·rw [h] at h2
  rw [h1,zL9 (Option.some.inj h2)]
set_option maxHeartbeats 1000000 in
theorem uL8 {s:bil.St} (hH:StH s) (h0:0 < s.posted.length) {ρ:Ren} {w:World} {ys:List Value} (hρ:∀ q,ρ q=none) (hice:∀ b c,ρ.ice b=some c->∃ e fz,w.heap[b]?=some (.cells c e fz)) (hv:VRs ρ [.fl .byte (putB s)] ys) :
  Calls Tryz.prog 7 ys.toArray w fun e w'=>∃ ρ' v r m1,e=.returned v/\VR ρ' r v/\FR (fun _=>False) ρ w ρ' w' m1/\SM ρ' w' m1/\frzK m1 vA1 r some=some (rGet s):=by
 have hG:=hH.1
 obtain⟨l1,l2,l3,l4,l5,l6⟩:=zE6 hG
 have hB:=yG9 hH
 have hsh:=xK0 hH
 generalize putB s=bs at *
 have hp0:∀ q x,ρ q=some x->q < 0:=fun q x hq=>by rw [hρ] at hq;cases hq
 obtain⟨p,hpm⟩:∃ p,p∈s.posted:=List.exists_mem_of_length_pos h0
 have hs0:0 < s.series.length:=by
  obtain⟨x,hx,_⟩:=hG.1.numbers.ser p hpm
  exact List.length_pos_of_mem hx
 refine yB9 vH0 (xs:=[.fl .byte bs]) (tm0:=stL [(q0,.fl .byte bs)]) (by kernel_rfl) (Nat.le_of_ble_eq_true rfl) hv fun code a hc htr hdf=>?_
 have hat:∀ i,m0.at i=none:=zL2
 have hps:PS w.heap.size ρ w 39 ρ w m0 (stL [(q0,.fl .byte bs)]) a (ptsL []) [] :=
  ⟨⟨htr,fun i B hB=>by rw [hat] at hB;(cases hB),fun i j B C hB=>by rw [hat] at hB;(cases hB),fun i _=>hat i,fun i _=>hρ i,hice,fun i B b hB=>by rw [hat] at hB;(cases hB)⟩,
   ⟨Nat.le_refl _,fun _ _ _=>rfl,fun i B b hB=>by rw [hat] at hB;(cases hB),Out.refl w,fun _ _ h=>h,fun _ _ h=>.inl h,fun q x hq=>by rw [hρ] at hq;cases hq⟩,
   ⟨rfl,fun j u q hu=>by simp at hu,(fun u hu=>by cases hu),fun i j u v hu=>by simp at hu⟩⟩
 have hc0:comp Tryz.prog 39 code=some (.seq (er (sL s_iget.body)) (er (sN 1 s_iget.body))):=hc
 obtain⟨x1,y1,rfl,hx1,hy1⟩:=zA4 hc0
 have hy1':comp Tryz.prog 39 y1=some (.seq (er (sL (sN 1 s_iget.body))) (er (sN 2 s_iget.body))):=hy1
 obtain⟨x2,y2,rfl,hx2,hy2⟩:=zA4 hy1'
 have hy2':comp Tryz.prog 39 y2=some (.seq (er (sL (sN 2 s_iget.body))) (er (sN 3 s_iget.body))):=hy2
 obtain⟨x3,y3,rfl,hx3,hy3⟩:=zA4 hy2'
 have hy3':comp Tryz.prog 39 y3=some (.seq (er (sL (sN 3 s_iget.body))) (er (sN 4 s_iget.body))):=hy3
 obtain⟨x4,y4,rfl,hx4,hy4⟩:=zA4 hy3'
 have hy4':comp Tryz.prog 39 y4=some (.seq (er (sL (sN 4 s_iget.body))) (er (sN 5 s_iget.body))):=hy4
 obtain⟨x5,y5,rfl,hx5,hy5⟩:=zA4 hy4'
 have hy5':comp Tryz.prog 39 y5=some (.seq (er (.reg false (opsOf (sL (sN 5 s_iget.body))))) (er (sN 6 s_iget.body))):=hy5
 obtain⟨x6,y6,rfl,hx6,hy6⟩:=zA4 hy5'
 have hy6':comp Tryz.prog 39 y6=some (.seq (er (sL (sN 6 s_iget.body))) (er (sN 7 s_iget.body))):=hy6
 obtain⟨x7,y7,rfl,hx7,hy7⟩:=zA4 hy6'
 have hy7':comp Tryz.prog 39 y7=some (.seq (er (sL (sN 7 s_iget.body))) (er (sN 8 s_iget.body))):=hy7
 obtain⟨x8,y8,rfl,hx8,hy8⟩:=zA4 hy7'
 have hy8':comp Tryz.prog 39 y8=some (.seq (er (sL (sN 8 s_iget.body))) (er (sN 9 s_iget.body))):=hy8
 obtain⟨x9,y9,rfl,hx9,hy9⟩:=zA4 hy8'
 have hy9':comp Tryz.prog 39 y9=some (.seq (er (sL (sN 9 s_iget.body))) (er (sN 10 s_iget.body))):=hy9
 obtain⟨x10,x11,rfl,hx10,hx11⟩:=zA4 hy9'
 have hx10':comp Tryz.prog 39 x10=some (.seq (er (.reg false (opsOf (sL (sL (sN 9 s_iget.body)))))) (er (sR (sL (sN 9 s_iget.body))))):=hx10
 obtain⟨xa,xb,rfl,hxa,hxb⟩:=zA4 hx10'
 obtain⟨id6,ops6,rfl,hsz6,hop6⟩:=(yY1 hx6).ex
 obtain⟨id10,ops10,rfl,hsz10,hop10⟩:=(yY1 hxa).ex
 refine wp_seq (piece zM6 mix hx1 rfl (pG1 bs) hp0 hps fun ρ1 w1 a1 hs1 hd1=>?_)
 refine wp_seq (piece zM6 mix hx2 rfl ((pG2 bs).trans (by rw [zA0 (by omega),cond_true])) hp0 hs1 fun ρ2 w2 a2 hs2 hd2=>?_)
 refine wp_seq (piece zM6 mix hx3 rfl (pG3 bs 0) hp0 hs2 fun ρ3 w3 a3 hs3 hd3=>?_)
 have r1:repG (gRow bs) (aRow bs) s.table.length (aC bs 0 24)=true:=hB.r1
 have v1:repL (vRow bs) (aRow bs) s.table.length (aC bs 0 24)=s.table:=hB.v1
 refine wp_seq (piece zM6 mix hx4 rfl ((pG4 bs 0).trans (by rw [hB.c1,hB.n1,r1,v1];rfl)) hp0 hs3 fun ρ4 w4 a4 hs4 hd4=>?_)
 have r2:repG (gOne bs) (aOne bs) s.series.length (aC bs (repP (aRow bs) s.table.length (aC bs 0 24)) 8)=true:=hB.r2
 have v2:repL (vOne bs) (aOne bs) s.series.length (aC bs (repP (aRow bs) s.table.length (aC bs 0 24)) 8)=s.series.map bil.bareSr:=hB.v2
 have c2:gnC bs (repP (aRow bs) s.table.length (aC bs 0 24)) 8=true:=hB.c2
 have n2:nCt bs (repP (aRow bs) s.table.length (aC bs 0 24)) 8=s.series.length:=hB.n2
 refine wp_seq (piece zM6 mix hx5 rfl ((pG5 bs _ s.table).trans (by rw [c2,n2,r2,v2,zL3 (by omega),zA0 hs0];rfl)) hp0 hs4 fun ρ5 w5 a5 hs5 hd5=>?_)
 refine wp_seq (wp_region ?_)
 have e6:List.range ops6.size=List.range' 0 ((opsOf (sL (sN 5 s_iget.body))).take 1).length++(1::(List.range' 2 ((opsOf (sL (sN 5 s_iget.body))).drop 2).length++[])):=by rw [hsz6];rfl
 rw [e6]
 refine zM0 zM6 (RegS.take hop6) (pG6a bs _ s.table _) hp0 hs5 fun ρ6 w6 a6 hs6 hd6=>?_
 obtain⟨o1,ho1,hco1⟩:=hop6 1 _ rfl
 refine zT5 ho1 hco1 (tm:=stL [(q2,.ptr 0 0),(q3,i64 0),(q4,.ptr 1 0),(q5,.ptr 2 0),(q15,.ptr 1 0)]) rfl rfl (xs:=[.ptr 1 0,i64 40,fnP]) rfl Tryz.func23 (by kernel_rfl) (by kernel_rfl) hs6.sr.tr fun zs hzs=>?_
 have c3:gnC bs (repP (aOne bs) s.series.length (aC bs (repP (aRow bs) s.table.length (aC bs 0 24)) 8)) 40=true:=hB.c3
 have n3:nCt bs (repP (aOne bs) s.series.length (aC bs (repP (aRow bs) s.table.length (aC bs 0 24)) 8)) 40=s.posted.length:=hB.n3
 have r3:repG (gPst bs) (aPst bs) s.posted.length (aC bs (repP (aOne bs) s.series.length (aC bs (repP (aRow bs) s.table.length (aC bs 0 24)) 8)) 40)=true:=hB.r3
 have v3:repL (vPst bs) (aPst bs) s.posted.length (aC bs (repP (aOne bs) s.series.length (aC bs (repP (aRow bs) s.table.length (aC bs 0 24)) 8)) 40)=s.posted.map bil.barePst:=hB.v3
 refine (uH6 hs6.pm c3 (by rw [n3];exact h0) (by rw [n3];exact l3) (by rw [n3];exact r3) hzs).mono fun ee w7 hee=>?_
 obtain⟨ρ7,us,v,rfl,hvr,hm7,hle7⟩:=hee
 rw [n3,v3] at hvr hm7
 refine⟨v,rfl,?_⟩
 have hdst1:o1.dst=some 16:=qW6 hco1 rfl
 have hs8:PS w.heap.size ρ w 39 ρ7 w7 (gM (mQ s.table (s.series.map bil.bareSr) bs (repP (aPst bs) s.posted.length (aC bs (repP (aOne bs) s.series.length (aC bs (repP (aRow bs) s.table.length (aC bs 0 24)) 8)) 40)) true (zipP (s.posted.map bil.barePst) us)))
   ((stL [(q2,.ptr 0 0),(q3,i64 0),(q4,.ptr 1 0),(q5,.ptr 2 0),(q15,.ptr 1 0)]).set q16 (vQ true (zipP (s.posted.map bil.barePst) us))) (a6.put o1.dst v) (ptsL (s.posted.map bil.barePst)) us:=hm7.ps (TR.put hs6.sr.tr hle7 hco1.dst hvr)
 refine zM0 zM6 (RegS.drop hop6) (pG6b bs _ s.table _ _) hp0 hs8 fun ρ9 w9 a9 hs9 hd9=>?_
 have hus:us.length=(s.posted.map bil.barePst).length:=by rw [hm7.sd.len];exact List.length_map _
 rw [zL4 hus,List.length_map,List.length_map] at hs9
 have c4:gnC bs (repP (aPst bs) s.posted.length (aC bs (repP (aOne bs) s.series.length (aC bs (repP (aRow bs) s.table.length (aC bs 0 24)) 8)) 40)) 8=true:=hB.c4
 have n4:nCt bs (repP (aPst bs) s.posted.length (aC bs (repP (aOne bs) s.series.length (aC bs (repP (aRow bs) s.table.length (aC bs 0 24)) 8)) 40)) 8=s.sess.length:=hB.n4
 have r4:repG (gSes bs) (aN5 bs) s.sess.length (aC bs (repP (aPst bs) s.posted.length (aC bs (repP (aOne bs) s.series.length (aC bs (repP (aRow bs) s.table.length (aC bs 0 24)) 8)) 40)) 8)=true:=hB.r4
 have v4:repL (vSes bs) (aN5 bs) s.sess.length (aC bs (repP (aPst bs) s.posted.length (aC bs (repP (aOne bs) s.series.length (aC bs (repP (aRow bs) s.table.length (aC bs 0 24)) 8)) 40)) 8)=s.sess:=hB.v4
 refine wp_seq (piece zM6 mix hx7 rfl ((pG7 bs _ s.series.length s.posted.length s.table _ _).trans (by rw [c4,n4,r4,v4];rfl)) hp0 hs9 fun ρ10 w10 a10 hs10 hd10=>?_)
 have g5:gn bs (repP (aN5 bs) s.sess.length (aC bs (repP (aPst bs) s.posted.length (aC bs (repP (aOne bs) s.series.length (aC bs (repP (aRow bs) s.table.length (aC bs 0 24)) 8)) 40)) 8))=true:=hB.g5
 have v5:vN bs (repP (aN5 bs) s.sess.length (aC bs (repP (aPst bs) s.posted.length (aC bs (repP (aOne bs) s.series.length (aC bs (repP (aRow bs) s.table.length (aC bs 0 24)) 8)) 40)) 8))=s.next:=hB.v5
 have e5:Nat.ble bs.length (aN bs (repP (aN5 bs) s.sess.length (aC bs (repP (aPst bs) s.posted.length (aC bs (repP (aOne bs) s.series.length (aC bs (repP (aRow bs) s.table.length (aC bs 0 24)) 8)) 40)) 8)))=true:=hB.e5
 have o5:okAt bs (aN bs (repP (aN5 bs) s.sess.length (aC bs (repP (aPst bs) s.posted.length (aC bs (repP (aOne bs) s.series.length (aC bs (repP (aRow bs) s.table.length (aC bs 0 24)) 8)) 40)) 8)))=true:=hB.o5
 refine wp_seq (piece zM6 mix hx8 rfl ((pG8 bs _ s.series.length s.posted.length s.table _ _ s.sess).trans (by
  rw [g5,cond_true,v5])) hp0 hs10 fun ρ11 w11 a11 hs11 hd11=>?_)
 refine wp_seq (piece zM6 mix hx9 rfl ((pG9 bs _ s.series.length s.posted.length _ s.table _ _ s.sess).trans (by
  rw [e5,o5];rfl)) hp0 hs11 fun ρ12 w12 a12 hs12 hd12=>?_)
 refine wp_seq (wp_seq (wp_region ?_))
 have e10:List.range ops10.size=0::(List.range' 1 ((opsOf (sL (sL (sN 9 s_iget.body)))).drop 1).length++[]):=by rw [hsz10];rfl
 rw [e10]
 obtain⟨o2,ho2,hco2⟩:=hop10 0 _ rfl
 refine zT5 ho2 hco2 (tm:=stL [(q2,.ptr 0 0),(q3,i64 0),(q5,.ptr 1 0)]) rfl rfl (xs:=[.ptr 1 0]) rfl Tryz.func29 (by kernel_rfl) (by kernel_rfl) hs12.sr.tr fun zs2 hzs2=>?_
 refine (uL0 hG h0 hs12.pm hzs2).mono fun ee w13 hee=>?_
 obtain⟨rfl,ρ13,hsm13,hfr13,hle13⟩:=hee
 refine⟨_,rfl,?_⟩
 have htr13:TR ρ13 ((stL [(q2,.ptr 0 0),(q3,i64 0),(q5,.ptr 1 0)]).set q30 (.bool true)) (a12.put o2.dst (.bool true)) 39:=TR.put hs12.sr.tr hle13 hco2.dst (.bool true)
 have hps13:PS w.heap.size ρ w 39 ρ13 w13 (gM (mSF s.table s.sess s.next s.series.length s.posted.length s.series s.posted (.fl .bal s.book))) ((stL [(q2,.ptr 0 0),(q3,i64 0),(q5,.ptr 1 0)]).set q30 (.bool true)) (a12.put o2.dst (.bool true)) (ptsL []) [] :=
  ⟨⟨htr13,hsm13.mem,hsm13.inj,hsm13.wf,hsm13.fresh,hsm13.ice,hsm13.dis⟩,hfr13,⟨rfl,fun j u q hu=>by simp at hu,(fun u hu=>by cases hu),fun i j u v hu=>by simp at hu⟩⟩
 refine zM0 zM6 (RegS.drop hop10) ((pG10a s.series.length s.posted.length s.next s.table s.series s.posted s.book s.sess).trans (by
  rw [zA6 rfl,zA6 rfl,show @decide (StG ⟨s.table,s.series,s.posted,s.book,s.sess,s.next⟩) (Classical.propDecidable _)=true from @decide_eq_true _ (Classical.propDecidable _) hG];rfl)) hp0 hps13 fun ρ14 w14 a14 hs14 hd14=>?_
 refine piece zM6 mix hxb rfl (pG10b s.series.length s.posted.length s.next s.table s.series s.posted s.book s.sess) hp0 hs14 fun ρ15 w15 a15 hs15 hd15=>?_
 refine piece zM6 mix hx11 rfl (pG11 s.series.length s.posted.length s.next s.table s.series s.posted s.book s.sess) hp0 hs15 fun ρ16 w16 a16 hs16 hd16=>?_
 refine⟨.inr rfl,by rw [hd16,hd15,hd14,put_defers,hd12,hd11,hd10,hd9,put_defers,hd6,hd5,hd4,hd3,hd2,hd1];exact hdf,ρ16,_,_,[.agg [.fl .rate s.table,.so 1 4 0 s.series.length,.so 2 12 0 s.posted.length,.fl .bal s.book,.fl .ses s.sess,i64 s.next],i64 0],hs16.sr,(by kernel_rfl),fun v hv=>⟨ρ16,v,_,gM (mEnd s.series.length s.posted.length s.next s.table s.series s.posted s.book s.sess),rfl,hv,hs16.fr,⟨hs16.sr.mem,hs16.sr.inj,hs16.sr.wf,hs16.sr.fresh,hs16.sr.ice,hs16.sr.dis⟩,?_⟩⟩
 have e:frzK (gM (mEnd s.series.length s.posted.length s.next s.table s.series s.posted s.book s.sess)) vA1 (.tup [.agg [.fl .rate s.table,.so 1 4 0 s.series.length,.so 2 12 0 s.posted.length,.fl .bal s.book,.fl .ses s.sess,i64 s.next],i64 0]) some =
   bif Nat.beq s.series.length s.series.length then bif Nat.beq s.posted.length s.posted.length then some (rGet s) else none else none:=by kernel_rfl
 refine e.trans ?_
 rw [zA6 rfl,zA6 rfl];rfl
end
noncomputable section
def lpP0 (F F' p:Nat) (n:Int) (bs:List UInt8):Option (AV × T Blk × Nat):=zC7 (evS c126 F zC6) zP0 1 F' (stL [(q0,.ptr 0 0),(q2,fnP),(q7,.nilsl),(q10,i64 n),(q11,i64 (.ofNat 0))]) ⟨.node .nil (some (rdB bs p)) .nil,1,1,1⟩ (uJ8 c126 F fun r m=>zD1 1 r m fun r m=>some (r,m.h,m.nx))
def vW2:List AV->Mem->Option (Bool × AV × T Blk × Nat)
 | [.ptr 0 0,.int .i64 most,.fn 24 []],⟨.node .nil (some ⟨.raw [.fl .byte bs,.int .i64 (.ofNat p),.int .i64 (.ofNat 0)],1,false⟩) .nil,1,0,0⟩ =>
  some (gnC bs p most&&Nat.beq (nCt bs p most) 0,.nilsl,.node .nil (some (rdB bs (aC bs p most))) .nil,1)
 | _,_=>none
def c127:ClS:=addN 23 vW2 c126
theorem qL9:zA1 Tryz.prog c127:=zE5 zM6 mix wG6 vW2 fun xs m r h1 n1 h=>by
 unfold vW2 at h
 split at h<;>first | (cases h;done) | skip
 rename_i most bs p
 simp only [Option.some.injEq,Prod.mk.injEq,Bool.and_eq_true] at h
 obtain⟨⟨hg,hz⟩,rfl,rfl,rfl⟩:=h
 unfold gnC at hg
 simp only [Bool.and_eq_true] at hg
 obtain⟨g1,g2,g3⟩:=hg
 rw [zC5,decide_eq_true_eq,beqN.1 hz] at g2
 refine⟨rfl,1,?_⟩
 have e:∀ F,zC4 c126 F s_liPst [.ptr 0 0,.int .i64 most,fnP] (rdM bs p) (fun r m=>zD1 1 r m fun r m=>some (r,m.h,m.nx))=bif gc bs p most then lpP0 F F (aC bs p most) (vC bs p most) bs else none:=fun F=>by kernel_rfl
 refine (e _).trans ?_
 rw [g1,cond_true,g2]
 kernel_rfl
def hF0 (t:List bil.Rt) (z:List bil.Ses) (nx:Int):T Blk:=.node .nil (some ⟨.raw [.fl .rate t,.nilsl,.nilsl,.nilsl,.fl .ses z,i64 nx],1,false⟩) .nil
def hF0s (t:List bil.Rt) (z:List bil.Ses) (nx:Int) (a:Nat) (L:List bil.Sr):T Blk:=.node (.node .nil (some ⟨.ls .series L,4,true⟩) .nil) (some ⟨.raw [.fl .rate t,.so 1 4 0 a,.nilsl,.nilsl,.fl .ses z,i64 nx],1,false⟩) .nil
def wB4:List AV->Mem->Option (Bool × AV × T Blk × Nat)
 | [.ptr 0 0],⟨.node .nil (some ⟨.raw [.fl .rate t,.nilsl,.nilsl,.nilsl,.fl .ses z,.int .i64 nx],1,false⟩) .nil,1,0,0⟩=>some (true,.bool true,hF0 t z nx,1)
 | [.ptr 0 0],⟨.node (.node .nil (some ⟨.ls .series L,4,true⟩) .nil) (some ⟨.raw [.fl .rate t,.so 1 4 0 a,.nilsl,.nilsl,.fl .ses z,.int .i64 nx],1,false⟩) .nil,2,0,0⟩=>some (true,.bool true,hF0s t z nx a L,2)
 | _,_=>none
def c128:ClS:=addN 29 wB4 c127
theorem uQ6:zA1 Tryz.prog c128:=zE5 qL9 mix vH2 wB4 fun xs m r h1 n1 h=>by
 unfold wB4 at h
 split at h<;>first | (cases h;done) | skip
 ·rename_i t z nx
  simp only [Option.some.injEq,Prod.mk.injEq] at h
  obtain⟨_,rfl,rfl,rfl⟩:=h
  refine⟨rfl,1,?_⟩
  have e:zC4 c127 1 s_fill [.ptr 0 0] ⟨hF0 t z nx,1,0,0⟩ (fun r m=>zD1 1 r m fun r m=>some (r,m.h,m.nx))=some (.bool true,hF0 t z nx,1):=by kernel_rfl
  exact e
 ·rename_i L t a z nx
  simp only [Option.some.injEq,Prod.mk.injEq] at h
  obtain⟨_,rfl,rfl,rfl⟩:=h
  refine⟨rfl,1,?_⟩
  have e:zC4 c127 1 s_fill [.ptr 0 0] ⟨hF0s t z nx a L,2,0,0⟩ (fun r m=>zD1 2 r m fun r m=>some (r,m.h,m.nx))=some (.bool true,hF0s t z nx a L,2):=by kernel_rfl
  exact e
end
noncomputable section
theorem uN5 {l m:List bil.Pst} (h:l.map (fun p=>p.ref.ser)=m.map (fun p=>p.ref.ser)) (c:ByteArray):bil.cntS l c=bil.cntS m c:=by
 have e:∀ x:List bil.Pst,bil.cntS x c=((x.map fun p=>p.ref.ser).filter fun r=>decide (r=c)).length:=fun x=>by
  unfold bil.cntS
  rw [List.filter_map,List.length_map]
  rfl
 rw [e,e,h]
theorem vP2 {l m:List bil.Pst} (h:l.map (·.ref)=m.map (·.ref)) (r:bil.Ref):bil.findP l r=bil.findP m r:=by
 have f:∀ x:List bil.Pst,bil.findP x r=(x.map (·.ref)).findIdx? fun q=>decide (q=r):=fun x=>by
  unfold bil.findP
  rw [List.findIdx?_map]
  rfl
 rw [f,f,h]
theorem qG1 {l m:List bil.Pst} (h:l.map (·.ref)=m.map (·.ref)) (ho:l.map (·.of_)=m.map (·.of_)) (k:Nat):bil.cntB l k=bil.cntB m k:=by
 have hl:l.length=m.length:=by have:=congrArg List.length h;simpa using this
 have hb:∀ j,bil.backsTo l j=bil.backsTo m j:=fun j=>by
  unfold bil.backsTo
  have h1:(l.map (·.of_))[j]?=(m.map (·.of_))[j]?:=by rw [ho]
  rw [List.getElem?_map,List.getElem?_map] at h1
  cases hp:l[j]? with
  | none =>
   rw [hp] at h1
   cases hq:m[j]? with
   | none=>rfl
   | some q=>rw [hq] at h1;cases h1
  | some p =>
   rw [hp] at h1
   cases hq:m[j]? with
   | none=>rw [hq] at h1;cases h1
   | some q =>
    rw [hq] at h1
    have h2:p.of_=q.of_:=Option.some.inj h1
    simp only [h2]
    rw [vP2 (l:=l.take j) (m:=m.take j) (by rw [List.map_take,List.map_take,h])]
 unfold bil.cntB
 rw [hl]
 congr 1
 exact List.filter_congr fun j _=>by rw [hb]
theorem uY5 {s s':bil.St} (h:StH s) (h':StH s') (he:putB s=putB s'):s=s':=by
 have B:=yG9 h
 have B':=yG9 h'
 rw [<- he] at B'
 generalize putB s=bs at B B'
 have n1:s.table.length=s'.table.length:=B.n1.symm.trans B'.n1
 have t1:s.table=s'.table:=by rw [<- B.v1,<- B'.v1,n1]
 have p2:p2G bs s=p2G bs s':=by unfold p2G;rw [n1]
 have p3:p3G bs s=p3G bs s':=by unfold p3G;rw [p2]
 have n2:s.series.length=s'.series.length:=B.n2.symm.trans (by rw [p2];exact B'.n2)
 have t2:s.series.map bil.bareSr=s'.series.map bil.bareSr:=by rw [<- B.v2,<- B'.v2,n2,p3]
 have p4:p4G bs s=p4G bs s':=by unfold p4G;rw [n2,p3]
 have p5:p5G bs s=p5G bs s':=by unfold p5G;rw [p4]
 have n3:s.posted.length=s'.posted.length:=B.n3.symm.trans (by rw [p4];exact B'.n3)
 have t3:s.posted.map bil.barePst=s'.posted.map bil.barePst:=by rw [<- B.v3,<- B'.v3,n3,p5]
 have p6:p6G bs s=p6G bs s':=by unfold p6G;rw [n3,p5]
 have p7:p7G bs s=p7G bs s':=by unfold p7G;rw [p6]
 have n4:s.sess.length=s'.sess.length:=B.n4.symm.trans (by rw [p6];exact B'.n4)
 have t4:s.sess=s'.sess:=by rw [<- B.v4,<- B'.v4,n4,p7]
 have p8:p8G bs s=p8G bs s':=by unfold p8G;rw [n4,p7]
 have t5:s.next=s'.next:=by rw [<- B.v5,<- B'.v5,p8]
 have mp:∀ {α:Type} (f g:bil.Pst->α),(∀ p,f (bil.barePst p)=g p)->s.posted.map g=s'.posted.map g:=fun f g hfg=>by
  have e:∀ l:List bil.Pst,l.map g=(l.map bil.barePst).map f:=fun l=>by
   rw [List.map_map]
   exact List.map_congr_left fun p _=>(hfg p).symm
  rw [e,e,t3]
 have hser:=mp (fun p:bil.Pst=>p.ref.ser) (fun p:bil.Pst=>p.ref.ser) fun _=>rfl
 have hof:=mp bil.Pst.of_ bil.Pst.of_ fun _=>rfl
 have key:∀ (i:Nat) (p p':bil.Pst),s.posted[i]?=some p->s'.posted[i]?=some p'->p.ref=p'.ref/\p.day=p'.day/\p.tot=p'.tot/\p.of_=p'.of_:=fun i p p' hp hp'=>by
  have hb:bil.barePst p=bil.barePst p':=by
   have:(s.posted.map bil.barePst)[i]?=(s'.posted.map bil.barePst)[i]?:=by rw [t3]
   rw [List.getElem?_map,List.getElem?_map,hp,hp'] at this
   exact Option.some.inj this
  have r1:=(xY8 h.1 (List.mem_of_getElem? hp)).2
  have r2:=(xY8 h'.1 (List.mem_of_getElem? hp')).2
  rw [hb] at r1
  have r3:=r1.symm.trans r2
  have ht:p.tot=p'.tot:=by have q:=congrArg bil.Pst.tot r3;exact q
  have hs:p.ref.ser=p'.ref.ser:=by have q:=congrArg (fun q:bil.Pst=>q.ref.ser) hb;exact q
  have hn:p.ref.num=p'.ref.num:=by
   rw [h.1.1.numbers.num i p hp,h'.1.1.numbers.num i p' hp',hs]
   rw [uN5 (l:=s.posted.take i) (m:=s'.posted.take i) (by rw [List.map_take,List.map_take,hser])]
  refine⟨?_,(by have q:=congrArg bil.Pst.day hb;exact q),ht,(by have q:=congrArg bil.Pst.of_ hb;exact q)⟩
  obtain⟨⟨a,b⟩,_,_,_,_⟩:=p
  obtain⟨⟨a',b'⟩,_,_,_,_⟩:=p'
  simp only at hs hn
  rw [hs,hn]
 have href:s.posted.map (·.ref)=s'.posted.map (·.ref):=by
  apply List.ext_getElem?
  intro i
  rw [List.getElem?_map,List.getElem?_map]
  cases hp:s.posted[i]? with
  | none =>
   have:s'.posted[i]?=none:=by
    rw [List.getElem?_eq_none_iff] at hp ⊢
    omega
   rw [this]
  | some p =>
   obtain⟨p',hp'⟩:∃ p',s'.posted[i]?=some p':=⟨_,List.getElem?_eq_getElem (by have:=(List.getElem?_eq_some_iff.1 hp).1;omega)⟩
   rw [hp',Option.map_some,Option.map_some,(key i p p' hp hp').1]
 have t6:s.posted=s'.posted:=by
  apply List.ext_getElem?
  intro i
  cases hp:s.posted[i]? with
  | none =>
   have:s'.posted[i]?=none:=by
    rw [List.getElem?_eq_none_iff] at hp ⊢
    omega
   rw [this]
  | some p =>
   obtain⟨p',hp'⟩:∃ p',s'.posted[i]?=some p':=⟨_,List.getElem?_eq_getElem (by have:=(List.getElem?_eq_some_iff.1 hp).1;omega)⟩
   obtain⟨k1,k2,k3,k4⟩:=key i p p' hp hp'
   have hb1:=(h.1.1.posted.back i p hp).2
   have hb2:=(h'.1.1.posted.back i p' hp').2
   rw [qG1 href hof] at hb1
   have hbk:p.back=p'.back:=by
    rw [Bool.eq_iff_iff]
    exact hb1.trans hb2.symm
   rw [hp']
   congr 1
   obtain⟨a,b,c,d,e⟩:=p
   obtain⟨a',b',c',d',e'⟩:=p'
   simp only at k1 k2 k3 k4 hbk
   rw [k1,k2,k3,k4,hbk]
 have t7:s.series=s'.series:=by
  have e:∀ x:bil.St,StH x->x.series=(x.series.map bil.bareSr).map fun y=>{ y with next:=(bil.cntS x.posted y.name:Int)+1 }:=fun x hx=>by
   have:=bil.fillS_all hx.1.1.numbers
   unfold bil.fillS at this
   rw [List.take_length] at this
   conv=>lhs;rw [<- this]
   rw [List.map_map]
   exact List.map_congr_left fun _ _=>rfl
  rw [e s h,e s' h',t2,t6]
 have t8:s.book=s'.book:=by
  have h1:=h.1.1.book
  have h2:=h'.1.1.book
  rw [t6,h2] at h1
  exact (Option.some.inj h1).symm
 obtain⟨a,b,c,d,e,f⟩:=s
 obtain⟨a',b',c',d',e',f'⟩:=s'
 simp only at t1 t4 t5 t6 t7 t8
 rw [t1,t4,t5,t6,t7,t8]
end
noncomputable section
def zG0 (bs:List UInt8) (p:Nat):List bil.Ses:=repL (vSes bs) (aN5 bs) (nCt bs (aC bs p 40) 8) (aC bs (aC bs p 40) 8)
def eG0 (bs:List UInt8) (p:Nat):Nat:=repP (aN5 bs) (nCt bs (aC bs p 40) 8) (aC bs (aC bs p 40) 8)
def stG0 (bs:List UInt8) (p:Nat) (t:List bil.Rt) (L:List bil.Sr):bil.St:=⟨t,L,[],[],zG0 bs p,vN bs (eG0 bs p)⟩
def tlG0 (bs:List UInt8) (p:Nat) (t:List bil.Rt) (L:List bil.Sr) (g:Bool) (r:Option AV):Option AV :=
 bif gnC bs p 40&&Nat.beq (nCt bs p 40) 0 then bif gnC bs (aC bs p 40) 8&&repG (gSes bs) (aN5 bs) (nCt bs (aC bs p 40) 8) (aC bs (aC bs p 40) 8)&&true then
  bif gn bs (eG0 bs p) then bif Nat.ble bs.length (aN bs (eG0 bs p))&&okAt bs (aN bs (eG0 bs p)) then bif g&&@decide (StG (stG0 bs p t L)) (Classical.propDecidable _) then r else none else none else none else none else none
def tG0 (bs:List UInt8):List bil.Rt:=repL (vRow bs) (aRow bs) (nCt bs 0 24) (aC bs 0 24)
def pG0 (bs:List UInt8):Nat:=repP (aRow bs) (nCt bs 0 24) (aC bs 0 24)
def LG0 (bs:List UInt8):List bil.Sr:=repL (vOne bs) (aOne bs) (nCt bs (pG0 bs) 8) (aC bs (pG0 bs) 8)
theorem vY6 (bs:List UInt8):zB3 c128 0 s_iget vA1 [.fl .byte bs] some=bif Nat.blt bs.length 1048576 then bif gnC bs 0 24&&repG (gRow bs) (aRow bs) (nCt bs 0 24) (aC bs 0 24)&&true then
 bif gnC bs (pG0 bs) 8&&Nat.beq (nCt bs (pG0 bs) 8) 0 then tlG0 bs (aC bs (pG0 bs) 8) (tG0 bs) [] (true&&(true&&(true&&(true&&(true&&(true&&true)))))&&true) (some (rGet (stG0 bs (aC bs (pG0 bs) 8) (tG0 bs) []))) else
 bif gnC bs (pG0 bs) 8&&(repG (gOne bs) (aOne bs) (nCt bs (pG0 bs) 8) (aC bs (pG0 bs) 8)&&Nat.blt 0 (nCt bs (pG0 bs) 8)) then
  tlG0 bs (repP (aOne bs) (nCt bs (pG0 bs) 8) (aC bs (pG0 bs) 8)) (tG0 bs) (LG0 bs) (true&&(Nat.beq (LG0 bs).length (LG0 bs).length&&(true&&(true&&(true&&(true&&true)))))&&true)
   (bif Nat.beq (LG0 bs).length (LG0 bs).length then some (rGet (stG0 bs (repP (aOne bs) (nCt bs (pG0 bs) 8) (aC bs (pG0 bs) 8)) (tG0 bs) (LG0 bs))) else none) else none else none else none:=by kernel_rfl
theorem uL7 {s:bil.St} (hH:StH s) (h0:s.posted=[]):zB3 c128 0 s_iget vA1 [.fl .byte (putB s)] some=some (rGet s):=by
 have hB:=yG9 hH
 have hsh:=xK0 hH
 have hG:=hH.1
 generalize putB s=bs at *
 have hbk:s.book=[]:=by
  have h1:=hG.1.book
  rw [h0] at h1
  exact (Option.some.inj h1).symm
 have hbare:s.series.map bil.bareSr=s.series:=by
  have h1:=bil.fillS_all hG.1.numbers
  rw [h0] at h1
  have h2:=bil.fillS_zero s.series ([]:List bil.Pst)
  exact h2.symm.trans h1
 have t1:tG0 bs=s.table:=by
  have:=hB.v1
  unfold tG0
  rw [hB.n1]
  exact this
 have p1:pG0 bs=p2G bs s:=by unfold pG0;rw [hB.n1];rfl
 have hr:repG (gRow bs) (aRow bs) (nCt bs 0 24) (aC bs 0 24)=true:=by rw [hB.n1];exact hB.r1
 rw [vY6,zA0 (by omega),hB.c1,hr,p1,hB.c2,hB.n2]
 have tail:∀ (g:Bool),g=true->∀ r,tlG0 bs (p4G bs s) s.table s.series g r=r:=fun g hg r=>by
  have n3:nCt bs (p4G bs s) 40=0:=by rw [hB.n3,h0];rfl
  have p7:aC bs (aC bs (p4G bs s) 40) 8=p7G bs s:=by unfold p7G p6G p5G;rw [h0];rfl
  have n4:nCt bs (aC bs (p4G bs s) 40) 8=s.sess.length:=by
   have:=hB.n4
   unfold p6G p5G at this
   rw [h0] at this
   exact this
  have c4:gnC bs (aC bs (p4G bs s) 40) 8=true:=by
   have:=hB.c4
   unfold p6G p5G at this
   rw [h0] at this
   exact this
  have e8:eG0 bs (p4G bs s)=p8G bs s:=by unfold eG0 p8G;rw [n4,p7]
  have z4:zG0 bs (p4G bs s)=s.sess:=by unfold zG0;rw [n4,p7];exact hB.v4
  have hs:stG0 bs (p4G bs s) s.table s.series=s:=by
   unfold stG0
   rw [z4,e8,hB.v5]
   obtain⟨a,b,c,d,e,f⟩:=s
   simp only at h0 hbk
   rw [h0,hbk]
  unfold tlG0
  rw [hB.c3,n3,c4,n4,p7,hB.r4,e8,hB.g5,show Nat.ble bs.length (aN bs (p8G bs s))=true from hB.e5,show okAt bs (aN bs (p8G bs s))=true from hB.o5,hs,hg,show @decide (StG s) (Classical.propDecidable _)=true from @decide_eq_true _ (Classical.propDecidable _) hG]
  rfl
 have hfin:∀ L p,L=s.series->p=p4G bs s->stG0 bs p (tG0 bs) L=s:=fun L p hL hp=>by
  subst hL hp
  have p7:aC bs (aC bs (p4G bs s) 40) 8=p7G bs s:=by unfold p7G p6G p5G;rw [h0];rfl
  have n4:nCt bs (aC bs (p4G bs s) 40) 8=s.sess.length:=by
   have:=hB.n4
   unfold p6G p5G at this
   rw [h0] at this
   exact this
  have e8:eG0 bs (p4G bs s)=p8G bs s:=by unfold eG0 p8G;rw [n4,p7]
  have z4:zG0 bs (p4G bs s)=s.sess:=by unfold zG0;rw [n4,p7];exact hB.v4
  unfold stG0
  rw [z4,e8,hB.v5,t1]
  obtain⟨a,b,c,d,e,f⟩:=s
  simp only at h0 hbk
  rw [h0,hbk]
 by_cases hL:s.series.length=0
 ·have hL':s.series=[]:=List.eq_nil_of_length_eq_zero hL
  have hp4:aC bs (p2G bs s) 8=p4G bs s:=by unfold p4G p3G;rw [hL];rfl
  rw [hL]
  show tlG0 bs (aC bs (p2G bs s) 8) (tG0 bs) [] _ _=_
  rw [hp4,hfin [] _ hL'.symm rfl,t1]
  have:=tail (true&&(true&&(true&&(true&&(true&&(true&&true)))))&&true) rfl (some (rGet s))
  rw [hL'] at this
  exact this
 ·have hr2:repG (gOne bs) (aOne bs) s.series.length (aC bs (p2G bs s) 8)=true:=hB.r2
  have hLG:LG0 bs=s.series:=by
   unfold LG0
   rw [p1,hB.n2]
   exact hB.v2.trans hbare
  have hp4:repP (aOne bs) s.series.length (aC bs (p2G bs s) 8)=p4G bs s:=rfl
  rw [zL3 hL,hr2,zA0 (by omega),hp4,hLG,zA6 rfl,t1]
  have h3:=hfin s.series _ rfl rfl
  rw [t1] at h3
  rw [h3]
  exact tail _ rfl _
open Classical in
def unP (bs:List UInt8):bil.St:=if h:∃ s,StH s/\putB s=bs then Classical.choose h else ⟨[],[],[],[],[],1⟩
theorem wY4 {s:bil.St} (h:StH s):unP (putB s)=s:=by
 have hex:∃ s',StH s'/\putB s'=putB s:=⟨s,h,rfl⟩
 unfold unP
 rw [dif_pos hex]
 obtain⟨h1,h2⟩:=Classical.choose_spec hex
 exact uY5 h1 h h2
def gUn (bs:List UInt8):Bool:=@decide (StH (unP bs)/\putB (unP bs)=bs) (Classical.propDecidable _)
def vX5:List AV->Option (Bool × AV)
 | [.fl .byte bs]=>some (gUn bs,rGet (unP bs))
 | _=>none
theorem vU2 {P : Program} {cl : ClS} (hcl : zA1 P cl) {f : Nat} {fn : Func} (hfun : P.funcs[f]? = some fn) (hnm : (fn.name == "runtime.NumGoroutine") = false) (hb : fn.body.isNone = false) (sh : Sh) (G : List AV → Option (Bool × AV))
  (h:∀ xs r',G xs=some (true,r')->puL xs=true/\∀ (ρ:Ren) (w:World) (ys:List Value),(∀ q,ρ q=none)->(∀ b c,ρ.ice b=some c->∃ e fz,w.heap[b]?=some (.cells c e fz))->VRs ρ xs ys ->
   Calls P f ys.toArray w fun e w'=>∃ ρ' v r m1,e=.returned v/\VR ρ' r v/\FR (fun _=>False) ρ w ρ' w' m1/\SM ρ' w' m1/\frzK m1 sh r some=some r'):zA1 P (addG f G cl):=by
 intro g xs m r' m' hr
 rcases zZ4 hr with⟨rfl,hG,rfl⟩ | hr
 ·obtain⟨hp,hrun⟩:=h xs _ hG
  replace hp:=xK2 hp
  refine⟨AS.refl m',⟨fn,hfun,hnm,hb⟩,fun ρ w T N ys _ _ hv hm=>?_⟩
  refine (hrun ⟨fun _=>none,ρ.ice⟩ w ys (fun _=>rfl) hm.ice (wC7 (ρ:=ρ) (ρ2:=⟨fun _=>none,ρ.ice⟩) (fun _ _ h=>h) hv hp)).mono fun e w' he=>?_
  obtain⟨ρ1,v,r0,m1,rfl,k1,k2,k3,hfr⟩:=he
  obtain⟨r2,hz,hr2⟩:=yH5 hfr
  cases hr2
  obtain⟨ρ2,j1,j2,j3⟩:=vJ6 hm k1 k3.mem k3.ice k3.dis k2 hz
  exact⟨ρ2,v,rfl,j1,j2,j3⟩
 ·exact hcl g xs m r' m' hr
def c129:ClS:=addG 7 vX5 c128
theorem qL8:zA1 Tryz.prog c129:=vU2 uQ6 Tryz.func7 (by kernel_rfl) (by kernel_rfl) vA1 vX5 fun xs r h=>by
 unfold vX5 at h
 split at h<;>first | (cases h;done) | skip
 rename_i bs
 obtain⟨hg,rfl⟩:=Prod.mk.inj (Option.some.inj h)
 obtain⟨hH,hbs⟩:=@of_decide_eq_true _ (Classical.propDecidable _) hg
 refine⟨rfl,fun ρ w ys hρ hice hv=>?_⟩
 generalize unP bs=s at *
 subst hbs
 by_cases h0:0 < s.posted.length
 ·exact uL8 hH h0 hρ hice hv
 ·have hr:=uL7 hH (List.eq_nil_of_length_eq_zero (by omega))
  unfold zB3 at hr
  obtain⟨r,m1,hfr,hcall⟩:=zZ0 uQ6 mix vH0 (zG6 _) hr
  refine (hcall (S:=fun _=>False) (ice0:=ρ) (w0:=w) (ρ:=ρ) (fun q x hq=>by rw [hρ] at hq;cases hq) hv
   (fun a ht=>⟨ht,fun i B hB=>by rw [zL2] at hB;(cases hB),fun i j B C hB=>by rw [zL2] at hB;(cases hB),fun i _=>zL2 i,fun i _=>hρ i,hice,fun i B b hB=>by rw [zL2] at hB;(cases hB)⟩)
   ⟨Nat.le_refl _,fun _ _ _=>rfl,fun i B b hB=>by rw [zL2] at hB;(cases hB),Out.refl w,fun _ _ h=>h,fun _ _ h=>.inl h,fun q x hq=>by rw [hρ] at hq;cases hq⟩).mono fun e w' he=>?_
  obtain⟨ρ',v,rfl,k1,k2,k3⟩:=he
  exact⟨ρ',v,r,m1,rfl,k1,k2,k3,hfr⟩
end
end Go.Proofs.YtpccdcnjkknmkaaGreatDoor.Ev
namespace Go.Proofs.YtpccdcnjkknmkaaGreatDoor.Ev
open Go Go.Joins Go.ChangeShapes Go.WideShapes Go.RowKit Go.Deep
def iceR (w:World):Ren:=⟨fun _=>none,fun b=>match w.heap[b]? with | some (.cells c _ _)=>some c | _=>none⟩
theorem wJ6 {w:World} {a:Addr} {v:Value} (h:w.cell? a=some v):∃ c,(iceR w).ice a.block=some c/\a.spot=none/\c[a.off]?=some v:=by
 unfold World.cell? at h
 split at h
 ·rename_i c e fz hb
  split at h
  ·cases h
  ·rename_i hs
   refine⟨c,?_,?_,h⟩
   ·show (match w.heap[a.block]? with | some (.cells c _ _)=>some c | _=>none)=some c
    rw [hb]
   ·cases hsp:a.spot with
    | none=>rfl
    | some x=>rw [hsp] at hs;simp at hs
 ·cases h
theorem wL7 {b o k:Nat}:Addr.add ⟨b,o,none⟩ k=⟨b,o+k,none⟩:=by
 unfold Addr.add
 split
 ·rename_i hz;rw [hz];simp
 ·rfl
theorem qE7 {t:LTy} (hw:0 < wd t) {w:World} {a:Addr} {len cap:Nat} (hlc:len<=cap) (Q:Elem t->Prop)
  (h:∀ i,i < len->∃ x:Elem t,Q x/\∀ j,j < wd t->∃ X y,(enc t x)[j]?=some X/\w.cell? (a.add (i*wd t+j))=some y/\VR (iceR w) X y) :
  ∃ l:List (Elem t),VR (iceR w) (.fl t l) (.slice (some a) len cap)/\∀ x∈l,Q x:=by
 by_cases h0:len=0
 ·subst h0
  exact⟨[],.fle t a cap,fun x hx=>by cases hx⟩
 ·haveI:Inhabited (Elem t):=⟨(h 0 (by omega)).choose⟩
  obtain⟨X,hX⟩:=Go.Deep.choose_lt h
  obtain⟨_,y0,_,hc0,_⟩:=(hX 0 (by omega)).2 0 hw
  obtain⟨b,o,sp⟩:=a
  obtain⟨c0,hi0,hs0,_⟩:=wJ6 hc0
  have hsp:sp=none:=by
   unfold Addr.add at hs0
   split at hs0
   ·exact hs0
   ·rename_i hz
    exact absurd (by omega) hz
  subst hsp
  have hb:(iceR w).ice b=some c0:=by rw [wL7] at hi0;exact hi0
  have hcell:∀ k y,w.cell? (Addr.add ⟨b,o,none⟩ k)=some y->c0[o+k]?=some y:=fun k y hk=>by
   rw [wL7] at hk
   obtain⟨c1,hi1,_,hc1⟩:=wJ6 hk
   have:c1=c0:=Option.some.inj (hi1.symm.trans hb)
   subst this
   exact hc1
  have hlen:((List.range len).map X).length=len:=by simp
  have hnth:∀ n,n < len->nth ((List.range len).map X) n=X n:=fun n hn=>by
   rw [zF7 (by rw [hlen];exact hn)]
   simp
  refine⟨(List.range len).map X,?_,fun x hx=>?_⟩
  ·have key:VR (iceR w) (.fl t ((List.range len).map X)) (.slice (some ⟨b,o,none⟩) ((List.range len).map X).length cap):=by
    refine .fl hb ?_ (by rw [hlen];exact hlc) fun n j x y hn hx hy=>?_
    ·rw [hlen]
     obtain⟨_,y,_,hc,_⟩:=(hX (len - 1) (by omega)).2 (wd t - 1) (by omega)
     have:=(Array.getElem?_eq_some_iff.1 (hcell _ _ hc)).1
     have e:len*wd t=(len - 1)*wd t+wd t:=by
      obtain⟨k,rfl⟩:∃ k,len=k+1:=⟨len - 1,by omega⟩
      rw [Nat.succ_mul];simp
     omega
    ·rw [hlen] at hn
     rw [hnth n hn] at hx
     have hj:j < wd t:=by
      have:=(List.getElem?_eq_some_iff.1 hx).1
      rw [zF8] at this
      exact this
     obtain⟨X',y',e1,e2,e3⟩:=(hX n hn).2 j hj
     rw [hx] at e1
     cases e1
     have:=hcell _ _ e2
     rw [<- Nat.add_assoc,hy] at this
     cases this
     exact e3
   rw [hlen] at key
   exact key
  ·simp only [List.mem_map,List.mem_range] at hx
   obtain⟨i,hi',rfl⟩:=hx
   exact (hX i hi').1
theorem qF4 {t:LTy} {w:World} {a:Addr} {i:Nat} {x:Elem t} {cs:List Value} (hv:VRs (iceR w) (enc t x) cs) (hat:∀ j,j < wd t->w.cell? ((a.add (i*wd t)).add j)=cs[j]?) :
  ∀ j,j < wd t->∃ X y,(enc t x)[j]?=some X/\w.cell? (a.add (i*wd t+j))=some y/\VR (iceR w) X y:=fun j hj=>by
 have h1:j < (enc t x).length:=by rw [zF8];exact hj
 have h2:j < cs.length:=by rw [<- hv.1];exact h1
 refine⟨(enc t x)[j],cs[j],List.getElem?_eq_getElem h1,?_,hv.2 j _ _ (List.getElem?_eq_getElem h1) (List.getElem?_eq_getElem h2)⟩
 rw [<- Go.Deep.add_add,hat j hj,List.getElem?_eq_getElem h2]
theorem wY0 {ρ:Ren} (s:ByteArray):VR ρ (tx s) (.string s):=by
 obtain⟨⟨l⟩⟩:=s
 exact .str l
section
variable {H:Type} {enc:TypeId × Value->H} {w:World} {base:Nat} {spare:Nat->Bool} {held:Bool}
set_option maxRecDepth 100000 in
theorem wP5 {n:Nat} {c:Value} {y:DataW H × List MemPlace} (hf:DataW.trod enc Tryz.prog w base spare held n 42 [c]=some y) :
  ∃ l:List bil.Li,VR (iceR w) (.fl .line l) c/\∀ x∈l,gLi x=true:=by
 rcases Go.Deep.open_slice Tryz.underlying42 hf with⟨hcs,_⟩ | ⟨a,len,cap,m,n,D,Pl,hcs,hb0,hlc,hcm,hm,hx,hi⟩
 ·simp only [List.cons.injEq,and_true] at hcs
  subst hcs
  exact⟨[],.fl0 .line,fun x hx=>by cases hx⟩
 ·simp only [List.cons.injEq,and_true] at hcs
  subst hcs
  have hC:Tryz.prog.cellsOf 240=4:=by kernel_rfl
  have hlm:len<=m:=by rw [hm];split<;>omega
  refine qE7 (t:=.line) (by decide) hlc (fun x=>gLi x=true) fun i hil=>?_
  obtain⟨cs',hc,ht⟩:=hi i (by omega)
  rw [hC] at hc
  obtain⟨_,hcl,hat⟩:=World.cells?_some hc
  obtain⟨ys,n',hn',hy,hlen,hyl,hf2⟩:=DataW.trod_struct Tryz.underlying240 ht
  match cs',hcl with
  | [c0,c1,c2,c3],_ =>
   match ys,hyl with
   | [y0,y1,y2,y3],_ =>
    have ki:Tryz.prog.cellsOf 3=1:=by kernel_rfl
    have ks:Tryz.prog.cellsOf 9=1:=by kernel_rfl
    have g0:DataW.trod enc Tryz.prog w base spare held n' 9 [c0]=some y0:=by simpa [ks] using hf2 0 _ rfl
    have g1:DataW.trod enc Tryz.prog w base spare held n' 9 [c1]=some y1:=by simpa [ks] using hf2 1 _ rfl
    have g2:DataW.trod enc Tryz.prog w base spare held n' 3 [c2]=some y2:=by simpa [ki] using hf2 2 _ rfl
    have g3:DataW.trod enc Tryz.prog w base spare held n' 3 [c3]=some y3:=by simpa [ki] using hf2 3 _ rfl
    obtain⟨b0,e0,_⟩:=DataW.trod_string Tryz.underlying9 g0
    obtain⟨b1,e1,_⟩:=DataW.trod_string Tryz.underlying9 g1
    obtain⟨b2,e2,_,w2⟩:=DataW.trod_int Tryz.underlying3 g2
    obtain⟨b3,e3,_,w3⟩:=DataW.trod_int Tryz.underlying3 g3
    simp only [List.cons.injEq,and_true] at e0 e1 e2 e3
    subst e0 e1 e2 e3
    refine⟨⟨b0,b1,b2,b3⟩,?_,qF4 (t:=.line) (x:=⟨b0,b1,b2,b3⟩) (.cons (wY0 b0) (.cons (wY0 b1) (.cons (.int .i64 b2) (.cons (.int .i64 b3) .nil)))) hat⟩
    unfold gLi
    have q2:=bd64 w2
    have q3:=bd64 w3
    rw [gI_iff.2 (show bil.I64 b2 from ⟨by omega,by omega⟩),gI_iff.2 (show bil.I64 b3 from ⟨by omega,by omega⟩)];rfl
set_option maxRecDepth 100000 in
theorem open_calls {n:Nat} {c:Value} {y:DataW H × List MemPlace} (hf:DataW.trod enc Tryz.prog w base spare held n 22 [c]=some y) :
  ∃ l:List bil.Ca,VR (iceR w) (.fl .call l) c/\∀ x∈l,gCa x=true:=by
 rcases Go.Deep.open_slice Tryz.underlying22 hf with⟨hcs,_⟩ | ⟨a,len,cap,m,n,D,Pl,hcs,hb0,hlc,hcm,hm,hx,hi⟩
 ·simp only [List.cons.injEq,and_true] at hcs
  subst hcs
  exact⟨[],.fl0 .call,fun x hx=>by cases hx⟩
 ·simp only [List.cons.injEq,and_true] at hcs
  subst hcs
  have hC:Tryz.prog.cellsOf 48=17:=by kernel_rfl
  have hlm:len<=m:=by rw [hm];split<;>omega
  refine qE7 (t:=.call) (by decide) hlc (fun x=>gCa x=true) fun i hil=>?_
  obtain⟨cs',hc,ht⟩:=hi i (by omega)
  rw [hC] at hc
  obtain⟨_,hcl,hat⟩:=World.cells?_some hc
  have ki:Tryz.prog.cellsOf 3=1:=by kernel_rfl
  have ks:Tryz.prog.cellsOf 9=1:=by kernel_rfl
  have kl:Tryz.prog.cellsOf 42=1:=by kernel_rfl
  have kd:Tryz.prog.cellsOf 39=3:=by kernel_rfl
  have kr:Tryz.prog.cellsOf 41=5:=by kernel_rfl
  have kf:Tryz.prog.cellsOf 44=2:=by kernel_rfl
  have kc:Tryz.prog.cellsOf 46=15:=by kernel_rfl
  match cs',hcl with
  | [c0,c1,c2,c3,c4,c5,c6,c7,c8,c9,c10,c11,c12,c13,c14,c15,c16],_ =>
   obtain⟨ys,n1,_,_,_,hyl,hf2⟩:=DataW.trod_struct Tryz.underlying48 ht
   match ys,hyl with
   | [y0,y1,y2],_ =>
    have g0:DataW.trod enc Tryz.prog w base spare held n1 3 [c0]=some y0:=by simpa [ki] using hf2 0 _ rfl
    have g1:DataW.trod enc Tryz.prog w base spare held n1 3 [c1]=some y1:=by simpa [ki] using hf2 1 _ rfl
    have gc:DataW.trod enc Tryz.prog w base spare held n1 46 [c2,c3,c4,c5,c6,c7,c8,c9,c10,c11,c12,c13,c14,c15,c16]=some y2:=by simpa [kc] using hf2 2 _ rfl
    obtain⟨zs,n2,_,_,_,hzl,hf3⟩:=DataW.trod_struct Tryz.underlying46 gc
    match zs,hzl with
    | [z0,z1,z2,z3,z4,z5,z6,z7],_ =>
     have g2:DataW.trod enc Tryz.prog w base spare held n2 3 [c2]=some z0:=by simpa [ki] using hf3 0 _ rfl
     have g3:DataW.trod enc Tryz.prog w base spare held n2 9 [c3]=some z1:=by simpa [ks] using hf3 1 _ rfl
     have g4:DataW.trod enc Tryz.prog w base spare held n2 3 [c4]=some z2:=by simpa [ki] using hf3 2 _ rfl
     have gr:DataW.trod enc Tryz.prog w base spare held n2 41 [c5,c6,c7,c8,c9]=some z3:=by simpa [kr] using hf3 3 _ rfl
     have gd:DataW.trod enc Tryz.prog w base spare held n2 39 [c10,c11,c12]=some z4:=by simpa [kd] using hf3 4 _ rfl
     have g13:DataW.trod enc Tryz.prog w base spare held n2 42 [c13]=some z5:=by simpa [kl] using hf3 5 _ rfl
     have gf:DataW.trod enc Tryz.prog w base spare held n2 44 [c14,c15]=some z6:=by simpa [kf] using hf3 6 _ rfl
     have g16:DataW.trod enc Tryz.prog w base spare held n2 3 [c16]=some z7:=by simpa [ki] using hf3 7 _ rfl
     obtain⟨us,n3,_,_,_,hul,hf4⟩:=DataW.trod_struct Tryz.underlying41 gr
     obtain⟨vs,n4,_,_,_,hvl,hf5⟩:=DataW.trod_struct Tryz.underlying39 gd
     obtain⟨ws,n5,_,_,_,hwl,hf6⟩:=DataW.trod_struct Tryz.underlying44 gf
     match us,hul,vs,hvl,ws,hwl with
     | [u0,u1,u2],_,[v0,v1,v2],_,[w0,w1],_ =>
      have g5:DataW.trod enc Tryz.prog w base spare held n3 9 [c5]=some u0:=by simpa [ks] using hf4 0 _ rfl
      have gd2:DataW.trod enc Tryz.prog w base spare held n3 39 [c6,c7,c8]=some u1:=by simpa [kd] using hf4 1 _ rfl
      have g9:DataW.trod enc Tryz.prog w base spare held n3 3 [c9]=some u2:=by simpa [ki] using hf4 2 _ rfl
      have g10:DataW.trod enc Tryz.prog w base spare held n4 3 [c10]=some v0:=by simpa [ki] using hf5 0 _ rfl
      have g11:DataW.trod enc Tryz.prog w base spare held n4 3 [c11]=some v1:=by simpa [ki] using hf5 1 _ rfl
      have g12:DataW.trod enc Tryz.prog w base spare held n4 3 [c12]=some v2:=by simpa [ki] using hf5 2 _ rfl
      have g14:DataW.trod enc Tryz.prog w base spare held n5 9 [c14]=some w0:=by simpa [ks] using hf6 0 _ rfl
      have g15:DataW.trod enc Tryz.prog w base spare held n5 3 [c15]=some w1:=by simpa [ki] using hf6 1 _ rfl
      obtain⟨ts,n6,_,_,_,htl,hf7⟩:=DataW.trod_struct Tryz.underlying39 gd2
      match ts,htl with
      | [t0,t1,t2],_ =>
       have g6:DataW.trod enc Tryz.prog w base spare held n6 3 [c6]=some t0:=by simpa [ki] using hf7 0 _ rfl
       have g7:DataW.trod enc Tryz.prog w base spare held n6 3 [c7]=some t1:=by simpa [ki] using hf7 1 _ rfl
       have g8:DataW.trod enc Tryz.prog w base spare held n6 3 [c8]=some t2:=by simpa [ki] using hf7 2 _ rfl
       obtain⟨b0,e0,_⟩:=DataW.trod_int Tryz.underlying3 g0
       obtain⟨b1,e1,_⟩:=DataW.trod_int Tryz.underlying3 g1
       obtain⟨b2,e2,_⟩:=DataW.trod_int Tryz.underlying3 g2
       obtain⟨b3,e3,_⟩:=DataW.trod_string Tryz.underlying9 g3
       obtain⟨b4,e4,_⟩:=DataW.trod_int Tryz.underlying3 g4
       obtain⟨b5,e5,_⟩:=DataW.trod_string Tryz.underlying9 g5
       obtain⟨b6,e6,_⟩:=DataW.trod_int Tryz.underlying3 g6
       obtain⟨b7,e7,_⟩:=DataW.trod_int Tryz.underlying3 g7
       obtain⟨b8,e8,_⟩:=DataW.trod_int Tryz.underlying3 g8
       obtain⟨b9,e9,_⟩:=DataW.trod_int Tryz.underlying3 g9
       obtain⟨b10,e10,_⟩:=DataW.trod_int Tryz.underlying3 g10
       obtain⟨b11,e11,_⟩:=DataW.trod_int Tryz.underlying3 g11
       obtain⟨b12,e12,_⟩:=DataW.trod_int Tryz.underlying3 g12
       obtain⟨b14,e14,_⟩:=DataW.trod_string Tryz.underlying9 g14
       obtain⟨b15,e15,_⟩:=DataW.trod_int Tryz.underlying3 g15
       obtain⟨b16,e16,_⟩:=DataW.trod_int Tryz.underlying3 g16
       simp only [List.cons.injEq,and_true] at e0 e1 e2 e3 e4 e5 e6 e7 e8 e9 e10 e11 e12 e14 e15 e16
       subst e0 e1 e2 e3 e4 e5 e6 e7 e8 e9 e10 e11 e12 e14 e15 e16
       obtain⟨ls,hls,hg⟩:=wP5 g13
       refine⟨⟨b0,b1,⟨b2,b3,b4,⟨b5,⟨b6,b7,b8⟩,b9⟩,⟨b10,b11,b12⟩,ls,⟨b14,b15⟩,b16⟩⟩,List.all_eq_true.2 hg,
        qF4 (t:=.call) (x:=⟨b0,b1,⟨b2,b3,b4,⟨b5,⟨b6,b7,b8⟩,b9⟩,⟨b10,b11,b12⟩,ls,⟨b14,b15⟩,b16⟩⟩)
         (.cons (.int .i64 b0) (.cons (.int .i64 b1) (.cons (.int .i64 b2) (.cons (wY0 b3) (.cons (.int .i64 b4) (.cons (wY0 b5) (.cons (.int .i64 b6) (.cons (.int .i64 b7) (.cons (.int .i64 b8) (.cons (.int .i64 b9)
         (.cons (.int .i64 b10) (.cons (.int .i64 b11) (.cons (.int .i64 b12) (.cons hls (.cons (wY0 b14) (.cons (.int .i64 b15) (.cons (.int .i64 b16) .nil))))))))))))))))) hat⟩
end
end Go.Proofs.YtpccdcnjkknmkaaGreatDoor.Ev
namespace Go.Proofs.YtpccdcnjkknmkaaGreatDoor.Ev.Aw
open Go
abbrev Told (f:Nat):={c:FnC // mkFn Tryz.prog f=some c}
set_option maxRecDepth 100000
set_option maxHeartbeats 4000000
noncomputable section
def c0:Told 5:=⟨_,by conv=>lhs;reduce⟩
def c1:Told 6:=⟨_,by conv=>lhs;reduce⟩
def c2:Told 10:=⟨_,by conv=>lhs;reduce⟩
def c3:Told 11:=⟨_,by conv=>lhs;reduce⟩
def c4:Told 12:=⟨_,by conv=>lhs;reduce⟩
def c5:Told 14:=⟨_,by conv=>lhs;reduce⟩
def c6:Told 18:=⟨_,by conv=>lhs;reduce⟩
def c7:Told 27:=⟨_,by conv=>lhs;reduce⟩
def c8:Told 28:=⟨_,by conv=>lhs;reduce⟩
def c9:Told 40:=⟨_,by conv=>lhs;reduce⟩
def c10:Told 41:=⟨_,by conv=>lhs;reduce⟩
def c11:Told 42:=⟨_,by conv=>lhs;reduce⟩
def c12:Told 43:=⟨_,by conv=>lhs;reduce⟩
def c13:Told 44:=⟨_,by conv=>lhs;reduce⟩
def c14:Told 45:=⟨(⟨_,by conv=>lhs;reduce⟩:GOf (gFn Tryz.prog 45)).1,by kernel_rfl⟩
def c15:Told 46:=⟨_,by conv=>lhs;reduce⟩
def c16:Told 47:=⟨_,by conv=>lhs;reduce⟩
def c17:Told 48:=⟨(⟨_,by conv=>lhs;reduce⟩:GOf (gFn Tryz.prog 48)).1,by kernel_rfl⟩
def c18:Told 49:=⟨_,by conv=>lhs;reduce⟩
def c19:Told 50:=⟨(⟨_,by conv=>lhs;reduce⟩:GOf (gFn Tryz.prog 50)).1,by kernel_rfl⟩
def c20:Told 51:=⟨_,by conv=>lhs;reduce⟩
def c21:Told 63:=⟨_,by conv=>lhs;reduce⟩
def c22:Told 77:=⟨_,by conv=>lhs;reduce⟩
def c23:Told 78:=⟨_,by conv=>lhs;reduce⟩
def c24:Told 81:=⟨_,by conv=>lhs;reduce⟩
def c25:Told 82:=⟨_,by conv=>lhs;reduce⟩
def c26:Told 83:=⟨_,by conv=>lhs;reduce⟩
def c27:Told 84:=⟨_,by conv=>lhs;reduce⟩
def c28:Told 85:=⟨_,by conv=>lhs;reduce⟩
def c29:Told 86:=⟨_,by conv=>lhs;reduce⟩
def c30:Told 87:=⟨_,by conv=>lhs;reduce⟩
def c31:Told 88:=⟨_,by conv=>lhs;reduce⟩
def c32:Told 97:=⟨_,by conv=>lhs;reduce⟩
def c33:Told 98:=⟨_,by conv=>lhs;reduce⟩
def c34:Told 118:=⟨_,by conv=>lhs;reduce⟩
def c35:Told 120:=⟨_,by conv=>lhs;reduce⟩
def c36:Told 121:=⟨_,by conv=>lhs;reduce⟩
def c37:Told 122:=⟨_,by conv=>lhs;reduce⟩
def c38:Told 128:=⟨_,by conv=>lhs;reduce⟩
def c39:Told 152:=⟨_,by conv=>lhs;reduce⟩
def c40:Told 153:=⟨_,by conv=>lhs;reduce⟩
def c41:Told 154:=⟨_,by conv=>lhs;reduce⟩
def c42:Told 155:=⟨_,by conv=>lhs;reduce⟩
def c43:Told 156:=⟨_,by conv=>lhs;reduce⟩
def c44:Told 157:=⟨_,by conv=>lhs;reduce⟩
def c45:Told 162:=⟨_,by conv=>lhs;reduce⟩
def c46:Told 163:=⟨_,by conv=>lhs;reduce⟩
def c47:Told 164:=⟨_,by conv=>lhs;reduce⟩
def c48:Told 165:=⟨_,by conv=>lhs;reduce⟩
def c49:Told 181:=⟨_,by conv=>lhs;reduce⟩
def c50:Told 182:=⟨_,by conv=>lhs;reduce⟩
def c51:Told 185:=⟨_,by conv=>lhs;reduce⟩
def c52:Told 186:=⟨_,by conv=>lhs;reduce⟩
def c53:Told 187:=⟨_,by conv=>lhs;reduce⟩
def c54:Told 188:=⟨_,by conv=>lhs;reduce⟩
def c55:Told 190:=⟨_,by conv=>lhs;reduce⟩
def c56:Told 192:=⟨_,by conv=>lhs;reduce⟩
def c57:Told 193:=⟨_,by conv=>lhs;reduce⟩
def c58:Told 194:=⟨_,by conv=>lhs;reduce⟩
def c59:Told 195:=⟨_,by conv=>lhs;reduce⟩
def c60:Told 196:=⟨_,by conv=>lhs;reduce⟩
def c61:Told 212:=⟨_,by conv=>lhs;reduce⟩
def c62:Told 213:=⟨_,by conv=>lhs;reduce⟩
def c63:Told 215:=⟨_,by conv=>lhs;reduce⟩
def c64:Told 216:=⟨_,by conv=>lhs;reduce⟩
def c65:Told 217:=⟨_,by conv=>lhs;reduce⟩
def c66:Told 219:=⟨_,by conv=>lhs;reduce⟩
def c67:Told 223:=⟨_,by conv=>lhs;reduce⟩
def c68:Told 224:=⟨_,by conv=>lhs;reduce⟩
def c69:Told 233:=⟨_,by conv=>lhs;reduce⟩
def c70:Told 235:=⟨_,by conv=>lhs;reduce⟩
def c71:Told 236:=⟨_,by conv=>lhs;reduce⟩
def c72:Told 237:=⟨_,by conv=>lhs;reduce⟩
def c73:Told 238:=⟨_,by conv=>lhs;reduce⟩
def c74:Told 239:=⟨_,by conv=>lhs;reduce⟩
def c75:Told 240:=⟨_,by conv=>lhs;reduce⟩
def c76:Told 241:=⟨_,by conv=>lhs;reduce⟩
def c77:Told 242:=⟨_,by conv=>lhs;reduce⟩
def c78:Told 243:=⟨_,by conv=>lhs;reduce⟩
def c79:Told 244:=⟨_,by conv=>lhs;reduce⟩
def c80:Told 245:=⟨_,by conv=>lhs;reduce⟩
def c81:Told 247:=⟨_,by conv=>lhs;reduce⟩
def c82:Told 254:=⟨_,by conv=>lhs;reduce⟩
def c83:Told 255:=⟨_,by conv=>lhs;reduce⟩
def c84:Told 256:=⟨_,by conv=>lhs;reduce⟩
def c85:Told 257:=⟨_,by conv=>lhs;reduce⟩
def c86:Told 259:=⟨_,by conv=>lhs;reduce⟩
def c87:Told 260:=⟨_,by conv=>lhs;reduce⟩
def c88:Told 261:=⟨_,by conv=>lhs;reduce⟩
def c89:Told 263:=⟨_,by conv=>lhs;reduce⟩
def c90:Told 266:=⟨_,by conv=>lhs;reduce⟩
def c91:Told 267:=⟨_,by conv=>lhs;reduce⟩
def c92:Told 268:=⟨_,by conv=>lhs;reduce⟩
def c93:Told 269:=⟨_,by conv=>lhs;reduce⟩
def c94:Told 271:=⟨_,by conv=>lhs;reduce⟩
def c95:Told 272:=⟨_,by conv=>lhs;reduce⟩
def c96:Told 276:=⟨_,by conv=>lhs;reduce⟩
def c97:Told 278:=⟨(⟨_,by conv=>lhs;reduce⟩:GOf (gFn Tryz.prog 278)).1,by kernel_rfl⟩
def c98:Told 279:=⟨_,by conv=>lhs;reduce⟩
def c99:Told 280:=⟨_,by conv=>lhs;reduce⟩
def c100:Told 281:=⟨_,by conv=>lhs;reduce⟩
def c101:Told 282:=⟨_,by conv=>lhs;reduce⟩
def c102:Told 283:=⟨_,by conv=>lhs;reduce⟩
def c103:Told 284:=⟨_,by conv=>lhs;reduce⟩
def c104:Told 285:=⟨_,by conv=>lhs;reduce⟩
def c105:Told 286:=⟨_,by conv=>lhs;reduce⟩
def c106:Told 287:=⟨_,by conv=>lhs;reduce⟩
def c107:Told 288:=⟨_,by conv=>lhs;reduce⟩
def c108:Told 295:=⟨_,by conv=>lhs;reduce⟩
def c109:Told 296:=⟨_,by conv=>lhs;reduce⟩
def c110:Told 297:=⟨_,by conv=>lhs;reduce⟩
def c111:Told 298:=⟨_,by conv=>lhs;reduce⟩
def c112:Told 299:=⟨_,by conv=>lhs;reduce⟩
def c113:Told 300:=⟨_,by conv=>lhs;reduce⟩
def c114:Told 301:=⟨(⟨_,by conv=>lhs;reduce⟩:GOf (gFn Tryz.prog 301)).1,by kernel_rfl⟩
def c115:Told 302:=⟨_,by conv=>lhs;reduce⟩
def c116:Told 303:=⟨_,by conv=>lhs;reduce⟩
def c117:Told 304:=⟨_,by conv=>lhs;reduce⟩
def c118:Told 305:=⟨_,by conv=>lhs;reduce⟩
def c119:Told 307:=⟨_,by conv=>lhs;reduce⟩
def c120:Told 308:=⟨_,by conv=>lhs;reduce⟩
def c121:Told 309:=⟨(⟨_,by conv=>lhs;reduce⟩:GOf (gFn Tryz.prog 309)).1,by kernel_rfl⟩
def c122:Told 310:=⟨_,by conv=>lhs;reduce⟩
def c123:Told 311:=⟨_,by conv=>lhs;reduce⟩
def c124:Told 313:=⟨_,by conv=>lhs;reduce⟩
def c125:Told 317:=⟨_,by conv=>lhs;reduce⟩
def c126:Told 321:=⟨_,by conv=>lhs;reduce⟩
def c127:Told 322:=⟨_,by conv=>lhs;reduce⟩
def c128:Told 323:=⟨_,by conv=>lhs;reduce⟩
def c129:Told 358:=⟨_,by conv=>lhs;reduce⟩
def tabL:List ((f:Nat) × Told f):=[⟨_,c0⟩,⟨_,c1⟩,⟨_,c2⟩,⟨_,c3⟩,⟨_,c4⟩,⟨_,c5⟩,⟨_,c6⟩,⟨_,c7⟩,⟨_,c8⟩,⟨_,c9⟩,⟨_,c10⟩,⟨_,c11⟩,⟨_,c12⟩,⟨_,c13⟩,⟨_,c14⟩,⟨_,c15⟩,⟨_,c16⟩,⟨_,c17⟩,⟨_,c18⟩,⟨_,c19⟩,⟨_,c20⟩,⟨_,c21⟩,⟨_,c22⟩,⟨_,c23⟩,⟨_,c24⟩,⟨_,c25⟩,⟨_,c26⟩,⟨_,c27⟩,⟨_,c28⟩,⟨_,c29⟩,⟨_,c30⟩,⟨_,c31⟩,⟨_,c32⟩,⟨_,c33⟩,⟨_,c34⟩,⟨_,c35⟩,⟨_,c36⟩,⟨_,c37⟩,⟨_,c38⟩,⟨_,c39⟩,⟨_,c40⟩,⟨_,c41⟩,⟨_,c42⟩,⟨_,c43⟩,⟨_,c44⟩,⟨_,c45⟩,⟨_,c46⟩,⟨_,c47⟩,⟨_,c48⟩,⟨_,c49⟩,⟨_,c50⟩,⟨_,c51⟩,⟨_,c52⟩,⟨_,c53⟩,⟨_,c54⟩,⟨_,c55⟩,⟨_,c56⟩,⟨_,c57⟩,⟨_,c58⟩,⟨_,c59⟩,⟨_,c60⟩,⟨_,c61⟩,⟨_,c62⟩,⟨_,c63⟩,⟨_,c64⟩,⟨_,c65⟩,⟨_,c66⟩,⟨_,c67⟩,⟨_,c68⟩,⟨_,c69⟩,⟨_,c70⟩,⟨_,c71⟩,⟨_,c72⟩,⟨_,c73⟩,⟨_,c74⟩,⟨_,c75⟩,⟨_,c76⟩,⟨_,c77⟩,⟨_,c78⟩,⟨_,c79⟩,⟨_,c80⟩,⟨_,c81⟩,⟨_,c82⟩,⟨_,c83⟩,⟨_,c84⟩,⟨_,c85⟩,⟨_,c86⟩,⟨_,c87⟩,⟨_,c88⟩,⟨_,c89⟩,⟨_,c90⟩,⟨_,c91⟩,⟨_,c92⟩,⟨_,c93⟩,⟨_,c94⟩,⟨_,c95⟩,⟨_,c96⟩,⟨_,c97⟩,⟨_,c98⟩,⟨_,c99⟩,⟨_,c100⟩,⟨_,c101⟩,⟨_,c102⟩,⟨_,c103⟩,⟨_,c104⟩,⟨_,c105⟩,⟨_,c106⟩,⟨_,c107⟩,⟨_,c108⟩,⟨_,c109⟩,⟨_,c110⟩,⟨_,c111⟩,⟨_,c112⟩,⟨_,c113⟩,⟨_,c114⟩,⟨_,c115⟩,⟨_,c116⟩,⟨_,c117⟩,⟨_,c118⟩,⟨_,c119⟩,⟨_,c120⟩,⟨_,c121⟩,⟨_,c122⟩,⟨_,c123⟩,⟨_,c124⟩,⟨_,c125⟩,⟨_,c126⟩,⟨_,c127⟩,⟨_,c128⟩,⟨_,c129⟩]
def tabT:T FnC:=mkT (tabL.map fun x=>(x.1,x.2.1))
end
theorem uV5:∀ p∈tabL.map fun x=>(x.1,x.2.1),FnOk Tryz.prog p.1 p.2:=by
 intro p hp
 obtain⟨x,_,rfl⟩:=List.mem_map.1 hp
 exact qB5 x.2.2
theorem mixed:Tryz.prog.follows .mixedOrders=true:=by kernel_rfl
end Go.Proofs.YtpccdcnjkknmkaaGreatDoor.Ev.Aw
