/- Texts of this proof, put together by program; each has its own remark. -/
import Derived.Test.YtpccdcnjkknmkaaGreatDoorCards
import Derived.Test.YtpccdcnjkknmkaaGreatDoorTie
import Derived.WalkKit
import Derived.ProofKit
import Derived.OpenShut
import Derived.Deep.DeepHandedRow
import Derived.Lib.LaidTab
import Derived.Test.YtpccdcnjkknmkaaGreatDoorM1
import Derived.Test.YtpccdcnjkknmkaaGreatDoorM6
import Derived.Test.YtpccdcnjkknmkaaGreatDoorM7

namespace Go.Proofs.YtpccdcnjkknmkaaGreatDoor.Ev
open Go
noncomputable section
def qK4:List AV->Option (Bool × AV)
 | []=>some (true,.bool true)
 | _=>none
def c130:ClS:=addG 10 qK4 c129
theorem qL7:zA1 Tryz.prog c130:=zS3 qL8 Tryz.func10 (by kernel_rfl) (by kernel_rfl) qK4 fun xs r h ρ w ys hice hv=>by
 unfold qK4 at h
 split at h<;>first | (cases h;done) | skip
 cases h
 have h0:=hv.nil_inv
 subst h0
 exact (Aw.awake w).mono fun e w' he=>⟨_,he.1,.bool true,he.2⟩
def lpL (F F':Nat) (s s':bil.St) (l:List bil.Ca) (t:List Int) (n:Int):Option AV:=zC7 (evS c130 F qX7) qS2 0 F' (stL [(q0,.fl .call l),(q1,.fl .int t),(q5,.ptr 0 0),(q6,.ptr 1 0),(q7,i64 n)])
 ⟨.node (.node .nil (some ⟨.raw (cSt s'),1,false⟩) .nil) (some ⟨.raw (cSt s),1,false⟩) .nil,2,3,3⟩ (qS8 c130 F fun r m=>frzK m .any r some)
def nInt (t:List Int) (n:Nat):Int:=nth (t:=.int) t n
def dfR (r:bil.Rp):Bool:=bif true then !(eqI r.why r.why&&(eqI r.number r.number&&(eqI r.gross r.gross&&true))) else (eqI r.why r.why&&(eqI r.number r.number&&(eqI r.gross r.gross&&true)))
theorem uU4 (F:Nat) (l:List bil.Ca) (t:List Int):zB3 c130 F s_law .any [.fl .call l,.fl .int t] some=lpL F F ⟨[],[],[],[],[],1⟩ ⟨[],[],[],[],[],1⟩ (fewL l 50) t (.ofNat 0):=by kernel_rfl
theorem xI3 (F F' n:Nat) (s:bil.St) (l:List bil.Ca) (t:List Int):lpL F (Nat.succ F') s s l t (.ofNat n) =
 bif ltI (.ofNat n) (.ofNat l.length) then bif inI (.ofNat n) l.length then bif gSt s&&gCa (nC l n) then bif inI (.ofNat n) l.length then bif gSt s&&gCa (nC l n) then bif dfR (apF s (nC l n)).2 then some (.bool false) else
  bif ltI (.ofNat n) (.ofNat t.length) then bif inI (.ofNat n) t.length then bif eqI ((nInt t n).tmod 2) 0 then
   bif gSt (apF s (nC l n)).1&&gPut (apF s (nC l n)).1 then bif gUn (putB (apF s (nC l n)).1) then lpL F F' (apF s (nC l n)).1 (unP (putB (apF s (nC l n)).1)) l t (zA3 .i64 (.ofNat n+1)) else none else none
   else lpL F F' (apF s (nC l n)).1 (apF s (nC l n)).1 l t (zA3 .i64 (.ofNat n+1)) else none
  else lpL F F' (apF s (nC l n)).1 (apF s (nC l n)).1 l t (zA3 .i64 (.ofNat n+1)) else none else none else none else none
 else bif gSt s&&@decide (s=s) (Classical.propDecidable _) then some (.bool true) else none:=by kernel_rfl
theorem wH6 (F:Nat) (l:List bil.Ca) (t:List Int) (hl:l.length < 1000000) (hg:l.all gCa=true):∀ (u:List bil.Ca) (n f:Nat) (s:bil.St),l.drop n=u->n<=l.length->u.length < f->StH s->lpL F f s s l t (.ofNat n)=some (.bool true)
 | u,n,0,s,_,_,hf,_=>by omega
 | [],n,f+1,s,hd,hn,hf,hH=>by
  rw [xI3,drop_nil hd hn,zB6 (Nat.le_refl _),cond_false,yV0 hH.1,decC rfl]
  rfl
 | x::u,n,f+1,s,hd,hn,hf,hH=>by
  obtain⟨h1,h2,h3⟩:=zA5 (t:=.call) hd
  have h2':nC l n=x:=h2
  have hx:=List.all_eq_true.1 hg x (List.mem_of_mem_drop (by rw [hd];exact List.mem_cons_self))
  have hH2:=(apF_H (a:=x) hH).1
  have ih:=wH6 F l t hl hg u (n+1) f (apF s x).1 h3 (by omega) (by simp at hf;omega) hH2
  have hput:=(vD8 hH2).1
  have hun:gUn (putB (apF s x).1)=true:=by
   unfold gUn
   rw [wY4 hH2]
   exact @decide_eq_true _ (Classical.propDecidable _) ⟨hH2,rfl⟩
  have hdf:dfR (apF s x).2=false:=by
   unfold dfR
   rw [zD3,zD3,zD3]
   rfl
  rw [xI3,zB4 h1,cond_true,zA9 h1,cond_true,h2',yV0 hH.1,hx,Bool.and_self,cond_true,cond_true,cond_true,hdf,cond_false,yV0 hH2.1,hput,hun,wY4 hH2,zA2 (by omega),ih,Bool.and_self,cond_true,cond_true]
  by_cases ht:n < t.length
  ·rw [zB4 ht,cond_true,zA9 ht,cond_true]
   cases eqI ((nInt t n).tmod 2) 0<;>rfl
  ·rw [zB6 (by omega),cond_false]
theorem qE9 {l:List bil.Ca} {k:Nat} (h:l.all gCa=true):(fewL l k).all gCa=true:=by
 rw [List.all_eq_true] at h ⊢
 intro x hx
 unfold fewL at hx
 obtain⟨y,hy,rfl⟩:=List.mem_map.1 hx
 have:=h y (List.mem_of_mem_take hy)
 unfold gCa fewC at *
 simp only
 rw [List.all_eq_true] at this ⊢
 exact fun z hz=>this z (List.mem_of_mem_take hz)
theorem qE8 (l:List bil.Ca) (k:Nat):(fewL l k).length<=k:=by
 unfold fewL
 rw [List.length_map,List.length_take]
 omega
theorem uX2 (l:List bil.Ca) (t:List Int) (h:l.all gCa=true):zB3 c130 1000 s_law .any [.fl .call l,.fl .int t] some=some (.bool true):=by
 have hn:=qE8 l 50
 rw [uU4]
 exact wH6 1000 _ t (by omega) (qE9 h) (fewL l 50) 0 1000 _ rfl (Nat.zero_le _) (by omega) new_H
def uQ1:List AV->Option (Bool × AV)
 | [.fl .call l,.fl .int _]=>some (l.all gCa,.bool true)
 | _=>none
def c131:ClS:=addG 3 uQ1 c130
theorem qL6:zA1 Tryz.prog c131:=zC2 qL7 mix qQ2 .any uQ1 fun xs r h=>by
 unfold uQ1 at h
 split at h<;>first | (cases h;done) | skip
 obtain⟨hg,rfl⟩:=Prod.mk.inj (Option.some.inj h)
 exact⟨rfl,_,uX2 _ _ hg⟩
theorem law_ext (w:World) (l:List bil.Ca) (t:List Int) (v u:Value) (hv:VR (iceR w) (.fl .call l) v) (hu:VR (iceR w) (.fl .int t) u) (hg:∀ x∈l,gCa x=true) :
  Calls Tryz.prog 3 #[v,u] w fun e w'=>e=.returned (.bool true)/\Ext w w':=by
 have hG:uQ1 [.fl .call l,.fl .int t]=some (true,.bool true):=by
  show some (l.all gCa,_)=_
  rw [List.all_eq_true.2 hg]
 have hone:erC c131 3 [.fl .call l,.fl .int t] m0=some (.bool true,m0):=by
  unfold c131 erC addG addO addA
  rw [Nat.beq_refl,cond_true]
  simp only [hG]
  rfl
 obtain⟨_,_,hc⟩:=qL6 _ _ _ _ _ hone
 have hat:∀ i,m0.at i=none:=fun i=>T.get_nil _
 refine (hc (iceR w) w m0.tch m0.nx [v,u] (fun _ h=>h) (Nat.le_refl _) (.cons hv (.cons hu .nil)) ⟨fun i B _ hB=>?_,fun i j B C _ _ hB=>?_,fun i _=>hat i,fun _ _ _=>rfl,fun b c hb=>?_,fun i B b _ hB=>?_⟩).mono fun e w' he=>?_
 ·rw [hat] at hB;cases hB
 ·rw [hat] at hB;cases hB
 ·unfold iceR at hb
  simp only at hb
  split at hb
  ·rename_i c' e fz h
   cases hb
   exact⟨e,fz,h⟩
  ·cases hb
 ·rw [hat] at hB;cases hB
 ·obtain⟨ρ',v,rfl,h1,h2,h3⟩:=he
  cases h1
  refine⟨rfl,h3.outer.1,h3.outer.2.1,h3.outer.2.2,h3.size,fun k hk=>h3.frame k hk fun j B _ hB=>?_⟩
  rw [hat] at hB;cases hB
section
variable {H:Type} {enc:TypeId × Value->H} {w:World} {base:Nat} {spare:Nat->Bool} {held:Bool}
open Go.Joins Go.ChangeShapes Go.WideShapes Go.RowKit Go.Deep
set_option maxRecDepth 100000 in
theorem open_nums {n:Nat} {c:Value} {y:DataW H × List MemPlace} (hf:DataW.trod enc Tryz.prog w base spare held n 23 [c]=some y) :
  ∃ l:List Int,VR (iceR w) (.fl .int l) c:=by
 rcases Go.Deep.open_slice Tryz.underlying23 hf with⟨hcs,_⟩ | ⟨a,len,cap,m,n,D,Pl,hcs,hb0,hlc,hcm,hm,hx,hi⟩
 ·simp only [List.cons.injEq,and_true] at hcs
  subst hcs
  exact⟨[],.fl0 .int⟩
 ·simp only [List.cons.injEq,and_true] at hcs
  subst hcs
  have hC:Tryz.prog.cellsOf 3=1:=by kernel_rfl
  have hlm:len<=m:=by rw [hm];split<;>omega
  have:=qE7 (t:=.int) (w:=w) (a:=a) (len:=len) (cap:=cap) (by decide) hlc (fun _=>True) fun i hil=>?_
  ·obtain⟨l,h1,_⟩:=this
   exact⟨l,h1⟩
  ·obtain⟨cs',hc,ht⟩:=hi i (by omega)
   rw [hC] at hc
   obtain⟨_,hcl,hat⟩:=World.cells?_some hc
   match cs',hcl with
   | [c0],_ =>
    obtain⟨b0,e0,_⟩:=DataW.trod_int Tryz.underlying3 ht
    simp only [List.cons.injEq,and_true] at e0
    subst e0
    exact⟨b0,trivial,qF4 (t:=.int) (x:=b0) (.cons (.int .i64 b0) .nil) hat⟩
end
end
end Go.Proofs.YtpccdcnjkknmkaaGreatDoor.Ev
namespace Go.Proofs.YtpccdcnjkknmkaaGreatDoor.topImages
open Go.ChangeShapes Go.WideShapes Go.ChangeAt Go.RowKit
theorem own:ownKnob Tryz.prog.godebug=none:=by kernel_rfl
set_option maxRecDepth 100000 in
theorem uN3 (H:Type) (enc:TypeId × Value->H) (W:World) (base:Nat) (args:Array Value) (ds gs:List (DataW H)) (before:List MemPlace)
  (hval0:∀ (j:Nat) t v,Tryz.f3.params[j]?=some t->args[j]?=some v->Value.okWide Tryz.prog W .any base t v)
  (hW:DataW.Whole enc Tryz.prog Tryz.f3.params.toList Rows.topImagesSpec.vars false W args.toList ds gs before) :
  Calls Tryz.prog 3 args W fun e W'=>∃ v,e=.returned v/\Rows.topImagesSpec.post enc Tryz.prog Tryz.f3 false true false false W args v W':=by
 have hval:∀ (j:Nat) t v,Tryz.f3.params[j]?=some t->args[j]?=some v->Value.okWide Tryz.prog W .any base t v:=hval0
 have hW':=hW
 obtain⟨p,q,hA0,hV,rfl,hfz,hnd⟩:=hW
 have hA:DataW.TrodAll enc Tryz.prog W 0 (fun _=>true) true Tryz.f3.params.toList args.toList ds p:=hA0
 rw [Tryz.params3] at hA hval
 obtain⟨rfl,rfl⟩:=trodVars_none hV
 obtain⟨v0,vs0,d0,ds0,p0,q0,hargs,rfl,rfl,h0,r0⟩:=trodAll_cons hA
 obtain⟨v1,vs1,d1,ds1,p1,q1,rfl,rfl,rfl,h1,r1⟩:=trodAll_cons r0
 obtain⟨rfl,rfl,rfl⟩:=trodAll_nil r1
 obtain rfl:args=#[v0,v1]:=by cases args;simp_all
 obtain⟨a0,len0,cap0,rfl⟩:=okWide_slice Tryz.underlying22 (hval 0 22 v0 rfl rfl)
 obtain⟨fuel0,hf0⟩:=h0
 obtain⟨l,hv,hg⟩:=Ev.open_calls hf0
 obtain⟨a1,len1,cap1,rfl⟩:=okWide_slice Tryz.underlying23 (hval 1 23 v1 rfl rfl)
 obtain⟨fuel1,hf1⟩:=h1
 obtain⟨l1,hu⟩:=Ev.open_nums hf1
 refine (Ev.law_ext W l l1 _ _ hv hu hg).mono fun e W' ⟨he,hb⟩=>?_
 subst he
 exact⟨_,rfl,qC3 Tryz.laidOut (by kernel_rfl) rfl hW' hb rfl Tryz.underlying4 rfl rfl rfl⟩
def qC4 (c:Array Value):Obj->Obj
 | .cells _ t frozen=>.cells c t frozen
 | o=>o
noncomputable def yL9 (os:Os):World :=
 { World.holding Tryz.prog os ⟨#[],#[],[]⟩ with heap:=(((World.holding Tryz.prog os ⟨#[],#[],[]⟩).heap.modify 0 (qC4 #[.int .u64 1,.int .u64 10,.int .u64 100,.int .u64 1000,.int .u64 10000,.int .u64 100000,.int .u64 1000000,.int .u64 10000000,.int .u64 100000000,.int .u64 1000000000,.int .u64 10000000000,.int .u64 100000000000,.int .u64 1000000000000,.int .u64 10000000000000,.int .u64 100000000000000,.int .u64 1000000000000000,.int .u64 10000000000000000,.int .u64 100000000000000000,.int .u64 1000000000000000000,.int .u64 10000000000000000000])).modify 1 (qC4 #[.int .u8 0,.int .u8 1,.int .u8 28,.int .u8 2,.int .u8 29,.int .u8 14,.int .u8 24,.int .u8 3,.int .u8 30,.int .u8 22,.int .u8 20,.int .u8 15,.int .u8 25,.int .u8 17,.int .u8 4,.int .u8 8,.int .u8 31,.int .u8 27,.int .u8 13,.int .u8 23,.int .u8 21,.int .u8 19,.int .u8 16,.int .u8 7,.int .u8 26,.int .u8 12,.int .u8 18,.int .u8 6,.int .u8 11,.int .u8 5,.int .u8 10,.int .u8 9])).modify 2 (qC4 #[.int .u8 0,.int .u8 1,.int .u8 56,.int .u8 2,.int .u8 57,.int .u8 49,.int .u8 28,.int .u8 3,.int .u8 61,.int .u8 58,.int .u8 42,.int .u8 50,.int .u8 38,.int .u8 29,.int .u8 17,.int .u8 4,.int .u8 62,.int .u8 47,.int .u8 59,.int .u8 36,.int .u8 45,.int .u8 43,.int .u8 51,.int .u8 22,.int .u8 53,.int .u8 39,.int .u8 33,.int .u8 30,.int .u8 24,.int .u8 18,.int .u8 12,.int .u8 5,.int .u8 63,.int .u8 55,.int .u8 48,.int .u8 27,.int .u8 60,.int .u8 41,.int .u8 37,.int .u8 16,.int .u8 46,.int .u8 35,.int .u8 44,.int .u8 21,.int .u8 52,.int .u8 32,.int .u8 23,.int .u8 11,.int .u8 54,.int .u8 26,.int .u8 40,.int .u8 15,.int .u8 34,.int .u8 20,.int .u8 31,.int .u8 10,.int .u8 25,.int .u8 14,.int .u8 19,.int .u8 9,.int .u8 13,.int .u8 8,.int .u8 7,.int .u8 6]) }
def wit:Array Value:=#[.slice none 0 0,.slice none 0 0]
theorem uI3 (os:Os):laidMet Tryz.prog Rows.topImagesRow.laid ((yL9 os).forCall (fun _ _=>0) ⟨#[],wit,[]⟩).memory :=
 laidMet_of_run' 8 (by kernel_rfl) (by kernel_rfl)
theorem reads (os:Os) {H:Type} (enc:TypeId × Value->H):∃ places,DataW.whole enc Tryz.prog ((yL9 os).forCall (fun _ _=>0) ⟨#[],wit,[]⟩).memory Tryz.f3.params.toList Rows.topImagesSpec.vars false wit.toList 8=some ([.nil,.nil],[],places) :=
 ⟨[],by kernel_rfl⟩
set_option maxRecDepth 100000 in
theorem lifted (os:Os) (started:os.Started) (H:Type) (enc:TypeId × Value->H) (F:Stop.Interp) :
  ReturnsInHanded {} Tryz.checked os 3 .any ((OpenSpec.ofChange Rows.topImagesSpec).preRow enc Tryz.prog Tryz.f3 Rows.topImagesRow.domain false Rows.topImagesRow.laid) (((OpenSpec.ofChange Rows.topImagesSpec).at F).post enc Tryz.prog Tryz.f3 false true false false):=by
 obtain⟨places,hx⟩:=reads os enc
 refine returnsInHanded_of_row (C:=Tryz.checked) (s:=OpenSpec.ofChange Rows.topImagesSpec) own started (by kernel_rfl) Tryz.func3
  (witness_row_at (enc:=enc) (C:=Tryz.checked) false (yL9 os) wit rfl (by kernel_rfl) (by kernel_rfl) (by kernel_rfl)
   (OpenSpec.preRow_of_cond 8 hx (by kernel_rfl) (fun k hk=>by cases hk) (by kernel_rfl) (uI3 os))) ?_
 intro W base args ds gs before hval hW _ _ _ hL _ _
 exact uN3 H enc W base args ds gs before hval hW
end Go.Proofs.YtpccdcnjkknmkaaGreatDoor.topImages
