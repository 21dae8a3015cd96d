/- Texts of this proof, put together by program; each has its own remark. -/
import Derived.Test.YtbknmeafcbhicaaGreatDoorCards
import Derived.Test.YtbknmeafcbhicaaGreatDoorTie
import Derived.WalkKit
import Derived.ProofKit
import Derived.OpenShut
import Derived.Deep.DeepHandedRow
import Derived.Lib.LaidTab
import Derived.Test.YtbknmeafcbhicaaGreatDoorM1
import Derived.Test.YtbknmeafcbhicaaGreatDoorM5
import Derived.Test.YtbknmeafcbhicaaGreatDoorM7

/- The law runs, at all calls that came in. -/
namespace Go.Proofs.YtbknmeafcbhicaaGreatDoor.Ev
open Go
noncomputable section
theorem snd88:SoundS Tryz.prog c88:=add_hand snd87 Tryz.func8 (by kernel_rfl) (by kernel_rfl) G_awk fun xs r h ρ w ys hice hv=>by
 unfold G_awk at h
 split at h<;>first | (cases h;done) | skip
 cases h
 have h0:=hv.nil_inv
 subst h0
 exact (Aw.awake w).mono fun e w' he=>⟨_,he.1,.bool true,he.2⟩
theorem snd89:SoundS Tryz.prog c89:=add_move snd76b snd88
def G_expired:List AV→Option (Bool × AV)
 | [.fl .call l,.int .i64 id]=>some (l.all gCa,.bool true)
 | _=>none
def c90:ClS:=addG 3 G_expired c89
theorem snd90:SoundS Tryz.prog c90:=add_gn snd89 mix ok_expired .any G_expired fun xs r h=>by
 unfold G_expired at h
 split at h<;>first | (cases h;done) | skip
 obtain⟨hg,rfl⟩:=Prod.mk.inj (Option.some.inj h)
 exact⟨rfl,_,run_expired _ _ hg⟩
theorem law_ext (w:World) (l:List bil.Ca) (id:Int) (v:Value) (hv:VR (iceR w) (.fl .call l) v) (hg:∀ x∈l,gCa x=true) :
  Calls Tryz.prog 3 #[v,.int .i64 id] w fun e w'=>e=.returned (.bool true)∧Ext w w':=by
 have hG:G_expired [.fl .call l,.int .i64 id]=some (true,.bool true):=by
  show some (l.all gCa,_)=_
  rw [List.all_eq_true.2 hg]
 obtain⟨_,_,hc⟩:=snd90 _ _ _ _ _ (addG_to (f:=3) (cl:=c89) (m:=m0) hG)
 have hat:∀ i,m0.at i=none:=fun i=>T.get_nil _
 refine (hc (iceR w) w m0.tch m0.nx [v,.int .i64 id] (fun _ h=>h) (Nat.le_refl _) (.cons hv (.cons (.int .i64 id) .nil)) ⟨fun i B _ hB=>?_,fun i j B C _ _ hB=>?_,fun i _=>hat i,fun _ _ _=>rfl,fun b c hb=>?_,fun i B b _ hB=>?_⟩).mono fun e w' he=>?_
 ·rw [hat] at hB;cases hB
 ·rw [hat] at hB;cases hB
 ·unfold iceR at hb
  simp only at hb
  split at hb
  ·rename_i c' e fz h
   cases hb
   exact⟨e,fz,h⟩
  ·cases hb
 ·rw [hat] at hB;cases hB
 ·obtain⟨ρ',v,rfl,h1,h2,h3⟩:=he
  cases h1
  refine⟨rfl,h3.outer.1,h3.outer.2.1,h3.outer.2.2,h3.size,fun k hk=>h3.frame k hk fun j B _ hB=>?_⟩
  rw [hat] at hB;cases hB
end
end Go.Proofs.YtbknmeafcbhicaaGreatDoor.Ev

/- The law TopExpired of package imposttop answers true, for every argument and in every world that holds the listed variables: lifted to the row's form. -/
namespace Go.Proofs.YtbknmeafcbhicaaGreatDoor.topExpired
open Go.ChangeShapes Go.WideShapes Go.ChangeAt Go.RowKit
theorem own:ownKnob Tryz.prog.godebug=none:=by kernel_rfl
set_option maxRecDepth 100000 in
theorem contract (H:Type) (enc:TypeId × Value→H) (W:World) (base:Nat) (args:Array Value) (ds gs:List (DataW H)) (before:List MemPlace)
  (hval0:∀ (j:Nat) t v,Tryz.f3.params[j]?=some t→args[j]?=some v→Value.okWide Tryz.prog W .any base t v)
  (hW:DataW.Whole enc Tryz.prog Tryz.f3.params.toList Rows.topExpiredSpec.vars false W args.toList ds gs before) :
  Calls Tryz.prog 3 args W fun e W'=>∃ v,e=.returned v∧Rows.topExpiredSpec.post enc Tryz.prog Tryz.f3 false true false false W args v W':=by
 have hval:∀ (j:Nat) t v,Tryz.f3.params[j]?=some t→args[j]?=some v→Value.okWide Tryz.prog W .any base t v:=hval0
 have hW':=hW
 obtain⟨p,q,hA0,hV,rfl,hfz,hnd⟩:=hW
 have hA:DataW.TrodAll enc Tryz.prog W 0 (fun _=>true) true Tryz.f3.params.toList args.toList ds p:=hA0
 rw [Tryz.params3] at hA hval
 obtain⟨rfl,rfl⟩:=trodVars_none hV
 obtain⟨v0,vs0,d0,ds0,p0,q0,hargs,rfl,rfl,h0,r0⟩:=trodAll_cons hA
 obtain⟨v1,vs1,d1,ds1,p1,q1,rfl,rfl,rfl,h1,r1⟩:=trodAll_cons r0
 obtain⟨rfl,rfl,rfl⟩:=trodAll_nil r1
 obtain rfl:args=#[v0,v1]:=by cases args;simp_all
 obtain⟨a0,len0,cap0,rfl⟩:=okWide_slice Tryz.underlying22 (hval 0 22 v0 rfl rfl)
 obtain⟨fuel0,hf0⟩:=h0
 obtain⟨l,hv,hg⟩:=Ev.open_calls hf0
 obtain⟨a1,rfl,rfl,rfl,w1⟩:=open_int Tryz.underlying3 (hval 1 3 v1 rfl rfl) h1
 refine (Ev.law_ext W l a1 _ hv hg).mono fun e W' ⟨he,hb⟩=>?_
 subst he
 exact⟨_,rfl,lawPost Tryz.laidOut (by kernel_rfl) rfl hW' hb rfl Tryz.underlying4 rfl rfl rfl⟩
def laidA (c:Array Value):Obj→Obj
 | .cells _ t frozen=>.cells c t frozen
 | o=>o
noncomputable def laidWorld (os:Os):World :=
 { World.holding Tryz.prog os ⟨#[],#[],[]⟩ with heap:=(((World.holding Tryz.prog os ⟨#[],#[],[]⟩).heap.modify 0 (laidA #[.int .u64 1,.int .u64 10,.int .u64 100,.int .u64 1000,.int .u64 10000,.int .u64 100000,.int .u64 1000000,.int .u64 10000000,.int .u64 100000000,.int .u64 1000000000,.int .u64 10000000000,.int .u64 100000000000,.int .u64 1000000000000,.int .u64 10000000000000,.int .u64 100000000000000,.int .u64 1000000000000000,.int .u64 10000000000000000,.int .u64 100000000000000000,.int .u64 1000000000000000000,.int .u64 10000000000000000000])).modify 1 (laidA #[.int .u8 0,.int .u8 1,.int .u8 28,.int .u8 2,.int .u8 29,.int .u8 14,.int .u8 24,.int .u8 3,.int .u8 30,.int .u8 22,.int .u8 20,.int .u8 15,.int .u8 25,.int .u8 17,.int .u8 4,.int .u8 8,.int .u8 31,.int .u8 27,.int .u8 13,.int .u8 23,.int .u8 21,.int .u8 19,.int .u8 16,.int .u8 7,.int .u8 26,.int .u8 12,.int .u8 18,.int .u8 6,.int .u8 11,.int .u8 5,.int .u8 10,.int .u8 9])).modify 2 (laidA #[.int .u8 0,.int .u8 1,.int .u8 56,.int .u8 2,.int .u8 57,.int .u8 49,.int .u8 28,.int .u8 3,.int .u8 61,.int .u8 58,.int .u8 42,.int .u8 50,.int .u8 38,.int .u8 29,.int .u8 17,.int .u8 4,.int .u8 62,.int .u8 47,.int .u8 59,.int .u8 36,.int .u8 45,.int .u8 43,.int .u8 51,.int .u8 22,.int .u8 53,.int .u8 39,.int .u8 33,.int .u8 30,.int .u8 24,.int .u8 18,.int .u8 12,.int .u8 5,.int .u8 63,.int .u8 55,.int .u8 48,.int .u8 27,.int .u8 60,.int .u8 41,.int .u8 37,.int .u8 16,.int .u8 46,.int .u8 35,.int .u8 44,.int .u8 21,.int .u8 52,.int .u8 32,.int .u8 23,.int .u8 11,.int .u8 54,.int .u8 26,.int .u8 40,.int .u8 15,.int .u8 34,.int .u8 20,.int .u8 31,.int .u8 10,.int .u8 25,.int .u8 14,.int .u8 19,.int .u8 9,.int .u8 13,.int .u8 8,.int .u8 7,.int .u8 6]) }
def wit:Array Value:=#[.slice none 0 0,.int .i64 0]
theorem laid_met (os:Os):laidMet Tryz.prog Rows.topExpiredRow.laid ((laidWorld os).forCall (fun _ _=>0) ⟨#[],wit,[]⟩).memory :=
 laidMet_of_run' 8 (by kernel_rfl) (by kernel_rfl)
theorem reads (os:Os) {H:Type} (enc:TypeId × Value→H):∃ places,DataW.whole enc Tryz.prog ((laidWorld os).forCall (fun _ _=>0) ⟨#[],wit,[]⟩).memory Tryz.f3.params.toList Rows.topExpiredSpec.vars false wit.toList 8=some ([.nil,.lit (.int .i64 0)],[],places) :=
 ⟨[],by kernel_rfl⟩
set_option maxRecDepth 100000 in
theorem lifted (os:Os) (started:os.Started) (H:Type) (enc:TypeId × Value→H) (F:Stop.Interp) :
  ReturnsInHanded {} Tryz.checked os 3 .any ((OpenSpec.ofChange Rows.topExpiredSpec).preRow enc Tryz.prog Tryz.f3 Rows.topExpiredRow.domain false Rows.topExpiredRow.laid) (((OpenSpec.ofChange Rows.topExpiredSpec).at F).post enc Tryz.prog Tryz.f3 false true false false):=by
 obtain⟨places,hx⟩:=reads os enc
 refine returnsInHanded_of_row (C:=Tryz.checked) (s:=OpenSpec.ofChange Rows.topExpiredSpec) own started (by kernel_rfl) Tryz.func3
  (witness_row_at (enc:=enc) (C:=Tryz.checked) false (laidWorld os) wit rfl (by kernel_rfl) (by kernel_rfl) (by kernel_rfl)
   (OpenSpec.preRow_of_cond 8 hx (by kernel_rfl) (fun k hk=>by cases hk) (by kernel_rfl) (laid_met os))) ?_
 intro W base args ds gs before hval hW _ _ _ hL _ _
 exact contract H enc W base args ds gs before hval hW
end Go.Proofs.YtbknmeafcbhicaaGreatDoor.topExpired
