/- Texts of this proof, put together by program; each has its own remark. -/
import Derived.WalkKit
import Derived.WalkSmall
import Derived.KernelRfl
import Derived.Lib.Hide
import Derived.Deep.QuietTactic
import Derived.BigQuiet
import Derived.Test.YtpccdcnjkknmkaaGreatDoorRows
import Derived.ProofKit
import Derived.OpenShut
import Derived.ShutString
import Derived.ChangeOld
import Derived.SizedLaws
import Derived.JoinedCond
import Derived.WideAt
import Derived.WideShapes
import Derived.Laws.StructEq
import Derived.Deep.MidRow
import Derived.Laws.IdiomCopy
import Derived.Deep.AppendSrc
import Derived.Great.BuildSlice
import Derived.Laws.MakeOwn
import Derived.Laws.BytesString
import Derived.Deep.Upon

namespace Go.Proofs.YtpccdcnjkknmkaaGreatDoor
open Go.RowKit
def Ext (w w':World):Prop:=Below w.heap.size w w'
theorem Ext.refl (w:World):Ext w w:=Below.refl _ _
theorem Ext.trans {a b c:World} (h:Ext a b) (k:Ext b c):Ext a c:=Below.trans h (Below.mono k h.size)
theorem Ext.size {a b:World} (h:Ext a b):a.heap.size<=b.heap.size:=Below.size h
theorem Ext.alloc {a b:World} (h:Ext a b) (o:Obj):Ext a (b.alloc o):=Below.alloc h h.size o
theorem Ext.drew {a b:World} (h:Ext a b):Ext a b.drew:=Below.drew h
theorem Ext.drewN {a b:World} (h:Ext a b) (n:Nat):Ext a (b.drewN n):=below_drewN h n
theorem Ext.setCell {a b:World} (h:Ext a b) {p:Addr} (hp:a.heap.size<=p.block) (u:Value):Ext a (b.setCell p u):=Below.setCell h hp u
theorem Ext.cell {a b:World} (h:Ext a b) {p:Addr} (hp:p.block < a.heap.size):b.cell? p=a.cell? p:=Below.cell h hp
theorem Ext.frozen {a b:World} (h:Ext a b) {p:Addr} (hp:p.block < a.heap.size):b.frozen? p=a.frozen? p:=Below.frozen h hp
theorem Ext.bc {a c:World} (h:Ext a c):(∀ b o,b < a.heap.size->c.cell? ⟨b,o,none⟩=a.cell? ⟨b,o,none⟩)/\(∀ b o,b < a.heap.size->c.frozen? ⟨b,o,none⟩=a.frozen? ⟨b,o,none⟩) :=
 ⟨fun b o hb=>Below.cell h (p:=⟨b,o,none⟩) hb,fun b o hb=>Below.frozen h (p:=⟨b,o,none⟩) hb⟩
theorem uC7 {P:Program} {f:FuncId} {args:Array Value} {w:World} {n:Nat} {v:Value}
  (h:Calls P f args (w.drewN n) fun e w'=>e=.returned v/\w.drewN n=w'):Calls P f args (w.drewN n) fun e w''=>e=.returned v/\∃ m,w''=w.drewN m :=
 h.mono fun _ _ ⟨he,hm⟩=>⟨he,n,hm.symm⟩
def SlR (w:World) (B:Nat) (size:Nat) (v:Value) (n:Nat) (xs:List Value):Prop :=
 xs.length=n*size/\n<=maxLen/\∃ a cap,v=.slice a n cap/\(n=0∨∃ b off,a=some ⟨b,off,none⟩/\b < B/\∀ j,j < n*size->w.cell? ⟨b,off+j,none⟩=xs[j]?)
theorem SlR.mono {w w':World} {B size n:Nat} {v:Value} {xs:List Value} (h:SlR w B size v n xs) (hb:Below B w w'):SlR w' B size v n xs:=by
 obtain⟨h1,h2,a,cap,rfl,h3⟩:=h
 refine⟨h1,h2,a,cap,rfl,?_⟩
 rcases h3 with h3 | ⟨b,off,rfl,hlt,hc⟩
 ·exact .inl h3
 ·exact .inr ⟨b,off,rfl,hlt,fun j hj=>(hb.cell (p:=⟨b,off+j,none⟩) hlt).trans (hc j hj)⟩
theorem SlR.ext {w w':World} {size n:Nat} {v:Value} {xs:List Value} (h:SlR w w.heap.size size v n xs) (hb:Ext w w'):SlR w' w.heap.size size v n xs:=h.mono hb
theorem SlR.up {w:World} {B B' size n:Nat} {v:Value} {xs:List Value} (h:SlR w B size v n xs) (hb:B<=B'):SlR w B' size v n xs:=by
 obtain⟨h1,h2,a,cap,rfl,h3⟩:=h
 refine⟨h1,h2,a,cap,rfl,?_⟩
 rcases h3 with h3 | ⟨b,off,rfl,hlt,hc⟩
 ·exact .inl h3
 ·exact .inr ⟨b,off,rfl,by omega,hc⟩
theorem SlR.nil (w:World) (B size:Nat):SlR w B size (.slice none 0 0) 0 []:=⟨by simp,Nat.zero_le _,none,0,rfl,.inl rfl⟩
theorem SlR.of_own {w:World} {base e size n:Nat} {v:Value} {xs:List Value} (h:w.ownsRow base e size v n xs):SlR w w.heap.size size v n xs:=by
 obtain⟨h1,h2⟩:=h
 rcases h2 with⟨rfl,rfl⟩ | ⟨g,cap,cur,rfl,hg,hh,hn,hcap,hsz,ht⟩
 ·simp at h1
  subst h1
  exact SlR.nil _ _ _
 ·refine⟨h1,by omega,some ⟨g,0,none⟩,cap,rfl,.inr ⟨g,0,rfl,?_,fun j hj=>?_⟩⟩
  ·have:=(Array.getElem?_eq_some_iff.1 hh).1
   exact this
  ·simp only [World.cell?,hh]
   rw [<- ht,List.getElem?_take_of_lt hj]
   simp
end Go.Proofs.YtpccdcnjkknmkaaGreatDoor
namespace Go.Proofs.YtpccdcnjkknmkaaGreatDoor
open Go.RowKit Go.ChangeShapes Go.WideShapes Go.ChangeAt
variable {H:Type} {enc:TypeId × Value->H} {P:Program}
def uU1 (P:Program) (ts:List TypeId):Bool:=ts.all fun t=>P.readableRec t&&decide (t < P.types.size)
theorem zV4 (hl:laidOutB P=true) {W W':World} (hb:Below W.heap.size W W'):∀ {ts:List TypeId} {vs:List Value} {ds:List (DataW H)} {ps:List MemPlace},uU1 P ts=true ->
  DataW.TrodAll enc P W 0 (fun _=>true) true ts vs ds ps->DataW.TrodAll enc P W' 0 (fun b=>decide (b < W.heap.size)) true ts vs ds ps
 | [],[],[],_,_,h=>h
 | [],[],_::_,_,_,h=>h.elim
 | [],_::_,_,_,_,h=>by cases h
 | _::_,[],_,_,_,h=>by cases h
 | _::_,_::_,[],_,_,h=>by cases h
 | t::ts,v::vs,d::ds,ps,hv,h=>by
  obtain⟨p,q,h1,h2,rfl⟩:=h
  simp only [uU1,List.all_cons,Bool.and_eq_true,decide_eq_true_eq] at hv
  have hlt:∀ x∈p,x.block < W.heap.size:=by obtain⟨m,hm⟩:=h1;exact DataW.trod_lt m _ _ _ hm
  exact⟨p,q,Below.trod hl hv.1.1 hv.1.2 h1 hb hlt,zV4 hl hb hv.2 h2,rfl⟩
theorem qC3 {f:Func} {s:ChangeSpec} (hl:laidOutB P=true) (hty:uU1 P f.params.toList=true) {W W':World} {args:Array Value} {ds gs:List (DataW H)} {before:List MemPlace}
  (hvars:s.vars=[]) (hW:DataW.Whole enc P f.params.toList s.vars false W args.toList ds gs before) (hb:Ext W W') {tb:TypeId} (hr:f.resultTypes=#[tb]) (ub:P.underlying tb=some .bool)
  (hres:(s.fn H (ds++gs)).results=[.lit (.bool true)]) (hargs:(s.fn H (ds++gs)).args=ds) (hv:(s.fn H (ds++gs)).vars=[]) :
  s.post enc P f false true false false W args (.bool true) W':=by
 have hW0:=hW
 obtain⟨p,q,hA,hV,rfl,_,_⟩:=hW
 refine⟨_,_,_,[],p,[],hW0,?_,?_,?_,hb.frame _,fun h=>by cases h⟩
 ·rw [hres,hr]
  exact trodAll_mk1 (shut_bool ub _)
 ·rw [hargs]
  exact zV4 hl hb hty hA
 ·rw [hvars,hv]
  rfl
theorem bd64 {n:Int} (h:(Lit.int .i64 n).wf=true):-9223372036854775808<=n/\n<=9223372036854775807:=by
 simp [Lit.wf,IntKind.min,IntKind.max,IntKind.signed,IntKind.bits] at h
 omega
theorem Tryz.own:ownKnob Tryz.prog.godebug=none:=by kernel_rfl
theorem Tryz.laidOut:laidOutB Tryz.prog=true:=by kernel_rfl
end Go.Proofs.YtpccdcnjkknmkaaGreatDoor
namespace Go.Proofs.YtpccdcnjkknmkaaGreatDoor.bil
def I64 (n:Int):Prop:=-9223372036854775808<=n/\n<=9223372036854775807
instance (n:Int):Decidable (I64 n):=inferInstanceAs (Decidable (_/\_))
def less (a b:ByteArray):Bool:=bytesBefore a.data.toList b.data.toList
theorem ba_ext {a b:ByteArray} (h:a.data.toList=b.data.toList):a=b:=by
 obtain⟨⟨a⟩⟩:=a
 obtain⟨⟨b⟩⟩:=b
 simp_all
theorem wI6 (a:ByteArray):less a a=false:=Go.WideAt.bytes_irrefl _
theorem yZ7 {a b:ByteArray} (h:a≠b):less a b=true∨less b a=true:=Go.WideAt.bytes_total _ _ fun he=>h (ba_ext he)
theorem yA7 {a b c:ByteArray} (h:less a b=true) (k:less b c=true):less a c=true:=Go.WideShapes.bytes_trans _ _ _ h k
def chain {α:Type} (lt:α->α->Bool):List α->Bool
 | []=>true
 | [_]=>true
 | x::y::t=>lt x y&&chain lt (y::t)
section
variable {α:Type} {lt:α->α->Bool}
theorem chain_pw (tr:∀ a b c,lt a b=true->lt b c=true->lt a c=true):∀ {l:List α},chain lt l=true↔l.Pairwise (fun a b=>lt a b=true)
 | []=>by simp [chain]
 | [_]=>by simp [chain]
 | x::y::t=>by
  rw [chain,Bool.and_eq_true,chain_pw tr,List.pairwise_cons (a:=x)]
  constructor
  ·rintro ⟨h1,h2⟩
   refine⟨fun z hz=>?_,h2⟩
   rcases List.mem_cons.1 hz with rfl | hz
   ·exact h1
   ·exact tr _ _ _ h1 ((List.pairwise_cons.1 h2).1 z hz)
  ·rintro ⟨h1,h2⟩
   exact⟨h1 y List.mem_cons_self,h2⟩
def insF (lt:α->α->Bool) (r:α) (l:List α):List α:=l.takeWhile (lt · r)++r::l.dropWhile (lt · r)
theorem wY5 {p:α->Bool}:∀ {l:List α} {x:α},x∈l.takeWhile p->p x=true
 | y::l,x,h=>by
  rw [List.takeWhile_cons] at h
  split at h
  ·rename_i hp
   rcases List.mem_cons.1 h with rfl | h
   ·exact hp
   ·exact wY5 h
  ·cases h
theorem dw_head {p:α->Bool}:∀ {l:List α} {y:α} {t:List α},l.dropWhile p=y::t->p y=false
 | x::l,y,t,h=>by
  rw [List.dropWhile_cons] at h
  split at h
  ·exact dw_head h
  ·rename_i hp
   cases h
   simpa using hp
theorem xW9 (tr:∀ a b c,lt a b=true->lt b c=true->lt a c=true) {l:List α} {r:α} (h:l.Pairwise (fun a b=>lt a b=true)) (ht:∀ x∈l,lt x r=true∨lt r x=true):(insF lt r l).Pairwise (fun a b=>lt a b=true):=by
 have hl:l.takeWhile (lt · r)++l.dropWhile (lt · r)=l:=List.takeWhile_append_dropWhile
 have h2:=h
 rw [<- hl,List.pairwise_append] at h2
 obtain⟨p1,p2,p3⟩:=h2
 have hr:∀ z∈l.dropWhile (lt · r),lt r z=true:=fun z hz=>by
  cases hd:l.dropWhile (lt · r) with
  | nil=>rw [hd] at hz;cases hz
  | cons y t =>
   have hy:=dw_head hd
   have hym:y∈l:=by rw [<- hl];exact List.mem_append_right _ (by rw [hd];exact List.mem_cons_self)
   have hry:lt r y=true:=by
    rcases ht y hym with h | h
    ·rw [h] at hy;cases hy
    ·exact h
   rw [hd] at hz p2
   rcases List.mem_cons.1 hz with rfl | hz
   ·exact hry
   ·exact tr _ _ _ hry ((List.pairwise_cons.1 p2).1 z hz)
 unfold insF
 rw [List.pairwise_append]
 refine⟨p1,List.pairwise_cons.2 ⟨hr,p2⟩,fun a ha b hb=>?_⟩
 rcases List.mem_cons.1 hb with rfl | hb
 ·exact wY5 (p:=fun x=>lt x b) ha
 ·exact p3 a ha b hb
theorem insF_mem {l:List α} {r x:α}:x∈insF lt r l↔x=r∨x∈l:=by
 have hl:l.takeWhile (lt · r)++l.dropWhile (lt · r)=l:=List.takeWhile_append_dropWhile
 unfold insF
 conv=>rhs;rw [<- hl]
 simp only [List.mem_append,List.mem_cons]
 constructor
 ·rintro (h | h | h)
  ·exact .inr (.inl h)
  ·exact .inl h
  ·exact .inr (.inr h)
 ·rintro (h | h | h)
  ·exact .inr (.inl h)
  ·exact .inl h
  ·exact .inr (.inr h)
theorem insF_len {l:List α} {r:α}:(insF lt r l).length=l.length+1:=by
 have hl:(l.takeWhile (lt · r)).length+(l.dropWhile (lt · r)).length=l.length:=by
  rw [<- List.length_append,List.takeWhile_append_dropWhile]
 unfold insF
 simp
 omega
end
structure Env where
 name:ByteArray->Bool
 day:Int->Int->Int->Bool
 num:Int->Int->Int->Int
 inj:∀ y m d y' m' d',day y m d=true->day y' m' d'=true->num y m d=num y' m' d'->y=y'/\m=m'/\d=d'
 tax:Int->Int->Option Int
 mir:∀ n bp x,I64 (-n)->tax n bp=some x->tax (-n) bp=some (-x)
structure Dt where
 y:Int
 m:Int
 d:Int
deriving DecidableEq
structure Rt where
 cat:ByteArray
 fr:Dt
 bp:Int
structure Sr where
 name:ByteArray
 next:Int
 limit:Int
 shut:Bool
structure Rp where
 why:Int
 number:Int
 gross:Int
deriving DecidableEq
structure Ses where
 id:Int
 last:Int
 rep:Rp
section
variable (E:Env)
def dayF (d:Dt):Bool:=E.day d.y d.m d.d
def beforeF (a b:Dt):Bool:=dayF E a&&(dayF E b&&decide (E.num a.y a.m a.d < E.num b.y b.m b.d))
def rowF (r:Rt):Int:=if E.name r.cat=false then 8 else if dayF E r.fr=false then 9 else if r.bp < 0∨r.bp > 100000 then 10 else 0
def aheadF (a b:Rt):Bool:=less a.cat b.cat || (decide (a.cat=b.cat)&&beforeF E a.fr b.fr)
def vatRight (l:List Rt):Bool:=decide (l.length<=24)&&(l.all (fun r=>rowF E r == 0)&&chain (aheadF E) l)
def vatPut (l:List Rt) (r:Rt):List Rt × Int :=
 if vatRight E l=false then ([],1) else if rowF E r≠0 then ([],rowF E r) else if l.any (fun x=>decide (x.cat=r.cat)&&decide (x.fr=r.fr)) then ([],12) else if 24<=l.length then ([],2) else (insF (aheadF E) r l,0)
theorem before_trans {a b c:Dt} (h:beforeF E a b=true) (k:beforeF E b c=true):beforeF E a c=true:=by
 unfold beforeF at *
 simp only [Bool.and_eq_true,decide_eq_true_eq] at *
 exact⟨h.1,k.2.1,by omega⟩
theorem wV0 {a b:Dt} (ha:dayF E a=true) (hb:dayF E b=true) (h:a≠b):beforeF E a b=true∨beforeF E b a=true:=by
 unfold beforeF
 simp only [ha,hb,Bool.true_and,decide_eq_true_eq]
 rcases Int.lt_trichotomy (E.num a.y a.m a.d) (E.num b.y b.m b.d) with h1 | h1 | h1
 ·exact .inl h1
 ·obtain⟨e1,e2,e3⟩:=E.inj _ _ _ _ _ _ ha hb h1
  exact absurd (by cases a;cases b;simp_all) h
 ·exact .inr h1
theorem ahead_trans (a b c:Rt) (h:aheadF E a b=true) (k:aheadF E b c=true):aheadF E a c=true:=by
 unfold aheadF at *
 simp only [Bool.or_eq_true,Bool.and_eq_true,decide_eq_true_eq] at *
 rcases h with h | ⟨h,h'⟩<;>rcases k with k | ⟨k,k'⟩
 ·exact .inl (yA7 h k)
 ·exact .inl (k ▸ h)
 ·exact .inl (h ▸ k)
 ·exact .inr ⟨h.trans k,before_trans E h' k'⟩
theorem vC9 {r:Rt} (h:rowF E r=0):dayF E r.fr=true:=by
 unfold rowF at h
 split at h
 ·cases h
 ·split at h
  ·cases h
  ·rename_i hd
   simpa using hd
theorem xF7 {l:List Rt} {r:Rt} {l':List Rt} (h:vatPut E l r=(l',0)):vatRight E l'=true:=by
 unfold vatPut at h
 split at h
 ·cases h
 ·rename_i h1
  split at h
  ·rename_i h2
   have:=congrArg Prod.snd h
   exact absurd this h2
  ·rename_i h2
   split at h
   ·cases h
   ·rename_i h3
    split at h
    ·cases h
    ·rename_i h4
     simp only [Prod.mk.injEq,and_true] at h
     subst h
     have hr0:rowF E r=0:=by simpa using h2
     simp only [Bool.not_eq_false] at h1
     unfold vatRight at h1 ⊢
     simp only [Bool.and_eq_true,decide_eq_true_eq,List.all_eq_true,beq_iff_eq] at h1 ⊢
     refine⟨by rw [insF_len];omega,fun x hx=>?_,?_⟩
     ·rcases insF_mem.1 hx with rfl | hx
      ·exact hr0
      ·exact h1.2.1 x hx
     ·rw [chain_pw (ahead_trans E)] at h1 ⊢
      refine xW9 (ahead_trans E) h1.2.2 fun x hx=>?_
      unfold aheadF
      by_cases hc:x.cat=r.cat
      ·have hne:x.fr≠r.fr:=fun he=>h3 (by
        rw [List.any_eq_true]
        exact⟨x,hx,by simp [hc,he]⟩)
       rcases wV0 E (vC9 E (h1.2.1 x hx)) (vC9 E hr0) hne with hb | hb
       ·left;simp [hc,hb]
       ·right;simp [hc,hb]
      ·rcases yZ7 hc with hb | hb
       ·left;simp [hb]
       ·right;simp [hb]
def srLt (a b:Sr):Bool:=less a.name b.name
def srOk (s:Sr):Bool:=E.name s.name&&(decide (1<=s.limit)&&(decide (s.limit<=1099511627776)&&(decide (1<=s.next)&&decide (s.next<=s.limit+1))))
def srRight (l:List Sr):Bool:=decide (l.length<=8)&&(l.all (srOk E)&&chain srLt l)
theorem srLt_trans (a b c:Sr) (h:srLt a b=true) (k:srLt b c=true):srLt a c=true:=yA7 h k
def srOpen (l:List Sr) (name:ByteArray) (limit:Int):List Sr × Int :=
 if srRight E l=false then ([],1) else if E.name name=false then ([],8) else if limit < 1∨limit > 1099511627776 then ([],1) else if l.any (fun x=>decide (x.name=name)) then ([],12) else if 8<=l.length then ([],14)
 else (insF srLt ⟨name,1,limit,false⟩ l,0)
theorem xG8 {l l':List Sr} {name:ByteArray} {limit:Int} (h:srOpen E l name limit=(l',0)):srRight E l'=true:=by
 unfold srOpen at h
 split at h
 ·cases h
 ·rename_i h1
  split at h
  ·cases h
  ·rename_i h2
   split at h
   ·cases h
   ·rename_i h3
    split at h
    ·cases h
    ·rename_i h4
     split at h
     ·cases h
     ·rename_i h5
      simp only [Prod.mk.injEq,and_true] at h
      subst h
      simp only [Bool.not_eq_false] at h1 h2
      unfold srRight at h1 ⊢
      simp only [Bool.and_eq_true,decide_eq_true_eq,List.all_eq_true] at h1 ⊢
      refine⟨by rw [insF_len];omega,fun x hx=>?_,?_⟩
      ·rcases insF_mem.1 hx with rfl | hx
       ·simp only [srOk,h2,Bool.true_and,Bool.and_eq_true,decide_eq_true_eq]
        omega
       ·exact h1.2.1 x hx
      ·rw [chain_pw srLt_trans] at h1 ⊢
       refine xW9 srLt_trans h1.2.2 fun x hx=>?_
       have hne:x.name≠name:=fun he=>h4 (by
        rw [List.any_eq_true]
        exact⟨x,hx,by simp [he]⟩)
       exact yZ7 hne
def srAt (l:List Sr) (name:ByteArray):Option Nat:=l.findIdx? (fun x=>decide (x.name=name))
def srFree (l:List Sr) (name:ByteArray):Nat × Int :=
 if srRight E l=false then (0,1) else match srAt l name with
 | none=>(0,11)
 | some k=>match l[k]? with
  | none=>(0,11)
  | some s=>if s.shut then (0,13) else (k,0)
theorem vD7 {α:Type} {R:α->α->Prop} {l:List α} {k:Nat} {x y:α} (h:l.Pairwise R) (hk:l[k]?=some x) (h1:∀ z,R z x->R z y) (h2:∀ z,R x z->R y z):(l.set k y).Pairwise R:=by
 have hlt:k < l.length:=by
  rcases Nat.lt_or_ge k l.length with h | h
  ·exact h
  ·rw [List.getElem?_eq_none h] at hk;cases hk
 have hx:l[k]=x:=by rw [List.getElem?_eq_getElem hlt] at hk;exact Option.some.inj hk
 have e:l=l.take k++x::l.drop (k+1):=by rw [<- hx,<- List.drop_eq_getElem_cons hlt,List.take_append_drop]
 have e2:l.set k y=l.take k++y::l.drop (k+1):=by
  rw [List.set_eq_take_append_cons_drop,if_pos hlt]
 rw [e,List.pairwise_append] at h
 rw [e2,List.pairwise_append]
 obtain⟨p1,p2,p3⟩:=h
 obtain⟨q1,q2⟩:=List.pairwise_cons.1 p2
 refine⟨p1,List.pairwise_cons.2 ⟨fun z hz=>h2 z (q1 z hz),q2⟩,fun a ha b hb=>?_⟩
 rcases List.mem_cons.1 hb with rfl | hb
 ·exact h1 a (p3 a ha x List.mem_cons_self)
 ·exact p3 a ha b (List.mem_cons_of_mem _ hb)
theorem yI5 {l:List Sr} {k:Nat} {s s':Sr} (h:srRight E l=true) (hk:l[k]?=some s) (hn:s'.name=s.name) (ho:srOk E s'=true):srRight E (l.set k s')=true:=by
 unfold srRight at *
 simp only [Bool.and_eq_true,decide_eq_true_eq,List.all_eq_true] at *
 refine⟨by rw [List.length_set];exact h.1,fun x hx=>?_,?_⟩
 ·rcases List.mem_or_eq_of_mem_set hx with hx | rfl
  ·exact h.2.1 x hx
  ·exact ho
 ·rw [chain_pw srLt_trans] at *
  exact vD7 h.2.2 hk (fun z hz=>by unfold srLt at *;rw [hn];exact hz) (fun z hz=>by unfold srLt at *;rw [hn];exact hz)
end
def sesOk (s:Ses):Bool:=decide (0<=s.last)&&(decide (s.last<=1099511627776)&&(decide (s.last≠0) || decide (s.rep=⟨0,0,0⟩)))
def sesLt (a b:Ses):Bool:=decide (a.id < b.id)
def sesRight (l:List Ses):Bool:=decide (l.length<=8)&&(l.all sesOk&&(l.all (fun s=>decide (0 < s.id))&&chain sesLt l))
theorem sesLt_trans (a b c:Ses) (h:sesLt a b=true) (k:sesLt b c=true):sesLt a c=true:=by
 unfold sesLt at *
 simp only [decide_eq_true_eq] at *
 omega
def sesAt (l:List Ses) (id:Int):Option Nat:=l.findIdx? (fun x=>x.id == id)
structure Pt where
 cat:ByteArray
 bp:Int
 net:Int
 tax:Int
deriving DecidableEq
structure Tot where
 net:Int
 tax:Int
 gross:Int
 parts:List Pt
deriving DecidableEq
structure Bal where
 acc:ByteArray
 amt:Int
deriving DecidableEq
structure Ref where
 ser:ByteArray
 num:Int
deriving DecidableEq
def Ref.z:Ref:=⟨⟨#[]⟩,0⟩
structure Pst where
 ref:Ref
 day:Dt
 tot:Tot
 of_:Ref
 back:Bool
structure St where
 table:List Rt
 series:List Sr
 posted:List Pst
 book:List Bal
 sess:List Ses
 next:Int
structure Li where
 text:ByteArray
 cat:ByteArray
 count:Int
 price:Int
structure Cd where
 kind:Int
 series:ByteArray
 limit:Int
 row:Rt
 day:Dt
 lines:List Li
 of_:Ref
 session:Int
def addZ (a b:Int):Option Int:=if I64 (a+b) then some (a+b) else none
def negZ (a:Int):Option Int:=if I64 (-a) then some (-a) else none
def mulZ (a b:Int):Option Int:=if I64 (a*b) then some (a*b) else none
section
variable (E:Env)
def partPlace (l:List Pt) (c:ByteArray):Nat:=(l.takeWhile fun p=>less p.cat c).length
def partPut (l:List Pt) (c:ByteArray) (bp n:Int):Option (List Pt) :=
 let k:=partPlace l c
 let l':=if (l[k]?.map (·.cat))=some c then l else l.take k++⟨c,bp,0,0⟩::l.drop k
 match l'[k]? with
 | none=>none
 | some p=>(addZ p.net n).map fun m=>l'.set k { p with net:=m }
def vatFind (l:List Rt) (c:ByteArray) (d:Dt):Option Int :=
 if vatRight E l=false∨dayF E d=false then none else l.foldl (fun a r=>if decide (r.cat=c)&&!(beforeF E d r.fr) then some r.bp else a) none
def lineF (table:List Rt) (d:Dt) (x:Li):(Int × Int) ⊕ Int :=
 if 64 < x.text.size then .inr 2 else if E.name x.cat=false then .inr 8 else if x.count < 1∨x.count > 1048576 then .inr 1 else
 match vatFind E table x.cat d with
 | none=>.inr 10
 | some bp=>match mulZ x.count x.price with
  | none=>.inr 7
  | some n=>.inl (bp,n)
def partsF (table:List Rt) (d:Dt):List Li->List Pt->(List Pt) ⊕ Int
 | [],ps=>.inl ps
 | x::xs,ps=>match lineF E table d x with
  | .inr e=>.inr e
  | .inl (bp,n)=>match partPut ps x.cat bp n with
   | none=>.inr 7
   | some ps'=>partsF table d xs ps'
def wholeF:List Pt->Int->Int->Option (List Pt × Int × Int)
 | [],n,t=>some ([],n,t)
 | p::ps,n,t=>match E.tax p.net p.bp with
  | none=>none
  | some x=>match addZ n p.net with
   | none=>none
   | some n'=>match addZ t x with
    | none=>none
    | some t'=>(wholeF ps n' t').map fun r=>({ p with tax:=x }::r.1,r.2)
def totalF (table:List Rt) (d:Dt) (ls:List Li):Tot ⊕ Int :=
 if vatRight E table=false then .inr 1 else if dayF E d=false then .inr 9 else if ls.length=0 then .inr 1 else if 12 < ls.length then .inr 2 else
 match partsF E table d ls [] with
 | .inr e=>.inr e
 | .inl ps=>match wholeF E ps 0 0 with
  | none=>.inr 7
  | some (ps',n,t)=>match addZ n t with
   | none=>.inr 7
   | some g=>.inl ⟨n,t,g,ps'⟩
def ptLt (a b:Pt):Bool:=less a.cat b.cat
def ptOk (p:Pt):Bool:=E.name p.cat&&(decide (0<=p.bp)&&(decide (p.bp<=100000)&&decide (E.tax p.net p.bp=some p.tax)))
def sumsF (t:Tot):Bool:=decide ((t.parts.map (·.net)).sum=t.net)&&(decide ((t.parts.map (·.tax)).sum=t.tax)&&decide (t.net+t.tax=t.gross))
def totOk (t:Tot):Bool:=decide (1<=t.parts.length)&&(decide (t.parts.length<=12)&&(t.parts.all (ptOk E)&&(chain ptLt t.parts&&sumsF t)))
theorem yT1 (a b c:Pt) (h:ptLt a b=true) (k:ptLt b c=true):ptLt a c=true:=yA7 h k
theorem addZ_some {a b n:Int} (h:addZ a b=some n):n=a+b/\I64 n:=by
 unfold addZ at h
 split at h
 ·cases h
  exact⟨rfl,by assumption⟩
 ·cases h
theorem yI0:∀ {ps:List Pt} {n t:Int} {ps':List Pt} {n' t':Int},wholeF E ps n t=some (ps',n',t') ->
  ps'.length=ps.length/\ps'.map (·.cat)=ps.map (·.cat)/\ps'.map (·.bp)=ps.map (·.bp)/\(∀ p∈ps',E.tax p.net p.bp=some p.tax)/\n'=n+(ps'.map (·.net)).sum/\t'=t+(ps'.map (·.tax)).sum
 | [],n,t,ps',n',t',h=>by
  simp only [wholeF,Option.some.injEq,Prod.mk.injEq] at h
  obtain⟨rfl,rfl,rfl⟩:=h
  simp
 | p::ps,n,t,ps',n',t',h=>by
  unfold wholeF at h
  split at h
  ·cases h
  ·rename_i x hx
   split at h
   ·cases h
   ·rename_i n1 hn1
    split at h
    ·cases h
    ·rename_i t1 ht1
     cases hw:wholeF E ps n1 t1 with
     | none=>rw [hw] at h;cases h
     | some r =>
      rw [hw] at h
      simp only [Option.map_some,Option.some.injEq,Prod.mk.injEq] at h
      obtain⟨rfl,h2⟩:=h
      obtain⟨r1,r2,r3⟩:=r
      simp only at h2
      cases h2
      obtain⟨i1,i2,i3,i4,i5,i6⟩:=yI0 hw
      obtain⟨rfl,_⟩:=addZ_some hn1
      obtain⟨rfl,_⟩:=addZ_some ht1
      refine⟨by simp [i1],by simp [i2],by simp [i3],fun q hq=>?_,?_,?_⟩
      ·rcases List.mem_cons.1 hq with rfl | hq
       ·exact hx
       ·exact i4 q hq
      ·simp only [List.map_cons,List.sum_cons]
       omega
      ·simp only [List.map_cons,List.sum_cons]
       omega
def yP1 (ps:List Pt) (n:Nat):Prop:=ps.length<=n/\(∀ p∈ps,E.name p.cat=true/\0<=p.bp/\p.bp<=100000)/\ps.Pairwise (fun a b=>ptLt a b=true)
theorem xV2 (l:List Pt) (c:ByteArray):partPlace l c<=l.length/\l.take (partPlace l c)=l.takeWhile (fun p=>less p.cat c)/\l.drop (partPlace l c)=l.dropWhile (fun p=>less p.cat c):=by
 have h:l.takeWhile (fun p=>less p.cat c)++l.dropWhile (fun p=>less p.cat c)=l:=List.takeWhile_append_dropWhile
 have hl:partPlace l c<=l.length:=by
  have:=congrArg List.length h
  rw [List.length_append] at this
  unfold partPlace
  omega
 refine⟨hl,?_,?_⟩
 ·have e:=List.take_left (l₁:=l.takeWhile fun p=>less p.cat c) (l₂:=l.dropWhile fun p=>less p.cat c)
  rw [h] at e
  exact e
 ·have e:=List.drop_left (l₁:=l.takeWhile fun p=>less p.cat c) (l₂:=l.dropWhile fun p=>less p.cat c)
  rw [h] at e
  exact e
theorem wP3 {ps ps':List Pt} {c:ByteArray} {bp n:Int} {m:Nat} (h:yP1 E ps m) (hc:E.name c=true) (hb:0<=bp/\bp<=100000) (hp:partPut ps c bp n=some ps'):yP1 E ps' (m+1)/\1<=ps'.length:=by
 obtain⟨h1,h2,h3⟩:=h
 obtain⟨s1,s2,s3⟩:=xV2 ps c
 unfold partPut at hp
 simp only at hp
 generalize hk:partPlace ps c=k at *
 have key:∀ l':List Pt,(l'.length<=m+1/\(∀ p∈l',E.name p.cat=true/\0<=p.bp/\p.bp<=100000)/\l'.Pairwise (fun a b=>ptLt a b=true)) ->
   (match l'[k]? with | none=>none | some p=>(addZ p.net n).map fun q=>l'.set k { p with net:=q })=some ps'->yP1 E ps' (m+1)/\1<=ps'.length:=by
  rintro l' ⟨g1,g2,g3⟩ he
  cases hg:l'[k]? with
  | none=>rw [hg] at he;cases he
  | some p =>
   rw [hg] at he
   simp only at he
   cases ha:addZ p.net n with
   | none=>rw [ha] at he;cases he
   | some q =>
    rw [ha] at he
    simp only [Option.map_some,Option.some.injEq] at he
    subst he
    have hpm:p∈l':=List.mem_of_getElem? hg
    have hlt:k < l'.length:=by
     rcases Nat.lt_or_ge k l'.length with h | h
     ·exact h
     ·rw [List.getElem?_eq_none h] at hg;cases hg
    refine⟨⟨by rw [List.length_set];exact g1,fun x hx=>?_,vD7 g3 hg (fun z hz=>hz) (fun z hz=>hz)⟩,by rw [List.length_set];omega⟩
    rcases List.mem_or_eq_of_mem_set hx with hx | rfl
    ·exact g2 x hx
    ·exact g2 p hpm
 by_cases hs:(ps[k]?.map (·.cat))=some c
 ·rw [if_pos hs] at hp
  exact key ps ⟨by omega,h2,h3⟩ hp
 ·rw [if_neg hs] at hp
  refine key _ ⟨?_,fun p hp=>?_,?_⟩ hp
  ·rw [List.length_append,List.length_cons,List.length_take,List.length_drop]
   omega
  ·rcases List.mem_append.1 hp with hp | hp
   ·exact h2 p (List.mem_of_mem_take hp)
   ·rcases List.mem_cons.1 hp with rfl | hp
    ·exact⟨hc,hb⟩
    ·exact h2 p (List.mem_of_mem_drop hp)
  ·rw [s2,s3]
   have ht:∀ x∈ps,ptLt x ⟨c,bp,0,0⟩=true∨ptLt ⟨c,bp,0,0⟩ x=true∨x.cat=c:=fun x _=>by
    by_cases he:x.cat=c
    ·exact .inr (.inr he)
    ·rcases yZ7 he with h | h
     ·exact .inl h
     ·exact .inr (.inl h)
   have hh:ps.takeWhile (fun p=>less p.cat c)++ps.dropWhile (fun p=>less p.cat c)=ps:=List.takeWhile_append_dropWhile
   have h4:=h3
   rw [<- hh,List.pairwise_append] at h4
   obtain⟨p1,p2,p3⟩:=h4
   have hr:∀ z∈ps.dropWhile (fun p=>less p.cat c),ptLt ⟨c,bp,0,0⟩ z=true:=fun z hz=>by
    cases hd:ps.dropWhile (fun p=>less p.cat c) with
    | nil=>rw [hd] at hz;cases hz
    | cons y t =>
     have hy:less y.cat c=false:=dw_head (p:=fun p:Pt=>less p.cat c) hd
     have hym:y∈ps:=by rw [<- hh];exact List.mem_append_right _ (by rw [hd];exact List.mem_cons_self)
     have hyk:ps[k]?=some y:=by
      have e:(ps.drop k)[0]?=some y:=by rw [s3,hd];rfl
      rw [List.getElem?_drop] at e
      simpa using e
     have hry:ptLt ⟨c,bp,0,0⟩ y=true:=by
      rcases ht y hym with h | h | h
      ·unfold ptLt at h;simp only at h;rw [h] at hy;cases hy
      ·exact h
      ·exact absurd (by rw [hyk];simp [h]) hs
     rw [hd] at hz p2
     rcases List.mem_cons.1 hz with rfl | hz
     ·exact hry
     ·exact yT1 _ _ _ hry ((List.pairwise_cons.1 p2).1 z hz)
   rw [List.pairwise_append]
   refine⟨p1,List.pairwise_cons.2 ⟨hr,p2⟩,fun a ha b hb=>?_⟩
   rcases List.mem_cons.1 hb with rfl | hb
   ·exact wY5 (p:=fun p:Pt=>less p.cat c) ha
   ·exact p3 a ha b hb
end
section
variable (E:Env)
theorem wM2 {l:List Rt} {c:ByteArray} {d:Dt} {bp:Int} (h:vatFind E l c d=some bp):0<=bp/\bp<=100000:=by
 unfold vatFind at h
 split at h
 ·cases h
 ·rename_i hv
  have hr:∀ r∈l,rowF E r=0:=by
   have h1:vatRight E l=true:=by
    cases hb:vatRight E l
    ·exact absurd (.inl hb) hv
    ·rfl
   unfold vatRight at h1
   simp only [Bool.and_eq_true,List.all_eq_true,beq_iff_eq] at h1
   exact h1.2.1
  have key:∀ (m:List Rt) (a:Option Int),(∀ r∈m,rowF E r=0)->(∀ x,a=some x->0<=x/\x<=100000)->∀ x,m.foldl (fun a r=>if decide (r.cat=c)&&!(beforeF E d r.fr) then some r.bp else a) a=some x->0<=x/\x<=100000:=by
   intro m
   induction m with
   | nil=>exact fun a _ ha x hx=>ha x hx
   | cons r t ih =>
    intro a hm ha x hx
    rw [List.foldl_cons] at hx
    refine ih _ (fun q hq=>hm q (List.mem_cons_of_mem _ hq)) (fun y hy=>?_) x hx
    split at hy
    ·cases hy
     have h0:=hm r List.mem_cons_self
     unfold rowF at h0
     split at h0
     ·cases h0
     ·split at h0
      ·cases h0
      ·split at h0
       ·cases h0
       ·omega
    ·exact ha y hy
  exact key l none hr (fun x hx=>by cases hx) bp h
theorem uH5 {table:List Rt} {d:Dt} {x:Li} {bp n:Int} (h:lineF E table d x=.inl (bp,n)):E.name x.cat=true/\0<=bp/\bp<=100000:=by
 unfold lineF at h
 split at h
 ·cases h
 ·split at h
  ·cases h
  ·rename_i hn
   split at h
   ·cases h
   ·split at h
    ·cases h
    ·rename_i b hb
     split at h
     ·cases h
     ·cases h
      exact⟨by simpa using hn,wM2 E hb⟩
theorem xK5 {table:List Rt} {d:Dt}:∀ {ls:List Li} {ps ps':List Pt} {m:Nat},yP1 E ps m->partsF E table d ls ps=.inl ps'->yP1 E ps' (m+ls.length)/\(ls≠[]∨1<=ps.length->1<=ps'.length)
 | [],ps,ps',m,hp,h=>by
  simp only [partsF,Sum.inl.injEq] at h
  subst h
  exact⟨by simpa using hp,fun h=>by rcases h with h | h;exact absurd rfl h;exact h⟩
 | x::xs,ps,ps',m,hp,h=>by
  unfold partsF at h
  split at h
  ·cases h
  ·rename_i bp n hl
   split at h
   ·cases h
   ·rename_i ps1 h1
    obtain⟨g1,g2⟩:=uH5 E hl
    obtain⟨i1,i2⟩:=wP3 E hp g1 g2 h1
    obtain⟨j1,j2⟩:=xK5 i1 h
    refine⟨?_,fun _=>j2 (.inr i2)⟩
    have e:m+(x::xs).length=m+1+xs.length:=by simp;omega
    rw [e]
    exact j1
theorem uS3 {l l':List Pt} (h:l'.map (·.cat)=l.map (·.cat)) (hp:l.Pairwise (fun a b=>ptLt a b=true)):l'.Pairwise (fun a b=>ptLt a b=true):=by
 have e:∀ m:List Pt,m.Pairwise (fun a b=>ptLt a b=true)↔(m.map (·.cat)).Pairwise (fun a b=>less a b=true):=fun m=>by
  rw [List.pairwise_map]
  rfl
 rw [e] at hp ⊢
 rw [h]
 exact hp
theorem yZ4 {α β:Type} {f:α->β} {l l':List α} (h:l'.map f=l.map f) {P:β->Prop} (hp:∀ x∈l,P (f x)):∀ x∈l',P (f x):=fun x hx=>by
 have:f x∈l.map f:=by rw [<- h];exact List.mem_map_of_mem hx
 obtain⟨y,hy,he⟩:=List.mem_map.1 this
 rw [<- he]
 exact hp y hy
theorem totOk_iff {t:Tot}:totOk E t=true↔1<=t.parts.length/\t.parts.length<=12/\(∀ p∈t.parts,E.name p.cat=true/\0<=p.bp/\p.bp<=100000/\E.tax p.net p.bp=some p.tax)/\t.parts.Pairwise (fun a b=>ptLt a b=true)/\(t.parts.map (·.net)).sum=t.net/\(t.parts.map (·.tax)).sum=t.tax/\t.net+t.tax=t.gross:=by
 unfold totOk sumsF ptOk
 simp only [Bool.and_eq_true,decide_eq_true_eq,List.all_eq_true,chain_pw yT1]
theorem totalF_ok {table:List Rt} {d:Dt} {ls:List Li} {t:Tot} (h:totalF E table d ls=.inl t):totOk E t=true/\I64 t.gross:=by
 unfold totalF at h
 split at h
 ·cases h
 ·split at h
  ·cases h
  ·split at h
   ·cases h
   ·rename_i hl0
    split at h
    ·cases h
    ·rename_i hl12
     split at h
     ·cases h
     ·rename_i ps hps
      split at h
      ·cases h
      ·rename_i ps' n x hw
       split at h
       ·cases h
       ·rename_i g hg
        cases h
        obtain⟨rfl,hgi⟩:=addZ_some hg
        obtain⟨i1,i2⟩:=xK5 E (m:=0) ⟨Nat.le_refl _,fun p hp=>(by cases hp),List.Pairwise.nil⟩ hps
        have hne:ls≠[]:=fun he=>hl0 (by rw [he];rfl)
        obtain⟨w1,w2,w3,w4,w5,w6⟩:=yI0 E hw
        obtain⟨q1,q2,q3⟩:=i1
        refine⟨(totOk_iff E).2 ⟨by simp only;have:=i2 (.inl hne);omega,by simp only;omega,fun p hp=>?_,uS3 w2 q3,by simp only;omega,by simp only;omega,rfl⟩,hgi⟩
        have a1:=yZ4 w2 (P:=fun c=>E.name c=true) (fun x hx=>(q2 x hx).1) p hp
        have a2:=yZ4 w3 (P:=fun b=>0<=b/\b<=100000) (fun x hx=>(q2 x hx).2) p hp
        exact⟨a1,a2.1,a2.2,w4 p hp⟩
def backPs:List Pt->Option (List Pt)
 | []=>some []
 | p::ps=>match negZ p.net with
  | none=>none
  | some n=>match negZ p.tax with
   | none=>none
   | some x=>(backPs ps).map fun l=>{ p with net:=n,tax:=x }::l
def backF (t:Tot):Option Tot:=match negZ t.net with
 | none=>none
 | some n=>match negZ t.tax with
  | none=>none
  | some x=>match negZ t.gross with
   | none=>none
   | some g=>(backPs t.parts).map fun l=>⟨n,x,g,l⟩
theorem negZ_some {a n:Int} (h:negZ a=some n):n = -a/\I64 (-a):=by
 unfold negZ at h
 split at h
 ·cases h
  exact⟨rfl,by assumption⟩
 ·cases h
theorem yO6:∀ {ps ps':List Pt},backPs ps=some ps'->ps'.length=ps.length/\ps'.map (·.cat)=ps.map (·.cat)/\ps'.map (·.bp)=ps.map (·.bp)/\(ps'.map (·.net)).sum = -(ps.map (·.net)).sum/\(ps'.map (·.tax)).sum = -(ps.map (·.tax)).sum/\((∀ p∈ps,E.tax p.net p.bp=some p.tax)->∀ p∈ps',E.tax p.net p.bp=some p.tax)
 | [],ps',h=>by
  simp only [backPs,Option.some.injEq] at h
  subst h
  simp
 | p::ps,ps',h=>by
  unfold backPs at h
  split at h
  ·cases h
  ·rename_i n hn
   split at h
   ·cases h
   ·rename_i x hx
    cases hb:backPs ps with
    | none=>rw [hb] at h;cases h
    | some l =>
     rw [hb] at h
     simp only [Option.map_some,Option.some.injEq] at h
     subst h
     obtain⟨i1,i2,i3,i4,i5,i6⟩:=yO6 hb
     obtain⟨rfl,hi⟩:=negZ_some hn
     obtain⟨rfl,_⟩:=negZ_some hx
     refine⟨by simp [i1],by simp [i2],by simp [i3],?_,?_,fun ht q hq=>?_⟩
     ·simp only [List.map_cons,List.sum_cons]
      omega
     ·simp only [List.map_cons,List.sum_cons]
      omega
     ·rcases List.mem_cons.1 hq with rfl | hq
      ·exact E.mir _ _ _ hi (ht p List.mem_cons_self)
      ·exact i6 (fun p hp=>ht p (List.mem_cons_of_mem _ hp)) q hq
theorem backF_ok {t t':Tot} (h:totOk E t=true) (hb:backF t=some t'):totOk E t'=true:=by
 rw [totOk_iff] at h ⊢
 obtain⟨h1,h2,h3,h4,h5,h6,h7⟩:=h
 unfold backF at hb
 split at hb
 ·cases hb
 ·rename_i n hn
  split at hb
  ·cases hb
  ·rename_i x hx
   split at hb
   ·cases hb
   ·rename_i g hg
    cases hp:backPs t.parts with
    | none=>rw [hp] at hb;cases hb
    | some l =>
     rw [hp] at hb
     simp only [Option.map_some,Option.some.injEq] at hb
     subst hb
     obtain⟨i1,i2,i3,i4,i5,i6⟩:=yO6 E hp
     obtain⟨rfl,_⟩:=negZ_some hn
     obtain⟨rfl,_⟩:=negZ_some hx
     obtain⟨rfl,_⟩:=negZ_some hg
     refine⟨by simp only;omega,by simp only;omega,fun p hp=>?_,uS3 i2 h4,by simp only;omega,by simp only;omega,by simp only;omega⟩
     have a1:=yZ4 i2 (P:=fun c=>E.name c=true) (fun x hx=>(h3 x hx).1) p hp
     have a2:=yZ4 i3 (P:=fun b=>0<=b/\b<=100000) (fun x hx=>⟨(h3 x hx).2.1,(h3 x hx).2.2.1⟩) p hp
     exact⟨a1,a2.1,a2.2,i6 (fun x hx=>(h3 x hx).2.2.2) p hp⟩
end
def owedA:ByteArray:=⟨#[111,119,101,100]⟩
def netA (c:ByteArray):ByteArray:=⟨#[110,101,116,47]⟩++c
def taxA (c:ByteArray):ByteArray:=⟨#[116,97,120,47]⟩++c
def entF:List Pt->Option (List Bal)
 | []=>some []
 | p::ps=>match negZ p.net with
  | none=>none
  | some n=>match negZ p.tax with
   | none=>none
   | some x=>(entF ps).map fun l=>⟨netA p.cat,n⟩::⟨taxA p.cat,x⟩::l
def entriesF (t:Tot):Option (List Bal):=(entF t.parts).map fun l=>⟨owedA,t.gross⟩::l
def balLt (a b:Bal):Bool:=less a.acc b.acc
def balPlace (l:List Bal) (c:ByteArray):Nat:=(l.takeWhile fun p=>less p.acc c).length
def balPut (l:List Bal) (x:Bal):Option (List Bal) :=
 let k:=balPlace l x.acc
 let l':=if (l[k]?.map (·.acc))=some x.acc then l else l.take k++⟨x.acc,0⟩::l.drop k
 match l'[k]? with
 | none=>none
 | some p=>(addZ p.amt x.amt).map fun m=>l'.set k { p with amt:=m }
def balsPut:List Bal->List Bal->Option (List Bal)
 | b,[]=>some b
 | b,x::xs=>match balPut b x with
  | none=>none
  | some b'=>balsPut b' xs
def enterF (b l:List Bal):List Bal ⊕ Int:=if chain balLt b=false then .inr 1 else match balsPut b l with
 | none=>.inr 7
 | some b'=>.inl b'
def bookOne (b:List Bal) (t:Tot):List Bal ⊕ Int:=match entriesF t with
 | none=>.inr 7
 | some l=>enterF b l
def bookedF:List Bal->List Pst->Option (List Bal)
 | b,[]=>some b
 | b,p::ps=>match bookOne b p.tot with
  | .inr _=>none
  | .inl b'=>bookedF b' ps
theorem yO3 {p:Pst}:∀ {l:List Pst} {b b1 b2:List Bal},bookedF b l=some b1->bookOne b1 p.tot=.inl b2->bookedF b (l++[p])=some b2
 | [],b,b1,b2,h,k=>by
  simp only [bookedF,Option.some.injEq] at h
  subst h
  simp only [List.nil_append,bookedF,k]
 | q::l,b,b1,b2,h,k=>by
  rw [List.cons_append]
  unfold bookedF at h ⊢
  split at h
  ·cases h
  ·rename_i b' hb
   exact yO3 h k
theorem xY7 {k:Nat} {v:Bool}:∀ {l:List Pst} {b:List Bal} {q:Pst},l[k]?=some q->bookedF b (l.set k { q with back:=v })=bookedF b l:=by
 intro l
 induction l generalizing k with
 | nil=>intro b q h;rw [List.getElem?_nil] at h;cases h
 | cons p l ih =>
  intro b q h
  cases k with
  | zero =>
   rw [List.getElem?_cons_zero] at h
   cases h
   rfl
  | succ k =>
   rw [List.getElem?_cons_succ] at h
   rw [List.set_cons_succ]
   unfold bookedF
   split
   ·rfl
   ·exact ih h
section
variable (E:Env)
def findP (l:List Pst) (r:Ref):Option Nat:=l.findIdx? fun p=>decide (p.ref=r)
def takesF (p from_:Pst):Bool:=decide (from_.of_=Ref.z)&&(!(beforeF E p.day from_.day)&&decide (backF from_.tot=some p.tot))
def backsTo (l:List Pst) (i:Nat):Option Nat:=match l[i]? with
 | none=>none
 | some p=>if p.of_=Ref.z then none else findP (l.take i) p.of_
def cntB (l:List Pst) (k:Nat):Nat:=((List.range l.length).filter fun j=>decide (backsTo l j=some k)).length
structure PostedOk (l:List Pst):Prop where
 len:l.length<=40
 tot:∀ p∈l,dayF E p.day=true/\totOk E p.tot=true
 of_:∀ i p,l[i]?=some p->p.of_=Ref.z∨∃ k q,findP (l.take i) p.of_=some k/\l[k]?=some q/\takesF E p q=true
 back:∀ i p,l[i]?=some p->cntB l i<=1/\(p.back=true↔cntB l i=1)
def cntS (l:List Pst) (s:ByteArray):Nat:=(l.filter fun p=>decide (p.ref.ser=s)).length
structure NumbersOk (ss:List Sr) (l:List Pst):Prop where
 ser:∀ p∈l,∃ x∈ss,x.name=p.ref.ser
 num:∀ i p,l[i]?=some p->p.ref.num=(cntS (l.take i) p.ref.ser:Int)+1
 next:∀ x∈ss,x.next=(cntS l x.name:Int)+1
structure StOk (s:St):Prop where
 table:vatRight E s.table=true
 series:srRight E s.series=true
 sess:sesRight s.sess=true
 next:1<=s.next/\s.next<=1099511627776/\∀ x∈s.sess,x.id < s.next
 posted:PostedOk E s.posted
 numbers:NumbersOk s.series s.posted
 book:bookedF [] s.posted=some s.book
theorem findIdx_lt {α:Type} {p:α->Bool}:∀ {l:List α} {k:Nat},l.findIdx? p=some k->k < l.length/\∃ x,l[k]?=some x/\p x=true
 | l,k,h=>by
  rw [List.findIdx?_eq_some_iff_getElem] at h
  obtain⟨h1,h2,_⟩:=h
  exact⟨h1,l[k],List.getElem?_eq_getElem h1,h2⟩
theorem backs_lt {l:List Pst} {i k:Nat} (h:backsTo l i=some k):k < i/\i < l.length:=by
 unfold backsTo at h
 split at h
 ·cases h
 ·rename_i p hp
  split at h
  ·cases h
  ·have hi:i < l.length:=by
    rcases Nat.lt_or_ge i l.length with h | h
    ·exact h
    ·rw [List.getElem?_eq_none h] at hp;cases hp
   have:=(findIdx_lt h).1
   rw [List.length_take] at this
   omega
theorem vR9 {l:List Pst} {p:Pst} {i:Nat} (hi:i < l.length):backsTo (l++[p]) i=backsTo l i:=by
 unfold backsTo
 rw [List.getElem?_append_left hi,List.take_append_of_le_length (Nat.le_of_lt hi)]
theorem yW1 {l:List Pst} {p:Pst}:backsTo (l++[p]) l.length=if p.of_=Ref.z then none else findP l p.of_:=by
 unfold backsTo
 rw [List.getElem?_append_right (Nat.le_refl _),Nat.sub_self,List.getElem?_cons_zero,List.take_append_of_le_length (Nat.le_refl _),List.take_length]
theorem vQ9 {l:List Pst} {p:Pst} {k:Nat}:cntB (l++[p]) k=cntB l k+(if backsTo (l++[p]) l.length=some k then 1 else 0):=by
 unfold cntB
 rw [List.length_append,List.length_singleton,List.range_succ,List.filter_append,List.length_append]
 have e:(List.range l.length).filter (fun j=>decide (backsTo (l++[p]) j=some k))=(List.range l.length).filter (fun j=>decide (backsTo l j=some k)) :=
  List.filter_congr fun j hj=>by rw [vR9 (List.mem_range.1 hj)]
 rw [e]
 congr 1
 rw [List.filter_cons]
 split
 ·rename_i h
  rw [if_pos (by simpa using h)]
  rfl
 ·rename_i h
  rw [if_neg (by simpa using h)]
  rfl
theorem vQ8 {l:List Pst} {k:Nat} (h:l.length<=k+1):cntB l k=0:=by
 unfold cntB
 rw [List.length_eq_zero_iff,List.filter_eq_nil_iff]
 intro j hj he
 have:=backs_lt (by simpa using he)
 omega
theorem xY0 {v:Bool}:∀ (m:List Pst) (k:Nat) (q:Pst),m[k]?=some q->∀ r,findP (m.set k { q with back:=v }) r=findP m r:=by
 intro m
 induction m with
 | nil=>intro k q h;rw [List.getElem?_nil] at h;cases h
 | cons x m ih =>
  intro k q h r
  cases k with
  | zero =>
   rw [List.getElem?_cons_zero] at h
   cases h
   rw [List.set_cons_zero]
   unfold findP
   rw [List.findIdx?_cons,List.findIdx?_cons]
  | succ k =>
   rw [List.getElem?_cons_succ] at h
   rw [List.set_cons_succ]
   have:=ih k q h r
   unfold findP at this ⊢
   rw [List.findIdx?_cons,List.findIdx?_cons,this]
theorem yV3 (l:List Pst) (k i:Nat) (q:Pst) (v:Bool) (h:l[k]?=some q) (r:Ref):findP ((l.set k { q with back:=v }).take i) r=findP (l.take i) r:=by
 rw [List.take_set]
 rcases Nat.lt_or_ge k i with hki | hki
 ·exact xY0 _ _ _ (by rw [List.getElem?_take_of_lt hki];exact h) r
 ·rw [List.set_eq_of_length_le (by rw [List.length_take];omega)]
theorem wV2 {l:List Pst} {k i:Nat} {q:Pst} {v:Bool} (h:l[k]?=some q):backsTo (l.set k { q with back:=v }) i=backsTo l i:=by
 have hf:=yV3 l k i q v h
 unfold backsTo
 by_cases hik:k=i
 ·subst hik
  have hlt:k < l.length:=by
   rcases Nat.lt_or_ge k l.length with hh | hh
   ·exact hh
   ·rw [List.getElem?_eq_none hh] at h;cases h
  rw [List.getElem?_set_self hlt,h]
  simp only [hf]
 ·rw [List.getElem?_set_ne hik]
  split
  ·rfl
  ·rw [hf]
theorem uN4 {l:List Pst} {k i:Nat} {q:Pst} {v:Bool} (h:l[k]?=some q):cntB (l.set k { q with back:=v }) i=cntB l i:=by
 unfold cntB
 rw [List.length_set]
 congr 1
 exact List.filter_congr fun j _=>by rw [wV2 h]
theorem xV1 {l:List Pst} {p:Pst} (h:PostedOk E l) (hl:l.length < 40) (hd:dayF E p.day=true) (ht:totOk E p.tot=true) (ho:p.of_=Ref.z) (hb:p.back=false):PostedOk E (l++[p]):=by
 have hlast:∀ k,¬ backsTo (l++[p]) l.length=some k:=fun k hk=>by
  rw [yW1,if_pos ho] at hk
  cases hk
 refine⟨by rw [List.length_append,List.length_singleton];omega,fun q hq=>?_,fun i q hq=>?_,fun i q hq=>?_⟩
 ·rcases List.mem_append.1 hq with hq | hq
  ·exact h.tot q hq
  ·rw [List.mem_singleton.1 hq]
   exact⟨hd,ht⟩
 ·rcases Nat.lt_or_ge i l.length with hi | hi
  ·rw [List.getElem?_append_left hi] at hq
   rw [List.take_append_of_le_length (Nat.le_of_lt hi)]
   rcases h.of_ i q hq with h0 | ⟨k,x,e1,e2,e3⟩
   ·exact .inl h0
   ·refine .inr ⟨k,x,e1,?_,e3⟩
    have hk:=(findIdx_lt e1).1
    rw [List.length_take] at hk
    rw [List.getElem?_append_left (by omega)]
    exact e2
  ·rw [List.getElem?_append_right hi] at hq
   have h0:i - l.length=0:=by
    rcases Nat.eq_zero_or_pos (i - l.length) with h | h
    ·exact h
    ·rw [List.getElem?_eq_none (by simp;omega)] at hq;cases hq
   rw [h0,List.getElem?_cons_zero] at hq
   cases hq
   exact .inl ho
 ·rw [vQ9,if_neg (hlast i),Nat.add_zero]
  rcases Nat.lt_or_ge i l.length with hi | hi
  ·rw [List.getElem?_append_left hi] at hq
   exact h.back i q hq
  ·rw [List.getElem?_append_right hi] at hq
   have h0:i - l.length=0:=by
    rcases Nat.eq_zero_or_pos (i - l.length) with h | h
    ·exact h
    ·rw [List.getElem?_eq_none (by simp;omega)] at hq;cases hq
   rw [h0,List.getElem?_cons_zero] at hq
   cases hq
   rw [vQ8 (by omega),hb]
   simp
theorem yY7 {l:List Pst} {p q:Pst} {k:Nat} (h:PostedOk E l) (hl:l.length < 40) (hd:dayF E p.day=true) (ht:totOk E p.tot=true) (ho:p.of_≠Ref.z) (hb:p.back=false) (hk:findP l p.of_=some k) (hq:l[k]?=some q) (hqb:q.back=false) (htk:takesF E p q=true) :
  PostedOk E ((l++[p]).set k { q with back:=true }):=by
 have hkl:k < l.length:=(findIdx_lt hk).1
 have hq2:(l++[p])[k]?=some q:=by rw [List.getElem?_append_left hkl];exact hq
 have hkl2:k < (l++[p]).length:=by rw [List.length_append];omega
 have hlast:backsTo (l++[p]) l.length=some k:=by rw [yW1,if_neg ho];exact hk
 have hget:∀ i x,((l++[p]).set k { q with back:=true })[i]?=some x->∃ y,(l++[p])[i]?=some y/\x.day=y.day/\x.tot=y.tot/\x.of_=y.of_/\x.ref=y.ref/\(x.back=if i=k then true else y.back):=fun i x hx=>by
  by_cases hik:k=i
  ·subst hik
   rw [List.getElem?_set_self hkl2] at hx
   cases hx
   exact⟨q,hq2,rfl,rfl,rfl,rfl,by simp⟩
  ·rw [List.getElem?_set_ne hik] at hx
   exact⟨x,hx,rfl,rfl,rfl,rfl,by rw [if_neg (fun he=>hik he.symm)]⟩
 have hcnt:∀ i,cntB ((l++[p]).set k { q with back:=true }) i=cntB l i+(if i=k then 1 else 0):=fun i=>by
  rw [uN4 hq2,vQ9,hlast]
  congr 1
  by_cases he:i=k
  ·rw [if_pos (by rw [he]),if_pos he]
  ·rw [if_neg (fun h=>he (Option.some.inj h).symm),if_neg he]
 have hof:∀ i y,(l++[p])[i]?=some y->y.of_=Ref.z∨∃ k' x,findP ((l++[p]).take i) y.of_=some k'/\(l++[p])[k']?=some x/\takesF E y x=true:=fun i y hy=>by
  rcases Nat.lt_or_ge i l.length with hi | hi
  ·rw [List.getElem?_append_left hi] at hy
   rw [List.take_append_of_le_length (Nat.le_of_lt hi)]
   rcases h.of_ i y hy with h0 | ⟨k',x,e1,e2,e3⟩
   ·exact .inl h0
   ·refine .inr ⟨k',x,e1,?_,e3⟩
    have hk:=(findIdx_lt e1).1
    rw [List.length_take] at hk
    rw [List.getElem?_append_left (by omega)]
    exact e2
  ·rw [List.getElem?_append_right hi] at hy
   have h0:i - l.length=0:=by
    rcases Nat.eq_zero_or_pos (i - l.length) with h | h
    ·exact h
    ·rw [List.getElem?_eq_none (by simp;omega)] at hy;cases hy
   have hil:i=l.length:=by omega
   rw [h0,List.getElem?_cons_zero] at hy
   cases hy
   refine .inr ⟨k,q,?_,hq2,htk⟩
   rw [hil,List.take_append_of_le_length (Nat.le_refl _),List.take_length]
   exact hk
 have hfp:∀ i r,findP (((l++[p]).set k { q with back:=true }).take i) r=findP ((l++[p]).take i) r:=fun i r=>yV3 (l++[p]) k i q true hq2 r
 refine⟨by rw [List.length_set,List.length_append,List.length_singleton];omega,fun x hx=>?_,fun i x hx=>?_,fun i x hx=>?_⟩
 ·obtain⟨i,hi⟩:=List.getElem?_of_mem hx
  obtain⟨y,hy,e1,e2,_⟩:=hget i x hi
  rw [e1,e2]
  rcases List.mem_append.1 (List.mem_of_getElem? hy) with hy | hy
  ·exact h.tot y hy
  ·rw [List.mem_singleton.1 hy]
   exact⟨hd,ht⟩
 ·obtain⟨y,hy,e1,e2,e3,_,_⟩:=hget i x hx
  rw [e3]
  rcases hof i y hy with h0 | ⟨k',z,f1,f2,f3⟩
  ·exact .inl h0
  ·right
   have hz:∃ z',((l++[p]).set k { q with back:=true })[k']?=some z'/\z'.of_=z.of_/\z'.day=z.day/\z'.tot=z.tot:=by
    by_cases hik:k=k'
    ·subst hik
     rw [hq2] at f2
     cases f2
     exact⟨_,List.getElem?_set_self hkl2,rfl,rfl,rfl⟩
    ·exact⟨z,by rw [List.getElem?_set_ne hik];exact f2,rfl,rfl,rfl⟩
   obtain⟨z',g1,g2,g3,g4⟩:=hz
   refine⟨k',z',by rw [hfp];exact f1,g1,?_⟩
   unfold takesF at f3 ⊢
   rw [g2,g3,g4,e1,e2]
   exact f3
 ·obtain⟨y,hy,_,_,_,_,e5⟩:=hget i x hx
  rw [hcnt,e5]
  by_cases he:i=k
  ·subst he
   rw [hq2] at hy
   cases hy
   obtain⟨c1,c2⟩:=h.back i q hq
   have hc0:cntB l i=0:=by
    rcases Nat.lt_or_ge (cntB l i) 1 with h | h
    ·omega
    ·have:cntB l i=1:=by omega
     have:=c2.2 this
     rw [hqb] at this
     cases this
   simp [hc0]
  ·rw [if_neg he,if_neg he,Nat.add_zero]
   rcases Nat.lt_or_ge i l.length with hi | hi
   ·rw [List.getElem?_append_left hi] at hy
    exact h.back i y hy
   ·rw [List.getElem?_append_right hi] at hy
    have h0:i - l.length=0:=by
     rcases Nat.eq_zero_or_pos (i - l.length) with h | h
     ·exact h
     ·rw [List.getElem?_eq_none (by simp;omega)] at hy;cases hy
    rw [h0,List.getElem?_cons_zero] at hy
    cases hy
    rw [vQ8 (by omega),hb]
    simp
end
structure Ca where
 session:Int
 seq:Int
 cmd:Cd
def whyR (e:Int):Rp:=⟨e,0,0⟩
section
variable (E:Env)
def srTakeF (l:List Sr) (name:ByteArray):(List Sr × Int) ⊕ Int:=match srFree E l name with
 | (k,e)=>if e≠0 then .inr e else match l[k]? with
  | none=>.inr 11
  | some s=>if s.limit < s.next then .inr 14 else .inl (l.set k { s with next:=s.next+1 },s.next)
def issueF (s:St) (name:ByteArray) (p:Pst):St × Rp:=match srTakeF E s.series name with
 | .inr e=>(s,whyR e)
 | .inl (l,n)=>if 40<=s.posted.length then (s,whyR 14) else match bookOne s.book p.tot with
  | .inr e=>(s,whyR e)
  | .inl b=>({ s with series:=l,book:=b,posted:=s.posted++[{ p with ref:=⟨name,n⟩ }] },⟨0,n,p.tot.gross⟩)
def billF (s:St) (c:Cd):St × Rp:=match totalF E s.table c.day c.lines with
 | .inr e=>(s,whyR e)
 | .inl t=>issueF E s c.series ⟨Ref.z,c.day,t,Ref.z,false⟩
def creditF (s:St) (c:Cd):St × Rp:=match findP s.posted c.of_ with
 | none=>(s,whyR 11)
 | some k=>match s.posted[k]? with
  | none=>(s,whyR 11)
  | some p=>if p.back=true∨p.of_≠Ref.z then (s,whyR 12) else if dayF E c.day=false∨beforeF E c.day p.day=true then (s,whyR 9) else match backF p.tot with
   | none=>(s,whyR 7)
   | some t=>match issueF E s c.series ⟨Ref.z,c.day,t,c.of_,false⟩ with
    | (s',r)=>if r.why=0 then ({ s' with posted:=s'.posted.set k { p with back:=true } },r) else (s',r)
def askF (s:St) (name:ByteArray):Rp:=match srAt s.series name with
 | none=>whyR 11
 | some k=>match s.series[k]? with
  | none=>whyR 11
  | some x=>⟨0,x.next - 1,s.book.foldl (fun g b=>if b.acc=owedA then b.amt else g) 0⟩
def srShutF (l:List Sr) (name:ByteArray):List Sr × Int:=match srFree E l name with
 | (k,e)=>if e≠0 then ([],e) else match l[k]? with
  | none=>([],11)
  | some s=>(l.set k { s with shut:=true },0)
def sesLeave (l:List Ses) (id:Int):List Ses × Int:=match sesAt l id with
 | none=>([],11)
 | some k=>(l.eraseIdx k,0)
def doF (s:St) (c:Cd):St × Rp :=
 if c.kind=1 then (if (srOpen E s.series c.series c.limit).2=0 then { s with series:=(srOpen E s.series c.series c.limit).1 } else s,whyR (srOpen E s.series c.series c.limit).2)
 else if c.kind=2 then (if (srShutF E s.series c.series).2=0 then { s with series:=(srShutF E s.series c.series).1 } else s,whyR (srShutF E s.series c.series).2)
 else if c.kind=3 then (if (vatPut E s.table c.row).2=0 then { s with table:=(vatPut E s.table c.row).1 } else s,whyR (vatPut E s.table c.row).2)
 else if c.kind=4 then billF E s c
 else if c.kind=5 then creditF E s c
 else if c.kind=7 then (if (sesLeave s.sess c.session).2=0 then { s with sess:=(sesLeave s.sess c.session).1 } else s,whyR (sesLeave s.sess c.session).2)
 else (s,askF s c.series)
def lookF (l:List Ses) (id seq:Int):(Rp × Bool) ⊕ Int:=match sesAt l id with
 | none=>.inr 15
 | some k=>match l[k]? with
  | none=>.inr 15
  | some x=>if seq < 1∨seq > 1099511627776 then .inr 1 else if seq=x.last then .inl (x.rep,true) else if seq < x.last then .inr 16 else .inl (⟨0,0,0⟩,false)
def keepF (l:List Ses) (id seq:Int) (r:Rp):List Ses:=match lookF l id seq with
 | .inr _=>l
 | .inl (_,had)=>if had then l else match sesAt l id with
  | none=>l
  | some k=>match l[k]? with
   | none=>l
   | some x=>l.set k { x with last:=seq,rep:=r }
def joinF (s:St):St × Rp:=if 8<=s.sess.length∨1099511627776<=s.next then (s,whyR 14) else ({ s with sess:=insF sesLt ⟨s.next,0,⟨0,0,0⟩⟩ s.sess,next:=s.next+1 },⟨0,s.next,0⟩)
def applyF (s:St) (c:Ca):St × Rp :=
 if c.cmd.kind < 1∨c.cmd.kind > 8 then (s,whyR 17) else if c.cmd.kind=6 then joinF s else match lookF s.sess c.session c.seq with
 | .inr e=>(s,whyR e)
 | .inl (old,had)=>if had then (s,old) else match doF E s c.cmd with
  | (s',r)=>({ s' with sess:=keepF s'.sess c.session c.seq r },r)
theorem sesRight_iff {l:List Ses}:sesRight l=true↔l.length<=8/\(∀ x∈l,sesOk x=true)/\(∀ x∈l,0 < x.id)/\l.Pairwise (fun a b=>sesLt a b=true):=by
 unfold sesRight
 simp only [Bool.and_eq_true,decide_eq_true_eq,List.all_eq_true,chain_pw sesLt_trans]
theorem vO6 {l:List Sr} {name:ByteArray} {k:Nat} (h:srFree E l name=(k,0)):∃ s,l[k]?=some s/\s.shut=false/\s.name=name:=by
 unfold srFree at h
 split at h
 ·cases h
 ·split at h
  ·cases h
  ·rename_i k' hk
   obtain⟨_,x,hx,hp⟩:=findIdx_lt hk
   rw [hx] at h
   simp only at h
   split at h
   ·cases h
   ·rename_i hs
    cases h
    exact⟨x,hx,by simpa using hs,by simpa using hp⟩
theorem cntS_app {l:List Pst} {p:Pst} {s:ByteArray}:cntS (l++[p]) s=cntS l s+(if p.ref.ser=s then 1 else 0):=by
 unfold cntS
 rw [List.filter_append,List.length_append,List.filter_cons]
 split
 ·rename_i h
  rw [if_pos (by simpa using h)]
  rfl
 ·rename_i h
  rw [if_neg (by simpa using h)]
  rfl
theorem wL3 {l m:List Pst} (h:m.map (·.ref)=l.map (·.ref)) (s:ByteArray):cntS m s=cntS l s:=by
 have e:∀ x:List Pst,cntS x s=((x.map (·.ref)).filter fun r=>decide (r.ser=s)).length:=fun x=>by
  unfold cntS
  rw [List.filter_map,List.length_map]
  rfl
 rw [e,e,h]
theorem xV9 {ss:List Sr} {l m:List Pst} (h:m.map (·.ref)=l.map (·.ref)) (hn:NumbersOk ss l):NumbersOk ss m:=by
 refine⟨fun p hp=>?_,fun i p hp=>?_,fun x hx=>by rw [wL3 h];exact hn.next x hx⟩
 ·have:p.ref∈l.map (·.ref):=by rw [<- h];exact List.mem_map_of_mem hp
  obtain⟨q,hq,he⟩:=List.mem_map.1 this
  rw [<- he]
  exact hn.ser q hq
 ·have h1:(m.map (·.ref))[i]?=some p.ref:=by rw [List.getElem?_map,hp];rfl
  rw [h,List.getElem?_map] at h1
  cases hq:l[i]? with
  | none=>rw [hq] at h1;cases h1
  | some q =>
   rw [hq] at h1
   have he:q.ref=p.ref:=Option.some.inj h1
   have:=hn.num i q hq
   rw [he] at this
   rw [wL3 (l:=l.take i) (by rw [List.map_take,List.map_take,h])]
   exact this
theorem pw_names {l:List Sr} (h:l.Pairwise (fun a b=>srLt a b=true)) {i j:Nat} {x y:Sr} (hi:l[i]?=some x) (hj:l[j]?=some y) (he:x.name=y.name):i=j:=by
 have key:∀ {a b:Nat} {u v:Sr},a < b->l[a]?=some u->l[b]?=some v->less u.name v.name=true:=by
  intro a b u v hab hu hv
  obtain⟨h1,e1⟩:=List.getElem?_eq_some_iff.1 hu
  obtain⟨h2,e2⟩:=List.getElem?_eq_some_iff.1 hv
  have:=List.pairwise_iff_getElem.1 h a b h1 h2 hab
  rw [e1,e2] at this
  exact this
 rcases Nat.lt_trichotomy i j with hlt | hlt | hlt
 ·have:=key hlt hi hj
  rw [he,wI6] at this
  cases this
 ·exact hlt
 ·have:=key hlt hj hi
  rw [he,wI6] at this
  cases this
theorem uV3 {ss ss':List Sr} {l:List Pst} {name:ByteArray} {n:Int} {p:Pst} (hs:srRight E ss=true) (hn:NumbersOk ss l) (h:srTakeF E ss name=.inl (ss',n)) (hp:p.ref=⟨name,n⟩):srRight E ss'=true/\NumbersOk ss' (l++[p]):=by
 unfold srTakeF at h
 split at h
 rename_i k e hf
 split at h
 ·cases h
 ·rename_i he
  have he0:e=0:=by simpa using he
  subst he0
  obtain⟨x,hx,hxs,hxn⟩:=vO6 E hf
  rw [hx] at h
  simp only at h
  split at h
  ·cases h
  ·rename_i hlim
   simp only [Sum.inl.injEq,Prod.mk.injEq] at h
   obtain⟨rfl,rfl⟩:=h
   have hxm:x∈ss:=List.mem_of_getElem? hx
   have hxo:srOk E x=true:=by
    unfold srRight at hs
    simp only [Bool.and_eq_true,List.all_eq_true] at hs
    exact hs.2.1 x hxm
   have hpw:ss.Pairwise (fun a b=>srLt a b=true):=by
    unfold srRight at hs
    simp only [Bool.and_eq_true,chain_pw srLt_trans] at hs
    exact hs.2.2
   have hkl:k < ss.length:=by
    rcases Nat.lt_or_ge k ss.length with h | h
    ·exact h
    ·rw [List.getElem?_eq_none h] at hx;cases hx
   have hnx:=hn.next x hxm
   refine⟨yI5 E hs hx rfl ?_,?_,?_,?_⟩
   ·unfold srOk at hxo ⊢
    simp only [Bool.and_eq_true,decide_eq_true_eq] at hxo ⊢
    refine⟨hxo.1,hxo.2.1,hxo.2.2.1,by omega,by omega⟩
   ·intro q hq
    rcases List.mem_append.1 hq with hq | hq
    ·obtain⟨y,hy,hye⟩:=hn.ser q hq
     obtain⟨i,hi⟩:=List.getElem?_of_mem hy
     by_cases hik:k=i
     ·subst hik
      rw [hx] at hi
      cases hi
      exact⟨_,List.mem_of_getElem? (List.getElem?_set_self hkl),hye⟩
     ·exact⟨y,List.mem_of_getElem? (by rw [List.getElem?_set_ne hik];exact hi),hye⟩
    ·rw [List.mem_singleton.1 hq,hp]
     exact⟨_,List.mem_of_getElem? (List.getElem?_set_self hkl),hxn⟩
   ·intro i q hq
    rcases Nat.lt_or_ge i l.length with hi | hi
    ·rw [List.getElem?_append_left hi] at hq
     rw [List.take_append_of_le_length (Nat.le_of_lt hi)]
     exact hn.num i q hq
    ·rw [List.getElem?_append_right hi] at hq
     have h0:i - l.length=0:=by
      rcases Nat.eq_zero_or_pos (i - l.length) with h | h
      ·exact h
      ·rw [List.getElem?_eq_none (by simp;omega)] at hq;cases hq
     have hil:i=l.length:=by omega
     rw [h0,List.getElem?_cons_zero] at hq
     cases hq
     rw [hil,List.take_append_of_le_length (Nat.le_refl _),List.take_length,hp]
     simp only
     rw [hnx,hxn]
   ·intro y hy
    rw [cntS_app,hp]
    simp only
    obtain⟨i,hi⟩:=List.getElem?_of_mem hy
    by_cases hik:k=i
    ·subst hik
     rw [List.getElem?_set_self hkl] at hi
     cases hi
     simp only
     rw [if_pos hxn.symm]
     omega
    ·rw [List.getElem?_set_ne hik] at hi
     have hne:name≠y.name:=fun he=>hik (pw_names hpw hx hi (hxn.trans he))
     rw [if_neg hne]
     exact hn.next y (List.mem_of_getElem? hi)
theorem take_err {ss:List Sr} {name:ByteArray} {e:Int} (h:srTakeF E ss name=.inr e):e≠0:=by
 unfold srTakeF at h
 split at h
 split at h
 ·cases h
  assumption
 ·split at h
  ·cases h
   decide
  ·split at h
   ·cases h
    decide
   ·cases h
theorem book_err {b:List Bal} {t:Tot} {e:Int} (h:bookOne b t=.inr e):e≠0:=by
 unfold bookOne enterF at h
 split at h
 ·cases h
  decide
 ·split at h
  ·cases h
   decide
  ·split at h
   ·cases h
    decide
   ·cases h
theorem wJ3 {s s':St} {name:ByteArray} {p:Pst} {r:Rp} (h:StOk E s) (hi:issueF E s name p=(s',r)):(r.why≠0/\s'=s)∨(r.why=0/\∃ n l b,s'={ s with series:=l,book:=b,posted:=s.posted++[{ p with ref:=⟨name,n⟩ }] }/\s.posted.length < 40/\srRight E l=true/\NumbersOk l (s.posted++[{ p with ref:=⟨name,n⟩ }])/\bookedF [] (s.posted++[{ p with ref:=⟨name,n⟩ }])=some b):=by
 unfold issueF at hi
 split at hi
 ·rename_i e he
  cases hi
  exact .inl ⟨take_err E he,rfl⟩
 ·rename_i l n ht
  split at hi
  ·cases hi
   exact .inl ⟨by decide,rfl⟩
  ·rename_i hl
   split at hi
   ·rename_i e he
    cases hi
    exact .inl ⟨book_err he,rfl⟩
   ·rename_i b hb
    cases hi
    obtain⟨t1,t2⟩:=uV3 E (p:={ p with ref:=⟨name,n⟩ }) h.series h.numbers ht rfl
    exact .inr ⟨rfl,n,l,b,rfl,by omega,t1,t2,yO3 h.book hb⟩
end
end Go.Proofs.YtpccdcnjkknmkaaGreatDoor.bil
namespace Go.Proofs.YtpccdcnjkknmkaaGreatDoor.Ev
open Go
inductive LTy where
 | rate | series | part | posted | bal | ses | line | int | call | reply | byte | text | pend
 deriving Inhabited,DecidableEq
structure Pnd where
 ref:bil.Ref
 day:bil.Dt
 net:Int
 tax:Int
 gross:Int
 pa:Option Addr
 pl:Nat
 pc:Nat
 of_:bil.Ref
 back:Bool
abbrev Elem:LTy->Type
 | .rate=>bil.Rt
 | .series=>bil.Sr
 | .part=>bil.Pt
 | .posted=>bil.Pst
 | .bal=>bil.Bal
 | .ses=>bil.Ses
 | .line=>bil.Li
 | .int=>Int
 | .call=>bil.Ca
 | .reply=>bil.Rp
 | .byte=>UInt8
 | .text=>ByteArray
 | .pend=>Pnd
def dflD:bil.Dt:=⟨0,0,0⟩
def qW8:bil.Rt:=⟨⟨#[]⟩,dflD,0⟩
def dfl:(t:LTy)->Elem t
 | .rate=>qW8
 | .series=>⟨⟨#[]⟩,0,0,false⟩
 | .part=>⟨⟨#[]⟩,0,0,0⟩
 | .posted=>⟨bil.Ref.z,dflD,⟨0,0,0,[]⟩,bil.Ref.z,false⟩
 | .bal=>⟨⟨#[]⟩,0⟩
 | .ses=>⟨0,0,⟨0,0,0⟩⟩
 | .line=>⟨⟨#[]⟩,⟨#[]⟩,0,0⟩
 | .int=>(0:Int)
 | .call=>⟨0,0,⟨0,⟨#[]⟩,0,qW8,dflD,[],bil.Ref.z,0⟩⟩
 | .reply=>⟨0,0,0⟩
 | .byte=>(0:UInt8)
 | .text=>(⟨#[]⟩:ByteArray)
 | .pend=>⟨bil.Ref.z,dflD,0,0,0,none,0,0,bil.Ref.z,false⟩
def nth {t:LTy} (l:List (Elem t)) (n:Nat):Elem t:=l.getD n (dfl t)
inductive AV where
 | bool (b:Bool)
 | int (k:IntKind) (n:Int)
 | str (s:List UInt8)
 | ptr (i off:Nat)
 | nilp
 | sl (i off len cap:Nat)
 | so (i esz off len:Nat)
 | nilsl
 | emp
 | fn (f:Nat) (cs:List AV)
 | nilfn
 | ifc (t:Nat) (v:AV)
 | nilifc
 | agg (cs:List AV)
 | tup (vs:List AV)
 | fl (t:LTy) (l:List (Elem t))
 | fp (t:LTy) (l:List (Elem t)) (n off:Nat)
 | tp (i n e off:Nat)
 | vs (a:Option Addr) (len cap:Nat)
 deriving Inhabited
def tx (s:ByteArray):AV:=.str s.data.toList
def i64 (n:Int):AV:=.int .i64 n
def cD (d:bil.Dt):List AV:=[i64 d.y,i64 d.m,i64 d.d]
def cRt (r:bil.Rt):List AV:=[tx r.cat,i64 r.fr.y,i64 r.fr.m,i64 r.fr.d,i64 r.bp]
def enc:(t:LTy)->Elem t->List AV
 | .rate,r=>cRt r
 | .series,s=>[tx s.name,i64 s.next,i64 s.limit,.bool s.shut]
 | .part,p=>[tx p.cat,i64 p.bp,i64 p.net,i64 p.tax]
 | .posted,p=>[tx p.ref.ser,i64 p.ref.num,i64 p.day.y,i64 p.day.m,i64 p.day.d,i64 p.tot.net,i64 p.tot.tax,i64 p.tot.gross,.fl .part p.tot.parts,tx p.of_.ser,i64 p.of_.num,.bool p.back]
 | .bal,b=>[tx b.acc,i64 b.amt]
 | .ses,s=>[i64 s.id,i64 s.last,i64 s.rep.why,i64 s.rep.number,i64 s.rep.gross]
 | .line,l=>[tx l.text,tx l.cat,i64 l.count,i64 l.price]
 | .int,n=>[i64 n]
 | .call,c=>[i64 c.session,i64 c.seq,i64 c.cmd.kind,tx c.cmd.series,i64 c.cmd.limit,tx c.cmd.row.cat,i64 c.cmd.row.fr.y,i64 c.cmd.row.fr.m,i64 c.cmd.row.fr.d,i64 c.cmd.row.bp,
  i64 c.cmd.day.y,i64 c.cmd.day.m,i64 c.cmd.day.d,.fl .line c.cmd.lines,tx c.cmd.of_.ser,i64 c.cmd.of_.num,i64 c.cmd.session]
 | .reply,r=>[i64 r.why,i64 r.number,i64 r.gross]
 | .byte,b=>[.int .u8 (.ofNat b.toNat)]
 | .text,s=>[tx s]
 | .pend,p=>[tx p.ref.ser,i64 p.ref.num,i64 p.day.y,i64 p.day.m,i64 p.day.d,i64 p.net,i64 p.tax,i64 p.gross,.vs p.pa p.pl p.pc,tx p.of_.ser,i64 p.of_.num,.bool p.back]
def wd:LTy->Nat
 | .rate=>5 | .series=>4 | .part=>4 | .posted=>12 | .bal=>2 | .ses=>5 | .line=>4 | .int=>1 | .call=>17 | .reply=>3 | .byte=>1 | .text=>1 | .pend=>12
theorem zF8:∀ (t:LTy) (x:Elem t),(enc t x).length=wd t
 | .rate,_=>rfl
 | .series,_=>rfl
 | .part,_=>rfl
 | .posted,_=>rfl
 | .bal,_=>rfl
 | .ses,_=>rfl
 | .line,_=>rfl
 | .int,_=>rfl
 | .call,_=>rfl
 | .reply,_=>rfl
 | .byte,_=>rfl
 | .text,_=>rfl
 | .pend,_=>rfl
inductive T (α:Type) where
 | nil
 | node (l:T α) (x:Option α) (r:T α)
 deriving Inhabited
abbrev Path:=List Bool
namespace T
variable {α:Type}
def get:T α->Path->Option α
 | .nil,_=>none
 | .node _ x _,[]=>x
 | .node l _ r,b::p=>bif b then get l p else get r p
def set:T α->Path->α->T α
 | .nil,[],v=>.node .nil (some v) .nil
 | .node l _ r,[],v=>.node l (some v) r
 | .nil,b::p,v=>bif b then .node (set .nil p v) none .nil else .node .nil none (set .nil p v)
 | .node l x r,b::p,v=>bif b then .node (set l p v) x r else .node l x (set r p v)
def del:T α->Path->T α
 | .nil,_=>.nil
 | .node l _ r,[]=>.node l none r
 | .node l x r,b::p=>bif b then .node (del l p) x r else .node l x (del r p)
theorem get_nil (p:Path):get (.nil:T α) p=none:=by cases p<;>rfl
theorem get_set (t:T α) (p q:Path) (v:α):(t.set p v).get q=if q=p then some v else t.get q:=by
 induction p generalizing t q with
 | nil =>
  cases t<;>cases q<;>simp [set,get]
 | cons b p ih =>
  cases t with
  | nil =>
   cases b<;>cases q with
   | nil=>simp [set,get]
   | cons c q=>cases c<;>simp [set,get,ih]
  | node l x r =>
   cases b<;>cases q with
   | nil=>simp [set,get]
   | cons c q=>cases c<;>simp [set,get,ih]
theorem get_del (t:T α) (p q:Path):(t.del p).get q=if q=p then none else t.get q:=by
 induction p generalizing t q with
 | nil =>
  cases t<;>cases q<;>simp [del,get,get_nil]
 | cons b p ih =>
  cases t with
  | nil=>simp [del,get_nil]
  | node l x r =>
   cases b<;>cases q with
   | nil=>simp [del,get]
   | cons c q=>cases c<;>simp [del,get,ih]
def setK {β:Type}:T α->Path->α->(T α->β)->β
 | .nil,[],v,k=>k (.node .nil (some v) .nil)
 | .node l _ r,[],v,k=>k (.node l (some v) r)
 | .nil,true::p,v,k=>setK .nil p v fun l=>k (.node l none .nil)
 | .nil,false::p,v,k=>setK .nil p v fun r=>k (.node .nil none r)
 | .node l x r,true::p,v,k=>setK l p v fun l=>k (.node l x r)
 | .node l x r,false::p,v,k=>setK r p v fun r=>k (.node l x r)
theorem setK_eq {β:Type} (t:T α) (p:Path) (v:α) (k:T α->β):t.setK p v k=k (t.set p v):=by
 induction p generalizing t k with
 | nil=>cases t<;>rfl
 | cons b p ih=>cases t<;>cases b<;>simp [setK,set,ih]
end T
def bitsOf:Nat->Nat->Path
 | 0,_=>[]
 | f+1,n=>bif Nat.beq n 0 then [] else Nat.beq (n % 2) 1::bitsOf f (n / 2)
def pth (n:Nat):Path:=bitsOf n n
def wY3:Path->Nat
 | []=>0
 | b::p=>(bif b then 1 else 0)+2*wY3 p
theorem yC8 (f n:Nat) (h:n<=f):wY3 (bitsOf f n)=n:=by
 induction f generalizing n with
 | zero=>simp [bitsOf,wY3];omega
 | succ f ih =>
  simp only [bitsOf]
  by_cases h0:n=0
  ·subst h0;rfl
  ·have e:Nat.beq n 0=false:=by
    cases n with
    | zero=>exact absurd rfl h0
    | succ m=>rfl
   rw [e]
   simp only [cond_false,wY3]
   rw [ih (n / 2) (by omega)]
   have e2:(bif Nat.beq (n % 2) 1 then 1 else 0)=n % 2:=by
    rcases Nat.mod_two_eq_zero_or_one n with h | h<;>rw [h]<;>rfl
   rw [e2];omega
theorem zL9 {a b:Nat} (h:pth a=pth b):a=b:=by
 have:=congrArg wY3 h
 rwa [pth,pth,yC8 _ _ (Nat.le_refl _),yC8 _ _ (Nat.le_refl _)] at this
theorem yK0 {a b:Nat}:pth a=pth b↔a=b:=⟨zL9,fun h=>h ▸ rfl⟩
def flat (t:LTy) (l:List (Elem t)):List AV:=l.flatMap (enc t)
inductive Cont where
 | raw (cs:List AV)
 | ls (t:LTy) (l:List (Elem t))
 deriving Inhabited
structure Blk where
 ct:Cont
 esz:Nat
 opn:Bool
 deriving Inhabited
def Cont.cells:Cont->List AV
 | .raw cs=>cs
 | .ls t l=>flat t l
abbrev Blk.cells (B:Blk):List AV:=B.ct.cells
abbrev Blk.raw (cs:List AV) (esz:Nat) (opn:Bool):Blk:=⟨.raw cs,esz,opn⟩
structure Mem where
 h:T Blk
 nx:Nat
 tch:Nat
 wr:Nat
 deriving Inhabited
def Mem.at (m:Mem) (i:Nat):Option Blk:=m.h.get (pth i)
structure Ren where
 f:Nat->Option (Nat × Nat × Nat)
 ice:Nat->Option (Array Value)
instance:CoeFun Ren (fun _=>Nat->Option (Nat × Nat × Nat)):=⟨Ren.f⟩
def Ren.blk (ρ:Ren) (i:Nat):Option Nat:=(ρ i).map (·.1)
def Ren.le (ρ ρ':Ren):Prop:=(∀ i x,ρ i=some x->ρ' i=some x)/\∀ b c,ρ.ice b=some c->ρ'.ice b=some c
theorem Ren.le_refl (ρ:Ren):ρ.le ρ:=⟨fun _ _ h=>h,fun _ _ h=>h⟩
theorem Ren.le_trans {a b c:Ren} (h:a.le b) (k:b.le c):a.le c:=⟨fun i x hx=>k.1 i x (h.1 i x hx),fun i x hx=>k.2 i x (h.2 i x hx)⟩
inductive VR (ρ:Ren):AV->Value->Prop
 | bool (b:Bool):VR ρ (.bool b) (.bool b)
 | int (k:IntKind) (n:Int):VR ρ (.int k n) (.int k n)
 | str (s:List UInt8):VR ρ (.str s) (.string ⟨s.toArray⟩)
 | ptr {i off b sh K:Nat} (h:ρ i=some (b,sh,K)):VR ρ (.ptr i off) (.pointer (some ⟨b,sh+off,none⟩))
 | nilp:VR ρ .nilp (.pointer none)
 | sl {i off b sh K:Nat} (len cap:Nat) (h:ρ i=some (b,sh,K)):VR ρ (.sl i off len cap) (.slice (some ⟨b,sh+off,none⟩) len cap)
 | so {i esz off b sh K len:Nat} (h:ρ i=some (b,sh,K)) (hl:off+len<=K):VR ρ (.so i esz off len) (.slice (some ⟨b,sh+off*esz,none⟩) len (K - off))
 | nilsl:VR ρ .nilsl (.slice none 0 0)
 | emp (a:Addr) (cap:Nat):VR ρ .emp (.slice (some a) 0 cap)
 | fn {f:Nat} {cs:List AV} {ys:Array Value} (hl:cs.length=ys.size) (h:∀ (j:Nat) (x:AV) (y:Value),cs[j]?=some x->ys[j]?=some y->VR ρ x y):VR ρ (.fn f cs) (.func (.func f) #[] ys)
 | nilfn:VR ρ .nilfn .nilFunc
 | ifc {t:Nat} {v:AV} {y:Value} (h:VR ρ v y):VR ρ (.ifc t v) (.iface t y)
 | nilifc:VR ρ .nilifc .nilIface
 | agg {cs:List AV} {ys:Array Value} (hl:cs.length=ys.size) (h:∀ (j:Nat) (x:AV) (y:Value),cs[j]?=some x->ys[j]?=some y->VR ρ x y):VR ρ (.agg cs) (.agg ys)
 | tup {cs:List AV} {ys:Array Value} (hl:cs.length=ys.size) (h:∀ (j:Nat) (x:AV) (y:Value),cs[j]?=some x->ys[j]?=some y->VR ρ x y):VR ρ (.tup cs) (.tuple ys)
 | fl0 (t:LTy):VR ρ (.fl t []) (.slice none 0 0)
 | fle (t:LTy) (a:Addr) (cap:Nat):VR ρ (.fl t []) (.slice (some a) 0 cap)
 | fl {t:LTy} {l:List (Elem t)} {b o cap:Nat} {c:Array Value} (hi:ρ.ice b=some c) (hs:o+l.length*wd t<=c.size) (hc:l.length<=cap)
  (h:∀ (n j:Nat) (x:AV) (y:Value),n < l.length->(enc t (nth l n))[j]?=some x->c[o+n*wd t+j]?=some y->VR ρ x y):VR ρ (.fl t l) (.slice (some ⟨b,o,none⟩) l.length cap)
 | fp {t:LTy} {l:List (Elem t)} {n off b o:Nat} {c:Array Value} (hi:ρ.ice b=some c) (hs:o+wd t<=c.size)
  (h:∀ (j:Nat) (x:AV) (y:Value),(enc t (nth l n))[j]?=some x->c[o+j]?=some y->VR ρ x y):VR ρ (.fp t l n off) (.pointer (some ⟨b,o+off,none⟩))
 | tp {i n e off b sh K:Nat} (h:ρ i=some (b,sh,K)):VR ρ (.tp i n e off) (.pointer (some ⟨b,sh+n*e+off,none⟩))
 | vs (a:Option Addr) (len cap:Nat):VR ρ (.vs a len cap) (.slice a len cap)
theorem VR.mono {ρ ρ':Ren} (hr:ρ.le ρ') {x:AV} {y:Value} (h:VR ρ x y):VR ρ' x y:=by
 induction h with
 | bool b=>exact .bool b
 | int k n=>exact .int k n
 | str s=>exact .str s
 | ptr h=>exact .ptr (hr.1 _ _ h)
 | nilp=>exact .nilp
 | sl l c h=>exact .sl l c (hr.1 _ _ h)
 | so h hl=>exact .so (hr.1 _ _ h) hl
 | nilsl=>exact .nilsl
 | emp a c=>exact .emp a c
 | fn hl _ ih=>exact .fn hl ih
 | nilfn=>exact .nilfn
 | ifc _ ih=>exact .ifc ih
 | nilifc=>exact .nilifc
 | agg hl _ ih=>exact .agg hl ih
 | tup hl _ ih=>exact .tup hl ih
 | fl0 t=>exact .fl0 t
 | fle t a c=>exact .fle t a c
 | fl hi hs hc _ ih=>exact .fl (hr.2 _ _ hi) hs hc ih
 | fp hi hs _ ih=>exact .fp (hr.2 _ _ hi) hs ih
 | tp h=>exact .tp (hr.1 _ _ h)
 | vs a l c=>exact .vs a l c
def VRs (ρ:Ren) (xs:List AV) (ys:List Value):Prop:=xs.length=ys.length/\∀ (j:Nat) (x:AV) (y:Value),xs[j]?=some x->ys[j]?=some y->VR ρ x y
theorem VRs.nil {ρ:Ren}:VRs ρ [] []:=⟨rfl,fun j x y h=>by simp at h⟩
theorem VRs.cons {ρ:Ren} {x:AV} {y:Value} {xs:List AV} {ys:List Value} (h:VR ρ x y) (hs:VRs ρ xs ys):VRs ρ (x::xs) (y::ys):=by
 refine⟨by simp [hs.1],fun j a b ha hb=>?_⟩
 cases j with
 | zero=>simp at ha hb;subst ha;subst hb;exact h
 | succ j=>exact hs.2 j a b (by simpa using ha) (by simpa using hb)
theorem VRs.nil_inv {ρ:Ren} {ys:List Value} (h:VRs ρ [] ys):ys=[]:=by
 have:=h.1
 cases ys with
 | nil=>rfl
 | cons y ys=>simp at this
theorem VRs.cons_inv {ρ:Ren} {x:AV} {xs:List AV} {ys:List Value} (h:VRs ρ (x::xs) ys):∃ y ys',ys=y::ys'/\VR ρ x y/\VRs ρ xs ys':=by
 cases ys with
 | nil=>have:=h.1;simp at this
 | cons y ys=>exact⟨y,ys,rfl,h.2 0 _ _ rfl rfl,by simpa using h.1,fun j a b ha hb=>h.2 (j+1) a b (by simpa using ha) (by simpa using hb)⟩
theorem VRs.mono {ρ ρ':Ren} (hr:ρ.le ρ') {xs:List AV} {ys:List Value} (h:VRs ρ xs ys):VRs ρ' xs ys:=⟨h.1,fun j x y hx hy=>(h.2 j x y hx hy).mono hr⟩
theorem VRs.append {ρ:Ren} {xs xs':List AV} {ys ys':List Value} (h:VRs ρ xs ys) (h':VRs ρ xs' ys'):VRs ρ (xs++xs') (ys++ys'):=by
 induction xs generalizing ys with
 | nil=>rw [h.nil_inv];exact h'
 | cons x xs ih =>
  obtain⟨y,ys1,rfl,hx,hs⟩:=h.cons_inv
  exact .cons hx (ih hs)
theorem VRs.get {ρ:Ren} {xs:List AV} {ys:List Value} (h:VRs ρ xs ys) {j:Nat} {x:AV} (hx:xs[j]?=some x):∃ y,ys[j]?=some y/\VR ρ x y:=by
 have hj:j < xs.length:=by
  rcases Nat.lt_or_ge j xs.length with h | h
  ·exact h
  ·simp [List.getElem?_eq_none h] at hx
 have hy:ys[j]?=some (ys[j]'(h.1 ▸ hj)):=List.getElem?_eq_getElem _
 exact⟨_,hy,h.2 j x _ hx hy⟩
theorem VRs.agg {ρ:Ren} {xs:List AV} {ys:List Value} (h:VRs ρ xs ys):VR ρ (.agg xs) (.agg ys.toArray):=.agg (by simp [h.1]) fun j x y hx hy=>h.2 j x y hx (by simpa using hy)
theorem VRs.tup {ρ:Ren} {xs:List AV} {ys:List Value} (h:VRs ρ xs ys):VR ρ (.tup xs) (.tuple ys.toArray):=.tup (by simp [h.1]) fun j x y hx hy=>h.2 j x y hx (by simpa using hy)
theorem VR.agg_inv {ρ:Ren} {xs:List AV} {v:Value} (h:VR ρ (.agg xs) v):∃ ys:List Value,v=.agg ys.toArray/\VRs ρ xs ys:=by
 cases h with
 | agg hl h=>exact⟨_,rfl,by simpa using hl,fun j x y hx hy=>h j x y hx (by simpa using hy)⟩
theorem VR.tup_inv {ρ:Ren} {xs:List AV} {v:Value} (h:VR ρ (.tup xs) v):∃ ys:List Value,v=.tuple ys.toArray/\VRs ρ xs ys:=by
 cases h with
 | tup hl h=>exact⟨_,rfl,by simpa using hl,fun j x y hx hy=>h j x y hx (by simpa using hy)⟩
def MR (ρ:Ren) (H:Array Obj) (i:Nat) (B:Blk):Prop :=
 ∃ b sh K c e fz,ρ i=some (b,sh,K)/\H[b]?=some (.cells c e fz)/\(∀ o,o < c.size∨B.esz≠1->¬ (fz.1<=o/\o < fz.2)) /\
  (∀ j x,B.cells[j]?=some x->∃ y,c[sh+j]?=some y/\VR ρ x y) /\
  (B.opn=true->B.cells.length<=K*B.esz/\sh+K*B.esz<=c.size)
structure MI (ρ:Ren) (w:World) (m:Mem) (T N:Nat):Prop where
 mem:∀ i B,T.testBit i=true->m.at i=some B->MR ρ w.heap i B
 inj:∀ i j B C,T.testBit i=true->T.testBit j=true->m.at i=some B->m.at j=some C->i≠j->ρ.blk i≠ρ.blk j
 wf:∀ i,m.nx<=i->m.at i=none
 fresh:∀ i,m.nx<=i->i < N->ρ i=none
 ice:∀ b c,ρ.ice b=some c->∃ e fz,w.heap[b]?=some (.cells c e fz)
 dis:∀ i B b,T.testBit i=true->m.at i=some B->ρ.blk i=some b->ρ.ice b=none
structure AS (m m':Mem):Prop where
 nx:m.nx<=m'.nx
 tch:∀ i,m.tch.testBit i=true->m'.tch.testBit i=true
 wr:∀ i,m.wr.testBit i=true->m'.wr.testBit i=true
 wt:(∀ i,m.wr.testBit i=true->m.tch.testBit i=true)->∀ i,m'.wr.testBit i=true->m'.tch.testBit i=true
 wf:(∀ i,m.nx<=i->m.at i=none)->∀ i,m'.nx<=i->m'.at i=none
 live:∀ i B,i < m.nx->m'.at i=some B->∃ B',m.at i=some B'
 keep:∀ i,i < m.nx->m'.wr.testBit i=false->m'.at i=m.at i
 new:∀ i,m.nx<=i->i < m'.nx->m'.wr.testBit i=true
theorem AS.refl (m:Mem):AS m m :=
 ⟨Nat.le_refl _,fun _ h=>h,fun _ h=>h,fun h=>h,fun h=>h,fun _ B _ h=>⟨B,h⟩,fun _ _ _=>rfl,fun i h k=>by omega⟩
theorem AS.trans {a b c:Mem} (h:AS a b) (k:AS b c):AS a c where
 nx:=Nat.le_trans h.nx k.nx
 tch i hi:=k.tch i (h.tch i hi)
 wr i hi:=k.wr i (h.wr i hi)
 wt h0:=k.wt (h.wt h0)
 wf h0:=k.wf (h.wf h0)
 live i B hi hB:=by
  obtain⟨B',hB'⟩:=k.live i B (Nat.lt_of_lt_of_le hi h.nx) hB
  exact h.live i B' hi hB'
 keep i hi hw:=by
  have hb:b.wr.testBit i=false:=by
   cases hh:b.wr.testBit i with
   | false=>rfl
   | true=>rw [k.wr i hh] at hw;cases hw
  rw [k.keep i (Nat.lt_of_lt_of_le hi h.nx) hw,h.keep i hi hb]
 new i h1 h2:=by
  rcases Nat.lt_or_ge i b.nx with hl | hg
  ·exact k.wr i (h.new i h1 hl)
  ·exact k.new i hg h2
def Out (w w':World):Prop:=w'.os=w.os/\w'.tape=w.tape/\w'.output=w.output
theorem Out.refl (w:World):Out w w:=⟨rfl,rfl,rfl⟩
theorem Out.trans {a b c:World} (h:Out a b) (k:Out b c):Out a c:=⟨k.1.trans h.1,k.2.1.trans h.2.1,k.2.2.trans h.2.2⟩
structure CS (ρ ρ':Ren) (w w':World) (m m':Mem):Prop where
 ext:ρ.le ρ'
 dom:∀ i x,ρ' i=some x->ρ i=some x∨(m.nx<=i/\i < m'.nx)
 size:w.heap.size<=w'.heap.size
 frame:∀ b,b < w.heap.size->(∀ j B,m'.wr.testBit j=true->m.at j=some B->ρ.blk j≠some b)->w'.heap[b]?=w.heap[b]?
 newb:∀ i b,m.nx<=i->i < m'.nx->ρ'.blk i=some b->w.heap.size<=b∨∃ j B,m'.wr.testBit j=true/\m.at j=some B/\ρ.blk j=some b
 outer:Out w w'
 nice:∀ b c,ρ'.ice b=some c->ρ.ice b=some c∨w.heap.size<=b
theorem CS.refl (ρ:Ren) (w:World) (m:Mem):CS ρ ρ w w m m :=
 ⟨ρ.le_refl,fun _ _ h=>.inl h,Nat.le_refl _,fun _ _ _=>rfl,(fun i b h k=>by omega),Out.refl w,fun _ _ h=>.inl h⟩
theorem CS.blk_old {ρ ρ':Ren} {w w':World} {m m':Mem} (h:CS ρ ρ' w w' m m') {i:Nat} (hi:i < m.nx):ρ'.blk i=ρ.blk i:=by
 unfold Ren.blk
 cases hx:ρ' i with
 | none =>
  cases hy:ρ i with
  | none=>rfl
  | some y=>rw [h.ext.1 i y hy] at hx;cases hx
 | some x =>
  rcases h.dom i x hx with h1 | ⟨h1,h2⟩
  ·rw [h1]
  ·omega
theorem CS.trans {ρ ρ1 ρ2:Ren} {w w1 w2:World} {m m1 m2:Mem} (h:CS ρ ρ1 w w1 m m1) (k:CS ρ1 ρ2 w1 w2 m1 m2) (ha:AS m m1) (hb:AS m1 m2)
  (hwf:∀ i,m.nx<=i->m.at i=none):CS ρ ρ2 w w2 m m2:=by
 have hlive:∀ j B,m.at j=some B->j < m.nx:=fun j B hj=>by
  rcases Nat.lt_or_ge j m.nx with h | h
  ·exact h
  ·rw [hwf j h] at hj;cases hj
 have hlive1:∀ j B,m1.at j=some B->j < m1.nx:=fun j B hj=>by
  rcases Nat.lt_or_ge j m1.nx with h | h
  ·exact h
  ·rw [ha.wf hwf j h] at hj;cases hj
 refine⟨Ren.le_trans h.ext k.ext,fun i x hx=>?_,Nat.le_trans h.size k.size,fun b hlt hb'=>?_,fun i b h1 h2 hbk=>?_,h.outer.trans k.outer,fun b c hb=>?_⟩
 ·rcases k.dom i x hx with h1 | h1
  ·rcases h.dom i x h1 with h2 | h2
   ·exact .inl h2
   ·exact .inr ⟨h2.1,Nat.lt_of_lt_of_le h2.2 hb.nx⟩
  ·exact .inr ⟨Nat.le_trans ha.nx h1.1,h1.2⟩
 ·have e1:w1.heap[b]?=w.heap[b]?:=h.frame b hlt fun j B hw hB=>hb' j B (hb.wr j hw) hB
  rw [<- e1]
  refine k.frame b (Nat.lt_of_lt_of_le hlt h.size) fun j B hw hB he=>?_
  rcases Nat.lt_or_ge j m.nx with hj | hj
  ·obtain⟨B',hB'⟩:=ha.live j B hj hB
   exact hb' j B' hw hB' (by rw [<- h.blk_old hj];exact he)
  ·rcases h.newb j b hj (hlive1 j B hB) he with h3 | ⟨j',B',h4,h5,h6⟩
   ·omega
   ·exact hb' j' B' (hb.wr j' h4) h5 h6
 ·rcases Nat.lt_or_ge i m1.nx with hl | hg
  ·rw [k.blk_old hl] at hbk
   rcases h.newb i b h1 hl hbk with h3 | ⟨j,B,h4,h5,h6⟩
   ·exact .inl h3
   ·exact .inr ⟨j,B,hb.wr j h4,h5,h6⟩
  ·rcases k.newb i b hg h2 hbk with h3 | ⟨j,B,h4,h5,h6⟩
   ·exact .inl (Nat.le_trans h.size h3)
   ·rcases Nat.lt_or_ge j m.nx with hj | hj
    ·obtain⟨B',hB'⟩:=ha.live j B hj h5
     exact .inr ⟨j,B',h4,hB',by rw [<- h.blk_old hj];exact h6⟩
    ·rcases h.newb j b hj (hlive1 j B h5) h6 with h7 | ⟨j',B',h8,h9,h10⟩
     ·exact .inl h7
     ·exact .inr ⟨j',B',hb.wr j' h8,h9,h10⟩
 ·rcases k.nice b c hb with h1 | h1
  ·exact h.nice b c h1
  ·exact .inr (Nat.le_trans h.size h1)
def zD4 {β:Type} (n:Nat) (k:Nat->β):β:=match n with | 0=>k 0 | p+1=>k (Nat.succ p)
def vO9 {β:Type}:Int->(Int->β)->β
 | .ofNat n,k=>zD4 n fun n=>k (.ofNat n)
 | .negSucc n,k=>zD4 n fun n=>k (.negSucc n)
def xP4 {β:Type} (v:AV) (k:AV->β):β :=
 match v with
 | .bool true=>k (.bool true)
 | .bool false=>k (.bool false)
 | .int kd n=>vO9 n fun n=>k (.int kd n)
 | .ptr i o=>zD4 i fun i=>zD4 o fun o=>k (.ptr i o)
 | .sl i o l c=>zD4 i fun i=>zD4 o fun o=>zD4 l fun l=>zD4 c fun c=>k (.sl i o l c)
 | .so i e o l=>zD4 i fun i=>zD4 e fun e=>zD4 o fun o=>zD4 l fun l=>k (.so i e o l)
 | v=>k v
theorem zC8 {β:Type} (n:Nat) (k:Nat->β):zD4 n k=k n:=by cases n<;>rfl
theorem vO8 {β:Type} (n:Int) (k:Int->β):vO9 n k=k n:=by cases n<;>simp [vO9,zC8]
theorem xP3 {β:Type} (v:AV) (k:AV->β):xP4 v k=k v:=by
 cases v<;>simp [xP4,zC8,vO8]
 rename_i b;cases b<;>rfl
def zH1 {β:Type}:List AV->(List AV->Option β)->Option β
 | [],k=>k []
 | x::xs,k=>xP4 x fun x=>zH1 xs fun ys=>k (x::ys)
theorem zD2 {β:Type} (xs:List AV) (k:List AV->Option β):zH1 xs k=k xs:=by
 induction xs generalizing k with
 | nil=>rfl
 | cons x xs ih=>simp [zH1,xP3,ih]
def yF5 {β:Type}:Nat->List AV->(List AV->Option β)->Option β
 | 0,_,k=>k []
 | n+1,x::xs,k=>yF5 n xs fun ys=>k (x::ys)
 | _+1,[],_=>none
theorem zV6 {β:Type} {n:Nat} {xs:List AV} {k:List AV->Option β} {r:β} (h:yF5 n xs k=some r):n<=xs.length/\k (xs.take n)=some r:=by
 induction n generalizing xs k with
 | zero=>exact⟨Nat.zero_le _,by simpa [yF5] using h⟩
 | succ n ih =>
  cases xs with
  | nil=>simp [yF5] at h
  | cons x xs =>
   obtain⟨h1,h2⟩:=ih (k:=fun ys=>k (x::ys)) (by simpa [yF5] using h)
   exact⟨by simp;omega,by simpa using h2⟩
def zP7:Nat->List AV->List AV
 | 0,xs=>xs
 | n+1,_::xs=>zP7 n xs
 | _+1,[]=>[]
theorem xB7 (n:Nat) (xs:List AV):zP7 n xs=xs.drop n:=by
 induction n generalizing xs with
 | zero=>rfl
 | succ n ih=>cases xs<;>simp [zP7,ih]
def cutK {β:Type} (off n:Nat) (xs:List AV) (k:List AV->Option β):Option β:=yF5 n (zP7 off xs) k
theorem zG3 {β:Type} {off n:Nat} {xs:List AV} {k:List AV->Option β} {r:β} (h:cutK off n xs k=some r) :
  ∃ cs,cs.length=n/\(∀ j,j < n->∃ x,xs[off+j]?=some x/\cs[j]?=some x)/\k cs=some r:=by
 obtain⟨h1,h2⟩:=zV6 h
 rw [xB7] at h1 h2
 refine⟨_,by simp at h1 ⊢;omega,fun j hj=>?_,h2⟩
 have hl:off+j < xs.length:=by simp at h1;omega
 exact⟨xs[off+j],by simp [hl],by simp [hj,hl]⟩
def xK6 {β:Type}:List AV->List AV->(List AV->Option β)->Option β
 | xs,[],k=>k xs
 | _::xs,v::vs,k=>xK6 xs vs fun ys=>k (v::ys)
 | [],_::_,_=>none
def layK {β:Type}:Nat->List AV->List AV->(List AV->Option β)->Option β
 | 0,xs,vs,k=>xK6 xs vs k
 | n+1,x::xs,vs,k=>layK n xs vs fun ys=>k (x::ys)
 | _+1,[],_,_=>none
structure Laid (off:Nat) (xs vs ys:List AV):Prop where
 room:off+vs.length<=xs.length
 len:ys.length=xs.length
 inn:∀ j,j < vs.length->ys[off+j]?=vs[j]?
 out:∀ j,j < off∨off+vs.length<=j->ys[j]?=xs[j]?
theorem vE8 {β:Type} {xs vs:List AV} {k:List AV->Option β} {r:β} (h:xK6 xs vs k=some r) :
  ∃ ys,Laid 0 xs vs ys/\k ys=some r/\∀ (γ:Type) (k':List AV->Option γ),xK6 xs vs k'=k' ys:=by
 induction vs generalizing xs k with
 | nil=>exact⟨xs,⟨by simp,rfl,fun j hj=>by simp at hj,fun j _=>rfl⟩,by cases xs<;>simpa [xK6] using h,fun γ k'=>by cases xs<;>rfl⟩
 | cons v vs ih =>
  cases xs with
  | nil=>simp [xK6] at h
  | cons x xs =>
   obtain⟨ys,hl,hk,hf⟩:=ih (k:=fun ys=>k (v::ys)) (by simpa [xK6] using h)
   refine⟨v::ys,⟨by have:=hl.room;simp at this ⊢;omega,by simp [hl.len],fun j hj=>?_,fun j hj=>?_⟩,hk,fun γ k'=>by simp only [xK6,hf]⟩
   ·cases j with
    | zero=>rfl
    | succ j=>have:=hl.inn j (by simpa using hj);simpa using this
   ·cases j with
    | zero=>simp at hj
    | succ j=>have:=hl.out j (.inr (by simp at hj ⊢;omega));simpa using this
theorem zO9 {β:Type} {off:Nat} {xs vs:List AV} {k:List AV->Option β} {r:β} (h:layK off xs vs k=some r) :
  ∃ ys,Laid off xs vs ys/\k ys=some r/\∀ (γ:Type) (k':List AV->Option γ),layK off xs vs k'=k' ys:=by
 induction off generalizing xs k with
 | zero=>exact vE8 (by simpa [layK] using h)
 | succ off ih =>
  cases xs with
  | nil=>simp [layK] at h
  | cons x xs =>
   obtain⟨ys,hl,hk,hf⟩:=ih (k:=fun ys=>k (x::ys)) (by simpa [layK] using h)
   refine⟨x::ys,⟨by have:=hl.room;simp;omega,by simp [hl.len],fun j hj=>?_,fun j hj=>?_⟩,hk,fun γ k'=>by simp only [layK,hf]⟩
   ·have:=hl.inn j hj;rw [Nat.add_right_comm];simpa using this
   ·cases j with
    | zero=>rfl
    | succ j=>have:=hl.out j (by omega);simpa using this
def kn:IntKind->Nat
 | .i8=>0 | .i16=>1 | .i32=>2 | .i64=>3 | .u8=>4 | .u16=>5 | .u32=>6 | .u64=>7
theorem uS5 {a b:IntKind} (h:Nat.beq (kn a) (kn b)=true):a=b:=by
 cases a<;>cases b<;>first | rfl | (exact absurd h (by decide))
def lim:IntKind->Nat
 | .i8=>128 | .i16=>32768 | .i32=>2147483648 | .i64=>9223372036854775808
 | .u8=>256 | .u16=>65536 | .u32=>4294967296 | .u64=>18446744073709551616
def zA3 (k:IntKind):Int->Int
 | .ofNat m=>bif Nat.blt m (lim k) then .ofNat m else bif k.signed then k.wrap (.ofNat m) else .ofNat (m % lim k)
 | .negSucc m=>bif k.signed&&Nat.blt m (lim k) then .negSucc m else k.wrap (.negSucc m)
theorem blt_iff {a b:Nat}:Nat.blt a b=true↔a < b:=by
 unfold Nat.blt
 rw [Nat.ble_eq]
 omega
theorem zF4 (k:IntKind) (n:Int):zA3 k n=k.wrap n:=by
 cases n with
 | ofNat m =>
  simp only [zA3]
  by_cases h:m < lim k
  ·rw [blt_iff.2 h,cond_true]
   cases k<;>simp [IntKind.wrap,IntKind.signed,IntKind.bits,lim] at h ⊢<;>omega
  ·have:Nat.blt m (lim k)=false:=by
    cases hh:Nat.blt m (lim k) with
    | false=>rfl
    | true=>exact absurd (blt_iff.1 hh) h
   rw [this,cond_false]
   cases hs:k.signed with
   | true=>rfl
   | false =>
    rw [cond_false]
    cases k<;>first | (exact absurd hs (by decide)) | rfl
 | negSucc m =>
  simp only [zA3]
  cases hs:k.signed&&Nat.blt m (lim k) with
  | false=>rfl
  | true =>
   rw [cond_true]
   simp only [Bool.and_eq_true,blt_iff] at hs
   obtain⟨h1,h2⟩:=hs
   rw [Int.negSucc_eq]
   have key:∀ B:Nat,(m:Int) < 2 ^ (B - 1)->1<=B->(-((m:Int)+1)) % 2 ^ B=2 ^ B - (m+1)/\(2:Int) ^ (B - 1)<=2 ^ B - (m+1):=by
    intro B hm hB
    have e:(2:Int) ^ B=2*2 ^ (B - 1):=by
     rw [<- Int.pow_succ']
     congr 1
     omega
    rw [e]
    generalize (2:Int) ^ (B - 1)=x at *
    refine⟨?_,by omega⟩
    rw [<- Int.add_mul_emod_self_left _ (2*x) 1,Int.emod_eq_of_lt (by omega) (by omega)]
    omega
   have hm:(m:Int) < 2 ^ (k.bits - 1):=by
    cases k<;>first | (exact absurd h1 (by decide)) | exact Int.ofNat_lt.2 h2
   obtain⟨e1,e2⟩:=key k.bits hm (by cases k<;>decide)
   unfold IntKind.wrap
   rw [e1,h1]
   simp only [Bool.true_and,ge_iff_le,e2,decide_true,if_true]
   omega
def ltI:Int->Int->Bool
 | .ofNat a,.ofNat b=>Nat.blt a b
 | .ofNat _,.negSucc _=>false
 | .negSucc _,.ofNat _=>true
 | .negSucc a,.negSucc b=>Nat.blt b a
theorem zE0 (a b:Int):ltI a b=decide (a < b):=by
 rw [Bool.eq_iff_iff,decide_eq_true_iff]
 cases a<;>cases b<;>simp only [ltI,blt_iff,Int.ofNat_eq_natCast,Int.negSucc_eq,Bool.false_eq_true,true_iff,false_iff]<;>omega
def eqI:Int->Int->Bool
 | .ofNat a,.ofNat b=>Nat.beq a b
 | .negSucc a,.negSucc b=>Nat.beq a b
 | _,_=>false
theorem zC5 (a b:Int):eqI a b=decide (a=b):=by
 rw [Bool.eq_iff_iff,decide_eq_true_iff]
 cases a<;>cases b<;>simp only [eqI,Nat.beq_eq,Int.ofNat_eq_natCast,Int.negSucc_eq,Bool.false_eq_true,false_iff]<;>omega
def xC7 (f:Nat->Nat->Nat) (k:IntKind):Int->Int->Option AV
 | .ofNat a,.ofNat b=>bif Nat.blt a (lim k)&&Nat.blt b (lim k) then some (.int k (.ofNat (f a b))) else none
 | _,_=>none
def shlA (k:IntKind) (a:Int):Int->Option AV
 | .ofNat n=>bif Nat.ble n k.bits then some (.int k (zA3 k (a*.ofNat (2 ^ n)))) else none
 | _=>none
def shrA (k:IntKind):Int->Int->Option AV
 | .ofNat a,.ofNat n=>bif Nat.ble n k.bits then some (.int k (.ofNat (a / 2 ^ n))) else none
 | _,_=>none
def binC (op:BinOp) (k:IntKind) (a b:Int):Option AV :=
 match op with
 | .add=>some (.int k (zA3 k (a+b)))
 | .sub=>some (.int k (zA3 k (a - b)))
 | .mul=>some (.int k (zA3 k (a*b)))
 | .quo=>bif eqI b 0 then none else some (.int k (zA3 k (a.tdiv b)))
 | .rem=>bif eqI b 0 then none else some (.int k (a.tmod b))
 | .and=>xC7 Nat.land k a b
 | .or=>xC7 Nat.lor k a b
 | .xor=>xC7 Nat.xor k a b
 | .eql=>some (.bool (eqI a b))
 | .neq=>some (.bool (!eqI a b))
 | .lss=>some (.bool (ltI a b))
 | .leq=>some (.bool (!ltI b a))
 | .gtr=>some (.bool (ltI b a))
 | .geq=>some (.bool (!ltI a b))
 | _=>none
def binA (op:BinOp) (k k':IntKind) (a b:Int):Option AV :=
 match op with
 | .shl=>shlA k a b
 | .shr=>shrA k a b
 | op=>bif Nat.beq (kn k) (kn k') then binC op k a b else none
inductive Opd where
 | t (p:Path)
 | c (v:AV)
 deriving Inhabited
inductive EqK where
 | b | p | s | f | i
inductive Leaf where
 | int | str | bool
inductive Kd where
 | mov | pick
 | new (zs:List AV) | box
 | build (zs:List AV) (ps:List (Nat × Nat))
 | bsl (zs:List AV) (len esz:Nat) (ps:List (Nat × Nat))
 | ld1 | ldn (n:Nat) | st (n:Nat)
 | nchk
 | bin (op:BinOp) | sbin (op:BinOp)
 | eqk (neg:Bool) (k:EqK) | eqa (neg:Bool) (ls:List (Nat × Leaf))
 | un (op:UnOp)
 | cvi (k:IntKind) | cvs | cvbs | cvsb
 | mki (t:Nat) | mkf (f:Nat)
 | mks (zs:List AV) (esz bytes:Nat)
 | slc (esz:Nat) (lo hi:Bool) | sls (lo hi:Bool)
 | fad (off:Nat) | fld1 (off:Nat) | fldn (off n:Nat)
 | ixs (esz:Nat) | ixa (len esz:Nat) | ia1 (len:Nat) | ian (len n:Nat) | istr
 | tas (t:Nat) (ok:Bool) (zero:Option AV)
 | ext (i:Nat)
 | len | lenst | lenc (n:Nat) | cap
 | app (esz bytes:Nat) | cpy (esz:Nat) | clr (zs:List AV)
 | mn | mx
 | call (f:Nat) | callv | inv (tbl:List (Nat × Nat))
 | bad
 deriving Inhabited
def zF3:AV->List AV
 | .agg cs=>cs
 | v=>[v]
def scal:AV->Bool
 | .agg _ | .tup _=>false
 | _=>true
def zS5 {β:Type}:List AV->List (Nat × Nat)->List AV->(List AV->Option β)->Option β
 | zs,[],[],k=>k zs
 | zs,(off,size)::ps,x::xs,k=>bif Nat.beq (zF3 x).length size then layK off zs (zF3 x) fun zs=>zS5 zs ps xs k else none
 | _,_,_,_=>none
def zC1:List UInt8->List UInt8->Bool
 | [],[]=>true
 | a::x,b::y=>Nat.beq a.toNat b.toNat&&zC1 x y
 | _,_=>false
def zF1:List UInt8->List UInt8->Bool
 | _,[]=>false
 | [],_::_=>true
 | a::x,b::y=>Nat.blt a.toNat b.toNat || (Nat.beq a.toNat b.toNat&&zF1 x y)
def vA3 (op:BinOp) (x y:List UInt8):Option AV :=
 match op with
 | .add=>bif Nat.blt (x.length+y.length) 1000000 then some (.str (x++y)) else none
 | .eql=>some (.bool (zC1 x y))
 | .neq=>some (.bool (!zC1 x y))
 | .lss=>some (.bool (zF1 x y))
 | .leq=>some (.bool (zF1 x y || zC1 x y))
 | .gtr=>some (.bool (!(zF1 x y || zC1 x y)))
 | .geq=>some (.bool (!zF1 x y))
 | _=>none
def eqkA:EqK->AV->AV->Option Bool
 | .b,.bool a,.bool b=>some (bif a then b else !b)
 | .p,.nilp,.nilp=>some true
 | .p,.nilp,.ptr _ _=>some false
 | .p,.ptr _ _,.nilp=>some false
 | .s,.nilsl,.nilsl=>some true
 | .s,.sl _ _ _ _,.nilsl=>some false
 | .s,.so _ _ _ _,.nilsl=>some false
 | .s,.emp,.nilsl=>some false
 | .f,.nilfn,.nilfn=>some true
 | .f,.fn _ _,.nilfn=>some false
 | .i,.nilifc,.nilifc=>some true
 | .i,.ifc _ _,.nilifc=>some false
 | _,_,_=>none
def yL8:Leaf->AV->AV->Option Bool
 | .int,.int k a,.int k' b=>bif Nat.beq (kn k) (kn k') then some (eqI a b) else none
 | .str,.str a,.str b=>some (zC1 a b)
 | .bool,.bool a,.bool b=>some (bif a then b else !b)
 | _,_,_=>none
def zJ2 (xs ys:List AV):List (Nat × Leaf)->Option Bool
 | []=>some true
 | (o,l)::ls =>
  match (zP7 o xs).head?,(zP7 o ys).head? with
  | some x,some y=>match yL8 l x y with
   | some true=>zJ2 xs ys ls
   | some false=>match zJ2 xs ys ls with | some _=>some false | none=>none
   | none=>none
  | _,_=>none
def unA (op:UnOp) (x:AV):Option AV :=
 match op,x with
 | .neg,.int k n=>some (.int k (zA3 k (0 - n)))
 | .xor,.int k n=>bif k.signed then none else xC7 Nat.xor k (.ofNat (lim k - 1)) n
 | .not,.bool b=>some (.bool (!b))
 | _,_=>none
def bndA (x:AV) (y:Nat):Option Nat :=
 match x with
 | .int _ (.ofNat n)=>bif Nat.ble n y then some n else none
 | _=>none
def zU6 (lo hi:Bool) (len:Nat) (xs:List AV):Option (Nat × Nat) :=
 match lo,hi,xs with
 | false,false,[]=>some (0,len)
 | true,false,[l]=>match bndA l len with | some l=>some (l,len) | none=>none
 | false,true,[h]=>match bndA h len with | some h=>some (0,h) | none=>none
 | true,true,[l,h]=>match bndA h len with
  | some h=>match bndA l h with | some l=>some (l,h) | none=>none
  | none=>none
 | _,_,_=>none
def slcA (esz:Nat) (lo hi:Bool) (x:AV) (xs:List AV):Option AV :=
 match x with
 | .nilsl=>match zU6 lo hi 0 xs with | some _=>some .nilsl | none=>none
 | .sl i off len cap =>
  match zU6 lo hi (bif hi then cap else len) xs with
  | some (l,h)=>bif Nat.beq l cap then (bif Nat.beq h l then some .emp else none) else some (.sl i (off+l*esz) (h - l) (cap - l))
  | none=>none
 | .so i e off len =>
  bif Nat.beq e esz then
   match zU6 lo hi len xs with
   | some (l,h)=>bif Nat.beq l h then (bif Nat.beq l 0 then some (.so i e off 0) else some .emp) else some (.so i e (off+l) (h - l))
   | none=>none
  else none
 | .emp=>match zU6 lo hi 0 xs with | some _=>some .emp | none=>none
 | _=>none
def slsA (lo hi:Bool) (x:AV) (xs:List AV):Option AV :=
 match x with
 | .str s=>match zU6 lo hi s.length xs with | some (l,h)=>some (.str ((s.drop l).take (h - l))) | none=>none
 | _=>none
def idxA (x:AV) (len:Nat):Option Nat :=
 match x with
 | .int _ (.ofNat n)=>bif Nat.blt n len then some n else none
 | _=>none
def ixsA (esz:Nat) (x i:AV):Option AV :=
 match x with
 | .sl b off len _=>match idxA i len with | some i=>some (.ptr b (off+i*esz)) | none=>none
 | .so b e off len=>bif Nat.beq e esz then match idxA i len with | some i=>some (.ptr b (off*esz+i*esz)) | none=>none else none
 | _=>none
def ixaA (len esz:Nat) (x i:AV):Option AV :=
 match x with
 | .ptr b off=>match idxA i len with | some i=>some (.ptr b (off+i*esz)) | none=>none
 | _=>none
def tasA (t:Nat) (ok:Bool) (zero:Option AV) (x:AV):Option AV :=
 match x with
 | .ifc t' v=>bif Nat.beq t' t then some (bif ok then .tup [v,.bool true] else v) else
  bif ok then match zero with | some z=>some (.tup [z,.bool false]) | none=>none else none
 | .nilifc=>bif ok then match zero with | some z=>some (.tup [z,.bool false]) | none=>none else none
 | _=>none
def lenA (x:AV):Option Nat :=
 match x with
 | .sl _ _ l _=>some l
 | .so _ _ _ l=>some l
 | .nilsl=>some 0
 | .emp=>some 0
 | _=>none
def mmA (mx:Bool) (x y:AV):Option AV :=
 match x,y with
 | .int k a,.int _ b=>some (.int k (bif (bif mx then ltI a b else ltI b a) then b else a))
 | _,_=>none
def one1 (f:AV->Option AV):List AV->Option AV
 | [x]=>f x
 | _=>none
def two2 (f:AV->AV->Option AV):List AV->Option AV
 | [x,y]=>f x y
 | _=>none
def headA (f:AV->List AV->Option AV):List AV->Option AV
 | x::xs=>f x xs
 | _=>none
def zK2 (k:Kd) (xs:List AV):Option AV :=
 match k with
 | .mov=>one1 some xs
 | .pick=>match xs with | [.bool c,a,b]=>some (bif c then a else b) | _=>none
 | .build zs ps=>zS5 zs ps xs fun cs=>some (.agg cs)
 | .nchk=>one1 (fun x=>match x with | .ptr _ _=>some x | .fn _ _=>some x | .ifc _ _=>some x | _=>none) xs
 | .bin op=>two2 (fun x y=>match x,y with | .int k a,.int k' b=>binA op k k' a b | _,_=>none) xs
 | .sbin op=>two2 (fun x y=>match x,y with | .str a,.str b=>vA3 op a b | _,_=>none) xs
 | .eqk neg k=>two2 (fun x y=>match eqkA k x y with | some b=>some (.bool (bif neg then !b else b)) | none=>none) xs
 | .eqa neg ls=>two2 (fun x y=>match x,y with
  | .agg a,.agg b=>(match zJ2 a b ls with | some b=>some (.bool (bif neg then !b else b)) | none=>none)
  | _,_=>none) xs
 | .un op=>one1 (unA op) xs
 | .cvi k=>one1 (fun x=>match x with | .int _ n=>some (.int k (zA3 k n)) | _=>none) xs
 | .cvs=>one1 (fun x=>match x with | .str s=>some (.str s) | _=>none) xs
 | .mki t=>one1 (fun x=>some (.ifc t x)) xs
 | .mkf f=>some (.fn f xs)
 | .slc esz lo hi=>headA (slcA esz lo hi) xs
 | .sls lo hi=>headA (slsA lo hi) xs
 | .fad off=>one1 (fun x=>match x with | .ptr i o=>some (.ptr i (o+off)) | _=>none) xs
 | .fld1 off=>one1 (fun x=>match x with | .agg cs=>(zP7 off cs).head? | _=>none) xs
 | .fldn off n=>one1 (fun x=>match x with | .agg cs=>cutK off n cs fun cs=>some (.agg cs) | _=>none) xs
 | .ixs esz=>two2 (ixsA esz) xs
 | .ixa len esz=>two2 (ixaA len esz) xs
 | .ia1 len=>two2 (fun x i=>match x with | .agg cs=>(match idxA i len with | some i=>(zP7 i cs).head? | none=>none) | _=>none) xs
 | .ian len n=>two2 (fun x i=>match x with | .agg cs=>(match idxA i len with | some i=>cutK (i*n) n cs fun cs=>some (.agg cs) | none=>none) | _=>none) xs
 | .istr=>two2 (fun x i=>match x with | .str s=>(match idxA i s.length with | some i=>(match s[i]? with | some b=>some (.int .u8 (.ofNat b.toNat)) | none=>none) | none=>none) | _=>none) xs
 | .tas t ok z=>one1 (tasA t ok z) xs
 | .ext i=>one1 (fun x=>match x with | .tup vs=>(zP7 i vs).head? | _=>none) xs
 | .len=>one1 (fun x=>match lenA x with | some n=>some (.int .i64 (.ofNat n)) | none=>none) xs
 | .lenst=>one1 (fun x=>match x with | .str s=>some (.int .i64 (.ofNat s.length)) | _=>none) xs
 | .lenc n=>one1 (fun _=>some (.int .i64 (.ofNat n))) xs
 | .cap=>one1 (fun x=>match x with | .sl _ _ _ c=>some (.int .i64 (.ofNat c)) | .nilsl=>some (.int .i64 0) | _=>none) xs
 | .mn=>two2 (mmA false) xs
 | .mx=>two2 (mmA true) xs
 | _=>none
def bitK {β:Type} (m i:Nat) (k:Nat->β):β:=zD4 (Nat.lor m (2 ^ i)) k
theorem zR2 {β:Type} (m i:Nat) (k:Nat->β):bitK m i k=k (m ||| 2 ^ i):=zC8 _ _
def getK {β:Type} (m:Mem) (i:Nat) (k:Blk->Mem->Option β):Option β :=
 match m with
 | ⟨h,nx,t,w⟩=>match h.get (pth i) with
  | some B=>bitK t i fun t=>k B ⟨h,nx,t,w⟩
  | none=>none
def putK {β:Type} (m:Mem) (i:Nat) (B:Blk) (k:Mem->Option β):Option β :=
 match m with
 | ⟨h,nx,t,w⟩=>h.setK (pth i) B fun h=>bitK t i fun t=>bitK w i fun w=>k ⟨h,nx,t,w⟩
def newK {β:Type} (m:Mem) (B:Blk) (k:Nat->Mem->Option β):Option β :=
 match m with
 | ⟨h,nx,t,w⟩=>h.setK (pth nx) B fun h=>bitK t nx fun t=>bitK w nx fun w=>zD4 (Nat.succ nx) fun nx'=>k nx ⟨h,nx',t,w⟩
def delK {β:Type} (m:Mem) (i:Nat) (k:Mem->Option β):Option β :=
 match m with
 | ⟨h,nx,t,w⟩=>bitK t i fun t=>bitK w i fun w=>k ⟨h.del (pth i),nx,t,w⟩
def Mem.touch (m:Mem) (i:Nat):Mem:={ m with tch:=m.tch ||| 2 ^ i }
def Mem.put (m:Mem) (i:Nat) (B:Blk):Mem:=⟨m.h.set (pth i) B,m.nx,m.tch ||| 2 ^ i,m.wr ||| 2 ^ i⟩
def Mem.new (m:Mem) (B:Blk):Mem:=⟨m.h.set (pth m.nx) B,m.nx+1,m.tch ||| 2 ^ m.nx,m.wr ||| 2 ^ m.nx⟩
def Mem.del (m:Mem) (i:Nat):Mem:=⟨m.h.del (pth i),m.nx,m.tch ||| 2 ^ i,m.wr ||| 2 ^ i⟩
theorem zD0 {β:Type} {m:Mem} {i:Nat} {k:Blk->Mem->Option β} {r:β} (h:getK m i k=some r):∃ B,m.at i=some B/\k B (m.touch i)=some r:=by
 obtain⟨h0,nx,t,w⟩:=m
 simp only [getK] at h
 split at h
 ·rename_i B hB;rw [zR2] at h;exact⟨B,hB,h⟩
 ·cases h
theorem zT9 {β:Type} (m:Mem) (i:Nat) (B:Blk) (k:Mem->Option β):putK m i B k=k (m.put i B):=by
 obtain⟨h0,nx,t,w⟩:=m
 simp only [putK,T.setK_eq,zR2,Mem.put]
theorem zE8 {β:Type} (m:Mem) (B:Blk) (k:Nat->Mem->Option β):newK m B k=k m.nx (m.new B):=by
 obtain⟨h0,nx,t,w⟩:=m
 simp only [newK,T.setK_eq,zR2,zC8,Mem.new]
theorem yO0 {β:Type} (m:Mem) (i:Nat) (k:Mem->Option β):delK m i k=k (m.del i):=by
 obtain⟨h0,nx,t,w⟩:=m
 simp only [delK,zR2,Mem.del]
def ld1K {β:Type} (x:AV) (m:Mem) (k:AV->Mem->Option β):Option β :=
 match x with
 | .ptr i off=>getK m i fun B m=>match (zP7 off B.cells).head? with | some v=>k v m | none=>none
 | _=>none
def ldnK {β:Type} (n:Nat) (x:AV) (m:Mem) (k:AV->Mem->Option β):Option β :=
 match x with
 | .ptr i off=>getK m i fun B m=>cutK off n B.cells fun cs=>k (.agg cs) m
 | _=>none
def wrK {β:Type} (i off:Nat) (vs:List AV) (m:Mem) (k:Mem->Option β):Option β :=
 getK m i fun B m=>match B with
  | ⟨ct,esz,opn⟩=>zH1 vs fun vs=>layK off ct.cells vs fun cs=>putK m i (.raw cs esz opn) k
def stK {β:Type} (n:Nat) (x v:AV) (m:Mem) (k:AV->Mem->Option β):Option β :=
 match x with
 | .ptr i off=>bif Nat.beq (zF3 v).length n&&(zF3 v).all scal then wrK i off (zF3 v) m fun m=>k (.tup []) m else none
 | _=>none
def srcK {β:Type} (esz:Nat) (x:AV) (m:Mem) (k:Nat->List AV->Mem->Option β):Option β :=
 match x with
 | .nilsl=>k 0 [] m
 | .emp=>k 0 [] m
 | .str s=>bif Nat.beq esz 1 then k s.length (s.map fun b=>.int .u8 (.ofNat b.toNat)) m else none
 | .fl t l=>bif Nat.beq esz (wd t) then k l.length (flat t l) m else none
 | .sl i off len _=>getK m i fun B m=>cutK off (len*esz) B.cells fun cs=>k len cs m
 | .so i e off len=>bif Nat.beq e esz then getK m i fun B m=>cutK (off*esz) (len*esz) B.cells fun cs=>k len cs m else none
 | _=>none
def appK {β:Type} (esz bytes:Nat) (x y:AV) (m:Mem) (k:AV->Mem->Option β):Option β :=
 srcK esz y m fun n news m =>
  bif Nat.beq n 0 then (match x with | .nilsl=>k x m | .sl _ _ l c=>(bif Nat.ble l c then k x m else none) | .so _ _ _ _=>k x m | .emp=>k x m | _=>none) else
  bif Nat.blt bytes 4096&&news.all scal then
   match x with
   | .nilsl=>bif Nat.blt n 1048576 then zH1 news fun cs=>newK m (.raw cs esz true) fun j m=>k (.so j esz 0 n) m else none
   | .sl i off len cap=>bif Nat.blt (len+n) 1048576 then
    bif Nat.ble (len+n) cap then wrK i (off+len*esz) news m fun m=>k (.sl i off (len+n) cap) m else
     getK m i fun B m=>cutK off (len*esz) B.cells fun olds=>zH1 news fun news=>zH1 (olds++news) fun cs=>newK m (.raw cs esz true) fun j m=>k (.so j esz 0 (len+n)) m
    else none
   | .so i e off len=>bif Nat.beq e esz&&Nat.blt (len+n) 1048576 then
    getK m i fun B m=>bif Nat.beq B.cells.length ((off+len)*esz)&&B.opn&&Nat.beq B.esz esz then
      cutK (off*esz) (len*esz) B.cells fun olds=>zH1 news fun news=>zH1 (olds++news) fun cs=>delK m i fun m=>newK m (.raw cs esz true) fun j m=>k (.so j esz 0 (len+n)) m
     else none
    else none
   | _=>none
  else none
def cpyK {β:Type} (esz:Nat) (x y:AV) (m:Mem) (k:AV->Mem->Option β):Option β :=
 match lenA x with
 | none=>none
 | some dl=>srcK esz y m fun n news m =>
  zD4 (Nat.min n dl) fun n=>cutK 0 (n*esz) news fun news =>
  bif Nat.beq n 0 then k (.int .i64 0) m else
  bif news.all scal then
   match x with
   | .sl i off _ _=>wrK i off news m fun m=>k (.int .i64 (.ofNat n)) m
   | .so i e off _=>bif Nat.beq e esz then wrK i (off*esz) news m fun m=>k (.int .i64 (.ofNat n)) m else none
   | _=>none
  else none
def repA (zs:List AV):Nat->List AV
 | 0=>[]
 | n+1=>zs++repA zs n
def clrK {β:Type} (zs:List AV) (x:AV) (m:Mem) (k:AV->Mem->Option β):Option β :=
 bif zs.all scal then
  match x with
  | .nilsl=>k (.tup []) m
  | .emp=>k (.tup []) m
  | .sl i off len _=>bif Nat.beq len 0 then k (.tup []) m else wrK i off (repA zs len) m fun m=>k (.tup []) m
  | .so i e off len=>bif Nat.beq len 0 then k (.tup []) m else bif Nat.beq e zs.length then wrK i (off*e) (repA zs len) m fun m=>k (.tup []) m else none
  | _=>none
 else none
def xR0 {β:Type}:List AV->(List UInt8->Option β)->Option β
 | [],k=>k []
 | .int .u8 (.ofNat n)::xs,k=>zD4 n fun n=>xR0 xs fun bs=>k (UInt8.ofNat n::bs)
 | _,_=>none
def uN2 {β:Type} (x:AV) (m:Mem) (k:AV->Mem->Option β):Option β :=
 match x with
 | .nilsl=>k (.str []) m
 | .sl .. | .so .. | .emp=>srcK 1 x m fun _ cs m=>xR0 cs fun bs=>k (.str bs) m
 | _=>none
def uN1 {β:Type} (x:AV) (m:Mem) (k:AV->Mem->Option β):Option β :=
 match x with
 | .str s=>zH1 (s.map fun b=>.int .u8 (.ofNat b.toNat)) fun cs=>newK m (.raw cs 1 true) fun j m=>k (.so j 1 0 s.length) m
 | _=>none
def mksK {β:Type} (zs:List AV) (esz bytes:Nat) (l c:AV) (m:Mem) (k:AV->Mem->Option β):Option β :=
 match idxA l 1048576,idxA c 1048576 with
 | some l,some c=>bif Nat.ble l c&&Nat.blt bytes 4096&&Nat.beq zs.length esz then zH1 (repA zs c) fun cs=>newK m (.raw cs esz false) fun j m=>k (.sl j 0 l c) m else none
 | _,_=>none
def on1 {β:Type} (f:AV->Option β):List AV->Option β
 | [x]=>f x
 | _=>none
def on2 {β:Type} (f:AV->AV->Option β):List AV->Option β
 | [x,y]=>f x y
 | _=>none
abbrev Cl:=Nat->List AV->Mem->Option (AV × Mem)
def yR5 {β:Type} (cl:Cl) (f:Nat) (xs:List AV) (m:Mem) (k:AV->Mem->Option β):Option β :=
 match cl f xs m with
 | some (v,m)=>k v m
 | none=>none
def tblA (t:Nat):List (Nat × Nat)->Option Nat
 | []=>none
 | (t',f)::l=>bif Nat.beq t' t then some f else tblA t l
def kdK {β:Type} (cl:Cl) (kd:Kd) (xs:List AV) (m:Mem) (k:AV->Mem->Option β):Option β :=
 match kd with
 | .new zs=>newK m (.raw zs 1 false) fun i m=>k (.ptr i 0) m
 | .box=>on1 (fun x=>zH1 (zF3 x) fun cs=>newK m (.raw cs 1 false) fun i m=>k (.ptr i 0) m) xs
 | .bsl zs len esz ps=>zS5 (repA zs len) ps xs fun cs=>zH1 cs fun cs=>newK m (.raw cs esz false) fun i m=>k (.sl i 0 len len) m
 | .ld1=>on1 (fun x=>ld1K x m k) xs
 | .ldn n=>on1 (fun x=>ldnK n x m k) xs
 | .st n=>on2 (fun x v=>stK n x v m k) xs
 | .cvbs=>on1 (fun x=>uN2 x m k) xs
 | .cvsb=>on1 (fun x=>uN1 x m k) xs
 | .mks zs esz bytes=>on2 (fun l c=>mksK zs esz bytes l c m k) xs
 | .app esz bytes=>on2 (fun x y=>appK esz bytes x y m k) xs
 | .cpy esz=>on2 (fun x y=>cpyK esz x y m k) xs
 | .clr zs=>on1 (fun x=>clrK zs x m k) xs
 | .call f=>zH1 xs fun xs=>yR5 cl f xs m k
 | .callv=>(match xs with | .fn f cs::xs=>zH1 (xs++cs) fun xs=>yR5 cl f xs m k | _=>none)
 | .inv tbl=>(match xs with | .ifc t v::xs=>(match tblA t tbl with | some f=>zH1 (v::xs) fun xs=>yR5 cl f xs m k | none=>none) | _=>none)
 | kd=>match zK2 kd xs with
  | some v=>k v m
  | none=>none
def mapO {α β:Type} (f:α->Option β):List α->Option (List β)
 | []=>some []
 | x::xs=>match f x with
  | some y=>(match mapO f xs with | some ys=>some (y::ys) | none=>none)
  | none=>none
theorem yK7 {α β:Type} {f:α->Option β} {x:α} {xs:List α} {r:List β} (h:mapO f (x::xs)=some r):∃ y ys,f x=some y/\mapO f xs=some ys/\r=y::ys:=by
 simp only [mapO] at h
 split at h
 ·rename_i y hy
  split at h
  ·rename_i ys hys;exact⟨y,ys,hy,hys,by simpa using h.symm⟩
  ·cases h
 ·cases h
theorem wH1 {α β:Type} {f:α->Option β} {r:List β} (h:mapO f []=some r):r=[]:=by simpa [mapO] using h.symm
theorem yH2 {α β:Type} {f:α->Option β} {xs:List α} {r:List β} (h:mapO f xs=some r):xs.length=r.length/\∀ (j:Nat) (x:α) (y:β),xs[j]?=some x->r[j]?=some y->f x=some y:=by
 induction xs generalizing r with
 | nil=>rw [wH1 h];exact⟨rfl,fun j x y hx=>by simp at hx⟩
 | cons x xs ih =>
  obtain⟨y,ys,h1,h2,rfl⟩:=yK7 h
  obtain⟨h3,h4⟩:=ih h2
  refine⟨by simp [h3],fun j a b ha hb=>?_⟩
  cases j with
  | zero=>simp at ha hb;subst ha;subst hb;exact h1
  | succ j=>exact h4 j a b (by simpa using ha) (by simpa using hb)
def yT5:Value->Option AV
 | .bool b=>some (.bool b)
 | .int k n=>some (.int k n)
 | .string s=>some (.str s.data.toList)
 | .pointer none=>some .nilp
 | .slice none 0 0=>some .nilsl
 | .nilFunc=>some .nilfn
 | .nilIface=>some .nilifc
 | _=>none
def uF6 (v:Value):Option AV :=
 match v with
 | .agg cs=>(match mapO yT5 cs.toList with | some l=>some (.agg l) | none=>none)
 | v=>yT5 v
theorem xL6 {ρ:Ren} {v:Value} {x:AV} (h:yT5 v=some x):VR ρ x v:=by
 unfold yT5 at h
 split at h<;>first | (cases h;constructor) | cases h
theorem yK6 {ρ:Ren} {vs:List Value} {xs:List AV} (h:mapO yT5 vs=some xs):VRs ρ xs vs:=by
 obtain⟨h1,h2⟩:=yH2 h
 exact⟨h1.symm,fun j x y hx hy=>xL6 (h2 j y x hy hx)⟩
theorem wG7 {ρ:Ren} {v:Value} {x:AV} (h:uF6 v=some x):VR ρ x v:=by
 unfold uF6 at h
 split at h
 ·rename_i cs
  split at h
  ·rename_i l hl
   cases h
   have:=(yK6 (ρ:=ρ) hl).agg
   simpa using this
  ·cases h
 ·exact xL6 h
def opd:Operand->Option Opd
 | .tmp t=>some (.t (pth t))
 | .const v=>(match uF6 v with | some x=>some (.c x) | none=>none)
 | .func f=>some (.c (.fn f []))
 | .global _=>none
def szOf (P:Program) (t:TypeId):Option Nat:=(P.info? t).map (·.size)
def zI8 (P:Program) (t:TypeId):Option (List AV) :=
 match P.info? t with
 | some i=>(match i.zero with | some z=>mapO yT5 z.cells.toList | none=>none)
 | none=>none
def zeroOf (P:Program) (t:TypeId):Option AV :=
 match P.info? t with
 | some i=>(match i.zero with | some z=>uF6 z | none=>none)
 | none=>none
def zI0:TypeDesc->Bool
 | .struct _ | .array _ _=>true
 | _=>false
def placeOf (P:Program) (fs:Array Field) (p:Nat × Operand):Option (Nat × Nat) :=
 match fs[p.1]? with
 | some f=>(match szOf P f.type with | some n=>some (f.offset,n) | none=>none)
 | none=>none
def zY4 (P:Program) (t:TypeId) (f:Field):Bool :=
 f.name != "_" && (match szOf P f.type, szOf P t with | some a, some b => Nat.ble (f.offset + a) b && Nat.ble 1 a | _, _ => false)
def zL0 (P:Program):Nat->Nat->TypeId->Option (List (Nat × Leaf))
 | 0,_,_=>none
 | d+1,off,t =>
  match P.underlying t with
  | some (.int _)=>some [(off,.int)]
  | some .string=>some [(off,.str)]
  | some .bool=>some [(off,.bool)]
  | some (.struct fs)=>if P.stoodInHeld t || !(fs.toList.all (zY4 P t)) then none else
   (match mapO (fun f:Field=>zL0 P d (off+f.offset) f.type) fs.toList with | some l=>some l.flatten | none=>none)
  | _=>none
def wJ4 (P:Program) (t:TypeId):Bool:=match P.underlying t with | some (.pointer _)=>true | _=>false
def isC:Operand->Bool
 | .const _=>true
 | _=>false
def zN6 (P:Program) (op:BinOp) (xt:TypeId) (x y:Operand):Option (Kd × List Operand) :=
 match P.underlying xt with
 | some (.int _)=>some (.bin op,[x,y])
 | some .string=>some (.sbin op,[x,y])
 | some d =>
  (match (match op with | .eql=>some false | .neq=>some true | _=>none) with
  | some neg =>
   (match d with
   | .bool=>some (.eqk neg .b,[x,y])
   | .pointer _=>some (.eqk neg .p,[x,y])
   | .slice _=>some (.eqk neg .s,[x,y])
   | .func _ _ _=>some (.eqk neg .f,[x,y])
   | .interface _=>if isC x || isC y then some (.eqk neg .i,[x,y]) else none
   | .struct _=>if P.eqGuardType P.depth xt then none else (match zL0 P 8 0 xt with | some ls=>some (.eqa neg ls,[x,y]) | none=>none)
   | _=>none)
  | none=>none)
 | none=>none
def zI3 (P:Program) (c:Call):Option (Kd × List Operand) :=
 match c.callee with
 | .value (.func f)=>some (.call f,c.args.toList)
 | .value (.tmp t)=>some (.callv,.tmp t::c.args.toList)
 | .invoke r name =>
  some (
     .inv ((List.range P.types.size).filterMap fun t =>
   match P.info? t with
   | some i=>(match i.methods.find? (·.name == name) with
    | some m=>(match m.path.isEmpty,m.func with
     | true,some (f,pr)=>if (wJ4 P t == pr)&&(P.underlying t).isSome then some (t,f) else none
     | _,_=>none)
    | none=>none)
   | none=>none),r::c.args.toList)
 | .builtin b =>
  (match c.argTypes[0]? with
  | none=>none
  | some t =>
   (match b with
   | .len=>(match P.underlying t with
    | some .string=>some (.lenst,c.args.toList)
    | some (.slice _)=>some (.len,c.args.toList)
    | some (.array n _)=>some (.lenc n,c.args.toList)
    | _=>none)
   | .cap=>(match P.underlying t with | some (.slice _)=>some (.cap,c.args.toList) | _=>none)
   | .append=>(match c.argTypes.toList with
    | [t,tx]=>(match P.underlying t with
     | some (.slice e)=>(match P.info? e,zI8 P e,P.underlying tx with
      | some i,some zs,some (.slice _) | some i,some zs,some .string=>if zs.length=i.size/\0 < i.size then some (.app i.size i.bytes,c.args.toList) else none
      | _,_,_=>none)
     | _=>none)
    | _=>none)
   | .copy=>(match P.underlying t with
    | some (.slice e)=>(match szOf P e with | some n=>some (.cpy n,c.args.toList) | none=>none)
    | _=>none)
   | .clear=>(match P.underlying t with
    | some (.slice e)=>(match zI8 P e with | some zs=>some (.clr zs,c.args.toList) | none=>none)
    | _=>none)
   | .min=>some (.mn,c.args.toList)
   | .max=>some (.mx,c.args.toList)
   | _=>none))
 | _=>none
def zC9 (P:Program):Op->Option (Kd × List Operand)
 | .move x | .assign x=>some (.mov,[x])
 | .pick c a b=>some (.pick,[c,a,b])
 | .alloc e=>(match zI8 P e with | some zs=>some (.new zs,[]) | none=>none)
 | .box _ x=>some (.box,[x])
 | .build t ps=>(match P.underlying t,zI8 P t with
  | some (.struct fs),some zs=>if fs.toList.all (fun f=>(P.info? f.type).isSome) then
    (match mapO (placeOf P fs) ps.toList with | some l=>some (.build zs l,ps.toList.map (·.2)) | none=>none) else none
  | some (.array _ e),some zs=>(match szOf P e with | some n=>some (.build zs (ps.toList.map fun p=>(p.1*n,n)),ps.toList.map (·.2)) | none=>none)
  | _,_=>none)
 | .buildSlice t len ps=>(match P.underlying t with
  | some (.slice e)=>(match zI8 P e,szOf P e with
   | some zs,some n=>if zs.length=n/\0 < len*n/\len*n<=1000 then some (.bsl zs len n (ps.toList.map fun p=>(p.1*n,n)),ps.toList.map (·.2)) else none
   | _,_=>none)
  | _=>none)
 | .load t a=>(match P.underlying t with
  | some d=>if zI0 d then (match szOf P t with | some n=>some (.ldn n,[a]) | none=>none) else some (.ld1,[a])
  | none=>none)
 | .store t a v=>(match szOf P t with | some n=>some (.st n,[a,v]) | none=>none)
 | .nilCheck x=>some (.nchk,[x])
 | .binOp op xt x y _=>zN6 P op xt x y
 | .unOp op _ x=>some (.un op,[x])
 | .convert s d x=>(match P.underlying s,P.underlying d with
  | some (.int _),some (.int k)=>some (.cvi k,[x])
  | some .string,some .string=>some (.cvs,[x])
  | some .string,some (.slice e)=>(match P.underlying e with | some (.int .u8)=>some (.cvsb,[x]) | _=>none)
  | some (.slice e),some .string=>(match P.underlying e with | some (.int .u8)=>some (.cvbs,[x]) | _=>none)
  | _,_=>none)
 | .makeInterface t x=>(match P.underlying t with
  | some (.interface _)=>none
  | some _=>some (.mki t,[x])
  | none=>none)
 | .makeFunc fn first cap=>(match fn with
  | .func f=>if first.isEmpty then some (.mkf f,cap.toList) else none
  | _=>none)
 | .makeSlice t l c=>(match P.underlying t with
  | some (.slice e)=>(match P.info? e,zI8 P e with
   | some i,some zs=>if zs.length=i.size/\0 < i.size then some (.mks zs i.size i.bytes,[l,c]) else none
   | _,_=>none)
  | _=>none)
 | .slice t x lo hi mx=>(match mx with
  | some _=>none
  | none=>(match P.underlying t with
   | some (.slice e)=>(match szOf P e with | some n=>some (.slc n lo.isSome hi.isSome,x::(lo.toList++hi.toList)) | none=>none)
   | some .string=>some (.sls lo.isSome hi.isSome,x::(lo.toList++hi.toList))
   | _=>none))
 | .fieldAddr t x j=>(match P.underlying t with
  | some (.struct fs)=>(match fs[j]? with
   | some f=>(match szOf P f.type with | some n=>if n=0 then none else some (.fad f.offset,[x]) | none=>none)
   | none=>none)
  | _=>none)
 | .field t x j=>(match P.underlying t with
  | some (.struct fs)=>(match fs[j]? with
   | some f=>(match P.underlying f.type with
    | some d=>if zI0 d then (match szOf P f.type with | some n=>some (.fldn f.offset n,[x]) | none=>none) else some (.fld1 f.offset,[x])
    | none=>none)
   | none=>none)
  | _=>none)
 | .indexAddr t x i=>(match P.underlying t with
  | some (.slice e)=>(match szOf P e with | some n=>some (.ixs n,[x,i]) | none=>none)
  | some (.array len e)=>(match szOf P e with | some n=>some (.ixa len n,[x,i]) | none=>none)
  | _=>none)
 | .index t x i=>(match P.underlying t with
  | some (.array len e)=>(match P.underlying e,szOf P e with
   | some d,some n=>if zI0 d then some (.ian len n,[x,i]) else if n=1 then some (.ia1 len,[x,i]) else none
   | _,_=>none)
  | some .string=>some (.istr,[x,i])
  | _=>none)
 | .typeAssert x _ t ok=>(match P.underlying t with
  | some (.interface _)=>none
  | some _=>some (.tas t ok (zeroOf P t),[x])
  | none=>none)
 | .extract x i=>some (.ext i,[x])
 | .call c=>zI3 P c
 | _=>none
theorem uI2 {ρ:Ren} {off:Nat} {xs vs ys:List AV} {X V Y:List Value} (h:Laid off xs vs ys) (hx:VRs ρ xs X) (hv:VRs ρ vs V)
  (hl:Y.length=X.length) (hin:∀ j,j < V.length->Y[off+j]?=V[j]?) (hout:∀ j,j < off∨off+V.length<=j->Y[j]?=X[j]?):VRs ρ ys Y:=by
 refine⟨by rw [h.len,hx.1,hl],fun j x y hxj hyj=>?_⟩
 by_cases hj:off<=j/\j < off+vs.length
 ·obtain⟨i,rfl⟩:∃ i,j=off+i:=⟨j - off,by omega⟩
  rw [h.inn i (by omega)] at hxj
  rw [hin i (by rw [<- hv.1];omega)] at hyj
  exact hv.2 i x y hxj hyj
 ·rw [h.out j (by omega)] at hxj
  rw [hout j (by rw [<- hv.1];omega)] at hyj
  exact hx.2 j x y hxj hyj
theorem yB8 {ρ:Ren} {x:AV} {v:Value} (h:VR ρ x v):VRs ρ (zF3 x) v.cells.toList:=by
 cases h with
 | agg hl h=>exact⟨by simpa [zF3,Value.cells] using hl,fun j a b ha hb=>h j a b ha (by simpa [Value.cells] using hb)⟩
 | _=>exact .cons (by constructor<;>assumption) .nil
theorem wK6 (off:Nat):∀ (vs:List Value) (k:Nat) (cs:Array Value),off+k+vs.length<=cs.size ->
  ((vs.zipIdx k).foldl (fun cs (c,j)=>cs.setIfInBounds (off+j) c) cs).size=cs.size /\
  (∀ j,j < vs.length->((vs.zipIdx k).foldl (fun cs (c,j)=>cs.setIfInBounds (off+j) c) cs)[off+k+j]?=vs[j]?) /\
  (∀ j,j < off+k∨off+k+vs.length<=j->((vs.zipIdx k).foldl (fun cs (c,j)=>cs.setIfInBounds (off+j) c) cs)[j]?=cs[j]?)
 | [],k,cs,_=>⟨rfl,fun j hj=>by simp at hj,fun j _=>rfl⟩
 | v::vs,k,cs,hroom=>by
  simp only [List.zipIdx_cons,List.foldl_cons]
  simp only [List.length_cons] at hroom
  obtain⟨h1,h2,h3⟩:=wK6 off vs (k+1) (cs.setIfInBounds (off+k) v) (by simp;omega)
  refine⟨by rw [h1];simp,fun j hj=>?_,fun j hj=>?_⟩
  ·cases j with
   | zero =>
    rw [h3 _ (.inl (by omega))]
    simp [Array.getElem?_setIfInBounds]
    omega
   | succ j =>
    have:=h2 j (by simpa using hj)
    rw [show off+k+(j+1)=off+(k+1)+j by omega,this]
    simp
  ·simp only [List.length_cons] at hj
   rw [h3 j (by omega)]
   rw [Array.getElem?_setIfInBounds_ne (by omega)]
theorem xB4 {ρ:Ren} (place:Nat->Option (Nat × Nat)):∀ (ps:List (Nat × Nat)) (ids:List (Nat × Value)) (zs:List AV) (Z:Array Value) (xs ys:List AV),
  ids.length=ps.length->(∀ (j:Nat) p q,ps[j]?=some p->ids[j]?=some q->place q.1=some p)->VRs ρ zs Z.toList->VRs ρ xs (ids.map (·.2)) ->
  zS5 zs ps xs some=some ys->∃ Y,Instr.fill place Z ids=some Y/\VRs ρ ys Y.toList
 | [],ids,zs,Z,xs,ys,hl,_,hz,hx,h=>by
  obtain rfl:ids=[]:=by cases ids<;>simp_all
  rw [List.map_nil] at hx
  obtain rfl:xs=[]:=by cases xs<;>simp_all [VRs]
  simp [zS5] at h
  subst h
  exact⟨Z,rfl,hz⟩
 | (off,size)::ps,ids,zs,Z,xs,ys,hl,hp,hz,hx,h=>by
  cases ids with
  | nil=>simp at hl
  | cons q ids =>
   obtain⟨i,v⟩:=q
   cases xs with
   | nil=>simp [VRs] at hx
   | cons x xs =>
    obtain⟨v',vs',hv',hxv,hxs⟩:=hx.cons_inv
    simp only [List.map_cons,List.cons.injEq] at hv'
    obtain⟨rfl,rfl⟩:=hv'
    simp only [zS5] at h
    cases hsz:Nat.beq (zF3 x).length size with
    | false=>rw [hsz] at h;simp at h
    | true =>
     rw [hsz,cond_true] at h
     obtain⟨zs',hlay,h,_⟩:=zO9 h
     have hcv:=yB8 hxv
     have hsz':v.cells.size=size:=by rw [<- Nat.eq_of_beq_eq_true hsz,hcv.1];simp
     have hroom:off+v.cells.size<=Z.size:=by
      have:=hlay.room
      rw [hcv.1,hz.1] at this
      simpa using this
     obtain⟨f1,f2,f3⟩:=wK6 off v.cells.toList 0 Z (by simpa using hroom)
     have hz':VRs ρ zs' ((v.cells.toList.zipIdx 0).foldl (fun cs (c,j)=>cs.setIfInBounds (off+j) c) Z).toList :=
      uI2 hlay hz hcv (by simpa using f1) (fun j hj=>by have:=f2 j hj;simpa using this) (fun j hj=>by have:=f3 j (by simpa using hj);simpa using this)
     obtain⟨Y,hY,hvY⟩:=xB4 place ps ids zs' _ xs ys (by simpa using hl) (fun j p q hpj hqj=>hp (j+1) p q (by simpa using hpj) (by simpa using hqj)) hz' hxs h
     refine⟨Y,?_,hvY⟩
     have e:v.cells.zipIdx.foldl (fun cs (c,j)=>cs.setIfInBounds (off+j) c) Z=(v.cells.toList.zipIdx 0).foldl (fun cs (c,j)=>cs.setIfInBounds (off+j) c) Z:=by
      rw [<- Array.foldl_toList,Array.toList_zipIdx]
     have hpl:place i=some (off,size):=hp 0 _ _ rfl rfl
     simp only [Instr.fill,hpl]
     rw [if_neg (by simp [hsz'];omega),e]
     exact hY
theorem xB5 {β:Type}:∀ (ps:List (Nat × Nat)) (zs xs:List AV) (k:List AV->Option β) (r:β),zS5 zs ps xs k=some r->∃ ys,zS5 zs ps xs some=some ys/\k ys=some r
 | [],zs,xs,k,r,h=>by
  cases xs with
  | nil=>exact⟨zs,rfl,by simpa [zS5] using h⟩
  | cons x xs=>simp [zS5] at h
 | (off,size)::ps,zs,xs,k,r,h=>by
  cases xs with
  | nil=>simp [zS5] at h
  | cons x xs =>
   simp only [zS5] at h ⊢
   cases hsz:Nat.beq (zF3 x).length size with
   | false=>rw [hsz] at h;simp at h
   | true =>
    rw [hsz,cond_true] at h
    obtain⟨zs',hlay,h,hf⟩:=zO9 h
    obtain⟨ys,h1,h2⟩:=xB5 ps zs' xs k r h
    refine⟨ys,?_,h2⟩
    rw [cond_true,hf]
    exact h1
theorem zF0 {f:AV->Option AV} {vs:List AV} {r:AV} (h:one1 f vs=some r):∃ x,vs=[x]/\f x=some r:=by
 unfold one1 at h
 split at h
 ·exact⟨_,rfl,h⟩
 ·cases h
theorem zH7 {f:AV->AV->Option AV} {vs:List AV} {r:AV} (h:two2 f vs=some r):∃ x y,vs=[x,y]/\f x y=some r:=by
 unfold two2 at h
 split at h
 ·exact⟨_,_,rfl,h⟩
 ·cases h
theorem vN5 {f:AV->List AV->Option AV} {vs:List AV} {r:AV} (h:headA f vs=some r):∃ x xs,vs=x::xs/\f x xs=some r:=by
 unfold headA at h
 split at h
 ·exact⟨_,_,rfl,h⟩
 ·cases h
theorem VRs.one {ρ:Ren} {x:AV} {y:Value} (h:VRs ρ [x] [y]):VR ρ x y:=h.2 0 _ _ rfl rfl
theorem VRs.two {ρ:Ren} {x x':AV} {y y':Value} (h:VRs ρ [x,x'] [y,y']):VR ρ x y/\VR ρ x' y':=⟨h.2 0 _ _ rfl rfl,h.2 1 _ _ rfl rfl⟩
def limE:IntKind->Nat
 | .i8=>7 | .i16=>15 | .i32=>31 | .i64=>63 | .u8=>8 | .u16=>16 | .u32=>32 | .u64=>64
theorem wI5 (k:IntKind):lim k=2 ^ limE k:=by cases k<;>rfl
theorem qC1 (k:IntKind):limE k<=k.bits:=by cases k<;>decide
theorem wrap_small {k:IntKind} {z:Nat} (h:z < lim k):k.wrap (z:Int)=(z:Int):=by
 have:=zF4 k (.ofNat z)
 simp only [zA3,blt_iff.2 h,cond_true] at this
 exact this.symm
theorem zJ1 {k:IntKind} {z:Nat} (h:z < lim k):(BitVec.ofInt k.bits (z:Int)).toNat=z:=by
 have h2:z < 2 ^ k.bits:=Nat.lt_of_lt_of_le (by rw [wI5] at h;exact h) (Nat.pow_le_pow_right (by decide) (qC1 k))
 rw [BitVec.toNat_ofInt]
 have:((z:Int) % ((2 ^ k.bits:Nat):Int))=(z:Int):=Int.emod_eq_of_lt (by omega) (by exact_mod_cast h2)
 rw [this]
 simp
section
variable {P:Program} {w:World}
theorem yG8 (op:BinOp) (k:IntKind) (a b:Int) (r:AV) {ρ:Ren}
  (h:(match op with | .and=>xC7 Nat.land k a b | .or=>xC7 Nat.lor k a b | .xor=>xC7 Nat.xor k a b | _=>none)=some r) :
  ∃ v,(Op.intBits op k a b).run P w=.ok v w/\VR ρ r v:=by
 have key:∀ f:Nat->Nat->Nat,xC7 f k a b=some r->∃ x y:Nat,a=(x:Int)/\b=(y:Int)/\x < lim k/\y < lim k/\r=.int k (f x y:Nat):=by
  intro f hf
  unfold xC7 at hf
  split at hf
  ·rename_i x y
   cases hb:Nat.blt x (lim k)&&Nat.blt y (lim k) with
   | false=>rw [hb] at hf;cases hf
   | true =>
    rw [hb,cond_true] at hf
    simp only [Bool.and_eq_true,blt_iff] at hb
    exact⟨x,y,rfl,rfl,hb.1,hb.2,by cases hf;rfl⟩
  ·cases hf
 cases op with
 | and =>
  obtain⟨x,y,rfl,rfl,hx,hy,rfl⟩:=key _ h
  refine⟨_,rfl,?_⟩
  rw [BitVec.toNat_and,zJ1 hx,zJ1 hy]
  have:x &&& y < lim k:=by rw [wI5] at *;exact Nat.and_lt_two_pow _ hy
  rw [wrap_small this]
  exact .int _ _
 | or =>
  obtain⟨x,y,rfl,rfl,hx,hy,rfl⟩:=key _ h
  refine⟨_,rfl,?_⟩
  rw [BitVec.toNat_or,zJ1 hx,zJ1 hy]
  have:x ||| y < lim k:=by rw [wI5] at *;exact Nat.or_lt_two_pow hx hy
  rw [wrap_small this]
  exact .int _ _
 | xor =>
  obtain⟨x,y,rfl,rfl,hx,hy,rfl⟩:=key _ h
  refine⟨_,rfl,?_⟩
  rw [BitVec.toNat_xor,zJ1 hx,zJ1 hy]
  have:x ^^^ y < lim k:=by rw [wI5] at *;exact Nat.xor_lt_two_pow hx hy
  rw [wrap_small this]
  exact .int _ _
 | _=>cases h
theorem xY1 (op:BinOp) (t:TypeId) (x y:Operand) (k k':IntKind) (a b:Int):(eqGuard op t x y (.int k a) (.int k' b)).run P w=.ok () w:=by
 unfold eqGuard
 split<;>rfl
theorem yR3 (op:BinOp) (t:TypeId) (x y:Operand) (a b:ByteArray):(eqGuard op t x y (.string a) (.string b)).run P w=.ok () w:=by
 unfold eqGuard
 split<;>rfl
theorem uX3 {op:BinOp} {k k':IntKind} {a b:Int} {r:AV} {ρ:Ren} (t:TypeId) (h:binA op k k' a b=some r) :
  ∃ v,(binOp op t (.int k a) (.int k' b)).run P w=.ok v w/\VR ρ r v:=by
 have arm:op≠.shl->op≠.shr->k=k'/\binC op k a b=some r:=by
  intro h1 h2
  cases hk:Nat.beq (kn k) (kn k') with
  | false=>cases op<;>first | exact absurd rfl h1 | exact absurd rfl h2 | (simp only [binA,hk,cond_false] at h;cases h)
  | true =>
   refine⟨uS5 hk,?_⟩
   cases op<;>first | exact absurd rfl h1 | exact absurd rfl h2 | (simp only [binA,hk,cond_true] at h;exact h)
 cases op with
 | shl =>
  clear arm
  simp only [binA,shlA] at h
  split at h
  ·rename_i n
   cases hb:Nat.ble n k.bits with
   | false=>rw [hb] at h;cases h
   | true =>
    rw [hb,cond_true] at h
    have hn:=Nat.le_of_ble_eq_true hb
    refine⟨.int k (k.wrap (a*2 ^ n)),?_,?_⟩
    ·show (Op.shift .shl k a k' (n:Int)).run P w=_
     unfold Op.shift
     rw [if_neg (by omega)]
     simp only [Int.toNat_natCast,Nat.min_eq_left hn]
     rfl
    ·cases h
     rw [zF4]
     have:(Int.ofNat (2 ^ n))=(2:Int) ^ n:=by simp
     rw [this]
     exact .int _ _
  ·cases h
 | shr =>
  clear arm
  simp only [binA,shrA] at h
  split at h
  ·rename_i x n
   cases hb:Nat.ble n k.bits with
   | false=>rw [hb] at h;cases h
   | true =>
    rw [hb,cond_true] at h
    have hn:=Nat.le_of_ble_eq_true hb
    refine⟨.int k ((x:Int).fdiv (2 ^ n)),?_,?_⟩
    ·show (Op.shift .shr k (x:Int) k' (n:Int)).run P w=_
     unfold Op.shift
     rw [if_neg (by omega)]
     simp only [Int.toNat_natCast,Nat.min_eq_left hn]
     rfl
    ·cases h
     have:(x:Int).fdiv (2 ^ n)=Int.ofNat (x / 2 ^ n):=by
      have e:(2:Int) ^ n=((2 ^ n:Nat):Int):=by simp
      rw [e]
      exact (Int.ofNat_fdiv x (2 ^ n)).symm
     rw [this]
     exact .int _ _
  ·cases h
 | quo =>
  replace h:=arm (by decide) (by decide)
  clear arm
  obtain⟨rfl,h⟩:=h
  simp only [binC] at h
  cases hb:eqI b 0 with
  | true=>rw [hb] at h;cases h
  | false =>
   rw [hb,cond_false] at h
   rw [zC5,decide_eq_false_iff_not] at hb
   cases h
   refine⟨.int k (k.wrap (a.tdiv b)),?_,by rw [zF4];exact .int _ _⟩
   simp [binOp,Op.intDiv,hb]
 | rem =>
  replace h:=arm (by decide) (by decide)
  clear arm
  obtain⟨rfl,h⟩:=h
  simp only [binC] at h
  cases hb:eqI b 0 with
  | true=>rw [hb] at h;cases h
  | false =>
   rw [hb,cond_false] at h
   rw [zC5,decide_eq_false_iff_not] at hb
   cases h
   refine⟨.int k (a.tmod b),?_,.int _ _⟩
   simp [binOp,Op.intDiv,hb]
 | and=>
  replace h:=arm (by decide) (by decide)
  clear arm
  obtain⟨rfl,h⟩:=h
  obtain⟨v,h1,h2⟩:=yG8 (P:=P) (w:=w) (ρ:=ρ) .and k a b r h
  exact⟨v,by simpa [binOp] using h1,h2⟩
 | or=>
  replace h:=arm (by decide) (by decide)
  clear arm
  obtain⟨rfl,h⟩:=h
  obtain⟨v,h1,h2⟩:=yG8 (P:=P) (w:=w) (ρ:=ρ) .or k a b r h
  exact⟨v,by simpa [binOp] using h1,h2⟩
 | xor=>
  replace h:=arm (by decide) (by decide)
  clear arm
  obtain⟨rfl,h⟩:=h
  obtain⟨v,h1,h2⟩:=yG8 (P:=P) (w:=w) (ρ:=ρ) .xor k a b r h
  exact⟨v,by simpa [binOp] using h1,h2⟩
 | andNot=>have:=(arm (by decide) (by decide)).2;cases this
 | add =>
  replace h:=arm (by decide) (by decide)
  clear arm
  obtain⟨rfl,h⟩:=h
  cases h
  exact⟨.int k (k.wrap (a+b)),by simp [binOp,Op.intArith],by rw [zF4];exact .int _ _⟩
 | sub =>
  replace h:=arm (by decide) (by decide)
  clear arm
  obtain⟨rfl,h⟩:=h
  cases h
  exact⟨.int k (k.wrap (a - b)),by simp [binOp,Op.intArith],by rw [zF4];exact .int _ _⟩
 | mul =>
  replace h:=arm (by decide) (by decide)
  clear arm
  obtain⟨rfl,h⟩:=h
  cases h
  exact⟨.int k (k.wrap (a*b)),by simp [binOp,Op.intArith],by rw [zF4];exact .int _ _⟩
 | eql =>
  replace h:=arm (by decide) (by decide)
  clear arm
  obtain⟨rfl,h⟩:=h
  cases h
  refine⟨.bool (a == b),by simp [binOp,Op.intCmp],?_⟩
  rw [zC5,show (a == b)=decide (a=b) by rw [Bool.eq_iff_iff];simp]
  exact .bool _
 | neq =>
  replace h:=arm (by decide) (by decide)
  clear arm
  obtain⟨rfl,h⟩:=h
  cases h
  refine⟨.bool (a != b),by simp [binOp,Op.intCmp],?_⟩
  rw [zC5,show (a != b)=!decide (a=b) by rw [Bool.eq_iff_iff];simp]
  exact .bool _
 | lss =>
  replace h:=arm (by decide) (by decide)
  clear arm
  obtain⟨rfl,h⟩:=h
  cases h
  refine⟨.bool (decide (a < b)),by simp [binOp,Op.intCmp],?_⟩
  rw [zE0]
  exact .bool _
 | leq =>
  replace h:=arm (by decide) (by decide)
  clear arm
  obtain⟨rfl,h⟩:=h
  cases h
  refine⟨.bool (decide (a<=b)),by simp [binOp,Op.intCmp],?_⟩
  rw [zE0,show (!decide (b < a))=decide (a<=b) by rw [Bool.eq_iff_iff];simp]
  exact .bool _
 | gtr =>
  replace h:=arm (by decide) (by decide)
  clear arm
  obtain⟨rfl,h⟩:=h
  cases h
  refine⟨.bool (decide (a > b)),by simp [binOp,Op.intCmp],?_⟩
  rw [zE0]
  exact .bool _
 | geq =>
  replace h:=arm (by decide) (by decide)
  clear arm
  obtain⟨rfl,h⟩:=h
  cases h
  refine⟨.bool (decide (a ≥ b)),by simp [binOp,Op.intCmp],?_⟩
  rw [zE0,show (!decide (a < b))=decide (a ≥ b) by rw [Bool.eq_iff_iff];simp]
  exact .bool _
theorem uQ3 (a b:UInt8):Nat.beq a.toNat b.toNat=(a == b):=by
 rw [Bool.eq_iff_iff,Nat.beq_eq,beq_iff_eq]
 exact⟨fun h=>UInt8.toNat_inj.1 h,fun h=>h ▸ rfl⟩
theorem qK9 (a b:UInt8):Nat.blt a.toNat b.toNat=decide (a < b):=by
 rw [Bool.eq_iff_iff,blt_iff,decide_eq_true_iff]
 exact UInt8.lt_iff_toNat_lt.symm
theorem yW0 (x y:List UInt8):zC1 x y=(x == y):=by
 induction x generalizing y with
 | nil=>cases y<;>rfl
 | cons a x ih =>
  cases y with
  | nil=>rfl
  | cons b y=>simp only [zC1,ih,uQ3,List.cons_beq_cons]
theorem wU7 (x y:List UInt8):zF1 x y=Op.bytesLess x y:=by
 induction x generalizing y with
 | nil=>cases y<;>rfl
 | cons a x ih =>
  cases y with
  | nil=>rfl
  | cons b y=>simp only [zF1,Op.bytesLess,ih,uQ3,qK9]
theorem size_mk (l:List UInt8):(ByteArray.mk l.toArray).size=l.length:=by simp [ByteArray.size]
theorem uX0 {op:BinOp} {x y:List UInt8} {r:AV} {ρ:Ren} (t:TypeId) (h:vA3 op x y=some r) :
  ∃ v,(binOp op t (.string ⟨x.toArray⟩) (.string ⟨y.toArray⟩)).run P w=.ok v w/\VR ρ r v:=by
 have e:binOp op t (.string ⟨x.toArray⟩) (.string ⟨y.toArray⟩)=Op.stringOp op ⟨x.toArray⟩ ⟨y.toArray⟩:=by cases op<;>rfl
 rw [e]
 cases op<;>simp only [vA3] at h<;>first | cases h;done | skip
 case add =>
  cases hb:Nat.blt (x.length+y.length) 1000000 with
  | false=>rw [hb] at h;cases h
  | true =>
   rw [hb,cond_true] at h
   cases h
   rw [blt_iff] at hb
   refine⟨.string (⟨x.toArray⟩++⟨y.toArray⟩),?_,?_⟩
   ·simp only [Op.stringOp,size_mk]
    rw [if_neg (by simp only [IntKind.max,IntKind.signed,IntKind.bits,if_true];omega)]
    rfl
   ·have:((⟨x.toArray⟩:ByteArray)++⟨y.toArray⟩)=⟨(x++y).toArray⟩:=by
     apply ByteArray.ext
     simp
    rw [this]
    exact .str _
 all_goals
  cases h
  refine⟨_,rfl,?_⟩
  simp only [ByteArray.toList_mk,yW0,wU7]
  exact .bool _
end
section
variable {P:Program} {w:World} {ρ:Ren}
theorem zJ8 {t:TypeId} {d:TypeDesc} (h:P.underlying t=some d) (w:World):(isAgg t).run P w=.ok (zI0 d) w:=by
 unfold isAgg
 rw [Sem.run_bind,run_underlying h w]
 cases d<;>rfl
theorem zE1 {t:TypeId} {n:Nat} (h:szOf P t=some n) (w:World):(Go.sizeOf t).run P w=.ok n w:=by
 unfold szOf at h
 cases hi:P.info? t with
 | none=>rw [hi] at h;cases h
 | some i =>
  rw [hi] at h
  simp at h
  subst h
  simp [Go.sizeOf,typeInfo,hi]
def PartOf (P:Program) (t:TypeId) (off:Nat) (XV:List Value) (X:Value):Prop :=
 ∃ d,P.underlying t=some d/\(if zI0 d=true then ∃ (n:Nat) (A:Array Value),szOf P t=some n/\X=.agg A/\∀ j,j < n->A[j]?=XV[off+j]? else XV[off]?=some X)
theorem zN4 {xs ys:List AV}:∀ {l1 l2:List (Nat × Leaf)} {b:Bool},zJ2 xs ys (l1++l2)=some b->∃ b1 b2,zJ2 xs ys l1=some b1/\zJ2 xs ys l2=some b2/\b=(b1&&b2)
 | [],l2,b,h=>⟨true,b,rfl,h,by simp⟩
 | (o,l)::l1,l2,b,h=>by
  simp only [List.cons_append,zJ2] at h ⊢
  split at h
  ·rename_i x y hx hy
   cases hl:yL8 l x y with
   | none=>rw [hl] at h;cases h
   | some c =>
    rw [hl] at h
    cases c with
    | true =>
     obtain⟨b1,b2,h1,h2,h3⟩:=zN4 h
     exact⟨b1,b2,by simp only [];exact h1,h2,h3⟩
    | false =>
     simp only at h
     split at h
     ·rename_i c hc
      cases h
      obtain⟨b1,b2,h1,h2,h3⟩:=zN4 hc
      exact⟨false,b2,by simp only [h1],h2,rfl⟩
     ·cases h
  ·cases h
theorem head_drop {xs:List AV} {o:Nat} {x:AV} (h:(zP7 o xs).head?=some x):xs[o]?=some x:=by
 rw [xB7] at h
 simpa using h
theorem zR9 {xs ys:List AV} {o:Nat} {l:Leaf} {b:Bool} (h:zJ2 xs ys [(o,l)]=some b):∃ x y,xs[o]?=some x/\ys[o]?=some y/\yL8 l x y=some b:=by
 simp only [zJ2] at h
 split at h
 ·rename_i x y hx hy
  refine⟨x,y,head_drop hx,head_drop hy,?_⟩
  cases hl:yL8 l x y with
  | none=>rw [hl] at h;cases h
  | some c=>rw [hl] at h;cases c<;>exact h
 ·cases h
theorem wF8 {f:Field} {off n:Nat} {XV:List Value} {A:Array Value} (hA:∀ j,j < n->A[j]?=XV[off+j]?) {fs:Nat} (hs:szOf P f.type=some fs) (hfit:f.offset+fs<=n) {d:TypeDesc} (hd:P.underlying f.type=some d)
  (hin:zI0 d=false->∃ v,XV[off+f.offset]?=some v/\f.offset < n):∃ X,(part f.type A f.offset).run P w=.ok X w/\PartOf P f.type (off+f.offset) XV X:=by
 unfold part
 rw [Sem.run_bind,zJ8 hd w,Result.andThen_ok]
 cases hr:zI0 d with
 | true =>
  refine⟨.agg (A.extract f.offset (f.offset+fs)),by simp [zE1 hs],d,hd,?_⟩
  rw [if_pos hr]
  refine⟨fs,_,hs,rfl,fun j hj=>?_⟩
  rw [Nat.add_assoc,<- hA _ (by omega)]
  simp [Array.getElem?_extract]
  omega
 | false =>
  obtain⟨v,hv,hlt⟩:=hin hr
  have:A[f.offset]?=some v:=by rw [hA _ hlt,hv]
  refine⟨v,by simp [this],d,hd,?_⟩
  rw [if_neg (by simp [hr])]
  exact hv
theorem uI1 {x y:AV} {b:Bool} (h:yL8 .int x y=some b):∃ k a c,x=.int k a/\y=.int k c/\b=(a == c):=by
 cases x<;>cases y<;>simp only [yL8] at h<;>first | (cases h;done) | skip
 rename_i k a k' c
 cases hk:Nat.beq (kn k) (kn k') with
 | false=>rw [hk] at h;cases h
 | true =>
  rw [hk,cond_true] at h
  cases h
  obtain rfl:=uS5 hk
  refine⟨k,a,c,rfl,rfl,?_⟩
  rw [zC5,Bool.eq_iff_iff];simp
theorem uI0 {x y:AV} {b:Bool} (h:yL8 .str x y=some b):∃ a c,x=.str a/\y=.str c/\b=(a == c):=by
 cases x<;>cases y<;>simp only [yL8] at h<;>first | (cases h;done) | skip
 rename_i a c
 cases h
 exact⟨a,c,rfl,rfl,yW0 _ _⟩
theorem vK2 {x y:AV} {b:Bool} (h:yL8 .bool x y=some b):∃ a c,x=.bool a/\y=.bool c/\b=(a == c):=by
 cases x<;>cases y<;>simp only [yL8] at h<;>first | (cases h;done) | skip
 rename_i a c
 cases h
 exact⟨a,c,rfl,rfl,by cases a<;>cases c<;>rfl⟩
theorem xN0:∀ (d:Nat) (t:TypeId) (off:Nat) (ls:List (Nat × Leaf)),zL0 P d off t=some ls->∀ (xs ys:List AV) (XV YV:List Value),VRs ρ xs XV->VRs ρ ys YV ->
  ∀ b,zJ2 xs ys ls=some b->∀ D,d<=D->∀ X Y,PartOf P t off XV X->PartOf P t off YV Y->∀ w,(Op.equalIn D t X Y).run P w=.ok b w
 | 0,_,_,_,h=>by simp [zL0] at h
 | d+1,t,off,ls,h=>by
  intro xs ys XV YV hx hy b hb D hD X Y hX hY w
  obtain⟨D,rfl⟩:∃ D',D=D'+1:=⟨D - 1,by omega⟩
  obtain⟨dx,hdx,hX⟩:=hX
  obtain⟨dy,hdy,hY⟩:=hY
  rw [hdx] at hdy
  cases hdy
  simp only [zL0,hdx] at h
  cases dx<;>simp only at h<;>first | (cases h;done) | skip
  case int k =>
   cases h
   rw [if_neg (by simp [zI0])] at hX hY
   obtain⟨x,y,h1,h2,h3⟩:=zR9 hb
   have hvx:=hx.2 _ _ _ h1 hX
   have hvy:=hy.2 _ _ _ h2 hY
   obtain⟨k1,a,c,rfl,rfl,rfl⟩:=uI1 h3
   cases hvx
   cases hvy
   exact run_equalIn_int w D t k1 k a c hdx
  case string =>
   cases h
   rw [if_neg (by simp [zI0])] at hX hY
   obtain⟨x,y,h1,h2,h3⟩:=zR9 hb
   have hvx:=hx.2 _ _ _ h1 hX
   have hvy:=hy.2 _ _ _ h2 hY
   obtain⟨a,c,rfl,rfl,rfl⟩:=uI0 h3
   cases hvx
   cases hvy
   rw [run_equalIn_string w D t _ _ hdx,ByteArray.toList_mk,ByteArray.toList_mk]
  case bool =>
   cases h
   rw [if_neg (by simp [zI0])] at hX hY
   obtain⟨x,y,h1,h2,h3⟩:=zR9 hb
   have hvx:=hx.2 _ _ _ h1 hX
   have hvy:=hy.2 _ _ _ h2 hY
   obtain⟨a,c,rfl,rfl,rfl⟩:=vK2 h3
   cases hvx
   cases hvy
   exact run_equalIn_bool' w D t a c hdx
  case struct fs =>
   split at h
   ·cases h
   ·rename_i hcond
    have hst:P.stoodInHeld t=false:=by
     cases hh:P.stoodInHeld t with
     | false=>rfl
     | true=>exact absurd (by simp [hh]) hcond
    have hall':∀ f∈fs.toList,zY4 P t f=true:=by
     rw [<- List.all_eq_true]
     cases hh:fs.toList.all (zY4 P t) with
     | true=>rfl
     | false=>exact absurd (by rw [hh];simp) hcond
    split at h
    ·rename_i l hl
     cases h
     rw [if_pos (show zI0 (TypeDesc.struct fs)=true from rfl)] at hX hY
     obtain⟨n,A,hn,rfl,hA⟩:=hX
     obtain⟨n',B,hn',rfl,hB⟩:=hY
     rw [hn] at hn'
     cases hn'
     have hfo:P.fieldsOf t=fs:=by simp [Program.fieldsOf,hdx]
     rw [run_equalIn_struct w D t A B (by rw [hfo];exact hdx) hst,hfo]
     clear hfo
     generalize fs.toList=fl at *
     clear hcond hdx
     induction fl generalizing l b with
     | nil =>
      rw [wH1 hl] at hb
      cases hb
      rfl
     | cons f fl ih =>
      obtain⟨l1,l2,e1,e2,rfl⟩:=yK7 hl
      rw [List.flatten_cons] at hb
      obtain⟨b1,b2,hb1,hb2,rfl⟩:=zN4 hb
      have hf:=hall' f List.mem_cons_self
      simp only [zY4,Bool.and_eq_true] at hf
      obtain⟨hne,hfit⟩:=hf
      rw [hn] at hfit
      cases hfs:szOf P f.type with
      | none=>rw [hfs] at hfit;cases hfit
      | some k =>
       rw [hfs] at hfit
       simp only [Bool.and_eq_true] at hfit
       obtain⟨hfit,hpos⟩:=hfit
       have hfit':=Nat.le_of_ble_eq_true hfit
       have ⟨df,hdf⟩:∃ df,P.underlying f.type=some df:=by
        cases hu:P.underlying f.type with
        | some df=>exact⟨df,rfl⟩
        | none =>
         cases d with
         | zero=>simp [zL0] at e1
         | succ d=>simp [zL0,hu] at e1
       have hscal:zI0 df=false->(∃ v,XV[off+f.offset]?=some v/\f.offset < n)/\(∃ v,YV[off+f.offset]?=some v/\f.offset < n):=by
        intro hr
        cases d with
        | zero=>simp [zL0] at e1
        | succ d =>
         have hone:∃ lf,l1=[(off+f.offset,lf)]:=by
          simp only [zL0,hdf] at e1
          cases df<;>simp only at e1<;>first | (cases e1;exact⟨_,rfl⟩) | (cases e1;done) | (cases hr;done)
         obtain⟨lf,rfl⟩:=hone
         obtain⟨x,y,g1,g2,_⟩:=zR9 hb1
         obtain⟨vx,hvx,_⟩:=hx.get g1
         obtain⟨vy,hvy,_⟩:=hy.get g2
         have hlt:f.offset < n:=by
          have:=Nat.le_of_ble_eq_true hpos
          omega
         exact⟨⟨vx,hvx,hlt⟩,vy,hvy,hlt⟩
       obtain⟨X,hX1,hX2⟩:=wF8 (w:=w) hA hfs hfit' hdf fun hr=>(hscal hr).1
       obtain⟨Y,hY1,hY2⟩:=wF8 (w:=w) hB hfs hfit' hdf fun hr=>(hscal hr).2
       have heq:=xN0 d f.type (off+f.offset) l1 e1 xs ys XV YV hx hy b1 hb1 D (by omega) X Y hX2 hY2 w
       have hne' : f.name ≠ "_" := by simpa using hne
       simp only [Op.eqFields]
       rw [if_pos hne']
       simp only [Sem.run_bind,hX1,hY1,Result.andThen_ok,heq]
       cases b1 with
       | false=>simp
       | true =>
        simp only [Bool.not_true,Bool.false_eq_true,if_false,Bool.true_and]
        exact ih b2 l2 hb2 (fun g hg=>hall' g (List.mem_cons_of_mem _ hg)) e2
    ·cases h
end
section
variable {P:Program} {w:World} {ρ:Ren}
theorem beqN {a b:Nat}:Nat.beq a b=true↔a=b:=by rw [Nat.beq_eq]
theorem yH7 {x:AV} {v:Value} {y n:Nat} (code:BoundsCode) (h:bndA x y=some n) (hv:VR ρ x v):n<=y/\∀ y',n<=y'->(Instr.sliceBound v y' code).run P w=.ok n w:=by
 unfold bndA at h
 split at h
 ·rename_i k m
  cases hb:Nat.ble m y with
  | false=>rw [hb] at h;cases h
  | true =>
   rw [hb,cond_true] at h
   cases h
   cases hv
   refine⟨Nat.le_of_ble_eq_true hb,fun y' hy=>?_⟩
   simp only [Instr.sliceBound,asIntOf,Sem.run_bind,Sem.run_pure,Result.andThen_ok]
   rw [if_pos ⟨by simp,by simpa using hy⟩]
   simp
 ·cases h
theorem zZ1 {lo hi:Bool} {B l h len cap:Nat} {xs:List AV} {vl vh:Option Value} (isSlice:Bool) (hb:zU6 lo hi B xs=some (l,h)) (hlo:vl.isSome=lo) (hhi:vh.isSome=hi) (hv:VRs ρ xs (vl.toList++vh.toList))
  (h1:hi=true->B<=cap) (h2:hi=false->B=len):l<=h/\h<=B/\(hi=false->h=len)/\(Instr.sliceBounds isSlice len cap vl vh none).run P w=.ok (l,h,cap) w:=by
 unfold zU6 at hb
 split at hb
 ·cases hb
  cases vl<;>cases vh<;>simp at hlo hhi
  obtain rfl:=h2 rfl
  exact⟨Nat.zero_le _,Nat.le_refl _,fun _=>rfl,by simp [Instr.sliceBounds]⟩
 ·cases vl<;>cases vh<;>simp at hlo hhi
  rename_i v
  split at hb
  ·rename_i l' hl'
   cases hb
   obtain rfl:=h2 rfl
   obtain⟨e1,e2⟩:=yH7 (P:=P) (w:=w) .sliceB hl' (VRs.one (by simpa using hv))
   exact⟨e1,Nat.le_refl _,fun _=>rfl,by simp [Instr.sliceBounds,e2 _ e1]⟩
  ·cases hb
 ·cases vl<;>cases vh<;>simp at hlo hhi
  rename_i v
  split at hb
  ·rename_i l' hl'
   cases hb
   obtain⟨e1,e2⟩:=yH7 (P:=P) (w:=w) (if isSlice then .sliceAcap else .sliceAlen) hl' (VRs.one (by simpa using hv))
   exact⟨Nat.zero_le _,e1,(fun h=>Bool.noConfusion h),by simp [Instr.sliceBounds,e2 _ (Nat.le_trans e1 (h1 rfl))]⟩
  ·cases hb
 ·cases vl<;>cases vh<;>simp at hlo hhi
  rename_i v v'
  obtain⟨g1,g2⟩:=VRs.two (ρ:=ρ) (by simpa using hv)
  split at hb
  ·rename_i h' hh'
   split at hb
   ·rename_i l' hl'
    cases hb
    obtain⟨e1,e2⟩:=yH7 (P:=P) (w:=w) (if isSlice then .sliceAcap else .sliceAlen) hh' g2
    obtain⟨e3,e4⟩:=yH7 (P:=P) (w:=w) .sliceB hl' g1
    exact⟨e3,e1,(fun h=>Bool.noConfusion h),by simp [Instr.sliceBounds,e2 _ (Nat.le_trans e1 (h1 rfl)),e4 _ e3]⟩
   ·cases hb
  ·cases hb
 ·cases hb
theorem uW1 {t e:TypeId} {esz:Nat} {lo hi:Bool} {x r:AV} {xs:List AV} {v:Value} {vl vh:Option Value} (ht:P.underlying t=some (.slice e)) (hs:szOf P e=some esz)
  (h:slcA esz lo hi x xs=some r) (hlo:vl.isSome=lo) (hhi:vh.isSome=hi) (hx:VR ρ x v) (hv:VRs ρ xs (vl.toList++vh.toList)) :
  ∃ y,(Instr.sliceAt t v vl vh none).run P w=.ok y w/\VR ρ r y:=by
 have go:∀ (a:Option Addr) (len cap l hh:Nat),(Instr.sliceBounds true len cap vl vh none).run P w=.ok (l,hh,cap) w ->
   (Instr.sliceAt t (.slice a len cap) vl vh none).run P w=.ok (.slice (if cap=l then a else a.map (·.add (l*esz))) (hh - l) (cap - l)) w:=by
  intro a len cap l hh hb
  simp [Instr.sliceAt,Instr.slice,run_underlying ht,hb,zE1 hs]
 unfold slcA at h
 split at h
 ·cases hx
  split at h
  ·rename_i p hp
   cases h
   obtain⟨l,hh⟩:=p
   obtain⟨e1,e2,e3,e4⟩:=zZ1 (P:=P) (w:=w) (len:=0) (cap:=0) true hp hlo hhi hv (fun _=>Nat.le_refl _) (fun _=>rfl)
   refine⟨_,go _ _ _ _ _ e4,?_⟩
   obtain rfl:hh=0:=by omega
   obtain rfl:l=0:=by omega
   exact .nilsl
  ·cases h
 ·rename_i i off len cap
  cases hx with
  | sl _ _ hr =>
   rename_i b sh K
   split at h
   ·rename_i l hh hp
    obtain⟨e1,e2,e3,e4⟩:=zZ1 (P:=P) (w:=w) (len:=len) (cap:=cap) true hp hlo hhi hv (fun hh=>by rw [hh];exact Nat.le_refl _) (fun hh=>by rw [hh];rfl)
    refine⟨_,go _ _ _ _ _ e4,?_⟩
    cases hc:Nat.beq l cap with
    | true =>
     rw [hc,cond_true] at h
     have:=beqN.1 hc
     rw [if_pos this.symm]
     cases hc2:Nat.beq hh l with
     | false=>rw [hc2] at h;cases h
     | true =>
      rw [hc2,cond_true] at h
      cases h
      rw [beqN.1 hc2,Nat.sub_self]
      exact .emp _ _
    | false =>
     rw [hc,cond_false] at h
     cases h
     have:cap≠l:=fun he=>by rw [he,beqN.2 rfl] at hc;cases hc
     rw [if_neg this]
     simp only [Option.map_some,Addr.add_mid,Nat.add_assoc]
     exact .sl _ _ hr
   ·cases h
 ·rename_i i e' off len
  cases hx with
  | so hr hl =>
   rename_i b sh K
   cases hec:Nat.beq e' esz with
   | false=>rw [hec] at h;cases h
   | true =>
    rw [hec,cond_true] at h
    obtain rfl:=beqN.1 hec
    split at h
    ·rename_i l hh hp
     obtain⟨e1,e2,e3,e4⟩:=zZ1 (P:=P) (w:=w) (len:=len) (cap:=K - off) true hp hlo hhi hv (fun _=>by omega) (fun _=>rfl)
     refine⟨_,go _ _ _ _ _ e4,?_⟩
     cases hc:Nat.beq l hh with
     | true =>
      rw [hc,cond_true] at h
      obtain rfl:=beqN.1 hc
      rw [Nat.sub_self]
      cases hc0:Nat.beq l 0 with
      | true =>
       rw [hc0,cond_true] at h
       cases h
       obtain rfl:=beqN.1 hc0
       have hif:(if K - off=0 then some (⟨b,sh+off*e',none⟩:Addr) else (some (⟨b,sh+off*e',none⟩:Addr)).map (·.add (0*e')))=some ⟨b,sh+off*e',none⟩:=by
        split
        ·rfl
        ·simp [Addr.add_mid]
       rw [hif,Nat.sub_zero]
       exact .so hr (by omega)
      | false =>
       rw [hc0,cond_false] at h
       cases h
       split
       ·exact .emp _ _
       ·exact .emp _ _
     | false =>
      rw [hc,cond_false] at h
      cases h
      have hlt:l≠hh:=fun he=>by rw [he,beqN.2 rfl] at hc;cases hc
      rw [if_neg (by omega)]
      simp only [Option.map_some,Addr.add_mid]
      rw [show sh+off*e'+l*e'=sh+(off+l)*e' by rw [Nat.add_mul];omega,show K - off - l=K - (off+l) by omega]
      exact .so hr (by omega)
    ·cases h
 ·cases hx with
  | emp a cap =>
  split at h
  ·rename_i p hp
   cases h
   obtain⟨l,hh⟩:=p
   obtain⟨e1,e2,e3,e4⟩:=zZ1 (P:=P) (w:=w) (len:=0) (cap:=cap) true hp hlo hhi hv (fun _=>Nat.zero_le _) (fun _=>rfl)
   refine⟨_,go _ _ _ _ _ e4,?_⟩
   obtain rfl:hh=0:=by omega
   obtain rfl:l=0:=by omega
   simp only [Nat.sub_self]
   split<;>exact .emp _ _
  ·cases h
 ·cases h
theorem uW0 {t:TypeId} {lo hi:Bool} {x r:AV} {xs:List AV} {v:Value} {vl vh:Option Value} (ht:P.underlying t=some .string)
  (h:slsA lo hi x xs=some r) (hlo:vl.isSome=lo) (hhi:vh.isSome=hi) (hx:VR ρ x v) (hv:VRs ρ xs (vl.toList++vh.toList)) :
  ∃ y,(Instr.sliceAt t v vl vh none).run P w=.ok y w/\VR ρ r y:=by
 unfold slsA at h
 split at h
 ·rename_i s
  split at h
  ·rename_i l hh hp
   cases h
   cases hx
   obtain⟨e1,e2,e3,e4⟩:=zZ1 (P:=P) (w:=w) (len:=s.length) (cap:=s.length) false hp hlo hhi hv (fun _=>Nat.le_refl _) (fun _=>rfl)
   refine⟨.string ((⟨s.toArray⟩:ByteArray).extract l hh),?_,?_⟩
   ·simp [Instr.sliceAt,Instr.slice,run_underlying ht,size_mk,e4]
   ·have:(⟨s.toArray⟩:ByteArray).extract l hh=⟨((s.drop l).take (hh - l)).toArray⟩:=by
     apply ByteArray.ext
     simp [ByteArray.data_extract]
    rw [this]
    exact .str _
  ·cases h
 ·cases h
theorem zN0 {x:AV} {v:Value} {len i:Nat} (h:idxA x len=some i) (hv:VR ρ x v):i < len/\∃ k,v=.int k (i:Int):=by
 unfold idxA at h
 split at h
 ·rename_i k n
  cases hb:Nat.blt n len with
  | false=>rw [hb] at h;cases h
  | true =>
   rw [hb,cond_true] at h
   cases h
   cases hv
   exact⟨blt_iff.1 hb,k,rfl⟩
 ·cases h
theorem qE0 {t e:TypeId} {esz:Nat} {x i r:AV} {v vi:Value} (ht:P.underlying t=some (.slice e)) (hs:szOf P e=some esz) (h:ixsA esz x i=some r) (hx:VR ρ x v) (hi:VR ρ i vi) :
  ∃ y,(Instr.indexAt t v vi).run P w=.ok y w/\VR ρ r y:=by
 have go:∀ (a:Addr) (len cap j:Nat) (k:IntKind),j < len->(Instr.indexAt t (.slice (some a) len cap) (.int k (j:Int))).run P w=.ok (.pointer (some (a.add (j*esz)))) w:=by
  intro a len cap j k hj
  simp only [Instr.indexAt,asIntOf,Sem.run_bind,Sem.run_pure,Result.andThen_ok,run_underlying ht]
  rw [if_pos ⟨by omega,by omega⟩]
  simp [zE1 hs]
 unfold ixsA at h
 split at h
 ·split at h
  ·rename_i j hj
   cases h
   obtain⟨h1,k,rfl⟩:=zN0 hj hi
   cases hx with
   | sl _ _ hr =>
    refine⟨_,go _ _ _ _ _ h1,?_⟩
    rw [Addr.add_mid,Nat.add_assoc]
    exact .ptr hr
  ·cases h
 ·rename_i b e' off len
  cases hec:Nat.beq e' esz with
  | false=>rw [hec] at h;cases h
  | true =>
   rw [hec,cond_true] at h
   obtain rfl:=beqN.1 hec
   split at h
   ·rename_i j hj
    cases h
    obtain⟨h1,k,rfl⟩:=zN0 hj hi
    cases hx with
    | so hr hl =>
     refine⟨_,go _ _ _ _ _ h1,?_⟩
     rw [Addr.add_mid,Nat.add_assoc]
     exact .ptr hr
   ·cases h
 ·cases h
theorem qE1 {t e:TypeId} {len esz:Nat} {x i r:AV} {v vi:Value} (ht:P.underlying t=some (.array len e)) (hs:szOf P e=some esz) (h:ixaA len esz x i=some r) (hx:VR ρ x v) (hi:VR ρ i vi) :
  ∃ y,(Instr.indexAt t v vi).run P w=.ok y w/\VR ρ r y:=by
 unfold ixaA at h
 split at h
 ·split at h
  ·rename_i j hj
   cases h
   obtain⟨h1,k,rfl⟩:=zN0 hj hi
   rename_i off _
   cases hx with
   | ptr hr =>
    rename_i b sh K
    refine⟨.pointer (some ⟨b,sh+off+j*esz,none⟩),?_,?_⟩
    ·simp only [Instr.indexAt,asIntOf,Sem.run_bind,Sem.run_pure,Result.andThen_ok,run_underlying ht,Instr.sureAddr]
     rw [if_pos ⟨by omega,by omega⟩]
     simp [zE1 hs,Addr.add_mid]
    ·rw [Nat.add_assoc]
     exact .ptr hr
  ·cases h
 ·cases h
theorem xY3 {xs cs:List AV} {XV:List Value} {off n:Nat} (hx:VRs ρ xs XV) (hl:cs.length=n) (h:∀ j,j < n->∃ x,xs[off+j]?=some x/\cs[j]?=some x):VRs ρ cs ((XV.drop off).take n):=by
 have hroom:n=0∨off+n<=XV.length:=by
  rcases Nat.eq_zero_or_pos n with h0 | hp
  ·exact .inl h0
  ·obtain⟨x,h1,_⟩:=h (n - 1) (by omega)
   have:=(List.getElem?_eq_some_iff.1 h1).1
   rw [hx.1] at this
   exact .inr (by omega)
 refine⟨by simp;omega,fun j x y hxj hyj=>?_⟩
 have hj:j < n:=by
  have:=(List.getElem?_eq_some_iff.1 hxj).1
  omega
 obtain⟨x',h1,h2⟩:=h j hj
 rw [h2] at hxj
 cases hxj
 rw [List.getElem?_take,if_pos hj,List.getElem?_drop] at hyj
 exact hx.2 _ _ _ h1 hyj
theorem xM7 {α:Type} (f:α->Value) (A:Array α) (l:List Value) (h:A.toList.map f=l):A.map f=l.toArray:=by
 subst h
 apply Array.ext'
 simp
theorem qC2 {t e:TypeId} {x:AV} {v:Value} {n:Nat} {ty:TypeId} (ht:P.underlying t=some (.slice e)) (h:lenA x=some n) (hv:VR ρ x v) (ats:Array TypeId) (hat:ats[0]?=some t) :
  (Builtin.len_ ats ty #[v]).run P w=.ok (.int .i64 (n:Int)) w:=by
 cases x<;>simp only [lenA] at h<;>first | (cases h;done) | skip
 all_goals
  cases h
  cases hv
  simp [Builtin.len_,hat,run_underlying ht,goInt]
end
section
variable {P:Program} {w:World} {ρ:Ren}
theorem zI7 {t:TypeId} {zs:List AV} (h:zI8 P t=some zs):∃ i z,P.info? t=some i/\i.zero=some z/\VRs ρ zs z.cells.toList:=by
 unfold zI8 at h
 split at h
 ·rename_i i hi
  split at h
  ·rename_i z hz
   exact⟨i,z,hi,hz,yK6 h⟩
  ·cases h
 ·cases h
theorem wX3 {t:TypeId} {x:AV} (h:zeroOf P t=some x):∃ z,(zeroValue t).run P w=.ok z w/\VR ρ x z:=by
 unfold zeroOf at h
 split at h
 ·rename_i i hi
  split at h
  ·rename_i z hz
   exact⟨z,by simp [zeroValue,typeInfo,hi,hz],wG7 h⟩
  ·cases h
 ·cases h
theorem zG2 {α:Type} {c:Prop} [Decidable c] {x y:α} (h:(if c then some x else none)=some y):c/\x=y:=by
 split at h
 ·rename_i hc;cases h;exact⟨hc,rfl⟩
 ·cases h
theorem vP7 {t:TypeId} {X Y:Value} {b:Bool} (h:∀ D,(Op.equalIn (D+1) t X Y).run P w=.ok b w):(Op.equal t X Y).run P w=.ok b w:=h 9999
theorem qF0 {op:BinOp} {neg:Bool} {k:EqK} {x y:AV} {X Y:Value} {b:Bool} {t:TypeId} {d:TypeDesc} (ox oy:Operand)
  (hop:(op=.eql/\neg=false)∨(op=.neq/\neg=true)) (hd:P.underlying t=some d)
  (hk:match k with | .b=>d=.bool | .p=>∃ e,d=.pointer e | .s=>∃ e,d=.slice e | .f=>∃ a b c,d=.func a b c | .i=>(∃ m,d=.interface m)/\(isC ox || isC oy)=true)
  (h:eqkA k x y=some b) (hx:VR ρ x X) (hy:VR ρ y Y) :
  ((do eqGuard op t ox oy X Y;binOp op t X Y:Sem Value)).run P w=.ok (.bool (bif neg then !b else b)) w:=by
 have key:(Op.equal t X Y).run P w=.ok b w/\(eqGuard op t ox oy X Y).run P w=.ok () w/\(∀ c:Bool,binOp .eql t X Y=(do pure (.bool (<- Op.equal t X Y)))/\binOp .neq t X Y=(do pure (.bool (!(<- Op.equal t X Y))))):=by
  cases k<;>simp only at hk
  case b =>
   subst hk
   unfold eqkA at h
   split at h<;>first | (cases h;done) | skip
   all_goals first | (rename_i hh;cases hh;done) | skip
   rename_i a c _
   cases h;cases hx;cases hy
   refine⟨?_,by cases op<;>rfl,fun _=>⟨rfl,rfl⟩⟩
   rw [run_equal_bool w t a c hd]
   cases a<;>cases c<;>rfl
  case p =>
   obtain⟨e,rfl⟩:=hk
   unfold eqkA at h
   split at h<;>first | (cases h;done) | skip
   all_goals first | (rename_i hh;cases hh;done) | skip
   all_goals
    cases h;cases hx;cases hy
    exact⟨vP7 (fun D=>by simp [Op.equalIn,run_underlying hd]),by cases op<;>rfl,fun _=>⟨rfl,rfl⟩⟩
  case s =>
   obtain⟨e,rfl⟩:=hk
   unfold eqkA at h
   split at h<;>first | (cases h;done) | skip
   all_goals first | (rename_i hh;cases hh;done) | skip
   all_goals
    cases h;cases hx;cases hy
    exact⟨vP7 (fun D=>by simp [Op.equalIn,run_underlying hd]),by cases op<;>rfl,fun _=>⟨rfl,rfl⟩⟩
  case f =>
   obtain⟨_,_,_,rfl⟩:=hk
   unfold eqkA at h
   split at h<;>first | (cases h;done) | skip
   all_goals first | (rename_i hh;cases hh;done) | skip
   all_goals
    cases h;cases hx;cases hy
    exact⟨vP7 (fun D=>by simp [Op.equalIn,run_underlying hd]),by cases op<;>rfl,fun _=>⟨rfl,rfl⟩⟩
  case i =>
   obtain⟨⟨m,rfl⟩,hcc⟩:=hk
   unfold eqkA at h
   split at h<;>first | (cases h;done) | skip
   all_goals first | (rename_i hh;cases hh;done) | skip
   ·cases h;cases hx;cases hy
    refine⟨vP7 (fun D=>by simp [Op.equalIn,run_underlying hd]),?_,fun _=>⟨rfl,rfl⟩⟩
    unfold eqGuard
    cases ox<;>cases oy<;>simp [isC] at hcc<;>cases op<;>simp
   ·cases h;cases hx;cases hy
    exact⟨vP7 (fun D=>by simp [Op.equalIn,run_underlying hd]),by cases op<;>rfl,fun _=>⟨rfl,rfl⟩⟩
 obtain⟨k1,k2,k3⟩:=key
 rcases hop with⟨rfl,rfl⟩ | ⟨rfl,rfl⟩
 ·simp [k2,(k3 true).1,k1]
 ·simp [k2,(k3 true).2,k1]
theorem vR5 {op:BinOp} {xt _yt:TypeId} {x y:Operand} {a:Act} {kd:Kd} {ops:List Operand} {vs:List AV} {r:AV}
  (hc:zN6 P op xt x y=some (kd,ops)) (hv:VRs ρ vs (ops.map a.eval)) (h:zK2 kd vs=some r) :
  ∃ v,((do eqGuard op xt x y (a.eval x) (a.eval y);binOp op xt (a.eval x) (a.eval y):Sem Value)).run P w=.ok v w/\VR ρ r v:=by
 unfold zN6 at hc
 split at hc
 ·cases hc
  obtain⟨p,q,rfl,hz⟩:=zH7 h
  replace h:=hz
  obtain⟨hp,hq⟩:=VRs.two (ρ:=ρ) hv
  split at h<;>first | (cases h;done) | skip
  generalize a.eval x=X at *
  generalize a.eval y=Y at *
  cases hp
  cases hq
  obtain⟨v,h1,h2⟩:=uX3 (P:=P) (w:=w) (ρ:=ρ) xt h
  exact⟨v,by simp [xY1,h1],h2⟩
 ·cases hc
  obtain⟨p,q,rfl,hz⟩:=zH7 h
  replace h:=hz
  obtain⟨hp,hq⟩:=VRs.two (ρ:=ρ) hv
  split at h<;>first | (cases h;done) | skip
  generalize a.eval x=X at *
  generalize a.eval y=Y at *
  cases hp
  cases hq
  obtain⟨v,h1,h2⟩:=uX0 (P:=P) (w:=w) (ρ:=ρ) xt h
  exact⟨v,by simp [yR3,h1],h2⟩
 ·rename_i d _ _ hd
  split at hc
  ·rename_i neg hneg
   have hop:(op=.eql/\neg=false)∨(op=.neq/\neg=true):=by
    cases op<;>simp at hneg<;>simp [<- hneg]
   have eqk:∀ k,(match k with | .b=>d=.bool | .p=>∃ e,d=.pointer e | .s=>∃ e,d=.slice e | .f=>∃ a b c,d=.func a b c | .i=>(∃ m,d=.interface m)/\(isC x || isC y)=true) ->
     some (Kd.eqk neg k,[x,y])=some (kd,ops)->∃ v,((do eqGuard op xt x y (a.eval x) (a.eval y);binOp op xt (a.eval x) (a.eval y):Sem Value)).run P w=.ok v w/\VR ρ r v:=by
    intro k hk hc
    cases hc
    obtain⟨p,q,rfl,hz⟩:=zH7 h
    replace h:=hz
    obtain⟨hp,hq⟩:=VRs.two (ρ:=ρ) hv
    split at h<;>first | (cases h;done) | skip
    rename_i b hb
    cases h
    exact⟨_,qF0 x y hop hd hk hb hp hq,.bool _⟩
   split at hc
   ·exact eqk .b rfl hc
   ·exact eqk .p ⟨_,rfl⟩ hc
   ·exact eqk .s ⟨_,rfl⟩ hc
   ·exact eqk .f ⟨_,_,_,rfl⟩ hc
   ·obtain⟨h1,h2⟩:=zG2 hc
    exact eqk .i ⟨⟨_,rfl⟩,h1⟩ (by rw [h2])
   ·split at hc
    ·cases hc
    ·rename_i hg
     split at hc
     ·rename_i ls hls
      cases hc
      obtain⟨p,q,rfl,hz⟩:=zH7 h
      replace h:=hz
      obtain⟨hp,hq⟩:=VRs.two (ρ:=ρ) hv
      split at h<;>first | (cases h;done) | skip
      rename_i xs ys
      split at h<;>first | (cases h;done) | skip
      rename_i b hb
      cases h
      obtain⟨X,hX,hxs⟩:=hp.agg_inv
      obtain⟨Y,hY,hys⟩:=hq.agg_inv
      have hgd:P.eqGuardType P.depth xt=false:=by simpa using hg
      have hsz:∃ n,szOf P xt=some n:=by
       unfold szOf
       unfold Program.underlying at hd
       cases hi:P.info? xt with
       | none=>rw [hi] at hd;simp at hd
       | some i=>exact⟨_,rfl⟩
      obtain⟨n,hn⟩:=hsz
      have hpart:∀ Z:List Value,PartOf P xt 0 Z (.agg Z.toArray):=fun Z=>⟨_,hd,by
       rw [if_pos (by rfl)]
       exact⟨n,_,hn,rfl,fun j _=>by simp⟩⟩
      have heq:=xN0 (P:=P) 8 xt 0 ls hls xs ys X Y hxs hys b hb 10000 (by decide) _ _ (hpart X) (hpart Y) w
      rw [hX,hY]
      refine⟨.bool (bif neg then !b else b),?_,.bool _⟩
      rcases hop with⟨rfl,rfl⟩ | ⟨rfl,rfl⟩
      ·simp [run_eqGuard_agg w _ _ _ _ _ _ hgd,run_eql_struct,heq]
      ·simp [run_eqGuard_agg w _ _ _ _ _ _ hgd,run_neq_struct,heq]
     ·cases hc
   ·cases hc
  ·cases hc
 ·cases hc
end
section
variable {P:Program} {w:World} {ρ:Ren}
theorem yN9 {xs:List AV} {Y:List Value} {i:Nat} {r:AV} (hx:VRs ρ xs Y) (h:(zP7 i xs).head?=some r):∃ v,Y[i]?=some v/\VR ρ r v:=hx.get (head_drop h)
theorem uS0 {mx:Bool} {x y r:AV} {X Y:Value} (h:mmA mx x y=some r) (hx:VR ρ x X) (hy:VR ρ y Y) :
  ∃ v,(if mx then Builtin.max2 X Y else Builtin.min2 X Y).run P w=.ok v w/\VR ρ r v:=by
 unfold mmA at h
 split at h<;>first | (cases h;done) | skip
 rename_i k a k' b
 cases h;cases hx;cases hy
 cases mx with
 | true =>
  refine⟨.int k (if b > a then b else a),rfl,?_⟩
  rw [cond_true,zE0]
  by_cases hab:a < b
  ·rw [decide_eq_true hab,cond_true,if_pos hab];exact .int _ _
  ·rw [decide_eq_false hab,cond_false,if_neg hab];exact .int _ _
 | false =>
  refine⟨.int k (if b < a then b else a),rfl,?_⟩
  rw [cond_false,zE0]
  by_cases hab:b < a
  ·rw [decide_eq_true hab,cond_true,if_pos hab];exact .int _ _
  ·rw [decide_eq_false hab,cond_false,if_neg hab];exact .int _ _
theorem uV2 {t xt:TypeId} {ok:Bool} {d:TypeDesc} {x r:AV} {X:Value} (hd:P.underlying t=some d) (hn:∀ m,d≠.interface m) (h:tasA t ok (zeroOf P t) x=some r) (hx:VR ρ x X) :
  ∃ v,(Instr.typeAssert X xt t ok).run P w=.ok v w/\VR ρ r v:=by
 have fails:∀ (s dy:Option TypeId) (r:AV),(match zeroOf P t with | some z=>some (AV.tup [z,.bool false]) | none=>none)=some r ->
   ∃ v,(do pure (Value.tuple #[<- zeroValue t,.bool false]):Sem Value).run P w=.ok v w/\VR ρ r v:=by
  intro s dy r h
  split at h
  ·rename_i z hz
   cases h
   obtain⟨v,h1,h2⟩:=wX3 (P:=P) (w:=w) (ρ:=ρ) hz
   exact⟨.tuple #[v,.bool false],by simp [h1],(VRs.cons h2 (.cons (.bool _) .nil)).tup⟩
  ·cases h
 unfold tasA at h
 split at h
 ·rename_i t' v
  cases hx with
  | ifc hx =>
   rename_i y
   cases hb:Nat.beq t' t with
   | true =>
    rw [hb,cond_true] at h
    obtain rfl:=beqN.1 hb
    cases h
    refine⟨if ok then .tuple #[y,.bool true] else y,?_,?_⟩
    ·unfold Instr.typeAssert
     rw [Sem.run_bind,run_underlying hd w,Result.andThen_ok]
     cases d<;>first | (exact absurd rfl (hn _)) | (cases ok<;>simp)
    ·cases ok with
     | true=>exact (VRs.cons hx (.cons (.bool _) .nil)).tup
     | false=>exact hx
   | false =>
    rw [hb,cond_false] at h
    have hne:t'≠t:=fun he=>by rw [he,beqN.2 rfl] at hb;cases hb
    cases ok with
    | false=>cases h
    | true =>
     obtain⟨v,h1,h2⟩:=fails (some xt) (some t') r h
     refine⟨v,?_,h2⟩
     unfold Instr.typeAssert
     rw [Sem.run_bind,run_underlying hd w,Result.andThen_ok]
     cases d<;>first | (exact absurd rfl (hn _)) | (simp only [if_neg hne];exact h1)
 ·cases hx
  cases ok with
  | false=>cases h
  | true =>
   obtain⟨v,h1,h2⟩:=fails (some xt) none r h
   refine⟨v,?_,h2⟩
   unfold Instr.typeAssert
   rw [Sem.run_bind,run_underlying hd w,Result.andThen_ok]
   cases d<;>first | (exact absurd rfl (hn _)) | exact h1
 ·cases h
theorem zP4 {c:Call} {a:Act} {l:List Value} (h:c.args.toList.map a.eval=l):c.args.map a.eval=l.toArray:=xM7 _ _ _ h
theorem zP3 {c:Call} {a:Act} {o:Oper} {b:Builtin} (ho:o.op=.call c) (hb:c.callee=.builtin b) :
  (execOp a.eval o).run P w=(builtin b c.argTypes o.type (c.args.map fun | .const _=>true | _=>false) (c.args.map a.eval)).run P w:=by
 simp only [execOp,ho,resolve,hb,Sem.run_bind,Sem.run_pure,Result.andThen_ok,invoke]
 rfl
theorem VRs.map1 {ρ:Ren} {x:AV} {l:List Value} (h:VRs ρ [x] l):∃ y,l=[y]/\VR ρ x y:=by
 obtain⟨y,ys,rfl,h1,h2⟩:=h.cons_inv
 rw [h2.nil_inv]
 exact⟨y,rfl,h1⟩
theorem VRs.map2 {ρ:Ren} {x x':AV} {l:List Value} (h:VRs ρ [x,x'] l):∃ y y',l=[y,y']/\VR ρ x y/\VR ρ x' y':=by
 obtain⟨y,ys,rfl,h1,h2⟩:=h.cons_inv
 obtain⟨y',rfl,h3⟩:=h2.map1
 exact⟨y,y',rfl,h1,h3⟩
theorem vE2 {c:Call} {a:Act} {o:Oper} {kd:Kd} {ops:List Operand} {vs:List AV} {r:AV} (ho:o.op=.call c)
  (hc:zI3 P c=some (kd,ops)) (hv:VRs ρ vs (ops.map a.eval)) (h:zK2 kd vs=some r):∃ v,(execOp a.eval o).run P w=.ok (.value v) w/\VR ρ r v:=by
 unfold zI3 at hc
 split at hc
 ·cases hc;cases h
 ·cases hc;cases h
 ·cases hc;cases h
 ·rename_i b hb
  rw [zP3 ho hb]
  split at hc
  ·cases hc
  ·rename_i t ht
   split at hc
   ·split at hc
    ·rename_i hu
     cases hc
     obtain⟨x,rfl,hz⟩:=zF0 h
     obtain⟨y,hy,hxy⟩:=hv.map1
     rw [zP4 hy]
     split at hz<;>first | (cases hz;done) | skip
     cases hz;cases hxy
     exact⟨_,by simp [builtin,Builtin.len_,ht,run_underlying hu,goInt,size_mk],.int _ _⟩
    ·rename_i e hu
     cases hc
     obtain⟨x,rfl,hz⟩:=zF0 h
     obtain⟨y,hy,hxy⟩:=hv.map1
     rw [zP4 hy]
     split at hz
     ·rename_i n hn
      cases hz
      exact⟨.int .i64 (n:Int),by simp [builtin,qC2 (P:=P) (w:=w) hu hn hxy _ ht],.int _ _⟩
     ·cases hz
    ·rename_i n e hu
     cases hc
     obtain⟨x,rfl,hz⟩:=zF0 h
     obtain⟨y,hy,hxy⟩:=hv.map1
     cases hz
     rw [zP4 hy]
     exact⟨.int .i64 (n:Int),by simp [builtin,Builtin.len_,ht,run_underlying hu,goInt],.int _ _⟩
    ·cases hc
   ·split at hc
    ·rename_i e hu
     cases hc
     obtain⟨x,rfl,hz⟩:=zF0 h
     obtain⟨y,hy,hxy⟩:=hv.map1
     rw [zP4 hy]
     split at hz<;>first | (cases hz;done) | skip
     ·cases hz;cases hxy
      exact⟨_,by simp [builtin,Builtin.cap_,ht,run_underlying hu,goInt],.int _ _⟩
     ·cases hz;cases hxy
      exact⟨_,by simp [builtin,Builtin.cap_,ht,run_underlying hu,goInt],.int _ _⟩
    ·cases hc
   ·repeat (first | (split at hc) | (cases hc;done))
    all_goals first | (cases hc;cases h;done) | (obtain⟨_,hh⟩:=zG2 hc;cases hh;cases h;done) | (cases hc;done)
   ·repeat (first | (split at hc) | (cases hc;done))
    all_goals first | (cases hc;cases h;done) | (cases hc;done)
   ·repeat (first | (split at hc) | (cases hc;done))
    all_goals first | (cases hc;cases h;done) | (cases hc;done)
   ·cases hc
    obtain⟨x,x',rfl,hz⟩:=zH7 h
    obtain⟨y,y',hy,h1,h2⟩:=hv.map2
    rw [zP4 hy]
    obtain⟨v,h3,h4⟩:=uS0 (P:=P) (w:=w) hz h1 h2
    have h5:(Builtin.min2 y y').run P w=.ok v w:=by simpa using h3
    exact⟨v,by simp [builtin,Builtin.min_,h5],h4⟩
   ·cases hc
    obtain⟨x,x',rfl,hz⟩:=zH7 h
    obtain⟨y,y',hy,h1,h2⟩:=hv.map2
    rw [zP4 hy]
    obtain⟨v,h3,h4⟩:=uS0 (P:=P) (w:=w) hz h1 h2
    have h5:(Builtin.max2 y y').run P w=.ok v w:=by simpa using h3
    exact⟨v,by simp [builtin,Builtin.max_,h5],h4⟩
   ·cases hc
 ·cases hc
theorem wP2 {fs:Array Field} (hall:fs.toList.all (fun f=>(P.info? f.type).isSome)=true) :
  (Array.mapM (fun f=>Prod.mk f.offset <$> Go.sizeOf f.type) fs:Sem (Array (Nat × Nat))).run P w=.ok (fs.map fun f=>(f.offset,(szOf P f.type).getD 0)) w:=by
 obtain⟨l⟩:=fs
 simp only at hall
 rw [List.mapM_toArray,List.map_toArray]
 have:(List.mapM (fun f=>Prod.mk f.offset <$> Go.sizeOf f.type) l:Sem (List (Nat × Nat))).run P w=.ok (l.map fun f=>(f.offset,(szOf P f.type).getD 0)) w:=by
  induction l with
  | nil=>rfl
  | cons f l ih =>
   simp only [List.all_cons,Bool.and_eq_true] at hall
   obtain⟨n,hn⟩:∃ n,szOf P f.type=some n:=by
    cases hi:P.info? f.type with
    | none=>rw [hi] at hall;simp at hall
    | some i=>exact⟨i.size,by simp [szOf,hi]⟩
   simp [List.mapM_cons,zE1 hn,ih hall.2,hn]
 simp [this]
theorem yld {a:Act} {o:Oper} {s:Sem Value} {v:Value} (h:execOp a.eval o=(do pure (Next.value (<- s)))) (hs:s.run P w=.ok v w):(execOp a.eval o).run P w=.ok (.value v) w:=by
 rw [h];simp [hs]
theorem yT0 {o:Oper} {a:Act} {kd:Kd} {ops:List Operand} {vs:List AV} {r:AV}
  (hc:zC9 P o.op=some (kd,ops)) (hv:VRs ρ vs (ops.map a.eval)) (h:zK2 kd vs=some r):∃ v,(execOp a.eval o).run P w=.ok (.value v) w/\VR ρ r v:=by
 cases ho:o.op with
 | move x =>
  rw [ho] at hc;cases hc
  obtain⟨x',rfl,hz⟩:=zF0 h
  cases hz
  exact⟨a.eval x,by simp [execOp,ho],VRs.one hv⟩
 | assign x =>
  rw [ho] at hc;cases hc
  obtain⟨x',rfl,hz⟩:=zF0 h
  cases hz
  exact⟨a.eval x,by simp [execOp,ho],VRs.one hv⟩
 | pick c x y =>
  rw [ho] at hc;cases hc
  simp only [zK2] at h
  split at h<;>first | (cases h;done) | skip
  rename_i b p q
  cases h
  obtain⟨y1,l1,e1,h1,hv⟩:=hv.cons_inv
  obtain⟨y2,y3,e2,h2,h3⟩:=hv.map2
  rw [e2] at e1
  simp only [List.map_cons,List.map_nil,List.cons.injEq,and_true] at e1
  obtain⟨e3,e4,e5⟩:=e1
  have hcb:a.eval c=.bool b:=by rw [e3];cases h1;rfl
  refine⟨if b then a.eval x else a.eval y,by simp [execOp,ho,hcb,asBool],?_⟩
  rw [e4,e5]
  cases b<;>assumption
 | build t ps =>
  rw [ho] at hc
  simp only [zC9] at hc
  split at hc
  ·rename_i fs zs hu hz
   obtain⟨hall,hc⟩:=(show fs.toList.all (fun f=>(P.info? f.type).isSome)=true/\(match mapO (placeOf P fs) ps.toList with | some l=>some (Kd.build zs l,ps.toList.map (·.2)) | none=>none)=some (kd,ops) from by
    split at hc
    ·rename_i hh;exact⟨hh,hc⟩
    ·cases hc)
   split at hc<;>first | (cases hc;done) | skip
   rename_i l hl
   cases hc
   obtain⟨i,z,hi,hiz,hzs⟩:=zI7 (ρ:=ρ) hz
   obtain⟨cs,hf,hk⟩:=xB5 _ _ _ _ _ h
   cases hk
   have hplaces:=wP2 (w:=w) hall
   obtain⟨Y,hY,hYv⟩:=xB4 (ρ:=ρ) (fun j=>Option.map (fun f=>(f.offset,(szOf P f.type).getD 0)) fs[j]?) l (ps.toList.map fun p=>(p.1,a.eval p.2)) zs z.cells vs cs
    (by rw [List.length_map];exact (yH2 hl).1) (fun j p q hp hq=>by
     obtain⟨hlen,hget⟩:=yH2 hl
     simp only [List.getElem?_map,Option.map_eq_some_iff] at hq
     obtain⟨q0,hq0,rfl⟩:=hq
     have:=hget j q0 p hq0 hp
     unfold placeOf at this
     split at this<;>first | (cases this;done) | skip
     rename_i f hf
     split at this<;>first | (cases this;done) | skip
     rename_i n hn
     cases this
     simp only [hf,Option.map_some,hn,Option.getD_some]) hzs (by simpa [List.map_map,Function.comp_def] using hv) hf
   refine⟨.agg Y,yld (by simp only [execOp,ho]<;>rfl) ?_,by simpa using hYv.agg⟩
   have e:(ps.map fun (i,x)=>(i,a.eval x)).toList=ps.toList.map fun p=>(p.1,a.eval p.2):=by simp
   simp [Instr.build,zeroValue,typeInfo,hi,hiz,run_underlying hu,hplaces,hY]
  ·rename_i len e zs hu hz
   split at hc<;>first | (cases hc;done) | skip
   rename_i n hn
   cases hc
   obtain⟨i,z,hi,hiz,hzs⟩:=zI7 (ρ:=ρ) hz
   obtain⟨cs,hf,hk⟩:=xB5 _ _ _ _ _ h
   cases hk
   obtain⟨Y,hY,hYv⟩:=xB4 (ρ:=ρ) (fun j=>some (j*n,n)) (ps.toList.map fun p=>(p.1*n,n)) (ps.toList.map fun p=>(p.1,a.eval p.2)) zs z.cells vs cs
    (by simp) (fun j p q hp hq=>by
     simp only [List.getElem?_map,Option.map_eq_some_iff] at hp hq
     obtain⟨q0,hq0,rfl⟩:=hq
     obtain⟨p0,hp0,rfl⟩:=hp
     rw [hq0] at hp0
     cases hp0
     rfl) hzs (by simpa [List.map_map,Function.comp_def] using hv) hf
   refine⟨.agg Y,yld (by simp only [execOp,ho]<;>rfl) ?_,by simpa using hYv.agg⟩
   have e:(ps.map fun (i,x)=>(i,a.eval x)).toList=ps.toList.map fun p=>(p.1,a.eval p.2):=by simp
   simp [Instr.build,zeroValue,typeInfo,hi,hiz,run_underlying hu,zE1 hn,hY]
  ·cases hc
 | nilCheck x =>
  rw [ho] at hc;cases hc
  obtain⟨x',rfl,hz⟩:=zF0 h
  have hx:=VRs.one hv
  generalize hX:a.eval x=X at hx
  refine⟨X,?_,?_⟩
  ·split at hz<;>first | (cases hz;done) | skip
   all_goals cases hx;simp [execOp,ho,hX]
  ·split at hz<;>first | (cases hz;done) | skip
   all_goals cases hz;exact hx
 | binOp op xt x y yt =>
  rw [ho] at hc
  obtain⟨v,h1,h2⟩:=vR5 (w:=w) (_yt:=yt) hc hv h
  exact⟨v,yld (by simp only [execOp,ho]<;>rfl) h1,h2⟩
 | unOp op t x =>
  rw [ho] at hc;cases hc
  obtain⟨x',rfl,hz⟩:=zF0 h
  have hx:=VRs.one hv
  unfold unA at hz
  split at hz<;>first | (cases hz;done) | skip
  ·rename_i k n
   cases hz
   generalize hX:a.eval x=X at hx
   cases hx
   exact⟨.int k (k.wrap (0 - n)),yld (by simp only [execOp,ho]<;>rfl) (by rw [hX];rfl),by rw [zF4];exact .int _ _⟩
  ·rename_i k n
   cases hs:k.signed with
   | true=>rw [hs] at hz;cases hz
   | false =>
    rw [hs,cond_false] at hz
    generalize hX:a.eval x=X at hx
    cases hx
    have hm:Int.ofNat (lim k - 1)=k.max:=by cases k<;>first | (exact absurd hs (by decide)) | rfl
    rw [hm] at hz
    obtain⟨v,h1,h2⟩:=yG8 (P:=P) (w:=w) (ρ:=ρ) .xor k k.max n r hz
    refine⟨v,yld (by simp only [execOp,ho]<;>rfl) ?_,h2⟩
    rw [hX]
    simp only [Op.unary,hs,Bool.false_eq_true,if_false]
    exact h1
  ·cases hz
   generalize hX:a.eval x=X at hx
   cases hx
   exact⟨_,yld (by simp only [execOp,ho]<;>rfl) (by rw [hX];rfl),.bool _⟩
 | convert sr ds x =>
  rw [ho] at hc
  simp only [zC9] at hc
  split at hc
  ·rename_i k0 k hs hd
   cases hc
   obtain⟨x',rfl,hz⟩:=zF0 h
   have hx:=VRs.one hv
   split at hz<;>first | (cases hz;done) | skip
   rename_i k1 n
   cases hz
   generalize hX:a.eval x=X at hx
   cases hx
   refine⟨.int k (k.wrap n),yld (by simp only [execOp,ho]<;>rfl) ?_,by rw [zF4];exact .int _ _⟩
   rw [hX]
   simp [convert,run_underlying hs,run_underlying hd,Conv.intToInt]
  ·rename_i hs hd
   cases hc
   obtain⟨x',rfl,hz⟩:=zF0 h
   have hx:=VRs.one hv
   split at hz<;>first | (cases hz;done) | skip
   cases hz
   generalize hX:a.eval x=X at hx
   cases hx
   refine⟨_,yld (by simp only [execOp,ho]<;>rfl) ?_,.str _⟩
   rw [hX]
   simp [convert,run_underlying hs,run_underlying hd]
  ·split at hc<;>first | (cases hc;done) | skip
   cases hc;cases h
  ·split at hc<;>first | (cases hc;done) | skip
   cases hc;cases h
  ·cases hc
 | makeInterface t x =>
  rw [ho] at hc
  simp only [zC9] at hc
  split at hc<;>first | (cases hc;done) | skip
  rename_i d hn hd
  cases hc
  obtain⟨x',rfl,hz⟩:=zF0 h
  cases hz
  refine⟨.iface t (a.eval x),yld (by simp only [execOp,ho]<;>rfl) ?_,.ifc (VRs.one hv)⟩
  cases d<;>first | (exact absurd rfl (hn _)) | simp [Instr.makeInterface,run_underlying hd]
 | makeFunc fn first cap =>
  rw [ho] at hc
  simp only [zC9] at hc
  split at hc<;>first | (cases hc;done) | skip
  obtain⟨hf,hc⟩:=zG2 hc
  cases hc
  cases h
  rename_i f
  have hf':first=#[]:=by simpa using hf
  refine⟨.func (.func f) #[] (cap.map a.eval),yld (by simp only [execOp,ho]<;>rfl) (by rw [hf'];simp [Instr.makeFunc]),?_⟩
  exact .fn (by simpa using hv.1) fun j x y hx hy=>hv.2 j x y hx (by simpa using hy)
 | slice t x lo hi mx =>
  rw [ho] at hc
  simp only [zC9] at hc
  split at hc<;>first | (cases hc;done) | skip
  have hcons:∀ {vs:List AV} {r:AV} {f:AV->List AV->Option AV},headA f vs=some r->VRs ρ vs ((x::(lo.toList++hi.toList)).map a.eval)->∃ y ys,vs=y::ys/\f y ys=some r/\VR ρ y (a.eval x)/\VRs ρ ys ((lo.map a.eval).toList++(hi.map a.eval).toList):=by
   intro vs r f h hv
   obtain⟨y,ys,rfl,hz⟩:=vN5 h
   obtain⟨Y,YS,e,h1,h2⟩:=hv.cons_inv
   simp only [List.map_cons,List.cons.injEq] at e
   obtain⟨rfl,rfl⟩:=e
   refine⟨y,ys,rfl,hz,h1,?_⟩
   cases lo<;>cases hi<;>simpa using h2
  split at hc
  ·rename_i e hu
   split at hc<;>first | (cases hc;done) | skip
   rename_i n hn
   cases hc
   obtain⟨y,ys,rfl,hz,h1,h2⟩:=hcons h hv
   obtain⟨v,h3,h4⟩:=uW1 (P:=P) (w:=w) hu hn hz (by simp) (by simp) h1 h2
   exact⟨v,yld (by simp only [execOp,ho]<;>rfl) h3,h4⟩
  ·rename_i hu
   cases hc
   obtain⟨y,ys,rfl,hz,h1,h2⟩:=hcons h hv
   obtain⟨v,h3,h4⟩:=uW0 (P:=P) (w:=w) hu hz (by simp) (by simp) h1 h2
   exact⟨v,yld (by simp only [execOp,ho]<;>rfl) h3,h4⟩
  ·cases hc
 | fieldAddr t x j =>
  rw [ho] at hc
  simp only [zC9] at hc
  split at hc<;>first | (cases hc;done) | skip
  rename_i fs hu
  split at hc<;>first | (cases hc;done) | skip
  rename_i f hf
  split at hc<;>first | (cases hc;done) | skip
  rename_i n hn
  split at hc<;>first | (cases hc;done) | skip
  rename_i hn0
  cases hc
  obtain⟨x',rfl,hz⟩:=zF0 h
  have hx:=VRs.one hv
  split at hz<;>first | (cases hz;done) | skip
  cases hz
  generalize hX:a.eval x=X at hx
  cases hx with
  | ptr hr =>
   refine⟨_,yld (v:=.pointer (some ⟨_,_,none⟩)) (by simp only [execOp,ho]<;>rfl) ?_,VR.ptr hr⟩
   rw [hX]
   simp [Instr.fieldAt,run_underlying hu,hf,Instr.sureAddr,fieldPlace,zE1 hn,hn0,Addr.add_mid,Nat.add_assoc]
 | field t x j =>
  rw [ho] at hc
  simp only [zC9] at hc
  split at hc<;>first | (cases hc;done) | skip
  rename_i fs hu
  split at hc<;>first | (cases hc;done) | skip
  rename_i f hf
  split at hc<;>first | (cases hc;done) | skip
  rename_i d hd
  have run:∀ (Y:Array Value) (v:Value),a.eval x=.agg Y->(part f.type Y f.offset).run P w=.ok v w->(execOp a.eval o).run P w=.ok (.value v) w:=by
   intro Y v hY hp
   refine yld (v:=v) (by simp only [execOp,ho]<;>rfl) ?_
   simp [Instr.field,run_underlying hu,hf,hY,asAgg,hp]
  split at hc
  ·rename_i hrow
   split at hc<;>first | (cases hc;done) | skip
   rename_i n hn
   cases hc
   obtain⟨x',rfl,hz⟩:=zF0 h
   have hx:=VRs.one hv
   split at hz<;>first | (cases hz;done) | skip
   obtain⟨Y,hY,hys⟩:=hx.agg_inv
   obtain⟨cs,hl,hcut,hk⟩:=zG3 hz
   cases hk
   refine⟨.agg ((Y.drop f.offset).take n).toArray,run _ _ hY ?_,(xY3 hys hl hcut).agg⟩
   simp [part,zJ8 hd,hrow,zE1 hn,List.extract_eq_take_drop]
  ·rename_i hrow
   cases hc
   obtain⟨x',rfl,hz⟩:=zF0 h
   have hx:=VRs.one hv
   split at hz<;>first | (cases hz;done) | skip
   obtain⟨Y,hY,hys⟩:=hx.agg_inv
   obtain⟨v,h1,h2⟩:=yN9 hys hz
   refine⟨v,run _ _ hY ?_,h2⟩
   simp [part,zJ8 hd,hrow,h1]
 | indexAddr t x i =>
  rw [ho] at hc
  simp only [zC9] at hc
  split at hc<;>first | (cases hc;done) | skip
  ·rename_i e hu
   split at hc<;>first | (cases hc;done) | skip
   rename_i n hn
   cases hc
   obtain⟨p,q,rfl,hz⟩:=zH7 h
   obtain⟨h1,h2⟩:=VRs.two (ρ:=ρ) hv
   obtain⟨v,h3,h4⟩:=qE0 (P:=P) (w:=w) hu hn hz h1 h2
   exact⟨v,yld (by simp only [execOp,ho]<;>rfl) h3,h4⟩
  ·rename_i len e hu
   split at hc<;>first | (cases hc;done) | skip
   rename_i n hn
   cases hc
   obtain⟨p,q,rfl,hz⟩:=zH7 h
   obtain⟨h1,h2⟩:=VRs.two (ρ:=ρ) hv
   obtain⟨v,h3,h4⟩:=qE1 (P:=P) (w:=w) hu hn hz h1 h2
   exact⟨v,yld (by simp only [execOp,ho]<;>rfl) h3,h4⟩
 | index t x i =>
  rw [ho] at hc
  simp only [zC9] at hc
  split at hc<;>first | (cases hc;done) | skip
  ·rename_i len e hu
   split at hc<;>first | (cases hc;done) | skip
   rename_i d n hd hn
   split at hc
   ·rename_i hrow
    cases hc
    obtain⟨p,q,rfl,hz⟩:=zH7 h
    obtain⟨h1,h2⟩:=VRs.two (ρ:=ρ) hv
    split at hz<;>first | (cases hz;done) | skip
    split at hz<;>first | (cases hz;done) | skip
    rename_i j hj
    obtain⟨Y,hY,hys⟩:=h1.agg_inv
    obtain⟨cs,hl,hcut,hk⟩:=zG3 hz
    cases hk
    obtain⟨hlt,k,hI⟩:=zN0 hj h2
    refine⟨.agg ((Y.drop (j*n)).take n).toArray,yld (by simp only [execOp,ho]<;>rfl) ?_,(xY3 hys hl hcut).agg⟩
    rw [hY,hI]
    simp [Instr.index,asIntOf,run_underlying hu,hlt,part,zJ8 hd,hrow,zE1 hn,List.extract_eq_take_drop]
   ·rename_i hrow
    obtain⟨hn1,hc⟩:=zG2 hc
    cases hc
    obtain⟨p,q,rfl,hz⟩:=zH7 h
    obtain⟨h1,h2⟩:=VRs.two (ρ:=ρ) hv
    split at hz<;>first | (cases hz;done) | skip
    split at hz<;>first | (cases hz;done) | skip
    rename_i j hj
    obtain⟨Y,hY,hys⟩:=h1.agg_inv
    obtain⟨v,h3,h4⟩:=yN9 hys hz
    obtain⟨hlt,k,hI⟩:=zN0 hj h2
    refine⟨v,yld (by simp only [execOp,ho]<;>rfl) ?_,h4⟩
    rw [hY,hI]
    subst hn1
    simp [Instr.index,asIntOf,run_underlying hu,hlt,part,zJ8 hd,hrow,zE1 hn,h3]
  ·rename_i hu
   cases hc
   obtain⟨p,q,rfl,hz⟩:=zH7 h
   obtain⟨h1,h2⟩:=VRs.two (ρ:=ρ) hv
   split at hz<;>first | (cases hz;done) | skip
   rename_i s
   split at hz<;>first | (cases hz;done) | skip
   rename_i j hj
   split at hz<;>first | (cases hz;done) | skip
   rename_i b hb
   cases hz
   obtain⟨hlt,k,hI⟩:=zN0 hj h2
   generalize hX:a.eval x=X at h1
   cases h1
   refine⟨.int .u8 (b.toNat:Int),yld (by simp only [execOp,ho]<;>rfl) ?_,.int _ _⟩
   rw [hX,hI]
   have hb':(⟨s.toArray⟩:ByteArray)[j]?=some b:=by
    rw [ByteArray.getElem?_lt' _ _ (by rw [size_mk];exact hlt)]
    obtain⟨h5,h6⟩:=List.getElem?_eq_some_iff.1 hb
    rw [<- h6]
    rfl
   simp [Instr.index,asIntOf,run_underlying hu,hb']
 | typeAssert x xt t ok =>
  rw [ho] at hc
  simp only [zC9] at hc
  split at hc<;>first | (cases hc;done) | skip
  rename_i d hn hd
  cases hc
  obtain⟨x',rfl,hz⟩:=zF0 h
  obtain⟨v,h1,h2⟩:=uV2 (P:=P) (w:=w) (xt:=xt) hd (fun m he=>hn m he) hz (VRs.one hv)
  exact⟨v,yld (by simp only [execOp,ho]<;>rfl) h1,h2⟩
 | extract x i =>
  rw [ho] at hc;cases hc
  obtain⟨x',rfl,hz⟩:=zF0 h
  have hx:=VRs.one hv
  split at hz<;>first | (cases hz;done) | skip
  obtain⟨Y,hY,hys⟩:=hx.tup_inv
  obtain⟨v,h1,h2⟩:=yN9 hys hz
  refine⟨v,yld (by simp only [execOp,ho]<;>rfl) ?_,h2⟩
  rw [hY]
  simp [Instr.extract,h1]
 | call c =>
  rw [ho] at hc
  exact vE2 ho hc hv h
 | alloc e =>
  rw [ho] at hc
  simp only [zC9] at hc
  split at hc<;>first | (cases hc;done) | skip
  cases hc;cases h
 | box e x=>rw [ho] at hc;cases hc;cases h
 | buildSlice t len ps =>
  rw [ho] at hc
  simp only [zC9] at hc
  split at hc<;>first | (cases hc;done) | skip
  split at hc<;>first | (cases hc;done) | skip
  obtain⟨_,hc⟩:=zG2 hc
  cases hc;cases h
 | load t x =>
  rw [ho] at hc
  simp only [zC9] at hc
  split at hc<;>first | (cases hc;done) | skip
  split at hc
  ·split at hc<;>first | (cases hc;done) | skip
   cases hc;cases h
  ·cases hc;cases h
 | store t x v =>
  rw [ho] at hc
  simp only [zC9] at hc
  split at hc<;>first | (cases hc;done) | skip
  cases hc;cases h
 | makeSlice t l c =>
  rw [ho] at hc
  simp only [zC9] at hc
  split at hc<;>first | (cases hc;done) | skip
  split at hc<;>first | (cases hc;done) | skip
  obtain⟨_,hc⟩:=zG2 hc
  cases hc;cases h
 | _=>rw [ho] at hc;cases hc
end
theorem bit_or {t i j:Nat}:(t ||| 2 ^ i).testBit j=true↔t.testBit j=true∨i=j:=by
 rw [Nat.testBit_or,Bool.or_eq_true,Nat.testBit_two_pow]
 simp
theorem zI6 (m:Mem) (i j:Nat) (B:Blk):(m.put i B).at j=if j=i then some B else m.at j:=by
 show (m.h.set (pth i) B).get (pth j)=_
 rw [T.get_set]
 simp only [yK0]
 rfl
theorem at_new (m:Mem) (j:Nat) (B:Blk):(m.new B).at j=if j=m.nx then some B else m.at j:=by
 show (m.h.set (pth m.nx) B).get (pth j)=_
 rw [T.get_set]
 simp only [yK0]
 rfl
theorem zT3 (m:Mem) (i j:Nat):(m.del i).at j=if j=i then none else m.at j:=by
 show (m.h.del (pth i)).get (pth j)=_
 rw [T.get_del]
 simp only [yK0]
 rfl
theorem zE4 (m:Mem) (i:Nat):AS m (m.touch i) where
 nx:=Nat.le_refl _
 tch j hj:=bit_or.2 (.inl hj)
 wr j hj:=hj
 wt h j hj:=bit_or.2 (.inl (h j hj))
 wf h:=h
 live j B _ h:=⟨B,h⟩
 keep j _ _:=rfl
 new j h k:=by simp [Mem.touch] at k;omega
theorem vT3 (m:Mem) (i:Nat) (B B0:Blk) (hi:m.at i=some B0):AS m (m.put i B) where
 nx:=Nat.le_refl _
 tch j hj:=bit_or.2 (.inl hj)
 wr j hj:=bit_or.2 (.inl hj)
 wt h j hj:=by
  rcases bit_or.1 hj with h1 | h1
  ·exact bit_or.2 (.inl (h j h1))
  ·exact bit_or.2 (.inr h1)
 wf h j hj:=by
  rw [zI6]
  split
  ·rename_i he
   subst he
   rw [h j hj] at hi
   cases hi
  ·exact h j hj
 live j B' _ h:=by
  rw [zI6] at h
  split at h
  ·rename_i he;subst he;exact⟨_,hi⟩
  ·exact⟨_,h⟩
 keep j _ hw:=by
  rw [zI6]
  split
  ·rename_i he
   subst he
   have:(m.put j B).wr.testBit j=true:=bit_or.2 (.inr rfl)
   rw [this] at hw
   cases hw
  ·rfl
 new j h k:=by simp [Mem.put] at k;omega
theorem zH5 (m:Mem) (B:Blk):AS m (m.new B) where
 nx:=Nat.le_succ _
 tch j hj:=bit_or.2 (.inl hj)
 wr j hj:=bit_or.2 (.inl hj)
 wt h j hj:=by
  rcases bit_or.1 hj with h1 | h1
  ·exact bit_or.2 (.inl (h j h1))
  ·exact bit_or.2 (.inr h1)
 wf h j hj:=by
  have hj':m.nx+1<=j:=hj
  rw [at_new,if_neg (by omega)]
  exact h j (by omega)
 live j B' hj h:=by
  rw [at_new,if_neg (by omega)] at h
  exact⟨_,h⟩
 keep j hj _:=by rw [at_new,if_neg (by omega)]
 new j h k:=by
  have k':j < m.nx+1:=k
  exact bit_or.2 (.inr (by omega))
theorem yF4 (m:Mem) (i:Nat):AS m (m.del i) where
 nx:=Nat.le_refl _
 tch j hj:=bit_or.2 (.inl hj)
 wr j hj:=bit_or.2 (.inl hj)
 wt h j hj:=by
  rcases bit_or.1 hj with h1 | h1
  ·exact bit_or.2 (.inl (h j h1))
  ·exact bit_or.2 (.inr h1)
 wf h j hj:=by
  rw [zT3]
  split
  ·rfl
  ·exact h j hj
 live j B' _ h:=by
  rw [zT3] at h
  split at h
  ·cases h
  ·exact⟨_,h⟩
 keep j _ hw:=by
  rw [zT3]
  split
  ·rename_i he
   subst he
   have:(m.del j).wr.testBit j=true:=bit_or.2 (.inr rfl)
   rw [this] at hw
   cases hw
  ·rfl
 new j h k:=by simp [Mem.del] at k;omega
def Ren.upd (ρ:Ren) (i:Nat) (x:Nat × Nat × Nat):Ren:=⟨fun j=>if j=i then some x else ρ j,ρ.ice⟩
theorem uU0 (ρ:Ren) (i:Nat) (x:Nat × Nat × Nat):(ρ.upd i x).ice=ρ.ice:=rfl
theorem upd_same (ρ:Ren) (i:Nat) (x:Nat × Nat × Nat):ρ.upd i x i=some x:=by simp [Ren.upd]
theorem zL5 (ρ:Ren) {i j:Nat} (x:Nat × Nat × Nat) (h:j≠i):ρ.upd i x j=ρ j:=by simp [Ren.upd,h]
theorem yR7 {ρ:Ren} {i:Nat} (x:Nat × Nat × Nat) (h:ρ i=none):ρ.le (ρ.upd i x):=by
 refine⟨fun j y hy=>?_,fun _ _ h=>h⟩
 rw [zL5]
 ·exact hy
 ·intro he;subst he;rw [h] at hy;cases hy
theorem MR.blk {ρ:Ren} {H:Array Obj} {i:Nat} {B:Blk} (h:MR ρ H i B):∃ b,ρ.blk i=some b/\b < H.size:=by
 obtain⟨b,sh,K,c,e,fz,h1,h2,_⟩:=h
 refine⟨b,by simp [Ren.blk,h1],?_⟩
 exact (Array.getElem?_eq_some_iff.1 h2).1
theorem MR.move {ρ ρ':Ren} {H H':Array Obj} {i:Nat} {B:Blk} (h:MR ρ H i B) (hr:ρ.le ρ') (hH:∀ b,ρ.blk i=some b->H'[b]?=H[b]?):MR ρ' H' i B:=by
 obtain⟨b,sh,K,c,e,fz,h1,h2,h3,h4,h5⟩:=h
 refine⟨b,sh,K,c,e,fz,hr.1 _ _ h1,by rw [hH b (by simp [Ren.blk,h1])];exact h2,h3,fun j x hx=>?_,h5⟩
 obtain⟨y,h6,h7⟩:=h4 j x hx
 exact⟨y,h6,h7.mono hr⟩
section
variable {ρ:Ren} {w w':World} {m:Mem} {T N i:Nat} {B B':Blk}
theorem qB6 (h:MI ρ w m T N) (he:w'.heap=w.heap):MI ρ w' m T N:=⟨fun i B hi hB=>by rw [he];exact h.mem i B hi hB,h.inj,h.wf,h.fresh,fun b c hb=>by rw [he];exact h.ice b c hb,h.dis⟩
theorem zH8 (h:MI ρ w m T N) (i:Nat):MI ρ w (m.touch i) T N:=⟨h.mem,h.inj,h.wf,h.fresh,h.ice,h.dis⟩
theorem yO1 (m':Mem) (he:w'.heap=w.heap) (hn:m'.nx=m.nx) (hout:Out w w':=by exact⟨rfl,rfl,rfl⟩):CS ρ ρ w w' m m' :=
 ⟨ρ.le_refl,fun _ _ h=>.inl h,by rw [he];exact Nat.le_refl _,fun _ _ _=>by rw [he],(fun i b h k=>by omega),hout,fun _ _ h=>.inl h⟩
theorem qR0 (h:MI ρ w m T N) (hT:T.testBit i=true) (hi:m.at i=some B) {b:Nat} (hb:ρ.blk i=some b) (hs:w'.heap.size=w.heap.size)
  (ho:∀ k,k≠b->w'.heap[k]?=w.heap[k]?) (hm:MR ρ w'.heap i B') (hout:Out w w'):MI ρ w' (m.put i B') T N/\CS ρ ρ w w' m (m.put i B'):=by
 have other:∀ j C,T.testBit j=true->m.at j=some C->j≠i->∀ k,ρ.blk j=some k->k≠b:=by
  intro j C hj hC hne k hk he
  exact h.inj j i C B hj hT hC hi hne (by rw [hk,hb,he])
 have hnb:ρ.ice b=none:=h.dis i B b hT hi hb
 refine⟨⟨fun j C hj hC=>?_,fun j k C D hj hk hC hD hne=>?_,fun j hj=>?_,h.fresh,fun k c hk=>?_,fun j C k hj hC hk=>?_⟩,ρ.le_refl,fun _ _ h=>.inl h,by rw [hs];exact Nat.le_refl _,fun k hk hw=>?_,(fun j k h1 h2=>by simp [Mem.put] at h2;omega),hout,fun _ _ h=>.inl h⟩
 ·rw [zI6] at hC
  split at hC
  ·rename_i he;subst he;cases hC;exact hm
  ·rename_i he
   exact (h.mem j C hj hC).move ρ.le_refl fun k hk=>ho k (other j C hj hC he k hk)
 ·rw [zI6] at hC hD
  split at hC<;>split at hD
  ·omega
  ·rename_i e1 e2;subst e1;exact h.inj j k B D hj hk hi hD hne
  ·rename_i e1 e2;subst e2;exact h.inj j k C B hj hk hC hi hne
  ·exact h.inj j k C D hj hk hC hD hne
 ·rw [zI6]
  split
  ·rename_i he;subst he;rw [h.wf j hj] at hi;cases hi
  ·exact h.wf j hj
 ·rw [ho k fun he=>by subst he;rw [hnb] at hk;cases hk]
  exact h.ice k c hk
 ·rw [zI6] at hC
  split at hC
  ·rename_i he;subst he;exact h.dis j B k hj hi hk
  ·exact h.dis j C k hj hC hk
 ·refine ho k fun he=>?_
  subst he
  exact hw i B (bit_or.2 (.inr rfl)) hi hb
theorem uS1 (h:MI ρ w m T N) (hN:m.nx < N) {sh K:Nat} (hs:w.heap.size<=w'.heap.size) (ho:∀ k,k < w.heap.size->w'.heap[k]?=w.heap[k]?)
  (hm:MR (ρ.upd m.nx (w.heap.size,sh,K)) w'.heap m.nx B') (hout:Out w w') :
  MI (ρ.upd m.nx (w.heap.size,sh,K)) w' (m.new B') T N/\CS ρ (ρ.upd m.nx (w.heap.size,sh,K)) w w' m (m.new B'):=by
 have hfr:ρ m.nx=none:=h.fresh _ (Nat.le_refl _) hN
 have hle:=yR7 (w.heap.size,sh,K) hfr
 have hblk:∀ j,j≠m.nx->(ρ.upd m.nx (w.heap.size,sh,K)).blk j=ρ.blk j:=fun j hj=>by simp [Ren.blk,zL5 _ _ hj]
 have hblkn:(ρ.upd m.nx (w.heap.size,sh,K)).blk m.nx=some w.heap.size:=by simp [Ren.blk,upd_same]
 have old:∀ j C,T.testBit j=true->m.at j=some C->∃ b,ρ.blk j=some b/\b < w.heap.size:=fun j C hj hC=>(h.mem j C hj hC).blk
 have icel:∀ k c,ρ.ice k=some c->k < w.heap.size:=fun k c hk=>by
  obtain⟨e,z,h1⟩:=h.ice k c hk
  exact (Array.getElem?_eq_some_iff.1 h1).1
 refine⟨⟨fun j C hj hC=>?_,fun j k C D hj hk hC hD hne=>?_,fun j hj=>?_,fun j h1 h2=>?_,fun k c hk=>?_,fun j C k hj hC hk=>?_⟩,hle,fun j x hx=>?_,hs,fun k hk _=>ho k hk,fun j k h1 h2 hk=>?_,hout,fun _ _ h=>.inl h⟩
 ·rw [at_new] at hC
  split at hC
  ·rename_i he;subst he;cases hC;exact hm
  ·refine (h.mem j C hj hC).move hle fun k hk=>ho k ?_
   obtain⟨b,hb,hlt⟩:=old j C hj hC
   rw [hb] at hk;cases hk;exact hlt
 ·rw [at_new] at hC hD
  split at hC<;>split at hD
  ·omega
  ·rename_i e1 e2
   subst e1
   obtain⟨b,hb,hlt⟩:=old k D hk hD
   rw [hblkn,hblk k e2,hb]
   intro he;cases he;omega
  ·rename_i e1 e2
   subst e2
   obtain⟨b,hb,hlt⟩:=old j C hj hC
   rw [hblkn,hblk j e1,hb]
   intro he;cases he;omega
  ·rename_i e1 e2
   rw [hblk j e1,hblk k e2]
   exact h.inj j k C D hj hk hC hD hne
 ·have hj':m.nx+1<=j:=hj
  rw [at_new,if_neg (by omega)]
  exact h.wf j (by omega)
 ·have h1':m.nx+1<=j:=h1
  rw [zL5 _ _ (by omega)]
  exact h.fresh j (by omega) h2
 ·rw [ho k (icel k c hk)]
  exact h.ice k c hk
 ·rw [at_new] at hC
  split at hC
  ·rename_i he
   subst he
   rw [hblkn] at hk
   cases hk
   cases hq:ρ.ice w.heap.size with
   | none=>exact hq
   | some c=>have:=icel _ _ hq;omega
  ·rename_i he
   rw [hblk j he] at hk
   exact h.dis j C k hj hC hk
 ·by_cases he:j=m.nx
  ·subst he;exact .inr ⟨Nat.le_refl _,Nat.lt_succ_self _⟩
  ·rw [zL5 _ _ he] at hx;exact .inl hx
 ·have h2':j < m.nx+1:=h2
  obtain rfl:j=m.nx:=by omega
  rw [hblkn] at hk
  cases hk
  exact .inl (Nat.le_refl _)
theorem vI3 (h:MI ρ w m T N) (hN:m.nx < N) (hT:T.testBit i=true) (hi:m.at i=some B) {b sh K:Nat} (hb:ρ.blk i=some b) (hs:w'.heap.size=w.heap.size)
  (ho:∀ k,k≠b->w'.heap[k]?=w.heap[k]?) (hm:MR (ρ.upd m.nx (b,sh,K)) w'.heap m.nx B') (hout:Out w w') :
  MI (ρ.upd m.nx (b,sh,K)) w' ((m.del i).new B') T N/\CS ρ (ρ.upd m.nx (b,sh,K)) w w' m ((m.del i).new B'):=by
 have hfr:ρ m.nx=none:=h.fresh _ (Nat.le_refl _) hN
 have hle:=yR7 (b,sh,K) hfr
 have hin:i≠m.nx:=fun he=>by subst he;rw [h.wf _ (Nat.le_refl _)] at hi;cases hi
 have hnx:(m.del i).nx=m.nx:=rfl
 have hat:∀ j,((m.del i).new B').at j=if j=m.nx then some B' else if j=i then none else m.at j:=fun j=>by rw [at_new,zT3,hnx]
 have hblk:∀ j,j≠m.nx->(ρ.upd m.nx (b,sh,K)).blk j=ρ.blk j:=fun j hj=>by simp [Ren.blk,zL5 _ _ hj]
 have hblkn:(ρ.upd m.nx (b,sh,K)).blk m.nx=some b:=by simp [Ren.blk,upd_same]
 have other:∀ j C,T.testBit j=true->m.at j=some C->j≠i->ρ.blk j≠some b:=by
  intro j C hj hC hne hk
  exact h.inj j i C B hj hT hC hi hne (by rw [hk,hb])
 have hwr:((m.del i).new B').wr.testBit i=true:=bit_or.2 (.inl (bit_or.2 (.inr rfl)))
 have hnb:ρ.ice b=none:=h.dis i B b hT hi hb
 refine⟨⟨fun j C hj hC=>?_,fun j k C D hj hk hC hD hne=>?_,fun j hj=>?_,fun j h1 h2=>?_,fun k c hk=>?_,fun j C k hj hC hk=>?_⟩,hle,fun j x hx=>?_,by rw [hs];exact Nat.le_refl _,fun k hk hw=>?_,fun j k h1 h2 hk=>?_,hout,fun _ _ h=>.inl h⟩
 ·rw [hat] at hC
  split at hC
  ·rename_i he;subst he;cases hC;exact hm
  ·split at hC
   ·cases hC
   ·rename_i e1 e2
    exact (h.mem j C hj hC).move hle fun k hk=>ho k fun he=>by subst he;exact other j C hj hC e2 hk
 ·rw [hat] at hC hD
  split at hC<;>split at hD
  ·omega
  ·rename_i e1 e2
   split at hD
   ·cases hD
   ·rename_i e3
    subst e1
    rw [hblkn,hblk k e2]
    exact fun he=>other k D hk hD e3 he.symm
  ·rename_i e1 e2
   split at hC
   ·cases hC
   ·rename_i e3
    subst e2
    rw [hblkn,hblk j e1]
    exact other j C hj hC e3
  ·rename_i e1 e2
   split at hC
   ·cases hC
   ·split at hD
    ·cases hD
    ·rw [hblk j e1,hblk k e2]
     exact h.inj j k C D hj hk hC hD hne
 ·have hj':m.nx+1<=j:=hj
  rw [hat,if_neg (by omega)]
  split
  ·rfl
  ·exact h.wf j (by omega)
 ·have h1':m.nx+1<=j:=h1
  rw [zL5 _ _ (by omega)]
  exact h.fresh j (by omega) h2
 ·rw [ho k fun he=>by subst he;rw [uU0,hnb] at hk;cases hk]
  exact h.ice k c hk
 ·rw [hat] at hC
  split at hC
  ·rename_i he;subst he;rw [hblkn] at hk;cases hk;exact hnb
  ·split at hC
   ·cases hC
   ·rename_i e1 e2
    rw [hblk j e1] at hk
    exact h.dis j C k hj hC hk
 ·by_cases he:j=m.nx
  ·subst he;exact .inr ⟨Nat.le_refl _,Nat.lt_succ_self _⟩
  ·rw [zL5 _ _ he] at hx;exact .inl hx
 ·refine ho k fun he=>?_
  subst he
  exact hw i B hwr hi hb
 ·have h2':j < m.nx+1:=h2
  obtain rfl:j=m.nx:=by omega
  rw [hblkn] at hk
  cases hk
  exact .inr ⟨i,B,hwr,hi,hb⟩
end
theorem heap_setCell {w:World} {b o:Nat} {c:Array Value} {e:TypeId} {fz:Nat × Nat} (v:Value) (h:w.heap[b]?=some (.cells c e fz)):(w.setCell ⟨b,o,none⟩ v).heap[b]?=some (.cells (c.setIfInBounds o v) e fz):=by
 simp [World.setCell,Array.getElem?_modify,h]
theorem yM9 {w:World} {b o k:Nat} (v:Value) (h:k≠b):(w.setCell ⟨b,o,none⟩ v).heap[k]?=w.heap[k]?:=by
 simp only [World.setCell,Array.getElem?_modify]
 rw [if_neg (fun he=>h he.symm)]
theorem zD5:∀ (vs:List Value) (o:Nat) (w:World) {b:Nat} {c:Array Value} {e:TypeId} {fz:Nat × Nat},w.heap[b]?=some (.cells c e fz)->o+vs.length<=c.size ->
  (w.setCells b o vs).heap.size=w.heap.size/\(∀ k,k≠b->(w.setCells b o vs).heap[k]?=w.heap[k]?) /\
  ∃ c',(w.setCells b o vs).heap[b]?=some (.cells c' e fz)/\c'.size=c.size/\(∀ j,j < vs.length->c'[o+j]?=vs[j]?)/\(∀ j,j < o∨o+vs.length<=j->c'[j]?=c[j]?)
 | [],o,w,b,c,e,fz,h,_=>⟨rfl,fun _ _=>rfl,c,h,rfl,fun j hj=>by simp at hj,fun _ _=>rfl⟩
 | v::vs,o,w,b,c,e,fz,h,hr=>by
  simp only [List.length_cons] at hr
  obtain⟨h1,h2,c',h3,h4,h5,h6⟩:=zD5 vs (o+1) (w.setCell ⟨b,o,none⟩ v) (heap_setCell v h) (by simp;omega)
  refine⟨?_,fun k hk=>?_,c',h3,by rw [h4];simp,fun j hj=>?_,fun j hj=>?_⟩
  ·show ((w.setCell ⟨b,o,none⟩ v).setCells b (o+1) vs).heap.size=_
   rw [h1];simp [World.setCell]
  ·show ((w.setCell ⟨b,o,none⟩ v).setCells b (o+1) vs).heap[k]?=_
   rw [h2 k hk,yM9 v hk]
  ·cases j with
   | zero =>
    rw [Nat.add_zero,h6 o (.inl (by omega))]
    simp [Array.getElem?_setIfInBounds]
    omega
   | succ j =>
    have:=h5 j (by simpa using hj)
    rw [show o+(j+1)=o+1+j by omega,this]
    simp
  ·simp only [List.length_cons] at hj
   rw [h6 j (by omega),Array.getElem?_setIfInBounds_ne (by omega)]
theorem zD9 (b:Nat):∀ (vs:List Value) (o:Nat) (w:World),Out w (w.setCells b o vs)
 | [],_,w=>Out.refl w
 | v::vs,o,w=>(show Out w (w.setCell ⟨b,o,none⟩ v) from ⟨rfl,rfl,rfl⟩).trans (zD9 b vs (o+1) _)
theorem zH3 {w:World} {b o:Nat} {c:Array Value} {e:TypeId} {fz:Nat × Nat} (h:w.heap[b]?=some (.cells c e fz)):w.cell? ⟨b,o,none⟩=c[o]?:=by simp [World.cell?,h]
theorem zH0 {w:World} {b o:Nat} {c:Array Value} {e:TypeId} {fz:Nat × Nat} (h:w.heap[b]?=some (.cells c e fz)) (hf:¬ (fz.1<=o/\o < fz.2)):w.frozen? ⟨b,o,none⟩=false:=by
 simp only [World.frozen?,h]
 cases hh:(decide (fz.1<=o)&&decide (o < fz.2)) with
 | false=>rfl
 | true=>simp at hh;exact absurd hh hf
theorem uA4 {ρ:Ren} {x:AV} {v:Value} (h:VR ρ x v) (hs:scal x=true):v.oneCell'=true:=by
 cases h<;>first | rfl | (cases hs;done)
theorem zU8 {ρ:Ren} {xs:List AV} {vs:List Value} (h:VRs ρ xs vs) (hs:xs.all scal=true):∀ v∈vs,v.oneCell'=true:=by
 intro v hv
 obtain⟨j,hj,rfl⟩:=List.getElem_of_mem hv
 have hx:xs[j]?=some (xs[j]'(h.1 ▸ hj)):=List.getElem?_eq_getElem _
 exact uA4 (h.2 j _ _ hx (List.getElem?_eq_getElem hj)) ((List.all_eq_true.1 hs) _ (List.getElem_mem _))
theorem uG4 {ρ:Ren} {w:World} {i off b sh K:Nat} {B:Blk} {cs vs:List AV} {V:List Value} (hm:MR ρ w.heap i B) (hr:ρ i=some (b,sh,K)) (hl:Laid off B.cells vs cs) (hv:VRs ρ vs V) :
  (∀ j,j < V.length->(w.cell? ⟨b,sh+off+j,none⟩).isSome=true)/\(∀ j,j < V.length->w.frozen? ⟨b,sh+off+j,none⟩=false) /\
  (w.setCells b (sh+off) V).heap.size=w.heap.size/\(∀ k,k≠b->(w.setCells b (sh+off) V).heap[k]?=w.heap[k]?)/\MR ρ (w.setCells b (sh+off) V).heap i (.raw cs B.esz B.opn):=by
 replace hl:Laid off B.cells vs (Blk.raw cs B.esz B.opn).cells:=hl
 obtain⟨b',sh',K',c,e,fz,h1,h2,h3,h4,h5⟩:=hm
 rw [hr] at h1
 cases h1
 have hlen:=hv.1
 have hroom:V.length=0∨sh+off+V.length<=c.size:=by
  rcases Nat.eq_zero_or_pos V.length with h0 | hp
  ·exact .inl h0
  ·have:=hl.room
   have hx:B.cells[off+V.length - 1]?=some (B.cells[off+V.length - 1]'(by omega)):=List.getElem?_eq_getElem _
   obtain⟨y,hy,_⟩:=h4 _ _ hx
   have:=(Array.getElem?_eq_some_iff.1 hy).1
   exact .inr (by omega)
 rcases Nat.eq_zero_or_pos V.length with h0 | hp
 ·have hV:V=[]:=List.eq_nil_of_length_eq_zero h0
  subst hV
  refine⟨fun j hj=>by simp at hj,fun j hj=>by simp at hj,rfl,fun _ _=>rfl,b,sh,K,c,e,fz,hr,h2,h3,fun j x hx=>?_,fun ho=>?_⟩
  ·rw [hl.out j (by simp at hlen;simp [hlen];omega)] at hx
   exact h4 j x hx
  ·have:=h5 ho
   rw [hl.len]
   exact this
 ·have hroom':sh+off+V.length<=c.size:=by omega
  obtain⟨g1,g2,c',g3,g4,g5,g6⟩:=zD5 V (sh+off) w h2 hroom'
  refine⟨fun j hj=>?_,fun j hj=>?_,g1,g2,b,sh,K,c',e,fz,hr,g3,by rw [g4];exact h3,fun j x hx=>?_,fun ho=>?_⟩
  ·rw [zH3 h2]
   rw [Array.getElem?_eq_getElem (by omega)]
   rfl
  ·exact zH0 h2 (h3 _ (.inl (by omega)))
  ·by_cases hj:off<=j/\j < off+vs.length
   ·obtain⟨k,rfl⟩:∃ k,j=off+k:=⟨j - off,by omega⟩
    rw [hl.inn k (by omega)] at hx
    obtain⟨y,hy,hxy⟩:=hv.get hx
    exact⟨y,by rw [<- Nat.add_assoc,g5 k (by omega)];exact hy,hxy⟩
   ·rw [hl.out j (by omega)] at hx
    obtain⟨y,hy,hxy⟩:=h4 j x hx
    exact⟨y,by rw [g6 _ (by omega)];exact hy,hxy⟩
  ·have:=h5 ho
   simp only [hl.len,g4] at this ⊢
   exact this
theorem yA3 {ρ:Ren} {w:World} {i off n b sh K:Nat} {B:Blk} {cs:List AV} (hm:MR ρ w.heap i B) (hr:ρ i=some (b,sh,K)) (hl:cs.length=n) (hc:∀ j,j < n->∃ x,B.cells[off+j]?=some x/\cs[j]?=some x) :
  ∃ V:List Value,VRs ρ cs V/\∀ j v,V[j]?=some v->w.cell? ⟨b,sh+off+j,none⟩=some v:=by
 obtain⟨b',sh',K',c,e,fz,h1,h2,h3,h4,h5⟩:=hm
 rw [hr] at h1
 cases h1
 have get:∀ j,j < n->∃ x y,cs[j]?=some x/\c[sh+off+j]?=some y/\VR ρ x y:=fun j hj=>by
  obtain⟨x,hx,hcx⟩:=hc j hj
  obtain⟨y,hy,hxy⟩:=h4 _ _ hx
  exact⟨x,y,hcx,by rw [Nat.add_assoc];exact hy,hxy⟩
 refine⟨(List.range n).map fun j=>(c[sh+off+j]?).getD undef,⟨by simp [hl],fun j x y hx hy=>?_⟩,fun j v hv=>?_⟩
 ·have hj:j < n:=by rw [<- hl];exact (List.getElem?_eq_some_iff.1 hx).1
  obtain⟨x',y',e1,e2,e3⟩:=get j hj
  rw [e1] at hx
  cases hx
  simp [hj,e2] at hy
  subst hy
  exact e3
 ·have hj:j < n:=by have:=(List.getElem?_eq_some_iff.1 hv).1;simpa using this
  obtain⟨x',y',e1,e2,e3⟩:=get j hj
  simp [hj,e2] at hv
  rw [zH3 h2,e2,hv]
theorem zB5 (t:LTy) (l:List (Elem t)):(flat t l).length=l.length*wd t:=by
 induction l with
 | nil=>simp [flat]
 | cons x l ih =>
  show (enc t x++flat t l).length=_
  rw [List.length_append,zF8,ih,List.length_cons,Nat.succ_mul,Nat.add_comm]
theorem flat_get (t:LTy):∀ (l:List (Elem t)) (n j:Nat),n < l.length->j < wd t->(flat t l)[n*wd t+j]?=(enc t (nth l n))[j]?
 | [],n,j,h,_=>by simp at h
 | x::l,0,j,_,hj=>by
  show (enc t x++flat t l)[0*wd t+j]?=(enc t x)[j]?
  rw [Nat.zero_mul,Nat.zero_add,List.getElem?_append_left (by rw [zF8];exact hj)]
 | x::l,n+1,j,h,hj=>by
  show (enc t x++flat t l)[(n+1)*wd t+j]?=(enc t (nth l n))[j]?
  have h1:=flat_get t l n j (by simpa using h) hj
  rw [List.getElem?_append_right (by rw [zF8,Nat.succ_mul];omega),zF8,Nat.succ_mul]
  rw [show n*wd t+wd t+j - wd t=n*wd t+j by omega]
  exact h1
theorem zQ7 {t:LTy} {l:List (Elem t)} {q:Nat} {x:AV} (h:(flat t l)[q]?=some x):∃ n j,n < l.length/\j < wd t/\q=n*wd t+j/\(enc t (nth l n))[j]?=some x:=by
 have hq:q < l.length*wd t:=by rw [<- zB5];exact (List.getElem?_eq_some_iff.1 h).1
 have hw:0 < wd t:=by cases t<;>decide
 have hn:q / wd t < l.length:=by rw [Nat.div_lt_iff_lt_mul hw];exact hq
 have hj:q % wd t < wd t:=Nat.mod_lt _ hw
 have e:q=q / wd t*wd t+q % wd t:=by rw [Nat.mul_comm];exact (Nat.div_add_mod _ _).symm
 refine⟨q / wd t,q % wd t,hn,hj,e,?_⟩
 rw [<- flat_get t l _ _ hn hj,<- e]
 exact h
theorem xA6 {ρ:Ren} {w:World} {b o q n:Nat} {c:Array Value} {cells cs:List AV} {e:TypeId} {fz:Nat × Nat} (hh:w.heap[b]?=some (.cells c e fz)) (hs:o+cells.length<=c.size)
  (h:∀ (j:Nat) (x:AV) (y:Value),cells[j]?=some x->c[o+j]?=some y->VR ρ x y) (hl:cs.length=n) (hc:∀ j,j < n->∃ x,cells[q+j]?=some x/\cs[j]?=some x) :
  ∃ V:List Value,VRs ρ cs V/\∀ j v,V[j]?=some v->w.cell? ⟨b,o+q+j,none⟩=some v:=by
 have get:∀ j,j < n->∃ x y,cs[j]?=some x/\c[o+q+j]?=some y/\VR ρ x y:=fun j hj=>by
  obtain⟨x,hx,hcx⟩:=hc j hj
  have hlt:q+j < cells.length:=(List.getElem?_eq_some_iff.1 hx).1
  have hy:c[o+(q+j)]?=some (c[o+(q+j)]'(by omega)):=Array.getElem?_eq_getElem _
  exact⟨x,_,hcx,by rw [Nat.add_assoc];exact hy,h _ _ _ hx hy⟩
 refine⟨(List.range n).map fun j=>(c[o+q+j]?).getD undef,⟨by simp [hl],fun j x y hx hy=>?_⟩,fun j v hv=>?_⟩
 ·have hj:j < n:=by rw [<- hl];exact (List.getElem?_eq_some_iff.1 hx).1
  obtain⟨x',y',e1,e2,e3⟩:=get j hj
  rw [e1] at hx
  cases hx
  simp [hj,e2] at hy
  subst hy
  exact e3
 ·have hj:j < n:=by
   have:=(List.getElem?_eq_some_iff.1 hv).1
   simpa using this
  obtain⟨x',y',e1,e2,e3⟩:=get j hj
  simp [hj,e2] at hv
  subst hv
  rw [zH3 hh]
  exact e2
def Good (P:Program) (o:Oper) (ops:List Operand) (vs:List AV) (m:Mem) (r:AV) (m':Mem):Prop :=
 AS m m'/\∀ (ρ:Ren) (w:World) (T N:Nat) (a:Act) (next:Act->World->Prop) (Q:Exit->Act->World->Prop),
  (∀ i,m'.tch.testBit i=true->T.testBit i=true)->m'.nx<=N->VRs ρ vs (ops.map a.eval)->MI ρ w m T N ->
  (∀ ρ' w' v,VR ρ' r v->MI ρ' w' m' T N->CS ρ ρ' w w' m m'->next (a.put o.dst v) w')->o.wp P a w next Q
section
variable {P:Program} {o:Oper} {ops:List Operand} {vs:List AV} {m m':Mem} {r:AV}
theorem zC0 (ha:AS m m') (h:∀ (ρ:Ren) (w:World) (T N:Nat) (a:Act),(∀ i,m'.tch.testBit i=true->T.testBit i=true)->m'.nx<=N->VRs ρ vs (ops.map a.eval)->MI ρ w m T N ->
  ∃ ρ' w' v,(execOp a.eval o).run P w=.ok (.value v) w'/\VR ρ' r v/\MI ρ' w' m' T N/\CS ρ ρ' w w' m m'):Good P o ops vs m r m' :=
 ⟨ha,fun ρ w T N a next Q hT hN hv hm hk=>by
  obtain⟨ρ',w',v,h1,h2,h3,h4⟩:=h ρ w T N a hT hN hv hm
  unfold Oper.wp
  rw [h1]
  exact hk ρ' w' v h2 h3 h4⟩
theorem vN6 (ha:AS m m') (h:∀ (ρ:Ren) (w:World) (T N:Nat) (a:Act),(∀ i,m'.tch.testBit i=true->T.testBit i=true)->m'.nx<=N->VRs ρ vs (ops.map a.eval)->MI ρ w m T N ->
  ∃ ρ' w',(execOp a.eval o).run P w=.ok .skip w'/\MI ρ' w' m' T N/\CS ρ ρ' w w' m m'):Good P o ops vs m (.tup []) m' :=
 ⟨ha,fun ρ w T N a next Q hT hN hv hm hk=>by
  obtain⟨ρ',w',h1,h3,h4⟩:=h ρ w T N a hT hN hv hm
  unfold Oper.wp
  rw [h1]
  exact hk ρ' w' undef (VRs.nil.tup) h3 h4⟩
theorem zD6 {kd:Kd} (hc:zC9 P o.op=some (kd,ops)) (h:zK2 kd vs=some r):Good P o ops vs m r m :=
 zC0 (AS.refl m) fun ρ w T N a _ _ hv hm=>by
  obtain⟨v,h1,h2⟩:=yT0 (w:=w) hc hv h
  exact⟨ρ,w,v,h1,h2,hm,CS.refl ρ w m⟩
theorem yldw {a:Act} {w w':World} {s:Sem Value} {v:Value} (h:execOp a.eval o=(do pure (Next.value (<- s)))) (hs:s.run P w=.ok v w'):(execOp a.eval o).run P w=.ok (.value v) w':=by
 rw [h];simp [hs]
theorem zK3 {β:Type} {f:AV->Option β} {vs:List AV} {r:β} (h:on1 f vs=some r):∃ x,vs=[x]/\f x=some r:=by
 unfold on1 at h
 split at h
 ·exact⟨_,rfl,h⟩
 ·cases h
theorem zJ0 {β:Type} {f:AV->AV->Option β} {vs:List AV} {r:β} (h:on2 f vs=some r):∃ x y,vs=[x,y]/\f x y=some r:=by
 unfold on2 at h
 split at h
 ·exact⟨_,_,rfl,h⟩
 ·cases h
theorem zR7 {ρ:Ren} {w w':World} {T N K:Nat} {cs:List AV} {esz:Nat} {opn:Bool} {c:Array Value} {e:TypeId} {fz:Nat × Nat} (h:MI ρ w m T N) (hN:m.nx+1<=N) (hw:w'.heap=w.heap.push (.cells c e fz))
  (hfz:∀ o,o < c.size∨esz≠1->¬ (fz.1<=o/\o < fz.2)) (hc:∀ (j:Nat) (x:AV),cs[j]?=some x->∃ y,c[j]?=some y/\VR ρ x y) (ho:opn=true->cs.length<=K*esz/\K*esz<=c.size) (hout:Out w w':=by exact⟨rfl,rfl,rfl⟩) :
  MI (ρ.upd m.nx (w.heap.size,0,K)) w' (m.new (.raw cs esz opn)) T N/\CS ρ (ρ.upd m.nx (w.heap.size,0,K)) w w' m (m.new (.raw cs esz opn)):=by
 have hfr:ρ m.nx=none:=h.fresh _ (Nat.le_refl _) hN
 refine uS1 h hN (by rw [hw];simp) (fun k hk=>by rw [hw,Array.getElem?_push,if_neg (Nat.ne_of_lt hk)]) ?_ hout
 refine⟨w.heap.size,0,K,c,e,fz,upd_same _ _ _,by rw [hw];simp,hfz,fun j x hx=>?_,fun hop=>?_⟩
 ·obtain⟨y,h1,h2⟩:=hc j x hx
  exact⟨y,by rw [Nat.zero_add];exact h1,h2.mono (yR7 _ hfr)⟩
 ·rw [Nat.zero_add];exact ho hop
theorem wR2 {c:Array Value} {esz:Nat}:∀ o,o < c.size∨esz≠1->¬ (((0,0):Nat × Nat).1<=o/\o < ((0,0):Nat × Nat).2):=fun o _ h=>by simp at h
theorem wX9 {ρ:Ren} {cs:List AV} {C:List Value} (h:VRs ρ cs C):∀ (j:Nat) (x:AV),cs[j]?=some x->∃ y,C.toArray[j]?=some y/\VR ρ x y:=fun j x hx=>by
 obtain⟨y,h1,h2⟩:=h.get hx
 exact⟨y,by simpa using h1,h2⟩
theorem wU2 {e:TypeId} {zs:List AV} (ho:o.op=.alloc e) (hz:zI8 P e=some zs):Good P o [] vs m (.ptr m.nx 0) (m.new (.raw zs 1 false)) :=
 zC0 (zH5 _ _) fun ρ w T N a _ hN _ hm=>by
  obtain⟨i,z,hi,hiz,hzs⟩:=zI7 (ρ:=ρ) hz
  obtain⟨h1,h2⟩:=zR7 (w':=w.alloc (.cells z.cells e)) (K:=0) (esz:=1) (opn:=false) (cs:=zs) (c:=z.cells) (e:=e) (fz:=(0,0)) hm hN rfl wR2 (by have:=wX9 hzs;simpa using this) (fun h=>by cases h)
  refine⟨_,_,.pointer (some ⟨w.heap.size,0,none⟩),yldw (by simp only [execOp,ho]<;>rfl) ?_,VR.ptr (off:=0) (upd_same _ _ _),h1,h2⟩
  simp [Instr.alloc,zeroValue,typeInfo,hi,hiz,newVar,newRow]
theorem uL6 {e:TypeId} {x:Operand} {v:AV} (ho:o.op=.box e x):Good P o [x] [v] m (.ptr m.nx 0) (m.new (.raw (zF3 v) 1 false)) :=
 zC0 (zH5 _ _) fun ρ w T N a _ hN hv hm=>by
  have hx:=yB8 (VRs.one hv)
  obtain⟨h1,h2⟩:=zR7 (w':=w.alloc (.cells (a.eval x).cells e)) (K:=0) (esz:=1) (opn:=false) (cs:=zF3 v) (c:=(a.eval x).cells) (e:=e) (fz:=(0,0)) hm hN rfl wR2 (by have:=wX9 hx;simpa using this) (fun h=>by cases h)
  refine⟨_,_,.pointer (some ⟨w.heap.size,0,none⟩),yldw (by simp only [execOp,ho]<;>rfl) ?_,VR.ptr (off:=0) (upd_same _ _ _),h1,h2⟩
  simp [Instr.box,newVar,newRow]
theorem wF2 (zs:List AV) (n:Nat):(repA zs n).length=n*zs.length:=by
 induction n with
 | zero=>simp [repA]
 | succ n ih=>simp [repA,ih,Nat.succ_mul,Nat.add_comm]
theorem uC2 {zs:List AV} {n j:Nat} {x:AV} (h:(repA zs n)[j]?=some x):zs[j % zs.length]?=some x/\j < n*zs.length:=by
 induction n generalizing j with
 | zero=>simp [repA] at h
 | succ n ih =>
  rw [repA,List.getElem?_append] at h
  split at h
  ·rename_i hj
   rw [Nat.mod_eq_of_lt hj]
   exact⟨h,by rw [Nat.succ_mul];omega⟩
  ·rename_i hj
   obtain⟨h1,h2⟩:=ih h
   have:j % zs.length=(j - zs.length) % zs.length:=by
    rw [Nat.mod_eq_sub_mod (by omega)]
   rw [this]
   exact⟨h1,by rw [Nat.succ_mul];omega⟩
theorem yZ5 {ρ:Ren} {zs:List AV} {z:Value} {n size:Nat} (hz:VRs ρ zs z.cells.toList) (hs:zs.length=size):∀ (j:Nat) (x:AV),(repA zs n)[j]?=some x->∃ y,(madeCells z.cells (n*size))[j]?=some y/\VR ρ x y:=by
 intro j x hx
 obtain⟨h1,h2⟩:=uC2 hx
 have hzl:z.cells.size=size:=by rw [<- hs,hz.1];simp
 rw [hs] at h1 h2
 obtain⟨y,hy,hxy⟩:=hz.get h1
 refine⟨y,?_,hxy⟩
 have hlt:j % size < z.cells.size:=by
  have:=(List.getElem?_eq_some_iff.1 hy).1
  simpa using this
 simp only [madeCells,Array.getElem?_map,hzl]
 rw [show (Array.range (n*size))[j]?=some j by simp [h2]]
 have:z.cells[j % size]?=some y:=by simpa using hy
 rw [Option.map_some,getElem!_pos z.cells (j % size) hlt]
 exact congrArg some (Array.getElem?_eq_some_iff.1 this).2
theorem vN7 {t e:TypeId} {l c:Operand} {i:TypeInfo} {zs:List AV} {nl nc:Nat} {vl vc:AV} (ho:o.op=.makeSlice t l c) (ht:P.underlying t=some (.slice e)) (hi:P.info? e=some i) (hz:zI8 P e=some zs)
  (hs:zs.length=i.size) (hl:idxA vl 1048576=some nl) (hcc:idxA vc 1048576=some nc) (hle:nl<=nc) (hb:i.bytes < 4096):Good P o [l,c] [vl,vc] m (.sl m.nx 0 nl nc) (m.new (.raw (repA zs nc) i.size false)) :=
 zC0 (zH5 _ _) fun ρ w T N a _ hN hv hm=>by
  obtain⟨i',z,hi',hiz,hzs⟩:=zI7 (ρ:=ρ) hz
  rw [hi] at hi'
  cases hi'
  obtain⟨g1,g2⟩:=VRs.two (ρ:=ρ) hv
  obtain⟨e1,k1,e2⟩:=zN0 hl g1
  obtain⟨e3,k2,e4⟩:=zN0 hcc g2
  obtain⟨h1,h2⟩:=zR7 (w':=w.alloc (.cells (madeCells z.cells (nc*i.size)) e)) (K:=0) (esz:=i.size) (opn:=false) (cs:=repA zs nc) (c:=madeCells z.cells (nc*i.size)) (e:=e) (fz:=(0,0)) hm hN rfl wR2 (yZ5 hzs hs) (fun h=>by cases h)
  refine⟨_,_,.slice (some ⟨w.heap.size,0,none⟩) nl nc,yldw (by simp only [execOp,ho]<;>rfl) ?_,VR.sl (off:=0) nl nc (upd_same _ _ _),h1,h2⟩
  rw [e2,e4]
  have hbytes:(i.bytes:Int)*(nc:Int)<=281474976710656:=by
   have h5:i.bytes*nc<=4096*1048576:=Nat.mul_le_mul (by omega) (by omega)
   have:((i.bytes*nc:Nat):Int)<=281474976710656:=by omega
   simpa using this
  have:=run_make (P:=P) w t e i z ht hi hiz k1 k2 (nl:Int) (nc:Int) (by omega) (by omega) hbytes (by omega)
  simpa using this
theorem uL5 {t e:TypeId} {len n:Nat} {ps:Array (Nat × Operand)} {zs cs:List AV} (ho:o.op=.buildSlice t len ps) (ht:P.underlying t=some (.slice e)) (hz:zI8 P e=some zs) (hsz:szOf P e=some n)
  (hs:zs.length=n) (hn:0 < len*n) (hsm:len*n<=1000) (hf:zS5 (repA zs len) (ps.toList.map fun p=>(p.1*n,n)) vs some=some cs) :
  Good P o (ps.toList.map (·.2)) vs m (.sl m.nx 0 len len) (m.new (.raw cs n false)) :=
 zC0 (zH5 _ _) fun ρ w T N a _ hN hv hm=>by
  obtain⟨i,z,hi,hiz,hzs⟩:=zI7 (ρ:=ρ) hz
  have hin:i.size=n:=by simpa [szOf,hi] using hsz
  have hrep:VRs ρ (repA zs len) (madeCells z.cells (len*n)).toList:=by
   refine⟨by rw [wF2,hs];simp [size_madeCells],fun j x y hx hy=>?_⟩
   obtain⟨y',h1,h2⟩:=yZ5 hzs hs j x hx
   have:(madeCells z.cells (len*n))[j]?=some y:=by simpa using hy
   rw [this] at h1
   cases h1
   exact h2
  obtain⟨Y,hY,hYv⟩:=xB4 (ρ:=ρ) (fun j=>some (j*n,n)) (ps.toList.map fun p=>(p.1*n,n)) (ps.toList.map fun p=>(p.1,a.eval p.2)) (repA zs len) (madeCells z.cells (len*n)) vs cs
   (by simp) (fun j p q hp hq=>by
    simp only [List.getElem?_map,Option.map_eq_some_iff] at hp hq
    obtain⟨q0,hq0,rfl⟩:=hq
    obtain⟨p0,hp0,rfl⟩:=hp
    rw [hq0] at hp0
    cases hp0
    rfl) hrep (by simpa [List.map_map,Function.comp_def] using hv) hf
  obtain⟨h1,h2⟩:=zR7 (w':=w.alloc (.cells Y e)) (K:=0) (esz:=n) (opn:=false) (cs:=cs) (c:=Y) (e:=e) (fz:=(0,0)) hm hN rfl wR2 (by have:=wX9 hYv;simpa using this) (fun h=>by cases h)
  refine⟨_,_,.slice (some ⟨w.heap.size,0,none⟩) len len,yldw (by simp only [execOp,ho]<;>rfl) ?_,VR.sl (off:=0) len len (upd_same _ _ _),h1,h2⟩
  have e0:(ps.map fun (i,x)=>(i,a.eval x)).toList=ps.toList.map fun p=>(p.1,a.eval p.2):=by simp
  have hz0:¬ len*n=0:=by omega
  refine run_buildSlice w t e len _ Y i z ht hi hiz (by rw [hin];omega) (by rw [hin];exact hz0) ?_
  rw [e0,hin]
  exact hY
theorem yA1 {ρ:Ren} {i off:Nat} {v:Value} (h:VR ρ (.ptr i off) v):∃ b sh K,ρ i=some (b,sh,K)/\v=.pointer (some ⟨b,sh+off,none⟩):=by
 cases h with
 | ptr hr=>exact⟨_,_,_,hr,rfl⟩
theorem yH4 {t:TypeId} {x:Operand} {d:TypeDesc} {i off:Nat} {B:Blk} (ho:o.op=.load t x) (hd:P.underlying t=some d) (hr:zI0 d=false) (hB:m.at i=some B) (hv:B.cells[off]?=some r) :
  Good P o [x] [.ptr i off] m r (m.touch i) :=
 zC0 (zE4 _ _) fun ρ w T N a hT _ hvs hm=>by
  obtain⟨b,sh,K,h1,h2⟩:=yA1 (VRs.one hvs)
  obtain⟨b',sh',K',c,e,fz,g1,g2,g3,g4,g5⟩:=hm.mem i B (hT i (bit_or.2 (.inr rfl))) hB
  rw [h1] at g1
  cases g1
  obtain⟨y,hy,hry⟩:=g4 off r hv
  refine⟨ρ,w,y,yldw (by simp only [execOp,ho]<;>rfl) ?_,hry,zH8 hm i,yO1 _ rfl rfl⟩
  rw [h2]
  simp [Instr.loadAt,Instr.sureAddr,loadVar,zJ8 hd,hr,zH3 g2,hy]
theorem yH3 {t:TypeId} {x:Operand} {d:TypeDesc} {i off n:Nat} {B:Blk} {cs:List AV} (ho:o.op=.load t x) (hd:P.underlying t=some d) (hr:zI0 d=true) (hn:szOf P t=some n) (hB:m.at i=some B)
  (hl:cs.length=n) (hc:∀ j,j < n->∃ x,B.cells[off+j]?=some x/\cs[j]?=some x):Good P o [x] [.ptr i off] m (.agg cs) (m.touch i) :=
 zC0 (zE4 _ _) fun ρ w T N a hT _ hvs hm=>by
  obtain⟨b,sh,K,h1,h2⟩:=yA1 (VRs.one hvs)
  obtain⟨V,hV,hcell⟩:=yA3 (hm.mem i B (hT i (bit_or.2 (.inr rfl))) hB) h1 hl hc
  refine⟨ρ,w,.agg V.toArray,yldw (by simp only [execOp,ho]<;>rfl) ?_,hV.agg,zH8 hm i,yO1 _ rfl rfl⟩
  rw [h2]
  refine run_loadAt_mid w b (sh+off) t V d hcell hd (by cases d<;>first | rfl | (cases hr)) ?_
  rw [<- hV.1,hl]
  exact hn
theorem xG7 {t:TypeId} {w:World} {b off n:Nat} {v:Value} (hn:szOf P t=some n) (hs:v.cells.size=n) (hc:∀ j,j < n->(w.cell? ⟨b,off+j,none⟩).isSome=true) (hf:∀ j,j < n->w.frozen? ⟨b,off+j,none⟩=false)
  (h1:∀ u∈v.cells.toList,u.oneCell'=true):(storeVar t ⟨b,off,none⟩ v).run P w=.ok () (w.setCells b off v.cells.toList):=by
 have:=run_storeCells_cells (P:=P) b off v.cells.toList 0 w (by simpa [hs] using hc) (by simpa [hs] using hf) h1
 simp only [Nat.add_zero] at this
 simp [storeVar,zE1 hn,hs,this]
theorem yG3 {ρ:Ren} {w:World} {T N i off b sh K:Nat} {B:Blk} {cs vs:List AV} {V:List Value} (hm:MI ρ w m T N) (hT:T.testBit i=true) (hB:m.at i=some B) (hr:ρ i=some (b,sh,K))
  (hl:Laid off B.cells vs cs) (hv:VRs ρ vs V) :
  (∀ j,j < V.length->(w.cell? ⟨b,sh+off+j,none⟩).isSome=true)/\(∀ j,j < V.length->w.frozen? ⟨b,sh+off+j,none⟩=false) /\
  MI ρ (w.setCells b (sh+off) V) ((m.touch i).put i (.raw cs B.esz B.opn)) T N/\CS ρ ρ w (w.setCells b (sh+off) V) m ((m.touch i).put i (.raw cs B.esz B.opn)):=by
 obtain⟨g1,g2,g3,g4,g5⟩:=uG4 (hm.mem i _ hT hB) hr hl hv
 have hb:ρ.blk i=some b:=by simp [Ren.blk,hr]
 obtain⟨k1,k2⟩:=qR0 (m:=m.touch i) (zH8 hm i) hT hB hb g3 g4 g5 (zD9 _ _ _ _)
 exact⟨g1,g2,k1,⟨k2.ext,k2.dom,k2.size,k2.frame,k2.newb,k2.outer,k2.nice⟩⟩
theorem zS2 {i:Nat} {B B':Blk} (hB:m.at i=some B):AS m ((m.touch i).put i B'):=(zE4 m i).trans (vT3 (m.touch i) i B' B hB)
theorem wC6 (m:Mem) (i:Nat) (B:Blk):(m.put i B).tch.testBit i=true:=bit_or.2 (.inr rfl)
theorem xA9 {t:TypeId} {x y:Operand} {i off n:Nat} {v:AV} {B:Blk} {cs:List AV} (ho:o.op=.store t x y) (hn:szOf P t=some n) (hB:m.at i=some B) (hl:Laid off B.cells (zF3 v) cs)
  (hs:(zF3 v).length=n) (hsc:(zF3 v).all scal=true):Good P o [x,y] [.ptr i off,v] m (.tup []) ((m.touch i).put i (.raw cs B.esz B.opn)) :=
 vN6 (zS2 hB) fun ρ w T N a hT _ hvs hm=>by
  obtain⟨g1,g2⟩:=VRs.two (ρ:=ρ) hvs
  obtain⟨b,sh,K,h1,h2⟩:=yA1 g1
  have hcv:=yB8 g2
  obtain⟨k1,k2,k3,k4⟩:=yG3 hm (hT i (wC6 _ _ _)) hB h1 hl hcv
  have hsz:(a.eval y).cells.size=n:=by rw [<- hs,hcv.1];simp
  refine⟨ρ,_,?_,k3,k4⟩
  have hrun:=xG7 (P:=P) (w:=w) (b:=b) (off:=sh+off) hn hsz (by simpa [hsz] using k1) (by simpa [hsz] using k2) (zU8 hcv hsc)
  simp [execOp,ho,Instr.storeAt,h2,Instr.sureAddr,hrun]
end
section
variable {P:Program} {o:Oper} {ops:List Operand} {vs:List AV} {m m':Mem} {r:AV}
theorem zY8 {ρ ρ':Ren} {w w':World} {m0 m1 m':Mem} (h:CS ρ ρ' w w' m1 m') (hn:m1.nx=m0.nx) (ha:∀ j B,m1.at j=some B->m0.at j=some B):CS ρ ρ' w w' m0 m' :=
 ⟨h.ext,fun i x hx=>by rw [<- hn];exact h.dom i x hx,h.size,fun b hb hw=>h.frame b hb fun j B h1 h2=>hw j B h1 (ha j B h2),fun i b h1 h2 h3=>by
  rcases h.newb i b (by rw [hn];exact h1) h2 h3 with h4 | ⟨j,B,h5,h6,h7⟩
  ·exact .inl h4
  ·exact .inr ⟨j,B,h5,ha j B h6,h7⟩,h.outer,h.nice⟩
theorem uS2 {ρ:Ren} {w:World} {T N:Nat} (h:MI ρ w m T N) (i:Nat):MI ρ w (m.del i) T N:=by
 refine⟨fun j C hj hC=>?_,fun j k C D hj hk hC hD hne=>?_,fun j hj=>?_,h.fresh,h.ice,fun j C b hj hC hb=>?_⟩
 ·rw [zT3] at hC
  split at hC
  ·cases hC
  ·exact h.mem j C hj hC
 ·rw [zT3] at hC hD
  split at hC
  ·cases hC
  ·split at hD
   ·cases hD
   ·exact h.inj j k C D hj hk hC hD hne
 ·rw [zT3]
  split
  ·rfl
  ·exact h.wf j hj
 ·rw [zT3] at hC
  split at hC
  ·cases hC
  ·exact h.dis j C b hj hC hb
theorem zT1 {w w':World} (he:w'.heap=w.heap) (x:Addr):w'.cell? x=w.cell? x:=by simp [World.cell?,he]
structure SrcA (P:Program) (esz:Nat) (y:AV) (n:Nat) (news:List AV) (m m1:Mem):Prop where
 asS:AS m m1
 nx:m1.nx=m.nx
 at':∀ j,m1.at j=m.at j
 len:news.length=n*esz
 run:∀ (ρ:Ren) (w:World) (T N:Nat) (Y:Value),(∀ i,m1.tch.testBit i=true->T.testBit i=true)->VR ρ y Y->MI ρ w m T N ->
  ∃ V:List Value,VRs ρ news V/\(∀ w',(Builtin.lenOf Y).run P w'=.ok n w')/\∀ n' w',n'<=n->w'.heap=w.heap->(Builtin.firstCells esz n' Y).run P w'=.ok (V.take (n'*esz)).toArray w'
theorem zQ8 (esz:Nat) (a:Addr) (l c:Nat) (w:World):(Builtin.firstCells esz 0 (.slice (some a) l c)).run P w=.ok #[] w:=by
 have:=run_firstCells_some (P:=P) w esz 0 a l c [] (by simp) (by simp)
 simpa using this
theorem zV9 {ρ:Ren} {w:World} {i off esz n b sh K l c:Nat} {B:Blk} {cs:List AV} (hm:MR ρ w.heap i B) (hr:ρ i=some (b,sh,K)) (hl:cs.length=n*esz)
  (hc:∀ j,j < n*esz->∃ x,B.cells[off+j]?=some x/\cs[j]?=some x) :
  ∃ V:List Value,VRs ρ cs V/\∀ n' w',n'<=n->w'.heap=w.heap->(Builtin.firstCells esz n' (.slice (some ⟨b,sh+off,none⟩) l c)).run P w'=.ok (V.take (n'*esz)).toArray w':=by
 obtain⟨V,hV,hcell⟩:=yA3 hm hr hl hc
 refine⟨V,hV,fun n' w' hn' hw'=>?_⟩
 refine run_firstCells_some w' esz n' ⟨b,sh+off,none⟩ l c (V.take (n'*esz)) ?_ fun j v hv=>?_
 ·rw [List.length_take,<- hV.1,hl]
  exact Nat.min_eq_left (Nat.mul_le_mul_right _ hn')
 ·rw [Addr.add_mid,zT1 hw']
  rw [List.getElem?_take] at hv
  split at hv
  ·exact hcell j v hv
  ·cases hv
theorem yW8 {β:Type} {esz:Nat} {y:AV} {k:Nat->List AV->Mem->Option β} {res:β} (h:srcK esz y m k=some res) :
  ∃ n news m1,k n news m1=some res/\SrcA P esz y n news m m1:=by
 unfold srcK at h
 split at h
 ·refine⟨0,[],m,h,AS.refl m,rfl,fun _=>rfl,by simp,fun ρ w T N Y _ hy _=>?_⟩
  cases hy
  exact⟨[],VRs.nil,fun _=>rfl,fun n' w' hn' _=>by
   obtain rfl:n'=0:=by omega
   simpa using run_firstCells_none (P:=P) w' esz 0 0 0⟩
 ·refine⟨0,[],m,h,AS.refl m,rfl,fun _=>rfl,by simp,fun ρ w T N Y _ hy _=>?_⟩
  cases hy
  exact⟨[],VRs.nil,fun _=>rfl,fun n' w' hn' _=>by
   obtain rfl:n'=0:=by omega
   simpa using zQ8 (P:=P) esz _ _ _ w'⟩
 ·rename_i s
  cases he:Nat.beq esz 1 with
  | false=>rw [he] at h;cases h
  | true =>
   rw [he,cond_true] at h
   obtain rfl:=beqN.1 he
   refine⟨_,_,m,h,AS.refl m,rfl,fun _=>rfl,by simp,fun ρ w T N Y _ hy _=>?_⟩
   cases hy
   refine⟨s.map fun b=>.int .u8 b.toNat,⟨by simp,fun j x y hx hy=>?_⟩,fun w'=>by simp [Builtin.lenOf,size_mk],fun n' w' hn' _=>?_⟩
   ·simp only [List.getElem?_map,Option.map_eq_some_iff] at hx hy
    obtain⟨b,hb,rfl⟩:=hx
    obtain⟨b',hb',rfl⟩:=hy
    rw [hb] at hb'
    cases hb'
    exact .int _ _
   ·simp only [Builtin.firstCells,Sem.run_pure,Nat.mul_one]
    congr 1
    apply Array.ext'
    simp [ByteArray.data_extract]
 ·rename_i t l
  cases he:Nat.beq esz (wd t) with
  | false=>rw [he] at h;cases h
  | true =>
   rw [he,cond_true] at h
   obtain rfl:=beqN.1 he
   refine⟨_,_,m,h,AS.refl m,rfl,fun _=>rfl,zB5 t l,fun ρ w T N Y _ hy hm=>?_⟩
   cases hy with
   | fl0=>exact⟨[],VRs.nil,fun _=>rfl,fun n' w' hn' _=>by
     obtain rfl:n'=0:=by simpa using hn'
     simpa using run_firstCells_none (P:=P) w' (wd t) 0 0 0⟩
   | fle a c=>exact⟨[],VRs.nil,fun _=>rfl,fun n' w' hn' _=>by
     obtain rfl:n'=0:=by simpa using hn'
     simpa using zQ8 (P:=P) (wd t) _ _ _ w'⟩
   | fl hi hs hc hcell =>
    rename_i b q cap c
    obtain⟨e,fz,hh⟩:=hm.ice _ _ hi
    obtain⟨V,hV,hcv⟩:=xA6 (cs:=flat t l) (q:=0) (n:=l.length*wd t) (o:=q) (cells:=flat t l) hh (by rw [zB5];exact hs) (fun j x y hx hy=>by
     obtain⟨n,j',h1,h2,h3,h4⟩:=zQ7 hx
     subst h3
     exact hcell n j' x y h1 h4 (by rw [Nat.add_assoc];exact hy)) (zB5 t l) (fun j hj=>by
     have hlt:j < (flat t l).length:=by rw [zB5];exact hj
     exact⟨(flat t l)[j],by rw [Nat.zero_add];exact List.getElem?_eq_getElem hlt,List.getElem?_eq_getElem hlt⟩)
    refine⟨V,hV,fun _=>rfl,fun n' w' hn' hw'=>?_⟩
    refine run_firstCells_some w' (wd t) n' ⟨b,q,none⟩ l.length cap (V.take (n'*wd t)) ?_ fun j v hv=>?_
    ·rw [List.length_take,<- hV.1,zB5]
     exact Nat.min_eq_left (Nat.mul_le_mul_right _ hn')
    ·rw [Addr.add_mid,zT1 hw']
     rw [List.getElem?_take] at hv
     split at hv
     ·exact hcv j v hv
     ·cases hv
 ·rename_i i off len cap
  obtain⟨B,hB,h⟩:=zD0 h
  obtain⟨cs,hl,hc,h⟩:=zG3 h
  refine⟨_,_,_,h,zE4 m i,rfl,fun _=>rfl,hl,fun ρ w T N Y hT hy hm=>?_⟩
  cases hy with
  | sl _ _ hr =>
   obtain⟨V,hV,hf⟩:=zV9 (P:=P) (l:=len) (c:=cap) (hm.mem i B (hT i (bit_or.2 (.inr rfl))) hB) hr hl hc
   exact⟨V,hV,fun _=>rfl,hf⟩
 ·rename_i i e off len
  cases he:Nat.beq e esz with
  | false=>rw [he] at h;cases h
  | true =>
   rw [he,cond_true] at h
   obtain rfl:=beqN.1 he
   obtain⟨B,hB,h⟩:=zD0 h
   obtain⟨cs,hl,hc,h⟩:=zG3 h
   refine⟨_,_,_,h,zE4 m i,rfl,fun _=>rfl,hl,fun ρ w T N Y hT hy hm=>?_⟩
   cases hy with
   | so hr hlk =>
    obtain⟨V,hV,hf⟩:=zV9 (P:=P) (l:=len) (hm.mem i B (hT i (bit_or.2 (.inr rfl))) hB) hr hl hc
    exact⟨V,hV,fun _=>rfl,hf⟩
 ·cases h
theorem SrcA.src {esz n:Nat} {y:AV} {news:List AV} {m1:Mem} (h:SrcA P esz y n news m m1) {ρ:Ren} {w:World} {T N:Nat} {Y:Value} {tx:TypeId} (hk:(∃ e',P.underlying tx=some (.slice e'))∨P.underlying tx=some .string)
  (hT:∀ i,m1.tch.testBit i=true->T.testBit i=true) (hy:VR ρ y Y) (hm:MI ρ w m T N) (h1:news.all scal=true):∃ V:List Value,VRs ρ news V/\Src P esz tx Y n V w:=by
 obtain⟨V,hV,hl,hf⟩:=h.run ρ w T N Y hT hy hm
 have hlen:V.length=n*esz:=by rw [<- hV.1,h.len]
 have ht:V.take (n*esz)=V:=List.take_of_length_le (by omega)
 refine⟨V,hV,hk,hl,?_,?_,hlen,zU8 hV h1⟩
 ·have:=hf n w (Nat.le_refl _) rfl;rwa [ht] at this
 ·have:=hf n w.drew (Nat.le_refl _) rfl;rwa [ht] at this
theorem grownCap_le (w:World) (need old:Nat) (e:TypeId):need<=grownCap w need old e:=by
 show need<=need+_
 exact Nat.le_add_right _ _
theorem xA8 {ρ:Ren} {w:World} {T N esz need cap:Nat} {cs:List AV} {C:List Value} {z:Value} {e:TypeId} (hm:MI ρ w m T N) (hN:m.nx+1<=N) (hv:VRs ρ cs C) (hl:cs.length=need*esz) (hz:z.cells.size=esz) (hcap:need<=cap) :
  MI (ρ.upd m.nx (w.heap.size,0,cap)) (w.drew.alloc (.cells (C.toArray++Builtin.zeroCells z.cells (cap - need)) e)) (m.new (.raw cs esz true)) T N /\
  CS ρ (ρ.upd m.nx (w.heap.size,0,cap)) w (w.drew.alloc (.cells (C.toArray++Builtin.zeroCells z.cells (cap - need)) e)) m (m.new (.raw cs esz true)):=by
 refine zR7 (K:=cap) (fz:=(0,0)) hm hN rfl wR2 (fun j x hx=>?_) fun _=>?_
 ·obtain⟨y,h1,h2⟩:=hv.get hx
  have hj:=(List.getElem?_eq_some_iff.1 h1).1
  exact⟨y,by rw [Array.getElem?_append_left (by simpa using hj)];simpa using h1,h2⟩
 ·have h1:need*esz<=cap*esz:=Nat.mul_le_mul_right _ hcap
  have h2:(cap - need)*esz=cap*esz - need*esz:=Nat.sub_mul _ _ _
  have h3:=hv.1
  simp only [Array.size_append,List.size_toArray,size_zeroCells,hz]
  omega
theorem VR.so0 {ρ:Ren} {i esz b K n:Nat} (h:ρ i=some (b,0,K)) (hn:n<=K):VR ρ (.so i esz 0 n) (.slice (some ⟨b,0,none⟩) n K):=by
 have:=VR.so (esz:=esz) (off:=0) (len:=n) h (by omega)
 simpa using this
theorem VR.sos {ρ:Ren} {i esz b sh K n:Nat} (h:ρ i=some (b,sh,K)) (hn:n<=K):VR ρ (.so i esz 0 n) (.slice (some ⟨b,sh,none⟩) n K):=by
 have:=VR.so (esz:=esz) (off:=0) (len:=n) h (by omega)
 simpa using this
theorem wK0 {c:Call} {t tx e:TypeId} {i:TypeInfo} {zs:List AV} {x y:AV} {β:Type} {k:AV->Mem->Option β} {res:β} (ho:o.op=.call c) (hb:c.callee=.builtin .append) (hty:c.argTypes.toList=[t,tx]) (ht:P.underlying t=some (.slice e))
  (hi:P.info? e=some i) (hz:zI8 P e=some zs) (hzs:zs.length=i.size) (_hpos:0 < i.size) (hk:(∃ e',P.underlying tx=some (.slice e'))∨P.underlying tx=some .string)
  (h:appK i.size i.bytes x y m k=some res):∃ r m',k r m'=some res/\Good P o c.args.toList [x,y] m r m':=by
 have hat:c.argTypes=#[t,tx]:=by rw [<- Array.toArray_toList (xs:=c.argTypes),hty]
 have runs:∀ {a:Act} {w w':World} {X Y v:Value},c.args.toList.map a.eval=[X,Y]->(Builtin.append_ #[t,tx] o.type #[X,Y]).run P w=.ok v w'->(execOp a.eval o).run P w=.ok (.value v) w':=by
  intro a w w' X Y v hx hr
  rw [zP3 ho hb,zP4 hx,hat]
  simp [builtin,hr]
 obtain⟨z,hiz,hzz⟩:∃ z,i.zero=some z/\z.cells.size=i.size:=by
  obtain⟨i',z,hi',hiz,hv⟩:=zI7 (ρ:=⟨fun _=>none,fun _=>none⟩) hz
  rw [hi] at hi'
  cases hi'
  exact⟨z,hiz,by rw [<- hzs,hv.1];simp⟩
 unfold appK at h
 have hh:=yW8 (P:=P) h
 clear h
 obtain⟨n,news,m1,h,hs⟩:=hh
 cases hn0:Nat.beq n 0 with
 | true =>
  rw [hn0,cond_true] at h
  obtain rfl:=beqN.1 hn0
  have hnews:news=[]:=List.eq_nil_of_length_eq_zero (by rw [hs.len];simp)
  subst hnews
  have gen:∀ (base:Ren->Value->Prop),k x m1=some res->(∀ (ρ:Ren) X,VR ρ x X->∃ b l cp,X=.slice b l cp/\l<=cp)->∃ r m',k r m'=some res/\Good P o c.args.toList [x,y] m r m':=by
   intro _ h hx
   refine⟨x,m1,h,zC0 hs.asS fun ρ w T N a hT hN hv hm=>?_⟩
   obtain⟨X,Y,hXY,h1,h2⟩:=hv.map2
   obtain⟨b,l,cp,rfl,hle⟩:=hx ρ X h1
   obtain⟨V,hV,hsrc⟩:=hs.src hk hT h2 hm (by rfl)
   have hV0:V=[]:=List.eq_nil_of_length_eq_zero (by rw [<- hV.1];rfl)
   subst hV0
   refine⟨ρ,w,_,runs hXY (run_append_nothing w t tx o.type e i ht hi b l cp hle Y hsrc),h1,⟨fun j B hj hB=>hm.mem j B hj (by rw [<- hs.at'];exact hB),fun j k B C hj hk hB hC=>hm.inj j k B C hj hk (by rw [<- hs.at'];exact hB) (by rw [<- hs.at'];exact hC),fun j hj=>by rw [hs.at'];exact hm.wf j (by rw [<- hs.nx];exact hj),fun j hj=>hm.fresh j (by rw [<- hs.nx];exact hj),hm.ice,fun j B b hj hB=>hm.dis j B b hj (by rw [<- hs.at'];exact hB)⟩,yO1 _ rfl hs.nx⟩
  split at h
  ·exact gen (fun _ _=>True) h fun ρ X hX=>by cases hX;exact⟨_,_,_,rfl,Nat.le_refl _⟩
  ·rename_i i' off l cp
   cases hl:Nat.ble l cp with
   | false=>rw [hl] at h;cases h
   | true =>
    rw [hl,cond_true] at h
    exact gen (fun _ _=>True) h fun ρ X hX=>by cases hX;exact⟨_,_,_,rfl,Nat.le_of_ble_eq_true hl⟩
  ·exact gen (fun _ _=>True) h fun ρ X hX=>by
    cases hX with
    | so hr hl=>exact⟨_,_,_,rfl,by omega⟩
  ·exact gen (fun _ _=>True) h fun ρ X hX=>by cases hX;exact⟨_,_,_,rfl,Nat.zero_le _⟩
  ·cases h
 | false =>
  rw [hn0,cond_false] at h
  have hnpos:0 < n:=Nat.pos_of_ne_zero fun he=>by rw [he] at hn0;cases hn0
  cases hcd:Nat.blt i.bytes 4096&&news.all scal with
  | false=>rw [hcd] at h;cases h
  | true =>
   rw [hcd,cond_true] at h
   simp only [Bool.and_eq_true,blt_iff] at hcd
   obtain⟨hby,hsc⟩:=hcd
   have hmi:∀ {ρ:Ren} {w:World} {T N:Nat},MI ρ w m T N->MI ρ w m1 T N:=fun hm =>
    ⟨fun j B hj hB=>hm.mem j B hj (by rw [<- hs.at'];exact hB),fun j k B C hj hk hB hC=>hm.inj j k B C hj hk (by rw [<- hs.at'];exact hB) (by rw [<- hs.at'];exact hC),fun j hj=>by rw [hs.at'];exact hm.wf j (by rw [<- hs.nx];exact hj),fun j hj=>hm.fresh j (by rw [<- hs.nx];exact hj),hm.ice,fun j B b hj hB=>hm.dis j B b hj (by rw [<- hs.at'];exact hB)⟩
   split at h
   ·cases hlt:Nat.blt n 1048576 with
    | false=>rw [hlt] at h;cases h
    | true =>
     rw [hlt,cond_true,zD2,zE8] at h
     rw [blt_iff] at hlt
     refine⟨_,_,h,zC0 (hs.asS.trans (zH5 _ _)) fun ρ w T N a hT hN hv hm=>?_⟩
     obtain⟨X,Y,hXY,h1,h2⟩:=hv.map2
     cases h1
     obtain⟨V,hV,hsrc⟩:=hs.src hk (fun j hj=>hT j ((zH5 m1 _).tch j hj)) h2 hm hsc
     have hnb:n*i.bytes<=1048576*4096:=Nat.mul_le_mul (by omega) (by omega)
     have hrun:=run_append_grow_src (P:=P) w t tx o.type e i z ht hi hiz none 0 0 [] (by simpa using run_firstCells_none (P:=P) w.drew i.size 0 0 0) Y n V hsrc (by omega) (by omega) (growslice_fits (by omega) (by simp;omega))
     simp only [Nat.zero_add,List.nil_append] at hrun
     obtain⟨g1,g2⟩:=xA8 (e:=e) (hmi hm) hN hV hs.len hzz (grownCap_le w n 0 e)
     exact⟨_,_,_,runs hXY hrun,VR.so0 (upd_same _ _ _) (grownCap_le w n 0 e),g1,zY8 g2 hs.nx fun j B hj=>by rw [<- hs.at'];exact hj⟩
   ·rename_i j off len cap
    cases hlt:Nat.blt (len+n) 1048576 with
    | false=>rw [hlt] at h;cases h
    | true =>
     rw [hlt,cond_true] at h
     rw [blt_iff] at hlt
     cases hroom:Nat.ble (len+n) cap with
     | true =>
      rw [hroom,cond_true] at h
      have hroom':=Nat.le_of_ble_eq_true hroom
      unfold wrK at h
      obtain⟨B,hB,h⟩:=zD0 h
      obtain⟨ct,esz',opn⟩:=B
      simp only [zD2] at h
      obtain⟨cs,hlay,h,_⟩:=zO9 h
      rw [zT9] at h
      refine⟨_,_,h,zC0 (hs.asS.trans (zS2 hB)) fun ρ w T N a hT hN hv hm=>?_⟩
      obtain⟨X,Y,hXY,h1,h2⟩:=hv.map2
      cases h1 with
      | sl _ _ hr =>
       rename_i b sh K
       obtain⟨V,hV,hsrc⟩:=hs.src hk (fun j hj=>hT j ((zS2 hB).tch j hj)) h2 hm hsc
       obtain⟨k1,k2,k3,k4⟩:=yG3 (hmi hm) (hT j (wC6 _ _ _)) hB hr hlay hV
       have hrun:=run_append_room_src (P:=P) w t tx o.type e i ht hi b (sh+off) len cap Y n V hsrc hroom' (by simpa [Nat.add_assoc] using k1) (by simpa [Nat.add_assoc] using k2)
       rw [Nat.add_assoc sh off] at hrun
       exact⟨_,_,_,runs hXY hrun,VR.sl _ _ hr,k3,zY8 k4 hs.nx fun j B hj=>by rw [<- hs.at'];exact hj⟩
     | false =>
      rw [hroom,cond_false] at h
      have hroom':cap < len+n:=by
       rcases Nat.lt_or_ge cap (len+n) with h5 | h5
       ·exact h5
       ·rw [Nat.ble_eq_true_of_le h5] at hroom;cases hroom
      obtain⟨B,hB,h⟩:=zD0 h
      obtain⟨olds,hol,hoc,h⟩:=zG3 h
      simp only [zD2,zE8] at h
      refine⟨_,_,h,zC0 (hs.asS.trans ((zE4 m1 j).trans (zH5 _ _))) fun ρ w T N a hT hN hv hm=>?_⟩
      obtain⟨X,Y,hXY,h1,h2⟩:=hv.map2
      cases h1 with
      | sl _ _ hr =>
       rename_i b sh K
       obtain⟨V,hV,hsrc⟩:=hs.src hk (fun q hq=>hT q (((zE4 m1 j).trans (zH5 _ _)).tch q hq)) h2 hm hsc
       have hTj:T.testBit j=true:=hT j ((zH5 (m1.touch j) _).tch j (bit_or.2 (.inr rfl)))
       obtain⟨O,hO,hof⟩:=zV9 (P:=P) (l:=len) (c:=cap) ((hmi hm).mem j B hTj hB) hr hol hoc
       have hhold:=hof len w.drew (Nat.le_refl _) rfl
       rw [List.take_of_length_le (by rw [<- hO.1,hol];exact Nat.le_refl _)] at hhold
       have hnb:(len+n)*i.bytes<=1048576*4096:=Nat.mul_le_mul (by omega) (by omega)
       have hrun:=run_append_grow_src (P:=P) w t tx o.type e i z ht hi hiz (some ⟨b,sh+off,none⟩) len cap O hhold Y n V hsrc hroom' (by omega) (growslice_fits hroom' (by omega))
       obtain⟨g1,g2⟩:=xA8 (e:=e) (m:=m1.touch j) (zH8 (hmi hm) j) hN (hO.append hV) (by rw [List.length_append,hol,hs.len,Nat.add_mul]) hzz (grownCap_le w (len+n) cap e)
       exact⟨_,_,_,runs hXY hrun,VR.so0 (upd_same _ _ _) (grownCap_le w (len+n) cap e),g1,zY8 g2 hs.nx fun q B hq=>by rw [<- hs.at'];exact hq⟩
   ·rename_i j e' off len
    cases hcd2:Nat.beq e' i.size&&Nat.blt (len+n) 1048576 with
    | false=>rw [hcd2] at h;cases h
    | true =>
     rw [hcd2,cond_true] at h
     simp only [Bool.and_eq_true,blt_iff] at hcd2
     obtain⟨hee,hlt⟩:=hcd2
     obtain rfl:=beqN.1 hee
     obtain⟨B,hB,h⟩:=zD0 h
     cases hcd3:Nat.beq B.cells.length ((off+len)*i.size)&&B.opn&&Nat.beq B.esz i.size with
     | false=>rw [hcd3] at h;cases h
     | true =>
      rw [hcd3,cond_true] at h
      simp only [Bool.and_eq_true] at hcd3
      obtain⟨⟨hbl,hop⟩,hbe⟩:=hcd3
      have hbl':=beqN.1 hbl
      have hbe':=beqN.1 hbe
      obtain⟨olds,hol,hoc,h⟩:=zG3 h
      simp only [zD2,yO0,zE8] at h
      refine⟨_,_,h,zC0 (hs.asS.trans ((zE4 m1 j).trans ((yF4 _ j).trans (zH5 _ _)))) fun ρ w T N a hT hN hv hm=>?_⟩
      obtain⟨X,Y,hXY,h1,h2⟩:=hv.map2
      cases h1 with
      | so hr hlk =>
       rename_i b sh K
       obtain⟨V,hV,hsrc⟩:=hs.src hk (fun q hq=>hT q (((zE4 m1 j).trans ((yF4 _ j).trans (zH5 _ _))).tch q hq)) h2 hm hsc
       have hTj:T.testBit j=true:=hT j ((zH5 _ _).tch j ((yF4 _ j).tch j (bit_or.2 (.inr rfl))))
       obtain⟨O,hO,hof⟩:=zV9 (P:=P) (l:=len) (c:=K - off) ((hmi hm).mem j B hTj hB) hr hol hoc
       have hOl:O.length=len*i.size:=by rw [<- hO.1,hol]
       have hVl:V.length=n*i.size:=by rw [<- hV.1,hs.len]
       by_cases hroom:len+n<=K - off
       ·obtain⟨b',sh',K',c0,e0,fz,g1,g2,g3,g4,g5⟩:=(hmi hm).mem j B hTj hB
        rw [hr] at g1
        cases g1
        have hcs:=(g5 hop).2
        rw [hbe'] at hcs
        have hKm:(off+(len+n))*i.size<=K*i.size:=Nat.mul_le_mul_right _ (by omega)
        rw [Nat.add_mul,Nat.add_mul] at hKm
        have hfit:sh+off*i.size+len*i.size+V.length<=c0.size:=by omega
        have hrun:=run_append_room_src (P:=P) w t tx o.type e i ht hi b (sh+off*i.size) len (K - off) Y n V hsrc hroom
         (fun q hq=>by rw [zH3 g2,Array.getElem?_eq_getElem (by omega)];rfl) (fun q hq=>zH0 g2 (g3 _ (.inl (by omega))))
        obtain⟨s1,s2,c',s3,s4,s5,s6⟩:=zD5 V (sh+off*i.size+len*i.size) w g2 hfit
        have hle:=yR7 (i:=(m1.touch j).nx) (b,sh+off*i.size,K - off) ((hmi hm).fresh _ (Nat.le_refl _) hN)
        have hmr:MR (ρ.upd (m1.touch j).nx (b,sh+off*i.size,K - off)) (w.setCells b (sh+off*i.size+len*i.size) V).heap (m1.touch j).nx (.raw (olds++news) i.size true):=by
         refine⟨b,_,_,c',e0,fz,upd_same _ _ _,s3,by rw [s4];exact fun o ho=>g3 o (ho.imp id fun h=>by rw [hbe'];exact h),fun q xx hx=>?_,fun _=>⟨?_,?_⟩⟩
         ·replace hx:(olds++news)[q]?=some xx:=hx
          rw [List.getElem?_append] at hx
          split at hx
          ·rename_i hq
           obtain⟨x',hx1,hx2⟩:=hoc q (by omega)
           rw [hx2] at hx
           cases hx
           obtain⟨yy,hy1,hy2⟩:=g4 _ _ hx1
           exact⟨yy,by rw [s6 _ (.inl (by omega)),Nat.add_assoc];exact hy1,hy2.mono hle⟩
          ·rename_i hq
           obtain⟨yy,hy1,hy2⟩:=hV.get hx
           have hqq:q - olds.length < V.length:=(List.getElem?_eq_some_iff.1 hy1).1
           refine⟨yy,?_,hy2.mono hle⟩
           rw [show sh+off*i.size+q=sh+off*i.size+len*i.size+(q - olds.length) by omega,s5 _ hqq]
           exact hy1
         ·have:(len+n)*i.size<=(K - off)*i.size:=Nat.mul_le_mul_right _ hroom
          show (olds++news).length<=_
          simp only [List.length_append,hol,hs.len,<- Nat.add_mul]
          exact this
         ·rw [s4]
          have h9:(K - off)*i.size=K*i.size - off*i.size:=Nat.sub_mul _ _ _
          show sh+off*i.size+(K - off)*i.size<=c0.size
          omega
        obtain⟨q1,q2⟩:=vI3 (m:=m1.touch j) (zH8 (hmi hm) j) hN hTj hB (by simp [Ren.blk,hr]) s1 s2 hmr (zD9 _ _ _ _)
        exact⟨_,_,_,runs hXY hrun,VR.sos (upd_same _ _ _) hroom,q1,zY8 q2 hs.nx fun q B hq=>by rw [<- hs.at'];exact hq⟩
       ·have hhold:=hof len w.drew (Nat.le_refl _) rfl
        rw [List.take_of_length_le (by omega)] at hhold
        have hnb:(len+n)*i.bytes<=1048576*4096:=Nat.mul_le_mul (by omega) (by omega)
        have hrun:=run_append_grow_src (P:=P) w t tx o.type e i z ht hi hiz (some ⟨b,sh+off*i.size,none⟩) len (K - off) O hhold Y n V hsrc (by omega) (by omega) (growslice_fits (by omega) (by omega))
        obtain⟨g1,g2⟩:=xA8 (e:=e) (m:=(m1.touch j).del j) (uS2 (zH8 (hmi hm) j) j) hN (hO.append hV) (by rw [List.length_append,hol,hs.len,Nat.add_mul]) hzz (grownCap_le w (len+n) (K - off) e)
        exact⟨_,_,_,runs hXY hrun,VR.so0 (upd_same _ _ _) (grownCap_le w (len+n) (K - off) e),g1,zY8 g2 hs.nx fun q B hq=>by
         rw [zT3] at hq
         split at hq
         ·cases hq
         ·rw [<- hs.at'];exact hq⟩
   ·cases h
end
section
variable {P:Program} {o:Oper} {ops:List Operand} {vs:List AV} {m m':Mem} {r:AV}
theorem SrcA.mi {esz n:Nat} {y:AV} {news:List AV} {m1:Mem} (hs:SrcA P esz y n news m m1) {ρ:Ren} {w:World} {T N:Nat} (hm:MI ρ w m T N):MI ρ w m1 T N :=
 ⟨fun j B hj hB=>hm.mem j B hj (by rw [<- hs.at'];exact hB),fun j k B C hj hk hB hC=>hm.inj j k B C hj hk (by rw [<- hs.at'];exact hB) (by rw [<- hs.at'];exact hC),fun j hj=>by rw [hs.at'];exact hm.wf j (by rw [<- hs.nx];exact hj),fun j hj=>hm.fresh j (by rw [<- hs.nx];exact hj),hm.ice,fun j B b hj hB=>hm.dis j B b hj (by rw [<- hs.at'];exact hB)⟩
theorem xS1 {β:Type} {i off:Nat} {vs:List AV} {k:Mem->Option β} {res:β} (h:wrK i off vs m k=some res) :
  ∃ B cs,m.at i=some B/\Laid off B.cells vs cs/\k ((m.touch i).put i (.raw cs B.esz B.opn))=some res:=by
 unfold wrK at h
 have hh:=zD0 h
 clear h
 obtain⟨B,hB,h⟩:=hh
 obtain⟨ct,esz,opn⟩:=B
 simp only [zD2] at h
 obtain⟨cs,hl,h,_⟩:=zO9 h
 rw [zT9] at h
 exact⟨_,cs,hB,hl,h⟩
theorem yQ7 (z:Array Value) (n:Nat):Builtin.zeroCells z n=madeCells z (n*z.size):=rfl
theorem qG2 {c:Call} {t e:TypeId} (ht:P.underlying t=some (.slice e)) (hat:c.argTypes[0]?=some t) {i:TypeInfo} {z:Value} (hi:P.info? e=some i) (hz:i.zero=some z) {w:World} {b off l cp:Nat} {ty:TypeId} (hl:l≠0)
  (hc:∀ j,j < (madeCells z.cells (l*z.cells.size)).toList.length->(w.cell? ⟨b,off+j,none⟩).isSome=true) (hf:∀ j,j < (madeCells z.cells (l*z.cells.size)).toList.length->w.frozen? ⟨b,off+j,none⟩=false)
  (h1:∀ u∈(madeCells z.cells (l*z.cells.size)).toList,u.oneCell'=true) :
  (Builtin.clear_ c.argTypes ty #[.slice (some ⟨b,off,none⟩) l cp]).run P w=.ok (.tuple #[]) (w.setCells b off (madeCells z.cells (l*z.cells.size)).toList):=by
 have:=run_storeCells_cells (P:=P) b off (madeCells z.cells (l*z.cells.size)).toList 0 w (by simpa using hc) (by simpa using hf) h1
 simp only [Nat.add_zero] at this
 obtain⟨l,rfl⟩:∃ l',l=l'+1:=⟨l - 1,by omega⟩
 simp [Builtin.clear_,hat,run_underlying ht,zeroValue,typeInfo,hi,hz,yQ7,this]
theorem vI4 {ρ:Ren} {zs:List AV} {z:Value} {n size:Nat} (hz:VRs ρ zs z.cells.toList) (hs:zs.length=size):VRs ρ (repA zs n) (madeCells z.cells (n*size)).toList:=by
 refine⟨by rw [wF2,hs];simp [size_madeCells],fun j x y hx hy=>?_⟩
 obtain⟨y',h1,h2⟩:=yZ5 hz hs j x hx
 have:(madeCells z.cells (n*size))[j]?=some y:=by simpa using hy
 rw [this] at h1
 cases h1
 exact h2
theorem uC3 {zs:List AV} {p:AV->Bool} (h:zs.all p=true) (n:Nat):(repA zs n).all p=true:=by
 induction n with
 | zero=>rfl
 | succ n ih=>simp [repA,h,ih]
theorem uL4 {c:Call} {t e:TypeId} {zs:List AV} {x:AV} {β:Type} {k:AV->Mem->Option β} {res:β} (ho:o.op=.call c) (hb:c.callee=.builtin .clear) (hat:c.argTypes[0]?=some t) (ht:P.underlying t=some (.slice e))
  (hz:zI8 P e=some zs) (h:clrK zs x m k=some res):∃ r m',k r m'=some res/\Good P o c.args.toList [x] m r m':=by
 have runs:∀ {a:Act} {w w':World} {X v:Value},c.args.toList.map a.eval=[X]->(Builtin.clear_ c.argTypes o.type #[X]).run P w=.ok v w'->(execOp a.eval o).run P w=.ok (.value v) w':=by
  intro a w w' X v hx hr
  rw [zP3 ho hb,zP4 hx]
  simp [builtin,hr]
 unfold clrK at h
 cases hsc:zs.all scal with
 | false=>rw [hsc] at h;cases h
 | true =>
  rw [hsc,cond_true] at h
  have nothing:(∀ (ρ:Ren) X w,VR ρ x X->(Builtin.clear_ c.argTypes o.type #[X]).run P w=.ok (.tuple #[]) w)->k (.tup []) m=some res->∃ r m',k r m'=some res/\Good P o c.args.toList [x] m r m':=by
   intro hx h
   refine⟨_,m,h,zC0 (AS.refl m) fun ρ w T N a _ _ hv hm=>?_⟩
   obtain⟨X,hX,h1⟩:=hv.map1
   exact⟨ρ,w,_,runs hX (hx ρ X w h1),VRs.nil.tup,hm,CS.refl ρ w m⟩
  have write:∀ i off len,wrK i off (repA zs len) m (fun m=>k (.tup []) m)=some res->len≠0->(∀ (ρ:Ren) X,VR ρ x X->∃ b sh K cp,ρ i=some (b,sh,K)/\X=.slice (some ⟨b,sh+off,none⟩) len cp) ->
    ∃ r m',k r m'=some res/\Good P o c.args.toList [x] m r m':=by
   intro i off len h hne hx
   obtain⟨B,cs,hB,hl,h⟩:=xS1 h
   refine⟨_,_,h,zC0 (zS2 hB) fun ρ w T N a hT _ hv hm=>?_⟩
   obtain⟨X,hX,h1⟩:=hv.map1
   obtain⟨b,sh,K,cp,hr,rfl⟩:=hx ρ X h1
   obtain⟨ti,z,hti,hiz,hzv⟩:=zI7 (ρ:=ρ) hz
   have hzl:zs.length=z.cells.size:=by rw [hzv.1];simp
   have hv2:=vI4 (n:=len) hzv hzl
   obtain⟨k1,k2,k3,k4⟩:=yG3 hm (hT i (wC6 _ _ _)) hB hr hl hv2
   exact⟨_,_,_,runs hX (qG2 ht hat hti hiz hne k1 k2 (zU8 hv2 (uC3 hsc len))),VRs.nil.tup,k3,k4⟩
  split at h
  ·exact nothing (fun ρ X w hX=>by cases hX;simp [Builtin.clear_,hat,run_underlying ht]) h
  ·exact nothing (fun ρ X w hX=>by cases hX;simp [Builtin.clear_,hat,run_underlying ht]) h
  ·rename_i i off len cap
   cases h0:Nat.beq len 0 with
   | true =>
    rw [h0,cond_true] at h
    obtain rfl:=beqN.1 h0
    exact nothing (fun ρ X w hX=>by cases hX;simp [Builtin.clear_,hat,run_underlying ht]) h
   | false =>
    rw [h0,cond_false] at h
    exact write i off len h (fun he=>by rw [he] at h0;cases h0) fun ρ X hX=>by
     cases hX with
     | sl _ _ hr=>exact⟨_,_,_,_,hr,rfl⟩
  ·rename_i i e' off len
   cases h0:Nat.beq len 0 with
   | true =>
    rw [h0,cond_true] at h
    obtain rfl:=beqN.1 h0
    exact nothing (fun ρ X w hX=>by cases hX;simp [Builtin.clear_,hat,run_underlying ht]) h
   | false =>
    rw [h0,cond_false] at h
    cases he:Nat.beq e' zs.length with
    | false=>rw [he] at h;cases h
    | true =>
     rw [he,cond_true] at h
     exact write i (off*e') len h (fun he=>by rw [he] at h0;cases h0) fun ρ X hX=>by
      cases hX with
      | so hr _=>exact⟨_,_,_,_,hr,rfl⟩
  ·cases h
theorem uL2 {c:Call} {t e:TypeId} {esz:Nat} {x y:AV} {β:Type} {k:AV->Mem->Option β} {res:β} (ho:o.op=.call c) (hb:c.callee=.builtin .copy) (hat:c.argTypes[0]?=some t) (ht:P.underlying t=some (.slice e))
  (hsz:szOf P e=some esz) (h:cpyK esz x y m k=some res):∃ r m',k r m'=some res/\Good P o c.args.toList [x,y] m r m':=by
 have runs:∀ {a:Act} {w w':World} {X Y v:Value},c.args.toList.map a.eval=[X,Y]->(Builtin.copy_ c.argTypes o.type #[X,Y]).run P w=.ok v w'->(execOp a.eval o).run P w=.ok (.value v) w':=by
  intro a w w' X Y v hx hr
  rw [zP3 ho hb,zP4 hx]
  simp [builtin,hr]
 unfold cpyK at h
 split at h
 ·cases h
 ·rename_i dl hdl
  have hh:=yW8 (P:=P) h
  clear h
  obtain⟨n0,news0,m1,h,hs⟩:=hh
  rw [zC8] at h
  have hh:=zG3 h
  clear h
  obtain⟨news,hnl,hnc,h⟩:=hh
  have hlenX:∀ (ρ:Ren) X,VR ρ x X->∃ b cp,X=.slice b dl cp:=by
   intro ρ X hX
   cases hX<;>simp only [lenA] at hdl<;>first | (cases hdl;done) | (cases hdl;exact⟨_,_,rfl⟩)
  have src:∀ {ρ:Ren} {w:World} {T N:Nat} {Y:Value},(∀ i,m1.tch.testBit i=true->T.testBit i=true)->VR ρ y Y->MI ρ w m T N->∃ V:List Value,VRs ρ news V/\(Builtin.lenOf Y).run P w=.ok n0 w/\(Builtin.firstCells esz (Nat.min n0 dl) Y).run P w=.ok V.toArray w:=by
   intro ρ w T N Y hT hY hm
   obtain⟨V,hV,hl,hf⟩:=hs.run ρ w T N Y hT hY hm
   refine⟨V.take (Nat.min n0 dl*esz),?_,hl w,hf _ w (Nat.min_le_left _ _) rfl⟩
   have:=xY3 (off:=0) hV hnl hnc
   simpa using this
  cases hn0:Nat.beq (Nat.min n0 dl) 0 with
  | true =>
   rw [hn0,cond_true] at h
   have hz:=beqN.1 hn0
   refine⟨_,_,h,zC0 hs.asS fun ρ w T N a hT _ hv hm=>?_⟩
   obtain⟨X,Y,hXY,h1,h2⟩:=hv.map2
   obtain⟨b,cp,rfl⟩:=hlenX ρ X h1
   obtain⟨V,hV,hl,hf⟩:=src hT h2 hm
   have hV0:V=[]:=List.eq_nil_of_length_eq_zero (by rw [<- hV.1,hnl,hz];simp)
   rw [hV0,hz] at hf
   refine⟨ρ,w,.int .i64 0,runs hXY ?_,.int _ _,hs.mi hm,yO1 _ rfl hs.nx⟩
   cases b<;>simp [Builtin.copy_,hat,run_underlying ht,hl,hz,zE1 hsz,hf,storeCells,goInt]
  | false =>
   rw [hn0,cond_false] at h
   cases hsc:news.all scal with
   | false=>rw [hsc] at h;cases h
   | true =>
    rw [hsc,cond_true] at h
    have write:∀ i off,wrK i off news m1 (fun m=>k (.int .i64 (.ofNat (Nat.min n0 dl))) m)=some res->(∀ (ρ:Ren) X,VR ρ x X->∃ b sh K cp,ρ i=some (b,sh,K)/\X=.slice (some ⟨b,sh+off,none⟩) dl cp) ->
      ∃ r m',k r m'=some res/\Good P o c.args.toList [x,y] m r m':=by
     intro i off h hx
     obtain⟨B,cs,hB,hl,h⟩:=xS1 h
     refine⟨_,_,h,zC0 (hs.asS.trans (zS2 hB)) fun ρ w T N a hT _ hv hm=>?_⟩
     obtain⟨X,Y,hXY,h1,h2⟩:=hv.map2
     obtain⟨b,sh,K,cp,hr,rfl⟩:=hx ρ X h1
     obtain⟨V,hV,hlY,hf⟩:=src (fun j hj=>hT j ((zS2 hB).tch j hj)) h2 hm
     obtain⟨k1,k2,k3,k4⟩:=yG3 (hs.mi hm) (hT i (wC6 _ _ _)) hB hr hl hV
     have hst:=run_storeCells_cells (P:=P) b (sh+off) V 0 w (by simpa using k1) (by simpa using k2) (zU8 hV hsc)
     simp only [Nat.add_zero] at hst
     refine⟨_,_,.int .i64 (Nat.min n0 dl:Nat),runs hXY ?_,.int _ _,k3,zY8 k4 hs.nx fun q B hq=>by rw [<- hs.at'];exact hq⟩
     have hf':(Builtin.firstCells esz (n0.min dl) Y).run P w=.ok V.toArray w:=hf
     simp only [Builtin.copy_,hat,Sem.run_bind,run_underlying ht,Result.andThen_ok,List.getElem?_toArray,List.getElem?_cons_zero,List.getElem?_cons_succ,hlY,zE1 hsz,hf',hst]
     simp [goInt]
    split at h
    ·exact write _ _ h fun ρ X hX=>by
      cases hX with
      | sl _ _ hr =>
       simp only [lenA] at hdl
       cases hdl
       exact⟨_,_,_,_,hr,rfl⟩
    ·rename_i i e' off len
     cases he:Nat.beq e' esz with
     | false=>rw [he] at h;cases h
     | true =>
      rw [he,cond_true] at h
      obtain rfl:=beqN.1 he
      exact write _ _ h fun ρ X hX=>by
       cases hX with
       | so hr _ =>
        simp only [lenA] at hdl
        cases hdl
        exact⟨_,_,_,_,hr,rfl⟩
    ·cases h
theorem wU8 {β:Type} {cs:List AV} {k:List UInt8->Option β} {res:β} (h:xR0 cs k=some res):∃ ns:List Nat,cs=ns.map (fun n=>AV.int .u8 (.ofNat n))/\k (ns.map UInt8.ofNat)=some res:=by
 induction cs generalizing k with
 | nil=>exact⟨[],rfl,h⟩
 | cons c cs ih =>
  unfold xR0 at h
  split at h
  ·rename_i he;cases he
  ·rename_i n xs he
   cases he
   rw [zC8] at h
   obtain⟨ns,rfl,h2⟩:=ih h
   exact⟨n::ns,rfl,h2⟩
  ·cases h
theorem vP0 (ns:List Int) (A:Array UInt8):ns.foldl (fun r n=>r.push (UInt8.ofNat n.toNat)) (⟨A⟩:ByteArray)=⟨A++(ns.map fun n=>UInt8.ofNat n.toNat).toArray⟩:=by
 induction ns generalizing A with
 | nil=>simp
 | cons n ns ih =>
  rw [List.foldl_cons]
  have:(⟨A⟩:ByteArray).push (UInt8.ofNat n.toNat)=⟨A.push (UInt8.ofNat n.toNat)⟩:=rfl
  rw [this,ih]
  simp
theorem vN9 {s d e:TypeId} {x:Operand} {v:AV} {β:Type} {k:AV->Mem->Option β} {res:β} (ho:o.op=.convert s d x) (hs0:P.underlying s=some (.slice e)) (he:P.underlying e=some (.int .u8)) (hd:P.underlying d=some .string)
  (h:uN2 v m k=some res):∃ r m',k r m'=some res/\Good P o [x] [v] m r m':=by
 have gen:srcK 1 v m (fun _ cs m=>xR0 cs fun bs=>k (.str bs) m)=some res->(∀ (ρ:Ren) X,VR ρ v X->∃ a l cp,X=.slice (some a) l cp)->∃ r m',k r m'=some res/\Good P o [x] [v] m r m':=by
  intro h hx
  have hh:=yW8 (P:=P) h
  clear h
  obtain⟨n,news,m1,h,hs⟩:=hh
  have hh:=wU8 h
  clear h
  obtain⟨ns,rfl,h⟩:=hh
  refine⟨_,_,h,zC0 hs.asS fun ρ w T N a hT _ hv hm=>?_⟩
  have h1:=VRs.one hv
  obtain⟨V,hV,hl,hf⟩:=hs.run ρ w T N _ hT h1 hm
  obtain⟨ad,l,cp,hX⟩:=hx ρ _ h1
  rw [hX] at hl hf
  have hln:l=n:=by have:=hl w;simp [Builtin.lenOf] at this;exact this
  subst hln
  have hlen:ns.length=l:=by have:=hs.len;simpa using this
  have hVe:V=(ns.map Int.ofNat).map (Value.int .u8):=by
   apply List.ext_getElem?
   intro j
   simp only [List.getElem?_map,Option.map_map]
   cases hj:ns[j]? with
   | none =>
    have h5:ns.length<=j:=List.getElem?_eq_none_iff.1 hj
    have h6:=hV.1
    simp only [List.length_map] at h6
    rw [List.getElem?_eq_none (by omega)]
    rfl
   | some q =>
    obtain⟨y,hy,hyv⟩:=hV.get (j:=j) (x:=.int .u8 (.ofNat q)) (by simp [hj])
    cases hyv
    rw [hy]
    rfl
  have hload:(loadCells ad l).run P w=.ok ((ns.map Int.ofNat).map (Value.int .u8)).toArray w:=by
   have:=hf l w (Nat.le_refl _) rfl
   simp only [Builtin.firstCells,Nat.mul_one] at this
   rw [this,hVe,List.take_of_length_le (by simp [hlen])]
  refine⟨ρ,w,.string ⟨(ns.map UInt8.ofNat).toArray⟩,yldw (by simp only [execOp,ho]<;>rfl) ?_,.str _,hs.mi hm,yO1 _ rfl hs.nx⟩
  rw [hX,run_convert_bytes_string w s d e _ _ _ hs0 he hd,run_bytesToString w ad l cp _ hload]
  have:=vP0 (ns.map Int.ofNat) #[]
  have e0:(ByteArray.empty:ByteArray)=⟨#[]⟩:=rfl
  rw [e0,this]
  simp [List.map_map,Function.comp_def]
 unfold uN2 at h
 split at h
 ·refine⟨_,m,h,zC0 (AS.refl m) fun ρ w T N a _ _ hv hm=>?_⟩
  have h1:=VRs.one hv
  generalize hX:a.eval x=X at h1
  cases h1
  refine⟨ρ,w,.string ⟨#[]⟩,yldw (by simp only [execOp,ho]<;>rfl) ?_,.str [],hm,CS.refl ρ w m⟩
  rw [hX,run_convert_bytes_string w s d e _ _ _ hs0 he hd]
  rfl
 ·exact gen h fun ρ X hX=>by cases hX;exact⟨_,_,_,rfl⟩
 ·exact gen h fun ρ X hX=>by cases hX;exact⟨_,_,_,rfl⟩
 ·exact gen h fun ρ X hX=>by cases hX;exact⟨_,_,_,rfl⟩
 ·cases h
theorem uG8 (c:Array Value) (e:TypeId) (w:World):(markStringish ⟨w.heap.size,0,none⟩).run P (w.alloc (.cells c e))=.ok () (w.alloc (.cells c e (c.size,c.size+1))):=by
 have hs:(w.alloc (.cells c e)).shape? w.heap.size=some (e,c.size):=by
  simp only [World.shape?,heap_alloc_new]
 unfold markStringish
 rw [Sem.run_bind,run_shape,Result.andThen_ok,hs]
 show (freeze { block:=w.heap.size,off:=c.size } 1).run P _=_
 rw [run_freeze]
 congr 1
 unfold World.freeze World.alloc
 rw [if_neg (by decide)]
 congr 1
 apply Array.ext_getElem?
 intro i
 simp only [Array.getElem?_modify,Array.getElem?_push]
 by_cases hi:i=w.heap.size
 ·subst hi;simp
 ·rw [if_neg (fun he=>hi he.symm),if_neg hi,if_neg hi]
def zR1 (st:List UInt8) (n:Nat):Array Value:=(st.map fun b:UInt8=>Value.int .u8 (b.toNat:Int)).toArray++Array.replicate n (.int .u8 0)
theorem uN0 {w:World} {s d e:TypeId} {st:List UInt8} (hs0:P.underlying s=some .string) (hd:P.underlying d=some (.slice e)) (he:P.underlying e=some (.int .u8)) :
  (convert s d (.string ⟨st.toArray⟩)).run P w=.ok (.slice (some ⟨w.heap.size,0,none⟩) st.length (grownCap w st.length 0 e))
   (w.drew.alloc (.cells (zR1 st (grownCap w st.length 0 e - st.length)) e
    ((zR1 st (grownCap w st.length 0 e - st.length)).size,(zR1 st (grownCap w st.length 0 e - st.length)).size+1))):=by
 have hcq:(Question.appendCap st.length 0 e).cut (w.tape w.drawn (.appendCap st.length 0 e))=grownCap w st.length 0 e:=rfl
 have e0:(convert s d (.string ⟨st.toArray⟩)).run P w=(Conv.stringToBytes e ⟨st.toArray⟩).run P w:=by
  simp [convert,run_underlying hs0,run_underlying hd,run_underlying he]
 rw [e0]
 unfold Conv.stringToBytes
 rw [Sem.run_bind,run_choose]
 rw [if_neg (by simp [Question.forced]),size_mk,hcq,Result.andThen_ok]
 have e1:Array.map (fun b:UInt8=>Value.int .u8 (b.toNat:Int)) st.toArray=(st.map fun b:UInt8=>Value.int .u8 (b.toNat:Int)).toArray:=by simp
 have hnr:∀ c:Array Value,(newRow e c).run P { w with drawn:=w.drawn+1 }=.ok ⟨w.heap.size,0,none⟩ (w.drew.alloc (.cells c e)):=fun c=>rfl
 have hmk:=uG8 (P:=P) (zR1 st (grownCap w st.length 0 e - st.length)) e w.drew
 simp only [e1,Sem.run_bind,hnr,Result.andThen_ok]
 have hsz:w.drew.heap.size=w.heap.size:=rfl
 rw [hsz] at hmk
 have hb:(st.map fun b:UInt8=>Value.int .u8 (b.toNat:Int)).toArray++Array.replicate (grownCap w st.length 0 e - st.length) (.int .u8 0)=zR1 st (grownCap w st.length 0 e - st.length):=rfl
 rw [hb,hmk]
 rfl
theorem vN8 {s d e:TypeId} {x:Operand} {v:AV} {β:Type} {k:AV->Mem->Option β} {res:β} (ho:o.op=.convert s d x) (hs0:P.underlying s=some .string) (hd:P.underlying d=some (.slice e)) (he:P.underlying e=some (.int .u8))
  (h:uN1 v m k=some res):∃ r m',k r m'=some res/\Good P o [x] [v] m r m':=by
 unfold uN1 at h
 split at h
 ·rename_i st
  rw [zD2,zE8] at h
  refine⟨_,_,h,zC0 (zH5 _ _) fun ρ w T N a _ hN hv hm=>?_⟩
  have h1:=VRs.one hv
  generalize hX:a.eval x=X at h1
  cases h1
  have hlen:st.length<=grownCap w st.length 0 e:=grownCap_le _ _ _ _
  have hrun:=uN0 (P:=P) (w:=w) (st:=st) hs0 hd he
  generalize hc:(zR1 st (grownCap w st.length 0 e - st.length))=c at hrun
  have hcs:c.size=grownCap w st.length 0 e:=by rw [<- hc];simp [zR1];omega
  obtain⟨h2,h3⟩:=zR7 (w':=w.drew.alloc (.cells c e (c.size,c.size+1))) (K:=grownCap w st.length 0 e) (esz:=1) (opn:=true)
   (cs:=st.map fun b=>.int .u8 (.ofNat b.toNat)) (c:=c) (e:=e) (fz:=(c.size,c.size+1)) hm hN rfl (fun o ho hh=>by have:=hh.1;simp only at this;omega) (fun j xx hx=>by
    simp only [List.getElem?_map,Option.map_eq_some_iff] at hx
    obtain⟨b,hb,rfl⟩:=hx
    have hj:=(List.getElem?_eq_some_iff.1 hb).1
    refine⟨.int .u8 b.toNat,?_,.int _ _⟩
    rw [<- hc,zR1,Array.getElem?_append_left (by simpa using hj)]
    simp [hb]) (fun _=>by simp [hcs];exact hlen)
  exact⟨_,_,.slice (some ⟨w.heap.size,0,none⟩) st.length (grownCap w st.length 0 e),yldw (by simp only [execOp,ho]<;>rfl) (by rw [hX];exact hrun),VR.so0 (upd_same _ _ _) hlen,h2,h3⟩
 ·cases h
end
end Go.Proofs.YtpccdcnjkknmkaaGreatDoor.Ev
