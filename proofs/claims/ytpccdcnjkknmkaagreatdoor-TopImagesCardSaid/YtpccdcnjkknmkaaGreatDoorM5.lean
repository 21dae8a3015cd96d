/- Texts of this proof, put together by program; each has its own remark. -/
import Derived.Test.YtpccdcnjkknmkaaGreatDoorProg
import Derived.Test.YtpccdcnjkknmkaaGreatDoorM1
import Derived.Test.YtpccdcnjkknmkaaGreatDoorM3
import Derived.Test.YtpccdcnjkknmkaaGreatDoorM4

namespace Go.Proofs.YtpccdcnjkknmkaaGreatDoor.Ev
open Go
def okS (n:Int):Bool:=eqI (subR 0 n).2 0
def neS (n:Int):Int:=(subR 0 n).1
theorem yK3 (n:Int):okS n=(bil.negZ n).isSome:=by
 unfold okS
 rw [zT7]
 cases bil.negZ n<;>rfl
theorem yI4 (n:Int):(subR 0 n).2=bif okS n then 0 else 7:=by
 unfold okS
 rw [zT7]
 cases bil.negZ n<;>rfl
theorem xL9 {n x:Int} (h:bil.negZ n=some x):neS n=x:=by
 unfold neS
 rw [zT7,h];rfl
def offN (l:List bil.Pt) (n:Nat):List bil.Pt:=l.set n { nP l n with net:=neS (nP l n).net }
def offX (l:List bil.Pt) (n:Nat):List bil.Pt:=(offN l n).set n { nP (offN l n) n with tax:=neS (nP (offN l n) n).tax }
def qJ7:List AV->Mem->Option (Bool × AV × T Blk × Nat)
 | [.sl 0 0 3 3],⟨.node (.node .nil (some ⟨.raw [.int .i64 a,.int .i64 b,.int .i64 c,.so 2 4 0 len],1,false⟩) .nil) (some ⟨.raw [.ptr 1 0,.ptr 1 1,.ptr 1 2],1,false⟩) (.node (.node .nil (some ⟨.ls .part l,4,true⟩) .nil) none .nil),3,0,0⟩ =>
  some (gI a&&(gI b&&gI c),i64 (bif okS a&&(okS b&&okS c) then 0 else 7),
   .node (.node .nil (some ⟨.raw [i64 (bif okS a then neS a else a),i64 (bif okS a&&okS b then neS b else b),i64 (bif okS a&&(okS b&&okS c) then neS c else c),.so 2 4 0 len],1,false⟩) .nil) (some ⟨.raw [.ptr 1 0,.ptr 1 1,.ptr 1 2],1,false⟩) (.node (.node .nil (some ⟨.ls .part l,4,true⟩) .nil) none .nil),3)
 | [.sl 0 0 2 2],⟨.node (.node .nil (some ⟨.ls .part l,4,true⟩) .nil) (some ⟨.raw [.tp 1 n 4 2,.tp 1 n' 4 3],1,false⟩) .nil,2,0,0⟩ =>
  some (Nat.beq n n'&&(Nat.blt n l.length&&(gI (nP l n).net&&gI (nP l n).tax)),i64 (bif okS (nP l n).net&&okS (nP l n).tax then 0 else 7),
   .node (.node .nil (some ⟨.ls .part (bif okS (nP l n).net then bif okS (nP l n).tax then offX l n else offN l n else l),4,true⟩) .nil) (some ⟨.raw [.tp 1 n 4 2,.tp 1 n' 4 3],1,false⟩) .nil,2)
 | _,_=>none
def c47:ClS:=addN 147 qJ7 c46
theorem vH9 {l:List bil.Pt} {n:Nat} (h:n < l.length):(offN l n).length=l.length/\nP (offN l n) n={ nP l n with net:=neS (nP l n).net }:=by
 have hlen:(offN l n).length=l.length:=by unfold offN;rw [List.length_set]
 refine⟨hlen,?_⟩
 show nth (t:=.part) (offN l n) n=_
 rw [zF7 (t:=.part) (by rw [hlen];exact h)]
 unfold offN
 rw [List.getElem_set_self]
theorem snd47:zA1 Tryz.prog c47:=zE5 snd46 mix qQ0 qJ7 fun xs m r h1 n1 h=>by
 have g0:gI 0=true:=by decide
 unfold qJ7 at h
 split at h<;>first | (cases h;done) | skip
 ·rename_i a b c len l
  simp only [Option.some.injEq,Prod.mk.injEq,Bool.and_eq_true] at h
  obtain⟨⟨ga,gb,gc⟩,rfl,rfl,rfl⟩:=h
  refine⟨rfl,5,?_⟩
  let X:Int->Int->Int->Int->Option (AV × T Blk × Nat):=fun e a b c=>some (i64 e,.node (.node .nil (some ⟨.raw [i64 a,i64 b,i64 c,.so 2 4 0 len],1,false⟩) .nil) (some ⟨.raw [.ptr 1 0,.ptr 1 1,.ptr 1 2],1,false⟩) (.node (.node .nil (some ⟨.ls .part l,4,true⟩) .nil) none .nil),3)
  have e:zC4 c46 5 s_off [.sl 0 0 3 3] ⟨.node (.node .nil (some ⟨.raw [i64 a,i64 b,i64 c,.so 2 4 0 len],1,false⟩) .nil) (some ⟨.raw [.ptr 1 0,.ptr 1 1,.ptr 1 2],1,false⟩) (.node (.node .nil (some ⟨.ls .part l,4,true⟩) .nil) none .nil),3,0,0⟩ (fun r m=>zD1 3 r m fun r m=>some (r,m.h,m.nx)) =
   bif gI 0&&gI a then bif !eqI (subR 0 a).2 0 then X (subR 0 a).2 a b c else bif gI 0&&gI b then bif !eqI (subR 0 b).2 0 then X (subR 0 b).2 (subR 0 a).1 b c else bif gI 0&&gI c then bif !eqI (subR 0 c).2 0 then X (subR 0 c).2 (subR 0 a).1 (subR 0 b).1 c else X 0 (subR 0 a).1 (subR 0 b).1 (subR 0 c).1 else none else none else none:=by kernel_rfl
  refine e.trans ?_
  rw [g0,ga,gb,gc,yI4 a,yI4 b,yI4 c]
  show _=X (bif okS a&&(okS b&&okS c) then 0 else 7) (bif okS a then neS a else a) (bif okS a&&okS b then neS b else b) (bif okS a&&(okS b&&okS c) then neS c else c)
  cases okS a<;>cases okS b<;>cases okS c<;>rfl
 ·rename_i l n n'
  simp only [Option.some.injEq,Prod.mk.injEq,Bool.and_eq_true,blt_iff] at h
  obtain⟨⟨hn,hlt,gn,gt⟩,rfl,rfl,rfl⟩:=h
  obtain rfl:=beqN.1 hn
  refine⟨rfl,4,?_⟩
  let X:Int->List bil.Pt->Option (AV × T Blk × Nat):=fun e l=>some (i64 e,.node (.node .nil (some ⟨.ls .part l,4,true⟩) .nil) (some ⟨.raw [.tp 1 n 4 2,.tp 1 n 4 3],1,false⟩) .nil,2)
  have e:zC4 c46 4 s_off [.sl 0 0 2 2] ⟨.node (.node .nil (some ⟨.ls .part l,4,true⟩) .nil) (some ⟨.raw [.tp 1 n 4 2,.tp 1 n 4 3],1,false⟩) .nil,2,0,0⟩ (fun r m=>zD1 2 r m fun r m=>some (r,m.h,m.nx)) =
   bif Nat.blt n l.length then bif gI 0&&gI (nP l n).net then bif !eqI (subR 0 (nP l n).net).2 0 then X (subR 0 (nP l n).net).2 l else bif Nat.blt n l.length then bif Nat.blt n (offN l n).length then bif gI 0&&gI (nP (offN l n) n).tax then
    bif !eqI (subR 0 (nP (offN l n) n).tax).2 0 then X (subR 0 (nP (offN l n) n).tax).2 (offN l n) else bif Nat.blt n (offN l n).length then X 0 (offX l n) else none else none else none else none else none else none:=by kernel_rfl
  refine e.trans ?_
  obtain⟨o1,o2⟩:=vH9 hlt
  rw [zA0 hlt,g0,gn,o1,zA0 hlt,o2]
  show (bif true then bif true&&true then bif !eqI (subR 0 (nP l n).net).2 0 then X (subR 0 (nP l n).net).2 l else bif true then bif true then bif true&&gI (nP l n).tax then bif !eqI (subR 0 (nP l n).tax).2 0 then X (subR 0 (nP l n).tax).2 (offN l n) else bif true then X 0 (offX l n) else none else none else none else none else none else none)=_
  rw [gt,yI4,yI4]
  show _=X (bif okS (nP l n).net&&okS (nP l n).tax then 0 else 7) (bif okS (nP l n).net then bif okS (nP l n).tax then offX l n else offN l n else l)
  cases okS (nP l n).net<;>cases okS (nP l n).tax<;>rfl
def gPb (p:bil.Pt):Bool:=gI p.net&&gI p.tax
def mB (a b c:Int) (len:Nat) (l:List bil.Pt):Mem:=⟨(T.node T.nil (some ⟨.raw [i64 0,i64 0,i64 0,.nilsl],1,false⟩) T.nil).node (some ⟨.raw [i64 a,i64 b,i64 c,.so 2 4 0 len],1,false⟩) ((T.node T.nil (some ⟨.ls .part l,4,true⟩) T.nil).node none T.nil),3,7,7⟩
def lpB (L L' len:Nat) (a b c:Int) (l:List bil.Pt) (k:Int):Option AV:=zC7 (evS c47 L qH2) qD0 0 L' (stL [(q1,.ptr 0 0),(q2,.ptr 1 0),(q22,i64 (.ofNat len)),(q23,i64 k)]) (mB a b c len l) (qD8 c47 L fun r m=>frzK m (.tup [.agg [.any,.any,.any,.lst .part],.any]) r some)
def offL (l:List bil.Pt) (k:Nat):List bil.Pt:=bif okS (nP l k).net then bif okS (nP l k).tax then offX l k else offN l k else l
theorem yS7 (L L' len k:Nat) (a b c:Int) (l:List bil.Pt):lpB L (Nat.succ L') len a b c l (.ofNat k) =
 bif ltI (.ofNat k) (.ofNat len) then bif inI (.ofNat k) len then bif inI (.ofNat k) len then bif Nat.beq k k&&(Nat.blt k l.length&&(gI (nP l k).net&&gI (nP l k).tax)) then
  bif !eqI (bif okS (nP l k).net&&okS (nP l k).tax then 0 else 7) 0 then some (totA tot0 (bif okS (nP l k).net&&okS (nP l k).tax then 0 else 7)) else lpB L L' len a b c (offL l k) (zA3 .i64 (.ofNat k+1)) else none else none else none
 else bif Nat.beq len l.length then some (totA ⟨a,b,c,l⟩ 0) else none:=by kernel_rfl
theorem xZ0 (p:bil.Pt) (ps:List bil.Pt):bil.backPs (p::ps)=match bil.negZ p.net with
  | none=>none
  | some n=>match bil.negZ p.tax with
   | none=>none
   | some x=>(bil.backPs ps).map fun l=>{ p with net:=n,tax:=x }::l:=by
 rw [bil.backPs]
 cases bil.negZ p.net with
 | none=>rfl
 | some n=>cases bil.negZ p.tax<;>rfl
def qX3 (a b c:Int) (pre:List bil.Pt) (o:Option (List bil.Pt)):Option AV:=match o with
 | none=>some (totA tot0 7)
 | some ps=>some (totA ⟨a,b,c,pre++ps⟩ 0)
theorem xM5 (L:Nat) (a b c:Int):∀ (t:List bil.Pt) (k f:Nat) (l:List bil.Pt),l.drop k=t->k<=l.length->t.length < f->l.length < 1000->t.all gPb=true->lpB L f l.length a b c l (.ofNat k)=qX3 a b c (l.take k) (bil.backPs t)
 | t,k,0,l,_,_,hf,_,_=>by omega
 | [],k,f+1,l,hd,hn,hf,hl,hg=>by
  rw [yS7,drop_nil hd hn,zB6 (Nat.le_refl _),cond_false,zA6 rfl,List.take_length]
  show _=some (totA ⟨a,b,c,l++[]⟩ 0)
  rw [List.append_nil]
  rfl
 | x::t,k,f+1,l,hd,hn,hf,hl,hg=>by
  obtain⟨h1,h2,h3⟩:=zA5 (t:=.part) hd
  have h2':nP l k=x:=h2
  rw [List.all_cons,Bool.and_eq_true] at hg
  obtain⟨hx,hg⟩:=hg
  unfold gPb at hx
  rw [Bool.and_eq_true] at hx
  rw [yS7,zB4 h1,cond_true,zA9 h1,cond_true,cond_true,zA6 rfl,zA0 h1,h2',hx.1,hx.2,Bool.and_self,Bool.and_self,Bool.and_self,cond_true,xZ0,yK3,yK3,zA2 (by omega)]
  cases e1:bil.negZ x.net with
  | none=>rfl
  | some n' =>
   cases e2:bil.negZ x.tax with
   | none=>rfl
   | some t' =>
    obtain⟨o1,o2⟩:=vH9 h1
    have hL:offL l k=l.set k { x with net:=n',tax:=t' }:=by
     unfold offL
     rw [h2',yK3,yK3,e1,e2]
     show offX l k=_
     unfold offX
     rw [o2,h2',xL9 e1]
     show (offN l k).set k { x with net:=n',tax:=neS x.tax }=_
     rw [xL9 e2]
     unfold offN
     rw [List.set_set]
    show (bif !eqI 0 0 then _ else lpB L f l.length a b c (offL l k) (.ofNat (k+1)))=_
    rw [zB8 rfl,Bool.not_true,cond_false,hL]
    have hlen:(l.set k { x with net:=n',tax:=t' }).length=l.length:=List.length_set
    have ih:=xM5 L a b c t (k+1) f (l.set k { x with net:=n',tax:=t' }) (by rw [List.drop_set_of_lt (by omega)];exact h3) (by rw [hlen];omega) (by simp at hf;omega) (by rw [hlen];exact hl) hg
    rw [hlen] at ih
    rw [ih]
    have htk:(l.set k { x with net:=n',tax:=t' }).take (k+1)=l.take k++[{ x with net:=n',tax:=t' }]:=by
     rw [List.take_succ_eq_append_getElem (by rw [hlen];exact h1),List.getElem_set_self,List.take_set_of_le (by omega)]
    rw [htk]
    cases bil.backPs t with
    | none=>rfl
    | some q=>simp [qX3]
def zZ3 (t:bil.Tot):bil.Tot × Int:=match bil.backF t with
 | some x=>(x,0)
 | none=>(tot0,7)
def gTo (t:bil.Tot):Bool:=gI t.net&&(gI t.tax&&(gI t.gross&&(t.parts.all gPb&&(!t.parts.isEmpty&&Nat.blt t.parts.length 1000))))
theorem uB9 (t:bil.Tot) (hg:gTo t=true):zB3 c47 1001 s_back (.tup [.agg [.any,.any,.any,.lst .part],.any]) [.agg [i64 t.net,i64 t.tax,i64 t.gross,.fl .part t.parts]] some=some (totA (zZ3 t).1 (zZ3 t).2):=by
 obtain⟨a,b,c,l⟩:=t
 unfold gTo at hg
 simp only [Bool.and_eq_true,Bool.not_eq_true',blt_iff] at hg
 obtain⟨ga,gb,gc,gl,g0,gn⟩:=hg
 cases l with
 | nil=>cases g0
 | cons x l =>
  have e:∀ L,zB3 c47 L s_back (.tup [.agg [.any,.any,.any,.lst .part],.any]) [.agg [i64 a,i64 b,i64 c,.fl .part (x::l)]] some =
    bif Nat.blt (x::l).length 1048576 then bif gI a&&(gI b&&gI c) then bif !eqI (bif okS a&&(okS b&&okS c) then 0 else 7) 0 then some (totA tot0 (bif okS a&&(okS b&&okS c) then 0 else 7)) else
     lpB L L (x::l).length (bif okS a then neS a else a) (bif okS a&&okS b then neS b else b) (bif okS a&&(okS b&&okS c) then neS c else c) (x::l) (.ofNat 0) else none else none:=fun L=>by kernel_rfl
  rw [e,zA0 (by omega),ga,gb,gc,Bool.and_self,Bool.and_self,cond_true,cond_true,yK3,yK3,yK3]
  unfold zZ3 bil.backF
  simp only
  cases e1:bil.negZ a with
  | none=>rfl
  | some a' =>
   cases e2:bil.negZ b with
   | none=>rfl
   | some b' =>
    cases e3:bil.negZ c with
    | none=>rfl
    | some c' =>
     show (bif !eqI 0 0 then _ else lpB 1001 1001 (x::l).length (neS a) (neS b) (neS c) (x::l) (.ofNat 0))=_
     rw [zB8 rfl,Bool.not_true,cond_false,xL9 e1,xL9 e2,xL9 e3,xM5 1001 a' b' c' (x::l) 0 1001 (x::l) rfl (by omega) (by omega) gn gl]
     cases bil.backPs (x::l)<;>rfl
def vX8:List AV->Option (Bool × AV)
 | [.agg [.int .i64 a,.int .i64 b,.int .i64 c,.fl .part l]]=>some (gTo ⟨a,b,c,l⟩,totA (zZ3 ⟨a,b,c,l⟩).1 (zZ3 ⟨a,b,c,l⟩).2)
 | _=>none
def c48:ClS:=addG 108 vX8 c47
theorem snd48:zA1 Tryz.prog c48:=zC2 snd47 mix qA7 (.tup [.agg [.any,.any,.any,.lst .part],.any]) vX8 fun xs r h=>by
 unfold vX8 at h
 split at h<;>first | (cases h;done) | skip
 rename_i a b c l
 obtain⟨hg,rfl⟩:=Prod.mk.inj (Option.some.inj h)
 exact⟨rfl,1001,uB9 ⟨a,b,c,l⟩ hg⟩
set_option maxHeartbeats 4000000
set_option maxRecDepth 100000
def d_new:SOf Tryz.prog 5 [] []:=⟨_,by conv=>lhs;reduce⟩
def s_new:FnS:=d_new.1
theorem qQ1:zB2 Tryz.prog 5 s_new:=zA8 d_new.2
def d_equal:SOf Tryz.prog 134 [] []:=⟨_,by conv=>lhs;reduce⟩
def xT7:FnS:=d_equal.1
theorem uF2:zB2 Tryz.prog 134 xT7:=zA8 d_equal.2
def d_ptEq:SOf Tryz.prog 172 [([0,1,12,13],0)] []:=⟨(⟨_,by conv=>lhs;reduce⟩:GOf (gS Tryz.prog 172 [([0,1,12,13],0)] [])).1,by kernel_rfl⟩
def s_ptEq:FnS:=d_ptEq.1
def qC8:List Path:=[q0,q1,q12,q13]
def qH0:SC:=(⟨_,by conv=>lhs;reduce⟩:VOf (s_ptEq.lp 0)).1
def qI2:SC:=(⟨_,by conv=>lhs;reduce⟩:VOf (s_ptEq.af 0)).1
def qD6 {β:Type} (cl:ClS) (L:Nat) (K:AV->Mem->Option β):Ex->T AV->Mem->Option β:=kBlk 0 (kSeq (evS cl L qI2) (endS s_ptEq.res K))
theorem uZ7:zB2 Tryz.prog 172 s_ptEq:=zA8 d_ptEq.2
def d_sums:SOf Tryz.prog 132 [([1,3,4,14,15,16],0)] [(17,(.ty .int 0)),(22,(.ty .int 0))]:=⟨_,by conv=>lhs;reduce⟩
def s_sums:FnS:=d_sums.1
def vK8:List Path:=[q1,q3,q4,q14,q15,q16]
def vS4:SC:=(⟨_,by conv=>lhs;reduce⟩:VOf (s_sums.lp 0)).1
def qI1:SC:=(⟨_,by conv=>lhs;reduce⟩:VOf (s_sums.af 0)).1
def qD5 {β:Type} (cl:ClS) (L:Nat) (K:AV->Mem->Option β):Ex->T AV->Mem->Option β:=kBlk 0 (kSeq (evS cl L qI1) (endS s_sums.res K))
theorem uZ4:zB2 Tryz.prog 132 s_sums:=zA8 d_sums.2
def d_totOk:SOf Tryz.prog 93 [([1,18,19,20],0)] []:=⟨_,by conv=>lhs;reduce⟩
def s_totOk:FnS:=d_totOk.1
def uI6:List Path:=[q1,q18,q19,q20]
def uO1:SC:=(⟨_,by conv=>lhs;reduce⟩:VOf (s_totOk.lp 0)).1
def uP4:SC:=(⟨_,by conv=>lhs;reduce⟩:VOf (s_totOk.af 0)).1
def uJ7 {β:Type} (cl:ClS) (L:Nat) (K:AV->Mem->Option β):Ex->T AV->Mem->Option β:=kBlk 0 (kSeq (evS cl L uP4) (endS s_totOk.res K))
theorem uD9:zB2 Tryz.prog 93 s_totOk:=zA8 d_totOk.2
def d_find:SOf Tryz.prog 94 [] []:=⟨_,by conv=>lhs;reduce⟩
def uR3:FnS:=d_find.1
theorem qA5:zB2 Tryz.prog 94 uR3:=zA8 d_find.2
def d_findIs:SOf Tryz.prog 133 [] []:=⟨(⟨_,by conv=>lhs;reduce⟩:GOf (gS Tryz.prog 133 [] [])).1,by kernel_rfl⟩
def wD8:FnS:=d_findIs.1
theorem vH1:zB2 Tryz.prog 133 wD8:=zA8 d_findIs.2
def d_ixPst:SOf Tryz.prog 73 [([0,1,7,8],1)] []:=⟨_,by conv=>lhs;reduce⟩
def s_ixPst:FnS:=d_ixPst.1
def uI9:List Path:=[q0,q1,q7,q8]
def uO4:SC:=(⟨_,by conv=>lhs;reduce⟩:VOf (s_ixPst.lp 0)).1
def uP8:SC:=(⟨_,by conv=>lhs;reduce⟩:VOf (s_ixPst.af 0)).1
def uK1 {β:Type} (cl:ClS) (L:Nat) (K:AV->Mem->Option β):Ex->T AV->Mem->Option β:=kBlk 0 (kSeq (evS cl L uP8) (endS s_ixPst.res K))
theorem uE7:zB2 Tryz.prog 73 s_ixPst:=zA8 d_ixPst.2
def d_takes:SOf Tryz.prog 95 [] []:=⟨(⟨_,by conv=>lhs;reduce⟩:GOf (gS Tryz.prog 95 [] [])).1,by kernel_rfl⟩
def xT5:FnS:=d_takes.1
theorem uE0:zB2 Tryz.prog 95 xT5:=zA8 d_takes.2
def d_numbers:SOf Tryz.prog 46 [([1,3,10,11,12],0),([3,36,37,38],0)] [(2,(.ty .int 8)),(21,(.ty .int 0)),(24,(.ty .int 0)),(30,(.ty .int 0)),(50,(.ty .int 0))]:=⟨_,by conv=>lhs;reduce⟩
def s_numbers:FnS:=d_numbers.1
def wS8:List Path:=[q1,q3,q10,q11,q12]
def wS0:List Path:=[q3,q36,q37,q38]
def wW2:SC:=(⟨_,by conv=>lhs;reduce⟩:VOf (s_numbers.lp 0)).1
def wV4:SC:=(⟨_,by conv=>lhs;reduce⟩:VOf (s_numbers.lp 1)).1
def wW3:SC:=(⟨_,by conv=>lhs;reduce⟩:VOf (s_numbers.af 1)).1
def wX0:SC:=(⟨_,by conv=>lhs;reduce⟩:VOf (s_numbers.af 0)).1
def wT9 {β:Type} (cl:ClS) (L:Nat) (K:AV->Mem->Option β):Ex->T AV->Mem->Option β:=kBlk 0 (kSeq (evS cl L wX0) (endS s_numbers.res K))
def wT0 {β:Type} (cl:ClS) (L:Nat) (K:AV->Mem->Option β):Ex->T AV->Mem->Option β:=kBlk 2 (kSeq (evS cl L wW3) (endS s_numbers.res K))
theorem wQ7:zB2 Tryz.prog 46 s_numbers:=zA8 d_numbers.2
def d_numIs:SOf Tryz.prog 96 [] []:=⟨_,by conv=>lhs;reduce⟩
def vB0:FnS:=d_numIs.1
theorem uE3:zB2 Tryz.prog 96 vB0:=zA8 d_numIs.2
def d_posted:SOf Tryz.prog 45 [([0,3,12,13,14],0),([3,56,57,58],0)] [(5,(.ty .int 40)),(51,(.ty .int 0)),(54,(.ty .int 0)),(69,(.ty .int 0)),(76,(.ty .int 0))]:=⟨(⟨_,by conv=>lhs;reduce⟩:GOf (gS Tryz.prog 45 [([0,3,12,13,14],0),([3,56,57,58],0)] [(5,(.ty .int 40)),(51,(.ty .int 0)),(54,(.ty .int 0)),(69,(.ty .int 0)),(76,(.ty .int 0))])).1,by kernel_rfl⟩
def s_posted:FnS:=d_posted.1
def vL3:List Path:=[q0,q3,q12,q13,q14]
def vK5:List Path:=[q3,q56,q57,q58]
def vS9:SC:=(⟨_,by conv=>lhs;reduce⟩:VOf (s_posted.lp 0)).1
def vS1:SC:=(⟨_,by conv=>lhs;reduce⟩:VOf (s_posted.lp 1)).1
def vU3:SC:=(⟨_,by conv=>lhs;reduce⟩:VOf (s_posted.af 1)).1
def vU9:SC:=(⟨_,by conv=>lhs;reduce⟩:VOf (s_posted.af 0)).1
def vM5 {β:Type} (cl:ClS) (L:Nat) (K:AV->Mem->Option β):Ex->T AV->Mem->Option β:=kBlk 0 (kSeq (evS cl L vU9) (endS s_posted.res K))
def vL9 {β:Type} (cl:ClS) (L:Nat) (K:AV->Mem->Option β):Ex->T AV->Mem->Option β:=kBlk 2 (kSeq (evS cl L vU3) (endS s_posted.res K))
theorem vG3:zB2 Tryz.prog 45 s_posted:=zA8 d_posted.2
def d_booked:SOf Tryz.prog 47 [([4,9,10,11],0)] []:=⟨_,by conv=>lhs;reduce⟩
def s_booked:FnS:=d_booked.1
def xN6:List Path:=[q4,q9,q10,q11]
def xR5:SC:=(⟨_,by conv=>lhs;reduce⟩:VOf (s_booked.lp 0)).1
def vV4:SC:=(⟨_,by conv=>lhs;reduce⟩:VOf (s_booked.af 0)).1
def vM9 {β:Type} (cl:ClS) (L:Nat) (K:AV->Mem->Option β):Ex->T AV->Mem->Option β:=kBlk 0 (kSeq (evS cl L vV4) (endS s_booked.res K))
theorem vH4:zB2 Tryz.prog 47 s_booked:=zA8 d_booked.2
def d_sessions:SOf Tryz.prog 44 [] []:=⟨_,by conv=>lhs;reduce⟩
def yS0:FnS:=d_sessions.1
theorem xV5:zB2 Tryz.prog 44 yS0:=zA8 d_sessions.2
def d_right:SOf Tryz.prog 12 [] []:=⟨_,by conv=>lhs;reduce⟩
def xT6:FnS:=d_right.1
theorem wG5:zB2 Tryz.prog 12 xT6:=zA8 d_right.2
def wD3 (x y:bil.Pt):Bool:=zC1 x.cat.data.toList y.cat.data.toList&&(eqI x.bp y.bp&&(eqI x.net y.net&&(eqI x.tax y.tax&&true)))
theorem vA4 (x y:bil.Pt):wD3 x y=decide (x=y):=by
 obtain⟨a,b,c,d⟩:=x
 obtain⟨a',b',c',d'⟩:=y
 unfold wD3
 rw [zF2,zC5,zC5,zC5]
 simp only [bil.Pt.mk.injEq]
 by_cases h1:a=a'<;>by_cases h2:b=b'<;>by_cases h3:c=c'<;>by_cases h4:d=d'<;>simp [h1,h2,h3,h4]
def lpPe (L L':Nat) (l e:List bil.Pt) (n:Int):Option AV:=zC7 (evS c48 L qH0) qC8 0 L' (stL [(q0,.fl .part l),(q1,.fl .part e),(q12,i64 (.ofNat l.length)),(q13,i64 n)]) m0 (qD6 c48 L fun r m=>frzK m .any r some)
theorem yS3 (L L' n:Nat) (l e:List bil.Pt):lpPe L (Nat.succ L') l e (.ofNat n)=bif ltI (.ofNat n) (.ofNat l.length) then bif inI (.ofNat n) l.length then bif inI (.ofNat n) e.length then
 bif (bif true then !wD3 (nth (t:=.part) l n) (nth (t:=.part) e n) else wD3 (nth (t:=.part) l n) (nth (t:=.part) e n)) then some (.bool false) else lpPe L L' l e (zA3 .i64 (.ofNat n+1)) else none else none else some (.bool true):=by kernel_rfl
theorem xM1 (L:Nat) (l e:List bil.Pt) (hl:l.length < 1000000) (he:l.length=e.length):∀ (t s:List bil.Pt) (n f:Nat),l.drop n=t->e.drop n=s->n<=l.length->t.length < f->lpPe L f l e (.ofNat n)=some (.bool (decide (t=s)))
 | t,s,n,0,_,_,_,hf=>by omega
 | [],s,n,f+1,hd,hs,hn,hf=>by
  have h0:=drop_nil hd hn
  have:s=[]:=by rw [<- hs];exact List.drop_eq_nil_of_le (by omega)
  subst this
  rw [yS3,h0,zB6 (Nat.le_refl _),cond_false]
  rfl
 | x::t,s,n,f+1,hd,hs,hn,hf=>by
  obtain⟨h1,h2,h3⟩:=zA5 (t:=.part) hd
  cases s with
  | nil=>have:=drop_nil hs (by omega);omega
  | cons y s =>
   obtain⟨g1,g2,g3⟩:=zA5 (t:=.part) hs
   have ih:=xM1 L l e hl he t s (n+1) f h3 g3 (by omega) (by simp at hf;omega)
   rw [yS3,zB4 h1,cond_true,zA9 h1,cond_true,zA9 g1,cond_true,cond_true,h2,g2,zA2 (by omega),ih,vA4]
   by_cases h:x=y
   ·rw [decide_eq_true h,Bool.not_true,cond_false]
    simp [h]
   ·rw [decide_eq_false h,Bool.not_false,cond_true]
    simp [h]
theorem uB5 (l e:List bil.Pt) (hl:l.length < 1000000):zB3 c48 1000001 s_ptEq .any [.fl .part l,.fl .part e] some=some (.bool (decide (l=e))):=by
 have e0:∀ L,zB3 c48 L s_ptEq .any [.fl .part l,.fl .part e] some=bif !eqI (.ofNat l.length) (.ofNat e.length) then some (.bool false) else lpPe L L l e (.ofNat 0):=fun L=>by kernel_rfl
 rw [e0]
 by_cases h:l.length=e.length
 ·rw [zB8 (by rw [h]),Bool.not_true,cond_false]
  exact xM1 _ l e hl h l e 0 _ rfl rfl (by omega) (by omega)
 ·rw [zB7 (fun hh=>h (Int.ofNat.inj hh)),Bool.not_false,cond_true,decide_eq_false fun he=>h (by rw [he])]
def vX1:List AV->Option (Bool × AV)
 | [.fl .part l,.fl .part e]=>some (Nat.blt l.length 1000000,.bool (decide (l=e)))
 | _=>none
def c49:ClS:=addG 172 vX1 c48
theorem snd49:zA1 Tryz.prog c49:=zC2 snd48 mix uZ7 .any vX1 fun xs r h=>by
 unfold vX1 at h
 split at h<;>first | (cases h;done) | skip
 obtain⟨hg,rfl⟩:=Prod.mk.inj (Option.some.inj h)
 exact⟨rfl,_,uB5 _ _ (blt_iff.1 hg)⟩
def cTo (t:bil.Tot):List AV:=[i64 t.net,i64 t.tax,i64 t.gross,.fl .part t.parts]
def wC0:List AV->Option (Bool × AV)
 | [.agg [.int .i64 n,.int .i64 t,.int .i64 g,.fl .part l],.agg [.int .i64 n',.int .i64 t',.int .i64 g',.fl .part l']]=>some (Nat.blt l.length 1000000,.bool (decide ((⟨n,t,g,l⟩:bil.Tot)=⟨n',t',g',l'⟩)))
 | _=>none
theorem vC3 (L:Nat) (t t':bil.Tot) (h:t.parts.length < 1000000):zB3 c49 L xT7 .any [.agg (cTo t),.agg (cTo t')] some=some (.bool (decide (t=t'))):=by
 have e:zB3 c49 L xT7 .any [.agg (cTo t),.agg (cTo t')] some=bif eqI t.net t'.net then bif eqI t.tax t'.tax then bif eqI t.gross t'.gross then bif Nat.blt t.parts.length 1000000 then bif decide (t.parts=t'.parts) then some (.bool true) else some (.bool false) else none else some (.bool false) else some (.bool false) else some (.bool false):=by kernel_rfl
 rw [e,zA0 h,zC5,zC5,zC5]
 obtain⟨a,b,c,d⟩:=t
 obtain⟨a',b',c',d'⟩:=t'
 simp only [bil.Tot.mk.injEq]
 by_cases h1:a=a'<;>by_cases h2:b=b'<;>by_cases h3:c=c'<;>by_cases h4:d=d'<;>simp [h1,h2,h3,h4]
def c50:ClS:=addG 134 wC0 c49
theorem snd50:zA1 Tryz.prog c50:=zC2 snd49 mix uF2 .any wC0 fun xs r h=>by
 unfold wC0 at h
 split at h<;>first | (cases h;done) | skip
 rename_i n t g l n' t' g' l'
 obtain⟨hg,rfl⟩:=Prod.mk.inj (Option.some.inj h)
 exact⟨rfl,0,vC3 0 ⟨n,t,g,l⟩ ⟨n',t',g',l'⟩ (blt_iff.1 hg)⟩
def mTot (t:bil.Tot):Mem:=⟨T.nil.node (some ⟨.raw (cTo t),1,false⟩) T.nil,1,1,1⟩
def mSu (t:bil.Tot) (a b:List Int):Mem:=⟨(T.node T.nil (some ⟨.ls .int a,1,true⟩) T.nil).node (some ⟨.raw (cTo t),1,false⟩) ((T.node T.nil (some ⟨.ls .int b,1,true⟩) T.nil).node none T.nil),3,7,7⟩
def kSu (L:Nat):Ex->T AV->Mem->Option AV:=qD5 c50 L fun r m=>frzK m .any r some
def qR3 (L L':Nat) (t:bil.Tot) (n:Int):Option AV:=zC7 (evS c50 L vS4) vK8 0 L' (stL [(q1,.ptr 0 0),(q3,.nilsl),(q4,.nilsl),(q14,.fl .part t.parts),(q15,i64 (.ofNat t.parts.length)),(q16,i64 n)]) (mTot t) (kSu L)
def lpSu (L L' u v:Nat) (t:bil.Tot) (a b:List Int) (n:Int):Option AV:=zC7 (evS c50 L vS4) vK8 0 L' (stL [(q1,.ptr 0 0),(q3,.so 1 1 0 u),(q4,.so 2 1 0 v),(q14,.fl .part t.parts),(q15,i64 (.ofNat t.parts.length)),(q16,i64 n)]) (mSu t a b) (kSu L)
theorem xU7 (L L':Nat) (t:bil.Tot):qR3 L (Nat.succ L') t (.ofNat 0)=bif ltI (.ofNat 0) (.ofNat t.parts.length) then bif inI (.ofNat 0) t.parts.length then lpSu L L' 1 1 t [(nP t.parts 0).net] [(nP t.parts 0).tax] (zA3 .i64 (.ofNat 0+1)) else none
 else bif true&&true&&([t.net,t.tax].all gI&&Nat.blt [t.net,t.tax].length 1000000) then bif exB [t.net,t.tax] then bif eqI (exN []) t.net then bif eqI (exN []) t.tax then bif eqI (exN [t.net,t.tax]) t.gross then some (.bool true) else some (.bool false) else some (.bool false) else some (.bool false) else some (.bool false) else none:=by kernel_rfl
def uM3 (t:bil.Tot) (_a _b:List Int):Option AV:=bif true&&true&&([t.net,t.tax].all gI&&Nat.blt [t.net,t.tax].length 1000000) then bif exB [t.net,t.tax] then some (.bool false) else some (.bool false) else none
def qF3 (u v:Nat) (t:bil.Tot) (a b:List Int):Option AV :=
 bif Nat.beq u a.length&&true&&(a.all gI&&Nat.blt a.length 1000000) then
  bif exB a then bif Nat.beq v b.length&&true&&(b.all gI&&Nat.blt b.length 1000000) then bif exB b then bif true&&true&&([t.net,t.tax].all gI&&Nat.blt [t.net,t.tax].length 1000000) then
    bif exB [t.net,t.tax] then bif eqI (exN a) t.net then bif eqI (exN b) t.tax then bif eqI (exN [t.net,t.tax]) t.gross then some (.bool true) else some (.bool false) else some (.bool false) else some (.bool false) else some (.bool false) else none
   else uM3 t a b else none
  else bif Nat.beq v b.length&&true&&(b.all gI&&Nat.blt b.length 1000000) then bif exB b then uM3 t a b else uM3 t a b else none
 else none
theorem yS2 (L L' u v n:Nat) (t:bil.Tot) (a b:List Int):lpSu L (Nat.succ L') u v t a b (.ofNat n)=bif ltI (.ofNat n) (.ofNat t.parts.length) then bif inI (.ofNat n) t.parts.length then bif Nat.beq a.length u then bif Nat.blt (u+1) 1048576 then bif Nat.beq b.length v then bif Nat.blt (v+1) 1048576 then
  lpSu L L' (a++[(nP t.parts n).net]).length (b++[(nP t.parts n).tax]).length t (a++[(nP t.parts n).net]) (b++[(nP t.parts n).tax]) (zA3 .i64 (.ofNat n+1)) else none else none else none else none else none
 else qF3 u v t a b:=by kernel_rfl
theorem wX5 {n:Int} (h:bil.I64 n):IntKind.i64.wrap n=n:=by rw [<- zF4,wrap64 h]
theorem uM2 (t:bil.Tot) (hn:gI t.net=true) (ht:gI t.tax=true) (hgr:gI t.gross=true) (hg:t.parts.all gPb=true) (hl:t.parts.length < 1000) :
  qF3 (t.parts.map (·.net)).length (t.parts.map (·.tax)).length t (t.parts.map (·.net)) (t.parts.map (·.tax))=some (.bool (bil.sumsF t)):=by
 have ha:(t.parts.map (·.net)).all gI=true:=by
  rw [List.all_eq_true] at hg ⊢
  intro x hx
  obtain⟨p,hp,rfl⟩:=List.mem_map.1 hx
  have:=hg p hp
  unfold gPb at this
  rw [Bool.and_eq_true] at this
  exact this.1
 have hb:(t.parts.map (·.tax)).all gI=true:=by
  rw [List.all_eq_true] at hg ⊢
  intro x hx
  obtain⟨p,hp,rfl⟩:=List.mem_map.1 hx
  have:=hg p hp
  unfold gPb at this
  rw [Bool.and_eq_true] at this
  exact this.2
 have e3:[t.net,t.tax].all gI=true:=by simp [hn,ht]
 unfold qF3 uM3
 rw [zA6 rfl,zA6 rfl,ha,hb,e3,zA0 (by rw [List.length_map];omega),zA0 (by rw [List.length_map];omega),zA0 (by simp)]
 unfold bil.sumsF exB exN
 have e4:[t.net,t.tax].sum=t.net+t.tax:=by simp
 rw [e4]
 generalize hA:(t.parts.map (·.net)).sum=A
 generalize hB:(t.parts.map (·.tax)).sum=B
 have hn':=gI_iff.1 hn
 have ht':=gI_iff.1 ht
 by_cases h1:bil.I64 A
 ·rw [decide_eq_true h1]
  by_cases h2:bil.I64 B
  ·rw [decide_eq_true h2]
   by_cases h3:bil.I64 (t.net+t.tax)
   ·rw [decide_eq_true h3,wX5 h1,wX5 h2,wX5 h3,zC5,zC5,zC5]
    by_cases q1:A=t.net<;>by_cases q2:B=t.tax<;>by_cases q3:t.net+t.tax=t.gross<;>simp [q1,q2,q3]
   ·have:¬ t.net+t.tax=t.gross:=fun h=>h3 (h ▸ gI_iff.1 hgr)
    rw [decide_eq_false h3,decide_eq_false this]
    simp
  ·have:¬ B=t.tax:=fun h=>h2 (h ▸ ht')
   rw [decide_eq_false h2,decide_eq_false this]
   cases decide (bil.I64 (t.net+t.tax))<;>simp
 ·have:¬ A=t.net:=fun h=>h1 (h ▸ hn')
  rw [decide_eq_false h1,decide_eq_false this]
  cases decide (bil.I64 B)<;>cases decide (bil.I64 (t.net+t.tax))<;>simp
theorem xM0 (L u v:Nat) (t:bil.Tot) (hn:gI t.net=true) (ht:gI t.tax=true) (hgr:gI t.gross=true) (hg:t.parts.all gPb=true) (hl:t.parts.length < 1000):∀ (s:List bil.Pt) (n f:Nat),t.parts.drop n=s->n<=t.parts.length->s.length < f ->
  lpSu L f n n t ((t.parts.take n).map (·.net)) ((t.parts.take n).map (·.tax)) (.ofNat n)=some (.bool (bil.sumsF t))
 | s,n,0,_,_,hf=>by omega
 | [],n,f+1,hd,hn',hf=>by
  have h0:=drop_nil hd hn'
  subst h0
  rw [yS2,zB6 (Nat.le_refl _),cond_false,List.take_length]
  have:=uM2 t hn ht hgr hg hl
  rw [List.length_map,List.length_map] at this
  exact this
 | x::s,n,f+1,hd,hn',hf=>by
  obtain⟨h1,h2,h3⟩:=zA5 (t:=.part) hd
  have ih:=xM0 L u v t hn ht hgr hg hl s (n+1) f h3 (by omega) (by simp at hf;omega)
  have et:t.parts.take (n+1)=t.parts.take n++[x]:=by
   rw [List.take_add_one,List.getElem?_eq_getElem h1]
   congr 1
   have:=List.getElem_cons_drop (h:=h1)
   rw [hd] at this
   have e:=(List.cons.inj this).1
   simp only [Option.toList,e]
  rw [yS2,zB4 h1,cond_true,zA9 h1,cond_true,zA6 (by rw [List.length_map,List.length_take];omega),cond_true,zA0 (by omega),cond_true,zA6 (by rw [List.length_map,List.length_take];omega),cond_true,cond_true]
  have hx:nP t.parts n=x:=h2
  rw [hx,zA2 (by omega)]
  rw [et,List.map_append,List.map_append] at ih
  have l1:((t.parts.take n).map (fun p:bil.Pt=>p.net)++[x.net]).length=n+1:=by rw [List.length_append,List.length_map,List.length_take,List.length_singleton];omega
  have l2:((t.parts.take n).map (fun p:bil.Pt=>p.tax)++[x.tax]).length=n+1:=by rw [List.length_append,List.length_map,List.length_take,List.length_singleton];omega
  rw [l1,l2]
  exact ih
theorem uB3 (t:bil.Tot) (hn:gI t.net=true) (ht:gI t.tax=true) (hgr:gI t.gross=true) (hg:t.parts.all gPb=true) (hl:t.parts.length < 1000) (hne:t.parts≠[]):zB3 c50 1001 s_sums .any [.agg (cTo t)] some=some (.bool (bil.sumsF t)):=by
 have e:∀ L,zB3 c50 L s_sums .any [.agg (cTo t)] some=qR3 L L t (.ofNat 0):=fun L=>by kernel_rfl
 rw [e]
 obtain⟨x,s,hx⟩:∃ x s,t.parts=x::s:=by
  cases h:t.parts with
  | nil=>exact absurd h hne
  | cons x s=>exact⟨x,s,rfl⟩
 have h1:0 < t.parts.length:=by rw [hx];simp
 rw [xU7,zB4 h1,cond_true,zA9 h1,cond_true,zA2 (by omega)]
 have:=xM0 1001 1 1 t hn ht hgr hg hl s 1 1000 (by rw [hx];rfl) (by omega) (by rw [hx] at hl;simp at hl;omega)
 have e1:t.parts.take 1=[x]:=by rw [hx];rfl
 have e2:nP t.parts 0=x:=by rw [hx];rfl
 rw [e1] at this
 rw [e2]
 exact this
def gTt (t:bil.Tot):Bool:=gI t.net&&(gI t.tax&&(gI t.gross&&(t.parts.all gPb&&Nat.blt t.parts.length 1000)))
theorem gTt_iff {t:bil.Tot}:gTt t=true↔gI t.net=true/\gI t.tax=true/\gI t.gross=true/\t.parts.all gPb=true/\t.parts.length < 1000:=by
 unfold gTt
 rw [Bool.and_eq_true,Bool.and_eq_true,Bool.and_eq_true,Bool.and_eq_true,blt_iff]
def vW9:List AV->Option (Bool × AV)
 | [.agg [.int .i64 n,.int .i64 t,.int .i64 g,.fl .part l]]=>some (gTt ⟨n,t,g,l⟩&&Nat.blt 0 l.length,.bool (bil.sumsF ⟨n,t,g,l⟩))
 | _=>none
def c51:ClS:=addG 132 vW9 c50
theorem snd51:zA1 Tryz.prog c51:=zC2 snd50 mix uZ4 .any vW9 fun xs r h=>by
 unfold vW9 at h
 split at h<;>first | (cases h;done) | skip
 rename_i n t g l
 obtain⟨hg,rfl⟩:=Prod.mk.inj (Option.some.inj h)
 rw [Bool.and_eq_true] at hg
 obtain⟨a,b,c,d,e⟩:=gTt_iff.1 hg.1
 exact⟨rfl,_,uB3 ⟨n,t,g,l⟩ a b c d e fun h0=>by
  have:=blt_iff.1 hg.2
  rw [show l=[] from h0] at this
  simp at this⟩
def lpTo (L L':Nat) (t:bil.Tot) (n:Int):Option AV:=zC7 (evS c51 L uO1) uI6 0 L' (stL [(q1,.ptr 0 0),(q18,.fl .part t.parts),(q19,i64 (.ofNat t.parts.length)),(q20,i64 n)]) (mTot t) (uJ7 c51 L fun r m=>frzK m .any r some)
def bpT (x:bil.Pt) (q:Option AV):Option AV :=
 bif ltI x.bp 0 then some (.bool false) else bif ltI 100000 x.bp then some (.bool false) else bif gI x.net then bif !eqI (taxR x.net x.bp).2 0 then some (.bool false) else bif !eqI (taxR x.net x.bp).1 x.tax then some (.bool false) else q else none
theorem yJ2 (L L' n:Nat) (t:bil.Tot):lpTo L (Nat.succ L') t (.ofNat n)=bif ltI (.ofNat n) (.ofNat t.parts.length) then bif inI (.ofNat n) t.parts.length then bif E.name (nP t.parts n).cat then
  bif ltI 0 (.ofNat n) then bif inI (zA3 .i64 (.ofNat n - 1)) t.parts.length then bif !zF1 (nP t.parts (zA3 .i64 (.ofNat n - 1)).toNat).cat.data.toList (nP t.parts n).cat.data.toList then some (.bool false) else bpT (nP t.parts n) (lpTo L L' t (zA3 .i64 (.ofNat n+1))) else none
  else bpT (nP t.parts n) (lpTo L L' t (zA3 .i64 (.ofNat n+1)))
  else some (.bool false) else none
 else bif gTt t&&Nat.blt 0 t.parts.length then bif bil.sumsF t then some (.bool true) else some (.bool false) else none:=by kernel_rfl
theorem qX2 (x:bil.Pt) (q:Option AV) (h:bil.I64 x.net):bpT x q=bif decide (0<=x.bp)&&(decide (x.bp<=100000)&&decide (E.tax x.net x.bp=some x.tax)) then q else some (.bool false):=by
 unfold bpT
 rw [zE0,zE0,gI_iff.2 h,zC5,zC5,xS9 h]
 by_cases h1:x.bp < 0
 ·rw [decide_eq_true h1,decide_eq_false (by omega:¬ 0<=x.bp)];rfl
 ·rw [decide_eq_false h1,decide_eq_true (by omega:0<=x.bp)]
  by_cases h2:100000 < x.bp
  ·rw [decide_eq_true h2,decide_eq_false (by omega:¬ x.bp<=100000)];rfl
  ·rw [decide_eq_false h2,decide_eq_true (by omega:x.bp<=100000)]
   by_cases h3:(taxR x.net x.bp).2=0
   ·by_cases h4:(taxR x.net x.bp).1=x.tax
    ·simp [h3,h4]
    ·simp [h3,h4]
   ·simp [h3]
theorem yT9 (L:Nat) (t:bil.Tot) (hg:gTt t=true) (hne:0 < t.parts.length):∀ (s:List bil.Pt) (n f:Nat),t.parts.drop n=s->n<=t.parts.length->s.length < f ->
  lpTo L f t (.ofNat n)=some (.bool (zI5 (bil.ptOk E) bil.ptLt (yY6 (t:=.part) t.parts n) s&&bil.sumsF t))
 | s,n,0,_,_,hf=>by omega
 | [],n,f+1,hd,hn,hf=>by
  rw [yJ2,drop_nil hd hn,zB6 (Nat.le_refl _),cond_false,hg,zA0 hne]
  unfold zI5
  cases bil.sumsF t<;>rfl
 | x::s,n,f+1,hd,hn,hf=>by
  obtain⟨h1,h2,h3⟩:=zA5 (t:=.part) hd
  obtain⟨g1,g2,g3,g4,g5⟩:=gTt_iff.1 hg
  have ih:=yT9 L t hg hne s (n+1) f h3 (by omega) (by simp at hf;omega)
  rw [yA2 h2] at ih
  have hx:bil.I64 x.net:=by
   have:=List.all_eq_true.1 g4 x (List.mem_of_mem_drop (by rw [hd];exact List.mem_cons_self))
   unfold gPb at this
   rw [Bool.and_eq_true] at this
   exact gI_iff.1 this.1
  have hn2:nP t.parts n=x:=h2
  rw [yJ2,zB4 h1,cond_true,zA9 h1,cond_true,hn2,zA2 (by omega),ih,qX2 _ _ hx]
  have e:bil.ptOk E x=(E.name x.cat&&(decide (0<=x.bp)&&(decide (x.bp<=100000)&&decide (E.tax x.net x.bp=some x.tax)))):=rfl
  generalize (decide (0<=x.bp)&&(decide (x.bp<=100000)&&decide (E.tax x.net x.bp=some x.tax)))=q at *
  cases n with
  | zero =>
   rw [zU0 (t:=.part),e]
   show (bif E.name x.cat then _ else _)=_
   cases E.name x.cat<;>cases q<;>rfl
  | succ n =>
   rw [zQ4,cond_true,zP8 (by omega),zA9 (by omega),cond_true,zU1 (t:=.part),e,zF9,zM2]
   have e2:bil.ptLt (nth (t:=.part) t.parts n) x=bil.less (nP t.parts n).cat x.cat:=rfl
   rw [e2]
   cases E.name x.cat<;>cases q<;>cases bil.less (nP t.parts n).cat x.cat<;>rfl
theorem vC0 (t:bil.Tot) (hg:gTt t=true):zB3 c51 1001 s_totOk .any [.agg (cTo t)] some=some (.bool (bil.totOk E t)):=by
 have e:∀ L,zB3 c51 L s_totOk .any [.agg (cTo t)] some=bif ltI (.ofNat t.parts.length) 1 then some (.bool false) else bif ltI 12 (.ofNat t.parts.length) then some (.bool false) else lpTo L L t (.ofNat 0):=fun L=>by kernel_rfl
 rw [e]
 unfold bil.totOk
 by_cases h:t.parts.length < 1
 ·rw [zB9 (by simp;omega),cond_true,decide_eq_false (by omega)];rfl
 ·rw [zB0 (by simp;omega),cond_false,decide_eq_true (by omega:1<=t.parts.length),Bool.true_and]
  by_cases h':12 < t.parts.length
  ·rw [zB9 (by simp;omega),cond_true,decide_eq_false (by omega)];rfl
  ·rw [zB0 (by simp;omega),cond_false,decide_eq_true (by omega:t.parts.length<=12),Bool.true_and]
   rw [yT9 1001 t hg (by omega) t.parts 0 1001 rfl (by omega) (by omega)]
   unfold yY6
   rw [zU2,Bool.and_assoc]
def wB6:List AV->Option (Bool × AV)
 | [.agg [.int .i64 n,.int .i64 t,.int .i64 g,.fl .part l]]=>some (gTt ⟨n,t,g,l⟩,.bool (bil.totOk E ⟨n,t,g,l⟩))
 | _=>none
def c52:ClS:=addG 93 wB6 c51
theorem snd52:zA1 Tryz.prog c52:=zC2 snd51 mix uD9 .any wB6 fun xs r h=>by
 unfold wB6 at h
 split at h<;>first | (cases h;done) | skip
 rename_i n t g l
 obtain⟨hg,rfl⟩:=Prod.mk.inj (Option.some.inj h)
 exact⟨rfl,_,vC0 ⟨n,t,g,l⟩ hg⟩
def cPs (p:bil.Pst):List AV:=enc .posted p
def zM7 (x y:bil.Ref):Bool:=zC1 x.ser.data.toList y.ser.data.toList&&(eqI x.num y.num&&true)
theorem zL6 (x y:bil.Ref):zM7 x y=decide (x=y):=by
 obtain⟨a,b⟩:=x
 obtain⟨a',b'⟩:=y
 unfold zM7
 rw [zF2,zC5]
 simp only [bil.Ref.mk.injEq]
 by_cases h1:a=a'<;>by_cases h2:b=b'<;>simp [h1,h2]
def hRf (r:bil.Ref):T Blk:=.node .nil (some ⟨.raw [tx r.ser,i64 r.num],1,false⟩) .nil
def xD8:List AV->Mem->Option (Bool × AV × T Blk × Nat)
 | [.agg cs,.ptr 0 0],⟨.node .nil (some ⟨.raw [.str c,.int .i64 n],1,false⟩) .nil,1,0,0⟩=>(match dec .posted cs with
  | some p=>some (true,.bool (decide (bil.Pst.ref p=⟨⟨⟨c⟩⟩,n⟩)),hRf ⟨⟨⟨c⟩⟩,n⟩,1)
  | none=>none)
 | _,_=>none
def c53:ClS:=addN 133 xD8 c52
theorem snd53:zA1 Tryz.prog c53:=zE5 snd52 mix vH1 xD8 fun xs m r h1 n1 h=>by
 unfold xD8 at h
 split at h<;>first | (cases h;done) | skip
 rename_i cs c n
 cases hd:dec .posted cs with
 | none=>rw [hd] at h;cases h
 | some p =>
  rw [hd] at h
  simp only [Option.some.injEq,Prod.mk.injEq] at h
  obtain⟨_,rfl,rfl,rfl⟩:=h
  refine⟨rfl,0,?_⟩
  have hcs:=zK7 hd
  rw [<- hcs]
  have e:∀ p:bil.Pst,zC4 c52 0 wD8 [.agg (cPs p),.ptr 0 0] ⟨.node .nil (some ⟨.raw [.str c,.int .i64 n],1,false⟩) .nil,1,0,0⟩ (fun r m=>zD1 1 r m fun r m=>some (r,m.h,m.nx)) =
   bif (bif false then !zM7 p.ref ⟨⟨⟨c⟩⟩,n⟩ else zM7 p.ref ⟨⟨⟨c⟩⟩,n⟩) then some (.bool true,hRf ⟨⟨⟨c⟩⟩,n⟩,1) else some (.bool false,hRf ⟨⟨⟨c⟩⟩,n⟩,1):=fun p=>by kernel_rfl
  refine (e p).trans ?_
  rw [cond_false,zL6]
  cases decide (p.ref=⟨⟨⟨c⟩⟩,n⟩)<;>rfl
def lpPI (L L':Nat) (l:List bil.Pst) (r:bil.Ref) (n:Int):Option (AV × T Blk × Nat):=zC7 (evS c53 L uO4) uI9 1 L' (stL [(q0,.fl .posted l),(q1,.fn 133 [.ptr 0 0]),(q7,i64 (.ofNat l.length)),(q8,i64 n)]) ⟨hRf r,1,1,1⟩ (uK1 c53 L fun r m=>zD1 1 r m fun r m=>some (r,m.h,m.nx))
theorem yJ4 (L L' n:Nat) (l:List bil.Pst) (r:bil.Ref):lpPI L (Nat.succ L') l r (.ofNat n) =
 bif ltI (.ofNat n) (.ofNat l.length) then bif inI (.ofNat n) l.length then bif decide ((nth (t:=.posted) l n).ref=r) then some (i64 (.ofNat n),hRf r,1) else lpPI L L' l r (zA3 .i64 (.ofNat n+1)) else none
 else some (i64 (-1),hRf r,1):=by kernel_rfl
def pstNm (r:bil.Ref) (x:bil.Pst):Bool:=decide (x.ref=r)
theorem yU2 (L:Nat) (l:List bil.Pst) (hl:l.length < 1000000) (r:bil.Ref):∀ (t:List bil.Pst) (n f:Nat),l.drop n=t->n<=l.length->t.length < f ->
  lpPI L f l r (.ofNat n)=some (i64 (zK8 (pstNm r) n t),hRf r,1)
 | t,n,0,_,_,hf=>by omega
 | [],n,f+1,hd,hn,hf=>by
  rw [yJ4,drop_nil hd hn,zB6 (Nat.le_refl _),cond_false]
  rfl
 | x::t,n,f+1,hd,hn,hf=>by
  obtain⟨h1,h2,h3⟩:=zA5 (t:=.posted) hd
  have ih:=yU2 L l hl r t (n+1) f h3 (by omega) (by simp at hf;omega)
  rw [yJ4,zB4 h1,cond_true,zA9 h1,cond_true,h2,zA2 (by omega),ih,zK8]
  show _=some (i64 (bif decide (x.ref=r) then _ else _),_,_)
  cases decide (x.ref=r)<;>rfl
def wB0:List AV->Mem->Option (Bool × AV × T Blk × Nat)
 | [.fl .posted l,.fn 133 [.ptr 0 0]],⟨.node .nil (some ⟨.raw [.str c,.int .i64 n],1,false⟩) .nil,1,0,0⟩=>some (Nat.blt l.length 1000000,i64 (ixO (bil.findP l ⟨⟨⟨c⟩⟩,n⟩)),hRf ⟨⟨⟨c⟩⟩,n⟩,1)
 | _,_=>none
def c54:ClS:=addN 73 wB0 c53
theorem snd54:zA1 Tryz.prog c54:=zE5 snd53 mix uE7 wB0 fun xs m r h1 n1 h=>by
 unfold wB0 at h
 split at h<;>first | (cases h;done) | skip
 rename_i l c n
 simp only [Option.some.injEq,Prod.mk.injEq] at h
 obtain⟨hg,rfl,rfl,rfl⟩:=h
 refine⟨rfl,l.length+1,?_⟩
 have e:∀ L,zC4 c53 L s_ixPst [.fl .posted l,.fn 133 [.ptr 0 0]] ⟨.node .nil (some ⟨.raw [.str c,.int .i64 n],1,false⟩) .nil,1,0,0⟩ (fun r m=>zD1 1 r m fun r m=>some (r,m.h,m.nx))=lpPI L L l ⟨⟨⟨c⟩⟩,n⟩ (.ofNat 0):=fun L=>by kernel_rfl
 refine (e _).trans ?_
 rw [yU2 _ l (blt_iff.1 hg) ⟨⟨⟨c⟩⟩,n⟩ l 0 _ rfl (by omega) (by omega),zJ3]
 rfl
def vX6:List AV->Option (Bool × AV)
 | [.fl .posted l,.agg [.str c,.int .i64 n]]=>some (Nat.blt l.length 1000000,i64 (ixO (bil.findP l ⟨⟨⟨c⟩⟩,n⟩)))
 | _=>none
def c55:ClS:=xZ7 94 [.lst .posted,.any] vX6 c54
theorem snd55:zA1 Tryz.prog c55:=xZ5 snd54 mix qA5 .any [.lst .posted,.any] vX6 fun xs r h=>by
 unfold vX6 at h
 split at h<;>first | (cases h;done) | skip
 rename_i l c n
 obtain⟨hg,rfl⟩:=Prod.mk.inj (Option.some.inj h)
 refine⟨rfl,0,?_⟩
 have e:zB3 c54 0 uR3 .any [.fl .posted l,.agg [.str c,.int .i64 n]] some=bif Nat.blt l.length 1000000 then some (i64 (ixO (bil.findP l ⟨⟨⟨c⟩⟩,n⟩))) else none:=by kernel_rfl
 rw [e,hg];rfl
theorem yW2:∀ {ps ps':List bil.Pt},bil.backPs ps=some ps'->ps'.length=ps.length/\ps'.all gPb=true
 | [],ps',h=>by
  simp only [bil.backPs,Option.some.injEq] at h
  subst h
  exact⟨rfl,rfl⟩
 | p::ps,ps',h=>by
  unfold bil.backPs at h
  split at h
  ·cases h
  ·rename_i n hn
   split at h
   ·cases h
   ·rename_i x hx
    cases hb:bil.backPs ps with
    | none=>rw [hb] at h;cases h
    | some l =>
     rw [hb] at h
     cases h
     obtain⟨i1,i2⟩:=yW2 hb
     obtain⟨rfl,h1⟩:=bil.negZ_some hn
     obtain⟨rfl,h2⟩:=bil.negZ_some hx
     refine⟨by rw [List.length_cons,List.length_cons,i1],?_⟩
     rw [List.all_cons,i2,Bool.and_true]
     unfold gPb
     rw [gI_iff.2 h1,gI_iff.2 h2];rfl
theorem xC8 {t t':bil.Tot} (h:bil.backF t=some t'):t'.parts.length=t.parts.length/\(t.parts.length < 1000->gTt t'=true):=by
 unfold bil.backF at h
 split at h
 ·cases h
 ·rename_i n hn
  split at h
  ·cases h
  ·rename_i x hx
   split at h
   ·cases h
   ·rename_i g hg
    cases hb:bil.backPs t.parts with
    | none=>rw [hb] at h;cases h
    | some l =>
     rw [hb] at h
     cases h
     obtain⟨i1,i2⟩:=yW2 hb
     obtain⟨rfl,h1⟩:=bil.negZ_some hn
     obtain⟨rfl,h2⟩:=bil.negZ_some hx
     obtain⟨rfl,h3⟩:=bil.negZ_some hg
     exact⟨i1,fun hl=>gTt_iff.2 ⟨gI_iff.2 h1,gI_iff.2 h2,gI_iff.2 h3,i2,by rw [i1];exact hl⟩⟩
theorem uN8 {t t':bil.Tot} (h:bil.backF t=some t'):t'.parts.length=t.parts.length:=(xC8 h).1
def gPs (p:bil.Pst):Bool:=gTt p.tot&&!p.tot.parts.isEmpty
def nPs (l:List bil.Pst) (n:Nat):bil.Pst:=nth (t:=.posted) l n
theorem uS7 {t:bil.Tot} (h:gTt t=true) (hne:t.parts.isEmpty=false):gTo t=true:=by
 obtain⟨a,b,c,d,e⟩:=gTt_iff.1 h
 unfold gTo
 rw [a,b,c,d,hne,zA0 e];rfl
theorem vC1 (p q:bil.Pst) (hq:gPs q=true):zB3 c55 0 xT5 .any [.agg (cPs p),.agg (cPs q)] some=some (.bool (bil.takesF E p q)):=by
 have e:zB3 c55 0 xT5 .any [.agg (cPs p),.agg (cPs q)] some=bif gTo q.tot then bif (bif false then !zM7 q.of_ bil.Ref.z else zM7 q.of_ bil.Ref.z) then bif bil.beforeF E p.day q.day then some (.bool false) else
   bif eqI (zZ3 q.tot).2 0 then bif Nat.blt (zZ3 q.tot).1.parts.length 1000000 then bif decide ((zZ3 q.tot).1=p.tot) then some (.bool true) else some (.bool false) else none else some (.bool false) else some (.bool false) else none:=by kernel_rfl
 unfold gPs at hq
 rw [Bool.and_eq_true,Bool.not_eq_true'] at hq
 rw [e,uS7 hq.1 hq.2,cond_true,cond_false,zL6]
 unfold bil.takesF
 by_cases h1:q.of_=bil.Ref.z
 ·rw [decide_eq_true h1,cond_true]
  cases bil.beforeF E p.day q.day with
  | true=>rfl
  | false =>
   unfold zZ3
   cases hb:bil.backF q.tot with
   | none=>rfl
   | some x =>
    have:=uN8 hb
    obtain⟨_,_,_,_,hl⟩:=gTt_iff.1 hq.1
    show (bif Nat.blt x.parts.length 1000000 then bif decide (x=p.tot) then _ else _ else _)=_
    rw [zA0 (by omega),cond_true]
    by_cases h2:x=p.tot
    ·rw [decide_eq_true h2];simp [h2]
    ·rw [decide_eq_false h2];simp [h2]
 ·rw [decide_eq_false h1];rfl
def wB7:List AV->Option (Bool × AV)
 | [.agg cs,.agg ds]=>(match dec .posted cs with
  | some p=>(match dec .posted ds with
   | some q=>some (gPs q,.bool (bil.takesF E p q))
   | none=>none)
  | none=>none)
 | _=>none
def c56:ClS:=addG 95 wB7 c55
theorem snd56:zA1 Tryz.prog c56:=zC2 snd55 mix uE0 .any wB7 fun xs r h=>by
 unfold wB7 at h
 split at h<;>first | (cases h;done) | skip
 rename_i cs ds
 cases hd:dec .posted cs with
 | none=>rw [hd] at h;cases h
 | some p =>
  rw [hd] at h
  cases hd2:dec .posted ds with
  | none=>rw [hd2] at h;cases h
  | some q =>
   rw [hd2] at h
   obtain⟨hg,rfl⟩:=Prod.mk.inj (Option.some.inj h)
   rw [<- zK7 hd,<- zK7 hd2]
   exact⟨rfl,0,vC1 p q hg⟩
def hPs (p:bil.Pst):T Blk:=.node .nil (some ⟨.raw (cPs p),1,false⟩) .nil
def wA8:List AV->Mem->Option (Bool × AV × T Blk × Nat)
 | [.agg [.str c,.int .i64 _n,.int .i64 _l,.bool _s],.ptr 0 0],⟨.node .nil (some ⟨.raw cs,1,false⟩) .nil,1,0,0⟩=>(match dec .posted cs with
  | some p=>some (true,.bool (zC1 c p.ref.ser.data.toList),hPs p,1)
  | none=>none)
 | _,_=>none
def c57:ClS:=addN 96 wA8 c56
theorem snd57:zA1 Tryz.prog c57:=zE5 snd56 mix uE3 wA8 fun xs m r h1 n1 h=>by
 unfold wA8 at h
 split at h<;>first | (cases h;done) | skip
 rename_i c n l s cs
 cases hd:dec .posted cs with
 | none=>rw [hd] at h;cases h
 | some p =>
  rw [hd] at h
  simp only [Option.some.injEq,Prod.mk.injEq] at h
  obtain⟨_,rfl,rfl,rfl⟩:=h
  refine⟨rfl,0,?_⟩
  rw [<- zK7 hd]
  have e:zC4 c56 0 vB0 [.agg [.str c,i64 n,i64 l,.bool s],.ptr 0 0] ⟨hPs p,1,0,0⟩ (fun r m=>zD1 1 r m fun r m=>some (r,m.h,m.nx)) =
   bif zC1 c p.ref.ser.data.toList then some (.bool true,hPs p,1) else some (.bool false,hPs p,1):=by kernel_rfl
  refine e.trans ?_
  cases zC1 c p.ref.ser.data.toList<;>rfl
def lpNJ (L L':Nat) (l:List bil.Sr) (p:bil.Pst) (n:Int):Option (AV × T Blk × Nat):=zC7 (evS c57 L vT1) vL5 1 L' (stL [(q0,.fl .series l),(q1,.fn 96 [.ptr 0 0]),(q7,i64 (.ofNat l.length)),(q8,i64 n)]) ⟨hPs p,1,1,1⟩ (vM7 c57 L fun r m=>zD1 1 r m fun r m=>some (r,m.h,m.nx))
theorem yS5 (L L' n:Nat) (l:List bil.Sr) (p:bil.Pst):lpNJ L (Nat.succ L') l p (.ofNat n) =
 bif ltI (.ofNat n) (.ofNat l.length) then bif inI (.ofNat n) l.length then bif zC1 (nth (t:=.series) l n).name.data.toList p.ref.ser.data.toList then some (i64 (.ofNat n),hPs p,1) else lpNJ L L' l p (zA3 .i64 (.ofNat n+1)) else none
 else some (i64 (-1),hPs p,1):=by kernel_rfl
theorem xM3 (L:Nat) (l:List bil.Sr) (hl:l.length < 1000000) (p:bil.Pst):∀ (t:List bil.Sr) (n f:Nat),l.drop n=t->n<=l.length->t.length < f ->
  lpNJ L f l p (.ofNat n)=some (i64 (zK8 (srNm p.ref.ser) n t),hPs p,1)
 | t,n,0,_,_,hf=>by omega
 | [],n,f+1,hd,hn,hf=>by
  rw [yS5,drop_nil hd hn,zB6 (Nat.le_refl _),cond_false]
  rfl
 | x::t,n,f+1,hd,hn,hf=>by
  obtain⟨h1,h2,h3⟩:=zA5 (t:=.series) hd
  have ih:=xM3 L l hl p t (n+1) f h3 (by omega) (by simp at hf;omega)
  rw [yS5,zB4 h1,cond_true,zA9 h1,cond_true,h2,zA2 (by omega),ih,zF2,zK8]
  show _=some (i64 (bif decide (x.name=_) then _ else _),_,_)
  cases decide (x.name=p.ref.ser)<;>rfl
def vW5:List AV->Mem->Option (Bool × AV × T Blk × Nat)
 | [.fl .series l,.fn 96 [.ptr 0 0]],⟨.node .nil (some ⟨.raw cs,1,false⟩) .nil,1,0,0⟩=>(match dec .posted cs with
  | some p=>some (Nat.blt l.length 1000000,i64 (ixO (bil.srAt l p.ref.ser)),hPs p,1)
  | none=>none)
 | _,_=>none
def c58:ClS:=addN 70 vW5 c57
theorem snd58:zA1 Tryz.prog c58:=zE5 snd57 mix vG8 vW5 fun xs m r h1 n1 h=>by
 unfold vW5 at h
 split at h<;>first | (cases h;done) | skip
 rename_i l cs
 cases hd:dec .posted cs with
 | none=>rw [hd] at h;cases h
 | some p =>
  rw [hd] at h
  simp only [Option.some.injEq,Prod.mk.injEq] at h
  obtain⟨hg,rfl,rfl,rfl⟩:=h
  refine⟨rfl,l.length+1,?_⟩
  rw [<- zK7 hd]
  have e:∀ L,zC4 c57 L s_ixSr [.fl .series l,.fn 96 [.ptr 0 0]] ⟨hPs p,1,0,0⟩ (fun r m=>zD1 1 r m fun r m=>some (r,m.h,m.nx))=lpNJ L L l p (.ofNat 0):=fun L=>by kernel_rfl
  refine (e _).trans ?_
  rw [xM3 _ l (blt_iff.1 hg) p l 0 _ rfl (by omega) (by omega),zJ3]
  rfl
def mAr (a:List Int):Mem:=⟨T.nil.node (some ⟨.ls .int a,1,false⟩) T.nil,1,1,1⟩
def lpPo (L L':Nat) (l:List bil.Pst) (a:List Int) (n:Int):Option AV:=zC7 (evS c58 L vS9) vL3 0 L' (stL [(q0,.fl .posted l),(q3,.ptr 0 0),(q12,.fl .posted l),(q13,i64 (.ofNat l.length)),(q14,i64 n)]) (mAr a) (vM5 c58 L fun r m=>frzK m .any r some)
def lpPb (L L':Nat) (l:List bil.Pst) (a:List Int) (n:Int):Option AV:=zC7 (evS c58 L vS1) vK5 0 L' (stL [(q3,.ptr 0 0),(q56,.fl .posted l),(q57,i64 (.ofNat l.length)),(q58,i64 n)]) (mAr a) (vL9 c58 L fun r m=>frzK m .any r some)
def nI (a:List Int) (n:Nat):Int:=nth (t:=.int) a n
def ixL (l:List bil.Pst) (n:Nat):Int:=ixO (bil.findP (l.take n) (nPs l n).of_)
theorem yD6 (L L' n:Nat) (l:List bil.Pst) (a:List Int):lpPo L (Nat.succ L') l a (.ofNat n) =
 bif ltI (.ofNat n) (.ofNat l.length) then bif inI (.ofNat n) l.length then bif bil.dayF E (nPs l n).day then bif gTt (nPs l n).tot then bif bil.totOk E (nPs l n).tot then
  bif (bif false then !zM7 (nPs l n).of_ bil.Ref.z else zM7 (nPs l n).of_ bil.Ref.z) then lpPo L L' l a (zA3 .i64 (.ofNat n+1)) else
   bif inI (.ofNat n) (l.length+1) then bif true&&(true&&true)&&Nat.blt (l.take n).length 1000000 then bif ltI (ixL l n) 0 then some (.bool false) else bif inI (ixL l n) l.length then bif gPs (nPs l (ixL l n).toNat) then bif bil.takesF E (nPs l n) (nPs l (ixL l n).toNat) then
    bif inI (ixL l n) 40 then bif Nat.blt (ixL l n).toNat a.length then bif inI (ixL l n) 40 then bif Nat.blt (ixL l n).toNat a.length then lpPo L L' l (a.set (ixL l n).toNat (zA3 .i64 (nI a (ixL l n).toNat+1))) (zA3 .i64 (.ofNat n+1)) else none else none else none else none
    else some (.bool false) else none else none else none else none
  else some (.bool false) else none else some (.bool false) else none else lpPb L L l a 0:=by kernel_rfl
theorem zW7 (L L' n:Nat) (l:List bil.Pst) (a:List Int):lpPb L (Nat.succ L') l a (.ofNat n) =
 bif ltI (.ofNat n) (.ofNat l.length) then bif inI (.ofNat n) l.length then bif inI (.ofNat n) 40 then bif Nat.blt n a.length then bif ltI 1 (nI a n) then some (.bool false) else
  bif (nPs l n).back then bif inI (.ofNat n) 40 then bif Nat.blt n a.length then bif eqI (nI a n) 1 then lpPb L L' l a (zA3 .i64 (.ofNat n+1)) else some (.bool false) else none else none
  else bif inI (.ofNat n) 40 then bif Nat.blt n a.length then bif eqI (nI a n) 1 then some (.bool false) else lpPb L L' l a (zA3 .i64 (.ofNat n+1)) else none else none
 else none else none else none else some (.bool true):=by kernel_rfl
def cntP (l:List bil.Pst) (n k:Nat):Nat:=((List.range n).filter fun j=>decide (bil.backsTo l j=some k)).length
theorem xQ8 (l:List bil.Pst) (n k:Nat):cntP l (n+1) k=cntP l n k+if bil.backsTo l n=some k then 1 else 0:=by
 unfold cntP
 rw [List.range_succ,List.filter_append,List.length_append]
 congr 1
 by_cases h:bil.backsTo l n=some k<;>simp [h]
theorem qG0 (l:List bil.Pst) (n k:Nat):cntP l n k<=n:=by
 unfold cntP
 have:=List.length_filter_le (fun j=>decide (bil.backsTo l j=some k)) (List.range n)
 rw [List.length_range] at this
 exact this
def cA (l:List bil.Pst) (n:Nat):List Int:=(List.range 40).map fun k=>.ofNat (cntP l n k)
theorem xQ9 (l:List bil.Pst) (n:Nat):(cA l n).length=40:=by unfold cA;rw [List.length_map,List.length_range]
theorem uT4 (l:List bil.Pst) (n:Nat) {k:Nat} (h:k < 40):nI (cA l n) k=.ofNat (cntP l n k):=by
 have:(cA l n)[k]?=some (.ofNat (cntP l n k)):=by
  unfold cA
  rw [List.getElem?_map,List.getElem?_range h];rfl
 rw [zK6 (t:=.int) (by rw [xQ9];exact h)] at this
 exact Option.some.inj this
theorem vR3 {l:List bil.Pst} {n:Nat} (h:bil.backsTo l n=none):cA l (n+1)=cA l n:=by
 unfold cA
 refine List.map_congr_left fun k _=>?_
 rw [xQ8,h,if_neg (by simp)];rfl
theorem qG5 {l:List bil.Pst} {n k:Nat} (hk:k < 40) (h:bil.backsTo l n=some k):cA l (n+1)=(cA l n).set k (.ofNat (cntP l n k+1)):=by
 refine List.ext_getElem? fun j=>?_
 by_cases hj:j < 40
 ·rw [List.getElem?_set]
  unfold cA
  rw [List.getElem?_map,List.getElem?_map,List.getElem?_range hj,List.length_map,List.length_range,Option.map_some,Option.map_some,xQ8,h]
  by_cases hkj:k=j
  ·subst hkj
   simp [hk]
  ·simp [hkj]
 ·rw [List.getElem?_eq_none (by rw [xQ9];omega),List.getElem?_eq_none (by rw [List.length_set,xQ9];omega)]
theorem zK4 {l:List bil.Pst} {n:Nat} (h:n < l.length):l[n]?=some (nPs l n):=zK6 (t:=.posted) h
theorem yE6 (L:Nat) (l:List bil.Pst) (h:bil.PostedOk E l):∀ (t:List bil.Pst) (n f:Nat),l.drop n=t->n<=l.length->t.length < f->lpPb L f l (cA l l.length) (.ofNat n)=some (.bool true)
 | t,n,0,_,_,hf=>by omega
 | [],n,f+1,hd,hn,hf=>by
  rw [zW7,drop_nil hd hn,zB6 (Nat.le_refl _),cond_false]
 | x::t,n,f+1,hd,hn,hf=>by
  obtain⟨h1,h2,h3⟩:=zA5 (t:=.posted) hd
  have ih:=yE6 L l h t (n+1) f h3 (by omega) (by simp at hf;omega)
  have hlen:=h.len
  obtain⟨k1,k2⟩:=h.back n _ (zK4 h1)
  have hc:bil.cntB l n=cntP l l.length n:=rfl
  rw [hc] at k1 k2
  rw [zW7,zB4 h1,cond_true,zA9 h1,cond_true,zA9 (by omega:n < 40),cond_true,zA0 (by rw [xQ9];omega),cond_true,uT4 l _ (by omega),zB0 (by simp;omega),cond_false,zA2 (by omega),ih,zC5]
  cases hb:(nPs l n).back with
  | true =>
   rw [cond_true,cond_true,cond_true,k2.1 hb];rfl
  | false =>
   have:cntP l l.length n=0:=by
    rcases Nat.lt_or_ge (cntP l l.length n) 1 with h | h
    ·omega
    ·have:=k2.2 (by omega)
     rw [hb] at this;cases this
   rw [cond_false,cond_true,cond_true,this];rfl
theorem yL3 (L:Nat) (l:List bil.Pst) (h:bil.PostedOk E l) (hg:l.all gPs=true) (hL:l.length < L):∀ (t:List bil.Pst) (n f:Nat),l.drop n=t->n<=l.length->t.length < f->lpPo L f l (cA l n) (.ofNat n)=some (.bool true)
 | t,n,0,_,_,hf=>by omega
 | [],n,f+1,hd,hn,hf=>by
  rw [yD6,drop_nil hd hn,zB6 (Nat.le_refl _),cond_false]
  exact yE6 L l h l 0 L rfl (by omega) hL
 | x::t,n,f+1,hd,hn,hf=>by
  obtain⟨h1,h2,h3⟩:=zA5 (t:=.posted) hd
  have ih:=yL3 L l h hg hL t (n+1) f h3 (by omega) (by simp at hf;omega)
  have hlen:=h.len
  have hget:=zK4 h1
  have hmem:=List.mem_of_getElem? hget
  obtain⟨d1,d2⟩:=h.tot _ hmem
  have g1:=List.all_eq_true.1 hg _ hmem
  have g2:gTt (nPs l n).tot=true:=by
   unfold gPs at g1
   rw [Bool.and_eq_true] at g1
   exact g1.1
  rw [yD6,zB4 h1,cond_true,zA9 h1,cond_true,d1,cond_true,g2,cond_true,d2,cond_true,cond_false,zL6,zA2 (by omega)]
  rcases h.of_ n _ hget with h0 | ⟨k,q,e1,e2,e3⟩
  ·rw [decide_eq_true h0,cond_true]
   have hbt:bil.backsTo l n=none:=by
    unfold bil.backsTo
    rw [hget]
    simp only [h0,if_true]
   rw [<- vR3 hbt]
   exact ih
  ·by_cases h0:(nPs l n).of_=bil.Ref.z
   ·rw [decide_eq_true h0,cond_true]
    have hbt:bil.backsTo l n=none:=by
     unfold bil.backsTo
     rw [hget]
     simp only [h0,if_true]
    rw [<- vR3 hbt]
    exact ih
   ·have hbt:bil.backsTo l n=some k:=by
     unfold bil.backsTo
     rw [hget]
     simp only [h0,if_false]
     exact e1
    have hk:=(bil.backs_lt hbt).1
    have hix:ixL l n=.ofNat k:=by unfold ixL;rw [e1];rfl
    have hq:nPs l k=q:=by
     have:=zK4 (l:=l) (n:=k) (by omega)
     rw [e2] at this
     exact (Option.some.inj this).symm
    have g3:=List.all_eq_true.1 hg _ (List.mem_of_getElem? e2)
    rw [decide_eq_false h0,cond_false,zA9 (by omega),cond_true,zA0 (by rw [List.length_take];omega),hix,zF9,hq,zB0 (by simp only [Int.ofNat_eq_natCast];omega),cond_false,zA9 (by omega:k < l.length),cond_true,g3,cond_true,e3,cond_true,zA9 (by omega:k < 40),cond_true,zA0 (by rw [xQ9];omega),cond_true,cond_true,cond_true,uT4 l n (by omega)]
    have:=qG0 l n k
    rw [zA2 (by omega),<- qG5 (by omega) hbt]
    exact ih
theorem wO2 (l:List bil.Pst) (h:bil.PostedOk E l) (hg:l.all gPs=true):zB3 c58 41 s_posted .any [.fl .posted l] some=some (.bool true):=by
 have e:∀ L,zB3 c58 L s_posted .any [.fl .posted l] some=bif ltI 40 (.ofNat l.length) then some (.bool false) else lpPo L L l (cA l 0) (.ofNat 0):=fun L=>by kernel_rfl
 have hlen:=h.len
 rw [e,zB0 (by simp only [Int.ofNat_eq_natCast];omega),cond_false]
 exact yL3 41 l h hg (by omega) l 0 41 rfl (by omega) (by omega)
open Classical in
noncomputable def xF3:List AV->Option (Bool × AV)
 | [.fl .posted l]=>some (decide (bil.PostedOk E l)&&l.all gPs,.bool true)
 | _=>none
noncomputable def c59:ClS:=addG 45 xF3 c58
theorem snd59:zA1 Tryz.prog c59:=zC2 snd58 mix vG3 .any xF3 fun xs r h=>by
 unfold xF3 at h
 split at h<;>first | (cases h;done) | skip
 obtain⟨hg,rfl⟩:=Prod.mk.inj (Option.some.inj h)
 rw [Bool.and_eq_true] at hg
 exact⟨rfl,_,wO2 _ (@of_decide_eq_true _ (Classical.propDecidable _) hg.1) hg.2⟩
end Go.Proofs.YtpccdcnjkknmkaaGreatDoor.Ev
namespace Go.Proofs.YtpccdcnjkknmkaaGreatDoor.bil
section
variable (E:Env)
theorem qG6 {s:St} {c:Cd} (h:StOk E s):StOk E (billF E s c).1:=by
 unfold billF
 split
 ·exact h
 ·rename_i t ht
  obtain⟨htk,_⟩:=totalF_ok E ht
  have hday:dayF E c.day=true:=by
   unfold totalF at ht
   split at ht
   ·cases ht
   ·split at ht
    ·cases ht
    ·rename_i hd
     simpa using hd
  cases hi:issueF E s c.series ⟨Ref.z,c.day,t,Ref.z,false⟩ with
  | mk s' r =>
   rcases wJ3 E h hi with⟨_,rfl⟩ | ⟨_,n,l,b,rfl,hl,h1,h2,h3⟩
   ·exact h
   ·exact⟨h.table,h1,h.sess,h.next,xV1 E h.posted hl hday htk rfl rfl,h2,h3⟩
theorem vQ5 {s:St} {c:Cd} (h:StOk E s):StOk E (creditF E s c).1:=by
 unfold creditF
 split
 ·exact h
 ·rename_i k hk
  split
  ·exact h
  ·rename_i p hp
   split
   ·exact h
   ·rename_i hb
    split
    ·exact h
    ·rename_i hd
     split
     ·exact h
     ·rename_i t ht
      have hpm:p∈s.posted:=List.mem_of_getElem? hp
      have hkl:k < s.posted.length:=(findIdx_lt hk).1
      have hoz:c.of_≠Ref.z:=fun he=>by
       obtain⟨_,q,hq,hqe⟩:=findIdx_lt hk
       have hq2:q.ref=Ref.z:=by rw [<- he];simpa using hqe
       have:=h.numbers.num k q hq
       rw [hq2] at this
       simp only [Ref.z] at this
       omega
      have hback:p.back=false:=by
       cases hbb:p.back
       ·rfl
       ·exact absurd (.inl hbb) hb
      have hpo:p.of_=Ref.z:=Classical.byContradiction fun he=>hb (.inr he)
      have hday:dayF E c.day=true:=by
       cases hbb:dayF E c.day
       ·exact absurd (.inl hbb) hd
       ·rfl
      have hnb:beforeF E c.day p.day=false:=by
       cases hbb:beforeF E c.day p.day
       ·rfl
       ·exact absurd (.inr hbb) hd
      cases hi:issueF E s c.series ⟨Ref.z,c.day,t,c.of_,false⟩ with
      | mk s' r =>
       rcases wJ3 E h hi with⟨hr,rfl⟩ | ⟨hr,n,l,b,rfl,hl,h1,h2,h3⟩
       ·simp only
        rw [if_neg hr]
        exact h
       ·simp only
        rw [if_pos hr]
        have hp2:(s.posted++[({ ref:=⟨c.series,n⟩,day:=c.day,tot:=t,of_:=c.of_,back:=false }:Pst)])[k]?=some p:=by rw [List.getElem?_append_left hkl];exact hp
        have hmap:((s.posted++[({ ref:=⟨c.series,n⟩,day:=c.day,tot:=t,of_:=c.of_,back:=false }:Pst)]).set k { p with back:=true }).map (·.ref)=(s.posted++[({ ref:=⟨c.series,n⟩,day:=c.day,tot:=t,of_:=c.of_,back:=false }:Pst)]).map (·.ref):=by
         rw [List.map_set]
         refine List.ext_getElem? fun i=>?_
         by_cases hik:k=i
         ·subst hik
          rw [List.getElem?_set_self (by rw [List.length_map,List.length_append];omega),List.getElem?_map,hp2]
          rfl
         ·rw [List.getElem?_set_ne hik]
        refine⟨h.table,h1,h.sess,h.next,?_,xV9 hmap h2,?_⟩
        ·refine yY7 E h.posted hl hday (backF_ok E (h.posted.tot p hpm).2 ht) hoz rfl hk hp hback ?_
         unfold takesF
         simp [hpo,hnb,ht]
        ·show bookedF [] _=some b
         rw [xY7 hp2]
         exact h3
theorem xL1 {l:List Sr} {p:List Pst} {l':List Sr} {name:ByteArray} {limit:Int} (hn:NumbersOk l p) (h:srOpen E l name limit=(l',0)):NumbersOk l' p:=by
 unfold srOpen at h
 split at h
 ·cases h
 ·split at h
  ·cases h
  ·split at h
   ·cases h
   ·split at h
    ·cases h
    ·rename_i h4
     split at h
     ·cases h
     ·simp only [Prod.mk.injEq,and_true] at h
      subst h
      have hnew:∀ x∈l,x.name≠name:=fun x hx he=>h4 (by
       rw [List.any_eq_true]
       exact⟨x,hx,by simp [he]⟩)
      refine⟨fun q hq=>?_,hn.num,fun x hx=>?_⟩
      ·obtain⟨x,hx,he⟩:=hn.ser q hq
       exact⟨x,insF_mem.2 (.inr hx),he⟩
      ·rcases insF_mem.1 hx with rfl | hx
       ·simp only
        have h0:cntS p name=0:=by
         unfold cntS
         rw [List.length_eq_zero_iff,List.filter_eq_nil_iff]
         intro q hq he
         obtain⟨x,hx,hxe⟩:=hn.ser q hq
         exact hnew x hx (hxe.trans (by simpa using he))
        rw [h0]
        rfl
       ·exact hn.next x hx
theorem uW2 {l l':List Sr} {p:List Pst} {name:ByteArray} (hs:srRight E l=true) (hn:NumbersOk l p) (h:srShutF E l name=(l',0)):srRight E l'=true/\NumbersOk l' p:=by
 unfold srShutF at h
 split at h
 rename_i k e hf
 split at h
 ·rename_i he
  have:=congrArg Prod.snd h
  exact absurd this he
 ·rename_i he
  have he0:e=0:=by simpa using he
  subst he0
  obtain⟨x,hx,_,_⟩:=vO6 E hf
  rw [hx] at h
  simp only [Prod.mk.injEq,and_true] at h
  subst h
  have hxm:x∈l:=List.mem_of_getElem? hx
  have hkl:k < l.length:=by
   rcases Nat.lt_or_ge k l.length with h | h
   ·exact h
   ·rw [List.getElem?_eq_none h] at hx;cases hx
  have hxo:srOk E x=true:=by
   unfold srRight at hs
   simp only [Bool.and_eq_true,List.all_eq_true] at hs
   exact hs.2.1 x hxm
  refine⟨yI5 E hs hx rfl hxo,fun q hq=>?_,hn.num,fun y hy=>?_⟩
  ·obtain⟨y,hy,he⟩:=hn.ser q hq
   obtain⟨i,hi⟩:=List.getElem?_of_mem hy
   by_cases hik:k=i
   ·subst hik
    rw [hx] at hi
    cases hi
    exact⟨_,List.mem_of_getElem? (List.getElem?_set_self hkl),he⟩
   ·exact⟨y,List.mem_of_getElem? (by rw [List.getElem?_set_ne hik];exact hi),he⟩
  ·rcases List.mem_or_eq_of_mem_set hy with hy | rfl
   ·exact hn.next y hy
   ·exact hn.next x hxm
theorem uH7 {l l':List Ses} {id:Int} (hs:sesRight l=true) (h:sesLeave l id=(l',0)):sesRight l'=true/\∀ x∈l',x∈l:=by
 unfold sesLeave at h
 split at h
 ·cases h
 ·rename_i k hk
  simp only [Prod.mk.injEq,and_true] at h
  subst h
  rw [sesRight_iff] at hs ⊢
  obtain⟨h1,h2,h3,h4⟩:=hs
  have hm:∀ x∈l.eraseIdx k,x∈l:=fun x hx=>List.mem_of_mem_eraseIdx hx
  exact⟨⟨Nat.le_trans (List.length_eraseIdx_le ..) h1,fun x hx=>h2 x (hm x hx),fun x hx=>h3 x (hm x hx),h4.sublist (List.eraseIdx_sublist ..)⟩,hm⟩
theorem do_ok {s:St} {c:Cd} (h:StOk E s):StOk E (doF E s c).1:=by
 unfold doF
 split
 ·simp only
  split
  ·rename_i h0
   have e:srOpen E s.series c.series c.limit=((srOpen E s.series c.series c.limit).1,0):=by rw [<- h0]
   exact⟨h.table,xG8 E e,h.sess,h.next,h.posted,xL1 E h.numbers e,h.book⟩
  ·exact h
 ·split
  ·simp only
   split
   ·rename_i h0
    have e:srShutF E s.series c.series=((srShutF E s.series c.series).1,0):=by rw [<- h0]
    obtain⟨a,b⟩:=uW2 E h.series h.numbers e
    exact⟨h.table,a,h.sess,h.next,h.posted,b,h.book⟩
   ·exact h
  ·split
   ·simp only
    split
    ·rename_i h0
     have e:vatPut E s.table c.row=((vatPut E s.table c.row).1,0):=by rw [<- h0]
     exact⟨xF7 E e,h.series,h.sess,h.next,h.posted,h.numbers,h.book⟩
    ·exact h
   ·split
    ·exact qG6 E h
    ·split
     ·exact vQ5 E h
     ·split
      ·simp only
       split
       ·rename_i h0
        have e:sesLeave s.sess c.session=((sesLeave s.sess c.session).1,0):=by rw [<- h0]
        obtain⟨a,b⟩:=uH7 h.sess e
        exact⟨h.table,h.series,a,⟨h.next.1,h.next.2.1,fun x hx=>h.next.2.2 x (b x hx)⟩,h.posted,h.numbers,h.book⟩
       ·exact h
      ·exact h
theorem qD1 {l:List Ses} {id seq:Int} {r:Rp} {nx:Int} (hs:sesRight l=true) (hn:∀ x∈l,x.id < nx):sesRight (keepF l id seq r)=true/\∀ x∈keepF l id seq r,x.id < nx:=by
 unfold keepF
 split
 ·exact⟨hs,hn⟩
 ·rename_i rr had hlk
  split
  ·exact⟨hs,hn⟩
  ·rename_i hhad
   split
   ·exact⟨hs,hn⟩
   ·rename_i k hk
    split
    ·exact⟨hs,hn⟩
    ·rename_i x hx
     have hxm:x∈l:=List.mem_of_getElem? hx
     have hseq:1<=seq/\seq<=1099511627776:=by
      unfold lookF at hlk
      rw [hk] at hlk
      simp only [hx] at hlk
      split at hlk
      ·cases hlk
      ·omega
     rw [sesRight_iff] at hs ⊢
     obtain⟨h1,h2,h3,h4⟩:=hs
     refine⟨⟨by rw [List.length_set];exact h1,fun y hy=>?_,fun y hy=>?_,vD7 h4 hx (fun z hz=>hz) (fun z hz=>hz)⟩,fun y hy=>?_⟩
     ·rcases List.mem_or_eq_of_mem_set hy with hy | rfl
      ·exact h2 y hy
      ·unfold sesOk
       simp only [Bool.and_eq_true,Bool.or_eq_true,decide_eq_true_eq]
       exact⟨by omega,by omega,.inl (by omega)⟩
     ·rcases List.mem_or_eq_of_mem_set hy with hy | rfl
      ·exact h3 y hy
      ·exact h3 x hxm
     ·rcases List.mem_or_eq_of_mem_set hy with hy | rfl
      ·exact hn y hy
      ·exact hn x hxm
theorem qD9 {s:St} (h:StOk E s):StOk E (joinF s).1:=by
 unfold joinF
 split
 ·exact h
 ·rename_i hc
  have hs:=h.sess
  rw [sesRight_iff] at hs
  obtain⟨h1,h2,h3,h4⟩:=hs
  obtain⟨n1,n2,n3⟩:=h.next
  have hc':s.sess.length < 8/\s.next < 1099511627776:=by
   constructor
   ·exact Nat.lt_of_not_le fun he=>hc (.inl he)
   ·exact Int.lt_of_not_ge fun he=>hc (.inr he)
  refine⟨h.table,h.series,?_,⟨by simp only;omega,by simp only;omega,fun x hx=>?_⟩,h.posted,h.numbers,h.book⟩
  ·simp only
   rw [sesRight_iff]
   refine⟨by rw [insF_len];omega,fun x hx=>?_,fun x hx=>?_,xW9 sesLt_trans h4 fun x hx=>?_⟩
   ·rcases insF_mem.1 hx with rfl | hx
    ·rfl
    ·exact h2 x hx
   ·rcases insF_mem.1 hx with rfl | hx
    ·simp only;omega
    ·exact h3 x hx
   ·left
    unfold sesLt
    simpa using n3 x hx
  ·simp only at hx ⊢
   rcases insF_mem.1 hx with rfl | hx
   ·simp only;omega
   ·have:=n3 x hx
    omega
theorem apply_ok {s:St} {c:Ca} (h:StOk E s):StOk E (applyF E s c).1:=by
 unfold applyF
 split
 ·exact h
 ·split
  ·exact qD9 E h
  ·split
   ·exact h
   ·split
    ·exact h
    ·cases hd:doF E s c.cmd with
     | mk s' r =>
      have h':StOk E s':=by
       have:=do_ok E (c:=c.cmd) h
       rw [hd] at this
       exact this
      obtain⟨a,b⟩:=qD1 (id:=c.session) (seq:=c.seq) (r:=r) h'.sess h'.next.2.2
      exact⟨h'.table,h'.series,a,⟨h'.next.1,h'.next.2.1,b⟩,h'.posted,h'.numbers,h'.book⟩
theorem new_ok:StOk E ⟨[],[],[],[],[],1⟩:=by
 refine⟨by rfl,by rfl,by rfl,⟨by simp,by simp,fun x hx=>by cases hx⟩,⟨by simp,fun p hp=>(by cases hp),fun i p hp=>(by simp at hp),fun i p hp=>(by simp at hp)⟩,⟨fun p hp=>(by cases hp),fun i p hp=>(by simp at hp),fun x hx=>(by cases hx)⟩,rfl⟩
end
section
variable (E:Env)
def qY7 (l:List Ses):Prop:=∀ x∈l,x.rep.why≠15
theorem vQ0 (s:St) (c:Cd) (h:qY7 s.sess):qY7 (doF E s c).1.sess:=by
 have hi:∀ n p,(issueF E s n p).1.sess=s.sess:=fun n p=>by
  unfold issueF
  repeat' split
  all_goals rfl
 unfold doF
 split
 ·simp only
  split
  ·exact h
  ·exact h
 ·split
  ·simp only
   split
   ·exact h
   ·exact h
  ·split
   ·simp only
    split
    ·exact h
    ·exact h
   ·split
    ·unfold billF
     split
     ·exact h
     ·rw [hi]
      exact h
    ·split
     ·unfold creditF
      repeat' split
      all_goals first
       | exact h
       | (rename_i s' r hr hw;have:=hi c.series;simp only;rename_i t ht;have e:=hi c.series ⟨Ref.z,c.day,t,c.of_,false⟩;rw [hr] at e;simp only at e;rw [e];exact h)
       | skip
      all_goals first
       | (rename_i t ht _ s' r hr _;have e:=hi c.series ⟨Ref.z,c.day,t,c.of_,false⟩;rw [hr] at e;simp only at e ⊢;rw [e];exact h)
     ·split
      ·simp only
       split
       ·unfold sesLeave
        split
        ·intro x hx;cases hx
        ·exact fun x hx=>h x (List.mem_of_mem_eraseIdx hx)
       ·exact h
      ·exact h
end
end Go.Proofs.YtpccdcnjkknmkaaGreatDoor.bil
namespace Go.Proofs.YtpccdcnjkknmkaaGreatDoor.Ev
open Go
noncomputable section
def cSt (s:bil.St):List AV:=[.fl .rate s.table,.fl .series s.series,.fl .posted s.posted,.fl .bal s.book,.fl .ses s.sess,i64 s.next]
def mNu (s:bil.St) (a:List Int):Mem:=⟨(T.node T.nil (some ⟨.ls .int a,1,false⟩) T.nil).node (some ⟨.raw (cSt s),1,false⟩) T.nil,2,3,3⟩
def lpNu (L L':Nat) (s:bil.St) (a:List Int) (n:Int):Option AV:=zC7 (evS c59 L wW2) wS8 0 L' (stL [(q1,.ptr 0 0),(q3,.ptr 1 0),(q10,.fl .posted s.posted),(q11,i64 (.ofNat s.posted.length)),(q12,i64 n)]) (mNu s a) (wT9 c59 L fun r m=>frzK m .any r some)
def lpNs (L L':Nat) (l:List bil.Sr) (a:List Int) (n:Int):Option AV:=zC7 (evS c59 L wV4) wS0 0 L' (stL [(q3,.ptr 0 0),(q36,.fl .series l),(q37,i64 (.ofNat l.length)),(q38,i64 n)]) (mAr a) (wT0 c59 L fun r m=>frzK m .any r some)
def ixN (s:bil.St) (n:Nat):Int:=ixO (bil.srAt s.series (nPs s.posted n).ref.ser)
def stN (a:List Int) (k:Int):List Int:=a.set k.toNat (zA3 .i64 (nI a k.toNat+1))
theorem zW8 (L L' n:Nat) (s:bil.St) (a:List Int):lpNu L (Nat.succ L') s a (.ofNat n) =
 bif ltI (.ofNat n) (.ofNat s.posted.length) then bif inI (.ofNat n) s.posted.length then bif Nat.blt s.series.length 1000000 then bif ltI (ixN s n) 0 then some (.bool false) else
  bif inI (ixN s n) 8 then bif Nat.blt (ixN s n).toNat a.length then bif inI (ixN s n) 8 then bif Nat.blt (ixN s n).toNat a.length then bif inI (ixN s n) 8 then bif Nat.blt (ixN s n).toNat (stN a (ixN s n)).length then
   bif !eqI (nPs s.posted n).ref.num (nI (stN a (ixN s n)) (ixN s n).toNat) then some (.bool false) else lpNu L L' s (stN a (ixN s n)) (zA3 .i64 (.ofNat n+1))
  else none else none else none else none else none else none else none else none else lpNs L L s.series a 0:=by kernel_rfl
theorem zS8 (L L' n:Nat) (l:List bil.Sr) (a:List Int):lpNs L (Nat.succ L') l a (.ofNat n) =
 bif ltI (.ofNat n) (.ofNat l.length) then bif inI (.ofNat n) l.length then bif inI (.ofNat n) 8 then bif Nat.blt n a.length then
  bif !eqI (nth (t:=.series) l n).next (zA3 .i64 (nI a n+1)) then some (.bool false) else lpNs L L' l a (zA3 .i64 (.ofNat n+1)) else none else none else none else some (.bool true):=by kernel_rfl
def nA (s:bil.St) (n:Nat):List Int:=(List.range 8).map fun k=>.ofNat (match s.series[k]? with | some x=>bil.cntS (s.posted.take n) x.name | none=>0)
theorem yT6 (s:bil.St) (n:Nat):(nA s n).length=8:=by unfold nA;rw [List.length_map,List.length_range]
theorem vR0 (l:List bil.Pst) (c:ByteArray):bil.cntS l c<=l.length:=List.length_filter_le _ _
theorem vI0 {s:bil.St} {n k:Nat} {x:bil.Sr} (h:k < 8) (hx:s.series[k]?=some x):nI (nA s n) k=.ofNat (bil.cntS (s.posted.take n) x.name):=by
 have:(nA s n)[k]?=some (.ofNat (bil.cntS (s.posted.take n) x.name)):=by
  unfold nA
  rw [List.getElem?_map,List.getElem?_range h,Option.map_some,hx]
 rw [zK6 (t:=.int) (by rw [yT6];exact h)] at this
 exact Option.some.inj this
theorem qB1 {s:bil.St} {n k:Nat} {x:bil.Sr} (hs:bil.srRight E s.series=true) (hn:n < s.posted.length) (hk:k < 8) (hx:s.series[k]?=some x) (he:x.name=(nPs s.posted n).ref.ser) :
  nA s (n+1)=(nA s n).set k (.ofNat (bil.cntS (s.posted.take n) x.name+1)):=by
 have hpw:s.series.Pairwise (fun a b=>bil.srLt a b=true):=by
  unfold bil.srRight at hs
  simp only [Bool.and_eq_true,bil.chain_pw bil.srLt_trans] at hs
  exact hs.2.2
 have ht:s.posted.take (n+1)=s.posted.take n++[nPs s.posted n]:=by
  rw [List.take_add_one,zK4 hn];rfl
 refine List.ext_getElem? fun j=>?_
 by_cases hj:j < 8
 ·rw [List.getElem?_set]
  unfold nA
  rw [List.getElem?_map,List.getElem?_map,List.getElem?_range hj,List.length_map,List.length_range,Option.map_some,Option.map_some,ht]
  by_cases hkj:k=j
  ·subst hkj
   rw [if_pos rfl,if_pos hk,hx]
   simp only
   rw [bil.cntS_app,if_pos he.symm]
  ·rw [if_neg hkj]
   cases hy:s.series[j]? with
   | none=>rfl
   | some y =>
    simp only
    rw [bil.cntS_app,if_neg fun h=>hkj (bil.pw_names hpw hx hy (he.trans h))];rfl
 ·rw [List.getElem?_eq_none (by rw [yT6];omega),List.getElem?_eq_none (by rw [List.length_set,yT6];omega)]
theorem zX5 (L:Nat) (s:bil.St) (hs:bil.srRight E s.series=true) (h:bil.NumbersOk s.series s.posted) (hl:s.posted.length < 1000000):∀ (t:List bil.Sr) (n f:Nat),s.series.drop n=t->n<=s.series.length->t.length < f ->
  lpNs L f s.series (nA s s.posted.length) (.ofNat n)=some (.bool true)
 | t,n,0,_,_,hf=>by omega
 | [],n,f+1,hd,hn,hf=>by
  rw [zS8,drop_nil hd hn,zB6 (Nat.le_refl _),cond_false]
 | x::t,n,f+1,hd,hn,hf=>by
  obtain⟨h1,h2,h3⟩:=zA5 (t:=.series) hd
  have ih:=zX5 L s hs h hl t (n+1) f h3 (by omega) (by simp at hf;omega)
  have h8:s.series.length<=8:=by
   unfold bil.srRight at hs
   simp only [Bool.and_eq_true,decide_eq_true_eq] at hs
   exact hs.1
  have hx:s.series[n]?=some x:=by rw [zK6 (t:=.series) h1,h2]
  have hnx:=h.next x (List.mem_of_getElem? hx)
  have hc:=vI0 (n:=s.posted.length) (by omega:n < 8) hx
  rw [List.take_length] at hc
  have:=vR0 s.posted x.name
  rw [zS8,zB4 h1,cond_true,zA9 h1,cond_true,zA9 (by omega:n < 8),cond_true,zA0 (by rw [yT6];omega),cond_true,h2,hc,zA2 (by omega),zA2 (by omega),ih,zB8 (by rw [hnx];rfl),Bool.not_true,cond_false]
theorem yE7 (L:Nat) (s:bil.St) (hs:bil.srRight E s.series=true) (h:bil.NumbersOk s.series s.posted) (hl:s.posted.length < 1000000) (hL:8 < L):∀ (t:List bil.Pst) (n f:Nat),s.posted.drop n=t->n<=s.posted.length->t.length < f ->
  lpNu L f s (nA s n) (.ofNat n)=some (.bool true)
 | t,n,0,_,_,hf=>by omega
 | [],n,f+1,hd,hn,hf=>by
  have h8:s.series.length<=8:=by
   unfold bil.srRight at hs
   simp only [Bool.and_eq_true,decide_eq_true_eq] at hs
   exact hs.1
  rw [zW8,drop_nil hd hn,zB6 (Nat.le_refl _),cond_false]
  exact zX5 L s hs h hl s.series 0 L rfl (by omega) (by omega)
 | x::t,n,f+1,hd,hn,hf=>by
  obtain⟨h1,h2,h3⟩:=zA5 (t:=.posted) hd
  have ih:=yE7 L s hs h hl hL t (n+1) f h3 (by omega) (by simp at hf;omega)
  have h8:s.series.length<=8:=by
   unfold bil.srRight at hs
   simp only [Bool.and_eq_true,decide_eq_true_eq] at hs
   exact hs.1
  have hget:=zK4 h1
  obtain⟨y,hy1,hy2⟩:=h.ser _ (List.mem_of_getElem? hget)
  have hsome:∃ k z,bil.srAt s.series (nPs s.posted n).ref.ser=some k/\s.series[k]?=some z/\z.name=(nPs s.posted n).ref.ser:=by
   cases hk:bil.srAt s.series (nPs s.posted n).ref.ser with
   | none =>
    unfold bil.srAt at hk
    rw [List.findIdx?_eq_none_iff] at hk
    have:=hk y hy1
    simp [hy2] at this
   | some k =>
    obtain⟨g1,z,g2,g3⟩:=bil.findIdx_lt hk
    exact⟨k,z,rfl,g2,by simpa using g3⟩
  obtain⟨k,z,hk,hz,hzn⟩:=hsome
  have hk8:k < s.series.length:=(List.getElem?_eq_some_iff.1 hz).1
  have hix:ixN s n=.ofNat k:=by unfold ixN;rw [hk];rfl
  have hnum:=h.num n _ hget
  have hcl:=vR0 (s.posted.take n) z.name
  rw [List.length_take] at hcl
  have hst:stN (nA s n) (.ofNat k)=nA s (n+1):=by
   rw [qB1 hs h1 (by omega) hz hzn]
   unfold stN
   rw [zF9,vI0 (by omega) hz,zA2 (by omega)]
  have hnx:=vI0 (s:=s) (n:=n+1) (by omega:k < 8) hz
  have ht:s.posted.take (n+1)=s.posted.take n++[nPs s.posted n]:=by
   rw [List.take_add_one,hget];rfl
  rw [ht,bil.cntS_app,if_pos hzn.symm] at hnx
  rw [zW8,zB4 h1,cond_true,zA9 h1,cond_true,zA0 (by omega:s.series.length < 1000000),cond_true,hix,zB0 (by simp only [Int.ofNat_eq_natCast];omega),cond_false,zA9 (by omega:k < 8),cond_true,zF9,zA0 (by rw [yT6];omega),cond_true,cond_true,cond_true,cond_true,hst,zA0 (by rw [yT6];omega),cond_true,hnx,zA2 (by omega),ih,zB8 (by rw [hnum,hzn];rfl),Bool.not_true,cond_false]
theorem xU5 (s:bil.St) (hs:bil.srRight E s.series=true) (h:bil.NumbersOk s.series s.posted) (hl:s.posted.length < 1000):zB3 c59 1000 s_numbers .any [.agg (cSt s)] some=some (.bool true):=by
 have e:∀ L,zB3 c59 L s_numbers .any [.agg (cSt s)] some=lpNu L L s [0,0,0,0,0,0,0,0] (.ofNat 0):=fun L=>by kernel_rfl
 have e0:nA s 0=[0,0,0,0,0,0,0,0]:=by
  have:nA s 0=(List.range 8).map fun _=>0:=by
   unfold nA
   refine List.map_congr_left fun k _=>?_
   cases s.series[k]?<;>rfl
  exact this
 rw [e,<- e0]
 exact yE7 1000 s hs h (by omega) (by omega) s.posted 0 1000 rfl (by omega) (by omega)
open Classical in
def yQ5:List AV->Option (Bool × AV)
 | [.agg [.fl .rate _t,.fl .series l,.fl .posted p,.fl .bal _b,.fl .ses _z,.int .i64 _n]]=>some (bil.srRight E l&&(decide (bil.NumbersOk l p)&&Nat.blt p.length 1000),.bool true)
 | _=>none
def c60:ClS:=addG 46 yQ5 c59
theorem snd60:zA1 Tryz.prog c60:=zC2 snd59 mix wQ7 .any yQ5 fun xs r h=>by
 unfold yQ5 at h
 split at h<;>first | (cases h;done) | skip
 rename_i t l p b z n
 obtain⟨hg,rfl⟩:=Prod.mk.inj (Option.some.inj h)
 rw [Bool.and_eq_true,Bool.and_eq_true] at hg
 exact⟨rfl,_,xU5 ⟨t,l,p,b,z,n⟩ hg.1 (@of_decide_eq_true _ (Classical.propDecidable _) hg.2.1) (blt_iff.1 hg.2.2)⟩
def bA (b:List bil.Bal) (e:Int):Option AV:=some (.tup [.fl .bal b,i64 e])
def kBo (L:Nat):Ex->T AV->Mem->Option AV:=vM9 c60 L fun r m=>frzK m (.tup [.lst .bal,.any]) r some
def qC0 (L L':Nat) (l:List bil.Pst) (n:Int):Option AV:=zC7 (evS c60 L xR5) xN6 0 L' (stL [(q4,.nilsl),(q9,.fl .posted l),(q10,i64 (.ofNat l.length)),(q11,i64 n)]) m0 (kBo L)
def lpBo (L L':Nat) (l:List bil.Pst) (b:List bil.Bal) (n:Int):Option AV:=zC7 (evS c60 L xR5) xN6 0 L' (stL [(q4,.fl .bal b),(q9,.fl .posted l),(q10,i64 (.ofNat l.length)),(q11,i64 n)]) m0 (kBo L)
def gEn (p:bil.Pst):Bool:=!p.tot.parts.isEmpty&&(p.tot.parts.all gPt&&Nat.blt p.tot.parts.length 100)
def enP (p:bil.Pst):List bil.Bal × Int:=entR p.tot.parts p.tot.gross
theorem zX0 (L L' n:Nat) (l:List bil.Pst):qC0 L (Nat.succ L') l (.ofNat n)=bif ltI (.ofNat n) (.ofNat l.length) then bif inI (.ofNat n) l.length then bif gEn (nPs l n) then bif !eqI (enP (nPs l n)).2 0 then bA [] (enP (nPs l n)).2 else
  bif (enP (nPs l n)).1.all gBal&&Nat.blt (enP (nPs l n)).1.length 1000 then bif !eqI (zD7 [] (enP (nPs l n)).1).2 0 then bA [] (zD7 [] (enP (nPs l n)).1).2 else lpBo L L' l (zD7 [] (enP (nPs l n)).1).1 (zA3 .i64 (.ofNat n+1)) else none else none else none
 else bA [] 0:=by kernel_rfl
theorem yD8 (L L' n:Nat) (l:List bil.Pst) (b:List bil.Bal):lpBo L (Nat.succ L') l b (.ofNat n)=bif ltI (.ofNat n) (.ofNat l.length) then bif inI (.ofNat n) l.length then bif gEn (nPs l n) then bif !eqI (enP (nPs l n)).2 0 then bA [] (enP (nPs l n)).2 else
  bif b.all gBal&&((enP (nPs l n)).1.all gBal&&(Nat.blt b.length 50000&&Nat.blt (enP (nPs l n)).1.length 1000)) then bif !eqI (zD7 b (enP (nPs l n)).1).2 0 then bA [] (zD7 b (enP (nPs l n)).1).2 else lpBo L L' l (zD7 b (enP (nPs l n)).1).1 (zA3 .i64 (.ofNat n+1)) else none else none else none
 else bA b 0:=by kernel_rfl
theorem xB6:∀ {ps:List bil.Pt} {m:List bil.Bal},bil.entF ps=some m->m.all gBal=true/\m.length=2*ps.length
 | [],m,h=>by
  simp only [bil.entF,Option.some.injEq] at h
  subst h
  exact⟨rfl,rfl⟩
 | p::ps,m,h=>by
  unfold bil.entF at h
  split at h
  ·cases h
  ·rename_i n hn
   split at h
   ·cases h
   ·rename_i x hx
    cases hb:bil.entF ps with
    | none=>rw [hb] at h;cases h
    | some l =>
     rw [hb] at h
     cases h
     obtain⟨i1,i2⟩:=xB6 hb
     obtain⟨rfl,h1⟩:=bil.negZ_some hn
     obtain⟨rfl,h2⟩:=bil.negZ_some hx
     refine⟨?_,by simp only [List.length_cons];omega⟩
     rw [List.all_cons,List.all_cons,i1]
     unfold gBal
     rw [gI_iff.2 h1,gI_iff.2 h2];rfl
theorem wL4:∀ {e b b':List bil.Bal},allA b->bil.balsPut b e=some b'->allA b'/\b'.length<=b.length+e.length
 | [],b,b',hI,h=>by
  simp only [bil.balsPut,Option.some.injEq] at h
  subst h
  exact⟨hI,by simp⟩
 | x::e,b,b',hI,h=>by
  unfold bil.balsPut at h
  split at h
  ·cases h
  ·rename_i c hc
   obtain⟨i1,i2,_⟩:=vD9 hI hc
   obtain⟨j1,j2⟩:=wL4 i1 h
   exact⟨j1,by simp only [List.length_cons];omega⟩
theorem vT8 {l:List bil.Bal} (h:allA l):l.all gBal=true:=by
 rw [List.all_eq_true]
 exact fun x hx=>gI_iff.2 (h x hx)
theorem zR5 {b b':List bil.Bal} {p:bil.Pst} (hg:gI p.tot.gross=true) (hb:allA b) (h:bil.bookOne b p.tot=.inl b') :
  (enP p).2=0/\(enP p).1.all gBal=true/\(enP p).1.length=1+2*p.tot.parts.length/\zD7 b (enP p).1=(b',0)/\allA b'/\b'.length<=b.length+1+2*p.tot.parts.length:=by
 unfold bil.bookOne bil.entriesF at h
 unfold enP entR
 cases he:bil.entF p.tot.parts with
 | none=>rw [he] at h;cases h
 | some m =>
  rw [he] at h
  simp only [Option.map_some] at h
  obtain⟨i1,i2⟩:=xB6 he
  simp only
  have hlen:(⟨bil.owedA,p.tot.gross⟩::m:List bil.Bal).length=1+2*p.tot.parts.length:=by rw [List.length_cons,i2];omega
  refine⟨trivial,by rw [List.all_cons,i1];unfold gBal;rw [hg];rfl,hlen,?_,?_⟩
  ·unfold zD7
   rw [h]
  ·unfold bil.enterF at h
   split at h
   ·cases h
   ·cases hp:bil.balsPut b (⟨bil.owedA,p.tot.gross⟩::m) with
    | none=>rw [hp] at h;cases h
    | some c =>
     rw [hp] at h
     cases h
     obtain⟨j1,j2⟩:=wL4 hb hp
     exact⟨j1,by omega⟩
theorem yY4 {t:bil.Tot} (h:bil.totOk E t=true) (g:gTt t=true):t.parts.isEmpty=false/\t.parts.all gPt=true/\t.parts.length<=12/\1<=t.parts.length:=by
 obtain⟨h1,h2,h3,_⟩:=(bil.totOk_iff E).1 h
 obtain⟨_,_,_,g4,_⟩:=gTt_iff.1 g
 refine⟨?_,?_,h2,h1⟩
 ·cases hp:t.parts with
  | nil=>rw [hp] at h1;simp at h1
  | cons x l=>rfl
 ·rw [List.all_eq_true] at g4 ⊢
  intro x hx
  have hx4:=g4 x hx
  obtain⟨n1,_⟩:=h3 x hx
  have n2:yK5 x.cat=true:=n1
  unfold yK5 at n2
  simp only [Bool.and_eq_true,decide_eq_true_eq] at n2
  have hsz:x.cat.data.toList.length=x.cat.size:=by rw [Array.length_toList];rfl
  unfold gPb at hx4
  unfold gPt
  rw [Bool.and_eq_true] at hx4
  rw [hx4.1,hx4.2,zA0 (by omega)];rfl
theorem xP2 {p:bil.Pst} (h:bil.totOk E p.tot=true) (g:gTt p.tot=true):gEn p=true:=by
 obtain⟨h1,h2,h3,h4⟩:=yY4 h g
 unfold gEn
 rw [h1,h2,zA0 (by omega)];rfl
def gBk (p:bil.Pst):Bool:=bil.totOk E p.tot&&gTt p.tot
theorem zY0 {t:bil.Tot} (g:gTt t=true):gI t.gross=true:=(gTt_iff.1 g).2.2.1
theorem yL5 (L:Nat) (l:List bil.Pst) (hg:l.all gBk=true) (hl:l.length < 1000):∀ (t:List bil.Pst) (n f:Nat) (b b':List bil.Bal),l.drop n=t->n<=l.length->t.length < f->allA b->b.length<=25*n->bil.bookedF b t=some b' ->
  lpBo L f l b (.ofNat n)=bA b' 0/\allA b'/\b'.length<=25*l.length
 | t,n,0,b,b',_,_,hf,_,_,_=>by omega
 | [],n,f+1,b,b',hd,hn,hf,hb,hbl,h=>by
  have hn0:=drop_nil hd hn
  simp only [bil.bookedF,Option.some.injEq] at h
  subst h
  rw [yD8,zB6 (by omega),cond_false]
  exact⟨rfl,hb,by omega⟩
 | x::t,n,f+1,b,b',hd,hn,hf,hb,hbl,h=>by
  obtain⟨h1,h2,h3⟩:=zA5 (t:=.posted) hd
  have hx:=List.all_eq_true.1 hg x (List.mem_of_mem_drop (by rw [hd];exact List.mem_cons_self))
  unfold gBk at hx
  rw [Bool.and_eq_true] at hx
  unfold bil.bookedF at h
  cases ho:bil.bookOne b x.tot with
  | inr e=>rw [ho] at h;cases h
  | inl c =>
   rw [ho] at h
   obtain⟨o1,o2,o3,o4,o5,o6⟩:=zR5 (zY0 hx.2) hb ho
   obtain⟨_,_,p3,_⟩:=yY4 hx.1 hx.2
   have ih:=yL5 L l hg hl t (n+1) f c b' h3 (by omega) (by simp at hf;omega) o5 (by omega) h
   have h2':nPs l n=x:=h2
   rw [yD8,zB4 h1,cond_true,zA9 h1,cond_true,h2',xP2 hx.1 hx.2,cond_true,o1,zB8 rfl,Bool.not_true,cond_false,vT8 hb,o2,zA0 (by omega),zA0 (by omega),Bool.and_self,Bool.and_self,Bool.and_self,cond_true,o4,zA2 (by omega)]
   exact ih
theorem yE9 (L:Nat) (l:List bil.Pst) (hg:l.all gBk=true) (hl:l.length < 1000) (f:Nat) (hf:l.length < f) (b':List bil.Bal) (h:bil.bookedF [] l=some b'):qC0 L f l (.ofNat 0)=bA b' 0/\allA b'/\b'.length<=25*l.length:=by
 cases f with
 | zero=>omega
 | succ f =>
  cases l with
  | nil =>
   simp only [bil.bookedF,Option.some.injEq] at h
   subst h
   rw [zX0]
   exact⟨rfl,fun _ hx=>(by cases hx),by simp⟩
  | cons x t =>
   have hx:=List.all_eq_true.1 hg x List.mem_cons_self
   unfold gBk at hx
   rw [Bool.and_eq_true] at hx
   unfold bil.bookedF at h
   cases ho:bil.bookOne [] x.tot with
   | inr e=>rw [ho] at h;cases h
   | inl c =>
    rw [ho] at h
    obtain⟨o1,o2,o3,o4,o5,o6⟩:=zR5 (zY0 hx.2) (fun _ hx=>by cases hx) ho
    obtain⟨_,_,p3,_⟩:=yY4 hx.1 hx.2
    have ih:=yL5 L (x::t) hg hl t 1 f c b' rfl (by simp) (by simp at hf;omega) o5 (by simp at o6;omega) h
    have h2':nPs (x::t) 0=x:=rfl
    have h1:0 < (x::t).length:=by simp
    rw [zX0,zB4 h1,cond_true,zA9 h1,cond_true,h2',xP2 hx.1 hx.2,cond_true,o1,zB8 rfl,Bool.not_true,cond_false,o2,zA0 (by omega),Bool.and_self,cond_true,o4,zA2 (by omega)]
    exact ih
def bkB (l:List bil.Pst):List bil.Bal:=(bil.bookedF [] l).getD []
def xF4:List AV->Option (Bool × AV)
 | [.fl .posted l]=>some (l.all gBk&&(Nat.blt l.length 1000&&(bil.bookedF [] l).isSome),.tup [.fl .bal (bkB l),i64 0])
 | _=>none
def c61:ClS:=addG 47 xF4 c60
theorem snd61:zA1 Tryz.prog c61:=zC2 snd60 mix vH4 (.tup [.lst .bal,.any]) xF4 fun xs r h=>by
 unfold xF4 at h
 split at h<;>first | (cases h;done) | skip
 rename_i l
 obtain⟨hg,rfl⟩:=Prod.mk.inj (Option.some.inj h)
 rw [Bool.and_eq_true,Bool.and_eq_true] at hg
 obtain⟨g1,g2,g3⟩:=hg
 obtain⟨b,hb⟩:=Option.isSome_iff_exists.1 g3
 have e:∀ L,zB3 c60 L s_booked (.tup [.lst .bal,.any]) [.fl .posted l] some=qC0 L L l (.ofNat 0):=fun L=>by kernel_rfl
 refine⟨rfl,1000,(e _).trans ?_⟩
 have hbk:bkB l=b:=by unfold bkB;rw [hb];rfl
 rw [hbk]
 have h2:=blt_iff.1 g2
 exact (yE9 1000 l g1 h2 1000 h2 b hb).1
def nZ (l:List bil.Ses) (n:Nat):bil.Ses:=nth (t:=.ses) l n
def yC3:List AV->Option (Bool × AV)
 | [.agg [.fl .rate _t,.fl .series _l,.fl .posted _p,.fl .bal _b,.fl .ses z,.int .i64 n]]=>some (bil.sesRight z&&(decide (1<=n)&&(decide (n<=1099511627776)&&z.all fun x=>decide (x.id < n))),.bool true)
 | _=>none
def c62:ClS:=addG 44 yC3 c61
theorem qL4:zA1 Tryz.prog c62:=zC2 snd61 mix xV5 .any yC3 fun xs r h=>by
 unfold yC3 at h
 split at h<;>first | (cases h;done) | skip
 rename_i t l p b z n
 obtain⟨hg,rfl⟩:=Prod.mk.inj (Option.some.inj h)
 simp only [Bool.and_eq_true,decide_eq_true_eq,List.all_eq_true] at hg
 obtain⟨g1,g2,g3,g4⟩:=hg
 refine⟨rfl,0,?_⟩
 have e:zB3 c61 0 yS0 .any [.agg [.fl .rate t,.fl .series l,.fl .posted p,.fl .bal b,.fl .ses z,.int .i64 n]] some=bif bil.sesRight z then bif !ltI n 1 then bif !ltI 1099511627776 n then bif eqI (.ofNat z.length) 0 then some (.bool true) else
   bif inI (zA3 .i64 (.ofNat z.length - 1)) z.length then bif ltI (nZ z (zA3 .i64 (.ofNat z.length - 1)).toNat).id n then some (.bool true) else some (.bool false) else none else some (.bool false) else some (.bool false) else some (.bool false):=by kernel_rfl
 have h8:=(bil.sesRight_iff.1 g1).1
 rw [e,g1,cond_true,zB0 (by omega),Bool.not_false,cond_true,zB0 (by omega),Bool.not_false,cond_true]
 cases z with
 | nil=>rfl
 | cons x z =>
  have hk:Int.ofNat (x::z).length=Int.ofNat (z.length+1):=rfl
  rw [zB7 (by simp;omega),cond_false,hk,zP8 (by simp at h8;omega),zA9 (by simp),cond_true,zF9,zB9,cond_true]
  exact g4 _ (List.mem_of_getElem? (zK6 (t:=.ses) (by simp)))
def gP (p:bil.Pst):Bool:=gTt p.tot
def StG (s:bil.St):Prop:=bil.StOk E s/\s.posted.all gP=true
theorem zV8 {s:bil.St} (h:StG s):allA s.book/\s.book.length<=1000/\s.posted.all gBk=true:=by
 have hp:=h.1.posted
 have hg:=h.2
 have hbk:s.posted.all gBk=true:=by
  rw [List.all_eq_true] at hg ⊢
  intro x hx
  unfold gBk
  rw [(hp.tot x hx).2,show gTt x.tot=true from hg x hx];rfl
 have hl:=hp.len
 obtain⟨_,h2,h3⟩:=yE9 1000 s.posted hbk (by omega) 1000 (by omega) s.book h.1.book
 exact⟨h2,by omega,hbk⟩
theorem xH9 (s:bil.St) (h:StG s):zB3 c62 0 xT6 .any [.agg (cSt s)] some=some (.bool true):=by
 have e:zB3 c62 0 xT6 .any [.agg (cSt s)] some=bif bil.vatRight E s.table then bif bil.srRight E s.series then bif bil.sesRight s.sess&&(decide (1<=s.next)&&(decide (s.next<=1099511627776)&&s.sess.all fun x=>decide (x.id < s.next))) then
   bif @decide (bil.PostedOk E s.posted) (Classical.propDecidable _)&&s.posted.all gPs then bif bil.srRight E s.series&&(@decide (bil.NumbersOk s.series s.posted) (Classical.propDecidable _)&&Nat.blt s.posted.length 1000) then
    bif s.posted.all gBk&&(Nat.blt s.posted.length 1000&&(bil.bookedF [] s.posted).isSome) then bif Nat.blt (bkB s.posted).length 1000000 then bif decide (bkB s.posted=s.book) then some (.bool true) else some (.bool false) else none else none else none else none else none else some (.bool false) else some (.bool false):=by kernel_rfl
 obtain⟨hb1,hb2,hb3⟩:=zV8 h
 obtain⟨⟨o1,o2,o3,⟨o4,o5,o6⟩,o7,o8,o9⟩,hg⟩:=h
 have hps:s.posted.all gPs=true:=by
  rw [List.all_eq_true] at hg ⊢
  intro x hx
  unfold gPs
  rw [show gTt x.tot=true from hg x hx,(yY4 (o7.tot x hx).2 (hg x hx)).1];rfl
 have hz:(s.sess.all fun x=>decide (x.id < s.next))=true:=by
  rw [List.all_eq_true]
  exact fun x hx=>decide_eq_true (o6 x hx)
 have hbk:bkB s.posted=s.book:=by unfold bkB;rw [o9];rfl
 have hl:=o7.len
 rw [e,o1,o2,o3,decide_eq_true o4,decide_eq_true o5,hz,hps,hb3,@decide_eq_true _ (Classical.propDecidable _) o7,@decide_eq_true _ (Classical.propDecidable _) o8,zA0 (by omega:s.posted.length < 1000),hbk,zA0 (by omega),decide_eq_true (Eq.refl s.book),o9]
 rfl
open Classical in
def zV1:List AV->Option (Bool × AV)
 | [.agg [.fl .rate t,.fl .series l,.fl .posted p,.fl .bal b,.fl .ses z,.int .i64 n]]=>some (decide (StG ⟨t,l,p,b,z,n⟩),.bool true)
 | _=>none
def c63:ClS:=xZ7 12 [.agg [.any,.any,.lst .posted,.any,.any,.any]] zV1 c62
theorem snd63:zA1 Tryz.prog c63:=xZ5 qL4 mix wG5 .any [.agg [.any,.any,.lst .posted,.any,.any,.any]] zV1 fun xs r h=>by
 unfold zV1 at h
 split at h<;>first | (cases h;done) | skip
 rename_i t l p b z n
 obtain⟨hg,rfl⟩:=Prod.mk.inj (Option.some.inj h)
 exact⟨rfl,0,xH9 ⟨t,l,p,b,z,n⟩ (@of_decide_eq_true _ (Classical.propDecidable _) hg)⟩
end
set_option maxHeartbeats 4000000
set_option maxRecDepth 100000
def d_copied:SOf Tryz.prog 11 [([1,2,26,27],0)] [(4,.ice),(9,.ice),(14,.ice),(19,.ice),(44,.ice)]:=⟨_,by conv=>lhs;reduce⟩
def s_copied:FnS:=d_copied.1
def xN5:List Path:=[q1,q2,q26,q27]
def xR4:SC:=(⟨_,by conv=>lhs;reduce⟩:VOf (s_copied.lp 0)).1
def vV3:SC:=(⟨_,by conv=>lhs;reduce⟩:VOf (s_copied.af 0)).1
def xO0 {β:Type} (cl:ClS) (L:Nat) (K:AV->Mem->Option β):Ex->T AV->Mem->Option β:=kBlk 0 (kSeq (evS cl L vV3) (endS s_copied.res K))
theorem xL3:zB2 Tryz.prog 11 s_copied:=zA8 d_copied.2
def d_why:SOf Tryz.prog 13 [] []:=⟨_,by conv=>lhs;reduce⟩
def s_why:FnS:=d_why.1
theorem qP7:zB2 Tryz.prog 13 s_why:=zA8 d_why.2
def d_issue:SOf Tryz.prog 106 [] [(73,(.ty .posted 0))]:=⟨_,by conv=>lhs;reduce⟩
def yI7:FnS:=d_issue.1
theorem uE8:zB2 Tryz.prog 106 yI7:=zA8 d_issue.2
def d_bill:SOf Tryz.prog 57 [] []:=⟨_,by conv=>lhs;reduce⟩
def wD9:FnS:=d_bill.1
theorem qA6:zB2 Tryz.prog 57 wD9:=zA8 d_bill.2
def d_credit:SOf Tryz.prog 58 [] []:=⟨(⟨_,by conv=>lhs;reduce⟩:GOf (gS Tryz.prog 58 [] [])).1,by kernel_rfl⟩
def yG7:FnS:=d_credit.1
theorem vH3:zB2 Tryz.prog 58 yG7:=zA8 d_credit.2
def d_ask:SOf Tryz.prog 61 [([4,7,29,30,31],2)] []:=⟨_,by conv=>lhs;reduce⟩
def s_ask:FnS:=d_ask.1
def qS3:List Path:=[q4,q7,q29,q30,q31]
def qX8:SC:=(⟨_,by conv=>lhs;reduce⟩:VOf (s_ask.lp 0)).1
def qY6:SC:=(⟨_,by conv=>lhs;reduce⟩:VOf (s_ask.af 0)).1
def qT0 {β:Type} (cl:ClS) (L:Nat) (K:AV->Mem->Option β):Ex->T AV->Mem->Option β:=kBlk 0 (kSeq (evS cl L qY6) (endS s_ask.res K))
theorem qQ4:zB2 Tryz.prog 61 s_ask:=zA8 d_ask.2
def d_keptSr:SOf Tryz.prog 53 [] []:=⟨_,by conv=>lhs;reduce⟩
def wD6:FnS:=d_keptSr.1
theorem vG6:zB2 Tryz.prog 53 wD6:=zA8 d_keptSr.2
def d_keptRt:SOf Tryz.prog 56 [] []:=⟨_,by conv=>lhs;reduce⟩
def wD7:FnS:=d_keptRt.1
theorem vG7:zB2 Tryz.prog 56 wD7:=zA8 d_keptRt.2
def d_keptSes:SOf Tryz.prog 60 [] []:=⟨_,by conv=>lhs;reduce⟩
def xH2:FnS:=d_keptSes.1
theorem wQ8:zB2 Tryz.prog 60 xH2:=zA8 d_keptSes.2
def d_do:SOf Tryz.prog 16 [] []:=⟨_,by conv=>lhs;reduce⟩
def s_do:FnS:=d_do.1
theorem ok_do:zB2 Tryz.prog 16 s_do:=zA8 d_do.2
def d_join:SOf Tryz.prog 14 [] []:=⟨_,by conv=>lhs;reduce⟩
def vB2:FnS:=d_join.1
theorem qA0:zB2 Tryz.prog 14 vB2:=zA8 d_join.2
def d_apply:SOf Tryz.prog 6 [] []:=⟨_,by conv=>lhs;reduce⟩
def xT8:FnS:=d_apply.1
theorem uF5:zB2 Tryz.prog 6 xT8:=zA8 d_apply.2
noncomputable section
def stC (s:bil.St) (v:AV):List AV:=[.fl .rate s.table,.fl .series s.series,v,.fl .bal s.book,.fl .ses s.sess,i64 s.next]
def rpA (r:bil.Rp):AV:=.agg [i64 r.why,i64 r.number,i64 r.gross]
theorem zE6 {s:bil.St} (h:StG s):s.table.length<=24/\s.series.length<=8/\s.posted.length<=40/\s.book.length<=1000/\s.sess.length<=8/\∀ p∈s.posted,p.tot.parts.length<=12:=by
 obtain⟨_,h2,h3⟩:=zV8 h
 have h4:=h.1.table
 have h5:=h.1.series
 unfold bil.vatRight at h4
 unfold bil.srRight at h5
 simp only [Bool.and_eq_true,decide_eq_true_eq] at h4 h5
 exact⟨h4.1,h5.1,h.1.posted.len,h2,(bil.sesRight_iff.1 h.1.sess).1,fun p hp=>(yY4 (h.1.posted.tot p hp).2 (List.all_eq_true.1 h.2 p hp)).2.2.1⟩
def mCp (s:bil.St) (len:Nat) (l:List bil.Pst):Mem:=⟨(T.node T.nil (some ⟨.raw [.nilsl,.nilsl,.nilsl,.nilsl,.nilsl,i64 0],1,false⟩) T.nil).node (some ⟨.raw (stC s (.so 2 12 0 len)),1,false⟩) ((T.node T.nil (some ⟨.ls .posted l,12,true⟩) T.nil).node none T.nil),3,7,7⟩
def hPl (l:List bil.Pst):T Blk:=.node .nil (some ⟨.ls .posted l,12,true⟩) .nil
def kCp (L:Nat):Ex->T AV->Mem->Option (AV × T Blk × Nat):=xO0 c63 L fun r m=>zD1 0 r m fun r m=>some (r,m.h,m.nx)
def lpCp (L L':Nat) (s:bil.St) (len:Nat) (l:List bil.Pst) (n:Int):Option (AV × T Blk × Nat):=zC7 (evS c63 L xR4) xN5 0 L' (stL [(q1,.ptr 0 0),(q2,.ptr 1 0),(q26,i64 (.ofNat len)),(q27,i64 n)]) (mCp s len l) (kCp L)
theorem yD7 (L L' n len:Nat) (s:bil.St) (l:List bil.Pst):lpCp L (Nat.succ L') s len l (.ofNat n)=bif ltI (.ofNat n) (.ofNat len) then bif inI (.ofNat n) len then bif Nat.blt n l.length then bif Nat.blt (nPs l n).tot.parts.length 1048576 then bif inI (.ofNat n) len then bif Nat.blt n l.length then
 lpCp L L' s len (l.set n (nPs l n)) (zA3 .i64 (.ofNat n+1)) else none else none else none else none else none else some (.agg (stC s (.so 0 12 0 len)),hPl l,1):=by kernel_rfl
theorem set_self {l:List bil.Pst} {n:Nat} (h:n < l.length):l.set n (nPs l n)=l:=by
 refine List.ext_getElem? fun j=>?_
 rw [List.getElem?_set]
 by_cases hj:n=j
 ·subst hj
  rw [if_pos rfl,if_pos h,zK4 h]
 ·rw [if_neg hj]
theorem yL4 (L:Nat) (s:bil.St) (l:List bil.Pst) (hl:l.length < 1000) (hp:∀ p∈l,p.tot.parts.length<=12):∀ (t:List bil.Pst) (n f:Nat),l.drop n=t->n<=l.length->t.length < f->lpCp L f s l.length l (.ofNat n)=some (.agg (stC s (.so 0 12 0 l.length)),hPl l,1)
 | t,n,0,_,_,hf=>by omega
 | [],n,f+1,hd,hn,hf=>by
  rw [yD7,drop_nil hd hn,zB6 (Nat.le_refl _),cond_false]
 | x::t,n,f+1,hd,hn,hf=>by
  obtain⟨h1,h2,h3⟩:=zA5 (t:=.posted) hd
  have ih:=yL4 L s l hl hp t (n+1) f h3 (by omega) (by simp at hf;omega)
  have:=hp _ (List.mem_of_getElem? (zK4 h1))
  rw [yD7,zB4 h1,cond_true,zA9 h1,cond_true,zA0 h1,cond_true,zA0 (by omega),cond_true,cond_true,cond_true,set_self h1,zA2 (by omega),ih]
theorem yV2 {g1 g2:Bool} {r1 r2 r:AV} {h1 h2 h:T Blk} {n1 n2 n:Nat} (hf:firstT [(g1,r1,h1,n1),(g2,r2,h2,n2)]=some (r,h,n)):(g1=true/\r=r1/\h=h1/\n=n1)∨(g1=false/\g2=true/\r=r2/\h=h2/\n=n2):=by
 cases g1 with
 | true =>
  have hf:some (r1,h1,n1)=some (r,h,n):=hf
  cases hf
  exact .inl ⟨rfl,rfl,rfl,rfl⟩
 | false =>
  cases g2 with
  | true =>
   have hf:some (r2,h2,n2)=some (r,h,n):=hf
   cases hf
   exact .inr ⟨rfl,rfl,rfl,rfl,rfl⟩
  | false =>
   have hf:none=some (r,h,n):=hf
   cases hf
open Classical in
def xE0:List AV->Mem->List (Bool × AV × T Blk × Nat)
 | [.agg [.fl .rate t,.fl .series l,.fl .posted p,.fl .bal b,.fl .ses z,.int .i64 n]],⟨.nil,0,0,0⟩ =>
  [(decide (StG ⟨t,l,p,b,z,n⟩)&&p.isEmpty,.agg (stC ⟨t,l,p,b,z,n⟩ .nilsl),.nil,0),(decide (StG ⟨t,l,p,b,z,n⟩),.agg (stC ⟨t,l,p,b,z,n⟩ (.so 0 12 0 p.length)),hPl p,1)]
 | _,_=>[]
theorem zE7 {p:Prop} {i:Decidable p} (h:@decide p i=true):p:=of_decide_eq_true h
def c64:ClS:=zV0 11 xE0 c63
theorem snd64:zA1 Tryz.prog c64:=zG4 snd63 mix xL3 xE0 fun xs m r h1 n1 h=>by
 unfold xE0 at h
 split at h<;>first | (cases h;done) | skip
 rename_i t l p b z n
 refine⟨rfl,?_⟩
 have fin:∀ (hG:StG ⟨t,l,p,b,z,n⟩),(p=[]->r=.agg (stC ⟨t,l,p,b,z,n⟩ .nilsl)/\h1=.nil/\n1=0)->(p≠[]->r=.agg (stC ⟨t,l,p,b,z,n⟩ (.so 0 12 0 p.length))/\h1=hPl p/\n1=1) ->
   ∃ L,zC4 c63 L s_copied [.agg [.fl .rate t,.fl .series l,.fl .posted p,.fl .bal b,.fl .ses z,i64 n]] ⟨.nil,0,0,0⟩ (fun r m=>zD1 0 r m fun r m=>some (r,m.h,m.nx))=some (r,h1,n1):=fun hG f1 f2=>by
  obtain⟨k1,k2,k3,k4,k5,k6⟩:=zE6 hG
  simp only at k1 k2 k3 k4 k5 k6
  cases p with
  | nil =>
   obtain⟨rfl,rfl,rfl⟩:=f1 rfl
   refine⟨5,?_⟩
   have e:zC4 c63 5 s_copied [.agg [.fl .rate t,.fl .series l,.fl .posted [],.fl .bal b,.fl .ses z,i64 n]] ⟨.nil,0,0,0⟩ (fun r m=>zD1 0 r m fun r m=>some (r,m.h,m.nx)) =
    bif Nat.blt t.length 1048576 then bif Nat.blt l.length 1048576 then bif Nat.blt b.length 1048576 then bif Nat.blt z.length 1048576 then some (.agg (stC ⟨t,l,[],b,z,n⟩ .nilsl),.nil,0) else none else none else none else none:=by kernel_rfl
   rw [zA0 (by omega),zA0 (by omega),zA0 (by omega),zA0 (by omega),cond_true,cond_true,cond_true,cond_true] at e
   exact e
  | cons x p =>
   obtain⟨rfl,rfl,rfl⟩:=f2 (by simp)
   refine⟨1000,?_⟩
   have e:∀ L,zC4 c63 L s_copied [.agg [.fl .rate t,.fl .series l,.fl .posted (x::p),.fl .bal b,.fl .ses z,i64 n]] ⟨.nil,0,0,0⟩ (fun r m=>zD1 0 r m fun r m=>some (r,m.h,m.nx)) =
    bif Nat.blt t.length 1048576 then bif Nat.blt l.length 1048576 then bif Nat.blt b.length 1048576 then bif Nat.blt z.length 1048576 then bif Nat.blt (x::p).length 1048576 then lpCp L L ⟨t,l,x::p,b,z,n⟩ (x::p).length (x::p) (.ofNat 0) else none else none else none else none else none:=fun L=>by kernel_rfl
   have e1:=e 1000
   rw [zA0 (by omega),zA0 (by omega),zA0 (by omega),zA0 (by omega),zA0 (by omega),cond_true,cond_true,cond_true,cond_true,cond_true] at e1
   exact e1.trans (yL4 1000 _ (x::p) (by omega) k6 (x::p) 0 1000 rfl (by omega) (by omega))
 rcases yV2 h with⟨a,a1,a2,a3⟩ | ⟨a,b',a1,a2,a3⟩
 ·rw [Bool.and_eq_true] at a
  exact fin (zE7 a.1) (fun _=>⟨a1,a2,a3⟩) fun hne=>absurd (List.isEmpty_iff.1 a.2) hne
 ·rw [b',Bool.true_and] at a
  exact fin (zE7 b') (fun he=>by rw [he] at a;cases a) fun _=>⟨a1,a2,a3⟩
def qJ9:List AV->Option (Bool × AV)
 | [.int .i64 e]=>some (true,.agg [i64 e,i64 0,i64 0])
 | _=>none
def c65:ClS:=addG 13 qJ9 c64
theorem snd65:zA1 Tryz.prog c65:=zC2 snd64 mix qP7 .any qJ9 fun xs r h=>by
 unfold qJ9 at h
 split at h<;>first | (cases h;done) | skip
 cases h
 exact⟨rfl,0,by kernel_rfl⟩
def qK1:List AV->Option (Bool × AV)
 | []=>some (true,.agg (cSt ⟨[],[],[],[],[],1⟩))
 | _=>none
def c66:ClS:=addG 5 qK1 c65
theorem snd66:zA1 Tryz.prog c66:=zC2 snd65 mix qQ1 (.agg [.lst .rate,.lst .series,.lst .posted,.lst .bal,.lst .ses,.any]) qK1 fun xs r h=>by
 unfold qK1 at h
 split at h<;>first | (cases h;done) | skip
 cases h
 exact⟨rfl,0,by kernel_rfl⟩
def hS0 (s:bil.St):T Blk:=.node .nil (some ⟨.raw (stC s .nilsl),1,false⟩) .nil
def hS1 (s:bil.St):T Blk:=.node (hPl s.posted) (some ⟨.raw (stC s (.so 1 12 0 s.posted.length)),1,false⟩) .nil
def hS2 (s:bil.St):T Blk:=.node .nil (some ⟨.raw (stC s (.so 2 12 0 s.posted.length)),1,false⟩) ((hPl s.posted).node none T.nil)
def hS (s:bil.St):Bool->T Blk
 | false=>hS0 s
 | true=>hS1 s
def nS:Bool->Nat
 | false=>1
 | true=>2
def stOf:Mem->Option (Bool × bil.St × Bool)
 | ⟨.node .nil (some ⟨.raw [.fl .rate t,.fl .series l,.nilsl,.fl .bal b,.fl .ses z,.int .i64 n],1,false⟩) .nil,1,0,0⟩=>some (true,⟨t,l,[],b,z,n⟩,false)
 | ⟨.node (.node .nil (some ⟨.ls .posted p,12,true⟩) .nil) (some ⟨.raw [.fl .rate t,.fl .series l,.so 1 12 0 len,.fl .bal b,.fl .ses z,.int .i64 n],1,false⟩) .nil,2,0,0⟩=>some (Nat.beq len p.length,⟨t,l,p,b,z,n⟩,true)
 | _=>none
theorem zM5 {m:Mem} {s:bil.St} {k:Bool} (h:stOf m=some (true,s,k)):m=⟨hS s k,nS k,0,0⟩/\(k=false->s.posted=[]):=by
 unfold stOf at h
 split at h<;>first | (cases h;done) | skip
 ·cases h
  exact⟨rfl,fun _=>rfl⟩
 ·rename_i p t l len b z n
  simp only [Option.some.injEq,Prod.mk.injEq] at h
  obtain⟨hg,rfl,rfl⟩:=h
  have:=Nat.eq_of_beq_eq_true hg
  subst this
  exact⟨rfl,fun h=>by cases h⟩
def xD6 (xs:List AV) (m:Mem):List (Bool × AV × T Blk × Nat):=match xs,stOf m with
 | [.ptr 0 1,.fl .series l,.int .i64 e],some (g,s,k)=>[(g&&eqI e 0,rpA ⟨e,0,0⟩,hS { s with series:=l } k,nS k),(g,rpA ⟨e,0,0⟩,hS s k,nS k)]
 | _,_=>[]
def c67:ClS:=zV0 53 xD6 c66
theorem snd67:zA1 Tryz.prog c67:=zG4 snd66 mix vG6 xD6 fun xs m r h1 n1 h=>by
 unfold xD6 at h
 split at h<;>first | (cases h;done) | skip
 rename_i l e g s k hs
 have hg:g=true:=by
  cases g with
  | true=>rfl
  | false=>cases h
 subst hg
 obtain⟨rfl,hk⟩:=zM5 hs
 have e0:zC4 c66 0 wD6 [.ptr 0 1,.fl .series l,i64 e] ⟨hS s k,nS k,0,0⟩ (fun r m1=>zD1 (nS k) r m1 fun r m1=>some (r,m1.h,m1.nx))=bif eqI e 0 then some (rpA ⟨e,0,0⟩,hS { s with series:=l } k,nS k) else some (rpA ⟨e,0,0⟩,hS s k,nS k):=by
  cases k
  ·kernel_rfl
  ·kernel_rfl
 refine⟨?_,0,e0.trans ?_⟩
 ·cases k<;>rfl
 ·rcases yV2 h with⟨a,rfl,rfl,rfl⟩ | ⟨a,_,rfl,rfl,rfl⟩
  ·rw [Bool.true_and] at a
   rw [a];rfl
  ·rw [Bool.true_and] at a
   rw [a];rfl
def xD7 (xs:List AV) (m:Mem):List (Bool × AV × T Blk × Nat):=match xs,stOf m with
 | [.ptr 0 0,.fl .rate l,.int .i64 e],some (g,s,k)=>[(g&&eqI e 0,rpA ⟨e,0,0⟩,hS { s with table:=l } k,nS k),(g,rpA ⟨e,0,0⟩,hS s k,nS k)]
 | _,_=>[]
def c68:ClS:=zV0 56 xD7 c67
theorem snd68:zA1 Tryz.prog c68:=zG4 snd67 mix vG7 xD7 fun xs m r h1 n1 h=>by
 unfold xD7 at h
 split at h<;>first | (cases h;done) | skip
 rename_i l e g s k hs
 have hg:g=true:=by
  cases g with
  | true=>rfl
  | false=>cases h
 subst hg
 obtain⟨rfl,hk⟩:=zM5 hs
 have e0:zC4 c67 0 wD7 [.ptr 0 0,.fl .rate l,i64 e] ⟨hS s k,nS k,0,0⟩ (fun r m1=>zD1 (nS k) r m1 fun r m1=>some (r,m1.h,m1.nx))=bif eqI e 0 then some (rpA ⟨e,0,0⟩,hS { s with table:=l } k,nS k) else some (rpA ⟨e,0,0⟩,hS s k,nS k):=by
  cases k
  ·kernel_rfl
  ·kernel_rfl
 refine⟨?_,0,e0.trans ?_⟩
 ·cases k<;>rfl
 ·rcases yV2 h with⟨a,rfl,rfl,rfl⟩ | ⟨a,_,rfl,rfl,rfl⟩
  ·rw [Bool.true_and] at a
   rw [a];rfl
  ·rw [Bool.true_and] at a
   rw [a];rfl
def yP4 (xs:List AV) (m:Mem):List (Bool × AV × T Blk × Nat):=match xs,stOf m with
 | [.ptr 0 4,.fl .ses l,.int .i64 e],some (g,s,k)=>[(g&&eqI e 0,rpA ⟨e,0,0⟩,hS { s with sess:=l } k,nS k),(g,rpA ⟨e,0,0⟩,hS s k,nS k)]
 | _,_=>[]
def c69:ClS:=zV0 60 yP4 c68
theorem snd69:zA1 Tryz.prog c69:=zG4 snd68 mix wQ8 yP4 fun xs m r h1 n1 h=>by
 unfold yP4 at h
 split at h<;>first | (cases h;done) | skip
 rename_i l e g s k hs
 have hg:g=true:=by
  cases g with
  | true=>rfl
  | false=>cases h
 subst hg
 obtain⟨rfl,hk⟩:=zM5 hs
 have e0:zC4 c68 0 xH2 [.ptr 0 4,.fl .ses l,i64 e] ⟨hS s k,nS k,0,0⟩ (fun r m1=>zD1 (nS k) r m1 fun r m1=>some (r,m1.h,m1.nx))=bif eqI e 0 then some (rpA ⟨e,0,0⟩,hS { s with sess:=l } k,nS k) else some (rpA ⟨e,0,0⟩,hS s k,nS k):=by
  cases k
  ·kernel_rfl
  ·kernel_rfl
 refine⟨?_,0,e0.trans ?_⟩
 ·cases k<;>rfl
 ·rcases yV2 h with⟨a,rfl,rfl,rfl⟩ | ⟨a,_,rfl,rfl,rfl⟩
  ·rw [Bool.true_and] at a
   rw [a];rfl
  ·rw [Bool.true_and] at a
   rw [a];rfl
end
noncomputable section
def isF (s:bil.St) (c:ByteArray) (p:bil.Pst):bil.St × bil.Rp:=bil.issueF E s c p
def newP (s:bil.St) (c:ByteArray) (p:bil.Pst):bil.Pst:={ p with ref:=⟨c,(zJ6 s.series c).2.1⟩ }
def isS (s:bil.St) (c:ByteArray) (p:bil.Pst):bil.St:={ s with series:=(zJ6 s.series c).1,book:=(zD7 s.book (enP p).1).1,posted:=s.posted++[newP s c p] }
theorem vN2 (s:bil.St) (c:ByteArray) (p:bil.Pst):isF s c p=if (zJ6 s.series c).2.2≠0 then (s,⟨(zJ6 s.series c).2.2,0,0⟩) else if 40<=s.posted.length then (s,⟨14,0,0⟩) else
  if (enP p).2≠0 then (s,⟨(enP p).2,0,0⟩) else if (zD7 s.book (enP p).1).2≠0 then (s,⟨(zD7 s.book (enP p).1).2,0,0⟩) else (isS s c p,⟨0,(zJ6 s.series c).2.1,p.tot.gross⟩):=by
 unfold isS newP isF bil.issueF zJ6
 cases ht:bil.srTakeF E s.series c with
 | inr e =>
  have:=bil.take_err E ht
  simp only
  rw [if_pos this];rfl
 | inl q =>
  obtain⟨l,n⟩:=q
  simp only
  rw [if_neg (fun h:(0:Int)≠0=>h rfl)]
  by_cases h40:40<=s.posted.length
  ·rw [if_pos h40,if_pos h40];rfl
  ·rw [if_neg h40,if_neg h40]
   unfold bil.bookOne bil.entriesF enP entR
   cases he:bil.entF p.tot.parts with
   | none=>rfl
   | some m =>
    simp only [Option.map_some]
    rw [if_neg (fun h:(0:Int)≠0=>h rfl)]
    unfold zD7
    cases hn:bil.enterF s.book (⟨bil.owedA,p.tot.gross⟩::m) with
    | inl b=>simp
    | inr e =>
     have:e≠0:=by
      have hb:bil.bookOne s.book p.tot=.inr e:=by
       unfold bil.bookOne bil.entriesF
       rw [he]
       simp only [Option.map_some]
       exact hn
      exact bil.book_err hb
     simp only
     rw [if_pos this];rfl
def hA (s:bil.St):Bool->T Blk
 | false=>hS1 s
 | true=>hS2 s
def nA':Bool->Nat
 | false=>2
 | true=>3
def koI (s:bil.St) (k:Bool) (e:Int):Option (AV × T Blk × Nat):=some (rpA ⟨e,0,0⟩,hS s k,nS k)
def gBo (s:bil.St) (p:bil.Pst):Bool:=s.book.all gBal&&((enP p).1.all gBal&&(Nat.blt s.book.length 50000&&Nat.blt (enP p).1.length 1000))
def kT (n:Nat) (r:AV) (m:Mem):Option (AV × T Blk × Nat):=zD1 n r m fun r m=>some (r,m.h,m.nx)
theorem wM6 (s:bil.St) (c:ByteArray) (p:bil.Pst):zC4 c69 0 yI7 [.ptr 0 0,tx c,.agg (cPs p)] ⟨hS0 s,1,0,0⟩ (kT 1)=bif !eqI (zJ6 s.series c).2.2 0 then koI s false (zJ6 s.series c).2.2 else
 bif gEn p then bif !eqI (enP p).2 0 then koI s false (enP p).2 else bif gBo s p then bif !eqI (zD7 s.book (enP p).1).2 0 then koI s false (zD7 s.book (enP p).1).2 else some (rpA ⟨0,(zJ6 s.series c).2.1,p.tot.gross⟩,hS1 { isS s c p with posted:=[newP s c p] },2) else none else none:=by kernel_rfl
theorem wM5 (s:bil.St) (c:ByteArray) (p:bil.Pst):zC4 c69 0 yI7 [.ptr 0 0,tx c,.agg (cPs p)] ⟨hS1 s,2,0,0⟩ (kT 2)=bif !eqI (zJ6 s.series c).2.2 0 then koI s true (zJ6 s.series c).2.2 else bif !ltI (.ofNat s.posted.length) 40 then koI s true 14 else
 bif gEn p then bif !eqI (enP p).2 0 then koI s true (enP p).2 else bif gBo s p then bif !eqI (zD7 s.book (enP p).1).2 0 then koI s true (zD7 s.book (enP p).1).2 else bif Nat.beq s.posted.length s.posted.length then bif Nat.blt (s.posted.length+1) 1048576 then some (rpA ⟨0,(zJ6 s.series c).2.1,p.tot.gross⟩,hS2 (isS s c p),3) else none else none else none else none:=by kernel_rfl
theorem qF1 (p:bil.Pst) (h:gBk p=true):(enP p).1.all gBal=true/\(enP p).1.length < 1000:=by
 unfold gBk at h
 rw [Bool.and_eq_true] at h
 obtain⟨_,_,h3,_⟩:=yY4 h.1 h.2
 have hg:=zY0 h.2
 unfold enP entR
 cases he:bil.entF p.tot.parts with
 | none=>exact⟨rfl,by simp⟩
 | some m =>
  obtain⟨i1,i2⟩:=xB6 he
  refine⟨?_,by simp only [List.length_cons];omega⟩
  simp only [List.all_cons,i1,Bool.and_true]
  exact hg
theorem vC2 (s:bil.St) (c:ByteArray) (p:bil.Pst) (k:Bool) (hk:k=false->s.posted=[]) (hG:StG s) (hp:gBk p=true) :
  zC4 c69 0 yI7 [.ptr 0 0,tx c,.agg (cPs p)] ⟨hS s k,nS k,0,0⟩ (kT (nS k))=bif !eqI (isF s c p).2.why 0 then some (rpA (isF s c p).2,hS s k,nS k) else some (rpA (isF s c p).2,hA (isF s c p).1 k,nA' k):=by
 obtain⟨k1,k2,k3,k4,k5,k6⟩:=zE6 hG
 obtain⟨e1,e2⟩:=qF1 p hp
 obtain⟨b1,b2,_⟩:=zV8 hG
 have hgb:gBo s p=true:=by
  unfold gBo
  rw [vT8 b1,e1,zA0 (by omega),zA0 e2];rfl
 have hge:gEn p=true:=by
  unfold gBk at hp
  rw [Bool.and_eq_true] at hp
  exact xP2 hp.1 hp.2
 have key:∀ okv:Option (AV × T Blk × Nat),okv=some (rpA ⟨0,(zJ6 s.series c).2.1,p.tot.gross⟩,hA (isS s c p) k,nA' k) ->
   (bif !eqI (zJ6 s.series c).2.2 0 then koI s k (zJ6 s.series c).2.2 else bif !ltI (.ofNat s.posted.length) 40 then koI s k 14 else bif !eqI (enP p).2 0 then koI s k (enP p).2 else bif !eqI (zD7 s.book (enP p).1).2 0 then koI s k (zD7 s.book (enP p).1).2 else okv) =
   bif !eqI (isF s c p).2.why 0 then some (rpA (isF s c p).2,hS s k,nS k) else some (rpA (isF s c p).2,hA (isF s c p).1 k,nA' k):=fun okv hok=>by
  rw [vN2]
  by_cases h1:(zJ6 s.series c).2.2≠0
  ·rw [if_pos h1,zB7 h1]
   rfl
  ·rw [if_neg h1,zB8 (Decidable.not_not.1 h1),Bool.not_true,cond_false]
   by_cases h2:40<=s.posted.length
   ·rw [if_pos h2,zB0 (by simp only [Int.ofNat_eq_natCast];omega)];rfl
   ·rw [if_neg h2,zB9 (by simp only [Int.ofNat_eq_natCast];omega),Bool.not_true,cond_false]
    by_cases h3:(enP p).2≠0
    ·rw [if_pos h3,zB7 h3]
     rfl
    ·rw [if_neg h3,zB8 (Decidable.not_not.1 h3),Bool.not_true,cond_false]
     by_cases h4:(zD7 s.book (enP p).1).2≠0
     ·rw [if_pos h4,zB7 h4]
      rfl
     ·rw [if_neg h4,zB8 (Decidable.not_not.1 h4),Bool.not_true,cond_false,hok];rfl
 cases k with
 | false =>
  refine (wM6 s c p).trans ?_
  have h0:=hk rfl
  rw [hge,hgb,cond_true,cond_true]
  have:=key (some (rpA ⟨0,(zJ6 s.series c).2.1,p.tot.gross⟩,hS1 { isS s c p with posted:=[newP s c p] },2)) (by
   have:isS s c p={ isS s c p with posted:=[newP s c p] }:=by unfold isS;rw [h0];rfl
   rw [<- this];rfl)
  rw [h0,zB9 (by decide),Bool.not_true,cond_false] at this
  exact this
 | true =>
  refine (wM5 s c p).trans ?_
  rw [hge,hgb,cond_true,cond_true,zA6 rfl,cond_true,zA0 (by omega),cond_true]
  exact key _ rfl
open Classical in
def wB1 (xs:List AV) (m:Mem):List (Bool × AV × T Blk × Nat):=match xs,stOf m with
 | [.ptr 0 0,.str c,.agg cs],some (g,s,k)=>(match dec .posted cs with
  | some p=>[(g&&(decide (StG s)&&(gBk p&&!eqI (isF s ⟨⟨c⟩⟩ p).2.why 0)),rpA (isF s ⟨⟨c⟩⟩ p).2,hS s k,nS k),(g&&(decide (StG s)&&gBk p),rpA (isF s ⟨⟨c⟩⟩ p).2,hA (isF s ⟨⟨c⟩⟩ p).1 k,nA' k)]
  | none=>[])
 | _,_=>[]
def c70:ClS:=zV0 106 wB1 c69
theorem snd70:zA1 Tryz.prog c70:=zG4 snd69 mix uE8 wB1 fun xs m r h1 n1 h=>by
 unfold wB1 at h
 split at h<;>first | (cases h;done) | skip
 rename_i c cs g s k hs
 cases hd:dec .posted cs with
 | none=>rw [hd] at h;cases h
 | some p =>
  rw [hd] at h
  have hcs:=zK7 hd
  rw [<- hcs]
  have fin:g=true->StG s->gBk p=true->m=⟨hS s k,nS k,0,0⟩/\zC4 c69 0 yI7 [.ptr 0 0,.str c,.agg (enc .posted p)] ⟨hS s k,nS k,0,0⟩ (kT (nS k))=bif !eqI (isF s ⟨⟨c⟩⟩ p).2.why 0 then some (rpA (isF s ⟨⟨c⟩⟩ p).2,hS s k,nS k) else some (rpA (isF s ⟨⟨c⟩⟩ p).2,hA (isF s ⟨⟨c⟩⟩ p).1 k,nA' k):=fun hg hG hp=>by
   subst hg
   obtain⟨rfl,hk⟩:=zM5 hs
   exact⟨rfl,vC2 s ⟨⟨c⟩⟩ p k hk hG hp⟩
  rcases yV2 h with⟨a,a1,a2,a3⟩ | ⟨b,a,a1,a2,a3⟩
  ·rw [Bool.and_eq_true,Bool.and_eq_true,Bool.and_eq_true] at a
   obtain⟨g1,g2,g3,g4⟩:=a
   obtain⟨rfl,f2⟩:=fin g1 (zE7 g2) g3
   refine⟨by cases k<;>rfl,0,f2.trans ?_⟩
   rw [g4,a1,a2,a3];rfl
  ·rw [Bool.and_eq_true,Bool.and_eq_true] at a
   obtain⟨g1,g2,g3⟩:=a
   obtain⟨rfl,f2⟩:=fin g1 (zE7 g2) g3
   rw [g1,g2,g3,Bool.true_and,Bool.true_and,Bool.true_and] at b
   refine⟨by cases k<;>rfl,0,f2.trans ?_⟩
   rw [b,a1,a2,a3];rfl
end
noncomputable section
def cCd (c:bil.Cd):List AV:=[i64 c.kind,tx c.series,i64 c.limit,tx c.row.cat,i64 c.row.fr.y,i64 c.row.fr.m,i64 c.row.fr.d,i64 c.row.bp,i64 c.day.y,i64 c.day.m,i64 c.day.d,.fl .line c.lines,tx c.of_.ser,i64 c.of_.num,i64 c.session]
def cdOf:List AV->Option bil.Cd
 | [.int .i64 k,.str s,.int .i64 li,.str rc,.int .i64 ry,.int .i64 rm,.int .i64 rd,.int .i64 rb,.int .i64 y,.int .i64 m,.int .i64 d,.fl .line ls,.str os,.int .i64 on,.int .i64 ss]=>some ⟨k,⟨⟨s⟩⟩,li,⟨⟨⟨rc⟩⟩,⟨ry,rm,rd⟩,rb⟩,⟨y,m,d⟩,ls,⟨⟨⟨os⟩⟩,on⟩,ss⟩
 | _=>none
theorem yH6 {cs:List AV} {c:bil.Cd} (h:cdOf cs=some c):cCd c=cs:=by
 unfold cdOf at h
 split at h<;>first | (cases h;done) | (cases h;rfl)
def blP (s:bil.St) (c:bil.Cd):bil.Pst:=⟨bil.Ref.z,c.day,(totR s.table c.day c.lines).1,bil.Ref.z,false⟩
def nil' (s:bil.St):bil.St:=⟨s.table,s.series,[],s.book,s.sess,s.next⟩
theorem wG8 {s:bil.St} (h:s.posted=[]):nil' s=s:=by
 obtain⟨a,b,c,d,e,f⟩:=s
 simp only at h
 subst h
 rfl
def twoD (g app:Bool) (k:Bool) (q:bil.St × bil.Rp):List (Bool × AV × T Blk × Nat):=[(g&&!app,rpA q.2,hS q.1 k,nS k),(g,rpA q.2,hA q.1 k,nA' k)]
def outD (app:Bool) (k:Bool) (q:bil.St × bil.Rp):Option (AV × T Blk × Nat):=bif app then some (rpA q.2,hA q.1 k,nA' k) else some (rpA q.2,hS q.1 k,nS k)
theorem yW6 {g app k:Bool} {q:bil.St × bil.Rp} {r:AV} {h:T Blk} {n:Nat} (hf:firstT (twoD g app k q)=some (r,h,n)):g=true/\outD app k q=some (r,h,n):=by
 rcases yV2 hf with⟨a,rfl,rfl,rfl⟩ | ⟨b,rfl,rfl,rfl,rfl⟩
 ·rw [Bool.and_eq_true,Bool.not_eq_true'] at a
  exact⟨a.1,by rw [a.2];rfl⟩
 ·rw [Bool.true_and,Bool.not_eq_false'] at b
  exact⟨rfl,by rw [b];rfl⟩
def blF (s:bil.St) (c:bil.Cd):bil.St × bil.Rp:=bil.billF E s c
def wZ3 (s:bil.St) (k:Bool) (c:ByteArray) (p:bil.Pst) (g:Bool):Option (AV × T Blk × Nat) :=
 bif g&&(@decide (StG s) (Classical.propDecidable _)&&(gBk p&&!eqI (isF s c p).2.why 0)) then some (rpA (isF s c p).2,hS s k,nS k) else bif g&&(@decide (StG s) (Classical.propDecidable _)&&gBk p) then some (rpA (isF s c p).2,hA (isF s c p).1 k,nA' k) else none
theorem wY8 (s:bil.St) (c:bil.Cd):zC4 c70 0 wD9 [.ptr 0 0,.agg (cCd c)] ⟨hS0 (nil' s),1,0,0⟩ (kT 1)=bif c.lines.all gLi then bif !eqI (totR s.table c.day c.lines).2 0 then koI (nil' s) false (totR s.table c.day c.lines).2 else wZ3 (nil' s) false c.series (blP s c) true else none:=by kernel_rfl
theorem wY7 (s:bil.St) (c:bil.Cd):zC4 c70 0 wD9 [.ptr 0 0,.agg (cCd c)] ⟨hS1 s,2,0,0⟩ (kT 2)=bif c.lines.all gLi then bif !eqI (totR s.table c.day c.lines).2 0 then koI s true (totR s.table c.day c.lines).2 else wZ3 s true c.series (blP s c) (Nat.beq s.posted.length s.posted.length) else none:=by kernel_rfl
theorem vZ4 {s:bil.St} {k:Bool} {c:ByteArray} {p:bil.Pst} {g:Bool} (hg:g=true) (hG:StG s) (hp:gBk p=true):wZ3 s k c p g=outD (eqI (isF s c p).2.why 0) k ((bif eqI (isF s c p).2.why 0 then (isF s c p).1 else s),(isF s c p).2):=by
 unfold wZ3
 rw [hg,@decide_eq_true _ (Classical.propDecidable _) hG,hp,Bool.true_and,Bool.true_and,Bool.true_and,Bool.true_and,Bool.true_and]
 cases eqI (isF s c p).2.why 0<;>rfl
theorem zX8 {s:bil.St} {c:ByteArray} {p:bil.Pst} (h:(isF s c p).2.why≠0):(isF s c p).1=s:=by
 rw [vN2] at h ⊢
 split
 ·rfl
 ·split
  ·rfl
  ·split
   ·rfl
   ·split
    ·rfl
    ·rename_i h1 h2 h3 h4
     rw [if_neg h1,if_neg h2,if_neg h3,if_neg h4] at h
     exact absurd rfl h
theorem uK4 (s:bil.St) (c:ByteArray) (p:bil.Pst):((bif eqI (isF s c p).2.why 0 then (isF s c p).1 else s),(isF s c p).2)=isF s c p:=by
 by_cases h:(isF s c p).2.why=0
 ·rw [zB8 h];rfl
 ·rw [zB7 h]
  exact Prod.ext (zX8 h).symm rfl
theorem xF6:∀ {ps ps':List bil.Pt} {n t n' t':Int},bil.wholeF E ps n t=some (ps',n',t')->bil.I64 n->bil.I64 t->bil.I64 n'/\bil.I64 t'
 | [],ps',n,t,n',t',h,hn,ht=>by
  simp only [bil.wholeF,Option.some.injEq,Prod.mk.injEq] at h
  obtain⟨_,rfl,rfl⟩:=h
  exact⟨hn,ht⟩
 | p::ps,ps',n,t,n',t',h,hn,ht=>by
  unfold bil.wholeF at h
  split at h
  ·cases h
  ·split at h
   ·cases h
   ·rename_i m hm
    split at h
    ·cases h
    ·rename_i u hu
     cases hw:bil.wholeF E ps m u with
     | none=>rw [hw] at h;cases h
     | some q =>
      obtain⟨qs,q1,q2⟩:=q
      rw [hw] at h
      cases h
      exact xF6 hw (bil.addZ_some hm).2 (bil.addZ_some hu).2
theorem uU9 {n bp x:Int} (h:E.tax n bp=some x):bil.I64 n/\bil.I64 x:=by
 have hn:bil.I64 n:=by
  have:taxO n bp=some x:=h
  unfold taxO at this
  split at this
  ·rename_i hh
   exact hh.1
  ·cases this
 rw [xS9 hn] at h
 split at h
 ·cases h
  exact⟨hn,wZ1 n bp⟩
 ·cases h
theorem vE5 {t:bil.Tot} (h:bil.totOk E t=true):t.parts.all gPb=true:=by
 rw [List.all_eq_true]
 intro p hp
 obtain⟨_,_,_,h4⟩:=((bil.totOk_iff E).1 h).2.2.1 p hp
 obtain⟨a,b⟩:=uU9 h4
 unfold gPb
 rw [gI_iff.2 a,gI_iff.2 b];rfl
theorem xG1 {tb:List bil.Rt} {d:bil.Dt} {l:List bil.Li} {t:bil.Tot} (h:bil.totalF E tb d l=.inl t):bil.totOk E t=true/\gTt t=true:=by
 obtain⟨h1,h2⟩:=bil.totalF_ok E h
 obtain⟨_,hl,_⟩:=(bil.totOk_iff E).1 h1
 have hnt:bil.I64 t.net/\bil.I64 t.tax:=by
  unfold bil.totalF at h
  split at h
  ·cases h
  ·split at h
   ·cases h
   ·split at h
    ·cases h
    ·split at h
     ·cases h
     ·split at h
      ·cases h
      ·split at h
       ·cases h
       ·rename_i ps' n x hw
        split at h
        ·cases h
        ·cases h
         exact xF6 hw (show bil.I64 0 from ⟨by decide,by decide⟩) (show bil.I64 0 from ⟨by decide,by decide⟩)
 exact⟨h1,gTt_iff.2 ⟨gI_iff.2 hnt.1,gI_iff.2 hnt.2,gI_iff.2 h2,vE5 h1,by omega⟩⟩
theorem vJ5 {t:List bil.Rt} {d:bil.Dt} {x:bil.Li} {e:Int} (h:bil.lineF E t d x=.inr e):e≠0:=by
 unfold bil.lineF at h
 repeat' split at h
 all_goals first
  | (cases h;decide)
  | cases h
theorem yT3 {t:List bil.Rt} {d:bil.Dt}:∀ {ls:List bil.Li} {ps:List bil.Pt} {e:Int},bil.partsF E t d ls ps=.inr e->e≠0
 | [],ps,e,h=>by cases h
 | x::xs,ps,e,h=>by
  unfold bil.partsF at h
  split at h
  ·rename_i e' he
   cases h
   exact vJ5 he
  ·split at h
   ·cases h
    decide
   ·exact yT3 h
theorem wM4 {t:List bil.Rt} {d:bil.Dt} {ls:List bil.Li} {e:Int} (h:bil.totalF E t d ls=.inr e):e≠0:=by
 unfold bil.totalF at h
 split at h
 ·cases h;decide
 ·split at h
  ·cases h;decide
  ·split at h
   ·cases h;decide
   ·split at h
    ·cases h;decide
    ·split at h
     ·rename_i e' he
      cases h
      exact yT3 he
     ·split at h
      ·cases h;decide
      ·split at h
       ·cases h;decide
       ·cases h
theorem uB8 (s:bil.St) (c:bil.Cd) (k:Bool) (hk:k=false->s.posted=[]) (hG:StG s) (hc:c.lines.all gLi=true):zC4 c70 0 wD9 [.ptr 0 0,.agg (cCd c)] ⟨hS s k,nS k,0,0⟩ (kT (nS k))=outD (eqI (blF s c).2.why 0) k (blF s c):=by
 have key:∀ g,g=true->(bif c.lines.all gLi then bif !eqI (totR s.table c.day c.lines).2 0 then koI s k (totR s.table c.day c.lines).2 else wZ3 s k c.series (blP s c) g else none)=outD (eqI (blF s c).2.why 0) k (blF s c):=fun g hg=>by
  rw [hc,cond_true]
  unfold blF bil.billF totR blP totR
  cases ht:bil.totalF E s.table c.day c.lines with
  | inr e =>
   have he:=wM4 ht
   simp only
   rw [zB7 he]
   show koI s k e=outD (eqI e 0) k (s,⟨e,0,0⟩)
   rw [zB7 he];rfl
  | inl t =>
   obtain⟨h1,h2⟩:=xG1 ht
   simp only
   rw [zB8 rfl,Bool.not_true,cond_false,vZ4 hg hG (by unfold gBk;rw [h1,h2];rfl),uK4]
   rfl
 cases k with
 | false =>
  have h0:=wG8 (hk rfl)
  have:=wY8 s c
  rw [h0] at this
  exact this.trans (key true rfl)
 | true=>exact (wY7 s c).trans (key _ (zA6 rfl))
def vW8 (xs:List AV) (m:Mem):List (Bool × AV × T Blk × Nat):=match xs,stOf m with
 | [.ptr 0 0,.agg cs],some (g,s,k)=>(match cdOf cs with
  | some c=>twoD (g&&(@decide (StG s) (Classical.propDecidable _)&&c.lines.all gLi)) (eqI (blF s c).2.why 0) k (blF s c)
  | none=>[])
 | _,_=>[]
def c71:ClS:=zV0 57 vW8 c70
theorem snd71:zA1 Tryz.prog c71:=zG4 snd70 mix qA6 vW8 fun xs m r h1 n1 h=>by
 unfold vW8 at h
 split at h<;>first | (cases h;done) | skip
 rename_i cs g s k hs
 cases hd:cdOf cs with
 | none=>rw [hd] at h;cases h
 | some c =>
  rw [hd] at h
  obtain⟨a,b⟩:=yW6 h
  rw [Bool.and_eq_true,Bool.and_eq_true] at a
  obtain⟨rfl,a2,a3⟩:=a
  obtain⟨rfl,hk⟩:=zM5 hs
  rw [<- yH6 hd]
  exact⟨by cases k<;>rfl,0,(uB8 s c k hk (zE7 a2) a3).trans b⟩
def crF (s:bil.St) (c:bil.Cd):bil.St × bil.Rp:=bil.creditF E s c
def ixC (s:bil.St) (c:bil.Cd):Int:=ixO (bil.findP s.posted c.of_)
def crP (s:bil.St) (c:bil.Cd) (i:Nat):bil.Pst:=⟨bil.Ref.z,c.day,(zZ3 (nPs s.posted i).tot).1,c.of_,false⟩
def mkB (l:List bil.Pst) (i:Nat):List bil.Pst:=l.set i { nPs l i with back:=true }
def hS1x (s:bil.St) (len:Nat) (l:List bil.Pst):T Blk:=.node (hPl l) (some ⟨.raw (stC s (.so 1 12 0 len)),1,false⟩) .nil
def hS2x (s:bil.St) (len:Nat) (l:List bil.Pst):T Blk:=.node .nil (some ⟨.raw (stC s (.so 2 12 0 len)),1,false⟩) ((hPl l).node none T.nil)
def crI (s:bil.St) (c:bil.Cd) (i:Nat):bil.St × bil.Rp:=isF s c.series (crP s c i)
def crA (s:bil.St) (c:bil.Cd):Option (AV × T Blk × Nat):=bif eqI (crI s c (ixC s c).toNat).2.why 0 then bif inI (ixC s c) s.posted.length then bif Nat.blt (ixC s c).toNat s.posted.length then some (rpA (crI s c (ixC s c).toNat).2,hS1x s s.posted.length (mkB s.posted (ixC s c).toNat),2) else none else none else some (rpA (crI s c (ixC s c).toNat).2,hS s true,2)
def crB (_s:bil.St) (_c:bil.Cd) (q:bil.St × bil.Rp) (i:Int):Option (AV × T Blk × Nat):=bif eqI q.2.why 0 then bif inI i q.1.posted.length then bif Nat.blt i.toNat q.1.posted.length then some (rpA q.2,hS2x q.1 q.1.posted.length (mkB q.1.posted i.toNat),3) else none else none else some (rpA q.2,hS2 q.1,3)
theorem xS8 (s:bil.St) (c:bil.Cd):zC4 c71 0 yG7 [.ptr 0 0,.agg (cCd c)] ⟨hS0 (nil' s),1,0,0⟩ (kT 1)=bif ltI (ixO (bil.findP [] c.of_)) 0 then koI (nil' s) false 11 else none:=by kernel_rfl
theorem xS7 (s:bil.St) (c:bil.Cd):zC4 c71 0 yG7 [.ptr 0 0,.agg (cCd c)] ⟨hS1 s,2,0,0⟩ (kT 2) =
 bif Nat.beq s.posted.length s.posted.length&&(true&&true)&&Nat.blt s.posted.length 1000000 then bif ltI (ixC s c) 0 then koI s true 11 else bif inI (ixC s c) s.posted.length then bif Nat.blt (ixC s c).toNat s.posted.length then
  bif (nPs s.posted (ixC s c).toNat).back then koI s true 12 else bif (bif true then !zM7 (nPs s.posted (ixC s c).toNat).of_ bil.Ref.z else zM7 (nPs s.posted (ixC s c).toNat).of_ bil.Ref.z) then koI s true 12 else
   bif bil.dayF E c.day then bif bil.beforeF E c.day (nPs s.posted (ixC s c).toNat).day then koI s true 9 else bif gTo (nPs s.posted (ixC s c).toNat).tot then bif !eqI (zZ3 (nPs s.posted (ixC s c).toNat).tot).2 0 then koI s true (zZ3 (nPs s.posted (ixC s c).toNat).tot).2 else
    bif Nat.beq s.posted.length s.posted.length&&(@decide (StG s) (Classical.propDecidable _)&&(gBk (crP s c (ixC s c).toNat)&&!eqI (crI s c (ixC s c).toNat).2.why 0)) then crA s c else
    bif Nat.beq s.posted.length s.posted.length&&(@decide (StG s) (Classical.propDecidable _)&&gBk (crP s c (ixC s c).toNat)) then crB s c (crI s c (ixC s c).toNat) (ixC s c) else none
   else none else koI s true 9 else none else none else none:=by kernel_rfl
end
noncomputable section
theorem uS6 {l:List bil.Pst} {r:bil.Ref} {i:Nat} (h:bil.findP l r=some i):i < l.length/\l[i]?=some (nPs l i):=by
 have h1:=(bil.findIdx_lt h).1
 exact⟨h1,zK4 h1⟩
theorem qX1 {s:bil.St} {c:bil.Cd} {i:Nat} {t:bil.Tot} (hG:StG s) (hi:i < s.posted.length) (hb:bil.backF (nPs s.posted i).tot=some t):gBk ⟨bil.Ref.z,c.day,t,c.of_,false⟩=true:=by
 have hm:=List.mem_of_getElem? (zK4 hi)
 have h1:=(hG.1.posted.tot _ hm).2
 have h2:gTt (nPs s.posted i).tot=true:=List.all_eq_true.1 hG.2 _ hm
 have h3:=bil.backF_ok E h1 hb
 have h4:=(xC8 hb).2 (gTt_iff.1 h2).2.2.2.2
 unfold gBk
 rw [h3,h4];rfl
theorem xA0 {s:bil.St} {c:ByteArray} {p:bil.Pst} (h:(isF s c p).2.why=0):∃ n,(isF s c p).1.posted=s.posted++[{ p with ref:=⟨c,n⟩ }]:=by
 rw [vN2] at h ⊢
 split at h
 ·rename_i h1
  exact absurd h h1
 ·split at h
  ·cases h
  ·split at h
   ·rename_i h1
    exact absurd h h1
   ·split at h
    ·rename_i h1
     exact absurd h h1
    ·rename_i h1 h2 h3 h4
     rw [if_neg h1,if_neg h2,if_neg h3,if_neg h4]
     exact⟨_,rfl⟩
theorem wO4 (
          s:bil.St) (c:bil.Cd) (k:Bool) (hk:k=false->s.posted=[]) (hG:StG s):zC4 c71 0 yG7 [.ptr 0 0,.agg (cCd c)] ⟨hS s k,nS k,0,0⟩ (kT (nS k))=outD (eqI (crF s c).2.why 0) k (crF s c):=by
 cases k with
 | false =>
  have h0:=wG8 (hk rfl)
  have e:=xS8 s c
  rw [h0] at e
  refine e.trans ?_
  unfold crF bil.creditF
  rw [hk rfl]
  rfl
 | true =>
  refine (xS7 s c).trans ?_
  have hl:=(zE6 hG).2.2.1
  rw [zA6 rfl,zA0 (by omega),Bool.and_self,Bool.and_self,Bool.and_self,cond_true]
  unfold crF bil.creditF
  have hix:ixC s c=ixO (bil.findP s.posted c.of_):=rfl
  cases hf:bil.findP s.posted c.of_ with
  | none =>
   rw [hf] at hix
   rw [hix];rfl
  | some i =>
   rw [hf] at hix
   obtain⟨hi,hget⟩:=uS6 hf
   have hix:ixC s c=.ofNat i:=hix
   have hm:=List.mem_of_getElem? hget
   rw [hix,zB0 (by simp only [Int.ofNat_eq_natCast];omega),cond_false,zA9 hi,cond_true,zF9,zA0 hi,cond_true,zL6]
   simp only [hget]
   cases hbk:(nPs s.posted i).back with
   | true=>rfl
   | false =>
    rw [cond_false,cond_true]
    by_cases hof:(nPs s.posted i).of_=bil.Ref.z
    ·rw [decide_eq_true hof,Bool.not_true,cond_false,if_neg (by simp [hof])]
     cases hd:bil.dayF E c.day with
     | false=>rfl
     | true =>
      rw [cond_true]
      cases hbf:bil.beforeF E c.day (nPs s.posted i).day with
      | true=>rfl
      | false =>
       rw [cond_false,if_neg (by simp)]
       have h1:=(hG.1.posted.tot _ hm).2
       have h2:gTt (nPs s.posted i).tot=true:=List.all_eq_true.1 hG.2 _ hm
       rw [uS7 h2 (yY4 h1 h2).1,cond_true]
       have hcr:crP s c i=⟨bil.Ref.z,c.day,(zZ3 (nPs s.posted i).tot).1,c.of_,false⟩:=rfl
       have hcI:crI s c i=isF s c.series (crP s c i):=rfl
       unfold zZ3 at hcr ⊢
       cases hb:bil.backF (nPs s.posted i).tot with
       | none=>rfl
       | some t =>
        rw [hb] at hcr
        have hcr:crP s c i=⟨bil.Ref.z,c.day,t,c.of_,false⟩:=hcr
        have hgb:=qX1 (c:=c) hG hi hb
        simp only
        rw [zB8 rfl,Bool.not_true,cond_false,hcr,hgb,@decide_eq_true _ (Classical.propDecidable _) hG,Bool.true_and,Bool.true_and,Bool.true_and,Bool.true_and,Bool.true_and,hcI,hcr]
        show _=outD (eqI (match isF s c.series ⟨bil.Ref.z,c.day,t,c.of_,false⟩ with | (s',r)=>if r.why=0 then ({ s' with posted:=s'.posted.set i { nPs s.posted i with back:=true } },r) else (s',r)).2.why 0) true (match isF s c.series ⟨bil.Ref.z,c.day,t,c.of_,false⟩ with | (s',r)=>if r.why=0 then ({ s' with posted:=s'.posted.set i { nPs s.posted i with back:=true } },r) else (s',r))
        have hA':crA s c=bif eqI (isF s c.series ⟨bil.Ref.z,c.day,t,c.of_,false⟩).2.why 0 then bif inI (.ofNat i) s.posted.length then bif Nat.blt i s.posted.length then some (rpA (isF s c.series ⟨bil.Ref.z,c.day,t,c.of_,false⟩).2,hS1x s s.posted.length (mkB s.posted i),2) else none else none else some (rpA (isF s c.series ⟨bil.Ref.z,c.day,t,c.of_,false⟩).2,hS s true,2):=by
         unfold crA
         rw [hix,zF9,hcI,hcr]
        rw [hA']
        have hsm:=zX8 (s:=s) (c:=c.series) (p:=⟨bil.Ref.z,c.day,t,c.of_,false⟩)
        have hso:=xA0 (s:=s) (c:=c.series) (p:=⟨bil.Ref.z,c.day,t,c.of_,false⟩)
        generalize isF s c.series ⟨bil.Ref.z,c.day,t,c.of_,false⟩=Q at hsm hso
        obtain⟨s',r⟩:=Q
        simp only at hsm hso
        by_cases hw:r.why=0
        ·obtain⟨n,hp⟩:=hso hw
         have hil:i < s'.posted.length:=by rw [hp,List.length_append];omega
         have hni:nPs s'.posted i=nPs s.posted i:=by
          have g1:=zK4 hil
          rw [hp,List.getElem?_append_left hi,hget] at g1
          rw [hp]
          exact (Option.some.inj g1).symm
         simp only [hw,if_true]
         unfold crB
         simp only [hw]
         rw [zB8 rfl,Bool.not_true,cond_false,cond_true,zA9 hil,cond_true,zF9,zA0 hil,cond_true]
         show some (rpA r,hS2x s' s'.posted.length (mkB s'.posted i),3)=some (rpA r,hS2 { s' with posted:=s'.posted.set i { nPs s.posted i with back:=true } },3)
         have:mkB s'.posted i=s'.posted.set i { nPs s.posted i with back:=true }:=by unfold mkB;rw [hni]
         rw [this]
         unfold hS2 hS2x
         simp only [List.length_set]
         rfl
        ·have:=hsm hw
         subst this
         simp only [hw,if_false]
         rw [zB7 hw]
         rfl
    ·rw [decide_eq_false hof,Bool.not_false,cond_true,if_pos (.inr hof)];rfl
def xD9 (xs:List AV) (m:Mem):List (Bool × AV × T Blk × Nat):=match xs,stOf m with
 | [.ptr 0 0,.agg cs],some (g,s,k)=>(match cdOf cs with
  | some c=>twoD (g&&@decide (StG s) (Classical.propDecidable _)) (eqI (crF s c).2.why 0) k (crF s c)
  | none=>[])
 | _,_=>[]
def c72:ClS:=zV0 58 xD9 c71
theorem snd72:zA1 Tryz.prog c72:=zG4 snd71 mix vH3 xD9 fun xs m r h1 n1 h=>by
 unfold xD9 at h
 split at h<;>first | (cases h;done) | skip
 rename_i cs g s k hs
 cases hd:cdOf cs with
 | none=>rw [hd] at h;cases h
 | some c =>
  rw [hd] at h
  obtain⟨a,b⟩:=yW6 h
  rw [Bool.and_eq_true] at a
  obtain⟨rfl,a2⟩:=a
  obtain⟨rfl,hk⟩:=zM5 hs
  rw [<- yH6 hd]
  exact⟨by cases k<;>rfl,0,(wO4 s c k hk (zE7 a2)).trans b⟩
def mAk (s:bil.St) (k:Bool) (num g:Int):Mem:=match k with
 | false=>⟨(T.node T.nil (some ⟨.raw [i64 0,i64 0,i64 0],1,false⟩) T.nil).node (some ⟨.raw (stC s .nilsl),1,false⟩) ((T.node T.nil (some ⟨.raw [i64 0,i64 num,i64 g],1,false⟩) T.nil).node none T.nil),3,7,7⟩
 | true=>⟨((T.node T.nil (some ⟨.raw [i64 0,i64 num,i64 g],1,false⟩) T.nil).node (some ⟨.ls .posted s.posted,12,true⟩) T.nil).node (some ⟨.raw (stC s (.so 1 12 0 s.posted.length)),1,false⟩) ((T.node T.nil (some ⟨.raw [i64 0,i64 0,i64 0],1,false⟩) T.nil).node none T.nil),4,15,15⟩
def slA (k:Bool) (s:bil.St) (n:Int):T AV:=match k with
 | false=>stL [(q4,.ptr 1 0),(q7,.ptr 2 0),(q29,.fl .bal s.book),(q30,i64 (.ofNat s.book.length)),(q31,i64 n)]
 | true=>stL [(q4,.ptr 2 0),(q7,.ptr 3 0),(q29,.fl .bal s.book),(q30,i64 (.ofNat s.book.length)),(q31,i64 n)]
def lpAk (L L':Nat) (s:bil.St) (k:Bool) (num g:Int) (n:Int):Option (AV × T Blk × Nat):=zC7 (evS c72 L qX8) qS3 2 L' (slA k s n) (mAk s k num g) (qT0 c72 L (kT (nS k)))
def nB (l:List bil.Bal) (n:Nat):bil.Bal:=nth (t:=.bal) l n
theorem xI7 (L L' n:Nat) (s:bil.St) (k:Bool) (num g:Int):lpAk L (Nat.succ L') s k num g (.ofNat n)=bif ltI (.ofNat n) (.ofNat s.book.length) then bif inI (.ofNat n) s.book.length then
  bif zC1 (nB s.book n).acc.data.toList [111,119,101,100] then lpAk L L' s k num (nB s.book n).amt (zA3 .i64 (.ofNat n+1)) else lpAk L L' s k num g (zA3 .i64 (.ofNat n+1)) else none else some (rpA ⟨0,num,g⟩,hS s k,nS k):=by
 cases k
 ·kernel_rfl
 ·kernel_rfl
theorem vZ0 (L:Nat) (s:bil.St) (c:ByteArray):zC4 c72 L s_ask [.ptr 0 0,tx c] ⟨hS0 s,1,0,0⟩ (kT 1)=bif Nat.blt s.series.length 1000000 then bif (yG1 s.series c).2 then lpAk L L s false (zA3 .i64 ((yG1 s.series c).1.next - 1)) 0 (.ofNat 0) else koI s false 11 else none:=by kernel_rfl
theorem vY9 (L:Nat) (s:bil.St) (c:ByteArray):zC4 c72 L s_ask [.ptr 0 0,tx c] ⟨hS1 s,2,0,0⟩ (kT 2)=bif Nat.blt s.series.length 1000000 then bif (yG1 s.series c).2 then lpAk L L s true (zA3 .i64 ((yG1 s.series c).1.next - 1)) 0 (.ofNat 0) else koI s true 11 else none:=by kernel_rfl
def owF (g:Int) (b:bil.Bal):Int:=if b.acc=bil.owedA then b.amt else g
theorem wH9 (L:Nat) (s:bil.St) (k:Bool) (num:Int) (hl:s.book.length < 1000000):∀ (t:List bil.Bal) (n f:Nat) (g:Int),s.book.drop n=t->n<=s.book.length->t.length < f->lpAk L f s k num g (.ofNat n)=some (rpA ⟨0,num,t.foldl owF g⟩,hS s k,nS k)
 | t,n,0,g,_,_,hf=>by omega
 | [],n,f+1,g,hd,hn,hf=>by
  rw [xI7,drop_nil hd hn,zB6 (Nat.le_refl _),cond_false];rfl
 | x::t,n,f+1,g,hd,hn,hf=>by
  obtain⟨h1,h2,h3⟩:=zA5 (t:=.bal) hd
  have h2:nB s.book n=x:=h2
  have ih:=fun g=>wH9 L s k num hl t (n+1) f g h3 (by omega) (by simp at hf;omega)
  have hb:=zF2 x.acc bil.owedA
  have ho:bil.owedA.data.toList=[111,119,101,100]:=rfl
  rw [ho] at hb
  rw [xI7,zB4 h1,cond_true,zA9 h1,cond_true,h2,hb,zA2 (by omega),ih,ih,List.foldl_cons]
  unfold owF
  by_cases h:x.acc=bil.owedA
  ·rw [decide_eq_true h,if_pos h];rfl
  ·rw [decide_eq_false h,if_neg h];rfl
def akF (s:bil.St) (c:ByteArray):bil.Rp:=bil.askF s c
theorem uX6 (s:bil.St) (c:ByteArray) (k:Bool) (hG:StG s):zC4 c72 1001 s_ask [.ptr 0 0,tx c] ⟨hS s k,nS k,0,0⟩ (kT (nS k))=some (rpA (akF s c),hS s k,nS k):=by
 obtain⟨k1,k2,k3,k4,k5,k6⟩:=zE6 hG
 have key:(bif Nat.blt s.series.length 1000000 then bif (yG1 s.series c).2 then lpAk 1001 1001 s k (zA3 .i64 ((yG1 s.series c).1.next - 1)) 0 (.ofNat 0) else koI s k 11 else none)=some (rpA (akF s c),hS s k,nS k):=by
  rw [zA0 (by omega),cond_true]
  unfold yG1 akF bil.askF
  cases hf:bil.srAt s.series c with
  | none=>rfl
  | some i =>
   obtain⟨hi,x,hx,_⟩:=bil.findIdx_lt hf
   have hn:nth (t:=.series) s.series i=x:=by
    have:=zK6 (t:=.series) hi
    rw [hx] at this
    exact (Option.some.inj this).symm
   have hok:1<=x.next/\x.next<=x.limit+1/\x.limit<=1099511627776:=by
    have h5:=hG.1.series
    unfold bil.srRight at h5
    simp only [Bool.and_eq_true,decide_eq_true_eq,List.all_eq_true] at h5
    have:=h5.2.1 x (List.mem_of_getElem? hx)
    unfold bil.srOk at this
    simp only [Bool.and_eq_true,decide_eq_true_eq] at this
    omega
   simp only [hx]
   rw [cond_true,hn,wrap64 ⟨by omega,by omega⟩,wH9 1001 s k _ (by omega) s.book 0 1001 0 rfl (by omega) (by omega)]
   rfl
 cases k with
 | false=>exact (vZ0 1001 s c).trans key
 | true=>exact (vY9 1001 s c).trans key
def qJ8 (xs:List AV) (m:Mem):List (Bool × AV × T Blk × Nat):=match xs,stOf m with
 | [.ptr 0 0,.str c],some (g,s,k)=>[(g&&@decide (StG s) (Classical.propDecidable _),rpA (akF s ⟨⟨c⟩⟩),hS s k,nS k)]
 | _,_=>[]
theorem uS9 {g1:Bool} {r1 r:AV} {h1 h:T Blk} {n1 n:Nat} (hf:firstT [(g1,r1,h1,n1)]=some (r,h,n)):g1=true/\r=r1/\h=h1/\n=n1:=by
 cases g1 with
 | true =>
  have hf:some (r1,h1,n1)=some (r,h,n):=hf
  cases hf
  exact⟨rfl,rfl,rfl,rfl⟩
 | false =>
  have hf:none=some (r,h,n):=hf
  cases hf
def c73:ClS:=zV0 61 qJ8 c72
theorem snd73:zA1 Tryz.prog c73:=zG4 snd72 mix qQ4 qJ8 fun xs m r h1 n1 h=>by
 unfold qJ8 at h
 split at h<;>first | (cases h;done) | skip
 rename_i c g s k hs
 obtain⟨a,rfl,rfl,rfl⟩:=uS9 h
 rw [Bool.and_eq_true] at a
 obtain⟨rfl,a2⟩:=a
 obtain⟨rfl,hk⟩:=zM5 hs
 exact⟨by cases k<;>rfl,1001,uX6 s ⟨⟨c⟩⟩ k (zE7 a2)⟩
end
noncomputable section
def keT (g:Bool) (s s':bil.St) (k:Bool) (e:Int):Option (AV × T Blk × Nat):=bif g&&eqI e 0 then some (rpA ⟨e,0,0⟩,hS s' k,nS k) else bif g then some (rpA ⟨e,0,0⟩,hS s k,nS k) else none
def twT (g app k:Bool) (q:bil.St × bil.Rp):Option (AV × T Blk × Nat):=bif g&&!app then some (rpA q.2,hS q.1 k,nS k) else bif g then some (rpA q.2,hA q.1 k,nA' k) else none
def gSt (s:bil.St):Bool:=@decide (StG s) (Classical.propDecidable _)
def vY3 (g:Bool) (s:bil.St) (c:bil.Cd) (k:Bool):Option (AV × T Blk × Nat) :=
 bif eqI c.kind 1 then keT g s { s with series:=(xL2 s.series c.series c.limit).1 } k (xL2 s.series c.series c.limit).2 else
 bif eqI c.kind 2 then keT g s { s with series:=(yX1 s.series c.series).1 } k (yX1 s.series c.series).2 else
 bif eqI c.kind 3 then keT g s { s with table:=(putR s.table c.row).1 } k (putR s.table c.row).2 else
 bif eqI c.kind 4 then twT (g&&(gSt s&&c.lines.all gLi)) (eqI (blF s c).2.why 0) k (blF s c) else
 bif eqI c.kind 5 then twT (g&&gSt s) (eqI (crF s c).2.why 0) k (crF s c) else
 bif eqI c.kind 7 then keT g s { s with sess:=(zX6 s.sess c.session).1 } k (zX6 s.sess c.session).2 else
 bif g&&gSt s then some (rpA (akF s c.series),hS s k,nS k) else none
theorem uU6 (s:bil.St) (c:bil.Cd):zC4 c73 0 s_do [.ptr 0 0,.agg (cCd c)] ⟨hS0 (nil' s),1,0,0⟩ (kT 1)=vY3 true (nil' s) c false:=by kernel_rfl
theorem uU5 (s:bil.St) (c:bil.Cd):zC4 c73 0 s_do [.ptr 0 0,.agg (cCd c)] ⟨hS1 s,2,0,0⟩ (kT 2)=vY3 (Nat.beq s.posted.length s.posted.length) s c true:=by kernel_rfl
def dF (s:bil.St) (c:bil.Cd):bil.St × bil.Rp:=bil.doF E s c
def appD (c:bil.Cd) (r:bil.Rp):Bool:=(eqI c.kind 4 || eqI c.kind 5)&&eqI r.why 0
theorem wJ1 {g:Bool} {s s':bil.St} {k:Bool} {e:Int} (hg:g=true):keT g s s' k e=some (rpA ⟨e,0,0⟩,hS (if e=0 then s' else s) k,nS k):=by
 unfold keT
 rw [hg,Bool.true_and]
 by_cases h:e=0
 ·rw [zB8 h,if_pos h];rfl
 ·rw [zB7 h,if_neg h];rfl
theorem uQ4 {g app k:Bool} {q:bil.St × bil.Rp} (hg:g=true):twT g app k q=outD app k q:=by
 unfold twT
 rw [hg]
 cases app<;>rfl
theorem yV0 {s:bil.St} (h:StG s):gSt s=true:=@decide_eq_true _ (Classical.propDecidable _) h
theorem uH8 {s:bil.St} (h:StG s) (id:Int):zX6 s.sess id=bil.sesLeave s.sess id:=by
 unfold zX6
 rw [h.1.sess,if_neg (by simp)]
theorem wY6 {s:bil.St} {g:Bool} (c:bil.Cd) (k:Bool) (hg:g=true) (hG:StG s) (hc:c.lines.all gLi=true):vY3 g s c k=outD (appD c (dF s c).2) k (dF s c):=by
 have hgs:=yV0 hG
 unfold vY3 dF bil.doF appD
 rw [wJ1 hg,wJ1 hg,wJ1 hg,wJ1 hg,uQ4 (by rw [hg,hgs,hc];rfl),uQ4 (by rw [hg,hgs];rfl),hg,hgs,uH8 hG]
 simp only [zC5]
 by_cases h1:c.kind=1
 ·simp only [h1];rfl
 ·by_cases h2:c.kind=2
  ·simp only [h2];rfl
  ·by_cases h3:c.kind=3
   ·simp only [h3];rfl
   ·by_cases h4:c.kind=4
    ·simp only [h4];rfl
    ·by_cases h5:c.kind=5
     ·simp only [h5];rfl
     ·by_cases h7:c.kind=7
      ·simp only [h7];rfl
      ·simp only [h1,h2,h3,h4,h5,h7,if_false,decide_false,cond_false,Bool.or_self,Bool.false_and]
       rfl
def H_do (xs:List AV) (m:Mem):List (Bool × AV × T Blk × Nat):=match xs,stOf m with
 | [.ptr 0 0,.agg cs],some (g,s,k)=>(match cdOf cs with
  | some c=>twoD (g&&(gSt s&&c.lines.all gLi)) (appD c (dF s c).2) k (dF s c)
  | none=>[])
 | _,_=>[]
theorem yU9 {s:bil.St} (h:gSt s=true):StG s:=zE7 h
def c74:ClS:=zV0 16 H_do c73
theorem snd74:zA1 Tryz.prog c74:=zG4 snd73 mix ok_do H_do fun xs m r h1 n1 h=>by
 unfold H_do at h
 split at h<;>first | (cases h;done) | skip
 rename_i cs g s k hs
 cases hd:cdOf cs with
 | none=>rw [hd] at h;cases h
 | some c =>
  rw [hd] at h
  obtain⟨a,b⟩:=yW6 h
  rw [Bool.and_eq_true,Bool.and_eq_true] at a
  obtain⟨rfl,a2,a3⟩:=a
  obtain⟨rfl,hk⟩:=zM5 hs
  rw [<- yH6 hd]
  refine⟨by cases k<;>rfl,0,Eq.trans ?_ b⟩
  cases k with
  | false =>
   have h0:=wG8 (hk rfl)
   have:=uU6 s c
   rw [h0] at this
   exact this.trans (wY6 c false rfl (yU9 a2) a3)
  | true=>exact (uU5 s c).trans (wY6 c true (zA6 rfl) (yU9 a2) a3)
def svA (s:bil.St):Bool->List AV
 | false=>stC s .nilsl
 | true=>stC s (.so 0 12 0 s.posted.length)
def hV (s:bil.St):Bool->T Blk
 | false=>.nil
 | true=>hPl s.posted
def nV:Bool->Nat
 | false=>0
 | true=>1
def svOf:List AV->Mem->Option (Bool × bil.St × Bool)
 | [.fl .rate t,.fl .series l,.nilsl,.fl .bal b,.fl .ses z,.int .i64 n],⟨.nil,0,0,0⟩=>some (true,⟨t,l,[],b,z,n⟩,false)
 | [.fl .rate t,.fl .series l,.so 0 12 0 len,.fl .bal b,.fl .ses z,.int .i64 n],⟨.node .nil (some ⟨.ls .posted p,12,true⟩) .nil,1,0,0⟩=>some (Nat.beq len p.length,⟨t,l,p,b,z,n⟩,true)
 | _,_=>none
theorem vZ5 {cs:List AV} {m:Mem} {s:bil.St} {k:Bool} (h:svOf cs m=some (true,s,k)):cs=svA s k/\m=⟨hV s k,nV k,0,0⟩/\(k=false->s.posted=[]):=by
 unfold svOf at h
 split at h<;>first | (cases h;done) | skip
 ·cases h
  exact⟨rfl,rfl,fun _=>rfl⟩
 ·rename_i t l len b z n p
  simp only [Option.some.injEq,Prod.mk.injEq] at h
  obtain⟨hg,rfl,rfl⟩:=h
  have:=Nat.eq_of_beq_eq_true hg
  subst this
  exact⟨rfl,rfl,fun h=>by cases h⟩
def joF (s:bil.St):bil.St × bil.Rp:=bil.joinF s
def joA (q:bil.St × bil.Rp) (k:Bool):Option (AV × T Blk × Nat):=some (.tup [.agg (svA q.1 k),rpA q.2],hV q.1 k,nV k)
theorem vY5 (s:bil.St) (k:Bool):zC4 c74 0 vB2 [.agg (svA s k)] ⟨hV s k,nV k,0,0⟩ (kT (nV k))=bif !ltI (.ofNat s.sess.length) 8 then joA (s,⟨14,0,0⟩) k else bif !ltI s.next 1099511627776 then joA (s,⟨14,0,0⟩) k else
  bif !eqI (yA9 s.sess s.next).2 0 then joA (s,⟨(yA9 s.sess s.next).2,0,0⟩) k else joA ({ s with sess:=(yA9 s.sess s.next).1,next:=zA3 .i64 (s.next+1) },⟨0,s.next,0⟩) k:=by
 cases k
 ·kernel_rfl
 ·kernel_rfl
theorem uB7 (s:bil.St) (k:Bool) (hG:StG s):zC4 c74 0 vB2 [.agg (svA s k)] ⟨hV s k,nV k,0,0⟩ (kT (nV k))=joA (joF s) k:=by
 rw [vY5]
 unfold joF bil.joinF
 by_cases h1:8<=s.sess.length
 ·rw [zB0 (by simp only [Int.ofNat_eq_natCast];omega),if_pos (.inl h1)];rfl
 ·rw [zB9 (by simp only [Int.ofNat_eq_natCast];omega),Bool.not_true,cond_false]
  by_cases h2:1099511627776<=s.next
  ·rw [zB0 (by omega),if_pos (.inr h2)];rfl
  ·obtain⟨n1,n2,n3⟩:=hG.1.next
   have hj:yA9 s.sess s.next=(bil.insF bil.sesLt (zJ9 s.next) s.sess,0):=by
    unfold yA9
    rw [if_neg (by rw [hG.1.sess];simp;omega)]
    have:bil.sesAt s.sess s.next=none:=by
     unfold bil.sesAt
     rw [List.findIdx?_eq_none_iff]
     intro x hx
     have:=n3 x hx
     simp;omega
    rw [this,if_neg (by simp),if_neg h1]
   rw [zB9 (by omega),Bool.not_true,cond_false,hj,zB8 rfl,Bool.not_true,cond_false,wrap64 ⟨by omega,by omega⟩,if_neg (by omega)]
   rfl
def vW3 (xs:List AV) (m:Mem):List (Bool × AV × T Blk × Nat):=match xs with
 | [.agg cs]=>(match svOf cs m with
  | some (g,s,k)=>[(g&&gSt s,.tup [.agg (svA (joF s).1 k),rpA (joF s).2],hV (joF s).1 k,nV k)]
  | none=>[])
 | _=>[]
def c75:ClS:=zV0 14 vW3 c74
theorem snd75:zA1 Tryz.prog c75:=zG4 snd74 mix qA0 vW3 fun xs m r h1 n1 h=>by
 unfold vW3 at h
 split at h<;>first | (cases h;done) | skip
 rename_i cs
 cases hs:svOf cs m with
 | none=>rw [hs] at h;cases h
 | some q =>
  obtain⟨g,s,k⟩:=q
  rw [hs] at h
  obtain⟨a,rfl,rfl,rfl⟩:=uS9 h
  rw [Bool.and_eq_true] at a
  obtain⟨rfl,a2⟩:=a
  obtain⟨rfl,rfl,hk⟩:=vZ5 hs
  exact⟨by cases k<;>rfl,0,uB7 s k (yU9 a2)⟩
end
noncomputable section
def cCa (a:bil.Ca):List AV:=i64 a.session::i64 a.seq::cCd a.cmd
def shSt:Sh:=.agg [.any,.any,.lst .posted,.any,.any,.any]
def oA (s:bil.St) (p:List bil.Pst) (r:bil.Rp):Option AV:=some (.tup [.agg [.fl .rate s.table,.fl .series s.series,.fl .posted p,.fl .bal s.book,.fl .ses s.sess,i64 s.next],rpA r])
def oP (k:Bool) (s:bil.St) (p:List bil.Pst) (r:bil.Rp):Option AV:=match k with
 | false=>oA s [] r
 | true=>bif Nat.beq p.length p.length then oA s p r else none
def kpT (k:Bool) (a:bil.Ca) (q:bil.St × bil.Rp):Option AV :=
 bif eqI (keepR q.1.sess a.session a.seq q.2).2 0 then oP k { q.1 with sess:=(keepR q.1.sess a.session a.seq q.2).1 } q.1.posted q.2 else oP k q.1 q.1.posted q.2
def vY4 (g:Bool) (k:Bool) (s:bil.St) (a:bil.Ca):Option AV :=
 bif true&&(true&&(true&&(g&&(true&&(true&&true)))))&&true&&gSt s then bif ltI a.cmd.kind 1 then oP k s s.posted ⟨17,0,0⟩ else bif ltI 8 a.cmd.kind then oP k s s.posted ⟨17,0,0⟩ else
  bif eqI a.cmd.kind 6 then bif g&&gSt s then oP k (joF s).1 (joF s).1.posted (joF s).2 else none else
   bif (zH6 s.sess a.session a.seq).2.1 then bif !eqI (zH6 s.sess a.session a.seq).2.2 0 then oP k s s.posted ⟨(zH6 s.sess a.session a.seq).2.2,0,0⟩ else oP k s s.posted (zH6 s.sess a.session a.seq).1
   else bif !eqI (zH6 s.sess a.session a.seq).2.2 0 then oP k s s.posted ⟨(zH6 s.sess a.session a.seq).2.2,0,0⟩ else
    bif g&&(gSt s&&a.cmd.lines.all gLi)&&!appD a.cmd (dF s a.cmd).2 then kpT k a (dF s a.cmd) else bif g&&(gSt s&&a.cmd.lines.all gLi) then kpT true a (dF s a.cmd) else none
 else none
theorem wY9 (s:bil.St) (a:bil.Ca):zB3 c75 0 xT8 (.tup [shSt,.any]) [.agg (cSt s),.agg (cCa a)] some=bif gSt s&&s.posted.isEmpty then vY4 true false (nil' s) a else bif gSt s then vY4 (Nat.beq s.posted.length s.posted.length) true s a else none:=by kernel_rfl
def apF (s:bil.St) (a:bil.Ca):bil.St × bil.Rp:=bil.applyF E s a
theorem xQ5 {s:bil.St} {c:bil.Cd} (h:appD c (dF s c).2=false):(dF s c).1.posted=s.posted:=by
 unfold appD at h
 unfold dF bil.doF at *
 by_cases h1:c.kind=1
 ·rw [if_pos h1]
  simp only
  split<;>rfl
 ·by_cases h2:c.kind=2
  ·rw [if_neg h1,if_pos h2]
   simp only
   split<;>rfl
  ·by_cases h3:c.kind=3
   ·rw [if_neg h1,if_neg h2,if_pos h3]
    simp only
    split<;>rfl
   ·by_cases h4:c.kind=4
    ·rw [if_neg h1,if_neg h2,if_neg h3,if_pos h4] at h ⊢
     rw [zC5,zC5,zC5,decide_eq_true h4] at h
     have hb:(blF s c).2.why≠0:=by
      intro hw
      have hw:(bil.billF E s c).2.why=0:=hw
      simp [hw] at h
     show (blF s c).1.posted=s.posted
     revert hb
     unfold blF bil.billF
     cases bil.totalF E s.table c.day c.lines with
     | inr e=>intro _;rfl
     | inl t =>
      intro hb
      show (isF s c.series _).1.posted=_
      rw [zX8 hb]
    ·by_cases h5:c.kind=5
     ·rw [if_neg h1,if_neg h2,if_neg h3,if_neg h4,if_pos h5] at h ⊢
      rw [zC5,zC5,zC5,decide_eq_true h5] at h
      have hb:(crF s c).2.why≠0:=by
       intro hw
       have hw:(bil.creditF E s c).2.why=0:=hw
       simp [hw] at h
      show (crF s c).1.posted=s.posted
      revert hb
      unfold crF bil.creditF
      cases bil.findP s.posted c.of_ with
      | none=>intro _;rfl
      | some i =>
       simp only
       cases s.posted[i]? with
       | none=>intro _;rfl
       | some p =>
        simp only
        split
        ·intro _;rfl
        ·split
         ·intro _;rfl
         ·cases bil.backF p.tot with
          | none=>intro _;rfl
          | some t =>
           simp only
           have hsm:=zX8 (s:=s) (c:=c.series) (p:=⟨bil.Ref.z,c.day,t,c.of_,false⟩)
           unfold isF at hsm
           generalize bil.issueF E s c.series ⟨bil.Ref.z,c.day,t,c.of_,false⟩=Q at hsm
           obtain⟨s',r⟩:=Q
           simp only at hsm ⊢
           by_cases hw:r.why=0
           ·simp [hw]
           ·intro _
            rw [if_neg hw,hsm hw]
     ·by_cases h7:c.kind=7
      ·rw [if_neg h1,if_neg h2,if_neg h3,if_neg h4,if_neg h5,if_pos h7]
       simp only
       split<;>rfl
      ·rw [if_neg h1,if_neg h2,if_neg h3,if_neg h4,if_neg h5,if_neg h7]
theorem yU7 (s:bil.St):(joF s).1.posted=s.posted:=by
 unfold joF bil.joinF
 split<;>rfl
def outA (q:bil.St × bil.Rp):Option AV:=some (.tup [.agg (cSt q.1),rpA q.2])
theorem xL7 {k:Bool} {s:bil.St} {r:bil.Rp} (hk:k=false->s.posted=[]):oP k s s.posted r=outA (s,r):=by
 cases k with
 | false =>
  obtain⟨t,l,p,b,z,n⟩:=s
  have h0:p=[]:=hk rfl
  subst h0
  rfl
 | true =>
  show (bif Nat.beq s.posted.length s.posted.length then _ else _)=_
  rw [zA6 rfl];rfl
theorem look_eq {l:List bil.Ses} (h:bil.sesRight l=true) (id sq:Int):zH6 l id sq=match bil.lookF l id sq with | .inr e=>(rp0,false,e) | .inl (r,had)=>(r,had,0):=by
 unfold zH6
 rw [h,if_neg (by simp)]
 cases bil.lookF l id sq<;>rfl
theorem xM6 {l:List bil.Ses} {id sq e:Int} (h:bil.lookF l id sq=.inr e):e≠0:=by
 unfold bil.lookF at h
 repeat' split at h
 all_goals first
  | (cases h;decide)
  | cases h
theorem qS4 {k:Bool} {a:bil.Ca} {q:bil.St × bil.Rp} (hz:bil.sesRight q.1.sess=true) (hk:k=false->q.1.posted=[]):kpT k a q=outA ({ q.1 with sess:=bil.keepF q.1.sess a.session a.seq q.2 },q.2):=by
 unfold kpT keepR
 rw [look_eq hz]
 unfold bil.keepF
 cases hl:bil.lookF q.1.sess a.session a.seq with
 | inr e =>
  have:=xM6 hl
  simp only
  rw [if_pos this,zB7 this]
  exact xL7 hk
 | inl v =>
  obtain⟨r,had⟩:=v
  simp only
  rw [if_neg (fun h:(0:Int)≠0=>h rfl)]
  cases had with
  | true=>exact xL7 hk
  | false =>
   rw [if_neg (by simp),zB8 rfl,cond_true]
   simp only [Bool.false_eq_true,if_false]
   exact xL7 (s:={ q.1 with sess:=_ }) hk
theorem yR8 {g:Bool} {k:Bool} {s:bil.St} {a:bil.Ca} (hg:g=true) (hG:StG s) (hk:k=false->s.posted=[]) (hc:a.cmd.lines.all gLi=true):vY4 g k s a=outA (apF s a):=by
 have hgs:=yV0 hG
 have hd:bil.StOk E (dF s a.cmd).1:=bil.do_ok E hG.1
 unfold vY4 apF bil.applyF
 rw [hg,hgs,hc,Bool.and_self,Bool.and_self,Bool.and_self,Bool.and_self,Bool.and_self,Bool.and_self,cond_true,zE0,zE0,zC5]
 by_cases h1:a.cmd.kind < 1
 ·rw [decide_eq_true h1,if_pos (.inl h1)]
  exact xL7 hk
 ·by_cases h2:8 < a.cmd.kind
  ·rw [decide_eq_false h1,decide_eq_true h2,if_pos (.inr h2)]
   exact xL7 hk
  ·rw [decide_eq_false h1,decide_eq_false h2,if_neg (by omega)]
   by_cases h6:a.cmd.kind=6
   ·rw [decide_eq_true h6,if_pos h6]
    show oP k (joF s).1 (joF s).1.posted (joF s).2=outA (joF s)
    exact xL7 fun h=>by rw [yU7];exact hk h
   ·rw [decide_eq_false h6,if_neg h6,look_eq hG.1.sess]
    cases hl:bil.lookF s.sess a.session a.seq with
    | inr e =>
     have:=xM6 hl
     simp only
     rw [zB7 this]
     exact xL7 hk
    | inl v =>
     obtain⟨r,had⟩:=v
     simp only
     rw [zB8 rfl]
     cases had with
     | true=>exact xL7 hk
     | false =>
      show (bif true&&!appD a.cmd (dF s a.cmd).2 then kpT k a (dF s a.cmd) else kpT true a (dF s a.cmd))=outA ({ (dF s a.cmd).1 with sess:=bil.keepF (dF s a.cmd).1.sess a.session a.seq (dF s a.cmd).2 },(dF s a.cmd).2)
      cases hap:appD a.cmd (dF s a.cmd).2 with
      | true=>exact qS4 hd.sess (fun h=>by cases h)
      | false=>exact qS4 hd.sess (fun h=>by rw [xQ5 hap];exact hk h)
theorem vC6 (s:bil.St) (a:bil.Ca) (hG:StG s) (hc:a.cmd.lines.all gLi=true):zB3 c75 0 xT8 (.tup [shSt,.any]) [.agg (cSt s),.agg (cCa a)] some=outA (apF s a):=by
 rw [wY9,yV0 hG,Bool.true_and,cond_true]
 cases hp:s.posted.isEmpty with
 | true =>
  have h0:=List.isEmpty_iff.1 hp
  rw [cond_true,wG8 h0]
  exact yR8 rfl hG (fun _=>h0) hc
 | false =>
  rw [cond_false]
  exact yR8 (zA6 rfl) hG (fun h=>by cases h) hc
theorem dF_gP {s:bil.St} (c:bil.Cd) (hG:StG s):(dF s c).1.posted.all gP=true:=by
 cases hap:appD c (dF s c).2 with
 | false=>rw [xQ5 hap];exact hG.2
 | true =>
  unfold appD at hap
  rw [Bool.and_eq_true,Bool.or_eq_true,zC5,zC5,zC5,decide_eq_true_eq,decide_eq_true_eq,decide_eq_true_eq] at hap
  obtain⟨hk,hw⟩:=hap
  rcases hk with hk | hk
  ·have e:dF s c=blF s c:=by
    unfold dF bil.doF
    rw [if_neg (by omega),if_neg (by omega),if_neg (by omega),if_pos hk];rfl
   rw [e] at hw ⊢
   revert hw
   unfold blF bil.billF
   cases ht:bil.totalF E s.table c.day c.lines with
   | inr x=>intro _;exact hG.2
   | inl t =>
    intro hw
    obtain⟨n,hp⟩:=xA0 (s:=s) (c:=c.series) hw
    show (isF s c.series _).1.posted.all gP=true
    rw [hp,List.all_append,hG.2]
    have:=(xG1 ht).2
    simp only [List.all_cons,List.all_nil,Bool.and_true,Bool.true_and]
    exact this
  ·have e:dF s c=crF s c:=by
    unfold dF bil.doF
    rw [if_neg (by omega),if_neg (by omega),if_neg (by omega),if_neg (by omega),if_pos hk];rfl
   rw [e] at hw ⊢
   revert hw
   unfold crF bil.creditF
   cases hf:bil.findP s.posted c.of_ with
   | none=>intro _;exact hG.2
   | some i =>
    obtain⟨hi,hget⟩:=uS6 hf
    simp only [hget]
    split
    ·intro _;exact hG.2
    ·split
     ·intro _;exact hG.2
     ·cases hb:bil.backF (nPs s.posted i).tot with
      | none=>intro _;exact hG.2
      | some t =>
       have hso:=xA0 (s:=s) (c:=c.series) (p:=⟨bil.Ref.z,c.day,t,c.of_,false⟩)
       have hsm:=zX8 (s:=s) (c:=c.series) (p:=⟨bil.Ref.z,c.day,t,c.of_,false⟩)
       unfold isF at hso hsm
       simp only
       generalize bil.issueF E s c.series ⟨bil.Ref.z,c.day,t,c.of_,false⟩=Q at hso hsm
       obtain⟨s',r⟩:=Q
       simp only at hso hsm ⊢
       by_cases hw:r.why=0
       ·intro _
        rw [if_pos hw]
        obtain⟨n,hp⟩:=hso hw
        have h2:gTt (nPs s.posted i).tot=true:=List.all_eq_true.1 hG.2 _ (List.mem_of_getElem? hget)
        have ht:gTt t=true:=(xC8 hb).2 (gTt_iff.1 h2).2.2.2.2
        show (s'.posted.set i _).all gP=true
        rw [List.all_eq_true]
        intro x hx
        rcases List.mem_or_eq_of_mem_set hx with hx | rfl
        ·rw [hp] at hx
         rcases List.mem_append.1 hx with hx | hx
         ·exact List.all_eq_true.1 hG.2 x hx
         ·rw [List.mem_singleton.1 hx]
          exact ht
        ·exact h2
       ·intro hh
        rw [if_neg hw] at hh
        exact absurd hh hw
theorem qY0 {s:bil.St} {a:bil.Ca} (hG:StG s):StG (apF s a).1:=by
 refine⟨bil.apply_ok E hG.1,?_⟩
 unfold apF bil.applyF
 split
 ·exact hG.2
 ·split
  ·show (joF s).1.posted.all gP=true
   rw [yU7];exact hG.2
  ·split
   ·exact hG.2
   ·split
    ·exact hG.2
    ·exact dF_gP a.cmd hG
theorem new_G:StG ⟨[],[],[],[],[],1⟩:=⟨bil.new_ok E,rfl⟩
def yQ8:List AV->Option bil.St
 | [.fl .rate t,.fl .series l,.fl .posted p,.fl .bal b,.fl .ses z,.int .i64 n]=>some ⟨t,l,p,b,z,n⟩
 | _=>none
theorem zV7 {cs:List AV} {s:bil.St} (h:yQ8 cs=some s):cSt s=cs:=by
 unfold yQ8 at h
 split at h<;>first | (cases h;done) | (cases h;rfl)
def caOf:List AV->Option bil.Ca
 | .int .i64 x::.int .i64 y::cs=>(match cdOf cs with
  | some c=>some ⟨x,y,c⟩
  | none=>none)
 | _=>none
theorem uN6 {cs:List AV} {a:bil.Ca} (h:caOf cs=some a):cCa a=cs:=by
 unfold caOf at h
 split at h<;>first | (cases h;done) | skip
 rename_i x y cs
 cases hc:cdOf cs with
 | none=>rw [hc] at h;cases h
 | some c =>
  rw [hc] at h
  cases h
  unfold cCa
  rw [yH6 hc]
  rfl
def wC3:List AV->Option (Bool × AV)
 | [.agg cs,.agg ds]=>(match yQ8 cs with
  | some s=>(match caOf ds with
   | some a=>some (gSt s&&a.cmd.lines.all gLi,.tup [.agg (cSt (apF s a).1),rpA (apF s a).2])
   | none=>none)
  | none=>none)
 | _=>none
def c76:ClS:=addG 6 wC3 c75
theorem snd76:zA1 Tryz.prog c76:=zC2 snd75 mix uF5 (.tup [shSt,.any]) wC3 fun xs r h=>by
 unfold wC3 at h
 split at h<;>first | (cases h;done) | skip
 rename_i cs ds
 cases hs:yQ8 cs with
 | none=>rw [hs] at h;cases h
 | some s =>
  rw [hs] at h
  cases ha:caOf ds with
  | none=>rw [ha] at h;cases h
  | some a =>
   rw [ha] at h
   obtain⟨hg,rfl⟩:=Prod.mk.inj (Option.some.inj h)
   rw [Bool.and_eq_true] at hg
   rw [<- zV7 hs,<- uN6 ha]
   exact⟨rfl,0,vC6 s a (yU9 hg.1) hg.2⟩
end
noncomputable section
def shS1:Sh:=.agg [.any,.any,.lst .posted,.any,.any,.any]
def kCf (L:Nat):Ex->T AV->Mem->Option AV:=xO0 c76 L fun r m=>frzK m shS1 r some
def lpCf (L L':Nat) (s:bil.St) (len:Nat) (l:List bil.Pst) (n:Int):Option AV:=zC7 (evS c76 L xR4) xN5 0 L' (stL [(q1,.ptr 0 0),(q2,.ptr 1 0),(q26,i64 (.ofNat len)),(q27,i64 n)]) (mCp s len l) (kCf L)
theorem xI6 (L L' n len:Nat) (s:bil.St) (l:List bil.Pst):lpCf L (Nat.succ L') s len l (.ofNat n)=bif ltI (.ofNat n) (.ofNat len) then bif inI (.ofNat n) len then bif Nat.blt n l.length then bif Nat.blt (nPs l n).tot.parts.length 1048576 then bif inI (.ofNat n) len then bif Nat.blt n l.length then
 lpCf L L' s len (l.set n (nPs l n)) (zA3 .i64 (.ofNat n+1)) else none else none else none else none else none else bif Nat.beq len l.length then some (.agg (stC s (.fl .posted l))) else none:=by kernel_rfl
theorem wH8 (L:Nat) (s:bil.St) (l:List bil.Pst) (hl:l.length < 1000) (hp:∀ p∈l,p.tot.parts.length<=12):∀ (t:List bil.Pst) (n f:Nat),l.drop n=t->n<=l.length->t.length < f->lpCf L f s l.length l (.ofNat n)=some (.agg (stC s (.fl .posted l)))
 | t,n,0,_,_,hf=>by omega
 | [],n,f+1,hd,hn,hf=>by
  rw [xI6,drop_nil hd hn,zB6 (Nat.le_refl _),cond_false,zA6 rfl];rfl
 | x::t,n,f+1,hd,hn,hf=>by
  obtain⟨h1,h2,h3⟩:=zA5 (t:=.posted) hd
  have ih:=wH8 L s l hl hp t (n+1) f h3 (by omega) (by simp at hf;omega)
  have:=hp _ (List.mem_of_getElem? (zK4 h1))
  rw [xI6,zB4 h1,cond_true,zA9 h1,cond_true,zA0 h1,cond_true,zA0 (by omega),cond_true,cond_true,cond_true,set_self h1,zA2 (by omega),ih]
def gSm (t:List bil.Rt) (l:List bil.Sr) (b:List bil.Bal) (z:List bil.Ses) (q:Option AV):Option AV:=bif Nat.blt t.length 1048576 then bif Nat.blt l.length 1048576 then bif Nat.blt b.length 1048576 then bif Nat.blt z.length 1048576 then q else none else none else none else none
theorem vY8 (t:List bil.Rt) (l:List bil.Sr) (b:List bil.Bal) (z:List bil.Ses) (n:Int):zB3 c76 5 s_copied shS1 [.agg [.fl .rate t,.fl .series l,.fl .posted [],.fl .bal b,.fl .ses z,i64 n]] some=gSm t l b z (some (.agg (stC ⟨t,l,[],b,z,n⟩ (.fl .posted [])))):=by kernel_rfl
theorem vY7 (L:Nat) (x:bil.Pst) (p:List bil.Pst) (t:List bil.Rt) (l:List bil.Sr) (b:List bil.Bal) (z:List bil.Ses) (n:Int):zB3 c76 L s_copied shS1 [.agg [.fl .rate t,.fl .series l,.fl .posted (x::p),.fl .bal b,.fl .ses z,i64 n]] some =
 gSm t l b z (bif Nat.blt (x::p).length 1048576 then lpCf L L ⟨t,l,x::p,b,z,n⟩ (x::p).length (x::p) (.ofNat 0) else none):=by kernel_rfl
theorem qT5 {s:bil.St} (h:StG s) (q:Option AV):gSm s.table s.series s.book s.sess q=q:=by
 obtain⟨k1,k2,k3,k4,k5,k6⟩:=zE6 h
 unfold gSm
 rw [zA0 (by omega),zA0 (by omega),zA0 (by omega),zA0 (by omega)];rfl
theorem uX5 (s:bil.St) (h:StG s):∃ L,zB3 c76 L s_copied shS1 [.agg (cSt s)] some=some (.agg (cSt s)):=by
 obtain⟨k1,k2,k3,k4,k5,k6⟩:=zE6 h
 have hq:=qT5 h
 obtain⟨t,l,p,b,z,n⟩:=s
 cases p with
 | nil=>exact⟨5,(vY8 t l b z n).trans (hq _)⟩
 | cons x p =>
  refine⟨1000,(vY7 1000 x p t l b z n).trans ((hq _).trans ?_)⟩
  simp only at k3 k6
  rw [zA0 (by omega),cond_true,wH8 1000 _ (x::p) (by omega) k6 (x::p) 0 1000 rfl (by omega) (by omega)]
  rfl
def qK3:List AV->Option (Bool × AV)
 | [.agg cs]=>(match yQ8 cs with
  | some s=>some (gSt s,.agg (cSt s))
  | none=>none)
 | _=>none
def c77:ClS:=addG 11 qK3 c76
theorem snd77:zA1 Tryz.prog c77:=zC2 snd76 mix xL3 shS1 qK3 fun xs r h=>by
 unfold qK3 at h
 split at h<;>first | (cases h;done) | skip
 rename_i cs
 cases hs:yQ8 cs with
 | none=>rw [hs] at h;cases h
 | some s =>
  rw [hs] at h
  obtain⟨hg,rfl⟩:=Prod.mk.inj (Option.some.inj h)
  rw [<- zV7 hs]
  exact⟨rfl,uX5 s (yU9 hg)⟩
def nC (l:List bil.Ca) (n:Nat):bil.Ca:=nth (t:=.call) l n
def gCa (a:bil.Ca):Bool:=a.cmd.lines.all gLi
def c78:ClS:=c77
theorem snd78:zA1 Tryz.prog c78:=snd77
end
set_option maxHeartbeats 4000000
set_option maxRecDepth 100000
def d_few:SOf Tryz.prog 4 [([0,1,5,6],0)] [(33,(.ty .call 0))]:=⟨_,by conv=>lhs;reduce⟩
def s_few:FnS:=d_few.1
def uS4:List Path:=[q0,q1,q5,q6]
def uT5:SC:=(⟨_,by conv=>lhs;reduce⟩:VOf (s_few.lp 0)).1
def qY5:SC:=(⟨_,by conv=>lhs;reduce⟩:VOf (s_few.af 0)).1
def qS9 {β:Type} (cl:ClS) (L:Nat) (K:AV->Mem->Option β):Ex->T AV->Mem->Option β:=kBlk 0 (kSeq (evS cl L qY5) (endS s_few.res K))
theorem qQ3:zB2 Tryz.prog 4 s_few:=zA8 d_few.2
def d_states:SOf Tryz.prog 9 [] []:=⟨_,by conv=>lhs;reduce⟩
def wD5:FnS:=d_states.1
theorem vF3:zB2 Tryz.prog 9 wD5:=zA8 d_states.2
def d_sPosted:SOf Tryz.prog 37 [([0,1,5],0)] []:=⟨(⟨_,by conv=>lhs;reduce⟩:GOf (gS Tryz.prog 37 [([0,1,5],0)] [])).1,by kernel_rfl⟩
def s_sPosted:FnS:=d_sPosted.1
def wS7:List Path:=[q0,q1,q5]
def wW1:SC:=(⟨_,by conv=>lhs;reduce⟩:VOf (s_sPosted.lp 0)).1
def wW9:SC:=(⟨_,by conv=>lhs;reduce⟩:VOf (s_sPosted.af 0)).1
def wT8 {β:Type} (cl:ClS) (L:Nat) (K:AV->Mem->Option β):Ex->T AV->Mem->Option β:=kBlk 0 (kSeq (evS cl L wW9) (endS s_sPosted.res K))
theorem wQ6:zB2 Tryz.prog 37 s_sPosted:=zA8 d_sPosted.2
def d_sTotals:SOf Tryz.prog 80 [] []:=⟨_,by conv=>lhs;reduce⟩
def xH1:FnS:=d_sTotals.1
theorem wQ5:zB2 Tryz.prog 80 xH1:=zA8 d_sTotals.2
def d_sameRt:SOf Tryz.prog 35 [([0,1,5],0)] []:=⟨(⟨_,by conv=>lhs;reduce⟩:GOf (gS Tryz.prog 35 [([0,1,5],0)] [])).1,by kernel_rfl⟩
def s_sameRt:FnS:=d_sameRt.1
def vL1:List Path:=[q0,q1,q5]
def vS7:SC:=(⟨_,by conv=>lhs;reduce⟩:VOf (s_sameRt.lp 0)).1
def vU7:SC:=(⟨_,by conv=>lhs;reduce⟩:VOf (s_sameRt.af 0)).1
def vM3 {β:Type} (cl:ClS) (L:Nat) (K:AV->Mem->Option β):Ex->T AV->Mem->Option β:=kBlk 0 (kSeq (evS cl L vU7) (endS s_sameRt.res K))
theorem vG1:zB2 Tryz.prog 35 s_sameRt:=zA8 d_sameRt.2
def d_sameSr:SOf Tryz.prog 36 [([0,1,5],0)] []:=⟨(⟨_,by conv=>lhs;reduce⟩:GOf (gS Tryz.prog 36 [([0,1,5],0)] [])).1,by kernel_rfl⟩
def s_sameSr:FnS:=d_sameSr.1
def vL0:List Path:=[q0,q1,q5]
def vS6:SC:=(⟨_,by conv=>lhs;reduce⟩:VOf (s_sameSr.lp 0)).1
def vU6:SC:=(⟨_,by conv=>lhs;reduce⟩:VOf (s_sameSr.af 0)).1
def vM2 {β:Type} (cl:ClS) (L:Nat) (K:AV->Mem->Option β):Ex->T AV->Mem->Option β:=kBlk 0 (kSeq (evS cl L vU6) (endS s_sameSr.res K))
theorem vG0:zB2 Tryz.prog 36 s_sameSr:=zA8 d_sameSr.2
def d_sameBal:SOf Tryz.prog 38 [([0,1,5],0)] []:=⟨(⟨_,by conv=>lhs;reduce⟩:GOf (gS Tryz.prog 38 [([0,1,5],0)] [])).1,by kernel_rfl⟩
def s_sameBal:FnS:=d_sameBal.1
def wS6:List Path:=[q0,q1,q5]
def wW0:SC:=(⟨_,by conv=>lhs;reduce⟩:VOf (s_sameBal.lp 0)).1
def wW8:SC:=(⟨_,by conv=>lhs;reduce⟩:VOf (s_sameBal.af 0)).1
def wT7 {β:Type} (cl:ClS) (L:Nat) (K:AV->Mem->Option β):Ex->T AV->Mem->Option β:=kBlk 0 (kSeq (evS cl L wW8) (endS s_sameBal.res K))
theorem wQ4:zB2 Tryz.prog 38 s_sameBal:=zA8 d_sameBal.2
def d_sameSes:SOf Tryz.prog 39 [([0,1,5],0)] []:=⟨(⟨_,by conv=>lhs;reduce⟩:GOf (gS Tryz.prog 39 [([0,1,5],0)] [])).1,by kernel_rfl⟩
def s_sameSes:FnS:=d_sameSes.1
def wS5:List Path:=[q0,q1,q5]
def wV9:SC:=(⟨_,by conv=>lhs;reduce⟩:VOf (s_sameSes.lp 0)).1
def wW7:SC:=(⟨_,by conv=>lhs;reduce⟩:VOf (s_sameSes.af 0)).1
def wT6 {β:Type} (cl:ClS) (L:Nat) (K:AV->Mem->Option β):Ex->T AV->Mem->Option β:=kBlk 0 (kSeq (evS cl L wW7) (endS s_sameSes.res K))
theorem wQ3:zB2 Tryz.prog 39 s_sameSes:=zA8 d_sameSes.2
def d_samePt:SOf Tryz.prog 119 [([0,1,5],0)] []:=⟨(⟨_,by conv=>lhs;reduce⟩:GOf (gS Tryz.prog 119 [([0,1,5],0)] [])).1,by kernel_rfl⟩
def s_samePt:FnS:=d_samePt.1
def vL2:List Path:=[q0,q1,q5]
def vS8:SC:=(⟨_,by conv=>lhs;reduce⟩:VOf (s_samePt.lp 0)).1
def vU8:SC:=(⟨_,by conv=>lhs;reduce⟩:VOf (s_samePt.af 0)).1
def vM4 {β:Type} (cl:ClS) (L:Nat) (K:AV->Mem->Option β):Ex->T AV->Mem->Option β:=kBlk 0 (kSeq (evS cl L vU8) (endS s_samePt.res K))
theorem vG2:zB2 Tryz.prog 119 s_samePt:=zA8 d_samePt.2
noncomputable section
theorem zS1 (x:ByteArray):zC1 x.data.toList x.data.toList=true:=by rw [zF2];exact decide_eq_true rfl
theorem zD3 (x:Int):eqI x x=true:=zB8 rfl
def sRtx (x:bil.Rt):Bool:=zC1 x.cat.data.toList x.cat.data.toList&&(eqI x.fr.y x.fr.y&&(eqI x.fr.m x.fr.m&&(eqI x.fr.d x.fr.d&&(eqI x.bp x.bp&&true))))
theorem uW7 (x:bil.Rt):sRtx x=true:=by
 unfold sRtx
 simp only [zS1,zD3,Bool.and_self]
def uH0 (L L':Nat) (s:List bil.Rt) (n:Int):Option AV:=zC7 (evS c78 L vS7) vL1 0 L' (stL [(q0,.fl .rate s),(q1,.fl .rate s),(q5,i64 n)]) m0 (vM3 c78 L fun r m=>frzK m .any r some)
theorem yD4 (L L' n:Nat) (s:List bil.Rt):uH0 L (Nat.succ L') s (.ofNat n)=bif ltI (.ofNat n) (.ofNat s.length) then bif inI (.ofNat n) s.length then bif inI (.ofNat n) s.length then bif (bif true then !sRtx (nth (t:=.rate) s n) else sRtx (nth (t:=.rate) s n)) then some (.bool false) else uH0 L L' s (zA3 .i64 (.ofNat n+1)) else none else none else some (.bool true):=by kernel_rfl
theorem yL1 (L:Nat) (s:List bil.Rt) (hl:s.length < 1000000):∀ (t:List bil.Rt) (n f:Nat),s.drop n=t->n<=s.length->t.length < f->uH0 L f s (.ofNat n)=some (.bool true)
 | t,n,0,_,_,hf=>by omega
 | [],n,f+1,hd,hn,hf=>by
  rw [yD4,drop_nil hd hn,zB6 (Nat.le_refl _),cond_false]
 | x::t,n,f+1,hd,hn,hf=>by
  obtain⟨h1,h2,h3⟩:=zA5 (t:=.rate) hd
  have ih:=yL1 L s hl t (n+1) f h3 (by omega) (by simp at hf;omega)
  rw [yD4,zB4 h1,cond_true,zA9 h1,cond_true,cond_true,cond_true,uW7,Bool.not_true,cond_false,zA2 (by omega),ih]
def xF1:List AV->Option (Bool × AV)
 | [.fl .rate l,.fl .rate l']=>some (@decide (l=l') (Classical.propDecidable _)&&Nat.blt l.length 1000000,.bool true)
 | _=>none
def c79:ClS:=addG 35 xF1 c78
theorem snd79:zA1 Tryz.prog c79:=zC2 snd78 mix vG1 .any xF1 fun xs r h=>by
 unfold xF1 at h
 split at h<;>first | (cases h;done) | skip
 rename_i l l'
 obtain⟨hg,rfl⟩:=Prod.mk.inj (Option.some.inj h)
 rw [Bool.and_eq_true] at hg
 have he:l=l':=zE7 hg.1
 subst he
 have e:∀ L,zB3 c78 L s_sameRt .any [.fl .rate l,.fl .rate l] some=bif !eqI (.ofNat l.length) (.ofNat l.length) then some (.bool false) else uH0 L L l (.ofNat 0):=fun L=>by kernel_rfl
 have hl:=blt_iff.1 hg.2
 refine⟨rfl,l.length+1,?_⟩
 rw [e,zD3,Bool.not_true,cond_false,yL1 _ l hl l 0 _ rfl (by omega) (by omega)]
def sSrx (x:bil.Sr):Bool:=zC1 x.name.data.toList x.name.data.toList&&(eqI x.next x.next&&(eqI x.limit x.limit&&((bif x.shut then x.shut else !x.shut)&&true)))
theorem uW6 (x:bil.Sr):sSrx x=true:=by
 unfold sSrx
 simp only [zS1,zD3,Bool.and_true]
 cases x.shut<;>rfl
def uG9 (L L':Nat) (s:List bil.Sr) (n:Int):Option AV:=zC7 (evS c79 L vS6) vL0 0 L' (stL [(q0,.fl .series s),(q1,.fl .series s),(q5,i64 n)]) m0 (vM2 c79 L fun r m=>frzK m .any r some)
theorem yD3 (L L' n:Nat) (s:List bil.Sr):uG9 L (Nat.succ L') s (.ofNat n)=bif ltI (.ofNat n) (.ofNat s.length) then bif inI (.ofNat n) s.length then bif inI (.ofNat n) s.length then bif (bif true then !sSrx (nth (t:=.series) s n) else sSrx (nth (t:=.series) s n)) then some (.bool false) else uG9 L L' s (zA3 .i64 (.ofNat n+1)) else none else none else some (.bool true):=by kernel_rfl
theorem yL0 (L:Nat) (s:List bil.Sr) (hl:s.length < 1000000):∀ (t:List bil.Sr) (n f:Nat),s.drop n=t->n<=s.length->t.length < f->uG9 L f s (.ofNat n)=some (.bool true)
 | t,n,0,_,_,hf=>by omega
 | [],n,f+1,hd,hn,hf=>by
  rw [yD3,drop_nil hd hn,zB6 (Nat.le_refl _),cond_false]
 | x::t,n,f+1,hd,hn,hf=>by
  obtain⟨h1,h2,h3⟩:=zA5 (t:=.series) hd
  have ih:=yL0 L s hl t (n+1) f h3 (by omega) (by simp at hf;omega)
  rw [yD3,zB4 h1,cond_true,zA9 h1,cond_true,cond_true,cond_true,uW6,Bool.not_true,cond_false,zA2 (by omega),ih]
def xF0:List AV->Option (Bool × AV)
 | [.fl .series l,.fl .series l']=>some (@decide (l=l') (Classical.propDecidable _)&&Nat.blt l.length 1000000,.bool true)
 | _=>none
def c80:ClS:=addG 36 xF0 c79
theorem snd80:zA1 Tryz.prog c80:=zC2 snd79 mix vG0 .any xF0 fun xs r h=>by
 unfold xF0 at h
 split at h<;>first | (cases h;done) | skip
 rename_i l l'
 obtain⟨hg,rfl⟩:=Prod.mk.inj (Option.some.inj h)
 rw [Bool.and_eq_true] at hg
 have he:l=l':=zE7 hg.1
 subst he
 have e:∀ L,zB3 c79 L s_sameSr .any [.fl .series l,.fl .series l] some=bif !eqI (.ofNat l.length) (.ofNat l.length) then some (.bool false) else uG9 L L l (.ofNat 0):=fun L=>by kernel_rfl
 have hl:=blt_iff.1 hg.2
 refine⟨rfl,l.length+1,?_⟩
 rw [e,zD3,Bool.not_true,cond_false,yL0 _ l hl l 0 _ rfl (by omega) (by omega)]
def uB2 (x:bil.Bal):Bool:=zC1 x.acc.data.toList x.acc.data.toList&&(eqI x.amt x.amt&&true)
theorem uB1 (x:bil.Bal):uB2 x=true:=by
 unfold uB2
 simp only [zS1,zD3,Bool.and_self]
def wH4 (L L':Nat) (s:List bil.Bal) (n:Int):Option AV:=zC7 (evS c80 L wW0) wS6 0 L' (stL [(q0,.fl .bal s),(q1,.fl .bal s),(q5,i64 n)]) m0 (wT7 c80 L fun r m=>frzK m .any r some)
theorem zW5 (L L' n:Nat) (s:List bil.Bal):wH4 L (Nat.succ L') s (.ofNat n)=bif ltI (.ofNat n) (.ofNat s.length) then bif inI (.ofNat n) s.length then bif inI (.ofNat n) s.length then bif (bif true then !uB2 (nth (t:=.bal) s n) else uB2 (nth (t:=.bal) s n)) then some (.bool false) else wH4 L L' s (zA3 .i64 (.ofNat n+1)) else none else none else some (.bool true):=by kernel_rfl
theorem yE4 (L:Nat) (s:List bil.Bal) (hl:s.length < 1000000):∀ (t:List bil.Bal) (n f:Nat),s.drop n=t->n<=s.length->t.length < f->wH4 L f s (.ofNat n)=some (.bool true)
 | t,n,0,_,_,hf=>by omega
 | [],n,f+1,hd,hn,hf=>by
  rw [zW5,drop_nil hd hn,zB6 (Nat.le_refl _),cond_false]
 | x::t,n,f+1,hd,hn,hf=>by
  obtain⟨h1,h2,h3⟩:=zA5 (t:=.bal) hd
  have ih:=yE4 L s hl t (n+1) f h3 (by omega) (by simp at hf;omega)
  rw [zW5,zB4 h1,cond_true,zA9 h1,cond_true,cond_true,cond_true,uB1,Bool.not_true,cond_false,zA2 (by omega),ih]
def yQ2:List AV->Option (Bool × AV)
 | [.fl .bal l,.fl .bal l']=>some (@decide (l=l') (Classical.propDecidable _)&&Nat.blt l.length 1000000,.bool true)
 | _=>none
def c81:ClS:=addG 38 yQ2 c80
theorem snd81:zA1 Tryz.prog c81:=zC2 snd80 mix wQ4 .any yQ2 fun xs r h=>by
 unfold yQ2 at h
 split at h<;>first | (cases h;done) | skip
 rename_i l l'
 obtain⟨hg,rfl⟩:=Prod.mk.inj (Option.some.inj h)
 rw [Bool.and_eq_true] at hg
 have he:l=l':=zE7 hg.1
 subst he
 have e:∀ L,zB3 c80 L s_sameBal .any [.fl .bal l,.fl .bal l] some=bif !eqI (.ofNat l.length) (.ofNat l.length) then some (.bool false) else wH4 L L l (.ofNat 0):=fun L=>by kernel_rfl
 have hl:=blt_iff.1 hg.2
 refine⟨rfl,l.length+1,?_⟩
 rw [e,zD3,Bool.not_true,cond_false,yE4 _ l hl l 0 _ rfl (by omega) (by omega)]
def uB0 (x:bil.Ses):Bool:=eqI x.id x.id&&(eqI x.last x.last&&(eqI x.rep.why x.rep.why&&(eqI x.rep.number x.rep.number&&(eqI x.rep.gross x.rep.gross&&true))))
theorem uA9 (x:bil.Ses):uB0 x=true:=by
 unfold uB0
 simp only [zD3,Bool.and_self]
def wH2 (L L':Nat) (s:List bil.Ses) (n:Int):Option AV:=zC7 (evS c81 L wV9) wS5 0 L' (stL [(q0,.fl .ses s),(q1,.fl .ses s),(q5,i64 n)]) m0 (wT6 c81 L fun r m=>frzK m .any r some)
theorem zW4 (L L' n:Nat) (s:List bil.Ses):wH2 L (Nat.succ L') s (.ofNat n)=bif ltI (.ofNat n) (.ofNat s.length) then bif inI (.ofNat n) s.length then bif inI (.ofNat n) s.length then bif (bif true then !uB0 (nth (t:=.ses) s n) else uB0 (nth (t:=.ses) s n)) then some (.bool false) else wH2 L L' s (zA3 .i64 (.ofNat n+1)) else none else none else some (.bool true):=by kernel_rfl
theorem yE3 (L:Nat) (s:List bil.Ses) (hl:s.length < 1000000):∀ (t:List bil.Ses) (n f:Nat),s.drop n=t->n<=s.length->t.length < f->wH2 L f s (.ofNat n)=some (.bool true)
 | t,n,0,_,_,hf=>by omega
 | [],n,f+1,hd,hn,hf=>by
  rw [zW4,drop_nil hd hn,zB6 (Nat.le_refl _),cond_false]
 | x::t,n,f+1,hd,hn,hf=>by
  obtain⟨h1,h2,h3⟩:=zA5 (t:=.ses) hd
  have ih:=yE3 L s hl t (n+1) f h3 (by omega) (by simp at hf;omega)
  rw [zW4,zB4 h1,cond_true,zA9 h1,cond_true,cond_true,cond_true,uA9,Bool.not_true,cond_false,zA2 (by omega),ih]
def yQ1:List AV->Option (Bool × AV)
 | [.fl .ses l,.fl .ses l']=>some (@decide (l=l') (Classical.propDecidable _)&&Nat.blt l.length 1000000,.bool true)
 | _=>none
def c82:ClS:=addG 39 yQ1 c81
theorem snd82:zA1 Tryz.prog c82:=zC2 snd81 mix wQ3 .any yQ1 fun xs r h=>by
 unfold yQ1 at h
 split at h<;>first | (cases h;done) | skip
 rename_i l l'
 obtain⟨hg,rfl⟩:=Prod.mk.inj (Option.some.inj h)
 rw [Bool.and_eq_true] at hg
 have he:l=l':=zE7 hg.1
 subst he
 have e:∀ L,zB3 c81 L s_sameSes .any [.fl .ses l,.fl .ses l] some=bif !eqI (.ofNat l.length) (.ofNat l.length) then some (.bool false) else wH2 L L l (.ofNat 0):=fun L=>by kernel_rfl
 have hl:=blt_iff.1 hg.2
 refine⟨rfl,l.length+1,?_⟩
 rw [e,zD3,Bool.not_true,cond_false,yE3 _ l hl l 0 _ rfl (by omega) (by omega)]
def sPtx (x:bil.Pt):Bool:=zC1 x.cat.data.toList x.cat.data.toList&&(eqI x.bp x.bp&&(eqI x.net x.net&&(eqI x.tax x.tax&&true)))
theorem uW8 (x:bil.Pt):sPtx x=true:=by
 unfold sPtx
 simp only [zS1,zD3,Bool.and_self]
def uH1 (L L':Nat) (s:List bil.Pt) (n:Int):Option AV:=zC7 (evS c82 L vS8) vL2 0 L' (stL [(q0,.fl .part s),(q1,.fl .part s),(q5,i64 n)]) m0 (vM4 c82 L fun r m=>frzK m .any r some)
theorem yD5 (L L' n:Nat) (s:List bil.Pt):uH1 L (Nat.succ L') s (.ofNat n)=bif ltI (.ofNat n) (.ofNat s.length) then bif inI (.ofNat n) s.length then bif inI (.ofNat n) s.length then bif (bif true then !sPtx (nth (t:=.part) s n) else sPtx (nth (t:=.part) s n)) then some (.bool false) else uH1 L L' s (zA3 .i64 (.ofNat n+1)) else none else none else some (.bool true):=by kernel_rfl
theorem yL2 (L:Nat) (s:List bil.Pt) (hl:s.length < 1000000):∀ (t:List bil.Pt) (n f:Nat),s.drop n=t->n<=s.length->t.length < f->uH1 L f s (.ofNat n)=some (.bool true)
 | t,n,0,_,_,hf=>by omega
 | [],n,f+1,hd,hn,hf=>by
  rw [yD5,drop_nil hd hn,zB6 (Nat.le_refl _),cond_false]
 | x::t,n,f+1,hd,hn,hf=>by
  obtain⟨h1,h2,h3⟩:=zA5 (t:=.part) hd
  have ih:=yL2 L s hl t (n+1) f h3 (by omega) (by simp at hf;omega)
  rw [yD5,zB4 h1,cond_true,zA9 h1,cond_true,cond_true,cond_true,uW8,Bool.not_true,cond_false,zA2 (by omega),ih]
def xF2:List AV->Option (Bool × AV)
 | [.fl .part l,.fl .part l']=>some (@decide (l=l') (Classical.propDecidable _)&&Nat.blt l.length 1000000,.bool true)
 | _=>none
def c83:ClS:=addG 119 xF2 c82
theorem snd83:zA1 Tryz.prog c83:=zC2 snd82 mix vG2 .any xF2 fun xs r h=>by
 unfold xF2 at h
 split at h<;>first | (cases h;done) | skip
 rename_i l l'
 obtain⟨hg,rfl⟩:=Prod.mk.inj (Option.some.inj h)
 rw [Bool.and_eq_true] at hg
 have he:l=l':=zE7 hg.1
 subst he
 have e:∀ L,zB3 c82 L s_samePt .any [.fl .part l,.fl .part l] some=bif !eqI (.ofNat l.length) (.ofNat l.length) then some (.bool false) else uH1 L L l (.ofNat 0):=fun L=>by kernel_rfl
 have hl:=blt_iff.1 hg.2
 refine⟨rfl,l.length+1,?_⟩
 rw [e,zD3,Bool.not_true,cond_false,yL2 _ l hl l 0 _ rfl (by omega) (by omega)]
end
theorem decC {p:Prop} (h:p):@decide p (Classical.propDecidable _)=true:=@decide_eq_true _ (Classical.propDecidable _) h
noncomputable section
def yQ3:List AV->Option (Bool × AV)
 | [.agg [.int .i64 n,.int .i64 t,.int .i64 g,.fl .part l],.agg [.int .i64 n',.int .i64 t',.int .i64 g',.fl .part l']]=>some (@decide ((⟨n,t,g,l⟩:bil.Tot)=⟨n',t',g',l'⟩) (Classical.propDecidable _)&&Nat.blt l.length 1000000,.bool true)
 | _=>none
def c84:ClS:=addG 80 yQ3 c83
theorem snd84:zA1 Tryz.prog c84:=zC2 snd83 mix wQ5 .any yQ3 fun xs r h=>by
 unfold yQ3 at h
 split at h<;>first | (cases h;done) | skip
 rename_i n t g l n' t' g' l'
 obtain⟨hg,rfl⟩:=Prod.mk.inj (Option.some.inj h)
 rw [Bool.and_eq_true] at hg
 have he:(⟨n,t,g,l⟩:bil.Tot)=⟨n',t',g',l'⟩:=zE7 hg.1
 cases he
 refine⟨rfl,0,?_⟩
 have e:zB3 c83 0 xH1 .any [.agg [.int .i64 n,.int .i64 t,.int .i64 g,.fl .part l],.agg [.int .i64 n,.int .i64 t,.int .i64 g,.fl .part l]] some=bif eqI n n then bif eqI t t then bif eqI g g then bif @decide (l=l) (Classical.propDecidable _)&&Nat.blt l.length 1000000 then some (.bool true) else none else some (.bool false) else some (.bool false) else some (.bool false):=by kernel_rfl
 rw [e,zD3,zD3,zD3,decC rfl,hg.2];rfl
def sRfx (x:bil.Ref):Bool:=zC1 x.ser.data.toList x.ser.data.toList&&(eqI x.num x.num&&true)
def sDtx (x:bil.Dt):Bool:=eqI x.y x.y&&(eqI x.m x.m&&(eqI x.d x.d&&true))
theorem vB6 (x:bil.Ref):sRfx x=true:=by unfold sRfx;rw [zS1,zD3];rfl
theorem uW9 (x:bil.Dt):sDtx x=true:=by unfold sDtx;rw [zD3,zD3,zD3];rfl
def lpPx (L L':Nat) (s:List bil.Pst) (n:Int):Option AV:=zC7 (evS c84 L wW1) wS7 0 L' (stL [(q0,.fl .posted s),(q1,.fl .posted s),(q5,i64 n)]) m0 (wT8 c84 L fun r m=>frzK m .any r some)
def i2 (b:Bool) (q:Option AV):Option AV:=bif b then bif b then q else none else none
def tlP (L L' n:Nat) (s:List bil.Pst):Option AV:=i2 (inI (.ofNat n) s.length) (bif @decide ((nPs s n).tot=(nPs s n).tot) (Classical.propDecidable _)&&Nat.blt (nPs s n).tot.parts.length 1000000 then lpPx L L' s (zA3 .i64 (.ofNat n+1)) else none)
theorem zW6 (L L' n:Nat) (s:List bil.Pst):lpPx L (Nat.succ L') s (.ofNat n)=bif ltI (.ofNat n) (.ofNat s.length) then i2 (inI (.ofNat n) s.length) (
 bif (bif true then !sRfx (nPs s n).ref else sRfx (nPs s n).ref) then some (.bool false) else i2 (inI (.ofNat n) s.length) (bif (bif true then !sDtx (nPs s n).day else sDtx (nPs s n).day) then some (.bool false) else i2 (inI (.ofNat n) s.length) (
  bif (bif true then !sRfx (nPs s n).of_ else sRfx (nPs s n).of_) then some (.bool false) else bif inI (.ofNat n) s.length then bif (nPs s n).back then bif inI (.ofNat n) s.length then bif (nPs s n).back then tlP L L' n s else some (.bool false) else none
   else bif inI (.ofNat n) s.length then bif (nPs s n).back then some (.bool false) else tlP L L' n s else none else none))) else some (.bool true):=by kernel_rfl
theorem yE5 (L:Nat) (s:List bil.Pst) (hl:s.length < 1000000) (hp:∀ p∈s,p.tot.parts.length<=12):∀ (t:List bil.Pst) (n f:Nat),s.drop n=t->n<=s.length->t.length < f->lpPx L f s (.ofNat n)=some (.bool true)
 | t,n,0,_,_,hf=>by omega
 | [],n,f+1,hd,hn,hf=>by
  rw [zW6,drop_nil hd hn,zB6 (Nat.le_refl _),cond_false]
 | x::t,n,f+1,hd,hn,hf=>by
  obtain⟨h1,h2,h3⟩:=zA5 (t:=.posted) hd
  have ih:=yE5 L s hl hp t (n+1) f h3 (by omega) (by simp at hf;omega)
  have h12:=hp _ (List.mem_of_getElem? (zK4 h1))
  have ht:tlP L f n s=some (.bool true):=by
   unfold tlP i2
   rw [zA9 h1,cond_true,cond_true,decC rfl,zA0 (by omega),Bool.and_self,cond_true,zA2 (by omega),ih]
  rw [zW6,zB4 h1,cond_true,ht,vB6,vB6,uW9]
  unfold i2
  rw [zA9 h1]
  cases (nPs s n).back<;>rfl
def gP12 (p:bil.Pst):Bool:=Nat.blt p.tot.parts.length 13
def yQ4:List AV->Option (Bool × AV)
 | [.fl .posted l,.fl .posted l']=>some (@decide (l=l') (Classical.propDecidable _)&&(Nat.blt l.length 1000000&&l.all gP12),.bool true)
 | _=>none
def c85:ClS:=addG 37 yQ4 c84
theorem snd85:zA1 Tryz.prog c85:=zC2 snd84 mix wQ6 .any yQ4 fun xs r h=>by
 unfold yQ4 at h
 split at h<;>first | (cases h;done) | skip
 rename_i l l'
 obtain⟨hg,rfl⟩:=Prod.mk.inj (Option.some.inj h)
 rw [Bool.and_eq_true,Bool.and_eq_true] at hg
 have he:l=l':=zE7 hg.1
 subst he
 have e:∀ L,zB3 c84 L s_sPosted .any [.fl .posted l,.fl .posted l] some=bif !eqI (.ofNat l.length) (.ofNat l.length) then some (.bool false) else lpPx L L l (.ofNat 0):=fun L=>by kernel_rfl
 have hl:=blt_iff.1 hg.2.1
 refine⟨rfl,l.length+1,?_⟩
 rw [e,zD3,Bool.not_true,cond_false,yE5 _ l hl (fun p hp=>by have:=blt_iff.1 (List.all_eq_true.1 hg.2.2 p hp);omega) l 0 _ rfl (by omega) (by omega)]
def xE3:List AV->Option (Bool × AV)
 | [.agg cs,.agg ds]=>(match yQ8 cs with
  | some s=>(match yQ8 ds with
   | some t=>some (gSt s&&@decide (s=t) (Classical.propDecidable _),.bool true)
   | none=>none)
  | none=>none)
 | _=>none
def c86:ClS:=addG 9 xE3 c85
theorem snd86:zA1 Tryz.prog c86:=zC2 snd85 mix vF3 .any xE3 fun xs r h=>by
 unfold xE3 at h
 split at h<;>first | (cases h;done) | skip
 rename_i cs ds
 cases hs:yQ8 cs with
 | none=>rw [hs] at h;cases h
 | some s =>
  rw [hs] at h
  cases ht:yQ8 ds with
  | none=>rw [ht] at h;cases h
  | some t =>
   rw [ht] at h
   obtain⟨hg,rfl⟩:=Prod.mk.inj (Option.some.inj h)
   rw [Bool.and_eq_true] at hg
   have he:s=t:=zE7 hg.2
   subst he
   rw [<- zV7 hs,<- zV7 ht]
   obtain⟨k1,k2,k3,k4,k5,k6⟩:=zE6 (yU9 hg.1)
   have e:zB3 c85 0 wD5 .any [.agg (cSt s),.agg (cSt s)] some=bif @decide (s.table=s.table) (Classical.propDecidable _)&&Nat.blt s.table.length 1000000 then bif @decide (s.series=s.series) (Classical.propDecidable _)&&Nat.blt s.series.length 1000000 then
     bif @decide (s.posted=s.posted) (Classical.propDecidable _)&&(Nat.blt s.posted.length 1000000&&s.posted.all gP12) then bif @decide (s.book=s.book) (Classical.propDecidable _)&&Nat.blt s.book.length 1000000 then bif @decide (s.sess=s.sess) (Classical.propDecidable _)&&Nat.blt s.sess.length 1000000 then
      bif eqI s.next s.next then some (.bool true) else some (.bool false) else none else none else none else none else none:=by kernel_rfl
   have h12:s.posted.all gP12=true:=by
    rw [List.all_eq_true]
    intro p hp
    unfold gP12
    exact zA0 (by have:=k6 p hp;omega)
   refine⟨rfl,0,?_⟩
   rw [e,decC rfl,decC rfl,decC rfl,decC rfl,decC rfl,zA0 (by omega),zA0 (by omega),zA0 (by omega),zA0 (by omega),zA0 (by omega),h12,zD3]
   rfl
def fewC (a:bil.Ca):bil.Ca:={ a with cmd:={ a.cmd with lines:=a.cmd.lines.take 15 } }
def fewL (l:List bil.Ca) (n:Nat):List bil.Ca:=(l.take n).map fewC
def kFw (L:Nat):Ex->T AV->Mem->Option AV:=qS9 c86 L fun r m=>frzK m (.lst .call) r some
def mFw (o:List bil.Ca):Mem:=⟨T.nil.node (some ⟨.ls .call o,17,true⟩) T.nil,1,1,1⟩
def qR6 (L L':Nat) (l:List bil.Ca) (n:Int):Option AV:=zC7 (evS c86 L uT5) uS4 0 L' (stL [(q0,.fl .call l),(q1,i64 50),(q5,.nilsl),(q6,i64 n)]) m0 (kFw L)
def lpFw (L L':Nat) (l:List bil.Ca) (len:Nat) (o:List bil.Ca) (n:Int):Option AV:=zC7 (evS c86 L uT5) uS4 0 L' (stL [(q0,.fl .call l),(q1,i64 50),(q5,.so 0 17 0 len),(q6,i64 n)]) (mFw o) (kFw L)
theorem yS6 (L L' n:Nat) (l:List bil.Ca):qR6 L (Nat.succ L') l (.ofNat n)=bif ltI (.ofNat n) (.ofNat l.length) then bif ltI (.ofNat n) 50 then bif inI (.ofNat n) l.length then bif ltI 15 (.ofNat (nC l n).cmd.lines.length) then bif inI 15 ((nC l n).cmd.lines.length+1) then
 lpFw L L' l 1 [fewC (nC l n)] (zA3 .i64 (.ofNat n+1)) else none else lpFw L L' l 1 [nC l n] (zA3 .i64 (.ofNat n+1)) else none else some (.fl .call []) else some (.fl .call []):=by kernel_rfl
def apC (L L':Nat) (l:List bil.Ca) (len:Nat) (o:List bil.Ca) (n:Nat) (x:bil.Ca):Option AV:=bif Nat.beq o.length len then bif Nat.blt (len+1) 1048576 then lpFw L L' l (o++[x]).length (o++[x]) (zA3 .i64 (.ofNat n+1)) else none else none
def enC (len:Nat) (o:List bil.Ca):Option AV:=bif Nat.beq len o.length then some (.fl .call o) else none
theorem xI4 (L L' n len:Nat) (l o:List bil.Ca):lpFw L (Nat.succ L') l len o (.ofNat n)=bif ltI (.ofNat n) (.ofNat l.length) then bif ltI (.ofNat n) 50 then bif inI (.ofNat n) l.length then bif ltI 15 (.ofNat (nC l n).cmd.lines.length) then bif inI 15 ((nC l n).cmd.lines.length+1) then
 apC L L' l len o n (fewC (nC l n)) else none else apC L L' l len o n (nC l n) else none else enC len o else enC len o:=by kernel_rfl
theorem xP6 {x:bil.Ca} (h:¬ 15 < x.cmd.lines.length):fewC x=x:=by
 obtain⟨a,b,c,d,e,f,g,ls,i,j⟩:=x
 unfold fewC
 simp only at h ⊢
 rw [List.take_of_length_le (by omega)]
theorem in15 {n:Nat} (h:15 < n):inI 15 (n+1)=true:=zA9 (by omega:15 < n+1)
theorem wH7 (L:Nat) (l:List bil.Ca):∀ (t:List bil.Ca) (n f:Nat) (o:List bil.Ca),l.drop n=t->n<=l.length->n<=50->51 - n<=f->o.length=n->lpFw L f l o.length o (.ofNat n)=some (.fl .call (o++fewL t (50 - n)))
 | t,n,0,o,_,_,h50,hf,_=>by omega
 | [],n,f+1,o,hd,hn,h50,hf,ho=>by
  rw [xI4,drop_nil hd hn,zB6 (Nat.le_refl _),cond_false]
  unfold enC fewL
  rw [zA6 rfl,List.take_nil]
  simp
 | x::t,n,f+1,o,hd,hn,h50,hf,ho=>by
  obtain⟨h1,h2,h3⟩:=zA5 (t:=.call) hd
  have h2:nC l n=x:=h2
  rw [xI4,zB4 h1,cond_true]
  by_cases h4:n < 50
  ·have ih:=fun y=>wH7 L l t (n+1) f (o++[y]) h3 (by omega) (by omega) (by omega) (by rw [List.length_append,ho];rfl)
   have e50:50 - n=(50 - (n+1))+1:=by omega
   have key:∀ y,apC L f l o.length o n y=some (.fl .call (o++[y]++fewL t (50 - (n+1)))):=fun y=>by
    unfold apC
    rw [zA6 rfl,cond_true,zA0 (by omega),cond_true,zA2 (by omega),ih]
   have hfl:fewL (x::t) (50 - n)=fewC x::fewL t (50 - (n+1)):=by
    rw [e50];rfl
   rw [zB9 (show Int.ofNat n < 50 by simp only [Int.ofNat_eq_natCast];omega),cond_true,zA9 h1,cond_true,h2,key,key,hfl]
   by_cases h15:15 < x.cmd.lines.length
   ·rw [zB9 (show (15:Int) < .ofNat x.cmd.lines.length by simp only [Int.ofNat_eq_natCast];omega),cond_true,in15 h15,cond_true,List.append_assoc];rfl
   ·rw [zB0 (show Int.ofNat x.cmd.lines.length<=15 by simp only [Int.ofNat_eq_natCast];omega),cond_false,xP6 h15,List.append_assoc];rfl
  ·have:n=50:=by omega
   subst this
   rw [zB0 (show (50:Int)<=Int.ofNat 50 by decide),cond_false]
   unfold enC fewL
   rw [zA6 rfl]
   simp
theorem uX4 (l:List bil.Ca):zB3 c86 60 s_few (.lst .call) [.fl .call l,i64 50] some=some (.fl .call (fewL l 50)):=by
 have e:∀ L,zB3 c86 L s_few (.lst .call) [.fl .call l,i64 50] some=qR6 L L l (.ofNat 0):=fun L=>by kernel_rfl
 rw [e]
 cases l with
 | nil=>rw [yS6];rfl
 | cons x t =>
  have h1:0 < (x::t).length:=by simp
  have hn:nC (x::t) 0=x:=rfl
  have ih:=fun y=>wH7 60 (x::t) t 1 59 [y] rfl (by simp) (by omega) (by omega) rfl
  have hfl:fewL (x::t) 50=fewC x::fewL t 49:=rfl
  have ih':∀ y:bil.Ca,lpFw 60 59 (x::t) 1 [y] (.ofNat 1)=some (.fl .call (y::fewL t 49)):=ih
  rw [yS6,zB4 h1,cond_true,zB9 (show Int.ofNat 0 < 50 by decide),cond_true,zA9 h1,cond_true,hn,zA2 (by omega),ih',ih',hfl]
  by_cases h15:15 < x.cmd.lines.length
  ·rw [zB9 (show (15:Int) < .ofNat x.cmd.lines.length by simp only [Int.ofNat_eq_natCast];omega),cond_true,in15 h15];rfl
  ·rw [zB0 (show Int.ofNat x.cmd.lines.length<=15 by simp only [Int.ofNat_eq_natCast];omega),cond_false,xP6 h15]
def qK2:List AV->Option (Bool × AV)
 | [.fl .call l,.int .i64 n]=>some (eqI n 50,.fl .call (fewL l 50))
 | _=>none
def c87:ClS:=addG 4 qK2 c86
theorem snd87:zA1 Tryz.prog c87:=zC2 snd86 mix qQ3 (.lst .call) qK2 fun xs r h=>by
 unfold qK2 at h
 split at h<;>first | (cases h;done) | skip
 obtain⟨hg,rfl⟩:=Prod.mk.inj (Option.some.inj h)
 rw [zC5,decide_eq_true_eq] at hg
 subst hg
 exact⟨rfl,_,uX4 _⟩
end
noncomputable section
def bsOf:AV->Option (List UInt8)
 | .nilsl=>some []
 | .fl .byte l=>some l
 | _=>none
def short (l:List UInt8):Bool:=Nat.blt l.length 100000000
theorem vD5 {ρ:Ren} {w:World} (hice:∀ b c,ρ.ice b=some c->∃ e fz,w.heap[b]?=some (.cells c e fz)) {x:AV} {l:List UInt8} {v:Value} (hx:bsOf x=some l) (h:VR ρ x v) (hl:l.length < 100000000):Rd8 w v l:=by
 unfold bsOf at hx
 split at hx<;>first | (cases hx;done) | skip
 ·cases hx
  cases h
  exact⟨rfl,Nat.zero_le _,none,0,rfl,.inl rfl⟩
 ·cases hx
  exact uS8 hice h (by unfold maxLen;omega)
def vX2:List AV->Option (Bool × List UInt8)
 | [x,.int .i64 n]=>match bsOf x with
  | some l=>some (gI n&&short l,l++numL n)
  | none=>none
 | _=>none
def wB8:List AV->Option (Bool × List UInt8)
 | [x,.str s]=>match bsOf x with
  | some l=>some (short l&&Nat.blt s.length 100000000,l++(numL s.length++s))
  | none=>none
 | _=>none
def wB9:List AV->Option (Bool × List UInt8)
 | [x,.bool f]=>match bsOf x with
  | some l=>some (short l,l++numL (bif f then 1 else 0))
  | none=>none
 | _=>none
def wrB (G:List AV->Option (Bool × List UInt8)) (xs:List AV):Option (Bool × AV):=match G xs with | some (g,l)=>some (g,.fl .byte l) | none=>none
def c91:ClS:=addG 77 (wrB vX2) c87
theorem snd91:zA1 Tryz.prog c91:=xD1 snd87 Tryz.func77 (by kernel_rfl) (by kernel_rfl) 5 vX2 fun xs l hG ρ w ys hice hv=>by
 unfold vX2 at hG
 split at hG<;>first | (cases hG;done) | skip
 split at hG<;>first | (cases hG;done) | skip
 rename_i x n _ l0 hx
 obtain⟨hg,rfl⟩:=Prod.mk.inj (Option.some.inj hG)
 simp only [Bool.and_eq_true] at hg
 obtain⟨v,u,rfl,h1,h2⟩:=zZ7 hv
 cases h2
 have hl:l0.length < 100000000:=blt_iff.1 hg.2
 obtain⟨n0,n1⟩:=gI_iff.1 hg.1
 exact xW0 v l0 n w (vD5 hice hx h1 hl) n0 n1 (by omega)
def c92:ClS:=addG 78 (wrB wB8) c91
theorem snd92:zA1 Tryz.prog c92:=xD1 snd91 Tryz.func78 (by kernel_rfl) (by kernel_rfl) 5 wB8 fun xs l hG ρ w ys hice hv=>by
 unfold wB8 at hG
 split at hG<;>first | (cases hG;done) | skip
 split at hG<;>first | (cases hG;done) | skip
 rename_i x s _ l0 hx
 obtain⟨hg,rfl⟩:=Prod.mk.inj (Option.some.inj hG)
 simp only [Bool.and_eq_true] at hg
 obtain⟨v,u,rfl,h1,h2⟩:=zZ7 hv
 cases h2
 have hl:l0.length < 100000000:=blt_iff.1 hg.1
 have hs:s.length < 100000000:=blt_iff.1 hg.2
 exact vZ1 v l0 ⟨s.toArray⟩ w (vD5 hice hx h1 hl) (by show l0.length+s.toArray.size<=_;rw [List.size_toArray];omega)
def c93:ClS:=addG 79 (wrB wB9) c92
theorem snd93:zA1 Tryz.prog c93:=xD1 snd92 Tryz.func79 (by kernel_rfl) (by kernel_rfl) 5 wB9 fun xs l hG ρ w ys hice hv=>by
 unfold wB9 at hG
 split at hG<;>first | (cases hG;done) | skip
 split at hG<;>first | (cases hG;done) | skip
 rename_i x f _ l0 hx
 obtain⟨hg,rfl⟩:=Prod.mk.inj (Option.some.inj hG)
 obtain⟨v,u,rfl,h1,h2⟩:=zZ7 hv
 cases h2
 have hl:l0.length < 100000000:=blt_iff.1 hg
 have:=uM0 v l0 f w (vD5 hice hx h1 hl) (by omega)
 cases f<;>exact this
def vN (bs:List UInt8) (p:Nat):Int:=(rNum bs ⟨p,0⟩).1
def aN (bs:List UInt8) (p:Nat):Nat:=(rNum bs ⟨p,0⟩).2.at_
def gN (bs:List UInt8) (p:Nat):Bool:=decide ((rNum bs ⟨p,0⟩).2.err=0)
def vT (bs:List UInt8) (p:Nat) (most:Int):List UInt8:=(yY2 bs ⟨p,0⟩ most).1
def aT (bs:List UInt8) (p:Nat) (most:Int):Nat:=(yY2 bs ⟨p,0⟩ most).2.at_
def gT (bs:List UInt8) (p:Nat) (most:Int):Bool:=decide ((yY2 bs ⟨p,0⟩ most).2.err=0)
def vC (bs:List UInt8) (p:Nat) (most:Int):Int:=(zX2 bs ⟨p,0⟩ most).1
def aC (bs:List UInt8) (p:Nat) (most:Int):Nat:=(zX2 bs ⟨p,0⟩ most).2.at_
def gC (bs:List UInt8) (p:Nat) (most:Int):Bool:=decide ((zX2 bs ⟨p,0⟩ most).2.err=0)
def vF (bs:List UInt8) (p:Nat):Bool:=(yY3 bs ⟨p,0⟩).1
def aF (bs:List UInt8) (p:Nat):Nat:=(yY3 bs ⟨p,0⟩).2.at_
def gF (bs:List UInt8) (p:Nat):Bool:=decide ((yY3 bs ⟨p,0⟩).2.err=0)
theorem uC0 {s:RS} {p:Nat} (h1:s.at_=p) (h2:s.err=0):s=⟨p,0⟩:=by cases s;simp_all
def qJ1 (ys:List AV) (bs:List UInt8) (p:Nat):Option (Bool × AV × Nat):=match ys with
 | []=>some (gN bs p,.int .i64 (vN bs p),aN bs p)
 | _=>none
def vV5 (ys:List AV) (bs:List UInt8) (p:Nat):Option (Bool × AV × Nat):=match ys with
 | [.int .i64 most]=>some (gT bs p most,.str (vT bs p most),aT bs p most)
 | _=>none
def wA2 (ys:List AV) (bs:List UInt8) (p:Nat):Option (Bool × AV × Nat):=match ys with
 | [.int .i64 most]=>some (gC bs p most,.int .i64 (vC bs p most),aC bs p most)
 | _=>none
def vV7 (ys:List AV) (bs:List UInt8) (p:Nat):Option (Bool × AV × Nat):=match ys with
 | []=>some (gF bs p,.bool (vF bs p),aF bs p)
 | _=>none
def qJ2 (ys:List AV) (_bs:List UInt8) (p:Nat):Option (Bool × AV × Nat):=match ys with
 | []=>some (true,.int .i64 (.ofNat 0),p)
 | _=>none
def qJ3 (ys:List AV) (bs:List UInt8) (p:Nat):Option (Bool × AV × Nat):=match ys with
 | []=>some (Nat.ble bs.length p,.int .i64 (.ofNat 0),p)
 | _=>none
def c94:ClS:=xZ6 27 qJ1 c93
theorem snd94:zA1 Tryz.prog c94:=yW4 snd93 Tryz.func27 (by kernel_rfl) (by kernel_rfl) qJ1 fun ys bs p r p' hS ρ w vs b o a cap hr hv=>by
 unfold qJ1 at hS
 split at hS<;>first | (cases hS;done) | skip
 simp only [Option.some.injEq,Prod.mk.injEq] at hS
 obtain⟨hg,rfl,rfl⟩:=hS
 have he:(rNum bs ⟨p,0⟩).2.err=0:=of_decide_eq_true hg
 rw [hv.nil_inv]
 refine (yX8 b o a cap bs ⟨p,0⟩ w hr).mono fun x w' ⟨h1,h2,h3⟩=>⟨_,h1,.int _ _,?_,h3⟩
 rw [uC0 rfl he] at h2
 exact h2
def c95:ClS:=xZ6 64 vV5 c94
theorem snd95:zA1 Tryz.prog c95:=yW4 snd94 Tryz.func64 (by kernel_rfl) (by kernel_rfl) vV5 fun ys bs p r p' hS ρ w vs b o a cap hr hv=>by
 unfold vV5 at hS
 split at hS<;>first | (cases hS;done) | skip
 rename_i most
 simp only [Option.some.injEq,Prod.mk.injEq] at hS
 obtain⟨hg,rfl,rfl⟩:=hS
 have he:(yY2 bs ⟨p,0⟩ most).2.err=0:=of_decide_eq_true hg
 obtain⟨u,rfl,hu⟩:=zT6 hv
 cases hu
 refine (vC7 b o a cap bs ⟨p,0⟩ most w hr).mono fun x w' ⟨h1,h2,h3⟩=>⟨_,h1,.str _,?_,h3⟩
 rw [uC0 rfl he] at h2
 exact h2
def c96:ClS:=xZ6 62 wA2 c95
theorem snd96:zA1 Tryz.prog c96:=yW4 snd95 Tryz.func62 (by kernel_rfl) (by kernel_rfl) wA2 fun ys bs p r p' hS ρ w vs b o a cap hr hv=>by
 unfold wA2 at hS
 split at hS<;>first | (cases hS;done) | skip
 rename_i most
 simp only [Option.some.injEq,Prod.mk.injEq] at hS
 obtain⟨hg,rfl,rfl⟩:=hS
 have he:(zX2 bs ⟨p,0⟩ most).2.err=0:=of_decide_eq_true hg
 obtain⟨u,rfl,hu⟩:=zT6 hv
 cases hu
 refine (wO7 b o a cap bs ⟨p,0⟩ most w hr).mono fun x w' ⟨h1,h2,h3⟩=>⟨_,h1,.int _ _,?_,h3⟩
 rw [uC0 rfl he] at h2
 exact h2
def c97:ClS:=xZ6 66 vV7 c96
theorem snd97:zA1 Tryz.prog c97:=yW4 snd96 Tryz.func66 (by kernel_rfl) (by kernel_rfl) vV7 fun ys bs p r p' hS ρ w vs b o a cap hr hv=>by
 unfold vV7 at hS
 split at hS<;>first | (cases hS;done) | skip
 simp only [Option.some.injEq,Prod.mk.injEq] at hS
 obtain⟨hg,rfl,rfl⟩:=hS
 have he:(yY3 bs ⟨p,0⟩).2.err=0:=of_decide_eq_true hg
 rw [hv.nil_inv]
 refine (vD1 b o a cap bs ⟨p,0⟩ w hr).mono fun x w' ⟨h1,h2,h3⟩=>⟨_,h1,.bool _,?_,h3⟩
 rw [uC0 rfl he] at h2
 exact h2
def c98:ClS:=xZ6 63 qJ2 c97
theorem snd98:zA1 Tryz.prog c98:=yW4 snd97 Tryz.func63 (by kernel_rfl) (by kernel_rfl) qJ2 fun ys bs p r p' hS ρ w vs b o a cap hr hv=>by
 unfold qJ2 at hS
 split at hS<;>first | (cases hS;done) | skip
 simp only [Option.some.injEq,Prod.mk.injEq] at hS
 obtain⟨_,rfl,rfl⟩:=hS
 rw [hv.nil_inv]
 exact (uC1 b o a cap bs ⟨p,0⟩ w hr).mono fun x w' ⟨h1,h2⟩=>⟨_,h1,.int _ _,h2 ▸ hr,h2 ▸ KeepP.refl _ _⟩
def c99:ClS:=xZ6 28 qJ3 c98
theorem snd99:zA1 Tryz.prog c99:=yW4 snd98 Tryz.func28 (by kernel_rfl) (by kernel_rfl) qJ3 fun ys bs p r p' hS ρ w vs b o a cap hr hv=>by
 unfold qJ3 at hS
 split at hS<;>first | (cases hS;done) | skip
 simp only [Option.some.injEq,Prod.mk.injEq] at hS
 obtain⟨hg,rfl,rfl⟩:=hS
 have hle:bs.length<=p:=Nat.le_of_ble_eq_true hg
 have he:rEnd bs ⟨p,0⟩=⟨p,0⟩:=by unfold rEnd;rw [if_neg (fun h=>by have:=h.2;simp only at this;omega)]
 rw [hv.nil_inv]
 refine (uC4 b o a cap bs ⟨p,0⟩ w hr).mono fun x w' ⟨h1,h2,h3⟩=>⟨_,h1,?_,?_,h3⟩
 ·rw [he];exact .int _ _
 ·rw [he] at h2;exact h2
end
set_option maxHeartbeats 4000000
set_option maxRecDepth 100000
def d_wnums:SOf Tryz.prog 30 [([0,6,7,8],2)] []:=⟨_,by conv=>lhs;reduce⟩
def s_wnums:FnS:=d_wnums.1
def l1_wnums:List Path:=[q0,q6,q7,q8]
def b1_wnums:SC:=(⟨_,by conv=>lhs;reduce⟩:VOf (s_wnums.lp 0)).1
theorem uD5:zB2 Tryz.prog 30 s_wnums:=zA8 d_wnums.2
def d_wtext:SOf Tryz.prog 31 [] []:=⟨_,by conv=>lhs;reduce⟩
def vA5:FnS:=d_wtext.1
theorem uD4:zB2 Tryz.prog 31 vA5:=zA8 d_wtext.2
def d_wday:SOf Tryz.prog 32 [] []:=⟨_,by conv=>lhs;reduce⟩
def uQ8:FnS:=d_wday.1
theorem uZ3:zB2 Tryz.prog 32 uQ8:=zA8 d_wday.2
def d_wflag:SOf Tryz.prog 33 [] []:=⟨_,by conv=>lhs;reduce⟩
def vA6:FnS:=d_wflag.1
theorem uD7:zB2 Tryz.prog 33 vA6:=zA8 d_wflag.2
def d_wposted:SOf Tryz.prog 34 [([0,32,33,34],1)] []:=⟨_,by conv=>lhs;reduce⟩
def s_wposted:FnS:=d_wposted.1
def wS1:List Path:=[q0,q32,q33,q34]
def wV5:SC:=(⟨_,by conv=>lhs;reduce⟩:VOf (s_wposted.lp 0)).1
def wT1 {β:Type} (_cl:ClS) (_L:Nat) (K:AV->Mem->Option β):Ex->T AV->Mem->Option β:=kBlk 0 (endS s_wposted.res K)
theorem wP6:zB2 Tryz.prog 34 s_wposted:=zA8 d_wposted.2
def d_iput:SOf Tryz.prog 8 [([1,3,24,25,26],0),([1,3,51,52,53],0),([1,3,78,79,80],0),([1,3,95,96,97],0)] []:=⟨_,by conv=>lhs;reduce⟩
def s_iput:FnS:=d_iput.1
def qC9:List Path:=[q1,q3,q24,q25,q26]
def qC7:List Path:=[q1,q3,q51,q52,q53]
def qC6:List Path:=[q1,q3,q78,q79,q80]
def qC5:List Path:=[q1,q3,q95,q96,q97]
def qH1:SC:=(⟨_,by conv=>lhs;reduce⟩:VOf (s_iput.lp 0)).1
def qG9:SC:=(⟨_,by conv=>lhs;reduce⟩:VOf (s_iput.lp 1)).1
def qG8:SC:=(⟨_,by conv=>lhs;reduce⟩:VOf (s_iput.lp 2)).1
def qG7:SC:=(⟨_,by conv=>lhs;reduce⟩:VOf (s_iput.lp 3)).1
def qH7:SC:=(⟨_,by conv=>lhs;reduce⟩:VOf (s_iput.af 3)).1
def qH8:SC:=(⟨_,by conv=>lhs;reduce⟩:VOf (s_iput.af 2)).1
def qH9:SC:=(⟨_,by conv=>lhs;reduce⟩:VOf (s_iput.af 1)).1
def qI5:SC:=(⟨_,by conv=>lhs;reduce⟩:VOf (s_iput.af 0)).1
def qD7 {β:Type} (cl:ClS) (L:Nat) (K:AV->Mem->Option β):Ex->T AV->Mem->Option β:=kBlk 0 (kSeq (evS cl L qI5) (endS s_iput.res K))
def qD4 {β:Type} (cl:ClS) (L:Nat) (K:AV->Mem->Option β):Ex->T AV->Mem->Option β:=kBlk 2 (kSeq (evS cl L qH9) (endS s_iput.res K))
def qD3 {β:Type} (cl:ClS) (L:Nat) (K:AV->Mem->Option β):Ex->T AV->Mem->Option β:=kBlk 4 (kSeq (evS cl L qH8) (endS s_iput.res K))
def qD2 {β:Type} (cl:ClS) (L:Nat) (K:AV->Mem->Option β):Ex->T AV->Mem->Option β:=kBlk 6 (kSeq (evS cl L qH7) (endS s_iput.res K))
theorem qA1:zB2 Tryz.prog 8 s_iput:=zA8 d_iput.2
end Go.Proofs.YtpccdcnjkknmkaaGreatDoor.Ev
namespace Go.Proofs.YtpccdcnjkknmkaaGreatDoor.bil
def barePt (p:Pt):Pt:=⟨p.cat,p.bp,p.net,0⟩
def barePst (p:Pst):Pst:=⟨⟨p.ref.ser,0⟩,p.day,⟨0,0,0,p.tot.parts.map barePt⟩,p.of_,false⟩
def bareSr (x:Sr):Sr:=⟨x.name,1,x.limit,x.shut⟩
section
variable (E:Env)
def gone (l:List Pst) (n i:Nat):Bool:=(List.range n).any fun j=>decide (backsTo l j=some i)
theorem gone_iff {l:List Pst} {n i:Nat}:gone l n i=true↔∃ j,j < n/\backsTo l j=some i:=by
 unfold gone
 rw [List.any_eq_true]
 constructor
 ·rintro ⟨j,hj,h⟩
  exact⟨j,List.mem_range.1 hj,by simpa using h⟩
 ·rintro ⟨j,hj,h⟩
  exact⟨j,List.mem_range.2 hj,by simpa using h⟩
def fillP (l:List Pst) (n:Nat):List Pst:=l.mapIdx fun j p=>if j < n then { p with back:=gone l n j } else barePst p
def fillS (ss:List Sr) (l:List Pst) (n:Nat):List Sr:=ss.map fun x=>{ x with next:=(cntS (l.take n) x.name:Int)+1 }
theorem fillP_len (l:List Pst) (n:Nat):(fillP l n).length=l.length:=by unfold fillP;rw [List.length_mapIdx]
theorem fillS_len (ss:List Sr) (l:List Pst) (n:Nat):(fillS ss l n).length=ss.length:=by unfold fillS;rw [List.length_map]
theorem fillP_zero (l:List Pst):fillP l 0=l.map barePst:=by
 unfold fillP
 apply List.ext_getElem?
 intro i
 rw [List.getElem?_mapIdx,List.getElem?_map]
 cases l[i]?<;>rfl
theorem fillS_zero (ss:List Sr) (l:List Pst):fillS ss l 0=ss.map bareSr:=by
 unfold fillS
 apply List.map_congr_left
 intro x _
 rfl
theorem fillP_get (l:List Pst) (n i:Nat):(fillP l n)[i]?=l[i]?.map fun p=>if i < n then { p with back:=gone l n i } else barePst p:=by
 unfold fillP
 rw [List.getElem?_mapIdx]
theorem cnt_gone {l:List Pst} {i:Nat}:cntB l i=0↔gone l l.length i=false:=by
 unfold cntB
 rw [List.length_eq_zero_iff,List.filter_eq_nil_iff]
 constructor
 ·intro h
  cases hg:gone l l.length i with
  | false=>rfl
  | true =>
   obtain⟨j,hj,hb⟩:=gone_iff.1 hg
   exact absurd (decide_eq_true hb) (h j (List.mem_range.2 hj))
 ·intro h j hj he
  have:gone l l.length i=true:=gone_iff.2 ⟨j,List.mem_range.1 hj,by simpa using he⟩
  rw [h] at this
  cases this
theorem fillP_all {l:List Pst} (h:PostedOk E l):fillP l l.length=l:=by
 apply List.ext_getElem?
 intro i
 rw [fillP_get]
 cases hi:l[i]? with
 | none=>rfl
 | some p =>
  have hlt:i < l.length:=(List.getElem?_eq_some_iff.1 hi).1
  obtain⟨h1,h2⟩:=h.back i p hi
  have hb:gone l l.length i=p.back:=by
   cases hp:p.back with
   | true =>
    have:=h2.1 hp
    cases hg:gone l l.length i with
    | true=>rfl
    | false=>rw [cnt_gone.2 hg] at this;cases this
   | false =>
    cases hg:gone l l.length i with
    | false=>rfl
    | true =>
     have h0:cntB l i≠0:=fun h0=>by rw [cnt_gone.1 h0] at hg;cases hg
     have:=h2.2 (by omega)
     rw [hp] at this
     cases this
  simp only [Option.map_some]
  rw [if_pos hlt,hb]
theorem fillS_all {ss:List Sr} {l:List Pst} (h:NumbersOk ss l):fillS ss l l.length=ss:=by
 unfold fillS
 rw [List.take_length]
 conv=>rhs;rw [<- List.map_id ss]
 apply List.map_congr_left
 intro x hx
 rw [id,<- h.next x hx]
theorem yN0 {l:List Pst} {n i:Nat}:gone l (n+1) i=(gone l n i || decide (backsTo l n=some i)):=by
 unfold gone
 rw [List.range_succ,List.any_append]
 simp
theorem xP1 {l:List Pst} {n i:Nat} (h:n<=i+1):gone l n i=false:=by
 cases hg:gone l n i with
 | false=>rfl
 | true =>
  obtain⟨j,hj,hb⟩:=gone_iff.1 hg
  have:=(backs_lt hb).1
  omega
theorem fillP_find {l:List Pst} {n:Nat} (r:Ref):findP ((fillP l n).take n) r=findP (l.take n) r:=by
 have e:∀ (a b:List Pst),a.map (·.ref)=b.map (·.ref)->findP a r=findP b r:=fun a b h=>by
  have f:∀ x:List Pst,findP x r=(x.map (·.ref)).findIdx? fun q=>decide (q=r):=fun x=>by
   unfold findP
   rw [List.findIdx?_map]
   rfl
  rw [f,f,h]
 refine e _ _ ?_
 apply List.ext_getElem?
 intro i
 rw [List.getElem?_map,List.getElem?_map,List.getElem?_take,List.getElem?_take]
 split
 ·rename_i h
  rw [fillP_get]
  cases l[i]? with
  | none=>rfl
  | some p=>simp [h]
 ·rfl
theorem fillP_bill {l:List Pst} {n:Nat} {p:Pst} (hp:l[n]?=some p) (ho:p.of_=Ref.z):fillP l (n+1)=(fillP l n).set n { p with back:=false }:=by
 have hn:n < l.length:=(List.getElem?_eq_some_iff.1 hp).1
 have hb:backsTo l n=none:=by unfold backsTo;rw [hp];simp only;rw [if_pos ho]
 apply List.ext_getElem?
 intro i
 rw [fillP_get]
 by_cases hi:n=i
 ·subst hi
  rw [List.getElem?_set_self (by rw [fillP_len];exact hn),hp,Option.map_some,if_pos (Nat.lt_succ_self _),xP1 (Nat.le_refl _)]
 ·rw [List.getElem?_set_ne hi,fillP_get,yN0,hb]
  simp only [reduceCtorEq,decide_false,Bool.or_false]
  congr 1
  funext q
  by_cases h1:i < n
  ·rw [if_pos (Nat.lt_succ_of_lt h1),if_pos h1]
  ·rw [if_neg (by omega),if_neg h1]
theorem fillP_credit {l:List Pst} {n k:Nat} {p:Pst} (hp:l[n]?=some p) (ho:p.of_≠Ref.z) (hk:findP (l.take n) p.of_=some k) :
  ∃ q,((fillP l n).set n { p with back:=false })[k]?=some q/\k < n/\fillP l (n+1)=((fillP l n).set n { p with back:=false }).set k { q with back:=true }:=by
 have hn:n < l.length:=(List.getElem?_eq_some_iff.1 hp).1
 have hb:backsTo l n=some k:=by unfold backsTo;rw [hp];simp only;rw [if_neg ho];exact hk
 have hkn:k < n:=(backs_lt hb).1
 have hkl:k < l.length:=by omega
 obtain⟨x,hx⟩:∃ x,l[k]?=some x:=⟨_,List.getElem?_eq_getElem hkl⟩
 have hq:((fillP l n).set n { p with back:=false })[k]?=some { x with back:=gone l n k }:=by
  rw [List.getElem?_set_ne (by omega),fillP_get,hx,Option.map_some,if_pos hkn]
 refine⟨_,hq,hkn,?_⟩
 apply List.ext_getElem?
 intro i
 rw [fillP_get]
 by_cases hik:k=i
 ·subst hik
  rw [List.getElem?_set_self (by rw [List.length_set,fillP_len];exact hkl),hx,Option.map_some,if_pos (by omega),yN0,hb]
  simp
 ·rw [List.getElem?_set_ne hik]
  by_cases hi:n=i
  ·subst hi
   rw [List.getElem?_set_self (by rw [fillP_len];exact hn),hp,Option.map_some,if_pos (Nat.lt_succ_self _),xP1 (Nat.le_refl _)]
  ·rw [List.getElem?_set_ne hi,fillP_get,yN0,hb]
   have hne:¬ (some k=some i):=fun h=>hik (Option.some.inj h)
   simp only [hne,decide_false,Bool.or_false]
   congr 1
   funext q
   by_cases h1:i < n
   ·rw [if_pos (Nat.lt_succ_of_lt h1),if_pos h1]
   ·rw [if_neg (by omega),if_neg h1]
theorem fillS_succ {ss:List Sr} {l:List Pst} {n k:Nat} {p:Pst} {x:Sr} (hs:srRight E ss=true) (hp:l[n]?=some p) (hk:srAt ss p.ref.ser=some k) (hx:ss[k]?=some x) :
  (fillS ss l n)[k]?=some { x with next:=(cntS (l.take n) p.ref.ser:Int)+1 }/\fillS ss l (n+1)=(fillS ss l n).set k { x with next:=(cntS (l.take n) p.ref.ser:Int)+1+1 }:=by
 have hn:n < l.length:=(List.getElem?_eq_some_iff.1 hp).1
 have hkl:k < ss.length:=(findIdx_lt hk).1
 obtain⟨x',hx',he⟩:=(findIdx_lt hk).2
 rw [hx] at hx'
 cases hx'
 have he:x.name=p.ref.ser:=by simpa using he
 have hpw:ss.Pairwise (fun a b=>srLt a b=true):=by
  unfold srRight at hs
  simp only [Bool.and_eq_true] at hs
  exact (chain_pw srLt_trans).1 hs.2.2
 have hg:∀ (m i:Nat),(fillS ss l m)[i]?=ss[i]?.map fun (x:Sr)=>{ x with next:=(cntS (l.take m) x.name:Int)+1 }:=fun m i=>by unfold fillS;rw [List.getElem?_map]
 have hc:∀ s,cntS (l.take (n+1)) s=cntS (l.take n) s+if p.ref.ser=s then 1 else 0:=fun s=>by
  have:l.take (n+1)=l.take n++[p]:=by
   rw [List.take_add_one,hp];rfl
  rw [this,cntS_app]
 refine⟨by rw [hg,hx,Option.map_some,he],?_⟩
 apply List.ext_getElem?
 intro i
 rw [hg]
 by_cases hi:k=i
 ·subst hi
  rw [List.getElem?_set_self (by rw [fillS_len];exact hkl),hx,Option.map_some,hc,he,if_pos rfl]
  simp
 ·rw [List.getElem?_set_ne hi,hg]
  cases hy:ss[i]? with
  | none=>rfl
  | some y =>
   rw [Option.map_some,Option.map_some,hc,if_neg (fun h=>hi (pw_names hpw hx hy (he.trans h))),Nat.add_zero]
end
end Go.Proofs.YtpccdcnjkknmkaaGreatDoor.bil
namespace Go.Proofs.YtpccdcnjkknmkaaGreatDoor.Ev
open Go
noncomputable section
abbrev wT (x:AV):T Blk:=.node .nil (some ⟨.raw [x],1,false⟩) .nil
abbrev wT2 (x:AV) (ks:List AV):T Blk:=.node (.node .nil (some ⟨.raw ks,1,false⟩) .nil) (some ⟨.raw [x],1,false⟩) .nil
def mid (l:List UInt8):Bool:=Nat.blt l.length 90000000
theorem zO1 {l:List UInt8} (h:mid l=true):short l=true:=zA0 (by have:l.length < 90000000:=blt_iff.1 h;omega)
theorem zU3 {l:List UInt8} {k:Nat} (h:l.length < 90000000+k) (n:Int):(l++numL n).length < 90000000+(k+10):=by
 have:=zC3 n
 rw [List.length_append];omega
theorem zO5 {l:List UInt8} {k:Nat} (h:l.length < 90000000+k) (hk:k<=10000000):short l=true:=zA0 (by omega)
def wA4:List AV->Mem->Option (Bool × AV × T Blk × Nat)
 | [.ptr 0 0,.sl 1 0 1 1],⟨.node (.node .nil (some ⟨.raw [.int .i64 a],1,false⟩) .nil) (some ⟨.raw [.nilsl],1,false⟩) .nil,2,0,0⟩ =>
  some (gI a,.tup [],wT2 (.fl .byte ([]++numL a)) [.int .i64 a],2)
 | [.ptr 0 0,.sl 1 0 1 1],⟨.node (.node .nil (some ⟨.raw [.int .i64 a],1,false⟩) .nil) (some ⟨.raw [.fl .byte l],1,false⟩) .nil,2,0,0⟩ =>
  some (mid l&&gI a,.tup [],wT2 (.fl .byte (l++numL a)) [.int .i64 a],2)
 | [.ptr 0 0,.sl 1 0 2 2],⟨.node (.node .nil (some ⟨.raw [.int .i64 a,.int .i64 b],1,false⟩) .nil) (some ⟨.raw [.fl .byte l],1,false⟩) .nil,2,0,0⟩ =>
  some (mid l&&(gI a&&gI b),.tup [],wT2 (.fl .byte (l++numL a++numL b)) [.int .i64 a,.int .i64 b],2)
 | [.ptr 0 0,.sl 1 0 3 3],⟨.node (.node .nil (some ⟨.raw [.int .i64 a,.int .i64 b,.int .i64 c],1,false⟩) .nil) (some ⟨.raw [.fl .byte l],1,false⟩) .nil,2,0,0⟩ =>
  some (mid l&&(gI a&&(gI b&&gI c)),.tup [],wT2 (.fl .byte (l++numL a++numL b++numL c)) [.int .i64 a,.int .i64 b,.int .i64 c],2)
 | [.ptr 0 0,.sl 1 0 5 5],⟨.node (.node .nil (some ⟨.raw [.int .i64 a,.int .i64 b,.int .i64 c,.int .i64 d,.int .i64 e],1,false⟩) .nil) (some ⟨.raw [.fl .byte l],1,false⟩) .nil,2,0,0⟩ =>
  some (mid l&&(gI a&&(gI b&&(gI c&&(gI d&&gI e)))),.tup [],wT2 (.fl .byte (l++numL a++numL b++numL c++numL d++numL e)) [.int .i64 a,.int .i64 b,.int .i64 c,.int .i64 d,.int .i64 e],2)
 | _,_=>none
def c101:ClS:=addN 30 wA4 c99
theorem qN7:zA1 Tryz.prog c101:=zE5 snd99 mix uD5 wA4 fun xs m r h1 n1 h=>by
 unfold wA4 at h
 split at h<;>first | (cases h;done) | skip
 ·rename_i a
  simp only [Option.some.injEq,Prod.mk.injEq] at h
  obtain⟨hg,rfl,rfl,rfl⟩:=h
  refine⟨rfl,3,?_⟩
  have e:zC4 c99 3 s_wnums [.ptr 0 0,.sl 1 0 1 1] ⟨wT2 .nilsl [.int .i64 a],2,0,0⟩ (fun r m=>zD1 2 r m fun r m=>some (r,m.h,m.nx)) =
   bif gI a&&short [] then some (.tup [],wT2 (.fl .byte ([]++numL a)) [.int .i64 a],2) else none:=by kernel_rfl
  refine e.trans ?_
  rw [hg];rfl
 ·rename_i a l
  simp only [Option.some.injEq,Prod.mk.injEq,Bool.and_eq_true] at h
  obtain⟨⟨hl,ga⟩,rfl,rfl,rfl⟩:=h
  refine⟨rfl,3,?_⟩
  have e:zC4 c99 3 s_wnums [.ptr 0 0,.sl 1 0 1 1] ⟨wT2 (.fl .byte l) [.int .i64 a],2,0,0⟩ (fun r m=>zD1 2 r m fun r m=>some (r,m.h,m.nx)) =
   bif gI a&&short l then some (.tup [],wT2 (.fl .byte (l++numL a)) [.int .i64 a],2) else none:=by kernel_rfl
  refine e.trans ?_
  rw [ga,zO1 hl];rfl
 ·rename_i a b l
  simp only [Option.some.injEq,Prod.mk.injEq,Bool.and_eq_true] at h
  obtain⟨⟨hl,ga,gb⟩,rfl,rfl,rfl⟩:=h
  refine⟨rfl,4,?_⟩
  have e:zC4 c99 4 s_wnums [.ptr 0 0,.sl 1 0 2 2] ⟨wT2 (.fl .byte l) [.int .i64 a,.int .i64 b],2,0,0⟩ (fun r m=>zD1 2 r m fun r m=>some (r,m.h,m.nx)) =
   bif gI a&&short l then bif gI b&&short (l++numL a) then some (.tup [],wT2 (.fl .byte (l++numL a++numL b)) [.int .i64 a,.int .i64 b],2) else none else none:=by kernel_rfl
  refine e.trans ?_
  have l0:l.length < 90000000+0:=blt_iff.1 hl
  rw [ga,gb,zO1 hl,zO5 (zU3 l0 a) (by omega)];rfl
 ·rename_i a b c l
  simp only [Option.some.injEq,Prod.mk.injEq,Bool.and_eq_true] at h
  obtain⟨⟨hl,ga,gb,gc⟩,rfl,rfl,rfl⟩:=h
  refine⟨rfl,5,?_⟩
  have e:zC4 c99 5 s_wnums [.ptr 0 0,.sl 1 0 3 3] ⟨wT2 (.fl .byte l) [.int .i64 a,.int .i64 b,.int .i64 c],2,0,0⟩ (fun r m=>zD1 2 r m fun r m=>some (r,m.h,m.nx)) =
   bif gI a&&short l then bif gI b&&short (l++numL a) then bif gI c&&short (l++numL a++numL b) then some (.tup [],wT2 (.fl .byte (l++numL a++numL b++numL c)) [.int .i64 a,.int .i64 b,.int .i64 c],2) else none else none else none:=by kernel_rfl
  refine e.trans ?_
  have l0:l.length < 90000000+0:=blt_iff.1 hl
  have l1:=zU3 l0 a
  rw [ga,gb,gc,zO1 hl,zO5 l1 (by omega),zO5 (zU3 l1 b) (by omega)];rfl
 ·rename_i a b c d e l
  simp only [Option.some.injEq,Prod.mk.injEq,Bool.and_eq_true] at h
  obtain⟨⟨hl,ga,gb,gc,gd,ge⟩,rfl,rfl,rfl⟩:=h
  refine⟨rfl,7,?_⟩
  have e':zC4 c99 7 s_wnums [.ptr 0 0,.sl 1 0 5 5] ⟨wT2 (.fl .byte l) [.int .i64 a,.int .i64 b,.int .i64 c,.int .i64 d,.int .i64 e],2,0,0⟩ (fun r m=>zD1 2 r m fun r m=>some (r,m.h,m.nx)) =
   bif gI a&&short l then bif gI b&&short (l++numL a) then bif gI c&&short (l++numL a++numL b) then bif gI d&&short (l++numL a++numL b++numL c) then bif gI e&&short (l++numL a++numL b++numL c++numL d) then
    some (.tup [],wT2 (.fl .byte (l++numL a++numL b++numL c++numL d++numL e)) [.int .i64 a,.int .i64 b,.int .i64 c,.int .i64 d,.int .i64 e],2) else none else none else none else none else none:=by kernel_rfl
  refine e'.trans ?_
  have l0:l.length < 90000000+0:=blt_iff.1 hl
  have l1:=zU3 l0 a
  have l2:=zU3 l1 b
  have l3:=zU3 l2 c
  rw [ga,gb,gc,gd,ge,zO1 hl,zO5 l1 (by omega),zO5 l2 (by omega),zO5 l3 (by omega),zO5 (zU3 l3 d) (by omega)];rfl
def wA3:List AV->Mem->Option (Bool × AV × T Blk × Nat)
 | [.ptr 0 0,.str s],⟨.node .nil (some ⟨.raw [.fl .byte l],1,false⟩) .nil,1,0,0⟩=>some (mid l&&Nat.blt s.length 1000,.tup [],wT (.fl .byte (l++(numL s.length++s))),1)
 | _,_=>none
def c102:ClS:=addN 31 wA3 c101
theorem qN6:zA1 Tryz.prog c102:=zE5 qN7 mix uD4 wA3 fun xs m r h1 n1 h=>by
 unfold wA3 at h
 split at h<;>first | (cases h;done) | skip
 rename_i s l
 simp only [Option.some.injEq,Prod.mk.injEq,Bool.and_eq_true] at h
 obtain⟨⟨hl,hs⟩,rfl,rfl,rfl⟩:=h
 refine⟨rfl,0,?_⟩
 have e:zC4 c101 0 vA5 [.ptr 0 0,.str s] ⟨wT (.fl .byte l),1,0,0⟩ (fun r m=>zD1 1 r m fun r m=>some (r,m.h,m.nx)) =
  bif short l&&Nat.blt s.length 100000000 then some (.tup [],wT (.fl .byte (l++(numL s.length++s))),1) else none:=by kernel_rfl
 refine e.trans ?_
 have hs':s.length < 1000:=blt_iff.1 hs
 rw [zO1 hl,zA0 (show s.length < 100000000 by omega)];rfl
def vV8:List AV->Mem->Option (Bool × AV × T Blk × Nat)
 | [.ptr 0 0,.agg [.int .i64 a,.int .i64 b,.int .i64 c]],⟨.node .nil (some ⟨.raw [.fl .byte l],1,false⟩) .nil,1,0,0⟩=>some (mid l&&(gI a&&(gI b&&gI c)),.tup [],wT (.fl .byte (l++numL a++numL b++numL c)),1)
 | _,_=>none
def c103:ClS:=addN 32 vV8 c102
theorem qN5:zA1 Tryz.prog c103:=zE5 qN6 mix uZ3 vV8 fun xs m r h1 n1 h=>by
 unfold vV8 at h
 split at h<;>first | (cases h;done) | skip
 rename_i a b c l
 simp only [Option.some.injEq,Prod.mk.injEq] at h
 obtain⟨hg,rfl,rfl,rfl⟩:=h
 refine⟨rfl,0,?_⟩
 have e:zC4 c102 0 uQ8 [.ptr 0 0,.agg [.int .i64 a,.int .i64 b,.int .i64 c]] ⟨wT (.fl .byte l),1,0,0⟩ (fun r m=>zD1 1 r m fun r m=>some (r,m.h,m.nx)) =
  bif mid l&&(gI a&&(gI b&&gI c)) then some (.tup [],wT (.fl .byte (l++numL a++numL b++numL c)),1) else none:=by kernel_rfl
 refine e.trans ?_
 rw [hg];rfl
def wA6:List AV->Mem->Option (Bool × AV × T Blk × Nat)
 | [.ptr 0 0,.bool f],⟨.node .nil (some ⟨.raw [.fl .byte l],1,false⟩) .nil,1,0,0⟩=>some (mid l,.tup [],wT (.fl .byte (l++numL (bif f then 1 else 0))),1)
 | _,_=>none
def c104:ClS:=addN 33 wA6 c103
theorem qN4:zA1 Tryz.prog c104:=zE5 qN5 mix uD7 wA6 fun xs m r h1 n1 h=>by
 unfold wA6 at h
 split at h<;>first | (cases h;done) | skip
 rename_i f l
 simp only [Option.some.injEq,Prod.mk.injEq] at h
 obtain⟨hg,rfl,rfl,rfl⟩:=h
 refine⟨rfl,0,?_⟩
 have e:zC4 c103 0 vA6 [.ptr 0 0,.bool f] ⟨wT (.fl .byte l),1,0,0⟩ (fun r m=>zD1 1 r m fun r m=>some (r,m.h,m.nx)) =
  bif f then bif short l then some (.tup [],wT (.fl .byte (l++numL (bif true then 1 else 0))),1) else none else bif short l then some (.tup [],wT (.fl .byte (l++numL (bif false then 1 else 0))),1) else none:=by kernel_rfl
 refine e.trans ?_
 rw [zO1 hg];cases f<;>rfl
end
noncomputable section
abbrev txB (s:ByteArray):List UInt8:=numL (s.data.toList.length:Int)++s.data.toList
def gTx (s:ByteArray):Bool:=Nat.blt s.data.toList.length 1000
theorem yI3 {s:ByteArray} (h:gTx s=true):(txB s).length < 1010:=by
 have h1:s.data.toList.length < 1000:=blt_iff.1 h
 have h2:=zC3 (s.data.toList.length:Int)
 show (numL _++_).length < _
 rw [List.length_append];omega
def wPt (l:List UInt8) (x:bil.Pt):List UInt8:=l++txB x.cat++numL x.bp++numL x.net
def gWp (x:bil.Pt):Bool:=gTx x.cat&&(gI x.bp&&gI x.net)
theorem wX7 {l:List UInt8} {x:bil.Pt} (h:gWp x=true):(wPt l x).length < l.length+1030/\(l++txB x.cat).length < l.length+1010:=by
 unfold gWp at h
 simp only [Bool.and_eq_true] at h
 have h1:=yI3 h.1
 have h2:=zC3 x.bp
 have h3:=zC3 x.net
 unfold wPt
 simp only [List.length_append] at h1 ⊢
 omega
theorem zJ7 {l:List UInt8} (h:l.length < 90000000):mid l=true:=zA0 h
def lpWp (L L':Nat) (ps:List bil.Pt) (l:List UInt8) (n:Int):Option (AV × T Blk × Nat):=zC7 (evS c104 L wV5) wS1 1 L' (stL [(q0,.ptr 0 0),(q32,.fl .part ps),(q33,i64 (.ofNat ps.length)),(q34,i64 n)]) ⟨wT (.fl .byte l),1,1,1⟩ (wT1 c104 L fun r m=>zD1 1 r m fun r m=>some (r,m.h,m.nx))
theorem wE3 (L L' n:Nat) (ps:List bil.Pt) (l:List UInt8):lpWp L (Nat.succ L') ps l (.ofNat n) =
 bif ltI (.ofNat n) (.ofNat ps.length) then bif inI (.ofNat n) ps.length then bif mid l&&Nat.blt (nth (t:=.part) ps n).cat.data.toList.length 1000 then
  bif mid (l++(numL ((nth (t:=.part) ps n).cat.data.toList.length:Int)++(nth (t:=.part) ps n).cat.data.toList))&&(gI (nth (t:=.part) ps n).bp&&gI (nth (t:=.part) ps n).net) then lpWp L L' ps (wPt l (nth (t:=.part) ps n)) (zA3 .i64 (.ofNat n+1)) else none else none else none
 else some (.tup [],wT (.fl .byte l),1):=by kernel_rfl
theorem vI6 (L:Nat) (ps:List bil.Pt) (hps:ps.length < 1000000):∀ (t:List bil.Pt) (n f:Nat) (l:List UInt8),ps.drop n=t->n<=ps.length->t.length < f->t.all gWp=true->l.length+t.length*1030 < 90000000 ->
  lpWp L f ps l (.ofNat n)=some (.tup [],wT (.fl .byte (t.foldl wPt l)),1)
 | t,n,0,l,_,_,hf,_,_=>by omega
 | [],n,f+1,l,hd,hn,hf,_,_=>by
  rw [wE3,drop_nil hd hn,zB6 (Nat.le_refl _),cond_false];rfl
 | x::t,n,f+1,l,hd,hn,hf,hg,hb=>by
  obtain⟨h1,h2,h3⟩:=zA5 (t:=.part) hd
  rw [List.all_cons,Bool.and_eq_true] at hg
  obtain⟨hx,hg⟩:=hg
  have hlen:=wX7 (l:=l) hx
  rw [List.length_cons] at hb hf
  have hx':=hx
  unfold gWp gTx at hx'
  simp only [Bool.and_eq_true] at hx'
  have ih:=vI6 L ps hps t (n+1) f (wPt l x) h3 (by omega) (by omega) hg (by omega)
  rw [wE3,zB4 h1,cond_true,zA9 h1,cond_true,h2,hx'.1,hx'.2.1,hx'.2.2,zJ7 (by omega),zJ7 (show (l++txB x.cat).length < _ by omega),zA2 (by omega),ih]
  rfl
def gWq (p:bil.Pst):Bool:=gTx p.ref.ser&&(gTx p.of_.ser&&(gI p.day.y&&(gI p.day.m&&(gI p.day.d&&(gI p.of_.num&&(p.tot.parts.all gWp&&Nat.blt p.tot.parts.length 1000))))))
def wPst (l:List UInt8) (p:bil.Pst):List UInt8:=p.tot.parts.foldl wPt (l++txB p.ref.ser++numL p.day.y++numL p.day.m++numL p.day.d++txB p.of_.ser++numL p.of_.num++numL (Int.ofNat p.tot.parts.length))
theorem wK5:∀ (t:List bil.Pt) (l:List UInt8),t.all gWp=true->(t.foldl wPt l).length<=l.length+t.length*1030
 | [],l,_=>by simp
 | x::t,l,h=>by
  rw [List.all_cons,Bool.and_eq_true] at h
  have:=wK5 t (wPt l x) h.2
  have:=(wX7 (l:=l) h.1).1
  rw [List.foldl_cons,List.length_cons]
  omega
theorem wJ8 {l:List UInt8} {p:bil.Pst} (h1:gTx p.ref.ser=true) (h2:gTx p.of_.ser=true) :
  (l++txB p.ref.ser).length < l.length+1010/\(l++txB p.ref.ser++numL p.day.y++numL p.day.m++numL p.day.d).length < l.length+1040 /\
  (l++txB p.ref.ser++numL p.day.y++numL p.day.m++numL p.day.d++txB p.of_.ser).length < l.length+2060 /\
  (l++txB p.ref.ser++numL p.day.y++numL p.day.m++numL p.day.d++txB p.of_.ser++numL p.of_.num++numL (Int.ofNat p.tot.parts.length)).length < l.length+2080:=by
 have a1:=yI3 h1
 have a2:=yI3 h2
 have a3:=zC3 p.day.y
 have a4:=zC3 p.day.m
 have a5:=zC3 p.day.d
 have a6:=zC3 p.of_.num
 have a7:=zC3 (Int.ofNat p.tot.parts.length)
 simp only [List.length_append] at a1 a2 ⊢
 omega
theorem yW5 {l:List UInt8} {p:bil.Pst} (h:gWq p=true):(wPst l p).length < l.length+1033000:=by
 unfold gWq at h
 simp only [Bool.and_eq_true] at h
 obtain⟨h1,h2,_,_,_,_,h7,h8⟩:=h
 have h8:p.tot.parts.length < 1000:=blt_iff.1 h8
 have:=(wJ8 (l:=l) h1 h2).2.2.2
 have:=wK5 p.tot.parts (l++txB p.ref.ser++numL p.day.y++numL p.day.m++numL p.day.d++txB p.of_.ser++numL p.of_.num++numL (Int.ofNat p.tot.parts.length)) h7
 unfold wPst
 omega
def yP3:List AV->Mem->Option (Bool × AV × T Blk × Nat)
 | [.ptr 0 0,.agg [.str a,.int .i64 n,.int .i64 y,.int .i64 mo,.int .i64 d,.int .i64 t1,.int .i64 t2,.int .i64 t3,.fl .part ps,.str o,.int .i64 on,.bool bk]],⟨.node .nil (some ⟨.raw [.fl .byte l],1,false⟩) .nil,1,0,0⟩ =>
  let p:bil.Pst:=⟨⟨⟨⟨a⟩⟩,n⟩,⟨y,mo,d⟩,⟨t1,t2,t3,ps⟩,⟨⟨⟨o⟩⟩,on⟩,bk⟩
  some (Nat.blt l.length 80000000&&gWq p,.tup [],wT (.fl .byte (wPst l p)),1)
 | _,_=>none
def c105:ClS:=addN 34 yP3 c104
theorem qN3:zA1 Tryz.prog c105:=zE5 qN4 mix wP6 yP3 fun xs m r h1 n1 h=>by
 unfold yP3 at h
 split at h<;>first | (cases h;done) | skip
 rename_i a n y mo d t1 t2 t3 ps o on bk l
 simp only [Option.some.injEq,Prod.mk.injEq,Bool.and_eq_true] at h
 obtain⟨⟨hl,hg⟩,rfl,rfl,rfl⟩:=h
 obtain⟨p,hp⟩:∃ p:bil.Pst,p=⟨⟨⟨⟨a⟩⟩,n⟩,⟨y,mo,d⟩,⟨t1,t2,t3,ps⟩,⟨⟨⟨o⟩⟩,on⟩,bk⟩:=⟨_,rfl⟩
 refine⟨rfl,1001,?_⟩
 have e:∀ (L:Nat) (p:bil.Pst),zC4 c104 L s_wposted [.ptr 0 0,.agg (enc .posted p)] ⟨wT (.fl .byte l),1,0,0⟩ (fun r m=>zD1 1 r m fun r m=>some (r,m.h,m.nx)) =
   bif mid l&&Nat.blt p.ref.ser.data.toList.length 1000 then bif mid (l++(numL (p.ref.ser.data.toList.length:Int)++p.ref.ser.data.toList))&&(gI p.day.y&&(gI p.day.m&&gI p.day.d)) then
    bif mid (l++(numL (p.ref.ser.data.toList.length:Int)++p.ref.ser.data.toList)++numL p.day.y++numL p.day.m++numL p.day.d)&&Nat.blt p.of_.ser.data.toList.length 1000 then
     bif mid (l++(numL (p.ref.ser.data.toList.length:Int)++p.ref.ser.data.toList)++numL p.day.y++numL p.day.m++numL p.day.d++(numL (p.of_.ser.data.toList.length:Int)++p.of_.ser.data.toList))&&(gI p.of_.num&&gI (.ofNat p.tot.parts.length)) then
      lpWp L L p.tot.parts (l++txB p.ref.ser++numL p.day.y++numL p.day.m++numL p.day.d++txB p.of_.ser++numL p.of_.num++numL (Int.ofNat p.tot.parts.length)) (.ofNat 0) else none else none else none else none:=fun L p=>by kernel_rfl
 have e':=e 1001 p
 have hl:l.length < 80000000:=blt_iff.1 hl
 rw [<- hp] at hg ⊢
 have hg':=hg
 unfold gWq gTx at hg'
 simp only [Bool.and_eq_true] at hg'
 obtain⟨g1,g2,g3,g4,g5,g6,g7,g8⟩:=hg'
 have g8:p.tot.parts.length < 1000:=blt_iff.1 g8
 obtain⟨b1,b2,b3,b4⟩:=wJ8 (l:=l) (p:=p) g1 g2
 have gl:gI (.ofNat p.tot.parts.length)=true:=gI_iff.2 ⟨by simp only [Int.ofNat_eq_natCast];omega,by simp only [Int.ofNat_eq_natCast];omega⟩
 have hlp:=vI6 1001 p.tot.parts (by omega) p.tot.parts 0 1001 (l++txB p.ref.ser++numL p.day.y++numL p.day.m++numL p.day.d++txB p.of_.ser++numL p.of_.num++numL (Int.ofNat p.tot.parts.length)) rfl (by omega) (by omega) g7 (by omega)
 rw [g1,g2,g3,g4,g5,g6,gl,zJ7 (l:=l) (by omega),zJ7 (show (l++txB p.ref.ser).length < _ by omega),zJ7 (show (l++txB p.ref.ser++numL p.day.y++numL p.day.m++numL p.day.d).length < _ by omega),
  zJ7 (show (l++txB p.ref.ser++numL p.day.y++numL p.day.m++numL p.day.d++txB p.of_.ser).length < _ by omega),hlp] at e'
 rw [hp] at e' ⊢
 exact e'
end
noncomputable section
def wRt (l:List UInt8) (x:bil.Rt):List UInt8:=l++txB x.cat++numL x.fr.y++numL x.fr.m++numL x.fr.d++numL x.bp
def gWr (x:bil.Rt):Bool:=gTx x.cat&&(gI x.fr.y&&(gI x.fr.m&&(gI x.fr.d&&gI x.bp)))
def wSr (l:List UInt8) (x:bil.Sr):List UInt8:=l++txB x.name++numL x.limit++numL (bif x.shut then 1 else 0)
def gWs (x:bil.Sr):Bool:=gTx x.name&&gI x.limit
def wSs (l:List UInt8) (x:bil.Ses):List UInt8:=l++numL x.id++numL x.last++numL x.rep.why++numL x.rep.number++numL x.rep.gross
def gWz (x:bil.Ses):Bool:=gI x.id&&(gI x.last&&(gI x.rep.why&&(gI x.rep.number&&gI x.rep.gross)))
theorem xS4 {l:List UInt8} {x:bil.Rt} (h:gWr x=true):(wRt l x).length < l.length+1060/\(l++txB x.cat).length < l.length+1060/\(l++txB x.cat++numL x.fr.y++numL x.fr.m++numL x.fr.d).length < l.length+1060:=by
 unfold gWr at h
 simp only [Bool.and_eq_true] at h
 have h1:=yI3 h.1
 have h2:=zC3 x.fr.y
 have h3:=zC3 x.fr.m
 have h4:=zC3 x.fr.d
 have h5:=zC3 x.bp
 unfold wRt
 simp only [List.length_append] at h1 ⊢
 omega
theorem xS3 {l:List UInt8} {x:bil.Sr} (h:gWs x=true):(wSr l x).length < l.length+1060/\(l++txB x.name).length < l.length+1060/\(l++txB x.name++numL x.limit).length < l.length+1060:=by
 unfold gWs at h
 simp only [Bool.and_eq_true] at h
 have h1:=yI3 h.1
 have h2:=zC3 x.limit
 have h3:=zC3 (bif x.shut then 1 else 0)
 unfold wSr
 simp only [List.length_append] at h1 ⊢
 omega
theorem xS2 {l:List UInt8} {x:bil.Ses}:(wSs l x).length < l.length+1060:=by
 have h1:=zC3 x.id
 have h2:=zC3 x.last
 have h3:=zC3 x.rep.why
 have h4:=zC3 x.rep.number
 have h5:=zC3 x.rep.gross
 unfold wSs
 simp only [List.length_append]
 omega
abbrev mP (s:bil.St) (l:List UInt8):Mem:=⟨.node (.node .nil (some ⟨.raw [.fl .byte l],1,false⟩) .nil) (some ⟨.raw (cSt s),1,false⟩) .nil,2,3,3⟩
def lpA1 (L L':Nat) (s:bil.St) (l:List UInt8) (n:Int):Option AV:=zC7 (evS c105 L qH1) qC9 0 L' (stL [(q1,.ptr 0 0),(q3,.ptr 1 0),(q24,.fl .rate s.table),(q25,i64 (.ofNat s.table.length)),(q26,i64 n)]) (mP s l) (qD7 c105 L fun r m=>frzK m .any r some)
def lpA2 (L L':Nat) (s:bil.St) (l:List UInt8) (n:Int):Option AV:=zC7 (evS c105 L qG9) qC7 0 L' (stL [(q1,.ptr 0 0),(q3,.ptr 1 0),(q51,.fl .series s.series),(q52,i64 (.ofNat s.series.length)),(q53,i64 n)]) (mP s l) (qD4 c105 L fun r m=>frzK m .any r some)
def lpA3 (L L':Nat) (s:bil.St) (l:List UInt8) (n:Int):Option AV:=zC7 (evS c105 L qG8) qC6 0 L' (stL [(q1,.ptr 0 0),(q3,.ptr 1 0),(q78,.fl .posted s.posted),(q79,i64 (.ofNat s.posted.length)),(q80,i64 n)]) (mP s l) (qD3 c105 L fun r m=>frzK m .any r some)
def lpA4 (L L':Nat) (s:bil.St) (l:List UInt8) (n:Int):Option AV:=zC7 (evS c105 L qG7) qC5 0 L' (stL [(q1,.ptr 0 0),(q3,.ptr 1 0),(q95,.fl .ses s.sess),(q96,i64 (.ofNat s.sess.length)),(q97,i64 n)]) (mP s l) (qD2 c105 L fun r m=>frzK m .any r some)
theorem wF1 (L L' n:Nat) (s:bil.St) (l:List UInt8):lpA1 L (Nat.succ L') s l (.ofNat n) =
 bif ltI (.ofNat n) (.ofNat s.table.length) then bif inI (.ofNat n) s.table.length then bif mid l&&Nat.blt (nth (t:=.rate) s.table n).cat.data.toList.length 1000 then
  bif mid (l++(numL ((nth (t:=.rate) s.table n).cat.data.toList.length:Int)++(nth (t:=.rate) s.table n).cat.data.toList))&&(gI (nth (t:=.rate) s.table n).fr.y&&(gI (nth (t:=.rate) s.table n).fr.m&&gI (nth (t:=.rate) s.table n).fr.d)) then
   bif mid (l++(numL ((nth (t:=.rate) s.table n).cat.data.toList.length:Int)++(nth (t:=.rate) s.table n).cat.data.toList)++numL (nth (t:=.rate) s.table n).fr.y++numL (nth (t:=.rate) s.table n).fr.m++numL (nth (t:=.rate) s.table n).fr.d)&&gI (nth (t:=.rate) s.table n).bp then
    lpA1 L L' s (wRt l (nth (t:=.rate) s.table n)) (zA3 .i64 (.ofNat n+1)) else none else none else none else none
 else bif mid l&&gI (.ofNat s.series.length) then lpA2 L L s (l++numL (.ofNat s.series.length)) (.ofNat 0) else none:=by kernel_rfl
theorem wF0 (L L' n:Nat) (s:bil.St) (l:List UInt8):lpA2 L (Nat.succ L') s l (.ofNat n) =
 bif ltI (.ofNat n) (.ofNat s.series.length) then bif inI (.ofNat n) s.series.length then bif mid l&&Nat.blt (nth (t:=.series) s.series n).name.data.toList.length 1000 then
  bif mid (l++(numL ((nth (t:=.series) s.series n).name.data.toList.length:Int)++(nth (t:=.series) s.series n).name.data.toList))&&gI (nth (t:=.series) s.series n).limit then
   bif (nth (t:=.series) s.series n).shut then
    bif mid (l++(numL ((nth (t:=.series) s.series n).name.data.toList.length:Int)++(nth (t:=.series) s.series n).name.data.toList)++numL (nth (t:=.series) s.series n).limit) then lpA2 L L' s (l++txB (nth (t:=.series) s.series n).name++numL (nth (t:=.series) s.series n).limit++numL (bif true then 1 else 0)) (zA3 .i64 (.ofNat n+1)) else none
   else
    bif mid (l++(numL ((nth (t:=.series) s.series n).name.data.toList.length:Int)++(nth (t:=.series) s.series n).name.data.toList)++numL (nth (t:=.series) s.series n).limit) then lpA2 L L' s (l++txB (nth (t:=.series) s.series n).name++numL (nth (t:=.series) s.series n).limit++numL (bif false then 1 else 0)) (zA3 .i64 (.ofNat n+1)) else none
  else none else none else none
 else bif mid l&&gI (.ofNat s.posted.length) then lpA3 L L s (l++numL (.ofNat s.posted.length)) (.ofNat 0) else none:=by kernel_rfl
theorem wE9 (L L' n:Nat) (s:bil.St) (l:List UInt8):lpA3 L (Nat.succ L') s l (.ofNat n) =
 bif ltI (.ofNat n) (.ofNat s.posted.length) then bif inI (.ofNat n) s.posted.length then bif Nat.blt l.length 80000000&&gWq (nth (t:=.posted) s.posted n) then lpA3 L L' s (wPst l (nth (t:=.posted) s.posted n)) (zA3 .i64 (.ofNat n+1)) else none else none
 else bif mid l&&gI (.ofNat s.sess.length) then lpA4 L L s (l++numL (.ofNat s.sess.length)) (.ofNat 0) else none:=by kernel_rfl
theorem wE8 (L L' n:Nat) (s:bil.St) (l:List UInt8):lpA4 L (Nat.succ L') s l (.ofNat n) =
 bif ltI (.ofNat n) (.ofNat s.sess.length) then bif inI (.ofNat n) s.sess.length then
  bif mid l&&(gI (nth (t:=.ses) s.sess n).id&&(gI (nth (t:=.ses) s.sess n).last&&(gI (nth (t:=.ses) s.sess n).rep.why&&(gI (nth (t:=.ses) s.sess n).rep.number&&gI (nth (t:=.ses) s.sess n).rep.gross)))) then
   lpA4 L L' s (wSs l (nth (t:=.ses) s.sess n)) (zA3 .i64 (.ofNat n+1)) else none else none
 else bif mid l&&gI s.next then some (.fl .byte (l++numL s.next)) else none:=by kernel_rfl
theorem vJ4 (L:Nat) (s:bil.St) (hps:s.table.length < 1000000):∀ (t:List bil.Rt) (n f:Nat) (l:List UInt8),s.table.drop n=t->n<=s.table.length->t.length < f->t.all gWr=true->l.length+t.length*1060 < 90000000 ->
  lpA1 L f s l (.ofNat n)=bif mid (t.foldl wRt l)&&gI (.ofNat s.series.length) then lpA2 L L s (t.foldl wRt l++numL (.ofNat s.series.length)) (.ofNat 0) else none
 | t,n,0,l,_,_,hf,_,_=>by omega
 | [],n,f+1,l,hd,hn,hf,_,_=>by
  rw [wF1,drop_nil hd hn,zB6 (Nat.le_refl _),cond_false];rfl
 | x::t,n,f+1,l,hd,hn,hf,hg,hb=>by
  obtain⟨h1,h2,h3⟩:=zA5 (t:=.rate) hd
  rw [List.all_cons,Bool.and_eq_true] at hg
  obtain⟨hx,hg⟩:=hg
  have hlen:=xS4 (l:=l) hx
  rw [List.length_cons] at hb hf
  have hx':=hx
  unfold gWr gTx at hx'
  simp only [Bool.and_eq_true] at hx'
  have ih:=vJ4 L s hps t (n+1) f (wRt l x) h3 (by omega) (by omega) hg (by omega)
  rw [wF1,zB4 h1,cond_true,zA9 h1,cond_true,h2,hx'.1,hx'.2.1,hx'.2.2.1,hx'.2.2.2.1,hx'.2.2.2.2,zJ7 (by omega),zJ7 (show (l++txB x.cat).length < _ by omega),zJ7 (show (l++txB x.cat++numL x.fr.y++numL x.fr.m++numL x.fr.d).length < _ by omega),zA2 (by omega),ih]
  rfl
theorem vJ3 (L:Nat) (s:bil.St) (hps:s.series.length < 1000000):∀ (t:List bil.Sr) (n f:Nat) (l:List UInt8),s.series.drop n=t->n<=s.series.length->t.length < f->t.all gWs=true->l.length+t.length*1060 < 90000000 ->
  lpA2 L f s l (.ofNat n)=bif mid (t.foldl wSr l)&&gI (.ofNat s.posted.length) then lpA3 L L s (t.foldl wSr l++numL (.ofNat s.posted.length)) (.ofNat 0) else none
 | t,n,0,l,_,_,hf,_,_=>by omega
 | [],n,f+1,l,hd,hn,hf,_,_=>by
  rw [wF0,drop_nil hd hn,zB6 (Nat.le_refl _),cond_false];rfl
 | x::t,n,f+1,l,hd,hn,hf,hg,hb=>by
  obtain⟨h1,h2,h3⟩:=zA5 (t:=.series) hd
  rw [List.all_cons,Bool.and_eq_true] at hg
  obtain⟨hx,hg⟩:=hg
  have hlen:=xS3 (l:=l) hx
  rw [List.length_cons] at hb hf
  have hx':=hx
  unfold gWs gTx at hx'
  simp only [Bool.and_eq_true] at hx'
  have ih:=vJ3 L s hps t (n+1) f (wSr l x) h3 (by omega) (by omega) hg (by omega)
  rw [wF0,zB4 h1,cond_true,zA9 h1,cond_true,h2,hx'.1,hx'.2,zJ7 (by omega),zJ7 (show (l++txB x.name).length < _ by omega),zJ7 (show (l++txB x.name++numL x.limit).length < _ by omega),zA2 (by omega),List.foldl_cons]
  have ew:∀ b,x.shut=b->l++txB x.name++numL x.limit++numL (bif b then 1 else 0)=wSr l x:=fun b hb=>by subst hb;rfl
  cases hs:x.shut with
  | true =>
   show lpA2 L f s _ _=_
   rw [ew true hs,ih]
  | false =>
   show lpA2 L f s _ _=_
   rw [ew false hs,ih]
theorem vJ2 (L:Nat) (s:bil.St) (hps:s.posted.length < 1000000):∀ (t:List bil.Pst) (n f:Nat) (l:List UInt8),s.posted.drop n=t->n<=s.posted.length->t.length < f->t.all gWq=true->l.length+t.length*1033000 < 80000000 ->
  lpA3 L f s l (.ofNat n)=bif mid (t.foldl wPst l)&&gI (.ofNat s.sess.length) then lpA4 L L s (t.foldl wPst l++numL (.ofNat s.sess.length)) (.ofNat 0) else none
 | t,n,0,l,_,_,hf,_,_=>by omega
 | [],n,f+1,l,hd,hn,hf,_,_=>by
  rw [wE9,drop_nil hd hn,zB6 (Nat.le_refl _),cond_false];rfl
 | x::t,n,f+1,l,hd,hn,hf,hg,hb=>by
  obtain⟨h1,h2,h3⟩:=zA5 (t:=.posted) hd
  rw [List.all_cons,Bool.and_eq_true] at hg
  obtain⟨hx,hg⟩:=hg
  have hlen:=yW5 (l:=l) hx
  rw [List.length_cons] at hb hf
  have ih:=vJ2 L s hps t (n+1) f (wPst l x) h3 (by omega) (by omega) hg (by omega)
  rw [wE9,zB4 h1,cond_true,zA9 h1,cond_true,h2,hx,zA0 (show l.length < 80000000 by omega),zA2 (by omega),ih]
  rfl
theorem vJ1 (L:Nat) (s:bil.St) (hps:s.sess.length < 1000000):∀ (t:List bil.Ses) (n f:Nat) (l:List UInt8),s.sess.drop n=t->n<=s.sess.length->t.length < f->t.all gWz=true->l.length+t.length*1060 < 90000000 ->
  lpA4 L f s l (.ofNat n)=bif mid (t.foldl wSs l)&&gI s.next then some (.fl .byte (t.foldl wSs l++numL s.next)) else none
 | t,n,0,l,_,_,hf,_,_=>by omega
 | [],n,f+1,l,hd,hn,hf,_,_=>by
  rw [wE8,drop_nil hd hn,zB6 (Nat.le_refl _),cond_false];rfl
 | x::t,n,f+1,l,hd,hn,hf,hg,hb=>by
  obtain⟨h1,h2,h3⟩:=zA5 (t:=.ses) hd
  rw [List.all_cons,Bool.and_eq_true] at hg
  obtain⟨hx,hg⟩:=hg
  have hlen:=xS2 (l:=l) (x:=x)
  rw [List.length_cons] at hb hf
  unfold gWz at hx
  have ih:=vJ1 L s hps t (n+1) f (wSs l x) h3 (by omega) (by omega) hg (by omega)
  rw [wE8,zB4 h1,cond_true,zA9 h1,cond_true,h2,hx,zJ7 (by omega),zA2 (by omega),ih]
  rfl
def putB (s:bil.St):List UInt8 :=
 s.sess.foldl wSs (s.posted.foldl wPst (s.series.foldl wSr (s.table.foldl wRt ([]++numL (.ofNat s.table.length))++numL (.ofNat s.series.length))++numL (.ofNat s.posted.length))++numL (.ofNat s.sess.length))++numL s.next
def gPut (s:bil.St):Bool:=s.table.all gWr&&(s.series.all gWs&&(s.posted.all gWq&&(s.sess.all gWz&&(gI s.next&&(Nat.blt s.table.length 1000&&(Nat.blt s.series.length 1000&&(Nat.blt s.posted.length 60&&Nat.blt s.sess.length 1000)))))))
theorem zI2 {α:Type} {w:List UInt8->α->List UInt8} {g:α->Bool} {k:Nat} (hw:∀ l x,g x=true->(w l x).length < l.length+k):∀ (t:List α) (l:List UInt8),t.all g=true->(t.foldl w l).length<=l.length+t.length*k
 | [],l,_=>by simp
 | x::t,l,h=>by
  rw [List.all_cons,Bool.and_eq_true] at h
  have h1:=zI2 hw t (w l x) h.2
  have h2:=hw l x h.1
  rw [List.foldl_cons,List.length_cons,Nat.succ_mul]
  omega
theorem wK2 {n:Nat} (h:n < 1000000):gI (.ofNat n)=true:=gI_iff.2 ⟨by simp only [Int.ofNat_eq_natCast];omega,by simp only [Int.ofNat_eq_natCast];omega⟩
theorem uX1 (s:bil.St) (hs:StG s) (hg:gPut s=true):zB3 c105 1001 s_iput .any [.agg (cSt s)] some=some (.fl .byte (putB s)):=by
 unfold gPut at hg
 simp only [Bool.and_eq_true] at hg
 obtain⟨g1,g2,g3,g4,g5,n1,n2,n3,n4⟩:=hg
 have n1:s.table.length < 1000:=blt_iff.1 n1
 have n2:s.series.length < 1000:=blt_iff.1 n2
 have n3:s.posted.length < 60:=blt_iff.1 n3
 have n4:s.sess.length < 1000:=blt_iff.1 n4
 have e:∀ L,zB3 c105 L s_iput .any [.agg (cSt s)] some=bif @decide (StG s) (Classical.propDecidable _) then bif gI (.ofNat s.table.length) then lpA1 L L s ([]++numL (.ofNat s.table.length)) (.ofNat 0) else none else none:=fun L=>by kernel_rfl
 have k0:=zC3 (Int.ofNat s.table.length)
 have k1:=zC3 (Int.ofNat s.series.length)
 have k2:=zC3 (Int.ofNat s.posted.length)
 have k3:=zC3 (Int.ofNat s.sess.length)
 have f1:=zI2 (fun l x h=>(xS4 (l:=l) h).1) s.table ([]++numL (.ofNat s.table.length)) g1
 generalize hb1:s.table.foldl wRt ([]++numL (.ofNat s.table.length))=b1 at f1
 have f2:=zI2 (fun l x h=>(xS3 (l:=l) h).1) s.series (b1++numL (.ofNat s.series.length)) g2
 generalize hb2:s.series.foldl wSr (b1++numL (.ofNat s.series.length))=b2 at f2
 have f3:=zI2 (g:=gWq) (fun l x h=>yW5 (l:=l) (p:=x) h) s.posted (b2++numL (.ofNat s.posted.length)) g3
 generalize hb3:s.posted.foldl wPst (b2++numL (.ofNat s.posted.length))=b3 at f3
 have f4:=zI2 (g:=gWz) (fun l x _=>xS2 (l:=l) (x:=x)) s.sess (b3++numL (.ofNat s.sess.length)) g4
 generalize hb4:s.sess.foldl wSs (b3++numL (.ofNat s.sess.length))=b4 at f4
 simp only [List.length_append,List.length_nil] at f1 f2 f3 f4
 rw [e,@decide_eq_true (StG s) (Classical.propDecidable _) hs,cond_true,wK2 (by omega),cond_true,
  vJ4 1001 s (by omega) s.table 0 1001 _ rfl (by omega) (by omega) g1 (by simp only [List.length_append,List.length_nil];omega),hb1,zJ7 (by omega),wK2 (by omega),Bool.and_self,cond_true,
  vJ3 1001 s (by omega) s.series 0 1001 _ rfl (by omega) (by omega) g2 (by simp only [List.length_append];omega),hb2,zJ7 (by omega),wK2 (by omega),Bool.and_self,cond_true,
  vJ2 1001 s (by omega) s.posted 0 1001 _ rfl (by omega) (by omega) g3 (by simp only [List.length_append];omega),hb3,zJ7 (by omega),wK2 (by omega),Bool.and_self,cond_true,
  vJ1 1001 s (by omega) s.sess 0 1001 _ rfl (by omega) (by omega) g4 (by simp only [List.length_append];omega),hb4,zJ7 (by omega),g5,Bool.and_self,cond_true]
 unfold putB
 rw [hb1,hb2,hb3,hb4]
def vX4:List AV->Option (Bool × AV)
 | [.agg [.fl .rate t,.fl .series l,.fl .posted p,.fl .bal b,.fl .ses z,.int .i64 n]]=>some (@decide (StG ⟨t,l,p,b,z,n⟩) (Classical.propDecidable _)&&gPut ⟨t,l,p,b,z,n⟩,.fl .byte (putB ⟨t,l,p,b,z,n⟩))
 | _=>none
def c106:ClS:=addG 8 vX4 c105
theorem qN2:zA1 Tryz.prog c106:=zC2 qN3 mix qA1 .any vX4 fun xs r h=>by
 unfold vX4 at h
 split at h<;>first | (cases h;done) | skip
 rename_i t l p b z n
 obtain⟨hg,rfl⟩:=Prod.mk.inj (Option.some.inj h)
 rw [Bool.and_eq_true] at hg
 exact⟨rfl,1001,uX1 ⟨t,l,p,b,z,n⟩ (zE7 hg.1) hg.2⟩
end
abbrev rdB (bs:List UInt8) (p:Nat):Blk:=⟨.raw [.fl .byte bs,.int .i64 (.ofNat p),.int .i64 (.ofNat 0)],1,false⟩
abbrev rdM (bs:List UInt8) (p:Nat):Mem:=⟨.node .nil (some (rdB bs p)) .nil,1,0,0⟩
def pfA:AV->Bool
 | .fn _ []=>true
 | x=>puA x
theorem qO8 {ρ ρ2:Ren} (hi:∀ b c,ρ.ice b=some c->ρ2.ice b=some c) {x:AV} {v:Value} (h:VR ρ x v) (hp:pfA x=true):VR ρ2 x v:=by
 unfold pfA at hp
 split at hp
 ·cases h with
  | fn hl h=>exact .fn hl fun j x y hx=>by simp at hx
 ·exact h.pu hi (wF6 hp)
def rdfK (sh:Sh) (r:AV) (m:Mem):Option (AV × List UInt8 × Nat) :=
 match m.h with
 | .node _ (some ⟨.raw [.fl .byte b,.int .i64 (.ofNat p),.int .i64 (.ofNat 0)],1,false⟩) _=>frzK m sh r fun r=>some (r,b,p)
 | _=>none
theorem uC5 {sh:Sh} {r0 r:AV} {m:Mem} {bs:List UInt8} {p:Nat} (h:rdfK sh r0 m=some (r,bs,p)):m.at 0=some (rdB bs p)/\Fz m r0 r:=by
 unfold rdfK at h
 split at h<;>first | (cases h;done) | skip
 rename_i b p' _ hh
 obtain⟨r2,hz,hr2⟩:=yH5 h
 cases hr2
 refine⟨?_,hz⟩
 show m.h.get (pth 0)=_
 rw [hh]
 rfl
def rdG1 (S:List AV->List UInt8->Nat->Option (Bool × AV × Nat)) (xs:List AV) (m:Mem):Option (Bool × AV × Mem) :=
 match xs with
 | .ptr i 0::ys=>getK m i fun B m=>(match B with
  | ⟨.raw [.fl .byte bs,.int .i64 (.ofNat p),.int .i64 (.ofNat 0)],1,false⟩=>(match S ys bs p with
   | some (g,r,p')=>putK m i (rdB bs p') fun m=>some (g&&ys.all pfA,r,m)
   | none=>none)
  | _=>none)
 | _=>none
def xR8 (f:Nat) (S:List AV->List UInt8->Nat->Option (Bool × AV × Nat)) (cl:ClS):ClS:=addO f (rdG1 S) cl
theorem uM4 {t t':LTy} {x:Elem t} {l:List (Elem t')}:∀ {y:AV},(enc t x)[0]?=some y->y≠.fl t' l:=by
 intro y h he
 subst he
 cases t<;>simp [enc,cRt,tx,i64] at h
open Classical in
theorem zU9 {P:Program} {cl:ClS} (hcl:zA1 P cl) (hmix:P.follows .mixedOrders=true) {f:Nat} {fc:FnS} (hfn:zB2 P f fc) (hbo:zE3 1 fc.body=true) (sh:Sh) (S:List AV->List UInt8->Nat->Option (Bool × AV × Nat))
  (h:∀ ys bs p r p',S ys bs p=some (true,r,p')->∃ L,zC4 cl L fc (.ptr 0 0::ys) (rdM bs p) (rdfK sh)=some (r,bs,p')):zA1 P (xR8 f S cl):=by
 intro g xs m r' m' hr
 rcases zS4 hr with⟨rfl,ho⟩ | hr
 ·clear hr
  unfold rdG1 at ho
  split at ho<;>first | (cases ho;done) | skip
  rename_i i ys
  obtain⟨B,hB,ho1⟩:=zD0 ho
  clear ho
  split at ho1<;>first | (cases ho1;done) | skip
  rename_i bs p
  split at ho1<;>first | (cases ho1;done) | skip
  rename_i gd r p' hS
  rw [zT9] at ho1
  simp only [Option.some.injEq,Prod.mk.injEq] at ho1
  obtain⟨hg,rfl,rfl⟩:=ho1
  rw [Bool.and_eq_true] at hg
  obtain⟨rfl,hpf⟩:=hg
  obtain⟨L,hrun⟩:=h ys bs p r p' hS
  obtain⟨r0,m1,hk,hcall⟩:=zZ0 hcl hmix hfn hbo hrun
  obtain⟨hm10,hz⟩:=uC5 hk
  obtain⟨fn,code,hfun,hb,hnm,_⟩:=hfn
  refine⟨(zE4 m i).trans (vT3 _ i _ _ hB),⟨fn,hfun,hnm,by rw [hb];rfl⟩,fun ρ w T N zs hT hN hv hm=>?_⟩
  obtain⟨z0,vs,rfl,hz0,hvs⟩:=hv.cons_inv
  cases hz0 with
  | ptr hri =>
   rename_i b sh0 K
   have hTi:T.testBit i=true:=hT i (bit_or.2 (.inr rfl))
   have hbk:ρ.blk i=some b:=by simp [Ren.blk,hri]
   have hMR:=hm.mem i _ hTi hB
   have hbl:b < w.heap.size:=by
    obtain⟨b',h1,h2⟩:=hMR.blk
    rw [hbk] at h1;cases h1;exact h2
   let ρJ:Ren:=⟨fun q=>if q=0 then ρ i else none,ρ.ice⟩
   have hJ0:ρJ 0=some (b,sh0,K):=hri
   have hpuB:∀ (q:Nat) (j:Nat) (x:AV),(rdB bs q).cells[j]?=some x->Pu x:=fun q j x hx=>by
    match j,hx with
    | 0,hx=>cases hx;exact .fl _ _
    | 1,hx=>cases hx;exact .int _ _
    | 2,hx=>cases hx;exact .int _ _
    | j+3,hx=>cases (show (none:Option AV)=some x from hx)
   have hatJ:∀ j B',(rdM bs p).at j=some B'->j=0/\B'=rdB bs p:=fun j B' hB'=>by
    have e:(rdM bs p).at j=if j=0 then some (rdB bs p) else none:=by
     show (Ev.T.node .nil (some (rdB bs p)) .nil).get (pth j)=_
     by_cases hj:j=0
     ·subst hj;rfl
     ·rw [if_neg hj]
      cases hp:pth j with
      | nil=>exact absurd (zL9 (hp.trans (show ([]:Path)=pth 0 from rfl))) hj
      | cons c q=>cases c<;>simp [Ev.T.get]
    rw [e] at hB'
    split at hB'
    ·cases hB';exact⟨by assumption,rfl⟩
    ·cases hB'
   have hMRJ:MR ρJ w.heap 0 (rdB bs p):=by
    obtain⟨b',sh',K',c,e,fz,g1,g2,g3,g4,g5⟩:=hMR
    rw [hri] at g1
    cases g1
    exact⟨b,sh0,K,c,e,fz,hJ0,g2,g3,fun j x hx=>by
     obtain⟨y,k1,k2⟩:=g4 j x hx
     exact⟨y,k1,VR.pu (ρ:=ρ) (ρ2:=ρJ) (fun _ _ h=>h) k2 (hpuB p j x hx)⟩,g5⟩
   refine (hcall (S:=fun k=>k=b) (ice0:=ρJ) (w0:=w) (w:=w) (ρ:=ρJ) (ys:=_::vs) (fun q x hq=>?_) (.cons (.ptr hJ0) ⟨hvs.1,fun j x y hx hy=>qO8 (ρ:=ρ) (ρ2:=ρJ) (fun _ _ h=>h) (hvs.2 j x y hx hy) (List.all_eq_true.1 hpf x (List.mem_of_getElem? hx))⟩) ?_ ?_).mono fun e w' he=>?_
   ·replace hq:(if q=0 then ρ i else none)=some x:=hq
    split at hq
    ·omega
    ·cases hq
   ·intro a ht
    refine⟨ht,fun j B' hB'=>?_,fun j k C D hC hD hne=>?_,fun j hj=>?_,fun j hj=>?_,hm.ice,fun j C k hC hk=>?_⟩
    ·obtain⟨rfl,rfl⟩:=hatJ j B' hB'
     exact hMRJ
    ·have:=(hatJ j C hC).1
     have:=(hatJ k D hD).1
     omega
    ·cases hC:(rdM bs p).at j with
     | none=>rfl
     | some C =>
      have:=(hatJ j C hC).1
      have hj':1<=j:=hj
      omega
    ·have hj':1<=j:=hj
     show (if j=0 then _ else _)=_
     rw [if_neg (by omega)]
    ·obtain⟨rfl,_⟩:=hatJ j C hC
     have:ρ.blk i=some k:=hk
     exact hm.dis i _ k hTi hB this
   ·refine⟨Nat.le_refl _,fun _ _ _=>rfl,fun j C k hC hk=>.inr ?_,Out.refl w,fun _ _ h=>h,fun _ _ h=>.inl h,fun q x hq=>⟨hq,?_⟩⟩
    ·obtain⟨rfl,_⟩:=hatJ j C hC
     have:ρ.blk i=some k:=hk
     rw [hbk] at this
     exact (Option.some.inj this).symm
    ·replace hq:(if q=0 then ρ i else none)=some x:=hq
     split at hq
     ·rename_i h0;subst h0;exact Nat.zero_lt_one
     ·cases hq
   ·obtain⟨ρ1,v,rfl,hvr,hf,hs⟩:=he
    have hp0:ρ1 0=some (b,sh0,K):=(hf.pin 0 _ hJ0).1
    have hb0:ρ1.blk 0=some b:=by simp [Ren.blk,hp0]
    have hne:∀ j C k,j≠0->m1.at j=some C->ρ1.blk j=some k->k≠b/\w.heap.size<=k:=fun j C k hj hC hk=>by
     have h1:k≠b:=fun he=>by
      subst he
      exact hs.inj j 0 C _ hC hm10 hj (hk.trans hb0.symm)
     refine⟨h1,?_⟩
     rcases hf.own j C k hC hk with h2 | h2
     ·exact h2
     ·exact absurd h2 h1
    let ice2:Nat->Option (Array Value):=fun k=>if ∃ j C,j≠0/\m1.at j=some C/\ρ1.blk j=some k then (match w'.heap[k]? with | some (.cells c _ _)=>some c | _=>none) else ρ1.ice k
    have hi1:∀ k c,ρ1.ice k=some c->ice2 k=some c:=fun k c hk=>by
     show (if _ then _ else _)=_
     rw [if_neg]
     ·exact hk
     ·rintro ⟨j,C,_,hC,hbk'⟩
      rw [hs.dis j C k hC hbk'] at hk
      cases hk
    have hi0:∀ k c,ρ.ice k=some c->ice2 k=some c:=fun k c hk=>hi1 k c (hf.ext k c hk)
    have hblk:∀ j C,j≠0->m1.at j=some C->∃ k sh K c e fz,ρ1 j=some (k,sh,K)/\w'.heap[k]?=some (.cells c e fz)/\ice2 k=some c/\∀ q x,C.cells[q]?=some x->∃ y,c[sh+q]?=some y/\VR ρ1 x y:=fun j C hj hC=>by
     obtain⟨k,sh,K,c,e,fz,h1,h2,h3,h4,h5⟩:=hs.mem j C hC
     refine⟨k,sh,K,c,e,fz,h1,h2,?_,h4⟩
     show (if _ then _ else _)=_
     rw [if_pos ⟨j,C,hj,hC,by simp [Ren.blk,h1]⟩,h2]
    have hval:VR ⟨ρ.f,ice2⟩ r v:=by
     clear hm hk hS hrun hcall
     induction hz generalizing v with
     | pu h=>exact hvr.pu hi1 h
     | nil t=>cases hvr;exact .fl0 t
     | emp t=>cases hvr;exact .fle t _ _
     | so h he hl hcell =>
      rename_i j e len t l C
      subst he hl
      cases hvr with
      | so hr hk =>
       rename_i b3 s9 K2
       rcases Nat.eq_zero_or_pos l.length with h0 | hp
       ·have:l=[]:=List.eq_nil_of_length_eq_zero h0
        subst this
        exact .fle t _ _
       ·have hw:0 < wd t:=by cases t<;>decide
        have hj:j≠0:=fun hj=>by
         subst hj
         rw [hm10] at h
         cases h
         have h9:=flat_get t l 0 0 hp hw
         have hlt:0 < (enc t (nth l 0)).length:=by rw [zF8];exact hw
         rw [List.getElem?_eq_getElem hlt] at h9
         have:=hcell (0*wd t+0) _ h9
         rw [Nat.zero_mul] at this
         exact uM4 (List.getElem?_eq_getElem hlt) (Option.some.inj (this.symm.trans (show (rdB bs p').cells[0+0]?=some (.fl .byte bs) from rfl)))
        obtain⟨k0,s0,K0,c,e,fz,h1,h2,h3,h4⟩:=hblk j C hj h
        rw [h1] at hr
        cases hr
        have hroom:s9+l.length*wd t<=c.size:=by
         have hq:0 < l.length*wd t:=Nat.mul_pos hp hw
         have hlt:l.length*wd t - 1 < (flat t l).length:=by rw [zB5];omega
         obtain⟨y,hy,_⟩:=h4 _ _ (hcell _ _ (List.getElem?_eq_getElem hlt))
         have:=(Array.getElem?_eq_some_iff.1 hy).1
         omega
        have:=VR.fl (ρ:=⟨ρ.f,ice2⟩) (t:=t) (l:=l) (o:=s9+0*wd t) (cap:=K2 - 0) h3 (by omega) (by omega) fun n q x y hn hx hy=>by
         have hj:q < wd t:=by rw [<- zF8 t (nth l n)];exact (List.getElem?_eq_some_iff.1 hx).1
         have h5:=hcell (n*wd t+q) x (by rw [flat_get t l n q hn hj];exact hx)
         obtain⟨y',hy',hr'⟩:=h4 _ _ h5
         rw [show s9+0*wd t+n*wd t+q=s9+(n*wd t+q) by omega,hy'] at hy
         cases hy
         exact hr'.pu hi1 (yF2 t _ q x hx)
        exact this
     | agg hl h ih =>
      cases hvr with
      | agg hl' h' =>
       refine .agg (by rw [hl,hl']) fun j x y hx hy=>?_
       rename_i cs ds ys
       have hlt:j < cs.length:=by rw [<- hl];exact (List.getElem?_eq_some_iff.1 hx).1
       exact ih j _ x (List.getElem?_eq_getElem hlt) hx y (h' j _ y (List.getElem?_eq_getElem hlt) hy)
     | tup hl h ih =>
      cases hvr with
      | tup hl' h' =>
       refine .tup (by rw [hl,hl']) fun j x y hx hy=>?_
       rename_i cs ds ys
       have hlt:j < cs.length:=by rw [<- hl];exact (List.getElem?_eq_some_iff.1 hx).1
       exact ih j _ x (List.getElem?_eq_getElem hlt) hx y (h' j _ y (List.getElem?_eq_getElem hlt) hy)
    have hlt:∀ j C k,T.testBit j=true->m.at j=some C->ρ.blk j=some k->k < w.heap.size:=fun j C k hj hC hk=>by
     obtain⟨b',h1,h2⟩:=(hm.mem j C hj hC).blk
     rw [hk] at h1;cases h1;exact h2
    have other:∀ j C,T.testBit j=true->m.at j=some C->j≠i->∀ k,ρ.blk j=some k->k≠b:=fun j C hj hC hne k hk he =>
     hm.inj j i C _ hj hTi hC hB hne (by rw [hk,hbk,he])
    have hle:ρ.le ⟨ρ.f,ice2⟩:=⟨fun _ _ h=>h,hi0⟩
    have hdisj:∀ j C k,T.testBit j=true->m.at j=some C->ρ.blk j=some k->ice2 k=none:=fun j C k hj hC hk=>by
     have hkl:=hlt j C k hj hC hk
     show (if _ then _ else _)=_
     rw [if_neg]
     ·cases hq:ρ1.ice k with
      | none=>rfl
      | some c =>
       rcases hf.nice k c hq with h3 | h3
       ·have h4:ρ.ice k=some c:=h3
        rw [hm.dis j C k hj hC hk] at h4
        cases h4
       ·omega
     ·rintro ⟨q,D,hq0,hD,hq⟩
      have:=(hne q D k hq0 hD hq).2
      omega
    refine⟨⟨ρ.f,ice2⟩,v,rfl,hval,⟨fun j C hj hC=>?_,fun j k C D hj hk hC hD hjk=>?_,fun j hj=>?_,hm.fresh,fun k c hk=>?_,fun j C k hj hC hk=>?_⟩,⟨hle,fun _ _ h=>.inl h,hf.size,fun k hk hw=>?_,(fun j k h1 h2=>by simp [Mem.put,Mem.touch] at h2;omega),hf.out,fun k c hk=>?_⟩⟩
    ·rw [zI6] at hC
     split at hC
     ·rename_i he
      subst he
      cases hC
      obtain⟨b',sh',K',c,e,fz,g1,g2,g3,g4,g5⟩:=hs.mem 0 _ hm10
      rw [hp0] at g1
      cases g1
      exact⟨b,sh0,K,c,e,fz,hri,g2,g3,fun q x hx=>by
       obtain⟨y,k1,k2⟩:=g4 q x hx
       exact⟨y,k1,k2.pu hi1 (hpuB p' q x hx)⟩,g5⟩
     ·rename_i he
      exact (hm.mem j C hj hC).move hle fun k hk=>hf.keep k (hlt j C k hj hC hk) (other j C hj hC he k hk)
    ·rw [zI6] at hC hD
     split at hC<;>split at hD
     ·omega
     ·rename_i e1 e2;subst e1;exact hm.inj j k _ D hj hk hB hD hjk
     ·rename_i e1 e2;subst e2;exact hm.inj j k C _ hj hk hC hB hjk
     ·exact hm.inj j k C D hj hk hC hD hjk
    ·rw [zI6]
     split
     ·rename_i he;subst he;rw [hm.wf j hj] at hB;cases hB
     ·exact hm.wf j hj
    ·replace hk:(if ∃ j C,j≠0/\m1.at j=some C/\ρ1.blk j=some k then (match w'.heap[k]? with | some (.cells c _ _)=>some c | _=>none) else ρ1.ice k)=some c:=hk
     split at hk
     ·split at hk
      ·rename_i h5;cases hk;exact⟨_,_,h5⟩
      ·cases hk
     ·exact hs.ice k c hk
    ·rw [zI6] at hC
     split at hC
     ·rename_i he;subst he;exact hdisj j _ k hj hB hk
     ·exact hdisj j C k hj hC hk
    ·refine hf.keep k hk fun he=>?_
     subst he
     exact hw i _ (bit_or.2 (.inr rfl)) hB hbk
    ·replace hk:(if ∃ j C,j≠0/\m1.at j=some C/\ρ1.blk j=some k then (match w'.heap[k]? with | some (.cells c _ _)=>some c | _=>none) else ρ1.ice k)=some c:=hk
     split at hk
     ·rename_i hq
      obtain⟨j,C,hj0,hC,hjk⟩:=hq
      exact .inr (hne j C k hj0 hC hjk).2
     ·exact hf.nice k c hk
 ·exact hcl g xs m r' m' hr
set_option maxHeartbeats 4000000
set_option maxRecDepth 100000
def d_iDay:SOf Tryz.prog 65 [] []:=⟨_,by conv=>lhs;reduce⟩
def uR2:FnS:=d_iDay.1
theorem qA4:zB2 Tryz.prog 65 uR2:=zA8 d_iDay.2
def d_iRow:SOf Tryz.prog 20 [] []:=⟨_,by conv=>lhs;reduce⟩
def uR0:FnS:=d_iRow.1
theorem qA2:zB2 Tryz.prog 20 uR0:=zA8 d_iRow.2
def d_iOne:SOf Tryz.prog 22 [] []:=⟨_,by conv=>lhs;reduce⟩
def uR1:FnS:=d_iOne.1
theorem qA3:zB2 Tryz.prog 22 uR1:=zA8 d_iOne.2
def d_iPart:SOf Tryz.prog 68 [] []:=⟨_,by conv=>lhs;reduce⟩
def vB3:FnS:=d_iPart.1
theorem uE9:zB2 Tryz.prog 68 vB3:=zA8 d_iPart.2
def d_iClient:SOf Tryz.prog 26 [] []:=⟨_,by conv=>lhs;reduce⟩
def xH4:FnS:=d_iClient.1
theorem wR0:zB2 Tryz.prog 26 xH4:=zA8 d_iClient.2
def d_liRate:SOf Tryz.prog 19 [([0,2,7,10,11],1)] [(15,(.ty .rate 0))]:=⟨_,by conv=>lhs;reduce⟩
def s_liRate:FnS:=d_liRate.1
def xN3:List Path:=[q0,q2,q7,q10,q11]
def xR2:SC:=(⟨_,by conv=>lhs;reduce⟩:VOf (s_liRate.lp 0)).1
def vV0:SC:=(⟨_,by conv=>lhs;reduce⟩:VOf (s_liRate.af 0)).1
def xN8 {β:Type} (cl:ClS) (L:Nat) (K:AV->Mem->Option β):Ex->T AV->Mem->Option β:=kBlk 0 (kSeq (evS cl L vV0) (endS s_liRate.res K))
theorem vG4:zB2 Tryz.prog 19 s_liRate:=zA8 d_liRate.2
def d_liSes:SOf Tryz.prog 25 [([0,2,7,10,11],1)] [(15,(.ty .ses 0))]:=⟨_,by conv=>lhs;reduce⟩
def s_liSes:FnS:=d_liSes.1
def wI9:List Path:=[q0,q2,q7,q10,q11]
def wL6:SC:=(⟨_,by conv=>lhs;reduce⟩:VOf (s_liSes.lp 0)).1
def uP5:SC:=(⟨_,by conv=>lhs;reduce⟩:VOf (s_liSes.af 0)).1
def wJ2 {β:Type} (cl:ClS) (L:Nat) (K:AV->Mem->Option β):Ex->T AV->Mem->Option β:=kBlk 0 (kSeq (evS cl L uP5) (endS s_liSes.res K))
theorem uE4:zB2 Tryz.prog 25 s_liSes:=zA8 d_liSes.2
end Go.Proofs.YtpccdcnjkknmkaaGreatDoor.Ev
