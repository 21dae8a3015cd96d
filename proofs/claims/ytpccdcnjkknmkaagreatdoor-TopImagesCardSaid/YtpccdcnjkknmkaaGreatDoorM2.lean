/- Texts of this proof, put together by program; each has its own remark. -/
import Derived.Orders
import Derived.KernelRfl
import Derived.Test.YtpccdcnjkknmkaaGreatDoorM1

namespace Go.Proofs.YtpccdcnjkknmkaaGreatDoor.Ev
open Go
def zF6 (P:Program) (cl:Cl):Prop :=
 ∀ f xs m r m', cl f xs m = some (r, m') → AS m m' ∧ (∃ fn, P.funcs[f]? = some fn ∧ (fn.name == "runtime.NumGoroutine") = false ∧ fn.body.isNone = false) ∧
  ∀ (ρ:Ren) (w:World) (T N:Nat) (ys:List Value),(∀ i,m'.tch.testBit i=true->T.testBit i=true)->m'.nx<=N->VRs ρ xs ys->MI ρ w m T N ->
   Calls P f ys.toArray w fun e w'=>∃ ρ' v,e=.returned v/\VR ρ' r v/\MI ρ' w' m' T N/\CS ρ ρ' w w' m m'
section
variable {P:Program} {o:Oper} {ops:List Operand} {vs:List AV} {m m':Mem} {r:AV} {cl:Cl}
theorem yO2 {β:Type} {f:Nat} {xs:List AV} {k:AV->Mem->Option β} {res:β} (h:yR5 cl f xs m k=some res):∃ r m',cl f xs m=some (r,m')/\k r m'=some res:=by
 unfold yR5 at h
 split at h
 ·exact⟨_,_,by assumption,h⟩
 ·cases h
theorem xP8 {f : FuncId} {fn : Func} {args : Array Value} {w : World} (h : P.funcs[f]? = some fn) (h1 : (fn.name == "runtime.NumGoroutine") = false) (h2 : fn.body.isNone = false) : (callFunc f args).run P w = .ok (.enter f args) w := by
 unfold callFunc
 rw [Sem.run_bind,run_program,Result.andThen_ok]
 simp only [h,h1,h2,Bool.false_eq_true,if_false,Sem.run_pure]
theorem yB3 (hcl:zF6 P cl) {f:Nat} {xs:List AV} (hr:cl f xs m=some (r,m'))
  (h:∀ (ρ:Ren) (w:World) (T N:Nat) (a:Act),VRs ρ vs (ops.map a.eval)->MI ρ w m T N->∃ ys:List Value,VRs ρ xs ys/\(execOp a.eval o).run P w=(callFunc f ys.toArray).run P w):Good P o ops vs m r m':=by
 obtain⟨ha,⟨fn,h1,h2,h3⟩,hc⟩:=hcl f xs m r m' hr
 refine⟨ha,fun ρ w T N a next Q hT hN hv hm hk=>?_⟩
 obtain⟨ys,hy,hx⟩:=h ρ w T N a hv hm
 unfold Oper.wp
 rw [hx,xP8 h1 h2 h3,Oper.upon_enter]
 refine (hc ρ w T N ys hT hN hy hm).mono fun e w' he=>?_
 obtain⟨ρ',v,rfl,h5,h6,h7⟩:=he
 exact hk ρ' w' v h5 h6 h7
theorem xC5 {c:Call} {a:Act} {w:World} (ho:o.op=.call c) {x:Operand} (hc:c.callee=.value x) {f:Nat} {first cap:Array Value} (hx:a.eval x=.func (.func f) first cap) :
  (execOp a.eval o).run P w=(callFunc f (first++c.args.map a.eval++cap)).run P w:=by
 simp only [execOp,ho,resolve,hc,hx,Deferred.ofValue,Sem.run_bind,Sem.run_pure,Result.andThen_ok,invoke]
theorem vZ3 {t f:Nat} {l:List (Nat × Nat)} (h:tblA t l=some f):(t,f)∈l:=by
 induction l with
 | nil=>cases h
 | cons p l ih =>
  obtain⟨t',f'⟩:=p
  simp only [tblA] at h
  cases hb:Nat.beq t' t with
  | true =>
   rw [hb,cond_true] at h
   cases h
   rw [beqN.1 hb]
   exact List.mem_cons_self
  | false =>
   rw [hb,cond_false] at h
   exact List.mem_cons_of_mem _ (ih h)
theorem wR4 {t f:Nat} {name:String} {i:TypeInfo} {mt:Method} {pr:Bool} {w:World} {v:Value} (hi:P.info? t=some i) (hm:i.methods.find? (·.name == name)=some mt) (hp:mt.path.isEmpty=true) (hf:mt.func=some (f,pr))
  (hu:wJ4 P t=pr) (hsome:∃ d,P.underlying t=some d):(method (P.types.size+Made.depth) t v name).run P w=.ok (f,v) w:=by
 obtain⟨F,hF⟩:∃ F,P.types.size+Made.depth=F+1:=⟨P.types.size+(Made.depth - 1),by unfold Made.depth;omega⟩
 rw [hF]
 obtain⟨d,hd⟩:=hsome
 have hp':mt.path=#[]:=by simpa using hp
 unfold wJ4 at hu
 rw [hd] at hu
 unfold method
 simp only [Sem.run_bind,typeInfo,run_program,Result.andThen_ok,hi,Sem.run_pure,hm,hp',follow,hf]
 have hrec:∀ wr,(receiverAt t (.val v) pr wr).run P w=.ok v w:=by
  intro wr
  unfold receiverAt
  rw [Sem.run_bind,run_underlying hd w,Result.andThen_ok]
  cases d<;>simp only at hu<;>subst hu<;>rfl
 simp [hrec]
theorem uL1 {c:Call} {x:Operand} {name:String} {t f:Nat} {v:AV} {xs:List AV} (hcl:zF6 P cl) (ho:o.op=.call c) (hc:c.callee=.invoke x name)
  (hex:∃ (i:TypeInfo) (mt:Method) (pr:Bool),P.info? t=some i/\i.methods.find? (·.name == name)=some mt/\mt.path.isEmpty=true/\mt.func=some (f,pr)/\(wJ4 P t=pr)/\∃ d,P.underlying t=some d)
  (hr:cl f (v::xs) m=some (r,m')):Good P o (x::c.args.toList) (.ifc t v::xs) m r m':=by
 obtain⟨i,mt,pr,h1,h2,h3,h4,h5,h6⟩:=hex
 refine yB3 hcl hr fun ρ w T N a hv _=>?_
 obtain⟨X,XS,e,g1,g2⟩:=hv.cons_inv
 simp only [List.map_cons,List.cons.injEq] at e
 obtain⟨e1,rfl⟩:=e
 cases g1 with
 | ifc g1 =>
  rename_i y
  refine⟨y::c.args.toList.map a.eval,.cons g1 g2,?_⟩
  have hm:=wR4 (P:=P) (w:=w) (v:=y) h1 h2 h3 h4 h5 h6
  have e2:(#[a.eval x]++c.args.map a.eval:Array Value)[0]?=some (.iface t y):=by rw [Array.getElem?_append_left (by simp)];simp [e1]
  simp only [execOp,ho,resolve,hc,Sem.run_bind,Sem.run_pure,Result.andThen_ok,invoke,e2,callMethod,run_program,hm]
  congr 2
  apply Array.ext'
  simp [List.take_of_length_le]
theorem zQ5 {kd:Kd} {β:Type} {k:AV->Mem->Option β} {res:β} (hcl:zF6 P cl) (hc:zC9 P o.op=some (kd,ops)) (h:kdK cl kd vs m k=some res):∃ r m',k r m'=some res/\Good P o ops vs m r m':=by
 have pure':(match zK2 kd vs with | some v=>k v m | none=>none)=some res->∃ r m',k r m'=some res/\Good P o ops vs m r m':=by
  intro h
  split at h
  ·rename_i v hv
   exact⟨v,m,h,zD6 hc hv⟩
  ·cases h
 cases ho:o.op with
 | alloc e =>
  rw [ho] at hc
  simp only [zC9] at hc
  split at hc<;>first | (cases hc;done) | skip
  rename_i zs hz
  cases hc
  simp only [kdK,zE8] at h
  exact⟨_,_,h,wU2 ho hz⟩
 | box e x =>
  rw [ho] at hc
  cases hc
  simp only [kdK] at h
  obtain⟨v,rfl,hz⟩:=zK3 h
  rw [zD2,zE8] at hz
  exact⟨_,_,hz,uL6 ho⟩
 | buildSlice t len ps =>
  rw [ho] at hc
  simp only [zC9] at hc
  split at hc<;>first | (cases hc;done) | skip
  rename_i e ht
  split at hc<;>first | (cases hc;done) | skip
  rename_i zs n hz hn
  obtain⟨⟨h1,h2,h3⟩,hc⟩:=zG2 hc
  cases hc
  simp only [kdK] at h
  obtain⟨cs,hf,hz2⟩:=xB5 _ _ _ _ _ h
  rw [zD2,zE8] at hz2
  exact⟨_,_,hz2,uL5 ho ht hz hn h1 h2 h3 hf⟩
 | load t x =>
  rw [ho] at hc
  simp only [zC9] at hc
  split at hc<;>first | (cases hc;done) | skip
  rename_i d hd
  split at hc
  ·rename_i hrow
   split at hc<;>first | (cases hc;done) | skip
   rename_i n hn
   cases hc
   simp only [kdK] at h
   obtain⟨v,rfl,hz⟩:=zK3 h
   unfold ldnK at hz
   split at hz<;>first | (cases hz;done) | skip
   obtain⟨B,hB,h2⟩:=zD0 hz
   obtain⟨cs,hl,hcut,h3⟩:=zG3 h2
   exact⟨_,_,h3,yH3 ho hd hrow hn hB hl hcut⟩
  ·rename_i hrow
   cases hc
   simp only [kdK] at h
   obtain⟨v,rfl,hz⟩:=zK3 h
   unfold ld1K at hz
   split at hz<;>first | (cases hz;done) | skip
   obtain⟨B,hB,h2⟩:=zD0 hz
   split at h2<;>first | (cases h2;done) | skip
   rename_i v hv
   exact⟨_,_,h2,yH4 ho hd (by simpa using hrow) hB (head_drop hv)⟩
 | store t x y =>
  rw [ho] at hc
  simp only [zC9] at hc
  split at hc<;>first | (cases hc;done) | skip
  rename_i n hn
  cases hc
  simp only [kdK] at h
  obtain⟨p,v,rfl,hz⟩:=zJ0 h
  unfold stK at hz
  split at hz<;>first | (cases hz;done) | skip
  rename_i i off
  cases hb:Nat.beq (zF3 v).length n&&(zF3 v).all scal with
  | false=>rw [hb] at hz;cases hz
  | true =>
   rw [hb,cond_true] at hz
   simp only [Bool.and_eq_true] at hb
   obtain⟨B,cs,hB,hl,h3⟩:=xS1 hz
   exact⟨_,_,h3,xA9 ho hn hB hl (beqN.1 hb.1) hb.2⟩
 | makeSlice t l c =>
  rw [ho] at hc
  simp only [zC9] at hc
  split at hc<;>first | (cases hc;done) | skip
  rename_i e ht
  split at hc<;>first | (cases hc;done) | skip
  rename_i i zs hi hz
  obtain⟨⟨h1,h2⟩,hc⟩:=zG2 hc
  cases hc
  simp only [kdK] at h
  obtain⟨p,q,rfl,hw⟩:=zJ0 h
  unfold mksK at hw
  split at hw<;>first | (cases hw;done) | skip
  rename_i nl nc hl hcc
  cases hb:Nat.ble nl nc&&Nat.blt i.bytes 4096&&Nat.beq zs.length i.size with
  | false=>rw [hb] at hw;cases hw
  | true =>
   rw [hb,cond_true,zD2,zE8] at hw
   simp only [Bool.and_eq_true,blt_iff] at hb
   exact⟨_,_,hw,vN7 ho ht hi hz h1 hl hcc (Nat.le_of_ble_eq_true hb.1.1) hb.1.2⟩
 | convert sr ds x =>
  rw [ho] at hc
  simp only [zC9] at hc
  split at hc
  ·cases hc;exact pure' h
  ·cases hc;exact pure' h
  ·rename_i e hs hd
   split at hc<;>first | (cases hc;done) | skip
   rename_i he
   cases hc
   simp only [kdK] at h
   obtain⟨v,rfl,hz⟩:=zK3 h
   exact vN8 ho hs hd he hz
  ·rename_i e hs hd
   split at hc<;>first | (cases hc;done) | skip
   rename_i he
   cases hc
   simp only [kdK] at h
   obtain⟨v,rfl,hz⟩:=zK3 h
   exact vN9 ho hs he hd hz
  ·cases hc
 | call c =>
  rw [ho] at hc
  have hc0:zI3 P c=some (kd,ops):=hc
  unfold zI3 at hc0
  split at hc0
  ·rename_i f hcal
   cases hc0
   simp only [kdK,zD2] at h
   obtain⟨r,m',hr,hk⟩:=yO2 h
   refine⟨r,m',hk,yB3 hcl hr fun ρ w T N a hv _=>⟨_,hv,?_⟩⟩
   rw [xC5 ho hcal (f:=f) (first:=#[]) (cap:=#[]) rfl]
   congr 2
   apply Array.ext'
   simp
  ·rename_i t hcal
   cases hc0
   simp only [kdK] at h
   split at h<;>first | (cases h;done) | skip
   rename_i f cs xs
   rw [zD2] at h
   obtain⟨r,m',hr,hk⟩:=yO2 h
   refine⟨r,m',hk,yB3 hcl hr fun ρ w T N a hv _=>?_⟩
   obtain⟨X,XS,e,g1,g2⟩:=hv.cons_inv
   simp only [List.map_cons,List.cons.injEq] at e
   obtain⟨e1,rfl⟩:=e
   cases g1 with
   | fn hl hcs =>
    rename_i ys
    refine⟨c.args.toList.map a.eval++ys.toList,g2.append ⟨by simpa using hl,fun j x y hx hy=>hcs j x y hx (by simpa using hy)⟩,?_⟩
    rw [xC5 ho hcal e1]
    congr 2
    apply Array.ext'
    simp
  ·rename_i x name hcal
   cases hc0
   simp only [kdK] at h
   split at h<;>first | (cases h;done) | skip
   rename_i t v xs
   split at h<;>first | (cases h;done) | skip
   rename_i f hf
   rw [zD2] at h
   obtain⟨r,m',hr,hk⟩:=yO2 h
   have hmem:=vZ3 hf
   simp only [List.mem_filterMap,List.mem_range] at hmem
   obtain⟨t',_,ht'⟩:=hmem
   split at ht'<;>first | (cases ht';done) | skip
   rename_i i hi
   split at ht'<;>first | (cases ht';done) | skip
   rename_i mt hmt
   split at ht'<;>first | (cases ht';done) | skip
   rename_i f' pr hp hf'
   obtain⟨hpr,hpair⟩:=zG2 ht'
   cases hpair
   simp only [Bool.and_eq_true,beq_iff_eq] at hpr
   exact⟨r,m',hk,uL1 hcl ho hcal ⟨i,mt,pr,hi,hmt,hp,hf',hpr.1,Option.isSome_iff_exists.1 hpr.2⟩ hr⟩
  ·rename_i b hcal
   split at hc0<;>first | (cases hc0;done) | skip
   rename_i t hat
   split at hc0
   ·split at hc0<;>first | (cases hc0;done) | skip
    all_goals (cases hc0;exact pure' h)
   ·split at hc0<;>first | (cases hc0;done) | skip
    cases hc0;exact pure' h
   ·split at hc0<;>first | (cases hc0;done) | skip
    rename_i t1 tx hty
    split at hc0<;>first | (cases hc0;done) | skip
    rename_i e ht
    split at hc0<;>first | (cases hc0;done) | skip
    ·rename_i i zs _ hi hz hu
     obtain⟨⟨h1,h2⟩,hc0⟩:=zG2 hc0
     cases hc0
     simp only [kdK] at h
     obtain⟨p,q,rfl,hw⟩:=zJ0 h
     exact wK0 ho hcal hty ht hi hz h1 h2 (.inl ⟨_,hu⟩) hw
    ·rename_i i zs hi hz hu
     obtain⟨⟨h1,h2⟩,hc0⟩:=zG2 hc0
     cases hc0
     simp only [kdK] at h
     obtain⟨p,q,rfl,hw⟩:=zJ0 h
     exact wK0 ho hcal hty ht hi hz h1 h2 (.inr hu) hw
   ·split at hc0<;>first | (cases hc0;done) | skip
    rename_i e ht
    split at hc0<;>first | (cases hc0;done) | skip
    rename_i n hn
    cases hc0
    simp only [kdK] at h
    obtain⟨p,q,rfl,hw⟩:=zJ0 h
    exact uL2 ho hcal hat ht hn hw
   ·split at hc0<;>first | (cases hc0;done) | skip
    rename_i e ht
    split at hc0<;>first | (cases hc0;done) | skip
    rename_i zs hz
    cases hc0
    simp only [kdK] at h
    obtain⟨p,rfl,hw⟩:=zK3 h
    exact uL4 ho hcal hat ht hz hw
   ·cases hc0;exact pure' h
   ·cases hc0;exact pure' h
   ·cases hc0
  ·cases hc0
 | move x=>rw [ho] at hc;cases hc;exact pure' h
 | assign x=>rw [ho] at hc;cases hc;exact pure' h
 | pick c x y=>rw [ho] at hc;cases hc;exact pure' h
 | nilCheck x=>rw [ho] at hc;cases hc;exact pure' h
 | unOp op t x=>rw [ho] at hc;cases hc;exact pure' h
 | extract x i=>rw [ho] at hc;cases hc;exact pure' h
 | build t ps =>
  rw [ho] at hc
  simp only [zC9] at hc
  split at hc
  ·split at hc<;>first | (cases hc;done) | skip
   split at hc<;>first | (cases hc;done) | skip
   cases hc;exact pure' h
  ·split at hc<;>first | (cases hc;done) | skip
   cases hc;exact pure' h
  ·cases hc
 | binOp op xt x y yt =>
  rw [ho] at hc
  have hc0:zN6 P op xt x y=some (kd,ops):=hc
  unfold zN6 at hc0
  split at hc0
  ·cases hc0;exact pure' h
  ·cases hc0;exact pure' h
  ·split at hc0<;>first | (cases hc0;done) | skip
   split at hc0
   ·cases hc0;exact pure' h
   ·cases hc0;exact pure' h
   ·cases hc0;exact pure' h
   ·cases hc0;exact pure' h
   ·obtain⟨_,hc0⟩:=zG2 hc0;cases hc0;exact pure' h
   ·split at hc0<;>first | (cases hc0;done) | skip
    split at hc0<;>first | (cases hc0;done) | skip
    cases hc0;exact pure' h
   ·cases hc0
  ·cases hc0
 | makeInterface t x =>
  rw [ho] at hc
  simp only [zC9] at hc
  split at hc<;>first | (cases hc;done) | skip
  cases hc;exact pure' h
 | makeFunc fn first cap =>
  rw [ho] at hc
  simp only [zC9] at hc
  split at hc<;>first | (cases hc;done) | skip
  obtain⟨_,hc⟩:=zG2 hc
  cases hc;exact pure' h
 | slice t x lo hi mx =>
  rw [ho] at hc
  simp only [zC9] at hc
  split at hc<;>first | (cases hc;done) | skip
  split at hc
  ·split at hc<;>first | (cases hc;done) | skip
   cases hc;exact pure' h
  ·cases hc;exact pure' h
  ·cases hc
 | fieldAddr t x j =>
  rw [ho] at hc
  simp only [zC9] at hc
  split at hc<;>first | (cases hc;done) | skip
  split at hc<;>first | (cases hc;done) | skip
  split at hc<;>first | (cases hc;done) | skip
  split at hc<;>first | (cases hc;done) | skip
  cases hc;exact pure' h
 | field t x j =>
  rw [ho] at hc
  simp only [zC9] at hc
  split at hc<;>first | (cases hc;done) | skip
  split at hc<;>first | (cases hc;done) | skip
  split at hc<;>first | (cases hc;done) | skip
  split at hc
  ·split at hc<;>first | (cases hc;done) | skip
   cases hc;exact pure' h
  ·cases hc;exact pure' h
 | indexAddr t x i =>
  rw [ho] at hc
  simp only [zC9] at hc
  split at hc<;>first | (cases hc;done) | skip
  all_goals
   split at hc<;>first | (cases hc;done) | skip
   cases hc;exact pure' h
 | index t x i =>
  rw [ho] at hc
  simp only [zC9] at hc
  split at hc<;>first | (cases hc;done) | skip
  ·split at hc<;>first | (cases hc;done) | skip
   split at hc
   ·cases hc;exact pure' h
   ·obtain⟨_,hc⟩:=zG2 hc
    cases hc;exact pure' h
  ·cases hc;exact pure' h
 | typeAssert x xt t ok =>
  rw [ho] at hc
  simp only [zC9] at hc
  split at hc<;>first | (cases hc;done) | skip
  cases hc;exact pure' h
 | _=>rw [ho] at hc;cases hc
end
structure AOper where
 dst:Option Path
 k:Kd
 args:List Opd
 guard:Option (Path × Bool)
 bef:Nat
 deriving Inhabited
def opdK {β:Type} (x:Opd) (tm:T AV) (k:AV->Option β):Option β :=
 match x with
 | .c v=>k v
 | .t p=>match tm.get p with
  | some v=>k v
  | none=>none
def yR6 {β:Type}:List Opd->T AV->(List AV->Option β)->Option β
 | [],_,k=>k []
 | x::xs,tm,k=>opdK x tm fun v=>yR6 xs tm fun vs=>k (v::vs)
def xV0 {β:Type} (dst:Option Path) (v:AV) (tm:T AV) (k:T AV->Option β):Option β :=
 match dst with
 | none=>k tm
 | some p=>xP4 v fun v=>tm.setK p v k
def setO (dst:Option Path) (v:AV) (tm:T AV):T AV :=
 match dst with
 | none=>tm
 | some p=>tm.set p v
theorem wF5 {β:Type} (dst:Option Path) (v:AV) (tm:T AV) (k:T AV->Option β):xV0 dst v tm k=k (setO dst v tm):=by
 cases dst<;>simp [xV0,setO,xP3,T.setK_eq]
def yI1 (g:Option (Path × Bool)) (tm:T AV):Option Bool :=
 match g with
 | none=>some true
 | some (p,want)=>match tm.get p with
  | some (.bool b)=>some (bif want then b else !b)
  | some _=>some false
  | none=>none
def opK {β:Type} (cl:Cl) (o:AOper) (tm:T AV) (m:Mem) (k:T AV->Mem->Option β):Option β :=
 match yI1 o.guard tm with
 | some true=>yR6 o.args tm fun xs=>kdK cl o.k xs m fun v m=>xV0 o.dst v tm fun tm=>k tm m
 | some false=>xV0 o.dst (.tup []) tm fun tm=>k tm m
 | none=>none
def zX1 (o:AOper):List Path :=
 (o.args.filterMap fun | .t p=>some p | .c _=>none)++(match o.guard with | some (p,_)=>[p] | none=>[])
structure CompO (P:Program) (n:Nat) (ops:Array Oper) (o:Oper) (ao:AOper):Prop where
 dst:(o.dst=none/\ao.dst=none)∨∃ d,o.dst=some d/\ao.dst=some (pth d)/\d < n
 kd:ao.k=.bad∨∃ xs,zC9 P o.op=some (ao.k,xs)/\mapO opd xs=some ao.args
 guard:(o.guard=none/\ao.guard=none)∨∃ j want d,o.guard=some (j,want)/\(ops[j]?).bind (·.dst)=some d/\ao.guard=some (pth d,want)
def yP2 (P:Program) (ops:Array Oper) (o:Oper) (ao:AOper) (tm:T AV) (m:Mem) (r:AV) (m':Mem):Prop :=
 AS m m'/\∀ (ρ:Ren) (w:World) (T N:Nat) (a:Act) (next:Act->World->Prop) (Q:Exit->Act->World->Prop),
  (∀ i,m'.tch.testBit i=true->T.testBit i=true)->m'.nx<=N->(∀ t x,pth t∈zX1 ao->tm.get (pth t)=some x->∃ y,a.tmps[t]?=some y/\VR ρ x y)->MI ρ w m T N ->
  (∀ ρ' w' v,VR ρ' r v->MI ρ' w' m' T N->CS ρ ρ' w w' m m'->next (a.put o.dst v) w') ->
  if Region.wanted o (yielded ops a.tmps)=true then o.wp P a w next Q else next (a.put o.dst undef) w
section
variable {P:Program} {n:Nat} {ops:Array Oper} {o:Oper} {ao:AOper} {tm:T AV} {m:Mem} {cl:Cl}
theorem yO8 {β:Type} {xs:List Opd} {k:List AV->Option β} {res:β} (h:yR6 xs tm k=some res) :
  ∃ vs,k vs=some res/\xs.length=vs.length/\∀ (j:Nat) (x:Opd) (v:AV),xs[j]?=some x->vs[j]?=some v->x=.c v∨∃ p,x=.t p/\tm.get p=some v:=by
 induction xs generalizing k with
 | nil=>exact⟨[],h,rfl,fun j x v hx=>by simp at hx⟩
 | cons x xs ih =>
  have rest:∀ v,yR6 xs tm (fun vs=>k (v::vs))=some res->(x=.c v∨∃ p,x=.t p/\tm.get p=some v) ->
    ∃ vs,k vs=some res/\(x::xs).length=vs.length/\∀ (j:Nat) (y:Opd) (v:AV),(x::xs)[j]?=some y->vs[j]?=some v->y=.c v∨∃ p,y=.t p/\tm.get p=some v:=by
   intro v h hx
   obtain⟨vs,h1,h2,h3⟩:=ih h
   refine⟨v::vs,h1,by simp [h2],fun j y u hy hu=>?_⟩
   cases j with
   | zero=>simp at hy hu;subst hy;subst hu;exact hx
   | succ j=>exact h3 j y u (by simpa using hy) (by simpa using hu)
  simp only [yR6,opdK] at h
  split at h
  ·exact rest _ h (.inl rfl)
  ·rename_i p
   split at h
   ·rename_i v hv
    exact rest v h (.inr ⟨p,rfl,hv⟩)
   ·cases h
theorem uM1 {a:Act} {t:Nat} {y:Value} (h:a.tmps[t]?=some y):a.eval (.tmp t)=y:=by
 simp [Act.eval,h]
theorem yH8 {ρ:Ren} {a:Act} {xs:List Operand} {ys:List Opd} {vs:List AV} (hm:mapO opd xs=some ys) (hl:ys.length=vs.length) (hv:∀ (j:Nat) (x:Opd) (v:AV),ys[j]?=some x->vs[j]?=some v->x=.c v∨∃ p,x=.t p/\tm.get p=some v)
  (ht:∀ t x,Opd.t (pth t)∈ys->tm.get (pth t)=some x->∃ y,a.tmps[t]?=some y/\VR ρ x y):VRs ρ vs (xs.map a.eval):=by
 obtain⟨h1,h2⟩:=yH2 hm
 refine⟨by simp [<- hl,h1],fun j v y hvj hyj=>?_⟩
 simp only [List.getElem?_map,Option.map_eq_some_iff] at hyj
 obtain⟨x,hx,rfl⟩:=hyj
 have hj:j < ys.length:=by rw [hl];exact (List.getElem?_eq_some_iff.1 hvj).1
 have hyj:ys[j]?=some ys[j]:=List.getElem?_eq_getElem hj
 have ho:=h2 j x _ hx hyj
 rcases hv j _ v hyj hvj with hc | ⟨p,hp,hget⟩
 ·rw [hc] at ho
  cases x with
  | tmp t=>simp [opd] at ho
  | const u =>
   simp only [opd] at ho
   split at ho
   ·rename_i z hz
    cases ho
    exact wG7 hz
   ·cases ho
  | global g=>simp [opd] at ho
  | func f =>
   simp only [opd,Option.some.injEq,Opd.c.injEq] at ho
   subst ho
   exact .fn rfl fun j x y hx=>by simp at hx
 ·rw [hp] at ho hyj
  cases x with
  | tmp t =>
   simp only [opd,Option.some.injEq,Opd.t.injEq] at ho
   subst ho
   obtain⟨y,h5,h6⟩:=ht t v (List.mem_of_getElem? hyj) hget
   rw [uM1 h5]
   exact h6
  | const u =>
   simp only [opd] at ho
   split at ho<;>cases ho
  | global g=>simp [opd] at ho
  | func f=>simp [opd] at ho
theorem wG4 {β:Type} {k:T AV->Mem->Option β} {res:β} (hcl:zF6 P cl) (hc:CompO P n ops o ao) (h:opK cl ao tm m k=some res) :
  ∃ r m',k (setO ao.dst r tm) m'=some res/\yP2 P ops o ao tm m r m':=by
 have guardOk:∀ {b:Bool},yI1 ao.guard tm=some b->∀ {ρ:Ren} {a:Act},(∀ t x,pth t∈zX1 ao->tm.get (pth t)=some x->∃ y,a.tmps[t]?=some y/\VR ρ x y)->Region.wanted o (yielded ops a.tmps)=b:=by
  intro b hb ρ a ht
  unfold Region.wanted
  rcases hc.guard with⟨h1,h2⟩ | ⟨j,want,d,h1,h2,h3⟩
  ·rw [h2] at hb
   cases hb
   rw [h1]
  ·rw [h3] at hb
   simp only [yI1] at hb
   rw [h1]
   simp only [yielded,h2,Option.bind_some]
   cases hg:tm.get (pth d) with
   | none=>rw [hg] at hb;cases hb
   | some x =>
    rw [hg] at hb
    obtain⟨y,hy1,hy2⟩:=ht d x (by simp [zX1,h3]) hg
    rw [hy1]
    cases hy2<;>first | (cases hb;rfl) | skip
    rename_i c
    cases hb
    cases c<;>cases want<;>rfl
 unfold opK at h
 split at h
 ·rename_i hw
  obtain⟨vs,hk,hl,hv⟩:=yO8 h
  rcases hc.kd with hbad | ⟨xs,hkd,hargs⟩
  ·rw [hbad] at hk;simp [kdK,zK2] at hk
  obtain⟨r,m',hk2,ha,hg⟩:=zQ5 hcl hkd hk
  rw [wF5] at hk2
  refine⟨r,m',hk2,ha,fun ρ w T N a next Q hT hN ht hm hn=>?_⟩
  rw [if_pos (guardOk hw ht)]
  refine hg ρ w T N a next Q hT hN (yH8 hargs hl hv fun t x hx hget=>ht t x ?_ hget) hm hn
  simp only [zX1,List.mem_append,List.mem_filterMap]
  exact .inl ⟨_,hx,rfl⟩
 ·rename_i hw
  rw [wF5] at h
  refine⟨_,m,h,AS.refl m,fun ρ w T N a next Q hT hN ht hm hn=>?_⟩
  rw [if_neg (by rw [guardOk hw ht];simp)]
  exact hn ρ w undef VRs.nil.tup hm (CS.refl ρ w m)
 ·cases h
def TR (ρ:Ren) (tm:T AV) (a:Act) (n:Nat):Prop:=a.tmps.size=n/\∀ t x,tm.get (pth t)=some x->∃ y,a.tmps[t]?=some y/\VR ρ x y
theorem wF3 (a:Act) (d:Option Tmp) (v:Value):(a.put d v).tmps.size=a.tmps.size:=by cases d<;>simp [Act.put]
theorem put_defers (a:Act) (d:Option Tmp) (v:Value):(a.put d v).defers=a.defers:=by cases d<;>rfl
theorem xK1 (a:Act) {d t:Tmp} (v:Value) (h:t≠d):(a.put (some d) v).tmps[t]?=a.tmps[t]?:=by
 simp only [Act.put]
 rw [Array.getElem?_setIfInBounds_ne (fun he=>h he.symm)]
theorem wF4 (a:Act) {d:Tmp} (v:Value) (h:d < a.tmps.size):(a.put (some d) v).tmps[d]?=some v:=by
 simp [Act.put,h]
theorem TR.put {ρ ρ':Ren} {a:Act} {r:AV} {v:Value} (h:TR ρ tm a n) (hr:ρ.le ρ') (hd:(o.dst=none/\ao.dst=none)∨∃ d,o.dst=some d/\ao.dst=some (pth d)/\d < n) (hv:VR ρ' r v):TR ρ' (setO ao.dst r tm) (a.put o.dst v) n:=by
 refine⟨by rw [wF3];exact h.1,fun t x hx=>?_⟩
 rcases hd with⟨h1,h2⟩ | ⟨d,h1,h2,h3⟩
 ·rw [h2] at hx
  obtain⟨y,h4,h5⟩:=h.2 t x hx
  exact⟨y,by rw [h1];exact h4,h5.mono hr⟩
 ·rw [h2] at hx
  simp only [setO,T.get_set,yK0] at hx
  split at hx
  ·rename_i he
   subst he
   cases hx
   exact⟨v,by rw [h1];exact wF4 a v (by rw [h.1];exact h3),hv⟩
  ·rename_i he
   obtain⟨y,h4,h5⟩:=h.2 t x hx
   exact⟨y,by rw [h1,xK1 a v he];exact h4,h5.mono hr⟩
def opsK {β:Type} (cl:Cl):List AOper->T AV->Mem->(T AV->Mem->Option β)->Option β
 | [],tm,m,k=>k tm m
 | o::os,tm,m,k=>opK cl o tm m fun tm m=>opsK cl os tm m k
def wX2 (n:Nat) (tm:T AV) (m:Mem) (tm':T AV) (m':Mem) (W:Act->World->(Act->World->Prop)->Prop):Prop :=
 AS m m'/\∀ (ρ:Ren) (w:World) (T N:Nat) (a:Act) (K:Act->World->Prop),(∀ i,m'.tch.testBit i=true->T.testBit i=true)->m'.nx<=N->TR ρ tm a n->MI ρ w m T N ->
  (∀ ρ' a' w',TR ρ' tm' a' n->a'.defers=a.defers->MI ρ' w' m' T N->CS ρ ρ' w w' m m'->K a' w')->W a w K
theorem xL0 (hcl:zF6 P cl):∀ (aos:List AOper) (s:Nat) (tm:T AV) (m:Mem) {β:Type} (k:T AV->Mem->Option β) (res:β),
  (∀ j ao,aos[j]?=some ao->∃ o,ops[s+j]?=some o/\CompO P n ops o ao)->opsK cl aos tm m k=some res ->
  ∃ tm' m',k tm' m'=some res/\∀ Q0:Exit->Act->World->Prop,wX2 n tm m tm' m' fun a w K=>wpOps P ops (Exit.then K Q0) (List.range' s aos.length) a w
 | [],s,tm,m,β,k,res,_,h=>⟨tm,m,h,fun Q0=>⟨AS.refl m,fun ρ w T N a K _ _ ht hm hK=>hK ρ a w ht rfl hm (CS.refl ρ w m)⟩⟩
 | ao::aos,s,tm,m,β,k,res,hc,h=>by
  obtain⟨o,ho,hco⟩:=hc 0 ao rfl
  obtain⟨r,m1,hk,ha,hg⟩:=wG4 hcl hco h
  obtain⟨tm',m',hk',hQ⟩:=xL0 hcl aos (s+1) _ m1 k res (fun j a hj=>by
   obtain⟨o',h1,h2⟩:=hc (j+1) a (by simpa using hj)
   exact⟨o',by rw [<- h1];congr 1;omega,h2⟩) hk
  refine⟨tm',m',hk',fun Q0=>?_⟩
  obtain⟨ha',hr'⟩:=hQ Q0
  refine⟨ha.trans ha',fun ρ w T N a K hT hN ht hm hK=>?_⟩
  simp only [List.length_cons,List.range'_succ,wpOps_cons,wpOp]
  rw [Nat.add_zero] at ho
  simp only [ho]
  have:=hg ρ w T N a (wpOps P ops (Exit.then K Q0) (List.range' (s+1) aos.length)) (Exit.then K Q0) (fun i hi=>hT i (ha'.tch i hi)) (Nat.le_trans ha'.nx hN) (fun t x _ hx=>ht.2 t x hx) hm
   (fun ρ1 w1 v hv hm1 hc1=>hr' ρ1 w1 T N _ K hT hN (TR.put (n:=n) ht hc1.ext hco.dst hv) hm1 fun ρ2 a2 w2 ht2 hd2 hm2 hc2 =>
    hK ρ2 a2 w2 ht2 (by rw [hd2,put_defers]) hm2 (hc1.trans hc2 ha ha' hm.wf))
  split at this
  ·rename_i hw
   rw [if_pos hw]
   exact .inl this
  ·rename_i hw
   rw [if_neg hw]
   exact this
end
def yZ1 (bef t w:Nat):List (Nat × Nat × Nat)->Bool
 | []=>true
 | (j,tj,wj)::l=>(bef.testBit j || (Nat.beq (Nat.land wj t) 0&&Nat.beq (Nat.land w tj) 0))&&yZ1 bef t w l
def xQ4 {β:Type} (cl:Cl):List AOper->Nat->List (Nat × Nat × Nat)->T AV->Mem->(T AV->Mem->Option β)->Option β
 | [],_,_,tm,m,k=>k tm m
 | o::os,i,acc,tm,m,k =>
  match m with
  | ⟨h,nx,t,w⟩=>opK cl o tm ⟨h,nx,0,0⟩ fun tm m' =>
   match m' with
   | ⟨h',nx',t',w'⟩=>bif yZ1 o.bef t' w' acc then zD4 (Nat.lor t t') fun t2=>zD4 (Nat.lor w w') fun w2 =>
     xQ4 cl os (Nat.succ i) (bif Nat.beq t' 0 then acc else (i,t',w')::acc) tm ⟨h',nx',t2,w2⟩ k
    else none
def yD9 (o:AOper):List Path:=zX1 o++o.dst.toList
def uT6 (x y:AOper):Bool :=
 (match x.dst with | some d=>!(yD9 y).contains d | none=>true)&&(match y.dst with | some d=>!(yD9 x).contains d | none=>true)
structure DR (P:Program) (n n0:Nat) (ops:Array Oper) (ao:Nat->AOper) (tmS:Nat->T AV) (mS mE:Nat->Mem) (rS:Nat->AV):Prop where
 sz:ops.size=n0
 op:∀ p,p < n0->∃ o,ops[p]?=some o/\CompO P n ops o (ao p)/\yP2 P ops o (ao p) (tmS p) (mS p) (rS p) (mE p) /\
  (∀ e∈o.after,Region.binds .any e=true->e.on < p)/\(∀ i,(ao p).bef.testBit i=true->∃ e∈o.after,Region.binds .any e=true/\(i=e.on∨(ao e.on).bef.testBit i=true))
 tm:∀ p,p < n0->tmS (p+1)=setO (ao p).dst (rS p) (tmS p)
 mh:∀ p,p < n0->(mS (p+1)).h=(mE p).h
 mn:∀ p,p < n0->(mS (p+1)).nx=(mE p).nx
 m0:∀ p,(mS p).tch=0/\(mS p).wr=0
 conf:∀ i p,i < p->p < n0->(ao p).bef.testBit i=false->∀ x,((mE i).wr.testBit x=true->(mE p).tch.testBit x=false)/\((mE p).wr.testBit x=true->(mE i).tch.testBit x=false)
 stat:∀ i p,i < p->p < n0->(ao p).bef.testBit i=false->(∀ d,(ao i).dst=some d->d ∉ yD9 (ao p))/\(∀ d,(ao p).dst=some d->d ∉ yD9 (ao i))
section
variable {P:Program} {n n0:Nat} {ops:Array Oper} {ao:Nat->AOper} {tmS:Nat->T AV} {mS mE:Nat->Mem} {rS:Nat->AV}
theorem DR.as (h:DR P n n0 ops ao tmS mS mE rS) {p:Nat} (hp:p < n0):AS (mS p) (mE p):=by
 obtain⟨o,_,_,hg,_⟩:=h.op p hp
 exact hg.1
theorem DR.at_succ (h:DR P n n0 ops ao tmS mS mE rS) {p:Nat} (hp:p < n0) (i:Nat):(mS (p+1)).at i=(mE p).at i:=by
 unfold Mem.at
 rw [h.mh p hp]
theorem DR.nx_le (h:DR P n n0 ops ao tmS mS mE rS) {j l:Nat} (hj:j<=l) (hl:l<=n0):(mS j).nx<=(mS l).nx:=by
 induction l with
 | zero =>
    obtain rfl:j=0:=by omega
    exact Nat.le_refl _
 | succ l ih =>
  rcases Nat.lt_or_ge j (l+1) with h1 | h1
  ·refine Nat.le_trans (ih (by omega) (by omega)) ?_
   rw [h.mn l (by omega)]
   exact (h.as (by omega)).nx
  ·obtain rfl:j=l+1:=by omega
   exact Nat.le_refl _
theorem DR.wf (h:DR P n n0 ops ao tmS mS mE rS) (h0:∀ i,(mS 0).nx<=i->(mS 0).at i=none) {p:Nat} (hp:p<=n0):∀ i,(mS p).nx<=i->(mS p).at i=none:=by
 induction p with
 | zero=>exact h0
 | succ p ih =>
  intro i hi
  rw [h.at_succ (by omega)]
  rw [h.mn p (by omega)] at hi
  exact (h.as (by omega)).wf (ih (by omega)) i hi
theorem DR.wt (h:DR P n n0 ops ao tmS mS mE rS) {p:Nat} (hp:p < n0) {i:Nat} (hi:(mE p).wr.testBit i=true):(mE p).tch.testBit i=true :=
 (h.as hp).wt (fun i hi=>by rw [(h.m0 p).2] at hi;simp at hi) i hi
theorem DR.same (h:DR P n n0 ops ao tmS mS mE rS) (h0:∀ i,(mS 0).nx<=i->(mS 0).at i=none) {j l:Nat} (hj:j<=l) (hl:l<=n0) {i:Nat} (hw:∀ q,j<=q->q < l->(mE q).wr.testBit i=false):(mS l).at i=(mS j).at i:=by
 induction l with
 | zero =>
      obtain rfl:j=0:=by omega
      rfl
 | succ l ih =>
  rcases Nat.lt_or_ge j (l+1) with h1 | h1
  ·rw [<- ih (by omega) (by omega) fun q a b=>hw q a (by omega),h.at_succ (by omega)]
   have hwl:=hw l (by omega) (by omega)
   rcases Nat.lt_or_ge i (mS l).nx with h2 | h2
   ·exact (h.as (by omega)).keep i h2 hwl
   ·rw [h.wf h0 (by omega) i h2]
    rcases Nat.lt_or_ge i (mE l).nx with h3 | h3
    ·rw [(h.as (by omega)).new i h2 h3] at hwl;cases hwl
    ·exact (h.as (by omega)).wf (h.wf h0 (by omega)) i h3
  ·obtain rfl:j=l+1:=by omega
   rfl
theorem DR.live (h:DR P n n0 ops ao tmS mS mE rS) {j l:Nat} (hj:j<=l) (hl:l<=n0) {i:Nat} {B:Blk} (hi:i < (mS j).nx) (hB:(mS l).at i=some B):∃ B',(mS j).at i=some B':=by
 induction l generalizing B with
 | zero =>
    obtain rfl:j=0:=by omega
    exact⟨B,hB⟩
 | succ l ih =>
  rcases Nat.lt_or_ge j (l+1) with h1 | h1
  ·rw [h.at_succ (by omega)] at hB
   obtain⟨B',hB'⟩:=(h.as (by omega)).live i B (Nat.lt_of_lt_of_le hi (h.nx_le (by omega) (by omega))) hB
   exact ih (by omega) (by omega) hB'
  ·obtain rfl:j=l+1:=by omega
   exact⟨B,hB⟩
theorem DR.slots (h:DR P n n0 ops ao tmS mS mE rS) {j l:Nat} (hj:j<=l) (hl:l<=n0) {t:Path} (hw:∀ q,j<=q->q < l->(ao q).dst≠some t):(tmS l).get t=(tmS j).get t:=by
 induction l with
 | zero =>
     obtain rfl:j=0:=by omega
     rfl
 | succ l ih =>
  rcases Nat.lt_or_ge j (l+1) with h1 | h1
  ·rw [<- ih (by omega) (by omega) fun q a b=>hw q a (by omega),h.tm l (by omega)]
   have:=hw l (by omega) (by omega)
   cases hd:(ao l).dst with
   | none=>rfl
   | some d =>
    simp only [setO,T.get_set]
    rw [if_neg]
    intro he
    subst he
    exact this hd
  ·obtain rfl:j=l+1:=by omega
   rfl
def Dn (L:Array Bool) (p:Nat):Prop:=L.getD p false=true
def VT (ao:Nat->AOper) (n0:Nat) (L:Array Bool) (t:Path) (j:Nat):Prop:=(∀ q,q < j->(ao q).dst=some t->Dn L q)/\∀ q,j<=q->q < n0->(ao q).dst=some t->¬ Dn L q
def VM (mE:Nat->Mem) (n0:Nat) (L:Array Bool) (i:Nat) (j:Nat):Prop:=(∀ q,q < j->(mE q).wr.testBit i=true->Dn L q)/\∀ q,j<=q->q < n0->(mE q).wr.testBit i=true->¬ Dn L q
structure Inv (n n0 T N:Nat) (ao:Nat->AOper) (tmS:Nat->Ev.T AV) (mS mE:Nat->Mem) (ρ0:Ren) (w0:World) (a0:Act) (L:Array Bool) (ρ:Ren) (w:World) (a:Act):Prop where
 lsz:L.size=n0
 closed:∀ p i,p < n0->Dn L p->(ao p).bef.testBit i=true->Dn L i
 asz:a.tmps.size=n
 defs:a.defers=a0.defers
 tm:∀ t j x,j<=n0->VT ao n0 L (pth t) j->(tmS j).get (pth t)=some x->∃ y,a.tmps[t]?=some y/\VR ρ x y
 mem:∀ i j B,j<=n0->T.testBit i=true->VM mE n0 L i j->(mS j).at i=some B->MR ρ w.heap i B
 inj:∀ i k j l B C,j<=n0->l<=n0->T.testBit i=true->T.testBit k=true->VM mE n0 L i j->VM mE n0 L k l->(mS j).at i=some B->(mS l).at k=some C->i≠k->ρ.blk i≠ρ.blk k
 fresh:∀ i,(mS 0).nx<=i->i < N->(∀ q,q < n0->(mS q).nx<=i->i < (mE q).nx->¬ Dn L q)->ρ i=none
 ext:ρ0.le ρ
 dom:∀ i x,ρ i=some x->ρ0 i=some x∨((mS 0).nx<=i/\i < (mS n0).nx)
 size:w0.heap.size<=w.heap.size
 frame:∀ b,b < w0.heap.size->(∀ k B,(mS 0).at k=some B->(∃ q,q < n0/\Dn L q/\(mE q).wr.testBit k=true)->ρ0.blk k≠some b)->w.heap[b]?=w0.heap[b]?
 newb:∀ i b,(mS 0).nx<=i->i < (mS n0).nx->ρ.blk i=some b->w0.heap.size<=b∨∃ k B,(mS 0).at k=some B/\(∃ q,q < n0/\Dn L q/\(mE q).wr.testBit k=true)/\ρ0.blk k=some b
 outer:Out w0 w
 ice:∀ b c,ρ.ice b=some c->∃ e fz,w.heap[b]?=some (.cells c e fz)
 dis:∀ i j B b,j<=n0->T.testBit i=true->VM mE n0 L i j->(mS j).at i=some B->ρ.blk i=some b->ρ.ice b=none
 nice:∀ b c,ρ.ice b=some c->ρ0.ice b=some c∨w0.heap.size<=b
theorem vQ1 {L:Array Bool} {p q:Nat} (hp:p < L.size):Dn (L.setIfInBounds p true) q↔q=p∨Dn L q:=by
 unfold Dn
 by_cases h:q=p
 ·subst h
  simp [hp]
 ·simp [Array.getElem?_setIfInBounds_ne (fun he=>h he.symm),h]
variable {T N:Nat} {ρ0 ρ:Ren} {w0 w:World} {a0 a:Act} {L:Array Bool}
theorem uK5 (h:DR P n n0 ops ao tmS mS mE rS) (h0:∀ i,(mS 0).nx<=i->(mS 0).at i=none) (hT:∀ p,p < n0->∀ i,(mE p).tch.testBit i=true->T.testBit i=true) (hN:(mS n0).nx<=N)
  (hI:Inv n n0 T N ao tmS mS mE ρ0 w0 a0 L ρ w a) {p:Nat} (hp:p < n0) (hnp:¬ Dn L p) {o:Oper} (ho:ops[p]?=some o) (hen:∀ e∈o.after,Region.binds .any e=true->Dn L e.on)
  (K:Act->World->Prop) (Q:Exit->Act->World->Prop) (hK:∀ ρ' a' w',Inv n n0 T N ao tmS mS mE ρ0 w0 a0 (L.setIfInBounds p true) ρ' w' a'->K a' w') :
  if Region.wanted o (yielded ops a.tmps)=true then o.wp P a w K Q else K (a.put o.dst undef) w:=by
 obtain⟨o',ho',hco,⟨hAS,hgood⟩,hed,hbef⟩:=h.op p hp
 rw [ho] at ho'
 cases ho'
 have hbd:∀ i,(ao p).bef.testBit i=true->Dn L i:=by
  intro i hi
  obtain⟨e,he,hb,h1⟩:=hbef i hi
  rcases h1 with rfl | h1
  ·exact hen e he hb
  ·exact hI.closed e.on i (Nat.lt_trans (hed e he hb) hp) (hen e he hb) h1
 have hslot:∀ q,q < n0->q≠p->∀ d,((ao q).dst=some d/\d∈yD9 (ao p))∨((ao p).dst=some d/\d∈yD9 (ao q))->(q < p->Dn L q)/\(p < q->¬ Dn L q):=by
  intro q hq hne d hd
  refine⟨fun hlt=>?_,fun hlt hD=>?_⟩
  ·cases hb:(ao p).bef.testBit q with
   | true=>exact hbd q hb
   | false =>
    obtain⟨s1,s2⟩:=h.stat q p hlt hp hb
    rcases hd with⟨d1,d2⟩ | ⟨d1,d2⟩
    ·exact absurd d2 (s1 d d1)
    ·exact absurd d2 (s2 d d1)
  ·cases hb:(ao q).bef.testBit p with
   | true=>exact hnp (hI.closed q p hq hD hb)
   | false =>
    obtain⟨s1,s2⟩:=h.stat p q hlt hq hb
    rcases hd with⟨d1,d2⟩ | ⟨d1,d2⟩
    ·exact absurd d2 (s2 d d1)
    ·exact absurd d2 (s1 d d1)
 have hmem:∀ q,q < n0->q≠p->∀ x,((mE q).wr.testBit x=true/\(mE p).tch.testBit x=true)∨((mE p).wr.testBit x=true/\(mE q).tch.testBit x=true)->(q < p->Dn L q)/\(p < q->¬ Dn L q):=by
  intro q hq hne x hx
  refine⟨fun hlt=>?_,fun hlt hD=>?_⟩
  ·cases hb:(ao p).bef.testBit q with
   | true=>exact hbd q hb
   | false =>
    obtain⟨s1,s2⟩:=h.conf q p hlt hp hb x
    rcases hx with⟨d1,d2⟩ | ⟨d1,d2⟩
    ·rw [s1 d1] at d2;cases d2
    ·rw [s2 d1] at d2;cases d2
  ·cases hb:(ao q).bef.testBit p with
   | true=>exact hnp (hI.closed q p hq hD hb)
   | false =>
    obtain⟨s1,s2⟩:=h.conf p q hlt hq hb x
    rcases hx with⟨d1,d2⟩ | ⟨d1,d2⟩
    ·rw [s2 d1] at d2;cases d2
    ·rw [s1 d1] at d2;cases d2
 have hvt:∀ t,t∈zX1 (ao p)->VT ao n0 L t p:=fun t ht =>
  ⟨fun q hq hd=>(hslot q (by omega) (by omega) t (.inl ⟨hd,List.mem_append_left _ ht⟩)).1 hq,fun q hq hq0 hd hD=>by
   rcases Nat.eq_or_lt_of_le hq with rfl | hlt
   ·exact hnp hD
   ·exact (hslot q hq0 (by omega) t (.inl ⟨hd,List.mem_append_left _ ht⟩)).2 hlt hD⟩
 have hvm:∀ x,(mE p).tch.testBit x=true->VM mE n0 L x p:=fun x hx =>
  ⟨fun q hq hd=>(hmem q (by omega) (by omega) x (.inl ⟨hd,hx⟩)).1 hq,fun q hq hq0 hd hD=>by
   rcases Nat.eq_or_lt_of_le hq with rfl | hlt
   ·exact hnp hD
   ·exact (hmem q hq0 (by omega) x (.inl ⟨hd,hx⟩)).2 hlt hD⟩
 have hwtp:∀ x,(mE p).wr.testBit x=true->(mE p).tch.testBit x=true:=fun x hx=>h.wt hp hx
 have hwfp:=h.wf h0 (Nat.le_of_lt hp)
 have hafter:∀ x,(mE p).wr.testBit x=true->∀ q,p < q->q < n0->(mE q).wr.testBit x=true->¬ Dn L q:=fun x hx q hq hq0 hw=>(hmem q hq0 (by omega) x (.inr ⟨hx,h.wt hq0 hw⟩)).2 hq
 have hMI:MI ρ w (mS p) (mE p).tch (mE p).nx:=by
  refine⟨fun i B hi hB=>hI.mem i p B (Nat.le_of_lt hp) (hT p hp i hi) (hvm i hi) hB,fun i j B C hi hj hB hC hne=>hI.inj i j p p B C (Nat.le_of_lt hp) (Nat.le_of_lt hp) (hT p hp i hi) (hT p hp j hj) (hvm i hi) (hvm j hj) hB hC hne,hwfp,fun i h1 h2=>?_,hI.ice,fun i B b hi hB hb=>hI.dis i p B b (Nat.le_of_lt hp) (hT p hp i hi) (hvm i hi) hB hb⟩
  refine hI.fresh i (Nat.le_trans (h.nx_le (Nat.zero_le _) (Nat.le_of_lt hp)) h1) ?_ fun q hq h3 h4 hD=>?_
  ·have:=h.nx_le (j:=p+1) (l:=n0) hp (Nat.le_refl _)
   rw [h.mn p hp] at this
   omega
  ·have:q=p:=by
    rcases Nat.lt_trichotomy q p with h5 | h5 | h5
    ·have:=h.nx_le (j:=q+1) (l:=p) h5 (Nat.le_of_lt hp)
     rw [h.mn q hq] at this
     omega
    ·exact h5
    ·have:=h.nx_le (j:=p+1) (l:=q) h5 (Nat.le_of_lt hq)
     rw [h.mn p hp] at this
     omega
   exact hnp (this ▸ hD)
 refine hgood ρ w (mE p).tch (mE p).nx a K Q (fun i hi=>hi) (Nat.le_refl _) (fun t x ht hx=>hI.tm t p x (Nat.le_of_lt hp) (hvt _ ht) hx) hMI ?_
 intro ρ' w' v hv hMI' hCS
 refine hK ρ' _ w' ?_
 have hdn:∀ q,Dn (L.setIfInBounds p true) q↔q=p∨Dn L q:=fun q=>vQ1 (by rw [hI.lsz];exact hp)
 have hmS:(mS (p+1)).nx=(mE p).nx:=h.mn p hp
 have hmoved:∀ x j,j<=n0->(mE p).wr.testBit x=true->VM mE n0 (L.setIfInBounds p true) x j->p < j/\(mS j).at x=(mE p).at x:=by
  intro x j hj hx hV
  have hpj:p < j:=by
   rcases Nat.lt_or_ge p j with h1 | h1
   ·exact h1
   ·exact absurd ((hdn p).2 (.inl rfl)) (hV.2 p h1 hp hx)
  refine⟨hpj,?_⟩
  rw [<- h.at_succ hp]
  refine h.same h0 hpj hj fun q h1 h2=>?_
  cases hw:(mE q).wr.testBit x with
  | false=>rfl
  | true =>
   exfalso
   rcases (hdn q).1 (hV.1 q h2 hw) with h3 | h3
   ·omega
   ·exact hafter x hx q (by omega) (by omega) hw h3
 have hstays:∀ x j,(mE p).wr.testBit x=false->VM mE n0 (L.setIfInBounds p true) x j->VM mE n0 L x j:=by
  intro x j hx hV
  refine⟨fun q hq hw=>?_,fun q h1 h2 hw hD=>hV.2 q h1 h2 hw ((hdn q).2 (.inr hD))⟩
  rcases (hdn q).1 (hV.1 q hq hw) with h3 | h3
  ·subst h3;rw [hx] at hw;cases hw
  ·exact h3
 have helse:∀ x j B,j<=n0->T.testBit x=true->(mE p).wr.testBit x=false->VM mE n0 L x j->(mS j).at x=some B->∀ b,ρ.blk x=some b->w'.heap[b]?=w.heap[b]?:=by
  intro x j B hj hx hw hV hB b hb
  have hlt:b < w.heap.size:=by
   obtain⟨b',h1,h2⟩:=(hI.mem x j B hj hx hV hB).blk
   rw [hb] at h1;cases h1;exact h2
  refine hCS.frame b hlt fun k C hk hC he=>?_
  have hne:k≠x:=fun h1=>by subst h1;rw [hw] at hk;cases hk
  exact hI.inj k x p j C B (Nat.le_of_lt hp) hj (hT p hp k (hwtp k hk)) hx (hvm k (hwtp k hk)) hV hC hB hne (by rw [he,hb])
 have hblk:∀ x,(∃ y,ρ x=some y)->ρ'.blk x=ρ.blk x:=by
  rintro x ⟨y,hy⟩
  simp [Ren.blk,hy,hCS.ext.1 x y hy]
 have hsome:∀ x j B,j<=n0->T.testBit x=true->VM mE n0 L x j->(mS j).at x=some B->∃ y,ρ x=some y:=by
  intro x j B hj hx hV hB
  obtain⟨b,sh,K',c,e,fz,h1,_⟩:=hI.mem x j B hj hx hV hB
  exact⟨_,h1⟩
 refine⟨by simp [hI.lsz],fun q i hq hD hb=>?_,by rw [wF3];exact hI.asz,by rw [put_defers];exact hI.defs,fun t j x hj hV hx=>?_,fun i j B hj hi hV hB=>?_,fun i k j l B C hj hl hi hk hV hW hB hC hne=>?_,fun i h1 h2 h3=>?_,Ren.le_trans hI.ext hCS.ext,fun i x hx=>?_,Nat.le_trans hI.size hCS.size,fun b hb hf=>?_,fun i b h1 h2 hb=>?_,hI.outer.trans hCS.outer,hMI'.ice,fun i j B b hj hi hV hB hb=>?_,fun b c hb=>?_⟩
 ·rw [hdn] at hD ⊢
  rcases hD with rfl | hD
  ·exact .inr (hbd i hb)
  ·exact .inr (hI.closed q i hq hD hb)
 ·
  rcases hco.dst with⟨d1,d2⟩ | ⟨d,d1,d2,d3⟩
  ·have hV':VT ao n0 L (pth t) j:=by
    refine⟨fun q hq hd=>?_,fun q g1 g2 hd hD=>hV.2 q g1 g2 hd ((hdn q).2 (.inr hD))⟩
    rcases (hdn q).1 (hV.1 q hq hd) with h3 | h3
    ·subst h3;rw [d2] at hd;cases hd
    ·exact h3
   obtain⟨y,g1,g2⟩:=hI.tm t j x hj hV' hx
   exact⟨y,by rw [d1];exact g1,g2.mono hCS.ext⟩
  ·by_cases htd:t=d
   ·subst htd
    have hpj:p < j:=by
     rcases Nat.lt_or_ge p j with g | g
     ·exact g
     ·exact absurd ((hdn p).2 (.inl rfl)) (hV.2 p g hp d2)
    have hs:(tmS j).get (pth t)=(tmS (p+1)).get (pth t):=h.slots hpj hj fun q g1 g2 hd=>by
     rcases (hdn q).1 (hV.1 q g2 hd) with h3 | h3
     ·omega
     ·exact (hslot q (by omega) (by omega) (pth t) (.inl ⟨hd,List.mem_append_right _ (by simp [d2])⟩)).2 (by omega) h3
    rw [hs,h.tm p hp,d2] at hx
    simp only [setO,Ev.T.get_set,if_true,Option.some.injEq] at hx
    subst hx
    exact⟨v,by rw [d1];exact wF4 a v (by rw [hI.asz];exact d3),hv⟩
   ·have hV':VT ao n0 L (pth t) j:=by
     refine⟨fun q hq hd=>?_,fun q g1 g2 hd hD=>hV.2 q g1 g2 hd ((hdn q).2 (.inr hD))⟩
     rcases (hdn q).1 (hV.1 q hq hd) with h3 | h3
     ·subst h3
      rw [d2] at hd
      exact absurd (zL9 (Option.some.inj hd)).symm htd
     ·exact h3
    obtain⟨y,g1,g2⟩:=hI.tm t j x hj hV' hx
    exact⟨y,by rw [d1,xK1 a v htd];exact g1,g2.mono hCS.ext⟩
 ·
  cases hw:(mE p).wr.testBit i with
  | true =>
   obtain⟨_,he⟩:=hmoved i j hj hw hV
   rw [he] at hB
   exact hMI'.mem i B (hwtp i hw) hB
  | false =>
   have hV':=hstays i j hw hV
   exact (hI.mem i j B hj hi hV' hB).move hCS.ext (helse i j B hj hi hw hV' hB)
 ·
  have mixed:∀ i k j l B C,j<=n0->l<=n0->T.testBit i=true->T.testBit k=true->VM mE n0 (L.setIfInBounds p true) i j->VM mE n0 L k l->(mS j).at i=some B->(mS l).at k=some C->i≠k ->
    (mE p).wr.testBit i=true->(mE p).wr.testBit k=false->ρ'.blk i≠ρ'.blk k:=by
   intro i k j l B C hj hl hi hk hV hW hB hC hne hwi hwk
   obtain⟨_,he⟩:=hmoved i j hj hwi hV
   rw [he] at hB
   rw [hblk k (hsome k l C hl hk hW hC)]
   obtain⟨bk,hbk,hlt⟩:=(hI.mem k l C hl hk hW hC).blk
   rw [hbk]
   intro hbi
   rcases Nat.lt_or_ge i (mS p).nx with h1 | h1
   ·obtain⟨B',hB'⟩:=hAS.live i B h1 hB
    rw [hCS.blk_old h1] at hbi
    exact hI.inj i k p l B' C (Nat.le_of_lt hp) hl hi hk (hvm i (hwtp i hwi)) hW hB' hC hne (by rw [hbi,hbk])
   ·have h2:i < (mE p).nx:=by
     rcases Nat.lt_or_ge i (mE p).nx with h2 | h2
     ·exact h2
     ·rw [hAS.wf hwfp i h2] at hB;cases hB
    rcases hCS.newb i bk h1 h2 hbi with h3 | ⟨j',B',h4,h5,h6⟩
    ·omega
    ·have hne':j'≠k:=fun h7=>by subst h7;rw [hwk] at h4;cases h4
     exact hI.inj j' k p l B' C (Nat.le_of_lt hp) hl (hT p hp j' (hwtp j' h4)) hk (hvm j' (hwtp j' h4)) hW h5 hC hne' (by rw [h6,hbk])
  cases hwi:(mE p).wr.testBit i with
  | true =>
   cases hwk:(mE p).wr.testBit k with
   | true =>
    obtain⟨_,e1⟩:=hmoved i j hj hwi hV
    obtain⟨_,e2⟩:=hmoved k l hl hwk hW
    rw [e1] at hB
    rw [e2] at hC
    exact hMI'.inj i k B C (hwtp i hwi) (hwtp k hwk) hB hC hne
   | false=>exact mixed i k j l B C hj hl hi hk hV (hstays k l hwk hW) hB hC hne hwi hwk
  | false =>
   cases hwk:(mE p).wr.testBit k with
   | true=>exact fun he=>mixed k i l j C B hl hj hk hi hW (hstays i j hwi hV) hC hB hne.symm hwk hwi he.symm
   | false =>
    have hV':=hstays i j hwi hV
    have hW':=hstays k l hwk hW
    rw [hblk i (hsome i j B hj hi hV' hB),hblk k (hsome k l C hl hk hW' hC)]
    exact hI.inj i k j l B C hj hl hi hk hV' hW' hB hC hne
 ·
  cases hx:ρ' i with
  | none=>rfl
  | some x =>
   exfalso
   rcases hCS.dom i x hx with h4 | ⟨h4,h5⟩
   ·rw [hI.fresh i h1 h2 fun q hq g1 g2 hD=>h3 q hq g1 g2 ((hdn q).2 (.inr hD))] at h4
    cases h4
   ·exact h3 p hp h4 h5 ((hdn p).2 (.inl rfl))
 ·rcases hCS.dom i x hx with h4 | ⟨h4,h5⟩
  ·exact hI.dom i x h4
  ·refine .inr ⟨Nat.le_trans (h.nx_le (Nat.zero_le _) (Nat.le_of_lt hp)) h4,?_⟩
   have:=h.nx_le (j:=p+1) (l:=n0) hp (Nat.le_refl _)
   omega
 ·
  have e1:w.heap[b]?=w0.heap[b]?:=hI.frame b hb fun k B hB hq=>hf k B hB (by
   obtain⟨q,g1,g2,g3⟩:=hq
   exact⟨q,g1,(hdn q).2 (.inr g2),g3⟩)
  rw [<- e1]
  refine hCS.frame b (Nat.lt_of_lt_of_le hb hI.size) fun k C hk hC he=>?_
  rcases Nat.lt_or_ge k (mS 0).nx with g | g
  ·obtain⟨B',hB'⟩:=h.live (Nat.zero_le _) (Nat.le_of_lt hp) g hC
   refine hf k B' hB' ⟨p,hp,(hdn p).2 (.inl rfl),hk⟩ ?_
   obtain⟨y,hy⟩:=hsome k p C (Nat.le_of_lt hp) (hT p hp k (hwtp k hk)) (hvm k (hwtp k hk)) hC
   rcases hI.dom k y hy with h4 | h4
   ·rw [<- he];simp [Ren.blk,hy,h4]
   ·omega
  ·have hkn:k < (mS n0).nx:=by
    rcases Nat.lt_or_ge k (mS p).nx with g2 | g2
    ·exact Nat.lt_of_lt_of_le g2 (h.nx_le (Nat.le_of_lt hp) (Nat.le_refl _))
    ·rw [hwfp k g2] at hC;cases hC
   rcases hI.newb k b g hkn he with h4 | ⟨j',B',h4,⟨q,g1,g2,g3⟩,h6⟩
   ·omega
   ·exact hf j' B' h4 ⟨q,g1,(hdn q).2 (.inr g2),g3⟩ h6
 ·
  cases hx:ρ i with
  | some y =>
   rw [hblk i ⟨y,hx⟩] at hb
   rcases hI.newb i b h1 h2 hb with h4 | ⟨j',B',h4,⟨q,g1,g2,g3⟩,h6⟩
   ·exact .inl h4
   ·exact .inr ⟨j',B',h4,⟨q,g1,(hdn q).2 (.inr g2),g3⟩,h6⟩
  | none =>
   have ⟨y,hy⟩:∃ y,ρ' i=some y:=by
    cases hy:ρ' i with
    | none=>simp [Ren.blk,hy] at hb
    | some y=>exact⟨y,rfl⟩
   rcases hCS.dom i y hy with h4 | ⟨h4,h5⟩
   ·rw [hx] at h4;cases h4
   ·rcases hCS.newb i b h4 h5 hb with h6 | ⟨j',B',h6,h7,h8⟩
    ·exact .inl (Nat.le_trans hI.size h6)
    ·rcases Nat.lt_or_ge j' (mS 0).nx with g | g
     ·obtain⟨B2,hB2⟩:=h.live (Nat.zero_le _) (Nat.le_of_lt hp) g h7
      refine .inr ⟨j',B2,hB2,⟨p,hp,(hdn p).2 (.inl rfl),h6⟩,?_⟩
      obtain⟨z,hz⟩:=hsome j' p B' (Nat.le_of_lt hp) (hT p hp j' (hwtp j' h6)) (hvm j' (hwtp j' h6)) h7
      rcases hI.dom j' z hz with h9 | h9
      ·rw [<- h8];simp [Ren.blk,hz,h9]
      ·omega
     ·have hkn:j' < (mS n0).nx:=by
       rcases Nat.lt_or_ge j' (mS p).nx with g2 | g2
       ·exact Nat.lt_of_lt_of_le g2 (h.nx_le (Nat.le_of_lt hp) (Nat.le_refl _))
       ·rw [hwfp j' g2] at h7;cases h7
      rcases hI.newb j' b g hkn h8 with h9 | ⟨j2,B2,g1,⟨q,g2,g3,g4⟩,g5⟩
      ·exact .inl h9
      ·exact .inr ⟨j2,B2,g1,⟨q,g2,(hdn q).2 (.inr g3),g4⟩,g5⟩
 ·
  cases hw:(mE p).wr.testBit i with
  | true =>
   obtain⟨_,he⟩:=hmoved i j hj hw hV
   rw [he] at hB
   exact hMI'.dis i B b (hwtp i hw) hB hb
  | false =>
   have hV':=hstays i j hw hV
   rw [hblk i (hsome i j B hj hi hV' hB)] at hb
   have h1:=hI.dis i j B b hj hi hV' hB hb
   cases hq:ρ'.ice b with
   | none=>rfl
   | some c =>
    rcases hCS.nice b c hq with h2 | h2
    ·rw [h1] at h2;cases h2
    ·obtain⟨b',g1,g2⟩:=(hI.mem i j B hj hi hV' hB).blk
     rw [hb] at g1
     cases g1
     omega
 ·rcases hCS.nice b c hb with h1 | h1
  ·exact hI.nice b c h1
  ·exact .inr (Nat.le_trans hI.size h1)
end
structure RegOk (P:Program) (n:Nat) (ops:Array Oper) (A:List AOper):Prop where
 sz:ops.size=A.length
 op:∀ p,p < A.length->∃ o,ops[p]?=some o/\CompO P n ops o (A.getD p default) /\
  (∀ e∈o.after,Region.binds .any e=true->e.on < p)/\(∀ i,(A.getD p default).bef.testBit i=true->∃ e∈o.after,Region.binds .any e=true/\(i=e.on∨(A.getD e.on default).bef.testBit i=true))
def ApartL (A:List AOper):Prop:=∀ i p,i < p->p < A.length->(A.getD p default).bef.testBit i=false ->
 (∀ d,(A.getD i default).dst=some d->d ∉ yD9 (A.getD p default))/\(∀ d,(A.getD p default).dst=some d->d ∉ yD9 (A.getD i default))
def Cf (bef t w:Nat) (e:Nat × Nat × Nat):Prop:=bef.testBit e.1=true∨∀ x,(e.2.2.testBit x=true->t.testBit x=false)/\(w.testBit x=true->e.2.1.testBit x=false)
theorem xN2 {a b:Nat} (h:Nat.beq (Nat.land a b) 0=true) (x:Nat) (ha:a.testBit x=true):b.testBit x=false:=by
 have h1:a &&& b=0:=beqN.1 h
 have h2:(a &&& b).testBit x=false:=by rw [h1];simp
 rw [Nat.testBit_and,ha,Bool.true_and] at h2
 exact h2
theorem xL5 {bef t w:Nat} {acc:List (Nat × Nat × Nat)} (h:yZ1 bef t w acc=true):∀ e∈acc,Cf bef t w e:=by
 induction acc with
 | nil=>intro e he;cases he
 | cons a acc ih =>
  obtain⟨j,tj,wj⟩:=a
  simp only [yZ1,Bool.and_eq_true,Bool.or_eq_true] at h
  intro e he
  rcases List.mem_cons.1 he with rfl | he
  ·rcases h.1 with h1 | ⟨h1,h2⟩
   ·exact .inl h1
   ·exact .inr fun x=>⟨fun hx=>xN2 h1 x hx,fun hx=>xN2 h2 x hx⟩
  ·exact ih h.2 e he
section
variable {P:Program} {n:Nat} {ops:Array Oper} {cl:Cl} {A:List AOper}
theorem xQ3 (hcl:zF6 P cl) (hreg:RegOk P n ops A):∀ (l:List AOper) (i:Nat) (acc:List (Nat × Nat × Nat)) (tm:T AV) (m:Mem) {β:Type} (k:T AV->Mem->Option β) (res:β),A.drop i=l->i+l.length=A.length ->
  xQ4 cl l i acc tm m k=some res ->
  ∃ (tmS:Nat->T AV) (mS mE:Nat->Mem) (rS:Nat->AV) (m':Mem),k (tmS A.length) m'=some res/\tmS i=tm/\mS i=⟨m.h,m.nx,0,0⟩/\m'.h=(mS A.length).h/\m'.nx=(mS A.length).nx /\
   (∀ x,m'.tch.testBit x=true↔m.tch.testBit x=true∨∃ p,i<=p/\p < A.length/\(mE p).tch.testBit x=true) /\
   (∀ x,m'.wr.testBit x=true↔m.wr.testBit x=true∨∃ p,i<=p/\p < A.length/\(mE p).wr.testBit x=true) /\
   (∀ p,(mS p).tch=0/\(mS p).wr=0) /\
   (∀ p,i<=p->p < A.length->(∃ o,ops[p]?=some o/\yP2 P ops o (A.getD p default) (tmS p) (mS p) (rS p) (mE p))/\tmS (p+1)=setO (A.getD p default).dst (rS p) (tmS p)/\(mS (p+1)).h=(mE p).h/\(mS (p+1)).nx=(mE p).nx /\
    (∀ e∈acc,Cf (A.getD p default).bef (mE p).tch (mE p).wr e)/\(∀ q,i<=q->q < p->Cf (A.getD p default).bef (mE p).tch (mE p).wr (q,(mE q).tch,(mE q).wr)))
 | [],i,acc,tm,m,β,k,res,_,hlen,h=>by
  simp at hlen
  refine⟨fun _=>tm,fun _=>⟨m.h,m.nx,0,0⟩,fun _=>m,fun _=>default,m,h,rfl,rfl,rfl,rfl,fun x=>⟨.inl,fun hx=>?_⟩,fun x=>⟨.inl,fun hx=>?_⟩,fun _=>⟨rfl,rfl⟩,fun p h1 h2=>by omega⟩
  ·rcases hx with hx | ⟨p,h1,h2,_⟩
   ·exact hx
   ·omega
  ·rcases hx with hx | ⟨p,h1,h2,_⟩
   ·exact hx
   ·omega
 | ao::l,i,acc,tm,m,β,k,res,hdrop,hlen,h=>by
  simp only [List.length_cons] at hlen
  have hi:i < A.length:=by omega
  have hai:A.getD i default=ao:=by
   have:A[i]?=some ao:=by
    have h1:(A.drop i)[0]?=some ao:=by rw [hdrop];rfl
    simpa using h1
   simp [List.getD,this]
  obtain⟨o,ho,hco,_,_⟩:=hreg.op i hi
  rw [hai] at hco
  obtain⟨hh,nx,t,w⟩:=m
  simp only [xQ4] at h
  obtain⟨r,m1,h1,hg⟩:=wG4 hcl hco h
  obtain⟨hh1,nx1,t1,w1⟩:=m1
  simp only at h1
  cases hok:yZ1 ao.bef t1 w1 acc with
  | false=>rw [hok] at h1;cases h1
  | true =>
   rw [hok,cond_true] at h1
   simp only [zC8] at h1
   obtain⟨tmS,mS,mE,rS,m',k1,k2,k3,k4,k5,k6,k7,k8,k9⟩:=xQ3 hcl hreg l (i+1) _ _ _ k res (by rw [<- List.drop_drop,hdrop];rfl) (by omega) h1
   have hwt:∀ x,w1.testBit x=true->t1.testBit x=true:=fun x hx=>hg.1.wt (fun _ h=>by simp at h) x hx
   have hmem:∀ q,q≠i->(if q=i then (⟨hh1,nx1,t1,w1⟩:Mem) else mE q)=mE q:=fun q hq=>if_neg hq
   refine⟨fun q=>if q=i then tm else tmS q,fun q=>if q=i then ⟨hh,nx,0,0⟩ else mS q,fun q=>if q=i then ⟨hh1,nx1,t1,w1⟩ else mE q,fun q=>if q=i then r else rS q,m',?_,if_pos rfl,if_pos rfl,?_,?_,fun x=>?_,fun x=>?_,fun p=>?_,fun p g1 g2=>?_⟩
   all_goals try dsimp only
   ·rw [if_neg (by omega)];exact k1
   ·rw [if_neg (by omega)];exact k4
   ·rw [if_neg (by omega)];exact k5
   ·rw [k6]
    have e:(t.lor t1).testBit x=true↔t.testBit x=true∨t1.testBit x=true:=by
     show (t ||| t1).testBit x=true↔_
     rw [Nat.testBit_or,Bool.or_eq_true]
    rw [e]
    constructor
    ·rintro ((hx | hx) | ⟨p,g1,g2,g3⟩)
     ·exact .inl hx
     ·exact .inr ⟨i,Nat.le_refl _,hi,by rw [if_pos rfl];exact hx⟩
     ·exact .inr ⟨p,by omega,g2,by rw [if_neg (by omega)];exact g3⟩
    ·rintro (hx | ⟨p,g1,g2,g3⟩)
     ·exact .inl (.inl hx)
     ·by_cases hp:p=i
      ·subst hp;rw [if_pos rfl] at g3;exact .inl (.inr g3)
      ·rw [if_neg hp] at g3;exact .inr ⟨p,by omega,g2,g3⟩
   ·rw [k7]
    have e:(w.lor w1).testBit x=true↔w.testBit x=true∨w1.testBit x=true:=by
     show (w ||| w1).testBit x=true↔_
     rw [Nat.testBit_or,Bool.or_eq_true]
    rw [e]
    constructor
    ·rintro ((hx | hx) | ⟨p,g1,g2,g3⟩)
     ·exact .inl hx
     ·exact .inr ⟨i,Nat.le_refl _,hi,by rw [if_pos rfl];exact hx⟩
     ·exact .inr ⟨p,by omega,g2,by rw [if_neg (by omega)];exact g3⟩
    ·rintro (hx | ⟨p,g1,g2,g3⟩)
     ·exact .inl (.inl hx)
     ·by_cases hp:p=i
      ·subst hp;rw [if_pos rfl] at g3;exact .inl (.inr g3)
      ·rw [if_neg hp] at g3;exact .inr ⟨p,by omega,g2,g3⟩
   ·by_cases hp:p=i
    ·subst hp;simp
    ·rw [if_neg hp];exact k8 p
   ·by_cases hp:p=i
    ·subst hp
     simp only [if_true]
     have hp1:p+1≠p:=by omega
     simp only [hp1,if_false]
     refine⟨⟨o,ho,by rw [hai];exact hg⟩,by rw [k2,hai],by rw [k3],by rw [k3],by rw [hai];exact xL5 hok,fun q g3 g4=>by omega⟩
    ·simp only [if_neg hp,if_neg (show p+1≠i by omega)]
     obtain⟨j1,j2,j3,j4,j5,j6⟩:=k9 p (by omega) g2
     refine⟨j1,j2,j3,j4,fun e he=>j5 e ?_,fun q g3 g4=>?_⟩
     ·cases hb:Nat.beq t1 0 with
      | true=>simp only [cond_true];exact he
      | false=>simp only [cond_false];exact List.mem_cons_of_mem _ he
     ·by_cases hq:q=i
      ·subst hq
       rw [if_pos rfl]
       cases hb:Nat.beq t1 0 with
       | true =>
        have ht0:t1=0:=beqN.1 hb
        refine .inr fun x=>⟨fun hx=>?_,fun _=>?_⟩
        ·have:=hwt x hx;rw [ht0] at this;simp at this
        ·show t1.testBit x=false;rw [ht0];simp
       | false=>exact j5 _ (by rw [hb];exact List.mem_cons_self)
      ·rw [if_neg hq];exact j6 q (by omega) g4
theorem xQ6 {p q:Nat->Bool} {i:Nat}:∀ {l:List Nat},i∈l->(∀ j,q j=true->p j=true)->p i=true->q i=false->l.countP q < l.countP p
 | [],h,_,_,_=>by cases h
 | a::l,h,hs,hp,hq=>by
  have hle:l.countP q<=l.countP p:=by
   clear h
   induction l with
   | nil=>exact Nat.le_refl _
   | cons b l ih =>
    simp only [List.countP_cons]
    cases hb:q b with
    | true=>rw [hs b hb];simp;exact ih
    | false=>simp;omega
  simp only [List.countP_cons]
  rcases List.mem_cons.1 h with rfl | h
  ·rw [hp,hq];simp;omega
  ·have:=xQ6 h hs hp hq
   cases hb:q a with
   | true=>rw [hs a hb];simp;exact this
   | false=>simp;omega
theorem getD_in {L:Array Bool} {p:Nat} (h:p < L.size):L.getD p true=L.getD p false:=by
 simp [h]
theorem yJ8 {L:Array Bool} {p:Nat} (hL:L.size=ops.size):p∈Region.ready .any ops L↔∃ o,ops[p]?=some o/\¬ Dn L p/\∀ e∈o.after,Region.binds .any e=true->Dn L e.on:=by
 unfold Region.ready
 simp only [List.mem_filter,List.mem_range,Bool.and_eq_true,Bool.not_eq_true']
 constructor
 ·rintro ⟨h1,h2,h3⟩
  have ho:ops[p]?=some ops[p]:=Array.getElem?_eq_getElem h1
  rw [getD_in (by omega)] at h2
  refine⟨_,ho,by unfold Dn;rw [h2];simp,fun e he hb=>?_⟩
  rw [ho] at h3
  simp only [Option.map_some,Option.getD_some,Array.all_eq_true_iff_forall_mem,Bool.or_eq_true,Bool.not_eq_true'] at h3
  rcases h3 e he with h4 | h4
  ·rw [hb] at h4;cases h4
  ·exact h4
 ·rintro ⟨o,h1,h2,h3⟩
  have hp:=(Array.getElem?_eq_some_iff.1 h1).1
  refine⟨hp,?_,?_⟩
  ·rw [getD_in (by omega)];unfold Dn at h2;simpa using h2
  ·rw [h1]
   simp only [Option.map_some,Option.getD_some,Array.all_eq_true_iff_forall_mem,Bool.or_eq_true,Bool.not_eq_true']
   intro e he
   cases hb:Region.binds .any e with
   | false=>exact .inl rfl
   | true=>exact .inr (h3 e he hb)
theorem any_ok {n0 T N:Nat} {ao:Nat->AOper} {tmS:Nat->Ev.T AV} {mS mE:Nat->Mem} {rS:Nat->AV} {ρ0:Ren} {w0:World} {a0:Act} (h:DR P n n0 ops ao tmS mS mE rS) (h0:∀ i,(mS 0).nx<=i->(mS 0).at i=none) (hT:∀ p,p < n0->∀ i,(mE p).tch.testBit i=true->T.testBit i=true) (hN:(mS n0).nx<=N)
  (K:Act->World->Prop) (Q0:Exit->Act->World->Prop)
  (hK:∀ L ρ a w,(∀ p,p < n0->Dn L p)->Inv n n0 T N ao tmS mS mE ρ0 w0 a0 L ρ w a->K a w) :
  ∀ (f:Nat) (L:Array Bool) (ρ:Ren) (w:World) (a:Act),Inv n n0 T N ao tmS mS mE ρ0 w0 a0 L ρ w a->(List.range n0).countP (fun p=>!L.getD p false)<=f->wpAny P .any ops (Exit.then K Q0) f L a w:=by
 have allDone:∀ L:Array Bool,L.size=ops.size->Region.ready .any ops L=[]->∀ p,p < n0->Dn L p:=by
  intro L hL hr p
  induction p using Nat.strongRecOn with
  | _ p ih =>
   intro hp
   refine Classical.byContradiction fun hn=>?_
   obtain⟨o,ho,_,_,hed,_⟩:=h.op p hp
   have:p∈Region.ready .any ops L:=(yJ8 hL).2 ⟨o,ho,hn,fun e he hb=>ih e.on (hed e he hb) (Nat.lt_trans (hed e he hb) hp)⟩
   rw [hr] at this
   cases this
 have hend:∀ L ρ w a,Inv n n0 T N ao tmS mS mE ρ0 w0 a0 L ρ w a->Region.ready .any ops L=[]->Exit.then K Q0 .normal a w:=fun L ρ w a hI hr=>hK L ρ a w (allDone L (by rw [hI.lsz,h.sz]) hr) hI
 intro f
 induction f with
 | zero =>
  intro L ρ w a hI hc
  have hr:Region.ready .any ops L=[]:=by
   refine List.eq_nil_iff_forall_not_mem.2 fun p hp=>?_
   obtain⟨o,ho,hn,_⟩:=(yJ8 (by rw [hI.lsz,h.sz])).1 hp
   have hlt:p < n0:=by rw [<- h.sz];exact (Array.getElem?_eq_some_iff.1 ho).1
   have:0 < (List.range n0).countP (fun p=>!L.getD p false):=List.countP_pos_iff.2 ⟨p,List.mem_range.2 hlt,by unfold Dn at hn;simpa using hn⟩
   omega
  exact⟨hr,hend L ρ w a hI hr⟩
 | succ f ih =>
  intro L ρ w a hI hc
  refine⟨hend L ρ w a hI,fun p hp=>?_⟩
  obtain⟨o,ho,hn,hen⟩:=(yJ8 (by rw [hI.lsz,h.sz])).1 hp
  have hlt:p < n0:=by rw [<- h.sz];exact (Array.getElem?_eq_some_iff.1 ho).1
  have:=uK5 h h0 hT hN hI hlt hn ho hen (wpAny P .any ops (Exit.then K Q0) f (L.setIfInBounds p true)) (Exit.then K Q0) fun ρ' a' w' hI'=>by
   refine ih _ ρ' w' a' hI' ?_
   have:=xQ6 (p:=fun p=>!L.getD p false) (q:=fun q=>!(L.setIfInBounds p true).getD q false) (i:=p) (l:=List.range n0) (List.mem_range.2 hlt) (fun j hj=>?_) ?_ ?_
   ·omega
   ·have h1:¬ Dn (L.setIfInBounds p true) j:=by unfold Dn;simpa using hj
    rw [vQ1 (by rw [hI.lsz];exact hlt)] at h1
    have h2:¬ Dn L j:=fun h3=>h1 (.inr h3)
    unfold Dn at h2
    simpa using h2
   ·unfold Dn at hn;simpa using hn
   ·have:Dn (L.setIfInBounds p true) p:=(vQ1 (by rw [hI.lsz];exact hlt)).2 (.inl rfl)
    unfold Dn at this
    rw [this];rfl
  unfold wpOp
  simp only [ho]
  split at this
  ·rename_i hw;rw [if_pos hw];exact .inl this
  ·rename_i hw;rw [if_neg hw];exact this
theorem vP8 (hreg:RegOk P n ops A) (hap:ApartL A) {tm:T AV} {m:Mem} {β:Type} {k:T AV->Mem->Option β} {res:β} (h:∃ (tmS:Nat->Ev.T AV) (mS mE:Nat->Mem) (rS:Nat->AV) (m':Mem),k (tmS A.length) m'=some res/\tmS 0=tm/\mS 0=⟨m.h,m.nx,0,0⟩/\m'.h=(mS A.length).h/\m'.nx=(mS A.length).nx /\
   (∀ x,m'.tch.testBit x=true↔m.tch.testBit x=true∨∃ p,0<=p/\p < A.length/\(mE p).tch.testBit x=true) /\
   (∀ x,m'.wr.testBit x=true↔m.wr.testBit x=true∨∃ p,0<=p/\p < A.length/\(mE p).wr.testBit x=true) /\
   (∀ p,(mS p).tch=0/\(mS p).wr=0) /\
   (∀ p,0<=p->p < A.length->(∃ o,ops[p]?=some o/\yP2 P ops o (A.getD p default) (tmS p) (mS p) (rS p) (mE p))/\tmS (p+1)=setO (A.getD p default).dst (rS p) (tmS p)/\(mS (p+1)).h=(mE p).h/\(mS (p+1)).nx=(mE p).nx /\
    (∀ e∈([]:List (Nat × Nat × Nat)),Cf (A.getD p default).bef (mE p).tch (mE p).wr e)/\(∀ q,0<=q->q < p->Cf (A.getD p default).bef (mE p).tch (mE p).wr (q,(mE q).tch,(mE q).wr)))) :
  ∃ tm' m',k tm' m'=some res/\∀ Q0:Exit->Act->World->Prop,wX2 n tm m tm' m' fun a w K=>wpAny P .any ops (Exit.then K Q0) ops.size (Array.replicate ops.size false) a w:=by
 obtain⟨tmS,mS,mE,rS,m',k1,k2,k3,k4,k5,k6,k7,k8,k9⟩:=h
 have hDR:DR P n A.length ops (fun p=>A.getD p default) tmS mS mE rS:=by
  refine⟨hreg.sz,fun p hp=>?_,fun p hp=>(k9 p (Nat.zero_le _) hp).2.1,fun p hp=>(k9 p (Nat.zero_le _) hp).2.2.1,fun p hp=>(k9 p (Nat.zero_le _) hp).2.2.2.1,k8,fun i p hi hp hb x=>?_,hap⟩
  ·obtain⟨o,h1,h2,h3,h4⟩:=hreg.op p hp
   obtain⟨o',h5,h6⟩:=(k9 p (Nat.zero_le _) hp).1
   rw [h1] at h5
   cases h5
   exact⟨o,h1,h2,h6,h3,h4⟩
  ·rcases (k9 p (Nat.zero_le _) hp).2.2.2.2.2 i (Nat.zero_le _) hi with h1 | h1
   ·rw [hb] at h1;cases h1
   ·exact h1 x
 have hat0:∀ i,(mS 0).at i=m.at i:=fun i=>by rw [k3];rfl
 have hnx0:(mS 0).nx=m.nx:=by rw [k3]
 have hat':∀ i,m'.at i=(mS A.length).at i:=fun i=>by unfold Mem.at;rw [k4]
 have hnewfind:∀ (q i:Nat),q<=A.length->(mS 0).nx<=i->i < (mS q).nx->∃ p,p < q/\(mS p).nx<=i/\i < (mE p).nx:=by
  intro q
  induction q with
  | zero=>intro i _ h1 h2;omega
  | succ q ih =>
   intro i hq h1 h2
   rw [hDR.mn q hq] at h2
   rcases Nat.lt_or_ge i (mS q).nx with h3 | h3
   ·obtain⟨p,g1,g2,g3⟩:=ih i (by omega) h1 h3
    exact⟨p,by omega,g2,g3⟩
   ·exact⟨q,by omega,h3,h2⟩
 have hAS:AS m m':=by
  refine⟨by rw [k5,<- hnx0];exact hDR.nx_le (Nat.zero_le _) (Nat.le_refl _),fun i hi=>(k6 i).2 (.inl hi),fun i hi=>(k7 i).2 (.inl hi),fun hw i hi=>?_,fun hw i hi=>?_,fun i B hi hB=>?_,fun i hi hw=>?_,fun i h1 h2=>?_⟩
  ·rcases (k7 i).1 hi with h1 | ⟨p,g1,g2,g3⟩
   ·exact (k6 i).2 (.inl (hw i h1))
   ·exact (k6 i).2 (.inr ⟨p,g1,g2,hDR.wt g2 g3⟩)
  ·rw [hat']
   rw [k5] at hi
   exact hDR.wf (fun j hj=>by rw [hat0];exact hw j (by rw [<- hnx0];exact hj)) (Nat.le_refl _) i hi
  ·rw [hat'] at hB
   obtain⟨B',hB'⟩:=hDR.live (Nat.zero_le _) (Nat.le_refl _) (by rw [hnx0];exact hi) hB
   exact⟨B',by rw [<- hat0];exact hB'⟩
  ·have hq:∀ q,0<=q->q < A.length->(mE q).wr.testBit i=false:=fun q _ hq=>by
    cases hh:(mE q).wr.testBit i with
    | false=>rfl
    | true=>rw [(k7 i).2 (.inr ⟨q,Nat.zero_le _,hq,hh⟩)] at hw;cases hw
   have hstep:∀ l,l<=A.length->(mS l).at i=(mS 0).at i:=by
    intro l
    induction l with
    | zero=>intro _;rfl
    | succ l ih =>
     intro hl
     rw [<- ih (by omega),hDR.at_succ hl]
     refine (hDR.as hl).keep i ?_ (hq l (Nat.zero_le _) hl)
     have:=hDR.nx_le (Nat.zero_le l) (by omega)
     omega
   rw [hat',hstep _ (Nat.le_refl _),hat0]
  ·rw [k5] at h2
   obtain⟨p,g1,g2,g3⟩:=hnewfind A.length i (Nat.le_refl _) (by rw [hnx0];exact h1) h2
   exact (k7 i).2 (.inr ⟨p,Nat.zero_le _,g1,(hDR.as g1).new i g2 g3⟩)
 refine⟨tmS A.length,m',k1,fun Q0=>⟨hAS,fun ρ w T N a K hT hN ht hm hK=>?_⟩⟩
 have h0:∀ i,(mS 0).nx<=i->(mS 0).at i=none:=fun i hi=>by rw [hat0];exact hm.wf i (by rw [<- hnx0];exact hi)
 have hTp:∀ p,p < A.length->∀ i,(mE p).tch.testBit i=true->T.testBit i=true:=fun p hp i hi=>hT i ((k6 i).2 (.inr ⟨p,Nat.zero_le _,hp,hi⟩))
 have hNn:(mS A.length).nx<=N:=by rw [<- k5];exact hN
 have hnone:∀ p,¬ Dn (Array.replicate ops.size false) p:=fun p hp=>by
  unfold Dn at hp
  simp [Array.getElem?_replicate] at hp
  split at hp<;>simp at hp
 have hsame:∀ i j,j<=A.length->VM mE A.length (Array.replicate ops.size false) i j->(mS j).at i=m.at i:=by
  intro i j hj hV
  rw [<- hat0]
  refine hDR.same h0 (Nat.zero_le _) hj fun q _ hq=>?_
  cases hw:(mE q).wr.testBit i with
  | false=>rfl
  | true=>exact absurd (hV.1 q hq hw) (hnone q)
 have hI:Inv n A.length T N (fun p=>A.getD p default) tmS mS mE ρ w a (Array.replicate ops.size false) ρ w a:=by
  refine⟨by simp [hreg.sz],fun p i _ hp=>absurd hp (hnone p),ht.1,rfl,fun t j x hj hV hx=>?_,fun i j B hj hi hV hB=>?_,fun i k j l B C hj hl hi hk hV hW hB hC hne=>?_,fun i h1 h2 _=>hm.fresh i (by rw [<- hnx0];exact h1) h2,ρ.le_refl,fun i x hx=>.inl hx,Nat.le_refl _,fun _ _ _=>rfl,fun i b h1 h2 hb=>?_,Out.refl w,hm.ice,fun i j B b hj hi hV hB hb=>hm.dis i B b hi (by rw [<- hsame i j hj hV];exact hB) hb,fun _ _ h=>.inl h⟩
  ·have:(tmS j).get (pth t)=(tmS 0).get (pth t):=hDR.slots (Nat.zero_le _) hj fun q _ hq hd=>absurd (hV.1 q hq hd) (hnone q)
   rw [this,k2] at hx
   exact ht.2 t x hx
  ·rw [hsame i j hj hV] at hB
   exact hm.mem i B hi hB
  ·rw [hsame i j hj hV] at hB
   rw [hsame k l hl hW] at hC
   exact hm.inj i k B C hi hk hB hC hne
  ·have:=hm.fresh i (by rw [<- hnx0];exact h1) (Nat.lt_of_lt_of_le h2 hNn)
   simp [Ren.blk,this] at hb
 refine any_ok hDR h0 hTp hNn K Q0 (fun L ρ' a' w' hall hI'=>?_) ops.size _ ρ w a hI ?_
 ·have hVT:∀ t,VT (fun p=>A.getD p default) A.length L t A.length:=fun t=>⟨fun q hq _=>hall q hq,fun q h1 h2=>by omega⟩
  have hVM:∀ i,VM mE A.length L i A.length:=fun i=>⟨fun q hq _=>hall q hq,fun q h1 h2=>by omega⟩
  refine hK ρ' a' w' ⟨hI'.asz,fun t x hx=>hI'.tm t A.length x (Nat.le_refl _) (hVT _) hx⟩ hI'.defs ⟨fun i B hi hB=>?_,fun i j B C hi hj hB hC hne=>?_,fun i hi=>?_,fun i h1 h2=>?_,hI'.ice,fun i B b hi hB hb=>hI'.dis i A.length B b (Nat.le_refl _) hi (hVM i) (by rw [<- hat'];exact hB) hb⟩ ⟨hI'.ext,fun i x hx=>?_,hI'.size,fun b hb hf=>?_,fun i b h1 h2 hb=>?_,hI'.outer,hI'.nice⟩
  ·rw [hat'] at hB
   exact hI'.mem i A.length B (Nat.le_refl _) hi (hVM i) hB
  ·rw [hat'] at hB hC
   exact hI'.inj i j A.length A.length B C (Nat.le_refl _) (Nat.le_refl _) hi hj (hVM i) (hVM j) hB hC hne
  ·exact hAS.wf hm.wf i hi
  ·refine hI'.fresh i ?_ h2 fun q hq g1 g2 _=>?_
   ·have:=hAS.nx;omega
   ·have:=hDR.nx_le (j:=q+1) (l:=A.length) hq (Nat.le_refl _)
    rw [hDR.mn q hq] at this
    omega
  ·rcases hI'.dom i x hx with h1 | ⟨h1,h2⟩
   ·exact .inl h1
   ·exact .inr ⟨by omega,by omega⟩
  ·refine hI'.frame b hb fun j B hB hq=>?_
   obtain⟨q,g1,g2,g3⟩:=hq
   exact hf j B ((k7 j).2 (.inr ⟨q,Nat.zero_le _,g1,g3⟩)) (by rw [<- hat0];exact hB)
  ·rcases hI'.newb i b (by omega) (by omega) hb with h3 | ⟨j,B,h3,⟨q,g1,g2,g3⟩,h4⟩
   ·exact .inl h3
   ·exact .inr ⟨j,B,(k7 j).2 (.inr ⟨q,Nat.zero_le _,g1,g3⟩),by rw [<- hat0];exact h3,h4⟩
 ·rw [hreg.sz]
  exact Nat.le_trans (List.countP_le_length) (by simp)
theorem vP9 (hcl:zF6 P cl) (hreg:RegOk P n ops A) (hap:ApartL A) {tm:T AV} {m:Mem} {β:Type} {k:T AV->Mem->Option β} {res:β} (h:xQ4 cl A 0 [] tm m k=some res) :
  ∃ tm' m',k tm' m'=some res/\∀ Q0:Exit->Act->World->Prop,wX2 n tm m tm' m' fun a w K=>wpAny P .any ops (Exit.then K Q0) ops.size (Array.replicate ops.size false) a w :=
 vP8 hreg hap (xQ3 hcl hreg A 0 [] tm m k res rfl (by simp) h)
end
inductive AC where
 | skip | reg (draw:Bool) (ops:List AOper) | seq (a b:AC) | cond (c:Opd) (t e:AC) | blk (id:Nat) (b:AC) | loop (b:AC) | exit (id:Nat) | ret
 deriving Inhabited
def vR7 (done:List AOper) (idx:Nat):List Edge->Option Nat
 | []=>some 0
 | e::es=>match vR7 done idx es with
  | some b=>if Region.binds .any e then (if e.on < idx then some (b ||| (2 ^ e.on ||| (done.getD e.on default).bef)) else none) else some b
  | none=>none
def qF6 (n:Nat):Option Tmp->Option (Option Path)
 | none=>some none
 | some d=>if d < n then some (some (pth d)) else none
def guardOf (ops:Array Oper):Option (Nat × Bool)->Option (Option (Path × Bool))
 | none=>some none
 | some (j,want)=>match (ops[j]?).bind (·.dst) with
  | some d=>some (some (pth d,want))
  | none=>none
def kdOf (P:Program) (op:Op):Kd × List Opd :=
 match zC9 P op with
 | some (k,xs)=>(match mapO opd xs with | some args=>(k,args) | none=>(.bad,[]))
 | none=>(.bad,[])
def xC4 (P:Program) (n:Nat) (ops:Array Oper) (done:List AOper) (idx:Nat) (o:Oper):Option AOper :=
 match qF6 n o.dst,guardOf ops o.guard,kdOf P o.op,vR7 done idx o.after.toList with
 | some dst,some g,(k,args),some b=>some ⟨dst,k,args,g,b⟩
 | _,_,_,_=>none
def zQ9 (P:Program) (n:Nat) (ops:Array Oper):List Oper->Nat->List AOper->Option (List AOper)
 | [],_,done=>some done
 | o::os,idx,done=>match xC4 P n ops done idx o with
  | some a=>zQ9 P n ops os (idx+1) (done++[a])
  | none=>none
def apOk (A:List AOper):Bool:=(List.range A.length).all fun p=>(List.range p).all fun i=>(A.getD p default).bef.testBit i || uT6 (A.getD i default) (A.getD p default)
def comp (P:Program) (n:Nat):Code->Option AC
 | .skip=>some .skip
 | .region _ ops draw=>match zQ9 P n ops ops.toList 0 [] with
  | some A=>if !draw || apOk A then some (.reg draw A) else none
  | none=>none
 | .seq a b=>match comp P n a,comp P n b with
  | some a,some b=>some (.seq a b)
  | _,_=>none
 | .cond c a b=>match opd c,comp P n a,comp P n b with
  | some c,some a,some b=>some (.cond c a b)
  | _,_,_=>none
 | .block id b=>match comp P n b with
  | some b=>some (.blk id b)
  | none=>none
 | .loop b=>match comp P n b with
  | some b=>some (.loop b)
  | none=>none
 | .exit id=>some (.exit id)
 | .ret=>some .ret
 | _=>none
theorem xY4 {P:Program} {n:Nat} {ops:Array Oper} {done:List AOper} {idx:Nat} {o:Oper} {a:AOper} (h:xC4 P n ops done idx o=some a) :
  CompO P n ops o a/\(∀ e∈o.after,Region.binds .any e=true->e.on < idx)/\∀ i,a.bef.testBit i=true->∃ e∈o.after,Region.binds .any e=true/\(i=e.on∨(done.getD e.on default).bef.testBit i=true):=by
 unfold xC4 at h
 split at h<;>first | (cases h;done) | skip
 rename_i dst g k args b hd hg hk hb
 cases h
 have hbef:∀ (l:List Edge) (b:Nat),vR7 done idx l=some b->(∀ e∈l,Region.binds .any e=true->e.on < idx)/\∀ i,b.testBit i=true->∃ e∈l,Region.binds .any e=true/\(i=e.on∨(done.getD e.on default).bef.testBit i=true):=by
  intro l
  induction l with
  | nil=>intro b h;cases h;exact⟨(fun e he=>by cases he),fun i hi=>by simp at hi⟩
  | cons e es ih =>
   intro b h
   simp only [vR7] at h
   split at h<;>first | (cases h;done) | skip
   rename_i b' hb'
   obtain⟨h1,h2⟩:=ih b' hb'
   split at h
   ·rename_i hbind
    split at h<;>first | (cases h;done) | skip
    rename_i hlt
    cases h
    refine⟨fun e' he' hb=>?_,fun i hi=>?_⟩
    ·rcases List.mem_cons.1 he' with rfl | he'
     ·exact hlt
     ·exact h1 e' he' hb
    ·rw [Nat.testBit_or,Bool.or_eq_true,Nat.testBit_or,Bool.or_eq_true,Nat.testBit_two_pow] at hi
     rcases hi with hi | hi | hi
     ·obtain⟨e',g1,g2,g3⟩:=h2 i hi
      exact⟨e',List.mem_cons_of_mem _ g1,g2,g3⟩
     ·exact⟨e,List.mem_cons_self,hbind,.inl (by have:=of_decide_eq_true hi;exact this.symm)⟩
     ·exact⟨e,List.mem_cons_self,hbind,.inr hi⟩
   ·rename_i hbind
    cases h
    refine⟨fun e' he' hb=>?_,fun i hi=>?_⟩
    ·rcases List.mem_cons.1 he' with rfl | he'
     ·exact absurd hb hbind
     ·exact h1 e' he' hb
    ·obtain⟨e',g1,g2,g3⟩:=h2 i hi
     exact⟨e',List.mem_cons_of_mem _ g1,g2,g3⟩
 obtain⟨h1,h2⟩:=hbef _ _ hb
 have hkd:k=.bad∨∃ xs,zC9 P o.op=some (k,xs)/\mapO opd xs=some args:=by
  unfold kdOf at hk
  split at hk
  ·rename_i k' xs hk'
   split at hk
   ·rename_i args' hargs
    cases hk
    exact .inr ⟨xs,hk',hargs⟩
   ·cases hk;exact .inl rfl
  ·cases hk;exact .inl rfl
 refine⟨⟨?_,hkd,?_⟩,fun e he=>h1 e (by simpa using he),fun i hi=>?_⟩
 ·cases hdd:o.dst with
  | none=>rw [hdd] at hd;cases hd;exact .inl ⟨rfl,rfl⟩
  | some d =>
   rw [hdd] at hd
   simp only [qF6] at hd
   split at hd<;>first | (cases hd;done) | skip
   rename_i hlt
   cases hd
   exact .inr ⟨d,rfl,rfl,hlt⟩
 ·cases hgg:o.guard with
  | none=>rw [hgg] at hg;cases hg;exact .inl ⟨rfl,rfl⟩
  | some jw =>
   obtain⟨j,want⟩:=jw
   rw [hgg] at hg
   simp only [guardOf] at hg
   split at hg<;>first | (cases hg;done) | skip
   rename_i d hd'
   cases hg
   exact .inr ⟨j,want,d,rfl,hd',rfl⟩
 ·obtain⟨e,g1,g2⟩:=h2 i hi
  exact⟨e,by simpa using g1,g2⟩
theorem yV7 {P:Program} {n:Nat} {ops:Array Oper}:∀ (l:List Oper) (idx:Nat) (done A:List AOper),ops.toList.drop idx=l->done.length=idx ->
  (∀ p,p < idx->∃ o,ops[p]?=some o/\CompO P n ops o (done.getD p default)/\(∀ e∈o.after,Region.binds .any e=true->e.on < p)/\(∀ i,(done.getD p default).bef.testBit i=true->∃ e∈o.after,Region.binds .any e=true/\(i=e.on∨(done.getD e.on default).bef.testBit i=true))) ->
  zQ9 P n ops l idx done=some A->RegOk P n ops A
 | [],idx,done,A,hd,hl,hp,h=>by
  cases h
  have hlen:ops.size<=idx:=by
   have:=congrArg List.length hd
   simp at this
   omega
  have hle:idx<=ops.size:=by
   rcases Nat.eq_zero_or_pos idx with h0 | h0
   ·omega
   ·obtain⟨o,ho,_⟩:=hp (idx - 1) (by omega)
    have:=(Array.getElem?_eq_some_iff.1 ho).1
    omega
  exact⟨by omega,fun p hpl=>hp p (by omega)⟩
 | o::os,idx,done,A,hd,hl,hp,h=>by
  simp only [zQ9] at h
  split at h<;>first | (cases h;done) | skip
  rename_i a ha
  obtain⟨g1,g2,g3⟩:=xY4 ha
  have ho:ops[idx]?=some o:=by
   have:(ops.toList.drop idx)[0]?=some o:=by rw [hd];rfl
   simpa using this
  refine yV7 os (idx+1) (done++[a]) A (by rw [<- List.drop_drop,hd];rfl) (by simp [hl]) (fun p hpl=>?_) h
  have hget:∀ q,q < idx->(done++[a]).getD q default=done.getD q default:=fun q hq=>by
   simp [List.getD,List.getElem?_append,hl,hq]
  by_cases hpi:p < idx
  ·obtain⟨o',k1,k2,k3,k4⟩:=hp p hpi
   refine⟨o',k1,by rw [hget p hpi];exact k2,k3,fun i hi=>?_⟩
   rw [hget p hpi] at hi
   obtain⟨e,e1,e2,e3⟩:=k4 i hi
   exact⟨e,e1,e2,by rw [hget e.on (Nat.lt_trans (k3 e e1 e2) hpi)];exact e3⟩
  ·obtain rfl:p=idx:=by omega
   have hself:(done++[a]).getD p default=a:=by simp [List.getD,hl]
   refine⟨o,ho,by rw [hself];exact g1,g2,fun i hi=>?_⟩
   rw [hself] at hi
   obtain⟨e,e1,e2,e3⟩:=g3 i hi
   exact⟨e,e1,e2,by rw [hget e.on (g2 e e1 e2)];exact e3⟩
theorem yB7 {P:Program} {n:Nat} {ops:Array Oper} {A:List AOper} (h:zQ9 P n ops ops.toList 0 []=some A):RegOk P n ops A :=
 yV7 ops.toList 0 [] A rfl rfl (fun p hp=>by omega) h
theorem vT6 {A:List AOper} (h:apOk A=true):ApartL A:=by
 intro i p hi hp hb
 have h1:=(List.all_eq_true.1 ((List.all_eq_true.1 h) p (List.mem_range.2 hp))) i (List.mem_range.2 hi)
 rw [hb,Bool.false_or] at h1
 unfold uT6 at h1
 simp only [Bool.and_eq_true] at h1
 refine⟨fun d hd=>?_,fun d hd=>?_⟩
 ·rw [hd] at h1;simpa using h1.1
 ·rw [hd] at h1;simpa using h1.2
inductive Ex where
 | nrm | ext (id:Nat) | ret
def exOf:Ex->Exit
 | .nrm=>.normal
 | .ext id=>.exit id
 | .ret=>.ret
def ev (cl:Cl):Nat->AC->T AV->Mem->Option (Ex × T AV × Mem)
 | 0,_,_,_=>none
 | f+1,c,tm,m =>
  match c with
  | .skip=>some (.nrm,tm,m)
  | .reg false l=>opsK cl l tm m fun tm m=>some (.nrm,tm,m)
  | .reg true l=>xQ4 cl l 0 [] tm m fun tm m=>some (.nrm,tm,m)
  | .seq a b=>match ev cl f a tm m with
   | some (.nrm,tm,m)=>ev cl f b tm m
   | r=>r
  | .cond c t e=>opdK c tm fun v=>match v with
   | .bool true=>ev cl f t tm m
   | .bool false=>ev cl f e tm m
   | _=>none
  | .blk id b=>match ev cl f b tm m with
   | some (.ext i,tm,m)=>bif Nat.beq i id then some (.nrm,tm,m) else some (.ext i,tm,m)
   | r=>r
  | .loop b=>match ev cl f b tm m with
   | some (.nrm,tm,m)=>ev cl f (.loop b) tm m
   | r=>r
  | .exit id=>some (.ext id,tm,m)
  | .ret=>some (.ret,tm,m)
def zP5 (n:Nat) (tm:T AV) (m:Mem) (ex:Ex) (tm':T AV) (m':Mem) (W:Act->World->(Exit->Act->World->Prop)->Prop):Prop :=
 AS m m'/\∀ (ρ:Ren) (w:World) (T N:Nat) (a:Act) (Q:Exit->Act->World->Prop),(∀ i,m'.tch.testBit i=true->T.testBit i=true)->m'.nx<=N->TR ρ tm a n->MI ρ w m T N ->
  (∀ ρ' a' w',TR ρ' tm' a' n->a'.defers=a.defers->MI ρ' w' m' T N->CS ρ ρ' w w' m m'->Q (exOf ex) a' w')->W a w Q
def Unr (P:Program) (c:Code) (Q:Exit->Act->World->Prop):Nat->Act->World->Prop
 | 0,_,_=>False
 | k+1,a,w=>c.wp P (Exit.then (Unr P c Q k) Q) a w
theorem wI7 {p:Nat->Prop} (h:∃ k,p k):∃ k,p k/\∀ j,j < k->¬ p j:=by
 obtain⟨k,hk⟩:=h
 induction k using Nat.strongRecOn with
 | _ k ih =>
  by_cases hj:∃ j,j < k/\p j
  ·obtain⟨j,h1,h2⟩:=hj
   exact ih j h1 h2
  ·exact⟨k,hk,fun j h1 h2=>hj ⟨j,h1,h2⟩⟩
open Classical in
noncomputable def yL7 (p:Nat->Prop):Nat:=if h:∃ k,p k then Classical.choose (wI7 h) else 0
theorem yL6 {p:Nat->Prop} (h:∃ k,p k):p (yL7 p)/\∀ j,j < yL7 p->¬ p j:=by
 unfold yL7
 rw [dif_pos h]
 exact Classical.choose_spec (wI7 h)
theorem vK0 {p:Nat->Prop} {k:Nat} (h:p k):yL7 p<=k:=by
 rcases Nat.lt_or_ge k (yL7 p) with h1 | h1
 ·exact absurd h ((yL6 ⟨k,h⟩).2 k h1)
 ·exact h1
theorem yG4 {P:Program} {c:Code} {Q:Exit->Act->World->Prop} {k:Nat} {a:Act} {w:World} (h:Unr P c Q k a w):(Code.loop c).wp P Q a w:=by
 refine wp_loop (fun a w=>∃ k,Unr P c Q k a w) (fun a w=>yL7 fun k=>Unr P c Q k a w) ⟨k,h⟩ fun a w hI=>?_
 have h1:=(yL6 hI).1
 cases hk:yL7 fun k=>Unr P c Q k a w with
 | zero=>rw [hk] at h1;exact h1.elim
 | succ k' =>
  rw [hk] at h1
  refine Code.wp_mono (fun e a' w' he=>?_) (show c.wp P (Exit.then (Unr P c Q k') Q) a w from h1)
  cases e<;>first | exact he | exact⟨⟨k',he⟩,Nat.lt_succ_of_le (vK0 he)⟩
theorem zV5 (Q:Exit->Act->World->Prop):Exit.then (Q .normal) Q=Q:=by
 funext e a w
 cases e<;>rfl
section
variable {P:Program} {cl:Cl} {n:Nat}
theorem yV8 {tm tm1 tm2:T AV} {m m1 m2:Mem} {ex:Ex} {W1 W2:Act->World->(Exit->Act->World->Prop)->Prop} (h1:zP5 n tm m .nrm tm1 m1 W1) (h2:zP5 n tm1 m1 ex tm2 m2 W2) :
  zP5 n tm m ex tm2 m2 fun a w Q=>W1 a w (Exit.then (fun a w=>W2 a w Q) Q):=by
 refine⟨h1.1.trans h2.1,fun ρ w T N a Q hT hN ht hm hQ=>?_⟩
 refine h1.2 ρ w T N a _ (fun i hi=>hT i (h2.1.tch i hi)) (Nat.le_trans h2.1.nx hN) ht hm fun ρ1 a1 w1 ht1 hd1 hm1 hc1=>?_
 refine h2.2 ρ1 w1 T N a1 Q hT hN ht1 hm1 fun ρ2 a2 w2 ht2 hd2 hm2 hc2=>?_
 exact hQ ρ2 a2 w2 ht2 (hd2.trans hd1) hm2 (hc1.trans hc2 h1.1 h2.1 hm.wf)
theorem zN1 {tm tm1:T AV} {m m1:Mem} {ex:Ex} {W1:Act->World->(Exit->Act->World->Prop)->Prop} (h1:zP5 n tm m ex tm1 m1 W1) (hne:ex≠.nrm) (K:Act->World->Prop) :
  zP5 n tm m ex tm1 m1 fun a w Q=>W1 a w (Exit.then K Q):=by
 refine⟨h1.1,fun ρ w T N a Q hT hN ht hm hQ=>h1.2 ρ w T N a _ hT hN ht hm fun ρ1 a1 w1 ht1 hd1 hm1 hc1=>?_⟩
 have:=hQ ρ1 a1 w1 ht1 hd1 hm1 hc1
 cases ex<;>first | exact absurd rfl hne | exact this
theorem wG3 {β:Type} {x:Opd} {tm:T AV} {k:AV->Option β} {r:β} (h:opdK x tm k=some r):∃ v,k v=some r/\(x=.c v∨∃ p,x=.t p/\tm.get p=some v):=by
 unfold opdK at h
 split at h
 ·exact⟨_,h,.inl rfl⟩
 ·rename_i p
  split at h
  ·rename_i v hv;exact⟨v,h,.inr ⟨p,rfl,hv⟩⟩
  ·cases h
theorem yH0 {ρ:Ren} {a:Act} {tm:T AV} {c:Operand} {x:Opd} {b:Bool} (hc:opd c=some x) (hx:x=.c (.bool b)∨∃ p,x=.t p/\tm.get p=some (.bool b)) (ht:TR ρ tm a n):a.eval c=.bool b:=by
 have:=yH8 (ρ:=ρ) (a:=a) (tm:=tm) (xs:=[c]) (ys:=[x]) (vs:=[.bool b]) (by simp [mapO,hc]) rfl (fun j y v hy hv=>by
  cases j with
  | zero=>simp at hy hv;subst hy;subst hv;exact hx
  | succ j=>simp at hy) (fun t z _ hz=>ht.2 t z hz)
 have h1:=VRs.one this
 generalize a.eval c=y at h1
 cases h1
 rfl
theorem qW0 (hcl:zF6 P cl) (hmix:P.follows .mixedOrders=true):∀ (f:Nat),
  (∀ (code:Code) (c:AC) (tm tm':T AV) (m m':Mem) (ex:Ex),comp P n code=some c->ev cl f c tm m=some (ex,tm',m')->zP5 n tm m ex tm' m' fun a w Q=>code.wp P Q a w) /\
  (∀ (code:Code) (c:AC) (tm tm':T AV) (m m':Mem) (ex:Ex),comp P n code=some c->ev cl f (.loop c) tm m=some (ex,tm',m')->∃ k,zP5 n tm m ex tm' m' fun a w Q=>Unr P code Q k a w)
 | 0=>⟨fun _ _ _ _ _ _ _ _ h=>by simp [ev] at h,fun _ _ _ _ _ _ _ _ h=>by simp [ev] at h⟩
 | f+1=>by
  obtain⟨ih1,ih2⟩:=qW0 hcl hmix f
  have loop':∀ (code:Code) (c:AC) (tm tm':T AV) (m m':Mem) (ex:Ex),comp P n code=some c->ev cl (f+1) (.loop c) tm m=some (ex,tm',m')->∃ k,zP5 n tm m ex tm' m' fun a w Q=>Unr P code Q k a w:=by
   intro code c tm tm' m m' ex hc h
   simp only [ev] at h
   cases hb:ev cl f c tm m with
   | none=>rw [hb] at h;cases h
   | some r =>
    obtain⟨ex1,tm1,m1⟩:=r
    rw [hb] at h
    have h1:=ih1 code c tm tm1 m m1 ex1 hc hb
    cases ex1 with
    | nrm =>
     obtain⟨k,h2⟩:=ih2 code c tm1 tm' m1 m' ex hc h
     exact⟨k+1,yV8 h1 h2⟩
    | ext id=>cases h;exact⟨1,zN1 h1 (by simp) _⟩
    | ret=>cases h;exact⟨1,zN1 h1 (by simp) _⟩
  refine⟨fun code c tm tm' m m' ex hc h=>?_,loop'⟩
  have stay:∀ (ex:Ex) (W:Act->World->(Exit->Act->World->Prop)->Prop),(∀ a w (Q:Exit->Act->World->Prop),Q (exOf ex) a w->W a w Q)->zP5 n tm m ex tm m W :=
   fun ex W hW=>⟨AS.refl m,fun ρ w T N a Q _ _ ht hm hQ=>hW a w Q (hQ ρ a w ht rfl hm (CS.refl ρ w m))⟩
  cases code with
  | skip=>cases hc;simp only [ev] at h;cases h;exact stay .nrm _ fun a w Q=>wp_skip
  | region id ops draw =>
   simp only [comp] at hc
   split at hc<;>first | (cases hc;done) | skip
   rename_i A hA
   split at hc<;>first | (cases hc;done) | skip
   rename_i hap
   cases hc
   have hreg:=yB7 hA
   cases draw with
   | false =>
    simp only [ev] at h
    obtain⟨tm1,m1,hk,hr⟩:=xL0 (P:=P) (n:=n) (ops:=ops) hcl A 0 tm m _ (ex,tm',m') (fun j ao hj=>by
     have hlt:j < A.length:=(List.getElem?_eq_some_iff.1 hj).1
     obtain⟨o,h1,h2,_⟩:=hreg.op j hlt
     have:A.getD j default=ao:=by simp [List.getD,hj]
     rw [this] at h2
     exact⟨o,by rw [Nat.zero_add];exact h1,h2⟩) h
    cases hk
    refine⟨(hr fun _ _ _=>True).1,fun ρ w T N a Q hT hN ht hm hQ=>wp_region ?_⟩
    have:=(hr Q).2 ρ w T N a (Q .normal) hT hN ht hm hQ
    dsimp only at this
    rw [zV5] at this
    rw [List.range_eq_range',hreg.sz]
    exact this
   | true =>
    simp only [ev] at h
    obtain⟨tm1,m1,hk,hr⟩:=vP9 (n:=n) (ops:=ops) hcl hreg (vT6 (by simpa using hap)) h
    cases hk
    refine⟨(hr fun _ _ _=>True).1,fun ρ w T N a Q hT hN ht hm hQ=>wp_region_any hmix ?_⟩
    have:=(hr Q).2 ρ { w with drawn:=w.drawn+1 } T N a (Q .normal) hT hN ht (qB6 hm rfl) fun ρ' a' w' h1 h2 h3 h4=>hQ ρ' a' w' h1 h2 h3 ⟨h4.ext,h4.dom,h4.size,h4.frame,h4.newb,(show Out w { w with drawn:=w.drawn+1 } from ⟨rfl,rfl,rfl⟩).trans h4.outer,h4.nice⟩
    dsimp only at this
    rw [zV5] at this
    exact this
  | seq a b =>
   simp only [comp] at hc
   split at hc<;>first | (cases hc;done) | skip
   rename_i ca cb ha hb
   cases hc
   simp only [ev] at h
   cases he:ev cl f ca tm m with
   | none=>rw [he] at h;cases h
   | some r =>
    obtain⟨ex1,tm1,m1⟩:=r
    rw [he] at h
    have h1:=ih1 a ca tm tm1 m m1 ex1 ha he
    have up:∀ {ex:Ex} {tm2:T AV} {m2:Mem},zP5 n tm m ex tm2 m2 (fun x w Q=>a.wp P (Exit.then (b.wp P Q) Q) x w)->zP5 n tm m ex tm2 m2 fun x w Q=>(Code.seq a b).wp P Q x w :=
     fun h=>⟨h.1,fun ρ w T N x Q hT hN ht hm hQ=>wp_seq (h.2 ρ w T N x Q hT hN ht hm hQ)⟩
    cases ex1 with
    | nrm=>exact up (yV8 h1 (ih1 b cb tm1 tm' m1 m' ex hb h))
    | ext id =>
     cases h
     exact up ⟨h1.1,fun ρ w T N x Q hT hN ht hm hQ=>(zN1 h1 (by simp) (b.wp P Q)).2 ρ w T N x Q hT hN ht hm hQ⟩
    | ret =>
     cases h
     exact up ⟨h1.1,fun ρ w T N x Q hT hN ht hm hQ=>(zN1 h1 (by simp) (b.wp P Q)).2 ρ w T N x Q hT hN ht hm hQ⟩
  | cond c a b =>
   simp only [comp] at hc
   split at hc<;>first | (cases hc;done) | skip
   rename_i cc ca cb hcc ha hb
   cases hc
   simp only [ev] at h
   obtain⟨v,h,hv⟩:=wG3 h
   split at h<;>first | (cases h;done) | skip
   ·have h1:=ih1 a ca tm tm' m m' ex ha h
    exact⟨h1.1,fun ρ w T N x Q hT hN ht hm hQ=>wp_cond_true (yH0 hcc hv ht) (h1.2 ρ w T N x Q hT hN ht hm hQ)⟩
   ·have h1:=ih1 b cb tm tm' m m' ex hb h
    exact⟨h1.1,fun ρ w T N x Q hT hN ht hm hQ=>wp_cond_false (yH0 hcc hv ht) (h1.2 ρ w T N x Q hT hN ht hm hQ)⟩
  | block id b =>
   simp only [comp] at hc
   split at hc<;>first | (cases hc;done) | skip
   rename_i cb hb
   cases hc
   simp only [ev] at h
   cases he:ev cl f cb tm m with
   | none=>rw [he] at h;cases h
   | some r =>
    obtain⟨ex1,tm1,m1⟩:=r
    rw [he] at h
    have h1:=ih1 b cb tm tm1 m m1 ex1 hb he
    have up:∀ {ex2:Ex},(∀ (Q:Exit->Act->World->Prop) a w,Q (exOf ex2) a w->Exit.inBlock id Q (exOf ex1) a w)->zP5 n tm m ex2 tm1 m1 fun x w Q=>(Code.block id b).wp P Q x w :=
     fun hq=>⟨h1.1,fun ρ w T N x Q hT hN ht hm hQ=>wp_block (h1.2 ρ w T N x _ hT hN ht hm fun ρ1 a1 w1 ht1 hd1 hm1 hc1=>hq Q a1 w1 (hQ ρ1 a1 w1 ht1 hd1 hm1 hc1))⟩
    cases ex1 with
    | nrm=>cases h;exact up fun Q a w hq=>hq
    | ret=>cases h;exact up fun Q a w hq=>hq
    | ext i =>
     simp only at h
     cases hbq:Nat.beq i id with
     | true =>
      rw [hbq,cond_true] at h
      cases h
      exact up fun Q a w hq=>by simp only [exOf,Exit.inBlock,beqN.1 hbq,if_true];exact hq
     | false =>
      rw [hbq,cond_false] at h
      cases h
      have hne:i≠id:=fun he=>by rw [he,beqN.2 rfl] at hbq;cases hbq
      exact up fun Q a w hq=>by simp only [exOf,Exit.inBlock,hne,if_false];exact hq
  | loop b =>
   simp only [comp] at hc
   split at hc<;>first | (cases hc;done) | skip
   rename_i cb hb
   cases hc
   obtain⟨k,h1⟩:=loop' b cb tm tm' m m' ex hb h
   exact⟨h1.1,fun ρ w T N x Q hT hN ht hm hQ=>yG4 (h1.2 ρ w T N x Q hT hN ht hm hQ)⟩
  | exit id=>cases hc;simp only [ev] at h;cases h;exact stay (.ext id) _ fun a w Q=>wp_exit
  | ret=>cases hc;simp only [ev] at h;cases h;exact stay .ret _ fun a w Q=>wp_ret
  | rangeFunc _ _ _ _=>cases hc
  | scope _=>cases hc
  | label _=>cases hc
  | goto _=>cases hc
  | refuse _=>cases hc
end
inductive ResA where
 | t (p:Path) | c1 (p:Path) | cn (p:Path) (k:Nat)
 deriving Inhabited
structure FnC where
 n:Nat
 body:AC
 res:List ResA
 deriving Inhabited
def zN5 (P:Program):ResultVar->Option ResA
 | .tmp t=>some (.t (pth t))
 | .cell a t=>match P.underlying t with
  | some d=>if zI0 d then (match szOf P t with | some n=>some (.cn (pth a) n) | none=>none) else some (.c1 (pth a))
  | none=>none
def vD2 {β:Type} (r:ResA) (tm:T AV) (m:Mem) (k:AV->Mem->Option β):Option β :=
 match r with
 | .t p=>match tm.get p with | some v=>k v m | none=>none
 | .c1 p=>match tm.get p with | some x=>ld1K x m k | none=>none
 | .cn p n=>match tm.get p with | some x=>ldnK n x m k | none=>none
def resK {β:Type}:List ResA->T AV->Mem->(List AV->Mem->Option β)->Option β
 | [],_,m,k=>k [] m
 | r::rs,tm,m,k=>vD2 r tm m fun v m=>resK rs tm m fun vs m=>k (v::vs) m
def resV:List AV->AV
 | [v]=>v
 | vs=>.tup vs
def xO7 {β:Type}:List AV->Nat->T AV->(T AV->Option β)->Option β
 | [],_,tm,k=>k tm
 | v::vs,i,tm,k=>tm.setK (pth i) v fun tm=>zD4 (Nat.succ i) fun i=>xO7 vs i tm k
def endK (res:List ResA):Option (Ex × T AV × Mem)->Option (AV × Mem)
 | some (.nrm,tm,m)=>resK res tm m fun vs m=>some (resV vs,m)
 | some (.ret,tm,m)=>resK res tm m fun vs m=>some (resV vs,m)
 | _=>none
def yN7 (tab:Nat->Option FnC) (orc:Cl) (L:Nat):Nat->Cl
 | 0=>fun _ _ _=>none
 | d+1=>fun f xs m=>match orc f xs m with
  | some r=>some r
  | none=>match tab f with
   | some fc=>bif Nat.ble xs.length fc.n then xO7 xs 0 .nil fun tm=>endK fc.res (ev (yN7 tab orc L d) L fc.body tm m) else none
   | none=>none
def FnOk (P:Program) (f:Nat) (fc:FnC):Prop :=
 ∃ fn code, P.funcs[f]? = some fn ∧ fn.body = some code ∧ (fn.name == "runtime.NumGoroutine") = false ∧ fn.ntmps = fc.n ∧ comp P fc.n code = some fc.body ∧ mapO (zN5 P) fn.results.toList = some fc.res
section
variable {P:Program} {cl:Cl} {n:Nat}
theorem zX9 {β:Type} {k:T AV->Option β} {res:β}:∀ {xs:List AV} {i:Nat} {tm:T AV},xO7 xs i tm k=some res ->
  ∃ tm',k tm'=some res/\∀ t,tm'.get (pth t)=if i<=t/\t < i+xs.length then xs[t - i]? else tm.get (pth t)
 | [],i,tm,h=>⟨tm,h,fun t=>by rw [if_neg (by simp)]⟩
 | v::vs,i,tm,h=>by
  simp only [xO7,T.setK_eq,zC8] at h
  obtain⟨tm',h1,h2⟩:=zX9 h
  refine⟨tm',h1,fun t=>?_⟩
  rw [h2,T.get_set]
  simp only [yK0,List.length_cons]
  by_cases h3:t=i
  ·subst h3
   rw [if_neg (by omega),if_pos rfl,if_pos (by omega)]
   simp
  ·by_cases h4:i<=t/\t < i+(vs.length+1)
   ·rw [if_pos (by omega),if_pos h4]
    obtain⟨j,rfl⟩:∃ j,t=i+1+j:=⟨t - i - 1,by omega⟩
    rw [show i+1+j - (i+1)=j by omega,show i+1+j - i=j+1 by omega]
    simp
   ·rw [if_neg (by omega),if_neg h3,if_neg h4]
def wN3 (tmps:Array Value):ResultVar->Sem Value
 | .tmp t=>pure (tmps.getD t undef)
 | .cell x t=>do loadVar t (<- asAddr (tmps.getD x undef))
theorem yA0 (fn:Func) (tmps:Array Value):results fn tmps=(do let vs <- fn.results.mapM (wN3 tmps);pure (if h:vs.size=1 then vs[0] else .tuple vs)):=by
 unfold results
 congr 1
theorem uY1 {β:Type} {rv:ResultVar} {ra:ResA} {tm:T AV} {m:Mem} {k:AV->Mem->Option β} {res:β} (hc:zN5 P rv=some ra) (h:vD2 ra tm m k=some res) :
  ∃ v m',k v m'=some res/\AS m m'/\m'.nx=m.nx/\(∀ j,m'.at j=m.at j)/\∀ (ρ:Ren) (w:World) (T N:Nat) (a:Act),(∀ i,m'.tch.testBit i=true->T.testBit i=true)->TR ρ tm a n->MI ρ w m T N ->
   ∃ y,(wN3 a.tmps rv).run P w=.ok y w/\VR ρ v y:=by
 cases rv with
 | tmp t =>
  cases hc
  simp only [vD2] at h
  split at h<;>first | (cases h;done) | skip
  rename_i v hv
  refine⟨v,m,h,AS.refl m,rfl,fun _=>rfl,fun ρ w T N a _ ht _=>?_⟩
  obtain⟨y,h1,h2⟩:=ht.2 t v hv
  exact⟨y,by simp [wN3,h1],h2⟩
 | cell x t =>
  simp only [zN5] at hc
  split at hc<;>first | (cases hc;done) | skip
  rename_i d hd
  have addr:∀ {ρ:Ren} {a:Act} {i off:Nat},tm.get (pth x)=some (.ptr i off)->TR ρ tm a n->∃ b sh K,ρ i=some (b,sh,K)/\a.tmps.getD x undef=.pointer (some ⟨b,sh+off,none⟩):=by
   intro ρ a i off hg ht
   obtain⟨y,h1,h2⟩:=ht.2 x _ hg
   obtain⟨b,sh,K,h3,rfl⟩:=yA1 h2
   exact⟨b,sh,K,h3,by simp [h1]⟩
  split at hc
  ·rename_i hrow
   split at hc<;>first | (cases hc;done) | skip
   rename_i n' hn
   cases hc
   simp only [vD2] at h
   split at h<;>first | (cases h;done) | skip
   rename_i v hv
   unfold ldnK at h
   split at h<;>first | (cases h;done) | skip
   rename_i i off
   have hh:=zD0 h
   clear h
   obtain⟨B,hB,h⟩:=hh
   obtain⟨cs,hl,hcut,h⟩:=zG3 h
   refine⟨_,_,h,zE4 m i,rfl,fun _=>rfl,fun ρ w T N a hT ht hm=>?_⟩
   obtain⟨b,sh,K,g1,g2⟩:=addr hv ht
   obtain⟨V,hV,hcell⟩:=yA3 (hm.mem i B (hT i (bit_or.2 (.inr rfl))) hB) g1 hl hcut
   refine⟨.agg V.toArray,?_,hV.agg⟩
   have:=run_loadVar_mid (P:=P) w b (sh+off) t V d hcell hd (by cases d<;>first | rfl | (cases hrow)) (by rw [<- hV.1,hl];exact hn)
   simp only [wN3]
   rw [g2]
   simp [asAddr,this]
  ·rename_i hrow
   cases hc
   simp only [vD2] at h
   split at h<;>first | (cases h;done) | skip
   rename_i v hv
   unfold ld1K at h
   split at h<;>first | (cases h;done) | skip
   rename_i i off
   have hh:=zD0 h
   clear h
   obtain⟨B,hB,h⟩:=hh
   split at h<;>first | (cases h;done) | skip
   rename_i u hu
   refine⟨_,_,h,zE4 m i,rfl,fun _=>rfl,fun ρ w T N a hT ht hm=>?_⟩
   obtain⟨b,sh,K,g1,g2⟩:=addr hv ht
   obtain⟨b',sh',K',c,e,fz,q1,q2,q3,q4,q5⟩:=hm.mem i B (hT i (bit_or.2 (.inr rfl))) hB
   rw [g1] at q1
   cases q1
   obtain⟨y,hy,huy⟩:=q4 off u (head_drop hu)
   refine⟨y,?_,huy⟩
   simp only [wN3]
   rw [g2]
   simp [asAddr,loadVar,zJ8 hd,hrow,zH3 q2,hy]
theorem yY0 {β:Type}:∀ {rvs:List ResultVar} {ras:List ResA} {tm:T AV} {m:Mem} {k:List AV->Mem->Option β} {res:β},mapO (zN5 P) rvs=some ras->resK ras tm m k=some res ->
  ∃ vs m',k vs m'=some res/\AS m m'/\m'.nx=m.nx/\(∀ j,m'.at j=m.at j)/\∀ (ρ:Ren) (w:World) (T N:Nat) (a:Act),(∀ i,m'.tch.testBit i=true->T.testBit i=true)->TR ρ tm a n->MI ρ w m T N ->
   ∃ ys,(rvs.mapM (wN3 a.tmps):Sem (List Value)).run P w=.ok ys w/\VRs ρ vs ys
 | [],ras,tm,m,k,res,hc,h=>by
  cases hc
  exact⟨[],m,h,AS.refl m,rfl,fun _=>rfl,fun ρ w T N a _ _ _=>⟨[],rfl,VRs.nil⟩⟩
 | rv::rvs,ras,tm,m,k,res,hc,h=>by
  obtain⟨ra,ras',h1,h2,rfl⟩:=yK7 hc
  simp only [resK] at h
  obtain⟨v,m1,hk,ha,hn1,hat1,hs⟩:=uY1 (n:=n) h1 h
  obtain⟨vs,m2,hk2,ha2,hn2,hat2,hs2⟩:=yY0 h2 hk
  refine⟨v::vs,m2,hk2,ha.trans ha2,hn2.trans hn1,fun j=>(hat2 j).trans (hat1 j),fun ρ w T N a hT ht hm=>?_⟩
  obtain⟨y,g1,g2⟩:=hs ρ w T N a (fun i hi=>hT i (ha2.tch i hi)) ht hm
  have hm1:MI ρ w m1 T N:=⟨fun j B hj hB=>hm.mem j B hj (by rw [<- hat1];exact hB),fun j k B C hj hk hB hC=>hm.inj j k B C hj hk (by rw [<- hat1];exact hB) (by rw [<- hat1];exact hC),fun j hj=>by rw [hat1];exact hm.wf j (by rw [<- hn1];exact hj),fun j hj=>hm.fresh j (by rw [<- hn1];exact hj),hm.ice,fun j B b hj hB=>hm.dis j B b hj (by rw [<- hat1];exact hB)⟩
  obtain⟨ys,g3,g4⟩:=hs2 ρ w T N a hT ht hm1
  refine⟨y::ys,?_,.cons g2 g4⟩
  simp only [List.mapM_cons,Sem.run_bind,g1,Result.andThen_ok,g3,Sem.run_pure]
theorem xU9 {ρ:Ren} {vs:List AV} {ys:List Value} (h:VRs ρ vs ys):VR ρ (resV vs) (if h:ys.toArray.size=1 then ys.toArray[0] else .tuple ys.toArray):=by
 cases vs with
 | nil=>rw [h.nil_inv];exact VRs.nil.tup
 | cons v vs =>
  obtain⟨y,ys',rfl,h1,h2⟩:=h.cons_inv
  cases vs with
  | nil=>rw [h2.nil_inv];exact h1
  | cons v' vs =>
   obtain⟨y',ys'',rfl,h3,h4⟩:=h2.cons_inv
   rw [dif_neg (by simp)]
   exact h.tup
theorem vR1 {tab:Nat->Option FnC} {orc:Cl} {L:Nat} (horc:zF6 P orc) (htab:∀ f fc,tab f=some fc->FnOk P f fc) (hmix:P.follows .mixedOrders=true):∀ d,zF6 P (yN7 tab orc L d)
 | 0=>fun f xs m r m' h=>by cases h
 | d+1=>by
  intro f xs m r m' h
  simp only [yN7] at h
  split at h
  ·rename_i r0 hr0
   cases h
   exact horc f xs m r m' hr0
  ·split at h<;>first | (cases h;done) | skip
   rename_i fc hfc
   obtain⟨fn,code,hf,hb,hnm,hn,hcode,hres⟩:=htab f fc hfc
   cases hle:Nat.ble xs.length fc.n with
   | false=>rw [hle] at h;cases h
   | true =>
    rw [hle,cond_true] at h
    have hle':=Nat.le_of_ble_eq_true hle
    obtain⟨tm0,h,htm0⟩:=zX9 h
    cases hev:ev (yN7 tab orc L d) L fc.body tm0 m with
    | none=>rw [hev] at h;cases h
    | some q =>
     obtain⟨ex,tm1,m1⟩:=q
     rw [hev] at h
     have hc:=(qW0 (n:=fc.n) (vR1 horc htab hmix d) hmix L).1 code fc.body tm0 tm1 m m1 ex hcode hev
     have key:(ex=.nrm∨ex=.ret)/\resK fc.res tm1 m1 (fun vs m=>some (resV vs,m))=some (r,m'):=by
      cases ex with
      | nrm=>exact⟨.inl rfl,h⟩
      | ret=>exact⟨.inr rfl,h⟩
      | ext id=>cases h
     obtain⟨hex,hrk⟩:=key
     obtain⟨vs,m2,hk2,ha2,hn2,hat2,hs2⟩:=yY0 (n:=fc.n) hres hrk
     cases hk2
     refine⟨hc.1.trans ha2,⟨fn,hf,hnm,by rw [hb];rfl⟩,fun ρ w T N ys hT hN hv hm=>?_⟩
     refine calls_of_wp hf hb ?_
     refine hc.2 ρ w T N _ _ (fun i hi=>hT i (ha2.tch i hi)) (by rw [<- hn2];exact hN) ⟨?_,fun t x hx=>?_⟩ hm fun ρ1 a1 w1 ht1 hd1 hm1 hc1=>?_
     ·have:=hv.1
      simp only [Array.size_append,List.size_toArray,Array.size_replicate]
      omega
     ·rw [htm0] at hx
      split at hx
      ·rename_i ht
       obtain⟨y,hy1,hy2⟩:=hv.get (j:=t) (x:=x) (by simpa using hx)
       refine⟨y,?_,hy2⟩
       have hlt:t < ys.length:=(List.getElem?_eq_some_iff.1 hy1).1
       rw [Array.getElem?_append_left (by simpa using hlt)]
       simpa using hy1
      ·rw [Ev.T.get_nil] at hx;cases hx
     ·have hmm:MI ρ1 w1 m' T N:=⟨fun j B hj hB=>hm1.mem j B hj (by rw [<- hat2];exact hB),fun j k B C hj hk hB hC=>hm1.inj j k B C hj hk (by rw [<- hat2];exact hB) (by rw [<- hat2];exact hC),fun j hj=>by rw [hat2];exact hm1.wf j (by rw [<- hn2];exact hj),fun j hj=>hm1.fresh j (by rw [<- hn2];exact hj),hm1.ice,fun j B b hj hB=>hm1.dis j B b hj (by rw [<- hat2];exact hB)⟩
      obtain⟨zs,g1,g2⟩:=hs2 ρ1 w1 T N a1 hT ht1 hm1
      have hcs:CS ρ ρ1 w w1 m m':=⟨hc1.ext,fun i x hx=>by rw [hn2];exact hc1.dom i x hx,hc1.size,fun b hb2 hw=>hc1.frame b hb2 fun j B h1 h2=>hw j B (ha2.wr j h1) h2,fun i b h1 h2 h3=>by
       rcases hc1.newb i b h1 (by rw [<- hn2];exact h2) h3 with h4 | ⟨j,B,h5,h6,h7⟩
       ·exact .inl h4
       ·exact .inr ⟨j,B,ha2.wr j h5,h6,h7⟩,hc1.outer,hc1.nice⟩
      have hrun:(results fn a1.tmps).run P w1=.ok (if h:zs.toArray.size=1 then zs.toArray[0] else .tuple zs.toArray) w1:=by
       rw [yA0]
       have e:fn.results=fn.results.toList.toArray:=by simp
       rw [Sem.run_bind,e,List.mapM_toArray,Sem.run_map,g1]
       rfl
      have hfin:a1.defers=[]/\∃ v,(results fn a1.tmps).run P w1=.ok v w1/\∃ ρ' v',Ending.returned v=.returned v'/\VR ρ' (resV vs) v'/\MI ρ' w1 m' T N/\CS ρ ρ' w w1 m m' :=
       ⟨hd1,_,hrun,ρ1,_,rfl,xU9 g2,hmm,hcs⟩
      rcases hex with rfl | rfl
      ·exact hfin
      ·exact hfin
end
def dec:(t:LTy)->List AV->Option (Elem t)
 | .rate,[.str c,.int .i64 y,.int .i64 m,.int .i64 d,.int .i64 b]=>some ⟨⟨⟨c⟩⟩,⟨y,m,d⟩,b⟩
 | .series,[.str c,.int .i64 n,.int .i64 l,.bool s]=>some ⟨⟨⟨c⟩⟩,n,l,s⟩
 | .part,[.str c,.int .i64 b,.int .i64 n,.int .i64 t]=>some ⟨⟨⟨c⟩⟩,b,n,t⟩
 | .posted,[.str s,.int .i64 n,.int .i64 y,.int .i64 m,.int .i64 d,.int .i64 net,.int .i64 tax,.int .i64 gross,.fl .part ps,.str os,.int .i64 on,.bool b] =>
  some ⟨⟨⟨⟨s⟩⟩,n⟩,⟨y,m,d⟩,⟨net,tax,gross,ps⟩,⟨⟨⟨os⟩⟩,on⟩,b⟩
 | .bal,[.str c,.int .i64 n]=>some ⟨⟨⟨c⟩⟩,n⟩
 | .ses,[.int .i64 i,.int .i64 l,.int .i64 w,.int .i64 n,.int .i64 g]=>some ⟨i,l,⟨w,n,g⟩⟩
 | .line,[.str t,.str c,.int .i64 n,.int .i64 p]=>some ⟨⟨⟨t⟩⟩,⟨⟨c⟩⟩,n,p⟩
 | .int,[.int .i64 n]=>some n
 | .call,[.int .i64 se,.int .i64 sq,.int .i64 k,.str s,.int .i64 li,.str rc,.int .i64 ry,.int .i64 rm,.int .i64 rd,.int .i64 rb,.int .i64 y,.int .i64 m,.int .i64 d,.fl .line ls,.str os,.int .i64 on,.int .i64 ss] =>
  some ⟨se,sq,⟨k,⟨⟨s⟩⟩,li,⟨⟨⟨rc⟩⟩,⟨ry,rm,rd⟩,rb⟩,⟨y,m,d⟩,ls,⟨⟨⟨os⟩⟩,on⟩,ss⟩⟩
 | .reply,[.int .i64 w,.int .i64 n,.int .i64 g]=>some ⟨w,n,g⟩
 | .text,[.str s]=>some (⟨⟨s⟩⟩:ByteArray)
 | .pend,[.str s,.int .i64 n,.int .i64 y,.int .i64 m,.int .i64 d,.int .i64 net,.int .i64 tax,.int .i64 gross,.vs pa pl pc,.str os,.int .i64 on,.bool b] =>
  some ⟨⟨⟨⟨s⟩⟩,n⟩,⟨y,m,d⟩,net,tax,gross,pa,pl,pc,⟨⟨⟨os⟩⟩,on⟩,b⟩
 | _,_=>none
theorem zK7 {t:LTy} {cs:List AV} {x:Elem t} (h:dec t cs=some x):enc t x=cs:=by
 unfold dec at h
 split at h<;>first | (cases h;done) | (cases h;rfl)
def decN (t:LTy):Nat->List AV->Option (List (Elem t))
 | 0,[]=>some []
 | 0,_::_=>none
 | n+1,cs=>match dec t (cs.take (wd t)),decN t n (cs.drop (wd t)) with
  | some x,some xs=>some (x::xs)
  | _,_=>none
theorem zO4 {t:LTy}:∀ {n:Nat} {cs:List AV} {xs:List (Elem t)},decN t n cs=some xs->flat t xs=cs/\xs.length=n
 | 0,[],xs,h=>by cases h;exact⟨rfl,rfl⟩
 | 0,_::_,xs,h=>by cases h
 | n+1,cs,xs,h=>by
  simp only [decN] at h
  split at h<;>first | (cases h;done) | skip
  rename_i x xs' h1 h2
  cases h
  obtain⟨h3,h4⟩:=zO4 h2
  refine⟨?_,by simp [h4]⟩
  show enc t x++flat t xs'=cs
  rw [zK7 h1,h3,List.take_append_drop]
theorem zH2 (t:LTy) (l l':List (Elem t)):flat t (l++l')=flat t l++flat t l':=List.flatMap_append
theorem xB3 {t:LTy} {l:List (Elem t)} {n off:Nat} {x:Elem t} {vs:List AV} (hn:n < l.length) (h:Laid off (enc t (nth l n)) vs (enc t x)):Laid (n*wd t+off) (flat t l) vs (flat t (l.set n x)):=by
 have hroom:=h.room
 rw [zF8] at hroom
 have hle:(n+1)*wd t<=l.length*wd t:=Nat.mul_le_mul_right _ hn
 rw [Nat.succ_mul] at hle
 refine⟨by rw [zB5];omega,by rw [zB5,zB5,List.length_set],fun j hj=>?_,fun q hq=>?_⟩
 ·rw [Nat.add_assoc,flat_get t _ n (off+j) (by rw [List.length_set];exact hn) (by omega)]
  have:nth (l.set n x) n=x:=by simp [nth,List.getD,hn]
  rw [this]
  exact h.inn j hj
 ·rcases Nat.lt_or_ge q (l.length*wd t) with hlt | hge
  ·have hx:(flat t (l.set n x))[q]?=some ((flat t (l.set n x))[q]'(by rw [zB5,List.length_set];exact hlt)):=List.getElem?_eq_getElem _
   obtain⟨n',j,h1,h2,h3,h4⟩:=zQ7 hx
   rw [List.length_set] at h1
   subst h3
   rw [flat_get t _ n' j (by rw [List.length_set];exact h1) h2,flat_get t l n' j h1 h2]
   by_cases he:n'=n
   ·subst he
    have:nth (l.set n' x) n'=x:=by simp [nth,List.getD,hn]
    rw [this]
    exact h.out j (by omega)
   ·have:nth (l.set n x) n'=nth l n':=by
     simp only [nth,List.getD]
     rw [List.getElem?_set_ne (fun e=>he e.symm)]
    rw [this]
  ·rw [List.getElem?_eq_none (by rw [zB5,List.length_set];exact hge),List.getElem?_eq_none (by rw [zB5];exact hge)]
theorem wK9:∀ (t:LTy) (x:Elem t),(enc t x).all scal=true
 | .rate,_=>rfl
 | .series,_=>rfl
 | .part,_=>rfl
 | .posted,_=>rfl
 | .bal,_=>rfl
 | .ses,_=>rfl
 | .line,_=>rfl
 | .int,_=>rfl
 | .call,_=>rfl
 | .reply,_=>rfl
 | .byte,_=>rfl
 | .text,_=>rfl
 | .pend,_=>rfl
theorem zO3 (t:LTy) (l:List (Elem t)):(flat t l).all scal=true:=by
 induction l with
 | nil=>rfl
 | cons x l ih =>
  show (enc t x++flat t l).all scal=true
  rw [List.all_append,wK9,ih];rfl
section
variable {P:Program} {o:Oper} {ops:List Operand} {vs:List AV} {m m':Mem} {r:AV}
theorem xX3 {t:TypeId} {x:Operand} {d:TypeDesc} {lt:LTy} {l:List (Elem lt)} {n off:Nat} (ho:o.op=.load t x) (hd:P.underlying t=some d) (hr:zI0 d=false) (hv:(enc lt (nth l n))[off]?=some r) :
  Good P o [x] [.fp lt l n off] m r m :=
 zC0 (AS.refl m) fun ρ w T N a _ _ hvs hm=>by
  have h1:=VRs.one hvs
  generalize hX:a.eval x=X at h1
  cases h1 with
  | fp hi hs h =>
   rename_i b oo c
   obtain⟨e,fz,hh⟩:=hm.ice _ _ hi
   have hc:∀ j,j < 1->∃ x,(enc lt (nth l n))[off+j]?=some x/\[r][j]?=some x:=fun j hj=>by
    obtain rfl:j=0:=by omega
    exact⟨r,hv,rfl⟩
   obtain⟨V,hV,hcell⟩:=xA6 (cs:=[r]) (q:=off) (n:=1) hh (by rw [zF8];exact hs) h rfl hc
   obtain⟨y,V',rfl,hy,hn⟩:=hV.cons_inv
   have hc0:=hcell 0 y rfl
   refine⟨ρ,w,y,yldw (by simp only [execOp,ho]<;>rfl) ?_,hy,hm,CS.refl ρ w m⟩
   rw [hX]
   simp [Instr.loadAt,Instr.sureAddr,loadVar,zJ8 hd,hr,show w.cell? ⟨b,oo+off,none⟩=some y from hc0]
theorem xX2 {t:TypeId} {x:Operand} {d:TypeDesc} {lt:LTy} {l:List (Elem lt)} {n off k:Nat} {cs:List AV} (ho:o.op=.load t x) (hd:P.underlying t=some d) (hr:zI0 d=true) (hn:szOf P t=some k)
  (hl:cs.length=k) (hc:∀ j,j < k->∃ x,(enc lt (nth l n))[off+j]?=some x/\cs[j]?=some x):Good P o [x] [.fp lt l n off] m (.agg cs) m :=
 zC0 (AS.refl m) fun ρ w T N a _ _ hvs hm=>by
  have h1:=VRs.one hvs
  generalize hX:a.eval x=X at h1
  cases h1 with
  | fp hi hs h =>
   rename_i b oo c
   obtain⟨e,fz,hh⟩:=hm.ice _ _ hi
   obtain⟨V,hV,hcell⟩:=xA6 (cs:=cs) (q:=off) (n:=k) hh (by rw [zF8];exact hs) h hl hc
   refine⟨ρ,w,.agg V.toArray,yldw (by simp only [execOp,ho]<;>rfl) ?_,hV.agg,hm,CS.refl ρ w m⟩
   rw [hX]
   refine run_loadAt_mid w b (oo+off) t V d hcell hd (by cases d<;>first | rfl | (cases hr)) ?_
   rw [<- hV.1,hl]
   exact hn
end
section
variable {P:Program} {o:Oper} {ops:List Operand} {vs vs1:List AV} {m m' m1 m2:Mem} {r:AV}
theorem Good.weaken (h:Good P o ops vs1 m r m') (hv:∀ (ρ:Ren) (ys:List Value),VRs ρ vs ys->VRs ρ vs1 ys):Good P o ops vs m r m' :=
 ⟨h.1,fun ρ w T N a next Q hT hN hvs hm hk=>h.2 ρ w T N a next Q hT hN (hv ρ _ hvs) hm hk⟩
theorem Good.result {r':AV} (h:Good P o ops vs m r m') (hv:∀ (ρ:Ren) (v:Value),VR ρ r v->VR ρ r' v):Good P o ops vs m r' m' :=
 ⟨h.1,fun ρ w T N a next Q hT hN hvs hm hk=>h.2 ρ w T N a next Q hT hN hvs hm fun ρ' w' v h1 h2 h3=>hk ρ' w' v (hv ρ' v h1) h2 h3⟩
theorem zM1 {kd:Kd} (hc:zC9 P o.op=some (kd,ops)) (h:∀ (ρ:Ren) (ys:List Value),VRs ρ vs ys->∃ (ρ1:Ren) (vs1:List AV) (r1:AV),VRs ρ1 vs1 ys/\zK2 kd vs1=some r1/\∀ v,VR ρ1 r1 v->VR ρ r v):Good P o ops vs m r m :=
 zC0 (AS.refl m) fun ρ w T N a _ _ hv hm=>by
  obtain⟨ρ1,vs1,r1,h1,h2,h3⟩:=h ρ _ hv
  obtain⟨v,h4,h5⟩:=yT0 (w:=w) hc h1 h2
  exact⟨ρ,w,v,h4,h3 v h5,hm,CS.refl ρ w m⟩
theorem uT9 {ρ:Ren} {i n e off:Nat} {v:Value} (h:VR ρ (.tp i n e off) v):VR ρ (.ptr i (n*e+off)) v:=by
 cases h with
 | tp hr =>
  have:=VR.ptr (off:=n*e+off) hr
  rw [<- Nat.add_assoc] at this
  exact this
theorem wY1 {ρ:Ren} {i n e off q:Nat} {v:Value} (h:VR ρ (.ptr i q) v) (hq:q=n*e+off):VR ρ (.tp i n e off) v:=by
 cases h with
 | ptr hr =>
  subst hq
  have:=VR.tp (n:=n) (e:=e) (off:=off) hr
  rw [Nat.add_assoc] at this
  exact this
theorem VRs.head {ρ:Ren} {x x1:AV} {xs:List AV} {ys:List Value} (h:VRs ρ (x::xs) ys) (hx:∀ v,VR ρ x v->VR ρ x1 v):VRs ρ (x1::xs) ys:=by
 obtain⟨y,ys',rfl,h1,h2⟩:=h.cons_inv
 exact .cons (hx y h1) h2
theorem xX9 {ρ:Ren} {t:LTy} {l:List (Elem t)} {v:Value} (h:VR ρ (.fl t l) v) :
  (l=[]/\v=.slice none 0 0)∨(l=[]/\∃ a c,v=.slice (some a) 0 c) ∨
  ∃ b q cap c,v=.slice (some ⟨b,q,none⟩) l.length cap/\l.length<=cap/\ρ.ice b=some c/\q+l.length*wd t<=c.size /\
   ∀ (n j:Nat) (x:AV) (y:Value),n < l.length->(enc t (nth l n))[j]?=some x->c[q+n*wd t+j]?=some y->VR ρ x y:=by
 cases h with
 | fl0=>exact .inl ⟨rfl,rfl⟩
 | fle a c=>exact .inr (.inl ⟨rfl,_,_,rfl⟩)
 | fl hi hs hc h=>exact .inr (.inr ⟨_,_,_,_,rfl,hc,hi,hs,h⟩)
def ρd (b q:Nat):Ren:=⟨fun _=>some (b,q,0),fun _=>none⟩
theorem yX0 (b q len cap:Nat):VR (ρd b q) (.sl 0 0 len cap) (.slice (some ⟨b,q,none⟩) len cap):=VR.sl (off:=0) len cap rfl
theorem xX1 {t:LTy} {l:List (Elem t)} (hc:zC9 P o.op=some (.len,ops)):Good P o ops [.fl t l] m (.int .i64 (.ofNat l.length)) m:=by
 refine zM1 hc fun ρ ys h=>?_
 obtain⟨y,ys',rfl,h1,h2⟩:=h.cons_inv
 rw [h2.nil_inv]
 have key:∀ {ρ':Ren} {k:IntKind} {n:Int} {v:Value},VR ρ' (.int k n) v->VR ρ (.int k n) v:=fun h=>by cases h;exact .int _ _
 rcases xX9 h1 with⟨rfl,rfl⟩ | ⟨rfl,a,c,rfl⟩ | ⟨b,q,cap,c,rfl,_⟩
 ·exact⟨ρ,[.nilsl],_,.cons .nilsl .nil,rfl,fun v h=>h⟩
 ·exact⟨ρ,[.emp],_,.cons (.emp _ _) .nil,rfl,fun v h=>h⟩
 ·exact⟨ρd b q,[.sl 0 0 l.length cap],_,.cons (yX0 _ _ _ _) .nil,rfl,fun v h=>key h⟩
theorem xX5 {t:LTy} {l:List (Elem t)} {k:IntKind} {n:Nat} (hc:zC9 P o.op=some (.ixs (wd t),ops)) (hn:n < l.length):Good P o ops [.fl t l,.int k (.ofNat n)] m (.fp t l n 0) m:=by
 refine zM1 hc fun ρ ys h=>?_
 obtain⟨y,ys',rfl,h1,h2⟩:=h.cons_inv
 rcases xX9 h1 with⟨rfl,rfl⟩ | ⟨rfl,a,c,rfl⟩ | ⟨b,q,cap,c,rfl,hcap,hi,hs,hcell⟩
 ·simp at hn
 ·simp at hn
 ·obtain⟨z,ys'',rfl,h3,h4⟩:=h2.cons_inv
  rw [h4.nil_inv]
  refine⟨ρd b q,[.sl 0 0 l.length cap,.int k (.ofNat n)],.ptr 0 (0+n*wd t),.cons (yX0 _ _ _ _) (.cons (by cases h3;exact .int _ _) .nil),?_,fun v hv=>?_⟩
  ·simp only [zK2,two2,ixsA,idxA,blt_iff.2 hn,cond_true]
  ·obtain⟨b',sh,K,h5,rfl⟩:=yA1 hv
   cases h5
   have hw:(n+1)*wd t<=l.length*wd t:=Nat.mul_le_mul_right _ hn
   rw [Nat.succ_mul] at hw
   have:=VR.fp (ρ:=ρ) (t:=t) (l:=l) (n:=n) (off:=0) (o:=q+n*wd t) hi (by omega) fun j x y hx hy=>hcell n j x y hn hx hy
   rw [Nat.zero_add]
   exact this
theorem xX8 {t:LTy} {l:List (Elem t)} {n q off:Nat} (hc:zC9 P o.op=some (.fad off,ops)):Good P o ops [.fp t l n q] m (.fp t l n (q+off)) m:=by
 refine zM1 hc fun ρ ys h=>?_
 obtain⟨y,ys',rfl,h1,h2⟩:=h.cons_inv
 rw [h2.nil_inv]
 cases h1 with
 | fp hi hs hq =>
  rename_i b oo c
  refine⟨ρd b oo,[.ptr 0 q],.ptr 0 (q+off),.cons (.ptr (off:=q) rfl) .nil,rfl,fun v hv=>?_⟩
  obtain⟨b',sh,K,h5,rfl⟩:=yA1 hv
  cases h5
  exact VR.fp hi hs hq
theorem xX7 {i n e q off:Nat} (hc:zC9 P o.op=some (.fad off,ops)):Good P o ops [.tp i n e q] m (.tp i n e (q+off)) m:=by
 refine zM1 hc fun ρ ys h=>?_
 exact⟨ρ,[.ptr i (n*e+q)],.ptr i (n*e+q+off),h.head fun v=>uT9,rfl,fun v hv=>wY1 hv (Nat.add_assoc _ _ _)⟩
theorem xX4 {b e len n:Nat} {k:IntKind} (hc:zC9 P o.op=some (.ixs e,ops)) (hn:n < len):Good P o ops [.so b e 0 len,.int k (.ofNat n)] m (.tp b n e 0) m:=by
 refine zM1 hc fun ρ ys h=>⟨ρ,_,.ptr b (0*e+n*e),h,?_,fun v hv=>wY1 hv (by omega)⟩
 simp only [zK2,two2,ixsA,idxA,blt_iff.2 hn,cond_true,beqN.2 rfl]
theorem xX6 {b len e n:Nat} {k:IntKind} (hc:zC9 P o.op=some (.ixa len e,ops)) (hn:n < len):Good P o ops [.ptr b 0,.int k (.ofNat n)] m (.tp b n e 0) m:=by
 refine zM1 hc fun ρ ys h=>⟨ρ,_,.ptr b (0+n*e),h,?_,fun v hv=>wY1 hv (by omega)⟩
 simp only [zK2,two2,ixaA,idxA,blt_iff.2 hn,cond_true]
theorem uF9 {t:LTy} (l:List (Elem t)) (a n:Nat):nth (l.drop a) n=nth l (a+n):=by
 simp only [nth,List.getD,List.getElem?_drop]
theorem uF8 {t:LTy} (l:List (Elem t)) {a n:Nat} (h:n < a):nth (l.take a) n=nth l n:=by
 simp only [nth,List.getD,List.getElem?_take,h,if_true]
theorem zU4 {t:LTy} {l:List (Elem t)} {lo hi:Bool} {xs:List AV} {a b:Nat} (hc:zC9 P o.op=some (.slc (wd t) lo hi,ops)) (hb:zU6 lo hi l.length xs=some (a,b)) (hab:a<=b) (hbl:b<=l.length)
  (hx:∀ (ρ:Ren) (ys:List Value),VRs ρ xs ys->∀ ρ':Ren,VRs ρ' xs ys) (hcap:∀ cap,l.length<=cap->zU6 lo hi (bif hi then cap else l.length) xs=some (a,b)):Good P o ops (.fl t l::xs) m (.fl t ((l.drop a).take (b - a))) m:=by
 refine zM1 hc fun ρ ys h=>?_
 obtain⟨y,ys',rfl,h1,h2⟩:=h.cons_inv
 rcases xX9 h1 with⟨rfl,rfl⟩ | ⟨rfl,ad,c,rfl⟩ | ⟨bb,q,cap,c,rfl,hcp,hi',hs,hcell⟩
 ·refine⟨ρ,.nilsl::xs,.nilsl,.cons .nilsl h2,?_,fun v hv=>?_⟩
  ·simp only [zK2,headA,slcA]
   simp only [List.length_nil] at hb
   rw [hb]
  ·cases hv
   simp only [List.drop_nil,List.take_nil]
   exact .fl0 t
 ·refine⟨ρ,.emp::xs,.emp,.cons (.emp _ _) h2,?_,fun v hv=>?_⟩
  ·simp only [zK2,headA,slcA]
   simp only [List.length_nil] at hb
   rw [hb]
  ·cases hv
   simp only [List.drop_nil,List.take_nil]
   exact .fle t _ _
 ·have hlen:((l.drop a).take (b - a)).length=b - a:=by simp;omega
  have hpure:slcA (wd t) lo hi (.sl 0 0 l.length cap) xs=bif Nat.beq a cap then (bif Nat.beq b a then some .emp else none) else some (.sl 0 (0+a*wd t) (b - a) (cap - a)):=by
   simp only [slcA,hcap cap hcp]
  by_cases he:a=cap
  ·have hba:b=a:=by omega
   refine⟨ρd bb q,.sl 0 0 l.length cap::xs,.emp,.cons (yX0 _ _ _ _) (hx _ _ h2 _),?_,fun v hv=>?_⟩
   ·simp only [zK2,headA,hpure,beqN.2 he,beqN.2 hba,cond_true]
   ·have:(l.drop a).take (b - a)=[]:=List.eq_nil_of_length_eq_zero (by omega)
    rw [this]
    cases hv
    exact .fle t _ _
  ·have hbf:Nat.beq a cap=false:=by
    cases hh:Nat.beq a cap with
    | false=>rfl
    | true=>exact absurd (beqN.1 hh) he
   refine⟨ρd bb q,.sl 0 0 l.length cap::xs,.sl 0 (0+a*wd t) (b - a) (cap - a),.cons (yX0 _ _ _ _) (hx _ _ h2 _),?_,fun v hv=>?_⟩
   ·simp only [zK2,headA,hpure,hbf,cond_false]
   ·cases hv with
    | sl _ _ hr =>
     cases hr
     have hw:(a+(b - a))*wd t<=l.length*wd t:=Nat.mul_le_mul_right _ (by omega)
     rw [Nat.add_mul] at hw
     have:=VR.fl (ρ:=ρ) (t:=t) (l:=(l.drop a).take (b - a)) (o:=q+a*wd t) (cap:=cap - a) hi' (by rw [hlen];omega) (by rw [hlen];omega) fun n j x y hn hx hy=>by
      rw [hlen] at hn
      rw [uF8 _ hn,uF9] at hx
      refine hcell (a+n) j x y (by omega) hx ?_
      rw [Nat.add_mul,<- Nat.add_assoc]
      exact hy
     rw [hlen] at this
     rw [Nat.zero_add]
     exact this
structure Rty (m1 m2:Mem):Prop where
 nx:m2.nx=m1.nx
 tch:m2.tch=m1.tch
 wr:m2.wr=m1.wr
 at':∀ i B,m2.at i=some B->∃ B1,m1.at i=some B1/\B1.cells=B.cells/\B1.esz=B.esz/\B1.opn=B.opn
 same:∀ i,m1.wr.testBit i=false->m2.at i=m1.at i
theorem qB2 {ρ:Ren} {H:Array Obj} {i:Nat} {B B1:Blk} (h:MR ρ H i B1) (hc:B1.cells=B.cells) (he:B1.esz=B.esz) (ho:B1.opn=B.opn):MR ρ H i B:=by
 obtain⟨b,sh,K,c,e,fz,h1,h2,h3,h4,h5⟩:=h
 rw [hc] at h4 h5
 rw [ho,he] at h5
 rw [he] at h3
 exact⟨b,sh,K,c,e,fz,h1,h2,h3,h4,h5⟩
theorem qQ9 {ρ:Ren} {w:World} {T N:Nat} (hr:Rty m1 m2) (h:MI ρ w m1 T N):MI ρ w m2 T N:=by
 refine⟨fun i B hi hB=>?_,fun i j B C hi hj hB hC hne=>?_,fun i hi=>?_,fun i h1 h2=>h.fresh i (by rw [<- hr.nx];exact h1) h2,h.ice,fun i B b hi hB hb=>?_⟩
 ·obtain⟨B1,h1,h2,h3,h4⟩:=hr.at' i B hB
  exact qB2 (h.mem i B1 hi h1) h2 h3 h4
 ·obtain⟨B1,h1,_⟩:=hr.at' i B hB
  obtain⟨C1,h2,_⟩:=hr.at' j C hC
  exact h.inj i j B1 C1 hi hj h1 h2 hne
 ·cases hB:m2.at i with
  | none=>rfl
  | some B =>
   obtain⟨B1,h1,_⟩:=hr.at' i B hB
   rw [h.wf i (by rw [<- hr.nx];exact hi)] at h1
   cases h1
 ·obtain⟨B1,h1,_⟩:=hr.at' i B hB
  exact h.dis i B1 b hi h1 hb
theorem qX9 (hr:Rty m1 m2) (h:AS m m1):AS m m2:=by
 refine⟨by rw [hr.nx];exact h.nx,fun i hi=>by rw [hr.tch];exact h.tch i hi,fun i hi=>by rw [hr.wr];exact h.wr i hi,fun hw i hi=>by rw [hr.tch];rw [hr.wr] at hi;exact h.wt hw i hi,fun hw i hi=>?_,fun i B hi hB=>?_,fun i hi hw=>?_,fun i h1 h2=>by rw [hr.wr];exact h.new i h1 (by rw [<- hr.nx];exact h2)⟩
 ·cases hB:m2.at i with
  | none=>rfl
  | some B =>
   obtain⟨B1,h1,_⟩:=hr.at' i B hB
   rw [h.wf hw i (by rw [<- hr.nx];exact hi)] at h1
   cases h1
 ·obtain⟨B1,h1,_⟩:=hr.at' i B hB
  exact h.live i B1 hi h1
 ·rw [hr.wr] at hw
  rw [hr.same i hw,h.keep i hi hw]
theorem qX0 {ρ ρ':Ren} {w w':World} (hr:Rty m1 m2) (h:CS ρ ρ' w w' m m1):CS ρ ρ' w w' m m2 :=
 ⟨h.ext,fun i x hx=>by rw [hr.nx];exact h.dom i x hx,h.size,fun b hb hw=>h.frame b hb fun j B h1 h2=>hw j B (by rw [hr.wr];exact h1) h2,fun i b h1 h2 h3=>by
  rcases h.newb i b h1 (by rw [<- hr.nx];exact h2) h3 with h4 | ⟨j,B,h5,h6,h7⟩
  ·exact .inl h4
  ·exact .inr ⟨j,B,by rw [hr.wr];exact h5,h6,h7⟩,h.outer,h.nice⟩
theorem Good.retype (h:Good P o ops vs m r m1) (hr:Rty m1 m2):Good P o ops vs m r m2 :=
 ⟨qX9 hr h.1,fun ρ w T N a next Q hT hN hv hm hk=>h.2 ρ w T N a next Q (fun i hi=>hT i (by rw [hr.tch];exact hi)) (by rw [<- hr.nx];exact hN) hv hm fun ρ' w' v h1 h2 h3=>hk ρ' w' v h1 (qQ9 hr h2) (qX0 hr h3)⟩
theorem uY0 (m:Mem) (i:Nat) {B B':Blk} (hc:B.cells=B'.cells) (he:B.esz=B'.esz) (ho:B.opn=B'.opn):Rty (m.put i B) (m.put i B'):=by
 refine⟨rfl,rfl,rfl,fun j C hC=>?_,fun j hj=>?_⟩
 ·rw [zI6] at hC ⊢
  split at hC
  ·cases hC;rename_i h;rw [if_pos h];exact⟨_,rfl,hc,he,ho⟩
  ·rename_i h;rw [if_neg h];exact⟨_,hC,rfl,rfl,rfl⟩
 ·rw [zI6,zI6]
  split
  ·rename_i h
   subst h
   have:(m.put j B).wr.testBit j=true:=bit_or.2 (.inr rfl)
   rw [this] at hj;cases hj
  ·rfl
theorem yI9 (m:Mem) {B B':Blk} (hc:B.cells=B'.cells) (he:B.esz=B'.esz) (ho:B.opn=B'.opn):Rty (m.new B) (m.new B'):=by
 refine⟨rfl,rfl,rfl,fun j C hC=>?_,fun j hj=>?_⟩
 ·rw [at_new] at hC ⊢
  split at hC
  ·cases hC;rename_i h;rw [if_pos h];exact⟨_,rfl,hc,he,ho⟩
  ·rename_i h;rw [if_neg h];exact⟨_,hC,rfl,rfl,rfl⟩
 ·rw [at_new,at_new]
  split
  ·rename_i h
   subst h
   have:(m.new B).wr.testBit m.nx=true:=bit_or.2 (.inr rfl)
   rw [this] at hj;cases hj
  ·rfl
end
noncomputable section
def yN1 {β:Type} (n:Nat) (k:Nat->β):β:=Nat.rec (motive:=fun _=>β) (k 0) (fun p _=>k (Nat.succ p)) n
theorem yV1 {β:Type} (n:Nat) (k:Nat->β):yN1 n k=zD4 n k:=by cases n<;>rfl
def getF {α:Type} (t:T α) (p:Path):Option α :=
 List.rec (motive:=fun _=>T α->Option α) (fun t=>T.rec (motive:=fun _=>Option α) none (fun _ x _ _ _=>x) t)
  (fun b _ ih t=>T.rec (motive:=fun _=>Option α) none (fun l _ r _ _=>ih (Bool.rec (motive:=fun _=>T α) r l b)) t) p t
theorem vO1 {α:Type} (t:T α) (p:Path):getF t p=t.get p:=by
 induction p generalizing t with
 | nil=>cases t<;>rfl
 | cons b p ih =>
  cases t with
  | nil=>rfl
  | node l x r=>cases b<;>exact ih _
def setF {α β:Type} (t:T α) (p:Path) (v:α) (k:T α->β):β :=
 List.rec (motive:=fun _=>T α->(T α->β)->β)
  (fun t k=>T.rec (motive:=fun _=>β) (k (.node .nil (some v) .nil)) (fun l _ r _ _=>k (.node l (some v) r)) t)
  (fun b _ ih t k=>T.rec (motive:=fun _=>β)
   (Bool.rec (motive:=fun _=>β) (ih .nil fun r=>k (.node .nil none r)) (ih .nil fun l=>k (.node l none .nil)) b)
   (fun l x r _ _=>Bool.rec (motive:=fun _=>β) (ih r fun r=>k (.node l x r)) (ih l fun l=>k (.node l x r)) b) t) p t k
theorem vA2 {α β:Type} (t:T α) (p:Path) (v:α) (k:T α->β):setF t p v k=t.setK p v k:=by
 induction p generalizing t k with
 | nil=>cases t<;>rfl
 | cons b p ih=>cases t<;>cases b<;>exact ih _ _
def opdF {β:Type} (x:Opd) (tm:T AV) (k:AV->Option β):Option β :=
 Opd.rec (motive:=fun _=>Option β) (fun p=>Option.rec (motive:=fun _=>Option β) none k (getF tm p)) k x
theorem vE9 {β:Type} (x:Opd) (tm:T AV) (k:AV->Option β):opdF x tm k=opdK x tm k:=by
 cases x with
 | c v=>rfl
 | t p =>
  simp only [opdF,opdK,vO1]
  cases tm.get p<;>rfl
def vT4 {β:Type} (xs:List Opd) (tm:T AV) (k:List AV->Option β):Option β :=
 List.rec (motive:=fun _=>(List AV->Option β)->Option β) (fun k=>k []) (fun x _ ih k=>opdF x tm fun v=>ih fun vs=>k (v::vs)) xs k
theorem uO6 {β:Type} (xs:List Opd) (tm:T AV) (k:List AV->Option β):vT4 xs tm k=yR6 xs tm k:=by
 induction xs generalizing k with
 | nil=>rfl
 | cons x xs ih =>
  show opdF x tm (fun v=>vT4 xs tm fun vs=>k (v::vs))=opdK x tm fun v=>yR6 xs tm fun vs=>k (v::vs)
  rw [vE9]
  congr 1
  funext v
  exact ih _
def putF {β:Type} (dst:Option Path) (v:AV) (tm:T AV) (k:T AV->Option β):Option β :=
 Option.rec (motive:=fun _=>Option β) (k tm) (fun p=>xP4 v fun v=>setF tm p v k) dst
theorem vE1 {β:Type} (dst:Option Path) (v:AV) (tm:T AV) (k:T AV->Option β):putF dst v tm k=xV0 dst v tm k:=by
 cases dst with
 | none=>rfl
 | some p=>simp only [putF,xV0,vA2]
abbrev Ko (β:Type):=List AV->Mem->(AV->Mem->Option β)->Option β
def zG9 {β:Type} (f:List AV->Option AV):Ko β:=fun xs m k=>Option.rec (motive:=fun _=>Option β) none (fun v=>k v m) (f xs)
theorem uJ3 {β:Type} (f:List AV->Option AV) (xs:List AV) (m:Mem) (k:AV->Mem->Option β):zG9 f xs m k=match f xs with | some v=>k v m | none=>none:=by
 unfold zG9
 cases f xs<;>rfl
def pMov:List AV->Option AV:=one1 some
def pPick:List AV->Option AV:=zK2 .pick
def qP5 (zs:List AV) (ps:List (Nat × Nat)):List AV->Option AV:=fun xs=>zS5 zs ps xs fun cs=>some (.agg cs)
def qP0:AV->Option AV:=fun x=>match x with | .ptr _ _=>some x | .fn _ _=>some x | .ifc _ _=>some x | _=>none
def pBin2 (op:BinOp):AV->AV->Option AV:=fun x y=>match x,y with | .int k a,.int k' b=>binA op k k' a b | _,_=>none
def qO9 (op:BinOp):AV->AV->Option AV:=fun x y=>match x,y with | .str a,.str b=>vA3 op a b | _,_=>none
def pEqk2 (neg:Bool) (k:EqK):AV->AV->Option AV:=fun x y=>match eqkA k x y with | some b=>some (.bool (bif neg then !b else b)) | none=>none
def pEqa2 (neg:Bool) (ls:List (Nat × Leaf)):AV->AV->Option AV:=fun x y=>match x,y with
 | .agg a,.agg b=>(match zJ2 a b ls with | some b=>some (.bool (bif neg then !b else b)) | none=>none)
 | _,_=>none
def pCvi1 (k:IntKind):AV->Option AV:=fun x=>match x with | .int _ n=>some (.int k (zA3 k n)) | _=>none
def pCvs1:AV->Option AV:=fun x=>match x with | .str s=>some (.str s) | _=>none
def pMki1 (t:Nat):AV->Option AV:=fun x=>some (.ifc t x)
def pMkf (f:Nat):List AV->Option AV:=fun xs=>some (.fn f xs)
def pFad1 (off:Nat):AV->Option AV:=fun x=>match x with | .ptr i o=>some (.ptr i (o+off)) | _=>none
def qP4 (off:Nat):AV->Option AV:=fun x=>match x with | .agg cs=>(zP7 off cs).head? | _=>none
def qP3 (off n:Nat):AV->Option AV:=fun x=>match x with | .agg cs=>cutK off n cs fun cs=>some (.agg cs) | _=>none
def pIa12 (len:Nat):AV->AV->Option AV:=fun x i=>match x with | .agg cs=>(match idxA i len with | some i=>(zP7 i cs).head? | none=>none) | _=>none
def pIan2 (len n:Nat):AV->AV->Option AV:=fun x i=>match x with | .agg cs=>(match idxA i len with | some i=>cutK (i*n) n cs fun cs=>some (.agg cs) | none=>none) | _=>none
def qP2:AV->AV->Option AV:=fun x i=>match x with | .str s=>(match idxA i s.length with | some i=>(match s[i]? with | some b=>some (.int .u8 (.ofNat b.toNat)) | none=>none) | none=>none) | _=>none
def pExt1 (i:Nat):AV->Option AV:=fun x=>match x with | .tup vs=>(zP7 i vs).head? | _=>none
def pLen1:AV->Option AV:=fun x=>match lenA x with | some n=>some (.int .i64 (.ofNat n)) | none=>none
def uY9:AV->Option AV:=fun x=>match x with | .str s=>some (.int .i64 (.ofNat s.length)) | _=>none
def qP1 (n:Nat):AV->Option AV:=fun _=>some (.int .i64 (.ofNat n))
def pCap1:AV->Option AV:=fun x=>match x with | .sl _ _ _ c=>some (.int .i64 (.ofNat c)) | .nilsl=>some (.int .i64 0) | _=>none
def kNew {β:Type} (zs:List AV):Ko β:=fun _ m k=>newK m (.raw zs 1 false) fun i m=>k (.ptr i 0) m
def kBox {β:Type}:Ko β:=fun xs m k=>on1 (fun x=>zH1 (zF3 x) fun cs=>newK m (.raw cs 1 false) fun i m=>k (.ptr i 0) m) xs
def kBsl {β:Type} (zs:List AV) (len esz:Nat) (ps:List (Nat × Nat)):Ko β:=fun xs m k=>zS5 (repA zs len) ps xs fun cs=>zH1 cs fun cs=>newK m (.raw cs esz false) fun i m=>k (.sl i 0 len len) m
def kLd1 {β:Type}:Ko β:=fun xs m k=>on1 (fun x=>ld1K x m k) xs
def kLdn {β:Type} (n:Nat):Ko β:=fun xs m k=>on1 (fun x=>ldnK n x m k) xs
def kSt {β:Type} (n:Nat):Ko β:=fun xs m k=>on2 (fun x v=>stK n x v m k) xs
def kCvbs {β:Type}:Ko β:=fun xs m k=>on1 (fun x=>uN2 x m k) xs
def kCvsb {β:Type}:Ko β:=fun xs m k=>on1 (fun x=>uN1 x m k) xs
def kMks {β:Type} (zs:List AV) (esz bytes:Nat):Ko β:=fun xs m k=>on2 (fun l c=>mksK zs esz bytes l c m k) xs
def kApp {β:Type} (esz bytes:Nat):Ko β:=fun xs m k=>on2 (fun x y=>appK esz bytes x y m k) xs
def kCpy {β:Type} (esz:Nat):Ko β:=fun xs m k=>on2 (fun x y=>cpyK esz x y m k) xs
def kClr {β:Type} (zs:List AV):Ko β:=fun xs m k=>on1 (fun x=>clrK zs x m k) xs
def kCall {β:Type} (cl:Cl) (f:Nat):Ko β:=fun xs m k=>zH1 xs fun xs=>yR5 cl f xs m k
def qS6 {β:Type} (cl:Cl):Ko β:=fun xs m k=>(match xs with | .fn f cs::xs=>zH1 (xs++cs) fun xs=>yR5 cl f xs m k | _=>none)
def kInv {β:Type} (cl:Cl) (tbl:List (Nat × Nat)):Ko β:=fun xs m k=>(match xs with | .ifc t v::xs=>(match tblA t tbl with | some f=>zH1 (v::xs) fun xs=>yR5 cl f xs m k | none=>none) | _=>none)
def kBad {β:Type}:Ko β:=fun _ _ _=>none
def kdF {β:Type} (cl:Cl) (kd:Kd):Ko β :=
 Kd.rec (motive:=fun _=>Ko β)
  (zG9 pMov) (zG9 pPick) kNew kBox (fun zs ps=>zG9 (qP5 zs ps)) kBsl kLd1 kLdn kSt (zG9 (one1 qP0))
  (fun op=>zG9 (two2 (pBin2 op))) (fun op=>zG9 (two2 (qO9 op))) (fun neg k=>zG9 (two2 (pEqk2 neg k))) (fun neg ls=>zG9 (two2 (pEqa2 neg ls)))
  (fun op=>zG9 (one1 (unA op))) (fun k=>zG9 (one1 (pCvi1 k))) (zG9 (one1 pCvs1)) kCvbs kCvsb (fun t=>zG9 (one1 (pMki1 t))) (fun f=>zG9 (pMkf f)) kMks
  (fun esz lo hi=>zG9 (headA (slcA esz lo hi))) (fun lo hi=>zG9 (headA (slsA lo hi))) (fun off=>zG9 (one1 (pFad1 off))) (fun off=>zG9 (one1 (qP4 off))) (fun off n=>zG9 (one1 (qP3 off n)))
  (fun esz=>zG9 (two2 (ixsA esz))) (fun len esz=>zG9 (two2 (ixaA len esz))) (fun len=>zG9 (two2 (pIa12 len))) (fun len n=>zG9 (two2 (pIan2 len n))) (zG9 (two2 qP2))
  (fun t ok z=>zG9 (one1 (tasA t ok z))) (fun i=>zG9 (one1 (pExt1 i))) (zG9 (one1 pLen1)) (zG9 (one1 uY9)) (fun n=>zG9 (one1 (qP1 n))) (zG9 (one1 pCap1))
  kApp kCpy kClr (zG9 (two2 (mmA false))) (zG9 (two2 (mmA true))) (kCall cl) (qS6 cl) (kInv cl) kBad kd
theorem qS5 {β:Type} (cl:Cl) (kd:Kd) (xs:List AV) (m:Mem) (k:AV->Mem->Option β):kdF cl kd xs m k=kdK cl kd xs m k:=by
 cases kd<;>first | rfl | exact uJ3 _ _ _ _
def opF {β:Type} (cl:Cl) (o:AOper) (tm:T AV) (m:Mem) (k:T AV->Mem->Option β):Option β :=
 Option.rec (motive:=fun _=>Option β) (vT4 o.args tm fun xs=>kdF cl o.k xs m fun v m=>putF o.dst v tm fun tm=>k tm m)
  (fun pw=>Option.rec (motive:=fun _=>Option β) none (fun b=>Bool.rec (motive:=fun _=>Option β) (putF o.dst (.tup []) tm fun tm=>k tm m) (vT4 o.args tm fun xs=>kdF cl o.k xs m fun v m=>putF o.dst v tm fun tm=>k tm m) b) (yI1 (some pw) tm)) o.guard
theorem uR7 {β:Type} (cl:Cl) (o:AOper) (tm:T AV) (m:Mem) (k:T AV->Mem->Option β):opF cl o tm m k=opK cl o tm m k:=by
 have h1:(vT4 o.args tm fun xs=>kdF cl o.k xs m fun v m=>putF o.dst v tm fun tm=>k tm m)=yR6 o.args tm fun xs=>kdK cl o.k xs m fun v m=>xV0 o.dst v tm fun tm=>k tm m:=by
  rw [uO6]
  congr 1
  funext xs
  rw [qS5]
  congr 1
  funext v m
  exact vE1 _ _ _ _
 unfold opF opK
 rw [h1,vE1]
 cases o.guard with
 | none=>rfl
 | some pw =>
  simp only
  cases yI1 (some pw) tm with
  | none=>rfl
  | some b=>cases b<;>rfl
def opsF {β:Type} (cl:Cl) (os:List AOper) (tm:T AV) (m:Mem) (k:T AV->Mem->Option β):Option β :=
 List.rec (motive:=fun _=>T AV->Mem->Option β) k (fun o _ ih tm m=>opF cl o tm m ih) os tm m
theorem uZ2 {β:Type} (cl:Cl) (os:List AOper) (tm:T AV) (m:Mem) (k:T AV->Mem->Option β):opsF cl os tm m k=opsK cl os tm m k:=by
 induction os generalizing tm m with
 | nil=>rfl
 | cons o os ih =>
  show opF cl o tm m (fun tm m=>opsF cl os tm m k)=opK cl o tm m fun tm m=>opsK cl os tm m k
  rw [uR7]
  congr 1
  funext tm m
  exact ih _ _
def xB8 {β:Type} (cl:Cl) (o:AOper) (ih:Nat->List (Nat × Nat × Nat)->T AV->Mem->Option β) (i:Nat) (acc:List (Nat × Nat × Nat)) (tm:T AV) (m:Mem):Option β :=
 Mem.rec (motive:=fun _=>Option β) (fun h nx t w=>opF cl o tm ⟨h,nx,0,0⟩ fun tm m'=>Mem.rec (motive:=fun _=>Option β) (fun h' nx' t' w' =>
  Bool.rec (motive:=fun _=>Option β) none (yN1 (Nat.lor t t') fun t2=>yN1 (Nat.lor w w') fun w2=>yN1 (Nat.succ i) fun i'=>ih i' (bif Nat.beq t' 0 then acc else (i,t',w')::acc) tm ⟨h',nx',t2,w2⟩) (yZ1 o.bef t' w' acc)) m') m
def uM8 {β:Type} (cl:Cl) (os:List AOper) (i:Nat) (acc:List (Nat × Nat × Nat)) (tm:T AV) (m:Mem) (k:T AV->Mem->Option β):Option β :=
 List.rec (motive:=fun _=>Nat->List (Nat × Nat × Nat)->T AV->Mem->Option β) (fun _ _ tm m=>k tm m) (fun o _ ih=>xB8 cl o ih) os i acc tm m
theorem uM7 {β:Type} (cl:Cl) (os:List AOper) (i:Nat) (acc:List (Nat × Nat × Nat)) (tm:T AV) (m:Mem) (k:T AV->Mem->Option β):uM8 cl os i acc tm m k=xQ4 cl os i acc tm m k:=by
 induction os generalizing i acc tm m with
 | nil=>cases m;rfl
 | cons o os ih =>
  have hih:(fun i acc tm m=>uM8 cl os i acc tm m k)=fun i acc tm m=>xQ4 cl os i acc tm m k:=by
   funext i acc tm m
   exact ih i acc tm m
  show xB8 cl o (fun i acc tm m=>uM8 cl os i acc tm m k) i acc tm m=_
  rw [hih]
  obtain⟨h,nx,t,w⟩:=m
  unfold xB8
  dsimp only
  rw [uR7]
  simp only [xQ4]
  congr 1
  funext tm m'
  obtain⟨h',nx',t',w'⟩:=m'
  simp only [yV1,zC8]
  cases yZ1 o.bef t' w' acc<;>rfl
abbrev Evo:=AC->T AV->Mem->Option (Ex × T AV × Mem)
def sReg (cl:Cl) (draw:Bool) (l:List AOper) (tm:T AV) (m:Mem):Option (Ex × T AV × Mem) :=
 Bool.rec (motive:=fun _=>Option (Ex × T AV × Mem)) (opsF cl l tm m fun tm m=>some (.nrm,tm,m)) (uM8 cl l 0 [] tm m fun tm m=>some (.nrm,tm,m)) draw
def exK (r:Option (Ex × T AV × Mem)) (k:T AV->Mem->Option (Ex × T AV × Mem)) (e:Ex->T AV->Mem->Option (Ex × T AV × Mem)):Option (Ex × T AV × Mem) :=
 Option.rec (motive:=fun _=>Option (Ex × T AV × Mem)) none (fun q=>Prod.rec (motive:=fun _=>Option (Ex × T AV × Mem)) (fun ex s=>Prod.rec (motive:=fun _=>Option (Ex × T AV × Mem)) (fun tm m =>
  Ex.rec (motive:=fun _=>Option (Ex × T AV × Mem)) (k tm m) (fun i=>e (.ext i) tm m) (e .ret tm m) ex) s) q) r
def uM5 (ex:Ex) (tm:T AV) (m:Mem):Option (Ex × T AV × Mem):=some (ex,tm,m)
def eBlk (id:Nat) (ex:Ex) (tm:T AV) (m:Mem):Option (Ex × T AV × Mem) :=
 Ex.rec (motive:=fun _=>Option (Ex × T AV × Mem)) (some (.nrm,tm,m)) (fun i=>bif Nat.beq i id then some (.nrm,tm,m) else some (.ext i,tm,m)) (some (.ret,tm,m)) ex
def eNrm (tm:T AV) (m:Mem):Option (Ex × T AV × Mem):=some (.nrm,tm,m)
def sSeq (rec:Evo) (a b:AC) (tm:T AV) (m:Mem):Option (Ex × T AV × Mem):=exK (rec a tm m) (rec b) uM5
def sCond (rec:Evo) (c:Opd) (t e:AC) (tm:T AV) (m:Mem):Option (Ex × T AV × Mem) :=
 opdF c tm fun v=>match v with
  | .bool true=>rec t tm m
  | .bool false=>rec e tm m
  | _=>none
def sBlk (rec:Evo) (id:Nat) (b:AC) (tm:T AV) (m:Mem):Option (Ex × T AV × Mem):=exK (rec b tm m) eNrm (eBlk id)
def sLoop (rec:Evo) (b:AC) (tm:T AV) (m:Mem):Option (Ex × T AV × Mem):=exK (rec b tm m) (rec (.loop b)) uM5
def qO1 (cl:Cl) (rec:Evo) (c:AC):T AV->Mem->Option (Ex × T AV × Mem) :=
 AC.rec (motive:=fun _=>T AV->Mem->Option (Ex × T AV × Mem)) eNrm (sReg cl) (fun a b _ _=>sSeq rec a b) (fun c t e _ _=>sCond rec c t e) (fun id b _=>sBlk rec id b) (fun b _=>sLoop rec b) (fun id=>uM5 (.ext id)) (uM5 .ret) c
def evF (cl:Cl) (f:Nat):Evo:=Nat.rec (motive:=fun _=>Evo) (fun _ _ _=>none) (fun _ rec=>qO1 cl rec) f
theorem qW1 (cl:Cl) (f:Nat) (c:AC) (tm:T AV) (m:Mem):evF cl f c tm m=ev cl f c tm m:=by
 induction f generalizing c tm m with
 | zero=>rfl
 | succ f ih =>
  show qO1 cl (evF cl f) c tm m=_
  have hrec:evF cl f=fun c tm m=>ev cl f c tm m:=by funext c tm m;exact ih c tm m
  rw [hrec]
  cases c with
  | skip=>rfl
  | reg d l=>cases d with
   | false=>simp only [ev];exact uZ2 _ _ _ _ _
   | true=>simp only [ev];exact uM7 _ _ _ _ _ _ _
  | seq a b =>
   simp only [ev]
   show exK (ev cl f a tm m) _ _=_
   cases ev cl f a tm m with
   | none=>rfl
   | some q=>obtain⟨ex,tm,m⟩:=q;cases ex<;>rfl
  | cond c t e =>
   simp only [ev]
   exact vE9 _ _ _
  | blk id b =>
   simp only [ev]
   show exK (ev cl f b tm m) _ _=_
   cases ev cl f b tm m with
   | none=>rfl
   | some q=>obtain⟨ex,tm,m⟩:=q;cases ex<;>rfl
  | loop b =>
   simp only [ev]
   show exK (ev cl f b tm m) _ _=_
   cases ev cl f b tm m with
   | none=>rfl
   | some q=>obtain⟨ex,tm,m⟩:=q;cases ex<;>rfl
  | exit id=>rfl
  | ret=>rfl
def qT4 {β:Type} (vs:List AV) (i:Nat) (tm:T AV) (k:T AV->Option β):Option β :=
 List.rec (motive:=fun _=>Nat->T AV->Option β) (fun _ tm=>k tm) (fun v _ ih i tm=>setF tm (pth i) v fun tm=>yN1 (Nat.succ i) fun i=>ih i tm) vs i tm
theorem uK9 {β:Type} (vs:List AV) (i:Nat) (tm:T AV) (k:T AV->Option β):qT4 vs i tm k=xO7 vs i tm k:=by
 induction vs generalizing i tm with
 | nil=>rfl
 | cons v vs ih =>
  show setF tm (pth i) v _=_
  rw [vA2]
  simp only [xO7,yV1]
  congr 1
  funext tm
  congr 1
  funext i
  exact ih _ _
def vR2 (tabF:Nat->Option FnC) (L:Nat) (rec:Cl):Cl:=fun f xs m =>
 Option.rec (motive:=fun _=>Option (AV × Mem)) none (fun fc=>bif Nat.ble xs.length fc.n then qT4 xs 0 .nil fun tm=>endK fc.res (evF rec L fc.body tm m) else none) (tabF f)
def yN6 (tabF:Nat->Option FnC) (L d:Nat):Cl:=Nat.rec (motive:=fun _=>Cl) (fun _ _ _=>none) (fun _ rec=>vR2 tabF L rec) d
def orc0:Cl:=fun _ _ _=>none
theorem yV6 (tab tabF:Nat->Option FnC) (ht:∀ f,tabF f=tab f) (L:Nat):∀ d f xs m,yN6 tabF L d f xs m=yN7 tab orc0 L d f xs m
 | 0,f,xs,m=>rfl
 | d+1,f,xs,m=>by
  show vR2 tabF L (yN6 tabF L d) f xs m=_
  have hrec:yN6 tabF L d=yN7 tab orc0 L d:=by funext f xs m;exact yV6 tab tabF ht L d f xs m
  rw [hrec]
  simp only [yN7,orc0,vR2,ht]
  cases tab f with
  | none=>rfl
  | some fc =>
   simp only
   cases Nat.ble xs.length fc.n with
   | false=>rfl
   | true =>
    simp only [cond_true]
    rw [uK9]
    congr 1
    funext tm
    rw [qW1]
end
theorem fnOk_of {P : Program} {f : Nat} {fn : Func} {fc : FnC} (h : P.funcs[f]? = some fn) (h1 : fn.body = some (fn.body.getD .skip)) (h2 : (fn.name == "runtime.NumGoroutine") = false) (h3 : fn.ntmps = fc.n)
 (h4:comp P fc.n (fn.body.getD .skip)=some fc.body) (h5:mapO (zN5 P) fn.results.toList=some fc.res):FnOk P f fc:=⟨fn,_,h,h1,h2,h3,h4,h5⟩
def mkT (l:List (Nat × FnC)):T FnC:=l.foldl (fun t p=>t.set (pth p.1) p.2) .nil
theorem qB4 {l:List (Nat × FnC)} {f:Nat} {fc:FnC}:∀ {t:T FnC},(l.foldl (fun t p=>t.set (pth p.1) p.2) t).get (pth f)=some fc->(f,fc)∈l∨t.get (pth f)=some fc:=by
 induction l with
 | nil=>intro t h;exact .inr h
 | cons p l ih =>
  intro t h
  rcases ih h with h1 | h1
  ·exact .inl (List.mem_cons_of_mem _ h1)
  ·rw [T.get_set] at h1
   split at h1
   ·rename_i he
    cases h1
    rw [zL9 he]
    exact .inl List.mem_cons_self
   ·exact .inr h1
def m0:Mem:=⟨.nil,0,0,0⟩
noncomputable def tabF (t:T FnC) (f:Nat):Option FnC:=getF t (pth f)
theorem wN0 (P:Program):zF6 P orc0:=fun f xs m r m' h=>by cases h
theorem qL3 {P:Program} {t:T FnC} {l:List (Nat × FnC)} (ht:t=mkT l) (hl:∀ p∈l,FnOk P p.1 p.2):∀ f fc,t.get (pth f)=some fc->FnOk P f fc:=by
 intro f fc h
 rw [ht] at h
 rcases qB4 h with h1 | h1
 ·exact hl _ h1
 ·rw [T.get_nil] at h1;cases h1
theorem vZ8 {P:Program} {t:T FnC} {l:List (Nat × FnC)} (ht:t=mkT l) (hl:∀ p∈l,FnOk P p.1 p.2) (hmix:P.follows .mixedOrders=true) (L d:Nat):zF6 P (yN6 (tabF t) L d):=by
 have h:=vR1 (P:=P) (tab:=fun f=>t.get (pth f)) (orc:=orc0) (L:=L) (wN0 P) (qL3 ht hl) hmix d
 intro f xs m r m' hr
 rw [yV6 (fun f=>t.get (pth f)) (tabF t) (fun f=>vO1 _ _)] at hr
 exact h f xs m r m' hr
def uU3:Option (AV × Mem)->Bool
 | some (.bool b,_)=>b
 | _=>false
theorem xY5 {P:Program} {cl:Cl} (hcl:zF6 P cl) {f:Nat} (h:uU3 (cl f [] m0)=true) (w:World):Calls P f #[] w fun e w'=>e=.returned (.bool true)/\Ext w w':=by
 cases hr:cl f [] m0 with
 | none=>rw [hr] at h;cases h
 | some q =>
  obtain⟨r,m'⟩:=q
  rw [hr] at h
  have hb:r=.bool true:=by
   cases r<;>first | (cases h;done) | skip
   simp only [uU3] at h
   rw [h]
  subst hb
  obtain⟨_,_,hc⟩:=hcl f [] m0 _ m' hr
  have hat:∀ i,m0.at i=none:=fun i=>T.get_nil _
  refine (hc ⟨fun _=>none,fun _=>none⟩ w m'.tch m'.nx [] (fun _ h=>h) (Nat.le_refl _) VRs.nil ⟨fun i B _ hB=>?_,fun i j B C _ _ hB=>?_,fun i _=>hat i,fun _ _ _=>rfl,(fun _ _ h=>by cases h),fun _ _ _ _ _ _=>rfl⟩).mono fun e w' he=>?_
  ·rw [hat] at hB;cases hB
  ·rw [hat] at hB;cases hB
  ·obtain⟨ρ',v,rfl,h1,h2,h3⟩:=he
   cases h1
   refine⟨rfl,h3.outer.1,h3.outer.2.1,h3.outer.2.2,h3.size,fun k hk=>h3.frame k hk fun j B _ hB=>?_⟩
   rw [hat] at hB;cases hB
inductive Pu:AV->Prop
 | bool (b):Pu (.bool b)
 | int (k n):Pu (.int k n)
 | str (s):Pu (.str s)
 | nilp:Pu .nilp
 | nilsl:Pu .nilsl
 | emp:Pu .emp
 | nilfn:Pu .nilfn
 | nilifc:Pu .nilifc
 | fl (t l):Pu (.fl t l)
 | vs (a l c):Pu (.vs a l c)
 | agg {cs} (h:∀ (j:Nat) (x:AV),cs[j]?=some x->Pu x):Pu (.agg cs)
 | tup {cs} (h:∀ (j:Nat) (x:AV),cs[j]?=some x->Pu x):Pu (.tup cs)
theorem zL8:∀ (j:Nat) (x:AV),([]:List AV)[j]?=some x->Pu x:=fun j x h=>by simp at h
theorem zA7 {a:AV} {l:List AV} (ha:Pu a) (hl:∀ (j:Nat) (x:AV),l[j]?=some x->Pu x):∀ (j:Nat) (x:AV),(a::l)[j]?=some x->Pu x:=fun j x h=>by
 cases j with
 | zero=>cases h;exact ha
 | succ j=>exact hl j x h
theorem yF2:∀ (t:LTy) (e:Elem t) (j:Nat) (x:AV),(enc t e)[j]?=some x->Pu x
 | .rate,_=>zA7 (.str _) (zA7 (.int _ _) (zA7 (.int _ _) (zA7 (.int _ _) (zA7 (.int _ _) zL8))))
 | .series,_=>zA7 (.str _) (zA7 (.int _ _) (zA7 (.int _ _) (zA7 (.bool _) zL8)))
 | .part,_=>zA7 (.str _) (zA7 (.int _ _) (zA7 (.int _ _) (zA7 (.int _ _) zL8)))
 | .posted,_=>zA7 (.str _) (zA7 (.int _ _) (zA7 (.int _ _) (zA7 (.int _ _) (zA7 (.int _ _) (zA7 (.int _ _) (zA7 (.int _ _) (zA7 (.int _ _) (zA7 (.fl _ _) (zA7 (.str _) (zA7 (.int _ _) (zA7 (.bool _) zL8)))))))))))
 | .bal,_=>zA7 (.str _) (zA7 (.int _ _) zL8)
 | .ses,_=>zA7 (.int _ _) (zA7 (.int _ _) (zA7 (.int _ _) (zA7 (.int _ _) (zA7 (.int _ _) zL8))))
 | .line,_=>zA7 (.str _) (zA7 (.str _) (zA7 (.int _ _) (zA7 (.int _ _) zL8)))
 | .int,_=>zA7 (.int _ _) zL8
 | .call,_=>zA7 (.int _ _) (zA7 (.int _ _) (zA7 (.int _ _) (zA7 (.str _) (zA7 (.int _ _) (zA7 (.str _) (zA7 (.int _ _) (zA7 (.int _ _) (zA7 (.int _ _) (zA7 (.int _ _) (zA7 (.int _ _) (zA7 (.int _ _) (zA7 (.int _ _) (zA7 (.fl _ _) (zA7 (.str _) (zA7 (.int _ _) (zA7 (.int _ _) zL8))))))))))))))))
 | .reply,_=>zA7 (.int _ _) (zA7 (.int _ _) (zA7 (.int _ _) zL8))
 | .byte,_=>zA7 (.int _ _) zL8
 | .text,_=>zA7 (.str _) zL8
 | .pend,_=>zA7 (.str _) (zA7 (.int _ _) (zA7 (.int _ _) (zA7 (.int _ _) (zA7 (.int _ _) (zA7 (.int _ _) (zA7 (.int _ _) (zA7 (.int _ _) (zA7 (.vs _ _ _) (zA7 (.str _) (zA7 (.int _ _) (zA7 (.bool _) zL8)))))))))))
theorem VR.pu {ρ ρ2:Ren} (hi:∀ b c,ρ.ice b=some c->ρ2.ice b=some c) {x:AV} {v:Value} (h:VR ρ x v):Pu x->VR ρ2 x v:=by
 induction h with
 | bool b=>exact fun _=>.bool b
 | int k n=>exact fun _=>.int k n
 | str s=>exact fun _=>.str s
 | ptr h=>exact fun hp=>by cases hp
 | nilp=>exact fun _=>.nilp
 | sl l c h=>exact fun hp=>by cases hp
 | so h hl=>exact fun hp=>by cases hp
 | nilsl=>exact fun _=>.nilsl
 | emp a c=>exact fun _=>.emp a c
 | fn hl _ ih=>exact fun hp=>by cases hp
 | nilfn=>exact fun _=>.nilfn
 | ifc _ ih=>exact fun hp=>by cases hp
 | nilifc=>exact fun _=>.nilifc
 | agg hl _ ih=>exact fun hp=>by cases hp with | agg hq=>exact .agg hl fun j x y hx hy=>ih j x y hx hy (hq j x hx)
 | tup hl _ ih=>exact fun hp=>by cases hp with | tup hq=>exact .tup hl fun j x y hx hy=>ih j x y hx hy (hq j x hx)
 | fl0 t=>exact fun _=>.fl0 t
 | fle t a c=>exact fun _=>.fle t a c
 | fl hc hs hcap _ ih=>exact fun _=>.fl (hi _ _ hc) hs hcap fun n j x y hn hx hy=>ih n j x y hn hx hy (yF2 _ _ j x hx)
 | fp hc hs _ ih=>exact fun hp=>by cases hp
 | tp h=>exact fun hp=>by cases hp
 | vs a l c=>exact fun _=>.vs a l c
inductive Fz (m1:Mem):AV->AV->Prop
 | pu {x:AV} (h:Pu x):Fz m1 x x
 | nil (t:LTy):Fz m1 .nilsl (.fl t [])
 | emp (t:LTy):Fz m1 .emp (.fl t [])
 | so {i e len:Nat} {t:LTy} {l:List (Elem t)} {B:Blk} (h:m1.at i=some B) (he:e=wd t) (hl:len=l.length) (hc:∀ (j:Nat) (x:AV),(flat t l)[j]?=some x->B.cells[j]?=some x):Fz m1 (.so i e 0 len) (.fl t l)
 | agg {cs ds:List AV} (hl:ds.length=cs.length) (h:∀ (j:Nat) (x y:AV),cs[j]?=some x->ds[j]?=some y->Fz m1 x y):Fz m1 (.agg cs) (.agg ds)
 | tup {cs ds:List AV} (hl:ds.length=cs.length) (h:∀ (j:Nat) (x y:AV),cs[j]?=some x->ds[j]?=some y->Fz m1 x y):Fz m1 (.tup cs) (.tup ds)
theorem zL2 (i:Nat):m0.at i=none:=T.get_nil _
theorem wI4 {m1:Mem} (ha:AS m0 m1) {i:Nat} {B:Blk} (h:m1.at i=some B):m1.tch.testBit i=true:=by
 refine ha.wt (fun j hj=>by simp [m0] at hj) i (ha.new i (Nat.zero_le _) ?_)
 rcases Nat.lt_or_ge i m1.nx with h1 | h1
 ·exact h1
 ·rw [ha.wf (fun j _=>zL2 j) i h1] at h;cases h
open Classical in
theorem vJ7 {ρ ρ1:Ren} {w w':World} {m m1:Mem} {T N:Nat} {r r':AV} {v:Value} (hm:MI ρ w m T N) (ha:AS m0 m1) (hv:VR ρ1 r v) (hm1:MI ρ1 w' m1 m1.tch m1.nx) (hc:CS ⟨fun _=>none,ρ.ice⟩ ρ1 w w' m0 m1) (hz:Fz m1 r r') :
  ∃ ρ2,VR ρ2 r' v/\MI ρ2 w' m T N/\CS ρ ρ2 w w' m m:=by
 let ice2:Nat->Option (Array Value):=fun b=>if ∃ i B,m1.at i=some B/\ρ1.blk i=some b then (match w'.heap[b]? with | some (.cells c _ _)=>some c | _=>none) else ρ1.ice b
 have hframe:∀ b,b < w.heap.size->w'.heap[b]?=w.heap[b]?:=fun b hb=>hc.frame b hb fun j B _ hB=>by rw [zL2] at hB;cases hB
 have hnew:∀ i B b,m1.at i=some B->ρ1.blk i=some b->w.heap.size<=b:=fun i B b hB hb=>by
  have hlt:i < m1.nx:=by
   rcases Nat.lt_or_ge i m1.nx with h1 | h1
   ·exact h1
   ·rw [ha.wf (fun j _=>zL2 j) i h1] at hB;cases hB
  rcases hc.newb i b (Nat.zero_le _) hlt hb with h1 | ⟨j,C,_,hC,_⟩
  ·exact h1
  ·rw [zL2] at hC;cases hC
 have hi1:∀ b c,ρ1.ice b=some c->ice2 b=some c:=fun b c hb=>by
  show (if _ then _ else _)=_
  rw [if_neg]
  ·exact hb
  ·rintro ⟨i,B,hB,hbk⟩
   rw [hm1.dis i B b (wI4 ha hB) hB hbk] at hb
   cases hb
 have hi0:∀ b c,ρ.ice b=some c->ice2 b=some c:=fun b c hb=>hi1 b c (hc.ext.2 b c hb)
 have hblk:∀ i B,m1.at i=some B->∃ b sh K c e fz,ρ1 i=some (b,sh,K)/\w'.heap[b]?=some (.cells c e fz)/\ice2 b=some c/\∀ j x,B.cells[j]?=some x->∃ y,c[sh+j]?=some y/\VR ρ1 x y:=fun i B hB=>by
  obtain⟨b,sh,K,c,e,fz,h1,h2,h3,h4,h5⟩:=hm1.mem i B (wI4 ha hB) hB
  refine⟨b,sh,K,c,e,fz,h1,h2,?_,h4⟩
  show (if _ then _ else _)=_
  rw [if_pos ⟨i,B,hB,by simp [Ren.blk,h1]⟩,h2]
 refine⟨⟨ρ.f,ice2⟩,?_,⟨fun i B hi hB=>?_,fun i j B C hi hj hB hC hne=>hm.inj i j B C hi hj hB hC hne,hm.wf,hm.fresh,fun b c hb=>?_,fun i B b hi hB hb=>?_⟩,⟨⟨fun _ _ h=>h,hi0⟩,fun _ _ h=>.inl h,hc.size,fun b hb _=>hframe b hb,(fun i b h k=>by omega),hc.outer,fun b c hb=>?_⟩⟩
 ·
  clear hm
  induction hz generalizing v with
  | pu h=>exact hv.pu hi1 h
  | nil t=>cases hv;exact .fl0 t
  | emp t=>cases hv;exact .fle t _ _
  | so h he hl hcell =>
   rename_i i e len t l B
   subst he hl
   obtain⟨b,sh,K,c,e,fz,h1,h2,h3,h4⟩:=hblk i B h
   cases hv with
   | so hr hk =>
    rw [h1] at hr
    cases hr
    rcases Nat.eq_zero_or_pos l.length with h0 | hp
    ·have:l=[]:=List.eq_nil_of_length_eq_zero h0
     subst this
     exact .fle t _ _
    ·have hw:0 < wd t:=by cases t<;>decide
     have hroom:sh+l.length*wd t<=c.size:=by
      have hq:0 < l.length*wd t:=Nat.mul_pos hp hw
      have hlt:l.length*wd t - 1 < (flat t l).length:=by rw [zB5];omega
      obtain⟨y,hy,_⟩:=h4 _ _ (hcell _ _ (List.getElem?_eq_getElem hlt))
      have:=(Array.getElem?_eq_some_iff.1 hy).1
      omega
     have:=VR.fl (ρ:=⟨ρ.f,ice2⟩) (t:=t) (l:=l) (o:=sh+0*wd t) (cap:=K - 0) h3 (by omega) (by omega) fun n j x y hn hx hy=>by
      have hj:j < wd t:=by rw [<- zF8 t (nth l n)];exact (List.getElem?_eq_some_iff.1 hx).1
      have h5:=hcell (n*wd t+j) x (by rw [flat_get t l n j hn hj];exact hx)
      obtain⟨y',hy',hr'⟩:=h4 _ _ h5
      rw [show sh+0*wd t+n*wd t+j=sh+(n*wd t+j) by omega,hy'] at hy
      cases hy
      exact hr'.pu hi1 (yF2 t _ j x hx)
     exact this
  | agg hl h ih =>
   cases hv with
   | agg hl' h' =>
    refine .agg (by rw [hl,hl']) fun j x y hx hy=>?_
    rename_i cs ds ys
    have hlt:j < cs.length:=by rw [<- hl];exact (List.getElem?_eq_some_iff.1 hx).1
    exact ih j _ x (List.getElem?_eq_getElem hlt) hx (h' j _ y (List.getElem?_eq_getElem hlt) hy)
  | tup hl h ih =>
   cases hv with
   | tup hl' h' =>
    refine .tup (by rw [hl,hl']) fun j x y hx hy=>?_
    rename_i cs ds ys
    have hlt:j < cs.length:=by rw [<- hl];exact (List.getElem?_eq_some_iff.1 hx).1
    exact ih j _ x (List.getElem?_eq_getElem hlt) hx (h' j _ y (List.getElem?_eq_getElem hlt) hy)
 ·refine (hm.mem i B hi hB).move ⟨fun _ _ h=>h,hi0⟩ fun b hb=>hframe b ?_
  obtain⟨b',h1,h2⟩:=(hm.mem i B hi hB).blk
  rw [hb] at h1;cases h1;exact h2
 ·replace hb:(if ∃ i B,m1.at i=some B/\ρ1.blk i=some b then (match w'.heap[b]? with | some (.cells c _ _)=>some c | _=>none) else ρ1.ice b)=some c:=hb
  split at hb
  ·split at hb
   ·rename_i h5;cases hb;exact⟨_,_,h5⟩
   ·cases hb
  ·exact hm1.ice b c hb
 ·obtain⟨b',h1,h2⟩:=(hm.mem i B hi hB).blk
  have hbb:ρ.blk i=some b:=hb
  rw [hbb] at h1
  cases h1
  show (if _ then _ else _)=_
  rw [if_neg]
  ·cases hq:ρ1.ice b with
   | none=>rfl
   | some c =>
    rcases hc.nice b c hq with h3 | h3
    ·have h4:ρ.ice b=some c:=h3
     rw [hm.dis i B b hi hB hbb] at h4
     cases h4
    ·omega
  ·rintro ⟨j,C,hC,hbk⟩
   have:=hnew j C b hC hbk
   omega
 ·replace hb:(if ∃ i B,m1.at i=some B/\ρ1.blk i=some b then (match w'.heap[b]? with | some (.cells c _ _)=>some c | _=>none) else ρ1.ice b)=some c:=hb
  split at hb
  ·rename_i hq
   obtain⟨i,B,hB,hbk⟩:=hq
   exact .inr (hnew i B b hB hbk)
  ·exact hc.nice b c hb
inductive Alt where
 | no | ice | ty (t:LTy) (n:Nat)
 deriving Inhabited
def inI (i:Int) (len:Nat):Bool:=!ltI i 0&&ltI i (.ofNat len)
theorem inI_iff {i:Int} {len:Nat}:inI i len=true↔0<=i/\i < len:=by
 unfold inI
 rw [Bool.and_eq_true,zE0,zE0]
 simp
def idxK {β:Type} (x:AV) (len:Nat) (k:Nat->Option β):Option β :=
 match x with
 | .int _ i=>bif inI i len then k i.toNat else none
 | _=>none
theorem zP1 {β:Type} {x:AV} {len:Nat} {k:Nat->Option β} {r:β} (h:idxK x len k=some r):∃ kd n,x=.int kd (.ofNat n)/\n < len/\k n=some r:=by
 unfold idxK at h
 split at h
 ·rename_i kd i
  cases hb:inI i len with
  | false=>rw [hb] at h;cases h
  | true =>
   rw [hb,cond_true] at h
   obtain⟨h1,h2⟩:=inI_iff.1 hb
   obtain⟨n,rfl⟩:=Int.eq_ofNat_of_zero_le h1
   exact⟨kd,n,rfl,by omega,h⟩
 ·cases h
def hdK {β:Type} (off:Nat) (cs:List AV) (k:AV->Option β):Option β :=
 match (zP7 off cs).head? with
 | some v=>k v
 | none=>none
theorem xA7 {β:Type} {off:Nat} {cs:List AV} {k:AV->Option β} {r:β} (h:hdK off cs k=some r):∃ v,cs[off]?=some v/\k v=some r:=by
 unfold hdK at h
 split at h
 ·rename_i v hv;exact⟨v,head_drop hv,h⟩
 ·cases h
def ld1S {β:Type} (x:AV) (m:Mem) (k:AV->Mem->Option β):Option β :=
 match x with
 | .fp t l n off=>hdK off (enc t (nth l n)) fun v=>k v m
 | .tp i n e off=>getK m i fun B m=>match B with
  | ⟨.ls t l,_,_⟩=>bif Nat.beq e (wd t) then (bif Nat.blt n l.length then hdK off (enc t (nth l n)) fun v=>k v m else none) else none
  | ⟨.raw cs,_,_⟩=>hdK (n*e+off) cs fun v=>k v m
 | .ptr i off=>getK m i fun B m=>hdK off B.cells fun v=>k v m
 | _=>none
def ldnS {β:Type} (q:Nat) (x:AV) (m:Mem) (k:AV->Mem->Option β):Option β :=
 match x with
 | .fp t l n off=>cutK off q (enc t (nth l n)) fun cs=>k (.agg cs) m
 | .tp i n e off=>getK m i fun B m=>match B with
  | ⟨.ls t l,_,_⟩=>bif Nat.beq e (wd t) then (bif Nat.blt n l.length then cutK off q (enc t (nth l n)) fun cs=>k (.agg cs) m else none) else none
  | ⟨.raw cs,_,_⟩=>cutK (n*e+off) q cs fun cs=>k (.agg cs) m
 | .ptr i off=>getK m i fun B m=>cutK off q B.cells fun cs=>k (.agg cs) m
 | _=>none
def stS {β:Type} (q:Nat) (x v:AV) (m:Mem) (k:AV->Mem->Option β):Option β :=
 bif Nat.beq (zF3 v).length q&&(zF3 v).all scal then
  match x with
  | .ptr i off=>getK m i fun B m=>match B with | ⟨ct,esz,opn⟩=>layK off ct.cells (zF3 v) fun cs=>putK m i (.raw cs esz opn) fun m=>k (.tup []) m
  | .tp i n e off=>getK m i fun B m=>match B with
   | ⟨.ls t l,esz,opn⟩=>bif Nat.beq e (wd t) then (bif Nat.blt n l.length then layK off (enc t (nth l n)) (zF3 v) fun r=>match dec t r with
    | some x=>putK m i ⟨.ls t (l.set n x),esz,opn⟩ fun m=>k (.tup []) m
    | none=>none else none) else none
   | ⟨.raw cs,esz,opn⟩=>layK (n*e+off) cs (zF3 v) fun cs=>putK m i (.raw cs esz opn) fun m=>k (.tup []) m
  | _=>none
 else none
section
variable {P:Program} {o:Oper} {ops:List Operand} {vs:List AV} {m:Mem}
theorem qS0 (hc:zC9 P o.op=some (.ld1,ops)):∃ t x d,o.op=.load t x/\P.underlying t=some d/\zI0 d=false/\ops=[x]:=by
 cases ho:o.op with
 | load t x =>
  rw [ho] at hc
  simp only [zC9] at hc
  split at hc<;>first | (cases hc;done) | skip
  rename_i d hd
  split at hc
  ·split at hc<;>cases hc
  ·rename_i hr
   cases hc
   exact⟨t,x,d,rfl,hd,by simpa using hr,rfl⟩
 | _ =>
  rw [ho] at hc
  simp only [zC9,zN6,zI3] at hc
  repeat' (first | (cases hc;done) | split at hc)
theorem qR9 {q:Nat} (hc:zC9 P o.op=some (.ldn q,ops)):∃ t x d,o.op=.load t x/\P.underlying t=some d/\zI0 d=true/\szOf P t=some q/\ops=[x]:=by
 cases ho:o.op with
 | load t x =>
  rw [ho] at hc
  simp only [zC9] at hc
  split at hc<;>first | (cases hc;done) | skip
  rename_i d hd
  split at hc
  ·rename_i hr
   split at hc<;>first | (cases hc;done) | skip
   rename_i n hn
   cases hc
   exact⟨t,x,d,rfl,hd,hr,hn,rfl⟩
  ·cases hc
 | _ =>
  rw [ho] at hc
  simp only [zC9,zN6,zI3] at hc
  repeat' (first | (cases hc;done) | split at hc)
theorem st_op {q:Nat} (hc:zC9 P o.op=some (.st q,ops)):∃ t x y,o.op=.store t x y/\szOf P t=some q/\ops=[x,y]:=by
 cases ho:o.op with
 | store t x y =>
  rw [ho] at hc
  simp only [zC9] at hc
  split at hc<;>first | (cases hc;done) | skip
  rename_i n hn
  cases hc
  exact⟨t,x,y,rfl,hn,rfl⟩
 | _ =>
  rw [ho] at hc
  simp only [zC9,zN6,zI3] at hc
  repeat' (first | (cases hc;done) | split at hc)
theorem zY1 {_x:Operand} {i n e off:Nat} {r:AV} {m':Mem} (h:Good P o ops [.ptr i (n*e+off)] m r m'):Good P o ops [.tp i n e off] m r m':=h.weaken fun _ _ hv=>hv.head fun _=>uT9
theorem vI5 {t:LTy} {l:List (Elem t)} {n off:Nat} {esz:Nat} {opn:Bool} {v:AV} (hn:n < l.length) (hv:(enc t (nth l n))[off]?=some v):(Blk.mk (.ls t l) esz opn).cells[n*wd t+off]?=some v:=by
 have hj:off < wd t:=by rw [<- zF8 t (nth l n)];exact (List.getElem?_eq_some_iff.1 hv).1
 show (flat t l)[n*wd t+off]?=some v
 rw [flat_get t l n off hn hj]
 exact hv
theorem vK4 {β:Type} {k:AV->Mem->Option β} {res:β} {x:AV} (hc:zC9 P o.op=some (.ld1,ops)) (h:ld1S x m k=some res):∃ r m',k r m'=some res/\Good P o ops [x] m r m':=by
 obtain⟨t,y,d,ho,hd,hr,rfl⟩:=qS0 hc
 unfold ld1S at h
 split at h
 ·replace h:=xA7 h
  obtain⟨v,hv,h⟩:=h
  exact⟨v,m,h,xX3 ho hd hr hv⟩
 ·rename_i i n e off
  replace h:=zD0 h
  obtain⟨B,hB,h⟩:=h
  obtain⟨ct,esz,opn⟩:=B
  cases ct with
  | ls lt l =>
   simp only at h
   cases he:Nat.beq e (wd lt) with
   | false=>rw [he] at h;cases h
   | true =>
    rw [he,cond_true] at h
    obtain rfl:=beqN.1 he
    cases hn:Nat.blt n l.length with
    | false=>rw [hn] at h;cases h
    | true =>
     rw [hn,cond_true] at h
     replace h:=xA7 h
     obtain⟨v,hv,h⟩:=h
     exact⟨v,_,h,zY1 (_x:=y) (yH4 ho hd hr hB (vI5 (blt_iff.1 hn) hv))⟩
  | raw cs =>
   replace h:=xA7 h
   obtain⟨v,hv,h⟩:=h
   exact⟨v,_,h,zY1 (_x:=y) (yH4 ho hd hr hB hv)⟩
 ·replace h:=zD0 h
  obtain⟨B,hB,h⟩:=h
  replace h:=xA7 h
  obtain⟨v,hv,h⟩:=h
  exact⟨v,_,h,yH4 ho hd hr hB hv⟩
 ·cases h
theorem vK3 {β:Type} {k:AV->Mem->Option β} {res:β} {x:AV} {q:Nat} (hc:zC9 P o.op=some (.ldn q,ops)) (h:ldnS q x m k=some res):∃ r m',k r m'=some res/\Good P o ops [x] m r m':=by
 obtain⟨t,y,d,ho,hd,hr,hq,rfl⟩:=qR9 hc
 unfold ldnS at h
 split at h
 ·replace h:=zG3 h
  obtain⟨cs,hl,hcut,h⟩:=h
  exact⟨_,m,h,xX2 ho hd hr hq hl hcut⟩
 ·rename_i i n e off
  replace h:=zD0 h
  obtain⟨B,hB,h⟩:=h
  obtain⟨ct,esz,opn⟩:=B
  cases ct with
  | ls lt l =>
   simp only at h
   cases he:Nat.beq e (wd lt) with
   | false=>rw [he] at h;cases h
   | true =>
    rw [he,cond_true] at h
    obtain rfl:=beqN.1 he
    cases hn:Nat.blt n l.length with
    | false=>rw [hn] at h;cases h
    | true =>
     rw [hn,cond_true] at h
     replace h:=zG3 h
     obtain⟨cs,hl,hcut,h⟩:=h
     refine⟨_,_,h,zY1 (_x:=y) (yH3 ho hd hr hq hB hl fun j hj=>?_)⟩
     obtain⟨v,h1,h2⟩:=hcut j hj
     exact⟨v,by rw [Nat.add_assoc];exact vI5 (blt_iff.1 hn) h1,h2⟩
  | raw cs =>
   replace h:=zG3 h
   obtain⟨cs,hl,hcut,h⟩:=h
   exact⟨_,_,h,zY1 (_x:=y) (yH3 ho hd hr hq hB hl hcut)⟩
 ·replace h:=zD0 h
  obtain⟨B,hB,h⟩:=h
  replace h:=zG3 h
  obtain⟨cs,hl,hcut,h⟩:=h
  exact⟨_,_,h,yH3 ho hd hr hq hB hl hcut⟩
 ·cases h
theorem wJ9 {i n e off:Nat} {r v:AV} {m':Mem} (h:Good P o ops [.ptr i (n*e+off),v] m r m'):Good P o ops [.tp i n e off,v] m r m':=h.weaken fun _ _ hv=>hv.head fun _=>uT9
theorem vZ6 {β:Type} {k:AV->Mem->Option β} {res:β} {x v:AV} {q:Nat} (hc:zC9 P o.op=some (.st q,ops)) (h:stS q x v m k=some res):∃ r m',k r m'=some res/\Good P o ops [x,v] m r m':=by
 obtain⟨t,y,z,ho,hq,rfl⟩:=st_op hc
 unfold stS at h
 cases hb:Nat.beq (zF3 v).length q&&(zF3 v).all scal with
 | false=>rw [hb] at h;cases h
 | true =>
  rw [hb,cond_true] at h
  simp only [Bool.and_eq_true] at hb
  obtain⟨hb1,hb2⟩:=hb
  have hb1:=beqN.1 hb1
  split at h
  ·replace h:=zD0 h
   obtain⟨B,hB,h⟩:=h
   obtain⟨ct,esz,opn⟩:=B
   replace h:=zO9 h
   obtain⟨cs,hl,h,_⟩:=h
   rw [zT9] at h
   exact⟨_,_,h,xA9 ho hq hB hl hb1 hb2⟩
  ·rename_i i n e off
   replace h:=zD0 h
   obtain⟨B,hB,h⟩:=h
   obtain⟨ct,esz,opn⟩:=B
   cases ct with
   | ls lt l =>
    simp only at h
    cases he:Nat.beq e (wd lt) with
    | false=>rw [he] at h;cases h
    | true =>
     rw [he,cond_true] at h
     obtain rfl:=beqN.1 he
     cases hn:Nat.blt n l.length with
     | false=>rw [hn] at h;cases h
     | true =>
      rw [hn,cond_true] at h
      replace h:=zO9 h
      obtain⟨cs,hl,h,_⟩:=h
      split at h<;>first | (cases h;done) | skip
      rename_i x' hx'
      rw [zT9] at h
      have hl2:=hl
      rw [<- zK7 hx'] at hl2
      have hset:=xB3 (blt_iff.1 hn) hl2
      have hg:=xA9 (P:=P) (cs:=flat lt (l.set n x')) ho hq hB hset hb1 hb2
      exact⟨_,_,h,wJ9 (hg.retype (uY0 _ _ rfl rfl rfl))⟩
   | raw cs =>
    replace h:=zO9 h
    obtain⟨cs,hl,h,_⟩:=h
    rw [zT9] at h
    exact⟨_,_,h,wJ9 (xA9 ho hq hB hl hb1 hb2)⟩
  ·cases h
end
section
variable {P:Program} {o:Oper} {ops:List Operand} {vs:List AV} {m m1:Mem} {r r':AV} {cl:Cl}
theorem qR1 {ρ:Ren} {w:World} {T N:Nat} (hm:MI ρ w m T N) (T0 N0:Nat):MI ⟨fun _=>none,ρ.ice⟩ w m0 T0 N0 :=
 ⟨fun i B _ hB=>by rw [zL2] at hB;(cases hB),fun i j B C _ _ hB=>by rw [zL2] at hB;(cases hB),fun i _=>zL2 i,fun _ _ _=>rfl,hm.ice,fun i B b _ hB=>by rw [zL2] at hB;(cases hB)⟩
theorem wC7 {ρ ρ2:Ren} (hi:∀ b c,ρ.ice b=some c->ρ2.ice b=some c) {xs:List AV} {ys:List Value} (h:VRs ρ xs ys) (hp:∀ (j:Nat) (x:AV),xs[j]?=some x->Pu x):VRs ρ2 xs ys :=
 ⟨h.1,fun j x y hx hy=>(h.2 j x y hx hy).pu hi (hp j x hx)⟩
theorem Good.lift (h:Good P o ops vs m0 r m1) (hp:∀ (j:Nat) (x:AV),vs[j]?=some x->Pu x) (hz:Fz m1 r r'):Good P o ops vs m r' m :=
 ⟨AS.refl m,fun ρ w T N a next Q _ _ hv hm hk=>h.2 ⟨fun _=>none,ρ.ice⟩ w m1.tch m1.nx a next Q (fun _ h=>h) (Nat.le_refl _) (wC7 (ρ:=ρ) (ρ2:=⟨fun _=>none,ρ.ice⟩) (fun _ _ h=>h) hv hp) (qR1 hm _ _) fun ρ1 w' v h1 h2 h3=>by
  obtain⟨ρ2,k1,k2,k3⟩:=vJ7 hm h.1 h1 h2 h3 hz
  exact hk ρ2 w' v k1 k2 k3⟩
theorem add_pure {cl1:Cl} (hcl:zF6 P cl) (h1:zF6 P cl1) (f:Nat) (F:List AV->Option AV) (h:∀ xs r',F xs=some r'->(∀ (j:Nat) (x:AV),xs[j]?=some x->Pu x)/\∃ r m1,cl1 f xs m0=some (r,m1)/\Fz m1 r r') :
  zF6 P fun g xs m=>bif Nat.beq g f then (match F xs with | some r=>some (r,m) | none=>none) else cl g xs m:=by
 intro g xs m r' m' hr
 cases hg:Nat.beq g f with
 | false =>
  simp only [hg,cond_false] at hr
  exact hcl g xs m r' m' hr
 | true =>
  simp only [hg,cond_true] at hr
  have hgf:=beqN.1 hg
  subst hgf
  split at hr<;>first | (cases hr;done) | skip
  rename_i q hF
  cases hr
  obtain⟨hp,r,m1,hrun,hz⟩:=h xs _ hF
  obtain⟨ha,hfn,hc⟩:=h1 g xs m0 r m1 hrun
  refine⟨AS.refl m,hfn,fun ρ w T N ys _ _ hv hm=>?_⟩
  refine (hc ⟨fun _=>none,ρ.ice⟩ w m1.tch m1.nx ys (fun _ h=>h) (Nat.le_refl _) (wC7 (ρ:=ρ) (ρ2:=⟨fun _=>none,ρ.ice⟩) (fun _ _ h=>h) hv hp) (qR1 hm _ _)).mono fun e w' he=>?_
  obtain⟨ρ1,v,rfl,k1,k2,k3⟩:=he
  obtain⟨ρ2,k4,k5,k6⟩:=vJ7 hm ha k1 k2 k3 hz
  exact⟨ρ2,v,rfl,k4,k5,k6⟩
def ixsS {β:Type} (esz:Nat) (x i:AV) (k:AV->Option β):Option β :=
 match x with
 | .fl t l=>bif Nat.beq esz (wd t) then idxK i l.length fun n=>k (.fp t l n 0) else none
 | .so b e off len=>bif Nat.beq e esz&&Nat.beq off 0 then idxK i len fun n=>k (.tp b n e 0) else none
 | .sl b off len _=>idxK i len fun n=>k (.ptr b (off+n*esz))
 | _=>none
def ixaS {β:Type} (alt:Alt) (len esz:Nat) (x i:AV) (k:AV->Option β):Option β :=
 match x with
 | .ptr b off=>(match alt with
  | .ty _ _=>bif Nat.beq off 0 then idxK i len fun n=>k (.tp b n esz 0) else none
  | _=>idxK i len fun n=>k (.ptr b (off+n*esz)))
 | _=>none
def fadS {β:Type} (off:Nat) (x:AV) (k:AV->Option β):Option β :=
 match x with
 | .ptr i q=>k (.ptr i (q+off))
 | .fp t l n q=>k (.fp t l n (q+off))
 | .tp i n e q=>k (.tp i n e (q+off))
 | _=>none
def lenS {β:Type} (x:AV) (k:AV->Option β):Option β :=
 match x with
 | .fl _ l=>k (.int .i64 (.ofNat l.length))
 | .sl _ _ l _=>k (.int .i64 (.ofNat l))
 | .so _ _ _ l=>k (.int .i64 (.ofNat l))
 | .nilsl=>k (.int .i64 (.ofNat 0))
 | .emp=>k (.int .i64 (.ofNat 0))
 | _=>none
def slcS {β:Type} (esz:Nat) (lo hi:Bool) (x:AV) (asZ:List AV) (k:AV->Option β):Option β :=
 match x with
 | .fl t l=>bif Nat.beq esz (wd t) then (match lo,hi,asZ with
  | false,false,[]=>k (.fl t l)
  | true,false,[a]=>idxK a (l.length+1) fun n=>k (.fl t (l.drop n))
  | false,true,[a]=>idxK a (l.length+1) fun n=>k (.fl t (l.take n))
  | _,_,_=>none) else none
 | x=>match slcA esz lo hi x asZ with | some v=>k v | none=>none
def addS {β:Type} (x y:List UInt8) (k:AV->Option β):Option β:=bif Nat.blt (x.length+y.length) 1000000 then k (.str (x++y)) else none
theorem vN0 {β:Type} {k:AV->Option β} {res:β} {esz:Nat} {x i:AV} (hc:zC9 P o.op=some (.ixs esz,ops)) (h:ixsS esz x i k=some res):∃ r,k r=some res/\Good P o ops [x,i] m r m:=by
 unfold ixsS at h
 split at h
 ·rename_i t l
  cases he:Nat.beq esz (wd t) with
  | false=>rw [he] at h;cases h
  | true =>
   rw [he,cond_true] at h
   obtain rfl:=beqN.1 he
   replace h:=zP1 h
   obtain⟨kd,n,rfl,hn,h⟩:=h
   exact⟨_,h,xX5 hc hn⟩
 ·rename_i b e off len
  cases he:Nat.beq e esz&&Nat.beq off 0 with
  | false=>rw [he] at h;cases h
  | true =>
   rw [he,cond_true] at h
   simp only [Bool.and_eq_true] at he
   obtain rfl:=beqN.1 he.1
   obtain rfl:=beqN.1 he.2
   replace h:=zP1 h
   obtain⟨kd,n,rfl,hn,h⟩:=h
   exact⟨_,h,xX4 hc hn⟩
 ·replace h:=zP1 h
  obtain⟨kd,n,rfl,hn,h⟩:=h
  refine⟨_,h,zD6 hc ?_⟩
  simp only [zK2,two2,ixsA,idxA,blt_iff.2 hn,cond_true]
 ·cases h
theorem vN1 {β:Type} {k:AV->Option β} {res:β} {alt:Alt} {len esz:Nat} {x i:AV} (hc:zC9 P o.op=some (.ixa len esz,ops)) (h:ixaS alt len esz x i k=some res):∃ r,k r=some res/\Good P o ops [x,i] m r m:=by
 unfold ixaS at h
 split at h
 ·rename_i b off
  split at h
  ·cases he:Nat.beq off 0 with
   | false=>rw [he] at h;cases h
   | true =>
    rw [he,cond_true] at h
    obtain rfl:=beqN.1 he
    replace h:=zP1 h
    obtain⟨kd,n,rfl,hn,h⟩:=h
    exact⟨_,h,xX6 hc hn⟩
  ·replace h:=zP1 h
   obtain⟨kd,n,rfl,hn,h⟩:=h
   refine⟨_,h,zD6 hc ?_⟩
   simp only [zK2,two2,ixaA,idxA,blt_iff.2 hn,cond_true]
 ·cases h
theorem vP4 {β:Type} {k:AV->Option β} {res:β} {off:Nat} {x:AV} (hc:zC9 P o.op=some (.fad off,ops)) (h:fadS off x k=some res):∃ r,k r=some res/\Good P o ops [x] m r m:=by
 unfold fadS at h
 split at h
 ·exact⟨_,h,zD6 hc rfl⟩
 ·exact⟨_,h,xX8 hc⟩
 ·exact⟨_,h,xX7 hc⟩
 ·cases h
theorem vJ8 {β:Type} {k:AV->Option β} {res:β} {x:AV} (hc:zC9 P o.op=some (.len,ops)) (h:lenS x k=some res):∃ r,k r=some res/\Good P o ops [x] m r m:=by
 unfold lenS at h
 split at h
 ·exact⟨_,h,xX1 hc⟩
 ·exact⟨_,h,zD6 hc rfl⟩
 ·exact⟨_,h,zD6 hc rfl⟩
 ·exact⟨_,h,zD6 hc rfl⟩
 ·exact⟨_,h,zD6 hc rfl⟩
 ·cases h
theorem wX8 {xs:List AV} (h:∀ (j:Nat) (x:AV),xs[j]?=some x->∃ k n,x=.int k n) (ρ:Ren) (ys:List Value) (hv:VRs ρ xs ys) (ρ':Ren):VRs ρ' xs ys :=
 ⟨hv.1,fun j x y hx hy=>by
  obtain⟨k,n,rfl⟩:=h j x hx
  have:=hv.2 j _ y hx hy
  cases this
  exact .int _ _⟩
theorem vF0 {k:IntKind} {n:Int}:∀ (j:Nat) (x:AV),[AV.int k n][j]?=some x->∃ k n,x=.int k n:=fun j x h=>by
 cases j with
 | zero=>cases h;exact⟨_,_,rfl⟩
 | succ j=>simp at h
theorem wZ9 {β:Type} {k:AV->Option β} {res:β} {esz:Nat} {lo hi:Bool} {x:AV} {asZ:List AV} (hc:zC9 P o.op=some (.slc esz lo hi,ops)) (h:slcS esz lo hi x asZ k=some res):∃ r,k r=some res/\Good P o ops (x::asZ) m r m:=by
 unfold slcS at h
 split at h
 ·rename_i t l
  cases he:Nat.beq esz (wd t) with
  | false=>rw [he] at h;cases h
  | true =>
   rw [he,cond_true] at h
   obtain rfl:=beqN.1 he
   split at h
   ·refine⟨_,h,?_⟩
    have hg:=zU4 (m:=m) (a:=0) (b:=l.length) (xs:=[]) hc rfl (Nat.zero_le _) (Nat.le_refl _) (fun ρ ys hv ρ'=>by rw [hv.nil_inv];exact .nil) (fun cap _=>rfl)
    simpa using hg
   ·replace h:=zP1 h
    obtain⟨kd,n,rfl,hn,h⟩:=h
    refine⟨_,h,?_⟩
    have hb:∀ q,n<=q->bndA (.int kd (.ofNat n)) q=some n:=fun q hq=>by simp only [bndA,Nat.ble_eq_true_of_le hq,cond_true]
    have hg:=zU4 (m:=m) (a:=n) (b:=l.length) (xs:=[.int kd (.ofNat n)]) hc (by simp only [zU6,hb _ (Nat.le_of_lt_succ hn)]) (Nat.le_of_lt_succ hn) (Nat.le_refl _) (wX8 vF0) (fun cap _=>by simp only [cond_false,zU6,hb _ (Nat.le_of_lt_succ hn)])
    rw [List.take_of_length_le (by simp)] at hg
    exact hg
   ·replace h:=zP1 h
    obtain⟨kd,n,rfl,hn,h⟩:=h
    refine⟨_,h,?_⟩
    have hb:∀ q,n<=q->bndA (.int kd (.ofNat n)) q=some n:=fun q hq=>by simp only [bndA,Nat.ble_eq_true_of_le hq,cond_true]
    have hg:=zU4 (m:=m) (a:=0) (b:=n) (xs:=[.int kd (.ofNat n)]) hc (by simp only [zU6,hb _ (Nat.le_of_lt_succ hn)]) (Nat.zero_le _) (Nat.le_of_lt_succ hn) (wX8 vF0) (fun cap hcap=>by simp only [cond_true,zU6,hb _ (Nat.le_trans (Nat.le_of_lt_succ hn) hcap)])
    simpa using hg
   ·cases h
 ·split at h
  ·rename_i v hv
   refine⟨v,h,zD6 hc ?_⟩
   simp only [zK2,headA,hv]
  ·cases h
end
theorem xG4 {β:Type} {n:Nat} {xs:List AV} {k:List AV->Option β} {r:β} (h:yF5 n xs k=some r):∀ (γ:Type) (k':List AV->Option γ),yF5 n xs k'=k' (xs.take n):=by
 induction n generalizing xs k with
 | zero=>intro γ k';rfl
 | succ n ih =>
  cases xs with
  | nil=>simp [yF5] at h
  | cons x xs =>
   intro γ k'
   simp only [yF5] at h ⊢
   rw [ih h]
   rfl
theorem xC0 {β:Type} {off n:Nat} {xs:List AV} {k:List AV->Option β} {r:β} (h:cutK off n xs k=some r) :
  ∃ cs,cs.length=n/\(∀ j,j < n->∃ x,xs[off+j]?=some x/\cs[j]?=some x)/\k cs=some r/\∀ (γ:Type) (k':List AV->Option γ),cutK off n xs k'=k' cs:=by
 obtain⟨cs,h1,h2,h3⟩:=zG3 h
 refine⟨_,?_,?_,?_,xG4 h⟩
 ·have h4:=xG4 h β fun cs=>k cs
  have h5:=(zV6 h).1
  simp at h5 ⊢
  omega
 ·intro j hj
  have h5:=(zV6 h).1
  rw [xB7] at h5 ⊢
  have hl:off+j < xs.length:=by simp at h5;omega
  exact⟨xs[off+j],by simp [hl],by simp [hj,hl]⟩
 ·exact (zV6 h).2
theorem yW9 {β:Type} {esz:Nat} {y:AV} {m:Mem} {k:Nat->List AV->Mem->Option β} {r:β} (h:srcK esz y m k=some r) :
  ∃ n news m1,k n news m1=some r/\m1.nx=m.nx/\(∀ j,m1.at j=m.at j)/\∀ (γ:Type) (k':Nat->List AV->Mem->Option γ),srcK esz y m k'=k' n news m1:=by
 unfold srcK at h
 split at h
 ·exact⟨0,[],m,h,rfl,fun _=>rfl,fun γ k'=>rfl⟩
 ·exact⟨0,[],m,h,rfl,fun _=>rfl,fun γ k'=>rfl⟩
 ·rename_i s
  cases he:Nat.beq esz 1 with
  | false=>rw [he] at h;cases h
  | true=>rw [he,cond_true] at h;exact⟨_,_,m,h,rfl,fun _=>rfl,fun γ k'=>by simp only [srcK,he,cond_true]⟩
 ·rename_i t l
  cases he:Nat.beq esz (wd t) with
  | false=>rw [he] at h;cases h
  | true=>rw [he,cond_true] at h;exact⟨_,_,m,h,rfl,fun _=>rfl,fun γ k'=>by simp only [srcK,he,cond_true]⟩
 ·rename_i i off len cap
  replace h:=zD0 h
  obtain⟨B,hB,h⟩:=h
  replace h:=xC0 h
  obtain⟨cs,_,_,h,hall⟩:=h
  refine⟨len,cs,m.touch i,h,rfl,fun _=>rfl,fun γ k'=>?_⟩
  obtain⟨hh,nx,t,w⟩:=m
  have hB':hh.get (pth i)=some B:=hB
  simp only [srcK,getK,hB',zR2]
  exact hall γ _
 ·rename_i i e off len
  cases he:Nat.beq e esz with
  | false=>rw [he] at h;cases h
  | true =>
   rw [he,cond_true] at h
   replace h:=zD0 h
   obtain⟨B,hB,h⟩:=h
   replace h:=xC0 h
   obtain⟨cs,_,_,h,hall⟩:=h
   refine⟨len,cs,m.touch i,h,rfl,fun _=>rfl,fun γ k'=>?_⟩
   obtain⟨hh,nx,t,w⟩:=m
   have hB':hh.get (pth i)=some B:=hB
   simp only [srcK,he,cond_true,getK,hB',zR2]
   exact hall γ _
 ·cases h
theorem vO0 {β:Type} {m:Mem} {i:Nat} {B:Blk} (h:m.at i=some B) (k:Blk->Mem->Option β):getK m i k=k B (m.touch i):=by
 obtain⟨hh,nx,t,w⟩:=m
 have hB':hh.get (pth i)=some B:=h
 simp only [getK,hB',zR2,Mem.touch]
theorem wU6 {β:Type} (xs:List AV) (k:List AV->Option β) {a b:Nat} (ha:a=0) (hb:b=xs.length):cutK a b xs k=k xs:=by
 subst ha hb
 have:∀ (xs:List AV) (k:List AV->Option β),yF5 xs.length xs k=k xs:=by
  intro xs
  induction xs with
  | nil=>intro k;rfl
  | cons x xs ih=>intro k;simp only [List.length_cons,yF5];exact ih _
 exact this xs k
def appS {β:Type} (alt:Alt) (esz bytes:Nat) (x y:AV) (m:Mem) (k:AV->Mem->Option β):Option β :=
 match x with
 | .nilsl=>(match y with
  | .fl t l=>bif Nat.beq esz (wd t)&&Nat.blt bytes 4096 then (bif Nat.blt l.length 1048576 then
     (
      match alt with
      | .ice=>k (.fl t l) m
      | _=>bif Nat.beq l.length 0 then k .nilsl m else newK m ⟨.ls t l,esz,true⟩ fun j m=>k (.so j esz 0 l.length) m) else none) else none
  | y=>(match alt with
    | .ty t _=>srcK esz y m fun n news m=>bif Nat.beq esz (wd t)&&(Nat.blt bytes 4096&&Nat.blt n 1048576) then
       (bif Nat.beq n 0 then none else (match decN t n news with | some xs=>newK m ⟨.ls t xs,esz,true⟩ fun j m=>k (.so j esz 0 xs.length) m | none=>none)) else none
    | _=>appK esz bytes .nilsl y m k))
 | .so i e off len=>srcK esz y m fun n news m=>bif Nat.beq n 0 then none else getK m i fun B m=>match B with
   | ⟨.ls t l,bz,opn⟩=>bif Nat.beq e esz&&(Nat.beq off 0&&(Nat.beq esz (wd t)&&(Nat.beq bz esz&&(opn&&Nat.blt bytes 4096)))) then
       (bif Nat.beq l.length len then (bif Nat.blt (len+n) 1048576 then (match decN t n news with
         | some xs=>delK m i fun m=>newK m ⟨.ls t (l++xs),esz,true⟩ fun j m=>k (.so j esz 0 (l++xs).length) m
         | none=>none) else none) else none) else none
   | _=>none
 | .sl i off len cap=>(match alt with
    | .ty t _=>srcK esz y m fun n news m=>bif Nat.beq n 0 then none else (bif Nat.blt bytes 4096&&(Nat.blt (len+n) 1048576&&!Nat.ble (len+n) cap) then
       getK m i fun B m=>cutK off (len*esz) B.cells fun olds=>bif Nat.beq esz (wd t) then (match decN t (len+n) (olds++news) with
        | some xs=>newK m ⟨.ls t xs,esz,true⟩ fun j m=>k (.so j esz 0 (len+n)) m
        | none=>none) else none else none)
    | _=>appK esz bytes (.sl i off len cap) y m k)
 | x=>appK esz bytes x y m k
def newS {β:Type} (alt:Alt) (zs:List AV) (m:Mem) (k:AV->Mem->Option β):Option β :=
 match alt with
 | .ty t n=>(match decN t n zs with | some xs=>newK m ⟨.ls t xs,1,false⟩ fun i m=>k (.ptr i 0) m | none=>none)
 | _=>newK m (.raw zs 1 false) fun i m=>k (.ptr i 0) m
section
variable {P:Program} {o:Oper} {ops:List Operand} {m:Mem} {cl:Cl}
theorem vT5 {β:Type} {k:AV->Mem->Option β} {res:β} {alt:Alt} {esz bytes:Nat} {x y:AV} (hcl:zF6 P cl) (hc:zC9 P o.op=some (.app esz bytes,ops)) (h:appS alt esz bytes x y m k=some res) :
  ∃ r m',k r m'=some res/\Good P o ops [x,y] m r m':=by
 have raw:∀ {β:Type} {k:AV->Mem->Option β} {res:β} {x y:AV} {m:Mem},appK esz bytes x y m k=some res->∃ r m',k r m'=some res/\Good P o ops [x,y] m r m':=fun h=>zQ5 hcl hc (kd:=.app esz bytes) (by simpa [kdK,on2] using h)
 have key:∀ {x y r1:AV} {m m1:Mem},appK esz bytes x y m (fun v m=>some (v,m))=some (r1,m1)->Good P o ops [x,y] m r1 m1:=fun h=>by
  obtain⟨r,m',hk,hg⟩:=raw h
  cases hk
  exact hg
 unfold appS at h
 split at h
 ·split at h
  ·rename_i t l
   cases he:Nat.beq esz (wd t)&&Nat.blt bytes 4096 with
   | false=>rw [he] at h;cases h
   | true =>
    rw [he,cond_true] at h
    simp only [Bool.and_eq_true] at he
    obtain⟨he1,he2⟩:=he
    cases hlt:Nat.blt l.length 1048576 with
    | false=>rw [hlt] at h;cases h
    | true =>
     rw [hlt,cond_true] at h
     have rawnil:∀ m:Mem,l.length=0->Good P o ops [.nilsl,.fl t l] m .nilsl m:=fun m h0=>key (by
      simp only [appK,srcK,he1,cond_true,beqN.2 h0])
     have rawnew:∀ m:Mem,l.length≠0->Good P o ops [.nilsl,.fl t l] m (.so m.nx esz 0 l.length) (m.new (.raw (flat t l) esz true)):=fun m h0=>key (by
      have hb:Nat.beq l.length 0=false:=by
       cases hh:Nat.beq l.length 0 with
       | false=>rfl
       | true=>exact absurd (beqN.1 hh) h0
      simp only [appK,srcK,he1,cond_true,hb,cond_false,he2,zO3,Bool.and_true,hlt,zD2,zE8])
     obtain rfl:=beqN.1 he1
     split at h
     ·refine⟨_,_,h,?_⟩
      rcases Nat.eq_zero_or_pos l.length with h0 | hp
      ·have:l=[]:=List.eq_nil_of_length_eq_zero h0
       subst this
       exact (rawnil m rfl).result fun ρ v hv=>by cases hv;exact .fl0 t
      ·refine (rawnew m0 (by omega)).lift (zA7 .nilsl (zA7 (.fl _ _) zL8)) (.so (B:=.raw (flat t l) (wd t) true) ?_ rfl rfl fun j x hx=>hx)
       rw [at_new,if_pos rfl]
     ·cases hb:Nat.beq l.length 0 with
      | true =>
       rw [hb,cond_true] at h
       exact⟨_,_,h,rawnil m (beqN.1 hb)⟩
      | false =>
       rw [hb,cond_false,zE8] at h
       exact⟨_,_,h,(rawnew m fun h0=>by rw [beqN.2 h0] at hb;cases hb).retype (yI9 m rfl rfl rfl)⟩
  ·split at h
   ·rename_i t q
    obtain⟨n,news,m1,h1,hnx,hat,hall⟩:=yW9 h
    clear h
    cases he:Nat.beq esz (wd t)&&(Nat.blt bytes 4096&&Nat.blt n 1048576) with
    | false=>rw [he] at h1;cases h1
    | true =>
     rw [he,cond_true] at h1
     simp only [Bool.and_eq_true] at he
     obtain⟨he1,he2,he3⟩:=he
     cases hn:Nat.beq n 0 with
     | true=>rw [hn] at h1;cases h1
     | false =>
      rw [hn,cond_false] at h1
      split at h1<;>first | (cases h1;done) | skip
      rename_i xs hxs
      rw [zE8] at h1
      obtain⟨hf,hl⟩:=zO4 hxs
      refine⟨_,_,h1,?_⟩
      have hg:Good P o ops [.nilsl,y] m (.so m1.nx esz 0 n) (m1.new (.raw news esz true)):=key (by
       simp only [appK,hall,hn,cond_false,he2,Bool.true_and]
       rw [<- hf,zO3,cond_true]
       simp only [he3,cond_true,zD2,zE8])
      rw [hl]
      exact hg.retype (yI9 m1 (by rw [<- hf];rfl) rfl rfl)
   ·exact raw h
 ·rename_i i e off len
  obtain⟨n,news,m1,h1,hnx,hat,hall⟩:=yW9 h
  clear h
  cases hn:Nat.beq n 0 with
  | true=>rw [hn] at h1;cases h1
  | false =>
   rw [hn,cond_false] at h1
   replace h1:=zD0 h1
   obtain⟨B,hB,h1⟩:=h1
   split at h1
   ·rename_i t l bz opn
    cases he:Nat.beq e esz&&(Nat.beq off 0&&(Nat.beq esz (wd t)&&(Nat.beq bz esz&&(opn&&Nat.blt bytes 4096)))) with
    | false=>rw [he] at h1;cases h1
    | true =>
     rw [he,cond_true] at h1
     simp only [Bool.and_eq_true] at he
     obtain⟨a1,a2,a3,a4,a5,a6⟩:=he
     cases hll:Nat.beq l.length len with
     | false=>rw [hll] at h1;cases h1
     | true =>
      rw [hll,cond_true] at h1
      cases hlt:Nat.blt (len+n) 1048576 with
      | false=>rw [hlt] at h1;cases h1
      | true =>
       rw [hlt,cond_true] at h1
       split at h1<;>first | (cases h1;done) | skip
       rename_i xs hxs
       rw [yO0,zE8] at h1
       obtain⟨hf,hl⟩:=zO4 hxs
       have hlen:=beqN.1 hll
       obtain rfl:=beqN.1 a1
       obtain rfl:=beqN.1 a2
       obtain rfl:=beqN.1 a3
       obtain rfl:=beqN.1 a4
       subst a5
       refine⟨_,_,h1,?_⟩
       have hg:Good P o ops [.so i (wd t) 0 len,y] m (.so ((m1.touch i).del i).nx (wd t) 0 (len+n)) (((m1.touch i).del i).new (.raw (flat t l++news) (wd t) true)):=key (by
        simp only [appK,hall,hn,cond_false,a6,Bool.true_and]
        rw [<- hf,zO3,cond_true]
        simp only [a1,hlt,Bool.and_true,cond_true]
        rw [vO0 hB]
        have c1:Nat.beq (Blk.mk (.ls t l) (wd t) true).cells.length ((0+len)*wd t)=true:=beqN.2 (by
         show (flat t l).length=_
         rw [zB5,hlen,Nat.zero_add])
        simp only [c1,a1,Bool.and_self,cond_true]
        rw [wU6 _ _ (by simp) (by show _=(flat t l).length;rw [zB5,hlen])]
        simp only [zD2,yO0,zE8]
        rfl)
       rw [List.length_append,hlen,hl]
       refine hg.retype (yI9 _ ?_ rfl rfl)
       show flat t l++news=flat t (l++xs)
       rw [zH2,hf]
   ·cases h1
 ·rename_i i off len cap
  split at h
  ·rename_i t q
   obtain⟨n,news,m1,h1,hnx,hat,hall⟩:=yW9 h
   clear h
   cases hn:Nat.beq n 0 with
   | true=>rw [hn] at h1;cases h1
   | false =>
    rw [hn,cond_false] at h1
    cases he:Nat.blt bytes 4096&&(Nat.blt (len+n) 1048576&&!Nat.ble (len+n) cap) with
    | false=>rw [he] at h1;cases h1
    | true =>
     rw [he,cond_true] at h1
     simp only [Bool.and_eq_true,Bool.not_eq_true'] at he
     obtain⟨he1,he2,he3⟩:=he
     replace h1:=zD0 h1
     obtain⟨B,hB,h1⟩:=h1
     obtain⟨olds,hol,_,h1,hall2⟩:=xC0 h1
     cases hw:Nat.beq esz (wd t) with
     | false=>rw [hw] at h1;cases h1
     | true =>
      rw [hw,cond_true] at h1
      split at h1<;>first | (cases h1;done) | skip
      rename_i xs hxs
      rw [zE8] at h1
      obtain⟨hf,hl⟩:=zO4 hxs
      refine⟨_,_,h1,?_⟩
      have hsc:news.all scal=true:=by
       have h2:=zO3 t xs
       rw [hf,List.all_append,Bool.and_eq_true] at h2
       exact h2.2
      have hg:Good P o ops [.sl i off len cap,y] m (.so (m1.touch i).nx esz 0 (len+n)) ((m1.touch i).new (.raw (olds++news) esz true)):=key (by
       simp only [appK,hall,hn,cond_false,he1,hsc,Bool.and_self,cond_true,he2,he3]
       rw [vO0 hB,hall2]
       simp only [zD2,zE8])
      exact hg.retype (yI9 _ (by rw [<- hf];rfl) rfl rfl)
  ·exact raw h
 ·exact raw h
theorem vH7 {β:Type} {k:AV->Mem->Option β} {res:β} {alt:Alt} {zs:List AV} (hcl:zF6 P cl) {vs:List AV} (hc:zC9 P o.op=some (.new zs,ops)) (h:newS alt zs m k=some res):∃ r m',k r m'=some res/\Good P o ops vs m r m':=by
 have raw:∀ {β:Type} {k:AV->Mem->Option β} {res:β},newK m (.raw zs 1 false) (fun i m=>k (.ptr i 0) m)=some res->∃ r m',k r m'=some res/\Good P o ops vs m r m':=fun h=>zQ5 hcl hc (kd:=.new zs) (by simpa [kdK] using h)
 unfold newS at h
 split at h
 ·split at h<;>first | (cases h;done) | skip
  rename_i t n xs hxs
  rw [zE8] at h
  obtain⟨hf,hl⟩:=zO4 hxs
  obtain⟨r,m',hk,hg⟩:=raw (k:=fun v m=>some (v,m)) (by rw [zE8])
  cases hk
  exact⟨_,_,h,hg.retype (yI9 m (by rw [<- hf];rfl) rfl rfl)⟩
 ·exact raw h
end
abbrev Alts:=List (Bool × AV × Mem)
abbrev ClS:=Nat->List AV->Mem->Alts
def firstT {α:Type}:List (Bool × α)->Option α
 | []=>none
 | (true,x)::_=>some x
 | (false,_)::l=>firstT l
def erC (cs:ClS):Cl:=fun f xs m=>firstT (cs f xs m)
abbrev zA1 (P:Program) (cs:ClS):Prop:=zF6 P (erC cs)
def qH3 {β:Type}:Alts->(AV->Mem->Option β)->Option β
 | [],_=>none
 | (g,r,m)::l,k=>bif g then k r m else qH3 l k
theorem yO9 {β:Type} {k:AV->Mem->Option β} {res:β}:∀ {l:Alts},qH3 l k=some res->∃ r m,firstT l=some (r,m)/\k r m=some res
 | [],h=>by cases h
 | (true,r,m)::l,h=>⟨r,m,rfl,h⟩
 | (false,r,m)::l,h=>yO9 (l:=l) h
def qG4 {β:Type} (cs:ClS) (f:Nat) (xs:List AV) (m:Mem) (k:AV->Mem->Option β):Option β:=qH3 (cs f xs m) k
theorem yV9 {β:Type} {cs:ClS} {f:Nat} {xs:List AV} {m:Mem} {k:AV->Mem->Option β} {res:β} (h:qG4 cs f xs m k=some res):yR5 (erC cs) f xs m k=some res:=by
 obtain⟨r,m',h1,h2⟩:=yO9 h
 unfold yR5 erC
 rw [h1]
 exact h2
def oneA {α:Type}:Option α->List α
 | some x=>[x]
 | none=>[]
theorem yN4 {α:Type} {o:Option (Bool × α)} {x:α} (h:firstT (oneA o)=some x):o=some (true,x):=by
 unfold oneA at h
 split at h
 ·rename_i q
  obtain⟨g,y⟩:=q
  cases g with
  | true=>cases h;rfl
  | false=>cases h
 ·cases h
def addA (f:Nat) (os:List AV->Mem->Alts) (cl:ClS):ClS:=fun g xs m=>bif Nat.beq g f then os xs m else cl g xs m
theorem xD2 {f:Nat} {os:List AV->Mem->Alts} {cl:ClS} {g:Nat} {xs:List AV} {m m':Mem} {r':AV} (hr:erC (addA f os cl) g xs m=some (r',m')):(g=f/\firstT (os xs m)=some (r',m'))∨erC cl g xs m=some (r',m'):=by
 unfold erC addA at hr
 cases hg:Nat.beq g f with
 | false=>rw [hg] at hr;exact .inr hr
 | true=>rw [hg] at hr;exact .inl ⟨Nat.eq_of_beq_eq_true hg,hr⟩
def addO (f:Nat) (o:List AV->Mem->Option (Bool × AV × Mem)) (cl:ClS):ClS:=addA f (fun xs m=>oneA (o xs m)) cl
theorem zS4 {f:Nat} {o:List AV->Mem->Option (Bool × AV × Mem)} {cl:ClS} {g:Nat} {xs:List AV} {m m':Mem} {r':AV} (hr:erC (addO f o cl) g xs m=some (r',m')):(g=f/\o xs m=some (true,r',m'))∨erC cl g xs m=some (r',m'):=by
 rcases xD2 hr with⟨h1,h2⟩ | h
 ·exact .inl ⟨h1,yN4 h2⟩
 ·exact .inr h
def yZ8 (xs ys:List AV):List (Nat × Leaf)->Option Bool
 | []=>some true
 | (o,l)::ls =>
  match (zP7 o xs).head?,(zP7 o ys).head? with
  | some x,some y=>(match yL8 l x y,yZ8 xs ys ls with
   | some b,some c=>some (b&&c)
   | _,_=>none)
  | _,_=>none
theorem xN1 {xs ys:List AV}:∀ {ls:List (Nat × Leaf)} {b:Bool},yZ8 xs ys ls=some b->zJ2 xs ys ls=some b
 | [],b,h=>h
 | (o,l)::ls,b,h=>by
  simp only [yZ8] at h
  split at h<;>first | (cases h;done) | skip
  rename_i x y hx hy
  split at h<;>first | (cases h;done) | skip
  rename_i p q hp hq
  have ih:=xN1 hq
  cases h
  simp only [zJ2,hx,hy,hp,ih]
  cases p<;>rfl
def kdS {β:Type} (cl:ClS) (alt:Alt) (kd:Kd) (xs:List AV) (m:Mem) (k:AV->Mem->Option β):Option β :=
 match kd with
 | .ld1=>on1 (fun x=>ld1S x m k) xs
 | .ldn q=>on1 (fun x=>ldnS q x m k) xs
 | .st q=>on2 (fun x v=>stS q x v m k) xs
 | .app esz bytes=>on2 (fun x y=>appS alt esz bytes x y m k) xs
 | .new zs=>newS alt zs m k
 | .box=>on1 (fun x=>newK m (.raw (zF3 x) 1 false) fun i m=>k (.ptr i 0) m) xs
 | .bsl zs len esz ps=>zS5 (repA zs len) ps xs fun cs=>newK m (.raw cs esz false) fun i m=>k (.sl i 0 len len) m
 | .call f=>qG4 cl f xs m k
 | .callv=>(match xs with | .fn f cs::xs=>qG4 cl f (xs++cs) m k | _=>none)
 | .ixs esz=>on2 (fun x i=>ixsS esz x i fun v=>k v m) xs
 | .ixa len esz=>on2 (fun x i=>ixaS alt len esz x i fun v=>k v m) xs
 | .fad off=>on1 (fun x=>fadS off x fun v=>k v m) xs
 | .slc esz lo hi=>(match xs with | x::asZ=>slcS esz lo hi x asZ fun v=>k v m | []=>none)
 | .len=>on1 (fun x=>lenS x fun v=>k v m) xs
 | .nchk=>on1 (fun x=>match x with
  | .ptr i o=>k (.ptr i o) m
  | .fn f cs=>k (.fn f cs) m
  | .ifc t v=>k (.ifc t v) m
  | .tp i n e o=>k (.tp i n e o) m
  | _=>none) xs
 | .eqa neg ls=>on2 (fun x y=>match x,y with
  | .agg xs,.agg ys=>(match yZ8 xs ys ls with
   | some b=>k (.bool (bif neg then !b else b)) m
   | none=>none)
  | _,_=>none) xs
 | .sbin .add=>on2 (fun x y=>match x,y with | .str a,.str b=>addS a b fun v=>k v m | _,_=>none) xs
 | .bin .quo=>on2 (fun x y=>match x,y with
  | .int a n,.int b q=>bif Nat.beq (kn a) (kn b) then (bif eqI q 0 then none else k (.int a (zA3 a (n.tdiv q))) m) else none
  | _,_=>none) xs
 | .bin .rem=>on2 (fun x y=>match x,y with
  | .int a n,.int b q=>bif Nat.beq (kn a) (kn b) then (bif eqI q 0 then none else k (.int a (n.tmod q)) m) else none
  | _,_=>none) xs
 | .un .xor=>on1 (fun x=>match x with
  | .int a n=>bif a.signed then none else k (.int a (zA3 a (-1 - n))) m
  | _=>none) xs
 | kd=>kdK (erC cl) kd xs m k
def putS {β:Type} (dst:Option Path) (v:AV) (tm:T AV) (k:T AV->Option β):Option β :=
 match dst with
 | none=>k tm
 | some p=>match v with
  | .bool b=>bif b then tm.setK p (.bool true) k else tm.setK p (.bool false) k
  | v=>tm.setK p v k
theorem vE0 {β:Type} (dst:Option Path) (v:AV) (tm:T AV) (k:T AV->Option β):putS dst v tm k=k (setO dst v tm):=by
 cases dst with
 | none=>rfl
 | some p =>
  cases v<;>first | (simp only [putS,setO,T.setK_eq];done) | skip
  rename_i b
  cases b<;>simp only [putS,setO,T.setK_eq,cond_true,cond_false]
structure SOp where
 op:AOper
 alt:Alt
 deriving Inhabited
def opS {β:Type} (cl:ClS) (o:SOp) (tm:T AV) (m:Mem) (k:T AV->Mem->Option β):Option β :=
 match yI1 o.op.guard tm with
 | some true=>yR6 o.op.args tm fun xs=>kdS cl o.alt o.op.k xs m fun v m=>putS o.op.dst v tm fun tm=>k tm m
 | some false=>putS o.op.dst (.tup []) tm fun tm=>k tm m
 | none=>none
def opsS {β:Type} (cl:ClS):List SOp->T AV->Mem->(T AV->Mem->Option β)->Option β
 | [],tm,m,k=>k tm m
 | o::os,tm,m,k=>opS cl o tm m fun tm m=>opsS cl os tm m k
def uM6 {α β:Type} (pr:α->AOper) (step:α->T AV->Mem->(T AV->Mem->Option β)->Option β):List α->Nat->List (Nat × Nat × Nat)->T AV->Mem->(T AV->Mem->Option β)->Option β
 | [],_,_,tm,m,k=>k tm m
 | o::os,i,acc,tm,m,k =>
  match m with
  | ⟨h,nx,t,w⟩=>step o tm ⟨h,nx,0,0⟩ fun tm m' =>
   match m' with
   | ⟨h',nx',t',w'⟩=>bif yZ1 (pr o).bef t' w' acc then zD4 (Nat.lor t t') fun t2=>zD4 (Nat.lor w w') fun w2 =>
     uM6 pr step os (Nat.succ i) (bif Nat.beq t' 0 then acc else (i,t',w')::acc) tm ⟨h',nx',t2,w2⟩ k
    else none
section
variable {P:Program} {n:Nat} {o:Oper} {ops:List Operand} {vs:List AV} {m:Mem} {cl:ClS}
theorem qF9 {k:IntKind} (hs:k.signed=false) (n:Int) (w:World):(Op.unary .xor (.int k n)).run P w=.ok (.int k (k.wrap (-1 - n))) w:=by
 have key:∀ W:Nat,(2:Int) ^ W - 1=(((2 ^ W - 1:Nat):Int))->((BitVec.ofInt W (2 ^ W - 1) ^^^ BitVec.ofInt W n).toNat:Int)=2 ^ W - 1 - n % 2 ^ W:=fun W hW=>by
  have h1:BitVec.ofInt W (2 ^ W - 1)=BitVec.allOnes W:=by
   apply BitVec.eq_of_toNat_eq
   rw [BitVec.toNat_ofInt,BitVec.toNat_allOnes,hW]
   have hp:0 < 2 ^ W:=Nat.two_pow_pos W
   have e:((2 ^ W:Nat):Int)=2 ^ W:=by simp
   rw [e]
   have h3:((2 ^ W - 1:Nat):Int) % 2 ^ W=((2 ^ W - 1:Nat):Int):=Int.emod_eq_of_lt (by omega) (by rw [<- hW];omega)
   rw [h3];rfl
  rw [h1,BitVec.allOnes_xor,BitVec.toNat_not,BitVec.toNat_ofInt]
  have e:((2 ^ W:Nat):Int)=2 ^ W:=by simp
  rw [e]
  have hp:(0:Int) < 2 ^ W:=by rw [<- e];exact Int.ofNat_lt.2 (Nat.two_pow_pos W)
  have h4:=Int.emod_nonneg n (by omega:(2:Int) ^ W≠0)
  have h5:=Int.emod_lt_of_pos n hp
  omega
 have fin:∀ W:Nat,(2:Int) ^ W - 1=(((2 ^ W - 1:Nat):Int))->((BitVec.ofInt W (2 ^ W - 1) ^^^ BitVec.ofInt W n).toNat:Int) % 2 ^ W=(-1 - n) % 2 ^ W:=fun W hW=>by
  rw [key W hW]
  have e:(2:Int) ^ W - 1 - n % 2 ^ W=(-1 - n % 2 ^ W)+2 ^ W:=by omega
  rw [e,Int.add_emod_right,Int.sub_emod,Int.emod_emod,<- Int.sub_emod]
 cases k<;>first | (exact absurd hs (by decide)) | skip
 ·have:=fin 8 (by decide)
  simp only [Op.unary,IntKind.signed,Bool.false_eq_true,if_false]
  show Result.ok (Value.int .u8 (IntKind.u8.wrap _)) w=_
  unfold IntKind.wrap
  simp only [IntKind.signed,IntKind.bits,Bool.false_and,Bool.false_eq_true,if_false]
  exact congrArg (fun x=>Result.ok (Value.int .u8 x) w) this
 ·have:=fin 16 (by decide)
  simp only [Op.unary,IntKind.signed,Bool.false_eq_true,if_false]
  show Result.ok (Value.int .u16 (IntKind.u16.wrap _)) w=_
  unfold IntKind.wrap
  simp only [IntKind.signed,IntKind.bits,Bool.false_and,Bool.false_eq_true,if_false]
  exact congrArg (fun x=>Result.ok (Value.int .u16 x) w) this
 ·have:=fin 32 (by decide)
  simp only [Op.unary,IntKind.signed,Bool.false_eq_true,if_false]
  show Result.ok (Value.int .u32 (IntKind.u32.wrap _)) w=_
  unfold IntKind.wrap
  simp only [IntKind.signed,IntKind.bits,Bool.false_and,Bool.false_eq_true,if_false]
  exact congrArg (fun x=>Result.ok (Value.int .u32 x) w) this
 ·have:=fin 64 (by decide)
  simp only [Op.unary,IntKind.signed,Bool.false_eq_true,if_false]
  show Result.ok (Value.int .u64 (IntKind.u64.wrap _)) w=_
  unfold IntKind.wrap
  simp only [IntKind.signed,IntKind.bits,Bool.false_and,Bool.false_eq_true,if_false]
  exact congrArg (fun x=>Result.ok (Value.int .u64 x) w) this
theorem uL3 {k:IntKind} {n:Int} (hc:zC9 P o.op=some (.un .xor,ops)) (hs:k.signed=false):Good P o ops [.int k n] m (.int k (zA3 k (-1 - n))) m :=
 zC0 (AS.refl m) fun ρ w T N a _ _ hvs hm=>by
  have hop:∃ t x,o.op=.unOp .xor t x/\ops=[x]:=by
   cases ho:o.op with
   | unOp op t x =>
    rw [ho] at hc
    cases hc
    exact⟨t,x,rfl,rfl⟩
   | _ =>
    rw [ho] at hc
    simp only [zC9,zN6,zI3] at hc
    repeat' (first | (cases hc;done) | split at hc)
  obtain⟨t,x,ho,rfl⟩:=hop
  have h1:=VRs.one hvs
  generalize hX:a.eval x=X at h1
  cases h1
  refine⟨ρ,w,.int k (zA3 k (-1 - n)),yldw (by simp only [execOp,ho]<;>rfl) ?_,.int _ _,hm,CS.refl ρ w m⟩
  rw [hX,zF4]
  exact qF9 hs n w
theorem uJ2 {β:Type} {k:AV->Mem->Option β} {res:β} {alt:Alt} {kd:Kd} (hcl:zA1 P cl) (hc:zC9 P o.op=some (kd,ops)) (h:kdS cl alt kd vs m k=some res):∃ r m',k r m'=some res/\Good P o ops vs m r m':=by
 unfold kdS at h
 split at h
 ·replace h:=zK3 h
  obtain⟨x,rfl,h⟩:=h
  exact vK4 hc h
 ·replace h:=zK3 h
  obtain⟨x,rfl,h⟩:=h
  exact vK3 hc h
 ·replace h:=zJ0 h
  obtain⟨x,y,rfl,h⟩:=h
  exact vZ6 hc h
 ·replace h:=zJ0 h
  obtain⟨x,y,rfl,h⟩:=h
  exact vT5 hcl hc h
 ·exact vH7 hcl hc h
 ·refine zQ5 hcl hc (kd:=.box) ?_
  simp only [kdK,zD2]
  exact h
 ·rename_i zs len esz ps
  refine zQ5 hcl hc (kd:=.bsl zs len esz ps) ?_
  simp only [kdK,zD2]
  exact h
 ·rename_i f
  refine zQ5 hcl hc (kd:=.call f) ?_
  simp only [kdK,zD2]
  exact yV9 h
 ·refine zQ5 hcl hc (kd:=.callv) ?_
  simp only [kdK,zD2]
  split at h<;>first | (cases h;done) | skip
  exact yV9 h
 ·replace h:=zJ0 h
  obtain⟨x,y,rfl,h⟩:=h
  obtain⟨r,h1,h2⟩:=vN0 (m:=m) hc h
  exact⟨r,m,h1,h2⟩
 ·replace h:=zJ0 h
  obtain⟨x,y,rfl,h⟩:=h
  obtain⟨r,h1,h2⟩:=vN1 (m:=m) hc h
  exact⟨r,m,h1,h2⟩
 ·replace h:=zK3 h
  obtain⟨x,rfl,h⟩:=h
  obtain⟨r,h1,h2⟩:=vP4 (m:=m) hc h
  exact⟨r,m,h1,h2⟩
 ·split at h
  ·obtain⟨r,h1,h2⟩:=wZ9 (m:=m) hc h
   exact⟨r,m,h1,h2⟩
  ·cases h
 ·replace h:=zK3 h
  obtain⟨x,rfl,h⟩:=h
  obtain⟨r,h1,h2⟩:=vJ8 (m:=m) hc h
  exact⟨r,m,h1,h2⟩
 ·replace h:=zK3 h
  obtain⟨x,rfl,h⟩:=h
  split at h<;>first | (cases h;done) | skip
  ·exact⟨_,m,h,zD6 hc rfl⟩
  ·exact⟨_,m,h,zD6 hc rfl⟩
  ·exact⟨_,m,h,zD6 hc rfl⟩
  ·rename_i i n e o
   have hg:Good P _ ops [.ptr i (n*e+o)] m (.ptr i (n*e+o)) m:=zD6 hc rfl
   exact⟨_,m,h,(zY1 (_x:=default) hg).result fun ρ v hv=>by
    cases hv with
    | ptr hr=>rw [<- Nat.add_assoc];exact .tp hr⟩
 ·replace h:=zJ0 h
  obtain⟨x,y,rfl,h⟩:=h
  split at h<;>first | (cases h;done) | skip
  split at h<;>first | (cases h;done) | skip
  rename_i b hb
  refine⟨_,m,h,zD6 hc ?_⟩
  simp only [zK2,two2,xN1 hb]
 ·replace h:=zJ0 h
  obtain⟨x,y,rfl,h⟩:=h
  split at h
  ·rename_i a b
   unfold addS at h
   cases hb:Nat.blt (a.length+b.length) 1000000 with
   | false=>rw [hb] at h;cases h
   | true =>
    rw [hb,cond_true] at h
    refine⟨_,m,h,zD6 hc ?_⟩
    simp only [zK2,two2,vA3,hb,cond_true]
  ·cases h
 ·replace h:=zJ0 h
  obtain⟨x,y,rfl,h⟩:=h
  split at h
  ·rename_i a n b q
   cases hk:Nat.beq (kn a) (kn b) with
   | false=>rw [hk] at h;cases h
   | true =>
    rw [hk,cond_true] at h
    cases hq:eqI q 0 with
    | true=>rw [hq] at h;cases h
    | false =>
     rw [hq,cond_false] at h
     refine⟨_,m,h,zD6 hc ?_⟩
     simp only [zK2,two2,binA,binC,hk,hq,cond_true,cond_false]
  ·cases h
 ·replace h:=zJ0 h
  obtain⟨x,y,rfl,h⟩:=h
  split at h
  ·rename_i a n b q
   cases hk:Nat.beq (kn a) (kn b) with
   | false=>rw [hk] at h;cases h
   | true =>
    rw [hk,cond_true] at h
    cases hq:eqI q 0 with
    | true=>rw [hq] at h;cases h
    | false =>
     rw [hq,cond_false] at h
     refine⟨_,m,h,zD6 hc ?_⟩
     simp only [zK2,two2,binA,binC,hk,hq,cond_true,cond_false]
  ·cases h
 ·replace h:=zK3 h
  obtain⟨x,rfl,h⟩:=h
  split at h
  ·rename_i a n
   cases hs:a.signed with
   | true=>rw [hs] at h;cases h
   | false =>
    rw [hs,cond_false] at h
    exact⟨_,m,h,uL3 hc hs⟩
  ·cases h
 ·exact zQ5 hcl hc h
theorem yZ0 {ops:Array Oper} {tm:T AV} {β:Type} {k:T AV->Mem->Option β} {res:β} (hcl:zA1 P cl) {ao:SOp} (hc:CompO P n ops o ao.op) (h:opS cl ao tm m k=some res) :
  ∃ r m',k (setO ao.op.dst r tm) m'=some res/\yP2 P ops o ao.op tm m r m':=by
 have guardOk:∀ {b:Bool},yI1 ao.op.guard tm=some b->∀ {ρ:Ren} {a:Act},(∀ t x,pth t∈zX1 ao.op->tm.get (pth t)=some x->∃ y,a.tmps[t]?=some y/\VR ρ x y)->Region.wanted o (yielded ops a.tmps)=b:=by
  intro b hb ρ a ht
  unfold Region.wanted
  rcases hc.guard with⟨h1,h2⟩ | ⟨j,want,d,h1,h2,h3⟩
  ·rw [h2] at hb
   cases hb
   rw [h1]
  ·rw [h3] at hb
   simp only [yI1] at hb
   rw [h1]
   simp only [yielded,h2,Option.bind_some]
   cases hg:tm.get (pth d) with
   | none=>rw [hg] at hb;cases hb
   | some x =>
    rw [hg] at hb
    obtain⟨y,hy1,hy2⟩:=ht d x (by simp [zX1,h3]) hg
    rw [hy1]
    cases hy2<;>first | (cases hb;rfl) | skip
    rename_i c
    cases hb
    cases c<;>cases want<;>rfl
 unfold opS at h
 split at h
 ·rename_i hw
  obtain⟨vs,hk,hl,hv⟩:=yO8 h
  rcases hc.kd with hbad | ⟨xs,hkd,hargs⟩
  ·rw [hbad] at hk;simp [kdS,kdK,zK2] at hk
  obtain⟨r,m',hk2,ha,hg⟩:=uJ2 hcl hkd hk
  rw [vE0] at hk2
  refine⟨r,m',hk2,ha,fun ρ w T N a next Q hT hN ht hm hn=>?_⟩
  rw [if_pos (guardOk hw ht)]
  refine hg ρ w T N a next Q hT hN (yH8 hargs hl hv fun t x hx hget=>ht t x ?_ hget) hm hn
  simp only [zX1,List.mem_append,List.mem_filterMap]
  exact .inl ⟨_,hx,rfl⟩
 ·rename_i hw
  rw [vE0] at h
  refine⟨_,m,h,AS.refl m,fun ρ w T N a next Q hT hN ht hm hn=>?_⟩
  rw [if_neg (by rw [guardOk hw ht];simp)]
  exact hn ρ w undef VRs.nil.tup hm (CS.refl ρ w m)
 ·cases h
theorem xK9 {ops:Array Oper} (hcl:zA1 P cl):∀ (aos:List SOp) (s:Nat) (tm:T AV) (m:Mem) {β:Type} (k:T AV->Mem->Option β) (res:β),
  (∀ j ao,aos[j]?=some ao->∃ o,ops[s+j]?=some o/\CompO P n ops o ao.op)->opsS cl aos tm m k=some res ->
  ∃ tm' m',k tm' m'=some res/\∀ Q0:Exit->Act->World->Prop,wX2 n tm m tm' m' fun a w K=>wpOps P ops (Exit.then K Q0) (List.range' s aos.length) a w
 | [],s,tm,m,β,k,res,_,h=>⟨tm,m,h,fun Q0=>⟨AS.refl m,fun ρ w T N a K _ _ ht hm hK=>hK ρ a w ht rfl hm (CS.refl ρ w m)⟩⟩
 | ao::aos,s,tm,m,β,k,res,hc,h=>by
  obtain⟨o,ho,hco⟩:=hc 0 ao rfl
  obtain⟨r,m1,hk,ha,hg⟩:=yZ0 hcl hco h
  obtain⟨tm',m',hk',hQ⟩:=xK9 hcl aos (s+1) _ m1 k res (fun j a hj=>by
   obtain⟨o',h1,h2⟩:=hc (j+1) a (by simpa using hj)
   exact⟨o',by rw [<- h1];congr 1;omega,h2⟩) hk
  refine⟨tm',m',hk',fun Q0=>?_⟩
  obtain⟨ha',hr'⟩:=hQ Q0
  refine⟨ha.trans ha',fun ρ w T N a K hT hN ht hm hK=>?_⟩
  simp only [List.length_cons,List.range'_succ,wpOps_cons,wpOp]
  rw [Nat.add_zero] at ho
  simp only [ho]
  have:=hg ρ w T N a (wpOps P ops (Exit.then K Q0) (List.range' (s+1) aos.length)) (Exit.then K Q0) (fun i hi=>hT i (ha'.tch i hi)) (Nat.le_trans ha'.nx hN) (fun t x _ hx=>ht.2 t x hx) hm
   (fun ρ1 w1 v hv hm1 hc1=>hr' ρ1 w1 T N _ K hT hN (TR.put (n:=n) ht hc1.ext hco.dst hv) hm1 fun ρ2 a2 w2 ht2 hd2 hm2 hc2 =>
    hK ρ2 a2 w2 ht2 (by rw [hd2,put_defers]) hm2 (hc1.trans hc2 ha ha' hm.wf))
  split at this
  ·rename_i hw
   rw [if_pos hw]
   exact .inl this
  ·rename_i hw
   rw [if_neg hw]
   exact this
end
section
variable {P:Program} {n:Nat} {ops:Array Oper} {cl:ClS} {A:List AOper}
theorem xQ2 {α:Type} {pr:α->AOper} {β:Type} {step:α->T AV->Mem->(T AV->Mem->Option β)->Option β}
  (hstep:∀ (o:Oper) (a:α) (tm:T AV) (m:Mem) (k:T AV->Mem->Option β) (res:β),CompO P n ops o (pr a)->step a tm m k=some res->∃ r m',k (setO (pr a).dst r tm) m'=some res/\yP2 P ops o (pr a) tm m r m')
  (hreg:RegOk P n ops A):∀ (l:List α) (i:Nat) (acc:List (Nat × Nat × Nat)) (tm:T AV) (m:Mem) (k:T AV->Mem->Option β) (res:β),A.drop i=l.map pr->i+l.length=A.length ->
  uM6 pr step l i acc tm m k=some res ->
  ∃ (tmS:Nat->T AV) (mS mE:Nat->Mem) (rS:Nat->AV) (m':Mem),k (tmS A.length) m'=some res/\tmS i=tm/\mS i=⟨m.h,m.nx,0,0⟩/\m'.h=(mS A.length).h/\m'.nx=(mS A.length).nx /\
   (∀ x,m'.tch.testBit x=true↔m.tch.testBit x=true∨∃ p,i<=p/\p < A.length/\(mE p).tch.testBit x=true) /\
   (∀ x,m'.wr.testBit x=true↔m.wr.testBit x=true∨∃ p,i<=p/\p < A.length/\(mE p).wr.testBit x=true) /\
   (∀ p,(mS p).tch=0/\(mS p).wr=0) /\
   (∀ p,i<=p->p < A.length->(∃ o,ops[p]?=some o/\yP2 P ops o (A.getD p default) (tmS p) (mS p) (rS p) (mE p))/\tmS (p+1)=setO (A.getD p default).dst (rS p) (tmS p)/\(mS (p+1)).h=(mE p).h/\(mS (p+1)).nx=(mE p).nx /\
    (∀ e∈acc,Cf (A.getD p default).bef (mE p).tch (mE p).wr e)/\(∀ q,i<=q->q < p->Cf (A.getD p default).bef (mE p).tch (mE p).wr (q,(mE q).tch,(mE q).wr)))
 | [],i,acc,tm,m,k,res,_,hlen,h=>by
  simp at hlen
  refine⟨fun _=>tm,fun _=>⟨m.h,m.nx,0,0⟩,fun _=>m,fun _=>default,m,h,rfl,rfl,rfl,rfl,fun x=>⟨.inl,fun hx=>?_⟩,fun x=>⟨.inl,fun hx=>?_⟩,fun _=>⟨rfl,rfl⟩,fun p h1 h2=>by omega⟩
  ·rcases hx with hx | ⟨p,h1,h2,_⟩
   ·exact hx
   ·omega
  ·rcases hx with hx | ⟨p,h1,h2,_⟩
   ·exact hx
   ·omega
 | ao::l,i,acc,tm,m,k,res,hdrop,hlen,h=>by
  simp only [List.length_cons] at hlen
  have hi:i < A.length:=by omega
  have hai:A.getD i default=pr ao:=by
   have:A[i]?=some (pr ao):=by
    have h1:(A.drop i)[0]?=some (pr ao):=by rw [hdrop];rfl
    simpa using h1
   simp [List.getD,this]
  obtain⟨o,ho,hco,_,_⟩:=hreg.op i hi
  rw [hai] at hco
  obtain⟨hh,nx,t,w⟩:=m
  simp only [uM6] at h
  obtain⟨r,m1,h1,hg⟩:=hstep o ao tm _ _ res hco h
  obtain⟨hh1,nx1,t1,w1⟩:=m1
  simp only at h1
  cases hok:yZ1 (pr ao).bef t1 w1 acc with
  | false=>rw [hok] at h1;cases h1
  | true =>
   rw [hok,cond_true] at h1
   simp only [zC8] at h1
   obtain⟨tmS,mS,mE,rS,m',k1,k2,k3,k4,k5,k6,k7,k8,k9⟩:=xQ2 hstep hreg l (i+1) _ _ _ k res (by rw [<- List.drop_drop,hdrop,List.map_cons];rfl) (by omega) h1
   have hwt:∀ x,w1.testBit x=true->t1.testBit x=true:=fun x hx=>hg.1.wt (fun _ h=>by simp at h) x hx
   have hmem:∀ q,q≠i->(if q=i then (⟨hh1,nx1,t1,w1⟩:Mem) else mE q)=mE q:=fun q hq=>if_neg hq
   refine⟨fun q=>if q=i then tm else tmS q,fun q=>if q=i then ⟨hh,nx,0,0⟩ else mS q,fun q=>if q=i then ⟨hh1,nx1,t1,w1⟩ else mE q,fun q=>if q=i then r else rS q,m',?_,if_pos rfl,if_pos rfl,?_,?_,fun x=>?_,fun x=>?_,fun p=>?_,fun p g1 g2=>?_⟩
   all_goals try dsimp only
   ·rw [if_neg (by omega)];exact k1
   ·rw [if_neg (by omega)];exact k4
   ·rw [if_neg (by omega)];exact k5
   ·rw [k6]
    have e:(t.lor t1).testBit x=true↔t.testBit x=true∨t1.testBit x=true:=by
     show (t ||| t1).testBit x=true↔_
     rw [Nat.testBit_or,Bool.or_eq_true]
    rw [e]
    constructor
    ·rintro ((hx | hx) | ⟨p,g1,g2,g3⟩)
     ·exact .inl hx
     ·exact .inr ⟨i,Nat.le_refl _,hi,by rw [if_pos rfl];exact hx⟩
     ·exact .inr ⟨p,by omega,g2,by rw [if_neg (by omega)];exact g3⟩
    ·rintro (hx | ⟨p,g1,g2,g3⟩)
     ·exact .inl (.inl hx)
     ·by_cases hp:p=i
      ·subst hp;rw [if_pos rfl] at g3;exact .inl (.inr g3)
      ·rw [if_neg hp] at g3;exact .inr ⟨p,by omega,g2,g3⟩
   ·rw [k7]
    have e:(w.lor w1).testBit x=true↔w.testBit x=true∨w1.testBit x=true:=by
     show (w ||| w1).testBit x=true↔_
     rw [Nat.testBit_or,Bool.or_eq_true]
    rw [e]
    constructor
    ·rintro ((hx | hx) | ⟨p,g1,g2,g3⟩)
     ·exact .inl hx
     ·exact .inr ⟨i,Nat.le_refl _,hi,by rw [if_pos rfl];exact hx⟩
     ·exact .inr ⟨p,by omega,g2,by rw [if_neg (by omega)];exact g3⟩
    ·rintro (hx | ⟨p,g1,g2,g3⟩)
     ·exact .inl (.inl hx)
     ·by_cases hp:p=i
      ·subst hp;rw [if_pos rfl] at g3;exact .inl (.inr g3)
      ·rw [if_neg hp] at g3;exact .inr ⟨p,by omega,g2,g3⟩
   ·by_cases hp:p=i
    ·subst hp;simp
    ·rw [if_neg hp];exact k8 p
   ·by_cases hp:p=i
    ·subst hp
     simp only [if_true]
     have hp1:p+1≠p:=by omega
     simp only [hp1,if_false]
     refine⟨⟨o,ho,by rw [hai];exact hg⟩,by rw [k2,hai],by rw [k3],by rw [k3],by rw [hai];exact xL5 hok,fun q g3 g4=>by omega⟩
    ·simp only [if_neg hp,if_neg (show p+1≠i by omega)]
     obtain⟨j1,j2,j3,j4,j5,j6⟩:=k9 p (by omega) g2
     refine⟨j1,j2,j3,j4,fun e he=>j5 e ?_,fun q g3 g4=>?_⟩
     ·cases hb:Nat.beq t1 0 with
      | true=>simp only [cond_true];exact he
      | false=>simp only [cond_false];exact List.mem_cons_of_mem _ he
     ·by_cases hq:q=i
      ·subst hq
       rw [if_pos rfl]
       cases hb:Nat.beq t1 0 with
       | true =>
        have ht0:t1=0:=beqN.1 hb
        refine .inr fun x=>⟨fun hx=>?_,fun _=>?_⟩
        ·have:=hwt x hx;rw [ht0] at this;simp at this
        ·show t1.testBit x=false;rw [ht0];simp
       | false=>exact j5 _ (by rw [hb];exact List.mem_cons_self)
      ·rw [if_neg hq];exact j6 q (by omega) g4
end
mutual
def xJ7:AV->List Nat
 | .ptr i _=>[i]
 | .sl i _ _ _=>[i]
 | .so i _ _ _=>[i]
 | .tp i _ _ _=>[i]
 | .fn _ cs=>zT8 cs
 | .ifc _ v=>xJ7 v
 | .agg cs=>zT8 cs
 | .tup cs=>zT8 cs
 | _=>[]
def zT8:List AV->List Nat
 | []=>[]
 | x::xs=>xJ7 x++zT8 xs
end
mutual
def renA (σ:Nat->Option Nat):AV->Option AV
 | .ptr i o=>(match σ i with | some j=>some (.ptr j o) | none=>none)
 | .sl i o l c=>(match σ i with | some j=>some (.sl j o l c) | none=>none)
 | .so i e o l=>(match σ i with | some j=>some (.so j e o l) | none=>none)
 | .tp i n e o=>(match σ i with | some j=>some (.tp j n e o) | none=>none)
 | .fn f cs=>(match renL σ cs with | some cs=>some (.fn f cs) | none=>none)
 | .ifc t v=>(match renA σ v with | some v=>some (.ifc t v) | none=>none)
 | .agg cs=>(match renL σ cs with | some cs=>some (.agg cs) | none=>none)
 | .tup cs=>(match renL σ cs with | some cs=>some (.tup cs) | none=>none)
 | .bool b=>some (.bool b)
 | .int k n=>some (.int k n)
 | .str s=>some (.str s)
 | .nilp=>some .nilp
 | .nilsl=>some .nilsl
 | .emp=>some .emp
 | .nilfn=>some .nilfn
 | .nilifc=>some .nilifc
 | .fl t l=>some (.fl t l)
 | .fp t l n o=>some (.fp t l n o)
 | .vs a l c=>some (.vs a l c)
def renL (σ:Nat->Option Nat):List AV->Option (List AV)
 | []=>some []
 | x::xs=>(match renA σ x,renL σ xs with | some x,some xs=>some (x::xs) | _,_=>none)
end
theorem zO7 {σ:Nat->Option Nat}:∀ {xs xs':List AV},renL σ xs=some xs'->xs'.length=xs.length/\∀ (j:Nat) (x':AV),xs'[j]?=some x'->∃ x,xs[j]?=some x/\renA σ x=some x'
 | [],xs',h=>by simp only [renL] at h;cases h;exact⟨rfl,fun j x' h=>by simp at h⟩
 | x::xs,xs',h=>by
  simp only [renL] at h
  split at h<;>first | (cases h;done) | skip
  rename_i y ys h1 h2
  cases h
  obtain⟨h3,h4⟩:=zO7 h2
  refine⟨by simp [h3],fun j x' hx=>?_⟩
  cases j with
  | zero=>cases hx;exact⟨x,rfl,h1⟩
  | succ j=>exact h4 j x' hx
theorem zS9 {σ:Nat->Option Nat} {ρ ρ2:Ren} (hσ:∀ i j t,σ i=some j->ρ i=some t->ρ2 j=some t) (hi:∀ b c,ρ.ice b=some c->ρ2.ice b=some c) {x:AV} {y:Value} (h:VR ρ x y):∀ {x':AV},renA σ x=some x'->VR ρ2 x' y:=by
 induction h with
 | bool b=>intro x' hr;simp only [renA] at hr;cases hr;exact .bool b
 | int k n=>intro x' hr;simp only [renA] at hr;cases hr;exact .int k n
 | str s=>intro x' hr;simp only [renA] at hr;cases hr;exact .str s
 | ptr h =>
    intro x' hr;simp only [renA] at hr;split at hr<;>first | (cases hr;done) | skip
    rename_i j hj;cases hr;exact .ptr (hσ _ _ _ hj h)
 | nilp=>intro x' hr;simp only [renA] at hr;cases hr;exact .nilp
 | sl l c h =>
      intro x' hr;simp only [renA] at hr;split at hr<;>first | (cases hr;done) | skip
      rename_i j hj;cases hr;exact .sl l c (hσ _ _ _ hj h)
 | so h hl =>
     intro x' hr;simp only [renA] at hr;split at hr<;>first | (cases hr;done) | skip
     rename_i j hj;cases hr;exact .so (hσ _ _ _ hj h) hl
 | nilsl=>intro x' hr;simp only [renA] at hr;cases hr;exact .nilsl
 | emp a c=>intro x' hr;simp only [renA] at hr;cases hr;exact .emp a c
 | fn hl _ ih =>
       intro x' hr;simp only [renA] at hr;split at hr<;>first | (cases hr;done) | skip
       rename_i cs' hcs;cases hr
       obtain⟨h1,h2⟩:=zO7 hcs
       refine .fn (by rw [h1,hl]) fun j x y hx hy=>?_
       obtain⟨z,h3,h4⟩:=h2 j x hx
       exact ih j z y h3 hy h4
 | nilfn=>intro x' hr;simp only [renA] at hr;cases hr;exact .nilfn
 | ifc _ ih =>
      intro x' hr;simp only [renA] at hr;split at hr<;>first | (cases hr;done) | skip
      rename_i v hv;cases hr;exact .ifc (ih hv)
 | nilifc=>intro x' hr;simp only [renA] at hr;cases hr;exact .nilifc
 | agg hl _ ih =>
        intro x' hr;simp only [renA] at hr;split at hr<;>first | (cases hr;done) | skip
        rename_i cs' hcs;cases hr
        obtain⟨h1,h2⟩:=zO7 hcs
        refine .agg (by rw [h1,hl]) fun j x y hx hy=>?_
        obtain⟨z,h3,h4⟩:=h2 j x hx
        exact ih j z y h3 hy h4
 | tup hl _ ih =>
        intro x' hr;simp only [renA] at hr;split at hr<;>first | (cases hr;done) | skip
        rename_i cs' hcs;cases hr
        obtain⟨h1,h2⟩:=zO7 hcs
        refine .tup (by rw [h1,hl]) fun j x y hx hy=>?_
        obtain⟨z,h3,h4⟩:=h2 j x hx
        exact ih j z y h3 hy h4
 | fl0 t=>intro x' hr;simp only [renA] at hr;cases hr;exact .fl0 t
 | fle t a c=>intro x' hr;simp only [renA] at hr;cases hr;exact .fle t a c
 | fl hc hs hcap h _ =>
  intro x' hr;simp only [renA] at hr;cases hr
  exact .fl (hi _ _ hc) hs hcap fun n j x y hn hx hy=>(h n j x y hn hx hy).pu hi (yF2 _ _ j x hx)
 | fp hc hs h _ =>
  intro x' hr;simp only [renA] at hr;cases hr
  exact .fp (hi _ _ hc) hs fun j x y hx hy=>(h j x y hx hy).pu hi (yF2 _ _ j x hx)
 | tp h =>
   intro x' hr;simp only [renA] at hr;split at hr<;>first | (cases hr;done) | skip
   rename_i j hj;cases hr;exact .tp (hσ _ _ _ hj h)
 | vs a l c=>intro x' hr;simp only [renA] at hr;cases hr;exact .vs a l c
def xK4 (i:Nat):List Nat->Nat->Option Nat
 | [],_=>none
 | j::l,b=>bif Nat.beq i j then some b else xK4 i l (Nat.succ b)
def sig (base:Nat) (sv:List Nat) (i:Nat):Option Nat:=bif Nat.blt i base then some i else xK4 i sv base
def tau (base:Nat) (sv:List Nat) (j:Nat):Option Nat:=if j < base then some j else sv[j - base]?
theorem xK3 {i:Nat}:∀ {l:List Nat} {b j:Nat},xK4 i l b=some j->b<=j/\l[j - b]?=some i
 | [],b,j,h=>by cases h
 | q::l,b,j,h=>by
  simp only [xK4] at h
  cases hq:Nat.beq i q with
  | true=>rw [hq,cond_true] at h;cases h;rw [beqN.1 hq];exact⟨Nat.le_refl _,by simp⟩
  | false =>
   rw [hq,cond_false] at h
   obtain⟨h1,h2⟩:=xK3 h
   refine⟨by omega,?_⟩
   rw [show j - b=(j - (b+1))+1 by omega]
   exact h2
theorem xT3 {base:Nat} {sv:List Nat} {i j:Nat} (h:sig base sv i=some j):tau base sv j=some i:=by
 unfold sig at h
 unfold tau
 cases hb:Nat.blt i base with
 | true=>rw [hb,cond_true] at h;cases h;rw [if_pos (blt_iff.1 hb)]
 | false =>
  rw [hb,cond_false] at h
  obtain⟨h1,h2⟩:=xK3 h
  rw [if_neg (by omega)]
  exact h2
def okSv (base:Nat):List Nat->Bool
 | []=>true
 | i::l=>Nat.ble base i&&((xK4 i l 0).isNone&&okSv base l)
theorem yT2 {i:Nat}:∀ {l:List Nat} {b:Nat},(xK4 i l b).isNone=true->i ∉ l
 | [],b,_=>by simp
 | q::l,b,h=>by
  simp only [xK4] at h
  cases hq:Nat.beq i q with
  | true=>rw [hq] at h;cases h
  | false =>
   rw [hq,cond_false] at h
   intro hm
   rcases List.mem_cons.1 hm with rfl | hm
   ·rw [beqN.2 rfl] at hq;cases hq
   ·exact yT2 h hm
theorem yH1 {base:Nat}:∀ {sv:List Nat},okSv base sv=true->(∀ i∈sv,base<=i)/\sv.Nodup
 | [],_=>⟨(fun i h=>by cases h),List.nodup_nil⟩
 | i::l,h=>by
  simp only [okSv,Bool.and_eq_true] at h
  obtain⟨h1,h2,h3⟩:=h
  obtain⟨h4,h5⟩:=yH1 h3
  refine⟨fun j hj=>?_,List.nodup_cons.2 ⟨yT2 h2,h5⟩⟩
  rcases List.mem_cons.1 hj with rfl | hj
  ·exact Nat.le_of_ble_eq_true h1
  ·exact h4 j hj
theorem xT0 {base:Nat} {sv:List Nat} (h:okSv base sv=true) {j k i:Nat} (hj:tau base sv j=some i) (hk:tau base sv k=some i):j=k:=by
 obtain⟨h1,h2⟩:=yH1 h
 unfold tau at hj hk
 split at hj<;>split at hk
 ·cases hj;cases hk;rfl
 ·rename_i a b
  cases hj
  have:=h1 j (List.mem_of_getElem? hk)
  omega
 ·rename_i a b
  cases hk
  have:=h1 k (List.mem_of_getElem? hj)
  omega
 ·obtain⟨a1,a2⟩:=List.getElem?_eq_some_iff.1 hj
  obtain⟨b1,b2⟩:=List.getElem?_eq_some_iff.1 hk
  have hp:=List.pairwise_iff_getElem.1 h2
  rcases Nat.lt_trichotomy (j - base) (k - base) with hlt | heq | hgt
  ·exact absurd (a2.trans b2.symm) (hp _ _ a1 b1 hlt)
  ·omega
  ·exact absurd (b2.trans a2.symm) (hp _ _ b1 a1 hgt)
def clo (m:Mem) (base:Nat):Nat->List Nat->List Nat->List Nat
 | 0,_,seen=>seen
 | _+1,[],seen=>seen
 | f+1,i::todo,seen=>bif Nat.blt i base || (xK4 i seen 0).isSome then clo m base f todo seen else
  match m.at i with
  | some ⟨.raw cs,_,_⟩=>clo m base f (todo++zT8 cs) (seen++[i])
  | _=>clo m base f todo (seen++[i])
def uY2:List Path->T AV->List Nat
 | [],_=>[]
 | p::ps,tm=>(match tm.get p with | some v=>xJ7 v | none=>[])++uY2 ps tm
def uY3 (m:Mem):Nat->List Nat
 | 0=>[]
 | n+1=>uY3 m n++(match m.at n with | some ⟨.raw cs,_,_⟩=>zT8 cs | _=>[])
def renB (σ:Nat->Option Nat) (B:Blk):Option Blk :=
 match B with
 | ⟨.raw cs,e,o⟩=>(match renL σ cs with | some cs=>some ⟨.raw cs,e,o⟩ | none=>none)
 | ⟨.ls t l,e,o⟩=>some ⟨.ls t l,e,o⟩
def vL7 (σ:Nat->Option Nat) (tm:T AV):List Path->T AV->Option (T AV)
 | [],acc=>some acc
 | p::ps,acc=>match tm.get p with
  | some v=>(match renA σ v with | some v'=>vL7 σ tm ps (acc.set p v') | none=>none)
  | none=>vL7 σ tm ps acc
def vL8 (σ τ:Nat->Option Nat) (m:Mem):Nat->Option (T Blk)
 | 0=>some .nil
 | j+1=>match vL8 σ τ m j with
  | none=>none
  | some acc=>match τ j with
   | none=>some acc
   | some i=>match m.at i with
    | none=>some acc
    | some B=>match renB σ B with | some B'=>some (acc.set (pth j) B') | none=>none
def gcM (live:List Path) (base:Nat) (tm:T AV) (m:Mem):Option (T AV × Mem) :=
 let sv:=clo m base 200 (uY2 live tm++uY3 m base) []
 bif okSv base sv then
  match vL7 (sig base sv) tm live .nil,vL8 (sig base sv) (tau base sv) m (base+sv.length) with
  | some tm2,some h2=>some (tm2,⟨h2,base+sv.length,2 ^ (base+sv.length) - 1,2 ^ (base+sv.length) - 1⟩)
  | _,_=>none
 else none
theorem yM0 {σ:Nat->Option Nat} {tm:T AV}:∀ {ps:List Path} {acc tm2:T AV},vL7 σ tm ps acc=some tm2->∀ p x',tm2.get p=some x'->acc.get p=some x'∨∃ x,tm.get p=some x/\renA σ x=some x'
 | [],acc,tm2,h,p,x',hx=>by cases h;exact .inl hx
 | q::ps,acc,tm2,h,p,x',hx=>by
  simp only [vL7] at h
  split at h
  ·rename_i v hv
   split at h<;>first | (cases h;done) | skip
   rename_i v' hv'
   rcases yM0 h p x' hx with h1 | h1
   ·rw [T.get_set] at h1
    split at h1
    ·rename_i he;subst he;cases h1;exact .inr ⟨v,hv,hv'⟩
    ·exact .inl h1
   ·exact .inr h1
  ·exact yM0 h p x' hx
theorem zX7 {σ τ:Nat->Option Nat} {m:Mem}:∀ {n:Nat} {h2:T Blk},vL8 σ τ m n=some h2->∀ j B',h2.get (pth j)=some B'->j < n/\∃ i B,τ j=some i/\m.at i=some B/\renB σ B=some B'
 | 0,h2,h,j,B',hB=>by cases h;rw [T.get_nil] at hB;cases hB
 | n+1,h2,h,j,B',hB=>by
  simp only [vL8] at h
  split at h<;>first | (cases h;done) | skip
  rename_i acc hacc
  have old:acc.get (pth j)=some B'->j < n+1/\∃ i B,τ j=some i/\m.at i=some B/\renB σ B=some B':=fun hh=>by
   obtain⟨a,b⟩:=zX7 hacc j B' hh
   exact⟨by omega,b⟩
  split at h
  ·cases h;exact old hB
  ·rename_i i hi
   split at h
   ·cases h;exact old hB
   ·rename_i B hBm
    split at h<;>first | (cases h;done) | skip
    rename_i B2 hB2
    cases h
    rw [T.get_set] at hB
    split at hB
    ·rename_i he
     have:=zL9 he
     subst this
     cases hB
     exact⟨Nat.lt_succ_self _,i,B,hi,hBm,hB2⟩
    ·exact old hB
structure SR (n:Nat) (ρ:Ren) (w:World) (m:Mem) (tm:T AV) (a:Act):Prop where
 tr:TR ρ tm a n
 mem:∀ i B,m.at i=some B->MR ρ w.heap i B
 inj:∀ i j B C,m.at i=some B->m.at j=some C->i≠j->ρ.blk i≠ρ.blk j
 wf:∀ i,m.nx<=i->m.at i=none
 fresh:∀ i,m.nx<=i->ρ i=none
 ice:∀ b c,ρ.ice b=some c->∃ e fz,w.heap[b]?=some (.cells c e fz)
 dis:∀ i B b,m.at i=some B->ρ.blk i=some b->ρ.ice b=none
structure FR (S:Nat->Prop) (ice0:Ren) (w0:World) (ρ:Ren) (w:World) (m:Mem):Prop where
 size:w0.heap.size<=w.heap.size
 keep:∀ b,b < w0.heap.size->¬ S b->w.heap[b]?=w0.heap[b]?
 own:∀ i B b,m.at i=some B->ρ.blk i=some b->w0.heap.size<=b∨S b
 out:Out w0 w
 ext:∀ b c,ice0.ice b=some c->ρ.ice b=some c
 nice:∀ b c,ρ.ice b=some c->ice0.ice b=some c∨w0.heap.size<=b
 pin:∀ q x,ice0 q=some x->ρ q=some x/\q < m.nx
section
variable {P:Program} {n:Nat} {cl:ClS} {S:Nat->Prop} {ice0:Ren} {w0 w w':World} {ρ ρ':Ren} {m m':Mem} {tm tm':T AV} {a:Act}
theorem FR.step (hf:FR S ice0 w0 ρ w m) (hc:CS ρ ρ' w w' m m') (ha:AS m m') (hwf:∀ i,m.nx<=i->m.at i=none):FR S ice0 w0 ρ' w' m':=by
 refine⟨Nat.le_trans hf.size hc.size,fun b hb hS=>?_,fun i B b hB hbk=>?_,hf.out.trans hc.outer,fun b c h=>hc.ext.2 b c (hf.ext b c h),fun b c h=>?_,fun q x h=>⟨hc.ext.1 q x (hf.pin q x h).1,Nat.lt_of_lt_of_le (hf.pin q x h).2 ha.nx⟩⟩
 ·rw [hc.frame b (Nat.lt_of_lt_of_le hb hf.size) fun j B _ hB he=>?_]
  ·exact hf.keep b hb hS
  ·rcases hf.own j B b hB he with h1 | h1
   ·omega
   ·exact hS h1
 ·rcases Nat.lt_or_ge i m.nx with hi | hi
  ·obtain⟨B',hB'⟩:=ha.live i B hi hB
   rw [hc.blk_old hi] at hbk
   exact hf.own i B' b hB' hbk
  ·have hlt:i < m'.nx:=by
    rcases Nat.lt_or_ge i m'.nx with h1 | h1
    ·exact h1
    ·rw [ha.wf hwf i h1] at hB;cases hB
   rcases hc.newb i b hi hlt hbk with h1 | ⟨j,C,_,hC,h2⟩
   ·exact .inl (Nat.le_trans hf.size h1)
   ·exact hf.own j C b hC h2
 ·rcases hc.nice b c h with h1 | h1
  ·exact hf.nice b c h1
  ·exact .inr (Nat.le_trans hf.size h1)
theorem xT2 {W:Act->World->(Act->World->Prop)->Prop} (hr:wX2 n tm m tm' m' W) (hs:SR n ρ w m tm a) (hf:FR S ice0 w0 ρ w m) {K:Act->World->Prop}
  (hK:∀ ρ' a' w',SR n ρ' w' m' tm' a'->FR S ice0 w0 ρ' w' m'->a'.defers=a.defers->K a' w'):W a w K:=by
 obtain⟨ha,h⟩:=hr
 have hT:∀ i,i < m'.nx->(m'.tch ||| (2 ^ m'.nx - 1)).testBit i=true:=fun i hi=>by
  rw [Nat.testBit_or,Nat.testBit_two_pow_sub_one]
  simp [hi]
 refine h ρ w (m'.tch ||| (2 ^ m'.nx - 1)) m'.nx a K (fun i hi=>by rw [Nat.testBit_or,hi,Bool.true_or]) (Nat.le_refl _) hs.tr
  ⟨fun i B _ hB=>hs.mem i B hB,fun i j B C _ _ hB hC hne=>hs.inj i j B C hB hC hne,hs.wf,fun i h1 _=>hs.fresh i h1,hs.ice,fun i B b _ hB hb=>hs.dis i B b hB hb⟩ fun ρ' a' w' h1 h2 h3 h4=>?_
 have hlt:∀ i B,m'.at i=some B->i < m'.nx:=fun i B hB=>by
  rcases Nat.lt_or_ge i m'.nx with h1 | h1
  ·exact h1
  ·rw [ha.wf hs.wf i h1] at hB;cases hB
 refine hK ρ' a' w' ⟨h1,fun i B hB=>h3.mem i B (hT i (hlt i B hB)) hB,fun i j B C hB hC hne=>h3.inj i j B C (hT i (hlt i B hB)) (hT j (hlt j C hC)) hB hC hne,h3.wf,fun i hi=>?_,h3.ice,fun i B b hB hb=>h3.dis i B b (hT i (hlt i B hB)) hB hb⟩ (hf.step h4 ha hs.wf) h2
 cases hx:ρ' i with
 | none=>rfl
 | some x =>
  rcases h4.dom i x hx with h5 | ⟨_,h5⟩
  ·rw [hs.fresh i (Nat.le_trans ha.nx hi)] at h5;cases h5
  ·omega
theorem qL2 {base:Nat} {sv:List Nat} {j i:Nat} (h:tau base sv j=some i):j < base+sv.length:=by
 unfold tau at h
 split at h
 ·omega
 ·have:=(List.getElem?_eq_some_iff.1 h).1
  omega
theorem zQ1 {σ:Nat->Option Nat} {B B':Blk} (h:renB σ B=some B'):B'.cells.length=B.cells.length/\B'.esz=B.esz/\B'.opn=B.opn/\∀ (q:Nat) (x':AV),B'.cells[q]?=some x'->∃ x,B.cells[q]?=some x/\(renA σ x=some x'∨(x=x'/\Pu x')):=by
 obtain⟨ct,e,o⟩:=B
 cases ct with
 | raw cs =>
  simp only [renB] at h
  split at h<;>first | (cases h;done) | skip
  rename_i cs2 hcs
  cases h
  obtain⟨h1,h2⟩:=zO7 hcs
  refine⟨h1,rfl,rfl,fun q x' hx=>?_⟩
  obtain⟨x,h3,h4⟩:=h2 q x' hx
  exact⟨x,h3,.inl h4⟩
 | ls t l =>
  cases h
  refine⟨rfl,rfl,rfl,fun q x' hx=>⟨x',hx,.inr ⟨rfl,?_⟩⟩⟩
  obtain⟨n',j',_,_,_,k4⟩:=zQ7 (t:=t) (l:=l) hx
  exact yF2 _ _ j' x' k4
theorem wU3 {live:List Path} {base:Nat} {tm2:T AV} {m2:Mem} (hd:∀ q x,ice0 q=some x->q < base) (h:gcM live base tm m=some (tm2,m2)) (hs:SR n ρ w m tm a) (hf:FR S ice0 w0 ρ w m):∃ ρ2,SR n ρ2 w m2 tm2 a/\FR S ice0 w0 ρ2 w m2:=by
 unfold gcM at h
 dsimp only at h
 generalize clo m base 200 (uY2 live tm++uY3 m base) []=sv at h
 cases hok:okSv base sv with
 | false=>rw [hok] at h;cases h
 | true =>
  rw [hok,cond_true] at h
  split at h<;>first | (cases h;done) | skip
  rename_i t2 h2 ht hb
  cases h
  have hσ:∀ i j t,sig base sv i=some j->ρ i=some t->(Ren.mk (fun j=>if j < base+sv.length then (tau base sv j).bind ρ.f else none) ρ.ice) j=some t:=fun i j t h1 h3=>by
   have h4:=xT3 h1
   show (if _ then _ else _)=_
   rw [if_pos (qL2 h4),h4]
   exact h3
  have hat:∀ j B',(Mem.mk h2 (base+sv.length) (2 ^ (base+sv.length) - 1) (2 ^ (base+sv.length) - 1)).at j=some B'->j < base+sv.length/\∃ i B,tau base sv j=some i/\m.at i=some B/\renB (sig base sv) B=some B':=fun j B' hB=>zX7 hb j B' hB
  have hblk:∀ j i,j < base+sv.length->tau base sv j=some i->(Ren.mk (fun j=>if j < base+sv.length then (tau base sv j).bind ρ.f else none) ρ.ice).blk j=ρ.blk i:=fun j i hj hi=>by
   unfold Ren.blk
   congr 1
   show (if _ then _ else _)=_
   rw [if_pos hj,hi]
   rfl
  refine⟨⟨fun j=>if j < base+sv.length then (tau base sv j).bind ρ.f else none,ρ.ice⟩,⟨⟨hs.tr.1,fun t x' hx=>?_⟩,fun j B' hB=>?_,fun j k B C hB hC hne=>?_,fun j hj=>?_,fun j hj=>?_,hs.ice,fun j B b hB hbk=>?_⟩,⟨hf.size,hf.keep,fun j B b hB hbk=>?_,hf.out,hf.ext,hf.nice,fun q x hq=>?_⟩⟩
  ·rcases yM0 ht (pth t) x' hx with h1 | ⟨x,h1,h3⟩
   ·rw [T.get_nil] at h1;cases h1
   ·obtain⟨y,h4,h5⟩:=hs.tr.2 t x h1
    exact⟨y,h4,zS9 hσ (fun _ _ h=>h) h5 h3⟩
  ·obtain⟨hj,i,B,h1,h3,h4⟩:=hat j B' hB
   obtain⟨b,sh,K,c,e,fz,g1,g2,g3,g4,g5⟩:=hs.mem i B h3
   obtain⟨hl,he,hop,hcell⟩:=zQ1 h4
   refine⟨b,sh,K,c,e,fz,?_,g2,(by rw [he];exact g3),fun q x' hx=>?_,fun ho=>?_⟩
   ·show (if _ then _ else _)=_
    rw [if_pos hj,h1]
    exact g1
   ·obtain⟨x,k1,k2⟩:=hcell q x' hx
    obtain⟨y,k3,k4⟩:=g4 q x k1
    refine⟨y,k3,?_⟩
    rcases k2 with k2 | ⟨rfl,k2⟩
    ·exact zS9 hσ (fun _ _ h=>h) k4 k2
    ·exact VR.pu (ρ:=ρ) (ρ2:=⟨fun j=>if j < base+sv.length then (tau base sv j).bind ρ.f else none,ρ.ice⟩) (fun _ _ h=>h) k4 k2
   ·rw [hl,he]
    exact g5 (by rw [<- hop];exact ho)
  ·obtain⟨hj,i,B1,h1,h3,_⟩:=hat j B hB
   obtain⟨hk,i',C1,k1,k3,_⟩:=hat k C hC
   rw [hblk j i hj h1,hblk k i' hk k1]
   refine hs.inj i i' B1 C1 h3 k3 fun he=>?_
   subst he
   exact hne (xT0 hok h1 k1)
  ·cases hB:(Mem.mk h2 (base+sv.length) (2 ^ (base+sv.length) - 1) (2 ^ (base+sv.length) - 1)).at j with
   | none=>rfl
   | some B =>
    have:=(hat j B hB).1
    have hj':base+sv.length<=j:=hj
    omega
  ·have hj':base+sv.length<=j:=hj
   show (if _ then _ else _)=_
   rw [if_neg (by omega)]
  ·obtain⟨hj,i,B1,h1,h3,_⟩:=hat j B hB
   rw [hblk j i hj h1] at hbk
   exact hs.dis i B1 b h3 hbk
  ·obtain⟨hj,i,B1,h1,h3,_⟩:=hat j B hB
   rw [hblk j i hj h1] at hbk
   exact hf.own i B1 b h3 hbk
  ·have hlt:=hd q x hq
   have ht2:tau base sv q=some q:=by unfold tau;rw [if_pos hlt]
   refine⟨?_,?_⟩
   ·show (if _ then _ else _)=_
    rw [if_pos (by omega),ht2]
    exact (hf.pin q x hq).1
   ·show q < base+sv.length
    omega
end
inductive SC where
 | skip | reg (draw:Bool) (ops:List SOp) | seq (a b:SC) | cond (c:Opd) (t e:SC) | blk (id:Nat) (b:SC) | loop (live:List Path) (base:Nat) (b:SC) | exit (id:Nat) | ret
 deriving Inhabited
def er:SC->AC
 | .skip=>.skip
 | .reg d ops=>.reg d (ops.map (·.op))
 | .seq a b=>.seq (er a) (er b)
 | .cond c t e=>.cond c (er t) (er e)
 | .blk id b=>.blk id (er b)
 | .loop _ _ b=>.loop (er b)
 | .exit id=>.exit id
 | .ret=>.ret
def zE3 (b0:Nat):SC->Bool
 | .seq a b=>zE3 b0 a&&zE3 b0 b
 | .cond _ t e=>zE3 b0 t&&zE3 b0 e
 | .blk _ b=>zE3 b0 b
 | .loop _ base b=>Nat.ble b0 base&&zE3 b0 b
 | _=>true
theorem zG6:∀ c:SC,zE3 0 c=true
 | .skip=>rfl
 | .reg _ _=>rfl
 | .seq a b=>by simp only [zE3,zG6 a,zG6 b,Bool.and_self]
 | .cond _ t e=>by simp only [zE3,zG6 t,zG6 e,Bool.and_self]
 | .blk _ b=>by simp only [zE3,zG6 b]
 | .loop _ base b=>by simp only [zE3,zG6 b,Bool.and_true];exact Nat.ble_eq_true_of_le (Nat.zero_le _)
 | .exit _=>rfl
 | .ret=>rfl
def gcK {β:Type} (live:List Path) (base:Nat) (tm:T AV) (m:Mem) (k:T AV->Mem->Option β):Option β :=
 match gcM live base tm m with
 | some (tm,⟨h,nx,t,w⟩)=>zD4 nx fun nx=>zD4 t fun t=>zD4 w fun w=>k tm ⟨h,nx,t,w⟩
 | none=>none
abbrev Run (β:Type):=T AV->Mem->(Ex->T AV->Mem->Option β)->Option β
def zC7 {β:Type} (body:Run β) (live:List Path) (base:Nat):Nat->Run β
 | 0,_,_,_=>none
 | L+1,tm,m,K=>body tm m fun ex tm' m'=>match ex with
  | .nrm=>gcK live base tm' m' fun tm m=>zC7 body live base L tm m K
  | .ext i=>K (.ext i) tm' m'
  | .ret=>K .ret tm' m'
def kSeq {β:Type} (b:Run β) (K:Ex->T AV->Mem->Option β) (ex:Ex) (tm:T AV) (m:Mem):Option β :=
 match ex with
 | .nrm=>b tm m K
 | .ext i=>K (.ext i) tm m
 | .ret=>K .ret tm m
def kBlk {β:Type} (id:Nat) (K:Ex->T AV->Mem->Option β) (ex:Ex) (tm:T AV) (m:Mem):Option β :=
 match ex with
 | .nrm=>K .nrm tm m
 | .ext i=>bif Nat.beq i id then K .nrm tm m else K (.ext i) tm m
 | .ret=>K .ret tm m
def evS {β:Type} (cl:ClS) (L:Nat):SC->Run β
 | .skip=>fun tm m K=>K .nrm tm m
 | .reg d l=>fun tm m K=>match d with
  | false=>opsS cl l tm m fun tm m=>K .nrm tm m
  | true=>uM6 (·.op) (opS cl) l 0 [] tm m fun tm m=>K .nrm tm m
 | .seq a b=>fun tm m K=>evS cl L a tm m (kSeq (evS cl L b) K)
 | .cond c t e=>fun tm m K=>opdK c tm fun v=>match v with
  | .bool b=>bif b then evS cl L t tm m K else evS cl L e tm m K
  | _=>none
 | .blk id b=>fun tm m K=>evS cl L b tm m (kBlk id K)
 | .loop live base b=>fun tm m K=>gcK live base tm m fun tm m=>zC7 (evS cl L b) live base L tm m K
 | .exit id=>fun tm m K=>K (.ext id) tm m
 | .ret=>fun tm m K=>K .ret tm m
section
variable {P:Program} {n b0:Nat} {cl:ClS} {tm tm' tm1:T AV} {m m' m1:Mem} {ex:Ex} {code:Code}
def qI7 (n b0:Nat) (tm:T AV) (m:Mem) (ex:Ex) (tm':T AV) (m':Mem) (W:Act->World->(Exit->Act->World->Prop)->Prop):Prop :=
 ∀ (S:Nat->Prop) (ice0:Ren) (w0:World) (ρ:Ren) (w:World) (a:Act) (Q:Exit->Act->World->Prop),(∀ q x,ice0 q=some x->q < b0)->SR n ρ w m tm a->FR S ice0 w0 ρ w m ->
  (∀ ρ' w' a',SR n ρ' w' m' tm' a'->FR S ice0 w0 ρ' w' m'->a'.defers=a.defers->Q (exOf ex) a' w')->W a w Q
theorem yF3 {d:Bool} {A:List AOper} (hc:comp P n code=some (.reg d A)):∃ id ops,code=.region id ops d/\zQ9 P n ops ops.toList 0 []=some A/\(d=true->apOk A=true):=by
 cases code with
 | region id ops draw =>
  simp only [comp] at hc
  split at hc<;>first | (cases hc;done) | skip
  rename_i A' hA
  split at hc<;>first | (cases hc;done) | skip
  rename_i hap
  cases hc
  exact⟨id,ops,rfl,hA,fun h=>by subst h;simpa using hap⟩
 | _=>simp only [comp] at hc;repeat' (first | (cases hc;done) | split at hc)
theorem xC1 (hc:comp P n code=some .skip):code=.skip:=by
 cases code<;>first | rfl | (simp only [comp] at hc;repeat' (first | (cases hc;done) | split at hc))
theorem xQ7 (hc:comp P n code=some .ret):code=.ret:=by
 cases code<;>first | rfl | (simp only [comp] at hc;repeat' (first | (cases hc;done) | split at hc))
theorem xC2 {id:Nat} (hc:comp P n code=some (.exit id)):code=.exit id:=by
 cases code with
 | exit id'=>cases hc;rfl
 | _=>simp only [comp] at hc;repeat' (first | (cases hc;done) | split at hc)
theorem zA4 {a b:AC} (hc:comp P n code=some (.seq a b)):∃ x y,code=.seq x y/\comp P n x=some a/\comp P n y=some b:=by
 cases code with
 | seq x y =>
  simp only [comp] at hc
  split at hc<;>first | (cases hc;done) | skip
  rename_i h1 h2
  cases hc
  exact⟨x,y,rfl,h1,h2⟩
 | _=>simp only [comp] at hc;repeat' (first | (cases hc;done) | split at hc)
theorem xC3 {o:Opd} {a b:AC} (hc:comp P n code=some (.cond o a b)):∃ c x y,code=.cond c x y/\opd c=some o/\comp P n x=some a/\comp P n y=some b:=by
 cases code with
 | cond c x y =>
  simp only [comp] at hc
  split at hc<;>first | (cases hc;done) | skip
  rename_i h1 h2 h3
  cases hc
  exact⟨c,x,y,rfl,h1,h2,h3⟩
 | _=>simp only [comp] at hc;repeat' (first | (cases hc;done) | split at hc)
theorem zK1 {id:Nat} {b:AC} (hc:comp P n code=some (.blk id b)):∃ x,code=.block id x/\comp P n x=some b:=by
 cases code with
 | block id' x =>
  simp only [comp] at hc
  split at hc<;>first | (cases hc;done) | skip
  rename_i h1
  cases hc
  exact⟨x,rfl,h1⟩
 | _=>simp only [comp] at hc;repeat' (first | (cases hc;done) | split at hc)
theorem zP2 {b:AC} (hc:comp P n code=some (.loop b)):∃ x,code=.loop x/\comp P n x=some b:=by
 cases code with
 | loop x =>
  simp only [comp] at hc
  split at hc<;>first | (cases hc;done) | skip
  rename_i h1
  cases hc
  exact⟨x,rfl,h1⟩
 | _=>simp only [comp] at hc;repeat' (first | (cases hc;done) | split at hc)
theorem zZ6 {ex:Ex} {W:Act->World->(Exit->Act->World->Prop)->Prop} (hW:∀ a w (Q:Exit->Act->World->Prop),Q (exOf ex) a w->W a w Q):qI7 n b0 tm m ex tm m W :=
 fun _S _ice0 _w0 ρ w a Q _hdm hs hf hQ=>hW a w Q (hQ ρ w a hs hf rfl)
theorem yB4 {β:Type} {live:List Path} {base:Nat} {k:T AV->Mem->Option β} {res:β} (h:gcK live base tm m k=some res):∃ tm2 m2,gcM live base tm m=some (tm2,m2)/\k tm2 m2=some res:=by
 unfold gcK at h
 split at h
 ·simp only [zC8] at h
  exact⟨_,_,by assumption,h⟩
 ·cases h
theorem vZ7 {ρ:Ren} {w:World} {a:Act} (hs:SR n ρ w m tm a):SR n ρ { w with drawn:=w.drawn+1 } m tm a:=⟨hs.tr,hs.mem,hs.inj,hs.wf,hs.fresh,hs.ice,hs.dis⟩
theorem uL9 {S:Nat->Prop} {ice0:Ren} {w0:World} {ρ:Ren} {w:World} (hf:FR S ice0 w0 ρ w m):FR S ice0 w0 ρ { w with drawn:=w.drawn+1 } m :=
 ⟨hf.size,hf.keep,hf.own,hf.out.trans ⟨rfl,rfl,rfl⟩,hf.ext,hf.nice,hf.pin⟩
theorem zY5 (b0:Nat) (hcl:zA1 P cl) (hmix:P.follows .mixedOrders=true) (L:Nat):∀ (c:SC) (code:Code),zE3 b0 c=true->comp P n code=some (er c)->∀ {β:Type} (tm:T AV) (m:Mem) (K:Ex->T AV->Mem->Option β) (res:β),
  evS cl L c tm m K=some res->∃ ex tm' m',K ex tm' m'=some res/\qI7 n b0 tm m ex tm' m' fun a w Q=>code.wp P Q a w
 | .skip,code,hbo,hc,β,tm,m,K,res,h=>by
  obtain rfl:=xC1 hc
  exact⟨.nrm,tm,m,h,zZ6 fun a w Q hq=>wp_skip hq⟩
 | .ret,code,hbo,hc,β,tm,m,K,res,h=>by
  obtain rfl:=xQ7 hc
  exact⟨.ret,tm,m,h,zZ6 fun a w Q hq=>wp_ret hq⟩
 | .exit id,code,hbo,hc,β,tm,m,K,res,h=>by
  obtain rfl:=xC2 hc
  exact⟨.ext id,tm,m,h,zZ6 fun a w Q hq=>wp_exit hq⟩
 | .reg d l,code,hbo,hc,β,tm,m,K,res,h=>by
  obtain⟨id,ops,rfl,hA,hap⟩:=yF3 hc
  have hreg:=yB7 hA
  have hlen:ops.size=l.length:=by rw [hreg.sz,List.length_map]
  cases d with
  | false =>
   simp only [evS] at h
   obtain⟨tm1,m1,hk,hr⟩:=xK9 (P:=P) (n:=n) (ops:=ops) hcl l 0 tm m _ res (fun j ao hj=>by
    have hlt:j < l.length:=(List.getElem?_eq_some_iff.1 hj).1
    obtain⟨o,h1,h2,_⟩:=hreg.op j (by rw [List.length_map];exact hlt)
    have:(l.map (·.op)).getD j default=ao.op:=by simp [List.getD,hj]
    rw [this] at h2
    exact⟨o,by rw [Nat.zero_add];exact h1,h2⟩) h
   refine⟨.nrm,tm1,m1,hk,fun S ice0 w0 ρ w a Q hdm hs hf hQ=>wp_region ?_⟩
   have:=xT2 (hr Q) hs hf (K:=Q .normal) fun ρ' a' w' h1 h2 h3=>hQ ρ' w' a' h1 h2 h3
   rw [zV5] at this
   rw [List.range_eq_range',hlen]
   exact this
  | true =>
   simp only [evS] at h
   obtain⟨tm1,m1,hk,hr⟩:=vP8 (n:=n) (ops:=ops) hreg (vT6 (hap rfl)) (xQ2 (pr:=(·.op)) (step:=opS cl) (fun o a tm m k res hco hst=>yZ0 hcl hco hst) hreg l 0 [] tm m _ res rfl (by simp) h)
   refine⟨.nrm,tm1,m1,hk,fun S ice0 w0 ρ w a Q hdm hs hf hQ=>wp_region_any hmix ?_⟩
   have:=xT2 (hr Q) (vZ7 hs) (uL9 hf) (K:=Q .normal) fun ρ' a' w' h1 h2 h3=>hQ ρ' w' a' h1 h2 h3
   rw [zV5] at this
   exact this
 | .seq a b,code,hbo,hc,β,tm,m,K,res,h=>by
  obtain⟨x,y,rfl,h1,h2⟩:=zA4 hc
  simp only [zE3,Bool.and_eq_true] at hbo
  obtain⟨hb1,hb2⟩:=hbo
  simp only [evS] at h
  obtain⟨ex1,tm1,m1,hk,hw⟩:=zY5 b0 hcl hmix L a x hb1 h1 tm m _ res h
  cases ex1 with
  | nrm =>
   obtain⟨ex2,tm2,m2,hk2,hw2⟩:=zY5 b0 hcl hmix L b y hb2 h2 tm1 m1 K res hk
   exact⟨ex2,tm2,m2,hk2,fun S ice0 w0 ρ w a Q hdm hs hf hQ=>wp_seq (hw S ice0 w0 ρ w a _ hdm hs hf fun ρ1 w1 a1 hs1 hf1 hd1=>hw2 S ice0 w0 ρ1 w1 a1 Q hdm hs1 hf1 fun ρ2 w2 a2 hs2 hf2 hd2=>hQ ρ2 w2 a2 hs2 hf2 (hd2.trans hd1))⟩
  | ext id=>exact⟨.ext id,tm1,m1,hk,fun S ice0 w0 ρ w a Q hdm hs hf hQ=>wp_seq (hw S ice0 w0 ρ w a _ hdm hs hf hQ)⟩
  | ret=>exact⟨.ret,tm1,m1,hk,fun S ice0 w0 ρ w a Q hdm hs hf hQ=>wp_seq (hw S ice0 w0 ρ w a _ hdm hs hf hQ)⟩
 | .cond o t e,code,hbo,hc,β,tm,m,K,res,h=>by
  obtain⟨c,x,y,rfl,h0,h1,h2⟩:=xC3 hc
  simp only [zE3,Bool.and_eq_true] at hbo
  obtain⟨hb1,hb2⟩:=hbo
  simp only [evS] at h
  obtain⟨v,h,hv⟩:=wG3 h
  split at h<;>first | (cases h;done) | skip
  rename_i b
  cases b with
  | true =>
   rw [cond_true] at h
   obtain⟨ex1,tm1,m1,hk,hw⟩:=zY5 b0 hcl hmix L t x hb1 h1 tm m K res h
   exact⟨ex1,tm1,m1,hk,fun S ice0 w0 ρ w a Q hdm hs hf hQ=>wp_cond_true (yH0 h0 hv hs.tr) (hw S ice0 w0 ρ w a Q hdm hs hf hQ)⟩
  | false =>
   rw [cond_false] at h
   obtain⟨ex1,tm1,m1,hk,hw⟩:=zY5 b0 hcl hmix L e y hb2 h2 tm m K res h
   exact⟨ex1,tm1,m1,hk,fun S ice0 w0 ρ w a Q hdm hs hf hQ=>wp_cond_false (yH0 h0 hv hs.tr) (hw S ice0 w0 ρ w a Q hdm hs hf hQ)⟩
 | .blk id b,code,hbo,hc,β,tm,m,K,res,h=>by
  obtain⟨x,rfl,h1⟩:=zK1 hc
  have hb1:zE3 b0 b=true:=by simpa only [zE3] using hbo
  simp only [evS] at h
  obtain⟨ex1,tm1,m1,hk,hw⟩:=zY5 b0 hcl hmix L b x hb1 h1 tm m _ res h
  cases ex1 with
  | nrm=>exact⟨.nrm,tm1,m1,hk,fun S ice0 w0 ρ w a Q hdm hs hf hQ=>wp_block (hw S ice0 w0 ρ w a _ hdm hs hf hQ)⟩
  | ret=>exact⟨.ret,tm1,m1,hk,fun S ice0 w0 ρ w a Q hdm hs hf hQ=>wp_block (hw S ice0 w0 ρ w a _ hdm hs hf hQ)⟩
  | ext i =>
   simp only [kBlk] at hk
   cases hbq:Nat.beq i id with
   | true =>
    rw [hbq,cond_true] at hk
    refine⟨.nrm,tm1,m1,hk,fun S ice0 w0 ρ w a Q hdm hs hf hQ=>wp_block (hw S ice0 w0 ρ w a _ hdm hs hf fun ρ' w' a' k1 k2 k3=>?_)⟩
    simp only [exOf,Exit.inBlock,beqN.1 hbq,if_true]
    exact hQ ρ' w' a' k1 k2 k3
   | false =>
    rw [hbq,cond_false] at hk
    have hne:i≠id:=fun he=>by rw [he,beqN.2 rfl] at hbq;cases hbq
    refine⟨.ext i,tm1,m1,hk,fun S ice0 w0 ρ w a Q hdm hs hf hQ=>wp_block (hw S ice0 w0 ρ w a _ hdm hs hf fun ρ' w' a' k1 k2 k3=>?_)⟩
    simp only [exOf,Exit.inBlock,hne,if_false]
    exact hQ ρ' w' a' k1 k2 k3
 | .loop live base b,code,hbo,hc,β,tm,m,K,res,h=>by
  obtain⟨x,rfl,h1⟩:=zP2 hc
  simp only [zE3,Bool.and_eq_true] at hbo
  obtain⟨hb0,hb1⟩:=hbo
  have hb0:=Nat.le_of_ble_eq_true hb0
  simp only [evS] at h
  obtain⟨tm2,m2,hg,h⟩:=yB4 h
  have hloop:∀ (L':Nat) (tm:T AV) (m:Mem),zC7 (evS cl L b) live base L' tm m K=some res->∃ ex tm' m',K ex tm' m'=some res/\∃ k,qI7 n b0 tm m ex tm' m' fun a w Q=>Unr P x Q k a w:=by
   intro L'
   induction L' with
   | zero=>intro tm m h;cases h
   | succ L' ih =>
    intro tm m h
    simp only [zC7] at h
    obtain⟨ex1,tm1,m1,hk,hw⟩:=zY5 b0 hcl hmix L b x hb1 h1 tm m _ res h
    cases ex1 with
    | nrm =>
     obtain⟨tm3,m3,hg3,hk3⟩:=yB4 hk
     obtain⟨ex4,tm4,m4,hk4,k,hw4⟩:=ih tm3 m3 hk3
     refine⟨ex4,tm4,m4,hk4,k+1,fun S ice0 w0 ρ w a Q hdm hs hf hQ=>hw S ice0 w0 ρ w a _ hdm hs hf fun ρ1 w1 a1 hs1 hf1 hd1=>?_⟩
     obtain⟨ρ2,hs2,hf2⟩:=wU3 (fun q x hq=>Nat.lt_of_lt_of_le (hdm q x hq) hb0) hg3 hs1 hf1
     exact hw4 S ice0 w0 ρ2 w1 a1 Q hdm hs2 hf2 fun ρ' w' a' j1 j2 j3=>hQ ρ' w' a' j1 j2 (j3.trans hd1)
    | ext id=>exact⟨.ext id,tm1,m1,hk,1,fun S ice0 w0 ρ w a Q hdm hs hf hQ=>hw S ice0 w0 ρ w a _ hdm hs hf hQ⟩
    | ret=>exact⟨.ret,tm1,m1,hk,1,fun S ice0 w0 ρ w a Q hdm hs hf hQ=>hw S ice0 w0 ρ w a _ hdm hs hf hQ⟩
  obtain⟨ex4,tm4,m4,hk4,k,hw4⟩:=hloop L tm2 m2 h
  refine⟨ex4,tm4,m4,hk4,fun S ice0 w0 ρ w a Q hdm hs hf hQ=>?_⟩
  obtain⟨ρ2,hs2,hf2⟩:=wU3 (fun q x hq=>Nat.lt_of_lt_of_le (hdm q x hq) hb0) hg hs hf
  exact yG4 (hw4 S ice0 w0 ρ2 w a Q hdm hs2 hf2 hQ)
end
open Classical in
theorem vJ6 {ρ ρ1:Ren} {w w':World} {m m1:Mem} {T N:Nat} {r r':AV} {v:Value} (hm:MI ρ w m T N) (hv:VR ρ1 r v) (hmem:∀ i B,m1.at i=some B->MR ρ1 w'.heap i B) (hice:∀ b c,ρ1.ice b=some c->∃ e fz,w'.heap[b]?=some (.cells c e fz)) (hdis:∀ i B b,m1.at i=some B->ρ1.blk i=some b->ρ1.ice b=none)
  (hf:FR (fun _=>False) ⟨fun _=>none,ρ.ice⟩ w ρ1 w' m1) (hz:Fz m1 r r') :
  ∃ ρ2,VR ρ2 r' v/\MI ρ2 w' m T N/\CS ρ ρ2 w w' m m:=by
 let ice2:Nat->Option (Array Value):=fun b=>if ∃ i B,m1.at i=some B/\ρ1.blk i=some b then (match w'.heap[b]? with | some (.cells c _ _)=>some c | _=>none) else ρ1.ice b
 have hframe:∀ b,b < w.heap.size->w'.heap[b]?=w.heap[b]?:=fun b hb=>hf.keep b hb fun h=>h
 have hnew:∀ i B b,m1.at i=some B->ρ1.blk i=some b->w.heap.size<=b:=fun i B b hB hb=>by
  rcases hf.own i B b hB hb with h1 | h1
  ·exact h1
  ·exact h1.elim
 have hi1:∀ b c,ρ1.ice b=some c->ice2 b=some c:=fun b c hb=>by
  show (if _ then _ else _)=_
  rw [if_neg]
  ·exact hb
  ·rintro ⟨i,B,hB,hbk⟩
   rw [hdis i B b hB hbk] at hb
   cases hb
 have hi0:∀ b c,ρ.ice b=some c->ice2 b=some c:=fun b c hb=>hi1 b c (hf.ext b c hb)
 have hblk:∀ i B,m1.at i=some B->∃ b sh K c e fz,ρ1 i=some (b,sh,K)/\w'.heap[b]?=some (.cells c e fz)/\ice2 b=some c/\∀ j x,B.cells[j]?=some x->∃ y,c[sh+j]?=some y/\VR ρ1 x y:=fun i B hB=>by
  obtain⟨b,sh,K,c,e,fz,h1,h2,h3,h4,h5⟩:=hmem i B hB
  refine⟨b,sh,K,c,e,fz,h1,h2,?_,h4⟩
  show (if _ then _ else _)=_
  rw [if_pos ⟨i,B,hB,by simp [Ren.blk,h1]⟩,h2]
 refine⟨⟨ρ.f,ice2⟩,?_,⟨fun i B hi hB=>?_,fun i j B C hi hj hB hC hne=>hm.inj i j B C hi hj hB hC hne,hm.wf,hm.fresh,fun b c hb=>?_,fun i B b hi hB hb=>?_⟩,⟨⟨fun _ _ h=>h,hi0⟩,fun _ _ h=>.inl h,hf.size,fun b hb _=>hframe b hb,(fun i b h k=>by omega),hf.out,fun b c hb=>?_⟩⟩
 ·
  clear hm
  induction hz generalizing v with
  | pu h=>exact hv.pu hi1 h
  | nil t=>cases hv;exact .fl0 t
  | emp t=>cases hv;exact .fle t _ _
  | so h he hl hcell =>
   rename_i i e len t l B
   subst he hl
   obtain⟨b,sh,K,c,e,fz,h1,h2,h3,h4⟩:=hblk i B h
   cases hv with
   | so hr hk =>
    rw [h1] at hr
    cases hr
    rcases Nat.eq_zero_or_pos l.length with h0 | hp
    ·have:l=[]:=List.eq_nil_of_length_eq_zero h0
     subst this
     exact .fle t _ _
    ·have hw:0 < wd t:=by cases t<;>decide
     have hroom:sh+l.length*wd t<=c.size:=by
      have hq:0 < l.length*wd t:=Nat.mul_pos hp hw
      have hlt:l.length*wd t - 1 < (flat t l).length:=by rw [zB5];omega
      obtain⟨y,hy,_⟩:=h4 _ _ (hcell _ _ (List.getElem?_eq_getElem hlt))
      have:=(Array.getElem?_eq_some_iff.1 hy).1
      omega
     have:=VR.fl (ρ:=⟨ρ.f,ice2⟩) (t:=t) (l:=l) (o:=sh+0*wd t) (cap:=K - 0) h3 (by omega) (by omega) fun n j x y hn hx hy=>by
      have hj:j < wd t:=by rw [<- zF8 t (nth l n)];exact (List.getElem?_eq_some_iff.1 hx).1
      have h5:=hcell (n*wd t+j) x (by rw [flat_get t l n j hn hj];exact hx)
      obtain⟨y',hy',hr'⟩:=h4 _ _ h5
      rw [show sh+0*wd t+n*wd t+j=sh+(n*wd t+j) by omega,hy'] at hy
      cases hy
      exact hr'.pu hi1 (yF2 t _ j x hx)
     exact this
  | agg hl h ih =>
   cases hv with
   | agg hl' h' =>
    refine .agg (by rw [hl,hl']) fun j x y hx hy=>?_
    rename_i cs ds ys
    have hlt:j < cs.length:=by rw [<- hl];exact (List.getElem?_eq_some_iff.1 hx).1
    exact ih j _ x (List.getElem?_eq_getElem hlt) hx (h' j _ y (List.getElem?_eq_getElem hlt) hy)
  | tup hl h ih =>
   cases hv with
   | tup hl' h' =>
    refine .tup (by rw [hl,hl']) fun j x y hx hy=>?_
    rename_i cs ds ys
    have hlt:j < cs.length:=by rw [<- hl];exact (List.getElem?_eq_some_iff.1 hx).1
    exact ih j _ x (List.getElem?_eq_getElem hlt) hx (h' j _ y (List.getElem?_eq_getElem hlt) hy)
 ·refine (hm.mem i B hi hB).move ⟨fun _ _ h=>h,hi0⟩ fun b hb=>hframe b ?_
  obtain⟨b',h1,h2⟩:=(hm.mem i B hi hB).blk
  rw [hb] at h1;cases h1;exact h2
 ·replace hb:(if ∃ i B,m1.at i=some B/\ρ1.blk i=some b then (match w'.heap[b]? with | some (.cells c _ _)=>some c | _=>none) else ρ1.ice b)=some c:=hb
  split at hb
  ·split at hb
   ·rename_i h5;cases hb;exact⟨_,_,h5⟩
   ·cases hb
  ·exact hice b c hb
 ·obtain⟨b',h1,h2⟩:=(hm.mem i B hi hB).blk
  have hbb:ρ.blk i=some b:=hb
  rw [hbb] at h1
  cases h1
  show (if _ then _ else _)=_
  rw [if_neg]
  ·cases hq:ρ1.ice b with
   | none=>rfl
   | some c =>
    rcases hf.nice b c hq with h3 | h3
    ·have h4:ρ.ice b=some c:=h3
     rw [hm.dis i B b hi hB hbb] at h4
     cases h4
    ·omega
  ·rintro ⟨j,C,hC,hbk⟩
   have:=hnew j C b hC hbk
   omega
 ·replace hb:(if ∃ i B,m1.at i=some B/\ρ1.blk i=some b then (match w'.heap[b]? with | some (.cells c _ _)=>some c | _=>none) else ρ1.ice b)=some c:=hb
  split at hb
  ·rename_i hq
   obtain⟨i,B,hB,hbk⟩:=hq
   exact .inr (hnew i B b hB hbk)
  ·exact hf.nice b c hb
structure SM (ρ:Ren) (w:World) (m:Mem):Prop where
 mem:∀ i B,m.at i=some B->MR ρ w.heap i B
 inj:∀ i j B C,m.at i=some B->m.at j=some C->i≠j->ρ.blk i≠ρ.blk j
 wf:∀ i,m.nx<=i->m.at i=none
 fresh:∀ i,m.nx<=i->ρ i=none
 ice:∀ b c,ρ.ice b=some c->∃ e fz,w.heap[b]?=some (.cells c e fz)
 dis:∀ i B b,m.at i=some B->ρ.blk i=some b->ρ.ice b=none
structure FnS where
 n:Nat
 body:SC
 res:List ResA
 deriving Inhabited
def zB2 (P:Program) (f:Nat) (fc:FnS):Prop :=
 ∃ fn code, P.funcs[f]? = some fn ∧ fn.body = some code ∧ (fn.name == "runtime.NumGoroutine") = false ∧ fn.ntmps = fc.n ∧ comp P fc.n code = some (er fc.body) ∧ mapO (zN5 P) fn.results.toList = some fc.res
theorem fnOkS_of {P : Program} {f : Nat} {fn : Func} {fc : FnS} (h : P.funcs[f]? = some fn) (h1 : fn.body = some (fn.body.getD .skip)) (h2 : (fn.name == "runtime.NumGoroutine") = false) (h3 : fn.ntmps = fc.n)
 (h4:comp P fc.n (fn.body.getD .skip)=some (er fc.body)) (h5:mapO (zN5 P) fn.results.toList=some fc.res):zB2 P f fc:=⟨fn,_,h,h1,h2,h3,h4,h5⟩
def endS {β:Type} (res:List ResA) (K:AV->Mem->Option β) (ex:Ex) (tm:T AV) (m:Mem):Option β :=
 match ex with
 | .nrm=>resK res tm m fun vs m=>K (resV vs) m
 | .ret=>resK res tm m fun vs m=>K (resV vs) m
 | .ext _=>none
def zC4 {β:Type} (cl:ClS) (L:Nat) (fc:FnS) (xs:List AV) (m:Mem) (K:AV->Mem->Option β):Option β :=
 bif Nat.ble xs.length fc.n then xO7 xs 0 .nil fun tm=>evS cl L fc.body tm m (endS fc.res K) else none
section
variable {P:Program} {cl:ClS}
theorem zZ0 (hcl:zA1 P cl) (hmix:P.follows .mixedOrders=true) {f:Nat} {fc:FnS} (hfn:zB2 P f fc) {b0:Nat} (hbo:zE3 b0 fc.body=true) {L:Nat} {xs:List AV} {m:Mem} {β:Type} {K:AV->Mem->Option β} {res:β} (h:zC4 cl L fc xs m K=some res) :
  ∃ r m1,K r m1=some res/\∀ {S:Nat->Prop} {ice0:Ren} {w0 w:World} {ρ:Ren} {ys:List Value} (_hdm:∀ q x,ice0 q=some x->q < b0) (_hv:VRs ρ xs ys) (_hs:∀ a,TR ρ .nil a fc.n->SR fc.n ρ w m .nil a) (_hf:FR S ice0 w0 ρ w m),
  Calls P f ys.toArray w fun e w'=>∃ ρ' v,e=.returned v/\VR ρ' r v/\FR S ice0 w0 ρ' w' m1/\SM ρ' w' m1:=by
 obtain⟨fn,code,hfun,hb,hnm,hn,hcode,hres⟩:=hfn
 unfold zC4 at h
 cases hle:Nat.ble xs.length fc.n with
 | false=>rw [hle] at h;cases h
 | true =>
  rw [hle,cond_true] at h
  have hle':=Nat.le_of_ble_eq_true hle
  obtain⟨tm0,h,htm0⟩:=zX9 h
  obtain⟨ex,tm1,m2,hk,hw⟩:=zY5 (n:=fc.n) b0 hcl hmix L fc.body code hbo hcode tm0 m _ _ h
  have key:(ex=.nrm∨ex=.ret)/\resK fc.res tm1 m2 (fun vs m=>K (resV vs) m)=some res:=by
   cases ex with
   | nrm=>exact⟨.inl rfl,hk⟩
   | ret=>exact⟨.inr rfl,hk⟩
   | ext id=>cases hk
  obtain⟨hex,hrk⟩:=key
  obtain⟨vs,m1,hk3,ha3,hn3,hat3,hs3⟩:=yY0 (n:=fc.n) hres hrk
  refine⟨resV vs,m1,hk3,fun {S ice0 w0 w ρ ys} hdm hv hs hf=>?_⟩
  refine calls_of_wp hfun hb ?_
  have hsz:(ys.toArray++Array.replicate (fn.ntmps - ys.toArray.size) undef).size=fc.n:=by
   have:=hv.1
   simp only [Array.size_append,List.size_toArray,Array.size_replicate]
   omega
  have hsz':∀ t x,tm0.get (pth t)=some x->∃ y,(ys.toArray++Array.replicate (fn.ntmps - ys.toArray.size) undef)[t]?=some y/\VR ρ x y:=fun t x hx=>by
   rw [htm0] at hx
   split at hx
   ·rename_i ht
    obtain⟨y,hy1,hy2⟩:=hv.get (j:=t) (x:=x) (by simpa using hx)
    refine⟨y,?_,hy2⟩
    have hlt:t < ys.length:=(List.getElem?_eq_some_iff.1 hy1).1
    rw [Array.getElem?_append_left (by simpa using hlt)]
    simpa using hy1
   ·rw [Ev.T.get_nil] at hx;cases hx
  have hs0:=hs ⟨ys.toArray++Array.replicate (fn.ntmps - ys.toArray.size) undef,[]⟩ ⟨hsz,fun t x hx=>by rw [Ev.T.get_nil] at hx;cases hx⟩
  refine hw S ice0 w0 ρ w _ _ hdm ⟨⟨hsz,hsz'⟩,hs0.mem,hs0.inj,hs0.wf,hs0.fresh,hs0.ice,hs0.dis⟩ hf fun ρ1 w1 a1 hs1 hf1 hd1=>?_
  have hT:∀ i,i < m2.nx->(m1.tch ||| (2 ^ m2.nx - 1)).testBit i=true:=fun i hi=>by
   rw [Nat.testBit_or,Nat.testBit_two_pow_sub_one]
   simp [hi]
  obtain⟨zs,g1,g2⟩:=hs3 ρ1 w1 (m1.tch ||| (2 ^ m2.nx - 1)) m2.nx a1 (fun i hi=>by rw [Nat.testBit_or,hi,Bool.true_or]) hs1.tr
   ⟨fun i B _ hB=>hs1.mem i B hB,fun i j B C _ _ hB hC hne=>hs1.inj i j B C hB hC hne,hs1.wf,fun i h1 _=>hs1.fresh i h1,hs1.ice,fun i B b _ hB hb=>hs1.dis i B b hB hb⟩
  have hrun:(results fn a1.tmps).run P w1=.ok (if h:zs.toArray.size=1 then zs.toArray[0] else .tuple zs.toArray) w1:=by
   rw [yA0]
   have e:fn.results=fn.results.toList.toArray:=by simp
   rw [Sem.run_bind,e,List.mapM_toArray,Sem.run_map,g1]
   rfl
  have hfin:a1.defers=[]/\∃ v,(results fn a1.tmps).run P w1=.ok v w1/\∃ ρ' v',Ending.returned v=.returned v'/\VR ρ' (resV vs) v'/\FR S ice0 w0 ρ' w1 m1/\SM ρ' w1 m1 :=
   ⟨hd1,_,hrun,ρ1,_,rfl,xU9 g2,⟨hf1.size,hf1.keep,fun i B b hB hb=>hf1.own i B b (by rw [<- hat3];exact hB) hb,hf1.out,hf1.ext,hf1.nice,fun q x hq=>⟨(hf1.pin q x hq).1,by rw [hn3];exact (hf1.pin q x hq).2⟩⟩,⟨fun i B hB=>hs1.mem i B (by rw [<- hat3];exact hB),fun i j B C hB hC hne=>hs1.inj i j B C (by rw [<- hat3];exact hB) (by rw [<- hat3];exact hC) hne,fun i hi=>by rw [hat3];exact hs1.wf i (by rw [<- hn3];exact hi),fun i hi=>hs1.fresh i (by rw [<- hn3];exact hi),hs1.ice,fun i B b hB hb=>hs1.dis i B b (by rw [<- hat3];exact hB) hb⟩⟩
  rcases hex with rfl | rfl
  ·exact hfin
  ·exact hfin
inductive Sh where
 | any | lst (t:LTy) | agg (l:List Sh) | tup (l:List Sh)
mutual
def puA:AV->Bool
 | .bool _=>true
 | .int _ _=>true
 | .str _=>true
 | .nilp=>true
 | .nilsl=>true
 | .emp=>true
 | .nilfn=>true
 | .nilifc=>true
 | .fl _ _=>true
 | .vs _ _ _=>true
 | .agg cs=>puL cs
 | .tup cs=>puL cs
 | _=>false
def puL:List AV->Bool
 | []=>true
 | x::xs=>puA x&&puL xs
end
mutual
theorem wF6:∀ {x:AV},puA x=true->Pu x
 | .bool _,_=>.bool _
 | .int _ _,_=>.int _ _
 | .str _,_=>.str _
 | .nilp,_=>.nilp
 | .nilsl,_=>.nilsl
 | .emp,_=>.emp
 | .nilfn,_=>.nilfn
 | .nilifc,_=>.nilifc
 | .fl _ _,_=>.fl _ _
 | .vs _ _ _,_=>.vs _ _ _
 | .agg cs,h=>.agg (xK2 (by simpa [puA] using h))
 | .tup cs,h=>.tup (xK2 (by simpa [puA] using h))
 | .ptr _ _,h=>by simp [puA] at h
 | .sl _ _ _ _,h=>by simp [puA] at h
 | .so _ _ _ _,h=>by simp [puA] at h
 | .fn _ _,h=>by simp [puA] at h
 | .ifc _ _,h=>by simp [puA] at h
 | .fp _ _ _ _,h=>by simp [puA] at h
 | .tp _ _ _ _,h=>by simp [puA] at h
theorem xK2:∀ {xs:List AV},puL xs=true->∀ (j:Nat) (x:AV),xs[j]?=some x->Pu x
 | [],_=>zL8
 | x::xs,h=>by
  simp only [puL,Bool.and_eq_true] at h
  exact zA7 (wF6 h.1) (xK2 h.2)
end
mutual
def frzK {β:Type} (m:Mem):Sh->AV->(AV->Option β)->Option β
 | .any,r,k=>bif puA r then k r else none
 | .lst t,r,k=>(match r with
  | .nilsl=>k (.fl t [])
  | .emp=>k (.fl t [])
  | .fl t' l=>k (.fl t' l)
  | .so i e off len=>(match m.at i with
   | some ⟨.ls t' l,_,_⟩=>bif Nat.beq e (wd t')&&Nat.beq off 0 then (bif Nat.beq len l.length then k (.fl t' l) else none) else none
   | _=>none)
  | _=>none)
 | .agg shs,r,k=>(match r with | .agg cs=>frzL m shs cs fun ds=>k (.agg ds) | _=>none)
 | .tup shs,r,k=>(match r with | .tup cs=>frzL m shs cs fun ds=>k (.tup ds) | _=>none)
def frzL {β:Type} (m:Mem):List Sh->List AV->(List AV->Option β)->Option β
 | [],[],k=>k []
 | s::ss,x::xs,k=>frzK m s x fun y=>frzL m ss xs fun ys=>k (y::ys)
 | _,_,_=>none
end
mutual
theorem yH5 {β:Type} {m:Mem}:∀ {s:Sh} {r:AV} {k:AV->Option β} {res:β},frzK m s r k=some res->∃ r',Fz m r r'/\k r'=some res
 | .any,r,k,res,h=>by
  simp only [frzK] at h
  cases hp:puA r with
  | false=>rw [hp] at h;cases h
  | true=>rw [hp,cond_true] at h;exact⟨r,.pu (wF6 hp),h⟩
 | .lst t,r,k,res,h=>by
  simp only [frzK] at h
  split at h
  ·exact⟨_,.nil t,h⟩
  ·exact⟨_,.emp t,h⟩
  ·exact⟨_,.pu (.fl _ _),h⟩
  ·rename_i i e off len
   split at h
   ·rename_i t' l _ _ hB
    cases he:Nat.beq e (wd t')&&Nat.beq off 0 with
    | false=>rw [he] at h;cases h
    | true =>
     rw [he,cond_true] at h
     simp only [Bool.and_eq_true] at he
     obtain rfl:=beqN.1 he.2
     cases hl:Nat.beq len l.length with
     | false=>rw [hl] at h;cases h
     | true =>
      rw [hl,cond_true] at h
      exact⟨_,.so hB (beqN.1 he.1) (beqN.1 hl) fun j x hx=>hx,h⟩
   ·cases h
  ·cases h
 | .agg shs,r,k,res,h=>by
  simp only [frzK] at h
  split at h<;>first | (cases h;done) | skip
  obtain⟨ds,hl,hz,hk⟩:=xB2 h
  exact⟨_,.agg hl hz,hk⟩
 | .tup shs,r,k,res,h=>by
  simp only [frzK] at h
  split at h<;>first | (cases h;done) | skip
  obtain⟨ds,hl,hz,hk⟩:=xB2 h
  exact⟨_,.tup hl hz,hk⟩
theorem xB2 {β:Type} {m:Mem}:∀ {ss:List Sh} {xs:List AV} {k:List AV->Option β} {res:β},frzL m ss xs k=some res->∃ ds,ds.length=xs.length/\(∀ (j:Nat) (x y:AV),xs[j]?=some x->ds[j]?=some y->Fz m x y)/\k ds=some res
 | [],[],k,res,h=>⟨[],rfl,(fun j x y hx=>by simp at hx),by simpa only [frzL] using h⟩
 | [],_::_,k,res,h=>by simp only [frzL] at h;cases h
 | _::_,[],k,res,h=>by simp only [frzL] at h;cases h
 | s::ss,x::xs,k,res,h=>by
  simp only [frzL] at h
  obtain⟨y,h1,h2⟩:=yH5 h
  obtain⟨ds,h3,h4,h5⟩:=xB2 h2
  refine⟨y::ds,by simp [h3],fun j a b ha hb=>?_,h5⟩
  cases j with
  | zero=>cases ha;cases hb;exact h1
  | succ j=>exact h4 j a b ha hb
end
def zB3 {β:Type} (cl:ClS) (L:Nat) (fc:FnS) (sh:Sh) (xs:List AV) (k:AV->Option β):Option β:=zC4 cl L fc xs m0 fun r m=>frzK m sh r k
def addG (f:Nat) (G:List AV->Option (Bool × AV)) (cl:ClS):ClS:=addO f (fun xs m=>match G xs with | some (b,r)=>some (b,r,m) | none=>none) cl
theorem zZ4 {f:Nat} {G:List AV->Option (Bool × AV)} {g:Nat} {xs:List AV} {m m':Mem} {r':AV} (hr:erC (addG f G cl) g xs m=some (r',m')):(g=f/\G xs=some (true,r')/\m'=m)∨erC cl g xs m=some (r',m'):=by
 rcases zS4 hr with⟨h1,h2⟩ | h
 ·left
  split at h2<;>first | (cases h2;done) | skip
  rename_i b r hG
  cases h2
  exact⟨h1,hG,rfl⟩
 ·exact .inr h
theorem zC2 (hcl:zA1 P cl) (hmix:P.follows .mixedOrders=true) {f:Nat} {fc:FnS} (hfn:zB2 P f fc) (sh:Sh) (G:List AV->Option (Bool × AV))
  (h:∀ xs r',G xs=some (true,r')->puL xs=true/\∃ L,zB3 cl L fc sh xs some=some r'):zA1 P (addG f G cl):=by
 intro g xs m r' m' hr
 rcases zZ4 hr with⟨rfl,hG,rfl⟩ | hr
 ·obtain⟨hp,L,hrun⟩:=h xs _ hG
  replace hp:=xK2 hp
  unfold zB3 at hrun
  obtain⟨r,m1,hfr,hcall⟩:=zZ0 hcl hmix hfn (zG6 _) hrun
  obtain⟨r2,hz,hr2⟩:=yH5 hfr
  cases hr2
  obtain⟨fn,code,hfun,hb,hnm,_⟩:=hfn
  refine⟨AS.refl m',⟨fn,hfun,hnm,by rw [hb];rfl⟩,fun ρ w T N ys _ _ hv hm=>?_⟩
  refine (hcall (S:=fun _=>False) (ice0:=⟨fun _=>none,ρ.ice⟩) (w0:=w) (ρ:=⟨fun _=>none,ρ.ice⟩) (fun q x hq=>by cases hq) (wC7 (ρ:=ρ) (ρ2:=⟨fun _=>none,ρ.ice⟩) (fun _ _ h=>h) hv hp)
   (fun a ht=>⟨ht,fun i B hB=>by rw [zL2] at hB;(cases hB),fun i j B C hB=>by rw [zL2] at hB;(cases hB),fun i _=>zL2 i,fun _ _=>rfl,hm.ice,fun i B b hB=>by rw [zL2] at hB;(cases hB)⟩)
   ⟨Nat.le_refl _,fun _ _ _=>rfl,fun i B b hB=>by rw [zL2] at hB;(cases hB),Out.refl w,fun _ _ h=>h,fun _ _ h=>.inl h,fun q x hq=>by cases hq⟩).mono fun e w' he=>?_
  obtain⟨ρ1,v,rfl,k1,k2,k3⟩:=he
  obtain⟨ρ2,j1,j2,j3⟩:=vJ6 hm k1 k3.mem k3.ice k3.dis k2 hz
  exact⟨ρ2,v,rfl,j1,j2,j3⟩
 ·exact hcl g xs m r' m' hr
end
abbrev q0:Path:=[]
abbrev q1:Path:=[true]
abbrev q2:Path:=[false,true]
abbrev q3:Path:=[true,true]
abbrev q4:Path:=[false,false,true]
abbrev q5:Path:=[true,false,true]
abbrev q6:Path:=[false,true,true]
abbrev q7:Path:=[true,true,true]
abbrev q8:Path:=[false,false,false,true]
abbrev q9:Path:=[true,false,false,true]
abbrev q10:Path:=[false,true,false,true]
abbrev q11:Path:=[true,true,false,true]
abbrev q12:Path:=[false,false,true,true]
abbrev q13:Path:=[true,false,true,true]
abbrev q14:Path:=[false,true,true,true]
abbrev q15:Path:=[true,true,true,true]
abbrev q16:Path:=[false,false,false,false,true]
abbrev q17:Path:=[true,false,false,false,true]
abbrev q18:Path:=[false,true,false,false,true]
abbrev q19:Path:=[true,true,false,false,true]
abbrev q20:Path:=[false,false,true,false,true]
abbrev q21:Path:=[true,false,true,false,true]
abbrev q22:Path:=[false,true,true,false,true]
abbrev q23:Path:=[true,true,true,false,true]
abbrev q24:Path:=[false,false,false,true,true]
abbrev q25:Path:=[true,false,false,true,true]
abbrev q26:Path:=[false,true,false,true,true]
abbrev q27:Path:=[true,true,false,true,true]
abbrev q28:Path:=[false,false,true,true,true]
abbrev q29:Path:=[true,false,true,true,true]
abbrev q30:Path:=[false,true,true,true,true]
abbrev q31:Path:=[true,true,true,true,true]
abbrev q32:Path:=[false,false,false,false,false,true]
abbrev q33:Path:=[true,false,false,false,false,true]
abbrev q34:Path:=[false,true,false,false,false,true]
abbrev q35:Path:=[true,true,false,false,false,true]
abbrev q36:Path:=[false,false,true,false,false,true]
abbrev q37:Path:=[true,false,true,false,false,true]
abbrev q38:Path:=[false,true,true,false,false,true]
abbrev q39:Path:=[true,true,true,false,false,true]
abbrev q40:Path:=[false,false,false,true,false,true]
abbrev q41:Path:=[true,false,false,true,false,true]
abbrev q42:Path:=[false,true,false,true,false,true]
abbrev q43:Path:=[true,true,false,true,false,true]
abbrev q44:Path:=[false,false,true,true,false,true]
abbrev q45:Path:=[true,false,true,true,false,true]
abbrev q46:Path:=[false,true,true,true,false,true]
abbrev q47:Path:=[true,true,true,true,false,true]
abbrev q48:Path:=[false,false,false,false,true,true]
abbrev q49:Path:=[true,false,false,false,true,true]
abbrev q50:Path:=[false,true,false,false,true,true]
abbrev q51:Path:=[true,true,false,false,true,true]
abbrev q52:Path:=[false,false,true,false,true,true]
abbrev q53:Path:=[true,false,true,false,true,true]
abbrev q54:Path:=[false,true,true,false,true,true]
abbrev q55:Path:=[true,true,true,false,true,true]
abbrev q56:Path:=[false,false,false,true,true,true]
abbrev q57:Path:=[true,false,false,true,true,true]
abbrev q58:Path:=[false,true,false,true,true,true]
abbrev q59:Path:=[true,true,false,true,true,true]
abbrev q60:Path:=[false,false,true,true,true,true]
abbrev q61:Path:=[true,false,true,true,true,true]
abbrev q62:Path:=[false,true,true,true,true,true]
abbrev q63:Path:=[true,true,true,true,true,true]
abbrev q64:Path:=[false,false,false,false,false,false,true]
abbrev q65:Path:=[true,false,false,false,false,false,true]
abbrev q66:Path:=[false,true,false,false,false,false,true]
abbrev q67:Path:=[true,true,false,false,false,false,true]
abbrev q68:Path:=[false,false,true,false,false,false,true]
abbrev q69:Path:=[true,false,true,false,false,false,true]
abbrev q70:Path:=[false,true,true,false,false,false,true]
abbrev q71:Path:=[true,true,true,false,false,false,true]
abbrev q72:Path:=[false,false,false,true,false,false,true]
abbrev q73:Path:=[true,false,false,true,false,false,true]
abbrev q74:Path:=[false,true,false,true,false,false,true]
abbrev q75:Path:=[true,true,false,true,false,false,true]
abbrev q76:Path:=[false,false,true,true,false,false,true]
abbrev q77:Path:=[true,false,true,true,false,false,true]
abbrev q78:Path:=[false,true,true,true,false,false,true]
abbrev q79:Path:=[true,true,true,true,false,false,true]
abbrev q80:Path:=[false,false,false,false,true,false,true]
abbrev q81:Path:=[true,false,false,false,true,false,true]
abbrev q82:Path:=[false,true,false,false,true,false,true]
abbrev q83:Path:=[true,true,false,false,true,false,true]
abbrev q84:Path:=[false,false,true,false,true,false,true]
abbrev q85:Path:=[true,false,true,false,true,false,true]
abbrev q86:Path:=[false,true,true,false,true,false,true]
abbrev q87:Path:=[true,true,true,false,true,false,true]
abbrev q88:Path:=[false,false,false,true,true,false,true]
abbrev q89:Path:=[true,false,false,true,true,false,true]
abbrev q90:Path:=[false,true,false,true,true,false,true]
abbrev q91:Path:=[true,true,false,true,true,false,true]
abbrev q92:Path:=[false,false,true,true,true,false,true]
abbrev q93:Path:=[true,false,true,true,true,false,true]
abbrev q94:Path:=[false,true,true,true,true,false,true]
abbrev q95:Path:=[true,true,true,true,true,false,true]
abbrev q96:Path:=[false,false,false,false,false,true,true]
abbrev q97:Path:=[true,false,false,false,false,true,true]
abbrev q98:Path:=[false,true,false,false,false,true,true]
abbrev q99:Path:=[true,true,false,false,false,true,true]
abbrev q100:Path:=[false,false,true,false,false,true,true]
abbrev q101:Path:=[true,false,true,false,false,true,true]
abbrev q102:Path:=[false,true,true,false,false,true,true]
abbrev q103:Path:=[true,true,true,false,false,true,true]
abbrev q104:Path:=[false,false,false,true,false,true,true]
abbrev q105:Path:=[true,false,false,true,false,true,true]
abbrev q106:Path:=[false,true,false,true,false,true,true]
abbrev q107:Path:=[true,true,false,true,false,true,true]
abbrev q108:Path:=[false,false,true,true,false,true,true]
abbrev q109:Path:=[true,false,true,true,false,true,true]
abbrev q110:Path:=[false,true,true,true,false,true,true]
abbrev q111:Path:=[true,true,true,true,false,true,true]
abbrev q112:Path:=[false,false,false,false,true,true,true]
abbrev q113:Path:=[true,false,false,false,true,true,true]
abbrev q114:Path:=[false,true,false,false,true,true,true]
abbrev q115:Path:=[true,true,false,false,true,true,true]
abbrev q116:Path:=[false,false,true,false,true,true,true]
abbrev q117:Path:=[true,false,true,false,true,true,true]
abbrev q118:Path:=[false,true,true,false,true,true,true]
abbrev q119:Path:=[true,true,true,false,true,true,true]
abbrev q120:Path:=[false,false,false,true,true,true,true]
abbrev q121:Path:=[true,false,false,true,true,true,true]
abbrev q122:Path:=[false,true,false,true,true,true,true]
abbrev q123:Path:=[true,true,false,true,true,true,true]
abbrev q124:Path:=[false,false,true,true,true,true,true]
abbrev q125:Path:=[true,false,true,true,true,true,true]
abbrev q126:Path:=[false,true,true,true,true,true,true]
def stL (l:List (Path × AV)):T AV:=l.foldl (fun t p=>t.set p.1 p.2) .nil
def qQ8:ClS:=fun _ _ _=>[]
theorem wN1 (P:Program):zA1 P qQ8:=fun f xs m r m' h=>by cases h
theorem wrap64 {n:Int} (h:bil.I64 n):zA3 .i64 n=n:=by
 obtain⟨h1,h2⟩:=h
 rw [zF4]
 unfold IntKind.wrap IntKind.signed IntKind.bits
 simp only [Bool.true_and,decide_eq_true_eq,ge_iff_le]
 have e1:(2:Int) ^ (64 - 1)=9223372036854775808:=by decide
 have e2:(2:Int) ^ 64=18446744073709551616:=by decide
 rw [e1,e2]
 split<;>omega
theorem zB9 {a b:Int} (h:a < b):ltI a b=true:=by rw [zE0];exact decide_eq_true h
theorem zB0 {a b:Int} (h:b<=a):ltI a b=false:=by rw [zE0];exact decide_eq_false (by omega)
theorem zB8 {a b:Int} (h:a=b):eqI a b=true:=by rw [zC5];exact decide_eq_true h
theorem zB7 {a b:Int} (h:a≠b):eqI a b=false:=by rw [zC5];exact decide_eq_false h
theorem qE4 {i:Int} {len:Nat} (h:0<=i/\i < len):inI i len=true:=inI_iff.2 h
theorem zA9 {n len:Nat} (h:n < len):inI (.ofNat n) len=true:=qE4 ⟨Int.natCast_nonneg n,by simpa using h⟩
theorem zA2 {n:Nat} (h:n < 4611686018427387904):zA3 .i64 (Int.ofNat n+1)=Int.ofNat (n+1):=wrap64 (by constructor<;>simp only [Int.ofNat_eq_natCast]<;>omega)
theorem zP8 {n:Nat} (h:n+1 < 4611686018427387904):zA3 .i64 (Int.ofNat (n+1) - 1)=Int.ofNat n:=by
 rw [wrap64 (by constructor<;>simp only [Int.ofNat_eq_natCast]<;>omega)]
 simp only [Int.ofNat_eq_natCast];omega
theorem zF7 {t:LTy} {l:List (Elem t)} {n:Nat} (h:n < l.length):nth l n=l[n]:=by simp [nth,List.getD,h]
end Go.Proofs.YtpccdcnjkknmkaaGreatDoor.Ev
