/- Texts of this proof, put together by program; each has its own remark. -/
import Derived.Test.YtbknmeafcbhicaaGreatDoorProg
import Derived.Laws.Externs
import Derived.Test.YtbknmeafcbhicaaGreatDoorM1
import Derived.Test.YtbknmeafcbhicaaGreatDoorM3

/- slices.Insert of one element, told to the machine for symbols. No function of the program is named. -/
namespace Go.Proofs.YtbknmeafcbhicaaGreatDoor.Ev
open Go
theorem ins_elem {ρ:Ren} {w:World} {m:Mem} {T N:Nat} {t:LTy} {v:Elem t} {j off bz vb shv Kv:Nat} {cs:List AV} {op:Bool} (hm:MI ρ w m T N) (hT:T.testBit j=true) (hB:m.at j=some ⟨.raw cs,bz,op⟩)
  (hd:dec t ((cs.drop off).take (wd t))=some v) (hr:ρ j=some (vb,shv,Kv)) :
  ∃ vs:List Value,VRs ρ (enc t v) vs∧vs.length=wd t∧(∀ q u,vs[q]?=some u→w.cell? ⟨vb,shv+off+q,none⟩=some u)∧∀ u∈vs,u.oneCell'=true:=by
 have he:=dec_enc hd
 have hl:((cs.drop off).take (wd t)).length=wd t:=by rw [← he,enc_len]
 have hl2:wd t≤(cs.drop off).length:=by rw [List.length_take] at hl;omega
 obtain⟨V,hV,hc⟩:=mr_read (hm.mem j _ hT hB) hr (off:=off) (cs:=(cs.drop off).take (wd t)) hl fun q hq=>by
  have h1:((cs.drop off).take (wd t))[q]?=cs[off+q]?:=by rw [List.getElem?_take_of_lt hq,List.getElem?_drop]
  have h2:off+q < cs.length:=by rw [List.length_drop] at hl2;omega
  exact⟨cs[off+q],List.getElem?_eq_getElem h2,by rw [h1];exact List.getElem?_eq_getElem h2⟩
 rw [← he] at hV
 exact⟨V,hV,by rw [← hV.1,enc_len],hc,all_one hV (enc_scal t v)⟩
theorem flat_one (t:LTy) (v:Elem t):flat t [v]=enc t v:=by show enc t v++[]=_;rw [List.append_nil]
theorem row_new {ρ:Ren} {w w':World} {m m0:Mem} {T N G:Nat} {t:LTy} {l:List (Elem t)} {xs:List Value} {C:Array Value} {te:TypeId} (hm:MI ρ w m T N) (hN:m.nx+1≤N) (hv:VRs ρ (flat t l) xs) (hG:l.length≤G) (hC:C.size=G*wd t)
  (hc:∀ (j:Nat) (u:Value),xs[j]?=some u→C[j]?=some u) (hh:w'.heap[w.heap.size]?=some (.cells C te (0,0))) (hs:w.heap.size≤w'.heap.size) (ho:∀ x,x < w.heap.size→w'.heap[x]?=w.heap[x]?) (hout:Out w w')
  (hn0:m.nx=m0.nx) (ha:∀ q B,m.at q=some B→m0.at q=some B) :
  ∃ ρ' u,VR ρ' (.so m.nx (wd t) 0 l.length) u∧u=.slice (some ⟨w.heap.size,0,none⟩) l.length G∧MI ρ' w' (m.new ⟨.ls t l,wd t,true⟩) T N∧CS ρ ρ' w w' m0 (m.new ⟨.ls t l,wd t,true⟩):=by
 have hfr:ρ m.nx=none:=hm.fresh _ (Nat.le_refl _) hN
 obtain⟨h1,h2⟩:=mi_new (B':=⟨.ls t l,wd t,true⟩) (sh:=0) (K:=G) hm hN hs ho ⟨w.heap.size,0,G,C,te,(0,0),upd_same _ _ _,hh,no_fz,fun j x hx=>by
  obtain⟨y,hy1,hy2⟩:=hv.get (show (flat t l)[j]?=some x from hx)
  exact⟨y,by rw [Nat.zero_add];exact hc j y hy1,hy2.mono (upd_le _ hfr)⟩,fun _=>by
  show (flat t l).length≤_∧_
  rw [flat_len,hC,Nat.zero_add]
  exact⟨Nat.mul_le_mul_right _ hG,Nat.le_refl _⟩⟩ hout
 refine⟨_,_,?_,rfl,h1,cs_pre h2 hn0 ha⟩
 have:=VR.so (ρ:=ρ.upd m.nx (w.heap.size,0,G)) (i:=m.nx) (esz:=wd t) (off:=0) (len:=l.length) (upd_same _ _ _) (by omega)
 simpa using this
theorem row_same {ρ:Ren} {w w':World} {m m0:Mem} {T N K b sh i:Nat} {t:LTy} {B:Blk} {l:List (Elem t)} {xs:List Value} {C C':Array Value} {te:TypeId} {fz:Nat × Nat} (hm:MI ρ w m T N) (hN:m.nx+1≤N) (hT:T.testBit i=true) (hB:m.at i=some B) (hri:ρ i=some (b,sh,K))
  (hv:VRs ρ (flat t l) xs) (hK:l.length≤K) (hfz:∀ o,o < C.size∨wd t≠1→¬ (fz.1≤o∧o < fz.2)) (hh':w'.heap[b]?=some (.cells C' te fz)) (hsz:C'.size=C.size) (hroom:sh+K*wd t≤C.size)
  (hc:∀ (j:Nat) (u:Value),xs[j]?=some u→C'[sh+j]?=some u) (hs:w'.heap.size=w.heap.size) (ho:∀ x,x≠b→w'.heap[x]?=w.heap[x]?) (hout:Out w w') (hn0:m.nx=m0.nx) (ha:∀ q B,m.at q=some B→m0.at q=some B) :
  ∃ ρ' u,VR ρ' (.so m.nx (wd t) 0 l.length) u∧u=.slice (some ⟨b,sh,none⟩) l.length K∧MI ρ' w' ((m.del i).new ⟨.ls t l,wd t,true⟩) T N∧CS ρ ρ' w w' m0 ((m.del i).new ⟨.ls t l,wd t,true⟩):=by
 have hfr:ρ m.nx=none:=hm.fresh _ (Nat.le_refl _) hN
 obtain⟨h1,h2⟩:=mi_born (B':=⟨.ls t l,wd t,true⟩) (b:=b) (sh:=sh) (K:=K) hm hN hT hB (by simp [Ren.blk,hri]) hs ho ⟨b,sh,K,C',te,fz,upd_same _ _ _,hh',by rw [hsz];exact hfz,fun j x hx=>by
  obtain⟨y,hy1,hy2⟩:=hv.get (show (flat t l)[j]?=some x from hx)
  exact⟨y,hc j y hy1,hy2.mono (upd_le _ hfr)⟩,fun _=>by
  show (flat t l).length≤_∧_
  rw [flat_len,hsz]
  exact⟨Nat.mul_le_mul_right _ hK,hroom⟩⟩ hout
 refine⟨_,_,?_,rfl,h1,cs_pre h2 hn0 ha⟩
 have:=VR.so (ρ:=ρ.upd m.nx (b,sh,K)) (i:=m.nx) (esz:=wd t) (off:=0) (len:=l.length) (upd_same _ _ _) (by omega)
 simpa using this
theorem vrs_three {ρ:Ren} {a b c:AV} {ys:List Value} (h:VRs ρ [a,b,c] ys):∃ x y z,ys=[x,y,z]∧VR ρ a x∧VR ρ b y∧VR ρ c z:=by
 obtain⟨x,ys',rfl,h1,h2⟩:=h.cons_inv
 obtain⟨y,z,rfl,h3,h4⟩:=vrs_two h2
 exact⟨x,y,z,rfl,h1,h3,h4⟩
theorem ins_sound {P : Program} {cl : ClS} {f : FuncId} {t : LTy} {nb : Nat} {te : TypeId} (hcl : SoundS P cl) (hfn : ∃ fn, P.funcs[f]? = some fn ∧ (fn.name == "runtime.NumGoroutine") = false ∧ fn.body.isNone = false)
  (hC:InsC P f (wd t) nb te) (hw:1 < wd t) (hnb:nb≤4096):SoundS P (addI f t cl):=by
 intro g xs m r' m' hr
 rcases addO_inv hr with⟨rfl,ho⟩ | hr
 ·clear hr
  unfold insG at ho
  split at ho<;>first | (cases ho;done) | skip
  rename_i x k j off
  obtain⟨B,hB,ho1⟩:=getK_inv ho
  clear ho
  split at ho1<;>first | (cases ho1;done) | skip
  rename_i cs bz op
  cases hbz:Nat.beq bz 1 with
  | true=>rw [hbz] at ho1;cases ho1
  | false =>
   rw [hbz,cond_false] at ho1
   split at ho1<;>first | (cases ho1;done) | skip
   ·split at ho1<;>first | (cases ho1;done) | skip
    rename_i v hd
    rw [newK_eq] at ho1
    simp only [Option.some.injEq,Prod.mk.injEq] at ho1
    obtain⟨hk,rfl,rfl⟩:=ho1
    rw [eqI_eq,decide_eq_true_eq] at hk
    subst hk
    refine⟨(as_touch m j).trans (as_new _ _),hfn,fun ρ w T N ys hT hN hv hm=>?_⟩
    obtain⟨y0,y1,y2,rfl,h0,h1,h2⟩:=vrs_three hv
    cases h0
    cases h1
    cases h2 with
    | sl len cap hr =>
     rename_i vb shv Kv
     have hTj:T.testBit j=true:=hT j ((as_new _ _).tch j (bit_or.2 (.inr rfl)))
     obtain⟨vs,e1,e2,e3,e4⟩:=ins_elem hm hTj hB hd hr
     refine (hC.fin none 0 0 vb (shv+off) 1 [] vs w (Nat.le_refl _) (by omega) (by omega) (by simp) e2 (fun _=>rfl) (fun a ha=>by cases ha) e3 e4).mono fun e w' he=>?_
     obtain⟨G,ROW,rfl,g1,g2,g3,rfl⟩:=he
     obtain⟨ρ',u,q1,rfl,q3,q4⟩:=row_new (te:=te) (C:=ROW) (m:=m.touch j) (m0:=m) (t:=t) (l:=[v]) (w':=w.drew.alloc (.cells ROW te)) (mi_touch hm j) hN (by rw [flat_one];exact e1) g1 g2 (fun q u hq=>g3 q u (by rw [List.nil_append];exact hq)) (by
      show (w.heap.push _)[w.heap.size]?=_;simp) (by show _≤(w.heap.push _).size;simp) (fun x hx=>by show (w.heap.push _)[x]?=_;rw [Array.getElem?_push,if_neg (Nat.ne_of_lt hx)]) ⟨rfl,rfl,rfl⟩ rfl (fun _ _ h=>h)
     exact⟨ρ',_,rfl,q1,q3,q4⟩
   ·rename_i i e off' len
    obtain⟨C,hC',ho⟩:=getK_inv ho1
    clear ho1
    split at ho<;>first | (cases ho;done) | skip
    rename_i t' l ez
    split at ho<;>first | (cases ho;done) | skip
    rename_i v hd
    cases hcd:Nat.beq e (wd t')&&(Nat.beq off' 0&&(Nat.beq ez (wd t')&&Nat.beq (wd t') (wd t))) with
    | false=>rw [hcd] at ho;cases ho
    | true =>
     rw [hcd,cond_true] at ho
     simp only [Bool.and_eq_true] at hcd
     obtain⟨a1,a2,a3,a4⟩:=hcd
     have a1:=beqN.1 a1
     have a2:=beqN.1 a2
     have a3:=beqN.1 a3
     have a4:=beqN.1 a4
     subst a1 a2 a3
     rw [delK_eq,newK_eq] at ho
     simp only [Option.some.injEq,Prod.mk.injEq] at ho
     obtain⟨hk,rfl,rfl⟩:=ho
     simp only [Bool.and_eq_true] at hk
     obtain⟨hk1,hk2,hk3⟩:=hk
     have hk1:=beqN.1 hk1
     subst hk1
     obtain⟨hk4,hk5⟩:=inI_iff.1 hk2
     have hk6:=blt_iff.1 hk3
     obtain⟨n,rfl⟩:∃ n:Nat,k=n:=⟨k.toNat,by omega⟩
     have hn:n≤l.length:=by omega
     rw [Int.toNat_natCast]
     refine⟨((as_touch m j).trans (as_touch _ i)).trans ((as_del _ i).trans (as_new _ _)),hfn,fun ρ w T N ys hT hN hv hm=>?_⟩
     obtain⟨y0,y1,y2,rfl,h0,h1,h2⟩:=vrs_three hv
     cases h1
     cases h0 with
     | so hr0 hlk =>
      rename_i b sh K
      cases h2 with
      | sl ln cpv hr =>
       rename_i vb shv Kv
       have hTj:T.testBit j=true:=hT j ((as_new _ _).tch j ((as_del _ i).tch j ((as_touch _ i).tch j (bit_or.2 (.inr rfl)))))
       have hTi:T.testBit i=true:=hT i ((as_new _ _).tch i ((as_del _ i).tch i (bit_or.2 (.inr rfl))))
       obtain⟨vs,e1,e2,e3,e4⟩:=ins_elem hm hTj hB hd hr
       have hCi:m.at i=some ⟨.ls t' l,wd t',true⟩:=hC'
       have hm2:=mi_touch (mi_touch hm j) i
       obtain⟨V,f1,f2⟩:=mr_read (w:=w) (off:=0) (cs:=flat t' l) (hm.mem i _ hTi hCi) hr0 rfl (fun q hq=>⟨_,by rw [Nat.zero_add];exact List.getElem?_eq_getElem hq,List.getElem?_eq_getElem hq⟩)
       obtain⟨b',sh',K',c0,e0,fz,g1,g2,g3,g4,g5⟩:=hm.mem i _ hTi hCi
       rw [hr0] at g1
       cases g1
       obtain⟨b1,sh1,K1,c1,ee1,fz1,p1,p2,p3,p4,p5⟩:=hm.mem j _ hTj hB
       rw [hr] at p1
       cases p1
       have hbz':bz≠1:=fun h=>by rw [h] at hbz;cases hbz
       have hij:j≠i:=fun h=>by rw [h,hCi] at hB;cases hB
       have hvb:vb≠b:=fun h=>hm.inj j i _ _ hTj hTi hB hCi hij (by simp [Ren.blk,hr,hr0,h])
       have hwf:(flat t' l).length≤K*wd t'∧sh+K*wd t'≤c0.size:=g5 rfl
       rw [Nat.zero_add] at hlk
       have f1l:V.length=l.length*wd t':=by rw [← f1.1,flat_len]
       have f2c:∀ (q:Nat) (u:Value),V[q]?=some u→w.cell? ⟨b,sh+q,none⟩=some u:=fun q u hq=>by have:=f2 q u hq;rwa [Nat.add_zero] at this
       have f2c0:∀ (q:Nat) (u:Value),V[q]?=some u→c0[sh+q]?=some u:=fun q u hq=>by rw [← cell_at g2];exact f2c q u hq
       have f3:∀ u∈V,u.oneCell'=true:=all_one f1 (flat_scal t' l)
       have g3':∀ o,¬ (fz.1≤o∧o < fz.2):=fun o=>g3 o (.inr (by show wd t'≠1;omega))
       have hbg:(l.length+1)*nb≤140737488355328:=by
        have:(l.length+1)*nb≤1000000*4096:=Nat.mul_le_mul (by omega) hnb
        omega
       have hrel:VRs ρ (flat t' (l.take n++v::l.drop n)) (V.take (n*wd t')++(vs++V.drop (n*wd t'))):=by
        rw [flat_append,show v::l.drop n=[v]++l.drop n from rfl,flat_append,flat_one]
        have ht:=flat_append t' (l.take n) (l.drop n)
        rw [List.take_append_drop] at ht
        have htl:(flat t' (l.take n)).length=n*wd t':=by rw [flat_len,List.length_take,Nat.min_eq_left hn]
        refine VRs.append ⟨by rw [htl,List.length_take,f1l,Nat.min_eq_left (Nat.mul_le_mul_right _ hn)],fun q x y hx hy=>?_⟩ (VRs.append e1 ⟨?_,fun q x y hx hy=>?_⟩)
        ·have hq:q < n*wd t':=by rw [← htl];exact (List.getElem?_eq_some_iff.1 hx).1
         rw [List.getElem?_take_of_lt hq] at hy
         refine f1.2 q x y ?_ hy
         rw [ht,List.getElem?_append_left (by rw [htl];exact hq)]
         exact hx
        ·rw [List.length_drop,f1l,flat_len,List.length_drop,Nat.sub_mul]
        ·rw [List.getElem?_drop] at hy
         refine f1.2 (n*wd t'+q) x y ?_ hy
         rw [ht,List.getElem?_append_right (by rw [htl];omega),htl,Nat.add_sub_cancel_left]
         exact hx
       have hlen:(l.take n++v::l.drop n).length=l.length+1:=by
        rw [List.length_append,List.length_cons,List.length_take,List.length_drop,Nat.min_eq_left hn];omega
       rw [← a4] at hC hw
       have z1:sh+0*wd t'=sh:=by rw [Nat.zero_mul,Nat.add_zero]
       rw [z1,Nat.sub_zero]
       have hrm:l.length+1≤K→sh+(l.length+1)*wd t'≤c0.size:=fun h=>by
        have:(l.length+1)*wd t'≤K*wd t':=Nat.mul_le_mul_right _ h
        omega
       have place:∀ w',w'.heap.size=w.heap.size∧(∀ x,x≠b→w'.heap[x]?=w.heap[x]?)∧Out w w'∧(∃ C',w'.heap[b]?=some (.cells C' e0 fz)∧C'.size=c0.size∧∀ (q:Nat) (u:Value),(V.take (n*wd t')++(vs++V.drop (n*wd t')))[q]?=some u→C'[sh+q]?=some u)→l.length+1≤K →
         ∃ ρ' v',Ending.returned (.slice (some ⟨b,sh,none⟩) (l.length+1) K)=.returned v'∧VR ρ' (.so m.nx (wd t') 0 (l.length+1)) v'∧MI ρ' w' ((((m.touch j).touch i).del i).new ⟨.ls t' (l.take n++v::l.drop n),wd t',true⟩) T N∧CS ρ ρ' w w' m ((((m.touch j).touch i).del i).new ⟨.ls t' (l.take n++v::l.drop n),wd t',true⟩):=fun w' ⟨s1,s2,s3,C',s4,s5,s6⟩ hK=>by
        obtain⟨ρ',u,q1,rfl,q3,q4⟩:=row_same (l:=l.take n++v::l.drop n) (m0:=m) (C:=c0) (C':=C') hm2 hN hTi (show ((m.touch j).touch i).at i=_ from hCi) hr0 hrel (by rw [hlen];exact hK) (fun o _=>g3' o) s4 s5 hwf.2 s6 s1 s2 s3 rfl (fun _ _ h=>h)
        rw [hlen] at q1
        exact⟨ρ',_,rfl,q1,q3,q4⟩
       have fresh:∀ w' G,l.length+1≤G→w.heap.size≤w'.heap.size∧(∀ x,x < w.heap.size→w'.heap[x]?=w.heap[x]?)∧Out w w'∧(∃ C',w'.heap[w.heap.size]?=some (.cells C' te (0,0))∧C'.size=G*wd t'∧∀ (q:Nat) (u:Value),(V.take (n*wd t')++(vs++V.drop (n*wd t')))[q]?=some u→C'[q]?=some u) →
         ∃ ρ' v',Ending.returned (.slice (some ⟨w.heap.size,0,none⟩) (l.length+1) G)=.returned v'∧VR ρ' (.so m.nx (wd t') 0 (l.length+1)) v'∧MI ρ' w' ((((m.touch j).touch i).del i).new ⟨.ls t' (l.take n++v::l.drop n),wd t',true⟩) T N∧CS ρ ρ' w w' m ((((m.touch j).touch i).del i).new ⟨.ls t' (l.take n++v::l.drop n),wd t',true⟩):=fun w' G hG ⟨s1,s2,s3,C',s4,s5,s6⟩=>by
        obtain⟨ρ',u,q1,rfl,q3,q4⟩:=row_new (te:=te) (G:=G) (l:=l.take n++v::l.drop n) (m:=((m.touch j).touch i).del i) (m0:=m) (mi_del hm2 i) hN hrel (by rw [hlen];exact hG) s5 s6 s4 s1 s2 s3 rfl (fun q B hq=>by
         rw [at_del] at hq
         split at hq
         ·cases hq
         ·exact hq)
        rw [hlen] at q1
        exact⟨ρ',_,rfl,q1,q3,q4⟩
       rcases Nat.lt_or_ge n l.length with hlt | hge
       ·rcases Nat.lt_or_ge K (l.length+1) with hK | hK
        ·refine (hC.grow b sh l.length K n vb (shv+off) 1 V vs w hlt hlk hK hbg f1l e2 f2c e3 f3 e4).mono fun ed w' he=>?_
         obtain⟨G,ROW,rfl,r1,r2,r3,rfl⟩:=he
         exact fresh _ G r1 (post_grow (sh:=0) hlt f1l e2 r1 r2 r3 rfl)
        ·refine (hC.shift b sh l.length K n vb (shv+off) 1 V vs w hlt hK hk6 hvb f1l e2 f2c (fun q hq=>?_) (fun q _=>frozen_at g2 (g3' _)) e3 f3 e4 ee1 e0 c1.size c0.size (by simp [World.shape?,p2]) (by simp [World.shape?,g2]) ?_ (frozen_at p2 (p3 _ (.inr hbz'))) (frozen_at p2 (p3 _ (.inr hbz')))).mono fun ed w' he=>?_
         ·rw [cell_at g2,Array.getElem?_eq_getElem (by have:=hrm hK;omega)];rfl
         ·have:=hrm hK
          have h9:(l.length+1)*wd t'=l.length*wd t'+wd t':=Nat.succ_mul _ _
          omega
         ·obtain⟨rfl,rfl⟩:=he
          exact place _ (post_shift g2 hlt f1l e2 f2c0 (hrm hK) rfl) hK
       ·obtain rfl:n=l.length:=by omega
        have t1:V.take (l.length*wd t')=V:=List.take_of_length_le (by omega)
        have t2:V.drop (l.length*wd t')=[]:=List.drop_eq_nil_of_le (by omega)
        rcases Nat.lt_or_ge K (l.length+1) with hK | hK
        ·refine (hC.fin (some ⟨b,sh,none⟩) l.length K vb (shv+off) 1 V vs w hlk hK hbg f1l e2 (fun h=>by cases h) (fun a ha=>by cases ha;exact⟨rfl,fun q u hq=>by rw [Addr.add_lit];exact f2c q u hq⟩) e3 e4).mono fun ed w' he=>?_
         obtain⟨G,ROW,rfl,r1,r2,r3,rfl⟩:=he
         refine fresh _ G r1 ⟨by show _≤(w.heap.push _).size;simp,fun x hx=>by show (w.heap.push _)[x]?=_;rw [Array.getElem?_push,if_neg (Nat.ne_of_lt hx)],⟨rfl,rfl,rfl⟩,ROW,by show (w.heap.push _)[w.heap.size]?=_;simp,r2,?_⟩
         rw [t1,t2,List.append_nil]
         exact r3
        ·refine (hC.room b sh l.length K vb (shv+off) 1 vs w hK hk6 e2 (fun q hq=>?_) (fun q _=>frozen_at g2 (g3' _)) e3 e4).mono fun ed w' he=>?_
         ·have h9:(l.length+1)*wd t'=l.length*wd t'+wd t':=Nat.succ_mul _ _
          rw [cell_at g2,Array.getElem?_eq_getElem (by have:=hrm hK;omega)];rfl
         ·obtain⟨rfl,rfl⟩:=he
          refine place _ ?_ hK
          rw [t1,t2,List.append_nil]
          exact post_room g2 f1l e2 f2c0 (hrm hK) rfl
 ·exact hcl g xs m r' m' hr
end Go.Proofs.YtbknmeafcbhicaaGreatDoor.Ev

/- slices.Delete of one session, told to the machine for symbols. No function of the program is named. -/
namespace Go.Proofs.YtbknmeafcbhicaaGreatDoor.Ev
open Go
def DelC (P:Program) (f:FuncId):Prop :=
 ∀ (b sh n c a:Nat) (cs:List Value) (w:World) (_:a < n) (_:n≤c) (_:cs.length=n*5) (_:n < 1000000)
  (_:∀ (j:Nat) (v:Value),cs[j]?=some v→w.cell? ⟨b,sh+j,none⟩=some v) (_:∀ j,j < n*5→w.frozen? ⟨b,sh+j,none⟩=false) (_:∀ v∈cs,v.oneCell'=true),
  Calls P f #[.slice (some ⟨b,sh,none⟩) n c,.int .i64 a,.int .i64 ((a:Int)+1)] w fun e w' =>
   ∃ Z:List Value,Z.length=5∧e=.returned (.slice (some ⟨b,sh,none⟩) (n - 1) c)∧w'=(w.drew.setCells b (sh+a*5) (cs.drop ((a+1)*5))).setCells b (sh+(n - 1)*5) Z
theorem post_del {w:World} {b:Nat} {C:Array Value} {te:TypeId} {fz:Nat × Nat} (hh:w.heap[b]?=some (.cells C te fz)) {sh n a:Nat} {cs Z:List Value} (ha:a < n) (hcl:cs.length=n*5) (hZ:Z.length=5)
  (hcs:∀ (j:Nat) (u:Value),cs[j]?=some u→C[sh+j]?=some u) (hroom:sh+n*5≤C.size) {w':World} (hw:w'=(w.drew.setCells b (sh+a*5) (cs.drop ((a+1)*5))).setCells b (sh+(n - 1)*5) Z) :
  w'.heap.size=w.heap.size∧(∀ x,x≠b→w'.heap[x]?=w.heap[x]?)∧Out w w'∧∃ C',w'.heap[b]?=some (.cells C' te fz)∧C'.size=C.size∧∀ (j:Nat) (u:Value),(cs.take (a*5)++cs.drop ((a+1)*5))[j]?=some u→C'[sh+j]?=some u:=by
 subst hw
 have hdl:(cs.drop ((a+1)*5)).length=n*5 - (a+1)*5:=by rw [List.length_drop,hcl]
 have hh':w.drew.heap[b]?=some (.cells C te fz):=hh
 obtain⟨a1,a2,C1,a3,a4,a5,a6⟩:=heap_setCells (cs.drop ((a+1)*5)) (sh+a*5) w.drew hh' (by rw [hdl];omega)
 obtain⟨b1,b2,C2,b3,b4,b5,b6⟩:=heap_setCells Z (sh+(n - 1)*5) _ a3 (by rw [hZ,a4];omega)
 refine⟨b1.trans a1,fun x hx=>(b2 x hx).trans (a2 x hx),((show Out w w.drew from ⟨rfl,rfl,rfl⟩).trans (out_setCells _ _ _ _)).trans (out_setCells _ _ _ _),C2,b3,by rw [b4,a4],fun j u hj=>?_⟩
 have htl:(cs.take (a*5)).length=a*5:=by rw [List.length_take,hcl];omega
 have hjl:j < (n - 1)*5:=by
  have:=(List.getElem?_eq_some_iff.1 hj).1
  rw [List.length_append,htl,hdl] at this
  omega
 rw [b6 _ (.inl (by omega))]
 rw [List.getElem?_append] at hj
 split at hj
 ·rename_i h1
  rw [htl] at h1
  rw [a6 _ (.inl (by omega))]
  rw [List.getElem?_take_of_lt h1] at hj
  exact hcs j u hj
 ·rename_i h1
  rw [htl] at h1 hj
  have hl:=(List.getElem?_eq_some_iff.1 hj).1
  have:=a5 (j - a*5) hl
  rw [show sh+a*5+(j - a*5)=sh+j by omega] at this
  rw [this];exact hj
theorem del_sound {P : Program} {cl : ClS} {f : FuncId} (hcl : SoundS P cl) (hfn : ∃ fn, P.funcs[f]? = some fn ∧ (fn.name == "runtime.NumGoroutine") = false ∧ fn.body.isNone = false) (hC : DelC P f) : SoundS P (addD f cl) := by
 intro g xs m r' m' hr
 rcases addO_inv hr with⟨rfl,ho⟩ | hr
 ·clear hr
  unfold delG at ho
  split at ho<;>first | (cases ho;done) | skip
  rename_i i e off len k k2
  obtain⟨C,hC',ho1⟩:=getK_inv ho
  clear ho
  have ho:=ho1
  clear ho1
  split at ho<;>first | (cases ho;done) | skip
  rename_i t l ez
  cases hcd:Nat.beq e (wd t)&&(Nat.beq off 0&&(Nat.beq ez (wd t)&&Nat.beq (wd t) 5)) with
  | false=>rw [hcd] at ho;cases ho
  | true =>
   rw [hcd,cond_true] at ho
   simp only [Bool.and_eq_true] at hcd
   obtain⟨a1,a2,a3,a4⟩:=hcd
   have a1:=beqN.1 a1
   have a2:=beqN.1 a2
   have a3:=beqN.1 a3
   have a4:=beqN.1 a4
   subst a1 a2 a3
   rw [delK_eq,newK_eq] at ho
   simp only [Option.some.injEq,Prod.mk.injEq] at ho
   obtain⟨hk,rfl,rfl⟩:=ho
   simp only [Bool.and_eq_true] at hk
   obtain⟨hk1,hk2,hk3,hk7⟩:=hk
   have hk1:=beqN.1 hk1
   subst hk1
   obtain⟨hk4,hk5⟩:=inI_iff.1 hk2
   have hk6:=blt_iff.1 hk7
   rw [eqI_eq,decide_eq_true_eq] at hk3
   subst hk3
   obtain⟨n,rfl⟩:∃ n:Nat,k=n:=⟨k.toNat,by omega⟩
   have hn:n < l.length:=by omega
   rw [Int.toNat_natCast]
   refine⟨(as_touch m i).trans ((as_del _ i).trans (as_new _ _)),hfn,fun ρ w T N ys hT hN hv hm=>?_⟩
   obtain⟨y0,y1,y2,rfl,h0,h1,h2⟩:=vrs_three hv
   cases h1
   cases h2
   cases h0 with
   | so hr0 hlk =>
    rename_i b sh K
    have hTi:T.testBit i=true:=hT i ((as_new _ _).tch i ((as_del _ i).tch i (bit_or.2 (.inr rfl))))
    have hm2:=mi_touch hm i
    obtain⟨V,f1,f2⟩:=mr_read (w:=w) (off:=0) (cs:=flat t l) (hm.mem i _ hTi hC') hr0 rfl (fun q hq=>⟨_,by rw [Nat.zero_add];exact List.getElem?_eq_getElem hq,List.getElem?_eq_getElem hq⟩)
    obtain⟨b',sh',K',c0,e0,fz,g1,g2,g3,g4,g5⟩:=hm.mem i _ hTi hC'
    rw [hr0] at g1
    cases g1
    have hwf:(flat t l).length≤K*wd t∧sh+K*wd t≤c0.size:=g5 rfl
    rw [Nat.zero_add] at hlk
    have f1l:V.length=l.length*5:=by rw [← f1.1,flat_len,a4]
    have f2c:∀ (q:Nat) (u:Value),V[q]?=some u→w.cell? ⟨b,sh+q,none⟩=some u:=fun q u hq=>by have:=f2 q u hq;rwa [Nat.add_zero] at this
    have f2c0:∀ (q:Nat) (u:Value),V[q]?=some u→c0[sh+q]?=some u:=fun q u hq=>by rw [← cell_at g2];exact f2c q u hq
    have f3:∀ u∈V,u.oneCell'=true:=all_one f1 (flat_scal t l)
    have g3':∀ o,¬ (fz.1≤o∧o < fz.2):=fun o=>g3 o (.inr (by show wd t≠1;omega))
    have hrm:sh+l.length*5≤c0.size:=by
     have h1:l.length*wd t≤K*wd t:=Nat.mul_le_mul_right _ hlk
     rw [a4] at h1 hwf
     omega
    have hrel:VRs ρ (flat t (l.eraseIdx n)) (V.take (n*5)++V.drop ((n+1)*5)):=by
     rw [List.eraseIdx_eq_take_drop_succ,flat_append]
     have ht1:=flat_append t (l.take n) (l.drop n)
     rw [List.take_append_drop] at ht1
     have ht2:=flat_append t (l.take (n+1)) (l.drop (n+1))
     rw [List.take_append_drop] at ht2
     have htl1:(flat t (l.take n)).length=n*5:=by rw [flat_len,List.length_take,Nat.min_eq_left (by omega),a4]
     have htl2:(flat t (l.take (n+1))).length=(n+1)*5:=by rw [flat_len,List.length_take,Nat.min_eq_left (by omega),a4]
     refine VRs.append ⟨by rw [htl1,List.length_take,f1l];omega,fun q x y hx hy=>?_⟩ ⟨?_,fun q x y hx hy=>?_⟩
     ·have hq:q < n*5:=by rw [← htl1];exact (List.getElem?_eq_some_iff.1 hx).1
      rw [List.getElem?_take_of_lt hq] at hy
      refine f1.2 q x y ?_ hy
      rw [ht1,List.getElem?_append_left (by rw [htl1];exact hq)]
      exact hx
     ·rw [List.length_drop,f1l,flat_len,List.length_drop,Nat.sub_mul,a4]
     ·rw [List.getElem?_drop] at hy
      refine f1.2 ((n+1)*5+q) x y ?_ hy
      rw [ht2,List.getElem?_append_right (by rw [htl2];omega),htl2,Nat.add_sub_cancel_left]
      exact hx
    have hlen:(l.eraseIdx n).length=l.length - 1:=by rw [List.length_eraseIdx,if_pos hn]
    have z1:sh+0*wd t=sh:=by rw [Nat.zero_mul,Nat.add_zero]
    rw [z1,Nat.sub_zero]
    refine (hC b sh l.length K n V w hn hlk f1l hk6 f2c (fun q _=>frozen_at g2 (g3' _)) f3).mono fun ed w' he=>?_
    obtain⟨Z,hZ,rfl,hw'⟩:=he
    obtain⟨s1,s2,s3,C',s4,s5,s6⟩:=post_del g2 hn f1l hZ f2c0 hrm hw'
    obtain⟨ρ',u,q1,rfl,q3,q4⟩:=row_same (l:=l.eraseIdx n) (m0:=m) (C:=c0) (C':=C') hm2 hN hTi (show (m.touch i).at i=_ from hC') hr0 hrel (by rw [hlen];omega) (fun o _=>g3' o) s4 s5 hwf.2 s6 s1 s2 s3 rfl (fun _ _ h=>h)
    rw [hlen] at q1
    exact⟨ρ',_,rfl,q1,q3,q4⟩
 ·exact hcl g xs m r' m' hr
end Go.Proofs.YtbknmeafcbhicaaGreatDoor.Ev

/- slices.Delete of one session, by hand. -/
namespace Go.Proofs.YtbknmeafcbhicaaGreatDoor.Ev
open Go Go.RowKit Go.Lib
theorem run_clear_one {P:Program} (w:World) (t e ty:TypeId) (z:Value) (ht:P.underlying t=some (.slice e)) (hv:∀ w,(zeroValue e).run P w=.ok z w) (Z:List Value) (hZ:(Builtin.zeroCells z.cells 1).toList=Z) (h1:∀ v∈Z,v.oneCell'=true) (b o c:Nat)
  (hc:∀ j,j < Z.length→(w.cell? ⟨b,o+j,none⟩).isSome=true) (hf:∀ j,j < Z.length→w.frozen? ⟨b,o+j,none⟩=false) :
  (Builtin.clear_ #[t] ty #[.slice (some ⟨b,o,none⟩) 1 c]).run P w=.ok (.tuple #[]) (w.setCells b o Z):=by
 have hst:=run_storeCells_cells (P:=P) b o Z 0 w (by simpa using hc) (by simpa using hf) h1
 simp only [Nat.add_zero] at hst
 simp [Builtin.clear_,run_underlying ht,hv,hZ,hst]
set_option maxHeartbeats 4000000 in
set_option maxRecDepth 100000 in
theorem del_session (b sh n c a:Nat) (cs:List Value) (w:World) (ha:a < n) (hnc:n≤c) (hcl:cs.length=n*5) (hn6:n < 1000000)
  (hcs:∀ (j:Nat) (v:Value),cs[j]?=some v→w.cell? ⟨b,sh+j,none⟩=some v) (hfz:∀ j,j < n*5→w.frozen? ⟨b,sh+j,none⟩=false) (h1c:∀ v∈cs,v.oneCell'=true) :
  Calls Tryz.prog 76 #[.slice (some ⟨b,sh,none⟩) n c,.int .i64 a,.int .i64 ((a:Int)+1)] w fun e w' =>
   ∃ Z:List Value,Z.length=5∧e=.returned (.slice (some ⟨b,sh,none⟩) (n - 1) c)∧w'=(w.drew.setCells b (sh+a*5) (cs.drop ((a+1)*5))).setCells b (sh+(n - 1)*5) Z:=by
 have hinf:(Tryz.prog.info? 39).map (·.size)=some 5:=by kernel_rfl
 obtain⟨i0,hi0,his⟩:∃ i0,Tryz.prog.info? 39=some i0∧i0.size=5:=by
  cases h:Tryz.prog.info? 39 with
  | none=>rw [h] at hinf;cases hinf
  | some i=>rw [h] at hinf;exact⟨i,rfl,Option.some.inj hinf⟩
 have hsp:∀ j,j < n*5→(w.cell? ⟨b,sh+j,none⟩).isSome=true:=fun j hj=>by rw [hcs j _ (List.getElem?_eq_getElem (by omega))];rfl
 obtain⟨news,hnews⟩:∃ news,news=cs.drop ((a+1)*5):=⟨_,rfl⟩
 have hlen:news.length=(n - (a+1))*5:=by rw [hnews,List.length_drop,hcl,Nat.sub_mul]
 obtain⟨A,hA,hsrc⟩:∃ A:Addr,(if c=a+1 then some (⟨b,sh,none⟩:Addr) else some ⟨b,sh+(a+1)*5,none⟩)=some A∧Hid (∀ (t:Nat) (u:Value),news[t]?=some u→w.drew.cell? (A.add t)=some u):=by
  by_cases h:c=a+1
  ·refine⟨⟨b,sh,none⟩,by simp [h],fun t u hu=>?_⟩
   have h0:news.length=0:=by rw [hlen];omega
   rw [List.length_eq_zero_iff.1 h0] at hu
   simp at hu
  ·refine⟨⟨b,sh+(a+1)*5,none⟩,by simp [h],fun t u hu=>?_⟩
   rw [Addr.add_lit,show sh+(a+1)*5+t=sh+((a+1)*5+t) by omega]
   rw [hnews,List.getElem?_drop] at hu
   exact hcs _ u hu
 have s1:Hid (news.length=(n - (a+1))*5):=hlen
 have s2:Hid (∀ u∈news,u.oneCell'=true):=fun u hu=>h1c u (List.mem_of_mem_drop (by rw [hnews] at hu;exact hu))
 have s3:Hid (∀ t,t < news.length→(w.drew.cell? ⟨b,sh+a*5+t,none⟩).isSome=true∧w.drew.frozen? ⟨b,sh+a*5+t,none⟩=false):=by
  intro t ht
  rw [hlen] at ht
  rw [Nat.add_assoc]
  exact⟨hsp _ (by omega),hfz _ (by omega)⟩
 obtain⟨W1,hW1⟩:∃ W1,W1=w.drew.setCells b (sh+a*5) news:=⟨_,rfl⟩
 have hc1:∀ j,j < n*5→(W1.cell? ⟨b,sh+j,none⟩).isSome=true:=fun j hj=>by
  rw [hW1]
  exact isSome_setCells b _ _ _ (fun q hq=>by rw [hlen] at hq;rw [Nat.add_assoc];exact hsp _ (by omega)) _ (hsp j hj)
 have hf1:∀ j,j < n*5→W1.frozen? ⟨b,sh+j,none⟩=false:=fun j hj=>by rw [hW1,World.frozen?_setCells];exact hfz j hj
 have hZ0:(Builtin.zeroCells (Value.agg #[.int .i64 0,.int .i64 0,.int .i64 0,.int .i64 0,.int .i64 0]).cells 1).toList=([.int .i64 0,.int .i64 0,.int .i64 0,.int .i64 0,.int .i64 0]:List Value):=by kernel_rfl
 obtain⟨Z,hZ⟩:∃ Z:List Value,Z=[.int .i64 0,.int .i64 0,.int .i64 0,.int .i64 0,.int .i64 0]:=⟨_,rfl⟩
 have hZl:Z.length=5:=by rw [hZ];rfl
 have hZ1:∀ v∈Z,v.oneCell'=true:=by rw [hZ];intro v hv;simp only [List.mem_cons,List.not_mem_nil,or_false,or_self] at hv;subst hv;rfl
 have hcl0:∀ ty,(Builtin.clear_ #[27] ty #[.slice (some ⟨b,sh+(n - 1)*5,none⟩) 1 (c - (n - 1))]).run Tryz.prog W1=.ok (.tuple #[]) (W1.setCells b (sh+(n - 1)*5) Z) :=
  fun ty=>run_clear_one W1 _ _ ty _ Tryz.underlying27 Tryz.zeroValue39 Z (hZ0.trans hZ.symm) hZ1 b (sh+(n - 1)*5) _ (fun t ht=>by rw [Nat.add_assoc];exact hc1 _ (by omega)) (fun t ht=>by rw [Nat.add_assoc];exact hf1 _ (by omega))
 have hW:Hid (W1=w.drew.setCells b (sh+a*5) news):=hW1
 have hic:a≤c:=by omega
 have hjc:a+1≤c:=by omega
 have e1:a+(n - (a+1))=n - 1:=by omega
 have e2:n - (n - 1)=1:=by omega
 have e3:((a:Int)+1).toNat=a+1:=by omega
 have e4:(a:Int)+1≤(n:Int):=by omega
 have e5:(0:Int)≤(a:Int)+1:=by omega
 have e6:¬ ((a:Int)=(a:Int)+1):=by omega
 refine Calls.mono (R:=fun e w'=>e=.returned (.slice (some ⟨b,sh,none⟩) (n - 1) c)∧w'=(w.drew.setCells b (sh+a*5) news).setCells b (sh+(n - 1)*5) Z) ?_ fun e w' he=>⟨Z,hZl,he.1,by rw [he.2,hnews]⟩
 clear hW1 hnews hlen hcs hcl hsp hc1 hf1 hfz hZ0 hZ
 have mixed:Tryz.prog.follows .mixedOrders=true:=by kernel_rfl
 go_enter Tryz.func76,Tryz.ntmps76
 go_wp2_with fail
 go_region_law_o (refine step_append_room rfl _ _ 27 rfl 39 i0 5 Tryz.underlying27 hi0 his b sh a c (by simp [Act.eval,Act.put]) A (n - (a+1)) (c - (a+1)) news (by simp [Act.eval,Act.put,hA,e3]) s1.out hsrc.out s2.out (by omega) s3.out ?_;rw [← hW.out])
 go_wp2
 go_ret
 exact⟨rfl,by rw [hW.out]⟩
end Go.Proofs.YtbknmeafcbhicaaGreatDoor.Ev

/- slices.Insert and slices.Delete of one element, at the types of the program. -/
namespace Go.Proofs.YtbknmeafcbhicaaGreatDoor.Ev
open Go
theorem ins_rate {cl:ClS} (hcl:SoundS Tryz.prog cl):SoundS Tryz.prog (addI 71 .rate cl):=ins_sound hcl ⟨_,Tryz.func71,by kernel_rfl,by kernel_rfl⟩ insC_rate (by decide) (by decide)
theorem ins_series {cl:ClS} (hcl:SoundS Tryz.prog cl):SoundS Tryz.prog (addI 68 .series cl):=ins_sound hcl ⟨_,Tryz.func68,by kernel_rfl,by kernel_rfl⟩ insC_series (by decide) (by decide)
theorem ins_ses {cl:ClS} (hcl:SoundS Tryz.prog cl):SoundS Tryz.prog (addI 64 .ses cl):=ins_sound hcl ⟨_,Tryz.func64,by kernel_rfl,by kernel_rfl⟩ insC_session (by decide) (by decide)
theorem ins_bal {cl:ClS} (hcl:SoundS Tryz.prog cl):SoundS Tryz.prog (addI 99 .bal cl):=ins_sound hcl ⟨_,Tryz.func99,by kernel_rfl,by kernel_rfl⟩ insC_balance (by decide) (by decide)
theorem ins_part {cl:ClS} (hcl:SoundS Tryz.prog cl):SoundS Tryz.prog (addI 159 .part cl):=ins_sound hcl ⟨_,Tryz.func159,by kernel_rfl,by kernel_rfl⟩ insC_part (by decide) (by decide)
theorem del_ses {cl:ClS} (hcl:SoundS Tryz.prog cl):SoundS Tryz.prog (addD 76 cl):=del_sound hcl ⟨_,Tryz.func76,by kernel_rfl,by kernel_rfl⟩ del_session
end Go.Proofs.YtbknmeafcbhicaaGreatDoor.Ev

/- Tables of rates: Row, ahead, Right, Find, Put. -/
namespace Go.Proofs.YtbknmeafcbhicaaGreatDoor.Ev
open Go
def G_row:List AV→Option (Bool × AV)
 | [.agg [.str c,.int .i64 y,.int .i64 m,.int .i64 d,.int .i64 b]]=>some (true,i64 (bil.rowF E ⟨⟨⟨c⟩⟩,⟨y,m,d⟩,b⟩))
 | _=>none
def c10:ClS:=addG 53 G_row c9
theorem snd10:SoundS Tryz.prog c10:=add_gn snd9 mix ok_row .any G_row fun xs r h=>by
 unfold G_row at h
 split at h<;>first | (cases h;done) | skip
 rename_i c y m d b
 cases h
 refine⟨rfl,0,?_⟩
 have e:callF c9 0 s_row .any [.agg [.str c,i64 y,i64 m,i64 d,i64 b]] some=bif E.name ⟨⟨c⟩⟩ then bif bil.dayF E ⟨y,m,d⟩ then bif ltI b 0 then some (i64 10) else bif ltI 100000 b then some (i64 10) else some (i64 0) else some (i64 9) else some (i64 8):=by kernel_rfl
 refine e.trans ?_
 unfold bil.rowF
 simp only
 rw [ltI_eq,ltI_eq]
 cases E.name ⟨⟨c⟩⟩<;>cases bil.dayF E ⟨y,m,d⟩<;>by_cases h1:b < 0<;>by_cases h2:100000 < b<;>simp [h1,h2]
def G_vahead:List AV→Option (Bool × AV)
 | [.agg [.str c,.int .i64 y,.int .i64 m,.int .i64 d,.int .i64 b],.agg [.str c',.int .i64 y',.int .i64 m',.int .i64 d',.int .i64 b']]=>some (true,.bool (bil.aheadF E ⟨⟨⟨c⟩⟩,⟨y,m,d⟩,b⟩ ⟨⟨⟨c'⟩⟩,⟨y',m',d'⟩,b'⟩))
 | _=>none
def c11:ClS:=addG 54 G_vahead c10
theorem snd11:SoundS Tryz.prog c11:=add_gn snd10 mix ok_vahead .any G_vahead fun xs r h=>by
 unfold G_vahead at h
 split at h<;>first | (cases h;done) | skip
 rename_i c y m d b c' y' m' d' b'
 cases h
 refine⟨rfl,0,?_⟩
 have e:callF c10 0 s_vahead .any [.agg [.str c,i64 y,i64 m,i64 d,i64 b],.agg [.str c',i64 y',i64 m',i64 d',i64 b']] some=bif bytesLt c c' then some (.bool true) else bif bytesEq c c' then bif bil.beforeF E ⟨y,m,d⟩ ⟨y',m',d'⟩ then some (.bool true) else some (.bool false) else some (.bool false):=by kernel_rfl
 refine e.trans ?_
 unfold bil.aheadF
 rw [← blt_bytes,← beq_bytes]
 simp only
 cases bytesLt c c'<;>cases bytesEq c c'<;>cases bil.beforeF E ⟨y,m,d⟩ ⟨y',m',d'⟩<;>rfl
def stR (l:List bil.Rt) (n:Int):T AV:=stL [(q0,.fl .rate l),(q8,.fl .rate l),(q9,i64 (.ofNat l.length)),(q10,i64 n)]
def lpR (L L':Nat) (l:List bil.Rt) (n:Int):Option AV:=loopS (evS c11 L b1_vatRight) l1_vatRight 0 L' (stR l n) m0 (k1_vatRight c11 L fun r m=>frzK m .any r some)
theorem round_vatRight (L L' n:Nat) (l:List bil.Rt):lpR L (Nat.succ L') l (.ofNat n) =
 bif ltI (.ofNat n) (.ofNat l.length) then bif inI (.ofNat n) l.length then bif !eqI (bil.rowF E (nth (t:=.rate) l n)) 0 then some (.bool false) else
  bif ltI 0 (.ofNat n) then bif inI (wrapK .i64 (.ofNat n - 1)) l.length then bif bil.aheadF E (nth (t:=.rate) l (wrapK .i64 (.ofNat n - 1)).toNat) (nth (t:=.rate) l n) then lpR L L' l (wrapK .i64 (.ofNat n+1)) else some (.bool false) else none
  else lpR L L' l (wrapK .i64 (.ofNat n+1)) else none else some (.bool true):=by kernel_rfl
def okR (r:bil.Rt):Bool:=bil.rowF E r == 0
theorem loop_vatRight (L:Nat) (l:List bil.Rt) (hl:l.length≤24):∀ (t:List bil.Rt) (n f:Nat),l.drop n=t→n≤l.length→t.length < f→lpR L f l (.ofNat n)=some (.bool (okFrom okR (bil.aheadF E) (prevL (t:=.rate) l n) t))
 | t,n,0,_,_,hf=>by omega
 | [],n,f+1,hd,hn,hf=>by
  rw [round_vatRight,drop_nil hd hn,le_nat (Nat.le_refl _),cond_false]
  unfold okFrom
  rfl
 | x::t,n,f+1,hd,hn,hf=>by
  obtain⟨h1,h2,h3⟩:=drop_cons (t:=.rate) hd
  have ih:=loop_vatRight L l hl t (n+1) f h3 (by omega) (by simp at hf;omega)
  rw [prevL_succ h2] at ih
  rw [round_vatRight,lt_nat h1,cond_true,in_nat h1,cond_true,h2,eqI_eq,wrap_succ (by omega),ih]
  have e:okR x=decide (bil.rowF E x=0):=rfl
  cases n with
  | zero =>
   rw [okFrom_zero (t:=.rate),e]
   show (bif !decide (bil.rowF E x=0) then _ else _)=_
   cases decide (bil.rowF E x=0)<;>rfl
  | succ n =>
   rw [lt_zero_succ,cond_true,wrap_pred (by omega),in_nat (by omega),cond_true,okFrom_succ (t:=.rate),e,toNat_of]
   cases decide (bil.rowF E x=0)<;>cases bil.aheadF E (nth (t:=.rate) l n) x<;>rfl
theorem run_vatRight (l:List bil.Rt):callF c11 26 s_vatRight .any [.fl .rate l] some=some (.bool (bil.vatRight E l)):=by
 have e:callF c11 26 s_vatRight .any [.fl .rate l] some=bif ltI 24 (.ofNat l.length) then some (.bool false) else lpR 26 26 l 0:=by kernel_rfl
 rw [e]
 unfold bil.vatRight
 by_cases h:24 < l.length
 ·rw [lt_true (by simp;omega),cond_true,decide_eq_false (by omega)];rfl
 ·rw [lt_false (by simp;omega),cond_false,decide_eq_true (by omega),Bool.true_and]
  have:=loop_vatRight 26 l (by omega) l 0 26 rfl (by omega) (by omega)
  rw [show (0:Int)=.ofNat 0 from rfl,this]
  unfold prevL
  rw [okFrom_none]
  rfl
def G_vatRight:List AV→Option (Bool × AV)
 | [.fl .rate l]=>some (true,.bool (bil.vatRight E l))
 | _=>none
def c12:ClS:=addG 24 G_vatRight c11
theorem snd12:SoundS Tryz.prog c12:=add_gn snd11 mix ok_vatRight .any G_vatRight fun xs r h=>by
 unfold G_vatRight at h
 split at h<;>first | (cases h;done) | skip
 cases h
 exact⟨rfl,26,run_vatRight _⟩
theorem right_len {l:List bil.Rt} (h:bil.vatRight E l=true):l.length≤24:=by
 unfold bil.vatRight at h
 rw [Bool.and_eq_true] at h
 exact of_decide_eq_true h.1
def memT (y m d:Int):Mem:=⟨T.nil.node (some ⟨.raw [i64 y,i64 m,i64 d],1,false⟩) T.nil,1,1,1⟩
def lpF (L L':Nat) (l:List bil.Rt) (c:List UInt8) (y m d a:Int) (is:Bool) (n:Int):Option AV :=
 loopS (evS c12 L b1_vatFind) l1_vatFind 0 L' (stL [(q1,.str c),(q5,.ptr 0 0),(q8,i64 a),(q9,.bool is),(q20,.fl .rate l),(q21,i64 (.ofNat l.length)),(q22,i64 n)]) (memT y m d) (k1_vatFind c12 L fun r m=>frzK m (.tup [.any,.any]) r some)
theorem round_vatFind (L L' n:Nat) (l:List bil.Rt) (c:List UInt8) (y m d a:Int) (is:Bool):lpF L (Nat.succ L') l c y m d a is (.ofNat n) =
 bif ltI (.ofNat n) (.ofNat l.length) then bif inI (.ofNat n) l.length then bif bytesEq (nth (t:=.rate) l n).cat.data.toList c then bif bil.beforeF E ⟨y,m,d⟩ (nth (t:=.rate) l n).fr then lpF L L' l c y m d a is (wrapK .i64 (.ofNat n+1))
  else lpF L L' l c y m d (nth (t:=.rate) l n).bp true (wrapK .i64 (.ofNat n+1)) else lpF L L' l c y m d a is (wrapK .i64 (.ofNat n+1)) else none
 else bif is then some (.tup [i64 a,.bool true]) else some (.tup [i64 a,.bool false]):=by kernel_rfl
def stepF (c:ByteArray) (d:bil.Dt) (a:Option Int) (r:bil.Rt):Option Int:=if decide (r.cat=c)&&!(bil.beforeF E d r.fr) then some r.bp else a
theorem loop_vatFind (L:Nat) (l:List bil.Rt) (hl:l.length≤24) (c:List UInt8) (y m d:Int):∀ (t:List bil.Rt) (n f:Nat) (o:Option Int),l.drop n=t→n≤l.length→t.length < f →
  lpF L f l c y m d (o.getD 0) o.isSome (.ofNat n)=some (.tup [i64 ((t.foldl (stepF ⟨⟨c⟩⟩ ⟨y,m,d⟩) o).getD 0),.bool (t.foldl (stepF ⟨⟨c⟩⟩ ⟨y,m,d⟩) o).isSome])
 | t,n,0,o,_,_,hf=>by omega
 | [],n,f+1,o,hd,hn,hf=>by
  rw [round_vatFind,drop_nil hd hn,le_nat (Nat.le_refl _),cond_false]
  cases o<;>rfl
 | x::t,n,f+1,o,hd,hn,hf=>by
  obtain⟨h1,h2,h3⟩:=drop_cons (t:=.rate) hd
  have ih:=fun o=>loop_vatFind L l hl c y m d t (n+1) f o h3 (by omega) (by simp at hf;omega)
  rw [round_vatFind,lt_nat h1,cond_true,in_nat h1,cond_true,h2,wrap_succ (by omega),ih]
  have ihs:=ih (some x.bp)
  simp only [Option.getD_some,Option.isSome_some] at ihs
  rw [ihs]
  have hb:=beq_bytes x.cat ⟨⟨c⟩⟩
  simp only at hb
  rw [hb,List.foldl_cons]
  unfold stepF
  by_cases hc:x.cat=⟨⟨c⟩⟩
  ·rw [decide_eq_true hc,cond_true]
   cases bil.beforeF E ⟨y,m,d⟩ x.fr<;>rfl
  ·rw [decide_eq_false hc,cond_false]
   rfl
def findR (l:List bil.Rt) (c:ByteArray) (d:bil.Dt):Option Int:=bil.vatFind E l c d
def G_vatFind:List AV→Option (Bool × AV)
 | [.fl .rate l,.str c,.agg [.int .i64 y,.int .i64 m,.int .i64 d]]=>some (true,.tup [i64 ((findR l ⟨⟨c⟩⟩ ⟨y,m,d⟩).getD 0),.bool (findR l ⟨⟨c⟩⟩ ⟨y,m,d⟩).isSome])
 | _=>none
theorem run_vatFind (l:List bil.Rt) (c:List UInt8) (y m d:Int):callF c12 26 s_vatFind (.tup [.any,.any]) [.fl .rate l,.str c,.agg [i64 y,i64 m,i64 d]] some=some (.tup [i64 ((findR l ⟨⟨c⟩⟩ ⟨y,m,d⟩).getD 0),.bool (findR l ⟨⟨c⟩⟩ ⟨y,m,d⟩).isSome]):=by
 have e:callF c12 26 s_vatFind (.tup [.any,.any]) [.fl .rate l,.str c,.agg [i64 y,i64 m,i64 d]] some=bif bil.vatRight E l then bif bil.dayF E ⟨y,m,d⟩ then lpF 26 26 l c y m d 0 false 0 else some (.tup [i64 0,.bool false]) else some (.tup [i64 0,.bool false]):=by kernel_rfl
 rw [e]
 unfold findR bil.vatFind
 cases h1:bil.vatRight E l with
 | false=>rw [cond_false,if_pos (.inl rfl)];rfl
 | true =>
  rw [cond_true]
  cases h2:bil.dayF E ⟨y,m,d⟩ with
  | false=>rw [cond_false,if_pos (.inr rfl)];rfl
  | true =>
   rw [cond_true,if_neg (by simp)]
   have hl:=right_len h1
   exact loop_vatFind 26 l hl c y m d l 0 26 none rfl (by omega) (by omega)
def c13:ClS:=addG 157 G_vatFind c12
theorem snd13:SoundS Tryz.prog c13:=add_gn snd12 mix ok_vatFind (.tup [.any,.any]) G_vatFind fun xs r h=>by
 unfold G_vatFind at h
 split at h<;>first | (cases h;done) | skip
 cases h
 exact⟨rfl,26,run_vatFind _ _ _ _ _⟩
def c14:ClS:=addI 71 .rate c13
def memR (r:bil.Rt):Mem:=⟨T.nil.node (some ⟨.raw (cRt r),1,false⟩) T.nil,1,1,1⟩
def lpP (L L':Nat) (l:List bil.Rt) (r:bil.Rt) (k n:Int):Option AV :=
 loopS (evS c14 L b1_vatPut) l1_vatPut 0 L' (stL [(q0,.fl .rate l),(q3,.ptr 0 0),(q7,i64 k),(q18,.fl .rate l),(q19,i64 (.ofNat l.length)),(q20,i64 n)]) (memR r) (k1_vatPut c14 L fun r m=>frzK m (.tup [.lst .rate,.any]) r some)
def tailP (l:List bil.Rt) (r:bil.Rt) (k:Int):Option AV :=
 bif !ltI (.ofNat l.length) 24 then some (.tup [.fl .rate [],i64 2]) else bif Nat.blt l.length 1048576 then bif Nat.beq l.length 0 then bif eqI k 0 then some (.tup [.fl .rate [r],i64 0]) else none else
  bif Nat.beq l.length l.length&&(inI k (l.length+1)&&Nat.blt l.length 1000000) then bif Nat.beq (l.length+1) (l.take k.toNat++r::l.drop k.toNat).length then some (.tup [.fl .rate (l.take k.toNat++r::l.drop k.toNat),i64 0]) else none else none else none
def sameD (a b:bil.Dt):Bool:=eqI a.y b.y&&(eqI a.m b.m&&(eqI a.d b.d&&true))
theorem round_vatPut (L L' n:Nat) (l:List bil.Rt) (r:bil.Rt) (k:Int):lpP L (Nat.succ L') l r k (.ofNat n) =
 bif ltI (.ofNat n) (.ofNat l.length) then bif inI (.ofNat n) l.length then bif bytesEq (nth (t:=.rate) l n).cat.data.toList r.cat.data.toList then
  bif (bif false then !sameD (nth (t:=.rate) l n).fr r.fr else sameD (nth (t:=.rate) l n).fr r.fr) then some (.tup [.fl .rate [],i64 12]) else
   bif bil.aheadF E (nth (t:=.rate) l n) r then lpP L L' l r (wrapK .i64 (k+1)) (wrapK .i64 (.ofNat n+1)) else lpP L L' l r k (wrapK .i64 (.ofNat n+1))
  else bif bil.aheadF E (nth (t:=.rate) l n) r then lpP L L' l r (wrapK .i64 (k+1)) (wrapK .i64 (.ofNat n+1)) else lpP L L' l r k (wrapK .i64 (.ofNat n+1)) else none
 else tailP l r k:=by kernel_rfl
theorem sameD_eq (a b:bil.Dt):sameD a b=decide (a=b):=by
 obtain⟨a1,a2,a3⟩:=a
 obtain⟨b1,b2,b3⟩:=b
 unfold sameD
 simp only [eqI_eq,bil.Dt.mk.injEq]
 by_cases h1:a1=b1<;>by_cases h2:a2=b2<;>by_cases h3:a3=b3<;>simp [h1,h2,h3]
def isR (r x:bil.Rt):Bool:=decide (x.cat=r.cat)&&decide (x.fr=r.fr)
theorem loop_vatPut (L:Nat) (l:List bil.Rt) (hl:l.length≤24) (r:bil.Rt):∀ (t:List bil.Rt) (n f k:Nat),l.drop n=t→n≤l.length→t.length < f→k≤n →
  lpP L f l r (.ofNat k) (.ofNat n)=bif t.any (isR r) then some (.tup [.fl .rate [],i64 12]) else tailP l r (.ofNat (k+t.countP (bil.aheadF E · r)))
 | t,n,0,k,_,_,hf,_=>by omega
 | [],n,f+1,k,hd,hn,hf,hk=>by
  rw [round_vatPut,drop_nil hd hn,le_nat (Nat.le_refl _),cond_false]
  rfl
 | x::t,n,f+1,k,hd,hn,hf,hk=>by
  obtain⟨h1,h2,h3⟩:=drop_cons (t:=.rate) hd
  have ih:=fun k hk=>loop_vatPut L l hl r t (n+1) f k h3 (by omega) (by simp at hf;omega) hk
  rw [round_vatPut,lt_nat h1,cond_true,in_nat h1,cond_true,h2,wrap_succ (by omega),wrap_succ (by omega),ih k (by omega),ih (k+1) (by omega)]
  rw [cond_false,sameD_eq,beq_bytes,List.any_cons,List.countP_cons]
  have e:isR r x=(decide (x.cat=r.cat)&&decide (x.fr=r.fr)):=rfl
  rw [e,show k+1+t.countP (bil.aheadF E · r)=k+(t.countP (bil.aheadF E · r)+1) by omega]
  cases decide (x.cat=r.cat)<;>cases decide (x.fr=r.fr)<;>cases bil.aheadF E x r<;>simp
def putR (l:List bil.Rt) (r:bil.Rt):List bil.Rt × Int:=bil.vatPut E l r
def G_vatPut:List AV→Option (Bool × AV)
 | [.fl .rate l,.agg [.str c,.int .i64 y,.int .i64 m,.int .i64 d,.int .i64 b]]=>some (true,.tup [.fl .rate (putR l ⟨⟨⟨c⟩⟩,⟨y,m,d⟩,b⟩).1,i64 (putR l ⟨⟨⟨c⟩⟩,⟨y,m,d⟩,b⟩).2])
 | _=>none
theorem run_vatPut (l:List bil.Rt) (r:bil.Rt):callF c14 26 s_vatPut (.tup [.lst .rate,.any]) [.fl .rate l,.agg (cRt r)] some=some (.tup [.fl .rate (putR l r).1,i64 (putR l r).2]):=by
 have e:callF c14 26 s_vatPut (.tup [.lst .rate,.any]) [.fl .rate l,.agg (cRt r)] some=bif bil.vatRight E l then bif !eqI (bil.rowF E r) 0 then some (.tup [.fl .rate [],i64 (bil.rowF E r)]) else lpP 26 26 l r 0 0 else some (.tup [.fl .rate [],i64 1]):=by kernel_rfl
 rw [e]
 unfold putR bil.vatPut
 cases h1:bil.vatRight E l with
 | false=>rfl
 | true =>
  rw [cond_true,if_neg (by simp),eqI_eq]
  by_cases h2:bil.rowF E r=0
  ·have hl:=right_len h1
   have hany:l.any (isR r)=l.any (fun x=>decide (x.cat=r.cat)&&decide (x.fr=r.fr)):=rfl
   rw [decide_eq_true h2,if_neg (by simp [h2])]
   show lpP 26 26 l r (.ofNat 0) (.ofNat 0)=_
   rw [loop_vatPut 26 l hl r l 0 26 0 rfl (by omega) (by omega) (by omega),← hany,Nat.zero_add]
   cases h3:l.any (isR r) with
   | true=>rfl
   | false =>
    rw [cond_false,if_neg (by simp)]
    unfold tailP
    by_cases h4:24≤l.length
    ·rw [lt_false (by simp;omega),if_pos h4];rfl
    ·rw [lt_true (by simp;omega),if_neg h4]
     simp only [Bool.not_true,cond_false]
     rw [bltN_true (by omega),cond_true]
     have hpw:l.Pairwise (fun a b=>bil.aheadF E a b=true):=by
      unfold bil.vatRight at h1
      simp only [Bool.and_eq_true] at h1
      exact (bil.chain_pw (bil.ahead_trans E)).1 h1.2.2
     rw [count_tw (bil.ahead_trans E) r hpw]
     obtain⟨t1,t2⟩:=insF_take (p:=(bil.aheadF E · r)) l
     have tl:=tw_le (p:=(bil.aheadF E · r)) l
     rw [toNat_of,t1,t2]
     have hins:l.takeWhile (bil.aheadF E · r)++r::l.dropWhile (bil.aheadF E · r)=bil.insF (bil.aheadF E) r l:=rfl
     rw [hins,bil.insF_len]
     cases l with
     | nil=>rfl
     | cons x l =>
      rw [beqN_false (by simp),cond_false,beqN_true rfl,in_nat (by omega),bltN_true (by omega),beqN_true rfl]
      rfl
  ·rw [decide_eq_false h2,if_pos h2];rfl
def c15:ClS:=addG 37 G_vatPut c14
theorem snd15:SoundS Tryz.prog c15:=add_gn (ins_rate snd13) mix ok_vatPut (.tup [.lst .rate,.any]) G_vatPut fun xs r h=>by
 unfold G_vatPut at h
 split at h<;>first | (cases h;done) | skip
 rename_i l c y m d b
 cases h
 exact⟨rfl,26,run_vatPut l ⟨⟨⟨c⟩⟩,⟨y,m,d⟩,b⟩⟩
end Go.Proofs.YtbknmeafcbhicaaGreatDoor.Ev

/- Functions as the machine for symbols has them; they are the program's. Written by program (sytold.py). -/
namespace Go.Proofs.YtbknmeafcbhicaaGreatDoor.Ev
open Go Z
set_option maxRecDepth 100000
def l1_srRight:List Path:=[q0,q8,q9,q10]
def b1_srRight:SC:=(s (r [o q11 (.bin .lss) [.t q10,.t q9] 0]) (s (c q11 .skip (.exit 0)) (s (.blk 1 (s (r [m q12 q10 0,o q13 (.ixs 4) [.t q8,.t q10] 0,o q14 (.ldn 4) [.t q13] 2,o q4 (.new [(.str []),(.int .i64 (0)),(.int .i64 (0)),(.bool false)]) [] 0,m q3 q12 15,u (.st 4) [.t q4,.t q14] 31]) (s (s (d [o q15 (.fad 0) [.t q4] 0,o q16 .ld1 [.t q15] 1,o q17 (.call 55) [.t q16] 3,o q18 (.un .not) [.t q17] 7,m q19 q18 15,g q20 .mov [.t q3] q19 false 31,g q21 (.bin .gtr) [.t q20,i 0] q19 false 63,g q22 .mov [.t q21] q19 false 127,g q23 .mov [.t q0] q22 true 255,g q24 .mov [.t q3] q22 true 255,g q25 (.bin .sub) [.t q24,i 1] q22 true 767,g q26 (.ixs 4) [.t q23,.t q25] q22 true 2047,g q27 (.fad 0) [.t q26] q22 true 4095,g q28 .ld1 [.t q27] q22 true 8191,g q29 (.fad 0) [.t q4] q22 true 255,g q30 .ld1 [.t q29] q22 true 16639,g q31 (.sbin .geq) [.t q28,.t q30] q22 true 65535,g q32 .pick [.t q22,.t q31,.c (.bool false)] q19 false 131071,o q33 .pick [.t q19,.c (.bool true),.t q32] 262143]) (c q33 (s (r [o q2 .mov [.c (.bool false)] 0]) .ret) .skip)) (s (r [o q34 (.fad 2) [.t q4] 0,o q35 .ld1 [.t q34] 1,o q36 (.bin .lss) [.t q35,i 1] 3,m q37 q36 7,g q38 (.fad 2) [.t q4] q37 false 15,g q39 .ld1 [.t q38] q37 false 31,g q40 (.bin .gtr) [.t q39,i 1099511627776] q37 false 63,o q41 .pick [.t q37,.c (.bool true),.t q40] 127,m q42 q41 255,g q43 (.fad 1) [.t q4] q42 false 511,g q44 .ld1 [.t q43] q42 false 1023,g q45 (.bin .lss) [.t q44,i 1] q42 false 2047,o q46 .pick [.t q42,.c (.bool true),.t q45] 4095,m q47 q46 8191,g q48 (.fad 1) [.t q4] q47 false 16383,g q49 .ld1 [.t q48] q47 false 32767,g q50 (.fad 2) [.t q4] q47 false 16383,g q51 .ld1 [.t q50] q47 false 81919,g q52 (.bin .add) [.t q51,i 1] q47 false 212991,g q53 (.bin .gtr) [.t q49,.t q52] q47 false 524287,o q54 .pick [.t q47,.c (.bool true),.t q53] 1048575]) (c q54 (s (r [o q2 .mov [.c (.bool false)] 0]) .ret) .skip))))) (r [o q55 (.bin .add) [.t q10,i 1] 0,m q10 q55 1]))))
def a1_srRight:SC:=(s (r [o q2 .mov [.c (.bool true)] 0]) .ret)
def s_srRight:FnS:=⟨56,(s (r [o q2 .mov [.c (.bool false)] 0]) (s (s (r [m q5 q0 0,o q6 .len [.t q5] 1,o q7 (.bin .gtr) [.t q6,i 8] 3]) (c q7 (s (r [o q2 .mov [.c (.bool false)] 0]) .ret) .skip)) (s (s (r [m q8 q0 0,o q9 .len [.t q8] 1,o q10 .mov [i 0] 0]) (.blk 0 (.loop l1_srRight 0 b1_srRight))) a1_srRight))),[.t q2]⟩
def k1_srRight {β:Type} (cl:ClS) (L:Nat) (K:AV→Mem→Option β):Ex→T AV→Mem→Option β:=kBlk 0 (kSeq (evS cl L a1_srRight) (endS s_srRight.res K))
theorem ok_srRight:FnOkS Tryz.prog 25 s_srRight:=fnOkS_of Tryz.func25 (by kernel_rfl) (by kernel_rfl) Tryz.ntmps25 (by kernel_rfl) (by kernel_rfl)
def s_srIs:FnS:=⟨8,(s (r [o q2 .box [.t q0] 0,o q3 .mov [.c (.bool false)] 0]) (s (r [o q4 (.fad 0) [.t q2] 0,o q5 .ld1 [.t q4] 1,o q6 .ld1 [.t q1] 0,o q7 (.sbin .eql) [.t q5,.t q6] 7,m q3 q7 15]) .ret)),[.t q3]⟩
theorem ok_srIs:FnOkS Tryz.prog 103 s_srIs:=fnOkS_of Tryz.func103 (by kernel_rfl) (by kernel_rfl) Tryz.ntmps103 (by kernel_rfl) (by kernel_rfl)
def l1_ixSr:List Path:=[q0,q1,q7,q8]
def b1_ixSr:SC:=(s (r [o q9 (.bin .lss) [.t q8,.t q7] 0]) (s (c q9 .skip (.exit 0)) (s (.blk 1 (s (r [m q10 q8 0,m q5 q10 1]) (s (r [m q11 q1 0,m q12 q0 0,m q13 q5 0,o q14 (.ixs 4) [.t q12,.t q13] 6,o q15 (.ldn 4) [.t q14] 14,o q16 .callv [.t q11,.t q15] 31]) (c q16 (s (r [m q17 q5 0,m q4 q17 1]) .ret) .skip)))) (r [o q18 (.bin .add) [.t q8,i 1] 0,m q8 q18 1]))))
def a1_ixSr:SC:=(s (r [o q4 .mov [i (-1)] 0]) .ret)
def s_ixSr:FnS:=⟨19,(s (r [o q4 .mov [i 0] 0]) (s (s (r [m q6 q0 0,o q7 .len [.t q6] 1,o q8 .mov [i 0] 0]) (.blk 0 (.loop l1_ixSr 1 b1_ixSr))) a1_ixSr)),[.t q4]⟩
def k1_ixSr {β:Type} (cl:ClS) (L:Nat) (K:AV→Mem→Option β):Ex→T AV→Mem→Option β:=kBlk 0 (kSeq (evS cl L a1_ixSr) (endS s_ixSr.res K))
theorem ok_ixSr:FnOkS Tryz.prog 60 s_ixSr:=fnOkS_of Tryz.func60 (by kernel_rfl) (by kernel_rfl) Tryz.ntmps60 (by kernel_rfl) (by kernel_rfl)
def s_srPlace:FnS:=⟨8,(s (r [o q3 .box [.t q1] 0,o q4 .mov [i 0] 0]) (s (r [m q5 q0 0,o q6 (.mkf 103) [.t q3] 0,o q7 (.call 60) [.t q5,.t q6] 3,m q4 q7 7]) .ret)),[.t q4]⟩
theorem ok_srPlace:FnOkS Tryz.prog 67 s_srPlace:=fnOkS_of Tryz.func67 (by kernel_rfl) (by kernel_rfl) Tryz.ntmps67 (by kernel_rfl) (by kernel_rfl)
def s_srCopied:FnS:=⟨5,(s (r [o q2 .mov [.c .nilsl] 0]) (s (r [m q3 q0 0,o q4 (.app 4 40) [.c .nilsl,.t q3] 1,m q2 q4 3]) .ret)),[.t q2]⟩
theorem ok_srCopied:FnOkS Tryz.prog 69 s_srCopied:=fnOkS_of Tryz.func69 (by kernel_rfl) (by kernel_rfl) Tryz.ntmps69 (by kernel_rfl) (by kernel_rfl)
def l1_srOpen:List Path:=[q0,q1,q2,q8]
def b1_srOpen:SC:=(s (s (r [m q33 q8 0,m q34 q0 0,o q35 .len [.t q34] 2,o q36 (.bin .lss) [.t q33,.t q35] 7,m q37 q36 15,g q38 .mov [.t q0] q37 true 31,g q39 .mov [.t q8] q37 true 31,g q40 (.ixs 4) [.t q38,.t q39] q37 true 127,g q41 (.fad 0) [.t q40] q37 true 255,g q42 .ld1 [.t q41] q37 true 511,g q43 .mov [.t q1] q37 true 31,g q44 (.sbin .lss) [.t q42,.t q43] q37 true 2047,o q45 .pick [.t q37,.t q44,.c (.bool false)] 4095]) (c q45 .skip (.exit 1))) (.blk 2 (r [m q46 q8 0,o q47 (.bin .add) [.t q46,i 1] 1,m q8 q47 3])))
def a1_srOpen:SC:=(s (r [m q48 q0 0,o q49 (.call 69) [.t q48] 1,m q50 q8 0,m q51 q1 0,m q52 q2 0,o q53 (.build [(.str []),(.int .i64 (0)),(.int .i64 (0)),(.bool false)] [(0,1),(1,1),(2,1)]) [.t q51,i 1,.t q52] 24,o q54 (.bsl [(.str []),(.int .i64 (0)),(.int .i64 (0)),(.bool false)] 1 4 [(0,4)]) [.t q53] 56,o q55 (.call 68) [.t q49,.t q50,.t q54] 127,m q6 q55 255,o q7 .mov [i 0] 511]) .ret)
def s_srOpen:FnS:=⟨56,(s (r [o q6 .mov [.c .nilsl] 0,o q7 .mov [i 0] 1]) (s (.blk 0 (s (r [m q10 q0 0,o q11 (.call 25) [.t q10] 1,o q12 (.un .not) [.t q11] 3,m q9 q12 7]) (c q9 (s (r [o q6 .mov [.c .nilsl] 0,o q7 .mov [i 1] 1]) .ret) (s (r [m q14 q1 0,o q15 (.call 55) [.t q14] 1,o q16 (.un .not) [.t q15] 3,m q13 q16 7]) (c q13 (s (r [o q6 .mov [.c .nilsl] 0,o q7 .mov [i 8] 1]) .ret) (s (r [m q18 q2 0,o q19 (.bin .lss) [.t q18,i 1] 1,m q20 q19 3,g q21 .mov [.t q2] q20 false 7,g q22 (.bin .gtr) [.t q21,i 1099511627776] q20 false 15,o q23 .pick [.t q20,.c (.bool true),.t q22] 31,m q17 q23 63]) (c q17 (s (r [o q6 .mov [.c .nilsl] 0,o q7 .mov [i 1] 1]) .ret) (s (r [m q25 q0 0,m q26 q1 0,o q27 (.call 67) [.t q25,.t q26] 3,o q28 (.bin .geq) [.t q27,i 0] 7,m q24 q28 15]) (c q24 (s (r [o q6 .mov [.c .nilsl] 0,o q7 .mov [i 12] 1]) .ret) (s (r [m q30 q0 0,o q31 .len [.t q30] 1,o q32 (.bin .geq) [.t q31,i 8] 3,m q29 q32 7]) (c q29 (s (r [o q6 .mov [.c .nilsl] 0,o q7 .mov [i 14] 1]) .ret) .skip))))))))))) (s (r [o q8 .mov [i 0] 0]) (s (.blk 1 (.loop l1_srOpen 0 b1_srOpen)) a1_srOpen)))),[.t q6,.t q7]⟩
def k1_srOpen {β:Type} (cl:ClS) (L:Nat) (K:AV→Mem→Option β):Ex→T AV→Mem→Option β:=kBlk 1 (kSeq (evS cl L a1_srOpen) (endS s_srOpen.res K))
theorem ok_srOpen:FnOkS Tryz.prog 34 s_srOpen:=fnOkS_of Tryz.func34 (by kernel_rfl) (by kernel_rfl) Tryz.ntmps34 (by kernel_rfl) (by kernel_rfl)
def s_srFree:FnS:=⟨21,(s (r [o q4 .mov [i 0] 0,o q5 .mov [i 0] 1]) (s (s (r [m q7 q0 0,o q8 (.call 25) [.t q7] 1,o q9 (.un .not) [.t q8] 3]) (c q9 (s (r [o q4 .mov [i 0] 0,o q5 .mov [i 1] 1]) .ret) .skip)) (s (r [m q10 q0 0,m q11 q1 0,o q12 (.call 67) [.t q10,.t q11] 3,m q6 q12 7]) (s (s (r [m q13 q6 0,o q14 (.bin .lss) [.t q13,i 0] 1]) (c q14 (s (r [o q4 .mov [i 0] 0,o q5 .mov [i 11] 1]) .ret) .skip)) (s (s (r [m q15 q0 0,m q16 q6 0,o q17 (.ixs 4) [.t q15,.t q16] 3,o q18 (.fad 3) [.t q17] 7,o q19 .ld1 [.t q18] 15]) (c q19 (s (r [o q4 .mov [i 0] 0,o q5 .mov [i 13] 1]) .ret) .skip)) (s (r [m q20 q6 0,m q4 q20 1,o q5 .mov [i 0] 3]) .ret)))))),[.t q4,.t q5]⟩
theorem ok_srFree:FnOkS Tryz.prog 70 s_srFree:=fnOkS_of Tryz.func70 (by kernel_rfl) (by kernel_rfl) Tryz.ntmps70 (by kernel_rfl) (by kernel_rfl)
def s_srShut:FnS:=⟨25,(s (r [o q4 .mov [.c .nilsl] 0,o q5 .mov [i 0] 1]) (s (r [m q10 q0 0,m q11 q1 0,o q12 (.call 70) [.t q10,.t q11] 3,m q9 q12 7,o q13 (.ext 0) [.t q9] 15,o q14 (.ext 1) [.t q9] 15,m q6 q13 31,m q7 q14 127]) (s (s (r [m q15 q7 0,o q16 (.bin .neq) [.t q15,i 0] 1]) (c q16 (s (r [m q17 q7 0,o q4 .mov [.c .nilsl] 0,m q5 q17 3]) .ret) .skip)) (s (r [m q18 q0 0,o q19 (.call 69) [.t q18] 1,m q8 q19 3]) (s (r [m q20 q8 0,m q21 q6 0,o q22 (.ixs 4) [.t q20,.t q21] 3,o q23 (.fad 3) [.t q22] 7,u (.st 1) [.t q23,.c (.bool true)] 15]) (s (r [m q24 q8 0,m q4 q24 1,o q5 .mov [i 0] 3]) .ret)))))),[.t q4,.t q5]⟩
theorem ok_srShut:FnOkS Tryz.prog 36 s_srShut:=fnOkS_of Tryz.func36 (by kernel_rfl) (by kernel_rfl) Tryz.ntmps36 (by kernel_rfl) (by kernel_rfl)
def s_srTake:FnS:=⟨44,(s (r [o q4 .mov [.c .nilsl] 0,o q5 .mov [i 0] 1,o q6 .mov [i 0] 3]) (s (r [m q12 q0 0,m q13 q1 0,o q14 (.call 70) [.t q12,.t q13] 3,m q11 q14 7,o q15 (.ext 0) [.t q11] 15,o q16 (.ext 1) [.t q11] 15,m q7 q15 31,m q8 q16 127]) (s (s (r [m q17 q8 0,o q18 (.bin .neq) [.t q17,i 0] 1]) (c q18 (s (r [m q19 q8 0,o q4 .mov [.c .nilsl] 0,o q5 .mov [i 0] 2,m q6 q19 7]) .ret) .skip)) (s (r [m q20 q0 0,m q21 q7 0,o q22 (.ixs 4) [.t q20,.t q21] 3,o q23 (.fad 1) [.t q22] 7,o q24 .ld1 [.t q23] 15,m q9 q24 31]) (s (s (r [m q25 q9 0,m q26 q0 0,m q27 q7 0,o q28 (.ixs 4) [.t q26,.t q27] 6,o q29 (.fad 2) [.t q28] 14,o q30 .ld1 [.t q29] 30,o q31 (.bin .gtr) [.t q25,.t q30] 63]) (c q31 (s (r [o q4 .mov [.c .nilsl] 0,o q5 .mov [i 0] 1,o q6 .mov [i 14] 3]) .ret) .skip)) (s (r [m q32 q0 0,o q33 (.call 69) [.t q32] 1,m q10 q33 3]) (s (r [m q34 q10 0,m q35 q7 0,o q36 (.ixs 4) [.t q34,.t q35] 3,o q37 (.fad 1) [.t q36] 7,o q38 .ld1 [.t q37] 15,o q39 (.bin .add) [.t q38,i 1] 31,o q40 (.ixs 4) [.t q34,.t q35] 63,o q41 (.fad 1) [.t q40] 127,u (.st 1) [.t q41,.t q39] 255]) (s (r [m q42 q10 0,m q43 q9 0,m q4 q42 1,m q5 q43 7,o q6 .mov [i 0] 15]) .ret)))))))),[.t q4,.t q5,.t q6]⟩
theorem ok_srTake:FnOkS Tryz.prog 111 s_srTake:=fnOkS_of Tryz.func111 (by kernel_rfl) (by kernel_rfl) Tryz.ntmps111 (by kernel_rfl) (by kernel_rfl)
def s_srFind:FnS:=⟨17,(s (r [o q4 (.new [(.str []),(.int .i64 (0)),(.int .i64 (0)),(.bool false)]) [] 0,o q5 .mov [.c (.bool false)] 0]) (s (r [m q7 q0 0,m q8 q1 0,o q9 (.call 67) [.t q7,.t q8] 3,m q6 q9 7]) (s (s (r [m q10 q6 0,o q11 (.bin .lss) [.t q10,i 0] 1]) (c q11 (s (r [o q12 (.build [(.str []),(.int .i64 (0)),(.int .i64 (0)),(.bool false)] []) [] 0,u (.st 4) [.t q4,.t q12] 1,o q5 .mov [.c (.bool false)] 3]) .ret) .skip)) (s (r [m q13 q0 0,m q14 q6 0,o q15 (.ixs 4) [.t q13,.t q14] 3,o q16 (.ldn 4) [.t q15] 7,u (.st 4) [.t q4,.t q16] 15,o q5 .mov [.c (.bool true)] 31]) .ret)))),[(.cn q4 4),.t q5]⟩
theorem ok_srFind:FnOkS Tryz.prog 77 s_srFind:=fnOkS_of Tryz.func77 (by kernel_rfl) (by kernel_rfl) Tryz.ntmps77 (by kernel_rfl) (by kernel_rfl)
end Go.Proofs.YtbknmeafcbhicaaGreatDoor.Ev

/- Series of numbers. -/
namespace Go.Proofs.YtbknmeafcbhicaaGreatDoor.Ev
open Go
def lpSR (L L':Nat) (l:List bil.Sr) (n:Int):Option AV:=loopS (evS c15 L b1_srRight) l1_srRight 0 L' (stL [(q0,.fl .series l),(q8,.fl .series l),(q9,i64 (.ofNat l.length)),(q10,i64 n)]) m0 (k1_srRight c15 L fun r m=>frzK m .any r some)
theorem round_srRight (L L' n:Nat) (l:List bil.Sr):lpSR L (Nat.succ L') l (.ofNat n) =
 bif ltI (.ofNat n) (.ofNat l.length) then bif inI (.ofNat n) l.length then bif E.name (nth (t:=.series) l n).name then
  bif ltI 0 (.ofNat n) then bif inI (wrapK .i64 (.ofNat n - 1)) l.length then bif !bytesLt (nth (t:=.series) l (wrapK .i64 (.ofNat n - 1)).toNat).name.data.toList (nth (t:=.series) l n).name.data.toList then some (.bool false) else
   bif ltI (nth (t:=.series) l n).limit 1 then some (.bool false) else bif ltI 1099511627776 (nth (t:=.series) l n).limit then some (.bool false) else bif ltI (nth (t:=.series) l n).next 1 then some (.bool false) else
   bif ltI (wrapK .i64 ((nth (t:=.series) l n).limit+1)) (nth (t:=.series) l n).next then some (.bool false) else lpSR L L' l (wrapK .i64 (.ofNat n+1)) else none
  else
   bif ltI (nth (t:=.series) l n).limit 1 then some (.bool false) else bif ltI 1099511627776 (nth (t:=.series) l n).limit then some (.bool false) else bif ltI (nth (t:=.series) l n).next 1 then some (.bool false) else
   bif ltI (wrapK .i64 ((nth (t:=.series) l n).limit+1)) (nth (t:=.series) l n).next then some (.bool false) else lpSR L L' l (wrapK .i64 (.ofNat n+1))
  else some (.bool false) else none else some (.bool true):=by kernel_rfl
theorem srNum (x:bil.Sr) (q:Option AV):(bif ltI x.limit 1 then some (.bool false) else bif ltI 1099511627776 x.limit then some (.bool false) else bif ltI x.next 1 then some (.bool false) else bif ltI (wrapK .i64 (x.limit+1)) x.next then some (.bool false) else q) =
  bif decide (1≤x.limit)&&(decide (x.limit≤1099511627776)&&(decide (1≤x.next)&&decide (x.next≤x.limit+1))) then q else some (.bool false):=by
 rw [ltI_eq,ltI_eq,ltI_eq]
 by_cases h1:x.limit < 1
 ·rw [decide_eq_true h1,decide_eq_false (by omega:¬ 1≤x.limit)];rfl
 ·rw [decide_eq_false h1,decide_eq_true (by omega:1≤x.limit)]
  by_cases h2:1099511627776 < x.limit
  ·rw [decide_eq_true h2,decide_eq_false (by omega:¬ x.limit≤1099511627776)];rfl
  ·rw [decide_eq_false h2,decide_eq_true (by omega:x.limit≤1099511627776),wrap64 ⟨by omega,by omega⟩]
   by_cases h3:x.next < 1
   ·rw [decide_eq_true h3,decide_eq_false (by omega:¬ 1≤x.next)];rfl
   ·rw [decide_eq_false h3,decide_eq_true (by omega:1≤x.next)]
    by_cases h4:x.limit+1 < x.next
    ·rw [lt_true h4,decide_eq_false (by omega:¬ x.next≤x.limit+1)];rfl
    ·rw [lt_false (by omega),decide_eq_true (by omega:x.next≤x.limit+1)];rfl
theorem loop_srRight (L:Nat) (l:List bil.Sr) (hl:l.length≤8):∀ (t:List bil.Sr) (n f:Nat),l.drop n=t→n≤l.length→t.length < f→lpSR L f l (.ofNat n)=some (.bool (okFrom (bil.srOk E) bil.srLt (prevL (t:=.series) l n) t))
 | t,n,0,_,_,hf=>by omega
 | [],n,f+1,hd,hn,hf=>by
  rw [round_srRight,drop_nil hd hn,le_nat (Nat.le_refl _),cond_false]
  unfold okFrom
  rfl
 | x::t,n,f+1,hd,hn,hf=>by
  obtain⟨h1,h2,h3⟩:=drop_cons (t:=.series) hd
  have ih:=loop_srRight L l hl t (n+1) f h3 (by omega) (by simp at hf;omega)
  rw [prevL_succ h2] at ih
  rw [round_srRight,lt_nat h1,cond_true,in_nat h1,cond_true,h2,wrap_succ (by omega),ih,srNum]
  have e:bil.srOk E x=(E.name x.name&&(decide (1≤x.limit)&&(decide (x.limit≤1099511627776)&&(decide (1≤x.next)&&decide (x.next≤x.limit+1))))):=rfl
  generalize (decide (1≤x.limit)&&(decide (x.limit≤1099511627776)&&(decide (1≤x.next)&&decide (x.next≤x.limit+1))))=q at *
  cases n with
  | zero =>
   rw [okFrom_zero (t:=.series),e]
   show (bif E.name x.name then _ else _)=_
   cases E.name x.name<;>cases q<;>rfl
  | succ n =>
   rw [lt_zero_succ,cond_true,wrap_pred (by omega),in_nat (by omega),cond_true,okFrom_succ (t:=.series),e,toNat_of,blt_bytes]
   have e2:bil.srLt (nth (t:=.series) l n) x=bil.less (nth (t:=.series) l n).name x.name:=rfl
   rw [e2]
   cases E.name x.name<;>cases q<;>cases bil.less (nth (t:=.series) l n).name x.name<;>rfl
theorem run_srRight (l:List bil.Sr):callF c15 10 s_srRight .any [.fl .series l] some=some (.bool (bil.srRight E l)):=by
 have e:callF c15 10 s_srRight .any [.fl .series l] some=bif ltI 8 (.ofNat l.length) then some (.bool false) else lpSR 10 10 l 0:=by kernel_rfl
 rw [e]
 unfold bil.srRight
 by_cases h:8 < l.length
 ·rw [lt_true (by simp;omega),cond_true,decide_eq_false (by omega)];rfl
 ·rw [lt_false (by simp;omega),cond_false,decide_eq_true (by omega),Bool.true_and]
  have:=loop_srRight 10 l (by omega) l 0 10 rfl (by omega) (by omega)
  rw [show (0:Int)=.ofNat 0 from rfl,this]
  unfold prevL
  rw [okFrom_none]
def G_srRight:List AV→Option (Bool × AV)
 | [.fl .series l]=>some (true,.bool (bil.srRight E l))
 | _=>none
def c16:ClS:=addG 25 G_srRight c15
theorem snd16:SoundS Tryz.prog c16:=add_gn snd15 mix ok_srRight .any G_srRight fun xs r h=>by
 unfold G_srRight at h
 split at h<;>first | (cases h;done) | skip
 cases h
 exact⟨rfl,10,run_srRight _⟩
def hp1 (B:Blk):T Blk:=.node .nil (some B) .nil
def cSr (s:bil.Sr):List AV:=[tx s.name,i64 s.next,i64 s.limit,.bool s.shut]
def H_srIs:List AV→Mem→Option (Bool × AV × T Blk × Nat)
 | [.agg [.str c,.int .i64 n,.int .i64 l,.bool s],.ptr 0 0],⟨.node .nil (some ⟨.raw [.str q],1,false⟩) .nil,1,0,0⟩=>some (true,.bool (bytesEq c q),.node .nil (some ⟨.raw [.str q],1,false⟩) .nil,1)
 | _,_=>none
def c17:ClS:=addN 103 H_srIs c16
theorem snd17:SoundS Tryz.prog c17:=add_mem snd16 mix ok_srIs H_srIs fun xs m r h1 n1 h=>by
 unfold H_srIs at h
 split at h<;>first | (cases h;done) | skip
 rename_i c n l s q
 cases h
 refine⟨rfl,0,?_⟩
 have e:callS c16 0 s_srIs [.agg [.str c,i64 n,i64 l,.bool s],.ptr 0 0] ⟨.node .nil (some ⟨.raw [.str q],1,false⟩) .nil,1,0,0⟩ (fun r m=>trimK 1 r m fun r m=>some (r,m.h,m.nx)) =
  bif bytesEq c q then some (.bool true,.node .nil (some ⟨.raw [.str q],1,false⟩) .nil,1) else some (.bool false,.node .nil (some ⟨.raw [.str q],1,false⟩) .nil,1):=by kernel_rfl
 refine e.trans ?_
 cases bytesEq c q<;>rfl
def lpSI (L L':Nat) (l:List bil.Sr) (c:List UInt8) (n:Int):Option (AV × T Blk × Nat):=loopS (evS c17 L b1_ixSr) l1_ixSr 1 L' (stL [(q0,.fl .series l),(q1,.fn 103 [.ptr 0 0]),(q7,i64 (.ofNat l.length)),(q8,i64 n)]) ⟨hp1 ⟨.raw [.str c],1,false⟩,1,1,1⟩ (k1_ixSr c17 L fun r m=>trimK 1 r m fun r m=>some (r,m.h,m.nx))
theorem round_ixSr (L L' n:Nat) (l:List bil.Sr) (c:List UInt8):lpSI L (Nat.succ L') l c (.ofNat n) =
 bif ltI (.ofNat n) (.ofNat l.length) then bif inI (.ofNat n) l.length then bif bytesEq (nth (t:=.series) l n).name.data.toList c then some (i64 (.ofNat n),hp1 ⟨.raw [.str c],1,false⟩,1) else lpSI L L' l c (wrapK .i64 (.ofNat n+1)) else none
 else some (i64 (-1),hp1 ⟨.raw [.str c],1,false⟩,1):=by kernel_rfl
def srNm (c:ByteArray) (x:bil.Sr):Bool:=decide (x.name=c)
theorem loop_ixSr (L:Nat) (l:List bil.Sr) (hl:l.length < 1000000) (c:List UInt8):∀ (t:List bil.Sr) (n f:Nat),l.drop n=t→n≤l.length→t.length < f →
  lpSI L f l c (.ofNat n)=some (i64 (ixFrom (srNm ⟨⟨c⟩⟩) n t),hp1 ⟨.raw [.str c],1,false⟩,1)
 | t,n,0,_,_,hf=>by omega
 | [],n,f+1,hd,hn,hf=>by
  rw [round_ixSr,drop_nil hd hn,le_nat (Nat.le_refl _),cond_false]
  rfl
 | x::t,n,f+1,hd,hn,hf=>by
  obtain⟨h1,h2,h3⟩:=drop_cons (t:=.series) hd
  have ih:=loop_ixSr L l hl c t (n+1) f h3 (by omega) (by simp at hf;omega)
  have hb:=beq_bytes x.name ⟨⟨c⟩⟩
  simp only at hb
  rw [round_ixSr,lt_nat h1,cond_true,in_nat h1,cond_true,h2,wrap_succ (by omega),ih,hb,ixFrom]
  show _=some (i64 (bif decide (x.name=_) then _ else _),_,_)
  cases decide (x.name=⟨⟨c⟩⟩)<;>rfl
def H_ixSr:List AV→Mem→Option (Bool × AV × T Blk × Nat)
 | [.fl .series l,.fn 103 [.ptr 0 0]],⟨.node .nil (some ⟨.raw [.str c],1,false⟩) .nil,1,0,0⟩=>some (Nat.blt l.length 1000000,i64 (ixO (bil.srAt l ⟨⟨c⟩⟩)),.node .nil (some ⟨.raw [.str c],1,false⟩) .nil,1)
 | _,_=>none
def c18:ClS:=addN 60 H_ixSr c17
theorem snd18:SoundS Tryz.prog c18:=add_mem snd17 mix ok_ixSr H_ixSr fun xs m r h1 n1 h=>by
 unfold H_ixSr at h
 split at h<;>first | (cases h;done) | skip
 rename_i l c
 simp only [Option.some.injEq,Prod.mk.injEq] at h
 obtain⟨hg,rfl,rfl,rfl⟩:=h
 refine⟨rfl,l.length+1,?_⟩
 have e:callS c17 (l.length+1) s_ixSr [.fl .series l,.fn 103 [.ptr 0 0]] ⟨.node .nil (some ⟨.raw [.str c],1,false⟩) .nil,1,0,0⟩ (fun r m=>trimK 1 r m fun r m=>some (r,m.h,m.nx))=lpSI (l.length+1) (l.length+1) l c (.ofNat 0):=by kernel_rfl
 refine e.trans ?_
 rw [loop_ixSr _ l (blt_iff.1 hg) c l 0 _ rfl (by omega) (by omega),ixFrom_zero]
 rfl
def G_srPlace:List AV→Option (Bool × AV)
 | [.fl .series l,.str c]=>some (Nat.blt l.length 1000000,i64 (ixO (bil.srAt l ⟨⟨c⟩⟩)))
 | _=>none
def c19:ClS:=addG 67 G_srPlace c18
theorem snd19:SoundS Tryz.prog c19:=add_gn snd18 mix ok_srPlace .any G_srPlace fun xs r h=>by
 unfold G_srPlace at h
 split at h<;>first | (cases h;done) | skip
 rename_i l c
 obtain⟨hg,rfl⟩:=Prod.mk.inj (Option.some.inj h)
 refine⟨rfl,0,?_⟩
 have e:callF c18 0 s_srPlace .any [.fl .series l,.str c] some=bif Nat.blt l.length 1000000 then some (i64 (ixO (bil.srAt l ⟨⟨c⟩⟩))) else none:=by kernel_rfl
 rw [e,hg];rfl
def H_srCopied:List AV→Mem→Option (Bool × AV × T Blk × Nat)
 | [.fl .series []],⟨.nil,0,0,0⟩=>some (true,.nilsl,.nil,0)
 | [.fl .series (x::l)],⟨.nil,0,0,0⟩=>some (Nat.blt (x::l).length 1048576,.so 0 4 0 (x::l).length,.node .nil (some ⟨.ls .series (x::l),4,true⟩) .nil,1)
 | _,_=>none
def c20:ClS:=addN 69 H_srCopied c19
theorem snd20:SoundS Tryz.prog c20:=add_mem snd19 mix ok_srCopied H_srCopied fun xs m r h1 n1 h=>by
 unfold H_srCopied at h
 split at h<;>first | (cases h;done) | skip
 ·cases h
  exact⟨rfl,0,by kernel_rfl⟩
 ·rename_i x l
  simp only [Option.some.injEq,Prod.mk.injEq] at h
  obtain⟨hg,rfl,rfl,rfl⟩:=h
  refine⟨rfl,0,?_⟩
  have e:callS c19 0 s_srCopied [.fl .series (x::l)] ⟨.nil,0,0,0⟩ (fun r m=>trimK 0 r m fun r m=>some (r,m.h,m.nx))=bif Nat.blt (x::l).length 1048576 then some (.so 0 4 0 (x::l).length,.node .nil (some ⟨.ls .series (x::l),4,true⟩) .nil,1) else none:=by kernel_rfl
  rw [e,hg];rfl
theorem sr_len {l:List bil.Sr} (h:bil.srRight E l=true):l.length≤8:=by
 unfold bil.srRight at h
 rw [Bool.and_eq_true] at h
 exact of_decide_eq_true h.1
end Go.Proofs.YtbknmeafcbhicaaGreatDoor.Ev

/- Series of numbers: a series comes, is shut, issues a number, is found. -/
namespace Go.Proofs.YtbknmeafcbhicaaGreatDoor.Ev
open Go
def c21:ClS:=addI 68 .series c20
def tailSO (l:List bil.Sr) (s:bil.Sr) (n:Nat):Option AV :=
 bif Nat.blt l.length 1048576 then bif Nat.beq l.length l.length&&(inI (.ofNat n) (l.length+1)&&Nat.blt l.length 1000000) then bif Nat.beq (l.length+1) (l.take n++s::l.drop n).length then some (.tup [.fl .series (l.take n++s::l.drop n),i64 0]) else none else none else none
def lpSO (L L':Nat) (l:List bil.Sr) (c:List UInt8) (lim n:Int):Option AV:=loopS (evS c21 L b1_srOpen) l1_srOpen 0 L' (stL [(q0,.fl .series l),(q1,.str c),(q2,i64 lim),(q8,i64 n)]) m0 (k1_srOpen c21 L fun r m=>frzK m (.tup [.lst .series,.any]) r some)
theorem round_srOpen (L L' n:Nat) (x:bil.Sr) (l:List bil.Sr) (c:List UInt8) (lim:Int):lpSO L (Nat.succ L') (x::l) c lim (.ofNat n) =
 bif ltI (.ofNat n) (.ofNat (x::l).length) then bif inI (.ofNat n) (x::l).length then bif bytesLt (nth (t:=.series) (x::l) n).name.data.toList c then lpSO L L' (x::l) c lim (wrapK .i64 (.ofNat n+1)) else tailSO (x::l) ⟨⟨⟨c⟩⟩,1,lim,false⟩ n else none
 else tailSO (x::l) ⟨⟨⟨c⟩⟩,1,lim,false⟩ n:=by kernel_rfl
theorem loop_srOpen (L:Nat) (x0:bil.Sr) (l0 l:List bil.Sr) (hl0:l=x0::l0) (hl:l.length≤8) (c:List UInt8) (lim:Int):∀ (t:List bil.Sr) (n f:Nat),l.drop n=t→n≤l.length→t.length < f →
  lpSO L f l c lim (.ofNat n)=tailSO l ⟨⟨⟨c⟩⟩,1,lim,false⟩ (n+(t.takeWhile (bil.srLt · ⟨⟨⟨c⟩⟩,1,lim,false⟩)).length)
 | t,n,0,_,_,hf=>by omega
 | [],n,f+1,hd,hn,hf=>by
  subst hl0
  rw [round_srOpen,drop_nil hd hn,le_nat (Nat.le_refl _),cond_false]
  rfl
 | x::t,n,f+1,hd,hn,hf=>by
  obtain⟨h1,h2,h3⟩:=drop_cons (t:=.series) hd
  have ih:=loop_srOpen L x0 l0 l hl0 hl c lim t (n+1) f h3 (by omega) (by simp at hf;omega)
  subst hl0
  have hb:=blt_bytes x.name ⟨⟨c⟩⟩
  simp only at hb
  rw [round_srOpen,lt_nat h1,cond_true,in_nat h1,cond_true,h2,wrap_succ (by omega),ih,hb,List.takeWhile_cons]
  have e:bil.srLt x ⟨⟨⟨c⟩⟩,1,lim,false⟩=bil.less x.name ⟨⟨c⟩⟩:=rfl
  rw [e]
  cases bil.less x.name ⟨⟨c⟩⟩ with
  | true =>
   rw [cond_true,if_pos rfl,List.length_cons]
   exact congrArg _ (by omega)
  | false=>rfl
def openR (l:List bil.Sr) (c:ByteArray) (lim:Int):List bil.Sr × Int:=bil.srOpen E l c lim
theorem run_srOpen (l:List bil.Sr) (c:List UInt8) (lim:Int):callF c21 10 s_srOpen (.tup [.lst .series,.any]) [.fl .series l,.str c,i64 lim] some=some (.tup [.fl .series (openR l ⟨⟨c⟩⟩ lim).1,i64 (openR l ⟨⟨c⟩⟩ lim).2]):=by
 have hix:∀ l:List bil.Sr,ltI (ixO (bil.srAt l ⟨⟨c⟩⟩)) 0=!l.any (fun x=>decide (x.name=⟨⟨c⟩⟩)):=fun l=>by rw [ixO_lt];exact ix_any _ _
 cases l with
 | nil =>
  have e:callF c21 10 s_srOpen (.tup [.lst .series,.any]) [.fl .series [],.str c,i64 lim] some=bif E.name ⟨⟨c⟩⟩ then bif ltI lim 1 then some (.tup [.fl .series [],i64 1]) else bif ltI 1099511627776 lim then some (.tup [.fl .series [],i64 1]) else
   bif !ltI (ixO (bil.srAt [] ⟨⟨c⟩⟩)) 0 then some (.tup [.fl .series [],i64 12]) else some (.tup [.fl .series [⟨⟨⟨c⟩⟩,1,lim,false⟩],i64 0]) else some (.tup [.fl .series [],i64 8]):=by kernel_rfl
  rw [e,hix,ltI_eq,ltI_eq]
  unfold openR bil.srOpen
  rw [if_neg (by simp [bil.srRight,bil.chain])]
  cases E.name ⟨⟨c⟩⟩ with
  | false=>rfl
  | true =>
   rw [cond_true,if_neg (by simp)]
   by_cases h1:lim < 1
   ·rw [if_pos (.inl h1),decide_eq_true h1];rfl
   ·by_cases h2:1099511627776 < lim
    ·rw [if_pos (.inr h2),decide_eq_true h2,decide_eq_false h1];rfl
    ·rw [if_neg (by omega),decide_eq_false h1,decide_eq_false h2];rfl
 | cons x l =>
  have e:∀ L:Nat,callF c21 L s_srOpen (.tup [.lst .series,.any]) [.fl .series (x::l),.str c,i64 lim] some=bif bil.srRight E (x::l) then bif E.name ⟨⟨c⟩⟩ then bif ltI lim 1 then some (.tup [.fl .series [],i64 1]) else bif ltI 1099511627776 lim then some (.tup [.fl .series [],i64 1]) else
   bif Nat.blt (x::l).length 1000000 then bif !ltI (ixO (bil.srAt (x::l) ⟨⟨c⟩⟩)) 0 then some (.tup [.fl .series [],i64 12]) else bif !ltI (.ofNat (x::l).length) 8 then some (.tup [.fl .series [],i64 14]) else lpSO L L (x::l) c lim (.ofNat 0) else none
   else some (.tup [.fl .series [],i64 8]) else some (.tup [.fl .series [],i64 1]):=fun L=>by kernel_rfl
  rw [e,hix,ltI_eq,ltI_eq]
  unfold openR bil.srOpen
  cases h0:bil.srRight E (x::l) with
  | false=>rfl
  | true =>
   have hl:=sr_len h0
   rw [cond_true,if_neg (by simp),bltN_true (by omega)]
   cases E.name ⟨⟨c⟩⟩ with
   | false=>rfl
   | true =>
    rw [cond_true,if_neg (by simp)]
    by_cases h1:lim < 1
    ·rw [if_pos (.inl h1),decide_eq_true h1];rfl
    ·by_cases h2:1099511627776 < lim
     ·rw [if_pos (.inr h2),decide_eq_true h2,decide_eq_false h1];rfl
     ·rw [if_neg (by omega),decide_eq_false h1,decide_eq_false h2,cond_false,cond_false,cond_true,Bool.not_not]
      cases h3:(x::l).any (fun x=>decide (x.name=⟨⟨c⟩⟩)) with
      | true=>rfl
      | false =>
       rw [cond_false,if_neg (by simp)]
       by_cases h4:8≤(x::l).length
       ·rw [if_pos h4,lt_false (by simp only [Int.ofNat_eq_natCast];omega)];rfl
       ·rw [if_neg h4,lt_true (by simp only [Int.ofNat_eq_natCast];omega),Bool.not_true,cond_false,loop_srOpen 10 x l (x::l) rfl hl c lim (x::l) 0 10 rfl (by omega) (by omega),Nat.zero_add]
        unfold tailSO
        obtain⟨t1,t2⟩:=insF_take (p:=(bil.srLt · ⟨⟨⟨c⟩⟩,1,lim,false⟩)) (x::l)
        have tl:=tw_le (p:=(bil.srLt · ⟨⟨⟨c⟩⟩,1,lim,false⟩)) (x::l)
        rw [t1,t2]
        have hins:(x::l).takeWhile (bil.srLt · ⟨⟨⟨c⟩⟩,1,lim,false⟩)++⟨⟨⟨c⟩⟩,1,lim,false⟩::(x::l).dropWhile (bil.srLt · ⟨⟨⟨c⟩⟩,1,lim,false⟩)=bil.insF bil.srLt ⟨⟨⟨c⟩⟩,1,lim,false⟩ (x::l):=rfl
        rw [hins,bil.insF_len,bltN_true (by omega),beqN_true rfl,in_nat (by omega),bltN_true (by omega),beqN_true rfl]
        rfl
def G_srOpen:List AV→Option (Bool × AV)
 | [.fl .series l,.str c,.int .i64 lim]=>some (true,.tup [.fl .series (openR l ⟨⟨c⟩⟩ lim).1,i64 (openR l ⟨⟨c⟩⟩ lim).2])
 | _=>none
def c22:ClS:=addG 34 G_srOpen c21
theorem snd22:SoundS Tryz.prog c22:=add_gn (ins_series snd20) mix ok_srOpen (.tup [.lst .series,.any]) G_srOpen fun xs r h=>by
 unfold G_srOpen at h
 split at h<;>first | (cases h;done) | skip
 cases h
 exact⟨rfl,10,run_srOpen _ _ _⟩
def freeR (l:List bil.Sr) (c:ByteArray):Int × Int:=(.ofNat (bil.srFree E l c).1,(bil.srFree E l c).2)
theorem run_srFree (l:List bil.Sr) (c:List UInt8):callF c22 10 s_srFree (.tup [.any,.any]) [.fl .series l,.str c] some=some (.tup [i64 (freeR l ⟨⟨c⟩⟩).1,i64 (freeR l ⟨⟨c⟩⟩).2]):=by
 have e:callF c22 10 s_srFree (.tup [.any,.any]) [.fl .series l,.str c] some=bif bil.srRight E l then bif Nat.blt l.length 1000000 then bif ltI (ixO (bil.srAt l ⟨⟨c⟩⟩)) 0 then some (.tup [i64 0,i64 11]) else
  bif inI (ixO (bil.srAt l ⟨⟨c⟩⟩)) l.length then bif (nth (t:=.series) l (ixO (bil.srAt l ⟨⟨c⟩⟩)).toNat).shut then some (.tup [i64 0,i64 13]) else some (.tup [i64 (ixO (bil.srAt l ⟨⟨c⟩⟩)),i64 0]) else none else none else some (.tup [i64 0,i64 1]):=by kernel_rfl
 rw [e]
 unfold freeR bil.srFree
 cases h0:bil.srRight E l with
 | false=>rfl
 | true =>
  have hl:=sr_len h0
  rw [cond_true,if_neg (by simp),bltN_true (by omega),cond_true,ixO_lt]
  cases h1:bil.srAt l ⟨⟨c⟩⟩ with
  | none=>rfl
  | some k =>
   obtain⟨h2,h3,_⟩:=findIdx_some (t:=.series) h1
   show (bif inI (.ofNat k) l.length then _ else _)=_
   rw [in_nat h2]
   simp only [h3]
   show (bif (nth (t:=.series) l k).shut then _ else _)=_
   cases (nth (t:=.series) l k).shut<;>rfl
def G_srFree:List AV→Option (Bool × AV)
 | [.fl .series l,.str c]=>some (true,.tup [i64 (freeR l ⟨⟨c⟩⟩).1,i64 (freeR l ⟨⟨c⟩⟩).2])
 | _=>none
def c23:ClS:=addG 70 G_srFree c22
theorem snd23:SoundS Tryz.prog c23:=add_gn snd22 mix ok_srFree (.tup [.any,.any]) G_srFree fun xs r h=>by
 unfold G_srFree at h
 split at h<;>first | (cases h;done) | skip
 cases h
 exact⟨rfl,10,run_srFree _ _⟩
theorem free_cases (l:List bil.Sr) (c:ByteArray):(freeR l c).2≠0∨∃ k s,bil.srFree E l c=(k,0)∧freeR l c=(.ofNat k,0)∧k < l.length∧l[k]?=some s∧nth (t:=.series) l k=s∧l.length≤8:=by
 unfold freeR
 unfold bil.srFree
 cases h0:bil.srRight E l with
 | false=>left;simp
 | true =>
  have hl:=sr_len h0
  rw [if_neg (by simp)]
  cases h1:bil.srAt l c with
  | none=>left;simp
  | some k =>
   obtain⟨h2,h3,_⟩:=findIdx_some (t:=.series) h1
   simp only [h3]
   cases h4:(nth (t:=.series) l k).shut with
   | true=>left;simp
   | false=>right;exact⟨k,_,rfl,rfl,h2,h3,rfl,hl⟩
def shutR (l:List bil.Sr) (c:ByteArray):List bil.Sr × Int:=bil.srShutF E l c
theorem run_srShut (l:List bil.Sr) (c:List UInt8):callF c23 10 s_srShut (.tup [.lst .series,.any]) [.fl .series l,.str c] some=some (.tup [.fl .series (shutR l ⟨⟨c⟩⟩).1,i64 (shutR l ⟨⟨c⟩⟩).2]):=by
 have hno:(freeR l ⟨⟨c⟩⟩).2≠0→shutR l ⟨⟨c⟩⟩=([],(freeR l ⟨⟨c⟩⟩).2):=fun h=>by
  unfold shutR bil.srShutF
  unfold freeR at h ⊢
  cases hf:bil.srFree E l ⟨⟨c⟩⟩ with
  | mk k e=>rw [hf] at h;simp only at h ⊢;rw [if_pos h]
 cases l with
 | nil =>
  have e:callF c23 10 s_srShut (.tup [.lst .series,.any]) [.fl .series [],.str c] some=bif !eqI (freeR [] ⟨⟨c⟩⟩).2 0 then some (.tup [.fl .series [],i64 (freeR [] ⟨⟨c⟩⟩).2]) else none:=by kernel_rfl
  rw [e]
  rcases free_cases [] ⟨⟨c⟩⟩ with h | ⟨k,s,_,_,h,_⟩
  ·rw [eq_false' h,hno h];rfl
  ·simp at h
 | cons x l =>
  have e:callF c23 10 s_srShut (.tup [.lst .series,.any]) [.fl .series (x::l),.str c] some=bif !eqI (freeR (x::l) ⟨⟨c⟩⟩).2 0 then some (.tup [.fl .series [],i64 (freeR (x::l) ⟨⟨c⟩⟩).2]) else
   bif Nat.blt (x::l).length 1048576 then bif inI (freeR (x::l) ⟨⟨c⟩⟩).1 (x::l).length then bif Nat.blt (freeR (x::l) ⟨⟨c⟩⟩).1.toNat (x::l).length then
    bif Nat.beq (x::l).length ((x::l).set (freeR (x::l) ⟨⟨c⟩⟩).1.toNat { nth (t:=.series) (x::l) (freeR (x::l) ⟨⟨c⟩⟩).1.toNat with shut:=true }).length then
     some (.tup [.fl .series ((x::l).set (freeR (x::l) ⟨⟨c⟩⟩).1.toNat { nth (t:=.series) (x::l) (freeR (x::l) ⟨⟨c⟩⟩).1.toNat with shut:=true }),i64 0]) else none else none else none else none:=by kernel_rfl
  rw [e]
  rcases free_cases (x::l) ⟨⟨c⟩⟩ with h | ⟨k,s,hf,h,hk,hs,hn,hl⟩
  ·rw [eq_false' h,hno h];rfl
  ·rw [h]
   show (bif Nat.blt _ _ then bif inI (.ofNat k) _ then bif Nat.blt k _ then _ else _ else _ else _)=_
   rw [bltN_true (by omega),in_nat hk,bltN_true hk,toNat_of,hn,List.length_set,beqN_true rfl]
   unfold shutR bil.srShutF
   rw [hf]
   simp only [hs]
   rfl
def G_srShut:List AV→Option (Bool × AV)
 | [.fl .series l,.str c]=>some (true,.tup [.fl .series (shutR l ⟨⟨c⟩⟩).1,i64 (shutR l ⟨⟨c⟩⟩).2])
 | _=>none
def c24:ClS:=addG 36 G_srShut c23
theorem snd24:SoundS Tryz.prog c24:=add_gn snd23 mix ok_srShut (.tup [.lst .series,.any]) G_srShut fun xs r h=>by
 unfold G_srShut at h
 split at h<;>first | (cases h;done) | skip
 cases h
 exact⟨rfl,10,run_srShut _ _⟩
def takeR (l:List bil.Sr) (c:ByteArray):List bil.Sr × Int × Int:=match bil.srTakeF E l c with
 | .inr e=>([],0,e)
 | .inl (l',n)=>(l',n,0)
theorem run_srTake (l:List bil.Sr) (c:List UInt8):callF c24 10 s_srTake (.tup [.lst .series,.any,.any]) [.fl .series l,.str c] some=some (.tup [.fl .series (takeR l ⟨⟨c⟩⟩).1,i64 (takeR l ⟨⟨c⟩⟩).2.1,i64 (takeR l ⟨⟨c⟩⟩).2.2]):=by
 have hno:(freeR l ⟨⟨c⟩⟩).2≠0→takeR l ⟨⟨c⟩⟩=([],0,(freeR l ⟨⟨c⟩⟩).2):=fun h=>by
  unfold takeR bil.srTakeF
  unfold freeR at h ⊢
  cases hf:bil.srFree E l ⟨⟨c⟩⟩ with
  | mk k e=>rw [hf] at h;simp only at h ⊢;rw [if_pos h]
 cases l with
 | nil =>
  have e:∀ L,callF c24 L s_srTake (.tup [.lst .series,.any,.any]) [.fl .series [],.str c] some=bif !eqI (freeR [] ⟨⟨c⟩⟩).2 0 then some (.tup [.fl .series [],i64 0,i64 (freeR [] ⟨⟨c⟩⟩).2]) else
   bif inI (freeR [] ⟨⟨c⟩⟩).1 0 then bif inI (freeR [] ⟨⟨c⟩⟩).1 0 then bif ltI (nth (t:=.series) [] (freeR [] ⟨⟨c⟩⟩).1.toNat).limit (nth (t:=.series) [] (freeR [] ⟨⟨c⟩⟩).1.toNat).next then some (.tup [.fl .series [],i64 0,i64 14]) else none else none else none:=fun L=>by kernel_rfl
  rw [e]
  rcases free_cases [] ⟨⟨c⟩⟩ with h | ⟨k,s,_,_,h,_⟩
  ·rw [eq_false' h,hno h];rfl
  ·simp at h
 | cons x l =>
  have e:∀ L,callF c24 L s_srTake (.tup [.lst .series,.any,.any]) [.fl .series (x::l),.str c] some=bif !eqI (freeR (x::l) ⟨⟨c⟩⟩).2 0 then some (.tup [.fl .series [],i64 0,i64 (freeR (x::l) ⟨⟨c⟩⟩).2]) else
   bif inI (freeR (x::l) ⟨⟨c⟩⟩).1 (x::l).length then bif inI (freeR (x::l) ⟨⟨c⟩⟩).1 (x::l).length then
   bif ltI (nth (t:=.series) (x::l) (freeR (x::l) ⟨⟨c⟩⟩).1.toNat).limit (nth (t:=.series) (x::l) (freeR (x::l) ⟨⟨c⟩⟩).1.toNat).next then some (.tup [.fl .series [],i64 0,i64 14]) else
   bif Nat.blt (x::l).length 1048576 then bif inI (freeR (x::l) ⟨⟨c⟩⟩).1 (x::l).length then bif Nat.blt (freeR (x::l) ⟨⟨c⟩⟩).1.toNat (x::l).length then bif inI (freeR (x::l) ⟨⟨c⟩⟩).1 (x::l).length then bif Nat.blt (freeR (x::l) ⟨⟨c⟩⟩).1.toNat (x::l).length then
    bif Nat.beq (x::l).length ((x::l).set (freeR (x::l) ⟨⟨c⟩⟩).1.toNat { nth (t:=.series) (x::l) (freeR (x::l) ⟨⟨c⟩⟩).1.toNat with next:=wrapK .i64 ((nth (t:=.series) (x::l) (freeR (x::l) ⟨⟨c⟩⟩).1.toNat).next+1) }).length then
     some (.tup [.fl .series ((x::l).set (freeR (x::l) ⟨⟨c⟩⟩).1.toNat { nth (t:=.series) (x::l) (freeR (x::l) ⟨⟨c⟩⟩).1.toNat with next:=wrapK .i64 ((nth (t:=.series) (x::l) (freeR (x::l) ⟨⟨c⟩⟩).1.toNat).next+1) }),i64 (nth (t:=.series) (x::l) (freeR (x::l) ⟨⟨c⟩⟩).1.toNat).next,i64 0])
     else none else none else none else none else none else none else none else none:=fun L=>by kernel_rfl
  rw [e]
  rcases free_cases (x::l) ⟨⟨c⟩⟩ with h | ⟨k,s,hf,h,hk,hs,hn,hl⟩
  ·rw [eq_false' h,hno h];rfl
  ·have hok:bil.srOk E s=true:=by
    have hr:bil.srRight E (x::l)=true:=by
     cases hq:bil.srRight E (x::l) with
     | true=>rfl
     | false=>unfold bil.srFree at hf;rw [hq] at hf;simp at hf
    unfold bil.srRight at hr
    simp only [Bool.and_eq_true,List.all_eq_true] at hr
    exact hr.2.1 s (List.mem_of_getElem? hs)
   rw [h]
   show (bif inI (.ofNat k) _ then _ else _)=_
   rw [in_nat hk,toNat_of,hn]
   unfold takeR bil.srTakeF
   rw [hf]
   simp only [hs]
   rw [if_neg (by decide)]
   by_cases hlim:s.limit < s.next
   ·rw [lt_true hlim,if_pos hlim];rfl
   ·rw [lt_false (by omega),if_neg hlim,bltN_true (show (x::l).length < 1048576 by omega),bltN_true hk,List.length_set,beqN_true rfl]
    unfold bil.srOk at hok
    simp only [Bool.and_eq_true,decide_eq_true_eq] at hok
    rw [wrap64 ⟨by omega,by omega⟩]
    rfl
def G_srTake:List AV→Option (Bool × AV)
 | [.fl .series l,.str c]=>some (true,.tup [.fl .series (takeR l ⟨⟨c⟩⟩).1,i64 (takeR l ⟨⟨c⟩⟩).2.1,i64 (takeR l ⟨⟨c⟩⟩).2.2])
 | _=>none
def c25:ClS:=addG 111 G_srTake c24
theorem snd25:SoundS Tryz.prog c25:=add_gn snd24 mix ok_srTake (.tup [.lst .series,.any,.any]) G_srTake fun xs r h=>by
 unfold G_srTake at h
 split at h<;>first | (cases h;done) | skip
 cases h
 exact⟨rfl,10,run_srTake _ _⟩
def srNone:bil.Sr:=⟨⟨⟨[]⟩⟩,0,0,false⟩
def findS (l:List bil.Sr) (c:ByteArray):bil.Sr × Bool:=match bil.srAt l c with
 | some k=>(nth (t:=.series) l k,true)
 | none=>(srNone,false)
theorem run_srFind (l:List bil.Sr) (c:List UInt8) (hl:l.length < 1000000):callF c25 10 s_srFind (.tup [.any,.any]) [.fl .series l,.str c] some=some (.tup [.agg (cSr (findS l ⟨⟨c⟩⟩).1),.bool (findS l ⟨⟨c⟩⟩).2]):=by
 have e:∀ L,callF c25 L s_srFind (.tup [.any,.any]) [.fl .series l,.str c] some=bif Nat.blt l.length 1000000 then bif ltI (ixO (bil.srAt l ⟨⟨c⟩⟩)) 0 then some (.tup [.agg (cSr srNone),.bool false]) else bif inI (ixO (bil.srAt l ⟨⟨c⟩⟩)) l.length then some (.tup [.agg (cSr (nth (t:=.series) l (ixO (bil.srAt l ⟨⟨c⟩⟩)).toNat)),.bool true]) else none else none:=fun L=>by kernel_rfl
 rw [e,bltN_true hl,cond_true,ixO_lt]
 unfold findS
 cases h1:bil.srAt l ⟨⟨c⟩⟩ with
 | none=>rfl
 | some k =>
  obtain⟨h2,_,_⟩:=findIdx_some (t:=.series) h1
  show (bif inI (.ofNat k) l.length then _ else _)=_
  rw [in_nat h2]
  rfl
def G_srFind:List AV→Option (Bool × AV)
 | [.fl .series l,.str c]=>some (Nat.blt l.length 1000000,.tup [.agg (cSr (findS l ⟨⟨c⟩⟩).1),.bool (findS l ⟨⟨c⟩⟩).2])
 | _=>none
def c26:ClS:=addG 77 G_srFind c25
theorem snd26:SoundS Tryz.prog c26:=add_gn snd25 mix ok_srFind (.tup [.any,.any]) G_srFind fun xs r h=>by
 unfold G_srFind at h
 split at h<;>first | (cases h;done) | skip
 obtain⟨hg,rfl⟩:=Prod.mk.inj (Option.some.inj h)
 exact⟨rfl,10,run_srFind _ _ (blt_iff.1 hg)⟩
end Go.Proofs.YtbknmeafcbhicaaGreatDoor.Ev

/- Functions as the machine for symbols has them; they are the program's. Written by program (sytold.py). -/
namespace Go.Proofs.YtbknmeafcbhicaaGreatDoor.Ev
open Go Z
set_option maxRecDepth 100000
def l1_sesRight:List Path:=[q3,q9,q10,q11]
def b1_sesRight:SC:=(s (r [o q12 (.bin .lss) [.t q11,.t q10] 0]) (s (c q12 .skip (.exit 0)) (s (.blk 1 (s (r [o q13 (.ixs 5) [.t q9,.t q11] 0,o q14 (.ldn 5) [.t q13] 1,o q5 (.new [(.int .i64 (0)),(.int .i64 (0)),(.int .i64 (0)),(.int .i64 (0)),(.int .i64 (0))]) [] 0,u (.st 5) [.t q5,.t q14] 7]) (s (s (r [o q15 (.fad 0) [.t q5] 0,o q16 .ld1 [.t q15] 1,m q17 q3 0,o q18 (.bin .leq) [.t q16,.t q17] 7,m q19 q18 15,g q20 (.fad 1) [.t q5] q19 false 31,g q21 .ld1 [.t q20] q19 false 63,g q22 (.bin .lss) [.t q21,i 0] q19 false 127,o q23 .pick [.t q19,.c (.bool true),.t q22] 255,m q24 q23 511,g q25 (.fad 1) [.t q5] q24 false 1023,g q26 .ld1 [.t q25] q24 false 2047,g q27 (.bin .gtr) [.t q26,i 1099511627776] q24 false 4095,o q28 .pick [.t q24,.c (.bool true),.t q27] 8191,m q29 q28 16383,g q30 (.fad 1) [.t q5] q29 false 32767,g q31 .ld1 [.t q30] q29 false 65535,g q32 (.bin .eql) [.t q31,i 0] q29 false 131071,g q33 .mov [.t q32] q29 false 262143,g q34 (.fad 2) [.t q5] q33 true 524287,g q35 (.ldn 3) [.t q34] q33 true 1048575,g q36 (.build [(.int .i64 (0)),(.int .i64 (0)),(.int .i64 (0))] []) [] q33 true 524287,g q37 (.eqa true [(0,.int),(1,.int),(2,.int)]) [.t q35,.t q36] q33 true 4194303,g q38 .pick [.t q33,.t q37,.c (.bool false)] q29 false 8388607,o q39 .pick [.t q29,.c (.bool true),.t q38] 16777215]) (c q39 (s (r [o q2 .mov [.c (.bool false)] 0]) .ret) .skip)) (r [o q40 (.fad 0) [.t q5] 0,o q41 .ld1 [.t q40] 1,m q3 q41 3])))) (r [o q42 (.bin .add) [.t q11,i 1] 0,m q11 q42 1]))))
def a1_sesRight:SC:=(s (r [o q2 .mov [.c (.bool true)] 0]) .ret)
def s_sesRight:FnS:=⟨43,(s (r [o q2 .mov [.c (.bool false)] 0]) (s (s (r [m q6 q0 0,o q7 .len [.t q6] 1,o q8 (.bin .gtr) [.t q7,i 8] 3]) (c q8 (s (r [o q2 .mov [.c (.bool false)] 0]) .ret) .skip)) (s (r [o q3 .mov [i 0] 0]) (s (s (r [m q9 q0 0,o q10 .len [.t q9] 1,o q11 .mov [i 0] 0]) (.blk 0 (.loop l1_sesRight 0 b1_sesRight))) a1_sesRight)))),[.t q2]⟩
def k1_sesRight {β:Type} (cl:ClS) (L:Nat) (K:AV→Mem→Option β):Ex→T AV→Mem→Option β:=kBlk 0 (kSeq (evS cl L a1_sesRight) (endS s_sesRight.res K))
theorem ok_sesRight:FnOkS Tryz.prog 32 s_sesRight:=fnOkS_of Tryz.func32 (by kernel_rfl) (by kernel_rfl) Tryz.ntmps32 (by kernel_rfl) (by kernel_rfl)
def s_sesIs:FnS:=⟨8,(s (r [o q2 .box [.t q0] 0,o q3 .mov [.c (.bool false)] 0]) (s (r [o q4 (.fad 0) [.t q2] 0,o q5 .ld1 [.t q4] 1,o q6 .ld1 [.t q1] 0,o q7 (.bin .eql) [.t q5,.t q6] 7,m q3 q7 15]) .ret)),[.t q3]⟩
theorem ok_sesIs:FnOkS Tryz.prog 66 s_sesIs:=fnOkS_of Tryz.func66 (by kernel_rfl) (by kernel_rfl) Tryz.ntmps66 (by kernel_rfl) (by kernel_rfl)
def l1_ixSes:List Path:=[q0,q1,q7,q8]
def b1_ixSes:SC:=(s (r [o q9 (.bin .lss) [.t q8,.t q7] 0]) (s (c q9 .skip (.exit 0)) (s (.blk 1 (s (r [m q10 q8 0,m q5 q10 1]) (s (r [m q11 q1 0,m q12 q0 0,m q13 q5 0,o q14 (.ixs 5) [.t q12,.t q13] 6,o q15 (.ldn 5) [.t q14] 14,o q16 .callv [.t q11,.t q15] 31]) (c q16 (s (r [m q17 q5 0,m q4 q17 1]) .ret) .skip)))) (r [o q18 (.bin .add) [.t q8,i 1] 0,m q8 q18 1]))))
def a1_ixSes:SC:=(s (r [o q4 .mov [i (-1)] 0]) .ret)
def s_ixSes:FnS:=⟨19,(s (r [o q4 .mov [i 0] 0]) (s (s (r [m q6 q0 0,o q7 .len [.t q6] 1,o q8 .mov [i 0] 0]) (.blk 0 (.loop l1_ixSes 1 b1_ixSes))) a1_ixSes)),[.t q4]⟩
def k1_ixSes {β:Type} (cl:ClS) (L:Nat) (K:AV→Mem→Option β):Ex→T AV→Mem→Option β:=kBlk 0 (kSeq (evS cl L a1_ixSes) (endS s_ixSes.res K))
theorem ok_ixSes:FnOkS Tryz.prog 65 s_ixSes:=fnOkS_of Tryz.func65 (by kernel_rfl) (by kernel_rfl) Tryz.ntmps65 (by kernel_rfl) (by kernel_rfl)
def s_sesPlace:FnS:=⟨8,(s (r [o q3 .box [.t q1] 0,o q4 .mov [i 0] 0]) (s (r [m q5 q0 0,o q6 (.mkf 66) [.t q3] 0,o q7 (.call 65) [.t q5,.t q6] 3,m q4 q7 7]) .ret)),[.t q4]⟩
theorem ok_sesPlace:FnOkS Tryz.prog 33 s_sesPlace:=fnOkS_of Tryz.func33 (by kernel_rfl) (by kernel_rfl) Tryz.ntmps33 (by kernel_rfl) (by kernel_rfl)
def l1_sesJoin:List Path:=[q0,q1,q6]
def b1_sesJoin:SC:=(s (s (r [m q24 q6 0,m q25 q0 0,o q26 .len [.t q25] 2,o q27 (.bin .lss) [.t q24,.t q26] 7,m q28 q27 15,g q29 .mov [.t q0] q28 true 31,g q30 .mov [.t q6] q28 true 31,g q31 (.ixs 5) [.t q29,.t q30] q28 true 127,g q32 (.fad 0) [.t q31] q28 true 255,g q33 .ld1 [.t q32] q28 true 511,g q34 .mov [.t q1] q28 true 31,g q35 (.bin .lss) [.t q33,.t q34] q28 true 2047,o q36 .pick [.t q28,.t q35,.c (.bool false)] 4095]) (c q36 .skip (.exit 1))) (.blk 2 (r [m q37 q6 0,o q38 (.bin .add) [.t q37,i 1] 1,m q6 q38 3])))
def a1_sesJoin:SC:=(s (r [m q39 q0 0,o q40 (.app 5 40) [.c .nilsl,.t q39] 1,m q41 q6 0,m q42 q1 0,o q43 (.build [(.int .i64 (0)),(.int .i64 (0)),(.int .i64 (0)),(.int .i64 (0)),(.int .i64 (0))] [(0,1)]) [.t q42] 8,o q44 (.bsl [(.int .i64 (0)),(.int .i64 (0)),(.int .i64 (0)),(.int .i64 (0)),(.int .i64 (0))] 1 5 [(0,5)]) [.t q43] 24,o q45 (.call 64) [.t q40,.t q41,.t q44] 63,m q4 q45 127,o q5 .mov [i 0] 255]) .ret)
def s_sesJoin:FnS:=⟨46,(s (r [o q4 .mov [.c .nilsl] 0,o q5 .mov [i 0] 1]) (s (.blk 0 (s (r [m q8 q0 0,o q9 (.call 32) [.t q8] 1,o q10 (.un .not) [.t q9] 3,m q11 q10 7,g q12 .mov [.t q1] q11 false 15,g q13 (.bin .lss) [.t q12,i 1] q11 false 31,o q14 .pick [.t q11,.c (.bool true),.t q13] 63,m q7 q14 127]) (c q7 (s (r [o q4 .mov [.c .nilsl] 0,o q5 .mov [i 1] 1]) .ret) (s (r [m q16 q0 0,m q17 q1 0,o q18 (.call 33) [.t q16,.t q17] 3,o q19 (.bin .geq) [.t q18,i 0] 7,m q15 q19 15]) (c q15 (s (r [o q4 .mov [.c .nilsl] 0,o q5 .mov [i 12] 1]) .ret) (s (r [m q21 q0 0,o q22 .len [.t q21] 1,o q23 (.bin .geq) [.t q22,i 8] 3,m q20 q23 7]) (c q20 (s (r [o q4 .mov [.c .nilsl] 0,o q5 .mov [i 14] 1]) .ret) .skip))))))) (s (r [o q6 .mov [i 0] 0]) (s (.blk 1 (.loop l1_sesJoin 0 b1_sesJoin)) a1_sesJoin)))),[.t q4,.t q5]⟩
def k1_sesJoin {β:Type} (cl:ClS) (L:Nat) (K:AV→Mem→Option β):Ex→T AV→Mem→Option β:=kBlk 1 (kSeq (evS cl L a1_sesJoin) (endS s_sesJoin.res K))
theorem ok_sesJoin:FnOkS Tryz.prog 31 s_sesJoin:=fnOkS_of Tryz.func31 (by kernel_rfl) (by kernel_rfl) Tryz.ntmps31 (by kernel_rfl) (by kernel_rfl)
def s_sesLeave:FnS:=⟨21,(s (r [o q4 .mov [.c .nilsl] 0,o q5 .mov [i 0] 1]) (s (s (r [m q7 q0 0,o q8 (.call 32) [.t q7] 1,o q9 (.un .not) [.t q8] 3]) (c q9 (s (r [o q4 .mov [.c .nilsl] 0,o q5 .mov [i 1] 1]) .ret) .skip)) (s (r [m q10 q0 0,m q11 q1 0,o q12 (.call 33) [.t q10,.t q11] 3,m q6 q12 7]) (s (s (r [m q13 q6 0,o q14 (.bin .lss) [.t q13,i 0] 1]) (c q14 (s (r [o q4 .mov [.c .nilsl] 0,o q5 .mov [i 11] 1]) .ret) .skip)) (s (r [m q15 q0 0,o q16 (.app 5 40) [.c .nilsl,.t q15] 1,m q17 q6 0,m q18 q6 0,o q19 (.bin .add) [.t q18,i 1] 8,o q20 (.call 76) [.t q16,.t q17,.t q19] 31,m q4 q20 63,o q5 .mov [i 0] 127]) .ret))))),[.t q4,.t q5]⟩
theorem ok_sesLeave:FnOkS Tryz.prog 41 s_sesLeave:=fnOkS_of Tryz.func41 (by kernel_rfl) (by kernel_rfl) Tryz.ntmps41 (by kernel_rfl) (by kernel_rfl)
def s_sesLook:FnS:=⟨52,(s (r [o q6 (.new [(.int .i64 (0)),(.int .i64 (0)),(.int .i64 (0))]) [] 0,o q7 .mov [.c (.bool false)] 0,o q8 .mov [i 0] 2]) (s (s (r [m q10 q0 0,o q11 (.call 32) [.t q10] 1,o q12 (.un .not) [.t q11] 3]) (c q12 (s (r [o q13 (.build [(.int .i64 (0)),(.int .i64 (0)),(.int .i64 (0))] []) [] 0,u (.st 3) [.t q6,.t q13] 1,o q7 .mov [.c (.bool false)] 3,o q8 .mov [i 1] 7]) .ret) .skip)) (s (r [m q14 q0 0,m q15 q1 0,o q16 (.call 33) [.t q14,.t q15] 3,m q9 q16 7]) (s (.blk 0 (s (r [m q18 q9 0,o q19 (.bin .lss) [.t q18,i 0] 1,m q17 q19 3]) (c q17 (s (r [o q20 (.build [(.int .i64 (0)),(.int .i64 (0)),(.int .i64 (0))] []) [] 0,u (.st 3) [.t q6,.t q20] 1,o q7 .mov [.c (.bool false)] 3,o q8 .mov [i 15] 7]) .ret) (s (r [m q22 q2 0,o q23 (.bin .lss) [.t q22,i 1] 1,m q24 q23 3,g q25 .mov [.t q2] q24 false 7,g q26 (.bin .gtr) [.t q25,i 1099511627776] q24 false 15,o q27 .pick [.t q24,.c (.bool true),.t q26] 31,m q21 q27 63]) (c q21 (s (r [o q28 (.build [(.int .i64 (0)),(.int .i64 (0)),(.int .i64 (0))] []) [] 0,u (.st 3) [.t q6,.t q28] 1,o q7 .mov [.c (.bool false)] 3,o q8 .mov [i 1] 7]) .ret) (s (r [m q30 q2 0,m q31 q0 0,m q32 q9 0,o q33 (.ixs 5) [.t q31,.t q32] 6,o q34 (.fad 1) [.t q33] 14,o q35 .ld1 [.t q34] 30,o q36 (.bin .eql) [.t q30,.t q35] 63,m q29 q36 127]) (c q29 (s (r [m q37 q0 0,m q38 q9 0,o q39 (.ixs 5) [.t q37,.t q38] 3,o q40 (.fad 2) [.t q39] 7,o q41 (.ldn 3) [.t q40] 15,u (.st 3) [.t q6,.t q41] 31,o q7 .mov [.c (.bool true)] 63,o q8 .mov [i 0] 127]) .ret) (s (r [m q43 q2 0,m q44 q0 0,m q45 q9 0,o q46 (.ixs 5) [.t q44,.t q45] 6,o q47 (.fad 1) [.t q46] 14,o q48 .ld1 [.t q47] 30,o q49 (.bin .lss) [.t q43,.t q48] 63,m q42 q49 127]) (c q42 (s (r [o q50 (.build [(.int .i64 (0)),(.int .i64 (0)),(.int .i64 (0))] []) [] 0,u (.st 3) [.t q6,.t q50] 1,o q7 .mov [.c (.bool false)] 3,o q8 .mov [i 16] 7]) .ret) .skip))))))))) (s (r [o q51 (.build [(.int .i64 (0)),(.int .i64 (0)),(.int .i64 (0))] []) [] 0,u (.st 3) [.t q6,.t q51] 1,o q7 .mov [.c (.bool false)] 3,o q8 .mov [i 0] 7]) .ret))))),[(.cn q6 3),.t q7,.t q8]⟩
theorem ok_sesLook:FnOkS Tryz.prog 14 s_sesLook:=fnOkS_of Tryz.func14 (by kernel_rfl) (by kernel_rfl) Tryz.ntmps14 (by kernel_rfl) (by kernel_rfl)
def s_sesKeep:FnS:=⟨43,(s (r [o q7 .box [.t q3] 0,o q8 .mov [.c .nilsl] 0,o q9 .mov [i 0] 2]) (s (r [m q16 q0 0,m q17 q1 0,m q18 q2 0,o q19 (.call 14) [.t q16,.t q17,.t q18] 7,m q15 q19 15,o q20 (.ext 0) [.t q15] 31,o q21 (.ext 1) [.t q15] 31,o q22 (.ext 2) [.t q15] 31,o q10 (.new [(.int .i64 (0)),(.int .i64 (0)),(.int .i64 (0))]) [] 0,u (.st 3) [.t q10,.t q20] 319,m q11 q21 895,m q12 q22 2047]) (s (s (r [m q23 q12 0,o q24 (.bin .neq) [.t q23,i 0] 1]) (c q24 (s (r [m q25 q12 0,o q8 .mov [.c .nilsl] 0,m q9 q25 3]) .ret) .skip)) (s (s (r [m q26 q11 0]) (c q26 (s (r [o q8 .mov [.c .nilsl] 0,o q9 .mov [i 12] 1]) .ret) .skip)) (s (r [m q27 q0 0,o q28 (.app 5 40) [.c .nilsl,.t q27] 1,m q13 q28 3]) (s (r [m q29 q13 0,m q30 q1 0,o q31 (.call 33) [.t q29,.t q30] 3,m q14 q31 7]) (s (d [m q32 q13 0,m q33 q14 0,m q34 q13 0,m q35 q14 0,m q36 q2 0,o q37 (.ldn 3) [.t q7] 0,o q38 (.ixs 5) [.t q32,.t q33] 19,o q39 (.fad 1) [.t q38] 83,u (.st 1) [.t q39,.t q36] 211,o q40 (.ixs 5) [.t q34,.t q35] 511,o q41 (.fad 2) [.t q40] 1023,u (.st 3) [.t q41,.t q37] 2047]) (s (r [m q42 q13 0,m q8 q42 1,o q9 .mov [i 0] 3]) .ret)))))))),[.t q8,.t q9]⟩
theorem ok_sesKeep:FnOkS Tryz.prog 16 s_sesKeep:=fnOkS_of Tryz.func16 (by kernel_rfl) (by kernel_rfl) Tryz.ntmps16 (by kernel_rfl) (by kernel_rfl)
end Go.Proofs.YtbknmeafcbhicaaGreatDoor.Ev

/- Sessions. -/
namespace Go.Proofs.YtbknmeafcbhicaaGreatDoor.Ev
open Go
def sFrom:Int→List bil.Ses→Bool
 | _,[]=>true
 | la,x::t=>decide (la < x.id)&&(bil.sesOk x&&sFrom x.id t)
theorem sFrom_eq:∀ (la:Int) (l:List bil.Ses),sFrom la l=(l.all bil.sesOk&&(l.all (fun s=>decide (la < s.id))&&bil.chain bil.sesLt l))
 | la,[]=>rfl
 | la,x::t=>by
  rw [sFrom,sFrom_eq x.id t,Bool.eq_iff_iff]
  simp only [Bool.and_eq_true,List.all_cons,List.all_eq_true,bil.chain_pw bil.sesLt_trans,List.pairwise_cons,decide_eq_true_eq]
  unfold bil.sesLt
  simp only [decide_eq_true_eq]
  constructor
  ·rintro ⟨h1,h2,h3,h4,h5⟩
   exact⟨⟨h2,h3⟩,⟨h1,fun y hy=>Int.lt_trans h1 (h4 y hy)⟩,h4,h5⟩
  ·rintro ⟨⟨h2,h3⟩,⟨h1,_⟩,h4,h5⟩
   exact⟨h1,h2,h3,h4,h5⟩
def lpSs (L L':Nat) (l:List bil.Ses) (la n:Int):Option AV:=loopS (evS c26 L b1_sesRight) l1_sesRight 0 L' (stL [(q3,i64 la),(q9,.fl .ses l),(q10,i64 (.ofNat l.length)),(q11,i64 n)]) m0 (k1_sesRight c26 L fun r m=>frzK m .any r some)
def noRep (r:bil.Rp):Bool:=eqI r.why 0&&(eqI r.number 0&&(eqI r.gross 0&&true))
theorem noRep_eq (r:bil.Rp):noRep r=decide (r=⟨0,0,0⟩):=by
 obtain⟨a,b,c⟩:=r
 unfold noRep
 simp only [eqI_eq,bil.Rp.mk.injEq]
 by_cases h1:a=0<;>by_cases h2:b=0<;>by_cases h3:c=0<;>simp [h1,h2,h3]
theorem round_sesRight (L L' n:Nat) (l:List bil.Ses) (la:Int):lpSs L (Nat.succ L') l la (.ofNat n) =
 bif ltI (.ofNat n) (.ofNat l.length) then bif inI (.ofNat n) l.length then bif !ltI la (nth (t:=.ses) l n).id then some (.bool false) else bif ltI (nth (t:=.ses) l n).last 0 then some (.bool false) else bif ltI 1099511627776 (nth (t:=.ses) l n).last then some (.bool false) else
  bif eqI (nth (t:=.ses) l n).last 0 then bif (bif true then !noRep (nth (t:=.ses) l n).rep else noRep (nth (t:=.ses) l n).rep) then some (.bool false) else lpSs L L' l (nth (t:=.ses) l n).id (wrapK .i64 (.ofNat n+1))
  else lpSs L L' l (nth (t:=.ses) l n).id (wrapK .i64 (.ofNat n+1)) else none else some (.bool true):=by kernel_rfl
theorem loop_sesRight (L:Nat) (l:List bil.Ses) (hl:l.length≤8):∀ (t:List bil.Ses) (n f:Nat) (la:Int),l.drop n=t→n≤l.length→t.length < f→lpSs L f l la (.ofNat n)=some (.bool (sFrom la t))
 | t,n,0,la,_,_,hf=>by omega
 | [],n,f+1,la,hd,hn,hf=>by
  rw [round_sesRight,drop_nil hd hn,le_nat (Nat.le_refl _),cond_false]
  rfl
 | x::t,n,f+1,la,hd,hn,hf=>by
  obtain⟨h1,h2,h3⟩:=drop_cons (t:=.ses) hd
  have ih:=fun la=>loop_sesRight L l hl t (n+1) f la h3 (by omega) (by simp at hf;omega)
  rw [round_sesRight,lt_nat h1,cond_true,in_nat h1,cond_true,h2,wrap_succ (by omega),ih,cond_true,noRep_eq,ltI_eq,ltI_eq,ltI_eq,eqI_eq]
  show _=some (AV.bool (decide (la < x.id)&&(bil.sesOk x&&sFrom x.id t)))
  unfold bil.sesOk
  by_cases a1:la < x.id
  ·by_cases a2:x.last < 0
   ·simp [a1,a2,show ¬ 0≤x.last by omega]
   ·by_cases a3:1099511627776 < x.last
    ·simp [a1,a2,a3,show ¬ x.last≤1099511627776 by omega]
    ·by_cases a4:x.last=0
     ·by_cases a5:x.rep=⟨0,0,0⟩<;>simp [a1,a4,a5]
     ·simp [a1,a2,a3,a4,show 0≤x.last by omega,show x.last≤1099511627776 by omega]
  ·simp [a1]
theorem run_sesRight (l:List bil.Ses):callF c26 10 s_sesRight .any [.fl .ses l] some=some (.bool (bil.sesRight l)):=by
 have e:∀ L,callF c26 L s_sesRight .any [.fl .ses l] some=bif ltI 8 (.ofNat l.length) then some (.bool false) else lpSs L L l 0 (.ofNat 0):=fun L=>by kernel_rfl
 rw [e]
 unfold bil.sesRight
 by_cases h:8 < l.length
 ·rw [lt_true (by simp;omega),cond_true,decide_eq_false (by omega)];rfl
 ·rw [lt_false (by simp;omega),cond_false,decide_eq_true (by omega),Bool.true_and,loop_sesRight 10 l (by omega) l 0 10 0 rfl (by omega) (by omega),sFrom_eq]
def G_sesRight:List AV→Option (Bool × AV)
 | [.fl .ses l]=>some (true,.bool (bil.sesRight l))
 | _=>none
def c27:ClS:=addG 32 G_sesRight c26
theorem snd27:SoundS Tryz.prog c27:=add_gn snd26 mix ok_sesRight .any G_sesRight fun xs r h=>by
 unfold G_sesRight at h
 split at h<;>first | (cases h;done) | skip
 cases h
 exact⟨rfl,10,run_sesRight _⟩
theorem ses_len {l:List bil.Ses} (h:bil.sesRight l=true):l.length≤8:=by
 unfold bil.sesRight at h
 rw [Bool.and_eq_true] at h
 exact of_decide_eq_true h.1
def H_sesIs:List AV→Mem→Option (Bool × AV × T Blk × Nat)
 | [.agg [.int .i64 i,.int .i64 l,.int .i64 w,.int .i64 n,.int .i64 g],.ptr 0 0],⟨.node .nil (some ⟨.raw [.int .i64 q],1,false⟩) .nil,1,0,0⟩=>some (true,.bool (eqI i q),.node .nil (some ⟨.raw [.int .i64 q],1,false⟩) .nil,1)
 | _,_=>none
def c28:ClS:=addN 66 H_sesIs c27
theorem snd28:SoundS Tryz.prog c28:=add_mem snd27 mix ok_sesIs H_sesIs fun xs m r h1 n1 h=>by
 unfold H_sesIs at h
 split at h<;>first | (cases h;done) | skip
 rename_i i l w n g q
 cases h
 refine⟨rfl,0,?_⟩
 have e:callS c27 0 s_sesIs [.agg [i64 i,i64 l,i64 w,i64 n,i64 g],.ptr 0 0] ⟨.node .nil (some ⟨.raw [i64 q],1,false⟩) .nil,1,0,0⟩ (fun r m=>trimK 1 r m fun r m=>some (r,m.h,m.nx)) =
  bif eqI i q then some (.bool true,.node .nil (some ⟨.raw [i64 q],1,false⟩) .nil,1) else some (.bool false,.node .nil (some ⟨.raw [i64 q],1,false⟩) .nil,1):=by kernel_rfl
 refine e.trans ?_
 cases eqI i q<;>rfl
def lpSt (L L':Nat) (l:List bil.Ses) (c n:Int):Option (AV × T Blk × Nat):=loopS (evS c28 L b1_ixSes) l1_ixSes 1 L' (stL [(q0,.fl .ses l),(q1,.fn 66 [.ptr 0 0]),(q7,i64 (.ofNat l.length)),(q8,i64 n)]) ⟨hp1 ⟨.raw [i64 c],1,false⟩,1,1,1⟩ (k1_ixSes c28 L fun r m=>trimK 1 r m fun r m=>some (r,m.h,m.nx))
theorem round_ixSes (L L' n:Nat) (l:List bil.Ses) (c:Int):lpSt L (Nat.succ L') l c (.ofNat n) =
 bif ltI (.ofNat n) (.ofNat l.length) then bif inI (.ofNat n) l.length then bif eqI (nth (t:=.ses) l n).id c then some (i64 (.ofNat n),hp1 ⟨.raw [i64 c],1,false⟩,1) else lpSt L L' l c (wrapK .i64 (.ofNat n+1)) else none
 else some (i64 (-1),hp1 ⟨.raw [i64 c],1,false⟩,1):=by kernel_rfl
def sesI (c:Int) (x:bil.Ses):Bool:=x.id == c
theorem loop_ixSes (L:Nat) (l:List bil.Ses) (hl:l.length < 1000000) (c:Int):∀ (t:List bil.Ses) (n f:Nat),l.drop n=t→n≤l.length→t.length < f →
  lpSt L f l c (.ofNat n)=some (i64 (ixFrom (sesI c) n t),hp1 ⟨.raw [i64 c],1,false⟩,1)
 | t,n,0,_,_,hf=>by omega
 | [],n,f+1,hd,hn,hf=>by
  rw [round_ixSes,drop_nil hd hn,le_nat (Nat.le_refl _),cond_false]
  rfl
 | x::t,n,f+1,hd,hn,hf=>by
  obtain⟨h1,h2,h3⟩:=drop_cons (t:=.ses) hd
  have ih:=loop_ixSes L l hl c t (n+1) f h3 (by omega) (by simp at hf;omega)
  rw [round_ixSes,lt_nat h1,cond_true,in_nat h1,cond_true,h2,wrap_succ (by omega),ih,eqI_eq,ixFrom]
  show _=some (i64 (bif decide (x.id=c) then _ else _),_,_)
  cases decide (x.id=c)<;>rfl
def H_ixSes:List AV→Mem→Option (Bool × AV × T Blk × Nat)
 | [.fl .ses l,.fn 66 [.ptr 0 0]],⟨.node .nil (some ⟨.raw [.int .i64 c],1,false⟩) .nil,1,0,0⟩=>some (Nat.blt l.length 1000000,i64 (ixO (bil.sesAt l c)),.node .nil (some ⟨.raw [.int .i64 c],1,false⟩) .nil,1)
 | _,_=>none
def c29:ClS:=addN 65 H_ixSes c28
theorem snd29:SoundS Tryz.prog c29:=add_mem snd28 mix ok_ixSes H_ixSes fun xs m r h1 n1 h=>by
 unfold H_ixSes at h
 split at h<;>first | (cases h;done) | skip
 rename_i l c
 simp only [Option.some.injEq,Prod.mk.injEq] at h
 obtain⟨hg,rfl,rfl,rfl⟩:=h
 refine⟨rfl,l.length+1,?_⟩
 have e:∀ L,callS c28 L s_ixSes [.fl .ses l,.fn 66 [.ptr 0 0]] ⟨.node .nil (some ⟨.raw [i64 c],1,false⟩) .nil,1,0,0⟩ (fun r m=>trimK 1 r m fun r m=>some (r,m.h,m.nx))=lpSt L L l c (.ofNat 0):=fun L=>by kernel_rfl
 refine (e _).trans ?_
 rw [loop_ixSes _ l (blt_iff.1 hg) c l 0 _ rfl (by omega) (by omega),ixFrom_zero]
 rfl
def G_sesPlace:List AV→Option (Bool × AV)
 | [.fl .ses l,.int .i64 c]=>some (Nat.blt l.length 1000000,i64 (ixO (bil.sesAt l c)))
 | _=>none
def c30:ClS:=addFz 33 [.lst .ses,.any] G_sesPlace c29
theorem snd30:SoundS Tryz.prog c30:=add_thw snd29 mix ok_sesPlace .any [.lst .ses,.any] G_sesPlace fun xs r h=>by
 unfold G_sesPlace at h
 split at h<;>first | (cases h;done) | skip
 rename_i l c
 obtain⟨hg,rfl⟩:=Prod.mk.inj (Option.some.inj h)
 refine⟨rfl,0,?_⟩
 have e:callF c29 0 s_sesPlace .any [.fl .ses l,i64 c] some=bif Nat.blt l.length 1000000 then some (i64 (ixO (bil.sesAt l c))) else none:=by kernel_rfl
 refine e.trans ?_
 rw [hg];rfl
def c31:ClS:=addD 76 (addI 64 .ses c30)
theorem snd31:SoundS Tryz.prog c31:=del_ses (ins_ses snd30)
def freshS (id:Int):bil.Ses:=⟨id,0,⟨0,0,0⟩⟩
def tailSJ (l:List bil.Ses) (s:bil.Ses) (n:Nat):Option AV :=
 bif Nat.blt l.length 1048576 then bif Nat.beq l.length l.length&&(inI (.ofNat n) (l.length+1)&&Nat.blt l.length 1000000) then bif Nat.beq (l.length+1) (l.take n++s::l.drop n).length then some (.tup [.fl .ses (l.take n++s::l.drop n),i64 0]) else none else none else none
def lpSJ (L L':Nat) (l:List bil.Ses) (id n:Int):Option AV:=loopS (evS c31 L b1_sesJoin) l1_sesJoin 0 L' (stL [(q0,.fl .ses l),(q1,i64 id),(q6,i64 n)]) m0 (k1_sesJoin c31 L fun r m=>frzK m (.tup [.lst .ses,.any]) r some)
theorem round_sesJoin (L L' n:Nat) (x:bil.Ses) (l:List bil.Ses) (id:Int):lpSJ L (Nat.succ L') (x::l) id (.ofNat n) =
 bif ltI (.ofNat n) (.ofNat (x::l).length) then bif inI (.ofNat n) (x::l).length then bif ltI (nth (t:=.ses) (x::l) n).id id then lpSJ L L' (x::l) id (wrapK .i64 (.ofNat n+1)) else tailSJ (x::l) (freshS id) n else none
 else tailSJ (x::l) (freshS id) n:=by kernel_rfl
theorem loop_sesJoin (L:Nat) (x0:bil.Ses) (l0 l:List bil.Ses) (hl0:l=x0::l0) (hl:l.length≤8) (id:Int):∀ (t:List bil.Ses) (n f:Nat),l.drop n=t→n≤l.length→t.length < f →
  lpSJ L f l id (.ofNat n)=tailSJ l (freshS id) (n+(t.takeWhile (bil.sesLt · (freshS id))).length)
 | t,n,0,_,_,hf=>by omega
 | [],n,f+1,hd,hn,hf=>by
  subst hl0
  rw [round_sesJoin,drop_nil hd hn,le_nat (Nat.le_refl _),cond_false]
  rfl
 | x::t,n,f+1,hd,hn,hf=>by
  obtain⟨h1,h2,h3⟩:=drop_cons (t:=.ses) hd
  have ih:=loop_sesJoin L x0 l0 l hl0 hl id t (n+1) f h3 (by omega) (by simp at hf;omega)
  subst hl0
  rw [round_sesJoin,lt_nat h1,cond_true,in_nat h1,cond_true,h2,wrap_succ (by omega),ih,List.takeWhile_cons,ltI_eq]
  have e:bil.sesLt x (freshS id)=decide (x.id < id):=rfl
  rw [e]
  cases decide (x.id < id) with
  | true =>
   rw [cond_true,if_pos rfl,List.length_cons]
   exact congrArg _ (by omega)
  | false=>rfl
def joinR (l:List bil.Ses) (id:Int):List bil.Ses × Int :=
 if bil.sesRight l=false∨id < 1 then ([],1) else if (bil.sesAt l id).isSome then ([],12) else if 8≤l.length then ([],14) else (bil.insF bil.sesLt (freshS id) l,0)
theorem top_sesJoin0 (id:Int):callF c31 10 s_sesJoin (.tup [.lst .ses,.any]) [.fl .ses [],i64 id] some=bif ltI id 1 then some (.tup [.fl .ses [],i64 1]) else some (.tup [.fl .ses [freshS id],i64 0]):=by kernel_rfl
theorem top_sesJoin1 (L:Nat) (x:bil.Ses) (l:List bil.Ses) (id:Int):callF c31 L s_sesJoin (.tup [.lst .ses,.any]) [.fl .ses (x::l),i64 id] some=bif bil.sesRight (x::l) then bif ltI id 1 then some (.tup [.fl .ses [],i64 1]) else
 bif true&&(true&&true)&&Nat.blt (x::l).length 1000000 then bif !ltI (ixO (bil.sesAt (x::l) id)) 0 then some (.tup [.fl .ses [],i64 12]) else bif !ltI (.ofNat (x::l).length) 8 then some (.tup [.fl .ses [],i64 14]) else lpSJ L L (x::l) id (.ofNat 0) else none
 else some (.tup [.fl .ses [],i64 1]):=by kernel_rfl
theorem joinR0 (id:Int):some (AV.tup [AV.fl .ses (joinR [] id).1,i64 (joinR [] id).2])=bif decide (id < 1) then some (AV.tup [AV.fl .ses [],i64 1]) else some (AV.tup [AV.fl .ses [freshS id],i64 0]):=by
 unfold joinR
 by_cases h:id < 1
 ·rw [if_pos (.inr h),decide_eq_true h,cond_true]
 ·have e1:(bil.sesAt [] id).isSome=false:=rfl
  have e2:bil.insF bil.sesLt (freshS id) []=[freshS id]:=rfl
  rw [if_neg (fun hh=>hh.elim (fun hh=>by simp [bil.sesRight,bil.chain] at hh) h),decide_eq_false h,cond_false,e1,if_neg (by decide),if_neg (by decide),e2]
theorem run_sesJoin (l:List bil.Ses) (id:Int):callF c31 10 s_sesJoin (.tup [.lst .ses,.any]) [.fl .ses l,i64 id] some=some (.tup [.fl .ses (joinR l id).1,i64 (joinR l id).2]):=by
 cases l with
 | nil=>rw [top_sesJoin0,joinR0,ltI_eq]
 | cons x l =>
  rw [top_sesJoin1,ltI_eq,ixO_lt]
  unfold joinR
  cases h0:bil.sesRight (x::l) with
  | false=>rw [if_pos (.inl rfl),cond_false]
  | true =>
   have hl:=ses_len h0
   rw [cond_true,bltN_true (show (x::l).length < 1000000 by omega),Bool.and_self,Bool.and_self,Bool.and_self,cond_true]
   by_cases h:id < 1
   ·rw [if_pos (.inr h),decide_eq_true h,cond_true]
   ·rw [if_neg (fun hh=>hh.elim (fun hh=>by cases hh) h),decide_eq_false h,cond_false]
    cases h1:bil.sesAt (x::l) id with
    | some k =>
     rw [show (some k:Option Nat).isNone=false from rfl,show (some k:Option Nat).isSome=true from rfl,if_pos rfl]
     rfl
    | none =>
     rw [show (none:Option Nat).isNone=true from rfl,show (none:Option Nat).isSome=false from rfl,if_neg (by decide),Bool.not_true,cond_false]
     by_cases h4:8≤(x::l).length
     ·rw [if_pos h4,lt_false (by simp only [Int.ofNat_eq_natCast];omega),Bool.not_false,cond_true]
     ·rw [if_neg h4,lt_true (by simp only [Int.ofNat_eq_natCast];omega),Bool.not_true,cond_false,loop_sesJoin 10 x l (x::l) rfl hl id (x::l) 0 10 rfl (by omega) (by omega),Nat.zero_add]
      unfold tailSJ
      obtain⟨t1,t2⟩:=insF_take (p:=(bil.sesLt · (freshS id))) (x::l)
      have tl:=tw_le (p:=(bil.sesLt · (freshS id))) (x::l)
      rw [t1,t2]
      have hins:(x::l).takeWhile (bil.sesLt · (freshS id))++freshS id::(x::l).dropWhile (bil.sesLt · (freshS id))=bil.insF bil.sesLt (freshS id) (x::l):=rfl
      rw [hins,bil.insF_len,bltN_true (by omega),beqN_true rfl,in_nat (by omega),bltN_true (by omega),beqN_true rfl]
      rfl
def G_sesJoin:List AV→Option (Bool × AV)
 | [.fl .ses l,.int .i64 id]=>some (true,.tup [.fl .ses (joinR l id).1,i64 (joinR l id).2])
 | _=>none
def c32:ClS:=addG 31 G_sesJoin c31
theorem snd32:SoundS Tryz.prog c32:=add_gn snd31 mix ok_sesJoin (.tup [.lst .ses,.any]) G_sesJoin fun xs r h=>by
 unfold G_sesJoin at h
 split at h<;>first | (cases h;done) | skip
 cases h
 exact⟨rfl,10,run_sesJoin _ _⟩
def leaveR (l:List bil.Ses) (id:Int):List bil.Ses × Int:=if bil.sesRight l=false then ([],1) else bil.sesLeave l id
theorem run_sesLeave (l:List bil.Ses) (id:Int):callF c32 10 s_sesLeave (.tup [.lst .ses,.any]) [.fl .ses l,i64 id] some=some (.tup [.fl .ses (leaveR l id).1,i64 (leaveR l id).2]):=by
 cases l with
 | nil =>
  have e:∀ L,callF c32 L s_sesLeave (.tup [.lst .ses,.any]) [.fl .ses [],i64 id] some=bif ltI (ixO (bil.sesAt [] id)) 0 then some (.tup [.fl .ses [],i64 11]) else none:=fun L=>by kernel_rfl
  rw [e,ixO_lt]
  rfl
 | cons x l =>
  have e:∀ L,callF c32 L s_sesLeave (.tup [.lst .ses,.any]) [.fl .ses (x::l),i64 id] some=bif bil.sesRight (x::l) then bif true&&(true&&true)&&Nat.blt (x::l).length 1000000 then bif ltI (ixO (bil.sesAt (x::l) id)) 0 then some (.tup [.fl .ses [],i64 11]) else
   bif Nat.blt (x::l).length 1048576 then bif Nat.beq (x::l).length (x::l).length&&(inI (ixO (bil.sesAt (x::l) id)) (x::l).length&&(eqI (wrapK .i64 (ixO (bil.sesAt (x::l) id)+1)) (ixO (bil.sesAt (x::l) id)+1)&&Nat.blt (x::l).length 1000000)) then
    bif Nat.beq ((x::l).length - 1) ((x::l).eraseIdx (ixO (bil.sesAt (x::l) id)).toNat).length then some (.tup [.fl .ses ((x::l).eraseIdx (ixO (bil.sesAt (x::l) id)).toNat),i64 0]) else none else none else none else none
   else some (.tup [.fl .ses [],i64 1]):=fun L=>by kernel_rfl
  rw [e,ixO_lt]
  unfold leaveR
  cases h0:bil.sesRight (x::l) with
  | false=>rfl
  | true =>
   have hl:=ses_len h0
   rw [cond_true,bltN_true (show (x::l).length < 1000000 by omega),if_neg (by simp)]
   unfold bil.sesLeave
   cases h1:bil.sesAt (x::l) id with
   | none=>rfl
   | some k =>
    obtain⟨h2,_,_⟩:=findIdx_some (t:=.ses) h1
    show (bif Nat.blt _ 1048576 then bif _&&(inI (.ofNat k) _&&(eqI (wrapK .i64 (.ofNat k+1)) (.ofNat k+1)&&_)) then bif Nat.beq _ ((x::l).eraseIdx k).length then _ else _ else _ else _)=_
    rw [bltN_true (show (x::l).length < 1048576 by omega),beqN_true rfl,in_nat h2,wrap_succ (by omega),eq_true' (by simp),List.length_eraseIdx_of_lt h2,beqN_true rfl]
    rfl
def G_sesLeave:List AV→Option (Bool × AV)
 | [.fl .ses l,.int .i64 id]=>some (true,.tup [.fl .ses (leaveR l id).1,i64 (leaveR l id).2])
 | _=>none
def c33:ClS:=addG 41 G_sesLeave c32
theorem snd33:SoundS Tryz.prog c33:=add_gn snd32 mix ok_sesLeave (.tup [.lst .ses,.any]) G_sesLeave fun xs r h=>by
 unfold G_sesLeave at h
 split at h<;>first | (cases h;done) | skip
 cases h
 exact⟨rfl,10,run_sesLeave _ _⟩
def rp0:bil.Rp:=⟨0,0,0⟩
def cRp (r:bil.Rp):List AV:=[i64 r.why,i64 r.number,i64 r.gross]
def lookR (l:List bil.Ses) (id seq:Int):bil.Rp × Bool × Int:=if bil.sesRight l=false then (rp0,false,1) else match bil.lookF l id seq with
 | .inr e=>(rp0,false,e)
 | .inl (r,had)=>(r,had,0)
def lookA (x:bil.Rp × Bool × Int):AV:=.tup [.agg (cRp x.1),.bool x.2.1,i64 x.2.2]
theorem run_sesLook (l:List bil.Ses) (id sq:Int):callF c33 10 s_sesLook (.tup [.any,.any,.any]) [.fl .ses l,i64 id,i64 sq] some=some (lookA (lookR l id sq)):=by
 have e:∀ L,callF c33 L s_sesLook (.tup [.any,.any,.any]) [.fl .ses l,i64 id,i64 sq] some=bif bil.sesRight l then bif true&&(true&&true)&&Nat.blt l.length 1000000 then bif ltI (ixO (bil.sesAt l id)) 0 then some (lookA (rp0,false,15)) else
  bif ltI sq 1 then some (lookA (rp0,false,1)) else bif ltI 1099511627776 sq then some (lookA (rp0,false,1)) else bif inI (ixO (bil.sesAt l id)) l.length then bif eqI sq (nth (t:=.ses) l (ixO (bil.sesAt l id)).toNat).last then
   bif inI (ixO (bil.sesAt l id)) l.length then some (lookA ((nth (t:=.ses) l (ixO (bil.sesAt l id)).toNat).rep,true,0)) else none
   else bif inI (ixO (bil.sesAt l id)) l.length then bif ltI sq (nth (t:=.ses) l (ixO (bil.sesAt l id)).toNat).last then some (lookA (rp0,false,16)) else some (lookA (rp0,false,0)) else none else none else none
  else some (lookA (rp0,false,1)):=fun L=>by kernel_rfl
 rw [e,ixO_lt]
 unfold lookR
 cases h0:bil.sesRight l with
 | false=>rfl
 | true =>
  have hl:=ses_len h0
  rw [cond_true,bltN_true (show l.length < 1000000 by omega),if_neg (by simp)]
  unfold bil.lookF
  cases h1:bil.sesAt l id with
  | none=>rfl
  | some k =>
   obtain⟨h2,h3,_⟩:=findIdx_some (t:=.ses) h1
   simp only [h3]
   by_cases a1:sq < 1
   ·rw [lt_true a1,if_pos (.inl a1)];rfl
   ·by_cases a2:1099511627776 < sq
    ·rw [lt_false (by omega:(1:Int)≤sq),lt_true a2,if_pos (.inr a2)];rfl
    ·rw [lt_false (by omega:(1:Int)≤sq),lt_false (by omega:sq≤1099511627776),if_neg (by omega)]
     show (bif inI (.ofNat k) l.length then bif eqI sq (nth (t:=.ses) l k).last then bif inI (.ofNat k) l.length then _ else _ else bif inI (.ofNat k) l.length then bif ltI sq (nth (t:=.ses) l k).last then _ else _ else _ else _)=_
     rw [in_nat h2]
     by_cases a3:sq=(nth (t:=.ses) l k).last
     ·rw [eq_true' a3,if_pos a3];rfl
     ·rw [eq_false' a3,if_neg a3]
      by_cases a4:sq < (nth (t:=.ses) l k).last
      ·rw [lt_true a4,if_pos a4];rfl
      ·rw [lt_false (by omega),if_neg a4];rfl
def G_sesLook:List AV→Option (Bool × AV)
 | [.fl .ses l,.int .i64 id,.int .i64 sq]=>some (true,lookA (lookR l id sq))
 | _=>none
def c34:ClS:=addG 14 G_sesLook c33
theorem snd34:SoundS Tryz.prog c34:=add_gn snd33 mix ok_sesLook (.tup [.any,.any,.any]) G_sesLook fun xs r h=>by
 unfold G_sesLook at h
 split at h<;>first | (cases h;done) | skip
 cases h
 exact⟨rfl,10,run_sesLook _ _ _⟩
def keepL (l:List bil.Ses) (k:Nat) (sq:Int) (r:bil.Rp):List bil.Ses :=
 (l.set k { nth (t:=.ses) l k with last:=sq }).set k { nth (t:=.ses) (l.set k { nth (t:=.ses) l k with last:=sq }) k with rep:=r }
theorem keepL_eq {l:List bil.Ses} {k:Nat} (h:k < l.length) (sq:Int) (r:bil.Rp):keepL l k sq r=l.set k { nth (t:=.ses) l k with last:=sq,rep:=r }:=by
 unfold keepL
 rw [List.set_set,nth_get (t:=.ses) (l:=l.set k _) (by rw [List.length_set];exact h)]
 rw [List.getElem_set_self]
def keepR (l:List bil.Ses) (id sq:Int) (r:bil.Rp):List bil.Ses × Int:=if (lookR l id sq).2.2≠0 then ([],(lookR l id sq).2.2) else if (lookR l id sq).2.1=true then ([],12) else (bil.keepF l id sq r,0)
theorem look_ok {l:List bil.Ses} {id sq:Int} (h:(lookR l id sq).2.2=0):bil.sesRight l=true∧∃ k,bil.sesAt l id=some k∧k < l.length∧l[k]?=some (nth (t:=.ses) l k)∧∃ r,bil.lookF l id sq=.inl (r,(lookR l id sq).2.1):=by
 unfold lookR at h ⊢
 cases h0:bil.sesRight l with
 | false=>rw [h0] at h;simp at h
 | true =>
  rw [h0] at h
  refine⟨rfl,?_⟩
  rw [if_neg (by simp)] at h ⊢
  cases h1:bil.sesAt l id with
  | none=>unfold bil.lookF at h;rw [h1] at h;simp at h
  | some k =>
   obtain⟨h2,h3,_⟩:=findIdx_some (t:=.ses) h1
   refine⟨k,rfl,h2,h3,?_⟩
   cases h4:bil.lookF l id sq with
   | inr e =>
    rw [h4] at h
    simp only at h
    exfalso
    unfold bil.lookF at h4
    rw [h1] at h4
    simp only [h3] at h4
    split at h4
    ·cases h4;cases h
    ·split at h4
     ·cases h4
     ·split at h4
      ·cases h4;cases h
      ·cases h4
   | inl q=>exact⟨q.1,rfl⟩
theorem run_sesKeep (l:List bil.Ses) (id sq:Int) (r:bil.Rp):callF c34 10 s_sesKeep (.tup [.lst .ses,.any]) [.fl .ses l,i64 id,i64 sq,.agg (cRp r)] some=some (.tup [.fl .ses (keepR l id sq r).1,i64 (keepR l id sq r).2]):=by
 cases l with
 | nil =>
  have e:∀ L,callF c34 L s_sesKeep (.tup [.lst .ses,.any]) [.fl .ses [],i64 id,i64 sq,.agg (cRp r)] some=bif (lookR [] id sq).2.1 then bif !eqI (lookR [] id sq).2.2 0 then some (.tup [.fl .ses [],i64 (lookR [] id sq).2.2]) else some (.tup [.fl .ses [],i64 12]) else
   bif !eqI (lookR [] id sq).2.2 0 then some (.tup [.fl .ses [],i64 (lookR [] id sq).2.2]) else none:=fun L=>by kernel_rfl
  rw [e]
  rfl
 | cons x l =>
  have e:∀ L,callF c34 L s_sesKeep (.tup [.lst .ses,.any]) [.fl .ses (x::l),i64 id,i64 sq,.agg (cRp r)] some=bif (lookR (x::l) id sq).2.1 then bif !eqI (lookR (x::l) id sq).2.2 0 then some (.tup [.fl .ses [],i64 (lookR (x::l) id sq).2.2]) else some (.tup [.fl .ses [],i64 12]) else
   bif !eqI (lookR (x::l) id sq).2.2 0 then some (.tup [.fl .ses [],i64 (lookR (x::l) id sq).2.2]) else
   bif Nat.blt (x::l).length 1048576 then bif Nat.beq (x::l).length (x::l).length&&(true&&true)&&Nat.blt (x::l).length 1000000 then bif inI (ixO (bil.sesAt (x::l) id)) (x::l).length then bif Nat.blt (ixO (bil.sesAt (x::l) id)).toNat (x::l).length then
    bif inI (ixO (bil.sesAt (x::l) id)) (x::l).length then bif Nat.blt (ixO (bil.sesAt (x::l) id)).toNat ((x::l).set (ixO (bil.sesAt (x::l) id)).toNat { nth (t:=.ses) (x::l) (ixO (bil.sesAt (x::l) id)).toNat with last:=sq }).length then
     bif Nat.beq (x::l).length (keepL (x::l) (ixO (bil.sesAt (x::l) id)).toNat sq r).length then some (.tup [.fl .ses (keepL (x::l) (ixO (bil.sesAt (x::l) id)).toNat sq r),i64 0]) else none else none else none else none else none else none else none:=fun L=>by kernel_rfl
  rw [e]
  unfold keepR
  by_cases h:(lookR (x::l) id sq).2.2=0
  ·obtain⟨h0,k,h1,h2,h3,r',h4⟩:=look_ok h
   have hl:=ses_len h0
   rw [eq_true' h,if_neg (by simp [h])]
   cases hb:(lookR (x::l) id sq).2.1 with
   | true=>rfl
   | false =>
    rw [if_neg (by simp),h1]
    show (bif Nat.blt _ 1048576 then bif _&&_&&_ then bif inI (.ofNat k) _ then bif Nat.blt k _ then bif inI (.ofNat k) _ then bif Nat.blt k ((x::l).set k _).length then bif Nat.beq _ (keepL (x::l) k sq r).length then some (AV.tup [AV.fl .ses (keepL (x::l) k sq r),i64 0]) else _ else _ else _ else _ else _ else _ else _)=_
    rw [bltN_true (show (x::l).length < 1048576 by omega),beqN_true rfl,bltN_true (show (x::l).length < 1000000 by omega),in_nat h2,bltN_true h2,List.length_set,bltN_true h2,keepL_eq h2,List.length_set,beqN_true rfl]
    rw [hb] at h4
    unfold bil.keepF
    rw [h4]
    simp only [h1,h3]
    rfl
  ·rw [eq_false' h,if_pos h]
   cases (lookR (x::l) id sq).2.1<;>rfl
def G_sesKeep:List AV→Option (Bool × AV)
 | [.fl .ses l,.int .i64 id,.int .i64 sq,.agg [.int .i64 w,.int .i64 n,.int .i64 g]]=>some (true,.tup [.fl .ses (keepR l id sq ⟨w,n,g⟩).1,i64 (keepR l id sq ⟨w,n,g⟩).2])
 | _=>none
def c35:ClS:=addG 16 G_sesKeep c34
theorem snd35:SoundS Tryz.prog c35:=add_gn snd34 mix ok_sesKeep (.tup [.lst .ses,.any]) G_sesKeep fun xs r h=>by
 unfold G_sesKeep at h
 split at h<;>first | (cases h;done) | skip
 rename_i l id sq w n g
 cases h
 exact⟨rfl,10,run_sesKeep l id sq ⟨w,n,g⟩⟩
end Go.Proofs.YtbknmeafcbhicaaGreatDoor.Ev

/- Functions as the machine for symbols has them; they are the program's. Written by program (sytold.py). -/
namespace Go.Proofs.YtbknmeafcbhicaaGreatDoor.Ev
open Go Z
set_option maxRecDepth 100000
def l1_entries:List Path:=[q4,q16,q17,q18]
def b1_entries:SC:=(s (r [o q19 (.bin .lss) [.t q18,.t q17] 0]) (s (c q19 .skip (.exit 0)) (s (.blk 1 (s (r [o q20 (.ixs 4) [.t q16,.t q18] 0,o q21 (.ldn 4) [.t q20] 1,o q6 (.new [(.str []),(.int .i64 (0)),(.int .i64 (0)),(.int .i64 (0))]) [] 0,u (.st 4) [.t q6,.t q21] 7]) (s (r [o q23 (.fad 2) [.t q6] 0,o q24 .ld1 [.t q23] 1,o q25 (.call 97) [i 0,.t q24] 3,m q22 q25 7,o q26 (.ext 0) [.t q22] 15,o q27 (.ext 1) [.t q22] 15,m q7 q26 31,m q8 q27 127]) (s (r [o q29 (.fad 3) [.t q6] 0,o q30 .ld1 [.t q29] 1,o q31 (.call 97) [i 0,.t q30] 3,m q28 q31 7,o q32 (.ext 0) [.t q28] 15,o q33 (.ext 1) [.t q28] 15,m q9 q32 31,m q10 q33 127]) (s (s (r [m q34 q8 0,o q35 (.bin .neq) [.t q34,i 0] 1,m q36 q35 3,g q37 .mov [.t q10] q36 false 7,g q38 (.bin .neq) [.t q37,i 0] q36 false 15,o q39 .pick [.t q36,.c (.bool true),.t q38] 31]) (c q39 (s (r [o q2 .mov [.c .nilsl] 0,o q3 .mov [i 7] 1]) .ret) .skip)) (r [m q40 q4 0,o q41 (.fad 0) [.t q6] 0,o q42 .ld1 [.t q41] 2,o q43 (.sbin .add) [.c (.str [110,101,116,47]),.t q42] 6,m q44 q7 0,o q45 (.build [(.str []),(.int .i64 (0))] [(0,1),(1,1)]) [.t q43,.t q44] 30,o q46 (.fad 0) [.t q6] 0,o q47 .ld1 [.t q46] 64,o q48 (.sbin .add) [.c (.str [116,97,120,47]),.t q47] 192,m q49 q9 0,o q50 (.build [(.str []),(.int .i64 (0))] [(0,1),(1,1)]) [.t q48,.t q49] 960,o q51 (.bsl [(.str []),(.int .i64 (0))] 2 2 [(0,2),(2,2)]) [.t q45,.t q50] 2046,⟨⟨q52,(.app 2 24),[.t q40,.t q51],none,4095⟩,(.ty .bal 0)⟩,m q4 q52 8191])))))) (r [o q53 (.bin .add) [.t q18,i 1] 0,m q18 q53 1]))))
def a1_entries:SC:=(s (r [m q54 q4 0,m q2 q54 1,o q3 .mov [i 0] 3]) .ret)
def s_entries:FnS:=⟨55,(s (r [o q1 .box [.t q0] 0,o q2 .mov [.c .nilsl] 0,o q3 .mov [i 0] 2]) (s (r [o q11 (.fad 2) [.t q1] 0,o q12 .ld1 [.t q11] 1,o q13 (.build [(.str []),(.int .i64 (0))] [(0,1),(1,1)]) [.c (.str [111,119,101,100]),.t q12] 3,o q14 (.bsl [(.str []),(.int .i64 (0))] 1 2 [(0,2)]) [.t q13] 7,m q4 q14 15]) (s (s (r [o q15 (.fad 3) [.t q1] 0,o q16 .ld1 [.t q15] 1,o q17 .len [.t q16] 3,o q18 .mov [i 0] 0]) (.blk 0 (.loop l1_entries 0 b1_entries))) a1_entries))),[.t q2,.t q3]⟩
def k1_entries {β:Type} (cl:ClS) (L:Nat) (K:AV→Mem→Option β):Ex→T AV→Mem→Option β:=kBlk 0 (kSeq (evS cl L a1_entries) (endS s_entries.res K))
theorem ok_entries:FnOkS Tryz.prog 62 s_entries:=fnOkS_of Tryz.func62 (by kernel_rfl) (by kernel_rfl) Tryz.ntmps62 (by kernel_rfl) (by kernel_rfl)
def l1_bookRight:List Path:=[q0,q3]
def b1_bookRight:SC:=(s (s (r [m q4 q3 0,m q5 q0 0,o q6 .len [.t q5] 2,o q7 (.bin .lss) [.t q4,.t q6] 7]) (c q7 .skip (.exit 0))) (s (.blk 1 (s (d [m q10 q0 0,m q11 q3 0,o q12 (.bin .sub) [.t q11,i 1] 2,o q13 (.ixs 2) [.t q10,.t q12] 7,o q14 (.fad 0) [.t q13] 15,o q15 .ld1 [.t q14] 31,m q16 q0 0,m q17 q3 0,o q18 (.ixs 2) [.t q16,.t q17] 192,o q19 (.fad 0) [.t q18] 448,o q20 .ld1 [.t q19] 960,o q21 (.sbin .geq) [.t q15,.t q20] 2047]) (c q21 (s (r [o q2 .mov [.c (.bool false)] 0]) .ret) .skip))) (r [m q8 q3 0,o q9 (.bin .add) [.t q8,i 1] 1,m q3 q9 3])))
def a1_bookRight:SC:=(s (r [o q2 .mov [.c (.bool true)] 0]) .ret)
def s_bookRight:FnS:=⟨22,(s (r [o q2 .mov [.c (.bool false)] 0]) (s (s (r [o q3 .mov [i 1] 0]) (.blk 0 (.loop l1_bookRight 0 b1_bookRight))) a1_bookRight)),[.t q2]⟩
def k1_bookRight {β:Type} (cl:ClS) (L:Nat) (K:AV→Mem→Option β):Ex→T AV→Mem→Option β:=kBlk 0 (kSeq (evS cl L a1_bookRight) (endS s_bookRight.res K))
theorem ok_bookRight:FnOkS Tryz.prog 98 s_bookRight:=fnOkS_of Tryz.func98 (by kernel_rfl) (by kernel_rfl) Tryz.ntmps98 (by kernel_rfl) (by kernel_rfl)
def l1_enter:List Path:=[q6,q17,q18,q19]
def l2_enter:List Path:=[q6,q8,q9,q17,q18,q19]
def b2_enter:SC:=(s (s (d [m q23 q9 0,m q24 q6 0,o q25 .len [.t q24] 2,o q26 (.bin .lss) [.t q23,.t q25] 7,m q27 q26 15,g q28 .mov [.t q6] q27 true 31,g q29 .mov [.t q9] q27 true 31,g q30 (.ixs 2) [.t q28,.t q29] q27 true 127,g q31 (.fad 0) [.t q30] q27 true 255,g q32 .ld1 [.t q31] q27 true 511,g q33 (.fad 0) [.t q8] q27 true 31,g q34 .ld1 [.t q33] q27 true 1055,g q35 (.sbin .lss) [.t q32,.t q34] q27 true 4095,o q36 .pick [.t q27,.t q35,.c (.bool false)] 8191]) (c q36 .skip (.exit 2))) (.blk 3 (r [m q37 q9 0,o q38 (.bin .add) [.t q37,i 1] 1,m q9 q38 3])))
def a3_enter:SC:=(s (s (d [m q39 q9 0,m q40 q6 0,o q41 .len [.t q40] 2,o q42 (.bin .eql) [.t q39,.t q41] 7,m q43 q42 15,g q44 .mov [.t q6] q43 false 31,g q45 .mov [.t q9] q43 false 31,g q46 (.ixs 2) [.t q44,.t q45] q43 false 127,g q47 (.fad 0) [.t q46] q43 false 255,g q48 .ld1 [.t q47] q43 false 511,g q49 (.fad 0) [.t q8] q43 false 31,g q50 .ld1 [.t q49] q43 false 1055,g q51 (.sbin .neq) [.t q48,.t q50] q43 false 4095,o q52 .pick [.t q43,.c (.bool true),.t q51] 8191]) (c q52 (r [m q53 q6 0,m q54 q9 0,o q55 (.fad 0) [.t q8] 0,o q56 .ld1 [.t q55] 4,o q57 (.build [(.str []),(.int .i64 (0))] [(0,1)]) [.t q56] 12,o q58 (.bsl [(.str []),(.int .i64 (0))] 1 2 [(0,2)]) [.t q57] 28,o q59 (.call 99) [.t q53,.t q54,.t q58] 63,m q6 q59 127]) .skip)) (s (d [m q61 q6 0,m q62 q9 0,o q63 (.ixs 2) [.t q61,.t q62] 3,o q64 (.fad 1) [.t q63] 7,o q65 .ld1 [.t q64] 15,o q66 (.fad 1) [.t q8] 0,o q67 .ld1 [.t q66] 32,o q68 (.call 100) [.t q65,.t q67] 127,m q60 q68 255,o q69 (.ext 0) [.t q60] 511,o q70 (.ext 1) [.t q60] 511,m q10 q69 1023,m q11 q70 4095]) (s (s (r [m q71 q11 0,o q72 (.bin .neq) [.t q71,i 0] 1]) (c q72 (s (r [m q73 q11 0,o q4 .mov [.c .nilsl] 0,m q5 q73 3]) .ret) .skip)) (r [m q74 q6 0,m q75 q9 0,m q76 q10 0,o q77 (.ixs 2) [.t q74,.t q75] 7,o q78 (.fad 1) [.t q77] 15,u (.st 1) [.t q78,.t q76] 31]))))
def a2_enter:SC:=(r [o q79 (.bin .add) [.t q19,i 1] 0,m q19 q79 1])
def b1_enter:SC:=(s (r [o q20 (.bin .lss) [.t q19,.t q18] 0]) (s (c q20 .skip (.exit 0)) (s (.blk 1 (s (r [o q21 (.ixs 2) [.t q17,.t q19] 0,o q22 (.ldn 2) [.t q21] 1,o q8 (.new [(.str []),(.int .i64 (0))]) [] 0,u (.st 2) [.t q8,.t q22] 7]) (s (r [o q9 .mov [i 0] 0]) (s (.blk 2 (.loop l2_enter 0 b2_enter)) a3_enter)))) a2_enter)))
def a1_enter:SC:=(s (r [m q80 q6 0,m q4 q80 1,o q5 .mov [i 0] 3]) .ret)
def s_enter:FnS:=⟨81,(s (r [o q4 .mov [.c .nilsl] 0,o q5 .mov [i 0] 1]) (s (s (r [m q12 q0 0,o q13 (.call 98) [.t q12] 1,o q14 (.un .not) [.t q13] 3]) (c q14 (s (r [o q4 .mov [.c .nilsl] 0,o q5 .mov [i 1] 1]) .ret) .skip)) (s (r [m q15 q0 0,o q16 (.app 2 24) [.c .nilsl,.t q15] 1,m q6 q16 3]) (s (s (r [m q17 q1 0,o q18 .len [.t q17] 1,o q19 .mov [i 0] 0]) (.blk 0 (.loop l1_enter 0 b1_enter))) a1_enter)))),[.t q4,.t q5]⟩
def k1_enter {β:Type} (cl:ClS) (L:Nat) (K:AV→Mem→Option β):Ex→T AV→Mem→Option β:=kBlk 0 (kSeq (evS cl L a1_enter) (endS s_enter.res K))
def k2_enter {β:Type} (cl:ClS) (L L1:Nat) (K:AV→Mem→Option β):Ex→T AV→Mem→Option β:=kBlk 2 (kSeq (evS cl L a3_enter) (kBlk 1 (kSeq (evS cl L a2_enter) (kLoop (evS cl L b1_enter) l1_enter 0 L1 (kBlk 0 (kSeq (evS cl L a1_enter) (endS s_enter.res K)))))))
theorem ok_enter:FnOkS Tryz.prog 63 s_enter:=fnOkS_of Tryz.func63 (by kernel_rfl) (by kernel_rfl) Tryz.ntmps63 (by kernel_rfl) (by kernel_rfl)
def l1_balEq:List Path:=[q0,q1,q12,q13]
def b1_balEq:SC:=(s (r [o q14 (.bin .lss) [.t q13,.t q12] 0]) (s (c q14 .skip (.exit 0)) (s (.blk 1 (s (r [m q15 q13 0,m q5 q15 1]) (s (d [m q16 q0 0,m q17 q5 0,o q18 (.ixs 2) [.t q16,.t q17] 3,o q19 (.ldn 2) [.t q18] 7,m q20 q1 0,m q21 q5 0,o q22 (.ixs 2) [.t q20,.t q21] 48,o q23 (.ldn 2) [.t q22] 112,o q24 (.eqa true [(0,.str),(1,.int)]) [.t q19,.t q23] 255]) (c q24 (s (r [o q4 .mov [.c (.bool false)] 0]) .ret) .skip)))) (r [o q25 (.bin .add) [.t q13,i 1] 0,m q13 q25 1]))))
def a1_balEq:SC:=(s (r [o q4 .mov [.c (.bool true)] 0]) .ret)
def s_balEq:FnS:=⟨26,(s (r [o q4 .mov [.c (.bool false)] 0]) (s (s (r [m q6 q0 0,o q7 .len [.t q6] 1,m q8 q1 0,o q9 .len [.t q8] 4,o q10 (.bin .neq) [.t q7,.t q9] 15]) (c q10 (s (r [o q4 .mov [.c (.bool false)] 0]) .ret) .skip)) (s (s (r [m q11 q0 0,o q12 .len [.t q11] 1,o q13 .mov [i 0] 0]) (.blk 0 (.loop l1_balEq 0 b1_balEq))) a1_balEq))),[.t q4]⟩
def k1_balEq {β:Type} (cl:ClS) (L:Nat) (K:AV→Mem→Option β):Ex→T AV→Mem→Option β:=kBlk 0 (kSeq (evS cl L a1_balEq) (endS s_balEq.res K))
theorem ok_balEq:FnOkS Tryz.prog 30 s_balEq:=fnOkS_of Tryz.func30 (by kernel_rfl) (by kernel_rfl) Tryz.ntmps30 (by kernel_rfl) (by kernel_rfl)
end Go.Proofs.YtbknmeafcbhicaaGreatDoor.Ev

/- Contract of money.Exact: all together, reckoned exactly. -/
namespace Go.Proofs.YtbknmeafcbhicaaGreatDoor
open Go.RowKit
theorem add64_is (x y c:Int) (hx:0≤x) (hy:0≤y) (hc0:0≤c) (hc:c≤1) (w:World) :
  (callFunc 197 #[.int .u64 x,.int .u64 y,.int .u64 c]).run Tryz.prog w=.ok (.value (.tuple #[.int .u64 ((x+y+c) % 18446744073709551616),.int .u64 ((x+y+c) / 18446744073709551616)])) w:=by
 rw [run_callFunc_extern Tryz.func197 (by kernel_rfl) (by kernel_rfl) (by kernel_rfl) (e:=add64Entry) (by kernel_rfl),run_add64 x y c hx hy hc0 hc]
 rfl
theorem exact_step (low high x s:Int) (hl0:0≤low) (hl1:low < 18446744073709551616) (hh0:0≤high) (hh1:high < 18446744073709551616) (hx0:-9223372036854775808≤x) (hx1:x≤9223372036854775807)
  (he:high*18446744073709551616+low=s % 340282366920938463463374607431768211456) (g:Int) (hg:(x < 0∧g=18446744073709551615)∨(0≤x∧g=0)) :
  0≤IntKind.u64.wrap x∧0≤(low+IntKind.u64.wrap x+0) / 18446744073709551616∧(low+IntKind.u64.wrap x+0) / 18446744073709551616≤1 ∧
   (high+g+(low+IntKind.u64.wrap x+0) / 18446744073709551616) % 18446744073709551616*18446744073709551616+(low+IntKind.u64.wrap x+0) % 18446744073709551616=(s+x) % 340282366920938463463374607431768211456:=by
 rw [IntKind.wrap_u64]
 rcases hg with⟨h1,rfl⟩ | ⟨h1,rfl⟩
 ·have e:x % 18446744073709551616=x+18446744073709551616:=by omega
  rw [e];omega
 ·have e:x % 18446744073709551616=x:=by omega
  rw [e];omega
theorem exact_end (low high s:Int) (hl0:0≤low) (hl1:low < 18446744073709551616) (hh0:0≤high) (hh1:high < 18446744073709551616) (hs0:-85070591730234615865843651857942052864≤s) (hs1:s≤85070591730234615865843651857942052864)
  (he:high*18446744073709551616+low=s % 340282366920938463463374607431768211456) :
  IntKind.i64.wrap low=IntKind.i64.wrap s∧(low < 9223372036854775808→(high=0↔In64 s))∧(¬ low < 9223372036854775808→(high=18446744073709551615↔In64 s)):=by
 rw [IntKind.wrap_i64,IntKind.wrap_i64]
 unfold In64
 refine⟨?_,?_,?_⟩
 ·omega
 ·intro h
  omega
 ·intro h
  omega
def sumT (l:List Int) (k:Nat):Int:=(l.take k).sum
theorem sumT_succ {l:List Int} {k:Nat} (h:k < l.length):sumT l (k+1)=sumT l k+l[k]:=by
 unfold sumT
 rw [List.take_succ_eq_append_getElem h,List.sum_append]
 simp
theorem sumT_bd {l:List Int} (hI:∀ x∈l,In64 x):∀ k:Nat,-9223372036854775808*(k:Int)≤sumT l k∧sumT l k≤9223372036854775808*(k:Int)
 | 0=>by simp [sumT]
 | k+1=>by
  have ih:=sumT_bd hI k
  by_cases h:k < l.length
  ·rw [sumT_succ h]
   have:=hI l[k] (List.getElem_mem h)
   unfold In64 at this
   omega
  ·have e:sumT l (k+1)=sumT l k:=by unfold sumT;rw [List.take_of_length_le (by omega),List.take_of_length_le (by omega)]
   rw [e];omega
set_option maxHeartbeats 2000000 in
set_option maxRecDepth 100000 in
theorem exact_cons (l:List Int) (b o cap:Nat) (w:World) (hI:∀ x∈l,In64 x) (hn:l.length < 1000000) (hb:b < w.heap.size) (hc:∀ (n:Nat) (h:n < l.length),w.cell? ⟨b,o+n,none⟩=some (.int .i64 l[n])) :
  Calls Tryz.prog 150 #[.slice (some ⟨b,o,none⟩) l.length cap] w fun e w'=>e=.returned (.tuple #[.int .i64 (IntKind.i64.wrap l.sum),.bool (decide (bil.I64 l.sum))])∧Ext w w':=by
 have HI:=Lib.hid hI
 have HC:=Lib.hid hc
 clear hI hc
 go_enter Tryz.func150,Tryz.ntmps150
 go_wp2
 go_loopw [4,5,12] (fun hi lo i wr=>∃ (k:Nat) (high low:Int),k≤l.length∧hi=.int .u64 high∧lo=.int .u64 low∧i=.int .i64 k∧0≤high∧high < 18446744073709551616∧0≤low∧low < 18446744073709551616∧high*18446744073709551616+low=sumT l k % 340282366920938463463374607431768211456∧Ext w wr) (fun _ _ i _=>l.length - (intOf i).toNat)
 case atStart=>exact⟨0,0,0,Nat.zero_le _,rfl,rfl,rfl,by decide,by decide,by decide,by decide,rfl,Ext.refl _⟩
 case round =>
  obtain⟨k,high,low,hk,rfl,rfl,rfl,h1,h2,h3,h4,h5,hx⟩:=hrel
  have H5:=Lib.hid h5
  clear h5
  by_cases hlt:k < l.length
  ·have hcell:=(hx.cell (p:=⟨b,o+k,none⟩) hb).trans (HC.out k hlt)
   have hxI:=HI.out l[k] (List.getElem_mem hlt)
   have hsu:=sumT_succ hlt
   unfold In64 at hxI
   obtain⟨x1,x2⟩:=hxI
   have HSU:=Lib.hid hsu
   clear hsu
   generalize l[k]=x at *
   have hxor:bits BinOp.xor IntKind.u64 IntKind.u64.max 0=18446744073709551615:=by kernel_rfl
   by_cases hneg:x < 0
   ·obtain⟨y1,y2,y3,y4⟩:=exact_step low high x (sumT l k) h3 h4 h1 h2 x1 x2 H5.out _ (.inl ⟨hneg,rfl⟩)
    have e1:=add64_is low (IntKind.u64.wrap x) 0 h3 y1 (by decide) (by decide) wr
    have e2:=add64_is high 18446744073709551615 ((low+IntKind.u64.wrap x+0) / 18446744073709551616) h1 (by decide) y2 y3 wr
    rw [Int.add_zero] at e1 e2 y4
    have Y4:=Lib.hid y4
    clear y4
    go_wp2_with (first | simp only [e1] | simp only [e2])
    refine⟨⟨k+1,_,_,by omega,rfl,rfl,by simp,Int.emod_nonneg _ (by decide),Int.emod_lt_of_pos _ (by decide),Int.emod_nonneg _ (by decide),Int.emod_lt_of_pos _ (by decide),by rw [HSU.out];exact Y4.out,hx⟩,?_⟩
    show l.length - ((k:Int)+1).toNat < l.length - (k:Int).toNat
    omega
   ·obtain⟨y1,y2,y3,y4⟩:=exact_step low high x (sumT l k) h3 h4 h1 h2 x1 x2 H5.out _ (.inr ⟨by omega,rfl⟩)
    have hw:IntKind.u64.wrap x=x:=by rw [IntKind.wrap_u64];omega
    have e1:=add64_is low (IntKind.u64.wrap x) 0 h3 y1 (by decide) (by decide) wr
    have e2:=add64_is high 0 ((low+IntKind.u64.wrap x+0) / 18446744073709551616) h1 (by decide) y2 y3 wr
    rw [Int.add_zero,hw] at e1 e2 y4
    rw [Int.add_zero] at e2 y4
    have Y4:=Lib.hid y4
    clear y4 y1 y2 y3 hw
    go_wp2_with (first | simp only [e1] | simp only [e2])
    refine⟨⟨k+1,_,_,by omega,rfl,rfl,by simp,Int.emod_nonneg _ (by decide),Int.emod_lt_of_pos _ (by decide),Int.emod_nonneg _ (by decide),Int.emod_lt_of_pos _ (by decide),by rw [HSU.out];exact Y4.out,hx⟩,?_⟩
    show l.length - ((k:Int)+1).toNat < l.length - (k:Int).toNat
    omega
  ·obtain rfl:k=l.length:=by omega
   have hT:sumT l l.length=l.sum:=by unfold sumT;rw [List.take_length]
   have hbd:=sumT_bd (l:=l) (fun x hx=>HI.out x hx) l.length
   have h5:=H5.out
   rw [hT] at h5 hbd
   obtain⟨z1,z2,z3⟩:=exact_end low high l.sum h3 h4 h1 h2 (by omega) (by omega) h5
   clear h5 hbd hT
   have fin:∀ (p:Bool),(p=true↔In64 l.sum)→Ending.returned (.tuple #[.int .i64 (IntKind.i64.wrap low),.bool p])=.returned (.tuple #[.int .i64 (IntKind.i64.wrap l.sum),.bool (decide (bil.I64 l.sum))]):=fun p hp=>by
    have e:p=decide (bil.I64 l.sum):=by
     rw [Bool.eq_iff_iff,decide_eq_true_iff]
     exact hp
    rw [z1,e]
   have FIN:=Lib.hid fin
   have hw64:IntKind.i64.wrap low=wrap64 low:=by rw [IntKind.wrap_i64];unfold wrap64;omega
   have FINW:=Lib.hid (hw64 ▸ FIN.out)
   clear fin z1 hw64
   by_cases hlow:low < 9223372036854775808
   ·have z4:=z2 hlow
    have hq:low / 9223372036854775808=0:=by omega
    have hw:IntKind.i64.wrap low=low:=by rw [IntKind.wrap_i64];omega
    have FIN2:=Lib.hid (hw ▸ FIN.out)
    by_cases hh:high=0
    ·have Z:=Lib.hid (FIN2.out true (by simpa [hh] using z4))
     clear z2 z3 z4 hw
     subst hh
     go_wp2
     go_ret2
     exact⟨Z.out,hx⟩
    ·have Z:=Lib.hid (FIN2.out false (by simpa [hh] using z4))
     have hh2:((high:Int) == 0)=false:=by simpa using hh
     clear z2 z3 z4 hw hh
     go_wp2
     go_ret2
     exact⟨Z.out,hx⟩
   ·have z4:=z3 hlow
    have hq:low / 9223372036854775808=1:=by omega
    by_cases hh:high=18446744073709551615
    ·have Z:=Lib.hid (FINW.out true (by simpa [hh] using z4))
     clear z2 z3 z4
     subst hh
     go_wp2
     go_ret2
     exact⟨Z.out,hx⟩
    ·have Z:=Lib.hid (FINW.out false (by simpa [hh] using z4))
     have hh2:((high:Int) == 18446744073709551615)=false:=by simpa using hh
     clear z2 z3 z4 hh
     go_wp2
     go_ret2
     exact⟨Z.out,hx⟩
set_option maxRecDepth 100000 in
theorem exact_nil (a:Option Addr) (cap:Nat) (w:World) :
  Calls Tryz.prog 150 #[.slice a 0 cap] w fun e w'=>e=.returned (.tuple #[.int .i64 0,.bool true])∧Ext w w':=by
 go_enter Tryz.func150,Tryz.ntmps150
 go_wp2
 go_loopw [4,5,12] (fun hi lo i wr=>hi=.int .u64 0∧lo=.int .u64 0∧i=.int .i64 0∧Ext w wr) (fun _ _ i _=>0 - (intOf i).toNat)
 case atStart=>exact⟨rfl,rfl,rfl,Ext.refl _⟩
 case round =>
  obtain⟨rfl,rfl,rfl,hx⟩:=hrel
  go_wp2
  go_ret2
  exact⟨rfl,hx⟩
end Go.Proofs.YtbknmeafcbhicaaGreatDoor

/- Exact, as an oracle; what is entered into accounts. -/
namespace Go.Proofs.YtbknmeafcbhicaaGreatDoor.Ev
open Go
def exN (l:List Int):Int:=IntKind.i64.wrap l.sum
def exB (l:List Int):Bool:=decide (bil.I64 l.sum)
def G_Exact:List AV→Option (Bool × AV)
 | [.fl .int l]=>some (l.all gI&&Nat.blt l.length 1000000,.tup [i64 (exN l),.bool (exB l)])
 | _=>none
def c36:ClS:=addFz 150 [.lst .int] G_Exact c35
theorem snd36:SoundS Tryz.prog c36:=add_thw0 snd35 (add_hand snd35 Tryz.func150 (by kernel_rfl) (by kernel_rfl) G_Exact fun xs r h ρ w ys hice hv=>by
 unfold G_Exact at h
 split at h<;>first | (cases h;done) | skip
 rename_i l
 obtain⟨hg,rfl⟩:=Prod.mk.inj (Option.some.inj h)
 rw [Bool.and_eq_true,List.all_eq_true,blt_iff] at hg
 obtain⟨hg,hlen⟩:=hg
 obtain⟨v,rfl,h1⟩:=vrs_one hv
 have nil:∀ a cap,Calls Tryz.prog 150 #[.slice a 0 cap] w fun e w'=>∃ v,e=.returned v∧VR ρ (.tup [i64 (exN []),.bool (exB [])]) v∧Ext w w':=fun a cap =>
  (exact_nil a cap w).mono fun e w' ⟨he,hx⟩=>⟨_,he,(VRs.cons (.int _ _) (VRs.cons (.bool _) .nil)).tup,hx⟩
 cases h1 with
 | fl0 t=>exact nil _ _
 | fle t a cap=>exact nil _ _
 | fl hi hs hc hcell =>
  rename_i b o cap c
  obtain⟨e,fz,hh⟩:=hice b c hi
  refine (exact_cons l b o cap w (fun x hx=>gI_iff.1 (hg x hx)) hlen (Array.getElem?_eq_some_iff.1 hh).1 fun n hn=>?_).mono fun e w' ⟨he,hx⟩=>⟨_,he,(VRs.cons (.int _ _) (VRs.cons (.bool _) .nil)).tup,hx⟩
  have hs':o+l.length*1≤c.size:=hs
  have hlt:o+n < c.size:=by omega
  have hy:c[o+n]?=some c[o+n]:=Array.getElem?_eq_getElem hlt
  have hn2:nth (t:=.int) l n=l[n]:=nth_get (t:=.int) hn
  have:=hcell n 0 (i64 l[n]) c[o+n] hn (by rw [hn2];rfl) (by rw [show o+n*wd .int+0=o+n by show o+n*1+0=_;omega];exact hy)
  have hv2:c[o+n]=.int .i64 l[n]:=by
   generalize c[o+n]=q at this
   cases this;rfl
  unfold World.cell?
  simp [hh,hy,hv2]) [.lst .int]
theorem sub_neg (n:Int):subR 0 n=optR (bil.negZ n):=by
 unfold subR bil.negZ
 rw [Int.zero_sub]
theorem entF_cons (p:bil.Pt) (ps:List bil.Pt):bil.entF (p::ps)=match bil.negZ p.net with
  | none=>none
  | some n=>match bil.negZ p.tax with
   | none=>none
   | some x=>(bil.entF ps).map fun l=>⟨bil.netA p.cat,n⟩::⟨bil.taxA p.cat,x⟩::l:=by
 rw [bil.entF]
 cases bil.negZ p.net with
 | none=>rfl
 | some n=>cases bil.negZ p.tax<;>rfl
def enT (p:bil.Pt):List bil.Bal:=[⟨⟨⟨[110,101,116,47]++p.cat.data.toList⟩⟩,(subR 0 p.net).1⟩,⟨⟨⟨[116,97,120,47]++p.cat.data.toList⟩⟩,(subR 0 p.tax).1⟩]
theorem netA_eq (c:ByteArray):bil.netA c=⟨⟨[110,101,116,47]++c.data.toList⟩⟩:=by
 refine bil.ba_ext ?_
 unfold bil.netA
 rw [ByteArray.data_append,Array.toList_append]
theorem taxA_eq (c:ByteArray):bil.taxA c=⟨⟨[116,97,120,47]++c.data.toList⟩⟩:=by
 refine bil.ba_ext ?_
 unfold bil.taxA
 rw [ByteArray.data_append,Array.toList_append]
def mBal (l:List bil.Bal):Mem:=⟨T.nil.node (some ⟨.ls .bal l,2,true⟩) T.nil,1,1,1⟩
def mOwed (g:Int):Mem:=⟨T.nil.node (some ⟨.raw [.str [111,119,101,100],i64 g],2,false⟩) T.nil,1,1,1⟩
def kEn (L:Nat):Ex→T AV→Mem→Option AV:=k1_entries c36 L fun r m=>frzK m (.tup [.lst .bal,.any]) r some
def lpEn0 (L L':Nat) (g:Int) (ps:List bil.Pt) (n:Int):Option AV:=loopS (evS c36 L b1_entries) l1_entries 0 L' (stL [(q4,.sl 0 0 1 1),(q16,.fl .part ps),(q17,i64 (.ofNat ps.length)),(q18,i64 n)]) (mOwed g) (kEn L)
def lpEn (L L' len:Nat) (l:List bil.Bal) (ps:List bil.Pt) (n:Int):Option AV:=loopS (evS c36 L b1_entries) l1_entries 0 L' (stL [(q4,.so 0 2 0 len),(q16,.fl .part ps),(q17,i64 (.ofNat ps.length)),(q18,i64 n)]) (mBal l) (kEn L)
def enStep (p:bil.Pt) (q:Option AV):Option AV :=
 bif gI 0&&gI p.net then bif gI 0&&gI p.tax then bif !eqI (subR 0 p.net).2 0 then some (.tup [.fl .bal [],i64 7]) else bif !eqI (subR 0 p.tax).2 0 then some (.tup [.fl .bal [],i64 7]) else
  bif Nat.blt ([110,101,116,47].length+p.cat.data.toList.length) 1000000 then bif Nat.blt ([116,97,120,47].length+p.cat.data.toList.length) 1000000 then q else none else none else none else none
theorem round_entries0 (L L' n:Nat) (g:Int) (ps:List bil.Pt):lpEn0 L (Nat.succ L') g ps (.ofNat n)=bif ltI (.ofNat n) (.ofNat ps.length) then bif inI (.ofNat n) ps.length then
 enStep (nth (t:=.part) ps n) (lpEn L L' 3 (⟨⟨⟨[111,119,101,100]⟩⟩,g⟩::enT (nth (t:=.part) ps n)) ps (wrapK .i64 (.ofNat n+1))) else none else none:=by kernel_rfl
theorem round_entries (L L' n len:Nat) (l:List bil.Bal) (ps:List bil.Pt):lpEn L (Nat.succ L') len l ps (.ofNat n)=bif ltI (.ofNat n) (.ofNat ps.length) then bif inI (.ofNat n) ps.length then
 enStep (nth (t:=.part) ps n) (bif Nat.beq l.length len then bif Nat.blt (len+2) 1048576 then lpEn L L' (l++enT (nth (t:=.part) ps n)).length (l++enT (nth (t:=.part) ps n)) ps (wrapK .i64 (.ofNat n+1)) else none else none) else none
 else bif Nat.beq len l.length then some (.tup [.fl .bal l,i64 0]) else none:=by kernel_rfl
def gPt (p:bil.Pt):Bool:=gI p.net&&(gI p.tax&&Nat.blt p.cat.data.toList.length 1000)
theorem enStep_eq {p:bil.Pt} (hp:gPt p=true) (q:Option AV):enStep p q=match bil.negZ p.net,bil.negZ p.tax with | some _,some _=>q | _,_=>some (.tup [.fl .bal [],i64 7]):=by
 unfold gPt at hp
 simp only [Bool.and_eq_true,blt_iff] at hp
 obtain⟨h1,h2,h3⟩:=hp
 unfold enStep
 rw [h1,h2,show gI 0=true from by decide,Bool.and_self,cond_true,cond_true,sub_neg,sub_neg,bltN_true (by simp only [List.length_cons,List.length_nil];omega),bltN_true (by simp only [List.length_cons,List.length_nil];omega),cond_true,cond_true]
 cases bil.negZ p.net with
 | none=>rfl
 | some a=>cases bil.negZ p.tax<;>rfl
theorem enT_eq {p:bil.Pt} {a b:Int} (h1:bil.negZ p.net=some a) (h2:bil.negZ p.tax=some b):enT p=[⟨bil.netA p.cat,a⟩,⟨bil.taxA p.cat,b⟩]:=by
 unfold enT
 rw [sub_neg,sub_neg,h1,h2,netA_eq,taxA_eq]
 rfl
def entO (l:List bil.Bal) (o:Option (List bil.Bal)):Option AV:=match o with
 | some m=>some (.tup [.fl .bal (l++m),i64 0])
 | none=>some (.tup [.fl .bal [],i64 7])
theorem loop_entries (L:Nat) (ps:List bil.Pt) (hp:ps.all gPt=true) (hl:ps.length < 100):∀ (t:List bil.Pt) (n f:Nat) (l:List bil.Bal),ps.drop n=t→n≤ps.length→t.length < f→l.length≤1+2*n →
  lpEn L f l.length l ps (.ofNat n)=entO l (bil.entF t)
 | t,n,0,l,_,_,hf,_=>by omega
 | [],n,f+1,l,hd,hn,hf,hll=>by
  rw [round_entries,drop_nil hd hn,le_nat (Nat.le_refl _),cond_false,beqN_true rfl,cond_true]
  show _=some (AV.tup [AV.fl .bal (l++[]),i64 0])
  rw [List.append_nil]
 | x::t,n,f+1,l,hd,hn,hf,hll=>by
  obtain⟨h1,h2,h3⟩:=drop_cons (t:=.part) hd
  have hx:gPt x=true:=by
   rw [List.all_eq_true] at hp
   exact hp x (by rw [← h2,nth_get h1];exact List.getElem_mem h1)
  have ih:=fun l hll=>loop_entries L ps hp hl t (n+1) f l h3 (by omega) (by simp at hf;omega) hll
  rw [round_entries,lt_nat h1,cond_true,in_nat h1,cond_true,h2,enStep_eq hx,beqN_true rfl,cond_true,bltN_true (by omega),cond_true,wrap_succ (by omega),ih (l++enT x) (by rw [List.length_append];show l.length+2≤_;omega)]
  rw [entF_cons]
  cases e1:bil.negZ x.net with
  | none=>rfl
  | some a =>
   cases e2:bil.negZ x.tax with
   | none=>rfl
   | some b =>
    simp only
    rw [enT_eq e1 e2]
    cases bil.entF t with
    | none=>rfl
    | some m=>simp [entO]
def entR (ps:List bil.Pt) (g:Int):List bil.Bal × Int:=match bil.entF ps with
 | some m=>(⟨bil.owedA,g⟩::m,0)
 | none=>([],7)
theorem run_entries (net tax g:Int) (ps:List bil.Pt) (h0:ps.isEmpty=false) (hp:ps.all gPt=true) (hl:ps.length < 100):callF c36 102 s_entries (.tup [.lst .bal,.any]) [.agg [i64 net,i64 tax,i64 g,.fl .part ps]] some=some (.tup [.fl .bal (entR ps g).1,i64 (entR ps g).2]):=by
 have e:∀ L,callF c36 L s_entries (.tup [.lst .bal,.any]) [.agg [i64 net,i64 tax,i64 g,.fl .part ps]] some=lpEn0 L L g ps (.ofNat 0):=fun L=>by kernel_rfl
 rw [e]
 cases ps with
 | nil=>cases h0
 | cons x t =>
  have hx:gPt x=true:=by
   rw [List.all_eq_true] at hp
   exact hp x List.mem_cons_self
  have hlen:0 < (x::t).length:=by simp
  have ih:=fun l hll=>loop_entries 102 (x::t) hp hl t 1 101 l rfl (by simp) (by simp at hl ⊢;omega) hll
  rw [round_entries0,lt_nat hlen,cond_true,in_nat hlen,cond_true]
  show enStep x _=_
  rw [enStep_eq hx]
  have e3:nth (t:=.part) (x::t) 0=x:=rfl
  have e4:wrapK .i64 (.ofNat 0+1)=.ofNat 1:=by rw [wrap_succ (by omega)]
  rw [e3,e4]
  have ih2:=ih (⟨⟨⟨[111,119,101,100]⟩⟩,g⟩::enT x) (by simp [enT])
  replace ih2:lpEn 102 101 3 (⟨⟨⟨[111,119,101,100]⟩⟩,g⟩::enT x) (x::t) (.ofNat 1)=_:=ih2
  rw [ih2]
  unfold entR
  rw [entF_cons]
  cases e1:bil.negZ x.net with
  | none=>rfl
  | some a =>
   cases e2:bil.negZ x.tax with
   | none=>rfl
   | some b =>
    simp only
    rw [enT_eq e1 e2]
    cases bil.entF t with
    | none=>rfl
    | some m=>rfl
def G_entries:List AV→Option (Bool × AV)
 | [.agg [.int .i64 _,.int .i64 _,.int .i64 g,.fl .part ps]]=>some (!ps.isEmpty&&(ps.all gPt&&Nat.blt ps.length 100),.tup [.fl .bal (entR ps g).1,i64 (entR ps g).2])
 | _=>none
def c37:ClS:=addG 62 G_entries c36
theorem snd37:SoundS Tryz.prog c37:=add_gn snd36 mix ok_entries (.tup [.lst .bal,.any]) G_entries fun xs r h=>by
 unfold G_entries at h
 split at h<;>first | (cases h;done) | skip
 obtain⟨hg,rfl⟩:=Prod.mk.inj (Option.some.inj h)
 simp only [Bool.and_eq_true,Bool.not_eq_true',blt_iff] at hg
 exact⟨rfl,102,run_entries _ _ _ _ hg.1 hg.2.1 hg.2.2⟩
def lpBR (L L':Nat) (l:List bil.Bal) (n:Int):Option AV:=loopS (evS c37 L b1_bookRight) l1_bookRight 0 L' (stL [(q0,.fl .bal l),(q3,i64 n)]) m0 (k1_bookRight c37 L fun r m=>frzK m .any r some)
theorem round_bookRight (L L' n:Nat) (l:List bil.Bal):lpBR L (Nat.succ L') l (.ofNat n)=bif ltI (.ofNat n) (.ofNat l.length) then bif inI (wrapK .i64 (.ofNat n - 1)) l.length then bif inI (.ofNat n) l.length then
 bif !bytesLt (nth (t:=.bal) l (wrapK .i64 (.ofNat n - 1)).toNat).acc.data.toList (nth (t:=.bal) l n).acc.data.toList then some (.bool false) else lpBR L L' l (wrapK .i64 (.ofNat n+1)) else none else none else some (.bool true):=by kernel_rfl
theorem loop_bookRight (L:Nat) (l:List bil.Bal) (hl:l.length < 1000000):∀ (t:List bil.Bal) (n f:Nat) (x:bil.Bal),l.drop n=x::t→t.length < f→lpBR L f l (.ofNat (n+1))=some (.bool (bil.chain bil.balLt (x::t)))
 | t,n,0,x,_,hf=>by omega
 | [],n,f+1,x,hd,hf=>by
  obtain⟨h1,h2,h3⟩:=drop_cons (t:=.bal) hd
  rw [round_bookRight,drop_nil h3 (by omega),le_nat (Nat.le_refl _),cond_false]
  rfl
 | y::t,n,f+1,x,hd,hf=>by
  obtain⟨h1,h2,h3⟩:=drop_cons (t:=.bal) hd
  obtain⟨g1,g2,g3⟩:=drop_cons (t:=.bal) h3
  have ih:=loop_bookRight L l hl t (n+1) f y h3 (by simp at hf;omega)
  rw [round_bookRight,lt_nat g1,cond_true,wrap_pred (by omega),in_nat h1,cond_true,in_nat g1,cond_true,toNat_of,h2,g2,wrap_succ (by omega),ih,blt_bytes,bil.chain]
  have e:bil.balLt x y=bil.less x.acc y.acc:=rfl
  rw [e]
  cases bil.less x.acc y.acc<;>rfl
def G_bookRight:List AV→Option (Bool × AV)
 | [.fl .bal l]=>some (Nat.blt l.length 1000000,.bool (bil.chain bil.balLt l))
 | [.nilsl]=>some (true,.bool true)
 | _=>none
theorem run_bookRight (l:List bil.Bal) (hl:l.length < 1000000):callF c37 1000002 s_bookRight .any [.fl .bal l] some=some (.bool (bil.chain bil.balLt l)):=by
 have e:∀ L,callF c37 L s_bookRight .any [.fl .bal l] some=lpBR L L l (.ofNat 1):=fun L=>by kernel_rfl
 rw [e]
 cases l with
 | nil=>rw [round_bookRight];rfl
 | cons x t=>exact loop_bookRight _ (x::t) hl t 0 _ x rfl (by simp at hl;omega)
def c38:ClS:=addG 98 G_bookRight c37
theorem snd38:SoundS Tryz.prog c38:=add_gn snd37 mix ok_bookRight .any G_bookRight fun xs r h=>by
 unfold G_bookRight at h
 split at h<;>first | (cases h;done) | skip
 ·obtain⟨hg,rfl⟩:=Prod.mk.inj (Option.some.inj h)
  exact⟨rfl,_,run_bookRight _ (blt_iff.1 hg)⟩
 ·cases h
  exact⟨rfl,1,by kernel_rfl⟩
end Go.Proofs.YtbknmeafcbhicaaGreatDoor.Ev

/- The book: Enter; two books held against each other. -/
namespace Go.Proofs.YtbknmeafcbhicaaGreatDoor.Ev
open Go
def c39:ClS:=addI 99 .bal c38
theorem snd39:SoundS Tryz.prog c39:=ins_bal snd38
def kE1 (L:Nat):Ex→T AV→Mem→Option AV:=k1_enter c39 L fun r m=>frzK m (.tup [.lst .bal,.any]) r some
def kE2 (L L1:Nat):Ex→T AV→Mem→Option AV:=k2_enter c39 L L1 fun r m=>frzK m (.tup [.lst .bal,.any]) r some
def lpE (L L1 len:Nat) (l e:List bil.Bal) (n:Int):Option AV:=loopS (evS c39 L b1_enter) l1_enter 0 L1 (stL [(q6,.so 0 2 0 len),(q17,.fl .bal e),(q18,i64 (.ofNat e.length)),(q19,i64 n)]) (mBal l) (kE1 L)
def lpE0 (L L1:Nat) (e:List bil.Bal) (n:Int):Option AV:=loopS (evS c39 L b1_enter) l1_enter 0 L1 (stL [(q6,.nilsl),(q17,.fl .bal e),(q18,i64 (.ofNat e.length)),(q19,i64 n)]) m0 (kE1 L)
def mBx (l:List bil.Bal) (y:bil.Bal):Mem:=⟨(T.node T.nil (some ⟨.raw [tx y.acc,i64 y.amt],1,false⟩) T.nil).node (some ⟨.ls .bal l,2,true⟩) T.nil,2,3,3⟩
def lp2 (L L1 L' len:Nat) (l e:List bil.Bal) (y:bil.Bal) (n k:Int):Option AV:=loopS (evS c39 L b2_enter) l2_enter 0 L' (stL [(q6,.so 0 2 0 len),(q8,.ptr 1 0),(q9,i64 k),(q17,.fl .bal e),(q18,i64 (.ofNat e.length)),(q19,i64 n)]) (mBx l y) (kE2 L L1)
def insL (l:List bil.Bal) (k:Nat) (y:bil.Bal):List bil.Bal:=l.take k++⟨y.acc,0⟩::l.drop k
def tailE (L L1 len:Nat) (l e:List bil.Bal) (y:bil.Bal) (n:Int) (k:Nat):Option AV :=
 bif inI (.ofNat k) len then bif Nat.blt k l.length then bif gI (nth (t:=.bal) l k).amt&&gI y.amt then bif !eqI (addR (nth (t:=.bal) l k).amt y.amt).2 0 then some (.tup [.fl .bal [],i64 (addR (nth (t:=.bal) l k).amt y.amt).2]) else
  bif inI (.ofNat k) len then bif Nat.blt k l.length then lpE L L1 len (l.set k ⟨(nth (t:=.bal) l k).acc,(addR (nth (t:=.bal) l k).amt y.amt).1⟩) e (wrapK .i64 (n+1)) else none else none else none else none else none
def insE (L L1 len:Nat) (l e:List bil.Bal) (y:bil.Bal) (n:Int) (k:Nat):Option AV :=
 bif Nat.beq len l.length&&(inI (.ofNat k) (l.length+1)&&Nat.blt l.length 1000000) then tailE L L1 (l.length+1) (insL l k y) e y n k else none
def aftE (L L1 len:Nat) (l e:List bil.Bal) (y:bil.Bal) (n:Int) (k:Nat):Option AV :=
 bif eqI (.ofNat k) (.ofNat len) then insE L L1 len l e y n k else bif inI (.ofNat k) len then bif Nat.blt k l.length then bif !bytesEq (nth (t:=.bal) l k).acc.data.toList y.acc.data.toList then insE L L1 len l e y n k else tailE L L1 len l e y n k else none else none
theorem round_in (L L1 L' len n k:Nat) (l e:List bil.Bal) (y:bil.Bal):lp2 L L1 (Nat.succ L') len l e y (.ofNat n) (.ofNat k) =
 bif ltI (.ofNat k) (.ofNat len) then bif inI (.ofNat k) len then bif Nat.blt k l.length then bif bytesLt (nth (t:=.bal) l k).acc.data.toList y.acc.data.toList then lp2 L L1 L' len l e y (.ofNat n) (wrapK .i64 (.ofNat k+1)) else aftE L L1 len l e y (.ofNat n) k else none else none
 else aftE L L1 len l e y (.ofNat n) k:=by kernel_rfl
theorem round_enter (L L1 len n:Nat) (l e:List bil.Bal):lpE L (Nat.succ L1) len l e (.ofNat n)=bif ltI (.ofNat n) (.ofNat e.length) then bif inI (.ofNat n) e.length then lp2 L L1 L len l e (nth (t:=.bal) e n) (.ofNat n) (.ofNat 0) else none
 else bif Nat.beq len l.length then some (.tup [.fl .bal l,i64 0]) else none:=by kernel_rfl
theorem round_enter0 (L L1 n:Nat) (e:List bil.Bal):lpE0 (Nat.succ L) (Nat.succ L1) e (.ofNat n)=bif ltI (.ofNat n) (.ofNat e.length) then bif inI (.ofNat n) e.length then tailE (Nat.succ L) L1 1 [⟨(nth (t:=.bal) e n).acc,0⟩] e (nth (t:=.bal) e n) (.ofNat n) 0 else none
 else some (.tup [.fl .bal [],i64 0]):=by kernel_rfl
theorem loop_in (L L1 n:Nat) (l e:List bil.Bal) (y:bil.Bal) (hl:l.length < 1000000):∀ (t:List bil.Bal) (k f:Nat),l.drop k=t→k≤l.length→t.length < f →
  lp2 L L1 f l.length l e y (.ofNat n) (.ofNat k)=aftE L L1 l.length l e y (.ofNat n) (k+(t.takeWhile fun p=>bil.less p.acc y.acc).length)
 | t,k,0,_,_,hf=>by omega
 | [],k,f+1,hd,hn,hf=>by
  rw [round_in,drop_nil hd hn,le_nat (Nat.le_refl _),cond_false]
  rfl
 | x::t,k,f+1,hd,hn,hf=>by
  obtain⟨h1,h2,h3⟩:=drop_cons (t:=.bal) hd
  have ih:=loop_in L L1 n l e y hl t (k+1) f h3 (by omega) (by simp at hf;omega)
  rw [round_in,lt_nat h1,cond_true,in_nat h1,cond_true,bltN_true h1,cond_true,h2,wrap_succ (by omega),ih,blt_bytes,List.takeWhile_cons]
  cases bil.less x.acc y.acc with
  | true =>
   rw [cond_true,if_pos rfl,List.length_cons]
   exact congrArg _ (by omega)
  | false=>rfl
def allA (l:List bil.Bal):Prop:=∀ x∈l,bil.I64 x.amt
def bRes (L L1:Nat) (e:List bil.Bal) (n:Int) (o:Option (List bil.Bal)):Option AV:=match o with
 | none=>some (.tup [.fl .bal [],i64 7])
 | some l=>lpE L L1 l.length l e n
theorem tail_eq (L L1:Nat) (l e:List bil.Bal) (y:bil.Bal) (n k:Nat) (hn:n < 1000000) (hk:k < l.length) (h1:bil.I64 (nth (t:=.bal) l k).amt) (h2:bil.I64 y.amt) :
  tailE L L1 l.length l e y (.ofNat n) k=bRes L L1 e (.ofNat (n+1)) ((bil.addZ (nth (t:=.bal) l k).amt y.amt).map fun m=>l.set k { nth (t:=.bal) l k with amt:=m }):=by
 unfold tailE
 rw [in_nat hk,bltN_true hk,gI_iff.2 h1,gI_iff.2 h2,Bool.and_self,cond_true,cond_true,cond_true,cond_true,cond_true,wrap_succ (by omega)]
 unfold addR
 cases bil.addZ (nth (t:=.bal) l k).amt y.amt with
 | none=>rfl
 | some m =>
  show lpE L L1 l.length _ e _=lpE L L1 (l.set k _).length _ e _
  rw [List.length_set]
  rfl
theorem get_nth {t:LTy} {l:List (Elem t)} {k:Nat} (h:k < l.length):l[k]?=some (nth l k):=by rw [nth_get h,List.getElem?_eq_getElem h]
theorem ins_at (l:List bil.Bal) (k:Nat) (y:bil.Bal) (hk:k≤l.length):(insL l k y).length=l.length+1∧nth (t:=.bal) (insL l k y) k=⟨y.acc,0⟩:=by
 have hlen:(insL l k y).length=l.length+1:=by
  unfold insL
  rw [List.length_append,List.length_take,List.length_cons,List.length_drop]
  omega
 refine⟨hlen,?_⟩
 have:(insL l k y)[k]?=some ⟨y.acc,0⟩:=by
  unfold insL
  rw [List.getElem?_append_right (by rw [List.length_take];omega),List.length_take,show k - min k l.length=0 by omega]
  rfl
 rw [get_nth (t:=.bal) (by omega)] at this
 exact Option.some.inj this
theorem put_eq (L L1:Nat) (l e:List bil.Bal) (y:bil.Bal) (n:Nat) (hn:n < 1000000) (hl:l.length < 1000000) (hI:allA l) (hy:bil.I64 y.amt) :
  aftE L L1 l.length l e y (.ofNat n) (bil.balPlace l y.acc)=bRes L L1 e (.ofNat (n+1)) (bil.balPut l y):=by
 have hle:bil.balPlace l y.acc≤l.length:=tw_le (p:=fun p:bil.Bal=>bil.less p.acc y.acc) l
 unfold bil.balPut
 generalize bil.balPlace l y.acc=k at hle
 obtain⟨i1,i2⟩:=ins_at l k y hle
 have hins:insE L L1 l.length l e y (.ofNat n) k=bRes L L1 e (.ofNat (n+1)) ((bil.addZ 0 y.amt).map fun m=>(insL l k y).set k ⟨y.acc,m⟩):=by
  unfold insE
  rw [beqN_true rfl,in_nat (by omega),bltN_true hl,Bool.and_self,Bool.and_self,cond_true,← i1]
  have:=tail_eq L L1 (insL l k y) e y n k hn (by omega) (by rw [i2];exact (show bil.I64 0 from ⟨by decide,by decide⟩)) hy
  rw [i2] at this
  exact this
 have hsome:(insL l k y)[k]?=some ⟨y.acc,0⟩:=by rw [get_nth (t:=.bal) (by omega),i2]
 unfold aftE
 by_cases h1:k=l.length
 ·rw [eq_true' (by rw [h1]),cond_true,hins]
  have h2:¬ (l[k]?.map (·.acc))=some y.acc:=by rw [List.getElem?_eq_none (by omega)];simp
  simp only
  rw [if_neg h2]
  show _=bRes L L1 e _ (match (insL l k y)[k]? with | none=>none | some p=>_)
  rw [hsome]
  rfl
 ·have hlt:k < l.length:=by omega
  rw [eq_false' (by simp;omega),cond_false,in_nat hlt,bltN_true hlt,cond_true,cond_true,beq_bytes]
  have hg:=get_nth (t:=.bal) hlt
  by_cases h2:(nth (t:=.bal) l k).acc=y.acc
  ·rw [decide_eq_true h2,Bool.not_true,cond_false,tail_eq L L1 l e y n k hn hlt (hI _ (List.mem_of_getElem? hg)) hy]
   simp only
   rw [if_pos (by rw [hg];simp [h2]),hg]
  ·rw [decide_eq_false h2,Bool.not_false,cond_true,hins]
   simp only
   rw [if_neg (by rw [hg];simp [h2])]
   show _=bRes L L1 e _ (match (insL l k y)[k]? with | none=>none | some p=>_)
   rw [hsome]
   rfl
theorem put_all {l l':List bil.Bal} {y:bil.Bal} (hI:allA l) (h:bil.balPut l y=some l'):allA l'∧l'.length≤l.length+1∧1≤l'.length:=by
 have hle:bil.balPlace l y.acc≤l.length:=tw_le (p:=fun p:bil.Bal=>bil.less p.acc y.acc) l
 unfold bil.balPut at h
 generalize bil.balPlace l y.acc=k at *
 have key:∀ m:List bil.Bal,allA m→m.length≤l.length+1→(match m[k]? with | none=>none | some p=>(bil.addZ p.amt y.amt).map fun q=>m.set k { p with amt:=q })=some l'→allA l'∧l'.length≤l.length+1∧1≤l'.length:=fun m hm hlen he=>by
  cases hg:m[k]? with
  | none=>rw [hg] at he;cases he
  | some p =>
   rw [hg] at he
   simp only at he
   cases ha:bil.addZ p.amt y.amt with
   | none=>rw [ha] at he;cases he
   | some q =>
    rw [ha] at he
    cases he
    have:=(List.getElem?_eq_some_iff.1 hg).1
    refine⟨fun x hx=>?_,by rw [List.length_set];exact hlen,by rw [List.length_set];omega⟩
    rcases List.mem_or_eq_of_mem_set hx with hx | rfl
    ·exact hm x hx
    ·exact (bil.addZ_some ha).2
 simp only at h
 by_cases hc:(l[k]?.map (·.acc))=some y.acc
 ·rw [if_pos hc] at h
  exact key l hI (by omega) h
 ·rw [if_neg hc] at h
  refine key _ (fun x hx=>?_) ?_ h
  ·rcases List.mem_append.1 hx with hx | hx
   ·exact hI x (List.mem_of_mem_take hx)
   ·rcases List.mem_cons.1 hx with rfl | hx
    ·exact (show bil.I64 0 from ⟨by decide,by decide⟩)
    ·exact hI x (List.mem_of_mem_drop hx)
  ·rw [List.length_append,List.length_take,List.length_cons,List.length_drop]
   omega
def balsRes (o:Option (List bil.Bal)):Option AV:=match o with
 | none=>some (.tup [.fl .bal [],i64 7])
 | some l=>some (.tup [.fl .bal l,i64 0])
theorem loop_enter (L:Nat) (e:List bil.Bal) (he:allA e) (hle:e.length < 1000):∀ (t:List bil.Bal) (n f:Nat) (l:List bil.Bal),e.drop n=t→n≤e.length→t.length < f→allA l→l.length+t.length < 100000→l.length+t.length < L →
  lpE L f l.length l e (.ofNat n)=balsRes (bil.balsPut l t)
 | t,n,0,l,_,_,hf,_,_,_=>by omega
 | [],n,f+1,l,hd,hn,hf,hI,hb,hL=>by
  rw [round_enter,drop_nil hd hn,le_nat (Nat.le_refl _),cond_false,beqN_true rfl]
  rfl
 | x::t,n,f+1,l,hd,hn,hf,hI,hb,hL=>by
  obtain⟨h1,h2,h3⟩:=drop_cons (t:=.bal) hd
  have hx:bil.I64 x.amt:=he x (by rw [← h2,nth_get h1];exact List.getElem_mem h1)
  rw [List.length_cons] at hb hL
  rw [round_enter,lt_nat h1,cond_true,in_nat h1,cond_true,h2,loop_in L f n l e x (by omega) l 0 L rfl (by omega) (by omega),Nat.zero_add]
  show aftE L f l.length l e x (.ofNat n) (bil.balPlace l x.acc)=_
  rw [put_eq L f l e x n (by omega) (by omega) hI hx,bil.balsPut]
  cases hp:bil.balPut l x with
  | none=>rfl
  | some l' =>
   obtain⟨g1,g2,_⟩:=put_all hI hp
   exact loop_enter L e he hle t (n+1) f l' h3 (by omega) (by simp at hf;omega) g1 (by omega) (by omega)
theorem enter0 (L f:Nat) (e:List bil.Bal) (he:allA e) (hle:e.length < 1000) (hL:2000 < L) (hf:1000 < f):lpE0 (Nat.succ L) (Nat.succ f) e (.ofNat 0)=balsRes (bil.balsPut [] e):=by
 rw [round_enter0]
 cases e with
 | nil=>rfl
 | cons x t =>
  have h1:0 < (x::t).length:=by simp
  rw [lt_nat h1,cond_true,in_nat h1,cond_true]
  have e0:nth (t:=.bal) (x::t) 0=x:=rfl
  rw [e0,bil.balsPut]
  have hx:bil.I64 x.amt:=he x List.mem_cons_self
  have:=tail_eq (Nat.succ L) f [⟨x.acc,0⟩] (x::t) x 0 0 (by omega) (by simp) (show bil.I64 0 from ⟨by decide,by decide⟩) hx
  replace this:tailE (Nat.succ L) f 1 [⟨x.acc,0⟩] (x::t) x (.ofNat 0) 0=bRes (Nat.succ L) f (x::t) (.ofNat 1) ((bil.addZ 0 x.amt).map fun m=>[⟨x.acc,m⟩]):=this
  rw [this]
  have e1:bil.balPut [] x=(bil.addZ 0 x.amt).map fun m=>[⟨x.acc,m⟩]:=rfl
  rw [e1]
  cases ha:bil.addZ 0 x.amt with
  | none=>rfl
  | some m =>
   refine loop_enter (Nat.succ L) (x::t) he hle t 1 f [⟨x.acc,m⟩] rfl (by simp) (by simp at hle;omega) (fun z hz=>?_) (by simp at hle ⊢;omega) (by simp at hle ⊢;omega)
   rcases List.mem_singleton.1 hz with rfl
   exact (bil.addZ_some ha).2
def enterR (b e:List bil.Bal):List bil.Bal × Int:=match bil.enterF b e with
 | .inl l=>(l,0)
 | .inr x=>([],x)
theorem run_enter (b e:List bil.Bal) (hb:allA b) (he:allA e) (hbl:b.length < 50000) (hle:e.length < 1000):callF c39 100001 s_enter (.tup [.lst .bal,.any]) [.fl .bal b,.fl .bal e] some=some (.tup [.fl .bal (enterR b e).1,i64 (enterR b e).2]):=by
 have e0:∀ L,callF c39 L s_enter (.tup [.lst .bal,.any]) [.fl .bal b,.fl .bal e] some=bif Nat.blt b.length 1000000 then bif bil.chain bil.balLt b then bif Nat.blt b.length 1048576 then bif Nat.beq b.length 0 then lpE0 L L e (.ofNat 0) else lpE L L b.length b e (.ofNat 0) else none
  else some (.tup [.fl .bal [],i64 1]) else none:=fun L=>by kernel_rfl
 rw [e0,bltN_true (by omega),bltN_true (by omega),cond_true]
 unfold enterR bil.enterF
 cases bil.chain bil.balLt b with
 | false=>rfl
 | true =>
  rw [cond_true,cond_true,if_neg (by simp)]
  have fin:balsRes (bil.balsPut b e)=some (.tup [.fl .bal (match (match bil.balsPut b e with | none=>Sum.inr 7 | some b'=>Sum.inl b':List bil.Bal ⊕ Int) with | .inl l=>(l,0) | .inr x=>([],x):List bil.Bal × Int).1,i64 (match (match bil.balsPut b e with | none=>Sum.inr 7 | some b'=>Sum.inl b':List bil.Bal ⊕ Int) with | .inl l=>(l,0) | .inr x=>([],x):List bil.Bal × Int).2]):=by
   cases bil.balsPut b e<;>rfl
  refine Eq.trans ?_ fin
  cases b with
  | nil =>
   rw [show Nat.beq ([]:List bil.Bal).length 0=true from rfl,cond_true]
   exact enter0 100000 100000 e he hle (by omega) (by omega)
  | cons x t =>
   rw [beqN_false (by simp),cond_false]
   exact loop_enter 100001 e he hle e 0 100001 (x::t) rfl (by omega) (by omega) hb (by omega) (by omega)
def gBal (x:bil.Bal):Bool:=gI x.amt
theorem gBal_all {l:List bil.Bal} (h:l.all gBal=true):allA l:=fun x hx=>by
 rw [List.all_eq_true] at h
 exact gI_iff.1 (h x hx)
def G_enter:List AV→Option (Bool × AV)
 | [.fl .bal b,.fl .bal e]=>some (b.all gBal&&(e.all gBal&&(Nat.blt b.length 50000&&Nat.blt e.length 1000)),.tup [.fl .bal (enterR b e).1,i64 (enterR b e).2])
 | [.nilsl,.fl .bal e]=>some (e.all gBal&&Nat.blt e.length 1000,.tup [.fl .bal (enterR [] e).1,i64 (enterR [] e).2])
 | _=>none
theorem run_enterN (e:List bil.Bal) (he:allA e) (hle:e.length < 1000):callF c39 100001 s_enter (.tup [.lst .bal,.any]) [.nilsl,.fl .bal e] some=some (.tup [.fl .bal (enterR [] e).1,i64 (enterR [] e).2]):=by
 rw [← run_enter [] e (fun _ hx=>by cases hx) he (by simp) hle]
 have e0:∀ L,callF c39 L s_enter (.tup [.lst .bal,.any]) [.nilsl,.fl .bal e] some=lpE0 L L e (.ofNat 0):=fun L=>by kernel_rfl
 have e1:∀ L,callF c39 L s_enter (.tup [.lst .bal,.any]) [.fl .bal [],.fl .bal e] some=lpE0 L L e (.ofNat 0):=fun L=>by kernel_rfl
 rw [e0,e1]
def c40:ClS:=addG 63 G_enter c39
theorem snd40:SoundS Tryz.prog c40:=add_gn snd39 mix ok_enter (.tup [.lst .bal,.any]) G_enter fun xs r h=>by
 unfold G_enter at h
 split at h<;>first | (cases h;done) | skip
 ·obtain⟨hg,rfl⟩:=Prod.mk.inj (Option.some.inj h)
  simp only [Bool.and_eq_true,blt_iff] at hg
  obtain⟨h1,h2,h3,h4⟩:=hg
  exact⟨rfl,_,run_enter _ _ (gBal_all h1) (gBal_all h2) h3 h4⟩
 ·obtain⟨hg,rfl⟩:=Prod.mk.inj (Option.some.inj h)
  simp only [Bool.and_eq_true,blt_iff] at hg
  exact⟨rfl,_,run_enterN _ (gBal_all hg.1) hg.2⟩
def lpQ (L L':Nat) (l e:List bil.Bal) (n:Int):Option AV:=loopS (evS c40 L b1_balEq) l1_balEq 0 L' (stL [(q0,.fl .bal l),(q1,.fl .bal e),(q12,i64 (.ofNat l.length)),(q13,i64 n)]) m0 (k1_balEq c40 L fun r m=>frzK m .any r some)
def sameB (x y:bil.Bal):Bool:=bytesEq x.acc.data.toList y.acc.data.toList&&(eqI x.amt y.amt&&true)
theorem round_balEq (L L' n:Nat) (l e:List bil.Bal):lpQ L (Nat.succ L') l e (.ofNat n)=bif ltI (.ofNat n) (.ofNat l.length) then bif inI (.ofNat n) l.length then bif inI (.ofNat n) e.length then
 bif (bif true then !sameB (nth (t:=.bal) l n) (nth (t:=.bal) e n) else sameB (nth (t:=.bal) l n) (nth (t:=.bal) e n)) then some (.bool false) else lpQ L L' l e (wrapK .i64 (.ofNat n+1)) else none else none else some (.bool true):=by kernel_rfl
theorem sameB_eq (x y:bil.Bal):sameB x y=decide (x=y):=by
 obtain⟨a,b⟩:=x
 obtain⟨c,d⟩:=y
 unfold sameB
 rw [beq_bytes,eqI_eq]
 simp only [bil.Bal.mk.injEq]
 by_cases h1:a=c<;>by_cases h2:b=d<;>simp [h1,h2]
theorem loop_balEq (L:Nat) (l e:List bil.Bal) (hl:l.length < 1000000) (he:l.length=e.length):∀ (t s:List bil.Bal) (n f:Nat),l.drop n=t→e.drop n=s→n≤l.length→t.length < f→lpQ L f l e (.ofNat n)=some (.bool (decide (t=s)))
 | t,s,n,0,_,_,_,hf=>by omega
 | [],s,n,f+1,hd,hs,hn,hf=>by
  have h0:=drop_nil hd hn
  have:s=[]:=by rw [← hs];exact List.drop_eq_nil_of_le (by omega)
  subst this
  rw [round_balEq,h0,le_nat (Nat.le_refl _),cond_false]
  rfl
 | x::t,s,n,f+1,hd,hs,hn,hf=>by
  obtain⟨h1,h2,h3⟩:=drop_cons (t:=.bal) hd
  cases s with
  | nil=>have:=drop_nil hs (by omega);omega
  | cons y s =>
   obtain⟨g1,g2,g3⟩:=drop_cons (t:=.bal) hs
   have ih:=loop_balEq L l e hl he t s (n+1) f h3 g3 (by omega) (by simp at hf;omega)
   rw [round_balEq,lt_nat h1,cond_true,in_nat h1,cond_true,in_nat g1,cond_true,cond_true,h2,g2,wrap_succ (by omega),ih,sameB_eq]
   by_cases h:x=y
   ·rw [decide_eq_true h,Bool.not_true,cond_false]
    simp [h]
   ·rw [decide_eq_false h,Bool.not_false,cond_true]
    simp [h]
theorem run_balEq (l e:List bil.Bal) (hl:l.length < 1000000):callF c40 1000001 s_balEq .any [.fl .bal l,.fl .bal e] some=some (.bool (decide (l=e))):=by
 have e0:∀ L,callF c40 L s_balEq .any [.fl .bal l,.fl .bal e] some=bif !eqI (.ofNat l.length) (.ofNat e.length) then some (.bool false) else lpQ L L l e (.ofNat 0):=fun L=>by kernel_rfl
 rw [e0]
 by_cases h:l.length=e.length
 ·rw [eq_true' (by rw [h]),Bool.not_true,cond_false]
  exact loop_balEq _ l e hl h l e 0 _ rfl rfl (by omega) (by omega)
 ·rw [eq_false' (fun hh=>h (Int.ofNat.inj hh)),Bool.not_false,cond_true,decide_eq_false fun he=>h (by rw [he])]
def G_balEq:List AV→Option (Bool × AV)
 | [.fl .bal l,.fl .bal e]=>some (Nat.blt l.length 1000000,.bool (decide (l=e)))
 | _=>none
def c41:ClS:=addG 30 G_balEq c40
theorem snd41:SoundS Tryz.prog c41:=add_gn snd40 mix ok_balEq .any G_balEq fun xs r h=>by
 unfold G_balEq at h
 split at h<;>first | (cases h;done) | skip
 obtain⟨hg,rfl⟩:=Prod.mk.inj (Option.some.inj h)
 exact⟨rfl,_,run_balEq _ _ (blt_iff.1 hg)⟩
end Go.Proofs.YtbknmeafcbhicaaGreatDoor.Ev

/- Functions as the machine for symbols has them; they are the program's. Written by program (sytold.py). -/
namespace Go.Proofs.YtbknmeafcbhicaaGreatDoor.Ev
open Go Z
set_option maxRecDepth 100000
def s_line:FnS:=⟨53,(s (r [o q4 .box [.t q1] 0,o q5 .box [.t q2] 0,o q6 .mov [i 0] 0,o q7 .mov [i 0] 4,o q8 .mov [i 0] 12]) (s (.blk 0 (s (r [o q14 (.fad 0) [.t q5] 0,o q15 .ld1 [.t q14] 1,o q16 .lenst [.t q15] 3,o q17 (.bin .gtr) [.t q16,i 64] 7,m q13 q17 15]) (c q13 (s (r [o q6 .mov [i 0] 0,o q7 .mov [i 0] 1,o q8 .mov [i 2] 3]) .ret) (s (r [o q19 (.fad 1) [.t q5] 0,o q20 .ld1 [.t q19] 1,o q21 (.call 55) [.t q20] 3,o q22 (.un .not) [.t q21] 7,m q18 q22 15]) (c q18 (s (r [o q6 .mov [i 0] 0,o q7 .mov [i 0] 1,o q8 .mov [i 8] 3]) .ret) (s (r [o q24 (.fad 2) [.t q5] 0,o q25 .ld1 [.t q24] 1,o q26 (.bin .lss) [.t q25,i 1] 3,m q27 q26 7,g q28 (.fad 2) [.t q5] q27 false 15,g q29 .ld1 [.t q28] q27 false 31,g q30 (.bin .gtr) [.t q29,i 1048576] q27 false 63,o q31 .pick [.t q27,.c (.bool true),.t q30] 127,m q23 q31 255]) (c q23 (s (r [o q6 .mov [i 0] 0,o q7 .mov [i 0] 1,o q8 .mov [i 1] 3]) .ret) .skip))))))) (s (r [m q33 q0 0,o q34 (.fad 1) [.t q5] 0,o q35 .ld1 [.t q34] 2,o q36 (.ldn 3) [.t q4] 0,o q37 (.call 157) [.t q33,.t q35,.t q36] 15,m q32 q37 31,o q38 (.ext 0) [.t q32] 63,o q39 (.ext 1) [.t q32] 63,m q9 q38 127,m q10 q39 511]) (s (s (r [m q40 q10 0,o q41 (.un .not) [.t q40] 1]) (c q41 (s (r [o q6 .mov [i 0] 0,o q7 .mov [i 0] 1,o q8 .mov [i 10] 3]) .ret) .skip)) (s (r [o q43 (.fad 2) [.t q5] 0,o q44 .ld1 [.t q43] 1,o q45 (.fad 3) [.t q5] 0,o q46 .ld1 [.t q45] 4,o q47 (.call 158) [.t q44,.t q46] 15,m q42 q47 31,o q48 (.ext 0) [.t q42] 63,o q49 (.ext 1) [.t q42] 63,m q11 q48 127,m q12 q49 511]) (s (r [m q50 q9 0,m q51 q11 0,m q52 q12 0,m q6 q50 1,m q7 q51 11,m q8 q52 31]) .ret)))))),[.t q6,.t q7,.t q8]⟩
theorem ok_line:FnOkS Tryz.prog 108 s_line:=fnOkS_of Tryz.func108 (by kernel_rfl) (by kernel_rfl) Tryz.ntmps108 (by kernel_rfl) (by kernel_rfl)
def l1_put:List Path:=[q0,q1,q2,q3,q10]
def b1_put:SC:=(s (s (r [m q13 q10 0,m q14 q0 0,o q15 .len [.t q14] 2,o q16 (.bin .lss) [.t q13,.t q15] 7,m q17 q16 15,g q18 .mov [.t q0] q17 true 31,g q19 .mov [.t q10] q17 true 31,g q20 (.ixs 4) [.t q18,.t q19] q17 true 127,g q21 (.fad 0) [.t q20] q17 true 255,g q22 .ld1 [.t q21] q17 true 511,g q23 .mov [.t q1] q17 true 31,g q24 (.sbin .lss) [.t q22,.t q23] q17 true 2047,o q25 .pick [.t q17,.t q24,.c (.bool false)] 4095]) (c q25 .skip (.exit 0))) (.blk 1 (r [m q26 q10 0,o q27 (.bin .add) [.t q26,i 1] 1,m q10 q27 3])))
def a1_put:SC:=(s (s (r [m q28 q10 0,m q29 q0 0,o q30 .len [.t q29] 2,o q31 (.bin .eql) [.t q28,.t q30] 7,m q32 q31 15,g q33 .mov [.t q0] q32 false 31,g q34 .mov [.t q10] q32 false 31,g q35 (.ixs 4) [.t q33,.t q34] q32 false 127,g q36 (.fad 0) [.t q35] q32 false 255,g q37 .ld1 [.t q36] q32 false 511,g q38 .mov [.t q1] q32 false 31,g q39 (.sbin .neq) [.t q37,.t q38] q32 false 2047,o q40 .pick [.t q32,.c (.bool true),.t q39] 4095]) (c q40 (r [m q41 q0 0,m q42 q10 0,m q43 q1 0,m q44 q2 0,o q45 (.build [(.str []),(.int .i64 (0)),(.int .i64 (0)),(.int .i64 (0))] [(0,1),(1,1)]) [.t q43,.t q44] 12,o q46 (.bsl [(.str []),(.int .i64 (0)),(.int .i64 (0)),(.int .i64 (0))] 1 4 [(0,4)]) [.t q45] 28,o q47 (.call 159) [.t q41,.t q42,.t q46] 63,m q0 q47 127]) .skip)) (s (r [m q49 q0 0,m q50 q10 0,o q51 (.ixs 4) [.t q49,.t q50] 3,o q52 (.fad 2) [.t q51] 7,o q53 .ld1 [.t q52] 15,m q54 q3 0,o q55 (.call 100) [.t q53,.t q54] 63,m q48 q55 127,o q56 (.ext 0) [.t q48] 255,o q57 (.ext 1) [.t q48] 255,m q11 q56 511,m q12 q57 2047]) (s (r [m q58 q0 0,m q59 q10 0,m q60 q11 0,o q61 (.ixs 4) [.t q58,.t q59] 7,o q62 (.fad 2) [.t q61] 15,u (.st 1) [.t q62,.t q60] 31]) (s (r [m q63 q0 0,m q64 q12 0,m q8 q63 1,m q9 q64 7]) .ret))))
def s_put:FnS:=⟨65,(s (r [o q8 .mov [.c .nilsl] 0,o q9 .mov [i 0] 1]) (s (r [o q10 .mov [i 0] 0]) (s (.blk 0 (.loop l1_put 1 b1_put)) a1_put))),[.t q8,.t q9]⟩
def k1_put {β:Type} (cl:ClS) (L:Nat) (K:AV→Mem→Option β):Ex→T AV→Mem→Option β:=kBlk 0 (kSeq (evS cl L a1_put) (endS s_put.res K))
theorem ok_put:FnOkS Tryz.prog 109 s_put:=fnOkS_of Tryz.func109 (by kernel_rfl) (by kernel_rfl) Tryz.ntmps109 (by kernel_rfl) (by kernel_rfl)
def l1_whole:List Path:=[q0,q2,q4,q15,q16]
def b1_whole:SC:=(s (r [o q17 (.bin .lss) [.t q16,.t q15] 0]) (s (c q17 .skip (.exit 0)) (s (.blk 1 (s (r [m q18 q16 0,m q5 q18 1]) (s (r [m q19 q0 0,m q20 q5 0,o q21 (.ixs 4) [.t q19,.t q20] 3,m q6 q21 7]) (s (r [o q7 .mov [i 0] 0,o q8 .mov [i 0] 1,o q9 .mov [i 0] 3]) (s (d [m q23 q6 0,m q24 q6 0,o q25 .nchk [.t q24] 2,o q26 (.fad 2) [.t q25] 6,o q27 .ld1 [.t q26] 14,m q28 q6 0,o q29 .nchk [.t q28] 32,o q30 (.fad 1) [.t q29] 96,o q31 .ld1 [.t q30] 224,o q32 (.call 92) [.t q27,.t q31] 510,m q22 q32 1022,o q33 (.ext 0) [.t q22] 2046,o q34 (.ext 1) [.t q22] 2046,o q35 .nchk [.t q23] 4095,o q36 (.fad 3) [.t q35] 12287,u (.st 1) [.t q36,.t q33] 28671,m q7 q34 65535]) (s (d [o q38 (.fad 0) [.t q4] 0,o q39 .ld1 [.t q38] 1,m q40 q6 0,o q41 .nchk [.t q40] 4,o q42 (.fad 2) [.t q41] 12,o q43 .ld1 [.t q42] 28,o q44 (.call 100) [.t q39,.t q43] 63,m q37 q44 127,o q45 (.ext 0) [.t q37] 255,o q46 (.ext 1) [.t q37] 255,o q47 (.fad 0) [.t q4] 511,u (.st 1) [.t q47,.t q45] 1535,m q8 q46 4095]) (s (d [o q49 (.fad 1) [.t q4] 0,o q50 .ld1 [.t q49] 1,m q51 q6 0,o q52 .nchk [.t q51] 4,o q53 (.fad 3) [.t q52] 12,o q54 .ld1 [.t q53] 28,o q55 (.call 100) [.t q50,.t q54] 63,m q48 q55 127,o q56 (.ext 0) [.t q48] 255,o q57 (.ext 1) [.t q48] 255,o q58 (.fad 1) [.t q4] 511,u (.st 1) [.t q58,.t q56] 1535,m q9 q57 4095]) (s (r [m q59 q7 0,o q60 (.bin .neq) [.t q59,i 0] 1,m q61 q60 3,g q62 .mov [.t q8] q61 false 7,g q63 (.bin .neq) [.t q62,i 0] q61 false 15,o q64 .pick [.t q61,.c (.bool true),.t q63] 31,m q65 q64 63,g q66 .mov [.t q9] q65 false 127,g q67 (.bin .neq) [.t q66,i 0] q65 false 255,o q68 .pick [.t q65,.c (.bool true),.t q67] 511]) (c q68 (s (r [o q69 (.build [(.int .i64 (0)),(.int .i64 (0)),(.int .i64 (0)),.nilsl] []) [] 0,u (.st 4) [.t q2,.t q69] 1,o q3 .mov [i 7] 3]) .ret) .skip))))))))) (r [o q70 (.bin .add) [.t q16,i 1] 0,m q16 q70 1]))))
def a1_whole:SC:=(s (r [o q72 (.fad 0) [.t q4] 0,o q73 .ld1 [.t q72] 1,o q74 (.fad 1) [.t q4] 0,o q75 .ld1 [.t q74] 4,o q76 (.call 100) [.t q73,.t q75] 15,m q71 q76 31,o q77 (.ext 0) [.t q71] 63,o q78 (.ext 1) [.t q71] 63,m q10 q77 127,m q11 q78 511]) (s (s (r [m q79 q11 0,o q80 (.bin .neq) [.t q79,i 0] 1]) (c q80 (s (r [o q81 (.build [(.int .i64 (0)),(.int .i64 (0)),(.int .i64 (0)),.nilsl] []) [] 0,m q82 q11 0,u (.st 4) [.t q2,.t q81] 1,m q3 q82 7]) .ret) .skip)) (s (r [m q83 q10 0,o q84 (.fad 2) [.t q4] 1,u (.st 1) [.t q84,.t q83] 3]) (s (r [o q85 (.ldn 4) [.t q4] 0,u (.st 4) [.t q2,.t q85] 1,o q3 .mov [i 0] 3]) .ret))))
def s_whole:FnS:=⟨86,(s (r [o q2 (.new [(.int .i64 (0)),(.int .i64 (0)),(.int .i64 (0)),.nilsl]) [] 0,o q3 .mov [i 0] 0]) (s (r [m q12 q0 0,o q13 (.build [(.int .i64 (0)),(.int .i64 (0)),(.int .i64 (0)),.nilsl] [(3,1)]) [.t q12] 1,o q4 (.new [(.int .i64 (0)),(.int .i64 (0)),(.int .i64 (0)),.nilsl]) [] 0,u (.st 4) [.t q4,.t q13] 7]) (s (s (r [m q14 q0 0,o q15 .len [.t q14] 1,o q16 .mov [i 0] 0]) (.blk 0 (.loop l1_whole 1 b1_whole))) a1_whole))),[(.cn q2 4),.t q3]⟩
def k1_whole {β:Type} (cl:ClS) (L:Nat) (K:AV→Mem→Option β):Ex→T AV→Mem→Option β:=kBlk 0 (kSeq (evS cl L a1_whole) (endS s_whole.res K))
theorem ok_whole:FnOkS Tryz.prog 110 s_whole:=fnOkS_of Tryz.func110 (by kernel_rfl) (by kernel_rfl) Tryz.ntmps110 (by kernel_rfl) (by kernel_rfl)
def l1_total:List Path:=[q0,q4,q6,q8,q34,q35,q36]
def b1_total:SC:=(s (r [o q37 (.bin .lss) [.t q36,.t q35] 0]) (s (c q37 .skip (.exit 1)) (s (.blk 2 (s (r [o q38 (.ixs 4) [.t q34,.t q36] 0,o q39 (.ldn 4) [.t q38] 1,o q10 (.new [(.str []),(.str []),(.int .i64 (0)),(.int .i64 (0))]) [] 0,u (.st 4) [.t q10,.t q39] 7]) (s (r [m q41 q0 0,o q42 (.ldn 3) [.t q4] 0,o q43 (.ldn 4) [.t q10] 0,o q44 (.call 108) [.t q41,.t q42,.t q43] 7,m q40 q44 15,o q45 (.ext 0) [.t q40] 31,o q46 (.ext 1) [.t q40] 31,o q47 (.ext 2) [.t q40] 31,m q11 q45 63,m q12 q46 383,m q13 q47 1023]) (s (s (r [m q48 q13 0,o q49 (.bin .neq) [.t q48,i 0] 1]) (c q49 (s (r [o q50 (.build [(.int .i64 (0)),(.int .i64 (0)),(.int .i64 (0)),.nilsl] []) [] 0,m q51 q13 0,u (.st 4) [.t q6,.t q50] 1,m q7 q51 7]) .ret) .skip)) (s (r [m q53 q8 0,o q54 (.fad 1) [.t q10] 0,o q55 .ld1 [.t q54] 2,m q56 q11 0,m q57 q12 0,o q58 (.call 109) [.t q53,.t q55,.t q56,.t q57] 31,m q52 q58 63,o q59 (.ext 0) [.t q52] 127,o q60 (.ext 1) [.t q52] 127,m q8 q59 255,m q13 q60 1023]) (s (r [m q61 q13 0,o q62 (.bin .neq) [.t q61,i 0] 1]) (c q62 (s (r [o q63 (.build [(.int .i64 (0)),(.int .i64 (0)),(.int .i64 (0)),.nilsl] []) [] 0,m q64 q13 0,u (.st 4) [.t q6,.t q63] 1,m q7 q64 7]) .ret) .skip))))))) (r [o q65 (.bin .add) [.t q36,i 1] 0,m q36 q65 1]))))
def a1_total:SC:=(s (r [m q66 q8 0,o q67 (.call 110) [.t q66] 1,o q68 (.ext 0) [.t q67] 3,o q69 (.ext 1) [.t q67] 3,u (.st 4) [.t q6,.t q68] 15,m q7 q69 31]) .ret)
def s_total:FnS:=⟨70,(s (r [o q4 .box [.t q1] 0,o q6 (.new [(.int .i64 (0)),(.int .i64 (0)),(.int .i64 (0)),.nilsl]) [] 0,o q7 .mov [i 0] 0]) (s (.blk 0 (s (r [m q15 q0 0,o q16 (.call 24) [.t q15] 1,o q17 (.un .not) [.t q16] 3,m q14 q17 7]) (c q14 (s (r [o q18 (.build [(.int .i64 (0)),(.int .i64 (0)),(.int .i64 (0)),.nilsl] []) [] 0,u (.st 4) [.t q6,.t q18] 1,o q7 .mov [i 1] 3]) .ret) (s (r [o q20 (.ldn 3) [.t q4] 0,o q21 (.call 56) [.t q20] 1,o q22 (.un .not) [.t q21] 3,m q19 q22 7]) (c q19 (s (r [o q23 (.build [(.int .i64 (0)),(.int .i64 (0)),(.int .i64 (0)),.nilsl] []) [] 0,u (.st 4) [.t q6,.t q23] 1,o q7 .mov [i 9] 3]) .ret) (s (r [m q25 q2 0,o q26 .len [.t q25] 1,o q27 (.bin .eql) [.t q26,i 0] 3,m q24 q27 7]) (c q24 (s (r [o q28 (.build [(.int .i64 (0)),(.int .i64 (0)),(.int .i64 (0)),.nilsl] []) [] 0,u (.st 4) [.t q6,.t q28] 1,o q7 .mov [i 1] 3]) .ret) (s (r [m q30 q2 0,o q31 .len [.t q30] 1,o q32 (.bin .gtr) [.t q31,i 12] 3,m q29 q32 7]) (c q29 (s (r [o q33 (.build [(.int .i64 (0)),(.int .i64 (0)),(.int .i64 (0)),.nilsl] []) [] 0,u (.st 4) [.t q6,.t q33] 1,o q7 .mov [i 2] 3]) .ret) .skip))))))))) (s (r [o q8 .mov [.c .nilsl] 0]) (s (s (r [m q34 q2 0,o q35 .len [.t q34] 1,o q36 .mov [i 0] 0]) (.blk 1 (.loop l1_total 0 b1_total))) a1_total)))),[(.cn q6 4),.t q7]⟩
def k1_total {β:Type} (cl:ClS) (L:Nat) (K:AV→Mem→Option β):Ex→T AV→Mem→Option β:=kBlk 1 (kSeq (evS cl L a1_total) (endS s_total.res K))
theorem ok_total:FnOkS Tryz.prog 72 s_total:=fnOkS_of Tryz.func72 (by kernel_rfl) (by kernel_rfl) Tryz.ntmps72 (by kernel_rfl) (by kernel_rfl)
def l1_off:List Path:=[q7,q8,q9]
def b1_off:SC:=(s (r [o q10 (.bin .lss) [.t q9,.t q8] 0]) (s (c q10 .skip (.exit 0)) (s (.blk 1 (s (r [o q11 (.ixs 1) [.t q7,.t q9] 0,o q12 .ld1 [.t q11] 1,m q4 q12 3]) (s (r [m q14 q4 0,o q15 .nchk [.t q14] 1,o q16 .ld1 [.t q15] 3,o q17 (.call 97) [i 0,.t q16] 7,m q13 q17 15,o q18 (.ext 0) [.t q13] 31,o q19 (.ext 1) [.t q13] 31,m q5 q18 63,m q6 q19 255]) (s (s (r [m q20 q6 0,o q21 (.bin .neq) [.t q20,i 0] 1]) (c q21 (s (r [m q22 q6 0,m q2 q22 1]) .ret) .skip)) (r [m q23 q4 0,m q24 q5 0,o q25 .nchk [.t q23] 3,u (.st 1) [.t q25,.t q24] 7]))))) (r [o q26 (.bin .add) [.t q9,i 1] 0,m q9 q26 1]))))
def a1_off:SC:=(s (r [o q2 .mov [i 0] 0]) .ret)
def s_off:FnS:=⟨27,(s (r [o q2 .mov [i 0] 0]) (s (s (r [m q7 q0 0,o q8 .len [.t q7] 1,o q9 .mov [i 0] 0]) (.blk 0 (.loop l1_off 3 b1_off))) a1_off)),[.t q2]⟩
theorem ok_off:FnOkS Tryz.prog 113 s_off:=fnOkS_of Tryz.func113 (by kernel_rfl) (by kernel_rfl) Tryz.ntmps113 (by kernel_rfl) (by kernel_rfl)
def l1_back:List Path:=[q1,q2,q22,q23]
def b1_back:SC:=(s (r [o q24 (.bin .lss) [.t q23,.t q22] 0]) (s (c q24 .skip (.exit 0)) (s (.blk 1 (s (r [m q25 q23 0,m q5 q25 1]) (s (d [o q26 (.fad 3) [.t q1] 0,o q27 .ld1 [.t q26] 1,m q28 q5 0,o q29 (.ixs 4) [.t q27,.t q28] 7,o q30 (.fad 2) [.t q29] 15,o q31 (.fad 3) [.t q1] 0,o q32 .ld1 [.t q31] 32,m q33 q5 0,o q34 (.ixs 4) [.t q32,.t q33] 224,o q35 (.fad 3) [.t q34] 480,o q36 (.bsl [.nilp] 2 1 [(0,1),(1,1)]) [.t q30,.t q35] 1023,o q37 (.call 113) [.t q36] 2047,m q6 q37 4095]) (s (r [m q38 q6 0,o q39 (.bin .neq) [.t q38,i 0] 1]) (c q39 (s (r [o q40 (.build [(.int .i64 (0)),(.int .i64 (0)),(.int .i64 (0)),.nilsl] []) [] 0,m q41 q6 0,u (.st 4) [.t q2,.t q40] 1,m q3 q41 7]) .ret) .skip))))) (r [o q42 (.bin .add) [.t q23,i 1] 0,m q23 q42 1]))))
def a1_back:SC:=(s (r [o q43 (.ldn 4) [.t q1] 0,u (.st 4) [.t q2,.t q43] 1,o q3 .mov [i 0] 3]) .ret)
def s_back:FnS:=⟨44,(s (r [o q1 .box [.t q0] 0,o q2 (.new [(.int .i64 (0)),(.int .i64 (0)),(.int .i64 (0)),.nilsl]) [] 0,o q3 .mov [i 0] 0]) (s (r [o q7 (.fad 3) [.t q1] 0,o q8 .ld1 [.t q7] 1,o q9 (.app 4 40) [.c .nilsl,.t q8] 3,o q10 (.fad 3) [.t q1] 7,u (.st 1) [.t q10,.t q9] 15]) (s (s (r [o q11 (.fad 0) [.t q1] 0,o q12 (.fad 1) [.t q1] 0,o q13 (.fad 2) [.t q1] 0,o q14 (.bsl [.nilp] 3 1 [(0,1),(1,1),(2,1)]) [.t q11,.t q12,.t q13] 7,o q15 (.call 113) [.t q14] 15,m q4 q15 31]) (s (r [m q16 q4 0,o q17 (.bin .neq) [.t q16,i 0] 1]) (c q17 (s (r [o q18 (.build [(.int .i64 (0)),(.int .i64 (0)),(.int .i64 (0)),.nilsl] []) [] 0,m q19 q4 0,u (.st 4) [.t q2,.t q18] 1,m q3 q19 7]) .ret) .skip))) (s (s (r [o q20 (.fad 3) [.t q1] 0,o q21 .ld1 [.t q20] 1,o q22 .len [.t q21] 3,o q23 .mov [i 0] 0]) (.blk 0 (.loop l1_back 0 b1_back))) a1_back)))),[(.cn q2 4),.t q3]⟩
def k1_back {β:Type} (cl:ClS) (L:Nat) (K:AV→Mem→Option β):Ex→T AV→Mem→Option β:=kBlk 0 (kSeq (evS cl L a1_back) (endS s_back.res K))
theorem ok_back:FnOkS Tryz.prog 75 s_back:=fnOkS_of Tryz.func75 (by kernel_rfl) (by kernel_rfl) Tryz.ntmps75 (by kernel_rfl) (by kernel_rfl)
end Go.Proofs.YtbknmeafcbhicaaGreatDoor.Ev

/- Invoices: a line, a line's amount into its part. -/
namespace Go.Proofs.YtbknmeafcbhicaaGreatDoor.Ev
open Go
def lineT (t:List bil.Rt) (d:bil.Dt) (x:bil.Li):Int × Int × Int :=
 bif ltI 64 (.ofNat x.text.data.toList.length) then (0,0,2) else bif E.name x.cat then bif ltI x.count 1 || ltI 1048576 x.count then (0,0,1) else bif (findR t x.cat d).isSome then ((findR t x.cat d).getD 0,(mulR x.count x.price).1,(mulR x.count x.price).2) else (0,0,10) else (0,0,8)
def lineA (x:Int × Int × Int):AV:=.tup [i64 x.1,i64 x.2.1,i64 x.2.2]
def cLi (x:bil.Li):List AV:=[tx x.text,tx x.cat,i64 x.count,i64 x.price]
def gLi (x:bil.Li):Bool:=gI x.count&&gI x.price
theorem run_line (L:Nat) (t:List bil.Rt) (d:bil.Dt) (x:bil.Li) (h:gLi x=true):callF c41 L s_line (.tup [.any,.any,.any]) [.fl .rate t,.agg [i64 d.y,i64 d.m,i64 d.d],.agg (cLi x)] some=some (lineA (lineT t d x)):=by
 have e:callF c41 L s_line (.tup [.any,.any,.any]) [.fl .rate t,.agg [i64 d.y,i64 d.m,i64 d.d],.agg (cLi x)] some=bif ltI 64 (.ofNat x.text.data.toList.length) then some (lineA (0,0,2)) else bif E.name x.cat then bif ltI x.count 1 then some (lineA (0,0,1)) else bif ltI 1048576 x.count then some (lineA (0,0,1)) else
  bif (findR t x.cat d).isSome then bif gI x.count&&gI x.price then some (lineA ((findR t x.cat d).getD 0,(mulR x.count x.price).1,(mulR x.count x.price).2)) else none else some (lineA (0,0,10)) else some (lineA (0,0,8)):=by kernel_rfl
 rw [e]
 unfold gLi at h
 rw [h]
 unfold lineT
 cases ltI 64 (.ofNat x.text.data.toList.length)<;>cases E.name x.cat<;>cases ltI x.count 1<;>cases ltI 1048576 x.count<;>cases (findR t x.cat d).isSome<;>rfl
def G_line:List AV→Option (Bool × AV)
 | [.fl .rate t,.agg [.int .i64 y,.int .i64 m,.int .i64 d],.agg [.str a,.str b,.int .i64 c,.int .i64 p]]=>some (gLi ⟨⟨⟨a⟩⟩,⟨⟨b⟩⟩,c,p⟩,lineA (lineT t ⟨y,m,d⟩ ⟨⟨⟨a⟩⟩,⟨⟨b⟩⟩,c,p⟩))
 | _=>none
def c42:ClS:=addG 108 G_line c41
theorem snd42:SoundS Tryz.prog c42:=add_gn snd41 mix ok_line (.tup [.any,.any,.any]) G_line fun xs r h=>by
 unfold G_line at h
 split at h<;>first | (cases h;done) | skip
 rename_i t y m d a b c p
 obtain⟨hg,rfl⟩:=Prod.mk.inj (Option.some.inj h)
 exact⟨rfl,0,run_line 0 t ⟨y,m,d⟩ ⟨⟨⟨a⟩⟩,⟨⟨b⟩⟩,c,p⟩ hg⟩
theorem lineT_eq {t:List bil.Rt} {d:bil.Dt} {x:bil.Li}:bil.lineF E t d x=if (lineT t d x).2.2=0 then .inl ((lineT t d x).1,(lineT t d x).2.1) else .inr (lineT t d x).2.2:=by
 unfold bil.lineF lineT
 have hs:x.text.size=x.text.data.toList.length:=rfl
 rw [ltI_eq,ltI_eq,ltI_eq,hs]
 by_cases h1:64 < x.text.data.toList.length
 ·rw [if_pos h1,decide_eq_true (show (64:Int) < .ofNat x.text.data.toList.length by simp only [Int.ofNat_eq_natCast];omega)];rfl
 ·rw [if_neg h1,decide_eq_false (show ¬ (64:Int) < .ofNat x.text.data.toList.length by simp only [Int.ofNat_eq_natCast];omega),cond_false]
  cases h2:E.name x.cat with
  | false=>rfl
  | true =>
   rw [if_neg (by simp),cond_true]
   by_cases h3:x.count < 1
   ·rw [if_pos (.inl h3),decide_eq_true h3];rfl
   ·by_cases h4:1048576 < x.count
    ·rw [if_pos (.inr h4),decide_eq_true h4,Bool.or_true];rfl
    ·rw [if_neg (by omega),decide_eq_false h3,decide_eq_false h4,Bool.or_self,cond_false]
     have e:findR t x.cat d=bil.vatFind E t x.cat d:=rfl
     rw [e]
     cases bil.vatFind E t x.cat d with
     | none=>rfl
     | some bp =>
      simp only [Option.isSome_some,cond_true,Option.getD_some]
      unfold mulR
      cases bil.mulZ x.count x.price<;>rfl
def c43:ClS:=addI 159 .part c42
theorem snd43:SoundS Tryz.prog c43:=ins_part snd42
abbrev nP (l:List bil.Pt) (k:Nat):bil.Pt:=nth (t:=.part) l k
def hPt (l:List bil.Pt):T Blk:=.node .nil (some ⟨.ls .part l,4,true⟩) .nil
def insP (l:List bil.Pt) (k:Nat) (c:ByteArray) (b:Int):List bil.Pt:=l.take k++⟨c,b,0,0⟩::l.drop k
def netP (l:List bil.Pt) (k:Nat) (n:Int):List bil.Pt:=l.set k { nP l k with net:=(addR (nP l k).net n).1 }
def tailPt (len:Nat) (l:List bil.Pt) (n:Int) (k:Nat):Option (AV × T Blk × Nat) :=
 bif inI (.ofNat k) len then bif Nat.blt k l.length then bif gI (nP l k).net&&gI n then bif inI (.ofNat k) len then bif Nat.blt k l.length then some (.tup [.so 0 4 0 len,i64 (addR (nP l k).net n).2],hPt (netP l k n),1) else none else none else none else none else none
def insPt (len:Nat) (l:List bil.Pt) (c:ByteArray) (b n:Int) (k:Nat):Option (AV × T Blk × Nat) :=
 bif Nat.beq len l.length&&(inI (.ofNat k) (l.length+1)&&Nat.blt l.length 1000000) then tailPt (l.length+1) (insP l k c b) n k else none
def aftPt (len:Nat) (l:List bil.Pt) (c:ByteArray) (b n:Int) (k:Nat):Option (AV × T Blk × Nat) :=
 bif eqI (.ofNat k) (.ofNat len) then insPt len l c b n k else bif inI (.ofNat k) len then bif Nat.blt k l.length then bif !bytesEq (nP l k).cat.data.toList c.data.toList then insPt len l c b n k else tailPt len l n k else none else none
def kPt (L:Nat):Ex→T AV→Mem→Option (AV × T Blk × Nat):=k1_put c43 L fun r m=>trimK 0 r m fun r m=>some (r,m.h,m.nx)
def lpPt (L L' len:Nat) (l:List bil.Pt) (c:List UInt8) (b n k:Int):Option (AV × T Blk × Nat):=loopS (evS c43 L b1_put) l1_put 1 L' (stL [(q0,.so 0 4 0 len),(q1,.str c),(q2,i64 b),(q3,i64 n),(q10,i64 k)]) ⟨hPt l,1,1,1⟩ (kPt L)
theorem round_put (L L' len k:Nat) (l:List bil.Pt) (c:List UInt8) (b n:Int):lpPt L (Nat.succ L') len l c b n (.ofNat k) =
 bif ltI (.ofNat k) (.ofNat len) then bif inI (.ofNat k) len then bif Nat.blt k l.length then bif bytesLt (nP l k).cat.data.toList c then lpPt L L' len l c b n (wrapK .i64 (.ofNat k+1)) else aftPt len l ⟨⟨c⟩⟩ b n k else none else none
 else aftPt len l ⟨⟨c⟩⟩ b n k:=by kernel_rfl
theorem loop_put (L:Nat) (l:List bil.Pt) (c:List UInt8) (b n:Int) (hl:l.length < 1000):∀ (t:List bil.Pt) (k f:Nat),l.drop k=t→k≤l.length→t.length < f →
  lpPt L f l.length l c b n (.ofNat k)=aftPt l.length l ⟨⟨c⟩⟩ b n (k+(t.takeWhile fun p=>bil.less p.cat ⟨⟨c⟩⟩).length)
 | t,k,0,_,_,hf=>by omega
 | [],k,f+1,hd,hn,hf=>by
  rw [round_put,drop_nil hd hn,le_nat (Nat.le_refl _),cond_false]
  rfl
 | x::t,k,f+1,hd,hn,hf=>by
  obtain⟨h1,h2,h3⟩:=drop_cons (t:=.part) hd
  have ih:=loop_put L l c b n hl t (k+1) f h3 (by omega) (by simp at hf;omega)
  have hb:=blt_bytes x.cat ⟨⟨c⟩⟩
  simp only at hb
  have h2':nP l k=x:=h2
  rw [round_put,lt_nat h1,cond_true,in_nat h1,cond_true,bltN_true h1,cond_true,h2',wrap_succ (by omega),ih,hb,List.takeWhile_cons]
  cases bil.less x.cat ⟨⟨c⟩⟩ with
  | true =>
   rw [cond_true,if_pos rfl,List.length_cons]
   exact congrArg _ (by omega)
  | false=>rfl
def putL' (l:List bil.Pt) (c:ByteArray) (b:Int):List bil.Pt:=if (l[bil.partPlace l c]?.map (·.cat))=some c then l else insP l (bil.partPlace l c) c b
def putP (l:List bil.Pt) (c:ByteArray) (b n:Int):List bil.Pt × Int:=(netP (putL' l c b) (bil.partPlace l c) n,(addR (nP (putL' l c b) (bil.partPlace l c)).net n).2)
def allP (l:List bil.Pt):Prop:=∀ x∈l,bil.I64 x.net
theorem insP_at (l:List bil.Pt) (k:Nat) (c:ByteArray) (b:Int) (hk:k≤l.length):(insP l k c b).length=l.length+1∧nP (insP l k c b) k=⟨c,b,0,0⟩:=by
 have hlen:(insP l k c b).length=l.length+1:=by
  unfold insP
  rw [List.length_append,List.length_take,List.length_cons,List.length_drop]
  omega
 refine⟨hlen,?_⟩
 have:(insP l k c b)[k]?=some ⟨c,b,0,0⟩:=by
  unfold insP
  rw [List.getElem?_append_right (by rw [List.length_take];omega),List.length_take,show k - min k l.length=0 by omega]
  rfl
 rw [get_nth (t:=.part) (by omega)] at this
 exact Option.some.inj this
theorem tailPt_eq {l:List bil.Pt} {n:Int} {k:Nat} (hk:k < l.length) (h1:bil.I64 (nP l k).net) (h2:bil.I64 n):tailPt l.length l n k=some (.tup [.so 0 4 0 (netP l k n).length,i64 (addR (nP l k).net n).2],hPt (netP l k n),1):=by
 unfold tailPt
 rw [in_nat hk,bltN_true hk,gI_iff.2 h1,gI_iff.2 h2]
 have:(netP l k n).length=l.length:=by unfold netP;rw [List.length_set]
 rw [this]
 rfl
theorem putP_eq (l:List bil.Pt) (c:ByteArray) (b n:Int) (hl:l.length < 1000) (hI:allP l) (hn:bil.I64 n) :
  aftPt l.length l c b n (bil.partPlace l c)=some (.tup [.so 0 4 0 (putP l c b n).1.length,i64 (putP l c b n).2],hPt (putP l c b n).1,1):=by
 have hle:bil.partPlace l c≤l.length:=tw_le (p:=fun p:bil.Pt=>bil.less p.cat c) l
 unfold putP putL'
 generalize bil.partPlace l c=k at hle
 obtain⟨i1,i2⟩:=insP_at l k c b hle
 have hins:insPt l.length l c b n k=some (.tup [.so 0 4 0 (netP (insP l k c b) k n).length,i64 (addR (nP (insP l k c b) k).net n).2],hPt (netP (insP l k c b) k n),1):=by
  unfold insPt
  rw [beqN_true rfl,in_nat (by omega),bltN_true (show l.length < 1000000 by omega),Bool.and_self,Bool.and_self,cond_true,← i1]
  exact tailPt_eq (by omega) (by rw [i2];exact (show bil.I64 0 from ⟨by decide,by decide⟩)) hn
 unfold aftPt
 by_cases h1:k=l.length
 ·rw [eq_true' (by rw [h1]),cond_true,hins,if_neg (by rw [List.getElem?_eq_none (by omega)];simp)]
 ·have hlt:k < l.length:=by omega
  have hg:=get_nth (t:=.part) hlt
  rw [eq_false' (by simp;omega),cond_false,in_nat hlt,bltN_true hlt,cond_true,cond_true,beq_bytes]
  by_cases h2:(nP l k).cat=c
  ·rw [decide_eq_true h2,Bool.not_true,cond_false,if_pos (by rw [hg];simpa using h2)]
   exact tailPt_eq hlt (hI _ (List.mem_of_getElem? hg)) hn
  ·rw [decide_eq_false h2,Bool.not_false,cond_true,hins,if_neg (by rw [hg];simpa using h2)]
theorem partPut_eq (l:List bil.Pt) (c:ByteArray) (b n:Int):bil.partPut l c b n=if (putP l c b n).2=0 then some (putP l c b n).1 else none:=by
 have hle:bil.partPlace l c≤l.length:=tw_le (p:=fun p:bil.Pt=>bil.less p.cat c) l
 unfold bil.partPut putP netP
 have e:(if (l[bil.partPlace l c]?.map (·.cat))=some c then l else l.take (bil.partPlace l c)++⟨c,b,0,0⟩::l.drop (bil.partPlace l c))=putL' l c b:=rfl
 simp only [e]
 have hk:bil.partPlace l c < (putL' l c b).length:=by
  unfold putL'
  split
  ·rename_i h
   rcases Nat.lt_or_ge (bil.partPlace l c) l.length with h1 | h1
   ·exact h1
   ·rw [List.getElem?_eq_none h1] at h;simp at h
  ·rw [(insP_at l _ c b hle).1];omega
 rw [get_nth (t:=.part) hk]
 simp only
 unfold addR
 cases bil.addZ (nth (t:=.part) (putL' l c b) (bil.partPlace l c)).net n with
 | none=>rfl
 | some m=>rfl
def gPn (p:bil.Pt):Bool:=gI p.net
theorem gPn_all {l:List bil.Pt} (h:l.all gPn=true):allP l:=fun x hx=>by
 rw [List.all_eq_true] at h
 exact gI_iff.1 (h x hx)
def H_put:List AV→Mem→Option (Bool × AV × T Blk × Nat)
 | [.so 0 4 0 len,.str c,.int .i64 b,.int .i64 n],⟨.node .nil (some ⟨.ls .part l,4,true⟩) .nil,1,0,0⟩=>some (Nat.beq len l.length&&(l.all gPn&&(gI n&&Nat.blt l.length 1000)),.tup [.so 0 4 0 (putP l ⟨⟨c⟩⟩ b n).1.length,i64 (putP l ⟨⟨c⟩⟩ b n).2],hPt (putP l ⟨⟨c⟩⟩ b n).1,1)
 | [.nilsl,.str c,.int .i64 b,.int .i64 n],⟨.nil,0,0,0⟩=>some (gI n,.tup [.so 0 4 0 (putP [] ⟨⟨c⟩⟩ b n).1.length,i64 (putP [] ⟨⟨c⟩⟩ b n).2],hPt (putP [] ⟨⟨c⟩⟩ b n).1,1)
 | _,_=>none
def c44:ClS:=addC 109 H_put c43
theorem snd44:SoundS Tryz.prog c44:=add_con snd43 mix ok_put H_put fun xs m r h1 n1 h=>by
 unfold H_put at h
 split at h<;>first | (cases h;done) | skip
 ·rename_i len c b n l
  simp only [Option.some.injEq,Prod.mk.injEq] at h
  obtain⟨hg,rfl,rfl,rfl⟩:=h
  simp only [Bool.and_eq_true,blt_iff] at hg
  obtain⟨g1,g2,g3,g4⟩:=hg
  obtain rfl:=beqN.1 g1
  refine⟨l.length+1,?_⟩
  have e:∀ L,callS c43 L s_put [.so 0 4 0 l.length,.str c,i64 b,i64 n] ⟨hPt l,1,0,0⟩ (fun r m=>trimK 0 r m fun r m=>some (r,m.h,m.nx))=lpPt L L l.length l c b n (.ofNat 0):=fun L=>by kernel_rfl
  refine (e _).trans ?_
  rw [loop_put _ l c b n g4 l 0 _ rfl (by omega) (by omega),Nat.zero_add]
  exact putP_eq l ⟨⟨c⟩⟩ b n g4 (gPn_all g2) (gI_iff.1 g3)
 ·rename_i c b n
  simp only [Option.some.injEq,Prod.mk.injEq] at h
  obtain⟨hg,rfl,rfl,rfl⟩:=h
  refine⟨1,?_⟩
  have e:callS c43 1 s_put [.nilsl,.str c,i64 b,i64 n] ⟨.nil,0,0,0⟩ (fun r m=>trimK 0 r m fun r m=>some (r,m.h,m.nx))=bif gI 0&&gI n then some (.tup [.so 0 4 0 1,i64 (addR 0 n).2],hPt [⟨⟨⟨c⟩⟩,b,(addR 0 n).1,0⟩],1) else none:=by kernel_rfl
  refine e.trans ?_
  rw [hg,show gI 0=true from by decide,Bool.and_self,cond_true]
  rfl
end Go.Proofs.YtbknmeafcbhicaaGreatDoor.Ev

/- Invoices: all parts together. -/
namespace Go.Proofs.YtbknmeafcbhicaaGreatDoor.Ev
open Go
theorem tax_i64 (n bp:Int):bil.I64 (taxR n bp).1:=by
 show bil.I64 (shareR n bp 10000).1
 unfold shareR
 split
 ·exact (show bil.I64 0 from ⟨by decide,by decide⟩)
 ·rename_i h
  split
  ·exact (show bil.I64 0 from ⟨by decide,by decide⟩)
  ·rename_i h2
   have hb:0≤bp∧bp≤100000:=by omega
   have h0:0≤rateOut n.natAbs bp 10000:=by
    have:=rate_bd n.natAbs bp 10000 (by omega) (by decide) (by decide) hb.1 hb.2
    unfold rateOut
    omega
   constructor<;>split<;>omega
theorem taxO_eq {n bp:Int} (h:bil.I64 n):E.tax n bp=if (taxR n bp).2=0 then some (taxR n bp).1 else none:=by
 show taxO n bp=_
 unfold taxO taxR
 by_cases h2:(shareR n bp 10000).2=0
 ·rw [if_pos ⟨h,h2⟩,if_pos h2]
 ·rw [if_neg (fun hh=>h2 hh.2),if_neg h2]
def setT (l:List bil.Pt) (k:Nat):List bil.Pt:=l.set k { nP l k with tax:=(taxR (nP l k).net (nP l k).bp).1 }
def mW (l:List bil.Pt) (len:Nat) (n t:Int):Mem :=
 ⟨(T.node T.nil (some ⟨.raw [i64 0,i64 0,i64 0,.nilsl],1,false⟩) T.nil).node (some ⟨.ls .part l,4,true⟩) ((T.node T.nil (some ⟨.raw [i64 n,i64 t,i64 0,.so 0 4 0 len],1,false⟩) T.nil).node none T.nil),3,7,7⟩
abbrev R3:=AV × T Blk × Nat
def failW (e:Int):Option R3:=some (.tup [.agg [i64 0,i64 0,i64 0,.nilsl],i64 e],.nil,0)
def doneW (len:Nat) (l:List bil.Pt) (a b g:Int):Option R3:=some (.tup [.agg [i64 a,i64 b,i64 g,.so 0 4 0 len],i64 0],hPt l,1)
def kW (L:Nat):Ex→T AV→Mem→Option R3:=k1_whole c44 L fun r m=>trimK 0 r m fun r m=>some (r,m.h,m.nx)
def lpW (L L' len:Nat) (l:List bil.Pt) (a b k:Int):Option R3:=loopS (evS c44 L b1_whole) l1_whole 1 L' (stL [(q0,.so 0 4 0 len),(q2,.ptr 1 0),(q4,.ptr 2 0),(q15,i64 (.ofNat len)),(q16,i64 k)]) (mW l len a b) (kW L)
theorem round_whole (L L' len k:Nat) (l:List bil.Pt) (a b:Int):lpW L (Nat.succ L') len l a b (.ofNat k) =
 bif ltI (.ofNat k) (.ofNat len) then bif inI (.ofNat k) len then bif Nat.blt k l.length then bif Nat.blt k l.length then bif gI (nP l k).net then bif Nat.blt k l.length then bif Nat.blt k (setT l k).length then
  bif gI a&&gI (nP (setT l k) k).net then bif Nat.blt k (setT l k).length then bif gI b&&gI (nP (setT l k) k).tax then
  bif !eqI (taxR (nP l k).net (nP l k).bp).2 0 then failW 7 else bif !eqI (addR a (nP (setT l k) k).net).2 0 then failW 7 else bif !eqI (addR b (nP (setT l k) k).tax).2 0 then failW 7 else
  lpW L L' len (setT l k) (addR a (nP (setT l k) k).net).1 (addR b (nP (setT l k) k).tax).1 (wrapK .i64 (.ofNat k+1))
  else none else none else none else none else none else none else none else none else none
 else bif gI a&&gI b then bif !eqI (addR a b).2 0 then failW (addR a b).2 else doneW len l a b (addR a b).1 else none:=by kernel_rfl
def finW (l:List bil.Pt) (a b:Int):Option R3:=match bil.addZ a b with
 | none=>failW 7
 | some g=>doneW l.length l a b g
def wRes (pre:List bil.Pt) (o:Option (List bil.Pt × Int × Int)):Option R3:=match o with
 | none=>failW 7
 | some (ps,n,t)=>finW (pre++ps) n t
theorem whole_cons (p:bil.Pt) (ps:List bil.Pt) (n t:Int):bil.wholeF E (p::ps) n t=match E.tax p.net p.bp with
  | none=>none
  | some x=>match bil.addZ n p.net with
   | none=>none
   | some n'=>match bil.addZ t x with
    | none=>none
    | some t'=>(bil.wholeF E ps n' t').map fun r=>({ p with tax:=x }::r.1,r.2):=by
 rw [bil.wholeF]
 cases E.tax p.net p.bp with
 | none=>rfl
 | some x=>cases bil.addZ n p.net with
  | none=>rfl
  | some n'=>cases bil.addZ t x<;>rfl
theorem loop_whole (L:Nat):∀ (t:List bil.Pt) (k f:Nat) (l:List bil.Pt) (a b:Int),l.drop k=t→k≤l.length→t.length < f→l.length < 1000→allP l→bil.I64 a→bil.I64 b →
  lpW L f l.length l a b (.ofNat k)=wRes (l.take k) (bil.wholeF E t a b)
 | t,k,0,l,a,b,_,_,hf,_,_,_,_=>by omega
 | [],k,f+1,l,a,b,hd,hn,hf,hl,hI,ha,hb=>by
  rw [round_whole,drop_nil hd hn,le_nat (Nat.le_refl _),cond_false,gI_iff.2 ha,gI_iff.2 hb,Bool.and_self,cond_true,List.take_length]
  show _=finW (l++[]) a b
  rw [List.append_nil]
  unfold finW addR
  cases bil.addZ a b<;>rfl
 | x::t,k,f+1,l,a,b,hd,hn,hf,hl,hI,ha,hb=>by
  obtain⟨h1,h2,h3⟩:=drop_cons (t:=.part) hd
  have h2':nP l k=x:=h2
  have hx:bil.I64 x.net:=hI x (by rw [← h2,nth_get h1];exact List.getElem_mem h1)
  have hlen:(setT l k).length=l.length:=by unfold setT;rw [List.length_set]
  have hget:nP (setT l k) k={ x with tax:=(taxR x.net x.bp).1 }:=by
   show nth (t:=.part) (setT l k) k=_
   rw [nth_get (t:=.part) (by rw [hlen];exact h1)]
   unfold setT
   rw [List.getElem_set_self,h2']
  rw [round_whole,lt_nat h1,cond_true,in_nat h1,cond_true,bltN_true h1,cond_true,cond_true,h2',gI_iff.2 hx,cond_true,cond_true,hlen,bltN_true h1,cond_true,hget]
  show (bif gI a&&gI x.net then bif true then bif gI b&&gI (taxR x.net x.bp).1 then bif !eqI (taxR x.net x.bp).2 0 then _ else bif !eqI (addR a x.net).2 0 then _ else bif !eqI (addR b (taxR x.net x.bp).1).2 0 then _ else lpW L f l.length (setT l k) (addR a x.net).1 (addR b (taxR x.net x.bp).1).1 _ else _ else _ else _)=_
  rw [gI_iff.2 ha,gI_iff.2 hx,gI_iff.2 hb,gI_iff.2 (tax_i64 x.net x.bp),Bool.and_self,cond_true,cond_true,cond_true,whole_cons,taxO_eq hx,wrap_succ (by omega)]
  by_cases ht:(taxR x.net x.bp).2=0
  ·rw [eq_true' ht,if_pos ht]
   show (bif !eqI (addR a x.net).2 0 then _ else _)=_
   unfold addR
   cases h5:bil.addZ a x.net with
   | none=>rfl
   | some n' =>
    cases h6:bil.addZ b (taxR x.net x.bp).1 with
    | none=>simp only [h6];rfl
    | some t' =>
     simp only [h6]
     show lpW L f l.length (setT l k) n' t' (.ofNat (k+1))=_
     have hd2:(setT l k).drop (k+1)=t:=by unfold setT;rw [List.drop_set_of_lt (by omega)];exact h3
     have hI2:allP (setT l k):=fun y hy=>by
      unfold setT at hy
      rcases List.mem_or_eq_of_mem_set hy with hy | rfl
      ·exact hI y hy
      ·rw [h2'];exact hx
     have ih:=loop_whole L t (k+1) f (setT l k) n' t' hd2 (by rw [hlen];omega) (by simp at hf;omega) (by rw [hlen];exact hl) hI2 (bil.addZ_some h5).2 (bil.addZ_some h6).2
     rw [hlen] at ih
     rw [ih]
     have htk:(setT l k).take (k+1)=l.take k++[{ x with tax:=(taxR x.net x.bp).1 }]:=by
      rw [List.take_succ_eq_append_getElem (by rw [hlen];exact h1)]
      have:(setT l k)[k]'(by rw [hlen];exact h1)={ x with tax:=(taxR x.net x.bp).1 }:=by rw [← nth_get (t:=.part) (by rw [hlen];exact h1)];exact hget
      rw [this]
      unfold setT
      rw [List.take_set_of_le (by omega)]
     rw [htk]
     cases bil.wholeF E t n' t' with
     | none=>rfl
     | some q=>simp [wRes]
  ·rw [eq_false' ht,if_neg ht]
   rfl
def wholeO (l:List bil.Pt):Option (List bil.Pt × Int × Int × Int):=match bil.wholeF E l 0 0 with
 | none=>none
 | some (ps,n,t)=>match bil.addZ n t with
  | none=>none
  | some g=>some (ps,n,t,g)
def wholeV (l:List bil.Pt):List bil.Pt × Int × Int × Int:=(wholeO l).getD ([],0,0,0)
def preW (len:Nat) (l:List bil.Pt):Bool:=Nat.beq len l.length&&(l.all gPn&&Nat.blt l.length 1000)
def H_whole:List AV→Mem→List (Bool × R3)
 | [.so 0 4 0 len],⟨.node .nil (some ⟨.ls .part l,4,true⟩) .nil,1,0,0⟩ =>
  [(preW len l&&(wholeO l).isSome,.tup [.agg [i64 (wholeV l).2.1,i64 (wholeV l).2.2.1,i64 (wholeV l).2.2.2,.so 0 4 0 (wholeV l).1.length],i64 0],hPt (wholeV l).1,1),
   (preW len l,.tup [.agg [i64 0,i64 0,i64 0,.nilsl],i64 7],.nil,0)]
 | _,_=>[]
def c45:ClS:=addCs 110 H_whole c44
theorem snd45:SoundS Tryz.prog c45:=add_cons snd44 mix ok_whole H_whole fun xs m r h1 n1 h=>by
 unfold H_whole at h
 split at h<;>first | (cases h;done) | skip
 rename_i len l
 have main:preW len l=true→callS c44 (l.length+1) s_whole [.so 0 4 0 len] ⟨hPt l,1,0,0⟩ (fun r m=>trimK 0 r m fun r m=>some (r,m.h,m.nx))=wRes [] (bil.wholeF E l 0 0):=fun hp=>by
  unfold preW at hp
  simp only [Bool.and_eq_true,blt_iff] at hp
  obtain⟨g1,g2,g3⟩:=hp
  obtain rfl:=beqN.1 g1
  have e:∀ L,callS c44 L s_whole [.so 0 4 0 l.length] ⟨hPt l,1,0,0⟩ (fun r m=>trimK 0 r m fun r m=>some (r,m.h,m.nx))=lpW L L l.length l 0 0 (.ofNat 0):=fun L=>by kernel_rfl
  exact (e _).trans (loop_whole _ l 0 _ l 0 0 rfl (by omega) (by omega) g3 (gPn_all g2) (show bil.I64 0 from ⟨by decide,by decide⟩) (show bil.I64 0 from ⟨by decide,by decide⟩))
 refine⟨l.length+1,?_⟩
 cases hp:preW len l with
 | false=>rw [hp] at h;cases h
 | true =>
  rw [hp] at h
  refine (main hp).trans ?_
  unfold wholeV at h
  cases ho:wholeO l with
  | none =>
   rw [ho] at h
   cases h
   unfold wholeO at ho
   unfold wRes
   cases hw:bil.wholeF E l 0 0 with
   | none=>rfl
   | some q =>
    obtain⟨ps,n,t⟩:=q
    rw [hw] at ho
    simp only at ho ⊢
    unfold finW
    cases hz:bil.addZ n t with
    | none=>rfl
    | some g=>rw [hz] at ho;cases ho
  | some q =>
   rw [ho] at h
   cases h
   unfold wholeO at ho
   unfold wRes
   cases hw:bil.wholeF E l 0 0 with
   | none=>rw [hw] at ho;cases ho
   | some q =>
    obtain⟨ps,n,t⟩:=q
    rw [hw] at ho
    simp only at ho ⊢
    unfold finW
    cases hz:bil.addZ n t with
    | none=>rw [hz] at ho;cases ho
    | some g=>rw [hz] at ho;cases ho;rfl
end Go.Proofs.YtbknmeafcbhicaaGreatDoor.Ev

/- Invoices: Total. -/
namespace Go.Proofs.YtbknmeafcbhicaaGreatDoor.Ev
open Go
theorem optR_i64 (o:Option Int) (h:∀ x,o=some x→bil.I64 x):bil.I64 (optR o).1:=by
 cases o with
 | none=>exact (show bil.I64 0 from ⟨by decide,by decide⟩)
 | some x=>exact h x rfl
theorem optR_err (o:Option Int):(optR o).2=0∨(optR o).2=7:=by cases o<;>simp [optR]
theorem addR_i64 (a b:Int):bil.I64 (addR a b).1:=optR_i64 _ fun x h=>(bil.addZ_some h).2
theorem mulR_i64 (a b:Int):bil.I64 (mulR a b).1:=optR_i64 _ fun x h=>by
 unfold bil.mulZ at h
 split at h
 ·cases h;assumption
 ·cases h
theorem lineT_i64 (t:List bil.Rt) (d:bil.Dt) (x:bil.Li):bil.I64 (lineT t d x).2.1:=by
 have z:bil.I64 0:=⟨by decide,by decide⟩
 have hm:=mulR_i64 x.count x.price
 unfold lineT
 cases ltI 64 (.ofNat x.text.data.toList.length)<;>cases E.name x.cat<;>cases ltI x.count 1 || ltI 1048576 x.count<;>cases (findR t x.cat d).isSome<;>first | exact z | exact hm
theorem putP_props (l:List bil.Pt) (c:ByteArray) (b n:Int) (h:l.all gPn=true):(putP l c b n).1.all gPn=true∧(putP l c b n).1.length≤l.length+1∧1≤(putP l c b n).1.length∧((putP l c b n).2=0∨(putP l c b n).2=7):=by
 have hle:bil.partPlace l c≤l.length:=tw_le (p:=fun p:bil.Pt=>bil.less p.cat c) l
 have hk:bil.partPlace l c < (putL' l c b).length∧(putL' l c b).length≤l.length+1∧(putL' l c b).all gPn=true:=by
  unfold putL'
  split
  ·rename_i h1
   refine⟨?_,by omega,h⟩
   rcases Nat.lt_or_ge (bil.partPlace l c) l.length with h2 | h2
   ·exact h2
   ·rw [List.getElem?_eq_none h2] at h1;simp at h1
  ·refine⟨by rw [(insP_at l _ c b hle).1];omega,by rw [(insP_at l _ c b hle).1];omega,?_⟩
   rw [List.all_eq_true] at h ⊢
   intro x hx
   unfold insP at hx
   rcases List.mem_append.1 hx with hx | hx
   ·exact h x (List.mem_of_mem_take hx)
   ·rcases List.mem_cons.1 hx with rfl | hx
    ·exact (show gI 0=true from by decide)
    ·exact h x (List.mem_of_mem_drop hx)
 obtain⟨h1,h2,h3⟩:=hk
 unfold putP netP
 simp only [List.length_set]
 refine⟨?_,h2,by omega,optR_err _⟩
 rw [List.all_eq_true] at h3 ⊢
 intro x hx
 rcases List.mem_or_eq_of_mem_set hx with hx | rfl
 ·exact h3 x hx
 ·exact gI_iff.2 (addR_i64 _ _)
def totA (t:bil.Tot) (e:Int):AV:=.tup [.agg [i64 t.net,i64 t.tax,i64 t.gross,.fl .part t.parts],i64 e]
def tot0:bil.Tot:=⟨0,0,0,[]⟩
def mT0 (d:bil.Dt):Mem:=⟨(T.node T.nil (some ⟨.raw [i64 0,i64 0,i64 0,.nilsl],1,false⟩) T.nil).node (some ⟨.raw [i64 d.y,i64 d.m,i64 d.d],1,false⟩) T.nil,2,3,3⟩
def mT1 (d:bil.Dt) (ps:List bil.Pt):Mem:=⟨(T.node T.nil (some ⟨.raw [i64 0,i64 0,i64 0,.nilsl],1,false⟩) T.nil).node (some ⟨.raw [i64 d.y,i64 d.m,i64 d.d],1,false⟩) ((T.node T.nil (some ⟨.ls .part ps,4,true⟩) T.nil).node none T.nil),3,7,7⟩
def kTo (L:Nat):Ex→T AV→Mem→Option AV:=k1_total c45 L fun r m=>frzK m (.tup [.agg [.any,.any,.any,.lst .part],.any]) r some
def lpT0 (L L':Nat) (t:List bil.Rt) (d:bil.Dt) (l:List bil.Li) (n:Int):Option AV:=loopS (evS c45 L b1_total) l1_total 0 L' (stL [(q0,.fl .rate t),(q4,.ptr 0 0),(q6,.ptr 1 0),(q8,.nilsl),(q34,.fl .line l),(q35,i64 (.ofNat l.length)),(q36,i64 n)]) (mT0 d) (kTo L)
def lpT (L L':Nat) (t:List bil.Rt) (d:bil.Dt) (l:List bil.Li) (len:Nat) (ps:List bil.Pt) (n:Int):Option AV:=loopS (evS c45 L b1_total) l1_total 0 L' (stL [(q0,.fl .rate t),(q4,.ptr 0 0),(q6,.ptr 1 0),(q8,.so 2 4 0 len),(q34,.fl .line l),(q35,i64 (.ofNat l.length)),(q36,i64 n)]) (mT1 d ps) (kTo L)
abbrev nL (l:List bil.Li) (n:Nat):bil.Li:=nth (t:=.line) l n
def putL (t:List bil.Rt) (d:bil.Dt) (x:bil.Li) (ps:List bil.Pt):List bil.Pt × Int:=putP ps x.cat (lineT t d x).1 (lineT t d x).2.1
theorem round_total0 (L L' n:Nat) (t:List bil.Rt) (d:bil.Dt) (l:List bil.Li):lpT0 L (Nat.succ L') t d l (.ofNat n) =
 bif ltI (.ofNat n) (.ofNat l.length) then bif inI (.ofNat n) l.length then bif gLi (nL l n) then bif !eqI (lineT t d (nL l n)).2.2 0 then some (totA tot0 (lineT t d (nL l n)).2.2) else
  bif gI (lineT t d (nL l n)).2.1 then bif !eqI (putL t d (nL l n) []).2 0 then some (totA tot0 (putL t d (nL l n) []).2) else lpT L L' t d l (putL t d (nL l n) []).1.length (putL t d (nL l n) []).1 (wrapK .i64 (.ofNat n+1)) else none else none else none
 else none:=by kernel_rfl
def endT (len:Nat) (ps:List bil.Pt):Option AV :=
 bif preW len ps&&(wholeO ps).isSome then bif Nat.beq (wholeV ps).1.length (wholeV ps).1.length then some (totA ⟨(wholeV ps).2.1,(wholeV ps).2.2.1,(wholeV ps).2.2.2,(wholeV ps).1⟩ 0) else none else bif preW len ps then some (totA tot0 7) else none
theorem round_total (L L' n len:Nat) (t:List bil.Rt) (d:bil.Dt) (l:List bil.Li) (ps:List bil.Pt):lpT L (Nat.succ L') t d l len ps (.ofNat n) =
 bif ltI (.ofNat n) (.ofNat l.length) then bif inI (.ofNat n) l.length then bif gLi (nL l n) then bif !eqI (lineT t d (nL l n)).2.2 0 then some (totA tot0 (lineT t d (nL l n)).2.2) else
  bif Nat.beq len ps.length&&(ps.all gPn&&(gI (lineT t d (nL l n)).2.1&&Nat.blt ps.length 1000)) then bif !eqI (putL t d (nL l n) ps).2 0 then some (totA tot0 (putL t d (nL l n) ps).2) else lpT L L' t d l (putL t d (nL l n) ps).1.length (putL t d (nL l n) ps).1 (wrapK .i64 (.ofNat n+1)) else none else none else none
 else endT len ps:=by kernel_rfl
theorem parts_cons (t:List bil.Rt) (d:bil.Dt) (x:bil.Li) (xs:List bil.Li) (ps:List bil.Pt):bil.partsF E t d (x::xs) ps=if (lineT t d x).2.2=0 then (if (putL t d x ps).2=0 then bil.partsF E t d xs (putL t d x ps).1 else .inr 7) else .inr (lineT t d x).2.2:=by
 rw [bil.partsF,lineT_eq]
 by_cases h:(lineT t d x).2.2=0
 ·rw [if_pos h,if_pos h]
  simp only
  rw [partPut_eq]
  unfold putL
  by_cases h2:(putP ps x.cat (lineT t d x).1 (lineT t d x).2.1).2=0
  ·rw [if_pos h2,if_pos h2]
  ·rw [if_neg h2,if_neg h2]
 ·rw [if_neg h,if_neg h]
def finT (o:List bil.Pt ⊕ Int):Option AV:=match o with
 | .inr e=>some (totA tot0 e)
 | .inl ps=>match wholeO ps with
  | none=>some (totA tot0 7)
  | some (q,n,t,g)=>some (totA ⟨n,t,g,q⟩ 0)
theorem endT_eq {ps:List bil.Pt} (h:ps.all gPn=true) (hl:ps.length < 1000):endT ps.length ps=finT (.inl ps):=by
 have hp:preW ps.length ps=true:=by
  unfold preW
  rw [beqN_true rfl,h,bltN_true hl];rfl
 unfold endT finT wholeV
 rw [hp,beqN_true rfl]
 simp only
 cases wholeO ps with
 | none=>rfl
 | some q=>rfl
theorem loop_total (L:Nat) (t:List bil.Rt) (d:bil.Dt) (l:List bil.Li) (hg:l.all gLi=true) (hl:l.length < 100):∀ (xs:List bil.Li) (n f:Nat) (ps:List bil.Pt),l.drop n=xs→n≤l.length→xs.length < f→ps.all gPn=true→ps.length≤n →
  lpT L f t d l ps.length ps (.ofNat n)=finT (bil.partsF E t d xs ps)
 | xs,n,0,ps,_,_,hf,_,_=>by omega
 | [],n,f+1,ps,hd,hn,hf,hp,hpl=>by
  rw [round_total,drop_nil hd hn,le_nat (Nat.le_refl _),cond_false,endT_eq hp (by omega)]
  rfl
 | x::xs,n,f+1,ps,hd,hn,hf,hp,hpl=>by
  obtain⟨h1,h2,h3⟩:=drop_cons (t:=.line) hd
  have h2':nL l n=x:=h2
  have hx:gLi x=true:=by
   rw [List.all_eq_true] at hg
   exact hg x (by rw [← h2,nth_get h1];exact List.getElem_mem h1)
  obtain⟨p1,p2,p3,p4⟩:=putP_props ps x.cat (lineT t d x).1 (lineT t d x).2.1 hp
  have ih:=loop_total L t d l hg hl xs (n+1) f (putL t d x ps).1 h3 (by omega) (by simp at hf;omega) p1 (by unfold putL;omega)
  rw [round_total,lt_nat h1,cond_true,in_nat h1,cond_true,h2',hx,cond_true,beqN_true rfl,hp,gI_iff.2 (lineT_i64 t d x),bltN_true (by omega),wrap_succ (by omega),ih,parts_cons]
  by_cases ha:(lineT t d x).2.2=0
  ·rw [eq_true' ha,if_pos ha]
   by_cases hb:(putL t d x ps).2=0
   ·rw [eq_true' hb,if_pos hb];rfl
   ·have hb7:(putL t d x ps).2=7:=p4.resolve_left hb
    rw [eq_false' hb,if_neg hb,hb7];rfl
  ·rw [eq_false' ha,if_neg ha];rfl
def totR (t:List bil.Rt) (d:bil.Dt) (l:List bil.Li):bil.Tot × Int:=match bil.totalF E t d l with
 | .inl x=>(x,0)
 | .inr e=>(tot0,e)
theorem run_total (t:List bil.Rt) (d:bil.Dt) (l:List bil.Li) (hg:l.all gLi=true):callF c45 14 s_total (.tup [.agg [.any,.any,.any,.lst .part],.any]) [.fl .rate t,.agg [i64 d.y,i64 d.m,i64 d.d],.fl .line l] some=some (totA (totR t d l).1 (totR t d l).2):=by
 have e:∀ L,callF c45 L s_total (.tup [.agg [.any,.any,.any,.lst .part],.any]) [.fl .rate t,.agg [i64 d.y,i64 d.m,i64 d.d],.fl .line l] some=bif bil.vatRight E t then bif bil.dayF E d then bif eqI (.ofNat l.length) 0 then some (totA tot0 1) else bif ltI 12 (.ofNat l.length) then some (totA tot0 2) else lpT0 L L t d l (.ofNat 0)
  else some (totA tot0 9) else some (totA tot0 1):=fun L=>by kernel_rfl
 rw [e]
 unfold totR bil.totalF
 cases h1:bil.vatRight E t with
 | false=>rfl
 | true =>
  rw [cond_true,if_neg (by simp)]
  cases h2:bil.dayF E d with
  | false=>rfl
  | true =>
   rw [cond_true,if_neg (by simp)]
   by_cases h3:l.length=0
   ·rw [eq_true' (by rw [h3];rfl),if_pos h3];rfl
   ·rw [eq_false' (by simp only [Int.ofNat_eq_natCast];omega),if_neg h3,cond_false]
    by_cases h4:12 < l.length
    ·rw [lt_true (by simp only [Int.ofNat_eq_natCast];omega),if_pos h4];rfl
    ·rw [lt_false (by simp only [Int.ofNat_eq_natCast];omega),if_neg h4,cond_false]
     have fin:finT (bil.partsF E t d l [])=some (totA (match (match bil.partsF E t d l [] with | .inr e=>.inr e | .inl ps=>match bil.wholeF E ps 0 0 with | none=>.inr 7 | some (ps',n,t)=>match bil.addZ n t with | none=>.inr 7 | some g=>.inl ⟨n,t,g,ps'⟩:bil.Tot ⊕ Int) with | .inl x=>(x,0) | .inr e=>(tot0,e):bil.Tot × Int).1
       (match (match bil.partsF E t d l [] with | .inr e=>.inr e | .inl ps=>match bil.wholeF E ps 0 0 with | none=>.inr 7 | some (ps',n,t)=>match bil.addZ n t with | none=>.inr 7 | some g=>.inl ⟨n,t,g,ps'⟩:bil.Tot ⊕ Int) with | .inl x=>(x,0) | .inr e=>(tot0,e):bil.Tot × Int).2):=by
      cases bil.partsF E t d l [] with
      | inr e=>rfl
      | inl ps =>
       unfold finT wholeO
       simp only
       cases bil.wholeF E ps 0 0 with
       | none=>rfl
       | some q =>
        obtain⟨ps',n,t'⟩:=q
        simp only
        cases bil.addZ n t'<;>rfl
     refine Eq.trans ?_ fin
     cases l with
     | nil=>exact absurd rfl h3
     | cons x xs =>
      have hpos:0 < (x::xs).length:=by simp
      have hx:gLi x=true:=by
       rw [List.all_eq_true] at hg
       exact hg x List.mem_cons_self
      obtain⟨p1,p2,p3,p4⟩:=putP_props [] x.cat (lineT t d x).1 (lineT t d x).2.1 rfl
      have ih:=loop_total 14 t d (x::xs) hg (by omega) xs 1 13 (putL t d x []).1 rfl (by simp) (by simp at h4;omega) p1 p2
      have h2':nL (x::xs) 0=x:=rfl
      rw [round_total0,lt_nat hpos,cond_true,in_nat hpos,cond_true,h2',hx,cond_true,gI_iff.2 (lineT_i64 t d x),wrap_succ (by omega),ih,parts_cons]
      by_cases ha:(lineT t d x).2.2=0
      ·rw [eq_true' ha,if_pos ha]
       by_cases hb:(putL t d x []).2=0
       ·rw [eq_true' hb,if_pos hb];rfl
       ·have hb7:(putL t d x []).2=7:=p4.resolve_left hb
        rw [eq_false' hb,if_neg hb,hb7];rfl
      ·rw [eq_false' ha,if_neg ha];rfl
def G_total:List AV→Option (Bool × AV)
 | [.fl .rate t,.agg [.int .i64 y,.int .i64 m,.int .i64 d],.fl .line l]=>some (l.all gLi,totA (totR t ⟨y,m,d⟩ l).1 (totR t ⟨y,m,d⟩ l).2)
 | _=>none
def c46:ClS:=addG 72 G_total c45
theorem snd46:SoundS Tryz.prog c46:=add_gn snd45 mix ok_total (.tup [.agg [.any,.any,.any,.lst .part],.any]) G_total fun xs r h=>by
 unfold G_total at h
 split at h<;>first | (cases h;done) | skip
 rename_i t y m d l
 obtain⟨hg,rfl⟩:=Prod.mk.inj (Option.some.inj h)
 exact⟨rfl,14,run_total t ⟨y,m,d⟩ l hg⟩
end Go.Proofs.YtbknmeafcbhicaaGreatDoor.Ev

/- Invoices: taken back. -/
namespace Go.Proofs.YtbknmeafcbhicaaGreatDoor.Ev
open Go
def okS (n:Int):Bool:=eqI (subR 0 n).2 0
def neS (n:Int):Int:=(subR 0 n).1
theorem okS_eq (n:Int):okS n=(bil.negZ n).isSome:=by
 unfold okS
 rw [sub_neg]
 cases bil.negZ n<;>rfl
theorem sub_err (n:Int):(subR 0 n).2=bif okS n then 0 else 7:=by
 unfold okS
 rw [sub_neg]
 cases bil.negZ n<;>rfl
theorem neS_eq {n x:Int} (h:bil.negZ n=some x):neS n=x:=by
 unfold neS
 rw [sub_neg,h];rfl
def offN (l:List bil.Pt) (n:Nat):List bil.Pt:=l.set n { nP l n with net:=neS (nP l n).net }
def offX (l:List bil.Pt) (n:Nat):List bil.Pt:=(offN l n).set n { nP (offN l n) n with tax:=neS (nP (offN l n) n).tax }
def H_off:List AV→Mem→Option (Bool × AV × T Blk × Nat)
 | [.sl 0 0 3 3],⟨.node (.node .nil (some ⟨.raw [.int .i64 a,.int .i64 b,.int .i64 c,.so 2 4 0 len],1,false⟩) .nil) (some ⟨.raw [.ptr 1 0,.ptr 1 1,.ptr 1 2],1,false⟩) (.node (.node .nil (some ⟨.ls .part l,4,true⟩) .nil) none .nil),3,0,0⟩ =>
  some (gI a&&(gI b&&gI c),i64 (bif okS a&&(okS b&&okS c) then 0 else 7),
   .node (.node .nil (some ⟨.raw [i64 (bif okS a then neS a else a),i64 (bif okS a&&okS b then neS b else b),i64 (bif okS a&&(okS b&&okS c) then neS c else c),.so 2 4 0 len],1,false⟩) .nil) (some ⟨.raw [.ptr 1 0,.ptr 1 1,.ptr 1 2],1,false⟩) (.node (.node .nil (some ⟨.ls .part l,4,true⟩) .nil) none .nil),3)
 | [.sl 0 0 2 2],⟨.node (.node .nil (some ⟨.ls .part l,4,true⟩) .nil) (some ⟨.raw [.tp 1 n 4 2,.tp 1 n' 4 3],1,false⟩) .nil,2,0,0⟩ =>
  some (Nat.beq n n'&&(Nat.blt n l.length&&(gI (nP l n).net&&gI (nP l n).tax)),i64 (bif okS (nP l n).net&&okS (nP l n).tax then 0 else 7),
   .node (.node .nil (some ⟨.ls .part (bif okS (nP l n).net then bif okS (nP l n).tax then offX l n else offN l n else l),4,true⟩) .nil) (some ⟨.raw [.tp 1 n 4 2,.tp 1 n' 4 3],1,false⟩) .nil,2)
 | _,_=>none
def c47:ClS:=addN 113 H_off c46
theorem nP_offN {l:List bil.Pt} {n:Nat} (h:n < l.length):(offN l n).length=l.length∧nP (offN l n) n={ nP l n with net:=neS (nP l n).net }:=by
 have hlen:(offN l n).length=l.length:=by unfold offN;rw [List.length_set]
 refine⟨hlen,?_⟩
 show nth (t:=.part) (offN l n) n=_
 rw [nth_get (t:=.part) (by rw [hlen];exact h)]
 unfold offN
 rw [List.getElem_set_self]
theorem snd47:SoundS Tryz.prog c47:=add_mem snd46 mix ok_off H_off fun xs m r h1 n1 h=>by
 have g0:gI 0=true:=by decide
 unfold H_off at h
 split at h<;>first | (cases h;done) | skip
 ·rename_i a b c len l
  simp only [Option.some.injEq,Prod.mk.injEq,Bool.and_eq_true] at h
  obtain⟨⟨ga,gb,gc⟩,rfl,rfl,rfl⟩:=h
  refine⟨rfl,5,?_⟩
  let X:Int→Int→Int→Int→Option (AV × T Blk × Nat):=fun e a b c=>some (i64 e,.node (.node .nil (some ⟨.raw [i64 a,i64 b,i64 c,.so 2 4 0 len],1,false⟩) .nil) (some ⟨.raw [.ptr 1 0,.ptr 1 1,.ptr 1 2],1,false⟩) (.node (.node .nil (some ⟨.ls .part l,4,true⟩) .nil) none .nil),3)
  have e:callS c46 5 s_off [.sl 0 0 3 3] ⟨.node (.node .nil (some ⟨.raw [i64 a,i64 b,i64 c,.so 2 4 0 len],1,false⟩) .nil) (some ⟨.raw [.ptr 1 0,.ptr 1 1,.ptr 1 2],1,false⟩) (.node (.node .nil (some ⟨.ls .part l,4,true⟩) .nil) none .nil),3,0,0⟩ (fun r m=>trimK 3 r m fun r m=>some (r,m.h,m.nx)) =
   bif gI 0&&gI a then bif !eqI (subR 0 a).2 0 then X (subR 0 a).2 a b c else bif gI 0&&gI b then bif !eqI (subR 0 b).2 0 then X (subR 0 b).2 (subR 0 a).1 b c else bif gI 0&&gI c then bif !eqI (subR 0 c).2 0 then X (subR 0 c).2 (subR 0 a).1 (subR 0 b).1 c else X 0 (subR 0 a).1 (subR 0 b).1 (subR 0 c).1 else none else none else none:=by kernel_rfl
  refine e.trans ?_
  rw [g0,ga,gb,gc,sub_err a,sub_err b,sub_err c]
  show _=X (bif okS a&&(okS b&&okS c) then 0 else 7) (bif okS a then neS a else a) (bif okS a&&okS b then neS b else b) (bif okS a&&(okS b&&okS c) then neS c else c)
  cases okS a<;>cases okS b<;>cases okS c<;>rfl
 ·rename_i l n n'
  simp only [Option.some.injEq,Prod.mk.injEq,Bool.and_eq_true,blt_iff] at h
  obtain⟨⟨hn,hlt,gn,gt⟩,rfl,rfl,rfl⟩:=h
  obtain rfl:=beqN.1 hn
  refine⟨rfl,4,?_⟩
  let X:Int→List bil.Pt→Option (AV × T Blk × Nat):=fun e l=>some (i64 e,.node (.node .nil (some ⟨.ls .part l,4,true⟩) .nil) (some ⟨.raw [.tp 1 n 4 2,.tp 1 n 4 3],1,false⟩) .nil,2)
  have e:callS c46 4 s_off [.sl 0 0 2 2] ⟨.node (.node .nil (some ⟨.ls .part l,4,true⟩) .nil) (some ⟨.raw [.tp 1 n 4 2,.tp 1 n 4 3],1,false⟩) .nil,2,0,0⟩ (fun r m=>trimK 2 r m fun r m=>some (r,m.h,m.nx)) =
   bif Nat.blt n l.length then bif gI 0&&gI (nP l n).net then bif !eqI (subR 0 (nP l n).net).2 0 then X (subR 0 (nP l n).net).2 l else bif Nat.blt n l.length then bif Nat.blt n (offN l n).length then bif gI 0&&gI (nP (offN l n) n).tax then
    bif !eqI (subR 0 (nP (offN l n) n).tax).2 0 then X (subR 0 (nP (offN l n) n).tax).2 (offN l n) else bif Nat.blt n (offN l n).length then X 0 (offX l n) else none else none else none else none else none else none:=by kernel_rfl
  refine e.trans ?_
  obtain⟨o1,o2⟩:=nP_offN hlt
  rw [bltN_true hlt,g0,gn,o1,bltN_true hlt,o2]
  show (bif true then bif true&&true then bif !eqI (subR 0 (nP l n).net).2 0 then X (subR 0 (nP l n).net).2 l else bif true then bif true then bif true&&gI (nP l n).tax then bif !eqI (subR 0 (nP l n).tax).2 0 then X (subR 0 (nP l n).tax).2 (offN l n) else bif true then X 0 (offX l n) else none else none else none else none else none else none)=_
  rw [gt,sub_err,sub_err]
  show _=X (bif okS (nP l n).net&&okS (nP l n).tax then 0 else 7) (bif okS (nP l n).net then bif okS (nP l n).tax then offX l n else offN l n else l)
  cases okS (nP l n).net<;>cases okS (nP l n).tax<;>rfl
def gPb (p:bil.Pt):Bool:=gI p.net&&gI p.tax
def mB (a b c:Int) (len:Nat) (l:List bil.Pt):Mem:=⟨(T.node T.nil (some ⟨.raw [i64 0,i64 0,i64 0,.nilsl],1,false⟩) T.nil).node (some ⟨.raw [i64 a,i64 b,i64 c,.so 2 4 0 len],1,false⟩) ((T.node T.nil (some ⟨.ls .part l,4,true⟩) T.nil).node none T.nil),3,7,7⟩
def lpB (L L' len:Nat) (a b c:Int) (l:List bil.Pt) (k:Int):Option AV:=loopS (evS c47 L b1_back) l1_back 0 L' (stL [(q1,.ptr 0 0),(q2,.ptr 1 0),(q22,i64 (.ofNat len)),(q23,i64 k)]) (mB a b c len l) (k1_back c47 L fun r m=>frzK m (.tup [.agg [.any,.any,.any,.lst .part],.any]) r some)
def offL (l:List bil.Pt) (k:Nat):List bil.Pt:=bif okS (nP l k).net then bif okS (nP l k).tax then offX l k else offN l k else l
theorem round_back (L L' len k:Nat) (a b c:Int) (l:List bil.Pt):lpB L (Nat.succ L') len a b c l (.ofNat k) =
 bif ltI (.ofNat k) (.ofNat len) then bif inI (.ofNat k) len then bif inI (.ofNat k) len then bif Nat.beq k k&&(Nat.blt k l.length&&(gI (nP l k).net&&gI (nP l k).tax)) then
  bif !eqI (bif okS (nP l k).net&&okS (nP l k).tax then 0 else 7) 0 then some (totA tot0 (bif okS (nP l k).net&&okS (nP l k).tax then 0 else 7)) else lpB L L' len a b c (offL l k) (wrapK .i64 (.ofNat k+1)) else none else none else none
 else bif Nat.beq len l.length then some (totA ⟨a,b,c,l⟩ 0) else none:=by kernel_rfl
theorem backPs_cons (p:bil.Pt) (ps:List bil.Pt):bil.backPs (p::ps)=match bil.negZ p.net with
  | none=>none
  | some n=>match bil.negZ p.tax with
   | none=>none
   | some x=>(bil.backPs ps).map fun l=>{ p with net:=n,tax:=x }::l:=by
 rw [bil.backPs]
 cases bil.negZ p.net with
 | none=>rfl
 | some n=>cases bil.negZ p.tax<;>rfl
def bkRes (a b c:Int) (pre:List bil.Pt) (o:Option (List bil.Pt)):Option AV:=match o with
 | none=>some (totA tot0 7)
 | some ps=>some (totA ⟨a,b,c,pre++ps⟩ 0)
theorem loop_back (L:Nat) (a b c:Int):∀ (t:List bil.Pt) (k f:Nat) (l:List bil.Pt),l.drop k=t→k≤l.length→t.length < f→l.length < 1000→t.all gPb=true→lpB L f l.length a b c l (.ofNat k)=bkRes a b c (l.take k) (bil.backPs t)
 | t,k,0,l,_,_,hf,_,_=>by omega
 | [],k,f+1,l,hd,hn,hf,hl,hg=>by
  rw [round_back,drop_nil hd hn,le_nat (Nat.le_refl _),cond_false,beqN_true rfl,List.take_length]
  show _=some (totA ⟨a,b,c,l++[]⟩ 0)
  rw [List.append_nil]
  rfl
 | x::t,k,f+1,l,hd,hn,hf,hl,hg=>by
  obtain⟨h1,h2,h3⟩:=drop_cons (t:=.part) hd
  have h2':nP l k=x:=h2
  rw [List.all_cons,Bool.and_eq_true] at hg
  obtain⟨hx,hg⟩:=hg
  unfold gPb at hx
  rw [Bool.and_eq_true] at hx
  rw [round_back,lt_nat h1,cond_true,in_nat h1,cond_true,cond_true,beqN_true rfl,bltN_true h1,h2',hx.1,hx.2,Bool.and_self,Bool.and_self,Bool.and_self,cond_true,backPs_cons,okS_eq,okS_eq,wrap_succ (by omega)]
  cases e1:bil.negZ x.net with
  | none=>rfl
  | some n' =>
   cases e2:bil.negZ x.tax with
   | none=>rfl
   | some t' =>
    obtain⟨o1,o2⟩:=nP_offN h1
    have hL:offL l k=l.set k { x with net:=n',tax:=t' }:=by
     unfold offL
     rw [h2',okS_eq,okS_eq,e1,e2]
     show offX l k=_
     unfold offX
     rw [o2,h2',neS_eq e1]
     show (offN l k).set k { x with net:=n',tax:=neS x.tax }=_
     rw [neS_eq e2]
     unfold offN
     rw [List.set_set]
    show (bif !eqI 0 0 then _ else lpB L f l.length a b c (offL l k) (.ofNat (k+1)))=_
    rw [eq_true' rfl,Bool.not_true,cond_false,hL]
    have hlen:(l.set k { x with net:=n',tax:=t' }).length=l.length:=List.length_set
    have ih:=loop_back L a b c t (k+1) f (l.set k { x with net:=n',tax:=t' }) (by rw [List.drop_set_of_lt (by omega)];exact h3) (by rw [hlen];omega) (by simp at hf;omega) (by rw [hlen];exact hl) hg
    rw [hlen] at ih
    rw [ih]
    have htk:(l.set k { x with net:=n',tax:=t' }).take (k+1)=l.take k++[{ x with net:=n',tax:=t' }]:=by
     rw [List.take_succ_eq_append_getElem (by rw [hlen];exact h1),List.getElem_set_self,List.take_set_of_le (by omega)]
    rw [htk]
    cases bil.backPs t with
    | none=>rfl
    | some q=>simp [bkRes]
def backR (t:bil.Tot):bil.Tot × Int:=match bil.backF t with
 | some x=>(x,0)
 | none=>(tot0,7)
def gTo (t:bil.Tot):Bool:=gI t.net&&(gI t.tax&&(gI t.gross&&(t.parts.all gPb&&(!t.parts.isEmpty&&Nat.blt t.parts.length 1000))))
theorem run_back (t:bil.Tot) (hg:gTo t=true):callF c47 1001 s_back (.tup [.agg [.any,.any,.any,.lst .part],.any]) [.agg [i64 t.net,i64 t.tax,i64 t.gross,.fl .part t.parts]] some=some (totA (backR t).1 (backR t).2):=by
 obtain⟨a,b,c,l⟩:=t
 unfold gTo at hg
 simp only [Bool.and_eq_true,Bool.not_eq_true',blt_iff] at hg
 obtain⟨ga,gb,gc,gl,g0,gn⟩:=hg
 cases l with
 | nil=>cases g0
 | cons x l =>
  have e:∀ L,callF c47 L s_back (.tup [.agg [.any,.any,.any,.lst .part],.any]) [.agg [i64 a,i64 b,i64 c,.fl .part (x::l)]] some =
    bif Nat.blt (x::l).length 1048576 then bif gI a&&(gI b&&gI c) then bif !eqI (bif okS a&&(okS b&&okS c) then 0 else 7) 0 then some (totA tot0 (bif okS a&&(okS b&&okS c) then 0 else 7)) else
     lpB L L (x::l).length (bif okS a then neS a else a) (bif okS a&&okS b then neS b else b) (bif okS a&&(okS b&&okS c) then neS c else c) (x::l) (.ofNat 0) else none else none:=fun L=>by kernel_rfl
  rw [e,bltN_true (by omega),ga,gb,gc,Bool.and_self,Bool.and_self,cond_true,cond_true,okS_eq,okS_eq,okS_eq]
  unfold backR bil.backF
  simp only
  cases e1:bil.negZ a with
  | none=>rfl
  | some a' =>
   cases e2:bil.negZ b with
   | none=>rfl
   | some b' =>
    cases e3:bil.negZ c with
    | none=>rfl
    | some c' =>
     show (bif !eqI 0 0 then _ else lpB 1001 1001 (x::l).length (neS a) (neS b) (neS c) (x::l) (.ofNat 0))=_
     rw [eq_true' rfl,Bool.not_true,cond_false,neS_eq e1,neS_eq e2,neS_eq e3,loop_back 1001 a' b' c' (x::l) 0 1001 (x::l) rfl (by omega) (by omega) gn gl]
     cases bil.backPs (x::l)<;>rfl
def G_back:List AV→Option (Bool × AV)
 | [.agg [.int .i64 a,.int .i64 b,.int .i64 c,.fl .part l]]=>some (gTo ⟨a,b,c,l⟩,totA (backR ⟨a,b,c,l⟩).1 (backR ⟨a,b,c,l⟩).2)
 | _=>none
def c48:ClS:=addG 75 G_back c47
theorem snd48:SoundS Tryz.prog c48:=add_gn snd47 mix ok_back (.tup [.agg [.any,.any,.any,.lst .part],.any]) G_back fun xs r h=>by
 unfold G_back at h
 split at h<;>first | (cases h;done) | skip
 rename_i a b c l
 obtain⟨hg,rfl⟩:=Prod.mk.inj (Option.some.inj h)
 exact⟨rfl,1001,run_back ⟨a,b,c,l⟩ hg⟩
end Go.Proofs.YtbknmeafcbhicaaGreatDoor.Ev

/- Functions as the machine for symbols has them; they are the program's. Written by program (sytold.py). -/
namespace Go.Proofs.YtbknmeafcbhicaaGreatDoor.Ev
open Go Z
set_option maxRecDepth 100000
def s_new:FnS:=⟨2,(s (r [o q0 (.new [.nilsl,.nilsl,.nilsl,.nilsl,.nilsl,(.int .i64 (0))]) [] 0]) (s (r [o q1 (.build [.nilsl,.nilsl,.nilsl,.nilsl,.nilsl,(.int .i64 (0))] [(5,1)]) [i 1] 0,u (.st 6) [.t q0,.t q1] 1]) .ret)),[(.cn q0 6)]⟩
theorem ok_new:FnOkS Tryz.prog 5 s_new:=fnOkS_of Tryz.func5 (by kernel_rfl) (by kernel_rfl) Tryz.ntmps5 (by kernel_rfl) (by kernel_rfl)
def s_equal:FnS:=⟨31,(s (r [o q2 .box [.t q0] 0,o q3 .box [.t q1] 0,o q4 .mov [.c (.bool false)] 0]) (s (r [o q5 (.fad 0) [.t q2] 0,o q6 .ld1 [.t q5] 1,o q7 (.fad 0) [.t q3] 0,o q8 .ld1 [.t q7] 4,o q9 (.bin .eql) [.t q6,.t q8] 15,m q10 q9 31,g q11 (.fad 1) [.t q2] q10 true 63,g q12 .ld1 [.t q11] q10 true 127,g q13 (.fad 1) [.t q3] q10 true 63,g q14 .ld1 [.t q13] q10 true 319,g q15 (.bin .eql) [.t q12,.t q14] q10 true 1023,o q16 .pick [.t q10,.t q15,.c (.bool false)] 2047,m q17 q16 4095,g q18 (.fad 2) [.t q2] q17 true 8191,g q19 .ld1 [.t q18] q17 true 16383,g q20 (.fad 2) [.t q3] q17 true 8191,g q21 .ld1 [.t q20] q17 true 40959,g q22 (.bin .eql) [.t q19,.t q21] q17 true 131071,o q23 .pick [.t q17,.t q22,.c (.bool false)] 262143,m q24 q23 524287,g q25 (.fad 3) [.t q2] q24 true 1048575,g q26 .ld1 [.t q25] q24 true 2097151,g q27 (.fad 3) [.t q3] q24 true 1048575,g q28 .ld1 [.t q27] q24 true 5242879,g q29 (.call 151) [.t q26,.t q28] q24 true 16777215,o q30 .pick [.t q24,.t q29,.c (.bool false)] 33554431,m q4 q30 67108863]) .ret)),[.t q4]⟩
theorem ok_equal:FnOkS Tryz.prog 96 s_equal:=fnOkS_of Tryz.func96 (by kernel_rfl) (by kernel_rfl) Tryz.ntmps96 (by kernel_rfl) (by kernel_rfl)
def l1_ptEq:List Path:=[q0,q1,q12,q13]
def b1_ptEq:SC:=(s (r [o q14 (.bin .lss) [.t q13,.t q12] 0]) (s (c q14 .skip (.exit 0)) (s (.blk 1 (s (r [m q15 q13 0,m q5 q15 1]) (s (d [m q16 q0 0,m q17 q5 0,o q18 (.ixs 4) [.t q16,.t q17] 3,o q19 (.ldn 4) [.t q18] 7,m q20 q1 0,m q21 q5 0,o q22 (.ixs 4) [.t q20,.t q21] 48,o q23 (.ldn 4) [.t q22] 112,o q24 (.eqa true [(0,.str),(1,.int),(2,.int),(3,.int)]) [.t q19,.t q23] 255]) (c q24 (s (r [o q4 .mov [.c (.bool false)] 0]) .ret) .skip)))) (r [o q25 (.bin .add) [.t q13,i 1] 0,m q13 q25 1]))))
def a1_ptEq:SC:=(s (r [o q4 .mov [.c (.bool true)] 0]) .ret)
def s_ptEq:FnS:=⟨26,(s (r [o q4 .mov [.c (.bool false)] 0]) (s (s (r [m q6 q0 0,o q7 .len [.t q6] 1,m q8 q1 0,o q9 .len [.t q8] 4,o q10 (.bin .neq) [.t q7,.t q9] 15]) (c q10 (s (r [o q4 .mov [.c (.bool false)] 0]) .ret) .skip)) (s (s (r [m q11 q0 0,o q12 .len [.t q11] 1,o q13 .mov [i 0] 0]) (.blk 0 (.loop l1_ptEq 0 b1_ptEq))) a1_ptEq))),[.t q4]⟩
def k1_ptEq {β:Type} (cl:ClS) (L:Nat) (K:AV→Mem→Option β):Ex→T AV→Mem→Option β:=kBlk 0 (kSeq (evS cl L a1_ptEq) (endS s_ptEq.res K))
theorem ok_ptEq:FnOkS Tryz.prog 151 s_ptEq:=fnOkS_of Tryz.func151 (by kernel_rfl) (by kernel_rfl) Tryz.ntmps151 (by kernel_rfl) (by kernel_rfl)
def l1_sums:List Path:=[q1,q3,q4,q14,q15,q16]
def b1_sums:SC:=(s (r [o q17 (.bin .lss) [.t q16,.t q15] 0]) (s (c q17 .skip (.exit 0)) (s (.blk 1 (s (r [o q18 (.ixs 4) [.t q14,.t q16] 0,o q19 (.ldn 4) [.t q18] 1,o q6 (.new [(.str []),(.int .i64 (0)),(.int .i64 (0)),(.int .i64 (0))]) [] 0,u (.st 4) [.t q6,.t q19] 7]) (d [m q20 q3 0,o q21 (.fad 2) [.t q6] 0,o q22 .ld1 [.t q21] 2,o q23 (.bsl [(.int .i64 (0))] 1 1 [(0,1)]) [.t q22] 6,⟨⟨q24,(.app 1 8),[.t q20,.t q23],none,15⟩,(.ty .int 0)⟩,m q25 q4 0,o q26 (.fad 3) [.t q6] 0,o q27 .ld1 [.t q26] 64,o q28 (.bsl [(.int .i64 (0))] 1 1 [(0,1)]) [.t q27] 192,⟨⟨q29,(.app 1 8),[.t q25,.t q28],none,511⟩,(.ty .int 0)⟩,m q3 q24 1023,m q4 q29 2047]))) (r [o q30 (.bin .add) [.t q16,i 1] 0,m q16 q30 1]))))
def a1_sums:SC:=(s (r [m q32 q3 0,o q33 (.call 150) [.t q32] 1,m q31 q33 3,o q34 (.ext 0) [.t q31] 7,o q35 (.ext 1) [.t q31] 7,m q7 q34 15,m q8 q35 63]) (s (r [m q37 q4 0,o q38 (.call 150) [.t q37] 1,m q36 q38 3,o q39 (.ext 0) [.t q36] 7,o q40 (.ext 1) [.t q36] 7,m q9 q39 15,m q10 q40 63]) (s (r [o q42 (.fad 0) [.t q1] 0,o q43 .ld1 [.t q42] 1,o q44 (.fad 1) [.t q1] 0,o q45 .ld1 [.t q44] 4,o q46 (.bsl [(.int .i64 (0))] 2 1 [(0,1),(1,1)]) [.t q43,.t q45] 15,o q47 (.call 150) [.t q46] 31,m q41 q47 63,o q48 (.ext 0) [.t q41] 127,o q49 (.ext 1) [.t q41] 127,m q11 q48 255,m q12 q49 1023]) (s (r [m q50 q8 0,m q51 q50 1,g q52 .mov [.t q10] q51 true 3,o q53 .pick [.t q51,.t q52,.c (.bool false)] 7,m q54 q53 15,g q55 .mov [.t q12] q54 true 31,o q56 .pick [.t q54,.t q55,.c (.bool false)] 63,m q57 q56 127,g q58 .mov [.t q7] q57 true 255,g q59 (.fad 0) [.t q1] q57 true 255,g q60 .ld1 [.t q59] q57 true 767,g q61 (.bin .eql) [.t q58,.t q60] q57 true 2047,o q62 .pick [.t q57,.t q61,.c (.bool false)] 4095,m q63 q62 8191,g q64 .mov [.t q9] q63 true 16383,g q65 (.fad 1) [.t q1] q63 true 16383,g q66 .ld1 [.t q65] q63 true 49151,g q67 (.bin .eql) [.t q64,.t q66] q63 true 131071,o q68 .pick [.t q63,.t q67,.c (.bool false)] 262143,m q69 q68 524287,g q70 .mov [.t q11] q69 true 1048575,g q71 (.fad 2) [.t q1] q69 true 1048575,g q72 .ld1 [.t q71] q69 true 3145727,g q73 (.bin .eql) [.t q70,.t q72] q69 true 8388607,o q74 .pick [.t q69,.t q73,.c (.bool false)] 16777215,m q2 q74 33554431]) .ret))))
def s_sums:FnS:=⟨75,(s (r [o q1 .box [.t q0] 0,o q2 .mov [.c (.bool false)] 0]) (s (r [o q3 .mov [.c .nilsl] 0,o q4 .mov [.c .nilsl] 1]) (s (s (r [o q13 (.fad 3) [.t q1] 0,o q14 .ld1 [.t q13] 1,o q15 .len [.t q14] 3,o q16 .mov [i 0] 0]) (.blk 0 (.loop l1_sums 0 b1_sums))) a1_sums))),[.t q2]⟩
def k1_sums {β:Type} (cl:ClS) (L:Nat) (K:AV→Mem→Option β):Ex→T AV→Mem→Option β:=kBlk 0 (kSeq (evS cl L a1_sums) (endS s_sums.res K))
theorem ok_sums:FnOkS Tryz.prog 93 s_sums:=fnOkS_of Tryz.func93 (by kernel_rfl) (by kernel_rfl) Tryz.ntmps93 (by kernel_rfl) (by kernel_rfl)
def l1_totOk:List Path:=[q1,q18,q19,q20]
def b1_totOk:SC:=(s (r [o q21 (.bin .lss) [.t q20,.t q19] 0]) (s (c q21 .skip (.exit 0)) (s (.blk 1 (s (r [m q22 q20 0,o q23 (.ixs 4) [.t q18,.t q20] 0,o q24 (.ldn 4) [.t q23] 2,o q4 (.new [(.str []),(.int .i64 (0)),(.int .i64 (0)),(.int .i64 (0))]) [] 0,m q3 q22 15,u (.st 4) [.t q4,.t q24] 31]) (s (s (d [o q25 (.fad 0) [.t q4] 0,o q26 .ld1 [.t q25] 1,o q27 (.call 55) [.t q26] 3,o q28 (.un .not) [.t q27] 7,m q29 q28 15,g q30 .mov [.t q3] q29 false 31,g q31 (.bin .gtr) [.t q30,i 0] q29 false 63,g q32 .mov [.t q31] q29 false 127,g q33 (.fad 3) [.t q1] q32 true 255,g q34 .ld1 [.t q33] q32 true 511,g q35 .mov [.t q3] q32 true 255,g q36 (.bin .sub) [.t q35,i 1] q32 true 1279,g q37 (.ixs 4) [.t q34,.t q36] q32 true 4095,g q38 (.fad 0) [.t q37] q32 true 8191,g q39 .ld1 [.t q38] q32 true 16383,g q40 (.fad 0) [.t q4] q32 true 255,g q41 .ld1 [.t q40] q32 true 33023,g q42 (.sbin .geq) [.t q39,.t q41] q32 true 131071,g q43 .pick [.t q32,.t q42,.c (.bool false)] q29 false 262143,o q44 .pick [.t q29,.c (.bool true),.t q43] 524287,m q45 q44 1048575,g q46 (.fad 1) [.t q4] q45 false 2097151,g q47 .ld1 [.t q46] q45 false 4194303,g q48 (.bin .lss) [.t q47,i 0] q45 false 8388607,o q49 .pick [.t q45,.c (.bool true),.t q48] 16777215,m q50 q49 33554431,g q51 (.fad 1) [.t q4] q50 false 67108863,g q52 .ld1 [.t q51] q50 false 134217727,g q53 (.bin .gtr) [.t q52,i 100000] q50 false 268435455,o q54 .pick [.t q50,.c (.bool true),.t q53] 536870911]) (c q54 (s (r [o q2 .mov [.c (.bool false)] 0]) .ret) .skip)) (s (r [o q56 (.fad 2) [.t q4] 0,o q57 .ld1 [.t q56] 1,o q58 (.fad 1) [.t q4] 0,o q59 .ld1 [.t q58] 4,o q60 (.call 92) [.t q57,.t q59] 15,m q55 q60 31,o q61 (.ext 0) [.t q55] 63,o q62 (.ext 1) [.t q55] 63,m q5 q61 127,m q6 q62 511]) (s (r [m q63 q6 0,o q64 (.bin .neq) [.t q63,i 0] 1,m q65 q64 3,g q66 .mov [.t q5] q65 false 7,g q67 (.fad 3) [.t q4] q65 false 7,g q68 .ld1 [.t q67] q65 false 23,g q69 (.bin .neq) [.t q66,.t q68] q65 false 63,o q70 .pick [.t q65,.c (.bool true),.t q69] 127]) (c q70 (s (r [o q2 .mov [.c (.bool false)] 0]) .ret) .skip)))))) (r [o q71 (.bin .add) [.t q20,i 1] 0,m q20 q71 1]))))
def a1_totOk:SC:=(s (r [o q72 (.ldn 4) [.t q1] 0,o q73 (.call 93) [.t q72] 1,m q2 q73 3]) .ret)
def s_totOk:FnS:=⟨74,(s (r [o q1 .box [.t q0] 0,o q2 .mov [.c (.bool false)] 0]) (s (s (r [o q7 (.fad 3) [.t q1] 0,o q8 .ld1 [.t q7] 1,o q9 .len [.t q8] 3,o q10 (.bin .lss) [.t q9,i 1] 7,m q11 q10 15,g q12 (.fad 3) [.t q1] q11 false 31,g q13 .ld1 [.t q12] q11 false 63,g q14 .len [.t q13] q11 false 127,g q15 (.bin .gtr) [.t q14,i 12] q11 false 255,o q16 .pick [.t q11,.c (.bool true),.t q15] 511]) (c q16 (s (r [o q2 .mov [.c (.bool false)] 0]) .ret) .skip)) (s (s (r [o q17 (.fad 3) [.t q1] 0,o q18 .ld1 [.t q17] 1,o q19 .len [.t q18] 3,o q20 .mov [i 0] 0]) (.blk 0 (.loop l1_totOk 0 b1_totOk))) a1_totOk))),[.t q2]⟩
def k1_totOk {β:Type} (cl:ClS) (L:Nat) (K:AV→Mem→Option β):Ex→T AV→Mem→Option β:=kBlk 0 (kSeq (evS cl L a1_totOk) (endS s_totOk.res K))
theorem ok_totOk:FnOkS Tryz.prog 57 s_totOk:=fnOkS_of Tryz.func57 (by kernel_rfl) (by kernel_rfl) Tryz.ntmps57 (by kernel_rfl) (by kernel_rfl)
def s_find:FnS:=⟨8,(s (r [o q3 .box [.t q1] 0,o q4 .mov [i 0] 0]) (s (r [m q5 q0 0,o q6 (.mkf 95) [.t q3] 0,o q7 (.call 94) [.t q5,.t q6] 3,m q4 q7 7]) .ret)),[.t q4]⟩
theorem ok_find:FnOkS Tryz.prog 58 s_find:=fnOkS_of Tryz.func58 (by kernel_rfl) (by kernel_rfl) Tryz.ntmps58 (by kernel_rfl) (by kernel_rfl)
def s_findIs:FnS:=⟨8,(s (r [o q2 .box [.t q0] 0,o q3 .mov [.c (.bool false)] 0]) (s (r [o q4 (.fad 0) [.t q2] 0,o q5 (.ldn 2) [.t q4] 1,o q6 (.ldn 2) [.t q1] 0,o q7 (.eqa false [(0,.str),(1,.int)]) [.t q5,.t q6] 7,m q3 q7 15]) .ret)),[.t q3]⟩
theorem ok_findIs:FnOkS Tryz.prog 95 s_findIs:=fnOkS_of Tryz.func95 (by kernel_rfl) (by kernel_rfl) Tryz.ntmps95 (by kernel_rfl) (by kernel_rfl)
def l1_ixPst:List Path:=[q0,q1,q7,q8]
def b1_ixPst:SC:=(s (r [o q9 (.bin .lss) [.t q8,.t q7] 0]) (s (c q9 .skip (.exit 0)) (s (.blk 1 (s (r [m q10 q8 0,m q5 q10 1]) (s (r [m q11 q1 0,m q12 q0 0,m q13 q5 0,o q14 (.ixs 12) [.t q12,.t q13] 6,o q15 (.ldn 12) [.t q14] 14,o q16 .callv [.t q11,.t q15] 31]) (c q16 (s (r [m q17 q5 0,m q4 q17 1]) .ret) .skip)))) (r [o q18 (.bin .add) [.t q8,i 1] 0,m q8 q18 1]))))
def a1_ixPst:SC:=(s (r [o q4 .mov [i (-1)] 0]) .ret)
def s_ixPst:FnS:=⟨19,(s (r [o q4 .mov [i 0] 0]) (s (s (r [m q6 q0 0,o q7 .len [.t q6] 1,o q8 .mov [i 0] 0]) (.blk 0 (.loop l1_ixPst 1 b1_ixPst))) a1_ixPst)),[.t q4]⟩
def k1_ixPst {β:Type} (cl:ClS) (L:Nat) (K:AV→Mem→Option β):Ex→T AV→Mem→Option β:=kBlk 0 (kSeq (evS cl L a1_ixPst) (endS s_ixPst.res K))
theorem ok_ixPst:FnOkS Tryz.prog 94 s_ixPst:=fnOkS_of Tryz.func94 (by kernel_rfl) (by kernel_rfl) Tryz.ntmps94 (by kernel_rfl) (by kernel_rfl)
def s_takes:FnS:=⟨35,(s (r [o q2 .box [.t q0] 0,o q3 .box [.t q1] 0,o q4 .mov [.c (.bool false)] 0]) (s (r [o q8 (.fad 5) [.t q3] 0,o q9 (.ldn 4) [.t q8] 1,o q10 (.call 75) [.t q9] 3,m q7 q10 7,o q11 (.ext 0) [.t q7] 15,o q12 (.ext 1) [.t q7] 15,o q5 (.new [(.int .i64 (0)),(.int .i64 (0)),(.int .i64 (0)),.nilsl]) [] 0,u (.st 4) [.t q5,.t q11] 95,m q6 q12 255]) (s (r [o q13 (.fad 9) [.t q3] 0,o q14 (.ldn 2) [.t q13] 1,o q15 (.build [(.str []),(.int .i64 (0))] []) [] 0,o q16 (.eqa false [(0,.str),(1,.int)]) [.t q14,.t q15] 7,m q17 q16 15,g q18 (.fad 2) [.t q2] q17 true 31,g q19 (.ldn 3) [.t q18] q17 true 63,g q20 (.fad 2) [.t q3] q17 true 31,g q21 (.ldn 3) [.t q20] q17 true 159,g q22 (.call 74) [.t q19,.t q21] q17 true 511,g q23 (.un .not) [.t q22] q17 true 1023,o q24 .pick [.t q17,.t q23,.c (.bool false)] 2047,m q25 q24 4095,g q26 .mov [.t q6] q25 true 8191,g q27 (.bin .eql) [.t q26,i 0] q25 true 16383,o q28 .pick [.t q25,.t q27,.c (.bool false)] 32767,m q29 q28 65535,g q30 (.ldn 4) [.t q5] q29 true 131071,g q31 (.fad 5) [.t q2] q29 true 131071,g q32 (.ldn 4) [.t q31] q29 true 393215,g q33 (.call 96) [.t q30,.t q32] q29 true 1048575,o q34 .pick [.t q29,.t q33,.c (.bool false)] 2097151,m q4 q34 4194303]) .ret))),[.t q4]⟩
theorem ok_takes:FnOkS Tryz.prog 59 s_takes:=fnOkS_of Tryz.func59 (by kernel_rfl) (by kernel_rfl) Tryz.ntmps59 (by kernel_rfl) (by kernel_rfl)
def l1_numbers:List Path:=[q1,q3,q10,q11,q12]
def b1_numbers:SC:=(s (r [o q13 (.bin .lss) [.t q12,.t q11] 0]) (s (c q13 .skip (.exit 0)) (s (.blk 1 (s (r [o q14 (.ixs 12) [.t q10,.t q12] 0,o q15 (.ldn 12) [.t q14] 1,o q5 (.new [(.str []),(.int .i64 (0)),(.int .i64 (0)),(.int .i64 (0)),(.int .i64 (0)),(.int .i64 (0)),(.int .i64 (0)),(.int .i64 (0)),.nilsl,(.str []),(.int .i64 (0)),(.bool false)]) [] 0,u (.st 12) [.t q5,.t q15] 7]) (s (r [o q16 (.fad 1) [.t q1] 0,o q17 .ld1 [.t q16] 1,o q18 (.mkf 61) [.t q5] 0,o q19 (.call 60) [.t q17,.t q18] 7,m q6 q19 15]) (s (s (r [m q20 q6 0,o q21 (.bin .lss) [.t q20,i 0] 1]) (c q21 (s (r [o q2 .mov [.c (.bool false)] 0]) .ret) .skip)) (s (r [m q22 q6 0,⟨⟨q23,(.ixa 8 1),[.t q3,.t q22],none,1⟩,(.ty .int 0)⟩,o q24 .ld1 [.t q23] 3,o q25 (.bin .add) [.t q24,i 1] 7,⟨⟨q26,(.ixa 8 1),[.t q3,.t q22],none,15⟩,(.ty .int 0)⟩,u (.st 1) [.t q26,.t q25] 31]) (s (d [o q27 (.fad 0) [.t q5] 0,o q28 (.fad 1) [.t q27] 1,o q29 .ld1 [.t q28] 3,m q30 q6 0,⟨⟨q31,(.ixa 8 1),[.t q3,.t q30],none,8⟩,(.ty .int 0)⟩,o q32 .ld1 [.t q31] 24,o q33 (.bin .neq) [.t q29,.t q32] 63]) (c q33 (s (r [o q2 .mov [.c (.bool false)] 0]) .ret) .skip))))))) (r [o q34 (.bin .add) [.t q12,i 1] 0,m q12 q34 1]))))
def l2_numbers:List Path:=[q3,q36,q37,q38]
def b2_numbers:SC:=(s (r [o q39 (.bin .lss) [.t q38,.t q37] 0]) (s (c q39 .skip (.exit 2)) (s (.blk 3 (s (r [m q40 q38 0,o q41 (.ixs 4) [.t q36,.t q38] 0,o q42 (.ldn 4) [.t q41] 2,o q8 (.new [(.str []),(.int .i64 (0)),(.int .i64 (0)),(.bool false)]) [] 0,m q7 q40 15,u (.st 4) [.t q8,.t q42] 31]) (s (d [o q43 (.fad 1) [.t q8] 0,o q44 .ld1 [.t q43] 1,m q45 q7 0,⟨⟨q46,(.ixa 8 1),[.t q3,.t q45],none,4⟩,(.ty .int 0)⟩,o q47 .ld1 [.t q46] 12,o q48 (.bin .add) [.t q47,i 1] 28,o q49 (.bin .neq) [.t q44,.t q48] 63]) (c q49 (s (r [o q2 .mov [.c (.bool false)] 0]) .ret) .skip)))) (r [o q50 (.bin .add) [.t q38,i 1] 0,m q38 q50 1]))))
def a2_numbers:SC:=(s (r [o q2 .mov [.c (.bool true)] 0]) .ret)
def a1_numbers:SC:=(s (s (r [o q35 (.fad 1) [.t q1] 0,o q36 .ld1 [.t q35] 1,o q37 .len [.t q36] 3,o q38 .mov [i 0] 0]) (.blk 2 (.loop l2_numbers 0 b2_numbers))) a2_numbers)
def s_numbers:FnS:=⟨51,(s (r [o q1 .box [.t q0] 0,o q2 .mov [.c (.bool false)] 0]) (s (r [⟨⟨q3,(.new [(.int .i64 (0)),(.int .i64 (0)),(.int .i64 (0)),(.int .i64 (0)),(.int .i64 (0)),(.int .i64 (0)),(.int .i64 (0)),(.int .i64 (0))]),[],none,0⟩,(.ty .int 8)⟩]) (s (s (r [o q9 (.fad 2) [.t q1] 0,o q10 .ld1 [.t q9] 1,o q11 .len [.t q10] 3,o q12 .mov [i 0] 0]) (.blk 0 (.loop l1_numbers 0 b1_numbers))) a1_numbers))),[.t q2]⟩
def k1_numbers {β:Type} (cl:ClS) (L:Nat) (K:AV→Mem→Option β):Ex→T AV→Mem→Option β:=kBlk 0 (kSeq (evS cl L a1_numbers) (endS s_numbers.res K))
def k2_numbers {β:Type} (cl:ClS) (L:Nat) (K:AV→Mem→Option β):Ex→T AV→Mem→Option β:=kBlk 2 (kSeq (evS cl L a2_numbers) (endS s_numbers.res K))
theorem ok_numbers:FnOkS Tryz.prog 28 s_numbers:=fnOkS_of Tryz.func28 (by kernel_rfl) (by kernel_rfl) Tryz.ntmps28 (by kernel_rfl) (by kernel_rfl)
def s_numIs:FnS:=⟨10,(s (r [o q2 .box [.t q0] 0,o q3 .mov [.c (.bool false)] 0]) (s (r [o q4 (.fad 0) [.t q2] 0,o q5 .ld1 [.t q4] 1,o q6 (.fad 0) [.t q1] 0,o q7 (.fad 0) [.t q6] 4,o q8 .ld1 [.t q7] 12,o q9 (.sbin .eql) [.t q5,.t q8] 31,m q3 q9 63]) .ret)),[.t q3]⟩
theorem ok_numIs:FnOkS Tryz.prog 61 s_numIs:=fnOkS_of Tryz.func61 (by kernel_rfl) (by kernel_rfl) Tryz.ntmps61 (by kernel_rfl) (by kernel_rfl)
def l1_posted:List Path:=[q0,q3,q12,q13,q14]
def b1_posted:SC:=(s (r [o q15 (.bin .lss) [.t q14,.t q13] 0]) (s (c q15 .skip (.exit 0)) (s (.blk 1 (s (r [m q16 q14 0,o q17 (.ixs 12) [.t q12,.t q14] 0,o q18 (.ldn 12) [.t q17] 2,o q5 (.new [(.str []),(.int .i64 (0)),(.int .i64 (0)),(.int .i64 (0)),(.int .i64 (0)),(.int .i64 (0)),(.int .i64 (0)),(.int .i64 (0)),.nilsl,(.str []),(.int .i64 (0)),(.bool false)]) [] 0,m q4 q16 15,u (.st 12) [.t q5,.t q18] 31]) (s (s (r [o q19 (.fad 2) [.t q5] 0,o q20 (.ldn 3) [.t q19] 1,o q21 (.call 56) [.t q20] 3,o q22 (.un .not) [.t q21] 7,m q23 q22 15,g q24 (.fad 5) [.t q5] q23 false 31,g q25 (.ldn 4) [.t q24] q23 false 63,g q26 (.call 57) [.t q25] q23 false 127,g q27 (.un .not) [.t q26] q23 false 255,o q28 .pick [.t q23,.c (.bool true),.t q27] 511]) (c q28 (s (r [o q2 .mov [.c (.bool false)] 0]) .ret) .skip)) (s (s (r [o q29 (.fad 9) [.t q5] 0,o q30 (.ldn 2) [.t q29] 1,o q31 (.build [(.str []),(.int .i64 (0))] []) [] 0,o q32 (.eqa false [(0,.str),(1,.int)]) [.t q30,.t q31] 7]) (c q32 (.exit 1) .skip)) (s (d [m q33 q0 0,m q34 q4 0,o q35 (.slc 12 false true) [.t q33,.t q34] 3,o q36 (.fad 9) [.t q5] 0,o q37 (.ldn 2) [.t q36] 8,o q38 (.call 58) [.t q35,.t q37] 31,m q6 q38 63]) (s (s (d [m q39 q6 0,o q40 (.bin .lss) [.t q39,i 0] 1,m q41 q40 3,g q42 (.ldn 12) [.t q5] q41 false 7,g q43 .mov [.t q0] q41 false 7,g q44 .mov [.t q6] q41 false 7,g q45 (.ixs 12) [.t q43,.t q44] q41 false 55,g q46 (.ldn 12) [.t q45] q41 false 119,g q47 (.call 59) [.t q42,.t q46] q41 false 255,g q48 (.un .not) [.t q47] q41 false 511,o q49 .pick [.t q41,.c (.bool true),.t q48] 1023]) (c q49 (s (r [o q2 .mov [.c (.bool false)] 0]) .ret) .skip)) (r [m q50 q6 0,⟨⟨q51,(.ixa 40 1),[.t q3,.t q50],none,1⟩,(.ty .int 0)⟩,o q52 .ld1 [.t q51] 3,o q53 (.bin .add) [.t q52,i 1] 7,⟨⟨q54,(.ixa 40 1),[.t q3,.t q50],none,15⟩,(.ty .int 0)⟩,u (.st 1) [.t q54,.t q53] 31]))))))) (r [o q55 (.bin .add) [.t q14,i 1] 0,m q14 q55 1]))))
def l2_posted:List Path:=[q3,q56,q57,q58]
def b2_posted:SC:=(s (r [o q59 (.bin .lss) [.t q58,.t q57] 0]) (s (c q59 .skip (.exit 2)) (s (.blk 3 (s (r [m q60 q58 0,o q61 (.ixs 12) [.t q56,.t q58] 0,o q62 (.ldn 12) [.t q61] 2,o q8 (.new [(.str []),(.int .i64 (0)),(.int .i64 (0)),(.int .i64 (0)),(.int .i64 (0)),(.int .i64 (0)),(.int .i64 (0)),(.int .i64 (0)),.nilsl,(.str []),(.int .i64 (0)),(.bool false)]) [] 0,m q7 q60 15,u (.st 12) [.t q8,.t q62] 31]) (s (d [m q63 q7 0,⟨⟨q64,(.ixa 40 1),[.t q3,.t q63],none,1⟩,(.ty .int 0)⟩,o q65 .ld1 [.t q64] 3,o q66 (.bin .gtr) [.t q65,i 1] 7,m q67 q66 15,g q68 (.fad 11) [.t q8] q67 false 31,g q69 .ld1 [.t q68] q67 false 63,g q70 .mov [.t q7] q67 false 31,⟨⟨q71,(.ixa 40 1),[.t q3,.t q70],(some (q67,false)),159⟩,(.ty .int 0)⟩,g q72 .ld1 [.t q71] q67 false 415,g q73 (.bin .eql) [.t q72,i 1] q67 false 927,g q74 (.eqk true .b) [.t q69,.t q73] q67 false 2047,o q75 .pick [.t q67,.c (.bool true),.t q74] 4095]) (c q75 (s (r [o q2 .mov [.c (.bool false)] 0]) .ret) .skip)))) (r [o q76 (.bin .add) [.t q58,i 1] 0,m q58 q76 1]))))
def a2_posted:SC:=(s (r [o q2 .mov [.c (.bool true)] 0]) .ret)
def a1_posted:SC:=(s (s (r [m q56 q0 0,o q57 .len [.t q56] 1,o q58 .mov [i 0] 0]) (.blk 2 (.loop l2_posted 0 b2_posted))) a2_posted)
def s_posted:FnS:=⟨77,(s (r [o q2 .mov [.c (.bool false)] 0]) (s (s (r [m q9 q0 0,o q10 .len [.t q9] 1,o q11 (.bin .gtr) [.t q10,i 40] 3]) (c q11 (s (r [o q2 .mov [.c (.bool false)] 0]) .ret) .skip)) (s (r [⟨⟨q3,(.new [(.int .i64 (0)),(.int .i64 (0)),(.int .i64 (0)),(.int .i64 (0)),(.int .i64 (0)),(.int .i64 (0)),(.int .i64 (0)),(.int .i64 (0)),(.int .i64 (0)),(.int .i64 (0)),(.int .i64 (0)),(.int .i64 (0)),(.int .i64 (0)),(.int .i64 (0)),(.int .i64 (0)),(.int .i64 (0)),(.int .i64 (0)),(.int .i64 (0)),(.int .i64 (0)),(.int .i64 (0)),(.int .i64 (0)),(.int .i64 (0)),(.int .i64 (0)),(.int .i64 (0)),(.int .i64 (0)),(.int .i64 (0)),(.int .i64 (0)),(.int .i64 (0)),(.int .i64 (0)),(.int .i64 (0)),(.int .i64 (0)),(.int .i64 (0)),(.int .i64 (0)),(.int .i64 (0)),(.int .i64 (0)),(.int .i64 (0)),(.int .i64 (0)),(.int .i64 (0)),(.int .i64 (0)),(.int .i64 (0))]),[],none,0⟩,(.ty .int 40)⟩]) (s (s (r [m q12 q0 0,o q13 .len [.t q12] 1,o q14 .mov [i 0] 0]) (.blk 0 (.loop l1_posted 0 b1_posted))) a1_posted)))),[.t q2]⟩
def k1_posted {β:Type} (cl:ClS) (L:Nat) (K:AV→Mem→Option β):Ex→T AV→Mem→Option β:=kBlk 0 (kSeq (evS cl L a1_posted) (endS s_posted.res K))
def k2_posted {β:Type} (cl:ClS) (L:Nat) (K:AV→Mem→Option β):Ex→T AV→Mem→Option β:=kBlk 2 (kSeq (evS cl L a2_posted) (endS s_posted.res K))
theorem ok_posted:FnOkS Tryz.prog 27 s_posted:=fnOkS_of Tryz.func27 (by kernel_rfl) (by kernel_rfl) Tryz.ntmps27 (by kernel_rfl) (by kernel_rfl)
def l1_booked:List Path:=[q4,q9,q10,q11]
def b1_booked:SC:=(s (r [o q12 (.bin .lss) [.t q11,.t q10] 0]) (s (c q12 .skip (.exit 0)) (s (.blk 1 (s (r [o q13 (.ixs 12) [.t q9,.t q11] 0,o q14 (.ldn 12) [.t q13] 1,o q6 (.new [(.str []),(.int .i64 (0)),(.int .i64 (0)),(.int .i64 (0)),(.int .i64 (0)),(.int .i64 (0)),(.int .i64 (0)),(.int .i64 (0)),.nilsl,(.str []),(.int .i64 (0)),(.bool false)]) [] 0,u (.st 12) [.t q6,.t q14] 7]) (s (r [o q16 (.fad 5) [.t q6] 0,o q17 (.ldn 4) [.t q16] 1,o q18 (.call 62) [.t q17] 3,m q15 q18 7,o q19 (.ext 0) [.t q15] 15,o q20 (.ext 1) [.t q15] 15,m q7 q19 31,m q8 q20 127]) (s (s (r [m q21 q8 0,o q22 (.bin .neq) [.t q21,i 0] 1]) (c q22 (s (r [m q23 q8 0,o q2 .mov [.c .nilsl] 0,m q3 q23 3]) .ret) .skip)) (s (r [m q25 q4 0,m q26 q7 0,o q27 (.call 63) [.t q25,.t q26] 3,m q24 q27 7,o q28 (.ext 0) [.t q24] 15,o q29 (.ext 1) [.t q24] 15,m q4 q28 31,m q8 q29 127]) (s (r [m q30 q8 0,o q31 (.bin .neq) [.t q30,i 0] 1]) (c q31 (s (r [m q32 q8 0,o q2 .mov [.c .nilsl] 0,m q3 q32 3]) .ret) .skip))))))) (r [o q33 (.bin .add) [.t q11,i 1] 0,m q11 q33 1]))))
def a1_booked:SC:=(s (r [m q34 q4 0,m q2 q34 1,o q3 .mov [i 0] 3]) .ret)
def s_booked:FnS:=⟨35,(s (r [o q2 .mov [.c .nilsl] 0,o q3 .mov [i 0] 1]) (s (r [o q4 .mov [.c .nilsl] 0]) (s (s (r [m q9 q0 0,o q10 .len [.t q9] 1,o q11 .mov [i 0] 0]) (.blk 0 (.loop l1_booked 0 b1_booked))) a1_booked))),[.t q2,.t q3]⟩
def k1_booked {β:Type} (cl:ClS) (L:Nat) (K:AV→Mem→Option β):Ex→T AV→Mem→Option β:=kBlk 0 (kSeq (evS cl L a1_booked) (endS s_booked.res K))
theorem ok_booked:FnOkS Tryz.prog 29 s_booked:=fnOkS_of Tryz.func29 (by kernel_rfl) (by kernel_rfl) Tryz.ntmps29 (by kernel_rfl) (by kernel_rfl)
def s_sessions:FnS:=⟨36,(s (r [o q1 .box [.t q0] 0,o q2 .mov [.c (.bool false)] 0]) (s (r [o q4 (.fad 4) [.t q1] 0,o q5 .ld1 [.t q4] 1,o q6 .len [.t q5] 3,m q3 q6 7]) (s (d [o q7 (.fad 4) [.t q1] 0,o q8 .ld1 [.t q7] 1,o q9 (.call 32) [.t q8] 3,m q10 q9 7,g q11 (.fad 5) [.t q1] q10 true 15,g q12 .ld1 [.t q11] q10 true 31,g q13 (.bin .geq) [.t q12,i 1] q10 true 63,o q14 .pick [.t q10,.t q13,.c (.bool false)] 127,m q15 q14 255,g q16 (.fad 5) [.t q1] q15 true 511,g q17 .ld1 [.t q16] q15 true 1023,g q18 (.bin .leq) [.t q17,i 1099511627776] q15 true 2047,o q19 .pick [.t q15,.t q18,.c (.bool false)] 4095,m q20 q19 8191,g q21 .mov [.t q3] q20 true 16383,g q22 (.bin .eql) [.t q21,i 0] q20 true 32767,g q23 .mov [.t q22] q20 true 65535,g q24 (.fad 4) [.t q1] q23 false 131071,g q25 .ld1 [.t q24] q23 false 262143,g q26 .mov [.t q3] q23 false 131071,g q27 (.bin .sub) [.t q26,i 1] q23 false 655359,g q28 (.ixs 5) [.t q25,.t q27] q23 false 2097151,g q29 (.fad 0) [.t q28] q23 false 4194303,g q30 .ld1 [.t q29] q23 false 8388607,g q31 (.fad 5) [.t q1] q23 false 131071,g q32 .ld1 [.t q31] q23 false 16908287,g q33 (.bin .lss) [.t q30,.t q32] q23 false 67108863,g q34 .pick [.t q23,.c (.bool true),.t q33] q20 true 134217727,o q35 .pick [.t q20,.t q34,.c (.bool false)] 268435455,m q2 q35 536870911]) .ret))),[.t q2]⟩
theorem ok_sessions:FnOkS Tryz.prog 26 s_sessions:=fnOkS_of Tryz.func26 (by kernel_rfl) (by kernel_rfl) Tryz.ntmps26 (by kernel_rfl) (by kernel_rfl)
def s_right:FnS:=⟨45,(s (r [o q1 .box [.t q0] 0,o q2 .mov [.c (.bool false)] 0]) (s (s (r [o q5 (.fad 0) [.t q1] 0,o q6 .ld1 [.t q5] 1,o q7 (.call 24) [.t q6] 3,o q8 (.un .not) [.t q7] 7,m q9 q8 15,g q10 (.fad 1) [.t q1] q9 false 31,g q11 .ld1 [.t q10] q9 false 63,g q12 (.call 25) [.t q11] q9 false 127,g q13 (.un .not) [.t q12] q9 false 255,o q14 .pick [.t q9,.c (.bool true),.t q13] 511,m q15 q14 1023,g q16 (.ldn 6) [.t q1] q15 false 2047,g q17 (.call 26) [.t q16] q15 false 4095,g q18 (.un .not) [.t q17] q15 false 8191,o q19 .pick [.t q15,.c (.bool true),.t q18] 16383,m q20 q19 32767,g q21 (.fad 2) [.t q1] q20 false 65535,g q22 .ld1 [.t q21] q20 false 131071,g q23 (.call 27) [.t q22] q20 false 262143,g q24 (.un .not) [.t q23] q20 false 524287,o q25 .pick [.t q20,.c (.bool true),.t q24] 1048575,m q26 q25 2097151,g q27 (.ldn 6) [.t q1] q26 false 4194303,g q28 (.call 28) [.t q27] q26 false 8388607,g q29 (.un .not) [.t q28] q26 false 16777215,o q30 .pick [.t q26,.c (.bool true),.t q29] 33554431]) (c q30 (s (r [o q2 .mov [.c (.bool false)] 0]) .ret) .skip)) (s (r [o q32 (.fad 2) [.t q1] 0,o q33 .ld1 [.t q32] 1,o q34 (.call 29) [.t q33] 3,m q31 q34 7,o q35 (.ext 0) [.t q31] 15,o q36 (.ext 1) [.t q31] 15,m q3 q35 31,m q4 q36 127]) (s (r [m q37 q4 0,o q38 (.bin .eql) [.t q37,i 0] 1,m q39 q38 3,g q40 .mov [.t q3] q39 true 7,g q41 (.fad 3) [.t q1] q39 true 7,g q42 .ld1 [.t q41] q39 true 23,g q43 (.call 30) [.t q40,.t q42] q39 true 63,o q44 .pick [.t q39,.t q43,.c (.bool false)] 127,m q2 q44 255]) .ret)))),[.t q2]⟩
theorem ok_right:FnOkS Tryz.prog 11 s_right:=fnOkS_of Tryz.func11 (by kernel_rfl) (by kernel_rfl) Tryz.ntmps11 (by kernel_rfl) (by kernel_rfl)
end Go.Proofs.YtbknmeafcbhicaaGreatDoor.Ev
