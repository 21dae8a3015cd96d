/- Texts of this proof, put together by program; each has its own remark. -/
import Derived.Test.YtpccdcnjkknmkaaGreatDoorProg
import Derived.Laws.Externs
import Derived.Test.YtpccdcnjkknmkaaGreatDoorM1
import Derived.Test.YtpccdcnjkknmkaaGreatDoorM3

namespace Go.Proofs.YtpccdcnjkknmkaaGreatDoor.Ev
open Go Go.RowKit Go.Lib
set_option maxHeartbeats 4000000 in
set_option maxRecDepth 100000 in
theorem yF6 (b sh n c k vb vo vc:Nat) (cs vs:List Value) (w:World) (hk:k < n) (hroom:n+1<=c) (hn6:n < 1000000) (hvb:vb≠b) (hcl:cs.length=n*4) (hvl:vs.length=4)
  (hcs:∀ j v,cs[j]?=some v->w.cell? ⟨b,sh+j,none⟩=some v) (hsp:∀ j,j < (n+1)*4->(w.cell? ⟨b,sh+j,none⟩).isSome=true) (hfz:∀ j,j < (n+1)*4->w.frozen? ⟨b,sh+j,none⟩=false)
  (hvs:∀ j v,vs[j]?=some v->w.cell? ⟨vb,vo+j,none⟩=some v) (h1c:∀ v∈cs,v.oneCell'=true) (h1v:∀ v∈vs,v.oneCell'=true)
  (tA tB:TypeId) (kA kB:Nat) (hsa:w.shape? vb=some (tA,kA)) (hsb:w.shape? b=some (tB,kB)) (hkB:kB≠0) (hfa:w.frozen? ⟨vb,vo,none⟩=false) (hfe:w.frozen? ⟨vb,kA,none⟩=false) :
  Calls Tryz.prog 101 #[.slice (some ⟨b,sh,none⟩) n c,.int .i64 k,.slice (some ⟨vb,vo,none⟩) 1 vc] w fun e w' =>
   e=.returned (.slice (some ⟨b,sh,none⟩) (n+1) c)/\w'=(w.drew.setCells b (sh+(k+1)*4) (cs.drop (k*4))).setCells b (sh+k*4) vs:=by
 have hinf:(Tryz.prog.info? 72).map (·.size)=some 4:=by kernel_rfl
 obtain⟨i0,hi0,his⟩:∃ i0,Tryz.prog.info? 72=some i0/\i0.size=4:=by
  cases h:Tryz.prog.info? 72 with
  | none=>rw [h] at hinf;cases hinf
  | some i=>rw [h] at hinf;exact⟨i,rfl,Option.some.inj hinf⟩
 have hz9:∀ w,(Go.sizeOf 72).run Tryz.prog w=.ok 4 w:=fun w=>by simp [sizeOf,typeInfo,hi0,his]
 have hz2:¬ ((k:Int)=(n:Int)):=by omega
 have hov:∀ lb cb,(callFunc 138 #[.slice (some ⟨vb,vo,none⟩) 1 vc,.slice (some ⟨b,sh+(k+1)*4,none⟩) lb cb]).run Tryz.prog w=.ok (.value (.bool false)) w:=fun lb cb=>by
  rw [run_callFunc_extern Tryz.func138 (by kernel_rfl) (by kernel_rfl) (by kernel_rfl) (e:=Extern.SlicesOverlaps.overlaps #[26,26] #[4]) (by kernel_rfl),
   Lib.run_overlaps_apart w 26 4 72 Tryz.underlying26 4 hz9 ⟨vb,vo,none⟩ ⟨b,sh+(k+1)*4,none⟩ 1 vc lb cb hvb tA tB kA kB hsa hsb hkB hfa hfe]
  rfl
 have hdl:(cs.drop (k*4)).length=(n - k)*4:=by rw [List.length_drop,hcl,Nat.sub_mul]
 have hcp1:∀ ty dc sc,(Builtin.copy_ #[26,26] ty #[.slice (some ⟨b,sh+(k+1)*4,none⟩) (n - k) dc,.slice (some ⟨b,sh+k*4,none⟩) (n+1 - k) sc]).run Tryz.prog w.drew=.ok (goInt ((n - k:Nat):Int)) (w.drew.setCells b (sh+(k+1)*4) (cs.drop (k*4))):=fun ty dc sc =>
  zB1 w.drew _ _ ty 72 b (sh+(k+1)*4) (n - k) dc ⟨b,sh+k*4,none⟩ (n+1 - k) sc (n - k) 4 i0 (cs.drop (k*4)) Tryz.underlying26 hi0 his (by simp only [Nat.min_def];split<;>omega) hdl
   (fun j v hj=>by rw [Addr.add_lit,Nat.add_assoc];exact hcs (k*4+j) v (by rwa [List.getElem?_drop] at hj))
   (fun j hj=>by rw [Nat.add_assoc];exact hsp _ (by omega)) (fun j hj=>by rw [Nat.add_assoc];exact hfz _ (by omega)) (fun v hv=>h1c v (List.mem_of_mem_drop hv))
 obtain⟨W1,hW1⟩:∃ W1,W1=w.drew.setCells b (sh+(k+1)*4) (cs.drop (k*4)):=⟨_,rfl⟩
 have hsp1:∀ j,j < (n+1)*4->(W1.cell? ⟨b,sh+j,none⟩).isSome=true:=fun j hj=>by
  rw [hW1]
  exact isSome_setCells b _ _ _ (fun q hq=>by rw [Nat.add_assoc];exact hsp _ (by omega)) _ (hsp j hj)
 have hcp2:∀ (W:World),(∀ x,W.cell? x=W1.cell? x)->(∀ x,W.frozen? x=W1.frozen? x)->∀ ty dc,(Builtin.copy_ #[26,26] ty #[.slice (some ⟨b,sh+k*4,none⟩) (n+1 - k) dc,.slice (some ⟨vb,vo,none⟩) 1 vc]).run Tryz.prog W=.ok (goInt ((1:Nat):Int)) (W.setCells b (sh+k*4) vs):=fun W hWc hWf ty dc =>
  zB1 W _ _ ty 72 b (sh+k*4) (n+1 - k) dc ⟨vb,vo,none⟩ 1 vc 1 4 i0 vs Tryz.underlying26 hi0 his (by simp only [Nat.min_def];split<;>omega) (by omega)
   (fun j v hj=>by
    rw [Addr.add_lit,hWc,hW1,World.cell?_setCells_out b _ _ _ _ (fun h _=>absurd h hvb)]
    exact hvs j v hj)
   (fun j hj=>by rw [hWc,Nat.add_assoc];exact hsp1 _ (by omega)) (fun j hj=>by rw [hWf,hW1,World.frozen?_setCells,Nat.add_assoc];exact hfz _ (by omega)) h1v
 rw [<- hW1] at hcp1
 have hw1:IntKind.i64.wrap ((k:Int)+(1:Int))=(k:Int)+(1:Int):=by rw [IntKind.wrap_i64];omega
 have hin:k<=n:=by omega
 have hb2:¬ (c=k+1):=by omega
 have hb3:(k:Int)<=(n:Int)+(1:Int):=by omega
 have hb4:¬ (c=k):=by omega
 have hb1:(0:Int)<=(k:Int)+1:=by omega
 have hb5:(k:Int)+1<=(n:Int)+1:=by omega
 have htn:((k:Int)+1).toNat=k+1:=by omega
 have htm:((n:Int)+1).toNat=n+1:=by omega
 have mixed:Tryz.prog.follows .mixedOrders=true:=by kernel_rfl
 go_enter Tryz.func101,Tryz.ntmps101
 go_wp2_with (simp only [hov])
 go_region_law_o (refine step_copy_runI rfl _ _ 26 26 rfl _ _ (by simp [Act.eval,Act.put]) (by simp [Act.eval,Act.put]) (hcp1 _ _ _) ?_)
 go_wp2_with (at_builtin;refine wpList_copy_runI _ rfl _ _ 26 26 rfl _ _ rfl rfl (hcp2 _ (fun _=>rfl) (fun _=>rfl) _ _) ?_)
 go_ret
 first | exact⟨rfl,rfl⟩ | exact⟨rfl,by rw [hW1]⟩
set_option maxHeartbeats 4000000 in
set_option maxRecDepth 100000 in
theorem yM3 (b sh n c k vb vo vc:Nat) (cs vs:List Value) (w:World) (hk:k < n) (hnc:n<=c) (hroom:c < n+1) (hbig:(n+1)*40<=140737488355328) (hcl:cs.length=n*4) (hvl:vs.length=4)
  (hcs:∀ j v,cs[j]?=some v->w.cell? ⟨b,sh+j,none⟩=some v)
  (hvs:∀ j v,vs[j]?=some v->w.cell? ⟨vb,vo+j,none⟩=some v) (h1c:∀ v∈cs,v.oneCell'=true) (h1v:∀ v∈vs,v.oneCell'=true) :
  Calls Tryz.prog 101 #[.slice (some ⟨b,sh,none⟩) n c,.int .i64 k,.slice (some ⟨vb,vo,none⟩) 1 vc] w fun e w' =>
   ∃ (G:Nat) (ROW:Array Value),e=.returned (.slice (some ⟨w.heap.size,0,none⟩) (n+1) G)/\n+1<=G/\ROW.size=G*4/\(∀ (j:Nat) (v:Value),(cs.take (k*4))[j]?=some v->ROW[j]?=some v) /\
    w'=(((w.alloc (.cells ROW 72)).drew.setCells w.heap.size (k*4) vs).drew.setCells w.heap.size ((k+1)*4) (cs.drop (k*4))):=by
 have hinf:(Tryz.prog.info? 72).map (fun i=>(i.size,i.bytes,i.zero.map (·.cells.size)))=some (4,40,some 4):=by kernel_rfl
 obtain⟨i0,z,hi0,his,hby,hz0,hzs⟩:∃ i0 z,Tryz.prog.info? 72=some i0/\i0.size=4/\i0.bytes=40/\i0.zero=some z/\z.cells.size=4:=by
  cases h:Tryz.prog.info? 72 with
  | none=>rw [h] at hinf;cases hinf
  | some i =>
   rw [h] at hinf
   simp only [Option.map_some,Option.some.injEq,Prod.mk.injEq] at hinf
   obtain⟨h1,h2,h3⟩:=hinf
   cases hz:i.zero with
   | none=>rw [hz] at h3;cases h3
   | some z=>rw [hz] at h3;exact⟨i,z,rfl,h1,h2,hz,Option.some.inj h3⟩
 have mixed:Tryz.prog.follows .mixedOrders=true:=by kernel_rfl
 have hz2:¬ ((k:Int)=(n:Int)):=by omega
 have hz3:(c:Int) < (n:Int)+1:=by omega
 have hbw:b < w.heap.size:=block_lt_of_cell (hcs 0 _ (List.getElem?_eq_getElem (by omega)))
 have hvw:vb < w.heap.size:=block_lt_of_cell (hvs 0 _ (List.getElem?_eq_getElem (by omega)))
 have hkk:(n:Int)+1 - (k:Int)=((n+1 - k:Nat):Int):=by omega
 have hik:k+(n+1 - k)=n+1:=by omega
 have hold:(Builtin.firstCells i0.size k (.slice (some ⟨b,sh,none⟩) k c)).run Tryz.prog w.drew=.ok (cs.take (k*4)).toArray w.drew:=by
  rw [his]
  exact run_firstCells_some w.drew 4 k ⟨b,sh,none⟩ k c (cs.take (k*4)) (by rw [List.length_take];omega) (fun j v hj=>by
   rw [Addr.add_lit]
   rw [List.getElem?_take] at hj
   split at hj
   ·exact hcs j v hj
   ·cases hj)
 have hrz:∀ ty,(Builtin.append_ #[26,3] ty #[.slice (some ⟨b,sh,none⟩) k c,.int .i64 ((n:Int)+1 - (k:Int))]).run Tryz.prog w =
   .ok (.slice (some ⟨w.heap.size,0,none⟩) (n+1) (grownCap w (n+1) c 72)) (w.drew.alloc (.cells ((cs.take (k*4)).toArray++Builtin.zeroCells z.cells (n+1 - k)++Builtin.zeroCells z.cells (grownCap w (n+1) c 72 - (n+1))) 72)):=fun ty=>by
  have h:=Lib.run_append_grow_zeros w 26 3 ty 72 i0 _ .i64 .i64 Tryz.underlying26 Tryz.underlying3 hi0 hz0 (some ⟨b,sh,none⟩) k c (cs.take (k*4)) hold (n+1 - k) (by omega) (by omega) (by omega) (by omega) (by rw [hby];omega) (by rw [hby,hik];exact growslice_fits hroom hbig)
  rw [hik] at h
  rw [hkk]
  exact h
 have hGn:n+1<=grownCap w (n+1) c 72:=grownCap_ge w _ _ _
 have hG63:grownCap w (n+1) c 72<=9223372036854775807:=by
  have:=grownCap_le_maxLen w (n+1) c 72 (by unfold maxLen;omega)
  unfold maxLen at this
  omega
 obtain⟨G,hG⟩:∃ G,G=grownCap w (n+1) c 72:=⟨_,rfl⟩
 rw [<- hG] at hrz hGn hG63
 obtain⟨ROW,hROW⟩:∃ ROW:Array Value,ROW=(cs.take (k*4)).toArray++Builtin.zeroCells z.cells (n+1 - k)++Builtin.zeroCells z.cells (G - (n+1)):=⟨_,rfl⟩
 rw [<- hROW] at hrz
 have hzc:∀ q,(Builtin.zeroCells z.cells q).size=q*4:=fun q=>by rw [size_zeroCells,hzs]
 have hRs:ROW.size=G*4:=by
  rw [hROW,Array.size_append,Array.size_append,hzc,hzc,List.size_toArray,List.length_take,hcl,Nat.sub_mul,Nat.sub_mul]
  omega
 have hRt:∀ (j:Nat) (v:Value),(cs.take (k*4))[j]?=some v->ROW[j]?=some v:=fun j v hj=>by
  have hl:=(List.getElem?_eq_some_iff.1 hj).1
  rw [hROW,Array.append_assoc,Array.getElem?_append_left (by simpa using hl)]
  simpa using hj
 have hRl:(n+1)*4<=ROW.size:=by rw [hRs];omega
 obtain⟨W1,hW1⟩:∃ W1,W1=w.drew.alloc (.cells ROW 72):=⟨_,rfl⟩
 rw [<- hW1] at hrz
 have hN:∀ j,j < (n+1)*4->(W1.cell? ⟨w.heap.size,j,none⟩).isSome=true:=fun j hj=>by
  rw [hW1,World.cell?_alloc_at (w:=w.drew) ROW _ w.heap.size j rfl,Array.getElem?_eq_getElem (by omega)];rfl
 have hNf:∀ j,W1.frozen? ⟨w.heap.size,j,none⟩=false:=fun j=>by rw [hW1];exact World.frozen?_alloc_at (w:=w.drew) ROW _ w.heap.size j rfl
 have hOb:∀ j v,w.cell? ⟨b,j,none⟩=some v->W1.cell? ⟨b,j,none⟩=some v:=fun j v h=>by rw [hW1,World.cell?_alloc_past (w:=w.drew) _ b j hbw];exact h
 have hOv:∀ j v,w.cell? ⟨vb,j,none⟩=some v->W1.cell? ⟨vb,j,none⟩=some v:=fun j v h=>by rw [hW1,World.cell?_alloc_past (w:=w.drew) _ vb j hvw];exact h
 have hcpA:∀ (W:World),(∀ x,W.cell? x=W1.cell? x)->(∀ x,W.frozen? x=W1.frozen? x)->∀ ty dc,(Builtin.copy_ #[26,26] ty #[.slice (some ⟨w.heap.size,k*4,none⟩) (n+1 - k) dc,.slice (some ⟨vb,vo,none⟩) 1 vc]).run Tryz.prog W=.ok (goInt ((1:Nat):Int)) (W.setCells w.heap.size (k*4) vs):=fun W hWc hWf ty dc =>
  zB1 W _ _ ty 72 w.heap.size (k*4) (n+1 - k) dc ⟨vb,vo,none⟩ 1 vc 1 4 i0 vs Tryz.underlying26 hi0 his (by simp only [Nat.min_def];split<;>omega) (by omega)
   (fun j v hj=>by rw [Addr.add_lit,hWc];exact hOv _ v (hvs j v hj))
   (fun j hj=>by rw [hWc];exact hN _ (by omega)) (fun j hj=>by rw [hWf];exact hNf _) h1v
 have hGi:¬ (G=k):=by omega
 have hGim:¬ (G=k+1):=by omega
 have hci:¬ (c=k):=by omega
 have hbN:b≠w.heap.size:=by omega
 have hdl:(cs.drop (k*4)).length=(n - k)*4:=by rw [List.length_drop,hcl,Nat.sub_mul]
 have hcpB:∀ (W:World),(∀ x,W.cell? x=(W1.setCells w.heap.size (k*4) vs).cell? x)->(∀ x,W.frozen? x=(W1.setCells w.heap.size (k*4) vs).frozen? x)->∀ ty dc sc,(Builtin.copy_ #[26,26] ty #[.slice (some ⟨w.heap.size,(k+1)*4,none⟩) (n - k) dc,.slice (some ⟨b,sh+k*4,none⟩) (n - k) sc]).run Tryz.prog W=.ok (goInt ((n - k:Nat):Int)) (W.setCells w.heap.size ((k+1)*4) (cs.drop (k*4))):=fun W hWc hWf ty dc sc =>
  zB1 W _ _ ty 72 w.heap.size ((k+1)*4) (n - k) dc ⟨b,sh+k*4,none⟩ (n - k) sc (n - k) 4 i0 (cs.drop (k*4)) Tryz.underlying26 hi0 his (by simp only [Nat.min_def];split<;>omega) hdl
   (fun j v hj=>by
    rw [Addr.add_lit,hWc,World.cell?_setCells_out _ _ _ _ _ (fun h _=>absurd h hbN),Nat.add_assoc]
    exact hOb _ v (hcs (k*4+j) v (by rwa [List.getElem?_drop] at hj)))
   (fun j hj=>by rw [hWc];exact isSome_setCells _ _ _ _ (fun t ht=>hN _ (by omega)) _ (hN _ (by omega)))
   (fun j hj=>by rw [hWf,World.frozen?_setCells];exact hNf _) (fun v hv=>h1c v (List.mem_of_mem_drop hv))
 subst hW1
 have hE1:∀ x,((w.alloc (.cells ROW 72)).drew).cell? x=(w.drew.alloc (.cells ROW 72)).cell? x:=fun x=>rfl
 have hE2:∀ x,((w.alloc (.cells ROW 72)).drew).frozen? x=(w.drew.alloc (.cells ROW 72)).frozen? x:=fun x=>rfl
 have hF1:∀ x,(((w.alloc (.cells ROW 72)).drew.setCells w.heap.size (k*4) vs).drew).cell? x=((w.drew.alloc (.cells ROW 72)).setCells w.heap.size (k*4) vs).cell? x:=fun x=>rfl
 have hF2:∀ x,(((w.alloc (.cells ROW 72)).drew.setCells w.heap.size (k*4) vs).drew).frozen? x=((w.drew.alloc (.cells ROW 72)).setCells w.heap.size (k*4) vs).frozen? x:=fun x=>rfl
 have hw1:IntKind.i64.wrap ((k:Int)+1)=(k:Int)+1:=by rw [IntKind.wrap_i64];omega
 have hb1:(0:Int)<=(k:Int)+1:=by omega
 have hin:k<=n:=by omega
 have htn:((k:Int)+1).toNat=k+1:=by omega
 have hb3:(k:Int)<=(n:Int):=by omega
 have hb5:(k:Int)+1<=(n:Int)+1:=by omega
 clear hkk hik hold hROW hG hRl
 refine Calls.mono (R:=fun e w'=>e=.returned (.slice (some ⟨w.heap.size,0,none⟩) (n+1) G)/\w'=(((w.alloc (.cells ROW 72)).drew.setCells w.heap.size (k*4) vs).drew.setCells w.heap.size ((k+1)*4) (cs.drop (k*4)))) ?_ fun e w' he=>⟨G,ROW,he.1,hGn,hRs,hRt,he.2⟩
 go_enter Tryz.func101,Tryz.ntmps101
 go_wp2_with (first
  | (at_builtin;refine Lib.wpList_append_run _ rfl _ _ _ _ rfl _ _ rfl rfl _ _ (hrz _) ?_)
  | (at_builtin;refine wpList_copy_runI _ rfl _ _ 26 26 rfl _ _ rfl rfl (hcpA _ hE1 hE2 _ _) ?_)
  | (at_builtin;refine wpList_copy_runI _ rfl _ _ 26 26 rfl _ _ rfl rfl (hcpB _ (fun _=>rfl) (fun _=>rfl) _ _ _) ?_))
 go_region_law_o (refine step_copy_runI rfl _ _ 26 26 rfl (.slice (some ⟨w.heap.size,(k+1)*4,none⟩) (n - k) (G - (k+1))) (.slice (some ⟨b,sh+k*4,none⟩) (n - k) (c - k)) (by simp [Act.eval,Act.put]) (by simp [Act.eval,Act.put]) (hcpB _ hF1 hF2 3 (G - (k+1)) (c - k)) ?_)
 go_wp2
 go_ret
 exact⟨rfl,rfl⟩
theorem yM7:∃ i0 z,Tryz.prog.info? 72=some i0/\i0.size=4/\i0.bytes=40/\i0.zero=some z/\z.cells.size=4:=by
 have hinf:(Tryz.prog.info? 72).map (fun i=>(i.size,i.bytes,i.zero.map (·.cells.size)))=some (4,40,some 4):=by kernel_rfl
 cases h:Tryz.prog.info? 72 with
 | none=>rw [h] at hinf;cases hinf
 | some i =>
  rw [h] at hinf
  simp only [Option.map_some,Option.some.injEq,Prod.mk.injEq] at hinf
  obtain⟨h1,h2,h3⟩:=hinf
  cases hz:i.zero with
  | none=>rw [hz] at h3;cases h3
  | some z=>rw [hz] at h3;exact⟨i,z,rfl,h1,h2,hz,Option.some.inj h3⟩
set_option maxHeartbeats 4000000 in
set_option maxRecDepth 100000 in
theorem yM2 (b sh n c vb vo vc:Nat) (vs:List Value) (w:World) (hroom:n+1<=c) (hn6:n < 1000000) (hvl:vs.length=4)
  (hsp:∀ j,j < 4->(w.cell? ⟨b,sh+n*4+j,none⟩).isSome=true) (hfz:∀ j,j < 4->w.frozen? ⟨b,sh+n*4+j,none⟩=false)
  (hvs:∀ j v,vs[j]?=some v->w.cell? ⟨vb,vo+j,none⟩=some v) (h1v:∀ v∈vs,v.oneCell'=true) :
  Calls Tryz.prog 101 #[.slice (some ⟨b,sh,none⟩) n c,.int .i64 n,.slice (some ⟨vb,vo,none⟩) 1 vc] w fun e w' =>
   e=.returned (.slice (some ⟨b,sh,none⟩) (n+1) c)/\w'=w.setCells b (sh+n*4) vs:=by
 obtain⟨i0,z,hi0,his,hby,hz0,hzs⟩:=yM7
 have mixed:Tryz.prog.follows .mixedOrders=true:=by kernel_rfl
 have hsrc:Src Tryz.prog i0.size 26 (.slice (some ⟨vb,vo,none⟩) 1 vc) 1 vs w:=by
  rw [his]
  exact Src.ofSlice w Tryz.underlying26 ⟨vb,vo,none⟩ 1 vc vs (by omega) (fun j u hj=>by rw [Addr.add_lit];exact hvs j u hj) h1v
 have hrun:∀ ty,(Builtin.append_ #[26,26] ty #[.slice (some ⟨b,sh,none⟩) n c,.slice (some ⟨vb,vo,none⟩) 1 vc]).run Tryz.prog w=.ok (.slice (some ⟨b,sh,none⟩) (n+1) c) (w.setCells b (sh+n*4) vs):=fun ty=>by
  have h:=run_append_room_src (P:=Tryz.prog) w 26 26 ty 72 i0 Tryz.underlying26 hi0 b sh n c _ 1 vs hsrc hroom (by rw [hvl,his];exact hsp) (by rw [hvl,his];exact hfz)
  rw [his] at h
  exact h
 go_enter Tryz.func101,Tryz.ntmps101
 go_wp2_with (at_builtin;refine Lib.wpList_append_run _ rfl _ _ _ _ rfl _ _ rfl rfl _ _ (hrun _) ?_)
 go_ret
 exact⟨rfl,rfl⟩
set_option maxHeartbeats 4000000 in
set_option maxRecDepth 100000 in
theorem yR2 (base:Option Addr) (n c vb vo vc:Nat) (cs vs:List Value) (w:World) (hnc:n<=c) (hroom:c < n+1) (hbig:(n+1)*40<=140737488355328) (hcl:cs.length=n*4) (hvl:vs.length=4) (hnil:base=none->n=0)
  (hcs:∀ a,base=some a->a.spot=none/\∀ j v,cs[j]?=some v->w.cell? (a.add j)=some v)
  (hvs:∀ j v,vs[j]?=some v->w.cell? ⟨vb,vo+j,none⟩=some v) (h1v:∀ v∈vs,v.oneCell'=true) :
  Calls Tryz.prog 101 #[.slice base n c,.int .i64 n,.slice (some ⟨vb,vo,none⟩) 1 vc] w fun e w' =>
   ∃ (G:Nat) (ROW:Array Value),e=.returned (.slice (some ⟨w.heap.size,0,none⟩) (n+1) G)/\n+1<=G/\ROW.size=G*4/\(∀ (j:Nat) (v:Value),(cs++vs)[j]?=some v->ROW[j]?=some v) /\
    w'=w.drew.alloc (.cells ROW 72):=by
 obtain⟨i0,z,hi0,his,hby,hz0,hzs⟩:=yM7
 have mixed:Tryz.prog.follows .mixedOrders=true:=by kernel_rfl
 have hsrc:Src Tryz.prog i0.size 26 (.slice (some ⟨vb,vo,none⟩) 1 vc) 1 vs w:=by
  rw [his]
  exact Src.ofSlice w Tryz.underlying26 ⟨vb,vo,none⟩ 1 vc vs (by omega) (fun j u hj=>by rw [Addr.add_lit];exact hvs j u hj) h1v
 have hold:(Builtin.firstCells i0.size n (.slice base n c)).run Tryz.prog w.drew=.ok cs.toArray w.drew:=by
  rw [his]
  cases base with
  | none =>
   have h0:=hnil rfl
   subst h0
   have hn:cs=[]:=List.eq_nil_of_length_eq_zero (by rw [hcl,Nat.zero_mul])
   subst hn
   exact run_firstCells_none w.drew 4 0 0 c
  | some a=>exact run_firstCells_some w.drew 4 n a n c cs hcl (fun j v hj=>(hcs a rfl).2 j v hj)
 have hrun:∀ ty,(Builtin.append_ #[26,26] ty #[.slice base n c,.slice (some ⟨vb,vo,none⟩) 1 vc]).run Tryz.prog w=_:=fun ty =>
  run_append_grow_src (P:=Tryz.prog) w 26 26 ty 72 i0 _ Tryz.underlying26 hi0 hz0 base n c cs hold _ 1 vs hsrc hroom (by omega) (by rw [hby];exact growslice_fits hroom hbig)
 have hGn:n+1<=grownCap w (n+1) c 72:=grownCap_ge w _ _ _
 obtain⟨ROW,hROW⟩:∃ ROW:Array Value,ROW=(cs++vs).toArray++Builtin.zeroCells z.cells (grownCap w (n+1) c 72 - (n+1)):=⟨_,rfl⟩
 rw [<- hROW] at hrun
 have hrun2:∀ ty,(Builtin.append_ #[26,26] ty #[.slice base n c,.slice (some ⟨vb,vo,none⟩) 1 vc]).run Tryz.prog w=.ok (.slice (some ⟨w.heap.size,0,none⟩) (n+1) (grownCap w (n+1) c 72)) (w.drew.alloc (.cells ROW 72)):=hrun
 refine Calls.mono (R:=fun e w'=>e=.returned (.slice (some ⟨w.heap.size,0,none⟩) (n+1) (grownCap w (n+1) c 72))/\w'=w.drew.alloc (.cells ROW 72)) ?_ fun e w' he=>⟨_,ROW,he.1,hGn,?_,fun j v hj=>?_,he.2⟩
 ·clear hROW hrun hold hsrc hz0 hi0
  go_enter Tryz.func101,Tryz.ntmps101
  cases base with
  | none =>
   have h0:=hnil rfl
   subst h0
   go_wp2_with (at_builtin;refine Lib.wpList_append_run _ rfl _ _ _ _ rfl _ _ rfl rfl _ _ (hrun2 _) ?_)
   all_goals (go_ret;exact⟨rfl,rfl⟩)
  | some a =>
   obtain⟨ab,ao,asp⟩:=a
   have hsp:=(hcs _ rfl).1
   simp only at hsp
   subst hsp
   go_wp2_with (at_builtin;refine Lib.wpList_append_run _ rfl _ _ _ _ rfl _ _ rfl rfl _ _ (hrun2 _) ?_)
   all_goals (go_ret;exact⟨rfl,rfl⟩)
 ·rw [hROW,Array.size_append,size_zeroCells,hzs,List.size_toArray,List.length_append,hcl,hvl]
  rw [Nat.sub_mul]
  omega
 ·have hl:=(List.getElem?_eq_some_iff.1 hj).1
  have hl':j < (cs++vs).toArray.size:=by rw [List.size_toArray];exact hl
  rw [hROW,Array.getElem?_append_left hl',List.getElem?_toArray]
  exact hj
set_option maxHeartbeats 4000000 in
set_option maxRecDepth 100000 in
theorem yB1 (b sh n c k vb vo vc:Nat) (cs vs:List Value) (w:World) (hk:k < n) (hroom:n+1<=c) (hn6:n < 1000000) (hvb:vb≠b) (hcl:cs.length=n*5) (hvl:vs.length=5)
  (hcs:∀ j v,cs[j]?=some v->w.cell? ⟨b,sh+j,none⟩=some v) (hsp:∀ j,j < (n+1)*5->(w.cell? ⟨b,sh+j,none⟩).isSome=true) (hfz:∀ j,j < (n+1)*5->w.frozen? ⟨b,sh+j,none⟩=false)
  (hvs:∀ j v,vs[j]?=some v->w.cell? ⟨vb,vo+j,none⟩=some v) (h1c:∀ v∈cs,v.oneCell'=true) (h1v:∀ v∈vs,v.oneCell'=true)
  (tA tB:TypeId) (kA kB:Nat) (hsa:w.shape? vb=some (tA,kA)) (hsb:w.shape? b=some (tB,kB)) (hkB:kB≠0) (hfa:w.frozen? ⟨vb,vo,none⟩=false) (hfe:w.frozen? ⟨vb,kA,none⟩=false) :
  Calls Tryz.prog 97 #[.slice (some ⟨b,sh,none⟩) n c,.int .i64 k,.slice (some ⟨vb,vo,none⟩) 1 vc] w fun e w' =>
   e=.returned (.slice (some ⟨b,sh,none⟩) (n+1) c)/\w'=(w.drew.setCells b (sh+(k+1)*5) (cs.drop (k*5))).setCells b (sh+k*5) vs:=by
 have hinf:(Tryz.prog.info? 83).map (·.size)=some 5:=by kernel_rfl
 obtain⟨i0,hi0,his⟩:∃ i0,Tryz.prog.info? 83=some i0/\i0.size=5:=by
  cases h:Tryz.prog.info? 83 with
  | none=>rw [h] at hinf;cases hinf
  | some i=>rw [h] at hinf;exact⟨i,rfl,Option.some.inj hinf⟩
 have hz9:∀ w,(Go.sizeOf 83).run Tryz.prog w=.ok 5 w:=fun w=>by simp [sizeOf,typeInfo,hi0,his]
 have hz2:¬ ((k:Int)=(n:Int)):=by omega
 have hov:∀ lb cb,(callFunc 135 #[.slice (some ⟨vb,vo,none⟩) 1 vc,.slice (some ⟨b,sh+(k+1)*5,none⟩) lb cb]).run Tryz.prog w=.ok (.value (.bool false)) w:=fun lb cb=>by
  rw [run_callFunc_extern Tryz.func135 (by kernel_rfl) (by kernel_rfl) (by kernel_rfl) (e:=Extern.SlicesOverlaps.overlaps #[29,29] #[4]) (by kernel_rfl),
   Lib.run_overlaps_apart w 29 4 83 Tryz.underlying29 5 hz9 ⟨vb,vo,none⟩ ⟨b,sh+(k+1)*5,none⟩ 1 vc lb cb hvb tA tB kA kB hsa hsb hkB hfa hfe]
  rfl
 have hdl:(cs.drop (k*5)).length=(n - k)*5:=by rw [List.length_drop,hcl,Nat.sub_mul]
 have hcp1:∀ ty dc sc,(Builtin.copy_ #[29,29] ty #[.slice (some ⟨b,sh+(k+1)*5,none⟩) (n - k) dc,.slice (some ⟨b,sh+k*5,none⟩) (n+1 - k) sc]).run Tryz.prog w.drew=.ok (goInt ((n - k:Nat):Int)) (w.drew.setCells b (sh+(k+1)*5) (cs.drop (k*5))):=fun ty dc sc =>
  zB1 w.drew _ _ ty 83 b (sh+(k+1)*5) (n - k) dc ⟨b,sh+k*5,none⟩ (n+1 - k) sc (n - k) 5 i0 (cs.drop (k*5)) Tryz.underlying29 hi0 his (by simp only [Nat.min_def];split<;>omega) hdl
   (fun j v hj=>by rw [Addr.add_lit,Nat.add_assoc];exact hcs (k*5+j) v (by rwa [List.getElem?_drop] at hj))
   (fun j hj=>by rw [Nat.add_assoc];exact hsp _ (by omega)) (fun j hj=>by rw [Nat.add_assoc];exact hfz _ (by omega)) (fun v hv=>h1c v (List.mem_of_mem_drop hv))
 obtain⟨W1,hW1⟩:∃ W1,W1=w.drew.setCells b (sh+(k+1)*5) (cs.drop (k*5)):=⟨_,rfl⟩
 have hsp1:∀ j,j < (n+1)*5->(W1.cell? ⟨b,sh+j,none⟩).isSome=true:=fun j hj=>by
  rw [hW1]
  exact isSome_setCells b _ _ _ (fun q hq=>by rw [Nat.add_assoc];exact hsp _ (by omega)) _ (hsp j hj)
 have hcp2:∀ (W:World),(∀ x,W.cell? x=W1.cell? x)->(∀ x,W.frozen? x=W1.frozen? x)->∀ ty dc,(Builtin.copy_ #[29,29] ty #[.slice (some ⟨b,sh+k*5,none⟩) (n+1 - k) dc,.slice (some ⟨vb,vo,none⟩) 1 vc]).run Tryz.prog W=.ok (goInt ((1:Nat):Int)) (W.setCells b (sh+k*5) vs):=fun W hWc hWf ty dc =>
  zB1 W _ _ ty 83 b (sh+k*5) (n+1 - k) dc ⟨vb,vo,none⟩ 1 vc 1 5 i0 vs Tryz.underlying29 hi0 his (by simp only [Nat.min_def];split<;>omega) (by omega)
   (fun j v hj=>by
    rw [Addr.add_lit,hWc,hW1,World.cell?_setCells_out b _ _ _ _ (fun h _=>absurd h hvb)]
    exact hvs j v hj)
   (fun j hj=>by rw [hWc,Nat.add_assoc];exact hsp1 _ (by omega)) (fun j hj=>by rw [hWf,hW1,World.frozen?_setCells,Nat.add_assoc];exact hfz _ (by omega)) h1v
 rw [<- hW1] at hcp1
 have hw1:IntKind.i64.wrap ((k:Int)+(1:Int))=(k:Int)+(1:Int):=by rw [IntKind.wrap_i64];omega
 have hin:k<=n:=by omega
 have hb2:¬ (c=k+1):=by omega
 have hb3:(k:Int)<=(n:Int)+(1:Int):=by omega
 have hb4:¬ (c=k):=by omega
 have hb1:(0:Int)<=(k:Int)+1:=by omega
 have hb5:(k:Int)+1<=(n:Int)+1:=by omega
 have htn:((k:Int)+1).toNat=k+1:=by omega
 have htm:((n:Int)+1).toNat=n+1:=by omega
 have mixed:Tryz.prog.follows .mixedOrders=true:=by kernel_rfl
 go_enter Tryz.func97,Tryz.ntmps97
 go_wp2_with (simp only [hov])
 go_region_law_o (refine step_copy_runI rfl _ _ 29 29 rfl _ _ (by simp [Act.eval,Act.put]) (by simp [Act.eval,Act.put]) (hcp1 _ _ _) ?_)
 go_wp2_with (at_builtin;refine wpList_copy_runI _ rfl _ _ 29 29 rfl _ _ rfl rfl (hcp2 _ (fun _=>rfl) (fun _=>rfl) _ _) ?_)
 go_ret
 first | exact⟨rfl,rfl⟩ | exact⟨rfl,by rw [hW1]⟩
set_option maxHeartbeats 4000000 in
set_option maxRecDepth 100000 in
theorem yF9 (b sh n c k vb vo vc:Nat) (cs vs:List Value) (w:World) (hk:k < n) (hnc:n<=c) (hroom:c < n+1) (hbig:(n+1)*40<=140737488355328) (hcl:cs.length=n*5) (hvl:vs.length=5)
  (hcs:∀ j v,cs[j]?=some v->w.cell? ⟨b,sh+j,none⟩=some v)
  (hvs:∀ j v,vs[j]?=some v->w.cell? ⟨vb,vo+j,none⟩=some v) (h1c:∀ v∈cs,v.oneCell'=true) (h1v:∀ v∈vs,v.oneCell'=true) :
  Calls Tryz.prog 97 #[.slice (some ⟨b,sh,none⟩) n c,.int .i64 k,.slice (some ⟨vb,vo,none⟩) 1 vc] w fun e w' =>
   ∃ (G:Nat) (ROW:Array Value),e=.returned (.slice (some ⟨w.heap.size,0,none⟩) (n+1) G)/\n+1<=G/\ROW.size=G*5/\(∀ (j:Nat) (v:Value),(cs.take (k*5))[j]?=some v->ROW[j]?=some v) /\
    w'=(((w.alloc (.cells ROW 83)).drew.setCells w.heap.size (k*5) vs).drew.setCells w.heap.size ((k+1)*5) (cs.drop (k*5))):=by
 have hinf:(Tryz.prog.info? 83).map (fun i=>(i.size,i.bytes,i.zero.map (·.cells.size)))=some (5,40,some 5):=by kernel_rfl
 obtain⟨i0,z,hi0,his,hby,hz0,hzs⟩:∃ i0 z,Tryz.prog.info? 83=some i0/\i0.size=5/\i0.bytes=40/\i0.zero=some z/\z.cells.size=5:=by
  cases h:Tryz.prog.info? 83 with
  | none=>rw [h] at hinf;cases hinf
  | some i =>
   rw [h] at hinf
   simp only [Option.map_some,Option.some.injEq,Prod.mk.injEq] at hinf
   obtain⟨h1,h2,h3⟩:=hinf
   cases hz:i.zero with
   | none=>rw [hz] at h3;cases h3
   | some z=>rw [hz] at h3;exact⟨i,z,rfl,h1,h2,hz,Option.some.inj h3⟩
 have mixed:Tryz.prog.follows .mixedOrders=true:=by kernel_rfl
 have hz2:¬ ((k:Int)=(n:Int)):=by omega
 have hz3:(c:Int) < (n:Int)+1:=by omega
 have hbw:b < w.heap.size:=block_lt_of_cell (hcs 0 _ (List.getElem?_eq_getElem (by omega)))
 have hvw:vb < w.heap.size:=block_lt_of_cell (hvs 0 _ (List.getElem?_eq_getElem (by omega)))
 have hkk:(n:Int)+1 - (k:Int)=((n+1 - k:Nat):Int):=by omega
 have hik:k+(n+1 - k)=n+1:=by omega
 have hold:(Builtin.firstCells i0.size k (.slice (some ⟨b,sh,none⟩) k c)).run Tryz.prog w.drew=.ok (cs.take (k*5)).toArray w.drew:=by
  rw [his]
  exact run_firstCells_some w.drew 5 k ⟨b,sh,none⟩ k c (cs.take (k*5)) (by rw [List.length_take];omega) (fun j v hj=>by
   rw [Addr.add_lit]
   rw [List.getElem?_take] at hj
   split at hj
   ·exact hcs j v hj
   ·cases hj)
 have hrz:∀ ty,(Builtin.append_ #[29,3] ty #[.slice (some ⟨b,sh,none⟩) k c,.int .i64 ((n:Int)+1 - (k:Int))]).run Tryz.prog w =
   .ok (.slice (some ⟨w.heap.size,0,none⟩) (n+1) (grownCap w (n+1) c 83)) (w.drew.alloc (.cells ((cs.take (k*5)).toArray++Builtin.zeroCells z.cells (n+1 - k)++Builtin.zeroCells z.cells (grownCap w (n+1) c 83 - (n+1))) 83)):=fun ty=>by
  have h:=Lib.run_append_grow_zeros w 29 3 ty 83 i0 _ .i64 .i64 Tryz.underlying29 Tryz.underlying3 hi0 hz0 (some ⟨b,sh,none⟩) k c (cs.take (k*5)) hold (n+1 - k) (by omega) (by omega) (by omega) (by omega) (by rw [hby];omega) (by rw [hby,hik];exact growslice_fits hroom hbig)
  rw [hik] at h
  rw [hkk]
  exact h
 have hGn:n+1<=grownCap w (n+1) c 83:=grownCap_ge w _ _ _
 have hG63:grownCap w (n+1) c 83<=9223372036854775807:=by
  have:=grownCap_le_maxLen w (n+1) c 83 (by unfold maxLen;omega)
  unfold maxLen at this
  omega
 obtain⟨G,hG⟩:∃ G,G=grownCap w (n+1) c 83:=⟨_,rfl⟩
 rw [<- hG] at hrz hGn hG63
 obtain⟨ROW,hROW⟩:∃ ROW:Array Value,ROW=(cs.take (k*5)).toArray++Builtin.zeroCells z.cells (n+1 - k)++Builtin.zeroCells z.cells (G - (n+1)):=⟨_,rfl⟩
 rw [<- hROW] at hrz
 have hzc:∀ q,(Builtin.zeroCells z.cells q).size=q*5:=fun q=>by rw [size_zeroCells,hzs]
 have hRs:ROW.size=G*5:=by
  rw [hROW,Array.size_append,Array.size_append,hzc,hzc,List.size_toArray,List.length_take,hcl,Nat.sub_mul,Nat.sub_mul]
  omega
 have hRt:∀ (j:Nat) (v:Value),(cs.take (k*5))[j]?=some v->ROW[j]?=some v:=fun j v hj=>by
  have hl:=(List.getElem?_eq_some_iff.1 hj).1
  rw [hROW,Array.append_assoc,Array.getElem?_append_left (by simpa using hl)]
  simpa using hj
 have hRl:(n+1)*5<=ROW.size:=by rw [hRs];omega
 obtain⟨W1,hW1⟩:∃ W1,W1=w.drew.alloc (.cells ROW 83):=⟨_,rfl⟩
 rw [<- hW1] at hrz
 have hN:∀ j,j < (n+1)*5->(W1.cell? ⟨w.heap.size,j,none⟩).isSome=true:=fun j hj=>by
  rw [hW1,World.cell?_alloc_at (w:=w.drew) ROW _ w.heap.size j rfl,Array.getElem?_eq_getElem (by omega)];rfl
 have hNf:∀ j,W1.frozen? ⟨w.heap.size,j,none⟩=false:=fun j=>by rw [hW1];exact World.frozen?_alloc_at (w:=w.drew) ROW _ w.heap.size j rfl
 have hOb:∀ j v,w.cell? ⟨b,j,none⟩=some v->W1.cell? ⟨b,j,none⟩=some v:=fun j v h=>by rw [hW1,World.cell?_alloc_past (w:=w.drew) _ b j hbw];exact h
 have hOv:∀ j v,w.cell? ⟨vb,j,none⟩=some v->W1.cell? ⟨vb,j,none⟩=some v:=fun j v h=>by rw [hW1,World.cell?_alloc_past (w:=w.drew) _ vb j hvw];exact h
 have hcpA:∀ (W:World),(∀ x,W.cell? x=W1.cell? x)->(∀ x,W.frozen? x=W1.frozen? x)->∀ ty dc,(Builtin.copy_ #[29,29] ty #[.slice (some ⟨w.heap.size,k*5,none⟩) (n+1 - k) dc,.slice (some ⟨vb,vo,none⟩) 1 vc]).run Tryz.prog W=.ok (goInt ((1:Nat):Int)) (W.setCells w.heap.size (k*5) vs):=fun W hWc hWf ty dc =>
  zB1 W _ _ ty 83 w.heap.size (k*5) (n+1 - k) dc ⟨vb,vo,none⟩ 1 vc 1 5 i0 vs Tryz.underlying29 hi0 his (by simp only [Nat.min_def];split<;>omega) (by omega)
   (fun j v hj=>by rw [Addr.add_lit,hWc];exact hOv _ v (hvs j v hj))
   (fun j hj=>by rw [hWc];exact hN _ (by omega)) (fun j hj=>by rw [hWf];exact hNf _) h1v
 have hGi:¬ (G=k):=by omega
 have hGim:¬ (G=k+1):=by omega
 have hci:¬ (c=k):=by omega
 have hbN:b≠w.heap.size:=by omega
 have hdl:(cs.drop (k*5)).length=(n - k)*5:=by rw [List.length_drop,hcl,Nat.sub_mul]
 have hcpB:∀ (W:World),(∀ x,W.cell? x=(W1.setCells w.heap.size (k*5) vs).cell? x)->(∀ x,W.frozen? x=(W1.setCells w.heap.size (k*5) vs).frozen? x)->∀ ty dc sc,(Builtin.copy_ #[29,29] ty #[.slice (some ⟨w.heap.size,(k+1)*5,none⟩) (n - k) dc,.slice (some ⟨b,sh+k*5,none⟩) (n - k) sc]).run Tryz.prog W=.ok (goInt ((n - k:Nat):Int)) (W.setCells w.heap.size ((k+1)*5) (cs.drop (k*5))):=fun W hWc hWf ty dc sc =>
  zB1 W _ _ ty 83 w.heap.size ((k+1)*5) (n - k) dc ⟨b,sh+k*5,none⟩ (n - k) sc (n - k) 5 i0 (cs.drop (k*5)) Tryz.underlying29 hi0 his (by simp only [Nat.min_def];split<;>omega) hdl
   (fun j v hj=>by
    rw [Addr.add_lit,hWc,World.cell?_setCells_out _ _ _ _ _ (fun h _=>absurd h hbN),Nat.add_assoc]
    exact hOb _ v (hcs (k*5+j) v (by rwa [List.getElem?_drop] at hj)))
   (fun j hj=>by rw [hWc];exact isSome_setCells _ _ _ _ (fun t ht=>hN _ (by omega)) _ (hN _ (by omega)))
   (fun j hj=>by rw [hWf,World.frozen?_setCells];exact hNf _) (fun v hv=>h1c v (List.mem_of_mem_drop hv))
 subst hW1
 have hE1:∀ x,((w.alloc (.cells ROW 83)).drew).cell? x=(w.drew.alloc (.cells ROW 83)).cell? x:=fun x=>rfl
 have hE2:∀ x,((w.alloc (.cells ROW 83)).drew).frozen? x=(w.drew.alloc (.cells ROW 83)).frozen? x:=fun x=>rfl
 have hF1:∀ x,(((w.alloc (.cells ROW 83)).drew.setCells w.heap.size (k*5) vs).drew).cell? x=((w.drew.alloc (.cells ROW 83)).setCells w.heap.size (k*5) vs).cell? x:=fun x=>rfl
 have hF2:∀ x,(((w.alloc (.cells ROW 83)).drew.setCells w.heap.size (k*5) vs).drew).frozen? x=((w.drew.alloc (.cells ROW 83)).setCells w.heap.size (k*5) vs).frozen? x:=fun x=>rfl
 have hw1:IntKind.i64.wrap ((k:Int)+1)=(k:Int)+1:=by rw [IntKind.wrap_i64];omega
 have hb1:(0:Int)<=(k:Int)+1:=by omega
 have hin:k<=n:=by omega
 have htn:((k:Int)+1).toNat=k+1:=by omega
 have hb3:(k:Int)<=(n:Int):=by omega
 have hb5:(k:Int)+1<=(n:Int)+1:=by omega
 clear hkk hik hold hROW hG hRl
 refine Calls.mono (R:=fun e w'=>e=.returned (.slice (some ⟨w.heap.size,0,none⟩) (n+1) G)/\w'=(((w.alloc (.cells ROW 83)).drew.setCells w.heap.size (k*5) vs).drew.setCells w.heap.size ((k+1)*5) (cs.drop (k*5)))) ?_ fun e w' he=>⟨G,ROW,he.1,hGn,hRs,hRt,he.2⟩
 go_enter Tryz.func97,Tryz.ntmps97
 go_wp2_with (first
  | (at_builtin;refine Lib.wpList_append_run _ rfl _ _ _ _ rfl _ _ rfl rfl _ _ (hrz _) ?_)
  | (at_builtin;refine wpList_copy_runI _ rfl _ _ 29 29 rfl _ _ rfl rfl (hcpA _ hE1 hE2 _ _) ?_)
  | (at_builtin;refine wpList_copy_runI _ rfl _ _ 29 29 rfl _ _ rfl rfl (hcpB _ (fun _=>rfl) (fun _=>rfl) _ _ _) ?_))
 go_region_law_o (refine step_copy_runI rfl _ _ 29 29 rfl (.slice (some ⟨w.heap.size,(k+1)*5,none⟩) (n - k) (G - (k+1))) (.slice (some ⟨b,sh+k*5,none⟩) (n - k) (c - k)) (by simp [Act.eval,Act.put]) (by simp [Act.eval,Act.put]) (hcpB _ hF1 hF2 3 (G - (k+1)) (c - k)) ?_)
 go_wp2
 go_ret
 exact⟨rfl,rfl⟩
theorem yF0:∃ i0 z,Tryz.prog.info? 83=some i0/\i0.size=5/\i0.bytes=40/\i0.zero=some z/\z.cells.size=5:=by
 have hinf:(Tryz.prog.info? 83).map (fun i=>(i.size,i.bytes,i.zero.map (·.cells.size)))=some (5,40,some 5):=by kernel_rfl
 cases h:Tryz.prog.info? 83 with
 | none=>rw [h] at hinf;cases hinf
 | some i =>
  rw [h] at hinf
  simp only [Option.map_some,Option.some.injEq,Prod.mk.injEq] at hinf
  obtain⟨h1,h2,h3⟩:=hinf
  cases hz:i.zero with
  | none=>rw [hz] at h3;cases h3
  | some z=>rw [hz] at h3;exact⟨i,z,rfl,h1,h2,hz,Option.some.inj h3⟩
set_option maxHeartbeats 4000000 in
set_option maxRecDepth 100000 in
theorem yF7 (b sh n c vb vo vc:Nat) (vs:List Value) (w:World) (hroom:n+1<=c) (hn6:n < 1000000) (hvl:vs.length=5)
  (hsp:∀ j,j < 5->(w.cell? ⟨b,sh+n*5+j,none⟩).isSome=true) (hfz:∀ j,j < 5->w.frozen? ⟨b,sh+n*5+j,none⟩=false)
  (hvs:∀ j v,vs[j]?=some v->w.cell? ⟨vb,vo+j,none⟩=some v) (h1v:∀ v∈vs,v.oneCell'=true) :
  Calls Tryz.prog 97 #[.slice (some ⟨b,sh,none⟩) n c,.int .i64 n,.slice (some ⟨vb,vo,none⟩) 1 vc] w fun e w' =>
   e=.returned (.slice (some ⟨b,sh,none⟩) (n+1) c)/\w'=w.setCells b (sh+n*5) vs:=by
 obtain⟨i0,z,hi0,his,hby,hz0,hzs⟩:=yF0
 have mixed:Tryz.prog.follows .mixedOrders=true:=by kernel_rfl
 have hsrc:Src Tryz.prog i0.size 29 (.slice (some ⟨vb,vo,none⟩) 1 vc) 1 vs w:=by
  rw [his]
  exact Src.ofSlice w Tryz.underlying29 ⟨vb,vo,none⟩ 1 vc vs (by omega) (fun j u hj=>by rw [Addr.add_lit];exact hvs j u hj) h1v
 have hrun:∀ ty,(Builtin.append_ #[29,29] ty #[.slice (some ⟨b,sh,none⟩) n c,.slice (some ⟨vb,vo,none⟩) 1 vc]).run Tryz.prog w=.ok (.slice (some ⟨b,sh,none⟩) (n+1) c) (w.setCells b (sh+n*5) vs):=fun ty=>by
  have h:=run_append_room_src (P:=Tryz.prog) w 29 29 ty 83 i0 Tryz.underlying29 hi0 b sh n c _ 1 vs hsrc hroom (by rw [hvl,his];exact hsp) (by rw [hvl,his];exact hfz)
  rw [his] at h
  exact h
 go_enter Tryz.func97,Tryz.ntmps97
 go_wp2_with (at_builtin;refine Lib.wpList_append_run _ rfl _ _ _ _ rfl _ _ rfl rfl _ _ (hrun _) ?_)
 go_ret
 exact⟨rfl,rfl⟩
set_option maxHeartbeats 4000000 in
set_option maxRecDepth 100000 in
theorem yM4 (base:Option Addr) (n c vb vo vc:Nat) (cs vs:List Value) (w:World) (hnc:n<=c) (hroom:c < n+1) (hbig:(n+1)*40<=140737488355328) (hcl:cs.length=n*5) (hvl:vs.length=5) (hnil:base=none->n=0)
  (hcs:∀ a,base=some a->a.spot=none/\∀ j v,cs[j]?=some v->w.cell? (a.add j)=some v)
  (hvs:∀ j v,vs[j]?=some v->w.cell? ⟨vb,vo+j,none⟩=some v) (h1v:∀ v∈vs,v.oneCell'=true) :
  Calls Tryz.prog 97 #[.slice base n c,.int .i64 n,.slice (some ⟨vb,vo,none⟩) 1 vc] w fun e w' =>
   ∃ (G:Nat) (ROW:Array Value),e=.returned (.slice (some ⟨w.heap.size,0,none⟩) (n+1) G)/\n+1<=G/\ROW.size=G*5/\(∀ (j:Nat) (v:Value),(cs++vs)[j]?=some v->ROW[j]?=some v) /\
    w'=w.drew.alloc (.cells ROW 83):=by
 obtain⟨i0,z,hi0,his,hby,hz0,hzs⟩:=yF0
 have mixed:Tryz.prog.follows .mixedOrders=true:=by kernel_rfl
 have hsrc:Src Tryz.prog i0.size 29 (.slice (some ⟨vb,vo,none⟩) 1 vc) 1 vs w:=by
  rw [his]
  exact Src.ofSlice w Tryz.underlying29 ⟨vb,vo,none⟩ 1 vc vs (by omega) (fun j u hj=>by rw [Addr.add_lit];exact hvs j u hj) h1v
 have hold:(Builtin.firstCells i0.size n (.slice base n c)).run Tryz.prog w.drew=.ok cs.toArray w.drew:=by
  rw [his]
  cases base with
  | none =>
   have h0:=hnil rfl
   subst h0
   have hn:cs=[]:=List.eq_nil_of_length_eq_zero (by rw [hcl,Nat.zero_mul])
   subst hn
   exact run_firstCells_none w.drew 5 0 0 c
  | some a=>exact run_firstCells_some w.drew 5 n a n c cs hcl (fun j v hj=>(hcs a rfl).2 j v hj)
 have hrun:∀ ty,(Builtin.append_ #[29,29] ty #[.slice base n c,.slice (some ⟨vb,vo,none⟩) 1 vc]).run Tryz.prog w=_:=fun ty =>
  run_append_grow_src (P:=Tryz.prog) w 29 29 ty 83 i0 _ Tryz.underlying29 hi0 hz0 base n c cs hold _ 1 vs hsrc hroom (by omega) (by rw [hby];exact growslice_fits hroom hbig)
 have hGn:n+1<=grownCap w (n+1) c 83:=grownCap_ge w _ _ _
 obtain⟨ROW,hROW⟩:∃ ROW:Array Value,ROW=(cs++vs).toArray++Builtin.zeroCells z.cells (grownCap w (n+1) c 83 - (n+1)):=⟨_,rfl⟩
 rw [<- hROW] at hrun
 have hrun2:∀ ty,(Builtin.append_ #[29,29] ty #[.slice base n c,.slice (some ⟨vb,vo,none⟩) 1 vc]).run Tryz.prog w=.ok (.slice (some ⟨w.heap.size,0,none⟩) (n+1) (grownCap w (n+1) c 83)) (w.drew.alloc (.cells ROW 83)):=hrun
 refine Calls.mono (R:=fun e w'=>e=.returned (.slice (some ⟨w.heap.size,0,none⟩) (n+1) (grownCap w (n+1) c 83))/\w'=w.drew.alloc (.cells ROW 83)) ?_ fun e w' he=>⟨_,ROW,he.1,hGn,?_,fun j v hj=>?_,he.2⟩
 ·clear hROW hrun hold hsrc hz0 hi0
  go_enter Tryz.func97,Tryz.ntmps97
  cases base with
  | none =>
   have h0:=hnil rfl
   subst h0
   go_wp2_with (at_builtin;refine Lib.wpList_append_run _ rfl _ _ _ _ rfl _ _ rfl rfl _ _ (hrun2 _) ?_)
   all_goals (go_ret;exact⟨rfl,rfl⟩)
  | some a =>
   obtain⟨ab,ao,asp⟩:=a
   have hsp:=(hcs _ rfl).1
   simp only at hsp
   subst hsp
   go_wp2_with (at_builtin;refine Lib.wpList_append_run _ rfl _ _ _ _ rfl _ _ rfl rfl _ _ (hrun2 _) ?_)
   all_goals (go_ret;exact⟨rfl,rfl⟩)
 ·rw [hROW,Array.size_append,size_zeroCells,hzs,List.size_toArray,List.length_append,hcl,hvl]
  rw [Nat.sub_mul]
  omega
 ·have hl:=(List.getElem?_eq_some_iff.1 hj).1
  have hl':j < (cs++vs).toArray.size:=by rw [List.size_toArray];exact hl
  rw [hROW,Array.getElem?_append_left hl',List.getElem?_toArray]
  exact hj
set_option maxHeartbeats 4000000 in
set_option maxRecDepth 100000 in
theorem yB2 (b sh n c k vb vo vc:Nat) (cs vs:List Value) (w:World) (hk:k < n) (hroom:n+1<=c) (hn6:n < 1000000) (hvb:vb≠b) (hcl:cs.length=n*2) (hvl:vs.length=2)
  (hcs:∀ j v,cs[j]?=some v->w.cell? ⟨b,sh+j,none⟩=some v) (hsp:∀ j,j < (n+1)*2->(w.cell? ⟨b,sh+j,none⟩).isSome=true) (hfz:∀ j,j < (n+1)*2->w.frozen? ⟨b,sh+j,none⟩=false)
  (hvs:∀ j v,vs[j]?=some v->w.cell? ⟨vb,vo+j,none⟩=some v) (h1c:∀ v∈cs,v.oneCell'=true) (h1v:∀ v∈vs,v.oneCell'=true)
  (tA tB:TypeId) (kA kB:Nat) (hsa:w.shape? vb=some (tA,kA)) (hsb:w.shape? b=some (tB,kB)) (hkB:kB≠0) (hfa:w.frozen? ⟨vb,vo,none⟩=false) (hfe:w.frozen? ⟨vb,kA,none⟩=false) :
  Calls Tryz.prog 116 #[.slice (some ⟨b,sh,none⟩) n c,.int .i64 k,.slice (some ⟨vb,vo,none⟩) 1 vc] w fun e w' =>
   e=.returned (.slice (some ⟨b,sh,none⟩) (n+1) c)/\w'=(w.drew.setCells b (sh+(k+1)*2) (cs.drop (k*2))).setCells b (sh+k*2) vs:=by
 have hinf:(Tryz.prog.info? 101).map (·.size)=some 2:=by kernel_rfl
 obtain⟨i0,hi0,his⟩:∃ i0,Tryz.prog.info? 101=some i0/\i0.size=2:=by
  cases h:Tryz.prog.info? 101 with
  | none=>rw [h] at hinf;cases hinf
  | some i=>rw [h] at hinf;exact⟨i,rfl,Option.some.inj hinf⟩
 have hz9:∀ w,(Go.sizeOf 101).run Tryz.prog w=.ok 2 w:=fun w=>by simp [sizeOf,typeInfo,hi0,his]
 have hz2:¬ ((k:Int)=(n:Int)):=by omega
 have hov:∀ lb cb,(callFunc 150 #[.slice (some ⟨vb,vo,none⟩) 1 vc,.slice (some ⟨b,sh+(k+1)*2,none⟩) lb cb]).run Tryz.prog w=.ok (.value (.bool false)) w:=fun lb cb=>by
  rw [run_callFunc_extern Tryz.func150 (by kernel_rfl) (by kernel_rfl) (by kernel_rfl) (e:=Extern.SlicesOverlaps.overlaps #[28,28] #[4]) (by kernel_rfl),
   Lib.run_overlaps_apart w 28 4 101 Tryz.underlying28 2 hz9 ⟨vb,vo,none⟩ ⟨b,sh+(k+1)*2,none⟩ 1 vc lb cb hvb tA tB kA kB hsa hsb hkB hfa hfe]
  rfl
 have hdl:(cs.drop (k*2)).length=(n - k)*2:=by rw [List.length_drop,hcl,Nat.sub_mul]
 have hcp1:∀ ty dc sc,(Builtin.copy_ #[28,28] ty #[.slice (some ⟨b,sh+(k+1)*2,none⟩) (n - k) dc,.slice (some ⟨b,sh+k*2,none⟩) (n+1 - k) sc]).run Tryz.prog w.drew=.ok (goInt ((n - k:Nat):Int)) (w.drew.setCells b (sh+(k+1)*2) (cs.drop (k*2))):=fun ty dc sc =>
  zB1 w.drew _ _ ty 101 b (sh+(k+1)*2) (n - k) dc ⟨b,sh+k*2,none⟩ (n+1 - k) sc (n - k) 2 i0 (cs.drop (k*2)) Tryz.underlying28 hi0 his (by simp only [Nat.min_def];split<;>omega) hdl
   (fun j v hj=>by rw [Addr.add_lit,Nat.add_assoc];exact hcs (k*2+j) v (by rwa [List.getElem?_drop] at hj))
   (fun j hj=>by rw [Nat.add_assoc];exact hsp _ (by omega)) (fun j hj=>by rw [Nat.add_assoc];exact hfz _ (by omega)) (fun v hv=>h1c v (List.mem_of_mem_drop hv))
 obtain⟨W1,hW1⟩:∃ W1,W1=w.drew.setCells b (sh+(k+1)*2) (cs.drop (k*2)):=⟨_,rfl⟩
 have hsp1:∀ j,j < (n+1)*2->(W1.cell? ⟨b,sh+j,none⟩).isSome=true:=fun j hj=>by
  rw [hW1]
  exact isSome_setCells b _ _ _ (fun q hq=>by rw [Nat.add_assoc];exact hsp _ (by omega)) _ (hsp j hj)
 have hcp2:∀ (W:World),(∀ x,W.cell? x=W1.cell? x)->(∀ x,W.frozen? x=W1.frozen? x)->∀ ty dc,(Builtin.copy_ #[28,28] ty #[.slice (some ⟨b,sh+k*2,none⟩) (n+1 - k) dc,.slice (some ⟨vb,vo,none⟩) 1 vc]).run Tryz.prog W=.ok (goInt ((1:Nat):Int)) (W.setCells b (sh+k*2) vs):=fun W hWc hWf ty dc =>
  zB1 W _ _ ty 101 b (sh+k*2) (n+1 - k) dc ⟨vb,vo,none⟩ 1 vc 1 2 i0 vs Tryz.underlying28 hi0 his (by simp only [Nat.min_def];split<;>omega) (by omega)
   (fun j v hj=>by
    rw [Addr.add_lit,hWc,hW1,World.cell?_setCells_out b _ _ _ _ (fun h _=>absurd h hvb)]
    exact hvs j v hj)
   (fun j hj=>by rw [hWc,Nat.add_assoc];exact hsp1 _ (by omega)) (fun j hj=>by rw [hWf,hW1,World.frozen?_setCells,Nat.add_assoc];exact hfz _ (by omega)) h1v
 rw [<- hW1] at hcp1
 have hw1:IntKind.i64.wrap ((k:Int)+(1:Int))=(k:Int)+(1:Int):=by rw [IntKind.wrap_i64];omega
 have hin:k<=n:=by omega
 have hb2:¬ (c=k+1):=by omega
 have hb3:(k:Int)<=(n:Int)+(1:Int):=by omega
 have hb4:¬ (c=k):=by omega
 have hb1:(0:Int)<=(k:Int)+1:=by omega
 have hb5:(k:Int)+1<=(n:Int)+1:=by omega
 have htn:((k:Int)+1).toNat=k+1:=by omega
 have htm:((n:Int)+1).toNat=n+1:=by omega
 have mixed:Tryz.prog.follows .mixedOrders=true:=by kernel_rfl
 go_enter Tryz.func116,Tryz.ntmps116
 go_wp2_with (simp only [hov])
 go_region_law_o (refine step_copy_runI rfl _ _ 28 28 rfl _ _ (by simp [Act.eval,Act.put]) (by simp [Act.eval,Act.put]) (hcp1 _ _ _) ?_)
 go_wp2_with (at_builtin;refine wpList_copy_runI _ rfl _ _ 28 28 rfl _ _ rfl rfl (hcp2 _ (fun _=>rfl) (fun _=>rfl) _ _) ?_)
 go_ret
 first | exact⟨rfl,rfl⟩ | exact⟨rfl,by rw [hW1]⟩
set_option maxHeartbeats 4000000 in
set_option maxRecDepth 100000 in
theorem yG0 (b sh n c k vb vo vc:Nat) (cs vs:List Value) (w:World) (hk:k < n) (hnc:n<=c) (hroom:c < n+1) (hbig:(n+1)*24<=140737488355328) (hcl:cs.length=n*2) (hvl:vs.length=2)
  (hcs:∀ j v,cs[j]?=some v->w.cell? ⟨b,sh+j,none⟩=some v)
  (hvs:∀ j v,vs[j]?=some v->w.cell? ⟨vb,vo+j,none⟩=some v) (h1c:∀ v∈cs,v.oneCell'=true) (h1v:∀ v∈vs,v.oneCell'=true) :
  Calls Tryz.prog 116 #[.slice (some ⟨b,sh,none⟩) n c,.int .i64 k,.slice (some ⟨vb,vo,none⟩) 1 vc] w fun e w' =>
   ∃ (G:Nat) (ROW:Array Value),e=.returned (.slice (some ⟨w.heap.size,0,none⟩) (n+1) G)/\n+1<=G/\ROW.size=G*2/\(∀ (j:Nat) (v:Value),(cs.take (k*2))[j]?=some v->ROW[j]?=some v) /\
    w'=(((w.alloc (.cells ROW 101)).drew.setCells w.heap.size (k*2) vs).drew.setCells w.heap.size ((k+1)*2) (cs.drop (k*2))):=by
 have hinf:(Tryz.prog.info? 101).map (fun i=>(i.size,i.bytes,i.zero.map (·.cells.size)))=some (2,24,some 2):=by kernel_rfl
 obtain⟨i0,z,hi0,his,hby,hz0,hzs⟩:∃ i0 z,Tryz.prog.info? 101=some i0/\i0.size=2/\i0.bytes=24/\i0.zero=some z/\z.cells.size=2:=by
  cases h:Tryz.prog.info? 101 with
  | none=>rw [h] at hinf;cases hinf
  | some i =>
   rw [h] at hinf
   simp only [Option.map_some,Option.some.injEq,Prod.mk.injEq] at hinf
   obtain⟨h1,h2,h3⟩:=hinf
   cases hz:i.zero with
   | none=>rw [hz] at h3;cases h3
   | some z=>rw [hz] at h3;exact⟨i,z,rfl,h1,h2,hz,Option.some.inj h3⟩
 have mixed:Tryz.prog.follows .mixedOrders=true:=by kernel_rfl
 have hz2:¬ ((k:Int)=(n:Int)):=by omega
 have hz3:(c:Int) < (n:Int)+1:=by omega
 have hbw:b < w.heap.size:=block_lt_of_cell (hcs 0 _ (List.getElem?_eq_getElem (by omega)))
 have hvw:vb < w.heap.size:=block_lt_of_cell (hvs 0 _ (List.getElem?_eq_getElem (by omega)))
 have hkk:(n:Int)+1 - (k:Int)=((n+1 - k:Nat):Int):=by omega
 have hik:k+(n+1 - k)=n+1:=by omega
 have hold:(Builtin.firstCells i0.size k (.slice (some ⟨b,sh,none⟩) k c)).run Tryz.prog w.drew=.ok (cs.take (k*2)).toArray w.drew:=by
  rw [his]
  exact run_firstCells_some w.drew 2 k ⟨b,sh,none⟩ k c (cs.take (k*2)) (by rw [List.length_take];omega) (fun j v hj=>by
   rw [Addr.add_lit]
   rw [List.getElem?_take] at hj
   split at hj
   ·exact hcs j v hj
   ·cases hj)
 have hrz:∀ ty,(Builtin.append_ #[28,3] ty #[.slice (some ⟨b,sh,none⟩) k c,.int .i64 ((n:Int)+1 - (k:Int))]).run Tryz.prog w =
   .ok (.slice (some ⟨w.heap.size,0,none⟩) (n+1) (grownCap w (n+1) c 101)) (w.drew.alloc (.cells ((cs.take (k*2)).toArray++Builtin.zeroCells z.cells (n+1 - k)++Builtin.zeroCells z.cells (grownCap w (n+1) c 101 - (n+1))) 101)):=fun ty=>by
  have h:=Lib.run_append_grow_zeros w 28 3 ty 101 i0 _ .i64 .i64 Tryz.underlying28 Tryz.underlying3 hi0 hz0 (some ⟨b,sh,none⟩) k c (cs.take (k*2)) hold (n+1 - k) (by omega) (by omega) (by omega) (by omega) (by rw [hby];omega) (by rw [hby,hik];exact growslice_fits hroom hbig)
  rw [hik] at h
  rw [hkk]
  exact h
 have hGn:n+1<=grownCap w (n+1) c 101:=grownCap_ge w _ _ _
 have hG63:grownCap w (n+1) c 101<=9223372036854775807:=by
  have:=grownCap_le_maxLen w (n+1) c 101 (by unfold maxLen;omega)
  unfold maxLen at this
  omega
 obtain⟨G,hG⟩:∃ G,G=grownCap w (n+1) c 101:=⟨_,rfl⟩
 rw [<- hG] at hrz hGn hG63
 obtain⟨ROW,hROW⟩:∃ ROW:Array Value,ROW=(cs.take (k*2)).toArray++Builtin.zeroCells z.cells (n+1 - k)++Builtin.zeroCells z.cells (G - (n+1)):=⟨_,rfl⟩
 rw [<- hROW] at hrz
 have hzc:∀ q,(Builtin.zeroCells z.cells q).size=q*2:=fun q=>by rw [size_zeroCells,hzs]
 have hRs:ROW.size=G*2:=by
  rw [hROW,Array.size_append,Array.size_append,hzc,hzc,List.size_toArray,List.length_take,hcl,Nat.sub_mul,Nat.sub_mul]
  omega
 have hRt:∀ (j:Nat) (v:Value),(cs.take (k*2))[j]?=some v->ROW[j]?=some v:=fun j v hj=>by
  have hl:=(List.getElem?_eq_some_iff.1 hj).1
  rw [hROW,Array.append_assoc,Array.getElem?_append_left (by simpa using hl)]
  simpa using hj
 have hRl:(n+1)*2<=ROW.size:=by rw [hRs];omega
 obtain⟨W1,hW1⟩:∃ W1,W1=w.drew.alloc (.cells ROW 101):=⟨_,rfl⟩
 rw [<- hW1] at hrz
 have hN:∀ j,j < (n+1)*2->(W1.cell? ⟨w.heap.size,j,none⟩).isSome=true:=fun j hj=>by
  rw [hW1,World.cell?_alloc_at (w:=w.drew) ROW _ w.heap.size j rfl,Array.getElem?_eq_getElem (by omega)];rfl
 have hNf:∀ j,W1.frozen? ⟨w.heap.size,j,none⟩=false:=fun j=>by rw [hW1];exact World.frozen?_alloc_at (w:=w.drew) ROW _ w.heap.size j rfl
 have hOb:∀ j v,w.cell? ⟨b,j,none⟩=some v->W1.cell? ⟨b,j,none⟩=some v:=fun j v h=>by rw [hW1,World.cell?_alloc_past (w:=w.drew) _ b j hbw];exact h
 have hOv:∀ j v,w.cell? ⟨vb,j,none⟩=some v->W1.cell? ⟨vb,j,none⟩=some v:=fun j v h=>by rw [hW1,World.cell?_alloc_past (w:=w.drew) _ vb j hvw];exact h
 have hcpA:∀ (W:World),(∀ x,W.cell? x=W1.cell? x)->(∀ x,W.frozen? x=W1.frozen? x)->∀ ty dc,(Builtin.copy_ #[28,28] ty #[.slice (some ⟨w.heap.size,k*2,none⟩) (n+1 - k) dc,.slice (some ⟨vb,vo,none⟩) 1 vc]).run Tryz.prog W=.ok (goInt ((1:Nat):Int)) (W.setCells w.heap.size (k*2) vs):=fun W hWc hWf ty dc =>
  zB1 W _ _ ty 101 w.heap.size (k*2) (n+1 - k) dc ⟨vb,vo,none⟩ 1 vc 1 2 i0 vs Tryz.underlying28 hi0 his (by simp only [Nat.min_def];split<;>omega) (by omega)
   (fun j v hj=>by rw [Addr.add_lit,hWc];exact hOv _ v (hvs j v hj))
   (fun j hj=>by rw [hWc];exact hN _ (by omega)) (fun j hj=>by rw [hWf];exact hNf _) h1v
 have hGi:¬ (G=k):=by omega
 have hGim:¬ (G=k+1):=by omega
 have hci:¬ (c=k):=by omega
 have hbN:b≠w.heap.size:=by omega
 have hdl:(cs.drop (k*2)).length=(n - k)*2:=by rw [List.length_drop,hcl,Nat.sub_mul]
 have hcpB:∀ (W:World),(∀ x,W.cell? x=(W1.setCells w.heap.size (k*2) vs).cell? x)->(∀ x,W.frozen? x=(W1.setCells w.heap.size (k*2) vs).frozen? x)->∀ ty dc sc,(Builtin.copy_ #[28,28] ty #[.slice (some ⟨w.heap.size,(k+1)*2,none⟩) (n - k) dc,.slice (some ⟨b,sh+k*2,none⟩) (n - k) sc]).run Tryz.prog W=.ok (goInt ((n - k:Nat):Int)) (W.setCells w.heap.size ((k+1)*2) (cs.drop (k*2))):=fun W hWc hWf ty dc sc =>
  zB1 W _ _ ty 101 w.heap.size ((k+1)*2) (n - k) dc ⟨b,sh+k*2,none⟩ (n - k) sc (n - k) 2 i0 (cs.drop (k*2)) Tryz.underlying28 hi0 his (by simp only [Nat.min_def];split<;>omega) hdl
   (fun j v hj=>by
    rw [Addr.add_lit,hWc,World.cell?_setCells_out _ _ _ _ _ (fun h _=>absurd h hbN),Nat.add_assoc]
    exact hOb _ v (hcs (k*2+j) v (by rwa [List.getElem?_drop] at hj)))
   (fun j hj=>by rw [hWc];exact isSome_setCells _ _ _ _ (fun t ht=>hN _ (by omega)) _ (hN _ (by omega)))
   (fun j hj=>by rw [hWf,World.frozen?_setCells];exact hNf _) (fun v hv=>h1c v (List.mem_of_mem_drop hv))
 subst hW1
 have hE1:∀ x,((w.alloc (.cells ROW 101)).drew).cell? x=(w.drew.alloc (.cells ROW 101)).cell? x:=fun x=>rfl
 have hE2:∀ x,((w.alloc (.cells ROW 101)).drew).frozen? x=(w.drew.alloc (.cells ROW 101)).frozen? x:=fun x=>rfl
 have hF1:∀ x,(((w.alloc (.cells ROW 101)).drew.setCells w.heap.size (k*2) vs).drew).cell? x=((w.drew.alloc (.cells ROW 101)).setCells w.heap.size (k*2) vs).cell? x:=fun x=>rfl
 have hF2:∀ x,(((w.alloc (.cells ROW 101)).drew.setCells w.heap.size (k*2) vs).drew).frozen? x=((w.drew.alloc (.cells ROW 101)).setCells w.heap.size (k*2) vs).frozen? x:=fun x=>rfl
 have hw1:IntKind.i64.wrap ((k:Int)+1)=(k:Int)+1:=by rw [IntKind.wrap_i64];omega
 have hb1:(0:Int)<=(k:Int)+1:=by omega
 have hin:k<=n:=by omega
 have htn:((k:Int)+1).toNat=k+1:=by omega
 have hb3:(k:Int)<=(n:Int):=by omega
 have hb5:(k:Int)+1<=(n:Int)+1:=by omega
 clear hkk hik hold hROW hG hRl
 refine Calls.mono (R:=fun e w'=>e=.returned (.slice (some ⟨w.heap.size,0,none⟩) (n+1) G)/\w'=(((w.alloc (.cells ROW 101)).drew.setCells w.heap.size (k*2) vs).drew.setCells w.heap.size ((k+1)*2) (cs.drop (k*2)))) ?_ fun e w' he=>⟨G,ROW,he.1,hGn,hRs,hRt,he.2⟩
 go_enter Tryz.func116,Tryz.ntmps116
 go_wp2_with (first
  | (at_builtin;refine Lib.wpList_append_run _ rfl _ _ _ _ rfl _ _ rfl rfl _ _ (hrz _) ?_)
  | (at_builtin;refine wpList_copy_runI _ rfl _ _ 28 28 rfl _ _ rfl rfl (hcpA _ hE1 hE2 _ _) ?_)
  | (at_builtin;refine wpList_copy_runI _ rfl _ _ 28 28 rfl _ _ rfl rfl (hcpB _ (fun _=>rfl) (fun _=>rfl) _ _ _) ?_))
 go_region_law_o (refine step_copy_runI rfl _ _ 28 28 rfl (.slice (some ⟨w.heap.size,(k+1)*2,none⟩) (n - k) (G - (k+1))) (.slice (some ⟨b,sh+k*2,none⟩) (n - k) (c - k)) (by simp [Act.eval,Act.put]) (by simp [Act.eval,Act.put]) (hcpB _ hF1 hF2 3 (G - (k+1)) (c - k)) ?_)
 go_wp2
 go_ret
 exact⟨rfl,rfl⟩
theorem yF1:∃ i0 z,Tryz.prog.info? 101=some i0/\i0.size=2/\i0.bytes=24/\i0.zero=some z/\z.cells.size=2:=by
 have hinf:(Tryz.prog.info? 101).map (fun i=>(i.size,i.bytes,i.zero.map (·.cells.size)))=some (2,24,some 2):=by kernel_rfl
 cases h:Tryz.prog.info? 101 with
 | none=>rw [h] at hinf;cases hinf
 | some i =>
  rw [h] at hinf
  simp only [Option.map_some,Option.some.injEq,Prod.mk.injEq] at hinf
  obtain⟨h1,h2,h3⟩:=hinf
  cases hz:i.zero with
  | none=>rw [hz] at h3;cases h3
  | some z=>rw [hz] at h3;exact⟨i,z,rfl,h1,h2,hz,Option.some.inj h3⟩
set_option maxHeartbeats 4000000 in
set_option maxRecDepth 100000 in
theorem yF8 (b sh n c vb vo vc:Nat) (vs:List Value) (w:World) (hroom:n+1<=c) (hn6:n < 1000000) (hvl:vs.length=2)
  (hsp:∀ j,j < 2->(w.cell? ⟨b,sh+n*2+j,none⟩).isSome=true) (hfz:∀ j,j < 2->w.frozen? ⟨b,sh+n*2+j,none⟩=false)
  (hvs:∀ j v,vs[j]?=some v->w.cell? ⟨vb,vo+j,none⟩=some v) (h1v:∀ v∈vs,v.oneCell'=true) :
  Calls Tryz.prog 116 #[.slice (some ⟨b,sh,none⟩) n c,.int .i64 n,.slice (some ⟨vb,vo,none⟩) 1 vc] w fun e w' =>
   e=.returned (.slice (some ⟨b,sh,none⟩) (n+1) c)/\w'=w.setCells b (sh+n*2) vs:=by
 obtain⟨i0,z,hi0,his,hby,hz0,hzs⟩:=yF1
 have mixed:Tryz.prog.follows .mixedOrders=true:=by kernel_rfl
 have hsrc:Src Tryz.prog i0.size 28 (.slice (some ⟨vb,vo,none⟩) 1 vc) 1 vs w:=by
  rw [his]
  exact Src.ofSlice w Tryz.underlying28 ⟨vb,vo,none⟩ 1 vc vs (by omega) (fun j u hj=>by rw [Addr.add_lit];exact hvs j u hj) h1v
 have hrun:∀ ty,(Builtin.append_ #[28,28] ty #[.slice (some ⟨b,sh,none⟩) n c,.slice (some ⟨vb,vo,none⟩) 1 vc]).run Tryz.prog w=.ok (.slice (some ⟨b,sh,none⟩) (n+1) c) (w.setCells b (sh+n*2) vs):=fun ty=>by
  have h:=run_append_room_src (P:=Tryz.prog) w 28 28 ty 101 i0 Tryz.underlying28 hi0 b sh n c _ 1 vs hsrc hroom (by rw [hvl,his];exact hsp) (by rw [hvl,his];exact hfz)
  rw [his] at h
  exact h
 go_enter Tryz.func116,Tryz.ntmps116
 go_wp2_with (at_builtin;refine Lib.wpList_append_run _ rfl _ _ _ _ rfl _ _ rfl rfl _ _ (hrun _) ?_)
 go_ret
 exact⟨rfl,rfl⟩
set_option maxHeartbeats 4000000 in
set_option maxRecDepth 100000 in
theorem yM5 (base:Option Addr) (n c vb vo vc:Nat) (cs vs:List Value) (w:World) (hnc:n<=c) (hroom:c < n+1) (hbig:(n+1)*24<=140737488355328) (hcl:cs.length=n*2) (hvl:vs.length=2) (hnil:base=none->n=0)
  (hcs:∀ a,base=some a->a.spot=none/\∀ j v,cs[j]?=some v->w.cell? (a.add j)=some v)
  (hvs:∀ j v,vs[j]?=some v->w.cell? ⟨vb,vo+j,none⟩=some v) (h1v:∀ v∈vs,v.oneCell'=true) :
  Calls Tryz.prog 116 #[.slice base n c,.int .i64 n,.slice (some ⟨vb,vo,none⟩) 1 vc] w fun e w' =>
   ∃ (G:Nat) (ROW:Array Value),e=.returned (.slice (some ⟨w.heap.size,0,none⟩) (n+1) G)/\n+1<=G/\ROW.size=G*2/\(∀ (j:Nat) (v:Value),(cs++vs)[j]?=some v->ROW[j]?=some v) /\
    w'=w.drew.alloc (.cells ROW 101):=by
 obtain⟨i0,z,hi0,his,hby,hz0,hzs⟩:=yF1
 have mixed:Tryz.prog.follows .mixedOrders=true:=by kernel_rfl
 have hsrc:Src Tryz.prog i0.size 28 (.slice (some ⟨vb,vo,none⟩) 1 vc) 1 vs w:=by
  rw [his]
  exact Src.ofSlice w Tryz.underlying28 ⟨vb,vo,none⟩ 1 vc vs (by omega) (fun j u hj=>by rw [Addr.add_lit];exact hvs j u hj) h1v
 have hold:(Builtin.firstCells i0.size n (.slice base n c)).run Tryz.prog w.drew=.ok cs.toArray w.drew:=by
  rw [his]
  cases base with
  | none =>
   have h0:=hnil rfl
   subst h0
   have hn:cs=[]:=List.eq_nil_of_length_eq_zero (by rw [hcl,Nat.zero_mul])
   subst hn
   exact run_firstCells_none w.drew 2 0 0 c
  | some a=>exact run_firstCells_some w.drew 2 n a n c cs hcl (fun j v hj=>(hcs a rfl).2 j v hj)
 have hrun:∀ ty,(Builtin.append_ #[28,28] ty #[.slice base n c,.slice (some ⟨vb,vo,none⟩) 1 vc]).run Tryz.prog w=_:=fun ty =>
  run_append_grow_src (P:=Tryz.prog) w 28 28 ty 101 i0 _ Tryz.underlying28 hi0 hz0 base n c cs hold _ 1 vs hsrc hroom (by omega) (by rw [hby];exact growslice_fits hroom hbig)
 have hGn:n+1<=grownCap w (n+1) c 101:=grownCap_ge w _ _ _
 obtain⟨ROW,hROW⟩:∃ ROW:Array Value,ROW=(cs++vs).toArray++Builtin.zeroCells z.cells (grownCap w (n+1) c 101 - (n+1)):=⟨_,rfl⟩
 rw [<- hROW] at hrun
 have hrun2:∀ ty,(Builtin.append_ #[28,28] ty #[.slice base n c,.slice (some ⟨vb,vo,none⟩) 1 vc]).run Tryz.prog w=.ok (.slice (some ⟨w.heap.size,0,none⟩) (n+1) (grownCap w (n+1) c 101)) (w.drew.alloc (.cells ROW 101)):=hrun
 refine Calls.mono (R:=fun e w'=>e=.returned (.slice (some ⟨w.heap.size,0,none⟩) (n+1) (grownCap w (n+1) c 101))/\w'=w.drew.alloc (.cells ROW 101)) ?_ fun e w' he=>⟨_,ROW,he.1,hGn,?_,fun j v hj=>?_,he.2⟩
 ·clear hROW hrun hold hsrc hz0 hi0
  go_enter Tryz.func116,Tryz.ntmps116
  cases base with
  | none =>
   have h0:=hnil rfl
   subst h0
   go_wp2_with (at_builtin;refine Lib.wpList_append_run _ rfl _ _ _ _ rfl _ _ rfl rfl _ _ (hrun2 _) ?_)
   all_goals (go_ret;exact⟨rfl,rfl⟩)
  | some a =>
   obtain⟨ab,ao,asp⟩:=a
   have hsp:=(hcs _ rfl).1
   simp only at hsp
   subst hsp
   go_wp2_with (at_builtin;refine Lib.wpList_append_run _ rfl _ _ _ _ rfl _ _ rfl rfl _ _ (hrun2 _) ?_)
   all_goals (go_ret;exact⟨rfl,rfl⟩)
 ·rw [hROW,Array.size_append,size_zeroCells,hzs,List.size_toArray,List.length_append,hcl,hvl]
  rw [Nat.sub_mul]
  omega
 ·have hl:=(List.getElem?_eq_some_iff.1 hj).1
  have hl':j < (cs++vs).toArray.size:=by rw [List.size_toArray];exact hl
  rw [hROW,Array.getElem?_append_left hl',List.getElem?_toArray]
  exact hj
set_option maxHeartbeats 4000000 in
set_option maxRecDepth 100000 in
theorem yR1 (b sh n c k vb vo vc:Nat) (cs vs:List Value) (w:World) (hk:k < n) (hroom:n+1<=c) (hn6:n < 1000000) (hvb:vb≠b) (hcl:cs.length=n*4) (hvl:vs.length=4)
  (hcs:∀ j v,cs[j]?=some v->w.cell? ⟨b,sh+j,none⟩=some v) (hsp:∀ j,j < (n+1)*4->(w.cell? ⟨b,sh+j,none⟩).isSome=true) (hfz:∀ j,j < (n+1)*4->w.frozen? ⟨b,sh+j,none⟩=false)
  (hvs:∀ j v,vs[j]?=some v->w.cell? ⟨vb,vo+j,none⟩=some v) (h1c:∀ v∈cs,v.oneCell'=true) (h1v:∀ v∈vs,v.oneCell'=true)
  (tA tB:TypeId) (kA kB:Nat) (hsa:w.shape? vb=some (tA,kA)) (hsb:w.shape? b=some (tB,kB)) (hkB:kB≠0) (hfa:w.frozen? ⟨vb,vo,none⟩=false) (hfe:w.frozen? ⟨vb,kA,none⟩=false) :
  Calls Tryz.prog 178 #[.slice (some ⟨b,sh,none⟩) n c,.int .i64 k,.slice (some ⟨vb,vo,none⟩) 1 vc] w fun e w' =>
   e=.returned (.slice (some ⟨b,sh,none⟩) (n+1) c)/\w'=(w.drew.setCells b (sh+(k+1)*4) (cs.drop (k*4))).setCells b (sh+k*4) vs:=by
 have hinf:(Tryz.prog.info? 141).map (·.size)=some 4:=by kernel_rfl
 obtain⟨i0,hi0,his⟩:∃ i0,Tryz.prog.info? 141=some i0/\i0.size=4:=by
  cases h:Tryz.prog.info? 141 with
  | none=>rw [h] at hinf;cases hinf
  | some i=>rw [h] at hinf;exact⟨i,rfl,Option.some.inj hinf⟩
 have hz9:∀ w,(Go.sizeOf 141).run Tryz.prog w=.ok 4 w:=fun w=>by simp [sizeOf,typeInfo,hi0,his]
 have hz2:¬ ((k:Int)=(n:Int)):=by omega
 have hov:∀ lb cb,(callFunc 209 #[.slice (some ⟨vb,vo,none⟩) 1 vc,.slice (some ⟨b,sh+(k+1)*4,none⟩) lb cb]).run Tryz.prog w=.ok (.value (.bool false)) w:=fun lb cb=>by
  rw [run_callFunc_extern Tryz.func209 (by kernel_rfl) (by kernel_rfl) (by kernel_rfl) (e:=Extern.SlicesOverlaps.overlaps #[75,75] #[4]) (by kernel_rfl),
   Lib.run_overlaps_apart w 75 4 141 Tryz.underlying75 4 hz9 ⟨vb,vo,none⟩ ⟨b,sh+(k+1)*4,none⟩ 1 vc lb cb hvb tA tB kA kB hsa hsb hkB hfa hfe]
  rfl
 have hdl:(cs.drop (k*4)).length=(n - k)*4:=by rw [List.length_drop,hcl,Nat.sub_mul]
 have hcp1:∀ ty dc sc,(Builtin.copy_ #[75,75] ty #[.slice (some ⟨b,sh+(k+1)*4,none⟩) (n - k) dc,.slice (some ⟨b,sh+k*4,none⟩) (n+1 - k) sc]).run Tryz.prog w.drew=.ok (goInt ((n - k:Nat):Int)) (w.drew.setCells b (sh+(k+1)*4) (cs.drop (k*4))):=fun ty dc sc =>
  zB1 w.drew _ _ ty 141 b (sh+(k+1)*4) (n - k) dc ⟨b,sh+k*4,none⟩ (n+1 - k) sc (n - k) 4 i0 (cs.drop (k*4)) Tryz.underlying75 hi0 his (by simp only [Nat.min_def];split<;>omega) hdl
   (fun j v hj=>by rw [Addr.add_lit,Nat.add_assoc];exact hcs (k*4+j) v (by rwa [List.getElem?_drop] at hj))
   (fun j hj=>by rw [Nat.add_assoc];exact hsp _ (by omega)) (fun j hj=>by rw [Nat.add_assoc];exact hfz _ (by omega)) (fun v hv=>h1c v (List.mem_of_mem_drop hv))
 obtain⟨W1,hW1⟩:∃ W1,W1=w.drew.setCells b (sh+(k+1)*4) (cs.drop (k*4)):=⟨_,rfl⟩
 have hsp1:∀ j,j < (n+1)*4->(W1.cell? ⟨b,sh+j,none⟩).isSome=true:=fun j hj=>by
  rw [hW1]
  exact isSome_setCells b _ _ _ (fun q hq=>by rw [Nat.add_assoc];exact hsp _ (by omega)) _ (hsp j hj)
 have hcp2:∀ (W:World),(∀ x,W.cell? x=W1.cell? x)->(∀ x,W.frozen? x=W1.frozen? x)->∀ ty dc,(Builtin.copy_ #[75,75] ty #[.slice (some ⟨b,sh+k*4,none⟩) (n+1 - k) dc,.slice (some ⟨vb,vo,none⟩) 1 vc]).run Tryz.prog W=.ok (goInt ((1:Nat):Int)) (W.setCells b (sh+k*4) vs):=fun W hWc hWf ty dc =>
  zB1 W _ _ ty 141 b (sh+k*4) (n+1 - k) dc ⟨vb,vo,none⟩ 1 vc 1 4 i0 vs Tryz.underlying75 hi0 his (by simp only [Nat.min_def];split<;>omega) (by omega)
   (fun j v hj=>by
    rw [Addr.add_lit,hWc,hW1,World.cell?_setCells_out b _ _ _ _ (fun h _=>absurd h hvb)]
    exact hvs j v hj)
   (fun j hj=>by rw [hWc,Nat.add_assoc];exact hsp1 _ (by omega)) (fun j hj=>by rw [hWf,hW1,World.frozen?_setCells,Nat.add_assoc];exact hfz _ (by omega)) h1v
 rw [<- hW1] at hcp1
 have hw1:IntKind.i64.wrap ((k:Int)+(1:Int))=(k:Int)+(1:Int):=by rw [IntKind.wrap_i64];omega
 have hin:k<=n:=by omega
 have hb2:¬ (c=k+1):=by omega
 have hb3:(k:Int)<=(n:Int)+(1:Int):=by omega
 have hb4:¬ (c=k):=by omega
 have hb1:(0:Int)<=(k:Int)+1:=by omega
 have hb5:(k:Int)+1<=(n:Int)+1:=by omega
 have htn:((k:Int)+1).toNat=k+1:=by omega
 have htm:((n:Int)+1).toNat=n+1:=by omega
 have mixed:Tryz.prog.follows .mixedOrders=true:=by kernel_rfl
 go_enter Tryz.func178,Tryz.ntmps178
 go_wp2_with (simp only [hov])
 go_region_law_o (refine step_copy_runI rfl _ _ 75 75 rfl _ _ (by simp [Act.eval,Act.put]) (by simp [Act.eval,Act.put]) (hcp1 _ _ _) ?_)
 go_wp2_with (at_builtin;refine wpList_copy_runI _ rfl _ _ 75 75 rfl _ _ rfl rfl (hcp2 _ (fun _=>rfl) (fun _=>rfl) _ _) ?_)
 go_ret
 first | exact⟨rfl,rfl⟩ | exact⟨rfl,by rw [hW1]⟩
set_option maxHeartbeats 4000000 in
set_option maxRecDepth 100000 in
theorem xA4 (b sh n c k vb vo vc:Nat) (cs vs:List Value) (w:World) (hk:k < n) (hnc:n<=c) (hroom:c < n+1) (hbig:(n+1)*40<=140737488355328) (hcl:cs.length=n*4) (hvl:vs.length=4)
  (hcs:∀ j v,cs[j]?=some v->w.cell? ⟨b,sh+j,none⟩=some v)
  (hvs:∀ j v,vs[j]?=some v->w.cell? ⟨vb,vo+j,none⟩=some v) (h1c:∀ v∈cs,v.oneCell'=true) (h1v:∀ v∈vs,v.oneCell'=true) :
  Calls Tryz.prog 178 #[.slice (some ⟨b,sh,none⟩) n c,.int .i64 k,.slice (some ⟨vb,vo,none⟩) 1 vc] w fun e w' =>
   ∃ (G:Nat) (ROW:Array Value),e=.returned (.slice (some ⟨w.heap.size,0,none⟩) (n+1) G)/\n+1<=G/\ROW.size=G*4/\(∀ (j:Nat) (v:Value),(cs.take (k*4))[j]?=some v->ROW[j]?=some v) /\
    w'=(((w.alloc (.cells ROW 141)).drew.setCells w.heap.size (k*4) vs).drew.setCells w.heap.size ((k+1)*4) (cs.drop (k*4))):=by
 have hinf:(Tryz.prog.info? 141).map (fun i=>(i.size,i.bytes,i.zero.map (·.cells.size)))=some (4,40,some 4):=by kernel_rfl
 obtain⟨i0,z,hi0,his,hby,hz0,hzs⟩:∃ i0 z,Tryz.prog.info? 141=some i0/\i0.size=4/\i0.bytes=40/\i0.zero=some z/\z.cells.size=4:=by
  cases h:Tryz.prog.info? 141 with
  | none=>rw [h] at hinf;cases hinf
  | some i =>
   rw [h] at hinf
   simp only [Option.map_some,Option.some.injEq,Prod.mk.injEq] at hinf
   obtain⟨h1,h2,h3⟩:=hinf
   cases hz:i.zero with
   | none=>rw [hz] at h3;cases h3
   | some z=>rw [hz] at h3;exact⟨i,z,rfl,h1,h2,hz,Option.some.inj h3⟩
 have mixed:Tryz.prog.follows .mixedOrders=true:=by kernel_rfl
 have hz2:¬ ((k:Int)=(n:Int)):=by omega
 have hz3:(c:Int) < (n:Int)+1:=by omega
 have hbw:b < w.heap.size:=block_lt_of_cell (hcs 0 _ (List.getElem?_eq_getElem (by omega)))
 have hvw:vb < w.heap.size:=block_lt_of_cell (hvs 0 _ (List.getElem?_eq_getElem (by omega)))
 have hkk:(n:Int)+1 - (k:Int)=((n+1 - k:Nat):Int):=by omega
 have hik:k+(n+1 - k)=n+1:=by omega
 have hold:(Builtin.firstCells i0.size k (.slice (some ⟨b,sh,none⟩) k c)).run Tryz.prog w.drew=.ok (cs.take (k*4)).toArray w.drew:=by
  rw [his]
  exact run_firstCells_some w.drew 4 k ⟨b,sh,none⟩ k c (cs.take (k*4)) (by rw [List.length_take];omega) (fun j v hj=>by
   rw [Addr.add_lit]
   rw [List.getElem?_take] at hj
   split at hj
   ·exact hcs j v hj
   ·cases hj)
 have hrz:∀ ty,(Builtin.append_ #[75,3] ty #[.slice (some ⟨b,sh,none⟩) k c,.int .i64 ((n:Int)+1 - (k:Int))]).run Tryz.prog w =
   .ok (.slice (some ⟨w.heap.size,0,none⟩) (n+1) (grownCap w (n+1) c 141)) (w.drew.alloc (.cells ((cs.take (k*4)).toArray++Builtin.zeroCells z.cells (n+1 - k)++Builtin.zeroCells z.cells (grownCap w (n+1) c 141 - (n+1))) 141)):=fun ty=>by
  have h:=Lib.run_append_grow_zeros w 75 3 ty 141 i0 _ .i64 .i64 Tryz.underlying75 Tryz.underlying3 hi0 hz0 (some ⟨b,sh,none⟩) k c (cs.take (k*4)) hold (n+1 - k) (by omega) (by omega) (by omega) (by omega) (by rw [hby];omega) (by rw [hby,hik];exact growslice_fits hroom hbig)
  rw [hik] at h
  rw [hkk]
  exact h
 have hGn:n+1<=grownCap w (n+1) c 141:=grownCap_ge w _ _ _
 have hG63:grownCap w (n+1) c 141<=9223372036854775807:=by
  have:=grownCap_le_maxLen w (n+1) c 141 (by unfold maxLen;omega)
  unfold maxLen at this
  omega
 obtain⟨G,hG⟩:∃ G,G=grownCap w (n+1) c 141:=⟨_,rfl⟩
 rw [<- hG] at hrz hGn hG63
 obtain⟨ROW,hROW⟩:∃ ROW:Array Value,ROW=(cs.take (k*4)).toArray++Builtin.zeroCells z.cells (n+1 - k)++Builtin.zeroCells z.cells (G - (n+1)):=⟨_,rfl⟩
 rw [<- hROW] at hrz
 have hzc:∀ q,(Builtin.zeroCells z.cells q).size=q*4:=fun q=>by rw [size_zeroCells,hzs]
 have hRs:ROW.size=G*4:=by
  rw [hROW,Array.size_append,Array.size_append,hzc,hzc,List.size_toArray,List.length_take,hcl,Nat.sub_mul,Nat.sub_mul]
  omega
 have hRt:∀ (j:Nat) (v:Value),(cs.take (k*4))[j]?=some v->ROW[j]?=some v:=fun j v hj=>by
  have hl:=(List.getElem?_eq_some_iff.1 hj).1
  rw [hROW,Array.append_assoc,Array.getElem?_append_left (by simpa using hl)]
  simpa using hj
 have hRl:(n+1)*4<=ROW.size:=by rw [hRs];omega
 obtain⟨W1,hW1⟩:∃ W1,W1=w.drew.alloc (.cells ROW 141):=⟨_,rfl⟩
 rw [<- hW1] at hrz
 have hN:∀ j,j < (n+1)*4->(W1.cell? ⟨w.heap.size,j,none⟩).isSome=true:=fun j hj=>by
  rw [hW1,World.cell?_alloc_at (w:=w.drew) ROW _ w.heap.size j rfl,Array.getElem?_eq_getElem (by omega)];rfl
 have hNf:∀ j,W1.frozen? ⟨w.heap.size,j,none⟩=false:=fun j=>by rw [hW1];exact World.frozen?_alloc_at (w:=w.drew) ROW _ w.heap.size j rfl
 have hOb:∀ j v,w.cell? ⟨b,j,none⟩=some v->W1.cell? ⟨b,j,none⟩=some v:=fun j v h=>by rw [hW1,World.cell?_alloc_past (w:=w.drew) _ b j hbw];exact h
 have hOv:∀ j v,w.cell? ⟨vb,j,none⟩=some v->W1.cell? ⟨vb,j,none⟩=some v:=fun j v h=>by rw [hW1,World.cell?_alloc_past (w:=w.drew) _ vb j hvw];exact h
 have hcpA:∀ (W:World),(∀ x,W.cell? x=W1.cell? x)->(∀ x,W.frozen? x=W1.frozen? x)->∀ ty dc,(Builtin.copy_ #[75,75] ty #[.slice (some ⟨w.heap.size,k*4,none⟩) (n+1 - k) dc,.slice (some ⟨vb,vo,none⟩) 1 vc]).run Tryz.prog W=.ok (goInt ((1:Nat):Int)) (W.setCells w.heap.size (k*4) vs):=fun W hWc hWf ty dc =>
  zB1 W _ _ ty 141 w.heap.size (k*4) (n+1 - k) dc ⟨vb,vo,none⟩ 1 vc 1 4 i0 vs Tryz.underlying75 hi0 his (by simp only [Nat.min_def];split<;>omega) (by omega)
   (fun j v hj=>by rw [Addr.add_lit,hWc];exact hOv _ v (hvs j v hj))
   (fun j hj=>by rw [hWc];exact hN _ (by omega)) (fun j hj=>by rw [hWf];exact hNf _) h1v
 have hGi:¬ (G=k):=by omega
 have hGim:¬ (G=k+1):=by omega
 have hci:¬ (c=k):=by omega
 have hbN:b≠w.heap.size:=by omega
 have hdl:(cs.drop (k*4)).length=(n - k)*4:=by rw [List.length_drop,hcl,Nat.sub_mul]
 have hcpB:∀ (W:World),(∀ x,W.cell? x=(W1.setCells w.heap.size (k*4) vs).cell? x)->(∀ x,W.frozen? x=(W1.setCells w.heap.size (k*4) vs).frozen? x)->∀ ty dc sc,(Builtin.copy_ #[75,75] ty #[.slice (some ⟨w.heap.size,(k+1)*4,none⟩) (n - k) dc,.slice (some ⟨b,sh+k*4,none⟩) (n - k) sc]).run Tryz.prog W=.ok (goInt ((n - k:Nat):Int)) (W.setCells w.heap.size ((k+1)*4) (cs.drop (k*4))):=fun W hWc hWf ty dc sc =>
  zB1 W _ _ ty 141 w.heap.size ((k+1)*4) (n - k) dc ⟨b,sh+k*4,none⟩ (n - k) sc (n - k) 4 i0 (cs.drop (k*4)) Tryz.underlying75 hi0 his (by simp only [Nat.min_def];split<;>omega) hdl
   (fun j v hj=>by
    rw [Addr.add_lit,hWc,World.cell?_setCells_out _ _ _ _ _ (fun h _=>absurd h hbN),Nat.add_assoc]
    exact hOb _ v (hcs (k*4+j) v (by rwa [List.getElem?_drop] at hj)))
   (fun j hj=>by rw [hWc];exact isSome_setCells _ _ _ _ (fun t ht=>hN _ (by omega)) _ (hN _ (by omega)))
   (fun j hj=>by rw [hWf,World.frozen?_setCells];exact hNf _) (fun v hv=>h1c v (List.mem_of_mem_drop hv))
 subst hW1
 have hE1:∀ x,((w.alloc (.cells ROW 141)).drew).cell? x=(w.drew.alloc (.cells ROW 141)).cell? x:=fun x=>rfl
 have hE2:∀ x,((w.alloc (.cells ROW 141)).drew).frozen? x=(w.drew.alloc (.cells ROW 141)).frozen? x:=fun x=>rfl
 have hF1:∀ x,(((w.alloc (.cells ROW 141)).drew.setCells w.heap.size (k*4) vs).drew).cell? x=((w.drew.alloc (.cells ROW 141)).setCells w.heap.size (k*4) vs).cell? x:=fun x=>rfl
 have hF2:∀ x,(((w.alloc (.cells ROW 141)).drew.setCells w.heap.size (k*4) vs).drew).frozen? x=((w.drew.alloc (.cells ROW 141)).setCells w.heap.size (k*4) vs).frozen? x:=fun x=>rfl
 have hw1:IntKind.i64.wrap ((k:Int)+1)=(k:Int)+1:=by rw [IntKind.wrap_i64];omega
 have hb1:(0:Int)<=(k:Int)+1:=by omega
 have hin:k<=n:=by omega
 have htn:((k:Int)+1).toNat=k+1:=by omega
 have hb3:(k:Int)<=(n:Int):=by omega
 have hb5:(k:Int)+1<=(n:Int)+1:=by omega
 clear hkk hik hold hROW hG hRl
 refine Calls.mono (R:=fun e w'=>e=.returned (.slice (some ⟨w.heap.size,0,none⟩) (n+1) G)/\w'=(((w.alloc (.cells ROW 141)).drew.setCells w.heap.size (k*4) vs).drew.setCells w.heap.size ((k+1)*4) (cs.drop (k*4)))) ?_ fun e w' he=>⟨G,ROW,he.1,hGn,hRs,hRt,he.2⟩
 go_enter Tryz.func178,Tryz.ntmps178
 go_wp2_with (first
  | (at_builtin;refine Lib.wpList_append_run _ rfl _ _ _ _ rfl _ _ rfl rfl _ _ (hrz _) ?_)
  | (at_builtin;refine wpList_copy_runI _ rfl _ _ 75 75 rfl _ _ rfl rfl (hcpA _ hE1 hE2 _ _) ?_)
  | (at_builtin;refine wpList_copy_runI _ rfl _ _ 75 75 rfl _ _ rfl rfl (hcpB _ (fun _=>rfl) (fun _=>rfl) _ _ _) ?_))
 go_region_law_o (refine step_copy_runI rfl _ _ 75 75 rfl (.slice (some ⟨w.heap.size,(k+1)*4,none⟩) (n - k) (G - (k+1))) (.slice (some ⟨b,sh+k*4,none⟩) (n - k) (c - k)) (by simp [Act.eval,Act.put]) (by simp [Act.eval,Act.put]) (hcpB _ hF1 hF2 3 (G - (k+1)) (c - k)) ?_)
 go_wp2
 go_ret
 exact⟨rfl,rfl⟩
theorem xO9:∃ i0 z,Tryz.prog.info? 141=some i0/\i0.size=4/\i0.bytes=40/\i0.zero=some z/\z.cells.size=4:=by
 have hinf:(Tryz.prog.info? 141).map (fun i=>(i.size,i.bytes,i.zero.map (·.cells.size)))=some (4,40,some 4):=by kernel_rfl
 cases h:Tryz.prog.info? 141 with
 | none=>rw [h] at hinf;cases hinf
 | some i =>
  rw [h] at hinf
  simp only [Option.map_some,Option.some.injEq,Prod.mk.injEq] at hinf
  obtain⟨h1,h2,h3⟩:=hinf
  cases hz:i.zero with
  | none=>rw [hz] at h3;cases h3
  | some z=>rw [hz] at h3;exact⟨i,z,rfl,h1,h2,hz,Option.some.inj h3⟩
set_option maxHeartbeats 4000000 in
set_option maxRecDepth 100000 in
theorem xA2 (b sh n c vb vo vc:Nat) (vs:List Value) (w:World) (hroom:n+1<=c) (hn6:n < 1000000) (hvl:vs.length=4)
  (hsp:∀ j,j < 4->(w.cell? ⟨b,sh+n*4+j,none⟩).isSome=true) (hfz:∀ j,j < 4->w.frozen? ⟨b,sh+n*4+j,none⟩=false)
  (hvs:∀ j v,vs[j]?=some v->w.cell? ⟨vb,vo+j,none⟩=some v) (h1v:∀ v∈vs,v.oneCell'=true) :
  Calls Tryz.prog 178 #[.slice (some ⟨b,sh,none⟩) n c,.int .i64 n,.slice (some ⟨vb,vo,none⟩) 1 vc] w fun e w' =>
   e=.returned (.slice (some ⟨b,sh,none⟩) (n+1) c)/\w'=w.setCells b (sh+n*4) vs:=by
 obtain⟨i0,z,hi0,his,hby,hz0,hzs⟩:=xO9
 have mixed:Tryz.prog.follows .mixedOrders=true:=by kernel_rfl
 have hsrc:Src Tryz.prog i0.size 75 (.slice (some ⟨vb,vo,none⟩) 1 vc) 1 vs w:=by
  rw [his]
  exact Src.ofSlice w Tryz.underlying75 ⟨vb,vo,none⟩ 1 vc vs (by omega) (fun j u hj=>by rw [Addr.add_lit];exact hvs j u hj) h1v
 have hrun:∀ ty,(Builtin.append_ #[75,75] ty #[.slice (some ⟨b,sh,none⟩) n c,.slice (some ⟨vb,vo,none⟩) 1 vc]).run Tryz.prog w=.ok (.slice (some ⟨b,sh,none⟩) (n+1) c) (w.setCells b (sh+n*4) vs):=fun ty=>by
  have h:=run_append_room_src (P:=Tryz.prog) w 75 75 ty 141 i0 Tryz.underlying75 hi0 b sh n c _ 1 vs hsrc hroom (by rw [hvl,his];exact hsp) (by rw [hvl,his];exact hfz)
  rw [his] at h
  exact h
 go_enter Tryz.func178,Tryz.ntmps178
 go_wp2_with (at_builtin;refine Lib.wpList_append_run _ rfl _ _ _ _ rfl _ _ rfl rfl _ _ (hrun _) ?_)
 go_ret
 exact⟨rfl,rfl⟩
set_option maxHeartbeats 4000000 in
set_option maxRecDepth 100000 in
theorem xO4 (base:Option Addr) (n c vb vo vc:Nat) (cs vs:List Value) (w:World) (hnc:n<=c) (hroom:c < n+1) (hbig:(n+1)*40<=140737488355328) (hcl:cs.length=n*4) (hvl:vs.length=4) (hnil:base=none->n=0)
  (hcs:∀ a,base=some a->a.spot=none/\∀ j v,cs[j]?=some v->w.cell? (a.add j)=some v)
  (hvs:∀ j v,vs[j]?=some v->w.cell? ⟨vb,vo+j,none⟩=some v) (h1v:∀ v∈vs,v.oneCell'=true) :
  Calls Tryz.prog 178 #[.slice base n c,.int .i64 n,.slice (some ⟨vb,vo,none⟩) 1 vc] w fun e w' =>
   ∃ (G:Nat) (ROW:Array Value),e=.returned (.slice (some ⟨w.heap.size,0,none⟩) (n+1) G)/\n+1<=G/\ROW.size=G*4/\(∀ (j:Nat) (v:Value),(cs++vs)[j]?=some v->ROW[j]?=some v) /\
    w'=w.drew.alloc (.cells ROW 141):=by
 obtain⟨i0,z,hi0,his,hby,hz0,hzs⟩:=xO9
 have mixed:Tryz.prog.follows .mixedOrders=true:=by kernel_rfl
 have hsrc:Src Tryz.prog i0.size 75 (.slice (some ⟨vb,vo,none⟩) 1 vc) 1 vs w:=by
  rw [his]
  exact Src.ofSlice w Tryz.underlying75 ⟨vb,vo,none⟩ 1 vc vs (by omega) (fun j u hj=>by rw [Addr.add_lit];exact hvs j u hj) h1v
 have hold:(Builtin.firstCells i0.size n (.slice base n c)).run Tryz.prog w.drew=.ok cs.toArray w.drew:=by
  rw [his]
  cases base with
  | none =>
   have h0:=hnil rfl
   subst h0
   have hn:cs=[]:=List.eq_nil_of_length_eq_zero (by rw [hcl,Nat.zero_mul])
   subst hn
   exact run_firstCells_none w.drew 4 0 0 c
  | some a=>exact run_firstCells_some w.drew 4 n a n c cs hcl (fun j v hj=>(hcs a rfl).2 j v hj)
 have hrun:∀ ty,(Builtin.append_ #[75,75] ty #[.slice base n c,.slice (some ⟨vb,vo,none⟩) 1 vc]).run Tryz.prog w=_:=fun ty =>
  run_append_grow_src (P:=Tryz.prog) w 75 75 ty 141 i0 _ Tryz.underlying75 hi0 hz0 base n c cs hold _ 1 vs hsrc hroom (by omega) (by rw [hby];exact growslice_fits hroom hbig)
 have hGn:n+1<=grownCap w (n+1) c 141:=grownCap_ge w _ _ _
 obtain⟨ROW,hROW⟩:∃ ROW:Array Value,ROW=(cs++vs).toArray++Builtin.zeroCells z.cells (grownCap w (n+1) c 141 - (n+1)):=⟨_,rfl⟩
 rw [<- hROW] at hrun
 have hrun2:∀ ty,(Builtin.append_ #[75,75] ty #[.slice base n c,.slice (some ⟨vb,vo,none⟩) 1 vc]).run Tryz.prog w=.ok (.slice (some ⟨w.heap.size,0,none⟩) (n+1) (grownCap w (n+1) c 141)) (w.drew.alloc (.cells ROW 141)):=hrun
 refine Calls.mono (R:=fun e w'=>e=.returned (.slice (some ⟨w.heap.size,0,none⟩) (n+1) (grownCap w (n+1) c 141))/\w'=w.drew.alloc (.cells ROW 141)) ?_ fun e w' he=>⟨_,ROW,he.1,hGn,?_,fun j v hj=>?_,he.2⟩
 ·clear hROW hrun hold hsrc hz0 hi0
  go_enter Tryz.func178,Tryz.ntmps178
  cases base with
  | none =>
   have h0:=hnil rfl
   subst h0
   go_wp2_with (at_builtin;refine Lib.wpList_append_run _ rfl _ _ _ _ rfl _ _ rfl rfl _ _ (hrun2 _) ?_)
   all_goals (go_ret;exact⟨rfl,rfl⟩)
  | some a =>
   obtain⟨ab,ao,asp⟩:=a
   have hsp:=(hcs _ rfl).1
   simp only at hsp
   subst hsp
   go_wp2_with (at_builtin;refine Lib.wpList_append_run _ rfl _ _ _ _ rfl _ _ rfl rfl _ _ (hrun2 _) ?_)
   all_goals (go_ret;exact⟨rfl,rfl⟩)
 ·rw [hROW,Array.size_append,size_zeroCells,hzs,List.size_toArray,List.length_append,hcl,hvl]
  rw [Nat.sub_mul]
  omega
 ·have hl:=(List.getElem?_eq_some_iff.1 hj).1
  have hl':j < (cs++vs).toArray.size:=by rw [List.size_toArray];exact hl
  rw [hROW,Array.getElem?_append_left hl',List.getElem?_toArray]
  exact hj
end Go.Proofs.YtpccdcnjkknmkaaGreatDoor.Ev
namespace Go.Proofs.YtpccdcnjkknmkaaGreatDoor.Ev
open Go
theorem vN3:InsC Tryz.prog 104 5 48 41:=⟨yR0,xA3,xA1,xO3⟩
theorem xX0:InsC Tryz.prog 101 4 40 72:=⟨yF6,yM3,yM2,yR2⟩
theorem xO5:InsC Tryz.prog 97 5 40 83:=⟨yB1,yF9,yF7,yM4⟩
theorem xO6:InsC Tryz.prog 116 2 24 101:=⟨yB2,yG0,yF8,yM5⟩
theorem vN4:InsC Tryz.prog 178 4 40 141:=⟨yR1,xA4,xA2,xO4⟩
theorem wJ5 {ρ:Ren} {w:World} {m:Mem} {T N:Nat} {t:LTy} {v:Elem t} {j off bz vb shv Kv:Nat} {cs:List AV} {op:Bool} (hm:MI ρ w m T N) (hT:T.testBit j=true) (hB:m.at j=some ⟨.raw cs,bz,op⟩)
  (hd:dec t ((cs.drop off).take (wd t))=some v) (hr:ρ j=some (vb,shv,Kv)) :
  ∃ vs:List Value,VRs ρ (enc t v) vs/\vs.length=wd t/\(∀ q u,vs[q]?=some u->w.cell? ⟨vb,shv+off+q,none⟩=some u)/\∀ u∈vs,u.oneCell'=true:=by
 have he:=zK7 hd
 have hl:((cs.drop off).take (wd t)).length=wd t:=by rw [<- he,zF8]
 have hl2:wd t<=(cs.drop off).length:=by rw [List.length_take] at hl;omega
 obtain⟨V,hV,hc⟩:=yA3 (hm.mem j _ hT hB) hr (off:=off) (cs:=(cs.drop off).take (wd t)) hl fun q hq=>by
  have h1:((cs.drop off).take (wd t))[q]?=cs[off+q]?:=by rw [List.getElem?_take_of_lt hq,List.getElem?_drop]
  have h2:off+q < cs.length:=by rw [List.length_drop] at hl2;omega
  exact⟨cs[off+q],List.getElem?_eq_getElem h2,by rw [h1];exact List.getElem?_eq_getElem h2⟩
 rw [<- he] at hV
 exact⟨V,hV,by rw [<- hV.1,zF8],hc,zU8 hV (wK9 t v)⟩
theorem wK7 (t:LTy) (v:Elem t):flat t [v]=enc t v:=by show enc t v++[]=_;rw [List.append_nil]
theorem vC8 {ρ:Ren} {w w':World} {m m0:Mem} {T N G:Nat} {t:LTy} {l:List (Elem t)} {xs:List Value} {C:Array Value} {te:TypeId} (hm:MI ρ w m T N) (hN:m.nx+1<=N) (hv:VRs ρ (flat t l) xs) (hG:l.length<=G) (hC:C.size=G*wd t)
  (hc:∀ (j:Nat) (u:Value),xs[j]?=some u->C[j]?=some u) (hh:w'.heap[w.heap.size]?=some (.cells C te (0,0))) (hs:w.heap.size<=w'.heap.size) (ho:∀ x,x < w.heap.size->w'.heap[x]?=w.heap[x]?) (hout:Out w w')
  (hn0:m.nx=m0.nx) (ha:∀ q B,m.at q=some B->m0.at q=some B) :
  ∃ ρ' u,VR ρ' (.so m.nx (wd t) 0 l.length) u/\u=.slice (some ⟨w.heap.size,0,none⟩) l.length G/\MI ρ' w' (m.new ⟨.ls t l,wd t,true⟩) T N/\CS ρ ρ' w w' m0 (m.new ⟨.ls t l,wd t,true⟩):=by
 have hfr:ρ m.nx=none:=hm.fresh _ (Nat.le_refl _) hN
 obtain⟨h1,h2⟩:=uS1 (B':=⟨.ls t l,wd t,true⟩) (sh:=0) (K:=G) hm hN hs ho ⟨w.heap.size,0,G,C,te,(0,0),upd_same _ _ _,hh,wR2,fun j x hx=>by
  obtain⟨y,hy1,hy2⟩:=hv.get (show (flat t l)[j]?=some x from hx)
  exact⟨y,by rw [Nat.zero_add];exact hc j y hy1,hy2.mono (yR7 _ hfr)⟩,fun _=>by
  show (flat t l).length<=_/\_
  rw [zB5,hC,Nat.zero_add]
  exact⟨Nat.mul_le_mul_right _ hG,Nat.le_refl _⟩⟩ hout
 refine⟨_,_,?_,rfl,h1,zY8 h2 hn0 ha⟩
 have:=VR.so (ρ:=ρ.upd m.nx (w.heap.size,0,G)) (i:=m.nx) (esz:=wd t) (off:=0) (len:=l.length) (upd_same _ _ _) (by omega)
 simpa using this
theorem wE2 {ρ:Ren} {w w':World} {m m0:Mem} {T N K b sh i:Nat} {t:LTy} {B:Blk} {l:List (Elem t)} {xs:List Value} {C C':Array Value} {te:TypeId} {fz:Nat × Nat} (hm:MI ρ w m T N) (hN:m.nx+1<=N) (hT:T.testBit i=true) (hB:m.at i=some B) (hri:ρ i=some (b,sh,K))
  (hv:VRs ρ (flat t l) xs) (hK:l.length<=K) (hfz:∀ o,o < C.size∨wd t≠1->¬ (fz.1<=o/\o < fz.2)) (hh':w'.heap[b]?=some (.cells C' te fz)) (hsz:C'.size=C.size) (hroom:sh+K*wd t<=C.size)
  (hc:∀ (j:Nat) (u:Value),xs[j]?=some u->C'[sh+j]?=some u) (hs:w'.heap.size=w.heap.size) (ho:∀ x,x≠b->w'.heap[x]?=w.heap[x]?) (hout:Out w w') (hn0:m.nx=m0.nx) (ha:∀ q B,m.at q=some B->m0.at q=some B) :
  ∃ ρ' u,VR ρ' (.so m.nx (wd t) 0 l.length) u/\u=.slice (some ⟨b,sh,none⟩) l.length K/\MI ρ' w' ((m.del i).new ⟨.ls t l,wd t,true⟩) T N/\CS ρ ρ' w w' m0 ((m.del i).new ⟨.ls t l,wd t,true⟩):=by
 have hfr:ρ m.nx=none:=hm.fresh _ (Nat.le_refl _) hN
 obtain⟨h1,h2⟩:=vI3 (B':=⟨.ls t l,wd t,true⟩) (b:=b) (sh:=sh) (K:=K) hm hN hT hB (by simp [Ren.blk,hri]) hs ho ⟨b,sh,K,C',te,fz,upd_same _ _ _,hh',by rw [hsz];exact hfz,fun j x hx=>by
  obtain⟨y,hy1,hy2⟩:=hv.get (show (flat t l)[j]?=some x from hx)
  exact⟨y,hc j y hy1,hy2.mono (yR7 _ hfr)⟩,fun _=>by
  show (flat t l).length<=_/\_
  rw [zB5,hsz]
  exact⟨Nat.mul_le_mul_right _ hK,hroom⟩⟩ hout
 refine⟨_,_,?_,rfl,h1,zY8 h2 hn0 ha⟩
 have:=VR.so (ρ:=ρ.upd m.nx (b,sh,K)) (i:=m.nx) (esz:=wd t) (off:=0) (len:=l.length) (upd_same _ _ _) (by omega)
 simpa using this
theorem yI2 {ρ:Ren} {a b c:AV} {ys:List Value} (h:VRs ρ [a,b,c] ys):∃ x y z,ys=[x,y,z]/\VR ρ a x/\VR ρ b y/\VR ρ c z:=by
 obtain⟨x,ys',rfl,h1,h2⟩:=h.cons_inv
 obtain⟨y,z,rfl,h3,h4⟩:=zZ7 h2
 exact⟨x,y,z,rfl,h1,h3,h4⟩
theorem zQ6 {P : Program} {cl : ClS} {f : FuncId} {t : LTy} {nb : Nat} {te : TypeId} (hcl : zA1 P cl) (hfn : ∃ fn, P.funcs[f]? = some fn ∧ (fn.name == "runtime.NumGoroutine") = false ∧ fn.body.isNone = false)
  (hC:InsC P f (wd t) nb te) (hw:1 < wd t) (hnb:nb<=4096):zA1 P (addI f t cl):=by
 intro g xs m r' m' hr
 rcases zS4 hr with⟨rfl,ho⟩ | hr
 ·clear hr
  unfold insG at ho
  split at ho<;>first | (cases ho;done) | skip
  rename_i x k j off
  obtain⟨B,hB,ho1⟩:=zD0 ho
  clear ho
  split at ho1<;>first | (cases ho1;done) | skip
  rename_i cs bz op
  cases hbz:Nat.beq bz 1 with
  | true=>rw [hbz] at ho1;cases ho1
  | false =>
   rw [hbz,cond_false] at ho1
   split at ho1<;>first | (cases ho1;done) | skip
   ·split at ho1<;>first | (cases ho1;done) | skip
    rename_i v hd
    rw [zE8] at ho1
    simp only [Option.some.injEq,Prod.mk.injEq] at ho1
    obtain⟨hk,rfl,rfl⟩:=ho1
    rw [zC5,decide_eq_true_eq] at hk
    subst hk
    refine⟨(zE4 m j).trans (zH5 _ _),hfn,fun ρ w T N ys hT hN hv hm=>?_⟩
    obtain⟨y0,y1,y2,rfl,h0,h1,h2⟩:=yI2 hv
    cases h0
    cases h1
    cases h2 with
    | sl len cap hr =>
     rename_i vb shv Kv
     have hTj:T.testBit j=true:=hT j ((zH5 _ _).tch j (bit_or.2 (.inr rfl)))
     obtain⟨vs,e1,e2,e3,e4⟩:=wJ5 hm hTj hB hd hr
     refine (hC.fin none 0 0 vb (shv+off) 1 [] vs w (Nat.le_refl _) (by omega) (by omega) (by simp) e2 (fun _=>rfl) (fun a ha=>by cases ha) e3 e4).mono fun e w' he=>?_
     obtain⟨G,ROW,rfl,g1,g2,g3,rfl⟩:=he
     obtain⟨ρ',u,q1,rfl,q3,q4⟩:=vC8 (te:=te) (C:=ROW) (m:=m.touch j) (m0:=m) (t:=t) (l:=[v]) (w':=w.drew.alloc (.cells ROW te)) (zH8 hm j) hN (by rw [wK7];exact e1) g1 g2 (fun q u hq=>g3 q u (by rw [List.nil_append];exact hq)) (by
      show (w.heap.push _)[w.heap.size]?=_;simp) (by show _<=(w.heap.push _).size;simp) (fun x hx=>by show (w.heap.push _)[x]?=_;rw [Array.getElem?_push,if_neg (Nat.ne_of_lt hx)]) ⟨rfl,rfl,rfl⟩ rfl (fun _ _ h=>h)
     exact⟨ρ',_,rfl,q1,q3,q4⟩
   ·rename_i i e off' len
    obtain⟨C,hC',ho⟩:=zD0 ho1
    clear ho1
    split at ho<;>first | (cases ho;done) | skip
    rename_i t' l ez
    split at ho<;>first | (cases ho;done) | skip
    rename_i v hd
    cases hcd:Nat.beq e (wd t')&&(Nat.beq off' 0&&(Nat.beq ez (wd t')&&Nat.beq (wd t') (wd t))) with
    | false=>rw [hcd] at ho;cases ho
    | true =>
     rw [hcd,cond_true] at ho
     simp only [Bool.and_eq_true] at hcd
     obtain⟨a1,a2,a3,a4⟩:=hcd
     have a1:=beqN.1 a1
     have a2:=beqN.1 a2
     have a3:=beqN.1 a3
     have a4:=beqN.1 a4
     subst a1 a2 a3
     rw [yO0,zE8] at ho
     simp only [Option.some.injEq,Prod.mk.injEq] at ho
     obtain⟨hk,rfl,rfl⟩:=ho
     simp only [Bool.and_eq_true] at hk
     obtain⟨hk1,hk2,hk3⟩:=hk
     have hk1:=beqN.1 hk1
     subst hk1
     obtain⟨hk4,hk5⟩:=inI_iff.1 hk2
     have hk6:=blt_iff.1 hk3
     obtain⟨n,rfl⟩:∃ n:Nat,k=n:=⟨k.toNat,by omega⟩
     have hn:n<=l.length:=by omega
     rw [Int.toNat_natCast]
     refine⟨((zE4 m j).trans (zE4 _ i)).trans ((yF4 _ i).trans (zH5 _ _)),hfn,fun ρ w T N ys hT hN hv hm=>?_⟩
     obtain⟨y0,y1,y2,rfl,h0,h1,h2⟩:=yI2 hv
     cases h1
     cases h0 with
     | so hr0 hlk =>
      rename_i b sh K
      cases h2 with
      | sl ln cpv hr =>
       rename_i vb shv Kv
       have hTj:T.testBit j=true:=hT j ((zH5 _ _).tch j ((yF4 _ i).tch j ((zE4 _ i).tch j (bit_or.2 (.inr rfl)))))
       have hTi:T.testBit i=true:=hT i ((zH5 _ _).tch i ((yF4 _ i).tch i (bit_or.2 (.inr rfl))))
       obtain⟨vs,e1,e2,e3,e4⟩:=wJ5 hm hTj hB hd hr
       have hCi:m.at i=some ⟨.ls t' l,wd t',true⟩:=hC'
       have hm2:=zH8 (zH8 hm j) i
       obtain⟨V,f1,f2⟩:=yA3 (w:=w) (off:=0) (cs:=flat t' l) (hm.mem i _ hTi hCi) hr0 rfl (fun q hq=>⟨_,by rw [Nat.zero_add];exact List.getElem?_eq_getElem hq,List.getElem?_eq_getElem hq⟩)
       obtain⟨b',sh',K',c0,e0,fz,g1,g2,g3,g4,g5⟩:=hm.mem i _ hTi hCi
       rw [hr0] at g1
       cases g1
       obtain⟨b1,sh1,K1,c1,ee1,fz1,p1,p2,p3,p4,p5⟩:=hm.mem j _ hTj hB
       rw [hr] at p1
       cases p1
       have hbz':bz≠1:=fun h=>by rw [h] at hbz;cases hbz
       have hij:j≠i:=fun h=>by rw [h,hCi] at hB;cases hB
       have hvb:vb≠b:=fun h=>hm.inj j i _ _ hTj hTi hB hCi hij (by simp [Ren.blk,hr,hr0,h])
       have hwf:(flat t' l).length<=K*wd t'/\sh+K*wd t'<=c0.size:=g5 rfl
       rw [Nat.zero_add] at hlk
       have f1l:V.length=l.length*wd t':=by rw [<- f1.1,zB5]
       have f2c:∀ (q:Nat) (u:Value),V[q]?=some u->w.cell? ⟨b,sh+q,none⟩=some u:=fun q u hq=>by have:=f2 q u hq;rwa [Nat.add_zero] at this
       have f2c0:∀ (q:Nat) (u:Value),V[q]?=some u->c0[sh+q]?=some u:=fun q u hq=>by rw [<- zH3 g2];exact f2c q u hq
       have f3:∀ u∈V,u.oneCell'=true:=zU8 f1 (zO3 t' l)
       have g3':∀ o,¬ (fz.1<=o/\o < fz.2):=fun o=>g3 o (.inr (by show wd t'≠1;omega))
       have hbg:(l.length+1)*nb<=140737488355328:=by
        have:(l.length+1)*nb<=1000000*4096:=Nat.mul_le_mul (by omega) hnb
        omega
       have hrel:VRs ρ (flat t' (l.take n++v::l.drop n)) (V.take (n*wd t')++(vs++V.drop (n*wd t'))):=by
        rw [zH2,show v::l.drop n=[v]++l.drop n from rfl,zH2,wK7]
        have ht:=zH2 t' (l.take n) (l.drop n)
        rw [List.take_append_drop] at ht
        have htl:(flat t' (l.take n)).length=n*wd t':=by rw [zB5,List.length_take,Nat.min_eq_left hn]
        refine VRs.append ⟨by rw [htl,List.length_take,f1l,Nat.min_eq_left (Nat.mul_le_mul_right _ hn)],fun q x y hx hy=>?_⟩ (VRs.append e1 ⟨?_,fun q x y hx hy=>?_⟩)
        ·have hq:q < n*wd t':=by rw [<- htl];exact (List.getElem?_eq_some_iff.1 hx).1
         rw [List.getElem?_take_of_lt hq] at hy
         refine f1.2 q x y ?_ hy
         rw [ht,List.getElem?_append_left (by rw [htl];exact hq)]
         exact hx
        ·rw [List.length_drop,f1l,zB5,List.length_drop,Nat.sub_mul]
        ·rw [List.getElem?_drop] at hy
         refine f1.2 (n*wd t'+q) x y ?_ hy
         rw [ht,List.getElem?_append_right (by rw [htl];omega),htl,Nat.add_sub_cancel_left]
         exact hx
       have hlen:(l.take n++v::l.drop n).length=l.length+1:=by
        rw [List.length_append,List.length_cons,List.length_take,List.length_drop,Nat.min_eq_left hn];omega
       rw [<- a4] at hC hw
       have z1:sh+0*wd t'=sh:=by rw [Nat.zero_mul,Nat.add_zero]
       rw [z1,Nat.sub_zero]
       have hrm:l.length+1<=K->sh+(l.length+1)*wd t'<=c0.size:=fun h=>by
        have:(l.length+1)*wd t'<=K*wd t':=Nat.mul_le_mul_right _ h
        omega
       have place:∀ w',w'.heap.size=w.heap.size/\(∀ x,x≠b->w'.heap[x]?=w.heap[x]?)/\Out w w'/\(∃ C',w'.heap[b]?=some (.cells C' e0 fz)/\C'.size=c0.size/\∀ (q:Nat) (u:Value),(V.take (n*wd t')++(vs++V.drop (n*wd t')))[q]?=some u->C'[sh+q]?=some u)->l.length+1<=K ->
         ∃ ρ' v',Ending.returned (.slice (some ⟨b,sh,none⟩) (l.length+1) K)=.returned v'/\VR ρ' (.so m.nx (wd t') 0 (l.length+1)) v'/\MI ρ' w' ((((m.touch j).touch i).del i).new ⟨.ls t' (l.take n++v::l.drop n),wd t',true⟩) T N/\CS ρ ρ' w w' m ((((m.touch j).touch i).del i).new ⟨.ls t' (l.take n++v::l.drop n),wd t',true⟩):=fun w' ⟨s1,s2,s3,C',s4,s5,s6⟩ hK=>by
        obtain⟨ρ',u,q1,rfl,q3,q4⟩:=wE2 (l:=l.take n++v::l.drop n) (m0:=m) (C:=c0) (C':=C') hm2 hN hTi (show ((m.touch j).touch i).at i=_ from hCi) hr0 hrel (by rw [hlen];exact hK) (fun o _=>g3' o) s4 s5 hwf.2 s6 s1 s2 s3 rfl (fun _ _ h=>h)
        rw [hlen] at q1
        exact⟨ρ',_,rfl,q1,q3,q4⟩
       have fresh:∀ w' G,l.length+1<=G->w.heap.size<=w'.heap.size/\(∀ x,x < w.heap.size->w'.heap[x]?=w.heap[x]?)/\Out w w'/\(∃ C',w'.heap[w.heap.size]?=some (.cells C' te (0,0))/\C'.size=G*wd t'/\∀ (q:Nat) (u:Value),(V.take (n*wd t')++(vs++V.drop (n*wd t')))[q]?=some u->C'[q]?=some u) ->
         ∃ ρ' v',Ending.returned (.slice (some ⟨w.heap.size,0,none⟩) (l.length+1) G)=.returned v'/\VR ρ' (.so m.nx (wd t') 0 (l.length+1)) v'/\MI ρ' w' ((((m.touch j).touch i).del i).new ⟨.ls t' (l.take n++v::l.drop n),wd t',true⟩) T N/\CS ρ ρ' w w' m ((((m.touch j).touch i).del i).new ⟨.ls t' (l.take n++v::l.drop n),wd t',true⟩):=fun w' G hG ⟨s1,s2,s3,C',s4,s5,s6⟩=>by
        obtain⟨ρ',u,q1,rfl,q3,q4⟩:=vC8 (te:=te) (G:=G) (l:=l.take n++v::l.drop n) (m:=((m.touch j).touch i).del i) (m0:=m) (uS2 hm2 i) hN hrel (by rw [hlen];exact hG) s5 s6 s4 s1 s2 s3 rfl (fun q B hq=>by
         rw [zT3] at hq
         split at hq
         ·cases hq
         ·exact hq)
        rw [hlen] at q1
        exact⟨ρ',_,rfl,q1,q3,q4⟩
       rcases Nat.lt_or_ge n l.length with hlt | hge
       ·rcases Nat.lt_or_ge K (l.length+1) with hK | hK
        ·refine (hC.grow b sh l.length K n vb (shv+off) 1 V vs w hlt hlk hK hbg f1l e2 f2c e3 f3 e4).mono fun ed w' he=>?_
         obtain⟨G,ROW,rfl,r1,r2,r3,rfl⟩:=he
         exact fresh _ G r1 (vE4 (_sh:=0) hlt f1l e2 r1 r2 r3 rfl)
        ·refine (hC.shift b sh l.length K n vb (shv+off) 1 V vs w hlt hK hk6 hvb f1l e2 f2c (fun q hq=>?_) (fun q _=>zH0 g2 (g3' _)) e3 f3 e4 ee1 e0 c1.size c0.size (by simp [World.shape?,p2]) (by simp [World.shape?,g2]) ?_ (zH0 p2 (p3 _ (.inr hbz'))) (zH0 p2 (p3 _ (.inr hbz')))).mono fun ed w' he=>?_
         ·rw [zH3 g2,Array.getElem?_eq_getElem (by have:=hrm hK;omega)];rfl
         ·have:=hrm hK
          have h9:(l.length+1)*wd t'=l.length*wd t'+wd t':=Nat.succ_mul _ _
          omega
         ·obtain⟨rfl,rfl⟩:=he
          exact place _ (wP0 g2 hlt f1l e2 f2c0 (hrm hK) rfl) hK
       ·obtain rfl:n=l.length:=by omega
        have t1:V.take (l.length*wd t')=V:=List.take_of_length_le (by omega)
        have t2:V.drop (l.length*wd t')=[]:=List.drop_eq_nil_of_le (by omega)
        rcases Nat.lt_or_ge K (l.length+1) with hK | hK
        ·refine (hC.fin (some ⟨b,sh,none⟩) l.length K vb (shv+off) 1 V vs w hlk hK hbg f1l e2 (fun h=>by cases h) (fun a ha=>by cases ha;exact⟨rfl,fun q u hq=>by rw [Addr.add_lit];exact f2c q u hq⟩) e3 e4).mono fun ed w' he=>?_
         obtain⟨G,ROW,rfl,r1,r2,r3,rfl⟩:=he
         refine fresh _ G r1 ⟨by show _<=(w.heap.push _).size;simp,fun x hx=>by show (w.heap.push _)[x]?=_;rw [Array.getElem?_push,if_neg (Nat.ne_of_lt hx)],⟨rfl,rfl,rfl⟩,ROW,by show (w.heap.push _)[w.heap.size]?=_;simp,r2,?_⟩
         rw [t1,t2,List.append_nil]
         exact r3
        ·refine (hC.room b sh l.length K vb (shv+off) 1 vs w hK hk6 e2 (fun q hq=>?_) (fun q _=>zH0 g2 (g3' _)) e3 e4).mono fun ed w' he=>?_
         ·have h9:(l.length+1)*wd t'=l.length*wd t'+wd t':=Nat.succ_mul _ _
          rw [zH3 g2,Array.getElem?_eq_getElem (by have:=hrm hK;omega)];rfl
         ·obtain⟨rfl,rfl⟩:=he
          refine place _ ?_ hK
          rw [t1,t2,List.append_nil]
          exact vE3 g2 f1l e2 f2c0 (hrm hK) rfl
 ·exact hcl g xs m r' m' hr
def DelC (P:Program) (f:FuncId):Prop :=
 ∀ (b sh n c a:Nat) (cs:List Value) (w:World) (_:a < n) (_:n<=c) (_:cs.length=n*5) (_:n < 1000000)
  (_:∀ (j:Nat) (v:Value),cs[j]?=some v->w.cell? ⟨b,sh+j,none⟩=some v) (_:∀ j,j < n*5->w.frozen? ⟨b,sh+j,none⟩=false) (_:∀ v∈cs,v.oneCell'=true),
  Calls P f #[.slice (some ⟨b,sh,none⟩) n c,.int .i64 a,.int .i64 ((a:Int)+1)] w fun e w' =>
   ∃ Z:List Value,Z.length=5/\e=.returned (.slice (some ⟨b,sh,none⟩) (n - 1) c)/\w'=(w.drew.setCells b (sh+a*5) (cs.drop ((a+1)*5))).setCells b (sh+(n - 1)*5) Z
theorem uC8 {w:World} {b:Nat} {C:Array Value} {te:TypeId} {fz:Nat × Nat} (hh:w.heap[b]?=some (.cells C te fz)) {sh n a:Nat} {cs Z:List Value} (ha:a < n) (hcl:cs.length=n*5) (hZ:Z.length=5)
  (hcs:∀ (j:Nat) (u:Value),cs[j]?=some u->C[sh+j]?=some u) (hroom:sh+n*5<=C.size) {w':World} (hw:w'=(w.drew.setCells b (sh+a*5) (cs.drop ((a+1)*5))).setCells b (sh+(n - 1)*5) Z) :
  w'.heap.size=w.heap.size/\(∀ x,x≠b->w'.heap[x]?=w.heap[x]?)/\Out w w'/\∃ C',w'.heap[b]?=some (.cells C' te fz)/\C'.size=C.size/\∀ (j:Nat) (u:Value),(cs.take (a*5)++cs.drop ((a+1)*5))[j]?=some u->C'[sh+j]?=some u:=by
 subst hw
 have hdl:(cs.drop ((a+1)*5)).length=n*5 - (a+1)*5:=by rw [List.length_drop,hcl]
 have hh':w.drew.heap[b]?=some (.cells C te fz):=hh
 obtain⟨a1,a2,C1,a3,a4,a5,a6⟩:=zD5 (cs.drop ((a+1)*5)) (sh+a*5) w.drew hh' (by rw [hdl];omega)
 obtain⟨b1,b2,C2,b3,b4,b5,b6⟩:=zD5 Z (sh+(n - 1)*5) _ a3 (by rw [hZ,a4];omega)
 refine⟨b1.trans a1,fun x hx=>(b2 x hx).trans (a2 x hx),((show Out w w.drew from ⟨rfl,rfl,rfl⟩).trans (zD9 _ _ _ _)).trans (zD9 _ _ _ _),C2,b3,by rw [b4,a4],fun j u hj=>?_⟩
 have htl:(cs.take (a*5)).length=a*5:=by rw [List.length_take,hcl];omega
 have hjl:j < (n - 1)*5:=by
  have:=(List.getElem?_eq_some_iff.1 hj).1
  rw [List.length_append,htl,hdl] at this
  omega
 rw [b6 _ (.inl (by omega))]
 rw [List.getElem?_append] at hj
 split at hj
 ·rename_i h1
  rw [htl] at h1
  rw [a6 _ (.inl (by omega))]
  rw [List.getElem?_take_of_lt h1] at hj
  exact hcs j u hj
 ·rename_i h1
  rw [htl] at h1 hj
  have hl:=(List.getElem?_eq_some_iff.1 hj).1
  have:=a5 (j - a*5) hl
  rw [show sh+a*5+(j - a*5)=sh+j by omega] at this
  rw [this];exact hj
theorem vQ2 {P : Program} {cl : ClS} {f : FuncId} (hcl : zA1 P cl) (hfn : ∃ fn, P.funcs[f]? = some fn ∧ (fn.name == "runtime.NumGoroutine") = false ∧ fn.body.isNone = false) (hC : DelC P f) : zA1 P (addD f cl) := by
 intro g xs m r' m' hr
 rcases zS4 hr with⟨rfl,ho⟩ | hr
 ·clear hr
  unfold delG at ho
  split at ho<;>first | (cases ho;done) | skip
  rename_i i e off len k k2
  obtain⟨C,hC',ho1⟩:=zD0 ho
  clear ho
  have ho:=ho1
  clear ho1
  split at ho<;>first | (cases ho;done) | skip
  rename_i t l ez
  cases hcd:Nat.beq e (wd t)&&(Nat.beq off 0&&(Nat.beq ez (wd t)&&Nat.beq (wd t) 5)) with
  | false=>rw [hcd] at ho;cases ho
  | true =>
   rw [hcd,cond_true] at ho
   simp only [Bool.and_eq_true] at hcd
   obtain⟨a1,a2,a3,a4⟩:=hcd
   have a1:=beqN.1 a1
   have a2:=beqN.1 a2
   have a3:=beqN.1 a3
   have a4:=beqN.1 a4
   subst a1 a2 a3
   rw [yO0,zE8] at ho
   simp only [Option.some.injEq,Prod.mk.injEq] at ho
   obtain⟨hk,rfl,rfl⟩:=ho
   simp only [Bool.and_eq_true] at hk
   obtain⟨hk1,hk2,hk3,hk7⟩:=hk
   have hk1:=beqN.1 hk1
   subst hk1
   obtain⟨hk4,hk5⟩:=inI_iff.1 hk2
   have hk6:=blt_iff.1 hk7
   rw [zC5,decide_eq_true_eq] at hk3
   subst hk3
   obtain⟨n,rfl⟩:∃ n:Nat,k=n:=⟨k.toNat,by omega⟩
   have hn:n < l.length:=by omega
   rw [Int.toNat_natCast]
   refine⟨(zE4 m i).trans ((yF4 _ i).trans (zH5 _ _)),hfn,fun ρ w T N ys hT hN hv hm=>?_⟩
   obtain⟨y0,y1,y2,rfl,h0,h1,h2⟩:=yI2 hv
   cases h1
   cases h2
   cases h0 with
   | so hr0 hlk =>
    rename_i b sh K
    have hTi:T.testBit i=true:=hT i ((zH5 _ _).tch i ((yF4 _ i).tch i (bit_or.2 (.inr rfl))))
    have hm2:=zH8 hm i
    obtain⟨V,f1,f2⟩:=yA3 (w:=w) (off:=0) (cs:=flat t l) (hm.mem i _ hTi hC') hr0 rfl (fun q hq=>⟨_,by rw [Nat.zero_add];exact List.getElem?_eq_getElem hq,List.getElem?_eq_getElem hq⟩)
    obtain⟨b',sh',K',c0,e0,fz,g1,g2,g3,g4,g5⟩:=hm.mem i _ hTi hC'
    rw [hr0] at g1
    cases g1
    have hwf:(flat t l).length<=K*wd t/\sh+K*wd t<=c0.size:=g5 rfl
    rw [Nat.zero_add] at hlk
    have f1l:V.length=l.length*5:=by rw [<- f1.1,zB5,a4]
    have f2c:∀ (q:Nat) (u:Value),V[q]?=some u->w.cell? ⟨b,sh+q,none⟩=some u:=fun q u hq=>by have:=f2 q u hq;rwa [Nat.add_zero] at this
    have f2c0:∀ (q:Nat) (u:Value),V[q]?=some u->c0[sh+q]?=some u:=fun q u hq=>by rw [<- zH3 g2];exact f2c q u hq
    have f3:∀ u∈V,u.oneCell'=true:=zU8 f1 (zO3 t l)
    have g3':∀ o,¬ (fz.1<=o/\o < fz.2):=fun o=>g3 o (.inr (by show wd t≠1;omega))
    have hrm:sh+l.length*5<=c0.size:=by
     have h1:l.length*wd t<=K*wd t:=Nat.mul_le_mul_right _ hlk
     rw [a4] at h1 hwf
     omega
    have hrel:VRs ρ (flat t (l.eraseIdx n)) (V.take (n*5)++V.drop ((n+1)*5)):=by
     rw [List.eraseIdx_eq_take_drop_succ,zH2]
     have ht1:=zH2 t (l.take n) (l.drop n)
     rw [List.take_append_drop] at ht1
     have ht2:=zH2 t (l.take (n+1)) (l.drop (n+1))
     rw [List.take_append_drop] at ht2
     have htl1:(flat t (l.take n)).length=n*5:=by rw [zB5,List.length_take,Nat.min_eq_left (by omega),a4]
     have htl2:(flat t (l.take (n+1))).length=(n+1)*5:=by rw [zB5,List.length_take,Nat.min_eq_left (by omega),a4]
     refine VRs.append ⟨by rw [htl1,List.length_take,f1l];omega,fun q x y hx hy=>?_⟩ ⟨?_,fun q x y hx hy=>?_⟩
     ·have hq:q < n*5:=by rw [<- htl1];exact (List.getElem?_eq_some_iff.1 hx).1
      rw [List.getElem?_take_of_lt hq] at hy
      refine f1.2 q x y ?_ hy
      rw [ht1,List.getElem?_append_left (by rw [htl1];exact hq)]
      exact hx
     ·rw [List.length_drop,f1l,zB5,List.length_drop,Nat.sub_mul,a4]
     ·rw [List.getElem?_drop] at hy
      refine f1.2 ((n+1)*5+q) x y ?_ hy
      rw [ht2,List.getElem?_append_right (by rw [htl2];omega),htl2,Nat.add_sub_cancel_left]
      exact hx
    have hlen:(l.eraseIdx n).length=l.length - 1:=by rw [List.length_eraseIdx,if_pos hn]
    have z1:sh+0*wd t=sh:=by rw [Nat.zero_mul,Nat.add_zero]
    rw [z1,Nat.sub_zero]
    refine (hC b sh l.length K n V w hn hlk f1l hk6 f2c (fun q _=>zH0 g2 (g3' _)) f3).mono fun ed w' he=>?_
    obtain⟨Z,hZ,rfl,hw'⟩:=he
    obtain⟨s1,s2,s3,C',s4,s5,s6⟩:=uC8 g2 hn f1l hZ f2c0 hrm hw'
    obtain⟨ρ',u,q1,rfl,q3,q4⟩:=wE2 (l:=l.eraseIdx n) (m0:=m) (C:=c0) (C':=C') hm2 hN hTi (show (m.touch i).at i=_ from hC') hr0 hrel (by rw [hlen];omega) (fun o _=>g3' o) s4 s5 hwf.2 s6 s1 s2 s3 rfl (fun _ _ h=>h)
    rw [hlen] at q1
    exact⟨ρ',_,rfl,q1,q3,q4⟩
 ·exact hcl g xs m r' m' hr
end Go.Proofs.YtpccdcnjkknmkaaGreatDoor.Ev
namespace Go.Proofs.YtpccdcnjkknmkaaGreatDoor.Ev
open Go Go.RowKit Go.Lib
theorem yX6 {P:Program} (w:World) (t e ty:TypeId) (z:Value) (ht:P.underlying t=some (.slice e)) (hv:∀ w,(zeroValue e).run P w=.ok z w) (Z:List Value) (hZ:(Builtin.zeroCells z.cells 1).toList=Z) (h1:∀ v∈Z,v.oneCell'=true) (b o c:Nat)
  (hc:∀ j,j < Z.length->(w.cell? ⟨b,o+j,none⟩).isSome=true) (hf:∀ j,j < Z.length->w.frozen? ⟨b,o+j,none⟩=false) :
  (Builtin.clear_ #[t] ty #[.slice (some ⟨b,o,none⟩) 1 c]).run P w=.ok (.tuple #[]) (w.setCells b o Z):=by
 have hst:=run_storeCells_cells (P:=P) b o Z 0 w (by simpa using hc) (by simpa using hf) h1
 simp only [Nat.add_zero] at hst
 simp [Builtin.clear_,run_underlying ht,hv,hZ,hst]
set_option maxHeartbeats 4000000 in
set_option maxRecDepth 100000 in
theorem xY2 (b sh n c a:Nat) (cs:List Value) (w:World) (ha:a < n) (hnc:n<=c) (hcl:cs.length=n*5) (hn6:n < 1000000)
  (hcs:∀ (j:Nat) (v:Value),cs[j]?=some v->w.cell? ⟨b,sh+j,none⟩=some v) (hfz:∀ j,j < n*5->w.frozen? ⟨b,sh+j,none⟩=false) (h1c:∀ v∈cs,v.oneCell'=true) :
  Calls Tryz.prog 109 #[.slice (some ⟨b,sh,none⟩) n c,.int .i64 a,.int .i64 ((a:Int)+1)] w fun e w' =>
   ∃ Z:List Value,Z.length=5/\e=.returned (.slice (some ⟨b,sh,none⟩) (n - 1) c)/\w'=(w.drew.setCells b (sh+a*5) (cs.drop ((a+1)*5))).setCells b (sh+(n - 1)*5) Z:=by
 have hinf:(Tryz.prog.info? 83).map (·.size)=some 5:=by kernel_rfl
 obtain⟨i0,hi0,his⟩:∃ i0,Tryz.prog.info? 83=some i0/\i0.size=5:=by
  cases h:Tryz.prog.info? 83 with
  | none=>rw [h] at hinf;cases hinf
  | some i=>rw [h] at hinf;exact⟨i,rfl,Option.some.inj hinf⟩
 have hsp:∀ j,j < n*5->(w.cell? ⟨b,sh+j,none⟩).isSome=true:=fun j hj=>by rw [hcs j _ (List.getElem?_eq_getElem (by omega))];rfl
 obtain⟨news,hnews⟩:∃ news,news=cs.drop ((a+1)*5):=⟨_,rfl⟩
 have hlen:news.length=(n - (a+1))*5:=by rw [hnews,List.length_drop,hcl,Nat.sub_mul]
 obtain⟨A,hA,hsrc⟩:∃ A:Addr,(if c=a+1 then some (⟨b,sh,none⟩:Addr) else some ⟨b,sh+(a+1)*5,none⟩)=some A/\Hid (∀ (t:Nat) (u:Value),news[t]?=some u->w.drew.cell? (A.add t)=some u):=by
  by_cases h:c=a+1
  ·refine⟨⟨b,sh,none⟩,by simp [h],fun t u hu=>?_⟩
   have h0:news.length=0:=by rw [hlen];omega
   rw [List.length_eq_zero_iff.1 h0] at hu
   simp at hu
  ·refine⟨⟨b,sh+(a+1)*5,none⟩,by simp [h],fun t u hu=>?_⟩
   rw [Addr.add_lit,show sh+(a+1)*5+t=sh+((a+1)*5+t) by omega]
   rw [hnews,List.getElem?_drop] at hu
   exact hcs _ u hu
 have s1:Hid (news.length=(n - (a+1))*5):=hlen
 have s2:Hid (∀ u∈news,u.oneCell'=true):=fun u hu=>h1c u (List.mem_of_mem_drop (by rw [hnews] at hu;exact hu))
 have s3:Hid (∀ t,t < news.length->(w.drew.cell? ⟨b,sh+a*5+t,none⟩).isSome=true/\w.drew.frozen? ⟨b,sh+a*5+t,none⟩=false):=by
  intro t ht
  rw [hlen] at ht
  rw [Nat.add_assoc]
  exact⟨hsp _ (by omega),hfz _ (by omega)⟩
 obtain⟨W1,hW1⟩:∃ W1,W1=w.drew.setCells b (sh+a*5) news:=⟨_,rfl⟩
 have hc1:∀ j,j < n*5->(W1.cell? ⟨b,sh+j,none⟩).isSome=true:=fun j hj=>by
  rw [hW1]
  exact isSome_setCells b _ _ _ (fun q hq=>by rw [hlen] at hq;rw [Nat.add_assoc];exact hsp _ (by omega)) _ (hsp j hj)
 have hf1:∀ j,j < n*5->W1.frozen? ⟨b,sh+j,none⟩=false:=fun j hj=>by rw [hW1,World.frozen?_setCells];exact hfz j hj
 have hZ0:(Builtin.zeroCells (Value.agg #[.int .i64 0,.int .i64 0,.int .i64 0,.int .i64 0,.int .i64 0]).cells 1).toList=([.int .i64 0,.int .i64 0,.int .i64 0,.int .i64 0,.int .i64 0]:List Value):=by kernel_rfl
 obtain⟨Z,hZ⟩:∃ Z:List Value,Z=[.int .i64 0,.int .i64 0,.int .i64 0,.int .i64 0,.int .i64 0]:=⟨_,rfl⟩
 have hZl:Z.length=5:=by rw [hZ];rfl
 have hZ1:∀ v∈Z,v.oneCell'=true:=by rw [hZ];intro v hv;simp only [List.mem_cons,List.not_mem_nil,or_false,or_self] at hv;subst hv;rfl
 have hcl0:∀ ty,(Builtin.clear_ #[29] ty #[.slice (some ⟨b,sh+(n - 1)*5,none⟩) 1 (c - (n - 1))]).run Tryz.prog W1=.ok (.tuple #[]) (W1.setCells b (sh+(n - 1)*5) Z) :=
  fun ty=>yX6 W1 _ _ ty _ Tryz.underlying29 Tryz.zeroValue83 Z (hZ0.trans hZ.symm) hZ1 b (sh+(n - 1)*5) _ (fun t ht=>by rw [Nat.add_assoc];exact hc1 _ (by omega)) (fun t ht=>by rw [Nat.add_assoc];exact hf1 _ (by omega))
 have hW:Hid (W1=w.drew.setCells b (sh+a*5) news):=hW1
 have hic:a<=c:=by omega
 have hjc:a+1<=c:=by omega
 have e1:a+(n - (a+1))=n - 1:=by omega
 have e2:n - (n - 1)=1:=by omega
 have e3:((a:Int)+1).toNat=a+1:=by omega
 have e4:(a:Int)+1<=(n:Int):=by omega
 have e5:(0:Int)<=(a:Int)+1:=by omega
 have e6:¬ ((a:Int)=(a:Int)+1):=by omega
 refine Calls.mono (R:=fun e w'=>e=.returned (.slice (some ⟨b,sh,none⟩) (n - 1) c)/\w'=(w.drew.setCells b (sh+a*5) news).setCells b (sh+(n - 1)*5) Z) ?_ fun e w' he=>⟨Z,hZl,he.1,by rw [he.2,hnews]⟩
 clear hW1 hnews hlen hcs hcl hsp hc1 hf1 hfz hZ0 hZ
 have mixed:Tryz.prog.follows .mixedOrders=true:=by kernel_rfl
 go_enter Tryz.func109,Tryz.ntmps109
 go_wp2_with fail
 go_region_law_o (refine step_append_room rfl _ _ 29 rfl 83 i0 5 Tryz.underlying29 hi0 his b sh a c (by simp [Act.eval,Act.put]) A (n - (a+1)) (c - (a+1)) news (by simp [Act.eval,Act.put]) s1.out hsrc.out s2.out (by omega) s3.out ?_;rw [<- hW.out])
 go_wp2
 go_ret
 exact⟨rfl,by rw [hW.out]⟩
end Go.Proofs.YtpccdcnjkknmkaaGreatDoor.Ev
namespace Go.Proofs.YtpccdcnjkknmkaaGreatDoor.Ev
open Go
theorem uK6 {cl:ClS} (hcl:zA1 Tryz.prog cl):zA1 Tryz.prog (addI 104 .rate cl):=zQ6 hcl ⟨_,Tryz.func104,by kernel_rfl,by kernel_rfl⟩ vN3 (by decide) (by decide)
theorem wU1 {cl:ClS} (hcl:zA1 Tryz.prog cl):zA1 Tryz.prog (addI 101 .series cl):=zQ6 hcl ⟨_,Tryz.func101,by kernel_rfl,by kernel_rfl⟩ xX0 (by decide) (by decide)
theorem qE2 {cl:ClS} (hcl:zA1 Tryz.prog cl):zA1 Tryz.prog (addI 97 .ses cl):=zQ6 hcl ⟨_,Tryz.func97,by kernel_rfl,by kernel_rfl⟩ xO5 (by decide) (by decide)
theorem qE3 {cl:ClS} (hcl:zA1 Tryz.prog cl):zA1 Tryz.prog (addI 116 .bal cl):=zQ6 hcl ⟨_,Tryz.func116,by kernel_rfl,by kernel_rfl⟩ xO6 (by decide) (by decide)
theorem uK7 {cl:ClS} (hcl:zA1 Tryz.prog cl):zA1 Tryz.prog (addI 178 .part cl):=zQ6 hcl ⟨_,Tryz.func178,by kernel_rfl,by kernel_rfl⟩ vN4 (by decide) (by decide)
theorem qF7 {cl:ClS} (hcl:zA1 Tryz.prog cl):zA1 Tryz.prog (addD 109 cl):=vQ2 hcl ⟨_,Tryz.func109,by kernel_rfl,by kernel_rfl⟩ xY2
def qK0:List AV->Option (Bool × AV)
 | [.agg [.str c,.int .i64 y,.int .i64 m,.int .i64 d,.int .i64 b]]=>some (true,i64 (bil.rowF E ⟨⟨⟨c⟩⟩,⟨y,m,d⟩,b⟩))
 | _=>none
def c10:ClS:=addG 89 qK0 c9
theorem snd10:zA1 Tryz.prog c10:=zC2 snd9 mix qP8 .any qK0 fun xs r h=>by
 unfold qK0 at h
 split at h<;>first | (cases h;done) | skip
 rename_i c y m d b
 cases h
 refine⟨rfl,0,?_⟩
 have e:zB3 c9 0 qO0 .any [.agg [.str c,i64 y,i64 m,i64 d,i64 b]] some=bif E.name ⟨⟨c⟩⟩ then bif bil.dayF E ⟨y,m,d⟩ then bif ltI b 0 then some (i64 10) else bif ltI 100000 b then some (i64 10) else some (i64 0) else some (i64 9) else some (i64 8):=by kernel_rfl
 refine e.trans ?_
 unfold bil.rowF
 simp only
 rw [zE0,zE0]
 cases E.name ⟨⟨c⟩⟩<;>cases bil.dayF E ⟨y,m,d⟩<;>by_cases h1:b < 0<;>by_cases h2:100000 < b<;>simp [h1,h2]
def xE2:List AV->Option (Bool × AV)
 | [.agg [.str c,.int .i64 y,.int .i64 m,.int .i64 d,.int .i64 b],.agg [.str c',.int .i64 y',.int .i64 m',.int .i64 d',.int .i64 b']]=>some (true,.bool (bil.aheadF E ⟨⟨⟨c⟩⟩,⟨y,m,d⟩,b⟩ ⟨⟨⟨c'⟩⟩,⟨y',m',d'⟩,b'⟩))
 | _=>none
def c11:ClS:=addG 90 xE2 c10
theorem snd11:zA1 Tryz.prog c11:=zC2 snd10 mix vF2 .any xE2 fun xs r h=>by
 unfold xE2 at h
 split at h<;>first | (cases h;done) | skip
 rename_i c y m d b c' y' m' d' b'
 cases h
 refine⟨rfl,0,?_⟩
 have e:zB3 c10 0 wD4 .any [.agg [.str c,i64 y,i64 m,i64 d,i64 b],.agg [.str c',i64 y',i64 m',i64 d',i64 b']] some=bif zF1 c c' then some (.bool true) else bif zC1 c c' then bif bil.beforeF E ⟨y,m,d⟩ ⟨y',m',d'⟩ then some (.bool true) else some (.bool false) else some (.bool false):=by kernel_rfl
 refine e.trans ?_
 unfold bil.aheadF
 rw [<- zM2,<- zF2]
 simp only
 cases zF1 c c'<;>cases zC1 c c'<;>cases bil.beforeF E ⟨y,m,d⟩ ⟨y',m',d'⟩<;>rfl
def stR (l:List bil.Rt) (n:Int):T AV:=stL [(q0,.fl .rate l),(q8,.fl .rate l),(q9,i64 (.ofNat l.length)),(q10,i64 n)]
def lpR (L L':Nat) (l:List bil.Rt) (n:Int):Option AV:=zC7 (evS c11 L xZ2) xW5 0 L' (stR l n) m0 (xW7 c11 L fun r m=>frzK m .any r some)
theorem zS6 (L L' n:Nat) (l:List bil.Rt):lpR L (Nat.succ L') l (.ofNat n) =
 bif ltI (.ofNat n) (.ofNat l.length) then bif inI (.ofNat n) l.length then bif !eqI (bil.rowF E (nth (t:=.rate) l n)) 0 then some (.bool false) else
  bif ltI 0 (.ofNat n) then bif inI (zA3 .i64 (.ofNat n - 1)) l.length then bif bil.aheadF E (nth (t:=.rate) l (zA3 .i64 (.ofNat n - 1)).toNat) (nth (t:=.rate) l n) then lpR L L' l (zA3 .i64 (.ofNat n+1)) else some (.bool false) else none
  else lpR L L' l (zA3 .i64 (.ofNat n+1)) else none else some (.bool true):=by kernel_rfl
def okR (r:bil.Rt):Bool:=bil.rowF E r == 0
theorem zX3 (L:Nat) (l:List bil.Rt) (hl:l.length<=24):∀ (t:List bil.Rt) (n f:Nat),l.drop n=t->n<=l.length->t.length < f->lpR L f l (.ofNat n)=some (.bool (zI5 okR (bil.aheadF E) (yY6 (t:=.rate) l n) t))
 | t,n,0,_,_,hf=>by omega
 | [],n,f+1,hd,hn,hf=>by
  rw [zS6,drop_nil hd hn,zB6 (Nat.le_refl _),cond_false]
  unfold zI5
  rfl
 | x::t,n,f+1,hd,hn,hf=>by
  obtain⟨h1,h2,h3⟩:=zA5 (t:=.rate) hd
  have ih:=zX3 L l hl t (n+1) f h3 (by omega) (by simp at hf;omega)
  rw [yA2 h2] at ih
  rw [zS6,zB4 h1,cond_true,zA9 h1,cond_true,h2,zC5,zA2 (by omega),ih]
  have e:okR x=decide (bil.rowF E x=0):=rfl
  cases n with
  | zero =>
   rw [zU0 (t:=.rate),e]
   show (bif !decide (bil.rowF E x=0) then _ else _)=_
   cases decide (bil.rowF E x=0)<;>rfl
  | succ n =>
   rw [zQ4,cond_true,zP8 (by omega),zA9 (by omega),cond_true,zU1 (t:=.rate),e,zF9]
   cases decide (bil.rowF E x=0)<;>cases bil.aheadF E (nth (t:=.rate) l n) x<;>rfl
theorem xH6 (l:List bil.Rt):zB3 c11 26 s_vatRight .any [.fl .rate l] some=some (.bool (bil.vatRight E l)):=by
 have e:zB3 c11 26 s_vatRight .any [.fl .rate l] some=bif ltI 24 (.ofNat l.length) then some (.bool false) else lpR 26 26 l 0:=by kernel_rfl
 rw [e]
 unfold bil.vatRight
 by_cases h:24 < l.length
 ·rw [zB9 (by simp;omega),cond_true,decide_eq_false (by omega)];rfl
 ·rw [zB0 (by simp;omega),cond_false,decide_eq_true (by omega),Bool.true_and]
  have:=zX3 26 l (by omega) l 0 26 rfl (by omega) (by omega)
  rw [show (0:Int)=.ofNat 0 from rfl,this]
  unfold yY6
  rw [zU2]
  rfl
def yC2:List AV->Option (Bool × AV)
 | [.fl .rate l]=>some (true,.bool (bil.vatRight E l))
 | _=>none
def c12:ClS:=addG 42 yC2 c11
theorem snd12:zA1 Tryz.prog c12:=zC2 snd11 mix xV3 .any yC2 fun xs r h=>by
 unfold yC2 at h
 split at h<;>first | (cases h;done) | skip
 cases h
 exact⟨rfl,26,xH6 _⟩
theorem xJ6 {l:List bil.Rt} (h:bil.vatRight E l=true):l.length<=24:=by
 unfold bil.vatRight at h
 rw [Bool.and_eq_true] at h
 exact of_decide_eq_true h.1
def memT (y m d:Int):Mem:=⟨T.nil.node (some ⟨.raw [i64 y,i64 m,i64 d],1,false⟩) T.nil,1,1,1⟩
def lpF (L L':Nat) (l:List bil.Rt) (c:List UInt8) (y m d a:Int) (is:Bool) (n:Int):Option AV :=
 zC7 (evS c12 L wV6) wS2 0 L' (stL [(q1,.str c),(q5,.ptr 0 0),(q8,i64 a),(q9,.bool is),(q20,.fl .rate l),(q21,i64 (.ofNat l.length)),(q22,i64 n)]) (memT y m d) (wT3 c12 L fun r m=>frzK m (.tup [.any,.any]) r some)
theorem zW1 (L L' n:Nat) (l:List bil.Rt) (c:List UInt8) (y m d a:Int) (is:Bool):lpF L (Nat.succ L') l c y m d a is (.ofNat n) =
 bif ltI (.ofNat n) (.ofNat l.length) then bif inI (.ofNat n) l.length then bif zC1 (nth (t:=.rate) l n).cat.data.toList c then bif bil.beforeF E ⟨y,m,d⟩ (nth (t:=.rate) l n).fr then lpF L L' l c y m d a is (zA3 .i64 (.ofNat n+1))
  else lpF L L' l c y m d (nth (t:=.rate) l n).bp true (zA3 .i64 (.ofNat n+1)) else lpF L L' l c y m d a is (zA3 .i64 (.ofNat n+1)) else none
 else bif is then some (.tup [i64 a,.bool true]) else some (.tup [i64 a,.bool false]):=by kernel_rfl
def uV7 (c:ByteArray) (d:bil.Dt) (a:Option Int) (r:bil.Rt):Option Int:=if decide (r.cat=c)&&!(bil.beforeF E d r.fr) then some r.bp else a
theorem yE0 (L:Nat) (l:List bil.Rt) (hl:l.length<=24) (c:List UInt8) (y m d:Int):∀ (t:List bil.Rt) (n f:Nat) (o:Option Int),l.drop n=t->n<=l.length->t.length < f ->
  lpF L f l c y m d (o.getD 0) o.isSome (.ofNat n)=some (.tup [i64 ((t.foldl (uV7 ⟨⟨c⟩⟩ ⟨y,m,d⟩) o).getD 0),.bool (t.foldl (uV7 ⟨⟨c⟩⟩ ⟨y,m,d⟩) o).isSome])
 | t,n,0,o,_,_,hf=>by omega
 | [],n,f+1,o,hd,hn,hf=>by
  rw [zW1,drop_nil hd hn,zB6 (Nat.le_refl _),cond_false]
  cases o<;>rfl
 | x::t,n,f+1,o,hd,hn,hf=>by
  obtain⟨h1,h2,h3⟩:=zA5 (t:=.rate) hd
  have ih:=fun o=>yE0 L l hl c y m d t (n+1) f o h3 (by omega) (by simp at hf;omega)
  rw [zW1,zB4 h1,cond_true,zA9 h1,cond_true,h2,zA2 (by omega),ih]
  have ihs:=ih (some x.bp)
  simp only [Option.getD_some,Option.isSome_some] at ihs
  rw [ihs]
  have hb:=zF2 x.cat ⟨⟨c⟩⟩
  simp only at hb
  rw [hb,List.foldl_cons]
  unfold uV7
  by_cases hc:x.cat=⟨⟨c⟩⟩
  ·rw [decide_eq_true hc,cond_true]
   cases bil.beforeF E ⟨y,m,d⟩ x.fr<;>rfl
  ·rw [decide_eq_false hc,cond_false]
   rfl
def yG2 (l:List bil.Rt) (c:ByteArray) (d:bil.Dt):Option Int:=bil.vatFind E l c d
def yP5:List AV->Option (Bool × AV)
 | [.fl .rate l,.str c,.agg [.int .i64 y,.int .i64 m,.int .i64 d]]=>some (true,.tup [i64 ((yG2 l ⟨⟨c⟩⟩ ⟨y,m,d⟩).getD 0),.bool (yG2 l ⟨⟨c⟩⟩ ⟨y,m,d⟩).isSome])
 | _=>none
theorem xU0 (l:List bil.Rt) (c:List UInt8) (y m d:Int):zB3 c12 26 s_vatFind (.tup [.any,.any]) [.fl .rate l,.str c,.agg [i64 y,i64 m,i64 d]] some=some (.tup [i64 ((yG2 l ⟨⟨c⟩⟩ ⟨y,m,d⟩).getD 0),.bool (yG2 l ⟨⟨c⟩⟩ ⟨y,m,d⟩).isSome]):=by
 have e:zB3 c12 26 s_vatFind (.tup [.any,.any]) [.fl .rate l,.str c,.agg [i64 y,i64 m,i64 d]] some=bif bil.vatRight E l then bif bil.dayF E ⟨y,m,d⟩ then lpF 26 26 l c y m d 0 false 0 else some (.tup [i64 0,.bool false]) else some (.tup [i64 0,.bool false]):=by kernel_rfl
 rw [e]
 unfold yG2 bil.vatFind
 cases h1:bil.vatRight E l with
 | false=>rw [cond_false,if_pos (.inl rfl)];rfl
 | true =>
  rw [cond_true]
  cases h2:bil.dayF E ⟨y,m,d⟩ with
  | false=>rw [cond_false,if_pos (.inr rfl)];rfl
  | true =>
   rw [cond_true,if_neg (by simp)]
   have hl:=xJ6 h1
   exact yE0 26 l hl c y m d l 0 26 none rfl (by omega) (by omega)
def c13:ClS:=addG 176 yP5 c12
theorem snd13:zA1 Tryz.prog c13:=zC2 snd12 mix wP7 (.tup [.any,.any]) yP5 fun xs r h=>by
 unfold yP5 at h
 split at h<;>first | (cases h;done) | skip
 cases h
 exact⟨rfl,26,xU0 _ _ _ _ _⟩
def c14:ClS:=addI 104 .rate c13
def memR (r:bil.Rt):Mem:=⟨T.nil.node (some ⟨.raw (cRt r),1,false⟩) T.nil,1,1,1⟩
def lpP (L L':Nat) (l:List bil.Rt) (r:bil.Rt) (k n:Int):Option AV :=
 zC7 (evS c14 L vS3) vK7 0 L' (stL [(q0,.fl .rate l),(q3,.ptr 0 0),(q7,i64 k),(q18,.fl .rate l),(q19,i64 (.ofNat l.length)),(q20,i64 n)]) (memR r) (vM0 c14 L fun r m=>frzK m (.tup [.lst .rate,.any]) r some)
def uV4 (l:List bil.Rt) (r:bil.Rt) (k:Int):Option AV :=
 bif !ltI (.ofNat l.length) 24 then some (.tup [.fl .rate [],i64 2]) else bif Nat.blt l.length 1048576 then bif Nat.beq l.length 0 then bif eqI k 0 then some (.tup [.fl .rate [r],i64 0]) else none else
  bif Nat.beq l.length l.length&&(inI k (l.length+1)&&Nat.blt l.length 1000000) then bif Nat.beq (l.length+1) (l.take k.toNat++r::l.drop k.toNat).length then some (.tup [.fl .rate (l.take k.toNat++r::l.drop k.toNat),i64 0]) else none else none else none
def uA6 (a b:bil.Dt):Bool:=eqI a.y b.y&&(eqI a.m b.m&&(eqI a.d b.d&&true))
theorem yD1 (L L' n:Nat) (l:List bil.Rt) (r:bil.Rt) (k:Int):lpP L (Nat.succ L') l r k (.ofNat n) =
 bif ltI (.ofNat n) (.ofNat l.length) then bif inI (.ofNat n) l.length then bif zC1 (nth (t:=.rate) l n).cat.data.toList r.cat.data.toList then
  bif (bif false then !uA6 (nth (t:=.rate) l n).fr r.fr else uA6 (nth (t:=.rate) l n).fr r.fr) then some (.tup [.fl .rate [],i64 12]) else
   bif bil.aheadF E (nth (t:=.rate) l n) r then lpP L L' l r (zA3 .i64 (k+1)) (zA3 .i64 (.ofNat n+1)) else lpP L L' l r k (zA3 .i64 (.ofNat n+1))
  else bif bil.aheadF E (nth (t:=.rate) l n) r then lpP L L' l r (zA3 .i64 (k+1)) (zA3 .i64 (.ofNat n+1)) else lpP L L' l r k (zA3 .i64 (.ofNat n+1)) else none
 else uV4 l r k:=by kernel_rfl
theorem uA5 (a b:bil.Dt):uA6 a b=decide (a=b):=by
 obtain⟨a1,a2,a3⟩:=a
 obtain⟨b1,b2,b3⟩:=b
 unfold uA6
 simp only [zC5,bil.Dt.mk.injEq]
 by_cases h1:a1=b1<;>by_cases h2:a2=b2<;>by_cases h3:a3=b3<;>simp [h1,h2,h3]
def isR (r x:bil.Rt):Bool:=decide (x.cat=r.cat)&&decide (x.fr=r.fr)
theorem yK8 (L:Nat) (l:List bil.Rt) (hl:l.length<=24) (r:bil.Rt):∀ (t:List bil.Rt) (n f k:Nat),l.drop n=t->n<=l.length->t.length < f->k<=n ->
  lpP L f l r (.ofNat k) (.ofNat n)=bif t.any (isR r) then some (.tup [.fl .rate [],i64 12]) else uV4 l r (.ofNat (k+t.countP (bil.aheadF E · r)))
 | t,n,0,k,_,_,hf,_=>by omega
 | [],n,f+1,k,hd,hn,hf,hk=>by
  rw [yD1,drop_nil hd hn,zB6 (Nat.le_refl _),cond_false]
  rfl
 | x::t,n,f+1,k,hd,hn,hf,hk=>by
  obtain⟨h1,h2,h3⟩:=zA5 (t:=.rate) hd
  have ih:=fun k hk=>yK8 L l hl r t (n+1) f k h3 (by omega) (by simp at hf;omega) hk
  rw [yD1,zB4 h1,cond_true,zA9 h1,cond_true,h2,zA2 (by omega),zA2 (by omega),ih k (by omega),ih (k+1) (by omega)]
  rw [cond_false,uA5,zF2,List.any_cons,List.countP_cons]
  have e:isR r x=(decide (x.cat=r.cat)&&decide (x.fr=r.fr)):=rfl
  rw [e,show k+1+t.countP (bil.aheadF E · r)=k+(t.countP (bil.aheadF E · r)+1) by omega]
  cases decide (x.cat=r.cat)<;>cases decide (x.fr=r.fr)<;>cases bil.aheadF E x r<;>simp
def putR (l:List bil.Rt) (r:bil.Rt):List bil.Rt × Int:=bil.vatPut E l r
def xE1:List AV->Option (Bool × AV)
 | [.fl .rate l,.agg [.str c,.int .i64 y,.int .i64 m,.int .i64 d,.int .i64 b]]=>some (true,.tup [.fl .rate (putR l ⟨⟨⟨c⟩⟩,⟨y,m,d⟩,b⟩).1,i64 (putR l ⟨⟨⟨c⟩⟩,⟨y,m,d⟩,b⟩).2])
 | _=>none
theorem wN5 (l:List bil.Rt) (r:bil.Rt):zB3 c14 26 s_vatPut (.tup [.lst .rate,.any]) [.fl .rate l,.agg (cRt r)] some=some (.tup [.fl .rate (putR l r).1,i64 (putR l r).2]):=by
 have e:zB3 c14 26 s_vatPut (.tup [.lst .rate,.any]) [.fl .rate l,.agg (cRt r)] some=bif bil.vatRight E l then bif !eqI (bil.rowF E r) 0 then some (.tup [.fl .rate [],i64 (bil.rowF E r)]) else lpP 26 26 l r 0 0 else some (.tup [.fl .rate [],i64 1]):=by kernel_rfl
 rw [e]
 unfold putR bil.vatPut
 cases h1:bil.vatRight E l with
 | false=>rfl
 | true =>
  rw [cond_true,if_neg (by simp),zC5]
  by_cases h2:bil.rowF E r=0
  ·have hl:=xJ6 h1
   have hany:l.any (isR r)=l.any (fun x=>decide (x.cat=r.cat)&&decide (x.fr=r.fr)):=rfl
   rw [decide_eq_true h2,if_neg (by simp [h2])]
   show lpP 26 26 l r (.ofNat 0) (.ofNat 0)=_
   rw [yK8 26 l hl r l 0 26 0 rfl (by omega) (by omega) (by omega),<- hany,Nat.zero_add]
   cases h3:l.any (isR r) with
   | true=>rfl
   | false =>
    rw [cond_false,if_neg (by simp)]
    unfold uV4
    by_cases h4:24<=l.length
    ·rw [zB0 (by simp;omega),if_pos h4];rfl
    ·rw [zB9 (by simp;omega),if_neg h4]
     simp only [Bool.not_true,cond_false]
     rw [zA0 (by omega),cond_true]
     have hpw:l.Pairwise (fun a b=>bil.aheadF E a b=true):=by
      unfold bil.vatRight at h1
      simp only [Bool.and_eq_true] at h1
      exact (bil.chain_pw (bil.ahead_trans E)).1 h1.2.2
     rw [wL1 (bil.ahead_trans E) r hpw]
     obtain⟨t1,t2⟩:=yM6 (p:=(bil.aheadF E · r)) l
     have tl:=xG0 (p:=(bil.aheadF E · r)) l
     rw [zF9,t1,t2]
     have hins:l.takeWhile (bil.aheadF E · r)++r::l.dropWhile (bil.aheadF E · r)=bil.insF (bil.aheadF E) r l:=rfl
     rw [hins,bil.insF_len]
     cases l with
     | nil=>rfl
     | cons x l =>
      rw [zL3 (by simp),cond_false,zA6 rfl,zA9 (by omega),zA0 (by omega),zA6 rfl]
      rfl
  ·rw [decide_eq_false h2,if_pos h2];rfl
def c15:ClS:=addG 55 xE1 c14
theorem snd15:zA1 Tryz.prog c15:=zC2 (uK6 snd13) mix vF1 (.tup [.lst .rate,.any]) xE1 fun xs r h=>by
 unfold xE1 at h
 split at h<;>first | (cases h;done) | skip
 rename_i l c y m d b
 cases h
 exact⟨rfl,26,wN5 l ⟨⟨⟨c⟩⟩,⟨y,m,d⟩,b⟩⟩
set_option maxHeartbeats 4000000
set_option maxRecDepth 100000
def d_srRight:SOf Tryz.prog 43 [([0,8,9,10],0)] []:=⟨_,by conv=>lhs;reduce⟩
def s_srRight:FnS:=d_srRight.1
def wS3:List Path:=[q0,q8,q9,q10]
def wV7:SC:=(⟨_,by conv=>lhs;reduce⟩:VOf (s_srRight.lp 0)).1
def wW5:SC:=(⟨_,by conv=>lhs;reduce⟩:VOf (s_srRight.af 0)).1
def wT4 {β:Type} (cl:ClS) (L:Nat) (K:AV->Mem->Option β):Ex->T AV->Mem->Option β:=kBlk 0 (kSeq (evS cl L wW5) (endS s_srRight.res K))
theorem wP8:zB2 Tryz.prog 43 s_srRight:=zA8 d_srRight.2
def d_srIs:SOf Tryz.prog 137 [] []:=⟨_,by conv=>lhs;reduce⟩
def uQ9:FnS:=d_srIs.1
theorem uZ5:zB2 Tryz.prog 137 uQ9:=zA8 d_srIs.2
def d_ixSr:SOf Tryz.prog 70 [([0,1,7,8],1)] []:=⟨_,by conv=>lhs;reduce⟩
def s_ixSr:FnS:=d_ixSr.1
def vL5:List Path:=[q0,q1,q7,q8]
def vT1:SC:=(⟨_,by conv=>lhs;reduce⟩:VOf (s_ixSr.lp 0)).1
def qI4:SC:=(⟨_,by conv=>lhs;reduce⟩:VOf (s_ixSr.af 0)).1
def vM7 {β:Type} (cl:ClS) (L:Nat) (K:AV->Mem->Option β):Ex->T AV->Mem->Option β:=kBlk 0 (kSeq (evS cl L qI4) (endS s_ixSr.res K))
theorem vG8:zB2 Tryz.prog 70 s_ixSr:=zA8 d_ixSr.2
def d_srPlace:SOf Tryz.prog 100 [] []:=⟨_,by conv=>lhs;reduce⟩
def xH0:FnS:=d_srPlace.1
theorem wP9:zB2 Tryz.prog 100 xH0:=zA8 d_srPlace.2
def d_srCopied:SOf Tryz.prog 102 [] []:=⟨_,by conv=>lhs;reduce⟩
def yR9:FnS:=d_srCopied.1
theorem xV4:zB2 Tryz.prog 102 yR9:=zA8 d_srCopied.2
def d_srOpen:SOf Tryz.prog 52 [([0,1,2,8],0)] []:=⟨_,by conv=>lhs;reduce⟩
def s_srOpen:FnS:=d_srOpen.1
def vK9:List Path:=[q0,q1,q2,q8]
def vS5:SC:=(⟨_,by conv=>lhs;reduce⟩:VOf (s_srOpen.lp 0)).1
def vU5:SC:=(⟨_,by conv=>lhs;reduce⟩:VOf (s_srOpen.af 0)).1
def vM1 {β:Type} (cl:ClS) (L:Nat) (K:AV->Mem->Option β):Ex->T AV->Mem->Option β:=kBlk 1 (kSeq (evS cl L vU5) (endS s_srOpen.res K))
theorem vF6:zB2 Tryz.prog 52 s_srOpen:=zA8 d_srOpen.2
def d_srFree:SOf Tryz.prog 103 [] []:=⟨_,by conv=>lhs;reduce⟩
def yX3:FnS:=d_srFree.1
theorem vF7:zB2 Tryz.prog 103 yX3:=zA8 d_srFree.2
def d_srShut:SOf Tryz.prog 54 [] []:=⟨_,by conv=>lhs;reduce⟩
def yG6:FnS:=d_srShut.1
theorem vF5:zB2 Tryz.prog 54 yG6:=zA8 d_srShut.2
def d_srTake:SOf Tryz.prog 145 [] []:=⟨_,by conv=>lhs;reduce⟩
def yG5:FnS:=d_srTake.1
theorem vF4:zB2 Tryz.prog 145 yG5:=zA8 d_srTake.2
def d_srFind:SOf Tryz.prog 110 [] []:=⟨_,by conv=>lhs;reduce⟩
def yX4:FnS:=d_srFind.1
theorem vF8:zB2 Tryz.prog 110 yX4:=zA8 d_srFind.2
def lpSR (L L':Nat) (l:List bil.Sr) (n:Int):Option AV:=zC7 (evS c15 L wV7) wS3 0 L' (stL [(q0,.fl .series l),(q8,.fl .series l),(q9,i64 (.ofNat l.length)),(q10,i64 n)]) m0 (wT4 c15 L fun r m=>frzK m .any r some)
theorem zW2 (L L' n:Nat) (l:List bil.Sr):lpSR L (Nat.succ L') l (.ofNat n) =
 bif ltI (.ofNat n) (.ofNat l.length) then bif inI (.ofNat n) l.length then bif E.name (nth (t:=.series) l n).name then
  bif ltI 0 (.ofNat n) then bif inI (zA3 .i64 (.ofNat n - 1)) l.length then bif !zF1 (nth (t:=.series) l (zA3 .i64 (.ofNat n - 1)).toNat).name.data.toList (nth (t:=.series) l n).name.data.toList then some (.bool false) else
   bif ltI (nth (t:=.series) l n).limit 1 then some (.bool false) else bif ltI 1099511627776 (nth (t:=.series) l n).limit then some (.bool false) else bif ltI (nth (t:=.series) l n).next 1 then some (.bool false) else
   bif ltI (zA3 .i64 ((nth (t:=.series) l n).limit+1)) (nth (t:=.series) l n).next then some (.bool false) else lpSR L L' l (zA3 .i64 (.ofNat n+1)) else none
  else
   bif ltI (nth (t:=.series) l n).limit 1 then some (.bool false) else bif ltI 1099511627776 (nth (t:=.series) l n).limit then some (.bool false) else bif ltI (nth (t:=.series) l n).next 1 then some (.bool false) else
   bif ltI (zA3 .i64 ((nth (t:=.series) l n).limit+1)) (nth (t:=.series) l n).next then some (.bool false) else lpSR L L' l (zA3 .i64 (.ofNat n+1))
  else some (.bool false) else none else some (.bool true):=by kernel_rfl
theorem srNum (x:bil.Sr) (q:Option AV):(bif ltI x.limit 1 then some (.bool false) else bif ltI 1099511627776 x.limit then some (.bool false) else bif ltI x.next 1 then some (.bool false) else bif ltI (zA3 .i64 (x.limit+1)) x.next then some (.bool false) else q) =
  bif decide (1<=x.limit)&&(decide (x.limit<=1099511627776)&&(decide (1<=x.next)&&decide (x.next<=x.limit+1))) then q else some (.bool false):=by
 rw [zE0,zE0,zE0]
 by_cases h1:x.limit < 1
 ·rw [decide_eq_true h1,decide_eq_false (by omega:¬ 1<=x.limit)];rfl
 ·rw [decide_eq_false h1,decide_eq_true (by omega:1<=x.limit)]
  by_cases h2:1099511627776 < x.limit
  ·rw [decide_eq_true h2,decide_eq_false (by omega:¬ x.limit<=1099511627776)];rfl
  ·rw [decide_eq_false h2,decide_eq_true (by omega:x.limit<=1099511627776),wrap64 ⟨by omega,by omega⟩]
   by_cases h3:x.next < 1
   ·rw [decide_eq_true h3,decide_eq_false (by omega:¬ 1<=x.next)];rfl
   ·rw [decide_eq_false h3,decide_eq_true (by omega:1<=x.next)]
    by_cases h4:x.limit+1 < x.next
    ·rw [zB9 h4,decide_eq_false (by omega:¬ x.next<=x.limit+1)];rfl
    ·rw [zB0 (by omega),decide_eq_true (by omega:x.next<=x.limit+1)];rfl
theorem yE1 (L:Nat) (l:List bil.Sr) (hl:l.length<=8):∀ (t:List bil.Sr) (n f:Nat),l.drop n=t->n<=l.length->t.length < f->lpSR L f l (.ofNat n)=some (.bool (zI5 (bil.srOk E) bil.srLt (yY6 (t:=.series) l n) t))
 | t,n,0,_,_,hf=>by omega
 | [],n,f+1,hd,hn,hf=>by
  rw [zW2,drop_nil hd hn,zB6 (Nat.le_refl _),cond_false]
  unfold zI5
  rfl
 | x::t,n,f+1,hd,hn,hf=>by
  obtain⟨h1,h2,h3⟩:=zA5 (t:=.series) hd
  have ih:=yE1 L l hl t (n+1) f h3 (by omega) (by simp at hf;omega)
  rw [yA2 h2] at ih
  rw [zW2,zB4 h1,cond_true,zA9 h1,cond_true,h2,zA2 (by omega),ih,srNum]
  have e:bil.srOk E x=(E.name x.name&&(decide (1<=x.limit)&&(decide (x.limit<=1099511627776)&&(decide (1<=x.next)&&decide (x.next<=x.limit+1))))):=rfl
  generalize (decide (1<=x.limit)&&(decide (x.limit<=1099511627776)&&(decide (1<=x.next)&&decide (x.next<=x.limit+1))))=q at *
  cases n with
  | zero =>
   rw [zU0 (t:=.series),e]
   show (bif E.name x.name then _ else _)=_
   cases E.name x.name<;>cases q<;>rfl
  | succ n =>
   rw [zQ4,cond_true,zP8 (by omega),zA9 (by omega),cond_true,zU1 (t:=.series),e,zF9,zM2]
   have e2:bil.srLt (nth (t:=.series) l n) x=bil.less (nth (t:=.series) l n).name x.name:=rfl
   rw [e2]
   cases E.name x.name<;>cases q<;>cases bil.less (nth (t:=.series) l n).name x.name<;>rfl
theorem xU1 (l:List bil.Sr):zB3 c15 10 s_srRight .any [.fl .series l] some=some (.bool (bil.srRight E l)):=by
 have e:zB3 c15 10 s_srRight .any [.fl .series l] some=bif ltI 8 (.ofNat l.length) then some (.bool false) else lpSR 10 10 l 0:=by kernel_rfl
 rw [e]
 unfold bil.srRight
 by_cases h:8 < l.length
 ·rw [zB9 (by simp;omega),cond_true,decide_eq_false (by omega)];rfl
 ·rw [zB0 (by simp;omega),cond_false,decide_eq_true (by omega),Bool.true_and]
  have:=yE1 10 l (by omega) l 0 10 rfl (by omega) (by omega)
  rw [show (0:Int)=.ofNat 0 from rfl,this]
  unfold yY6
  rw [zU2]
def yP6:List AV->Option (Bool × AV)
 | [.fl .series l]=>some (true,.bool (bil.srRight E l))
 | _=>none
def c16:ClS:=addG 43 yP6 c15
theorem snd16:zA1 Tryz.prog c16:=zC2 snd15 mix wP8 .any yP6 fun xs r h=>by
 unfold yP6 at h
 split at h<;>first | (cases h;done) | skip
 cases h
 exact⟨rfl,10,xU1 _⟩
def hp1 (B:Blk):T Blk:=.node .nil (some B) .nil
def cSr (s:bil.Sr):List AV:=[tx s.name,i64 s.next,i64 s.limit,.bool s.shut]
def vV9:List AV->Mem->Option (Bool × AV × T Blk × Nat)
 | [.agg [.str c,.int .i64 _n,.int .i64 _l,.bool _s],.ptr 0 0],⟨.node .nil (some ⟨.raw [.str q],1,false⟩) .nil,1,0,0⟩=>some (true,.bool (zC1 c q),.node .nil (some ⟨.raw [.str q],1,false⟩) .nil,1)
 | _,_=>none
def c17:ClS:=addN 137 vV9 c16
theorem snd17:zA1 Tryz.prog c17:=zE5 snd16 mix uZ5 vV9 fun xs m r h1 n1 h=>by
 unfold vV9 at h
 split at h<;>first | (cases h;done) | skip
 rename_i c n l s q
 cases h
 refine⟨rfl,0,?_⟩
 have e:zC4 c16 0 uQ9 [.agg [.str c,i64 n,i64 l,.bool s],.ptr 0 0] ⟨.node .nil (some ⟨.raw [.str q],1,false⟩) .nil,1,0,0⟩ (fun r m=>zD1 1 r m fun r m=>some (r,m.h,m.nx)) =
  bif zC1 c q then some (.bool true,.node .nil (some ⟨.raw [.str q],1,false⟩) .nil,1) else some (.bool false,.node .nil (some ⟨.raw [.str q],1,false⟩) .nil,1):=by kernel_rfl
 refine e.trans ?_
 cases zC1 c q<;>rfl
def lpSI (L L':Nat) (l:List bil.Sr) (c:List UInt8) (n:Int):Option (AV × T Blk × Nat):=zC7 (evS c17 L vT1) vL5 1 L' (stL [(q0,.fl .series l),(q1,.fn 137 [.ptr 0 0]),(q7,i64 (.ofNat l.length)),(q8,i64 n)]) ⟨hp1 ⟨.raw [.str c],1,false⟩,1,1,1⟩ (vM7 c17 L fun r m=>zD1 1 r m fun r m=>some (r,m.h,m.nx))
theorem yS4 (L L' n:Nat) (l:List bil.Sr) (c:List UInt8):lpSI L (Nat.succ L') l c (.ofNat n) =
 bif ltI (.ofNat n) (.ofNat l.length) then bif inI (.ofNat n) l.length then bif zC1 (nth (t:=.series) l n).name.data.toList c then some (i64 (.ofNat n),hp1 ⟨.raw [.str c],1,false⟩,1) else lpSI L L' l c (zA3 .i64 (.ofNat n+1)) else none
 else some (i64 (-1),hp1 ⟨.raw [.str c],1,false⟩,1):=by kernel_rfl
def srNm (c:ByteArray) (x:bil.Sr):Bool:=decide (x.name=c)
theorem xM2 (L:Nat) (l:List bil.Sr) (hl:l.length < 1000000) (c:List UInt8):∀ (t:List bil.Sr) (n f:Nat),l.drop n=t->n<=l.length->t.length < f ->
  lpSI L f l c (.ofNat n)=some (i64 (zK8 (srNm ⟨⟨c⟩⟩) n t),hp1 ⟨.raw [.str c],1,false⟩,1)
 | t,n,0,_,_,hf=>by omega
 | [],n,f+1,hd,hn,hf=>by
  rw [yS4,drop_nil hd hn,zB6 (Nat.le_refl _),cond_false]
  rfl
 | x::t,n,f+1,hd,hn,hf=>by
  obtain⟨h1,h2,h3⟩:=zA5 (t:=.series) hd
  have ih:=xM2 L l hl c t (n+1) f h3 (by omega) (by simp at hf;omega)
  have hb:=zF2 x.name ⟨⟨c⟩⟩
  simp only at hb
  rw [yS4,zB4 h1,cond_true,zA9 h1,cond_true,h2,zA2 (by omega),ih,hb,zK8]
  show _=some (i64 (bif decide (x.name=_) then _ else _),_,_)
  cases decide (x.name=⟨⟨c⟩⟩)<;>rfl
def vW4:List AV->Mem->Option (Bool × AV × T Blk × Nat)
 | [.fl .series l,.fn 137 [.ptr 0 0]],⟨.node .nil (some ⟨.raw [.str c],1,false⟩) .nil,1,0,0⟩=>some (Nat.blt l.length 1000000,i64 (ixO (bil.srAt l ⟨⟨c⟩⟩)),.node .nil (some ⟨.raw [.str c],1,false⟩) .nil,1)
 | _,_=>none
def c18:ClS:=addN 70 vW4 c17
theorem snd18:zA1 Tryz.prog c18:=zE5 snd17 mix vG8 vW4 fun xs m r h1 n1 h=>by
 unfold vW4 at h
 split at h<;>first | (cases h;done) | skip
 rename_i l c
 simp only [Option.some.injEq,Prod.mk.injEq] at h
 obtain⟨hg,rfl,rfl,rfl⟩:=h
 refine⟨rfl,l.length+1,?_⟩
 have e:zC4 c17 (l.length+1) s_ixSr [.fl .series l,.fn 137 [.ptr 0 0]] ⟨.node .nil (some ⟨.raw [.str c],1,false⟩) .nil,1,0,0⟩ (fun r m=>zD1 1 r m fun r m=>some (r,m.h,m.nx))=lpSI (l.length+1) (l.length+1) l c (.ofNat 0):=by kernel_rfl
 refine e.trans ?_
 rw [xM2 _ l (blt_iff.1 hg) c l 0 _ rfl (by omega) (by omega),zJ3]
 rfl
def yP7:List AV->Option (Bool × AV)
 | [.fl .series l,.str c]=>some (Nat.blt l.length 1000000,i64 (ixO (bil.srAt l ⟨⟨c⟩⟩)))
 | _=>none
def c19:ClS:=addG 100 yP7 c18
theorem snd19:zA1 Tryz.prog c19:=zC2 snd18 mix wP9 .any yP7 fun xs r h=>by
 unfold yP7 at h
 split at h<;>first | (cases h;done) | skip
 rename_i l c
 obtain⟨hg,rfl⟩:=Prod.mk.inj (Option.some.inj h)
 refine⟨rfl,0,?_⟩
 have e:zB3 c18 0 xH0 .any [.fl .series l,.str c] some=bif Nat.blt l.length 1000000 then some (i64 (ixO (bil.srAt l ⟨⟨c⟩⟩))) else none:=by kernel_rfl
 rw [e,hg];rfl
def yC1:List AV->Mem->Option (Bool × AV × T Blk × Nat)
 | [.fl .series []],⟨.nil,0,0,0⟩=>some (true,.nilsl,.nil,0)
 | [.fl .series (x::l)],⟨.nil,0,0,0⟩=>some (Nat.blt (x::l).length 1048576,.so 0 4 0 (x::l).length,.node .nil (some ⟨.ls .series (x::l),4,true⟩) .nil,1)
 | _,_=>none
def c20:ClS:=addN 102 yC1 c19
theorem snd20:zA1 Tryz.prog c20:=zE5 snd19 mix xV4 yC1 fun xs m r h1 n1 h=>by
 unfold yC1 at h
 split at h<;>first | (cases h;done) | skip
 ·cases h
  exact⟨rfl,0,by kernel_rfl⟩
 ·rename_i x l
  simp only [Option.some.injEq,Prod.mk.injEq] at h
  obtain⟨hg,rfl,rfl,rfl⟩:=h
  refine⟨rfl,0,?_⟩
  have e:zC4 c19 0 yR9 [.fl .series (x::l)] ⟨.nil,0,0,0⟩ (fun r m=>zD1 0 r m fun r m=>some (r,m.h,m.nx))=bif Nat.blt (x::l).length 1048576 then some (.so 0 4 0 (x::l).length,.node .nil (some ⟨.ls .series (x::l),4,true⟩) .nil,1) else none:=by kernel_rfl
  rw [e,hg];rfl
theorem wZ5 {l:List bil.Sr} (h:bil.srRight E l=true):l.length<=8:=by
 unfold bil.srRight at h
 rw [Bool.and_eq_true] at h
 exact of_decide_eq_true h.1
def c21:ClS:=addI 101 .series c20
def wC9 (l:List bil.Sr) (s:bil.Sr) (n:Nat):Option AV :=
 bif Nat.blt l.length 1048576 then bif Nat.beq l.length l.length&&(inI (.ofNat n) (l.length+1)&&Nat.blt l.length 1000000) then bif Nat.beq (l.length+1) (l.take n++s::l.drop n).length then some (.tup [.fl .series (l.take n++s::l.drop n),i64 0]) else none else none else none
def lpSO (L L':Nat) (l:List bil.Sr) (c:List UInt8) (lim n:Int):Option AV:=zC7 (evS c21 L vS5) vK9 0 L' (stL [(q0,.fl .series l),(q1,.str c),(q2,i64 lim),(q8,i64 n)]) m0 (vM1 c21 L fun r m=>frzK m (.tup [.lst .series,.any]) r some)
theorem yD2 (L L' n:Nat) (x:bil.Sr) (l:List bil.Sr) (c:List UInt8) (lim:Int):lpSO L (Nat.succ L') (x::l) c lim (.ofNat n) =
 bif ltI (.ofNat n) (.ofNat (x::l).length) then bif inI (.ofNat n) (x::l).length then bif zF1 (nth (t:=.series) (x::l) n).name.data.toList c then lpSO L L' (x::l) c lim (zA3 .i64 (.ofNat n+1)) else wC9 (x::l) ⟨⟨⟨c⟩⟩,1,lim,false⟩ n else none
 else wC9 (x::l) ⟨⟨⟨c⟩⟩,1,lim,false⟩ n:=by kernel_rfl
theorem yK9 (L:Nat) (x0:bil.Sr) (l0 l:List bil.Sr) (hl0:l=x0::l0) (hl:l.length<=8) (c:List UInt8) (lim:Int):∀ (t:List bil.Sr) (n f:Nat),l.drop n=t->n<=l.length->t.length < f ->
  lpSO L f l c lim (.ofNat n)=wC9 l ⟨⟨⟨c⟩⟩,1,lim,false⟩ (n+(t.takeWhile (bil.srLt · ⟨⟨⟨c⟩⟩,1,lim,false⟩)).length)
 | t,n,0,_,_,hf=>by omega
 | [],n,f+1,hd,hn,hf=>by
  subst hl0
  rw [yD2,drop_nil hd hn,zB6 (Nat.le_refl _),cond_false]
  rfl
 | x::t,n,f+1,hd,hn,hf=>by
  obtain⟨h1,h2,h3⟩:=zA5 (t:=.series) hd
  have ih:=yK9 L x0 l0 l hl0 hl c lim t (n+1) f h3 (by omega) (by simp at hf;omega)
  subst hl0
  have hb:=zM2 x.name ⟨⟨c⟩⟩
  simp only at hb
  rw [yD2,zB4 h1,cond_true,zA9 h1,cond_true,h2,zA2 (by omega),ih,hb,List.takeWhile_cons]
  have e:bil.srLt x ⟨⟨⟨c⟩⟩,1,lim,false⟩=bil.less x.name ⟨⟨c⟩⟩:=rfl
  rw [e]
  cases bil.less x.name ⟨⟨c⟩⟩ with
  | true =>
   rw [cond_true,if_pos rfl,List.length_cons]
   exact congrArg _ (by omega)
  | false=>rfl
def xL2 (l:List bil.Sr) (c:ByteArray) (lim:Int):List bil.Sr × Int:=bil.srOpen E l c lim
theorem wN8 (l:List bil.Sr) (c:List UInt8) (lim:Int):zB3 c21 10 s_srOpen (.tup [.lst .series,.any]) [.fl .series l,.str c,i64 lim] some=some (.tup [.fl .series (xL2 l ⟨⟨c⟩⟩ lim).1,i64 (xL2 l ⟨⟨c⟩⟩ lim).2]):=by
 have hix:∀ l:List bil.Sr,ltI (ixO (bil.srAt l ⟨⟨c⟩⟩)) 0=!l.any (fun x=>decide (x.name=⟨⟨c⟩⟩)):=fun l=>by rw [yM1];exact qT2 _ _
 cases l with
 | nil =>
  have e:zB3 c21 10 s_srOpen (.tup [.lst .series,.any]) [.fl .series [],.str c,i64 lim] some=bif E.name ⟨⟨c⟩⟩ then bif ltI lim 1 then some (.tup [.fl .series [],i64 1]) else bif ltI 1099511627776 lim then some (.tup [.fl .series [],i64 1]) else
   bif !ltI (ixO (bil.srAt [] ⟨⟨c⟩⟩)) 0 then some (.tup [.fl .series [],i64 12]) else some (.tup [.fl .series [⟨⟨⟨c⟩⟩,1,lim,false⟩],i64 0]) else some (.tup [.fl .series [],i64 8]):=by kernel_rfl
  rw [e,hix,zE0,zE0]
  unfold xL2 bil.srOpen
  rw [if_neg (by simp [bil.srRight,bil.chain])]
  cases E.name ⟨⟨c⟩⟩ with
  | false=>rfl
  | true =>
   rw [cond_true,if_neg (by simp)]
   by_cases h1:lim < 1
   ·rw [if_pos (.inl h1),decide_eq_true h1];rfl
   ·by_cases h2:1099511627776 < lim
    ·rw [if_pos (.inr h2),decide_eq_true h2,decide_eq_false h1];rfl
    ·rw [if_neg (by omega),decide_eq_false h1,decide_eq_false h2];rfl
 | cons x l =>
  have e:∀ L:Nat,zB3 c21 L s_srOpen (.tup [.lst .series,.any]) [.fl .series (x::l),.str c,i64 lim] some=bif bil.srRight E (x::l) then bif E.name ⟨⟨c⟩⟩ then bif ltI lim 1 then some (.tup [.fl .series [],i64 1]) else bif ltI 1099511627776 lim then some (.tup [.fl .series [],i64 1]) else
   bif Nat.blt (x::l).length 1000000 then bif !ltI (ixO (bil.srAt (x::l) ⟨⟨c⟩⟩)) 0 then some (.tup [.fl .series [],i64 12]) else bif !ltI (.ofNat (x::l).length) 8 then some (.tup [.fl .series [],i64 14]) else lpSO L L (x::l) c lim (.ofNat 0) else none
   else some (.tup [.fl .series [],i64 8]) else some (.tup [.fl .series [],i64 1]):=fun L=>by kernel_rfl
  rw [e,hix,zE0,zE0]
  unfold xL2 bil.srOpen
  cases h0:bil.srRight E (x::l) with
  | false=>rfl
  | true =>
   have hl:=wZ5 h0
   rw [cond_true,if_neg (by simp),zA0 (by omega)]
   cases E.name ⟨⟨c⟩⟩ with
   | false=>rfl
   | true =>
    rw [cond_true,if_neg (by simp)]
    by_cases h1:lim < 1
    ·rw [if_pos (.inl h1),decide_eq_true h1];rfl
    ·by_cases h2:1099511627776 < lim
     ·rw [if_pos (.inr h2),decide_eq_true h2,decide_eq_false h1];rfl
     ·rw [if_neg (by omega),decide_eq_false h1,decide_eq_false h2,cond_false,cond_false,cond_true,Bool.not_not]
      cases h3:(x::l).any (fun x=>decide (x.name=⟨⟨c⟩⟩)) with
      | true=>rfl
      | false =>
       rw [cond_false,if_neg (by simp)]
       by_cases h4:8<=(x::l).length
       ·rw [if_pos h4,zB0 (by simp only [Int.ofNat_eq_natCast];omega)];rfl
       ·rw [if_neg h4,zB9 (by simp only [Int.ofNat_eq_natCast];omega),Bool.not_true,cond_false,yK9 10 x l (x::l) rfl hl c lim (x::l) 0 10 rfl (by omega) (by omega),Nat.zero_add]
        unfold wC9
        obtain⟨t1,t2⟩:=yM6 (p:=(bil.srLt · ⟨⟨⟨c⟩⟩,1,lim,false⟩)) (x::l)
        have tl:=xG0 (p:=(bil.srLt · ⟨⟨⟨c⟩⟩,1,lim,false⟩)) (x::l)
        rw [t1,t2]
        have hins:(x::l).takeWhile (bil.srLt · ⟨⟨⟨c⟩⟩,1,lim,false⟩)++⟨⟨⟨c⟩⟩,1,lim,false⟩::(x::l).dropWhile (bil.srLt · ⟨⟨⟨c⟩⟩,1,lim,false⟩)=bil.insF bil.srLt ⟨⟨⟨c⟩⟩,1,lim,false⟩ (x::l):=rfl
        rw [hins,bil.insF_len,zA0 (by omega),zA6 rfl,zA9 (by omega),zA0 (by omega),zA6 rfl]
        rfl
def xE6:List AV->Option (Bool × AV)
 | [.fl .series l,.str c,.int .i64 lim]=>some (true,.tup [.fl .series (xL2 l ⟨⟨c⟩⟩ lim).1,i64 (xL2 l ⟨⟨c⟩⟩ lim).2])
 | _=>none
def c22:ClS:=addG 52 xE6 c21
theorem snd22:zA1 Tryz.prog c22:=zC2 (wU1 snd20) mix vF6 (.tup [.lst .series,.any]) xE6 fun xs r h=>by
 unfold xE6 at h
 split at h<;>first | (cases h;done) | skip
 cases h
 exact⟨rfl,10,wN8 _ _ _⟩
def zE2 (l:List bil.Sr) (c:ByteArray):Int × Int:=(.ofNat (bil.srFree E l c).1,(bil.srFree E l c).2)
theorem wN9 (l:List bil.Sr) (c:List UInt8):zB3 c22 10 yX3 (.tup [.any,.any]) [.fl .series l,.str c] some=some (.tup [i64 (zE2 l ⟨⟨c⟩⟩).1,i64 (zE2 l ⟨⟨c⟩⟩).2]):=by
 have e:zB3 c22 10 yX3 (.tup [.any,.any]) [.fl .series l,.str c] some=bif bil.srRight E l then bif Nat.blt l.length 1000000 then bif ltI (ixO (bil.srAt l ⟨⟨c⟩⟩)) 0 then some (.tup [i64 0,i64 11]) else
  bif inI (ixO (bil.srAt l ⟨⟨c⟩⟩)) l.length then bif (nth (t:=.series) l (ixO (bil.srAt l ⟨⟨c⟩⟩)).toNat).shut then some (.tup [i64 0,i64 13]) else some (.tup [i64 (ixO (bil.srAt l ⟨⟨c⟩⟩)),i64 0]) else none else none else some (.tup [i64 0,i64 1]):=by kernel_rfl
 rw [e]
 unfold zE2 bil.srFree
 cases h0:bil.srRight E l with
 | false=>rfl
 | true =>
  have hl:=wZ5 h0
  rw [cond_true,if_neg (by simp),zA0 (by omega),cond_true,yM1]
  cases h1:bil.srAt l ⟨⟨c⟩⟩ with
  | none=>rfl
  | some k =>
   obtain⟨h2,h3,_⟩:=zH4 (t:=.series) h1
   show (bif inI (.ofNat k) l.length then _ else _)=_
   rw [zA9 h2]
   simp only [h3]
   show (bif (nth (t:=.series) l k).shut then _ else _)=_
   cases (nth (t:=.series) l k).shut<;>rfl
def xE7:List AV->Option (Bool × AV)
 | [.fl .series l,.str c]=>some (true,.tup [i64 (zE2 l ⟨⟨c⟩⟩).1,i64 (zE2 l ⟨⟨c⟩⟩).2])
 | _=>none
def c23:ClS:=addG 103 xE7 c22
theorem snd23:zA1 Tryz.prog c23:=zC2 snd22 mix vF7 (.tup [.any,.any]) xE7 fun xs r h=>by
 unfold xE7 at h
 split at h<;>first | (cases h;done) | skip
 cases h
 exact⟨rfl,10,wN9 _ _⟩
theorem zS0 (l:List bil.Sr) (c:ByteArray):(zE2 l c).2≠0∨∃ k s,bil.srFree E l c=(k,0)/\zE2 l c=(.ofNat k,0)/\k < l.length/\l[k]?=some s/\nth (t:=.series) l k=s/\l.length<=8:=by
 unfold zE2
 unfold bil.srFree
 cases h0:bil.srRight E l with
 | false=>left;simp
 | true =>
  have hl:=wZ5 h0
  rw [if_neg (by simp)]
  cases h1:bil.srAt l c with
  | none=>left;simp
  | some k =>
   obtain⟨h2,h3,_⟩:=zH4 (t:=.series) h1
   simp only [h3]
   cases h4:(nth (t:=.series) l k).shut with
   | true=>left;simp
   | false=>right;exact⟨k,_,rfl,rfl,h2,h3,rfl,hl⟩
def yX1 (l:List bil.Sr) (c:ByteArray):List bil.Sr × Int:=bil.srShutF E l c
theorem wN7 (l:List bil.Sr) (c:List UInt8):zB3 c23 10 yG6 (.tup [.lst .series,.any]) [.fl .series l,.str c] some=some (.tup [.fl .series (yX1 l ⟨⟨c⟩⟩).1,i64 (yX1 l ⟨⟨c⟩⟩).2]):=by
 have hno:(zE2 l ⟨⟨c⟩⟩).2≠0->yX1 l ⟨⟨c⟩⟩=([],(zE2 l ⟨⟨c⟩⟩).2):=fun h=>by
  unfold yX1 bil.srShutF
  unfold zE2 at h ⊢
  cases hf:bil.srFree E l ⟨⟨c⟩⟩ with
  | mk k e=>rw [hf] at h;simp only at h ⊢;rw [if_pos h]
 cases l with
 | nil =>
  have e:zB3 c23 10 yG6 (.tup [.lst .series,.any]) [.fl .series [],.str c] some=bif !eqI (zE2 [] ⟨⟨c⟩⟩).2 0 then some (.tup [.fl .series [],i64 (zE2 [] ⟨⟨c⟩⟩).2]) else none:=by kernel_rfl
  rw [e]
  rcases zS0 [] ⟨⟨c⟩⟩ with h | ⟨k,s,_,_,h,_⟩
  ·rw [zB7 h,hno h];rfl
  ·simp at h
 | cons x l =>
  have e:zB3 c23 10 yG6 (.tup [.lst .series,.any]) [.fl .series (x::l),.str c] some=bif !eqI (zE2 (x::l) ⟨⟨c⟩⟩).2 0 then some (.tup [.fl .series [],i64 (zE2 (x::l) ⟨⟨c⟩⟩).2]) else
   bif Nat.blt (x::l).length 1048576 then bif inI (zE2 (x::l) ⟨⟨c⟩⟩).1 (x::l).length then bif Nat.blt (zE2 (x::l) ⟨⟨c⟩⟩).1.toNat (x::l).length then
    bif Nat.beq (x::l).length ((x::l).set (zE2 (x::l) ⟨⟨c⟩⟩).1.toNat { nth (t:=.series) (x::l) (zE2 (x::l) ⟨⟨c⟩⟩).1.toNat with shut:=true }).length then
     some (.tup [.fl .series ((x::l).set (zE2 (x::l) ⟨⟨c⟩⟩).1.toNat { nth (t:=.series) (x::l) (zE2 (x::l) ⟨⟨c⟩⟩).1.toNat with shut:=true }),i64 0]) else none else none else none else none:=by kernel_rfl
  rw [e]
  rcases zS0 (x::l) ⟨⟨c⟩⟩ with h | ⟨k,s,hf,h,hk,hs,hn,hl⟩
  ·rw [zB7 h,hno h];rfl
  ·rw [h]
   show (bif Nat.blt _ _ then bif inI (.ofNat k) _ then bif Nat.blt k _ then _ else _ else _ else _)=_
   rw [zA0 (by omega),zA9 hk,zA0 hk,zF9,hn,List.length_set,zA6 rfl]
   unfold yX1 bil.srShutF
   rw [hf]
   simp only [hs]
   rfl
def xE5:List AV->Option (Bool × AV)
 | [.fl .series l,.str c]=>some (true,.tup [.fl .series (yX1 l ⟨⟨c⟩⟩).1,i64 (yX1 l ⟨⟨c⟩⟩).2])
 | _=>none
def c24:ClS:=addG 54 xE5 c23
theorem snd24:zA1 Tryz.prog c24:=zC2 snd23 mix vF5 (.tup [.lst .series,.any]) xE5 fun xs r h=>by
 unfold xE5 at h
 split at h<;>first | (cases h;done) | skip
 cases h
 exact⟨rfl,10,wN7 _ _⟩
def zJ6 (l:List bil.Sr) (c:ByteArray):List bil.Sr × Int × Int:=match bil.srTakeF E l c with
 | .inr e=>([],0,e)
 | .inl (l',n)=>(l',n,0)
theorem wN6 (l:List bil.Sr) (c:List UInt8):zB3 c24 10 yG5 (.tup [.lst .series,.any,.any]) [.fl .series l,.str c] some=some (.tup [.fl .series (zJ6 l ⟨⟨c⟩⟩).1,i64 (zJ6 l ⟨⟨c⟩⟩).2.1,i64 (zJ6 l ⟨⟨c⟩⟩).2.2]):=by
 have hno:(zE2 l ⟨⟨c⟩⟩).2≠0->zJ6 l ⟨⟨c⟩⟩=([],0,(zE2 l ⟨⟨c⟩⟩).2):=fun h=>by
  unfold zJ6 bil.srTakeF
  unfold zE2 at h ⊢
  cases hf:bil.srFree E l ⟨⟨c⟩⟩ with
  | mk k e=>rw [hf] at h;simp only at h ⊢;rw [if_pos h]
 cases l with
 | nil =>
  have e:∀ L,zB3 c24 L yG5 (.tup [.lst .series,.any,.any]) [.fl .series [],.str c] some=bif !eqI (zE2 [] ⟨⟨c⟩⟩).2 0 then some (.tup [.fl .series [],i64 0,i64 (zE2 [] ⟨⟨c⟩⟩).2]) else
   bif inI (zE2 [] ⟨⟨c⟩⟩).1 0 then bif inI (zE2 [] ⟨⟨c⟩⟩).1 0 then bif ltI (nth (t:=.series) [] (zE2 [] ⟨⟨c⟩⟩).1.toNat).limit (nth (t:=.series) [] (zE2 [] ⟨⟨c⟩⟩).1.toNat).next then some (.tup [.fl .series [],i64 0,i64 14]) else none else none else none:=fun L=>by kernel_rfl
  rw [e]
  rcases zS0 [] ⟨⟨c⟩⟩ with h | ⟨k,s,_,_,h,_⟩
  ·rw [zB7 h,hno h];rfl
  ·simp at h
 | cons x l =>
  have e:∀ L,zB3 c24 L yG5 (.tup [.lst .series,.any,.any]) [.fl .series (x::l),.str c] some=bif !eqI (zE2 (x::l) ⟨⟨c⟩⟩).2 0 then some (.tup [.fl .series [],i64 0,i64 (zE2 (x::l) ⟨⟨c⟩⟩).2]) else
   bif inI (zE2 (x::l) ⟨⟨c⟩⟩).1 (x::l).length then bif inI (zE2 (x::l) ⟨⟨c⟩⟩).1 (x::l).length then
   bif ltI (nth (t:=.series) (x::l) (zE2 (x::l) ⟨⟨c⟩⟩).1.toNat).limit (nth (t:=.series) (x::l) (zE2 (x::l) ⟨⟨c⟩⟩).1.toNat).next then some (.tup [.fl .series [],i64 0,i64 14]) else
   bif Nat.blt (x::l).length 1048576 then bif inI (zE2 (x::l) ⟨⟨c⟩⟩).1 (x::l).length then bif Nat.blt (zE2 (x::l) ⟨⟨c⟩⟩).1.toNat (x::l).length then bif inI (zE2 (x::l) ⟨⟨c⟩⟩).1 (x::l).length then bif Nat.blt (zE2 (x::l) ⟨⟨c⟩⟩).1.toNat (x::l).length then
    bif Nat.beq (x::l).length ((x::l).set (zE2 (x::l) ⟨⟨c⟩⟩).1.toNat { nth (t:=.series) (x::l) (zE2 (x::l) ⟨⟨c⟩⟩).1.toNat with next:=zA3 .i64 ((nth (t:=.series) (x::l) (zE2 (x::l) ⟨⟨c⟩⟩).1.toNat).next+1) }).length then
     some (.tup [.fl .series ((x::l).set (zE2 (x::l) ⟨⟨c⟩⟩).1.toNat { nth (t:=.series) (x::l) (zE2 (x::l) ⟨⟨c⟩⟩).1.toNat with next:=zA3 .i64 ((nth (t:=.series) (x::l) (zE2 (x::l) ⟨⟨c⟩⟩).1.toNat).next+1) }),i64 (nth (t:=.series) (x::l) (zE2 (x::l) ⟨⟨c⟩⟩).1.toNat).next,i64 0])
     else none else none else none else none else none else none else none else none:=fun L=>by kernel_rfl
  rw [e]
  rcases zS0 (x::l) ⟨⟨c⟩⟩ with h | ⟨k,s,hf,h,hk,hs,hn,hl⟩
  ·rw [zB7 h,hno h];rfl
  ·have hok:bil.srOk E s=true:=by
    have hr:bil.srRight E (x::l)=true:=by
     cases hq:bil.srRight E (x::l) with
     | true=>rfl
     | false=>unfold bil.srFree at hf;rw [hq] at hf;simp at hf
    unfold bil.srRight at hr
    simp only [Bool.and_eq_true,List.all_eq_true] at hr
    exact hr.2.1 s (List.mem_of_getElem? hs)
   rw [h]
   show (bif inI (.ofNat k) _ then _ else _)=_
   rw [zA9 hk,zF9,hn]
   unfold zJ6 bil.srTakeF
   rw [hf]
   simp only [hs]
   rw [if_neg (by decide)]
   by_cases hlim:s.limit < s.next
   ·rw [zB9 hlim,if_pos hlim];rfl
   ·rw [zB0 (by omega),if_neg hlim,zA0 (show (x::l).length < 1048576 by omega),zA0 hk,List.length_set,zA6 rfl]
    unfold bil.srOk at hok
    simp only [Bool.and_eq_true,decide_eq_true_eq] at hok
    rw [wrap64 ⟨by omega,by omega⟩]
    rfl
def xE4:List AV->Option (Bool × AV)
 | [.fl .series l,.str c]=>some (true,.tup [.fl .series (zJ6 l ⟨⟨c⟩⟩).1,i64 (zJ6 l ⟨⟨c⟩⟩).2.1,i64 (zJ6 l ⟨⟨c⟩⟩).2.2])
 | _=>none
def c25:ClS:=addG 145 xE4 c24
theorem snd25:zA1 Tryz.prog c25:=zC2 snd24 mix vF4 (.tup [.lst .series,.any,.any]) xE4 fun xs r h=>by
 unfold xE4 at h
 split at h<;>first | (cases h;done) | skip
 cases h
 exact⟨rfl,10,wN6 _ _⟩
def uQ5:bil.Sr:=⟨⟨⟨[]⟩⟩,0,0,false⟩
def yG1 (l:List bil.Sr) (c:ByteArray):bil.Sr × Bool:=match bil.srAt l c with
 | some k=>(nth (t:=.series) l k,true)
 | none=>(uQ5,false)
theorem wO0 (l:List bil.Sr) (c:List UInt8) (hl:l.length < 1000000):zB3 c25 10 yX4 (.tup [.any,.any]) [.fl .series l,.str c] some=some (.tup [.agg (cSr (yG1 l ⟨⟨c⟩⟩).1),.bool (yG1 l ⟨⟨c⟩⟩).2]):=by
 have e:∀ L,zB3 c25 L yX4 (.tup [.any,.any]) [.fl .series l,.str c] some=bif Nat.blt l.length 1000000 then bif ltI (ixO (bil.srAt l ⟨⟨c⟩⟩)) 0 then some (.tup [.agg (cSr uQ5),.bool false]) else bif inI (ixO (bil.srAt l ⟨⟨c⟩⟩)) l.length then some (.tup [.agg (cSr (nth (t:=.series) l (ixO (bil.srAt l ⟨⟨c⟩⟩)).toNat)),.bool true]) else none else none:=fun L=>by kernel_rfl
 rw [e,zA0 hl,cond_true,yM1]
 unfold yG1
 cases h1:bil.srAt l ⟨⟨c⟩⟩ with
 | none=>rfl
 | some k =>
  obtain⟨h2,_,_⟩:=zH4 (t:=.series) h1
  show (bif inI (.ofNat k) l.length then _ else _)=_
  rw [zA9 h2]
  rfl
def xE8:List AV->Option (Bool × AV)
 | [.fl .series l,.str c]=>some (Nat.blt l.length 1000000,.tup [.agg (cSr (yG1 l ⟨⟨c⟩⟩).1),.bool (yG1 l ⟨⟨c⟩⟩).2])
 | _=>none
def c26:ClS:=addG 110 xE8 c25
theorem snd26:zA1 Tryz.prog c26:=zC2 snd25 mix vF8 (.tup [.any,.any]) xE8 fun xs r h=>by
 unfold xE8 at h
 split at h<;>first | (cases h;done) | skip
 obtain⟨hg,rfl⟩:=Prod.mk.inj (Option.some.inj h)
 exact⟨rfl,10,wO0 _ _ (blt_iff.1 hg)⟩
set_option maxHeartbeats 4000000
set_option maxRecDepth 100000
def d_sesRight:SOf Tryz.prog 50 [([3,9,10,11],0)] []:=⟨(⟨_,by conv=>lhs;reduce⟩:GOf (gS Tryz.prog 50 [([3,9,10,11],0)] [])).1,by kernel_rfl⟩
def s_sesRight:FnS:=d_sesRight.1
def xW6:List Path:=[q3,q9,q10,q11]
def xZ3:SC:=(⟨_,by conv=>lhs;reduce⟩:VOf (s_sesRight.lp 0)).1
def xZ9:SC:=(⟨_,by conv=>lhs;reduce⟩:VOf (s_sesRight.af 0)).1
def xW8 {β:Type} (cl:ClS) (L:Nat) (K:AV->Mem->Option β):Ex->T AV->Mem->Option β:=kBlk 0 (kSeq (evS cl L xZ9) (endS s_sesRight.res K))
theorem xV6:zB2 Tryz.prog 50 s_sesRight:=zA8 d_sesRight.2
def d_sesIs:SOf Tryz.prog 99 [] []:=⟨_,by conv=>lhs;reduce⟩
def vA8:FnS:=d_sesIs.1
theorem uE1:zB2 Tryz.prog 99 vA8:=zA8 d_sesIs.2
def d_ixSes:SOf Tryz.prog 98 [([0,1,7,8],1)] []:=⟨_,by conv=>lhs;reduce⟩
def s_ixSes:FnS:=d_ixSes.1
def uI8:List Path:=[q0,q1,q7,q8]
def uO3:SC:=(⟨_,by conv=>lhs;reduce⟩:VOf (s_ixSes.lp 0)).1
def uP7:SC:=(⟨_,by conv=>lhs;reduce⟩:VOf (s_ixSes.af 0)).1
def uK0 {β:Type} (cl:ClS) (L:Nat) (K:AV->Mem->Option β):Ex->T AV->Mem->Option β:=kBlk 0 (kSeq (evS cl L uP7) (endS s_ixSes.res K))
theorem uE6:zB2 Tryz.prog 98 s_ixSes:=zA8 d_ixSes.2
def d_sesPlace:SOf Tryz.prog 51 [] []:=⟨_,by conv=>lhs;reduce⟩
def yS1:FnS:=d_sesPlace.1
theorem xV7:zB2 Tryz.prog 51 yS1:=zA8 d_sesPlace.2
def d_sesJoin:SOf Tryz.prog 49 [([0,1,6],0)] []:=⟨_,by conv=>lhs;reduce⟩
def s_sesJoin:FnS:=d_sesJoin.1
def wS4:List Path:=[q0,q1,q6]
def wV8:SC:=(⟨_,by conv=>lhs;reduce⟩:VOf (s_sesJoin.lp 0)).1
def wW6:SC:=(⟨_,by conv=>lhs;reduce⟩:VOf (s_sesJoin.af 0)).1
def wT5 {β:Type} (cl:ClS) (L:Nat) (K:AV->Mem->Option β):Ex->T AV->Mem->Option β:=kBlk 1 (kSeq (evS cl L wW6) (endS s_sesJoin.res K))
theorem wQ2:zB2 Tryz.prog 49 s_sesJoin:=zA8 d_sesJoin.2
def d_sesLeave:SOf Tryz.prog 59 [] []:=⟨_,by conv=>lhs;reduce⟩
def zR4:FnS:=d_sesLeave.1
theorem xV8:zB2 Tryz.prog 59 zR4:=zA8 d_sesLeave.2
def d_sesLook:SOf Tryz.prog 15 [] []:=⟨_,by conv=>lhs;reduce⟩
def yI6:FnS:=d_sesLook.1
theorem wQ0:zB2 Tryz.prog 15 yI6:=zA8 d_sesLook.2
def d_sesKeep:SOf Tryz.prog 17 [] []:=⟨_,by conv=>lhs;reduce⟩
def zW0:FnS:=d_sesKeep.1
theorem wQ1:zB2 Tryz.prog 17 zW0:=zA8 d_sesKeep.2
def vB7:Int->List bil.Ses->Bool
 | _,[]=>true
 | la,x::t=>decide (la < x.id)&&(bil.sesOk x&&vB7 x.id t)
theorem wE0:∀ (la:Int) (l:List bil.Ses),vB7 la l=(l.all bil.sesOk&&(l.all (fun s=>decide (la < s.id))&&bil.chain bil.sesLt l))
 | la,[]=>rfl
 | la,x::t=>by
  rw [vB7,wE0 x.id t,Bool.eq_iff_iff]
  simp only [Bool.and_eq_true,List.all_cons,List.all_eq_true,bil.chain_pw bil.sesLt_trans,List.pairwise_cons,decide_eq_true_eq]
  unfold bil.sesLt
  simp only [decide_eq_true_eq]
  constructor
  ·rintro ⟨h1,h2,h3,h4,h5⟩
   exact⟨⟨h2,h3⟩,⟨h1,fun y hy=>Int.lt_trans h1 (h4 y hy)⟩,h4,h5⟩
  ·rintro ⟨⟨h2,h3⟩,⟨h1,_⟩,h4,h5⟩
   exact⟨h1,h2,h3,h4,h5⟩
def lpSs (L L':Nat) (l:List bil.Ses) (la n:Int):Option AV:=zC7 (evS c26 L xZ3) xW6 0 L' (stL [(q3,i64 la),(q9,.fl .ses l),(q10,i64 (.ofNat l.length)),(q11,i64 n)]) m0 (xW8 c26 L fun r m=>frzK m .any r some)
def uG1 (r:bil.Rp):Bool:=eqI r.why 0&&(eqI r.number 0&&(eqI r.gross 0&&true))
theorem uG0 (r:bil.Rp):uG1 r=decide (r=⟨0,0,0⟩):=by
 obtain⟨a,b,c⟩:=r
 unfold uG1
 simp only [zC5,bil.Rp.mk.injEq]
 by_cases h1:a=0<;>by_cases h2:b=0<;>by_cases h3:c=0<;>simp [h1,h2,h3]
theorem zS7 (L L' n:Nat) (l:List bil.Ses) (la:Int):lpSs L (Nat.succ L') l la (.ofNat n) =
 bif ltI (.ofNat n) (.ofNat l.length) then bif inI (.ofNat n) l.length then bif !ltI la (nth (t:=.ses) l n).id then some (.bool false) else bif ltI (nth (t:=.ses) l n).last 0 then some (.bool false) else bif ltI 1099511627776 (nth (t:=.ses) l n).last then some (.bool false) else
  bif eqI (nth (t:=.ses) l n).last 0 then bif (bif true then !uG1 (nth (t:=.ses) l n).rep else uG1 (nth (t:=.ses) l n).rep) then some (.bool false) else lpSs L L' l (nth (t:=.ses) l n).id (zA3 .i64 (.ofNat n+1))
  else lpSs L L' l (nth (t:=.ses) l n).id (zA3 .i64 (.ofNat n+1)) else none else some (.bool true):=by kernel_rfl
theorem zX4 (L:Nat) (l:List bil.Ses) (hl:l.length<=8):∀ (t:List bil.Ses) (n f:Nat) (la:Int),l.drop n=t->n<=l.length->t.length < f->lpSs L f l la (.ofNat n)=some (.bool (vB7 la t))
 | t,n,0,la,_,_,hf=>by omega
 | [],n,f+1,la,hd,hn,hf=>by
  rw [zS7,drop_nil hd hn,zB6 (Nat.le_refl _),cond_false]
  rfl
 | x::t,n,f+1,la,hd,hn,hf=>by
  obtain⟨h1,h2,h3⟩:=zA5 (t:=.ses) hd
  have ih:=fun la=>zX4 L l hl t (n+1) f la h3 (by omega) (by simp at hf;omega)
  rw [zS7,zB4 h1,cond_true,zA9 h1,cond_true,h2,zA2 (by omega),ih,cond_true,uG0,zE0,zE0,zE0,zC5]
  show _=some (AV.bool (decide (la < x.id)&&(bil.sesOk x&&vB7 x.id t)))
  unfold bil.sesOk
  by_cases a1:la < x.id
  ·by_cases a2:x.last < 0
   ·simp [a1,a2,show ¬ 0<=x.last by omega]
   ·by_cases a3:1099511627776 < x.last
    ·simp [a1,a2,a3,show ¬ x.last<=1099511627776 by omega]
    ·by_cases a4:x.last=0
     ·by_cases a5:x.rep=⟨0,0,0⟩<;>simp [a1,a4,a5]
     ·simp [a1,a2,a3,a4,show 0<=x.last by omega,show x.last<=1099511627776 by omega]
  ·simp [a1]
theorem xH7 (l:List bil.Ses):zB3 c26 10 s_sesRight .any [.fl .ses l] some=some (.bool (bil.sesRight l)):=by
 have e:∀ L,zB3 c26 L s_sesRight .any [.fl .ses l] some=bif ltI 8 (.ofNat l.length) then some (.bool false) else lpSs L L l 0 (.ofNat 0):=fun L=>by kernel_rfl
 rw [e]
 unfold bil.sesRight
 by_cases h:8 < l.length
 ·rw [zB9 (by simp;omega),cond_true,decide_eq_false (by omega)];rfl
 ·rw [zB0 (by simp;omega),cond_false,decide_eq_true (by omega),Bool.true_and,zX4 10 l (by omega) l 0 10 0 rfl (by omega) (by omega),wE0]
def yC4:List AV->Option (Bool × AV)
 | [.fl .ses l]=>some (true,.bool (bil.sesRight l))
 | _=>none
def c27:ClS:=addG 50 yC4 c26
theorem snd27:zA1 Tryz.prog c27:=zC2 snd26 mix xV6 .any yC4 fun xs r h=>by
 unfold yC4 at h
 split at h<;>first | (cases h;done) | skip
 cases h
 exact⟨rfl,10,xH7 _⟩
theorem yX2 {l:List bil.Ses} (h:bil.sesRight l=true):l.length<=8:=by
 unfold bil.sesRight at h
 rw [Bool.and_eq_true] at h
 exact of_decide_eq_true h.1
def wA7:List AV->Mem->Option (Bool × AV × T Blk × Nat)
 | [.agg [.int .i64 i,.int .i64 _l,.int .i64 _w,.int .i64 _n,.int .i64 _g],.ptr 0 0],⟨.node .nil (some ⟨.raw [.int .i64 q],1,false⟩) .nil,1,0,0⟩=>some (true,.bool (eqI i q),.node .nil (some ⟨.raw [.int .i64 q],1,false⟩) .nil,1)
 | _,_=>none
def c28:ClS:=addN 99 wA7 c27
theorem snd28:zA1 Tryz.prog c28:=zE5 snd27 mix uE1 wA7 fun xs m r h1 n1 h=>by
 unfold wA7 at h
 split at h<;>first | (cases h;done) | skip
 rename_i i l w n g q
 cases h
 refine⟨rfl,0,?_⟩
 have e:zC4 c27 0 vA8 [.agg [i64 i,i64 l,i64 w,i64 n,i64 g],.ptr 0 0] ⟨.node .nil (some ⟨.raw [i64 q],1,false⟩) .nil,1,0,0⟩ (fun r m=>zD1 1 r m fun r m=>some (r,m.h,m.nx)) =
  bif eqI i q then some (.bool true,.node .nil (some ⟨.raw [i64 q],1,false⟩) .nil,1) else some (.bool false,.node .nil (some ⟨.raw [i64 q],1,false⟩) .nil,1):=by kernel_rfl
 refine e.trans ?_
 cases eqI i q<;>rfl
def lpSt (L L':Nat) (l:List bil.Ses) (c n:Int):Option (AV × T Blk × Nat):=zC7 (evS c28 L uO3) uI8 1 L' (stL [(q0,.fl .ses l),(q1,.fn 99 [.ptr 0 0]),(q7,i64 (.ofNat l.length)),(q8,i64 n)]) ⟨hp1 ⟨.raw [i64 c],1,false⟩,1,1,1⟩ (uK0 c28 L fun r m=>zD1 1 r m fun r m=>some (r,m.h,m.nx))
theorem yJ3 (L L' n:Nat) (l:List bil.Ses) (c:Int):lpSt L (Nat.succ L') l c (.ofNat n) =
 bif ltI (.ofNat n) (.ofNat l.length) then bif inI (.ofNat n) l.length then bif eqI (nth (t:=.ses) l n).id c then some (i64 (.ofNat n),hp1 ⟨.raw [i64 c],1,false⟩,1) else lpSt L L' l c (zA3 .i64 (.ofNat n+1)) else none
 else some (i64 (-1),hp1 ⟨.raw [i64 c],1,false⟩,1):=by kernel_rfl
def sesI (c:Int) (x:bil.Ses):Bool:=x.id == c
theorem yU1 (L:Nat) (l:List bil.Ses) (hl:l.length < 1000000) (c:Int):∀ (t:List bil.Ses) (n f:Nat),l.drop n=t->n<=l.length->t.length < f ->
  lpSt L f l c (.ofNat n)=some (i64 (zK8 (sesI c) n t),hp1 ⟨.raw [i64 c],1,false⟩,1)
 | t,n,0,_,_,hf=>by omega
 | [],n,f+1,hd,hn,hf=>by
  rw [yJ3,drop_nil hd hn,zB6 (Nat.le_refl _),cond_false]
  rfl
 | x::t,n,f+1,hd,hn,hf=>by
  obtain⟨h1,h2,h3⟩:=zA5 (t:=.ses) hd
  have ih:=yU1 L l hl c t (n+1) f h3 (by omega) (by simp at hf;omega)
  rw [yJ3,zB4 h1,cond_true,zA9 h1,cond_true,h2,zA2 (by omega),ih,zC5,zK8]
  show _=some (i64 (bif decide (x.id=c) then _ else _),_,_)
  cases decide (x.id=c)<;>rfl
def wA9:List AV->Mem->Option (Bool × AV × T Blk × Nat)
 | [.fl .ses l,.fn 99 [.ptr 0 0]],⟨.node .nil (some ⟨.raw [.int .i64 c],1,false⟩) .nil,1,0,0⟩=>some (Nat.blt l.length 1000000,i64 (ixO (bil.sesAt l c)),.node .nil (some ⟨.raw [.int .i64 c],1,false⟩) .nil,1)
 | _,_=>none
def c29:ClS:=addN 98 wA9 c28
theorem snd29:zA1 Tryz.prog c29:=zE5 snd28 mix uE6 wA9 fun xs m r h1 n1 h=>by
 unfold wA9 at h
 split at h<;>first | (cases h;done) | skip
 rename_i l c
 simp only [Option.some.injEq,Prod.mk.injEq] at h
 obtain⟨hg,rfl,rfl,rfl⟩:=h
 refine⟨rfl,l.length+1,?_⟩
 have e:∀ L,zC4 c28 L s_ixSes [.fl .ses l,.fn 99 [.ptr 0 0]] ⟨.node .nil (some ⟨.raw [i64 c],1,false⟩) .nil,1,0,0⟩ (fun r m=>zD1 1 r m fun r m=>some (r,m.h,m.nx))=lpSt L L l c (.ofNat 0):=fun L=>by kernel_rfl
 refine (e _).trans ?_
 rw [yU1 _ l (blt_iff.1 hg) c l 0 _ rfl (by omega) (by omega),zJ3]
 rfl
def yC5:List AV->Option (Bool × AV)
 | [.fl .ses l,.int .i64 c]=>some (Nat.blt l.length 1000000,i64 (ixO (bil.sesAt l c)))
 | _=>none
def c30:ClS:=xZ7 51 [.lst .ses,.any] yC5 c29
theorem snd30:zA1 Tryz.prog c30:=xZ5 snd29 mix xV7 .any [.lst .ses,.any] yC5 fun xs r h=>by
 unfold yC5 at h
 split at h<;>first | (cases h;done) | skip
 rename_i l c
 obtain⟨hg,rfl⟩:=Prod.mk.inj (Option.some.inj h)
 refine⟨rfl,0,?_⟩
 have e:zB3 c29 0 yS1 .any [.fl .ses l,i64 c] some=bif Nat.blt l.length 1000000 then some (i64 (ixO (bil.sesAt l c))) else none:=by kernel_rfl
 refine e.trans ?_
 rw [hg];rfl
def c31:ClS:=addD 109 (addI 97 .ses c30)
theorem snd31:zA1 Tryz.prog c31:=qF7 (qE2 snd30)
def zJ9 (id:Int):bil.Ses:=⟨id,0,⟨0,0,0⟩⟩
def wD0 (l:List bil.Ses) (s:bil.Ses) (n:Nat):Option AV :=
 bif Nat.blt l.length 1048576 then bif Nat.beq l.length l.length&&(inI (.ofNat n) (l.length+1)&&Nat.blt l.length 1000000) then bif Nat.beq (l.length+1) (l.take n++s::l.drop n).length then some (.tup [.fl .ses (l.take n++s::l.drop n),i64 0]) else none else none else none
def lpSJ (L L':Nat) (l:List bil.Ses) (id n:Int):Option AV:=zC7 (evS c31 L wV8) wS4 0 L' (stL [(q0,.fl .ses l),(q1,i64 id),(q6,i64 n)]) m0 (wT5 c31 L fun r m=>frzK m (.tup [.lst .ses,.any]) r some)
theorem zW3 (L L' n:Nat) (x:bil.Ses) (l:List bil.Ses) (id:Int):lpSJ L (Nat.succ L') (x::l) id (.ofNat n) =
 bif ltI (.ofNat n) (.ofNat (x::l).length) then bif inI (.ofNat n) (x::l).length then bif ltI (nth (t:=.ses) (x::l) n).id id then lpSJ L L' (x::l) id (zA3 .i64 (.ofNat n+1)) else wD0 (x::l) (zJ9 id) n else none
 else wD0 (x::l) (zJ9 id) n:=by kernel_rfl
theorem yE2 (L:Nat) (x0:bil.Ses) (l0 l:List bil.Ses) (hl0:l=x0::l0) (hl:l.length<=8) (id:Int):∀ (t:List bil.Ses) (n f:Nat),l.drop n=t->n<=l.length->t.length < f ->
  lpSJ L f l id (.ofNat n)=wD0 l (zJ9 id) (n+(t.takeWhile (bil.sesLt · (zJ9 id))).length)
 | t,n,0,_,_,hf=>by omega
 | [],n,f+1,hd,hn,hf=>by
  subst hl0
  rw [zW3,drop_nil hd hn,zB6 (Nat.le_refl _),cond_false]
  rfl
 | x::t,n,f+1,hd,hn,hf=>by
  obtain⟨h1,h2,h3⟩:=zA5 (t:=.ses) hd
  have ih:=yE2 L x0 l0 l hl0 hl id t (n+1) f h3 (by omega) (by simp at hf;omega)
  subst hl0
  rw [zW3,zB4 h1,cond_true,zA9 h1,cond_true,h2,zA2 (by omega),ih,List.takeWhile_cons,zE0]
  have e:bil.sesLt x (zJ9 id)=decide (x.id < id):=rfl
  rw [e]
  cases decide (x.id < id) with
  | true =>
   rw [cond_true,if_pos rfl,List.length_cons]
   exact congrArg _ (by omega)
  | false=>rfl
def yA9 (l:List bil.Ses) (id:Int):List bil.Ses × Int :=
 if bil.sesRight l=false∨id < 1 then ([],1) else if (bil.sesAt l id).isSome then ([],12) else if 8<=l.length then ([],14) else (bil.insF bil.sesLt (zJ9 id) l,0)
theorem xG3 (id:Int):zB3 c31 10 s_sesJoin (.tup [.lst .ses,.any]) [.fl .ses [],i64 id] some=bif ltI id 1 then some (.tup [.fl .ses [],i64 1]) else some (.tup [.fl .ses [zJ9 id],i64 0]):=by kernel_rfl
theorem xG2 (L:Nat) (x:bil.Ses) (l:List bil.Ses) (id:Int):zB3 c31 L s_sesJoin (.tup [.lst .ses,.any]) [.fl .ses (x::l),i64 id] some=bif bil.sesRight (x::l) then bif ltI id 1 then some (.tup [.fl .ses [],i64 1]) else
 bif true&&(true&&true)&&Nat.blt (x::l).length 1000000 then bif !ltI (ixO (bil.sesAt (x::l) id)) 0 then some (.tup [.fl .ses [],i64 12]) else bif !ltI (.ofNat (x::l).length) 8 then some (.tup [.fl .ses [],i64 14]) else lpSJ L L (x::l) id (.ofNat 0) else none
 else some (.tup [.fl .ses [],i64 1]):=by kernel_rfl
theorem qT1 (id:Int):some (AV.tup [AV.fl .ses (yA9 [] id).1,i64 (yA9 [] id).2])=bif decide (id < 1) then some (AV.tup [AV.fl .ses [],i64 1]) else some (AV.tup [AV.fl .ses [zJ9 id],i64 0]):=by
 unfold yA9
 by_cases h:id < 1
 ·rw [if_pos (.inr h),decide_eq_true h,cond_true]
 ·have e1:(bil.sesAt [] id).isSome=false:=rfl
  have e2:bil.insF bil.sesLt (zJ9 id) []=[zJ9 id]:=rfl
  rw [if_neg (fun hh=>hh.elim (fun hh=>by simp [bil.sesRight,bil.chain] at hh) h),decide_eq_false h,cond_false,e1,if_neg (by decide),if_neg (by decide),e2]
theorem xU4 (l:List bil.Ses) (id:Int):zB3 c31 10 s_sesJoin (.tup [.lst .ses,.any]) [.fl .ses l,i64 id] some=some (.tup [.fl .ses (yA9 l id).1,i64 (yA9 l id).2]):=by
 cases l with
 | nil=>rw [xG3,qT1,zE0]
 | cons x l =>
  rw [xG2,zE0,yM1]
  unfold yA9
  cases h0:bil.sesRight (x::l) with
  | false=>rw [if_pos (.inl rfl),cond_false]
  | true =>
   have hl:=yX2 h0
   rw [cond_true,zA0 (show (x::l).length < 1000000 by omega),Bool.and_self,Bool.and_self,Bool.and_self,cond_true]
   by_cases h:id < 1
   ·rw [if_pos (.inr h),decide_eq_true h,cond_true]
   ·rw [if_neg (fun hh=>hh.elim (fun hh=>by cases hh) h),decide_eq_false h,cond_false]
    cases h1:bil.sesAt (x::l) id with
    | some k =>
     rw [show (some k:Option Nat).isNone=false from rfl,show (some k:Option Nat).isSome=true from rfl,if_pos rfl]
     rfl
    | none =>
     rw [show (none:Option Nat).isNone=true from rfl,show (none:Option Nat).isSome=false from rfl,if_neg (by decide),Bool.not_true,cond_false]
     by_cases h4:8<=(x::l).length
     ·rw [if_pos h4,zB0 (by simp only [Int.ofNat_eq_natCast];omega),Bool.not_false,cond_true]
     ·rw [if_neg h4,zB9 (by simp only [Int.ofNat_eq_natCast];omega),Bool.not_true,cond_false,yE2 10 x l (x::l) rfl hl id (x::l) 0 10 rfl (by omega) (by omega),Nat.zero_add]
      unfold wD0
      obtain⟨t1,t2⟩:=yM6 (p:=(bil.sesLt · (zJ9 id))) (x::l)
      have tl:=xG0 (p:=(bil.sesLt · (zJ9 id))) (x::l)
      rw [t1,t2]
      have hins:(x::l).takeWhile (bil.sesLt · (zJ9 id))++zJ9 id::(x::l).dropWhile (bil.sesLt · (zJ9 id))=bil.insF bil.sesLt (zJ9 id) (x::l):=rfl
      rw [hins,bil.insF_len,zA0 (by omega),zA6 rfl,zA9 (by omega),zA0 (by omega),zA6 rfl]
      rfl
def yQ0:List AV->Option (Bool × AV)
 | [.fl .ses l,.int .i64 id]=>some (true,.tup [.fl .ses (yA9 l id).1,i64 (yA9 l id).2])
 | _=>none
def c32:ClS:=addG 49 yQ0 c31
theorem snd32:zA1 Tryz.prog c32:=zC2 snd31 mix wQ2 (.tup [.lst .ses,.any]) yQ0 fun xs r h=>by
 unfold yQ0 at h
 split at h<;>first | (cases h;done) | skip
 cases h
 exact⟨rfl,10,xU4 _ _⟩
def zX6 (l:List bil.Ses) (id:Int):List bil.Ses × Int:=if bil.sesRight l=false then ([],1) else bil.sesLeave l id
theorem xH8 (l:List bil.Ses) (id:Int):zB3 c32 10 zR4 (.tup [.lst .ses,.any]) [.fl .ses l,i64 id] some=some (.tup [.fl .ses (zX6 l id).1,i64 (zX6 l id).2]):=by
 cases l with
 | nil =>
  have e:∀ L,zB3 c32 L zR4 (.tup [.lst .ses,.any]) [.fl .ses [],i64 id] some=bif ltI (ixO (bil.sesAt [] id)) 0 then some (.tup [.fl .ses [],i64 11]) else none:=fun L=>by kernel_rfl
  rw [e,yM1]
  rfl
 | cons x l =>
  have e:∀ L,zB3 c32 L zR4 (.tup [.lst .ses,.any]) [.fl .ses (x::l),i64 id] some=bif bil.sesRight (x::l) then bif true&&(true&&true)&&Nat.blt (x::l).length 1000000 then bif ltI (ixO (bil.sesAt (x::l) id)) 0 then some (.tup [.fl .ses [],i64 11]) else
   bif Nat.blt (x::l).length 1048576 then bif Nat.beq (x::l).length (x::l).length&&(inI (ixO (bil.sesAt (x::l) id)) (x::l).length&&(eqI (zA3 .i64 (ixO (bil.sesAt (x::l) id)+1)) (ixO (bil.sesAt (x::l) id)+1)&&Nat.blt (x::l).length 1000000)) then
    bif Nat.beq ((x::l).length - 1) ((x::l).eraseIdx (ixO (bil.sesAt (x::l) id)).toNat).length then some (.tup [.fl .ses ((x::l).eraseIdx (ixO (bil.sesAt (x::l) id)).toNat),i64 0]) else none else none else none else none
   else some (.tup [.fl .ses [],i64 1]):=fun L=>by kernel_rfl
  rw [e,yM1]
  unfold zX6
  cases h0:bil.sesRight (x::l) with
  | false=>rfl
  | true =>
   have hl:=yX2 h0
   rw [cond_true,zA0 (show (x::l).length < 1000000 by omega),if_neg (by simp)]
   unfold bil.sesLeave
   cases h1:bil.sesAt (x::l) id with
   | none=>rfl
   | some k =>
    obtain⟨h2,_,_⟩:=zH4 (t:=.ses) h1
    show (bif Nat.blt _ 1048576 then bif _&&(inI (.ofNat k) _&&(eqI (zA3 .i64 (.ofNat k+1)) (.ofNat k+1)&&_)) then bif Nat.beq _ ((x::l).eraseIdx k).length then _ else _ else _ else _)=_
    rw [zA0 (show (x::l).length < 1048576 by omega),zA6 rfl,zA9 h2,zA2 (by omega),zB8 (by simp),List.length_eraseIdx_of_lt h2,zA6 rfl]
    rfl
def yC6:List AV->Option (Bool × AV)
 | [.fl .ses l,.int .i64 id]=>some (true,.tup [.fl .ses (zX6 l id).1,i64 (zX6 l id).2])
 | _=>none
def c33:ClS:=addG 59 yC6 c32
theorem snd33:zA1 Tryz.prog c33:=zC2 snd32 mix xV8 (.tup [.lst .ses,.any]) yC6 fun xs r h=>by
 unfold yC6 at h
 split at h<;>first | (cases h;done) | skip
 cases h
 exact⟨rfl,10,xH8 _ _⟩
def rp0:bil.Rp:=⟨0,0,0⟩
def cRp (r:bil.Rp):List AV:=[i64 r.why,i64 r.number,i64 r.gross]
def zH6 (l:List bil.Ses) (id seq:Int):bil.Rp × Bool × Int:=if bil.sesRight l=false then (rp0,false,1) else match bil.lookF l id seq with
 | .inr e=>(rp0,false,e)
 | .inl (r,had)=>(r,had,0)
def yZ6 (x:bil.Rp × Bool × Int):AV:=.tup [.agg (cRp x.1),.bool x.2.1,i64 x.2.2]
theorem xU2 (l:List bil.Ses) (id sq:Int):zB3 c33 10 yI6 (.tup [.any,.any,.any]) [.fl .ses l,i64 id,i64 sq] some=some (yZ6 (zH6 l id sq)):=by
 have e:∀ L,zB3 c33 L yI6 (.tup [.any,.any,.any]) [.fl .ses l,i64 id,i64 sq] some=bif bil.sesRight l then bif true&&(true&&true)&&Nat.blt l.length 1000000 then bif ltI (ixO (bil.sesAt l id)) 0 then some (yZ6 (rp0,false,15)) else
  bif ltI sq 1 then some (yZ6 (rp0,false,1)) else bif ltI 1099511627776 sq then some (yZ6 (rp0,false,1)) else bif inI (ixO (bil.sesAt l id)) l.length then bif eqI sq (nth (t:=.ses) l (ixO (bil.sesAt l id)).toNat).last then
   bif inI (ixO (bil.sesAt l id)) l.length then some (yZ6 ((nth (t:=.ses) l (ixO (bil.sesAt l id)).toNat).rep,true,0)) else none
   else bif inI (ixO (bil.sesAt l id)) l.length then bif ltI sq (nth (t:=.ses) l (ixO (bil.sesAt l id)).toNat).last then some (yZ6 (rp0,false,16)) else some (yZ6 (rp0,false,0)) else none else none else none
  else some (yZ6 (rp0,false,1)):=fun L=>by kernel_rfl
 rw [e,yM1]
 unfold zH6
 cases h0:bil.sesRight l with
 | false=>rfl
 | true =>
  have hl:=yX2 h0
  rw [cond_true,zA0 (show l.length < 1000000 by omega),if_neg (by simp)]
  unfold bil.lookF
  cases h1:bil.sesAt l id with
  | none=>rfl
  | some k =>
   obtain⟨h2,h3,_⟩:=zH4 (t:=.ses) h1
   simp only [h3]
   by_cases a1:sq < 1
   ·rw [zB9 a1,if_pos (.inl a1)];rfl
   ·by_cases a2:1099511627776 < sq
    ·rw [zB0 (by omega:(1:Int)<=sq),zB9 a2,if_pos (.inr a2)];rfl
    ·rw [zB0 (by omega:(1:Int)<=sq),zB0 (by omega:sq<=1099511627776),if_neg (by omega)]
     show (bif inI (.ofNat k) l.length then bif eqI sq (nth (t:=.ses) l k).last then bif inI (.ofNat k) l.length then _ else _ else bif inI (.ofNat k) l.length then bif ltI sq (nth (t:=.ses) l k).last then _ else _ else _ else _)=_
     rw [zA9 h2]
     by_cases a3:sq=(nth (t:=.ses) l k).last
     ·rw [zB8 a3,if_pos a3];rfl
     ·rw [zB7 a3,if_neg a3]
      by_cases a4:sq < (nth (t:=.ses) l k).last
      ·rw [zB9 a4,if_pos a4];rfl
      ·rw [zB0 (by omega),if_neg a4];rfl
def yP8:List AV->Option (Bool × AV)
 | [.fl .ses l,.int .i64 id,.int .i64 sq]=>some (true,yZ6 (zH6 l id sq))
 | _=>none
def c34:ClS:=addG 15 yP8 c33
theorem snd34:zA1 Tryz.prog c34:=zC2 snd33 mix wQ0 (.tup [.any,.any,.any]) yP8 fun xs r h=>by
 unfold yP8 at h
 split at h<;>first | (cases h;done) | skip
 cases h
 exact⟨rfl,10,xU2 _ _ _⟩
def wS9 (l:List bil.Ses) (k:Nat) (sq:Int) (r:bil.Rp):List bil.Ses :=
 (l.set k { nth (t:=.ses) l k with last:=sq }).set k { nth (t:=.ses) (l.set k { nth (t:=.ses) l k with last:=sq }) k with rep:=r }
theorem uJ1 {l:List bil.Ses} {k:Nat} (h:k < l.length) (sq:Int) (r:bil.Rp):wS9 l k sq r=l.set k { nth (t:=.ses) l k with last:=sq,rep:=r }:=by
 unfold wS9
 rw [List.set_set,zF7 (t:=.ses) (l:=l.set k _) (by rw [List.length_set];exact h)]
 rw [List.getElem_set_self]
def keepR (l:List bil.Ses) (id sq:Int) (r:bil.Rp):List bil.Ses × Int:=if (zH6 l id sq).2.2≠0 then ([],(zH6 l id sq).2.2) else if (zH6 l id sq).2.1=true then ([],12) else (bil.keepF l id sq r,0)
theorem look_ok {l:List bil.Ses} {id sq:Int} (h:(zH6 l id sq).2.2=0):bil.sesRight l=true/\∃ k,bil.sesAt l id=some k/\k < l.length/\l[k]?=some (nth (t:=.ses) l k)/\∃ r,bil.lookF l id sq=.inl (r,(zH6 l id sq).2.1):=by
 unfold zH6 at h ⊢
 cases h0:bil.sesRight l with
 | false=>rw [h0] at h;simp at h
 | true =>
  rw [h0] at h
  refine⟨rfl,?_⟩
  rw [if_neg (by simp)] at h ⊢
  cases h1:bil.sesAt l id with
  | none=>unfold bil.lookF at h;rw [h1] at h;simp at h
  | some k =>
   obtain⟨h2,h3,_⟩:=zH4 (t:=.ses) h1
   refine⟨k,rfl,h2,h3,?_⟩
   cases h4:bil.lookF l id sq with
   | inr e =>
    rw [h4] at h
    simp only at h
    exfalso
    unfold bil.lookF at h4
    rw [h1] at h4
    simp only [h3] at h4
    split at h4
    ·cases h4;cases h
    ·split at h4
     ·cases h4
     ·split at h4
      ·cases h4;cases h
      ·cases h4
   | inl q=>exact⟨q.1,rfl⟩
theorem xU3 (l:List bil.Ses) (id sq:Int) (r:bil.Rp):zB3 c34 10 zW0 (.tup [.lst .ses,.any]) [.fl .ses l,i64 id,i64 sq,.agg (cRp r)] some=some (.tup [.fl .ses (keepR l id sq r).1,i64 (keepR l id sq r).2]):=by
 cases l with
 | nil =>
  have e:∀ L,zB3 c34 L zW0 (.tup [.lst .ses,.any]) [.fl .ses [],i64 id,i64 sq,.agg (cRp r)] some=bif (zH6 [] id sq).2.1 then bif !eqI (zH6 [] id sq).2.2 0 then some (.tup [.fl .ses [],i64 (zH6 [] id sq).2.2]) else some (.tup [.fl .ses [],i64 12]) else
   bif !eqI (zH6 [] id sq).2.2 0 then some (.tup [.fl .ses [],i64 (zH6 [] id sq).2.2]) else none:=fun L=>by kernel_rfl
  rw [e]
  rfl
 | cons x l =>
  have e:∀ L,zB3 c34 L zW0 (.tup [.lst .ses,.any]) [.fl .ses (x::l),i64 id,i64 sq,.agg (cRp r)] some=bif (zH6 (x::l) id sq).2.1 then bif !eqI (zH6 (x::l) id sq).2.2 0 then some (.tup [.fl .ses [],i64 (zH6 (x::l) id sq).2.2]) else some (.tup [.fl .ses [],i64 12]) else
   bif !eqI (zH6 (x::l) id sq).2.2 0 then some (.tup [.fl .ses [],i64 (zH6 (x::l) id sq).2.2]) else
   bif Nat.blt (x::l).length 1048576 then bif Nat.beq (x::l).length (x::l).length&&(true&&true)&&Nat.blt (x::l).length 1000000 then bif inI (ixO (bil.sesAt (x::l) id)) (x::l).length then bif Nat.blt (ixO (bil.sesAt (x::l) id)).toNat (x::l).length then
    bif inI (ixO (bil.sesAt (x::l) id)) (x::l).length then bif Nat.blt (ixO (bil.sesAt (x::l) id)).toNat ((x::l).set (ixO (bil.sesAt (x::l) id)).toNat { nth (t:=.ses) (x::l) (ixO (bil.sesAt (x::l) id)).toNat with last:=sq }).length then
     bif Nat.beq (x::l).length (wS9 (x::l) (ixO (bil.sesAt (x::l) id)).toNat sq r).length then some (.tup [.fl .ses (wS9 (x::l) (ixO (bil.sesAt (x::l) id)).toNat sq r),i64 0]) else none else none else none else none else none else none else none:=fun L=>by kernel_rfl
  rw [e]
  unfold keepR
  by_cases h:(zH6 (x::l) id sq).2.2=0
  ·obtain⟨h0,k,h1,h2,h3,r',h4⟩:=look_ok h
   have hl:=yX2 h0
   rw [zB8 h,if_neg (by simp [h])]
   cases hb:(zH6 (x::l) id sq).2.1 with
   | true=>rfl
   | false =>
    rw [if_neg (by simp),h1]
    show (bif Nat.blt _ 1048576 then bif _&&_&&_ then bif inI (.ofNat k) _ then bif Nat.blt k _ then bif inI (.ofNat k) _ then bif Nat.blt k ((x::l).set k _).length then bif Nat.beq _ (wS9 (x::l) k sq r).length then some (AV.tup [AV.fl .ses (wS9 (x::l) k sq r),i64 0]) else _ else _ else _ else _ else _ else _ else _)=_
    rw [zA0 (show (x::l).length < 1048576 by omega),zA6 rfl,zA0 (show (x::l).length < 1000000 by omega),zA9 h2,zA0 h2,List.length_set,zA0 h2,uJ1 h2,List.length_set,zA6 rfl]
    rw [hb] at h4
    unfold bil.keepF
    rw [h4]
    simp only [h1,h3]
    rfl
  ·rw [zB7 h,if_pos h]
   cases (zH6 (x::l) id sq).2.1<;>rfl
def yP9:List AV->Option (Bool × AV)
 | [.fl .ses l,.int .i64 id,.int .i64 sq,.agg [.int .i64 w,.int .i64 n,.int .i64 g]]=>some (true,.tup [.fl .ses (keepR l id sq ⟨w,n,g⟩).1,i64 (keepR l id sq ⟨w,n,g⟩).2])
 | _=>none
def c35:ClS:=addG 17 yP9 c34
theorem qL5:zA1 Tryz.prog c35:=zC2 snd34 mix wQ1 (.tup [.lst .ses,.any]) yP9 fun xs r h=>by
 unfold yP9 at h
 split at h<;>first | (cases h;done) | skip
 rename_i l id sq w n g
 cases h
 exact⟨rfl,10,xU3 l id sq ⟨w,n,g⟩⟩
set_option maxHeartbeats 4000000
set_option maxRecDepth 100000
def d_entries:SOf Tryz.prog 75 [([4,16,17,18],0)] [(53,(.ty .bal 0))]:=⟨_,by conv=>lhs;reduce⟩
def s_entries:FnS:=d_entries.1
def yU6:List Path:=[q4,q16,q17,q18]
def yW3:SC:=(⟨_,by conv=>lhs;reduce⟩:VOf (s_entries.lp 0)).1
def wX1:SC:=(⟨_,by conv=>lhs;reduce⟩:VOf (s_entries.af 0)).1
def wU0 {β:Type} (cl:ClS) (L:Nat) (K:AV->Mem->Option β):Ex->T AV->Mem->Option β:=kBlk 0 (kSeq (evS cl L wX1) (endS s_entries.res K))
theorem wR1:zB2 Tryz.prog 75 s_entries:=zA8 d_entries.2
def d_bookRight:SOf Tryz.prog 115 [([0,3],0)] []:=⟨_,by conv=>lhs;reduce⟩
def s_bookRight:FnS:=d_bookRight.1
def xN7:List Path:=[q0,q3]
def xR6:SC:=(⟨_,by conv=>lhs;reduce⟩:VOf (s_bookRight.lp 0)).1
def xR9:SC:=(⟨_,by conv=>lhs;reduce⟩:VOf (s_bookRight.af 0)).1
def xO1 {β:Type} (cl:ClS) (L:Nat) (K:AV->Mem->Option β):Ex->T AV->Mem->Option β:=kBlk 0 (kSeq (evS cl L xR9) (endS s_bookRight.res K))
theorem xL4:zB2 Tryz.prog 115 s_bookRight:=zA8 d_bookRight.2
def d_enter:SOf Tryz.prog 76 [([6,17,18,19],0),([6,8,9,17,18,19],0)] []:=⟨_,by conv=>lhs;reduce⟩
def s_enter:FnS:=d_enter.1
def yZ9:List Path:=[q6,q17,q18,q19]
def uI4:List Path:=[q6,q8,q9,q17,q18,q19]
def uN9:SC:=(⟨_,by conv=>lhs;reduce⟩:VOf (s_enter.lp 1)).1
def xC9:SC:=(⟨_,by conv=>lhs;reduce⟩:VOf (s_enter.lp 0)).1
def uP0:SC:=(⟨_,by conv=>lhs;reduce⟩:VOf (s_enter.af 2)).1
def uP1:SC:=(⟨_,by conv=>lhs;reduce⟩:VOf (s_enter.af 1)).1
def wL9:SC:=(⟨_,by conv=>lhs;reduce⟩:VOf (s_enter.af 0)).1
def uK2 {β:Type} (cl:ClS) (L:Nat) (K:AV->Mem->Option β):Ex->T AV->Mem->Option β:=kBlk 0 (kSeq (evS cl L wL9) (endS s_enter.res K))
def uJ4 {β:Type} (cl:ClS) (L L1:Nat) (K:AV->Mem->Option β):Ex->T AV->Mem->Option β:=kBlk 2 (kSeq (evS cl L uP0) (kBlk 1 (kSeq (evS cl L uP1) (kLoop (evS cl L xC9) yZ9 0 L1 (kBlk 0 (kSeq (evS cl L wL9) (endS s_enter.res K)))))))
theorem uF3:zB2 Tryz.prog 76 s_enter:=zA8 d_enter.2
def d_balEq:SOf Tryz.prog 48 [([0,1,12,13],0)] []:=⟨(⟨_,by conv=>lhs;reduce⟩:GOf (gS Tryz.prog 48 [([0,1,12,13],0)] [])).1,by kernel_rfl⟩
def s_balEq:FnS:=d_balEq.1
def uJ0:List Path:=[q0,q1,q12,q13]
def uO5:SC:=(⟨_,by conv=>lhs;reduce⟩:VOf (s_balEq.lp 0)).1
def uP9:SC:=(⟨_,by conv=>lhs;reduce⟩:VOf (s_balEq.af 0)).1
def uK3 {β:Type} (cl:ClS) (L:Nat) (K:AV->Mem->Option β):Ex->T AV->Mem->Option β:=kBlk 0 (kSeq (evS cl L uP9) (endS s_balEq.res K))
theorem uF4:zB2 Tryz.prog 48 s_balEq:=zA8 d_balEq.2
end Go.Proofs.YtpccdcnjkknmkaaGreatDoor.Ev
namespace Go.Proofs.YtpccdcnjkknmkaaGreatDoor
open Go.RowKit
theorem yH9 (x y c:Int) (hx:0<=x) (hy:0<=y) (hc0:0<=c) (hc:c<=1) (w:World) :
  (callFunc 149 #[.int .u64 x,.int .u64 y,.int .u64 c]).run Tryz.prog w=.ok (.value (.tuple #[.int .u64 ((x+y+c) % 18446744073709551616),.int .u64 ((x+y+c) / 18446744073709551616)])) w:=by
 rw [run_callFunc_extern Tryz.func149 (by kernel_rfl) (by kernel_rfl) (by kernel_rfl) (e:=add64Entry) (by kernel_rfl),run_add64 x y c hx hy hc0 hc]
 rfl
theorem yV4 (low high x s:Int) (hl0:0<=low) (hl1:low < 18446744073709551616) (_hh0:0<=high) (_hh1:high < 18446744073709551616) (hx0:-9223372036854775808<=x) (hx1:x<=9223372036854775807)
  (he:high*18446744073709551616+low=s % 340282366920938463463374607431768211456) (g:Int) (hg:(x < 0/\g=18446744073709551615)∨(0<=x/\g=0)) :
  0<=IntKind.u64.wrap x/\0<=(low+IntKind.u64.wrap x+0) / 18446744073709551616/\(low+IntKind.u64.wrap x+0) / 18446744073709551616<=1 /\
   (high+g+(low+IntKind.u64.wrap x+0) / 18446744073709551616) % 18446744073709551616*18446744073709551616+(low+IntKind.u64.wrap x+0) % 18446744073709551616=(s+x) % 340282366920938463463374607431768211456:=by
 rw [IntKind.wrap_u64]
 rcases hg with⟨h1,rfl⟩ | ⟨h1,rfl⟩
 ·have e:x % 18446744073709551616=x+18446744073709551616:=by omega
  rw [e];omega
 ·have e:x % 18446744073709551616=x:=by omega
  rw [e];omega
theorem vP6 (low high s:Int) (hl0:0<=low) (hl1:low < 18446744073709551616) (hh0:0<=high) (hh1:high < 18446744073709551616) (hs0:-85070591730234615865843651857942052864<=s) (hs1:s<=85070591730234615865843651857942052864)
  (he:high*18446744073709551616+low=s % 340282366920938463463374607431768211456) :
  IntKind.i64.wrap low=IntKind.i64.wrap s/\(low < 9223372036854775808->(high=0↔In64 s))/\(¬ low < 9223372036854775808->(high=18446744073709551615↔In64 s)):=by
 rw [IntKind.wrap_i64,IntKind.wrap_i64]
 unfold In64
 refine⟨?_,?_,?_⟩
 ·omega
 ·intro h
  omega
 ·intro h
  omega
def sumT (l:List Int) (k:Nat):Int:=(l.take k).sum
theorem xG6 {l:List Int} {k:Nat} (h:k < l.length):sumT l (k+1)=sumT l k+l[k]:=by
 unfold sumT
 rw [List.take_succ_eq_append_getElem h,List.sum_append]
 simp
theorem wZ4 {l:List Int} (hI:∀ x∈l,In64 x):∀ k:Nat,-9223372036854775808*(k:Int)<=sumT l k/\sumT l k<=9223372036854775808*(k:Int)
 | 0=>by simp [sumT]
 | k+1=>by
  have ih:=wZ4 hI k
  by_cases h:k < l.length
  ·rw [xG6 h]
   have:=hI l[k] (List.getElem_mem h)
   unfold In64 at this
   omega
  ·have e:sumT l (k+1)=sumT l k:=by unfold sumT;rw [List.take_of_length_le (by omega),List.take_of_length_le (by omega)]
   rw [e];omega
set_option maxHeartbeats 2000000 in
set_option maxRecDepth 100000 in
theorem yV5 (l:List Int) (b o cap:Nat) (w:World) (hI:∀ x∈l,In64 x) (hn:l.length < 1000000) (hb:b < w.heap.size) (hc:∀ (n:Nat) (h:n < l.length),w.cell? ⟨b,o+n,none⟩=some (.int .i64 l[n])) :
  Calls Tryz.prog 113 #[.slice (some ⟨b,o,none⟩) l.length cap] w fun e w'=>e=.returned (.tuple #[.int .i64 (IntKind.i64.wrap l.sum),.bool (decide (bil.I64 l.sum))])/\Ext w w':=by
 have HI:=Lib.hid hI
 have HC:=Lib.hid hc
 clear hI hc
 go_enter Tryz.func113,Tryz.ntmps113
 go_wp2
 go_loopw [4,5,12] (fun hi lo i wr=>∃ (k:Nat) (high low:Int),k<=l.length/\hi=.int .u64 high/\lo=.int .u64 low/\i=.int .i64 k/\0<=high/\high < 18446744073709551616/\0<=low/\low < 18446744073709551616/\high*18446744073709551616+low=sumT l k % 340282366920938463463374607431768211456/\Ext w wr) (fun _ _ i _=>l.length - (intOf i).toNat)
 case atStart=>exact⟨0,0,0,Nat.zero_le _,rfl,rfl,rfl,by decide,by decide,by decide,by decide,rfl,Ext.refl _⟩
 case round =>
  obtain⟨k,high,low,hk,rfl,rfl,rfl,h1,h2,h3,h4,h5,hx⟩:=hrel
  have H5:=Lib.hid h5
  clear h5
  by_cases hlt:k < l.length
  ·have hcell:=(hx.cell (p:=⟨b,o+k,none⟩) hb).trans (HC.out k hlt)
   have hxI:=HI.out l[k] (List.getElem_mem hlt)
   have hsu:=xG6 hlt
   unfold In64 at hxI
   obtain⟨x1,x2⟩:=hxI
   have HSU:=Lib.hid hsu
   clear hsu
   generalize l[k]=x at *
   have hxor:bits BinOp.xor IntKind.u64 IntKind.u64.max 0=18446744073709551615:=by kernel_rfl
   by_cases hneg:x < 0
   ·obtain⟨y1,y2,y3,y4⟩:=yV4 low high x (sumT l k) h3 h4 h1 h2 x1 x2 H5.out _ (.inl ⟨hneg,rfl⟩)
    have e1:=yH9 low (IntKind.u64.wrap x) 0 h3 y1 (by decide) (by decide) wr
    have e2:=yH9 high 18446744073709551615 ((low+IntKind.u64.wrap x+0) / 18446744073709551616) h1 (by decide) y2 y3 wr
    rw [Int.add_zero] at e1 e2 y4
    have Y4:=Lib.hid y4
    clear y4
    go_wp2_with (first | simp only [e1] | simp only [e2])
    refine⟨⟨k+1,_,_,by omega,rfl,rfl,by simp,Int.emod_nonneg _ (by decide),Int.emod_lt_of_pos _ (by decide),Int.emod_nonneg _ (by decide),Int.emod_lt_of_pos _ (by decide),by rw [HSU.out];exact Y4.out,hx⟩,?_⟩
    show l.length - ((k:Int)+1).toNat < l.length - (k:Int).toNat
    omega
   ·obtain⟨y1,y2,y3,y4⟩:=yV4 low high x (sumT l k) h3 h4 h1 h2 x1 x2 H5.out _ (.inr ⟨by omega,rfl⟩)
    have hw:IntKind.u64.wrap x=x:=by rw [IntKind.wrap_u64];omega
    have e1:=yH9 low (IntKind.u64.wrap x) 0 h3 y1 (by decide) (by decide) wr
    have e2:=yH9 high 0 ((low+IntKind.u64.wrap x+0) / 18446744073709551616) h1 (by decide) y2 y3 wr
    rw [Int.add_zero,hw] at e1 e2 y4
    rw [Int.add_zero] at e2 y4
    have Y4:=Lib.hid y4
    clear y4 y1 y2 y3 hw
    go_wp2_with (first | simp only [e1] | simp only [e2])
    refine⟨⟨k+1,_,_,by omega,rfl,rfl,by simp,Int.emod_nonneg _ (by decide),Int.emod_lt_of_pos _ (by decide),Int.emod_nonneg _ (by decide),Int.emod_lt_of_pos _ (by decide),by rw [HSU.out];exact Y4.out,hx⟩,?_⟩
    show l.length - ((k:Int)+1).toNat < l.length - (k:Int).toNat
    omega
  ·obtain rfl:k=l.length:=by omega
   have hT:sumT l l.length=l.sum:=by unfold sumT;rw [List.take_length]
   have hbd:=wZ4 (l:=l) (fun x hx=>HI.out x hx) l.length
   have h5:=H5.out
   rw [hT] at h5 hbd
   obtain⟨z1,z2,z3⟩:=vP6 low high l.sum h3 h4 h1 h2 (by omega) (by omega) h5
   clear h5 hbd hT
   have fin:∀ (p:Bool),(p=true↔In64 l.sum)->Ending.returned (.tuple #[.int .i64 (IntKind.i64.wrap low),.bool p])=.returned (.tuple #[.int .i64 (IntKind.i64.wrap l.sum),.bool (decide (bil.I64 l.sum))]):=fun p hp=>by
    have e:p=decide (bil.I64 l.sum):=by
     rw [Bool.eq_iff_iff,decide_eq_true_iff]
     exact hp
    rw [z1,e]
   have FIN:=Lib.hid fin
   have hw64:IntKind.i64.wrap low=wrap64 low:=by rw [IntKind.wrap_i64];unfold wrap64;omega
   have FINW:=Lib.hid (hw64 ▸ FIN.out)
   clear fin z1 hw64
   by_cases hlow:low < 9223372036854775808
   ·have z4:=z2 hlow
    have hq:low / 9223372036854775808=0:=by omega
    have hw:IntKind.i64.wrap low=low:=by rw [IntKind.wrap_i64];omega
    have FIN2:=Lib.hid (hw ▸ FIN.out)
    by_cases hh:high=0
    ·have Z:=Lib.hid (FIN2.out true (by simpa [hh] using z4))
     clear z2 z3 z4 hw
     subst hh
     go_wp2
     go_ret2
     exact⟨Z.out,hx⟩
    ·have Z:=Lib.hid (FIN2.out false (by simpa [hh] using z4))
     have hh2:((high:Int) == 0)=false:=by simpa using hh
     clear z2 z3 z4 hw hh
     go_wp2
     go_ret2
     exact⟨Z.out,hx⟩
   ·have z4:=z3 hlow
    have hq:low / 9223372036854775808=1:=by omega
    by_cases hh:high=18446744073709551615
    ·have Z:=Lib.hid (FINW.out true (by simpa [hh] using z4))
     clear z2 z3 z4
     subst hh
     go_wp2
     go_ret2
     exact⟨Z.out,hx⟩
    ·have Z:=Lib.hid (FINW.out false (by simpa [hh] using z4))
     have hh2:((high:Int) == 18446744073709551615)=false:=by simpa using hh
     clear z2 z3 z4 hh
     go_wp2
     go_ret2
     exact⟨Z.out,hx⟩
set_option maxRecDepth 100000 in
theorem vP5 (a:Option Addr) (cap:Nat) (w:World) :
  Calls Tryz.prog 113 #[.slice a 0 cap] w fun e w'=>e=.returned (.tuple #[.int .i64 0,.bool true])/\Ext w w':=by
 go_enter Tryz.func113,Tryz.ntmps113
 go_wp2
 go_loopw [4,5,12] (fun hi lo i wr=>hi=.int .u64 0/\lo=.int .u64 0/\i=.int .i64 0/\Ext w wr) (fun _ _ i _=>0 - (intOf i).toNat)
 case atStart=>exact⟨rfl,rfl,rfl,Ext.refl _⟩
 case round =>
  obtain⟨rfl,rfl,rfl,hx⟩:=hrel
  go_wp2
  go_ret2
  exact⟨rfl,hx⟩
end Go.Proofs.YtpccdcnjkknmkaaGreatDoor
namespace Go.Proofs.YtpccdcnjkknmkaaGreatDoor.Ev
open Go
def exN (l:List Int):Int:=IntKind.i64.wrap l.sum
def exB (l:List Int):Bool:=decide (bil.I64 l.sum)
def wC4:List AV->Option (Bool × AV)
 | [.fl .int l]=>some (l.all gI&&Nat.blt l.length 1000000,.tup [i64 (exN l),.bool (exB l)])
 | _=>none
def c36:ClS:=xZ7 113 [.lst .int] wC4 c35
theorem snd36:zA1 Tryz.prog c36:=xD0 qL5 (zS3 qL5 Tryz.func113 (by kernel_rfl) (by kernel_rfl) wC4 fun xs r h ρ w ys hice hv=>by
 unfold wC4 at h
 split at h<;>first | (cases h;done) | skip
 rename_i l
 obtain⟨hg,rfl⟩:=Prod.mk.inj (Option.some.inj h)
 rw [Bool.and_eq_true,List.all_eq_true,blt_iff] at hg
 obtain⟨hg,hlen⟩:=hg
 obtain⟨v,rfl,h1⟩:=zT6 hv
 have nil:∀ a cap,Calls Tryz.prog 113 #[.slice a 0 cap] w fun e w'=>∃ v,e=.returned v/\VR ρ (.tup [i64 (exN []),.bool (exB [])]) v/\Ext w w':=fun a cap =>
  (vP5 a cap w).mono fun e w' ⟨he,hx⟩=>⟨_,he,(VRs.cons (.int _ _) (VRs.cons (.bool _) .nil)).tup,hx⟩
 cases h1 with
 | fl0 t=>exact nil _ _
 | fle t a cap=>exact nil _ _
 | fl hi hs hc hcell =>
  rename_i b o cap c
  obtain⟨e,fz,hh⟩:=hice b c hi
  refine (yV5 l b o cap w (fun x hx=>gI_iff.1 (hg x hx)) hlen (Array.getElem?_eq_some_iff.1 hh).1 fun n hn=>?_).mono fun e w' ⟨he,hx⟩=>⟨_,he,(VRs.cons (.int _ _) (VRs.cons (.bool _) .nil)).tup,hx⟩
  have hs':o+l.length*1<=c.size:=hs
  have hlt:o+n < c.size:=by omega
  have hy:c[o+n]?=some c[o+n]:=Array.getElem?_eq_getElem hlt
  have hn2:nth (t:=.int) l n=l[n]:=zF7 (t:=.int) hn
  have:=hcell n 0 (i64 l[n]) c[o+n] hn (by rw [hn2];rfl) (by rw [show o+n*wd .int+0=o+n by show o+n*1+0=_;omega];exact hy)
  have hv2:c[o+n]=.int .i64 l[n]:=by
   generalize c[o+n]=q at this
   cases this;rfl
  unfold World.cell?
  simp [hh,hy,hv2]) [.lst .int]
theorem zT7 (n:Int):subR 0 n=optR (bil.negZ n):=by
 unfold subR bil.negZ
 rw [Int.zero_sub]
theorem xP9 (p:bil.Pt) (ps:List bil.Pt):bil.entF (p::ps)=match bil.negZ p.net with
  | none=>none
  | some n=>match bil.negZ p.tax with
   | none=>none
   | some x=>(bil.entF ps).map fun l=>⟨bil.netA p.cat,n⟩::⟨bil.taxA p.cat,x⟩::l:=by
 rw [bil.entF]
 cases bil.negZ p.net with
 | none=>rfl
 | some n=>cases bil.negZ p.tax<;>rfl
def enT (p:bil.Pt):List bil.Bal:=[⟨⟨⟨[110,101,116,47]++p.cat.data.toList⟩⟩,(subR 0 p.net).1⟩,⟨⟨⟨[116,97,120,47]++p.cat.data.toList⟩⟩,(subR 0 p.tax).1⟩]
theorem qB0 (c:ByteArray):bil.netA c=⟨⟨[110,101,116,47]++c.data.toList⟩⟩:=by
 refine bil.ba_ext ?_
 unfold bil.netA
 rw [ByteArray.data_append,Array.toList_append]
theorem uV1 (c:ByteArray):bil.taxA c=⟨⟨[116,97,120,47]++c.data.toList⟩⟩:=by
 refine bil.ba_ext ?_
 unfold bil.taxA
 rw [ByteArray.data_append,Array.toList_append]
def mBal (l:List bil.Bal):Mem:=⟨T.nil.node (some ⟨.ls .bal l,2,true⟩) T.nil,1,1,1⟩
def mOwed (g:Int):Mem:=⟨T.nil.node (some ⟨.raw [.str [111,119,101,100],i64 g],2,false⟩) T.nil,1,1,1⟩
def kEn (L:Nat):Ex->T AV->Mem->Option AV:=wU0 c36 L fun r m=>frzK m (.tup [.lst .bal,.any]) r some
def qR7 (L L':Nat) (g:Int) (ps:List bil.Pt) (n:Int):Option AV:=zC7 (evS c36 L yW3) yU6 0 L' (stL [(q4,.sl 0 0 1 1),(q16,.fl .part ps),(q17,i64 (.ofNat ps.length)),(q18,i64 n)]) (mOwed g) (kEn L)
def lpEn (L L' len:Nat) (l:List bil.Bal) (ps:List bil.Pt) (n:Int):Option AV:=zC7 (evS c36 L yW3) yU6 0 L' (stL [(q4,.so 0 2 0 len),(q16,.fl .part ps),(q17,i64 (.ofNat ps.length)),(q18,i64 n)]) (mBal l) (kEn L)
def xQ1 (p:bil.Pt) (q:Option AV):Option AV :=
 bif gI 0&&gI p.net then bif gI 0&&gI p.tax then bif !eqI (subR 0 p.net).2 0 then some (.tup [.fl .bal [],i64 7]) else bif !eqI (subR 0 p.tax).2 0 then some (.tup [.fl .bal [],i64 7]) else
  bif Nat.blt ([110,101,116,47].length+p.cat.data.toList.length) 1000000 then bif Nat.blt ([116,97,120,47].length+p.cat.data.toList.length) 1000000 then q else none else none else none else none
theorem yQ9 (L L' n:Nat) (g:Int) (ps:List bil.Pt):qR7 L (Nat.succ L') g ps (.ofNat n)=bif ltI (.ofNat n) (.ofNat ps.length) then bif inI (.ofNat n) ps.length then
 xQ1 (nth (t:=.part) ps n) (lpEn L L' 3 (⟨⟨⟨[111,119,101,100]⟩⟩,g⟩::enT (nth (t:=.part) ps n)) ps (zA3 .i64 (.ofNat n+1))) else none else none:=by kernel_rfl
theorem zW9 (L L' n len:Nat) (l:List bil.Bal) (ps:List bil.Pt):lpEn L (Nat.succ L') len l ps (.ofNat n)=bif ltI (.ofNat n) (.ofNat ps.length) then bif inI (.ofNat n) ps.length then
 xQ1 (nth (t:=.part) ps n) (bif Nat.beq l.length len then bif Nat.blt (len+2) 1048576 then lpEn L L' (l++enT (nth (t:=.part) ps n)).length (l++enT (nth (t:=.part) ps n)) ps (zA3 .i64 (.ofNat n+1)) else none else none) else none
 else bif Nat.beq len l.length then some (.tup [.fl .bal l,i64 0]) else none:=by kernel_rfl
def gPt (p:bil.Pt):Bool:=gI p.net&&(gI p.tax&&Nat.blt p.cat.data.toList.length 1000)
theorem xQ0 {p:bil.Pt} (hp:gPt p=true) (q:Option AV):xQ1 p q=match bil.negZ p.net,bil.negZ p.tax with | some _,some _=>q | _,_=>some (.tup [.fl .bal [],i64 7]):=by
 unfold gPt at hp
 simp only [Bool.and_eq_true,blt_iff] at hp
 obtain⟨h1,h2,h3⟩:=hp
 unfold xQ1
 rw [h1,h2,show gI 0=true from by decide,Bool.and_self,cond_true,cond_true,zT7,zT7,zA0 (by simp only [List.length_cons,List.length_nil];omega),zA0 (by simp only [List.length_cons,List.length_nil];omega),cond_true,cond_true]
 cases bil.negZ p.net with
 | none=>rfl
 | some a=>cases bil.negZ p.tax<;>rfl
theorem uT1 {p:bil.Pt} {a b:Int} (h1:bil.negZ p.net=some a) (h2:bil.negZ p.tax=some b):enT p=[⟨bil.netA p.cat,a⟩,⟨bil.taxA p.cat,b⟩]:=by
 unfold enT
 rw [zT7,zT7,h1,h2,qB0,uV1]
 rfl
def entO (l:List bil.Bal) (o:Option (List bil.Bal)):Option AV:=match o with
 | some m=>some (.tup [.fl .bal (l++m),i64 0])
 | none=>some (.tup [.fl .bal [],i64 7])
theorem yE8 (L:Nat) (ps:List bil.Pt) (hp:ps.all gPt=true) (hl:ps.length < 100):∀ (t:List bil.Pt) (n f:Nat) (l:List bil.Bal),ps.drop n=t->n<=ps.length->t.length < f->l.length<=1+2*n ->
  lpEn L f l.length l ps (.ofNat n)=entO l (bil.entF t)
 | t,n,0,l,_,_,hf,_=>by omega
 | [],n,f+1,l,hd,hn,hf,hll=>by
  rw [zW9,drop_nil hd hn,zB6 (Nat.le_refl _),cond_false,zA6 rfl,cond_true]
  show _=some (AV.tup [AV.fl .bal (l++[]),i64 0])
  rw [List.append_nil]
 | x::t,n,f+1,l,hd,hn,hf,hll=>by
  obtain⟨h1,h2,h3⟩:=zA5 (t:=.part) hd
  have hx:gPt x=true:=by
   rw [List.all_eq_true] at hp
   exact hp x (by rw [<- h2,zF7 h1];exact List.getElem_mem h1)
  have ih:=fun l hll=>yE8 L ps hp hl t (n+1) f l h3 (by omega) (by simp at hf;omega) hll
  rw [zW9,zB4 h1,cond_true,zA9 h1,cond_true,h2,xQ0 hx,zA6 rfl,cond_true,zA0 (by omega),cond_true,zA2 (by omega),ih (l++enT x) (by rw [List.length_append];show l.length+2<=_;omega)]
  rw [xP9]
  cases e1:bil.negZ x.net with
  | none=>rfl
  | some a =>
   cases e2:bil.negZ x.tax with
   | none=>rfl
   | some b =>
    simp only
    rw [uT1 e1 e2]
    cases bil.entF t with
    | none=>rfl
    | some m=>simp [entO]
def entR (ps:List bil.Pt) (g:Int):List bil.Bal × Int:=match bil.entF ps with
 | some m=>(⟨bil.owedA,g⟩::m,0)
 | none=>([],7)
theorem xU6 (net tax g:Int) (ps:List bil.Pt) (h0:ps.isEmpty=false) (hp:ps.all gPt=true) (hl:ps.length < 100):zB3 c36 102 s_entries (.tup [.lst .bal,.any]) [.agg [i64 net,i64 tax,i64 g,.fl .part ps]] some=some (.tup [.fl .bal (entR ps g).1,i64 (entR ps g).2]):=by
 have e:∀ L,zB3 c36 L s_entries (.tup [.lst .bal,.any]) [.agg [i64 net,i64 tax,i64 g,.fl .part ps]] some=qR7 L L g ps (.ofNat 0):=fun L=>by kernel_rfl
 rw [e]
 cases ps with
 | nil=>cases h0
 | cons x t =>
  have hx:gPt x=true:=by
   rw [List.all_eq_true] at hp
   exact hp x List.mem_cons_self
  have hlen:0 < (x::t).length:=by simp
  have ih:=fun l hll=>yE8 102 (x::t) hp hl t 1 101 l rfl (by simp) (by simp at hl ⊢;omega) hll
  rw [yQ9,zB4 hlen,cond_true,zA9 hlen,cond_true]
  show xQ1 x _=_
  rw [xQ0 hx]
  have e3:nth (t:=.part) (x::t) 0=x:=rfl
  have e4:zA3 .i64 (.ofNat 0+1)=.ofNat 1:=by rw [zA2 (by omega)]
  rw [e3,e4]
  have ih2:=ih (⟨⟨⟨[111,119,101,100]⟩⟩,g⟩::enT x) (by simp [enT])
  replace ih2:lpEn 102 101 3 (⟨⟨⟨[111,119,101,100]⟩⟩,g⟩::enT x) (x::t) (.ofNat 1)=_:=ih2
  rw [ih2]
  unfold entR
  rw [xP9]
  cases e1:bil.negZ x.net with
  | none=>rfl
  | some a =>
   cases e2:bil.negZ x.tax with
   | none=>rfl
   | some b =>
    simp only
    rw [uT1 e1 e2]
    cases bil.entF t with
    | none=>rfl
    | some m=>rfl
def yQ6:List AV->Option (Bool × AV)
 | [.agg [.int .i64 _,.int .i64 _,.int .i64 g,.fl .part ps]]=>some (!ps.isEmpty&&(ps.all gPt&&Nat.blt ps.length 100),.tup [.fl .bal (entR ps g).1,i64 (entR ps g).2])
 | _=>none
def c37:ClS:=addG 75 yQ6 c36
theorem snd37:zA1 Tryz.prog c37:=zC2 snd36 mix wR1 (.tup [.lst .bal,.any]) yQ6 fun xs r h=>by
 unfold yQ6 at h
 split at h<;>first | (cases h;done) | skip
 obtain⟨hg,rfl⟩:=Prod.mk.inj (Option.some.inj h)
 simp only [Bool.and_eq_true,Bool.not_eq_true',blt_iff] at hg
 exact⟨rfl,102,xU6 _ _ _ _ hg.1 hg.2.1 hg.2.2⟩
def lpBR (L L':Nat) (l:List bil.Bal) (n:Int):Option AV:=zC7 (evS c37 L xR6) xN7 0 L' (stL [(q0,.fl .bal l),(q3,i64 n)]) m0 (xO1 c37 L fun r m=>frzK m .any r some)
theorem zL7 (L L' n:Nat) (l:List bil.Bal):lpBR L (Nat.succ L') l (.ofNat n)=bif ltI (.ofNat n) (.ofNat l.length) then bif inI (zA3 .i64 (.ofNat n - 1)) l.length then bif inI (.ofNat n) l.length then
 bif !zF1 (nth (t:=.bal) l (zA3 .i64 (.ofNat n - 1)).toNat).acc.data.toList (nth (t:=.bal) l n).acc.data.toList then some (.bool false) else lpBR L L' l (zA3 .i64 (.ofNat n+1)) else none else none else some (.bool true):=by kernel_rfl
theorem zT0 (L:Nat) (l:List bil.Bal) (hl:l.length < 1000000):∀ (t:List bil.Bal) (n f:Nat) (x:bil.Bal),l.drop n=x::t->t.length < f->lpBR L f l (.ofNat (n+1))=some (.bool (bil.chain bil.balLt (x::t)))
 | t,n,0,x,_,hf=>by omega
 | [],n,f+1,x,hd,hf=>by
  obtain⟨h1,h2,h3⟩:=zA5 (t:=.bal) hd
  rw [zL7,drop_nil h3 (by omega),zB6 (Nat.le_refl _),cond_false]
  rfl
 | y::t,n,f+1,x,hd,hf=>by
  obtain⟨h1,h2,h3⟩:=zA5 (t:=.bal) hd
  obtain⟨g1,g2,g3⟩:=zA5 (t:=.bal) h3
  have ih:=zT0 L l hl t (n+1) f y h3 (by simp at hf;omega)
  rw [zL7,zB4 g1,cond_true,zP8 (by omega),zA9 h1,cond_true,zA9 g1,cond_true,zF9,h2,g2,zA2 (by omega),ih,zM2,bil.chain]
  have e:bil.balLt x y=bil.less x.acc y.acc:=rfl
  rw [e]
  cases bil.less x.acc y.acc<;>rfl
def zV2:List AV->Option (Bool × AV)
 | [.fl .bal l]=>some (Nat.blt l.length 1000000,.bool (bil.chain bil.balLt l))
 | [.nilsl]=>some (true,.bool true)
 | _=>none
theorem yX7 (l:List bil.Bal) (hl:l.length < 1000000):zB3 c37 1000002 s_bookRight .any [.fl .bal l] some=some (.bool (bil.chain bil.balLt l)):=by
 have e:∀ L,zB3 c37 L s_bookRight .any [.fl .bal l] some=lpBR L L l (.ofNat 1):=fun L=>by kernel_rfl
 rw [e]
 cases l with
 | nil=>rw [zL7];rfl
 | cons x t=>exact zT0 _ (x::t) hl t 0 _ x rfl (by simp at hl;omega)
def c38:ClS:=addG 115 zV2 c37
theorem snd38:zA1 Tryz.prog c38:=zC2 snd37 mix xL4 .any zV2 fun xs r h=>by
 unfold zV2 at h
 split at h<;>first | (cases h;done) | skip
 ·obtain⟨hg,rfl⟩:=Prod.mk.inj (Option.some.inj h)
  exact⟨rfl,_,yX7 _ (blt_iff.1 hg)⟩
 ·cases h
  exact⟨rfl,1,by kernel_rfl⟩
def c39:ClS:=addI 116 .bal c38
theorem snd39:zA1 Tryz.prog c39:=qE3 snd38
def kE1 (L:Nat):Ex->T AV->Mem->Option AV:=uK2 c39 L fun r m=>frzK m (.tup [.lst .bal,.any]) r some
def kE2 (L L1:Nat):Ex->T AV->Mem->Option AV:=uJ4 c39 L L1 fun r m=>frzK m (.tup [.lst .bal,.any]) r some
def lpE (L L1 len:Nat) (l e:List bil.Bal) (n:Int):Option AV:=zC7 (evS c39 L xC9) yZ9 0 L1 (stL [(q6,.so 0 2 0 len),(q17,.fl .bal e),(q18,i64 (.ofNat e.length)),(q19,i64 n)]) (mBal l) (kE1 L)
def lpE0 (L L1:Nat) (e:List bil.Bal) (n:Int):Option AV:=zC7 (evS c39 L xC9) yZ9 0 L1 (stL [(q6,.nilsl),(q17,.fl .bal e),(q18,i64 (.ofNat e.length)),(q19,i64 n)]) m0 (kE1 L)
def mBx (l:List bil.Bal) (y:bil.Bal):Mem:=⟨(T.node T.nil (some ⟨.raw [tx y.acc,i64 y.amt],1,false⟩) T.nil).node (some ⟨.ls .bal l,2,true⟩) T.nil,2,3,3⟩
def lp2 (L L1 L' len:Nat) (l e:List bil.Bal) (y:bil.Bal) (n k:Int):Option AV:=zC7 (evS c39 L uN9) uI4 0 L' (stL [(q6,.so 0 2 0 len),(q8,.ptr 1 0),(q9,i64 k),(q17,.fl .bal e),(q18,i64 (.ofNat e.length)),(q19,i64 n)]) (mBx l y) (kE2 L L1)
def insL (l:List bil.Bal) (k:Nat) (y:bil.Bal):List bil.Bal:=l.take k++⟨y.acc,0⟩::l.drop k
def wM8 (L L1 len:Nat) (l e:List bil.Bal) (y:bil.Bal) (n:Int) (k:Nat):Option AV :=
 bif inI (.ofNat k) len then bif Nat.blt k l.length then bif gI (nth (t:=.bal) l k).amt&&gI y.amt then bif !eqI (addR (nth (t:=.bal) l k).amt y.amt).2 0 then some (.tup [.fl .bal [],i64 (addR (nth (t:=.bal) l k).amt y.amt).2]) else
  bif inI (.ofNat k) len then bif Nat.blt k l.length then lpE L L1 len (l.set k ⟨(nth (t:=.bal) l k).acc,(addR (nth (t:=.bal) l k).amt y.amt).1⟩) e (zA3 .i64 (n+1)) else none else none else none else none else none
def insE (L L1 len:Nat) (l e:List bil.Bal) (y:bil.Bal) (n:Int) (k:Nat):Option AV :=
 bif Nat.beq len l.length&&(inI (.ofNat k) (l.length+1)&&Nat.blt l.length 1000000) then wM8 L L1 (l.length+1) (insL l k y) e y n k else none
def aftE (L L1 len:Nat) (l e:List bil.Bal) (y:bil.Bal) (n:Int) (k:Nat):Option AV :=
 bif eqI (.ofNat k) (.ofNat len) then insE L L1 len l e y n k else bif inI (.ofNat k) len then bif Nat.blt k l.length then bif !zC1 (nth (t:=.bal) l k).acc.data.toList y.acc.data.toList then insE L L1 len l e y n k else wM8 L L1 len l e y n k else none else none
theorem wE4 (L L1 L' len n k:Nat) (l e:List bil.Bal) (y:bil.Bal):lp2 L L1 (Nat.succ L') len l e y (.ofNat n) (.ofNat k) =
 bif ltI (.ofNat k) (.ofNat len) then bif inI (.ofNat k) len then bif Nat.blt k l.length then bif zF1 (nth (t:=.bal) l k).acc.data.toList y.acc.data.toList then lp2 L L1 L' len l e y (.ofNat n) (zA3 .i64 (.ofNat k+1)) else aftE L L1 len l e y (.ofNat n) k else none else none
 else aftE L L1 len l e y (.ofNat n) k:=by kernel_rfl
theorem yJ5 (L L1 len n:Nat) (l e:List bil.Bal):lpE L (Nat.succ L1) len l e (.ofNat n)=bif ltI (.ofNat n) (.ofNat e.length) then bif inI (.ofNat n) e.length then lp2 L L1 L len l e (nth (t:=.bal) e n) (.ofNat n) (.ofNat 0) else none
 else bif Nat.beq len l.length then some (.tup [.fl .bal l,i64 0]) else none:=by kernel_rfl
theorem xI5 (L L1 n:Nat) (e:List bil.Bal):lpE0 (Nat.succ L) (Nat.succ L1) e (.ofNat n)=bif ltI (.ofNat n) (.ofNat e.length) then bif inI (.ofNat n) e.length then wM8 (Nat.succ L) L1 1 [⟨(nth (t:=.bal) e n).acc,0⟩] e (nth (t:=.bal) e n) (.ofNat n) 0 else none
 else some (.tup [.fl .bal [],i64 0]):=by kernel_rfl
theorem vI7 (L L1 n:Nat) (l e:List bil.Bal) (y:bil.Bal) (hl:l.length < 1000000):∀ (t:List bil.Bal) (k f:Nat),l.drop k=t->k<=l.length->t.length < f ->
  lp2 L L1 f l.length l e y (.ofNat n) (.ofNat k)=aftE L L1 l.length l e y (.ofNat n) (k+(t.takeWhile fun p=>bil.less p.acc y.acc).length)
 | t,k,0,_,_,hf=>by omega
 | [],k,f+1,hd,hn,hf=>by
  rw [wE4,drop_nil hd hn,zB6 (Nat.le_refl _),cond_false]
  rfl
 | x::t,k,f+1,hd,hn,hf=>by
  obtain⟨h1,h2,h3⟩:=zA5 (t:=.bal) hd
  have ih:=vI7 L L1 n l e y hl t (k+1) f h3 (by omega) (by simp at hf;omega)
  rw [wE4,zB4 h1,cond_true,zA9 h1,cond_true,zA0 h1,cond_true,h2,zA2 (by omega),ih,zM2,List.takeWhile_cons]
  cases bil.less x.acc y.acc with
  | true =>
   rw [cond_true,if_pos rfl,List.length_cons]
   exact congrArg _ (by omega)
  | false=>rfl
def allA (l:List bil.Bal):Prop:=∀ x∈l,bil.I64 x.amt
def bRes (L L1:Nat) (e:List bil.Bal) (n:Int) (o:Option (List bil.Bal)):Option AV:=match o with
 | none=>some (.tup [.fl .bal [],i64 7])
 | some l=>lpE L L1 l.length l e n
theorem xT1 (L L1:Nat) (l e:List bil.Bal) (y:bil.Bal) (n k:Nat) (hn:n < 1000000) (hk:k < l.length) (h1:bil.I64 (nth (t:=.bal) l k).amt) (h2:bil.I64 y.amt) :
  wM8 L L1 l.length l e y (.ofNat n) k=bRes L L1 e (.ofNat (n+1)) ((bil.addZ (nth (t:=.bal) l k).amt y.amt).map fun m=>l.set k { nth (t:=.bal) l k with amt:=m }):=by
 unfold wM8
 rw [zA9 hk,zA0 hk,gI_iff.2 h1,gI_iff.2 h2,Bool.and_self,cond_true,cond_true,cond_true,cond_true,cond_true,zA2 (by omega)]
 unfold addR
 cases bil.addZ (nth (t:=.bal) l k).amt y.amt with
 | none=>rfl
 | some m =>
  show lpE L L1 l.length _ e _=lpE L L1 (l.set k _).length _ e _
  rw [List.length_set]
  rfl
theorem zK6 {t:LTy} {l:List (Elem t)} {k:Nat} (h:k < l.length):l[k]?=some (nth l k):=by rw [zF7 h,List.getElem?_eq_getElem h]
theorem qT3 (l:List bil.Bal) (k:Nat) (y:bil.Bal) (hk:k<=l.length):(insL l k y).length=l.length+1/\nth (t:=.bal) (insL l k y) k=⟨y.acc,0⟩:=by
 have hlen:(insL l k y).length=l.length+1:=by
  unfold insL
  rw [List.length_append,List.length_take,List.length_cons,List.length_drop]
  omega
 refine⟨hlen,?_⟩
 have:(insL l k y)[k]?=some ⟨y.acc,0⟩:=by
  unfold insL
  rw [List.getElem?_append_right (by rw [List.length_take];omega),List.length_take,show k - min k l.length=0 by omega]
  rfl
 rw [zK6 (t:=.bal) (by omega)] at this
 exact Option.some.inj this
theorem put_eq (L L1:Nat) (l e:List bil.Bal) (y:bil.Bal) (n:Nat) (hn:n < 1000000) (hl:l.length < 1000000) (hI:allA l) (hy:bil.I64 y.amt) :
  aftE L L1 l.length l e y (.ofNat n) (bil.balPlace l y.acc)=bRes L L1 e (.ofNat (n+1)) (bil.balPut l y):=by
 have hle:bil.balPlace l y.acc<=l.length:=xG0 (p:=fun p:bil.Bal=>bil.less p.acc y.acc) l
 unfold bil.balPut
 generalize bil.balPlace l y.acc=k at hle
 obtain⟨i1,i2⟩:=qT3 l k y hle
 have hins:insE L L1 l.length l e y (.ofNat n) k=bRes L L1 e (.ofNat (n+1)) ((bil.addZ 0 y.amt).map fun m=>(insL l k y).set k ⟨y.acc,m⟩):=by
  unfold insE
  rw [zA6 rfl,zA9 (by omega),zA0 hl,Bool.and_self,Bool.and_self,cond_true,<- i1]
  have:=xT1 L L1 (insL l k y) e y n k hn (by omega) (by rw [i2];exact (show bil.I64 0 from ⟨by decide,by decide⟩)) hy
  rw [i2] at this
  exact this
 have hsome:(insL l k y)[k]?=some ⟨y.acc,0⟩:=by rw [zK6 (t:=.bal) (by omega),i2]
 unfold aftE
 by_cases h1:k=l.length
 ·rw [zB8 (by rw [h1]),cond_true,hins]
  have h2:¬ (l[k]?.map (·.acc))=some y.acc:=by rw [List.getElem?_eq_none (by omega)];simp
  simp only
  rw [if_neg h2]
  show _=bRes L L1 e _ (match (insL l k y)[k]? with | none=>none | some p=>_)
  rw [hsome]
  rfl
 ·have hlt:k < l.length:=by omega
  rw [zB7 (by simp;omega),cond_false,zA9 hlt,zA0 hlt,cond_true,cond_true,zF2]
  have hg:=zK6 (t:=.bal) hlt
  by_cases h2:(nth (t:=.bal) l k).acc=y.acc
  ·rw [decide_eq_true h2,Bool.not_true,cond_false,xT1 L L1 l e y n k hn hlt (hI _ (List.mem_of_getElem? hg)) hy]
   simp only
   rw [if_pos (by rw [hg];simp [h2]),hg]
  ·rw [decide_eq_false h2,Bool.not_false,cond_true,hins]
   simp only
   rw [if_neg (by rw [hg];simp [h2])]
   show _=bRes L L1 e _ (match (insL l k y)[k]? with | none=>none | some p=>_)
   rw [hsome]
   rfl
theorem vD9 {l l':List bil.Bal} {y:bil.Bal} (hI:allA l) (h:bil.balPut l y=some l'):allA l'/\l'.length<=l.length+1/\1<=l'.length:=by
 have hle:bil.balPlace l y.acc<=l.length:=xG0 (p:=fun p:bil.Bal=>bil.less p.acc y.acc) l
 unfold bil.balPut at h
 generalize bil.balPlace l y.acc=k at *
 have key:∀ m:List bil.Bal,allA m->m.length<=l.length+1->(match m[k]? with | none=>none | some p=>(bil.addZ p.amt y.amt).map fun q=>m.set k { p with amt:=q })=some l'->allA l'/\l'.length<=l.length+1/\1<=l'.length:=fun m hm hlen he=>by
  cases hg:m[k]? with
  | none=>rw [hg] at he;cases he
  | some p =>
   rw [hg] at he
   simp only at he
   cases ha:bil.addZ p.amt y.amt with
   | none=>rw [ha] at he;cases he
   | some q =>
    rw [ha] at he
    cases he
    have:=(List.getElem?_eq_some_iff.1 hg).1
    refine⟨fun x hx=>?_,by rw [List.length_set];exact hlen,by rw [List.length_set];omega⟩
    rcases List.mem_or_eq_of_mem_set hx with hx | rfl
    ·exact hm x hx
    ·exact (bil.addZ_some ha).2
 simp only at h
 by_cases hc:(l[k]?.map (·.acc))=some y.acc
 ·rw [if_pos hc] at h
  exact key l hI (by omega) h
 ·rw [if_neg hc] at h
  refine key _ (fun x hx=>?_) ?_ h
  ·rcases List.mem_append.1 hx with hx | hx
   ·exact hI x (List.mem_of_mem_take hx)
   ·rcases List.mem_cons.1 hx with rfl | hx
    ·exact (show bil.I64 0 from ⟨by decide,by decide⟩)
    ·exact hI x (List.mem_of_mem_drop hx)
  ·rw [List.length_append,List.length_take,List.length_cons,List.length_drop]
   omega
def xY9 (o:Option (List bil.Bal)):Option AV:=match o with
 | none=>some (.tup [.fl .bal [],i64 7])
 | some l=>some (.tup [.fl .bal l,i64 0])
theorem yA4 (L:Nat) (e:List bil.Bal) (he:allA e) (hle:e.length < 1000):∀ (t:List bil.Bal) (n f:Nat) (l:List bil.Bal),e.drop n=t->n<=e.length->t.length < f->allA l->l.length+t.length < 100000->l.length+t.length < L ->
  lpE L f l.length l e (.ofNat n)=xY9 (bil.balsPut l t)
 | t,n,0,l,_,_,hf,_,_,_=>by omega
 | [],n,f+1,l,hd,hn,hf,hI,hb,hL=>by
  rw [yJ5,drop_nil hd hn,zB6 (Nat.le_refl _),cond_false,zA6 rfl]
  rfl
 | x::t,n,f+1,l,hd,hn,hf,hI,hb,hL=>by
  obtain⟨h1,h2,h3⟩:=zA5 (t:=.bal) hd
  have hx:bil.I64 x.amt:=he x (by rw [<- h2,zF7 h1];exact List.getElem_mem h1)
  rw [List.length_cons] at hb hL
  rw [yJ5,zB4 h1,cond_true,zA9 h1,cond_true,h2,vI7 L f n l e x (by omega) l 0 L rfl (by omega) (by omega),Nat.zero_add]
  show aftE L f l.length l e x (.ofNat n) (bil.balPlace l x.acc)=_
  rw [put_eq L f l e x n (by omega) (by omega) hI hx,bil.balsPut]
  cases hp:bil.balPut l x with
  | none=>rfl
  | some l' =>
   obtain⟨g1,g2,_⟩:=vD9 hI hp
   exact yA4 L e he hle t (n+1) f l' h3 (by omega) (by simp at hf;omega) g1 (by omega) (by omega)
theorem qW2 (L f:Nat) (e:List bil.Bal) (he:allA e) (hle:e.length < 1000) (hL:2000 < L) (hf:1000 < f):lpE0 (Nat.succ L) (Nat.succ f) e (.ofNat 0)=xY9 (bil.balsPut [] e):=by
 rw [xI5]
 cases e with
 | nil=>rfl
 | cons x t =>
  have h1:0 < (x::t).length:=by simp
  rw [zB4 h1,cond_true,zA9 h1,cond_true]
  have e0:nth (t:=.bal) (x::t) 0=x:=rfl
  rw [e0,bil.balsPut]
  have hx:bil.I64 x.amt:=he x List.mem_cons_self
  have:=xT1 (Nat.succ L) f [⟨x.acc,0⟩] (x::t) x 0 0 (by omega) (by simp) (show bil.I64 0 from ⟨by decide,by decide⟩) hx
  replace this:wM8 (Nat.succ L) f 1 [⟨x.acc,0⟩] (x::t) x (.ofNat 0) 0=bRes (Nat.succ L) f (x::t) (.ofNat 1) ((bil.addZ 0 x.amt).map fun m=>[⟨x.acc,m⟩]):=this
  rw [this]
  have e1:bil.balPut [] x=(bil.addZ 0 x.amt).map fun m=>[⟨x.acc,m⟩]:=rfl
  rw [e1]
  cases ha:bil.addZ 0 x.amt with
  | none=>rfl
  | some m =>
   refine yA4 (Nat.succ L) (x::t) he hle t 1 f [⟨x.acc,m⟩] rfl (by simp) (by simp at hle;omega) (fun z hz=>?_) (by simp at hle ⊢;omega) (by simp at hle ⊢;omega)
   rcases List.mem_singleton.1 hz with rfl
   exact (bil.addZ_some ha).2
def zD7 (b e:List bil.Bal):List bil.Bal × Int:=match bil.enterF b e with
 | .inl l=>(l,0)
 | .inr x=>([],x)
theorem xI0 (b e:List bil.Bal) (hb:allA b) (he:allA e) (hbl:b.length < 50000) (hle:e.length < 1000):zB3 c39 100001 s_enter (.tup [.lst .bal,.any]) [.fl .bal b,.fl .bal e] some=some (.tup [.fl .bal (zD7 b e).1,i64 (zD7 b e).2]):=by
 have e0:∀ L,zB3 c39 L s_enter (.tup [.lst .bal,.any]) [.fl .bal b,.fl .bal e] some=bif Nat.blt b.length 1000000 then bif bil.chain bil.balLt b then bif Nat.blt b.length 1048576 then bif Nat.beq b.length 0 then lpE0 L L e (.ofNat 0) else lpE L L b.length b e (.ofNat 0) else none
  else some (.tup [.fl .bal [],i64 1]) else none:=fun L=>by kernel_rfl
 rw [e0,zA0 (by omega),zA0 (by omega),cond_true]
 unfold zD7 bil.enterF
 cases bil.chain bil.balLt b with
 | false=>rfl
 | true =>
  rw [cond_true,cond_true,if_neg (by simp)]
  have fin:xY9 (bil.balsPut b e)=some (.tup [.fl .bal (match (match bil.balsPut b e with | none=>Sum.inr 7 | some b'=>Sum.inl b':List bil.Bal ⊕ Int) with | .inl l=>(l,0) | .inr x=>([],x):List bil.Bal × Int).1,i64 (match (match bil.balsPut b e with | none=>Sum.inr 7 | some b'=>Sum.inl b':List bil.Bal ⊕ Int) with | .inl l=>(l,0) | .inr x=>([],x):List bil.Bal × Int).2]):=by
   cases bil.balsPut b e<;>rfl
  refine Eq.trans ?_ fin
  cases b with
  | nil =>
   rw [show Nat.beq ([]:List bil.Bal).length 0=true from rfl,cond_true]
   exact qW2 100000 100000 e he hle (by omega) (by omega)
  | cons x t =>
   rw [zL3 (by simp),cond_false]
   exact yA4 100001 e he hle e 0 100001 (x::t) rfl (by omega) (by omega) hb (by omega) (by omega)
def gBal (x:bil.Bal):Bool:=gI x.amt
theorem xB1 {l:List bil.Bal} (h:l.all gBal=true):allA l:=fun x hx=>by
 rw [List.all_eq_true] at h
 exact gI_iff.1 (h x hx)
def wC1:List AV->Option (Bool × AV)
 | [.fl .bal b,.fl .bal e]=>some (b.all gBal&&(e.all gBal&&(Nat.blt b.length 50000&&Nat.blt e.length 1000)),.tup [.fl .bal (zD7 b e).1,i64 (zD7 b e).2])
 | [.nilsl,.fl .bal e]=>some (e.all gBal&&Nat.blt e.length 1000,.tup [.fl .bal (zD7 [] e).1,i64 (zD7 [] e).2])
 | _=>none
theorem wO3 (e:List bil.Bal) (he:allA e) (hle:e.length < 1000):zB3 c39 100001 s_enter (.tup [.lst .bal,.any]) [.nilsl,.fl .bal e] some=some (.tup [.fl .bal (zD7 [] e).1,i64 (zD7 [] e).2]):=by
 rw [<- xI0 [] e (fun _ hx=>by cases hx) he (by simp) hle]
 have e0:∀ L,zB3 c39 L s_enter (.tup [.lst .bal,.any]) [.nilsl,.fl .bal e] some=lpE0 L L e (.ofNat 0):=fun L=>by kernel_rfl
 have e1:∀ L,zB3 c39 L s_enter (.tup [.lst .bal,.any]) [.fl .bal [],.fl .bal e] some=lpE0 L L e (.ofNat 0):=fun L=>by kernel_rfl
 rw [e0,e1]
def c40:ClS:=addG 76 wC1 c39
theorem snd40:zA1 Tryz.prog c40:=zC2 snd39 mix uF3 (.tup [.lst .bal,.any]) wC1 fun xs r h=>by
 unfold wC1 at h
 split at h<;>first | (cases h;done) | skip
 ·obtain⟨hg,rfl⟩:=Prod.mk.inj (Option.some.inj h)
  simp only [Bool.and_eq_true,blt_iff] at hg
  obtain⟨h1,h2,h3,h4⟩:=hg
  exact⟨rfl,_,xI0 _ _ (xB1 h1) (xB1 h2) h3 h4⟩
 ·obtain⟨hg,rfl⟩:=Prod.mk.inj (Option.some.inj h)
  simp only [Bool.and_eq_true,blt_iff] at hg
  exact⟨rfl,_,wO3 _ (xB1 hg.1) hg.2⟩
def lpQ (L L':Nat) (l e:List bil.Bal) (n:Int):Option AV:=zC7 (evS c40 L uO5) uJ0 0 L' (stL [(q0,.fl .bal l),(q1,.fl .bal e),(q12,i64 (.ofNat l.length)),(q13,i64 n)]) m0 (uK3 c40 L fun r m=>frzK m .any r some)
def uA8 (x y:bil.Bal):Bool:=zC1 x.acc.data.toList y.acc.data.toList&&(eqI x.amt y.amt&&true)
theorem yJ6 (L L' n:Nat) (l e:List bil.Bal):lpQ L (Nat.succ L') l e (.ofNat n)=bif ltI (.ofNat n) (.ofNat l.length) then bif inI (.ofNat n) l.length then bif inI (.ofNat n) e.length then
 bif (bif true then !uA8 (nth (t:=.bal) l n) (nth (t:=.bal) e n) else uA8 (nth (t:=.bal) l n) (nth (t:=.bal) e n)) then some (.bool false) else lpQ L L' l e (zA3 .i64 (.ofNat n+1)) else none else none else some (.bool true):=by kernel_rfl
theorem uA7 (x y:bil.Bal):uA8 x y=decide (x=y):=by
 obtain⟨a,b⟩:=x
 obtain⟨c,d⟩:=y
 unfold uA8
 rw [zF2,zC5]
 simp only [bil.Bal.mk.injEq]
 by_cases h1:a=c<;>by_cases h2:b=d<;>simp [h1,h2]
theorem yU3 (L:Nat) (l e:List bil.Bal) (hl:l.length < 1000000) (he:l.length=e.length):∀ (t s:List bil.Bal) (n f:Nat),l.drop n=t->e.drop n=s->n<=l.length->t.length < f->lpQ L f l e (.ofNat n)=some (.bool (decide (t=s)))
 | t,s,n,0,_,_,_,hf=>by omega
 | [],s,n,f+1,hd,hs,hn,hf=>by
  have h0:=drop_nil hd hn
  have:s=[]:=by rw [<- hs];exact List.drop_eq_nil_of_le (by omega)
  subst this
  rw [yJ6,h0,zB6 (Nat.le_refl _),cond_false]
  rfl
 | x::t,s,n,f+1,hd,hs,hn,hf=>by
  obtain⟨h1,h2,h3⟩:=zA5 (t:=.bal) hd
  cases s with
  | nil=>have:=drop_nil hs (by omega);omega
  | cons y s =>
   obtain⟨g1,g2,g3⟩:=zA5 (t:=.bal) hs
   have ih:=yU3 L l e hl he t s (n+1) f h3 g3 (by omega) (by simp at hf;omega)
   rw [yJ6,zB4 h1,cond_true,zA9 h1,cond_true,zA9 g1,cond_true,cond_true,h2,g2,zA2 (by omega),ih,uA7]
   by_cases h:x=y
   ·rw [decide_eq_true h,Bool.not_true,cond_false]
    simp [h]
   ·rw [decide_eq_false h,Bool.not_false,cond_true]
    simp [h]
theorem vC4 (l e:List bil.Bal) (hl:l.length < 1000000):zB3 c40 1000001 s_balEq .any [.fl .bal l,.fl .bal e] some=some (.bool (decide (l=e))):=by
 have e0:∀ L,zB3 c40 L s_balEq .any [.fl .bal l,.fl .bal e] some=bif !eqI (.ofNat l.length) (.ofNat e.length) then some (.bool false) else lpQ L L l e (.ofNat 0):=fun L=>by kernel_rfl
 rw [e0]
 by_cases h:l.length=e.length
 ·rw [zB8 (by rw [h]),Bool.not_true,cond_false]
  exact yU3 _ l e hl h l e 0 _ rfl rfl (by omega) (by omega)
 ·rw [zB7 (fun hh=>h (Int.ofNat.inj hh)),Bool.not_false,cond_true,decide_eq_false fun he=>h (by rw [he])]
def wC2:List AV->Option (Bool × AV)
 | [.fl .bal l,.fl .bal e]=>some (Nat.blt l.length 1000000,.bool (decide (l=e)))
 | _=>none
def c41:ClS:=addG 48 wC2 c40
theorem snd41:zA1 Tryz.prog c41:=zC2 snd40 mix uF4 .any wC2 fun xs r h=>by
 unfold wC2 at h
 split at h<;>first | (cases h;done) | skip
 obtain⟨hg,rfl⟩:=Prod.mk.inj (Option.some.inj h)
 exact⟨rfl,_,vC4 _ _ (blt_iff.1 hg)⟩
set_option maxHeartbeats 4000000
set_option maxRecDepth 100000
def d_line:SOf Tryz.prog 142 [] []:=⟨_,by conv=>lhs;reduce⟩
def vB1:FnS:=d_line.1
theorem uZ8:zB2 Tryz.prog 142 vB1:=zA8 d_line.2
def d_put:SOf Tryz.prog 143 [([0,1,2,3,10],1)] []:=⟨_,by conv=>lhs;reduce⟩
def s_put:FnS:=d_put.1
def qS1:List Path:=[q0,q1,q2,q3,q10]
def qX6:SC:=(⟨_,by conv=>lhs;reduce⟩:VOf (s_put.lp 0)).1
def qY3:SC:=(⟨_,by conv=>lhs;reduce⟩:VOf (s_put.af 0)).1
def qS7 {β:Type} (cl:ClS) (L:Nat) (K:AV->Mem->Option β):Ex->T AV->Mem->Option β:=kBlk 0 (kSeq (evS cl L qY3) (endS s_put.res K))
theorem qP9:zB2 Tryz.prog 143 s_put:=zA8 d_put.2
def d_whole:SOf Tryz.prog 144 [([0,2,4,15,16],1)] []:=⟨_,by conv=>lhs;reduce⟩
def s_whole:FnS:=d_whole.1
def uI5:List Path:=[q0,q2,q4,q15,q16]
def uO0:SC:=(⟨_,by conv=>lhs;reduce⟩:VOf (s_whole.lp 0)).1
def uP2:SC:=(⟨_,by conv=>lhs;reduce⟩:VOf (s_whole.af 0)).1
def uJ5 {β:Type} (cl:ClS) (L:Nat) (K:AV->Mem->Option β):Ex->T AV->Mem->Option β:=kBlk 0 (kSeq (evS cl L uP2) (endS s_whole.res K))
theorem uD6:zB2 Tryz.prog 144 s_whole:=zA8 d_whole.2
def d_total:SOf Tryz.prog 105 [([0,4,6,8,34,35,36],0)] []:=⟨_,by conv=>lhs;reduce⟩
def s_total:FnS:=d_total.1
def wI8:List Path:=[q0,q4,q6,q8,q34,q35,q36]
def wL5:SC:=(⟨_,by conv=>lhs;reduce⟩:VOf (s_total.lp 0)).1
def uP3:SC:=(⟨_,by conv=>lhs;reduce⟩:VOf (s_total.af 0)).1
def uJ6 {β:Type} (cl:ClS) (L:Nat) (K:AV->Mem->Option β):Ex->T AV->Mem->Option β:=kBlk 1 (kSeq (evS cl L uP3) (endS s_total.res K))
theorem uD8:zB2 Tryz.prog 105 s_total:=zA8 d_total.2
def d_off:SOf Tryz.prog 147 [([7,8,9],3)] []:=⟨_,by conv=>lhs;reduce⟩
def s_off:FnS:=d_off.1
def l1_off:List Path:=[q7,q8,q9]
def b1_off:SC:=(⟨_,by conv=>lhs;reduce⟩:VOf (s_off.lp 0)).1
def a1_off:SC:=(⟨_,by conv=>lhs;reduce⟩:VOf (s_off.af 0)).1
theorem qQ0:zB2 Tryz.prog 147 s_off:=zA8 d_off.2
def d_back:SOf Tryz.prog 108 [([1,2,22,23],0)] []:=⟨_,by conv=>lhs;reduce⟩
def s_back:FnS:=d_back.1
def qD0:List Path:=[q1,q2,q22,q23]
def qH2:SC:=(⟨_,by conv=>lhs;reduce⟩:VOf (s_back.lp 0)).1
def qI6:SC:=(⟨_,by conv=>lhs;reduce⟩:VOf (s_back.af 0)).1
def qD8 {β:Type} (cl:ClS) (L:Nat) (K:AV->Mem->Option β):Ex->T AV->Mem->Option β:=kBlk 0 (kSeq (evS cl L qI6) (endS s_back.res K))
theorem qA7:zB2 Tryz.prog 108 s_back:=zA8 d_back.2
def zH9 (t:List bil.Rt) (d:bil.Dt) (x:bil.Li):Int × Int × Int :=
 bif ltI 64 (.ofNat x.text.data.toList.length) then (0,0,2) else bif E.name x.cat then bif ltI x.count 1 || ltI 1048576 x.count then (0,0,1) else bif (yG2 t x.cat d).isSome then ((yG2 t x.cat d).getD 0,(mulR x.count x.price).1,(mulR x.count x.price).2) else (0,0,10) else (0,0,8)
def xM9 (x:Int × Int × Int):AV:=.tup [i64 x.1,i64 x.2.1,i64 x.2.2]
def cLi (x:bil.Li):List AV:=[tx x.text,tx x.cat,i64 x.count,i64 x.price]
def gLi (x:bil.Li):Bool:=gI x.count&&gI x.price
theorem uB6 (L:Nat) (t:List bil.Rt) (d:bil.Dt) (x:bil.Li) (h:gLi x=true):zB3 c41 L vB1 (.tup [.any,.any,.any]) [.fl .rate t,.agg [i64 d.y,i64 d.m,i64 d.d],.agg (cLi x)] some=some (xM9 (zH9 t d x)):=by
 have e:zB3 c41 L vB1 (.tup [.any,.any,.any]) [.fl .rate t,.agg [i64 d.y,i64 d.m,i64 d.d],.agg (cLi x)] some=bif ltI 64 (.ofNat x.text.data.toList.length) then some (xM9 (0,0,2)) else bif E.name x.cat then bif ltI x.count 1 then some (xM9 (0,0,1)) else bif ltI 1048576 x.count then some (xM9 (0,0,1)) else
  bif (yG2 t x.cat d).isSome then bif gI x.count&&gI x.price then some (xM9 ((yG2 t x.cat d).getD 0,(mulR x.count x.price).1,(mulR x.count x.price).2)) else none else some (xM9 (0,0,10)) else some (xM9 (0,0,8)):=by kernel_rfl
 rw [e]
 unfold gLi at h
 rw [h]
 unfold zH9
 cases ltI 64 (.ofNat x.text.data.toList.length)<;>cases E.name x.cat<;>cases ltI x.count 1<;>cases ltI 1048576 x.count<;>cases (yG2 t x.cat d).isSome<;>rfl
def vX3:List AV->Option (Bool × AV)
 | [.fl .rate t,.agg [.int .i64 y,.int .i64 m,.int .i64 d],.agg [.str a,.str b,.int .i64 c,.int .i64 p]]=>some (gLi ⟨⟨⟨a⟩⟩,⟨⟨b⟩⟩,c,p⟩,xM9 (zH9 t ⟨y,m,d⟩ ⟨⟨⟨a⟩⟩,⟨⟨b⟩⟩,c,p⟩))
 | _=>none
def c42:ClS:=addG 142 vX3 c41
theorem snd42:zA1 Tryz.prog c42:=zC2 snd41 mix uZ8 (.tup [.any,.any,.any]) vX3 fun xs r h=>by
 unfold vX3 at h
 split at h<;>first | (cases h;done) | skip
 rename_i t y m d a b c p
 obtain⟨hg,rfl⟩:=Prod.mk.inj (Option.some.inj h)
 exact⟨rfl,0,uB6 0 t ⟨y,m,d⟩ ⟨⟨⟨a⟩⟩,⟨⟨b⟩⟩,c,p⟩ hg⟩
theorem uH4 {t:List bil.Rt} {d:bil.Dt} {x:bil.Li}:bil.lineF E t d x=if (zH9 t d x).2.2=0 then .inl ((zH9 t d x).1,(zH9 t d x).2.1) else .inr (zH9 t d x).2.2:=by
 unfold bil.lineF zH9
 have hs:x.text.size=x.text.data.toList.length:=rfl
 rw [zE0,zE0,zE0,hs]
 by_cases h1:64 < x.text.data.toList.length
 ·rw [if_pos h1,decide_eq_true (show (64:Int) < .ofNat x.text.data.toList.length by simp only [Int.ofNat_eq_natCast];omega)];rfl
 ·rw [if_neg h1,decide_eq_false (show ¬ (64:Int) < .ofNat x.text.data.toList.length by simp only [Int.ofNat_eq_natCast];omega),cond_false]
  cases h2:E.name x.cat with
  | false=>rfl
  | true =>
   rw [if_neg (by simp),cond_true]
   by_cases h3:x.count < 1
   ·rw [if_pos (.inl h3),decide_eq_true h3];rfl
   ·by_cases h4:1048576 < x.count
    ·rw [if_pos (.inr h4),decide_eq_true h4,Bool.or_true];rfl
    ·rw [if_neg (by omega),decide_eq_false h3,decide_eq_false h4,Bool.or_self,cond_false]
     have e:yG2 t x.cat d=bil.vatFind E t x.cat d:=rfl
     rw [e]
     cases bil.vatFind E t x.cat d with
     | none=>rfl
     | some bp =>
      simp only [Option.isSome_some,cond_true,Option.getD_some]
      unfold mulR
      cases bil.mulZ x.count x.price<;>rfl
def c43:ClS:=addI 178 .part c42
theorem snd43:zA1 Tryz.prog c43:=uK7 snd42
abbrev nP (l:List bil.Pt) (k:Nat):bil.Pt:=nth (t:=.part) l k
def hPt (l:List bil.Pt):T Blk:=.node .nil (some ⟨.ls .part l,4,true⟩) .nil
def insP (l:List bil.Pt) (k:Nat) (c:ByteArray) (b:Int):List bil.Pt:=l.take k++⟨c,b,0,0⟩::l.drop k
def netP (l:List bil.Pt) (k:Nat) (n:Int):List bil.Pt:=l.set k { nP l k with net:=(addR (nP l k).net n).1 }
def wD1 (len:Nat) (l:List bil.Pt) (n:Int) (k:Nat):Option (AV × T Blk × Nat) :=
 bif inI (.ofNat k) len then bif Nat.blt k l.length then bif gI (nP l k).net&&gI n then bif inI (.ofNat k) len then bif Nat.blt k l.length then some (.tup [.so 0 4 0 len,i64 (addR (nP l k).net n).2],hPt (netP l k n),1) else none else none else none else none else none
def uK8 (len:Nat) (l:List bil.Pt) (c:ByteArray) (b n:Int) (k:Nat):Option (AV × T Blk × Nat) :=
 bif Nat.beq len l.length&&(inI (.ofNat k) (l.length+1)&&Nat.blt l.length 1000000) then wD1 (l.length+1) (insP l k c b) n k else none
def vU1 (len:Nat) (l:List bil.Pt) (c:ByteArray) (b n:Int) (k:Nat):Option (AV × T Blk × Nat) :=
 bif eqI (.ofNat k) (.ofNat len) then uK8 len l c b n k else bif inI (.ofNat k) len then bif Nat.blt k l.length then bif !zC1 (nP l k).cat.data.toList c.data.toList then uK8 len l c b n k else wD1 len l n k else none else none
def kPt (L:Nat):Ex->T AV->Mem->Option (AV × T Blk × Nat):=qS7 c43 L fun r m=>zD1 0 r m fun r m=>some (r,m.h,m.nx)
def lpPt (L L' len:Nat) (l:List bil.Pt) (c:List UInt8) (b n k:Int):Option (AV × T Blk × Nat):=zC7 (evS c43 L qX6) qS1 1 L' (stL [(q0,.so 0 4 0 len),(q1,.str c),(q2,i64 b),(q3,i64 n),(q10,i64 k)]) ⟨hPt l,1,1,1⟩ (kPt L)
theorem xI2 (L L' len k:Nat) (l:List bil.Pt) (c:List UInt8) (b n:Int):lpPt L (Nat.succ L') len l c b n (.ofNat k) =
 bif ltI (.ofNat k) (.ofNat len) then bif inI (.ofNat k) len then bif Nat.blt k l.length then bif zF1 (nP l k).cat.data.toList c then lpPt L L' len l c b n (zA3 .i64 (.ofNat k+1)) else vU1 len l ⟨⟨c⟩⟩ b n k else none else none
 else vU1 len l ⟨⟨c⟩⟩ b n k:=by kernel_rfl
theorem wH5 (L:Nat) (l:List bil.Pt) (c:List UInt8) (b n:Int) (hl:l.length < 1000):∀ (t:List bil.Pt) (k f:Nat),l.drop k=t->k<=l.length->t.length < f ->
  lpPt L f l.length l c b n (.ofNat k)=vU1 l.length l ⟨⟨c⟩⟩ b n (k+(t.takeWhile fun p=>bil.less p.cat ⟨⟨c⟩⟩).length)
 | t,k,0,_,_,hf=>by omega
 | [],k,f+1,hd,hn,hf=>by
  rw [xI2,drop_nil hd hn,zB6 (Nat.le_refl _),cond_false]
  rfl
 | x::t,k,f+1,hd,hn,hf=>by
  obtain⟨h1,h2,h3⟩:=zA5 (t:=.part) hd
  have ih:=wH5 L l c b n hl t (k+1) f h3 (by omega) (by simp at hf;omega)
  have hb:=zM2 x.cat ⟨⟨c⟩⟩
  simp only at hb
  have h2':nP l k=x:=h2
  rw [xI2,zB4 h1,cond_true,zA9 h1,cond_true,zA0 h1,cond_true,h2',zA2 (by omega),ih,hb,List.takeWhile_cons]
  cases bil.less x.cat ⟨⟨c⟩⟩ with
  | true =>
   rw [cond_true,if_pos rfl,List.length_cons]
   exact congrArg _ (by omega)
  | false=>rfl
def yJ9 (l:List bil.Pt) (c:ByteArray) (b:Int):List bil.Pt:=if (l[bil.partPlace l c]?.map (·.cat))=some c then l else insP l (bil.partPlace l c) c b
def putP (l:List bil.Pt) (c:ByteArray) (b n:Int):List bil.Pt × Int:=(netP (yJ9 l c b) (bil.partPlace l c) n,(addR (nP (yJ9 l c b) (bil.partPlace l c)).net n).2)
def allP (l:List bil.Pt):Prop:=∀ x∈l,bil.I64 x.net
theorem xA5 (l:List bil.Pt) (k:Nat) (c:ByteArray) (b:Int) (hk:k<=l.length):(insP l k c b).length=l.length+1/\nP (insP l k c b) k=⟨c,b,0,0⟩:=by
 have hlen:(insP l k c b).length=l.length+1:=by
  unfold insP
  rw [List.length_append,List.length_take,List.length_cons,List.length_drop]
  omega
 refine⟨hlen,?_⟩
 have:(insP l k c b)[k]?=some ⟨c,b,0,0⟩:=by
  unfold insP
  rw [List.getElem?_append_right (by rw [List.length_take];omega),List.length_take,show k - min k l.length=0 by omega]
  rfl
 rw [zK6 (t:=.part) (by omega)] at this
 exact Option.some.inj this
theorem xG5 {l:List bil.Pt} {n:Int} {k:Nat} (hk:k < l.length) (h1:bil.I64 (nP l k).net) (h2:bil.I64 n):wD1 l.length l n k=some (.tup [.so 0 4 0 (netP l k n).length,i64 (addR (nP l k).net n).2],hPt (netP l k n),1):=by
 unfold wD1
 rw [zA9 hk,zA0 hk,gI_iff.2 h1,gI_iff.2 h2]
 have:(netP l k n).length=l.length:=by unfold netP;rw [List.length_set]
 rw [this]
 rfl
theorem uY6 (l:List bil.Pt) (c:ByteArray) (b n:Int) (hl:l.length < 1000) (hI:allP l) (hn:bil.I64 n) :
  vU1 l.length l c b n (bil.partPlace l c)=some (.tup [.so 0 4 0 (putP l c b n).1.length,i64 (putP l c b n).2],hPt (putP l c b n).1,1):=by
 have hle:bil.partPlace l c<=l.length:=xG0 (p:=fun p:bil.Pt=>bil.less p.cat c) l
 unfold putP yJ9
 generalize bil.partPlace l c=k at hle
 obtain⟨i1,i2⟩:=xA5 l k c b hle
 have hins:uK8 l.length l c b n k=some (.tup [.so 0 4 0 (netP (insP l k c b) k n).length,i64 (addR (nP (insP l k c b) k).net n).2],hPt (netP (insP l k c b) k n),1):=by
  unfold uK8
  rw [zA6 rfl,zA9 (by omega),zA0 (show l.length < 1000000 by omega),Bool.and_self,Bool.and_self,cond_true,<- i1]
  exact xG5 (by omega) (by rw [i2];exact (show bil.I64 0 from ⟨by decide,by decide⟩)) hn
 unfold vU1
 by_cases h1:k=l.length
 ·rw [zB8 (by rw [h1]),cond_true,hins,if_neg (by rw [List.getElem?_eq_none (by omega)];simp)]
 ·have hlt:k < l.length:=by omega
  have hg:=zK6 (t:=.part) hlt
  rw [zB7 (by simp;omega),cond_false,zA9 hlt,zA0 hlt,cond_true,cond_true,zF2]
  by_cases h2:(nP l k).cat=c
  ·rw [decide_eq_true h2,Bool.not_true,cond_false,if_pos (by rw [hg];simpa using h2)]
   exact xG5 hlt (hI _ (List.mem_of_getElem? hg)) hn
  ·rw [decide_eq_false h2,Bool.not_false,cond_true,hins,if_neg (by rw [hg];simpa using h2)]
theorem wP4 (l:List bil.Pt) (c:ByteArray) (b n:Int):bil.partPut l c b n=if (putP l c b n).2=0 then some (putP l c b n).1 else none:=by
 have hle:bil.partPlace l c<=l.length:=xG0 (p:=fun p:bil.Pt=>bil.less p.cat c) l
 unfold bil.partPut putP netP
 have e:(if (l[bil.partPlace l c]?.map (·.cat))=some c then l else l.take (bil.partPlace l c)++⟨c,b,0,0⟩::l.drop (bil.partPlace l c))=yJ9 l c b:=rfl
 simp only [e]
 have hk:bil.partPlace l c < (yJ9 l c b).length:=by
  unfold yJ9
  split
  ·rename_i h
   rcases Nat.lt_or_ge (bil.partPlace l c) l.length with h1 | h1
   ·exact h1
   ·rw [List.getElem?_eq_none h1] at h;simp at h
  ·rw [(xA5 l _ c b hle).1];omega
 rw [zK6 (t:=.part) hk]
 simp only
 unfold addR
 cases bil.addZ (nth (t:=.part) (yJ9 l c b) (bil.partPlace l c)).net n with
 | none=>rfl
 | some m=>rfl
def gPn (p:bil.Pt):Bool:=gI p.net
theorem vO4 {l:List bil.Pt} (h:l.all gPn=true):allP l:=fun x hx=>by
 rw [List.all_eq_true] at h
 exact gI_iff.1 (h x hx)
def qJ5:List AV->Mem->Option (Bool × AV × T Blk × Nat)
 | [.so 0 4 0 len,.str c,.int .i64 b,.int .i64 n],⟨.node .nil (some ⟨.ls .part l,4,true⟩) .nil,1,0,0⟩=>some (Nat.beq len l.length&&(l.all gPn&&(gI n&&Nat.blt l.length 1000)),.tup [.so 0 4 0 (putP l ⟨⟨c⟩⟩ b n).1.length,i64 (putP l ⟨⟨c⟩⟩ b n).2],hPt (putP l ⟨⟨c⟩⟩ b n).1,1)
 | [.nilsl,.str c,.int .i64 b,.int .i64 n],⟨.nil,0,0,0⟩=>some (gI n,.tup [.so 0 4 0 (putP [] ⟨⟨c⟩⟩ b n).1.length,i64 (putP [] ⟨⟨c⟩⟩ b n).2],hPt (putP [] ⟨⟨c⟩⟩ b n).1,1)
 | _,_=>none
def c44:ClS:=addC 143 qJ5 c43
theorem snd44:zA1 Tryz.prog c44:=qH4 snd43 mix qP9 qJ5 fun xs m r h1 n1 h=>by
 unfold qJ5 at h
 split at h<;>first | (cases h;done) | skip
 ·rename_i len c b n l
  simp only [Option.some.injEq,Prod.mk.injEq] at h
  obtain⟨hg,rfl,rfl,rfl⟩:=h
  simp only [Bool.and_eq_true,blt_iff] at hg
  obtain⟨g1,g2,g3,g4⟩:=hg
  obtain rfl:=beqN.1 g1
  refine⟨l.length+1,?_⟩
  have e:∀ L,zC4 c43 L s_put [.so 0 4 0 l.length,.str c,i64 b,i64 n] ⟨hPt l,1,0,0⟩ (fun r m=>zD1 0 r m fun r m=>some (r,m.h,m.nx))=lpPt L L l.length l c b n (.ofNat 0):=fun L=>by kernel_rfl
  refine (e _).trans ?_
  rw [wH5 _ l c b n g4 l 0 _ rfl (by omega) (by omega),Nat.zero_add]
  exact uY6 l ⟨⟨c⟩⟩ b n g4 (vO4 g2) (gI_iff.1 g3)
 ·rename_i c b n
  simp only [Option.some.injEq,Prod.mk.injEq] at h
  obtain⟨hg,rfl,rfl,rfl⟩:=h
  refine⟨1,?_⟩
  have e:zC4 c43 1 s_put [.nilsl,.str c,i64 b,i64 n] ⟨.nil,0,0,0⟩ (fun r m=>zD1 0 r m fun r m=>some (r,m.h,m.nx))=bif gI 0&&gI n then some (.tup [.so 0 4 0 1,i64 (addR 0 n).2],hPt [⟨⟨⟨c⟩⟩,b,(addR 0 n).1,0⟩],1) else none:=by kernel_rfl
  refine e.trans ?_
  rw [hg,show gI 0=true from by decide,Bool.and_self,cond_true]
  rfl
theorem wZ1 (n bp:Int):bil.I64 (taxR n bp).1:=by
 show bil.I64 (zE9 n bp 10000).1
 unfold zE9
 split
 ·exact (show bil.I64 0 from ⟨by decide,by decide⟩)
 ·rename_i h
  split
  ·exact (show bil.I64 0 from ⟨by decide,by decide⟩)
  ·rename_i h2
   have hb:0<=bp/\bp<=100000:=by omega
   have h0:0<=zG8 n.natAbs bp 10000:=by
    have:=vD6 n.natAbs bp 10000 (by omega) (by decide) (by decide) hb.1 hb.2
    unfold zG8
    omega
   constructor<;>split<;>omega
theorem xS9 {n bp:Int} (h:bil.I64 n):E.tax n bp=if (taxR n bp).2=0 then some (taxR n bp).1 else none:=by
 show taxO n bp=_
 unfold taxO taxR
 by_cases h2:(zE9 n bp 10000).2=0
 ·rw [if_pos ⟨h,h2⟩,if_pos h2]
 ·rw [if_neg (fun hh=>h2 hh.2),if_neg h2]
def setT (l:List bil.Pt) (k:Nat):List bil.Pt:=l.set k { nP l k with tax:=(taxR (nP l k).net (nP l k).bp).1 }
def mW (l:List bil.Pt) (len:Nat) (n t:Int):Mem :=
 ⟨(T.node T.nil (some ⟨.raw [i64 0,i64 0,i64 0,.nilsl],1,false⟩) T.nil).node (some ⟨.ls .part l,4,true⟩) ((T.node T.nil (some ⟨.raw [i64 n,i64 t,i64 0,.so 0 4 0 len],1,false⟩) T.nil).node none T.nil),3,7,7⟩
abbrev R3:=AV × T Blk × Nat
def wU4 (e:Int):Option R3:=some (.tup [.agg [i64 0,i64 0,i64 0,.nilsl],i64 e],.nil,0)
def qW7 (len:Nat) (l:List bil.Pt) (a b g:Int):Option R3:=some (.tup [.agg [i64 a,i64 b,i64 g,.so 0 4 0 len],i64 0],hPt l,1)
def kW (L:Nat):Ex->T AV->Mem->Option R3:=uJ5 c44 L fun r m=>zD1 0 r m fun r m=>some (r,m.h,m.nx)
def lpW (L L' len:Nat) (l:List bil.Pt) (a b k:Int):Option R3:=zC7 (evS c44 L uO0) uI5 1 L' (stL [(q0,.so 0 4 0 len),(q2,.ptr 1 0),(q4,.ptr 2 0),(q15,i64 (.ofNat len)),(q16,i64 k)]) (mW l len a b) (kW L)
theorem yJ0 (L L' len k:Nat) (l:List bil.Pt) (a b:Int):lpW L (Nat.succ L') len l a b (.ofNat k) =
 bif ltI (.ofNat k) (.ofNat len) then bif inI (.ofNat k) len then bif Nat.blt k l.length then bif Nat.blt k l.length then bif gI (nP l k).net then bif Nat.blt k l.length then bif Nat.blt k (setT l k).length then
  bif gI a&&gI (nP (setT l k) k).net then bif Nat.blt k (setT l k).length then bif gI b&&gI (nP (setT l k) k).tax then
  bif !eqI (taxR (nP l k).net (nP l k).bp).2 0 then wU4 7 else bif !eqI (addR a (nP (setT l k) k).net).2 0 then wU4 7 else bif !eqI (addR b (nP (setT l k) k).tax).2 0 then wU4 7 else
  lpW L L' len (setT l k) (addR a (nP (setT l k) k).net).1 (addR b (nP (setT l k) k).tax).1 (zA3 .i64 (.ofNat k+1))
  else none else none else none else none else none else none else none else none else none
 else bif gI a&&gI b then bif !eqI (addR a b).2 0 then wU4 (addR a b).2 else qW7 len l a b (addR a b).1 else none:=by kernel_rfl
def finW (l:List bil.Pt) (a b:Int):Option R3:=match bil.addZ a b with
 | none=>wU4 7
 | some g=>qW7 l.length l a b g
def wRes (pre:List bil.Pt) (o:Option (List bil.Pt × Int × Int)):Option R3:=match o with
 | none=>wU4 7
 | some (ps,n,t)=>finW (pre++ps) n t
theorem wM1 (p:bil.Pt) (ps:List bil.Pt) (n t:Int):bil.wholeF E (p::ps) n t=match E.tax p.net p.bp with
  | none=>none
  | some x=>match bil.addZ n p.net with
   | none=>none
   | some n'=>match bil.addZ t x with
    | none=>none
    | some t'=>(bil.wholeF E ps n' t').map fun r=>({ p with tax:=x }::r.1,r.2):=by
 rw [bil.wholeF]
 cases E.tax p.net p.bp with
 | none=>rfl
 | some x=>cases bil.addZ n p.net with
  | none=>rfl
  | some n'=>cases bil.addZ t x<;>rfl
theorem yT7 (L:Nat):∀ (t:List bil.Pt) (k f:Nat) (l:List bil.Pt) (a b:Int),l.drop k=t->k<=l.length->t.length < f->l.length < 1000->allP l->bil.I64 a->bil.I64 b ->
  lpW L f l.length l a b (.ofNat k)=wRes (l.take k) (bil.wholeF E t a b)
 | t,k,0,l,a,b,_,_,hf,_,_,_,_=>by omega
 | [],k,f+1,l,a,b,hd,hn,hf,hl,hI,ha,hb=>by
  rw [yJ0,drop_nil hd hn,zB6 (Nat.le_refl _),cond_false,gI_iff.2 ha,gI_iff.2 hb,Bool.and_self,cond_true,List.take_length]
  show _=finW (l++[]) a b
  rw [List.append_nil]
  unfold finW addR
  cases bil.addZ a b<;>rfl
 | x::t,k,f+1,l,a,b,hd,hn,hf,hl,hI,ha,hb=>by
  obtain⟨h1,h2,h3⟩:=zA5 (t:=.part) hd
  have h2':nP l k=x:=h2
  have hx:bil.I64 x.net:=hI x (by rw [<- h2,zF7 h1];exact List.getElem_mem h1)
  have hlen:(setT l k).length=l.length:=by unfold setT;rw [List.length_set]
  have hget:nP (setT l k) k={ x with tax:=(taxR x.net x.bp).1 }:=by
   show nth (t:=.part) (setT l k) k=_
   rw [zF7 (t:=.part) (by rw [hlen];exact h1)]
   unfold setT
   rw [List.getElem_set_self,h2']
  rw [yJ0,zB4 h1,cond_true,zA9 h1,cond_true,zA0 h1,cond_true,cond_true,h2',gI_iff.2 hx,cond_true,cond_true,hlen,zA0 h1,cond_true,hget]
  show (bif gI a&&gI x.net then bif true then bif gI b&&gI (taxR x.net x.bp).1 then bif !eqI (taxR x.net x.bp).2 0 then _ else bif !eqI (addR a x.net).2 0 then _ else bif !eqI (addR b (taxR x.net x.bp).1).2 0 then _ else lpW L f l.length (setT l k) (addR a x.net).1 (addR b (taxR x.net x.bp).1).1 _ else _ else _ else _)=_
  rw [gI_iff.2 ha,gI_iff.2 hx,gI_iff.2 hb,gI_iff.2 (wZ1 x.net x.bp),Bool.and_self,cond_true,cond_true,cond_true,wM1,xS9 hx,zA2 (by omega)]
  by_cases ht:(taxR x.net x.bp).2=0
  ·rw [zB8 ht,if_pos ht]
   show (bif !eqI (addR a x.net).2 0 then _ else _)=_
   unfold addR
   cases h5:bil.addZ a x.net with
   | none=>rfl
   | some n' =>
    cases h6:bil.addZ b (taxR x.net x.bp).1 with
    | none=>simp only [h6];rfl
    | some t' =>
     simp only [h6]
     show lpW L f l.length (setT l k) n' t' (.ofNat (k+1))=_
     have hd2:(setT l k).drop (k+1)=t:=by unfold setT;rw [List.drop_set_of_lt (by omega)];exact h3
     have hI2:allP (setT l k):=fun y hy=>by
      unfold setT at hy
      rcases List.mem_or_eq_of_mem_set hy with hy | rfl
      ·exact hI y hy
      ·rw [h2'];exact hx
     have ih:=yT7 L t (k+1) f (setT l k) n' t' hd2 (by rw [hlen];omega) (by simp at hf;omega) (by rw [hlen];exact hl) hI2 (bil.addZ_some h5).2 (bil.addZ_some h6).2
     rw [hlen] at ih
     rw [ih]
     have htk:(setT l k).take (k+1)=l.take k++[{ x with tax:=(taxR x.net x.bp).1 }]:=by
      rw [List.take_succ_eq_append_getElem (by rw [hlen];exact h1)]
      have:(setT l k)[k]'(by rw [hlen];exact h1)={ x with tax:=(taxR x.net x.bp).1 }:=by rw [<- zF7 (t:=.part) (by rw [hlen];exact h1)];exact hget
      rw [this]
      unfold setT
      rw [List.take_set_of_le (by omega)]
     rw [htk]
     cases bil.wholeF E t n' t' with
     | none=>rfl
     | some q=>simp [wRes]
  ·rw [zB7 ht,if_neg ht]
   rfl
def zV3 (l:List bil.Pt):Option (List bil.Pt × Int × Int × Int):=match bil.wholeF E l 0 0 with
 | none=>none
 | some (ps,n,t)=>match bil.addZ n t with
  | none=>none
  | some g=>some (ps,n,t,g)
def zN8 (l:List bil.Pt):List bil.Pt × Int × Int × Int:=(zV3 l).getD ([],0,0,0)
def preW (len:Nat) (l:List bil.Pt):Bool:=Nat.beq len l.length&&(l.all gPn&&Nat.blt l.length 1000)
def wA5:List AV->Mem->List (Bool × R3)
 | [.so 0 4 0 len],⟨.node .nil (some ⟨.ls .part l,4,true⟩) .nil,1,0,0⟩ =>
  [(preW len l&&(zV3 l).isSome,.tup [.agg [i64 (zN8 l).2.1,i64 (zN8 l).2.2.1,i64 (zN8 l).2.2.2,.so 0 4 0 (zN8 l).1.length],i64 0],hPt (zN8 l).1,1),
   (preW len l,.tup [.agg [i64 0,i64 0,i64 0,.nilsl],i64 7],.nil,0)]
 | _,_=>[]
def c45:ClS:=qH6 144 wA5 c44
theorem snd45:zA1 Tryz.prog c45:=wL8 snd44 mix uD6 wA5 fun xs m r h1 n1 h=>by
 unfold wA5 at h
 split at h<;>first | (cases h;done) | skip
 rename_i len l
 have main:preW len l=true->zC4 c44 (l.length+1) s_whole [.so 0 4 0 len] ⟨hPt l,1,0,0⟩ (fun r m=>zD1 0 r m fun r m=>some (r,m.h,m.nx))=wRes [] (bil.wholeF E l 0 0):=fun hp=>by
  unfold preW at hp
  simp only [Bool.and_eq_true,blt_iff] at hp
  obtain⟨g1,g2,g3⟩:=hp
  obtain rfl:=beqN.1 g1
  have e:∀ L,zC4 c44 L s_whole [.so 0 4 0 l.length] ⟨hPt l,1,0,0⟩ (fun r m=>zD1 0 r m fun r m=>some (r,m.h,m.nx))=lpW L L l.length l 0 0 (.ofNat 0):=fun L=>by kernel_rfl
  exact (e _).trans (yT7 _ l 0 _ l 0 0 rfl (by omega) (by omega) g3 (vO4 g2) (show bil.I64 0 from ⟨by decide,by decide⟩) (show bil.I64 0 from ⟨by decide,by decide⟩))
 refine⟨l.length+1,?_⟩
 cases hp:preW len l with
 | false=>rw [hp] at h;cases h
 | true =>
  rw [hp] at h
  refine (main hp).trans ?_
  unfold zN8 at h
  cases ho:zV3 l with
  | none =>
   rw [ho] at h
   cases h
   unfold zV3 at ho
   unfold wRes
   cases hw:bil.wholeF E l 0 0 with
   | none=>rfl
   | some q =>
    obtain⟨ps,n,t⟩:=q
    rw [hw] at ho
    simp only at ho ⊢
    unfold finW
    cases hz:bil.addZ n t with
    | none=>rfl
    | some g=>rw [hz] at ho;cases ho
  | some q =>
   rw [ho] at h
   cases h
   unfold zV3 at ho
   unfold wRes
   cases hw:bil.wholeF E l 0 0 with
   | none=>rw [hw] at ho;cases ho
   | some q =>
    obtain⟨ps,n,t⟩:=q
    rw [hw] at ho
    simp only at ho ⊢
    unfold finW
    cases hz:bil.addZ n t with
    | none=>rw [hz] at ho;cases ho
    | some g=>rw [hz] at ho;cases ho;rfl
theorem wG2 (o:Option Int) (h:∀ x,o=some x->bil.I64 x):bil.I64 (optR o).1:=by
 cases o with
 | none=>exact (show bil.I64 0 from ⟨by decide,by decide⟩)
 | some x=>exact h x rfl
theorem uD3 (o:Option Int):(optR o).2=0∨(optR o).2=7:=by cases o<;>simp [optR]
theorem uO9 (a b:Int):bil.I64 (addR a b).1:=wG2 _ fun _x h=>(bil.addZ_some h).2
theorem uG3 (a b:Int):bil.I64 (mulR a b).1:=wG2 _ fun x h=>by
 unfold bil.mulZ at h
 split at h
 ·cases h;assumption
 ·cases h
theorem xM8 (t:List bil.Rt) (d:bil.Dt) (x:bil.Li):bil.I64 (zH9 t d x).2.1:=by
 have z:bil.I64 0:=⟨by decide,by decide⟩
 have hm:=uG3 x.count x.price
 unfold zH9
 cases ltI 64 (.ofNat x.text.data.toList.length)<;>cases E.name x.cat<;>cases ltI x.count 1 || ltI 1048576 x.count<;>cases (yG2 t x.cat d).isSome<;>first | exact z | exact hm
theorem yS9 (l:List bil.Pt) (c:ByteArray) (b n:Int) (h:l.all gPn=true):(putP l c b n).1.all gPn=true/\(putP l c b n).1.length<=l.length+1/\1<=(putP l c b n).1.length/\((putP l c b n).2=0∨(putP l c b n).2=7):=by
 have hle:bil.partPlace l c<=l.length:=xG0 (p:=fun p:bil.Pt=>bil.less p.cat c) l
 have hk:bil.partPlace l c < (yJ9 l c b).length/\(yJ9 l c b).length<=l.length+1/\(yJ9 l c b).all gPn=true:=by
  unfold yJ9
  split
  ·rename_i h1
   refine⟨?_,by omega,h⟩
   rcases Nat.lt_or_ge (bil.partPlace l c) l.length with h2 | h2
   ·exact h2
   ·rw [List.getElem?_eq_none h2] at h1;simp at h1
  ·refine⟨by rw [(xA5 l _ c b hle).1];omega,by rw [(xA5 l _ c b hle).1];omega,?_⟩
   rw [List.all_eq_true] at h ⊢
   intro x hx
   unfold insP at hx
   rcases List.mem_append.1 hx with hx | hx
   ·exact h x (List.mem_of_mem_take hx)
   ·rcases List.mem_cons.1 hx with rfl | hx
    ·exact (show gI 0=true from by decide)
    ·exact h x (List.mem_of_mem_drop hx)
 obtain⟨h1,h2,h3⟩:=hk
 unfold putP netP
 simp only [List.length_set]
 refine⟨?_,h2,by omega,uD3 _⟩
 rw [List.all_eq_true] at h3 ⊢
 intro x hx
 rcases List.mem_or_eq_of_mem_set hx with hx | rfl
 ·exact h3 x hx
 ·exact gI_iff.2 (uO9 _ _)
def totA (t:bil.Tot) (e:Int):AV:=.tup [.agg [i64 t.net,i64 t.tax,i64 t.gross,.fl .part t.parts],i64 e]
def tot0:bil.Tot:=⟨0,0,0,[]⟩
def mT0 (d:bil.Dt):Mem:=⟨(T.node T.nil (some ⟨.raw [i64 0,i64 0,i64 0,.nilsl],1,false⟩) T.nil).node (some ⟨.raw [i64 d.y,i64 d.m,i64 d.d],1,false⟩) T.nil,2,3,3⟩
def mT1 (d:bil.Dt) (ps:List bil.Pt):Mem:=⟨(T.node T.nil (some ⟨.raw [i64 0,i64 0,i64 0,.nilsl],1,false⟩) T.nil).node (some ⟨.raw [i64 d.y,i64 d.m,i64 d.d],1,false⟩) ((T.node T.nil (some ⟨.ls .part ps,4,true⟩) T.nil).node none T.nil),3,7,7⟩
def kTo (L:Nat):Ex->T AV->Mem->Option AV:=uJ6 c45 L fun r m=>frzK m (.tup [.agg [.any,.any,.any,.lst .part],.any]) r some
def lpT0 (L L':Nat) (t:List bil.Rt) (d:bil.Dt) (l:List bil.Li) (n:Int):Option AV:=zC7 (evS c45 L wL5) wI8 0 L' (stL [(q0,.fl .rate t),(q4,.ptr 0 0),(q6,.ptr 1 0),(q8,.nilsl),(q34,.fl .line l),(q35,i64 (.ofNat l.length)),(q36,i64 n)]) (mT0 d) (kTo L)
def lpT (L L':Nat) (t:List bil.Rt) (d:bil.Dt) (l:List bil.Li) (len:Nat) (ps:List bil.Pt) (n:Int):Option AV:=zC7 (evS c45 L wL5) wI8 0 L' (stL [(q0,.fl .rate t),(q4,.ptr 0 0),(q6,.ptr 1 0),(q8,.so 2 4 0 len),(q34,.fl .line l),(q35,i64 (.ofNat l.length)),(q36,i64 n)]) (mT1 d ps) (kTo L)
abbrev nL (l:List bil.Li) (n:Nat):bil.Li:=nth (t:=.line) l n
def putL (t:List bil.Rt) (d:bil.Dt) (x:bil.Li) (ps:List bil.Pt):List bil.Pt × Int:=putP ps x.cat (zH9 t d x).1 (zH9 t d x).2.1
theorem xI1 (L L' n:Nat) (t:List bil.Rt) (d:bil.Dt) (l:List bil.Li):lpT0 L (Nat.succ L') t d l (.ofNat n) =
 bif ltI (.ofNat n) (.ofNat l.length) then bif inI (.ofNat n) l.length then bif gLi (nL l n) then bif !eqI (zH9 t d (nL l n)).2.2 0 then some (totA tot0 (zH9 t d (nL l n)).2.2) else
  bif gI (zH9 t d (nL l n)).2.1 then bif !eqI (putL t d (nL l n) []).2 0 then some (totA tot0 (putL t d (nL l n) []).2) else lpT L L' t d l (putL t d (nL l n) []).1.length (putL t d (nL l n) []).1 (zA3 .i64 (.ofNat n+1)) else none else none else none
 else none:=by kernel_rfl
def endT (len:Nat) (ps:List bil.Pt):Option AV :=
 bif preW len ps&&(zV3 ps).isSome then bif Nat.beq (zN8 ps).1.length (zN8 ps).1.length then some (totA ⟨(zN8 ps).2.1,(zN8 ps).2.2.1,(zN8 ps).2.2.2,(zN8 ps).1⟩ 0) else none else bif preW len ps then some (totA tot0 7) else none
theorem yJ1 (L L' n len:Nat) (t:List bil.Rt) (d:bil.Dt) (l:List bil.Li) (ps:List bil.Pt):lpT L (Nat.succ L') t d l len ps (.ofNat n) =
 bif ltI (.ofNat n) (.ofNat l.length) then bif inI (.ofNat n) l.length then bif gLi (nL l n) then bif !eqI (zH9 t d (nL l n)).2.2 0 then some (totA tot0 (zH9 t d (nL l n)).2.2) else
  bif Nat.beq len ps.length&&(ps.all gPn&&(gI (zH9 t d (nL l n)).2.1&&Nat.blt ps.length 1000)) then bif !eqI (putL t d (nL l n) ps).2 0 then some (totA tot0 (putL t d (nL l n) ps).2) else lpT L L' t d l (putL t d (nL l n) ps).1.length (putL t d (nL l n) ps).1 (zA3 .i64 (.ofNat n+1)) else none else none else none
 else endT len ps:=by kernel_rfl
theorem yT4 (t:List bil.Rt) (d:bil.Dt) (x:bil.Li) (xs:List bil.Li) (ps:List bil.Pt):bil.partsF E t d (x::xs) ps=if (zH9 t d x).2.2=0 then (if (putL t d x ps).2=0 then bil.partsF E t d xs (putL t d x ps).1 else .inr 7) else .inr (zH9 t d x).2.2:=by
 rw [bil.partsF,uH4]
 by_cases h:(zH9 t d x).2.2=0
 ·rw [if_pos h,if_pos h]
  simp only
  rw [wP4]
  unfold putL
  by_cases h2:(putP ps x.cat (zH9 t d x).1 (zH9 t d x).2.1).2=0
  ·rw [if_pos h2,if_pos h2]
  ·rw [if_neg h2,if_neg h2]
 ·rw [if_neg h,if_neg h]
def finT (o:List bil.Pt ⊕ Int):Option AV:=match o with
 | .inr e=>some (totA tot0 e)
 | .inl ps=>match zV3 ps with
  | none=>some (totA tot0 7)
  | some (q,n,t,g)=>some (totA ⟨n,t,g,q⟩ 0)
theorem qF2 {ps:List bil.Pt} (h:ps.all gPn=true) (hl:ps.length < 1000):endT ps.length ps=finT (.inl ps):=by
 have hp:preW ps.length ps=true:=by
  unfold preW
  rw [zA6 rfl,h,zA0 hl];rfl
 unfold endT finT zN8
 rw [hp,zA6 rfl]
 simp only
 cases zV3 ps with
 | none=>rfl
 | some q=>rfl
theorem yT8 (L:Nat) (t:List bil.Rt) (d:bil.Dt) (l:List bil.Li) (hg:l.all gLi=true) (hl:l.length < 100):∀ (xs:List bil.Li) (n f:Nat) (ps:List bil.Pt),l.drop n=xs->n<=l.length->xs.length < f->ps.all gPn=true->ps.length<=n ->
  lpT L f t d l ps.length ps (.ofNat n)=finT (bil.partsF E t d xs ps)
 | xs,n,0,ps,_,_,hf,_,_=>by omega
 | [],n,f+1,ps,hd,hn,hf,hp,hpl=>by
  rw [yJ1,drop_nil hd hn,zB6 (Nat.le_refl _),cond_false,qF2 hp (by omega)]
  rfl
 | x::xs,n,f+1,ps,hd,hn,hf,hp,hpl=>by
  obtain⟨h1,h2,h3⟩:=zA5 (t:=.line) hd
  have h2':nL l n=x:=h2
  have hx:gLi x=true:=by
   rw [List.all_eq_true] at hg
   exact hg x (by rw [<- h2,zF7 h1];exact List.getElem_mem h1)
  obtain⟨p1,p2,p3,p4⟩:=yS9 ps x.cat (zH9 t d x).1 (zH9 t d x).2.1 hp
  have ih:=yT8 L t d l hg hl xs (n+1) f (putL t d x ps).1 h3 (by omega) (by simp at hf;omega) p1 (by unfold putL;omega)
  rw [yJ1,zB4 h1,cond_true,zA9 h1,cond_true,h2',hx,cond_true,zA6 rfl,hp,gI_iff.2 (xM8 t d x),zA0 (by omega),zA2 (by omega),ih,yT4]
  by_cases ha:(zH9 t d x).2.2=0
  ·rw [zB8 ha,if_pos ha]
   by_cases hb:(putL t d x ps).2=0
   ·rw [zB8 hb,if_pos hb];rfl
   ·have hb7:(putL t d x ps).2=7:=p4.resolve_left hb
    rw [zB7 hb,if_neg hb,hb7];rfl
  ·rw [zB7 ha,if_neg ha];rfl
def totR (t:List bil.Rt) (d:bil.Dt) (l:List bil.Li):bil.Tot × Int:=match bil.totalF E t d l with
 | .inl x=>(x,0)
 | .inr e=>(tot0,e)
theorem vB9 (t:List bil.Rt) (d:bil.Dt) (l:List bil.Li) (hg:l.all gLi=true):zB3 c45 14 s_total (.tup [.agg [.any,.any,.any,.lst .part],.any]) [.fl .rate t,.agg [i64 d.y,i64 d.m,i64 d.d],.fl .line l] some=some (totA (totR t d l).1 (totR t d l).2):=by
 have e:∀ L,zB3 c45 L s_total (.tup [.agg [.any,.any,.any,.lst .part],.any]) [.fl .rate t,.agg [i64 d.y,i64 d.m,i64 d.d],.fl .line l] some=bif bil.vatRight E t then bif bil.dayF E d then bif eqI (.ofNat l.length) 0 then some (totA tot0 1) else bif ltI 12 (.ofNat l.length) then some (totA tot0 2) else lpT0 L L t d l (.ofNat 0)
  else some (totA tot0 9) else some (totA tot0 1):=fun L=>by kernel_rfl
 rw [e]
 unfold totR bil.totalF
 cases h1:bil.vatRight E t with
 | false=>rfl
 | true =>
  rw [cond_true,if_neg (by simp)]
  cases h2:bil.dayF E d with
  | false=>rfl
  | true =>
   rw [cond_true,if_neg (by simp)]
   by_cases h3:l.length=0
   ·rw [zB8 (by rw [h3];rfl),if_pos h3];rfl
   ·rw [zB7 (by simp only [Int.ofNat_eq_natCast];omega),if_neg h3,cond_false]
    by_cases h4:12 < l.length
    ·rw [zB9 (by simp only [Int.ofNat_eq_natCast];omega),if_pos h4];rfl
    ·rw [zB0 (by simp only [Int.ofNat_eq_natCast];omega),if_neg h4,cond_false]
     have fin:finT (bil.partsF E t d l [])=some (totA (match (match bil.partsF E t d l [] with | .inr e=>.inr e | .inl ps=>match bil.wholeF E ps 0 0 with | none=>.inr 7 | some (ps',n,t)=>match bil.addZ n t with | none=>.inr 7 | some g=>.inl ⟨n,t,g,ps'⟩:bil.Tot ⊕ Int) with | .inl x=>(x,0) | .inr e=>(tot0,e):bil.Tot × Int).1
       (match (match bil.partsF E t d l [] with | .inr e=>.inr e | .inl ps=>match bil.wholeF E ps 0 0 with | none=>.inr 7 | some (ps',n,t)=>match bil.addZ n t with | none=>.inr 7 | some g=>.inl ⟨n,t,g,ps'⟩:bil.Tot ⊕ Int) with | .inl x=>(x,0) | .inr e=>(tot0,e):bil.Tot × Int).2):=by
      cases bil.partsF E t d l [] with
      | inr e=>rfl
      | inl ps =>
       unfold finT zV3
       simp only
       cases bil.wholeF E ps 0 0 with
       | none=>rfl
       | some q =>
        obtain⟨ps',n,t'⟩:=q
        simp only
        cases bil.addZ n t'<;>rfl
     refine Eq.trans ?_ fin
     cases l with
     | nil=>exact absurd rfl h3
     | cons x xs =>
      have hpos:0 < (x::xs).length:=by simp
      have hx:gLi x=true:=by
       rw [List.all_eq_true] at hg
       exact hg x List.mem_cons_self
      obtain⟨p1,p2,p3,p4⟩:=yS9 [] x.cat (zH9 t d x).1 (zH9 t d x).2.1 rfl
      have ih:=yT8 14 t d (x::xs) hg (by omega) xs 1 13 (putL t d x []).1 rfl (by simp) (by simp at h4;omega) p1 p2
      have h2':nL (x::xs) 0=x:=rfl
      rw [xI1,zB4 hpos,cond_true,zA9 hpos,cond_true,h2',hx,cond_true,gI_iff.2 (xM8 t d x),zA2 (by omega),ih,yT4]
      by_cases ha:(zH9 t d x).2.2=0
      ·rw [zB8 ha,if_pos ha]
       by_cases hb:(putL t d x []).2=0
       ·rw [zB8 hb,if_pos hb];rfl
       ·have hb7:(putL t d x []).2=7:=p4.resolve_left hb
        rw [zB7 hb,if_neg hb,hb7];rfl
      ·rw [zB7 ha,if_neg ha];rfl
def wB5:List AV->Option (Bool × AV)
 | [.fl .rate t,.agg [.int .i64 y,.int .i64 m,.int .i64 d],.fl .line l]=>some (l.all gLi,totA (totR t ⟨y,m,d⟩ l).1 (totR t ⟨y,m,d⟩ l).2)
 | _=>none
def c46:ClS:=addG 105 wB5 c45
theorem snd46:zA1 Tryz.prog c46:=zC2 snd45 mix uD8 (.tup [.agg [.any,.any,.any,.lst .part],.any]) wB5 fun xs r h=>by
 unfold wB5 at h
 split at h<;>first | (cases h;done) | skip
 rename_i t y m d l
 obtain⟨hg,rfl⟩:=Prod.mk.inj (Option.some.inj h)
 exact⟨rfl,14,vB9 t ⟨y,m,d⟩ l hg⟩
end Go.Proofs.YtpccdcnjkknmkaaGreatDoor.Ev
