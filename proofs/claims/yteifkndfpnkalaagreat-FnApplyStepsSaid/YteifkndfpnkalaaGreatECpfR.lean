/- Tools. -/
import Derived.Test.YteifkndfpnkalaaGreatChecked
import Derived.Test.YteifkndfpnkalaaGreatELiftTC
import Derived.Test.YteifkndfpnkalaaGreatEShelfP
import Derived.Deep.LoopGhost
import Derived.Deep.QuietTactic
import Derived.Deep.Draws
import Derived.Sort.WalkB12
set_option linter.unusedVariables false
namespace Go.Proofs
open Go.RowKit Go.Lib Go.Sort Go.Lift Go.Proofs.Tryz
structure kG (n:Nat) (dr:Nat→Bool) (m k:Nat) (dk:Array Nat):Prop where
 size:dk.size=n
 len:(et dr m).length=k
 lt:k<m
 low: ∀j,j<k→(et dr m)[j]? =some dk[j]!
 high: ∀j,k≤j→j<n→dk[j]! =j
theorem zG(n j:Nat)(h:j<n):(Array.range n)[j]! =j:=by rw [getElem!_pos _ j (by simpa using h)];simp
theorem kG.start{n:Nat}{dr:Nat→Bool}{lD:Nat}(cY:lD<n)(hall: ∀j,j<lD→dr j=true)(hdup:dr lD=false):kG n dr (lD+1) lD (Array.range n) where
 size:=by simp
 len:=by rw [wH,hdup,Bh hall];simp
 lt:=Nat.lt_succ_self _
 low:=fun j hj=>by
  rw [wH,hdup,Bh hall,zG n j (by omega)];simp [hj]
 high:=fun j _ hj=>zG n j hj
theorem kG.keep{n:Nat}{dr:Nat→Bool}{m k:Nat}{dk:Array Nat}(h:kG n dr m k dk)(hm:m<n)(hk:dr m=true):kG n dr (m+1) (k+1) (dk.setIfInBounds k m) where
 size:=by simp [h.size]
 len:=by rw [wH,hk];simp [h.len]
 lt:=by have:=h.lt;omega
 low:=fun j hj=>by
  have hs:=h.size;have cI:=h.lt;rw [wH,hk,if_pos rfl];by_cases e:j=k
  ·subst e;rw [List.getElem?_append_right (by rw [h.len];exact Nat.le_refl _),h.len,getElem!_pos _ j (by simp;omega)];simp
  rw [List.getElem?_append_left (by rw [h.len];omega),h.low j (by omega),getElem!_pos dk j (by omega),getElem!_pos _ j (by simp;omega),Array.getElem_setIfInBounds];rw [if_neg fun e'=>e e'.symm]
 high:=fun j hj hjn=>by
  have hs:=h.size;have hjs:j<dk.size:=by omega
  have e1:(dk.setIfInBounds k m)[j]! =dk[j]! :=by
   rw [getElem!_pos _ j (by simpa using hjs),getElem!_pos dk j hjs,Array.getElem_setIfInBounds hjs,if_neg (by omega)]
  rw [e1];exact h.high j (by omega) hjn
theorem kG.skip{n:Nat}{dr:Nat→Bool}{m k:Nat}{dk:Array Nat}(h:kG n dr m k dk)(hk:dr m=false):kG n dr (m+1) k dk where
 size:=h.size
 len:=by rw [wH,hk];simpa using h.len
 lt:=by have:=h.lt;omega
 low:=fun j hj=>by rw [wH,hk];simpa using h.low j hj
 high:=h.high
theorem ajO{α:Type}[Inhabited α]{enc:α→Value}{w:World}{b off:Nat}{d:Array α}{cur:Array Value}{ty:TypeId}(bL:w.heap[b]? =some (.cells cur ty (0,0))):
  putRow enc w b off d=w.setRow b (putCells enc off d cur):=by unfold putRow;rw [mapBlock_congr w b _ (fun _=>putCells enc off d cur) fun c e Jm h=>by rw [bL] at h;cases h;rfl];rfl
theorem ajP{α:Type}[Inhabited α](enc:α→Value)(w:World)(b off:Nat)(d:Array α)(k:Nat)(h:k≠b):(putRow enc w b off d).heap[k]? =w.heap[k]? :=by show(w.heap.modify b _)[k]? =_;rw [Array.getElem?_modify,if_neg fun e:b=k=>h e.symm]
theorem agz{vs:Nat→Value}{w:World}{b off n q kk:Nat}{dk:Array Nat}{dr:Nat→Bool}{cur:Array Value}{ty:TypeId}(bL:w.heap[b]? =some (.cells cur ty (0,0)))(cY:off+n≤cur.size)(hI:kG n dr n kk dk):
  let w':=(putRow vs (Sort.ahead w q) b off dk).setCells b (off+kk) (List.replicate (n-kk) (.slice none 0 0))
  (et dr n).length=kk∧Ext (fun x=>x=b) w w'∧ ∃fE,w'.heap[b]? =some (.cells fE ty (0,0))∧fE.size=cur.size∧(∀i,i<(et dr n).length→fE[off+i]? =some (vs ((et dr n).getD i 0)))∧ ∀i,(et dr n).length≤i→i<n→fE[off+i]? =some (.slice none 0 0):=by
 intro w';have hg':(Sort.ahead w q).heap[b]? =some (.cells cur ty (0,0)):=bL;have hp:=ajO (enc:=vs) (off:=off) (d:=dk) hg';have hs:=hI.size;have cI:=hI.lt;obtain⟨C,hC⟩: ∃C,C=putCells vs off dk cur:=⟨_,rfl⟩
 have hCs:C.size=cur.size:=by rw [hC];simp [putCells]
 have hCi: ∀i,i<n→C[off+i]? =some (vs dk[i]!):=fun i hi=>by
  rw [hC];unfold putCells;rw [Array.getElem?_mapIdx,Array.getElem?_eq_getElem (by omega)];simp only [Option.map_some];rw [if_pos (by omega),show off+i-off=i by omega]
 rw [←hC] at hp;have hw':w'=((Sort.ahead w q).setRow b C).setCells b (off+kk) (List.replicate (n-kk) (.slice none 0 0)):=by rw [←hp]
 have hgC:((Sort.ahead w q).setRow b C).heap[b]? =some (.cells C ty (0,0)):=setRow_heap _ _ _ _ _ _ hg';have hrl:(List.replicate (n-kk) (Value.slice none 0 0)).length=n-kk:=List.length_replicate;rw [zu hgC (by rw [hrl];omega) fun v bW=>by rw [List.eq_of_mem_replicate bW];rfl] at hw';refine⟨hI.len,⟨by rw [hw'];rfl,by rw [hw'];rfl,by rw [hw'];rfl,by rw [hw'];simp [Sort.ahead],fun k hk hkb=>?_⟩,_,by rw [hw'];exact setRow_heap _ _ _ _ _ _ hgC,?_,fun i hi=>?_,fun i hi hi2=>?_⟩
 ·rw [hw',setRow_other _ _ _ _ hkb,setRow_other _ _ _ _ hkb];rfl
 ·rw [List.size_toArray];simp only [List.length_append,List.length_take,List.length_drop,Array.length_toList,hrl];omega
 ·rw [hI.len] at hi;rw [List.getElem?_toArray,List.append_assoc,List.getElem?_append_left (by rw [List.length_take,Array.length_toList];omega),List.getElem?_take,if_pos (by omega),Array.getElem?_toList,hCi i (by omega)]
  have:=hI.low i hi;rw [List.getD_eq_getElem?_getD,this];rfl
 rw [hI.len] at hi;rw [List.getElem?_toArray,List.append_assoc,List.getElem?_append_right (by rw [List.length_take,Array.length_toList];omega)];have e0:(C.toList.take (off+kk)).length=off+kk:=by rw [List.length_take,Array.length_toList];omega
 rw [e0,List.getElem?_append_left (by rw [hrl];omega),List.getElem?_replicate,if_pos (by omega)]
theorem agy{vs:Nat→Value}{w:World}{b off n q:Nat}{dr:Nat→Bool}{cur:Array Value}{ty:TypeId}(bL:w.heap[b]? =some (.cells cur ty (0,0)))(cY:off+n≤cur.size)(bW: ∀j,j<n→cur[off+j]? =some (vs j))(hall: ∀j,j<n→dr j=true):
  let w':=w.drewN q
  (et dr n).length=n∧Ext (fun x=>x=b) w w'∧ ∃fE,w'.heap[b]? =some (.cells fE ty (0,0))∧fE.size=cur.size∧(∀i,i<(et dr n).length→fE[off+i]? =some (vs ((et dr n).getD i 0)))∧ ∀i,(et dr n).length≤i→i<n→fE[off+i]? =some (.slice none 0 0):=by
 intro w';have cI:(et dr n).length=n:=by rw [Bh hall];simp
 refine⟨cI,⟨rfl,rfl,rfl,Nat.le_refl _,fun _ _ _=>rfl⟩,cur,bL,rfl,fun i hi=>?_,fun i hi hi2=>by omega⟩;rw [cI] at hi;rw [bW i hi,Bh hall,List.getD_eq_getElem?_getD,List.getElem?_range hi];rfl
set_option maxHeartbeats 4000000 in
set_option maxRecDepth 1000000 in
theorem agt(vs:Nat→Value)(b off n cap:Nat)(ty:TypeId)(cur:Array Value)(dr:Nat→Bool)(w:World)(bL:w.heap[b]? =some (.cells cur ty (0,0)))(cY:off+n≤cur.size)(bW: ∀j,j<n→cur[off+j]? =some (vs j))(qu: ∀j,(vs j).oneCell'=true)(JB:n≤cap)(hm:cap≤maxLen)(JI:dr 0=true)
  (tD: ∀j W,0<j→j<n→w.heap.size≤W.heap.size→(∀k,k≠b→W.heap[k]? =w.heap[k]?)→Calls prog 45 #[vs j,vs (j-1)] W fun e hD=>e= .returned (.bool (!dr j))∧ ∃q,hD=W.drewN q):
  Calls prog 281 #[.slice (some ⟨b,off,none⟩) n cap,.func (.func 45) #[] #[]] w fun e w'=>e= .returned (.slice (some ⟨b,off,none⟩) (et dr n).length cap)∧Ext (fun x=>x=b) w w'∧ ∃fE,w'.heap[b]? =some (.cells fE ty (0,0))∧fE.size=cur.size∧(∀i,i<(et dr n).length→fE[off+i]? =some (vs ((et dr n).getD i 0)))∧ ∀i,(et dr n).length≤i→i<n→fE[off+i]? =some (.slice none 0 0):=by
 have hm':cap≤9223372036854775807:=by unfold maxLen at hm;omega
 have hH:Holds vs w b off (Array.range n):=fun j hj=>by
  have hj':j<n:=by simpa using hj
  have h0:=bW j hj';rw [zG n j hj'];exact⟨by simp [World.cell?,bL,h0],by simp [World.frozen?,bL]⟩
 have HF:Hid (∀q kk dk,kG n dr n kk dk→(et dr n).length=kk∧Ext (fun x=>x=b) w ((putRow vs (Sort.ahead w q) b off dk).setCells b (off+kk) (List.replicate (n-kk) (.slice none 0 0)))∧ ∃fE,((putRow vs (Sort.ahead w q) b off dk).setCells b (off+kk) (List.replicate (n-kk) (.slice none 0 0))).heap[b]? =some (.cells fE ty (0,0))∧fE.size=cur.size∧(∀i,i<(et dr n).length→fE[off+i]? =some (vs ((et dr n).getD i 0)))∧ ∀i,(et dr n).length≤i→i<n→fE[off+i]? =some (.slice none 0 0)):=fun q kk dk hI=>agz bL cY hI;have HA:Hid (∀q,(∀j,j<n→dr j=true)→(et dr n).length=n∧Ext (fun x=>x=b) w (w.drewN q)∧ ∃fE,(w.drewN q).heap[b]? =some (.cells fE ty (0,0))∧fE.size=cur.size∧(∀i,i<(et dr n).length→fE[off+i]? =some (vs ((et dr n).getD i 0)))∧ ∀i,(et dr n).length≤i→i<n→fE[off+i]? =some (.slice none 0 0)):=fun q hall=>agy bL cY bW hall;have HC:Hid (∀j W,0<j→j<n→w.heap.size≤W.heap.size→(∀k,k≠b→W.heap[k]? =w.heap[k]?)→Calls prog 45 #[vs j,vs (j-1)] W fun e hD=>e= .returned (.bool (!dr j))∧ ∃q,hD=W.drewN q):=tD;have HH:Hid (Holds vs w b off (Array.range n)):=hH;have HK:Hid (dr 0=true):=JI;have HO:Hid (∀j,(vs j).oneCell'=true):=qu;clear tD bL bW hH JI qu cY hm;by_cases h2:n<2
 ·have h2':(n:Int)<2:=by omega
  go_enter func281,Tryz.ntmps281
  go_wp2
  go_ret
  obtain⟨e1,e2⟩:=HA.out 0 fun j hj=>by rw [show j=0 by omega];exact HK.out
  rw [e1] at e2⊢;exact⟨rfl,e2⟩
 have h2': ¬(n:Int)<2:=by omega
 go_enter func281,Tryz.ntmps281
 go_wp2
 go_loopg [5] n (fun g s5 wr=> ∃k q:Nat,1≤k∧k≤n∧n-k≤g∧s5= .int .i64 k∧wr=w.drewN q∧ ∀j,j<k→dr j=true)
 case atStart=>exact⟨1,0,Nat.le_refl _,by omega,by omega,rfl,rfl,fun j hj=>by rw [show j=0 by omega];exact HK.out⟩
 case round=>
  obtain⟨k,q,hk1,hk,hgk,rfl,hwr,hall⟩:=hrel;have E0:Hid (wr=w.drewN q):=hwr;clear hwr;have A:Hid (∀j,j<k→dr j=true):=hall;clear hall;by_cases hlt:k<n
  ·obtain⟨c1,f1⟩:=HH.out k (by simpa using hlt);obtain⟨c0,f0⟩:=HH.out (k-1) (by simp;omega);rw [zG n k hlt] at c1;rw [zG n (k-1) (by omega)] at c0;have c1:wr.cell? ⟨b,off+k,none⟩=some (vs k):=by rw [E0.out];exact c1
   have c0:wr.cell? ⟨b,off+(k-1),none⟩=some (vs (k-1)):=by rw [E0.out];exact c0
   have bT: ∀m:Nat,Calls prog 45 #[vs k,vs (k-1)] (wr.drewN m) fun e hD=>e= .returned (.bool (!dr k))∧ ∃q,hD=(wr.drewN m).drewN q:=fun m=>HC.out k _ (by omega) hlt (by rw [E0.out];exact Nat.le_refl _) fun _ _=>by rw [E0.out];rfl
   generalize hx:vs k=x at c1 bT;generalize hy:vs (k-1)=y at c0 bT;have B:Hid (vs k=x∧vs (k-1)=y):=⟨hx,hy⟩
   have ox:x.oneCell'=true:=by rw [←hx];exact HO.out k
   have oy:y.oneCell'=true:=by rw [←hy];exact HO.out (k-1)
   clear hx hy;have n1:(0:Int)≤(k:Int)-1:=by omega
   have n5:(1:Int)≤(k:Int):=by omega
   have n2:(k:Int)-1<(n:Int):=by omega
   have n3:((k:Int)-1).toNat=k-1:=by omega
   have n4:IntKind.i64.wrap ((k:Int)-1)=(k:Int)-1:=by rw [IntKind.wrap_i64];omega
   cases hkp:dr k with
   |false=>
    rw [hkp] at bT;have bT: ∀m:Nat,Calls prog 45 #[x,y] (wr.drewN m) fun e hD=>e= .returned (.bool true)∧ ∃q,hD=(wr.drewN m).drewN q:=bT;have hck: ¬cap=k:=by omega
    have hkc:k≤cap:=by omega
    have hkn:k≤n:=by omega
    have I0:Hid (kG n dr (k+1) k (Array.range n)):=kG.start hlt A.out hkp;clear hkp
    go_wp2_with fail
    go_quiet (refine Calls.quiet_of (bT _))
    have W0:Hid (wr.drewN nq=putRow vs (Sort.ahead w (q+nq)) b off (Array.range n)):=by
     show _=_;rw [E0.out];exact(putRow_self vs (Sort.ahead w (q+nq)) b off (Array.range n) HH.out).symm▸(by show(w.drewN q).drewN nq=Sort.ahead w (q+nq);simp [World.drewN,Sort.ahead,Nat.add_assoc])
    clear c1 c0 f1 f0 bT E0 B n1 n2 n3 n4 n5;generalize wr.drewN nq=W1 at W0⊢
    go_wp2
    go_loopg [5,7] n (fun g s5 s7 wr2=> ∃(kk cF q2:Nat) (dk:Array Nat),s5= .int .i64 kk∧s7= .int .i64 cF∧1≤cF∧k+cF≤n∧n-(k+cF)≤g∧Hid (wr2=putRow vs (Sort.ahead w q2) b off dk)∧Hid (kG n dr (k+cF) kk dk))
    case atStart=>exact⟨k,1,q+nq,Array.range n,rfl,rfl,Nat.le_refl _,by omega,by omega,W0,I0⟩
    case round=>
     obtain⟨kk,cF,q2,dk,rfl,rfl,h1,hle,hg2,W2,I2⟩:=hrel;have hkk:=I2.out.lt;have hds:=I2.out.size;have HD:Holds vs wr b off dk:=by
      rw [W2.out];exact holds_putRow vs _ b off (Array.range n) dk (holds_ahead vs w q2 b off _ HH.out) (by rw [hds];simp)
     by_cases hlt2:k+cF<n
     ·obtain⟨cm,_⟩:=HD (k+cF) (by omega);obtain⟨cp,_⟩:=HD (k+cF-1) (by omega);obtain⟨ck,fk⟩:=HD kk (by omega);rw [I2.out.high (k+cF) (by omega) (by omega),show off+(k+cF)=off+k+cF by omega] at cm;rw [I2.out.high (k+cF-1) (by omega) (by omega),show off+(k+cF-1)=off+k+(cF-1) by omega] at cp;have bT: ∀m:Nat,Calls prog 45 #[vs (k+cF),vs (k+cF-1)] (wr.drewN m) fun e hD=>e= .returned (.bool (!dr (k+cF)))∧ ∃q,hD=(wr.drewN m).drewN q:=fun m=>HC.out (k+cF) _ (by omega) hlt2 (by rw [W2.out];show _≤(putRow vs (Sort.ahead w q2) b off dk).heap.size;rw [Go.Sort.size_putRow];exact Nat.le_refl _) fun x hx=>by rw [W2.out];exact ajP vs _ b off dk x hx
      have ou:(vs (k+cF)).oneCell'=true:=HO.out (k+cF);have U0:Hid (∀q,(wr.drewN q).setCell ⟨b,off+kk,none⟩ (vs (k+cF))=putRow vs (Sort.ahead w (q2+q)) b off (dk.setIfInBounds kk (k+cF))):=fun q=>by
       rw [←putRow_set vs _ b off dk kk (k+cF) (by omega),W2.out];congr 1;show(putRow vs (Sort.ahead w q2) b off dk).drewN q=_;simp only [World.drewN,putRow,mapBlock,Sort.ahead,Nat.add_assoc]
      have S0: ∀q,(storeCells ⟨b,off+kk,none⟩ [vs (k+cF)]).run prog (wr.drewN q)= .ok () ((wr.drewN q).setCell ⟨b,off+kk,none⟩ (vs (k+cF))):=fun q=>by
       have h:=run_storeCells_cells (P:=prog) b (off+kk) [vs (k+cF)] 0 (wr.drewN q) (fun j hj=>by
        have hj0:j=0:=by simpa using hj
        subst hj0;show(wr.cell? _).isSome=true;rw [show off+kk+0+0=off+kk by omega,ck];rfl) (fun j hj=>by
        have hj0:j=0:=by simpa using hj
        subst hj0;exact fk) fun v bW=>by rw [List.mem_singleton] at bW;subst bW;exact ou
       rw [Nat.add_zero] at h;exact h
      have U1:Hid (∀q,wr.drewN q=putRow vs (Sort.ahead w (q2+q)) b off dk):=fun q=>by
       rw [W2.out];simp only [World.drewN,putRow,mapBlock,Sort.ahead,Nat.add_assoc]
      clear HD hds;generalize hu:vs (k+cF)=u at cm bT ou U0 S0;generalize bW:vs (k+cF-1)=v at cp bT;generalize vs dk[kk]! =old at ck;clear hu bW;have n1:(0:Int)≤(cF:Int)-1:=by omega
      have n2:(cF:Int)-1<((n-k:Nat):Int):=by omega
      have n3:((cF:Int)-1).toNat=cF-1:=by omega
      have n4:IntKind.i64.wrap ((cF:Int)-1)=(cF:Int)-1:=by rw [IntKind.wrap_i64];omega
      have n5:(1:Int)≤(cF:Int):=by omega
      have n6:cF<n-k:=by omega
      have n7:(cF:Int)<((n-k:Nat):Int):=by omega
      have n8:(kk:Int)<(n:Int):=by omega
      have n9:kk<n:=by omega
      cases hkp:dr (k+cF) with
      |false=>
       rw [hkp] at bT;have bT: ∀m:Nat,Calls prog 45 #[u,v] (wr.drewN m) fun e hD=>e= .returned (.bool true)∧ ∃q,hD=(wr.drewN m).drewN q:=bT;have I3:Hid (kG n dr (k+(cF+1)) kk dk):=I2.out.skip hkp;clear hkp
       go_wp2_with fail
       go_quiet (refine Calls.quiet_of (bT _))
       clear cm cp ck fk bT U0 S0
       go_wp2
       go_roundg (n-(k+(cF+1)))
       case measure=>omega
       case rel=>exact⟨kk,cF+1,q2+nq,dk,rfl,by go_num,by omega,by omega,Nat.le_refl _,U1.out nq,I3⟩
      |true=>
       rw [hkp] at bT;have bT: ∀m:Nat,Calls prog 45 #[u,v] (wr.drewN m) fun e hD=>e= .returned (.bool false)∧ ∃q,hD=(wr.drewN m).drewN q:=bT;have I3:Hid (kG n dr (k+(cF+1)) (kk+1) (dk.setIfInBounds kk (k+cF))):=I2.out.keep hlt2 hkp;clear hkp
       go_wp2_with fail
       go_quiet (refine Calls.quiet_of (bT _))
       go_wp2
       rw [S0 nq]
       go_wp2
       go_roundg (n-(k+(cF+1)))
       case measure=>omega
       case rel=>exact⟨kk+1,cF+1,q2+nq,dk.setIfInBounds kk (k+cF),by go_num,by go_num,by omega,by omega,Nat.le_refl _,U0.out nq,I3⟩
     have hend:k+cF=n:=by omega
     have hcl: ∀ty,(Builtin.clear_ #[123] ty #[.slice (some ⟨b,off+kk,none⟩) (n-kk) (cap-kk)]).run prog wr= .ok (.tuple #[]) (wr.setCells b (off+kk) (List.replicate (n-kk) (.slice none 0 0))):=
      fun ty=>Lib.run_clear_slice wr 123 53 ty (.slice none 0 0) underlying123 (fun w=>by kernel_rfl) rfl rfl b (off+kk) _ _ (by omega) (fun j hj=>by rw [show off+kk+j=off+(kk+j) by omega,(HD (kk+j) (by omega)).1];rfl) fun j hj=>by rw [show off+kk+j=off+(kk+j) by omega];exact(HD (kk+j) (by omega)).2
     have hck2: ¬cap=kk:=by omega
     have n1:kk≤n:=by omega
     have n2:kk≤cap:=by omega
     have I3:Hid (kG n dr n kk dk):=hend▸I2;clear HD hds
     go_wp2
     go_ret
     obtain⟨e1,e2⟩:=HF.out q2 kk dk I3.out;rw [←W2.out] at e2;rw [e1] at e2⊢;exact⟨rfl,e2⟩
   |true=>
    rw [hkp] at bT;have bT: ∀m:Nat,Calls prog 45 #[x,y] (wr.drewN m) fun e hD=>e= .returned (.bool false)∧ ∃q,hD=(wr.drewN m).drewN q:=bT;have K0:Hid (dr k=true):=hkp;clear hkp
    go_wp2_with fail
    go_quiet (refine Calls.quiet_of (bT _))
    clear c1 c0 f1 f0 bT B
    go_wp2
    go_roundg (n-(k+1))
    case measure=>omega
    case rel=>
     refine⟨k+1,q+nq,by omega,by omega,Nat.le_refl _,by go_num,by rw [E0.out,World.drewN_drewN],fun j hj=>?_⟩;by_cases e:j=k
     ·subst e;exact K0.out
     exact A.out j (by omega)
  have hkn:k=n:=by omega
  subst hkn
  go_wp2
  go_ret
  obtain⟨e1,e2⟩:=HA.out q A.out;rw [←E0.out] at e2;rw [e1] at e2⊢;exact⟨rfl,e2⟩
set_option maxRecDepth 100000 in
theorem ags(a:Option Addr)(c:Nat)(w:World):Calls prog 281 #[.slice a 0 c,.func (.func 45) #[] #[]] w fun e w'=>e= .returned (.slice a 0 c)∧w'=w:=by
 go_enter func281,Tryz.ntmps281
 go_wp2
 go_ret
 exact⟨rfl,rfl⟩
theorem agA:Ln prog 281 45:=⟨agt,ags⟩
theorem agM:FE prog 45 where
 both:=fun dc iB n c cS lF m d xs ys w h1 h2 h3 h4 h5 h6=>by
  have:=Tryz.slices_Equal_int dc iB n c cS lF m d xs ys w (by omega) (by omega) h3 h4 h5 h6;rw [←h1,←h2,List.take_length,List.take_length] at this;rw [←h1,←h2];exact this
 lens:=Tryz.slices_Equal_int_lens
 qL:=Tryz.slices_Equal_int_empty
end Go.Proofs
