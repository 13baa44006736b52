/- Tools. -/
import Derived.Test.YteifkndfpnkalabGreatChecked
import Derived.Test.YteifkndfpnkalabGreatVLiftTC
import Derived.Test.YteifkndfpnkalabGreatVShelfP
import Derived.Deep.LoopGhost
import Derived.Deep.QuietTactic
import Derived.Deep.Draws
import Derived.Sort.WalkB12
set_option linter.unusedVariables false
namespace Go.Proofs
open Go.RowKit Go.Lib Go.Sort Go.Lift Go.Proofs.Tryz
structure jQ (n:Nat) (dq:Nat→Bool) (m k:Nat) (dk:Array Nat):Prop where
 size:dk.size=n
 len:(ei dq m).length=k
 lt:k<m
 low: ∀j,j<k→(ei dq m)[j]? =some dk[j]!
 high: ∀j,k≤j→j<n→dk[j]! =j
theorem zy(n j:Nat)(h:j<n):(Array.range n)[j]! =j:=by rw [getElem!_pos _ j (by simpa using h)];simp
theorem jQ.start{n:Nat}{dq:Nat→Bool}{lg:Nat}(cR:lg<n)(hall: ∀j,j<lg→dq j=true)(hdup:dq lg=false):jQ n dq (lg+1) lg (Array.range n) where
 size:=by simp
 len:=by rw [wG,hdup,A3 hall];simp
 lt:=Nat.lt_succ_self _
 low:=fun j hj=>by
  rw [wG,hdup,A3 hall,zy n j (by omega)];simp [hj]
 high:=fun j _ hj=>zy n j hj
theorem jQ.keep{n:Nat}{dq:Nat→Bool}{m k:Nat}{dk:Array Nat}(h:jQ n dq m k dk)(hm:m<n)(hk:dq m=true):jQ n dq (m+1) (k+1) (dk.setIfInBounds k m) where
 size:=by simp [h.size]
 len:=by rw [wG,hk];simp [h.len]
 lt:=by have:=h.lt;omega
 low:=fun j hj=>by
  have hs:=h.size;have hl:=h.lt;rw [wG,hk,if_pos rfl];by_cases e:j=k
  ·subst e;rw [List.getElem?_append_right (by rw [h.len];exact Nat.le_refl _),h.len,getElem!_pos _ j (by simp;omega)];simp
  rw [List.getElem?_append_left (by rw [h.len];omega),h.low j (by omega),getElem!_pos dk j (by omega),getElem!_pos _ j (by simp;omega),Array.getElem_setIfInBounds];rw [if_neg fun e'=>e e'.symm]
 high:=fun j hj hjn=>by
  have hs:=h.size;have hjs:j<dk.size:=by omega
  have e1:(dk.setIfInBounds k m)[j]! =dk[j]! :=by
   rw [getElem!_pos _ j (by simpa using hjs),getElem!_pos dk j hjs,Array.getElem_setIfInBounds hjs,if_neg (by omega)]
  rw [e1];exact h.high j (by omega) hjn
theorem jQ.skip{n:Nat}{dq:Nat→Bool}{m k:Nat}{dk:Array Nat}(h:jQ n dq m k dk)(hk:dq m=false):jQ n dq (m+1) k dk where
 size:=h.size
 len:=by rw [wG,hk];simpa using h.len
 lt:=by have:=h.lt;omega
 low:=fun j hj=>by rw [wG,hk];simpa using h.low j hj
 high:=h.high
theorem ajk{α:Type}[Inhabited α]{enc:α→Value}{w:World}{b off:Nat}{d:Array α}{cur:Array Value}{ty:TypeId}(bV:w.heap[b]? =some (.cells cur ty (0,0))):
  putRow enc w b off d=w.setRow b (putCells enc off d cur):=by unfold putRow;rw [mapBlock_congr w b _ (fun _=>putCells enc off d cur) fun c e Jh h=>by rw [bV] at h;cases h;rfl];rfl
theorem ajl{α:Type}[Inhabited α](enc:α→Value)(w:World)(b off:Nat)(d:Array α)(k:Nat)(h:k≠b):(putRow enc w b off d).heap[k]? =w.heap[k]? :=by show(w.heap.modify b _)[k]? =_;rw [Array.getElem?_modify,if_neg fun e:b=k=>h e.symm]
theorem agj{vs:Nat→Value}{w:World}{b off n q kk:Nat}{dk:Array Nat}{dq:Nat→Bool}{cur:Array Value}{ty:TypeId}(bV:w.heap[b]? =some (.cells cur ty (0,0)))(cR:off+n≤cur.size)(hI:jQ n dq n kk dk):
  let w':=(putRow vs (Sort.ahead w q) b off dk).setCells b (off+kk) (List.replicate (n-kk) (.slice none 0 0))
  (ei dq n).length=kk∧Ext (fun x=>x=b) w w'∧ ∃fq,w'.heap[b]? =some (.cells fq ty (0,0))∧fq.size=cur.size∧(∀i,i<(ei dq n).length→fq[off+i]? =some (vs ((ei dq n).getD i 0)))∧ ∀i,(ei dq n).length≤i→i<n→fq[off+i]? =some (.slice none 0 0):=by
 intro w';have hg':(Sort.ahead w q).heap[b]? =some (.cells cur ty (0,0)):=bV;have hp:=ajk (enc:=vs) (off:=off) (d:=dk) hg';have hs:=hI.size;have hl:=hI.lt;obtain⟨C,hC⟩: ∃C,C=putCells vs off dk cur:=⟨_,rfl⟩
 have hCs:C.size=cur.size:=by rw [hC];simp [putCells]
 have hCi: ∀i,i<n→C[off+i]? =some (vs dk[i]!):=fun i aL=>by
  rw [hC];unfold putCells;rw [Array.getElem?_mapIdx,Array.getElem?_eq_getElem (by omega)];simp only [Option.map_some];rw [if_pos (by omega),show off+i-off=i by omega]
 rw [←hC] at hp;have hw':w'=((Sort.ahead w q).setRow b C).setCells b (off+kk) (List.replicate (n-kk) (.slice none 0 0)):=by rw [←hp]
 have hgC:((Sort.ahead w q).setRow b C).heap[b]? =some (.cells C ty (0,0)):=setRow_heap _ _ _ _ _ _ hg';have hrl:(List.replicate (n-kk) (Value.slice none 0 0)).length=n-kk:=List.length_replicate;rw [ze hgC (by rw [hrl];omega) fun v bR=>by rw [List.eq_of_mem_replicate bR];rfl] at hw';refine⟨hI.len,⟨by rw [hw'];rfl,by rw [hw'];rfl,by rw [hw'];rfl,by rw [hw'];simp [Sort.ahead],fun k hk hkb=>?_⟩,_,by rw [hw'];exact setRow_heap _ _ _ _ _ _ hgC,?_,fun i aL=>?_,fun i aL hi2=>?_⟩
 ·rw [hw',setRow_other _ _ _ _ hkb,setRow_other _ _ _ _ hkb];rfl
 ·rw [List.size_toArray];simp only [List.length_append,List.length_take,List.length_drop,Array.length_toList,hrl];omega
 ·rw [hI.len] at aL;rw [List.getElem?_toArray,List.append_assoc,List.getElem?_append_left (by rw [List.length_take,Array.length_toList];omega),List.getElem?_take,if_pos (by omega),Array.getElem?_toList,hCi i (by omega)]
  have:=hI.low i aL;rw [List.getD_eq_getElem?_getD,this];rfl
 rw [hI.len] at aL;rw [List.getElem?_toArray,List.append_assoc,List.getElem?_append_right (by rw [List.length_take,Array.length_toList];omega)];have e0:(C.toList.take (off+kk)).length=off+kk:=by rw [List.length_take,Array.length_toList];omega
 rw [e0,List.getElem?_append_left (by rw [hrl];omega),List.getElem?_replicate,if_pos (by omega)]
theorem agi{vs:Nat→Value}{w:World}{b off n q:Nat}{dq:Nat→Bool}{cur:Array Value}{ty:TypeId}(bV:w.heap[b]? =some (.cells cur ty (0,0)))(cR:off+n≤cur.size)(bR: ∀j,j<n→cur[off+j]? =some (vs j))(hall: ∀j,j<n→dq j=true):
  let w':=w.drewN q
  (ei dq n).length=n∧Ext (fun x=>x=b) w w'∧ ∃fq,w'.heap[b]? =some (.cells fq ty (0,0))∧fq.size=cur.size∧(∀i,i<(ei dq n).length→fq[off+i]? =some (vs ((ei dq n).getD i 0)))∧ ∀i,(ei dq n).length≤i→i<n→fq[off+i]? =some (.slice none 0 0):=by
 intro w';have hl:(ei dq n).length=n:=by rw [A3 hall];simp
 refine⟨hl,⟨rfl,rfl,rfl,Nat.le_refl _,fun _ _ _=>rfl⟩,cur,bV,rfl,fun i aL=>?_,fun i aL hi2=>by omega⟩;rw [hl] at aL;rw [bR i aL,A3 hall,List.getD_eq_getElem?_getD,List.getElem?_range aL];rfl
set_option maxHeartbeats 4000000 in
set_option maxRecDepth 1000000 in
theorem agc(vs:Nat→Value)(b off n cap:Nat)(ty:TypeId)(cur:Array Value)(dq:Nat→Bool)(w:World)(bV:w.heap[b]? =some (.cells cur ty (0,0)))(cR:off+n≤cur.size)(bR: ∀j,j<n→cur[off+j]? =some (vs j))(nF: ∀j,(vs j).oneCell'=true)(Jy:n≤cap)(hm:cap≤maxLen)(JG:dq 0=true)
  (sU: ∀j W,0<j→j<n→w.heap.size≤W.heap.size→(∀k,k≠b→W.heap[k]? =w.heap[k]?)→Calls prog 238 #[vs j,vs (j-1)] W fun e gz=>e= .returned (.bool (!dq j))∧ ∃q,gz=W.drewN q):
  Calls prog 283 #[.slice (some ⟨b,off,none⟩) n cap,.func (.func 238) #[] #[]] w fun e w'=>e= .returned (.slice (some ⟨b,off,none⟩) (ei dq n).length cap)∧Ext (fun x=>x=b) w w'∧ ∃fq,w'.heap[b]? =some (.cells fq ty (0,0))∧fq.size=cur.size∧(∀i,i<(ei dq n).length→fq[off+i]? =some (vs ((ei dq n).getD i 0)))∧ ∀i,(ei dq n).length≤i→i<n→fq[off+i]? =some (.slice none 0 0):=by
 have hm':cap≤9223372036854775807:=by unfold maxLen at hm;omega
 have hH:Holds vs w b off (Array.range n):=fun j hj=>by
  have hj':j<n:=by simpa using hj
  have h0:=bR j hj';rw [zy n j hj'];exact⟨by simp [World.cell?,bV,h0],by simp [World.frozen?,bV]⟩
 have HF:Hid (∀q kk dk,jQ n dq n kk dk→(ei dq n).length=kk∧Ext (fun x=>x=b) w ((putRow vs (Sort.ahead w q) b off dk).setCells b (off+kk) (List.replicate (n-kk) (.slice none 0 0)))∧ ∃fq,((putRow vs (Sort.ahead w q) b off dk).setCells b (off+kk) (List.replicate (n-kk) (.slice none 0 0))).heap[b]? =some (.cells fq ty (0,0))∧fq.size=cur.size∧(∀i,i<(ei dq n).length→fq[off+i]? =some (vs ((ei dq n).getD i 0)))∧ ∀i,(ei dq n).length≤i→i<n→fq[off+i]? =some (.slice none 0 0)):=fun q kk dk hI=>agj bV cR hI;have HA:Hid (∀q,(∀j,j<n→dq j=true)→(ei dq n).length=n∧Ext (fun x=>x=b) w (w.drewN q)∧ ∃fq,(w.drewN q).heap[b]? =some (.cells fq ty (0,0))∧fq.size=cur.size∧(∀i,i<(ei dq n).length→fq[off+i]? =some (vs ((ei dq n).getD i 0)))∧ ∀i,(ei dq n).length≤i→i<n→fq[off+i]? =some (.slice none 0 0)):=fun q hall=>agi bV cR bR hall;have HC:Hid (∀j W,0<j→j<n→w.heap.size≤W.heap.size→(∀k,k≠b→W.heap[k]? =w.heap[k]?)→Calls prog 238 #[vs j,vs (j-1)] W fun e gz=>e= .returned (.bool (!dq j))∧ ∃q,gz=W.drewN q):=sU;have HH:Hid (Holds vs w b off (Array.range n)):=hH;have HK:Hid (dq 0=true):=JG;have HO:Hid (∀j,(vs j).oneCell'=true):=nF;clear sU bV bR hH JG nF cR hm;by_cases h2:n<2
 ·have h2':(n:Int)<2:=by omega
  go_enter func283,Tryz.ntmps283
  go_wp2
  go_ret
  obtain⟨e1,e2⟩:=HA.out 0 fun j hj=>by rw [show j=0 by omega];exact HK.out
  rw [e1] at e2⊢;exact⟨rfl,e2⟩
 have h2': ¬(n:Int)<2:=by omega
 go_enter func283,Tryz.ntmps283
 go_wp2
 go_loopg [5] n (fun g s5 wr=> ∃k q:Nat,1≤k∧k≤n∧n-k≤g∧s5= .int .i64 k∧wr=w.drewN q∧ ∀j,j<k→dq j=true)
 case atStart=>exact⟨1,0,Nat.le_refl _,by omega,by omega,rfl,rfl,fun j hj=>by rw [show j=0 by omega];exact HK.out⟩
 case round=>
  obtain⟨k,q,hk1,hk,hgk,rfl,hwr,hall⟩:=hrel;have E0:Hid (wr=w.drewN q):=hwr;clear hwr;have A:Hid (∀j,j<k→dq j=true):=hall;clear hall;by_cases hlt:k<n
  ·obtain⟨c1,f1⟩:=HH.out k (by simpa using hlt);obtain⟨c0,f0⟩:=HH.out (k-1) (by simp;omega);rw [zy n k hlt] at c1;rw [zy n (k-1) (by omega)] at c0;have c1:wr.cell? ⟨b,off+k,none⟩=some (vs k):=by rw [E0.out];exact c1
   have c0:wr.cell? ⟨b,off+(k-1),none⟩=some (vs (k-1)):=by rw [E0.out];exact c0
   have bW: ∀m:Nat,Calls prog 238 #[vs k,vs (k-1)] (wr.drewN m) fun e gz=>e= .returned (.bool (!dq k))∧ ∃q,gz=(wr.drewN m).drewN q:=fun m=>HC.out k _ (by omega) hlt (by rw [E0.out];exact Nat.le_refl _) fun _ _=>by rw [E0.out];rfl
   generalize hx:vs k=x at c1 bW;generalize hy:vs (k-1)=y at c0 bW;have B:Hid (vs k=x∧vs (k-1)=y):=⟨hx,hy⟩
   have ox:x.oneCell'=true:=by rw [←hx];exact HO.out k
   have oy:y.oneCell'=true:=by rw [←hy];exact HO.out (k-1)
   clear hx hy;have n1:(0:Int)≤(k:Int)-1:=by omega
   have n5:(1:Int)≤(k:Int):=by omega
   have n2:(k:Int)-1<(n:Int):=by omega
   have n3:((k:Int)-1).toNat=k-1:=by omega
   have n4:IntKind.i64.wrap ((k:Int)-1)=(k:Int)-1:=by rw [IntKind.wrap_i64];omega
   cases hkp:dq k with
   |false=>
    rw [hkp] at bW;have bW: ∀m:Nat,Calls prog 238 #[x,y] (wr.drewN m) fun e gz=>e= .returned (.bool true)∧ ∃q,gz=(wr.drewN m).drewN q:=bW;have hck: ¬cap=k:=by omega
    have hkc:k≤cap:=by omega
    have hkn:k≤n:=by omega
    have I0:Hid (jQ n dq (k+1) k (Array.range n)):=jQ.start hlt A.out hkp;clear hkp
    go_wp2_with fail
    go_quiet (refine Calls.quiet_of (bW _))
    have W0:Hid (wr.drewN nq=putRow vs (Sort.ahead w (q+nq)) b off (Array.range n)):=by
     show _=_;rw [E0.out];exact(putRow_self vs (Sort.ahead w (q+nq)) b off (Array.range n) HH.out).symm▸(by show(w.drewN q).drewN nq=Sort.ahead w (q+nq);simp [World.drewN,Sort.ahead,Nat.add_assoc])
    clear c1 c0 f1 f0 bW E0 B n1 n2 n3 n4 n5;generalize wr.drewN nq=W1 at W0⊢
    go_wp2
    go_loopg [5,7] n (fun g s5 s7 wr2=> ∃(kk cO q2:Nat) (dk:Array Nat),s5= .int .i64 kk∧s7= .int .i64 cO∧1≤cO∧k+cO≤n∧n-(k+cO)≤g∧Hid (wr2=putRow vs (Sort.ahead w q2) b off dk)∧Hid (jQ n dq (k+cO) kk dk))
    case atStart=>exact⟨k,1,q+nq,Array.range n,rfl,rfl,Nat.le_refl _,by omega,by omega,W0,I0⟩
    case round=>
     obtain⟨kk,cO,q2,dk,rfl,rfl,h1,hle,hg2,W2,I2⟩:=hrel;have hkk:=I2.out.lt;have hds:=I2.out.size;have HD:Holds vs wr b off dk:=by
      rw [W2.out];exact holds_putRow vs _ b off (Array.range n) dk (holds_ahead vs w q2 b off _ HH.out) (by rw [hds];simp)
     by_cases hlt2:k+cO<n
     ·obtain⟨cm,_⟩:=HD (k+cO) (by omega);obtain⟨cp,_⟩:=HD (k+cO-1) (by omega);obtain⟨ck,fk⟩:=HD kk (by omega);rw [I2.out.high (k+cO) (by omega) (by omega),show off+(k+cO)=off+k+cO by omega] at cm;rw [I2.out.high (k+cO-1) (by omega) (by omega),show off+(k+cO-1)=off+k+(cO-1) by omega] at cp;have bW: ∀m:Nat,Calls prog 238 #[vs (k+cO),vs (k+cO-1)] (wr.drewN m) fun e gz=>e= .returned (.bool (!dq (k+cO)))∧ ∃q,gz=(wr.drewN m).drewN q:=fun m=>HC.out (k+cO) _ (by omega) hlt2 (by rw [W2.out];show _≤(putRow vs (Sort.ahead w q2) b off dk).heap.size;rw [Go.Sort.size_putRow];exact Nat.le_refl _) fun x hx=>by rw [W2.out];exact ajl vs _ b off dk x hx
      have ou:(vs (k+cO)).oneCell'=true:=HO.out (k+cO);have U0:Hid (∀q,(wr.drewN q).setCell ⟨b,off+kk,none⟩ (vs (k+cO))=putRow vs (Sort.ahead w (q2+q)) b off (dk.setIfInBounds kk (k+cO))):=fun q=>by
       rw [←putRow_set vs _ b off dk kk (k+cO) (by omega),W2.out];congr 1;show(putRow vs (Sort.ahead w q2) b off dk).drewN q=_;simp only [World.drewN,putRow,mapBlock,Sort.ahead,Nat.add_assoc]
      have S0: ∀q,(storeCells ⟨b,off+kk,none⟩ [vs (k+cO)]).run prog (wr.drewN q)= .ok () ((wr.drewN q).setCell ⟨b,off+kk,none⟩ (vs (k+cO))):=fun q=>by
       have h:=run_storeCells_cells (P:=prog) b (off+kk) [vs (k+cO)] 0 (wr.drewN q) (fun j hj=>by
        have hj0:j=0:=by simpa using hj
        subst hj0;show(wr.cell? _).isSome=true;rw [show off+kk+0+0=off+kk by omega,ck];rfl) (fun j hj=>by
        have hj0:j=0:=by simpa using hj
        subst hj0;exact fk) fun v bR=>by rw [List.mem_singleton] at bR;subst bR;exact ou
       rw [Nat.add_zero] at h;exact h
      have U1:Hid (∀q,wr.drewN q=putRow vs (Sort.ahead w (q2+q)) b off dk):=fun q=>by
       rw [W2.out];simp only [World.drewN,putRow,mapBlock,Sort.ahead,Nat.add_assoc]
      clear HD hds;generalize hu:vs (k+cO)=u at cm bW ou U0 S0;generalize bR:vs (k+cO-1)=v at cp bW;generalize vs dk[kk]! =old at ck;clear hu bR;have n1:(0:Int)≤(cO:Int)-1:=by omega
      have n2:(cO:Int)-1<((n-k:Nat):Int):=by omega
      have n3:((cO:Int)-1).toNat=cO-1:=by omega
      have n4:IntKind.i64.wrap ((cO:Int)-1)=(cO:Int)-1:=by rw [IntKind.wrap_i64];omega
      have n5:(1:Int)≤(cO:Int):=by omega
      have n6:cO<n-k:=by omega
      have n7:(cO:Int)<((n-k:Nat):Int):=by omega
      have n8:(kk:Int)<(n:Int):=by omega
      have n9:kk<n:=by omega
      cases hkp:dq (k+cO) with
      |false=>
       rw [hkp] at bW;have bW: ∀m:Nat,Calls prog 238 #[u,v] (wr.drewN m) fun e gz=>e= .returned (.bool true)∧ ∃q,gz=(wr.drewN m).drewN q:=bW;have I3:Hid (jQ n dq (k+(cO+1)) kk dk):=I2.out.skip hkp;clear hkp
       go_wp2_with fail
       go_quiet (refine Calls.quiet_of (bW _))
       clear cm cp ck fk bW U0 S0
       go_wp2
       go_roundg (n-(k+(cO+1)))
       case measure=>omega
       case rel=>exact⟨kk,cO+1,q2+nq,dk,rfl,by go_num,by omega,by omega,Nat.le_refl _,U1.out nq,I3⟩
      |true=>
       rw [hkp] at bW;have bW: ∀m:Nat,Calls prog 238 #[u,v] (wr.drewN m) fun e gz=>e= .returned (.bool false)∧ ∃q,gz=(wr.drewN m).drewN q:=bW;have I3:Hid (jQ n dq (k+(cO+1)) (kk+1) (dk.setIfInBounds kk (k+cO))):=I2.out.keep hlt2 hkp;clear hkp
       go_wp2_with fail
       go_quiet (refine Calls.quiet_of (bW _))
       go_wp2
       rw [S0 nq]
       go_wp2
       go_roundg (n-(k+(cO+1)))
       case measure=>omega
       case rel=>exact⟨kk+1,cO+1,q2+nq,dk.setIfInBounds kk (k+cO),by go_num,by go_num,by omega,by omega,Nat.le_refl _,U0.out nq,I3⟩
     have hend:k+cO=n:=by omega
     have hcl: ∀ty,(Builtin.clear_ #[87] ty #[.slice (some ⟨b,off+kk,none⟩) (n-kk) (cap-kk)]).run prog wr= .ok (.tuple #[]) (wr.setCells b (off+kk) (List.replicate (n-kk) (.slice none 0 0))):=
      fun ty=>Lib.run_clear_slice wr 87 67 ty (.slice none 0 0) underlying87 (fun w=>by kernel_rfl) rfl rfl b (off+kk) _ _ (by omega) (fun j hj=>by rw [show off+kk+j=off+(kk+j) by omega,(HD (kk+j) (by omega)).1];rfl) fun j hj=>by rw [show off+kk+j=off+(kk+j) by omega];exact(HD (kk+j) (by omega)).2
     have hck2: ¬cap=kk:=by omega
     have n1:kk≤n:=by omega
     have n2:kk≤cap:=by omega
     have I3:Hid (jQ n dq n kk dk):=hend▸I2;clear HD hds
     go_wp2
     go_ret
     obtain⟨e1,e2⟩:=HF.out q2 kk dk I3.out;rw [←W2.out] at e2;rw [e1] at e2⊢;exact⟨rfl,e2⟩
   |true=>
    rw [hkp] at bW;have bW: ∀m:Nat,Calls prog 238 #[x,y] (wr.drewN m) fun e gz=>e= .returned (.bool false)∧ ∃q,gz=(wr.drewN m).drewN q:=bW;have K0:Hid (dq k=true):=hkp;clear hkp
    go_wp2_with fail
    go_quiet (refine Calls.quiet_of (bW _))
    clear c1 c0 f1 f0 bW B
    go_wp2
    go_roundg (n-(k+1))
    case measure=>omega
    case rel=>
     refine⟨k+1,q+nq,by omega,by omega,Nat.le_refl _,by go_num,by rw [E0.out,World.drewN_drewN],fun j hj=>?_⟩;by_cases e:j=k
     ·subst e;exact K0.out
     exact A.out j (by omega)
  have hkn:k=n:=by omega
  subst hkn
  go_wp2
  go_ret
  obtain⟨e1,e2⟩:=HA.out q A.out;rw [←E0.out] at e2;rw [e1] at e2⊢;exact⟨rfl,e2⟩
set_option maxRecDepth 100000 in
theorem agb(a:Option Addr)(c:Nat)(w:World):Calls prog 283 #[.slice a 0 c,.func (.func 238) #[] #[]] w fun e w'=>e= .returned (.slice a 0 c)∧w'=w:=by
 go_enter func283,Tryz.ntmps283
 go_wp2
 go_ret
 exact⟨rfl,rfl⟩
theorem agk:KR prog 283 238:=⟨agc,agb⟩
theorem agw:Fb prog 238 where
 both:=fun dm hN n c cL kR m d xs ys w h1 h2 h3 h4 h5 h6=>by
  have:=Tryz.slices_Equal_int dm hN n c cL kR m d xs ys w (by omega) (by omega) h3 h4 h5 h6;rw [←h1,←h2,List.take_length,List.take_length] at this;rw [←h1,←h2];exact this
 lens:=Tryz.slices_Equal_int_lens
 pM:=Tryz.slices_Equal_int_empty
end Go.Proofs
