/- Tools. -/
import Derived.Test.YtbgbodhagkdffaaGreatDoorChecked
import Derived.Test.YtbgbodhagkdffaaGreatDoorSLiftTC
import Derived.Test.YtbgbodhagkdffaaGreatDoorSShelfP
set_option linter.unusedVariables false
namespace Go.Proofs
open Go.RowKit Go.Lib Go.Sort Go.Lift Go.Proofs.Tryz
structure lT (n:Nat) (ep:Nat→Bool) (m k:Nat) (dk:Array Nat):Prop where
 size:dk.size=n
 len:(fp ep m).length=k
 lt:k<m
 low: ∀j,j<k→(fp ep m)[j]? =some dk[j]!
 high: ∀j,k≤j→j<n→dk[j]! =j
theorem CR(n j:Nat)(h:j<n):(Array.range n)[j]! =j:=by rw [getElem!_pos _ j (by simpa using h)];simp
theorem lT.start{n:Nat}{ep:Nat→Bool}{k0:Nat}(dc:k0<n)(hall: ∀j,j<k0→ep j=true)(hdup:ep k0=false):lT n ep (k0+1) k0 (Array.range n) where
 size:=by simp
 len:=by rw [zn,hdup,Eo hall];simp
 lt:=Nat.lt_succ_self _
 low:=fun j hj=>by
  rw [zn,hdup,Eo hall,CR n j (by omega)];simp [hj]
 high:=fun j _ hj=>CR n j hj
theorem lT.keep{n:Nat}{ep:Nat→Bool}{m k:Nat}{dk:Array Nat}(h:lT n ep m k dk)(hm:m<n)(hk:ep m=true):lT n ep (m+1) (k+1) (dk.setIfInBounds k m) where
 size:=by simp [h.size]
 len:=by rw [zn,hk];simp [h.len]
 lt:=by have:=h.lt;omega
 low:=fun j hj=>by
  have hs:=h.size;have dm:=h.lt;rw [zn,hk,if_pos rfl];by_cases e:j=k
  ·subst e;rw [List.getElem?_append_right (by rw [h.len];exact Nat.le_refl _),h.len,getElem!_pos _ j (by simp;omega)];simp
  rw [List.getElem?_append_left (by rw [h.len];omega),h.low j (by omega),getElem!_pos dk j (by omega),getElem!_pos _ j (by simp;omega),Array.getElem_setIfInBounds];rw [if_neg fun e'=>e e'.symm]
 high:=fun j hj hjn=>by
  have hs:=h.size;have hjs:j<dk.size:=by omega
  have e1:(dk.setIfInBounds k m)[j]! =dk[j]! :=by
   rw [getElem!_pos _ j (by simpa using hjs),getElem!_pos dk j hjs,Array.getElem_setIfInBounds hjs,if_neg (by omega)]
  rw [e1];exact h.high j (by omega) hjn
theorem lT.skip{n:Nat}{ep:Nat→Bool}{m k:Nat}{dk:Array Nat}(h:lT n ep m k dk)(hk:ep m=false):lT n ep (m+1) k dk where
 size:=h.size
 len:=by rw [zn,hk];simpa using h.len
 lt:=by have:=h.lt;omega
 low:=fun j hj=>by rw [zn,hk];simpa using h.low j hj
 high:=h.high
theorem amQ{α:Type}[Inhabited α]{enc:α→Value}{w:World}{b off:Nat}{d:Array α}{cur:Array Value}{ty:TypeId}(b9:w.heap[b]? =some (.cells cur ty (0,0))):
  putRow enc w b off d=w.setRow b (putCells enc off d cur):=by unfold putRow;rw [mapBlock_congr w b _ (fun _=>putCells enc off d cur) fun c e MR h=>by rw [b9] at h;cases h;rfl];rfl
theorem amR{α:Type}[Inhabited α](enc:α→Value)(w:World)(b off:Nat)(d:Array α)(k:Nat)(h:k≠b):(putRow enc w b off d).heap[k]? =w.heap[k]? :=by show(w.heap.modify b _)[k]? =_;rw [Array.getElem?_modify,if_neg fun e:b=k=>h e.symm]
theorem ajK{vs:Nat→Value}{w:World}{b off n q kk:Nat}{dk:Array Nat}{ep:Nat→Bool}{cur:Array Value}{ty:TypeId}(b9:w.heap[b]? =some (.cells cur ty (0,0)))(dc:off+n≤cur.size)(hI:lT n ep n kk dk):
  let bZ:=(putRow vs (Sort.ahead w q) b off dk).setCells b (off+kk) (List.replicate (n-kk) (.slice none 0 0))
  (fp ep n).length=kk∧Ext (fun x=>x=b) w bZ∧ ∃gM,bZ.heap[b]? =some (.cells gM ty (0,0))∧gM.size=cur.size∧(∀i,i<(fp ep n).length→gM[off+i]? =some (vs ((fp ep n).getD i 0)))∧ ∀i,(fp ep n).length≤i→i<n→gM[off+i]? =some (.slice none 0 0):=by
 intro bZ;have hg':(Sort.ahead w q).heap[b]? =some (.cells cur ty (0,0)):=b9;have hp:=amQ (enc:=vs) (off:=off) (d:=dk) hg';have hs:=hI.size;have dm:=hI.lt;obtain⟨C,hC⟩: ∃C,C=putCells vs off dk cur:=⟨_,rfl⟩
 have hCs:C.size=cur.size:=by rw [hC];simp [putCells]
 have hCi: ∀i,i<n→C[off+i]? =some (vs dk[i]!):=fun i aO=>by
  rw [hC];unfold putCells;rw [Array.getElem?_mapIdx,Array.getElem?_eq_getElem (by omega)];simp only [Option.map_some];rw [if_pos (by omega),show off+i-off=i by omega]
 rw [←hC] at hp;have hw':bZ=((Sort.ahead w q).setRow b C).setCells b (off+kk) (List.replicate (n-kk) (.slice none 0 0)):=by rw [←hp]
 have hgC:((Sort.ahead w q).setRow b C).heap[b]? =some (.cells C ty (0,0)):=setRow_heap _ _ _ _ _ _ hg';have hrl:(List.replicate (n-kk) (Value.slice none 0 0)).length=n-kk:=List.length_replicate;rw [CE hgC (by rw [hrl];omega) fun v b0=>by rw [List.eq_of_mem_replicate b0];rfl] at hw';refine⟨hI.len,⟨by rw [hw'];rfl,by rw [hw'];rfl,by rw [hw'];rfl,by rw [hw'];simp [Sort.ahead],fun k hk hkb=>?_⟩,_,by rw [hw'];exact setRow_heap _ _ _ _ _ _ hgC,?_,fun i aO=>?_,fun i aO hi2=>?_⟩
 ·rw [hw',setRow_other _ _ _ _ hkb,setRow_other _ _ _ _ hkb];rfl
 ·rw [List.size_toArray];simp only [List.length_append,List.length_take,List.length_drop,Array.length_toList,hrl];omega
 ·rw [hI.len] at aO;rw [List.getElem?_toArray,List.append_assoc,List.getElem?_append_left (by rw [List.length_take,Array.length_toList];omega),List.getElem?_take,if_pos (by omega),Array.getElem?_toList,hCi i (by omega)]
  have:=hI.low i aO;rw [List.getD_eq_getElem?_getD,this];rfl
 rw [hI.len] at aO;rw [List.getElem?_toArray,List.append_assoc,List.getElem?_append_right (by rw [List.length_take,Array.length_toList];omega)];have e0:(C.toList.take (off+kk)).length=off+kk:=by rw [List.length_take,Array.length_toList];omega
 rw [e0,List.getElem?_append_left (by rw [hrl];omega),List.getElem?_replicate,if_pos (by omega)]
theorem ajJ{vs:Nat→Value}{w:World}{b off n q:Nat}{ep:Nat→Bool}{cur:Array Value}{ty:TypeId}(b9:w.heap[b]? =some (.cells cur ty (0,0)))(dc:off+n≤cur.size)(b0: ∀j,j<n→cur[off+j]? =some (vs j))(hall: ∀j,j<n→ep j=true):
  let bZ:=w.drewN q
  (fp ep n).length=n∧Ext (fun x=>x=b) w bZ∧ ∃gM,bZ.heap[b]? =some (.cells gM ty (0,0))∧gM.size=cur.size∧(∀i,i<(fp ep n).length→gM[off+i]? =some (vs ((fp ep n).getD i 0)))∧ ∀i,(fp ep n).length≤i→i<n→gM[off+i]? =some (.slice none 0 0):=by
 intro bZ;have dm:(fp ep n).length=n:=by rw [Eo hall];simp
 refine⟨dm,⟨rfl,rfl,rfl,Nat.le_refl _,fun _ _ _=>rfl⟩,cur,b9,rfl,fun i aO=>?_,fun i aO hi2=>by omega⟩;rw [dm] at aO;rw [b0 i aO,Eo hall,List.getD_eq_getElem?_getD,List.getElem?_range aO];rfl
set_option maxHeartbeats 4000000 in
set_option maxRecDepth 1000000 in
theorem ajE(vs:Nat→Value)(b off n cap:Nat)(ty:TypeId)(cur:Array Value)(ep:Nat→Bool)(w:World)(b9:w.heap[b]? =some (.cells cur ty (0,0)))(dc:off+n≤cur.size)(b0: ∀j,j<n→cur[off+j]? =some (vs j))(ov: ∀j,(vs j).oneCell'=true)(GJ:n≤cap)(hm:cap≤maxLen)(BL:ep 0=true)
  (BH: ∀j W,0<j→j<n→w.heap.size≤W.heap.size→(∀k,k≠b→W.heap[k]? =w.heap[k]?)→Calls prog 46 #[vs j,vs (j-1)] W fun e jo=>e= .returned (.bool (!ep j))∧ ∃q,jo=W.drewN q):
  Calls prog 334 #[.slice (some ⟨b,off,none⟩) n cap,.func (.func 46) #[] #[]] w fun e bZ=>e= .returned (.slice (some ⟨b,off,none⟩) (fp ep n).length cap)∧Ext (fun x=>x=b) w bZ∧ ∃gM,bZ.heap[b]? =some (.cells gM ty (0,0))∧gM.size=cur.size∧(∀i,i<(fp ep n).length→gM[off+i]? =some (vs ((fp ep n).getD i 0)))∧ ∀i,(fp ep n).length≤i→i<n→gM[off+i]? =some (.slice none 0 0):=by
 have hm':cap≤9223372036854775807:=by unfold maxLen at hm;omega
 have hH:Holds vs w b off (Array.range n):=fun j hj=>by
  have hj':j<n:=by simpa using hj
  have h0:=b0 j hj';rw [CR n j hj'];exact⟨by simp [World.cell?,b9,h0],by simp [World.frozen?,b9]⟩
 have HF:Hid (∀q kk dk,lT n ep n kk dk→(fp ep n).length=kk∧Ext (fun x=>x=b) w ((putRow vs (Sort.ahead w q) b off dk).setCells b (off+kk) (List.replicate (n-kk) (.slice none 0 0)))∧ ∃gM,((putRow vs (Sort.ahead w q) b off dk).setCells b (off+kk) (List.replicate (n-kk) (.slice none 0 0))).heap[b]? =some (.cells gM ty (0,0))∧gM.size=cur.size∧(∀i,i<(fp ep n).length→gM[off+i]? =some (vs ((fp ep n).getD i 0)))∧ ∀i,(fp ep n).length≤i→i<n→gM[off+i]? =some (.slice none 0 0)):=fun q kk dk hI=>ajK b9 dc hI;have HA:Hid (∀q,(∀j,j<n→ep j=true)→(fp ep n).length=n∧Ext (fun x=>x=b) w (w.drewN q)∧ ∃gM,(w.drewN q).heap[b]? =some (.cells gM ty (0,0))∧gM.size=cur.size∧(∀i,i<(fp ep n).length→gM[off+i]? =some (vs ((fp ep n).getD i 0)))∧ ∀i,(fp ep n).length≤i→i<n→gM[off+i]? =some (.slice none 0 0)):=fun q hall=>ajJ b9 dc b0 hall;have HC:Hid (∀j W,0<j→j<n→w.heap.size≤W.heap.size→(∀k,k≠b→W.heap[k]? =w.heap[k]?)→Calls prog 46 #[vs j,vs (j-1)] W fun e jo=>e= .returned (.bool (!ep j))∧ ∃q,jo=W.drewN q):=BH;have HH:Hid (Holds vs w b off (Array.range n)):=hH;have HK:Hid (ep 0=true):=BL;have HO:Hid (∀j,(vs j).oneCell'=true):=ov;clear BH b9 b0 hH BL ov dc hm;by_cases h2:n<2
 ·have h2':(n:Int)<2:=by omega
  go_enter func334,Tryz.ntmps334
  go_wp2
  go_ret
  obtain⟨e1,e2⟩:=HA.out 0 fun j hj=>by rw [show j=0 by omega];exact HK.out
  rw [e1] at e2⊢;exact⟨rfl,e2⟩
 have h2': ¬(n:Int)<2:=by omega
 go_enter func334,Tryz.ntmps334
 go_wp2
 go_loopg [5] n (fun g s5 wr=> ∃k q:Nat,1≤k∧k≤n∧n-k≤g∧s5= .int .i64 k∧wr=w.drewN q∧ ∀j,j<k→ep j=true)
 case atStart=>exact⟨1,0,Nat.le_refl _,by omega,by omega,rfl,rfl,fun j hj=>by rw [show j=0 by omega];exact HK.out⟩
 case round=>
  obtain⟨k,q,hk1,hk,hgk,rfl,hwr,hall⟩:=hrel;have E0:Hid (wr=w.drewN q):=hwr;clear hwr;have A:Hid (∀j,j<k→ep j=true):=hall;clear hall;by_cases hlt:k<n
  ·obtain⟨c1,f1⟩:=HH.out k (by simpa using hlt);obtain⟨c0,f0⟩:=HH.out (k-1) (by simp;omega);rw [CR n k hlt] at c1;rw [CR n (k-1) (by omega)] at c0;have c1:wr.cell? ⟨b,off+k,none⟩=some (vs k):=by rw [E0.out];exact c1
   have c0:wr.cell? ⟨b,off+(k-1),none⟩=some (vs (k-1)):=by rw [E0.out];exact c0
   have ch: ∀m:Nat,Calls prog 46 #[vs k,vs (k-1)] (wr.drewN m) fun e jo=>e= .returned (.bool (!ep k))∧ ∃q,jo=(wr.drewN m).drewN q:=fun m=>HC.out k _ (by omega) hlt (by rw [E0.out];exact Nat.le_refl _) fun _ _=>by rw [E0.out];rfl
   generalize hx:vs k=x at c1 ch;generalize hy:vs (k-1)=y at c0 ch;have B:Hid (vs k=x∧vs (k-1)=y):=⟨hx,hy⟩
   have ox:x.oneCell'=true:=by rw [←hx];exact HO.out k
   have oy:y.oneCell'=true:=by rw [←hy];exact HO.out (k-1)
   clear hx hy;have n1:(0:Int)≤(k:Int)-1:=by omega
   have n5:(1:Int)≤(k:Int):=by omega
   have n2:(k:Int)-1<(n:Int):=by omega
   have n3:((k:Int)-1).toNat=k-1:=by omega
   have n4:IntKind.i64.wrap ((k:Int)-1)=(k:Int)-1:=by rw [IntKind.wrap_i64];omega
   cases hkp:ep k with
   |false=>
    rw [hkp] at ch;have ch: ∀m:Nat,Calls prog 46 #[x,y] (wr.drewN m) fun e jo=>e= .returned (.bool true)∧ ∃q,jo=(wr.drewN m).drewN q:=ch;have hck: ¬cap=k:=by omega
    have hkc:k≤cap:=by omega
    have hkn:k≤n:=by omega
    have I0:Hid (lT n ep (k+1) k (Array.range n)):=lT.start hlt A.out hkp;clear hkp
    go_wp2_with fail
    go_quiet (refine Calls.quiet_of (ch _))
    have W0:Hid (wr.drewN nq=putRow vs (Sort.ahead w (q+nq)) b off (Array.range n)):=by
     show _=_;rw [E0.out];exact(putRow_self vs (Sort.ahead w (q+nq)) b off (Array.range n) HH.out).symm▸(by show(w.drewN q).drewN nq=Sort.ahead w (q+nq);simp [World.drewN,Sort.ahead,Nat.add_assoc])
    clear c1 c0 f1 f0 ch E0 B n1 n2 n3 n4 n5;generalize wr.drewN nq=W1 at W0⊢
    go_wp2
    go_loopg [5,7] n (fun g s5 s7 wr2=> ∃(kk k2 q2:Nat) (dk:Array Nat),s5= .int .i64 kk∧s7= .int .i64 k2∧1≤k2∧k+k2≤n∧n-(k+k2)≤g∧Hid (wr2=putRow vs (Sort.ahead w q2) b off dk)∧Hid (lT n ep (k+k2) kk dk))
    case atStart=>exact⟨k,1,q+nq,Array.range n,rfl,rfl,Nat.le_refl _,by omega,by omega,W0,I0⟩
    case round=>
     obtain⟨kk,k2,q2,dk,rfl,rfl,h1,hle,hg2,W2,I2⟩:=hrel;have hkk:=I2.out.lt;have hds:=I2.out.size;have HD:Holds vs wr b off dk:=by
      rw [W2.out];exact holds_putRow vs _ b off (Array.range n) dk (holds_ahead vs w q2 b off _ HH.out) (by rw [hds];simp)
     by_cases hlt2:k+k2<n
     ·obtain⟨cm,_⟩:=HD (k+k2) (by omega);obtain⟨cp,_⟩:=HD (k+k2-1) (by omega);obtain⟨ck,fk⟩:=HD kk (by omega);rw [I2.out.high (k+k2) (by omega) (by omega),show off+(k+k2)=off+k+k2 by omega] at cm;rw [I2.out.high (k+k2-1) (by omega) (by omega),show off+(k+k2-1)=off+k+(k2-1) by omega] at cp;have ch: ∀m:Nat,Calls prog 46 #[vs (k+k2),vs (k+k2-1)] (wr.drewN m) fun e jo=>e= .returned (.bool (!ep (k+k2)))∧ ∃q,jo=(wr.drewN m).drewN q:=fun m=>HC.out (k+k2) _ (by omega) hlt2 (by rw [W2.out];show _≤(putRow vs (Sort.ahead w q2) b off dk).heap.size;rw [Go.Sort.size_putRow];exact Nat.le_refl _) fun x hx=>by rw [W2.out];exact amR vs _ b off dk x hx
      have ou:(vs (k+k2)).oneCell'=true:=HO.out (k+k2);have U0:Hid (∀q,(wr.drewN q).setCell ⟨b,off+kk,none⟩ (vs (k+k2))=putRow vs (Sort.ahead w (q2+q)) b off (dk.setIfInBounds kk (k+k2))):=fun q=>by
       rw [←putRow_set vs _ b off dk kk (k+k2) (by omega),W2.out];congr 1;show(putRow vs (Sort.ahead w q2) b off dk).drewN q=_;simp only [World.drewN,putRow,mapBlock,Sort.ahead,Nat.add_assoc]
      have S0: ∀q,(storeCells ⟨b,off+kk,none⟩ [vs (k+k2)]).run prog (wr.drewN q)= .ok () ((wr.drewN q).setCell ⟨b,off+kk,none⟩ (vs (k+k2))):=fun q=>by
       have h:=run_storeCells_cells (P:=prog) b (off+kk) [vs (k+k2)] 0 (wr.drewN q) (fun j hj=>by
        have hj0:j=0:=by simpa using hj
        subst hj0;show(wr.cell? _).isSome=true;rw [show off+kk+0+0=off+kk by omega,ck];rfl) (fun j hj=>by
        have hj0:j=0:=by simpa using hj
        subst hj0;exact fk) fun v b0=>by rw [List.mem_singleton] at b0;subst b0;exact ou
       rw [Nat.add_zero] at h;exact h
      have U1:Hid (∀q,wr.drewN q=putRow vs (Sort.ahead w (q2+q)) b off dk):=fun q=>by
       rw [W2.out];simp only [World.drewN,putRow,mapBlock,Sort.ahead,Nat.add_assoc]
      clear HD hds;generalize hu:vs (k+k2)=u at cm ch ou U0 S0;generalize b0:vs (k+k2-1)=v at cp ch;generalize vs dk[kk]! =old at ck;clear hu b0;have n1:(0:Int)≤(k2:Int)-1:=by omega
      have n2:(k2:Int)-1<((n-k:Nat):Int):=by omega
      have n3:((k2:Int)-1).toNat=k2-1:=by omega
      have n4:IntKind.i64.wrap ((k2:Int)-1)=(k2:Int)-1:=by rw [IntKind.wrap_i64];omega
      have n5:(1:Int)≤(k2:Int):=by omega
      have n6:k2<n-k:=by omega
      have n7:(k2:Int)<((n-k:Nat):Int):=by omega
      have n8:(kk:Int)<(n:Int):=by omega
      have n9:kk<n:=by omega
      cases hkp:ep (k+k2) with
      |false=>
       rw [hkp] at ch;have ch: ∀m:Nat,Calls prog 46 #[u,v] (wr.drewN m) fun e jo=>e= .returned (.bool true)∧ ∃q,jo=(wr.drewN m).drewN q:=ch;have I3:Hid (lT n ep (k+(k2+1)) kk dk):=I2.out.skip hkp;clear hkp
       go_wp2_with fail
       go_quiet (refine Calls.quiet_of (ch _))
       clear cm cp ck fk ch U0 S0
       go_wp2
       go_roundg (n-(k+(k2+1)))
       case measure=>omega
       case rel=>exact⟨kk,k2+1,q2+nq,dk,rfl,by go_num,by omega,by omega,Nat.le_refl _,U1.out nq,I3⟩
      |true=>
       rw [hkp] at ch;have ch: ∀m:Nat,Calls prog 46 #[u,v] (wr.drewN m) fun e jo=>e= .returned (.bool false)∧ ∃q,jo=(wr.drewN m).drewN q:=ch;have I3:Hid (lT n ep (k+(k2+1)) (kk+1) (dk.setIfInBounds kk (k+k2))):=I2.out.keep hlt2 hkp;clear hkp
       go_wp2_with fail
       go_quiet (refine Calls.quiet_of (ch _))
       go_wp2
       rw [S0 nq]
       go_wp2
       go_roundg (n-(k+(k2+1)))
       case measure=>omega
       case rel=>exact⟨kk+1,k2+1,q2+nq,dk.setIfInBounds kk (k+k2),by go_num,by go_num,by omega,by omega,Nat.le_refl _,U0.out nq,I3⟩
     have hend:k+k2=n:=by omega
     have hcl: ∀ty,(Builtin.clear_ #[130] ty #[.slice (some ⟨b,off+kk,none⟩) (n-kk) (cap-kk)]).run prog wr= .ok (.tuple #[]) (wr.setCells b (off+kk) (List.replicate (n-kk) (.slice none 0 0))):=
      fun ty=>Lib.run_clear_slice wr 130 53 ty (.slice none 0 0) underlying130 (fun w=>by kernel_rfl) rfl rfl b (off+kk) _ _ (by omega) (fun j hj=>by rw [show off+kk+j=off+(kk+j) by omega,(HD (kk+j) (by omega)).1];rfl) fun j hj=>by rw [show off+kk+j=off+(kk+j) by omega];exact(HD (kk+j) (by omega)).2
     have hck2: ¬cap=kk:=by omega
     have n1:kk≤n:=by omega
     have n2:kk≤cap:=by omega
     have I3:Hid (lT n ep n kk dk):=hend▸I2;clear HD hds
     go_wp2
     go_ret
     obtain⟨e1,e2⟩:=HF.out q2 kk dk I3.out;rw [←W2.out] at e2;rw [e1] at e2⊢;exact⟨rfl,e2⟩
   |true=>
    rw [hkp] at ch;have ch: ∀m:Nat,Calls prog 46 #[x,y] (wr.drewN m) fun e jo=>e= .returned (.bool false)∧ ∃q,jo=(wr.drewN m).drewN q:=ch;have K0:Hid (ep k=true):=hkp;clear hkp
    go_wp2_with fail
    go_quiet (refine Calls.quiet_of (ch _))
    clear c1 c0 f1 f0 ch B
    go_wp2
    go_roundg (n-(k+1))
    case measure=>omega
    case rel=>
     refine⟨k+1,q+nq,by omega,by omega,Nat.le_refl _,by go_num,by rw [E0.out,World.drewN_drewN],fun j hj=>?_⟩;by_cases e:j=k
     ·subst e;exact K0.out
     exact A.out j (by omega)
  have hkn:k=n:=by omega
  subst hkn
  go_wp2
  go_ret
  obtain⟨e1,e2⟩:=HA.out q A.out;rw [←E0.out] at e2;rw [e1] at e2⊢;exact⟨rfl,e2⟩
set_option maxRecDepth 100000 in
theorem ajD(a:Option Addr)(c:Nat)(w:World):Calls prog 334 #[.slice a 0 c,.func (.func 46) #[] #[]] w fun e bZ=>e= .returned (.slice a 0 c)∧bZ=w:=by
 go_enter func334,Tryz.ntmps334
 go_wp2
 go_ret
 exact⟨rfl,rfl⟩
theorem ajL:OU prog 334 46:=⟨ajE,ajD⟩
theorem ajY:IY prog 46 where
 both:=fun dQ jP n c dG lF m d xs ys w h1 h2 h3 h4 h5 h6=>by
  have:=Tryz.slices_Equal_int dQ jP n c dG lF m d xs ys w (by omega) (by omega) h3 h4 h5 h6;rw [←h1,←h2,List.take_length,List.take_length] at this;rw [←h1,←h2];exact this
 lens:=Tryz.slices_Equal_int_lens
 rX:=Tryz.slices_Equal_int_empty
end Go.Proofs
