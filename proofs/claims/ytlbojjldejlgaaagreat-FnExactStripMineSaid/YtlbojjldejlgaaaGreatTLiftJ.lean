/- Append to an array that the call owns; element stores; giving an owned block up. -/
import Derived.Test.YtlbojjldejlgaaaGreatTLiftHI
namespace Go.Lift
open Go
theorem H0{β:Map}{k gen:Nat}(q:Option Nat)(q':Option Nat)(hg:1≤gen)(h:β k=some (q,gen)):MLe β (β.put k (some (q',gen+1))):=by
 intro id q1 g1 h1;by_cases hi:id=k
 ·subst hi;rw [h] at h1;cases h1;exact .inr ⟨hg,q',gen+1,cW _ _ _,vAV _⟩
 exact .inl (by rw [aV _ _ _ _ hi];exact h1)
theorem Rel.move{K:Ctx}{β:Map}{s:S}{a:Act}{w:World}(h:Rel K β s a w)(k:Nat)(ty:TypeId)(gen size:Nat)(rows:List (List T))(hk:s.H k=some (.arr ty gen size rows))(us:Array Value)(rows':List (List T))
  (hlen:rows'.length*size≤us.size) (hsz: ∀row,row∈rows'→row.length=size) (hus: ∀(i j:Nat) (row:List T) (x:T) (u:Value),rows'[i]? =some row→row[j]? =some x→us[i*size+j]? =some u→RT w (own K β s.H) x u):
  Rel K (β.put k (some (some w.heap.size,gen+1))) {s with H:=upd s.H k (some (.arr ty (gen+1) size rows'))} a (w.alloc (.cells us ty)):=by
 have hext: ∀X,Ext X w (w.alloc (.cells us ty)):=fun X=>Ext.alloc X w _;have hku:s.u k=true:=(h.heap k _ hk).1;obtain⟨q0,hq0⟩:=gG (h.heap k _ hk).2;have hg1:=(h.heap k _ hk).2.1;have hinv: ∀id b,At (β.put k (some (some w.heap.size,gen+1))) id b→(id=k∧b=w.heap.size)∨At β id b:=fun id b hb=>by
  rcases hb with ⟨g,hb⟩|hb
  ·by_cases hi:id=k
   ·subst hi;rw [cW] at hb;cases hb;exact .inl ⟨rfl,rfl⟩
   rw [aV _ _ _ _ hi] at hb;exact .inr (.inl ⟨g,hb⟩)
  exact .inr (.inr hb)
 have hown: ∀b,b<w.heap.size→own K (β.put k (some (some w.heap.size,gen+1))) (upd s.H k (some (.arr ty (gen+1) size rows'))) b→own K β s.H b:=by
  rintro b hlt (hx|⟨id,h1,h2⟩)
  ·exact .inl hx
  rcases hinv id b h2 with ⟨rfl,rfl⟩|h3
  ·omega
  refine .inr ⟨id,fun e0=>?_,h3⟩;by_cases hi:id=k
  ·subst hi;rw [hk] at e0;cases e0
  rw [aH _ _ _ _ hi] at h1;exact h1 e0
 have hsh:Shaped β w (w.alloc (.cells us ty)):=dA (hext _);have hβ:=H0 q0 (some w.heap.size) hg1 hq0;have hrv: ∀v u,RV β w (own K β s.H) v u→RV (β.put k (some (some w.heap.size,gen+1))) (w.alloc (.cells us ty)) (own K (β.put k (some (some w.heap.size,gen+1))) (upd s.H k (some (.arr ty (gen+1) size rows')))) v u:=
  fun v u hv=>hv.mono (hext _) hown hβ hsh
 refine {ext:=h.ext.trans ((hext fun _=>False).weaken fun _ _ h=>h.elim),gok:=h.gok,mg:=h.mg,xold:=h.xold,inj0:=h.inj0,base:= ?_,shp:=h.shp.ext h.ext.size (hext _),low:=h.low,dom:= ?_,domn:=fun id b hid=>h.domn id b hid,inj:= ?_,fresh:= ?_,heap:= ?_,slots:=fun i=>hrv _ _ (h.slots i),nt:=h.nt,defers:=h.defers}
 ·exact h.base.grow k gen q0 (some w.heap.size) hq0 hg1 (cW _ _ _) (fun b hb=>by cases hb;exact .inr h.ext.size) fun id hi=>aV _ _ _ _ hi
 ·intro id hid;have hid':s.u id=false:=hid;by_cases e:id=k
  ·subst e;rw [hku] at hid';cases hid'
  rw [aV _ _ _ _ e];exact h.dom id hid'
 ·intro id id' b h1 h2;rcases hinv id b h1 with ⟨rfl,rfl⟩|h3<;>rcases hinv id' _ h2 with ⟨rfl,e⟩|h4
  ·rfl
  ·have:=(h.fresh _ _ h4).2;omega
  ·subst e;have:=(h.fresh _ _ h3).2;omega
  exact h.inj _ _ _ h3 h4
 ·intro id b hb;rcases hinv id b hb with ⟨rfl,rfl⟩|h3
  ·exact⟨.inr h.ext.size,by simp⟩
  exact⟨(h.fresh _ _ h3).1,by have:=(h.fresh _ _ h3).2;simp;omega⟩
 intro id e' he';have he':upd s.H k (some (.arr ty (gen+1) size rows')) id=some e':=he';show s.u id=true∧RE _ _ (own K _ (upd s.H k (some (.arr ty (gen+1) size rows')))) id e';by_cases hi:id=k
 ·subst hi;rw [aI] at he';cases he';refine⟨hku,by omega,Or.inr ⟨w.heap.size,us,aI _ _ _,bG _ _,hlen,hsz,fun i j row x u a1 a2 a3=>(hus i j row x u a1 a2 a3).mono (hext _) hown⟩⟩
 rw [aH _ _ _ _ hi] at he';obtain⟨h1,h2⟩:=h.heap id e' he';refine⟨h1,h2.mono (hext _) hown hβ (fun x hx=>by rw [aV _ _ _ _ hi];exact hx) hsh fun b hb=>nM _ _ _ (h.fresh id b hb).2⟩
theorem Rel.bump{K:Ctx}{β:Map}{s:S}{a:Act}{w:World}(h:Rel K β s a w)(k:Nat)(ty:TypeId)(gen size:Nat)(rows:List (List T))(q:Option Nat)(hq:β k=some (q,gen))(hk:s.H k=some (.arr ty gen size rows)):
  Rel K (β.put k (some (q,gen+1))) {s with H:=upd s.H k (some (.arr ty (gen+1) size rows))} a w:=by
 have hku:s.u k=true:=(h.heap k _ hk).1;have hg1:=(h.heap k _ hk).2.1;have hinv: ∀id b,At (β.put k (some (q,gen+1))) id b→At β id b:=fun id b hb=>by
  rcases hb with ⟨g,hb⟩|hb
  ·by_cases hi:id=k
   ·subst hi;rw [cW] at hb;cases hb;exact .inl ⟨gen,hq⟩
   rw [aV _ _ _ _ hi] at hb;exact .inl ⟨g,hb⟩
  exact .inr hb
 have hown: ∀b,own K (β.put k (some (q,gen+1))) (upd s.H k (some (.arr ty (gen+1) size rows))) b→own K β s.H b:=by
  rintro b (hx|⟨id,h1,h2⟩)
  ·exact .inl hx
  refine .inr ⟨id,fun e0=>?_,hinv id b h2⟩;by_cases hi:id=k
  ·subst hi;rw [hk] at e0;cases e0
  rw [aH _ _ _ _ hi] at h1;exact h1 e0
 have hβ:=H0 q q hg1 hq;refine {h with base:= ?_,dom:= ?_,inj:= ?_,fresh:=fun id b hb=>h.fresh id b (hinv id b hb),heap:= ?_,slots:=fun i=>(h.slots i).mono (Ext.refl _ _) (fun b _=>hown b) hβ (Shaped.refl _ _)}
 ·exact h.base.grow k gen q q hq hg1 (aI _ _ _) (fun b hb=> .inl hb) fun id hi=>aV _ _ _ _ hi
 ·intro id hid;have hid':s.u id=false:=hid;by_cases e:id=k
  ·subst e;rw [hku] at hid';cases hid'
  rw [aV _ _ _ _ e];exact h.dom id hid'
 ·intro id id' b h1 h2;exact h.inj id id' b (hinv id b h1) (hinv id' b h2)
 intro id e' he';have he':upd s.H k (some (.arr ty (gen+1) size rows)) id=some e':=he';show s.u id=true∧RE _ _ (own K _ (upd s.H k (some (.arr ty (gen+1) size rows)))) id e';by_cases hi:id=k
 ·subst hi;rw [aI] at he';cases he';refine⟨hku,by omega,?_⟩;rcases(h.heap id _ hk).2.2 with ⟨h1,h2⟩|⟨b,us,h1,h2,h3,h4,h5⟩
  ·rw [hq] at h1;cases h1;exact .inl ⟨aI _ _ _,h2⟩
  rw [hq] at h1;cases h1;exact .inr ⟨b,us,aI _ _ _,h2,h3,h4,fun i j row x u a1 a2 a3=>(h5 i j row x u a1 a2 a3).mono (Ext.refl _ _) fun b _=>hown b⟩
 rw [aH _ _ _ _ hi] at he';obtain⟨h1,h2⟩:=h.heap id e' he';exact⟨h1,h2.mono (Ext.refl _ _) (fun b _=>hown b) hβ (fun x hx=>by rw [aV _ _ _ _ hi];exact hx) (Shaped.refl _ _) fun _ _=>rfl⟩
theorem pQ{K:Ctx}{β:Map}{s:S}{a:Act}{w:World}(h:Rel K β s a w):Rel K β s a w.drew:=h.grow (Ext.drew _ _)
theorem pD{n size:Nat}{rows news:List (List T)}(us ws rest:List Value)(hn:rows.length=n)(hu:us.length=n*size)(hw:ws.length=news.length*size)(hs: ∀row,row∈rows→row.length=size)(hs': ∀row,row∈news→row.length=size){R:T→Value→Prop}
  (h1: ∀(i j:Nat) (row:List T) (x:T) (u:Value),rows[i]? =some row→row[j]? =some x→us[i*size+j]? =some u→R x u)
  (h2: ∀(i j:Nat) (row:List T) (x:T) (u:Value),news[i]? =some row→row[j]? =some x→ws[i*size+j]? =some u→R x u):
  ∀(i j:Nat) (row:List T) (x:T) (u:Value),(rows++news)[i]? =some row→row[j]? =some x→(us++ws++rest)[i*size+j]? =some u→R x u:=by
 intro i j row x u hi hj hu';by_cases hlt:i<rows.length
 ·rw [I0 hlt] at hi;have hjs:j<size:=by rw [←hs row (dD hi)];exact(cC.1 hj).1
  have hidx:i*size+j<us.length:=by rw [hu,←hn];exact iU hlt hjs
  rw [I0 (by simp;omega),I0 hidx] at hu';exact h1 i j row x u hi hj hu'
 rw [I1 (by omega)] at hi;have hjs:j<size:=by rw [←hs' row (dD hi)];exact(cC.1 hj).1
 have hin:=(cC.1 hi).1;have hidx:=iU (size:=size) hin hjs;have hge:us.length≤i*size+j:=by rw [hu,←hn];have:=jL size (show rows.length≤i by omega);omega
 have hsub:i*size+j-us.length=(i-rows.length)*size+j:=by rw [hu,←hn,vBJ];have:=jL size (show rows.length≤i by omega);omega
 rw [I0 (by simp;omega),I1 hge,hsub] at hu';exact h2 _ j row x u hi hj hu'
theorem Rel.append{K:Ctx}{β:Map}{s:S}{a:Act}{w:World}{t e:TypeId}{u:TypeDesc}{z:Value}{gen size bytes:Nat}(h:Rel K β s a w)(k:Nat)(rows news:List (List T))(hk:s.H k=some (.arr e gen size rows))(ty:TypeId)
  (hu:K.P.underlying t=some (.slice e)) (he:TI K.P e u z size bytes) (hzs:z.cells.size=size) (hs: ∀row,row∈rows→row.length=size) (hs': ∀row,row∈news→row.length=size) (v x:Value) (hv:RV β w (own K β s.H) (.msl k gen size 0 rows.length) v)
  (hx:Src w (own K β s.H) size news x∨(news=[]∧ ∃ad cap,x= .slice ad 0 cap)) (hb:(rows.length+news.length)*bytes≤140737488355328) (hm:rows.length+news.length≤maxLen):
  ∃v' w' β',(Builtin.append_ #[t,t] ty #[v,x]).run K.P w= .ok v' w'∧Rel K β' {s with H:=upd s.H k (some (.arr e (gen+1) size (rows++news)))} a w'∧
   RV β' w' (own K β' (upd s.H k (some (.arr e (gen+1) size (rows++news))))) (.msl k (gen+1) size 0 (rows.length+news.length)) v':=by
 obtain⟨q,hq⟩:=gG (h.heap k _ hk).2;have hg1:=(h.heap k _ hk).2.1;obtain⟨_,i,hi1,hi2,hi3,hi4⟩:=id he;have hm':rows.length+news.length≤9223372036854775807:=by unfold maxLen at hm;omega
 have hE:=(h.heap k _ hk).2.2;have hsn: ∀row,row∈rows++news→row.length=size:=fun row hrow=>by
  rcases B6.1 hrow with h|h
  ·exact hs row h
  exact hs' row h
 -- nothing is appended
 have hnone:news=[]→ ∀ad cap,x= .slice ad 0 cap→ ∃v' w' β',(Builtin.append_ #[t,t] ty #[v,x]).run K.P w= .ok v' w'∧Rel K β' {s with H:=upd s.H k (some (.arr e (gen+1) size (rows++news)))} a w'∧
   RV β' w' (own K β' (upd s.H k (some (.arr e (gen+1) size (rows++news))))) (.msl k (gen+1) size 0 (rows.length+news.length)) v':=by
  intro hn ad cap hxe;subst hn;subst hxe;rw [vBt];refine⟨v,w,_,?_,h.bump k e gen size rows q hq hk,?_⟩
  ·rcases bP hv hq with ⟨cap',b,n,ty',rfl,hb',hw,hsh,hnn,hl,hmm⟩|⟨hb',_,_,rfl⟩
   ·cases ad<;>simp [Builtin.append_,run_underlying hu,sizeOf,typeInfo,hi1,Builtin.lenOf,Builtin.firstCells,hl,storeCells,loadCells,loadCellsFrom]
   cases ad<;>simp [Builtin.append_,run_underlying hu,sizeOf,typeInfo,hi1,Builtin.lenOf,Builtin.firstCells,loadCells,loadCellsFrom]
  simp only [List.length_nil,Nat.add_zero];rcases bP hv hq with ⟨cap',b,n,ty',rfl,hb',hw,hsh,hnn,hl,hmm⟩|⟨hb',_,hlr,rfl⟩
  ·subst hb';exact .msl k (gen+1) size 0 _ cap' b n ty' (by omega) (aI _ _ _) hw hsh hnn hl hmm
  subst hb';rw [hlr];exact .msl0 k (gen+1) size (by omega) (aI _ _ _)
 rcases hx with (⟨hxe,hnn⟩|⟨b2,off,cap2,ws,hxe,hwl,hwc,hw1,hwr⟩)|⟨hn,ad,cap,hxe⟩
 ·exact hnone hnn none 0 hxe
 ·by_cases hn0:news=[]
  ·subst hn0;exact hnone rfl _ _ hxe
  have hnpos:0<news.length:=List.length_pos_iff.2 hn0;have hwc': ∀j y,ws[j]? =some y→w.cell? ((⟨b2,off,none⟩:Addr).add j)=some y:=fun j y hy=>by rw [cY];exact hwc j y hy
  have hb1:(rows.length+news.length)*i.bytes≤140737488355328:=by rw [hi4];exact hb
  -- the rows that lie there
  have finish: ∀(us:List Value) (capn:Nat),us.length=rows.length*size→rows.length+news.length≤capn→capn≤maxLen→(∀(i j:Nat) (row:List T) (x:T) (u:Value),rows[i]? =some row→row[j]? =some x→us[i*size+j]? =some u→RT w (own K β s.H) x u)→
    ∃β',Rel K β' {s with H:=upd s.H k (some (.arr e (gen+1) size (rows++news)))} a (w.drew.alloc (.cells (us.toArray++ws.toArray++Builtin.zeroCells z.cells (capn-(rows.length+news.length))) e))∧
     RV β' (w.drew.alloc (.cells (us.toArray++ws.toArray++Builtin.zeroCells z.cells (capn-(rows.length+news.length))) e)) (own K β' (upd s.H k (some (.arr e (gen+1) size (rows++news))))) (.msl k (gen+1) size 0 (rows.length+news.length)) (.slice (some ⟨w.heap.size,0,none⟩) (rows.length+news.length) capn):=by
   intro us capn hul hcapn hcm hur;have hsize:(us.toArray++ws.toArray++Builtin.zeroCells z.cells (capn-(rows.length+news.length))).size=capn*size:=by
    simp only [Array.size_append,List.size_toArray,size_zeroCells,hzs,hul,hwl,←Nat.add_mul];congr 1;omega
   have hmv:=(pQ h).move k e gen size rows hk (us.toArray++ws.toArray++Builtin.zeroCells z.cells (capn-(rows.length+news.length))) (rows++news)
    (by rw [hsize,nF];exact jL _ hcapn) hsn
    (fun i j row x u a1 a2 a3=>pD us ws (Builtin.zeroCells z.cells (capn-(rows.length+news.length))).toList rfl hul hwl hs hs' (R:=fun x u=>RT w.drew (own K β s.H) x u) (fun i j row x u b1 b2 b3=>(hur i j row x u b1 b2 b3).mono (Ext.drew _ _) fun _ _ h=>h)
     (fun i j row x u b1 b2 b3=>(hwr i j row x u b1 b2 b3).mono (Ext.drew _ _) fun _ _ h=>h) i j row x u a1 a2 (by simpa [←Array.getElem?_toList] using a3))
   refine⟨_,hmv,?_⟩;have hv2:RV (β.put k (some (some w.heap.size,gen+1))) (w.drew.alloc (.cells (us.toArray++ws.toArray++Builtin.zeroCells z.cells (capn-(rows.length+news.length))) e)) (own K (β.put k (some (some w.heap.size,gen+1))) (upd s.H k (some (.arr e (gen+1) size (rows++news))))) (.msl k (gen+1) size 0 (rows.length+news.length)) (.slice (some ⟨w.heap.size,0*size,none⟩) (rows.length+news.length) capn):=by
    have hnew:=bG w.drew (.cells (us.toArray++ws.toArray++Builtin.zeroCells z.cells (capn-(rows.length+news.length))) e);refine .msl k (gen+1) size 0 _ capn w.heap.size (capn*size) e (by omega) (aI _ _ _) (by simp) ?_ (by rw [l4]) hcapn hcm;have hnew':(w.drew.alloc (.cells (us.toArray++ws.toArray++Builtin.zeroCells z.cells (capn-(rows.length+news.length))) e)).heap[w.heap.size]? =some (.cells (us.toArray++ws.toArray++Builtin.zeroCells z.cells (capn-(rows.length+news.length))) e):=hnew;unfold World.shape?;rw [hnew'];simp only [hsize]
   rw [F7] at hv2;exact hv2
  subst hxe;rcases bP hv hq with ⟨cap,b,n,ty',rfl,hb',hw,hsh,hnn,hl,hmm⟩|⟨hb',_,hlenr,rfl⟩
  rotate_left
  ·have hr0:rows=[]:=vAv hlenr;subst hr0;have hrun:=run_append_nil (P:=K.P) w t ty e i z hu hi1 hi2 ⟨b2,off,none⟩ news.length cap2 ws (by rw [hi3];exact hwl) hwc' hnpos (by omega) (by simp at hb1;omega);obtain⟨β',f1,f2⟩:=finish [] (grownCap w news.length 0 e) (by simp) (by simpa using grownCap_ge w news.length 0 e) (grownCap_le_maxLen w _ 0 e (by unfold maxLen;simp at hm';omega)) fun i j row x u h1 _ _=>by simp at h1
   simp only [List.length_nil,Nat.zero_add] at f1 f2⊢;exact⟨_,_,β',by rw [hrun];simp,f1,f2⟩
  subst hb';rcases hE with ⟨g1,_⟩|⟨b',cur,g1,g2,g3,g4,g5⟩
  ·rw [hq] at g1;cases g1
  rw [hq] at g1;cases g1;have hcs:cur.size=cap*size:=by
   unfold World.shape? at hsh;rw [g2] at hsh;simp at hsh;rw [←hnn] at hsh;rw [l4] at hsh;exact hsh.2
  have htl:(cur.toList.take (rows.length*size)).length=rows.length*size:=by simp;omega
  have hrt: ∀(i j:Nat) (row:List T) (x:T) (u:Value),rows[i]? =some row→row[j]? =some x→(cur.toList.take (rows.length*size))[i*size+j]? =some u→RT w (own K β s.H) x u:=by
   intro i j row x u h1 h2 h3;rw [D8] at h3;split at h3
   ·exact g5 i j row x u h1 h2 (by simpa using h3)
   cases h3
  simp only [Nat.zero_mul];by_cases hroom:rows.length+news.length≤cap
  ·have hfit:rows.length*size+ws.length≤cur.size:=by rw [hwl,hcs,←jJ];exact jL _ hroom
   have hrun:=run_append_room (P:=K.P) w t ty e i hu hi1 b rows.length cap cur g2 ⟨b2,off,none⟩ news.length cap2 ws (by rw [hi3];exact hwl) hwc' hw1 hroom (by rw [hi3];exact hfit);rw [hi3] at hrun;have hszn:(cur.toList.take (rows.length*size)++ws++cur.toList.drop (rows.length*size+ws.length)).toArray.size=cur.size:=by
    simp;omega
   have hrel:=h.setRow k b (.inl ⟨_,hq⟩) cur e g2 (cur.toList.take (rows.length*size)++ws++cur.toList.drop (rows.length*size+ws.length)).toArray hszn (.arr e gen size (rows++news)) (by rw [hk];simp)
    ⟨hg1,Or.inr ⟨b,_,hq,setRow_heap _ _ _ _ _ _ g2,by rw [hszn,hcs,nF];exact jL _ hroom,hsn,
     fun i j row x u a1 a2 a3=>by
      have h9:=pD (cur.toList.take (rows.length*size)) ws (cur.toList.drop (rows.length*size+ws.length)) rfl htl hwl hs hs' (R:=fun x u=>RT w (own K β s.H) x u) hrt hwr i j row x u a1 a2 (by simpa using a3);refine h9.mono ⟨rfl,rfl,rfl,by simp,fun kk _ hx=>setRow_other _ _ _ _ fun e0=>hx ?_⟩ fun _ _ h=>h;subst e0;exact .inr ⟨k,by rw [hk];simp,.inl ⟨_,hq⟩⟩⟩⟩
   have hrel2:=hrel.bump k e gen size (rows++news) (some b) hq (aI _ _ _);have hHH:upd (upd s.H k (some (.arr e gen size (rows++news)))) k (some (.arr e (gen+1) size (rows++news)))=upd s.H k (some (.arr e (gen+1) size (rows++news))):=by
    funext j;by_cases hj:j=k
    ·subst hj;rw [aI,aI]
    rw [aH _ _ _ _ hj,aH _ _ _ _ hj,aH _ _ _ _ hj]
   simp only [hHH] at hrel2;refine⟨_,_,_,hrun,hrel2,?_⟩;have hv2:RV (β.put k (some (some b,gen+1))) (w.setRow b (cur.toList.take (rows.length*size)++ws++cur.toList.drop (rows.length*size+ws.length)).toArray) (own K (β.put k (some (some b,gen+1))) (upd s.H k (some (.arr e (gen+1) size (rows++news))))) (.msl k (gen+1) size 0 (rows.length+news.length)) (.slice (some ⟨b,0*size,none⟩) (rows.length+news.length) cap):=by
    refine .msl k (gen+1) size 0 _ cap b (cap*size) e (by omega) (aI _ _ _) (by simpa using hw) ?_ (by rw [l4]) hroom hmm;unfold World.shape?;rw [setRow_heap _ _ _ _ _ _ g2];simp only [hszn,hcs]
   rw [F7] at hv2;exact hv2
  have holds: ∀j u,(cur.toList.take (rows.length*size))[j]? =some u→w.cell? ((⟨b,0,none⟩:Addr).add j)=some u:=by
   intro j u hj;rw [cY,l4];rw [D8] at hj;split at hj
   ·simp only [World.cell?,g2];simpa using hj
   cases hj
  have hrun:=run_append_grow (P:=K.P) w t ty e i z hu hi1 hi2 ⟨b,0,none⟩ rows.length cap (cur.toList.take (rows.length*size)) (by rw [hi3];exact htl) holds ⟨b2,off,none⟩ news.length cap2 ws (by rw [hi3];exact hwl) hwc' (by omega) (by omega) (growslice_fits (by omega) hb1);obtain⟨β',f1,f2⟩:=finish (cur.toList.take (rows.length*size)) (grownCap w (rows.length+news.length) cap e) htl (grownCap_ge w _ cap e) (grownCap_le_maxLen w _ cap e hm) hrt;exact⟨_,_,β',hrun,f1,f2⟩
 exact hnone hn ad cap hxe
section ops
variable {K:Ctx} {s:S} {d:Option Tmp} {ty:TypeId} {pos:String} {af:Array Edge} {g:Option (Nat×Bool)}
variable {t:TypeId} {u:TypeDesc} {z:Value} {gen size bytes:Nat}
def Rows(size:Nat)(rows:List (List T)):Prop:= ∀row,row∈rows→row.length=size
theorem Rows.nil(size:Nat):Rows size []:=fun _ h=>by simp at h
theorem Rows.map{α:Type}{size:Nat}{f:α→List T}(l:List α)(h: ∀x,(f x).length=size):Rows size (l.map f):=fun row hr=>by obtain⟨x,_,rfl⟩:=vAT.1 hr;exact h x
theorem aHM(k:Nat)(x y:Operand)(e:TypeId)(rows news:List (List T))(hd: ∀i,d=some i→Nat.blt i K.nt=true)(hx:s.get x= .msl k gen size 0 rows.length)(hy:VLe (s.get y) (.t (.sl news)))(hk:s.H k=some (.arr e gen size rows))
  (hu:K.P.underlying t=some (.slice e)) (he:TI K.P e u z size bytes) (hzs:Nat.beq z.cells.size size=true) (hp:Nat.blt 0 size=true) (hs:Rows size rows) (hs':Rows size news)
  (hb:(rows.length+news.length)*bytes≤140737488355328) (hm:rows.length+news.length≤9223372036854775807):
  OpJ K ⟨d,.call {callee:= .builtin .append,args:= #[x,y],argTypes:= #[t,t]},ty,pos,af,g⟩ s
   (({s with H:=upd s.H k (some (.arr e (gen+1) size (rows++news)))}:S).put d (.msl k (gen+1) size 0 (rows.length+news.length))):=by
 intro β a w next Q hr hkk
 have hxv:=hr.get x;rw [hx] at hxv;have hyv:=hy _ _ _ _ (hr.get y);have hp':0<size:=by simpa [Nat.blt_eq] using hp
 obtain⟨v',w',β',h1,h2,h3⟩:=hr.append k rows news hk ty hu he (fV hzs) hs hs' _ _ hxv (B1 hyv hs' hp') hb (by unfold maxLen;omega);unfold Oper.wp;have hrun:(execOp a.eval ⟨d,.call {callee:= .builtin .append,args:= #[x,y],argTypes:= #[t,t]},ty,pos,af,g⟩).run K.P w= .ok (.value v') w':=by
  simp [execOp,resolve,invoke,builtin,h1]
 rw [hrun];exact hkk β' _ w' (h2.put d hd h3)
theorem aAu(t':Nat→V)(k:Nat)(e:TypeId)(hk:s.u k=false)(hi: ∀(β β':Map) (w:World) (X X':Nat→Prop) (j:Nat) (u:Value),β' k=some (none,1)→(∀v u,RV β w X v u→RV β' w X' v u)→RV β w X (s.t j) u→RV β' w X' (t' j) u):
  s.le K {t:=t',H:=upd s.H k (some (.arr e 1 size [])),u:=upd s.u k true}:=by
 intro β a w h;have hnone:β k=none:=h.dom _ hk;have hβ0: ∀id x,β id=some x→β.put k (some (none,1)) id=some x:=fun id x hx=>by
  rw [aV _ _ _ _ (by intro e;subst e;rw [hnone] at hx;cases hx)];exact hx
 have hβ:=MLe.of hβ0;have hinv: ∀id b,At (β.put k (some (none,1))) id b→id≠k∧At β id b:=fun id b hb=>by
  by_cases hi:id=k
  ·subst hi;rcases hb with ⟨g,hb⟩|hb
   ·rw [cW] at hb;cases hb
   exact absurd hb (h.domn _ _ hk)
  refine⟨hi,?_⟩;rcases hb with ⟨g,hb⟩|hb
  ·rw [aV _ _ _ _ hi] at hb;exact .inl ⟨g,hb⟩
  exact .inr hb
 have hown: ∀b,own K (β.put k (some (none,1))) (upd s.H k (some (.arr e 1 size []))) b→own K β s.H b:=by
  rintro b (hx|⟨id,h1,h2⟩)
  ·exact .inl hx
  obtain⟨hne,h3⟩:=hinv id b h2;rw [aH _ _ _ _ hne] at h1;exact .inr ⟨id,h1,h3⟩
 have hrv: ∀v u,RV β w (own K β s.H) v u→RV (β.put k (some (none,1))) w (own K (β.put k (some (none,1))) (upd s.H k (some (.arr e 1 size [])))) v u:=
  fun v u hv=>hv.mono (Ext.refl _ _) (fun b _=>hown b) hβ (Shaped.refl _ _)
 refine⟨β.put k (some (none,1)),{h with base:= ?_,low:= ?_,dom:= ?_,domn:= ?_,inj:= ?_,fresh:= ?_,heap:= ?_,slots:= ?_}⟩
 ·refine h.base.keep fun id hid=>?_
  have:=h.low id hid;rw [aV _ _ _ _ (by intro e;subst e;rw [hk] at this;cases this)]
 ·intro id hid;show upd s.u k true id=true;by_cases e:id=k
  ·subst e;exact aI _ _ _
  rw [aH _ _ _ _ e];exact h.low id hid
 ·intro id hid;have hid':upd s.u k true id=false:=hid;by_cases e:id=k
  ·subst e;rw [aI] at hid';cases hid'
  rw [aH _ _ _ _ e] at hid';rw [aV _ _ _ _ e];exact h.dom id hid'
 ·intro id b hid;have hid':upd s.u k true id=false:=hid;by_cases e:id=k
  ·subst e;rw [aI] at hid';cases hid'
  rw [aH _ _ _ _ e] at hid';exact h.domn id b hid'
 ·intro id id' b h1 h2;exact h.inj id id' b (hinv id b h1).2 (hinv id' b h2).2
 ·intro id b hb;exact h.fresh id b (hinv id b hb).2
 ·intro id e' he';have he':upd s.H k (some (.arr e 1 size [])) id=some e':=he';show upd s.u k true id=true∧RE _ _ (own K _ (upd s.H k (some (.arr e 1 size [])))) id e';by_cases hi:id=k
  ·subst hi;rw [aI] at he';cases he';exact⟨aI _ _ _,kF _,Or.inl ⟨aI _ _ _,rfl⟩⟩
  rw [aH _ _ _ _ hi] at he';obtain⟨h1,h2⟩:=h.heap id e' he';exact⟨by rw [aH _ _ _ _ hi];exact h1,h2.mono (Ext.refl _ _) (fun b _=>hown b) hβ (hβ0 id) (Shaped.refl _ _) fun _ _=>rfl⟩
 intro j;exact hi β _ w _ _ j _ (aI _ _ _) hrv (h.slots j)
theorem aFb{β β':Map}{w:World}{X X':Nat→Prop}{k size:Nat}{u:Value}(hb:β' k=some (none,1))(h:RV β w X (.t .nilS) u):RV β' w X' (.msl k 1 size 0 0) u:=by
 cases h with
 |t _ _ h2=>cases h2;exact .msl0 k 1 size (kF _) hb
theorem aIU(i k:Nat)(e:TypeId)(hk:s.u k=false)(hi:s.t i= .t .nilS):s.le K {t:=upd s.t i (.msl k 1 size 0 0),H:=upd s.H k (some (.arr e 1 size [])),u:=upd s.u k true}:=
 aAu _ k e hk (fun β β' w X X' j u hb hrv h=>by
  by_cases hj:j=i
  ·subst hj;rw [aI];rw [hi] at h;exact aFb hb h
  rw [aH _ _ _ _ hj];exact hrv _ _ h)
theorem aGz(i j k:Nat)(e:TypeId){cs:List V}(hk:s.u k=false)(hi:s.t i= .agg cs)(hj:cs[j]? =some (.t .nilS)):s.le K {t:=upd s.t i (.agg (cs.set j (.msl k 1 size 0 0))),H:=upd s.H k (some (.arr e 1 size [])),u:=upd s.u k true}:=
 aAu _ k e hk (fun β β' w X X' i' u hb hrv h=>by
  by_cases hii:i'=i
  ·subst hii;rw [aI];rw [hi] at h;cases h with|agg _ us hl hp=>
   refine .agg _ us (by simpa using hl) fun i c u hc hu=>?_;by_cases hij:i=j
   ·subst hij;rw [vAu (cC.1 hj).1] at hc;cases hc;exact aFb hb (hp i _ u hj hu)
   rw [vAK (vBK hij)] at hc;exact hrv _ _ (hp i c u hc hu)
  rw [aH _ _ _ _ hii];exact hrv _ _ h)
theorem yQ(t':Nat→V)(k:Nat)(e:TypeId)(rows:List (List T))(hk0:Nat.ble K.n0 k=true)(hi: ∀i,t' i=s.t i∨(t' i= .t (.sl rows)∧s.t i= .msl k gen size 0 rows.length))(hk:s.H k=some (.arr e gen size rows)):
  s.le K {t:=t',H:=upd s.H k none,u:=s.u}:=by
 intro β a w h;have hn0:=rZ hk0;obtain⟨q,hq⟩:=gG (h.heap k _ hk).2;have hg1:=(h.heap k _ hk).2.1;have hown: ∀b,own K β (upd s.H k none) b→own K β s.H b:=by
  rintro b (hx|⟨id,h1,h2⟩)
  ·exact .inl hx
  by_cases hid:id=k
  ·subst hid;rw [aI] at h1;exact absurd rfl h1
  rw [aH _ _ _ _ hid] at h1;exact .inr ⟨id,h1,h2⟩
 have hnot: ∀b,q=some b→ ¬own K β (upd s.H k none) b:=by
  rintro b hb (hx|⟨id,h1,h2⟩)
  ·subst hb;obtain⟨x1,x2⟩:=h.xold b hx;rcases(h.fresh k b (.inl ⟨_,hq⟩)).1 with hlt|hge
   ·exact x2 hlt
   omega
  subst hb
  have:=h.inj _ _ _ h2 (.inl ⟨_,hq⟩);subst this;rw [aI] at h1;exact h1 rfl
 refine⟨β,{h with heap:= ?_,slots:= ?_}⟩
 ·intro id e' he';have he':upd s.H k none id=some e':=he';by_cases hid:id=k
  ·subst hid;rw [aI] at he';cases he'
  rw [aH _ _ _ _ hid] at he';obtain⟨h1,h2⟩:=h.heap id e' he';exact⟨h1,h2.mono (Ext.refl _ _) (fun b _=>hown b) (MLe.refl _) (fun _ h=>h) (Shaped.refl _ _) fun _ _=>rfl⟩
 intro j;show RV β w _ (t' j) _;rcases hi j with hj|⟨hj,hi⟩
 rotate_left
 ·rw [hj];have h1:=h.slots j;rw [hi] at h1;generalize a.tmps.getD j undef=y at h1;rcases bP h1 hq with ⟨cap,b,n,ty',rfl,hb',hw,hsh,hnn,hl,hmm⟩|⟨hb',_,hlr,rfl⟩
  ·subst hb';rcases(h.heap k _ hk).2.2 with ⟨g1,_⟩|⟨b',cur,g1,g2,g3,g4,g5⟩
   ·rw [hq] at g1;cases g1
   rw [hq] at g1;cases g1;rw [F7];refine .t _ _ (.sl rows b 0 size cap (fun i j=>cur.getD (i*size+j) undef) hw (hnot b rfl) hl g4 (fun i j hi hj=>?_) fun i j row x h3 h4=>?_)
   ·have hidx:=iU (size:=size) hi hj
    have:i*size+j<cur.size:=by omega
    simp [World.cell?,g2,this]
   have hi:=(cC.1 h3).1;have hj:j<size:=by rw [←g4 row (dD h3)];exact(cC.1 h4).1
   have hidx:=iU (size:=size) hi hj;have hlt:i*size+j<cur.size:=by omega
   have h6:=g5 i j row x cur[i*size+j] h3 h4 (by simp [hlt])
   have:cur.getD (i*size+j) undef=cur[i*size+j]:=by simp [hlt]
   rw [this];exact h6.mono (Ext.refl _ _) fun b _=>hown b
  have:rows=[]:=vAv hlr;subst this;exact .t _ _ (.sl0 _ _)
 rw [hj];exact(h.slots j).mono (Ext.refl _ _) (fun b _=>hown b) (MLe.refl _) (Shaped.refl _ _)
theorem aDc(i k:Nat)(e:TypeId)(rows:List (List T))(hk0:Nat.ble K.n0 k=true)(hi:s.t i= .msl k gen size 0 rows.length)(hk:s.H k=some (.arr e gen size rows)):
  s.le K {t:=upd s.t i (.t (.sl rows)),H:=upd s.H k none,u:=s.u}:=
 yQ _ k e rows hk0 (fun j=>by
  by_cases hj:j=i
  ·subst hj;exact .inr ⟨aI _ _ _,hi⟩
  exact .inl (aH _ _ _ _ hj)) hk
theorem aD0(x y:Operand)(id i off:Nat)(e:TypeId)(rows:List (List T))(row:List T)(vs:List T)(hx:s.get x= .eref id gen size i off){v:V}(hle:VLe (s.get y) v)(hy:v.cs=vs.map .t)(hyv:v.val=true)(hH:s.H id=some (.arr e gen size rows)){tsz:Nat}(ht:TI K.P t u z tsz bytes)
  (hr':rows[i]? =some row) (hs:vs.length=tsz) (hl:off+tsz≤size):
  OpJ K ⟨none,.store t x y,ty,pos,af,g⟩ s {s with H:=upd s.H id (some (.arr e gen size (rows.set i (row.take off++vs++row.drop (off+vs.length)))))}:=by
 intro β a w next Q hr hk
 have hxv:=hr.get x;rw [hx] at hxv;obtain⟨q,hq⟩:=gG (hr.heap id _ hH).2;obtain⟨b,hb0,hxe⟩:=iQ hxv hq;subst hb0;have hb:=hq;have hi:=(cC.1 hr').1;rcases(hr.heap id _ hH).2.2 with ⟨_,h2⟩|⟨b',us,h1,h2,h3,h4,h5⟩
 ·rw [h2] at hi;simp at hi
 rw [hb] at h1;cases h1;obtain⟨c1,c2⟩:=(hle _ _ _ _ (hr.get y)).cells hyv;rw [hy] at c1 c2;have hsz:(a.eval y).cells.size=tsz:=by rw [c1];simpa using hs
 have hrl:row.length=size:=h4 row (dD hr');have hbase:i*size+size≤us.size:=by
  have:(i+1)*size≤rows.length*size:=jL _ hi;rw [jJ] at this;omega
 have hone: ∀e∈(a.eval y).cells.toList,e.oneCell'=true:=by
  intro e he;obtain⟨j,hj⟩:=vAG.1 he;have hj':(a.eval y).cells[j]? =some e:=by simpa using hj
  have hlt:j<vs.length:=by have:=(vAx.1 hj').1;rw [c1] at this;simpa using this
  exact(c2 j (.t vs[j]) e (by simp [hlt]) hj').oneCell rfl
 unfold Oper.wp;have hrun:=mM ht w b (i*size+off) us e (a.eval y) h2 hsz (by omega) hone;have hrun':(execOp a.eval ⟨none,.store t x y,ty,pos,af,g⟩).run K.P w= .ok .skip (w.setRow b (us.toList.take (i*size+off)++(a.eval y).cells.toList++us.toList.drop (i*size+off+(a.eval y).cells.toList.length)).toArray):=by
  simp only [execOp,hxe,Instr.storeAt,Instr.sureAddr,Sem.run_bind,Sem.run_pure,Result.andThen_ok,hrun]
 rw [hrun'];have hwl:(a.eval y).cells.toList.length=vs.length:=by simp [c1]
 have hlen:(us.toList.take (i*size+off)++(a.eval y).cells.toList++us.toList.drop (i*size+off+(a.eval y).cells.toList.length)).length=us.size:=by
  simp [hsz];omega
 refine hk β _ _ (Rel.setRow hr id b (.inl ⟨_,hb⟩) us e h2 _ (by simpa using hlen) (.arr e gen size (rows.set i (row.take off++vs++row.drop (off+vs.length)))) (by rw [hH];simp) ?_);have hb':own K β s.H b:= .inr ⟨id,by rw [hH];simp,.inl ⟨_,hb⟩⟩;have hmono: ∀x u,RT w (own K β s.H) x u→RT (w.setRow b (us.toList.take (i*size+off)++(a.eval y).cells.toList++us.toList.drop (i*size+off+(a.eval y).cells.toList.length)).toArray) (own K β s.H) x u:=by
  intro v u hv;exact hv.mono ⟨rfl,rfl,rfl,by simp,fun k _ hx=>setRow_other _ _ _ _ fun e=>hx (e▸hb')⟩ fun _ _ h=>h
 have hnl:(row.take off++vs++row.drop (off+vs.length)).length=size:=by simp;omega
 refine⟨(hr.heap id _ hH).2.1,Or.inr ⟨b,_,hb,setRow_heap _ _ _ _ _ _ h2,?_,?_,?_⟩⟩
 ·simp only [List.size_toArray,hlen,List.length_set];exact h3
 ·intro r hrm;rcases vBb hrm with h|h
  ·exact h4 r h
  rw [h];exact hnl
 intro i' j row' x' u' a1 a2 a3;apply hmono;have a3:(us.toList.take (i*size+off)++(a.eval y).cells.toList++us.toList.drop (i*size+off+(a.eval y).cells.toList.length))[i'*size+j]? =some u':=by simpa using a3
 simp only [List.getElem?_append,List.length_append,List.length_take,List.getElem?_take,List.getElem?_drop,Array.length_toList] at a3;rw [show min (i*size+off) us.size=i*size+off by omega,show(a.eval y).cells.size=vs.length by simpa using hwl] at a3;by_cases hii:i'=i
 ·subst hii;rw [vAu hi] at a1;cases a1;have hjs:j<size:=by rw [←hnl];exact(cC.1 a2).1
  simp only [List.getElem?_append,List.length_append,List.length_take,List.getElem?_take,List.getElem?_drop,hrl] at a2;rw [show min off size=off by omega] at a2;by_cases b1:j<off
  ·rw [if_pos (by omega),if_pos b1,if_pos b1] at a2;rw [if_pos (by omega),if_pos (by omega),if_pos (by omega)] at a3;exact h5 i' j row x' u' hr' a2 (by simpa using a3)
  by_cases b2:j<off+vs.length
  ·rw [if_pos (by omega),if_neg b1] at a2;rw [if_pos (by omega),if_neg (by omega)] at a3;rw [show i'*size+j-(i'*size+off)=j-off by omega] at a3;have h9:=c2 (j-off) (.t x') u' (by rw [zG,a2];rfl) (by simpa using a3);cases h9 with|t _ _ h=>exact h
  rw [if_neg (by omega)] at a2;rw [if_neg (by omega)] at a3;rw [show off+vs.length+(j-(off+vs.length))=j by omega] at a2;rw [show i'*size+off+vs.length+(i'*size+j-(i'*size+off+vs.length))=i'*size+j by omega] at a3;exact h5 i' j row x' u' hr' a2 (by simpa using a3)
 rw [vAK (vBK hii)] at a1;have hjs:j<size:=by rw [←h4 row' (dD a1)];exact(cC.1 a2).1
 have hold:us[i'*size+j]? =some u':=by
  rcases Nat.lt_or_ge i' i with hlt|hge
  ·have:i'*size+size≤i*size:=by have:=jL size (show i'+1≤i by omega);rw [jJ] at this;omega
   rw [if_pos (by omega),if_pos (by omega),if_pos (by omega)] at a3;simpa using a3
  have:i*size+size≤i'*size:=by have:=jL size (show i+1≤i' by omega);rw [jJ] at this;omega
  rw [if_neg (by omega)] at a3;rw [show i*size+off+vs.length+(i'*size+j-(i*size+off+vs.length))=i'*size+j by omega] at a3;simpa using a3
 exact h5 i' j row' x' u' a1 a2 hold
end ops
end Go.Lift
