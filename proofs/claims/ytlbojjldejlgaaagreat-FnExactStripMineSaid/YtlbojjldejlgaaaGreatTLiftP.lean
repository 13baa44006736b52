/- Calls of functions that are handed blocks: the caller's side. -/
import Derived.Test.YtlbojjldejlgaaaGreatTLiftO
namespace Go.Lift
open Go
def jQ{α:Type}(f:Nat→α):List Nat→(Nat→α)→(Nat→α)
 | [],_=>f
 |l::L,g=>upd (jQ f L fun k=>g (k+1)) l (g 0)
theorem d7{α:Type}{f:Nat→α}: ∀{L:List Nat} {g:Nat→α} {id:Nat},id∉L→jQ f L g id=f id
 | [],_,_,_=>rfl
 |l::L,g,id,h=>by simp at h;rw [jQ,aH _ _ _ _ h.1];exact d7 h.2
theorem gB{α:Type}{f:Nat→α}: ∀{L:List Nat} {g:Nat→α} {k id:Nat},L.Nodup→L[k]? =some id→jQ f L g id=g k
 | [],_,_,_,_,h=>by simp at h
 |l::L,g,0,id,_,h=>by simp at h;subst h;rw [jQ,aI]
 |l::L,g,k+1,id,hn,h=>by simp at h hn;have hne:id≠l:=fun e=>hn.1 (e▸dD h);rw [jQ,aH _ _ _ _ hne];exact gB (g:=fun k=>g (k+1)) hn.2 h
theorem zT: ∀{L:List Nat} {i j id:Nat},L.Nodup→L[i]? =some id→L[j]? =some id→i=j
 | [],_,_,_,_,h,_=>by simp at h
 |l::L,0,0,_,_,_,_=>rfl
 |l::L,0,j+1,id,hn,h,h'=>by simp at h h' hn;subst h;exact absurd (dD h') hn.1
 |l::L,i+1,0,id,hn,h,h'=>by simp at h h' hn;subst h';exact absurd (dD h) hn.1
 |l::L,i+1,j+1,id,hn,h,h'=>by simp at h h' hn;rw [zT hn.2 h h']
def S.after(s:S)(L:List Nat)(es:List E):S:=
 {t:=s.t,H:=jQ s.H L fun k=>(es[k]?).map (E.ren L),u:=jQ s.u L (fun _=>true)}
def OpX(K:Ctx)(o:Oper)(s:S){ι:Type}(φ:ι→Prop)(s':ι→S):Prop:=
 ∀β a w next Q,Rel K β s a w→(∀i,φ i→ ∀β' a' w',Rel K β' (s' i) a' w'→next a' w')→o.wp K.P a w next Q
theorem RE.unren{β:Map}{w:World}{X:Nat→Prop}{L:List Nat}{id k:Nat}{e:E}(h:RE β w X id (e.ren L))(hk:L[k]? =some id)(hl:e.ok (cA L.length)=true):RE (kJ L β) w X k e:=by
 have hb:kJ L β k=β id:=by simp [kJ,hk]
 cases e with
 |cells cs=>
  obtain⟨b,us,ty,h1,h2,h3,h4⟩:=h;rw [eJ] at h3;refine⟨b,us,ty,by rw [hb];exact h1,h2,h3,fun i c u hc hu=>?_⟩;exact RV.unren c u (h4 i _ u (by rw [J9,hc];rfl) hu) (m9 hl hc)
 |arr ty gen size rows=>
  refine⟨h.1,?_⟩;rcases h.2 with ⟨h1,h2⟩|⟨b,us,h1,h2⟩
  ·exact .inl ⟨by rw [hb];exact h1,h2⟩
  exact .inr ⟨b,us,by rw [hb];exact h1,h2⟩
 |tree Γ m gen rows hs=>
  refine⟨h.1,?_⟩;have hn: ∀c,(kJ L β).n k c↔β.n id c:=fun c=>⟨fun⟨id',h1,h2⟩=>by rw [hk] at h1;cases h1;exact h2,fun h=>⟨id,hk,h⟩⟩
  rcases h.2 with ⟨h1,h2,h0⟩|⟨b,us,B,h1,h2,h3,h4,h5,h6,h7,h8⟩
  ·exact .inl ⟨by rw [hb];exact h1,h2,fun c hc=>h0 c ((hn c).1 hc)⟩
  refine .inr ⟨b,us,B,by rw [hb];exact h1,h2,h3,h4,fun i j row x u a1 a2 a3=>⟨fun v hv=>?_,fun hx=>?_⟩,h6,h7,fun c=>(hn c).trans (h8 c)⟩
  ·have h9:=(h5 i j row x u a1 a2 a3).1 (v.ren L) (vAT.2 ⟨_,hv,rfl⟩);exact⟨RV.unren v u h9.1 (K8 hl hv),h9.2⟩
  refine(h5 i j row x u a1 a2 a3).2 fun v hv=>?_;obtain⟨⟨i',j',v'⟩,h9,h10⟩:=vAT.1 hv;simp only [Prod.mk.injEq] at h10;obtain⟨rfl,rfl,rfl⟩:=h10;exact hx v' h9
theorem RE.ren{β β':Map}{w:World}{X X':Nat→Prop}{L:List Nat}{id k:Nat}{e:E}(h:RE β w X k e)(hk:L[k]? =some id)(hβ: ∀k x,β k=some x→β' (L.getD k 0)=some x)(hX: ∀b,X' b→X b)(hn: ∀b,β'.n id b↔β.n k b):RE β' w X' id (e.ren L):=by
 have hm: ∀x,β k=some x→β' id=some x:=fun x hx=>by have:=hβ k x hx;rwa [vBh,hk] at this
 cases e with
 |cells cs=>
  obtain⟨b,us,ty,h1,h2,h3,h4⟩:=h;refine⟨b,us,ty,hm _ h1,h2,by rw [eJ];exact h3,fun i c u hc hu=>?_⟩;obtain⟨c0,h5,rfl⟩:=uE hc;exact((h4 i c0 u h5 hu).ren hβ).mono (Ext.refl _ _) (fun b _=>hX b) (MLe.refl _) (Shaped.refl _ _)
 |arr ty gen size rows=>
  refine⟨h.1,?_⟩;rcases h.2 with ⟨h1,h2⟩|⟨b,us,h1,h2,h3,h4,h5⟩
  ·exact .inl ⟨hm _ h1,h2⟩
  exact .inr ⟨b,us,hm _ h1,h2,h3,h4,fun i j row x u a1 a2 a3=>(h5 i j row x u a1 a2 a3).mono (Ext.refl _ _) fun b _=>hX b⟩
 |tree Γ m gen rows hs=>
  refine⟨h.1,?_⟩;rcases h.2 with ⟨h1,h2,h0⟩|⟨b,us,B,h1,h2,h3,h4,h5,h6,h7,h8⟩
  ·exact .inl ⟨hm _ h1,h2,fun c hc=>h0 c ((hn c).1 hc)⟩
  refine .inr ⟨b,us,B,hm _ h1,h2,h3,h4,fun i j row x u a1 a2 a3=>⟨fun v hv=>?_,fun hx=>?_⟩,h6,h7,fun c=>(hn c).trans (h8 c)⟩
  ·obtain⟨⟨i',j',v'⟩,h9,h10⟩:=vAT.1 hv;simp only [Prod.mk.injEq] at h10;obtain⟨rfl,rfl,rfl⟩:=h10;have h11:=(h5 _ _ row x u a1 a2 a3).1 v' h9;exact⟨(h11.1.ren hβ).mono (Ext.refl _ _) (fun b _=>hX b) (MLe.refl _) (Shaped.refl _ _),h11.2⟩
  exact((h5 i j row x u a1 a2 a3).2 fun v hv=>hx (v.ren L) (vAT.2 ⟨_,hv,rfl⟩)).mono (Ext.refl _ _) (fun b _=>hX b) fun _ _=>rfl
theorem RVs.app{β:Map}{w:World}{X:Nat→Prop}: ∀{vs vs':List V} {us us':List Value},RVs β w X vs us→RVs β w X vs' us'→RVs β w X (vs++vs') (us++us')
 | [],_,[],_,_,h=>h
 |_::_,_,_::_,_,h,k=>⟨h.1,RVs.app h.2 k⟩
 | [],_,_::_,_,h,_=>h.elim
 |_::_,_,[],_,h,_=>h.elim
theorem wP{β:Map}{w:World}{X:Nat→Prop}: ∀{vs:List V} {us:List Value},us.length=vs.length→(∀(i:Nat) c u,vs[i]? =some c→us[i]? =some u→RV β w X c u)→RVs β w X vs us
 | [],[],_,_=>trivial
 |v::vs,u::us,hl,h=>⟨h 0 v u rfl rfl,wP (by simpa using hl) fun i c u hc hu=>h (i+1) c u (by simpa using hc) (by simpa using hu)⟩
 | [],_::_,hl,_=>by simp at hl
 |_::_,[],hl,_=>by simp at hl
theorem RV.fn_inv{β:Map}{w:World}{X:Nat→Prop}{f:FuncId}{cs:List V}{u:Value}(h:RV β w X (.fn f cs) u): ∃us:Array Value,u= .func (.func f) #[] us∧RVs β w X cs us.toList:=by
 cases h with
 |fn _ _ us hl h=>exact⟨us,rfl,wP (by simpa using hl) fun i c u hc hu=>h i c u hc (by simpa using hu)⟩
theorem aGA{K:Ctx}{s:S}{o:Oper}{f:FuncId}{xs:Array Operand}{tys:Array TypeId}{inn:List E}{args:List V}{ι:Type}{φ:ι→Prop}{r:ι→V}{out:ι→List E}(fo:Operand)(L news:List Nat)
  (capsV:List V) (ho:o.op= .call {callee:= .value fo,args:=xs,argTypes:=tys}) (hfo:s.get fo= .fn f capsV)
  (hf:hJ K.P f) (hd: ∀i,o.dst=some i→Nat.blt i K.nt=true) (hv:VsLe (xs.toList.map s.get++capsV) (fU L args)) (hl:f8 (cA L.length) args=true)
  (hL:inn.length=L.length) (hH: ∀(k:Nat) (e:E),inn[k]? =some e→ ∃id,L[k]? =some id∧s.H id=some (e.ren L)∧e.ok (cA L.length)=true)
  (hnd:(L++news).Nodup) (hnew: ∀id,id∈news→s.u id=false) (hout: ∀i,(out i).length=(L++news).length)
  (h:VC K.P K.G f inn args φ r out):OpX K o s φ (fun i=>(s.after (L++news) (out i)).put o.dst ((r i).ren (L++news))):=by
 obtain⟨fn,hf1,hf2,hf3⟩:=hf;intro β a w next Q hr hk
 have hn':fn.name≠ "runtime.NumGoroutine" :=by simpa using hf2
 have hb':fn.body≠none:=by intro e;simp [e] at hf3
 obtain⟨us,hce,hus⟩:=(hfo▸hr.get fo).fn_inv;have hrun:(execOp a.eval o).run K.P w= .ok (.enter f (xs.map a.eval++us)) w:=by
  simp [execOp,ho,resolve,Deferred.ofValue,hce,invoke,callFunc,hf1,hn',hb']
 unfold Oper.wp;rw [hrun,Oper.upon_enter];let β0:Map:=kJ L β;let X':Nat→Prop:=fun b=>own K β s.H b∧ ¬ ∃k,At β0 k b;have hb0: ∀k g b,β0 k=some (some b,g)→ ∃id,L[k]? =some id∧β id=some (some b,g):=by
  intro k g b h;cases hk:L[k]? with
  |none=>simp [β0,kJ,hk] at h
  |some id=>simp [β0,kJ,hk] at h;exact⟨id,rfl,h⟩
 have hat0: ∀k b,At β0 k b→ ∃id,L[k]? =some id∧At β id b:=by
  rintro k b (⟨g,h⟩|⟨id,h1,h2⟩)
  ·obtain⟨id,h1,h2⟩:=hb0 k g b h;exact⟨id,h1,.inl ⟨g,h2⟩⟩
  exact⟨id,h1,.inr h2⟩
 have hLH: ∀(k id:Nat),L[k]? =some id→s.H id≠none:=by
  intro k id hk;have hlt:k<inn.length:=by rw [hL];exact(cC.1 hk).1
  obtain⟨id',h1,h2,_⟩:=hH k _ (dH hlt);rw [hk] at h1;cases h1;rw [h2];simp
 have hown0: ∀k b,At β0 k b→own K β s.H b:=by
  intro k b h;obtain⟨id,h1,h2⟩:=hat0 k b h;exact .inr ⟨id,hLH k id h1,h2⟩
 have hownle: ∀b,ownOf X' β0 (listH inn 0) b→own K β s.H b:=by
  rintro b (h|⟨k,_,h2⟩)
  ·exact h.1
  exact hown0 k b h2
 have hMor: ∀k b,At β0 k b→K.M b∨K.w0.heap.size≤b:=by
  intro k b h;obtain⟨id,h1,h2⟩:=hat0 k b h;exact(hr.fresh id b h2).1
 have hsize: ∀b,own K β s.H b→b<w.heap.size:=by
  rintro b (hx|⟨id,_,hb⟩)
  ·exact vAN (hr.xold b hx).1 hr.ext.size
  exact(hr.fresh id b hb).2
 have hndL:L.Nodup:=(List.nodup_append.1 hnd).1;have hinn:Inn K.G inn β0 w X':=by
  refine⟨?_,?_,?_,?_,?_⟩
  ·intro k hk;rw [hL] at hk;simp [β0,kJ,List.getElem?_eq_none hk]
  ·rintro k b hk ⟨id,h1,_⟩;rw [hL] at hk;rw [vBD hk] at h1;cases h1
  ·intro k k' b h h';obtain⟨id,h1,h2⟩:=hat0 k b h;obtain⟨id',h1',h2'⟩:=hat0 k' b h';have he:=hr.inj id id' b h2 h2';subst he;have hk:=(cC.1 h1).1;exact zT hndL h1 h1'
  ·intro k b hkb;refine⟨hsize b (hown0 k b hkb),fun hx=>hx.2 ⟨k,hkb⟩,?_⟩;rcases hMor k b hkb with h3|h3
   ·exact hr.mg b h3
   exact r8 hr.gok.1 h3
  intro k e he;obtain⟨id,h1,h2,h4⟩:=hH k e he;have hre:=RE.unren (hr.heap id _ h2).2 h1 h4;exact hre.mono (Ext.refl _ _) (fun b _=>hownle b) (MLe.refl _) (fun _ h=>h) (Shaped.refl _ _) fun _ _=>rfl
 have hargs:=(RVs.unren (((hr.gets xs.toList).app hus).le hv) hl).mono (Ext.refl _ _) (fun b _=>hownle b) (MLe.refl _) (Shaped.refl _ _);have hc:=h w X' β0 _ hr.glob (fun b hb=>hsize b hb.1) hinn hargs;have he:(List.map a.eval xs.toList++us.toList).toArray=xs.map a.eval++us:=by rw [←Array.toList_map,←Array.toList_append]
 rw [he] at hc;refine hc.mono ?_;rintro e w' ⟨u,i,β',rfl,hφ,hleft⟩;let L':=L++news;let β2:Map:=⟨jQ β L' β',fun id b=>(id∉L'∧β.n id b)∨ ∃k,L'[k]? =some id∧β'.n k b⟩
 let s2:=s.after L' (out i);have hlow: ∀k,k<L.length→L'[k]? =L[k]? :=fun k hk=>I0 hk;have hmem: ∀id,id∈L'→ ∃k:Nat,L'[k]? =some id∧k<(out i).length:=by
  intro id hid;obtain⟨k,hk,e⟩:=List.mem_iff_getElem.1 hid;exact⟨k,cC.2 ⟨hk,e⟩,by rw [hout];exact hk⟩
 have F1: ∀id,id∉L'→β2 id=β id:=fun id h=>d7 h;have F2: ∀k id,L'[k]? =some id→β2 id=β' k:=fun k id h=>gB hnd h;have F3: ∀k id,k<L.length→L'[k]? =some id→(β' k=β id)∨ ∃q g q' g',β id=some (q,g)∧1≤g∧β' k=some (q',g')∧g<g'∧ ∀b,q'=some b→q=some b∨w.heap.size≤b:=by
  intro k id hk h;have hb:=hleft.base k (by rw [hL];exact hk);rw [hlow k hk] at h;have e:β0 k=β id:=by simp [β0,kJ,h]
  rw [e] at hb;exact hb
 have hnewm: ∀k id,L.length≤k→L'[k]? =some id→id∈news:=by
  intro k id hk h;rw [I1 hk] at h;exact dD h
 have F4:MLe β β2:=by
  intro id q g hx;by_cases hid:id∈L'
  ·obtain⟨k,hk,_⟩:=hmem id hid;by_cases hkl:k<L.length
   ·rw [F2 k id hk];rcases F3 k id hkl hk with e|⟨q1,g1,q',g',a1,a2,a3,a4,_⟩
    ·exact .inl (e.trans hx)
    rw [hx] at a1;cases a1;exact .inr ⟨a2,q',g',a3,a4⟩
   have:=hr.dom id (hnew id (hnewm k id (by omega) hk));rw [this] at hx;cases hx
  exact .inl (by rw [F1 id hid];exact hx)
 have hH2in: ∀k id,L'[k]? =some id→s2.H id=((out i)[k]?).map (E.ren L'):=fun k id h=>gB hnd h;have hH2out: ∀id,id∉L'→s2.H id=s.H id:=fun id h=>d7 h;have hnot: ∀id b,id∉L'→At β id b→ ¬ ∃k,At β0 k b:=by
  rintro id b hid hb ⟨k,h⟩;obtain⟨id',h1,h2⟩:=hat0 k b h
  have:=hr.inj id id' b hb h2;subst this;exact hid (vAR _ (dD h1))
 have hcls: ∀id b,At β2 id b→(id∉L'∧At β id b)∨ ∃k,L'[k]? =some id∧At β' k b:=by
  rintro id b (⟨g,h⟩|⟨h1,h2⟩|⟨k,h1,h2⟩)
  ·by_cases hid:id∈L'
   ·obtain⟨k,hk,_⟩:=hmem id hid;rw [F2 k id hk] at h;exact .inr ⟨k,hk,.inl ⟨g,h⟩⟩
   rw [F1 id hid] at h;exact .inl ⟨hid,.inl ⟨g,h⟩⟩
  ·exact .inl ⟨h1,.inr h2⟩
  exact .inr ⟨k,h1,.inr h2⟩
 have hO: ∀b,own K β2 s2.H b→ownOf X' β' (listH (out i) 0) b:=by
  rintro b (hx|⟨id,h1,h2⟩)
  ·refine .inl ⟨.inl hx,?_⟩;rintro⟨k,hkb⟩;rcases hMor k b hkb with h3|h3
   ·exact(hr.xold b hx).2 h3
   have:=(hr.xold b hx).1;omega
  rcases hcls id b h2 with ⟨hid,h2'⟩|⟨k,hk,hkb⟩
  ·rw [hH2out id hid] at h1;exact .inl ⟨.inr ⟨id,h1,h2'⟩,hnot id b hid h2'⟩
  have hkl:k<(out i).length:=by rw [hout];exact(cC.1 hk).1
  refine .inr ⟨k,?_,hkb⟩;rw [kY,dH hkl];simp
 have hAt': ∀k b,At β' k b→k<(out i).length:=by
  rintro k b (⟨g,h⟩|h)
  ·apply vAY;intro hle;rw [hleft.dom k hle] at h;cases h
  exact vAY fun hle=>hleft.domn k b hle h
 have hOw: ∀b,b<w.heap.size→own K β2 s2.H b→own K β s.H b:=by
  intro b hbs hb;rcases hO b hb with h1|⟨k,_,hkb⟩
  ·exact h1.1
  rcases(hleft.fresh k b hkb).1 with ⟨k',_,h3⟩|h3
  ·exact hown0 k' b h3
  omega
 have hExt:Ext (own K β s.H) w w':=hleft.ext.weaken fun b _ ⟨k,hkb⟩=>hown0 k b hkb;have hSh:Shaped β w w':=fun b hb=>hleft.shp b hb;have hren: ∀k x,β' k=some x→β2 (L'.getD k 0)=some x:=by
  intro k x hx;have hlt:k<(out i).length:=by
   apply vAY;intro hle;rw [hleft.dom k hle] at hx;cases hx
  rw [hout] at hlt;have hg:L'[k]? =some L'[k]:=dH hlt;rw [vBh,hg];exact(F2 k _ hg).trans hx
 have hold: ∀k b,At β' k b→(∃id,id∈L'∧At β id b)∨w.heap.size≤b:=by
  intro k b hb;rcases(hleft.fresh k b hb).1 with ⟨k',h3,h4⟩|h3
  ·obtain⟨id',e1,e2⟩:=hat0 k' b h4;exact .inl ⟨id',vAR _ (dD e1),e2⟩
  exact .inr h3
 have hrel:Rel K β2 s2 a w':=by
  refine {hr with ext:= ?_,base:= ?_,shp:= ?_,low:= ?_,dom:= ?_,domn:= ?_,inj:= ?_,fresh:= ?_,heap:= ?_,slots:= ?_}
  ·refine hr.ext.trans' (hleft.ext.weaken ?_);rintro b _ ⟨k,hkb⟩ ⟨h1,h2⟩;rcases hMor k b hkb with h3|h3
   ·exact h2 h3
   omega
  ·refine hr.base.more fun id hid=>?_;by_cases hm:id∈L'
   ·obtain⟨k,hk,_⟩:=hmem id hm;by_cases hkl:k<L.length
    ·rw [F2 k id hk];rcases F3 k id hkl hk with e|⟨q,g,q',g',a1,a2,a3,a4,a5⟩
     ·exact .inl e
     exact .inr ⟨q,g,q',g',a1,a2,a3,a4,fun b hb=>by
      rcases a5 b hb with c|c
      ·exact .inl c
      exact .inr (r8 hr.ext.size c)⟩
    have h1:=hnew id (hnewm k id (by omega) hk);rw [hr.low id hid] at h1;cases h1
   exact .inl (F1 id hm)
  ·intro b h3;exact(hleft.shp b (vAN h3 hr.ext.size)).trans (hr.shp b h3)
  ·intro id hid;by_cases hm:id∈L'
   ·obtain⟨k,hk,_⟩:=hmem id hm;exact gB (f:=s.u) (g:=fun _=>true) hnd hk
   exact(d7 hm).trans (hr.low id hid)
  ·intro id hid;by_cases hm:id∈L'
   ·obtain⟨k,hk,_⟩:=hmem id hm
    have:s2.u id=true:=gB (f:=s.u) (g:=fun _=>true) hnd hk;rw [this] at hid;cases hid
   rw [F1 id hm];exact hr.dom id ((d7 (f:=s.u) (g:=fun _=>true) hm).symm.trans hid)
  ·rintro id b hid (⟨h1,h2⟩|⟨k,hk,h2⟩)
   ·exact hr.domn id b ((d7 (f:=s.u) (g:=fun _=>true) h1).symm.trans hid) h2
   have:s2.u id=true:=gB (f:=s.u) (g:=fun _=>true) hnd hk;rw [this] at hid;cases hid
  ·intro id id' b h1 h2;rcases hcls id b h1 with ⟨m1,a1⟩|⟨k,hk,a1⟩<;>rcases hcls id' b h2 with ⟨m2,a2⟩|⟨k',hk',a2⟩
   ·exact hr.inj id id' b a1 a2
   ·rcases hold k' b a2 with ⟨id2,h3,h4⟩|h3
    ·have:=hr.inj id id2 b a1 h4;subst this;exact absurd h3 m1
    have:=(hr.fresh id b a1).2;omega
   ·rcases hold k b a1 with ⟨id2,h3,h4⟩|h3
    ·have:=hr.inj id' id2 b a2 h4;subst this;exact absurd h3 m2
    have:=(hr.fresh id' b a2).2;omega
   have:=hleft.inj k k' b a1 a2;subst this;rw [hk] at hk';cases hk';rfl
  ·intro id b h1;rcases hcls id b h1 with ⟨_,a1⟩|⟨k,hk,a1⟩
   ·exact⟨(hr.fresh id b a1).1,vAN (hr.fresh id b a1).2 hleft.ext.size⟩
   refine⟨?_,(hleft.fresh k b a1).2⟩;rcases hold k b a1 with ⟨id2,_,h3⟩|h3
   ·exact(hr.fresh id2 b h3).1
   exact .inr (r8 hr.ext.size h3)
  ·intro id e he;by_cases hm:id∈L'
   ·obtain⟨k,hk,hkl⟩:=hmem id hm;refine⟨gB (f:=s.u) (g:=fun _=>true) hnd hk,?_⟩;rw [hH2in k id hk,dH hkl] at he;simp at he;subst he;exact RE.ren (hleft.heap k _ (dH hkl)) hk hren hO (fun b=>⟨fun h=>by
     rcases h with ⟨h1,_⟩|⟨k',h1,h2⟩
     ·exact absurd hm h1
     have:=zT hnd h1 hk;subst this;exact h2,fun h=> .inr ⟨k,hk,h⟩⟩)
   rw [hH2out id hm] at he;obtain⟨h1,h2⟩:=hr.heap id e he;refine⟨(d7 (f:=s.u) (g:=fun _=>true) hm).trans h1,?_⟩;exact h2.mono hExt hOw F4 (fun x hx=>by rw [F1 id hm];exact hx) hSh (fun b hb=>hleft.ext.keep b (hr.fresh id b hb).2 (hnot id b hm hb)) (fun b=>⟨fun h=>by
    rcases h with ⟨_,h⟩|⟨k',h1,_⟩
    ·exact h
    exact absurd (dD h1) hm,fun h=> .inl ⟨hm,h⟩⟩)
  intro j;exact(hr.slots j).mono hExt hOw F4 hSh
 exact hk i hφ β2 _ w' (hrel.put o.dst hd ((hleft.res.ren hren).mono (Ext.refl _ _) (fun b _=>hO b) (MLe.refl _) (Shaped.refl _ _)))
end Go.Lift
