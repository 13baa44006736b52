/- The evaluator of effects is right; regions by the evaluator. -/
import Derived.Test.YtlbojjldejlgaaaGreatTLiftWW
namespace Go.Lift
open Go
theorem Yield.sub{P:Program}{H H':Nat→Option E}{o:Oper}{vals:List V}{v:V}(h:Yield P H o vals v)(hH: ∀k e,H k=some e→H' k=some e):Yield P H' o vals v:=
 fun β w X ρ hE ha=>h β w X ρ (fun id e he=>hE id e (hH id e he)) ha
theorem OpJ.weak{K:Ctx}{o:Oper}{s s1 s2:S}(h:OpJ K o s s1)(hw: ∀β a w,Rel K β s1 a w→Rel K β s2 a w):OpJ K o s s2:=
 fun β a w next Q hr hk=>h β a w next Q hr fun β' a' w' hr'=>hk β' a' w' (hw β' a' w' hr')
theorem aJV{K:Ctx}{β:Map}{H:Nat→Option E}{k:Nat}{e e':E}(hk:H k=some e):own K β (upd H k (some e'))=own K β H:=by
 funext b;apply propext;constructor
 ·rintro(h|⟨id,h1,h2⟩)
  ·exact .inl h
  by_cases hi:id=k
  ·subst hi;exact .inr ⟨id,by rw [hk];simp,h2⟩
  rw [aH _ _ _ _ hi] at h1;exact .inr ⟨id,h1,h2⟩
 rintro(h|⟨id,h1,h2⟩)
 ·exact .inl h
 by_cases hi:id=k
 ·subst hi;exact .inr ⟨id,by rw [aI];simp,h2⟩
 exact .inr ⟨id,by rw [aH _ _ _ _ hi];exact h1,h2⟩
theorem Rel.reE{K:Ctx}{β:Map}{s:S}{a:Act}{w:World}(h:Rel K β s a w)(k:Nat){e e':E}(hk:s.H k=some e)(he: ∀X,RE β w X k e→RE β w X k e'):Rel K β {s with H:=upd s.H k (some e')} a w:=by
 have ho:=aJV (K:=K) (β:=β) (e':=e') hk;refine {h with heap:= ?_,slots:= ?_}
 ·intro id e2 h2;show _∧RE β w (own K β (upd s.H k (some e'))) id e2;rw [ho];by_cases hi:id=k
  ·subst hi;have h2':upd s.H id (some e') id=some e2:=h2;rw [aI] at h2';cases h2';obtain⟨h3,h4⟩:=h.heap id e hk;exact⟨h3,he _ h4⟩
  have h2':upd s.H k (some e') id=some e2:=h2;rw [aH _ _ _ _ hi] at h2';exact h.heap id e2 h2'
 intro i;show RV β w (own K β (upd s.H k (some e'))) _ _;rw [ho];exact h.slots i
section
variable {K:Ctx} {s:S} {d:Option Tmp} {ty:TypeId} {pos:String} {af:Array Edge} {g:Option (Nat×Bool)}
theorem aFr{f:FuncId}{c:Operand}{xs:Array Operand}{tys:Array TypeId}(caps:List V)(args:List V)(r:V)
  (hf:hJ K.P f) (hc:s.get c= .fn f caps) (hd: ∀i,d=some i→Nat.blt i K.nt=true) (hv:VsLe (xs.toList.map s.get++caps) args) (hl:f8 gI args=true) (h:PC K.P K.G f args r):
  OpJ K ⟨d,.call {callee:= .value c,args:=xs,argTypes:=tys},ty,pos,af,g⟩ s (s.put d r):=by
 obtain⟨fn,h1,h2,h3⟩:=hf;intro β a w next Q hr hk
 have hn':fn.name≠ "runtime.NumGoroutine" :=by simpa using h2
 have hb':fn.body≠none:=by intro e;simp [e] at h3
 obtain⟨us,hce,hus⟩:=(hc▸hr.get c).fn_inv;have hrun:(execOp a.eval ⟨d,.call {callee:= .value c,args:=xs,argTypes:=tys},ty,pos,af,g⟩).run K.P w= .ok (.enter f (xs.map a.eval++us)) w:=by
  simp [execOp,resolve,Deferred.ofValue,hce,invoke,callFunc,h1,hn',hb']
 unfold Oper.wp;rw [hrun,Oper.upon_enter];have hargs:=(RVs.le ((hr.gets xs.toList).app hus) hv).none_of hl;have hc2:=h w (own K β s.H) _ hr.glob hr.ownLt hargs;have he:(List.map a.eval xs.toList++us.toList).toArray=xs.map a.eval++us:=by rw [←Array.toList_map,←Array.toList_append]
 rw [he] at hc2;refine hc2.mono ?_;rintro e w' ⟨u,rfl,hext,hu⟩;exact hk β _ w' ((hr.grow hext).put d hd (hu.any fun _ h=>h))
theorem oO{s:S}{d:Option Tmp}{v:V}{k:Nat}{e:E}:Eff.app ⟨iN d v,[(k,some e)],[(k,true)]⟩ s=(s.new k e).put d v:=by cases d<;>rfl
theorem lN{s:S}{d:Option Tmp}{v:V}:Eff.app ⟨iN d v,[],[]⟩ s=s.put d v:=by cases d<;>rfl
theorem aIt{t:TypeId}{x:Operand}{u:Nat→Bool}{v:V}{hs hs':List Hn}{e:Eff}{φ:List Ob}(hu: ∀k,u k=false→s.u k=false)(hd:dOk K.nt d=true)(hx:s.get x=v)
  (h:aAp d u v hs=some (e,φ,hs')):OpJ K ⟨d,.box t x,ty,pos,af,g⟩ s (e.app s):=by
 unfold aAp at h;split at h
 ·split at h
  ·rename_i h1 h2;cases h;rw [oO];exact aM4 _ (hu _ h1) x v (eB hd) hx h2
  cases h
 cases h
theorem aI5{P:Program}{H:Nat→Option E}{t:TypeId}(x:Operand)(v:V)(xs:List T)(hv:v.val=true)(hx:v.cs=xs.map .t):aBw P H ⟨d,.box t x,ty,pos,af,g⟩ [v] (.tp xs):=by
 intro β w X ρ _ hX ha;obtain⟨h1,h2⟩:=(show RV β w X v (ρ x) from ha.1).cells hv;have hrun:(execOp ρ ⟨d,.box t x,ty,pos,af,g⟩).run P w= .ok (.value (.pointer (some ⟨w.heap.size,0,none⟩))) (w.alloc (.cells (ρ x).cells t)):=by
  simp [execOp,Instr.box,newVar,newRow]
 refine⟨_,_,hrun,Ext.alloc _ _ _,?_⟩;refine .tp xs w.heap.size 0 (fun j=>(ρ x).cells.getD j undef) (by simp) (fun h=>by have:=hX _ h;omega) (fun j hj=>?_) fun j y hy=>?_
 ·rw [l4,World.cell?_alloc_new]
  have:j<(ρ x).cells.size:=by rw [h1,hx];simpa using hj
  simp [this]
 have hj:j<(ρ x).cells.size:=by rw [h1,hx,I2];exact(cC.1 hy).1
 have h3:=h2 j (.t y) (ρ x).cells[j] (by rw [hx,zG,hy];rfl) (by simp [hj]);cases h3 with
 |t _ _ h=>
  have:(ρ x).cells.getD j undef=(ρ x).cells[j]:=by simp [hj]
  rw [this];exact h.mono (Ext.alloc X _ _) fun _ _ h=>h
theorem aGm{t:TypeId}{x:Operand}{v:V}{hs hs':List Hn}{e:Eff}{φ:List Ob}(hd:dOk K.nt d=true)(hx:s.get x=v)
  (h:aEl d v hs=some (e,φ,hs')):OpJ K ⟨d,.box t x,ty,pos,af,g⟩ s (e.app s):=by
 unfold aEl at h;split at h
 ·split at h
  ·rename_i xs h1 h2;cases h;rw [lN];exact o6 (vals:=[nzV v]) (eB hd) ⟨hx▸zS _,trivial⟩ (aI5 x _ xs h1 (lH h2))
  cases h
 cases h
theorem aEm{Ty:List (Nat×TyI)}(hT:TyOK K.P Ty){t:TypeId}{i:TyI}(hi:bM Ty t=some i){u:Nat→Bool}{hs hs':List Hn}{e:Eff}{φ:List Ob}(hu: ∀k,u k=false→s.u k=false)(hd:dOk K.nt d=true)
  (h:aAp d u (cP i.z) hs=some (e,φ,hs')):OpJ K ⟨d,.alloc t,ty,pos,af,g⟩ s (e.app s):=by
 unfold aAp at h;split at h
 ·split at h
  ·rename_i h1 h2;cases h;rw [oO];obtain⟨tu,ht,_⟩:=hT _ _ hi;exact aKa _ (hu _ h1) (eB hd) ht h2
  cases h
 cases h
theorem aD8{Ty:List (Nat×TyI)}(hT:TyOK K.P Ty){C:Cfg}(hC:C.Ty=Ty){t:TypeId}{x y:Operand}{H:Nat→Option E}{a v:V}{hs hs':List Hn}{e:Eff}{φ:List Ob}(hH: ∀k e,H k=some e→s.H k=some e)
  (hx:s.get x=a) (hy:s.get y=v) (h:aA7 C t H a v hs=some (e,φ,hs')) (hφ:Obs φ):OpJ K ⟨none,.store t x y,ty,pos,af,g⟩ s (e.app s):=by
 subst hC;unfold aA7 at h;split at h
 ·cases h
 rename_i i hi;obtain⟨tu,ht,_⟩:=hT _ _ hi;split at h
 ·split at h
  ·rename_i cs hh;split at h
   ·rename_i h1 h2 h3 h4;cases h;exact aJ8 _ _ _ _ cs v hx hy (hH _ _ hh) ht h1 h2 h3 h4
   cases h
  cases h
 ·split at h
  ·rename_i ee gen' sz' rows vs r rows' hs hh hvs;split at h
   ·rename_i h1 h2 h3;cases h;obtain⟨rfl,rfl,hr,rfl,_⟩:=hφ;exact aD0 x y _ _ _ ee rows r vs hx (v:=nzV v) (by rw [hy];exact zS v) (lH hvs) h1 (hH _ _ hh) ht hr (fV h2) (rZ h3)
   cases h
  cases h
 cases h
theorem xE{k off n:Nat}: ∀{hs:List (Nat×Nat×V)},Obs (Y2 k off n hs)→ ∀i' j' v0,(i',j',v0)∈hs→off≤j'→j'<off+n→i'=k
 |h::hs,hφ,i',j',v0,hm,h1,h2=>by
  simp only [Y2] at hφ;rcases qE.1 hm with rfl|hm
  ·have e1:Nat.ble off j'=true:=Nat.ble_eq_true_of_le h1;have e2:Nat.blt j' (off+n)=true:=by simpa [Nat.blt_eq] using h2
   simp only [e1,e2,Bool.and_self,cond_true] at hφ;exact hφ.1
  cases hb:(Nat.ble off h.2.1&&Nat.blt h.2.1 (off+n)) with
  |true=>rw [hb] at hφ;exact xE hφ.2 i' j' v0 hm h1 h2
  |false=>rw [hb] at hφ;exact xE hφ i' j' v0 hm h1 h2
theorem xF{k off n:Nat}: ∀{hs:List (Nat×Nat×V)},Obs (Y3 k off n hs)→ ∀i' j' v0,(i',j',v0)∈hs→off≤j'→j'<off+n→i'≠k
 | [],_,_,_,_,hm,_,_=>by cases hm
 |h::hs,hφ,i',j',v0,hm,h1,h2=>by
  unfold Y3 at hφ;rcases qE.1 hm with rfl|hm
  ·have e1:Nat.ble off j'=true:=Nat.ble_eq_true_of_le h1;have e2:Nat.blt j' (off+n)=true:=by simpa [Nat.blt_eq] using h2
   simp only [e1,e2,Bool.and_self,cond_true] at hφ;exact hφ.1
  cases hb:(Nat.ble off h.2.1&&Nat.blt h.2.1 (off+n)) with
  |true=>rw [hb] at hφ;exact xF hφ.2 i' j' v0 hm h1 h2
  |false=>rw [hb] at hφ;exact xF hφ i' j' v0 hm h1 h2
theorem aCv{C:Cfg}(hT:TyOK K.P C.Ty){t:TypeId}{x y:Operand}{H:Nat→Option E}{a v:V}{hs hs':List Hn}{e:Eff}{φ:List Ob}(hH: ∀k e,H k=some e→s.H k=some e)
  (hx:s.get x=a) (hy:s.get y=v) (h:N5 C t H a v hs=some (e,φ,hs')) (hφ:Obs φ):OpJ K ⟨none,.store t x y,ty,pos,af,g⟩ s (e.app s):=by
 unfold N5 at h;split at h
 ·rename_i i id gen sz k off r hs hi;obtain⟨tu,ht,_⟩:=hT _ _ hi;split at h
  ·rename_i Γ m gen' rows ho hh;split at h
   ·rename_i l hb hf;cases h;simp only [Bool.and_eq_true] at hb;obtain⟨rfl,hz,hr,hq⟩:=hφ;obtain⟨q1,q2⟩:=Obs.app hq;obtain⟨b1,b2⟩:=pO hf q1;refine aA1 x y _ _ _ Γ m rows r v ho hx hy hb.1 hb.2.1 (hH _ _ hh) hz ht (fV hb.2.2.1) (by simpa [Nat.blt_eq] using hb.2.2.2.2) hr (rZ hb.2.2.2.1) (xE q2) fun j hj=>?_;have hj':=dH (show j<(l.map (·.2)).length by simp [b1];exact hj);exact⟨_,b2 j _ hj'⟩
   cases h
  cases h
 ·rename_i i id gen sz k off q n r hs hi;obtain⟨tu,ht,_⟩:=hT _ _ hi;split at h
  ·rename_i Γ m gen' rows ho hh;split at h
   ·rename_i l hb hf;cases h;simp only [Bool.and_eq_true] at hb;obtain⟨rfl,hz,hr,hq⟩:=hφ;obtain⟨q1,q2⟩:=Obs.app hq;obtain⟨q2,q3⟩:=Obs.app q2;obtain⟨q3,q4⟩:=Obs.app q3;obtain⟨b1,b2⟩:=pO hf q1;have hlen:=fV hb.2.2.1;have hsub: ∀x,x∈(ho.drop q.toNat).take n→x∈ho:=fun x hx=>vAB (vAw hx);have hparts: ∀x,x∈ho→x∈ho.take q.toNat∨x∈(ho.drop q.toNat).take n∨x∈(ho.drop q.toNat).drop n:=fun x hx=>by
     rw [←vBF q.toNat ho,B6] at hx;rcases hx with h|h
     ·exact .inl h
     rw [←vBF n (ho.drop q.toNat),B6] at h;exact .inr h
    refine S9 x y _ _ _ Γ m rows r v ho hx hy hb.1 hb.2.1 (hH _ _ hh) hz ht hlen (by simpa [Nat.blt_eq] using hb.2.2.2.2) hr (rZ hb.2.2.2.1) (fun i' j' v' hm=>?_) (fun i' j' v0 hm=>?_) fun j hj=>?_
    ·rcases B6.1 hm with h1|h1
     ·exact⟨v',vAw h1,fun hc=>absurd hc.1 (xF q3 i' j' v' h1 hc.2.1 hc.2.2),fun _=>rfl⟩
     rcases B6.1 h1 with h1|h1
     ·obtain⟨v0,a1,a2,a3⟩:=uG h1;refine⟨v0,hsub _ a1,fun hc=>?_,fun hc=>a3 fun hr2=>hc ⟨xE q2 i' j' v0 a1 hr2.1 (by omega),hr2.1,by omega⟩⟩;have hx2:=dH (show j'-off<v.cs.length by omega);rw [a2 hc.2.1 _ hx2];exact hx2
     exact⟨v',vAB (vAB h1),fun hc=>absurd hc.1 (xF q4 i' j' v' h1 hc.2.1 hc.2.2),fun _=>rfl⟩
    ·rcases hparts _ hm with h1|h1|h1
     ·exact⟨v0,B6.2 (.inl h1)⟩
     ·obtain⟨v1,h2⟩:=xG (off:=off) (vs:=v.cs) h1;exact⟨v1,B6.2 (.inr (B6.2 (.inl h2)))⟩
     exact⟨v0,B6.2 (.inr (B6.2 (.inr h1)))⟩
    have hj':=dH (show j<(l.map (·.2)).length by simp [b1];exact hj);exact⟨_,hsub _ (b2 j _ hj')⟩
   cases h
  cases h
 cases h
theorem OpJ.weakS{K:Ctx}{o:Oper}{s s1 s2:S}(h:OpJ K o s s1)(hw:s1.le K s2):OpJ K o s s2:=
 fun β a w next Q hr hk=>h β a w next Q hr fun β' a' w' hr'=>let ⟨β'',h''⟩:=hw β' a' w' hr';hk β'' a' w' h''
theorem Z9{z:List T}: ∀{l:List (Nat×Nat)} {j m:Nat},L7 z l=true→Z5 l j=some m→z[j]? =some .nilS
 |p::l,j,m,h,hl=>by
  simp only [L7,Bool.and_eq_true] at h;simp only [Z5] at hl;cases hb:Nat.beq p.1 j with
  |true=>
   rw [←fV hb];have h1:=h.1;split at h1
   ·assumption
   cases h1
  |false=>rw [hb] at hl;exact Z9 h.2 hl
theorem aEU{K:Ctx}{s:S}(k:Nat){ty:TypeId}{gen size n:Nat}{z:List T}(Γ:List Nd)(m:Nat)(hk:s.H k=some (.arr ty gen size (List.replicate n z)))(h1:(ndOf Γ m).ty=ty)(h2:(ndOf Γ m).size=size)
  (h3:L7 z (ndOf Γ m).kids=true):s.le K {s with H:=upd s.H k (some (.tree Γ m gen (List.replicate n (z.map nzT)) []))}:=by
 intro β a w h;refine⟨_,h.drop k (.tree Γ m gen (List.replicate n (z.map nzT)) []) (by rw [hk];simp) ?_⟩;have hre:=(h.heap k _ hk).2;subst h1;subst h2;refine⟨hre.1,?_⟩;have hown: ∀b,own K (β.drop k) (upd s.H k (some (.tree Γ m gen (List.replicate n (z.map nzT)) []))) b→own K β s.H b:=by
  rintro b (hx|⟨id,h1,h2⟩)
  ·exact .inl hx
  refine .inr ⟨id,fun e0=>?_,lM h2⟩;by_cases hi:id=k
  ·subst hi;rw [hk] at e0;cases e0
  rw [aH _ _ _ _ hi] at h1;exact h1 e0
 rcases hre.2 with ⟨a1,a2⟩|⟨b,us,a1,a2,a3,a4,a5⟩
 ·have:n=0:=by simpa using a2
  subst this;exact .inl ⟨a1,rfl,fun c hc=>hc.1 rfl⟩
 refine .inr ⟨b,us,fun _ _ _=>False,a1,a2,by simpa using a3,fun row hr=>?_,fun i j row x u b1 b2 b3=>Cell.of ?_,fun _ _ _ h=>h.elim,fun _ _ _ _ _ h=>h.elim,fun c=>⟨fun hc=>absurd rfl hc.1,fun⟨_,_,hc⟩=>hc.elim⟩⟩
 ·obtain⟨hm,rfl⟩:=vBa.1 hr;rw [I2];exact a4 z (vBa.2 ⟨hm,rfl⟩)
 rw [vBg] at b1;split at b1
 ·rename_i him;cases b1;rw [zG] at b2;obtain⟨y,hy,rfl⟩:=Option.map_eq_some_iff.1 b2;have hrt:=(a5 i j z y u (by rw [vBg,if_pos him]) hy b3).mono (Ext.refl _ _) fun b _=>hown b;cases hkd:(ndOf Γ m).kid j with
  |none=>exact .frz _ _ _ hrt.nz (fun _ h=>h)
  |some m2=>
   have:=Z9 h3 hkd;rw [hy] at this;cases this;cases hrt;exact .nil _ _ fun _ h=>h
 cases b1
theorem aGg{C:Cfg}(hT:TyOK K.P C.Ty){t:TypeId}{x y:Operand}{u:Nat→Bool}{v w:V}{hs hs':List Hn}{e:Eff}{φ:List Ob}(hu: ∀k,u k=false→s.u k=false)(hd:dOk K.nt d=true)
  (hx:s.get x=v) (hy:s.get y=w) (h:aEa C d t u v w hs=some (e,φ,hs')) (hφ:Obs φ):OpJ K ⟨d,.makeSlice t x y,ty,pos,af,g⟩ s (e.app s):=by
 unfold aEa at h;split at h
 ·cases h
 rename_i i hi;split at h
 ·rename_i el hul;have ht:K.P.underlying t=some (.slice el):=(hT _ _ hi).und.2.2.2 el hul;split at h
  ·cases h
  rename_i j hj;obtain⟨ju,he,_⟩:=hT _ _ hj;split at h
  ·rename_i n m k R hs z0 hz0;split at h
   ·rename_i h1 h2 h3 h4;cases h;obtain⟨hnm,hmk,hm0,_⟩:=hφ;obtain⟨hn0,hn1,rfl⟩:=jU hmk;have hmn:m=n:=by omega
    subst hmn;simp only [Bool.and_eq_true] at h4;have hbytes:=rZ h4.2;have hmul:m.toNat*j.bytes≤1000000000*200000:=vBG (by omega) hbytes;have hc:=bY hm0;have hj:=aHK (K:=K) (s:=s) (d:=d) (ty:=ty) (pos:=pos) (af:=af) (g:=g) k (hu _ h1) x y el m.toNat z0 (eB hd) ht he (by rw [hx,←hc]) (by rw [hy,←hc]) (lH hz0) h2 h3 h4.1 (by omega) (by omega);refine hj.weak fun β a w hr=>?_;have hk:((s.new k (.arr el 1 j.size (List.replicate m.toNat z0))).put d (.msl k 1 j.size 0 m.toNat)).H k=some (.arr el 1 j.size (List.replicate m.toNat z0)):=by
     cases d<;>exact aI _ _ _
    have hr2:=hr.reE k hk fun X=>aIV;rw [oO,List.length_replicate]
    have: ∀e1 e2:E,({((s.new k e1).put d (.msl k 1 j.size 0 m.toNat)) with H:=upd ((s.new k e1).put d (.msl k 1 j.size 0 m.toNat)).H k (some e2)}:S)=(s.new k e2).put d (.msl k 1 j.size 0 m.toNat):=by
     intro e1 e2;have hu: ∀a b:Option E,upd (upd s.H k a) k b=upd s.H k b:=by
      intro a b;funext i;by_cases hi:i=k
      ·subst hi;rw [aI,aI]
      rw [aH _ _ _ _ hi,aH _ _ _ _ hi,aH _ _ _ _ hi]
     cases d<;>simp only [S.put,S.new,hu]
    rw [this] at hr2;exact hr2
   cases h
  ·rename_i n m k k0 Γ q R hs z0 hz0;split at h
   ·rename_i h1 h2 h3 h4;cases h;obtain⟨hty,hsz,hnm,hmk,hm0,_⟩:=hφ;obtain⟨hn0,hn1,rfl⟩:=jU hmk;have hmn:m=n:=by omega
    subst hmn;simp only [Bool.and_eq_true] at h2 h4;have hbytes:=rZ h4.2;have hmul:m.toNat*j.bytes≤1000000000*200000:=vBG (by omega) hbytes;have hc:=bY hm0;have hj:=aHK (K:=K) (s:=s) (d:=d) (ty:=ty) (pos:=pos) (af:=af) (g:=g) k (hu _ h1) x y el m.toNat z0 (eB hd) ht he (by rw [hx,←hc]) (by rw [hy,←hc]) (lH hz0) h2.1 h3 h4.1 (by omega) (by omega);have hk:((s.new k (.arr el 1 j.size (List.replicate m.toNat z0))).put d (.msl k 1 j.size 0 m.toNat)).H k=some (.arr el 1 j.size (List.replicate m.toNat z0)):=by
     cases d<;>exact aI _ _ _
    have hl:=aEU (K:=K) k Γ q hk hty hsz h2.2;rw [oO,List.length_replicate]
    have: ∀e1 e2:E,({((s.new k e1).put d (.msl k 1 j.size 0 m.toNat)) with H:=upd ((s.new k e1).put d (.msl k 1 j.size 0 m.toNat)).H k (some e2)}:S)=(s.new k e2).put d (.msl k 1 j.size 0 m.toNat):=by
     intro e1 e2;have hu: ∀a b:Option E,upd (upd s.H k a) k b=upd s.H k b:=by
      intro a b;funext i;by_cases hi:i=k
      ·subst hi;rw [aI,aI]
      rw [aH _ _ _ _ hi,aH _ _ _ _ hi,aH _ _ _ _ hi]
     cases d<;>simp only [S.put,S.new,hu]
    rw [this] at hl;exact hj.weakS hl
   cases h
  cases h
 cases h
theorem aCx{C:Cfg}(hT:TyOK K.P C.Ty)(_hn0:C.n0=K.n0){t t':TypeId}{x y:Operand}{H:Nat→Option E}{v w:V}{hs hs':List Hn}{e:Eff}{φ:List Ob}(hH: ∀k e,H k=some e→s.H k=some e)(hd:dOk K.nt d=true)
  (hx:s.get x=v) (hy:s.get y=w) (h:N8 C d t t' H v w hs=some (e,φ,hs')) (hφ:Obs φ):OpJ K ⟨d,.call {callee:= .builtin .append,args:= #[x,y],argTypes:= #[t,t']},ty,pos,af,g⟩ s (e.app s):=by
 unfold N8 at h;split at h
 ·cases h
 rename_i i hi;split at h
 ·rename_i el hul;have ht:K.P.underlying t=some (.slice el):=(hT _ _ hi).und.2.2.2 el hul;split at h
  ·cases h
  rename_i j hj;obtain⟨ju,he,_⟩:=hT _ _ hj;split at h
  ·rename_i k gen size off len news R hs hw;split at h
   ·rename_i e' gen' size' rows hh;split at h
    ·rename_i h1 h2 h4;cases h;obtain⟨rfl,rfl,rfl,rfl,happ,hr1,hr2,_⟩:=hφ;obtain⟨hb,rfl⟩:=qC happ;simp only [Bool.and_eq_true] at h2 h4;have e1:=fV h4.1;have e2:=fV h4.2;have e3:=fV h1;subst e1;subst e2;subst e3;have hmul:(rows.length+news.length)*j.bytes≤1000000000*140000:=vBG hb (rZ h2.2.2);have hj:=aHM (K:=K) (s:=s) (d:=d) (ty:=ty) (pos:=pos) (af:=af) (g:=g) (gen:=gen') (size:=j.size) k x y e' rows news (eB hd) hx (by rw [hy,←hw];exact zS w) (hH _ _ hh) ht he h2.1 h2.2.1 hr1 hr2 (by omega) (by omega);rw [nF]
     have: ∀v e,Eff.app ⟨iN d v,[(k,some e)],[]⟩ s=({s with H:=upd s.H k (some e)}:S).put d v:=by intro v e;cases d<;>rfl
     rw [this];exact hj
    cases h
   cases h
  cases h
 cases h
theorem aBf{C:Cfg}(hT:TyOK K.P C.Ty){t t':TypeId}{x y:Operand}{H:Nat→Option E}{v w:V}{hs hs':List Hn}{e:Eff}{φ:List Ob}(hH: ∀k e,H k=some e→s.H k=some e)(hd:dOk K.nt d=true)
  (hx:s.get x=v) (hy:s.get y=w) (h:A5 C d t t' H v w hs=some (e,φ,hs')) (hφ:Obs φ):OpJ K ⟨d,.call {callee:= .builtin .append,args:= #[x,y],argTypes:= #[t,t']},ty,pos,af,g⟩ s (e.app s):=by
 unfold A5 at h;split at h
 ·cases h
 rename_i i hi;split at h
 ·rename_i el hul;have ht:K.P.underlying t=some (.slice el):=(hT _ _ hi).und.2.2.2 el hul;split at h
  ·cases h
  rename_i j hj;obtain⟨ju,he,_⟩:=hT _ _ hj;split at h
  ·rename_i k gen size off len k3 g3 z3 o3 n3 R hs;split at h
   ·rename_i Γ m gen' rows Γ3 m3 g3' n0 news hs3 hh hh3;split at h
    ·rename_i h1 h2 h4;cases h;obtain⟨rfl,rfl,rfl,rfl,hZ,hY,rfl,rfl,h3,happ,hr1,hr2,_⟩:=hφ;obtain⟨hb,rfl⟩:=qC happ;simp only [Bool.and_eq_true] at h1 h2 h4;have e1:=fV h1.1;have e2:=fV h1.2;have e3:=fV h4.1;subst e1;subst e2;subst e3;have hmul:(rows.length+(n0::news).length)*j.bytes≤1000000000*140000:=vBG hb (rZ h2.2.2);have hj:=aF8 (K:=K) (s:=s) (d:=d) (ty:=ty) (pos:=pos) (af:=af) (g:=g) (gen:=gen') (size:=j.size) k k3 g3' (news.length+1) x y el Γ Γ3 m m3 rows (n0::news) hs3 (eB hd) hx hy (hH _ _ hh) (hH _ _ hh3) h3 rfl ht he h2.1 hZ hY hr1 hr2 (Nat.succ_pos _) h4.2.1 h4.2.2 (by omega) (by omega);rw [nF]
     have: ∀v e,Eff.app ⟨iN d v,[(k,some e)],[]⟩ s=({s with H:=upd s.H k (some e)}:S).put d v:=by intro v e;cases d<;>rfl
     rw [this];exact hj
    cases h
   ·rename_i e' gen' size' rows en hh hh3;split at h
    ·rename_i h1 h2;cases h;obtain⟨rfl,rfl,rfl,rfl,hjs,hl1,hl2,rfl,_⟩:=hφ;simp only [Bool.and_eq_true] at h1 h2;have e1:=fV h1.1;have e2:=fV h1.2;have e4:=fV h2.1;have e5:=fV h2.2.1;have hp:0<j.size:=by simpa [Nat.blt_eq] using h2.2.2
     subst e1;subst e2;subst e4;subst e5;subst hjs;have hj:=aD1 (K:=K) (s:=s) (d:=d) (ty:=ty) (pos:=pos) (af:=af) (g:=g) _ _ _ _ x y _ _ (eB hd) hx hy (hH _ _ hh) ht he hp hl1 hl2
     have: ∀v e,Eff.app ⟨iN d v,[(k3,some e)],[]⟩ s=({s with H:=upd s.H k3 (some e)}:S).put d v:=by intro v e;cases d<;>rfl
     rw [this];exact hj
    cases h
   cases h
  ·rename_i k gen size off len hs;split at h
   ·rename_i e' gen' size' rows hh;split at h
    ·rename_i h1 h2;cases h;obtain⟨rfl,rfl,hjs,_⟩:=hφ;simp only [Bool.and_eq_true] at h1;have e1:=fV h1.1;have e2:=fV h2;have hp:0<j.size:=by simpa [Nat.blt_eq] using h1.2
     subst e1;subst e2;subst hjs;rw [lN];exact aCh (K:=K) (s:=s) (d:=d) (ty:=ty) (pos:=pos) (af:=af) (g:=g) _ _ x y _ _ _ (eB hd) hx (VLe.of_eq hy) (hH _ _ hh) ht he hp
    cases h
   cases h
  cases h
 cases h
theorem aLu{v:V}{x:T}(h:toT v=some x):v= .t x:=by cases v<;>simp [toT] at h;subst h;rfl
theorem B7{d:Nd}: ∀{j:Nat} {vs:List V} {r:List T} {hs:List (Nat×Nat×V)},sD d j vs=some (r,hs)→r.length=vs.length∧
  (∀i b v,(i,b,v)∈hs→i=0∧ ∃k,b=j+k∧vs[k]? =some v)∧(∀(k:Nat) x,r[k]? =some x→(∃v,(0,j+k,v)∈hs)∨(d.kid (j+k)=none∧vs[k]? =some (.t x)))
 |j,[],r,hs,h=>by cases h;exact⟨rfl,fun _ _ _ h=>absurd h List.not_mem_nil,fun k x h=>by simp at h⟩
 |j,v::vs,r,hs,h=>by
  simp only [sD] at h;split at h
  ·cases h
  rename_i r' hs' hr;obtain⟨a1,a2,a3⟩:=B7 hr;have b2: ∀i b v',(i,b,v')∈hs'→i=0∧ ∃k,b=j+k∧(v::vs)[k]? =some v':=fun i b v' hm=>by
   obtain⟨e1,k,e2,e3⟩:=a2 i b v' hm;exact⟨e1,k+1,by omega,by simpa using e3⟩
  split at h
  ·rename_i mm hk;cases ho:v.one with
   |false=>rw [ho] at h;cases h
   |true=>
    rw [ho] at h;cases h;refine⟨by simp [a1],fun i b v' hm=>?_,fun k x hx=>?_⟩
    ·rcases qE.1 hm with e|hm
     ·cases e;exact⟨rfl,0,rfl,rfl⟩
     exact b2 i b v' hm
    cases k with
    |zero=>exact .inl ⟨v,uX⟩
    |succ k=>
     have:=a3 k x (by simpa using hx);rw [show j+1+k=j+(k+1) by omega] at this;rcases this with ⟨v',hv'⟩|⟨h1,h2⟩
     ·exact .inl ⟨v',r9 _ hv'⟩
     exact .inr ⟨h1,by simpa using h2⟩
  rename_i hk;split at h
  ·rename_i x0 hx0;cases h;refine⟨by simp [a1],b2,fun k x hx=>?_⟩;cases k with
   |zero=>simp at hx;subst hx;exact .inr ⟨hk,by simp [aLu hx0]⟩
   |succ k=>
    have:=a3 k x (by simpa using hx);rw [show j+1+k=j+(k+1) by omega] at this;rcases this with h1|⟨h1,h2⟩
    ·exact .inl h1
    exact .inr ⟨h1,by simpa using h2⟩
  cases h
theorem aLE{t:TypeId}{u:TypeDesc}{z:Value}{size bytes:Nat}(k:Nat)(hk:s.u k=false)(ps:Array (Nat×Operand))(e:TypeId)(vals cs:List V)(Γ:List Nd)(m:Nat)(r:List T)(ho:List (Nat×Nat×V))(hd: ∀i,d=some i→Nat.blt i K.nt=true)(hv:VsLe ((ps.toList.map (·.2)).map s.get) vals)
  (hu:K.P.underlying t=some (.slice e)) (he:TI K.P e u z size bytes) (hlen:Nat.beq ps.toList.length vals.length=true) (hp:Nat.blt 0 size=true) (hbig:Nat.ble (1*size) 16777216=true)
  (hf:nN (fun i=>some (i*size,size)) (List.replicate (1*size) .junk) ((ps.toList.map (·.1)).zip vals)=some cs) (hsp:sD (ndOf Γ m) 0 cs=some (r,ho)) (hcl:cs.length=size) (hZ:(ndOf Γ m).size=size) (hY:(ndOf Γ m).ty=e):
  OpJ K ⟨d,.buildSlice t 1 ps,ty,pos,af,g⟩ s ((s.new k (.tree Γ m 1 [r] ho)).put d (.msl k 1 size 0 1)):=by
 have hp':0<size:=by simpa [Nat.blt_eq] using hp
 obtain⟨p1,p2,p3⟩:=B7 hsp;intro β a w next Q hr hkk
 have ha':RVs β w (own K β s.H) vals ((ps.toList.map (·.2)).map a.eval):=(hr.gets _).le hv;have hz2:=mZ a.eval ps.toList;obtain⟨us',h1,h2⟩:=pP (β:=β) (w:=w) (X:=own K β s.H) (fun i=>some (i*size,size)) (ps.toList.map (·.1)) vals _ (List.replicate (1*size) .junk)
  ((Array.range (1*size)).map ((if 1*size=0 then #[] else z.cells)[· %(if 1*size=0 then #[] else z.cells).size]!)) _ (xD _ _ _ _ _ (by simp)) ha' (by simpa using fV hlen) hf
 have hrun:(execOp a.eval ⟨d,.buildSlice t 1 ps,ty,pos,af,g⟩).run K.P w= .ok (.value (.slice (some ⟨w.heap.size,0,none⟩) 1 1)) (w.alloc (.cells us' e)):=by
  have e2:(ps.toList.map fun x=>match x with|(i,x)=>(i,a.eval x))=(ps.toList.map (·.1)).zip ((ps.toList.map (·.2)).map a.eval):=by rw [←hz2]
  have hb: ¬(1*size>2^24):=by have:=rZ hbig;omega
  have h0: ¬1*size=0:=by omega
  simp only [execOp,Instr.buildSlice,Sem.run_bind,run_underlying hu,Result.andThen_ok,he.run_sizeOf,hb,if_false,Array.toList_map];simp only [h0,if_false] at h1;simp only [h0,if_false,Sem.run_pure,Sem.run_bind,he.run_zero,Result.andThen_ok];rw [e2,h1];rfl
 unfold Oper.wp;rw [hrun];have hsize:us'.size=size:=by
  have h:=h2.1;rw [vBe] at h;omega
 have hnew:=hr.new' k 1 hk us' e (.tree Γ m 1 [r] ho) (fun β' X' w' hw hn' hrv hno=>⟨kF _,Or.inr ⟨w.heap.size,us',fun _ _ _=>False,hn',by subst hw;rw [hY];exact bG _ _,by rw [hsize,hZ];simp,fun row hrow=>by rw [List.mem_singleton.1 hrow,p1,hcl,hZ],fun i j row x y a1 a2 a3=>by
  have hi:=(cC.1 a1).1;have hi0:i=0:=by simpa using hi
  subst hi0;simp at a1;subst a1;rw [F7,l4] at a3;refine⟨fun v hv=>⟨?_,fun _ h=>h⟩,fun hn=>?_⟩
  ·obtain⟨_,k',e1,e2⟩:=p2 _ _ _ hv;rw [l4] at e1;subst e1;exact hrv _ _ (h2.2 _ _ y e2 (by simpa using a3))
  rcases p3 j x a2 with ⟨v,hv⟩|⟨e1,e2⟩
  ·rw [l4] at hv;exact absurd hv (hn v)
  rw [l4] at e1;rw [e1];have h6:=hrv _ _ (h2.2 _ _ y e2 (by simpa using a3));cases h6 with|t _ _ h=>exact .frz _ _ _ h fun _ h=>h,fun _ _ _ h=>h.elim,fun _ _ _ _ _ h=>h.elim,fun c=>⟨fun h=>absurd h (hno c),fun⟨_,_,h⟩=>h.elim⟩⟩⟩)
 have hsz2:(w.alloc (.cells us' e)).heap.size=w.heap.size+1:=World.size_alloc ..;have hsh:(w.alloc (.cells us' e)).shape? w.heap.size=some (e,us'.size):=by unfold World.shape?;rw [bG]
 have hvv:RV (β.put k (some (some w.heap.size,1))) (w.alloc (.cells us' e)) (own K (β.put k (some (some w.heap.size,1))) (s.new k (.tree Γ m 1 [r] ho)).H) (.msl k 1 size 0 1)
   (.slice (some ⟨w.heap.size,0*size,none⟩) 1 1):= .msl k 1 size 0 1 1 w.heap.size us'.size e (kF _) (aI _ _ _) (hsz2▸vAV _) hsh (by rw [hsize];omega) (kF _) (by unfold maxLen;omega)
 rw [F7] at hvv;exact hkk _ _ _ (hnew.put d hd hvv)
theorem aFD{i' j:Nat}{v:V}: ∀{vs:List V} {i:Nat},(i',j,v)∈D2 i vs→j=0∧ ∃k,i'=i+k∧vs[k]? =some v
 |x::vs,i,h=>by
  simp only [D2] at h;rcases qE.1 h with h|h
  ·cases h;exact⟨rfl,0,rfl,rfl⟩
  obtain⟨e,k,e1,e2⟩:=aFD h;exact⟨e,k+1,by omega,by simpa using e2⟩
theorem aFC{v:V}: ∀{vs:List V} {i k:Nat},vs[k]? =some v→(i+k,0,v)∈D2 i vs
 |x::vs,i,0,h=>by
  simp at h;subst h;exact uX
 |x::vs,i,k+1,h=>by have:=aFC (i:=i+1) (k:=k) (vs:=vs) (by simpa using h);rw [show i+1+k=i+(k+1) by omega] at this;exact r9 _ this
theorem aLF{t:TypeId}{u:TypeDesc}{z:Value}{size bytes:Nat}(k:Nat)(hk:s.u k=false)(n:Nat)(ps:Array (Nat×Operand))(e:TypeId)(vals cs:List V)(Γ:List Nd)(m:Nat)(hd: ∀i,d=some i→Nat.blt i K.nt=true)(hv:VsLe ((ps.toList.map (·.2)).map s.get) vals)
  (hu:K.P.underlying t=some (.slice e)) (he:TI K.P e u z size bytes) (hlen:Nat.beq ps.toList.length vals.length=true) (hn:Nat.blt 0 n=true) (hs1:size=1) (hbig:Nat.ble (n*size) 16777216=true)
  (hf:nN (fun i=>some (i*size,size)) (List.replicate (n*size) .junk) ((ps.toList.map (·.1)).zip vals)=some cs) (hcl:cs.length=n) (hZ:(ndOf Γ m).size=1) (hY:(ndOf Γ m).ty=e):
  OpJ K ⟨d,.buildSlice t n ps,ty,pos,af,g⟩ s ((s.new k (.tree Γ m 1 (List.replicate n [.sl []]) (D2 0 cs))).put d (.msl k 1 1 0 n)):=by
 subst hs1;have hn':0<n:=by simpa [Nat.blt_eq] using hn
 intro β a w next Q hr hkk
 have ha':RVs β w (own K β s.H) vals ((ps.toList.map (·.2)).map a.eval):=(hr.gets _).le hv;have hz2:=mZ a.eval ps.toList;obtain⟨us',h1,h2⟩:=pP (β:=β) (w:=w) (X:=own K β s.H) (fun i=>some (i*1,1)) (ps.toList.map (·.1)) vals _ (List.replicate (n*1) .junk)
  ((Array.range (n*1)).map ((if n*1=0 then #[] else z.cells)[· %(if n*1=0 then #[] else z.cells).size]!)) _ (xD _ _ _ _ _ (by simp)) ha' (by simpa using fV hlen) hf
 have hb24:=rZ hbig;have hrun:(execOp a.eval ⟨d,.buildSlice t n ps,ty,pos,af,g⟩).run K.P w= .ok (.value (.slice (some ⟨w.heap.size,0,none⟩) n n)) (w.alloc (.cells us' e)):=by
  have e2:(ps.toList.map fun x=>match x with|(i,x)=>(i,a.eval x))=(ps.toList.map (·.1)).zip ((ps.toList.map (·.2)).map a.eval):=by rw [←hz2]
  have hb: ¬(n*1>2^24):=by omega
  have h0: ¬n*1=0:=by omega
  simp only [execOp,Instr.buildSlice,Sem.run_bind,run_underlying hu,Result.andThen_ok,he.run_sizeOf,hb,if_false,Array.toList_map];simp only [h0,if_false] at h1;simp only [h0,if_false,Sem.run_pure,Sem.run_bind,he.run_zero,Result.andThen_ok];rw [e2,h1];rfl
 unfold Oper.wp;rw [hrun];have hsize:us'.size=n:=by
  have h:=h2.1;rw [vBe] at h;omega
 have hnew:=hr.new' k 1 hk us' e (.tree Γ m 1 (List.replicate n [.sl []]) (D2 0 cs)) (fun β' X' w' hw hn' hrv hno=>⟨kF _,Or.inr ⟨w.heap.size,us',fun _ _ _=>False,hn',by subst hw;rw [hY];exact bG _ _,by rw [hsize,hZ];simp,fun row hrow=>by rw [(vBa.1 hrow).2,hZ];rfl,fun i j row x y a1 a2 a3=>by
  have hi:=(cC.1 a1).1;rw [List.length_replicate] at hi;have hrow:row=[.sl []]:=(vBa.1 (dD a1)).2;subst hrow;have hj0:j=0:=by
   have:=(cC.1 a2).1;simpa using this
  subst hj0;rw [hZ,Nat.mul_one,vBp] at a3;refine⟨fun v hv=>⟨?_,fun _ h=>h⟩,fun hn2=>?_⟩
  ·obtain⟨_,k',e1,e2⟩:=aFD hv;rw [l4] at e1;subst e1;exact hrv _ _ (h2.2 _ _ y e2 (by simpa using a3))
  have hc:=dH (show i<cs.length by omega)
  have:=aFC (i:=0) hc;rw [l4] at this;exact absurd this (hn2 _),fun _ _ _ h=>h.elim,fun _ _ _ _ _ h=>h.elim,fun c=>⟨fun h=>absurd h (hno c),fun⟨_,_,h⟩=>h.elim⟩⟩⟩)
 have hsz2:(w.alloc (.cells us' e)).heap.size=w.heap.size+1:=World.size_alloc ..;have hsh:(w.alloc (.cells us' e)).shape? w.heap.size=some (e,us'.size):=by unfold World.shape?;rw [bG]
 have hvv:RV (β.put k (some (some w.heap.size,1))) (w.alloc (.cells us' e)) (own K (β.put k (some (some w.heap.size,1))) (s.new k (.tree Γ m 1 (List.replicate n [.sl []]) (D2 0 cs))).H) (.msl k 1 1 0 n)
   (.slice (some ⟨w.heap.size,0*1,none⟩) n n):= .msl k 1 1 0 n n w.heap.size us'.size e (kF _) (aI _ _ _) (hsz2▸vAV _) hsh (by rw [hsize];omega) (kF _) (by unfold maxLen;omega)
 rw [F7] at hvv;exact hkk _ _ _ (hnew.put d hd hvv)
theorem aM3{t:TypeId}{u:TypeDesc}{z:Value}{size bytes:Nat}(k:Nat)(hk:s.u k=false)(n:Nat)(ps:Array (Nat×Operand))(e:TypeId)(vals:List V)(rows:List (List T))(hd: ∀i,d=some i→Nat.blt i K.nt=true)(hv:VsLe ((ps.toList.map (·.2)).map s.get) vals)
  (hu:K.P.underlying t=some (.slice e)) (he:TI K.P e u z size bytes) (hlen:Nat.beq ps.toList.length vals.length=true)
  (hn:rows.length=n) (hp:Nat.blt 0 size=true) (hsz: ∀row,row∈rows→row.length=size) (hbig:Nat.ble (n*size) 16777216=true)
  (hf:nN (fun i=>some (i*size,size)) (List.replicate (n*size) .junk) ((ps.toList.map (·.1)).zip vals)=some (rows.flatten.map .t)):
  OpJ K ⟨d,.buildSlice t n ps,ty,pos,af,g⟩ s ((s.new k (.arr e 1 size rows)).put d (.msl k 1 size 0 rows.length)):=by
 subst hn;have hp':0<size:=by simpa [Nat.blt_eq] using hp
 intro β a w next Q hr hkk
 have ha':RVs β w (own K β s.H) vals ((ps.toList.map (·.2)).map a.eval):=(hr.gets _).le hv;have hz2:=mZ a.eval ps.toList;obtain⟨us',h1,h2⟩:=pP (β:=β) (w:=w) (X:=own K β s.H) (fun i=>some (i*size,size)) (ps.toList.map (·.1)) vals _ (List.replicate (rows.length*size) .junk)
  ((Array.range (rows.length*size)).map ((if rows.length*size=0 then #[] else z.cells)[· %(if rows.length*size=0 then #[] else z.cells).size]!)) _ (xD _ _ _ _ _ (by simp)) ha' (by simpa using fV hlen) hf
 have hrun:(execOp a.eval ⟨d,.buildSlice t rows.length ps,ty,pos,af,g⟩).run K.P w= .ok (.value (.slice (some ⟨w.heap.size,0,none⟩) rows.length rows.length)) (w.alloc (.cells us' e)):=by
  have e2:(ps.toList.map fun x=>match x with|(i,x)=>(i,a.eval x))=(ps.toList.map (·.1)).zip ((ps.toList.map (·.2)).map a.eval):=by rw [←hz2]
  have hb: ¬(rows.length*size>2^24):=by have:=rZ hbig;omega
  simp only [execOp,Instr.buildSlice,Sem.run_bind,run_underlying hu,Result.andThen_ok,he.run_sizeOf,hb,if_false,Array.toList_map];by_cases h0:rows.length*size=0
  ·simp only [h0,if_true] at h1;simp only [h0,if_true,Sem.run_pure,Sem.run_bind,Result.andThen_ok];rw [e2,h1];rfl
  simp only [h0,if_false] at h1;simp only [h0,if_false,Sem.run_pure,Sem.run_bind,he.run_zero,Result.andThen_ok];rw [e2,h1];rfl
 unfold Oper.wp;rw [hrun];have hsize:us'.size=rows.flatten.length:=by
  have h:=h2.1;rw [I2,vBe] at h;exact h
 have hfl:rows.flatten.length=rows.length*size:=by
  rw [List.length_flatten]
  have:rows.map List.length=List.replicate rows.length size:=List.eq_replicate_iff.2 ⟨by simp,fun b hb=>by obtain⟨r,hr,rfl⟩:=vAT.1 hb;exact hsz r hr⟩;rw [this];simp
 have hget: ∀(rows:List (List T)),(∀row,row∈rows→row.length=size)→ ∀(i j:Nat) (row:List T) (x:T),rows[i]? =some row→row[j]? =some x→rows.flatten[i*size+j]? =some x:=by
  intro rows;induction rows with
  |nil=>intro _ i j row x h _;simp at h
  |cons r rows ih=>
   intro hs i j row x h1 h2;have hr:=hs r (by simp);rw [List.flatten_cons];cases i with
   |zero=>
    simp at h1;subst h1
    have:=(cC.1 h2).1;rw [F7,l4,I0 this];exact h2
   |succ i=>
    simp at h1;rw [I1 (by rw [hr,jJ];omega)];rw [show(i+1)*size+j-r.length=i*size+j by rw [hr,jJ];omega];exact ih (fun row h=>hs row (by simp [h])) i j row x h1 h2
 have hnew:=hr.new k 1 hk us' e (.arr e 1 size rows) (fun β' X' w' hw hn' hrv=>⟨kF _,Or.inr ⟨w.heap.size,us',hn',by subst hw;exact bG _ _,by rw [hsize,hfl];exact kF _,hsz,fun i j row x y a1 a2 a3=>by
  have h5:=hget rows hsz i j row x a1 a2;have h6:=h2.2 (i*size+j) (.t x) y (by rw [zG,h5];rfl) (by simpa using a3);have h7:=hrv _ _ h6;cases h7 with|t _ _ h=>exact h⟩⟩)
 have hsz2:(w.alloc (.cells us' e)).heap.size=w.heap.size+1:=World.size_alloc ..;have hsh:(w.alloc (.cells us' e)).shape? w.heap.size=some (e,us'.size):=by unfold World.shape?;rw [bG]
 have hvv:RV (β.put k (some (some w.heap.size,1))) (w.alloc (.cells us' e)) (own K (β.put k (some (some w.heap.size,1))) (s.new k (.arr e 1 size rows)).H) (.msl k 1 size 0 rows.length)
   (.slice (some ⟨w.heap.size,0*size,none⟩) rows.length rows.length):= .msl k 1 size 0 rows.length rows.length w.heap.size us'.size e (kF _) (aI _ _ _) (hsz2▸vAV _) hsh (by rw [hsize,hfl];simp) (kF _)
    (by
     have hb:=rZ hbig;unfold maxLen
     have:rows.length*1≤rows.length*size:=Nat.mul_le_mul_left _ (by omega);omega)
 rw [F7] at hvv;exact hkk _ _ _ (hnew.put d hd hvv)
theorem aId{C:Cfg}(hT:TyOK K.P C.Ty){t:TypeId}{n:Nat}{ps:Array (Nat×Operand)}{u:Nat→Bool}{vals:List V}{hs hs':List Hn}{e:Eff}{φ:List Ob}(hu: ∀k,u k=false→s.u k=false)(hd:dOk K.nt d=true)
  (hv:vals=(ps.toList.map (·.2)).map s.get) (h:aIe C d t n (ps.toList.map (·.1)) u vals hs=some (e,φ,hs')) (hφ:Obs φ):OpJ K ⟨d,.buildSlice t n ps,ty,pos,af,g⟩ s (e.app s):=by
 unfold aIe at h;split at h
 ·cases h
 rename_i i hi;split at h
 ·rename_i el hul;have ht:K.P.underlying t=some (.slice el):=(hT _ _ hi).und.2.2.2 el hul;split at h
  ·cases h
  rename_i j hj;obtain⟨ju,he,_⟩:=hT _ _ hj;split at h
  ·rename_i k hs his;split at h
   ·rename_i h1;cases h
    have:ps= #[]:=by
     have:ps.toList=[]:=by simpa using his
     simpa using this
    subst this;rw [oO];exact aHL k (hu _ h1) el (eB hd) ht he
   cases h
  ·split at h
   ·cases h
   rename_i cs hcs;split at h
   ·cases h
   rename_i xs hxs;split at h
   ·rename_i h0 h1 h2 h3 h4;cases h;have hlen:=fV h1;obtain⟨c1,c2,c3⟩:=xX j.size _ xs hlen;rw [oO];refine aM3 _ (hu _ h0) _ ps el (G6 vals) _ (eB hd) (by rw [hv];exact kW _) ht he (by rw [iZ];simpa using h2) c1 h4 c2 h3 (by rw [hcs,c3,lH hxs])
   cases h
  ·split at h
   ·cases h
   rename_i cs hcs;split at h
   ·cases h
   rename_i xs hxs;split at h
   ·rename_i h1 h2 h3;cases h;have hlen:=fV h1;obtain⟨c1,c2,c3⟩:=xX j.size _ xs hlen;rw [lN];rw [←hφ.1];refine o6 (vals:=G6 vals) (eB hd) ?_ (uW _ ps el (G6 vals) _ ht he ?_ (by simp [c1]) c2 h3 (by rw [hcs,c3,lH hxs]))
    ·rw [hv];simp only [Op.operands];exact kW _
    rw [iZ];simpa using h2
   cases h
  ·split at h
   ·cases h
   rename_i cs hcs;split at h
   ·cases h
   rename_i xs hxs;split at h
   ·rename_i h1 h2 h3;cases h;have hlen:=fV h1;obtain⟨c1,c2,c3⟩:=xX j.size _ xs hlen;rw [lN];refine o6 (vals:=G6 vals) (eB hd) ?_ (uW _ ps el (G6 vals) _ ht he ?_ (by simp [c1]) c2 h3 (by rw [hcs,c3,lH hxs]))
    ·rw [hv];simp only [Op.operands];exact kW _
    rw [iZ];simpa using h2
   cases h
  cases h
 cases h
theorem aGh{C:Cfg}(hT:TyOK K.P C.Ty){t:TypeId}{n:Nat}{ps:Array (Nat×Operand)}{u:Nat→Bool}{vals:List V}{hs hs':List Hn}{e:Eff}{φ:List Ob}(hu: ∀k,u k=false→s.u k=false)(hd:dOk K.nt d=true)
  (hv:vals=(ps.toList.map (·.2)).map s.get) (h:aEc C d t n (ps.toList.map (·.1)) u vals hs=some (e,φ,hs')):OpJ K ⟨d,.buildSlice t n ps,ty,pos,af,g⟩ s (e.app s):=by
 unfold aEc at h;split at h
 ·cases h
 rename_i i hi;split at h
 ·rename_i el hul;have ht:K.P.underlying t=some (.slice el):=(hT _ _ hi).und.2.2.2 el hul;split at h
  ·cases h
  rename_i j hj;obtain⟨ju,he,_⟩:=hT _ _ hj;split at h
  ·rename_i k Γ m hs;split at h
   ·cases h
   rename_i cs hcs;split at h
   ·cases h
   rename_i r ho hsp;split at h
   ·rename_i h0 h1 h2 h3 h4;cases h;simp only [Bool.and_eq_true] at h1 h2;rw [oO];exact aLE k (hu _ h0) ps el (aF3 ((ndOf Γ m).kid 0) vals) cs Γ m r ho (eB hd) (by rw [hv];exact aJY _ _) ht he (by rw [aCe];simpa using h2.1) h4 h3 hcs hsp (fV h1.1) (fV h1.2) (fV h2.2)
   cases h
  ·rename_i k Γ m hs _;split at h
   ·cases h
   rename_i cs hcs;split at h
   ·rename_i h0 h1 h2 h3 h4;cases h;simp only [Bool.and_eq_true] at h1 h2;have e1:=fV h1.1;rw [oO];exact aLF k (hu _ h0) _ ps el (G6 vals) cs Γ m (eB hd) (by rw [hv];exact kW _) ht he (by rw [iZ];simpa using h2.1) h4 e1 h3 hcs (fV h1.2.1) (fV h2.2.2) (fV h2.2.1)
   cases h
  cases h
 cases h
theorem aGl{C:Cfg}(hP:C.P=K.P)(hG:C.G=K.G){c:Operand}{xs:Array Operand}{tys:Array TypeId}{vals:List V}{hs hs':List Hn}{e:Eff}{φ:List Ob}(hd:dOk K.nt d=true)
  (hv:vals=s.get c::xs.toList.map s.get) (h:aEj C d vals hs=some (e,φ,hs')) (hφ:Obs φ):OpJ K ⟨d,.call {callee:= .value c,args:=xs,argTypes:=tys},ty,pos,af,g⟩ s (e.app s):=by
 unfold aEj at h;split at h
 ·rename_i f caps args;split at h
  ·split at h
   ·rename_i hok;cases h;rw [lN];obtain⟨⟨h1,h2⟩,_⟩:=hφ;rw [hP] at h1 h2;rw [hG] at h2;simp only [List.cons.injEq] at hv;exact aFr caps _ _ h1 hv.1.symm (eB hd) (by rw [←hv.2];exact kW _) hok h2
   cases h
  ·cases h;rw [lN];obtain⟨hok,⟨h1,h2⟩,_⟩:=hφ;rw [hP] at h1 h2;rw [hG] at h2;simp only [List.cons.injEq] at hv;exact aFr caps _ _ h1 hv.1.symm (eB hd) (by rw [←hv.2];exact kW _) hok h2
  cases h
 cases h
mutual
theorem aCq{β β':Map}{w w':World}{X X':Nat→Prop}: ∀{v:V} {u:Value},N1 v=true→RV β w X v u→RV β' w' X' v u
 | .t (.int _ _),u,_,h=>by rw [aW h];exact .t _ _ (.int _ _)
 | .t (.bool _),u,_,h=>by rw [gT h];exact .t _ _ (.bool _)
 | .t (.str _),u,_,h=>by rw [cV h];exact .t _ _ (.str _)
 | .agg cs,u,hf,h=>by
  simp only [N1] at hf;cases h with|agg _ us hl h=>exact .agg _ us hl (fun i c u hc hu=>z8 hf i c u hc (h i c u hc hu))
 | .tup cs,u,hf,h=>by
  simp only [N1] at hf;cases h with|tup _ us hl h=>exact .tup _ us hl (fun i c u hc hu=>z8 hf i c u hc (h i c u hc hu))
 | .t (.sl _),_,hf,_| .t .nilS,_,hf,_| .t .nilP,_,hf,_| .t .nilI,_,hf,_| .t .nilF,_,hf,_| .t .err,_,hf,_=>by simp [N1] at hf
 | .ref _ _,_,hf,_| .tp _,_,hf,_| .msl _ _ _ _ _,_,hf,_| .eref _ _ _ _ _,_,hf,_| .fn _ _,_,hf,_| .junk,_,hf,_=>by simp [N1] at hf
theorem z8{β β':Map}{w w':World}{X X':Nat→Prop}: ∀{cs:List V},aAm cs=true→ ∀(i:Nat) c u,cs[i]? =some c→RV β w X c u→RV β' w' X' c u
 | [],_,_,_,_,h,_=>by simp at h
 |c::cs,hf,0,c',u,hc,h=>by
  simp only [aAm,Bool.and_eq_true] at hf;simp at hc;subst hc;exact aCq hf.1 h
 |c::cs,hf,i+1,c',u,hc,h=>by simp only [aAm,Bool.and_eq_true] at hf;exact z8 hf.2 i c' u (by simpa using hc) h
end
theorem RE.read{β:Map}{w:World}{X X1:Nat→Prop}{k:Nat}{ty:TypeId}{gen size:Nat}{rows:List (List T)}{u:Value}(h:RE β w X k (.arr ty gen size rows))(hv:RV β w X (.msl k gen size 0 rows.length) u)
  (hX: ∀b,X1 b→X b) (hn: ∀b,At β k b→ ¬X1 b):RT w X1 (.sl rows) u:=by
 obtain⟨q,hq⟩:=gG h;rcases bP hv hq with ⟨cap,b,n,ty',rfl,hb0,hw,hs,hn',hl,hm⟩|⟨hb0,_,h0,rfl⟩
 ·subst hb0;rcases h.2 with ⟨h1,h2⟩|⟨b',us,h1,h2,h3,h4,h5⟩
  ·rw [hq] at h1;cases h1
  rw [hq] at h1;cases h1;rw [F7];refine .sl rows b 0 size cap (fun i j=>us.getD (i*size+j) undef) hw (hn b (.inl ⟨_,hq⟩)) hl h4 (fun i j hi hj=>?_) fun i j row x a1 a2=>?_
  ·have hlt:i*size+j<us.size:=by
    have:(i+1)*size≤rows.length*size:=jL _ hi;rw [jJ] at this;omega
   rw [l4];simp [World.cell?,h2,hlt]
  have hi:=(cC.1 a1).1;have hj:j<size:=by rw [←h4 row (dD a1)];exact(cC.1 a2).1
  have hlt:i*size+j<us.size:=by
   have:(i+1)*size≤rows.length*size:=jL _ hi;rw [jJ] at this;omega
  have:=h5 i j row x us[i*size+j] a1 a2 (by simp [hlt]);have e:us.getD (i*size+j) undef=us[i*size+j]:=by simp [hlt]
  rw [e];exact this.mono (Ext.refl _ _) fun b _=>hX b
 have:rows=[]:=List.length_eq_zero_iff.1 h0;subst this;exact .sl0 _ _
theorem RE.readT{β:Map}{w:World}{X X1:Nat→Prop}{k:Nat}{Γ:List Nd}{m gen:Nat}{rows:List (List T)}{u:Value}(h:RE β w X k (.tree Γ m gen rows []))(hv:RV β w X (.msl k gen (ndOf Γ m).size 0 rows.length) u)
  (hX: ∀b,X1 b→X b) (hn: ∀b,At β k b→ ¬X1 b):RT w X1 (.sl rows) u:=by
 obtain⟨q,hq⟩:=w3 h;rcases bP hv hq with ⟨cap,b,n,ty',rfl,hb0,hw,hs,hn',hl,hm⟩|⟨hb0,_,h0,rfl⟩
 ·subst hb0;rcases h.2 with ⟨h1,h2⟩|⟨b',us,B,h1,h2,h3,h4,h5,_,_,h8⟩
  ·rw [hq] at h1;cases h1
  rw [hq] at h1;cases h1;rw [F7];have hlt: ∀i j,i<rows.length→j<(ndOf Γ m).size→i*(ndOf Γ m).size+j<us.size:=fun i j hi hj=>by
   have:(i+1)*(ndOf Γ m).size≤rows.length*(ndOf Γ m).size:=jL _ hi;rw [jJ] at this;omega
  refine .sl rows b 0 (ndOf Γ m).size cap (fun i j=>us.getD (i*(ndOf Γ m).size+j) undef) hw (hn b (.inl ⟨_,hq⟩)) hl h4 (fun i j hi hj=>?_) fun i j row x a1 a2=>?_
  ·have:=hlt i j hi hj;rw [l4];simp [World.cell?,h2,this]
  have hi:=(cC.1 a1).1;have hj:j<(ndOf Γ m).size:=by rw [←h4 row (dD a1)];exact(cC.1 a2).1
  have hl2:=hlt i j hi hj
  have:=(h5 i j row x us[i*(ndOf Γ m).size+j] a1 a2 (by simp [hl2])).none;have e:us.getD (i*(ndOf Γ m).size+j) undef=us[i*(ndOf Γ m).size+j]:=by simp [hl2]
  rw [e];exact this.shed hX fun c hc=>hn c (.inr ((h8 c).2 ⟨i,j,hc⟩))
 have:rows=[]:=List.length_eq_zero_iff.1 h0;subst this;exact .sl0 _ _
def zU:V→List Nat
 | .msl k _ _ _ _=>[k]
 |_=>[]
mutual
def tQ(H:Nat→Option E):V→List Nat
 | .msl k _ _ _ _=>[k]
 | .ref id _=>id::(match H id with
  |some (.cells cs)=>cs.flatMap zU
  |_=>[])
 | .agg cs=>rK H cs
 | .tup cs=>rK H cs
 | .fn _ cs=>rK H cs
 | .t _| .tp _| .eref _ _ _ _ _| .junk=>[]
def rK(H:Nat→Option E):List V→List Nat
 | []=>[]
 |v::vs=>tQ H v++rK H vs
end
section
variable {β:Map} {w:World} {X X1:Nat→Prop} {H:Nat→Option E}
theorem aFG{v:V}{x:T}{φ:List Ob}{u:Value}(hE: ∀k e,H k=some e→RE β w X k e)(hX: ∀b,X1 b→X b)(hn: ∀k,k∈zU v→ ∀b,At β k b→ ¬X1 b)
  (h:aIM H v=some (x,φ)) (hφ:Obs φ) (hv:RV β w X v u):RT w X1 x u:=by
 cases v with
 |msl k gen size off len=>
  simp only [aIM] at h;split at h
  ·rename_i ty gen' size' rows hk;cases h;obtain⟨rfl,rfl,rfl,rfl,_⟩:=hφ;exact(hE k _ hk).read hv hX (hn k (by simp [zU]))
  ·rename_i Γ m gen' rows hk;cases h;obtain⟨rfl,rfl,rfl,rfl,_⟩:=hφ;exact(hE k _ hk).readT hv hX (hn k (by simp [zU]))
  cases h
 |t y=>
  simp only [aIM] at h;cases h;cases hv with|t _ _ h=>exact(h.mono (Ext.refl _ _) fun b _=>hX b).nz
 |agg=>cases h
 |tup=>cases h
 |ref=>cases h
 |tp=>cases h
 |eref=>cases h
 |fn=>cases h
 |junk=>cases h
theorem aC6(hE: ∀k e,H k=some e→RE β w X k e)(hX: ∀b,X1 b→X b): ∀{vs:List V} {ts:List T} {φ:List Ob},(∀k,k∈vs.flatMap zU→ ∀b,At β k b→ ¬X1 b)→aFF H vs=some (ts,φ)→Obs φ→
  ts.length=vs.length∧ ∀(U:Nat→Option Value),(∀(i:Nat) c u,vs[i]? =some c→U i=some u→RV β w X c u)→ ∀(i:Nat) x u,ts[i]? =some x→U i=some u→RT w X1 x u
 | [],_,_,_,h,_=>by cases h;exact⟨rfl,fun _ _ i x u hx=>by simp at hx⟩
 |v::vs,ts,φ,hn,h,hφ=>by
  simp only [aFF] at h;split at h
  ·rename_i x φ1 xs φ2 h1 h2;cases h;obtain⟨p1,p2⟩:=Obs.app hφ;obtain⟨q1,q2⟩:=aC6 hE hX (fun k hk=>hn k (by rw [List.flatMap_cons];exact vAX _ hk)) h2 p2;refine⟨by simp [q1],fun U hU i y u hy hu=>?_⟩;cases i with
   |zero=>
    simp at hy;subst hy;exact aFG hE hX (fun k hk=>hn k (by rw [List.flatMap_cons];exact vAR _ hk)) h1 p1 (hU 0 v u rfl hu)
   |succ i=>
    exact q2 (fun j=>U (j+1)) (fun j c u hc hu=>hU (j+1) c u (by simpa using hc) hu) i y u (by simpa using hy) hu
  cases h
mutual
theorem aKp(hE: ∀k e,H k=some e→RE β w X k e)(hX: ∀b,X1 b→X b): ∀(v:V) {v':V} {φ:List Ob} {u:Value},(∀k,k∈tQ H v→ ∀b,At β k b→ ¬X1 b)→
  R2 H v=some (v',φ)→Obs φ→RV β w X v u→RV d8 w X1 v' u
 | .msl k gen size off len,v',φ,u,hn,h,hφ,hv=>by
  simp only [R2] at h;split at h
  ·rename_i x φ1 h1;cases h;exact .t _ _ (aFG hE hX (fun j hj=>hn j (by simpa [tQ,zU] using hj)) h1 hφ hv)
  cases h
 | .t x,v',φ,u,hn,h,hφ,hv=>by
  simp only [R2] at h;cases h;cases hv with|t _ _ h=>exact .t _ _ (h.mono (Ext.refl _ _) fun b _=>hX b).nz
 | .tp cs,v',φ,u,hn,h,hφ,hv=>by
  simp only [R2] at h;cases h;exact hv.under (u:=gI) hX (fun _ h=>by simp [gI] at h) rfl
 | .ref id off,v',φ,u,hn,h,hφ,hv=>by
  simp only [R2] at h;split at h
  ·rename_i cs hc;split at h
   ·rename_i ts φ1 h1;cases h;obtain⟨b,hb,rfl⟩:=qY hv;obtain⟨b',us,ty,e1,e2,e3,e4⟩:=hE id _ hc;rw [hb] at e1;cases e1;obtain⟨q1,q2⟩:=aC6 hE hX (fun k hk=>hn k (by simp only [tQ,hc];exact r9 _ hk)) h1 hφ;have hlt:b<w.heap.size:=by
     have:=(vAx.1 e2).1;exact this
    refine .tp (ts.drop off) b off (fun j=>us.getD (off+j) undef) hlt (hn id (by simp [tQ]) b (.inl ⟨_,hb⟩)) (fun j hj=>?_) fun j x hx=>?_
    ·rw [X4] at hj
     have:off+j<us.size:=by omega
     simp [World.cell?,e2,this]
    rw [D9] at hx;have hj:=(cC.1 hx).1
    have:off+j<us.size:=by omega
    have e:us.getD (off+j) undef=us[off+j]:=by simp [this]
    rw [e];exact q2 (fun i=>us[i]?) (fun i c u hc hu=>e4 i c u hc hu) (off+j) x _ hx (by simp [this])
   cases h
  cases h
 | .agg cs,v',φ,u,hn,h,hφ,hv=>by
  simp only [R2] at h;split at h
  ·rename_i xs φ1 h1;cases h;cases hv with|agg _ us hl hp=>
   obtain⟨q1,q2⟩:=yM hE hX cs (fun k hk=>hn k (by simpa [tQ] using hk)) h1 hφ;exact .agg _ us (by omega) fun i c u hc hu=>q2 (fun i=>us[i]?) (fun i c u hc hu=>hp i c u hc hu) i c u hc hu
  cases h
 | .tup cs,v',φ,u,hn,h,hφ,hv=>by
  simp only [R2] at h;split at h
  ·rename_i xs φ1 h1;cases h;cases hv with|tup _ us hl hp=>
   obtain⟨q1,q2⟩:=yM hE hX cs (fun k hk=>hn k (by simpa [tQ] using hk)) h1 hφ;exact .tup _ us (by omega) fun i c u hc hu=>q2 (fun i=>us[i]?) (fun i c u hc hu=>hp i c u hc hu) i c u hc hu
  cases h
 | .fn f cs,v',φ,u,hn,h,hφ,hv=>by
  simp only [R2] at h;split at h
  ·rename_i xs φ1 h1;cases h;cases hv with|fn _ _ us hl hp=>
   obtain⟨q1,q2⟩:=yM hE hX cs (fun k hk=>hn k (by simpa [tQ] using hk)) h1 hφ;exact .fn _ _ us (by omega) fun i c u hc hu=>q2 (fun i=>us[i]?) (fun i c u hc hu=>hp i c u hc hu) i c u hc hu
  cases h
 | .eref _ _ _ _ _,_,_,_,_,h,_,_=>by simp only [R2] at h;cases h
 | .junk,_,_,_,_,h,_,_=>by simp only [R2] at h;cases h
theorem yM(hE: ∀k e,H k=some e→RE β w X k e)(hX: ∀b,X1 b→X b): ∀(vs:List V) {vs':List V} {φ:List Ob},(∀k,k∈rK H vs→ ∀b,At β k b→ ¬X1 b)→
  aBu H vs=some (vs',φ)→Obs φ→vs'.length=vs.length∧ ∀(U:Nat→Option Value),(∀(i:Nat) c u,vs[i]? =some c→U i=some u→RV β w X c u)→ ∀(i:Nat) x u,vs'[i]? =some x→U i=some u→RV d8 w X1 x u
 | [],_,_,_,h,_=>by simp only [aBu] at h;cases h;exact⟨rfl,fun _ _ i x u hx=>by simp at hx⟩
 |v::vs,vs',φ,hn,h,hφ=>by
  simp only [aBu] at h;split at h
  ·rename_i x φ1 xs φ2 h1 h2;cases h;obtain⟨p1,p2⟩:=Obs.app hφ;obtain⟨q1,q2⟩:=yM hE hX vs (fun k hk=>hn k (by simp only [rK];exact vAX _ hk)) h2 p2;refine⟨by simp [q1],fun U hU i y u hy hu=>?_⟩;cases i with
   |zero=>
    simp at hy;subst hy;exact aKp hE hX v (fun k hk=>hn k (by simp only [rK];exact vAR _ hk)) h1 p1 (hU 0 v u rfl hu)
   |succ i=>
    exact q2 (fun j=>U (j+1)) (fun j c u hc hu=>hU (j+1) c u (by simpa using hc) hu) i y u (by simpa using hy) hu
  cases h
end
theorem aKq(hE: ∀k e,H k=some e→RE β w X k e)(hX: ∀b,X1 b→X b): ∀{vs vs':List V} {φ:List Ob} {us:List Value},(∀k,k∈rK H vs→ ∀b,At β k b→ ¬X1 b)→
  aBu H vs=some (vs',φ)→Obs φ→RVs β w X vs us→RVs d8 w X1 vs' us:=fun {vs vs' φ us} hn h hφ hv=>by obtain⟨q1,q2⟩:=yM hE hX vs hn h hφ;exact wP (by rw [q1];exact hv.pts.1) fun i c u hc hu=>q2 (fun i=>us[i]?) (fun i c u hc hu=>hv.pts.2 i c u hc hu) i c u hc hu
end
theorem aIu{C:Cfg}(hP:C.P=K.P)(hG:C.G=K.G){c:Operand}{xs:Array Operand}{tys:Array TypeId}{vals:List V}{H:Nat→Option E}{hs hs':List Hn}{e:Eff}{φ:List Ob}(hd:dOk K.nt d=true)(hH: ∀k e,H k=some e→s.H k=some e)
  (hv:vals=s.get c::xs.toList.map s.get) (h:aIv C d H vals hs=some (e,φ,hs')) (hφ:Obs φ):OpJ K ⟨d,.call {callee:= .value c,args:=xs,argTypes:=tys},ty,pos,af,g⟩ s (e.app s):=by
 unfold aIv at h;split at h
 ·rename_i f caps args;split at h
  ·rename_i r hs;split at h
   ·rename_i ys φ1 hb hfl;cases h;rw [lN];obtain⟨p1,⟨hcb,hpc⟩,_⟩:=Obs.app hφ;rw [hP] at hcb hpc;rw [hG] at hpc;simp only [List.cons.injEq] at hv;obtain⟨fn,h1,h2,h3⟩:=hcb;intro β a w next Q hr hk
    have hn':fn.name≠ "runtime.NumGoroutine" :=by simpa using h2
    have hb':fn.body≠none:=by intro e;simp [e] at h3
    obtain⟨us,hce,hus⟩:=(hv.1.symm▸hr.get c).fn_inv;have hrun:(execOp a.eval ⟨d,.call {callee:= .value c,args:=xs,argTypes:=tys},ty,pos,af,g⟩).run K.P w= .ok (.enter f (xs.map a.eval++us)) w:=by
     simp [execOp,resolve,Deferred.ofValue,hce,invoke,callFunc,h1,hn',hb']
    unfold Oper.wp;rw [hrun,Oper.upon_enter];have hall:RVs β w (own K β s.H) (args++caps) (xs.toList.map a.eval++us.toList):=by rw [hv.2];exact(hr.gets xs.toList).app hus
    let X1:Nat→Prop:=fun b=>own K β s.H b∧ ∀k,k∈rK H (args++caps)→ ¬At β k b;have hargs:=aKq (X1:=X1) (fun k e he=>(hr.heap k e (hH k e he)).2) (fun b hb=>hb.1) (fun k hk b hb hx=>hx.2 k hk hb) hb p1 hall;have hc2:=hpc w X1 _ hr.glob (fun b hb=>hr.ownLt b hb.1) hargs;have he:(List.map a.eval xs.toList++us.toList).toArray=xs.map a.eval++us:=by rw [←Array.toList_map,←Array.toList_append]
    rw [he] at hc2;refine hc2.mono ?_;rintro e w' ⟨u,rfl,hext,hu⟩;exact hk β _ w' ((hr.grow hext).put d (eB hd) (aCq hfl hu))
   cases h
  cases h
 cases h
theorem aKh{C:Cfg}(hP:C.P=K.P)(hG:C.G=K.G){c:Operand}{xs:Array Operand}{tys:Array TypeId}{vals:List V}{H:Nat→Option E}{u:Nat→Bool}{hs hs':List Hn}{e:Eff}{φ:List Ob}(hd:dOk K.nt d=true)
  (hH: ∀k e,H k=some e→s.H k=some e) (hu: ∀k,u k=false→s.u k=false)
  (hv:vals=s.get c::xs.toList.map s.get) (h:aLU C d vals H u hs=some (e,φ,hs')) (hφ:Obs φ):OpJ K ⟨d,.call {callee:= .value c,args:=xs,argTypes:=tys},ty,pos,af,g⟩ s (e.app s):=by
 unfold aLU at h;split at h
 ·rename_i f caps args;split at h
  ·rename_i L news r out hs;split at h
   ·rename_i args' inn ha hi hchk;cases h;simp only [List.cons.injEq] at hv;simp only [Bool.and_eq_true] at hchk;obtain⟨⟨hnd,hnew⟩,hlen⟩:=hchk;have hlen:=fV hlen;obtain⟨⟨hf,hvc⟩,_⟩:=hφ;rw [hP] at hf hvc;rw [hG] at hvc;obtain⟨a1,a2⟩:=I4 _ _ ha;obtain⟨i1,i2⟩:=xM _ _ hi;have hx:=aGA (K:=K) (s:=s) (o:=⟨d,.call {callee:= .value c,args:=xs,argTypes:=tys},ty,pos,af,g⟩) c L news caps rfl hv.1.symm hf (eB hd) (by rw [←hv.2,a1];exact kW _) a2 i1
     (fun k e he=>by
      obtain⟨id,h1,h2,h4⟩:=i2 k e he;exact⟨id,h1,hH _ _ h2,h4⟩)
     (uK hnd) (fun id hid=>hu _ (D5 hnew id hid)) (fun _=>hlen) hvc
    have hj:=hx.j;have he:Eff.app ⟨iN d (r.ren (L++news)),(L++news).zip (out.map fun e=>some (e.ren (L++news))),(L++news).map fun k=>(k,true)⟩ s=(s.after (L++news) out).put d (r.ren (L++news)):=by
     have e1:cF s.H ((L++news).zip (out.map fun e=>some (e.ren (L++news))))=jQ s.H (L++news) (fun k=>(out[k]?).map (E.ren (L++news))):=by
      have:=H3 (L++news) (uK hnd) s.H (out.map fun e=>some (e.ren (L++news))) (fun k=>(out[k]?).map (E.ren (L++news))) (by simpa using hlen) (fun k e he=>by
       rw [zG] at he;cases ho:out[k]? with
       |none=>rw [ho] at he;cases he
       |some y=>rw [ho] at he;simp at he;rw [←he];rfl)
      exact this
     have e2:cF s.u ((L++news).map fun k=>(k,true))=jQ s.u (L++news) (fun _=>true):=by
      funext id;by_cases hm:id∈L++news
      ·obtain⟨k,hk⟩:=vAG.1 hm;rw [gB (uK hnd) hk];exact I3 hm
      rw [d7 hm,fW _ _ _ fun v hv=>hm (by obtain⟨y,hy,e⟩:=vAT.1 hv;cases e;exact hy)]
     unfold Eff.app S.after;cases d<;>simp only [iN,cF,S.put,e1,e2]
    rw [he];exact hj
   cases h
  cases h
 cases h
theorem aEi{C:Cfg}(hT:TyOK K.P C.Ty){t:TypeId}{x:Operand}{H:Nat→Option E}{v:V}{hs hs':List Hn}{e:Eff}{φ:List Ob}(hH: ∀k e,H k=some e→s.H k=some e)
  (hx:s.get x=v) (h:aBc C t H v hs=some (e,φ,hs')) (hφ:Obs φ):OpJ K ⟨none,.call {callee:= .builtin .clear,args:= #[x],argTypes:= #[t]},ty,pos,af,g⟩ s (e.app s):=by
 unfold aBc at h;split at h
 ·cases h
 rename_i i hi;split at h
 ·rename_i el hul;have ht:K.P.underlying t=some (.slice el):=(hT _ _ hi).und.2.2.2 el hul;split at h
  ·cases h
  rename_i j hj;obtain⟨ju,he,_⟩:=hT _ _ hj;split at h
  ·rename_i hz0;split at h
   ·rename_i hk hv;cases h;obtain⟨rfl,rfl,hzl,⟨hl,rfl⟩,_⟩:=hφ;exact aJ9 x _ _ _ el _ _ _ hx (hH _ _ hk) ht he hv hz0 hzl hl
   cases h
  cases h
 cases h
theorem aGi{C:Cfg}(hT:TyOK K.P C.Ty){t t':TypeId}{x y:Operand}{H:Nat→Option E}{v w:V}{hs hs':List Hn}{e:Eff}{φ:List Ob}(hH: ∀k e,H k=some e→s.H k=some e)(hd:dOk K.nt d=true)
  (hx:s.get x=v) (hy:s.get y=w) (h:aEf C d t H v w hs=some (e,φ,hs')) (hφ:Obs φ):OpJ K ⟨d,.call {callee:= .builtin .copy,args:= #[x,y],argTypes:= #[t,t']},ty,pos,af,g⟩ s (e.app s):=by
 unfold aEf at h;split at h
 ·cases h
 rename_i i hi;split at h
 ·rename_i el hul;have ht:K.P.underlying t=some (.slice el):=(hT _ _ hi).und.2.2.2 el hul;split at h
  ·cases h
  rename_i j hj;obtain⟨ju,he,_⟩:=hT _ _ hj;split at h
  ·rename_i k gen size off len news R m hs hw;split at h
   ·rename_i e' gen' size' rows hh hp;cases h;obtain⟨rfl,rfl,rfl,rfl,hr,⟨hl,rfl⟩,_⟩:=hφ;have hj:=aLG (K:=K) (s:=s) (d:=d) (ty:=ty) (pos:=pos) (af:=af) (g:=g) (gen:=gen') (size:=j.size) x y k off len el e' t' rows news (eB hd) hx (by rw [hy,←hw];exact zS w) (hH _ _ hh) ht he (by simpa [Nat.blt_eq] using hp) hr hl
    have: ∀v e,Eff.app ⟨iN d v,[(k,some e)],[]⟩ s=({s with H:=upd s.H k (some e)}:S).put d v:=by intro v e;cases d<;>rfl
    rw [this];exact hj
   cases h
  cases h
 cases h
theorem aLX{C:Cfg}(hT:TyOK K.P C.Ty)(hP:C.P=K.P)(hG:C.G=K.G)(hn:C.nt=K.nt)(hn0:C.n0=K.n0){o:Oper}{vals:List V}{H:Nat→Option E}{u:Nat→Bool}{hs hs':List Hn}{e:Eff}{φ:List Ob}
  (hv:vals=o.op.operands.toList.map s.get) (hH: ∀k e,H k=some e→s.H k=some e) (hu: ∀k,u k=false→s.u k=false) (h:evO C o vals H u hs=some (e,φ,hs')) (hφ:Obs φ):OpJ K o s (e.app s):=by
 obtain⟨d,op,ty,pos,af,g⟩:=o;unfold evO at h;dsimp only at h;split at h
 ·cases h
 rename_i hd;rw [hn] at hd;have hval: ∀{op:Op} {r:JR},vals=op.operands.toList.map s.get→(match evV C.P C.Ty H op vals hs with|some (v,φ,hs)=>some ((⟨iN d v,[],[]⟩:Eff),φ,hs)|none=>none)=some (e,φ,hs')→OpJ K ⟨d,op,ty,pos,af,g⟩ s (e.app s):=by
  intro op r hv h;split at h
  ·rename_i v φ' hs2 hev;cases h;rw [lN];rw [hP] at hev;exact aBC (vals:=vals) (eB hd) (VsLe.of_eq hv.symm) ((aLV hT hev hφ).sub hH)
  cases h
 split at h
 ·split at h
  ·simp only [Op.operands,List.map_cons,List.map_nil,List.cons.injEq,and_true] at hv;split at h
   ·exact aGm hd hv.symm h
   exact aIt hu hd hv.symm h
  cases h
 ·split at h
  ·rename_i i hi;exact aEm hT hi hu hd h
  cases h
 ·split at h
  ·simp only [Op.operands,List.map_cons,List.map_nil,List.cons.injEq,and_true] at hv;split at h
   ·rename_i hev;cases h;exact aD8 hT rfl hH hv.1.symm hv.2.symm hev hφ
   exact aCv hT hH hv.1.symm hv.2.symm h hφ
  cases h
 ·split at h
  ·simp only [Op.operands,List.map_cons,List.map_nil,List.cons.injEq,and_true] at hv;exact aGg hT hu hd hv.1.symm hv.2.symm h hφ
  cases h
 ·split at h
  ·rename_i hev;cases h;exact aId hT hu hd (by simpa [Op.operands] using hv) hev hφ
  exact aGh hT hu hd (by simpa [Op.operands] using hv) h
 ·rename_i c;obtain⟨callee,args,tys⟩:=c;dsimp only at h;split at h
  ·rename_i f;split at h
   ·exact aKh hP hG hd hH hu (by simpa [Op.operands,Call.operands] using hv) h hφ
   split at h
   ·exact aIu hP hG hd hH (by simpa [Op.operands,Call.operands] using hv) h hφ
   exact aGl hP hG hd (by simpa [Op.operands,Call.operands] using hv) h hφ
  ·split at h
   ·rename_i x y t t' v w ha hty;have ha':args= #[x,y]:=by rw [←ha]
    have hty':tys= #[t,t']:=by rw [←hty]
    subst ha';subst hty';simp only [Op.operands,Call.operands] at hv;simp at hv;split at h
    ·rename_i hev;cases h;exact aCx hT hn0 hH hd hv.1.symm hv.2.symm hev hφ
    exact aBf hT hH hd hv.1.symm hv.2.symm h hφ
   cases h
  ·split at h
   ·rename_i x t v ha hty;have ha':args= #[x]:=by rw [←ha]
    have hty':tys= #[t]:=by rw [←hty]
    subst ha';subst hty';simp only [Op.operands,Call.operands] at hv;simp at hv;exact aEi hT hH hv.symm h hφ
   cases h
  ·split at h
   ·rename_i x y t t' v w ha hty;have ha':args= #[x,y]:=by rw [←ha]
    have hty':tys= #[t,t']:=by rw [←hty]
    subst ha';subst hty';simp only [Op.operands,Call.operands] at hv;simp at hv;exact aGi hT hH hd hv.1.symm hv.2.symm h hφ
   cases h
  ·exact hval (r:=none) hv h
  cases h
 exact hval (r:=none) hv h
def idV:V→List Nat
 | .ref id _=>[id]
 | .msl id _ _ _ _=>[id]
 | .eref id _ _ _ _=>[id]
 |_=>[]
def aLN:List V→List Nat
 | []=>[]
 |v::vs=>idV v++aLN vs
def idN:List Hn→List Nat
 | .nat k::hs=>k::idN hs
 |_=>[]
def idH:List Hn→List Nat
 | .b true::hs=>idN hs
 | .nat k::_=>[k]
 | .int _:: .nat k::_=>[k]
 | .vc L news _ _::_=>L++news
 | .lt k _ _::_=>[k]
 |_=>[]
def nV(k:Nat):List Nat→Bool
 | []=>false
 |x::l=>bif Nat.beq x k then true else nV k l
theorem xJ{k:Nat}: ∀{l:List Nat},nV k l=true→k∈l
 | [],h=>by cases h
 |x::l,h=>by
  simp only [nV] at h;cases hb:Nat.beq x k with
  |true=>rw [fV hb];exact uX
  |false=>rw [hb] at h;exact r9 _ (xJ h)
def Y8(ids:List Nat)(H:Nat→Option E):Nat→Option E:=fun k=>bif nV k ids then H k else none
def Y7(ids:List Nat)(u:Nat→Bool):Nat→Bool:=fun k=>bif nV k ids then u k else true
theorem aDO{ids:List Nat}{H:Nat→Option E}{k:Nat}{e:E}(h:Y8 ids H k=some e):H k=some e:=by
 unfold Y8 at h;cases hb:nV k ids with
 |true=>rw [hb] at h;exact h
 |false=>rw [hb] at h;cases h
theorem aCd{ids:List Nat}{u:Nat→Bool}{k:Nat}(h:Y7 ids u k=false):u k=false:=by
 unfold Y7 at h;cases hb:nV k ids with
 |true=>rw [hb] at h;exact h
 |false=>rw [hb] at h;cases h
def aMZ:Op→List V→Bool
 | .nilCheck _,[.eref _ _ _ _ _]=>false
 | .move _,_| .assign _,_| .pick _ _ _,_| .nilCheck _,_| .binOp _ _ _ _ _,_| .unOp _ _ _,_| .convert _ _ _,_| .makeFunc _ _ _,_| .extract _ _,_| .field _ _ _,_| .build _ _,_=>true
 | .fieldAddr _ _ _,[.ref _ _]=>true
 |_,_=>false
def aMR:Op→Bool
 | .load _ _| .slice _ _ _ _ _| .fieldAddr _ _ _| .indexAddr _ _ _| .index _ _ _| .nilCheck _=>true
 | .call c=>match c.callee with
  | .builtin .len=>true
  | .builtin .max=>true
  | .builtin .min=>true
  |_=>false
 |_=>false
def idO(o:Oper)(vals:List V)(hs:List Hn):List Nat:=match aMZ o.op vals with
 |true=>[]
 |false=>match aMR o.op with
  |true=>aLN vals
  |false=>aLN vals++idH hs
def evA(C:Cfg)(o:Oper)(vals:List V)(s:S)(hs:List Hn):JR:=evO C o vals (Y8 (idO o vals hs) s.H) (Y7 (idO o vals hs) s.u) hs
def isW:Bool→Bool→Bool
 |true,true=>true
 |false,false=>true
 |_,_=>false
def gV(ops:Array Oper)(j:Nat)(s:S):Option V:=match (ops[j]?).bind (·.dst) with
 |some t=>some (s.t t)
 |none=>none
def evG(C:Cfg)(ops:Array Oper)(o:Oper)(hs:List Hn)(s:S):JR:=
 match o.guard with
 |none=>evA C o (o.op.operands.toList.map s.get) s hs
 |some (j,want)=>match gV ops j s with
  |some (.tup [])=>match dOk C.nt o.dst with
   |true=>some (⟨iN o.dst (.tup []),[],[]⟩,[],hs)
   |false=>none
  |some (.t (.bool b))=>match hs with
   | .b w::hs=>match isW w want with
    |true=>match evA C o (o.op.operands.toList.map s.get) s hs with
     |some (e,φ,hs)=>some (e,.p (b=w)::φ,hs)
     |none=>none
    |false=>match dOk C.nt o.dst with
     |true=>some (⟨iN o.dst (.tup []),[],[]⟩,[.p (b=w)],hs)
     |false=>none
   |_=>none
  |_=>none
end
structure Cfg.Fits (C:Cfg) (K:Ctx):Prop where
 T:TyOK K.P C.Ty
 P:C.P=K.P
 G:C.G=K.G
 nt:C.nt=K.nt
 n0:C.n0=K.n0
 β0:C.β0=K.β0
section
variable {K:Ctx} {s:S} {C:Cfg}
theorem aIA(hC:C.Fits K){o:Oper}{hs hs':List Hn}{e:Eff}{φ:List Ob}(h:evA C o (o.op.operands.toList.map s.get) s hs=some (e,φ,hs'))(hφ:Obs φ):OpJ K o s (e.app s):=
 aLX hC.T hC.P hC.G hC.nt hC.n0 rfl (fun _ _ h=>aDO h) (fun _ h=>aCd h) h hφ
theorem aHQ{w v:Bool}(h:isW w v=true):w=v:=by cases w<;>cases v<;>first|rfl|cases h
theorem aF9{w v:Bool}(h:isW w v=false):w= !v:=by cases w<;>cases v<;>first|rfl|cases h
theorem aFv{ops:Array Oper}{j:Nat}{v:V}(h:gV ops j s=some v): ∃t,(ops[j]?).bind (·.dst)=some t∧s.t t=v:=by
 unfold gV at h;split at h
 ·rename_i t ht;exact⟨t,ht,by cases h;rfl⟩
 cases h
theorem aIp(hC:C.Fits K){ops:Array Oper}{o:Oper}{hs hs':List Hn}{e:Eff}{φ:List Ob}(h:evG C ops o hs s=some (e,φ,hs'))(hφ:Obs φ):OpG K ops o s (e.app s):=by
 unfold evG at h;split at h
 ·rename_i hg;exact OpG.of hg (aIA hC h hφ)
 rename_i j want hg;split at h
 ·rename_i hgv;obtain⟨t,h1,h2⟩:=aFv hgv;split at h
  ·rename_i hd;cases h;rw [lN];exact OpG.skip hg h1 h2 (eB (hC.nt▸hd))
  cases h
 ·rename_i b hgv;obtain⟨t,h1,h2⟩:=aFv hgv;split at h
  ·rename_i w hs;split at h
   ·rename_i hw;have hw:=aHQ hw;subst hw;split at h
    ·rename_i e' φ' hs2 hev;cases h;obtain⟨rfl,hφ'⟩:=hφ;exact OpG.inn hg h1 h2 (aIA hC hev hφ')
    cases h
   rename_i hw;have hw:=aF9 hw;subst hw;split at h
   ·rename_i hd;cases h;obtain⟨rfl,_⟩:=hφ;rw [lN];exact OpG.out hg h1 h2 (eB (hC.nt▸hd))
   cases h
  cases h
 cases h
theorem aLd{ops:Array Oper}{o:Oper}{rest:List Oper}{s1:S}{Q:S→Prop}(h:OpG K ops o s s1)(hn:aBO K ops rest s1 Q):aBO K ops (o::rest) s Q:=
 fun β a w Q' hr hk=>h β a w (wpList K.P ops Q' rest) Q' hr fun β' a' w' hr'=>hn β' a' w' Q' hr' hk
end
end Go.Lift
