/- Tools. -/
import Derived.Test.YteifkndfpnkalabGreatXLiftU
namespace Go.Lift
open Go
open Option renaming some -> aa, none -> ak
open Bool renaming true -> ab, false -> al, and_eq_true -> cB
open Go.Result renaming andThen_ok -> eV
open List renaming replicate -> dn, map_cons -> hg, map -> bj
open Go.Sem renaming run_bind -> e5, run_pure -> hh
open Nat renaming beq -> b7, blt -> dp, ble -> dC
section
variable {P:Program}{r:List Nat}{o:Oper}{a:List V}{v:V}{b i l M W F:List cG}{c m mh:List dJ}{k gen n size:Nat}{e:dd}{e':E}{t:TypeId}{x y:Operand}{u:Nat->Bool}{z:Value}
theorem cw.sub{H r:Nat->Option E}(h:cw P H o a v)(b: ∀k e,H k=aa e->r k=aa e):cw P r o a v:=
 λβ w X c i l=>h β w X c (λid e m=>i id e (b id e m)) l
theorem dZ.Ky{K:Ctx}{s b c:S}(h:dZ K o s b)(m: ∀β a w,Rel K β b a w->Rel K β c a w):dZ K o s c:=
 λβ a w next Q n p=>h β a w next Q n λe k l i=>p e k l (m e k l i)
theorem aem{K:Ctx}{β:Map}{H:Nat->Option E}{e:E}(l:H k=aa e):own K β (a' H k (aa e'))=own K β H:=by
 funext b;apply propext;constructor
 ·rintro(h|⟨id,i,a⟩)
  ·exact .inl h
  by_cases c:id=k
  ·subst c;exact .inr ⟨id,by rw[l];simp,a⟩
  rw[cr _ _ _ _ c] at i;exact .inr ⟨id,i,a⟩
 rintro(h|⟨id,i,a⟩)
 ·exact .inl h
 by_cases c:id=k
 ·subst c;exact .inr ⟨id,by rw[cy];simp,a⟩
 exact .inr ⟨id,by rw[cr _ _ _ _ c];exact i,a⟩
theorem Rel.Su{K:Ctx}{β:Map}{s:S}{a:Act}{w:World}(h:Rel K β s a w)(k:Nat){e:E}(l:s.H k=aa e)(o: ∀X,c4 β w X k e->c4 β w X k e'):Rel K β {s with H:=a' s.H k (aa e')} a w:=by
 have c6:=aem (K:=K) (β:=β) (e':=e') l;refine {h with heap:= ?_,dB:= ?_}
 ·intro id c m;show _/\c4 β w (own K β (a' s.H k (aa e'))) id c;rw[c6];by_cases n:id=k
  ·subst n;have b:a' s.H id (aa e') id=aa c:=m;rw[cy] at b;cases b;obtain⟨p,q⟩:=h.heap id e l
   grind
  have b:a' s.H k (aa e') id=aa c:=m;rw[cr _ _ _ _ n] at b;exact h.heap id c b
 intro i;show bC β w (own K β (a' s.H k (aa e'))) _ _;rw[c6];exact h.dB i
section
variable {K:Ctx}{s:S}{d:Option Tmp}{ty:TypeId}{pos:String}{af:Array Edge}{g:Option (Nat×Bool)}
theorem Pr{f:FuncId}{c:Operand}{b:Array Operand}{k:Array TypeId}(l:List V)(args:List V)(r:V)
  (D:ji K.P f) (F:s.get c= .fn f l) (L: ∀i,d=aa i->dp i K.nt=ab) (R:fH (b.toList.map s.get++l) args) (W:gI gH args=ab) (h:Fs K.P K.G f args r):
  dZ K ⟨d,.call {callee:= .value c,args:=b,argTypes:=k},ty,pos,af,g⟩ s (s.put d r):=by
 obtain⟨B,j,t,v⟩:=D;intro β a w next Q n I
 have x:B.name≠ "runtime.NumGoroutine" :=by simpa using t
 have y:B.body≠ak:=by intro e;simp[e] at v
 obtain⟨us,z,A⟩:=(F▸n.get c).Jc;have o:(execOp a.eval ⟨d,.call {callee:= .value c,args:=b,argTypes:=k},ty,pos,af,g⟩).run K.P w= .ok (.enter f (b.map a.eval++us)) w:=by
  simp[execOp,resolve,Deferred.ofValue,z,invoke,callFunc,j,x,y]
 unfold Oper.wp;rw[o,Oper.upon_enter];have m:=(du.le ((n.oG b.toList).app A) R).J' W;have p:=h w (own K β s.H) _ n.Df n.Kb m;have M:(bj a.eval b.toList++us.toList).toArray=b.map a.eval++us:=by rw[<-xb,<-Array.toList_append]
 rw[M] at p;refine p.mono ?_;rintro e N ⟨u,rfl,q,T⟩;exact I β _ N ((n.grow q).put d L (T.any λ_ h=>h))
theorem qa{s:S}{d:Option Tmp}{e:E}:dd.app ⟨m0 d v,[(k,aa e)],[(k,ab)]⟩ s=(s.new k e).put d v:=by cases d<;>rfl
theorem oY{s:S}{d:Option Tmp}:dd.app ⟨m0 d v,[],[]⟩ s=s.put d v:=by cases d<;>rfl
theorem acO(a: ∀k,u k=al->s.u k=al)(l:j2 K.nt d=ab)(m:s.get x=v)
  (h:u5 d u v i=aa (e,c,b)):dZ K ⟨d,.box t x,ty,pos,af,g⟩ s (e.app s):=by
 unfold u5 at h;split at h
 ·split at h
  ·rename_i n o;cases h;rw[qa];exact afA _ (a _ n) x v (gF l) m o
  cases h
 cases h
theorem adJ{H:Nat->Option E}(x:Operand)(v:V)(e:List T)(m:v.val=ab)(i:v.cs=e.map .t):CB P H ⟨d,.box t x,ty,pos,af,g⟩ [v] (.aU e):=by
 intro β w X a _ n o;obtain⟨k,p⟩:=(show bC β w X v (a x) from o.1).cells m;have b:(execOp a ⟨d,.box t x,ty,pos,af,g⟩).run P w= .ok (.value (.pointer (aa ⟨w.heap.size,0,ak⟩))) (w.alloc (.cells (a x).cells t)):=by
  simp[execOp,Instr.box,newVar,newRow]
 refine⟨_,_,b,Ext.alloc _ _ _,?_⟩;refine .aU e w.heap.size 0 (λj=>(a x).cells.getD j undef) bl (λh=>by have:=n _ h;omega) (λj c=>?_) λj y l=>?_
 ·rw[dA,World.cell?_alloc_new]
  have:j<(a x).cells.size:=by rw[k,i];simpa using c
  simp[this]
 have c:j<(a x).cells.size:=by rw[k,i,dH];exact(d6.1 l).1
 have q:=p j (.t y) (a x).cells[j] (by rw[i,eG,l];rfl) (by simp[c]);cases q with
 |t _ _ h=>
  have:(a x).cells.getD j undef=(a x).cells[j]:=by simp[c]
  rw[this];exact h.mono (Ext.alloc X _ _) λ_ _ h=>h
theorem aaY(a:j2 K.nt d=ab)(k:s.get x=v)
  (h:H5 d v i=aa (e,c,b)):dZ K ⟨d,.box t x,ty,pos,af,g⟩ s (e.app s):=by
 unfold H5 at h;split at h
 ·split at h
  ·rename_i l m n;cases h;rw[oY];exact KI (vals:=[nM v]) (gF a) ⟨k▸uP _,trivial⟩ (adJ x _ l m (oZ n))
  cases h
 cases h
theorem ZC{a:List (Nat×cv)}(m:ee K.P a){i:cv}(n:dE a t=aa i)(o: ∀k,u k=al->s.u k=al)(p:j2 K.nt d=ab)
  (h:u5 d u (d9 i.z) l=aa (e,c,b)):dZ K ⟨d,.alloc t,ty,pos,af,g⟩ s (e.app s):=by
 unfold u5 at h;split at h
 ·split at h
  ·rename_i q r;cases h;rw[qa];obtain⟨y,x,_⟩:=m _ _ n;exact aeA _ (o _ q) (gF p) x r
  cases h
 cases h
theorem Z1{c:List (Nat×cv)}(W:ee K.P c){C:dX}(f:C.cE=c){H:Nat->Option E}{a:V}(F: ∀k e,H k=aa e->s.H k=aa e)
  (G:s.get x=a) (L:s.get y=v) (h:Hr C t H a v l=aa (e,m,b)) (o:cI m):dZ K ⟨ak,.store t x y,ty,pos,af,g⟩ s (e.app s):=by
 subst f;unfold Hr at h;split at h
 ·cases h
 rename_i i j;obtain⟨U,Q,_⟩:=W _ _ j;split at h
 ·split at h
  ·rename_i cs p;split at h
   ·rename_i q z A u;cases h;exact aey _ _ _ _ cs v G L (F _ _ p) Q q z A u
   cases h
  cases h
 ·split at h
  ·rename_i I R M n N r B l p D;split at h
   ·rename_i q z A;cases h;obtain⟨rfl,rfl,T,rfl,_⟩:=o;exact YN x y _ _ _ I n r N G (v:=nM v) (by rw[L];exact uP v) (oZ D) q (F _ _ p) Q T (db z) (e9 A)
   cases h
  cases h
 cases h
theorem BF{k i n:Nat}: ∀{l:List (Nat×Nat×V)},cI (u6 k i n l)-> ∀c b e,(c,b,e)∈l->i<=b->b<i+n->c=k
 |h::l,a,c,b,e,hm,m,o=>by
  simp only[u6] at a;rcases eh.1 hm with rfl|hm
  ·have q:dC i b=ab:=Nat.ble_eq_true_of_le m;have r:dp b (i+n)=ab:=by simpa[Nat.blt_eq] using o
   simp only[q,r,Bool.and_self,cond_true] at a;exact a.1
  cases p:(dC i h.2.1&&dp h.2.1 (i+n)) with
  |true=>rw[p] at a;exact BF a.2 c b e hm m o
  |false=>rw[p] at a;exact BF a c b e hm m o
theorem BG{k off n:Nat}: ∀{i:List (Nat×Nat×V)},cI (u7 k off n i)-> ∀c b e,(c,b,e)∈i->off<=b->b<off+n->c≠k
 | [],_,_,_,_,hm,_,_=>by cases hm
 |h::i,a,c,b,e,hm,l,m=>by
  unfold u7 at a;rcases eh.1 hm with rfl|hm
  ·have p:dC off b=ab:=Nat.ble_eq_true_of_le l;have q:dp b (off+n)=ab:=by simpa[Nat.blt_eq] using m
   simp only[p,q,Bool.and_self,cond_true] at a;exact a.1
  cases o:(dC off h.2.1&&dp h.2.1 (off+n)) with
  |true=>rw[o] at a;exact BG a.2 c b e hm l m
  |false=>rw[o] at a;exact BG a c b e hm l m
theorem XL{C:dX}(mD:ee K.P C.cE){H:Nat->Option E}{a:V}{N:List cG}(hH: ∀k e,H k=aa e->s.H k=aa e)
  (A:s.get x=a) (hy:s.get y=v) (h:G3 C t H a v M=aa (e,mh,N)) (B:cI mh):dZ K ⟨ak,.store t x y,ty,pos,af,g⟩ s (e.app s):=by
 unfold G3 at h;split at h
 ·rename_i i id gen sz k D r M T;obtain⟨ak1,U,_⟩:=mD _ _ T;split at h
  ·rename_i Y m F o c6 oJ;split at h
   ·rename_i l c iw;cases h;simp only[cB] at c;obtain⟨rfl,et,b6,dr⟩:=B;obtain⟨mQ,G⟩:=cI.app dr;obtain⟨dm,cM⟩:=Ak iw mQ;refine WT x y _ _ _ Y m o r v c6 A hy c.1 c.2.1 (hH _ _ oJ) et U (db c.2.2.1) (by simpa[Nat.blt_eq] using c.2.2.2.2) b6 (e9 c.2.2.2.1) (BF G) λj hj=>?_;have hj':=bD (show j<(l.map (·.2)).length by simp[dm];exact hj)
    grind
   cases h
  cases h
 ·rename_i i id gen sz k D q n r M T;obtain⟨ak1,U,_⟩:=mD _ _ T;split at h
  ·rename_i Y m F o c6 oJ;split at h
   ·rename_i l c iw;cases h;simp only[cB] at c;obtain⟨rfl,et,b6,dr⟩:=B;obtain⟨mQ,G⟩:=cI.app dr;obtain⟨G,rA⟩:=cI.app G;obtain⟨rA,Sr⟩:=cI.app rA;obtain⟨dm,cM⟩:=Ak iw mQ;have L:=db c.2.2.1;have Q: ∀x,x∈(c6.drop q.toNat).take n->x∈c6:=λx A=>ft (gm A);have z: ∀x,x∈c6->x∈c6.take q.toNat\/x∈(c6.drop q.toNat).take n\/x∈(c6.drop q.toNat).drop n:=λx A=>by
     rw[<-ua q.toNat c6,eX] at A;rcases A with h|h
     ·exact .inl h
     rw[<-ua n (c6.drop q.toNat),eX] at h
     grind
    refine La x y _ _ _ Y m o r v c6 A hy c.1 c.2.1 (hH _ _ oJ) et U L (by simpa[Nat.blt_eq] using c.2.2.2.2) b6 (e9 c.2.2.2.1) (λf u I hm=>?_) (λf u R hm=>?_) λj hj=>?_
    ·rcases eX.1 hm with b|b
     ·exact⟨I,gm b,λp=>br p.1 (BG rA f u I b p.2.1 p.2.2),λ_=>rfl⟩
     rcases eX.1 b with b|b
     ·obtain⟨R,aP,a2,a3⟩:=GA b;refine⟨R,Q _ aP,λp=>?_,λp=>a3 λW=>p ⟨BF G f u R aP W.1 O,W.1,O⟩⟩
      grind
     exact⟨I,ft (ft b),λp=>br p.1 (BG Sr f u I b p.2.1 p.2.2),λ_=>rfl⟩
    ·rcases z _ hm with b|b|b
     ·exact⟨R,eX.2 (.inl b)⟩
     ·obtain⟨v1,h2⟩:=GF (off:=D) (vs:=v.cs) b
      grind
     exact⟨R,eX.2 (.inr (eX.2 (.inr b)))⟩
    have hj':=bD (show j<(l.map (·.2)).length by simp[dm];exact hj)
    grind
   cases h
  cases h
 cases h
theorem dZ.ajw{K:Ctx}{s b c:S}(h:dZ K o s b)(p:b.le K c):dZ K o s c:=
 λβ a w next Q q r=>h β a w next Q q λi m n k=>let ⟨e,l⟩:=p i m n k;r e m n l
theorem Ng{z:List T}: ∀{l:List (Nat×Nat)} {j m:Nat},yf z l=ab->uY l j=aa m->z[j]? =aa .fp
 |p::l,j,m,h,a=>by
  simp only[yf,cB] at h;simp only[uY] at a;cases b:b7 p.1 j with
  |true=>
   rw[<-db b];have c:=h.1;split at c
   ·assumption
   cases c
  |false=>rw[b] at a;exact Ng h.2 a
theorem aak{K:Ctx}{s:S}(k:Nat){W:TypeId}{e:Nat}{z:List T}(l:List dy)(m:Nat)(D:s.H k=aa (.arr W gen e (dn n z)))(A:(U l m).ty=W)(F:(U l m).size=e)
  (I:yf z (U l m).a1=ab):s.le K {s with H:=a' s.H k (aa (.aC l m gen (dn n (z.map h')) []))}:=by
 intro β a w h;refine⟨_,h.drop k (.aC l m gen (dn n (z.map h')) []) (by rw[D];simp) ?_⟩;have o:=(h.heap k _ D).2;subst A;subst F;refine⟨o.1,?_⟩;have p: ∀b,own K (β.drop k) (a' s.H k (aa (.aC l m gen (dn n (z.map h')) []))) b->own K β s.H b:=by
  rintro b (M|⟨id,A,F⟩)
  ·exact .inl M
  refine .inr ⟨id,λG=>?_,nN F⟩;by_cases f:id=k
  ·subst f;rw[D] at G;cases G
  rw[cr _ _ _ _ f] at A;exact A G
 rcases o.2 with ⟨aP,a2⟩|⟨b,N,aP,a2,a3,a4,a5⟩
 ·have:n=0:=by simpa using a2
  subst this;exact .inl ⟨aP,rfl,λc q=>q.1 rfl⟩
 refine .inr ⟨b,N,λ_ _ _=>False,aP,a2,by simpa using a3,λL P=>?_,λi j L x u B t V=>Cell.of ?_,λ_ _ _ h=>h.elim,λ_ _ _ _ _ h=>h.elim,λc=>⟨λq=>br rfl q.1,λ⟨_,_,q⟩=>q.elim⟩⟩
 ·obtain⟨Y,rfl⟩:=w9.1 P
  grind
 rw[t'] at B;split at B
 ·rename_i Q;cases B;rw[eG] at t;obtain⟨y,v,rfl⟩:=Option.map_eq_some_iff.1 t;have r:=(a5 i j z y u (by rw[t',bg Q]) v V).mono (Ext.refl _ _) λb _=>p b;cases R:(U l m).ed j with
  |none=>exact .fm _ _ _ r.ze (λ_ h=>h)
  |some m2=>
   have:=Ng I R;rw[v] at this;cases this;cases r;exact .nil _ _ λ_ h=>h
 cases B
theorem aaS{C:dX}(mD:ee K.P C.cE){w:V}{N:List cG}(L: ∀k,u k=al->s.u k=al)(cJ:j2 K.nt d=ab)
  (hx:s.get x=v) (hy:s.get y=w) (h:Ic C d t u v w M=aa (e,mh,N)) (Q:cI mh):dZ K ⟨d,.makeSlice t x y,ty,pos,af,g⟩ s (e.app s):=by
 unfold Ic at h;split at h
 ·cases h
 rename_i i l;split at h
 ·rename_i o T;have fo:K.P.underlying t=aa (.slice o):=(mD _ _ l).iD.2.2.2 o T;split at h
  ·cases h
  rename_i j W;obtain⟨Dw,he,_⟩:=mD _ _ W;split at h
  ·rename_i n m k R M p r;split at h
   ·rename_i U f Y z;cases h;obtain⟨hnm,A,B,_⟩:=Q;obtain⟨s8,ahA,rfl⟩:=ka A;have D:m=n:=O
    subst D;simp only[cB] at z;have c:=e9 z.2;have I:m.toNat*j.bytes<=1000000000*200000:=nW O c;have bU:=kH B;have W:=PX (K:=K) (s:=s) (d:=d) (ty:=ty) (pos:=pos) (af:=af) (g:=g) k (L _ U) x y o m.toNat p (gF cJ) fo he (by rw[hx,<-bU]) (by rw[hy,<-bU]) (oZ r) f Y z.1 O O;refine W.Ky λβ a w b6=>?_;have hk:((s.new k (.arr o 1 j.size (dn m.toNat p))).put d (.bd k 1 j.size 0 m.toNat)).H k=aa (.arr o 1 j.size (dn m.toNat p)):=by
     cases d<;>exact cy _ _ _
    have vC:=b6.Su k hk λX=>acN;rw[qa,Em]
    have: ∀F G:E,({((s.new k F).put d (.bd k 1 j.size 0 m.toNat)) with H:=a' ((s.new k F).put d (.bd k 1 j.size 0 m.toNat)).H k (aa G)}:S)=(s.new k G).put d (.bd k 1 j.size 0 m.toNat):=by
     intro F G;have L: ∀a b:Option E,a' (a' s.H k a) k b=a' s.H k b:=by
      intro a b;funext i;by_cases l:i=k
      ·subst l;rw[cy,cy]
      rw[cr _ _ _ _ l,cr _ _ _ _ l,cr _ _ _ _ l]
     cases d<;>simp only[S.put,S.new,L]
    grind
   cases h
  ·rename_i n m k lb Γ q R M p r;split at h
   ·rename_i U f Y z;cases h;obtain⟨ah1,kL,hnm,A,B,_⟩:=Q;obtain⟨s8,ahA,rfl⟩:=ka A;have D:m=n:=O
    subst D;simp only[cB] at f z;have c:=e9 z.2;have I:m.toNat*j.bytes<=1000000000*200000:=nW O c;have bU:=kH B;have W:=PX (K:=K) (s:=s) (d:=d) (ty:=ty) (pos:=pos) (af:=af) (g:=g) k (L _ U) x y o m.toNat p (gF cJ) fo he (by rw[hx,<-bU]) (by rw[hy,<-bU]) (oZ r) f.1 Y z.1 O O;have hk:((s.new k (.arr o 1 j.size (dn m.toNat p))).put d (.bd k 1 j.size 0 m.toNat)).H k=aa (.arr o 1 j.size (dn m.toNat p)):=by
     cases d<;>exact cy _ _ _
    have cS:=aak (K:=K) k Γ q hk ah1 kL f.2;rw[qa,Em]
    have: ∀F G:E,({((s.new k F).put d (.bd k 1 j.size 0 m.toNat)) with H:=a' ((s.new k F).put d (.bd k 1 j.size 0 m.toNat)).H k (aa G)}:S)=(s.new k G).put d (.bd k 1 j.size 0 m.toNat):=by
     intro F G;have L: ∀a b:Option E,a' (a' s.H k a) k b=a' s.H k b:=by
      intro a b;funext i;by_cases l:i=k
      ·subst l;rw[cy,cy]
      rw[cr _ _ _ _ l,cr _ _ _ _ l,cr _ _ _ _ l]
     cases d<;>simp only[S.put,S.new,L]
    rw[this] at cS;exact W.ajw cS
   cases h
  cases h
 cases h
theorem Yu{C:dX}(B:ee K.P C.cE)(_hn0:C.eg=K.eg){D:TypeId}{H:Nat->Option E}{w:V}{n:List cG}{G:List dJ}(u: ∀k e,H k=aa e->s.H k=aa e)(I:j2 K.nt d=ab)
  (M:s.get x=v) (N:s.get y=w) (h:GV C d t D H v w F=aa (e,G,n)) (o:cI G):dZ K ⟨d,.call {callee:= .builtin .append,args:= #[x,y],argTypes:= #[t,D]},ty,pos,af,g⟩ s (e.app s):=by
 unfold GV at h;split at h
 ·cases h
 rename_i i T;split at h
 ·rename_i L p;have U:K.P.underlying t=aa (.slice L):=(B _ _ T).iD.2.2.2 L p;split at h
  ·cases h
  rename_i j Q;obtain⟨Dw,Y,_⟩:=B _ _ Q;split at h
  ·rename_i k gen W off len a R F hw;split at h
   ·rename_i e' c q b oJ;split at h
    ·rename_i h1 m r;cases h;obtain⟨rfl,rfl,rfl,rfl,l,z,A,_⟩:=o;obtain⟨bw,rfl⟩:=xt l;simp only[cB] at m r;have e1:=db r.1;have e2:=db r.2;have mA:=db h1;subst e1;subst e2;subst mA;have f:(b.length+a.length)*j.bytes<=1000000000*140000:=nW bw (e9 m.2.2);have Q:=acj (K:=K) (s:=s) (d:=d) (ty:=ty) (pos:=pos) (af:=af) (g:=g) (gen:=c) (size:=j.size) k x y e' b a (gF I) M (by rw[N,<-hw];exact uP w) (u _ _ oJ) U Y m.1 m.2.1 z A O O;rw[dQ]
     have: ∀v e,dd.app ⟨m0 d v,[(k,aa e)],[]⟩ s=({s with H:=a' s.H k (aa e)}:S).put d v:=by intro v e;cases d<;>rfl
     grind
    cases h
   cases h
  cases h
 cases h
theorem WS{C:dX}(mD:ee K.P C.cE){l2:TypeId}{H:Nat->Option E}{w:V}{U:List cG}(D: ∀k e,H k=aa e->s.H k=aa e)(f:j2 K.nt d=ab)
  (u:s.get x=v) (I:s.get y=w) (h:Gj C d t l2 H v w W=aa (e,mh,U)) (p:cI mh):dZ K ⟨d,.call {callee:= .builtin .append,args:= #[x,y],argTypes:= #[t,l2]},ty,pos,af,g⟩ s (e.app s):=by
 unfold Gj at h;split at h
 ·cases h
 rename_i i aL;split at h
 ·rename_i Y q9;have M:K.P.underlying t=aa (.slice Y):=(mD _ _ aL).iD.2.2.2 Y q9;split at h
  ·cases h
  rename_i j z;obtain⟨Dw,N,_⟩:=mD _ _ z;split at h
  ·rename_i k gen r F len eu g3 z3 akW n3 R W;split at h
   ·rename_i Γ m b c q;split at h
    ·rename_i a l;cases h;obtain⟨rfl,rfl,k8,rfl,n,j8,⟨mQ,q2,rA⟩,rfl,_⟩:=p;simp only[cB] at a l;have A:=db a.1;have B:=db a.2;have py:=db l.1;have G:0<j.size:=by simpa[Nat.blt_eq] using l.2
     subst A;subst B;subst py;subst n;have z:=XP (K:=K) (s:=s) (d:=d) (ty:=ty) (pos:=pos) (af:=af) (g:=g) _ _ _ _ x y _ Γ m _ (gF f) u I (D _ _ q) k8 j8 M N G mQ q2 rA
     have: ∀v e,dd.app ⟨m0 d v,[(eu,aa e)],[]⟩ s=({s with H:=a' s.H eu (aa e)}:S).put d v:=by intro v e;cases d<;>rfl
     rw[this];exact z
    cases h
   cases h
  ·rename_i k gen r F len eu g3 z3 akW n3 R W _;split at h
   ·rename_i Γ m b c ajE m3 agD eg o ahV q L;split at h
    ·rename_i a l T;cases h;obtain⟨rfl,rfl,rfl,rfl,k8,j8,rfl,rfl,h3,Q,oK,vC,_⟩:=p;obtain⟨bw,rfl⟩:=xt Q;simp only[cB] at a l T;have A:=db a.1;have B:=db a.2;have mA:=db T.1;subst A;subst B;subst mA;have hmul:(c.length+(eg::o).length)*j.bytes<=1000000000*140000:=nW bw (e9 l.2.2);have z:=abh (K:=K) (s:=s) (d:=d) (ty:=ty) (pos:=pos) (af:=af) (g:=g) (gen:=b) (size:=j.size) k eu agD (o.length+1) x y Y Γ ajE m m3 c (eg::o) ahV (gF f) u I (D _ _ q) (D _ _ L) h3 rfl M N l.1 k8 j8 oK vC (Nat.succ_pos _) T.2.1 T.2.2 O O;rw[dQ]
     have: ∀v e,dd.app ⟨m0 d v,[(k,aa e)],[]⟩ s=({s with H:=a' s.H k (aa e)}:S).put d v:=by intro v e;cases d<;>rfl
     rw[this];exact z
    cases h
   ·rename_i e' b aks c C9 q L;split at h
    ·rename_i a l;cases h;obtain⟨rfl,rfl,rfl,rfl,n,ahq,s4,rfl,_⟩:=p;simp only[cB] at a l;have A:=db a.1;have B:=db a.2;have py:=db l.1;have k6:=db l.2.1;have G:0<j.size:=by simpa[Nat.blt_eq] using l.2.2
     subst A;subst B;subst py;subst k6;subst n;have z:=YO (K:=K) (s:=s) (d:=d) (ty:=ty) (pos:=pos) (af:=af) (g:=g) _ _ _ _ x y _ _ (gF f) u I (D _ _ q) M N G ahq s4
     have: ∀v e,dd.app ⟨m0 d v,[(eu,aa e)],[]⟩ s=({s with H:=a' s.H eu (aa e)}:S).put d v:=by intro v e;cases d<;>rfl
     rw[this];exact z
    cases h
   cases h
  ·rename_i k gen r F len W;split at h
   ·rename_i b q;split at h
    ·rename_i a l;cases h;obtain⟨rfl,n,_⟩:=p;obtain⟨C9,q,bV⟩:=zP.1 q;simp only[cB] at a;have A:=db a.1;have B:=db l;have G:0<j.size:=by simpa[Nat.blt_eq] using a.2
     subst A;subst B;subst n;rw[oY];exact XO (K:=K) (s:=s) (d:=d) (ty:=ty) (pos:=pos) (af:=af) (g:=g) _ _ x y _ _ (gF f) u (dK.of_eq I) (D _ _ q) bV M N G
    cases h
   cases h
  cases h
 cases h
theorem afg{x:T}(h:zJ v=aa x):v= .t x:=by
 cases v<;>simp[zJ] at h
 grind
theorem LP{d:dy}: ∀{j:Nat} {a:List V} {r:List T} {c:List (Nat×Nat×V)},Bt d j a=aa (r,c)->r.length=a.length/\
  (∀i b v,(i,b,v)∈c->i=0/\ ∃k,b=j+k/\a[k]? =aa v)/\(∀(k:Nat) x,r[k]? =aa x->(∃v,(0,j+k,v)∈c)\/(d.ed (j+k)=ak/\a[k]? =aa (.t x)))
 |j,[],r,c,h=>by cases h;exact⟨rfl,λ_ _ _ h=>br h lr,λk x h=>by simp at h⟩
 |j,v::a,r,c,h=>by
  simp only[Bt] at h;split at h
  ·cases h
  rename_i G n B;obtain⟨aP,a2,a3⟩:=LP B;have y: ∀i b ec,(i,b,ec)∈n->i=0/\ ∃k,b=j+k/\(v::a)[k]? =aa ec:=λi b ec hm=>by
   obtain⟨D,k,L,F⟩:=a2 i b ec hm;exact⟨D,k+1,O,by simpa using F⟩
  split at h
  ·rename_i Q z;cases A:v.one with
   |false=>rw[A] at h;cases h
   |true=>
    rw[A] at h;cases h;refine⟨by simp[aP],λi b ec hm=>?_,λk x l=>?_⟩
    ·rcases eh.1 hm with e|hm
     ·cases e;exact⟨rfl,0,rfl,rfl⟩
     exact y i b ec hm
    cases k with
    |zero=>exact .inl ⟨v,fh⟩
    |succ k=>
     have:=a3 k x (by simpa using l);rw[show j+1+k=j+(k+1) by omega] at this;rcases this with ⟨ec,o⟩|⟨m,p⟩
     ·exact .inl ⟨ec,eW _ o⟩
     exact .inr ⟨m,by simpa using p⟩
  rename_i z;split at h
  ·rename_i R q;cases h;refine⟨by simp[aP],y,λk x l=>?_⟩;cases k with
   |zero=>simp at l;subst l;exact .inr ⟨z,by simp[afg q]⟩
   |succ k=>
    have:=a3 k x (by simpa using l);rw[show j+1+k=j+(k+1) by omega] at this;rcases this with m|⟨m,p⟩
    ·exact .inl m
    exact .inr ⟨m,by simpa using p⟩
  cases h
theorem Lt{d:dy}{sz:Nat}: ∀{n i:Nat} {a:List V} {l:List (List T)} {m:List (Nat×Nat×V)},wX d sz i n a=aa (l,m)->a.length=n*sz->l.length=n/\(∀r,r∈l->r.length=sz)/\
  (∀y b v,(y,b,v)∈m-> ∃q,y=i+q/\a[q*sz+b]? =aa v)/\(∀(q:Nat) r (k:Nat) x,l[q]? =aa r->r[k]? =aa x->(∃v,(i+q,k,v)∈m)\/(d.ed k=ak/\a[q*sz+k]? =aa (.t x)))
 |0,i,a,l,m,h,_=>by cases h;exact⟨rfl,λ_ h=>br h lr,λ_ _ _ h=>br h lr,λq r k x h=>by simp at h⟩
 |n+1,i,a,l,m,h,D=>by
  simp only[wX] at h;split at h
  ·rename_i r M F G L Q;cases h;obtain⟨aP,a2,a3⟩:=LP L;rw[dN,Nat.one_mul] at D;obtain⟨R,W,f,j⟩:=Lt Q (by rw[fN];omega);have z:(a.take sz).length=sz:=by rw[c8];omega
   have o: ∀q b:Nat,(a.drop sz)[q*sz+b]? =a[(q+1)*sz+b]? :=λq b=>by rw[fv];congr 1;rw[dN,Nat.one_mul];omega
   have p: ∀{k:Nat} {v:V},(a.take sz)[k]? =aa v->a[0*sz+k]? =aa v:=fun {k v} h=>by
    rw[fs] at h;rw[gL,dA];split at h
    ·exact h
    cases h
   refine⟨by simp[R],λA b6=>?_,λy b v bx=>?_,λq A k x b6 B=>?_⟩
   ·rcases eh.1 b6 with rfl|b6
    ·rw[aP,z]
    exact W _ b6
   ·rcases eX.1 bx with bx|bx
    ·obtain⟨⟨N,P,U⟩,u,I⟩:=eH.1 bx;cases I;obtain⟨_,k,c,e⟩:=a2 _ _ _ u;exact⟨0,rfl,p (by rw[c,dA];exact e)⟩
    obtain⟨q,c,e⟩:=f _ _ _ bx;exact⟨q+1,O,by rw[<-o];exact e⟩
   cases q with
   |zero=>
    simp at b6;subst b6;rcases a3 k x B with ⟨v,bx⟩|⟨c,e⟩
    ·rw[dA] at bx;exact .inl ⟨v,nU _ (eH.2 ⟨_,bx,rfl⟩)⟩
    rw[dA] at c;exact .inr ⟨c,p e⟩
   |succ q=>
    rcases j q A k x (by simpa using b6) B with ⟨v,bx⟩|⟨c,e⟩
    ·exact .inl ⟨v,o4 _ (by rw[show i+(q+1)=i+1+q by omega];exact bx)⟩
    exact .inr ⟨c,by rw[<-o];exact e⟩
  cases h
theorem PY{u:TypeDesc}{B:Nat}(k:Nat)(hk:s.u k=al)(n:Nat)(o:Array (Nat×Operand))(e:TypeId)(l cs:List V)(F:List dy)(m:Nat)(r:List (List T))(c6:List (Nat×Nat×V))(cJ: ∀i,d=aa i->dp i K.nt=ab)(G:fH ((o.toList.map (·.2)).map s.get) l)
  (hu:K.P.underlying t=aa (.slice e)) (he:cj K.P e u z size B) (L:b7 o.toList.length l.length=ab) (ca:0<n) (hp:dp 0 size=ab) (A:dC (n*size) 16777216=ab)
  (iw:kl (λi=>aa (i*size,size)) (dn (n*size) .c') ((o.toList.map (·.1)).zip l)=aa cs) (tb:wX (U F m) size 0 n cs=aa (r,c6)) (hcl:cs.length=n*size) (k8:(U F m).size=size) (j8:(U F m).ty=e):
  dZ K ⟨d,.buildSlice t n o,ty,pos,af,g⟩ s ((s.new k (.aC F m 1 r c6)).put d (.bd k 1 size 0 n)):=by
 have R:0<size:=by simpa[Nat.blt_eq] using hp
 obtain⟨akX,zj,Sp,akY⟩:=Lt tb hcl;have aj8:0<n*size:=Nat.mul_pos ca R;intro β a w next Q b6 hkk
 have Jr:du β w (own K β s.H) l ((o.toList.map (·.2)).map a.eval):=(b6.oG _).le G;have pK:=wW a.eval o.toList;obtain⟨b,h1,h2⟩:=xr (β:=β) (w:=w) (X:=own K β s.H) (λi=>aa (i*size,size)) (o.toList.map (·.1)) l _ (dn (n*size) .c')
  ((Array.range (n*size)).map ((if n*size=0 then #[] else z.cells)[· %(if n*size=0 then #[] else z.cells).size]!)) _ (BD _ _ _ _ _ bl) Jr (by simpa using db L) iw
 have W:(execOp a.eval ⟨d,.buildSlice t n o,ty,pos,af,g⟩).run K.P w= .ok (.value (.slice (aa ⟨w.heap.size,0,ak⟩) n n)) (w.alloc (.cells b e)):=by
  have f:(o.toList.map λx=>match x with|(i,x)=>(i,a.eval x))=(o.toList.map (·.1)).zip ((o.toList.map (·.2)).map a.eval):=by rw[<-pK]
  have bw: ¬(n*size>2^24):=by have:=e9 A;omega
  have h0: ¬n*size=0:=O
  simp only[execOp,Instr.buildSlice,e5,run_underlying hu,eV,he.run_sizeOf,bw,if_false,Array.toList_map];simp only[h0,if_false] at h1;simp only[h0,if_false,hh,e5,he.rB,eV];rw[f,h1];rfl
 unfold Oper.wp;rw[W];have p:b.size=n*size:=by
  have h:=h2.1;rw[l3] at h;omega
 have I:=b6.J9 k 1 hk b e (.aC F m 1 r c6) (λβ' X' w' hw s6 M lQ=>⟨df _,Or.inr ⟨w.heap.size,b,λ_ _ _=>False,s6,by subst hw;rw[j8];exact j0 _ _,by rw[p,k8,akX];exact df _,λD N=>by rw[zj D N,k8],λi j D x y aP a2 a3=>by
  rw[k8] at a3;refine⟨λv G=>⟨?_,λ_ h=>h⟩,λca=>?_⟩
  ·obtain⟨q,e1,f⟩:=Sp _ _ _ G;rw[dA] at e1;subst e1;exact M _ _ (h2.2 _ _ y f (by simpa using a3))
  rcases akY i D j x aP a2 with ⟨v,G⟩|⟨e1,f⟩
  ·rw[dA] at G;exact br G (ca v)
  rw[e1];have h6:=M _ _ (h2.2 _ _ y f (by simpa using a3));cases h6 with|t _ _ h=>exact .fm _ _ _ h λ_ h=>h,λ_ _ _ h=>h.elim,λ_ _ _ _ _ h=>h.elim,λc=>⟨λh=>br h (lQ c),λ⟨_,_,h⟩=>h.elim⟩⟩⟩)
 have Y:(w.alloc (.cells b e)).heap.size=w.heap.size+1:=World.size_alloc ..;have gj:(w.alloc (.cells b e)).shape? w.heap.size=aa (e,b.size):=by unfold World.shape?;rw[j0]
 have R5:bC (β.put k (aa (aa w.heap.size,1))) (w.alloc (.cells b e)) (own K (β.put k (aa (aa w.heap.size,1))) (s.new k (.aC F m 1 r c6)).H) (.bd k 1 size 0 n)
   (.slice (aa ⟨w.heap.size,0*size,ak⟩) n n):= .bd k 1 size 0 n n w.heap.size b.size e (df _) (cy _ _ _) (Y▸nf _) gj (by rw[p,dA]) (df _) (by have h1:n*1<=n*size:=Nat.mul_le_mul_left _ R;have:=e9 A;unfold maxLen;omega)
 rw[gL] at R5;exact hkk _ _ _ (I.put d cJ R5)
theorem Pd{n j:Nat}{v:V}: ∀{a:List V} {i:Nat},(n,j,v)∈qH i a->j=0/\ ∃k,n=i+k/\a[k]? =aa v
 |x::a,i,h=>by
  simp only[qH] at h;rcases eh.1 h with h|h
  ·cases h;exact⟨rfl,0,rfl,rfl⟩
  obtain⟨e,k,c,b⟩:=Pd h;exact⟨e,k+1,O,by simpa using b⟩
theorem Pc{v:V}: ∀{vs:List V} {i k:Nat},vs[k]? =aa v->(i+k,0,v)∈qH i vs
 |x::vs,i,0,h=>by
  simp at h;subst h;exact fh
 |x::vs,i,k+1,h=>by have:=Pc (i:=i+1) (k:=k) (vs:=vs) (by simpa using h);rw[show i+1+k=i+(k+1) by omega] at this;exact eW _ this
theorem afv{u:TypeDesc}{b A:Nat}(k:Nat)(hk:s.u k=al)(n:Nat)(p:Array (Nat×Operand))(e:TypeId)(o B:List V)(D:List dy)(m:Nat)(cJ: ∀i,d=aa i->dp i K.nt=ab)(N:fH ((p.toList.map (·.2)).map s.get) o)
  (hu:K.P.underlying t=aa (.slice e)) (he:cj K.P e u z b A) (F:b7 p.toList.length o.length=ab) (ca:dp 0 n=ab) (T:b=1) (G:dC (n*b) 16777216=ab)
  (iw:kl (λi=>aa (i*b,b)) (dn (n*b) .c') ((p.toList.map (·.1)).zip o)=aa B) (hcl:B.length=n) (Y:(U D m).size=1) (j8:(U D m).ty=e):
  dZ K ⟨d,.buildSlice t n p,ty,pos,af,g⟩ s ((s.new k (.aC D m 1 (dn n [.bH []]) (qH 0 B))).put d (.bd k 1 1 0 n)):=by
 subst T;have L:0<n:=by simpa[Nat.blt_eq] using ca
 intro β a w next Q b6 hkk
 have Jr:du β w (own K β s.H) o ((p.toList.map (·.2)).map a.eval):=(b6.oG _).le N;have pK:=wW a.eval p.toList;obtain⟨l,h1,h2⟩:=xr (β:=β) (w:=w) (X:=own K β s.H) (λi=>aa (i*1,1)) (p.toList.map (·.1)) o _ (dn (n*1) .c')
  ((Array.range (n*1)).map ((if n*1=0 then #[] else z.cells)[· %(if n*1=0 then #[] else z.cells).size]!)) _ (BD _ _ _ _ _ bl) Jr (by simpa using db F) iw
 have ajT:=e9 G;have R:(execOp a.eval ⟨d,.buildSlice t n p,ty,pos,af,g⟩).run K.P w= .ok (.value (.slice (aa ⟨w.heap.size,0,ak⟩) n n)) (w.alloc (.cells l e)):=by
  have e2:(p.toList.map λx=>match x with|(i,x)=>(i,a.eval x))=(p.toList.map (·.1)).zip ((p.toList.map (·.2)).map a.eval):=by rw[<-pK]
  have bw: ¬(n*1>2^24):=O
  have h0: ¬n*1=0:=O
  simp only[execOp,Instr.buildSlice,e5,run_underlying hu,eV,he.run_sizeOf,bw,if_false,Array.toList_map];simp only[h0,if_false] at h1;simp only[h0,if_false,hh,e5,he.rB,eV];rw[e2,h1];rfl
 unfold Oper.wp;rw[R];have q:l.size=n:=by
  have h:=h2.1;rw[l3] at h;omega
 have W:=b6.J9 k 1 hk l e (.aC D m 1 (dn n [.bH []]) (qH 0 B)) (λβ' X' w' hw L lR lQ=>⟨df _,Or.inr ⟨w.heap.size,l,λ_ _ _=>False,L,by subst hw;rw[j8];exact j0 _ _,by rw[q,Y];simp,λf r=>by rw[(w9.1 r).2,Y];rfl,λi j f x y aP a2 a3=>by
  have aL:=(d6.1 aP).1;rw[Em] at aL;have r:f=[.bH []]:=(w9.1 (bX aP)).2;subst r;have hj0:j=0:=by
   have:=(d6.1 a2).1;simpa using this
  subst hj0;rw[Y,Nat.mul_one,nS] at a3;refine⟨λv N=>⟨?_,λ_ h=>h⟩,λnE=>?_⟩
  ·obtain⟨_,cD,e1,e2⟩:=Pd N;rw[dA] at e1;subst e1;exact lR _ _ (h2.2 _ _ y e2 (by simpa using a3))
  have bU:=bD (O:i<B.length)
  have:=Pc (i:=0) bU;rw[dA] at this;exact br this (nE _),λ_ _ _ h=>h.elim,λ_ _ _ _ _ h=>h.elim,λc=>⟨λh=>br h (lQ c),λ⟨_,_,h⟩=>h.elim⟩⟩⟩)
 have I:(w.alloc (.cells l e)).heap.size=w.heap.size+1:=World.size_alloc ..;have gj:(w.alloc (.cells l e)).shape? w.heap.size=aa (e,l.size):=by unfold World.shape?;rw[j0]
 have M:bC (β.put k (aa (aa w.heap.size,1))) (w.alloc (.cells l e)) (own K (β.put k (aa (aa w.heap.size,1))) (s.new k (.aC D m 1 (dn n [.bH []]) (qH 0 B))).H) (.bd k 1 1 0 n)
   (.slice (aa ⟨w.heap.size,0*1,ak⟩) n n):= .bd k 1 1 0 n n w.heap.size l.size e (df _) (cy _ _ _) (I▸nf _) gj (by rw[q];omega) (df _) (by unfold maxLen;omega)
 rw[gL] at M;exact hkk _ _ _ (W.put d cJ M)
theorem afz{u:TypeDesc}{D:Nat}(k:Nat)(hk:s.u k=al)(n:Nat)(p:Array (Nat×Operand))(e:TypeId)(o:List V)(c:List (List T))(cJ: ∀i,d=aa i->dp i K.nt=ab)(bx:fH ((p.toList.map (·.2)).map s.get) o)
  (hu:K.P.underlying t=aa (.slice e)) (he:cj K.P e u z size D) (L:b7 p.toList.length o.length=ab)
  (ca:c.length=n) (hp:dp 0 size=ab) (F: ∀l,l∈c->l.length=size) (B:dC (n*size) 16777216=ab)
  (iw:kl (λi=>aa (i*size,size)) (dn (n*size) .c') ((p.toList.map (·.1)).zip o)=aa (c.flatten.map .t)):
  dZ K ⟨d,.buildSlice t n p,ty,pos,af,g⟩ s ((s.new k (.arr e 1 size c)).put d (.bd k 1 size 0 c.length)):=by
 subst ca;have aj9:0<size:=by simpa[Nat.blt_eq] using hp
 intro β a w next Q b6 U
 have Y:du β w (own K β s.H) o ((p.toList.map (·.2)).map a.eval):=(b6.oG _).le bx;have pK:=wW a.eval p.toList;obtain⟨m,A,G⟩:=xr (β:=β) (w:=w) (X:=own K β s.H) (λi=>aa (i*size,size)) (p.toList.map (·.1)) o _ (dn (c.length*size) .c')
  ((Array.range (c.length*size)).map ((if c.length*size=0 then #[] else z.cells)[· %(if c.length*size=0 then #[] else z.cells).size]!)) _ (BD _ _ _ _ _ bl) Y (by simpa using db L) iw
 have R:(execOp a.eval ⟨d,.buildSlice t c.length p,ty,pos,af,g⟩).run K.P w= .ok (.value (.slice (aa ⟨w.heap.size,0,ak⟩) c.length c.length)) (w.alloc (.cells m e)):=by
  have e2:(p.toList.map λx=>match x with|(i,x)=>(i,a.eval x))=(p.toList.map (·.1)).zip ((p.toList.map (·.2)).map a.eval):=by rw[<-pK]
  have bw: ¬(c.length*size>2^24):=by have:=e9 B;omega
  simp only[execOp,Instr.buildSlice,e5,run_underlying hu,eV,he.run_sizeOf,bw,if_false,Array.toList_map];by_cases N:c.length*size=0
  ·simp only[N,if_true] at A;simp only[N,if_true,hh,e5,eV];rw[e2,A];rfl
  simp only[N,if_false] at A;simp only[N,if_false,hh,e5,he.rB,eV];rw[e2,A];rfl
 unfold Oper.wp;rw[R];have q:m.size=c.flatten.length:=by
  have h:=G.1
  grind
 have W:c.flatten.length=c.length*size:=by
  rw[List.length_flatten]
  have:c.map List.length=dn c.length size:=List.eq_replicate_iff.2 ⟨bl,λb bw=>by obtain⟨r,b6,rfl⟩:=eH.1 bw;exact F r b6⟩;rw[this];simp
 have f: ∀(c:List (List T)),(∀l,l∈c->l.length=size)-> ∀(i j:Nat) (l:List T) (x:T),c[i]? =aa l->l[j]? =aa x->c.flatten[i*size+j]? =aa x:=by
  intro c;induction c with
  |nil=>intro _ i j l x h _;simp at h
  |cons r c mI=>
   intro hs i j l x A G;have b6:=hs r bl;rw[List.flatten_cons];cases i with
   |zero=>
    simp at A;subst A
    have:=(d6.1 G).1;rw[gL,dA,hz this];exact G
   |succ i=>
    simp at A;rw[ic (by rw[b6,dN];omega)];rw[show(i+1)*size+j-r.length=i*size+j by rw[b6,dN];omega];exact mI (λl h=>hs l (by simp[h])) i j l x A G
 have v:=b6.new k 1 hk m e (.arr e 1 size c) (λβ' X' w' hw s6 lR=>⟨df _,Or.inr ⟨w.heap.size,m,s6,by subst hw;exact j0 _ _,by rw[q,W];exact df _,F,λi j l x y aP a2 a3=>by
  have h5:=f c F i j l x aP a2;have h6:=G.2 (i*size+j) (.t x) y (by rw[eG,h5];rfl) (by simpa using a3);have lM:=lR _ _ h6;cases lM with|t _ _ h=>exact h⟩⟩)
 have I:(w.alloc (.cells m e)).heap.size=w.heap.size+1:=World.size_alloc ..;have gj:(w.alloc (.cells m e)).shape? w.heap.size=aa (e,m.size):=by unfold World.shape?;rw[j0]
 have M:bC (β.put k (aa (aa w.heap.size,1))) (w.alloc (.cells m e)) (own K (β.put k (aa (aa w.heap.size,1))) (s.new k (.arr e 1 size c)).H) (.bd k 1 size 0 c.length)
   (.slice (aa ⟨w.heap.size,0*size,ak⟩) c.length c.length):= .bd k 1 size 0 c.length c.length w.heap.size m.size e (df _) (cy _ _ _) (I▸nf _) gj (by rw[q,W];simp) (df _)
    (by
     have bw:=e9 B;unfold maxLen
     have:c.length*1<=c.length*size:=Nat.mul_le_mul_left _ O;omega)
 rw[gL] at M;exact U _ _ _ (v.put d cJ M)
theorem ac3{C:dX}(f:ee K.P C.cE){m:Array (Nat×Operand)}{v G:List cG}{I:List dJ}(M: ∀k,u k=al->s.u k=al)(B:j2 K.nt d=ab)
  (L:a=(m.toList.map (·.2)).map s.get) (h:IA C d t n (m.toList.map (·.1)) u a v=aa (e,I,G)) (Q:cI I):dZ K ⟨d,.buildSlice t n m,ty,pos,af,g⟩ s (e.app s):=by
 unfold IA at h;split at h
 ·cases h
 rename_i i N;split at h
 ·rename_i p R;have D:K.P.underlying t=aa (.slice p):=(f _ _ N).iD.2.2.2 p R;split at h
  ·cases h
  rename_i j T;obtain⟨Dw,F,_⟩:=f _ _ T;split at h
  ·rename_i k v W;split at h
   ·rename_i o;cases h
    have:m= #[]:=by
     have:m.toList=[]:=by simpa using W
     grind
    subst this;rw[qa];exact aci k (M _ o) p (gF B) D F
   cases h
  ·split at h
   ·cases h
   rename_i cs c;split at h
   ·cases h
   rename_i q l;split at h
   ·rename_i U o r x Y;cases h;have b:=db o;obtain⟨y,z,A⟩:=B4 j.size _ q b;rw[qa];refine afz _ (M _ U) _ m p (hq a) _ (gF B) (by rw[L];exact mX _) D F (by rw[tD];simpa using r) y Y z x (by rw[c,A,oZ l])
   cases h
  ·split at h
   ·cases h
   rename_i cs c;split at h
   ·cases h
   rename_i q l;split at h
   ·rename_i o r x;cases h;have b:=db o;obtain⟨y,z,A⟩:=B4 j.size _ q b;rw[oY];rw[<-Q.1];refine KI (vals:=hq a) (gF B) ?_ (K7 _ m p (hq a) _ D F ?_ (by simp[y]) z x (by rw[c,A,oZ l]))
    ·rw[L];simp only[Op.operands];exact mX _
    rw[tD];simpa using r
   cases h
  ·split at h
   ·cases h
   rename_i cs c;split at h
   ·cases h
   rename_i q l;split at h
   ·rename_i o r x;cases h;have b:=db o;obtain⟨y,z,A⟩:=B4 j.size _ q b;rw[oY];refine KI (vals:=hq a) (gF B) ?_ (K7 _ m p (hq a) _ D F ?_ (by simp[y]) z x (by rw[c,A,oZ l]))
    ·rw[L];simp only[Op.operands];exact mX _
    rw[tD];simpa using r
   cases h
  cases h
 cases h
theorem aaT{C:dX}(I:ee K.P C.cE){b:Array (Nat×Operand)}{o:List cG}(G: ∀k,u k=al->s.u k=al)(L:j2 K.nt d=ab)
  (Q:a=(b.toList.map (·.2)).map s.get) (h:Ie C d t n (b.toList.map (·.1)) u a l=aa (e,c,o)):dZ K ⟨d,.buildSlice t n b,ty,pos,af,g⟩ s (e.app s):=by
 unfold Ie at h;split at h
 ·cases h
 rename_i i M;split at h
 ·rename_i A R;have W:K.P.underlying t=aa (.slice A):=(I _ _ M).iD.2.2.2 A R;split at h
  ·cases h
  rename_i j N;obtain⟨Y,f,_⟩:=I _ _ N;split at h
  ·rename_i k y m l;split at h
   ·cases h
   rename_i cs q;split at h
   ·cases h
   rename_i r v z;split at h
   ·rename_i B x p D F;cases h;simp only[cB] at x p;rw[qa];exact PY k (G _ B) 1 b A (qO ((U y m).ed 0) a) cs y m r v (gF L) (by rw[Q];exact OJ _ _) W f (by rw[LW];simpa using p.1) (Nat.succ_pos _) F D q z (db x.1) (db x.2) (db p.2)
   cases h
  ·rename_i k y m l;split at h
   ·cases h
   rename_i cs q;split at h
   ·cases h
   rename_i r v z;split at h
   ·rename_i B x p D F;cases h;simp only[cB] at x p;rw[qa];exact PY k (G _ B) 2 b A (qO ((U y m).ed 0) a) cs y m r v (gF L) (by rw[Q];exact OJ _ _) W f (by rw[LW];simpa using p.1) (Nat.succ_pos _) F D q z (db x.1) (db x.2) (db p.2)
   cases h
  ·rename_i k y m l _ _;split at h
   ·cases h
   rename_i cs q;split at h
   ·rename_i B x p D F;cases h;simp only[cB] at x p;have T:=db x.1;rw[qa];exact afv k (G _ B) _ b A (hq a) cs y m (gF L) (by rw[Q];exact mX _) W f (by rw[tD];simpa using p.1) F T D q (db x.2.1) (db p.2.2) (db p.2.1)
   cases h
  cases h
 cases h
theorem aaX{C:dX}(y:C.P=K.P)(z:C.G=K.G){c:Operand}{i:Array Operand}{k:Array TypeId}(A:j2 K.nt d=ab)
  (q:a=s.get c::i.toList.map s.get) (h:H4 C d a l=aa (e,m,b)) (r:cI m):dZ K ⟨d,.call {callee:= .value c,args:=i,argTypes:=k},ty,pos,af,g⟩ s (e.app s):=by
 unfold H4 at h;split at h
 ·rename_i f n args;split at h
  ·split at h
   ·rename_i o;cases h;rw[oY];obtain⟨⟨x,p⟩,_⟩:=r;rw[y] at x p;rw[z] at p;simp only[List.cons.injEq] at q;exact Pr n _ _ x q.1.symm (gF A) (by rw[<-q.2];exact mX _) o p
   cases h
  ·cases h;rw[oY];obtain⟨o,⟨x,p⟩,_⟩:=r;rw[y] at x p;rw[z] at p;simp only[List.cons.injEq] at q;exact Pr n _ _ x q.1.symm (gF A) (by rw[<-q.2];exact mX _) o p
  cases h
 cases h
mutual
theorem N3{a W:Map}{w b:World}{X j:Nat->Prop}: ∀{v:V} {u:Value},sC v=ab->bC a w X v u->bC W b j v u
 | .t (.int _ _),u,_,h=>by rw[dO h];exact .t _ _ (.int _ _)
 | .t (.bool _),u,_,h=>by rw[m6 h];exact .t _ _ (.bool _)
 | .t (.str _),u,_,h=>by rw[hG h];exact .t _ _ (.str _)
 | .agg cs,u,e,h=>by
  simp only[sC] at e;cases h with|agg _ l m h=>exact .agg _ l m (λi c u k n=>Gh e i c u k (h i c u k n))
 | .bZ cs,u,e,h=>by
  simp only[sC] at e;cases h with|bZ _ l m h=>exact .bZ _ l m (λi c u k n=>Gh e i c u k (h i c u k n))
 | .t (.bH _),_,e,_| .t .fp,_,e,_| .t .gY,_,e,_| .t .gl,_,e,_| .t .lX,_,e,_| .t .err,_,e,_=>by simp[sC] at e
 | .ref _ _,_,e,_| .aU _,_,e,_| .bd _ _ _ _ _,_,e,_| .cR _ _ _ _ _,_,e,_| .fn _ _,_,e,_| .c',_,e,_=>by simp[sC] at e
theorem Gh{a W:Map}{w b:World}{X j:Nat->Prop}: ∀{cs:List V},u4 cs=ab-> ∀(i:Nat) c u,cs[i]? =aa c->bC a w X c u->bC W b j c u
 | [],_,_,_,_,h,_=>by simp at h
 |c::cs,e,0,l,u,k,h=>by
  simp only[u4,cB] at e;simp at k;subst k;exact N3 e.1 h
 |c::cs,e,i+1,l,u,k,h=>by simp only[u4,cB] at e;exact Gh e.2 i l u (by simpa using k) h
end
theorem c4.read{β:Map}{w:World}{X N:Nat->Prop}{a:List (List T)}{u:Value}(h:c4 β w X k (.arr t gen size a))(B:bC β w X (.bd k gen size 0 a.length) u)
  (D: ∀b,N b->X b) (F: ∀b,At β k b-> ¬N b):c7 w N (.bH a) u:=by
 obtain⟨q,r⟩:=l0 h;rcases fb B r with ⟨y,b,n,G,rfl,m,L,I,Q,R,M⟩|⟨m,_,W,rfl⟩
 ·subst m;rcases h.2 with ⟨o,z⟩|⟨P,l,o,z,U,A,f⟩
  ·rw[r] at o;cases o
  rw[r] at o;cases o;rw[gL];refine .bH a b 0 size y (λi j=>l.getD (i*size+j) undef) L (F b (.inl ⟨_,r⟩)) R A (λi j aL v=>?_) λi j p x aP a2=>?_
  ·have c:i*size+j<l.size:=by
    have:(i+1)*size<=a.length*size:=dR _ aL;rw[dN] at this;omega
   rw[dA];simp[World.cell?,z,c]
  have aL:=(d6.1 aP).1;have v:j<size:=by rw[<-A p (bX aP)];exact(d6.1 a2).1
  have c:i*size+j<l.size:=by
   have:(i+1)*size<=a.length*size:=dR _ aL
   grind
  have:=f i j p x l[i*size+j] aP a2 (by simp[c]);have e:l.getD (i*size+j) undef=l[i*size+j]:=by simp[c]
  rw[e];exact this.mono (Ext.refl _ _) λb _=>D b
 have:a=[]:=List.length_eq_zero_iff.1 W;subst this;exact .gd _ _
theorem c4.ajl{β:Map}{w:World}{X G:Nat->Prop}{l:List dy}{m:Nat}{a:List (List T)}{u:Value}(h:c4 β w X k (.aC l m gen a []))(f:bC β w X (.bd k gen (U l m).size 0 a.length) u)
  (t: ∀b,G b->X b) (Q: ∀b,At β k b-> ¬G b):c7 w G (.bH a) u:=by
 obtain⟨q,D⟩:=rW h;rcases fb f D with ⟨L,b,n,v,rfl,o,I,hs,M,N,hm⟩|⟨o,_,P,rfl⟩
 ·subst o;rcases h.2 with ⟨p,R⟩|⟨hY,r,B,p,R,h3,W,V,_,_,Y⟩
  ·rw[D] at p;cases p
  rw[D] at p;cases p;rw[gL];have y: ∀i j,i<a.length->j<(U l m).size->i*(U l m).size+j<r.size:=λi j aL F=>by
   have:(i+1)*(U l m).size<=a.length*(U l m).size:=dR _ aL
   grind
  refine .bH a b 0 (U l m).size L (λi j=>r.getD (i*(U l m).size+j) undef) I (Q b (.inl ⟨_,D⟩)) N W (λi j aL F=>?_) λi j z x aP a2=>?_
  ·have:=y i j aL F;rw[dA];simp[World.cell?,R,this]
  have aL:=(d6.1 aP).1;have F:j<(U l m).size:=by rw[<-W z (bX aP)];exact(d6.1 a2).1
  have A:=y i j aL F
  have:=(V i j z x r[i*(U l m).size+j] aP a2 (by simp[A])).none;have e:r.getD (i*(U l m).size+j) undef=r[i*(U l m).size+j]:=by simp[A]
  rw[e];exact this.wU t λc bU=>Q c (.inr ((Y c).2 ⟨i,j,bU⟩))
 have:a=[]:=List.length_eq_zero_iff.1 P;subst this;exact .gd _ _
def uQ:V->List Nat
 | .bd k _ _ _ _=>[k]
 |_=>[]
mutual
def qA(H:Nat->Option E):V->List Nat
 | .bd k _ _ _ _=>[k]
 | .ref id _=>id::(match H id with
  |some (.cells cs)=>cs.flatMap uQ
  |_=>[])
 | .agg cs=>pc H cs
 | .bZ cs=>pc H cs
 | .fn _ cs=>pc H cs
 | .t _| .aU _| .cR _ _ _ _ _| .c'=>[]
def pc(H:Nat->Option E):List V->List Nat
 | []=>[]
 |v::a=>qA H v++pc H a
end
section
variable {β:Map}{w:World}{X X1:Nat->Prop}{H:Nat->Option E}
theorem Pk{x:T}{u:Value}(r: ∀k e,H k=aa e->c4 β w X k e)(n: ∀b,X1 b->X b)(z: ∀k,k∈uQ v-> ∀b,At β k b-> ¬X1 b)
  (h:yu H v=aa (x,c)) (a:cI c) (o:bC β w X v u):c7 w X1 x u:=by
 cases v with
 |bd k gen A B len=>
  simp only[yu] at h;split at h
  ·rename_i ty i p l q;cases h;obtain⟨rfl,rfl,rfl,rfl,_⟩:=a;exact(r k _ q).read o n (z k (by simp[uQ]))
  ·rename_i D m i l q;cases h;obtain⟨rfl,rfl,rfl,rfl,_⟩:=a;exact(r k _ q).ajl o n (z k (by simp[uQ]))
  cases h
 |t y=>
  simp only[yu] at h;cases h;cases o with|t _ _ h=>exact(h.mono (Ext.refl _ _) λb _=>n b).ze
 |agg=>cases h
 |bZ=>cases h
 |ref=>cases h
 |aU=>cases h
 |cR=>cases h
 |fn=>cases h
 |c'=>cases h
theorem Oo(r: ∀k e,H k=aa e->c4 β w X k e)(z: ∀b,X1 b->X b): ∀{a:List V} {e3:List T} {n:List dJ},(∀k,k∈a.flatMap uQ-> ∀b,At β k b-> ¬X1 b)->CK H a=aa (e3,n)->cI n->
  e3.length=a.length/\ ∀(l:Nat->Option Value),(∀(i:Nat) c u,a[i]? =aa c->l i=aa u->bC β w X c u)-> ∀(i:Nat) x u,e3[i]? =aa x->l i=aa u->c7 w X1 x u
 | [],_,_,_,h,_=>by cases h;exact⟨rfl,λ_ _ i x u D=>by simp at D⟩
 |v::a,e3,n,A,h,o=>by
  simp only[CK] at h;split at h
  ·rename_i x F M G L Q;cases h;obtain⟨R,W⟩:=cI.app o;obtain⟨f,t⟩:=Oo r z (λk p=>A k (by rw[List.flatMap_cons];exact o4 _ p)) Q W;refine⟨by simp[f],λl B i y u q m=>?_⟩;cases i with
   |zero=>
    simp at q;subst q;exact Pk r z (λk p=>A k (by rw[List.flatMap_cons];exact nU _ p)) L R (B 0 v u rfl m)
   |succ i=>
    exact t (λj=>l (j+1)) (λj c u I m=>B (j+1) c u (by simpa using I) m) i y u (by simpa using q) m
  cases h
mutual
theorem aec(G: ∀k e,H k=aa e->c4 β w X k e)(B: ∀b,X1 b->X b): ∀(v:V) {r:V} {y:List dJ} {u:Value},(∀k,k∈qA H v-> ∀b,At β k b-> ¬X1 b)->
  nv H v=aa (r,y)->cI y->bC β w X v u->bC fE w X1 r u
 | .bd k gen M l len,r,y,u,q,h,a,o=>by
  simp only[nv] at h;split at h
  ·rename_i x z A;cases h;exact .t _ _ (Pk G B (λj Q=>q j (by simpa[qA,uQ] using Q)) A a o)
  cases h
 | .t x,r,y,u,q,h,a,o=>by
  simp only[nv] at h;cases h;cases o with|t _ _ h=>exact .t _ _ (h.mono (Ext.refl _ _) λb _=>B b).ze
 | .aU cs,r,y,u,q,h,a,o=>by
  simp only[nv] at h;cases h;exact o.under (u:=gH) B (λ_ h=>by simp[gH] at h) rfl
 | .ref id l,r,y,u,q,h,a,o=>by
  simp only[nv] at h;split at h
  ·rename_i cs m;split at h
   ·rename_i e3 z A;cases h;obtain⟨b,N,rfl⟩:=r' o;obtain⟨hY,n,ty,P,T,mA,py⟩:=G id _ m;rw[N] at P;cases P;obtain⟨R,D⟩:=Oo G B (λk F=>q k (by simp only[qA,m];exact eW _ F)) A a;have W:b<w.heap.size:=by
     have:=(iE.1 T).1;exact this
    refine .aU (e3.drop l) b l (λj=>n.getD (l+j) undef) W (q id (by simp[qA]) b (.inl ⟨_,N⟩)) (λj Q=>?_) λj x I=>?_
    ·rw[fN] at Q
     have:l+j<n.size:=O
     simp[World.cell?,T,this]
    rw[fv] at I;have Q:=(d6.1 I).1
    have:l+j<n.size:=O
    have e:n.getD (l+j) undef=n[l+j]:=by simp[this]
    rw[e];exact D (λi=>n[i]?) (λi c u m p=>py i c u m p) (l+j) x _ I (by simp[this])
   cases h
  cases h
 | .agg cs,r,y,u,q,h,a,o=>by
  simp only[nv] at h;split at h
  ·rename_i U z A;cases h;cases o with|agg _ n Y L=>
   obtain⟨R,D⟩:=x1 G B cs (λk F=>q k (by simpa[qA] using F)) A a;exact .agg _ n O λi c u m p=>D (λi=>n[i]?) (λi c u m p=>L i c u m p) i c u m p
  cases h
 | .bZ cs,r,y,u,q,h,a,o=>by
  simp only[nv] at h;split at h
  ·rename_i U z A;cases h;cases o with|bZ _ n Y L=>
   obtain⟨R,D⟩:=x1 G B cs (λk F=>q k (by simpa[qA] using F)) A a;exact .bZ _ n O λi c u m p=>D (λi=>n[i]?) (λi c u m p=>L i c u m p) i c u m p
  cases h
 | .fn f cs,r,y,u,q,h,a,o=>by
  simp only[nv] at h;split at h
  ·rename_i U z A;cases h;cases o with|fn _ _ n Y L=>
   obtain⟨R,D⟩:=x1 G B cs (λk F=>q k (by simpa[qA] using F)) A a;exact .fn _ _ n O λi c u m p=>D (λi=>n[i]?) (λi c u m p=>L i c u m p) i c u m p
  cases h
 | .cR _ _ _ _ _,_,_,_,_,h,_,_=>by simp only[nv] at h;cases h
 | .c',_,_,_,_,h,_,_=>by simp only[nv] at h;cases h
theorem x1(z: ∀k e,H k=aa e->c4 β w X k e)(A: ∀b,X1 b->X b): ∀(l:List V) {a:List V} {o:List dJ},(∀k,k∈pc H l-> ∀b,At β k b-> ¬X1 b)->
  ps H l=aa (a,o)->cI o->a.length=l.length/\ ∀(m:Nat->Option Value),(∀(i:Nat) c u,l[i]? =aa c->m i=aa u->bC β w X c u)-> ∀(i:Nat) x u,a[i]? =aa x->m i=aa u->bC fE w X1 x u
 | [],_,_,_,h,_=>by simp only[ps] at h;cases h;exact⟨rfl,λ_ _ i x u F=>by simp at F⟩
 |v::l,a,o,B,h,p=>by
  simp only[ps] at h;split at h
  ·rename_i x G N L Q R;cases h;obtain⟨W,f⟩:=cI.app p;obtain⟨t,I⟩:=x1 z A l (λk q=>B k (by simp only[pc];exact o4 _ q)) R f;refine⟨by simp[t],λm D i y u r n=>?_⟩;cases i with
   |zero=>
    simp at r;subst r;exact aec z A v (λk q=>B k (by simp only[pc];exact nU _ q)) Q W (D 0 v u rfl n)
   |succ i=>
    exact I (λj=>m (j+1)) (λj c u M n=>D (j+1) c u (by simpa using M) n) i y u (by simpa using r) n
  cases h
end
theorem aed(r: ∀k e,H k=aa e->c4 β w X k e)(x: ∀b,X1 b->X b): ∀{l a:List V} {m:List dJ} {us:List Value},(∀k,k∈pc H l-> ∀b,At β k b-> ¬X1 b)->
  ps H l=aa (a,m)->cI m->du β w X l us->du fE w X1 a us:=fun {l a m us} y h n q=>by obtain⟨z,A⟩:=x1 r x l y h n;exact FX (by rw[z];exact q.fF.1) λi c u o p=>A (λi=>us[i]?) (λi c u o p=>q.fF.2 i c u o p) i c u o p
end
theorem acP{C:dX}(yI:C.P=K.P)(j7:C.G=K.G){c:Operand}{i:Array Operand}{x:Array TypeId}{l:List V}{H:Nat->Option E}{T:List cG}{U:List dJ}(cJ:j2 K.nt d=ab)(hH: ∀k e,H k=aa e->s.H k=aa e)
  (L:l=s.get c::i.toList.map s.get) (h:It C d H l T=aa (e,U,F)) (R:cI U):dZ K ⟨d,.call {callee:= .value c,args:=i,argTypes:=x},ty,pos,af,g⟩ s (e.app s):=by
 unfold It at h;split at h
 ·rename_i f m args;split at h
  ·rename_i r T;split at h
   ·rename_i ys akG n W;cases h;rw[oY];obtain⟨zj,⟨y,o⟩,_⟩:=cI.app R;rw[yI] at y o;rw[j7] at o;simp only[List.cons.injEq] at L;obtain⟨Y,h1,h2,h3⟩:=y;intro β a w next Q q j
    have t:Y.name≠ "runtime.NumGoroutine" :=by simpa using h2
    have v:Y.body≠ak:=by intro e;simp[e] at h3
    obtain⟨us,I,M⟩:=(L.1.symm▸q.get c).Jc;have z:(execOp a.eval ⟨d,.call {callee:= .value c,args:=i,argTypes:=x},ty,pos,af,g⟩).run K.P w= .ok (.enter f (i.map a.eval++us)) w:=by
     simp[execOp,resolve,Deferred.ofValue,I,invoke,callFunc,h1,t,v]
    unfold Oper.wp;rw[z,Oper.upon_enter];have A:du β w (own K β s.H) (args++m) (i.toList.map a.eval++us.toList):=by rw[L.2];exact(q.oG i.toList).app M
    let X1:Nat->Prop:=λb=>own K β s.H b/\ ∀k,k∈pc H (args++m)-> ¬At β k b;have p:=aed (X1:=X1) (λk e N=>(q.heap k e (hH k e N)).2) (λb n=>n.1) (λk j b n hx=>hx.2 k j n) n zj A;have B:=o w X1 _ q.Df (λb n=>q.Kb b n.1) p;have N:(bj a.eval i.toList++us.toList).toArray=i.map a.eval++us:=by rw[<-xb,<-Array.toList_append]
    rw[N] at B;refine B.mono ?_;rintro e w' ⟨u,rfl,D,hu⟩;exact j β _ w' ((q.grow D).put d (gF cJ) (N3 W hu))
   cases h
  cases h
 cases h
theorem ad2{C:dX}(N:C.P=K.P)(T:C.G=K.G){c:Operand}{D:Array Operand}{q:Array TypeId}{l:List V}{H:Nat->Option E}{t:List dJ}(U:j2 K.nt d=ab)
  (Y: ∀k e,H k=aa e->s.H k=aa e) (hu: ∀k,u k=al->s.u k=al)
  (x:l=s.get c::D.toList.map s.get) (h:II C d l H u W=aa (e,t,F)) (Q:cI t):dZ K ⟨d,.call {callee:= .value c,args:=D,argTypes:=q},ty,pos,af,g⟩ s (e.app s):=by
 unfold II at h;split at h
 ·rename_i f z args;split at h
  ·rename_i L a r out W;split at h
   ·rename_i R fu gT aL m;cases h;simp only[List.cons.injEq] at x;simp only[cB] at m;obtain⟨⟨n,A⟩,b⟩:=m;have b:=db b;obtain⟨⟨I,p⟩,_⟩:=Q;rw[N] at I p;rw[T] at p;obtain⟨aP,a2⟩:=x8 _ _ gT;obtain⟨i1,i2⟩:=BT _ _ aL;have hx:=aaF (K:=K) (s:=s) (o:=⟨d,.call {callee:= .value c,args:=D,argTypes:=q},ty,pos,af,g⟩) c L a z rfl x.1.symm I (gF U) (by rw[<-x.2,aP];exact mX _) a2 i1
     (λk e i=>by
      obtain⟨id,h1,h2,h4⟩:=i2 k e i;exact⟨id,h1,Y _ _ h2,h4⟩)
     (AX n) (λid hid=>hu _ (L7 A id hid)) (λ_=>b) p
    have hj:=hx.j;have i:dd.app ⟨m0 d (r.ek (L++a)),(L++a).zip (out.map λe=>aa (e.ek (L++a))),(L++a).map λk=>(k,ab)⟩ s=(s.after (L++a) out).put d (r.ek (L++a)):=by
     have e1:dz s.H ((L++a).zip (out.map λe=>aa (e.ek (L++a))))=lj s.H (L++a) (λk=>(out[k]?).map (E.ek (L++a))):=by
      have:=Mj (L++a) (AX n) s.H (out.map λe=>aa (e.ek (L++a))) (λk=>(out[k]?).map (E.ek (L++a))) (by simpa using b) (λk e i=>by
       rw[eG] at i;cases M:out[k]? with
       |none=>rw[M] at i;cases i
       |some y=>rw[M] at i;simp at i;rw[<-i];rfl)
      exact this
     have e2:dz s.u ((L++a).map λk=>(k,ab))=lj s.u (L++a) (λ_=>ab):=by
      funext id;by_cases B:id∈L++a
      ·obtain⟨k,hk⟩:=jq.1 B;rw[oS (AX n) hk];exact Ma B
      rw[nH B,mK _ _ _ λv x=>B (by obtain⟨y,hy,e⟩:=eH.1 x;cases e;exact hy)]
     unfold dd.app S.after;cases d<;>simp only[m0,dz,S.put,e1,e2]
    grind
   cases h
  cases h
 cases h
theorem ZA{C:dX}(z:ee K.P C.cE){H:Nat->Option E}(A: ∀k e,H k=aa e->s.H k=aa e)
  (B:s.get x=v) (h:Hd C t H v l=aa (e,c,b)) (m:cI c):dZ K ⟨ak,.call {callee:= .builtin .clear,args:= #[x],argTypes:= #[t]},ty,pos,af,g⟩ s (e.app s):=by
 unfold Hd at h;split at h
 ·cases h
 rename_i i G;split at h
 ·rename_i o p;have D:K.P.underlying t=aa (.slice o):=(z _ _ G).iD.2.2.2 o p;split at h
  ·cases h
  rename_i j L;obtain⟨f,F,_⟩:=z _ _ L;split at h
  ·rename_i n;split at h
   ·rename_i q r;cases h;obtain⟨rfl,rfl,a,⟨y,rfl⟩,_⟩:=m;exact aez x _ _ _ o _ _ _ B (A _ _ q) D F r n a y
   ·rename_i q r;cases h;obtain⟨rfl,Q,a,⟨R,y,rfl⟩,W,_⟩:=m;subst Q;exact ach x _ _ _ o _ _ _ _ _ B (A _ _ q) rfl D F r n a R y W
   cases h
  cases h
 cases h
theorem aaU{C:dX}(z:ee K.P C.cE){A:TypeId}{H:Nat->Option E}{w:V}{B:List cG}{D:List dJ}(L: ∀k e,H k=aa e->s.H k=aa e)(Q:j2 K.nt d=ab)
  (W:s.get x=v) (f:s.get y=w) (h:H0 C d t H v w B=aa (e,D,l)) (n:cI D):dZ K ⟨d,.call {callee:= .builtin .copy,args:= #[x,y],argTypes:= #[t,A]},ty,pos,af,g⟩ s (e.app s):=by
 unfold H0 at h;split at h
 ·cases h
 rename_i i u;split at h
 ·rename_i o p;have I:K.P.underlying t=aa (.slice o):=(z _ _ u).iD.2.2.2 o p;split at h
  ·cases h
  rename_i j F;obtain⟨Dw,M,_⟩:=z _ _ F;split at h
  ·rename_i k gen G q len a R m B N;split at h
   ·rename_i T b r c U Y;cases h;obtain⟨rfl,rfl,rfl,rfl,b6,⟨cS,rfl⟩,_⟩:=n;have F:=afw (K:=K) (s:=s) (d:=d) (ty:=ty) (pos:=pos) (af:=af) (g:=g) (gen:=b) (size:=j.size) x y k q len o T A c a (gF Q) W (by rw[f,<-N];exact uP w) (L _ _ U) I M (by simpa[Nat.blt_eq] using Y) b6 cS
    have: ∀v e,dd.app ⟨m0 d v,[(k,aa e)],[]⟩ s=({s with H:=a' s.H k (aa e)}:S).put d v:=by intro v e;cases d<;>rfl
    grind
   cases h
  cases h
 cases h
theorem ae8{C:dX}(q:ee K.P C.cE)(I:C.P=K.P)(T:C.G=K.G)(ca:C.nt=K.nt)(U:C.eg=K.eg){l:List V}{H:Nat->Option E}{Q:List cG}{R:List dJ}
  (a:l=o.op.operands.toList.map s.get) (B: ∀k e,H k=aa e->s.H k=aa e) (L: ∀k,u k=al->s.u k=al) (h:I7 C o l H u M=aa (e,R,Q)) (b:cI R):dZ K o s (e.app s):=by
 obtain⟨d,W,ty,pos,af,g⟩:=o;unfold I7 at h;dsimp only at h;split at h
 ·cases h
 rename_i p;rw[ca] at p;have D: ∀{W:Op} {r:je},l=W.operands.toList.map s.get->(match yD C.P C.cE H W l M with|some (v,R,M)=>aa ((⟨m0 d v,[],[]⟩:dd),R,M)|none=>ak)=aa (e,R,Q)->dZ K ⟨d,W,ty,pos,af,g⟩ s (e.app s):=by
  intro W r a h;split at h
  ·rename_i v akF aka m;cases h;rw[oY];rw[I] at m;exact Xk (vals:=l) (gF p) (fH.of_eq a.symm) ((ae7 q m b).sub B)
  cases h
 split at h
 ·split at h
  ·simp only[Op.operands,hg,List.map_nil,List.cons.injEq,and_true] at a;split at h
   ·exact aaY p a.symm h
   exact acO L p a.symm h
  cases h
 ·split at h
  ·rename_i i aL;exact ZC q aL L p h
  cases h
 ·split at h
  ·simp only[Op.operands,hg,List.map_nil,List.cons.injEq,and_true] at a;split at h
   ·rename_i m;cases h;exact Z1 q rfl B a.1.symm a.2.symm m b
   exact XL q B a.1.symm a.2.symm h b
  cases h
 ·split at h
  ·simp only[Op.operands,hg,List.map_nil,List.cons.injEq,and_true] at a;exact aaS q L p a.1.symm a.2.symm h b
  cases h
 ·split at h
  ·rename_i m;cases h;exact ac3 q L p (by simpa[Op.operands] using a) m b
  exact aaT q L p (by simpa[Op.operands] using a) h
 ·rename_i c;obtain⟨N,args,F⟩:=c;dsimp only at h;split at h
  ·rename_i f;split at h
   ·exact ad2 I T p B L (by simpa[Op.operands,Call.operands] using a) h b
   split at h
   ·exact acP I T p B (by simpa[Op.operands,Call.operands] using a) h b
   exact aaX I T p (by simpa[Op.operands,Call.operands] using a) h b
  ·split at h
   ·rename_i x y t Y v w j z;have A:args= #[x,y]:=by rw[<-j]
    have n:F= #[t,Y]:=by rw[<-z]
    subst A;subst n;simp only[Op.operands,Call.operands] at a;simp at a;split at h
    ·rename_i m;cases h;exact Yu q U B p a.1.symm a.2.symm m b
    exact WS q B p a.1.symm a.2.symm h b
   cases h
  ·split at h
   ·rename_i x t v j z;have A:args= #[x]:=by rw[<-j]
    have n:F= #[t]:=by rw[<-z]
    subst A;subst n;simp only[Op.operands,Call.operands] at a;simp at a;exact ZA q B a.symm h b
   cases h
  ·split at h
   ·rename_i x y t Y v w j z;have A:args= #[x,y]:=by rw[<-j]
    have n:F= #[t,Y]:=by rw[<-z]
    subst A;subst n;simp only[Op.operands,Call.operands] at a;simp at a;exact aaU q B p a.1.symm a.2.symm h b
   cases h
  ·exact D (r:=ak) a h
  cases h
 exact D (r:=ak) a h
def aip:V->List Nat
 | .ref id _=>[id]
 | .bd id _ _ _ _=>[id]
 | .cR id _ _ _ _=>[id]
 |_=>[]
def IG:List V->List Nat
 | []=>[]
 |v::a=>aip v++IG a
def R9:List cG->List Nat
 | .nat k::a=>k::R9 a
 |_=>[]
def aio:List cG->List Nat
 | .b ab::c=>R9 c
 | .nat k::_=>[k]
 | .int _:: .nat k::_=>[k]
 | .dD L a _ _::_=>L++a
 | .lt k _ _::_=>[k]
 |_=>[]
def ih(k:Nat):List Nat->Bool
 | []=>al
 |x::l=>bif b7 x k then ab else ih k l
theorem Bo{k:Nat}: ∀{l:List Nat},ih k l=ab->k∈l
 | [],h=>by cases h
 |x::l,h=>by
  simp only[ih] at h;cases a:b7 x k with
  |true=>rw[db a];exact fh
  |false=>rw[a] at h;exact eW _ (Bo h)
def vb(a:List Nat)(H:Nat->Option E):Nat->Option E:=λk=>bif ih k a then H k else ak
def va(a:List Nat)(u:Nat->Bool):Nat->Bool:=λk=>bif ih k a then u k else ab
theorem Y4{H:Nat->Option E}{e:E}(h:vb r H k=aa e):H k=aa e:=by
 unfold vb at h
 grind
theorem Yb(h:va r u k=al):u k=al:=by
 unfold va at h
 grind
def afO:Op->List V->Bool
 | .nilCheck _,[.cR _ _ _ _ _]=>al
 | .move _,_| .assign _,_| .pick _ _ _,_| .nilCheck _,_| .binOp _ _ _ _ _,_| .unOp _ _ _,_| .convert _ _ _,_| .makeFunc _ _ _,_| .extract _ _,_| .field _ _ _,_| .build _ _,_=>ab
 | .fieldAddr _ _ _,[.ref _ _]=>ab
 |_,_=>al
def afJ:Op->Bool
 | .load _ _| .slice _ _ _ _ _| .fieldAddr _ _ _| .indexAddr _ _ _| .index _ _ _| .nilCheck _=>ab
 | .call c=>match c.callee with
  | .builtin .len=>ab
  | .builtin .max=>ab
  | .builtin .min=>ab
  |_=>al
 |_=>al
def vP(o:Oper)(a:List V)(b:List cG):List Nat:=match afO o.op a with
 |true=>[]
 |false=>match afJ o.op with
  |true=>IG a
  |false=>IG a++aio b
def qV(C:dX)(o:Oper)(a:List V)(s:S)(b:List cG):je:=I7 C o a (vb (vP o a b) s.H) (va (vP o a b) s.u) b
def JZ:Bool->Bool->Bool
 |true,ab=>ab
 |false,al=>ab
 |_,_=>al
def vm(a:Array Oper)(j:Nat)(s:S):Option V:=match (a[j]?).bind (·.dst) with
 |some t=>aa (s.t t)
 |none=>ak
def sP(C:dX)(h:Array Oper)(o:Oper)(a:List cG)(s:S):je:=
 match o.guard with
 |none=>qV C o (o.op.operands.toList.map s.get) s a
 |some (j,c)=>match vm h j s with
  |some (.bZ [])=>match j2 C.nt o.dst with
   |true=>aa (⟨m0 o.dst (.bZ []),[],[]⟩,[],a)
   |false=>ak
  |some (.t (.bool b))=>match a with
   | .b w::a=>match JZ w c with
    |true=>match qV C o (o.op.operands.toList.map s.get) s a with
     |some (e,i,a)=>aa (e,.p (b=w)::i,a)
     |none=>ak
    |false=>match j2 C.nt o.dst with
     |true=>aa (⟨m0 o.dst (.bZ []),[],[]⟩,[.p (b=w)],a)
     |false=>ak
   |_=>ak
  |_=>ak
end
structure dX.Fits (C:dX) (K:Ctx):Prop where
 T:ee K.P C.cE
 P:C.P=K.P
 G:C.G=K.G
 nt:C.nt=K.nt
 eg:C.eg=K.eg
 hi:C.hi=K.hi
section
variable {K:Ctx}{s:S}{C:dX}
theorem P'(a:C.Fits K)(h:qV C o (o.op.operands.toList.map s.get) s i=aa (e,c,b))(k:cI c):dZ K o s (e.app s):=
 ae8 a.T a.P a.G a.nt a.eg rfl (λ_ _ h=>Y4 h) (λ_ h=>Yb h) h k
theorem acm{w v:Bool}(h:JZ w v=ab):w=v:=by cases w<;>cases v<;>first|rfl|cases h
theorem abi{w v:Bool}(h:JZ w v=al):w= !v:=by cases w<;>cases v<;>first|rfl|cases h
theorem PB{b:Array Oper}{j:Nat}(h:vm b j s=aa v): ∃t,(b[j]?).bind (·.dst)=aa t/\s.t t=v:=by
 unfold vm at h
 grind
theorem Qm(q:C.Fits K){c:Array Oper}(h:sP C c o l s=aa (e,m,i))(a:cI m):iq K c o s (e.app s):=by
 unfold sP at h;split at h
 ·rename_i n;exact iq.of n (P' q h a)
 rename_i j A n;split at h
 ·rename_i k;obtain⟨t,r,x⟩:=PB k;split at h
  ·rename_i y;cases h;rw[oY];exact iq.skip n r x (gF (q.nt▸y))
  cases h
 ·rename_i b k;obtain⟨t,r,x⟩:=PB k;split at h
  ·rename_i w l;split at h
   ·rename_i hw;have hw:=acm hw;subst hw;split at h
    ·rename_i F B D z;cases h;obtain⟨rfl,p⟩:=a;exact iq.fu n r x (P' q z p)
    cases h
   rename_i hw;have hw:=abi hw;subst hw;split at h
   ·rename_i y;cases h;obtain⟨rfl,_⟩:=a;rw[oY];exact iq.out n r x (gF (q.nt▸y))
   cases h
  cases h
 cases h
theorem aeV{b:Array Oper}{l:List Oper}{c:S}{Q:S->Prop}(h:iq K b o s c)(m:qI K b l c Q):qI K b (o::l) s Q:=
 λβ a w e n p=>h β a w (wpList K.P b e l) e n λi q r k=>m i q r e k p
end
end
section
def dd.cat(a b:dd):dd:=⟨a.e3++b.e3,a.hs++b.hs,a.us++b.us⟩
def dd.nil:dd:=⟨[],[],[]⟩
theorem NX{k:Type}: ∀(a b:List (Nat×k)) (f:Nat->k),dz f (a++b)=dz (dz f a) b
 | [],_,_=>rfl
 |(d,v)::a,b,f=>by simp only[List.cons_append,dz];exact NX a b _
theorem oF(a b:dd)(s:S):(a.cat b).app s=b.app (a.app s):=by unfold dd.app dd.cat;simp only[NX]
theorem nG{k:Type}: ∀(l:List (Nat×k)) (f:Nat->k) (r:Nat),((∀v,(r,v)∉l)/\dz f l r=f r)\/ ∃v,(r,v)∈l/\dz f l r=v
 | [],_,_=> .inl ⟨λ_ h=>(lr h).elim,rfl⟩
 |(d,v)::l,f,r=>by
  rcases nG l (a' f d v) r with ⟨b,a⟩|⟨c,b,a⟩
  ·by_cases e:r=d
   ·subst e;exact .inr ⟨v,fh,by rw[dz,a,cy]⟩
   refine .inl ⟨λc h=>?_,by rw[dz,a,cr _ _ _ _ e]⟩;rcases eh.1 h with h|h
   ·cases h;exact e rfl
   exact b c h
  exact .inr ⟨c,eW _ b,by rw[dz,a]⟩
mutual
def lC:V->V->V
 | .t (.bH _),v=>nM v
 | .agg cs,.agg a=> .agg (qK cs a)
 | .bZ cs,.bZ a=> .bZ (qK cs a)
 | .c',_=> .c'
 |_,v=>v
def qK:List V->List V->List V
 |c::cs,v::a=>lC c v::qK cs a
 |_,a=>a
end
mutual
theorem Hq: ∀c v:V,dK v (lC c v)
 | .t (.bH _),v=>by simp only[lC];exact uP v
 | .agg cs,.agg a=>by simp only[lC];exact dK.agg (Cf cs a)
 | .bZ cs,.bZ a=>by simp only[lC];exact dK.bZ (Cf cs a)
 | .c',v=>by simp only[lC];exact dK.c' v
 | .t (.bool _),v| .t (.int _ _),v| .t (.str _),v| .t .fp,v| .t .gY,v| .t .gl,v| .t .lX,v| .t .err,v=>by simp only[lC];exact dK.refl v
 | .ref _ _,v| .aU _,v| .bd _ _ _ _ _,v| .cR _ _ _ _ _,v| .fn _ _,v=>by simp only[lC];exact dK.refl v
 | .agg _,.t _| .agg _,.bZ _| .agg _,.ref _ _| .agg _,.aU _| .agg _,.bd _ _ _ _ _| .agg _,.cR _ _ _ _ _| .agg _,.fn _ _| .agg _,.c'=>by simp only[lC];exact dK.refl _
 | .bZ _,.t _| .bZ _,.agg _| .bZ _,.ref _ _| .bZ _,.aU _| .bZ _,.bd _ _ _ _ _| .bZ _,.cR _ _ _ _ _| .bZ _,.fn _ _| .bZ _,.c'=>by simp only[lC];exact dK.refl _
theorem Cf: ∀cs a:List V,fH a (qK cs a)
 |c::cs,v::a=>by simp only[qK];exact⟨Hq c v,Cf cs a⟩
 | [],a=>by simp only[qK];exact fH.refl a
 |_::_,[]=>by simp only[qK];exact trivial
end
def CW:Option E->Option E->Option E
 |some (.cells cs),aa (.cells a)=>aa (.cells (qK cs a))
 |some _,e=>e
 |none,_=>ak
variable {c s a:S}{e x:E}{β W:Map}{w:World}{r l:List Nat}{b:List (Nat×Option E)}{d:List (Nat×Bool)}{k i n gen L m g:Nat}{q:Option Nat}{X j:Nat->Prop}{Q:Exit->S->Prop}{v:V}{u:Value}{p:V->V->Prop}{o:Oper}
theorem PC{c e:Option E}(h:CW c e=aa x): ∃a,e=aa a/\jQ a x:=by
 unfold CW at h;split at h
 ·cases h;exact⟨_,rfl,Cf _ _⟩
 ·exact⟨x,h,jQ.refl x⟩
 cases h
def uU(s:S):List (Nat×V)->List V
 | []=>[]
 |(i,v)::l=>lC v (s.t i)::uU s l
def u2(s:S):List (Nat×Option E)->List (Option E)
 | []=>[]
 |(k,e)::l=>CW e (s.H k)::u2 s l
def ky{k:Type}:List (Nat×k)->List k
 | []=>[]
 |(_,v)::l=>v::ky l
theorem GG{s:S}: ∀{l:List (Nat×V)},uU s l=ky l-> ∀i v,(i,v)∈l->dK (s.t i) v
 |(a,b)::l,h,i,v,hm=>by
  simp only[uU,ky,List.cons.injEq] at h;rcases eh.1 hm with hm|hm
  ·cases hm;exact h.1▸Hq _ _
  exact GG h.2 i v hm
theorem GZ{s:S}: ∀{l:List (Nat×Option E)},u2 s l=ky l-> ∀k e,(k,aa e)∈l-> ∃a,s.H k=aa a/\jQ a e
 |(lb,a)::l,h,k,e,hm=>by
  simp only[u2,ky,List.cons.injEq] at h;rcases eh.1 hm with hm|hm
  ·cases hm;exact PC h.1
  exact GZ h.2 k e hm
def r9{k:Type}(a:List Nat):List (Nat×k)->Bool
 | []=>ab
 |(i,_)::l=>ih i a&&r9 a l
theorem Gb{k:Type}{r:List Nat}: ∀{l:List (Nat×k)},r9 r l=ab-> ∀i v,(i,v)∈l->i∈r
 |(a,b)::l,h,i,v,hm=>by
  simp only[r9,cB] at h;rcases eh.1 hm with hm|hm
  ·cases hm;exact Bo h.1
  exact Gb h.2 i v hm
def yq{k:Type}:List (Nat×k)->List Nat
 | []=>[]
 |(i,_)::l=>i::yq l
theorem N0{k:Type}{i:Nat}: ∀{l:List (Nat×k)},i∈yq l-> ∃v,(i,v)∈l
 |(c,a)::l,h=>by
  simp only[yq,List.mem_cons] at h;rcases h with rfl|h
  ·exact⟨a,fh⟩
  obtain⟨v,b⟩:=N0 h;exact⟨v,eW _ b⟩
def CN(a:List Nat)(t:Nat->V):Nat->V:=λi=>bif ih i a then .c' else t i
def S.cl(s:S)(a:List Nat)(b:List (Nat×V))(c:List (Nat×Option E))(d:List (Nat×Bool)):S:={t:=dz (CN a s.t) b,H:=dz s.H c,u:=dz s.u d}
theorem Rel.Ky{K:Ctx}{a:Act}(l:Rel K β s a w)(n:c.u=s.u)(x: ∀k e,c.H k=aa e-> ∃m,s.H k=aa m/\jQ m e)(y: ∀i,dK (s.t i) (c.t i)):Rel K β c a w:=by
 have d: ∀b,own K β c.H b->own K β s.H b:=by
  rintro b (h|⟨id,p,q⟩)
  ·exact .inl h
  cases o:c.H id with
  |none=>exact br o p
  |some e=>
   obtain⟨m,r,_⟩:=x id e o;exact .inr ⟨id,by rw[r];simp,q⟩
 refine {l with low:= ?_,d':= ?_,eB:= ?_,heap:= ?_,dB:= ?_}
 ·intro id h;rw[n];exact l.low id h
 ·intro id h;rw[n] at h;exact l.d' id h
 ·intro id b h;rw[n] at h;exact l.eB id b h
 ·intro id e o;obtain⟨m,p,q⟩:=x id e o;obtain⟨r,z⟩:=l.heap id m p;refine⟨by rw[n];exact r,?_⟩;exact(q.tO z).mono (Ext.refl _ _) (λb _=>d b) (dT.refl _) (λ_ h=>h) (Shaped.refl _ _) λ_ _=>rfl
 intro i;exact(y i _ _ _ _ (l.dB i)).mono (Ext.refl _ _) (λb _=>d b) (dT.refl _) (Shaped.refl _ _)
theorem Ut{K:Ctx}{e:dd}{c:List (Nat×V)}(y:e.us=d)(z:r9 r e.e3=ab)(A:r9 (yq b) e.hs=ab)
  (B:uU (e.app s) c=ky c) (D:u2 (e.app s) b=ky b):(e.app s).le K (s.cl r c b d):=by
 intro F a w G;refine⟨F,G.Ky ?_ ?_ ?_⟩
 ·show dz s.u d=dz s.u e.us;rw[y]
 ·intro k x n;have n:dz s.H b k=aa x:=n;rcases nG b s.H k with ⟨o,m⟩|⟨v,o,m⟩
  ·rw[m] at n;refine⟨x,?_,jQ.refl x⟩;show dz s.H e.hs k=aa x;rw[mK _ _ _ λv p=>?_]
   ·exact n
   obtain⟨R,L⟩:=N0 (Gb A k v p)
   grind
  rw[m] at n;subst n;exact GZ D k x o
 intro i;show dK _ (dz (CN r s.t) c i);rcases nG c (CN r s.t) i with ⟨o,m⟩|⟨v,o,m⟩
 ·rw[m];unfold CN;cases q:ih i r with
  |true=>exact dK.c' _
  |false=>
   show dK (dz s.t e.e3 i) (s.t i);rw[mK _ _ _ (λv p=>by
    have hm:=Gb z i v p
    have: ∀{l:List Nat},i∈l->ih i l=ab:=by
     intro l;induction l with
     |nil=>intro h;cases h
     |cons x l Q=>
      intro h;simp only[ih];rcases eh.1 h with rfl|h
      ·simp
      cases b7 x i with
      |true=>rfl
      |false=>exact Q h
    rw[this hm] at q;cases q)]
   exact dK.refl _
 rw[m];exact GG B i v o
theorem NW{k:Type}(f:Nat->k)(i:Nat):a' f i (f i)=f:=by
 funext j;by_cases a:j=i
 ·subst a;rw[cy]
 rw[cr _ _ _ _ a]
def Map.move(a:Map)(k c gen:Nat)(q:Option Nat):Map:=
 ⟨λi=>bif b7 i c then aa (q,1) else bif b7 i k then aa (ak,gen+1) else a i,λi b=>(i=c/\a.n k b)\/(i≠c/\i≠k/\a.n i b)⟩
theorem Ig(h:i≠k):b7 i k=al:=by
 cases a:b7 i k with
 |false=>rfl
 |true=>exact br (db a) h
theorem Oj(b:Map)(k a gen:Nat)(q:Option Nat):b.move k a gen q a=aa (q,1):=by simp[Map.move]
theorem Oi(b:Map)(k a gen:Nat)(q:Option Nat)(h:k≠a):b.move k a gen q k=aa (ak,gen+1):=by simp[Map.move,Ig h]
theorem MG(a:Map)(k b gen:Nat)(q:Option Nat)(id:Nat)(h:id≠k)(c:id≠b):a.move k b gen q id=a id:=by simp[Map.move,Ig h,Ig c]
theorem afs(c:Map)(k d gen:Nat)(q:Option Nat)(a b:Nat)(h:a≠k)(e:a≠d):(c.move k d gen q).n a b↔c.n a b:=by simp[Map.move,h,e]
theorem aer(d:k≠n)(e:W k=aa (q,gen)){b:Nat}(h:At (W.move k n gen q) i b):(i=n/\At W k b)\/(i≠k/\i≠n/\At W i b):=by
 rcases h with ⟨g,h⟩|⟨rfl,h⟩|⟨a,c,h⟩
 ·by_cases a:i=n
  ·subst a;rw[Oj] at h;cases h;exact .inl ⟨rfl,.inl ⟨gen,e⟩⟩
  by_cases c:i=k
  ·subst c;rw[Oi _ _ _ _ _ d] at h;cases h
  rw[MG _ _ _ _ _ _ c a] at h;exact .inr ⟨c,a,.inl ⟨g,h⟩⟩
 ·exact .inl ⟨rfl,.inr h⟩
 exact .inr ⟨c,a,.inr h⟩
theorem c4.set{b:Nat}{a:List V}{j:Nat}{c x:V}(h:c4 β w X b (.cells a))(n:a[j]? =aa c)(o: ∀u,bC β w X c u->bC β w X x u):c4 β w X b (.cells (a.set j x)):=by
 obtain⟨d,e,ty,k,l,m,p⟩:=h;refine⟨d,e,ty,k,l,by simpa using m,λi v u q r=>?_⟩
 grind
theorem Xi{K:Ctx}(b k i j gen p:Nat){e:TypeId}{n:List (List T)}{L:List dy}{Q:Nat}{l:List (List T)}{R:List (Nat×Nat×V)}(W:dC K.eg k=ab)(X:b≠k)
  (bw:s.H b=aa (.aC L m Q l ((i,j,.bd k gen p 0 n.length)::R))) (hk:s.H k=aa (.arr e gen p n)):
  s.le K {t:=s.t,H:=a' (a' s.H k ak) b (aa (.aC L m Q l ((i,j,.t (.bH n))::R))),u:=s.u}:=by
 intro y a w h;have s8:=e9 W;generalize f':(aa (.aC L m Q l ((i,j,.t (.bH n))::R)):Option E)=N;have ajQ:N≠ak:=by subst f';simp
 have d: ∀o,own K y (a' (a' s.H k ak) b N) o->own K y s.H o:=by
  rintro o (f|⟨id,q,F⟩)
  ·exact .inl f
  by_cases z:id=b
  ·subst z;exact .inr ⟨id,by rw[bw];simp,F⟩
  rw[cr _ _ _ _ z] at q;by_cases r:id=k
  ·subst r;rw[cy] at q;exact br rfl q
  rw[cr _ _ _ _ r] at q;exact .inr ⟨id,q,F⟩
 have A: ∀o,At y k o-> ¬own K y (a' (a' s.H k ak) b N) o:=by
  rintro o D (f|⟨id,q,F⟩)
  ·obtain⟨ja,kW⟩:=h.ko o f;rcases(h.fresh k o D).1 with g|kJ
   ·exact kW g
   omega
  have:=h.inj _ _ _ F D;subst this;rw[cr _ _ _ _ (Ne.symm X),cy] at q;exact q rfl
 have I:=(h.heap k _ hk).2;refine⟨y,{h with heap:= ?_,dB:= ?_}⟩
 ·intro id e' c;have c:a' (a' s.H k ak) b N id=aa e':=c;by_cases z:id=b
  ·subst z;rw[cy] at c;subst c;cases f';obtain⟨r,G⟩:=h.heap id _ bw;refine⟨r,G.1,?_⟩;rcases G.2 with ⟨aP,a2,a3⟩|⟨o,us,B,aP,a2,a3,a4,a5,jx,hB,fI⟩
   ·exact .inl ⟨aP,a2,a3⟩
   refine .inr ⟨o,us,B,aP,a2,a3,a4,λgU ey M x u dm cM fJ=>?_,jx,hB,fI⟩;have P:=a5 gU ey M x u dm cM fJ;refine⟨λv bx=>?_,λU=>?_⟩
   ·rcases eh.1 bx with e|bx
    ·simp only[Prod.mk.injEq] at e;obtain⟨rfl,rfl,rfl⟩:=e;obtain⟨Y,d2⟩:=P.1 _ fh;exact⟨.t _ _ (I.read Y d A),d2⟩
    obtain⟨Y,d2⟩:=P.1 v (eW _ bx);exact⟨Y.mono (Ext.refl _ _) (λb _=>d b) (dT.refl _) (Shaped.refl _ _),d2⟩
   have hne: ¬(gU=i/\ey=j):=by rintro⟨rfl,rfl⟩;exact U _ fh
   refine(P.2 λv bx=>?_).mono (Ext.refl _ _) (λb _=>d b) (λ_ _=>rfl)
   grind
  rw[cr _ _ _ _ z] at c;by_cases r:id=k
  ·subst r;rw[cy] at c;cases c
  rw[cr _ _ _ _ r] at c;obtain⟨G,h6⟩:=h.heap id e' c;exact⟨G,h6.mono (Ext.refl _ _) (λb _=>d b) (dT.refl _) (λ_ h=>h) (Shaped.refl _ _) λ_ _=>rfl⟩
 intro i;exact(h.dB i).mono (Ext.refl _ _) (λb _=>d b) (dT.refl _) (Shaped.refl _ _)
theorem aaD{K:Ctx}{c:Nat}(b j k:Nat)(e:TypeId){A:List V}(F:s.u k=al)(X:s.H b=aa (.cells A))(M:A[j]? =aa (.t .fp)):
  s.le K {t:=s.t,H:=a' (a' s.H k (aa (.arr e 1 c []))) b (aa (.cells (A.set j (.bd k 1 c 0 0)))),u:=a' s.u k ab}:=by
 intro p a w h;have cJ:=h.d' k F;have f:b≠k:=by intro e;subst e;have:=(h.heap b _ X).1;rw[this] at F;cases F
 have q: ∀id x,p id=aa x->p.put k (aa (ak,1)) id=aa x:=λid x l=>by
  rw[fy _ _ _ _ (by intro e;subst e;rw[cJ] at l;cases l)];exact l
 have G:=dT.of q;have o: ∀id n,At (p.put k (aa (ak,1))) id n->id≠k/\At p id n:=λid n l=>by
  by_cases r:id=k
  ·subst r;rcases l with ⟨g,l⟩|l
   ·rw[jC] at l;cases l
   exact br l (h.eB _ _ F)
  refine⟨r,?_⟩;rcases l with ⟨g,l⟩|l
  ·rw[fy _ _ _ _ r] at l;exact .inl ⟨g,l⟩
  exact .inr l
 have y: ∀n,own K (p.put k (aa (ak,1))) (a' (a' s.H k (aa (.arr e 1 c []))) b (aa (.cells (A.set j (.bd k 1 c 0 0))))) n->own K p s.H n:=by
  rintro n (l|⟨id,z,B⟩)
  ·exact .inl l
  obtain⟨E,L⟩:=o id n B;by_cases W:id=b
  ·subst W;exact .inr ⟨id,by rw[X];simp,L⟩
  rw[cr _ _ _ _ W,cr _ _ _ _ E] at z;exact .inr ⟨id,z,L⟩
 have Q: ∀v u,bC p w (own K p s.H) v u->bC (p.put k (aa (ak,1))) w (own K (p.put k (aa (ak,1))) (a' (a' s.H k (aa (.arr e 1 c []))) b (aa (.cells (A.set j (.bd k 1 c 0 0)))))) v u:=
  λv u D=>D.mono (Ext.refl _ _) (λb _=>y b) G (Shaped.refl _ _)
 refine⟨p.put k (aa (ak,1)),{h with base:= ?_,low:= ?_,d':= ?_,eB:= ?_,inj:= ?_,fresh:= ?_,heap:= ?_,dB:=λi=>Q _ _ (h.dB i)}⟩
 ·refine h.base.keep λid hid=>?_
  have:=h.low id hid;rw[fy _ _ _ _ (by intro e;subst e;rw[F] at this;cases this)]
 ·intro id hid;show a' s.u k ab id=ab;by_cases e:id=k
  ·subst e;exact cy _ _ _
  rw[cr _ _ _ _ e];exact h.low id hid
 ·intro id hid;have d:a' s.u k ab id=al:=hid;by_cases e:id=k
  ·subst e;rw[cy] at d;cases d
  rw[cr _ _ _ _ e] at d;rw[fy _ _ _ _ e];exact h.d' id d
 ·intro id b hid;have d:a' s.u k ab id=al:=hid;by_cases e:id=k
  ·subst e;rw[cy] at d;cases d
  rw[cr _ _ _ _ e] at d;exact h.eB id b d
 ·intro id R n z B;exact h.inj id R n (o id n z).2 (o R n B).2
 ·intro id n l;exact h.fresh id n (o id n l).2
 intro id e' m;have m:a' (a' s.H k (aa (.arr e 1 c []))) b (aa (.cells (A.set j (.bd k 1 c 0 0)))) id=aa e':=m;show a' s.u k ab id=ab/\c4 _ _ (own K _ (a' (a' s.H k (aa (.arr e 1 c []))) b (aa (.cells (A.set j (.bd k 1 c 0 0)))))) id e';by_cases L:id=b
 ·subst L;rw[cy] at m;cases m;rw[cr _ _ _ _ f];obtain⟨W,n,T,ty,U,Y,g3,N⟩:=h.heap id _ X;refine⟨W,n,T,ty,q _ _ U,Y,by simpa using g3,λi v u D P=>?_⟩;by_cases r:i=j
  ·subst r;have I:=(d6.1 M).1;rw[ia I] at D;cases D;have z:=N i _ u M P;cases z with
   |t _ _ B=>cases B;exact .ho k 1 c (df _) (cy _ _ _)
  rw[lp (Ne.symm r)] at D;exact Q _ _ (N i v u D P)
 rw[cr _ _ _ _ L] at m;by_cases r:id=k
 ·subst r;rw[cy] at m;cases m;exact⟨cy _ _ _,df _,Or.inl ⟨cy _ _ _,rfl⟩⟩
 rw[cr _ _ _ _ r] at m;obtain⟨z,B⟩:=h.heap id e' m;exact⟨by rw[cr _ _ _ _ r];exact z,B.mono (Ext.refl _ _) (λb _=>y b) G (q id) (Shaped.refl _ _) λ_ _=>rfl⟩
def lY(k:Nat):Nat->Bool:=λid=>bif b7 id k then al else ab
def sx(k:Nat)(v:V):V:=bif v.ok (lY k) then v else .c'
def H9(k:Nat):E->Option E
 | .cells cs=>bif gI (lY k) cs then aa (.cells cs) else ak
 | .aC c m gen a b=>bif vd (lY k) b then aa (.aC c m gen a b) else ak
 |e=>aa e
theorem Cp(h:i≠k):lY k i=ab:=by
 have:b7 i k=al:=by cases a:b7 i k with
  |false=>rfl
  |true=>exact br (db a) h
 simp[lY,this]
theorem yd(h:lY k i=ab):i≠k:=by intro e;subst e;simp[lY] at h
def E.mY(n:Nat):E->E
 | .arr e _ z r=> .arr e n z r
 | .aC Γ m _ r a=> .aC Γ m n r a
 |e=>e
abbrev E.zB:E->E:=E.mY 1
def E.pI:E->List (Nat×Nat×V)
 | .aC _ _ _ _ a=>a
 |_=>[]
theorem c4.mY{β':Map}{N:Nat->Prop}(h:c4 β w X k e)(d:1<=n)(z:e.gen=aa g)(s:β k=aa (q,g))(y:β' L=aa (q,n))(G: ∀b,β'.n L b↔β.n k b)(H: ∀b,N b->X b)
  (R: ∀i j v,(i,j,v)∈e.pI-> ∀u,bC β w X v u->bC β' w N v u):c4 β' w N L (e.mY n):=by
 cases e with
 |cells=>cases z
 |arr ty W Q l=>
  cases z;refine⟨d,?_⟩;rcases h.2 with ⟨aP,a2⟩|⟨b,A,aP,a2,a3,a4,a5⟩
  ·rw[s] at aP;cases aP;exact .inl ⟨y,a2⟩
  rw[s] at aP;cases aP;exact .inr ⟨b,A,y,a2,a3,a4,λi j a x u o p r=>(a5 i j a x u o p r).mono (Ext.refl _ _) λb _=>H b⟩
 |aC t m W l I=>
  cases z;refine⟨d,?_⟩;rcases h.2 with ⟨aP,a2,a0⟩|⟨b,A,B,aP,a2,a3,a4,a5,jx,hB,fI⟩
  ·rw[s] at aP;cases aP;exact .inl ⟨y,a2,λc f=>a0 c ((G c).1 f)⟩
  rw[s] at aP;cases aP;exact .inr ⟨b,A,B,y,a2,a3,a4,λi j a x u o p r=>⟨λv D=>⟨R i j v D _ ((a5 i j a x u o p r).1 v D).1,((a5 i j a x u o p r).1 v D).2⟩,λF=>((a5 i j a x u o p r).2 F).mono (Ext.refl _ _) (λc _=>H c) λ_ _=>rfl⟩,jx,hB,λc=>(G c).trans (fI c)⟩
theorem Oz(h:bC W w X v u)(a: ∀b,j b->X b):bC (W.put k (aa (q,g+1))) w j (sx k v) u:=by
 unfold sx;cases c:v.ok (lY k) with
 |false=>exact .c' _
 |true=>exact h.under a (λid hid=>fy _ _ _ _ (yd hid)) c
theorem M6{y:E}(h:c4 W w X i x)(e: ∀b,j b->X b)(l:i≠k)(a:H9 k x=aa y):c4 (W.put k (aa (q,g+1))) w j i y:=by
 unfold H9 at a;split at a
 ·rename_i cs;cases c:gI (lY k) cs with
  |false=>rw[c] at a;cases a
  |true=>rw[c] at a;cases a;exact h.under e (λi hid=>fy _ _ _ _ (yd hid)) (Cp l) c
 ·rename_i n;cases c:vd (lY k) n with
  |false=>rw[c] at a;cases a
  |true=>rw[c] at a;cases a;exact h.under e (λi hid=>fy _ _ _ _ (yd hid)) (Cp l) c
 cases a;refine h.under e (u:=lY k) (λi hid=>fy _ _ _ _ (yd hid)) (Cp l) ?_;cases x with
 |cells cs=>rename_i o _;exact br rfl (o cs)
 |arr=>rfl
 |aC p m gen d n=>rename_i _ o;exact br rfl (o p m gen d n)
def qG(k:Nat)(H:Nat->Option E):Nat->Option E:=λid=>match H id with
 |some e=>H9 k e
 |none=>ak
theorem Rel.Sv{K:Ctx}{s':S}{a:Act}(h:Rel K β s a w)(k g gen:Nat){F:Option Nat}(B:s.H k=aa e)(f:e.gen=aa gen)(G:e.pI=[])(L:k<K.eg)(Q:K.hi k=aa (F,g))
  (n:s'.u=s.u) (R:s'.H k=aa (e.mY (g+1))) (q:Option Nat) (D:β k=aa (q,gen))
  (I: ∀id x,id≠k->s'.H id=aa x->s.H id≠ak/\ ∀X,(∀b,X b->own K β s.H b)->c4 (β.put k (aa (q,g+1))) w X id x)
  (T: ∀i,∀X,(∀b,X b->own K β s.H b)->bC (β.put k (aa (q,g+1))) w X (s'.t i) (a.tmps.getD i undef)):Rel K (β.put k (aa (q,g+1))) s' a w:=by
 have W:1<=gen:=(nY (h.heap k _ B).2 f).1;have o:=(h.heap k _ B).1;have p:1<=g/\ ∀b,q=aa b->F=aa b\/K.w0.heap.size<=b:=by
  rcases h.base k L with M|⟨V,Y,q2,g2,aP,a2,a3,a4,a5⟩
  ·rw[D,Q] at M;cases M;exact⟨W,λb bw=> .inl bw⟩
  rw[Q] at aP;cases aP;rw[D] at a3;cases a3;exact⟨a2,a5⟩
 have c: ∀id b,At (β.put k (aa (q,g+1))) id b->At β id b:=λid b bw=>by
  rcases bw with ⟨U,bw⟩|bw
  ·by_cases d:id=k
   ·subst d;rw[jC] at bw;cases bw;exact .inl ⟨gen,D⟩
   rw[fy _ _ _ _ d] at bw;exact .inl ⟨U,bw⟩
  exact .inr bw
 have l: ∀b,own K (β.put k (aa (q,g+1))) s'.H b->own K β s.H b:=by
  rintro b (m|⟨id,r,z⟩)
  ·exact .inl m
  refine .inr ⟨id,?_,c id b z⟩;by_cases d:id=k
  ·subst d;rw[B];simp
  cases m:s'.H id with
  |none=>exact br m r
  |some x=>exact(I id x d m).1
 refine {h with base:= ?_,low:= ?_,d':= ?_,eB:=λid b hid=>h.eB id b (n▸hid),inj:= ?_,fresh:=λid b bw=>h.fresh id b (c id b bw),heap:= ?_,dB:=λi=>T i _ l}
 ·intro id hid;by_cases d:id=k
  ·subst d;exact .inr ⟨F,g,q,g+1,Q,p.1,cy _ _ _,nf _,p.2⟩
  rw[fy _ _ _ _ d];exact h.base id hid
 ·intro id hid;rw[n];exact h.low id hid
 ·intro id hid;rw[n] at hid;rw[fy _ _ _ _ (by intro e;subst e;rw[o] at hid;cases hid)];exact h.d' id hid
 ·intro id A b r z;exact h.inj id A b (c id b r) (c A b z)
 intro id x m;by_cases d:id=k
 ·subst d;rw[R] at m;cases m;exact⟨by rw[n];exact o,(h.heap id _ B).2.mY O f D (cy _ _ _) (λ_=>Iff.rfl) l λi j v N=>by rw[G] at N;cases N⟩
 obtain⟨r,z⟩:=I id x d m;refine⟨?_,z _ l⟩;rw[n];cases P:s.H id with
 |none=>exact br P r
 |some y=>exact(h.heap id y P).1
theorem NJ(l:W k=aa (q,gen))(h:bC W w X (.bd k gen i L m) u):bC (W.put k (aa (q,g+1))) w j (.bd k (g+1) i L m) u:=by
 rcases fb h l with ⟨c,b,n,d,rfl,a,o,p,e,r,s⟩|⟨a,rfl,rfl,rfl⟩
 ·subst a;exact .bd k (g+1) i L m c b n d O (cy _ _ _) o p e r s
 subst a;exact .ho k (g+1) i O (cy _ _ _)
theorem Fk{K:Ctx}(i k g gen b c d:Nat)(F:dp k K.eg=ab)(G:s.t i= .bd k gen b c d)(z:s.H k=aa e)(A:e.gen=aa gen)(n:e.pI=[])(o: ∃q,K.hi k=aa (q,g)):
  s.le K {t:=a' (λj=>sx k (s.t j)) i (.bd k (g+1) b c d),H:=a' (qG k s.H) k (aa (e.mY (g+1))),u:=s.u}:=by
 intro L a w h;obtain⟨Q,o⟩:=o;obtain⟨_,q,B⟩:=nY (h.heap k _ z).2 A;refine⟨_,h.Sv (s':={t:=a' (λj=>sx k (s.t j)) i (.bd k (g+1) b c d),H:=a' (qG k s.H) k (aa (e.mY (g+1))),u:=s.u}) k g gen z A n (by simpa[Nat.blt_eq] using F) o rfl (cy _ _ _) q B ?_ ?_⟩
 ·intro id x m l;have l:a' (qG k s.H) k (aa (e.mY (g+1))) id=aa x:=l;rw[cr _ _ _ _ m] at l;unfold qG at l;cases p:s.H id with
  |none=>rw[p] at l;cases l
  |some y=>
   rw[p] at l;exact⟨bl,λX r=>M6 (h.heap id y p).2 r m l⟩
 intro j X r;show bC _ w X (a' (λj=>sx k (s.t j)) i (.bd k (g+1) b c d) j) _;by_cases D:j=i
 ·subst D;rw[cy];exact NJ B (G▸h.dB j)
 rw[cr _ _ _ _ D];exact Oz (h.dB j) r
theorem Fl{K:Ctx}(b j k g gen c l m:Nat){cs:List V}(ca:dp k K.eg=ab)(A:s.H b=aa (.cells cs))(B:cs[j]? =aa (.bd k gen c l m))(D:gI (lY k) (cs.set j .c')=ab)
  (z:s.H k=aa e) (F:e.gen=aa gen) (G:e.pI=[]) (L: ∃q,K.hi k=aa (q,g)):
  s.le K {t:=λj=>sx k (s.t j),H:=a' (a' (qG k s.H) k (aa (e.mY (g+1)))) b (aa (.cells (cs.set j (.bd k (g+1) c l m)))),u:=s.u}:=by
 intro Q a w h;obtain⟨tE,L⟩:=L;obtain⟨_,q,I⟩:=nY (h.heap k _ z).2 F;have n:b≠k:=by intro e';subst e';rw[A] at z;cases z;cases F
 refine⟨_,h.Sv (s':={t:=λj=>sx k (s.t j),H:=a' (a' (qG k s.H) k (aa (e.mY (g+1)))) b (aa (.cells (cs.set j (.bd k (g+1) c l m)))),u:=s.u}) k g gen z F G (by simpa[Nat.blt_eq] using ca) L rfl (by show a' _ b _ k=_;rw[cr _ _ _ _ (Ne.symm n),cy]) q I ?_ ?_⟩
 ·intro id x o d;have d:a' (a' (qG k s.H) k (aa (e.mY (g+1)))) b (aa (.cells (cs.set j (.bd k (g+1) c l m)))) id=aa x:=d;by_cases p:id=b
  ·subst p;rw[cy] at d;cases d;refine⟨by rw[A];simp,λX r=>?_⟩;have M:=(h.heap id _ A).2;have h6:c4 Q w (own K Q s.H) id (.cells (cs.set j .c')):=M.set B λu _=> .c' u;have lM:=h6.under (u:=lY k) (β':=Q.put k (aa (q,g+1))) r (λid hid=>fy _ _ _ _ (yd hid)) (Cp n) D;obtain⟨hY,us,ty,N,P,g3,g4⟩:=lM;obtain⟨cM,rM,SO,T,U,f3,f4⟩:=M;rw[fy _ _ _ _ n,T] at N;cases N;rw[U] at P;cases P;refine⟨_,_,_,by rw[fy _ _ _ _ n];exact T,U,by simpa using f3,λi v u R hu=>?_⟩;by_cases Y:i=j
   ·subst Y;have W:=(d6.1 B).1;rw[ia W] at R;cases R;exact NJ I (f4 i _ u B hu)
   rw[lp (Ne.symm Y)] at R
   grind
  rw[cr _ _ _ _ p,cr _ _ _ _ o] at d;unfold qG at d;cases f:s.H id with
  |none=>rw[f] at d;cases d
  |some y=>
   rw[f] at d;exact⟨bl,λX r=>M6 (h.heap id y f).2 r o d⟩
 intro j X r;exact Oz (h.dB j) r
inductive kx (p:V->V->Prop):V->V->Prop
 |same (v:V):kx p v v
 |put {v ec:V} (h:p v ec):kx p v ec
 |agg {cs sN:List V} (cS:sN.length=cs.length) (h: ∀(i:Nat) c yw,cs[i]? =aa c->sN[i]? =aa yw->kx p c yw):kx p (.agg cs) (.agg sN)
theorem kx.zC{a:Map}{b:World}(e: ∀v u,bC a w X v u->bC W b j v u)(k: ∀v x u,p v x->bC a w X v u->bC W b j x u){x:V}(h:kx p v x): ∀u,bC a w X v u->bC W b j x u:=by
 induction h with
 |same v=>exact e v
 |put h=>exact λu=>k _ _ u h
 |agg l h m=>
  intro u d;cases d with
  |agg _ n o q=>
   refine .agg _ n O λi r u c d=>?_;have aL:=(d6.1 c).1;have bU:=bD (show i<_ by rw[<-l];exact aL);exact m i _ r bU c u (q i _ u bU d)
def xx(p:V->V->Prop)(e b:E):Prop:=b=e\/ ∃cs a,e= .cells cs/\b= .cells a/\a.length=cs.length/\ ∀(i:Nat) c d,cs[i]? =aa c->a[i]? =aa d->kx p c d
theorem xx.tO{a:Map}(d: ∀x,a n=aa x->W n=aa x)(m: ∀e,c4 a w X n e->c4 W w j n e)(o: ∀v u,bC a w X v u->bC W w j v u)(q: ∀v k u,p v k->bC a w X v u->bC W w j k u){e':E}(h:xx p e e')(l:c4 a w X n e):c4 W w j n e':=by
 rcases h with rfl|⟨cs,r,rfl,rfl,s,h⟩
 ·exact m _ l
 obtain⟨b,y,ty,z,A,G,B⟩:=l;refine⟨b,y,ty,d _ z,A,O,λi D u c F=>?_⟩;have aL:=(d6.1 c).1;have bU:=bD (show i<_ by rw[<-s];exact aL);exact kx.zC o q (h i _ D bU c) u (B i _ u bU F)
theorem Xj{K:Ctx}(X:Nat->V)(o:Nat->Option E)(k gen d:Nat){e:TypeId}{c:List (List T)}(D:dC K.eg k=ab)(I:s.H k=aa (.arr e gen d c))
  (M: ∀i,kx (λv p=>v= .bd k gen d 0 c.length/\p= .t (.bH c)) (s.t i) (X i)) (N:o k=ak)
  (f: ∀id q,o id=aa q-> ∃r,s.H id=aa r/\xx (λv p=>v= .bd k gen d 0 c.length/\p= .t (.bH c)) r q):s.le K {t:=X,H:=o,u:=s.u}:=by
 intro l a w h;have P:=e9 D;have m: ∀n,own K l o n->own K l s.H n:=by
  rintro n (F|⟨id,A,x⟩)
  ·exact .inl F
  cases B:o id with
  |none=>exact br B A
  |some q=>obtain⟨r,G,_⟩:=f id q B;exact .inr ⟨id,by rw[G];simp,x⟩
 have y: ∀n,At l k n-> ¬own K l o n:=by
  rintro n z (F|⟨id,A,x⟩)
  ·obtain⟨ja,U⟩:=h.ko n F;rcases(h.fresh k n z).1 with L|Y
   ·exact U L
   omega
  have:=h.inj _ _ _ x z
  grind
 have Q:=(h.heap k _ I).2;have g: ∀v u,bC l w (own K l s.H) v u->bC l w (own K l o) v u:=λv u R=>R.mono (Ext.refl _ _) (λb _=>m b) (dT.refl _) (Shaped.refl _ _);have j: ∀v p u,(v= .bd k gen d 0 c.length/\p= .t (.bH c))->bC l w (own K l s.H) v u->bC l w (own K l o) p u:=by
  rintro v p u ⟨rfl,rfl⟩ R;exact .t _ _ (Q.read R m y)
 refine⟨l,{h with heap:= ?_,dB:= ?_}⟩
 ·intro id q W;obtain⟨r,A,x⟩:=f id q W;obtain⟨G,h4⟩:=h.heap id r A;exact⟨G,x.tO (λ_ h=>h) (λe B=>B.mono (Ext.refl _ _) (λb _=>m b) (dT.refl _) (λ_ h=>h) (Shaped.refl _ _) λ_ _=>rfl) g j h4⟩
 intro i;exact kx.zC g j (M i) _ (h.dB i)
theorem Yt{K:Ctx}(l2:Nat->V)(F:Nat->Option E)(k cD gen o I:Nat){G:E}(M:k≠cD)(hk:s.H k=aa G)(bV:G.gen=aa gen)(hu:s.u cD=al)
  (fo: ∀i,kx (λv R=>v= .bd k gen o 0 I/\R= .bd cD 1 o 0 I) (s.t i) (l2 i)) (agR: ∀e',F k=aa e'->(∃ty sz,e'= .arr ty (gen+1) sz [])\/ ∃Γ m,e'= .aC Γ m (gen+1) [] []) (N:F cD=aa G.zB)
  (hH: ∀id e',id≠cD->id≠k->F id=aa e'-> ∃G,s.H id=aa G/\xx (λv R=>v= .bd k gen o 0 I/\R= .bd cD 1 o 0 I) G e'):
  s.le K {t:=l2,H:=F,u:=a' s.u cD ab}:=by
 intro B a w h;obtain⟨P,q,T⟩:=nY (h.heap k _ hk).2 bV;have W:=(h.heap k _ hk).1;have cJ:=h.d' cD hu;have aj3:K.eg<=cD:=by
  apply Nat.le_of_not_lt;intro hlt;rw[h.low cD hlt] at hu;cases hu
 let l:=B.move k cD gen q;have dm:l cD=aa (q,1):=Oj _ _ _ _ _;have cM:l k=aa (ak,gen+1):=Oi _ _ _ _ _ M;have U: ∀id,id≠k->id≠cD->l id=B id:=λid p r=>MG _ _ _ _ _ _ p r;have y: ∀id b,At l id b->(id=cD/\At B k b)\/(id≠k/\id≠cD/\At B id b):=by
  intro id b L;exact aer M T L
 have Y:dT B l:=by
  intro id q2 g z;by_cases r:id=k
  ·subst r;rw[T] at z;cases z;exact .inr ⟨P,ak,gen+1,cM,nf _⟩
  have p:id≠cD:=by intro e;subst e;rw[cJ] at z;cases z
  exact .inl (by rw[U id r p];exact z)
 have D: ∀b,own K l F b->own K B s.H b:=by
  rintro b (z|⟨id,p,r⟩)
  ·exact .inl z
  rcases y id b r with ⟨rfl,A⟩|⟨A,h4,Q⟩
  ·exact .inr ⟨k,by rw[hk];simp,A⟩
  cases he:F id with
  |none=>exact br he p
  |some e'=>obtain⟨G,X,_⟩:=hH id e' h4 A he;exact .inr ⟨id,by rw[X];simp,Q⟩
 have hm: ∀v u,bC B w (own K B s.H) v u->bC l w (own K l F) v u:=λv u bx=>bx.mono (Ext.refl _ _) (λb _=>D b) Y (Shaped.refl _ _);have hp: ∀v R u,(v= .bd k gen o 0 I/\R= .bd cD 1 o 0 I)->bC B w (own K B s.H) v u->bC l w (own K l F) R u:=by
  rintro v R u ⟨rfl,rfl⟩ bx;rcases fb bx T with ⟨cap,b,n,iC,rfl,f,hw,hs,s6,cS,vA⟩|⟨f,p,r,rfl⟩
  ·subst f;exact .bd cD 1 o 0 _ cap b n iC (df _) dm hw hs s6 cS vA
  subst f;rw[r];exact .ho cD 1 o (df _) dm
 refine⟨l,{h with base:= ?_,low:= ?_,d':= ?_,eB:= ?_,inj:= ?_,fresh:= ?_,heap:= ?_,dB:= ?_}⟩
 ·refine h.base.more λid hid=>?_;by_cases r:id=k
  ·subst r;exact .inr ⟨q,gen,ak,gen+1,T,P,cM,nf _,λb L=>by cases L⟩
  exact .inl (U id r O)
 ·intro id hid;show a' s.u cD ab id=ab;rw[cr _ _ _ _ O];exact h.low id hid
 ·intro id hid;have d:a' s.u cD ab id=al:=hid;by_cases p:id=cD
  ·subst p;rw[cy] at d;cases d
  rw[cr _ _ _ _ p] at d;rw[U id (by intro e;subst e;rw[W] at d;cases d) p];exact h.d' id d
 ·intro id b hid L;have d:a' s.u cD ab id=al:=hid;rcases L with ⟨p,_⟩|⟨p,_,L⟩
  ·subst p;rw[cy] at d;cases d
  rw[cr _ _ _ _ p] at d;exact h.eB id b d L
 ·intro id k' b p r;rcases y id b p with ⟨rfl,A⟩|⟨A,h4,Q⟩<;>rcases y k' b r with ⟨e2,X⟩|⟨X,lM,mC⟩
  ·exact e2.symm
  ·exact br (h.inj _ _ b mC A) X
  ·subst e2;exact br (h.inj _ _ b Q X) A
  exact h.inj _ _ b Q mC
 ·intro id b L;rcases y id b L with ⟨rfl,A⟩|⟨A,h4,Q⟩
  ·refine⟨?_,(h.fresh _ _ A).2⟩;exact(h.fresh _ _ A).1
  exact h.fresh id b Q
 ·intro id e' z;have hy:F id=aa e':=z;clear z;show a' s.u cD ab id=ab/\c4 l w (own K l F) id e';by_cases p:id=cD
  ·subst p;rw[N] at hy;cases hy;exact⟨cy _ _ _,(h.heap k _ hk).2.mY (df _) bV T dm (λb=>by simp[l,Map.move]) D λ_ _ v _ u=>hm v u⟩
  by_cases r:id=k
  ·subst r;rw[cr _ _ _ _ p];rcases agR e' hy with ⟨ty,sz,rfl⟩|⟨Γ,m,rfl⟩
   ·exact⟨W,Nat.le_add_left _ _,.inl ⟨cM,rfl⟩⟩
   exact⟨W,Nat.le_add_left _ _,.inl ⟨cM,rfl,λc bU=>(show(id=cD/\B.n id c)\/(id≠cD/\id≠id/\B.n id c) from bU).elim (λq=>p q.1) λq=>q.2.1 rfl⟩⟩
  obtain⟨G,Q,X⟩:=hH id e' p r hy;obtain⟨A,h4⟩:=h.heap id G Q;rw[cr _ _ _ _ p];refine⟨A,X.tO (λx z=>by rw[U id r p];exact z) (λe he=>he.mono (Ext.refl _ _) (λb _=>D b) Y (λx z=>by rw[U id r p];exact z) (Shaped.refl _ _) (λ_ _=>rfl) λb=>afs _ _ _ _ _ _ _ r p) hm hp h4⟩
 intro j;exact kx.zC hm hp (fo j) _ (h.dB j)
mutual
def p3(k g z n:Nat)(b:V):V->V×List dJ
 | .bd d gen a c len=>match b7 d k&&b7 c 0 with
  |true=>(b,[.q gen g,.q a z,.q len n])
  |false=>(.bd d gen a c len,[])
 | .agg cs=>(.agg (mR k g z n b cs).1,(mR k g z n b cs).2)
 |v=>(v,[])
def mR(k g z n:Nat)(a:V):List V->List V×List dJ
 | []=>([],[])
 |c::cs=>((p3 k g z n a c).1::(mR k g z n a cs).1,(p3 k g z n a c).2++(mR k g z n a cs).2)
end
theorem FB(k g z n:Nat)(a:V): ∀cs,(mR k g z n a cs).1.length=cs.length
 | []=>rfl
 |c::cs=>by simp[mR,FB k g z n a cs]
mutual
theorem P1(k g z n:Nat)(c:V): ∀v,cI (p3 k g z n c v).2->kx (λa b=>a= .bd k g z 0 n/\b=c) v (p3 k g z n c v).1
 | .bd l gen i e len,h=>by
  unfold p3 at h⊢;cases d:b7 l k&&b7 e 0 with
  |false=>exact .same _
  |true=>
   simp only[d] at h⊢;simp only[cB] at d;obtain⟨rfl,rfl,rfl,_⟩:=h;have m:=db d.1;have o:=db d.2;subst m;subst o;exact .put ⟨rfl,rfl⟩
 | .agg cs,h=>by
  simp only[p3] at h⊢;exact .agg (FB _ _ _ _ _ _) (HL k g z n c cs h)
 | .t _,_| .bZ _,_| .ref _ _,_| .aU _,_| .cR _ _ _ _ _,_| .fn _ _,_| .c',_=>by simp only[p3];exact .same _
theorem HL(k g z n:Nat)(d:V): ∀cs,cI (mR k g z n d cs).2-> ∀(i:Nat) c l,cs[i]? =aa c->(mR k g z n d cs).1[i]? =aa l->kx (λa b=>a= .bd k g z 0 n/\b=d) c l
 | [],_,i,c,l,h,_=>by simp at h
 |o::cs,m,0,c,l,h,e=>by
  simp only[mR] at m e;simp at h e;subst h;subst e;exact P1 k g z n d o (cI.app m).1
 |o::cs,m,i+1,c,l,h,e=>by simp only[mR] at m e;simp at h e;exact HL k g z n d cs (cI.app m).2 i c l h e
end
def iA(k g z n:Nat)(a:V)(s:S):List Nat->List (Nat×V)×List dJ
 | []=>([],[])
 |i::is=>((i,(p3 k g z n a (s.t i)).1)::(iA k g z n a s is).1,(p3 k g z n a (s.t i)).2++(iA k g z n a s is).2)
def gJ(k g z n:Nat)(a:V)(s:S):List Nat->List (Nat×Option E)×List dJ
 | []=>([],[])
 |b::c=>match s.H b with
  |some (.cells cs)=>((b,aa (.cells (mR k g z n a cs).1))::(gJ k g z n a s c).1,(mR k g z n a cs).2++(gJ k g z n a s c).2)
  |_=>gJ k g z n a s c
theorem HJ{k g z n:Nat}{x:V}{s:S}: ∀{is:List Nat},cI (iA k g z n x s is).2-> ∀i v,(i,v)∈(iA k g z n x s is).1->kx (λa b=>a= .bd k g z 0 n/\b=x) (s.t i) v
 |i0::is,c,i,v,h=>by
  simp only[iA] at c h;rcases eh.1 h with h|h
  ·cases h;exact P1 _ _ _ _ _ _ (cI.app c).1
  exact HJ (cI.app c).2 i v h
theorem Cz{k g z n:Nat}{x:V}{s:S}: ∀{i:List Nat},cI (gJ k g z n x s i).2-> ∀b e,(b,e)∈(gJ k g z n x s i).1-> ∃m o,s.H b=aa m/\e=aa o/\xx (λa b=>a= .bd k g z 0 n/\b=x) m o
 |p::i,c,b,e,h=>by
  unfold gJ at c h;split at h
  ·rename_i cs d;simp only[d] at c;rcases eh.1 h with h|h
   ·cases h;exact⟨_,_,d,rfl,.inr ⟨cs,_,rfl,rfl,FB _ _ _ _ _ _,HL _ _ _ _ _ _ (cI.app c).1⟩⟩
   exact Cz (cI.app c).2 b e h
  rename_i d;split at c
  ·rename_i cs l;exact br l (d cs)
  exact Cz c b e h
theorem Po{k:Nat}: ∀{l:List Nat},k∈l->ih k l=ab
 |x::l,h=>by
  simp only[ih];rcases eh.1 h with rfl|h
  ·simp
  cases b7 x k with
  |true=>rfl
  |false=>exact Po h
theorem xM(h:(!ih k l)=ab):k∉l:=λa=>by rw[Po a] at h;cases h
theorem Pl{cD:Nat}(h:(!Nat.beq k cD)=ab):k≠cD:=λe=>by subst e;simp at h
theorem xL{k g z n:Nat}{x:V}{s:S}: ∀{a:List Nat} {b:Nat} {e:Option E},(b,e)∈(gJ k g z n x s a).1->b∈a
 |c::a,b,e,h=>by
  unfold gJ at h;split at h
  ·rcases eh.1 h with h|h
   ·cases h;exact fh
   exact eW _ (xL h)
  exact eW _ (xL h)
theorem Um{K:Ctx}{e:TypeId}{a:List (List T)}{L:List Nat}(d:dC K.eg k=ab)(l:s.H k=aa (.arr e gen n a))(m:k∉r)
  (o:cI (iA k gen n a.length (.t (.bH a)) s L).2) (p:cI (gJ k gen n a.length (.t (.bH a)) s r).2):
  s.le K ((⟨(iA k gen n a.length (.t (.bH a)) s L).1,(k,ak)::(gJ k gen n a.length (.t (.bH a)) s r).1,[]⟩:dd).app s):=by
 refine Xj _ _ k gen n d l (λi=>?_) ?_ λid e' b=>?_
 ·rcases nG (iA k gen n a.length (.t (.bH a)) s L).1 s.t i with ⟨_,c⟩|⟨v,h,c⟩
  ·rw[c];exact .same _
  rw[c];exact HJ o i v h
 ·show dz (a' s.H k ak) _ k=ak;rw[mK _ _ _ λv q=>m (xL q),cy]
 have b:dz (a' s.H k ak) (gJ k gen n a.length (.t (.bH a)) s r).1 id=aa e':=b;rcases nG (gJ k gen n a.length (.t (.bH a)) s r).1 (a' s.H k ak) id with ⟨_,c⟩|⟨v,h,c⟩
 ·rw[c] at b;by_cases hid:id=k
  ·subst hid;rw[cy] at b;cases b
  rw[cr _ _ _ _ hid] at b;exact⟨e',b,.inl rfl⟩
 rw[c] at b;subst b;obtain⟨w,x,y,z,A⟩:=Cz p id _ h
 grind
theorem Qi{b:Bool}{T:E}(h:(bif b then ak else aa e)=aa T):T=e:=by
 cases b with
 |true=>cases h
 |false=>cases h;rfl
theorem Qu{K:Ctx}{B:Nat}{T:E}{o:Option E}(w: ∀e',o=aa e'->(∃ty x,e'= .arr ty (gen+1) x [])\/ ∃y m,e'= .aC y m (gen+1) [] [])(d:k≠L)(z:s.H k=aa T)(A:T.gen=aa gen)(D:s.u L=al)(F:k∉r)(h:L∉r)
  (G:cI (iA k gen n B (.bd L 1 n 0 B) s l).2) (Q:cI (gJ k gen n B (.bd L 1 n 0 B) s r).2):
  s.le K ((⟨(iA k gen n B (.bd L 1 n 0 B) s l).1,(k,o)::(L,aa T.zB)::(gJ k gen n B (.bd L 1 n 0 B) s r).1,[(L,ab)]⟩:dd).app s):=by
 refine Yt _ _ k L gen n B d z A D (λi=>?_) (λe' a=>w e' ?_) ?_ λid e' e hid c=>?_
 ·rcases nG (iA k gen n B (.bd L 1 n 0 B) s l).1 s.t i with ⟨_,b⟩|⟨v,p,b⟩
  ·rw[b];exact .same _
  rw[b];exact HJ G i v p
 ·have a:dz (a' (a' s.H k o) L (aa T.zB)) _ k=aa e':=a
  rwa [mK _ _ _ λv q=>F (xL q),cr _ _ _ _ d,cy] at a
 ·show dz (a' (a' s.H k o) L _) _ L=_;rw[mK _ _ _ λv q=>h (xL q),cy]
 have c:dz (a' (a' s.H k o) L (aa T.zB)) (gJ k gen n B (.bd L 1 n 0 B) s r).1 id=aa e':=c;rcases nG (gJ k gen n B (.bd L 1 n 0 B) s r).1 (a' (a' s.H k o) L (aa T.zB)) id with ⟨_,b⟩|⟨v,p,b⟩
 ·rw[b,cr _ _ _ _ e,cr _ _ _ _ hid] at c;exact⟨e',c,.inl rfl⟩
 rw[b] at c;subst c;obtain⟨T,f,R,W,X⟩:=Cz Q id _ p;cases W;exact⟨T,R,X⟩
theorem Xh{K:Ctx}(B:Nat->V)(k:Nat){F:List T}(G:dC K.eg k=ab)(W:s.H k=aa (.cells (F.map .t)))
  (X: ∀i,B i=s.t i\/ ∃c,s.t i= .ref k c/\B i= .aU (F.drop c)):s.le K {t:=B,H:=a' s.H k ak,u:=s.u}:=by
 intro q a w h;have f:=e9 G;obtain⟨b,p,ty,D,g,Q,v⟩:=(h.heap k _ W).2;have m: ∀L,own K q (a' s.H k ak) L->own K q s.H L:=by
  rintro L (r|⟨id,n,o⟩)
  ·exact .inl r
  by_cases hid:id=k
  ·subst hid;rw[cy] at n;exact br rfl n
  rw[cr _ _ _ _ hid] at n;exact .inr ⟨id,n,o⟩
 have y: ¬own K q (a' s.H k ak) b:=by
  rintro(r|⟨id,n,o⟩)
  ·obtain⟨ja,E⟩:=h.ko b r;rcases(h.fresh k b (.inl ⟨_,D⟩)).1 with d|I
   ·exact E d
   omega
  have:=h.inj _ _ _ o (.inl ⟨_,D⟩);subst this;rw[cy] at n;exact n rfl
 refine⟨q,{h with heap:= ?_,dB:= ?_}⟩
 ·intro id e' l;have l:a' s.H k ak id=aa e':=l;by_cases hid:id=k
  ·subst hid;rw[cy] at l;cases l
  rw[cr _ _ _ _ hid] at l;obtain⟨n,o⟩:=h.heap id e' l;exact⟨n,o.mono (Ext.refl _ _) (λb _=>m b) (dT.refl _) (λ_ h=>h) (Shaped.refl _ _) λ_ _=>rfl⟩
 intro j;show bC q w _ (B j) _;rcases X j with M|⟨c,n,o⟩
 ·rw[M];exact(h.dB j).mono (Ext.refl _ _) (λb _=>m b) (dT.refl _) (Shaped.refl _ _)
 rw[o];have R:=h.dB j;rw[n] at R;obtain⟨cM,z,N⟩:=r' R;rw[D] at z;cases z;rw[N];have bw:=(h.fresh k b (.inl ⟨_,D⟩)).2;refine .aU _ b c (λi=>p.getD (c+i) undef) bw y (λi P=>?_) λi x r=>?_
 ·have d:c+i<p.size:=by simp at P Q;omega
  simp[World.cell?,g,d]
 have A:F[c+i]? =aa x:=by simpa using r
 have d:c+i<p.size:=by have:=(d6.1 A).1;simp at Q;omega
 have U:=v (c+i) (.t x) p[c+i] (by simp[A]) (by simp[d]);have e:p.getD (c+i) undef=p[c+i]:=by simp[d]
 rw[e];cases U with
 |t _ _ Y=>exact Y.mono (Ext.refl _ _) λb _=>m b
def Dd(k:Nat)(b:List T)(s:S):List Nat->Option (List (Nat×V))
 | []=>aa []
 |i::is=>match s.t i with
  | .ref c a=>match b7 c k,Dd k b s is with
   |true,aa l=>aa ((i,.aU (b.drop a))::l)
   |_,_=>ak
  |_=>ak
theorem PS{k:Nat}{a:List T}{s:S}: ∀{is:List Nat} {l:List (Nat×V)},Dd k a s is=aa l-> ∀i v,(i,v)∈l-> ∃b,s.t i= .ref k b/\v= .aU (a.drop b)
 | [],l,h,i,v,hm=>by cases h;cases hm
 |i0::is,l,h,i,v,hm=>by
  unfold Dd at h;split at h
  ·rename_i n b c;split at h
   ·rename_i o d e;cases h;have m:=db d;subst m;rcases eh.1 hm with hm|hm
    ·cases hm;exact⟨b,c,rfl⟩
    exact PS e i v hm
   cases h
  cases h
def CZ{k:Type}:List k->Bool
 | []=>ab
 |_::_=>al
theorem Hj{k:Type}{l:List k}(h:CZ l=ab):l=[]:=by
 cases l with
 |nil=>rfl
 |cons=>cases h
def lE(C:dX)(h:cG)(s:S):Option (Option (dd×List dJ)):=
 match h with
 | .grow i k e=>match s.t i,s.u k,dE C.cE e with
  | .t .fp,al,aa j=>aa (aa (⟨[(i,.bd k 1 j.size 0 0)],[(k,aa (.arr e 1 j.size []))],[(k,ab)]⟩,[]))
  |_,_,_=>aa ak
 | .len i n=>match s.t i with
  | .bd k gen c F len=>aa (aa (⟨[(i,.bd k gen c F n)],[],[]⟩,[.p (len=n)]))
  |_=>aa ak
 | .sS k is=>match s.H k with
  |some (.cells v)=>match k2 v,dC C.eg k with
   |some cs,ab=>match Dd k cs s is with
    |some l=>aa (aa (⟨l,[(k,ak)],[]⟩,[]))
    |none=>aa ak
   |_,_=>aa ak
  |_=>aa ak
 | .bT k is D=>match s.H k with
  |some (.arr _ gen c a)=>match dC C.eg k&& !ih k D with
   |true=>aa (aa (⟨(iA k gen c a.length (.t (.bH a)) s is).1,(k,ak)::(gJ k gen c a.length (.t (.bH a)) s D).1,[]⟩,(iA k gen c a.length (.t (.bH a)) s is).2++(gJ k gen c a.length (.t (.bH a)) s D).2))
   |false=>aa ak
  |_=>aa ak
 | .bs k r is D=>match s.H k,s.u r with
  |some (.arr e gen c a),al=>match !Nat.beq k r&&(!ih k D&& !ih r D) with
   |true=>aa (aa (⟨(iA k gen c a.length (.bd r 1 c 0 a.length) s is).1,(k,bif dC C.eg k then ak else aa (.arr e (gen+1) c []))::(r,aa (.arr e 1 c a))::(gJ k gen c a.length (.bd r 1 c 0 a.length) s D).1,[(r,ab)]⟩,
     (iA k gen c a.length (.bd r 1 c 0 a.length) s is).2++(gJ k gen c a.length (.bd r 1 c 0 a.length) s D).2))
   |false=>aa ak
  |some (.aC d m gen a []),al=>match !Nat.beq k r&&(!ih k D&& !ih r D) with
   |true=>aa (aa (⟨(iA k gen (U d m).size a.length (.bd r 1 (U d m).size 0 a.length) s is).1,(k,bif dC C.eg k then ak else aa (.aC d m (gen+1) [] []))::(r,aa (.aC d m 1 a []))::(gJ k gen (U d m).size a.length (.bd r 1 (U d m).size 0 a.length) s D).1,[(r,ab)]⟩,
     (iA k gen (U d m).size a.length (.bd r 1 (U d m).size 0 a.length) s is).2++(gJ k gen (U d m).size a.length (.bd r 1 (U d m).size 0 a.length) s D).2))
   |false=>aa ak
  |_,_=>aa ak
 | .eY b j n=>match s.H b with
  |some (.cells cs)=>match cs[j]? with
   |some (.bd k gen c F len)=>aa (aa (⟨[],[(b,aa (.cells (cs.set j (.bd k gen c F n))))],[]⟩,[.p (len=n)]))
   |_=>aa ak
  |_=>aa ak
 | .De b _ k=>match s.H b,s.H k with
  |some (.aC d m E L ((I,M,.bd r gen c F len)::B)),aa (.arr _ W Q a)=>match b7 r k&&(b7 F 0&&(dC C.eg k&& !Nat.beq b k)) with
   |true=>aa (aa (⟨[],[(k,ak),(b,aa (.aC d m E L ((I,M,.t (.bH a))::B)))],[]⟩,[.q gen W,.q c Q,.q len a.length]))
   |false=>aa ak
  |_,_=>aa ak
 | .ct b j k e=>match s.H b,s.u k,dE C.cE e with
  |some (.cells cs),al,aa i=>match cs[j]? with
   |some (.t .fp)=>aa (aa (⟨[],[(k,aa (.arr e 1 i.size [])),(b,aa (.cells (cs.set j (.bd k 1 i.size 0 0))))],[(k,ab)]⟩,[]))
   |_=>aa ak
  |_,_,_=>aa ak
 | .b3 k d m=>match s.H k with
  |some (.arr ty gen c a)=>match CZ (U d m).a1||CZ a with
   |true=>aa (aa (⟨[],[(k,aa (.aC d m gen a []))],[]⟩,[.q (U d m).ty ty,.q (U d m).size c]))
   |false=>aa ak
  |some (.aC G f gen a B)=>match dC C.eg k&&CZ (U d m).a1 with
   |true=>aa (aa (⟨[],[(k,aa (.aC d m gen a B))],[]⟩,[.q (U d m).ty (U G f).ty,.q (U d m).size (U G f).size]))
   |false=>aa ak
  |_=>aa ak
 | .en k=>match s.H k with
  |some (.aC d m gen a [])=>match dC C.eg k with
   |true=>aa (aa (⟨[],[(k,aa (.arr (U d m).ty gen (U d m).size a))],[]⟩,[]))
   |false=>aa ak
  |_=>aa ak
 | .cZ k r i j w=>match s.H k,s.u r with
  |some (.aC d m gen a B),al=>match (U d m).ed j,w[j]? with
   |some X,aa (.bH A)=>aa (aa (⟨[],[(k,aa (.aC d m gen a ((i,j,.bd r 1 (U d X).size 0 A.length)::B))),(r,aa (.aC d X 1 A []))],[(r,ab)]⟩,.p (a[i]? =aa w)::qP i j B))
   |_,_=>aa ak
  |_,_=>aa ak
 | .eT k i j w=>match s.H k with
  |some (.aC d m gen a B)=>match (U d m).ed j,w[j]? with
   |none,aa x=>aa (aa (⟨[],[(k,aa (.aC d m gen a ((i,j,.t x)::B)))],[]⟩,.p (a[i]? =aa w)::qP i j B))
   |_,_=>aa ak
  |_=>aa ak
 | .fG k w R=>match s.H k with
  |some (.aC d m gen a ((i,j,.t x)::B))=>match (U d m).ed j,dp j (U d m).size&&uB j B with
   |none,ab=>aa (aa (⟨[],[(k,aa (.aC d m gen R B))],[]⟩,[.p (a[i]? =aa w),.p (a.set i (w.set j x)=R)]))
   |some _,ab=>match x with
    | .fp=>aa (aa (⟨[],[(k,aa (.aC d m gen R B))],[]⟩,[.p (a[i]? =aa w),.p (a.set i (w.set j (.bH []))=R)]))
    |_=>aa ak
   |_,_=>aa ak
  |_=>aa ak
 | .Q9 i j k e=>match s.t i,s.u k,dE C.cE e with
  | .agg cs,al,aa y=>match cs[j]? with
   |some (.t .fp)=>aa (aa (⟨[(i,.agg (cs.set j (.bd k 1 y.size 0 0)))],[(k,aa (.arr e 1 y.size []))],[(k,ab)]⟩,[]))
   |_=>aa ak
  |_,_,_=>aa ak
 | .cn k r w R=>match s.H k,s.H r with
  |some (.aC d m gen a ((i,j,.bd cP g z o n)::B)),aa (.aC G X N A [])=>match (U d m).ed j,b7 cP r&&(!Nat.beq k r&&(dC C.eg r&&(b7 o 0&&dp j (U d m).size))) with
   |some P,ab=>aa (aa (⟨[],[(r,ak),(k,aa (.aC d m gen R B))],[]⟩,.q g N:: .q z (U d X).size:: .p (n=A.length):: .q P X:: .p (G=d):: .p (a[i]? =aa w):: .p (a.set i (w.set j (.bH A))=R)::qP i j B))
   |_,_=>aa ak
  |_,_=>aa ak
 | .cut k n R=>match s.H k with
  |some (.arr e gen c a)=>aa (aa (⟨[],[(k,aa (.arr e gen c R))],[]⟩,[.p (R=a.take n)]))
  |_=>aa ak
 |_=>ak
def qF(C:dX)(a:Nat):List cG->S->Option (dd×List dJ×List cG)
 | [],_=>aa (.nil,[],[])
 | .at m::b,s=>match b7 m a with
  |true=>qF C a b s
  |false=>aa (.nil,[],.at m::b)
 |h::b,s=>match lE C h s with
  |none=>aa (.nil,[],h::b)
  |some ak=>ak
  |some (aa (e,i))=>match qF C a b (e.app s) with
   |some (k,c,d)=>aa (e.cat k,i++c,d)
   |none=>ak
section
variable {K:Ctx}{C:dX}
theorem acL{K:Ctx}(k n:Nat){e:TypeId}{c:List (List T)}(p:s.H k=aa (.arr e gen L c)):s.le K {s with H:=a' s.H k (aa (.arr e gen L (c.take n)))}:=by
 intro q a w h;refine⟨q,h.Su k p λX d=>⟨d.1,?_⟩⟩;rcases d.2 with ⟨m,o⟩|⟨b,r,m,o,y,z,B⟩
 ·exact .inl ⟨m,by rw[o];simp⟩
 refine .inr ⟨b,r,m,o,eO (dR _ (List.length_take_le' _ _)) y,λl A=>z l (gm A),λi j l x u aP a2 a3=>?_⟩
 grind
theorem Hz(y:C.Fits K){h:cG}{e:dd}{m:List dJ}(b:lE C h s=aa (aa (e,m)))(i:cI m):s.le K (e.app s):=by
 unfold lE at b;split at b
 ·split at b
  ·rename_i z n o;cases b;exact acM _ _ _ n z
  cases b
 ·split at b
  ·rename_i z;cases b;obtain⟨rfl,_⟩:=i;intro G a w H;refine⟨G,?_⟩;unfold dd.app;simp only[dz];rw[<-z,NW];exact H
  cases b
 ·split at b
  ·rename_i P k;split at b
   ·rename_i cs L d;split at b
    ·rename_i l X;cases b;have r:=k;rw[oZ L] at r;refine Xh _ _ (by rw[<-y.eg];exact d) r λj=>?_;rcases nG l s.t j with ⟨_,p⟩|⟨v,q,p⟩
     ·exact .inl p
     obtain⟨Q,f,g⟩:=PS X j v q;exact .inr ⟨Q,f,by rw[<-g];exact p⟩
    cases b
   cases b
  cases b
 ·split at b
  ·rename_i k;split at b
   ·rename_i d;cases b;simp only[cB] at d;obtain⟨A,B⟩:=cI.app i;exact Um (by rw[<-y.eg];exact d.1) k (xM d.2) A B
   cases b
  cases b
 ·split at b
  ·rename_i k n;split at b
   ·rename_i d;cases b;simp only[cB] at d;obtain⟨A,B⟩:=cI.app i;exact Qu (λu R=> .inl ⟨_,_,Qi R⟩) (Pl d.1) k rfl n (xM d.2.1) (xM d.2.2) A B
   cases b
  ·rename_i k n;split at b
   ·rename_i d;cases b;simp only[cB] at d;obtain⟨A,B⟩:=cI.app i;exact Qu (λu R=> .inr ⟨_,_,Qi R⟩) (Pl d.1) k rfl n (xM d.2.1) (xM d.2.2) A B
   cases b
  cases b
 ·split at b
  ·rename_i d;split at b
   ·rename_i o;cases b;obtain⟨rfl,_⟩:=i;intro G a w H;refine⟨G,?_⟩;have F:=d6.1 o;have E: ∀{cs:List V} {j:Nat} {c:V},cs[j]? =aa c->cs.set j c=cs:=by
     intro cs j c h;obtain⟨q,p⟩:=d6.1 h;rw[<-p,List.set_getElem_self]
    unfold dd.app;simp only[dz];rw[E o,<-d,NW];exact H
   cases b
  cases b
 ·split at b
  ·rename_i d k;split at b
   ·rename_i D;cases b;simp only[cB,Bool.not_eq_true'] at D;obtain⟨rfl,rfl,rfl,_⟩:=i;have W:=db D.1;have F:=db D.2.1;subst W;subst F;exact Xi _ _ _ _ _ _ (by rw[<-y.eg];exact D.2.2.1) (Nat.ne_of_beq_eq_false D.2.2.2) d k
   cases b
  cases b
 ·split at b
  ·rename_i d n z;split at b
   ·rename_i o;cases b;exact aaD _ _ _ _ n d o
   cases b
  cases b
 ·split at b
  ·rename_i k;split at b
   ·rename_i d;cases b;obtain⟨q,p,_⟩:=i;refine Ga _ _ _ k q p ?_;rcases Bool.or_eq_true_iff.1 d with h|h
    ·exact .inr (Hj h)
    exact .inl (Hj h)
   cases b
  ·rename_i k;split at b
   ·rename_i d;cases b;obtain⟨q,p,_⟩:=i;simp only[cB] at d;exact aa3 _ _ _ k (by rw[<-y.eg];exact d.1) q p (Hj d.2)
   cases b
  cases b
 ·split at b
  ·rename_i k;split at b
   ·rename_i d;cases b;exact aa2 _ k (by rw[<-y.eg];exact d)
   cases b
  cases b
 ·split at b
  ·rename_i k n;split at b
   ·rename_i x o;cases b;exact aal _ _ _ _ _ k n i.1 o x (uy i.2)
   cases b
  cases b
 ·split at b
  ·rename_i k;split at b
   ·rename_i x o;cases b;exact aaC _ _ _ k i.1 o x (uy i.2)
   cases b
  cases b
 ·split at b
  ·rename_i k;split at b
   ·rename_i x d;cases b;simp only[cB] at d;obtain⟨q,rfl,_⟩:=i;exact Ys _ _ _ k q d.1 x d.2
   ·rename_i x d;split at b
    ·cases b;simp only[cB] at d;obtain⟨q,rfl,_⟩:=i;exact aaj _ _ _ _ k q d.1 x d.2
    cases b
   cases b
  cases b
 ·split at b
  ·rename_i z n T;split at b
   ·rename_i o;cases b;exact aaE _ _ _ _ n z o
   cases b
  cases b
 ·split at b
  ·rename_i k r;split at b
   ·rename_i x d;cases b;simp only[cB,Bool.not_eq_true'] at d;obtain⟨rfl,p,I,rfl,rfl,M,rfl,N⟩:=i;have W:=db d.1;have F:=db d.2.2.2.1;subst W;subst F;exact Xg _ _ _ _ _ _ _ _ k r p I (Nat.ne_of_beq_eq_false d.2.1) (by rw[<-y.eg];exact d.2.2.1) M x d.2.2.2.2 (uy N)
   cases b
  cases b
 ·split at b
  ·rename_i k;cases b;obtain⟨rfl,_⟩:=i;exact acL _ _ k
  cases b
 cases b
theorem rF(l:C.Fits K){i:Nat}: ∀{m:List cG} {s:S} {e:dd} {k:List dJ} {b:List cG},qF C i m s=aa (e,k,b)->cI k->s.le K (e.app s)
 | [],s,e,k,b,h,_=>by cases h;exact S.le.refl _ _
 |h::m,s,e,k,b,a,d=>by
  unfold qF at a;split at a
  ·cases a;exact S.le.refl _ _
  ·split at a
   ·rename_i c _ _;cases c;exact rF l a d
   cases a;exact S.le.refl _ _
  rename_i c;cases c;split at a
  ·cases a;exact S.le.refl _ _
  ·cases a
  rename_i y n o;split at a
  ·rename_i z p q r;cases a;obtain⟨w,x⟩:=cI.app d;rw[oF];exact(Hz l o w).trans (rF l r x)
  cases a
def iP(C:dX)(a:Array Oper):List Oper->List cG->S->Option (dd×List dJ)
 | [],b,s=>match qF C 0 b s with
  |some (e,p,[])=>aa (e,p)
  |_=>ak
 |o::l,b,s=>match qF C (l.length+1) b s with
  |none=>ak
  |some (c,d,h)=>match sP C a o h (c.app s) with
   |none=>ak
   |some (n,i,k)=>match iP C a l k (n.app (c.app s)) with
    |none=>ak
    |some (q,m)=>aa (c.cat (n.cat q),d++(i++m))
theorem Ql(c:C.Fits K){b:Array Oper}{Q:S->Prop}: ∀{l:List Oper} {k:List cG} {s:S} {e:dd} {d:List dJ},iP C b l k s=aa (e,d)->cI d->qI K b [] (e.app s) Q->qI K b l s Q
 | [],k,s,e,d,h,a,i=>by
  simp only[iP] at h;split at h
  ·rename_i G n p;cases h;exact LO (rF c p a) i
  cases h
 |o::l,k,s,e,d,h,a,i=>by
  simp only[iP] at h;split at h
  ·cases h
  rename_i H q r w;split at h
  ·cases h
  rename_i L x y z;split at h
  ·cases h
  rename_i R A B;cases h;obtain⟨D,m⟩:=cI.app a;obtain⟨m,F⟩:=cI.app m;rw[oF,oF] at i;exact LO (rF c w D) (aeV (Qm c z m) (Ql c B F i))
abbrev sd:=Prop×List Nat×List (Nat×Bool)×Bool×List V×List (Option E)
def vf:sd:=(False,[],[],al,[],[])
def vg:sd:=(True,[],[],ab,[],[])
def vh(s:S)(b:List Nat)(c:List (Nat×V))(a:List (Nat×Option E))(r:dd×List dJ):sd:=
 (zi r.2,wA r.2,r.1.us,r9 b r.1.e3&&r9 (yq a) r.1.hs,uU (r.1.app s) c,u2 (r.1.app s) a)
def vi(a:Prop)(b:List (Nat×V))(c:List (Nat×Option E))(d:List (Nat×Bool))(r:dd×List dJ):sd:=
 (a,wB r.2,d,ab,ky b,ky c)
def ml(x:Option (dd×List dJ))(n:sd)(f:dd×List dJ->sd):sd:=match x with
 |some r=>f r
 |none=>n
theorem QK{x:Option (dd×List dJ)}{L:List Nat}{a:List (Nat×V)}{P:Prop}(i:P)
  (h:ml x vf (vh s L a b)=ml x vg (vi P a b d)): ∃e c,x=aa (e,c)/\cI c/\(e.app s).le K (s.cl L a b d):=by
 cases x with
 |none=>simp[ml,vf,vg] at h
 |some r=>
  obtain⟨e,c⟩:=r;simp only[ml,vh,vi,Prod.mk.injEq,cB] at h;obtain⟨k,l,m,⟨n,o⟩,p,q⟩:=h;exact⟨e,c,rfl,cI.of (k▸i) l,Ut m n o p q⟩
def tmps:List Operand->List Nat
 | []=>[]
 | .tmp t::a=>t::tmps a
 |_::a=>tmps a
def QE(a:Array Oper)(o:Oper):List Nat:=match o.guard with
 |none=>[]
 |some (j,_)=>match (a[j]?).bind (·.dst) with
  |some t=>[t]
  |none=>[]
def CO(o:Oper)(a:List cG):List cG:=match o.guard with
 |none=>a
 |some _=>a.tail
def Cq(a:Array Oper)(o:Oper)(b:List cG)(s:S):gP:=⟨QE a o++tmps o.op.operands.toList,vP o (o.op.operands.toList.map s.get) (CO o b)⟩
theorem GH{s a:S}: ∀{b:List Operand},(∀i,i∈tmps b->s.t i=a.t i)->b.map s.get=b.map a.get
 | [],_=>rfl
 | .tmp t::b,h=>by
  simp only[hg,List.cons.injEq];exact⟨h t fh,GH λi c=>h i (eW _ c)⟩
 | .const _::b,h| .global _::b,h| .func _::b,h=>by simp only[hg,List.cons.injEq];exact⟨rfl,GH h⟩
theorem Y5{H a:Nat->Option E}(h: ∀k,k∈r->H k=a k):vb r H=vb r a:=by
 funext k;unfold vb;cases b:ih k r with
 |true=>exact h k (Bo b)
 |false=>rfl
theorem Y3{u a:Nat->Bool}(h: ∀k,k∈r->u k=a k):va r u=va r a:=by
 funext k;unfold va;cases b:ih k r with
 |true=>exact h k (Bo b)
 |false=>rfl
theorem acR{b:S}{a:List V}{hs:List cG}(h: ∀k,k∈vP o a hs->s.H k=b.H k/\s.u k=b.u k):qV C o a s hs=qV C o a b hs:=by unfold qV;rw[Y5 λk c=>(h k c).1,Y3 λk c=>(h k c).2]
theorem ac8{b:Array Oper}{l:List cG}(h:(Cq b o l s).same a s):sP C b o l a=sP C b o l s:=by
 obtain⟨n,w⟩:=h;have y:o.op.operands.toList.map a.get=o.op.operands.toList.map s.get:=GH λi z=>n i (eX.2 (.inr z));have q: ∀c,(∀k,k∈vP o (o.op.operands.toList.map s.get) c->k∈vP o (o.op.operands.toList.map s.get) (CO o l))->qV C o (o.op.operands.toList.map s.get) a c=qV C o (o.op.operands.toList.map s.get) s c:=λc A=>
  acR λk d=>w k (A k d)
 unfold sP;rw[y];cases e:o.guard with
 |none=>exact q l (λk d=>by simp only[CO,e];exact d)
 |some p=>
  obtain⟨j,r⟩:=p;have m:vm b j a=vm b j s:=by
   unfold vm;cases B:(b[j]?).bind (·.dst) with
   |none=>rfl
   |some t=>
    have:=n t (eX.2 (.inl (by unfold QE;rw[e];simp only[B];exact qj.2 rfl)));simp only[this]
  simp only[m];cases l with
  |nil=>rfl
  |cons x l=>
   have:=q l λk d=>by simp only[CO,e,List.tail];exact d
   cases x<;>first|rfl|(dsimp only;rw[this])
def qL(C:dX)(a:Nat):List cG->S->Option (dd×List dJ×List cG×gP)
 | .at m::hs,s=>match b7 m a with
  |true=>qL C a hs s
  |false=>aa (.nil,[],.at m::hs,⟨[],[]⟩)
 | .bT k is i::hs,s=>match lE C (.bT k is i) s with
  |some (aa (e,d))=>match qL C a hs (e.app s) with
   |some (h,b,c,eE)=>aa (e.cat h,d++b,c,⟨is++eE.e3,k::(i++eE.pW)⟩)
   |none=>ak
  |_=>ak
 | .en k::hs,s=>match lE C (.en k) s with
  |some (aa (e,d))=>match qL C a hs (e.app s) with
   |some (h,b,c,eE)=>aa (e.cat h,d++b,c,⟨eE.e3,k::eE.pW⟩)
   |none=>ak
  |_=>ak
 |hs,_=>aa (.nil,[],hs,⟨[],[]⟩)
theorem Y2{C:dX}(b:a.H k=s.H k):lE C (.en k) a=lE C (.en k) s:=by
 unfold lE
 grind
theorem Ob{k g z n:Nat}{v:V}{s a:S}: ∀{is:List Nat},(∀i,i∈is->a.t i=s.t i)->iA k g z n v a is=iA k g z n v s is
 | [],_=>rfl
 |i::is,h=>by simp only[iA,h i List.mem_cons_self,Ob λx b=>h x (List.mem_cons_of_mem _ b)]
theorem Oc{k g z n:Nat}{v:V}{s a:S}: ∀{c:List Nat},(∀b,b∈c->a.H b=s.H b)->gJ k g z n v a c=gJ k g z n v s c
 | [],_=>rfl
 |b::c,h=>by unfold gJ;rw[h b fh,Oc λx d=>h x (eW _ d)]
theorem Y1{L:List Nat}(c: ∀i,i∈r->a.t i=s.t i)(d:a.H k=s.H k)(e: ∀b,b∈L->a.H b=s.H b):lE C (.bT k r L) a=lE C (.bT k r L) s:=by
 unfold lE;dsimp only;rw[d];split
 ·rw[Ob c,Oc e]
 rfl
theorem Ht{k:Type}{f g:Nat->k}{r:Nat}(h:f r=g r): ∀(l:List (Nat×k)),dz f l r=dz g l r:=by
 intro l;induction l generalizing f g with
 |nil=>exact h
 |cons p l b=>
  obtain⟨d,v⟩:=p;simp only[dz];apply b;by_cases a:r=d
  ·subst a;rw[cy,cy]
  rw[cr _ _ _ _ a,cr _ _ _ _ a];exact h
theorem KJ{r:gP}(e:dd)(h:r.same a s):r.same (e.app a) (e.app s):=
 ⟨λi c=>Ht (h.1 i c) _,λk b=>⟨Ht (h.2 k b).1 _,Ht (h.2 k b).2 _⟩⟩
theorem Ch(w:C.Fits K){n:Nat}: ∀{x:List cG} {s:S} {e:dd} {d:List dJ} {a:List cG} {eE:gP},qL C n x s=aa (e,d,a,eE)->cI d-> ∀c,eE.same c s->c.le K (e.app c)
 | .at m::x,s,e,d,a,eE,h,o,c,l=>by
  unfold qL at h;split at h
  ·exact Ch w h o c l
  cases h;exact S.le.refl _ _
 | .bT k is R::x,s,e,d,a,eE,h,o,c,l=>by
  unfold qL at h;split at h
  ·rename_i p r z;split at h
   ·rename_i W A B D F;cases h;obtain⟨G,H⟩:=cI.app o;have q:lE C (.bT k is R) c=aa (aa (p,r)):=(Y1 (λi L=>l.1 i (nU _ L)) (l.2 k fh).1 λb X=>(l.2 b (eW _ (nU _ X))).1).trans z;rw[oF];exact(Hz w q G).trans (Ch w F H (p.app c) (KJ p ⟨λi L=>l.1 i (o4 _ L),λk Q=>l.2 k (eW _ (o4 _ Q))⟩))
   cases h
  cases h
 | .en k::x,s,e,d,a,eE,h,o,c,l=>by
  unfold qL at h;split at h
  ·rename_i p r z;split at h
   ·rename_i W A B D F;cases h;obtain⟨G,H⟩:=cI.app o;have q:lE C (.en k) c=aa (aa (p,r)):=(Y2 (l.2 k fh).1).trans z;rw[oF];exact(Hz w q G).trans (Ch w F H (p.app c) (KJ p ⟨l.1,λk Q=>l.2 k (eW _ Q)⟩))
   cases h
  cases h
 | [],s,e,d,a,eE,h,_,c,_=>by cases h;exact S.le.refl _ _
 | .b3 _ _ _::_,s,e,d,a,eE,h,_,c,_| .cZ _ _ _ _ _::_,s,e,d,a,eE,h,_,c,_| .cn _ _ _ _::_,s,e,d,a,eE,h,_,c,_| .lt _ _ _::_,s,e,d,a,eE,h,_,c,_| .eT _ _ _ _::_,s,e,d,a,eE,h,_,c,_| .fG _ _ _::_,s,e,d,a,eE,h,_,c,_| .Q9 _ _ _ _::_,s,e,d,a,eE,h,_,c,_| .cut _ _ _::_,s,e,d,a,eE,h,_,c,_
 | .row _::_,s,e,d,a,eE,h,_,c,_| .rows _::_,s,e,d,a,eE,h,_,c,_| .str _::_,s,e,d,a,eE,h,_,c,_| .int _::_,s,e,d,a,eE,h,_,c,_| .nat _::_,s,e,d,a,eE,h,_,c,_
 | .b _::_,s,e,d,a,eE,h,_,c,_| .y _::_,s,e,d,a,eE,h,_,c,_| .v _::_,s,e,d,a,eE,h,_,c,_| .grow _ _ _::_,s,e,d,a,eE,h,_,c,_
 | .De _ _ _::_,s,e,d,a,eE,h,_,c,_| .ct _ _ _ _::_,s,e,d,a,eE,h,_,c,_
 | .len _ _::_,s,e,d,a,eE,h,_,c,_| .eY _ _ _::_,s,e,d,a,eE,h,_,c,_| .sS _ _::_,s,e,d,a,eE,h,_,c,_| .bs _ _ _ _::_,s,e,d,a,eE,h,_,c,_| .dD _ _ _ _::_,s,e,d,a,eE,h,_,c,_=>by cases h;exact S.le.refl _ _
theorem iq.pre{ops:Array Oper}{b:S}(i:s.le K b)(h:iq K ops o b c):iq K ops o s c:=by
 intro k a w next Q l m
 obtain⟨d,e⟩:=i k a w l;exact h d a w next Q e m
def yC(C:dX)(a:Array Oper):List Oper->List cG->S->Option (List (dd×gP)×List dJ)
 | [],d,_=>match d with
  | []=>aa ([],[])
  |_=>ak
 |o::l,d,s=>match qL C (l.length+1) d s with
  |none=>ak
  |some (c,h,b,eE)=>match sP C a o b (c.app s) with
   |none=>ak
   |some (e,m,i)=>match yC C a l i (e.app (c.app s)) with
    |none=>ak
    |some (n,k)=>aa ((c.cat e,⟨eE.e3++(Cq a o b (c.app s)).e3,eE.pW++(Cq a o b (c.app s)).pW⟩)::n,h++(m++k))
def CX:List (dd×gP)->dd
 | []=> .nil
 |(e,_)::a=>e.cat (CX a)
theorem HZ(p:C.Fits K){b:Array Oper}{Q:S->Prop}: ∀{l:List Oper} {q:List cG} {s:S} {c:List (dd×gP)} {d:List dJ},yC C b l q s=aa (c,d)->cI d->Q ((CX c).app s)->xw K b l c s Q
 | [],q,s,c,d,h,_,m=>by
  simp only[yC] at h;split at h
  ·cases h;exact m
  cases h
 |o::l,q,s,c,d,h,r,m=>by
  simp only[yC] at h;split at h
  ·cases h
  rename_i n D w eE F;split at h
  ·cases h
  rename_i e G H L;split at h
  ·cases h
  rename_i R W X;cases h;obtain⟨f,x⟩:=cI.app r;obtain⟨x,g⟩:=cI.app x;simp only[CX,oF] at m;refine⟨λB a=>?_,by rw[oF];exact HZ p X g m⟩;rw[oF];refine iq.pre (Ch p F f B ⟨λi y=>a.1 i (nU _ y),λk z=>a.2 k (nU _ z)⟩) ?_;have A:(Cq b o w (n.app s)).same (n.app B) (n.app s):=KJ n ⟨λi y=>a.1 i (o4 _ y),λk z=>a.2 k (o4 _ z)⟩;exact Qm p ((ac8 A).trans L) x
def lG(C:dX)(l:List Oper)(e:List cG)(s:S):Option (dd×List dJ):=
 match qF C l.length e s with
 |none=>ak
 |some (c,a,b)=>match yC C l.toArray l b (c.app s) with
  |none=>ak
  |some (d,h)=>match mP l.toArray l.length 0 d&&sb 0 l with
   |true=>aa (c.cat (CX d),a++h)
   |false=>ak
theorem PO{c:Code}{s2:S}(h:cW K c s λe i=>match e with| .normal=>i.le K s2|_=>False)(m:Q .normal s2):cW K c s Q:=by
 intro n a w o p x;refine h n a w o p ?_;intro e i b k l q r;cases e with
 |normal=>obtain⟨d,y⟩:=q b k l r;exact x _ _ d k l m y
 |exit=>exact q.elim
 |goto=>exact q.elim
 |ret=>exact q.elim
 |panic=>exact q.elim
 |outgrown=>exact q.elim
theorem rd{l:List Oper}(o:C.Fits K)(w:K.P.follows .mixedOrders=ab)(q:List cG)(d:List Nat)(b:List (Nat×V))(c:List (Nat×Option E))(k:List (Nat×Bool)){p:Prop}(m:p)
  (h:ml (lG C l q s) vf (vh s d b c)=ml (lG C l q s) vg (vi p b c k)) (x:Q .normal (s.cl d b c k)):cW K (.region i l.toArray ab) s Q:=by
 obtain⟨e,R,a,y,r⟩:=QK (K:=K) m h;unfold lG at a;split at a
 ·cases a
 rename_i W z A B;split at a
 ·cases a
 rename_i D F G;split at a
 ·rename_i n;cases a;simp only[cB] at n;obtain⟨H,L⟩:=cI.app y;refine wL (rF o B H) (PO (s2:=s.cl d b c k) (NV D w n.1 n.2 (HZ o G L ?_)) x);rw[oF] at r;exact r
 cases a
def og:List (Nat×E)->List (Nat×Option E)
 | []=>[]
 |(k,e)::l=>(k,aa e)::og l
def pn:List Nat->List (Nat×Bool)
 | []=>[]
 |k::l=>(k,ab)::pn l
def bz(a:List (Nat×V))(b:List (Nat×E))(c:List Nat):S:={t:=dz p7 a,H:=dz mS (og b),u:=dz gH (pn c)}
def CS(u:Nat->Bool):List (Nat×V)->Bool
 | []=>ab
 |(_,v)::l=>v.ok u&&CS u l
def CV(u:Nat->Bool):List (Nat×E)->Bool
 | []=>ab
 |(k,e)::l=>u k&&(e.ok u&&CV u l)
def CT(u:Nat->Bool):List Nat->Bool
 | []=>ab
 |k::l=>u k&&CT u l
theorem OS{u:Nat->Bool}: ∀{l:List (Nat×V)},CS u l=ab-> ∀i v,(i,v)∈l->v.ok u=ab
 |(a,b)::l,h,i,v,hm=>by
  simp only[CS,cB] at h;rcases eh.1 hm with hm|hm
  ·cases hm;exact h.1
  exact OS h.2 i v hm
theorem Pz{u:Nat->Bool}: ∀{l:List (Nat×E)},CV u l=ab-> ∀k e,(k,aa e)∈og l->u k=ab/\e.ok u=ab
 |(a,b)::l,h,i,v,hm=>by
  simp only[CV,cB] at h;simp only[og] at hm;rcases eh.1 hm with hm|hm
  ·cases hm;exact⟨h.1,h.2.1⟩
  exact Pz h.2.2 i v hm
theorem OR{u:Nat->Bool}: ∀{l:List Nat},CT u l=ab-> ∀k b,(k,b)∈pn l->u k=ab
 |lb::l,h,k,b,hm=>by
  simp only[CT,cB] at h;simp only[pn] at hm;rcases eh.1 hm with hm|hm
  ·cases hm;exact h.1
  exact OR h.2 k b hm
def C1(d:Nat)(s:S)(b:List (Nat×V))(c:List (Nat×E))(a:List Nat):List V×List (Option E)×Bool:=
 (uU s b,u2 s (og c),CS (dz gH (pn a)) b&&(CV (dz gH (pn a)) c&&(CT s.u a&&mO d (dz gH (pn a)))))
theorem Sk{a:List (Nat×V)}{b:List (Nat×E)}(h:C1 K.eg s a b r=(ky a,ky (og b),ab)):s.le K (bz a b r):=by
 simp only[C1,Prod.mk.injEq,cB] at h;obtain⟨l,m,n,o,p,q⟩:=h;refine adX (s':=bz a b r) ?_ ?_ ?_ q
 ·intro i;show dz p7 a i= .c'\/(dK _ (dz p7 a i)/\(dz p7 a i).ok _=ab)
  rcases nG a p7 i with ⟨aP,a2⟩|⟨v,aP,a2⟩
  ·exact .inl a2
  rw[a2];exact .inr ⟨GG l i v aP,OS n i v aP⟩
 ·intro k e c;have c:dz mS (og b) k=aa e:=c;rcases nG (og b) mS k with ⟨aP,a2⟩|⟨v,aP,a2⟩
  ·rw[a2] at c;cases c
  rw[a2] at c;subst c;obtain⟨w,x⟩:=Pz o k e aP;exact⟨GZ m k e aP,w,x⟩
 intro k d;have d:dz gH (pn r) k=ab:=d;rcases nG (pn r) gH k with ⟨aP,a2⟩|⟨v,aP,a2⟩
 ·rw[a2] at d;cases d
 exact OR p k v aP
theorem adR{ι:Type}{x y:Code}(I:ι->S)(p:ι->Prop)(a:cW K x s (qR (λb=> ∃i,p i/\b.le K (I i)) Q))(c: ∀i,p i->cW K y (I i) Q):cW K (.seq x y) s Q:=by
 refine B5 (xC a λe k q=>?_);cases e with
 |normal=>obtain⟨i,d,h⟩:=q;exact wL h (c i d)
 |exit=>exact q
 |goto=>exact q
 |ret=>exact q
 |panic=>exact q
 |outgrown=>exact q
theorem T7{r:V}(h:lC r v=r):dK v r:=h▸Hq r v
def uN(s:S):List E->Nat->List (Option E)
 | [],_=>[]
 |e::l,k=>CW (aa e) (s.H k)::uN s l (k+1)
def ux:List E->List (Option E)
 | []=>[]
 |e::l=>aa e::ux l
def u'(u:Nat->Bool):List E->Bool
 | []=>ab
 |e::l=>e.ok u&&u' u l
theorem NF{s:S}: ∀{l:List E} {k:Nat},uN s l k=ux l-> ∀i e,l[i]? =aa e-> ∃a,s.H (k+i)=aa a/\jQ a e
 |a::l,k,h,0,e,b=>by
  simp only[uN,ux,List.cons.injEq] at h;simp at b;subst b;exact PC h.1
 |a::l,k,h,i+1,e,b=>by
  simp only[uN,ux,List.cons.injEq] at h
  have:=NF h.2 i e (by simpa using b)
  rwa [show k+1+i=k+(i+1) by omega] at this
theorem Og{u:Nat->Bool}: ∀{l:List E},u' u l=ab-> ∀(i:Nat) e,l[i]? =aa e->e.ok u=ab
 |b::l,h,0,e,a=>by simp only[u',cB] at h;simp at a;subst a;exact h.1
 |b::l,h,i+1,e,a=>by simp only[u',cB] at h;exact Og h.2 i e (by simpa using a)
end
end
def bA{k R:Type}(a:(k->Option R)->k->Option R):Nat->k->Option R
 |0,_=>ak
 |m+1,x=>a (bA a m) x
def aQ{k R:Type}(j:k->Option R)(t:(k->Option R)->Option R):Option R:=t j
variable {k R γ:Type}{a r l:List k}{o A B:Option R}{f:FuncId}{c:Code}{b:ResultVar}{s:S}{Q:Exit->S->Prop}{j i:Int}{x y ph:k}{d:Func}{p:Prop}{q:List T}{W:Map}{w:World}{v:V}{u z:Value}{args:List V}
theorem nu{a:k->Option R}{t:(k->Option R)->Option R}{r:R}(h:aQ a t=aa r): ∃j,j=a/\t j=aa r:=⟨a,rfl,h⟩
theorem c9{o:Option k}{f:k->Option R}{r:R}(h:o.bind f=aa r): ∃x,o=aa x/\f x=aa r:=by
 cases o with
 |none=>cases h
 |some x=>exact⟨x,rfl,h⟩
theorem gQ{c:Bool}{r:R}(a:c=ab)(h:(bif c then A else B)=aa r):A=aa r:=by subst a;exact h
theorem gz{c:Bool}{r:R}(a:c=al)(h:(bif c then A else B)=aa r):B=aa r:=by subst a;exact h
theorem aw{a b:R}(h:aa a=aa b):a=b:=Option.some.inj h
section
variable {K:Ctx}{C:dX}
theorem Cw{a:(k->Option R)->k->Option R}{n:Nat}{b:k}{r:R}(h:bA a n b=aa r)(I:k->γ->S)(o:γ)(z:s.le K (I b o))
  (i: ∀(d:k->Option R) (x:k) (g:γ),a d x=aa r->cW K c (I x g) (CL (λp=> ∃y l,d y=aa r/\p.le K (I y l)) Q)):cW K (.loop c) s Q:=by
 refine ab0 (ι:=(Nat×k)×γ) (λy=>I y.1.2 y.2) (λy=>bA a y.1.1 y.1.2=aa r) (λy=>y.1.1) ((n,b),o) h z ?_;rintro⟨⟨m,x⟩,g⟩ w;cases m with
 |zero=>cases w
 |succ m=>
  refine xC (i (bA a m) x g w) λe p q=>?_;cases e with
  |normal=>obtain⟨y,l,A,B⟩:=q;exact⟨((m,y),l),A,nf m,B⟩
  |exit=>exact q
  |goto=>exact q
  |ret=>exact q
  |panic=>exact q
  |outgrown=>exact q
theorem mV{j:k->Option R}{r:R}{x y:Code}(I:k->γ->S)
  (a:cW K x s (qR (λc=> ∃z g,j z=aa r/\c.le K (I z g)) Q)) (b: ∀z g,j z=aa r->cW K y (I z g) Q):cW K (.seq x y) s Q:=
 adR (ι:=k×γ) (λi=>I i.1 i.2) (λi=>j i.1=aa r) (xC a (λe h q=>by
  cases e with
  |normal=>obtain⟨z,g,a,b⟩:=q;exact⟨(z,g),a,b⟩
  |exit=>exact q
  |goto=>exact q
  |ret=>exact q
  |panic=>exact q
  |outgrown=>exact q)) λi d=>b i.1 i.2 d
theorem Uo{P:Program}{G:fg}{a:List (Nat×cv)}(c:ee P a)(b:Nat)(w:World)(X:Nat->Prop):dX.Fits ⟨P,G,a,b,0,fE⟩ (Ctx.pure P G w X b):=⟨c,rfl,rfl,rfl,rfl,rfl⟩
theorem Un{P:Program}{G:fg}{a:List (Nat×cv)}(e:ee P a)(c d:Nat)(w:World)(X:Nat->Prop)(b:Map):dX.Fits ⟨P,G,a,c,d,b⟩ (Ctx.dD P G w X d b c):=⟨e,rfl,rfl,rfl,rfl,rfl⟩
theorem OE{P:Program}(a:P.funcs[f]? =aa d)(b:(d.name== "runtime.NumGoroutine")=al)(e:d.body=aa c):ji P f:=⟨d,a,b,by rw[e];rfl⟩
variable {P:Program}{G:fg}{cE:List (Nat×cv)}
end
abbrev ai:Int->List T:=ke
abbrev bP:Bool->List T:=aee
abbrev bh{k:Type}(r:k->List T)(l:List k):List T:=[T.bH (l.map r)]
abbrev aJ{k:Type}(r:k->List T)(l:List k):V:= .t (.bH (l.map r))
abbrev aM{k:Type}(e g a:Nat)(r:k->List T)(l:List k):E:= .arr e g a (l.map r)
abbrev ms{R:Type}(k g a:Nat)(r:R->List T)(l:List R):V:= .bd k g a 0 (l.map r).length
theorem QQ(r:k->List T)(l:List k):(l.map r).length=l.length:=dH ..
theorem kQ(k:Nat){r:R->List T}(h: ∀x,(r x).length=k)(l:List R):Rows k (l.map r):=Rows.map l h
theorem bQ(f:k->List T)(h:aB l i=aa x):(l.map f)[0+i.toNat]? =aa (f x):=by rw[dA,eG,(kb h).2];rfl
theorem bO(f:k->List T)(h:aB l i=aa x):0<=i/\i<((l.map f).length:Int):=by
 obtain⟨a,b⟩:=kb h
 grind
theorem IM(f:k->List T)(h:aB l i=aa x)(e:(a.map f).length=(l.map f).length):0<=i/\i<((a.map f).length:Int):=by rw[e];exact bO f h
theorem str(f:k->List T)(h:ch l i x=aa r):r.map f=(l.map f).set (0+i.toNat) (f x):=by obtain⟨_,_,rfl⟩:=tG h;rw[dA,List.map_set]
theorem dW(f:k->List T){y:List T}(h:aB l i=aa x)(e:f x=y):(l.map f)[0+i.toNat]? =aa y:=e▸bQ f h
theorem cN{q:Prop}(h:p)(k:q):p/\q:=⟨h,k⟩
def wu(b:Int):Option Unit:=if b=0 then ak else aa ()
theorem PT{b:Int}{x:Unit}(h:wu b=aa x):b≠0:=by intro e;rw[wu,bg e] at h;cases h
theorem fZ(f:k->R){y:R}(h:aB l i=aa x)(e:f x=y):aB (l.map f) i=aa y:=e▸PZ f h
theorem pY{a:Int}(f:k->R)(h:sub l a (l.length:Int)=aa r):sub (l.map f) a ((l.map f).length:Int)=aa (r.map f):=by rw[dH];exact uq f h
def gE(C:dX)(a:List cG)(s:S):Option (dd×List dJ):=match qF C 0 a s with
 |some (e,b,[])=>aa (e,b)
 |_=>ak
theorem akU{K:Ctx}{C:dX}(l:C.Fits K)(d:List cG)(i:List Nat)(b:List (Nat×V))(c:List (Nat×Option E))(k:List (Nat×Bool))
  (h:ml (gE C d s) vf (vh s i b c)=ml (gE C d s) vg (vi True b c k)):s.le K (s.cl i b c k):=by
 obtain⟨e,p,a,m,n⟩:=QK (K:=K) trivial h;unfold gE at a;split at a
 ·rename_i o;cases a;exact(rF l o m).trans n
 cases a
def iK(b:List (Nat×cv))(s:S):List ResultVar->Option (List V)
 | []=>aa []
 | .tmp t::c=>match iK b s c with
  |some d=>aa (s.t t::d)
  |none=>ak
 | .cell a t::c=>match uI b s.H t (s.t a) [],iK b s c with
  |some (v,[],[]),aa d=>aa (v::d)
  |_,_=>ak
def oi:List V->V
 | [v]=>v
 |vs=> .bZ vs
def lo(b:Array Value)(r:ResultVar):Sem Value:=match r with
 | .tmp t=>pure (b.getD t undef)
 | .cell a t=>do loadVar t (<-asAddr (b.getD a undef))
theorem Aq(c:Func)(a:Array Value):Go.results c a=(do let b<-c.results.mapM (lo a);pure (if h:b.size=1 then b[0] else .tuple b)):=rfl
theorem ael{P:Program}{c:List (Nat×cv)}(r:ee P c){K:Ctx}{a:Act}(m:Rel K W s a w){x:Nat}{t:TypeId}(h:uI c s.H t (s.t x) []=aa (v,[],[])):
  ∃u,(lo a.tmps (.cell x t)).run P w= .ok u w/\bC W w (own K W s.H) v u:=by
 have y:=Nt (d:=ak) (ty:=0) (pos:= "") (af:= #[]) (g:=ak) (x:= .tmp x) r h trivial
 obtain⟨u,i,z⟩:=y W w (own K W s.H) a.eval (λid e A=>(m.heap id e A).2) ⟨m.dB x,trivial⟩;refine⟨u,?_,z⟩;have bx:=m.dB x;have n: ∃l,a.tmps.getD x undef= .pointer (aa l):=by
  generalize a.tmps.getD x undef=q at bx;unfold uI at h;split at h
  ·cases h
  split at h
  ·rename_i o;rw[o] at bx;cases bx with|ref _ _ b _=>exact⟨_,rfl⟩
  ·rename_i o;rw[o] at bx;cases bx with|aU _ b B f _ _ _ _=>exact⟨_,rfl⟩
  ·split at h
   ·split at h<;>cases h
   ·split at h<;>cases h
   cases h
  cases h
 obtain⟨l,k⟩:=n;have D:a.eval (.tmp x)= .pointer (aa l):=k;simp only[execOp,Instr.loadAt,D,Instr.sureAddr,e5,hh,eV] at i;simp only[lo,k,asAddr,e5,hh,eV];cases p:(loadVar t l).run P w with
 |ok F L=>rw[p] at i;simp at i;obtain⟨rfl,rfl⟩:=i;rfl
 |_=>rw[p] at i;cases i
theorem HN{P:Program}{c:List (Nat×cv)}(m:ee P c){K:Ctx}{W:Map}{s:S}{a:Act}{w:World}(l:Rel K W s a w): ∀{e:List ResultVar} {k:List V},iK c s e=aa k->
  k.length=e.length/\ ∀(i:Nat) r v,e[i]? =aa r->k[i]? =aa v-> ∃u,(lo a.tmps r).run P w= .ok u w/\bC W w (own K W s.H) v u
 | [],_,h=>by cases h;exact⟨rfl,λi r v h=>by simp at h⟩
 | .tmp t::e,k,h=>by
  simp only[iK] at h;split at h
  ·rename_i n o;cases h;obtain⟨aP,a2⟩:=HN m l o;refine⟨by simp[aP],λi r v b d=>?_⟩;cases i with
   |zero=>simp at b d;subst b;subst d;exact⟨_,rfl,l.dB t⟩
   |succ i=>simp at b d;exact a2 i r v b d
  cases h
 | .cell x t::e,k,h=>by
  simp only[iK] at h;split at h
  ·rename_i q n p o;cases h;obtain⟨aP,a2⟩:=HN m l o;refine⟨by simp[aP],λi r v b d=>?_⟩;cases i with
   |zero=>simp at b d;subst b;subst d;exact ael m l p
   |succ i=>simp at b d;exact a2 i r v b d
  cases h
theorem acD{P:Program}{a:Array Value}{r:ResultVar}(h:d.results= #[r])(b:(lo a r).run P w= .ok u w):(Go.results d a).run P w= .ok u w:=by rw[Aq,h];simp[b]
theorem acC{P:Program}{a:Array Value}{r:ResultVar}{v:Value}(h:d.results= #[r,b])(c:(lo a r).run P w= .ok u w)(e:(lo a b).run P w= .ok v w):(Go.results d a).run P w= .ok (.tuple #[u,v]) w:=by rw[Aq,h];simp[c,e]
theorem acB{P:Program}{a:Array Value}{r c:ResultVar}{v:Value}(h:d.results= #[r,c,b])(e:(lo a r).run P w= .ok u w)(i:(lo a c).run P w= .ok z w)(k:(lo a b).run P w= .ok v w):
  (Go.results d a).run P w= .ok (.tuple #[u,z,v]) w:=by rw[Aq,h];simp[e,i,k]
theorem acA{P:Program}{a:Array Value}{r c e:ResultVar}{v x:Value}(h:d.results= #[r,c,b,e])(i:(lo a r).run P w= .ok u w)(k:(lo a c).run P w= .ok z w)(l:(lo a b).run P w= .ok v w)(m:(lo a e).run P w= .ok x w):
  (Go.results d a).run P w= .ok (.tuple #[u,z,v,x]) w:=by rw[Aq,h];simp[i,k,l,m]
theorem LU{P:Program}{e:List (Nat×cv)}(R:ee P e){K:Ctx}{a:Act}(X:Rel K W s a w){b:List ResultVar}(p:d.results.toList=b){k:List V}(h:iK e s b=aa k)(f:dC b.length 4=ab):
  ∃u,(Go.results d a.tmps).run P w= .ok u w/\bC W w (own K W s.H) (oi k) u:=by
 obtain⟨g,o⟩:=HN R X h;have p:d.results=b.toArray:=by rw[<-p]
 match b,k,g,o,f with
 | [],[],_,_,_=>exact⟨_,results_none p _ _ _,.bZ [] #[] rfl λi c u h _=>by simp at h⟩
 | [r],[v],_,o,_=>
  obtain⟨u,aP,a2⟩:=o 0 r v rfl rfl;exact⟨u,acD p aP,a2⟩
 | [r,y],[v,z],_,o,_=>
  obtain⟨u,aP,a2⟩:=o 0 r v rfl rfl;obtain⟨Q,A,B⟩:=o 1 y z rfl rfl;refine⟨_,acC p aP A,.bZ _ _ rfl λi c u l m=>?_⟩
  match i with
  |0=>simp at l m;subst l;subst m;exact a2
  |1=>simp at l m;subst l;subst m;exact B
  |n+2=>simp at l
 | [r,y,q],[v,z,x],_,o,_=>
  obtain⟨u,aP,a2⟩:=o 0 r v rfl rfl;obtain⟨Q,A,B⟩:=o 1 y z rfl rfl;obtain⟨D,F,L⟩:=o 2 q x rfl rfl;refine⟨_,acB p aP A F,.bZ _ _ rfl λi c u l m=>?_⟩
  match i with
  |0=>simp at l m;subst l;subst m;exact a2
  |1=>simp at l m;subst l;subst m;exact B
  |2=>simp at l m;subst l;subst m;exact L
  |n+3=>simp at l
 | [r,y,q,j],[v,z,x,t],_,o,_=>
  obtain⟨u,aP,a2⟩:=o 0 r v rfl rfl;obtain⟨Q,A,B⟩:=o 1 y z rfl rfl;obtain⟨D,F,L⟩:=o 2 q x rfl rfl;obtain⟨M,E,I⟩:=o 3 j t rfl rfl;refine⟨_,acA p aP A F E,.bZ _ _ rfl λi c u l m=>?_⟩
  match i with
  |0=>simp at l m;subst l;subst m;exact a2
  |1=>simp at l m;subst l;subst m;exact B
  |2=>simp at l m;subst l;subst m;exact L
  |3=>simp at l m;subst l;subst m;exact I
  |n+4=>simp at l
def Lr(b:List (Nat×cv))(c:List ResultVar)(r:V):Exit->S->Prop
 | .normal,s| .ret,s=> ∃a,iK b s c=aa a/\dK (oi a) r
 |_,_=>False
def Lq(c:List (Nat×cv))(d:List ResultVar)(r:V)(a:List E):Exit->S->Prop
 | .normal,s| .ret,s=> ∃b,iK c s d=aa b/\dK (oi b) r/\r.ok (fj a.length)=ab/\ly s.H (fj a.length) (ev a 0)
 |_,_=>False
section
variable {P:Program}{G:fg}{cE:List (Nat×cv)}
theorem Sq{r:V}{i:Nat}{a:List ResultVar}(z:ee P cE)(A:P.funcs[f]? =aa d)(D:(d.name== "runtime.NumGoroutine")=al)(p:d.body=aa c)(F:d.results.toList=a)(q:d.ntmps=i)
  (m:dC args.length i=ab) (H:r.ok gH=ab) (s:dC a.length 4=ab)
  (h: ∀w X,dX.Fits ⟨P,G,cE,i,0,fE⟩ (Ctx.pure P G w X i)->cW (Ctx.pure P G w X i) c (start args) (Lr cE a r)):jS P G f args r:=by
 subst q;refine⟨OE A D p,?_⟩;intro w X L Q R B;have o:L.length<=d.ntmps:=by rw[B.length];exact e9 m
 refine calls_of_wp A p (h w X (Uo z _ w X) fE _ w _ (Rel.start Q R B o) ?_);intro e W g j w' n k;have fin:(∃x,iK cE W a=aa x/\dK (oi x) r)->bodyPost P d (λe w'=> ∃u,e= .returned u/\Ext (λ_=>False) w w'/\bC fE w' X r u) .ret j w':=by
  rintro⟨x,y,m⟩;obtain⟨u,t,bx⟩:=LU z k F y s;have bx:=m _ _ _ _ bx;refine⟨k.defers,u,t,u,rfl,?_,?_⟩
  ·exact k.ext.weaken λb _ ⟨id,h,_⟩=>by simp[Ctx.pure] at h
  exact bx.under (u:=gH) (λb p=> .inl p) (λ_ h=>by simp[gH] at h) H
 cases e with
 |normal=>exact fin n
 |ret=>exact fin n
 |exit id=>exact n.elim
 |goto l=>exact n.elim
 |panic c=>exact n.elim
 |outgrown=>exact n.elim
def uH(a:Map):List E->Nat->Prop
 | [],_=>True
 | .arr _ g _ _::b,k=>(∃q,a k=aa (q,g))/\uH a b (k+1)
 | .aC _ _ g _ _::b,k=>(∃q,a k=aa (q,g))/\uH a b (k+1)
 | .cells _::b,k=>True/\uH a b (k+1)
theorem Nl{W:Map}: ∀(a:List E) (k:Nat),(∀(i:Nat) e g,a[i]? =aa e->e.gen=aa g-> ∃q,W (k+i)=aa (q,g))->uH W a k
 | [],_,_=>trivial
 |e::a,k,h=>by
  have b6:=Nl a (k+1) (λi e g b c=>by
   have:=h (i+1) e g (by simpa using b) c
   rwa [show k+(i+1)=k+1+i by omega] at this)
  cases e with
  |cells=>exact⟨trivial,b6⟩
  |arr _ g _ _=>exact⟨h 0 _ g rfl rfl,b6⟩
  |aC _ _ g _ _=>exact⟨h 0 _ g rfl rfl,b6⟩
theorem aju{o:Func}{a out:List E}{r:V}{x y:Nat}{L:List ResultVar}(Y:ee P cE)(iw:P.funcs[f]? =aa o)(ca:(o.name== "runtime.NumGoroutine")=al)(bw:o.body=aa c)(b6:o.results.toList=L)(Q:o.ntmps=x)(R:a.length=y)
  (z:dC args.length x=ab) (A:dC y out.length=ab) (W:dC L.length 4=ab)
  (h: ∀w X d,dX.Fits ⟨P,G,cE,x,y,d⟩ (Ctx.dD P G w X y d x)->uH d a 0->cW (Ctx.dD P G w X y d x) c (l1 a args) (Lq cE L r out)):hW P G f a args r out:=by
 subst Q;subst R;refine⟨OE iw ca bw,?_⟩;intro w X d us j7 gi aL gT;have B:us.length<=o.ntmps:=by rw[gT.length];exact e9 z
 refine calls_of_wp iw bw (h w X d (Un Y _ _ w X d) (Nl a 0 (λk e g j bV=>by
  rw[dA];exact(nY (aL.heap k _ j) bV).2)) d _ w _ (Rel.l1 j7 gi aL gT B) ?_)
 intro e v D pj w' q m;have fin:(∃I,iK cE v L=aa I/\dK (oi I) r/\r.ok (fj out.length)=ab/\ly v.H (fj out.length) (ev out 0))->
   bodyPost P o (λe w'=> ∃u,∃i:Unit,∃β,e= .returned u/\True/\Left d β a out w w' X r u) .ret pj w':=by
  rintro⟨I,M,N,T,hH⟩;obtain⟨u,hu,bx⟩:=LU Y m b6 M W;have bx:=N _ _ _ _ bx;have hm:a.length<=out.length:=e9 A;let p:S:={t:=p7,H:=ev out 0,u:=fj out.length}
  have F:mO a.length p.u=ab:=by
   have: ∀n,n<=a.length->mO n p.u=ab:=by
    intro n;induction n with
    |zero=>intro _;rfl
    |succ n mI=>intro ca;simp[mO,mI O,show p.u n=ab from jg.2 O]
   exact this _ (df _)
  have bU:=m.cut (s':=p) (pf.nil _ _) hH F;have c6:=Fm (K:=Ctx.dD P G w X a.length d o.ntmps) (β:=D) (s:=v) (s':=p) hH;refine⟨m.defers,u,hu,u,(),cut D p.u,rfl,trivial,?_⟩;refine⟨m.ext.weaken λb _ ⟨id,_,h⟩=>⟨id,h⟩,bU.base,bU.jK,?_,?_,bU.inj,bU.fresh,?_,bx.under c6 (λ_ h=>yb h) T⟩
  ·intro k j;apply bU.d';cases U:p.u k with
   |false=>rfl
   |true=>have:=jg.1 U;omega
  ·intro k b j;apply bU.eB;cases U:p.u k with
   |false=>rfl
   |true=>have:=jg.1 U;omega
  intro k e he;exact(bU.heap k e (by rw[<-wO] at he;exact he)).2
 cases e with
 |normal=>exact fin q
 |ret=>exact fin q
 |exit id=>exact q.elim
 |goto l=>exact q.elim
 |panic c=>exact q.elim
 |outgrown=>exact q.elim
def yv(r:V):Option (List V)->Option V
 |some a=>aa (lC r (oi a))
 |none=>ak
theorem Ln{a:List ResultVar}{r:V}(h:yv r (iK cE s a)=aa r): ∃b,iK cE s a=aa b/\dK (oi b) r:=by
 cases c:iK cE s a with
 |none=>rw[c] at h;cases h
 |some b=>rw[c] at h;simp only[yv,Option.some.injEq] at h;exact⟨b,rfl,T7 h⟩
theorem T6{b:List ResultVar}{r:V}{a:List E}(h:(yv r (iK cE s b),uN s a 0,r.ok (fj a.length)&&u' (fj a.length) a)=(aa r,ux a,ab)):
  ∃c,iK cE s b=aa c/\dK (oi c) r/\r.ok (fj a.length)=ab/\ly s.H (fj a.length) (ev a 0):=by
 simp only[Prod.mk.injEq,cB] at h;obtain⟨i,l,m,n⟩:=h;obtain⟨c,aP,a2⟩:=Ln i;refine⟨c,aP,a2,m,λk e d=>?_⟩;rw[wO] at d
 have:=NF l k e d;rw[dA] at this;exact⟨this,jg.2 (d6.1 d).1,Og n k e d⟩
end
theorem lA(f:k->List T)(ph:k)(h:app l [y]=aa r):app (bj f l) [f ph]=aa (bj f (l++[ph])):=by
 obtain⟨a,_⟩:=xt h;unfold app
 grind
theorem hb(f:k->List T)(l:List k)(ph:k):(bj f (l++[ph]))[(bj f l).length+0]? =aa (f ph):=by grind
theorem np(f:k->List T)(l:List k){r:List T}(e:r=f y):(bj f (l++[ph])).set ((bj f l).length+0) r=bj f (l++[y]):=by grind
theorem ma(f:k->List T){x:List k}{r:List T}(h:app l [y]=aa x)(e:r=f y):(bj f (l++[ph])).set ((bj f l).length+0) r=bj f x:=by
 obtain⟨_,rfl⟩:=xt h
 grind
theorem lB(f:k->List T){x:List k}(a:k)(h:app l [y]=aa x):(bj f (l++[a])).length=(bj f x).length:=by obtain⟨_,rfl⟩:=xt h;simp
theorem ai9(f:k->List T)(h:l.isEmpty=al):bj f l≠[]:=by
 cases l with
 |nil=>cases h
 |cons=>simp
theorem g'(f:k->List T)(h:ch l i y=aa r)(e:q=f y):(bj f l).set (0+i.toNat) q=bj f r:=by subst e;exact(str f h).symm
theorem jn(f:k->List T)(h:aB l i=aa x)(e:q=f x):(bj f l).set (0+i.toNat) q=bj f l:=by subst e;have a:=bQ f h;obtain⟨c,b⟩:=d6.1 a;rw[<-b,List.set_getElem_self]
theorem cX(f:k->List T)(h:ch l i x=aa r):(l.map f).length=(r.map f).length:=by obtain⟨_,_,rfl⟩:=tG h;simp
theorem iy{r:R}(h:(ak:Option R)=aa r):p:=by cases h
def e6{k:Type}(a b:List k):Option Unit:=if b.length=a.length then aa () else ak
theorem jm{b:List k}{u:Unit}(f:k->List T)(h:e6 a b=aa u):(a.map f).length=(b.map f).length:=by
 unfold e6 at h
 grind
def Ep{k:Type}(f:k->List T):Option k->V
 |none=> .t .gY
 |some x=> .aU (f x)
theorem Ud(f:k->List T)(o:Option k)(b:Bool):(V.bZ [Ep f o,aY b]).ok gH=ab:=by cases o<;>rfl
theorem zX{P:Program}{G:fg}[Inhabited R]{r:R->List T}(h:o.isSome=ab)(k:jS P G f args (V.bZ [Ep r o,v])):jS P G f args (V.bZ [V.aU (r (o.getD default)),v]):=by
 cases o with
 |none=>cases h
 |some x=>exact k
theorem zW{P:Program}{G:fg}{r:R->List T}(h:o.isSome=al)(k:jS P G f args (V.bZ [Ep r o,v])):jS P G f args (V.bZ [V.t .gY,v]):=by
 cases o with
 |none=>exact k
 |some x=>cases h
theorem afP(f:k->List T)(l:List k):(l.map f).length=((l.take l.length).map f).length:=by rw[eb]
theorem GU(f:k->List T)(l:List k)(a:0<=i)(b:i<(l.length:Int)):
  0<=i/\i<=((l.map f).length:Int)/\((l.map f).length:Int)<=((l.map f).length:Int)/\(i=0\/i<((l.map f).length:Int))/\i.toNat=0+i.toNat/\l.length-i.toNat=((l.map f).length:Int).toNat-i.toNat:=by grind
theorem Ua(f:R->List T)(l:List R)(k:Nat):(l.take k).map f=(l.map f).take k:=qh
section
set_option linter.unusedVariables false
def dL{k:Type}(l:List k)(i j:Int):Nat:=i.toNat+(l.length-j.toNat)
def jX{α:Type}(l:List α)(i j:Int):List α:=l.take i.toNat++l.drop j.toNat++l.drop (dL l i j)
def hd{α:Type}(l:List α)(i j:Int)(z:α):List α:=l.take i.toNat++l.drop j.toNat++dn (l.length-dL l i j) z
theorem B3(l:List k)(a:0<=i)(b:i<=j)(c:j<=(l.length:Int)):(jX l i j).length=l.length:=by
 unfold jX dL
 grind
theorem Q7(f:k->List T)(l:List k)(a:0<=i)(b:i<=j)(c:j<=(l.length:Int)):0<=i/\i<=j/\j<=(l.length:Int)/\(l.length:Int)<=((l.map f).length:Int):=by grind
theorem C4(f:k->List T)(l:List k)(a:0<=i)(b:i<=j)(c:j<=(l.length:Int)):
  (0:Int)<=0/\(0:Int)<=i/\i<=((l.map f).length:Int)/\((0:Int)=0\/(0:Int)<((l.map f).length:Int))/\0=0+(0:Int).toNat/\i.toNat=i.toNat-(0:Int).toNat:=
 ⟨hA _,a,by rw[dH];omega,.inl rfl,rfl,rfl⟩
theorem Q6(f:k->List T)(l:List k)(a:0<=i)(b:i<=j)(c:j<=(l.length:Int))(d: ¬j<(l.length:Int)):0<=j/\j=((l.map f).length:Int)/\((l.map f).length:Int)<=((l.map f).length:Int):=by grind
theorem T'(f:k->List T)(l:List k)(a:0<=i)(b:i<=j)(c:j<=(l.length:Int)):i.toNat+(l.length-j.toNat)<=(l.map f).length:=by grind
theorem T9(f:k->List T)(l:List k)(a:0<=i)(b:i<=j)(c:j<=(l.length:Int)):j.toNat+(l.length-j.toNat)<=(l.map f).length:=by grind
theorem Lo(f:k->List T)(l:List k)(i j:Int):(jX l i j).map f=(l.map f).take i.toNat++((l.map f).drop j.toNat).take (l.length-j.toNat)++(l.map f).drop (i.toNat+(l.length-j.toNat)):=by unfold jX dL;rw[ib,ib,qh,List.map_drop,List.map_drop,jM (l:=(l.map f).drop j.toNat) (by rw[fN,dH];omega)]
theorem C5(f:R->List T)(l r:List R){k:Nat}(c:0<k)(d:0<=i)(e:i<j)(h:j<=(l.length:Int))(a:r.length=l.length){m:Nat}(b:m=dL l i j):
  0<k/\(0:Int)<=(m:Int)/\(m:Int)<(l.length:Int)/\((0:Nat):Int)+(l.length:Int)<=((r.map f).length:Int)/\m=0+(m:Int).toNat/\l.length-m=(l.length:Int).toNat-(m:Int).toNat:=by rw[dH,a,b];unfold dL;omega
theorem agn(f:k->List T)(l:List k)(z:k)(b:0<=i)(e:i<j)(c:j<=(l.length:Int)):
  dL l i j+(l.length-dL l i j)<=((jX l i j).map f).length/\(hd l i j z).map f=((jX l i j).map f).take (dL l i j)++dn (l.length-dL l i j) (f z)++((jX l i j).map f).drop (dL l i j+(l.length-dL l i j)):=by
 have cS:=B3 l b (O:i<=j) c;have a:(l.take i.toNat++l.drop j.toNat).length=dL l i j:=by
  unfold dL;simp only[List.length_append,List.length_take,List.length_drop];omega
 have d:dL l i j<=l.length:=by unfold dL;omega
 refine⟨by rw[dH,cS];omega,?_⟩;rw[jN (as:=(jX l i j).map f) (by rw[dH,cS];omega),jr,<-qh];unfold hd jX;rw[ib,List.map_replicate,tZ (by rw[a];exact df _),jM (l:=l.take i.toNat++l.drop j.toNat) (by rw[a];exact df _)]
theorem T8(f:k->List T)(l:List k)(z:k)(b:0<=i)(c:i<j)(d:j<=(l.length:Int))(e: ¬j<(l.length:Int)):
  i.toNat+(l.length-i.toNat)<=(l.map f).length/\(hd l i j z).map f=(l.map f).take i.toNat++dn (l.length-i.toNat) (f z)++(l.map f).drop (i.toNat+(l.length-i.toNat)):=by
 refine⟨by rw[dH];omega,?_⟩;have a:dL l i j=i.toNat:=by unfold dL;omega
 unfold hd;rw[a,jN (as:=l) (i:=j.toNat) O,jr,jN (as:=l.map f) (by rw[dH];omega),jr,ib,qh,List.map_replicate]
theorem C6(f:k->List T)(l:List k)(z:k)(a:0<=i)(b:i<j)(c:j<=(l.length:Int)):dL l i j=(((hd l i j z).take (dL l i j)).map f).length:=by
 unfold hd dL
 grind
theorem C7(l:List k)(a:j<=(l.length:Int))(b: ¬j<(l.length:Int)):i.toNat=dL l i j:=by unfold dL;omega
end
theorem xi(h:ch l i x=aa r)(y:k):ch l i y=aa (l.set i.toNat y):=by
 obtain⟨a,b,_⟩:=tG h;unfold ch
 grind
theorem uF(h:ch l i x=aa r)(y:k):aB (l.set i.toNat y) i=aa y:=by
 obtain⟨a,b,_⟩:=tG h;unfold aB
 grind
theorem xh(h:ch l i x=aa r)(y:k):ch (l.set i.toNat y) i x=aa r:=by obtain⟨a,b,rfl⟩:=tG h;unfold ch;rw[bg ⟨a,by rw[gf];exact b⟩,nT]
theorem C2{u:Unit}(f:k->List T)(b:e6 a l=aa u)(h:aB l i=aa x):0<=i/\i<((a.map f).length:Int):=by have:=bO f h;rw[jm f b];exact this
theorem QP{u:Unit}(f:k->List T)(b:e6 a l=aa u):(a.map f).length=l.length:=(jm f b).trans (QQ f l)
theorem Cr(h:ch l i x=aa r):aB r i=aa x:=by
 obtain⟨a,b,rfl⟩:=tG h;unfold aB
 grind
end Go.Lift
