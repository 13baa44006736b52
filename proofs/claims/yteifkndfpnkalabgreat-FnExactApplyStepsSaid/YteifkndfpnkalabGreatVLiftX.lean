/- Tools. -/
import Derived.Test.YteifkndfpnkalabGreatVLiftU
namespace Go.Lift
open Go
open Option renaming some -> aa, none -> ak
open Bool renaming true -> ab, false -> al, and_eq_true -> cB
open Go.Result renaming andThen_ok -> eV
open List renaming replicate -> dh, map_cons -> hg, map -> bk
open Go.Sem renaming run_bind -> e4, run_pure -> hh
open Nat renaming beq -> b8, blt -> dn, ble -> dA
section
variable {P:Program}{r:List Nat}{o:Oper}{v a:V}{b i l M W F:List cG}{c m ml:List dH}{k gen n size:Nat}{e:dd}{e':E}{t:TypeId}{x y:Operand}{u:Nat->Bool}{z:Value}
theorem cw.sub{H r:Nat->Option E}{Y:List V}(h:cw P H o Y v)(a: ∀k e,H k=aa e->r k=aa e):cw P r o Y v:=
 λβ w X b c i=>h β w X b (λid e l=>c id e (a id e l)) i
theorem dX.KC{K:Ctx}{s b c:S}(h:dX K o s b)(m: ∀β a w,Rel K β b a w->Rel K β c a w):dX K o s c:=
 λβ a w next Q n p=>h β a w next Q n λe k l i=>p e k l (m e k l i)
theorem aee{K:Ctx}{β:Map}{H:Nat->Option E}{e:E}(l:H k=aa e):own K β (bb H k (aa e'))=own K β H:=by
 funext b;apply propext;constructor
 ·rintro(h|⟨id,i,a⟩)
  ·exact .inl h
  by_cases c:id=k
  ·subst c;exact .inr ⟨id,by rw[l];simp,a⟩
  rw[cu _ _ _ _ c] at i;exact .inr ⟨id,i,a⟩
 rintro(h|⟨id,i,a⟩)
 ·exact .inl h
 by_cases c:id=k
 ·subst c;exact .inr ⟨id,by rw[cy];simp,a⟩
 exact .inr ⟨id,by rw[cu _ _ _ _ c];exact i,a⟩
theorem Rel.Su{K:Ctx}{β:Map}{s:S}{a:Act}{w:World}(h:Rel K β s a w)(k:Nat){e:E}(l:s.H k=aa e)(o: ∀X,c4 β w X k e->c4 β w X k e'):Rel K β {s with H:=bb s.H k (aa e')} a w:=by
 have ep:=aee (K:=K) (β:=β) (e':=e') l;refine {h with heap:= ?_,dz:= ?_}
 ·intro id c m;show _/\c4 β w (own K β (bb s.H k (aa e'))) id c;rw[ep];by_cases n:id=k
  ·subst n;have b:bb s.H id (aa e') id=aa c:=m;rw[cy] at b;cases b;obtain⟨p,q⟩:=h.heap id e l
   grind
  have b:bb s.H k (aa e') id=aa c:=m;rw[cu _ _ _ _ n] at b;exact h.heap id c b
 intro i;show bB β w (own K β (bb s.H k (aa e'))) _ _;rw[ep];exact h.dz i
section
variable {K:Ctx}{s:S}{d:Option Tmp}{ty:TypeId}{pos:String}{af:Array Edge}{g:Option (Nat×Bool)}
theorem Py{f:FuncId}{c:Operand}{b:Array Operand}{k:Array TypeId}(l:List V)(args:List V)(r:V)
  (D:jh K.P f) (F:s.get c= .fn f l) (L: ∀i,d=aa i->dn i K.nt=ab) (R:fH (b.toList.map s.get++l) args) (W:gI gG args=ab) (h:Fz K.P K.G f args r):
  dX K ⟨d,.call {callee:= .value c,args:=b,argTypes:=k},ty,pos,af,g⟩ s (s.put d r):=by
 obtain⟨B,j,t,v⟩:=D;intro β a w next Q n I
 have x:B.name≠ "runtime.NumGoroutine" :=by simpa using t
 have y:B.body≠ak:=by intro e;simp[e] at v
 obtain⟨us,z,A⟩:=(F▸n.get c).Jf;have o:(execOp a.eval ⟨d,.call {callee:= .value c,args:=b,argTypes:=k},ty,pos,af,g⟩).run K.P w= .ok (.enter f (b.map a.eval++us)) w:=by
  simp[execOp,resolve,Deferred.ofValue,z,invoke,callFunc,j,x,y]
 unfold Oper.wp;rw[o,Oper.upon_enter];have m:=(dr.le ((n.oF b.toList).app A) R).Ke W;have p:=h w (own K β s.H) _ n.Df n.Kg m;have M:(bk a.eval b.toList++us.toList).toArray=b.map a.eval++us:=by rw[<-w2,<-Array.toList_append]
 rw[M] at p;refine p.mono ?_;rintro e N ⟨u,rfl,q,T⟩;exact I β _ N ((n.grow q).put d L (T.any λ_ h=>h))
theorem pZ{s:S}{d:Option Tmp}{e:E}:dd.app ⟨e9 d v,[(k,aa e)],[(k,ab)]⟩ s=(s.new k e).put d v:=by cases d<;>rfl
theorem o0{s:S}{d:Option Tmp}:dd.app ⟨e9 d v,[],[]⟩ s=s.put d v:=by cases d<;>rfl
theorem acZ(a: ∀k,u k=al->s.u k=al)(l:j4 K.nt d=ab)(m:s.get x=v)
  (h:uY d u v i=aa (e,c,b)):dX K ⟨d,.box t x,ty,pos,af,g⟩ s (e.app s):=by
 unfold uY at h;split at h
 ·split at h
  ·rename_i n o;cases h;rw[pZ];exact afs _ (a _ n) x v (gE l) m o
  cases h
 cases h
theorem acG{H:Nat->Option E}(x:Operand)(v:V)(e:List T)(m:v.val=ab)(i:v.cs=e.map .t):CC P H ⟨d,.box t x,ty,pos,af,g⟩ [v] (.aU e):=by
 intro β w X a _ n o;obtain⟨k,p⟩:=(show bB β w X v (a x) from o.1).cells m;have b:(execOp a ⟨d,.box t x,ty,pos,af,g⟩).run P w= .ok (.value (.pointer (aa ⟨w.heap.size,0,ak⟩))) (w.alloc (.cells (a x).cells t)):=by
  simp[execOp,Instr.box,newVar,newRow]
 refine⟨_,_,b,Ext.alloc _ _ _,?_⟩;refine .aU e w.heap.size 0 (λj=>(a x).cells.getD j undef) bl (λh=>by have:=n _ h;omega) (λj c=>?_) λj y l=>?_
 ·rw[dy,World.cell?_alloc_new]
  have:j<(a x).cells.size:=by rw[k,i];simpa using c
  simp[this]
 have c:j<(a x).cells.size:=by rw[k,i,dF];exact(d0.1 l).1
 have q:=p j (.t y) (a x).cells[j] (by rw[i,eG,l];rfl) (by simp[c]);cases q with
 |t _ _ h=>
  have:(a x).cells.getD j undef=(a x).cells[j]:=by simp[c]
  rw[this];exact h.mono (Ext.alloc X _ _) λ_ _ h=>h
theorem aaO(a:j4 K.nt d=ab)(k:s.get x=v)
  (h:H' d v i=aa (e,c,b)):dX K ⟨d,.box t x,ty,pos,af,g⟩ s (e.app s):=by
 unfold H' at h;split at h
 ·split at h
  ·rename_i l m n;cases h;rw[o0];exact KO (vals:=[nM v]) (gE a) ⟨k▸uI _,trivial⟩ (acG x _ l m (oX n))
  cases h
 cases h
theorem Zy{a:List (Nat×ct)}(m:ed K.P a){i:ct}(n:dC a t=aa i)(o: ∀k,u k=al->s.u k=al)(p:j4 K.nt d=ab)
  (h:uY d u (d7 i.z) l=aa (e,c,b)):dX K ⟨d,.alloc t,ty,pos,af,g⟩ s (e.app s):=by
 unfold uY at h;split at h
 ·split at h
  ·rename_i q r;cases h;rw[pZ];obtain⟨y,x,_⟩:=m _ _ n;exact aer _ (o _ q) (gE p) x r
  cases h
 cases h
theorem ZU{c:List (Nat×ct)}(W:ed K.P c){C:dV}(f:C.cE=c){H:Nat->Option E}(F: ∀k e,H k=aa e->s.H k=aa e)
  (G:s.get x=a) (L:s.get y=v) (h:Hk C t H a v l=aa (e,m,b)) (o:cH m):dX K ⟨ak,.store t x y,ty,pos,af,g⟩ s (e.app s):=by
 subst f;unfold Hk at h;split at h
 ·cases h
 rename_i i j;obtain⟨U,Q,_⟩:=W _ _ j;split at h
 ·split at h
  ·rename_i cs p;split at h
   ·rename_i q z A u;cases h;exact aep _ _ _ _ cs v G L (F _ _ p) Q q z A u
   cases h
  cases h
 ·split at h
  ·rename_i I R M n N r B l p D;split at h
   ·rename_i q z A;cases h;obtain⟨rfl,rfl,T,rfl,_⟩:=o;exact YQ x y _ _ _ I n r N G (v:=nM v) (by rw[L];exact uI v) (oX D) q (F _ _ p) Q T (dc z) (fb A)
   cases h
  cases h
 cases h
theorem Bo{k i n:Nat}: ∀{l:List (Nat×Nat×V)},cH (u6 k i n l)-> ∀c b e,(c,b,e)∈l->i<=b->b<i+n->c=k
 |h::l,a,c,b,e,hm,m,o=>by
  simp only[u6] at a;rcases eg.1 hm with rfl|hm
  ·have q:dA i b=ab:=Nat.ble_eq_true_of_le m;have r:dn b (i+n)=ab:=by simpa[Nat.blt_eq] using o
   simp only[q,r,Bool.and_self,cond_true] at a;exact a.1
  cases p:(dA i h.2.1&&dn h.2.1 (i+n)) with
  |true=>rw[p] at a;exact Bo a.2 c b e hm m o
  |false=>rw[p] at a;exact Bo a c b e hm m o
theorem Bp{k off n:Nat}: ∀{i:List (Nat×Nat×V)},cH (u7 k off n i)-> ∀c b e,(c,b,e)∈i->off<=b->b<off+n->c≠k
 | [],_,_,_,_,hm,_,_=>by cases hm
 |h::i,a,c,b,e,hm,l,m=>by
  unfold u7 at a;rcases eg.1 hm with rfl|hm
  ·have p:dA off b=ab:=Nat.ble_eq_true_of_le l;have q:dn b (off+n)=ab:=by simpa[Nat.blt_eq] using m
   simp only[p,q,Bool.and_self,cond_true] at a;exact a.1
  cases o:(dA off h.2.1&&dn h.2.1 (off+n)) with
  |true=>rw[o] at a;exact Bp a.2 c b e hm l m
  |false=>rw[o] at a;exact Bp a c b e hm l m
theorem YA{C:dV}(mG:ed K.P C.cE){H:Nat->Option E}{N:List cG}(hH: ∀k e,H k=aa e->s.H k=aa e)
  (A:s.get x=a) (hy:s.get y=v) (h:GZ C t H a v M=aa (e,ml,N)) (B:cH ml):dX K ⟨ak,.store t x y,ty,pos,af,g⟩ s (e.app s):=by
 unfold GZ at h;split at h
 ·rename_i i id gen sz k D r M T;obtain⟨ak',U,_⟩:=mG _ _ T;split at h
  ·rename_i Y m F o ep oI;split at h
   ·rename_i l c iv;cases h;simp only[cB] at c;obtain⟨rfl,er,b5,dp⟩:=B;obtain⟨mT,G⟩:=cH.app dp;obtain⟨dm,cL⟩:=Ae iv mT;refine WZ x y _ _ _ Y m o r v ep A hy c.1 c.2.1 (hH _ _ oI) er U (dc c.2.2.1) (by simpa[Nat.blt_eq] using c.2.2.2.2) b5 (fb c.2.2.2.1) (Bo G) λj hj=>?_;have hj':=bC (show j<(l.map (·.2)).length by simp[dm];exact hj)
    grind
   cases h
  cases h
 ·rename_i i id gen sz k D q n r M T;obtain⟨ak',U,_⟩:=mG _ _ T;split at h
  ·rename_i Y m F o ep oI;split at h
   ·rename_i l c iv;cases h;simp only[cB] at c;obtain⟨rfl,er,b5,dp⟩:=B;obtain⟨mT,G⟩:=cH.app dp;obtain⟨G,rm⟩:=cH.app G;obtain⟨rm,Ss⟩:=cH.app rm;obtain⟨dm,cL⟩:=Ae iv mT;have L:=dc c.2.2.1;have Q: ∀x,x∈(ep.drop q.toNat).take n->x∈ep:=λx A=>ft (gn A);have z: ∀x,x∈ep->x∈ep.take q.toNat\/x∈(ep.drop q.toNat).take n\/x∈(ep.drop q.toNat).drop n:=λx A=>by
     rw[<-ud q.toNat ep,eX] at A;rcases A with h|h
     ·exact .inl h
     rw[<-ud n (ep.drop q.toNat),eX] at h
     grind
    refine Le x y _ _ _ Y m o r v ep A hy c.1 c.2.1 (hH _ _ oI) er U L (by simpa[Nat.blt_eq] using c.2.2.2.2) b5 (fb c.2.2.2.1) (λf u I hm=>?_) (λf u R hm=>?_) λj hj=>?_
    ·rcases eX.1 hm with b|b
     ·exact⟨I,gn b,λp=>br p.1 (Bp rm f u I b p.2.1 p.2.2),λ_=>rfl⟩
     rcases eX.1 b with b|b
     ·obtain⟨R,aP,a2,a3⟩:=GH b;refine⟨R,Q _ aP,λp=>?_,λp=>a3 λW=>p ⟨Bo G f u R aP W.1 O,W.1,O⟩⟩
      grind
     exact⟨I,ft (ft b),λp=>br p.1 (Bp Ss f u I b p.2.1 p.2.2),λ_=>rfl⟩
    ·rcases z _ hm with b|b|b
     ·exact⟨R,eX.2 (.inl b)⟩
     ·obtain⟨v1,h2⟩:=G' (off:=D) (vs:=v.cs) b
      grind
     exact⟨R,eX.2 (.inr (eX.2 (.inr b)))⟩
    have hj':=bC (show j<(l.map (·.2)).length by simp[dm];exact hj)
    grind
   cases h
  cases h
 cases h
theorem dX.ajz{K:Ctx}{s b c:S}(h:dX K o s b)(p:b.le K c):dX K o s c:=
 λβ a w next Q q r=>h β a w next Q q λi m n k=>let ⟨e,l⟩:=p i m n k;r e m n l
theorem Nk{z:List T}: ∀{l:List (Nat×Nat)} {j m:Nat},x2 z l=ab->uZ l j=aa m->z[j]? =aa .fp
 |p::l,j,m,h,a=>by
  simp only[x2,cB] at h;simp only[uZ] at a;cases b:b8 p.1 j with
  |true=>
   rw[<-dc b];have c:=h.1;split at c
   ·assumption
   cases c
  |false=>rw[b] at a;exact Nk h.2 a
theorem aaf{K:Ctx}{s:S}(k:Nat){W:TypeId}{e:Nat}{z:List T}(l:List dw)(m:Nat)(D:s.H k=aa (.arr W gen e (dh n z)))(A:(U l m).ty=W)(F:(U l m).size=e)
  (I:x2 z (U l m).aZ=ab):s.le K {s with H:=bb s.H k (aa (.aC l m gen (dh n (z.map ib)) []))}:=by
 intro β a w h;refine⟨_,h.drop k (.aC l m gen (dh n (z.map ib)) []) (by rw[D];simp) ?_⟩;have o:=(h.heap k _ D).2;subst A;subst F;refine⟨o.1,?_⟩;have p: ∀b,own K (β.drop k) (bb s.H k (aa (.aC l m gen (dh n (z.map ib)) []))) b->own K β s.H b:=by
  rintro b (M|⟨id,A,F⟩)
  ·exact .inl M
  refine .inr ⟨id,λG=>?_,nO F⟩;by_cases f:id=k
  ·subst f;rw[D] at G;cases G
  rw[cu _ _ _ _ f] at A;exact A G
 rcases o.2 with ⟨aP,a2⟩|⟨b,N,aP,a2,a3,a4,a5⟩
 ·have:n=0:=by simpa using a2
  subst this;exact .inl ⟨aP,rfl,λc q=>q.1 rfl⟩
 refine .inr ⟨b,N,λ_ _ _=>False,aP,a2,by simpa using a3,λL P=>?_,λi j L x u B t V=>Cell.of ?_,λ_ _ _ h=>h.elim,λ_ _ _ _ _ h=>h.elim,λc=>⟨λq=>br rfl q.1,λ⟨_,_,q⟩=>q.elim⟩⟩
 ·obtain⟨Y,rfl⟩:=wZ.1 P
  grind
 rw[uc] at B;split at B
 ·rename_i Q;cases B;rw[eG] at t;obtain⟨y,v,rfl⟩:=Option.map_eq_some_iff.1 t;have r:=(a5 i j z y u (by rw[uc,bg Q]) v V).mono (Ext.refl _ _) λb _=>p b;cases R:(U l m).eb j with
  |none=>exact .fm _ _ _ r.zb (λ_ h=>h)
  |some m2=>
   have:=Nk I R;rw[v] at this;cases this;cases r;exact .nil _ _ λ_ h=>h
 cases B
theorem aaI{C:dV}(mG:ed K.P C.cE){w:V}{N:List cG}(L: ∀k,u k=al->s.u k=al)(cI:j4 K.nt d=ab)
  (hx:s.get x=v) (hy:s.get y=w) (h:Ik C d t u v w M=aa (e,ml,N)) (Q:cH ml):dX K ⟨d,.makeSlice t x y,ty,pos,af,g⟩ s (e.app s):=by
 unfold Ik at h;split at h
 ·cases h
 rename_i i l;split at h
 ·rename_i o T;have fo:K.P.underlying t=aa (.slice o):=(mG _ _ l).iC.2.2.2 o T;split at h
  ·cases h
  rename_i j W;obtain⟨Dw,he,_⟩:=mG _ _ W;split at h
  ·rename_i n m k R M p r;split at h
   ·rename_i U f Y z;cases h;obtain⟨hnm,A,B,_⟩:=Q;obtain⟨sY,ahy,rfl⟩:=jE A;have D:m=n:=O
    subst D;simp only[cB] at z;have c:=fb z.2;have I:m.toNat*j.bytes<=1000000000*200000:=nY O c;have bW:=d9 B;have W:=P0 (K:=K) (s:=s) (d:=d) (ty:=ty) (pos:=pos) (af:=af) (g:=g) k (L _ U) x y o m.toNat p (gE cI) fo he (by rw[hx,<-bW]) (by rw[hy,<-bW]) (oX r) f Y z.1 O O;refine W.KC λβ a w b5=>?_;have hk:((s.new k (.arr o 1 j.size (dh m.toNat p))).put d (.bf k 1 j.size 0 m.toNat)).H k=aa (.arr o 1 j.size (dh m.toNat p)):=by
     cases d<;>exact cy _ _ _
    have vE:=b5.Su k hk λX=>acP;rw[pZ,Es]
    have: ∀F G:E,({((s.new k F).put d (.bf k 1 j.size 0 m.toNat)) with H:=bb ((s.new k F).put d (.bf k 1 j.size 0 m.toNat)).H k (aa G)}:S)=(s.new k G).put d (.bf k 1 j.size 0 m.toNat):=by
     intro F G;have L: ∀a b:Option E,bb (bb s.H k a) k b=bb s.H k b:=by
      intro a b;funext i;by_cases l:i=k
      ·subst l;rw[cy,cy]
      rw[cu _ _ _ _ l,cu _ _ _ _ l,cu _ _ _ _ l]
     cases d<;>simp only[S.put,S.new,L]
    grind
   cases h
  ·rename_i n m k lg Γ q R M p r;split at h
   ·rename_i U f Y z;cases h;obtain⟨ahZ,kN,hnm,A,B,_⟩:=Q;obtain⟨sY,ahy,rfl⟩:=jE A;have D:m=n:=O
    subst D;simp only[cB] at f z;have c:=fb z.2;have I:m.toNat*j.bytes<=1000000000*200000:=nY O c;have bW:=d9 B;have W:=P0 (K:=K) (s:=s) (d:=d) (ty:=ty) (pos:=pos) (af:=af) (g:=g) k (L _ U) x y o m.toNat p (gE cI) fo he (by rw[hx,<-bW]) (by rw[hy,<-bW]) (oX r) f.1 Y z.1 O O;have hk:((s.new k (.arr o 1 j.size (dh m.toNat p))).put d (.bf k 1 j.size 0 m.toNat)).H k=aa (.arr o 1 j.size (dh m.toNat p)):=by
     cases d<;>exact cy _ _ _
    have hl:=aaf (K:=K) k Γ q hk ahZ kN f.2;rw[pZ,Es]
    have: ∀F G:E,({((s.new k F).put d (.bf k 1 j.size 0 m.toNat)) with H:=bb ((s.new k F).put d (.bf k 1 j.size 0 m.toNat)).H k (aa G)}:S)=(s.new k G).put d (.bf k 1 j.size 0 m.toNat):=by
     intro F G;have L: ∀a b:Option E,bb (bb s.H k a) k b=bb s.H k b:=by
      intro a b;funext i;by_cases l:i=k
      ·subst l;rw[cy,cy]
      rw[cu _ _ _ _ l,cu _ _ _ _ l,cu _ _ _ _ l]
     cases d<;>simp only[S.put,S.new,L]
    rw[this] at hl;exact W.ajz hl
   cases h
  cases h
 cases h
theorem YC{C:dV}(B:ed K.P C.cE)(_hn0:C.ef=K.ef){D:TypeId}{H:Nat->Option E}{w:V}{n:List cG}{G:List dH}(u: ∀k e,H k=aa e->s.H k=aa e)(I:j4 K.nt d=ab)
  (M:s.get x=v) (N:s.get y=w) (h:G1 C d t D H v w F=aa (e,G,n)) (o:cH G):dX K ⟨d,.call {callee:= .builtin .append,args:= #[x,y],argTypes:= #[t,D]},ty,pos,af,g⟩ s (e.app s):=by
 unfold G1 at h;split at h
 ·cases h
 rename_i i T;split at h
 ·rename_i L p;have U:K.P.underlying t=aa (.slice L):=(B _ _ T).iC.2.2.2 L p;split at h
  ·cases h
  rename_i j Q;obtain⟨Dw,Y,_⟩:=B _ _ Q;split at h
  ·rename_i k gen W off len a R F hw;split at h
   ·rename_i e' c q b oI;split at h
    ·rename_i h1 m r;cases h;obtain⟨rfl,rfl,rfl,rfl,l,z,A,_⟩:=o;obtain⟨bA,rfl⟩:=xi l;simp only[cB] at m r;have e1:=dc r.1;have e2:=dc r.2;have mD:=dc h1;subst e1;subst e2;subst mD;have f:(b.length+a.length)*j.bytes<=1000000000*140000:=nY bA (fb m.2.2);have Q:=aca (K:=K) (s:=s) (d:=d) (ty:=ty) (pos:=pos) (af:=af) (g:=g) (gen:=c) (size:=j.size) k x y e' b a (gE I) M (by rw[N,<-hw];exact uI w) (u _ _ oI) U Y m.1 m.2.1 z A O O;rw[dP]
     have: ∀v e,dd.app ⟨e9 d v,[(k,aa e)],[]⟩ s=({s with H:=bb s.H k (aa e)}:S).put d v:=by intro v e;cases d<;>rfl
     grind
    cases h
   cases h
  cases h
 cases h
theorem Xz{C:dV}(mG:ed K.P C.cE){l5:TypeId}{H:Nat->Option E}{w:V}{U:List cG}(D: ∀k e,H k=aa e->s.H k=aa e)(f:j4 K.nt d=ab)
  (u:s.get x=v) (I:s.get y=w) (h:Gm C d t l5 H v w W=aa (e,ml,U)) (p:cH ml):dX K ⟨d,.call {callee:= .builtin .append,args:= #[x,y],argTypes:= #[t,l5]},ty,pos,af,g⟩ s (e.app s):=by
 unfold Gm at h;split at h
 ·cases h
 rename_i i aL;split at h
 ·rename_i Y q0;have M:K.P.underlying t=aa (.slice Y):=(mG _ _ aL).iC.2.2.2 Y q0;split at h
  ·cases h
  rename_i j z;obtain⟨Dw,N,_⟩:=mG _ _ z;split at h
  ·rename_i k gen r F len et g3 z3 ak5 n3 R W;split at h
   ·rename_i Γ m b c q;split at h
    ·rename_i a l;cases h;obtain⟨rfl,rfl,la,rfl,n,j',⟨mT,q2,rm⟩,rfl,_⟩:=p;simp only[cB] at a l;have A:=dc a.1;have B:=dc a.2;have pt:=dc l.1;have G:0<j.size:=by simpa[Nat.blt_eq] using l.2
     subst A;subst B;subst pt;subst n;have z:=XV (K:=K) (s:=s) (d:=d) (ty:=ty) (pos:=pos) (af:=af) (g:=g) _ _ _ _ x y _ Γ m _ (gE f) u I (D _ _ q) la j' M N G mT q2 rm
     have: ∀v e,dd.app ⟨e9 d v,[(et,aa e)],[]⟩ s=({s with H:=bb s.H et (aa e)}:S).put d v:=by intro v e;cases d<;>rfl
     rw[this];exact z
    cases h
   cases h
  ·rename_i k gen r F len et g3 z3 ak5 n3 R W _;split at h
   ·rename_i Γ m b c ajH m3 agB ef o ahT q L;split at h
    ·rename_i a l T;cases h;obtain⟨rfl,rfl,rfl,rfl,la,j',rfl,rfl,h3,Q,oJ,vE,_⟩:=p;obtain⟨bA,rfl⟩:=xi Q;simp only[cB] at a l T;have A:=dc a.1;have B:=dc a.2;have mD:=dc T.1;subst A;subst B;subst mD;have hmul:(c.length+(ef::o).length)*j.bytes<=1000000000*140000:=nY bA (fb l.2.2);have z:=aa' (K:=K) (s:=s) (d:=d) (ty:=ty) (pos:=pos) (af:=af) (g:=g) (gen:=b) (size:=j.size) k et agB (o.length+1) x y Y Γ ajH m m3 c (ef::o) ahT (gE f) u I (D _ _ q) (D _ _ L) h3 rfl M N l.1 la j' oJ vE (Nat.succ_pos _) T.2.1 T.2.2 O O;rw[dP]
     have: ∀v e,dd.app ⟨e9 d v,[(k,aa e)],[]⟩ s=({s with H:=bb s.H k (aa e)}:S).put d v:=by intro v e;cases d<;>rfl
     rw[this];exact z
    cases h
   ·rename_i e' b akz c C9 q L;split at h
    ·rename_i a l;cases h;obtain⟨rfl,rfl,rfl,rfl,n,aho,sW,rfl,_⟩:=p;simp only[cB] at a l;have A:=dc a.1;have B:=dc a.2;have pt:=dc l.1;have k9:=dc l.2.1;have G:0<j.size:=by simpa[Nat.blt_eq] using l.2.2
     subst A;subst B;subst pt;subst k9;subst n;have z:=YR (K:=K) (s:=s) (d:=d) (ty:=ty) (pos:=pos) (af:=af) (g:=g) _ _ _ _ x y _ _ (gE f) u I (D _ _ q) M N G aho sW
     have: ∀v e,dd.app ⟨e9 d v,[(et,aa e)],[]⟩ s=({s with H:=bb s.H et (aa e)}:S).put d v:=by intro v e;cases d<;>rfl
     rw[this];exact z
    cases h
   cases h
  ·rename_i k gen r F len W;split at h
   ·rename_i b q;split at h
    ·rename_i a l;cases h;obtain⟨rfl,n,_⟩:=p;obtain⟨C9,q,bV⟩:=zM.1 q;simp only[cB] at a;have A:=dc a.1;have B:=dc l;have G:0<j.size:=by simpa[Nat.blt_eq] using a.2
     subst A;subst B;subst n;rw[o0];exact XU (K:=K) (s:=s) (d:=d) (ty:=ty) (pos:=pos) (af:=af) (g:=g) _ _ x y _ _ (gE f) u (dI.of_eq I) (D _ _ q) bV M N G
    cases h
   cases h
  cases h
 cases h
theorem ae7{x:T}(h:zE v=aa x):v= .t x:=by
 cases v<;>simp[zE] at h
 grind
theorem LV{d:dw}: ∀{j:Nat} {a:List V} {r:List T} {c:List (Nat×Nat×V)},BA d j a=aa (r,c)->r.length=a.length/\
  (∀i b v,(i,b,v)∈c->i=0/\ ∃k,b=j+k/\a[k]? =aa v)/\(∀(k:Nat) x,r[k]? =aa x->(∃v,(0,j+k,v)∈c)\/(d.eb (j+k)=ak/\a[k]? =aa (.t x)))
 |j,[],r,c,h=>by cases h;exact⟨rfl,λ_ _ _ h=>br h lv,λk x h=>by simp at h⟩
 |j,v::a,r,c,h=>by
  simp only[BA] at h;split at h
  ·cases h
  rename_i G n B;obtain⟨aP,a2,a3⟩:=LV B;have y: ∀i b ea,(i,b,ea)∈n->i=0/\ ∃k,b=j+k/\(v::a)[k]? =aa ea:=λi b ea hm=>by
   obtain⟨D,k,L,F⟩:=a2 i b ea hm;exact⟨D,k+1,O,by simpa using F⟩
  split at h
  ·rename_i Q z;cases A:v.one with
   |false=>rw[A] at h;cases h
   |true=>
    rw[A] at h;cases h;refine⟨by simp[aP],λi b ea hm=>?_,λk x l=>?_⟩
    ·rcases eg.1 hm with e|hm
     ·cases e;exact⟨rfl,0,rfl,rfl⟩
     exact y i b ea hm
    cases k with
    |zero=>exact .inl ⟨v,fi⟩
    |succ k=>
     have:=a3 k x (by simpa using l);rw[show j+1+k=j+(k+1) by omega] at this;rcases this with ⟨ea,o⟩|⟨m,p⟩
     ·exact .inl ⟨ea,eW _ o⟩
     exact .inr ⟨m,by simpa using p⟩
  rename_i z;split at h
  ·rename_i R q;cases h;refine⟨by simp[aP],y,λk x l=>?_⟩;cases k with
   |zero=>simp at l;subst l;exact .inr ⟨z,by simp[ae7 q]⟩
   |succ k=>
    have:=a3 k x (by simpa using l);rw[show j+1+k=j+(k+1) by omega] at this;rcases this with m|⟨m,p⟩
    ·exact .inl m
    exact .inr ⟨m,by simpa using p⟩
  cases h
theorem Lx{d:dw}{sz:Nat}: ∀{n i:Nat} {a:List V} {l:List (List T)} {m:List (Nat×Nat×V)},wO d sz i n a=aa (l,m)->a.length=n*sz->l.length=n/\(∀r,r∈l->r.length=sz)/\
  (∀y b v,(y,b,v)∈m-> ∃q,y=i+q/\a[q*sz+b]? =aa v)/\(∀(q:Nat) r (k:Nat) x,l[q]? =aa r->r[k]? =aa x->(∃v,(i+q,k,v)∈m)\/(d.eb k=ak/\a[q*sz+k]? =aa (.t x)))
 |0,i,a,l,m,h,_=>by cases h;exact⟨rfl,λ_ h=>br h lv,λ_ _ _ h=>br h lv,λq r k x h=>by simp at h⟩
 |n+1,i,a,l,m,h,D=>by
  simp only[wO] at h;split at h
  ·rename_i r M F G L Q;cases h;obtain⟨aP,a2,a3⟩:=LV L;rw[dN,Nat.one_mul] at D;obtain⟨R,W,f,j⟩:=Lx Q (by rw[fN];omega);have z:(a.take sz).length=sz:=by rw[c6];omega
   have o: ∀q b:Nat,(a.drop sz)[q*sz+b]? =a[(q+1)*sz+b]? :=λq b=>by rw[fv];congr 1;rw[dN,Nat.one_mul];omega
   have p: ∀{k:Nat} {v:V},(a.take sz)[k]? =aa v->a[0*sz+k]? =aa v:=fun {k v} h=>by
    rw[fs] at h;rw[gN,dy];split at h
    ·exact h
    cases h
   refine⟨by simp[R],λA b5=>?_,λy b v bR=>?_,λq A k x b5 B=>?_⟩
   ·rcases eg.1 b5 with rfl|b5
    ·rw[aP,z]
    exact W _ b5
   ·rcases eX.1 bR with bR|bR
    ·obtain⟨⟨N,P,U⟩,u,I⟩:=eH.1 bR;cases I;obtain⟨_,k,c,e⟩:=a2 _ _ _ u;exact⟨0,rfl,p (by rw[c,dy];exact e)⟩
    obtain⟨q,c,e⟩:=f _ _ _ bR;exact⟨q+1,O,by rw[<-o];exact e⟩
   cases q with
   |zero=>
    simp at b5;subst b5;rcases a3 k x B with ⟨v,bR⟩|⟨c,e⟩
    ·rw[dy] at bR;exact .inl ⟨v,nW _ (eH.2 ⟨_,bR,rfl⟩)⟩
    rw[dy] at c;exact .inr ⟨c,p e⟩
   |succ q=>
    rcases j q A k x (by simpa using b5) B with ⟨v,bR⟩|⟨c,e⟩
    ·exact .inl ⟨v,o3 _ (by rw[show i+(q+1)=i+1+q by omega];exact bR)⟩
    exact .inr ⟨c,by rw[<-o];exact e⟩
  cases h
theorem P1{u:TypeDesc}{B:Nat}(k:Nat)(hk:s.u k=al)(n:Nat)(o:Array (Nat×Operand))(e:TypeId)(l cs:List V)(F:List dw)(m:Nat)(r:List (List T))(ep:List (Nat×Nat×V))(cI: ∀i,d=aa i->dn i K.nt=ab)(G:fH ((o.toList.map (·.2)).map s.get) l)
  (hu:K.P.underlying t=aa (.slice e)) (he:cn K.P e u z size B) (L:b8 o.toList.length l.length=ab) (cR:0<n) (hp:dn 0 size=ab) (A:dA (n*size) 16777216=ab)
  (iv:kl (λi=>aa (i*size,size)) (dh (n*size) .c') ((o.toList.map (·.1)).zip l)=aa cs) (s3:wO (U F m) size 0 n cs=aa (r,ep)) (hcl:cs.length=n*size) (la:(U F m).size=size) (j':(U F m).ty=e):
  dX K ⟨d,.buildSlice t n o,ty,pos,af,g⟩ s ((s.new k (.aC F m 1 r ep)).put d (.bf k 1 size 0 n)):=by
 have R:0<size:=by simpa[Nat.blt_eq] using hp
 obtain⟨ak6,zd,Sq,ak7⟩:=Lx s3 hcl;have aka:0<n*size:=Nat.mul_pos cR R;intro β a w next Q b5 hkk
 have Ju:dr β w (own K β s.H) l ((o.toList.map (·.2)).map a.eval):=(b5.oF _).le G;have pF:=wM a.eval o.toList;obtain⟨b,h1,h2⟩:=xh (β:=β) (w:=w) (X:=own K β s.H) (λi=>aa (i*size,size)) (o.toList.map (·.1)) l _ (dh (n*size) .c')
  ((Array.range (n*size)).map ((if n*size=0 then #[] else z.cells)[· %(if n*size=0 then #[] else z.cells).size]!)) _ (Bm _ _ _ _ _ bl) Ju (by simpa using dc L) iv
 have W:(execOp a.eval ⟨d,.buildSlice t n o,ty,pos,af,g⟩).run K.P w= .ok (.value (.slice (aa ⟨w.heap.size,0,ak⟩) n n)) (w.alloc (.cells b e)):=by
  have f:(o.toList.map λx=>match x with|(i,x)=>(i,a.eval x))=(o.toList.map (·.1)).zip ((o.toList.map (·.2)).map a.eval):=by rw[<-pF]
  have bA: ¬(n*size>2^24):=by have:=fb A;omega
  have h0: ¬n*size=0:=O
  simp only[execOp,Instr.buildSlice,e4,run_underlying hu,eV,he.run_sizeOf,bA,if_false,Array.toList_map];simp only[h0,if_false] at h1;simp only[h0,if_false,hh,e4,he.rr,eV];rw[f,h1];rfl
 unfold Oper.wp;rw[W];have p:b.size=n*size:=by
  have h:=h2.1;rw[l7] at h;omega
 have I:=b5.Kd k 1 hk b e (.aC F m 1 r ep) (λβ' X' w' hw sX M lX=>⟨df _,Or.inr ⟨w.heap.size,b,λ_ _ _=>False,sX,by subst hw;rw[j'];exact j2 _ _,by rw[p,la,ak6];exact df _,λD N=>by rw[zd D N,la],λi j D x y aP a2 a3=>by
  rw[la] at a3;refine⟨λv G=>⟨?_,λ_ h=>h⟩,λcR=>?_⟩
  ·obtain⟨q,e1,f⟩:=Sq _ _ _ G;rw[dy] at e1;subst e1;exact M _ _ (h2.2 _ _ y f (by simpa using a3))
  rcases ak7 i D j x aP a2 with ⟨v,G⟩|⟨e1,f⟩
  ·rw[dy] at G;exact br G (cR v)
  rw[e1];have h6:=M _ _ (h2.2 _ _ y f (by simpa using a3));cases h6 with|t _ _ h=>exact .fm _ _ _ h λ_ h=>h,λ_ _ _ h=>h.elim,λ_ _ _ _ _ h=>h.elim,λc=>⟨λh=>br h (lX c),λ⟨_,_,h⟩=>h.elim⟩⟩⟩)
 have Y:(w.alloc (.cells b e)).heap.size=w.heap.size+1:=World.size_alloc ..;have gk:(w.alloc (.cells b e)).shape? w.heap.size=aa (e,b.size):=by unfold World.shape?;rw[j2]
 have R9:bB (β.put k (aa (aa w.heap.size,1))) (w.alloc (.cells b e)) (own K (β.put k (aa (aa w.heap.size,1))) (s.new k (.aC F m 1 r ep)).H) (.bf k 1 size 0 n)
   (.slice (aa ⟨w.heap.size,0*size,ak⟩) n n):= .bf k 1 size 0 n n w.heap.size b.size e (df _) (cy _ _ _) (Y▸nh _) gk (by rw[p,dy]) (df _) (by have h1:n*1<=n*size:=Nat.mul_le_mul_left _ R;have:=fb A;unfold maxLen;omega)
 rw[gN] at R9;exact hkk _ _ _ (I.put d cI R9)
theorem Pj{n j:Nat}{v:V}: ∀{a:List V} {i:Nat},(n,j,v)∈qx i a->j=0/\ ∃k,n=i+k/\a[k]? =aa v
 |x::a,i,h=>by
  simp only[qx] at h;rcases eg.1 h with h|h
  ·cases h;exact⟨rfl,0,rfl,rfl⟩
  obtain⟨e,k,c,b⟩:=Pj h;exact⟨e,k+1,O,by simpa using b⟩
theorem Ph{v:V}: ∀{vs:List V} {i k:Nat},vs[k]? =aa v->(i+k,0,v)∈qx i vs
 |x::vs,i,0,h=>by
  simp at h;subst h;exact fi
 |x::vs,i,k+1,h=>by have:=Ph (i:=i+1) (k:=k) (vs:=vs) (by simpa using h);rw[show i+1+k=i+(k+1) by omega] at this;exact eW _ this
theorem afl{u:TypeDesc}{b A:Nat}(k:Nat)(hk:s.u k=al)(n:Nat)(p:Array (Nat×Operand))(e:TypeId)(o B:List V)(D:List dw)(m:Nat)(cI: ∀i,d=aa i->dn i K.nt=ab)(N:fH ((p.toList.map (·.2)).map s.get) o)
  (hu:K.P.underlying t=aa (.slice e)) (he:cn K.P e u z b A) (F:b8 p.toList.length o.length=ab) (cR:dn 0 n=ab) (T:b=1) (G:dA (n*b) 16777216=ab)
  (iv:kl (λi=>aa (i*b,b)) (dh (n*b) .c') ((p.toList.map (·.1)).zip o)=aa B) (hcl:B.length=n) (Y:(U D m).size=1) (j':(U D m).ty=e):
  dX K ⟨d,.buildSlice t n p,ty,pos,af,g⟩ s ((s.new k (.aC D m 1 (dh n [.bG []]) (qx 0 B))).put d (.bf k 1 1 0 n)):=by
 subst T;have L:0<n:=by simpa[Nat.blt_eq] using cR
 intro β a w next Q b5 hkk
 have Ju:dr β w (own K β s.H) o ((p.toList.map (·.2)).map a.eval):=(b5.oF _).le N;have pF:=wM a.eval p.toList;obtain⟨l,h1,h2⟩:=xh (β:=β) (w:=w) (X:=own K β s.H) (λi=>aa (i*1,1)) (p.toList.map (·.1)) o _ (dh (n*1) .c')
  ((Array.range (n*1)).map ((if n*1=0 then #[] else z.cells)[· %(if n*1=0 then #[] else z.cells).size]!)) _ (Bm _ _ _ _ _ bl) Ju (by simpa using dc F) iv
 have ajW:=fb G;have R:(execOp a.eval ⟨d,.buildSlice t n p,ty,pos,af,g⟩).run K.P w= .ok (.value (.slice (aa ⟨w.heap.size,0,ak⟩) n n)) (w.alloc (.cells l e)):=by
  have e2:(p.toList.map λx=>match x with|(i,x)=>(i,a.eval x))=(p.toList.map (·.1)).zip ((p.toList.map (·.2)).map a.eval):=by rw[<-pF]
  have bA: ¬(n*1>2^24):=O
  have h0: ¬n*1=0:=O
  simp only[execOp,Instr.buildSlice,e4,run_underlying hu,eV,he.run_sizeOf,bA,if_false,Array.toList_map];simp only[h0,if_false] at h1;simp only[h0,if_false,hh,e4,he.rr,eV];rw[e2,h1];rfl
 unfold Oper.wp;rw[R];have q:l.size=n:=by
  have h:=h2.1;rw[l7] at h;omega
 have W:=b5.Kd k 1 hk l e (.aC D m 1 (dh n [.bG []]) (qx 0 B)) (λβ' X' w' hw L lY lX=>⟨df _,Or.inr ⟨w.heap.size,l,λ_ _ _=>False,L,by subst hw;rw[j'];exact j2 _ _,by rw[q,Y];simp,λf r=>by rw[(wZ.1 r).2,Y];rfl,λi j f x y aP a2 a3=>by
  have aL:=(d0.1 aP).1;rw[Es] at aL;have r:f=[.bG []]:=(wZ.1 (bX aP)).2;subst r;have hj0:j=0:=by
   have:=(d0.1 a2).1;simpa using this
  subst hj0;rw[Y,Nat.mul_one,nV] at a3;refine⟨λv N=>⟨?_,λ_ h=>h⟩,λnE=>?_⟩
  ·obtain⟨_,cD,e1,e2⟩:=Pj N;rw[dy] at e1;subst e1;exact lY _ _ (h2.2 _ _ y e2 (by simpa using a3))
  have bW:=bC (O:i<B.length)
  have:=Ph (i:=0) bW;rw[dy] at this;exact br this (nE _),λ_ _ _ h=>h.elim,λ_ _ _ _ _ h=>h.elim,λc=>⟨λh=>br h (lX c),λ⟨_,_,h⟩=>h.elim⟩⟩⟩)
 have I:(w.alloc (.cells l e)).heap.size=w.heap.size+1:=World.size_alloc ..;have gk:(w.alloc (.cells l e)).shape? w.heap.size=aa (e,l.size):=by unfold World.shape?;rw[j2]
 have M:bB (β.put k (aa (aa w.heap.size,1))) (w.alloc (.cells l e)) (own K (β.put k (aa (aa w.heap.size,1))) (s.new k (.aC D m 1 (dh n [.bG []]) (qx 0 B))).H) (.bf k 1 1 0 n)
   (.slice (aa ⟨w.heap.size,0*1,ak⟩) n n):= .bf k 1 1 0 n n w.heap.size l.size e (df _) (cy _ _ _) (I▸nh _) gk (by rw[q];omega) (df _) (by unfold maxLen;omega)
 rw[gN] at M;exact hkk _ _ _ (W.put d cI M)
theorem afr{u:TypeDesc}{D:Nat}(k:Nat)(hk:s.u k=al)(n:Nat)(p:Array (Nat×Operand))(e:TypeId)(o:List V)(c:List (List T))(cI: ∀i,d=aa i->dn i K.nt=ab)(bR:fH ((p.toList.map (·.2)).map s.get) o)
  (hu:K.P.underlying t=aa (.slice e)) (he:cn K.P e u z size D) (L:b8 p.toList.length o.length=ab)
  (cR:c.length=n) (hp:dn 0 size=ab) (F: ∀l,l∈c->l.length=size) (B:dA (n*size) 16777216=ab)
  (iv:kl (λi=>aa (i*size,size)) (dh (n*size) .c') ((p.toList.map (·.1)).zip o)=aa (c.flatten.map .t)):
  dX K ⟨d,.buildSlice t n p,ty,pos,af,g⟩ s ((s.new k (.arr e 1 size c)).put d (.bf k 1 size 0 c.length)):=by
 subst cR;have akb:0<size:=by simpa[Nat.blt_eq] using hp
 intro β a w next Q b5 U
 have Y:dr β w (own K β s.H) o ((p.toList.map (·.2)).map a.eval):=(b5.oF _).le bR;have pF:=wM a.eval p.toList;obtain⟨m,A,G⟩:=xh (β:=β) (w:=w) (X:=own K β s.H) (λi=>aa (i*size,size)) (p.toList.map (·.1)) o _ (dh (c.length*size) .c')
  ((Array.range (c.length*size)).map ((if c.length*size=0 then #[] else z.cells)[· %(if c.length*size=0 then #[] else z.cells).size]!)) _ (Bm _ _ _ _ _ bl) Y (by simpa using dc L) iv
 have R:(execOp a.eval ⟨d,.buildSlice t c.length p,ty,pos,af,g⟩).run K.P w= .ok (.value (.slice (aa ⟨w.heap.size,0,ak⟩) c.length c.length)) (w.alloc (.cells m e)):=by
  have e2:(p.toList.map λx=>match x with|(i,x)=>(i,a.eval x))=(p.toList.map (·.1)).zip ((p.toList.map (·.2)).map a.eval):=by rw[<-pF]
  have bA: ¬(c.length*size>2^24):=by have:=fb B;omega
  simp only[execOp,Instr.buildSlice,e4,run_underlying hu,eV,he.run_sizeOf,bA,if_false,Array.toList_map];by_cases N:c.length*size=0
  ·simp only[N,if_true] at A;simp only[N,if_true,hh,e4,eV];rw[e2,A];rfl
  simp only[N,if_false] at A;simp only[N,if_false,hh,e4,he.rr,eV];rw[e2,A];rfl
 unfold Oper.wp;rw[R];have q:m.size=c.flatten.length:=by
  have h:=G.1
  grind
 have W:c.flatten.length=c.length*size:=by
  rw[List.length_flatten]
  have:c.map List.length=dh c.length size:=List.eq_replicate_iff.2 ⟨bl,λb bA=>by obtain⟨r,b5,rfl⟩:=eH.1 bA;exact F r b5⟩;rw[this];simp
 have f: ∀(c:List (List T)),(∀l,l∈c->l.length=size)-> ∀(i j:Nat) (l:List T) (x:T),c[i]? =aa l->l[j]? =aa x->c.flatten[i*size+j]? =aa x:=by
  intro c;induction c with
  |nil=>intro _ i j l x h _;simp at h
  |cons r c mL=>
   intro hs i j l x A G;have b5:=hs r bl;rw[List.flatten_cons];cases i with
   |zero=>
    simp at A;subst A
    have:=(d0.1 G).1;rw[gN,dy,hz this];exact G
   |succ i=>
    simp at A;rw[hS (by rw[b5,dN];omega)];rw[show(i+1)*size+j-r.length=i*size+j by rw[b5,dN];omega];exact mL (λl h=>hs l (by simp[h])) i j l x A G
 have v:=b5.new k 1 hk m e (.arr e 1 size c) (λβ' X' w' hw sX lY=>⟨df _,Or.inr ⟨w.heap.size,m,sX,by subst hw;exact j2 _ _,by rw[q,W];exact df _,F,λi j l x y aP a2 a3=>by
  have h5:=f c F i j l x aP a2;have h6:=G.2 (i*size+j) (.t x) y (by rw[eG,h5];rfl) (by simpa using a3);have lT:=lY _ _ h6;cases lT with|t _ _ h=>exact h⟩⟩)
 have I:(w.alloc (.cells m e)).heap.size=w.heap.size+1:=World.size_alloc ..;have gk:(w.alloc (.cells m e)).shape? w.heap.size=aa (e,m.size):=by unfold World.shape?;rw[j2]
 have M:bB (β.put k (aa (aa w.heap.size,1))) (w.alloc (.cells m e)) (own K (β.put k (aa (aa w.heap.size,1))) (s.new k (.arr e 1 size c)).H) (.bf k 1 size 0 c.length)
   (.slice (aa ⟨w.heap.size,0*size,ak⟩) c.length c.length):= .bf k 1 size 0 c.length c.length w.heap.size m.size e (df _) (cy _ _ _) (I▸nh _) gk (by rw[q,W];simp) (df _)
    (by
     have bA:=fb B;unfold maxLen
     have:c.length*1<=c.length*size:=Nat.mul_le_mul_left _ O;omega)
 rw[gN] at M;exact U _ _ _ (v.put d cI M)
theorem acS{C:dV}(f:ed K.P C.cE){m:Array (Nat×Operand)}{a:List V}{v G:List cG}{I:List dH}(M: ∀k,u k=al->s.u k=al)(B:j4 K.nt d=ab)
  (L:a=(m.toList.map (·.2)).map s.get) (h:IC C d t n (m.toList.map (·.1)) u a v=aa (e,I,G)) (Q:cH I):dX K ⟨d,.buildSlice t n m,ty,pos,af,g⟩ s (e.app s):=by
 unfold IC at h;split at h
 ·cases h
 rename_i i N;split at h
 ·rename_i p R;have D:K.P.underlying t=aa (.slice p):=(f _ _ N).iC.2.2.2 p R;split at h
  ·cases h
  rename_i j T;obtain⟨Dw,F,_⟩:=f _ _ T;split at h
  ·rename_i k v W;split at h
   ·rename_i o;cases h
    have:m= #[]:=by
     have:m.toList=[]:=by simpa using W
     grind
    subst this;rw[pZ];exact ab' k (M _ o) p (gE B) D F
   cases h
  ·split at h
   ·cases h
   rename_i cs c;split at h
   ·cases h
   rename_i q l;split at h
   ·rename_i U o r x Y;cases h;have b:=dc o;obtain⟨y,z,A⟩:=BL j.size _ q b;rw[pZ];refine afr _ (M _ U) _ m p (hr a) _ (gE B) (by rw[L];exact mX _) D F (by rw[tD];simpa using r) y Y z x (by rw[c,A,oX l])
   cases h
  ·split at h
   ·cases h
   rename_i cs c;split at h
   ·cases h
   rename_i q l;split at h
   ·rename_i o r x;cases h;have b:=dc o;obtain⟨y,z,A⟩:=BL j.size _ q b;rw[o0];rw[<-Q.1];refine KO (vals:=hr a) (gE B) ?_ (La _ m p (hr a) _ D F ?_ (by simp[y]) z x (by rw[c,A,oX l]))
    ·rw[L];simp only[Op.operands];exact mX _
    rw[tD];simpa using r
   cases h
  ·split at h
   ·cases h
   rename_i cs c;split at h
   ·cases h
   rename_i q l;split at h
   ·rename_i o r x;cases h;have b:=dc o;obtain⟨y,z,A⟩:=BL j.size _ q b;rw[o0];refine KO (vals:=hr a) (gE B) ?_ (La _ m p (hr a) _ D F ?_ (by simp[y]) z x (by rw[c,A,oX l]))
    ·rw[L];simp only[Op.operands];exact mX _
    rw[tD];simpa using r
   cases h
  cases h
 cases h
theorem aaJ{C:dV}(v:ed K.P C.cE){a:Array (Nat×Operand)}{Y:List V}(F: ∀k,u k=al->s.u k=al)(G:j4 K.nt d=ab)
  (L:Y=(a.toList.map (·.2)).map s.get) (h:Il C d t n (a.toList.map (·.1)) u Y b=aa (e,c,l)):dX K ⟨d,.buildSlice t n a,ty,pos,af,g⟩ s (e.app s):=by
 unfold Il at h;split at h
 ·cases h
 rename_i i I;split at h
 ·rename_i z Q;have R:K.P.underlying t=aa (.slice z):=(v _ _ I).iC.2.2.2 z Q;split at h
  ·cases h
  rename_i j M;obtain⟨T,W,_⟩:=v _ _ M;split at h
  ·rename_i k x m b;split at h
   ·cases h
   rename_i cs p;split at h
   ·cases h
   rename_i r f y;split at h
   ·rename_i A q o B D;cases h;simp only[cB] at q o;rw[pZ];exact P1 k (F _ A) 1 a z (qA ((U x m).eb 0) Y) cs x m r f (gE G) (by rw[L];exact OQ _ _) R W (by rw[L1];simpa using o.1) (Nat.succ_pos _) D B p y (dc q.1) (dc q.2) (dc o.2)
   cases h
  ·rename_i k x m b;split at h
   ·cases h
   rename_i cs p;split at h
   ·cases h
   rename_i r f y;split at h
   ·rename_i A q o B D;cases h;simp only[cB] at q o;rw[pZ];exact P1 k (F _ A) 2 a z (qA ((U x m).eb 0) Y) cs x m r f (gE G) (by rw[L];exact OQ _ _) R W (by rw[L1];simpa using o.1) (Nat.succ_pos _) D B p y (dc q.1) (dc q.2) (dc o.2)
   cases h
  ·rename_i k x m b _ _;split at h
   ·cases h
   rename_i cs p;split at h
   ·rename_i A q o B D;cases h;simp only[cB] at q o;have N:=dc q.1;rw[pZ];exact afl k (F _ A) _ a z (hr Y) cs x m (gE G) (by rw[L];exact mX _) R W (by rw[tD];simpa using o.1) D N B p (dc q.2.1) (dc o.2.2) (dc o.2.1)
   cases h
  cases h
 cases h
theorem aaN{C:dV}(x:C.P=K.P)(y:C.G=K.G){c:Operand}{a:Array Operand}{k:Array TypeId}{Y:List V}(z:j4 K.nt d=ab)
  (p:Y=s.get c::a.toList.map s.get) (h:H9 C d Y i=aa (e,m,b)) (q:cH m):dX K ⟨d,.call {callee:= .value c,args:=a,argTypes:=k},ty,pos,af,g⟩ s (e.app s):=by
 unfold H9 at h;split at h
 ·rename_i f l args;split at h
  ·split at h
   ·rename_i n;cases h;rw[o0];obtain⟨⟨r,o⟩,_⟩:=q;rw[x] at r o;rw[y] at o;simp only[List.cons.injEq] at p;exact Py l _ _ r p.1.symm (gE z) (by rw[<-p.2];exact mX _) n o
   cases h
  ·cases h;rw[o0];obtain⟨n,⟨r,o⟩,_⟩:=q;rw[x] at r o;rw[y] at o;simp only[List.cons.injEq] at p;exact Py l _ _ r p.1.symm (gE z) (by rw[<-p.2];exact mX _) n o
  cases h
 cases h
mutual
theorem OC{U G:Map}{w a:World}{X W:Nat->Prop}: ∀{v:V} {u:Value},su v=ab->bB U w X v u->bB G a W v u
 | .t (.int _ _),u,_,h=>by rw[dO h];exact .t _ _ (.int _ _)
 | .t (.bool _),u,_,h=>by rw[nK h];exact .t _ _ (.bool _)
 | .t (.str _),u,_,h=>by rw[hG h];exact .t _ _ (.str _)
 | .agg cs,u,b,h=>by
  simp only[su] at b;cases h with|agg _ k l h=>exact .agg _ k l (λi c u e m=>Gk b i c u e (h i c u e m))
 | .bY cs,u,b,h=>by
  simp only[su] at b;cases h with|bY _ k l h=>exact .bY _ k l (λi c u e m=>Gk b i c u e (h i c u e m))
 | .t (.bG _),_,b,_| .t .fp,_,b,_| .t .gZ,_,b,_| .t .gm,_,b,_| .t .l1,_,b,_| .t .err,_,b,_=>by simp[su] at b
 | .ref _ _,_,b,_| .aU _,_,b,_| .bf _ _ _ _ _,_,b,_| .cQ _ _ _ _ _,_,b,_| .fn _ _,_,b,_| .c',_,b,_=>by simp[su] at b
theorem Gk{U G:Map}{w a:World}{X W:Nat->Prop}: ∀{cs:List V},uX cs=ab-> ∀(i:Nat) c u,cs[i]? =aa c->bB U w X c u->bB G a W c u
 | [],_,_,_,_,h,_=>by simp at h
 |c::cs,b,0,k,u,e,h=>by
  simp only[uX,cB] at b;simp at e;subst e;exact OC b.1 h
 |c::cs,b,i+1,k,u,e,h=>by simp only[uX,cB] at b;exact Gk b.2 i k u (by simpa using e) h
end
theorem c4.read{β:Map}{w:World}{X W:Nat->Prop}{a:List (List T)}{u:Value}(h:c4 β w X k (.arr t gen size a))(B:bB β w X (.bf k gen size 0 a.length) u)
  (D: ∀b,W b->X b) (F: ∀b,At β k b-> ¬W b):c8 w W (.bG a) u:=by
 obtain⟨q,r⟩:=l3 h;rcases ff B r with ⟨y,b,n,G,rfl,m,L,M,Q,R,N⟩|⟨m,_,f,rfl⟩
 ·subst m;rcases h.2 with ⟨o,z⟩|⟨P,l,o,z,U,A,v⟩
  ·rw[r] at o;cases o
  rw[r] at o;cases o;rw[gN];refine .bG a b 0 size y (λi j=>l.getD (i*size+j) undef) L (F b (.inl ⟨_,r⟩)) R A (λi j aL I=>?_) λi j p x aP a2=>?_
  ·have c:i*size+j<l.size:=by
    have:(i+1)*size<=a.length*size:=dQ _ aL;rw[dN] at this;omega
   rw[dy];simp[World.cell?,z,c]
  have aL:=(d0.1 aP).1;have I:j<size:=by rw[<-A p (bX aP)];exact(d0.1 a2).1
  have c:i*size+j<l.size:=by
   have:(i+1)*size<=a.length*size:=dQ _ aL
   grind
  have:=v i j p x l[i*size+j] aP a2 (by simp[c]);have e:l.getD (i*size+j) undef=l[i*size+j]:=by simp[c]
  rw[e];exact this.mono (Ext.refl _ _) λb _=>D b
 have:a=[]:=List.length_eq_zero_iff.1 f;subst this;exact .gh _ _
theorem c4.ajo{β:Map}{w:World}{X G:Nat->Prop}{l:List dw}{m:Nat}{a:List (List T)}{u:Value}(h:c4 β w X k (.aC l m gen a []))(f:bB β w X (.bf k gen (U l m).size 0 a.length) u)
  (t: ∀b,G b->X b) (Q: ∀b,At β k b-> ¬G b):c8 w G (.bG a) u:=by
 obtain⟨q,D⟩:=rN h;rcases ff f D with ⟨L,b,n,v,rfl,o,I,hs,M,N,hm⟩|⟨o,_,P,rfl⟩
 ·subst o;rcases h.2 with ⟨p,R⟩|⟨h7,r,B,p,R,h3,W,V,_,_,Y⟩
  ·rw[D] at p;cases p
  rw[D] at p;cases p;rw[gN];have y: ∀i j,i<a.length->j<(U l m).size->i*(U l m).size+j<r.size:=λi j aL F=>by
   have:(i+1)*(U l m).size<=a.length*(U l m).size:=dQ _ aL
   grind
  refine .bG a b 0 (U l m).size L (λi j=>r.getD (i*(U l m).size+j) undef) I (Q b (.inl ⟨_,D⟩)) N W (λi j aL F=>?_) λi j z x aP a2=>?_
  ·have:=y i j aL F;rw[dy];simp[World.cell?,R,this]
  have aL:=(d0.1 aP).1;have F:j<(U l m).size:=by rw[<-W z (bX aP)];exact(d0.1 a2).1
  have A:=y i j aL F
  have:=(V i j z x r[i*(U l m).size+j] aP a2 (by simp[A])).none;have e:r.getD (i*(U l m).size+j) undef=r[i*(U l m).size+j]:=by simp[A]
  rw[e];exact this.wK t λc bW=>Q c (.inr ((Y c).2 ⟨i,j,bW⟩))
 have:a=[]:=List.length_eq_zero_iff.1 P;subst this;exact .gh _ _
def uJ:V->List Nat
 | .bf k _ _ _ _=>[k]
 |_=>[]
mutual
def qq(H:Nat->Option E):V->List Nat
 | .bf k _ _ _ _=>[k]
 | .ref id _=>id::(match H id with
  |some (.cells cs)=>cs.flatMap uJ
  |_=>[])
 | .agg cs=>pb H cs
 | .bY cs=>pb H cs
 | .fn _ cs=>pb H cs
 | .t _| .aU _| .cQ _ _ _ _ _| .c'=>[]
def pb(H:Nat->Option E):List V->List Nat
 | []=>[]
 |v::a=>qq H v++pb H a
end
section
variable {β:Map}{w:World}{X X1:Nat->Prop}{H:Nat->Option E}
theorem Pp{x:T}{u:Value}(r: ∀k e,H k=aa e->c4 β w X k e)(n: ∀b,X1 b->X b)(z: ∀k,k∈uJ v-> ∀b,At β k b-> ¬X1 b)
  (h:yk H v=aa (x,c)) (a:cH c) (o:bB β w X v u):c8 w X1 x u:=by
 cases v with
 |bf k gen A B len=>
  simp only[yk] at h;split at h
  ·rename_i ty i p l q;cases h;obtain⟨rfl,rfl,rfl,rfl,_⟩:=a;exact(r k _ q).read o n (z k (by simp[uJ]))
  ·rename_i D m i l q;cases h;obtain⟨rfl,rfl,rfl,rfl,_⟩:=a;exact(r k _ q).ajo o n (z k (by simp[uJ]))
  cases h
 |t y=>
  simp only[yk] at h;cases h;cases o with|t _ _ h=>exact(h.mono (Ext.refl _ _) λb _=>n b).zb
 |agg=>cases h
 |bY=>cases h
 |ref=>cases h
 |aU=>cases h
 |cQ=>cases h
 |fn=>cases h
 |c'=>cases h
theorem Oy(r: ∀k e,H k=aa e->c4 β w X k e)(z: ∀b,X1 b->X b): ∀{a:List V} {ts:List T} {n:List dH},(∀k,k∈a.flatMap uJ-> ∀b,At β k b-> ¬X1 b)->CJ H a=aa (ts,n)->cH n->
  ts.length=a.length/\ ∀(l:Nat->Option Value),(∀(i:Nat) c u,a[i]? =aa c->l i=aa u->bB β w X c u)-> ∀(i:Nat) x u,ts[i]? =aa x->l i=aa u->c8 w X1 x u
 | [],_,_,_,h,_=>by cases h;exact⟨rfl,λ_ _ i x u D=>by simp at D⟩
 |v::a,ts,n,A,h,o=>by
  simp only[CJ] at h;split at h
  ·rename_i x F M G L Q;cases h;obtain⟨R,W⟩:=cH.app o;obtain⟨f,t⟩:=Oy r z (λk p=>A k (by rw[List.flatMap_cons];exact o3 _ p)) Q W;refine⟨by simp[f],λl B i y u q m=>?_⟩;cases i with
   |zero=>
    simp at q;subst q;exact Pp r z (λk p=>A k (by rw[List.flatMap_cons];exact nW _ p)) L R (B 0 v u rfl m)
   |succ i=>
    exact t (λj=>l (j+1)) (λj c u I m=>B (j+1) c u (by simpa using I) m) i y u (by simpa using q) m
  cases h
mutual
theorem ad7(G: ∀k e,H k=aa e->c4 β w X k e)(B: ∀b,X1 b->X b): ∀(v:V) {r:V} {y:List dH} {u:Value},(∀k,k∈qq H v-> ∀b,At β k b-> ¬X1 b)->
  nx H v=aa (r,y)->cH y->bB β w X v u->bB fE w X1 r u
 | .bf k gen M l len,r,y,u,q,h,a,o=>by
  simp only[nx] at h;split at h
  ·rename_i x z A;cases h;exact .t _ _ (Pp G B (λj Q=>q j (by simpa[qq,uJ] using Q)) A a o)
  cases h
 | .t x,r,y,u,q,h,a,o=>by
  simp only[nx] at h;cases h;cases o with|t _ _ h=>exact .t _ _ (h.mono (Ext.refl _ _) λb _=>B b).zb
 | .aU cs,r,y,u,q,h,a,o=>by
  simp only[nx] at h;cases h;exact o.under (u:=gG) B (λ_ h=>by simp[gG] at h) rfl
 | .ref id l,r,y,u,q,h,a,o=>by
  simp only[nx] at h;split at h
  ·rename_i cs m;split at h
   ·rename_i ts z A;cases h;obtain⟨b,N,rfl⟩:=r1 o;obtain⟨h7,n,ty,P,T,mD,pt⟩:=G id _ m;rw[N] at P;cases P;obtain⟨R,D⟩:=Oy G B (λk F=>q k (by simp only[qq,m];exact eW _ F)) A a;have W:b<w.heap.size:=by
     have:=(iD.1 T).1;exact this
    refine .aU (ts.drop l) b l (λj=>n.getD (l+j) undef) W (q id (by simp[qq]) b (.inl ⟨_,N⟩)) (λj Q=>?_) λj x I=>?_
    ·rw[fN] at Q
     have:l+j<n.size:=O
     simp[World.cell?,T,this]
    rw[fv] at I;have Q:=(d0.1 I).1
    have:l+j<n.size:=O
    have e:n.getD (l+j) undef=n[l+j]:=by simp[this]
    rw[e];exact D (λi=>n[i]?) (λi c u m p=>pt i c u m p) (l+j) x _ I (by simp[this])
   cases h
  cases h
 | .agg cs,r,y,u,q,h,a,o=>by
  simp only[nx] at h;split at h
  ·rename_i U z A;cases h;cases o with|agg _ n Y L=>
   obtain⟨R,D⟩:=xR G B cs (λk F=>q k (by simpa[qq] using F)) A a;exact .agg _ n O λi c u m p=>D (λi=>n[i]?) (λi c u m p=>L i c u m p) i c u m p
  cases h
 | .bY cs,r,y,u,q,h,a,o=>by
  simp only[nx] at h;split at h
  ·rename_i U z A;cases h;cases o with|bY _ n Y L=>
   obtain⟨R,D⟩:=xR G B cs (λk F=>q k (by simpa[qq] using F)) A a;exact .bY _ n O λi c u m p=>D (λi=>n[i]?) (λi c u m p=>L i c u m p) i c u m p
  cases h
 | .fn f cs,r,y,u,q,h,a,o=>by
  simp only[nx] at h;split at h
  ·rename_i U z A;cases h;cases o with|fn _ _ n Y L=>
   obtain⟨R,D⟩:=xR G B cs (λk F=>q k (by simpa[qq] using F)) A a;exact .fn _ _ n O λi c u m p=>D (λi=>n[i]?) (λi c u m p=>L i c u m p) i c u m p
  cases h
 | .cQ _ _ _ _ _,_,_,_,_,h,_,_=>by simp only[nx] at h;cases h
 | .c',_,_,_,_,h,_,_=>by simp only[nx] at h;cases h
theorem xR(z: ∀k e,H k=aa e->c4 β w X k e)(A: ∀b,X1 b->X b): ∀(l:List V) {a:List V} {o:List dH},(∀k,k∈pb H l-> ∀b,At β k b-> ¬X1 b)->
  pq H l=aa (a,o)->cH o->a.length=l.length/\ ∀(m:Nat->Option Value),(∀(i:Nat) c u,l[i]? =aa c->m i=aa u->bB β w X c u)-> ∀(i:Nat) x u,a[i]? =aa x->m i=aa u->bB fE w X1 x u
 | [],_,_,_,h,_=>by simp only[pq] at h;cases h;exact⟨rfl,λ_ _ i x u F=>by simp at F⟩
 |v::l,a,o,B,h,p=>by
  simp only[pq] at h;split at h
  ·rename_i x G N L Q R;cases h;obtain⟨W,f⟩:=cH.app p;obtain⟨t,I⟩:=xR z A l (λk q=>B k (by simp only[pb];exact o3 _ q)) R f;refine⟨by simp[t],λm D i y u r n=>?_⟩;cases i with
   |zero=>
    simp at r;subst r;exact ad7 z A v (λk q=>B k (by simp only[pb];exact nW _ q)) Q W (D 0 v u rfl n)
   |succ i=>
    exact I (λj=>m (j+1)) (λj c u M n=>D (j+1) c u (by simpa using M) n) i y u (by simpa using r) n
  cases h
end
theorem ad8(r: ∀k e,H k=aa e->c4 β w X k e)(x: ∀b,X1 b->X b): ∀{l a:List V} {m:List dH} {us:List Value},(∀k,k∈pb H l-> ∀b,At β k b-> ¬X1 b)->
  pq H l=aa (a,m)->cH m->dr β w X l us->dr fE w X1 a us:=fun {l a m us} y h n q=>by obtain⟨z,A⟩:=xR r x l y h n;exact F2 (by rw[z];exact q.fF.1) λi c u o p=>A (λi=>us[i]?) (λi c u o p=>q.fF.2 i c u o p) i c u o p
end
theorem ac0{C:dV}(yz:C.P=K.P)(j9:C.G=K.G){c:Operand}{i:Array Operand}{x:Array TypeId}{l:List V}{H:Nat->Option E}{T:List cG}{U:List dH}(cI:j4 K.nt d=ab)(hH: ∀k e,H k=aa e->s.H k=aa e)
  (L:l=s.get c::i.toList.map s.get) (h:II C d H l T=aa (e,U,F)) (R:cH U):dX K ⟨d,.call {callee:= .value c,args:=i,argTypes:=x},ty,pos,af,g⟩ s (e.app s):=by
 unfold II at h;split at h
 ·rename_i f m args;split at h
  ·rename_i r T;split at h
   ·rename_i ys akN n W;cases h;rw[o0];obtain⟨zd,⟨y,o⟩,_⟩:=cH.app R;rw[yz] at y o;rw[j9] at o;simp only[List.cons.injEq] at L;obtain⟨Y,h1,h2,h3⟩:=y;intro β a w next Q q j
    have t:Y.name≠ "runtime.NumGoroutine" :=by simpa using h2
    have v:Y.body≠ak:=by intro e;simp[e] at h3
    obtain⟨us,I,M⟩:=(L.1.symm▸q.get c).Jf;have z:(execOp a.eval ⟨d,.call {callee:= .value c,args:=i,argTypes:=x},ty,pos,af,g⟩).run K.P w= .ok (.enter f (i.map a.eval++us)) w:=by
     simp[execOp,resolve,Deferred.ofValue,I,invoke,callFunc,h1,t,v]
    unfold Oper.wp;rw[z,Oper.upon_enter];have A:dr β w (own K β s.H) (args++m) (i.toList.map a.eval++us.toList):=by rw[L.2];exact(q.oF i.toList).app M
    let X1:Nat->Prop:=λb=>own K β s.H b/\ ∀k,k∈pb H (args++m)-> ¬At β k b;have p:=ad8 (X1:=X1) (λk e N=>(q.heap k e (hH k e N)).2) (λb n=>n.1) (λk j b n hx=>hx.2 k j n) n zd A;have B:=o w X1 _ q.Df (λb n=>q.Kg b n.1) p;have N:(bk a.eval i.toList++us.toList).toArray=i.map a.eval++us:=by rw[<-w2,<-Array.toList_append]
    rw[N] at B;refine B.mono ?_;rintro e w' ⟨u,rfl,D,hu⟩;exact j β _ w' ((q.grow D).put d (gE cI) (OC W hu))
   cases h
  cases h
 cases h
theorem adV{C:dV}(N:C.P=K.P)(T:C.G=K.G){c:Operand}{D:Array Operand}{q:Array TypeId}{l:List V}{H:Nat->Option E}{t:List dH}(U:j4 K.nt d=ab)
  (Y: ∀k e,H k=aa e->s.H k=aa e) (hu: ∀k,u k=al->s.u k=al)
  (x:l=s.get c::D.toList.map s.get) (h:IM C d l H u W=aa (e,t,F)) (Q:cH t):dX K ⟨d,.call {callee:= .value c,args:=D,argTypes:=q},ty,pos,af,g⟩ s (e.app s):=by
 unfold IM at h;split at h
 ·rename_i f z args;split at h
  ·rename_i L a r out W;split at h
   ·rename_i R fu gV aL m;cases h;simp only[List.cons.injEq] at x;simp only[cB] at m;obtain⟨⟨n,A⟩,b⟩:=m;have b:=dc b;obtain⟨⟨I,p⟩,_⟩:=Q;rw[N] at I p;rw[T] at p;obtain⟨aP,a2⟩:=xY _ _ gV;obtain⟨i1,i2⟩:=BT _ _ aL;have hx:=aav (K:=K) (s:=s) (o:=⟨d,.call {callee:= .value c,args:=D,argTypes:=q},ty,pos,af,g⟩) c L a z rfl x.1.symm I (gE U) (by rw[<-x.2,aP];exact mX _) a2 i1
     (λk e i=>by
      obtain⟨id,h1,h2,h4⟩:=i2 k e i;exact⟨id,h1,Y _ _ h2,h4⟩)
     (AZ n) (λid hid=>hu _ (LS A id hid)) (λ_=>b) p
    have hj:=hx.j;have i:dd.app ⟨e9 d (r.ej (L++a)),(L++a).zip (out.map λe=>aa (e.ej (L++a))),(L++a).map λk=>(k,ab)⟩ s=(s.after (L++a) out).put d (r.ej (L++a)):=by
     have e1:dx s.H ((L++a).zip (out.map λe=>aa (e.ej (L++a))))=ll s.H (L++a) (λk=>(out[k]?).map (E.ej (L++a))):=by
      have:=Ml (L++a) (AZ n) s.H (out.map λe=>aa (e.ej (L++a))) (λk=>(out[k]?).map (E.ej (L++a))) (by simpa using b) (λk e i=>by
       rw[eG] at i;cases M:out[k]? with
       |none=>rw[M] at i;cases i
       |some y=>rw[M] at i;simp at i;rw[<-i];rfl)
      exact this
     have e2:dx s.u ((L++a).map λk=>(k,ab))=ll s.u (L++a) (λ_=>ab):=by
      funext id;by_cases B:id∈L++a
      ·obtain⟨k,hk⟩:=jq.1 B;rw[oQ (AZ n) hk];exact Mg B
      rw[nG B,mM _ _ _ λv x=>B (by obtain⟨y,hy,e⟩:=eH.1 x;cases e;exact hy)]
     unfold dd.app S.after;cases d<;>simp only[e9,dx,S.put,e1,e2]
    grind
   cases h
  cases h
 cases h
theorem Zw{C:dV}(z:ed K.P C.cE){H:Nat->Option E}(A: ∀k e,H k=aa e->s.H k=aa e)
  (B:s.get x=v) (h:HI C t H v l=aa (e,c,b)) (m:cH c):dX K ⟨ak,.call {callee:= .builtin .clear,args:= #[x],argTypes:= #[t]},ty,pos,af,g⟩ s (e.app s):=by
 unfold HI at h;split at h
 ·cases h
 rename_i i G;split at h
 ·rename_i o p;have D:K.P.underlying t=aa (.slice o):=(z _ _ G).iC.2.2.2 o p;split at h
  ·cases h
  rename_i j L;obtain⟨f,F,_⟩:=z _ _ L;split at h
  ·rename_i n;split at h
   ·rename_i q r;cases h;obtain⟨rfl,rfl,a,⟨y,rfl⟩,_⟩:=m;exact aeq x _ _ _ o _ _ _ B (A _ _ q) D F r n a y
   ·rename_i q r;cases h;obtain⟨rfl,Q,a,⟨R,y,rfl⟩,W,_⟩:=m;subst Q;exact ab9 x _ _ _ o _ _ _ _ _ B (A _ _ q) rfl D F r n a R y W
   cases h
  cases h
 cases h
theorem aaK{C:dV}(z:ed K.P C.cE){A:TypeId}{H:Nat->Option E}{w:V}{B:List cG}{D:List dH}(L: ∀k e,H k=aa e->s.H k=aa e)(Q:j4 K.nt d=ab)
  (W:s.get x=v) (f:s.get y=w) (h:H6 C d t H v w B=aa (e,D,l)) (n:cH D):dX K ⟨d,.call {callee:= .builtin .copy,args:= #[x,y],argTypes:= #[t,A]},ty,pos,af,g⟩ s (e.app s):=by
 unfold H6 at h;split at h
 ·cases h
 rename_i i u;split at h
 ·rename_i o p;have I:K.P.underlying t=aa (.slice o):=(z _ _ u).iC.2.2.2 o p;split at h
  ·cases h
  rename_i j F;obtain⟨Dw,M,_⟩:=z _ _ F;split at h
  ·rename_i k gen G q len a R m B N;split at h
   ·rename_i T b r c U Y;cases h;obtain⟨rfl,rfl,rfl,rfl,b5,⟨hl,rfl⟩,_⟩:=n;have F:=afm (K:=K) (s:=s) (d:=d) (ty:=ty) (pos:=pos) (af:=af) (g:=g) (gen:=b) (size:=j.size) x y k q len o T A c a (gE Q) W (by rw[f,<-N];exact uI w) (L _ _ U) I M (by simpa[Nat.blt_eq] using Y) b5 hl
    have: ∀v e,dd.app ⟨e9 d v,[(k,aa e)],[]⟩ s=({s with H:=bb s.H k (aa e)}:S).put d v:=by intro v e;cases d<;>rfl
    grind
   cases h
  cases h
 cases h
theorem ae1{C:dV}(q:ed K.P C.cE)(I:C.P=K.P)(T:C.G=K.G)(cR:C.nt=K.nt)(U:C.ef=K.ef){l:List V}{H:Nat->Option E}{Q:List cG}{R:List dH}
  (a:l=o.op.operands.toList.map s.get) (B: ∀k e,H k=aa e->s.H k=aa e) (L: ∀k,u k=al->s.u k=al) (h:I' C o l H u M=aa (e,R,Q)) (b:cH R):dX K o s (e.app s):=by
 obtain⟨d,W,ty,pos,af,g⟩:=o;unfold I' at h;dsimp only at h;split at h
 ·cases h
 rename_i p;rw[cR] at p;have D: ∀{W:Op} {r:jb},l=W.operands.toList.map s.get->(match yu C.P C.cE H W l M with|some (v,R,M)=>aa ((⟨e9 d v,[],[]⟩:dd),R,M)|none=>ak)=aa (e,R,Q)->dX K ⟨d,W,ty,pos,af,g⟩ s (e.app s):=by
  intro W r a h;split at h
  ·rename_i v akM akd m;cases h;rw[o0];rw[I] at m;exact Xq (vals:=l) (gE p) (fH.of_eq a.symm) ((ae0 q m b).sub B)
  cases h
 split at h
 ·split at h
  ·simp only[Op.operands,hg,List.map_nil,List.cons.injEq,and_true] at a;split at h
   ·exact aaO p a.symm h
   exact acZ L p a.symm h
  cases h
 ·split at h
  ·rename_i i aL;exact Zy q aL L p h
  cases h
 ·split at h
  ·simp only[Op.operands,hg,List.map_nil,List.cons.injEq,and_true] at a;split at h
   ·rename_i m;cases h;exact ZU q rfl B a.1.symm a.2.symm m b
   exact YA q B a.1.symm a.2.symm h b
  cases h
 ·split at h
  ·simp only[Op.operands,hg,List.map_nil,List.cons.injEq,and_true] at a;exact aaI q L p a.1.symm a.2.symm h b
  cases h
 ·split at h
  ·rename_i m;cases h;exact acS q L p (by simpa[Op.operands] using a) m b
  exact aaJ q L p (by simpa[Op.operands] using a) h
 ·rename_i c;obtain⟨N,args,F⟩:=c;dsimp only at h;split at h
  ·rename_i f;split at h
   ·exact adV I T p B L (by simpa[Op.operands,Call.operands] using a) h b
   split at h
   ·exact ac0 I T p B (by simpa[Op.operands,Call.operands] using a) h b
   exact aaN I T p (by simpa[Op.operands,Call.operands] using a) h b
  ·split at h
   ·rename_i x y t Y v w j z;have A:args= #[x,y]:=by rw[<-j]
    have n:F= #[t,Y]:=by rw[<-z]
    subst A;subst n;simp only[Op.operands,Call.operands] at a;simp at a;split at h
    ·rename_i m;cases h;exact YC q U B p a.1.symm a.2.symm m b
    exact Xz q B p a.1.symm a.2.symm h b
   cases h
  ·split at h
   ·rename_i x t v j z;have A:args= #[x]:=by rw[<-j]
    have n:F= #[t]:=by rw[<-z]
    subst A;subst n;simp only[Op.operands,Call.operands] at a;simp at a;exact Zw q B a.symm h b
   cases h
  ·split at h
   ·rename_i x y t Y v w j z;have A:args= #[x,y]:=by rw[<-j]
    have n:F= #[t,Y]:=by rw[<-z]
    subst A;subst n;simp only[Op.operands,Call.operands] at a;simp at a;exact aaK q B p a.1.symm a.2.symm h b
   cases h
  ·exact D (r:=ak) a h
  cases h
 exact D (r:=ak) a h
def aip:V->List Nat
 | .ref id _=>[id]
 | .bf id _ _ _ _=>[id]
 | .cQ id _ _ _ _=>[id]
 |_=>[]
def IK:List V->List Nat
 | []=>[]
 |v::a=>aip v++IK a
def Sc:List cG->List Nat
 | .nat k::a=>k::Sc a
 |_=>[]
def aio:List cG->List Nat
 | .b ab::c=>Sc c
 | .nat k::_=>[k]
 | .int _:: .nat k::_=>[k]
 | .dB L a _ _::_=>L++a
 | .lt k _ _::_=>[k]
 |_=>[]
def ih(k:Nat):List Nat->Bool
 | []=>al
 |x::l=>bif b8 x k then ab else ih k l
theorem BO{k:Nat}: ∀{l:List Nat},ih k l=ab->k∈l
 | [],h=>by cases h
 |x::l,h=>by
  simp only[ih] at h;cases a:b8 x k with
  |true=>rw[dc a];exact fi
  |false=>rw[a] at h;exact eW _ (BO h)
def vb(a:List Nat)(H:Nat->Option E):Nat->Option E:=λk=>bif ih k a then H k else ak
def va(a:List Nat)(u:Nat->Bool):Nat->Bool:=λk=>bif ih k a then u k else ab
theorem Y'{H:Nat->Option E}{e:E}(h:vb r H k=aa e):H k=aa e:=by
 unfold vb at h
 grind
theorem XS(h:va r u k=al):u k=al:=by
 unfold va at h
 grind
def afJ:Op->List V->Bool
 | .nilCheck _,[.cQ _ _ _ _ _]=>al
 | .move _,_| .assign _,_| .pick _ _ _,_| .nilCheck _,_| .binOp _ _ _ _ _,_| .unOp _ _ _,_| .convert _ _ _,_| .makeFunc _ _ _,_| .extract _ _,_| .field _ _ _,_| .build _ _,_=>ab
 | .fieldAddr _ _ _,[.ref _ _]=>ab
 |_,_=>al
def afE:Op->Bool
 | .load _ _| .slice _ _ _ _ _| .fieldAddr _ _ _| .indexAddr _ _ _| .index _ _ _| .nilCheck _=>ab
 | .call c=>match c.callee with
  | .builtin .len=>ab
  | .builtin .max=>ab
  | .builtin .min=>ab
  |_=>al
 |_=>al
def vR(o:Oper)(a:List V)(b:List cG):List Nat:=match afJ o.op a with
 |true=>[]
 |false=>match afE o.op with
  |true=>IK a
  |false=>IK a++aio b
def qM(C:dV)(o:Oper)(a:List V)(s:S)(b:List cG):jb:=I' C o a (vb (vR o a b) s.H) (va (vR o a b) s.u) b
def J2:Bool->Bool->Bool
 |true,ab=>ab
 |false,al=>ab
 |_,_=>al
def vq(a:Array Oper)(j:Nat)(s:S):Option V:=match (a[j]?).bind (·.dst) with
 |some t=>aa (s.t t)
 |none=>ak
def sH(C:dV)(h:Array Oper)(o:Oper)(a:List cG)(s:S):jb:=
 match o.guard with
 |none=>qM C o (o.op.operands.toList.map s.get) s a
 |some (j,c)=>match vq h j s with
  |some (.bY [])=>match j4 C.nt o.dst with
   |true=>aa (⟨e9 o.dst (.bY []),[],[]⟩,[],a)
   |false=>ak
  |some (.t (.bool b))=>match a with
   | .b w::a=>match J2 w c with
    |true=>match qM C o (o.op.operands.toList.map s.get) s a with
     |some (e,i,a)=>aa (e,.p (b=w)::i,a)
     |none=>ak
    |false=>match j4 C.nt o.dst with
     |true=>aa (⟨e9 o.dst (.bY []),[],[]⟩,[.p (b=w)],a)
     |false=>ak
   |_=>ak
  |_=>ak
end
structure dV.Fits (C:dV) (K:Ctx):Prop where
 T:ed K.P C.cE
 P:C.P=K.P
 G:C.G=K.G
 nt:C.nt=K.nt
 ef:C.ef=K.ef
 hi:C.hi=K.hi
section
variable {K:Ctx}{s:S}{C:dV}
theorem Qa(a:C.Fits K)(h:qM C o (o.op.operands.toList.map s.get) s i=aa (e,c,b))(k:cH c):dX K o s (e.app s):=
 ae1 a.T a.P a.G a.nt a.ef rfl (λ_ _ h=>Y' h) (λ_ h=>XS h) h k
theorem acd{w v:Bool}(h:J2 w v=ab):w=v:=by cases w<;>cases v<;>first|rfl|cases h
theorem aba{w v:Bool}(h:J2 w v=al):w= !v:=by cases w<;>cases v<;>first|rfl|cases h
theorem PH{b:Array Oper}{j:Nat}(h:vq b j s=aa v): ∃t,(b[j]?).bind (·.dst)=aa t/\s.t t=v:=by
 unfold vq at h
 grind
theorem Qo(q:C.Fits K){c:Array Oper}(h:sH C c o l s=aa (e,m,i))(a:cH m):iq K c o s (e.app s):=by
 unfold sH at h;split at h
 ·rename_i n;exact iq.of n (Qa q h a)
 rename_i j A n;split at h
 ·rename_i k;obtain⟨t,r,x⟩:=PH k;split at h
  ·rename_i y;cases h;rw[o0];exact iq.skip n r x (gE (q.nt▸y))
  cases h
 ·rename_i b k;obtain⟨t,r,x⟩:=PH k;split at h
  ·rename_i w l;split at h
   ·rename_i hw;have hw:=acd hw;subst hw;split at h
    ·rename_i F B D z;cases h;obtain⟨rfl,p⟩:=a;exact iq.fu n r x (Qa q z p)
    cases h
   rename_i hw;have hw:=aba hw;subst hw;split at h
   ·rename_i y;cases h;obtain⟨rfl,_⟩:=a;rw[o0];exact iq.out n r x (gE (q.nt▸y))
   cases h
  cases h
 cases h
theorem aeR{b:Array Oper}{l:List Oper}{c:S}{Q:S->Prop}(h:iq K b o s c)(m:qy K b l c Q):qy K b (o::l) s Q:=
 λβ a w e n p=>h β a w (wpList K.P b e l) e n λi q r k=>m i q r e k p
end
end
section
def dd.cat(a b:dd):dd:=⟨a.ts++b.ts,a.hs++b.hs,a.us++b.us⟩
def dd.nil:dd:=⟨[],[],[]⟩
theorem NU{k:Type}: ∀(a b:List (Nat×k)) (f:Nat->k),dx f (a++b)=dx (dx f a) b
 | [],_,_=>rfl
 |(d,v)::a,b,f=>by simp only[List.cons_append,dx];exact NU a b _
theorem oE(a b:dd)(s:S):(a.cat b).app s=b.app (a.app s):=by unfold dd.app dd.cat;simp only[NU]
theorem nB{k:Type}: ∀(l:List (Nat×k)) (f:Nat->k) (r:Nat),((∀v,(r,v)∉l)/\dx f l r=f r)\/ ∃v,(r,v)∈l/\dx f l r=v
 | [],_,_=> .inl ⟨λ_ h=>(lv h).elim,rfl⟩
 |(d,v)::l,f,r=>by
  rcases nB l (bb f d v) r with ⟨b,a⟩|⟨c,b,a⟩
  ·by_cases e:r=d
   ·subst e;exact .inr ⟨v,fi,by rw[dx,a,cy]⟩
   refine .inl ⟨λc h=>?_,by rw[dx,a,cu _ _ _ _ e]⟩;rcases eg.1 h with h|h
   ·cases h;exact e rfl
   exact b c h
  exact .inr ⟨c,eW _ b,by rw[dx,a]⟩
mutual
def lH:V->V->V
 | .t (.bG _),v=>nM v
 | .agg cs,.agg a=> .agg (qG cs a)
 | .bY cs,.bY a=> .bY (qG cs a)
 | .c',_=> .c'
 |_,v=>v
def qG:List V->List V->List V
 |c::cs,v::a=>lH c v::qG cs a
 |_,a=>a
end
mutual
theorem Hj: ∀c v:V,dI v (lH c v)
 | .t (.bG _),v=>by simp only[lH];exact uI v
 | .agg cs,.agg a=>by simp only[lH];exact dI.agg (Ce cs a)
 | .bY cs,.bY a=>by simp only[lH];exact dI.bY (Ce cs a)
 | .c',v=>by simp only[lH];exact dI.c' v
 | .t (.bool _),v| .t (.int _ _),v| .t (.str _),v| .t .fp,v| .t .gZ,v| .t .gm,v| .t .l1,v| .t .err,v=>by simp only[lH];exact dI.refl v
 | .ref _ _,v| .aU _,v| .bf _ _ _ _ _,v| .cQ _ _ _ _ _,v| .fn _ _,v=>by simp only[lH];exact dI.refl v
 | .agg _,.t _| .agg _,.bY _| .agg _,.ref _ _| .agg _,.aU _| .agg _,.bf _ _ _ _ _| .agg _,.cQ _ _ _ _ _| .agg _,.fn _ _| .agg _,.c'=>by simp only[lH];exact dI.refl _
 | .bY _,.t _| .bY _,.agg _| .bY _,.ref _ _| .bY _,.aU _| .bY _,.bf _ _ _ _ _| .bY _,.cQ _ _ _ _ _| .bY _,.fn _ _| .bY _,.c'=>by simp only[lH];exact dI.refl _
theorem Ce: ∀cs a:List V,fH a (qG cs a)
 |c::cs,v::a=>by simp only[qG];exact⟨Hj c v,Ce cs a⟩
 | [],a=>by simp only[qG];exact fH.refl a
 |_::_,[]=>by simp only[qG];exact trivial
end
def CU:Option E->Option E->Option E
 |some (.cells cs),aa (.cells a)=>aa (.cells (qG cs a))
 |some _,e=>e
 |none,_=>ak
variable {c s a:S}{e x:E}{β G:Map}{w:World}{r l:List Nat}{b:List (Nat×Option E)}{d:List (Nat×Bool)}{k i n gen L m g:Nat}{q:Option Nat}{X W:Nat->Prop}{Q:Exit->S->Prop}{v:V}{u:Value}{p:V->V->Prop}{o:Oper}
theorem PI{c e:Option E}(h:CU c e=aa x): ∃a,e=aa a/\jR a x:=by
 unfold CU at h;split at h
 ·cases h;exact⟨_,rfl,Ce _ _⟩
 ·exact⟨x,h,jR.refl x⟩
 cases h
def uW(s:S):List (Nat×V)->List V
 | []=>[]
 |(i,v)::l=>lH v (s.t i)::uW s l
def u3(s:S):List (Nat×Option E)->List (Option E)
 | []=>[]
 |(k,e)::l=>CU e (s.H k)::u3 s l
def kB{k:Type}:List (Nat×k)->List k
 | []=>[]
 |(_,v)::l=>v::kB l
theorem GR{s:S}: ∀{l:List (Nat×V)},uW s l=kB l-> ∀i v,(i,v)∈l->dI (s.t i) v
 |(a,b)::l,h,i,v,hm=>by
  simp only[uW,kB,List.cons.injEq] at h;rcases eg.1 hm with hm|hm
  ·cases hm;exact h.1▸Hj _ _
  exact GR h.2 i v hm
theorem G5{s:S}: ∀{l:List (Nat×Option E)},u3 s l=kB l-> ∀k e,(k,aa e)∈l-> ∃a,s.H k=aa a/\jR a e
 |(lg,a)::l,h,k,e,hm=>by
  simp only[u3,kB,List.cons.injEq] at h;rcases eg.1 hm with hm|hm
  ·cases hm;exact PI h.1
  exact G5 h.2 k e hm
def r0{k:Type}(a:List Nat):List (Nat×k)->Bool
 | []=>ab
 |(i,_)::l=>ih i a&&r0 a l
theorem Ge{k:Type}{r:List Nat}: ∀{l:List (Nat×k)},r0 r l=ab-> ∀i v,(i,v)∈l->i∈r
 |(a,b)::l,h,i,v,hm=>by
  simp only[r0,cB] at h;rcases eg.1 hm with hm|hm
  ·cases hm;exact BO h.1
  exact Ge h.2 i v hm
def yf{k:Type}:List (Nat×k)->List Nat
 | []=>[]
 |(i,_)::l=>i::yf l
theorem NZ{k:Type}{i:Nat}: ∀{l:List (Nat×k)},i∈yf l-> ∃v,(i,v)∈l
 |(c,a)::l,h=>by
  simp only[yf,List.mem_cons] at h;rcases h with rfl|h
  ·exact⟨a,fi⟩
  obtain⟨v,b⟩:=NZ h;exact⟨v,eW _ b⟩
def CN(a:List Nat)(t:Nat->V):Nat->V:=λi=>bif ih i a then .c' else t i
def S.cl(s:S)(a:List Nat)(b:List (Nat×V))(c:List (Nat×Option E))(d:List (Nat×Bool)):S:={t:=dx (CN a s.t) b,H:=dx s.H c,u:=dx s.u d}
theorem Rel.KC{K:Ctx}{a:Act}(l:Rel K β s a w)(n:c.u=s.u)(x: ∀k e,c.H k=aa e-> ∃m,s.H k=aa m/\jR m e)(y: ∀i,dI (s.t i) (c.t i)):Rel K β c a w:=by
 have d: ∀b,own K β c.H b->own K β s.H b:=by
  rintro b (h|⟨id,p,q⟩)
  ·exact .inl h
  cases o:c.H id with
  |none=>exact br o p
  |some e=>
   obtain⟨m,r,_⟩:=x id e o;exact .inr ⟨id,by rw[r];simp,q⟩
 refine {l with low:= ?_,dY:= ?_,eB:= ?_,heap:= ?_,dz:= ?_}
 ·intro id h;rw[n];exact l.low id h
 ·intro id h;rw[n] at h;exact l.dY id h
 ·intro id b h;rw[n] at h;exact l.eB id b h
 ·intro id e o;obtain⟨m,p,q⟩:=x id e o;obtain⟨r,z⟩:=l.heap id m p;refine⟨by rw[n];exact r,?_⟩;exact(q.tQ z).mono (Ext.refl _ _) (λb _=>d b) (dT.refl _) (λ_ h=>h) (Shaped.refl _ _) λ_ _=>rfl
 intro i;exact(y i _ _ _ _ (l.dz i)).mono (Ext.refl _ _) (λb _=>d b) (dT.refl _) (Shaped.refl _ _)
theorem Ut{K:Ctx}{e:dd}{c:List (Nat×V)}(y:e.us=d)(z:r0 r e.ts=ab)(A:r0 (yf b) e.hs=ab)
  (B:uW (e.app s) c=kB c) (D:u3 (e.app s) b=kB b):(e.app s).le K (s.cl r c b d):=by
 intro F a w G;refine⟨F,G.KC ?_ ?_ ?_⟩
 ·show dx s.u d=dx s.u e.us;rw[y]
 ·intro k x n;have n:dx s.H b k=aa x:=n;rcases nB b s.H k with ⟨o,m⟩|⟨v,o,m⟩
  ·rw[m] at n;refine⟨x,?_,jR.refl x⟩;show dx s.H e.hs k=aa x;rw[mM _ _ _ λv p=>?_]
   ·exact n
   obtain⟨R,L⟩:=NZ (Ge A k v p)
   grind
  rw[m] at n;subst n;exact G5 D k x o
 intro i;show dI _ (dx (CN r s.t) c i);rcases nB c (CN r s.t) i with ⟨o,m⟩|⟨v,o,m⟩
 ·rw[m];unfold CN;cases q:ih i r with
  |true=>exact dI.c' _
  |false=>
   show dI (dx s.t e.ts i) (s.t i);rw[mM _ _ _ (λv p=>by
    have hm:=Ge z i v p
    have: ∀{l:List Nat},i∈l->ih i l=ab:=by
     intro l;induction l with
     |nil=>intro h;cases h
     |cons x l Q=>
      intro h;simp only[ih];rcases eg.1 h with rfl|h
      ·simp
      cases b8 x i with
      |true=>rfl
      |false=>exact Q h
    rw[this hm] at q;cases q)]
   exact dI.refl _
 rw[m];exact GR B i v o
theorem NT{k:Type}(f:Nat->k)(i:Nat):bb f i (f i)=f:=by
 funext j;by_cases a:j=i
 ·subst a;rw[cy]
 rw[cu _ _ _ _ a]
def Map.move(a:Map)(k c gen:Nat)(q:Option Nat):Map:=
 ⟨λi=>bif b8 i c then aa (q,1) else bif b8 i k then aa (ak,gen+1) else a i,λi b=>(i=c/\a.n k b)\/(i≠c/\i≠k/\a.n i b)⟩
theorem Im(h:i≠k):b8 i k=al:=by
 cases a:b8 i k with
 |false=>rfl
 |true=>exact br (dc a) h
theorem N5(b:Map)(k a gen:Nat)(q:Option Nat):b.move k a gen q a=aa (q,1):=by simp[Map.move]
theorem N4(b:Map)(k a gen:Nat)(q:Option Nat)(h:k≠a):b.move k a gen q k=aa (ak,gen+1):=by simp[Map.move,Im h]
theorem MF(a:Map)(k b gen:Nat)(q:Option Nat)(id:Nat)(h:id≠k)(c:id≠b):a.move k b gen q id=a id:=by simp[Map.move,Im h,Im c]
theorem afi(c:Map)(k d gen:Nat)(q:Option Nat)(a b:Nat)(h:a≠k)(e:a≠d):(c.move k d gen q).n a b↔c.n a b:=by simp[Map.move,h,e]
theorem aei(d:k≠n)(e:G k=aa (q,gen)){b:Nat}(h:At (G.move k n gen q) i b):(i=n/\At G k b)\/(i≠k/\i≠n/\At G i b):=by
 rcases h with ⟨g,h⟩|⟨rfl,h⟩|⟨a,c,h⟩
 ·by_cases a:i=n
  ·subst a;rw[N5] at h;cases h;exact .inl ⟨rfl,.inl ⟨gen,e⟩⟩
  by_cases c:i=k
  ·subst c;rw[N4 _ _ _ _ _ d] at h;cases h
  rw[MF _ _ _ _ _ _ c a] at h;exact .inr ⟨c,a,.inl ⟨g,h⟩⟩
 ·exact .inl ⟨rfl,.inr h⟩
 exact .inr ⟨c,a,.inr h⟩
theorem c4.set{b:Nat}{Y:List V}{j:Nat}{c x:V}(h:c4 β w X b (.cells Y))(m:Y[j]? =aa c)(n: ∀u,bB β w X c u->bB β w X x u):c4 β w X b (.cells (Y.set j x)):=by
 obtain⟨a,d,ty,e,k,l,o⟩:=h;refine⟨a,d,ty,e,k,by simpa using l,λi v u p q=>?_⟩
 grind
theorem Xo{K:Ctx}(b k i j gen p:Nat){e:TypeId}{n:List (List T)}{L:List dw}{Q:Nat}{l:List (List T)}{R:List (Nat×Nat×V)}(W:dA K.ef k=ab)(X:b≠k)
  (bA:s.H b=aa (.aC L m Q l ((i,j,.bf k gen p 0 n.length)::R))) (hk:s.H k=aa (.arr e gen p n)):
  s.le K {t:=s.t,H:=bb (bb s.H k ak) b (aa (.aC L m Q l ((i,j,.t (.bG n))::R))),u:=s.u}:=by
 intro y a w h;have sY:=fb W;generalize gd:(aa (.aC L m Q l ((i,j,.t (.bG n))::R)):Option E)=N;have ajT:N≠ak:=by subst gd;simp
 have d: ∀o,own K y (bb (bb s.H k ak) b N) o->own K y s.H o:=by
  rintro o (f|⟨id,q,F⟩)
  ·exact .inl f
  by_cases z:id=b
  ·subst z;exact .inr ⟨id,by rw[bA];simp,F⟩
  rw[cu _ _ _ _ z] at q;by_cases r:id=k
  ·subst r;rw[cy] at q;exact br rfl q
  rw[cu _ _ _ _ r] at q;exact .inr ⟨id,q,F⟩
 have A: ∀o,At y k o-> ¬own K y (bb (bb s.H k ak) b N) o:=by
  rintro o D (f|⟨id,q,F⟩)
  ·obtain⟨iY,k0⟩:=h.kq o f;rcases(h.fresh k o D).1 with g|kL
   ·exact k0 g
   omega
  have:=h.inj _ _ _ F D;subst this;rw[cu _ _ _ _ (Ne.symm X),cy] at q;exact q rfl
 have I:=(h.heap k _ hk).2;refine⟨y,{h with heap:= ?_,dz:= ?_}⟩
 ·intro id e' c;have c:bb (bb s.H k ak) b N id=aa e':=c;by_cases z:id=b
  ·subst z;rw[cy] at c;subst c;cases gd;obtain⟨r,G⟩:=h.heap id _ bA;refine⟨r,G.1,?_⟩;rcases G.2 with ⟨aP,a2,a3⟩|⟨o,us,B,aP,a2,a3,a4,a5,jx,hB,fI⟩
   ·exact .inl ⟨aP,a2,a3⟩
   refine .inr ⟨o,us,B,aP,a2,a3,a4,λgW ey M x u dm cL fJ=>?_,jx,hB,fI⟩;have P:=a5 gW ey M x u dm cL fJ;refine⟨λv bR=>?_,λU=>?_⟩
   ·rcases eg.1 bR with e|bR
    ·simp only[Prod.mk.injEq] at e;obtain⟨rfl,rfl,rfl⟩:=e;obtain⟨Y,d2⟩:=P.1 _ fi;exact⟨.t _ _ (I.read Y d A),d2⟩
    obtain⟨Y,d2⟩:=P.1 v (eW _ bR);exact⟨Y.mono (Ext.refl _ _) (λb _=>d b) (dT.refl _) (Shaped.refl _ _),d2⟩
   have hne: ¬(gW=i/\ey=j):=by rintro⟨rfl,rfl⟩;exact U _ fi
   refine(P.2 λv bR=>?_).mono (Ext.refl _ _) (λb _=>d b) (λ_ _=>rfl)
   grind
  rw[cu _ _ _ _ z] at c;by_cases r:id=k
  ·subst r;rw[cy] at c;cases c
  rw[cu _ _ _ _ r] at c;obtain⟨G,h6⟩:=h.heap id e' c;exact⟨G,h6.mono (Ext.refl _ _) (λb _=>d b) (dT.refl _) (λ_ h=>h) (Shaped.refl _ _) λ_ _=>rfl⟩
 intro i;exact(h.dz i).mono (Ext.refl _ _) (λb _=>d b) (dT.refl _) (Shaped.refl _ _)
theorem aaV{K:Ctx}{c:Nat}(b j k:Nat)(e:TypeId){A:List V}(F:s.u k=al)(X:s.H b=aa (.cells A))(M:A[j]? =aa (.t .fp)):
  s.le K {t:=s.t,H:=bb (bb s.H k (aa (.arr e 1 c []))) b (aa (.cells (A.set j (.bf k 1 c 0 0)))),u:=bb s.u k ab}:=by
 intro p a w h;have cI:=h.dY k F;have f:b≠k:=by intro e;subst e;have:=(h.heap b _ X).1;rw[this] at F;cases F
 have q: ∀id x,p id=aa x->p.put k (aa (ak,1)) id=aa x:=λid x l=>by
  rw[fw _ _ _ _ (by intro e;subst e;rw[cI] at l;cases l)];exact l
 have G:=dT.of q;have o: ∀id n,At (p.put k (aa (ak,1))) id n->id≠k/\At p id n:=λid n l=>by
  by_cases r:id=k
  ·subst r;rcases l with ⟨g,l⟩|l
   ·rw[f5] at l;cases l
   exact br l (h.eB _ _ F)
  refine⟨r,?_⟩;rcases l with ⟨g,l⟩|l
  ·rw[fw _ _ _ _ r] at l;exact .inl ⟨g,l⟩
  exact .inr l
 have y: ∀n,own K (p.put k (aa (ak,1))) (bb (bb s.H k (aa (.arr e 1 c []))) b (aa (.cells (A.set j (.bf k 1 c 0 0))))) n->own K p s.H n:=by
  rintro n (l|⟨id,z,B⟩)
  ·exact .inl l
  obtain⟨E,L⟩:=o id n B;by_cases W:id=b
  ·subst W;exact .inr ⟨id,by rw[X];simp,L⟩
  rw[cu _ _ _ _ W,cu _ _ _ _ E] at z;exact .inr ⟨id,z,L⟩
 have Q: ∀v u,bB p w (own K p s.H) v u->bB (p.put k (aa (ak,1))) w (own K (p.put k (aa (ak,1))) (bb (bb s.H k (aa (.arr e 1 c []))) b (aa (.cells (A.set j (.bf k 1 c 0 0)))))) v u:=
  λv u D=>D.mono (Ext.refl _ _) (λb _=>y b) G (Shaped.refl _ _)
 refine⟨p.put k (aa (ak,1)),{h with base:= ?_,low:= ?_,dY:= ?_,eB:= ?_,inj:= ?_,fresh:= ?_,heap:= ?_,dz:=λi=>Q _ _ (h.dz i)}⟩
 ·refine h.base.keep λid hid=>?_
  have:=h.low id hid;rw[fw _ _ _ _ (by intro e;subst e;rw[F] at this;cases this)]
 ·intro id hid;show bb s.u k ab id=ab;by_cases e:id=k
  ·subst e;exact cy _ _ _
  rw[cu _ _ _ _ e];exact h.low id hid
 ·intro id hid;have d:bb s.u k ab id=al:=hid;by_cases e:id=k
  ·subst e;rw[cy] at d;cases d
  rw[cu _ _ _ _ e] at d;rw[fw _ _ _ _ e];exact h.dY id d
 ·intro id b hid;have d:bb s.u k ab id=al:=hid;by_cases e:id=k
  ·subst e;rw[cy] at d;cases d
  rw[cu _ _ _ _ e] at d;exact h.eB id b d
 ·intro id R n z B;exact h.inj id R n (o id n z).2 (o R n B).2
 ·intro id n l;exact h.fresh id n (o id n l).2
 intro id e' m;have m:bb (bb s.H k (aa (.arr e 1 c []))) b (aa (.cells (A.set j (.bf k 1 c 0 0)))) id=aa e':=m;show bb s.u k ab id=ab/\c4 _ _ (own K _ (bb (bb s.H k (aa (.arr e 1 c []))) b (aa (.cells (A.set j (.bf k 1 c 0 0)))))) id e';by_cases L:id=b
 ·subst L;rw[cy] at m;cases m;rw[cu _ _ _ _ f];obtain⟨W,n,T,ty,U,Y,g3,N⟩:=h.heap id _ X;refine⟨W,n,T,ty,q _ _ U,Y,by simpa using g3,λi v u D P=>?_⟩;by_cases r:i=j
  ·subst r;have I:=(d0.1 M).1;rw[hR I] at D;cases D;have z:=N i _ u M P;cases z with
   |t _ _ B=>cases B;exact .hq k 1 c (df _) (cy _ _ _)
  rw[ls (Ne.symm r)] at D;exact Q _ _ (N i v u D P)
 rw[cu _ _ _ _ L] at m;by_cases r:id=k
 ·subst r;rw[cy] at m;cases m;exact⟨cy _ _ _,df _,Or.inl ⟨cy _ _ _,rfl⟩⟩
 rw[cu _ _ _ _ r] at m;obtain⟨z,B⟩:=h.heap id e' m;exact⟨by rw[cu _ _ _ _ r];exact z,B.mono (Ext.refl _ _) (λb _=>y b) G (q id) (Shaped.refl _ _) λ_ _=>rfl⟩
def l2(k:Nat):Nat->Bool:=λid=>bif b8 id k then al else ab
def so(k:Nat)(v:V):V:=bif v.ok (l2 k) then v else .c'
def Ie(k:Nat):E->Option E
 | .cells cs=>bif gI (l2 k) cs then aa (.cells cs) else ak
 | .aC c m gen a b=>bif vf (l2 k) b then aa (.aC c m gen a b) else ak
 |e=>aa e
theorem Ct(h:i≠k):l2 k i=ab:=by
 have:b8 i k=al:=by cases a:b8 i k with
  |false=>rfl
  |true=>exact br (dc a) h
 simp[l2,this]
theorem x5(h:l2 k i=ab):i≠k:=by intro e;subst e;simp[l2] at h
def E.na(n:Nat):E->E
 | .arr e _ z r=> .arr e n z r
 | .aC Γ m _ r a=> .aC Γ m n r a
 |e=>e
abbrev E.zz:E->E:=E.na 1
def E.pD:E->List (Nat×Nat×V)
 | .aC _ _ _ _ a=>a
 |_=>[]
theorem c4.na{β':Map}(h:c4 β w X k e)(d:1<=n)(z:e.gen=aa g)(s:β k=aa (q,g))(y:β' L=aa (q,n))(G: ∀b,β'.n L b↔β.n k b)(H: ∀b,W b->X b)
  (R: ∀i j v,(i,j,v)∈e.pD-> ∀u,bB β w X v u->bB β' w W v u):c4 β' w W L (e.na n):=by
 cases e with
 |cells=>cases z
 |arr ty f Q l=>
  cases z;refine⟨d,?_⟩;rcases h.2 with ⟨aP,a2⟩|⟨b,A,aP,a2,a3,a4,a5⟩
  ·rw[s] at aP;cases aP;exact .inl ⟨y,a2⟩
  rw[s] at aP;cases aP;exact .inr ⟨b,A,y,a2,a3,a4,λi j a x u o p r=>(a5 i j a x u o p r).mono (Ext.refl _ _) λb _=>H b⟩
 |aC I m f l M=>
  cases z;refine⟨d,?_⟩;rcases h.2 with ⟨aP,a2,a0⟩|⟨b,A,B,aP,a2,a3,a4,a5,jx,hB,fI⟩
  ·rw[s] at aP;cases aP;exact .inl ⟨y,a2,λc t=>a0 c ((G c).1 t)⟩
  rw[s] at aP;cases aP;exact .inr ⟨b,A,B,y,a2,a3,a4,λi j a x u o p r=>⟨λv D=>⟨R i j v D _ ((a5 i j a x u o p r).1 v D).1,((a5 i j a x u o p r).1 v D).2⟩,λF=>((a5 i j a x u o p r).2 F).mono (Ext.refl _ _) (λc _=>H c) λ_ _=>rfl⟩,jx,hB,λc=>(G c).trans (fI c)⟩
theorem OE(h:bB G w X v u)(a: ∀b,W b->X b):bB (G.put k (aa (q,g+1))) w W (so k v) u:=by
 unfold so;cases c:v.ok (l2 k) with
 |false=>exact .c' _
 |true=>exact h.under a (λid hid=>fw _ _ _ _ (x5 hid)) c
theorem M8{y:E}(h:c4 G w X i x)(e: ∀b,W b->X b)(l:i≠k)(a:Ie k x=aa y):c4 (G.put k (aa (q,g+1))) w W i y:=by
 unfold Ie at a;split at a
 ·rename_i cs;cases c:gI (l2 k) cs with
  |false=>rw[c] at a;cases a
  |true=>rw[c] at a;cases a;exact h.under e (λi hid=>fw _ _ _ _ (x5 hid)) (Ct l) c
 ·rename_i n;cases c:vf (l2 k) n with
  |false=>rw[c] at a;cases a
  |true=>rw[c] at a;cases a;exact h.under e (λi hid=>fw _ _ _ _ (x5 hid)) (Ct l) c
 cases a;refine h.under e (u:=l2 k) (λi hid=>fw _ _ _ _ (x5 hid)) (Ct l) ?_;cases x with
 |cells cs=>rename_i o _;exact br rfl (o cs)
 |arr=>rfl
 |aC p m gen d n=>rename_i _ o;exact br rfl (o p m gen d n)
def qw(k:Nat)(H:Nat->Option E):Nat->Option E:=λid=>match H id with
 |some e=>Ie k e
 |none=>ak
theorem Rel.Sv{K:Ctx}{s':S}{a:Act}(h:Rel K β s a w)(k g gen:Nat){F:Option Nat}(B:s.H k=aa e)(f:e.gen=aa gen)(G:e.pD=[])(L:k<K.ef)(Q:K.hi k=aa (F,g))
  (n:s'.u=s.u) (R:s'.H k=aa (e.na (g+1))) (q:Option Nat) (D:β k=aa (q,gen))
  (I: ∀id x,id≠k->s'.H id=aa x->s.H id≠ak/\ ∀X,(∀b,X b->own K β s.H b)->c4 (β.put k (aa (q,g+1))) w X id x)
  (T: ∀i,∀X,(∀b,X b->own K β s.H b)->bB (β.put k (aa (q,g+1))) w X (s'.t i) (a.tmps.getD i undef)):Rel K (β.put k (aa (q,g+1))) s' a w:=by
 have W:1<=gen:=(n0 (h.heap k _ B).2 f).1;have o:=(h.heap k _ B).1;have p:1<=g/\ ∀b,q=aa b->F=aa b\/K.w0.heap.size<=b:=by
  rcases h.base k L with M|⟨V,Y,q2,g2,aP,a2,a3,a4,a5⟩
  ·rw[D,Q] at M;cases M;exact⟨W,λb bA=> .inl bA⟩
  rw[Q] at aP;cases aP;rw[D] at a3;cases a3;exact⟨a2,a5⟩
 have c: ∀id b,At (β.put k (aa (q,g+1))) id b->At β id b:=λid b bA=>by
  rcases bA with ⟨U,bA⟩|bA
  ·by_cases d:id=k
   ·subst d;rw[f5] at bA;cases bA;exact .inl ⟨gen,D⟩
   rw[fw _ _ _ _ d] at bA;exact .inl ⟨U,bA⟩
  exact .inr bA
 have l: ∀b,own K (β.put k (aa (q,g+1))) s'.H b->own K β s.H b:=by
  rintro b (m|⟨id,r,z⟩)
  ·exact .inl m
  refine .inr ⟨id,?_,c id b z⟩;by_cases d:id=k
  ·subst d;rw[B];simp
  cases m:s'.H id with
  |none=>exact br m r
  |some x=>exact(I id x d m).1
 refine {h with base:= ?_,low:= ?_,dY:= ?_,eB:=λid b hid=>h.eB id b (n▸hid),inj:= ?_,fresh:=λid b bA=>h.fresh id b (c id b bA),heap:= ?_,dz:=λi=>T i _ l}
 ·intro id hid;by_cases d:id=k
  ·subst d;exact .inr ⟨F,g,q,g+1,Q,p.1,cy _ _ _,nh _,p.2⟩
  rw[fw _ _ _ _ d];exact h.base id hid
 ·intro id hid;rw[n];exact h.low id hid
 ·intro id hid;rw[n] at hid;rw[fw _ _ _ _ (by intro e;subst e;rw[o] at hid;cases hid)];exact h.dY id hid
 ·intro id A b r z;exact h.inj id A b (c id b r) (c A b z)
 intro id x m;by_cases d:id=k
 ·subst d;rw[R] at m;cases m;exact⟨by rw[n];exact o,(h.heap id _ B).2.na O f D (cy _ _ _) (λ_=>Iff.rfl) l λi j v N=>by rw[G] at N;cases N⟩
 obtain⟨r,z⟩:=I id x d m;refine⟨?_,z _ l⟩;rw[n];cases P:s.H id with
 |none=>exact br P r
 |some y=>exact(h.heap id y P).1
theorem Na(l:G k=aa (q,gen))(h:bB G w X (.bf k gen i L m) u):bB (G.put k (aa (q,g+1))) w W (.bf k (g+1) i L m) u:=by
 rcases ff h l with ⟨c,b,n,d,rfl,a,o,p,e,r,s⟩|⟨a,rfl,rfl,rfl⟩
 ·subst a;exact .bf k (g+1) i L m c b n d O (cy _ _ _) o p e r s
 subst a;exact .hq k (g+1) i O (cy _ _ _)
theorem Ft{K:Ctx}(i k g gen b c d:Nat)(F:dn k K.ef=ab)(G:s.t i= .bf k gen b c d)(z:s.H k=aa e)(A:e.gen=aa gen)(n:e.pD=[])(o: ∃q,K.hi k=aa (q,g)):
  s.le K {t:=bb (λj=>so k (s.t j)) i (.bf k (g+1) b c d),H:=bb (qw k s.H) k (aa (e.na (g+1))),u:=s.u}:=by
 intro L a w h;obtain⟨Q,o⟩:=o;obtain⟨_,q,B⟩:=n0 (h.heap k _ z).2 A;refine⟨_,h.Sv (s':={t:=bb (λj=>so k (s.t j)) i (.bf k (g+1) b c d),H:=bb (qw k s.H) k (aa (e.na (g+1))),u:=s.u}) k g gen z A n (by simpa[Nat.blt_eq] using F) o rfl (cy _ _ _) q B ?_ ?_⟩
 ·intro id x m l;have l:bb (qw k s.H) k (aa (e.na (g+1))) id=aa x:=l;rw[cu _ _ _ _ m] at l;unfold qw at l;cases p:s.H id with
  |none=>rw[p] at l;cases l
  |some y=>
   rw[p] at l;exact⟨bl,λX r=>M8 (h.heap id y p).2 r m l⟩
 intro j X r;show bB _ w X (bb (λj=>so k (s.t j)) i (.bf k (g+1) b c d) j) _;by_cases D:j=i
 ·subst D;rw[cy];exact Na B (G▸h.dz j)
 rw[cu _ _ _ _ D];exact OE (h.dz j) r
theorem Fu{K:Ctx}(b j k g gen c l m:Nat){cs:List V}(cR:dn k K.ef=ab)(A:s.H b=aa (.cells cs))(B:cs[j]? =aa (.bf k gen c l m))(D:gI (l2 k) (cs.set j .c')=ab)
  (z:s.H k=aa e) (F:e.gen=aa gen) (G:e.pD=[]) (L: ∃q,K.hi k=aa (q,g)):
  s.le K {t:=λj=>so k (s.t j),H:=bb (bb (qw k s.H) k (aa (e.na (g+1)))) b (aa (.cells (cs.set j (.bf k (g+1) c l m)))),u:=s.u}:=by
 intro Q a w h;obtain⟨tG,L⟩:=L;obtain⟨_,q,I⟩:=n0 (h.heap k _ z).2 F;have n:b≠k:=by intro e';subst e';rw[A] at z;cases z;cases F
 refine⟨_,h.Sv (s':={t:=λj=>so k (s.t j),H:=bb (bb (qw k s.H) k (aa (e.na (g+1)))) b (aa (.cells (cs.set j (.bf k (g+1) c l m)))),u:=s.u}) k g gen z F G (by simpa[Nat.blt_eq] using cR) L rfl (by show bb _ b _ k=_;rw[cu _ _ _ _ (Ne.symm n),cy]) q I ?_ ?_⟩
 ·intro id x o d;have d:bb (bb (qw k s.H) k (aa (e.na (g+1)))) b (aa (.cells (cs.set j (.bf k (g+1) c l m)))) id=aa x:=d;by_cases p:id=b
  ·subst p;rw[cy] at d;cases d;refine⟨by rw[A];simp,λX r=>?_⟩;have M:=(h.heap id _ A).2;have h6:c4 Q w (own K Q s.H) id (.cells (cs.set j .c')):=M.set B λu _=> .c' u;have lT:=h6.under (u:=l2 k) (β':=Q.put k (aa (q,g+1))) r (λid hid=>fw _ _ _ _ (x5 hid)) (Ct n) D;obtain⟨h7,us,ty,N,P,g3,g4⟩:=lT;obtain⟨cL,rD,SO,T,U,f3,f4⟩:=M;rw[fw _ _ _ _ n,T] at N;cases N;rw[U] at P;cases P;refine⟨_,_,_,by rw[fw _ _ _ _ n];exact T,U,by simpa using f3,λi v u R hu=>?_⟩;by_cases Y:i=j
   ·subst Y;have W:=(d0.1 B).1;rw[hR W] at R;cases R;exact Na I (f4 i _ u B hu)
   rw[ls (Ne.symm Y)] at R
   grind
  rw[cu _ _ _ _ p,cu _ _ _ _ o] at d;unfold qw at d;cases f:s.H id with
  |none=>rw[f] at d;cases d
  |some y=>
   rw[f] at d;exact⟨bl,λX r=>M8 (h.heap id y f).2 r o d⟩
 intro j X r;exact OE (h.dz j) r
inductive kA (p:V->V->Prop):V->V->Prop
 |same (v:V):kA p v v
 |put {v ea:V} (h:p v ea):kA p v ea
 |agg {cs sE:List V} (hl:sE.length=cs.length) (h: ∀(i:Nat) c yl,cs[i]? =aa c->sE[i]? =aa yl->kA p c yl):kA p (.agg cs) (.agg sE)
theorem kA.zA{U:Map}{a:World}(d: ∀v u,bB U w X v u->bB G a W v u)(e: ∀v x u,p v x->bB U w X v u->bB G a W x u){x:V}(h:kA p v x): ∀u,bB U w X v u->bB G a W x u:=by
 induction h with
 |same v=>exact d v
 |put h=>exact λu=>e _ _ u h
 |agg k h l=>
  intro u c;cases c with
  |agg _ m n o=>
   refine .agg _ m O λi q u b c=>?_;have aL:=(d0.1 b).1;have bW:=bC (show i<_ by rw[<-k];exact aL);exact l i _ q bW b u (o i _ u bW c)
def xm(p:V->V->Prop)(e b:E):Prop:=b=e\/ ∃cs a,e= .cells cs/\b= .cells a/\a.length=cs.length/\ ∀(i:Nat) c d,cs[i]? =aa c->a[i]? =aa d->kA p c d
theorem xm.tQ{U:Map}(c: ∀x,U n=aa x->G n=aa x)(l: ∀e,c4 U w X n e->c4 G w W n e)(m: ∀v u,bB U w X v u->bB G w W v u)(o: ∀v d u,p v d->bB U w X v u->bB G w W d u){e':E}(h:xm p e e')(k:c4 U w X n e):c4 G w W n e':=by
 rcases h with rfl|⟨cs,q,rfl,rfl,r,h⟩
 ·exact l _ k
 obtain⟨b,s,ty,y,z,F,A⟩:=k;refine⟨b,s,ty,c _ y,z,O,λi B u a D=>?_⟩;have aL:=(d0.1 a).1;have bW:=bC (show i<_ by rw[<-r];exact aL);exact kA.zA m o (h i _ B bW a) u (A i _ u bW D)
theorem Xp{K:Ctx}(X:Nat->V)(o:Nat->Option E)(k gen d:Nat){e:TypeId}{c:List (List T)}(D:dA K.ef k=ab)(I:s.H k=aa (.arr e gen d c))
  (M: ∀i,kA (λv p=>v= .bf k gen d 0 c.length/\p= .t (.bG c)) (s.t i) (X i)) (N:o k=ak)
  (f: ∀id q,o id=aa q-> ∃r,s.H id=aa r/\xm (λv p=>v= .bf k gen d 0 c.length/\p= .t (.bG c)) r q):s.le K {t:=X,H:=o,u:=s.u}:=by
 intro l a w h;have P:=fb D;have m: ∀n,own K l o n->own K l s.H n:=by
  rintro n (F|⟨id,A,x⟩)
  ·exact .inl F
  cases B:o id with
  |none=>exact br B A
  |some q=>obtain⟨r,G,_⟩:=f id q B;exact .inr ⟨id,by rw[G];simp,x⟩
 have y: ∀n,At l k n-> ¬own K l o n:=by
  rintro n z (F|⟨id,A,x⟩)
  ·obtain⟨iY,U⟩:=h.kq n F;rcases(h.fresh k n z).1 with L|Y
   ·exact U L
   omega
  have:=h.inj _ _ _ x z
  grind
 have Q:=(h.heap k _ I).2;have g: ∀v u,bB l w (own K l s.H) v u->bB l w (own K l o) v u:=λv u R=>R.mono (Ext.refl _ _) (λb _=>m b) (dT.refl _) (Shaped.refl _ _);have j: ∀v p u,(v= .bf k gen d 0 c.length/\p= .t (.bG c))->bB l w (own K l s.H) v u->bB l w (own K l o) p u:=by
  rintro v p u ⟨rfl,rfl⟩ R;exact .t _ _ (Q.read R m y)
 refine⟨l,{h with heap:= ?_,dz:= ?_}⟩
 ·intro id q W;obtain⟨r,A,x⟩:=f id q W;obtain⟨G,h4⟩:=h.heap id r A;exact⟨G,x.tQ (λ_ h=>h) (λe B=>B.mono (Ext.refl _ _) (λb _=>m b) (dT.refl _) (λ_ h=>h) (Shaped.refl _ _) λ_ _=>rfl) g j h4⟩
 intro i;exact kA.zA g j (M i) _ (h.dz i)
theorem Yb{K:Ctx}(l5:Nat->V)(F:Nat->Option E)(k cD gen o I:Nat){G:E}(M:k≠cD)(hk:s.H k=aa G)(bV:G.gen=aa gen)(hu:s.u cD=al)
  (fo: ∀i,kA (λv R=>v= .bf k gen o 0 I/\R= .bf cD 1 o 0 I) (s.t i) (l5 i)) (agP: ∀e',F k=aa e'->(∃ty sz,e'= .arr ty (gen+1) sz [])\/ ∃Γ m,e'= .aC Γ m (gen+1) [] []) (N:F cD=aa G.zz)
  (hH: ∀id e',id≠cD->id≠k->F id=aa e'-> ∃G,s.H id=aa G/\xm (λv R=>v= .bf k gen o 0 I/\R= .bf cD 1 o 0 I) G e'):
  s.le K {t:=l5,H:=F,u:=bb s.u cD ab}:=by
 intro B a w h;obtain⟨P,q,T⟩:=n0 (h.heap k _ hk).2 bV;have W:=(h.heap k _ hk).1;have cI:=h.dY cD hu;have aj6:K.ef<=cD:=by
  apply Nat.le_of_not_lt;intro hlt;rw[h.low cD hlt] at hu;cases hu
 let l:=B.move k cD gen q;have dm:l cD=aa (q,1):=N5 _ _ _ _ _;have cL:l k=aa (ak,gen+1):=N4 _ _ _ _ _ M;have U: ∀id,id≠k->id≠cD->l id=B id:=λid p r=>MF _ _ _ _ _ _ p r;have y: ∀id b,At l id b->(id=cD/\At B k b)\/(id≠k/\id≠cD/\At B id b):=by
  intro id b L;exact aei M T L
 have Y:dT B l:=by
  intro id q2 g z;by_cases r:id=k
  ·subst r;rw[T] at z;cases z;exact .inr ⟨P,ak,gen+1,cL,nh _⟩
  have p:id≠cD:=by intro e;subst e;rw[cI] at z;cases z
  exact .inl (by rw[U id r p];exact z)
 have D: ∀b,own K l F b->own K B s.H b:=by
  rintro b (z|⟨id,p,r⟩)
  ·exact .inl z
  rcases y id b r with ⟨rfl,A⟩|⟨A,h4,Q⟩
  ·exact .inr ⟨k,by rw[hk];simp,A⟩
  cases he:F id with
  |none=>exact br he p
  |some e'=>obtain⟨G,X,_⟩:=hH id e' h4 A he;exact .inr ⟨id,by rw[X];simp,Q⟩
 have hm: ∀v u,bB B w (own K B s.H) v u->bB l w (own K l F) v u:=λv u bR=>bR.mono (Ext.refl _ _) (λb _=>D b) Y (Shaped.refl _ _);have hp: ∀v R u,(v= .bf k gen o 0 I/\R= .bf cD 1 o 0 I)->bB B w (own K B s.H) v u->bB l w (own K l F) R u:=by
  rintro v R u ⟨rfl,rfl⟩ bR;rcases ff bR T with ⟨cap,b,n,iB,rfl,f,hw,hs,sX,hl,vC⟩|⟨f,p,r,rfl⟩
  ·subst f;exact .bf cD 1 o 0 _ cap b n iB (df _) dm hw hs sX hl vC
  subst f;rw[r];exact .hq cD 1 o (df _) dm
 refine⟨l,{h with base:= ?_,low:= ?_,dY:= ?_,eB:= ?_,inj:= ?_,fresh:= ?_,heap:= ?_,dz:= ?_}⟩
 ·refine h.base.more λid hid=>?_;by_cases r:id=k
  ·subst r;exact .inr ⟨q,gen,ak,gen+1,T,P,cL,nh _,λb L=>by cases L⟩
  exact .inl (U id r O)
 ·intro id hid;show bb s.u cD ab id=ab;rw[cu _ _ _ _ O];exact h.low id hid
 ·intro id hid;have d:bb s.u cD ab id=al:=hid;by_cases p:id=cD
  ·subst p;rw[cy] at d;cases d
  rw[cu _ _ _ _ p] at d;rw[U id (by intro e;subst e;rw[W] at d;cases d) p];exact h.dY id d
 ·intro id b hid L;have d:bb s.u cD ab id=al:=hid;rcases L with ⟨p,_⟩|⟨p,_,L⟩
  ·subst p;rw[cy] at d;cases d
  rw[cu _ _ _ _ p] at d;exact h.eB id b d L
 ·intro id lf b p r;rcases y id b p with ⟨rfl,A⟩|⟨A,h4,Q⟩<;>rcases y lf b r with ⟨e2,X⟩|⟨X,lT,mF⟩
  ·exact e2.symm
  ·exact br (h.inj _ _ b mF A) X
  ·subst e2;exact br (h.inj _ _ b Q X) A
  exact h.inj _ _ b Q mF
 ·intro id b L;rcases y id b L with ⟨rfl,A⟩|⟨A,h4,Q⟩
  ·refine⟨?_,(h.fresh _ _ A).2⟩;exact(h.fresh _ _ A).1
  exact h.fresh id b Q
 ·intro id e' z;have hy:F id=aa e':=z;clear z;show bb s.u cD ab id=ab/\c4 l w (own K l F) id e';by_cases p:id=cD
  ·subst p;rw[N] at hy;cases hy;exact⟨cy _ _ _,(h.heap k _ hk).2.na (df _) bV T dm (λb=>by simp[l,Map.move]) D λ_ _ v _ u=>hm v u⟩
  by_cases r:id=k
  ·subst r;rw[cu _ _ _ _ p];rcases agP e' hy with ⟨ty,sz,rfl⟩|⟨Γ,m,rfl⟩
   ·exact⟨W,Nat.le_add_left _ _,.inl ⟨cL,rfl⟩⟩
   exact⟨W,Nat.le_add_left _ _,.inl ⟨cL,rfl,λc bW=>(show(id=cD/\B.n id c)\/(id≠cD/\id≠id/\B.n id c) from bW).elim (λq=>p q.1) λq=>q.2.1 rfl⟩⟩
  obtain⟨G,Q,X⟩:=hH id e' p r hy;obtain⟨A,h4⟩:=h.heap id G Q;rw[cu _ _ _ _ p];refine⟨A,X.tQ (λx z=>by rw[U id r p];exact z) (λe he=>he.mono (Ext.refl _ _) (λb _=>D b) Y (λx z=>by rw[U id r p];exact z) (Shaped.refl _ _) (λ_ _=>rfl) λb=>afi _ _ _ _ _ _ _ r p) hm hp h4⟩
 intro j;exact kA.zA hm hp (fo j) _ (h.dz j)
mutual
def pS(k g z n:Nat)(b:V):V->V×List dH
 | .bf d gen a c len=>match b8 d k&&b8 c 0 with
  |true=>(b,[.q gen g,.q a z,.q len n])
  |false=>(.bf d gen a c len,[])
 | .agg cs=>(.agg (mU k g z n b cs).1,(mU k g z n b cs).2)
 |v=>(v,[])
def mU(k g z n:Nat)(a:V):List V->List V×List dH
 | []=>([],[])
 |c::cs=>((pS k g z n a c).1::(mU k g z n a cs).1,(pS k g z n a c).2++(mU k g z n a cs).2)
end
theorem FI(k g z n:Nat)(a:V): ∀cs,(mU k g z n a cs).1.length=cs.length
 | []=>rfl
 |c::cs=>by simp[mU,FI k g z n a cs]
mutual
theorem P4(k g z n:Nat)(c:V): ∀v,cH (pS k g z n c v).2->kA (λa b=>a= .bf k g z 0 n/\b=c) v (pS k g z n c v).1
 | .bf l gen i e len,h=>by
  unfold pS at h⊢;cases d:b8 l k&&b8 e 0 with
  |false=>exact .same _
  |true=>
   simp only[d] at h⊢;simp only[cB] at d;obtain⟨rfl,rfl,rfl,_⟩:=h;have m:=dc d.1;have o:=dc d.2;subst m;subst o;exact .put ⟨rfl,rfl⟩
 | .agg cs,h=>by
  simp only[pS] at h⊢;exact .agg (FI _ _ _ _ _ _) (HV k g z n c cs h)
 | .t _,_| .bY _,_| .ref _ _,_| .aU _,_| .cQ _ _ _ _ _,_| .fn _ _,_| .c',_=>by simp only[pS];exact .same _
theorem HV(k g z n:Nat)(d:V): ∀cs,cH (mU k g z n d cs).2-> ∀(i:Nat) c l,cs[i]? =aa c->(mU k g z n d cs).1[i]? =aa l->kA (λa b=>a= .bf k g z 0 n/\b=d) c l
 | [],_,i,c,l,h,_=>by simp at h
 |o::cs,m,0,c,l,h,e=>by
  simp only[mU] at m e;simp at h e;subst h;subst e;exact P4 k g z n d o (cH.app m).1
 |o::cs,m,i+1,c,l,h,e=>by simp only[mU] at m e;simp at h e;exact HV k g z n d cs (cH.app m).2 i c l h e
end
def iz(k g z n:Nat)(a:V)(s:S):List Nat->List (Nat×V)×List dH
 | []=>([],[])
 |i::is=>((i,(pS k g z n a (s.t i)).1)::(iz k g z n a s is).1,(pS k g z n a (s.t i)).2++(iz k g z n a s is).2)
def gJ(k g z n:Nat)(a:V)(s:S):List Nat->List (Nat×Option E)×List dH
 | []=>([],[])
 |b::c=>match s.H b with
  |some (.cells cs)=>((b,aa (.cells (mU k g z n a cs).1))::(gJ k g z n a s c).1,(mU k g z n a cs).2++(gJ k g z n a s c).2)
  |_=>gJ k g z n a s c
theorem HU{k g z n:Nat}{x:V}{s:S}: ∀{is:List Nat},cH (iz k g z n x s is).2-> ∀i v,(i,v)∈(iz k g z n x s is).1->kA (λa b=>a= .bf k g z 0 n/\b=x) (s.t i) v
 |i0::is,c,i,v,h=>by
  simp only[iz] at c h;rcases eg.1 h with h|h
  ·cases h;exact P4 _ _ _ _ _ _ (cH.app c).1
  exact HU (cH.app c).2 i v h
theorem Cp{k g z n:Nat}{x:V}{s:S}: ∀{i:List Nat},cH (gJ k g z n x s i).2-> ∀b e,(b,e)∈(gJ k g z n x s i).1-> ∃m o,s.H b=aa m/\e=aa o/\xm (λa b=>a= .bf k g z 0 n/\b=x) m o
 |p::i,c,b,e,h=>by
  unfold gJ at c h;split at h
  ·rename_i cs d;simp only[d] at c;rcases eg.1 h with h|h
   ·cases h;exact⟨_,_,d,rfl,.inr ⟨cs,_,rfl,rfl,FI _ _ _ _ _ _,HV _ _ _ _ _ _ (cH.app c).1⟩⟩
   exact Cp (cH.app c).2 b e h
  rename_i d;split at c
  ·rename_i cs l;exact br l (d cs)
  exact Cp c b e h
theorem Pv{k:Nat}: ∀{l:List Nat},k∈l->ih k l=ab
 |x::l,h=>by
  simp only[ih];rcases eg.1 h with rfl|h
  ·simp
  cases b8 x k with
  |true=>rfl
  |false=>exact Pv h
theorem xC(h:(!ih k l)=ab):k∉l:=λa=>by rw[Pv a] at h;cases h
theorem Pq{cD:Nat}(h:(!Nat.beq k cD)=ab):k≠cD:=λe=>by subst e;simp at h
theorem xB{k g z n:Nat}{x:V}{s:S}: ∀{a:List Nat} {b:Nat} {e:Option E},(b,e)∈(gJ k g z n x s a).1->b∈a
 |c::a,b,e,h=>by
  unfold gJ at h;split at h
  ·rcases eg.1 h with h|h
   ·cases h;exact fi
   exact eW _ (xB h)
  exact eW _ (xB h)
theorem afx{K:Ctx}{e:TypeId}{a:List (List T)}{L:List Nat}(d:dA K.ef k=ab)(l:s.H k=aa (.arr e gen n a))(m:k∉r)
  (o:cH (iz k gen n a.length (.t (.bG a)) s L).2) (p:cH (gJ k gen n a.length (.t (.bG a)) s r).2):
  s.le K ((⟨(iz k gen n a.length (.t (.bG a)) s L).1,(k,ak)::(gJ k gen n a.length (.t (.bG a)) s r).1,[]⟩:dd).app s):=by
 refine Xp _ _ k gen n d l (λi=>?_) ?_ λid e' b=>?_
 ·rcases nB (iz k gen n a.length (.t (.bG a)) s L).1 s.t i with ⟨_,c⟩|⟨v,h,c⟩
  ·rw[c];exact .same _
  rw[c];exact HU o i v h
 ·show dx (bb s.H k ak) _ k=ak;rw[mM _ _ _ λv q=>m (xB q),cy]
 have b:dx (bb s.H k ak) (gJ k gen n a.length (.t (.bG a)) s r).1 id=aa e':=b;rcases nB (gJ k gen n a.length (.t (.bG a)) s r).1 (bb s.H k ak) id with ⟨_,c⟩|⟨v,h,c⟩
 ·rw[c] at b;by_cases hid:id=k
  ·subst hid;rw[cy] at b;cases b
  rw[cu _ _ _ _ hid] at b;exact⟨e',b,.inl rfl⟩
 rw[c] at b;subst b;obtain⟨w,x,y,z,A⟩:=Cp p id _ h
 grind
theorem Qj{b:Bool}{T:E}(h:(bif b then ak else aa e)=aa T):T=e:=by
 cases b with
 |true=>cases h
 |false=>cases h;rfl
theorem Qt{K:Ctx}{B:Nat}{T:E}{o:Option E}(w: ∀e',o=aa e'->(∃ty x,e'= .arr ty (gen+1) x [])\/ ∃y m,e'= .aC y m (gen+1) [] [])(d:k≠L)(z:s.H k=aa T)(A:T.gen=aa gen)(D:s.u L=al)(F:k∉r)(h:L∉r)
  (G:cH (iz k gen n B (.bf L 1 n 0 B) s l).2) (Q:cH (gJ k gen n B (.bf L 1 n 0 B) s r).2):
  s.le K ((⟨(iz k gen n B (.bf L 1 n 0 B) s l).1,(k,o)::(L,aa T.zz)::(gJ k gen n B (.bf L 1 n 0 B) s r).1,[(L,ab)]⟩:dd).app s):=by
 refine Yb _ _ k L gen n B d z A D (λi=>?_) (λe' a=>w e' ?_) ?_ λid e' e hid c=>?_
 ·rcases nB (iz k gen n B (.bf L 1 n 0 B) s l).1 s.t i with ⟨_,b⟩|⟨v,p,b⟩
  ·rw[b];exact .same _
  rw[b];exact HU G i v p
 ·have a:dx (bb (bb s.H k o) L (aa T.zz)) _ k=aa e':=a
  rwa [mM _ _ _ λv q=>F (xB q),cu _ _ _ _ d,cy] at a
 ·show dx (bb (bb s.H k o) L _) _ L=_;rw[mM _ _ _ λv q=>h (xB q),cy]
 have c:dx (bb (bb s.H k o) L (aa T.zz)) (gJ k gen n B (.bf L 1 n 0 B) s r).1 id=aa e':=c;rcases nB (gJ k gen n B (.bf L 1 n 0 B) s r).1 (bb (bb s.H k o) L (aa T.zz)) id with ⟨_,b⟩|⟨v,p,b⟩
 ·rw[b,cu _ _ _ _ e,cu _ _ _ _ hid] at c;exact⟨e',c,.inl rfl⟩
 rw[b] at c;subst c;obtain⟨T,f,R,W,X⟩:=Cp Q id _ p;cases W;exact⟨T,R,X⟩
theorem Xn{K:Ctx}(B:Nat->V)(k:Nat){F:List T}(G:dA K.ef k=ab)(W:s.H k=aa (.cells (F.map .t)))
  (X: ∀i,B i=s.t i\/ ∃c,s.t i= .ref k c/\B i= .aU (F.drop c)):s.le K {t:=B,H:=bb s.H k ak,u:=s.u}:=by
 intro q a w h;have f:=fb G;obtain⟨b,p,ty,D,g,Q,v⟩:=(h.heap k _ W).2;have m: ∀L,own K q (bb s.H k ak) L->own K q s.H L:=by
  rintro L (r|⟨id,n,o⟩)
  ·exact .inl r
  by_cases hid:id=k
  ·subst hid;rw[cy] at n;exact br rfl n
  rw[cu _ _ _ _ hid] at n;exact .inr ⟨id,n,o⟩
 have y: ¬own K q (bb s.H k ak) b:=by
  rintro(r|⟨id,n,o⟩)
  ·obtain⟨iY,E⟩:=h.kq b r;rcases(h.fresh k b (.inl ⟨_,D⟩)).1 with d|I
   ·exact E d
   omega
  have:=h.inj _ _ _ o (.inl ⟨_,D⟩);subst this;rw[cy] at n;exact n rfl
 refine⟨q,{h with heap:= ?_,dz:= ?_}⟩
 ·intro id e' l;have l:bb s.H k ak id=aa e':=l;by_cases hid:id=k
  ·subst hid;rw[cy] at l;cases l
  rw[cu _ _ _ _ hid] at l;obtain⟨n,o⟩:=h.heap id e' l;exact⟨n,o.mono (Ext.refl _ _) (λb _=>m b) (dT.refl _) (λ_ h=>h) (Shaped.refl _ _) λ_ _=>rfl⟩
 intro j;show bB q w _ (B j) _;rcases X j with M|⟨c,n,o⟩
 ·rw[M];exact(h.dz j).mono (Ext.refl _ _) (λb _=>m b) (dT.refl _) (Shaped.refl _ _)
 rw[o];have R:=h.dz j;rw[n] at R;obtain⟨cL,z,N⟩:=r1 R;rw[D] at z;cases z;rw[N];have bA:=(h.fresh k b (.inl ⟨_,D⟩)).2;refine .aU _ b c (λi=>p.getD (c+i) undef) bA y (λi P=>?_) λi x r=>?_
 ·have d:c+i<p.size:=by simp at P Q;omega
  simp[World.cell?,g,d]
 have A:F[c+i]? =aa x:=by simpa using r
 have d:c+i<p.size:=by have:=(d0.1 A).1;simp at Q;omega
 have U:=v (c+i) (.t x) p[c+i] (by simp[A]) (by simp[d]);have e:p.getD (c+i) undef=p[c+i]:=by simp[d]
 rw[e];cases U with
 |t _ _ Y=>exact Y.mono (Ext.refl _ _) λb _=>m b
def Dd(k:Nat)(b:List T)(s:S):List Nat->Option (List (Nat×V))
 | []=>aa []
 |i::is=>match s.t i with
  | .ref c a=>match b8 c k,Dd k b s is with
   |true,aa l=>aa ((i,.aU (b.drop a))::l)
   |_,_=>ak
  |_=>ak
theorem PV{k:Nat}{a:List T}{s:S}: ∀{is:List Nat} {l:List (Nat×V)},Dd k a s is=aa l-> ∀i v,(i,v)∈l-> ∃b,s.t i= .ref k b/\v= .aU (a.drop b)
 | [],l,h,i,v,hm=>by cases h;cases hm
 |i0::is,l,h,i,v,hm=>by
  unfold Dd at h;split at h
  ·rename_i n b c;split at h
   ·rename_i o d e;cases h;have m:=dc d;subst m;rcases eg.1 hm with hm|hm
    ·cases hm;exact⟨b,c,rfl⟩
    exact PV e i v hm
   cases h
  cases h
def CX{k:Type}:List k->Bool
 | []=>ab
 |_::_=>al
theorem Hp{k:Type}{l:List k}(h:CX l=ab):l=[]:=by
 cases l with
 |nil=>rfl
 |cons=>cases h
def lJ(C:dV)(h:cG)(s:S):Option (Option (dd×List dH)):=
 match h with
 | .grow i k e=>match s.t i,s.u k,dC C.cE e with
  | .t .fp,al,aa j=>aa (aa (⟨[(i,.bf k 1 j.size 0 0)],[(k,aa (.arr e 1 j.size []))],[(k,ab)]⟩,[]))
  |_,_,_=>aa ak
 | .len i n=>match s.t i with
  | .bf k gen c F len=>aa (aa (⟨[(i,.bf k gen c F n)],[],[]⟩,[.p (len=n)]))
  |_=>aa ak
 | .sM k is=>match s.H k with
  |some (.cells v)=>match k5 v,dA C.ef k with
   |some cs,ab=>match Dd k cs s is with
    |some l=>aa (aa (⟨l,[(k,ak)],[]⟩,[]))
    |none=>aa ak
   |_,_=>aa ak
  |_=>aa ak
 | .bT k is D=>match s.H k with
  |some (.arr _ gen c a)=>match dA C.ef k&& !ih k D with
   |true=>aa (aa (⟨(iz k gen c a.length (.t (.bG a)) s is).1,(k,ak)::(gJ k gen c a.length (.t (.bG a)) s D).1,[]⟩,(iz k gen c a.length (.t (.bG a)) s is).2++(gJ k gen c a.length (.t (.bG a)) s D).2))
   |false=>aa ak
  |_=>aa ak
 | .bp k r is D=>match s.H k,s.u r with
  |some (.arr e gen c a),al=>match !Nat.beq k r&&(!ih k D&& !ih r D) with
   |true=>aa (aa (⟨(iz k gen c a.length (.bf r 1 c 0 a.length) s is).1,(k,bif dA C.ef k then ak else aa (.arr e (gen+1) c []))::(r,aa (.arr e 1 c a))::(gJ k gen c a.length (.bf r 1 c 0 a.length) s D).1,[(r,ab)]⟩,
     (iz k gen c a.length (.bf r 1 c 0 a.length) s is).2++(gJ k gen c a.length (.bf r 1 c 0 a.length) s D).2))
   |false=>aa ak
  |some (.aC d m gen a []),al=>match !Nat.beq k r&&(!ih k D&& !ih r D) with
   |true=>aa (aa (⟨(iz k gen (U d m).size a.length (.bf r 1 (U d m).size 0 a.length) s is).1,(k,bif dA C.ef k then ak else aa (.aC d m (gen+1) [] []))::(r,aa (.aC d m 1 a []))::(gJ k gen (U d m).size a.length (.bf r 1 (U d m).size 0 a.length) s D).1,[(r,ab)]⟩,
     (iz k gen (U d m).size a.length (.bf r 1 (U d m).size 0 a.length) s is).2++(gJ k gen (U d m).size a.length (.bf r 1 (U d m).size 0 a.length) s D).2))
   |false=>aa ak
  |_,_=>aa ak
 | .eY b j n=>match s.H b with
  |some (.cells cs)=>match cs[j]? with
   |some (.bf k gen c F len)=>aa (aa (⟨[],[(b,aa (.cells (cs.set j (.bf k gen c F n))))],[]⟩,[.p (len=n)]))
   |_=>aa ak
  |_=>aa ak
 | .De b _ k=>match s.H b,s.H k with
  |some (.aC d m E L ((I,M,.bf r gen c F len)::B)),aa (.arr _ W Q a)=>match b8 r k&&(b8 F 0&&(dA C.ef k&& !Nat.beq b k)) with
   |true=>aa (aa (⟨[],[(k,ak),(b,aa (.aC d m E L ((I,M,.t (.bG a))::B)))],[]⟩,[.q gen W,.q c Q,.q len a.length]))
   |false=>aa ak
  |_,_=>aa ak
 | .ch b j k e=>match s.H b,s.u k,dC C.cE e with
  |some (.cells cs),al,aa i=>match cs[j]? with
   |some (.t .fp)=>aa (aa (⟨[],[(k,aa (.arr e 1 i.size [])),(b,aa (.cells (cs.set j (.bf k 1 i.size 0 0))))],[(k,ab)]⟩,[]))
   |_=>aa ak
  |_,_,_=>aa ak
 | .b1 k d m=>match s.H k with
  |some (.arr ty gen c a)=>match CX (U d m).aZ||CX a with
   |true=>aa (aa (⟨[],[(k,aa (.aC d m gen a []))],[]⟩,[.q (U d m).ty ty,.q (U d m).size c]))
   |false=>aa ak
  |some (.aC G f gen a B)=>match dA C.ef k&&CX (U d m).aZ with
   |true=>aa (aa (⟨[],[(k,aa (.aC d m gen a B))],[]⟩,[.q (U d m).ty (U G f).ty,.q (U d m).size (U G f).size]))
   |false=>aa ak
  |_=>aa ak
 | .ec k=>match s.H k with
  |some (.aC d m gen a [])=>match dA C.ef k with
   |true=>aa (aa (⟨[],[(k,aa (.arr (U d m).ty gen (U d m).size a))],[]⟩,[]))
   |false=>aa ak
  |_=>aa ak
 | .cZ k r i j w=>match s.H k,s.u r with
  |some (.aC d m gen a B),al=>match (U d m).eb j,w[j]? with
   |some X,aa (.bG A)=>aa (aa (⟨[],[(k,aa (.aC d m gen a ((i,j,.bf r 1 (U d X).size 0 A.length)::B))),(r,aa (.aC d X 1 A []))],[(r,ab)]⟩,.p (a[i]? =aa w)::qB i j B))
   |_,_=>aa ak
  |_,_=>aa ak
 | .eT k i j w=>match s.H k with
  |some (.aC d m gen a B)=>match (U d m).eb j,w[j]? with
   |none,aa x=>aa (aa (⟨[],[(k,aa (.aC d m gen a ((i,j,.t x)::B)))],[]⟩,.p (a[i]? =aa w)::qB i j B))
   |_,_=>aa ak
  |_=>aa ak
 | .fG k w R=>match s.H k with
  |some (.aC d m gen a ((i,j,.t x)::B))=>match (U d m).eb j,dn j (U d m).size&&uE j B with
   |none,ab=>aa (aa (⟨[],[(k,aa (.aC d m gen R B))],[]⟩,[.p (a[i]? =aa w),.p (a.set i (w.set j x)=R)]))
   |some _,ab=>match x with
    | .fp=>aa (aa (⟨[],[(k,aa (.aC d m gen R B))],[]⟩,[.p (a[i]? =aa w),.p (a.set i (w.set j (.bG []))=R)]))
    |_=>aa ak
   |_,_=>aa ak
  |_=>aa ak
 | .Rc i j k e=>match s.t i,s.u k,dC C.cE e with
  | .agg cs,al,aa y=>match cs[j]? with
   |some (.t .fp)=>aa (aa (⟨[(i,.agg (cs.set j (.bf k 1 y.size 0 0)))],[(k,aa (.arr e 1 y.size []))],[(k,ab)]⟩,[]))
   |_=>aa ak
  |_,_,_=>aa ak
 | .cr k r w R=>match s.H k,s.H r with
  |some (.aC d m gen a ((i,j,.bf cO g z o n)::B)),aa (.aC G X N A [])=>match (U d m).eb j,b8 cO r&&(!Nat.beq k r&&(dA C.ef r&&(b8 o 0&&dn j (U d m).size))) with
   |some P,ab=>aa (aa (⟨[],[(r,ak),(k,aa (.aC d m gen R B))],[]⟩,.q g N:: .q z (U d X).size:: .p (n=A.length):: .q P X:: .p (G=d):: .p (a[i]? =aa w):: .p (a.set i (w.set j (.bG A))=R)::qB i j B))
   |_,_=>aa ak
  |_,_=>aa ak
 | .cut k n R=>match s.H k with
  |some (.arr e gen c a)=>aa (aa (⟨[],[(k,aa (.arr e gen c R))],[]⟩,[.p (R=a.take n)]))
  |_=>aa ak
 |_=>ak
def qv(C:dV)(a:Nat):List cG->S->Option (dd×List dH×List cG)
 | [],_=>aa (.nil,[],[])
 | .at m::b,s=>match b8 m a with
  |true=>qv C a b s
  |false=>aa (.nil,[],.at m::b)
 |h::b,s=>match lJ C h s with
  |none=>aa (.nil,[],h::b)
  |some ak=>ak
  |some (aa (e,i))=>match qv C a b (e.app s) with
   |some (k,c,d)=>aa (e.cat k,i++c,d)
   |none=>ak
section
variable {K:Ctx}{C:dV}
theorem acN{K:Ctx}(k n:Nat){e:TypeId}{c:List (List T)}(p:s.H k=aa (.arr e gen L c)):s.le K {s with H:=bb s.H k (aa (.arr e gen L (c.take n)))}:=by
 intro q a w h;refine⟨q,h.Su k p λX d=>⟨d.1,?_⟩⟩;rcases d.2 with ⟨m,o⟩|⟨b,r,m,o,y,z,B⟩
 ·exact .inl ⟨m,by rw[o];simp⟩
 refine .inr ⟨b,r,m,o,eO (dQ _ (List.length_take_le' _ _)) y,λl A=>z l (gn A),λi j l x u aP a2 a3=>?_⟩
 grind
theorem Hn(y:C.Fits K){h:cG}{e:dd}{m:List dH}(b:lJ C h s=aa (aa (e,m)))(i:cH m):s.le K (e.app s):=by
 unfold lJ at b;split at b
 ·split at b
  ·rename_i z n o;cases b;exact acO _ _ _ n z
  cases b
 ·split at b
  ·rename_i z;cases b;obtain⟨rfl,_⟩:=i;intro G a w H;refine⟨G,?_⟩;unfold dd.app;simp only[dx];rw[<-z,NT];exact H
  cases b
 ·split at b
  ·rename_i P k;split at b
   ·rename_i cs L d;split at b
    ·rename_i l X;cases b;have r:=k;rw[oX L] at r;refine Xn _ _ (by rw[<-y.ef];exact d) r λj=>?_;rcases nB l s.t j with ⟨_,p⟩|⟨v,q,p⟩
     ·exact .inl p
     obtain⟨Q,f,g⟩:=PV X j v q;exact .inr ⟨Q,f,by rw[<-g];exact p⟩
    cases b
   cases b
  cases b
 ·split at b
  ·rename_i k;split at b
   ·rename_i d;cases b;simp only[cB] at d;obtain⟨A,B⟩:=cH.app i;exact afx (by rw[<-y.ef];exact d.1) k (xC d.2) A B
   cases b
  cases b
 ·split at b
  ·rename_i k n;split at b
   ·rename_i d;cases b;simp only[cB] at d;obtain⟨A,B⟩:=cH.app i;exact Qt (λu R=> .inl ⟨_,_,Qj R⟩) (Pq d.1) k rfl n (xC d.2.1) (xC d.2.2) A B
   cases b
  ·rename_i k n;split at b
   ·rename_i d;cases b;simp only[cB] at d;obtain⟨A,B⟩:=cH.app i;exact Qt (λu R=> .inr ⟨_,_,Qj R⟩) (Pq d.1) k rfl n (xC d.2.1) (xC d.2.2) A B
   cases b
  cases b
 ·split at b
  ·rename_i d;split at b
   ·rename_i o;cases b;obtain⟨rfl,_⟩:=i;intro G a w H;refine⟨G,?_⟩;have F:=d0.1 o;have E: ∀{cs:List V} {j:Nat} {c:V},cs[j]? =aa c->cs.set j c=cs:=by
     intro cs j c h;obtain⟨q,p⟩:=d0.1 h;rw[<-p,List.set_getElem_self]
    unfold dd.app;simp only[dx];rw[E o,<-d,NT];exact H
   cases b
  cases b
 ·split at b
  ·rename_i d k;split at b
   ·rename_i D;cases b;simp only[cB,Bool.not_eq_true'] at D;obtain⟨rfl,rfl,rfl,_⟩:=i;have W:=dc D.1;have F:=dc D.2.1;subst W;subst F;exact Xo _ _ _ _ _ _ (by rw[<-y.ef];exact D.2.2.1) (Nat.ne_of_beq_eq_false D.2.2.2) d k
   cases b
  cases b
 ·split at b
  ·rename_i d n z;split at b
   ·rename_i o;cases b;exact aaV _ _ _ _ n d o
   cases b
  cases b
 ·split at b
  ·rename_i k;split at b
   ·rename_i d;cases b;obtain⟨q,p,_⟩:=i;refine GJ _ _ _ k q p ?_;rcases Bool.or_eq_true_iff.1 d with h|h
    ·exact .inr (Hp h)
    exact .inl (Hp h)
   cases b
  ·rename_i k;split at b
   ·rename_i d;cases b;obtain⟨q,p,_⟩:=i;simp only[cB] at d;exact aaT _ _ _ k (by rw[<-y.ef];exact d.1) q p (Hp d.2)
   cases b
  cases b
 ·split at b
  ·rename_i k;split at b
   ·rename_i d;cases b;exact aaS _ k (by rw[<-y.ef];exact d)
   cases b
  cases b
 ·split at b
  ·rename_i k n;split at b
   ·rename_i x o;cases b;exact aag _ _ _ _ _ k n i.1 o x (uC i.2)
   cases b
  cases b
 ·split at b
  ·rename_i k;split at b
   ·rename_i x o;cases b;exact aaU _ _ _ k i.1 o x (uC i.2)
   cases b
  cases b
 ·split at b
  ·rename_i k;split at b
   ·rename_i x d;cases b;simp only[cB] at d;obtain⟨q,rfl,_⟩:=i;exact Ya _ _ _ k q d.1 x d.2
   ·rename_i x d;split at b
    ·cases b;simp only[cB] at d;obtain⟨q,rfl,_⟩:=i;exact aae _ _ _ _ k q d.1 x d.2
    cases b
   cases b
  cases b
 ·split at b
  ·rename_i z n T;split at b
   ·rename_i o;cases b;exact aaW _ _ _ _ n z o
   cases b
  cases b
 ·split at b
  ·rename_i k r;split at b
   ·rename_i x d;cases b;simp only[cB,Bool.not_eq_true'] at d;obtain⟨rfl,p,I,rfl,rfl,M,rfl,N⟩:=i;have W:=dc d.1;have F:=dc d.2.2.2.1;subst W;subst F;exact Xm _ _ _ _ _ _ _ _ k r p I (Nat.ne_of_beq_eq_false d.2.1) (by rw[<-y.ef];exact d.2.2.1) M x d.2.2.2.2 (uC N)
   cases b
  cases b
 ·split at b
  ·rename_i k;cases b;obtain⟨rfl,_⟩:=i;exact acN _ _ k
  cases b
 cases b
theorem ru(l:C.Fits K){i:Nat}: ∀{m:List cG} {s:S} {e:dd} {k:List dH} {b:List cG},qv C i m s=aa (e,k,b)->cH k->s.le K (e.app s)
 | [],s,e,k,b,h,_=>by cases h;exact S.le.refl _ _
 |h::m,s,e,k,b,a,d=>by
  unfold qv at a;split at a
  ·cases a;exact S.le.refl _ _
  ·split at a
   ·rename_i c _ _;cases c;exact ru l a d
   cases a;exact S.le.refl _ _
  rename_i c;cases c;split at a
  ·cases a;exact S.le.refl _ _
  ·cases a
  rename_i y n o;split at a
  ·rename_i z p q r;cases a;obtain⟨w,x⟩:=cH.app d;rw[oE];exact(Hn l o w).trans (ru l r x)
  cases a
def iM(C:dV)(a:Array Oper):List Oper->List cG->S->Option (dd×List dH)
 | [],b,s=>match qv C 0 b s with
  |some (e,p,[])=>aa (e,p)
  |_=>ak
 |o::l,b,s=>match qv C (l.length+1) b s with
  |none=>ak
  |some (c,d,h)=>match sH C a o h (c.app s) with
   |none=>ak
   |some (n,i,k)=>match iM C a l k (n.app (c.app s)) with
    |none=>ak
    |some (q,m)=>aa (c.cat (n.cat q),d++(i++m))
theorem Qn(c:C.Fits K){b:Array Oper}{Q:S->Prop}: ∀{l:List Oper} {k:List cG} {s:S} {e:dd} {d:List dH},iM C b l k s=aa (e,d)->cH d->qy K b [] (e.app s) Q->qy K b l s Q
 | [],k,s,e,d,h,a,i=>by
  simp only[iM] at h;split at h
  ·rename_i G n p;cases h;exact LU (ru c p a) i
  cases h
 |o::l,k,s,e,d,h,a,i=>by
  simp only[iM] at h;split at h
  ·cases h
  rename_i H q r w;split at h
  ·cases h
  rename_i L x y z;split at h
  ·cases h
  rename_i R A B;cases h;obtain⟨D,m⟩:=cH.app a;obtain⟨m,F⟩:=cH.app m;rw[oE,oE] at i;exact LU (ru c w D) (aeR (Qo c z m) (Qn c B F i))
abbrev r2:=Prop×List Nat×List (Nat×Bool)×Bool×List V×List (Option E)
def vh:r2:=(False,[],[],al,[],[])
def vi:r2:=(True,[],[],ab,[],[])
def vj(s:S)(b:List Nat)(c:List (Nat×V))(a:List (Nat×Option E))(r:dd×List dH):r2:=
 (zc r.2,wy r.2,r.1.us,r0 b r.1.ts&&r0 (yf a) r.1.hs,uW (r.1.app s) c,u3 (r.1.app s) a)
def vk(a:Prop)(b:List (Nat×V))(c:List (Nat×Option E))(d:List (Nat×Bool))(r:dd×List dH):r2:=
 (a,wz r.2,d,ab,kB b,kB c)
def mo(x:Option (dd×List dH))(n:r2)(f:dd×List dH->r2):r2:=match x with
 |some r=>f r
 |none=>n
theorem QM{x:Option (dd×List dH)}{L:List Nat}{a:List (Nat×V)}{P:Prop}(i:P)
  (h:mo x vh (vj s L a b)=mo x vi (vk P a b d)): ∃e c,x=aa (e,c)/\cH c/\(e.app s).le K (s.cl L a b d):=by
 cases x with
 |none=>simp[mo,vh,vi] at h
 |some r=>
  obtain⟨e,c⟩:=r;simp only[mo,vj,vk,Prod.mk.injEq,cB] at h;obtain⟨k,l,m,⟨n,o⟩,p,q⟩:=h;exact⟨e,c,rfl,cH.of (k▸i) l,Ut m n o p q⟩
def tmps:List Operand->List Nat
 | []=>[]
 | .tmp t::a=>t::tmps a
 |_::a=>tmps a
def QG(a:Array Oper)(o:Oper):List Nat:=match o.guard with
 |none=>[]
 |some (j,_)=>match (a[j]?).bind (·.dst) with
  |some t=>[t]
  |none=>[]
def CO(o:Oper)(a:List cG):List cG:=match o.guard with
 |none=>a
 |some _=>a.tail
def Cu(a:Array Oper)(o:Oper)(b:List cG)(s:S):gR:=⟨QG a o++tmps o.op.operands.toList,vR o (o.op.operands.toList.map s.get) (CO o b)⟩
theorem GS{s a:S}: ∀{b:List Operand},(∀i,i∈tmps b->s.t i=a.t i)->b.map s.get=b.map a.get
 | [],_=>rfl
 | .tmp t::b,h=>by
  simp only[hg,List.cons.injEq];exact⟨h t fi,GS λi c=>h i (eW _ c)⟩
 | .const _::b,h| .global _::b,h| .func _::b,h=>by simp only[hg,List.cons.injEq];exact⟨rfl,GS h⟩
theorem YM{H a:Nat->Option E}(h: ∀k,k∈r->H k=a k):vb r H=vb r a:=by
 funext k;unfold vb;cases b:ih k r with
 |true=>exact h k (BO b)
 |false=>rfl
theorem Y9{u a:Nat->Bool}(h: ∀k,k∈r->u k=a k):va r u=va r a:=by
 funext k;unfold va;cases b:ih k r with
 |true=>exact h k (BO b)
 |false=>rfl
theorem acH{Y:List V}{hs:List cG}(h: ∀k,k∈vR o Y hs->s.H k=a.H k/\s.u k=a.u k):qM C o Y s hs=qM C o Y a hs:=by unfold qM;rw[YM λk b=>(h k b).1,Y9 λk b=>(h k b).2]
theorem acX{b:Array Oper}{l:List cG}(h:(Cu b o l s).same a s):sH C b o l a=sH C b o l s:=by
 obtain⟨n,w⟩:=h;have y:o.op.operands.toList.map a.get=o.op.operands.toList.map s.get:=GS λi z=>n i (eX.2 (.inr z));have q: ∀c,(∀k,k∈vR o (o.op.operands.toList.map s.get) c->k∈vR o (o.op.operands.toList.map s.get) (CO o l))->qM C o (o.op.operands.toList.map s.get) a c=qM C o (o.op.operands.toList.map s.get) s c:=λc A=>
  acH λk d=>w k (A k d)
 unfold sH;rw[y];cases e:o.guard with
 |none=>exact q l (λk d=>by simp only[CO,e];exact d)
 |some p=>
  obtain⟨j,r⟩:=p;have m:vq b j a=vq b j s:=by
   unfold vq;cases B:(b[j]?).bind (·.dst) with
   |none=>rfl
   |some t=>
    have:=n t (eX.2 (.inl (by unfold QG;rw[e];simp only[B];exact p8.2 rfl)));simp only[this]
  simp only[m];cases l with
  |nil=>rfl
  |cons x l=>
   have:=q l λk d=>by simp only[CO,e,List.tail];exact d
   cases x<;>first|rfl|(dsimp only;rw[this])
def qH(C:dV)(a:Nat):List cG->S->Option (dd×List dH×List cG×gR)
 | .at m::hs,s=>match b8 m a with
  |true=>qH C a hs s
  |false=>aa (.nil,[],.at m::hs,⟨[],[]⟩)
 | .bT k is i::hs,s=>match lJ C (.bT k is i) s with
  |some (aa (e,d))=>match qH C a hs (e.app s) with
   |some (h,b,c,eE)=>aa (e.cat h,d++b,c,⟨is++eE.ts,k::(i++eE.pL)⟩)
   |none=>ak
  |_=>ak
 | .ec k::hs,s=>match lJ C (.ec k) s with
  |some (aa (e,d))=>match qH C a hs (e.app s) with
   |some (h,b,c,eE)=>aa (e.cat h,d++b,c,⟨eE.ts,k::eE.pL⟩)
   |none=>ak
  |_=>ak
 |hs,_=>aa (.nil,[],hs,⟨[],[]⟩)
theorem Y8{C:dV}(b:a.H k=s.H k):lJ C (.ec k) a=lJ C (.ec k) s:=by
 unfold lJ
 grind
theorem Ol{k g z n:Nat}{v:V}{s a:S}: ∀{is:List Nat},(∀i,i∈is->a.t i=s.t i)->iz k g z n v a is=iz k g z n v s is
 | [],_=>rfl
 |i::is,h=>by simp only[iz,h i List.mem_cons_self,Ol λx b=>h x (List.mem_cons_of_mem _ b)]
theorem Om{k g z n:Nat}{v:V}{s a:S}: ∀{c:List Nat},(∀b,b∈c->a.H b=s.H b)->gJ k g z n v a c=gJ k g z n v s c
 | [],_=>rfl
 |b::c,h=>by unfold gJ;rw[h b fi,Om λx d=>h x (eW _ d)]
theorem Y7{L:List Nat}(c: ∀i,i∈r->a.t i=s.t i)(d:a.H k=s.H k)(e: ∀b,b∈L->a.H b=s.H b):lJ C (.bT k r L) a=lJ C (.bT k r L) s:=by
 unfold lJ;dsimp only;rw[d];split
 ·rw[Ol c,Om e]
 rfl
theorem Hu{k:Type}{f g:Nat->k}{r:Nat}(h:f r=g r): ∀(l:List (Nat×k)),dx f l r=dx g l r:=by
 intro l;induction l generalizing f g with
 |nil=>exact h
 |cons p l b=>
  obtain⟨d,v⟩:=p;simp only[dx];apply b;by_cases a:r=d
  ·subst a;rw[cy,cy]
  rw[cu _ _ _ _ a,cu _ _ _ _ a];exact h
theorem KP{r:gR}(e:dd)(h:r.same a s):r.same (e.app a) (e.app s):=
 ⟨λi c=>Hu (h.1 i c) _,λk b=>⟨Hu (h.2 k b).1 _,Hu (h.2 k b).2 _⟩⟩
theorem Cg(w:C.Fits K){n:Nat}: ∀{x:List cG} {s:S} {e:dd} {d:List dH} {a:List cG} {eE:gR},qH C n x s=aa (e,d,a,eE)->cH d-> ∀c,eE.same c s->c.le K (e.app c)
 | .at m::x,s,e,d,a,eE,h,o,c,l=>by
  unfold qH at h;split at h
  ·exact Cg w h o c l
  cases h;exact S.le.refl _ _
 | .bT k is R::x,s,e,d,a,eE,h,o,c,l=>by
  unfold qH at h;split at h
  ·rename_i p r z;split at h
   ·rename_i W A B D F;cases h;obtain⟨G,H⟩:=cH.app o;have q:lJ C (.bT k is R) c=aa (aa (p,r)):=(Y7 (λi L=>l.1 i (nW _ L)) (l.2 k fi).1 λb X=>(l.2 b (eW _ (nW _ X))).1).trans z;rw[oE];exact(Hn w q G).trans (Cg w F H (p.app c) (KP p ⟨λi L=>l.1 i (o3 _ L),λk Q=>l.2 k (eW _ (o3 _ Q))⟩))
   cases h
  cases h
 | .ec k::x,s,e,d,a,eE,h,o,c,l=>by
  unfold qH at h;split at h
  ·rename_i p r z;split at h
   ·rename_i W A B D F;cases h;obtain⟨G,H⟩:=cH.app o;have q:lJ C (.ec k) c=aa (aa (p,r)):=(Y8 (l.2 k fi).1).trans z;rw[oE];exact(Hn w q G).trans (Cg w F H (p.app c) (KP p ⟨l.1,λk Q=>l.2 k (eW _ Q)⟩))
   cases h
  cases h
 | [],s,e,d,a,eE,h,_,c,_=>by cases h;exact S.le.refl _ _
 | .b1 _ _ _::_,s,e,d,a,eE,h,_,c,_| .cZ _ _ _ _ _::_,s,e,d,a,eE,h,_,c,_| .cr _ _ _ _::_,s,e,d,a,eE,h,_,c,_| .lt _ _ _::_,s,e,d,a,eE,h,_,c,_| .eT _ _ _ _::_,s,e,d,a,eE,h,_,c,_| .fG _ _ _::_,s,e,d,a,eE,h,_,c,_| .Rc _ _ _ _::_,s,e,d,a,eE,h,_,c,_| .cut _ _ _::_,s,e,d,a,eE,h,_,c,_
 | .row _::_,s,e,d,a,eE,h,_,c,_| .rows _::_,s,e,d,a,eE,h,_,c,_| .str _::_,s,e,d,a,eE,h,_,c,_| .int _::_,s,e,d,a,eE,h,_,c,_| .nat _::_,s,e,d,a,eE,h,_,c,_
 | .b _::_,s,e,d,a,eE,h,_,c,_| .y _::_,s,e,d,a,eE,h,_,c,_| .v _::_,s,e,d,a,eE,h,_,c,_| .grow _ _ _::_,s,e,d,a,eE,h,_,c,_
 | .De _ _ _::_,s,e,d,a,eE,h,_,c,_| .ch _ _ _ _::_,s,e,d,a,eE,h,_,c,_
 | .len _ _::_,s,e,d,a,eE,h,_,c,_| .eY _ _ _::_,s,e,d,a,eE,h,_,c,_| .sM _ _::_,s,e,d,a,eE,h,_,c,_| .bp _ _ _ _::_,s,e,d,a,eE,h,_,c,_| .dB _ _ _ _::_,s,e,d,a,eE,h,_,c,_=>by cases h;exact S.le.refl _ _
theorem iq.pre{ops:Array Oper}{b:S}(i:s.le K b)(h:iq K ops o b c):iq K ops o s c:=by
 intro k a w next Q l m
 obtain⟨d,e⟩:=i k a w l;exact h d a w next Q e m
def yt(C:dV)(a:Array Oper):List Oper->List cG->S->Option (List (dd×gR)×List dH)
 | [],d,_=>match d with
  | []=>aa ([],[])
  |_=>ak
 |o::l,d,s=>match qH C (l.length+1) d s with
  |none=>ak
  |some (c,h,b,eE)=>match sH C a o b (c.app s) with
   |none=>ak
   |some (e,m,i)=>match yt C a l i (e.app (c.app s)) with
    |none=>ak
    |some (n,k)=>aa ((c.cat e,⟨eE.ts++(Cu a o b (c.app s)).ts,eE.pL++(Cu a o b (c.app s)).pL⟩)::n,h++(m++k))
def CV:List (dd×gR)->dd
 | []=> .nil
 |(e,_)::a=>e.cat (CV a)
theorem H5(p:C.Fits K){b:Array Oper}{Q:S->Prop}: ∀{l:List Oper} {q:List cG} {s:S} {c:List (dd×gR)} {d:List dH},yt C b l q s=aa (c,d)->cH d->Q ((CV c).app s)->xl K b l c s Q
 | [],q,s,c,d,h,_,m=>by
  simp only[yt] at h;split at h
  ·cases h;exact m
  cases h
 |o::l,q,s,c,d,h,r,m=>by
  simp only[yt] at h;split at h
  ·cases h
  rename_i n D w eE F;split at h
  ·cases h
  rename_i e G H L;split at h
  ·cases h
  rename_i R W X;cases h;obtain⟨f,x⟩:=cH.app r;obtain⟨x,g⟩:=cH.app x;simp only[CV,oE] at m;refine⟨λB a=>?_,by rw[oE];exact H5 p X g m⟩;rw[oE];refine iq.pre (Cg p F f B ⟨λi y=>a.1 i (nW _ y),λk z=>a.2 k (nW _ z)⟩) ?_;have A:(Cu b o w (n.app s)).same (n.app B) (n.app s):=KP n ⟨λi y=>a.1 i (o3 _ y),λk z=>a.2 k (o3 _ z)⟩;exact Qo p ((acX A).trans L) x
def lN(C:dV)(l:List Oper)(e:List cG)(s:S):Option (dd×List dH):=
 match qv C l.length e s with
 |none=>ak
 |some (c,a,b)=>match yt C l.toArray l b (c.app s) with
  |none=>ak
  |some (d,h)=>match mS l.toArray l.length 0 d&&r3 0 l with
   |true=>aa (c.cat (CV d),a++h)
   |false=>ak
theorem PS{c:Code}{s2:S}(h:cY K c s λe i=>match e with| .normal=>i.le K s2|_=>False)(m:Q .normal s2):cY K c s Q:=by
 intro n a w o p x;refine h n a w o p ?_;intro e i b k l q r;cases e with
 |normal=>obtain⟨d,y⟩:=q b k l r;exact x _ _ d k l m y
 |exit=>exact q.elim
 |goto=>exact q.elim
 |ret=>exact q.elim
 |panic=>exact q.elim
 |outgrown=>exact q.elim
theorem rd{l:List Oper}(o:C.Fits K)(w:K.P.follows .mixedOrders=ab)(q:List cG)(d:List Nat)(b:List (Nat×V))(c:List (Nat×Option E))(k:List (Nat×Bool)){p:Prop}(m:p)
  (h:mo (lN C l q s) vh (vj s d b c)=mo (lN C l q s) vi (vk p b c k)) (x:Q .normal (s.cl d b c k)):cY K (.region i l.toArray ab) s Q:=by
 obtain⟨e,R,a,y,r⟩:=QM (K:=K) m h;unfold lN at a;split at a
 ·cases a
 rename_i W z A B;split at a
 ·cases a
 rename_i D F G;split at a
 ·rename_i n;cases a;simp only[cB] at n;obtain⟨H,L⟩:=cH.app y;refine wD (ru o B H) (PS (s2:=s.cl d b c k) (NS D w n.1 n.2 (H5 o G L ?_)) x);rw[oE] at r;exact r
 cases a
def oe:List (Nat×E)->List (Nat×Option E)
 | []=>[]
 |(k,e)::l=>(k,aa e)::oe l
def pg:List Nat->List (Nat×Bool)
 | []=>[]
 |k::l=>(k,ab)::pg l
def bx(a:List (Nat×V))(b:List (Nat×E))(c:List Nat):S:={t:=dx pW a,H:=dx mY (oe b),u:=dx gG (pg c)}
def CS(u:Nat->Bool):List (Nat×V)->Bool
 | []=>ab
 |(_,v)::l=>v.ok u&&CS u l
def C2(u:Nat->Bool):List (Nat×E)->Bool
 | []=>ab
 |(k,e)::l=>u k&&(e.ok u&&C2 u l)
def CT(u:Nat->Bool):List Nat->Bool
 | []=>ab
 |k::l=>u k&&CT u l
theorem OX{u:Nat->Bool}: ∀{l:List (Nat×V)},CS u l=ab-> ∀i v,(i,v)∈l->v.ok u=ab
 |(a,b)::l,h,i,v,hm=>by
  simp only[CS,cB] at h;rcases eg.1 hm with hm|hm
  ·cases hm;exact h.1
  exact OX h.2 i v hm
theorem PF{u:Nat->Bool}: ∀{l:List (Nat×E)},C2 u l=ab-> ∀k e,(k,aa e)∈oe l->u k=ab/\e.ok u=ab
 |(a,b)::l,h,i,v,hm=>by
  simp only[C2,cB] at h;simp only[oe] at hm;rcases eg.1 hm with hm|hm
  ·cases hm;exact⟨h.1,h.2.1⟩
  exact PF h.2.2 i v hm
theorem OW{u:Nat->Bool}: ∀{l:List Nat},CT u l=ab-> ∀k b,(k,b)∈pg l->u k=ab
 |lg::l,h,k,b,hm=>by
  simp only[CT,cB] at h;simp only[pg] at hm;rcases eg.1 hm with hm|hm
  ·cases hm;exact h.1
  exact OW h.2 k b hm
def CZ(d:Nat)(s:S)(b:List (Nat×V))(c:List (Nat×E))(a:List Nat):List V×List (Option E)×Bool:=
 (uW s b,u3 s (oe c),CS (dx gG (pg a)) b&&(C2 (dx gG (pg a)) c&&(CT s.u a&&mR d (dx gG (pg a)))))
theorem J8{ts:List (Nat×V)}{hl:List (Nat×E)}(h:CZ K.ef s ts hl r=(kB ts,kB (oe hl),ab)):s.le K (bx ts hl r):=by
 simp only[CZ,Prod.mk.injEq,cB] at h;obtain⟨c,d,l,m,n,o⟩:=h;refine aec (s':=bx ts hl r) ?_ ?_ ?_ o
 ·intro i;show dx pW ts i= .c'\/(dI _ (dx pW ts i)/\(dx pW ts i).ok _=ab)
  rcases nB ts pW i with ⟨aP,a2⟩|⟨v,aP,a2⟩
  ·exact .inl a2
  rw[a2];exact .inr ⟨GR c i v aP,OX l i v aP⟩
 ·intro k e a;have a:dx mY (oe hl) k=aa e:=a;rcases nB (oe hl) mY k with ⟨aP,a2⟩|⟨v,aP,a2⟩
  ·rw[a2] at a;cases a
  rw[a2] at a;subst a;obtain⟨p,q⟩:=PF m k e aP;exact⟨G5 d k e aP,p,q⟩
 intro k b;have b:dx gG (pg r) k=ab:=b;rcases nB (pg r) gG k with ⟨aP,a2⟩|⟨v,aP,a2⟩
 ·rw[a2] at b;cases b
 exact OW n k v aP
theorem adH{ι:Type}{x y:Code}(I:ι->S)(p:ι->Prop)(a:cY K x s (qF (λb=> ∃i,p i/\b.le K (I i)) Q))(c: ∀i,p i->cY K y (I i) Q):cY K (.seq x y) s Q:=by
 refine B4 (xr a λe k q=>?_);cases e with
 |normal=>obtain⟨i,d,h⟩:=q;exact wD h (c i d)
 |exit=>exact q
 |goto=>exact q
 |ret=>exact q
 |panic=>exact q
 |outgrown=>exact q
theorem Uo{r:V}(h:lH r v=r):dI v r:=h▸Hj r v
def uT(s:S):List E->Nat->List (Option E)
 | [],_=>[]
 |e::l,k=>CU (aa e) (s.H k)::uT s l (k+1)
def uB:List E->List (Option E)
 | []=>[]
 |e::l=>aa e::uB l
def u'(u:Nat->Bool):List E->Bool
 | []=>ab
 |e::l=>e.ok u&&u' u l
theorem NK{s:S}: ∀{l:List E} {k:Nat},uT s l k=uB l-> ∀i e,l[i]? =aa e-> ∃a,s.H (k+i)=aa a/\jR a e
 |a::l,k,h,0,e,b=>by
  simp only[uT,uB,List.cons.injEq] at h;simp at b;subst b;exact PI h.1
 |a::l,k,h,i+1,e,b=>by
  simp only[uT,uB,List.cons.injEq] at h
  have:=NK h.2 i e (by simpa using b)
  rwa [show k+1+i=k+(i+1) by omega] at this
theorem N2{u:Nat->Bool}: ∀{l:List E},u' u l=ab-> ∀(i:Nat) e,l[i]? =aa e->e.ok u=ab
 |b::l,h,0,e,a=>by simp only[u',cB] at h;simp at a;subst a;exact h.1
 |b::l,h,i+1,e,a=>by simp only[u',cB] at h;exact N2 h.2 i e (by simpa using a)
end
end
def bz{k R:Type}(a:(k->Option R)->k->Option R):Nat->k->Option R
 |0,_=>ak
 |m+1,x=>a (bz a m) x
def aS{k R:Type}(j:k->Option R)(t:(k->Option R)->Option R):Option R:=t j
variable {k R γ:Type}{a r l:List k}{o A B:Option R}{f:FuncId}{c:Code}{b:ResultVar}{s:S}{Q:Exit->S->Prop}{j i:Int}{x y ph:k}{d:Func}{p:Prop}{q:List T}{w:World}{v:V}{u z:Value}{args:List V}
theorem nu{a:k->Option R}{t:(k->Option R)->Option R}{r:R}(h:aS a t=aa r): ∃j,j=a/\t j=aa r:=⟨a,rfl,h⟩
theorem c9{o:Option k}{f:k->Option R}{r:R}(h:o.bind f=aa r): ∃x,o=aa x/\f x=aa r:=by
 cases o with
 |none=>cases h
 |some x=>exact⟨x,rfl,h⟩
theorem gS{c:Bool}{r:R}(a:c=ab)(h:(bif c then A else B)=aa r):A=aa r:=by subst a;exact h
theorem gA{c:Bool}{r:R}(a:c=al)(h:(bif c then A else B)=aa r):B=aa r:=by subst a;exact h
theorem av{a b:R}(h:aa a=aa b):a=b:=Option.some.inj h
section
variable {K:Ctx}{C:dV}
theorem Cy{a:(k->Option R)->k->Option R}{n:Nat}{b:k}{r:R}(h:bz a n b=aa r)(I:k->γ->S)(o:γ)(z:s.le K (I b o))
  (i: ∀(d:k->Option R) (x:k) (g:γ),a d x=aa r->cY K c (I x g) (CK (λp=> ∃y l,d y=aa r/\p.le K (I y l)) Q)):cY K (.loop c) s Q:=by
 refine abQ (ι:=(Nat×k)×γ) (λy=>I y.1.2 y.2) (λy=>bz a y.1.1 y.1.2=aa r) (λy=>y.1.1) ((n,b),o) h z ?_;rintro⟨⟨m,x⟩,g⟩ w;cases m with
 |zero=>cases w
 |succ m=>
  refine xr (i (bz a m) x g w) λe p q=>?_;cases e with
  |normal=>obtain⟨y,l,A,B⟩:=q;exact⟨((m,y),l),A,nh m,B⟩
  |exit=>exact q
  |goto=>exact q
  |ret=>exact q
  |panic=>exact q
  |outgrown=>exact q
theorem mV{j:k->Option R}{r:R}{x y:Code}(I:k->γ->S)
  (a:cY K x s (qF (λc=> ∃z g,j z=aa r/\c.le K (I z g)) Q)) (b: ∀z g,j z=aa r->cY K y (I z g) Q):cY K (.seq x y) s Q:=
 adH (ι:=k×γ) (λi=>I i.1 i.2) (λi=>j i.1=aa r) (xr a (λe h q=>by
  cases e with
  |normal=>obtain⟨z,g,a,b⟩:=q;exact⟨(z,g),a,b⟩
  |exit=>exact q
  |goto=>exact q
  |ret=>exact q
  |panic=>exact q
  |outgrown=>exact q)) λi d=>b i.1 i.2 d
theorem afz{P:Program}{G:fh}{a:List (Nat×ct)}(c:ed P a)(b:Nat)(w:World)(X:Nat->Prop):dV.Fits ⟨P,G,a,b,0,fE⟩ (Ctx.pure P G w X b):=⟨c,rfl,rfl,rfl,rfl,rfl⟩
theorem afy{P:Program}{G:fh}{a:List (Nat×ct)}(e:ed P a)(c d:Nat)(w:World)(X:Nat->Prop)(b:Map):dV.Fits ⟨P,G,a,c,d,b⟩ (Ctx.dB P G w X d b c):=⟨e,rfl,rfl,rfl,rfl,rfl⟩
theorem OK{P:Program}(a:P.funcs[f]? =aa d)(b:(d.name== "runtime.NumGoroutine")=al)(e:d.body=aa c):jh P f:=⟨d,a,b,by rw[e];rfl⟩
variable {P:Program}{G:fh}{cE:List (Nat×ct)}
end
abbrev ai:Int->List T:=kf
abbrev bO:Bool->List T:=ad9
abbrev bj{k:Type}(r:k->List T)(l:List k):List T:=[T.bG (l.map r)]
abbrev aI{k:Type}(r:k->List T)(l:List k):V:= .t (.bG (l.map r))
abbrev aK{k:Type}(e g a:Nat)(r:k->List T)(l:List k):E:= .arr e g a (l.map r)
abbrev ms{R:Type}(k g a:Nat)(r:R->List T)(l:List R):V:= .bf k g a 0 (l.map r).length
theorem QY(r:k->List T)(l:List k):(l.map r).length=l.length:=dF ..
theorem kT(k:Nat){r:R->List T}(h: ∀x,(r x).length=k)(l:List R):Rows k (l.map r):=Rows.map l h
theorem bP(f:k->List T)(h:aB l i=aa x):(l.map f)[0+i.toNat]? =aa (f x):=by rw[dy,eG,(kc h).2];rfl
theorem bM(f:k->List T)(h:aB l i=aa x):0<=i/\i<((l.map f).length:Int):=by
 obtain⟨a,b⟩:=kc h
 grind
theorem IV(f:k->List T)(h:aB l i=aa x)(e:(a.map f).length=(l.map f).length):0<=i/\i<((a.map f).length:Int):=by rw[e];exact bM f h
theorem str(f:k->List T)(h:cd l i x=aa r):r.map f=(l.map f).set (0+i.toNat) (f x):=by obtain⟨_,_,rfl⟩:=tL h;rw[dy,List.map_set]
theorem dU(f:k->List T){y:List T}(h:aB l i=aa x)(e:f x=y):(l.map f)[0+i.toNat]? =aa y:=e▸bP f h
theorem cM{q:Prop}(h:p)(k:q):p/\q:=⟨h,k⟩
def wk(b:Int):Option Unit:=if b=0 then ak else aa ()
theorem P7{b:Int}{x:Unit}(h:wk b=aa x):b≠0:=by intro e;rw[wk,bg e] at h;cases h
theorem gb(f:k->R){y:R}(h:aB l i=aa x)(e:f x=y):aB (l.map f) i=aa y:=e▸P2 f h
theorem pN{a:Int}(f:k->R)(h:sub l a (l.length:Int)=aa r):sub (l.map f) a ((l.map f).length:Int)=aa (r.map f):=by rw[dF];exact uw f h
def gD(C:dV)(a:List cG)(s:S):Option (dd×List dH):=match qv C 0 a s with
 |some (e,b,[])=>aa (e,b)
 |_=>ak
theorem ak3{K:Ctx}{C:dV}(l:C.Fits K)(d:List cG)(i:List Nat)(b:List (Nat×V))(c:List (Nat×Option E))(k:List (Nat×Bool))
  (h:mo (gD C d s) vh (vj s i b c)=mo (gD C d s) vi (vk True b c k)):s.le K (s.cl i b c k):=by
 obtain⟨e,p,a,m,n⟩:=QM (K:=K) trivial h;unfold gD at a;split at a
 ·rename_i o;cases a;exact(ru l o m).trans n
 cases a
def iJ(b:List (Nat×ct))(s:S):List ResultVar->Option (List V)
 | []=>aa []
 | .tmp t::c=>match iJ b s c with
  |some d=>aa (s.t t::d)
  |none=>ak
 | .cell a t::c=>match uP b s.H t (s.t a) [],iJ b s c with
  |some (v,[],[]),aa d=>aa (v::d)
  |_,_=>ak
def oi:List V->V
 | [v]=>v
 |vs=> .bY vs
def lr(b:Array Value)(r:ResultVar):Sem Value:=match r with
 | .tmp t=>pure (b.getD t undef)
 | .cell a t=>do loadVar t (<-asAddr (b.getD a undef))
theorem Aq(c:Func)(a:Array Value):Go.results c a=(do let b<-c.results.mapM (lr a);pure (if h:b.size=1 then b[0] else .tuple b)):=rfl
theorem aed{P:Program}{c:List (Nat×ct)}(r:ed P c){K:Ctx}{U:Map}{a:Act}(m:Rel K U s a w){x:Nat}{t:TypeId}(h:uP c s.H t (s.t x) []=aa (v,[],[])):
  ∃u,(lr a.tmps (.cell x t)).run P w= .ok u w/\bB U w (own K U s.H) v u:=by
 have y:=M4 (d:=ak) (ty:=0) (pos:= "") (af:= #[]) (g:=ak) (x:= .tmp x) r h trivial
 obtain⟨u,i,z⟩:=y U w (own K U s.H) a.eval (λid e A=>(m.heap id e A).2) ⟨m.dz x,trivial⟩;refine⟨u,?_,z⟩;have bR:=m.dz x;have n: ∃l,a.tmps.getD x undef= .pointer (aa l):=by
  generalize a.tmps.getD x undef=q at bR;unfold uP at h;split at h
  ·cases h
  split at h
  ·rename_i o;rw[o] at bR;cases bR with|ref _ _ b _=>exact⟨_,rfl⟩
  ·rename_i o;rw[o] at bR;cases bR with|aU _ b B f _ _ _ _=>exact⟨_,rfl⟩
  ·split at h
   ·split at h<;>cases h
   ·split at h<;>cases h
   cases h
  cases h
 obtain⟨l,k⟩:=n;have D:a.eval (.tmp x)= .pointer (aa l):=k;simp only[execOp,Instr.loadAt,D,Instr.sureAddr,e4,hh,eV] at i;simp only[lr,k,asAddr,e4,hh,eV];cases p:(loadVar t l).run P w with
 |ok F L=>rw[p] at i;simp at i;obtain⟨rfl,rfl⟩:=i;rfl
 |_=>rw[p] at i;cases i
theorem HX{P:Program}{c:List (Nat×ct)}(m:ed P c){K:Ctx}{U:Map}{s:S}{a:Act}{w:World}(l:Rel K U s a w): ∀{e:List ResultVar} {k:List V},iJ c s e=aa k->
  k.length=e.length/\ ∀(i:Nat) r v,e[i]? =aa r->k[i]? =aa v-> ∃u,(lr a.tmps r).run P w= .ok u w/\bB U w (own K U s.H) v u
 | [],_,h=>by cases h;exact⟨rfl,λi r v h=>by simp at h⟩
 | .tmp t::e,k,h=>by
  simp only[iJ] at h;split at h
  ·rename_i n o;cases h;obtain⟨aP,a2⟩:=HX m l o;refine⟨by simp[aP],λi r v b d=>?_⟩;cases i with
   |zero=>simp at b d;subst b;subst d;exact⟨_,rfl,l.dz t⟩
   |succ i=>simp at b d;exact a2 i r v b d
  cases h
 | .cell x t::e,k,h=>by
  simp only[iJ] at h;split at h
  ·rename_i q n p o;cases h;obtain⟨aP,a2⟩:=HX m l o;refine⟨by simp[aP],λi r v b d=>?_⟩;cases i with
   |zero=>simp at b d;subst b;subst d;exact aed m l p
   |succ i=>simp at b d;exact a2 i r v b d
  cases h
theorem acv{P:Program}{a:Array Value}{r:ResultVar}(h:d.results= #[r])(b:(lr a r).run P w= .ok u w):(Go.results d a).run P w= .ok u w:=by rw[Aq,h];simp[b]
theorem acu{P:Program}{a:Array Value}{r:ResultVar}{v:Value}(h:d.results= #[r,b])(c:(lr a r).run P w= .ok u w)(e:(lr a b).run P w= .ok v w):(Go.results d a).run P w= .ok (.tuple #[u,v]) w:=by rw[Aq,h];simp[c,e]
theorem acs{P:Program}{a:Array Value}{r c:ResultVar}{v:Value}(h:d.results= #[r,c,b])(e:(lr a r).run P w= .ok u w)(i:(lr a c).run P w= .ok z w)(k:(lr a b).run P w= .ok v w):
  (Go.results d a).run P w= .ok (.tuple #[u,z,v]) w:=by rw[Aq,h];simp[e,i,k]
theorem acr{P:Program}{a:Array Value}{r c e:ResultVar}{v x:Value}(h:d.results= #[r,c,b,e])(i:(lr a r).run P w= .ok u w)(k:(lr a c).run P w= .ok z w)(l:(lr a b).run P w= .ok v w)(m:(lr a e).run P w= .ok x w):
  (Go.results d a).run P w= .ok (.tuple #[u,z,v,x]) w:=by rw[Aq,h];simp[i,k,l,m]
theorem LZ{P:Program}{e:List (Nat×ct)}(Q:ed P e){K:Ctx}{U:Map}{a:Act}(R:Rel K U s a w){b:List ResultVar}(o:d.results.toList=b){Y:List V}(h:iJ e s b=aa Y)(W:dA b.length 4=ab):
  ∃u,(Go.results d a.tmps).run P w= .ok u w/\bB U w (own K U s.H) (oi Y) u:=by
 obtain⟨X,m⟩:=HX Q R h;have o:d.results=b.toArray:=by rw[<-o]
 match b,Y,X,m,W with
 | [],[],_,_,_=>exact⟨_,results_none o _ _ _,.bY [] #[] rfl λi c u h _=>by simp at h⟩
 | [r],[v],_,m,_=>
  obtain⟨u,aP,a2⟩:=m 0 r v rfl rfl;exact⟨u,acv o aP,a2⟩
 | [r,x],[v,y],_,m,_=>
  obtain⟨u,aP,a2⟩:=m 0 r v rfl rfl;obtain⟨L,z,A⟩:=m 1 x y rfl rfl;refine⟨_,acu o aP z,.bY _ _ rfl λi c u k l=>?_⟩
  match i with
  |0=>simp at k l;subst k;subst l;exact a2
  |1=>simp at k l;subst k;subst l;exact A
  |n+2=>simp at k
 | [r,x,p],[v,y,q],_,m,_=>
  obtain⟨u,aP,a2⟩:=m 0 r v rfl rfl;obtain⟨L,z,A⟩:=m 1 x y rfl rfl;obtain⟨B,D,F⟩:=m 2 p q rfl rfl;refine⟨_,acs o aP z D,.bY _ _ rfl λi c u k l=>?_⟩
  match i with
  |0=>simp at k l;subst k;subst l;exact a2
  |1=>simp at k l;subst k;subst l;exact A
  |2=>simp at k l;subst k;subst l;exact F
  |n+3=>simp at k
 | [r,x,p,f],[v,y,q,g],_,m,_=>
  obtain⟨u,aP,a2⟩:=m 0 r v rfl rfl;obtain⟨L,z,A⟩:=m 1 x y rfl rfl;obtain⟨B,D,F⟩:=m 2 p q rfl rfl;obtain⟨E,j,t⟩:=m 3 f g rfl rfl;refine⟨_,acr o aP z D j,.bY _ _ rfl λi c u k l=>?_⟩
  match i with
  |0=>simp at k l;subst k;subst l;exact a2
  |1=>simp at k l;subst k;subst l;exact A
  |2=>simp at k l;subst k;subst l;exact F
  |3=>simp at k l;subst k;subst l;exact t
  |n+4=>simp at k
def Lv(b:List (Nat×ct))(c:List ResultVar)(r:V):Exit->S->Prop
 | .normal,s| .ret,s=> ∃a,iJ b s c=aa a/\dI (oi a) r
 |_,_=>False
def Lu(c:List (Nat×ct))(d:List ResultVar)(r:V)(a:List E):Exit->S->Prop
 | .normal,s| .ret,s=> ∃b,iJ c s d=aa b/\dI (oi b) r/\r.ok (fj a.length)=ab/\lD s.H (fj a.length) (eu a 0)
 |_,_=>False
section
variable {P:Program}{G:fh}{cE:List (Nat×ct)}
theorem Sr{r:V}{i:Nat}{a:List ResultVar}(z:ed P cE)(A:P.funcs[f]? =aa d)(D:(d.name== "runtime.NumGoroutine")=al)(p:d.body=aa c)(F:d.results.toList=a)(q:d.ntmps=i)
  (m:dA args.length i=ab) (H:r.ok gG=ab) (s:dA a.length 4=ab)
  (h: ∀w X,dV.Fits ⟨P,G,cE,i,0,fE⟩ (Ctx.pure P G w X i)->cY (Ctx.pure P G w X i) c (start args) (Lv cE a r)):jT P G f args r:=by
 subst q;refine⟨OK A D p,?_⟩;intro w X L Q R B;have o:L.length<=d.ntmps:=by rw[B.length];exact fb m
 refine calls_of_wp A p (h w X (afz z _ w X) fE _ w _ (Rel.start Q R B o) ?_);intro e W g j w' n k;have fin:(∃x,iJ cE W a=aa x/\dI (oi x) r)->bodyPost P d (λe w'=> ∃u,e= .returned u/\Ext (λ_=>False) w w'/\bB fE w' X r u) .ret j w':=by
  rintro⟨x,y,m⟩;obtain⟨u,t,bR⟩:=LZ z k F y s;have bR:=m _ _ _ _ bR;refine⟨k.defers,u,t,u,rfl,?_,?_⟩
  ·exact k.ext.weaken λb _ ⟨id,h,_⟩=>by simp[Ctx.pure] at h
  exact bR.under (u:=gG) (λb p=> .inl p) (λ_ h=>by simp[gG] at h) H
 cases e with
 |normal=>exact fin n
 |ret=>exact fin n
 |exit id=>exact n.elim
 |goto l=>exact n.elim
 |panic c=>exact n.elim
 |outgrown=>exact n.elim
def uO(a:Map):List E->Nat->Prop
 | [],_=>True
 | .arr _ g _ _::b,k=>(∃q,a k=aa (q,g))/\uO a b (k+1)
 | .aC _ _ g _ _::b,k=>(∃q,a k=aa (q,g))/\uO a b (k+1)
 | .cells _::b,k=>True/\uO a b (k+1)
theorem Nr{U:Map}: ∀(a:List E) (k:Nat),(∀(i:Nat) e g,a[i]? =aa e->e.gen=aa g-> ∃q,U (k+i)=aa (q,g))->uO U a k
 | [],_,_=>trivial
 |e::a,k,h=>by
  have b5:=Nr a (k+1) (λi e g b c=>by
   have:=h (i+1) e g (by simpa using b) c
   rwa [show k+(i+1)=k+1+i by omega] at this)
  cases e with
  |cells=>exact⟨trivial,b5⟩
  |arr _ g _ _=>exact⟨h 0 _ g rfl rfl,b5⟩
  |aC _ _ g _ _=>exact⟨h 0 _ g rfl rfl,b5⟩
theorem ajx{o:Func}{a out:List E}{r:V}{x y:Nat}{L:List ResultVar}(Y:ed P cE)(iv:P.funcs[f]? =aa o)(cR:(o.name== "runtime.NumGoroutine")=al)(bA:o.body=aa c)(b5:o.results.toList=L)(Q:o.ntmps=x)(R:a.length=y)
  (z:dA args.length x=ab) (A:dA y out.length=ab) (W:dA L.length 4=ab)
  (h: ∀w X d,dV.Fits ⟨P,G,cE,x,y,d⟩ (Ctx.dB P G w X y d x)->uO d a 0->cY (Ctx.dB P G w X y d x) c (l4 a args) (Lu cE L r out)):hY P G f a args r out:=by
 subst Q;subst R;refine⟨OK iv cR bA,?_⟩;intro w X d us j9 gj aL gV;have B:us.length<=o.ntmps:=by rw[gV.length];exact fb z
 refine calls_of_wp iv bA (h w X d (afy Y _ _ w X d) (Nr a 0 (λk e g j bV=>by
  rw[dy];exact(n0 (aL.heap k _ j) bV).2)) d _ w _ (Rel.l4 j9 gj aL gV B) ?_)
 intro e v D pf w' q m;have fin:(∃I,iJ cE v L=aa I/\dI (oi I) r/\r.ok (fj out.length)=ab/\lD v.H (fj out.length) (eu out 0))->
   bodyPost P o (λe w'=> ∃u,∃i:Unit,∃β,e= .returned u/\True/\Left d β a out w w' X r u) .ret pf w':=by
  rintro⟨I,M,N,T,hH⟩;obtain⟨u,hu,bR⟩:=LZ Y m b5 M W;have bR:=N _ _ _ _ bR;have hm:a.length<=out.length:=fb A;let p:S:={t:=pW,H:=eu out 0,u:=fj out.length}
  have F:mR a.length p.u=ab:=by
   have: ∀n,n<=a.length->mR n p.u=ab:=by
    intro n;induction n with
    |zero=>intro _;rfl
    |succ n mL=>intro cR;simp[mR,mL O,show p.u n=ab from je.2 O]
   exact this _ (df _)
  have bW:=m.cut (s':=p) (pd.nil _ _) hH F;have ep:=Fv (K:=Ctx.dB P G w X a.length d o.ntmps) (β:=D) (s:=v) (s':=p) hH;refine⟨m.defers,u,hu,u,(),cut D p.u,rfl,trivial,?_⟩;refine⟨m.ext.weaken λb _ ⟨id,_,h⟩=>⟨id,h⟩,bW.base,bW.jL,?_,?_,bW.inj,bW.fresh,?_,bR.under ep (λ_ h=>x8 h) T⟩
  ·intro k j;apply bW.dY;cases U:p.u k with
   |false=>rfl
   |true=>have:=je.1 U;omega
  ·intro k b j;apply bW.eB;cases U:p.u k with
   |false=>rfl
   |true=>have:=je.1 U;omega
  intro k e he;exact(bW.heap k e (by rw[<-wF] at he;exact he)).2
 cases e with
 |normal=>exact fin q
 |ret=>exact fin q
 |exit id=>exact q.elim
 |goto l=>exact q.elim
 |panic c=>exact q.elim
 |outgrown=>exact q.elim
def yg(r:V):Option (List V)->Option V
 |some a=>aa (lH r (oi a))
 |none=>ak
theorem Lr{a:List ResultVar}{r:V}(h:yg r (iJ cE s a)=aa r): ∃b,iJ cE s a=aa b/\dI (oi b) r:=by
 cases c:iJ cE s a with
 |none=>rw[c] at h;cases h
 |some b=>rw[c] at h;simp only[yg,Option.some.injEq] at h;exact⟨b,rfl,Uo h⟩
theorem Un{b:List ResultVar}{r:V}{a:List E}(h:(yg r (iJ cE s b),uT s a 0,r.ok (fj a.length)&&u' (fj a.length) a)=(aa r,uB a,ab)):
  ∃c,iJ cE s b=aa c/\dI (oi c) r/\r.ok (fj a.length)=ab/\lD s.H (fj a.length) (eu a 0):=by
 simp only[Prod.mk.injEq,cB] at h;obtain⟨i,l,m,n⟩:=h;obtain⟨c,aP,a2⟩:=Lr i;refine⟨c,aP,a2,m,λk e d=>?_⟩;rw[wF] at d
 have:=NK l k e d;rw[dy] at this;exact⟨this,je.2 (d0.1 d).1,N2 n k e d⟩
end
theorem lF(f:k->List T)(ph:k)(h:app l [y]=aa r):app (bk f l) [f ph]=aa (bk f (l++[ph])):=by
 obtain⟨a,_⟩:=xi h;unfold app
 grind
theorem hc(f:k->List T)(l:List k)(ph:k):(bk f (l++[ph]))[(bk f l).length+0]? =aa (f ph):=by grind
theorem np(f:k->List T)(l:List k){r:List T}(e:r=f y):(bk f (l++[ph])).set ((bk f l).length+0) r=bk f (l++[y]):=by grind
theorem me(f:k->List T){x:List k}{r:List T}(h:app l [y]=aa x)(e:r=f y):(bk f (l++[ph])).set ((bk f l).length+0) r=bk f x:=by
 obtain⟨_,rfl⟩:=xi h
 grind
theorem lG(f:k->List T){x:List k}(a:k)(h:app l [y]=aa x):(bk f (l++[a])).length=(bk f x).length:=by obtain⟨_,rfl⟩:=xi h;simp
theorem aja(f:k->List T)(h:l.isEmpty=al):bk f l≠[]:=by
 cases l with
 |nil=>cases h
 |cons=>simp
theorem ha(f:k->List T)(h:cd l i y=aa r)(e:q=f y):(bk f l).set (0+i.toNat) q=bk f r:=by subst e;exact(str f h).symm
theorem jn(f:k->List T)(h:aB l i=aa x)(e:q=f x):(bk f l).set (0+i.toNat) q=bk f l:=by subst e;have a:=bP f h;obtain⟨c,b⟩:=d0.1 a;rw[<-b,List.set_getElem_self]
theorem cS(f:k->List T)(h:cd l i x=aa r):(l.map f).length=(r.map f).length:=by obtain⟨_,_,rfl⟩:=tL h;simp
theorem ix{r:R}(h:(ak:Option R)=aa r):p:=by cases h
def fe{k:Type}(a b:List k):Option Unit:=if b.length=a.length then aa () else ak
theorem jm{b:List k}{u:Unit}(f:k->List T)(h:fe a b=aa u):(a.map f).length=(b.map f).length:=by
 unfold fe at h
 grind
def Ev{k:Type}(f:k->List T):Option k->V
 |none=> .t .gZ
 |some x=> .aU (f x)
theorem Ue(f:k->List T)(o:Option k)(b:Bool):(V.bY [Ev f o,aW b]).ok gG=ab:=by cases o<;>rfl
theorem zU{P:Program}{G:fh}[Inhabited R]{r:R->List T}(h:o.isSome=ab)(k:jT P G f args (V.bY [Ev r o,v])):jT P G f args (V.bY [V.aU (r (o.getD default)),v]):=by
 cases o with
 |none=>cases h
 |some x=>exact k
theorem zT{P:Program}{G:fh}{r:R->List T}(h:o.isSome=al)(k:jT P G f args (V.bY [Ev r o,v])):jT P G f args (V.bY [V.t .gZ,v]):=by
 cases o with
 |none=>exact k
 |some x=>cases h
theorem afK(f:k->List T)(l:List k):(l.map f).length=((l.take l.length).map f).length:=by rw[dZ]
theorem GQ(f:k->List T)(l:List k)(a:0<=i)(b:i<(l.length:Int)):
  0<=i/\i<=((l.map f).length:Int)/\((l.map f).length:Int)<=((l.map f).length:Int)/\(i=0\/i<((l.map f).length:Int))/\i.toNat=0+i.toNat/\l.length-i.toNat=((l.map f).length:Int).toNat-i.toNat:=by grind
theorem Ub(f:R->List T)(l:List R)(k:Nat):(l.take k).map f=(l.map f).take k:=p6
section
set_option linter.unusedVariables false
def dK{k:Type}(l:List k)(i j:Int):Nat:=i.toNat+(l.length-j.toNat)
def jZ{α:Type}(l:List α)(i j:Int):List α:=l.take i.toNat++l.drop j.toNat++l.drop (dK l i j)
def hf{α:Type}(l:List α)(i j:Int)(z:α):List α:=l.take i.toNat++l.drop j.toNat++dh (l.length-dK l i j) z
theorem B3(l:List k)(a:0<=i)(b:i<=j)(c:j<=(l.length:Int)):(jZ l i j).length=l.length:=by
 unfold jZ dK
 grind
theorem Ra(f:k->List T)(l:List k)(a:0<=i)(b:i<=j)(c:j<=(l.length:Int)):0<=i/\i<=j/\j<=(l.length:Int)/\(l.length:Int)<=((l.map f).length:Int):=by grind
theorem C4(f:k->List T)(l:List k)(a:0<=i)(b:i<=j)(c:j<=(l.length:Int)):
  (0:Int)<=0/\(0:Int)<=i/\i<=((l.map f).length:Int)/\((0:Int)=0\/(0:Int)<((l.map f).length:Int))/\0=0+(0:Int).toNat/\i.toNat=i.toNat-(0:Int).toNat:=
 ⟨hA _,a,by rw[dF];omega,.inl rfl,rfl,rfl⟩
theorem Q'(f:k->List T)(l:List k)(a:0<=i)(b:i<=j)(c:j<=(l.length:Int))(d: ¬j<(l.length:Int)):0<=j/\j=((l.map f).length:Int)/\((l.map f).length:Int)<=((l.map f).length:Int):=by grind
theorem Ua(f:k->List T)(l:List k)(a:0<=i)(b:i<=j)(c:j<=(l.length:Int)):i.toNat+(l.length-j.toNat)<=(l.map f).length:=by grind
theorem T'(f:k->List T)(l:List k)(a:0<=i)(b:i<=j)(c:j<=(l.length:Int)):j.toNat+(l.length-j.toNat)<=(l.map f).length:=by grind
theorem Ls(f:k->List T)(l:List k)(i j:Int):(jZ l i j).map f=(l.map f).take i.toNat++((l.map f).drop j.toNat).take (l.length-j.toNat)++(l.map f).drop (i.toNat+(l.length-j.toNat)):=by unfold jZ dK;rw[ic,ic,p6,List.map_drop,List.map_drop,jN (l:=(l.map f).drop j.toNat) (by rw[fN,dF];omega)]
theorem C5(f:R->List T)(l r:List R){k:Nat}(c:0<k)(d:0<=i)(e:i<j)(h:j<=(l.length:Int))(a:r.length=l.length){m:Nat}(b:m=dK l i j):
  0<k/\(0:Int)<=(m:Int)/\(m:Int)<(l.length:Int)/\((0:Nat):Int)+(l.length:Int)<=((r.map f).length:Int)/\m=0+(m:Int).toNat/\l.length-m=(l.length:Int).toNat-(m:Int).toNat:=by rw[dF,a,b];unfold dK;omega
theorem agl(f:k->List T)(l:List k)(z:k)(b:0<=i)(e:i<j)(c:j<=(l.length:Int)):
  dK l i j+(l.length-dK l i j)<=((jZ l i j).map f).length/\(hf l i j z).map f=((jZ l i j).map f).take (dK l i j)++dh (l.length-dK l i j) (f z)++((jZ l i j).map f).drop (dK l i j+(l.length-dK l i j)):=by
 have hl:=B3 l b (O:i<=j) c;have a:(l.take i.toNat++l.drop j.toNat).length=dK l i j:=by
  unfold dK;simp only[List.length_append,List.length_take,List.length_drop];omega
 have d:dK l i j<=l.length:=by unfold dK;omega
 refine⟨by rw[dF,hl];omega,?_⟩;rw[jO (as:=(jZ l i j).map f) (by rw[dF,hl];omega),jr,<-p6];unfold hf jZ;rw[ic,List.map_replicate,ub (by rw[a];exact df _),jN (l:=l.take i.toNat++l.drop j.toNat) (by rw[a];exact df _)]
theorem T9(f:k->List T)(l:List k)(z:k)(b:0<=i)(c:i<j)(d:j<=(l.length:Int))(e: ¬j<(l.length:Int)):
  i.toNat+(l.length-i.toNat)<=(l.map f).length/\(hf l i j z).map f=(l.map f).take i.toNat++dh (l.length-i.toNat) (f z)++(l.map f).drop (i.toNat+(l.length-i.toNat)):=by
 refine⟨by rw[dF];omega,?_⟩;have a:dK l i j=i.toNat:=by unfold dK;omega
 unfold hf;rw[a,jO (as:=l) (i:=j.toNat) O,jr,jO (as:=l.map f) (by rw[dF];omega),jr,ic,p6,List.map_replicate]
theorem C6(f:k->List T)(l:List k)(z:k)(a:0<=i)(b:i<j)(c:j<=(l.length:Int)):dK l i j=(((hf l i j z).take (dK l i j)).map f).length:=by
 unfold hf dK
 grind
theorem C7(l:List k)(a:j<=(l.length:Int))(b: ¬j<(l.length:Int)):i.toNat=dK l i j:=by unfold dK;omega
end
theorem w9(h:cd l i x=aa r)(y:k):cd l i y=aa (l.set i.toNat y):=by
 obtain⟨a,b,_⟩:=tL h;unfold cd
 grind
theorem uM(h:cd l i x=aa r)(y:k):aB (l.set i.toNat y) i=aa y:=by
 obtain⟨a,b,_⟩:=tL h;unfold aB
 grind
theorem w8(h:cd l i x=aa r)(y:k):cd (l.set i.toNat y) i x=aa r:=by obtain⟨a,b,rfl⟩:=tL h;unfold cd;rw[bg ⟨a,by rw[fX];exact b⟩,lx]
theorem C0{u:Unit}(f:k->List T)(b:fe a l=aa u)(h:aB l i=aa x):0<=i/\i<((a.map f).length:Int):=by have:=bM f h;rw[jm f b];exact this
theorem QX{u:Unit}(f:k->List T)(b:fe a l=aa u):(a.map f).length=l.length:=(jm f b).trans (QY f l)
theorem Cv(h:cd l i x=aa r):aB r i=aa x:=by
 obtain⟨a,b,rfl⟩:=tL h;unfold aB
 grind
end Go.Lift
