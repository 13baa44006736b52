/- Tools. -/
import Derived.Test.YtcihigfifglboabGreatGLiftSort
set_option linter.unusedVariables false
namespace Go.Lift
open Go
def Map.sub(a:Map)(k:Nat)(N:Nat->Prop):Map:=⟨a.f,λid b=>a.n id b/\(id=k->N b)⟩
variable {D β:Map}{k i b m gen m1 p:Nat}{K:Ctx}{s:S}{a:Act}{w:World}{X:Nat->Prop}{G:fa}{g:FuncId}{u:Nat->Bool}
theorem wJ{N:Nat->Prop}(h:At (D.sub k N) i b):At D i b:=by
 rcases h with h|h
 ·exact .inl h
 exact .inr h.1
theorem Rel.sub(h:Rel K β s a w)(k:Nat)(N:Nat->Prop)(e':E)(r:s.H k≠none)
  (z:cF (β.sub k N) w (own K (β.sub k N) (aU s.H k (some e'))) k e'):Rel K (β.sub k N) {s with H:=aU s.H k (some e')} a w:=by
 have d: ∀b,own K (β.sub k N) (aU s.H k (some e')) b->own K β s.H b:=by
  rintro b (c|⟨id,l,n⟩)
  ·exact .inl c
  refine .inr ⟨id,λo=>?_,wJ n⟩;by_cases m:id=k
  ·subst m;exact r o
  rw[bX _ _ _ _ m] at l;exact l o
 have x:dr β (β.sub k N):=λ_ _ _ c=> .inl c;refine {h with base:=λid hid=>h.base id hid,dJ:=λid hid=>h.dJ id hid,eb:=λid b hid p=>h.eb id b hid p.1,inj:=λid q b l n=>h.inj id q b (wJ l) (wJ n),fresh:=λid b p=>h.fresh id b (wJ p),heap:= ?_,cZ:=λi=>(h.cZ i).mono (Ext.refl _ _) (λb _=>d b) x (Shaped.refl _ _)};intro id e c;have c:aU s.H k (some e') id=some e:=c;by_cases m:id=k
 ·subst m;rw[bW] at c;cases c;cases y:s.H id with
  |none=>exact bA y r
  |some o=>exact⟨(h.heap id o y).1,z⟩
 rw[bX _ _ _ _ m] at c;obtain⟨l,n⟩:=h.heap id e c;exact⟨l,n.mono (Ext.refl _ _) (λb _=>d b) x (λ_ h=>h) (Shaped.refl _ _) (λ_ _=>rfl) λb=>⟨λh=>h.1,λh=>⟨h,λe=>bA e m⟩⟩⟩
theorem Rel.pick(h:Rel K β s a w)(k:Nat){r:List dO}{l:List (List T)}(hk:s.H k=some (.a' r m gen l []))(eH:(aO r m).size=1)(lF:(aO r m).eg 0=some m1)
   {Y:Array Value} (df:β k=some (some b,gen)) (a8:w.heap[b]? =some (.cells Y (aO r m).ty (0,0)))
  {w':World} {A:Array Value} (hs:A.size=Y.size) (F:w'.heap[b]? =some (.cells A (aO r m).ty (0,0))) (f:Ext (λx=>x=b) w w') (d:List (List T)) (cD:d.length<=Y.size) (G:Nat->Option Nat)
  (R: ∀i p,G i=some p->i<d.length/\p<l.length/\A[i]? =Y[p]? /\d[i]? =l[p]?) (acX: ∀i g p,G i=some p->G g=some p->i=g) (C: ∀i,i<d.length->G i=none->A[i]? =some (.slice none 0 0)/\d[i]? =some [.aD []]):
  ∃β',(∀id,β' id=β id)/\Rel K β' {s with H:=aU s.H k (some (.a' r m gen d []))} a w':=by
 have t:s.H k≠none:=by rw[hk];simp
 obtain⟨iB,hE⟩:=(h.heap k _ hk).2;obtain⟨B,hlen,v,I,M,aci,Pf⟩: ∃B:Nat->Nat->Nat->Prop,l.length*(aO r m).size<=Y.size/\(∀o,o∈l->o.length=(aO r m).size)/\
   (∀(i j:Nat) (o:List T) (x:T) (u:Value),l[i]? =some o->o[j]? =some x->Y[i*(aO r m).size+j]? =some u->Cell r m [] β w (own K β s.H) i j x u (B i j))/\
   (∀i j c,B i j c->i<l.length/\j<(aO r m).size/\c≠b)/\(∀i j g cV c,B i j c->B g cV c->i=g/\j=cV)/\ ∀c,β.n k c↔ ∃i j,B i j c:=by
  rcases hE with ⟨y,_⟩|⟨cu,qY,B,y,L,X,h4,h5,h6,lD,kR⟩
  ·rw[df] at y;cases y
  rw[df] at y;cases y;rw[a8] at L;cases L;exact⟨B,X,h4,h5,h6,lD,kR⟩
 rw[eH] at hlen v I M;have N:own K β s.H b:= .inr ⟨k,t,.inl ⟨_,df⟩⟩;have Pq:b<w.heap.size:=(jc.1 a8).1
 -- the block told anew, its rows not told
 have qi:=h.setRow k b (.inl ⟨_,df⟩) Y (aO r m).ty a8 A hs (.arr (aO r m).ty gen 1 []) t ⟨iB,.inr ⟨b,A,df,setRow_heap _ _ _ _ _ _ a8,aX,aX,λi j o x u y=>by simp at y⟩⟩;have fD:Rel K β {s with H:=aU s.H k (some (.arr (aO r m).ty gen 1 []))} a w':=by
  refine qi.grow ⟨f.os,f.tape,f.output,?_,λx hx _=>?_⟩
  ·have:=f.size;simpa using this
  by_cases e:x=b
  ·subst e;rw[F,setRow_heap _ _ _ _ _ _ a8]
  rw[setRow_other _ _ _ _ e];exact f.keep x (by simpa using hx) e
 refine⟨β.sub k λc=> ∃i p,G i=some p/\B p 0 c,λ_=>rfl,?_⟩;have hC:=fD.sub k (λc=> ∃i p,G i=some p/\B p 0 c) (.a' r m gen d []) (by show aU s.H k _ k≠none;rw[bW];simp) ?_
 ·have e:aU (aU s.H k (some (E.arr (aO r m).ty gen 1 []))) k (some (.a' r m gen d []))=aU s.H k (some (.a' r m gen d [])):=by
   funext i;by_cases D:i=k
   ·subst D;rw[bW,bW]
   rw[bX _ _ _ _ D,bX _ _ _ _ D,bX _ _ _ _ D]
  have Pg:Rel K _ {s with H:=aU (aU s.H k (some (E.arr (aO r m).ty gen 1 []))) k (some (.a' r m gen d []))} a w':=hC;rw[e] at Pg;exact Pg
 have ha: ∀x,own K (β.sub k λc=> ∃i p,G i=some p/\B p 0 c) (aU (aU s.H k (some (E.arr (aO r m).ty gen 1 []))) k (some (.a' r m gen d []))) x->own K β s.H x:=by
  rintro x (hx|⟨id,y,L⟩)
  ·exact .inl hx
  refine .inr ⟨id,λe0=>?_,wJ L⟩;by_cases D:id=k
  ·subst D;exact t e0
  rw[bX _ _ _ _ D,bX _ _ _ _ D] at y;exact y e0
 have acm:Ext (own K β s.H) w w':=f.weaken λx _ e=>by rw[show x=b from e];exact N
 refine⟨iB,.inr ⟨b,A,λi j c=>j=0/\ ∃p,G i=some p/\B p 0 c,df,F,by rw[eH];omega,λo sf=>?_,λi j o x u y L X=>?_,λi j c bP=>?_,λi j g cV c bP V=>?_,λc=>?_⟩⟩
 ·obtain⟨i,D⟩:=j9.1 sf;have U:=(bR.1 D).1;rw[eH];cases q:G i with
  |none=>rw[(C i U q).2] at D;cases D;rfl
  |some p=>rw[(R i p q).2.2.2] at D;exact v o (bF D)
 ·have U:=(bR.1 y).1;rw[eH] at X;have hj0:j=0:=by
   have ac1:=(bR.1 L).1;cases q:G i with
   |none=>rw[(C i U q).2] at y;cases y;simpa using ac1
   |some p=>rw[(R i p q).2.2.2] at y;have:=v o (bF y);omega
  subst hj0;rw[show i*1+0=i by omega] at X;refine Cell.of ?_;cases q:G i with
  |none=>
   obtain⟨aJ,a2⟩:=C i U q;rw[a2] at y;cases y;rw[aJ] at X;cases X;simp only[List.getElem?_cons_zero,Option.some.injEq] at L;subst L;rw[lF];exact .nil m1 _ (λc bP=>by obtain⟨_,p,Q,_⟩:=bP;rw[q] at Q;cases Q)
  |some p=>
   obtain⟨a0,aJ,a2,a3⟩:=R i p q;rw[a3] at y;rw[a2] at X;have bP:=(I p 0 o x u y L (by rw[show p*1+0=p by omega];exact X)).none;have V:=bP.mono acm (λx _=>ha x) λc oW=>f.keep c (h.fresh k c (.inr ((Pf c).2 ⟨p,0,oW⟩))).2 (M p 0 c oW).2.2;exact V.iff λc=>⟨λ⟨_,P9,W,F⟩=>by rw[q] at W;cases W;exact F,λF=>⟨rfl,p,q,F⟩⟩
 ·obtain⟨rfl,p,Q,z⟩:=bP;rw[eH];exact⟨(R i p Q).1,O,(M p 0 c z).2.2⟩
 ·obtain⟨rfl,p,Q,z⟩:=bP;obtain⟨rfl,P9,W,acC⟩:=V
  have:=(aci p 0 P9 0 c z acC).1;subst this;exact⟨acX i g p Q W,rfl⟩
 constructor
 ·rintro⟨_,L⟩;obtain⟨i,p,Q,z⟩:=L rfl;exact⟨i,0,rfl,p,Q,z⟩
 rintro⟨i,j,rfl,p,Q,z⟩;exact⟨(Pf c).2 ⟨p,0,z⟩,λ_=>⟨i,p,Q,z⟩⟩
open Go.Proofs
theorem Xt{k:Type}{l l':List k}(h:l.Perm l'): ∃d:Nat->Nat,(∀i,i<l'.length->d i<l.length/\l'[i]? =l[d i]?)/\ ∀i j,i<l'.length->j<l'.length->d i=d j->i=j:=by
 induction h with
 |nil=>exact⟨id,λi c=>bA c (q0 _),λi j c=>bA c (q0 _)⟩
 |cons a _ w=>
  obtain⟨d,n,o⟩:=w;refine⟨λi=>match i with|0=>0|i+1=>d i+1,λi c=>?_,λi j c m e=>?_⟩
  ·match i with
   |0=>exact⟨aX,rfl⟩
   |i+1=>
    obtain⟨aJ,a2⟩:=n i (by simpa using c);exact⟨by simpa using aJ,by simpa using a2⟩
  match i,j with
  |0,0=>rfl
  |0,j+1=>simp at e
  |i+1,0=>simp at e
  |i+1,j+1=>simp at e;rw[o i j (by simpa using c) (by simpa using m) e]
 |swap a b l=>
  refine⟨λi=>match i with|0=>1|1=>0|i+2=>i+2,λi c=>?_,λi j c m e=>?_⟩
  ·match i with
   |0=>exact⟨aX,rfl⟩
   |1=>exact⟨aX,rfl⟩
   |i+2=>exact⟨by simpa using c,aX⟩
  match i,j with
  |0,0=>rfl
  |0,1=>simp at e
  |0,j+2=>simp at e
  |1,0=>simp at e
  |1,1=>rfl
  |1,j+2=>simp at e
  |i+2,0=>simp at e
  |i+2,1=>simp at e
  |i+2,j+2=>simpa using e
 |trans _ _ p q=>
  obtain⟨d,n,o⟩:=p;obtain⟨s,r,x⟩:=q;refine⟨λi=>d (s i),λi c=>?_,λi j c m e=>?_⟩
  ·obtain⟨aJ,a2⟩:=r i c;obtain⟨a3,a4⟩:=n (s i) aJ;exact⟨a3,a2.trans a4⟩
  exact x i j c m (o _ _ (r i c).1 (r j m).1 e)
theorem Mh{sz:Nat}{G:List dO}{a:List (List T)}{x:Value}(C:cF D w X k (.a' G m gen a []))(H:(aO G m).size=sz)(I:bn D w X (.bc k gen sz 0 a.length) x):
  (x= .slice none 0 0/\a=[]/\D k=some (none,gen))\/ ∃(b d:Nat) (e:Array Value) (B:Nat->Nat->Nat->Prop),x= .slice (some ⟨b,0,none⟩) a.length d/\D k=some (some b,gen)/\w.heap[b]? =some (.cells e (aO G m).ty (0,0))/\e.size=d*sz/\a.length<=d/\d<=maxLen/\
   (∀(i j:Nat) (l:List T) (y:T) (u:Value),a[i]? =some l->l[j]? =some y->e[i*sz+j]? =some u->gx G w X ((aO G m).eg j) y u (B i j))/\ ∀i j c,B i j c->c≠b:=by
 obtain⟨q,o⟩:=th C;rcases e8 I o with ⟨d,b,n,K,rfl,rfl,g,h,r,L,s⟩|⟨rfl,_,z,rfl⟩
 ·rcases C.2 with ⟨p,_⟩|⟨t,e,B,p,F,v,E,Q,R,_⟩
  ·rw[o] at p;cases p
  rw[o] at p;cases p;have A:e.size=d*sz:=by
   unfold World.shape? at h;rw[F] at h;simp at h;rw[<-r] at h;rw[dp] at h;exact h.2
  refine .inr ⟨b,d,e,B,by rw[fY],o,F,A,L,s,λi j l y u U W Y=>(Q i j l y u U W (by rw[H];exact Y)).none,λi j c f=>(R i j c f).2.2⟩
 exact .inl ⟨rfl,kE z,o⟩
section CS
open Go.Shelf Go.RowKit Go.Lib Go.Sort
variable {P:Program} {ρ:Ren}
theorem XG(L:SlLaysF.n6 P ρ)(raw:tg P g)(G3: ∀args w,(callFunc g args).run P w= .ok (.enter g args) w)(call:iV P (ρ.f 6)){q:List dO}{s:Nat}(eH:(aO q m).size=1)(lF:(aO q m).eg 0=some m1)
  (rows:List (List Int)) (cG:rows.length<=1000000000) (cD: ∀l∈rows,l.length<=1000000000):
  iQ P G (ρ.f 6) [.a' q m s (rows.map (aZ ae)) []] [ms 0 s 1 (aZ ae) rows,.fn g []] (.bL []) [.a' q m s ((fh rows).map (aZ ae)) []]:=by
 refine⟨call,?_⟩;intro w X z us jV ha ks fM;have sa:us.length=2:=fM.length;obtain⟨hM,fZ,rfl⟩: ∃a b,us=[a,b]:=by
  match us,sa with
  | [a,b],_=>exact⟨a,b,rfl⟩
 have V:=Rel.lQ (P:=P) (nt:=2) jV ha ks fM (cN _);obtain⟨sj,sk,_⟩:=fM;obtain rfl:fZ= .func (.func g) #[] #[]:=by
  cases sk with
  |fn _ _ us hs _=>
   have:us= #[]:=IX hs;rw[this]
 generalize Hl:({tmps:=[hM,Value.func (.func g) #[] #[]].toArray++Array.replicate (2-[hM,Value.func (.func g) #[] #[]].toArray.size) undef,defers:=[]}:Act)=act at V;generalize me:Ctx.dG P G w X [E.a' q m s (rows.map (aZ ae)) []].length z 2=K at V;have r8:K.X=X:=by rw[<-me];rfl
 generalize kS:Lift.lQ [E.a' q m s (rows.map (aZ ae)) []] [ms 0 s 1 (aZ ae) rows,.fn g []]=I at V;have Q:I.H 0=some (.a' q m s (rows.map (aZ ae)) []):=by rw[<-kS];rfl
 have xn:I.H=eQ [E.a' q m s (rows.map (aZ ae)) []] 0:=by rw[<-kS];rfl
 have HM:own K z I.H=lN X z (eQ [E.a' q m s (rows.map (aZ ae)) []] 0):=by funext b;rw[xn];show(K.X b\/_)=_;rw[r8];rfl
 rw[<-HM] at sj;have r7:aU I.H 0 (some (E.a' q m s ((fh rows).map (aZ ae)) []))=eQ [E.a' q m s ((fh rows).map (aZ ae)) []] 0:=by
  rw[xn];funext j
  match j with
  |0=>rfl
  |j+1=>rfl
 have fin: ∀(R:Map) (w':World),Rel K R {I with H:=aU I.H 0 (some (.a' q m s ((fh rows).map (aZ ae)) []))} act w'->
   ∃u,∃_i:Unit,∃β,Ending.returned (.tuple #[])= .returned u/\True/\Left z β [E.a' q m s (rows.map (aZ ae)) []] [E.a' q m s ((fh rows).map (aZ ae)) []] w w' X (.bL []) u:=by
  intro R w' b7;subst me;obtain⟨β,sn⟩:=Dg (out:=[E.a' q m s ((fh rows).map (aZ ae)) []]) b7 (cN _) (.bL [] #[] rfl λi c u bP _=>by simp at bP) rfl (by
   intro id e0 Y;refine⟨⟨e0,?_,jh.refl _⟩,?_⟩
   ·show aU I.H 0 _ id=_;rw[r7];exact Y
   match id with
   |0=>cases Y;exact⟨rfl,rfl⟩
   |k+1=>cases Y)
  exact⟨_,(),β,rfl,trivial,sn⟩
 have Bz:I.H 0≠none:=by rw[Q];simp
 have oM:=Mh (sz:=1) (V.heap 0 _ Q).2 eH sj;rcases oM with ⟨rfl,h1,df⟩|⟨b,cap,o,B,rfl,df,C,kT,oZ,BJ,b7,Ha⟩
 ·have o2:rows=[]:=by simpa using h1
  subst o2;refine(AnyF.slices_SortFunc_none (P:=P) (ρ:=ρ) {L with} none 0 _ w).mono ?_;rintro e1 gv ⟨rfl,rfl⟩;refine fin z _ ?_
  have:=V.yi 0 _ Q;rw[show fh []=[] by simp[fh]];exact this
 have uq:own K z I.H b:= .inr ⟨0,Bz,.inl ⟨_,df⟩⟩;rw[c6] at oZ;have hlen:rows.length<=o.size:=O
 have lG: ∀(j:Nat) (t:j<rows.length),cW w (λx=>x=b) (.aD (rows[j].map j1)) (o[j]' O):=λj t=>by
  have se:=b7 j 0 (aZ ae rows[j]) (.aD (rows[j].map j1)) _ (by rw[et,bs t];rfl) rfl (by rw[show j*1+0=j by omega];exact hr O);exact se.yj (λx hx=>by rw[show x=b from hx];exact uq) λc bP e=>Ha j 0 c bP e
 obtain⟨F,r5,r6⟩: ∃F:Fin rows.length->dL w λx=>x=b,(∀j,(F j).enc=o[j.1]'(by have:=j.2;omega))/\ ∀j,(F j).bZ=rows[j.1]:=
  ⟨λj=>⟨(o[j.1]'(by have:=j.2;omega),rows[j.1]),lG j.1 j.2,cD _ (fx j.2)⟩,λ_=>rfl,λ_=>rfl⟩
 obtain⟨d,cv⟩: ∃d:Array (dL w λx=>x=b),d=Array.ofFn F:=⟨_,rfl⟩
 have D:d.size=rows.length:=by rw[cv];exact Array.size_ofFn
 have U: ∀(j:Nat) (t:j<d.size),d[j].enc=o[j]' O/\d[j].bZ=rows[j]' O:=λj t=>by
  subst cv;rw[Array.getElem_ofFn];exact⟨r5 _,r6 _⟩
 have nh:(d.map dL.bZ).toList=rows:=by
  refine List.ext_getElem (by simp[D]) λj h1 h2=>?_;rw[Array.getElem_toList,Array.getElem_map];exact(U j O).2
 have hH:Holds dL.enc w b 0 d:=λj t=>by
  rw[dp,getElem!_pos d j t,(U j t).1];refine⟨?_,by simp[World.frozen?,C]⟩
  have:j<o.size:=O
  simp[World.cell?,C,this]
 have r':CmpLays1 P g #[] dL.enc tF b 0 d.size w:=CmpReads.lays (λm os dk hs x y=>by
  have jt:=F6 (w:=w) (X:=λx=>x=b) (b:=b) (m:=m) (dk:=dk) (os:=os) rfl;exact(Od raw (x.2.1.mono jt λ_ _ h=>h) (y.2.1.mono jt λ_ _ h=>h) x.2.2 y.2.2).mono (by
   rintro e1 gv ⟨rfl,rfl⟩;exact⟨rfl,0,rfl⟩))
 have run:=Any.slices_SortFunc L dL.enc dL.one tF Oi g #[] b 0 cap d w G3 r' hH (jc.1 C).1 O;rw[D] at run;rw[c6];refine run.mono ?_;rintro e1 gv ⟨rfl,r,n,os,v,hs,kX⟩;rw[<-D] at v hs;have M:=L1 v hs;rw[nh] at M;have W:r.size=d.size:=v.1;obtain⟨N,adX,adY⟩:=Xt (l:=d.toList) (l':=r.toList) (by
  have h2:=v.2.2;have e1:r.extract 0 d.size=r:=by rw[<-W];simp
  have e2:d.extract 0 d.size=d:=aX
  rw[e1,e2] at h2;exact h2.symm)
 have S:(Sort.ahead w n).heap[b]? =some (.cells o (aO q m).ty (0,0)):=C;have sf:sortWorld dL.enc w b 0 n r os=grow ((Sort.ahead w n).setRow b (putCells dL.enc 0 r o)) os:=by
  show grow (putRow dL.enc (Sort.ahead w n) b 0 r) os=_;congr 1;exact JU S _
 have hCs:(putCells dL.enc 0 r o).size=o.size:=by simp[putCells]
 have acB: ∀i,i<r.size->(putCells dL.enc 0 r o)[i]? =some (r[i]!).enc:=λi A=>by
  unfold putCells;rw[Array.getElem?_mapIdx,hr O];simp only[Option.map_some];rw[a1 O,Nat.sub_zero]
 have acu:gv.heap[b]? =some (.cells (putCells dL.enc 0 r o) (aO q m).ty (0,0)):=by
  rw[kX,sf];show(_++os)[b]? =_;have Hn:b<((Sort.ahead w n).setRow b (putCells dL.enc 0 r o)).heap.size:=(jc.1 (setRow_heap _ _ _ _ _ _ S)).1;rw[Array.getElem?_append_left Hn];exact setRow_heap _ _ _ _ _ _ S
 have ack:Ext (λx=>x=b) w gv:=by rw[kX];exact F6 rfl
 have acI:r.size=rows.length:=by rw[W,D]
 have T:(fh rows).length=rows.length:=by rw[<-M,lT,Array.size_map,acI]
 have acS: ∀i (A:i<rows.length),∃v:N i<rows.length,(putCells dL.enc 0 r o)[i]? =o[N i]? /\(fh rows)[i]? =rows[N i]? :=λi A=>by
  obtain⟨aJ,a2⟩:=adX i (by rw[lT];omega);rw[lT,D] at aJ;rw[pF,pF,hr O,hr O] at a2;have a3:r[i]' O=d[N i]' O:=by simpa using a2
  refine⟨aJ,?_,?_⟩
  ·rw[acB i O,getElem!_pos r i O,a3,(U (N i) O).1,hr O]
  rw[<-M,pF,Array.getElem?_map,hr O,Option.map_some,a3,(U (N i) O).2,bs aJ]
 obtain⟨R,_,qj⟩:=V.pick 0 Q eH lF df C hCs acu ack ((fh rows).map (aZ ae)) (by rw[c6,T];omega) (λi=>if i<rows.length then some (N i) else none) (λi p h=>by
   by_cases A:i<rows.length
   ·rw[a1 A] at h;cases h;obtain⟨v,e1,e2⟩:=acS i A;exact⟨by rw[c6,T];exact A,by rw[c6];exact v,e1,by rw[et,et,e2]⟩
   ·rw[a6 A] at h;cases h) (λi iD p h mc=>by
   by_cases A:i<rows.length
   ·by_cases xt:iD<rows.length
    ·rw[a1 A] at h;rw[a1 xt] at mc;exact adY i iD (by rw[lT];omega) (by rw[lT];omega) (Option.some.inj (h.trans mc.symm))
    rw[a6 xt] at mc;cases mc
   ·rw[a6 A] at h;cases h) (λi A h=>by
   rw[c6,T] at A;rw[a1 A] at h;cases h)
 exact fin R _ qj
theorem Ub(L:SlLaysF.n6 P ρ)(d:tg P g)(l: ∀args w,(callFunc g args).run P w= .ok (.enter g args) w)(c:iV P (ρ.f 6)){a:List dO}{n:Nat}(o:(aO a m).size=1)(e:(aO a m).eg 0=some n){x r:List (List Int)}(h:mo x=some r):
  iQ P G (ρ.f 6) [.a' a m i (x.map (aZ ae)) []] [ms 0 i 1 (aZ ae) x,.fn g []] (.bL []) [.a' a m i (r.map (aZ ae)) []]:=by
 unfold mo at h;split at h
 ·rename_i k;cases h;exact XG L d l c o e x k.1 k.2
 cases h
end CS
theorem u'(a:Nat->Bool)(m:Nat):dY a (m+1)=dY a m++(if a m then [m] else []):=by unfold dY;rw[pD,vu];congr 1;by_cases h:a m<;>simp[h]
theorem zq(h: ∀j,j<m->u j=true):dY u m=List.range m:=by unfold dY;exact List.filter_eq_self.2 λj a=>h j (s0.1 a)
structure Jh (P:Program) (f g:FuncId):Prop where
 run: ∀(vs:Nat->Value) (b off n cap:Nat) (ty:TypeId) (cur:Array Value) (db:Nat->Bool) (w:World) (bO:w.heap[b]? =some (.cells cur ty (0,0))) (cG:off+n<=cur.size) (bJ: ∀j,j<n->cur[off+j]? =some (vs j)) (nj: ∀j,(vs j).oneCell'=true) (Hp:n<=cap) (hm:cap<=maxLen) (xv:db 0=true) (r': ∀j W,0<j->j<n->w.heap.size<=W.heap.size->(∀k,k≠b->W.heap[k]? =w.heap[k]?)->Calls P g #[vs j,vs (j-1)] W λe gy=>e= .returned (.bool (!db j))/\ ∃q,gy=W.drewN q),Calls P f #[.slice (some ⟨b,off,none⟩) n cap,.func (.func g) #[] #[]] w λe w'=>e= .returned (.slice (some ⟨b,off,none⟩) (dY db n).length cap)/\Ext (λx=>x=b) w w'/\ ∃e3,w'.heap[b]? =some (.cells e3 ty (0,0))/\e3.size=cur.size/\(∀i,i<(dY db n).length->e3[off+i]? =some (vs ((dY db n).getD i 0)))/\ ∀i,(dY db n).length<=i->i<n->e3[off+i]? =some (.slice none 0 0)
 pd: ∀(a:Option Addr) (c:Nat) (w:World),Calls P f #[.slice a 0 c,.func (.func g) #[] #[]] w λe w'=>e= .returned (.slice a 0 c)/\w'=w
structure DU (P:Program) (g:FuncId):Prop where
 both: ∀(cT hg n c cu ky m d:Nat) (xs ys:List Int) (w:World),xs.length=n->ys.length=m->n<=9223372036854775807->m<=9223372036854775807->(∀j,j<xs.length->w.cell? ⟨cT,hg+j,none⟩=some (.int .i64 (xs.getD j 0)))->
  (∀j,j<ys.length->w.cell? ⟨cu,ky+j,none⟩=some (.int .i64 (ys.getD j 0)))->
  Calls P g #[.slice (some ⟨cT,hg,none⟩) n c,.slice (some ⟨cu,ky,none⟩) m d] w λe w'=>e= .returned (.bool (xs==ys))/\ ∃q,w'=w.drewN q
 lens: ∀(aJ a2:Option Addr) (n c m d:Nat) (w:World),n≠m->Calls P g #[.slice aJ n c,.slice a2 m d] w λe w'=>e= .returned (.bool false)/\w'=w
 pd: ∀(aJ a2:Option Addr) (c m d:Nat) (w:World),m<=9223372036854775807->Calls P g #[.slice aJ 0 c,.slice a2 m d] w λe w'=>e= .returned (.bool (decide (m=0)))/\w'=w
theorem abh{P:Program}(h:DU P g){w0:World}(A: ∀a v,w0.cell? a=some v->w.cell? a=some v){d l:List Int}{u z:Value}(F:cW w0 X (.aD (d.map j1)) u)(B:cW w0 X (.aD (l.map j1)) z)(I:d.length<=1000000000)(K:l.length<=1000000000):
  Calls P g #[u,z] w λe i=>e= .returned (.bool (d==l))/\ ∃q,i=w.drewN q:=by
 have m: ∀{e:Ending} {i:World} {c:Bool},e= .returned (.bool c)/\i=w->(d==l)=c->e= .returned (.bool (d==l))/\ ∃q,i=w.drewN q:=by
  rintro e i c ⟨rfl,rfl⟩ rfl;exact⟨rfl,0,rfl⟩
 rcases wx F with ⟨rfl,a,c,rfl⟩|⟨b,o,c,G,rfl,H⟩
 ·rcases wx B with ⟨rfl,n,k,rfl⟩|⟨p,r,k,C,rfl,D⟩
  ·exact(h.pd a n c 0 k w O).mono λe i q=>m q aX
  refine(h.pd a (some ⟨p,r,none⟩) c l.length k w O).mono λe i q=>m q ?_;cases l with
  |nil=>simp at C
  |cons y l=>simp
 rcases wx B with ⟨rfl,n,k,rfl⟩|⟨p,r,k,C,rfl,D⟩
 ·refine(h.lens (some ⟨b,o,none⟩) n d.length c 0 k w O).mono λe i q=>m q ?_;cases d with
  |nil=>simp at G
  |cons x d=>simp
 exact h.both b o d.length c p r l.length k d l w rfl rfl O O (λj s=>A _ _ (H j s)) λj s=>A _ _ (D j s)
theorem Yt(h:(dY u m)[i]? =some p):p<m:=by have:=bF h;unfold dY at this;exact s0.1 (List.mem_filter.1 this).1
theorem Xg(a:Nat->Bool)(m:Nat):(dY a m).length<=m:=by unfold dY;exact gr (List.length_filter_le _ _) aX
theorem Xh{iD:Nat}(h:(dY u m)[i]? =some p)(a:(dY u m)[iD]? =some p):i=iD:=by
 have c:(dY u m).Nodup:=by unfold dY;exact List.nodup_range.filter _
 exact(List.getElem?_inj (bR.1 h).1 c).1 (h.trans a.symm)
section ab2
variable {P:Program}
theorem Uq{f:FuncId}(R:Jh P f g)(afg:DU P g)(U:iV P f){n:List dO}{gs:Nat}(eH:(aO n m).size=1)(lF:(aO n m).eg 0=some m1)
  (d:List (List Int)) (cD: ∀l∈d,l.length<=1000000000):
  iQ P G f [.a' n m gs (d.map (aZ ae)) []] [ms 0 gs 1 (aZ ae) d,.fn g []] (ms 0 gs 1 (aZ ae) (gB d)) [.a' n m gs ((gB d).map (aZ ae)) []]:=by
 refine⟨U,?_⟩;intro w X r Y jV ha ks fM;have sa:Y.length=2:=fM.length;obtain⟨hM,fZ,rfl⟩: ∃a b,Y=[a,b]:=by
  match Y,sa with
  | [a,b],_=>exact⟨a,b,rfl⟩
 have D:=Rel.lQ (P:=P) (nt:=2) jV ha ks fM (cN _);obtain⟨t,sk,_⟩:=fM;obtain rfl:fZ= .func (.func g) #[] #[]:=by
  cases sk with
  |fn _ _ Y hs _=>
   have:Y= #[]:=IX hs;rw[this]
 generalize Hl:({tmps:=[hM,Value.func (.func g) #[] #[]].toArray++Array.replicate (2-[hM,Value.func (.func g) #[] #[]].toArray.size) undef,defers:=[]}:Act)=act at D;generalize me:Ctx.dG P G w X [E.a' n m gs (d.map (aZ ae)) []].length r 2=K at D;have r8:K.X=X:=by rw[<-me];rfl
 generalize kS:Lift.lQ [E.a' n m gs (d.map (aZ ae)) []] [ms 0 gs 1 (aZ ae) d,.fn g []]=z at D;have A:z.H 0=some (.a' n m gs (d.map (aZ ae)) []):=by rw[<-kS];rfl
 have M:z.H=eQ [E.a' n m gs (d.map (aZ ae)) []] 0:=by rw[<-kS];rfl
 have N:own K r z.H=lN X r (eQ [E.a' n m gs (d.map (aZ ae)) []] 0):=by funext b;rw[M];show(K.X b\/_)=_;rw[r8];rfl
 rw[<-N] at t;have r7:aU z.H 0 (some (E.a' n m gs ((gB d).map (aZ ae)) []))=eQ [E.a' n m gs ((gB d).map (aZ ae)) []] 0:=by
  rw[M];funext j
  match j with
  |0=>rfl
  |j+1=>rfl
 have S: ∀(o:Map) (w':World) (v:Value),Rel K o {z with H:=aU z.H 0 (some (.a' n m gs ((gB d).map (aZ ae)) []))} act w'->bn o w' (own K o (aU z.H 0 (some (.a' n m gs ((gB d).map (aZ ae)) [])))) (ms 0 gs 1 (aZ ae) (gB d)) v->
   ∃u,∃_i:Unit,∃β,Ending.returned v= .returned u/\True/\Left r β [E.a' n m gs (d.map (aZ ae)) []] [E.a' n m gs ((gB d).map (aZ ae)) []] w w' X (ms 0 gs 1 (aZ ae) (gB d)) u:=by
  intro o w' v b7 F;subst me;obtain⟨β,sn⟩:=Dg (out:=[E.a' n m gs ((gB d).map (aZ ae)) []]) b7 (cN _) F rfl (by
   intro id e0 I;refine⟨⟨e0,?_,jh.refl _⟩,?_⟩
   ·show aU z.H 0 _ id=_;rw[r7];exact I
   match id with
   |0=>cases I;exact⟨rfl,rfl⟩
   |k+1=>cases I)
  exact⟨_,(),β,rfl,trivial,sn⟩
 have T:z.H 0≠none:=by rw[A];simp
 have iB:1<=gs:=(D.heap 0 _ A).2.1;have oM:=Mh (sz:=1) (D.heap 0 _ A).2 eH t;rcases oM with ⟨rfl,h1,C⟩|⟨b,cap,s,B,rfl,C,oX,kT,oZ,BJ,b7,Ha⟩
 ·have o2:d=[]:=by simpa using h1
  subst o2;refine(R.pd none 0 w).mono ?_;rintro e1 gv ⟨rfl,rfl⟩;have e0:gB []=[]:=rfl;refine S r _ _ ?_ ?_
  ·have:=D.yi 0 _ A;rw[e0];exact this
  rw[e0];exact .hd 0 gs 1 iB C
 have uq:own K r z.H b:= .inr ⟨0,T,.inl ⟨_,C⟩⟩;rw[c6] at oZ;have hlen:d.length<=s.size:=O
 have L: ∀(j:Nat) (q:j<d.length),cW w (λx=>x=b) (.aD (d[j].map j1)) (s[j]' O):=λj q=>by
  have se:=b7 j 0 (aZ ae d[j]) (.aD (d[j].map j1)) _ (by rw[et,bs q];rfl) rfl (by rw[show j*1+0=j by omega];exact hr O);exact se.yj (λx hx=>by rw[show x=b from hx];exact uq) λc bP e=>Ha j 0 c bP e
 obtain⟨vs,uy⟩: ∃vs:Nat->Value,vs=λj=>if j<d.length then s.getD j undef else .slice none 0 0:=⟨_,rfl⟩
 have F: ∀j (q:j<d.length),vs j=s[j]' O:=λj q=>by
  rw[uy];show(if j<d.length then _ else _)=_;rw[a1 q];simp[show j<s.size by omega]
 have nj: ∀j,(vs j).oneCell'=true:=λj=>by
  by_cases q:j<d.length
  ·rw[F j q];exact(L j q).iJ
  rw[uy];show(if j<d.length then _ else _:Value).oneCell'=true;rw[a6 q];rfl
 have run:=R.run vs b 0 d.length cap (aO n m).ty s (kP d) w oX O (λj q=>by rw[dp,F j q];exact hr O) nj oZ BJ (by simp[kP]) (λj W hj0 q kW lE=>by
  have jt:Ext (λx=>x=b) w {w with heap:=W.heap}:=⟨rfl,rfl,rfl,kW,λk _ hk=>lE k hk⟩
  have e:=abh afg (w0:={w with heap:=W.heap}) (w:=W) (λ_ _ h=>h) ((L j q).mono jt λ_ _ h=>h) ((L (j-1) O).mono jt λ_ _ h=>h) (cD _ (fx _)) (cD _ (fx _));rw[F j q,F (j-1) O];have hk:(d[j]==d[j-1]' O)= !kP d j:=by
   have g1:d.getD j []=d[j]:=by rw[eu,bs q];rfl
   have g2:d.getD (j-1) []=d[j-1]' O:=by rw[eu,bs O];rfl
   unfold kP;rw[g1,g2]
   have:j≠0:=O
   by_cases C:d[j]=d[j-1]' O
   ·simp[this,C]
   simp[this,C]
  rw[hk] at e;exact e)
 rw[c6];refine run.mono ?_;rintro e1 gv ⟨rfl,jt,e3,Q,kV,HB,agd⟩;have y:(gB d).length=(dY (kP d) d.length).length:=by unfold gB;rw[c6]
 have age:=Xg (kP d) d.length;obtain⟨o,adW,qj⟩:=D.pick 0 A eH lF C oX kV Q jt ((gB d).map (aZ ae)) (by rw[c6,y];omega) (λi=>(dY (kP d) d.length)[i]?) (λi p h=>by
   have aH:=(bR.1 h).1;have hp:=Yt h;have h1:=HB i aH;rw[dp,eu,h,Option.getD_some,F p hp] at h1;refine⟨by rw[c6,y];exact aH,by rw[c6];exact hp,?_,?_⟩
   ·rw[h1,hr O]
   ·unfold gB;rw[et,et,et,h,bs hp];show some (aZ ae (d.getD p []))=some (aZ ae d[p]);rw[eu,bs hp];rfl) (λi iD p h mc=>Xh h mc) (λi aH h=>by
   rw[c6,y] at aH;rw[bs aH] at h;cases h)
 refine S o _ _ qj ?_;have kr:b<gv.heap.size:=(jc.1 Q).1
 have:=bn.bc (β:=o) (w:=gv) (X:=own K o (aU z.H 0 (some (.a' n m gs ((gB d).map (aZ ae)) [])))) 0 gs 1 0 (gB d).length cap b e3.size (aO n m).ty iB (by rw[adW];exact C) kr (by unfold World.shape?;rw[Q]) O (by rw[y];omega) BJ;rw[y,fY] at this;rw[show ms 0 gs 1 (aZ ae) (gB d)=V.bc 0 gs 1 0 (dY (kP d) d.length).length by rw[<-y,show(gB d).length=(List.map (aZ ae) (gB d)).length by rw[c6]]];exact this
end ab2
end Go.Lift
