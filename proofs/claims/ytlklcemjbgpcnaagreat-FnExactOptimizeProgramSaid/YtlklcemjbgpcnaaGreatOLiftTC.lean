/- Tools. -/
import Derived.Test.YtlklcemjbgpcnaaGreatOLiftSort
set_option linter.unusedVariables false
namespace Go.Lift
open Go
open Option renaming some -> aa, none -> aj, map_some -> gS
def Map.sub(a:Map)(k:Nat)(N:Nat->Prop):Map:=⟨a.f,λid b=>a.n id b/\(id=k->N b)⟩
variable {G:fe}{k n b m gen m1 i p:Nat}{K:Ctx}{β:Map}{s:S}{a:Act}{w:World}{t:List dM}{X:Nat->Prop}{g:FuncId}{u:Nat->Bool}
theorem yj{G:Map}{N:Nat->Prop}(h:At (G.sub k N) n b):At G n b:=by
 rcases h with h|h
 ·exact .inl h
 exact .inr h.1
theorem Rel.sub(h:Rel K β s a w)(k:Nat)(N:Nat->Prop)(e':E)(r:s.H k≠aj)
  (z:cY (β.sub k N) w (own K (β.sub k N) (aZ s.H k (aa e'))) k e'):Rel K (β.sub k N) {s with H:=aZ s.H k (aa e')} a w:=by
 have d: ∀b,own K (β.sub k N) (aZ s.H k (aa e')) b->own K β s.H b:=by
  rintro b (c|⟨id,l,n⟩)
  ·exact .inl c
  refine .inr ⟨id,λo=>?_,yj n⟩;by_cases m:id=k
  ·subst m;exact r o
  rw[cg _ _ _ _ m] at l;exact l o
 have x:dX β (β.sub k N):=λ_ _ _ c=> .inl c;refine {h with base:=λid hid=>h.base id hid,dT:=λid hid=>h.dT id hid,ev:=λid b hid p=>h.ev id b hid p.1,inj:=λid q b l n=>h.inj id q b (yj l) (yj n),fresh:=λid b p=>h.fresh id b (yj p),heap:= ?_,dB:=λi=>(h.dB i).mono (Ext.refl _ _) (λb _=>d b) x (Shaped.refl _ _)};intro id e c;have c:aZ s.H k (aa e') id=aa e:=c;by_cases m:id=k
 ·subst m;rw[cd] at c;cases c;cases y:s.H id with
  |none=>exact bs y r
  |some o=>exact⟨(h.heap id o y).1,z⟩
 rw[cg _ _ _ _ m] at c;obtain⟨l,n⟩:=h.heap id e c;exact⟨l,n.mono (Ext.refl _ _) (λb _=>d b) x (λ_ h=>h) (Shaped.refl _ _) (λ_ _=>rfl) λb=>⟨λh=>h.1,λh=>⟨h,λe=>bs e m⟩⟩⟩
theorem Rel.pick(h:Rel K β s a w)(k:Nat){r:List dM}{l:List (List T)}(hk:s.H k=aa (.aN r m gen l []))(ep:(aR r m).size=1)(p0:(aR r m).ej 0=aa m1)
   {t:Array Value} (hq:β k=aa (aa b,gen)) (a1:w.heap[b]? =aa (.cells t (aR r m).ty (0,0)))
  {w':World} {A:Array Value} (hs:A.size=t.size) (F:w'.heap[b]? =aa (.cells A (aR r m).ty (0,0))) (v:Ext (λx=>x=b) w w') (d:List (List T)) (cC:d.length<=t.size) (G:Nat->Option Nat)
  (W: ∀i p,G i=aa p->i<d.length/\p<l.length/\A[i]? =t[p]? /\d[i]? =l[p]?) (aiq: ∀i I p,G i=aa p->G I=aa p->i=I) (C: ∀i,i<d.length->G i=aj->A[i]? =aa (.slice aj 0 0)/\d[i]? =aa [.bE []]):
  ∃β',(∀id,β' id=β id)/\Rel K β' {s with H:=aZ s.H k (aa (.aN r m gen d []))} a w':=by
 have M:s.H k≠aj:=by rw[hk];simp
 obtain⟨jc,jB⟩:=(h.heap k _ hk).2;obtain⟨B,hlen,N,L,U,ahJ,R9⟩: ∃B:Nat->Nat->Nat->Prop,l.length*(aR r m).size<=t.size/\(∀o,o∈l->o.length=(aR r m).size)/\
   (∀(i j:Nat) (o:List T) (x:T) (u:Value),l[i]? =aa o->o[j]? =aa x->t[i*(aR r m).size+j]? =aa u->Cell r m [] β w (own K β s.H) i j x u (B i j))/\
   (∀i j c,B i j c->i<l.length/\j<(aR r m).size/\c≠b)/\(∀i j I ey c,B i j c->B I ey c->i=I/\j=ey)/\ ∀c,β.n k c↔ ∃i j,B i j c:=by
  rcases jB with ⟨y,_⟩|⟨cB,rV,B,y,Q,g,h4,h5,h6,mR,nP⟩
  ·rw[hq] at y;cases y
  rw[hq] at y;cases y;rw[a1] at Q;cases Q;exact⟨B,g,h4,h5,h6,mR,nP⟩
 rw[ep] at hlen N L U;have V:own K β s.H b:= .inr ⟨k,M,.inl ⟨_,hq⟩⟩;have Sq:b<w.heap.size:=(iR.1 a1).1
 -- the block told anew, its rows not told
 have mc:=h.setRow k b (.inl ⟨_,hq⟩) t (aR r m).ty a1 A hs (.arr (aR r m).ty gen 1 []) M ⟨jc,.inr ⟨b,A,hq,setRow_heap _ _ _ _ _ _ a1,a7,a7,λi j o x u y=>by simp at y⟩⟩;have dQ:Rel K β {s with H:=aZ s.H k (aa (.arr (aR r m).ty gen 1 []))} a w':=by
  refine mc.grow ⟨v.os,v.tape,v.output,?_,λx hx _=>?_⟩
  ·have:=v.size;simpa using this
  by_cases e:x=b
  ·subst e;rw[F,setRow_heap _ _ _ _ _ _ a1]
  rw[setRow_other _ _ _ _ e];exact v.keep x (by simpa using hx) e
 refine⟨β.sub k λc=> ∃i p,G i=aa p/\B p 0 c,λ_=>rfl,?_⟩;have hC:=dQ.sub k (λc=> ∃i p,G i=aa p/\B p 0 c) (.aN r m gen d []) (by show aZ s.H k _ k≠aj;rw[cd];simp) ?_
 ·have e:aZ (aZ s.H k (aa (E.arr (aR r m).ty gen 1 []))) k (aa (.aN r m gen d []))=aZ s.H k (aa (.aN r m gen d [])):=by
   funext i;by_cases D:i=k
   ·subst D;rw[cd,cd]
   rw[cg _ _ _ _ D,cg _ _ _ _ D,cg _ _ _ _ D]
  have R':Rel K _ {s with H:=aZ (aZ s.H k (aa (E.arr (aR r m).ty gen 1 []))) k (aa (.aN r m gen d []))} a w':=hC;rw[e] at R';exact R'
 have gZ: ∀x,own K (β.sub k λc=> ∃i p,G i=aa p/\B p 0 c) (aZ (aZ s.H k (aa (E.arr (aR r m).ty gen 1 []))) k (aa (.aN r m gen d []))) x->own K β s.H x:=by
  rintro x (hx|⟨id,y,Q⟩)
  ·exact .inl hx
  refine .inr ⟨id,λe0=>?_,yj Q⟩;by_cases D:id=k
  ·subst D;exact M e0
  rw[cg _ _ _ _ D,cg _ _ _ _ D] at y;exact y e0
 have ahM:Ext (own K β s.H) w w':=v.weaken λx _ e=>by rw[show x=b from e];exact V
 refine⟨jc,.inr ⟨b,A,λi j c=>j=0/\ ∃p,G i=aa p/\B p 0 c,hq,F,by rw[ep];omega,λo rn=>?_,λi j o x u y Q g=>?_,λi j c bS=>?_,λi j I ey c bS Y=>?_,λc=>?_⟩⟩
 ·obtain⟨i,D⟩:=j1.1 rn;have X:=(b5.1 D).1;rw[ep];cases q:G i with
  |none=>rw[(C i X q).2] at D;cases D;rfl
  |some p=>rw[(W i p q).2.2.2] at D;exact N o (bT D)
 ·have X:=(b5.1 y).1;rw[ep] at g;have hj0:j=0:=by
   have hjl:=(b5.1 Q).1;cases q:G i with
   |none=>rw[(C i X q).2] at y;cases y;simpa using hjl
   |some p=>rw[(W i p q).2.2.2] at y;have:=N o (bT y);omega
  subst hj0;rw[show i*1+0=i by omega] at g;refine Cell.of ?_;cases q:G i with
  |none=>
   obtain⟨aL,a2⟩:=C i X q;rw[a2] at y;cases y;rw[aL] at g;cases g;simp only[List.getElem?_cons_zero,Option.some.injEq] at Q;subst Q;rw[p0];exact .nil m1 _ (λc bS=>by obtain⟨_,p,R,_⟩:=bS;rw[q] at R;cases R)
  |some p=>
   obtain⟨a0,aL,a2,a3⟩:=W i p q;rw[a3] at y;rw[a2] at g;have bS:=(L p 0 o x u y Q (by rw[show p*1+0=p by omega];exact g)).none;have Y:=bS.mono ahM (λx _=>gZ x) λc tj=>v.keep c (h.fresh k c (.inr ((R9 c).2 ⟨p,0,tj⟩))).2 (U p 0 c tj).2.2;exact Y.iff λc=>⟨λ⟨_,Tf,f,F⟩=>by rw[q] at f;cases f;exact F,λF=>⟨rfl,p,q,F⟩⟩
 ·obtain⟨rfl,p,R,z⟩:=bS;rw[ep];exact⟨(W i p R).1,O,(U p 0 c z).2.2⟩
 ·obtain⟨rfl,p,R,z⟩:=bS;obtain⟨rfl,Tf,f,ahZ⟩:=Y
  have:=(ahJ p 0 Tf 0 c z ahZ).1;subst this;exact⟨aiq i I p R f,rfl⟩
 constructor
 ·rintro⟨_,Q⟩;obtain⟨i,p,R,z⟩:=Q rfl;exact⟨i,0,rfl,p,R,z⟩
 rintro⟨i,j,rfl,p,R,z⟩;exact⟨(R9 c).2 ⟨p,0,z⟩,λ_=>⟨i,p,R,z⟩⟩
open Go.Proofs
theorem ad2{R:Type}{l l':List R}(h:l.Perm l'): ∃d:Nat->Nat,(∀i,i<l'.length->d i<l.length/\l'[i]? =l[d i]?)/\ ∀i j,i<l'.length->j<l'.length->d i=d j->i=j:=by
 induction h with
 |nil=>exact⟨id,λi c=>bs c (pv _),λi j c=>bs c (pv _)⟩
 |cons a _ s=>
  obtain⟨d,m,n⟩:=s;refine⟨λi=>match i with|0=>0|i+1=>d i+1,λi c=>?_,λi j c k e=>?_⟩
  ·match i with
   |0=>exact⟨a7,rfl⟩
   |i+1=>
    obtain⟨aL,a2⟩:=m i (by simpa using c);exact⟨by simpa using aL,by simpa using a2⟩
  match i,j with
  |0,0=>rfl
  |0,j+1=>simp at e
  |i+1,0=>simp at e
  |i+1,j+1=>simp at e;rw[n i j (by simpa using c) (by simpa using k) e]
 |swap a b l=>
  refine⟨λi=>match i with|0=>1|1=>0|i+2=>i+2,λi c=>?_,λi j c k e=>?_⟩
  ·match i with
   |0=>exact⟨a7,rfl⟩
   |1=>exact⟨a7,rfl⟩
   |i+2=>exact⟨by simpa using c,a7⟩
  match i,j with
  |0,0=>rfl
  |0,1=>simp at e
  |0,j+2=>simp at e
  |1,0=>simp at e
  |1,1=>rfl
  |1,j+2=>simp at e
  |i+2,0=>simp at e
  |i+2,1=>simp at e
  |i+2,j+2=>simpa using e
 |trans _ _ o p=>
  obtain⟨d,m,n⟩:=o;obtain⟨r,q,w⟩:=p;refine⟨λi=>d (r i),λi c=>?_,λi j c k e=>?_⟩
  ·obtain⟨aL,a2⟩:=q i c;obtain⟨a3,a4⟩:=m (r i) aL;exact⟨a3,a2.trans a4⟩
  exact w i j c k (n _ _ (q i c).1 (q j k).1 e)
theorem OL{G:Map}{sz:Nat}{a:List (List T)}{x:Value}(C:cY G w X k (.aN t m gen a []))(F:(aR t m).size=sz)(H:bt G w X (.bo k gen sz 0 a.length) x):
  (x= .slice aj 0 0/\a=[]/\G k=aa (aj,gen))\/ ∃(b d:Nat) (e:Array Value) (B:Nat->Nat->Nat->Prop),x= .slice (aa ⟨b,0,aj⟩) a.length d/\G k=aa (aa b,gen)/\w.heap[b]? =aa (.cells e (aR t m).ty (0,0))/\e.size=d*sz/\a.length<=d/\d<=maxLen/\
   (∀(i j:Nat) (l:List T) (y:T) (u:Value),a[i]? =aa l->l[j]? =aa y->e[i*sz+j]? =aa u->gk t w X ((aR t m).ej j) y u (B i j))/\ ∀i j c,B i j c->c≠b:=by
 obtain⟨q,o⟩:=uD C;rcases fl H o with ⟨d,b,n,K,rfl,rfl,E,h,r,L,s⟩|⟨rfl,_,z,rfl⟩
 ·rcases C.2 with ⟨p,_⟩|⟨I,e,B,p,D,M,N,Q,R,_⟩
  ·rw[o] at p;cases p
  rw[o] at p;cases p;have A:e.size=d*sz:=by
   unfold World.shape? at h;rw[D] at h;simp at h;rw[<-r] at h;rw[dI] at h;exact h.2
  refine .inr ⟨b,d,e,B,by rw[gQ],o,D,A,L,s,λi j l y u W f g=>(Q i j l y u W f (by rw[F];exact g)).none,λi j c v=>(R i j c v).2.2⟩
 exact .inl ⟨rfl,ns z,o⟩
section ED
open Go.Shelf Go.RowKit Go.Lib Go.Sort
variable {P:Program}{ρ:Ren}
theorem ade(L:SlLaysF.n6 P ρ)(raw:uC P g)(JF: ∀args w,(callFunc g args).run P w= .ok (.enter g args) w)(call:iH P (ρ.f 6)){q:List dM}{s:Nat}(ep:(aR q m).size=1)(p0:(aR q m).ej 0=aa m1)
  (rows:List (List Int)) (cK:rows.length<=1000000000) (cC: ∀l∈rows,l.length<=1000000000):
  ig P G (ρ.f 6) [.aN q m s (rows.map (bn ah)) []] [ms 0 s 1 (bn ah) rows,.fn g []] (.bX []) [.aN q m s ((fC rows).map (bn ah)) []]:=by
 refine⟨call,?_⟩;intro w X z us kn gZ k4 hT;have tl:us.length=2:=hT.length;obtain⟨iv,hl,rfl⟩: ∃a b,us=[a,b]:=by
  match us,tl with
  | [a,b],_=>exact⟨a,b,rfl⟩
 have Y:=Rel.mr (P:=P) (nt:=2) kn gZ k4 hT (da _);obtain⟨tt,tu,_⟩:=hT;obtain rfl:hl= .func (.func g) #[] #[]:=by
  cases tu with
  |fn _ _ us hs _=>
   have:us= #[]:=K5 hs;rw[this]
 generalize J2:({tmps:=[iv,Value.func (.func g) #[] #[]].toArray++Array.replicate (2-[iv,Value.func (.func g) #[] #[]].toArray.size) undef,defers:=[]}:Act)=act at Y;generalize kZ:Ctx.dL P G w X [E.aN q m s (rows.map (bn ah)) []].length z 2=K at Y;have th:K.X=X:=by rw[<-kZ];rfl
 generalize lv:Lift.mr [E.aN q m s (rows.map (bn ah)) []] [ms 0 s 1 (bn ah) rows,.fn g []]=Q at Y;have R:Q.H 0=aa (.aN q m s (rows.map (bn ah)) []):=by rw[<-lv];rfl
 have yV:Q.H=er [E.aN q m s (rows.map (bn ah)) []] 0:=by rw[<-lv];rfl
 have Ki:own K z Q.H=hZ X z (er [E.aN q m s (rows.map (bn ah)) []] 0):=by funext b;rw[yV];show(K.X b\/_)=_;rw[th];rfl
 rw[<-Ki] at tt;have tg:aZ Q.H 0 (aa (E.aN q m s ((fC rows).map (bn ah)) []))=er [E.aN q m s ((fC rows).map (bn ah)) []] 0:=by
  rw[yV];funext j
  match j with
  |0=>rfl
  |j+1=>rfl
 have fin: ∀(W:Map) (w':World),Rel K W {Q with H:=aZ Q.H 0 (aa (.aN q m s ((fC rows).map (bn ah)) []))} act w'->
   ∃u,∃_i:Unit,∃β,Ending.returned (.tuple #[])= .returned u/\True/\Left z β [E.aN q m s (rows.map (bn ah)) []] [E.aN q m s ((fC rows).map (bn ah)) []] w w' X (.bX []) u:=by
  intro W w' b8;subst kZ;obtain⟨β,tv⟩:=Fk (out:=[E.aN q m s ((fC rows).map (bn ah)) []]) b8 (da _) (.bX [] #[] rfl λi c u bS _=>by simp at bS) rfl (by
   intro id e0 I;refine⟨⟨e0,?_,j8.refl _⟩,?_⟩
   ·show aZ Q.H 0 _ id=_;rw[tg];exact I
   match id with
   |0=>cases I;exact⟨rfl,rfl⟩
   |k+1=>cases I)
  exact⟨_,(),β,rfl,trivial,tv⟩
 have Dz:Q.H 0≠aj:=by rw[R];simp
 have pK:=OL (sz:=1) (Y.heap 0 _ R).2 ep tt;rcases pK with ⟨rfl,h1,hq⟩|⟨b,cap,o,B,rfl,hq,C,lx,pZ,DH,b8,JR⟩
 ·have p2:rows=[]:=by simpa using h1
  subst p2;refine(AnyF.slices_SortFunc_none (P:=P) (ρ:=ρ) {L with} aj 0 _ w).mono ?_;rintro e1 fO ⟨rfl,rfl⟩;refine fin z _ ?_
  have:=Y.z1 0 _ R;rw[show fC []=[] by simp[fC]];exact this
 have vL:own K z Q.H b:= .inr ⟨0,Dz,.inl ⟨_,hq⟩⟩;rw[dJ] at pZ;have hlen:rows.length<=o.size:=O
 have mh: ∀(j:Nat) (M:j<rows.length),cV w (λx=>x=b) (.bE (rows[j].map iJ)) (o[j]' O):=λj M=>by
  have tr:=b8 j 0 (bn ah rows[j]) (.bE (rows[j].map iJ)) _ (by rw[eQ,bu M];rfl) rfl (by rw[show j*1+0=j by omega];exact h8 O);exact tr.wW (λx hx=>by rw[show x=b from hx];exact vL) λc bS e=>JR j 0 c bS e
 obtain⟨F,te,tf⟩: ∃F:Fin rows.length->ec w λx=>x=b,(∀j,(F j).enc=o[j.1]'(by have:=j.2;omega))/\ ∀j,(F j).cb=rows[j.1]:=
  ⟨λj=>⟨(o[j.1]'(by have:=j.2;omega),rows[j.1]),mh j.1 j.2,cC _ (gg j.2)⟩,λ_=>rfl,λ_=>rfl⟩
 obtain⟨d,cO⟩: ∃d:Array (ec w λx=>x=b),d=Array.ofFn F:=⟨_,rfl⟩
 have D:d.size=rows.length:=by rw[cO];exact Array.size_ofFn
 have t: ∀(j:Nat) (M:j<d.size),d[j].enc=o[j]' O/\d[j].cb=rows[j]' O:=λj M=>by
  subst cO;rw[Array.getElem_ofFn];exact⟨te _,tf _⟩
 have nR:(d.map ec.cb).toList=rows:=by
  refine List.ext_getElem (by simp[D]) λj h1 h2=>?_;rw[Array.getElem_toList,Array.getElem_map];exact(t j O).2
 have hH:Holds ec.enc w b 0 d:=λj M=>by
  rw[dI,getElem!_pos d j M,(t j M).1];refine⟨?_,by simp[World.frozen?,C]⟩
  have:j<o.size:=O
  simp[World.cell?,C,this]
 have tk:CmpLays1 P g #[] ec.enc u' b 0 d.size w:=CmpReads.lays (λm os dk hs x y=>by
  have hE:=ID (w:=w) (X:=λx=>x=b) (b:=b) (m:=m) (dk:=dk) (os:=os) rfl;exact(Q5 raw (x.2.1.mono hE λ_ _ h=>h) (y.2.1.mono hE λ_ _ h=>h) x.2.2 y.2.2).mono (by
   rintro e1 fO ⟨rfl,rfl⟩;exact⟨rfl,0,rfl⟩))
 have run:=Any.slices_SortFunc L ec.enc ec.one u' QY g #[] b 0 cap d w JF tk hH (iR.1 C).1 O;rw[D] at run;rw[dJ];refine run.mono ?_;rintro e1 fO ⟨rfl,r,n,os,N,hs,lC⟩;rw[<-D] at N hs;have S:=Oz N hs;rw[nR] at S;have v:r.size=d.size:=N.1;obtain⟨T,ajs,ajt⟩:=ad2 (l:=d.toList) (l':=r.toList) (by
  have h2:=N.2.2;have e1:r.extract 0 d.size=r:=by rw[<-v];simp
  have e2:d.extract 0 d.size=d:=a7
  rw[e1,e2] at h2;exact h2.symm)
 have U:(Sort.ahead w n).heap[b]? =aa (.cells o (aR q m).ty (0,0)):=C;have rn:sortWorld ec.enc w b 0 n r os=grow ((Sort.ahead w n).setRow b (putCells ec.enc 0 r o)) os:=by
  show grow (putRow ec.enc (Sort.ahead w n) b 0 r) os=_;congr 1;exact Mu U _
 have hCs:(putCells ec.enc 0 r o).size=o.size:=by simp[putCells]
 have Si: ∀i,i<r.size->(putCells ec.enc 0 r o)[i]? =aa (r[i]!).enc:=λi A=>by
  unfold putCells;rw[Array.getElem?_mapIdx,h8 O];simp only[gS];rw[bb O,Nat.sub_zero]
 have ahS:fO.heap[b]? =aa (.cells (putCells ec.enc 0 r o) (aR q m).ty (0,0)):=by
  rw[lC,rn];show(_++os)[b]? =_;have J4:b<((Sort.ahead w n).setRow b (putCells ec.enc 0 r o)).heap.size:=(iR.1 (setRow_heap _ _ _ _ _ _ U)).1;rw[Array.getElem?_append_left J4];exact setRow_heap _ _ _ _ _ _ U
 have ahL:Ext (λx=>x=b) w fO:=by rw[lC];exact ID rfl
 have ah6:r.size=rows.length:=by rw[v,D]
 have V:(fC rows).length=rows.length:=by rw[<-S,pr,Array.size_map,ah6]
 have aik: ∀i (A:i<rows.length),∃N:T i<rows.length,(putCells ec.enc 0 r o)[i]? =o[T i]? /\(fC rows)[i]? =rows[T i]? :=λi A=>by
  obtain⟨aL,a2⟩:=ajs i (by rw[pr];omega);rw[pr,D] at aL;rw[qv,qv,h8 O,h8 O] at a2;have a3:r[i]' O=d[T i]' O:=by simpa using a2
  refine⟨aL,?_,?_⟩
  ·rw[Si i O,getElem!_pos r i O,a3,(t (T i) O).1,h8 O]
  rw[<-S,qv,Array.getElem?_map,h8 O,gS,a3,(t (T i) O).2,bu aL]
 obtain⟨W,_,hR⟩:=Y.pick 0 R ep p0 hq C hCs ahS ahL ((fC rows).map (bn ah)) (by rw[dJ,V];omega) (λi=>if i<rows.length then aa (T i) else aj) (λi p h=>by
   by_cases A:i<rows.length
   ·rw[bb A] at h;cases h;obtain⟨N,e1,e2⟩:=aik i A;exact⟨by rw[dJ,V];exact A,by rw[dJ];exact N,e1,by rw[eQ,eQ,e2]⟩
   ·rw[a8 A] at h;cases h) (λi jd p h h'=>by
   by_cases A:i<rows.length
   ·by_cases yZ:jd<rows.length
    ·rw[bb A] at h;rw[bb yZ] at h';exact ajt i jd (by rw[pr];omega) (by rw[pr];omega) (Option.some.inj (h.trans h'.symm))
    rw[a8 yZ] at h';cases h'
   ·rw[a8 A] at h;cases h) (λi A h=>by
   rw[dJ,V] at A;rw[bb A] at h;cases h)
 exact fin W _ hR
theorem Zu(L:SlLaysF.n6 P ρ)(b:uC P g)(e: ∀args w,(callFunc g args).run P w= .ok (.enter g args) w)(a:iH P (ρ.f 6))(k:(aR t m).size=1)(c:(aR t m).ej 0=aa i){x r:List (List Int)}(h:mZ x=aa r):
  ig P G (ρ.f 6) [.aN t m n (x.map (bn ah)) []] [ms 0 n 1 (bn ah) x,.fn g []] (.bX []) [.aN t m n (r.map (bn ah)) []]:=by
 unfold mZ at h;split at h
 ·rename_i d;cases h;exact ade L b e a k c x d.1 d.2
 cases h
end ED
theorem wR(a:Nat->Bool)(m:Nat):ei a (m+1)=ei a m++(if a m then [m] else []):=by unfold ei;rw[om,qx];congr 1;by_cases h:a m<;>simp[h]
theorem Bt(h: ∀j,j<m->u j=true):ei u m=List.range m:=by unfold ei;exact List.filter_eq_self.2 λj a=>h j (qt.1 a)
structure Lx (P:Program) (f g:FuncId):Prop where
 run: ∀(vs:Nat->Value) (b off n cap:Nat) (ty:TypeId) (cur:Array Value) (dv:Nat->Bool) (w:World) (bV:w.heap[b]? =aa (.cells cur ty (0,0))) (cK:off+n<=cur.size) (bZ: ∀j,j<n->cur[off+j]? =aa (vs j)) (mS: ∀j,(vs j).oneCell'=true) (J6:n<=cap) (hm:cap<=maxLen) (Kd:dv 0=true) (tk: ∀j W,0<j->j<n->w.heap.size<=W.heap.size->(∀k,k≠b->W.heap[k]? =w.heap[k]?)->Calls P g #[vs j,vs (j-1)] W λe gE=>e= .returned (.bool (!dv j))/\ ∃q,gE=W.drewN q),Calls P f #[.slice (aa ⟨b,off,aj⟩) n cap,.func (.func g) #[] #[]] w λe w'=>e= .returned (.slice (aa ⟨b,off,aj⟩) (ei dv n).length cap)/\Ext (λx=>x=b) w w'/\ ∃fq,w'.heap[b]? =aa (.cells fq ty (0,0))/\fq.size=cur.size/\(∀i,i<(ei dv n).length->fq[off+i]? =aa (vs ((ei dv n).getD i 0)))/\ ∀i,(ei dv n).length<=i->i<n->fq[off+i]? =aa (.slice aj 0 0)
 qb: ∀(a:Option Addr) (c:Nat) (w:World),Calls P f #[.slice a 0 c,.func (.func g) #[] #[]] w λe w'=>e= .returned (.slice a 0 c)/\w'=w
structure FE (P:Program) (g:FuncId):Prop where
 both: ∀(dd hY n c cB hF m d:Nat) (xs ys:List Int) (w:World),xs.length=n->ys.length=m->n<=9223372036854775807->m<=9223372036854775807->(∀j,j<xs.length->w.cell? ⟨dd,hY+j,aj⟩=aa (.int .i64 (xs.getD j 0)))->
  (∀j,j<ys.length->w.cell? ⟨cB,hF+j,aj⟩=aa (.int .i64 (ys.getD j 0)))->
  Calls P g #[.slice (aa ⟨dd,hY,aj⟩) n c,.slice (aa ⟨cB,hF,aj⟩) m d] w λe w'=>e= .returned (.bool (xs==ys))/\ ∃q,w'=w.drewN q
 lens: ∀(aL a2:Option Addr) (n c m d:Nat) (w:World),n≠m->Calls P g #[.slice aL n c,.slice a2 m d] w λe w'=>e= .returned (.bool false)/\w'=w
 qb: ∀(aL a2:Option Addr) (c m d:Nat) (w:World),m<=9223372036854775807->Calls P g #[.slice aL 0 c,.slice a2 m d] w λe w'=>e= .returned (.bool (decide (m=0)))/\w'=w
theorem VN{P:Program}(h:FE P g){w0:World}(A: ∀a v,w0.cell? a=aa v->w.cell? a=aa v){d l:List Int}{u z:Value}(F:cV w0 X (.bE (d.map iJ)) u)(B:cV w0 X (.bE (l.map iJ)) z)(K:d.length<=1000000000)(L:l.length<=1000000000):
  Calls P g #[u,z] w λe i=>e= .returned (.bool (d==l))/\ ∃q,i=w.drewN q:=by
 have m: ∀{e:Ending} {i:World} {c:Bool},e= .returned (.bool c)/\i=w->(d==l)=c->e= .returned (.bool (d==l))/\ ∃q,i=w.drewN q:=by
  rintro e i c ⟨rfl,rfl⟩ rfl;exact⟨rfl,0,rfl⟩
 rcases x3 F with ⟨rfl,a,c,rfl⟩|⟨b,o,c,G,rfl,H⟩
 ·rcases x3 B with ⟨rfl,n,k,rfl⟩|⟨p,r,k,C,rfl,D⟩
  ·exact(h.qb a n c 0 k w O).mono λe i q=>m q a7
  refine(h.qb a (aa ⟨p,r,aj⟩) c l.length k w O).mono λe i q=>m q ?_;cases l with
  |nil=>simp at C
  |cons y l=>simp
 rcases x3 B with ⟨rfl,n,k,rfl⟩|⟨p,r,k,C,rfl,D⟩
 ·refine(h.lens (aa ⟨b,o,aj⟩) n d.length c 0 k w O).mono λe i q=>m q ?_;cases d with
  |nil=>simp at G
  |cons x d=>simp
 exact h.both b o d.length c p r l.length k d l w rfl rfl O O (λj s=>A _ _ (H j s)) λj s=>A _ _ (D j s)
theorem adD(h:(ei u m)[i]? =aa p):p<m:=by have:=bT h;unfold ei at this;exact qt.1 (List.mem_filter.1 this).1
theorem acs(a:Nat->Bool)(m:Nat):(ei a m).length<=m:=by unfold ei;exact eR (EY _ _) a7
theorem acu{jd:Nat}(h:(ei u m)[i]? =aa p)(a:(ei u m)[jd]? =aa p):i=jd:=by
 have b:(ei u m).Nodup:=by unfold ei;exact List.nodup_range.filter _
 exact(List.getElem?_inj (b5.1 h).1 b).1 (h.trans a.symm)
section aho
variable {P:Program}
theorem ZZ{f:FuncId}(t:Lx P f g)(akD:FE P g)(I:iH P f){n:List dM}{gs:Nat}(ep:(aR n m).size=1)(p0:(aR n m).ej 0=aa m1)
  (d:List (List Int)) (cC: ∀l∈d,l.length<=1000000000):
  ig P G f [.aN n m gs (d.map (bn ah)) []] [ms 0 gs 1 (bn ah) d,.fn g []] (ms 0 gs 1 (bn ah) (gW d)) [.aN n m gs ((gW d).map (bn ah)) []]:=by
 refine⟨I,?_⟩;intro w X r M kn gZ k4 hT;have tl:M.length=2:=hT.length;obtain⟨iv,hl,rfl⟩: ∃a b,M=[a,b]:=by
  match M,tl with
  | [a,b],_=>exact⟨a,b,rfl⟩
 have D:=Rel.mr (P:=P) (nt:=2) kn gZ k4 hT (da _);obtain⟨N,tu,_⟩:=hT;obtain rfl:hl= .func (.func g) #[] #[]:=by
  cases tu with
  |fn _ _ M hs _=>
   have:M= #[]:=K5 hs;rw[this]
 generalize J2:({tmps:=[iv,Value.func (.func g) #[] #[]].toArray++Array.replicate (2-[iv,Value.func (.func g) #[] #[]].toArray.size) undef,defers:=[]}:Act)=act at D;generalize kZ:Ctx.dL P G w X [E.aN n m gs (d.map (bn ah)) []].length r 2=K at D;have th:K.X=X:=by rw[<-kZ];rfl
 generalize lv:Lift.mr [E.aN n m gs (d.map (bn ah)) []] [ms 0 gs 1 (bn ah) d,.fn g []]=z at D;have A:z.H 0=aa (.aN n m gs (d.map (bn ah)) []):=by rw[<-lv];rfl
 have S:z.H=er [E.aN n m gs (d.map (bn ah)) []] 0:=by rw[<-lv];rfl
 have T:own K r z.H=hZ X r (er [E.aN n m gs (d.map (bn ah)) []] 0):=by funext b;rw[S];show(K.X b\/_)=_;rw[th];rfl
 rw[<-T] at N;have tg:aZ z.H 0 (aa (E.aN n m gs ((gW d).map (bn ah)) []))=er [E.aN n m gs ((gW d).map (bn ah)) []] 0:=by
  rw[S];funext j
  match j with
  |0=>rfl
  |j+1=>rfl
 have U: ∀(o:Map) (w':World) (v:Value),Rel K o {z with H:=aZ z.H 0 (aa (.aN n m gs ((gW d).map (bn ah)) []))} act w'->bt o w' (own K o (aZ z.H 0 (aa (.aN n m gs ((gW d).map (bn ah)) [])))) (ms 0 gs 1 (bn ah) (gW d)) v->
   ∃u,∃_i:Unit,∃β,Ending.returned v= .returned u/\True/\Left r β [E.aN n m gs (d.map (bn ah)) []] [E.aN n m gs ((gW d).map (bn ah)) []] w w' X (ms 0 gs 1 (bn ah) (gW d)) u:=by
  intro o w' v b8 F;subst kZ;obtain⟨β,tv⟩:=Fk (out:=[E.aN n m gs ((gW d).map (bn ah)) []]) b8 (da _) F rfl (by
   intro id e0 L;refine⟨⟨e0,?_,j8.refl _⟩,?_⟩
   ·show aZ z.H 0 _ id=_;rw[tg];exact L
   match id with
   |0=>cases L;exact⟨rfl,rfl⟩
   |k+1=>cases L)
  exact⟨_,(),β,rfl,trivial,tv⟩
 have Y:z.H 0≠aj:=by rw[A];simp
 have jc:1<=gs:=(D.heap 0 _ A).2.1;have pK:=OL (sz:=1) (D.heap 0 _ A).2 ep N;rcases pK with ⟨rfl,h1,C⟩|⟨b,cap,s,B,rfl,C,pW,lx,pZ,DH,b8,JR⟩
 ·have p2:d=[]:=by simpa using h1
  subst p2;refine(t.qb aj 0 w).mono ?_;rintro e1 fO ⟨rfl,rfl⟩;have e0:gW []=[]:=rfl;refine U r _ _ ?_ ?_
  ·have:=D.z1 0 _ A;rw[e0];exact this
  rw[e0];exact .hb 0 gs 1 jc C
 have vL:own K r z.H b:= .inr ⟨0,Y,.inl ⟨_,C⟩⟩;rw[dJ] at pZ;have hlen:d.length<=s.size:=O
 have Q: ∀(j:Nat) (q:j<d.length),cV w (λx=>x=b) (.bE (d[j].map iJ)) (s[j]' O):=λj q=>by
  have tr:=b8 j 0 (bn ah d[j]) (.bE (d[j].map iJ)) _ (by rw[eQ,bu q];rfl) rfl (by rw[show j*1+0=j by omega];exact h8 O);exact tr.wW (λx hx=>by rw[show x=b from hx];exact vL) λc bS e=>JR j 0 c bS e
 obtain⟨vs,vR⟩: ∃vs:Nat->Value,vs=λj=>if j<d.length then s.getD j undef else .slice aj 0 0:=⟨_,rfl⟩
 have F: ∀j (q:j<d.length),vs j=s[j]' O:=λj q=>by
  rw[vR];show(if j<d.length then _ else _)=_;rw[bb q];simp[show j<s.size by omega]
 have mS: ∀j,(vs j).oneCell'=true:=λj=>by
  by_cases q:j<d.length
  ·rw[F j q];exact(Q j q).jF
  rw[vR];show(if j<d.length then _ else _:Value).oneCell'=true;rw[a8 q];rfl
 have run:=t.run vs b 0 d.length cap (aR n m).ty s (lr d) w pW O (λj q=>by rw[dI,F j q];exact h8 O) mS pZ DH (by simp[lr]) (λj W hj0 q lA mf=>by
  have hE:Ext (λx=>x=b) w {w with heap:=W.heap}:=⟨rfl,rfl,rfl,lA,λk _ hk=>mf k hk⟩
  have e:=VN akD (w0:={w with heap:=W.heap}) (w:=W) (λ_ _ h=>h) ((Q j q).mono hE λ_ _ h=>h) ((Q (j-1) O).mono hE λ_ _ h=>h) (cC _ (gg _)) (cC _ (gg _));rw[F j q,F (j-1) O];have hk:(d[j]==d[j-1]' O)= !lr d j:=by
   have g1:d.getD j []=d[j]:=by rw[fh,bu q];rfl
   have g2:d.getD (j-1) []=d[j-1]' O:=by rw[fh,bu O];rfl
   unfold lr;rw[g1,g2]
   have:j≠0:=O
   by_cases C:d[j]=d[j-1]' O
   ·simp[this,C]
   simp[this,C]
  rw[hk] at e;exact e)
 rw[dJ];refine run.mono ?_;rintro e1 fO ⟨rfl,hE,fq,R,hs',tm,alg⟩;have y:(gW d).length=(ei (lr d) d.length).length:=by unfold gW;rw[dJ]
 have ali:=acs (lr d) d.length;obtain⟨o,ajr,hR⟩:=D.pick 0 A ep p0 C pW hs' R hE ((gW d).map (bn ah)) (by rw[dJ,y];omega) (λi=>(ei (lr d) d.length)[i]?) (λi p h=>by
   have aJ:=(b5.1 h).1;have hp:=adD h;have h1:=tm i aJ;rw[dI,fh,h,Option.getD_some,F p hp] at h1;refine⟨by rw[dJ,y];exact aJ,by rw[dJ];exact hp,?_,?_⟩
   ·rw[h1,h8 O]
   ·unfold gW;rw[eQ,eQ,eQ,h,bu hp];show aa (bn ah (d.getD p []))=aa (bn ah d[p]);rw[fh,bu hp];rfl) (λi jd p h h'=>acu h h') (λi aJ h=>by
   rw[dJ,y] at aJ;rw[bu aJ] at h;cases h)
 refine U o _ _ hR ?_;have k2:b<fO.heap.size:=(iR.1 R).1
 have:=bt.bo (β:=o) (w:=fO) (X:=own K o (aZ z.H 0 (aa (.aN n m gs ((gW d).map (bn ah)) [])))) 0 gs 1 0 (gW d).length cap b fq.size (aR n m).ty jc (by rw[ajr];exact C) k2 (by unfold World.shape?;rw[R]) O (by rw[y];omega) DH;rw[y,gQ] at this;rw[show ms 0 gs 1 (bn ah) (gW d)=V.bo 0 gs 1 0 (ei (lr d) d.length).length by rw[<-y,show(gW d).length=(List.map (bn ah) (gW d)).length by rw[dJ]]];exact this
end aho
end Go.Lift
