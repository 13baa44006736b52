/- Tools. -/
import Derived.Test.YteifkndfpnkalacGreatQLiftSort
set_option linter.unusedVariables false
namespace Go.Lift
open Go
open Option renaming some -> aa, none -> aj
def Map.sub(a:Map)(k:Nat)(N:Nat->Prop):Map:=⟨a.f,λid b=>a.n id b/\(id=k->N b)⟩
variable {X:Nat->Prop}{k n b m gen m1 i p:Nat}{K:Ctx}{β:Map}{s:S}{a:Act}{w:World}{g:FuncId}{G:fq}{u:Nat->Bool}
theorem wV{X:Map}{N:Nat->Prop}(h:At (X.sub k N) n b):At X n b:=by
 rcases h with h|h
 ·exact .inl h
 exact .inr h.1
theorem Rel.sub(h:Rel K β s a w)(k:Nat)(N:Nat->Prop)(e':E)(r:s.H k≠aj)
  (z:cN (β.sub k N) w (own K (β.sub k N) (bc s.H k (aa e'))) k e'):Rel K (β.sub k N) {s with H:=bc s.H k (aa e')} a w:=by
 have d: ∀b,own K (β.sub k N) (bc s.H k (aa e')) b->own K β s.H b:=by
  rintro b (c|⟨id,l,n⟩)
  ·exact .inl c
  refine .inr ⟨id,λo=>?_,wV n⟩;by_cases m:id=k
  ·subst m;exact r o
  rw[cb _ _ _ _ m] at l;exact l o
 have x:dS β (β.sub k N):=λ_ _ _ c=> .inl c;refine {h with base:=λid hid=>h.base id hid,eh:=λid hid=>h.eh id hid,eQ:=λid b hid p=>h.eQ id b hid p.1,inj:=λid q b l n=>h.inj id q b (wV l) (wV n),fresh:=λid b p=>h.fresh id b (wV p),heap:= ?_,dB:=λi=>(h.dB i).mono (Ext.refl _ _) (λb _=>d b) x (Shaped.refl _ _)};intro id e c;have c:bc s.H k (aa e') id=aa e:=c;by_cases m:id=k
 ·subst m;rw[cc] at c;cases c;cases y:s.H id with
  |none=>exact bz y r
  |some o=>exact⟨(h.heap id o y).1,z⟩
 rw[cb _ _ _ _ m] at c;obtain⟨l,n⟩:=h.heap id e c;exact⟨l,n.mono (Ext.refl _ _) (λb _=>d b) x (λ_ h=>h) (Shaped.refl _ _) (λ_ _=>rfl) λb=>⟨λh=>h.1,λh=>⟨h,λe=>bz e m⟩⟩⟩
theorem Rel.pick(h:Rel K β s a w)(k:Nat){r:List dt}{l:List (List T)}(hk:s.H k=aa (.bd r m gen l []))(e4:(aR r m).size=1)(px:(aR r m).eA 0=aa m1)
   {t:Array Value} (hq:β k=aa (aa b,gen)) (a7:w.heap[b]? =aa (.cells t (aR r m).ty (0,0)))
  {w':World} {A:Array Value} (hs:A.size=t.size) (G:w'.heap[b]? =aa (.cells A (aR r m).ty (0,0))) (v:Ext (λx=>x=b) w w') (d:List (List T)) (cC:d.length<=t.size) (L:Nat->Option Nat)
  (X: ∀i p,L i=aa p->i<d.length/\p<l.length/\A[i]? =t[p]? /\d[i]? =l[p]?) (afi: ∀i D p,L i=aa p->L D=aa p->i=D) (C: ∀i,i<d.length->L i=aj->A[i]? =aa (.slice aj 0 0)/\d[i]? =aa [.bD []]):
  ∃β',(∀id,β' id=β id)/\Rel K β' {s with H:=bc s.H k (aa (.bd r m gen d []))} a w':=by
 have I:s.H k≠aj:=by rw[hk];simp
 obtain⟨kV,jz⟩:=(h.heap k _ hk).2;obtain⟨B,hlen,M,Q,N,aeD,P'⟩: ∃B:Nat->Nat->Nat->Prop,l.length*(aR r m).size<=t.size/\(∀o,o∈l->o.length=(aR r m).size)/\
   (∀(i j:Nat) (o:List T) (x:T) (u:Value),l[i]? =aa o->o[j]? =aa x->t[i*(aR r m).size+j]? =aa u->Cell r m [] β w (own K β s.H) i j x u (B i j))/\
   (∀i j c,B i j c->i<l.length/\j<(aR r m).size/\c≠b)/\(∀i j D ei c,B i j c->B D ei c->i=D/\j=ei)/\ ∀c,β.n k c↔ ∃i j,B i j c:=by
  rcases jz with ⟨y,_⟩|⟨cI,rf,B,y,R,g,h4,h5,h6,oj,pt⟩
  ·rw[hq] at y;cases y
  rw[hq] at y;cases y;rw[a7] at R;cases R;exact⟨B,g,h4,h5,h6,oj,pt⟩
 rw[e4] at hlen M Q N;have U:own K β s.H b:= .inr ⟨k,I,.inl ⟨_,hq⟩⟩;have aeS:b<w.heap.size:=(kv.1 a7).1
 -- the block told anew, its rows not told
 have lR:=h.setRow k b (.inl ⟨_,hq⟩) t (aR r m).ty a7 A hs (.arr (aR r m).ty gen 1 []) I ⟨kV,.inr ⟨b,A,hq,setRow_heap _ _ _ _ _ _ a7,aW,aW,λi j o x u y=>by simp at y⟩⟩;have dV:Rel K β {s with H:=bc s.H k (aa (.arr (aR r m).ty gen 1 []))} a w':=by
  refine lR.grow ⟨v.os,v.tape,v.output,?_,λx hx _=>?_⟩
  ·have:=v.size;simpa using this
  by_cases e:x=b
  ·subst e;rw[G,setRow_heap _ _ _ _ _ _ a7]
  rw[setRow_other _ _ _ _ e];exact v.keep x (by simpa using hx) e
 refine⟨β.sub k λc=> ∃i p,L i=aa p/\B p 0 c,λ_=>rfl,?_⟩;have hC:=dV.sub k (λc=> ∃i p,L i=aa p/\B p 0 c) (.bd r m gen d []) (by show bc s.H k _ k≠aj;rw[cc];simp) ?_
 ·have e:bc (bc s.H k (aa (E.arr (aR r m).ty gen 1 []))) k (aa (.bd r m gen d []))=bc s.H k (aa (.bd r m gen d [])):=by
   funext i;by_cases F:i=k
   ·subst F;rw[cc,cc]
   rw[cb _ _ _ _ F,cb _ _ _ _ F,cb _ _ _ _ F]
  have Qa:Rel K _ {s with H:=bc (bc s.H k (aa (E.arr (aR r m).ty gen 1 []))) k (aa (.bd r m gen d []))} a w':=hC;rw[e] at Qa;exact Qa
 have iJ: ∀x,own K (β.sub k λc=> ∃i p,L i=aa p/\B p 0 c) (bc (bc s.H k (aa (E.arr (aR r m).ty gen 1 []))) k (aa (.bd r m gen d []))) x->own K β s.H x:=by
  rintro x (hx|⟨id,y,R⟩)
  ·exact .inl hx
  refine .inr ⟨id,λe0=>?_,wV R⟩;by_cases F:id=k
  ·subst F;exact I e0
  rw[cb _ _ _ _ F,cb _ _ _ _ F] at y;exact y e0
 have aeG:Ext (own K β s.H) w w':=v.weaken λx _ e=>by rw[show x=b from e];exact U
 refine⟨kV,.inr ⟨b,A,λi j c=>j=0/\ ∃p,L i=aa p/\B p 0 c,hq,G,by rw[e4];omega,λo uB=>?_,λi j o x u y R g=>?_,λi j c bN=>?_,λi j D ei c bN V=>?_,λc=>?_⟩⟩
 ·obtain⟨i,F⟩:=kx.1 uB;have Z:=(bX.1 F).1;rw[e4];cases q:L i with
  |none=>rw[(C i Z q).2] at F;cases F;rfl
  |some p=>rw[(X i p q).2.2.2] at F;exact M o (bJ F)
 ·have Z:=(bX.1 y).1;rw[e4] at g;have hj0:j=0:=by
   have hjl:=(bX.1 R).1;cases q:L i with
   |none=>rw[(C i Z q).2] at y;cases y;simpa using hjl
   |some p=>rw[(X i p q).2.2.2] at y;have:=M o (bJ y);omega
  subst hj0;rw[show i*1+0=i by omega] at g;refine Cell.of ?_;cases q:L i with
  |none=>
   obtain⟨aS,a2⟩:=C i Z q;rw[a2] at y;cases y;rw[aS] at g;cases g;simp only[List.getElem?_cons_zero,Option.some.injEq] at R;subst R;rw[px];exact .nil m1 _ (λc bN=>by obtain⟨_,p,W,_⟩:=bN;rw[q] at W;cases W)
  |some p=>
   obtain⟨a0,aS,a2,a3⟩:=X i p q;rw[a3] at y;rw[a2] at g;have bN:=(Q p 0 o x u y R (by rw[show p*1+0=p by omega];exact g)).none;have V:=bN.mono aeG (λx _=>iJ x) λc sf=>v.keep c (h.fresh k c (.inr ((P' c).2 ⟨p,0,sf⟩))).2 (N p 0 c sf).2.2;exact V.iff λc=>⟨λ⟨_,Rb,f,G⟩=>by rw[q] at f;cases f;exact G,λG=>⟨rfl,p,q,G⟩⟩
 ·obtain⟨rfl,p,W,z⟩:=bN;rw[e4];exact⟨(X i p W).1,O,(N p 0 c z).2.2⟩
 ·obtain⟨rfl,p,W,z⟩:=bN;obtain⟨rfl,Rb,f,aeQ⟩:=V
  have:=(aeD p 0 Rb 0 c z aeQ).1;subst this;exact⟨afi i D p W f,rfl⟩
 constructor
 ·rintro⟨_,R⟩;obtain⟨i,p,W,z⟩:=R rfl;exact⟨i,0,rfl,p,W,z⟩
 rintro⟨i,j,rfl,p,W,z⟩;exact⟨(P' c).2 ⟨p,0,z⟩,λ_=>⟨i,p,W,z⟩⟩
open Go.Proofs
theorem ZC{R:Type}{l l':List R}(h:l.Perm l'): ∃d:Nat->Nat,(∀i,i<l'.length->d i<l.length/\l'[i]? =l[d i]?)/\ ∀i j,i<l'.length->j<l'.length->d i=d j->i=j:=by
 induction h with
 |nil=>exact⟨id,λi c=>bz c (p4 _),λi j c=>bz c (p4 _)⟩
 |cons a _ s=>
  obtain⟨d,m,n⟩:=s;refine⟨λi=>match i with|0=>0|i+1=>d i+1,λi c=>?_,λi j c k e=>?_⟩
  ·match i with
   |0=>exact⟨aW,rfl⟩
   |i+1=>
    obtain⟨aS,a2⟩:=m i (by simpa using c);exact⟨by simpa using aS,by simpa using a2⟩
  match i,j with
  |0,0=>rfl
  |0,j+1=>simp at e
  |i+1,0=>simp at e
  |i+1,j+1=>simp at e;rw[n i j (by simpa using c) (by simpa using k) e]
 |swap a b l=>
  refine⟨λi=>match i with|0=>1|1=>0|i+2=>i+2,λi c=>?_,λi j c k e=>?_⟩
  ·match i with
   |0=>exact⟨aW,rfl⟩
   |1=>exact⟨aW,rfl⟩
   |i+2=>exact⟨by simpa using c,aW⟩
  match i,j with
  |0,0=>rfl
  |0,1=>simp at e
  |0,j+2=>simp at e
  |1,0=>simp at e
  |1,1=>rfl
  |1,j+2=>simp at e
  |i+2,0=>simp at e
  |i+2,1=>simp at e
  |i+2,j+2=>simpa using e
 |trans _ _ o p=>
  obtain⟨d,m,n⟩:=o;obtain⟨r,q,w⟩:=p;refine⟨λi=>d (r i),λi c=>?_,λi j c k e=>?_⟩
  ·obtain⟨aS,a2⟩:=q i c;obtain⟨a3,a4⟩:=m (r i) aS;exact⟨a3,a2.trans a4⟩
  exact w i j c k (n _ _ (q i c).1 (q j k).1 e)
theorem MO{U:Map}{sz:Nat}{D:List dt}{a:List (List T)}{x:Value}(C:cN U w X k (.bd D m gen a []))(G:(aR D m).size=sz)(H:bp U w X (.bn k gen sz 0 a.length) x):
  (x= .slice aj 0 0/\a=[]/\U k=aa (aj,gen))\/ ∃(b d:Nat) (e:Array Value) (B:Nat->Nat->Nat->Prop),x= .slice (aa ⟨b,0,aj⟩) a.length d/\U k=aa (aa b,gen)/\w.heap[b]? =aa (.cells e (aR D m).ty (0,0))/\e.size=d*sz/\a.length<=d/\d<=maxLen/\
   (∀(i j:Nat) (l:List T) (y:T) (u:Value),a[i]? =aa l->l[j]? =aa y->e[i*sz+j]? =aa u->gP D w X ((aR D m).eA j) y u (B i j))/\ ∀i j c,B i j c->c≠b:=by
 obtain⟨q,o⟩:=tr C;rcases fY H o with ⟨d,b,n,K,rfl,rfl,t,h,r,L,s⟩|⟨rfl,_,z,rfl⟩
 ·rcases C.2 with ⟨p,_⟩|⟨v,e,B,p,F,E,I,Q,R,_⟩
  ·rw[o] at p;cases p
  rw[o] at p;cases p;have A:e.size=d*sz:=by
   unfold World.shape? at h;rw[F] at h;simp at h;rw[<-r] at h;rw[eg] at h;exact h.2
  refine .inr ⟨b,d,e,B,by rw[iq],o,F,A,L,s,λi j l y u W Z f=>(Q i j l y u W Z (by rw[G];exact f)).none,λi j c g=>(R i j c g).2.2⟩
 exact .inl ⟨rfl,nH z,o⟩
section CW
open Go.Shelf Go.RowKit Go.Lib Go.Sort
variable {P:Program}{ρ:Ren}
theorem ZR(L:SlLaysF.n6 P ρ)(raw:tp P g)(Hh: ∀args w,(callFunc g args).run P w= .ok (.enter g args) w)(call:jy P (ρ.f 6)){q:List dt}{s:Nat}(e4:(aR q m).size=1)(px:(aR q m).eA 0=aa m1)
  (rows:List (List Int)) (cG:rows.length<=1000000000) (cC: ∀l∈rows,l.length<=1000000000):
  kF P G (ρ.f 6) [.bd q m s (rows.map (be ae)) []] [ms 0 s 1 (be ae) rows,.fn g []] (.bQ []) [.bd q m s ((fB rows).map (be ae)) []]:=by
 refine⟨call,?_⟩;intro w X z us lh iJ xv hc;have sk:us.length=2:=hc.length;obtain⟨k8,hW,rfl⟩: ∃a b,us=[a,b]:=by
  match us,sk with
  | [a,b],_=>exact⟨a,b,rfl⟩
 have V:=Rel.nD (P:=P) (nt:=2) lh iJ xv hc (cV _);obtain⟨QM,xz,_⟩:=hc;obtain rfl:hW= .func (.func g) #[] #[]:=by
  cases xz with
  |fn _ _ us hs _=>
   have:us= #[]:=IQ hs;rw[this]
 generalize Qh:({tmps:=[k8,Value.func (.func g) #[] #[]].toArray++Array.replicate (2-[k8,Value.func (.func g) #[] #[]].toArray.size) undef,defers:=[]}:Act)=act at V;generalize np:Ctx.fo P G w X [E.bd q m s (rows.map (be ae)) []].length z 2=K at V;have xp:K.X=X:=by rw[<-np];rfl
 generalize om:Lift.nD [E.bd q m s (rows.map (be ae)) []] [ms 0 s 1 (be ae) rows,.fn g []]=R at V;have W:R.H 0=aa (.bd q m s (rows.map (be ae)) []):=by rw[<-om];rfl
 have Qf:R.H=fw [E.bd q m s (rows.map (be ae)) []] 0:=by rw[<-om];rfl
 have afF:own K z R.H=mI X z (fw [E.bd q m s (rows.map (be ae)) []] 0):=by funext b;rw[Qf];show(K.X b\/_)=_;rw[xp];rfl
 rw[<-afF] at QM;have xo:bc R.H 0 (aa (E.bd q m s ((fB rows).map (be ae)) []))=fw [E.bd q m s ((fB rows).map (be ae)) []] 0:=by
  rw[Qf];funext j
  match j with
  |0=>rfl
  |j+1=>rfl
 have fin: ∀(Z:Map) (w':World),Rel K Z {R with H:=bc R.H 0 (aa (.bd q m s ((fB rows).map (be ae)) []))} act w'->
   ∃u,∃_i:Unit,∃β,Ending.returned (.tuple #[])= .returned u/\True/\Left z β [E.bd q m s (rows.map (be ae)) []] [E.bd q m s ((fB rows).map (be ae)) []] w w' X (.bQ []) u:=by
  intro Z w' b3;subst np;obtain⟨β,xD⟩:=DW (out:=[E.bd q m s ((fB rows).map (be ae)) []]) b3 (cV _) (.bQ [] #[] rfl λi c u bN _=>by simp at bN) rfl (by
   intro id e0 D;refine⟨⟨e0,?_,kC.refl _⟩,?_⟩
   ·show bc R.H 0 _ id=_;rw[xo];exact D
   match id with
   |0=>cases D;exact⟨rfl,rfl⟩
   |k+1=>cases D)
  exact⟨_,(),β,rfl,trivial,xD⟩
 have aeL:R.H 0≠aj:=by rw[W];simp
 have wA:=MO (sz:=1) (V.heap 0 _ W).2 e4 QM;rcases wA with ⟨rfl,h1,hq⟩|⟨b,cap,o,B,rfl,hq,C,si,pw,BM,b3,Hp⟩
 ·have sr:rows=[]:=by simpa using h1
  subst sr;refine(AnyF.slices_SortFunc_none (P:=P) (ρ:=ρ) {L with} aj 0 _ w).mono ?_;rintro e1 ir ⟨rfl,rfl⟩;refine fin z _ ?_
  have:=V.yk 0 _ W;rw[show fB []=[] by simp[fB]];exact this
 have ux:own K z R.H b:= .inr ⟨0,aeL,.inl ⟨_,hq⟩⟩;rw[dz] at pw;have hlen:rows.length<=o.size:=O
 have oq: ∀(j:Nat) (I:j<rows.length),dh w (λx=>x=b) (.bD (rows[j].map iM)) (o[j]' O):=λj I=>by
  have ss:=b3 j 0 (be ae rows[j]) (.bD (rows[j].map iM)) _ (by rw[ek,bo I];rfl) rfl (by rw[show j*1+0=j by omega];exact jo O);exact ss.yl (λx hx=>by rw[show x=b from hx];exact ux) λc bN e=>Hp j 0 c bN e
 obtain⟨F,Hq,Hr⟩: ∃F:Fin rows.length->dR w λx=>x=b,(∀j,(F j).enc=o[j.1]'(by have:=j.2;omega))/\ ∀j,(F j).bH=rows[j.1]:=
  ⟨λj=>⟨(o[j.1]'(by have:=j.2;omega),rows[j.1]),oq j.1 j.2,cC _ (gp j.2)⟩,λ_=>rfl,λ_=>rfl⟩
 obtain⟨d,cM⟩: ∃d:Array (dR w λx=>x=b),d=Array.ofFn F:=⟨_,rfl⟩
 have Q:d.size=rows.length:=by rw[cM];exact Array.size_ofFn
 have t: ∀(j:Nat) (I:j<d.size),d[j].enc=o[j]' O/\d[j].bH=rows[j]' O:=λj I=>by
  subst cM;rw[Array.getElem_ofFn];exact⟨Hq _,Hr _⟩
 have BH:(d.map dR.bH).toList=rows:=by
  refine List.ext_getElem (by simp[Q]) λj h1 h2=>?_;rw[Array.getElem_toList,Array.getElem_map];exact(t j O).2
 have hH:Holds dR.enc w b 0 d:=λj I=>by
  rw[eg,getElem!_pos d j I,(t j I).1];refine⟨?_,by simp[World.frozen?,C]⟩
  have:j<o.size:=O
  simp[World.cell?,C,this]
 have sg:CmpLays1 P g #[] dR.enc ua b 0 d.size w:=CmpReads.lays (λm os dk hs x y=>by
  have hE:=Gg (w:=w) (X:=λx=>x=b) (b:=b) (m:=m) (dk:=dk) (os:=os) rfl;exact(O5 raw (x.2.1.mono hE λ_ _ h=>h) (y.2.1.mono hE λ_ _ h=>h) x.2.2 y.2.2).mono (by
   rintro e1 ir ⟨rfl,rfl⟩;exact⟨rfl,0,rfl⟩))
 have run:=Any.slices_SortFunc L dR.enc dR.one ua Pe g #[] b 0 cap d w Hh sg hH (kv.1 C).1 O;rw[Q] at run;rw[dz];refine run.mono ?_;rintro e1 ir ⟨rfl,r,n,os,M,hs,qM⟩;rw[<-Q] at M hs;have N:=LC M hs;rw[BH] at N;have v:r.size=d.size:=M.1;obtain⟨S,agd,age⟩:=ZC (l:=d.toList) (l':=r.toList) (by
  have h2:=M.2.2;have e1:r.extract 0 d.size=r:=by rw[<-v];simp
  have e2:d.extract 0 d.size=d:=aW
  rw[e1,e2] at h2;exact h2.symm)
 have T:(Sort.ahead w n).heap[b]? =aa (.cells o (aR q m).ty (0,0)):=C;have uB:sortWorld dR.enc w b 0 n r os=grow ((Sort.ahead w n).setRow b (putCells dR.enc 0 r o)) os:=by
  show grow (putRow dR.enc (Sort.ahead w n) b 0 r) os=_;congr 1;exact JQ T _
 have hCs:(putCells dR.enc 0 r o).size=o.size:=by simp[putCells]
 have aeP: ∀i,i<r.size->(putCells dR.enc 0 r o)[i]? =aa (r[i]!).enc:=λi A=>by
  unfold putCells;rw[Array.getElem?_mapIdx,jo O];simp only[Option.map_some];rw[aX O,Nat.sub_zero]
 have aeJ:ir.heap[b]? =aa (.cells (putCells dR.enc 0 r o) (aR q m).ty (0,0)):=by
  rw[qM,uB];show(_++os)[b]? =_;have Hv:b<((Sort.ahead w n).setRow b (putCells dR.enc 0 r o)).heap.size:=(kv.1 (setRow_heap _ _ _ _ _ _ T)).1;rw[Array.getElem?_append_left Hv];exact setRow_heap _ _ _ _ _ _ T
 have aeF:Ext (λx=>x=b) w ir:=by rw[qM];exact Gg rfl
 have aeZ:r.size=rows.length:=by rw[v,Q]
 have U:(fB rows).length=rows.length:=by rw[<-N,p9,Array.size_map,aeZ]
 have afb: ∀i (A:i<rows.length),∃M:S i<rows.length,(putCells dR.enc 0 r o)[i]? =o[S i]? /\(fB rows)[i]? =rows[S i]? :=λi A=>by
  obtain⟨aS,a2⟩:=agd i (by rw[p9];omega);rw[p9,Q] at aS;rw[p7,p7,jo O,jo O] at a2;have a3:r[i]' O=d[S i]' O:=by simpa using a2
  refine⟨aS,?_,?_⟩
  ·rw[aeP i O,getElem!_pos r i O,a3,(t (S i) O).1,jo O]
  rw[<-N,p7,Array.getElem?_map,jo O,Option.map_some,a3,(t (S i) O).2,bo aS]
 obtain⟨Z,_,hR⟩:=V.pick 0 W e4 px hq C hCs aeJ aeF ((fB rows).map (be ae)) (by rw[dz,U];omega) (λi=>if i<rows.length then aa (S i) else aj) (λi p h=>by
   by_cases A:i<rows.length
   ·rw[aX A] at h;cases h;obtain⟨M,e1,e2⟩:=afb i A;exact⟨by rw[dz,U];exact A,by rw[dz];exact M,e1,by rw[ek,ek,e2]⟩
   ·rw[aY A] at h;cases h) (λi je p h h'=>by
   by_cases A:i<rows.length
   ·by_cases xt:je<rows.length
    ·rw[aX A] at h;rw[aX xt] at h';exact age i je (by rw[p9];omega) (by rw[p9];omega) (Option.some.inj (h.trans h'.symm))
    rw[aY xt] at h';cases h'
   ·rw[aY A] at h;cases h) (λi A h=>by
   rw[dz,U] at A;rw[aX A] at h;cases h)
 exact fin Z _ hR
theorem Vs(L:SlLaysF.n6 P ρ)(c:tp P g)(k: ∀args w,(callFunc g args).run P w= .ok (.enter g args) w)(a:jy P (ρ.f 6)){D:List dt}(l:(aR D m).size=1)(d:(aR D m).eA 0=aa i){x r:List (List Int)}(h:mE x=aa r):
  kF P G (ρ.f 6) [.bd D m n (x.map (be ae)) []] [ms 0 n 1 (be ae) x,.fn g []] (.bQ []) [.bd D m n (r.map (be ae)) []]:=by
 unfold mE at h;split at h
 ·rename_i e;cases h;exact ZR L c k a l d x e.1 e.2
 cases h
end CW
theorem vc(a:Nat->Bool)(m:Nat):ea a (m+1)=ea a m++(if a m then [m] else []):=by unfold ea;rw[mT,ma];congr 1;by_cases h:a m<;>simp[h]
theorem zD(h: ∀j,j<m->u j=true):ea u m=List.range m:=by unfold ea;exact yG.2 λj a=>h j (p5.1 a)
structure Jg (P:Program) (f g:FuncId):Prop where
 run: ∀(vs:Nat->Value) (b off n cap:Nat) (ty:TypeId) (cur:Array Value) (de:Nat->Bool) (w:World) (bG:w.heap[b]? =aa (.cells cur ty (0,0))) (cG:off+n<=cur.size) (bR: ∀j,j<n->cur[off+j]? =aa (vs j)) (mw: ∀j,(vs j).oneCell'=true) (Hw:n<=cap) (hm:cap<=maxLen) (HE:de 0=true) (sg: ∀j W,0<j->j<n->w.heap.size<=W.heap.size->(∀k,k≠b->W.heap[k]? =w.heap[k]?)->Calls P g #[vs j,vs (j-1)] W λe gQ=>e= .returned (.bool (!de j))/\ ∃q,gQ=W.drewN q),Calls P f #[.slice (aa ⟨b,off,aj⟩) n cap,.func (.func g) #[] #[]] w λe w'=>e= .returned (.slice (aa ⟨b,off,aj⟩) (ea de n).length cap)/\Ext (λx=>x=b) w w'/\ ∃fm,w'.heap[b]? =aa (.cells fm ty (0,0))/\fm.size=cur.size/\(∀i,i<(ea de n).length->fm[off+i]? =aa (vs ((ea de n).getD i 0)))/\ ∀i,(ea de n).length<=i->i<n->fm[off+i]? =aa (.slice aj 0 0)
 pO: ∀(a:Option Addr) (c:Nat) (w:World),Calls P f #[.slice a 0 c,.func (.func g) #[] #[]] w λe w'=>e= .returned (.slice a 0 c)/\w'=w
structure DR (P:Program) (g:FuncId):Prop where
 both: ∀(di hQ n c cI hn m d:Nat) (xs ys:List Int) (w:World),xs.length=n->ys.length=m->n<=9223372036854775807->m<=9223372036854775807->(∀j,j<xs.length->w.cell? ⟨di,hQ+j,aj⟩=aa (.int .i64 (xs.getD j 0)))->
  (∀j,j<ys.length->w.cell? ⟨cI,hn+j,aj⟩=aa (.int .i64 (ys.getD j 0)))->
  Calls P g #[.slice (aa ⟨di,hQ,aj⟩) n c,.slice (aa ⟨cI,hn,aj⟩) m d] w λe w'=>e= .returned (.bool (xs==ys))/\ ∃q,w'=w.drewN q
 lens: ∀(aS a2:Option Addr) (n c m d:Nat) (w:World),n≠m->Calls P g #[.slice aS n c,.slice a2 m d] w λe w'=>e= .returned (.bool false)/\w'=w
 pO: ∀(aS a2:Option Addr) (c m d:Nat) (w:World),m<=9223372036854775807->Calls P g #[.slice aS 0 c,.slice a2 m d] w λe w'=>e= .returned (.bool (decide (m=0)))/\w'=w
theorem ad2{P:Program}(h:DR P g){w0:World}(A: ∀a v,w0.cell? a=aa v->w.cell? a=aa v){d l:List Int}{u z:Value}(G:dh w0 X (.bD (d.map iM)) u)(B:dh w0 X (.bD (l.map iM)) z)(L:d.length<=1000000000)(Q:l.length<=1000000000):
  Calls P g #[u,z] w λe i=>e= .returned (.bool (d==l))/\ ∃q,i=w.drewN q:=by
 have m: ∀{e:Ending} {i:World} {c:Bool},e= .returned (.bool c)/\i=w->(d==l)=c->e= .returned (.bool (d==l))/\ ∃q,i=w.drewN q:=by
  rintro e i c ⟨rfl,rfl⟩ rfl;exact⟨rfl,0,rfl⟩
 rcases wF G with ⟨rfl,a,c,rfl⟩|⟨b,o,c,H,rfl,K⟩
 ·rcases wF B with ⟨rfl,n,k,rfl⟩|⟨p,r,k,C,rfl,F⟩
  ·exact(h.pO a n c 0 k w O).mono λe i q=>m q aW
  refine(h.pO a (aa ⟨p,r,aj⟩) c l.length k w O).mono λe i q=>m q ?_;cases l with
  |nil=>simp at C
  |cons y l=>simp
 rcases wF B with ⟨rfl,n,k,rfl⟩|⟨p,r,k,C,rfl,F⟩
 ·refine(h.lens (aa ⟨b,o,aj⟩) n d.length c 0 k w O).mono λe i q=>m q ?_;cases d with
  |nil=>simp at H
  |cons x d=>simp
 exact h.both b o d.length c p r l.length k d l w rfl rfl O O (λj s=>A _ _ (K j s)) λj s=>A _ _ (F j s)
theorem Zo(h:(ea u m)[i]? =aa p):p<m:=by have:=bJ h;unfold ea at this;exact p5.1 (List.mem_filter.1 this).1
theorem X8(a:Nat->Bool)(m:Nat):(ea a m).length<=m:=by unfold ea;exact hA (C6 _ _) aW
theorem X9{je:Nat}(h:(ea u m)[i]? =aa p)(a:(ea u m)[je]? =aa p):i=je:=by
 have c:(ea u m).Nodup:=by unfold ea;exact List.nodup_range.filter _
 exact(List.getElem?_inj (bX.1 h).1 c).1 (h.trans a.symm)
section aei
variable {P:Program}
theorem VK{f:FuncId}(t:Jg P f g)(ahz:DR P g)(D:jy P f){n:List dt}{gs:Nat}(e4:(aR n m).size=1)(px:(aR n m).eA 0=aa m1)
  (d:List (List Int)) (cC: ∀l∈d,l.length<=1000000000):
  kF P G f [.bd n m gs (d.map (be ae)) []] [ms 0 gs 1 (be ae) d,.fn g []] (ms 0 gs 1 (be ae) (gS d)) [.bd n m gs ((gS d).map (be ae)) []]:=by
 refine⟨D,?_⟩;intro w X r I lh iJ xv hc;have sk:I.length=2:=hc.length;obtain⟨k8,hW,rfl⟩: ∃a b,I=[a,b]:=by
  match I,sk with
  | [a,b],_=>exact⟨a,b,rfl⟩
 have F:=Rel.nD (P:=P) (nt:=2) lh iJ xv hc (cV _);obtain⟨M,xz,_⟩:=hc;obtain rfl:hW= .func (.func g) #[] #[]:=by
  cases xz with
  |fn _ _ I hs _=>
   have:I= #[]:=IQ hs;rw[this]
 generalize Qh:({tmps:=[k8,Value.func (.func g) #[] #[]].toArray++Array.replicate (2-[k8,Value.func (.func g) #[] #[]].toArray.size) undef,defers:=[]}:Act)=act at F;generalize np:Ctx.fo P G w X [E.bd n m gs (d.map (be ae)) []].length r 2=K at F;have xp:K.X=X:=by rw[<-np];rfl
 generalize om:Lift.nD [E.bd n m gs (d.map (be ae)) []] [ms 0 gs 1 (be ae) d,.fn g []]=z at F;have A:z.H 0=aa (.bd n m gs (d.map (be ae)) []):=by rw[<-om];rfl
 have N:z.H=fw [E.bd n m gs (d.map (be ae)) []] 0:=by rw[<-om];rfl
 have S:own K r z.H=mI X r (fw [E.bd n m gs (d.map (be ae)) []] 0):=by funext b;rw[N];show(K.X b\/_)=_;rw[xp];rfl
 rw[<-S] at M;have xo:bc z.H 0 (aa (E.bd n m gs ((gS d).map (be ae)) []))=fw [E.bd n m gs ((gS d).map (be ae)) []] 0:=by
  rw[N];funext j
  match j with
  |0=>rfl
  |j+1=>rfl
 have T: ∀(o:Map) (w':World) (v:Value),Rel K o {z with H:=bc z.H 0 (aa (.bd n m gs ((gS d).map (be ae)) []))} act w'->bp o w' (own K o (bc z.H 0 (aa (.bd n m gs ((gS d).map (be ae)) [])))) (ms 0 gs 1 (be ae) (gS d)) v->
   ∃u,∃_i:Unit,∃β,Ending.returned v= .returned u/\True/\Left r β [E.bd n m gs (d.map (be ae)) []] [E.bd n m gs ((gS d).map (be ae)) []] w w' X (ms 0 gs 1 (be ae) (gS d)) u:=by
  intro o w' v b3 L;subst np;obtain⟨β,xD⟩:=DW (out:=[E.bd n m gs ((gS d).map (be ae)) []]) b3 (cV _) L rfl (by
   intro id e0 Q;refine⟨⟨e0,?_,kC.refl _⟩,?_⟩
   ·show bc z.H 0 _ id=_;rw[xo];exact Q
   match id with
   |0=>cases Q;exact⟨rfl,rfl⟩
   |k+1=>cases Q)
  exact⟨_,(),β,rfl,trivial,xD⟩
 have U:z.H 0≠aj:=by rw[A];simp
 have kV:1<=gs:=(F.heap 0 _ A).2.1;have wA:=MO (sz:=1) (F.heap 0 _ A).2 e4 M;rcases wA with ⟨rfl,h1,C⟩|⟨b,cap,s,B,rfl,C,Qm,si,pw,BM,b3,Hp⟩
 ·have sr:d=[]:=by simpa using h1
  subst sr;refine(t.pO aj 0 w).mono ?_;rintro e1 ir ⟨rfl,rfl⟩;have e0:gS []=[]:=rfl;refine T r _ _ ?_ ?_
  ·have:=F.yk 0 _ A;rw[e0];exact this
  rw[e0];exact .iO 0 gs 1 kV C
 have ux:own K r z.H b:= .inr ⟨0,U,.inl ⟨_,C⟩⟩;rw[dz] at pw;have hlen:d.length<=s.size:=O
 have R: ∀(j:Nat) (q:j<d.length),dh w (λx=>x=b) (.bD (d[j].map iM)) (s[j]' O):=λj q=>by
  have ss:=b3 j 0 (be ae d[j]) (.bD (d[j].map iM)) _ (by rw[ek,bo q];rfl) rfl (by rw[show j*1+0=j by omega];exact jo O);exact ss.yl (λx hx=>by rw[show x=b from hx];exact ux) λc bN e=>Hp j 0 c bN e
 obtain⟨vs,QK⟩: ∃vs:Nat->Value,vs=λj=>if j<d.length then s.getD j undef else .slice aj 0 0:=⟨_,rfl⟩
 have L: ∀j (q:j<d.length),vs j=s[j]' O:=λj q=>by
  rw[QK];show(if j<d.length then _ else _)=_;rw[aX q];simp[show j<s.size by omega]
 have mw: ∀j,(vs j).oneCell'=true:=λj=>by
  by_cases q:j<d.length
  ·rw[L j q];exact(R j q).jZ
  rw[QK];show(if j<d.length then _ else _:Value).oneCell'=true;rw[aY q];rfl
 have run:=t.run vs b 0 d.length cap (aR n m).ty s (lg d) w Qm O (λj q=>by rw[eg,L j q];exact jo O) mw pw BM (by simp[lg]) (λj W hj0 q lj lS=>by
  have hE:Ext (λx=>x=b) w {w with heap:=W.heap}:=⟨rfl,rfl,rfl,lj,λk _ hk=>lS k hk⟩
  have e:=ad2 ahz (w0:={w with heap:=W.heap}) (w:=W) (λ_ _ h=>h) ((R j q).mono hE λ_ _ h=>h) ((R (j-1) O).mono hE λ_ _ h=>h) (cC _ (gp _)) (cC _ (gp _));rw[L j q,L (j-1) O];have hk:(d[j]==d[j-1]' O)= !lg d j:=by
   have g1:d.getD j []=d[j]:=by rw[eB,bo q];rfl
   have g2:d.getD (j-1) []=d[j-1]' O:=by rw[eB,bo O];rfl
   unfold lg;rw[g1,g2]
   have:j≠0:=O
   by_cases C:d[j]=d[j-1]' O
   ·simp[this,C]
   simp[this,C]
  rw[hk] at e;exact e)
 rw[dz];refine run.mono ?_;rintro e1 ir ⟨rfl,hE,fm,Z,hs',sl,aiv⟩;have y:(gS d).length=(ea (lg d) d.length).length:=by unfold gS;rw[dz]
 have aix:=X8 (lg d) d.length;obtain⟨o,agc,hR⟩:=F.pick 0 A e4 px C Qm hs' Z hE ((gS d).map (be ae)) (by rw[dz,y];omega) (λi=>(ea (lg d) d.length)[i]?) (λi p h=>by
   have aP:=(bX.1 h).1;have hp:=Zo h;have h1:=sl i aP;rw[eg,eB,h,Option.getD_some,L p hp] at h1;refine⟨by rw[dz,y];exact aP,by rw[dz];exact hp,?_,?_⟩
   ·rw[h1,jo O]
   ·unfold gS;rw[ek,ek,ek,h,bo hp];show aa (be ae (d.getD p []))=aa (be ae d[p]);rw[eB,bo hp];rfl) (λi je p h h'=>X9 h h') (λi aP h=>by
   rw[dz,y] at aP;rw[bo aP] at h;cases h)
 refine T o _ _ hR ?_;have qJ:b<ir.heap.size:=(kv.1 Z).1
 have:=bp.bn (β:=o) (w:=ir) (X:=own K o (bc z.H 0 (aa (.bd n m gs ((gS d).map (be ae)) [])))) 0 gs 1 0 (gS d).length cap b fm.size (aR n m).ty kV (by rw[agc];exact C) qJ (by unfold World.shape?;rw[Z]) O (by rw[y];omega) BM;rw[y,iq] at this;rw[show ms 0 gs 1 (be ae) (gS d)=V.bn 0 gs 1 0 (ea (lg d) d.length).length by rw[<-y,show(gS d).length=(List.map (be ae) (gS d)).length by rw[dz]]];exact this
end aei
end Go.Lift
