/- Tools. -/
import Derived.Test.YteifkndfpnkalaaGreatELiftSort
set_option linter.unusedVariables false
namespace Go.Lift
open Go
open Option renaming some -> aa, none -> aj, map_some -> hv
def Map.sub(a:Map)(k:Nat)(N:Nat->Prop):Map:=⟨a.f,λid b=>a.n id b/\(id=k->N b)⟩
variable {W β:Map}{k i b m gen m1 p:Nat}{K:Ctx}{s:S}{a:Act}{w:World}{X:Nat->Prop}{g:FuncId}{G:fL}{u:Nat->Bool}
theorem x9{N:Nat->Prop}(h:At (W.sub k N) i b):At W i b:=by
 rcases h with h|h
 ·exact .inl h
 exact .inr h.1
theorem Rel.sub(h:Rel K β s a w)(k:Nat)(N:Nat->Prop)(e':E)(r:s.H k≠aj)
  (z:cX (β.sub k N) w (own K (β.sub k N) (a8 s.H k (aa e'))) k e'):Rel K (β.sub k N) {s with H:=a8 s.H k (aa e')} a w:=by
 have d: ∀b,own K (β.sub k N) (a8 s.H k (aa e')) b->own K β s.H b:=by
  rintro b (c|⟨id,l,n⟩)
  ·exact .inl c
  refine .inr ⟨id,λo=>?_,x9 n⟩;by_cases m:id=k
  ·subst m;exact r o
  rw[cb _ _ _ _ m] at l;exact l o
 have x:ed β (β.sub k N):=λ_ _ _ c=> .inl c;refine {h with base:=λid hid=>h.base id hid,eF:=λid hid=>h.eF id hid,e9:=λid b hid p=>h.e9 id b hid p.1,inj:=λid q b l n=>h.inj id q b (x9 l) (x9 n),fresh:=λid b p=>h.fresh id b (x9 p),heap:= ?_,dC:=λi=>(h.dC i).mono (Ext.refl _ _) (λb _=>d b) x (Shaped.refl _ _)};intro id e c;have c:a8 s.H k (aa e') id=aa e:=c;by_cases m:id=k
 ·subst m;rw[cd] at c;cases c;cases y:s.H id with
  |none=>exact bB y r
  |some o=>exact⟨(h.heap id o y).1,z⟩
 rw[cb _ _ _ _ m] at c;obtain⟨l,n⟩:=h.heap id e c;exact⟨l,n.mono (Ext.refl _ _) (λb _=>d b) x (λ_ h=>h) (Shaped.refl _ _) (λ_ _=>rfl) λb=>⟨λh=>h.1,λh=>⟨h,λe=>bB e m⟩⟩⟩
theorem Rel.pick(h:Rel K β s a w)(k:Nat){r:List dB}{l:List (List T)}(hk:s.H k=aa (.a7 r m gen l []))(fr:(aU r m).size=1)(qp:(aU r m).eV 0=aa m1)
   {t:Array Value} (dI:β k=aa (aa b,gen)) (bb:w.heap[b]? =aa (.cells t (aU r m).ty (0,0)))
  {w':World} {A:Array Value} (hs:A.size=t.size) (G:w'.heap[b]? =aa (.cells A (aU r m).ty (0,0))) (v:Ext (λx=>x=b) w w') (d:List (List T)) (cI:d.length<=t.size) (L:Nat->Option Nat)
  (X: ∀i p,L i=aa p->i<d.length/\p<l.length/\A[i]? =t[p]? /\d[i]? =l[p]?) (ahw: ∀i D p,L i=aa p->L D=aa p->i=D) (C: ∀i,i<d.length->L i=aj->A[i]? =aa (.slice aj 0 0)/\d[i]? =aa [.bE []]):
  ∃β',(∀id,β' id=β id)/\Rel K β' {s with H:=a8 s.H k (aa (.a7 r m gen d []))} a w':=by
 have I:s.H k≠aj:=by rw[hk];simp
 obtain⟨kq,j4⟩:=(h.heap k _ hk).2;obtain⟨B,hlen,M,Q,N,agV,Sg⟩: ∃B:Nat->Nat->Nat->Prop,l.length*(aU r m).size<=t.size/\(∀o,o∈l->o.length=(aU r m).size)/\
   (∀(i j:Nat) (o:List T) (x:T) (u:Value),l[i]? =aa o->o[j]? =aa x->t[i*(aU r m).size+j]? =aa u->Cell r m [] β w (own K β s.H) i j x u (B i j))/\
   (∀i j c,B i j c->i<l.length/\j<(aU r m).size/\c≠b)/\(∀i j D eH c,B i j c->B D eH c->i=D/\j=eH)/\ ∀c,β.n k c↔ ∃i j,B i j c:=by
  rcases j4 with ⟨y,_⟩|⟨cS,sr,B,y,R,g,h4,h5,h6,pe,qj⟩
  ·rw[dI] at y;cases y
  rw[dI] at y;cases y;rw[bb] at R;cases R;exact⟨B,g,h4,h5,h6,pe,qj⟩
 rw[fr] at hlen M Q N;have U:own K β s.H b:= .inr ⟨k,I,.inl ⟨_,dI⟩⟩;have St:b<w.heap.size:=(kB.1 bb).1
 -- the block told anew, its rows not told
 have rI:=h.setRow k b (.inl ⟨_,dI⟩) t (aU r m).ty bb A hs (.arr (aU r m).ty gen 1 []) I ⟨kq,.inr ⟨b,A,dI,setRow_heap _ _ _ _ _ _ bb,aX,aX,λi j o x u y=>by simp at y⟩⟩;have gm:Rel K β {s with H:=a8 s.H k (aa (.arr (aU r m).ty gen 1 []))} a w':=by
  refine rI.grow ⟨v.os,v.tape,v.output,?_,λx hx _=>?_⟩
  ·have:=v.size;simpa using this
  by_cases e:x=b
  ·subst e;rw[G,setRow_heap _ _ _ _ _ _ bb]
  rw[setRow_other _ _ _ _ e];exact v.keep x (by simpa using hx) e
 refine⟨β.sub k λc=> ∃i p,L i=aa p/\B p 0 c,λ_=>rfl,?_⟩;have hC:=gm.sub k (λc=> ∃i p,L i=aa p/\B p 0 c) (.a7 r m gen d []) (by show a8 s.H k _ k≠aj;rw[cd];simp) ?_
 ·have e:a8 (a8 s.H k (aa (E.arr (aU r m).ty gen 1 []))) k (aa (.a7 r m gen d []))=a8 s.H k (aa (.a7 r m gen d [])):=by
   funext i;by_cases F:i=k
   ·subst F;rw[cd,cd]
   rw[cb _ _ _ _ F,cb _ _ _ _ F,cb _ _ _ _ F]
  have Sh:Rel K _ {s with H:=a8 (a8 s.H k (aa (E.arr (aU r m).ty gen 1 []))) k (aa (.a7 r m gen d []))} a w':=hC;rw[e] at Sh;exact Sh
 have iv: ∀x,own K (β.sub k λc=> ∃i p,L i=aa p/\B p 0 c) (a8 (a8 s.H k (aa (E.arr (aU r m).ty gen 1 []))) k (aa (.a7 r m gen d []))) x->own K β s.H x:=by
  rintro x (hx|⟨id,y,R⟩)
  ·exact .inl hx
  refine .inr ⟨id,λe0=>?_,x9 R⟩;by_cases F:id=k
  ·subst F;exact I e0
  rw[cb _ _ _ _ F,cb _ _ _ _ F] at y;exact y e0
 have agY:Ext (own K β s.H) w w':=v.weaken λx _ e=>by rw[show x=b from e];exact U
 refine⟨kq,.inr ⟨b,A,λi j c=>j=0/\ ∃p,L i=aa p/\B p 0 c,dI,G,by rw[fr];omega,λo vS=>?_,λi j o x u y R g=>?_,λi j c bT=>?_,λi j D eH c bT V=>?_,λc=>?_⟩⟩
 ·obtain⟨i,F⟩:=jQ.1 vS;have Z:=(bS.1 F).1;rw[fr];cases q:L i with
  |none=>rw[(C i Z q).2] at F;cases F;rfl
  |some p=>rw[(X i p q).2.2.2] at F;exact M o (bx F)
 ·have Z:=(bS.1 y).1;rw[fr] at g;have hj0:j=0:=by
   have ahC:=(bS.1 R).1;cases q:L i with
   |none=>rw[(C i Z q).2] at y;cases y;simpa using ahC
   |some p=>rw[(X i p q).2.2.2] at y;have:=M o (bx y);omega
  subst hj0;rw[show i*1+0=i by omega] at g;refine Cell.of ?_;cases q:L i with
  |none=>
   obtain⟨aN,a2⟩:=C i Z q;rw[a2] at y;cases y;rw[aN] at g;cases g;simp only[List.getElem?_cons_zero,Option.some.injEq] at R;subst R;rw[qp];exact .nil m1 _ (λc bT=>by obtain⟨_,p,W,_⟩:=bT;rw[q] at W;cases W)
  |some p=>
   obtain⟨a0,aN,a2,a3⟩:=X i p q;rw[a3] at y;rw[a2] at g;have bT:=(Q p 0 o x u y R (by rw[show p*1+0=p by omega];exact g)).none;have V:=bT.mono agY (λx _=>iv x) λc tC=>v.keep c (h.fresh k c (.inr ((Sg c).2 ⟨p,0,tC⟩))).2 (N p 0 c tC).2.2;exact V.iff λc=>⟨λ⟨_,To,f,G⟩=>by rw[q] at f;cases f;exact G,λG=>⟨rfl,p,q,G⟩⟩
 ·obtain⟨rfl,p,W,z⟩:=bT;rw[fr];exact⟨(X i p W).1,O,(N p 0 c z).2.2⟩
 ·obtain⟨rfl,p,W,z⟩:=bT;obtain⟨rfl,To,f,aha⟩:=V
  have:=(agV p 0 To 0 c z aha).1;subst this;exact⟨ahw i D p W f,rfl⟩
 constructor
 ·rintro⟨_,R⟩;obtain⟨i,p,W,z⟩:=R rfl;exact⟨i,0,rfl,p,W,z⟩
 rintro⟨i,j,rfl,p,W,z⟩;exact⟨(Sg c).2 ⟨p,0,z⟩,λ_=>⟨i,p,W,z⟩⟩
open Go.Proofs
theorem acE{k:Type}{l l':List k}(h:l.Perm l'): ∃d:Nat->Nat,(∀i,i<l'.length->d i<l.length/\l'[i]? =l[d i]?)/\ ∀i j,i<l'.length->j<l'.length->d i=d j->i=j:=by
 induction h with
 |nil=>exact⟨id,λi c=>bB c (q6 _),λi j c=>bB c (q6 _)⟩
 |cons a _ w=>
  obtain⟨d,n,o⟩:=w;refine⟨λi=>match i with|0=>0|i+1=>d i+1,λi c=>?_,λi j c m e=>?_⟩
  ·match i with
   |0=>exact⟨aX,rfl⟩
   |i+1=>
    obtain⟨aN,a2⟩:=n i (by simpa using c);exact⟨by simpa using aN,by simpa using a2⟩
  match i,j with
  |0,0=>rfl
  |0,j+1=>simp at e
  |i+1,0=>simp at e
  |i+1,j+1=>simp at e;rw[o i j (by simpa using c) (by simpa using m) e]
 |swap a b l=>
  refine⟨λi=>match i with|0=>1|1=>0|i+2=>i+2,λi c=>?_,λi j c m e=>?_⟩
  ·match i with
   |0=>exact⟨aX,rfl⟩
   |1=>exact⟨aX,rfl⟩
   |i+2=>exact⟨by simpa using c,aX⟩
  match i,j with
  |0,0=>rfl
  |0,1=>simp at e
  |0,j+2=>simp at e
  |1,0=>simp at e
  |1,1=>rfl
  |1,j+2=>simp at e
  |i+2,0=>simp at e
  |i+2,1=>simp at e
  |i+2,j+2=>simpa using e
 |trans _ _ p q=>
  obtain⟨d,n,o⟩:=p;obtain⟨s,r,x⟩:=q;refine⟨λi=>d (s i),λi c=>?_,λi j c m e=>?_⟩
  ·obtain⟨aN,a2⟩:=r i c;obtain⟨a3,a4⟩:=n (s i) aN;exact⟨a3,a2.trans a4⟩
  exact x i j c m (o _ _ (r i c).1 (r j m).1 e)
theorem Pb{sz:Nat}{D:List dB}{a:List (List T)}{x:Value}(C:cX W w X k (.a7 D m gen a []))(G:(aU D m).size=sz)(H:bq W w X (.bg k gen sz 0 a.length) x):
  (x= .slice aj 0 0/\a=[]/\W k=aa (aj,gen))\/ ∃(b d:Nat) (e:Array Value) (B:Nat->Nat->Nat->Prop),x= .slice (aa ⟨b,0,aj⟩) a.length d/\W k=aa (aa b,gen)/\w.heap[b]? =aa (.cells e (aU D m).ty (0,0))/\e.size=d*sz/\a.length<=d/\d<=maxLen/\
   (∀(i j:Nat) (l:List T) (y:T) (u:Value),a[i]? =aa l->l[j]? =aa y->e[i*sz+j]? =aa u->hB D w X ((aU D m).eV j) y u (B i j))/\ ∀i j c,B i j c->c≠b:=by
 obtain⟨q,o⟩:=uY C;rcases d4 H o with ⟨d,b,n,K,rfl,rfl,v,h,r,L,s⟩|⟨rfl,_,z,rfl⟩
 ·rcases C.2 with ⟨p,_⟩|⟨E,e,B,p,F,I,M,Q,R,_⟩
  ·rw[o] at p;cases p
  rw[o] at p;cases p;have A:e.size=d*sz:=by
   unfold World.shape? at h;rw[F] at h;simp at h;rw[<-r] at h;rw[dQ] at h;exact h.2
  refine .inr ⟨b,d,e,B,by rw[ik],o,F,A,L,s,λi j l y u Z f g=>(Q i j l y u Z f (by rw[G];exact g)).none,λi j c t=>(R i j c t).2.2⟩
 exact .inl ⟨rfl,oN z,o⟩
section EA
open Go.Shelf Go.RowKit Go.Lib Go.Sort
variable {P:Program}{ρ:Ren}
theorem abK(L:SlLaysF.n6 P ρ)(raw:uW P g)(Jg: ∀args w,(callFunc g args).run P w= .ok (.enter g args) w)(call:j2 P (ρ.f 6)){q:List dB}{s:Nat}(fr:(aU q m).size=1)(qp:(aU q m).eV 0=aa m1)
  (rows:List (List Int)) (cY:rows.length<=1000000000) (cI: ∀l∈rows,l.length<=1000000000):
  jW P G (ρ.f 6) [.a7 q m s (rows.map (bd ai)) []] [ms 0 s 1 (bd ai) rows,.fn g []] (.bM []) [.a7 q m s ((fS rows).map (bd ai)) []]:=by
 refine⟨call,?_⟩;intro w X z us kV iv lB gI;have tE:us.length=2:=gI.length;obtain⟨iH,ht,rfl⟩: ∃a b,us=[a,b]:=by
  match us,tE with
  | [a,b],_=>exact⟨a,b,rfl⟩
 have V:=Rel.mT (P:=P) (nt:=2) kV iv lB gI (cR _);obtain⟨vV,tK,_⟩:=gI;obtain rfl:ht= .func (.func g) #[] #[]:=by
  cases tK with
  |fn _ _ us hs _=>
   have:us= #[]:=KR hs;rw[this]
 generalize vN:({tmps:=[iH,Value.func (.func g) #[] #[]].toArray++Array.replicate (2-[iH,Value.func (.func g) #[] #[]].toArray.size) undef,defers:=[]}:Act)=act at V;generalize mG:Ctx.dR P G w X [E.a7 q m s (rows.map (bd ai)) []].length z 2=K at V;have tB:K.X=X:=by rw[<-mG];rfl
 generalize j3:Lift.mT [E.a7 q m s (rows.map (bd ai)) []] [ms 0 s 1 (bd ai) rows,.fn g []]=R at V;have W:R.H 0=aa (.a7 q m s (rows.map (bd ai)) []):=by rw[<-j3];rfl
 have yN:R.H=ft [E.a7 q m s (rows.map (bd ai)) []] 0:=by rw[<-j3];rfl
 have JP:own K z R.H=mS X z (ft [E.a7 q m s (rows.map (bd ai)) []] 0):=by funext b;rw[yN];show(K.X b\/_)=_;rw[tB];rfl
 rw[<-JP] at vV;have tA:a8 R.H 0 (aa (E.a7 q m s ((fS rows).map (bd ai)) []))=ft [E.a7 q m s ((fS rows).map (bd ai)) []] 0:=by
  rw[yN];funext j
  match j with
  |0=>rfl
  |j+1=>rfl
 have fin: ∀(Z:Map) (w':World),Rel K Z {R with H:=a8 R.H 0 (aa (.a7 q m s ((fS rows).map (bd ai)) []))} act w'->
   ∃u,∃_i:Unit,∃β,Ending.returned (.tuple #[])= .returned u/\True/\Left z β [E.a7 q m s (rows.map (bd ai)) []] [E.a7 q m s ((fS rows).map (bd ai)) []] w w' X (.bM []) u:=by
  intro Z w' b8;subst mG;obtain⟨β,tM⟩:=E9 (out:=[E.a7 q m s ((fS rows).map (bd ai)) []]) b8 (cR _) (.bM [] #[] rfl λi c u bT _=>by simp at bT) rfl (by
   intro id e0 D;refine⟨⟨e0,?_,kH.refl _⟩,?_⟩
   ·show a8 R.H 0 _ id=_;rw[tA];exact D
   match id with
   |0=>cases D;exact⟨rfl,rfl⟩
   |k+1=>cases D)
  exact⟨_,(),β,rfl,trivial,tM⟩
 have Dt:R.H 0≠aj:=by rw[W];simp
 have pZ:=Pb (sz:=1) (V.heap 0 _ W).2 fr vV;rcases pZ with ⟨rfl,h1,dI⟩|⟨b,cap,o,B,rfl,dI,C,pg,qo,DC,b8,Jo⟩
 ·have tH:rows=[]:=by simpa using h1
  subst tH;refine(AnyF.slices_SortFunc_none (P:=P) (ρ:=ρ) {L with} aj 0 _ w).mono ?_;rintro e1 hr ⟨rfl,rfl⟩;refine fin z _ ?_
  have:=V.zN 0 _ W;rw[show fS []=[] by simp[fS]];exact this
 have vL:own K z R.H b:= .inr ⟨0,Dt,.inl ⟨_,dI⟩⟩;rw[dJ] at qo;have hlen:rows.length<=o.size:=O
 have pk: ∀(j:Nat) (I:j<rows.length),df w (λx=>x=b) (.bE (rows[j].map k0)) (o[j]' O):=λj I=>by
  have tI:=b8 j 0 (bd ai rows[j]) (.bE (rows[j].map k0)) _ (by rw[eL,bp I];rfl) rfl (by rw[show j*1+0=j by omega];exact iY O);exact tI.zO (λx hx=>by rw[show x=b from hx];exact vL) λc bT e=>Jo j 0 c bT e
 obtain⟨F,tx,tz⟩: ∃F:Fin rows.length->ec w λx=>x=b,(∀j,(F j).enc=o[j.1]'(by have:=j.2;omega))/\ ∀j,(F j).ls=rows[j.1]:=
  ⟨λj=>⟨(o[j.1]'(by have:=j.2;omega),rows[j.1]),pk j.1 j.2,cI _ (gC j.2)⟩,λ_=>rfl,λ_=>rfl⟩
 obtain⟨d,cD⟩: ∃d:Array (ec w λx=>x=b),d=Array.ofFn F:=⟨_,rfl⟩
 have Q:d.size=rows.length:=by rw[cD];exact Array.size_ofFn
 have t: ∀(j:Nat) (I:j<d.size),d[j].enc=o[j]' O/\d[j].ls=rows[j]' O:=λj I=>by
  subst cD;rw[Array.getElem_ofFn];exact⟨tx _,tz _⟩
 have ot:(d.map ec.ls).toList=rows:=by
  refine List.ext_getElem (by simp[Q]) λj h1 h2=>?_;rw[Array.getElem_toList,Array.getElem_map];exact(t j O).2
 have hH:Holds ec.enc w b 0 d:=λj I=>by
  rw[dQ,getElem!_pos d j I,(t j I).1];refine⟨?_,by simp[World.frozen?,C]⟩
  have:j<o.size:=O
  simp[World.cell?,C,this]
 have tD:CmpLays1 P g #[] ec.enc vt b 0 d.size w:=CmpReads.lays (λm os dk hs x y=>by
  have ly:=Ih (w:=w) (X:=λx=>x=b) (b:=b) (m:=m) (dk:=dk) (os:=os) rfl;exact(Rg raw (x.2.1.mono ly λ_ _ h=>h) (y.2.1.mono ly λ_ _ h=>h) x.2.2 y.2.2).mono (by
   rintro e1 hr ⟨rfl,rfl⟩;exact⟨rfl,0,rfl⟩))
 have run:=Any.slices_SortFunc L ec.enc ec.one vt Q7 g #[] b 0 cap d w Jg tD hH (kB.1 C).1 O;rw[Q] at run;rw[dJ];refine run.mono ?_;rintro e1 hr ⟨rfl,r,n,os,M,hs,nx⟩;rw[<-Q] at M hs;have N:=N4 M hs;rw[ot] at N;have v:r.size=d.size:=M.1;obtain⟨S,aiA,aiB⟩:=acE (l:=d.toList) (l':=r.toList) (by
  have h2:=M.2.2;have e1:r.extract 0 d.size=r:=by rw[<-v];simp
  have e2:d.extract 0 d.size=d:=aX
  rw[e1,e2] at h2;exact h2.symm)
 have T:(Sort.ahead w n).heap[b]? =aa (.cells o (aU q m).ty (0,0)):=C;have vS:sortWorld ec.enc w b 0 n r os=grow ((Sort.ahead w n).setRow b (putCells ec.enc 0 r o)) os:=by
  show grow (putRow ec.enc (Sort.ahead w n) b 0 r) os=_;congr 1;exact Mc T _
 have hCs:(putCells ec.enc 0 r o).size=o.size:=by simp[putCells]
 have ag': ∀i,i<r.size->(putCells ec.enc 0 r o)[i]? =aa (r[i]!).enc:=λi A=>by
  unfold putCells;rw[Array.getElem?_mapIdx,iY O];simp only[hv];rw[aR O,Nat.sub_zero]
 have ag4:hr.heap[b]? =aa (.cells (putCells ec.enc 0 r o) (aU q m).ty (0,0)):=by
  rw[nx,vS];show(_++os)[b]? =_;have Du:b<((Sort.ahead w n).setRow b (putCells ec.enc 0 r o)).heap.size:=(kB.1 (setRow_heap _ _ _ _ _ _ T)).1;rw[Array.getElem?_append_left Du];exact setRow_heap _ _ _ _ _ _ T
 have agX:Ext (λx=>x=b) w hr:=by rw[nx];exact Ih rfl
 have ahh:r.size=rows.length:=by rw[v,Q]
 have U:(fS rows).length=rows.length:=by rw[<-N,rb,Array.size_map,ahh]
 have ahr: ∀i (A:i<rows.length),∃M:S i<rows.length,(putCells ec.enc 0 r o)[i]? =o[S i]? /\(fS rows)[i]? =rows[S i]? :=λi A=>by
  obtain⟨aN,a2⟩:=aiA i (by rw[rb];omega);rw[rb,Q] at aN;rw[ra,ra,iY O,iY O] at a2;have a3:r[i]' O=d[S i]' O:=by simpa using a2
  refine⟨aN,?_,?_⟩
  ·rw[ag' i O,getElem!_pos r i O,a3,(t (S i) O).1,iY O]
  rw[<-N,ra,Array.getElem?_map,iY O,hv,a3,(t (S i) O).2,bp aN]
 obtain⟨Z,_,rK⟩:=V.pick 0 W fr qp dI C hCs ag4 agX ((fS rows).map (bd ai)) (by rw[dJ,U];omega) (λi=>if i<rows.length then aa (S i) else aj) (λi p h=>by
   by_cases A:i<rows.length
   ·rw[aR A] at h;cases h;obtain⟨M,e1,e2⟩:=ahr i A;exact⟨by rw[dJ,U];exact A,by rw[dJ];exact M,e1,by rw[eL,eL,e2]⟩
   ·rw[aP A] at h;cases h) (λi jI p h nv=>by
   by_cases A:i<rows.length
   ·by_cases yS:jI<rows.length
    ·rw[aR A] at h;rw[aR yS] at nv;exact aiB i jI (by rw[rb];omega) (by rw[rb];omega) (Option.some.inj (h.trans nv.symm))
    rw[aP yS] at nv;cases nv
   ·rw[aP A] at h;cases h) (λi A h=>by
   rw[dJ,U] at A;rw[aR A] at h;cases h)
 exact fin Z _ rK
theorem Ye(L:SlLaysF.n6 P ρ)(c:uW P g)(k: ∀args w,(callFunc g args).run P w= .ok (.enter g args) w)(a:j2 P (ρ.f 6)){D:List dB}{n:Nat}(l:(aU D m).size=1)(d:(aU D m).eV 0=aa n){x r:List (List Int)}(h:nE x=aa r):
  jW P G (ρ.f 6) [.a7 D m i (x.map (bd ai)) []] [ms 0 i 1 (bd ai) x,.fn g []] (.bM []) [.a7 D m i (r.map (bd ai)) []]:=by
 unfold nE at h;split at h
 ·rename_i e;cases h;exact abK L c k a l d x e.1 e.2
 cases h
end EA
theorem wH(a:Nat->Bool)(m:Nat):et a (m+1)=et a m++(if a m then [m] else []):=by unfold et;rw[pI,pL];congr 1;by_cases h:a m<;>simp[h]
theorem Bh(h: ∀j,j<m->u j=true):et u m=List.range m:=by unfold et;exact List.filter_eq_self.2 λj a=>h j (w6.1 a)
structure Ln (P:Program) (f g:FuncId):Prop where
 run: ∀(vs:Nat->Value) (b off n cap:Nat) (ty:TypeId) (cur:Array Value) (dr:Nat->Bool) (w:World) (bL:w.heap[b]? =aa (.cells cur ty (0,0))) (cY:off+n<=cur.size) (bW: ∀j,j<n->cur[off+j]? =aa (vs j)) (qu: ∀j,(vs j).oneCell'=true) (JB:n<=cap) (hm:cap<=maxLen) (JI:dr 0=true) (tD: ∀j W,0<j->j<n->w.heap.size<=W.heap.size->(∀k,k≠b->W.heap[k]? =w.heap[k]?)->Calls P g #[vs j,vs (j-1)] W λe hD=>e= .returned (.bool (!dr j))/\ ∃q,hD=W.drewN q),Calls P f #[.slice (aa ⟨b,off,aj⟩) n cap,.func (.func g) #[] #[]] w λe w'=>e= .returned (.slice (aa ⟨b,off,aj⟩) (et dr n).length cap)/\Ext (λx=>x=b) w w'/\ ∃fE,w'.heap[b]? =aa (.cells fE ty (0,0))/\fE.size=cur.size/\(∀i,i<(et dr n).length->fE[off+i]? =aa (vs ((et dr n).getD i 0)))/\ ∀i,(et dr n).length<=i->i<n->fE[off+i]? =aa (.slice aj 0 0)
 qL: ∀(a:Option Addr) (c:Nat) (w:World),Calls P f #[.slice a 0 c,.func (.func g) #[] #[]] w λe w'=>e= .returned (.slice a 0 c)/\w'=w
structure FE (P:Program) (g:FuncId):Prop where
 both: ∀(dc iB n c cS lF m d:Nat) (xs ys:List Int) (w:World),xs.length=n->ys.length=m->n<=9223372036854775807->m<=9223372036854775807->(∀j,j<xs.length->w.cell? ⟨dc,iB+j,aj⟩=aa (.int .i64 (xs.getD j 0)))->
  (∀j,j<ys.length->w.cell? ⟨cS,lF+j,aj⟩=aa (.int .i64 (ys.getD j 0)))->
  Calls P g #[.slice (aa ⟨dc,iB,aj⟩) n c,.slice (aa ⟨cS,lF,aj⟩) m d] w λe w'=>e= .returned (.bool (xs==ys))/\ ∃q,w'=w.drewN q
 lens: ∀(aN a2:Option Addr) (n c m d:Nat) (w:World),n≠m->Calls P g #[.slice aN n c,.slice a2 m d] w λe w'=>e= .returned (.bool false)/\w'=w
 qL: ∀(aN a2:Option Addr) (c m d:Nat) (w:World),m<=9223372036854775807->Calls P g #[.slice aN 0 c,.slice a2 m d] w λe w'=>e= .returned (.bool (decide (m=0)))/\w'=w
theorem UZ{P:Program}(h:FE P g){w0:World}(A: ∀a v,w0.cell? a=aa v->w.cell? a=aa v){d l:List Int}{u z:Value}(G:df w0 X (.bE (d.map k0)) u)(B:df w0 X (.bE (l.map k0)) z)(L:d.length<=1000000000)(Q:l.length<=1000000000):
  Calls P g #[u,z] w λe i=>e= .returned (.bool (d==l))/\ ∃q,i=w.drewN q:=by
 have m: ∀{e:Ending} {i:World} {c:Bool},e= .returned (.bool c)/\i=w->(d==l)=c->e= .returned (.bool (d==l))/\ ∃q,i=w.drewN q:=by
  rintro e i c ⟨rfl,rfl⟩ rfl;exact⟨rfl,0,rfl⟩
 rcases xZ G with ⟨rfl,a,c,rfl⟩|⟨b,o,c,H,rfl,K⟩
 ·rcases xZ B with ⟨rfl,n,k,rfl⟩|⟨p,r,k,C,rfl,F⟩
  ·exact(h.qL a n c 0 k w O).mono λe i q=>m q aX
  refine(h.qL a (aa ⟨p,r,aj⟩) c l.length k w O).mono λe i q=>m q ?_;cases l with
  |nil=>simp at C
  |cons y l=>simp
 rcases xZ B with ⟨rfl,n,k,rfl⟩|⟨p,r,k,C,rfl,F⟩
 ·refine(h.lens (aa ⟨b,o,aj⟩) n d.length c 0 k w O).mono λe i q=>m q ?_;cases d with
  |nil=>simp at H
  |cons x d=>simp
 exact h.both b o d.length c p r l.length k d l w rfl rfl O O (λj s=>A _ _ (K j s)) λj s=>A _ _ (F j s)
theorem acb(h:(et u m)[i]? =aa p):p<m:=by have:=bx h;unfold et at this;exact w6.1 (List.mem_filter.1 this).1
theorem abg(a:Nat->Bool)(m:Nat):(et a m).length<=m:=by unfold et;exact iF (List.length_filter_le _ _) aX
theorem abh{jI:Nat}(h:(et u m)[i]? =aa p)(a:(et u m)[jI]? =aa p):i=jI:=by
 have c:(et u m).Nodup:=by unfold et;exact List.nodup_range.filter _
 exact(List.getElem?_inj (bS.1 h).1 c).1 (h.trans a.symm)
section agx
variable {P:Program}
theorem Ys{f:FuncId}(t:Ln P f g)(ajV:FE P g)(D:j2 P f){n:List dB}{gs:Nat}(fr:(aU n m).size=1)(qp:(aU n m).eV 0=aa m1)
  (d:List (List Int)) (cI: ∀l∈d,l.length<=1000000000):
  jW P G f [.a7 n m gs (d.map (bd ai)) []] [ms 0 gs 1 (bd ai) d,.fn g []] (ms 0 gs 1 (bd ai) (hJ d)) [.a7 n m gs ((hJ d).map (bd ai)) []]:=by
 refine⟨D,?_⟩;intro w X r I kV iv lB gI;have tE:I.length=2:=gI.length;obtain⟨iH,ht,rfl⟩: ∃a b,I=[a,b]:=by
  match I,tE with
  | [a,b],_=>exact⟨a,b,rfl⟩
 have F:=Rel.mT (P:=P) (nt:=2) kV iv lB gI (cR _);obtain⟨M,tK,_⟩:=gI;obtain rfl:ht= .func (.func g) #[] #[]:=by
  cases tK with
  |fn _ _ I hs _=>
   have:I= #[]:=KR hs;rw[this]
 generalize vN:({tmps:=[iH,Value.func (.func g) #[] #[]].toArray++Array.replicate (2-[iH,Value.func (.func g) #[] #[]].toArray.size) undef,defers:=[]}:Act)=act at F;generalize mG:Ctx.dR P G w X [E.a7 n m gs (d.map (bd ai)) []].length r 2=K at F;have tB:K.X=X:=by rw[<-mG];rfl
 generalize j3:Lift.mT [E.a7 n m gs (d.map (bd ai)) []] [ms 0 gs 1 (bd ai) d,.fn g []]=z at F;have A:z.H 0=aa (.a7 n m gs (d.map (bd ai)) []):=by rw[<-j3];rfl
 have N:z.H=ft [E.a7 n m gs (d.map (bd ai)) []] 0:=by rw[<-j3];rfl
 have S:own K r z.H=mS X r (ft [E.a7 n m gs (d.map (bd ai)) []] 0):=by funext b;rw[N];show(K.X b\/_)=_;rw[tB];rfl
 rw[<-S] at M;have tA:a8 z.H 0 (aa (E.a7 n m gs ((hJ d).map (bd ai)) []))=ft [E.a7 n m gs ((hJ d).map (bd ai)) []] 0:=by
  rw[N];funext j
  match j with
  |0=>rfl
  |j+1=>rfl
 have T: ∀(o:Map) (w':World) (v:Value),Rel K o {z with H:=a8 z.H 0 (aa (.a7 n m gs ((hJ d).map (bd ai)) []))} act w'->bq o w' (own K o (a8 z.H 0 (aa (.a7 n m gs ((hJ d).map (bd ai)) [])))) (ms 0 gs 1 (bd ai) (hJ d)) v->
   ∃u,∃_i:Unit,∃β,Ending.returned v= .returned u/\True/\Left r β [E.a7 n m gs (d.map (bd ai)) []] [E.a7 n m gs ((hJ d).map (bd ai)) []] w w' X (ms 0 gs 1 (bd ai) (hJ d)) u:=by
  intro o w' v b8 L;subst mG;obtain⟨β,tM⟩:=E9 (out:=[E.a7 n m gs ((hJ d).map (bd ai)) []]) b8 (cR _) L rfl (by
   intro id e0 Q;refine⟨⟨e0,?_,kH.refl _⟩,?_⟩
   ·show a8 z.H 0 _ id=_;rw[tA];exact Q
   match id with
   |0=>cases Q;exact⟨rfl,rfl⟩
   |k+1=>cases Q)
  exact⟨_,(),β,rfl,trivial,tM⟩
 have U:z.H 0≠aj:=by rw[A];simp
 have kq:1<=gs:=(F.heap 0 _ A).2.1;have pZ:=Pb (sz:=1) (F.heap 0 _ A).2 fr M;rcases pZ with ⟨rfl,h1,C⟩|⟨b,cap,s,B,rfl,C,ql,pg,qo,DC,b8,Jo⟩
 ·have tH:d=[]:=by simpa using h1
  subst tH;refine(t.qL aj 0 w).mono ?_;rintro e1 hr ⟨rfl,rfl⟩;have e0:hJ []=[]:=rfl;refine T r _ _ ?_ ?_
  ·have:=F.zN 0 _ A;rw[e0];exact this
  rw[e0];exact .iT 0 gs 1 kq C
 have vL:own K r z.H b:= .inr ⟨0,U,.inl ⟨_,C⟩⟩;rw[dJ] at qo;have hlen:d.length<=s.size:=O
 have R: ∀(j:Nat) (q:j<d.length),df w (λx=>x=b) (.bE (d[j].map k0)) (s[j]' O):=λj q=>by
  have tI:=b8 j 0 (bd ai d[j]) (.bE (d[j].map k0)) _ (by rw[eL,bp q];rfl) rfl (by rw[show j*1+0=j by omega];exact iY O);exact tI.zO (λx hx=>by rw[show x=b from hx];exact vL) λc bT e=>Jo j 0 c bT e
 obtain⟨vs,vU⟩: ∃vs:Nat->Value,vs=λj=>if j<d.length then s.getD j undef else .slice aj 0 0:=⟨_,rfl⟩
 have L: ∀j (q:j<d.length),vs j=s[j]' O:=λj q=>by
  rw[vU];show(if j<d.length then _ else _)=_;rw[aR q];simp[show j<s.size by omega]
 have qu: ∀j,(vs j).oneCell'=true:=λj=>by
  by_cases q:j<d.length
  ·rw[L j q];exact(R j q).j7
  rw[vU];show(if j<d.length then _ else _:Value).oneCell'=true;rw[aP q];rfl
 have run:=t.run vs b 0 d.length cap (aU n m).ty s (lV d) w ql O (λj q=>by rw[dQ,L j q];exact iY O) qu qo DC (by simp[lV]) (λj W hj0 q lX mH=>by
  have ly:Ext (λx=>x=b) w {w with heap:=W.heap}:=⟨rfl,rfl,rfl,lX,λk _ hk=>mH k hk⟩
  have e:=UZ ajV (w0:={w with heap:=W.heap}) (w:=W) (λ_ _ h=>h) ((R j q).mono ly λ_ _ h=>h) ((R (j-1) O).mono ly λ_ _ h=>h) (cI _ (gC _)) (cI _ (gC _));rw[L j q,L (j-1) O];have hk:(d[j]==d[j-1]' O)= !lV d j:=by
   have g1:d.getD j []=d[j]:=by rw[eQ,bp q];rfl
   have g2:d.getD (j-1) []=d[j-1]' O:=by rw[eQ,bp O];rfl
   unfold lV;rw[g1,g2]
   have:j≠0:=O
   by_cases C:d[j]=d[j-1]' O
   ·simp[this,C]
   simp[this,C]
  rw[hk] at e;exact e)
 rw[dJ];refine run.mono ?_;rintro e1 hr ⟨rfl,ly,fE,Z,DE,JK,akP⟩;have y:(hJ d).length=(et (lV d) d.length).length:=by unfold hJ;rw[dJ]
 have akR:=abg (lV d) d.length;obtain⟨o,aiz,rK⟩:=F.pick 0 A fr qp C ql DE Z ly ((hJ d).map (bd ai)) (by rw[dJ,y];omega) (λi=>(et (lV d) d.length)[i]?) (λi p h=>by
   have hi:=(bS.1 h).1;have hp:=acb h;have h1:=JK i hi;rw[dQ,eQ,h,Option.getD_some,L p hp] at h1;refine⟨by rw[dJ,y];exact hi,by rw[dJ];exact hp,?_,?_⟩
   ·rw[h1,iY O]
   ·unfold hJ;rw[eL,eL,eL,h,bp hp];show aa (bd ai (d.getD p []))=aa (bd ai d[p]);rw[eQ,bp hp];rfl) (λi jI p h nv=>abh h nv) (λi hi h=>by
   rw[dJ,y] at hi;rw[bp hi] at h;cases h)
 refine T o _ _ rK ?_;have nw:b<hr.heap.size:=(kB.1 Z).1
 have:=bq.bg (β:=o) (w:=hr) (X:=own K o (a8 z.H 0 (aa (.a7 n m gs ((hJ d).map (bd ai)) [])))) 0 gs 1 0 (hJ d).length cap b fE.size (aU n m).ty kq (by rw[aiz];exact C) nw (by unfold World.shape?;rw[Z]) O (by rw[y];omega) DC;rw[y,ik] at this;rw[show ms 0 gs 1 (bd ai) (hJ d)=V.bg 0 gs 1 0 (et (lV d) d.length).length by rw[<-y,show(hJ d).length=(List.map (bd ai) (hJ d)).length by rw[dJ]]];exact this
end agx
end Go.Lift
