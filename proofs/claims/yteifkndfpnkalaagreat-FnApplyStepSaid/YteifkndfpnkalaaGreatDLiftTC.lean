/- Tools. -/
import Derived.Test.YteifkndfpnkalaaGreatDLiftSort
set_option linter.unusedVariables false
namespace Go.Lift
open Go
open Option renaming some -> aa, none -> aj, map_some -> ht
def Map.sub(a:Map)(k:Nat)(N:Nat->Prop):Map:=⟨a.f,λid b=>a.n id b/\(id=k->N b)⟩
variable {W β:Map}{k i b m gen m1 p:Nat}{K:Ctx}{s:S}{a:Act}{w:World}{X:Nat->Prop}{g:FuncId}{G:fL}{u:Nat->Bool}
theorem x7{N:Nat->Prop}(h:At (W.sub k N) i b):At W i b:=by
 rcases h with h|h
 ·exact .inl h
 exact .inr h.1
theorem Rel.sub(h:Rel K β s a w)(k:Nat)(N:Nat->Prop)(e':E)(r:s.H k≠aj)
  (z:cX (β.sub k N) w (own K (β.sub k N) (a8 s.H k (aa e'))) k e'):Rel K (β.sub k N) {s with H:=a8 s.H k (aa e')} a w:=by
 have d: ∀b,own K (β.sub k N) (a8 s.H k (aa e')) b->own K β s.H b:=by
  rintro b (c|⟨id,l,n⟩)
  ·exact .inl c
  refine .inr ⟨id,λo=>?_,x7 n⟩;by_cases m:id=k
  ·subst m;exact r o
  rw[cb _ _ _ _ m] at l;exact l o
 have x:ed β (β.sub k N):=λ_ _ _ c=> .inl c;refine {h with base:=λid hid=>h.base id hid,eF:=λid hid=>h.eF id hid,e9:=λid b hid p=>h.e9 id b hid p.1,inj:=λid q b l n=>h.inj id q b (x7 l) (x7 n),fresh:=λid b p=>h.fresh id b (x7 p),heap:= ?_,dC:=λi=>(h.dC i).mono (Ext.refl _ _) (λb _=>d b) x (Shaped.refl _ _)};intro id e c;have c:a8 s.H k (aa e') id=aa e:=c;by_cases m:id=k
 ·subst m;rw[cd] at c;cases c;cases y:s.H id with
  |none=>exact bB y r
  |some o=>exact⟨(h.heap id o y).1,z⟩
 rw[cb _ _ _ _ m] at c;obtain⟨l,n⟩:=h.heap id e c;exact⟨l,n.mono (Ext.refl _ _) (λb _=>d b) x (λ_ h=>h) (Shaped.refl _ _) (λ_ _=>rfl) λb=>⟨λh=>h.1,λh=>⟨h,λe=>bB e m⟩⟩⟩
theorem Rel.pick(h:Rel K β s a w)(k:Nat){r:List dB}{l:List (List T)}(hk:s.H k=aa (.a7 r m gen l []))(fr:(aU r m).size=1)(qo:(aU r m).eU 0=aa m1)
   {t:Array Value} (dI:β k=aa (aa b,gen)) (bb:w.heap[b]? =aa (.cells t (aU r m).ty (0,0)))
  {w':World} {A:Array Value} (hs:A.size=t.size) (G:w'.heap[b]? =aa (.cells A (aU r m).ty (0,0))) (v:Ext (λx=>x=b) w w') (d:List (List T)) (cI:d.length<=t.size) (L:Nat->Option Nat)
  (X: ∀i p,L i=aa p->i<d.length/\p<l.length/\A[i]? =t[p]? /\d[i]? =l[p]?) (ahi: ∀i D p,L i=aa p->L D=aa p->i=D) (C: ∀i,i<d.length->L i=aj->A[i]? =aa (.slice aj 0 0)/\d[i]? =aa [.bD []]):
  ∃β',(∀id,β' id=β id)/\Rel K β' {s with H:=a8 s.H k (aa (.a7 r m gen d []))} a w':=by
 have I:s.H k≠aj:=by rw[hk];simp
 obtain⟨ko,j1⟩:=(h.heap k _ hk).2;obtain⟨B,hlen,M,Q,N,agH,R'⟩: ∃B:Nat->Nat->Nat->Prop,l.length*(aU r m).size<=t.size/\(∀o,o∈l->o.length=(aU r m).size)/\
   (∀(i j:Nat) (o:List T) (x:T) (u:Value),l[i]? =aa o->o[j]? =aa x->t[i*(aU r m).size+j]? =aa u->Cell r m [] β w (own K β s.H) i j x u (B i j))/\
   (∀i j c,B i j c->i<l.length/\j<(aU r m).size/\c≠b)/\(∀i j D eH c,B i j c->B D eH c->i=D/\j=eH)/\ ∀c,β.n k c↔ ∃i j,B i j c:=by
  rcases j1 with ⟨y,_⟩|⟨cS,sq,B,y,R,g,h4,h5,h6,o9,qi⟩
  ·rw[dI] at y;cases y
  rw[dI] at y;cases y;rw[bb] at R;cases R;exact⟨B,g,h4,h5,h6,o9,qi⟩
 rw[fr] at hlen M Q N;have U:own K β s.H b:= .inr ⟨k,I,.inl ⟨_,dI⟩⟩;have Sl:b<w.heap.size:=(kA.1 bb).1
 -- the block told anew, its rows not told
 have rK:=h.setRow k b (.inl ⟨_,dI⟩) t (aU r m).ty bb A hs (.arr (aU r m).ty gen 1 []) I ⟨ko,.inr ⟨b,A,dI,setRow_heap _ _ _ _ _ _ bb,aX,aX,λi j o x u y=>by simp at y⟩⟩;have gk:Rel K β {s with H:=a8 s.H k (aa (.arr (aU r m).ty gen 1 []))} a w':=by
  refine rK.grow ⟨v.os,v.tape,v.output,?_,λx hx _=>?_⟩
  ·have:=v.size;simpa using this
  by_cases e:x=b
  ·subst e;rw[G,setRow_heap _ _ _ _ _ _ bb]
  rw[setRow_other _ _ _ _ e];exact v.keep x (by simpa using hx) e
 refine⟨β.sub k λc=> ∃i p,L i=aa p/\B p 0 c,λ_=>rfl,?_⟩;have hC:=gk.sub k (λc=> ∃i p,L i=aa p/\B p 0 c) (.a7 r m gen d []) (by show a8 s.H k _ k≠aj;rw[cd];simp) ?_
 ·have e:a8 (a8 s.H k (aa (E.arr (aU r m).ty gen 1 []))) k (aa (.a7 r m gen d []))=a8 s.H k (aa (.a7 r m gen d [])):=by
   funext i;by_cases F:i=k
   ·subst F;rw[cd,cd]
   rw[cb _ _ _ _ F,cb _ _ _ _ F,cb _ _ _ _ F]
  have Sa:Rel K _ {s with H:=a8 (a8 s.H k (aa (E.arr (aU r m).ty gen 1 []))) k (aa (.a7 r m gen d []))} a w':=hC;rw[e] at Sa;exact Sa
 have iu: ∀x,own K (β.sub k λc=> ∃i p,L i=aa p/\B p 0 c) (a8 (a8 s.H k (aa (E.arr (aU r m).ty gen 1 []))) k (aa (.a7 r m gen d []))) x->own K β s.H x:=by
  rintro x (hx|⟨id,y,R⟩)
  ·exact .inl hx
  refine .inr ⟨id,λe0=>?_,x7 R⟩;by_cases F:id=k
  ·subst F;exact I e0
  rw[cb _ _ _ _ F,cb _ _ _ _ F] at y;exact y e0
 have agK:Ext (own K β s.H) w w':=v.weaken λx _ e=>by rw[show x=b from e];exact U
 refine⟨ko,.inr ⟨b,A,λi j c=>j=0/\ ∃p,L i=aa p/\B p 0 c,dI,G,by rw[fr];omega,λo vR=>?_,λi j o x u y R g=>?_,λi j c bT=>?_,λi j D eH c bT V=>?_,λc=>?_⟩⟩
 ·obtain⟨i,F⟩:=jO.1 vR;have Z:=(bR.1 F).1;rw[fr];cases q:L i with
  |none=>rw[(C i Z q).2] at F;cases F;rfl
  |some p=>rw[(X i p q).2.2.2] at F;exact M o (bx F)
 ·have Z:=(bR.1 y).1;rw[fr] at g;have hj0:j=0:=by
   have aho:=(bR.1 R).1;cases q:L i with
   |none=>rw[(C i Z q).2] at y;cases y;simpa using aho
   |some p=>rw[(X i p q).2.2.2] at y;have:=M o (bx y);omega
  subst hj0;rw[show i*1+0=i by omega] at g;refine Cell.of ?_;cases q:L i with
  |none=>
   obtain⟨aL,a2⟩:=C i Z q;rw[a2] at y;cases y;rw[aL] at g;cases g;simp only[List.getElem?_cons_zero,Option.some.injEq] at R;subst R;rw[qo];exact .nil m1 _ (λc bT=>by obtain⟨_,p,W,_⟩:=bT;rw[q] at W;cases W)
  |some p=>
   obtain⟨a0,aL,a2,a3⟩:=X i p q;rw[a3] at y;rw[a2] at g;have bT:=(Q p 0 o x u y R (by rw[show p*1+0=p by omega];exact g)).none;have V:=bT.mono agK (λx _=>iu x) λc tB=>v.keep c (h.fresh k c (.inr ((R' c).2 ⟨p,0,tB⟩))).2 (N p 0 c tB).2.2;exact V.iff λc=>⟨λ⟨_,Th,f,G⟩=>by rw[q] at f;cases f;exact G,λG=>⟨rfl,p,q,G⟩⟩
 ·obtain⟨rfl,p,W,z⟩:=bT;rw[fr];exact⟨(X i p W).1,O,(N p 0 c z).2.2⟩
 ·obtain⟨rfl,p,W,z⟩:=bT;obtain⟨rfl,Th,f,agX⟩:=V
  have:=(agH p 0 Th 0 c z agX).1;subst this;exact⟨ahi i D p W f,rfl⟩
 constructor
 ·rintro⟨_,R⟩;obtain⟨i,p,W,z⟩:=R rfl;exact⟨i,0,rfl,p,W,z⟩
 rintro⟨i,j,rfl,p,W,z⟩;exact⟨(R' c).2 ⟨p,0,z⟩,λ_=>⟨i,p,W,z⟩⟩
open Go.Proofs
theorem ab'{k:Type}{l l':List k}(h:l.Perm l'): ∃d:Nat->Nat,(∀i,i<l'.length->d i<l.length/\l'[i]? =l[d i]?)/\ ∀i j,i<l'.length->j<l'.length->d i=d j->i=j:=by
 induction h with
 |nil=>exact⟨id,λi c=>bB c (q6 _),λi j c=>bB c (q6 _)⟩
 |cons a _ w=>
  obtain⟨d,n,o⟩:=w;refine⟨λi=>match i with|0=>0|i+1=>d i+1,λi c=>?_,λi j c m e=>?_⟩
  ·match i with
   |0=>exact⟨aX,rfl⟩
   |i+1=>
    obtain⟨aL,a2⟩:=n i (by simpa using c);exact⟨by simpa using aL,by simpa using a2⟩
  match i,j with
  |0,0=>rfl
  |0,j+1=>simp at e
  |i+1,0=>simp at e
  |i+1,j+1=>simp at e;rw[o i j (by simpa using c) (by simpa using m) e]
 |swap a b l=>
  refine⟨λi=>match i with|0=>1|1=>0|i+2=>i+2,λi c=>?_,λi j c m e=>?_⟩
  ·match i with
   |0=>exact⟨aX,rfl⟩
   |1=>exact⟨aX,rfl⟩
   |i+2=>exact⟨by simpa using c,aX⟩
  match i,j with
  |0,0=>rfl
  |0,1=>simp at e
  |0,j+2=>simp at e
  |1,0=>simp at e
  |1,1=>rfl
  |1,j+2=>simp at e
  |i+2,0=>simp at e
  |i+2,1=>simp at e
  |i+2,j+2=>simpa using e
 |trans _ _ p q=>
  obtain⟨d,n,o⟩:=p;obtain⟨s,r,x⟩:=q;refine⟨λi=>d (s i),λi c=>?_,λi j c m e=>?_⟩
  ·obtain⟨aL,a2⟩:=r i c;obtain⟨a3,a4⟩:=n (s i) aL;exact⟨a3,a2.trans a4⟩
  exact x i j c m (o _ _ (r i c).1 (r j m).1 e)
theorem O1{sz:Nat}{D:List dB}{a:List (List T)}{x:Value}(C:cX W w X k (.a7 D m gen a []))(G:(aU D m).size=sz)(H:bq W w X (.bf k gen sz 0 a.length) x):
  (x= .slice aj 0 0/\a=[]/\W k=aa (aj,gen))\/ ∃(b d:Nat) (e:Array Value) (B:Nat->Nat->Nat->Prop),x= .slice (aa ⟨b,0,aj⟩) a.length d/\W k=aa (aa b,gen)/\w.heap[b]? =aa (.cells e (aU D m).ty (0,0))/\e.size=d*sz/\a.length<=d/\d<=maxLen/\
   (∀(i j:Nat) (l:List T) (y:T) (u:Value),a[i]? =aa l->l[j]? =aa y->e[i*sz+j]? =aa u->hA D w X ((aU D m).eU j) y u (B i j))/\ ∀i j c,B i j c->c≠b:=by
 obtain⟨q,o⟩:=uX C;rcases d4 H o with ⟨d,b,n,K,rfl,rfl,v,h,r,L,s⟩|⟨rfl,_,z,rfl⟩
 ·rcases C.2 with ⟨p,_⟩|⟨E,e,B,p,F,I,M,Q,R,_⟩
  ·rw[o] at p;cases p
  rw[o] at p;cases p;have A:e.size=d*sz:=by
   unfold World.shape? at h;rw[F] at h;simp at h;rw[<-r] at h;rw[dQ] at h;exact h.2
  refine .inr ⟨b,d,e,B,by rw[ih],o,F,A,L,s,λi j l y u Z f g=>(Q i j l y u Z f (by rw[G];exact g)).none,λi j c t=>(R i j c t).2.2⟩
 exact .inl ⟨rfl,oK z,o⟩
section Ex
open Go.Shelf Go.RowKit Go.Lib Go.Sort
variable {P:Program}{ρ:Ren}
theorem abh(L:SlLaysF.n6 P ρ)(raw:uV P g)(Je: ∀args w,(callFunc g args).run P w= .ok (.enter g args) w)(call:jZ P (ρ.f 6)){q:List dB}{s:Nat}(fr:(aU q m).size=1)(qo:(aU q m).eU 0=aa m1)
  (rows:List (List Int)) (cY:rows.length<=1000000000) (cI: ∀l∈rows,l.length<=1000000000):
  jU P G (ρ.f 6) [.a7 q m s (rows.map (bd ah)) []] [ms 0 s 1 (bd ah) rows,.fn g []] (.bL []) [.a7 q m s ((fS rows).map (bd ah)) []]:=by
 refine⟨call,?_⟩;intro w X z us kS iu lA gI;have tD:us.length=2:=gI.length;obtain⟨iG,hr,rfl⟩: ∃a b,us=[a,b]:=by
  match us,tD with
  | [a,b],_=>exact⟨a,b,rfl⟩
 have V:=Rel.mT (P:=P) (nt:=2) kS iu lA gI (cR _);obtain⟨vU,tJ,_⟩:=gI;obtain rfl:hr= .func (.func g) #[] #[]:=by
  cases tJ with
  |fn _ _ us hs _=>
   have:us= #[]:=KP hs;rw[this]
 generalize vM:({tmps:=[iG,Value.func (.func g) #[] #[]].toArray++Array.replicate (2-[iG,Value.func (.func g) #[] #[]].toArray.size) undef,defers:=[]}:Act)=act at V;generalize mG:Ctx.dR P G w X [E.a7 q m s (rows.map (bd ah)) []].length z 2=K at V;have tA:K.X=X:=by rw[<-mG];rfl
 generalize j0:Lift.mT [E.a7 q m s (rows.map (bd ah)) []] [ms 0 s 1 (bd ah) rows,.fn g []]=R at V;have W:R.H 0=aa (.a7 q m s (rows.map (bd ah)) []):=by rw[<-j0];rfl
 have yL:R.H=ft [E.a7 q m s (rows.map (bd ah)) []] 0:=by rw[<-j0];rfl
 have JN:own K z R.H=mS X z (ft [E.a7 q m s (rows.map (bd ah)) []] 0):=by funext b;rw[yL];show(K.X b\/_)=_;rw[tA];rfl
 rw[<-JN] at vU;have tz:a8 R.H 0 (aa (E.a7 q m s ((fS rows).map (bd ah)) []))=ft [E.a7 q m s ((fS rows).map (bd ah)) []] 0:=by
  rw[yL];funext j
  match j with
  |0=>rfl
  |j+1=>rfl
 have fin: ∀(Z:Map) (w':World),Rel K Z {R with H:=a8 R.H 0 (aa (.a7 q m s ((fS rows).map (bd ah)) []))} act w'->
   ∃u,∃_i:Unit,∃β,Ending.returned (.tuple #[])= .returned u/\True/\Left z β [E.a7 q m s (rows.map (bd ah)) []] [E.a7 q m s ((fS rows).map (bd ah)) []] w w' X (.bL []) u:=by
  intro Z w' b7;subst mG;obtain⟨β,tL⟩:=Fh (out:=[E.a7 q m s ((fS rows).map (bd ah)) []]) b7 (cR _) (.bL [] #[] rfl λi c u bT _=>by simp at bT) rfl (by
   intro id e0 D;refine⟨⟨e0,?_,kG.refl _⟩,?_⟩
   ·show a8 R.H 0 _ id=_;rw[tz];exact D
   match id with
   |0=>cases D;exact⟨rfl,rfl⟩
   |k+1=>cases D)
  exact⟨_,(),β,rfl,trivial,tL⟩
 have Ds:R.H 0≠aj:=by rw[W];simp
 have pU:=O1 (sz:=1) (V.heap 0 _ W).2 fr vU;rcases pU with ⟨rfl,h1,dI⟩|⟨b,cap,o,B,rfl,dI,C,pa,qn,DB,b7,Jm⟩
 ·have tG:rows=[]:=by simpa using h1
  subst tG;refine(AnyF.slices_SortFunc_none (P:=P) (ρ:=ρ) {L with} aj 0 _ w).mono ?_;rintro e1 hq ⟨rfl,rfl⟩;refine fin z _ ?_
  have:=V.zN 0 _ W;rw[show fS []=[] by simp[fS]];exact this
 have vK:own K z R.H b:= .inr ⟨0,Ds,.inl ⟨_,dI⟩⟩;rw[dJ] at qn;have hlen:rows.length<=o.size:=O
 have pc: ∀(j:Nat) (I:j<rows.length),df w (λx=>x=b) (.bD (rows[j].map kX)) (o[j]' O):=λj I=>by
  have tH:=b7 j 0 (bd ah rows[j]) (.bD (rows[j].map kX)) _ (by rw[eK,bp I];rfl) rfl (by rw[show j*1+0=j by omega];exact iX O);exact tH.zO (λx hx=>by rw[show x=b from hx];exact vK) λc bT e=>Jm j 0 c bT e
 obtain⟨F,tw,tx⟩: ∃F:Fin rows.length->ec w λx=>x=b,(∀j,(F j).enc=o[j.1]'(by have:=j.2;omega))/\ ∀j,(F j).ls=rows[j.1]:=
  ⟨λj=>⟨(o[j.1]'(by have:=j.2;omega),rows[j.1]),pc j.1 j.2,cI _ (gB j.2)⟩,λ_=>rfl,λ_=>rfl⟩
 obtain⟨d,cC⟩: ∃d:Array (ec w λx=>x=b),d=Array.ofFn F:=⟨_,rfl⟩
 have Q:d.size=rows.length:=by rw[cC];exact Array.size_ofFn
 have t: ∀(j:Nat) (I:j<d.size),d[j].enc=o[j]' O/\d[j].ls=rows[j]' O:=λj I=>by
  subst cC;rw[Array.getElem_ofFn];exact⟨tw _,tx _⟩
 have oj:(d.map ec.ls).toList=rows:=by
  refine List.ext_getElem (by simp[Q]) λj h1 h2=>?_;rw[Array.getElem_toList,Array.getElem_map];exact(t j O).2
 have hH:Holds ec.enc w b 0 d:=λj I=>by
  rw[dQ,getElem!_pos d j I,(t j I).1];refine⟨?_,by simp[World.frozen?,C]⟩
  have:j<o.size:=O
  simp[World.cell?,C,this]
 have tC:CmpLays1 P g #[] ec.enc vr b 0 d.size w:=CmpReads.lays (λm os dk hs x y=>by
  have lx:=Ib (w:=w) (X:=λx=>x=b) (b:=b) (m:=m) (dk:=dk) (os:=os) rfl;exact(Ra raw (x.2.1.mono lx λ_ _ h=>h) (y.2.1.mono lx λ_ _ h=>h) x.2.2 y.2.2).mono (by
   rintro e1 hq ⟨rfl,rfl⟩;exact⟨rfl,0,rfl⟩))
 have run:=Any.slices_SortFunc L ec.enc ec.one vr Q0 g #[] b 0 cap d w Je tC hH (kA.1 C).1 O;rw[Q] at run;rw[dJ];refine run.mono ?_;rintro e1 hq ⟨rfl,r,n,os,M,hs,nw⟩;rw[<-Q] at M hs;have N:=NW M hs;rw[oj] at N;have v:r.size=d.size:=M.1;obtain⟨S,aim,ain⟩:=ab' (l:=d.toList) (l':=r.toList) (by
  have h2:=M.2.2;have e1:r.extract 0 d.size=r:=by rw[<-v];simp
  have e2:d.extract 0 d.size=d:=aX
  rw[e1,e2] at h2;exact h2.symm)
 have T:(Sort.ahead w n).heap[b]? =aa (.cells o (aU q m).ty (0,0)):=C;have vR:sortWorld ec.enc w b 0 n r os=grow ((Sort.ahead w n).setRow b (putCells ec.enc 0 r o)) os:=by
  show grow (putRow ec.enc (Sort.ahead w n) b 0 r) os=_;congr 1;exact Mh T _
 have hCs:(putCells ec.enc 0 r o).size=o.size:=by simp[putCells]
 have agW: ∀i,i<r.size->(putCells ec.enc 0 r o)[i]? =aa (r[i]!).enc:=λi A=>by
  unfold putCells;rw[Array.getElem?_mapIdx,iX O];simp only[ht];rw[aR O,Nat.sub_zero]
 have agQ:hq.heap[b]? =aa (.cells (putCells ec.enc 0 r o) (aU q m).ty (0,0)):=by
  rw[nw,vR];show(_++os)[b]? =_;have Dt:b<((Sort.ahead w n).setRow b (putCells ec.enc 0 r o)).heap.size:=(kA.1 (setRow_heap _ _ _ _ _ _ T)).1;rw[Array.getElem?_append_left Dt];exact setRow_heap _ _ _ _ _ _ T
 have agJ:Ext (λx=>x=b) w hq:=by rw[nw];exact Ib rfl
 have ag4:r.size=rows.length:=by rw[v,Q]
 have U:(fS rows).length=rows.length:=by rw[<-N,rb,Array.size_map,ag4]
 have ahd: ∀i (A:i<rows.length),∃M:S i<rows.length,(putCells ec.enc 0 r o)[i]? =o[S i]? /\(fS rows)[i]? =rows[S i]? :=λi A=>by
  obtain⟨aL,a2⟩:=aim i (by rw[rb];omega);rw[rb,Q] at aL;rw[ra,ra,iX O,iX O] at a2;have a3:r[i]' O=d[S i]' O:=by simpa using a2
  refine⟨aL,?_,?_⟩
  ·rw[agW i O,getElem!_pos r i O,a3,(t (S i) O).1,iX O]
  rw[<-N,ra,Array.getElem?_map,iX O,ht,a3,(t (S i) O).2,bp aL]
 obtain⟨Z,_,rM⟩:=V.pick 0 W fr qo dI C hCs agQ agJ ((fS rows).map (bd ah)) (by rw[dJ,U];omega) (λi=>if i<rows.length then aa (S i) else aj) (λi p h=>by
   by_cases A:i<rows.length
   ·rw[aR A] at h;cases h;obtain⟨M,e1,e2⟩:=ahd i A;exact⟨by rw[dJ,U];exact A,by rw[dJ];exact M,e1,by rw[eK,eK,e2]⟩
   ·rw[aQ A] at h;cases h) (λi jG p h nu=>by
   by_cases A:i<rows.length
   ·by_cases yQ:jG<rows.length
    ·rw[aR A] at h;rw[aR yQ] at nu;exact ain i jG (by rw[rb];omega) (by rw[rb];omega) (Option.some.inj (h.trans nu.symm))
    rw[aQ yQ] at nu;cases nu
   ·rw[aQ A] at h;cases h) (λi A h=>by
   rw[dJ,U] at A;rw[aR A] at h;cases h)
 exact fin Z _ rM
theorem XU(L:SlLaysF.n6 P ρ)(c:uV P g)(k: ∀args w,(callFunc g args).run P w= .ok (.enter g args) w)(a:jZ P (ρ.f 6)){D:List dB}{n:Nat}(l:(aU D m).size=1)(d:(aU D m).eU 0=aa n){x r:List (List Int)}(h:nD x=aa r):
  jU P G (ρ.f 6) [.a7 D m i (x.map (bd ah)) []] [ms 0 i 1 (bd ah) x,.fn g []] (.bL []) [.a7 D m i (r.map (bd ah)) []]:=by
 unfold nD at h;split at h
 ·rename_i e;cases h;exact abh L c k a l d x e.1 e.2
 cases h
end Ex
theorem wM(a:Nat->Bool)(m:Nat):et a (m+1)=et a m++(if a m then [m] else []):=by unfold et;rw[pD,pG];congr 1;by_cases h:a m<;>simp[h]
theorem Bi(h: ∀j,j<m->u j=true):et u m=List.range m:=by unfold et;exact List.filter_eq_self.2 λj a=>h j (w7.1 a)
structure Lk (P:Program) (f g:FuncId):Prop where
 run: ∀(vs:Nat->Value) (b off n cap:Nat) (ty:TypeId) (cur:Array Value) (dq:Nat->Bool) (w:World) (bK:w.heap[b]? =aa (.cells cur ty (0,0))) (cY:off+n<=cur.size) (bW: ∀j,j<n->cur[off+j]? =aa (vs j)) (qt: ∀j,(vs j).oneCell'=true) (Jz:n<=cap) (hm:cap<=maxLen) (JG:dq 0=true) (tC: ∀j W,0<j->j<n->w.heap.size<=W.heap.size->(∀k,k≠b->W.heap[k]? =w.heap[k]?)->Calls P g #[vs j,vs (j-1)] W λe hB=>e= .returned (.bool (!dq j))/\ ∃q,hB=W.drewN q),Calls P f #[.slice (aa ⟨b,off,aj⟩) n cap,.func (.func g) #[] #[]] w λe w'=>e= .returned (.slice (aa ⟨b,off,aj⟩) (et dq n).length cap)/\Ext (λx=>x=b) w w'/\ ∃fE,w'.heap[b]? =aa (.cells fE ty (0,0))/\fE.size=cur.size/\(∀i,i<(et dq n).length->fE[off+i]? =aa (vs ((et dq n).getD i 0)))/\ ∀i,(et dq n).length<=i->i<n->fE[off+i]? =aa (.slice aj 0 0)
 qK: ∀(a:Option Addr) (c:Nat) (w:World),Calls P f #[.slice a 0 c,.func (.func g) #[] #[]] w λe w'=>e= .returned (.slice a 0 c)/\w'=w
structure Fz (P:Program) (g:FuncId):Prop where
 both: ∀(dc iA n c cS lD m d:Nat) (xs ys:List Int) (w:World),xs.length=n->ys.length=m->n<=9223372036854775807->m<=9223372036854775807->(∀j,j<xs.length->w.cell? ⟨dc,iA+j,aj⟩=aa (.int .i64 (xs.getD j 0)))->
  (∀j,j<ys.length->w.cell? ⟨cS,lD+j,aj⟩=aa (.int .i64 (ys.getD j 0)))->
  Calls P g #[.slice (aa ⟨dc,iA,aj⟩) n c,.slice (aa ⟨cS,lD,aj⟩) m d] w λe w'=>e= .returned (.bool (xs==ys))/\ ∃q,w'=w.drewN q
 lens: ∀(aL a2:Option Addr) (n c m d:Nat) (w:World),n≠m->Calls P g #[.slice aL n c,.slice a2 m d] w λe w'=>e= .returned (.bool false)/\w'=w
 qK: ∀(aL a2:Option Addr) (c m d:Nat) (w:World),m<=9223372036854775807->Calls P g #[.slice aL 0 c,.slice a2 m d] w λe w'=>e= .returned (.bool (decide (m=0)))/\w'=w
theorem afx{P:Program}(h:Fz P g){w0:World}(A: ∀a v,w0.cell? a=aa v->w.cell? a=aa v){d l:List Int}{u z:Value}(G:df w0 X (.bD (d.map kX)) u)(B:df w0 X (.bD (l.map kX)) z)(L:d.length<=1000000000)(Q:l.length<=1000000000):
  Calls P g #[u,z] w λe i=>e= .returned (.bool (d==l))/\ ∃q,i=w.drewN q:=by
 have m: ∀{e:Ending} {i:World} {c:Bool},e= .returned (.bool c)/\i=w->(d==l)=c->e= .returned (.bool (d==l))/\ ∃q,i=w.drewN q:=by
  rintro e i c ⟨rfl,rfl⟩ rfl;exact⟨rfl,0,rfl⟩
 rcases x3 G with ⟨rfl,a,c,rfl⟩|⟨b,o,c,H,rfl,K⟩
 ·rcases x3 B with ⟨rfl,n,k,rfl⟩|⟨p,r,k,C,rfl,F⟩
  ·exact(h.qK a n c 0 k w O).mono λe i q=>m q aX
  refine(h.qK a (aa ⟨p,r,aj⟩) c l.length k w O).mono λe i q=>m q ?_;cases l with
  |nil=>simp at C
  |cons y l=>simp
 rcases x3 B with ⟨rfl,n,k,rfl⟩|⟨p,r,k,C,rfl,F⟩
 ·refine(h.lens (aa ⟨b,o,aj⟩) n d.length c 0 k w O).mono λe i q=>m q ?_;cases d with
  |nil=>simp at H
  |cons x d=>simp
 exact h.both b o d.length c p r l.length k d l w rfl rfl O O (λj s=>A _ _ (K j s)) λj s=>A _ _ (F j s)
theorem aco(h:(et u m)[i]? =aa p):p<m:=by have:=bx h;unfold et at this;exact w7.1 (List.mem_filter.1 this).1
theorem aaR(a:Nat->Bool)(m:Nat):(et a m).length<=m:=by unfold et;exact iE (List.length_filter_le _ _) aX
theorem aaS{jG:Nat}(h:(et u m)[i]? =aa p)(a:(et u m)[jG]? =aa p):i=jG:=by
 have c:(et u m).Nodup:=by unfold et;exact List.nodup_range.filter _
 exact(List.getElem?_inj (bR.1 h).1 c).1 (h.trans a.symm)
section agj
variable {P:Program}
theorem Ya{f:FuncId}(t:Lk P f g)(ajH:Fz P g)(D:jZ P f){n:List dB}{gs:Nat}(fr:(aU n m).size=1)(qo:(aU n m).eU 0=aa m1)
  (d:List (List Int)) (cI: ∀l∈d,l.length<=1000000000):
  jU P G f [.a7 n m gs (d.map (bd ah)) []] [ms 0 gs 1 (bd ah) d,.fn g []] (ms 0 gs 1 (bd ah) (hG d)) [.a7 n m gs ((hG d).map (bd ah)) []]:=by
 refine⟨D,?_⟩;intro w X r I kS iu lA gI;have tD:I.length=2:=gI.length;obtain⟨iG,hr,rfl⟩: ∃a b,I=[a,b]:=by
  match I,tD with
  | [a,b],_=>exact⟨a,b,rfl⟩
 have F:=Rel.mT (P:=P) (nt:=2) kS iu lA gI (cR _);obtain⟨M,tJ,_⟩:=gI;obtain rfl:hr= .func (.func g) #[] #[]:=by
  cases tJ with
  |fn _ _ I hs _=>
   have:I= #[]:=KP hs;rw[this]
 generalize vM:({tmps:=[iG,Value.func (.func g) #[] #[]].toArray++Array.replicate (2-[iG,Value.func (.func g) #[] #[]].toArray.size) undef,defers:=[]}:Act)=act at F;generalize mG:Ctx.dR P G w X [E.a7 n m gs (d.map (bd ah)) []].length r 2=K at F;have tA:K.X=X:=by rw[<-mG];rfl
 generalize j0:Lift.mT [E.a7 n m gs (d.map (bd ah)) []] [ms 0 gs 1 (bd ah) d,.fn g []]=z at F;have A:z.H 0=aa (.a7 n m gs (d.map (bd ah)) []):=by rw[<-j0];rfl
 have N:z.H=ft [E.a7 n m gs (d.map (bd ah)) []] 0:=by rw[<-j0];rfl
 have S:own K r z.H=mS X r (ft [E.a7 n m gs (d.map (bd ah)) []] 0):=by funext b;rw[N];show(K.X b\/_)=_;rw[tA];rfl
 rw[<-S] at M;have tz:a8 z.H 0 (aa (E.a7 n m gs ((hG d).map (bd ah)) []))=ft [E.a7 n m gs ((hG d).map (bd ah)) []] 0:=by
  rw[N];funext j
  match j with
  |0=>rfl
  |j+1=>rfl
 have T: ∀(o:Map) (w':World) (v:Value),Rel K o {z with H:=a8 z.H 0 (aa (.a7 n m gs ((hG d).map (bd ah)) []))} act w'->bq o w' (own K o (a8 z.H 0 (aa (.a7 n m gs ((hG d).map (bd ah)) [])))) (ms 0 gs 1 (bd ah) (hG d)) v->
   ∃u,∃_i:Unit,∃β,Ending.returned v= .returned u/\True/\Left r β [E.a7 n m gs (d.map (bd ah)) []] [E.a7 n m gs ((hG d).map (bd ah)) []] w w' X (ms 0 gs 1 (bd ah) (hG d)) u:=by
  intro o w' v b7 L;subst mG;obtain⟨β,tL⟩:=Fh (out:=[E.a7 n m gs ((hG d).map (bd ah)) []]) b7 (cR _) L rfl (by
   intro id e0 Q;refine⟨⟨e0,?_,kG.refl _⟩,?_⟩
   ·show a8 z.H 0 _ id=_;rw[tz];exact Q
   match id with
   |0=>cases Q;exact⟨rfl,rfl⟩
   |k+1=>cases Q)
  exact⟨_,(),β,rfl,trivial,tL⟩
 have U:z.H 0≠aj:=by rw[A];simp
 have ko:1<=gs:=(F.heap 0 _ A).2.1;have pU:=O1 (sz:=1) (F.heap 0 _ A).2 fr M;rcases pU with ⟨rfl,h1,C⟩|⟨b,cap,s,B,rfl,C,qk,pa,qn,DB,b7,Jm⟩
 ·have tG:d=[]:=by simpa using h1
  subst tG;refine(t.qK aj 0 w).mono ?_;rintro e1 hq ⟨rfl,rfl⟩;have e0:hG []=[]:=rfl;refine T r _ _ ?_ ?_
  ·have:=F.zN 0 _ A;rw[e0];exact this
  rw[e0];exact .iS 0 gs 1 ko C
 have vK:own K r z.H b:= .inr ⟨0,U,.inl ⟨_,C⟩⟩;rw[dJ] at qn;have hlen:d.length<=s.size:=O
 have R: ∀(j:Nat) (q:j<d.length),df w (λx=>x=b) (.bD (d[j].map kX)) (s[j]' O):=λj q=>by
  have tH:=b7 j 0 (bd ah d[j]) (.bD (d[j].map kX)) _ (by rw[eK,bp q];rfl) rfl (by rw[show j*1+0=j by omega];exact iX O);exact tH.zO (λx hx=>by rw[show x=b from hx];exact vK) λc bT e=>Jm j 0 c bT e
 obtain⟨vs,vT⟩: ∃vs:Nat->Value,vs=λj=>if j<d.length then s.getD j undef else .slice aj 0 0:=⟨_,rfl⟩
 have L: ∀j (q:j<d.length),vs j=s[j]' O:=λj q=>by
  rw[vT];show(if j<d.length then _ else _)=_;rw[aR q];simp[show j<s.size by omega]
 have qt: ∀j,(vs j).oneCell'=true:=λj=>by
  by_cases q:j<d.length
  ·rw[L j q];exact(R j q).j4
  rw[vT];show(if j<d.length then _ else _:Value).oneCell'=true;rw[aQ q];rfl
 have run:=t.run vs b 0 d.length cap (aU n m).ty s (lT d) w qk O (λj q=>by rw[dQ,L j q];exact iX O) qt qn DB (by simp[lT]) (λj W hj0 q lV mH=>by
  have lx:Ext (λx=>x=b) w {w with heap:=W.heap}:=⟨rfl,rfl,rfl,lV,λk _ hk=>mH k hk⟩
  have e:=afx ajH (w0:={w with heap:=W.heap}) (w:=W) (λ_ _ h=>h) ((R j q).mono lx λ_ _ h=>h) ((R (j-1) O).mono lx λ_ _ h=>h) (cI _ (gB _)) (cI _ (gB _));rw[L j q,L (j-1) O];have hk:(d[j]==d[j-1]' O)= !lT d j:=by
   have g1:d.getD j []=d[j]:=by rw[eP,bp q];rfl
   have g2:d.getD (j-1) []=d[j-1]' O:=by rw[eP,bp O];rfl
   unfold lT;rw[g1,g2]
   have:j≠0:=O
   by_cases C:d[j]=d[j-1]' O
   ·simp[this,C]
   simp[this,C]
  rw[hk] at e;exact e)
 rw[dJ];refine run.mono ?_;rintro e1 hq ⟨rfl,lx,fE,Z,DD,JI,akB⟩;have y:(hG d).length=(et (lT d) d.length).length:=by unfold hG;rw[dJ]
 have akD:=aaR (lT d) d.length;obtain⟨o,ail,rM⟩:=F.pick 0 A fr qo C qk DD Z lx ((hG d).map (bd ah)) (by rw[dJ,y];omega) (λi=>(et (lT d) d.length)[i]?) (λi p h=>by
   have hi:=(bR.1 h).1;have hp:=aco h;have h1:=JI i hi;rw[dQ,eP,h,Option.getD_some,L p hp] at h1;refine⟨by rw[dJ,y];exact hi,by rw[dJ];exact hp,?_,?_⟩
   ·rw[h1,iX O]
   ·unfold hG;rw[eK,eK,eK,h,bp hp];show aa (bd ah (d.getD p []))=aa (bd ah d[p]);rw[eP,bp hp];rfl) (λi jG p h nu=>aaS h nu) (λi hi h=>by
   rw[dJ,y] at hi;rw[bp hi] at h;cases h)
 refine T o _ _ rM ?_;have nv:b<hq.heap.size:=(kA.1 Z).1
 have:=bq.bf (β:=o) (w:=hq) (X:=own K o (a8 z.H 0 (aa (.a7 n m gs ((hG d).map (bd ah)) [])))) 0 gs 1 0 (hG d).length cap b fE.size (aU n m).ty ko (by rw[ail];exact C) nv (by unfold World.shape?;rw[Z]) O (by rw[y];omega) DB;rw[y,ih] at this;rw[show ms 0 gs 1 (bd ah) (hG d)=V.bf 0 gs 1 0 (et (lT d) d.length).length by rw[<-y,show(hG d).length=(List.map (bd ah) (hG d)).length by rw[dJ]]];exact this
end agj
end Go.Lift
