/- Tools. -/
import Derived.Test.YtfegpkfpnpjgeaaGreatBLiftSort
set_option linter.unusedVariables false
namespace Go.Lift
open Go
def Map.sub(a:Map)(k:Nat)(N:Nat->Prop):Map:=⟨a.f,λid b=>a.n id b/\(id=k->N b)⟩
variable {G:eY}{k n b m gen m1 i p:Nat}{K:Ctx}{β:Map}{s:S}{a:Act}{w:World}{X:Nat->Prop}{W:List dN}{g:FuncId}{u:Nat->Bool}
theorem xg{G:Map}{N:Nat->Prop}(h:At (G.sub k N) n b):At G n b:=by
 rcases h with h|h
 ·exact .inl h
 exact .inr h.1
theorem Rel.sub(h:Rel K β s a w)(k:Nat)(N:Nat->Prop)(e':E)(r:s.H k≠none)
  (z:cC (β.sub k N) w (own K (β.sub k N) (aS s.H k (some e'))) k e'):Rel K (β.sub k N) {s with H:=aS s.H k (some e')} a w:=by
 have d: ∀b,own K (β.sub k N) (aS s.H k (some e')) b->own K β s.H b:=by
  rintro b (c|⟨id,l,n⟩)
  ·exact .inl c
  refine .inr ⟨id,λo=>?_,xg n⟩;by_cases m:id=k
  ·subst m;exact r o
  rw[bQ _ _ _ _ m] at l;exact l o
 have x:di β (β.sub k N):=λ_ _ _ c=> .inl c;refine {h with base:=λid hid=>h.base id hid,dF:=λid hid=>h.dF id hid,ea:=λid b hid p=>h.ea id b hid p.1,inj:=λid q b l n=>h.inj id q b (xg l) (xg n),fresh:=λid b p=>h.fresh id b (xg p),heap:= ?_,cW:=λi=>(h.cW i).mono (Ext.refl _ _) (λb _=>d b) x (Shaped.refl _ _)};intro id e c;have c:aS s.H k (some e') id=some e:=c;by_cases m:id=k
 ·subst m;rw[bP] at c;cases c;cases y:s.H id with
  |none=>exact bz y r
  |some o=>exact⟨(h.heap id o y).1,z⟩
 rw[bQ _ _ _ _ m] at c;obtain⟨l,n⟩:=h.heap id e c;exact⟨l,n.mono (Ext.refl _ _) (λb _=>d b) x (λ_ h=>h) (Shaped.refl _ _) (λ_ _=>rfl) λb=>⟨λh=>h.1,λh=>⟨h,λe=>bz e m⟩⟩⟩
theorem Rel.pick(h:Rel K β s a w)(k:Nat){r:List dN}{l:List (List T)}(hk:s.H k=some (.a7 r m gen l []))(eD:(U r m).size=1)(lO:(U r m).en 0=some m1)
   {v:Array Value} (hq:β k=some (some b,gen)) (aY:w.heap[b]? =some (.cells v (U r m).ty (0,0)))
  {w':World} {A:Array Value} (hs:A.size=v.size) (G:w'.heap[b]? =some (.cells A (U r m).ty (0,0))) (D:Ext (λx=>x=b) w w') (d:List (List T)) (b8:d.length<=v.size) (L:Nat->Option Nat)
  (X: ∀i p,L i=some p->i<d.length/\p<l.length/\A[i]? =v[p]? /\d[i]? =l[p]?) (aer: ∀i I p,L i=some p->L I=some p->i=I) (C: ∀i,i<d.length->L i=none->A[i]? =some (.slice none 0 0)/\d[i]? =some [.aA []]):
  ∃β',(∀id,β' id=β id)/\Rel K β' {s with H:=aS s.H k (some (.a7 r m gen d []))} a w':=by
 have M:s.H k≠none:=by rw[hk];simp
 obtain⟨iL,hN⟩:=(h.heap k _ hk).2;obtain⟨B,hlen,N,Q,V,adL,P4⟩: ∃B:Nat->Nat->Nat->Prop,l.length*(U r m).size<=v.size/\(∀o,o∈l->o.length=(U r m).size)/\
   (∀(i j:Nat) (o:List T) (x:T) (u:Value),l[i]? =some o->o[j]? =some x->v[i*(U r m).size+j]? =some u->Cell r m [] β w (own K β s.H) i j x u (B i j))/\
   (∀i j c,B i j c->i<l.length/\j<(U r m).size/\c≠b)/\(∀i j I cT c,B i j c->B I cT c->i=I/\j=cT)/\ ∀c,β.n k c↔ ∃i j,B i j c:=by
  rcases hN with ⟨y,_⟩|⟨cd,rh,B,y,R,t,h4,h5,h6,lL,kX⟩
  ·rw[hq] at y;cases y
  rw[hq] at y;cases y;rw[aY] at R;cases R;exact⟨B,t,h4,h5,h6,lL,kX⟩
 rw[eD] at hlen N Q V;have Y:own K β s.H b:= .inr ⟨k,M,.inl ⟨_,hq⟩⟩;have Qd:b<w.heap.size:=(js.1 aY).1
 -- the block told anew, its rows not told
 have lM:=h.setRow k b (.inl ⟨_,hq⟩) v (U r m).ty aY A hs (.arr (U r m).ty gen 1 []) M ⟨iL,.inr ⟨b,A,hq,setRow_heap _ _ _ _ _ _ aY,aP,aP,λi j o x u y=>by simp at y⟩⟩;have dm:Rel K β {s with H:=aS s.H k (some (.arr (U r m).ty gen 1 []))} a w':=by
  refine lM.grow ⟨D.os,D.tape,D.output,?_,λx hx _=>?_⟩
  ·have:=D.size;simpa using this
  by_cases e:x=b
  ·subst e;rw[G,setRow_heap _ _ _ _ _ _ aY]
  rw[setRow_other _ _ _ _ e];exact D.keep x (by simpa using hx) e
 refine⟨β.sub k λc=> ∃i p,L i=some p/\B p 0 c,λ_=>rfl,?_⟩;have hC:=dm.sub k (λc=> ∃i p,L i=some p/\B p 0 c) (.a7 r m gen d []) (by show aS s.H k _ k≠none;rw[bP];simp) ?_
 ·have e:aS (aS s.H k (some (E.arr (U r m).ty gen 1 []))) k (some (.a7 r m gen d []))=aS s.H k (some (.a7 r m gen d [])):=by
   funext i;by_cases F:i=k
   ·subst F;rw[bP,bP]
   rw[bQ _ _ _ _ F,bQ _ _ _ _ F,bQ _ _ _ _ F]
  have P5:Rel K _ {s with H:=aS (aS s.H k (some (E.arr (U r m).ty gen 1 []))) k (some (.a7 r m gen d []))} a w':=hC;rw[e] at P5;exact P5
 have gp: ∀x,own K (β.sub k λc=> ∃i p,L i=some p/\B p 0 c) (aS (aS s.H k (some (E.arr (U r m).ty gen 1 []))) k (some (.a7 r m gen d []))) x->own K β s.H x:=by
  rintro x (hx|⟨id,y,R⟩)
  ·exact .inl hx
  refine .inr ⟨id,λe0=>?_,xg R⟩;by_cases F:id=k
  ·subst F;exact M e0
  rw[bQ _ _ _ _ F,bQ _ _ _ _ F] at y;exact y e0
 have adO:Ext (own K β s.H) w w':=D.weaken λx _ e=>by rw[show x=b from e];exact Y
 refine⟨iL,.inr ⟨b,A,λi j c=>j=0/\ ∃p,L i=some p/\B p 0 c,hq,G,by rw[eD];omega,λo qD=>?_,λi j o x u y R t=>?_,λi j c bG=>?_,λi j I cT c bG H8=>?_,λc=>?_⟩⟩
 ·obtain⟨i,F⟩:=kf.1 qD;have f:=(bU.1 F).1;rw[eD];cases q:L i with
  |none=>rw[(C i f q).2] at F;cases F;rfl
  |some p=>rw[(X i p q).2.2.2] at F;exact N o (bE F)
 ·have f:=(bU.1 y).1;rw[eD] at t;have hj0:j=0:=by
   have hjl:=(bU.1 R).1;cases q:L i with
   |none=>rw[(C i f q).2] at y;cases y;simpa using hjl
   |some p=>rw[(X i p q).2.2.2] at y;have:=N o (bE y);omega
  subst hj0;rw[show i*1+0=i by omega] at t;refine Cell.of ?_;cases q:L i with
  |none=>
   obtain⟨aI,a2⟩:=C i f q;rw[a2] at y;cases y;rw[aI] at t;cases t;simp only[List.getElem?_cons_zero,Option.some.injEq] at R;subst R;rw[lO];exact .nil m1 _ (λc bG=>by obtain⟨_,p,W,_⟩:=bG;rw[q] at W;cases W)
  |some p=>
   obtain⟨a0,aI,a2,a3⟩:=X i p q;rw[a3] at y;rw[a2] at t;have bG:=(Q p 0 o x u y R (by rw[show p*1+0=p by omega];exact t)).none;have H8:=bG.mono adO (λx _=>gp x) λc pj=>D.keep c (h.fresh k c (.inr ((P4 c).2 ⟨p,0,pj⟩))).2 (V p 0 c pj).2.2;exact H8.iff λc=>⟨λ⟨_,QY,g,G⟩=>by rw[q] at g;cases g;exact G,λG=>⟨rfl,p,q,G⟩⟩
 ·obtain⟨rfl,p,W,z⟩:=bG;rw[eD];exact⟨(X i p W).1,O,(V p 0 c z).2.2⟩
 ·obtain⟨rfl,p,W,z⟩:=bG;obtain⟨rfl,QY,g,ad2⟩:=H8
  have:=(adL p 0 QY 0 c z ad2).1;subst this;exact⟨aer i I p W g,rfl⟩
 constructor
 ·rintro⟨_,R⟩;obtain⟨i,p,W,z⟩:=R rfl;exact⟨i,0,rfl,p,W,z⟩
 rintro⟨i,j,rfl,p,W,z⟩;exact⟨(P4 c).2 ⟨p,0,z⟩,λ_=>⟨i,p,W,z⟩⟩
open Go.Proofs
theorem Za{R:Type}{l l':List R}(h:l.Perm l'): ∃d:Nat->Nat,(∀i,i<l'.length->d i<l.length/\l'[i]? =l[d i]?)/\ ∀i j,i<l'.length->j<l'.length->d i=d j->i=j:=by
 induction h with
 |nil=>exact⟨id,λi c=>bz c (rj _),λi j c=>bz c (rj _)⟩
 |cons a _ s=>
  obtain⟨d,m,n⟩:=s;refine⟨λi=>match i with|0=>0|i+1=>d i+1,λi c=>?_,λi j c k e=>?_⟩
  ·match i with
   |0=>exact⟨aP,rfl⟩
   |i+1=>
    obtain⟨aI,a2⟩:=m i (by simpa using c);exact⟨by simpa using aI,by simpa using a2⟩
  match i,j with
  |0,0=>rfl
  |0,j+1=>simp at e
  |i+1,0=>simp at e
  |i+1,j+1=>simp at e;rw[n i j (by simpa using c) (by simpa using k) e]
 |swap a b l=>
  refine⟨λi=>match i with|0=>1|1=>0|i+2=>i+2,λi c=>?_,λi j c k e=>?_⟩
  ·match i with
   |0=>exact⟨aP,rfl⟩
   |1=>exact⟨aP,rfl⟩
   |i+2=>exact⟨by simpa using c,aP⟩
  match i,j with
  |0,0=>rfl
  |0,1=>simp at e
  |0,j+2=>simp at e
  |1,0=>simp at e
  |1,1=>rfl
  |1,j+2=>simp at e
  |i+2,0=>simp at e
  |i+2,1=>simp at e
  |i+2,j+2=>simpa using e
 |trans _ _ o p=>
  obtain⟨d,m,n⟩:=o;obtain⟨r,q,w⟩:=p;refine⟨λi=>d (r i),λi c=>?_,λi j c k e=>?_⟩
  ·obtain⟨aI,a2⟩:=q i c;obtain⟨a3,a4⟩:=m (r i) aI;exact⟨a3,a2.trans a4⟩
  exact w i j c k (n _ _ (q i c).1 (q j k).1 e)
theorem M9{G:Map}{sz:Nat}{a:List (List T)}{x:Value}(C:cC G w X k (.a7 W m gen a []))(H:(U W m).size=sz)(K:bk G w X (.a8 k gen sz 0 a.length) x):
  (x= .slice none 0 0/\a=[]/\G k=some (none,gen))\/ ∃(b d:Nat) (e:Array Value) (B:Nat->Nat->Nat->Prop),x= .slice (some ⟨b,0,none⟩) a.length d/\G k=some (some b,gen)/\w.heap[b]? =some (.cells e (U W m).ty (0,0))/\e.size=d*sz/\a.length<=d/\d<=maxLen/\
   (∀(i j:Nat) (l:List T) (y:T) (u:Value),a[i]? =some l->l[j]? =some y->e[i*sz+j]? =some u->gA W w X ((U W m).en j) y u (B i j))/\ ∀i j c,B i j c->c≠b:=by
 obtain⟨q,o⟩:=tG C;rcases e3 K o with ⟨d,b,n,L,rfl,rfl,E,h,r,Q,s⟩|⟨rfl,_,z,rfl⟩
 ·rcases C.2 with ⟨p,_⟩|⟨I,e,B,p,F,M,N,R,f,_⟩
  ·rw[o] at p;cases p
  rw[o] at p;cases p;have A:e.size=d*sz:=by
   unfold World.shape? at h;rw[F] at h;simp at h;rw[<-r] at h;rw[dt] at h;exact h.2
  refine .inr ⟨b,d,e,B,by rw[ga],o,F,A,Q,s,λi j l y u g t v=>(R i j l y u g t (by rw[H];exact v)).none,λi j c D=>(f i j c D).2.2⟩
 exact .inl ⟨rfl,l1 z,o⟩
section Dh
open Go.Shelf Go.RowKit Go.Lib Go.Sort
variable {P:Program}{ρ:Ren}
theorem Zw(L:SlLaysF.n6 P ρ)(raw:tF P g)(HJ: ∀args w,(callFunc g args).run P w= .ok (.enter g args) w)(call:ig P (ρ.f 6)){q:List dN}{s:Nat}(eD:(U q m).size=1)(lO:(U q m).en 0=some m1)
  (rows:List (List Int)) (cy:rows.length<=1000000000) (b8: ∀l∈rows,l.length<=1000000000):
  jb P G (ρ.f 6) [.a7 q m s (rows.map (aW I)) []] [ms 0 s 1 (aW I) rows,.fn g []] (.bH []) [.a7 q m s ((fb rows).map (aW I)) []]:=by
 refine⟨call,?_⟩;intro w X z us kY gp kA fP;have sx:us.length=2:=fP.length;obtain⟨hV,e5,rfl⟩: ∃a b,us=[a,b]:=by
  match us,sx with
  | [a,b],_=>exact⟨a,b,rfl⟩
 have h0:=Rel.lY (P:=P) (nt:=2) kY gp kA fP (cJ _);obtain⟨sI,sJ,_⟩:=fP;obtain rfl:e5= .func (.func g) #[] #[]:=by
  cases sJ with
  |fn _ _ us hs _=>
   have:us= #[]:=JE hs;rw[this]
 generalize H4:({tmps:=[hV,Value.func (.func g) #[] #[]].toArray++Array.replicate (2-[hV,Value.func (.func g) #[] #[]].toArray.size) undef,defers:=[]}:Act)=act at h0;generalize kv:Ctx.dC P G w X [E.a7 q m s (rows.map (aW I)) []].length z 2=K at h0;have ss:K.X=X:=by rw[<-kv];rfl
 generalize kZ:Lift.lY [E.a7 q m s (rows.map (aW I)) []] [ms 0 s 1 (aW I) rows,.fn g []]=R at h0;have W:R.H 0=some (.a7 q m s (rows.map (aW I)) []):=by rw[<-kZ];rfl
 have xS:R.H=eN [E.a7 q m s (rows.map (aW I)) []] 0:=by rw[<-kZ];rfl
 have xZ:own K z R.H=lW X z (eN [E.a7 q m s (rows.map (aW I)) []] 0):=by funext b;rw[xS];show(K.X b\/_)=_;rw[ss];rfl
 rw[<-xZ] at sI;have sr:aS R.H 0 (some (E.a7 q m s ((fb rows).map (aW I)) []))=eN [E.a7 q m s ((fb rows).map (aW I)) []] 0:=by
  rw[xS];funext j
  match j with
  |0=>rfl
  |j+1=>rfl
 have fin: ∀(t:Map) (w':World),Rel K t {R with H:=aS R.H 0 (some (.a7 q m s ((fb rows).map (aW I)) []))} act w'->
   ∃u,∃_i:Unit,∃β,Ending.returned (.tuple #[])= .returned u/\True/\Left z β [E.a7 q m s (rows.map (aW I)) []] [E.a7 q m s ((fb rows).map (aW I)) []] w w' X (.bH []) u:=by
  intro t w' bR;subst kv;obtain⟨β,sL⟩:=DM (out:=[E.a7 q m s ((fb rows).map (aW I)) []]) bR (cJ _) (.bH [] #[] rfl λi c u bG _=>by simp at bG) rfl (by
   intro id e0 M;refine⟨⟨e0,?_,ju.refl _⟩,?_⟩
   ·show aS R.H 0 _ id=_;rw[sr];exact M
   match id with
   |0=>cases M;exact⟨rfl,rfl⟩
   |k+1=>cases M)
  exact⟨_,(),β,rfl,trivial,sL⟩
 have uL:R.H 0≠none:=by rw[W];simp
 have o7:=M9 (sz:=1) (h0.heap 0 _ W).2 eD sI;rcases o7 with ⟨rfl,h1,hq⟩|⟨b,cap,o,B,rfl,hq,C,k0,po,Ce,bR,HS⟩
 ·have pr:rows=[]:=by simpa using h1
  subst pr;refine(AnyF.slices_SortFunc_none (P:=P) (ρ:=ρ) {L with} none 0 _ w).mono ?_;rintro e1 fp ⟨rfl,rfl⟩;refine fin z _ ?_
  have:=h0.yO 0 _ W;rw[show fb []=[] by simp[fb]];exact this
 have uO:own K z R.H b:= .inr ⟨0,uL,.inl ⟨_,hq⟩⟩;rw[dn] at po;have hlen:rows.length<=o.size:=O
 have lP: ∀(j:Nat) (N:j<rows.length),cP w (λx=>x=b) (.aA (rows[j].map im)) (o[j]' O):=λj N=>by
  have sE:=bR j 0 (aW I rows[j]) (.aA (rows[j].map im)) _ (by rw[ev,bo N];rfl) rfl (by rw[show j*1+0=j by omega];exact hr O);exact sE.yP (λx hx=>by rw[show x=b from hx];exact uO) λc bG e=>HS j 0 c bG e
 obtain⟨F,sp,sq⟩: ∃F:Fin rows.length->dI w λx=>x=b,(∀j,(F j).enc=o[j.1]'(by have:=j.2;omega))/\ ∀j,(F j).bS=rows[j.1]:=
  ⟨λj=>⟨(o[j.1]'(by have:=j.2;omega),rows[j.1]),lP j.1 j.2,b8 _ (fJ j.2)⟩,λ_=>rfl,λ_=>rfl⟩
 obtain⟨d,cu⟩: ∃d:Array (dI w λx=>x=b),d=Array.ofFn F:=⟨_,rfl⟩
 have Q:d.size=rows.length:=by rw[cu];exact Array.size_ofFn
 have v: ∀(j:Nat) (N:j<d.size),d[j].enc=o[j]' O/\d[j].bS=rows[j]' O:=λj N=>by
  subst cu;rw[Array.getElem_ofFn];exact⟨sp _,sq _⟩
 have nw:(d.map dI.bS).toList=rows:=by
  refine List.ext_getElem (by simp[Q]) λj h1 h2=>?_;rw[Array.getElem_toList,Array.getElem_map];exact(v j O).2
 have hH:Holds dI.enc w b 0 d:=λj N=>by
  rw[dt,getElem!_pos d j N,(v j N).1];refine⟨?_,by simp[World.frozen?,C]⟩
  have:j<o.size:=O
  simp[World.cell?,C,this]
 have sv:CmpLays1 P g #[] dI.enc uq b 0 d.size w:=CmpReads.lays (λm os dk hs x y=>by
  have hE:=GH (w:=w) (X:=λx=>x=b) (b:=b) (m:=m) (dk:=dk) (os:=os) rfl;exact(OS raw (x.2.1.mono hE λ_ _ h=>h) (y.2.1.mono hE λ_ _ h=>h) x.2.2 y.2.2).mono (by
   rintro e1 fp ⟨rfl,rfl⟩;exact⟨rfl,0,rfl⟩))
 have run:=Any.slices_SortFunc L dI.enc dI.one uq O6 g #[] b 0 cap d w HJ sv hH (js.1 C).1 O;rw[Q] at run;rw[dn];refine run.mono ?_;rintro e1 fp ⟨rfl,r,n,os,S,hs,k4⟩;rw[<-Q] at S hs;have T:=Mq S hs;rw[nw] at T;have D:r.size=d.size:=S.1;obtain⟨V,afo,afp⟩:=Za (l:=d.toList) (l':=r.toList) (by
  have h2:=S.2.2;have e1:r.extract 0 d.size=r:=by rw[<-D];simp
  have e2:d.extract 0 d.size=d:=aP
  rw[e1,e2] at h2;exact h2.symm)
 have Y:(Sort.ahead w n).heap[b]? =some (.cells o (U q m).ty (0,0)):=C;have qD:sortWorld dI.enc w b 0 n r os=grow ((Sort.ahead w n).setRow b (putCells dI.enc 0 r o)) os:=by
  show grow (putRow dI.enc (Sort.ahead w n) b 0 r) os=_;congr 1;exact Kw Y _
 have hCs:(putCells dI.enc 0 r o).size=o.size:=by simp[putCells]
 have ad1: ∀i,i<r.size->(putCells dI.enc 0 r o)[i]? =some (r[i]!).enc:=λi A=>by
  unfold putCells;rw[Array.getElem?_mapIdx,hr O];simp only[Option.map_some];rw[a1 O,Nat.sub_zero]
 have adU:fp.heap[b]? =some (.cells (putCells dI.enc 0 r o) (U q m).ty (0,0)):=by
  rw[k4,qD];show(_++os)[b]? =_;have H6:b<((Sort.ahead w n).setRow b (putCells dI.enc 0 r o)).heap.size:=(js.1 (setRow_heap _ _ _ _ _ _ Y)).1;rw[Array.getElem?_append_left H6];exact setRow_heap _ _ _ _ _ _ Y
 have adN:Ext (λx=>x=b) w fp:=by rw[k4];exact GH rfl
 have ad8:r.size=rows.length:=by rw[D,Q]
 have Im:(fb rows).length=rows.length:=by rw[<-T,oU,Array.size_map,ad8]
 have ael: ∀i (A:i<rows.length),∃S:V i<rows.length,(putCells dI.enc 0 r o)[i]? =o[V i]? /\(fb rows)[i]? =rows[V i]? :=λi A=>by
  obtain⟨aI,a2⟩:=afo i (by rw[oU];omega);rw[oU,Q] at aI;rw[pW,pW,hr O,hr O] at a2;have a3:r[i]' O=d[V i]' O:=by simpa using a2
  refine⟨aI,?_,?_⟩
  ·rw[ad1 i O,getElem!_pos r i O,a3,(v (V i) O).1,hr O]
  rw[<-T,pW,Array.getElem?_map,hr O,Option.map_some,a3,(v (V i) O).2,bo aI]
 obtain⟨t,_,hR⟩:=h0.pick 0 W eD lO hq C hCs adU adN ((fb rows).map (aW I)) (by rw[dn,Im];omega) (λi=>if i<rows.length then some (V i) else none) (λi p h=>by
   by_cases A:i<rows.length
   ·rw[a1 A] at h;cases h;obtain⟨S,e1,e2⟩:=ael i A;exact⟨by rw[dn,Im];exact A,by rw[dn];exact S,e1,by rw[ev,ev,e2]⟩
   ·rw[aZ A] at h;cases h) (λi iM p h h'=>by
   by_cases A:i<rows.length
   ·by_cases xW:iM<rows.length
    ·rw[a1 A] at h;rw[a1 xW] at h';exact afp i iM (by rw[oU];omega) (by rw[oU];omega) (Option.some.inj (h.trans h'.symm))
    rw[aZ xW] at h';cases h'
   ·rw[aZ A] at h;cases h) (λi A h=>by
   rw[dn,Im] at A;rw[a1 A] at h;cases h)
 exact fin t _ hR
theorem VD(L:SlLaysF.n6 P ρ)(c:tF P g)(k: ∀args w,(callFunc g args).run P w= .ok (.enter g args) w)(a:ig P (ρ.f 6))(l:(U W m).size=1)(d:(U W m).en 0=some i){x r:List (List Int)}(h:mD x=some r):
  jb P G (ρ.f 6) [.a7 W m n (x.map (aW I)) []] [ms 0 n 1 (aW I) x,.fn g []] (.bH []) [.a7 W m n (r.map (aW I)) []]:=by
 unfold mD at h;split at h
 ·rename_i e;cases h;exact Zw L c k a l d x e.1 e.2
 cases h
end Dh
theorem vx(a:Nat->Bool)(m:Nat):dS a (m+1)=dS a m++(if a m then [m] else []):=by unfold dS;rw[nO,pY];congr 1;by_cases h:a m<;>simp[h]
theorem zW(h: ∀j,j<m->u j=true):dS u m=List.range m:=by unfold dS;exact List.filter_eq_self.2 λj a=>h j (pU.1 a)
structure JX (P:Program) (f g:FuncId):Prop where
 run: ∀(vs:Nat->Value) (b off n cap:Nat) (ty:TypeId) (cur:Array Value) (c7:Nat->Bool) (w:World) (bI:w.heap[b]? =some (.cells cur ty (0,0))) (cy:off+n<=cur.size) (bL: ∀j,j<n->cur[off+j]? =some (vs j)) (k1: ∀j,(vs j).oneCell'=true) (H9:n<=cap) (hm:cap<=maxLen) (Ij:c7 0=true) (sv: ∀j W,0<j->j<n->w.heap.size<=W.heap.size->(∀k,k≠b->W.heap[k]? =w.heap[k]?)->Calls P g #[vs j,vs (j-1)] W λe gN=>e= .returned (.bool (!c7 j))/\ ∃q,gN=W.drewN q),Calls P f #[.slice (some ⟨b,off,none⟩) n cap,.func (.func g) #[] #[]] w λe w'=>e= .returned (.slice (some ⟨b,off,none⟩) (dS c7 n).length cap)/\Ext (λx=>x=b) w w'/\ ∃eW,w'.heap[b]? =some (.cells eW ty (0,0))/\eW.size=cur.size/\(∀i,i<(dS c7 n).length->eW[off+i]? =some (vs ((dS c7 n).getD i 0)))/\ ∀i,(dS c7 n).length<=i->i<n->eW[off+i]? =some (.slice none 0 0)
 pD: ∀(a:Option Addr) (c:Nat) (w:World),Calls P f #[.slice a 0 c,.func (.func g) #[] #[]] w λe w'=>e= .returned (.slice a 0 c)/\w'=w
structure Em (P:Program) (g:FuncId):Prop where
 both: ∀(cQ hl n c cd gW m d:Nat) (xs ys:List Int) (w:World),xs.length=n->ys.length=m->n<=9223372036854775807->m<=9223372036854775807->(∀j,j<xs.length->w.cell? ⟨cQ,hl+j,none⟩=some (.int .i64 (xs.getD j 0)))->
  (∀j,j<ys.length->w.cell? ⟨cd,gW+j,none⟩=some (.int .i64 (ys.getD j 0)))->
  Calls P g #[.slice (some ⟨cQ,hl,none⟩) n c,.slice (some ⟨cd,gW,none⟩) m d] w λe w'=>e= .returned (.bool (xs==ys))/\ ∃q,w'=w.drewN q
 lens: ∀(aI a2:Option Addr) (n c m d:Nat) (w:World),n≠m->Calls P g #[.slice aI n c,.slice a2 m d] w λe w'=>e= .returned (.bool false)/\w'=w
 pD: ∀(aI a2:Option Addr) (c m d:Nat) (w:World),m<=9223372036854775807->Calls P g #[.slice aI 0 c,.slice a2 m d] w λe w'=>e= .returned (.bool (decide (m=0)))/\w'=w
theorem acm{P:Program}(h:Em P g){w0:World}(A: ∀a v,w0.cell? a=some v->w.cell? a=some v){d l:List Int}{u z:Value}(G:cP w0 X (.aA (d.map im)) u)(B:cP w0 X (.aA (l.map im)) z)(L:d.length<=1000000000)(Q:l.length<=1000000000):
  Calls P g #[u,z] w λe i=>e= .returned (.bool (d==l))/\ ∃q,i=w.drewN q:=by
 have m: ∀{e:Ending} {i:World} {c:Bool},e= .returned (.bool c)/\i=w->(d==l)=c->e= .returned (.bool (d==l))/\ ∃q,i=w.drewN q:=by
  rintro e i c ⟨rfl,rfl⟩ rfl;exact⟨rfl,0,rfl⟩
 rcases wS G with ⟨rfl,a,c,rfl⟩|⟨b,o,c,H,rfl,K⟩
 ·rcases wS B with ⟨rfl,n,k,rfl⟩|⟨p,r,k,C,rfl,F⟩
  ·exact(h.pD a n c 0 k w O).mono λe i q=>m q aP
  refine(h.pD a (some ⟨p,r,none⟩) c l.length k w O).mono λe i q=>m q ?_;cases l with
  |nil=>simp at C
  |cons y l=>simp
 rcases wS B with ⟨rfl,n,k,rfl⟩|⟨p,r,k,C,rfl,F⟩
 ·refine(h.lens (some ⟨b,o,none⟩) n d.length c 0 k w O).mono λe i q=>m q ?_;cases d with
  |nil=>simp at H
  |cons x d=>simp
 exact h.both b o d.length c p r l.length k d l w rfl rfl O O (λj s=>A _ _ (K j s)) λj s=>A _ _ (F j s)
theorem YU(h:(dS u m)[i]? =some p):p<m:=by have:=bE h;unfold dS at this;exact pU.1 (List.mem_filter.1 this).1
theorem Yt(a:Nat->Bool)(m:Nat):(dS a m).length<=m:=by unfold dS;exact f' (tu _ _) aP
theorem Yu{iM:Nat}(h:(dS u m)[i]? =some p)(a:(dS u m)[iM]? =some p):i=iM:=by
 have c:(dS u m).Nodup:=by unfold dS;exact List.nodup_range.filter _
 exact(List.getElem?_inj (bU.1 h).1 c).1 (h.trans a.symm)
section adq
variable {P:Program}
theorem VI{f:FuncId}(D:JX P f g)(agM:Em P g)(M:ig P f){n:List dN}{gs:Nat}(eD:(U n m).size=1)(lO:(U n m).en 0=some m1)
  (d:List (List Int)) (b8: ∀l∈d,l.length<=1000000000):
  jb P G f [.a7 n m gs (d.map (aW I)) []] [ms 0 gs 1 (aW I) d,.fn g []] (ms 0 gs 1 (aW I) (gB d)) [.a7 n m gs ((gB d).map (aW I)) []]:=by
 refine⟨M,?_⟩;intro w X r N kY gp kA fP;have sx:N.length=2:=fP.length;obtain⟨hV,e5,rfl⟩: ∃a b,N=[a,b]:=by
  match N,sx with
  | [a,b],_=>exact⟨a,b,rfl⟩
 have F:=Rel.lY (P:=P) (nt:=2) kY gp kA fP (cJ _);obtain⟨S,sJ,_⟩:=fP;obtain rfl:e5= .func (.func g) #[] #[]:=by
  cases sJ with
  |fn _ _ N hs _=>
   have:N= #[]:=JE hs;rw[this]
 generalize H4:({tmps:=[hV,Value.func (.func g) #[] #[]].toArray++Array.replicate (2-[hV,Value.func (.func g) #[] #[]].toArray.size) undef,defers:=[]}:Act)=act at F;generalize kv:Ctx.dC P G w X [E.a7 n m gs (d.map (aW I)) []].length r 2=K at F;have ss:K.X=X:=by rw[<-kv];rfl
 generalize kZ:Lift.lY [E.a7 n m gs (d.map (aW I)) []] [ms 0 gs 1 (aW I) d,.fn g []]=z at F;have A:z.H 0=some (.a7 n m gs (d.map (aW I)) []):=by rw[<-kZ];rfl
 have T:z.H=eN [E.a7 n m gs (d.map (aW I)) []] 0:=by rw[<-kZ];rfl
 have Y:own K r z.H=lW X r (eN [E.a7 n m gs (d.map (aW I)) []] 0):=by funext b;rw[T];show(K.X b\/_)=_;rw[ss];rfl
 rw[<-Y] at S;have sr:aS z.H 0 (some (E.a7 n m gs ((gB d).map (aW I)) []))=eN [E.a7 n m gs ((gB d).map (aW I)) []] 0:=by
  rw[T];funext j
  match j with
  |0=>rfl
  |j+1=>rfl
 have fin: ∀(o:Map) (w':World) (v:Value),Rel K o {z with H:=aS z.H 0 (some (.a7 n m gs ((gB d).map (aW I)) []))} act w'->bk o w' (own K o (aS z.H 0 (some (.a7 n m gs ((gB d).map (aW I)) [])))) (ms 0 gs 1 (aW I) (gB d)) v->
   ∃u,∃_i:Unit,∃β,Ending.returned v= .returned u/\True/\Left r β [E.a7 n m gs (d.map (aW I)) []] [E.a7 n m gs ((gB d).map (aW I)) []] w w' X (ms 0 gs 1 (aW I) (gB d)) u:=by
  intro o w' v bR L;subst kv;obtain⟨β,sL⟩:=DM (out:=[E.a7 n m gs ((gB d).map (aW I)) []]) bR (cJ _) L rfl (by
   intro id e0 Q;refine⟨⟨e0,?_,ju.refl _⟩,?_⟩
   ·show aS z.H 0 _ id=_;rw[sr];exact Q
   match id with
   |0=>cases Q;exact⟨rfl,rfl⟩
   |k+1=>cases Q)
  exact⟨_,(),β,rfl,trivial,sL⟩
 have uL:z.H 0≠none:=by rw[A];simp
 have iL:1<=gs:=(F.heap 0 _ A).2.1;have o7:=M9 (sz:=1) (F.heap 0 _ A).2 eD S;rcases o7 with ⟨rfl,h1,C⟩|⟨b,cap,s,B,rfl,C,pk,k0,po,Ce,bR,HS⟩
 ·have pr:d=[]:=by simpa using h1
  subst pr;refine(D.pD none 0 w).mono ?_;rintro e1 fp ⟨rfl,rfl⟩;have e0:gB []=[]:=rfl;refine fin r _ _ ?_ ?_
  ·have:=F.yO 0 _ A;rw[e0];exact this
  rw[e0];exact .hi 0 gs 1 iL C
 have uO:own K r z.H b:= .inr ⟨0,uL,.inl ⟨_,C⟩⟩;rw[dn] at po;have hlen:d.length<=s.size:=O
 have R: ∀(j:Nat) (q:j<d.length),cP w (λx=>x=b) (.aA (d[j].map im)) (s[j]' O):=λj q=>by
  have sE:=bR j 0 (aW I d[j]) (.aA (d[j].map im)) _ (by rw[ev,bo q];rfl) rfl (by rw[show j*1+0=j by omega];exact hr O);exact sE.yP (λx hx=>by rw[show x=b from hx];exact uO) λc bG e=>HS j 0 c bG e
 obtain⟨vs,uU⟩: ∃vs:Nat->Value,vs=λj=>if j<d.length then s.getD j undef else .slice none 0 0:=⟨_,rfl⟩
 have L: ∀j (q:j<d.length),vs j=s[j]' O:=λj q=>by
  rw[uU];show(if j<d.length then _ else _)=_;rw[a1 q];simp[show j<s.size by omega]
 have k1: ∀j,(vs j).oneCell'=true:=λj=>by
  by_cases q:j<d.length
  ·rw[L j q];exact(R j q).iR
  rw[uU];show(if j<d.length then _ else _:Value).oneCell'=true;rw[aZ q];rfl
 have run:=D.run vs b 0 d.length cap (U n m).ty s (kW d) w pk O (λj q=>by rw[dt,L j q];exact hr O) k1 po Ce (by simp[kW]) (λj W hj0 q k3 lN=>by
  have hE:Ext (λx=>x=b) w {w with heap:=W.heap}:=⟨rfl,rfl,rfl,k3,λk _ hk=>lN k hk⟩
  have e:=acm agM (w0:={w with heap:=W.heap}) (w:=W) (λ_ _ h=>h) ((R j q).mono hE λ_ _ h=>h) ((R (j-1) O).mono hE λ_ _ h=>h) (b8 _ (fJ _)) (b8 _ (fJ _));rw[L j q,L (j-1) O];have hk:(d[j]==d[j-1]' O)= !kW d j:=by
   have g1:d.getD j []=d[j]:=by rw[eL,bo q];rfl
   have g2:d.getD (j-1) []=d[j-1]' O:=by rw[eL,bo O];rfl
   unfold kW;rw[g1,g2]
   have:j≠0:=O
   by_cases C:d[j]=d[j-1]' O
   ·simp[this,C]
   simp[this,C]
  rw[hk] at e;exact e)
 rw[dn];refine run.mono ?_;rintro e1 fp ⟨rfl,hE,eW,t,hs',sy,ahE⟩;have y:(gB d).length=(dS (kW d) d.length).length:=by unfold gB;rw[dn]
 have ahF:=Yt (kW d) d.length;obtain⟨o,afn,hR⟩:=F.pick 0 A eD lO C pk hs' t hE ((gB d).map (aW I)) (by rw[dn,y];omega) (λi=>(dS (kW d) d.length)[i]?) (λi p h=>by
   have aE:=(bU.1 h).1;have hp:=YU h;have h1:=sy i aE;rw[dt,eL,h,Option.getD_some,L p hp] at h1;refine⟨by rw[dn,y];exact aE,by rw[dn];exact hp,?_,?_⟩
   ·rw[h1,hr O]
   ·unfold gB;rw[ev,ev,ev,h,bo hp];show some (aW I (d.getD p []))=some (aW I d[p]);rw[eL,bo hp];rfl) (λi iM p h h'=>Yu h h') (λi aE h=>by
   rw[dn,y] at aE;rw[bo aE] at h;cases h)
 refine fin o _ _ hR ?_;have ky:b<fp.heap.size:=(js.1 t).1
 have:=bk.a8 (β:=o) (w:=fp) (X:=own K o (aS z.H 0 (some (.a7 n m gs ((gB d).map (aW I)) [])))) 0 gs 1 0 (gB d).length cap b eW.size (U n m).ty iL (by rw[afn];exact C) ky (by unfold World.shape?;rw[t]) O (by rw[y];omega) Ce;rw[y,ga] at this;rw[show ms 0 gs 1 (aW I) (gB d)=V.a8 0 gs 1 0 (dS (kW d) d.length).length by rw[<-y,show(gB d).length=(List.map (aW I) (gB d)).length by rw[dn]]];exact this
end adq
end Go.Lift
