/- Tools. -/
import Derived.Test.YtlbojjldejlgaaaGreatVLiftSort
set_option linter.unusedVariables false
namespace Go.Lift
open Go
def Map.sub(a:Map)(k:Nat)(N:Nat->Prop):Map:=⟨a.f,λid b=>a.n id b/\(id=k->N b)⟩
variable {W β:Map}{k i b m gen m1 p:Nat}{K:Ctx}{s:S}{a:Act}{w:World}{g:FuncId}{X:Nat->Prop}{t:List df}{G:ef}{u:Nat->Bool}
theorem rI{N:Nat->Prop}(h:At (W.sub k N) i b):At W i b:=by
 rcases h with h|h
 ·exact .inl h
 exact .inr h.1
theorem Rel.sub(h:Rel K β s a w)(k:Nat)(N:Nat->Prop)(e':E)(r:s.H k≠none)
  (y:b4 (β.sub k N) w (own K (β.sub k N) (aE s.H k (some e'))) k e'):Rel K (β.sub k N) {s with H:=aE s.H k (some e')} a w:=by
 have d: ∀b,own K (β.sub k N) (aE s.H k (some e')) b->own K β s.H b:=by
  rintro b (c|⟨id,l,n⟩)
  ·exact .inl c
  refine .inr ⟨id,λo=>?_,rI n⟩;by_cases m:id=k
  ·subst m;exact r o
  rw[bx _ _ _ _ m] at l;exact l o
 have v:cN β (β.sub k N):=λ_ _ _ c=> .inl c;refine {h with base:=λid hid=>h.base id hid,cW:=λid hid=>h.cW id hid,du:=λid b hid p=>h.du id b hid p.1,inj:=λid q b l n=>h.inj id q b (rI l) (rI n),fresh:=λid b p=>h.fresh id b (rI p),heap:= ?_,cu:=λi=>(h.cu i).mono (Ext.refl _ _) (λb _=>d b) v (Shaped.refl _ _)};intro id e c;have c:aE s.H k (some e') id=some e:=c;by_cases m:id=k
 ·subst m;rw[bu] at c;cases c;cases x:s.H id with
  |none=>exact a7 x r
  |some o=>exact⟨(h.heap id o x).1,y⟩
 rw[bx _ _ _ _ m] at c;obtain⟨l,n⟩:=h.heap id e c;exact⟨l,n.mono (Ext.refl _ _) (λb _=>d b) v (λ_ h=>h) (Shaped.refl _ _) (λ_ _=>rfl) λb=>⟨λh=>h.1,λh=>⟨h,λe=>a7 e m⟩⟩⟩
theorem Rel.pick(h:Rel K β s a w)(k:Nat){r:List df}{l:List (List T)}(hk:s.H k=some (.av r m gen l []))(db:(Y r m).size=1)(jl:(Y r m).dv 0=some m1)
   {g:Array Value} (cK:β k=some (some b,gen)) (aQ:w.heap[b]? =some (.cells g (Y r m).ty (0,0)))
  {w':World} {z:Array Value} (hs:z.size=g.size) (D:w'.heap[b]? =some (.cells z (Y r m).ty (0,0))) (t:Ext (λx=>x=b) w w') (d:List (List T)) (ch:d.length<=g.size) (F:Nat->Option Nat)
  (R: ∀i p,F i=some p->i<d.length/\p<l.length/\z[i]? =g[p]? /\d[i]? =l[p]?) (U2: ∀i I p,F i=some p->F I=some p->i=I) (A: ∀i,i<d.length->F i=none->z[i]? =some (.slice none 0 0)/\d[i]? =some [.aa []]):
  ∃β',(∀id,β' id=β id)/\Rel K β' {s with H:=aE s.H k (some (.av r m gen d []))} a w':=by
 have M:s.H k≠none:=by rw[hk];simp
 obtain⟨hl,fP⟩:=(h.heap k _ hk).2;obtain⟨B,hlen,N,G,U,Ut,G4⟩: ∃B:Nat->Nat->Nat->Prop,l.length*(Y r m).size<=g.size/\(∀o,o∈l->o.length=(Y r m).size)/\
   (∀(i j:Nat) (o:List T) (x:T) (u:Value),l[i]? =some o->o[j]? =some x->g[i*(Y r m).size+j]? =some u->Cell r m [] β w (own K β s.H) i j x u (B i j))/\
   (∀i j c,B i j c->i<l.length/\j<(Y r m).size/\c≠b)/\(∀i j I cr c,B i j c->B I cr c->i=I/\j=cr)/\ ∀c,β.n k c↔ ∃i j,B i j c:=by
  rcases fP with ⟨v,_⟩|⟨b2,nD,B,v,L,f,h4,h5,h6,il,hS⟩
  ·rw[cK] at v;cases v
  rw[cK] at v;cases v;rw[aQ] at L;cases L;exact⟨B,f,h4,h5,h6,il,hS⟩
 rw[db] at hlen N G U;have V:own K β s.H b:= .inr ⟨k,M,.inl ⟨_,cK⟩⟩;have UG:b<w.heap.size:=(gw.1 aQ).1
 -- the block told anew, its rows not told
 have qo:=h.setRow k b (.inl ⟨_,cK⟩) g (Y r m).ty aQ z hs (.arr (Y r m).ty gen 1 []) M ⟨hl,.inr ⟨b,z,cK,setRow_heap _ _ _ _ _ _ aQ,aV,aV,λi j o x u v=>by simp at v⟩⟩;have fy:Rel K β {s with H:=aE s.H k (some (.arr (Y r m).ty gen 1 []))} a w':=by
  refine qo.grow ⟨t.os,t.tape,t.output,?_,λx hx _=>?_⟩
  ·have:=t.size;simpa using this
  by_cases e:x=b
  ·subst e;rw[D,setRow_heap _ _ _ _ _ _ aQ]
  rw[setRow_other _ _ _ _ e];exact t.keep x (by simpa using hx) e
 refine⟨β.sub k λc=> ∃i p,F i=some p/\B p 0 c,λ_=>rfl,?_⟩;have hC:=fy.sub k (λc=> ∃i p,F i=some p/\B p 0 c) (.av r m gen d []) (by show aE s.H k _ k≠none;rw[bu];simp) ?_
 ·have e:aE (aE s.H k (some (E.arr (Y r m).ty gen 1 []))) k (some (.av r m gen d []))=aE s.H k (some (.av r m gen d [])):=by
   funext i;by_cases C:i=k
   ·subst C;rw[bu,bu]
   rw[bx _ _ _ _ C,bx _ _ _ _ C,bx _ _ _ _ C]
  have G5:Rel K _ {s with H:=aE (aE s.H k (some (E.arr (Y r m).ty gen 1 []))) k (some (.av r m gen d []))} a w':=hC;rw[e] at G5;exact G5
 have e8: ∀x,own K (β.sub k λc=> ∃i p,F i=some p/\B p 0 c) (aE (aE s.H k (some (E.arr (Y r m).ty gen 1 []))) k (some (.av r m gen d []))) x->own K β s.H x:=by
  rintro x (hx|⟨id,v,L⟩)
  ·exact .inl hx
  refine .inr ⟨id,λe0=>?_,rI L⟩;by_cases C:id=k
  ·subst C;exact M e0
  rw[bx _ _ _ _ C,bx _ _ _ _ C] at v;exact v e0
 have Uw:Ext (own K β s.H) w w':=t.weaken λx _ e=>by rw[show x=b from e];exact V
 refine⟨hl,.inr ⟨b,z,λi j c=>j=0/\ ∃p,F i=some p/\B p 0 c,cK,D,by rw[db];omega,λo mT=>?_,λi j o x u v L f=>?_,λi j c bl=>?_,λi j I cr c bl AX=>?_,λc=>?_⟩⟩
 ·obtain⟨i,C⟩:=hz.1 mT;have W:=(bt.1 C).1;rw[db];cases q:F i with
  |none=>rw[(A i W q).2] at C;cases C;rfl
  |some p=>rw[(R i p q).2.2.2] at C;exact N o (bA C)
 ·have W:=(bt.1 v).1;rw[db] at f;have hj0:j=0:=by
   have U5:=(bt.1 L).1;cases q:F i with
   |none=>rw[(A i W q).2] at v;cases v;simpa using U5
   |some p=>rw[(R i p q).2.2.2] at v;have:=N o (bA v);omega
  subst hj0;rw[show i*1+0=i by omega] at f;refine Cell.of ?_;cases q:F i with
  |none=>
   obtain⟨ay,a2⟩:=A i W q;rw[a2] at v;cases v;rw[ay] at f;cases f;simp only[List.getElem?_cons_zero,Option.some.injEq] at L;subst L;rw[jl];exact .nil m1 _ (λc bl=>by obtain⟨_,p,Q,_⟩:=bl;rw[q] at Q;cases Q)
  |some p=>
   obtain⟨a0,ay,a2,a3⟩:=R i p q;rw[a3] at v;rw[a2] at f;have bl:=(G p 0 o x u v L (by rw[show p*1+0=p by omega];exact f)).none;have AX:=bl.mono Uw (λx _=>e8 x) λc lV=>t.keep c (h.fresh k c (.inr ((G4 c).2 ⟨p,0,lV⟩))).2 (U p 0 c lV).2.2;exact AX.iff λc=>⟨λ⟨_,Ib,X,D⟩=>by rw[q] at X;cases X;exact D,λD=>⟨rfl,p,q,D⟩⟩
 ·obtain⟨rfl,p,Q,y⟩:=bl;rw[db];exact⟨(R i p Q).1,O,(U p 0 c y).2.2⟩
 ·obtain⟨rfl,p,Q,y⟩:=bl;obtain⟨rfl,Ib,X,UD⟩:=AX
  have:=(Ut p 0 Ib 0 c y UD).1;subst this;exact⟨U2 i I p Q X,rfl⟩
 constructor
 ·rintro⟨_,L⟩;obtain⟨i,p,Q,y⟩:=L rfl;exact⟨i,0,rfl,p,Q,y⟩
 rintro⟨i,j,rfl,p,Q,y⟩;exact⟨(G4 c).2 ⟨p,0,y⟩,λ_=>⟨i,p,Q,y⟩⟩
open Go.Proofs
theorem Qk{k:Type}{l l':List k}(h:l.Perm l'): ∃d:Nat->Nat,(∀i,i<l'.length->d i<l.length/\l'[i]? =l[d i]?)/\ ∀i j,i<l'.length->j<l'.length->d i=d j->i=j:=by
 induction h with
 |nil=>exact⟨id,λi c=>a7 c (lA _),λi j c=>a7 c (lA _)⟩
 |cons a _ v=>
  obtain⟨d,n,o⟩:=v;refine⟨λi=>match i with|0=>0|i+1=>d i+1,λi c=>?_,λi j c m e=>?_⟩
  ·match i with
   |0=>exact⟨aV,rfl⟩
   |i+1=>
    obtain⟨ay,a2⟩:=n i (by simpa using c);exact⟨by simpa using ay,by simpa using a2⟩
  match i,j with
  |0,0=>rfl
  |0,j+1=>simp at e
  |i+1,0=>simp at e
  |i+1,j+1=>simp at e;rw[o i j (by simpa using c) (by simpa using m) e]
 |swap a b l=>
  refine⟨λi=>match i with|0=>1|1=>0|i+2=>i+2,λi c=>?_,λi j c m e=>?_⟩
  ·match i with
   |0=>exact⟨aV,rfl⟩
   |1=>exact⟨aV,rfl⟩
   |i+2=>exact⟨by simpa using c,aV⟩
  match i,j with
  |0,0=>rfl
  |0,1=>simp at e
  |0,j+2=>simp at e
  |1,0=>simp at e
  |1,1=>rfl
  |1,j+2=>simp at e
  |i+2,0=>simp at e
  |i+2,1=>simp at e
  |i+2,j+2=>simpa using e
 |trans _ _ p q=>
  obtain⟨d,n,o⟩:=p;obtain⟨s,r,w⟩:=q;refine⟨λi=>d (s i),λi c=>?_,λi j c m e=>?_⟩
  ·obtain⟨ay,a2⟩:=r i c;obtain⟨a3,a4⟩:=n (s i) ay;exact⟨a3,a2.trans a4⟩
  exact w i j c m (o _ _ (r i c).1 (r j m).1 e)
theorem Eu{sz:Nat}{a:List (List T)}{x:Value}(A:b4 W w X k (.av t m gen a []))(D:(Y t m).size=sz)(F:aS W w X (.aN k gen sz 0 a.length) x):
  (x= .slice none 0 0/\a=[]/\W k=some (none,gen))\/ ∃(b d:Nat) (e:Array Value) (B:Nat->Nat->Nat->Prop),x= .slice (some ⟨b,0,none⟩) a.length d/\W k=some (some b,gen)/\w.heap[b]? =some (.cells e (Y t m).ty (0,0))/\e.size=d*sz/\a.length<=d/\d<=maxLen/\
   (∀(i j:Nat) (l:List T) (y:T) (u:Value),a[i]? =some l->l[j]? =some y->e[i*sz+j]? =some u->eJ t w X ((Y t m).dv j) y u (B i j))/\ ∀i j c,B i j c->c≠b:=by
 obtain⟨q,o⟩:=rk A;rcases ei F o with ⟨d,b,n,G,rfl,rfl,E,h,r,H,s⟩|⟨rfl,_,v,rfl⟩
 ·rcases A.2 with ⟨p,_⟩|⟨I,e,B,p,C,M,N,K,L,_⟩
  ·rw[o] at p;cases p
  rw[o] at p;cases p;have z:e.size=d*sz:=by
   unfold World.shape? at h;rw[C] at h;simp at h;rw[<-r] at h;rw[dn] at h;exact h.2
  refine .inr ⟨b,d,e,B,by rw[fe],o,C,z,H,s,λi j l y u Q R f=>(K i j l y u Q R (by rw[D];exact f)).none,λi j c g=>(L i j c g).2.2⟩
 exact .inl ⟨rfl,iW v,o⟩
section w5
open Go.Shelf Go.RowKit Go.Lib Go.Sort
variable {P:Program}{ρ:Ren}
theorem O9(L:SlLaysF.n6 P ρ)(raw:ps P g)(AA: ∀args w,(callFunc g args).run P w= .ok (.enter g args) w)(call:hP P (ρ.f 6)){q:List df}{s:Nat}(db:(Y q m).size=1)(jl:(Y q m).dv 0=some m1)
  (rows:List (List Int)) (cn:rows.length<=1000000000) (ch: ∀l∈rows,l.length<=1000000000):
  gO P G (ρ.f 6) [.av q m s (rows.map (aK U)) []] [ms 0 s 1 (aK U) rows,.fn g []] (.bG []) [.av q m s ((d0 rows).map (aK U)) []]:=by
 refine⟨call,?_⟩;intro w X v us iH e8 sw fE;have oG:us.length=2:=fE.length;obtain⟨iy,kp,rfl⟩: ∃a b,us=[a,b]:=by
  match us,oG with
  | [a,b],_=>exact⟨a,b,rfl⟩
 have h0:=Rel.kQ (P:=P) (nt:=2) iH e8 sw fE (cL _);obtain⟨HU,sF,_⟩:=fE;obtain rfl:kp= .func (.func g) #[] #[]:=by
  cases sF with
  |fn _ _ us hs _=>
   have:us= #[]:=Ch hs;rw[this]
 generalize Hb:({tmps:=[iy,Value.func (.func g) #[] #[]].toArray++Array.replicate (2-[iy,Value.func (.func g) #[] #[]].toArray.size) undef,defers:=[]}:Act)=act at h0;generalize mR:Ctx.ec P G w X [E.av q m s (rows.map (aK U)) []].length v 2=K at h0;have sp:K.X=X:=by rw[<-mR];rfl
 generalize k8:Lift.kQ [E.av q m s (rows.map (aK U)) []] [ms 0 s 1 (aK U) rows,.fn g []]=D at h0;have Q:D.H 0=some (.av q m s (rows.map (aK U)) []):=by rw[<-k8];rfl
 have G':D.H=dy [E.av q m s (rows.map (aK U)) []] 0:=by rw[<-k8];rfl
 have Bd:own K v D.H=fS X v (dy [E.av q m s (rows.map (aK U)) []] 0):=by funext b;rw[G'];show(K.X b\/_)=_;rw[sp];rfl
 rw[<-Bd] at HU;have so:aE D.H 0 (some (E.av q m s ((d0 rows).map (aK U)) []))=dy [E.av q m s ((d0 rows).map (aK U)) []] 0:=by
  rw[G'];funext j
  match j with
  |0=>rfl
  |j+1=>rfl
 have fin: ∀(R:Map) (w':World),Rel K R {D with H:=aE D.H 0 (some (.av q m s ((d0 rows).map (aK U)) []))} act w'->
   ∃u,∃_i:Unit,∃β,Ending.returned (.tuple #[])= .returned u/\True/\Left v β [E.av q m s (rows.map (aK U)) []] [E.av q m s ((d0 rows).map (aK U)) []] w w' X (.bG []) u:=by
  intro R w' bH;subst mR;obtain⟨β,sJ⟩:=Cb (out:=[E.av q m s ((d0 rows).map (aK U)) []]) bH (cL _) (.bG [] #[] rfl λi c u bl _=>by simp at bl) rfl (by
   intro id e0 I;refine⟨⟨e0,?_,hF.refl _⟩,?_⟩
   ·show aE D.H 0 _ id=_;rw[so];exact I
   match id with
   |0=>cases I;exact⟨rfl,rfl⟩
   |k+1=>cases I)
  exact⟨_,(),β,rfl,trivial,sJ⟩
 have AR:D.H 0≠none:=by rw[Q];simp
 have rO:=Eu (sz:=1) (h0.heap 0 _ Q).2 db HU;rcases rO with ⟨rfl,h1,cK⟩|⟨b,cap,o,B,rfl,cK,A,kF,lX,vG,bH,AN⟩
 ·have l0:rows=[]:=by simpa using h1
  subst l0;refine(AnyF.slices_SortFunc_none (P:=P) (ρ:=ρ) {L with} none 0 _ w).mono ?_;rintro e1 jE ⟨rfl,rfl⟩;refine fin v _ ?_
  have:=h0.tB 0 _ Q;rw[show d0 []=[] by simp[d0]];exact this
 have qp:own K v D.H b:= .inr ⟨0,AR,.inl ⟨_,cK⟩⟩;rw[dL] at lX;have hlen:rows.length<=o.size:=O
 have jm: ∀(j:Nat) (M:j<rows.length),b9 w (λx=>x=b) (.aa (rows[j].map hU)) (o[j]' O):=λj M=>by
  have oJ:=bH j 0 (aK U rows[j]) (.aa (rows[j].map hU)) _ (by rw[dT,bh M];rfl) rfl (by rw[show j*1+0=j by omega];exact f' O);exact oJ.q7 (λx hx=>by rw[show x=b from hx];exact qp) λc bl e=>AN j 0 c bl e
 obtain⟨F,AO,AP⟩: ∃F:Fin rows.length->dd w λx=>x=b,(∀j,(F j).enc=o[j.1]'(by have:=j.2;omega))/\ ∀j,(F j).bD=rows[j.1]:=
  ⟨λj=>⟨(o[j.1]'(by have:=j.2;omega),rows[j.1]),jm j.1 j.2,ch _ (ft j.2)⟩,λ_=>rfl,λ_=>rfl⟩
 obtain⟨d,cA⟩: ∃d:Array (dd w λx=>x=b),d=Array.ofFn F:=⟨_,rfl⟩
 have C:d.size=rows.length:=by rw[cA];exact Array.size_ofFn
 have W: ∀(j:Nat) (M:j<d.size),d[j].enc=o[j]' O/\d[j].bD=rows[j]' O:=λj M=>by
  subst cA;rw[Array.getElem_ofFn];exact⟨AO _,AP _⟩
 have A0:(d.map dd.bD).toList=rows:=by
  refine List.ext_getElem (by simp[C]) λj h1 h2=>?_;rw[Array.getElem_toList,Array.getElem_map];exact(W j O).2
 have hH:Holds dd.enc w b 0 d:=λj M=>by
  rw[dn,getElem!_pos d j M,(W j M).1];refine⟨?_,by simp[World.frozen?,A]⟩
  have:j<o.size:=O
  simp[World.cell?,A,this]
 have oD:CmpLays1 P g #[] dd.enc pO b 0 d.size w:=CmpReads.lays (λm os dk hs x y=>by
  have hh:=zE (w:=w) (X:=λx=>x=b) (b:=b) (m:=m) (dk:=dk) (os:=os) rfl;exact(F' raw (x.2.1.mono hh λ_ _ h=>h) (y.2.1.mono hh λ_ _ h=>h) x.2.2 y.2.2).mono (by
   rintro e1 jE ⟨rfl,rfl⟩;exact⟨rfl,0,rfl⟩))
 have run:=Any.slices_SortFunc L dd.enc dd.one pO Gg g #[] b 0 cap d w AA oD hH (gw.1 A).1 O;rw[C] at run;rw[dL];refine run.mono ?_;rintro e1 jE ⟨rfl,r,n,os,N,hs,k'⟩;rw[<-C] at N hs;have S:=Ej N hs;rw[A0] at S;have t:r.size=d.size:=N.1;obtain⟨T,VR,VS⟩:=Qk (l:=d.toList) (l':=r.toList) (by
  have h2:=N.2.2;have e1:r.extract 0 d.size=r:=by rw[<-t];simp
  have e2:d.extract 0 d.size=d:=aV
  rw[e1,e2] at h2;exact h2.symm)
 have V:(Sort.ahead w n).heap[b]? =some (.cells o (Y q m).ty (0,0)):=A;have mT:sortWorld dd.enc w b 0 n r os=grow ((Sort.ahead w n).setRow b (putCells dd.enc 0 r o)) os:=by
  show grow (putRow dd.enc (Sort.ahead w n) b 0 r) os=_;congr 1;exact JV V _
 have hCs:(putCells dd.enc 0 r o).size=o.size:=by simp[putCells]
 have Hc: ∀i,i<r.size->(putCells dd.enc 0 r o)[i]? =some (r[i]!).enc:=λi z=>by
  unfold putCells;rw[Array.getElem?_mapIdx,f' O];simp only[Option.map_some];rw[bn O,Nat.sub_zero]
 have Uy:jE.heap[b]? =some (.cells (putCells dd.enc 0 r o) (Y q m).ty (0,0)):=by
  rw[k',mT];show(_++os)[b]? =_;have UF:b<((Sort.ahead w n).setRow b (putCells dd.enc 0 r o)).heap.size:=(gw.1 (setRow_heap _ _ _ _ _ _ V)).1;rw[Array.getElem?_append_left UF];exact setRow_heap _ _ _ _ _ _ V
 have Uv:Ext (λx=>x=b) w jE:=by rw[k'];exact zE rfl
 have UL:r.size=rows.length:=by rw[t,C]
 have A8:(d0 rows).length=rows.length:=by rw[<-S,kS,Array.size_map,UL]
 have UT: ∀i (z:i<rows.length),∃N:T i<rows.length,(putCells dd.enc 0 r o)[i]? =o[T i]? /\(d0 rows)[i]? =rows[T i]? :=λi z=>by
  obtain⟨ay,a2⟩:=VR i (by rw[kS];omega);rw[kS,C] at ay;rw[mj,mj,f' O,f' O] at a2;have a3:r[i]' O=d[T i]' O:=by simpa using a2
  refine⟨ay,?_,?_⟩
  ·rw[Hc i O,getElem!_pos r i O,a3,(W (T i) O).1,f' O]
  rw[<-S,mj,Array.getElem?_map,f' O,Option.map_some,a3,(W (T i) O).2,bh ay]
 obtain⟨R,_,AV⟩:=h0.pick 0 Q db jl cK A hCs Uy Uv ((d0 rows).map (aK U)) (by rw[dL,A8];omega) (λi=>if i<rows.length then some (T i) else none) (λi p h=>by
   by_cases z:i<rows.length
   ·rw[bn z] at h;cases h;obtain⟨N,e1,e2⟩:=UT i z;exact⟨by rw[dL,A8];exact z,by rw[dL];exact N,e1,by rw[dT,dT,e2]⟩
   ·rw[br z] at h;cases h) (λi gF p h jZ=>by
   by_cases z:i<rows.length
   ·by_cases su:gF<rows.length
    ·rw[bn z] at h;rw[bn su] at jZ;exact VS i gF (by rw[kS];omega) (by rw[kS];omega) (Option.some.inj (h.trans jZ.symm))
    rw[br su] at jZ;cases jZ
   ·rw[br z] at h;cases h) (λi z h=>by
   rw[dL,A8] at z;rw[bn z] at h;cases h)
 exact fin R _ AV
theorem LZ(L:SlLaysF.n6 P ρ)(b:ps P g)(e: ∀args w,(callFunc g args).run P w= .ok (.enter g args) w)(a:hP P (ρ.f 6)){n:Nat}(k:(Y t m).size=1)(c:(Y t m).dv 0=some n){x r:List (List Int)}(h:ka x=some r):
  gO P G (ρ.f 6) [.av t m i (x.map (aK U)) []] [ms 0 i 1 (aK U) x,.fn g []] (.bG []) [.av t m i (r.map (aK U)) []]:=by
 unfold ka at h;split at h
 ·rename_i d;cases h;exact O9 L b e a k c x d.1 d.2
 cases h
end w5
theorem qG(a:Nat->Bool)(m:Nat):dp a (m+1)=dp a m++(if a m then [m] else []):=by unfold dp;rw[pj,List.filter_append];congr 1;by_cases h:a m<;>simp[h]
theorem xv(h: ∀j,j<m->u j=true):dp u m=List.range m:=by unfold dp;exact List.filter_eq_self.2 λj a=>h j (rb.1 a)
structure C0 (P:Program) (f g:FuncId):Prop where
 run: ∀(vs:Nat->Value) (b off n cap:Nat) (ty:TypeId) (cur:Array Value) (cH:Nat->Bool) (w:World) (bE:w.heap[b]? =some (.cells cur ty (0,0))) (cn:off+n<=cur.size) (bF: ∀j,j<n->cur[off+j]? =some (vs j)) (kG: ∀j,(vs j).oneCell'=true) (AY:n<=cap) (hm:cap<=maxLen) (A5:cH 0=true) (oD: ∀j W,0<j->j<n->w.heap.size<=W.heap.size->(∀k,k≠b->W.heap[k]? =w.heap[k]?)->Calls P g #[vs j,vs (j-1)] W λe e3=>e= .returned (.bool (!cH j))/\ ∃q,e3=W.drewN q),Calls P f #[.slice (some ⟨b,off,none⟩) n cap,.func (.func g) #[] #[]] w λe w'=>e= .returned (.slice (some ⟨b,off,none⟩) (dp cH n).length cap)/\Ext (λx=>x=b) w w'/\ ∃eo,w'.heap[b]? =some (.cells eo ty (0,0))/\eo.size=cur.size/\(∀i,i<(dp cH n).length->eo[off+i]? =some (vs ((dp cH n).getD i 0)))/\ ∀i,(dp cH n).length<=i->i<n->eo[off+i]? =some (.slice none 0 0)
 mb: ∀(a:Option Addr) (c:Nat) (w:World),Calls P f #[.slice a 0 c,.func (.func g) #[] #[]] w λe w'=>e= .returned (.slice a 0 c)/\w'=w
structure yf (P:Program) (g:FuncId):Prop where
 both: ∀(cF fG n c b2 iq m d:Nat) (xs ys:List Int) (w:World),xs.length=n->ys.length=m->n<=9223372036854775807->m<=9223372036854775807->(∀j,j<xs.length->w.cell? ⟨cF,fG+j,none⟩=some (.int .i64 (xs.getD j 0)))->
  (∀j,j<ys.length->w.cell? ⟨b2,iq+j,none⟩=some (.int .i64 (ys.getD j 0)))->
  Calls P g #[.slice (some ⟨cF,fG,none⟩) n c,.slice (some ⟨b2,iq,none⟩) m d] w λe w'=>e= .returned (.bool (xs==ys))/\ ∃q,w'=w.drewN q
 lens: ∀(ay a2:Option Addr) (n c m d:Nat) (w:World),n≠m->Calls P g #[.slice ay n c,.slice a2 m d] w λe w'=>e= .returned (.bool false)/\w'=w
 mb: ∀(ay a2:Option Addr) (c m d:Nat) (w:World),m<=9223372036854775807->Calls P g #[.slice ay 0 c,.slice a2 m d] w λe w'=>e= .returned (.bool (decide (m=0)))/\w'=w
theorem TR{P:Program}(h:yf P g){w0:World}(A: ∀a v,w0.cell? a=some v->w.cell? a=some v){d l:List Int}{u z:Value}(F:b9 w0 X (.aa (d.map hU)) u)(B:b9 w0 X (.aa (l.map hU)) z)(K:d.length<=1000000000)(L:l.length<=1000000000):
  Calls P g #[u,z] w λe i=>e= .returned (.bool (d==l))/\ ∃q,i=w.drewN q:=by
 have m: ∀{e:Ending} {i:World} {c:Bool},e= .returned (.bool c)/\i=w->(d==l)=c->e= .returned (.bool (d==l))/\ ∃q,i=w.drewN q:=by
  rintro e i c ⟨rfl,rfl⟩ rfl;exact⟨rfl,0,rfl⟩
 rcases rr F with ⟨rfl,a,c,rfl⟩|⟨b,o,c,G,rfl,H⟩
 ·rcases rr B with ⟨rfl,n,k,rfl⟩|⟨p,r,k,C,rfl,D⟩
  ·exact(h.mb a n c 0 k w O).mono λe i q=>m q aV
  refine(h.mb a (some ⟨p,r,none⟩) c l.length k w O).mono λe i q=>m q ?_;cases l with
  |nil=>simp at C
  |cons y l=>simp
 rcases rr B with ⟨rfl,n,k,rfl⟩|⟨p,r,k,C,rfl,D⟩
 ·refine(h.lens (some ⟨b,o,none⟩) n d.length c 0 k w O).mono λe i q=>m q ?_;cases d with
  |nil=>simp at G
  |cons x d=>simp
 exact h.both b o d.length c p r l.length k d l w rfl rfl O O (λj s=>A _ _ (H j s)) λj s=>A _ _ (D j s)
theorem PZ(h:(dp u m)[i]? =some p):p<m:=by have:=bA h;unfold dp at this;exact rb.1 (List.mem_filter.1 this).1
theorem Ow(a:Nat->Bool)(m:Nat):(dp a m).length<=m:=by unfold dp;exact dS (List.length_filter_le _ _) aV
theorem Ox{gF:Nat}(h:(dp u m)[i]? =some p)(a:(dp u m)[gF]? =some p):i=gF:=by
 have b:(dp u m).Nodup:=by unfold dp;exact List.nodup_range.filter _
 exact(List.getElem?_inj (bt.1 h).1 b).1 (h.trans a.symm)
section Uc
variable {P:Program}
theorem MU{f:FuncId}(t:C0 P f g)(WU:yf P g)(I:hP P f){n:List df}{gs:Nat}(db:(Y n m).size=1)(jl:(Y n m).dv 0=some m1)
  (d:List (List Int)) (ch: ∀l∈d,l.length<=1000000000):
  gO P G f [.av n m gs (d.map (aK U)) []] [ms 0 gs 1 (aK U) d,.fn g []] (ms 0 gs 1 (aK U) (fl d)) [.av n m gs ((fl d).map (aK U)) []]:=by
 refine⟨I,?_⟩;intro w X r M iH e8 sw fE;have oG:M.length=2:=fE.length;obtain⟨iy,kp,rfl⟩: ∃a b,M=[a,b]:=by
  match M,oG with
  | [a,b],_=>exact⟨a,b,rfl⟩
 have D:=Rel.kQ (P:=P) (nt:=2) iH e8 sw fE (cL _);obtain⟨N,sF,_⟩:=fE;obtain rfl:kp= .func (.func g) #[] #[]:=by
  cases sF with
  |fn _ _ M hs _=>
   have:M= #[]:=Ch hs;rw[this]
 generalize Hb:({tmps:=[iy,Value.func (.func g) #[] #[]].toArray++Array.replicate (2-[iy,Value.func (.func g) #[] #[]].toArray.size) undef,defers:=[]}:Act)=act at D;generalize mR:Ctx.ec P G w X [E.av n m gs (d.map (aK U)) []].length r 2=K at D;have sp:K.X=X:=by rw[<-mR];rfl
 generalize k8:Lift.kQ [E.av n m gs (d.map (aK U)) []] [ms 0 gs 1 (aK U) d,.fn g []]=z at D;have A:z.H 0=some (.av n m gs (d.map (aK U)) []):=by rw[<-k8];rfl
 have S:z.H=dy [E.av n m gs (d.map (aK U)) []] 0:=by rw[<-k8];rfl
 have T:own K r z.H=fS X r (dy [E.av n m gs (d.map (aK U)) []] 0):=by funext b;rw[S];show(K.X b\/_)=_;rw[sp];rfl
 rw[<-T] at N;have so:aE z.H 0 (some (E.av n m gs ((fl d).map (aK U)) []))=dy [E.av n m gs ((fl d).map (aK U)) []] 0:=by
  rw[S];funext j
  match j with
  |0=>rfl
  |j+1=>rfl
 have fin: ∀(o:Map) (w':World) (v:Value),Rel K o {z with H:=aE z.H 0 (some (.av n m gs ((fl d).map (aK U)) []))} act w'->aS o w' (own K o (aE z.H 0 (some (.av n m gs ((fl d).map (aK U)) [])))) (ms 0 gs 1 (aK U) (fl d)) v->
   ∃u,∃_i:Unit,∃β,Ending.returned v= .returned u/\True/\Left r β [E.av n m gs (d.map (aK U)) []] [E.av n m gs ((fl d).map (aK U)) []] w w' X (ms 0 gs 1 (aK U) (fl d)) u:=by
  intro o w' v bH F;subst mR;obtain⟨β,sJ⟩:=Cb (out:=[E.av n m gs ((fl d).map (aK U)) []]) bH (cL _) F rfl (by
   intro id e0 L;refine⟨⟨e0,?_,hF.refl _⟩,?_⟩
   ·show aE z.H 0 _ id=_;rw[so];exact L
   match id with
   |0=>cases L;exact⟨rfl,rfl⟩
   |k+1=>cases L)
  exact⟨_,(),β,rfl,trivial,sJ⟩
 have AR:z.H 0≠none:=by rw[A];simp
 have hl:1<=gs:=(D.heap 0 _ A).2.1;have rO:=Eu (sz:=1) (D.heap 0 _ A).2 db N;rcases rO with ⟨rfl,h1,C⟩|⟨b,cap,s,B,rfl,C,Hp,kF,lX,vG,bH,AN⟩
 ·have l0:d=[]:=by simpa using h1
  subst l0;refine(t.mb none 0 w).mono ?_;rintro e1 jE ⟨rfl,rfl⟩;have e0:fl []=[]:=rfl;refine fin r _ _ ?_ ?_
  ·have:=D.tB 0 _ A;rw[e0];exact this
  rw[e0];exact .fB 0 gs 1 hl C
 have qp:own K r z.H b:= .inr ⟨0,AR,.inl ⟨_,C⟩⟩;rw[dL] at lX;have hlen:d.length<=s.size:=O
 have Q: ∀(j:Nat) (q:j<d.length),b9 w (λx=>x=b) (.aa (d[j].map hU)) (s[j]' O):=λj q=>by
  have oJ:=bH j 0 (aK U d[j]) (.aa (d[j].map hU)) _ (by rw[dT,bh q];rfl) rfl (by rw[show j*1+0=j by omega];exact f' O);exact oJ.q7 (λx hx=>by rw[show x=b from hx];exact qp) λc bl e=>AN j 0 c bl e
 obtain⟨vs,HR⟩: ∃vs:Nat->Value,vs=λj=>if j<d.length then s.getD j undef else .slice none 0 0:=⟨_,rfl⟩
 have F: ∀j (q:j<d.length),vs j=s[j]' O:=λj q=>by
  rw[HR];show(if j<d.length then _ else _)=_;rw[bn q];simp[show j<s.size by omega]
 have kG: ∀j,(vs j).oneCell'=true:=λj=>by
  by_cases q:j<d.length
  ·rw[F j q];exact(Q j q).gX
  rw[HR];show(if j<d.length then _ else _:Value).oneCell'=true;rw[br q];rfl
 have run:=t.run vs b 0 d.length cap (Y n m).ty s (iE d) w Hp O (λj q=>by rw[dn,F j q];exact f' O) kG lX vG (by simp[iE]) (λj W hj0 q jn jj=>by
  have hh:Ext (λx=>x=b) w {w with heap:=W.heap}:=⟨rfl,rfl,rfl,jn,λk _ hk=>jj k hk⟩
  have e:=TR WU (w0:={w with heap:=W.heap}) (w:=W) (λ_ _ h=>h) ((Q j q).mono hh λ_ _ h=>h) ((Q (j-1) O).mono hh λ_ _ h=>h) (ch _ (ft _)) (ch _ (ft _));rw[F j q,F (j-1) O];have hk:(d[j]==d[j-1]' O)= !iE d j:=by
   have g1:d.getD j []=d[j]:=by rw[fs,bh q];rfl
   have g2:d.getD (j-1) []=d[j-1]' O:=by rw[fs,bh O];rfl
   unfold iE;rw[g1,g2]
   have:j≠0:=O
   by_cases C:d[j]=d[j-1]' O
   ·simp[this,C]
   simp[this,C]
  rw[hk] at e;exact e)
 rw[dL];refine run.mono ?_;rintro e1 jE ⟨rfl,hh,eo,R,mU,A9,X0⟩;have y:(fl d).length=(dp (iE d) d.length).length:=by unfold fl;rw[dL]
 have X2:=Ow (iE d) d.length;obtain⟨o,VQ,AV⟩:=D.pick 0 A db jl C Hp mU R hh ((fl d).map (aK U)) (by rw[dL,y];omega) (λi=>(dp (iE d) d.length)[i]?) (λi p h=>by
   have aD:=(bt.1 h).1;have hp:=PZ h;have h1:=A9 i aD;rw[dn,fs,h,Option.getD_some,F p hp] at h1;refine⟨by rw[dL,y];exact aD,by rw[dL];exact hp,?_,?_⟩
   ·rw[h1,f' O]
   ·unfold fl;rw[dT,dT,dT,h,bh hp];show some (aK U (d.getD p []))=some (aK U d[p]);rw[fs,bh hp];rfl) (λi gF p h jZ=>Ox h jZ) (λi aD h=>by
   rw[dL,y] at aD;rw[bh aD] at h;cases h)
 refine fin o _ _ AV ?_;have kE:b<jE.heap.size:=(gw.1 R).1
 have:=aS.aN (β:=o) (w:=jE) (X:=own K o (aE z.H 0 (some (.av n m gs ((fl d).map (aK U)) [])))) 0 gs 1 0 (fl d).length cap b eo.size (Y n m).ty hl (by rw[VQ];exact C) kE (by unfold World.shape?;rw[R]) O (by rw[y];omega) vG;rw[y,fe] at this;rw[show ms 0 gs 1 (aK U) (fl d)=V.aN 0 gs 1 0 (dp (iE d) d.length).length by rw[<-y,show(fl d).length=(List.map (aK U) (fl d)).length by rw[dL]]];exact this
end Uc
end Go.Lift
