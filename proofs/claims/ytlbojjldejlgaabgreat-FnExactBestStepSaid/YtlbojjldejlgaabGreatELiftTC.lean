/- Tools. -/
import Derived.Test.YtlbojjldejlgaabGreatELiftSort
set_option linter.unusedVariables false
namespace Go.Lift
open Go
def Map.sub(a:Map)(k:Nat)(N:Nat->Prop):Map:=⟨a.f,λid b=>a.n id b/\(id=k->N b)⟩
variable {G:eS}{k n b m gen m1 i p:Nat}{K:Ctx}{β:Map}{s:S}{a:Act}{w:World}{t:List dG}{X:Nat->Prop}{g:FuncId}{u:Nat->Bool}
theorem wP{G:Map}{N:Nat->Prop}(h:At (G.sub k N) n b):At G n b:=by
 rcases h with h|h
 ·exact .inl h
 exact .inr h.1
theorem Rel.sub(h:Rel K β s a w)(k:Nat)(N:Nat->Prop)(e':E)(r:s.H k≠none)
  (z:cy (β.sub k N) w (own K (β.sub k N) (aQ s.H k (some e'))) k e'):Rel K (β.sub k N) {s with H:=aQ s.H k (some e')} a w:=by
 have d: ∀b,own K (β.sub k N) (aQ s.H k (some e')) b->own K β s.H b:=by
  rintro b (c|⟨id,l,n⟩)
  ·exact .inl c
  refine .inr ⟨id,λo=>?_,wP n⟩;by_cases m:id=k
  ·subst m;exact r o
  rw[bR _ _ _ _ m] at l;exact l o
 have x:de β (β.sub k N):=λ_ _ _ c=> .inl c;refine {h with base:=λid hid=>h.base id hid,dB:=λid hid=>h.dB id hid,dX:=λid b hid p=>h.dX id b hid p.1,inj:=λid q b l n=>h.inj id q b (wP l) (wP n),fresh:=λid b p=>h.fresh id b (wP p),heap:= ?_,cU:=λi=>(h.cU i).mono (Ext.refl _ _) (λb _=>d b) x (Shaped.refl _ _)};intro id e c;have c:aQ s.H k (some e') id=some e:=c;by_cases m:id=k
 ·subst m;rw[bQ] at c;cases c;cases y:s.H id with
  |none=>exact bt y r
  |some o=>exact⟨(h.heap id o y).1,z⟩
 rw[bR _ _ _ _ m] at c;obtain⟨l,n⟩:=h.heap id e c;exact⟨l,n.mono (Ext.refl _ _) (λb _=>d b) x (λ_ h=>h) (Shaped.refl _ _) (λ_ _=>rfl) λb=>⟨λh=>h.1,λh=>⟨h,λe=>bt e m⟩⟩⟩
theorem Rel.pick(h:Rel K β s a w)(k:Nat){r:List dG}{l:List (List T)}(hk:s.H k=some (.a6 r m gen l []))(eG:(U r m).size=1)(lk:(U r m).ej 0=some m1)
   {t:Array Value} (hq:β k=some (some b,gen)) (aV:w.heap[b]? =some (.cells t (U r m).ty (0,0)))
  {w':World} {A:Array Value} (hs:A.size=t.size) (F:w'.heap[b]? =some (.cells A (U r m).ty (0,0))) (v:Ext (λx=>x=b) w w') (d:List (List T)) (b9:d.length<=t.size) (G:Nat->Option Nat)
  (W: ∀i p,G i=some p->i<d.length/\p<l.length/\A[i]? =t[p]? /\d[i]? =l[p]?) (afw: ∀i I p,G i=some p->G I=some p->i=I) (C: ∀i,i<d.length->G i=none->A[i]? =some (.slice none 0 0)/\d[i]? =some [.ay []]):
  ∃β',(∀id,β' id=β id)/\Rel K β' {s with H:=aQ s.H k (some (.a6 r m gen d []))} a w':=by
 have M:s.H k≠none:=by rw[hk];simp
 obtain⟨ig,hd⟩:=(h.heap k _ hk).2;obtain⟨B,hlen,N,L,V,aeQ,P4⟩: ∃B:Nat->Nat->Nat->Prop,l.length*(U r m).size<=t.size/\(∀o,o∈l->o.length=(U r m).size)/\
   (∀(i j:Nat) (o:List T) (x:T) (u:Value),l[i]? =some o->o[j]? =some x->t[i*(U r m).size+j]? =some u->Cell r m [] β w (own K β s.H) i j x u (B i j))/\
   (∀i j c,B i j c->i<l.length/\j<(U r m).size/\c≠b)/\(∀i j I cR c,B i j c->B I cR c->i=I/\j=cR)/\ ∀c,β.n k c↔ ∃i j,B i j c:=by
  rcases hd with ⟨y,_⟩|⟨cd,qF,B,y,Q,g,h4,h5,h6,lg,kC⟩
  ·rw[hq] at y;cases y
  rw[hq] at y;cases y;rw[aV] at Q;cases Q;exact⟨B,g,h4,h5,h6,lg,kC⟩
 rw[eG] at hlen N L V;have Y:own K β s.H b:= .inr ⟨k,M,.inl ⟨_,hq⟩⟩;have Qd:b<w.heap.size:=(iP.1 aV).1
 -- the block told anew, its rows not told
 have lh:=h.setRow k b (.inl ⟨_,hq⟩) t (U r m).ty aV A hs (.arr (U r m).ty gen 1 []) M ⟨ig,.inr ⟨b,A,hq,setRow_heap _ _ _ _ _ _ aV,a1,a1,λi j o x u y=>by simp at y⟩⟩;have di:Rel K β {s with H:=aQ s.H k (some (.arr (U r m).ty gen 1 []))} a w':=by
  refine lh.grow ⟨v.os,v.tape,v.output,?_,λx hx _=>?_⟩
  ·have:=v.size;simpa using this
  by_cases e:x=b
  ·subst e;rw[F,setRow_heap _ _ _ _ _ _ aV]
  rw[setRow_other _ _ _ _ e];exact v.keep x (by simpa using hx) e
 refine⟨β.sub k λc=> ∃i p,G i=some p/\B p 0 c,λ_=>rfl,?_⟩;have hC:=di.sub k (λc=> ∃i p,G i=some p/\B p 0 c) (.a6 r m gen d []) (by show aQ s.H k _ k≠none;rw[bQ];simp) ?_
 ·have e:aQ (aQ s.H k (some (E.arr (U r m).ty gen 1 []))) k (some (.a6 r m gen d []))=aQ s.H k (some (.a6 r m gen d [])):=by
   funext i;by_cases D:i=k
   ·subst D;rw[bQ,bQ]
   rw[bR _ _ _ _ D,bR _ _ _ _ D,bR _ _ _ _ D]
  have P5:Rel K _ {s with H:=aQ (aQ s.H k (some (E.arr (U r m).ty gen 1 []))) k (some (.a6 r m gen d []))} a w':=hC;rw[e] at P5;exact P5
 have gb: ∀x,own K (β.sub k λc=> ∃i p,G i=some p/\B p 0 c) (aQ (aQ s.H k (some (E.arr (U r m).ty gen 1 []))) k (some (.a6 r m gen d []))) x->own K β s.H x:=by
  rintro x (hx|⟨id,y,Q⟩)
  ·exact .inl hx
  refine .inr ⟨id,λe0=>?_,wP Q⟩;by_cases D:id=k
  ·subst D;exact M e0
  rw[bR _ _ _ _ D,bR _ _ _ _ D] at y;exact y e0
 have aeT:Ext (own K β s.H) w w':=v.weaken λx _ e=>by rw[show x=b from e];exact Y
 refine⟨ig,.inr ⟨b,A,λi j c=>j=0/\ ∃p,G i=some p/\B p 0 c,hq,F,by rw[eG];omega,λo qa=>?_,λi j o x u y Q g=>?_,λi j c bB=>?_,λi j I cR c bB Ig=>?_,λc=>?_⟩⟩
 ·obtain⟨i,D⟩:=iQ.1 qa;have X:=(bM.1 D).1;rw[eG];cases q:G i with
  |none=>rw[(C i X q).2] at D;cases D;rfl
  |some p=>rw[(W i p q).2.2.2] at D;exact N o (bC D)
 ·have X:=(bM.1 y).1;rw[eG] at g;have hj0:j=0:=by
   have hjl:=(bM.1 Q).1;cases q:G i with
   |none=>rw[(C i X q).2] at y;cases y;simpa using hjl
   |some p=>rw[(W i p q).2.2.2] at y;have:=N o (bC y);omega
  subst hj0;rw[show i*1+0=i by omega] at g;refine Cell.of ?_;cases q:G i with
  |none=>
   obtain⟨aH,a2⟩:=C i X q;rw[a2] at y;cases y;rw[aH] at g;cases g;simp only[List.getElem?_cons_zero,Option.some.injEq] at Q;subst Q;rw[lk];exact .nil m1 _ (λc bB=>by obtain⟨_,p,R,_⟩:=bB;rw[q] at R;cases R)
  |some p=>
   obtain⟨a0,aH,a2,a3⟩:=W i p q;rw[a3] at y;rw[a2] at g;have bB:=(L p 0 o x u y Q (by rw[show p*1+0=p by omega];exact g)).none;have Ig:=bB.mono aeT (λx _=>gb x) λc oM=>v.keep c (h.fresh k c (.inr ((P4 c).2 ⟨p,0,oM⟩))).2 (V p 0 c oM).2.2;exact Ig.iff λc=>⟨λ⟨_,QW,f,F⟩=>by rw[q] at f;cases f;exact F,λF=>⟨rfl,p,q,F⟩⟩
 ·obtain⟨rfl,p,R,z⟩:=bB;rw[eG];exact⟨(W i p R).1,O,(V p 0 c z).2.2⟩
 ·obtain⟨rfl,p,R,z⟩:=bB;obtain⟨rfl,QW,f,ae7⟩:=Ig
  have:=(aeQ p 0 QW 0 c z ae7).1;subst this;exact⟨afw i I p R f,rfl⟩
 constructor
 ·rintro⟨_,Q⟩;obtain⟨i,p,R,z⟩:=Q rfl;exact⟨i,0,rfl,p,R,z⟩
 rintro⟨i,j,rfl,p,R,z⟩;exact⟨(P4 c).2 ⟨p,0,z⟩,λ_=>⟨i,p,R,z⟩⟩
open Go.Proofs
theorem Z3{R:Type}{l l':List R}(h:l.Perm l'): ∃d:Nat->Nat,(∀i,i<l'.length->d i<l.length/\l'[i]? =l[d i]?)/\ ∀i j,i<l'.length->j<l'.length->d i=d j->i=j:=by
 induction h with
 |nil=>exact⟨id,λi c=>bt c (qI _),λi j c=>bt c (qI _)⟩
 |cons a _ s=>
  obtain⟨d,m,n⟩:=s;refine⟨λi=>match i with|0=>0|i+1=>d i+1,λi c=>?_,λi j c k e=>?_⟩
  ·match i with
   |0=>exact⟨a1,rfl⟩
   |i+1=>
    obtain⟨aH,a2⟩:=m i (by simpa using c);exact⟨by simpa using aH,by simpa using a2⟩
  match i,j with
  |0,0=>rfl
  |0,j+1=>simp at e
  |i+1,0=>simp at e
  |i+1,j+1=>simp at e;rw[n i j (by simpa using c) (by simpa using k) e]
 |swap a b l=>
  refine⟨λi=>match i with|0=>1|1=>0|i+2=>i+2,λi c=>?_,λi j c k e=>?_⟩
  ·match i with
   |0=>exact⟨a1,rfl⟩
   |1=>exact⟨a1,rfl⟩
   |i+2=>exact⟨by simpa using c,a1⟩
  match i,j with
  |0,0=>rfl
  |0,1=>simp at e
  |0,j+2=>simp at e
  |1,0=>simp at e
  |1,1=>rfl
  |1,j+2=>simp at e
  |i+2,0=>simp at e
  |i+2,1=>simp at e
  |i+2,j+2=>simpa using e
 |trans _ _ o p=>
  obtain⟨d,m,n⟩:=o;obtain⟨r,q,w⟩:=p;refine⟨λi=>d (r i),λi c=>?_,λi j c k e=>?_⟩
  ·obtain⟨aH,a2⟩:=q i c;obtain⟨a3,a4⟩:=m (r i) aH;exact⟨a3,a2.trans a4⟩
  exact w i j c k (n _ _ (q i c).1 (q j k).1 e)
theorem M4{G:Map}{sz:Nat}{a:List (List T)}{x:Value}(C:cy G w X k (.a6 t m gen a []))(F:(U t m).size=sz)(H:bh G w X (.a7 k gen sz 0 a.length) x):
  (x= .slice none 0 0/\a=[]/\G k=some (none,gen))\/ ∃(b d:Nat) (e:Array Value) (B:Nat->Nat->Nat->Prop),x= .slice (some ⟨b,0,none⟩) a.length d/\G k=some (some b,gen)/\w.heap[b]? =some (.cells e (U t m).ty (0,0))/\e.size=d*sz/\a.length<=d/\d<=maxLen/\
   (∀(i j:Nat) (l:List T) (y:T) (u:Value),a[i]? =some l->l[j]? =some y->e[i*sz+j]? =some u->gl t w X ((U t m).ej j) y u (B i j))/\ ∀i j c,B i j c->c≠b:=by
 obtain⟨q,o⟩:=s0 C;rcases eT H o with ⟨d,b,n,K,rfl,rfl,E,h,r,L,s⟩|⟨rfl,_,z,rfl⟩
 ·rcases C.2 with ⟨p,_⟩|⟨I,e,B,p,D,M,N,Q,R,_⟩
  ·rw[o] at p;cases p
  rw[o] at p;cases p;have A:e.size=d*sz:=by
   unfold World.shape? at h;rw[D] at h;simp at h;rw[<-r] at h;rw[dn] at h;exact h.2
  refine .inr ⟨b,d,e,B,by rw[fT],o,D,A,L,s,λi j l y u W f g=>(Q i j l y u W f (by rw[F];exact g)).none,λi j c v=>(R i j c v).2.2⟩
 exact .inl ⟨rfl,km z,o⟩
section CW
open Go.Shelf Go.RowKit Go.Lib Go.Sort
variable {P:Program}{ρ:Ren}
theorem aah(L:SlLaysF.n6 P ρ)(raw:sZ P g)(HM: ∀args w,(callFunc g args).run P w= .ok (.enter g args) w)(call:d7 P (ρ.f 6)){q:List dG}{s:Nat}(eG:(U q m).size=1)(lk:(U q m).ej 0=some m1)
  (rows:List (List Int)) (cu:rows.length<=1000000000) (b9: ∀l∈rows,l.length<=1000000000):
  iA P G (ρ.f 6) [.a6 q m s (rows.map (aS ab)) []] [ms 0 s 1 (aS ab) rows,.fn g []] (.bJ []) [.a6 q m s ((e4 rows).map (aS ab)) []]:=by
 refine⟨call,?_⟩;intro w X z us jD gb kb fP;have rW:us.length=2:=fP.length;obtain⟨hz,gK,rfl⟩: ∃a b,us=[a,b]:=by
  match us,rW with
  | [a,b],_=>exact⟨a,b,rfl⟩
 have h0:=Rel.lA (P:=P) (nt:=2) jD gb kb fP (cD _);obtain⟨r6,r7,_⟩:=fP;obtain rfl:gK= .func (.func g) #[] #[]:=by
  cases r7 with
  |fn _ _ us hs _=>
   have:us= #[]:=Jy hs;rw[this]
 generalize Ia:({tmps:=[hz,Value.func (.func g) #[] #[]].toArray++Array.replicate (2-[hz,Value.func (.func g) #[] #[]].toArray.size) undef,defers:=[]}:Act)=act at h0;generalize j8:Ctx.dy P G w X [E.a6 q m s (rows.map (aS ab)) []].length z 2=K at h0;have rT:K.X=X:=by rw[<-j8];rfl
 generalize kD:Lift.lA [E.a6 q m s (rows.map (aS ab)) []] [ms 0 s 1 (aS ab) rows,.fn g []]=Q at h0;have R:Q.H 0=some (.a6 q m s (rows.map (aS ab)) []):=by rw[<-kD];rfl
 have xr:Q.H=eJ [E.a6 q m s (rows.map (aS ab)) []] 0:=by rw[<-kD];rfl
 have Ix:own K z Q.H=lu X z (eJ [E.a6 q m s (rows.map (aS ab)) []] 0):=by funext b;rw[xr];show(K.X b\/_)=_;rw[rT];rfl
 rw[<-Ix] at r6;have rS:aQ Q.H 0 (some (E.a6 q m s ((e4 rows).map (aS ab)) []))=eJ [E.a6 q m s ((e4 rows).map (aS ab)) []] 0:=by
  rw[xr];funext j
  match j with
  |0=>rfl
  |j+1=>rfl
 have fin: ∀(W:Map) (w':World),Rel K W {Q with H:=aQ Q.H 0 (some (.a6 q m s ((e4 rows).map (aS ab)) []))} act w'->
   ∃u,∃_i:Unit,∃β,Ending.returned (.tuple #[])= .returned u/\True/\Left z β [E.a6 q m s (rows.map (aS ab)) []] [E.a6 q m s ((e4 rows).map (aS ab)) []] w w' X (.bJ []) u:=by
  intro W w' bO;subst j8;obtain⟨β,r9⟩:=De (out:=[E.a6 q m s ((e4 rows).map (aS ab)) []]) bO (cD _) (.bJ [] #[] rfl λi c u bB _=>by simp at bB) rfl (by
   intro id e0 I;refine⟨⟨e0,?_,iU.refl _⟩,?_⟩
   ·show aQ Q.H 0 _ id=_;rw[rS];exact I
   match id with
   |0=>cases I;exact⟨rfl,rfl⟩
   |k+1=>cases I)
  exact⟨_,(),β,rfl,trivial,r9⟩
 have uj:Q.H 0≠none:=by rw[R];simp
 have oA:=M4 (sz:=1) (h0.heap 0 _ R).2 eG r6;rcases oA with ⟨rfl,h1,hq⟩|⟨b,cap,o,B,rfl,hq,C,kE,oP,BJ,bO,HZ⟩
 ·have oR:rows=[]:=by simpa using h1
  subst oR;refine(AnyF.slices_SortFunc_none (P:=P) (ρ:=ρ) {L with} none 0 _ w).mono ?_;rintro e1 fg ⟨rfl,rfl⟩;refine fin z _ ?_
  have:=h0.ym 0 _ R;rw[show e4 []=[] by simp[e4]];exact this
 have ur:own K z Q.H b:= .inr ⟨0,uj,.inl ⟨_,hq⟩⟩;rw[dj] at oP;have hlen:rows.length<=o.size:=O
 have ll: ∀(j:Nat) (M:j<rows.length),cL w (λx=>x=b) (.ay (rows[j].map hP)) (o[j]' O):=λj M=>by
  have r2:=bO j 0 (aS ab rows[j]) (.ay (rows[j].map hP)) _ (by rw[er,bg M];rfl) rfl (by rw[show j*1+0=j by omega];exact gY O);exact r2.yn (λx hx=>by rw[show x=b from hx];exact ur) λc bB e=>HZ j 0 c bB e
 obtain⟨F,rQ,rR⟩: ∃F:Fin rows.length->dF w λx=>x=b,(∀j,(F j).enc=o[j.1]'(by have:=j.2;omega))/\ ∀j,(F j).b2=rows[j.1]:=
  ⟨λj=>⟨(o[j.1]'(by have:=j.2;omega),rows[j.1]),ll j.1 j.2,b9 _ (ft j.2)⟩,λ_=>rfl,λ_=>rfl⟩
 obtain⟨d,cn⟩: ∃d:Array (dF w λx=>x=b),d=Array.ofFn F:=⟨_,rfl⟩
 have D:d.size=rows.length:=by rw[cn];exact Array.size_ofFn
 have t: ∀(j:Nat) (M:j<d.size),d[j].enc=o[j]' O/\d[j].b2=rows[j]' O:=λj M=>by
  subst cn;rw[Array.getElem_ofFn];exact⟨rQ _,rR _⟩
 have mQ:(d.map dF.b2).toList=rows:=by
  refine List.ext_getElem (by simp[D]) λj h1 h2=>?_;rw[Array.getElem_toList,Array.getElem_map];exact(t j O).2
 have hH:Holds dF.enc w b 0 d:=λj M=>by
  rw[dn,getElem!_pos d j M,(t j M).1];refine⟨?_,by simp[World.frozen?,C]⟩
  have:j<o.size:=O
  simp[World.cell?,C,this]
 have rU:CmpLays1 P g #[] dF.enc tI b 0 d.size w:=CmpReads.lays (λm os dk hs x y=>by
  have hE:=GB (w:=w) (X:=λx=>x=b) (b:=b) (m:=m) (dk:=dk) (os:=os) rfl;exact(OT raw (x.2.1.mono hE λ_ _ h=>h) (y.2.1.mono hE λ_ _ h=>h) x.2.2 y.2.2).mono (by
   rintro e1 fg ⟨rfl,rfl⟩;exact⟨rfl,0,rfl⟩))
 have run:=Any.slices_SortFunc L dF.enc dF.one tI O8 g #[] b 0 cap d w HM rU hH (iP.1 C).1 O;rw[D] at run;rw[dj];refine run.mono ?_;rintro e1 fg ⟨rfl,r,n,os,N,hs,kI⟩;rw[<-D] at N hs;have S:=L1 N hs;rw[mQ] at S;have v:r.size=d.size:=N.1;obtain⟨T,ags,agt⟩:=Z3 (l:=d.toList) (l':=r.toList) (by
  have h2:=N.2.2;have e1:r.extract 0 d.size=r:=by rw[<-v];simp
  have e2:d.extract 0 d.size=d:=a1
  rw[e1,e2] at h2;exact h2.symm)
 have V:(Sort.ahead w n).heap[b]? =some (.cells o (U q m).ty (0,0)):=C;have qa:sortWorld dF.enc w b 0 n r os=grow ((Sort.ahead w n).setRow b (putCells dF.enc 0 r o)) os:=by
  show grow (putRow dF.enc (Sort.ahead w n) b 0 r) os=_;congr 1;exact Kr V _
 have hCs:(putCells dF.enc 0 r o).size=o.size:=by simp[putCells]
 have ae6: ∀i,i<r.size->(putCells dF.enc 0 r o)[i]? =some (r[i]!).enc:=λi A=>by
  unfold putCells;rw[Array.getElem?_mapIdx,gY O];simp only[Option.map_some];rw[aW O,Nat.sub_zero]
 have aeZ:fg.heap[b]? =some (.cells (putCells dF.enc 0 r o) (U q m).ty (0,0)):=by
  rw[kI,qa];show(_++os)[b]? =_;have Ic:b<((Sort.ahead w n).setRow b (putCells dF.enc 0 r o)).heap.size:=(iP.1 (setRow_heap _ _ _ _ _ _ V)).1;rw[Array.getElem?_append_left Ic];exact setRow_heap _ _ _ _ _ _ V
 have aeS:Ext (λx=>x=b) w fg:=by rw[kI];exact GB rfl
 have afc:r.size=rows.length:=by rw[v,D]
 have Y:(e4 rows).length=rows.length:=by rw[<-S,ni,Array.size_map,afc]
 have afq: ∀i (A:i<rows.length),∃N:T i<rows.length,(putCells dF.enc 0 r o)[i]? =o[T i]? /\(e4 rows)[i]? =rows[T i]? :=λi A=>by
  obtain⟨aH,a2⟩:=ags i (by rw[ni];omega);rw[ni,D] at aH;rw[pg,pg,gY O,gY O] at a2;have a3:r[i]' O=d[T i]' O:=by simpa using a2
  refine⟨aH,?_,?_⟩
  ·rw[ae6 i O,getElem!_pos r i O,a3,(t (T i) O).1,gY O]
  rw[<-S,pg,Array.getElem?_map,gY O,Option.map_some,a3,(t (T i) O).2,bg aH]
 obtain⟨W,_,hR⟩:=h0.pick 0 R eG lk hq C hCs aeZ aeS ((e4 rows).map (aS ab)) (by rw[dj,Y];omega) (λi=>if i<rows.length then some (T i) else none) (λi p h=>by
   by_cases A:i<rows.length
   ·rw[aW A] at h;cases h;obtain⟨N,e1,e2⟩:=afq i A;exact⟨by rw[dj,Y];exact A,by rw[dj];exact N,e1,by rw[er,er,e2]⟩
   ·rw[aT A] at h;cases h) (λi ih p h h'=>by
   by_cases A:i<rows.length
   ·by_cases xw:ih<rows.length
    ·rw[aW A] at h;rw[aW xw] at h';exact agt i ih (by rw[ni];omega) (by rw[ni];omega) (Option.some.inj (h.trans h'.symm))
    rw[aT xw] at h';cases h'
   ·rw[aT A] at h;cases h) (λi A h=>by
   rw[dj,Y] at A;rw[aW A] at h;cases h)
 exact fin W _ hR
theorem Vw(L:SlLaysF.n6 P ρ)(b:sZ P g)(e: ∀args w,(callFunc g args).run P w= .ok (.enter g args) w)(a:d7 P (ρ.f 6))(k:(U t m).size=1)(c:(U t m).ej 0=some i){x r:List (List Int)}(h:l6 x=some r):
  iA P G (ρ.f 6) [.a6 t m n (x.map (aS ab)) []] [ms 0 n 1 (aS ab) x,.fn g []] (.bJ []) [.a6 t m n (r.map (aS ab)) []]:=by
 unfold l6 at h;split at h
 ·rename_i d;cases h;exact aah L b e a k c x d.1 d.2
 cases h
end CW
theorem u5(a:Nat->Bool)(m:Nat):dO a (m+1)=dO a m++(if a m then [m] else []):=by unfold dO;rw[nj,pk];congr 1;by_cases h:a m<;>simp[h]
theorem zl(h: ∀j,j<m->u j=true):dO u m=List.range m:=by unfold dO;exact List.filter_eq_self.2 λj a=>h j (n'.1 a)
structure JY (P:Program) (f g:FuncId):Prop where
 run: ∀(vs:Nat->Value) (b off n cap:Nat) (ty:TypeId) (cur:Array Value) (c7:Nat->Bool) (w:World) (bE:w.heap[b]? =some (.cells cur ty (0,0))) (cu:off+n<=cur.size) (bI: ∀j,j<n->cur[off+j]? =some (vs j)) (kF: ∀j,(vs j).oneCell'=true) (Ih:n<=cap) (hm:cap<=maxLen) (Ir:c7 0=true) (rU: ∀j W,0<j->j<n->w.heap.size<=W.heap.size->(∀k,k≠b->W.heap[k]? =w.heap[k]?)->Calls P g #[vs j,vs (j-1)] W λe fV=>e= .returned (.bool (!c7 j))/\ ∃q,fV=W.drewN q),Calls P f #[.slice (some ⟨b,off,none⟩) n cap,.func (.func g) #[] #[]] w λe w'=>e= .returned (.slice (some ⟨b,off,none⟩) (dO c7 n).length cap)/\Ext (λx=>x=b) w w'/\ ∃eP,w'.heap[b]? =some (.cells eP ty (0,0))/\eP.size=cur.size/\(∀i,i<(dO c7 n).length->eP[off+i]? =some (vs ((dO c7 n).getD i 0)))/\ ∀i,(dO c7 n).length<=i->i<n->eP[off+i]? =some (.slice none 0 0)
 o1: ∀(a:Option Addr) (c:Nat) (w:World),Calls P f #[.slice a 0 c,.func (.func g) #[] #[]] w λe w'=>e= .returned (.slice a 0 c)/\w'=w
structure D9 (P:Program) (g:FuncId):Prop where
 both: ∀(cS gU n c cd gG m d:Nat) (xs ys:List Int) (w:World),xs.length=n->ys.length=m->n<=9223372036854775807->m<=9223372036854775807->(∀j,j<xs.length->w.cell? ⟨cS,gU+j,none⟩=some (.int .i64 (xs.getD j 0)))->
  (∀j,j<ys.length->w.cell? ⟨cd,gG+j,none⟩=some (.int .i64 (ys.getD j 0)))->
  Calls P g #[.slice (some ⟨cS,gU,none⟩) n c,.slice (some ⟨cd,gG,none⟩) m d] w λe w'=>e= .returned (.bool (xs==ys))/\ ∃q,w'=w.drewN q
 lens: ∀(aH a2:Option Addr) (n c m d:Nat) (w:World),n≠m->Calls P g #[.slice aH n c,.slice a2 m d] w λe w'=>e= .returned (.bool false)/\w'=w
 o1: ∀(aH a2:Option Addr) (c m d:Nat) (w:World),m<=9223372036854775807->Calls P g #[.slice aH 0 c,.slice a2 m d] w λe w'=>e= .returned (.bool (decide (m=0)))/\w'=w
theorem aef{P:Program}(h:D9 P g){w0:World}(A: ∀a v,w0.cell? a=some v->w.cell? a=some v){d l:List Int}{u z:Value}(F:cL w0 X (.ay (d.map hP)) u)(B:cL w0 X (.ay (l.map hP)) z)(K:d.length<=1000000000)(L:l.length<=1000000000):
  Calls P g #[u,z] w λe i=>e= .returned (.bool (d==l))/\ ∃q,i=w.drewN q:=by
 have m: ∀{e:Ending} {i:World} {c:Bool},e= .returned (.bool c)/\i=w->(d==l)=c->e= .returned (.bool (d==l))/\ ∃q,i=w.drewN q:=by
  rintro e i c ⟨rfl,rfl⟩ rfl;exact⟨rfl,0,rfl⟩
 rcases wz F with ⟨rfl,a,c,rfl⟩|⟨b,o,c,G,rfl,H⟩
 ·rcases wz B with ⟨rfl,n,k,rfl⟩|⟨p,r,k,C,rfl,D⟩
  ·exact(h.o1 a n c 0 k w O).mono λe i q=>m q a1
  refine(h.o1 a (some ⟨p,r,none⟩) c l.length k w O).mono λe i q=>m q ?_;cases l with
  |nil=>simp at C
  |cons y l=>simp
 rcases wz B with ⟨rfl,n,k,rfl⟩|⟨p,r,k,C,rfl,D⟩
 ·refine(h.lens (some ⟨b,o,none⟩) n d.length c 0 k w O).mono λe i q=>m q ?_;cases d with
  |nil=>simp at G
  |cons x d=>simp
 exact h.both b o d.length c p r l.length k d l w rfl rfl O O (λj s=>A _ _ (H j s)) λj s=>A _ _ (D j s)
theorem ZO(h:(dO u m)[i]? =some p):p<m:=by have:=bC h;unfold dO at this;exact n'.1 (List.mem_filter.1 this).1
theorem Yo(a:Nat->Bool)(m:Nat):(dO a m).length<=m:=by unfold dO;exact fF (sH _ _) a1
theorem Yp{ih:Nat}(h:(dO u m)[i]? =some p)(a:(dO u m)[ih]? =some p):i=ih:=by
 have b:(dO u m).Nodup:=by unfold dO;exact List.nodup_range.filter _
 exact(List.getElem?_inj (bM.1 h).1 b).1 (h.trans a.symm)
section aey
variable {P:Program}
theorem V1{f:FuncId}(t:JY P f g)(ahF:D9 P g)(I:d7 P f){n:List dG}{gs:Nat}(eG:(U n m).size=1)(lk:(U n m).ej 0=some m1)
  (d:List (List Int)) (b9: ∀l∈d,l.length<=1000000000):
  iA P G f [.a6 n m gs (d.map (aS ab)) []] [ms 0 gs 1 (aS ab) d,.fn g []] (ms 0 gs 1 (aS ab) (gp d)) [.a6 n m gs ((gp d).map (aS ab)) []]:=by
 refine⟨I,?_⟩;intro w X r M jD gb kb fP;have rW:M.length=2:=fP.length;obtain⟨hz,gK,rfl⟩: ∃a b,M=[a,b]:=by
  match M,rW with
  | [a,b],_=>exact⟨a,b,rfl⟩
 have D:=Rel.lA (P:=P) (nt:=2) jD gb kb fP (cD _);obtain⟨N,r7,_⟩:=fP;obtain rfl:gK= .func (.func g) #[] #[]:=by
  cases r7 with
  |fn _ _ M hs _=>
   have:M= #[]:=Jy hs;rw[this]
 generalize Ia:({tmps:=[hz,Value.func (.func g) #[] #[]].toArray++Array.replicate (2-[hz,Value.func (.func g) #[] #[]].toArray.size) undef,defers:=[]}:Act)=act at D;generalize j8:Ctx.dy P G w X [E.a6 n m gs (d.map (aS ab)) []].length r 2=K at D;have rT:K.X=X:=by rw[<-j8];rfl
 generalize kD:Lift.lA [E.a6 n m gs (d.map (aS ab)) []] [ms 0 gs 1 (aS ab) d,.fn g []]=z at D;have A:z.H 0=some (.a6 n m gs (d.map (aS ab)) []):=by rw[<-kD];rfl
 have S:z.H=eJ [E.a6 n m gs (d.map (aS ab)) []] 0:=by rw[<-kD];rfl
 have T:own K r z.H=lu X r (eJ [E.a6 n m gs (d.map (aS ab)) []] 0):=by funext b;rw[S];show(K.X b\/_)=_;rw[rT];rfl
 rw[<-T] at N;have rS:aQ z.H 0 (some (E.a6 n m gs ((gp d).map (aS ab)) []))=eJ [E.a6 n m gs ((gp d).map (aS ab)) []] 0:=by
  rw[S];funext j
  match j with
  |0=>rfl
  |j+1=>rfl
 have Y: ∀(o:Map) (w':World) (v:Value),Rel K o {z with H:=aQ z.H 0 (some (.a6 n m gs ((gp d).map (aS ab)) []))} act w'->bh o w' (own K o (aQ z.H 0 (some (.a6 n m gs ((gp d).map (aS ab)) [])))) (ms 0 gs 1 (aS ab) (gp d)) v->
   ∃u,∃_i:Unit,∃β,Ending.returned v= .returned u/\True/\Left r β [E.a6 n m gs (d.map (aS ab)) []] [E.a6 n m gs ((gp d).map (aS ab)) []] w w' X (ms 0 gs 1 (aS ab) (gp d)) u:=by
  intro o w' v bO F;subst j8;obtain⟨β,r9⟩:=De (out:=[E.a6 n m gs ((gp d).map (aS ab)) []]) bO (cD _) F rfl (by
   intro id e0 L;refine⟨⟨e0,?_,iU.refl _⟩,?_⟩
   ·show aQ z.H 0 _ id=_;rw[rS];exact L
   match id with
   |0=>cases L;exact⟨rfl,rfl⟩
   |k+1=>cases L)
  exact⟨_,(),β,rfl,trivial,r9⟩
 have uj:z.H 0≠none:=by rw[A];simp
 have ig:1<=gs:=(D.heap 0 _ A).2.1;have oA:=M4 (sz:=1) (D.heap 0 _ A).2 eG N;rcases oA with ⟨rfl,h1,C⟩|⟨b,cap,s,B,rfl,C,oN,kE,oP,BJ,bO,HZ⟩
 ·have oR:d=[]:=by simpa using h1
  subst oR;refine(t.o1 none 0 w).mono ?_;rintro e1 fg ⟨rfl,rfl⟩;have e0:gp []=[]:=rfl;refine Y r _ _ ?_ ?_
  ·have:=D.ym 0 _ A;rw[e0];exact this
  rw[e0];exact .gT 0 gs 1 ig C
 have ur:own K r z.H b:= .inr ⟨0,uj,.inl ⟨_,C⟩⟩;rw[dj] at oP;have hlen:d.length<=s.size:=O
 have Q: ∀(j:Nat) (q:j<d.length),cL w (λx=>x=b) (.ay (d[j].map hP)) (s[j]' O):=λj q=>by
  have r2:=bO j 0 (aS ab d[j]) (.ay (d[j].map hP)) _ (by rw[er,bg q];rfl) rfl (by rw[show j*1+0=j by omega];exact gY O);exact r2.yn (λx hx=>by rw[show x=b from hx];exact ur) λc bB e=>HZ j 0 c bB e
 obtain⟨vs,uz⟩: ∃vs:Nat->Value,vs=λj=>if j<d.length then s.getD j undef else .slice none 0 0:=⟨_,rfl⟩
 have F: ∀j (q:j<d.length),vs j=s[j]' O:=λj q=>by
  rw[uz];show(if j<d.length then _ else _)=_;rw[aW q];simp[show j<s.size by omega]
 have kF: ∀j,(vs j).oneCell'=true:=λj=>by
  by_cases q:j<d.length
  ·rw[F j q];exact(Q j q).im
  rw[uz];show(if j<d.length then _ else _:Value).oneCell'=true;rw[aT q];rfl
 have run:=t.run vs b 0 d.length cap (U n m).ty s (kz d) w oN O (λj q=>by rw[dn,F j q];exact gY O) kF oP BJ (by simp[kz]) (λj W hj0 q kH lj=>by
  have hE:Ext (λx=>x=b) w {w with heap:=W.heap}:=⟨rfl,rfl,rfl,kH,λk _ hk=>lj k hk⟩
  have e:=aef ahF (w0:={w with heap:=W.heap}) (w:=W) (λ_ _ h=>h) ((Q j q).mono hE λ_ _ h=>h) ((Q (j-1) O).mono hE λ_ _ h=>h) (b9 _ (ft _)) (b9 _ (ft _));rw[F j q,F (j-1) O];have hk:(d[j]==d[j-1]' O)= !kz d j:=by
   have g1:d.getD j []=d[j]:=by rw[ek,bg q];rfl
   have g2:d.getD (j-1) []=d[j-1]' O:=by rw[ek,bg O];rfl
   unfold kz;rw[g1,g2]
   have:j≠0:=O
   by_cases C:d[j]=d[j-1]' O
   ·simp[this,C]
   simp[this,C]
  rw[hk] at e;exact e)
 rw[dj];refine run.mono ?_;rintro e1 fg ⟨rfl,hE,eP,R,hs',rX,ail⟩;have y:(gp d).length=(dO (kz d) d.length).length:=by unfold gp;rw[dj]
 have aim:=Yo (kz d) d.length;obtain⟨o,agr,hR⟩:=D.pick 0 A eG lk C oN hs' R hE ((gp d).map (aS ab)) (by rw[dj,y];omega) (λi=>(dO (kz d) d.length)[i]?) (λi p h=>by
   have aD:=(bM.1 h).1;have hp:=ZO h;have h1:=rX i aD;rw[dn,ek,h,Option.getD_some,F p hp] at h1;refine⟨by rw[dj,y];exact aD,by rw[dj];exact hp,?_,?_⟩
   ·rw[h1,gY O]
   ·unfold gp;rw[er,er,er,h,bg hp];show some (aS ab (d.getD p []))=some (aS ab d[p]);rw[ek,bg hp];rfl) (λi ih p h h'=>Yp h h') (λi aD h=>by
   rw[dj,y] at aD;rw[bg aD] at h;cases h)
 refine Y o _ _ hR ?_;have j':b<fg.heap.size:=(iP.1 R).1
 have:=bh.a7 (β:=o) (w:=fg) (X:=own K o (aQ z.H 0 (some (.a6 n m gs ((gp d).map (aS ab)) [])))) 0 gs 1 0 (gp d).length cap b eP.size (U n m).ty ig (by rw[agr];exact C) j' (by unfold World.shape?;rw[R]) O (by rw[y];omega) BJ;rw[y,fT] at this;rw[show ms 0 gs 1 (aS ab) (gp d)=V.a7 0 gs 1 0 (dO (kz d) d.length).length by rw[<-y,show(gp d).length=(List.map (aS ab) (gp d)).length by rw[dj]]];exact this
end aey
end Go.Lift
