/- Tools. -/
import Derived.Test.YtlbojjldejlgaaaGreatXLiftSort
set_option linter.unusedVariables false
namespace Go.Lift
open Go
def Map.sub(a:Map)(k:Nat)(N:Nat->Prop):Map:=⟨a.f,λid b=>a.n id b/\(id=k->N b)⟩
variable {W β:Map}{k i b m gen m1 p:Nat}{K:Ctx}{s:S}{a:Act}{w:World}{g:FuncId}{X:Nat->Prop}{t:List de}{G:ee}{u:Nat->Bool}
theorem rA{N:Nat->Prop}(h:At (W.sub k N) i b):At W i b:=by
 rcases h with h|h
 ·exact .inl h
 exact .inr h.1
theorem Rel.sub(h:Rel K β s a w)(k:Nat)(N:Nat->Prop)(e':E)(r:s.H k≠none)
  (y:b4 (β.sub k N) w (own K (β.sub k N) (aE s.H k (some e'))) k e'):Rel K (β.sub k N) {s with H:=aE s.H k (some e')} a w:=by
 have d: ∀b,own K (β.sub k N) (aE s.H k (some e')) b->own K β s.H b:=by
  rintro b (c|⟨id,l,n⟩)
  ·exact .inl c
  refine .inr ⟨id,λo=>?_,rA n⟩;by_cases m:id=k
  ·subst m;exact r o
  rw[bu _ _ _ _ m] at l;exact l o
 have v:cJ β (β.sub k N):=λ_ _ _ c=> .inl c;refine {h with base:=λid hid=>h.base id hid,cU:=λid hid=>h.cU id hid,dt:=λid b hid p=>h.dt id b hid p.1,inj:=λid q b l n=>h.inj id q b (rA l) (rA n),fresh:=λid b p=>h.fresh id b (rA p),heap:= ?_,ct:=λi=>(h.ct i).mono (Ext.refl _ _) (λb _=>d b) v (Shaped.refl _ _)};intro id e c;have c:aE s.H k (some e') id=some e:=c;by_cases m:id=k
 ·subst m;rw[bs] at c;cases c;cases x:s.H id with
  |none=>exact a6 x r
  |some o=>exact⟨(h.heap id o x).1,y⟩
 rw[bu _ _ _ _ m] at c;obtain⟨l,n⟩:=h.heap id e c;exact⟨l,n.mono (Ext.refl _ _) (λb _=>d b) v (λ_ h=>h) (Shaped.refl _ _) (λ_ _=>rfl) λb=>⟨λh=>h.1,λh=>⟨h,λe=>a6 e m⟩⟩⟩
theorem Rel.pick(h:Rel K β s a w)(k:Nat){r:List de}{l:List (List T)}(hk:s.H k=some (.aw r m gen l []))(da:(Y r m).size=1)(jf:(Y r m).du 0=some m1)
   {g:Array Value} (cH:β k=some (some b,gen)) (aR:w.heap[b]? =some (.cells g (Y r m).ty (0,0)))
  {w':World} {z:Array Value} (hs:z.size=g.size) (D:w'.heap[b]? =some (.cells z (Y r m).ty (0,0))) (t:Ext (λx=>x=b) w w') (d:List (List T)) (cc:d.length<=g.size) (F:Nat->Option Nat)
  (R: ∀i p,F i=some p->i<d.length/\p<l.length/\z[i]? =g[p]? /\d[i]? =l[p]?) (Us: ∀i I p,F i=some p->F I=some p->i=I) (A: ∀i,i<d.length->F i=none->z[i]? =some (.slice none 0 0)/\d[i]? =some [.aa []]):
  ∃β',(∀id,β' id=β id)/\Rel K β' {s with H:=aE s.H k (some (.aw r m gen d []))} a w':=by
 have M:s.H k≠none:=by rw[hk];simp
 obtain⟨hd,fL⟩:=(h.heap k _ hk).2;obtain⟨B,hlen,N,G,U,TX,GI⟩: ∃B:Nat->Nat->Nat->Prop,l.length*(Y r m).size<=g.size/\(∀o,o∈l->o.length=(Y r m).size)/\
   (∀(i j:Nat) (o:List T) (x:T) (u:Value),l[i]? =some o->o[j]? =some x->g[i*(Y r m).size+j]? =some u->Cell r m [] β w (own K β s.H) i j x u (B i j))/\
   (∀i j c,B i j c->i<l.length/\j<(Y r m).size/\c≠b)/\(∀i j I cn c,B i j c->B I cn c->i=I/\j=cn)/\ ∀c,β.n k c↔ ∃i j,B i j c:=by
  rcases fL with ⟨v,_⟩|⟨b0,nA,B,v,L,f,h4,h5,h6,ig,hN⟩
  ·rw[cH] at v;cases v
  rw[cH] at v;cases v;rw[aR] at L;cases L;exact⟨B,f,h4,h5,h6,ig,hN⟩
 rw[da] at hlen N G U;have V:own K β s.H b:= .inr ⟨k,M,.inl ⟨_,cH⟩⟩;have T':b<w.heap.size:=(gn.1 aR).1
 -- the block told anew, its rows not told
 have mO:=h.setRow k b (.inl ⟨_,cH⟩) g (Y r m).ty aR z hs (.arr (Y r m).ty gen 1 []) M ⟨hd,.inr ⟨b,z,cH,setRow_heap _ _ _ _ _ _ aR,aY,aY,λi j o x u v=>by simp at v⟩⟩;have fv:Rel K β {s with H:=aE s.H k (some (.arr (Y r m).ty gen 1 []))} a w':=by
  refine mO.grow ⟨t.os,t.tape,t.output,?_,λx hx _=>?_⟩
  ·have:=t.size;simpa using this
  by_cases e:x=b
  ·subst e;rw[D,setRow_heap _ _ _ _ _ _ aR]
  rw[setRow_other _ _ _ _ e];exact t.keep x (by simpa using hx) e
 refine⟨β.sub k λc=> ∃i p,F i=some p/\B p 0 c,λ_=>rfl,?_⟩;have hC:=fv.sub k (λc=> ∃i p,F i=some p/\B p 0 c) (.aw r m gen d []) (by show aE s.H k _ k≠none;rw[bs];simp) ?_
 ·have e:aE (aE s.H k (some (E.arr (Y r m).ty gen 1 []))) k (some (.aw r m gen d []))=aE s.H k (some (.aw r m gen d [])):=by
   funext i;by_cases C:i=k
   ·subst C;rw[bs,bs]
   rw[bu _ _ _ _ C,bu _ _ _ _ C,bu _ _ _ _ C]
  have GJ:Rel K _ {s with H:=aE (aE s.H k (some (E.arr (Y r m).ty gen 1 []))) k (some (.aw r m gen d []))} a w':=hC;rw[e] at GJ;exact GJ
 have e7: ∀x,own K (β.sub k λc=> ∃i p,F i=some p/\B p 0 c) (aE (aE s.H k (some (E.arr (Y r m).ty gen 1 []))) k (some (.aw r m gen d []))) x->own K β s.H x:=by
  rintro x (hx|⟨id,v,L⟩)
  ·exact .inl hx
  refine .inr ⟨id,λe0=>?_,rA L⟩;by_cases C:id=k
  ·subst C;exact M e0
  rw[bu _ _ _ _ C,bu _ _ _ _ C] at v;exact v e0
 have T0:Ext (own K β s.H) w w':=t.weaken λx _ e=>by rw[show x=b from e];exact V
 refine⟨hd,.inr ⟨b,z,λi j c=>j=0/\ ∃p,F i=some p/\B p 0 c,cH,D,by rw[da];omega,λo mR=>?_,λi j o x u v L f=>?_,λi j c bj=>?_,λi j I cn c bj AH=>?_,λc=>?_⟩⟩
 ·obtain⟨i,C⟩:=ht.1 mR;have W:=(bt.1 C).1;rw[da];cases q:F i with
  |none=>rw[(A i W q).2] at C;cases C;rfl
  |some p=>rw[(R i p q).2.2.2] at C;exact N o (bB C)
 ·have W:=(bt.1 v).1;rw[da] at f;have hj0:j=0:=by
   have Uv:=(bt.1 L).1;cases q:F i with
   |none=>rw[(A i W q).2] at v;cases v;simpa using Uv
   |some p=>rw[(R i p q).2.2.2] at v;have:=N o (bB v);omega
  subst hj0;rw[show i*1+0=i by omega] at f;refine Cell.of ?_;cases q:F i with
  |none=>
   obtain⟨ay,a2⟩:=A i W q;rw[a2] at v;cases v;rw[ay] at f;cases f;simp only[List.getElem?_cons_zero,Option.some.injEq] at L;subst L;rw[jf];exact .nil m1 _ (λc bj=>by obtain⟨_,p,Q,_⟩:=bj;rw[q] at Q;cases Q)
  |some p=>
   obtain⟨a0,ay,a2,a3⟩:=R i p q;rw[a3] at v;rw[a2] at f;have bj:=(G p 0 o x u v L (by rw[show p*1+0=p by omega];exact f)).none;have AH:=bj.mono T0 (λx _=>e7 x) λc lR=>t.keep c (h.fresh k c (.inr ((GI c).2 ⟨p,0,lR⟩))).2 (U p 0 c lR).2.2;exact AH.iff λc=>⟨λ⟨_,HP,X,D⟩=>by rw[q] at X;cases X;exact D,λD=>⟨rfl,p,q,D⟩⟩
 ·obtain⟨rfl,p,Q,y⟩:=bj;rw[da];exact⟨(R i p Q).1,O,(U p 0 c y).2.2⟩
 ·obtain⟨rfl,p,Q,y⟩:=bj;obtain⟨rfl,HP,X,T7⟩:=AH
  have:=(TX p 0 HP 0 c y T7).1;subst this;exact⟨Us i I p Q X,rfl⟩
 constructor
 ·rintro⟨_,L⟩;obtain⟨i,p,Q,y⟩:=L rfl;exact⟨i,0,rfl,p,Q,y⟩
 rintro⟨i,j,rfl,p,Q,y⟩;exact⟨(GI c).2 ⟨p,0,y⟩,λ_=>⟨i,p,Q,y⟩⟩
open Go.Proofs
theorem Pg{k:Type}{l l':List k}(h:l.Perm l'): ∃d:Nat->Nat,(∀i,i<l'.length->d i<l.length/\l'[i]? =l[d i]?)/\ ∀i j,i<l'.length->j<l'.length->d i=d j->i=j:=by
 induction h with
 |nil=>exact⟨id,λi c=>a6 c (lz _),λi j c=>a6 c (lz _)⟩
 |cons a _ v=>
  obtain⟨d,n,o⟩:=v;refine⟨λi=>match i with|0=>0|i+1=>d i+1,λi c=>?_,λi j c m e=>?_⟩
  ·match i with
   |0=>exact⟨aY,rfl⟩
   |i+1=>
    obtain⟨ay,a2⟩:=n i (by simpa using c);exact⟨by simpa using ay,by simpa using a2⟩
  match i,j with
  |0,0=>rfl
  |0,j+1=>simp at e
  |i+1,0=>simp at e
  |i+1,j+1=>simp at e;rw[o i j (by simpa using c) (by simpa using m) e]
 |swap a b l=>
  refine⟨λi=>match i with|0=>1|1=>0|i+2=>i+2,λi c=>?_,λi j c m e=>?_⟩
  ·match i with
   |0=>exact⟨aY,rfl⟩
   |1=>exact⟨aY,rfl⟩
   |i+2=>exact⟨by simpa using c,aY⟩
  match i,j with
  |0,0=>rfl
  |0,1=>simp at e
  |0,j+2=>simp at e
  |1,0=>simp at e
  |1,1=>rfl
  |1,j+2=>simp at e
  |i+2,0=>simp at e
  |i+2,1=>simp at e
  |i+2,j+2=>simpa using e
 |trans _ _ p q=>
  obtain⟨d,n,o⟩:=p;obtain⟨s,r,w⟩:=q;refine⟨λi=>d (s i),λi c=>?_,λi j c m e=>?_⟩
  ·obtain⟨ay,a2⟩:=r i c;obtain⟨a3,a4⟩:=n (s i) ay;exact⟨a3,a2.trans a4⟩
  exact w i j c m (o _ _ (r i c).1 (r j m).1 e)
theorem Eo{sz:Nat}{a:List (List T)}{x:Value}(A:b4 W w X k (.aw t m gen a []))(D:(Y t m).size=sz)(F:aQ W w X (.aM k gen sz 0 a.length) x):
  (x= .slice none 0 0/\a=[]/\W k=some (none,gen))\/ ∃(b d:Nat) (e:Array Value) (B:Nat->Nat->Nat->Prop),x= .slice (some ⟨b,0,none⟩) a.length d/\W k=some (some b,gen)/\w.heap[b]? =some (.cells e (Y t m).ty (0,0))/\e.size=d*sz/\a.length<=d/\d<=maxLen/\
   (∀(i j:Nat) (l:List T) (y:T) (u:Value),a[i]? =some l->l[j]? =some y->e[i*sz+j]? =some u->eK t w X ((Y t m).du j) y u (B i j))/\ ∀i j c,B i j c->c≠b:=by
 obtain⟨q,o⟩:=re A;rcases eh F o with ⟨d,b,n,G,rfl,rfl,E,h,r,H,s⟩|⟨rfl,_,v,rfl⟩
 ·rcases A.2 with ⟨p,_⟩|⟨I,e,B,p,C,M,N,K,L,_⟩
  ·rw[o] at p;cases p
  rw[o] at p;cases p;have z:e.size=d*sz:=by
   unfold World.shape? at h;rw[C] at h;simp at h;rw[<-r] at h;rw[dm] at h;exact h.2
  refine .inr ⟨b,d,e,B,by rw[fc],o,C,z,H,s,λi j l y u Q R f=>(K i j l y u Q R (by rw[D];exact f)).none,λi j c g=>(L i j c g).2.2⟩
 exact .inl ⟨rfl,iQ v,o⟩
section wV
open Go.Shelf Go.RowKit Go.Lib Go.Sort
variable {P:Program}{ρ:Ren}
theorem O6(L:SlLaysF.n6 P ρ)(raw:pr P g)(Al: ∀args w,(callFunc g args).run P w= .ok (.enter g args) w)(call:hL P (ρ.f 6)){q:List de}{s:Nat}(da:(Y q m).size=1)(jf:(Y q m).du 0=some m1)
  (rows:List (List Int)) (cj:rows.length<=1000000000) (cc: ∀l∈rows,l.length<=1000000000):
  gM P G (ρ.f 6) [.aw q m s (rows.map (aL U)) []] [ms 0 s 1 (aL U) rows,.fn g []] (.bI []) [.aw q m s ((d7 rows).map (aL U)) []]:=by
 refine⟨call,?_⟩;intro w X v us iD e7 sl fC;have oE:us.length=2:=fC.length;obtain⟨iv,kh,rfl⟩: ∃a b,us=[a,b]:=by
  match us,oE with
  | [a,b],_=>exact⟨a,b,rfl⟩
 have h0:=Rel.kM (P:=P) (nt:=2) iD e7 sl fC (cL _);obtain⟨Hr,sv,_⟩:=fC;obtain rfl:kh= .func (.func g) #[] #[]:=by
  cases sv with
  |fn _ _ us hs _=>
   have:us= #[]:=B4 hs;rw[this]
 generalize GQ:({tmps:=[iv,Value.func (.func g) #[] #[]].toArray++Array.replicate (2-[iv,Value.func (.func g) #[] #[]].toArray.size) undef,defers:=[]}:Act)=act at h0;generalize mP:Ctx.ec P G w X [E.aw q m s (rows.map (aL U)) []].length v 2=K at h0;have se:K.X=X:=by rw[<-mP];rfl
 generalize k4:Lift.kM [E.aw q m s (rows.map (aL U)) []] [ms 0 s 1 (aL U) rows,.fn g []]=D at h0;have Q:D.H 0=some (.aw q m s (rows.map (aL U)) []):=by rw[<-k4];rfl
 have GO:D.H=dx [E.aw q m s (rows.map (aL U)) []] 0:=by rw[<-k4];rfl
 have AZ:own K v D.H=fO X v (dx [E.aw q m s (rows.map (aL U)) []] 0):=by funext b;rw[GO];show(K.X b\/_)=_;rw[se];rfl
 rw[<-AZ] at Hr;have sd:aE D.H 0 (some (E.aw q m s ((d7 rows).map (aL U)) []))=dx [E.aw q m s ((d7 rows).map (aL U)) []] 0:=by
  rw[GO];funext j
  match j with
  |0=>rfl
  |j+1=>rfl
 have fin: ∀(R:Map) (w':World),Rel K R {D with H:=aE D.H 0 (some (.aw q m s ((d7 rows).map (aL U)) []))} act w'->
   ∃u,∃_i:Unit,∃β,Ending.returned (.tuple #[])= .returned u/\True/\Left v β [E.aw q m s (rows.map (aL U)) []] [E.aw q m s ((d7 rows).map (aL U)) []] w w' X (.bI []) u:=by
  intro R w' bH;subst mP;obtain⟨β,sA⟩:=BW (out:=[E.aw q m s ((d7 rows).map (aL U)) []]) bH (cL _) (.bI [] #[] rfl λi c u bj _=>by simp at bj) rfl (by
   intro id e0 I;refine⟨⟨e0,?_,hB.refl _⟩,?_⟩
   ·show aE D.H 0 _ id=_;rw[sd];exact I
   match id with
   |0=>cases I;exact⟨rfl,rfl⟩
   |k+1=>cases I)
  exact⟨_,(),β,rfl,trivial,sA⟩
 have AB:D.H 0≠none:=by rw[Q];simp
 have rH:=Eo (sz:=1) (h0.heap 0 _ Q).2 da Hr;rcases rH with ⟨rfl,h1,cH⟩|⟨b,cap,o,B,rfl,cH,A,kC,lT,vw,bH,Ax⟩
 ·have lW:rows=[]:=by simpa using h1
  subst lW;refine(AnyF.slices_SortFunc_none (P:=P) (ρ:=ρ) {L with} none 0 _ w).mono ?_;rintro e1 jz ⟨rfl,rfl⟩;refine fin v _ ?_
  have:=h0.tq 0 _ Q;rw[show d7 []=[] by simp[d7]];exact this
 have qm:own K v D.H b:= .inr ⟨0,AB,.inl ⟨_,cH⟩⟩;rw[dI] at lT;have hlen:rows.length<=o.size:=O
 have jg: ∀(j:Nat) (M:j<rows.length),b8 w (λx=>x=b) (.aa (rows[j].map hQ)) (o[j]' O):=λj M=>by
  have oH:=bH j 0 (aL U rows[j]) (.aa (rows[j].map hQ)) _ (by rw[dU,bg M];rfl) rfl (by rw[show j*1+0=j by omega];exact fW O);exact oH.q4 (λx hx=>by rw[show x=b from hx];exact qm) λc bj e=>Ax j 0 c bj e
 obtain⟨F,Ay,Az⟩: ∃F:Fin rows.length->dc w λx=>x=b,(∀j,(F j).enc=o[j.1]'(by have:=j.2;omega))/\ ∀j,(F j).bD=rows[j.1]:=
  ⟨λj=>⟨(o[j.1]'(by have:=j.2;omega),rows[j.1]),jg j.1 j.2,cc _ (fe j.2)⟩,λ_=>rfl,λ_=>rfl⟩
 obtain⟨d,cy⟩: ∃d:Array (dc w λx=>x=b),d=Array.ofFn F:=⟨_,rfl⟩
 have C:d.size=rows.length:=by rw[cy];exact Array.size_ofFn
 have W: ∀(j:Nat) (M:j<d.size),d[j].enc=o[j]' O/\d[j].bD=rows[j]' O:=λj M=>by
  subst cy;rw[Array.getElem_ofFn];exact⟨Ay _,Az _⟩
 have vt:(d.map dc.bD).toList=rows:=by
  refine List.ext_getElem (by simp[C]) λj h1 h2=>?_;rw[Array.getElem_toList,Array.getElem_map];exact(W j O).2
 have hH:Holds dc.enc w b 0 d:=λj M=>by
  rw[dm,getElem!_pos d j M,(W j M).1];refine⟨?_,by simp[World.frozen?,A]⟩
  have:j<o.size:=O
  simp[World.cell?,A,this]
 have oB:CmpLays1 P g #[] dc.enc pM b 0 d.size w:=CmpReads.lays (λm os dk hs x y=>by
  have hb:=zw (w:=w) (X:=λx=>x=b) (b:=b) (m:=m) (dk:=dk) (os:=os) rfl;exact(FT raw (x.2.1.mono hb λ_ _ h=>h) (y.2.1.mono hb λ_ _ h=>h) x.2.2 y.2.2).mono (by
   rintro e1 jz ⟨rfl,rfl⟩;exact⟨rfl,0,rfl⟩))
 have run:=Any.slices_SortFunc L dc.enc dc.one pM FZ g #[] b 0 cap d w Al oB hH (gn.1 A).1 O;rw[C] at run;rw[dI];refine run.mono ?_;rintro e1 jz ⟨rfl,r,n,os,N,hs,k6⟩;rw[<-C] at N hs;have S:=DX N hs;rw[vt] at S;have t:r.size=d.size:=N.1;obtain⟨T,Vk,Vl⟩:=Pg (l:=d.toList) (l':=r.toList) (by
  have h2:=N.2.2;have e1:r.extract 0 d.size=r:=by rw[<-t];simp
  have e2:d.extract 0 d.size=d:=aY
  rw[e1,e2] at h2;exact h2.symm)
 have V:(Sort.ahead w n).heap[b]? =some (.cells o (Y q m).ty (0,0)):=A;have mR:sortWorld dc.enc w b 0 n r os=grow ((Sort.ahead w n).setRow b (putCells dc.enc 0 r o)) os:=by
  show grow (putRow dc.enc (Sort.ahead w n) b 0 r) os=_;congr 1;exact JI V _
 have hCs:(putCells dc.enc 0 r o).size=o.size:=by simp[putCells]
 have GR: ∀i,i<r.size->(putCells dc.enc 0 r o)[i]? =some (r[i]!).enc:=λi z=>by
  unfold putCells;rw[Array.getElem?_mapIdx,fW O];simp only[Option.map_some];rw[bh O,Nat.sub_zero]
 have T2:jz.heap[b]? =some (.cells (putCells dc.enc 0 r o) (Y q m).ty (0,0)):=by
  rw[k6,mR];show(_++os)[b]? =_;have T9:b<((Sort.ahead w n).setRow b (putCells dc.enc 0 r o)).heap.size:=(gn.1 (setRow_heap _ _ _ _ _ _ V)).1;rw[Array.getElem?_append_left T9];exact setRow_heap _ _ _ _ _ _ V
 have TZ:Ext (λx=>x=b) w jz:=by rw[k6];exact zw rfl
 have Ue:r.size=rows.length:=by rw[t,C]
 have AS:(d7 rows).length=rows.length:=by rw[<-S,kO,Array.size_map,Ue]
 have Um: ∀i (z:i<rows.length),∃N:T i<rows.length,(putCells dc.enc 0 r o)[i]? =o[T i]? /\(d7 rows)[i]? =rows[T i]? :=λi z=>by
  obtain⟨ay,a2⟩:=Vk i (by rw[kO];omega);rw[kO,C] at ay;rw[me,me,fW O,fW O] at a2;have a3:r[i]' O=d[T i]' O:=by simpa using a2
  refine⟨ay,?_,?_⟩
  ·rw[GR i O,getElem!_pos r i O,a3,(W (T i) O).1,fW O]
  rw[<-S,me,Array.getElem?_map,fW O,Option.map_some,a3,(W (T i) O).2,bg ay]
 obtain⟨R,_,AF⟩:=h0.pick 0 Q da jf cH A hCs T2 TZ ((d7 rows).map (aL U)) (by rw[dI,AS];omega) (λi=>if i<rows.length then some (T i) else none) (λi p h=>by
   by_cases z:i<rows.length
   ·rw[bh z] at h;cases h;obtain⟨N,e1,e2⟩:=Um i z;exact⟨by rw[dI,AS];exact z,by rw[dI];exact N,e1,by rw[dU,dU,e2]⟩
   ·rw[bp z] at h;cases h) (λi gB p h jQ=>by
   by_cases z:i<rows.length
   ·by_cases sj:gB<rows.length
    ·rw[bh z] at h;rw[bh sj] at jQ;exact Vl i gB (by rw[kO];omega) (by rw[kO];omega) (Option.some.inj (h.trans jQ.symm))
    rw[bp sj] at jQ;cases jQ
   ·rw[bp z] at h;cases h) (λi z h=>by
   rw[dI,AS] at z;rw[bh z] at h;cases h)
 exact fin R _ AF
theorem L8(L:SlLaysF.n6 P ρ)(b:pr P g)(e: ∀args w,(callFunc g args).run P w= .ok (.enter g args) w)(a:hL P (ρ.f 6)){n:Nat}(k:(Y t m).size=1)(c:(Y t m).du 0=some n){x r:List (List Int)}(h:j2 x=some r):
  gM P G (ρ.f 6) [.aw t m i (x.map (aL U)) []] [ms 0 i 1 (aL U) x,.fn g []] (.bI []) [.aw t m i (r.map (aL U)) []]:=by
 unfold j2 at h;split at h
 ·rename_i d;cases h;exact O6 L b e a k c x d.1 d.2
 cases h
end wV
theorem qC(a:Nat->Bool)(m:Nat):dj a (m+1)=dj a m++(if a m then [m] else []):=by unfold dj;rw[pf,List.filter_append];congr 1;by_cases h:a m<;>simp[h]
theorem wX(h: ∀j,j<m->u j=true):dj u m=List.range m:=by unfold dj;exact List.filter_eq_self.2 λj a=>h j (q9.1 a)
structure CM (P:Program) (f g:FuncId):Prop where
 run: ∀(vs:Nat->Value) (b off n cap:Nat) (ty:TypeId) (cur:Array Value) (cE:Nat->Bool) (w:World) (bE:w.heap[b]? =some (.cells cur ty (0,0))) (cj:off+n<=cur.size) (bG: ∀j,j<n->cur[off+j]? =some (vs j)) (kD: ∀j,(vs j).oneCell'=true) (AJ:n<=cap) (hm:cap<=maxLen) (AP:cE 0=true) (oB: ∀j W,0<j->j<n->w.heap.size<=W.heap.size->(∀k,k≠b->W.heap[k]? =w.heap[k]?)->Calls P g #[vs j,vs (j-1)] W λe eZ=>e= .returned (.bool (!cE j))/\ ∃q,eZ=W.drewN q),Calls P f #[.slice (some ⟨b,off,none⟩) n cap,.func (.func g) #[] #[]] w λe w'=>e= .returned (.slice (some ⟨b,off,none⟩) (dj cE n).length cap)/\Ext (λx=>x=b) w w'/\ ∃en,w'.heap[b]? =some (.cells en ty (0,0))/\en.size=cur.size/\(∀i,i<(dj cE n).length->en[off+i]? =some (vs ((dj cE n).getD i 0)))/\ ∀i,(dj cE n).length<=i->i<n->en[off+i]? =some (.slice none 0 0)
 l6: ∀(a:Option Addr) (c:Nat) (w:World),Calls P f #[.slice a 0 c,.func (.func g) #[] #[]] w λe w'=>e= .returned (.slice a 0 c)/\w'=w
structure ya (P:Program) (g:FuncId):Prop where
 both: ∀(cD fD n c b0 ij m d:Nat) (xs ys:List Int) (w:World),xs.length=n->ys.length=m->n<=9223372036854775807->m<=9223372036854775807->(∀j,j<xs.length->w.cell? ⟨cD,fD+j,none⟩=some (.int .i64 (xs.getD j 0)))->
  (∀j,j<ys.length->w.cell? ⟨b0,ij+j,none⟩=some (.int .i64 (ys.getD j 0)))->
  Calls P g #[.slice (some ⟨cD,fD,none⟩) n c,.slice (some ⟨b0,ij,none⟩) m d] w λe w'=>e= .returned (.bool (xs==ys))/\ ∃q,w'=w.drewN q
 lens: ∀(ay a2:Option Addr) (n c m d:Nat) (w:World),n≠m->Calls P g #[.slice ay n c,.slice a2 m d] w λe w'=>e= .returned (.bool false)/\w'=w
 l6: ∀(ay a2:Option Addr) (c m d:Nat) (w:World),m<=9223372036854775807->Calls P g #[.slice ay 0 c,.slice a2 m d] w λe w'=>e= .returned (.bool (decide (m=0)))/\w'=w
theorem SL{P:Program}(h:ya P g){w0:World}(A: ∀a v,w0.cell? a=some v->w.cell? a=some v){d l:List Int}{u z:Value}(F:b8 w0 X (.aa (d.map hQ)) u)(B:b8 w0 X (.aa (l.map hQ)) z)(K:d.length<=1000000000)(L:l.length<=1000000000):
  Calls P g #[u,z] w λe i=>e= .returned (.bool (d==l))/\ ∃q,i=w.drewN q:=by
 have m: ∀{e:Ending} {i:World} {c:Bool},e= .returned (.bool c)/\i=w->(d==l)=c->e= .returned (.bool (d==l))/\ ∃q,i=w.drewN q:=by
  rintro e i c ⟨rfl,rfl⟩ rfl;exact⟨rfl,0,rfl⟩
 rcases tQ F with ⟨rfl,a,c,rfl⟩|⟨b,o,c,G,rfl,H⟩
 ·rcases tQ B with ⟨rfl,n,k,rfl⟩|⟨p,r,k,C,rfl,D⟩
  ·exact(h.l6 a n c 0 k w O).mono λe i q=>m q aY
  refine(h.l6 a (some ⟨p,r,none⟩) c l.length k w O).mono λe i q=>m q ?_;cases l with
  |nil=>simp at C
  |cons y l=>simp
 rcases tQ B with ⟨rfl,n,k,rfl⟩|⟨p,r,k,C,rfl,D⟩
 ·refine(h.lens (some ⟨b,o,none⟩) n d.length c 0 k w O).mono λe i q=>m q ?_;cases d with
  |nil=>simp at G
  |cons x d=>simp
 exact h.both b o d.length c p r l.length k d l w rfl rfl O O (λj s=>A _ _ (H j s)) λj s=>A _ _ (D j s)
theorem P1(h:(dj u m)[i]? =some p):p<m:=by have:=bB h;unfold dj at this;exact q9.1 (List.mem_filter.1 this).1
theorem OE(a:Nat->Bool)(m:Nat):(dj a m).length<=m:=by unfold dj;exact dT (List.length_filter_le _ _) aY
theorem OG{gB:Nat}(h:(dj u m)[i]? =some p)(a:(dj u m)[gB]? =some p):i=gB:=by
 have b:(dj u m).Nodup:=by unfold dj;exact List.nodup_range.filter _
 exact(List.getElem?_inj (bt.1 h).1 b).1 (h.trans a.symm)
section TF
variable {P:Program}
theorem Mv{f:FuncId}(t:CM P f g)(Wk:ya P g)(I:hL P f){n:List de}{gs:Nat}(da:(Y n m).size=1)(jf:(Y n m).du 0=some m1)
  (d:List (List Int)) (cc: ∀l∈d,l.length<=1000000000):
  gM P G f [.aw n m gs (d.map (aL U)) []] [ms 0 gs 1 (aL U) d,.fn g []] (ms 0 gs 1 (aL U) (fi d)) [.aw n m gs ((fi d).map (aL U)) []]:=by
 refine⟨I,?_⟩;intro w X r M iD e7 sl fC;have oE:M.length=2:=fC.length;obtain⟨iv,kh,rfl⟩: ∃a b,M=[a,b]:=by
  match M,oE with
  | [a,b],_=>exact⟨a,b,rfl⟩
 have D:=Rel.kM (P:=P) (nt:=2) iD e7 sl fC (cL _);obtain⟨N,sv,_⟩:=fC;obtain rfl:kh= .func (.func g) #[] #[]:=by
  cases sv with
  |fn _ _ M hs _=>
   have:M= #[]:=B4 hs;rw[this]
 generalize GQ:({tmps:=[iv,Value.func (.func g) #[] #[]].toArray++Array.replicate (2-[iv,Value.func (.func g) #[] #[]].toArray.size) undef,defers:=[]}:Act)=act at D;generalize mP:Ctx.ec P G w X [E.aw n m gs (d.map (aL U)) []].length r 2=K at D;have se:K.X=X:=by rw[<-mP];rfl
 generalize k4:Lift.kM [E.aw n m gs (d.map (aL U)) []] [ms 0 gs 1 (aL U) d,.fn g []]=z at D;have A:z.H 0=some (.aw n m gs (d.map (aL U)) []):=by rw[<-k4];rfl
 have S:z.H=dx [E.aw n m gs (d.map (aL U)) []] 0:=by rw[<-k4];rfl
 have T:own K r z.H=fO X r (dx [E.aw n m gs (d.map (aL U)) []] 0):=by funext b;rw[S];show(K.X b\/_)=_;rw[se];rfl
 rw[<-T] at N;have sd:aE z.H 0 (some (E.aw n m gs ((fi d).map (aL U)) []))=dx [E.aw n m gs ((fi d).map (aL U)) []] 0:=by
  rw[S];funext j
  match j with
  |0=>rfl
  |j+1=>rfl
 have fin: ∀(o:Map) (w':World) (v:Value),Rel K o {z with H:=aE z.H 0 (some (.aw n m gs ((fi d).map (aL U)) []))} act w'->aQ o w' (own K o (aE z.H 0 (some (.aw n m gs ((fi d).map (aL U)) [])))) (ms 0 gs 1 (aL U) (fi d)) v->
   ∃u,∃_i:Unit,∃β,Ending.returned v= .returned u/\True/\Left r β [E.aw n m gs (d.map (aL U)) []] [E.aw n m gs ((fi d).map (aL U)) []] w w' X (ms 0 gs 1 (aL U) (fi d)) u:=by
  intro o w' v bH F;subst mP;obtain⟨β,sA⟩:=BW (out:=[E.aw n m gs ((fi d).map (aL U)) []]) bH (cL _) F rfl (by
   intro id e0 L;refine⟨⟨e0,?_,hB.refl _⟩,?_⟩
   ·show aE z.H 0 _ id=_;rw[sd];exact L
   match id with
   |0=>cases L;exact⟨rfl,rfl⟩
   |k+1=>cases L)
  exact⟨_,(),β,rfl,trivial,sA⟩
 have AB:z.H 0≠none:=by rw[A];simp
 have hd:1<=gs:=(D.heap 0 _ A).2.1;have rH:=Eo (sz:=1) (D.heap 0 _ A).2 da N;rcases rH with ⟨rfl,h1,C⟩|⟨b,cap,s,B,rfl,C,G4,kC,lT,vw,bH,Ax⟩
 ·have lW:d=[]:=by simpa using h1
  subst lW;refine(t.l6 none 0 w).mono ?_;rintro e1 jz ⟨rfl,rfl⟩;have e0:fi []=[]:=rfl;refine fin r _ _ ?_ ?_
  ·have:=D.tq 0 _ A;rw[e0];exact this
  rw[e0];exact .fy 0 gs 1 hd C
 have qm:own K r z.H b:= .inr ⟨0,AB,.inl ⟨_,C⟩⟩;rw[dI] at lT;have hlen:d.length<=s.size:=O
 have Q: ∀(j:Nat) (q:j<d.length),b8 w (λx=>x=b) (.aa (d[j].map hQ)) (s[j]' O):=λj q=>by
  have oH:=bH j 0 (aL U d[j]) (.aa (d[j].map hQ)) _ (by rw[dU,bg q];rfl) rfl (by rw[show j*1+0=j by omega];exact fW O);exact oH.q4 (λx hx=>by rw[show x=b from hx];exact qm) λc bj e=>Ax j 0 c bj e
 obtain⟨vs,Ho⟩: ∃vs:Nat->Value,vs=λj=>if j<d.length then s.getD j undef else .slice none 0 0:=⟨_,rfl⟩
 have F: ∀j (q:j<d.length),vs j=s[j]' O:=λj q=>by
  rw[Ho];show(if j<d.length then _ else _)=_;rw[bh q];simp[show j<s.size by omega]
 have kD: ∀j,(vs j).oneCell'=true:=λj=>by
  by_cases q:j<d.length
  ·rw[F j q];exact(Q j q).gV
  rw[Ho];show(if j<d.length then _ else _:Value).oneCell'=true;rw[bp q];rfl
 have run:=t.run vs b 0 d.length cap (Y n m).ty s (iA d) w G4 O (λj q=>by rw[dm,F j q];exact fW O) kD lT vw (by simp[iA]) (λj W hj0 q jh jd=>by
  have hb:Ext (λx=>x=b) w {w with heap:=W.heap}:=⟨rfl,rfl,rfl,jh,λk _ hk=>jd k hk⟩
  have e:=SL Wk (w0:={w with heap:=W.heap}) (w:=W) (λ_ _ h=>h) ((Q j q).mono hb λ_ _ h=>h) ((Q (j-1) O).mono hb λ_ _ h=>h) (cc _ (fe _)) (cc _ (fe _));rw[F j q,F (j-1) O];have hk:(d[j]==d[j-1]' O)= !iA d j:=by
   have g1:d.getD j []=d[j]:=by rw[eP,bg q];rfl
   have g2:d.getD (j-1) []=d[j-1]' O:=by rw[eP,bg O];rfl
   unfold iA;rw[g1,g2]
   have:j≠0:=O
   by_cases C:d[j]=d[j-1]' O
   ·simp[this,C]
   simp[this,C]
  rw[hk] at e;exact e)
 rw[dI];refine run.mono ?_;rintro e1 jz ⟨rfl,hb,en,R,mS,AU,Xr⟩;have y:(fi d).length=(dj (iA d) d.length).length:=by unfold fi;rw[dI]
 have Xs:=OE (iA d) d.length;obtain⟨o,Vj,AF⟩:=D.pick 0 A da jf C G4 mS R hb ((fi d).map (aL U)) (by rw[dI,y];omega) (λi=>(dj (iA d) d.length)[i]?) (λi p h=>by
   have aG:=(bt.1 h).1;have hp:=P1 h;have h1:=AU i aG;rw[dm,eP,h,Option.getD_some,F p hp] at h1;refine⟨by rw[dI,y];exact aG,by rw[dI];exact hp,?_,?_⟩
   ·rw[h1,fW O]
   ·unfold fi;rw[dU,dU,dU,h,bg hp];show some (aL U (d.getD p []))=some (aL U d[p]);rw[eP,bg hp];rfl) (λi gB p h jQ=>OG h jQ) (λi aG h=>by
   rw[dI,y] at aG;rw[bg aG] at h;cases h)
 refine fin o _ _ AF ?_;have kB:b<jz.heap.size:=(gn.1 R).1
 have:=aQ.aM (β:=o) (w:=jz) (X:=own K o (aE z.H 0 (some (.aw n m gs ((fi d).map (aL U)) [])))) 0 gs 1 0 (fi d).length cap b en.size (Y n m).ty hd (by rw[Vj];exact C) kB (by unfold World.shape?;rw[R]) O (by rw[y];omega) vw;rw[y,fc] at this;rw[show ms 0 gs 1 (aL U) (fi d)=V.aM 0 gs 1 0 (dj (iA d) d.length).length by rw[<-y,show(fi d).length=(List.map (aL U) (fi d)).length by rw[dI]]];exact this
end TF
end Go.Lift
