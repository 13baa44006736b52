/- Tools. -/
import Derived.Test.YtcihigfifglboabGreatJLiftSort
set_option linter.unusedVariables false
namespace Go.Lift
open Go
def Map.sub(a:Map)(k:Nat)(N:Nat->Prop):Map:=⟨a.f,λid b=>a.n id b/\(id=k->N b)⟩
variable {D β:Map}{k i b m gen m1 p:Nat}{K:Ctx}{s:S}{a:Act}{w:World}{X:Nat->Prop}{G:fe}{g:FuncId}{u:Nat->Bool}
theorem wR{N:Nat->Prop}(h:At (D.sub k N) i b):At D i b:=by
 rcases h with h|h
 ·exact .inl h
 exact .inr h.1
theorem Rel.sub(h:Rel K β s a w)(k:Nat)(N:Nat->Prop)(e':E)(r:s.H k≠none)
  (z:cH (β.sub k N) w (own K (β.sub k N) (aU s.H k (some e'))) k e'):Rel K (β.sub k N) {s with H:=aU s.H k (some e')} a w:=by
 have d: ∀b,own K (β.sub k N) (aU s.H k (some e')) b->own K β s.H b:=by
  rintro b (c|⟨id,l,n⟩)
  ·exact .inl c
  refine .inr ⟨id,λo=>?_,wR n⟩;by_cases m:id=k
  ·subst m;exact r o
  rw[bX _ _ _ _ m] at l;exact l o
 have x:dv β (β.sub k N):=λ_ _ _ c=> .inl c;refine {h with base:=λid hid=>h.base id hid,dL:=λid hid=>h.dL id hid,ed:=λid b hid p=>h.ed id b hid p.1,inj:=λid q b l n=>h.inj id q b (wR l) (wR n),fresh:=λid b p=>h.fresh id b (wR p),heap:= ?_,cZ:=λi=>(h.cZ i).mono (Ext.refl _ _) (λb _=>d b) x (Shaped.refl _ _)};intro id e c;have c:aU s.H k (some e') id=some e:=c;by_cases m:id=k
 ·subst m;rw[bW] at c;cases c;cases y:s.H id with
  |none=>exact bB y r
  |some o=>exact⟨(h.heap id o y).1,z⟩
 rw[bX _ _ _ _ m] at c;obtain⟨l,n⟩:=h.heap id e c;exact⟨l,n.mono (Ext.refl _ _) (λb _=>d b) x (λ_ h=>h) (Shaped.refl _ _) (λ_ _=>rfl) λb=>⟨λh=>h.1,λh=>⟨h,λe=>bB e m⟩⟩⟩
theorem Rel.pick(h:Rel K β s a w)(k:Nat){r:List dQ}{l:List (List T)}(hk:s.H k=some (.a8 r m gen l []))(eM:(aO r m).size=1)(lR:(aO r m).ek 0=some m1)
   {Y:Array Value} (dj:β k=some (some b,gen)) (a':w.heap[b]? =some (.cells Y (aO r m).ty (0,0)))
  {w':World} {A:Array Value} (hs:A.size=Y.size) (F:w'.heap[b]? =some (.cells A (aO r m).ty (0,0))) (f:Ext (λx=>x=b) w w') (d:List (List T)) (cE:d.length<=Y.size) (G:Nat->Option Nat)
  (R: ∀i p,G i=some p->i<d.length/\p<l.length/\A[i]? =Y[p]? /\d[i]? =l[p]?) (adk: ∀i g p,G i=some p->G g=some p->i=g) (C: ∀i,i<d.length->G i=none->A[i]? =some (.slice none 0 0)/\d[i]? =some [.aD []]):
  ∃β',(∀id,β' id=β id)/\Rel K β' {s with H:=aU s.H k (some (.a8 r m gen d []))} a w':=by
 have t:s.H k≠none:=by rw[hk];simp
 obtain⟨iM,hQ⟩:=(h.heap k _ hk).2;obtain⟨B,hlen,v,I,M,acG,Pu⟩: ∃B:Nat->Nat->Nat->Prop,l.length*(aO r m).size<=Y.size/\(∀o,o∈l->o.length=(aO r m).size)/\
   (∀(i j:Nat) (o:List T) (x:T) (u:Value),l[i]? =some o->o[j]? =some x->Y[i*(aO r m).size+j]? =some u->Cell r m [] β w (own K β s.H) i j x u (B i j))/\
   (∀i j c,B i j c->i<l.length/\j<(aO r m).size/\c≠b)/\(∀i j g cW c,B i j c->B g cW c->i=g/\j=cW)/\ ∀c,β.n k c↔ ∃i j,B i j c:=by
  rcases hQ with ⟨y,_⟩|⟨cu,q3,B,y,L,X,h4,h5,h6,lP,k4⟩
  ·rw[dj] at y;cases y
  rw[dj] at y;cases y;rw[a'] at L;cases L;exact⟨B,X,h4,h5,h6,lP,k4⟩
 rw[eM] at hlen v I M;have N:own K β s.H b:= .inr ⟨k,t,.inl ⟨_,dj⟩⟩;have PE:b<w.heap.size:=(jt.1 a').1
 -- the block told anew, its rows not told
 have qp:=h.setRow k b (.inl ⟨_,dj⟩) Y (aO r m).ty a' A hs (.arr (aO r m).ty gen 1 []) t ⟨iM,.inr ⟨b,A,dj,setRow_heap _ _ _ _ _ _ a',aV,aV,λi j o x u y=>by simp at y⟩⟩;have fG:Rel K β {s with H:=aU s.H k (some (.arr (aO r m).ty gen 1 []))} a w':=by
  refine qp.grow ⟨f.os,f.tape,f.output,?_,λx hx _=>?_⟩
  ·have:=f.size;simpa using this
  by_cases e:x=b
  ·subst e;rw[F,setRow_heap _ _ _ _ _ _ a']
  rw[setRow_other _ _ _ _ e];exact f.keep x (by simpa using hx) e
 refine⟨β.sub k λc=> ∃i p,G i=some p/\B p 0 c,λ_=>rfl,?_⟩;have hC:=fG.sub k (λc=> ∃i p,G i=some p/\B p 0 c) (.a8 r m gen d []) (by show aU s.H k _ k≠none;rw[bW];simp) ?_
 ·have e:aU (aU s.H k (some (E.arr (aO r m).ty gen 1 []))) k (some (.a8 r m gen d []))=aU s.H k (some (.a8 r m gen d [])):=by
   funext i;by_cases D:i=k
   ·subst D;rw[bW,bW]
   rw[bX _ _ _ _ D,bX _ _ _ _ D,bX _ _ _ _ D]
  have Pv:Rel K _ {s with H:=aU (aU s.H k (some (E.arr (aO r m).ty gen 1 []))) k (some (.a8 r m gen d []))} a w':=hC;rw[e] at Pv;exact Pv
 have hr: ∀x,own K (β.sub k λc=> ∃i p,G i=some p/\B p 0 c) (aU (aU s.H k (some (E.arr (aO r m).ty gen 1 []))) k (some (.a8 r m gen d []))) x->own K β s.H x:=by
  rintro x (hx|⟨id,y,L⟩)
  ·exact .inl hx
  refine .inr ⟨id,λe0=>?_,wR L⟩;by_cases D:id=k
  ·subst D;exact t e0
  rw[bX _ _ _ _ D,bX _ _ _ _ D] at y;exact y e0
 have acJ:Ext (own K β s.H) w w':=f.weaken λx _ e=>by rw[show x=b from e];exact N
 refine⟨iM,.inr ⟨b,A,λi j c=>j=0/\ ∃p,G i=some p/\B p 0 c,dj,F,by rw[eM];omega,λo sp=>?_,λi j o x u y L X=>?_,λi j c bP=>?_,λi j g cW c bP V=>?_,λc=>?_⟩⟩
 ·obtain⟨i,D⟩:=km.1 sp;have U:=(bR.1 D).1;rw[eM];cases q:G i with
  |none=>rw[(C i U q).2] at D;cases D;rfl
  |some p=>rw[(R i p q).2.2.2] at D;exact v o (bE D)
 ·have U:=(bR.1 y).1;rw[eM] at X;have hj0:j=0:=by
   have ado:=(bR.1 L).1;cases q:G i with
   |none=>rw[(C i U q).2] at y;cases y;simpa using ado
   |some p=>rw[(R i p q).2.2.2] at y;have:=v o (bE y);omega
  subst hj0;rw[show i*1+0=i by omega] at X;refine Cell.of ?_;cases q:G i with
  |none=>
   obtain⟨aJ,a2⟩:=C i U q;rw[a2] at y;cases y;rw[aJ] at X;cases X;simp only[List.getElem?_cons_zero,Option.some.injEq] at L;subst L;rw[lR];exact .nil m1 _ (λc bP=>by obtain⟨_,p,Q,_⟩:=bP;rw[q] at Q;cases Q)
  |some p=>
   obtain⟨a0,aJ,a2,a3⟩:=R i p q;rw[a3] at y;rw[a2] at X;have bP:=(I p 0 o x u y L (by rw[show p*1+0=p by omega];exact X)).none;have V:=bP.mono acJ (λx _=>hr x) λc o8=>f.keep c (h.fresh k c (.inr ((Pu c).2 ⟨p,0,o8⟩))).2 (M p 0 c o8).2.2;exact V.iff λc=>⟨λ⟨_,Qm,W,F⟩=>by rw[q] at W;cases W;exact F,λF=>⟨rfl,p,q,F⟩⟩
 ·obtain⟨rfl,p,Q,z⟩:=bP;rw[eM];exact⟨(R i p Q).1,O,(M p 0 c z).2.2⟩
 ·obtain⟨rfl,p,Q,z⟩:=bP;obtain⟨rfl,Qm,W,acY⟩:=V
  have:=(acG p 0 Qm 0 c z acY).1;subst this;exact⟨adk i g p Q W,rfl⟩
 constructor
 ·rintro⟨_,L⟩;obtain⟨i,p,Q,z⟩:=L rfl;exact⟨i,0,rfl,p,Q,z⟩
 rintro⟨i,j,rfl,p,Q,z⟩;exact⟨(Pu c).2 ⟨p,0,z⟩,λ_=>⟨i,p,Q,z⟩⟩
open Go.Proofs
theorem YB{k:Type}{l l':List k}(h:l.Perm l'): ∃d:Nat->Nat,(∀i,i<l'.length->d i<l.length/\l'[i]? =l[d i]?)/\ ∀i j,i<l'.length->j<l'.length->d i=d j->i=j:=by
 induction h with
 |nil=>exact⟨id,λi c=>bB c (q5 _),λi j c=>bB c (q5 _)⟩
 |cons a _ w=>
  obtain⟨d,n,o⟩:=w;refine⟨λi=>match i with|0=>0|i+1=>d i+1,λi c=>?_,λi j c m e=>?_⟩
  ·match i with
   |0=>exact⟨aV,rfl⟩
   |i+1=>
    obtain⟨aJ,a2⟩:=n i (by simpa using c);exact⟨by simpa using aJ,by simpa using a2⟩
  match i,j with
  |0,0=>rfl
  |0,j+1=>simp at e
  |i+1,0=>simp at e
  |i+1,j+1=>simp at e;rw[o i j (by simpa using c) (by simpa using m) e]
 |swap a b l=>
  refine⟨λi=>match i with|0=>1|1=>0|i+2=>i+2,λi c=>?_,λi j c m e=>?_⟩
  ·match i with
   |0=>exact⟨aV,rfl⟩
   |1=>exact⟨aV,rfl⟩
   |i+2=>exact⟨by simpa using c,aV⟩
  match i,j with
  |0,0=>rfl
  |0,1=>simp at e
  |0,j+2=>simp at e
  |1,0=>simp at e
  |1,1=>rfl
  |1,j+2=>simp at e
  |i+2,0=>simp at e
  |i+2,1=>simp at e
  |i+2,j+2=>simpa using e
 |trans _ _ p q=>
  obtain⟨d,n,o⟩:=p;obtain⟨s,r,x⟩:=q;refine⟨λi=>d (s i),λi c=>?_,λi j c m e=>?_⟩
  ·obtain⟨aJ,a2⟩:=r i c;obtain⟨a3,a4⟩:=n (s i) aJ;exact⟨a3,a2.trans a4⟩
  exact x i j c m (o _ _ (r i c).1 (r j m).1 e)
theorem Mo{sz:Nat}{G:List dQ}{a:List (List T)}{x:Value}(C:cH D w X k (.a8 G m gen a []))(H:(aO G m).size=sz)(I:bn D w X (.bc k gen sz 0 a.length) x):
  (x= .slice none 0 0/\a=[]/\D k=some (none,gen))\/ ∃(b d:Nat) (e:Array Value) (B:Nat->Nat->Nat->Prop),x= .slice (some ⟨b,0,none⟩) a.length d/\D k=some (some b,gen)/\w.heap[b]? =some (.cells e (aO G m).ty (0,0))/\e.size=d*sz/\a.length<=d/\d<=maxLen/\
   (∀(i j:Nat) (l:List T) (y:T) (u:Value),a[i]? =some l->l[j]? =some y->e[i*sz+j]? =some u->gK G w X ((aO G m).ek j) y u (B i j))/\ ∀i j c,B i j c->c≠b:=by
 obtain⟨q,o⟩:=ts C;rcases fa I o with ⟨d,b,n,K,rfl,rfl,g,h,r,L,s⟩|⟨rfl,_,z,rfl⟩
 ·rcases C.2 with ⟨p,_⟩|⟨t,e,B,p,F,v,E,Q,R,_⟩
  ·rw[o] at p;cases p
  rw[o] at p;cases p;have A:e.size=d*sz:=by
   unfold World.shape? at h;rw[F] at h;simp at h;rw[<-r] at h;rw[dt] at h;exact h.2
  refine .inr ⟨b,d,e,B,by rw[gi],o,F,A,L,s,λi j l y u U W Y=>(Q i j l y u U W (by rw[H];exact Y)).none,λi j c f=>(R i j c f).2.2⟩
 exact .inl ⟨rfl,kQ z,o⟩
section C0
open Go.Shelf Go.RowKit Go.Lib Go.Sort
variable {P:Program} {ρ:Ren}
theorem X0(L:SlLaysF.n6 P ρ)(raw:tr P g)(Hb: ∀args w,(callFunc g args).run P w= .ok (.enter g args) w)(call:ji P (ρ.f 6)){q:List dQ}{s:Nat}(eM:(aO q m).size=1)(lR:(aO q m).ek 0=some m1)
  (rows:List (List Int)) (cJ:rows.length<=1000000000) (cE: ∀l∈rows,l.length<=1000000000):
  jc P G (ρ.f 6) [.a8 q m s (rows.map (a6 ae)) []] [ms 0 s 1 (a6 ae) rows,.fn g []] (.bL []) [.a8 q m s ((fm rows).map (a6 ae)) []]:=by
 refine⟨call,?_⟩;intro w X z us k5 hr kF fU;have sj:us.length=2:=fU.length;obtain⟨hY,gk,rfl⟩: ∃a b,us=[a,b]:=by
  match us,sj with
  | [a,b],_=>exact⟨a,b,rfl⟩
 have V:=Rel.l2 (P:=P) (nt:=2) k5 hr kF fU (cQ _);obtain⟨ss,su,_⟩:=fU;obtain rfl:gk= .func (.func g) #[] #[]:=by
  cases su with
  |fn _ _ us hs _=>
   have:us= #[]:=I6 hs;rw[this]
 generalize Ht:({tmps:=[hY,Value.func (.func g) #[] #[]].toArray++Array.replicate (2-[hY,Value.func (.func g) #[] #[]].toArray.size) undef,defers:=[]}:Act)=act at V;generalize mu:Ctx.dJ P G w X [E.a8 q m s (rows.map (a6 ae)) []].length z 2=K at V;have sf:K.X=X:=by rw[<-mu];rfl
 generalize k6:Lift.l2 [E.a8 q m s (rows.map (a6 ae)) []] [ms 0 s 1 (a6 ae) rows,.fn g []]=I at V;have Q:I.H 0=some (.a8 q m s (rows.map (a6 ae)) []):=by rw[<-k6];rfl
 have xx:I.H=eW [E.a8 q m s (rows.map (a6 ae)) []] 0:=by rw[<-k6];rfl
 have HV:own K z I.H=lZ X z (eW [E.a8 q m s (rows.map (a6 ae)) []] 0):=by funext b;rw[xx];show(K.X b\/_)=_;rw[sf];rfl
 rw[<-HV] at ss;have se:aU I.H 0 (some (E.a8 q m s ((fm rows).map (a6 ae)) []))=eW [E.a8 q m s ((fm rows).map (a6 ae)) []] 0:=by
  rw[xx];funext j
  match j with
  |0=>rfl
  |j+1=>rfl
 have fin: ∀(R:Map) (w':World),Rel K R {I with H:=aU I.H 0 (some (.a8 q m s ((fm rows).map (a6 ae)) []))} act w'->
   ∃u,∃_i:Unit,∃β,Ending.returned (.tuple #[])= .returned u/\True/\Left z β [E.a8 q m s (rows.map (a6 ae)) []] [E.a8 q m s ((fm rows).map (a6 ae)) []] w w' X (.bL []) u:=by
  intro R w' b7;subst mu;obtain⟨β,sw⟩:=Dr (out:=[E.a8 q m s ((fm rows).map (a6 ae)) []]) b7 (cQ _) (.bL [] #[] rfl λi c u bP _=>by simp at bP) rfl (by
   intro id e0 Y;refine⟨⟨e0,?_,jx.refl _⟩,?_⟩
   ·show aU I.H 0 _ id=_;rw[se];exact Y
   match id with
   |0=>cases Y;exact⟨rfl,rfl⟩
   |k+1=>cases Y)
  exact⟨_,(),β,rfl,trivial,sw⟩
 have BJ:I.H 0≠none:=by rw[Q];simp
 have oX:=Mo (sz:=1) (V.heap 0 _ Q).2 eM ss;rcases oX with ⟨rfl,h1,dj⟩|⟨b,cap,o,B,rfl,dj,C,k7,pa,BT,b7,Hi⟩
 ·have pd:rows=[]:=by simpa using h1
  subst pd;refine(AnyF.slices_SortFunc_none (P:=P) (ρ:=ρ) {L with} none 0 _ w).mono ?_;rintro e1 gI ⟨rfl,rfl⟩;refine fin z _ ?_
  have:=V.yr 0 _ Q;rw[show fm []=[] by simp[fm]];exact this
 have uz:own K z I.H b:= .inr ⟨0,BJ,.inl ⟨_,dj⟩⟩;rw[c5] at pa;have hlen:rows.length<=o.size:=O
 have lS: ∀(j:Nat) (t:j<rows.length),cX w (λx=>x=b) (.aD (rows[j].map kb)) (o[j]' O):=λj t=>by
  have so:=b7 j 0 (a6 ae rows[j]) (.aD (rows[j].map kb)) _ (by rw[ey,br t];rfl) rfl (by rw[show j*1+0=j by omega];exact hG O);exact so.yt (λx hx=>by rw[show x=b from hx];exact uz) λc bP e=>Hi j 0 c bP e
 obtain⟨F,sc,sd⟩: ∃F:Fin rows.length->dN w λx=>x=b,(∀j,(F j).enc=o[j.1]'(by have:=j.2;omega))/\ ∀j,(F j).bY=rows[j.1]:=
  ⟨λj=>⟨(o[j.1]'(by have:=j.2;omega),rows[j.1]),lS j.1 j.2,cE _ (fC j.2)⟩,λ_=>rfl,λ_=>rfl⟩
 obtain⟨d,cv⟩: ∃d:Array (dN w λx=>x=b),d=Array.ofFn F:=⟨_,rfl⟩
 have D:d.size=rows.length:=by rw[cv];exact Array.size_ofFn
 have U: ∀(j:Nat) (t:j<d.size),d[j].enc=o[j]' O/\d[j].bY=rows[j]' O:=λj t=>by
  subst cv;rw[Array.getElem_ofFn];exact⟨sc _,sd _⟩
 have ns:(d.map dN.bY).toList=rows:=by
  refine List.ext_getElem (by simp[D]) λj h1 h2=>?_;rw[Array.getElem_toList,Array.getElem_map];exact(U j O).2
 have hH:Holds dN.enc w b 0 d:=λj t=>by
  rw[dt,getElem!_pos d j t,(U j t).1];refine⟨?_,by simp[World.frozen?,C]⟩
  have:j<o.size:=O
  simp[World.cell?,C,this]
 have si:CmpLays1 P g #[] dN.enc tP b 0 d.size w:=CmpReads.lays (λm os dk hs x y=>by
  have jH:=Gu (w:=w) (X:=λx=>x=b) (b:=b) (m:=m) (dk:=dk) (os:=os) rfl;exact(Ou raw (x.2.1.mono jH λ_ _ h=>h) (y.2.1.mono jH λ_ _ h=>h) x.2.2 y.2.2).mono (by
   rintro e1 gI ⟨rfl,rfl⟩;exact⟨rfl,0,rfl⟩))
 have run:=Any.slices_SortFunc L dN.enc dN.one tP Oj g #[] b 0 cap d w Hb si hH (jt.1 C).1 O;rw[D] at run;rw[c5];refine run.mono ?_;rintro e1 gI ⟨rfl,r,n,os,v,hs,la⟩;rw[<-D] at v hs;have M:=Mc v hs;rw[ns] at M;have W:r.size=d.size:=v.1;obtain⟨N,aei,aej⟩:=YB (l:=d.toList) (l':=r.toList) (by
  have h2:=v.2.2;have e1:r.extract 0 d.size=r:=by rw[<-W];simp
  have e2:d.extract 0 d.size=d:=aV
  rw[e1,e2] at h2;exact h2.symm)
 have S:(Sort.ahead w n).heap[b]? =some (.cells o (aO q m).ty (0,0)):=C;have sp:sortWorld dN.enc w b 0 n r os=grow ((Sort.ahead w n).setRow b (putCells dN.enc 0 r o)) os:=by
  show grow (putRow dN.enc (Sort.ahead w n) b 0 r) os=_;congr 1;exact J0 S _
 have hCs:(putCells dN.enc 0 r o).size=o.size:=by simp[putCells]
 have acX: ∀i,i<r.size->(putCells dN.enc 0 r o)[i]? =some (r[i]!).enc:=λi A=>by
  unfold putCells;rw[Array.getElem?_mapIdx,hG O];simp only[Option.map_some];rw[a1 O,Nat.sub_zero]
 have acQ:gI.heap[b]? =some (.cells (putCells dN.enc 0 r o) (aO q m).ty (0,0)):=by
  rw[la,sp];show(_++os)[b]? =_;have Hv:b<((Sort.ahead w n).setRow b (putCells dN.enc 0 r o)).heap.size:=(jt.1 (setRow_heap _ _ _ _ _ _ S)).1;rw[Array.getElem?_append_left Hv];exact setRow_heap _ _ _ _ _ _ S
 have acI:Ext (λx=>x=b) w gI:=by rw[la];exact Gu rfl
 have ac4:r.size=rows.length:=by rw[W,D]
 have T:(fm rows).length=rows.length:=by rw[<-M,l5,Array.size_map,ac4]
 have adf: ∀i (A:i<rows.length),∃v:N i<rows.length,(putCells dN.enc 0 r o)[i]? =o[N i]? /\(fm rows)[i]? =rows[N i]? :=λi A=>by
  obtain⟨aJ,a2⟩:=aei i (by rw[l5];omega);rw[l5,D] at aJ;rw[pQ,pQ,hG O,hG O] at a2;have a3:r[i]' O=d[N i]' O:=by simpa using a2
  refine⟨aJ,?_,?_⟩
  ·rw[acX i O,getElem!_pos r i O,a3,(U (N i) O).1,hG O]
  rw[<-M,pQ,Array.getElem?_map,hG O,Option.map_some,a3,(U (N i) O).2,br aJ]
 obtain⟨R,_,qq⟩:=V.pick 0 Q eM lR dj C hCs acQ acI ((fm rows).map (a6 ae)) (by rw[c5,T];omega) (λi=>if i<rows.length then some (N i) else none) (λi p h=>by
   by_cases A:i<rows.length
   ·rw[a1 A] at h;cases h;obtain⟨v,e1,e2⟩:=adf i A;exact⟨by rw[c5,T];exact A,by rw[c5];exact v,e1,by rw[ey,ey,e2]⟩
   ·rw[aY A] at h;cases h) (λi iO p h mr=>by
   by_cases A:i<rows.length
   ·by_cases xC:iO<rows.length
    ·rw[a1 A] at h;rw[a1 xC] at mr;exact aej i iO (by rw[l5];omega) (by rw[l5];omega) (Option.some.inj (h.trans mr.symm))
    rw[aY xC] at mr;cases mr
   ·rw[aY A] at h;cases h) (λi A h=>by
   rw[c5,T] at A;rw[a1 A] at h;cases h)
 exact fin R _ qq
theorem T6(L:SlLaysF.n6 P ρ)(d:tr P g)(l: ∀args w,(callFunc g args).run P w= .ok (.enter g args) w)(c:ji P (ρ.f 6)){a:List dQ}{n:Nat}(o:(aO a m).size=1)(e:(aO a m).ek 0=some n){x r:List (List Int)}(h:mD x=some r):
  jc P G (ρ.f 6) [.a8 a m i (x.map (a6 ae)) []] [ms 0 i 1 (a6 ae) x,.fn g []] (.bL []) [.a8 a m i (r.map (a6 ae)) []]:=by
 unfold mD at h;split at h
 ·rename_i k;cases h;exact X0 L d l c o e x k.1 k.2
 cases h
end C0
theorem vg(a:Nat->Bool)(m:Nat):dY a (m+1)=dY a m++(if a m then [m] else []):=by unfold dY;rw[pO,vB];congr 1;by_cases h:a m<;>simp[h]
theorem zz(h: ∀j,j<m->u j=true):dY u m=List.range m:=by unfold dY;exact List.filter_eq_self.2 λj a=>h j (tc.1 a)
structure Jo (P:Program) (f g:FuncId):Prop where
 run: ∀(vs:Nat->Value) (b off n cap:Nat) (ty:TypeId) (cur:Array Value) (db:Nat->Bool) (w:World) (bM:w.heap[b]? =some (.cells cur ty (0,0))) (cJ:off+n<=cur.size) (bJ: ∀j,j<n->cur[off+j]? =some (vs j)) (nv: ∀j,(vs j).oneCell'=true) (Hy:n<=cap) (hm:cap<=maxLen) (xE:db 0=true) (si: ∀j W,0<j->j<n->w.heap.size<=W.heap.size->(∀k,k≠b->W.heap[k]? =w.heap[k]?)->Calls P g #[vs j,vs (j-1)] W λe gV=>e= .returned (.bool (!db j))/\ ∃q,gV=W.drewN q),Calls P f #[.slice (some ⟨b,off,none⟩) n cap,.func (.func g) #[] #[]] w λe w'=>e= .returned (.slice (some ⟨b,off,none⟩) (dY db n).length cap)/\Ext (λx=>x=b) w w'/\ ∃e7,w'.heap[b]? =some (.cells e7 ty (0,0))/\e7.size=cur.size/\(∀i,i<(dY db n).length->e7[off+i]? =some (vs ((dY db n).getD i 0)))/\ ∀i,(dY db n).length<=i->i<n->e7[off+i]? =some (.slice none 0 0)
 pv: ∀(a:Option Addr) (c:Nat) (w:World),Calls P f #[.slice a 0 c,.func (.func g) #[] #[]] w λe w'=>e= .returned (.slice a 0 c)/\w'=w
structure D3 (P:Program) (g:FuncId):Prop where
 both: ∀(cU hB n c cu kJ m d:Nat) (xs ys:List Int) (w:World),xs.length=n->ys.length=m->n<=9223372036854775807->m<=9223372036854775807->(∀j,j<xs.length->w.cell? ⟨cU,hB+j,none⟩=some (.int .i64 (xs.getD j 0)))->
  (∀j,j<ys.length->w.cell? ⟨cu,kJ+j,none⟩=some (.int .i64 (ys.getD j 0)))->
  Calls P g #[.slice (some ⟨cU,hB,none⟩) n c,.slice (some ⟨cu,kJ,none⟩) m d] w λe w'=>e= .returned (.bool (xs==ys))/\ ∃q,w'=w.drewN q
 lens: ∀(aJ a2:Option Addr) (n c m d:Nat) (w:World),n≠m->Calls P g #[.slice aJ n c,.slice a2 m d] w λe w'=>e= .returned (.bool false)/\w'=w
 pv: ∀(aJ a2:Option Addr) (c m d:Nat) (w:World),m<=9223372036854775807->Calls P g #[.slice aJ 0 c,.slice a2 m d] w λe w'=>e= .returned (.bool (decide (m=0)))/\w'=w
theorem abX{P:Program}(h:D3 P g){w0:World}(A: ∀a v,w0.cell? a=some v->w.cell? a=some v){d l:List Int}{u z:Value}(F:cX w0 X (.aD (d.map kb)) u)(B:cX w0 X (.aD (l.map kb)) z)(I:d.length<=1000000000)(K:l.length<=1000000000):
  Calls P g #[u,z] w λe i=>e= .returned (.bool (d==l))/\ ∃q,i=w.drewN q:=by
 have m: ∀{e:Ending} {i:World} {c:Bool},e= .returned (.bool c)/\i=w->(d==l)=c->e= .returned (.bool (d==l))/\ ∃q,i=w.drewN q:=by
  rintro e i c ⟨rfl,rfl⟩ rfl;exact⟨rfl,0,rfl⟩
 rcases wG F with ⟨rfl,a,c,rfl⟩|⟨b,o,c,G,rfl,H⟩
 ·rcases wG B with ⟨rfl,n,k,rfl⟩|⟨p,r,k,C,rfl,D⟩
  ·exact(h.pv a n c 0 k w O).mono λe i q=>m q aV
  refine(h.pv a (some ⟨p,r,none⟩) c l.length k w O).mono λe i q=>m q ?_;cases l with
  |nil=>simp at C
  |cons y l=>simp
 rcases wG B with ⟨rfl,n,k,rfl⟩|⟨p,r,k,C,rfl,D⟩
 ·refine(h.lens (some ⟨b,o,none⟩) n d.length c 0 k w O).mono λe i q=>m q ?_;cases d with
  |nil=>simp at G
  |cons x d=>simp
 exact h.both b o d.length c p r l.length k d l w rfl rfl O O (λj s=>A _ _ (H j s)) λj s=>A _ _ (D j s)
theorem YI(h:(dY u m)[i]? =some p):p<m:=by have:=bE h;unfold dY at this;exact tc.1 (List.mem_filter.1 this).1
theorem XC(a:Nat->Bool)(m:Nat):(dY a m).length<=m:=by unfold dY;exact gE (List.length_filter_le _ _) aV
theorem XD{iO:Nat}(h:(dY u m)[i]? =some p)(a:(dY u m)[iO]? =some p):i=iO:=by
 have c:(dY u m).Nodup:=by unfold dY;exact List.nodup_range.filter _
 exact(List.getElem?_inj (bR.1 h).1 c).1 (h.trans a.symm)
section ack
variable {P:Program}
theorem Vb{f:FuncId}(R:Jo P f g)(afA:D3 P g)(U:ji P f){n:List dQ}{gs:Nat}(eM:(aO n m).size=1)(lR:(aO n m).ek 0=some m1)
  (d:List (List Int)) (cE: ∀l∈d,l.length<=1000000000):
  jc P G f [.a8 n m gs (d.map (a6 ae)) []] [ms 0 gs 1 (a6 ae) d,.fn g []] (ms 0 gs 1 (a6 ae) (gN d)) [.a8 n m gs ((gN d).map (a6 ae)) []]:=by
 refine⟨U,?_⟩;intro w X r Y k5 hr kF fU;have sj:Y.length=2:=fU.length;obtain⟨hY,gk,rfl⟩: ∃a b,Y=[a,b]:=by
  match Y,sj with
  | [a,b],_=>exact⟨a,b,rfl⟩
 have D:=Rel.l2 (P:=P) (nt:=2) k5 hr kF fU (cQ _);obtain⟨t,su,_⟩:=fU;obtain rfl:gk= .func (.func g) #[] #[]:=by
  cases su with
  |fn _ _ Y hs _=>
   have:Y= #[]:=I6 hs;rw[this]
 generalize Ht:({tmps:=[hY,Value.func (.func g) #[] #[]].toArray++Array.replicate (2-[hY,Value.func (.func g) #[] #[]].toArray.size) undef,defers:=[]}:Act)=act at D;generalize mu:Ctx.dJ P G w X [E.a8 n m gs (d.map (a6 ae)) []].length r 2=K at D;have sf:K.X=X:=by rw[<-mu];rfl
 generalize k6:Lift.l2 [E.a8 n m gs (d.map (a6 ae)) []] [ms 0 gs 1 (a6 ae) d,.fn g []]=z at D;have A:z.H 0=some (.a8 n m gs (d.map (a6 ae)) []):=by rw[<-k6];rfl
 have M:z.H=eW [E.a8 n m gs (d.map (a6 ae)) []] 0:=by rw[<-k6];rfl
 have N:own K r z.H=lZ X r (eW [E.a8 n m gs (d.map (a6 ae)) []] 0):=by funext b;rw[M];show(K.X b\/_)=_;rw[sf];rfl
 rw[<-N] at t;have se:aU z.H 0 (some (E.a8 n m gs ((gN d).map (a6 ae)) []))=eW [E.a8 n m gs ((gN d).map (a6 ae)) []] 0:=by
  rw[M];funext j
  match j with
  |0=>rfl
  |j+1=>rfl
 have S: ∀(o:Map) (w':World) (v:Value),Rel K o {z with H:=aU z.H 0 (some (.a8 n m gs ((gN d).map (a6 ae)) []))} act w'->bn o w' (own K o (aU z.H 0 (some (.a8 n m gs ((gN d).map (a6 ae)) [])))) (ms 0 gs 1 (a6 ae) (gN d)) v->
   ∃u,∃_i:Unit,∃β,Ending.returned v= .returned u/\True/\Left r β [E.a8 n m gs (d.map (a6 ae)) []] [E.a8 n m gs ((gN d).map (a6 ae)) []] w w' X (ms 0 gs 1 (a6 ae) (gN d)) u:=by
  intro o w' v b7 F;subst mu;obtain⟨β,sw⟩:=Dr (out:=[E.a8 n m gs ((gN d).map (a6 ae)) []]) b7 (cQ _) F rfl (by
   intro id e0 I;refine⟨⟨e0,?_,jx.refl _⟩,?_⟩
   ·show aU z.H 0 _ id=_;rw[se];exact I
   match id with
   |0=>cases I;exact⟨rfl,rfl⟩
   |k+1=>cases I)
  exact⟨_,(),β,rfl,trivial,sw⟩
 have T:z.H 0≠none:=by rw[A];simp
 have iM:1<=gs:=(D.heap 0 _ A).2.1;have oX:=Mo (sz:=1) (D.heap 0 _ A).2 eM t;rcases oX with ⟨rfl,h1,C⟩|⟨b,cap,s,B,rfl,C,o9,k7,pa,BT,b7,Hi⟩
 ·have pd:d=[]:=by simpa using h1
  subst pd;refine(R.pv none 0 w).mono ?_;rintro e1 gI ⟨rfl,rfl⟩;have e0:gN []=[]:=rfl;refine S r _ _ ?_ ?_
  ·have:=D.yr 0 _ A;rw[e0];exact this
  rw[e0];exact .hz 0 gs 1 iM C
 have uz:own K r z.H b:= .inr ⟨0,T,.inl ⟨_,C⟩⟩;rw[c5] at pa;have hlen:d.length<=s.size:=O
 have L: ∀(j:Nat) (q:j<d.length),cX w (λx=>x=b) (.aD (d[j].map kb)) (s[j]' O):=λj q=>by
  have so:=b7 j 0 (a6 ae d[j]) (.aD (d[j].map kb)) _ (by rw[ey,br q];rfl) rfl (by rw[show j*1+0=j by omega];exact hG O);exact so.yt (λx hx=>by rw[show x=b from hx];exact uz) λc bP e=>Hi j 0 c bP e
 obtain⟨vs,uF⟩: ∃vs:Nat->Value,vs=λj=>if j<d.length then s.getD j undef else .slice none 0 0:=⟨_,rfl⟩
 have F: ∀j (q:j<d.length),vs j=s[j]' O:=λj q=>by
  rw[uF];show(if j<d.length then _ else _)=_;rw[a1 q];simp[show j<s.size by omega]
 have nv: ∀j,(vs j).oneCell'=true:=λj=>by
  by_cases q:j<d.length
  ·rw[F j q];exact(L j q).iU
  rw[uF];show(if j<d.length then _ else _:Value).oneCell'=true;rw[aY q];rfl
 have run:=R.run vs b 0 d.length cap (aO n m).ty s (k3 d) w o9 O (λj q=>by rw[dt,F j q];exact hG O) nv pa BT (by simp[k3]) (λj W hj0 q k' lQ=>by
  have jH:Ext (λx=>x=b) w {w with heap:=W.heap}:=⟨rfl,rfl,rfl,k',λk _ hk=>lQ k hk⟩
  have e:=abX afA (w0:={w with heap:=W.heap}) (w:=W) (λ_ _ h=>h) ((L j q).mono jH λ_ _ h=>h) ((L (j-1) O).mono jH λ_ _ h=>h) (cE _ (fC _)) (cE _ (fC _));rw[F j q,F (j-1) O];have hk:(d[j]==d[j-1]' O)= !k3 d j:=by
   have g1:d.getD j []=d[j]:=by rw[ez,br q];rfl
   have g2:d.getD (j-1) []=d[j-1]' O:=by rw[ez,br O];rfl
   unfold k3;rw[g1,g2]
   have:j≠0:=O
   by_cases C:d[j]=d[j-1]' O
   ·simp[this,C]
   simp[this,C]
  rw[hk] at e;exact e)
 rw[c5];refine run.mono ?_;rintro e1 gI ⟨rfl,jH,e7,Q,k9,HP,agt⟩;have y:(gN d).length=(dY (k3 d) d.length).length:=by unfold gN;rw[c5]
 have agu:=XC (k3 d) d.length;obtain⟨o,aeh,qq⟩:=D.pick 0 A eM lR C o9 k9 Q jH ((gN d).map (a6 ae)) (by rw[c5,y];omega) (λi=>(dY (k3 d) d.length)[i]?) (λi p h=>by
   have aH:=(bR.1 h).1;have hp:=YI h;have h1:=HP i aH;rw[dt,ez,h,Option.getD_some,F p hp] at h1;refine⟨by rw[c5,y];exact aH,by rw[c5];exact hp,?_,?_⟩
   ·rw[h1,hG O]
   ·unfold gN;rw[ey,ey,ey,h,br hp];show some (a6 ae (d.getD p []))=some (a6 ae d[p]);rw[ez,br hp];rfl) (λi iO p h mr=>XD h mr) (λi aH h=>by
   rw[c5,y] at aH;rw[br aH] at h;cases h)
 refine S o _ _ qq ?_;have kE:b<gI.heap.size:=(jt.1 Q).1
 have:=bn.bc (β:=o) (w:=gI) (X:=own K o (aU z.H 0 (some (.a8 n m gs ((gN d).map (a6 ae)) [])))) 0 gs 1 0 (gN d).length cap b e7.size (aO n m).ty iM (by rw[aeh];exact C) kE (by unfold World.shape?;rw[Q]) O (by rw[y];omega) BT;rw[y,gi] at this;rw[show ms 0 gs 1 (a6 ae) (gN d)=V.bc 0 gs 1 0 (dY (k3 d) d.length).length by rw[<-y,show(gN d).length=(List.map (a6 ae) (gN d)).length by rw[c5]]];exact this
end ack
end Go.Lift
