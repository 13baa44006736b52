/- Tools. -/
import Derived.Test.YtcihigfifglboabGreatHLiftSort
set_option linter.unusedVariables false
namespace Go.Lift
open Go
def Map.sub(a:Map)(k:Nat)(N:Nat->Prop):Map:=⟨a.f,λid b=>a.n id b/\(id=k->N b)⟩
variable {D β:Map}{k i b m gen m1 p:Nat}{K:Ctx}{s:S}{a:Act}{w:World}{X:Nat->Prop}{G:fc}{g:FuncId}{u:Nat->Bool}
theorem wI{N:Nat->Prop}(h:At (D.sub k N) i b):At D i b:=by
 rcases h with h|h
 ·exact .inl h
 exact .inr h.1
theorem Rel.sub(h:Rel K β s a w)(k:Nat)(N:Nat->Prop)(e':E)(r:s.H k≠none)
  (z:cG (β.sub k N) w (own K (β.sub k N) (aU s.H k (some e'))) k e'):Rel K (β.sub k N) {s with H:=aU s.H k (some e')} a w:=by
 have d: ∀b,own K (β.sub k N) (aU s.H k (some e')) b->own K β s.H b:=by
  rintro b (c|⟨id,l,n⟩)
  ·exact .inl c
  refine .inr ⟨id,λo=>?_,wI n⟩;by_cases m:id=k
  ·subst m;exact r o
  rw[bX _ _ _ _ m] at l;exact l o
 have x:du β (β.sub k N):=λ_ _ _ c=> .inl c;refine {h with base:=λid hid=>h.base id hid,dK:=λid hid=>h.dK id hid,ec:=λid b hid p=>h.ec id b hid p.1,inj:=λid q b l n=>h.inj id q b (wI l) (wI n),fresh:=λid b p=>h.fresh id b (wI p),heap:= ?_,cZ:=λi=>(h.cZ i).mono (Ext.refl _ _) (λb _=>d b) x (Shaped.refl _ _)};intro id e c;have c:aU s.H k (some e') id=some e:=c;by_cases m:id=k
 ·subst m;rw[bW] at c;cases c;cases y:s.H id with
  |none=>exact bB y r
  |some o=>exact⟨(h.heap id o y).1,z⟩
 rw[bX _ _ _ _ m] at c;obtain⟨l,n⟩:=h.heap id e c;exact⟨l,n.mono (Ext.refl _ _) (λb _=>d b) x (λ_ h=>h) (Shaped.refl _ _) (λ_ _=>rfl) λb=>⟨λh=>h.1,λh=>⟨h,λe=>bB e m⟩⟩⟩
theorem Rel.pick(h:Rel K β s a w)(k:Nat){r:List dQ}{l:List (List T)}(hk:s.H k=some (.a8 r m gen l []))(eJ:(aO r m).size=1)(lH:(aO r m).ei 0=some m1)
   {Y:Array Value} (di:β k=some (some b,gen)) (a':w.heap[b]? =some (.cells Y (aO r m).ty (0,0)))
  {w':World} {A:Array Value} (hs:A.size=Y.size) (F:w'.heap[b]? =some (.cells A (aO r m).ty (0,0))) (f:Ext (λx=>x=b) w w') (d:List (List T)) (cD:d.length<=Y.size) (G:Nat->Option Nat)
  (R: ∀i p,G i=some p->i<d.length/\p<l.length/\A[i]? =Y[p]? /\d[i]? =l[p]?) (ac2: ∀i g p,G i=some p->G g=some p->i=g) (C: ∀i,i<d.length->G i=none->A[i]? =some (.slice none 0 0)/\d[i]? =some [.aE []]):
  ∃β',(∀id,β' id=β id)/\Rel K β' {s with H:=aU s.H k (some (.a8 r m gen d []))} a w':=by
 have t:s.H k≠none:=by rw[hk];simp
 obtain⟨iC,hF⟩:=(h.heap k _ hk).2;obtain⟨B,hlen,v,I,M,aco,Pl⟩: ∃B:Nat->Nat->Nat->Prop,l.length*(aO r m).size<=Y.size/\(∀o,o∈l->o.length=(aO r m).size)/\
   (∀(i j:Nat) (o:List T) (x:T) (u:Value),l[i]? =some o->o[j]? =some x->Y[i*(aO r m).size+j]? =some u->Cell r m [] β w (own K β s.H) i j x u (B i j))/\
   (∀i j c,B i j c->i<l.length/\j<(aO r m).size/\c≠b)/\(∀i j g cW c,B i j c->B g cW c->i=g/\j=cW)/\ ∀c,β.n k c↔ ∃i j,B i j c:=by
  rcases hF with ⟨y,_⟩|⟨cu,q4,B,y,L,X,h4,h5,h6,lF,kU⟩
  ·rw[di] at y;cases y
  rw[di] at y;cases y;rw[a'] at L;cases L;exact⟨B,X,h4,h5,h6,lF,kU⟩
 rw[eJ] at hlen v I M;have N:own K β s.H b:= .inr ⟨k,t,.inl ⟨_,di⟩⟩;have Pv:b<w.heap.size:=(jh.1 a').1
 -- the block told anew, its rows not told
 have qn:=h.setRow k b (.inl ⟨_,di⟩) Y (aO r m).ty a' A hs (.arr (aO r m).ty gen 1 []) t ⟨iC,.inr ⟨b,A,di,setRow_heap _ _ _ _ _ _ a',aW,aW,λi j o x u y=>by simp at y⟩⟩;have fF:Rel K β {s with H:=aU s.H k (some (.arr (aO r m).ty gen 1 []))} a w':=by
  refine qn.grow ⟨f.os,f.tape,f.output,?_,λx hx _=>?_⟩
  ·have:=f.size;simpa using this
  by_cases e:x=b
  ·subst e;rw[F,setRow_heap _ _ _ _ _ _ a']
  rw[setRow_other _ _ _ _ e];exact f.keep x (by simpa using hx) e
 refine⟨β.sub k λc=> ∃i p,G i=some p/\B p 0 c,λ_=>rfl,?_⟩;have hC:=fF.sub k (λc=> ∃i p,G i=some p/\B p 0 c) (.a8 r m gen d []) (by show aU s.H k _ k≠none;rw[bW];simp) ?_
 ·have e:aU (aU s.H k (some (E.arr (aO r m).ty gen 1 []))) k (some (.a8 r m gen d []))=aU s.H k (some (.a8 r m gen d [])):=by
   funext i;by_cases D:i=k
   ·subst D;rw[bW,bW]
   rw[bX _ _ _ _ D,bX _ _ _ _ D,bX _ _ _ _ D]
  have Pm:Rel K _ {s with H:=aU (aU s.H k (some (E.arr (aO r m).ty gen 1 []))) k (some (.a8 r m gen d []))} a w':=hC;rw[e] at Pm;exact Pm
 have hd: ∀x,own K (β.sub k λc=> ∃i p,G i=some p/\B p 0 c) (aU (aU s.H k (some (E.arr (aO r m).ty gen 1 []))) k (some (.a8 r m gen d []))) x->own K β s.H x:=by
  rintro x (hx|⟨id,y,L⟩)
  ·exact .inl hx
  refine .inr ⟨id,λe0=>?_,wI L⟩;by_cases D:id=k
  ·subst D;exact t e0
  rw[bX _ _ _ _ D,bX _ _ _ _ D] at y;exact y e0
 have acr:Ext (own K β s.H) w w':=f.weaken λx _ e=>by rw[show x=b from e];exact N
 refine⟨iC,.inr ⟨b,A,λi j c=>j=0/\ ∃p,G i=some p/\B p 0 c,di,F,by rw[eJ];omega,λo sl=>?_,λi j o x u y L X=>?_,λi j c bP=>?_,λi j g cW c bP V=>?_,λc=>?_⟩⟩
 ·obtain⟨i,D⟩:=kc.1 sl;have U:=(bS.1 D).1;rw[eJ];cases q:G i with
  |none=>rw[(C i U q).2] at D;cases D;rfl
  |some p=>rw[(R i p q).2.2.2] at D;exact v o (bE D)
 ·have U:=(bS.1 y).1;rw[eJ] at X;have hj0:j=0:=by
   have ac6:=(bS.1 L).1;cases q:G i with
   |none=>rw[(C i U q).2] at y;cases y;simpa using ac6
   |some p=>rw[(R i p q).2.2.2] at y;have:=v o (bE y);omega
  subst hj0;rw[show i*1+0=i by omega] at X;refine Cell.of ?_;cases q:G i with
  |none=>
   obtain⟨aK,a2⟩:=C i U q;rw[a2] at y;cases y;rw[aK] at X;cases X;simp only[List.getElem?_cons_zero,Option.some.injEq] at L;subst L;rw[lH];exact .nil m1 _ (λc bP=>by obtain⟨_,p,Q,_⟩:=bP;rw[q] at Q;cases Q)
  |some p=>
   obtain⟨a0,aK,a2,a3⟩:=R i p q;rw[a3] at y;rw[a2] at X;have bP:=(I p 0 o x u y L (by rw[show p*1+0=p by omega];exact X)).none;have V:=bP.mono acr (λx _=>hd x) λc oZ=>f.keep c (h.fresh k c (.inr ((Pl c).2 ⟨p,0,oZ⟩))).2 (M p 0 c oZ).2.2;exact V.iff λc=>⟨λ⟨_,Qd,W,F⟩=>by rw[q] at W;cases W;exact F,λF=>⟨rfl,p,q,F⟩⟩
 ·obtain⟨rfl,p,Q,z⟩:=bP;rw[eJ];exact⟨(R i p Q).1,O,(M p 0 c z).2.2⟩
 ·obtain⟨rfl,p,Q,z⟩:=bP;obtain⟨rfl,Qd,W,acH⟩:=V
  have:=(aco p 0 Qd 0 c z acH).1;subst this;exact⟨ac2 i g p Q W,rfl⟩
 constructor
 ·rintro⟨_,L⟩;obtain⟨i,p,Q,z⟩:=L rfl;exact⟨i,0,rfl,p,Q,z⟩
 rintro⟨i,j,rfl,p,Q,z⟩;exact⟨(Pl c).2 ⟨p,0,z⟩,λ_=>⟨i,p,Q,z⟩⟩
open Go.Proofs
theorem XU{k:Type}{l l':List k}(h:l.Perm l'): ∃d:Nat->Nat,(∀i,i<l'.length->d i<l.length/\l'[i]? =l[d i]?)/\ ∀i j,i<l'.length->j<l'.length->d i=d j->i=j:=by
 induction h with
 |nil=>exact⟨id,λi c=>bB c (q5 _),λi j c=>bB c (q5 _)⟩
 |cons a _ w=>
  obtain⟨d,n,o⟩:=w;refine⟨λi=>match i with|0=>0|i+1=>d i+1,λi c=>?_,λi j c m e=>?_⟩
  ·match i with
   |0=>exact⟨aW,rfl⟩
   |i+1=>
    obtain⟨aK,a2⟩:=n i (by simpa using c);exact⟨by simpa using aK,by simpa using a2⟩
  match i,j with
  |0,0=>rfl
  |0,j+1=>simp at e
  |i+1,0=>simp at e
  |i+1,j+1=>simp at e;rw[o i j (by simpa using c) (by simpa using m) e]
 |swap a b l=>
  refine⟨λi=>match i with|0=>1|1=>0|i+2=>i+2,λi c=>?_,λi j c m e=>?_⟩
  ·match i with
   |0=>exact⟨aW,rfl⟩
   |1=>exact⟨aW,rfl⟩
   |i+2=>exact⟨by simpa using c,aW⟩
  match i,j with
  |0,0=>rfl
  |0,1=>simp at e
  |0,j+2=>simp at e
  |1,0=>simp at e
  |1,1=>rfl
  |1,j+2=>simp at e
  |i+2,0=>simp at e
  |i+2,1=>simp at e
  |i+2,j+2=>simpa using e
 |trans _ _ p q=>
  obtain⟨d,n,o⟩:=p;obtain⟨s,r,x⟩:=q;refine⟨λi=>d (s i),λi c=>?_,λi j c m e=>?_⟩
  ·obtain⟨aK,a2⟩:=r i c;obtain⟨a3,a4⟩:=n (s i) aK;exact⟨a3,a2.trans a4⟩
  exact x i j c m (o _ _ (r i c).1 (r j m).1 e)
theorem Mm{sz:Nat}{G:List dQ}{a:List (List T)}{x:Value}(C:cG D w X k (.a8 G m gen a []))(H:(aO G m).size=sz)(I:bn D w X (.bc k gen sz 0 a.length) x):
  (x= .slice none 0 0/\a=[]/\D k=some (none,gen))\/ ∃(b d:Nat) (e:Array Value) (B:Nat->Nat->Nat->Prop),x= .slice (some ⟨b,0,none⟩) a.length d/\D k=some (some b,gen)/\w.heap[b]? =some (.cells e (aO G m).ty (0,0))/\e.size=d*sz/\a.length<=d/\d<=maxLen/\
   (∀(i j:Nat) (l:List T) (y:T) (u:Value),a[i]? =some l->l[j]? =some y->e[i*sz+j]? =some u->gA G w X ((aO G m).ei j) y u (B i j))/\ ∀i j c,B i j c->c≠b:=by
 obtain⟨q,o⟩:=tn C;rcases fa I o with ⟨d,b,n,K,rfl,rfl,g,h,r,L,s⟩|⟨rfl,_,z,rfl⟩
 ·rcases C.2 with ⟨p,_⟩|⟨t,e,B,p,F,v,E,Q,R,_⟩
  ·rw[o] at p;cases p
  rw[o] at p;cases p;have A:e.size=d*sz:=by
   unfold World.shape? at h;rw[F] at h;simp at h;rw[<-r] at h;rw[dr] at h;exact h.2
  refine .inr ⟨b,d,e,B,by rw[f'],o,F,A,L,s,λi j l y u U W Y=>(Q i j l y u U W (by rw[H];exact Y)).none,λi j c f=>(R i j c f).2.2⟩
 exact .inl ⟨rfl,kI z,o⟩
section CX
open Go.Shelf Go.RowKit Go.Lib Go.Sort
variable {P:Program} {ρ:Ren}
theorem XH(L:SlLaysF.n6 P ρ)(raw:tm P g)(G2: ∀args w,(callFunc g args).run P w= .ok (.enter g args) w)(call:i' P (ρ.f 6)){q:List dQ}{s:Nat}(eJ:(aO q m).size=1)(lH:(aO q m).ei 0=some m1)
  (rows:List (List Int)) (cH:rows.length<=1000000000) (cD: ∀l∈rows,l.length<=1000000000):
  iT P G (ρ.f 6) [.a8 q m s (rows.map (aZ ae)) []] [ms 0 s 1 (aZ ae) rows,.fn g []] (.bL []) [.a8 q m s ((fj rows).map (aZ ae)) []]:=by
 refine⟨call,?_⟩;intro w X z us kV hd kx fO;have sf:us.length=2:=fO.length;obtain⟨hQ,gb,rfl⟩: ∃a b,us=[a,b]:=by
  match us,sf with
  | [a,b],_=>exact⟨a,b,rfl⟩
 have V:=Rel.lR (P:=P) (nt:=2) kV hd kx fO (cO _);obtain⟨sp,sq,_⟩:=fO;obtain rfl:gb= .func (.func g) #[] #[]:=by
  cases sq with
  |fn _ _ us hs _=>
   have:us= #[]:=IV hs;rw[this]
 generalize Hj:({tmps:=[hQ,Value.func (.func g) #[] #[]].toArray++Array.replicate (2-[hQ,Value.func (.func g) #[] #[]].toArray.size) undef,defers:=[]}:Act)=act at V;generalize mg:Ctx.dI P G w X [E.a8 q m s (rows.map (aZ ae)) []].length z 2=K at V;have sc:K.X=X:=by rw[<-mg];rfl
 generalize kW:Lift.lR [E.a8 q m s (rows.map (aZ ae)) []] [ms 0 s 1 (aZ ae) rows,.fn g []]=I at V;have Q:I.H 0=some (.a8 q m s (rows.map (aZ ae)) []):=by rw[<-kW];rfl
 have xn:I.H=eT [E.a8 q m s (rows.map (aZ ae)) []] 0:=by rw[<-kW];rfl
 have HJ:own K z I.H=lP X z (eT [E.a8 q m s (rows.map (aZ ae)) []] 0):=by funext b;rw[xn];show(K.X b\/_)=_;rw[sc];rfl
 rw[<-HJ] at sp;have sb:aU I.H 0 (some (E.a8 q m s ((fj rows).map (aZ ae)) []))=eT [E.a8 q m s ((fj rows).map (aZ ae)) []] 0:=by
  rw[xn];funext j
  match j with
  |0=>rfl
  |j+1=>rfl
 have fin: ∀(R:Map) (w':World),Rel K R {I with H:=aU I.H 0 (some (.a8 q m s ((fj rows).map (aZ ae)) []))} act w'->
   ∃u,∃_i:Unit,∃β,Ending.returned (.tuple #[])= .returned u/\True/\Left z β [E.a8 q m s (rows.map (aZ ae)) []] [E.a8 q m s ((fj rows).map (aZ ae)) []] w w' X (.bL []) u:=by
  intro R w' b7;subst mg;obtain⟨β,ss⟩:=Di (out:=[E.a8 q m s ((fj rows).map (aZ ae)) []]) b7 (cO _) (.bL [] #[] rfl λi c u bP _=>by simp at bP) rfl (by
   intro id e0 Y;refine⟨⟨e0,?_,jm.refl _⟩,?_⟩
   ·show aU I.H 0 _ id=_;rw[sb];exact Y
   match id with
   |0=>cases Y;exact⟨rfl,rfl⟩
   |k+1=>cases Y)
  exact⟨_,(),β,rfl,trivial,ss⟩
 have BE:I.H 0≠none:=by rw[Q];simp
 have oO:=Mm (sz:=1) (V.heap 0 _ Q).2 eJ sp;rcases oO with ⟨rfl,h1,di⟩|⟨b,cap,o,B,rfl,di,C,kX,o2,BO,b7,G9⟩
 ·have o5:rows=[]:=by simpa using h1
  subst o5;refine(AnyF.slices_SortFunc_none (P:=P) (ρ:=ρ) {L with} none 0 _ w).mono ?_;rintro e1 gy ⟨rfl,rfl⟩;refine fin z _ ?_
  have:=V.yk 0 _ Q;rw[show fj []=[] by simp[fj]];exact this
 have uu:own K z I.H b:= .inr ⟨0,BE,.inl ⟨_,di⟩⟩;rw[c5] at o2;have hlen:rows.length<=o.size:=O
 have lI: ∀(j:Nat) (t:j<rows.length),cX w (λx=>x=b) (.aE (rows[j].map j3)) (o[j]' O):=λj t=>by
  have sk:=b7 j 0 (aZ ae rows[j]) (.aE (rows[j].map j3)) _ (by rw[ev,bs t];rfl) rfl (by rw[show j*1+0=j by omega];exact ht O);exact sk.yl (λx hx=>by rw[show x=b from hx];exact uu) λc bP e=>G9 j 0 c bP e
 obtain⟨F,r',sa⟩: ∃F:Fin rows.length->dN w λx=>x=b,(∀j,(F j).enc=o[j.1]'(by have:=j.2;omega))/\ ∀j,(F j).bY=rows[j.1]:=
  ⟨λj=>⟨(o[j.1]'(by have:=j.2;omega),rows[j.1]),lI j.1 j.2,cD _ (fz j.2)⟩,λ_=>rfl,λ_=>rfl⟩
 obtain⟨d,cv⟩: ∃d:Array (dN w λx=>x=b),d=Array.ofFn F:=⟨_,rfl⟩
 have D:d.size=rows.length:=by rw[cv];exact Array.size_ofFn
 have U: ∀(j:Nat) (t:j<d.size),d[j].enc=o[j]' O/\d[j].bY=rows[j]' O:=λj t=>by
  subst cv;rw[Array.getElem_ofFn];exact⟨r' _,sa _⟩
 have nj:(d.map dN.bY).toList=rows:=by
  refine List.ext_getElem (by simp[D]) λj h1 h2=>?_;rw[Array.getElem_toList,Array.getElem_map];exact(U j O).2
 have hH:Holds dN.enc w b 0 d:=λj t=>by
  rw[dr,getElem!_pos d j t,(U j t).1];refine⟨?_,by simp[World.frozen?,C]⟩
  have:j<o.size:=O
  simp[World.cell?,C,this]
 have se:CmpLays1 P g #[] dN.enc tQ b 0 d.size w:=CmpReads.lays (λm os dk hs x y=>by
  have jw:=F4 (w:=w) (X:=λx=>x=b) (b:=b) (m:=m) (dk:=dk) (os:=os) rfl;exact(N9 raw (x.2.1.mono jw λ_ _ h=>h) (y.2.1.mono jw λ_ _ h=>h) x.2.2 y.2.2).mono (by
   rintro e1 gy ⟨rfl,rfl⟩;exact⟨rfl,0,rfl⟩))
 have run:=Any.slices_SortFunc L dN.enc dN.one tQ Ol g #[] b 0 cap d w G2 se hH (jh.1 C).1 O;rw[D] at run;rw[c5];refine run.mono ?_;rintro e1 gy ⟨rfl,r,n,os,v,hs,k1⟩;rw[<-D] at v hs;have M:=L3 v hs;rw[nj] at M;have W:r.size=d.size:=v.1;obtain⟨N,ad2,ad3⟩:=XU (l:=d.toList) (l':=r.toList) (by
  have h2:=v.2.2;have e1:r.extract 0 d.size=r:=by rw[<-W];simp
  have e2:d.extract 0 d.size=d:=aW
  rw[e1,e2] at h2;exact h2.symm)
 have S:(Sort.ahead w n).heap[b]? =some (.cells o (aO q m).ty (0,0)):=C;have sl:sortWorld dN.enc w b 0 n r os=grow ((Sort.ahead w n).setRow b (putCells dN.enc 0 r o)) os:=by
  show grow (putRow dN.enc (Sort.ahead w n) b 0 r) os=_;congr 1;exact JW S _
 have hCs:(putCells dN.enc 0 r o).size=o.size:=by simp[putCells]
 have acG: ∀i,i<r.size->(putCells dN.enc 0 r o)[i]? =some (r[i]!).enc:=λi A=>by
  unfold putCells;rw[Array.getElem?_mapIdx,ht O];simp only[Option.map_some];rw[a1 O,Nat.sub_zero]
 have acz:gy.heap[b]? =some (.cells (putCells dN.enc 0 r o) (aO q m).ty (0,0)):=by
  rw[k1,sl];show(_++os)[b]? =_;have Hl:b<((Sort.ahead w n).setRow b (putCells dN.enc 0 r o)).heap.size:=(jh.1 (setRow_heap _ _ _ _ _ _ S)).1;rw[Array.getElem?_append_left Hl];exact setRow_heap _ _ _ _ _ _ S
 have acq:Ext (λx=>x=b) w gy:=by rw[k1];exact F4 rfl
 have acN:r.size=rows.length:=by rw[W,D]
 have T:(fj rows).length=rows.length:=by rw[<-M,lU,Array.size_map,acN]
 have acX: ∀i (A:i<rows.length),∃v:N i<rows.length,(putCells dN.enc 0 r o)[i]? =o[N i]? /\(fj rows)[i]? =rows[N i]? :=λi A=>by
  obtain⟨aK,a2⟩:=ad2 i (by rw[lU];omega);rw[lU,D] at aK;rw[pI,pI,ht O,ht O] at a2;have a3:r[i]' O=d[N i]' O:=by simpa using a2
  refine⟨aK,?_,?_⟩
  ·rw[acG i O,getElem!_pos r i O,a3,(U (N i) O).1,ht O]
  rw[<-M,pI,Array.getElem?_map,ht O,Option.map_some,a3,(U (N i) O).2,bs aK]
 obtain⟨R,_,qo⟩:=V.pick 0 Q eJ lH di C hCs acz acq ((fj rows).map (aZ ae)) (by rw[c5,T];omega) (λi=>if i<rows.length then some (N i) else none) (λi p h=>by
   by_cases A:i<rows.length
   ·rw[a1 A] at h;cases h;obtain⟨v,e1,e2⟩:=acX i A;exact⟨by rw[c5,T];exact A,by rw[c5];exact v,e1,by rw[ev,ev,e2]⟩
   ·rw[a6 A] at h;cases h) (λi iE p h mf=>by
   by_cases A:i<rows.length
   ·by_cases xt:iE<rows.length
    ·rw[a1 A] at h;rw[a1 xt] at mf;exact ad3 i iE (by rw[lU];omega) (by rw[lU];omega) (Option.some.inj (h.trans mf.symm))
    rw[a6 xt] at mf;cases mf
   ·rw[a6 A] at h;cases h) (λi A h=>by
   rw[c5,T] at A;rw[a1 A] at h;cases h)
 exact fin R _ qo
theorem Ud(L:SlLaysF.n6 P ρ)(d:tm P g)(l: ∀args w,(callFunc g args).run P w= .ok (.enter g args) w)(c:i' P (ρ.f 6)){a:List dQ}{n:Nat}(o:(aO a m).size=1)(e:(aO a m).ei 0=some n){x r:List (List Int)}(h:mr x=some r):
  iT P G (ρ.f 6) [.a8 a m i (x.map (aZ ae)) []] [ms 0 i 1 (aZ ae) x,.fn g []] (.bL []) [.a8 a m i (r.map (aZ ae)) []]:=by
 unfold mr at h;split at h
 ·rename_i k;cases h;exact XH L d l c o e x k.1 k.2
 cases h
end CX
theorem u'(a:Nat->Bool)(m:Nat):dY a (m+1)=dY a m++(if a m then [m] else []):=by unfold dY;rw[pG,vu];congr 1;by_cases h:a m<;>simp[h]
theorem zu(h: ∀j,j<m->u j=true):dY u m=List.range m:=by unfold dY;exact List.filter_eq_self.2 λj a=>h j (s8.1 a)
structure Ji (P:Program) (f g:FuncId):Prop where
 run: ∀(vs:Nat->Value) (b off n cap:Nat) (ty:TypeId) (cur:Array Value) (dc:Nat->Bool) (w:World) (bN:w.heap[b]? =some (.cells cur ty (0,0))) (cH:off+n<=cur.size) (bI: ∀j,j<n->cur[off+j]? =some (vs j)) (nl: ∀j,(vs j).oneCell'=true) (Hn:n<=cap) (hm:cap<=maxLen) (xv:dc 0=true) (se: ∀j W,0<j->j<n->w.heap.size<=W.heap.size->(∀k,k≠b->W.heap[k]? =w.heap[k]?)->Calls P g #[vs j,vs (j-1)] W λe gN=>e= .returned (.bool (!dc j))/\ ∃q,gN=W.drewN q),Calls P f #[.slice (some ⟨b,off,none⟩) n cap,.func (.func g) #[] #[]] w λe w'=>e= .returned (.slice (some ⟨b,off,none⟩) (dY dc n).length cap)/\Ext (λx=>x=b) w w'/\ ∃e5,w'.heap[b]? =some (.cells e5 ty (0,0))/\e5.size=cur.size/\(∀i,i<(dY dc n).length->e5[off+i]? =some (vs ((dY dc n).getD i 0)))/\ ∀i,(dY dc n).length<=i->i<n->e5[off+i]? =some (.slice none 0 0)
 pg: ∀(a:Option Addr) (c:Nat) (w:World),Calls P f #[.slice a 0 c,.func (.func g) #[] #[]] w λe w'=>e= .returned (.slice a 0 c)/\w'=w
structure DY (P:Program) (g:FuncId):Prop where
 both: ∀(cU hl n c cu kC m d:Nat) (xs ys:List Int) (w:World),xs.length=n->ys.length=m->n<=9223372036854775807->m<=9223372036854775807->(∀j,j<xs.length->w.cell? ⟨cU,hl+j,none⟩=some (.int .i64 (xs.getD j 0)))->
  (∀j,j<ys.length->w.cell? ⟨cu,kC+j,none⟩=some (.int .i64 (ys.getD j 0)))->
  Calls P g #[.slice (some ⟨cU,hl,none⟩) n c,.slice (some ⟨cu,kC,none⟩) m d] w λe w'=>e= .returned (.bool (xs==ys))/\ ∃q,w'=w.drewN q
 lens: ∀(aK a2:Option Addr) (n c m d:Nat) (w:World),n≠m->Calls P g #[.slice aK n c,.slice a2 m d] w λe w'=>e= .returned (.bool false)/\w'=w
 pg: ∀(aK a2:Option Addr) (c m d:Nat) (w:World),m<=9223372036854775807->Calls P g #[.slice aK 0 c,.slice a2 m d] w λe w'=>e= .returned (.bool (decide (m=0)))/\w'=w
theorem abf{P:Program}(h:DY P g){w0:World}(A: ∀a v,w0.cell? a=some v->w.cell? a=some v){d l:List Int}{u z:Value}(F:cX w0 X (.aE (d.map j3)) u)(B:cX w0 X (.aE (l.map j3)) z)(I:d.length<=1000000000)(K:l.length<=1000000000):
  Calls P g #[u,z] w λe i=>e= .returned (.bool (d==l))/\ ∃q,i=w.drewN q:=by
 have m: ∀{e:Ending} {i:World} {c:Bool},e= .returned (.bool c)/\i=w->(d==l)=c->e= .returned (.bool (d==l))/\ ∃q,i=w.drewN q:=by
  rintro e i c ⟨rfl,rfl⟩ rfl;exact⟨rfl,0,rfl⟩
 rcases wv F with ⟨rfl,a,c,rfl⟩|⟨b,o,c,G,rfl,H⟩
 ·rcases wv B with ⟨rfl,n,k,rfl⟩|⟨p,r,k,C,rfl,D⟩
  ·exact(h.pg a n c 0 k w O).mono λe i q=>m q aW
  refine(h.pg a (some ⟨p,r,none⟩) c l.length k w O).mono λe i q=>m q ?_;cases l with
  |nil=>simp at C
  |cons y l=>simp
 rcases wv B with ⟨rfl,n,k,rfl⟩|⟨p,r,k,C,rfl,D⟩
 ·refine(h.lens (some ⟨b,o,none⟩) n d.length c 0 k w O).mono λe i q=>m q ?_;cases d with
  |nil=>simp at G
  |cons x d=>simp
 exact h.both b o d.length c p r l.length k d l w rfl rfl O O (λj s=>A _ _ (H j s)) λj s=>A _ _ (D j s)
theorem XC(h:(dY u m)[i]? =some p):p<m:=by have:=bE h;unfold dY at this;exact s8.1 (List.mem_filter.1 this).1
theorem Xj(a:Nat->Bool)(m:Nat):(dY a m).length<=m:=by unfold dY;exact gw (List.length_filter_le _ _) aW
theorem Xk{iE:Nat}(h:(dY u m)[i]? =some p)(a:(dY u m)[iE]? =some p):i=iE:=by
 have c:(dY u m).Nodup:=by unfold dY;exact List.nodup_range.filter _
 exact(List.getElem?_inj (bS.1 h).1 c).1 (h.trans a.symm)
section ab3
variable {P:Program}
theorem UL{f:FuncId}(R:Ji P f g)(afj:DY P g)(U:i' P f){n:List dQ}{gs:Nat}(eJ:(aO n m).size=1)(lH:(aO n m).ei 0=some m1)
  (d:List (List Int)) (cD: ∀l∈d,l.length<=1000000000):
  iT P G f [.a8 n m gs (d.map (aZ ae)) []] [ms 0 gs 1 (aZ ae) d,.fn g []] (ms 0 gs 1 (aZ ae) (gD d)) [.a8 n m gs ((gD d).map (aZ ae)) []]:=by
 refine⟨U,?_⟩;intro w X r Y kV hd kx fO;have sf:Y.length=2:=fO.length;obtain⟨hQ,gb,rfl⟩: ∃a b,Y=[a,b]:=by
  match Y,sf with
  | [a,b],_=>exact⟨a,b,rfl⟩
 have D:=Rel.lR (P:=P) (nt:=2) kV hd kx fO (cO _);obtain⟨t,sq,_⟩:=fO;obtain rfl:gb= .func (.func g) #[] #[]:=by
  cases sq with
  |fn _ _ Y hs _=>
   have:Y= #[]:=IV hs;rw[this]
 generalize Hj:({tmps:=[hQ,Value.func (.func g) #[] #[]].toArray++Array.replicate (2-[hQ,Value.func (.func g) #[] #[]].toArray.size) undef,defers:=[]}:Act)=act at D;generalize mg:Ctx.dI P G w X [E.a8 n m gs (d.map (aZ ae)) []].length r 2=K at D;have sc:K.X=X:=by rw[<-mg];rfl
 generalize kW:Lift.lR [E.a8 n m gs (d.map (aZ ae)) []] [ms 0 gs 1 (aZ ae) d,.fn g []]=z at D;have A:z.H 0=some (.a8 n m gs (d.map (aZ ae)) []):=by rw[<-kW];rfl
 have M:z.H=eT [E.a8 n m gs (d.map (aZ ae)) []] 0:=by rw[<-kW];rfl
 have N:own K r z.H=lP X r (eT [E.a8 n m gs (d.map (aZ ae)) []] 0):=by funext b;rw[M];show(K.X b\/_)=_;rw[sc];rfl
 rw[<-N] at t;have sb:aU z.H 0 (some (E.a8 n m gs ((gD d).map (aZ ae)) []))=eT [E.a8 n m gs ((gD d).map (aZ ae)) []] 0:=by
  rw[M];funext j
  match j with
  |0=>rfl
  |j+1=>rfl
 have S: ∀(o:Map) (w':World) (v:Value),Rel K o {z with H:=aU z.H 0 (some (.a8 n m gs ((gD d).map (aZ ae)) []))} act w'->bn o w' (own K o (aU z.H 0 (some (.a8 n m gs ((gD d).map (aZ ae)) [])))) (ms 0 gs 1 (aZ ae) (gD d)) v->
   ∃u,∃_i:Unit,∃β,Ending.returned v= .returned u/\True/\Left r β [E.a8 n m gs (d.map (aZ ae)) []] [E.a8 n m gs ((gD d).map (aZ ae)) []] w w' X (ms 0 gs 1 (aZ ae) (gD d)) u:=by
  intro o w' v b7 F;subst mg;obtain⟨β,ss⟩:=Di (out:=[E.a8 n m gs ((gD d).map (aZ ae)) []]) b7 (cO _) F rfl (by
   intro id e0 I;refine⟨⟨e0,?_,jm.refl _⟩,?_⟩
   ·show aU z.H 0 _ id=_;rw[sb];exact I
   match id with
   |0=>cases I;exact⟨rfl,rfl⟩
   |k+1=>cases I)
  exact⟨_,(),β,rfl,trivial,ss⟩
 have T:z.H 0≠none:=by rw[A];simp
 have iC:1<=gs:=(D.heap 0 _ A).2.1;have oO:=Mm (sz:=1) (D.heap 0 _ A).2 eJ t;rcases oO with ⟨rfl,h1,C⟩|⟨b,cap,s,B,rfl,C,o0,kX,o2,BO,b7,G9⟩
 ·have o5:d=[]:=by simpa using h1
  subst o5;refine(R.pg none 0 w).mono ?_;rintro e1 gy ⟨rfl,rfl⟩;have e0:gD []=[]:=rfl;refine S r _ _ ?_ ?_
  ·have:=D.yk 0 _ A;rw[e0];exact this
  rw[e0];exact .hh 0 gs 1 iC C
 have uu:own K r z.H b:= .inr ⟨0,T,.inl ⟨_,C⟩⟩;rw[c5] at o2;have hlen:d.length<=s.size:=O
 have L: ∀(j:Nat) (q:j<d.length),cX w (λx=>x=b) (.aE (d[j].map j3)) (s[j]' O):=λj q=>by
  have sk:=b7 j 0 (aZ ae d[j]) (.aE (d[j].map j3)) _ (by rw[ev,bs q];rfl) rfl (by rw[show j*1+0=j by omega];exact ht O);exact sk.yl (λx hx=>by rw[show x=b from hx];exact uu) λc bP e=>G9 j 0 c bP e
 obtain⟨vs,uA⟩: ∃vs:Nat->Value,vs=λj=>if j<d.length then s.getD j undef else .slice none 0 0:=⟨_,rfl⟩
 have F: ∀j (q:j<d.length),vs j=s[j]' O:=λj q=>by
  rw[uA];show(if j<d.length then _ else _)=_;rw[a1 q];simp[show j<s.size by omega]
 have nl: ∀j,(vs j).oneCell'=true:=λj=>by
  by_cases q:j<d.length
  ·rw[F j q];exact(L j q).iK
  rw[uA];show(if j<d.length then _ else _:Value).oneCell'=true;rw[a6 q];rfl
 have run:=R.run vs b 0 d.length cap (aO n m).ty s (kT d) w o0 O (λj q=>by rw[dr,F j q];exact ht O) nl o2 BO (by simp[kT]) (λj W hj0 q k0 lG=>by
  have jw:Ext (λx=>x=b) w {w with heap:=W.heap}:=⟨rfl,rfl,rfl,k0,λk _ hk=>lG k hk⟩
  have e:=abf afj (w0:={w with heap:=W.heap}) (w:=W) (λ_ _ h=>h) ((L j q).mono jw λ_ _ h=>h) ((L (j-1) O).mono jw λ_ _ h=>h) (cD _ (fz _)) (cD _ (fz _));rw[F j q,F (j-1) O];have hk:(d[j]==d[j-1]' O)= !kT d j:=by
   have g1:d.getD j []=d[j]:=by rw[ew,bs q];rfl
   have g2:d.getD (j-1) []=d[j-1]' O:=by rw[ew,bs O];rfl
   unfold kT;rw[g1,g2]
   have:j≠0:=O
   by_cases C:d[j]=d[j-1]' O
   ·simp[this,C]
   simp[this,C]
  rw[hk] at e;exact e)
 rw[c5];refine run.mono ?_;rintro e1 gy ⟨rfl,jw,e5,Q,kZ,Hy,agc⟩;have y:(gD d).length=(dY (kT d) d.length).length:=by unfold gD;rw[c5]
 have agd:=Xj (kT d) d.length;obtain⟨o,ad1,qo⟩:=D.pick 0 A eJ lH C o0 kZ Q jw ((gD d).map (aZ ae)) (by rw[c5,y];omega) (λi=>(dY (kT d) d.length)[i]?) (λi p h=>by
   have aI:=(bS.1 h).1;have hp:=XC h;have h1:=Hy i aI;rw[dr,ew,h,Option.getD_some,F p hp] at h1;refine⟨by rw[c5,y];exact aI,by rw[c5];exact hp,?_,?_⟩
   ·rw[h1,ht O]
   ·unfold gD;rw[ev,ev,ev,h,bs hp];show some (aZ ae (d.getD p []))=some (aZ ae d[p]);rw[ew,bs hp];rfl) (λi iE p h mf=>Xk h mf) (λi aI h=>by
   rw[c5,y] at aI;rw[bs aI] at h;cases h)
 refine S o _ _ qo ?_;have kv:b<gy.heap.size:=(jh.1 Q).1
 have:=bn.bc (β:=o) (w:=gy) (X:=own K o (aU z.H 0 (some (.a8 n m gs ((gD d).map (aZ ae)) [])))) 0 gs 1 0 (gD d).length cap b e5.size (aO n m).ty iC (by rw[ad1];exact C) kv (by unfold World.shape?;rw[Q]) O (by rw[y];omega) BO;rw[y,f'] at this;rw[show ms 0 gs 1 (aZ ae) (gD d)=V.bc 0 gs 1 0 (dY (kT d) d.length).length by rw[<-y,show(gD d).length=(List.map (aZ ae) (gD d)).length by rw[c5]]];exact this
end ab3
end Go.Lift
