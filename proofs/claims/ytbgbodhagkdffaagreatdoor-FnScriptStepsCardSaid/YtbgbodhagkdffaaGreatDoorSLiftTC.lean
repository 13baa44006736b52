/- Tools. -/
import Derived.Test.YtbgbodhagkdffaaGreatDoorSLiftSort
set_option linter.unusedVariables false
namespace Go.Lift
open Go
open Go renaming Value -> bm, World -> bY, Calls -> hQ, Program -> ee, setRow_heap -> kS
open Option renaming some -> Y, none -> al, map_some -> ln
open List renaming length -> U
def Map.sub(a:Map)(k:Nat)(N:Nat->Prop):Map:=⟨a.f,λid b=>a.n id b/\(id=k->N b)⟩
variable {G:gC}{k i b m g_ m1 p:Nat}{K:Ctx}{β:Map}{a:Act}{w:bY}{X:Nat->Prop}{g:FuncId}{u:Nat->Bool}
theorem AR{G:Map}{N:Nat->Prop}(h:At (G.sub k N) i b):At G i b:=by
 rcases h with h|h
 ·exact .inl h
 exact .inr h.1
theorem Rel.sub{s:S}(h:Rel K β s a w)(k:Nat)(N:Nat->Prop)(e':E)(x:s.H k≠al)
  (A:dJ (β.sub k N) w (own K (β.sub k N) (bw s.H k (Y e'))) k e'):Rel K (β.sub k N) {s with H:=bw s.H k (Y e')} a w:=by
 have d: ∀b,own K (β.sub k N) (bw s.H k (Y e')) b->own K β s.H b:=by
  rintro b (c|⟨id,l,n⟩)
  ·exact .inl c
  refine .inr ⟨id,λo=>?_,AR n⟩;by_cases m:id=k
  ·subst m;exact x o
  rw[cY _ _ _ _ m] at l;exact l o
 have y:fa β (β.sub k N):=λ_ _ _ c=> .inl c;refine {h with base:=λid hid=>h.base id hid,fw:=λid hid=>h.fw id hid,fS:=λid b hid q=>h.fS id b hid q.1,inj:=λid r b l n=>h.inj id r b (AR l) (AR n),fresh:=λid b q=>h.fresh id b (AR q),heap:= ?_,eE:=λi=>(h.eE i).mono (Ext.refl _ _) (λb _=>d b) y (Shaped.refl _ _)};intro id e c;have c:bw s.H k (Y e') id=Y e:=c;by_cases m:id=k
 ·subst m;rw[c6] at c;cases c;cases z:s.H id with
  |none=>exact bu z x
  |some o=>exact⟨(h.heap id o z).1,A⟩
 rw[cY _ _ _ _ m] at c;obtain⟨l,n⟩:=h.heap id e c;exact⟨l,n.mono (Ext.refl _ _) (λb _=>d b) y (λ_ h=>h) (Shaped.refl _ _) (λ_ _=>rfl) λb=>⟨λh=>h.1,λh=>⟨h,λe=>bu e m⟩⟩⟩
theorem Rel.pick{s:S}(h:Rel K β s a w)(k:Nat){r:List ez}{l:List (List T)}(hk:s.H k=Y (.bn r m g_ l []))(fo:(ba r m).size=1)(rC:(ba r m).fc 0=Y m1)
   {v:Array bm} (dR:β k=Y (Y b,g_)) (br:w.heap[b]? =Y (.cells v (ba r m).ty (0,0)))
  {bZ:bY} {A:Array bm} (hs:A.size=v.size) (G:bZ.heap[b]? =Y (.cells A (ba r m).ty (0,0))) (M:Ext (λx=>x=b) w bZ) (d:List (List T)) (dm:U d<=v.size) (L:Nat->Option Nat)
  (X: ∀i p,L i=Y p->i<U d/\p<U l/\A[i]? =v[p]? /\d[i]? =l[p]?) (akS: ∀i N p,L i=Y p->L N=Y p->i=N) (C: ∀i,i<U d->L i=al->A[i]? =Y (.slice al 0 0)/\d[i]? =Y [.bX []]):
  ∃β',(∀id,β' id=β id)/\Rel K β' {s with H:=bw s.H k (Y (.bn r m g_ d []))} a bZ:=by
 have V:s.H k≠al:=by rw[hk];simp
 obtain⟨l3,jL⟩:=(h.heap k _ hk).2;obtain⟨B,hlen,jc,Q,MT,aj5,GH⟩: ∃B:Nat->Nat->Nat->Prop,U l*(ba r m).size<=v.size/\(∀o,o∈l->U o=(ba r m).size)/\
   (∀(i j:Nat) (o:List T) (x:T) (u:bm),l[i]? =Y o->o[j]? =Y x->v[i*(ba r m).size+j]? =Y u->Cell r m [] β w (own K β s.H) i j x u (B i j))/\
   (∀i j c,B i j c->i<U l/\j<(ba r m).size/\c≠b)/\(∀i j N fx c,B i j c->B N fx c->i=N/\j=fx)/\ ∀c,β.n k c↔ ∃i j,B i j c:=by
  rcases jL with ⟨y,_⟩|⟨dG,sc,B,y,R,t,h4,h5,h6,qA,pN⟩
  ·rw[dR] at y;cases y
  rw[dR] at y;cases y;rw[br] at R;cases R;exact⟨B,t,h4,h5,h6,qA,pN⟩
 rw[fo] at hlen jc Q MT;have BP:own K β s.H b:= .inr ⟨k,V,.inl ⟨_,dR⟩⟩;have M6:b<w.heap.size:=(mm.1 br).1
 -- the block told anew, its rows not told
 have rv:=h.setRow k b (.inl ⟨_,dR⟩) v (ba r m).ty br A hs (.arr (ba r m).ty g_ 1 []) V ⟨l3,.inr ⟨b,A,dR,kS _ _ _ _ _ _ br,aZ,aZ,λi j o x u y=>by simp at y⟩⟩;have gU:Rel K β {s with H:=bw s.H k (Y (.arr (ba r m).ty g_ 1 []))} a bZ:=by
  refine rv.grow ⟨M.os,M.tape,M.output,?_,λx hx _=>?_⟩
  ·have:=M.size;simpa using this
  by_cases e:x=b
  ·subst e;rw[G,kS _ _ _ _ _ _ br]
  rw[setRow_other _ _ _ _ e];exact M.keep x (by simpa using hx) e
 refine⟨β.sub k λc=> ∃i p,L i=Y p/\B p 0 c,λ_=>rfl,?_⟩;have hC:=gU.sub k (λc=> ∃i p,L i=Y p/\B p 0 c) (.bn r m g_ d []) (by show bw s.H k _ k≠al;rw[c6];simp) ?_
 ·have e:bw (bw s.H k (Y (E.arr (ba r m).ty g_ 1 []))) k (Y (.bn r m g_ d []))=bw s.H k (Y (.bn r m g_ d [])):=by
   funext i;by_cases F:i=k
   ·subst F;rw[c6,c6]
   rw[cY _ _ _ _ F,cY _ _ _ _ F,cY _ _ _ _ F]
  have VZ:Rel K _ {s with H:=bw (bw s.H k (Y (E.arr (ba r m).ty g_ 1 []))) k (Y (.bn r m g_ d []))} a bZ:=hC;rw[e] at VZ;exact VZ
 have iy: ∀x,own K (β.sub k λc=> ∃i p,L i=Y p/\B p 0 c) (bw (bw s.H k (Y (E.arr (ba r m).ty g_ 1 []))) k (Y (.bn r m g_ d []))) x->own K β s.H x:=by
  rintro x (hx|⟨id,y,R⟩)
  ·exact .inl hx
  refine .inr ⟨id,λe0=>?_,AR R⟩;by_cases F:id=k
  ·subst F;exact V e0
  rw[cY _ _ _ _ F,cY _ _ _ _ F] at y;exact y e0
 have aj8:Ext (own K β s.H) w bZ:=M.weaken λx _ e=>by rw[show x=b from e];exact BP
 refine⟨l3,.inr ⟨b,A,λi j c=>j=0/\ ∃p,L i=Y p/\B p 0 c,dR,G,by rw[fo];omega,λo yA=>?_,λi j o x u y R t=>?_,λi j c ch=>?_,λi j N fx c ch M8=>?_,λc=>?_⟩⟩
 ·obtain⟨i,F⟩:=mY.1 yA;have f:=(cI.1 F).1;rw[fo];cases q:L i with
  |none=>rw[(C i f q).2] at F;cases F;rfl
  |some p=>rw[(X i p q).2.2.2] at F;exact jc o (ca F)
 ·have f:=(cI.1 y).1;rw[fo] at t;have hj0:j=0:=by
   have akY:=(cI.1 R).1;cases q:L i with
   |none=>rw[(C i f q).2] at y;cases y;simpa using akY
   |some p=>rw[(X i p q).2.2.2] at y;have:=jc o (ca y);omega
  subst hj0;rw[show i*1+0=i by omega] at t;refine Cell.of ?_;cases q:L i with
  |none=>
   obtain⟨aW,a2⟩:=C i f q;rw[a2] at y;cases y;rw[aW] at t;cases t;simp only[List.getElem?_cons_zero,Option.some.injEq] at R;subst R;rw[rC];exact .nil m1 _ (λc ch=>by obtain⟨_,p,W,_⟩:=ch;rw[q] at W;cases W)
  |some p=>
   obtain⟨a0,aW,a2,a3⟩:=X i p q;rw[a3] at y;rw[a2] at t;have ch:=(Q p 0 o x u y R (by rw[show p*1+0=p by omega];exact t)).none;have M8:=ch.mono aj8 (λx _=>iy x) λc vF=>M.keep c (h.fresh k c (.inr ((GH c).2 ⟨p,0,vF⟩))).2 (MT p 0 c vF).2.2;exact M8.iff λc=>⟨λ⟨_,W',g,G⟩=>by rw[q] at g;cases g;exact G,λG=>⟨rfl,p,q,G⟩⟩
 ·obtain⟨rfl,p,W,z⟩:=ch;rw[fo];exact⟨(X i p W).1,O,(MT p 0 c z).2.2⟩
 ·obtain⟨rfl,p,W,z⟩:=ch;obtain⟨rfl,W',g,akm⟩:=M8
  have:=(aj5 p 0 W' 0 c z akm).1;subst this;exact⟨akS i N p W g,rfl⟩
 constructor
 ·rintro⟨_,R⟩;obtain⟨i,p,W,z⟩:=R rfl;exact⟨i,0,rfl,p,W,z⟩
 rintro⟨i,j,rfl,p,W,z⟩;exact⟨(GH c).2 ⟨p,0,z⟩,λ_=>⟨i,p,W,z⟩⟩
open Go.Proofs
theorem afU{k:Type}{l l':List k}(h:l.Perm l'): ∃d:Nat->Nat,(∀i,i<U l'->d i<U l/\l'[i]? =l[d i]?)/\ ∀i j,i<U l'->j<U l'->d i=d j->i=j:=by
 induction h with
 |nil=>exact⟨id,λi c=>bu c (sd _),λi j c=>bu c (sd _)⟩
 |cons a _ y=>
  obtain⟨d,n,o⟩:=y;refine⟨λi=>match i with|0=>0|i+1=>d i+1,λi c=>?_,λi j c m e=>?_⟩
  ·match i with
   |0=>exact⟨aZ,rfl⟩
   |i+1=>
    obtain⟨aW,a2⟩:=n i (by simpa using c);exact⟨by simpa using aW,by simpa using a2⟩
  match i,j with
  |0,0=>rfl
  |0,j+1=>simp at e
  |i+1,0=>simp at e
  |i+1,j+1=>simp at e;rw[o i j (by simpa using c) (by simpa using m) e]
 |swap a b l=>
  refine⟨λi=>match i with|0=>1|1=>0|i+2=>i+2,λi c=>?_,λi j c m e=>?_⟩
  ·match i with
   |0=>exact⟨aZ,rfl⟩
   |1=>exact⟨aZ,rfl⟩
   |i+2=>exact⟨by simpa using c,aZ⟩
  match i,j with
  |0,0=>rfl
  |0,1=>simp at e
  |0,j+2=>simp at e
  |1,0=>simp at e
  |1,1=>rfl
  |1,j+2=>simp at e
  |i+2,0=>simp at e
  |i+2,1=>simp at e
  |i+2,j+2=>simpa using e
 |trans _ _ q r=>
  obtain⟨d,n,o⟩:=q;obtain⟨x,w,z⟩:=r;refine⟨λi=>d (x i),λi c=>?_,λi j c m e=>?_⟩
  ·obtain⟨aW,a2⟩:=w i c;obtain⟨a3,a4⟩:=n (x i) aW;exact⟨a3,a2.trans a4⟩
  exact z i j c m (o _ _ (w i c).1 (w j m).1 e)
theorem SF{G:Map}{sz:Nat}{S:List ez}{a:List (List T)}{x:bm}(H:dJ G w X k (.bn S m g_ a []))(L:(ba S m).size=sz)(Q:bI G w X (.bE k g_ sz 0 (U a)) x):
  (x= .slice al 0 0/\a=[]/\G k=Y (al,g_))\/ ∃(b d:Nat) (e:Array bm) (B:Nat->Nat->Nat->Prop),x= .slice (Y ⟨b,0,al⟩) (U a) d/\G k=Y (Y b,g_)/\w.heap[b]? =Y (.cells e (ba S m).ty (0,0))/\e.size=d*sz/\(U a)<=d/\d<=maxLen/\
   (∀(i j:Nat) (l:List T) (y:T) (u:bm),a[i]? =Y l->l[j]? =Y y->e[i*sz+j]? =Y u->iX S w X ((ba S m).fc j) y u (B i j))/\ ∀i j c,B i j c->c≠b:=by
 obtain⟨q,o⟩:=xq H;rcases d6 Q o with ⟨d,b,n,R,rfl,rfl,E,h,z,W,A⟩|⟨rfl,_,C,rfl⟩
 ·rcases H.2 with ⟨r,_⟩|⟨M,e,B,r,K,N,V,f,g,_⟩
  ·rw[o] at r;cases r
  rw[o] at r;cases r;have F:e.size=d*sz:=by
   unfold World.shape? at h;rw[K] at h;simp at h;rw[<-z] at h;rw[e6] at h;exact h.2
  refine .inr ⟨b,d,e,B,by rw[jC],o,K,F,W,A,λi j l y u p s t=>(f i j l y u p s (by rw[L];exact t)).none,λi j c v=>(g i j c v).2.2⟩
 exact .inl ⟨rfl,oJ C,o⟩
section H2
open Go.Shelf Go.RowKit Go.Lib Go.Sort
variable {P:ee}{ρ:Ren}
theorem agc(L:SlLaysF.n6 P ρ)(raw:DC P g)(aoC: ∀args w,(callFunc g args).run P w= .ok (.enter g args) w)(call:gw P (ρ.f 6)){q:List ez}{z:Nat}(fo:(ba q m).size=1)(rC:(ba q m).fc 0=Y m1)
  (rows:List (List Int)) (dc:U rows<=1000000000) (dm: ∀l∈rows,U l<=1000000000):
  kF P G (ρ.f 6) [.bn q m z (rows.map (bK an)) []] [ms 0 z 1 (bK an) rows,.fn g []] (.dB []) [.bn q m z ((j7 rows).map (bK an)) []]:=by
 refine⟨call,?_⟩;intro w X A us kr iy ot hT;have BM:U us=2:=hT.y4;obtain⟨gX,gN,rfl⟩: ∃a b,us=[a,b]:=by
  match us,BM with
  | [a,b],_=>exact⟨a,b,rfl⟩
 have h0:=Rel.p4 (P:=P) (nt:=2) kr iy ot hT (dV _);obtain⟨yD,rI,_⟩:=hT;obtain rfl:gN= .func (.func g) #[] #[]:=by
  cases rI with
  |fn _ _ us hs _=>
   have:us= #[]:=Array.eq_empty_of_size_eq_zero hs;rw[this]
 generalize BF:({tmps:=[gX,Value.func (.func g) #[] #[]].toArray++Array.replicate (2-[gX,Value.func (.func g) #[] #[]].toArray.size) undef,defers:=[]}:Act)=act at h0;generalize qB:Ctx.eZ P G w X (U [E.bn q m z (rows.map (bK an)) []]) A 2=K at h0;have BC:K.X=X:=by rw[<-qB];rfl
 generalize mN:Lift.p4 [E.bn q m z (rows.map (bK an)) []] [ms 0 z 1 (bK an) rows,.fn g []]=W at h0;have s:W.H 0=Y (.bn q m z (rows.map (bK an)) []):=by rw[<-mN];rfl
 have tp:W.H=gx [E.bn q m z (rows.map (bK an)) []] 0:=by rw[<-mN];rfl
 have BO:own K A W.H=mh X A (gx [E.bn q m z (rows.map (bK an)) []] 0):=by funext b;rw[tp];show(K.X b\/_)=_;rw[BC];rfl
 rw[<-BO] at yD;have BB:bw W.H 0 (Y (E.bn q m z ((j7 rows).map (bK an)) []))=gx [E.bn q m z ((j7 rows).map (bK an)) []] 0:=by
  rw[tp];funext j
  match j with
  |0=>rfl
  |j+1=>rfl
 have fin: ∀(t:Map) (bZ:bY),Rel K t {W with H:=bw W.H 0 (Y (.bn q m z ((j7 rows).map (bK an)) []))} act bZ->
   ∃u,∃_i:Unit,∃β,Ending.returned (.tuple #[])= .returned u/\True/\Left A β [E.bn q m z (rows.map (bK an)) []] [E.bn q m z ((j7 rows).map (bK an)) []] w bZ X (.dB []) u:=by
  intro t bZ cC;subst qB;obtain⟨β,B3⟩:=Jl (out:=[E.bn q m z ((j7 rows).map (bK an)) []]) cC (dV _) (.dB [] #[] rfl λi c u ch _=>by simp at ch) rfl (by
   intro id e0 N;refine⟨⟨e0,?_,mA.refl _⟩,?_⟩
   ·show bw W.H 0 _ id=_;rw[BB];exact N
   match id with
   |0=>cases N;exact⟨rfl,rfl⟩
   |k+1=>cases N)
  exact⟨_,(),β,rfl,trivial,B3⟩
 have yn:W.H 0≠al:=by rw[s];simp
 have uW:=SF (sz:=1) (h0.heap 0 _ s).2 fo yD;rcases uW with ⟨rfl,h1,dR⟩|⟨b,cap,o,B,rfl,dR,Q,ry,vH,Nk,cC,MS⟩
 ·have yx:rows=[]:=by simpa using h1
  subst yx;refine(AnyF.slices_SortFunc_none (P:=P) (ρ:=ρ) {L with} al 0 _ w).mono ?_;rintro e1 jR ⟨rfl,rfl⟩;refine fin A _ ?_
  have:=h0.HZ 0 _ s;rw[show j7 []=[] by simp[j7]];exact this
 have M4:own K A W.H b:= .inr ⟨0,yn,.inl ⟨_,dR⟩⟩;rw[er] at vH;have hlen:U rows<=o.size:=O
 have tv: ∀(j:Nat) (S:j<U rows),ei w (λx=>x=b) (.bX (rows[j].map nF)) (o[j]' O):=λj S=>by
  have vL:=cC j 0 (bK an rows[j]) (.bX (rows[j].map nF)) _ (by rw[fG,bO S];rfl) rfl (by rw[show j*1+0=j by omega];exact jQ O);exact vL.CT (λx hx=>by rw[show x=b from hx];exact M4) λc ch e=>MS j 0 c ch e
 obtain⟨F,Bz,BA⟩: ∃F:Fin (U rows)->fY w λx=>x=b,(∀j,(F j).enc=o[j.1]'(by have:=j.2;omega))/\ ∀j,(F j).cD=rows[j.1]:=
  ⟨λj=>⟨(o[j.1]'(by have:=j.2;omega),rows[j.1]),tv j.1 j.2,dm _ (gd j.2)⟩,λ_=>rfl,λ_=>rfl⟩
 obtain⟨d,cN⟩: ∃d:Array (fY w λx=>x=b),d=Array.ofFn F:=⟨_,rfl⟩
 have R:d.size=U rows:=by rw[cN];exact Array.size_ofFn
 have v: ∀(j:Nat) (S:j<d.size),d[j].enc=o[j]' O/\d[j].cD=rows[j]' O:=λj S=>by
  subst cN;rw[Array.getElem_ofFn];exact⟨Bz _,BA _⟩
 have rz:(d.map fY.cD).toList=rows:=by
  refine List.ext_getElem (by simp[R]) λj h1 h2=>?_;rw[Array.getElem_toList,Array.getElem_map];exact(v j O).2
 have hH:Holds fY.enc w b 0 d:=λj S=>by
  rw[e6,getElem!_pos d j S,(v j S).1];refine⟨?_,by simp[World.frozen?,Q]⟩
  have:j<o.size:=O
  simp[World.cell?,Q,this]
 have BH:CmpLays1 P g #[] fY.enc Gg b 0 d.size w:=CmpReads.lays (λm os dk hs x y=>by
  have k6:=U2 (w:=w) (X:=λx=>x=b) (b:=b) (m:=m) (dk:=dk) (os:=os) rfl;exact(aiI raw (x.2.1.mono k6 λ_ _ h=>h) (y.2.1.mono k6 λ_ _ h=>h) x.2.2 y.2.2).mono (by
   rintro e1 jR ⟨rfl,rfl⟩;exact⟨rfl,0,rfl⟩))
 have run:=Any.slices_SortFunc L fY.enc fY.one Gg Ys g #[] b 0 cap d w aoC BH hH (mm.1 Q).1 O;rw[R] at run;rw[er];refine run.mono ?_;rintro e1 jR ⟨rfl,r,n,os,T,hs,qF⟩;rw[<-R] at T hs;have V:=aey T hs;rw[rz] at V;have M:r.size=d.size:=T.1;obtain⟨mx,al6,al7⟩:=afU (l:=d.toList) (l':=r.toList) (by
  have h2:=T.2.2;have e1:r.extract 0 d.size=r:=by rw[<-M];simp
  have e2:d.extract 0 d.size=d:=aZ
  rw[e1,e2] at h2;exact h2.symm)
 have Nc:(Sort.ahead w n).heap[b]? =Y (.cells o (ba q m).ty (0,0)):=Q;have yA:sortWorld fY.enc w b 0 n r os=grow ((Sort.ahead w n).setRow b (putCells fY.enc 0 r o)) os:=by
  show grow (putRow fY.enc (Sort.ahead w n) b 0 r) os=_;congr 1;exact abc Nc _
 have hCs:(putCells fY.enc 0 r o).size=o.size:=by simp[putCells]
 have akl: ∀i,i<r.size->(putCells fY.enc 0 r o)[i]? =Y (r[i]!).enc:=λi C=>by
  unfold putCells;rw[Array.getElem?_mapIdx,jQ O];simp only[ln];rw[bk O,Nat.sub_zero]
 have akd:jR.heap[b]? =Y (.cells (putCells fY.enc 0 r o) (ba q m).ty (0,0)):=by
  rw[qF,yA];show(_++os)[b]? =_;have GI:b<((Sort.ahead w n).setRow b (putCells fY.enc 0 r o)).heap.size:=(mm.1 (kS _ _ _ _ _ _ Nc)).1;rw[Array.getElem?_append_left GI];exact kS _ _ _ _ _ _ Nc
 have aj7:Ext (λx=>x=b) w jR:=by rw[qF];exact U2 rfl
 have akA:r.size=U rows:=by rw[M,R]
 have Nh:U (j7 rows)=U rows:=by rw[<-V,sj,Array.size_map,akA]
 have akN: ∀i (C:i<U rows),∃T:mx i<U rows,(putCells fY.enc 0 r o)[i]? =o[mx i]? /\(j7 rows)[i]? =rows[mx i]? :=λi C=>by
  obtain⟨aW,a2⟩:=al6 i (by rw[sj];omega);rw[sj,R] at aW;rw[wT,wT,jQ O,jQ O] at a2;have a3:r[i]' O=d[mx i]' O:=by simpa using a2
  refine⟨aW,?_,?_⟩
  ·rw[akl i O,getElem!_pos r i O,a3,(v (mx i) O).1,jQ O]
  rw[<-V,wT,Array.getElem?_map,jQ O,ln,a3,(v (mx i) O).2,bO aW]
 obtain⟨t,_,pO⟩:=h0.pick 0 s fo rC dR Q hCs akd aj7 ((j7 rows).map (bK an)) (by rw[er,Nh];omega) (λi=>if i<U rows then Y (mx i) else al) (λi p h=>by
   by_cases C:i<U rows
   ·rw[bk C] at h;cases h;obtain⟨T,e1,e2⟩:=akN i C;exact⟨by rw[er,Nh];exact C,by rw[er];exact T,e1,by rw[fG,fG,e2]⟩
   ·rw[bh C] at h;cases h) (λi ju p h o3=>by
   by_cases C:i<U rows
   ·by_cases vG:ju<U rows
    ·rw[bk C] at h;rw[bk vG] at o3;exact al7 i ju (by rw[sj];omega) (by rw[sj];omega) (Option.some.inj (h.trans o3.symm))
    rw[bh vG] at o3;cases o3
   ·rw[bh C] at h;cases h) (λi C h=>by
   rw[er,Nh] at C;rw[bk C] at h;cases h)
 exact fin t _ pO
theorem abY(L:SlLaysF.n6 P ρ)(c:DC P g)(k: ∀args w,(callFunc g args).run P w= .ok (.enter g args) w)(a:gw P (ρ.f 6)){S:List ez}{n:Nat}(l:(ba S m).size=1)(d:(ba S m).fc 0=Y n){x r:List (List Int)}(h:rU x=Y r):
  kF P G (ρ.f 6) [.bn S m i (x.map (bK an)) []] [ms 0 i 1 (bK an) x,.fn g []] (.dB []) [.bn S m i (r.map (bK an)) []]:=by
 unfold rU at h;split at h
 ·rename_i e;cases h;exact agc L c k a l d x e.1 e.2
 cases h
end H2
theorem zn(a:Nat->Bool)(m:Nat):fp a (m+1)=fp a m++(if a m then [m] else []):=by unfold fp;rw[se,zA];congr 1;by_cases h:a m<;>simp[h]
theorem Eo(h: ∀j,j<m->u j=true):fp u m=List.range m:=by unfold fp;exact List.filter_eq_self.2 λj a=>h j (uy.1 a)
structure OU (P:ee) (f g:FuncId):Prop where
 run: ∀(vs:Nat->bm) (b off n cap:Nat) (ty:TypeId) (cur:Array bm) (ep:Nat->Bool) (w:bY) (b9:w.heap[b]? =Y (.cells cur ty (0,0))) (dc:off+n<=cur.size) (b0: ∀j,j<n->cur[off+j]? =Y (vs j)) (ov: ∀j,(vs j).oneCell'=true) (GJ:n<=cap) (hm:cap<=maxLen) (BL:ep 0=true) (BH: ∀j W,0<j->j<n->w.heap.size<=W.heap.size->(∀k,k≠b->W.heap[k]? =w.heap[k]?)->hQ P g #[vs j,vs (j-1)] W λe jo=>e= .returned (.bool (!ep j))/\ ∃q,jo=W.drewN q),hQ P f #[.slice (Y ⟨b,off,al⟩) n cap,.func (.func g) #[] #[]] w λe bZ=>e= .returned (.slice (Y ⟨b,off,al⟩) (U (fp ep n)) cap)/\Ext (λx=>x=b) w bZ/\ ∃gM,bZ.heap[b]? =Y (.cells gM ty (0,0))/\gM.size=cur.size/\(∀i,i<U (fp ep n)->gM[off+i]? =Y (vs ((fp ep n).getD i 0)))/\ ∀i,U (fp ep n)<=i->i<n->gM[off+i]? =Y (.slice al 0 0)
 rX: ∀(a:Option Addr) (c:Nat) (w:bY),hQ P f #[.slice a 0 c,.func (.func g) #[] #[]] w λe bZ=>e= .returned (.slice a 0 c)/\bZ=w
structure IY (P:ee) (g:FuncId):Prop where
 both: ∀(dQ jP n c dG lF m d:Nat) (xs ys:List Int) (w:bY),U xs=n->U ys=m->n<=9223372036854775807->m<=9223372036854775807->(∀j,j<U xs->w.cell? ⟨dQ,jP+j,al⟩=Y (.int .i64 (xs.getD j 0)))->
  (∀j,j<U ys->w.cell? ⟨dG,lF+j,al⟩=Y (.int .i64 (ys.getD j 0)))->
  hQ P g #[.slice (Y ⟨dQ,jP,al⟩) n c,.slice (Y ⟨dG,lF,al⟩) m d] w λe bZ=>e= .returned (.bool (xs==ys))/\ ∃q,bZ=w.drewN q
 lens: ∀(aW a2:Option Addr) (n c m d:Nat) (w:bY),n≠m->hQ P g #[.slice aW n c,.slice a2 m d] w λe bZ=>e= .returned (.bool false)/\bZ=w
 rX: ∀(aW a2:Option Addr) (c m d:Nat) (w:bY),m<=9223372036854775807->hQ P g #[.slice aW 0 c,.slice a2 m d] w λe bZ=>e= .returned (.bool (decide (m=0)))/\bZ=w
theorem YO{P:ee}(h:IY P g){w0:bY}(C: ∀a v,w0.cell? a=Y v->w.cell? a=Y v){d l:List Int}{u z:bm}(K:ei w0 X (.bX (d.map nF)) u)(F:ei w0 X (.bX (l.map nF)) z)(R:U d<=1000000000)(W:U l<=1000000000):
  hQ P g #[u,z] w λe i=>e= .returned (.bool (d==l))/\ ∃q,i=w.drewN q:=by
 have m: ∀{e:Ending} {i:bY} {c:Bool},e= .returned (.bool c)/\i=w->(d==l)=c->e= .returned (.bool (d==l))/\ ∃q,i=w.drewN q:=by
  rintro e i c ⟨rfl,rfl⟩ rfl;exact⟨rfl,0,rfl⟩
 rcases AN K with ⟨rfl,a,c,rfl⟩|⟨b,o,c,L,rfl,Q⟩
 ·rcases AN F with ⟨rfl,n,k,rfl⟩|⟨r,A,k,G,rfl,H⟩
  ·exact(h.rX a n c 0 k w O).mono λe i q=>m q aZ
  refine(h.rX a (Y ⟨r,A,al⟩) c (U l) k w O).mono λe i q=>m q ?_;cases l with
  |nil=>simp at G
  |cons y l=>simp
 rcases AN F with ⟨rfl,n,k,rfl⟩|⟨r,A,k,G,rfl,H⟩
 ·refine(h.lens (Y ⟨b,o,al⟩) n (U d) c 0 k w O).mono λe i q=>m q ?_;cases d with
  |nil=>simp at L
  |cons x d=>simp
 exact h.both b o (U d) c r A (U l) k d l w rfl rfl O O (λj B=>C _ _ (Q j B)) λj B=>C _ _ (H j B)
theorem af3(h:(fp u m)[i]? =Y p):p<m:=by have:=ca h;unfold fp at this;exact uy.1 (List.mem_filter.1 this).1
theorem afn(a:Nat->Bool)(m:Nat):U (fp a m)<=m:=by unfold fp;exact iD (List.length_filter_le _ _) aZ
theorem afo{ju:Nat}(h:(fp u m)[i]? =Y p)(a:(fp u m)[ju]? =Y p):i=ju:=by
 have c:(fp u m).Nodup:=by unfold fp;exact List.nodup_range.filter _
 exact(List.getElem?_inj (cI.1 h).1 c).1 (h.trans a.symm)
section ajI
variable {P:ee}
theorem acT{f:FuncId}(M:OU P f g)(amX:IY P g)(N:gw P f){n:List ez}{gs:Nat}(fo:(ba n m).size=1)(rC:(ba n m).fc 0=Y m1)
  (d:List (List Int)) (dm: ∀l∈d,U l<=1000000000):
  kF P G f [.bn n m gs (d.map (bK an)) []] [ms 0 gs 1 (bK an) d,.fn g []] (ms 0 gs 1 (bK an) (i' d)) [.bn n m gs ((i' d).map (bK an)) []]:=by
 refine⟨N,?_⟩;intro w X r S kr iy ot hT;have BM:U S=2:=hT.y4;obtain⟨gX,gN,rfl⟩: ∃a b,S=[a,b]:=by
  match S,BM with
  | [a,b],_=>exact⟨a,b,rfl⟩
 have L:=Rel.p4 (P:=P) (nt:=2) kr iy ot hT (dV _);obtain⟨T,rI,_⟩:=hT;obtain rfl:gN= .func (.func g) #[] #[]:=by
  cases rI with
  |fn _ _ S hs _=>
   have:S= #[]:=Array.eq_empty_of_size_eq_zero hs;rw[this]
 generalize BF:({tmps:=[gX,Value.func (.func g) #[] #[]].toArray++Array.replicate (2-[gX,Value.func (.func g) #[] #[]].toArray.size) undef,defers:=[]}:Act)=act at L;generalize qB:Ctx.eZ P G w X (U [E.bn n m gs (d.map (bK an)) []]) r 2=K at L;have BC:K.X=X:=by rw[<-qB];rfl
 generalize mN:Lift.p4 [E.bn n m gs (d.map (bK an)) []] [ms 0 gs 1 (bK an) d,.fn g []]=A at L;have C:A.H 0=Y (.bn n m gs (d.map (bK an)) []):=by rw[<-mN];rfl
 have tp:A.H=gx [E.bn n m gs (d.map (bK an)) []] 0:=by rw[<-mN];rfl
 have BO:own K r A.H=mh X r (gx [E.bn n m gs (d.map (bK an)) []] 0):=by funext b;rw[tp];show(K.X b\/_)=_;rw[BC];rfl
 rw[<-BO] at T;have BB:bw A.H 0 (Y (E.bn n m gs ((i' d).map (bK an)) []))=gx [E.bn n m gs ((i' d).map (bK an)) []] 0:=by
  rw[tp];funext j
  match j with
  |0=>rfl
  |j+1=>rfl
 have fin: ∀(o:Map) (bZ:bY) (v:bm),Rel K o {A with H:=bw A.H 0 (Y (.bn n m gs ((i' d).map (bK an)) []))} act bZ->bI o bZ (own K o (bw A.H 0 (Y (.bn n m gs ((i' d).map (bK an)) [])))) (ms 0 gs 1 (bK an) (i' d)) v->
   ∃u,∃_i:Unit,∃β,Ending.returned v= .returned u/\True/\Left r β [E.bn n m gs (d.map (bK an)) []] [E.bn n m gs ((i' d).map (bK an)) []] w bZ X (ms 0 gs 1 (bK an) (i' d)) u:=by
  intro o bZ v cC Q;subst qB;obtain⟨β,B3⟩:=Jl (out:=[E.bn n m gs ((i' d).map (bK an)) []]) cC (dV _) Q rfl (by
   intro id e0 R;refine⟨⟨e0,?_,mA.refl _⟩,?_⟩
   ·show bw A.H 0 _ id=_;rw[BB];exact R
   match id with
   |0=>cases R;exact⟨rfl,rfl⟩
   |k+1=>cases R)
  exact⟨_,(),β,rfl,trivial,B3⟩
 have yn:A.H 0≠al:=by rw[C];simp
 have l3:1<=gs:=(L.heap 0 _ C).2.1;have uW:=SF (sz:=1) (L.heap 0 _ C).2 fo T;rcases uW with ⟨rfl,h1,F⟩|⟨b,cap,y,B,rfl,F,rB,ry,vH,Nk,cC,MS⟩
 ·have yx:d=[]:=by simpa using h1
  subst yx;refine(M.rX al 0 w).mono ?_;rintro e1 jR ⟨rfl,rfl⟩;have e0:i' []=[]:=rfl;refine fin r _ _ ?_ ?_
  ·have:=L.HZ 0 _ C;rw[e0];exact this
  rw[e0];exact .jh 0 gs 1 l3 F
 have M4:own K r A.H b:= .inr ⟨0,yn,.inl ⟨_,F⟩⟩;rw[er] at vH;have hlen:U d<=y.size:=O
 have s: ∀(j:Nat) (q:j<U d),ei w (λx=>x=b) (.bX (d[j].map nF)) (y[j]' O):=λj q=>by
  have vL:=cC j 0 (bK an d[j]) (.bX (d[j].map nF)) _ (by rw[fG,bO q];rfl) rfl (by rw[show j*1+0=j by omega];exact jQ O);exact vL.CT (λx hx=>by rw[show x=b from hx];exact M4) λc ch e=>MS j 0 c ch e
 obtain⟨vs,tw⟩: ∃vs:Nat->bm,vs=λj=>if j<U d then y.getD j undef else .slice al 0 0:=⟨_,rfl⟩
 have Q: ∀j (q:j<U d),vs j=y[j]' O:=λj q=>by
  rw[tw];show(if j<U d then _ else _)=_;rw[bk q];simp[show j<y.size by omega]
 have ov: ∀j,(vs j).oneCell'=true:=λj=>by
  by_cases q:j<U d
  ·rw[Q j q];exact(s j q).lf
  rw[tw];show(if j<U d then _ else _:bm).oneCell'=true;rw[bh q];rfl
 have run:=M.run vs b 0 (U d) cap (ba n m).ty y (nv d) w rB O (λj q=>by rw[e6,Q j q];exact jQ O) ov vH Nk (by simp[nv]) (λj W hj0 q jc lB=>by
  have k6:Ext (λx=>x=b) w {w with heap:=W.heap}:=⟨rfl,rfl,rfl,jc,λk _ hk=>lB k hk⟩
  have e:=YO amX (w0:={w with heap:=W.heap}) (w:=W) (λ_ _ h=>h) ((s j q).mono k6 λ_ _ h=>h) ((s (j-1) O).mono k6 λ_ _ h=>h) (dm _ (gd _)) (dm _ (gd _));rw[Q j q,Q (j-1) O];have hk:(d[j]==d[j-1]' O)= !nv d j:=by
   have g1:d.getD j []=d[j]:=by rw[fZ,bO q];rfl
   have g2:d.getD (j-1) []=d[j-1]' O:=by rw[fZ,bO O];rfl
   unfold nv;rw[g1,g2]
   have:j≠0:=O
   by_cases F:d[j]=d[j-1]' O
   ·simp[this,F]
   simp[this,F]
  rw[hk] at e;exact e)
 rw[er];refine run.mono ?_;rintro e1 jR ⟨rfl,k6,gM,t,rG,Ni,anX⟩;have z:U (i' d)=U (fp (nv d) (U d)):=by unfold i';rw[er]
 have qE:=afn (nv d) (U d);obtain⟨o,al5,pO⟩:=L.pick 0 C fo rC F rB rG t k6 ((i' d).map (bK an)) (by rw[er,z];omega) (λi=>(fp (nv d) (U d))[i]?) (λi p h=>by
   have aO:=(cI.1 h).1;have hp:=af3 h;have h1:=Ni i aO;rw[e6,fZ,h,Option.getD_some,Q p hp] at h1;refine⟨by rw[er,z];exact aO,by rw[er];exact hp,?_,?_⟩
   ·rw[h1,jQ O]
   ·unfold i';rw[fG,fG,fG,h,bO hp];show Y (bK an (d.getD p []))=Y (bK an d[p]);rw[fZ,bO hp];rfl) (λi ju p h o3=>afo h o3) (λi aO h=>by
   rw[er,z] at aO;rw[bO aO] at h;cases h)
 refine fin o _ _ pO ?_;have o4:b<jR.heap.size:=(mm.1 t).1
 have:=bI.bE (β:=o) (w:=jR) (X:=own K o (bw A.H 0 (Y (.bn n m gs ((i' d).map (bK an)) [])))) 0 gs 1 0 (U (i' d)) cap b gM.size (ba n m).ty l3 (by rw[al5];exact F) o4 (by unfold World.shape?;rw[t]) O (by rw[z];omega) Nk;rw[z,jC] at this;rw[show ms 0 gs 1 (bK an) (i' d)=V.bE 0 gs 1 0 (U (fp (nv d) (U d))) by rw[<-z,show(U (i' d))=U (List.map (bK an) (i' d)) by rw[er]]];exact this
end ajI
end Go.Lift
