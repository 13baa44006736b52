/- Tools. -/
import Derived.Test.YtcihigfifglboabGreatGLiftY
import Derived.Shelf.RegionOpenPlain
import Derived.Lib.Walk
import Derived.Lib.SliceRun
import Derived.Lib.JoinLaws
import Derived.Lib.AppendZeros
import Derived.Lib.AppendZerosOnto
import Derived.Lib.Overlaps
import Derived.Laws.Externs
import Derived.Laws.IdiomCopy
import Derived.Laws.CopyRow
import Derived.Deep.WholeRow
set_option linter.unusedVariables false
namespace Go.Lift
open Go
variable {b w:World}{o:Oper}{i n k sz m:Nat}{t e:TypeId}{G:fa}{X:Nat->Prop}{a:Act}{D:Map}{c vs:List Value}{f:FuncId}{z:Value}{K:Act->World->Prop}{Q:Exit->Act->World->Prop}
theorem x1{b o:Nat}{i:List Value}{d:Array Value}(e:w.heap[b]? =some (.cells d t (0,0)))(l:o+i.length<=d.size)(h: ∀v∈i,v.oneCell'=true):
  w.setCells b o i=w.setRow b (d.toList.take o++i++d.toList.drop (o+i.length)).toArray:=by
 have a:=run_storeCells_at (P:=(default:Program)) b o t i 0 d w e O h;have c:=run_storeCells_cells (P:=(default:Program)) b o i 0 w (λj k=>by
  have:o+j<d.size:=O
  simp[World.cell?,e,this]) (λj k=>by simp[World.frozen?,e]) h
 rw[a] at c;simp only[Nat.add_zero] at c;injection c with _ c;exact c.symm
theorem Dg{P:Program}{d:World}{a out:List E}{T:Map}{c:S}{l:Act}{r:V}{u:Value}(x:Rel (Ctx.dG P G w X a.length T i) D c l d)(I:a.length<=out.length)
  (A:bn D d (own (Ctx.dG P G w X a.length T i) D c.H) r u) (p:r.ok (eX out.length)=true) (y:ll c.H (eX out.length) (eQ out 0)): ∃B,Left T B a out w d X r u:=by
 let m:S:={t:=pr,H:=eQ out 0,u:=eX out.length}
 have o:mv a.length m.u=true:=by
  have: ∀n,n<=a.length->mv n m.u=true:=by
   intro n;induction n with
   |zero=>intro _;rfl
   |succ n C=>intro L;simp[mv,C O,show m.u n=true from iR.2 O]
  exact this _ (cN _)
 have bP:=x.cut (s':=m) (oL.nil _ _) y o;have er:=D8 (K:=Ctx.dG P G w X a.length T i) (β:=D) (s:=c) (s':=m) y;refine⟨cut D m.u,?_⟩;refine⟨x.ext.weaken λb _ ⟨id,_,h⟩=>⟨id,h⟩,bP.base,bP.iK,?_,?_,bP.inj,bP.fresh,?_,A.under er (λ_ h=>wT h) p⟩
 ·intro k F;apply bP.dJ;cases q:m.u k with
  |false=>rfl
  |true=>have:=iR.1 q;omega
 ·intro k b F;apply bP.eb;cases q:m.u k with
  |false=>rfl
  |true=>have:=iR.1 q;omega
 intro k e z;exact(bP.heap k e (by rw[<-yo] at z;exact z)).2
structure y8 (P:Program) (f:FuncId) (t e:TypeId) (sz:Nat) (i0:TypeInfo) (z:Value):Prop where
 nothing: ∀(base Dm:Option Addr) (n c i dG:Nat) (w:World),i<=n->n<=c->c<=9223372036854775807->Calls P f #[.slice base n c,.int .i64 i,.slice Dm 0 dG] w λe w'=>e= .returned (.slice base n c)/\w'=w
 tail: ∀(base Dm:Option Addr) (n c m dG:Nat) (w:World) (du:Value) (w':World),0<m->n<=c->c<=9223372036854775807->(Builtin.append_ #[t,t] t #[.slice base n c,.slice Dm m dG]).run P w= .ok du w'->
  Calls P f #[.slice base n c,.int .i64 n,.slice Dm m dG] w λe gv=>e= .returned du/\gv=w'
 room: ∀(b n c i hG m dG:Nat) (cs vs:List Value) (w:World),i<n->0<m->n+m<=c->c<=9223372036854775807->hG≠b->cs.length=n*sz->vs.length=m*sz->
  (∀j v,cs[j]? =some v->w.cell? ⟨b,j,none⟩=some v)->(∀j,j<(n+m)*sz->(w.cell? ⟨b,j,none⟩).isSome=true)->(∀j,w.frozen? ⟨b,j,none⟩=false)->
  (∀j v,vs[j]? =some v->w.cell? ⟨hG,j,none⟩=some v)->(∀v∈cs,v.oneCell'=true)->(∀v∈vs,v.oneCell'=true)->
  ∀(aha sP:TypeId) (ft P4:Nat),w.shape? hG=some (aha,ft)->w.shape? b=some (sP,P4)->P4≠0->(∀j,w.frozen? ⟨hG,j,none⟩=false)->
  Calls P f #[.slice (some ⟨b,0,none⟩) n c,.int .i64 i,.slice (some ⟨hG,0,none⟩) m dG] w λe w'=>
   e= .returned (.slice (some ⟨b,0,none⟩) (n+m) c)/\w'=(w.drew.setCells b ((i+m)*sz) (cs.drop (i*sz))).setCells b (i*sz) vs
 grow: ∀(b n c i hG m dG:Nat) (cs vs:List Value) (w:World),i<n->0<m->n<=c->c<n+m->n+m<=1000000000->(n+m)*i0.bytes<=140737488355328->cs.length=n*sz->vs.length=m*sz->
  (∀j v,cs[j]? =some v->w.cell? ⟨b,j,none⟩=some v)->(∀j v,vs[j]? =some v->w.cell? ⟨hG,j,none⟩=some v)->(∀v∈cs,v.oneCell'=true)->(∀v∈vs,v.oneCell'=true)->
  Calls P f #[.slice (some ⟨b,0,none⟩) n c,.int .i64 i,.slice (some ⟨hG,0,none⟩) m dG] w λe' w'=>
   e'= .returned (.slice (some ⟨w.heap.size,0,none⟩) (n+m) (grownCap w (n+m) c e))/\
   w'=(((w.alloc (.cells ((cs.take (i*sz)).toArray++Builtin.zeroCells z.cells (n+m-i)++Builtin.zeroCells z.cells (grownCap w (n+m) c e-(n+m))) e)).drew.setCells w.heap.size (i*sz) vs).drew).setCells w.heap.size ((i+m)*sz) (cs.drop (i*sz))
theorem MN{L:Nat}{s v:List (List T)}{a rest:List Value}(q:s.length=n)(r:i<=n)(w:a.length=n*L)(l:c.length=v.length*L)(m:Rows L s)(e:Rows L v){R:T->Value->Prop}
  (o: ∀(i j:Nat) (d:List T) (x:T) (u:Value),s[i]? =some d->d[j]? =some x->a[i*L+j]? =some u->R x u)
  (y: ∀(i j:Nat) (d:List T) (x:T) (u:Value),v[i]? =some d->d[j]? =some x->c[i*L+j]? =some u->R x u):
  ∀(k j:Nat) (d:List T) (x:T) (u:Value),(s.take i++v++s.drop i)[k]? =some d->d[j]? =some x->(a.take (i*L)++c++a.drop (i*L)++rest)[k*L+j]? =some u->R x u:=by
 have p:Rows L (s.take i):=λd h=>m d (fR h);have z:Rows L (s.drop i):=λd h=>m d (eV h);have A:=dx L r;have B:=vJ (a.take (i*L)) c [] (rows:=s.take i) (news:=v) (n:=i) (size:=L) (by rw[cJ];omega) (by rw[cJ];omega) l p e (R:=R)
  (λk j d x u aJ a2 a3=>by
   rw[fy] at aJ a3;split at aJ
   ·split at a3
    ·exact o k j d x u aJ a2 a3
    cases a3
   cases aJ) y
 have fD:=vJ (a.take (i*L)++c) (a.drop (i*L)) rest (rows:=s.take i++v) (news:=s.drop i) (n:=i+v.length) (size:=L) (by rw[dB,cJ];omega)
  (by rw[dB,cJ,l,dj];omega) (by rw[e6,e6,w,q,s9]) (λd h=>by
   rcases dZ.1 h with h|h
   ·exact p d h
   exact e d h) z (R:=R) (λk j d x u aJ a2 a3=>B k j d x u aJ a2 (by simpa using a3))
  (λk j d x u aJ a2 a3=>by
   rw[fP] at aJ a3;refine o (i+k) j d x u aJ a2 ?_;rw[dj,pE];exact a3)
 intro k j d x u aJ a2 a3;exact fD k j d x u aJ a2 (by simpa using a3)
theorem Ky{b size c:Nat}{a:Array Value}(e:w.heap[b]? =some (.cells a t (0,0))): ∀j v,(a.toList.take (n*size))[j]? =some v->w.cell? ⟨b,j,none⟩=some v:=by
 intro j v d;rw[fy] at d;split at d
 ·simp only[World.cell?,e];simpa using d
 cases d
theorem F3{gen:Nat}{a:List (List T)}{x:Value}(B:cF D w X k (.arr e gen sz a))(F:bn D w X (.bc k gen sz 0 a.length) x):
  (x= .slice none 0 0/\a=[]/\D k=some (none,gen))\/ ∃(b c:Nat) (d:Array Value),x= .slice (some ⟨b,0,none⟩) a.length c/\D k=some (some b,gen)/\w.heap[b]? =some (.cells d e (0,0))/\d.size=c*sz/\a.length<=c/\c<=maxLen/\
   ∀(i j:Nat) (l:List T) (y:T) (u:Value),a[i]? =some l->l[j]? =some y->(d.toList.take (a.length*sz))[i*sz+j]? =some u->cW w X y u:=by
 obtain⟨q,m⟩:=i' B;rcases e8 F m with ⟨c,b,n,G,rfl,rfl,Q,h,r,H,s⟩|⟨rfl,_,z,rfl⟩
 ·rcases B.2 with ⟨o,_⟩|⟨R,d,o,C,U,W,I⟩
  ·rw[m] at o;cases o
  rw[m] at o;cases o;have A:d.size=c*sz:=by
   unfold World.shape? at h;rw[C] at h;simp at h;rw[<-r] at h;rw[dp] at h;exact h.2
  refine .inr ⟨b,c,d,by rw[fY],m,C,A,H,s,λi j l y u K L p=>?_⟩;rw[fy] at p;split at p
  ·exact I i j l y u K L (by simpa using p)
  cases p
 exact .inl ⟨rfl,kE z,m⟩
theorem K4{a:List (List T)}(h:0<sz)(n:Rows sz a)(o:c.length=a.length*sz)
  (p: ∀(i j:Nat) (d:List T) (y:T) (u:Value),a[i]? =some d->d[j]? =some y->c[i*sz+j]? =some u->cW w X y u): ∀v∈c,v.oneCell'=true:=by
 intro v q;obtain⟨k,l⟩:=j9.1 q;have e:k<a.length*sz:=by rw[<-o];exact(bR.1 l).1
 have m:k / sz<a.length:=(vr h).2 e;have r:k%sz<(a[k / sz]).length:=by rw[n _ (fx m)];exact Nat.mod_lt _ h
 exact(p (k / sz) (k%sz) _ ((a[k / sz])[k%sz]) v (bs m) (bs r) (by rw[Nat.div_add_mod'];exact l)).iJ
theorem ZO{cur cs:List Value}{a:Nat}(l:a<=k)(d:cs=cur.take k)(n:vs.length=m)(o:k+m<=cur.length):
  let c:=cur.take (a+m)++cs.drop a++cur.drop (a+m+(cs.drop a).length)
  c.take a++vs++c.drop (a+vs.length)=cs.take a++vs++cs.drop a++cur.drop (k+m):=by
 intro c;have e:cs.length=k:=by rw[d,cJ];omega
 have h:c.take a=cs.take a:=by
  show((cur.take (a+m)++cs.drop a)++_).take a=_;rw[ie,pB (by rw[cJ];omega),List.take_take,d,List.take_take];congr 1;omega
 have i:c.drop (a+vs.length)=cs.drop a++cur.drop (k+m):=by
  show((cur.take (a+m)++cs.drop a)++_).drop _=_;rw[ie,C2 (by rw[cJ];omega),kF (by rw[cJ];omega),sY];congr 2;rw[e6];omega
 rw[h,i];simp
theorem ZN{A0 ds:List Value}{a:Nat}{p:List Value}{q:List Value}(e:A0=p++q)(k:p.length=a)(l:vs.length=m)(n:a+m+ds.length<=A0.length):
  let c:=A0.take a++vs++A0.drop (a+vs.length)
  c.take (a+m)++ds++c.drop (a+m+ds.length)=p++vs++ds++A0.drop (a+m+ds.length):=by
 intro c;have d:A0.take a=p:=by rw[e,pB O,jd O]
 have h:c.take (a+m)=p++vs:=by
  show((A0.take a++vs)++_).take _=_;rw[d,pB (by rw[dB];omega),jd (by rw[dB];omega)]
 have i:c.drop (a+m+ds.length)=A0.drop (a+m+ds.length):=by
  show((A0.take a++vs)++_).drop _=_;rw[d,List.drop_append,kF (by rw[dB];omega),sY,List.drop_drop,dB];congr 1;omega
 rw[h,i]
theorem aa0{P:Program}{QT:TypeDesc}{i0:TypeInfo}(call:iV P f)(raw:y8 P f t e sz i0 z)(hu:P.underlying t=some (.slice e))(Hu:P.info? e=some i0)(PU:i0.zero=some z)(qm:z.cells.size=sz)(qk:i0.size=sz)
  (adM:P.underlying e=some QT) (hp:0<sz) (acE:i0.bytes<=140000) (s v R:List (List T)) (i r lC:Nat) (aH:i<=s.length) (qj:app (s.take i++v) (s.drop i)=some R) (hs:Rows sz s) (kV:Rows sz v):
  iQ P G f [.arr e r sz s,.arr e lC sz v] [.bc 0 r sz 0 s.length,.t (.int .i64 i),.bc 1 lC sz 0 v.length] (.bc 0 (r+1) sz 0 R.length) [.arr e (r+1) sz R,.arr e lC sz v]:=by
 have N:s.length+v.length<=1000000000/\R=s.take i++v++s.drop i:=by
  unfold app at qj;split at qj
  ·rename_i h;simp at h;refine⟨O,by cases qj;rfl⟩
  cases qj
 obtain⟨N,um⟩:=N;have W:R.length=s.length+v.length:=by rw[um];simp;omega
 have Pn: ∀A,A∈R->A.length=sz:=λA h=>by
  rw[um] at h;rcases dZ.1 h with h|h
  ·rcases dZ.1 h with h|h
   ·exact hs A (fR h)
   exact kV A h
  exact hs A (eV h)
 have hbig:(s.length+v.length)*i0.bytes<=140737488355328:=gr (nz N acE) (by decide);have hm':s.length+v.length<=maxLen:=by unfold maxLen;omega
 have acy:cd P e QT z sz i0.bytes:=⟨adM,i0,Hu,PU,qk,rfl⟩
 refine⟨call,?_⟩;intro w X C us jV ha ks fM;have ac7:us.length=3:=fM.length;obtain⟨hM,fZ,ih,rfl⟩: ∃a b c,us=[a,b,c]:=by
  match us,ac7 with
  | [a,b,c],_=>exact⟨a,b,c,rfl⟩
 have h0:=Rel.lQ (P:=P) (nt:=3) jV ha ks fM (cN _);obtain⟨sj,sk,PT,_⟩:=fM;obtain rfl:fZ= .int .i64 i:=by
  cases sk with|t _ _ h=>cases h;rfl
 generalize Hl:({tmps:=[hM,Value.int .i64 i,ih].toArray++Array.replicate (3-[hM,Value.int .i64 i,ih].toArray.size) undef,defers:=[]}:Act)=act at h0;generalize me:Ctx.dG P G w X [E.arr e r sz s,E.arr e lC sz v].length C 3=K at h0;have He:K.P=P:=by rw[<-me];rfl
 have r8:K.X=X:=by rw[<-me];rfl
 generalize kS:Lift.lQ [E.arr e r sz s,E.arr e lC sz v] [V.bc 0 r sz 0 s.length,V.t (.int .i64 i),V.bc 1 lC sz 0 v.length]=L at h0;have Y:L.H 0=some (.arr e r sz s):=by rw[<-kS];rfl
 have acr:L.H 1=some (.arr e lC sz v):=by rw[<-kS];rfl
 have xn:L.H=eQ [E.arr e r sz s,E.arr e lC sz v] 0:=by rw[<-kS];rfl
 have HM:own K C L.H=lN X C (eQ [E.arr e r sz s,E.arr e lC sz v] 0):=by funext b;rw[xn];show(K.X b\/_)=_;rw[r8];rfl
 rw[<-HM] at sj PT;have r7:aU L.H 0 (some (.arr e (r+1) sz R))=eQ [E.arr e (r+1) sz R,E.arr e lC sz v] 0:=by
  rw[xn];funext j
  match j with
  |0=>rfl
  |j+1=>rfl
 have fin: ∀(β':Map) (w':World) (x:Value),Rel K β' {L with H:=aU L.H 0 (some (.arr e (r+1) sz R))} act w'->bn β' w' (own K β' (aU L.H 0 (some (.arr e (r+1) sz R)))) (.bc 0 (r+1) sz 0 R.length) x->
   ∃u,∃_i:Unit,∃β,Ending.returned x= .returned u/\True/\Left C β [E.arr e r sz s,E.arr e lC sz v] [E.arr e (r+1) sz R,E.arr e lC sz v] w w' X (.bc 0 (r+1) sz 0 R.length) u:=by
  intro β' w' x b7 bJ;subst me;obtain⟨β,sn⟩:=Dg (out:=[E.arr e (r+1) sz R,E.arr e lC sz v]) b7 (cN _) bJ rfl (by
   intro id e0 BE;refine⟨⟨e0,?_,jh.refl _⟩,?_⟩
   ·show aU L.H 0 _ id=_;rw[r7];exact BE
   match id with
   |0=>cases BE;exact⟨rfl,rfl⟩
   |1=>cases BE;exact⟨rfl,rfl⟩
   |k+2=>cases BE)
  exact⟨x,(),β,rfl,trivial,sn⟩
 have iB:=(h0.heap 0 _ Y).2.1;have oM:=F3 (h0.heap 0 _ Y).2 sj;have JK:=F3 (h0.heap 1 _ acr).2 PT;have Bz:L.H 0≠none:=by rw[Y];simp
 by_cases ux:v=[]
 ·have Po:R=s:=by rw[um,ux];simp
  have run: ∀Q3,(∃hG dG,Q3=Value.slice hG 0 dG)->Calls P f #[hM,.int .i64 i,Q3] w λe w'=>e= .returned hM/\w'=w:=by
   rintro _ ⟨hG,dG,rfl⟩;rcases oM with ⟨rfl,h1,_⟩|⟨b,F,o,rfl,_,_,_,cD,bP,_⟩
   ·subst h1
    have:i=0:=by simpa using aH
    subst this;exact raw.nothing none hG 0 0 0 dG w (cN _) (cN _) (by decide)
   exact raw.nothing (some ⟨b,0,none⟩) hG s.length F i dG w aH cD (by unfold maxLen at bP;omega)
  refine(run ih ?_).mono ?_
  ·rcases JK with ⟨rfl,_,_⟩|⟨b,F,o,rfl,_⟩
   ·exact⟨_,_,rfl⟩
   exact⟨_,_,by rw[ux];rfl⟩
  rintro e1 gv ⟨rfl,rfl⟩;obtain⟨oo,Q⟩:=i' (h0.heap 0 _ Y).2;have a8:=h0.bump 0 e r sz s oo Q Y;rw[<-Po] at a8;refine fin _ _ _ a8 ?_;rw[Po];rcases e8 sj Q with ⟨xa,b,n,hh,rfl,kq,hw,hZ,sd,cD,mg⟩|⟨kq,_,HE,rfl⟩
  ·subst kq;exact .bc 0 (r+1) sz 0 _ xa b n hh O (iT _ _ _) hw hZ sd cD mg
  subst kq;rw[HE];exact .hd 0 (r+1) sz O (iT _ _ _)
 have BN:0<v.length:=List.length_pos_iff.2 ux;rcases JK with ⟨_,h1,_⟩|⟨hG,dG,d,rfl,adx,Ht,af8,ada,sb,kU⟩
 ·exact bA h1 ux
 have D:(d.toList.take (v.length*sz)).length=v.length*sz:=by
  have:=dx sz ada;rw[cJ];simp;omega
 have oV:=K4 hp kV D kU;have uy:=Ky (size:=sz) (n:=v.length) Ht (c:=0);by_cases ks:i=s.length
 ·have acx:R=s++v:=by rw[um,ks];simp
  have adG:Src w (own K C L.H) sz v (.slice (some ⟨hG,0,none⟩) v.length dG):=
   .inr ⟨hG,0,dG,d.toList.take (v.length*sz),rfl,D,λj x hj=>by rw[dp];exact uy j x hj,oV,kU⟩
  obtain⟨du,w',β',g1,g2,g3⟩:=h0.append 0 s v Y t (by rw[He];exact hu) (by rw[He];exact acy) qm hs kV _ _ sj (.inl adG) hbig hm';rw[He] at g1;rw[<-acx] at g2 g3;rw[<-W] at g3;have run:Calls P f #[hM,.int .i64 i,.slice (some ⟨hG,0,none⟩) v.length dG] w λe gv=>e= .returned du/\gv=w':=by
   rcases oM with ⟨rfl,h1,_⟩|⟨b,F,o,rfl,_,_,_,cD,bP,_⟩
   ·subst h1;subst ks;exact raw.tail none _ 0 0 _ _ w du w' BN (cN _) (by decide) g1
   subst ks;exact raw.tail _ _ s.length F _ _ w du w' BN cD (by unfold maxLen at bP;omega) g1
  refine run.mono ?_;rintro e1 gv ⟨rfl,rfl⟩;exact fin _ _ _ g2 g3
 have Hv:i<s.length:=O
 rcases oM with ⟨_,h1,_⟩|⟨b,F,o,rfl,Q,oX,BB,PA,PC,HQ⟩
 ·subst h1;simp at Hv
 have hne:hG≠b:=λe0=>by
  subst e0
  have:=h0.inj 0 1 hG (.inl ⟨_,Q⟩) (.inl ⟨_,adx⟩);omega
 have U:(o.toList.take (s.length*sz)).length=s.length*sz:=by
  have:=dx sz PA;rw[cJ];simp;omega
 have G':=K4 hp hs U HQ;have kT:=Ky (size:=sz) (n:=s.length) oX (c:=0);have acZ:i*sz<=s.length*sz:=dx sz aH;have nh:((o.toList.take (s.length*sz)).drop (i*sz)).length=(s.length-i)*sz:=by rw[e6,U,s9]
 have Pc: ∀y∈(o.toList.take (s.length*sz)).drop (i*sz),y.oneCell'=true:=λy hy=>G' y (eV hy);have S:(i+v.length)*sz+(s.length-i)*sz=(s.length+v.length)*sz:=by rw[<-dj];congr 1;omega
 have uu: ∀y u,cW w (own K C L.H) y u->cW w.drew (own K C L.H) y u:=λy u h=>h.mono (Ext.drew _ _) λ_ _ h=>h;by_cases PN:s.length+v.length<=F
 ·have ni:(s.length+v.length)*sz<=o.size:=by rw[BB];exact dx sz PN
  refine(raw.room b s.length F i hG v.length dG _ _ w Hv BN PN (by unfold maxLen at PC;omega) hne U D kT (λj hj=>?_) (λj=>by simp[World.frozen?,oX]) uy G' oV e e d.size o.size
   (by unfold World.shape?;rw[Ht]) (by unfold World.shape?;rw[oX]) ?_ λj=>by simp[World.frozen?,Ht]).mono ?_
  ·have:j<o.size:=O
   simp[World.cell?,oX,this]
  ·have:0<(s.length+v.length)*sz:=Nat.mul_pos O hp;omega
  rintro e1 gv ⟨rfl,B⟩;have xq:w.drew.heap[b]? =some (.cells o e (0,0)):=oX;rw[x1 xq (by rw[nh,S];exact ni) Pc] at B;rw[x1 (setRow_heap _ _ _ _ _ _ xq) (by
   rw[D]
   have:i*sz+v.length*sz<=(s.length+v.length)*sz:=by rw[<-dj];exact dx sz O
   have h2: ∀l:List Value,l.toArray.size=l.length:=λl=>aX
   rw[h2];simp only[List.length_append,List.length_take,List.length_drop,nh];simp;omega) oV,setRow_setRow] at B
  have xA:=ZO (cur:=o.toList) (cs:=o.toList.take (s.length*sz)) (vs:=d.toList.take (v.length*sz)) (a:=i*sz) (m:=v.length*sz) (k:=s.length*sz) acZ rfl D (by rw[<-dj];simpa using ni);rw[<-dj,<-dj] at xA;simp only at B;rw[xA] at B;generalize xo:(o.toList.take (s.length*sz)).take (i*sz)++d.toList.take (v.length*sz)++(o.toList.take (s.length*sz)).drop (i*sz)++o.toList.drop ((s.length+v.length)*sz)=l6 at B;have uo:l6.toArray.size=o.size:=by
   rw[<-xo];have h2: ∀l:List Value,l.toArray.size=l.length:=λl=>aX
   rw[h2];simp only[List.length_append,D,nh,List.length_drop];rw[cJ,U];have h3:i*sz+(s.length-i)*sz=s.length*sz:=by rw[<-dj];congr 1;omega
   have h4:(s.length+v.length)*sz=s.length*sz+v.length*sz:=dj _ _ _;simp only[Array.length_toList];omega
  have hrel:=(vN h0).setRow 0 b (.inl ⟨_,Q⟩) o e xq l6.toArray uo (.arr e r sz R) Bz
   ⟨iB,Or.inr ⟨b,_,Q,setRow_heap _ _ _ _ _ _ xq,by rw[uo,W];exact ni,Pn,λk j A x u aJ a2 a3=>by
    have h9:=MN (rest:=o.toList.drop ((s.length+v.length)*sz)) rfl aH U D hs kV (R:=λx u=>cW w.drew (own K C L.H) x u) (λk j A x u cT cu eN=>uu _ _ (HQ k j A x u cT cu eN)) (λk j A x u cT cu eN=>uu _ _ (kU k j A x u cT cu eN)) k j A x u (by rw[<-um];exact aJ) a2 (by rw[xo];simpa using a3);refine h9.mono ⟨rfl,rfl,rfl,aX,λkk _ hx=>setRow_other _ _ _ _ λe0=>hx ?_⟩ λ_ _ h=>h;subst e0;exact .inr ⟨0,Bz,.inl ⟨_,Q⟩⟩⟩⟩
  have g:=hrel.bump 0 e r sz R (some b) Q (show aU L.H 0 (some (.arr e r sz R)) 0=some (.arr e r sz R) from bW _ _ _);have xl:aU (aU L.H 0 (some (.arr e r sz R))) 0 (some (.arr e (r+1) sz R))=aU L.H 0 (some (.arr e (r+1) sz R)):=by
   funext j;by_cases hj:j=0
   ·subst hj;rw[bW,bW]
   rw[bX _ _ _ _ hj,bX _ _ _ _ hj,bX _ _ _ _ hj]
  simp only[xl] at g;rw[<-B] at g;refine fin _ _ _ g ?_;have h7:bn (C.put 0 (some (some b,r+1))) gv (own K (C.put 0 (some (some b,r+1))) (aU L.H 0 (some (.arr e (r+1) sz R)))) (.bc 0 (r+1) sz 0 R.length) (.slice (some ⟨b,0*sz,none⟩) R.length F):=by
   refine .bc 0 (r+1) sz 0 _ F b (F*sz) e O (iT _ _ _) ?_ ?_ (by rw[dp]) O PC
   ·rw[B,setRow_size];exact(jc.1 oX).1
   unfold World.shape?;rw[B,setRow_heap _ _ _ _ _ _ xq];simp only[uo,BB]
  rw[fY,W] at h7;rw[W];exact h7
 refine(raw.grow b s.length F i hG v.length dG _ _ w Hv BN PA O N hbig U D kT uy G' oV).mono ?_;rintro e1 gv ⟨rfl,B⟩;generalize Pj:grownCap w (s.length+v.length) F e=l5 at B;have Hd:s.length+v.length<=l5:=by rw[<-Pj];exact grownCap_ge w _ _ _
 have acq:l5<=maxLen:=by rw[<-Pj];exact grownCap_le_maxLen w _ _ _ hm'
 generalize Pd:(((o.toList.take (s.length*sz)).take (i*sz)).toArray++Builtin.zeroCells z.cells (s.length+v.length-i)++Builtin.zeroCells z.cells (l5-(s.length+v.length)):Array Value)=I at B;have BL:((o.toList.take (s.length*sz)).take (i*sz)).length=i*sz:=by rw[cJ,U];omega
 have xk:I.size=l5*sz:=by
  rw[<-Pd];simp only[Array.size_append,List.size_toArray,size_zeroCells,qm,BL,<-Nat.add_mul];congr 1;omega
 have acg:I.toList.length=l5*sz:=by rw[<-xk];simp
 have HR:(s.length+v.length)*sz<=l5*sz:=dx sz Hd;have Pv:((w.alloc (.cells I e)).drew).heap[w.heap.size]? =some (.cells I e (0,0)):=jl w _;have M:i*sz+(d.toList.take (v.length*sz)).length<=I.size:=by
  rw[D,xk]
  have:i*sz+v.length*sz<=(s.length+v.length)*sz:=by rw[<-dj];exact dx sz O
  omega
 rw[x1 Pv M oV] at B;have acR:=setRow_heap ((w.alloc (.cells I e)).drew) w.heap.size I (I.toList.take (i*sz)++d.toList.take (v.length*sz)++I.toList.drop (i*sz+(d.toList.take (v.length*sz)).length)).toArray e (0,0) Pv;have hg2:((((w.alloc (.cells I e)).drew).setRow w.heap.size (I.toList.take (i*sz)++d.toList.take (v.length*sz)++I.toList.drop (i*sz+(d.toList.take (v.length*sz)).length)).toArray).drew).heap[w.heap.size]? =_:=acR;have xE:(I.toList.take (i*sz)++d.toList.take (v.length*sz)++I.toList.drop (i*sz+(d.toList.take (v.length*sz)).length)).length=l5*sz:=by
  simp only[List.length_append,List.length_take,List.length_drop];simp only[Array.length_toList,xk];rw[cJ] at D M;rw[xk] at M;omega
 rw[x1 hg2 (by
  rw[nh,S];have h2: ∀l:List Value,l.toArray.size=l.length:=λl=>aX
  rw[h2,xE];exact HR) Pc] at B
 have xA:=ZN (A0:=I.toList) (ds:=(o.toList.take (s.length*sz)).drop (i*sz)) (vs:=d.toList.take (v.length*sz)) (a:=i*sz) (m:=v.length*sz) (p:=(o.toList.take (s.length*sz)).take (i*sz))
  (q:=(Builtin.zeroCells z.cells (s.length+v.length-i)).toList++(Builtin.zeroCells z.cells (l5-(s.length+v.length))).toList) (by rw[<-Pd];simp) BL D (by
   rw[nh,<-dj,S,acg];exact HR)
 rw[<-dj] at xA;simp only at B;rw[xA] at B;generalize xo:(o.toList.take (s.length*sz)).take (i*sz)++d.toList.take (v.length*sz)++(o.toList.take (s.length*sz)).drop (i*sz)++I.toList.drop ((i+v.length)*sz+((o.toList.take (s.length*sz)).drop (i*sz)).length)=l6 at B;have xB:gv=(w.drew.drew).alloc (.cells l6.toArray e):=by
  rw[B];have h3:((((w.alloc (.cells I e)).drew).setRow w.heap.size (I.toList.take (i*sz)++d.toList.take (v.length*sz)++I.toList.drop (i*sz+(d.toList.take (v.length*sz)).length)).toArray).drew).setRow w.heap.size l6.toArray=(((w.drew.drew).alloc (.cells I e)).setRow w.heap.size (I.toList.take (i*sz)++d.toList.take (v.length*sz)++I.toList.drop (i*sz+(d.toList.take (v.length*sz)).length)).toArray).setRow w.heap.size l6.toArray:=rfl;rw[h3,setRow_setRow];exact World.setRow_alloc_new (w.drew.drew) I l6.toArray e
 have uo:l6.toArray.size=l5*sz:=by
  rw[<-xo];have h2: ∀l:List Value,l.toArray.size=l.length:=λl=>aX
  rw[h2];simp only[List.length_append,BL,D,nh,List.length_drop,Array.length_toList,xk];rw[S];have h3:i*sz+(s.length-i)*sz=s.length*sz:=by rw[<-dj];congr 1;omega
  have h4:(s.length+v.length)*sz=s.length*sz+v.length*sz:=dj _ _ _;omega
 have sb:=(vN (vN h0)).move 0 e r sz s Y l6.toArray R (by rw[uo,W];exact HR) Pn (λk j A x u aJ a2 a3=>by
  have h9:=MN (rest:=I.toList.drop ((i+v.length)*sz+((o.toList.take (s.length*sz)).drop (i*sz)).length)) rfl aH U D hs kV (R:=λx u=>cW w.drew.drew (own K C L.H) x u)
   (λk j A x u cT cu eN=>(uu _ _ (HQ k j A x u cT cu eN)).mono (Ext.drew _ _) λ_ _ h=>h) (λk j A x u cT cu eN=>(uu _ _ (kU k j A x u cT cu eN)).mono (Ext.drew _ _) λ_ _ h=>h) k j A x u (by rw[<-um];exact aJ) a2 (by rw[xo];simpa using a3)
  exact h9)
 rw[<-xB] at sb;refine fin _ _ _ sb ?_;have agm:(w.drew.drew).heap.size=w.heap.size:=rfl;have ql:=jl (w.drew.drew) (.cells l6.toArray e);have h7:bn (C.put 0 (some (some (w.drew.drew).heap.size,r+1))) gv (own K (C.put 0 (some (some (w.drew.drew).heap.size,r+1))) (aU L.H 0 (some (.arr e (r+1) sz R)))) (.bc 0 (r+1) sz 0 R.length) (.slice (some ⟨w.heap.size,0*sz,none⟩) R.length l5):=by
  refine .bc 0 (r+1) sz 0 _ l5 w.heap.size (l5*sz) e O (iT _ _ _) ?_ ?_ (by rw[dp]) O acq
  ·rw[xB];simp
  unfold World.shape?;rw[xB];rw[show((w.drew.drew).alloc (.cells l6.toArray e)).heap[w.heap.size]? =some (.cells l6.toArray e) from ql];simp only[uo]
 rw[fY,W] at h7;rw[W];exact h7
theorem NK{P:Program}{u:TypeDesc}{a:TypeInfo}(d:iV P f)(q:y8 P f t e n a z)(D:P.underlying t=some (.slice e))(r:P.info? e=some a)(w:a.zero=some z)(y:z.cells.size=n)(A:a.size=n)
  (B:P.underlying e=some u) (F:0<n) (C:a.bytes<=140000) {k:Type} (c:k->List T) (l: ∀x,(c x).length=n) (s v R:List k) (i m p:Nat) (H:i<=s.length) (o:app (s.take i++v) (s.drop i)=some R):
  iQ P G f [aE e m n c s,aE e p n c v] [ms 0 m n c s,.t (.int .i64 i),ms 1 p n c v] (ms 0 (m+1) n c R) [aE e (m+1) n c R,aE e p n c v]:=by
 refine aa0 d q D r w y A B F C (s.map c) (v.map c) (R.map c) i m p (by simpa using H) ?_ (Rows.map s l) (Rows.map v l);unfold app at o⊢;simp only[List.length_append,List.length_take,List.length_drop,List.length_map] at o⊢;split at o
 ·rename_i h;rw[a1 h];cases o;simp[List.map_append,List.map_take,List.map_drop]
 cases o
section runs
variable {P:Program}
open Go.RowKit Go.Lib
theorem qG(w:World)(s y z c:TypeId)(k b o d l:Nat)(a:Addr)(e n m:Nat)(h:List Value)
  (A:P.underlying s=some (.slice c)) (x:(P.info? c).map (·.size)=some k) (B:m=Nat.min e d) (C:h.length=m*k)
  (p: ∀j v,h[j]? =some v->w.cell? (a.add j)=some v) (D: ∀j,j<h.length->(w.cell? ⟨b,o+j,none⟩).isSome=true) (F: ∀j,j<h.length->w.frozen? ⟨b,o+j,none⟩=false) (G: ∀v∈h,v.oneCell'=true):
  (Builtin.copy_ #[s,y] z #[.slice (some ⟨b,o,none⟩) d l,.slice (some a) e n]).run P w= .ok (goInt m) (w.setCells b o h):=by
 have cD:=run_loadCells_list (P:=P) w a h p;have q:=run_storeCells_cells (P:=P) b o h 0 w (by simpa using D) (by simpa using F) G;cases r:P.info? c with
 |none=>simp[r] at x
 |some i=>
  have H:i.size=k:=by simpa[r] using x
  simp[Builtin.copy_,run_underlying A,Builtin.lenOf,Builtin.firstCells,sizeOf,typeInfo,r,H,<-B,<-C,cD,q]
theorem TW(w:World)(d s:Operand)(t c:TypeId)
  (e:o.op= .call {callee:= .builtin .copy,args:= #[d,s],argTypes:= #[t,c]}) (v u:Value) (i:a.eval d=v) (k:a.eval s=u)  
  (l:(Builtin.copy_ #[t,c] o.type #[v,u]).run P w= .ok z b) (h:K (a.put o.dst z) b):o.wp P a w K Q:=by unfold Oper.wp execOp;simp only[e,resolve,invoke,builtin,Sem.run_bind,Sem.run_pure,Result.andThen_ok,List.map_toArray,List.map_cons,List.map_nil,i,k,l];exact h
theorem uj(w:World){V:Array Oper}{l:List Oper}(c:o.guard=none)(d s:Operand)(t e:TypeId)
  (i:o.op= .call {callee:= .builtin .copy,args:= #[d,s],argTypes:= #[t,e]}) (v u:Value) (k:a.eval d=v) (m:a.eval s=u)  
  (n:(Builtin.copy_ #[t,e] o.type #[v,u]).run P w= .ok z b) (h:wpList P V Q l (a.put o.dst z) b):wpList P V Q (o::l) a w:=
 wpList_plain c λ_ p=>TW w d s t e i v u k m n (p _ _ h)
theorem Cl{V:Array Oper}{E:Prop}
  (i:o.guard=none) (d x:Operand) (e h:TypeId) (c:o.op=Op.call {callee:=Callee.builtin Builtin.copy,args:= #[d,x],argTypes:= #[e,h]})
  (v u:Value) (k:a.eval d=v) (l:a.eval x=u)   (m:(Builtin.copy_ #[e,h] o.type #[v,u]).run P w= .ok z b) (n:K (a.put o.dst z) b):
  if Region.wanted o (yielded V a.tmps)=true then Oper.wp P o a w K Q else E:=by
 have p:Region.wanted o (yielded V a.tmps)=true:=by simp[Region.wanted,i]
 rw[a1 p];unfold Oper.wp;simp[execOp,c,resolve,invoke,builtin,k,l,m,Result.andThen];exact n
theorem BZ(b:Nat)(a:List Value)(o:Nat)(w:World)(h: ∀j,j<a.length->(w.cell? ⟨b,o+j,none⟩).isSome=true)(k:Nat)(c:(w.cell? ⟨b,k,none⟩).isSome=true):((w.setCells b o a).cell? ⟨b,k,none⟩).isSome=true:=by
 by_cases d:o<=k/\k<o+a.length
 ·have:=World.cell?_setCells_in b a o w h (k-o) O;rw[show o+(k-o)=k by omega] at this;rw[this];rfl
 rw[World.cell?_setCells_out b a o w ⟨b,k,none⟩ λ_ _=>by show k<o\/o+a.length<=k;omega];exact c
end runs
end Go.Lift
