/- Tools. -/
import Derived.Test.YteifkndfpnkalabGreatXLiftX
import Derived.Shelf.RegionOpenPlain
import Derived.Lib.Walk
import Derived.Lib.SliceRun
import Derived.Lib.JoinLaws
import Derived.Lib.AppendZeros
import Derived.Lib.AppendZerosOnto
import Derived.Lib.Overlaps
import Derived.Laws.Externs
import Derived.Laws.IdiomCopy
import Derived.Laws.CopyRow
import Derived.Deep.WholeRow
set_option linter.unusedVariables false
namespace Go.Lift
open Go
open Option renaming some -> aa, none -> ak
open Bool renaming true -> ab
open List renaming length_append -> iJ, length_take -> mf, length_drop -> ni
open Go.Builtin renaming zeroCells -> ei
open Go.World renaming shape? -> jb
variable {K:Ctx}{β W:Map}{s:S}{a:Act}{w:World}{b L n k sz m:Nat}{o:Oper}{e t:TypeId}{G:fg}{X:Nat->Prop}{c vs:List Value}{f:FuncId}{z:Value}{Q:Exit->Act->World->Prop}
theorem Rel.move(h:Rel K β s a w)(k:Nat)(n:TypeId)(gen c:Nat)(e:List (List T))(r:s.H k=aa (.arr n gen c e))(l:Array Value)(b:List (List T))
  (m:b.length*c<=l.size) (o: ∀d,d∈b->d.length=c) (p: ∀(i j:Nat) (d:List T) (x:T) (u:Value),b[i]? =aa d->d[j]? =aa x->l[i*c+j]? =aa u->c7 w (own K β s.H) x u):
  Rel K (β.put k (aa (aa w.heap.size,gen+1))) {s with H:=a' s.H k (aa (.arr n (gen+1) c b))} a (w.alloc (.cells l n)):=
 h.Sl k _ _ gen r rfl l n (λy B C z A _ _ q _=>by subst z;exact⟨O,.inr ⟨w.heap.size,l,A,j0 _ _,m,o,λi j d x u aP a2 a3=>q _ _ (p i j d x u aP a2 a3)⟩⟩)
theorem Rel.bump(h:Rel K β s a w)(k:Nat)(p:TypeId)(gen c:Nat)(d:List (List T))(q:Option Nat)(l:β k=aa (q,gen))(m:s.H k=aa (.arr p gen c d)):
  Rel K (β.put k (aa (q,gen+1))) {s with H:=a' s.H k (aa (.arr p (gen+1) c d))} a w:=
 h.IQ k _ _ gen q l (h.heap k _ m).2.1 m (λy F r _ _ z=>by
  refine⟨O,?_⟩;rcases(h.heap k _ m).2.2 with ⟨e,n⟩|⟨b,A,e,n,B,C,D⟩
  ·rw[l] at e;cases e;exact .inl ⟨r,n⟩
  rw[l] at e;cases e;exact .inr ⟨b,A,r,n,B,C,λi j o x u aP a2 a3=>(D i j o x u aP a2 a3).mono (Ext.refl _ _) λb _=>z b⟩)
theorem zk{o:Nat}{e:List Value}{d:Array Value}(h:w.heap[b]? =aa (.cells d t (0,0)))(l:o+e.length<=d.size)(i: ∀v∈e,v.oneCell'=ab):
  w.setCells b o e=w.setRow b (d.toList.take o++e++d.toList.drop (o+e.length)).toArray:=by
 have a:=run_storeCells_at (P:=(default:Program)) b o t e 0 d w h O i;have c:=run_storeCells_cells (P:=(default:Program)) b o e 0 w (λj k=>by
  have:o+j<d.size:=O
  simp[World.cell?,h,this]) (λj k=>by simp[World.frozen?,h]) i
 rw[a] at c;simp only[Nat.add_zero] at c;injection c with _ c;exact c.symm
theorem EF{P:Program}{i:World}{a out:List E}{c:Map}{d:S}{l:Act}{r:V}{u:Value}(x:Rel (Ctx.dD P G w X a.length c L) W d l i)(F:a.length<=out.length)
  (A:bC W i (own (Ctx.dD P G w X a.length c L) W d.H) r u) (p:r.ok (fj out.length)=ab) (y:ly d.H (fj out.length) (ev out 0)): ∃B,Left c B a out w i X r u:=by
 let m:S:={t:=p7,H:=ev out 0,u:=fj out.length}
 have o:mO a.length m.u=ab:=by
  have: ∀n,n<=a.length->mO n m.u=ab:=by
   intro n;induction n with
   |zero=>intro _;rfl
   |succ n C=>intro Q;simp[mO,C O,show m.u n=ab from jg.2 O]
  exact this _ (df _)
 have bU:=x.cut (s':=m) (pf.nil _ _) y o;have c6:=Fm (K:=Ctx.dD P G w X a.length c L) (β:=W) (s:=d) (s':=m) y;refine⟨cut W m.u,?_⟩;refine⟨x.ext.weaken λb _ ⟨id,_,h⟩=>⟨id,h⟩,bU.base,bU.jK,?_,?_,bU.inj,bU.fresh,?_,A.under c6 (λ_ h=>yb h) p⟩
 ·intro k D;apply bU.d';cases q:m.u k with
  |false=>rfl
  |true=>have:=jg.1 q;omega
 ·intro k b D;apply bU.eB;cases q:m.u k with
  |false=>rfl
  |true=>have:=jg.1 q;omega
 intro k e z;exact(bU.heap k e (by rw[<-wO] at z;exact z)).2
structure AG (P:Program) (f:FuncId) (t e:TypeId) (sz:Nat) (i0:TypeInfo) (z:Value):Prop where
 nothing: ∀(base Er:Option Addr) (n c i dD:Nat) (w:World),i<=n->n<=c->c<=9223372036854775807->Calls P f #[.slice base n c,.int .i64 i,.slice Er 0 dD] w λe w'=>e= .returned (.slice base n c)/\w'=w
 tail: ∀(base Er:Option Addr) (n c m dD:Nat) (w:World) (ec:Value) (w':World),0<m->n<=c->c<=9223372036854775807->(Builtin.append_ #[t,t] t #[.slice base n c,.slice Er m dD]).run P w= .ok ec w'->
  Calls P f #[.slice base n c,.int .i64 n,.slice Er m dD] w λe gM=>e= .returned ec/\gM=w'
 room: ∀(b n c i ie m dD:Nat) (cs vs:List Value) (w:World),i<n->0<m->n+m<=c->c<=9223372036854775807->ie≠b->cs.length=n*sz->vs.length=m*sz->
  (∀j v,cs[j]? =aa v->w.cell? ⟨b,j,ak⟩=aa v)->(∀j,j<(n+m)*sz->(w.cell? ⟨b,j,ak⟩).isSome=ab)->(∀j,w.frozen? ⟨b,j,ak⟩=false)->
  (∀j v,vs[j]? =aa v->w.cell? ⟨ie,j,ak⟩=aa v)->(∀v∈cs,v.oneCell'=ab)->(∀v∈vs,v.oneCell'=ab)->
  ∀(ak0 tS:TypeId) (fM Si:Nat),w.shape? ie=aa (ak0,fM)->w.shape? b=aa (tS,Si)->Si≠0->(∀j,w.frozen? ⟨ie,j,ak⟩=false)->
  Calls P f #[.slice (aa ⟨b,0,ak⟩) n c,.int .i64 i,.slice (aa ⟨ie,0,ak⟩) m dD] w λe w'=>
   e= .returned (.slice (aa ⟨b,0,ak⟩) (n+m) c)/\w'=(w.drew.setCells b ((i+m)*sz) (cs.drop (i*sz))).setCells b (i*sz) vs
 grow: ∀(b n c i ie m dD:Nat) (cs vs:List Value) (w:World),i<n->0<m->n<=c->c<n+m->n+m<=1000000000->(n+m)*i0.bytes<=140737488355328->cs.length=n*sz->vs.length=m*sz->
  (∀j v,cs[j]? =aa v->w.cell? ⟨b,j,ak⟩=aa v)->(∀j v,vs[j]? =aa v->w.cell? ⟨ie,j,ak⟩=aa v)->(∀v∈cs,v.oneCell'=ab)->(∀v∈vs,v.oneCell'=ab)->
  Calls P f #[.slice (aa ⟨b,0,ak⟩) n c,.int .i64 i,.slice (aa ⟨ie,0,ak⟩) m dD] w λe' w'=>
   e'= .returned (.slice (aa ⟨w.heap.size,0,ak⟩) (n+m) (grownCap w (n+m) c e))/\
   w'=(((w.alloc (.cells ((cs.take (i*sz)).toArray++ei z.cells (n+m-i)++ei z.cells (grownCap w (n+m) c e-(n+m))) e)).drew.setCells w.heap.size (i*sz) vs).drew).setCells w.heap.size ((i+m)*sz) (cs.drop (i*sz))
theorem N6{i:Nat}{s v:List (List T)}{a rest:List Value}(p:s.length=n)(q:i<=n)(r:a.length=n*L)(e:c.length=v.length*L)(l:Rows L s)(d:Rows L v){R:T->Value->Prop}
  (m: ∀(i j:Nat) (b:List T) (x:T) (u:Value),s[i]? =aa b->b[j]? =aa x->a[i*L+j]? =aa u->R x u)
  (w: ∀(i j:Nat) (b:List T) (x:T) (u:Value),v[i]? =aa b->b[j]? =aa x->c[i*L+j]? =aa u->R x u):
  ∀(k j:Nat) (b:List T) (x:T) (u:Value),(s.take i++v++s.drop i)[k]? =aa b->b[j]? =aa x->(a.take (i*L)++c++a.drop (i*L)++rest)[k*L+j]? =aa u->R x u:=by
 have o:Rows L (s.take i):=λb h=>l b (gm h);have y:Rows L (s.drop i):=λb h=>l b (ft h);have z:=dR L q;have A:=BE (a.take (i*L)) c [] (rows:=s.take i) (news:=v) (n:=i) (size:=L) (by rw[c8];omega) (by rw[c8];omega) e o d (R:=R)
  (λk j b x u aP a2 a3=>by
   rw[fs] at aP a3;split at aP
   ·split at a3
    ·exact m k j b x u aP a2 a3
    cases a3
   cases aP) w
 have fC:=BE (a.take (i*L)++c) (a.drop (i*L)) rest (rows:=s.take i++v) (news:=s.drop i) (n:=i+v.length) (size:=L) (by rw[dQ,c8];omega)
  (by rw[dQ,c8,e,dN];omega) (by rw[fN,fN,r,p,ub]) (λb h=>by
   rcases eX.1 h with h|h
   ·exact o b h
   exact d b h) y (R:=R) (λk j b x u aP a2 a3=>A k j b x u aP a2 (by simpa using a3))
  (λk j b x u aP a2 a3=>by
   rw[fv] at aP a3;refine m (i+k) j b x u aP a2 ?_;rw[dN,nR];exact a3)
 intro k j b x u aP a2 a3;exact fC k j b x u aP a2 (by simpa using a3)
theorem Mb{size c:Nat}{a:Array Value}(e:w.heap[b]? =aa (.cells a t (0,0))): ∀j v,(a.toList.take (n*size))[j]? =aa v->w.cell? ⟨b,j,ak⟩=aa v:=by
 intro j v d;rw[fs] at d;split at d
 ·simp only[World.cell?,e];simpa using d
 cases d
theorem Cl{gen:Nat}{a:List (List T)}{x:Value}(B:c4 W w X k (.arr e gen sz a))(D:bC W w X (.bd k gen sz 0 a.length) x):
  (x= .slice ak 0 0/\a=[]/\W k=aa (ak,gen))\/ ∃(b c:Nat) (d:Array Value),x= .slice (aa ⟨b,0,ak⟩) a.length c/\W k=aa (aa b,gen)/\w.heap[b]? =aa (.cells d e (0,0))/\d.size=c*sz/\a.length<=c/\c<=maxLen/\
   ∀(i j:Nat) (l:List T) (y:T) (u:Value),a[i]? =aa l->l[j]? =aa y->(d.toList.take (a.length*sz))[i*sz+j]? =aa u->c7 w X y u:=by
 obtain⟨q,m⟩:=l0 B;rcases fb D m with ⟨c,b,n,F,rfl,rfl,Q,h,r,G,s⟩|⟨rfl,_,z,rfl⟩
 ·rcases B.2 with ⟨o,_⟩|⟨R,d,o,C,f,g,H⟩
  ·rw[m] at o;cases o
  rw[m] at o;cases o;have A:d.size=c*sz:=by
   unfold jb at h;rw[C] at h;simp at h;rw[<-r] at h;rw[dA] at h;exact h.2
  refine .inr ⟨b,c,d,by rw[gL],m,C,A,G,s,λi j l y u K L p=>?_⟩;rw[fs] at p;split at p
  ·exact H i j l y u K L (by simpa using p)
  cases p
 exact .inl ⟨rfl,nQ z,m⟩
theorem MN{a:List (List T)}(e:0<sz)(m:Rows sz a)(n:c.length=a.length*sz)
  (o: ∀(i j:Nat) (b:List T) (y:T) (u:Value),a[i]? =aa b->b[j]? =aa y->c[i*sz+j]? =aa u->c7 w X y u): ∀v∈c,v.oneCell'=ab:=by
 intro v p;obtain⟨k,h⟩:=jq.1 p;have d:k<a.length*sz:=by rw[<-n];exact(d6.1 h).1
 have l:k / sz<a.length:=(rP e).2 d;have q:k%sz<(a[k / sz]).length:=by rw[m _ (fV l)];exact rS _ e
 exact(o (k / sz) (k%sz) _ ((a[k / sz])[k%sz]) v (bD l) (bD q) (by rw[zR];exact h)).hP
theorem adf{cur cs:List Value}{a:Nat}(i:a<=k)(c:cs=cur.take k)(l:vs.length=m)(n:k+m<=cur.length):
  let b:=cur.take (a+m)++cs.drop a++cur.drop (a+m+(cs.drop a).length)
  b.take a++vs++b.drop (a+vs.length)=cs.take a++vs++cs.drop a++cur.drop (k+m):=by
 intro b;have d:cs.length=k:=by rw[c,c8];omega
 have e:b.take a=cs.take a:=by
  show((cur.take (a+m)++cs.drop a)++_).take a=_;rw[hf,tZ (by rw[c8];omega),List.take_take,c,List.take_take];congr 1;omega
 have h:b.drop (a+vs.length)=cs.drop a++cur.drop (k+m):=by
  show((cur.take (a+m)++cs.drop a)++_).drop _=_;rw[hf,Kt (by rw[c8];omega),jN (by rw[c8];omega),tW];congr 2;rw[fN];omega
 rw[e,h];simp
theorem ade{A0 ds:List Value}{a:Nat}{p:List Value}{q:List Value}(d:A0=p++q)(i:p.length=a)(k:vs.length=m)(l:a+m+ds.length<=A0.length):
  let b:=A0.take a++vs++A0.drop (a+vs.length)
  b.take (a+m)++ds++b.drop (a+m+ds.length)=p++vs++ds++A0.drop (a+m+ds.length):=by
 intro b;have c:A0.take a=p:=by rw[d,tZ O,jM O]
 have e:b.take (a+m)=p++vs:=by
  show((A0.take a++vs)++_).take _=_;rw[c,tZ (by rw[dQ];omega),jM (by rw[dQ];omega)]
 have h:b.drop (a+m+ds.length)=A0.drop (a+m+ds.length):=by
  show((A0.take a++vs)++_).drop _=_;rw[c,List.drop_append,jN (by rw[dQ];omega),tW,List.drop_drop,dQ];congr 1;omega
 rw[e,h]
theorem aeY{P:Program}{Tq:TypeDesc}{i0:TypeInfo}(call:ji P f)(raw:AG P f t e sz i0 z)(hu:P.underlying t=aa (.slice e))(ahc:P.info? e=aa i0)(aie:i0.zero=aa z)(oN:z.cells.size=sz)(lP:i0.size=sz)
  (ah3:P.underlying e=aa Tq) (hp:0<sz) (agX:i0.bytes<=140000) (s v R:List (List T)) (i r M:Nat) (aL:i<=s.length) (q6:app (s.take i++v) (s.drop i)=aa R) (hs:Rows sz s) (W:Rows sz v):
  hW P G f [.arr e r sz s,.arr e M sz v] [.bd 0 r sz 0 s.length,.t (.int .i64 i),.bd 1 M sz 0 v.length] (.bd 0 (r+1) sz 0 R.length) [.arr e (r+1) sz R,.arr e M sz v]:=by
 have hlen:s.length+v.length<=1000000000/\R=s.take i++v++s.drop i:=by
  unfold app at q6;split at q6
  ·rename_i h;simp at h;refine⟨O,by cases q6;rfl⟩
  cases q6
 obtain⟨hlen,vt⟩:=hlen;have oH:R.length=s.length+v.length:=by rw[vt];simp;omega
 have Rm: ∀A,A∈R->A.length=sz:=λA h=>by
  rw[vt] at h;rcases eX.1 h with h|h
  ·rcases eX.1 h with h|h
   ·exact hs A (gm h)
   exact W A h
  exact hs A (ft h)
 have hbig:(s.length+v.length)*i0.bytes<=140737488355328:=eO (nW hlen agX) (by decide);have hm':s.length+v.length<=maxLen:=by unfold maxLen;omega
 have agT:cj P e Tq z sz i0.bytes:=⟨ah3,i0,ahc,aie,lP,rfl⟩
 refine⟨call,?_⟩;intro w X C us j7 gi kK gT;have ahr:us.length=3:=gT.length;obtain⟨hU,ja,kW,rfl⟩: ∃a b c,us=[a,b,c]:=by
  match us,ahr with
  | [a,b,c],_=>exact⟨a,b,c,rfl⟩
 have h0:=Rel.l1 (P:=P) (nt:=3) j7 gi kK gT (df _);obtain⟨vH,te,R8,_⟩:=gT;obtain rfl:ja= .int .i64 i:=by
  cases te with|t _ _ h=>cases h;rfl
 generalize vw:({tmps:=[hU,Value.int .i64 i,kW].toArray++Array.replicate (3-[hU,Value.int .i64 i,kW].toArray.size) undef,defers:=[]}:Act)=act at h0;generalize lN:Ctx.dD P G w X [E.arr e r sz s,E.arr e M sz v].length C 3=K at h0;have Jm:K.P=P:=by rw[<-lN];rfl
 have sY:K.X=X:=by rw[<-lN];rfl
 generalize jj:Lift.l1 [E.arr e r sz s,E.arr e M sz v] [V.bd 0 r sz 0 s.length,V.t (.int .i64 i),V.bd 1 M sz 0 v.length]=L at h0;have N:L.H 0=aa (.arr e r sz s):=by rw[<-jj];rfl
 have Ri:L.H 1=aa (.arr e M sz v):=by rw[<-jj];rfl
 have yJ:L.H=ev [E.arr e r sz s,E.arr e M sz v] 0:=by rw[<-jj];rfl
 have JJ:own K C L.H=hQ X C (ev [E.arr e r sz s,E.arr e M sz v] 0):=by funext b;rw[yJ];show(K.X b\/_)=_;rw[sY];rfl
 rw[<-JJ] at vH R8;have sX:a' L.H 0 (aa (.arr e (r+1) sz R))=ev [E.arr e (r+1) sz R,E.arr e M sz v] 0:=by
  rw[yJ];funext j
  match j with
  |0=>rfl
  |j+1=>rfl
 have fin: ∀(s':S) (pj:Act) (β':Map) (w':World) (x:Value),s'.H=a' L.H 0 (aa (.arr e (r+1) sz R))->Rel K β' s' pj w'->bC β' w' (own K β' (a' L.H 0 (aa (.arr e (r+1) sz R)))) (.bd 0 (r+1) sz 0 R.length) x->
   ∃u,∃_i:Unit,∃β,Ending.returned x= .returned u/\True/\Left C β [E.arr e r sz s,E.arr e M sz v] [E.arr e (r+1) sz R,E.arr e M sz v] w w' X (.bd 0 (r+1) sz 0 R.length) u:=by
  intro s' pj β' w' x W b6 bx;subst lN;obtain⟨β,tf⟩:=EF (out:=[E.arr e (r+1) sz R,E.arr e M sz v]) b6 (df _) (by rw[W];exact bx) rfl (by
   intro id e0 Di;refine⟨⟨e0,?_,jQ.refl _⟩,?_⟩
   ·rw[W,sX];exact Di
   match id with
   |0=>cases Di;exact⟨rfl,rfl⟩
   |1=>cases Di;exact⟨rfl,rfl⟩
   |k+2=>cases Di)
  exact⟨x,(),β,rfl,trivial,tf⟩
 have jk:=(h0.heap 0 _ N).2.1;have pg:=Cl (h0.heap 0 _ N).2 vH;have Lj:=Cl (h0.heap 1 _ Ri).2 R8;have vq:L.H 0≠ak:=by rw[N];simp
 by_cases tc:v=[]
 ·have Rn:R=s:=by rw[vt,tc];simp
  have run: ∀TB,(∃ie dD,TB=Value.slice ie 0 dD)->Calls P f #[hU,.int .i64 i,TB] w λe w'=>e= .returned hU/\w'=w:=by
   rintro _ ⟨ie,dD,rfl⟩;rcases pg with ⟨rfl,h1,_⟩|⟨b,F,o,rfl,_,_,_,cS,bU,_⟩
   ·subst h1
    have:i=0:=by simpa using aL
    subst this;exact raw.nothing ak ie 0 0 0 dD w (df _) (df _) (by decide)
   exact raw.nothing (aa ⟨b,0,ak⟩) ie s.length F i dD w aL cS (by unfold maxLen at bU;omega)
  refine(run kW ?_).mono ?_
  ·rcases Lj with ⟨rfl,_,_⟩|⟨b,F,o,rfl,_⟩
   ·exact⟨_,_,rfl⟩
   exact⟨_,_,by rw[tc];rfl⟩
  rintro e1 gM ⟨rfl,rfl⟩;obtain⟨tE,g⟩:=l0 (h0.heap 0 _ N).2;have bw:=h0.bump 0 e r sz s tE g N;rw[<-Rn] at bw;refine fin _ _ _ _ _ rfl bw ?_;rw[Rn];rcases fb vH g with ⟨QX,b,n,iC,rfl,j9,hw,gj,pH,cS,pG⟩|⟨j9,_,JF,rfl⟩
  ·subst j9;exact .bd 0 (r+1) sz 0 _ QX b n iC O (jC _ _ _) hw gj pH cS pG
  subst j9;rw[JF];exact .ho 0 (r+1) sz O (jC _ _ _)
 have yW:0<v.length:=List.length_pos_iff.2 tc;rcases Lj with ⟨_,h1,_⟩|⟨ie,dD,d,rfl,ahN,Dj,ajV,ahx,yS,lR⟩
 ·exact br h1 tc
 have D:(d.toList.take (v.length*sz)).length=v.length*sz:=by
  have:=dR sz ahx;rw[c8];simp;omega
 have pD:=MN hp W D lR;have vG:=Mb (size:=sz) (n:=v.length) Dj (c:=0);by_cases kK:i=s.length
 ·have Ro:R=s++v:=by rw[vt,kK];simp
  obtain⟨xu,oK⟩:=Ga 0 [⟨e,sz,[]⟩] 0 N rfl rfl (.inr rfl) C act w h0;have ah':bC xu w (own K xu (a' L.H 0 (aa (.aC [⟨e,sz,[]⟩] 0 r s [])))) (.bd 0 r sz 0 s.length) hU:=by
   have h:=oK.dB 0;rw[<-vw,<-jj] at h;rw[<-jj];exact h
  have aia:bC xu w (own K xu (a' L.H 0 (aa (.aC [⟨e,sz,[]⟩] 0 r s [])))) (.bd 1 M sz 0 v.length) (.slice (aa ⟨ie,0,ak⟩) v.length dD):=by
   have h:=oK.dB 2;rw[<-vw,<-jj] at h;rw[<-jj];exact h
  rcases Cl (oK.heap 1 (.arr e M sz v) (show a' L.H 0 (aa (.aC [⟨e,sz,[]⟩] 0 r s [])) 1=_ from(cr _ _ _ _ (by decide)).trans Ri)).2 aia with ⟨_,h1,_⟩|⟨akw,akx,ajM,mH,_,RC,_,_,_,ahT⟩
  ·exact br h1 tc
  cases mH;rw[Dj] at RC;cases RC;obtain⟨ec,w',β',g1,g2,g3⟩:=oK.IP 0 [⟨e,sz,[]⟩] 0 s v [] (gen:=r) (size:=sz) (e:=e) (show a' L.H 0 (aa (.aC [⟨e,sz,[]⟩] 0 r s [])) 0=aa (.aC [⟨e,sz,[]⟩] 0 r s []) from cy _ _ _) rfl rfl t (by rw[Jm];exact hu) (by rw[Jm];exact agT) oN hs W _ _ ah' ⟨ie,0,dD,d.toList.take (v.length*sz),rfl,D,λj x hj=>by rw[dA];exact vG j x hj,pD,λi j A x y c1 c2 fi=>⟨λv bx=>by(cases bx),λ_=>ahT i j A x y c1 c2 fi⟩⟩ yW (by simp[sc,U]) hbig hm';simp only[B6] at g2 g3;have py:=g2.put (aa 0) (λi h=>by cases h;rw[<-lN];rfl) g3;obtain⟨TP,k6⟩:=MM (K:=K) (s:=({L with H:=a' L.H 0 (aa (E.aC [⟨e,sz,[]⟩] 0 (r+1) (s++v) []))}:S).put (aa 0) (.bd 0 (r+1) sz 0 (s.length+v.length))) (Γ:=[⟨e,sz,[]⟩]) (m:=0) (gen:=r+1) 0 (cy L.H 0 (aa (E.aC [⟨e,sz,[]⟩] 0 (r+1) (s++v) []))) rfl β' _ _ py;have g4:=k6.dB 0;rw[Jm] at g1;rw[F',ML] at k6 g4;simp only[B6] at k6 g4;have run:Calls P f #[hU,.int .i64 i,.slice (aa ⟨ie,0,ak⟩) v.length dD] w λe gM=>e= .returned ec/\gM=w':=by
   rcases pg with ⟨rfl,h1,_⟩|⟨b,F,o,rfl,_,_,_,cS,bU,_⟩
   ·subst h1;subst kK;exact raw.tail ak _ 0 0 _ _ w ec w' yW (df _) (by decide) g1
   subst kK;exact raw.tail _ _ s.length F _ _ w ec w' yW cS (by unfold maxLen at bU;omega) g1
  refine run.mono ?_;rintro e1 gM ⟨rfl,rfl⟩;refine fin _ _ _ _ _ (by rw[Ro];rfl) k6 ?_;rw[Ro,dQ];rw[<-vw] at g4;exact g4
 have JB:i<s.length:=O
 rcases pg with ⟨_,h1,_⟩|⟨b,F,o,rfl,g,pE,Dg,RH,RL,JL⟩
 ·subst h1;simp at JB
 have hne:ie≠b:=λe0=>by
  subst e0
  have:=h0.inj 0 1 ie (.inl ⟨_,g⟩) (.inl ⟨_,ahN⟩);omega
 have I:(o.toList.take (s.length*sz)).length=s.length*sz:=by
  have:=dR sz RH;rw[c8];simp;omega
 have Jg:=MN hp hs I JL;have oI:=Mb (size:=sz) (n:=s.length) pE (c:=0);have ahj:i*sz<=s.length*sz:=dR sz aL;have nC:((o.toList.take (s.length*sz)).drop (i*sz)).length=(s.length-i)*sz:=by rw[fN,I,ub]
 have Q': ∀y∈(o.toList.take (s.length*sz)).drop (i*sz),y.oneCell'=ab:=λy hy=>Jg y (ft hy);have Dn:(i+v.length)*sz+(s.length-i)*sz=(s.length+v.length)*sz:=by rw[<-dN];congr 1;omega
 have vy: ∀y u,c7 w (own K C L.H) y u->c7 w.drew (own K C L.H) y u:=λy u h=>h.mono (Ext.drew _ _) λ_ _ h=>h;by_cases RZ:s.length+v.length<=F
 ·have mE:(s.length+v.length)*sz<=o.size:=by rw[Dg];exact dR sz RZ
  refine(raw.room b s.length F i ie v.length dD _ _ w JB yW RZ (by unfold maxLen at RL;omega) hne I D oI (λj hj=>?_) (λj=>by simp[World.frozen?,pE]) vG Jg pD e e d.size o.size
   (by unfold jb;rw[Dj]) (by unfold jb;rw[pE]) ?_ λj=>by simp[World.frozen?,Dj]).mono ?_
  ·have:j<o.size:=O
   simp[World.cell?,pE,this]
  ·have:0<(s.length+v.length)*sz:=Nat.mul_pos O hp;omega
  rintro e1 gM ⟨rfl,B⟩;have yO:w.drew.heap[b]? =aa (.cells o e (0,0)):=pE;rw[zk yO (by rw[nC,Dn];exact mE) Q'] at B;rw[zk (setRow_heap _ _ _ _ _ _ yO) (by
   rw[D]
   have:i*sz+v.length*sz<=(s.length+v.length)*sz:=by rw[<-dN];exact dR sz O
   have h2: ∀l:List Value,l.toArray.size=l.length:=λl=>bl
   rw[h2];simp only[iJ,mf,ni,nC];simp;omega) pD,setRow_setRow] at B
  have tb:=adf (cur:=o.toList) (cs:=o.toList.take (s.length*sz)) (vs:=d.toList.take (v.length*sz)) (a:=i*sz) (m:=v.length*sz) (k:=s.length*sz) ahj rfl D (by rw[<-dN];simpa using mE);rw[<-dN,<-dN] at tb;simp only at B;rw[tb] at B;generalize yK:(o.toList.take (s.length*sz)).take (i*sz)++d.toList.take (v.length*sz)++(o.toList.take (s.length*sz)).drop (i*sz)++o.toList.drop ((s.length+v.length)*sz)=mu at B;have vu:mu.toArray.size=o.size:=by
   rw[<-yK];have h2: ∀l:List Value,l.toArray.size=l.length:=λl=>bl
   rw[h2];simp only[iJ,D,nC,ni];rw[c8,I];have h3:i*sz+(s.length-i)*sz=s.length*sz:=by rw[<-dN];congr 1;omega
   have h4:(s.length+v.length)*sz=s.length*sz+v.length*sz:=dN _ _ _;simp only[Array.length_toList];omega
  have hrel:=(xR h0).setRow 0 b (.inl ⟨_,g⟩) o e yO mu.toArray vu (.arr e r sz R) vq
   ⟨jk,Or.inr ⟨b,_,g,setRow_heap _ _ _ _ _ _ yO,by rw[vu,oH];exact mE,Rm,λk j A x u aP a2 a3=>by
    have h9:=N6 (rest:=o.toList.drop ((s.length+v.length)*sz)) rfl aL I D hs W (R:=λx u=>c7 w.drew (own K C L.H) x u) (λk j A x u dm cM fJ=>vy _ _ (JL k j A x u dm cM fJ)) (λk j A x u dm cM fJ=>vy _ _ (lR k j A x u dm cM fJ)) k j A x u (by rw[<-vt];exact aP) a2 (by rw[yK];simpa using a3);refine h9.mono ⟨rfl,rfl,rfl,bl,λkk _ hx=>setRow_other _ _ _ _ λe0=>hx ?_⟩ λ_ _ h=>h;subst e0;exact .inr ⟨0,vq,.inl ⟨_,g⟩⟩⟩⟩
  have Y:=hrel.bump 0 e r sz R (aa b) g (show a' L.H 0 (aa (.arr e r sz R)) 0=aa (.arr e r sz R) from cy _ _ _);have Jl:a' (a' L.H 0 (aa (.arr e r sz R))) 0 (aa (.arr e (r+1) sz R))=a' L.H 0 (aa (.arr e (r+1) sz R)):=by
   funext j;by_cases hj:j=0
   ·subst hj;rw[cy,cy]
   rw[cr _ _ _ _ hj,cr _ _ _ _ hj,cr _ _ _ _ hj]
  simp only[Jl] at Y;rw[<-B] at Y;refine fin _ _ _ _ _ rfl Y ?_;have jE:bC (C.put 0 (aa (aa b,r+1))) gM (own K (C.put 0 (aa (aa b,r+1))) (a' L.H 0 (aa (.arr e (r+1) sz R)))) (.bd 0 (r+1) sz 0 R.length) (.slice (aa ⟨b,0*sz,ak⟩) R.length F):=by
   refine .bd 0 (r+1) sz 0 _ F b (F*sz) e O (jC _ _ _) ?_ ?_ (by rw[dA]) O RL
   ·rw[B,setRow_size];exact(iE.1 pE).1
   unfold jb;rw[B,setRow_heap _ _ _ _ _ _ yO];simp only[vu,Dg]
  rw[gL,oH] at jE;rw[oH];exact jE
 refine(raw.grow b s.length F i ie v.length dD _ _ w JB yW RH O hlen hbig I D oI vG Jg pD).mono ?_;rintro e1 gM ⟨rfl,B⟩;generalize Rh:grownCap w (s.length+v.length) F e=mq at B;have Jk:s.length+v.length<=mq:=by rw[<-Rh];exact grownCap_ge w _ _ _
 have agO:mq<=maxLen:=by rw[<-Rh];exact grownCap_le_maxLen w _ _ _ hm'
 generalize Ra:(((o.toList.take (s.length*sz)).take (i*sz)).toArray++ei z.cells (s.length+v.length-i)++ei z.cells (mq-(s.length+v.length)):Array Value)=Q at B;have Dl:((o.toList.take (s.length*sz)).take (i*sz)).length=i*sz:=by rw[c8,I];omega
 have yH:Q.size=mq*sz:=by
  rw[<-Ra];simp only[Array.size_append,List.size_toArray,size_zeroCells,oN,Dl,<-Nat.add_mul];congr 1;omega
 have agF:Q.toList.length=mq*sz:=by rw[<-yH];simp
 have JM:(s.length+v.length)*sz<=mq*sz:=dR sz Jk;have RB:((w.alloc (.cells Q e)).drew).heap[w.heap.size]? =aa (.cells Q e (0,0)):=j0 w _;have Jz:i*sz+(d.toList.take (v.length*sz)).length<=Q.size:=by
  rw[D,yH]
  have:i*sz+v.length*sz<=(s.length+v.length)*sz:=by rw[<-dN];exact dR sz O
  omega
 rw[zk RB Jz pD] at B;have ag':=setRow_heap ((w.alloc (.cells Q e)).drew) w.heap.size Q (Q.toList.take (i*sz)++d.toList.take (v.length*sz)++Q.toList.drop (i*sz+(d.toList.take (v.length*sz)).length)).toArray e (0,0) RB;have hg2:((((w.alloc (.cells Q e)).drew).setRow w.heap.size (Q.toList.take (i*sz)++d.toList.take (v.length*sz)++Q.toList.drop (i*sz+(d.toList.take (v.length*sz)).length)).toArray).drew).heap[w.heap.size]? =_:=ag';have yY:(Q.toList.take (i*sz)++d.toList.take (v.length*sz)++Q.toList.drop (i*sz+(d.toList.take (v.length*sz)).length)).length=mq*sz:=by
  simp only[iJ,mf,ni];simp only[Array.length_toList,yH];rw[c8] at D Jz;rw[yH] at Jz;omega
 rw[zk hg2 (by
  rw[nC,Dn];have h2: ∀l:List Value,l.toArray.size=l.length:=λl=>bl
  rw[h2,yY];exact JM) Q'] at B
 have tb:=ade (A0:=Q.toList) (ds:=(o.toList.take (s.length*sz)).drop (i*sz)) (vs:=d.toList.take (v.length*sz)) (a:=i*sz) (m:=v.length*sz) (p:=(o.toList.take (s.length*sz)).take (i*sz))
  (q:=(ei z.cells (s.length+v.length-i)).toList++(ei z.cells (mq-(s.length+v.length))).toList) (by rw[<-Ra];simp) Dl D (by
   rw[nC,<-dN,Dn,agF];exact JM)
 rw[<-dN] at tb;simp only at B;rw[tb] at B;generalize yK:(o.toList.take (s.length*sz)).take (i*sz)++d.toList.take (v.length*sz)++(o.toList.take (s.length*sz)).drop (i*sz)++Q.toList.drop ((i+v.length)*sz+((o.toList.take (s.length*sz)).drop (i*sz)).length)=mu at B;have td:gM=(w.drew.drew).alloc (.cells mu.toArray e):=by
  rw[B];have h3:((((w.alloc (.cells Q e)).drew).setRow w.heap.size (Q.toList.take (i*sz)++d.toList.take (v.length*sz)++Q.toList.drop (i*sz+(d.toList.take (v.length*sz)).length)).toArray).drew).setRow w.heap.size mu.toArray=(((w.drew.drew).alloc (.cells Q e)).setRow w.heap.size (Q.toList.take (i*sz)++d.toList.take (v.length*sz)++Q.toList.drop (i*sz+(d.toList.take (v.length*sz)).length)).toArray).setRow w.heap.size mu.toArray:=rfl;rw[h3,setRow_setRow];exact World.setRow_alloc_new (w.drew.drew) Q mu.toArray e
 have vu:mu.toArray.size=mq*sz:=by
  rw[<-yK];have h2: ∀l:List Value,l.toArray.size=l.length:=λl=>bl
  rw[h2];simp only[iJ,Dl,D,nC,ni,Array.length_toList,yH];rw[Dn];have h3:i*sz+(s.length-i)*sz=s.length*sz:=by rw[<-dN];congr 1;omega
  have h4:(s.length+v.length)*sz=s.length*sz+v.length*sz:=dN _ _ _;omega
 have yS:=(xR (xR h0)).move 0 e r sz s N mu.toArray R (by rw[vu,oH];exact JM) Rm (λk j A x u aP a2 a3=>by
  have h9:=N6 (rest:=Q.toList.drop ((i+v.length)*sz+((o.toList.take (s.length*sz)).drop (i*sz)).length)) rfl aL I D hs W (R:=λx u=>c7 w.drew.drew (own K C L.H) x u)
   (λk j A x u dm cM fJ=>(vy _ _ (JL k j A x u dm cM fJ)).mono (Ext.drew _ _) λ_ _ h=>h) (λk j A x u dm cM fJ=>(vy _ _ (lR k j A x u dm cM fJ)).mono (Ext.drew _ _) λ_ _ h=>h) k j A x u (by rw[<-vt];exact aP) a2 (by rw[yK];simpa using a3)
  exact h9)
 rw[<-td] at yS;refine fin _ _ _ _ _ rfl yS ?_;have akb:(w.drew.drew).heap.size=w.heap.size:=rfl;have vB:=j0 (w.drew.drew) (.cells mu.toArray e);have jE:bC (C.put 0 (aa (aa (w.drew.drew).heap.size,r+1))) gM (own K (C.put 0 (aa (aa (w.drew.drew).heap.size,r+1))) (a' L.H 0 (aa (.arr e (r+1) sz R)))) (.bd 0 (r+1) sz 0 R.length) (.slice (aa ⟨w.heap.size,0*sz,ak⟩) R.length mq):=by
  refine .bd 0 (r+1) sz 0 _ mq w.heap.size (mq*sz) e O (jC _ _ _) ?_ ?_ (by rw[dA]) O agO
  ·rw[td];simp
  unfold jb;rw[td];rw[show((w.drew.drew).alloc (.cells mu.toArray e)).heap[w.heap.size]? =aa (.cells mu.toArray e) from vB];simp only[vu]
 rw[gL,oH] at jE;rw[oH];exact jE
theorem Pu{P:Program}{u:TypeDesc}{a:TypeInfo}(c:ji P f)(p:AG P f t e n a z)(C:P.underlying t=aa (.slice e))(q:P.info? e=aa a)(r:a.zero=aa z)(w:z.cells.size=n)(y:a.size=n)
  (A:P.underlying e=aa u) (D:0<n) (B:a.bytes<=140000) {k:Type} (b:k->List T) (d: ∀x,(b x).length=n) (s v R:List k) (i l o:Nat) (F:i<=s.length) (m:app (s.take i++v) (s.drop i)=aa R):
  hW P G f [aM e l n b s,aM e o n b v] [ms 0 l n b s,.t (.int .i64 i),ms 1 o n b v] (ms 0 (l+1) n b R) [aM e (l+1) n b R,aM e o n b v]:=by
 refine aeY c p C q r w y A D B (s.map b) (v.map b) (R.map b) i l o (by simpa using F) ?_ (Rows.map s d) (Rows.map v d);unfold app at m⊢;simp only[iJ,mf,ni,List.length_map] at m⊢;split at m
 ·rename_i h;rw[bg h];cases m;simp[List.map_append,List.map_take,List.map_drop]
 cases m
section runs
variable {P:Program}
open Go.RowKit Go.Lib
theorem ru(w:World)(s y z c:TypeId)(k b o d l:Nat)(a:Addr)(e n m:Nat)(h:List Value)
  (A:P.underlying s=aa (.slice c)) (x:(P.info? c).map (·.size)=aa k) (B:m=Nat.min e d) (C:h.length=m*k)
  (p: ∀j v,h[j]? =aa v->w.cell? (a.add j)=aa v) (D: ∀j,j<h.length->(w.cell? ⟨b,o+j,ak⟩).isSome=ab) (F: ∀j,j<h.length->w.frozen? ⟨b,o+j,ak⟩=false) (G: ∀v∈h,v.oneCell'=ab):
  (Builtin.copy_ #[s,y] z #[.slice (aa ⟨b,o,ak⟩) d l,.slice (aa a) e n]).run P w= .ok (goInt m) (w.setCells b o h):=by
 have cS:=run_loadCells_list (P:=P) w a h p;have q:=run_storeCells_cells (P:=P) b o h 0 w (by simpa using D) (by simpa using F) G;cases r:P.info? c with
 |none=>simp[r] at x
 |some i=>
  have H:i.size=k:=by simpa[r] using x
  simp[Builtin.copy_,run_underlying A,Builtin.lenOf,Builtin.firstCells,sizeOf,typeInfo,r,H,<-B,<-C,cS,q]
theorem W'(w:World){K:Act->World->Prop}(d s:Operand)(t c:TypeId)
  (e:o.op= .call {callee:= .builtin .copy,args:= #[d,s],argTypes:= #[t,c]}) (v u:Value) (i:a.eval d=v) (k:a.eval s=u)  {b:World}
  (l:(Builtin.copy_ #[t,c] o.type #[v,u]).run P w= .ok z b) (h:K (a.put o.dst z) b):o.wp P a w K Q:=by unfold Oper.wp execOp;simp only[e,resolve,invoke,builtin,Sem.run_bind,Sem.run_pure,Result.andThen_ok,List.map_toArray,List.map_cons,List.map_nil,i,k,l];exact h
theorem vl(w:World){b:Array Oper}{l:List Oper}(e:o.guard=ak)(d s:Operand)(t i:TypeId)
  (k:o.op= .call {callee:= .builtin .copy,args:= #[d,s],argTypes:= #[t,i]}) (v u:Value) (m:a.eval d=v) (n:a.eval s=u)  {c:World}
  (p:(Builtin.copy_ #[t,i] o.type #[v,u]).run P w= .ok z c) (h:wpList P b Q l (a.put o.dst z) c):wpList P b Q (o::l) a w:=
 wpList_plain e λ_ q=>W' w d s t i k v u m n p (q _ _ h)
theorem DQ{b:Array Oper}{K:Act->World->Prop}{E:Prop}
  (k:o.guard=ak) (d x:Operand) (h i:TypeId) (e:o.op=Op.call {callee:=Callee.builtin Builtin.copy,args:= #[d,x],argTypes:= #[h,i]})
  (v u:Value) (l:a.eval d=v) (m:a.eval x=u)  {c:World} (n:(Builtin.copy_ #[h,i] o.type #[v,u]).run P w= .ok z c) (p:K (a.put o.dst z) c):
  if Region.wanted o (yielded b a.tmps)=ab then Oper.wp P o a w K Q else E:=by
 have q:Region.wanted o (yielded b a.tmps)=ab:=by simp[Region.wanted,k]
 rw[bg q];unfold Oper.wp;simp[execOp,e,resolve,invoke,builtin,l,m,n,Result.andThen];exact p
theorem DE(b:Nat)(a:List Value)(o:Nat)(w:World)(h: ∀j,j<a.length->(w.cell? ⟨b,o+j,ak⟩).isSome=ab)(k:Nat)(c:(w.cell? ⟨b,k,ak⟩).isSome=ab):((w.setCells b o a).cell? ⟨b,k,ak⟩).isSome=ab:=by
 by_cases d:o<=k/\k<o+a.length
 ·have:=World.cell?_setCells_in b a o w h (k-o) O;rw[show o+(k-o)=k by omega] at this;rw[this];rfl
 rw[World.cell?_setCells_out b a o w ⟨b,k,ak⟩ λ_ _=>by show k<o\/o+a.length<=k;omega];exact c
end runs
end Go.Lift
