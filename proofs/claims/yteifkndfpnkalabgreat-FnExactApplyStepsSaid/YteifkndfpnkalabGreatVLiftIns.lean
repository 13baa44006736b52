/- Tools. -/
import Derived.Test.YteifkndfpnkalabGreatVLiftX
import Derived.Shelf.RegionOpenPlain
import Derived.Lib.Walk
import Derived.Lib.SliceRun
import Derived.Lib.JoinLaws
import Derived.Lib.AppendZeros
import Derived.Lib.AppendZerosOnto
import Derived.Lib.Overlaps
import Derived.Laws.Externs
import Derived.Laws.IdiomCopy
import Derived.Laws.CopyRow
import Derived.Deep.WholeRow
set_option linter.unusedVariables false
namespace Go.Lift
open Go
open Option renaming some -> aa, none -> ak
open Bool renaming true -> ab
open List renaming length_append -> iI, length_take -> mi, length_drop -> nj
open Go.Builtin renaming zeroCells -> eh
open Go.World renaming shape? -> iZ
variable {K:Ctx}{β:Map}{s:S}{a:Act}{w c:World}{b L n k sz m:Nat}{o:Oper}{e t:TypeId}{G:fh}{X:Nat->Prop}{vs:List Value}{f:FuncId}{z:Value}{Q:Exit->Act->World->Prop}
theorem Rel.move(h:Rel K β s a w)(k:Nat)(n:TypeId)(gen c:Nat)(e:List (List T))(r:s.H k=aa (.arr n gen c e))(l:Array Value)(b:List (List T))
  (m:b.length*c<=l.size) (o: ∀d,d∈b->d.length=c) (p: ∀(i j:Nat) (d:List T) (x:T) (u:Value),b[i]? =aa d->d[j]? =aa x->l[i*c+j]? =aa u->c8 w (own K β s.H) x u):
  Rel K (β.put k (aa (aa w.heap.size,gen+1))) {s with H:=bb s.H k (aa (.arr n (gen+1) c b))} a (w.alloc (.cells l n)):=
 h.Sm k _ _ gen r rfl l n (λy B C z A _ _ q _=>by subst z;exact⟨O,.inr ⟨w.heap.size,l,A,j2 _ _,m,o,λi j d x u aP a2 a3=>q _ _ (p i j d x u aP a2 a3)⟩⟩)
theorem Rel.bump(h:Rel K β s a w)(k:Nat)(p:TypeId)(gen c:Nat)(d:List (List T))(q:Option Nat)(l:β k=aa (q,gen))(m:s.H k=aa (.arr p gen c d)):
  Rel K (β.put k (aa (q,gen+1))) {s with H:=bb s.H k (aa (.arr p (gen+1) c d))} a w:=
 h.IX k _ _ gen q l (h.heap k _ m).2.1 m (λy F r _ _ z=>by
  refine⟨O,?_⟩;rcases(h.heap k _ m).2.2 with ⟨e,n⟩|⟨b,A,e,n,B,C,D⟩
  ·rw[l] at e;cases e;exact .inl ⟨r,n⟩
  rw[l] at e;cases e;exact .inr ⟨b,A,r,n,B,C,λi j o x u aP a2 a3=>(D i j o x u aP a2 a3).mono (Ext.refl _ _) λb _=>z b⟩)
theorem ze{o:Nat}{e:List Value}{d:Array Value}(h:w.heap[b]? =aa (.cells d t (0,0)))(l:o+e.length<=d.size)(i: ∀v∈e,v.oneCell'=ab):
  w.setCells b o e=w.setRow b (d.toList.take o++e++d.toList.drop (o+e.length)).toArray:=by
 have a:=run_storeCells_at (P:=(default:Program)) b o t e 0 d w h O i;have c:=run_storeCells_cells (P:=(default:Program)) b o e 0 w (λj k=>by
  have:o+j<d.size:=O
  simp[World.cell?,h,this]) (λj k=>by simp[World.frozen?,h]) i
 rw[a] at c;simp only[Nat.add_zero] at c;injection c with _ c;exact c.symm
theorem EO{P:Program}{i:World}{a out:List E}{c U:Map}{d:S}{l:Act}{r:V}{u:Value}(x:Rel (Ctx.dB P G w X a.length c L) U d l i)(F:a.length<=out.length)
  (A:bB U i (own (Ctx.dB P G w X a.length c L) U d.H) r u) (p:r.ok (fj out.length)=ab) (y:lD d.H (fj out.length) (eu out 0)): ∃B,Left c B a out w i X r u:=by
 let m:S:={t:=pW,H:=eu out 0,u:=fj out.length}
 have o:mR a.length m.u=ab:=by
  have: ∀n,n<=a.length->mR n m.u=ab:=by
   intro n;induction n with
   |zero=>intro _;rfl
   |succ n C=>intro Q;simp[mR,C O,show m.u n=ab from je.2 O]
  exact this _ (df _)
 have bW:=x.cut (s':=m) (pd.nil _ _) y o;have ep:=Fv (K:=Ctx.dB P G w X a.length c L) (β:=U) (s:=d) (s':=m) y;refine⟨cut U m.u,?_⟩;refine⟨x.ext.weaken λb _ ⟨id,_,h⟩=>⟨id,h⟩,bW.base,bW.jL,?_,?_,bW.inj,bW.fresh,?_,A.under ep (λ_ h=>x8 h) p⟩
 ·intro k D;apply bW.dY;cases q:m.u k with
  |false=>rfl
  |true=>have:=je.1 q;omega
 ·intro k b D;apply bW.eB;cases q:m.u k with
  |false=>rfl
  |true=>have:=je.1 q;omega
 intro k e z;exact(bW.heap k e (by rw[<-wF] at z;exact z)).2
structure AH (P:Program) (f:FuncId) (t e:TypeId) (sz:Nat) (i0:TypeInfo) (z:Value):Prop where
 nothing: ∀(base Ew:Option Addr) (n c i dB:Nat) (w:World),i<=n->n<=c->c<=9223372036854775807->Calls P f #[.slice base n c,.int .i64 i,.slice Ew 0 dB] w λe w'=>e= .returned (.slice base n c)/\w'=w
 tail: ∀(base Ew:Option Addr) (n c m dB:Nat) (w:World) (ea:Value) (w':World),0<m->n<=c->c<=9223372036854775807->(Builtin.append_ #[t,t] t #[.slice base n c,.slice Ew m dB]).run P w= .ok ea w'->
  Calls P f #[.slice base n c,.int .i64 n,.slice Ew m dB] w λe gO=>e= .returned ea/\gO=w'
 room: ∀(b n c i ie m dB:Nat) (cs vs:List Value) (w:World),i<n->0<m->n+m<=c->c<=9223372036854775807->ie≠b->cs.length=n*sz->vs.length=m*sz->
  (∀j v,cs[j]? =aa v->w.cell? ⟨b,j,ak⟩=aa v)->(∀j,j<(n+m)*sz->(w.cell? ⟨b,j,ak⟩).isSome=ab)->(∀j,w.frozen? ⟨b,j,ak⟩=false)->
  (∀j v,vs[j]? =aa v->w.cell? ⟨ie,j,ak⟩=aa v)->(∀v∈cs,v.oneCell'=ab)->(∀v∈vs,v.oneCell'=ab)->
  ∀(ak_ tU:TypeId) (fM Sk:Nat),w.shape? ie=aa (ak_,fM)->w.shape? b=aa (tU,Sk)->Sk≠0->(∀j,w.frozen? ⟨ie,j,ak⟩=false)->
  Calls P f #[.slice (aa ⟨b,0,ak⟩) n c,.int .i64 i,.slice (aa ⟨ie,0,ak⟩) m dB] w λe w'=>
   e= .returned (.slice (aa ⟨b,0,ak⟩) (n+m) c)/\w'=(w.drew.setCells b ((i+m)*sz) (cs.drop (i*sz))).setCells b (i*sz) vs
 grow: ∀(b n c i ie m dB:Nat) (cs vs:List Value) (w:World),i<n->0<m->n<=c->c<n+m->n+m<=1000000000->(n+m)*i0.bytes<=140737488355328->cs.length=n*sz->vs.length=m*sz->
  (∀j v,cs[j]? =aa v->w.cell? ⟨b,j,ak⟩=aa v)->(∀j v,vs[j]? =aa v->w.cell? ⟨ie,j,ak⟩=aa v)->(∀v∈cs,v.oneCell'=ab)->(∀v∈vs,v.oneCell'=ab)->
  Calls P f #[.slice (aa ⟨b,0,ak⟩) n c,.int .i64 i,.slice (aa ⟨ie,0,ak⟩) m dB] w λe' w'=>
   e'= .returned (.slice (aa ⟨w.heap.size,0,ak⟩) (n+m) (grownCap w (n+m) c e))/\
   w'=(((w.alloc (.cells ((cs.take (i*sz)).toArray++eh z.cells (n+m-i)++eh z.cells (grownCap w (n+m) c e-(n+m))) e)).drew.setCells w.heap.size (i*sz) vs).drew).setCells w.heap.size ((i+m)*sz) (cs.drop (i*sz))
theorem N'{i:Nat}{s v:List (List T)}{a b rest:List Value}(p:s.length=n)(q:i<=n)(r:a.length=n*L)(e:b.length=v.length*L)(l:Rows L s)(d:Rows L v){R:T->Value->Prop}
  (m: ∀(i j:Nat) (c:List T) (x:T) (u:Value),s[i]? =aa c->c[j]? =aa x->a[i*L+j]? =aa u->R x u)
  (w: ∀(i j:Nat) (c:List T) (x:T) (u:Value),v[i]? =aa c->c[j]? =aa x->b[i*L+j]? =aa u->R x u):
  ∀(k j:Nat) (c:List T) (x:T) (u:Value),(s.take i++v++s.drop i)[k]? =aa c->c[j]? =aa x->(a.take (i*L)++b++a.drop (i*L)++rest)[k*L+j]? =aa u->R x u:=by
 have o:Rows L (s.take i):=λc h=>l c (gn h);have y:Rows L (s.drop i):=λc h=>l c (ft h);have z:=dQ L q;have A:=Bn (a.take (i*L)) b [] (rows:=s.take i) (news:=v) (n:=i) (size:=L) (by rw[c6];omega) (by rw[c6];omega) e o d (R:=R)
  (λk j c x u aP a2 a3=>by
   rw[fs] at aP a3;split at aP
   ·split at a3
    ·exact m k j c x u aP a2 a3
    cases a3
   cases aP) w
 have fC:=Bn (a.take (i*L)++b) (a.drop (i*L)) rest (rows:=s.take i++v) (news:=s.drop i) (n:=i+v.length) (size:=L) (by rw[dP,c6];omega)
  (by rw[dP,c6,e,dN];omega) (by rw[fN,fN,r,p,uf]) (λc h=>by
   rcases eX.1 h with h|h
   ·exact o c h
   exact d c h) y (R:=R) (λk j c x u aP a2 a3=>A k j c x u aP a2 (by simpa using a3))
  (λk j c x u aP a2 a3=>by
   rw[fv] at aP a3;refine m (i+k) j c x u aP a2 ?_;rw[dN,nU];exact a3)
 intro k j c x u aP a2 a3;exact fC k j c x u aP a2 (by simpa using a3)
theorem Mh{size c:Nat}{a:Array Value}(e:w.heap[b]? =aa (.cells a t (0,0))): ∀j v,(a.toList.take (n*size))[j]? =aa v->w.cell? ⟨b,j,ak⟩=aa v:=by
 intro j v d;rw[fs] at d;split at d
 ·simp only[World.cell?,e];simpa using d
 cases d
theorem Ck{G:Map}{gen:Nat}{a:List (List T)}{x:Value}(B:c4 G w X k (.arr e gen sz a))(D:bB G w X (.bf k gen sz 0 a.length) x):
  (x= .slice ak 0 0/\a=[]/\G k=aa (ak,gen))\/ ∃(b c:Nat) (d:Array Value),x= .slice (aa ⟨b,0,ak⟩) a.length c/\G k=aa (aa b,gen)/\w.heap[b]? =aa (.cells d e (0,0))/\d.size=c*sz/\a.length<=c/\c<=maxLen/\
   ∀(i j:Nat) (l:List T) (y:T) (u:Value),a[i]? =aa l->l[j]? =aa y->(d.toList.take (a.length*sz))[i*sz+j]? =aa u->c8 w X y u:=by
 obtain⟨q,m⟩:=l3 B;rcases ff D m with ⟨c,b,n,F,rfl,rfl,R,h,r,H,s⟩|⟨rfl,_,z,rfl⟩
 ·rcases B.2 with ⟨o,_⟩|⟨W,d,o,C,f,g,K⟩
  ·rw[m] at o;cases o
  rw[m] at o;cases o;have A:d.size=c*sz:=by
   unfold iZ at h;rw[C] at h;simp at h;rw[<-r] at h;rw[dy] at h;exact h.2
  refine .inr ⟨b,c,d,by rw[gN],m,C,A,H,s,λi j l y u L Q p=>?_⟩;rw[fs] at p;split at p
  ·exact K i j l y u L Q (by simpa using p)
  cases p
 exact .inl ⟨rfl,nT z,m⟩
theorem MO{a:List (List T)}{b:List Value}(e:0<sz)(m:Rows sz a)(n:b.length=a.length*sz)
  (o: ∀(i j:Nat) (c:List T) (y:T) (u:Value),a[i]? =aa c->c[j]? =aa y->b[i*sz+j]? =aa u->c8 w X y u): ∀v∈b,v.oneCell'=ab:=by
 intro v p;obtain⟨k,h⟩:=jq.1 p;have d:k<a.length*sz:=by rw[<-n];exact(d0.1 h).1
 have l:k / sz<a.length:=(rI e).2 d;have q:k%sz<(a[k / sz]).length:=by rw[m _ (fW l)];exact rK _ e
 exact(o (k / sz) (k%sz) _ ((a[k / sz])[k%sz]) v (bC l) (bC q) (by rw[zN];exact h)).hP
theorem ac3{cur cs:List Value}{a:Nat}(i:a<=k)(c:cs=cur.take k)(l:vs.length=m)(n:k+m<=cur.length):
  let b:=cur.take (a+m)++cs.drop a++cur.drop (a+m+(cs.drop a).length)
  b.take a++vs++b.drop (a+vs.length)=cs.take a++vs++cs.drop a++cur.drop (k+m):=by
 intro b;have d:cs.length=k:=by rw[c,c6];omega
 have e:b.take a=cs.take a:=by
  show((cur.take (a+m)++cs.drop a)++_).take a=_;rw[gL,ub (by rw[c6];omega),List.take_take,c,List.take_take];congr 1;omega
 have h:b.drop (a+vs.length)=cs.drop a++cur.drop (k+m):=by
  show((cur.take (a+m)++cs.drop a)++_).drop _=_;rw[gL,Kx (by rw[c6];omega),jO (by rw[c6];omega),tZ];congr 2;rw[fN];omega
 rw[e,h];simp
theorem ac2{A0 ds:List Value}{a:Nat}{p:List Value}{q:List Value}(d:A0=p++q)(i:p.length=a)(k:vs.length=m)(l:a+m+ds.length<=A0.length):
  let b:=A0.take a++vs++A0.drop (a+vs.length)
  b.take (a+m)++ds++b.drop (a+m+ds.length)=p++vs++ds++A0.drop (a+m+ds.length):=by
 intro b;have c:A0.take a=p:=by rw[d,ub O,jN O]
 have e:b.take (a+m)=p++vs:=by
  show((A0.take a++vs)++_).take _=_;rw[c,ub (by rw[dP];omega),jN (by rw[dP];omega)]
 have h:b.drop (a+m+ds.length)=A0.drop (a+m+ds.length):=by
  show((A0.take a++vs)++_).drop _=_;rw[c,List.drop_append,jO (by rw[dP];omega),tZ,List.drop_drop,dP];congr 1;omega
 rw[e,h]
theorem afp{P:Program}{Ts:TypeDesc}{i0:TypeInfo}(call:jh P f)(raw:AH P f t e sz i0 z)(hu:P.underlying t=aa (.slice e))(aha:P.info? e=aa i0)(aie:i0.zero=aa z)(oM:z.cells.size=sz)(lW:i0.size=sz)
  (ah3:P.underlying e=aa Ts) (hp:0<sz) (agV:i0.bytes<=140000) (s v R:List (List T)) (i r M:Nat) (aL:i<=s.length) (qX:app (s.take i++v) (s.drop i)=aa R) (hs:Rows sz s) (W:Rows sz v):
  hY P G f [.arr e r sz s,.arr e M sz v] [.bf 0 r sz 0 s.length,.t (.int .i64 i),.bf 1 M sz 0 v.length] (.bf 0 (r+1) sz 0 R.length) [.arr e (r+1) sz R,.arr e M sz v]:=by
 have hlen:s.length+v.length<=1000000000/\R=s.take i++v++s.drop i:=by
  unfold app at qX;split at qX
  ·rename_i h;simp at h;refine⟨O,by cases qX;rfl⟩
  cases qX
 obtain⟨hlen,vv⟩:=hlen;have oG:R.length=s.length+v.length:=by rw[vv];simp;omega
 have Rq: ∀A,A∈R->A.length=sz:=λA h=>by
  rw[vv] at h;rcases eX.1 h with h|h
  ·rcases eX.1 h with h|h
   ·exact hs A (gn h)
   exact W A h
  exact hs A (ft h)
 have hbig:(s.length+v.length)*i0.bytes<=140737488355328:=eO (nY hlen agV) (by decide);have hm':s.length+v.length<=maxLen:=by unfold maxLen;omega
 have agR:cn P e Ts z sz i0.bytes:=⟨ah3,i0,aha,aie,lW,rfl⟩
 refine⟨call,?_⟩;intro w X C us j9 gj kM gV;have ahp:us.length=3:=gV.length;obtain⟨hW,iY,k0,rfl⟩: ∃a b c,us=[a,b,c]:=by
  match us,ahp with
  | [a,b,c],_=>exact⟨a,b,c,rfl⟩
 have h0:=Rel.l4 (P:=P) (nt:=3) j9 gj kM gV (df _);obtain⟨vJ,s8,Sb,_⟩:=gV;obtain rfl:iY= .int .i64 i:=by
  cases s8 with|t _ _ h=>cases h;rfl
 generalize vy:({tmps:=[hW,Value.int .i64 i,k0].toArray++Array.replicate (3-[hW,Value.int .i64 i,k0].toArray.size) undef,defers:=[]}:Act)=act at h0;generalize lU:Ctx.dB P G w X [E.arr e r sz s,E.arr e M sz v].length C 3=K at h0;have Jp:K.P=P:=by rw[<-lU];rfl
 have sS:K.X=X:=by rw[<-lU];rfl
 generalize ji:Lift.l4 [E.arr e r sz s,E.arr e M sz v] [V.bf 0 r sz 0 s.length,V.t (.int .i64 i),V.bf 1 M sz 0 v.length]=L at h0;have N:L.H 0=aa (.arr e r sz s):=by rw[<-ji];rfl
 have Rm:L.H 1=aa (.arr e M sz v):=by rw[<-ji];rfl
 have yA:L.H=eu [E.arr e r sz s,E.arr e M sz v] 0:=by rw[<-ji];rfl
 have JM:own K C L.H=hQ X C (eu [E.arr e r sz s,E.arr e M sz v] 0):=by funext b;rw[yA];show(K.X b\/_)=_;rw[sS];rfl
 rw[<-JM] at vJ Sb;have sR:bb L.H 0 (aa (.arr e (r+1) sz R))=eu [E.arr e (r+1) sz R,E.arr e M sz v] 0:=by
  rw[yA];funext j
  match j with
  |0=>rfl
  |j+1=>rfl
 have fin: ∀(s':S) (pf:Act) (β':Map) (w':World) (x:Value),s'.H=bb L.H 0 (aa (.arr e (r+1) sz R))->Rel K β' s' pf w'->bB β' w' (own K β' (bb L.H 0 (aa (.arr e (r+1) sz R)))) (.bf 0 (r+1) sz 0 R.length) x->
   ∃u,∃_i:Unit,∃β,Ending.returned x= .returned u/\True/\Left C β [E.arr e r sz s,E.arr e M sz v] [E.arr e (r+1) sz R,E.arr e M sz v] w w' X (.bf 0 (r+1) sz 0 R.length) u:=by
  intro s' pf β' w' x W b5 bR;subst lU;obtain⟨β,s9⟩:=EO (out:=[E.arr e (r+1) sz R,E.arr e M sz v]) b5 (df _) (by rw[W];exact bR) rfl (by
   intro id e0 Di;refine⟨⟨e0,?_,jR.refl _⟩,?_⟩
   ·rw[W,sR];exact Di
   match id with
   |0=>cases Di;exact⟨rfl,rfl⟩
   |1=>cases Di;exact⟨rfl,rfl⟩
   |k+2=>cases Di)
  exact⟨x,(),β,rfl,trivial,s9⟩
 have jj:=(h0.heap 0 _ N).2.1;have pe:=Ck (h0.heap 0 _ N).2 vJ;have Lg:=Ck (h0.heap 1 _ Rm).2 Sb;have vt:L.H 0≠ak:=by rw[N];simp
 by_cases s4:v=[]
 ·have Rr:R=s:=by rw[vv,s4];simp
  have run: ∀TD,(∃ie dB,TD=Value.slice ie 0 dB)->Calls P f #[hW,.int .i64 i,TD] w λe w'=>e= .returned hW/\w'=w:=by
   rintro _ ⟨ie,dB,rfl⟩;rcases pe with ⟨rfl,h1,_⟩|⟨b,F,o,rfl,_,_,_,hl,bW,_⟩
   ·subst h1
    have:i=0:=by simpa using aL
    subst this;exact raw.nothing ak ie 0 0 0 dB w (df _) (df _) (by decide)
   exact raw.nothing (aa ⟨b,0,ak⟩) ie s.length F i dB w aL hl (by unfold maxLen at bW;omega)
  refine(run k0 ?_).mono ?_
  ·rcases Lg with ⟨rfl,_,_⟩|⟨b,F,o,rfl,_⟩
   ·exact⟨_,_,rfl⟩
   exact⟨_,_,by rw[s4];rfl⟩
  rintro e1 gO ⟨rfl,rfl⟩;obtain⟨tG,g⟩:=l3 (h0.heap 0 _ N).2;have bA:=h0.bump 0 e r sz s tG g N;rw[<-Rr] at bA;refine fin _ _ _ _ _ rfl bA ?_;rw[Rr];rcases ff vJ g with ⟨Q1,b,n,iB,rfl,ka,hw,gk,pC,hl,pB⟩|⟨ka,_,JI,rfl⟩
  ·subst ka;exact .bf 0 (r+1) sz 0 _ Q1 b n iB O (f5 _ _ _) hw gk pC hl pB
  subst ka;rw[JI];exact .hq 0 (r+1) sz O (f5 _ _ _)
 have yN:0<v.length:=List.length_pos_iff.2 s4;rcases Lg with ⟨_,h1,_⟩|⟨ie,dB,d,rfl,ahL,Dj,ajY,ahv,yJ,lY⟩
 ·exact br h1 s4
 have D:(d.toList.take (v.length*sz)).length=v.length*sz:=by
  have:=dQ sz ahv;rw[c6];simp;omega
 have py:=MO hp W D lY;have vI:=Mh (size:=sz) (n:=v.length) Dj (c:=0);by_cases kM:i=s.length
 ·have Rs:R=s++v:=by rw[vv,kM];simp
  obtain⟨xj,oJ⟩:=GJ 0 [⟨e,sz,[]⟩] 0 N rfl rfl (.inr rfl) C act w h0;have ah':bB xj w (own K xj (bb L.H 0 (aa (.aC [⟨e,sz,[]⟩] 0 r s [])))) (.bf 0 r sz 0 s.length) hW:=by
   have h:=oJ.dz 0;rw[<-vy,<-ji] at h;rw[<-ji];exact h
  have aia:bB xj w (own K xj (bb L.H 0 (aa (.aC [⟨e,sz,[]⟩] 0 r s [])))) (.bf 1 M sz 0 v.length) (.slice (aa ⟨ie,0,ak⟩) v.length dB):=by
   have h:=oJ.dz 2;rw[<-vy,<-ji] at h;rw[<-ji];exact h
  rcases Ck (oJ.heap 1 (.arr e M sz v) (show bb L.H 0 (aa (.aC [⟨e,sz,[]⟩] 0 r s [])) 1=_ from(cu _ _ _ _ (by decide)).trans Rm)).2 aia with ⟨_,h1,_⟩|⟨akD,akE,ajP,mK,_,RG,_,_,_,ahR⟩
  ·exact br h1 s4
  cases mK;rw[Dj] at RG;cases RG;obtain⟨ea,w',β',g1,g2,g3⟩:=oJ.IW 0 [⟨e,sz,[]⟩] 0 s v [] (gen:=r) (size:=sz) (e:=e) (show bb L.H 0 (aa (.aC [⟨e,sz,[]⟩] 0 r s [])) 0=aa (.aC [⟨e,sz,[]⟩] 0 r s []) from cy _ _ _) rfl rfl t (by rw[Jp];exact hu) (by rw[Jp];exact agR) oM hs W _ _ ah' ⟨ie,0,dB,d.toList.take (v.length*sz),rfl,D,λj x hj=>by rw[dy];exact vI j x hj,py,λi j A x y c1 c2 e5=>⟨λv bR=>by(cases bR),λ_=>ahR i j A x y c1 c2 e5⟩⟩ yN (by simp[r4,U]) hbig hm';simp only[B5] at g2 g3;have pt:=g2.put (aa 0) (λi h=>by cases h;rw[<-lU];rfl) g3;obtain⟨TS,k9⟩:=ML (K:=K) (s:=({L with H:=bb L.H 0 (aa (E.aC [⟨e,sz,[]⟩] 0 (r+1) (s++v) []))}:S).put (aa 0) (.bf 0 (r+1) sz 0 (s.length+v.length))) (Γ:=[⟨e,sz,[]⟩]) (m:=0) (gen:=r+1) 0 (cy L.H 0 (aa (E.aC [⟨e,sz,[]⟩] 0 (r+1) (s++v) []))) rfl β' _ _ pt;have g4:=k9.dz 0;rw[Jp] at g1;rw[GI,MK] at k9 g4;simp only[B5] at k9 g4;have run:Calls P f #[hW,.int .i64 i,.slice (aa ⟨ie,0,ak⟩) v.length dB] w λe gO=>e= .returned ea/\gO=w':=by
   rcases pe with ⟨rfl,h1,_⟩|⟨b,F,o,rfl,_,_,_,hl,bW,_⟩
   ·subst h1;subst kM;exact raw.tail ak _ 0 0 _ _ w ea w' yN (df _) (by decide) g1
   subst kM;exact raw.tail _ _ s.length F _ _ w ea w' yN hl (by unfold maxLen at bW;omega) g1
  refine run.mono ?_;rintro e1 gO ⟨rfl,rfl⟩;refine fin _ _ _ _ _ (by rw[Rs];rfl) k9 ?_;rw[Rs,dP];rw[<-vy] at g4;exact g4
 have JE:i<s.length:=O
 rcases pe with ⟨_,h1,_⟩|⟨b,F,o,rfl,g,pz,Dg,RM,RP,JO⟩
 ·subst h1;simp at JE
 have hne:ie≠b:=λe0=>by
  subst e0
  have:=h0.inj 0 1 ie (.inl ⟨_,g⟩) (.inl ⟨_,ahL⟩);omega
 have I:(o.toList.take (s.length*sz)).length=s.length*sz:=by
  have:=dQ sz RM;rw[c6];simp;omega
 have Jj:=MO hp hs I JO;have oH:=Mh (size:=sz) (n:=s.length) pz (c:=0);have ahh:i*sz<=s.length*sz:=dQ sz aL;have nC:((o.toList.take (s.length*sz)).drop (i*sz)).length=(s.length-i)*sz:=by rw[fN,I,uf]
 have Re: ∀y∈(o.toList.take (s.length*sz)).drop (i*sz),y.oneCell'=ab:=λy hy=>Jj y (ft hy);have Dn:(i+v.length)*sz+(s.length-i)*sz=(s.length+v.length)*sz:=by rw[<-dN];congr 1;omega
 have vA: ∀y u,c8 w (own K C L.H) y u->c8 w.drew (own K C L.H) y u:=λy u h=>h.mono (Ext.drew _ _) λ_ _ h=>h;by_cases R3:s.length+v.length<=F
 ·have mH:(s.length+v.length)*sz<=o.size:=by rw[Dg];exact dQ sz R3
  refine(raw.room b s.length F i ie v.length dB _ _ w JE yN R3 (by unfold maxLen at RP;omega) hne I D oH (λj hj=>?_) (λj=>by simp[World.frozen?,pz]) vI Jj py e e d.size o.size
   (by unfold iZ;rw[Dj]) (by unfold iZ;rw[pz]) ?_ λj=>by simp[World.frozen?,Dj]).mono ?_
  ·have:j<o.size:=O
   simp[World.cell?,pz,this]
  ·have:0<(s.length+v.length)*sz:=Nat.mul_pos O hp;omega
  rintro e1 gO ⟨rfl,B⟩;have yF:w.drew.heap[b]? =aa (.cells o e (0,0)):=pz;rw[ze yF (by rw[nC,Dn];exact mH) Re] at B;rw[ze (setRow_heap _ _ _ _ _ _ yF) (by
   rw[D]
   have:i*sz+v.length*sz<=(s.length+v.length)*sz:=by rw[<-dN];exact dQ sz O
   have h2: ∀l:List Value,l.toArray.size=l.length:=λl=>bl
   rw[h2];simp only[iI,mi,nj,nC];simp;omega) py,setRow_setRow] at B
  have s3:=ac3 (cur:=o.toList) (cs:=o.toList.take (s.length*sz)) (vs:=d.toList.take (v.length*sz)) (a:=i*sz) (m:=v.length*sz) (k:=s.length*sz) ahh rfl D (by rw[<-dN];simpa using mH);rw[<-dN,<-dN] at s3;simp only at B;rw[s3] at B;generalize yB:(o.toList.take (s.length*sz)).take (i*sz)++d.toList.take (v.length*sz)++(o.toList.take (s.length*sz)).drop (i*sz)++o.toList.drop ((s.length+v.length)*sz)=mx at B;have vw:mx.toArray.size=o.size:=by
   rw[<-yB];have h2: ∀l:List Value,l.toArray.size=l.length:=λl=>bl
   rw[h2];simp only[iI,D,nC,nj];rw[c6,I];have h3:i*sz+(s.length-i)*sz=s.length*sz:=by rw[<-dN];congr 1;omega
   have h4:(s.length+v.length)*sz=s.length*sz+v.length*sz:=dN _ _ _;simp only[Array.length_toList];omega
  have hrel:=(xH h0).setRow 0 b (.inl ⟨_,g⟩) o e yF mx.toArray vw (.arr e r sz R) vt
   ⟨jj,Or.inr ⟨b,_,g,setRow_heap _ _ _ _ _ _ yF,by rw[vw,oG];exact mH,Rq,λk j A x u aP a2 a3=>by
    have h9:=N' (rest:=o.toList.drop ((s.length+v.length)*sz)) rfl aL I D hs W (R:=λx u=>c8 w.drew (own K C L.H) x u) (λk j A x u dm cL fJ=>vA _ _ (JO k j A x u dm cL fJ)) (λk j A x u dm cL fJ=>vA _ _ (lY k j A x u dm cL fJ)) k j A x u (by rw[<-vv];exact aP) a2 (by rw[yB];simpa using a3);refine h9.mono ⟨rfl,rfl,rfl,bl,λkk _ hx=>setRow_other _ _ _ _ λe0=>hx ?_⟩ λ_ _ h=>h;subst e0;exact .inr ⟨0,vt,.inl ⟨_,g⟩⟩⟩⟩
  have Y:=hrel.bump 0 e r sz R (aa b) g (show bb L.H 0 (aa (.arr e r sz R)) 0=aa (.arr e r sz R) from cy _ _ _);have Jo:bb (bb L.H 0 (aa (.arr e r sz R))) 0 (aa (.arr e (r+1) sz R))=bb L.H 0 (aa (.arr e (r+1) sz R)):=by
   funext j;by_cases hj:j=0
   ·subst hj;rw[cy,cy]
   rw[cu _ _ _ _ hj,cu _ _ _ _ hj,cu _ _ _ _ hj]
  simp only[Jo] at Y;rw[<-B] at Y;refine fin _ _ _ _ _ rfl Y ?_;have jD:bB (C.put 0 (aa (aa b,r+1))) gO (own K (C.put 0 (aa (aa b,r+1))) (bb L.H 0 (aa (.arr e (r+1) sz R)))) (.bf 0 (r+1) sz 0 R.length) (.slice (aa ⟨b,0*sz,ak⟩) R.length F):=by
   refine .bf 0 (r+1) sz 0 _ F b (F*sz) e O (f5 _ _ _) ?_ ?_ (by rw[dy]) O RP
   ·rw[B,setRow_size];exact(iD.1 pz).1
   unfold iZ;rw[B,setRow_heap _ _ _ _ _ _ yF];simp only[vw,Dg]
  rw[gN,oG] at jD;rw[oG];exact jD
 refine(raw.grow b s.length F i ie v.length dB _ _ w JE yN RM O hlen hbig I D oH vI Jj py).mono ?_;rintro e1 gO ⟨rfl,B⟩;generalize Rl:grownCap w (s.length+v.length) F e=mv at B;have Jn:s.length+v.length<=mv:=by rw[<-Rl];exact grownCap_ge w _ _ _
 have agM:mv<=maxLen:=by rw[<-Rl];exact grownCap_le_maxLen w _ _ _ hm'
 generalize Rf:(((o.toList.take (s.length*sz)).take (i*sz)).toArray++eh z.cells (s.length+v.length-i)++eh z.cells (mv-(s.length+v.length)):Array Value)=Q at B;have Dl:((o.toList.take (s.length*sz)).take (i*sz)).length=i*sz:=by rw[c6,I];omega
 have yy:Q.size=mv*sz:=by
  rw[<-Rf];simp only[Array.size_append,List.size_toArray,size_zeroCells,oM,Dl,<-Nat.add_mul];congr 1;omega
 have agD:Q.toList.length=mv*sz:=by rw[<-yy];simp
 have JP:(s.length+v.length)*sz<=mv*sz:=dQ sz Jn;have RF:((w.alloc (.cells Q e)).drew).heap[w.heap.size]? =aa (.cells Q e (0,0)):=j2 w _;have JC:i*sz+(d.toList.take (v.length*sz)).length<=Q.size:=by
  rw[D,yy]
  have:i*sz+v.length*sz<=(s.length+v.length)*sz:=by rw[<-dN];exact dQ sz O
  omega
 rw[ze RF JC py] at B;have ag8:=setRow_heap ((w.alloc (.cells Q e)).drew) w.heap.size Q (Q.toList.take (i*sz)++d.toList.take (v.length*sz)++Q.toList.drop (i*sz+(d.toList.take (v.length*sz)).length)).toArray e (0,0) RF;have hg2:((((w.alloc (.cells Q e)).drew).setRow w.heap.size (Q.toList.take (i*sz)++d.toList.take (v.length*sz)++Q.toList.drop (i*sz+(d.toList.take (v.length*sz)).length)).toArray).drew).heap[w.heap.size]? =_:=ag8;have yP:(Q.toList.take (i*sz)++d.toList.take (v.length*sz)++Q.toList.drop (i*sz+(d.toList.take (v.length*sz)).length)).length=mv*sz:=by
  simp only[iI,mi,nj];simp only[Array.length_toList,yy];rw[c6] at D JC;rw[yy] at JC;omega
 rw[ze hg2 (by
  rw[nC,Dn];have h2: ∀l:List Value,l.toArray.size=l.length:=λl=>bl
  rw[h2,yP];exact JP) Re] at B
 have s3:=ac2 (A0:=Q.toList) (ds:=(o.toList.take (s.length*sz)).drop (i*sz)) (vs:=d.toList.take (v.length*sz)) (a:=i*sz) (m:=v.length*sz) (p:=(o.toList.take (s.length*sz)).take (i*sz))
  (q:=(eh z.cells (s.length+v.length-i)).toList++(eh z.cells (mv-(s.length+v.length))).toList) (by rw[<-Rf];simp) Dl D (by
   rw[nC,<-dN,Dn,agD];exact JP)
 rw[<-dN] at s3;simp only at B;rw[s3] at B;generalize yB:(o.toList.take (s.length*sz)).take (i*sz)++d.toList.take (v.length*sz)++(o.toList.take (s.length*sz)).drop (i*sz)++Q.toList.drop ((i+v.length)*sz+((o.toList.take (s.length*sz)).drop (i*sz)).length)=mx at B;have s6:gO=(w.drew.drew).alloc (.cells mx.toArray e):=by
  rw[B];have h3:((((w.alloc (.cells Q e)).drew).setRow w.heap.size (Q.toList.take (i*sz)++d.toList.take (v.length*sz)++Q.toList.drop (i*sz+(d.toList.take (v.length*sz)).length)).toArray).drew).setRow w.heap.size mx.toArray=(((w.drew.drew).alloc (.cells Q e)).setRow w.heap.size (Q.toList.take (i*sz)++d.toList.take (v.length*sz)++Q.toList.drop (i*sz+(d.toList.take (v.length*sz)).length)).toArray).setRow w.heap.size mx.toArray:=rfl;rw[h3,setRow_setRow];exact World.setRow_alloc_new (w.drew.drew) Q mx.toArray e
 have vw:mx.toArray.size=mv*sz:=by
  rw[<-yB];have h2: ∀l:List Value,l.toArray.size=l.length:=λl=>bl
  rw[h2];simp only[iI,Dl,D,nC,nj,Array.length_toList,yy];rw[Dn];have h3:i*sz+(s.length-i)*sz=s.length*sz:=by rw[<-dN];congr 1;omega
  have h4:(s.length+v.length)*sz=s.length*sz+v.length*sz:=dN _ _ _;omega
 have yJ:=(xH (xH h0)).move 0 e r sz s N mx.toArray R (by rw[vw,oG];exact JP) Rq (λk j A x u aP a2 a3=>by
  have h9:=N' (rest:=Q.toList.drop ((i+v.length)*sz+((o.toList.take (s.length*sz)).drop (i*sz)).length)) rfl aL I D hs W (R:=λx u=>c8 w.drew.drew (own K C L.H) x u)
   (λk j A x u dm cL fJ=>(vA _ _ (JO k j A x u dm cL fJ)).mono (Ext.drew _ _) λ_ _ h=>h) (λk j A x u dm cL fJ=>(vA _ _ (lY k j A x u dm cL fJ)).mono (Ext.drew _ _) λ_ _ h=>h) k j A x u (by rw[<-vv];exact aP) a2 (by rw[yB];simpa using a3)
  exact h9)
 rw[<-s6] at yJ;refine fin _ _ _ _ _ rfl yJ ?_;have ake:(w.drew.drew).heap.size=w.heap.size:=rfl;have vD:=j2 (w.drew.drew) (.cells mx.toArray e);have jD:bB (C.put 0 (aa (aa (w.drew.drew).heap.size,r+1))) gO (own K (C.put 0 (aa (aa (w.drew.drew).heap.size,r+1))) (bb L.H 0 (aa (.arr e (r+1) sz R)))) (.bf 0 (r+1) sz 0 R.length) (.slice (aa ⟨w.heap.size,0*sz,ak⟩) R.length mv):=by
  refine .bf 0 (r+1) sz 0 _ mv w.heap.size (mv*sz) e O (f5 _ _ _) ?_ ?_ (by rw[dy]) O agM
  ·rw[s6];simp
  unfold iZ;rw[s6];rw[show((w.drew.drew).alloc (.cells mx.toArray e)).heap[w.heap.size]? =aa (.cells mx.toArray e) from vD];simp only[vw]
 rw[gN,oG] at jD;rw[oG];exact jD
theorem PB{P:Program}{u:TypeDesc}{a:TypeInfo}(c:jh P f)(p:AH P f t e n a z)(C:P.underlying t=aa (.slice e))(q:P.info? e=aa a)(r:a.zero=aa z)(w:z.cells.size=n)(y:a.size=n)
  (A:P.underlying e=aa u) (D:0<n) (B:a.bytes<=140000) {k:Type} (b:k->List T) (d: ∀x,(b x).length=n) (s v R:List k) (i l o:Nat) (F:i<=s.length) (m:app (s.take i++v) (s.drop i)=aa R):
  hY P G f [aK e l n b s,aK e o n b v] [ms 0 l n b s,.t (.int .i64 i),ms 1 o n b v] (ms 0 (l+1) n b R) [aK e (l+1) n b R,aK e o n b v]:=by
 refine afp c p C q r w y A D B (s.map b) (v.map b) (R.map b) i l o (by simpa using F) ?_ (Rows.map s d) (Rows.map v d);unfold app at m⊢;simp only[iI,mi,nj,List.length_map] at m⊢;split at m
 ·rename_i h;rw[bg h];cases m;simp[List.map_append,List.map_take,List.map_drop]
 cases m
section runs
variable {P:Program}
open Go.RowKit Go.Lib
theorem rj(w:World)(s y z c:TypeId)(k b o d l:Nat)(a:Addr)(e n m:Nat)(h:List Value)
  (A:P.underlying s=aa (.slice c)) (x:(P.info? c).map (·.size)=aa k) (B:m=Nat.min e d) (C:h.length=m*k)
  (p: ∀j v,h[j]? =aa v->w.cell? (a.add j)=aa v) (D: ∀j,j<h.length->(w.cell? ⟨b,o+j,ak⟩).isSome=ab) (F: ∀j,j<h.length->w.frozen? ⟨b,o+j,ak⟩=false) (G: ∀v∈h,v.oneCell'=ab):
  (Builtin.copy_ #[s,y] z #[.slice (aa ⟨b,o,ak⟩) d l,.slice (aa a) e n]).run P w= .ok (goInt m) (w.setCells b o h):=by
 have hl:=run_loadCells_list (P:=P) w a h p;have q:=run_storeCells_cells (P:=P) b o h 0 w (by simpa using D) (by simpa using F) G;cases r:P.info? c with
 |none=>simp[r] at x
 |some i=>
  have H:i.size=k:=by simpa[r] using x
  simp[Builtin.copy_,run_underlying A,Builtin.lenOf,Builtin.firstCells,sizeOf,typeInfo,r,H,<-B,<-C,hl,q]
theorem Xe(w:World){K:Act->World->Prop}(d s:Operand)(t c:TypeId)
  (e:o.op= .call {callee:= .builtin .copy,args:= #[d,s],argTypes:= #[t,c]}) (v u:Value) (i:a.eval d=v) (k:a.eval s=u)  {b:World}
  (l:(Builtin.copy_ #[t,c] o.type #[v,u]).run P w= .ok z b) (h:K (a.put o.dst z) b):o.wp P a w K Q:=by unfold Oper.wp execOp;simp only[e,resolve,invoke,builtin,Sem.run_bind,Sem.run_pure,Result.andThen_ok,List.map_toArray,List.map_cons,List.map_nil,i,k,l];exact h
theorem vn(w:World){b:Array Oper}{l:List Oper}(e:o.guard=ak)(d s:Operand)(t i:TypeId)
  (k:o.op= .call {callee:= .builtin .copy,args:= #[d,s],argTypes:= #[t,i]}) (v u:Value) (m:a.eval d=v) (n:a.eval s=u)  
  (p:(Builtin.copy_ #[t,i] o.type #[v,u]).run P w= .ok z c) (h:wpList P b Q l (a.put o.dst z) c):wpList P b Q (o::l) a w:=
 wpList_plain e λ_ q=>Xe w d s t i k v u m n p (q _ _ h)
theorem DN{b:Array Oper}{K:Act->World->Prop}{E:Prop}
  (k:o.guard=ak) (d x:Operand) (h i:TypeId) (e:o.op=Op.call {callee:=Callee.builtin Builtin.copy,args:= #[d,x],argTypes:= #[h,i]})
  (v u:Value) (l:a.eval d=v) (m:a.eval x=u)   (n:(Builtin.copy_ #[h,i] o.type #[v,u]).run P w= .ok z c) (p:K (a.put o.dst z) c):
  if Region.wanted o (yielded b a.tmps)=ab then Oper.wp P o a w K Q else E:=by
 have q:Region.wanted o (yielded b a.tmps)=ab:=by simp[Region.wanted,k]
 rw[bg q];unfold Oper.wp;simp[execOp,e,resolve,invoke,builtin,l,m,n,Result.andThen];exact p
theorem m7(b:Nat)(a:List Value)(o:Nat)(w:World)(h: ∀j,j<a.length->(w.cell? ⟨b,o+j,ak⟩).isSome=ab)(k:Nat)(c:(w.cell? ⟨b,k,ak⟩).isSome=ab):((w.setCells b o a).cell? ⟨b,k,ak⟩).isSome=ab:=by
 by_cases d:o<=k/\k<o+a.length
 ·have:=World.cell?_setCells_in b a o w h (k-o) O;rw[show o+(k-o)=k by omega] at this;rw[this];rfl
 rw[World.cell?_setCells_out b a o w ⟨b,k,ak⟩ λ_ _=>by show k<o\/o+a.length<=k;omega];exact c
end runs
end Go.Lift
