/- Tools. -/
import Derived.Test.YteifkndfpnkalaaGreatELiftY
import Derived.Shelf.RegionOpenPlain
import Derived.Lib.Walk
import Derived.Lib.SliceRun
import Derived.Lib.JoinLaws
import Derived.Lib.AppendZeros
import Derived.Lib.AppendZerosOnto
import Derived.Lib.Overlaps
import Derived.Laws.Externs
import Derived.Laws.IdiomCopy
import Derived.Laws.CopyRow
import Derived.Deep.WholeRow
set_option linter.unusedVariables false
namespace Go.Lift
open Go
open Option renaming some -> aa, none -> aj
open Bool renaming true -> ab
open List renaming length_append -> im, length_take -> k', length_drop -> lP
open Go.Builtin renaming zeroCells -> eS
open Go.World renaming shape? -> hz
variable {K:Ctx}{β W:Map}{s:S}{a:Act}{w b:World}{o:Oper}{i n k sz m:Nat}{t e:TypeId}{G:fL}{X:Nat->Prop}{c vs:List Value}{f:FuncId}{z:Value}{Q:Exit->Act->World->Prop}
theorem Rel.move(h:Rel K β s a w)(k:Nat)(o:TypeId)(gen d:Nat)(l:List (List T))(y:s.H k=aa (.arr o gen d l))(m:Array Value)(c:List (List T))
  (n:c.length*d<=m.size) (p: ∀e,e∈c->e.length=d) (q: ∀(i j:Nat) (e:List T) (x:T) (u:Value),c[i]? =aa e->e[j]? =aa x->m[i*d+j]? =aa u->df w (own K β s.H) x u):
  Rel K (β.put k (aa (aa w.heap.size,gen+1))) {s with H:=a8 s.H k (aa (.arr o (gen+1) d c))} a (w.alloc (.cells m o)):=
 h.Tl k _ _ gen y rfl m o (λz C F A B _ _ r _=>by subst A;exact⟨O,.inr ⟨w.heap.size,m,B,kP _ _,n,p,λi j e x u aN a2 a3=>r _ _ (q i j e x u aN a2 a3)⟩⟩)
theorem Rel.bump(h:Rel K β s a w)(k:Nat)(p:TypeId)(gen c:Nat)(d:List (List T))(q:Option Nat)(l:β k=aa (q,gen))(m:s.H k=aa (.arr p gen c d)):
  Rel K (β.put k (aa (q,gen+1))) {s with H:=a8 s.H k (aa (.arr p (gen+1) c d))} a w:=
 h.Ja k _ _ gen q l (h.heap k _ m).2.1 m (λy G r _ _ z=>by
  refine⟨O,?_⟩;rcases(h.heap k _ m).2.2 with ⟨e,n⟩|⟨b,A,e,n,B,C,F⟩
  ·rw[l] at e;cases e;exact .inl ⟨r,n⟩
  rw[l] at e;cases e;exact .inr ⟨b,A,r,n,B,C,λi j o x u aN a2 a3=>(F i j o x u aN a2 a3).mono (Ext.refl _ _) λb _=>z b⟩)
theorem zu{b o:Nat}{i:List Value}{d:Array Value}(e:w.heap[b]? =aa (.cells d t (0,0)))(l:o+i.length<=d.size)(h: ∀v∈i,v.oneCell'=ab):
  w.setCells b o i=w.setRow b (d.toList.take o++i++d.toList.drop (o+i.length)).toArray:=by
 have a:=run_storeCells_at (P:=(default:Program)) b o t i 0 d w e O h;have c:=run_storeCells_cells (P:=(default:Program)) b o i 0 w (λj k=>by
  have:o+j<d.size:=O
  simp[World.cell?,e,this]) (λj k=>by simp[World.frozen?,e]) h
 rw[a] at c;simp only[Nat.add_zero] at c;injection c with _ c;exact c.symm
theorem E9{P:Program}{d:World}{a out:List E}{T:Map}{c:S}{l:Act}{r:V}{u:Value}(x:Rel (Ctx.dR P G w X a.length T i) W c l d)(L:a.length<=out.length)
  (A:bq W d (own (Ctx.dR P G w X a.length T i) W c.H) r u) (p:r.ok (fA out.length)=ab) (y:mn c.H (fA out.length) (ft out 0)): ∃B,Left T B a out w d X r u:=by
 let m:S:={t:=q0,H:=ft out 0,u:=fA out.length}
 have o:nG a.length m.u=ab:=by
  have: ∀n,n<=a.length->nG n m.u=ab:=by
   intro n;induction n with
   |zero=>intro _;rfl
   |succ n C=>intro Q;simp[nG,C O,show m.u n=ab from jZ.2 O]
  exact this _ (cR _)
 have bT:=x.cut (s':=m) (pY.nil _ _) y o;have fc:=F2 (K:=Ctx.dR P G w X a.length T i) (β:=W) (s:=c) (s':=m) y;refine⟨cut W m.u,?_⟩;refine⟨x.ext.weaken λb _ ⟨id,_,h⟩=>⟨id,h⟩,bT.base,bT.kA,?_,?_,bT.inj,bT.fresh,?_,A.under fc (λ_ h=>ym h) p⟩
 ·intro k F;apply bT.eF;cases q:m.u k with
  |false=>rfl
  |true=>have:=jZ.1 q;omega
 ·intro k b F;apply bT.e9;cases q:m.u k with
  |false=>rfl
  |true=>have:=jZ.1 q;omega
 intro k e z;exact(bT.heap k e (by rw[<-z1] at z;exact z)).2
structure AU (P:Program) (f:FuncId) (t e:TypeId) (sz:Nat) (i0:TypeInfo) (z:Value):Prop where
 nothing: ∀(base E7:Option Addr) (n c i dR:Nat) (w:World),i<=n->n<=c->c<=9223372036854775807->Calls P f #[.slice base n c,.int .i64 i,.slice E7 0 dR] w λe w'=>e= .returned (.slice base n c)/\w'=w
 tail: ∀(base E7:Option Addr) (n c m dR:Nat) (w:World) (ef:Value) (w':World),0<m->n<=c->c<=9223372036854775807->(Builtin.append_ #[t,t] t #[.slice base n c,.slice E7 m dR]).run P w= .ok ef w'->
  Calls P f #[.slice base n c,.int .i64 n,.slice E7 m dR] w λe hr=>e= .returned ef/\hr=w'
 room: ∀(b n c i hS m dR:Nat) (cs vs:List Value) (w:World),i<n->0<m->n+m<=c->c<=9223372036854775807->hS≠b->cs.length=n*sz->vs.length=m*sz->
  (∀j v,cs[j]? =aa v->w.cell? ⟨b,j,aj⟩=aa v)->(∀j,j<(n+m)*sz->(w.cell? ⟨b,j,aj⟩).isSome=ab)->(∀j,w.frozen? ⟨b,j,aj⟩=false)->
  (∀j v,vs[j]? =aa v->w.cell? ⟨hS,j,aj⟩=aa v)->(∀v∈cs,v.oneCell'=ab)->(∀v∈vs,v.oneCell'=ab)->
  ∀(alQ uy:TypeId) (fs Th:Nat),w.shape? hS=aa (alQ,fs)->w.shape? b=aa (uy,Th)->Th≠0->(∀j,w.frozen? ⟨hS,j,aj⟩=false)->
  Calls P f #[.slice (aa ⟨b,0,aj⟩) n c,.int .i64 i,.slice (aa ⟨hS,0,aj⟩) m dR] w λe w'=>
   e= .returned (.slice (aa ⟨b,0,aj⟩) (n+m) c)/\w'=(w.drew.setCells b ((i+m)*sz) (cs.drop (i*sz))).setCells b (i*sz) vs
 grow: ∀(b n c i hS m dR:Nat) (cs vs:List Value) (w:World),i<n->0<m->n<=c->c<n+m->n+m<=1000000000->(n+m)*i0.bytes<=140737488355328->cs.length=n*sz->vs.length=m*sz->
  (∀j v,cs[j]? =aa v->w.cell? ⟨b,j,aj⟩=aa v)->(∀j v,vs[j]? =aa v->w.cell? ⟨hS,j,aj⟩=aa v)->(∀v∈cs,v.oneCell'=ab)->(∀v∈vs,v.oneCell'=ab)->
  Calls P f #[.slice (aa ⟨b,0,aj⟩) n c,.int .i64 i,.slice (aa ⟨hS,0,aj⟩) m dR] w λe' w'=>
   e'= .returned (.slice (aa ⟨w.heap.size,0,aj⟩) (n+m) (grownCap w (n+m) c e))/\
   w'=(((w.alloc (.cells ((cs.take (i*sz)).toArray++eS z.cells (n+m-i)++eS z.cells (grownCap w (n+m) c e-(n+m))) e)).drew.setCells w.heap.size (i*sz) vs).drew).setCells w.heap.size ((i+m)*sz) (cs.drop (i*sz))
theorem PA{L:Nat}{s v:List (List T)}{a rest:List Value}(q:s.length=n)(r:i<=n)(w:a.length=n*L)(l:c.length=v.length*L)(m:Rows L s)(e:Rows L v){R:T->Value->Prop}
  (o: ∀(i j:Nat) (d:List T) (x:T) (u:Value),s[i]? =aa d->d[j]? =aa x->a[i*L+j]? =aa u->R x u)
  (y: ∀(i j:Nat) (d:List T) (x:T) (u:Value),v[i]? =aa d->d[j]? =aa x->c[i*L+j]? =aa u->R x u):
  ∀(k j:Nat) (d:List T) (x:T) (u:Value),(s.take i++v++s.drop i)[k]? =aa d->d[j]? =aa x->(a.take (i*L)++c++a.drop (i*L)++rest)[k*L+j]? =aa u->R x u:=by
 have p:Rows L (s.take i):=λd h=>m d (gP h);have z:Rows L (s.drop i):=λd h=>m d (fq h);have A:=eh L r;have B:=B4 (a.take (i*L)) c [] (rows:=s.take i) (news:=v) (n:=i) (size:=L) (by rw[cZ];omega) (by rw[cZ];omega) l p e (R:=R)
  (λk j d x u aN a2 a3=>by
   rw[g'] at aN a3;split at aN
   ·split at a3
    ·exact o k j d x u aN a2 a3
    cases a3
   cases aN) y
 have gm:=B4 (a.take (i*L)++c) (a.drop (i*L)) rest (rows:=s.take i++v) (news:=s.drop i) (n:=i+v.length) (size:=L) (by rw[ea,cZ];omega)
  (by rw[ea,cZ,l,eu];omega) (by rw[fM,fM,w,q,Nat.sub_mul]) (λd h=>by
   rcases eC.1 h with h|h
   ·exact p d h
   exact e d h) z (R:=R) (λk j d x u aN a2 a3=>B k j d x u aN a2 (by simpa using a3))
  (λk j d x u aN a2 a3=>by
   rw[gZ] at aN a3;refine o (i+k) j d x u aN a2 ?_;rw[eu,q8];exact a3)
 intro k j d x u aN a2 a3;exact gm k j d x u aN a2 (by simpa using a3)
theorem MM{b size c:Nat}{a:Array Value}(e:w.heap[b]? =aa (.cells a t (0,0))): ∀j v,(a.toList.take (n*size))[j]? =aa v->w.cell? ⟨b,j,aj⟩=aa v:=by
 intro j v d;rw[g'] at d;split at d
 ·simp only[World.cell?,e];simpa using d
 cases d
theorem Cp{gen:Nat}{a:List (List T)}{x:Value}(B:cX W w X k (.arr e gen sz a))(F:bq W w X (.bg k gen sz 0 a.length) x):
  (x= .slice aj 0 0/\a=[]/\W k=aa (aj,gen))\/ ∃(b c:Nat) (d:Array Value),x= .slice (aa ⟨b,0,aj⟩) a.length c/\W k=aa (aa b,gen)/\w.heap[b]? =aa (.cells d e (0,0))/\d.size=c*sz/\a.length<=c/\c<=maxLen/\
   ∀(i j:Nat) (l:List T) (y:T) (u:Value),a[i]? =aa l->l[j]? =aa y->(d.toList.take (a.length*sz))[i*sz+j]? =aa u->df w X y u:=by
 obtain⟨q,m⟩:=l8 B;rcases d4 F m with ⟨c,b,n,G,rfl,rfl,R,h,r,H,s⟩|⟨rfl,_,z,rfl⟩
 ·rcases B.2 with ⟨o,_⟩|⟨Z,d,o,C,f,g,K⟩
  ·rw[m] at o;cases o
  rw[m] at o;cases o;have A:d.size=c*sz:=by
   unfold hz at h;rw[C] at h;simp at h;rw[<-r] at h;rw[dQ] at h;exact h.2
  refine .inr ⟨b,c,d,by rw[ik],m,C,A,H,s,λi j l y u L Q p=>?_⟩;rw[g'] at p;split at p
  ·exact K i j l y u L Q (by simpa using p)
  cases p
 exact .inl ⟨rfl,oN z,m⟩
theorem NH{a:List (List T)}(h:0<sz)(n:Rows sz a)(o:c.length=a.length*sz)
  (p: ∀(i j:Nat) (d:List T) (y:T) (u:Value),a[i]? =aa d->d[j]? =aa y->c[i*sz+j]? =aa u->df w X y u): ∀v∈c,v.oneCell'=ab:=by
 intro v q;obtain⟨k,l⟩:=jQ.1 q;have e:k<a.length*sz:=by rw[<-o];exact(bS.1 l).1
 have m:k / sz<a.length:=(w2 h).2 e;have r:k%sz<(a[k / sz]).length:=by rw[n _ (gC m)];exact Nat.mod_lt _ h
 exact(p (k / sz) (k%sz) _ ((a[k / sz])[k%sz]) v (bp m) (bp r) (by rw[Nat.div_add_mod'];exact l)).j7
theorem ada{cur cs:List Value}{a:Nat}(l:a<=k)(d:cs=cur.take k)(n:vs.length=m)(o:k+m<=cur.length):
  let c:=cur.take (a+m)++cs.drop a++cur.drop (a+m+(cs.drop a).length)
  c.take a++vs++c.drop (a+vs.length)=cs.take a++vs++cs.drop a++cur.drop (k+m):=by
 intro c;have e:cs.length=k:=by rw[d,cZ];omega
 have h:c.take a=cs.take a:=by
  show((cur.take (a+m)++cs.drop a)++_).take a=_;rw[fN,ss (by rw[cZ];omega),List.take_take,d,List.take_take];congr 1;omega
 have i:c.drop (a+vs.length)=cs.drop a++cur.drop (k+m):=by
  show((cur.take (a+m)++cs.drop a)++_).drop _=_;rw[fN,EX (by rw[cZ];omega),lJ (by rw[cZ];omega),uG];congr 2;rw[fM];omega
 rw[h,i];simp
theorem adH{A0 ds:List Value}{a:Nat}{p:List Value}{q:List Value}(e:A0=p++q)(k:p.length=a)(l:vs.length=m)(n:a+m+ds.length<=A0.length):
  let c:=A0.take a++vs++A0.drop (a+vs.length)
  c.take (a+m)++ds++c.drop (a+m+ds.length)=p++vs++ds++A0.drop (a+m+ds.length):=by
 intro c;have d:A0.take a=p:=by rw[e,ss O,ma O]
 have h:c.take (a+m)=p++vs:=by
  show((A0.take a++vs)++_).take _=_;rw[d,ss (by rw[ea];omega),ma (by rw[ea];omega)]
 have i:c.drop (a+m+ds.length)=A0.drop (a+m+ds.length):=by
  show((A0.take a++vs)++_).drop _=_;rw[d,List.drop_append,lJ (by rw[ea];omega),uG,List.drop_drop,ea];congr 1;omega
 rw[h,i]
theorem afu{P:Program}{Ua:TypeDesc}{i0:TypeInfo}(call:j2 P f)(raw:AU P f t e sz i0 z)(hu:P.underlying t=aa (.slice e))(JF:P.info? e=aa i0)(aiw:i0.zero=aa z)(rN:z.cells.size=sz)(qm:i0.size=sz)
  (aij:P.underlying e=aa Ua) (hp:0<sz) (ahc:i0.bytes<=140000) (s v R:List (List T)) (i r I:Nat) (hi:i<=s.length) (rK:app (s.take i++v) (s.drop i)=aa R) (hs:Rows sz s) (Z:Rows sz v):
  jW P G f [.arr e r sz s,.arr e I sz v] [.bg 0 r sz 0 s.length,.t (.int .i64 i),.bg 1 I sz 0 v.length] (.bg 0 (r+1) sz 0 R.length) [.arr e (r+1) sz R,.arr e I sz v]:=by
 have hlen:s.length+v.length<=1000000000/\R=s.take i++v++s.drop i:=by
  unfold app at rK;split at rK
  ·rename_i h;simp at h;refine⟨O,by cases rK;rfl⟩
  cases rK
 obtain⟨hlen,vJ⟩:=hlen;have pf:R.length=s.length+v.length:=by rw[vJ];simp;omega
 have Sp: ∀A,A∈R->A.length=sz:=λA h=>by
  rw[vJ] at h;rcases eC.1 h with h|h
  ·rcases eC.1 h with h|h
   ·exact hs A (gP h)
   exact Z A h
  exact hs A (fq h)
 have hbig:(s.length+v.length)*i0.bytes<=140737488355328:=iF (oP hlen ahc) (by decide);have hm':s.length+v.length<=maxLen:=by unfold maxLen;omega
 have ag7:ct P e Ua z sz i0.bytes:=⟨aij,i0,JF,aiw,qm,rfl⟩
 refine⟨call,?_⟩;intro w X C us kV iv lB gI;have ahH:us.length=3:=gI.length;obtain⟨iH,ht,jS,rfl⟩: ∃a b c,us=[a,b,c]:=by
  match us,ahH with
  | [a,b,c],_=>exact⟨a,b,c,rfl⟩
 have h0:=Rel.mT (P:=P) (nt:=3) kV iv lB gI (cR _);obtain⟨vV,tK,S3,_⟩:=gI;obtain rfl:ht= .int .i64 i:=by
  cases tK with|t _ _ h=>cases h;rfl
 generalize vN:({tmps:=[iH,Value.int .i64 i,jS].toArray++Array.replicate (3-[iH,Value.int .i64 i,jS].toArray.size) undef,defers:=[]}:Act)=act at h0;generalize mG:Ctx.dR P G w X [E.arr e r sz s,E.arr e I sz v].length C 3=K at h0;have Jt:K.P=P:=by rw[<-mG];rfl
 have tB:K.X=X:=by rw[<-mG];rfl
 generalize j3:Lift.mT [E.arr e r sz s,E.arr e I sz v] [V.bg 0 r sz 0 s.length,V.t (.int .i64 i),V.bg 1 I sz 0 v.length]=Q at h0;have M:Q.H 0=aa (.arr e r sz s):=by rw[<-j3];rfl
 have Sk:Q.H 1=aa (.arr e I sz v):=by rw[<-j3];rfl
 have yN:Q.H=ft [E.arr e r sz s,E.arr e I sz v] 0:=by rw[<-j3];rfl
 have JP:own K C Q.H=mS X C (ft [E.arr e r sz s,E.arr e I sz v] 0):=by funext b;rw[yN];show(K.X b\/_)=_;rw[tB];rfl
 rw[<-JP] at vV S3;have tA:a8 Q.H 0 (aa (.arr e (r+1) sz R))=ft [E.arr e (r+1) sz R,E.arr e I sz v] 0:=by
  rw[yN];funext j
  match j with
  |0=>rfl
  |j+1=>rfl
 have fin: ∀(s':S) (p0:Act) (β':Map) (w':World) (x:Value),s'.H=a8 Q.H 0 (aa (.arr e (r+1) sz R))->Rel K β' s' p0 w'->bq β' w' (own K β' (a8 Q.H 0 (aa (.arr e (r+1) sz R)))) (.bg 0 (r+1) sz 0 R.length) x->
   ∃u,∃_i:Unit,∃β,Ending.returned x= .returned u/\True/\Left C β [E.arr e r sz s,E.arr e I sz v] [E.arr e (r+1) sz R,E.arr e I sz v] w w' X (.bg 0 (r+1) sz 0 R.length) u:=by
  intro s' p0 β' w' x Z b8 bW;subst mG;obtain⟨β,tM⟩:=E9 (out:=[E.arr e (r+1) sz R,E.arr e I sz v]) b8 (cR _) (by rw[Z];exact bW) rfl (by
   intro id e0 Dx;refine⟨⟨e0,?_,kH.refl _⟩,?_⟩
   ·rw[Z,tA];exact Dx
   match id with
   |0=>cases Dx;exact⟨rfl,rfl⟩
   |1=>cases Dx;exact⟨rfl,rfl⟩
   |k+2=>cases Dx)
  exact⟨x,(),β,rfl,trivial,tM⟩
 have kq:=(h0.heap 0 _ M).2.1;have pZ:=Cp (h0.heap 0 _ M).2 vV;have LG:=Cp (h0.heap 1 _ Sk).2 S3;have Dt:Q.H 0≠aj:=by rw[M];simp
 by_cases tJ:v=[]
 ·have Sq:R=s:=by rw[vJ,tJ];simp
  have run: ∀Ue,(∃hS dR,Ue=Value.slice hS 0 dR)->Calls P f #[iH,.int .i64 i,Ue] w λe w'=>e= .returned iH/\w'=w:=by
   rintro _ ⟨hS,dR,rfl⟩;rcases pZ with ⟨rfl,h1,_⟩|⟨b,L,o,rfl,_,_,_,cI,bT,_⟩
   ·subst h1
    have:i=0:=by simpa using hi
    subst this;exact raw.nothing aj hS 0 0 0 dR w (cR _) (cR _) (by decide)
   exact raw.nothing (aa ⟨b,0,aj⟩) hS s.length L i dR w hi cI (by unfold maxLen at bT;omega)
  refine(run jS ?_).mono ?_
  ·rcases LG with ⟨rfl,_,_⟩|⟨b,L,o,rfl,_⟩
   ·exact⟨_,_,rfl⟩
   exact⟨_,_,by rw[tJ];rfl⟩
  rintro e1 hr ⟨rfl,rfl⟩;obtain⟨uh,g⟩:=l8 (h0.heap 0 _ M).2;have bb:=h0.bump 0 e r sz s uh g M;rw[<-Sq] at bb;refine fin _ _ _ _ _ rfl bb ?_;rw[Sq];rcases d4 vV g with ⟨R2,b,n,lH,rfl,mI,hw,iw,qs,cI,qq⟩|⟨mI,_,JL,rfl⟩
  ·subst mI;exact .bg 0 (r+1) sz 0 _ R2 b n lH O (kp _ _ _) hw iw qs cI qq
  subst mI;rw[JL];exact .iT 0 (r+1) sz O (kp _ _ _)
 have yZ:0<v.length:=List.length_pos_iff.2 tJ;rcases LG with ⟨_,h1,_⟩|⟨hS,dR,d,rfl,ah3,Dy,akI,ahM,yU,mK⟩
 ·exact bB h1 tJ
 have F:(d.toList.take (v.length*sz)).length=v.length*sz:=by
  have:=eh sz ahM;rw[cZ];simp;omega
 have qi:=NH hp Z F mK;have vU:=MM (size:=sz) (n:=v.length) Dy (c:=0);by_cases lB:i=s.length
 ·have Sr:R=s++v:=by rw[vJ,lB];simp
  obtain⟨xm,rM⟩:=G5 0 [⟨e,sz,[]⟩] 0 M rfl rfl (.inr rfl) C act w h0;have ais:bq xm w (own K xm (a8 Q.H 0 (aa (.a7 [⟨e,sz,[]⟩] 0 r s [])))) (.bg 0 r sz 0 s.length) iH:=by
   have h:=rM.dC 0;rw[<-vN,<-j3] at h;rw[<-j3];exact h
  have ait:bq xm w (own K xm (a8 Q.H 0 (aa (.a7 [⟨e,sz,[]⟩] 0 r s [])))) (.bg 1 I sz 0 v.length) (.slice (aa ⟨hS,0,aj⟩) v.length dR):=by
   have h:=rM.dC 2;rw[<-vN,<-j3] at h;rw[<-j3];exact h
  rcases Cp (rM.heap 1 (.arr e I sz v) (show a8 Q.H 0 (aa (.a7 [⟨e,sz,[]⟩] 0 r s [])) 1=_ from(cb _ _ _ _ (by decide)).trans Sk)).2 ait with ⟨_,h1,_⟩|⟨ali,alj,aku,tL,_,Sz,_,_,_,ah8⟩
  ·exact bB h1 tJ
  cases tL;rw[Dy] at Sz;cases Sz;obtain⟨ef,w',β',g1,g2,g3⟩:=rM.I8 0 [⟨e,sz,[]⟩] 0 s v [] (gen:=r) (size:=sz) (e:=e) (show a8 Q.H 0 (aa (.a7 [⟨e,sz,[]⟩] 0 r s [])) 0=aa (.a7 [⟨e,sz,[]⟩] 0 r s []) from cd _ _ _) rfl rfl t (by rw[Jt];exact hu) (by rw[Jt];exact ag7) rN hs Z _ _ ais ⟨hS,0,dR,d.toList.take (v.length*sz),rfl,F,λj x hj=>by rw[dQ];exact vU j x hj,qi,λi j A x y c1 c2 eE=>⟨λv bW=>by(cases bW),λ_=>ah8 i j A x y c1 c2 eE⟩⟩ yZ (by simp[sO,aU]) hbig hm';simp only[Ct] at g2 g3;have tn:=g2.put (aa 0) (λi h=>by cases h;rw[<-mG];rfl) g3;obtain⟨Um,lW⟩:=NK (K:=K) (s:=({Q with H:=a8 Q.H 0 (aa (E.a7 [⟨e,sz,[]⟩] 0 (r+1) (s++v) []))}:S).put (aa 0) (.bg 0 (r+1) sz 0 (s.length+v.length))) (Γ:=[⟨e,sz,[]⟩]) (m:=0) (gen:=r+1) 0 (cd Q.H 0 (aa (E.a7 [⟨e,sz,[]⟩] 0 (r+1) (s++v) []))) rfl β' _ _ tn;have g4:=lW.dC 0;rw[Jt] at g1;rw[G4,NJ] at lW g4;simp only[Ct] at lW g4;have run:Calls P f #[iH,.int .i64 i,.slice (aa ⟨hS,0,aj⟩) v.length dR] w λe hr=>e= .returned ef/\hr=w':=by
   rcases pZ with ⟨rfl,h1,_⟩|⟨b,L,o,rfl,_,_,_,cI,bT,_⟩
   ·subst h1;subst lB;exact raw.tail aj _ 0 0 _ _ w ef w' yZ (cR _) (by decide) g1
   subst lB;exact raw.tail _ _ s.length L _ _ w ef w' yZ cI (by unfold maxLen at bT;omega) g1
  refine run.mono ?_;rintro e1 hr ⟨rfl,rfl⟩;refine fin _ _ _ _ _ (by rw[Sr];rfl) lW ?_;rw[Sr,ea];rw[<-vN] at g4;exact g4
 have JH:i<s.length:=O
 rcases pZ with ⟨_,h1,_⟩|⟨b,L,o,rfl,g,ql,Dv,SD,SF,JR⟩
 ·subst h1;simp at JH
 have hne:hS≠b:=λe0=>by
  subst e0
  have:=h0.inj 0 1 hS (.inl ⟨_,g⟩) (.inl ⟨_,ah3⟩);omega
 have D:(o.toList.take (s.length*sz)).length=s.length*sz:=by
  have:=eh sz SD;rw[cZ];simp;omega
 have Jn:=NH hp hs D JR;have pg:=MM (size:=sz) (n:=s.length) ql (c:=0);have ahy:i*sz<=s.length*sz:=eh sz hi;have ot:((o.toList.take (s.length*sz)).drop (i*sz)).length=(s.length-i)*sz:=by rw[fM,D,Nat.sub_mul]
 have Sd: ∀y∈(o.toList.take (s.length*sz)).drop (i*sz),y.oneCell'=ab:=λy hy=>Jn y (fq hy);have DF:(i+v.length)*sz+(s.length-i)*sz=(s.length+v.length)*sz:=by rw[<-eu];congr 1;omega
 have vP: ∀y u,df w (own K C Q.H) y u->df w.drew (own K C Q.H) y u:=λy u h=>h.mono (Ext.drew _ _) λ_ _ h=>h;by_cases SU:s.length+v.length<=L
 ·have qk:(s.length+v.length)*sz<=o.size:=by rw[Dv];exact eh sz SU
  refine(raw.room b s.length L i hS v.length dR _ _ w JH yZ SU (by unfold maxLen at SF;omega) hne D F pg (λj hj=>?_) (λj=>by simp[World.frozen?,ql]) vU Jn qi e e d.size o.size
   (by unfold hz;rw[Dy]) (by unfold hz;rw[ql]) ?_ λj=>by simp[World.frozen?,Dy]).mono ?_
  ·have:j<o.size:=O
   simp[World.cell?,ql,this]
  ·have:0<(s.length+v.length)*sz:=Nat.mul_pos O hp;omega
  rintro e1 hr ⟨rfl,B⟩;have yQ:w.drew.heap[b]? =aa (.cells o e (0,0)):=ql;rw[zu yQ (by rw[ot,DF];exact qk) Sd] at B;rw[zu (setRow_heap _ _ _ _ _ _ yQ) (by
   rw[F]
   have:i*sz+v.length*sz<=(s.length+v.length)*sz:=by rw[<-eu];exact eh sz O
   have h2: ∀l:List Value,l.toArray.size=l.length:=λl=>aX
   rw[h2];simp only[im,k',lP,ot];simp;omega) qi,setRow_setRow] at B
  have yX:=ada (cur:=o.toList) (cs:=o.toList.take (s.length*sz)) (vs:=d.toList.take (v.length*sz)) (a:=i*sz) (m:=v.length*sz) (k:=s.length*sz) ahy rfl F (by rw[<-eu];simpa using qk);rw[<-eu,<-eu] at yX;simp only at B;rw[yX] at B;generalize yO:(o.toList.take (s.length*sz)).take (i*sz)++d.toList.take (v.length*sz)++(o.toList.take (s.length*sz)).drop (i*sz)++o.toList.drop ((s.length+v.length)*sz)=nm at B;have vK:nm.toArray.size=o.size:=by
   rw[<-yO];have h2: ∀l:List Value,l.toArray.size=l.length:=λl=>aX
   rw[h2];simp only[im,F,ot,lP];rw[cZ,D];have h3:i*sz+(s.length-i)*sz=s.length*sz:=by rw[<-eu];congr 1;omega
   have h4:(s.length+v.length)*sz=s.length*sz+v.length*sz:=eu _ _ _;simp only[Array.length_toList];omega
  have hrel:=(xT h0).setRow 0 b (.inl ⟨_,g⟩) o e yQ nm.toArray vK (.arr e r sz R) Dt
   ⟨kq,Or.inr ⟨b,_,g,setRow_heap _ _ _ _ _ _ yQ,by rw[vK,pf];exact qk,Sp,λk j A x u aN a2 a3=>by
    have h9:=PA (rest:=o.toList.drop ((s.length+v.length)*sz)) rfl hi D F hs Z (R:=λx u=>df w.drew (own K C Q.H) x u) (λk j A x u dc cS fP=>vP _ _ (JR k j A x u dc cS fP)) (λk j A x u dc cS fP=>vP _ _ (mK k j A x u dc cS fP)) k j A x u (by rw[<-vJ];exact aN) a2 (by rw[yO];simpa using a3);refine h9.mono ⟨rfl,rfl,rfl,aX,λkk _ hx=>setRow_other _ _ _ _ λe0=>hx ?_⟩ λ_ _ h=>h;subst e0;exact .inr ⟨0,Dt,.inl ⟨_,g⟩⟩⟩⟩
  have N:=hrel.bump 0 e r sz R (aa b) g (show a8 Q.H 0 (aa (.arr e r sz R)) 0=aa (.arr e r sz R) from cd _ _ _);have Js:a8 (a8 Q.H 0 (aa (.arr e r sz R))) 0 (aa (.arr e (r+1) sz R))=a8 Q.H 0 (aa (.arr e (r+1) sz R)):=by
   funext j;by_cases hj:j=0
   ·subst hj;rw[cd,cd]
   rw[cb _ _ _ _ hj,cb _ _ _ _ hj,cb _ _ _ _ hj]
  simp only[Js] at N;rw[<-B] at N;refine fin _ _ _ _ _ rfl N ?_;have lY:bq (C.put 0 (aa (aa b,r+1))) hr (own K (C.put 0 (aa (aa b,r+1))) (a8 Q.H 0 (aa (.arr e (r+1) sz R)))) (.bg 0 (r+1) sz 0 R.length) (.slice (aa ⟨b,0*sz,aj⟩) R.length L):=by
   refine .bg 0 (r+1) sz 0 _ L b (L*sz) e O (kp _ _ _) ?_ ?_ (by rw[dQ]) O SF
   ·rw[B,setRow_size];exact(kB.1 ql).1
   unfold hz;rw[B,setRow_heap _ _ _ _ _ _ yQ];simp only[vK,Dv]
  rw[ik,pf] at lY;rw[pf];exact lY
 refine(raw.grow b s.length L i hS v.length dR _ _ w JH yZ SD O hlen hbig D F pg vU Jn qi).mono ?_;rintro e1 hr ⟨rfl,B⟩;generalize Sj:grownCap w (s.length+v.length) L e=nj at B;have Jr:s.length+v.length<=nj:=by rw[<-Sj];exact grownCap_ge w _ _ _
 have ag2:nj<=maxLen:=by rw[<-Sj];exact grownCap_le_maxLen w _ _ _ hm'
 generalize Se:(((o.toList.take (s.length*sz)).take (i*sz)).toArray++eS z.cells (s.length+v.length-i)++eS z.cells (nj-(s.length+v.length)):Array Value)=W at B;have DD:((o.toList.take (s.length*sz)).take (i*sz)).length=i*sz:=by rw[cZ,D];omega
 have yL:W.size=nj*sz:=by
  rw[<-Se];simp only[Array.size_append,List.size_toArray,size_zeroCells,rN,DD,<-Nat.add_mul];congr 1;omega
 have agT:W.toList.length=nj*sz:=by rw[<-yL];simp
 have JT:(s.length+v.length)*sz<=nj*sz:=eh sz Jr;have Sy:((w.alloc (.cells W e)).drew).heap[w.heap.size]? =aa (.cells W e (0,0)):=kP w _;have U:i*sz+(d.toList.take (v.length*sz)).length<=W.size:=by
  rw[F,yL]
  have:i*sz+v.length*sz<=(s.length+v.length)*sz:=by rw[<-eu];exact eh sz O
  omega
 rw[zu Sy U qi] at B;have ahq:=setRow_heap ((w.alloc (.cells W e)).drew) w.heap.size W (W.toList.take (i*sz)++d.toList.take (v.length*sz)++W.toList.drop (i*sz+(d.toList.take (v.length*sz)).length)).toArray e (0,0) Sy;have hg2:((((w.alloc (.cells W e)).drew).setRow w.heap.size (W.toList.take (i*sz)++d.toList.take (v.length*sz)++W.toList.drop (i*sz+(d.toList.take (v.length*sz)).length)).toArray).drew).heap[w.heap.size]? =_:=ahq;have y2:(W.toList.take (i*sz)++d.toList.take (v.length*sz)++W.toList.drop (i*sz+(d.toList.take (v.length*sz)).length)).length=nj*sz:=by
  simp only[im,k',lP];simp only[Array.length_toList,yL];rw[cZ] at F U;rw[yL] at U;omega
 rw[zu hg2 (by
  rw[ot,DF];have h2: ∀l:List Value,l.toArray.size=l.length:=λl=>aX
  rw[h2,y2];exact JT) Sd] at B
 have yX:=adH (A0:=W.toList) (ds:=(o.toList.take (s.length*sz)).drop (i*sz)) (vs:=d.toList.take (v.length*sz)) (a:=i*sz) (m:=v.length*sz) (p:=(o.toList.take (s.length*sz)).take (i*sz))
  (q:=(eS z.cells (s.length+v.length-i)).toList++(eS z.cells (nj-(s.length+v.length))).toList) (by rw[<-Se];simp) DD F (by
   rw[ot,<-eu,DF,agT];exact JT)
 rw[<-eu] at yX;simp only at B;rw[yX] at B;generalize yO:(o.toList.take (s.length*sz)).take (i*sz)++d.toList.take (v.length*sz)++(o.toList.take (s.length*sz)).drop (i*sz)++W.toList.drop ((i+v.length)*sz+((o.toList.take (s.length*sz)).drop (i*sz)).length)=nm at B;have y0:hr=(w.drew.drew).alloc (.cells nm.toArray e):=by
  rw[B];have h3:((((w.alloc (.cells W e)).drew).setRow w.heap.size (W.toList.take (i*sz)++d.toList.take (v.length*sz)++W.toList.drop (i*sz+(d.toList.take (v.length*sz)).length)).toArray).drew).setRow w.heap.size nm.toArray=(((w.drew.drew).alloc (.cells W e)).setRow w.heap.size (W.toList.take (i*sz)++d.toList.take (v.length*sz)++W.toList.drop (i*sz+(d.toList.take (v.length*sz)).length)).toArray).setRow w.heap.size nm.toArray:=rfl;rw[h3,setRow_setRow];exact World.setRow_alloc_new (w.drew.drew) W nm.toArray e
 have vK:nm.toArray.size=nj*sz:=by
  rw[<-yO];have h2: ∀l:List Value,l.toArray.size=l.length:=λl=>aX
  rw[h2];simp only[im,DD,F,ot,lP,Array.length_toList,yL];rw[DF];have h3:i*sz+(s.length-i)*sz=s.length*sz:=by rw[<-eu];congr 1;omega
  have h4:(s.length+v.length)*sz=s.length*sz+v.length*sz:=eu _ _ _;omega
 have yU:=(xT (xT h0)).move 0 e r sz s M nm.toArray R (by rw[vK,pf];exact JT) Sp (λk j A x u aN a2 a3=>by
  have h9:=PA (rest:=W.toList.drop ((i+v.length)*sz+((o.toList.take (s.length*sz)).drop (i*sz)).length)) rfl hi D F hs Z (R:=λx u=>df w.drew.drew (own K C Q.H) x u)
   (λk j A x u dc cS fP=>(vP _ _ (JR k j A x u dc cS fP)).mono (Ext.drew _ _) λ_ _ h=>h) (λk j A x u dc cS fP=>(vP _ _ (mK k j A x u dc cS fP)).mono (Ext.drew _ _) λ_ _ h=>h) k j A x u (by rw[<-vJ];exact aN) a2 (by rw[yO];simpa using a3)
  exact h9)
 rw[<-y0] at yU;refine fin _ _ _ _ _ rfl yU ?_;have akZ:(w.drew.drew).heap.size=w.heap.size:=rfl;have vR:=kP (w.drew.drew) (.cells nm.toArray e);have lY:bq (C.put 0 (aa (aa (w.drew.drew).heap.size,r+1))) hr (own K (C.put 0 (aa (aa (w.drew.drew).heap.size,r+1))) (a8 Q.H 0 (aa (.arr e (r+1) sz R)))) (.bg 0 (r+1) sz 0 R.length) (.slice (aa ⟨w.heap.size,0*sz,aj⟩) R.length nj):=by
  refine .bg 0 (r+1) sz 0 _ nj w.heap.size (nj*sz) e O (kp _ _ _) ?_ ?_ (by rw[dQ]) O ag2
  ·rw[y0];simp
  unfold hz;rw[y0];rw[show((w.drew.drew).alloc (.cells nm.toArray e)).heap[w.heap.size]? =aa (.cells nm.toArray e) from vR];simp only[vK]
 rw[ik,pf] at lY;rw[pf];exact lY
theorem QD{P:Program}{u:TypeDesc}{a:TypeInfo}(d:j2 P f)(q:AU P f t e n a z)(F:P.underlying t=aa (.slice e))(r:P.info? e=aa a)(w:a.zero=aa z)(y:z.cells.size=n)(A:a.size=n)
  (B:P.underlying e=aa u) (H:0<n) (C:a.bytes<=140000) {k:Type} (c:k->List T) (l: ∀x,(c x).length=n) (s v R:List k) (i m p:Nat) (K:i<=s.length) (o:app (s.take i++v) (s.drop i)=aa R):
  jW P G f [aH e m n c s,aH e p n c v] [ms 0 m n c s,.t (.int .i64 i),ms 1 p n c v] (ms 0 (m+1) n c R) [aH e (m+1) n c R,aH e p n c v]:=by
 refine afu d q F r w y A B H C (s.map c) (v.map c) (R.map c) i m p (by simpa using K) ?_ (Rows.map s l) (Rows.map v l);unfold app at o⊢;simp only[im,k',lP,List.length_map] at o⊢;split at o
 ·rename_i h;rw[aR h];cases o;simp[List.map_append,List.map_take,List.map_drop]
 cases o
section runs
variable {P:Program}
open Go.RowKit Go.Lib
theorem r9(w:World)(s y z c:TypeId)(k b o d l:Nat)(a:Addr)(e n m:Nat)(h:List Value)
  (A:P.underlying s=aa (.slice c)) (x:(P.info? c).map (·.size)=aa k) (B:m=Nat.min e d) (C:h.length=m*k)
  (p: ∀j v,h[j]? =aa v->w.cell? (a.add j)=aa v) (F: ∀j,j<h.length->(w.cell? ⟨b,o+j,aj⟩).isSome=ab) (G: ∀j,j<h.length->w.frozen? ⟨b,o+j,aj⟩=false) (H: ∀v∈h,v.oneCell'=ab):
  (Builtin.copy_ #[s,y] z #[.slice (aa ⟨b,o,aj⟩) d l,.slice (aa a) e n]).run P w= .ok (goInt m) (w.setCells b o h):=by
 have cI:=run_loadCells_list (P:=P) w a h p;have q:=run_storeCells_cells (P:=P) b o h 0 w (by simpa using F) (by simpa using G) H;cases r:P.info? c with
 |none=>simp[r] at x
 |some i=>
  have K:i.size=k:=by simpa[r] using x
  simp[Builtin.copy_,run_underlying A,Builtin.lenOf,Builtin.firstCells,sizeOf,typeInfo,r,K,<-B,<-C,cI,q]
theorem Xk(w:World){K:Act->World->Prop}(d s:Operand)(t c:TypeId)
  (e:o.op= .call {callee:= .builtin .copy,args:= #[d,s],argTypes:= #[t,c]}) (v u:Value) (i:a.eval d=v) (k:a.eval s=u)  
  (l:(Builtin.copy_ #[t,c] o.type #[v,u]).run P w= .ok z b) (h:K (a.put o.dst z) b):o.wp P a w K Q:=by unfold Oper.wp execOp;simp only[e,resolve,invoke,builtin,Sem.run_bind,Sem.run_pure,Result.andThen_ok,List.map_toArray,List.map_cons,List.map_nil,i,k,l];exact h
theorem vI(w:World){V:Array Oper}{l:List Oper}(c:o.guard=aj)(d s:Operand)(t e:TypeId)
  (i:o.op= .call {callee:= .builtin .copy,args:= #[d,s],argTypes:= #[t,e]}) (v u:Value) (k:a.eval d=v) (m:a.eval s=u)  
  (n:(Builtin.copy_ #[t,e] o.type #[v,u]).run P w= .ok z b) (h:wpList P V Q l (a.put o.dst z) b):wpList P V Q (o::l) a w:=
 wpList_plain c λ_ p=>Xk w d s t e i v u k m n (p _ _ h)
theorem Ed{V:Array Oper}{K:Act->World->Prop}{E:Prop}
  (i:o.guard=aj) (d x:Operand) (e h:TypeId) (c:o.op=Op.call {callee:=Callee.builtin Builtin.copy,args:= #[d,x],argTypes:= #[e,h]})
  (v u:Value) (k:a.eval d=v) (l:a.eval x=u)   (m:(Builtin.copy_ #[e,h] o.type #[v,u]).run P w= .ok z b) (n:K (a.put o.dst z) b):
  if Region.wanted o (yielded V a.tmps)=ab then Oper.wp P o a w K Q else E:=by
 have p:Region.wanted o (yielded V a.tmps)=ab:=by simp[Region.wanted,i]
 rw[aR p];unfold Oper.wp;simp[execOp,c,resolve,invoke,builtin,k,l,m,Result.andThen];exact n
theorem D0(b:Nat)(a:List Value)(o:Nat)(w:World)(h: ∀j,j<a.length->(w.cell? ⟨b,o+j,aj⟩).isSome=ab)(k:Nat)(c:(w.cell? ⟨b,k,aj⟩).isSome=ab):((w.setCells b o a).cell? ⟨b,k,aj⟩).isSome=ab:=by
 by_cases d:o<=k/\k<o+a.length
 ·have:=World.cell?_setCells_in b a o w h (k-o) O;rw[show o+(k-o)=k by omega] at this;rw[this];rfl
 rw[World.cell?_setCells_out b a o w ⟨b,k,aj⟩ λ_ _=>by show k<o\/o+a.length<=k;omega];exact c
end runs
end Go.Lift
