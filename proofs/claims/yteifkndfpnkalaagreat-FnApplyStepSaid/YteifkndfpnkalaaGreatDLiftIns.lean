/- Tools. -/
import Derived.Test.YteifkndfpnkalaaGreatDLiftY
import Derived.Shelf.RegionOpenPlain
import Derived.Lib.Walk
import Derived.Lib.SliceRun
import Derived.Lib.JoinLaws
import Derived.Lib.AppendZeros
import Derived.Lib.AppendZerosOnto
import Derived.Lib.Overlaps
import Derived.Laws.Externs
import Derived.Laws.IdiomCopy
import Derived.Laws.CopyRow
import Derived.Deep.WholeRow
set_option linter.unusedVariables false
namespace Go.Lift
open Go
open Option renaming some -> aa, none -> aj
open Bool renaming true -> ab
open List renaming length_append -> ik, length_take -> k8, length_drop -> lN
open Go.Builtin renaming zeroCells -> eR
open Go.World renaming shape? -> hv
variable {K:Ctx}{β W:Map}{s:S}{a:Act}{w b:World}{o:Oper}{i n k sz m:Nat}{t e:TypeId}{G:fL}{X:Nat->Prop}{c vs:List Value}{f:FuncId}{z:Value}{Q:Exit->Act->World->Prop}
theorem Rel.move(h:Rel K β s a w)(k:Nat)(o:TypeId)(gen d:Nat)(l:List (List T))(y:s.H k=aa (.arr o gen d l))(m:Array Value)(c:List (List T))
  (n:c.length*d<=m.size) (p: ∀e,e∈c->e.length=d) (q: ∀(i j:Nat) (e:List T) (x:T) (u:Value),c[i]? =aa e->e[j]? =aa x->m[i*d+j]? =aa u->df w (own K β s.H) x u):
  Rel K (β.put k (aa (aa w.heap.size,gen+1))) {s with H:=a8 s.H k (aa (.arr o (gen+1) d c))} a (w.alloc (.cells m o)):=
 h.Te k _ _ gen y rfl m o (λz C F A B _ _ r _=>by subst A;exact⟨O,.inr ⟨w.heap.size,m,B,kM _ _,n,p,λi j e x u aL a2 a3=>r _ _ (q i j e x u aL a2 a3)⟩⟩)
theorem Rel.bump(h:Rel K β s a w)(k:Nat)(p:TypeId)(gen c:Nat)(d:List (List T))(q:Option Nat)(l:β k=aa (q,gen))(m:s.H k=aa (.arr p gen c d)):
  Rel K (β.put k (aa (q,gen+1))) {s with H:=a8 s.H k (aa (.arr p (gen+1) c d))} a w:=
 h.I9 k _ _ gen q l (h.heap k _ m).2.1 m (λy G r _ _ z=>by
  refine⟨O,?_⟩;rcases(h.heap k _ m).2.2 with ⟨e,n⟩|⟨b,A,e,n,B,C,F⟩
  ·rw[l] at e;cases e;exact .inl ⟨r,n⟩
  rw[l] at e;cases e;exact .inr ⟨b,A,r,n,B,C,λi j o x u aL a2 a3=>(F i j o x u aL a2 a3).mono (Ext.refl _ _) λb _=>z b⟩)
theorem zu{b o:Nat}{i:List Value}{d:Array Value}(e:w.heap[b]? =aa (.cells d t (0,0)))(l:o+i.length<=d.size)(h: ∀v∈i,v.oneCell'=ab):
  w.setCells b o i=w.setRow b (d.toList.take o++i++d.toList.drop (o+i.length)).toArray:=by
 have a:=run_storeCells_at (P:=(default:Program)) b o t i 0 d w e O h;have c:=run_storeCells_cells (P:=(default:Program)) b o i 0 w (λj k=>by
  have:o+j<d.size:=O
  simp[World.cell?,e,this]) (λj k=>by simp[World.frozen?,e]) h
 rw[a] at c;simp only[Nat.add_zero] at c;injection c with _ c;exact c.symm
theorem Fh{P:Program}{d:World}{a out:List E}{T:Map}{c:S}{l:Act}{r:V}{u:Value}(x:Rel (Ctx.dR P G w X a.length T i) W c l d)(L:a.length<=out.length)
  (A:bq W d (own (Ctx.dR P G w X a.length T i) W c.H) r u) (p:r.ok (fA out.length)=ab) (y:mm c.H (fA out.length) (ft out 0)): ∃B,Left T B a out w d X r u:=by
 let m:S:={t:=qZ,H:=ft out 0,u:=fA out.length}
 have o:nF a.length m.u=ab:=by
  have: ∀n,n<=a.length->nF n m.u=ab:=by
   intro n;induction n with
   |zero=>intro _;rfl
   |succ n C=>intro Q;simp[nF,C O,show m.u n=ab from jW.2 O]
  exact this _ (cR _)
 have bT:=x.cut (s':=m) (pT.nil _ _) y o;have fb:=FY (K:=Ctx.dR P G w X a.length T i) (β:=W) (s:=c) (s':=m) y;refine⟨cut W m.u,?_⟩;refine⟨x.ext.weaken λb _ ⟨id,_,h⟩=>⟨id,h⟩,bT.base,bT.kz,?_,?_,bT.inj,bT.fresh,?_,A.under fb (λ_ h=>yk h) p⟩
 ·intro k F;apply bT.eF;cases q:m.u k with
  |false=>rfl
  |true=>have:=jW.1 q;omega
 ·intro k b F;apply bT.e9;cases q:m.u k with
  |false=>rfl
  |true=>have:=jW.1 q;omega
 intro k e z;exact(bT.heap k e (by rw[<-z1] at z;exact z)).2
structure AW (P:Program) (f:FuncId) (t e:TypeId) (sz:Nat) (i0:TypeInfo) (z:Value):Prop where
 nothing: ∀(base E1:Option Addr) (n c i dR:Nat) (w:World),i<=n->n<=c->c<=9223372036854775807->Calls P f #[.slice base n c,.int .i64 i,.slice E1 0 dR] w λe w'=>e= .returned (.slice base n c)/\w'=w
 tail: ∀(base E1:Option Addr) (n c m dR:Nat) (w:World) (eg:Value) (w':World),0<m->n<=c->c<=9223372036854775807->(Builtin.append_ #[t,t] t #[.slice base n c,.slice E1 m dR]).run P w= .ok eg w'->
  Calls P f #[.slice base n c,.int .i64 n,.slice E1 m dR] w λe hq=>e= .returned eg/\hq=w'
 room: ∀(b n c i hR m dR:Nat) (cs vs:List Value) (w:World),i<n->0<m->n+m<=c->c<=9223372036854775807->hR≠b->cs.length=n*sz->vs.length=m*sz->
  (∀j v,cs[j]? =aa v->w.cell? ⟨b,j,aj⟩=aa v)->(∀j,j<(n+m)*sz->(w.cell? ⟨b,j,aj⟩).isSome=ab)->(∀j,w.frozen? ⟨b,j,aj⟩=false)->
  (∀j v,vs[j]? =aa v->w.cell? ⟨hR,j,aj⟩=aa v)->(∀v∈cs,v.oneCell'=ab)->(∀v∈vs,v.oneCell'=ab)->
  ∀(alC ux:TypeId) (fs Ta:Nat),w.shape? hR=aa (alC,fs)->w.shape? b=aa (ux,Ta)->Ta≠0->(∀j,w.frozen? ⟨hR,j,aj⟩=false)->
  Calls P f #[.slice (aa ⟨b,0,aj⟩) n c,.int .i64 i,.slice (aa ⟨hR,0,aj⟩) m dR] w λe w'=>
   e= .returned (.slice (aa ⟨b,0,aj⟩) (n+m) c)/\w'=(w.drew.setCells b ((i+m)*sz) (cs.drop (i*sz))).setCells b (i*sz) vs
 grow: ∀(b n c i hR m dR:Nat) (cs vs:List Value) (w:World),i<n->0<m->n<=c->c<n+m->n+m<=1000000000->(n+m)*i0.bytes<=140737488355328->cs.length=n*sz->vs.length=m*sz->
  (∀j v,cs[j]? =aa v->w.cell? ⟨b,j,aj⟩=aa v)->(∀j v,vs[j]? =aa v->w.cell? ⟨hR,j,aj⟩=aa v)->(∀v∈cs,v.oneCell'=ab)->(∀v∈vs,v.oneCell'=ab)->
  Calls P f #[.slice (aa ⟨b,0,aj⟩) n c,.int .i64 i,.slice (aa ⟨hR,0,aj⟩) m dR] w λe' w'=>
   e'= .returned (.slice (aa ⟨w.heap.size,0,aj⟩) (n+m) (grownCap w (n+m) c e))/\
   w'=(((w.alloc (.cells ((cs.take (i*sz)).toArray++eR z.cells (n+m-i)++eR z.cells (grownCap w (n+m) c e-(n+m))) e)).drew.setCells w.heap.size (i*sz) vs).drew).setCells w.heap.size ((i+m)*sz) (cs.drop (i*sz))
theorem Po{L:Nat}{s v:List (List T)}{a rest:List Value}(q:s.length=n)(r:i<=n)(w:a.length=n*L)(l:c.length=v.length*L)(m:Rows L s)(e:Rows L v){R:T->Value->Prop}
  (o: ∀(i j:Nat) (d:List T) (x:T) (u:Value),s[i]? =aa d->d[j]? =aa x->a[i*L+j]? =aa u->R x u)
  (y: ∀(i j:Nat) (d:List T) (x:T) (u:Value),v[i]? =aa d->d[j]? =aa x->c[i*L+j]? =aa u->R x u):
  ∀(k j:Nat) (d:List T) (x:T) (u:Value),(s.take i++v++s.drop i)[k]? =aa d->d[j]? =aa x->(a.take (i*L)++c++a.drop (i*L)++rest)[k*L+j]? =aa u->R x u:=by
 have p:Rows L (s.take i):=λd h=>m d (gO h);have z:Rows L (s.drop i):=λd h=>m d (fq h);have A:=eh L r;have B:=B2 (a.take (i*L)) c [] (rows:=s.take i) (news:=v) (n:=i) (size:=L) (by rw[cZ];omega) (by rw[cZ];omega) l p e (R:=R)
  (λk j d x u aL a2 a3=>by
   rw[gZ] at aL a3;split at aL
   ·split at a3
    ·exact o k j d x u aL a2 a3
    cases a3
   cases aL) y
 have gk:=B2 (a.take (i*L)++c) (a.drop (i*L)) rest (rows:=s.take i++v) (news:=s.drop i) (n:=i+v.length) (size:=L) (by rw[ea,cZ];omega)
  (by rw[ea,cZ,l,eu];omega) (by rw[fM,fM,w,q,Nat.sub_mul]) (λd h=>by
   rcases eC.1 h with h|h
   ·exact p d h
   exact e d h) z (R:=R) (λk j d x u aL a2 a3=>B k j d x u aL a2 (by simpa using a3))
  (λk j d x u aL a2 a3=>by
   rw[gY] at aL a3;refine o (i+k) j d x u aL a2 ?_;rw[eu,q8];exact a3)
 intro k j d x u aL a2 a3;exact gk k j d x u aL a2 (by simpa using a3)
theorem MK{b size c:Nat}{a:Array Value}(e:w.heap[b]? =aa (.cells a t (0,0))): ∀j v,(a.toList.take (n*size))[j]? =aa v->w.cell? ⟨b,j,aj⟩=aa v:=by
 intro j v d;rw[gZ] at d;split at d
 ·simp only[World.cell?,e];simpa using d
 cases d
theorem Cm{gen:Nat}{a:List (List T)}{x:Value}(B:cX W w X k (.arr e gen sz a))(F:bq W w X (.bf k gen sz 0 a.length) x):
  (x= .slice aj 0 0/\a=[]/\W k=aa (aj,gen))\/ ∃(b c:Nat) (d:Array Value),x= .slice (aa ⟨b,0,aj⟩) a.length c/\W k=aa (aa b,gen)/\w.heap[b]? =aa (.cells d e (0,0))/\d.size=c*sz/\a.length<=c/\c<=maxLen/\
   ∀(i j:Nat) (l:List T) (y:T) (u:Value),a[i]? =aa l->l[j]? =aa y->(d.toList.take (a.length*sz))[i*sz+j]? =aa u->df w X y u:=by
 obtain⟨q,m⟩:=l7 B;rcases d4 F m with ⟨c,b,n,G,rfl,rfl,R,h,r,H,s⟩|⟨rfl,_,z,rfl⟩
 ·rcases B.2 with ⟨o,_⟩|⟨Z,d,o,C,f,g,K⟩
  ·rw[m] at o;cases o
  rw[m] at o;cases o;have A:d.size=c*sz:=by
   unfold hv at h;rw[C] at h;simp at h;rw[<-r] at h;rw[dQ] at h;exact h.2
  refine .inr ⟨b,c,d,by rw[ih],m,C,A,H,s,λi j l y u L Q p=>?_⟩;rw[gZ] at p;split at p
  ·exact K i j l y u L Q (by simpa using p)
  cases p
 exact .inl ⟨rfl,oK z,m⟩
theorem Nv{a:List (List T)}(h:0<sz)(n:Rows sz a)(o:c.length=a.length*sz)
  (p: ∀(i j:Nat) (d:List T) (y:T) (u:Value),a[i]? =aa d->d[j]? =aa y->c[i*sz+j]? =aa u->df w X y u): ∀v∈c,v.oneCell'=ab:=by
 intro v q;obtain⟨k,l⟩:=jO.1 q;have e:k<a.length*sz:=by rw[<-o];exact(bR.1 l).1
 have m:k / sz<a.length:=(w3 h).2 e;have r:k%sz<(a[k / sz]).length:=by rw[n _ (gB m)];exact Nat.mod_lt _ h
 exact(p (k / sz) (k%sz) _ ((a[k / sz])[k%sz]) v (bp m) (bp r) (by rw[Nat.div_add_mod'];exact l)).j4
theorem adj{cur cs:List Value}{a:Nat}(l:a<=k)(d:cs=cur.take k)(n:vs.length=m)(o:k+m<=cur.length):
  let c:=cur.take (a+m)++cs.drop a++cur.drop (a+m+(cs.drop a).length)
  c.take a++vs++c.drop (a+vs.length)=cs.take a++vs++cs.drop a++cur.drop (k+m):=by
 intro c;have e:cs.length=k:=by rw[d,cZ];omega
 have h:c.take a=cs.take a:=by
  show((cur.take (a+m)++cs.drop a)++_).take a=_;rw[fN,sr (by rw[cZ];omega),List.take_take,d,List.take_take];congr 1;omega
 have i:c.drop (a+vs.length)=cs.drop a++cur.drop (k+m):=by
  show((cur.take (a+m)++cs.drop a)++_).drop _=_;rw[fN,ER (by rw[cZ];omega),lH (by rw[cZ];omega),uG];congr 2;rw[fM];omega
 rw[h,i];simp
theorem adi{A0 ds:List Value}{a:Nat}{p:List Value}{q:List Value}(e:A0=p++q)(k:p.length=a)(l:vs.length=m)(n:a+m+ds.length<=A0.length):
  let c:=A0.take a++vs++A0.drop (a+vs.length)
  c.take (a+m)++ds++c.drop (a+m+ds.length)=p++vs++ds++A0.drop (a+m+ds.length):=by
 intro c;have d:A0.take a=p:=by rw[e,sr O,l9 O]
 have h:c.take (a+m)=p++vs:=by
  show((A0.take a++vs)++_).take _=_;rw[d,sr (by rw[ea];omega),l9 (by rw[ea];omega)]
 have i:c.drop (a+m+ds.length)=A0.drop (a+m+ds.length):=by
  show((A0.take a++vs)++_).drop _=_;rw[d,List.drop_append,lH (by rw[ea];omega),uG,List.drop_drop,ea];congr 1;omega
 rw[h,i]
theorem aeS{P:Program}{T5:TypeDesc}{i0:TypeInfo}(call:jZ P f)(raw:AW P f t e sz i0 z)(hu:P.underlying t=aa (.slice e))(JD:P.info? e=aa i0)(aii:i0.zero=aa z)(rP:z.cells.size=sz)(ql:i0.size=sz)
  (ah5:P.underlying e=aa T5) (hp:0<sz) (agZ:i0.bytes<=140000) (s v R:List (List T)) (i r I:Nat) (hi:i<=s.length) (rM:app (s.take i++v) (s.drop i)=aa R) (hs:Rows sz s) (Z:Rows sz v):
  jU P G f [.arr e r sz s,.arr e I sz v] [.bf 0 r sz 0 s.length,.t (.int .i64 i),.bf 1 I sz 0 v.length] (.bf 0 (r+1) sz 0 R.length) [.arr e (r+1) sz R,.arr e I sz v]:=by
 have hlen:s.length+v.length<=1000000000/\R=s.take i++v++s.drop i:=by
  unfold app at rM;split at rM
  ·rename_i h;simp at h;refine⟨O,by cases rM;rfl⟩
  cases rM
 obtain⟨hlen,vI⟩:=hlen;have o':R.length=s.length+v.length:=by rw[vI];simp;omega
 have Sh: ∀A,A∈R->A.length=sz:=λA h=>by
  rw[vI] at h;rcases eC.1 h with h|h
  ·rcases eC.1 h with h|h
   ·exact hs A (gO h)
   exact Z A h
  exact hs A (fq h)
 have hbig:(s.length+v.length)*i0.bytes<=140737488355328:=iE (oL hlen agZ) (by decide);have hm':s.length+v.length<=maxLen:=by unfold maxLen;omega
 have agT:cr P e T5 z sz i0.bytes:=⟨ah5,i0,JD,aii,ql,rfl⟩
 refine⟨call,?_⟩;intro w X C us kS iu lA gI;have aht:us.length=3:=gI.length;obtain⟨iG,hr,jQ,rfl⟩: ∃a b c,us=[a,b,c]:=by
  match us,aht with
  | [a,b,c],_=>exact⟨a,b,c,rfl⟩
 have h0:=Rel.mT (P:=P) (nt:=3) kS iu lA gI (cR _);obtain⟨vU,tJ,SU,_⟩:=gI;obtain rfl:hr= .int .i64 i:=by
  cases tJ with|t _ _ h=>cases h;rfl
 generalize vM:({tmps:=[iG,Value.int .i64 i,jQ].toArray++Array.replicate (3-[iG,Value.int .i64 i,jQ].toArray.size) undef,defers:=[]}:Act)=act at h0;generalize mG:Ctx.dR P G w X [E.arr e r sz s,E.arr e I sz v].length C 3=K at h0;have Jr:K.P=P:=by rw[<-mG];rfl
 have tA:K.X=X:=by rw[<-mG];rfl
 generalize j0:Lift.mT [E.arr e r sz s,E.arr e I sz v] [V.bf 0 r sz 0 s.length,V.t (.int .i64 i),V.bf 1 I sz 0 v.length]=Q at h0;have M:Q.H 0=aa (.arr e r sz s):=by rw[<-j0];rfl
 have Sd:Q.H 1=aa (.arr e I sz v):=by rw[<-j0];rfl
 have yL:Q.H=ft [E.arr e r sz s,E.arr e I sz v] 0:=by rw[<-j0];rfl
 have JN:own K C Q.H=mS X C (ft [E.arr e r sz s,E.arr e I sz v] 0):=by funext b;rw[yL];show(K.X b\/_)=_;rw[tA];rfl
 rw[<-JN] at vU SU;have tz:a8 Q.H 0 (aa (.arr e (r+1) sz R))=ft [E.arr e (r+1) sz R,E.arr e I sz v] 0:=by
  rw[yL];funext j
  match j with
  |0=>rfl
  |j+1=>rfl
 have fin: ∀(s':S) (pV:Act) (β':Map) (w':World) (x:Value),s'.H=a8 Q.H 0 (aa (.arr e (r+1) sz R))->Rel K β' s' pV w'->bq β' w' (own K β' (a8 Q.H 0 (aa (.arr e (r+1) sz R)))) (.bf 0 (r+1) sz 0 R.length) x->
   ∃u,∃_i:Unit,∃β,Ending.returned x= .returned u/\True/\Left C β [E.arr e r sz s,E.arr e I sz v] [E.arr e (r+1) sz R,E.arr e I sz v] w w' X (.bf 0 (r+1) sz 0 R.length) u:=by
  intro s' pV β' w' x Z b7 bW;subst mG;obtain⟨β,tL⟩:=Fh (out:=[E.arr e (r+1) sz R,E.arr e I sz v]) b7 (cR _) (by rw[Z];exact bW) rfl (by
   intro id e0 Dw;refine⟨⟨e0,?_,kG.refl _⟩,?_⟩
   ·rw[Z,tz];exact Dw
   match id with
   |0=>cases Dw;exact⟨rfl,rfl⟩
   |1=>cases Dw;exact⟨rfl,rfl⟩
   |k+2=>cases Dw)
  exact⟨x,(),β,rfl,trivial,tL⟩
 have ko:=(h0.heap 0 _ M).2.1;have pU:=Cm (h0.heap 0 _ M).2 vU;have LD:=Cm (h0.heap 1 _ Sd).2 SU;have Ds:Q.H 0≠aj:=by rw[M];simp
 by_cases tI:v=[]
 ·have Si:R=s:=by rw[vI,tI];simp
  have run: ∀T9,(∃hR dR,T9=Value.slice hR 0 dR)->Calls P f #[iG,.int .i64 i,T9] w λe w'=>e= .returned iG/\w'=w:=by
   rintro _ ⟨hR,dR,rfl⟩;rcases pU with ⟨rfl,h1,_⟩|⟨b,L,o,rfl,_,_,_,cI,bT,_⟩
   ·subst h1
    have:i=0:=by simpa using hi
    subst this;exact raw.nothing aj hR 0 0 0 dR w (cR _) (cR _) (by decide)
   exact raw.nothing (aa ⟨b,0,aj⟩) hR s.length L i dR w hi cI (by unfold maxLen at bT;omega)
  refine(run jQ ?_).mono ?_
  ·rcases LD with ⟨rfl,_,_⟩|⟨b,L,o,rfl,_⟩
   ·exact⟨_,_,rfl⟩
   exact⟨_,_,by rw[tI];rfl⟩
  rintro e1 hq ⟨rfl,rfl⟩;obtain⟨ug,g⟩:=l7 (h0.heap 0 _ M).2;have bb:=h0.bump 0 e r sz s ug g M;rw[<-Si] at bb;refine fin _ _ _ _ _ rfl bb ?_;rw[Si];rcases d4 vU g with ⟨RV,b,n,lF,rfl,mI,hw,iv,qq,cI,qp⟩|⟨mI,_,JJ,rfl⟩
  ·subst mI;exact .bf 0 (r+1) sz 0 _ RV b n lF O (kn _ _ _) hw iv qq cI qp
  subst mI;rw[JJ];exact .iS 0 (r+1) sz O (kn _ _ _)
 have yX:0<v.length:=List.length_pos_iff.2 tI;rcases LD with ⟨_,h1,_⟩|⟨hR,dR,d,rfl,ahP,Dx,aku,ahy,yS,mK⟩
 ·exact bB h1 tI
 have F:(d.toList.take (v.length*sz)).length=v.length*sz:=by
  have:=eh sz ahy;rw[cZ];simp;omega
 have qh:=Nv hp Z F mK;have vT:=MK (size:=sz) (n:=v.length) Dx (c:=0);by_cases lA:i=s.length
 ·have Sj:R=s++v:=by rw[vI,lA];simp
  obtain⟨xo,rO⟩:=G2 0 [⟨e,sz,[]⟩] 0 M rfl rfl (.inr rfl) C act w h0;have aid:bq xo w (own K xo (a8 Q.H 0 (aa (.a7 [⟨e,sz,[]⟩] 0 r s [])))) (.bf 0 r sz 0 s.length) iG:=by
   have h:=rO.dC 0;rw[<-vM,<-j0] at h;rw[<-j0];exact h
  have aie:bq xo w (own K xo (a8 Q.H 0 (aa (.a7 [⟨e,sz,[]⟩] 0 r s [])))) (.bf 1 I sz 0 v.length) (.slice (aa ⟨hR,0,aj⟩) v.length dR):=by
   have h:=rO.dC 2;rw[<-vM,<-j0] at h;rw[<-j0];exact h
  rcases Cm (rO.heap 1 (.arr e I sz v) (show a8 Q.H 0 (aa (.a7 [⟨e,sz,[]⟩] 0 r s [])) 1=_ from(cb _ _ _ _ (by decide)).trans Sd)).2 aie with ⟨_,h1,_⟩|⟨ak5,ak6,akg,tK,_,Ss,_,_,_,ahU⟩
  ·exact bB h1 tI
  cases tK;rw[Dx] at Ss;cases Ss;obtain⟨eg,w',β',g1,g2,g3⟩:=rO.I6 0 [⟨e,sz,[]⟩] 0 s v [] (gen:=r) (size:=sz) (e:=e) (show a8 Q.H 0 (aa (.a7 [⟨e,sz,[]⟩] 0 r s [])) 0=aa (.a7 [⟨e,sz,[]⟩] 0 r s []) from cd _ _ _) rfl rfl t (by rw[Jr];exact hu) (by rw[Jr];exact agT) rP hs Z _ _ aid ⟨hR,0,dR,d.toList.take (v.length*sz),rfl,F,λj x hj=>by rw[dQ];exact vT j x hj,qh,λi j A x y c1 c2 eE=>⟨λv bW=>by(cases bW),λ_=>ahU i j A x y c1 c2 eE⟩⟩ yX (by simp[sN,aU]) hbig hm';simp only[Cq] at g2 g3;have tm:=g2.put (aa 0) (λi h=>by cases h;rw[<-mG];rfl) g3;obtain⟨Ug,lU⟩:=ND (K:=K) (s:=({Q with H:=a8 Q.H 0 (aa (E.a7 [⟨e,sz,[]⟩] 0 (r+1) (s++v) []))}:S).put (aa 0) (.bf 0 (r+1) sz 0 (s.length+v.length))) (Γ:=[⟨e,sz,[]⟩]) (m:=0) (gen:=r+1) 0 (cd Q.H 0 (aa (E.a7 [⟨e,sz,[]⟩] 0 (r+1) (s++v) []))) rfl β' _ _ tm;have g4:=lU.dC 0;rw[Jr] at g1;rw[G1,NC] at lU g4;simp only[Cq] at lU g4;have run:Calls P f #[iG,.int .i64 i,.slice (aa ⟨hR,0,aj⟩) v.length dR] w λe hq=>e= .returned eg/\hq=w':=by
   rcases pU with ⟨rfl,h1,_⟩|⟨b,L,o,rfl,_,_,_,cI,bT,_⟩
   ·subst h1;subst lA;exact raw.tail aj _ 0 0 _ _ w eg w' yX (cR _) (by decide) g1
   subst lA;exact raw.tail _ _ s.length L _ _ w eg w' yX cI (by unfold maxLen at bT;omega) g1
  refine run.mono ?_;rintro e1 hq ⟨rfl,rfl⟩;refine fin _ _ _ _ _ (by rw[Sj];rfl) lU ?_;rw[Sj,ea];rw[<-vM] at g4;exact g4
 have JF:i<s.length:=O
 rcases pU with ⟨_,h1,_⟩|⟨b,L,o,rfl,g,qk,Du,Sw,Sy,JP⟩
 ·subst h1;simp at JF
 have hne:hR≠b:=λe0=>by
  subst e0
  have:=h0.inj 0 1 hR (.inl ⟨_,g⟩) (.inl ⟨_,ahP⟩);omega
 have D:(o.toList.take (s.length*sz)).length=s.length*sz:=by
  have:=eh sz Sw;rw[cZ];simp;omega
 have Jl:=Nv hp hs D JP;have pa:=MK (size:=sz) (n:=s.length) qk (c:=0);have ahk:i*sz<=s.length*sz:=eh sz hi;have oj:((o.toList.take (s.length*sz)).drop (i*sz)).length=(s.length-i)*sz:=by rw[fM,D,Nat.sub_mul]
 have R7: ∀y∈(o.toList.take (s.length*sz)).drop (i*sz),y.oneCell'=ab:=λy hy=>Jl y (fq hy);have DE:(i+v.length)*sz+(s.length-i)*sz=(s.length+v.length)*sz:=by rw[<-eu];congr 1;omega
 have vO: ∀y u,df w (own K C Q.H) y u->df w.drew (own K C Q.H) y u:=λy u h=>h.mono (Ext.drew _ _) λ_ _ h=>h;by_cases SM:s.length+v.length<=L
 ·have qj:(s.length+v.length)*sz<=o.size:=by rw[Du];exact eh sz SM
  refine(raw.room b s.length L i hR v.length dR _ _ w JF yX SM (by unfold maxLen at Sy;omega) hne D F pa (λj hj=>?_) (λj=>by simp[World.frozen?,qk]) vT Jl qh e e d.size o.size
   (by unfold hv;rw[Dx]) (by unfold hv;rw[qk]) ?_ λj=>by simp[World.frozen?,Dx]).mono ?_
  ·have:j<o.size:=O
   simp[World.cell?,qk,this]
  ·have:0<(s.length+v.length)*sz:=Nat.mul_pos O hp;omega
  rintro e1 hq ⟨rfl,B⟩;have yO:w.drew.heap[b]? =aa (.cells o e (0,0)):=qk;rw[zu yO (by rw[oj,DE];exact qj) R7] at B;rw[zu (setRow_heap _ _ _ _ _ _ yO) (by
   rw[F]
   have:i*sz+v.length*sz<=(s.length+v.length)*sz:=by rw[<-eu];exact eh sz O
   have h2: ∀l:List Value,l.toArray.size=l.length:=λl=>aX
   rw[h2];simp only[ik,k8,lN,oj];simp;omega) qh,setRow_setRow] at B
  have yV:=adj (cur:=o.toList) (cs:=o.toList.take (s.length*sz)) (vs:=d.toList.take (v.length*sz)) (a:=i*sz) (m:=v.length*sz) (k:=s.length*sz) ahk rfl F (by rw[<-eu];simpa using qj);rw[<-eu,<-eu] at yV;simp only at B;rw[yV] at B;generalize yM:(o.toList.take (s.length*sz)).take (i*sz)++d.toList.take (v.length*sz)++(o.toList.take (s.length*sz)).drop (i*sz)++o.toList.drop ((s.length+v.length)*sz)=nk at B;have vJ:nk.toArray.size=o.size:=by
   rw[<-yM];have h2: ∀l:List Value,l.toArray.size=l.length:=λl=>aX
   rw[h2];simp only[ik,F,oj,lN];rw[cZ,D];have h3:i*sz+(s.length-i)*sz=s.length*sz:=by rw[<-eu];congr 1;omega
   have h4:(s.length+v.length)*sz=s.length*sz+v.length*sz:=eu _ _ _;simp only[Array.length_toList];omega
  have hrel:=(xS h0).setRow 0 b (.inl ⟨_,g⟩) o e yO nk.toArray vJ (.arr e r sz R) Ds
   ⟨ko,Or.inr ⟨b,_,g,setRow_heap _ _ _ _ _ _ yO,by rw[vJ,o'];exact qj,Sh,λk j A x u aL a2 a3=>by
    have h9:=Po (rest:=o.toList.drop ((s.length+v.length)*sz)) rfl hi D F hs Z (R:=λx u=>df w.drew (own K C Q.H) x u) (λk j A x u dc cS fP=>vO _ _ (JP k j A x u dc cS fP)) (λk j A x u dc cS fP=>vO _ _ (mK k j A x u dc cS fP)) k j A x u (by rw[<-vI];exact aL) a2 (by rw[yM];simpa using a3);refine h9.mono ⟨rfl,rfl,rfl,aX,λkk _ hx=>setRow_other _ _ _ _ λe0=>hx ?_⟩ λ_ _ h=>h;subst e0;exact .inr ⟨0,Ds,.inl ⟨_,g⟩⟩⟩⟩
  have N:=hrel.bump 0 e r sz R (aa b) g (show a8 Q.H 0 (aa (.arr e r sz R)) 0=aa (.arr e r sz R) from cd _ _ _);have Jq:a8 (a8 Q.H 0 (aa (.arr e r sz R))) 0 (aa (.arr e (r+1) sz R))=a8 Q.H 0 (aa (.arr e (r+1) sz R)):=by
   funext j;by_cases hj:j=0
   ·subst hj;rw[cd,cd]
   rw[cb _ _ _ _ hj,cb _ _ _ _ hj,cb _ _ _ _ hj]
  simp only[Jq] at N;rw[<-B] at N;refine fin _ _ _ _ _ rfl N ?_;have lW:bq (C.put 0 (aa (aa b,r+1))) hq (own K (C.put 0 (aa (aa b,r+1))) (a8 Q.H 0 (aa (.arr e (r+1) sz R)))) (.bf 0 (r+1) sz 0 R.length) (.slice (aa ⟨b,0*sz,aj⟩) R.length L):=by
   refine .bf 0 (r+1) sz 0 _ L b (L*sz) e O (kn _ _ _) ?_ ?_ (by rw[dQ]) O Sy
   ·rw[B,setRow_size];exact(kA.1 qk).1
   unfold hv;rw[B,setRow_heap _ _ _ _ _ _ yO];simp only[vJ,Du]
  rw[ih,o'] at lW;rw[o'];exact lW
 refine(raw.grow b s.length L i hR v.length dR _ _ w JF yX Sw O hlen hbig D F pa vT Jl qh).mono ?_;rintro e1 hq ⟨rfl,B⟩;generalize Sc:grownCap w (s.length+v.length) L e=ni at B;have Jp:s.length+v.length<=ni:=by rw[<-Sc];exact grownCap_ge w _ _ _
 have agO:ni<=maxLen:=by rw[<-Sc];exact grownCap_le_maxLen w _ _ _ hm'
 generalize R8:(((o.toList.take (s.length*sz)).take (i*sz)).toArray++eR z.cells (s.length+v.length-i)++eR z.cells (ni-(s.length+v.length)):Array Value)=W at B;have DC:((o.toList.take (s.length*sz)).take (i*sz)).length=i*sz:=by rw[cZ,D];omega
 have yJ:W.size=ni*sz:=by
  rw[<-R8];simp only[Array.size_append,List.size_toArray,size_zeroCells,rP,DC,<-Nat.add_mul];congr 1;omega
 have agF:W.toList.length=ni*sz:=by rw[<-yJ];simp
 have JR:(s.length+v.length)*sz<=ni*sz:=eh sz Jp;have Sr:((w.alloc (.cells W e)).drew).heap[w.heap.size]? =aa (.cells W e (0,0)):=kM w _;have U:i*sz+(d.toList.take (v.length*sz)).length<=W.size:=by
  rw[F,yJ]
  have:i*sz+v.length*sz<=(s.length+v.length)*sz:=by rw[<-eu];exact eh sz O
  omega
 rw[zu Sr U qh] at B;have ahc:=setRow_heap ((w.alloc (.cells W e)).drew) w.heap.size W (W.toList.take (i*sz)++d.toList.take (v.length*sz)++W.toList.drop (i*sz+(d.toList.take (v.length*sz)).length)).toArray e (0,0) Sr;have hg2:((((w.alloc (.cells W e)).drew).setRow w.heap.size (W.toList.take (i*sz)++d.toList.take (v.length*sz)++W.toList.drop (i*sz+(d.toList.take (v.length*sz)).length)).toArray).drew).heap[w.heap.size]? =_:=ahc;have y0:(W.toList.take (i*sz)++d.toList.take (v.length*sz)++W.toList.drop (i*sz+(d.toList.take (v.length*sz)).length)).length=ni*sz:=by
  simp only[ik,k8,lN];simp only[Array.length_toList,yJ];rw[cZ] at F U;rw[yJ] at U;omega
 rw[zu hg2 (by
  rw[oj,DE];have h2: ∀l:List Value,l.toArray.size=l.length:=λl=>aX
  rw[h2,y0];exact JR) R7] at B
 have yV:=adi (A0:=W.toList) (ds:=(o.toList.take (s.length*sz)).drop (i*sz)) (vs:=d.toList.take (v.length*sz)) (a:=i*sz) (m:=v.length*sz) (p:=(o.toList.take (s.length*sz)).take (i*sz))
  (q:=(eR z.cells (s.length+v.length-i)).toList++(eR z.cells (ni-(s.length+v.length))).toList) (by rw[<-R8];simp) DC F (by
   rw[oj,<-eu,DE,agF];exact JR)
 rw[<-eu] at yV;simp only at B;rw[yV] at B;generalize yM:(o.toList.take (s.length*sz)).take (i*sz)++d.toList.take (v.length*sz)++(o.toList.take (s.length*sz)).drop (i*sz)++W.toList.drop ((i+v.length)*sz+((o.toList.take (s.length*sz)).drop (i*sz)).length)=nk at B;have yY:hq=(w.drew.drew).alloc (.cells nk.toArray e):=by
  rw[B];have h3:((((w.alloc (.cells W e)).drew).setRow w.heap.size (W.toList.take (i*sz)++d.toList.take (v.length*sz)++W.toList.drop (i*sz+(d.toList.take (v.length*sz)).length)).toArray).drew).setRow w.heap.size nk.toArray=(((w.drew.drew).alloc (.cells W e)).setRow w.heap.size (W.toList.take (i*sz)++d.toList.take (v.length*sz)++W.toList.drop (i*sz+(d.toList.take (v.length*sz)).length)).toArray).setRow w.heap.size nk.toArray:=rfl;rw[h3,setRow_setRow];exact World.setRow_alloc_new (w.drew.drew) W nk.toArray e
 have vJ:nk.toArray.size=ni*sz:=by
  rw[<-yM];have h2: ∀l:List Value,l.toArray.size=l.length:=λl=>aX
  rw[h2];simp only[ik,DC,F,oj,lN,Array.length_toList,yJ];rw[DE];have h3:i*sz+(s.length-i)*sz=s.length*sz:=by rw[<-eu];congr 1;omega
  have h4:(s.length+v.length)*sz=s.length*sz+v.length*sz:=eu _ _ _;omega
 have yS:=(xS (xS h0)).move 0 e r sz s M nk.toArray R (by rw[vJ,o'];exact JR) Sh (λk j A x u aL a2 a3=>by
  have h9:=Po (rest:=W.toList.drop ((i+v.length)*sz+((o.toList.take (s.length*sz)).drop (i*sz)).length)) rfl hi D F hs Z (R:=λx u=>df w.drew.drew (own K C Q.H) x u)
   (λk j A x u dc cS fP=>(vO _ _ (JP k j A x u dc cS fP)).mono (Ext.drew _ _) λ_ _ h=>h) (λk j A x u dc cS fP=>(vO _ _ (mK k j A x u dc cS fP)).mono (Ext.drew _ _) λ_ _ h=>h) k j A x u (by rw[<-vI];exact aL) a2 (by rw[yM];simpa using a3)
  exact h9)
 rw[<-yY] at yS;refine fin _ _ _ _ _ rfl yS ?_;have akL:(w.drew.drew).heap.size=w.heap.size:=rfl;have vQ:=kM (w.drew.drew) (.cells nk.toArray e);have lW:bq (C.put 0 (aa (aa (w.drew.drew).heap.size,r+1))) hq (own K (C.put 0 (aa (aa (w.drew.drew).heap.size,r+1))) (a8 Q.H 0 (aa (.arr e (r+1) sz R)))) (.bf 0 (r+1) sz 0 R.length) (.slice (aa ⟨w.heap.size,0*sz,aj⟩) R.length ni):=by
  refine .bf 0 (r+1) sz 0 _ ni w.heap.size (ni*sz) e O (kn _ _ _) ?_ ?_ (by rw[dQ]) O agO
  ·rw[yY];simp
  unfold hv;rw[yY];rw[show((w.drew.drew).alloc (.cells nk.toArray e)).heap[w.heap.size]? =aa (.cells nk.toArray e) from vQ];simp only[vJ]
 rw[ih,o'] at lW;rw[o'];exact lW
theorem Qi{P:Program}{u:TypeDesc}{a:TypeInfo}(d:jZ P f)(q:AW P f t e n a z)(F:P.underlying t=aa (.slice e))(r:P.info? e=aa a)(w:a.zero=aa z)(y:z.cells.size=n)(A:a.size=n)
  (B:P.underlying e=aa u) (H:0<n) (C:a.bytes<=140000) {k:Type} (c:k->List T) (l: ∀x,(c x).length=n) (s v R:List k) (i m p:Nat) (K:i<=s.length) (o:app (s.take i++v) (s.drop i)=aa R):
  jU P G f [aH e m n c s,aH e p n c v] [ms 0 m n c s,.t (.int .i64 i),ms 1 p n c v] (ms 0 (m+1) n c R) [aH e (m+1) n c R,aH e p n c v]:=by
 refine aeS d q F r w y A B H C (s.map c) (v.map c) (R.map c) i m p (by simpa using K) ?_ (Rows.map s l) (Rows.map v l);unfold app at o⊢;simp only[ik,k8,lN,List.length_map] at o⊢;split at o
 ·rename_i h;rw[aR h];cases o;simp[List.map_append,List.map_take,List.map_drop]
 cases o
section runs
variable {P:Program}
open Go.RowKit Go.Lib
theorem r'(w:World)(s y z c:TypeId)(k b o d l:Nat)(a:Addr)(e n m:Nat)(h:List Value)
  (A:P.underlying s=aa (.slice c)) (x:(P.info? c).map (·.size)=aa k) (B:m=Nat.min e d) (C:h.length=m*k)
  (p: ∀j v,h[j]? =aa v->w.cell? (a.add j)=aa v) (F: ∀j,j<h.length->(w.cell? ⟨b,o+j,aj⟩).isSome=ab) (G: ∀j,j<h.length->w.frozen? ⟨b,o+j,aj⟩=false) (H: ∀v∈h,v.oneCell'=ab):
  (Builtin.copy_ #[s,y] z #[.slice (aa ⟨b,o,aj⟩) d l,.slice (aa a) e n]).run P w= .ok (goInt m) (w.setCells b o h):=by
 have cI:=run_loadCells_list (P:=P) w a h p;have q:=run_storeCells_cells (P:=P) b o h 0 w (by simpa using F) (by simpa using G) H;cases r:P.info? c with
 |none=>simp[r] at x
 |some i=>
  have K:i.size=k:=by simpa[r] using x
  simp[Builtin.copy_,run_underlying A,Builtin.lenOf,Builtin.firstCells,sizeOf,typeInfo,r,K,<-B,<-C,cI,q]
theorem Xh(w:World){K:Act->World->Prop}(d s:Operand)(t c:TypeId)
  (e:o.op= .call {callee:= .builtin .copy,args:= #[d,s],argTypes:= #[t,c]}) (v u:Value) (i:a.eval d=v) (k:a.eval s=u)  
  (l:(Builtin.copy_ #[t,c] o.type #[v,u]).run P w= .ok z b) (h:K (a.put o.dst z) b):o.wp P a w K Q:=by unfold Oper.wp execOp;simp only[e,resolve,invoke,builtin,Sem.run_bind,Sem.run_pure,Result.andThen_ok,List.map_toArray,List.map_cons,List.map_nil,i,k,l];exact h
theorem vH(w:World){V:Array Oper}{l:List Oper}(c:o.guard=aj)(d s:Operand)(t e:TypeId)
  (i:o.op= .call {callee:= .builtin .copy,args:= #[d,s],argTypes:= #[t,e]}) (v u:Value) (k:a.eval d=v) (m:a.eval s=u)  
  (n:(Builtin.copy_ #[t,e] o.type #[v,u]).run P w= .ok z b) (h:wpList P V Q l (a.put o.dst z) b):wpList P V Q (o::l) a w:=
 wpList_plain c λ_ p=>Xh w d s t e i v u k m n (p _ _ h)
theorem D'{V:Array Oper}{K:Act->World->Prop}{E:Prop}
  (i:o.guard=aj) (d x:Operand) (e h:TypeId) (c:o.op=Op.call {callee:=Callee.builtin Builtin.copy,args:= #[d,x],argTypes:= #[e,h]})
  (v u:Value) (k:a.eval d=v) (l:a.eval x=u)   (m:(Builtin.copy_ #[e,h] o.type #[v,u]).run P w= .ok z b) (n:K (a.put o.dst z) b):
  if Region.wanted o (yielded V a.tmps)=ab then Oper.wp P o a w K Q else E:=by
 have p:Region.wanted o (yielded V a.tmps)=ab:=by simp[Region.wanted,i]
 rw[aR p];unfold Oper.wp;simp[execOp,c,resolve,invoke,builtin,k,l,m,Result.andThen];exact n
theorem DY(b:Nat)(a:List Value)(o:Nat)(w:World)(h: ∀j,j<a.length->(w.cell? ⟨b,o+j,aj⟩).isSome=ab)(k:Nat)(c:(w.cell? ⟨b,k,aj⟩).isSome=ab):((w.setCells b o a).cell? ⟨b,k,aj⟩).isSome=ab:=by
 by_cases d:o<=k/\k<o+a.length
 ·have:=World.cell?_setCells_in b a o w h (k-o) O;rw[show o+(k-o)=k by omega] at this;rw[this];rfl
 rw[World.cell?_setCells_out b a o w ⟨b,k,aj⟩ λ_ _=>by show k<o\/o+a.length<=k;omega];exact c
end runs
end Go.Lift
