/- Tools. -/
import Derived.Test.YtlbojjldejlgaabGreatELiftY
import Derived.Shelf.RegionOpenPlain
import Derived.Lib.Walk
import Derived.Lib.SliceRun
import Derived.Lib.JoinLaws
import Derived.Lib.AppendZeros
import Derived.Lib.AppendZerosOnto
import Derived.Lib.Overlaps
import Derived.Laws.Externs
import Derived.Laws.IdiomCopy
import Derived.Laws.CopyRow
import Derived.Deep.WholeRow
set_option linter.unusedVariables false
namespace Go.Lift
open Go
variable {b m n sz:Nat}{o:Oper}{e t:TypeId}{w c:World}{G:eS}{X:Nat->Prop}{a:Act}{vs:List Value}{f:FuncId}{z:Value}{K:Act->World->Prop}{Q:Exit->Act->World->Prop}
theorem x5{o:Nat}{e:List Value}{d:Array Value}(h:w.heap[b]? =some (.cells d t (0,0)))(l:o+e.length<=d.size)(i: ∀v∈e,v.oneCell'=true):
  w.setCells b o e=w.setRow b (d.toList.take o++e++d.toList.drop (o+e.length)).toArray:=by
 have a:=run_storeCells_at (P:=(default:Program)) b o t e 0 d w h O i;have c:=run_storeCells_cells (P:=(default:Program)) b o e 0 w (λj k=>by
  have:o+j<d.size:=O
  simp[World.cell?,h,this]) (λj k=>by simp[World.frozen?,h]) i
 rw[a] at c;simp only[Nat.add_zero] at c;injection c with _ c;exact c.symm
theorem De{P:Program}{i:World}{a out:List E}{c U:Map}{d:S}{l:Act}{r:V}{u:Value}(y:Rel (Ctx.dy P G w X a.length c m) U d l i)(L:a.length<=out.length)
  (B:bh U i (own (Ctx.dy P G w X a.length c m) U d.H) r u) (q:r.ok (eN out.length)=true) (z:k0 d.H (eN out.length) (eJ out 0)): ∃C,Left c C a out w i X r u:=by
 let o:S:={t:=o8,H:=eJ out 0,u:=eN out.length}
 have p:ma a.length o.u=true:=by
  have: ∀n,n<=a.length->ma n o.u=true:=by
   intro n;induction n with
   |zero=>intro _;rfl
   |succ n D=>intro Q;simp[ma,D O,show o.u n=true from iB.2 O]
  exact this _ (cD _)
 have bB:=y.cut (s':=o) (oz.nil _ _) z p;have dY:=Ek (K:=Ctx.dy P G w X a.length c m) (β:=U) (s:=d) (s':=o) z;refine⟨cut U o.u,?_⟩;refine⟨y.ext.weaken λb _ ⟨id,_,h⟩=>⟨id,h⟩,bB.base,bB.iq,?_,?_,bB.inj,bB.fresh,?_,B.under dY (λ_ h=>wR h) q⟩
 ·intro k F;apply bB.dB;cases x:o.u k with
  |false=>rfl
  |true=>have:=iB.1 x;omega
 ·intro k b F;apply bB.dX;cases x:o.u k with
  |false=>rfl
  |true=>have:=iB.1 x;omega
 intro k e A;exact(bB.heap k e (by rw[<-yw] at A;exact A)).2
structure y3 (P:Program) (f:FuncId) (t e:TypeId) (sz:Nat) (i0:TypeInfo) (z:Value):Prop where
 nothing: ∀(base Dy:Option Addr) (n c i dy:Nat) (w:World),i<=n->n<=c->c<=9223372036854775807->Calls P f #[.slice base n c,.int .i64 i,.slice Dy 0 dy] w λe w'=>e= .returned (.slice base n c)/\w'=w
 tail: ∀(base Dy:Option Addr) (n c m dy:Nat) (w:World) (c8:Value) (w':World),0<m->n<=c->c<=9223372036854775807->(Builtin.append_ #[t,t] t #[.slice base n c,.slice Dy m dy]).run P w= .ok c8 w'->
  Calls P f #[.slice base n c,.int .i64 n,.slice Dy m dy] w λe fg=>e= .returned c8/\fg=w'
 room: ∀(b n c i hl m dy:Nat) (cs vs:List Value) (w:World),i<n->0<m->n+m<=c->c<=9223372036854775807->hl≠b->cs.length=n*sz->vs.length=m*sz->
  (∀j v,cs[j]? =some v->w.cell? ⟨b,j,none⟩=some v)->(∀j,j<(n+m)*sz->(w.cell? ⟨b,j,none⟩).isSome=true)->(∀j,w.frozen? ⟨b,j,none⟩=false)->
  (∀j v,vs[j]? =some v->w.cell? ⟨hl,j,none⟩=some v)->(∀v∈cs,v.oneCell'=true)->(∀v∈vs,v.oneCell'=true)->
  ∀(ajd sx:TypeId) (fe QP:Nat),w.shape? hl=some (ajd,fe)->w.shape? b=some (sx,QP)->QP≠0->(∀j,w.frozen? ⟨hl,j,none⟩=false)->
  Calls P f #[.slice (some ⟨b,0,none⟩) n c,.int .i64 i,.slice (some ⟨hl,0,none⟩) m dy] w λe w'=>
   e= .returned (.slice (some ⟨b,0,none⟩) (n+m) c)/\w'=(w.drew.setCells b ((i+m)*sz) (cs.drop (i*sz))).setCells b (i*sz) vs
 grow: ∀(b n c i hl m dy:Nat) (cs vs:List Value) (w:World),i<n->0<m->n<=c->c<n+m->n+m<=1000000000->(n+m)*i0.bytes<=140737488355328->cs.length=n*sz->vs.length=m*sz->
  (∀j v,cs[j]? =some v->w.cell? ⟨b,j,none⟩=some v)->(∀j v,vs[j]? =some v->w.cell? ⟨hl,j,none⟩=some v)->(∀v∈cs,v.oneCell'=true)->(∀v∈vs,v.oneCell'=true)->
  Calls P f #[.slice (some ⟨b,0,none⟩) n c,.int .i64 i,.slice (some ⟨hl,0,none⟩) m dy] w λe' w'=>
   e'= .returned (.slice (some ⟨w.heap.size,0,none⟩) (n+m) (grownCap w (n+m) c e))/\
   w'=(((w.alloc (.cells ((cs.take (i*sz)).toArray++Builtin.zeroCells z.cells (n+m-i)++Builtin.zeroCells z.cells (grownCap w (n+m) c e-(n+m))) e)).drew.setCells w.heap.size (i*sz) vs).drew).setCells w.heap.size ((i+m)*sz) (cs.drop (i*sz))
theorem Nd{i:Nat}{s v:List (List T)}{a b rest:List Value}(q:s.length=n)(r:i<=n)(w:a.length=n*m)(e:b.length=v.length*m)(l:Rows m s)(d:Rows m v){R:T->Value->Prop}
  (o: ∀(i j:Nat) (c:List T) (x:T) (u:Value),s[i]? =some c->c[j]? =some x->a[i*m+j]? =some u->R x u)
  (y: ∀(i j:Nat) (c:List T) (x:T) (u:Value),v[i]? =some c->c[j]? =some x->b[i*m+j]? =some u->R x u):
  ∀(k j:Nat) (c:List T) (x:T) (u:Value),(s.take i++v++s.drop i)[k]? =some c->c[j]? =some x->(a.take (i*m)++b++a.drop (i*m)++rest)[k*m+j]? =some u->R x u:=by
 have p:Rows m (s.take i):=λc h=>l c (fU h);have z:Rows m (s.drop i):=λc h=>l c (eV h);have A:=dt m r;have B:=vJ (a.take (i*m)) b [] (rows:=s.take i) (news:=v) (n:=i) (size:=m) (by rw[cq];omega) (by rw[cq];omega) e p d (R:=R)
  (λk j c x u aH a2 a3=>by
   rw[fL] at aH a3;split at aH
   ·split at a3
    ·exact o k j c x u aH a2 a3
    cases a3
   cases aH) y
 have di:=vJ (a.take (i*m)++b) (a.drop (i*m)) rest (rows:=s.take i++v) (news:=s.drop i) (n:=i+v.length) (size:=m) (by rw[cP,cq];omega)
  (by rw[cP,cq,e,dC];omega) (by rw[eX,eX,w,q,Nat.sub_mul]) (λc h=>by
   rcases ef.1 h with h|h
   ·exact p c h
   exact d c h) z (R:=R) (λk j c x u aH a2 a3=>B k j c x u aH a2 (by simpa using a3))
  (λk j c x u aH a2 a3=>by
   rw[fS] at aH a3;refine o (i+k) j c x u aH a2 ?_;rw[dC,pf];exact a3)
 intro k j c x u aH a2 a3;exact di k j c x u aH a2 (by simpa using a3)
theorem Lm{size c:Nat}{a:Array Value}(e:w.heap[b]? =some (.cells a t (0,0))): ∀j v,(a.toList.take (n*size))[j]? =some v->w.cell? ⟨b,j,none⟩=some v:=by
 intro j v d;rw[fL] at d;split at d
 ·simp only[World.cell?,e];simpa using d
 cases d
theorem Gd{G:Map}{gen:Nat}{a:List (List T)}{x:Value}(B:cy G w X m (.arr e gen sz a))(D:bh G w X (.a7 m gen sz 0 a.length) x):
  (x= .slice none 0 0/\a=[]/\G m=some (none,gen))\/ ∃(b c:Nat) (d:Array Value),x= .slice (some ⟨b,0,none⟩) a.length c/\G m=some (some b,gen)/\w.heap[b]? =some (.cells d e (0,0))/\d.size=c*sz/\a.length<=c/\c<=maxLen/\
   ∀(i j:Nat) (k:List T) (y:T) (u:Value),a[i]? =some k->k[j]? =some y->(d.toList.take (a.length*sz))[i*sz+j]? =some u->cL w X y u:=by
 obtain⟨q,l⟩:=iK B;rcases eT D l with ⟨c,b,n,F,rfl,rfl,R,h,r,H,s⟩|⟨rfl,_,z,rfl⟩
 ·rcases B.2 with ⟨o,_⟩|⟨W,d,o,C,f,g,K⟩
  ·rw[l] at o;cases o
  rw[l] at o;cases o;have A:d.size=c*sz:=by
   unfold World.shape? at h;rw[C] at h;simp at h;rw[<-r] at h;rw[dn] at h;exact h.2
  refine .inr ⟨b,c,d,by rw[fT],l,C,A,H,s,λi j k y u L Q p=>?_⟩;rw[fL] at p;split at p
  ·exact K i j k y u L Q (by simpa using p)
  cases p
 exact .inl ⟨rfl,km z,l⟩
theorem LA{a:List (List T)}{b:List Value}(e:0<sz)(m:Rows sz a)(n:b.length=a.length*sz)
  (o: ∀(i j:Nat) (c:List T) (y:T) (u:Value),a[i]? =some c->c[j]? =some y->b[i*sz+j]? =some u->cL w X y u): ∀v∈b,v.oneCell'=true:=by
 intro v p;obtain⟨k,h⟩:=iQ.1 p;have d:k<a.length*sz:=by rw[<-n];exact(bM.1 h).1
 have l:k / sz<a.length:=(vo e).2 d;have q:k%sz<(a[k / sz]).length:=by rw[m _ (ft l)];exact Nat.mod_lt _ e
 exact(o (k / sz) (k%sz) _ ((a[k / sz])[k%sz]) v (bg l) (bg q) (by rw[Nat.div_add_mod'];exact h)).im
theorem ab9{cur cs:List Value}{a k:Nat}(i:a<=k)(c:cs=cur.take k)(l:vs.length=m)(n:k+m<=cur.length):
  let b:=cur.take (a+m)++cs.drop a++cur.drop (a+m+(cs.drop a).length)
  b.take a++vs++b.drop (a+vs.length)=cs.take a++vs++cs.drop a++cur.drop (k+m):=by
 intro b;have d:cs.length=k:=by rw[c,cq];omega
 have e:b.take a=cs.take a:=by
  show((cur.take (a+m)++cs.drop a)++_).take a=_;rw[fs,ng (by rw[cq];omega),List.take_take,c,List.take_take];congr 1;omega
 have h:b.drop (a+vs.length)=cs.drop a++cur.drop (k+m):=by
  show((cur.take (a+m)++cs.drop a)++_).drop _=_;rw[fs,Dh (by rw[cq];omega),ko (by rw[cq];omega),qJ];congr 2;rw[eX];omega
 rw[e,h];simp
theorem ab8{A0 ds:List Value}{a:Nat}{p:List Value}{q:List Value}(d:A0=p++q)(i:p.length=a)(k:vs.length=m)(l:a+m+ds.length<=A0.length):
  let b:=A0.take a++vs++A0.drop (a+vs.length)
  b.take (a+m)++ds++b.drop (a+m+ds.length)=p++vs++ds++A0.drop (a+m+ds.length):=by
 intro b;have c:A0.take a=p:=by rw[d,ng O,fG O]
 have e:b.take (a+m)=p++vs:=by
  show((A0.take a++vs)++_).take _=_;rw[c,ng (by rw[cP];omega),fG (by rw[cP];omega)]
 have h:b.drop (a+m+ds.length)=A0.drop (a+m+ds.length):=by
  show((A0.take a++vs)++_).drop _=_;rw[c,List.drop_append,ko (by rw[cP];omega),qJ,List.drop_drop,cP];congr 1;omega
 rw[e,h]
theorem ac2{P:Program}{RR:TypeDesc}{i0:TypeInfo}(call:d7 P f)(raw:y3 P f t e sz i0 z)(hu:P.underlying t=some (.slice e))(Il:P.info? e=some i0)(hz0:i0.zero=some z)(qb:z.cells.size=sz)(ka:i0.size=sz)
  (agh:P.underlying e=some RR) (hp:0<sz) (ae9:i0.bytes<=140000) (s v R:List (List T)) (i r lf:Nat) (aD:i<=s.length) (hR:app (s.take i++v) (s.drop i)=some R) (hs:Rows sz s) (hs':Rows sz v):
  iA P G f [.arr e r sz s,.arr e lf sz v] [.a7 0 r sz 0 s.length,.t (.int .i64 i),.a7 1 lf sz 0 v.length] (.a7 0 (r+1) sz 0 R.length) [.arr e (r+1) sz R,.arr e lf sz v]:=by
 have U:s.length+v.length<=1000000000/\R=s.take i++v++s.drop i:=by
  unfold app at hR;split at hR
  ·rename_i h;simp at h;refine⟨O,by cases hR;rfl⟩
  cases hR
 obtain⟨U,uo⟩:=U;have I:R.length=s.length+v.length:=by rw[uo];simp;omega
 have Qa: ∀A,A∈R->A.length=sz:=λA h=>by
  rw[uo] at h;rcases ef.1 h with h|h
  ·rcases ef.1 h with h|h
   ·exact hs A (fU h)
   exact hs' A h
  exact hs A (eV h)
 have hbig:(s.length+v.length)*i0.bytes<=140737488355328:=fF (nh U ae9) (by decide);have hm':s.length+v.length<=maxLen:=by unfold maxLen;omega
 have ae3:b4 P e RR z sz i0.bytes:=⟨agh,i0,Il,hz0,ka,rfl⟩
 refine⟨call,?_⟩;intro w X C us jD gb kb fP;have afE:us.length=3:=fP.length;obtain⟨hz,gK,iT,rfl⟩: ∃a b c,us=[a,b,c]:=by
  match us,afE with
  | [a,b,c],_=>exact⟨a,b,c,rfl⟩
 have h0:=Rel.lA (P:=P) (nt:=3) jD gb kb fP (cD _);obtain⟨r6,r7,QG,_⟩:=fP;obtain rfl:gK= .int .i64 i:=by
  cases r7 with|t _ _ h=>cases h;rfl
 generalize Ia:({tmps:=[hz,Value.int .i64 i,iT].toArray++Array.replicate (3-[hz,Value.int .i64 i,iT].toArray.size) undef,defers:=[]}:Act)=act at h0;generalize j8:Ctx.dy P G w X [E.arr e r sz s,E.arr e lf sz v].length C 3=K at h0;have H4:K.P=P:=by rw[<-j8];rfl
 have rT:K.X=X:=by rw[<-j8];rfl
 generalize kD:Lift.lA [E.arr e r sz s,E.arr e lf sz v] [V.a7 0 r sz 0 s.length,V.t (.int .i64 i),V.a7 1 lf sz 0 v.length]=Q at h0;have M:Q.H 0=some (.arr e r sz s):=by rw[<-kD];rfl
 have hH1:Q.H 1=some (.arr e lf sz v):=by rw[<-kD];rfl
 have xr:Q.H=eJ [E.arr e r sz s,E.arr e lf sz v] 0:=by rw[<-kD];rfl
 have Ix:own K C Q.H=lu X C (eJ [E.arr e r sz s,E.arr e lf sz v] 0):=by funext b;rw[xr];show(K.X b\/_)=_;rw[rT];rfl
 rw[<-Ix] at r6 QG;have rS:aQ Q.H 0 (some (.arr e (r+1) sz R))=eJ [E.arr e (r+1) sz R,E.arr e lf sz v] 0:=by
  rw[xr];funext j
  match j with
  |0=>rfl
  |j+1=>rfl
 have fin: ∀(β':Map) (w':World) (x:Value),Rel K β' {Q with H:=aQ Q.H 0 (some (.arr e (r+1) sz R))} act w'->bh β' w' (own K β' (aQ Q.H 0 (some (.arr e (r+1) sz R)))) (.a7 0 (r+1) sz 0 R.length) x->
   ∃u,∃_i:Unit,∃β,Ending.returned x= .returned u/\True/\Left C β [E.arr e r sz s,E.arr e lf sz v] [E.arr e (r+1) sz R,E.arr e lf sz v] w w' X (.a7 0 (r+1) sz 0 R.length) u:=by
  intro β' w' x bO bI;subst j8;obtain⟨β,r9⟩:=De (out:=[E.arr e (r+1) sz R,E.arr e lf sz v]) bO (cD _) bI rfl (by
   intro id e0 BF;refine⟨⟨e0,?_,iU.refl _⟩,?_⟩
   ·show aQ Q.H 0 _ id=_;rw[rS];exact BF
   match id with
   |0=>cases BF;exact⟨rfl,rfl⟩
   |1=>cases BF;exact⟨rfl,rfl⟩
   |k+2=>cases BF)
  exact⟨x,(),β,rfl,trivial,r9⟩
 have ig:=(h0.heap 0 _ M).2.1;have oA:=Gd (h0.heap 0 _ M).2 r6;have Kk:=Gd (h0.heap 1 _ hH1).2 QG;have uj:Q.H 0≠none:=by rw[M];simp
 by_cases uy:v=[]
 ·have Qb:R=s:=by rw[uo,uy];simp
  have run: ∀R',(∃hl dy,R'=Value.slice hl 0 dy)->Calls P f #[hz,.int .i64 i,R'] w λe w'=>e= .returned hz/\w'=w:=by
   rintro _ ⟨hl,dy,rfl⟩;rcases oA with ⟨rfl,h1,_⟩|⟨b,F,o,rfl,_,_,_,b9,bB,_⟩
   ·subst h1
    have:i=0:=by simpa using aD
    subst this;exact raw.nothing none hl 0 0 0 dy w (cD _) (cD _) (by decide)
   exact raw.nothing (some ⟨b,0,none⟩) hl s.length F i dy w aD b9 (by unfold maxLen at bB;omega)
  refine(run iT ?_).mono ?_
  ·rcases Kk with ⟨rfl,_,_⟩|⟨b,F,o,rfl,_⟩
   ·exact⟨_,_,rfl⟩
   exact⟨_,_,by rw[uy];rfl⟩
  rintro e1 fg ⟨rfl,rfl⟩;obtain⟨nU,W⟩:=iK (h0.heap 0 _ M).2;have aV:=h0.bump 0 e r sz s nU W M;rw[<-Qb] at aV;refine fin _ _ _ aV ?_;rw[Qb];rcases eT r6 W with ⟨xc,b,n,gV,rfl,hb',hw,gd,r1,b9,lZ⟩|⟨hb',_,Iu,rfl⟩
  ·subst hb';exact .a7 0 (r+1) sz 0 _ xc b n gV O (iF _ _ _) hw gd r1 b9 lZ
  subst hb';rw[Iu];exact .gT 0 (r+1) sz O (iF _ _ _)
 have BM:0<v.length:=List.length_pos_iff.2 uy;rcases Kk with ⟨_,h1,_⟩|⟨hl,dy,d,rfl,af2,Ik,aic,afI,rZ,kG⟩
 ·exact bt h1 uy
 have D:(d.toList.take (v.length*sz)).length=v.length*sz:=by
  have:=dt sz afI;rw[cq];simp;omega
 have oL:=LA hp hs' D kG;have uz:=Lm (size:=sz) (n:=v.length) Ik (c:=0);by_cases kb:i=s.length
 ·have ae2:R=s++v:=by rw[uo,kb];simp
  have aga:Src w (own K C Q.H) sz v (.slice (some ⟨hl,0,none⟩) v.length dy):=
   .inr ⟨hl,0,dy,d.toList.take (v.length*sz),rfl,D,λj x hj=>by rw[dn];exact uz j x hj,oL,kG⟩
  obtain⟨c8,w',β',g1,g2,g3⟩:=h0.append 0 s v M t (by rw[H4];exact hu) (by rw[H4];exact ae3) qb hs hs' _ _ r6 (.inl aga) hbig hm';rw[H4] at g1;rw[<-ae2] at g2 g3;rw[<-I] at g3;have run:Calls P f #[hz,.int .i64 i,.slice (some ⟨hl,0,none⟩) v.length dy] w λe fg=>e= .returned c8/\fg=w':=by
   rcases oA with ⟨rfl,h1,_⟩|⟨b,F,o,rfl,_,_,_,b9,bB,_⟩
   ·subst h1;subst kb;exact raw.tail none _ 0 0 _ _ w c8 w' BM (cD _) (by decide) g1
   subst kb;exact raw.tail _ _ s.length F _ _ w c8 w' BM b9 (by unfold maxLen at bB;omega) g1
  refine run.mono ?_;rintro e1 fg ⟨rfl,rfl⟩;exact fin _ _ _ g2 g3
 have Im:i<s.length:=O
 rcases oA with ⟨_,h1,_⟩|⟨b,F,o,rfl,W,oN,BC,Qm,Qo,IA⟩
 ·subst h1;simp at Im
 have hne:hl≠b:=λe0=>by
  subst e0
  have:=h0.inj 0 1 hl (.inl ⟨_,W⟩) (.inl ⟨_,af2⟩);omega
 have g:(o.toList.take (s.length*sz)).length=s.length*sz:=by
  have:=dt sz Qm;rw[cq];simp;omega
 have HY:=LA hp hs g IA;have kE:=Lm (size:=sz) (n:=s.length) oN (c:=0);have afy:i*sz<=s.length*sz:=dt sz aD;have mQ:((o.toList.take (s.length*sz)).drop (i*sz)).length=(s.length-i)*sz:=by rw[eX,g,Nat.sub_mul]
 have P1: ∀y∈(o.toList.take (s.length*sz)).drop (i*sz),y.oneCell'=true:=λy hy=>HY y (eV hy);have Y:(i+v.length)*sz+(s.length-i)*sz=(s.length+v.length)*sz:=by rw[<-dC];congr 1;omega
 have uv: ∀y u,cL w (own K C Q.H) y u->cL w.drew (own K C Q.H) y u:=λy u h=>h.mono (Ext.drew _ _) λ_ _ h=>h;by_cases QB:s.length+v.length<=F
 ·have mR:(s.length+v.length)*sz<=o.size:=by rw[BC];exact dt sz QB
  refine(raw.room b s.length F i hl v.length dy _ _ w Im BM QB (by unfold maxLen at Qo;omega) hne g D kE (λj hj=>?_) (λj=>by simp[World.frozen?,oN]) uz HY oL e e d.size o.size
   (by unfold World.shape?;rw[Ik]) (by unfold World.shape?;rw[oN]) ?_ λj=>by simp[World.frozen?,Ik]).mono ?_
  ·have:j<o.size:=O
   simp[World.cell?,oN,this]
  ·have:0<(s.length+v.length)*sz:=Nat.mul_pos O hp;omega
  rintro e1 fg ⟨rfl,B⟩;have xv:w.drew.heap[b]? =some (.cells o e (0,0)):=oN;rw[x5 xv (by rw[mQ,Y];exact mR) P1] at B;rw[x5 (setRow_heap _ _ _ _ _ _ xv) (by
   rw[D]
   have:i*sz+v.length*sz<=(s.length+v.length)*sz:=by rw[<-dC];exact dt sz O
   have h2: ∀l:List Value,l.toArray.size=l.length:=λl=>a1
   rw[h2];simp only[List.length_append,List.length_take,List.length_drop,mQ];simp;omega) oL,setRow_setRow] at B
  have r3:=ab9 (cur:=o.toList) (cs:=o.toList.take (s.length*sz)) (vs:=d.toList.take (v.length*sz)) (a:=i*sz) (m:=v.length*sz) (k:=s.length*sz) afy rfl D (by rw[<-dC];simpa using mR);rw[<-dC,<-dC] at r3;simp only at B;rw[r3] at B;generalize xt:(o.toList.take (s.length*sz)).take (i*sz)++d.toList.take (v.length*sz)++(o.toList.take (s.length*sz)).drop (i*sz)++o.toList.drop ((s.length+v.length)*sz)=lQ at B;have uq:lQ.toArray.size=o.size:=by
   rw[<-xt];have h2: ∀l:List Value,l.toArray.size=l.length:=λl=>a1
   rw[h2];simp only[List.length_append,D,mQ,List.length_drop];rw[cq,g];have h3:i*sz+(s.length-i)*sz=s.length*sz:=by rw[<-dC];congr 1;omega
   have h4:(s.length+v.length)*sz=s.length*sz+v.length*sz:=dC _ _ _;simp only[Array.length_toList];omega
  have hrel:=(vN h0).setRow 0 b (.inl ⟨_,W⟩) o e xv lQ.toArray uq (.arr e r sz R) uj
   ⟨ig,Or.inr ⟨b,_,W,setRow_heap _ _ _ _ _ _ xv,by rw[uq,I];exact mR,Qa,λk j A x u aH a2 a3=>by
    have h9:=Nd (rest:=o.toList.drop ((s.length+v.length)*sz)) rfl aD g D hs hs' (R:=λx u=>cL w.drew (own K C Q.H) x u) (λk j A x u cS cd eK=>uv _ _ (IA k j A x u cS cd eK)) (λk j A x u cS cd eK=>uv _ _ (kG k j A x u cS cd eK)) k j A x u (by rw[<-uo];exact aH) a2 (by rw[xt];simpa using a3);refine h9.mono ⟨rfl,rfl,rfl,a1,λkk _ hx=>setRow_other _ _ _ _ λe0=>hx ?_⟩ λ_ _ h=>h;subst e0;exact .inr ⟨0,uj,.inl ⟨_,W⟩⟩⟩⟩
  have N:=hrel.bump 0 e r sz R (some b) W (show aQ Q.H 0 (some (.arr e r sz R)) 0=some (.arr e r sz R) from bQ _ _ _);have xp:aQ (aQ Q.H 0 (some (.arr e r sz R))) 0 (some (.arr e (r+1) sz R))=aQ Q.H 0 (some (.arr e (r+1) sz R)):=by
   funext j;by_cases hj:j=0
   ·subst hj;rw[bQ,bQ]
   rw[bR _ _ _ _ hj,bR _ _ _ _ hj,bR _ _ _ _ hj]
  simp only[xp] at N;rw[<-B] at N;refine fin _ _ _ N ?_;have hN:bh (C.put 0 (some (some b,r+1))) fg (own K (C.put 0 (some (some b,r+1))) (aQ Q.H 0 (some (.arr e (r+1) sz R)))) (.a7 0 (r+1) sz 0 R.length) (.slice (some ⟨b,0*sz,none⟩) R.length F):=by
   refine .a7 0 (r+1) sz 0 _ F b (F*sz) e O (iF _ _ _) ?_ ?_ (by rw[dn]) O Qo
   ·rw[B,setRow_size];exact(iP.1 oN).1
   unfold World.shape?;rw[B,setRow_heap _ _ _ _ _ _ xv];simp only[uq,BC]
  rw[fT,I] at hN;rw[I];exact hN
 refine(raw.grow b s.length F i hl v.length dy _ _ w Im BM Qm O U hbig g D kE uz HY oL).mono ?_;rintro e1 fg ⟨rfl,B⟩;generalize P7:grownCap w (s.length+v.length) F e=lO at B;have H3:s.length+v.length<=lO:=by rw[<-P7];exact grownCap_ge w _ _ _
 have aeX:lO<=maxLen:=by rw[<-P7];exact grownCap_le_maxLen w _ _ _ hm'
 generalize P2:(((o.toList.take (s.length*sz)).take (i*sz)).toArray++Builtin.zeroCells z.cells (s.length+v.length-i)++Builtin.zeroCells z.cells (lO-(s.length+v.length)):Array Value)=L at B;have BL:((o.toList.take (s.length*sz)).take (i*sz)).length=i*sz:=by rw[cq,g];omega
 have xo:L.size=lO*sz:=by
  rw[<-P2];simp only[Array.size_append,List.size_toArray,size_zeroCells,qb,BL,<-Nat.add_mul];congr 1;omega
 have aeO:L.toList.length=lO*sz:=by rw[<-xo];simp
 have IB:(s.length+v.length)*sz<=lO*sz:=dt sz H3;have Qi:((w.alloc (.cells L e)).drew).heap[w.heap.size]? =some (.cells L e (0,0)):=iZ w _;have S:i*sz+(d.toList.take (v.length*sz)).length<=L.size:=by
  rw[D,xo]
  have:i*sz+v.length*sz<=(s.length+v.length)*sz:=by rw[<-dC];exact dt sz O
  omega
 rw[x5 Qi S oL] at B;have afp:=setRow_heap ((w.alloc (.cells L e)).drew) w.heap.size L (L.toList.take (i*sz)++d.toList.take (v.length*sz)++L.toList.drop (i*sz+(d.toList.take (v.length*sz)).length)).toArray e (0,0) Qi;have hg2:((((w.alloc (.cells L e)).drew).setRow w.heap.size (L.toList.take (i*sz)++d.toList.take (v.length*sz)++L.toList.drop (i*sz+(d.toList.take (v.length*sz)).length)).toArray).drew).heap[w.heap.size]? =_:=afp;have hz1:(L.toList.take (i*sz)++d.toList.take (v.length*sz)++L.toList.drop (i*sz+(d.toList.take (v.length*sz)).length)).length=lO*sz:=by
  simp only[List.length_append,List.length_take,List.length_drop];simp only[Array.length_toList,xo];rw[cq] at D S;rw[xo] at S;omega
 rw[x5 hg2 (by
  rw[mQ,Y];have h2: ∀l:List Value,l.toArray.size=l.length:=λl=>a1
  rw[h2,hz1];exact IB) P1] at B
 have r3:=ab8 (A0:=L.toList) (ds:=(o.toList.take (s.length*sz)).drop (i*sz)) (vs:=d.toList.take (v.length*sz)) (a:=i*sz) (m:=v.length*sz) (p:=(o.toList.take (s.length*sz)).take (i*sz))
  (q:=(Builtin.zeroCells z.cells (s.length+v.length-i)).toList++(Builtin.zeroCells z.cells (lO-(s.length+v.length))).toList) (by rw[<-P2];simp) BL D (by
   rw[mQ,<-dC,Y,aeO];exact IB)
 rw[<-dC] at r3;simp only at B;rw[r3] at B;generalize xt:(o.toList.take (s.length*sz)).take (i*sz)++d.toList.take (v.length*sz)++(o.toList.take (s.length*sz)).drop (i*sz)++L.toList.drop ((i+v.length)*sz+((o.toList.take (s.length*sz)).drop (i*sz)).length)=lQ at B;have xE:fg=(w.drew.drew).alloc (.cells lQ.toArray e):=by
  rw[B];have h3:((((w.alloc (.cells L e)).drew).setRow w.heap.size (L.toList.take (i*sz)++d.toList.take (v.length*sz)++L.toList.drop (i*sz+(d.toList.take (v.length*sz)).length)).toArray).drew).setRow w.heap.size lQ.toArray=(((w.drew.drew).alloc (.cells L e)).setRow w.heap.size (L.toList.take (i*sz)++d.toList.take (v.length*sz)++L.toList.drop (i*sz+(d.toList.take (v.length*sz)).length)).toArray).setRow w.heap.size lQ.toArray:=rfl;rw[h3,setRow_setRow];exact World.setRow_alloc_new (w.drew.drew) L lQ.toArray e
 have uq:lQ.toArray.size=lO*sz:=by
  rw[<-xt];have h2: ∀l:List Value,l.toArray.size=l.length:=λl=>a1
  rw[h2];simp only[List.length_append,BL,D,mQ,List.length_drop,Array.length_toList,xo];rw[Y];have h3:i*sz+(s.length-i)*sz=s.length*sz:=by rw[<-dC];congr 1;omega
  have h4:(s.length+v.length)*sz=s.length*sz+v.length*sz:=dC _ _ _;omega
 have rZ:=(vN (vN h0)).move 0 e r sz s M lQ.toArray R (by rw[uq,I];exact IB) Qa (λk j A x u aH a2 a3=>by
  have h9:=Nd (rest:=L.toList.drop ((i+v.length)*sz+((o.toList.take (s.length*sz)).drop (i*sz)).length)) rfl aD g D hs hs' (R:=λx u=>cL w.drew.drew (own K C Q.H) x u)
   (λk j A x u cS cd eK=>(uv _ _ (IA k j A x u cS cd eK)).mono (Ext.drew _ _) λ_ _ h=>h) (λk j A x u cS cd eK=>(uv _ _ (kG k j A x u cS cd eK)).mono (Ext.drew _ _) λ_ _ h=>h) k j A x u (by rw[<-uo];exact aH) a2 (by rw[xt];simpa using a3)
  exact h9)
 rw[<-xE] at rZ;refine fin _ _ _ rZ ?_;have aiu:(w.drew.drew).heap.size=w.heap.size:=rfl;have p':=iZ (w.drew.drew) (.cells lQ.toArray e);have hN:bh (C.put 0 (some (some (w.drew.drew).heap.size,r+1))) fg (own K (C.put 0 (some (some (w.drew.drew).heap.size,r+1))) (aQ Q.H 0 (some (.arr e (r+1) sz R)))) (.a7 0 (r+1) sz 0 R.length) (.slice (some ⟨w.heap.size,0*sz,none⟩) R.length lO):=by
  refine .a7 0 (r+1) sz 0 _ lO w.heap.size (lO*sz) e O (iF _ _ _) ?_ ?_ (by rw[dn]) O aeX
  ·rw[xE];simp
  unfold World.shape?;rw[xE];rw[show((w.drew.drew).alloc (.cells lQ.toArray e)).heap[w.heap.size]? =some (.cells lQ.toArray e) from p'];simp only[uq]
 rw[fT,I] at hN;rw[I];exact hN
theorem Ou{P:Program}{u:TypeDesc}{a:TypeInfo}(d:d7 P f)(p:y3 P f t e n a z)(C:P.underlying t=some (.slice e))(q:P.info? e=some a)(r:a.zero=some z)(w:z.cells.size=n)(y:a.size=n)
  (A:P.underlying e=some u) (D:0<n) (B:a.bytes<=140000) {b:Type} (c:b->List T) (k: ∀x,(c x).length=n) (s v R:List b) (i l o:Nat) (F:i<=s.length) (m:app (s.take i++v) (s.drop i)=some R):
  iA P G f [aE e l n c s,aE e o n c v] [ms 0 l n c s,.t (.int .i64 i),ms 1 o n c v] (ms 0 (l+1) n c R) [aE e (l+1) n c R,aE e o n c v]:=by
 refine ac2 d p C q r w y A D B (s.map c) (v.map c) (R.map c) i l o (by simpa using F) ?_ (Rows.map s k) (Rows.map v k);unfold app at m⊢;simp only[List.length_append,List.length_take,List.length_drop,List.length_map] at m⊢;split at m
 ·rename_i h;rw[aW h];cases m;simp[List.map_append,List.map_take,List.map_drop]
 cases m
section runs
variable {P:Program}
open Go.RowKit Go.Lib
theorem qq(w:World)(s y z c:TypeId)(k b o d l:Nat)(a:Addr)(e n m:Nat)(h:List Value)
  (A:P.underlying s=some (.slice c)) (x:(P.info? c).map (·.size)=some k) (B:m=Nat.min e d) (C:h.length=m*k)
  (p: ∀j v,h[j]? =some v->w.cell? (a.add j)=some v) (D: ∀j,j<h.length->(w.cell? ⟨b,o+j,none⟩).isSome=true) (F: ∀j,j<h.length->w.frozen? ⟨b,o+j,none⟩=false) (G: ∀v∈h,v.oneCell'=true):
  (Builtin.copy_ #[s,y] z #[.slice (some ⟨b,o,none⟩) d l,.slice (some a) e n]).run P w= .ok (goInt m) (w.setCells b o h):=by
 have b9:=run_loadCells_list (P:=P) w a h p;have q:=run_storeCells_cells (P:=P) b o h 0 w (by simpa using D) (by simpa using F) G;cases r:P.info? c with
 |none=>simp[r] at x
 |some i=>
  have H:i.size=k:=by simpa[r] using x
  simp[Builtin.copy_,run_underlying A,Builtin.lenOf,Builtin.firstCells,sizeOf,typeInfo,r,H,<-B,<-C,b9,q]
theorem US(w:World)(d s:Operand)(t c:TypeId)
  (e:o.op= .call {callee:= .builtin .copy,args:= #[d,s],argTypes:= #[t,c]}) (v u:Value) (i:a.eval d=v) (k:a.eval s=u)  {b:World}
  (l:(Builtin.copy_ #[t,c] o.type #[v,u]).run P w= .ok z b) (h:K (a.put o.dst z) b):o.wp P a w K Q:=by unfold Oper.wp execOp;simp only[e,resolve,invoke,builtin,Sem.run_bind,Sem.run_pure,Result.andThen_ok,List.map_toArray,List.map_cons,List.map_nil,i,k,l];exact h
theorem uf(w:World){b:Array Oper}{l:List Oper}(e:o.guard=none)(d s:Operand)(t i:TypeId)
  (k:o.op= .call {callee:= .builtin .copy,args:= #[d,s],argTypes:= #[t,i]}) (v u:Value) (m:a.eval d=v) (n:a.eval s=u)  
  (p:(Builtin.copy_ #[t,i] o.type #[v,u]).run P w= .ok z c) (h:wpList P b Q l (a.put o.dst z) c):wpList P b Q (o::l) a w:=
 wpList_plain e λ_ q=>US w d s t i k v u m n p (q _ _ h)
theorem Cn{b:Array Oper}{E:Prop}
  (k:o.guard=none) (d x:Operand) (h i:TypeId) (e:o.op=Op.call {callee:=Callee.builtin Builtin.copy,args:= #[d,x],argTypes:= #[h,i]})
  (v u:Value) (l:a.eval d=v) (m:a.eval x=u)   (n:(Builtin.copy_ #[h,i] o.type #[v,u]).run P w= .ok z c) (p:K (a.put o.dst z) c):
  if Region.wanted o (yielded b a.tmps)=true then Oper.wp P o a w K Q else E:=by
 have q:Region.wanted o (yielded b a.tmps)=true:=by simp[Region.wanted,k]
 rw[aW q];unfold Oper.wp;simp[execOp,e,resolve,invoke,builtin,l,m,n,Result.andThen];exact p
theorem B8(b:Nat)(a:List Value)(o:Nat)(w:World)(h: ∀j,j<a.length->(w.cell? ⟨b,o+j,none⟩).isSome=true)(k:Nat)(c:(w.cell? ⟨b,k,none⟩).isSome=true):((w.setCells b o a).cell? ⟨b,k,none⟩).isSome=true:=by
 by_cases d:o<=k/\k<o+a.length
 ·have:=World.cell?_setCells_in b a o w h (k-o) O;rw[show o+(k-o)=k by omega] at this;rw[this];rfl
 rw[World.cell?_setCells_out b a o w ⟨b,k,none⟩ λ_ _=>by show k<o\/o+a.length<=k;omega];exact c
end runs
end Go.Lift
