/- Tools. -/
import Derived.Test.YtfegpkfpnpjgeaaGreatBLiftY
import Derived.Shelf.RegionOpenPlain
import Derived.Lib.Walk
import Derived.Lib.SliceRun
import Derived.Lib.JoinLaws
import Derived.Lib.AppendZeros
import Derived.Lib.AppendZerosOnto
import Derived.Lib.Overlaps
import Derived.Laws.Externs
import Derived.Laws.IdiomCopy
import Derived.Laws.CopyRow
import Derived.Deep.WholeRow
set_option linter.unusedVariables false
namespace Go.Lift
open Go
variable {b w:World}{o:Oper}{e t:TypeId}{G:eY}{X:Nat->Prop}{a:Act}{c vs:List Value}{m n sz:Nat}{f:FuncId}{z:Value}{K:Act->World->Prop}{Q:Exit->Act->World->Prop}
theorem yx{b o:Nat}{e:List Value}{d:Array Value}(h:w.heap[b]? =some (.cells d t (0,0)))(l:o+e.length<=d.size)(i: ∀v∈e,v.oneCell'=true):
  w.setCells b o e=w.setRow b (d.toList.take o++e++d.toList.drop (o+e.length)).toArray:=by
 have a:=run_storeCells_at (P:=(default:Program)) b o t e 0 d w h O i;have c:=run_storeCells_cells (P:=(default:Program)) b o e 0 w (λj k=>by
  have:o+j<d.size:=O
  simp[World.cell?,h,this]) (λj k=>by simp[World.frozen?,h]) i
 rw[a] at c;simp only[Nat.add_zero] at c;injection c with _ c;exact c.symm
theorem DM{P:Program}{i:World}{a out:List E}{c T:Map}{d:S}{l:Act}{r:V}{u:Value}(y:Rel (Ctx.dC P G w X a.length c m) T d l i)(Q:a.length<=out.length)
  (B:bk T i (own (Ctx.dC P G w X a.length c m) T d.H) r u) (q:r.ok (d5 out.length)=true) (z:lv d.H (d5 out.length) (eN out 0)): ∃C,Left c C a out w i X r u:=by
 let o:S:={t:=pN,H:=eN out 0,u:=d5 out.length}
 have p:mH a.length o.u=true:=by
  have: ∀n,n<=a.length->mH n o.u=true:=by
   intro n;induction n with
   |zero=>intro _;rfl
   |succ n F=>intro R;simp[mH,F O,show o.u n=true from jd.2 O]
  exact this _ (cJ _)
 have bG:=y.cut (s':=o) (o6.nil _ _) z p;have ec:=EC (K:=Ctx.dC P G w X a.length c m) (β:=T) (s:=d) (s':=o) z;refine⟨cut T o.u,?_⟩;refine⟨y.ext.weaken λb _ ⟨id,_,h⟩=>⟨id,h⟩,bG.base,bG.iT,?_,?_,bG.inj,bG.fresh,?_,B.under ec (λ_ h=>xi h) q⟩
 ·intro k L;apply bG.dF;cases x:o.u k with
  |false=>rfl
  |true=>have:=jd.1 x;omega
 ·intro k b L;apply bG.ea;cases x:o.u k with
  |false=>rfl
  |true=>have:=jd.1 x;omega
 intro k e A;exact(bG.heap k e (by rw[<-yV] at A;exact A)).2
structure zC (P:Program) (f:FuncId) (t e:TypeId) (sz:Nat) (i0:TypeInfo) (z:Value):Prop where
 nothing: ∀(base DO:Option Addr) (n c i dC:Nat) (w:World),i<=n->n<=c->c<=9223372036854775807->Calls P f #[.slice base n c,.int .i64 i,.slice DO 0 dC] w λe w'=>e= .returned (.slice base n c)/\w'=w
 tail: ∀(base DO:Option Addr) (n c m dC:Nat) (w:World) (c9:Value) (w':World),0<m->n<=c->c<=9223372036854775807->(Builtin.append_ #[t,t] t #[.slice base n c,.slice DO m dC]).run P w= .ok c9 w'->
  Calls P f #[.slice base n c,.int .i64 n,.slice DO m dC] w λe fp=>e= .returned c9/\fp=w'
 room: ∀(b n c i hT m dC:Nat) (cs vs:List Value) (w:World),i<n->0<m->n+m<=c->c<=9223372036854775807->hT≠b->cs.length=n*sz->vs.length=m*sz->
  (∀j v,cs[j]? =some v->w.cell? ⟨b,j,none⟩=some v)->(∀j,j<(n+m)*sz->(w.cell? ⟨b,j,none⟩).isSome=true)->(∀j,w.frozen? ⟨b,j,none⟩=false)->
  (∀j v,vs[j]? =some v->w.cell? ⟨hT,j,none⟩=some v)->(∀v∈cs,v.oneCell'=true)->(∀v∈vs,v.oneCell'=true)->
  ∀(aiz tg:TypeId) (fm QR:Nat),w.shape? hT=some (aiz,fm)->w.shape? b=some (tg,QR)->QR≠0->(∀j,w.frozen? ⟨hT,j,none⟩=false)->
  Calls P f #[.slice (some ⟨b,0,none⟩) n c,.int .i64 i,.slice (some ⟨hT,0,none⟩) m dC] w λe w'=>
   e= .returned (.slice (some ⟨b,0,none⟩) (n+m) c)/\w'=(w.drew.setCells b ((i+m)*sz) (cs.drop (i*sz))).setCells b (i*sz) vs
 grow: ∀(b n c i hT m dC:Nat) (cs vs:List Value) (w:World),i<n->0<m->n<=c->c<n+m->n+m<=1000000000->(n+m)*i0.bytes<=140737488355328->cs.length=n*sz->vs.length=m*sz->
  (∀j v,cs[j]? =some v->w.cell? ⟨b,j,none⟩=some v)->(∀j v,vs[j]? =some v->w.cell? ⟨hT,j,none⟩=some v)->(∀v∈cs,v.oneCell'=true)->(∀v∈vs,v.oneCell'=true)->
  Calls P f #[.slice (some ⟨b,0,none⟩) n c,.int .i64 i,.slice (some ⟨hT,0,none⟩) m dC] w λe' w'=>
   e'= .returned (.slice (some ⟨w.heap.size,0,none⟩) (n+m) (grownCap w (n+m) c e))/\
   w'=(((w.alloc (.cells ((cs.take (i*sz)).toArray++Builtin.zeroCells z.cells (n+m-i)++Builtin.zeroCells z.cells (grownCap w (n+m) c e-(n+m))) e)).drew.setCells w.heap.size (i*sz) vs).drew).setCells w.heap.size ((i+m)*sz) (cs.drop (i*sz))
theorem MN{i:Nat}{s v:List (List T)}{a rest:List Value}(r:s.length=n)(w:i<=n)(y:a.length=n*m)(l:c.length=v.length*m)(o:Rows m s)(e:Rows m v){R:T->Value->Prop}
  (p: ∀(i j:Nat) (d:List T) (x:T) (u:Value),s[i]? =some d->d[j]? =some x->a[i*m+j]? =some u->R x u)
  (z: ∀(i j:Nat) (d:List T) (x:T) (u:Value),v[i]? =some d->d[j]? =some x->c[i*m+j]? =some u->R x u):
  ∀(k j:Nat) (d:List T) (x:T) (u:Value),(s.take i++v++s.drop i)[k]? =some d->d[j]? =some x->(a.take (i*m)++c++a.drop (i*m)++rest)[k*m+j]? =some u->R x u:=by
 have q:Rows m (s.take i):=λd h=>o d (gb h);have A:Rows m (s.drop i):=λd h=>o d (e6 h);have B:=dx m w;have C:=wg (a.take (i*m)) c [] (rows:=s.take i) (news:=v) (n:=i) (size:=m) (by rw[cE];omega) (by rw[cE];omega) l q e (R:=R)
  (λk j d x u aI a2 a3=>by
   rw[fS] at aI a3;split at aI
   ·split at a3
    ·exact p k j d x u aI a2 a3
    cases a3
   cases aI) z
 have dm:=wg (a.take (i*m)++c) (a.drop (i*m)) rest (rows:=s.take i++v) (news:=s.drop i) (n:=i+v.length) (size:=m) (by rw[cV,cE];omega)
  (by rw[cV,cE,l,dG];omega) (by rw[fz,fz,y,r,Nat.sub_mul]) (λd h=>by
   rcases eh.1 h with h|h
   ·exact q d h
   exact e d h) A (R:=R) (λk j d x u aI a2 a3=>C k j d x u aI a2 (by simpa using a3))
  (λk j d x u aI a2 a3=>by
   rw[gy] at aI a3;refine p (i+k) j d x u aI a2 ?_;rw[dG,pV];exact a3)
 intro k j d x u aI a2 a3;exact dm k j d x u aI a2 (by simpa using a3)
theorem Lo{b size c:Nat}{a:Array Value}(e:w.heap[b]? =some (.cells a t (0,0))): ∀j v,(a.toList.take (n*size))[j]? =some v->w.cell? ⟨b,j,none⟩=some v:=by
 intro j v d;rw[fS] at d;split at d
 ·simp only[World.cell?,e];simpa using d
 cases d
theorem Gk{G:Map}{gen:Nat}{a:List (List T)}{x:Value}(B:cC G w X m (.arr e gen sz a))(F:bk G w X (.a8 m gen sz 0 a.length) x):
  (x= .slice none 0 0/\a=[]/\G m=some (none,gen))\/ ∃(b c:Nat) (d:Array Value),x= .slice (some ⟨b,0,none⟩) a.length c/\G m=some (some b,gen)/\w.heap[b]? =some (.cells d e (0,0))/\d.size=c*sz/\a.length<=c/\c<=maxLen/\
   ∀(i j:Nat) (k:List T) (y:T) (u:Value),a[i]? =some k->k[j]? =some y->(d.toList.take (a.length*sz))[i*sz+j]? =some u->cP w X y u:=by
 obtain⟨q,l⟩:=jl B;rcases e3 F l with ⟨c,b,n,H,rfl,rfl,W,h,r,K,s⟩|⟨rfl,_,z,rfl⟩
 ·rcases B.2 with ⟨o,_⟩|⟨f,d,o,C,g,t,L⟩
  ·rw[l] at o;cases o
  rw[l] at o;cases o;have A:d.size=c*sz:=by
   unfold World.shape? at h;rw[C] at h;simp at h;rw[<-r] at h;rw[dt] at h;exact h.2
  refine .inr ⟨b,c,d,by rw[ga],l,C,A,K,s,λi j k y u Q R p=>?_⟩;rw[fS] at p;split at p
  ·exact L i j k y u Q R (by simpa using p)
  cases p
 exact .inl ⟨rfl,l1 z,l⟩
theorem LI{a:List (List T)}(h:0<sz)(n:Rows sz a)(o:c.length=a.length*sz)
  (p: ∀(i j:Nat) (d:List T) (y:T) (u:Value),a[i]? =some d->d[j]? =some y->c[i*sz+j]? =some u->cP w X y u): ∀v∈c,v.oneCell'=true:=by
 intro v q;obtain⟨k,l⟩:=kf.1 q;have e:k<a.length*sz:=by rw[<-o];exact(bU.1 l).1
 have m:k / sz<a.length:=(vQ h).2 e;have r:k%sz<(a[k / sz]).length:=by rw[n _ (fJ m)];exact Nat.mod_lt _ h
 exact(p (k / sz) (k%sz) _ ((a[k / sz])[k%sz]) v (bo m) (bo r) (by rw[Nat.div_add_mod'];exact l)).iR
theorem aa7{cur cs:List Value}{a k:Nat}(l:a<=k)(d:cs=cur.take k)(n:vs.length=m)(o:k+m<=cur.length):
  let c:=cur.take (a+m)++cs.drop a++cur.drop (a+m+(cs.drop a).length)
  c.take a++vs++c.drop (a+vs.length)=cs.take a++vs++cs.drop a++cur.drop (k+m):=by
 intro c;have e:cs.length=k:=by rw[d,cE];omega
 have h:c.take a=cs.take a:=by
  show((cur.take (a+m)++cs.drop a)++_).take a=_;rw[fy,pT (by rw[cE];omega),List.take_take,d,List.take_take];congr 1;omega
 have i:c.drop (a+vs.length)=cs.drop a++cur.drop (k+m):=by
  show((cur.take (a+m)++cs.drop a)++_).drop _=_;rw[fy,JF (by rw[cE];omega),kO (by rw[cE];omega),rk];congr 2;rw[fz];omega
 rw[h,i];simp
theorem aa6{A0 ds:List Value}{a:Nat}{p:List Value}{q:List Value}(e:A0=p++q)(k:p.length=a)(l:vs.length=m)(n:a+m+ds.length<=A0.length):
  let c:=A0.take a++vs++A0.drop (a+vs.length)
  c.take (a+m)++ds++c.drop (a+m+ds.length)=p++vs++ds++A0.drop (a+m+ds.length):=by
 intro c;have d:A0.take a=p:=by rw[e,pT O,hS O]
 have h:c.take (a+m)=p++vs:=by
  show((A0.take a++vs)++_).take _=_;rw[d,pT (by rw[cV];omega),hS (by rw[cV];omega)]
 have i:c.drop (a+m+ds.length)=A0.drop (a+m+ds.length):=by
  show((A0.take a++vs)++_).drop _=_;rw[d,List.drop_append,kO (by rw[cV];omega),rk,List.drop_drop,cV];congr 1;omega
 rw[h,i]
theorem abM{P:Program}{RL:TypeDesc}{i0:TypeInfo}(call:ig P f)(raw:zC P f t e sz i0 z)(hu:P.underlying t=some (.slice e))(Ic:P.info? e=some i0)(hz0:i0.zero=some z)(qE:z.cells.size=sz)(kz:i0.size=sz)
  (afb:P.underlying e=some RL) (hp:0<sz) (ad4:i0.bytes<=140000) (s v R:List (List T)) (i r lK:Nat) (aE:i<=s.length) (hR:app (s.take i++v) (s.drop i)=some R) (hs:Rows sz s) (hs':Rows sz v):
  jb P G f [.arr e r sz s,.arr e lK sz v] [.a8 0 r sz 0 s.length,.t (.int .i64 i),.a8 1 lK sz 0 v.length] (.a8 0 (r+1) sz 0 R.length) [.arr e (r+1) sz R,.arr e lK sz v]:=by
 have U:s.length+v.length<=1000000000/\R=s.take i++v++s.drop i:=by
  unfold app at hR;split at hR
  ·rename_i h;simp at h;refine⟨O,by cases hR;rfl⟩
  cases hR
 obtain⟨U,uM⟩:=U;have I:R.length=s.length+v.length:=by rw[uM];simp;omega
 have Qa: ∀A,A∈R->A.length=sz:=λA h=>by
  rw[uM] at h;rcases eh.1 h with h|h
  ·rcases eh.1 h with h|h
   ·exact hs A (gb h)
   exact hs' A h
  exact hs A (e6 h)
 have hbig:(s.length+v.length)*i0.bytes<=140737488355328:=f' (nP U ad4) (by decide);have hm':s.length+v.length<=maxLen:=by unfold maxLen;omega
 have adY:ca P e RL z sz i0.bytes:=⟨afb,i0,Ic,hz0,kz,rfl⟩
 refine⟨call,?_⟩;intro w X C us kY gp kA fP;have aez:us.length=3:=fP.length;obtain⟨hV,e5,hz,rfl⟩: ∃a b c,us=[a,b,c]:=by
  match us,aez with
  | [a,b,c],_=>exact⟨a,b,c,rfl⟩
 have h0:=Rel.lY (P:=P) (nt:=3) kY gp kA fP (cJ _);obtain⟨sI,sJ,QG,_⟩:=fP;obtain rfl:e5= .int .i64 i:=by
  cases sJ with|t _ _ h=>cases h;rfl
 generalize H4:({tmps:=[hV,Value.int .i64 i,hz].toArray++Array.replicate (3-[hV,Value.int .i64 i,hz].toArray.size) undef,defers:=[]}:Act)=act at h0;generalize kv:Ctx.dC P G w X [E.arr e r sz s,E.arr e lK sz v].length C 3=K at h0;have HW:K.P=P:=by rw[<-kv];rfl
 have ss:K.X=X:=by rw[<-kv];rfl
 generalize kZ:Lift.lY [E.arr e r sz s,E.arr e lK sz v] [V.a8 0 r sz 0 s.length,V.t (.int .i64 i),V.a8 1 lK sz 0 v.length]=W at h0;have M:W.H 0=some (.arr e r sz s):=by rw[<-kZ];rfl
 have hH1:W.H 1=some (.arr e lK sz v):=by rw[<-kZ];rfl
 have xS:W.H=eN [E.arr e r sz s,E.arr e lK sz v] 0:=by rw[<-kZ];rfl
 have xZ:own K C W.H=lW X C (eN [E.arr e r sz s,E.arr e lK sz v] 0):=by funext b;rw[xS];show(K.X b\/_)=_;rw[ss];rfl
 rw[<-xZ] at sI QG;have sr:aS W.H 0 (some (.arr e (r+1) sz R))=eN [E.arr e (r+1) sz R,E.arr e lK sz v] 0:=by
  rw[xS];funext j
  match j with
  |0=>rfl
  |j+1=>rfl
 have fin: ∀(β':Map) (w':World) (x:Value),Rel K β' {W with H:=aS W.H 0 (some (.arr e (r+1) sz R))} act w'->bk β' w' (own K β' (aS W.H 0 (some (.arr e (r+1) sz R)))) (.a8 0 (r+1) sz 0 R.length) x->
   ∃u,∃_i:Unit,∃β,Ending.returned x= .returned u/\True/\Left C β [E.arr e r sz s,E.arr e lK sz v] [E.arr e (r+1) sz R,E.arr e lK sz v] w w' X (.a8 0 (r+1) sz 0 R.length) u:=by
  intro β' w' x bR bL;subst kv;obtain⟨β,sL⟩:=DM (out:=[E.arr e (r+1) sz R,E.arr e lK sz v]) bR (cJ _) bL rfl (by
   intro id e0 Ca;refine⟨⟨e0,?_,ju.refl _⟩,?_⟩
   ·show aS W.H 0 _ id=_;rw[sr];exact Ca
   match id with
   |0=>cases Ca;exact⟨rfl,rfl⟩
   |1=>cases Ca;exact⟨rfl,rfl⟩
   |k+2=>cases Ca)
  exact⟨x,(),β,rfl,trivial,sL⟩
 have iL:=(h0.heap 0 _ M).2.1;have o7:=Gk (h0.heap 0 _ M).2 sI;have Ko:=Gk (h0.heap 1 _ hH1).2 QG;have uL:W.H 0≠none:=by rw[M];simp
 by_cases uT:v=[]
 ·have Qb:R=s:=by rw[uM,uT];simp
  have run: ∀RX,(∃hT dC,RX=Value.slice hT 0 dC)->Calls P f #[hV,.int .i64 i,RX] w λe w'=>e= .returned hV/\w'=w:=by
   rintro _ ⟨hT,dC,rfl⟩;rcases o7 with ⟨rfl,h1,_⟩|⟨b,L,o,rfl,_,_,_,b8,bG,_⟩
   ·subst h1
    have:i=0:=by simpa using aE
    subst this;exact raw.nothing none hT 0 0 0 dC w (cJ _) (cJ _) (by decide)
   exact raw.nothing (some ⟨b,0,none⟩) hT s.length L i dC w aE b8 (by unfold maxLen at bG;omega)
  refine(run hz ?_).mono ?_
  ·rcases Ko with ⟨rfl,_,_⟩|⟨b,L,o,rfl,_⟩
   ·exact⟨_,_,rfl⟩
   exact⟨_,_,by rw[uT];rfl⟩
  rintro e1 fp ⟨rfl,rfl⟩;obtain⟨oH,g⟩:=jl (h0.heap 0 _ M).2;have aY:=h0.bump 0 e r sz s oH g M;rw[<-Qb] at aY;refine fin _ _ _ aY ?_;rw[Qb];rcases e3 sI g with ⟨xF,b,n,hn,rfl,hb',hw,gq,sD,b8,mv⟩|⟨hb',_,Io,rfl⟩
  ·subst hb';exact .a8 0 (r+1) sz 0 _ xF b n hn O (jf _ _ _) hw gq sD b8 mv
  subst hb';rw[Io];exact .hi 0 (r+1) sz O (jf _ _ _)
 have Ch:0<v.length:=List.length_pos_iff.2 uT;rcases Ko with ⟨_,h1,_⟩|⟨hT,dC,d,rfl,aeX,Ib,ahy,aeD,sB,k2⟩
 ·exact bz h1 uT
 have F:(d.toList.take (v.length*sz)).length=v.length*sz:=by
  have:=dx sz aeD;rw[cE];simp;omega
 have pg:=LI hp hs' F k2;have uU:=Lo (size:=sz) (n:=v.length) Ib (c:=0);by_cases kA:i=s.length
 ·have adX:R=s++v:=by rw[uM,kA];simp
  have ae6:Src w (own K C W.H) sz v (.slice (some ⟨hT,0,none⟩) v.length dC):=
   .inr ⟨hT,0,dC,d.toList.take (v.length*sz),rfl,F,λj x hj=>by rw[dt];exact uU j x hj,pg,k2⟩
  obtain⟨c9,w',β',g1,g2,g3⟩:=h0.append 0 s v M t (by rw[HW];exact hu) (by rw[HW];exact adY) qE hs hs' _ _ sI (.inl ae6) hbig hm';rw[HW] at g1;rw[<-adX] at g2 g3;rw[<-I] at g3;have run:Calls P f #[hV,.int .i64 i,.slice (some ⟨hT,0,none⟩) v.length dC] w λe fp=>e= .returned c9/\fp=w':=by
   rcases o7 with ⟨rfl,h1,_⟩|⟨b,L,o,rfl,_,_,_,b8,bG,_⟩
   ·subst h1;subst kA;exact raw.tail none _ 0 0 _ _ w c9 w' Ch (cJ _) (by decide) g1
   subst kA;exact raw.tail _ _ s.length L _ _ w c9 w' Ch b8 (by unfold maxLen at bG;omega) g1
  refine run.mono ?_;rintro e1 fp ⟨rfl,rfl⟩;exact fin _ _ _ g2 g3
 have Ie:i<s.length:=O
 rcases o7 with ⟨_,h1,_⟩|⟨b,L,o,rfl,g,pk,B8,Qm,Qo,It⟩
 ·subst h1;simp at Ie
 have hne:hT≠b:=λe0=>by
  subst e0
  have:=h0.inj 0 1 hT (.inl ⟨_,g⟩) (.inl ⟨_,aeX⟩);omega
 have D:(o.toList.take (s.length*sz)).length=s.length*sz:=by
  have:=dx sz Qm;rw[cE];simp;omega
 have HR:=LI hp hs D It;have k0:=Lo (size:=sz) (n:=s.length) pk (c:=0);have aet:i*sz<=s.length*sz:=dx sz aE;have nw:((o.toList.take (s.length*sz)).drop (i*sz)).length=(s.length-i)*sz:=by rw[fz,D,Nat.sub_mul]
 have P1: ∀y∈(o.toList.take (s.length*sz)).drop (i*sz),y.oneCell'=true:=λy hy=>HR y (e6 hy);have Y:(i+v.length)*sz+(s.length-i)*sz=(s.length+v.length)*sz:=by rw[<-dG];congr 1;omega
 have uQ: ∀y u,cP w (own K C W.H) y u->cP w.drew (own K C W.H) y u:=λy u h=>h.mono (Ext.drew _ _) λ_ _ h=>h;by_cases QB:s.length+v.length<=L
 ·have nx:(s.length+v.length)*sz<=o.size:=by rw[B8];exact dx sz QB
  refine(raw.room b s.length L i hT v.length dC _ _ w Ie Ch QB (by unfold maxLen at Qo;omega) hne D F k0 (λj hj=>?_) (λj=>by simp[World.frozen?,pk]) uU HR pg e e d.size o.size
   (by unfold World.shape?;rw[Ib]) (by unfold World.shape?;rw[pk]) ?_ λj=>by simp[World.frozen?,Ib]).mono ?_
  ·have:j<o.size:=O
   simp[World.cell?,pk,this]
  ·have:0<(s.length+v.length)*sz:=Nat.mul_pos O hp;omega
  rintro e1 fp ⟨rfl,B⟩;have xV:w.drew.heap[b]? =some (.cells o e (0,0)):=pk;rw[yx xV (by rw[nw,Y];exact nx) P1] at B;rw[yx (setRow_heap _ _ _ _ _ _ xV) (by
   rw[F]
   have:i*sz+v.length*sz<=(s.length+v.length)*sz:=by rw[<-dG];exact dx sz O
   have h2: ∀l:List Value,l.toArray.size=l.length:=λl=>aP
   rw[h2];simp only[List.length_append,List.length_take,List.length_drop,nw];simp;omega) pg,setRow_setRow] at B
  have sF:=aa7 (cur:=o.toList) (cs:=o.toList.take (s.length*sz)) (vs:=d.toList.take (v.length*sz)) (a:=i*sz) (m:=v.length*sz) (k:=s.length*sz) aet rfl F (by rw[<-dG];simpa using nx);rw[<-dG,<-dG] at sF;simp only at B;rw[sF] at B;generalize xT:(o.toList.take (s.length*sz)).take (i*sz)++d.toList.take (v.length*sz)++(o.toList.take (s.length*sz)).drop (i*sz)++o.toList.drop ((s.length+v.length)*sz)=mh at B;have uN:mh.toArray.size=o.size:=by
   rw[<-xT];have h2: ∀l:List Value,l.toArray.size=l.length:=λl=>aP
   rw[h2];simp only[List.length_append,F,nw,List.length_drop];rw[cE,D];have h3:i*sz+(s.length-i)*sz=s.length*sz:=by rw[<-dG];congr 1;omega
   have h4:(s.length+v.length)*sz=s.length*sz+v.length*sz:=dG _ _ _;simp only[Array.length_toList];omega
  have hrel:=(wk h0).setRow 0 b (.inl ⟨_,g⟩) o e xV mh.toArray uN (.arr e r sz R) uL
   ⟨iL,Or.inr ⟨b,_,g,setRow_heap _ _ _ _ _ _ xV,by rw[uN,I];exact nx,Qa,λk j A x u aI a2 a3=>by
    have h9:=MN (rest:=o.toList.drop ((s.length+v.length)*sz)) rfl aE D F hs hs' (R:=λx u=>cP w.drew (own K C W.H) x u) (λk j A x u cQ cd eO=>uQ _ _ (It k j A x u cQ cd eO)) (λk j A x u cQ cd eO=>uQ _ _ (k2 k j A x u cQ cd eO)) k j A x u (by rw[<-uM];exact aI) a2 (by rw[xT];simpa using a3);refine h9.mono ⟨rfl,rfl,rfl,aP,λkk _ hx=>setRow_other _ _ _ _ λe0=>hx ?_⟩ λ_ _ h=>h;subst e0;exact .inr ⟨0,uL,.inl ⟨_,g⟩⟩⟩⟩
  have N:=hrel.bump 0 e r sz R (some b) g (show aS W.H 0 (some (.arr e r sz R)) 0=some (.arr e r sz R) from bP _ _ _);have xP:aS (aS W.H 0 (some (.arr e r sz R))) 0 (some (.arr e (r+1) sz R))=aS W.H 0 (some (.arr e (r+1) sz R)):=by
   funext j;by_cases hj:j=0
   ·subst hj;rw[bP,bP]
   rw[bQ _ _ _ _ hj,bQ _ _ _ _ hj,bQ _ _ _ _ hj]
  simp only[xP] at N;rw[<-B] at N;refine fin _ _ _ N ?_;have il:bk (C.put 0 (some (some b,r+1))) fp (own K (C.put 0 (some (some b,r+1))) (aS W.H 0 (some (.arr e (r+1) sz R)))) (.a8 0 (r+1) sz 0 R.length) (.slice (some ⟨b,0*sz,none⟩) R.length L):=by
   refine .a8 0 (r+1) sz 0 _ L b (L*sz) e O (jf _ _ _) ?_ ?_ (by rw[dt]) O Qo
   ·rw[B,setRow_size];exact(js.1 pk).1
   unfold World.shape?;rw[B,setRow_heap _ _ _ _ _ _ xV];simp only[uN,B8]
  rw[ga,I] at il;rw[I];exact il
 refine(raw.grow b s.length L i hT v.length dC _ _ w Ie Ch Qm O U hbig D F k0 uU HR pg).mono ?_;rintro e1 fp ⟨rfl,B⟩;generalize P7:grownCap w (s.length+v.length) L e=mg at B;have HV:s.length+v.length<=mg:=by rw[<-P7];exact grownCap_ge w _ _ _
 have adS:mg<=maxLen:=by rw[<-P7];exact grownCap_le_maxLen w _ _ _ hm'
 generalize P2:(((o.toList.take (s.length*sz)).take (i*sz)).toArray++Builtin.zeroCells z.cells (s.length+v.length-i)++Builtin.zeroCells z.cells (mg-(s.length+v.length)):Array Value)=Q at B;have Cg:((o.toList.take (s.length*sz)).take (i*sz)).length=i*sz:=by rw[cE,D];omega
 have xO:Q.size=mg*sz:=by
  rw[<-P2];simp only[Array.size_append,List.size_toArray,size_zeroCells,qE,Cg,<-Nat.add_mul];congr 1;omega
 have adJ:Q.toList.length=mg*sz:=by rw[<-xO];simp
 have Iu:(s.length+v.length)*sz<=mg*sz:=dx sz HV;have Qi:((w.alloc (.cells Q e)).drew).heap[w.heap.size]? =some (.cells Q e (0,0)):=jA w _;have S:i*sz+(d.toList.take (v.length*sz)).length<=Q.size:=by
  rw[F,xO]
  have:i*sz+v.length*sz<=(s.length+v.length)*sz:=by rw[<-dG];exact dx sz O
  omega
 rw[yx Qi S pg] at B;have aek:=setRow_heap ((w.alloc (.cells Q e)).drew) w.heap.size Q (Q.toList.take (i*sz)++d.toList.take (v.length*sz)++Q.toList.drop (i*sz+(d.toList.take (v.length*sz)).length)).toArray e (0,0) Qi;have hg2:((((w.alloc (.cells Q e)).drew).setRow w.heap.size (Q.toList.take (i*sz)++d.toList.take (v.length*sz)++Q.toList.drop (i*sz+(d.toList.take (v.length*sz)).length)).toArray).drew).heap[w.heap.size]? =_:=aek;have hz1:(Q.toList.take (i*sz)++d.toList.take (v.length*sz)++Q.toList.drop (i*sz+(d.toList.take (v.length*sz)).length)).length=mg*sz:=by
  simp only[List.length_append,List.length_take,List.length_drop];simp only[Array.length_toList,xO];rw[cE] at F S;rw[xO] at S;omega
 rw[yx hg2 (by
  rw[nw,Y];have h2: ∀l:List Value,l.toArray.size=l.length:=λl=>aP
  rw[h2,hz1];exact Iu) P1] at B
 have sF:=aa6 (A0:=Q.toList) (ds:=(o.toList.take (s.length*sz)).drop (i*sz)) (vs:=d.toList.take (v.length*sz)) (a:=i*sz) (m:=v.length*sz) (p:=(o.toList.take (s.length*sz)).take (i*sz))
  (q:=(Builtin.zeroCells z.cells (s.length+v.length-i)).toList++(Builtin.zeroCells z.cells (mg-(s.length+v.length))).toList) (by rw[<-P2];simp) Cg F (by
   rw[nw,<-dG,Y,adJ];exact Iu)
 rw[<-dG] at sF;simp only at B;rw[sF] at B;generalize xT:(o.toList.take (s.length*sz)).take (i*sz)++d.toList.take (v.length*sz)++(o.toList.take (s.length*sz)).drop (i*sz)++Q.toList.drop ((i+v.length)*sz+((o.toList.take (s.length*sz)).drop (i*sz)).length)=mh at B;have x5:fp=(w.drew.drew).alloc (.cells mh.toArray e):=by
  rw[B];have h3:((((w.alloc (.cells Q e)).drew).setRow w.heap.size (Q.toList.take (i*sz)++d.toList.take (v.length*sz)++Q.toList.drop (i*sz+(d.toList.take (v.length*sz)).length)).toArray).drew).setRow w.heap.size mh.toArray=(((w.drew.drew).alloc (.cells Q e)).setRow w.heap.size (Q.toList.take (i*sz)++d.toList.take (v.length*sz)++Q.toList.drop (i*sz+(d.toList.take (v.length*sz)).length)).toArray).setRow w.heap.size mh.toArray:=rfl;rw[h3,setRow_setRow];exact World.setRow_alloc_new (w.drew.drew) Q mh.toArray e
 have uN:mh.toArray.size=mg*sz:=by
  rw[<-xT];have h2: ∀l:List Value,l.toArray.size=l.length:=λl=>aP
  rw[h2];simp only[List.length_append,Cg,F,nw,List.length_drop,Array.length_toList,xO];rw[Y];have h3:i*sz+(s.length-i)*sz=s.length*sz:=by rw[<-dG];congr 1;omega
  have h4:(s.length+v.length)*sz=s.length*sz+v.length*sz:=dG _ _ _;omega
 have sB:=(wk (wk h0)).move 0 e r sz s M mh.toArray R (by rw[uN,I];exact Iu) Qa (λk j A x u aI a2 a3=>by
  have h9:=MN (rest:=Q.toList.drop ((i+v.length)*sz+((o.toList.take (s.length*sz)).drop (i*sz)).length)) rfl aE D F hs hs' (R:=λx u=>cP w.drew.drew (own K C W.H) x u)
   (λk j A x u cQ cd eO=>(uQ _ _ (It k j A x u cQ cd eO)).mono (Ext.drew _ _) λ_ _ h=>h) (λk j A x u cQ cd eO=>(uQ _ _ (k2 k j A x u cQ cd eO)).mono (Ext.drew _ _) λ_ _ h=>h) k j A x u (by rw[<-uM];exact aI) a2 (by rw[xT];simpa using a3)
  exact h9)
 rw[<-x5] at sB;refine fin _ _ _ sB ?_;have ahM:(w.drew.drew).heap.size=w.heap.size:=rfl;have qC:=jA (w.drew.drew) (.cells mh.toArray e);have il:bk (C.put 0 (some (some (w.drew.drew).heap.size,r+1))) fp (own K (C.put 0 (some (some (w.drew.drew).heap.size,r+1))) (aS W.H 0 (some (.arr e (r+1) sz R)))) (.a8 0 (r+1) sz 0 R.length) (.slice (some ⟨w.heap.size,0*sz,none⟩) R.length mg):=by
  refine .a8 0 (r+1) sz 0 _ mg w.heap.size (mg*sz) e O (jf _ _ _) ?_ ?_ (by rw[dt]) O adS
  ·rw[x5];simp
  unfold World.shape?;rw[x5];rw[show((w.drew.drew).alloc (.cells mh.toArray e)).heap[w.heap.size]? =some (.cells mh.toArray e) from qC];simp only[uN]
 rw[ga,I] at il;rw[I];exact il
theorem NL{P:Program}{u:TypeDesc}{a:TypeInfo}(k:ig P f)(q:zC P f t e n a z)(F:P.underlying t=some (.slice e))(r:P.info? e=some a)(w:a.zero=some z)(y:z.cells.size=n)(A:a.size=n)
  (B:P.underlying e=some u) (H:0<n) (C:a.bytes<=140000) {c:Type} (d:c->List T) (l: ∀x,(d x).length=n) (s v R:List c) (i m p:Nat) (K:i<=s.length) (o:app (s.take i++v) (s.drop i)=some R):
  jb P G f [az e m n d s,az e p n d v] [ms 0 m n d s,.t (.int .i64 i),ms 1 p n d v] (ms 0 (m+1) n d R) [az e (m+1) n d R,az e p n d v]:=by
 refine abM k q F r w y A B H C (s.map d) (v.map d) (R.map d) i m p (by simpa using K) ?_ (Rows.map s l) (Rows.map v l);unfold app at o⊢;simp only[List.length_append,List.length_take,List.length_drop,List.length_map] at o⊢;split at o
 ·rename_i h;rw[a1 h];cases o;simp[List.map_append,List.map_take,List.map_drop]
 cases o
section runs
variable {P:Program}
open Go.RowKit Go.Lib
theorem qX(w:World)(s y z c:TypeId)(k b o d l:Nat)(a:Addr)(e n m:Nat)(h:List Value)
  (A:P.underlying s=some (.slice c)) (x:(P.info? c).map (·.size)=some k) (B:m=Nat.min e d) (C:h.length=m*k)
  (p: ∀j v,h[j]? =some v->w.cell? (a.add j)=some v) (F: ∀j,j<h.length->(w.cell? ⟨b,o+j,none⟩).isSome=true) (G: ∀j,j<h.length->w.frozen? ⟨b,o+j,none⟩=false) (H: ∀v∈h,v.oneCell'=true):
  (Builtin.copy_ #[s,y] z #[.slice (some ⟨b,o,none⟩) d l,.slice (some a) e n]).run P w= .ok (goInt m) (w.setCells b o h):=by
 have b8:=run_loadCells_list (P:=P) w a h p;have q:=run_storeCells_cells (P:=P) b o h 0 w (by simpa using F) (by simpa using G) H;cases r:P.info? c with
 |none=>simp[r] at x
 |some i=>
  have K:i.size=k:=by simpa[r] using x
  simp[Builtin.copy_,run_underlying A,Builtin.lenOf,Builtin.firstCells,sizeOf,typeInfo,r,K,<-B,<-C,b8,q]
theorem UI(w:World)(d s:Operand)(t c:TypeId)
  (e:o.op= .call {callee:= .builtin .copy,args:= #[d,s],argTypes:= #[t,c]}) (v u:Value) (i:a.eval d=v) (k:a.eval s=u)  
  (l:(Builtin.copy_ #[t,c] o.type #[v,u]).run P w= .ok z b) (h:K (a.put o.dst z) b):o.wp P a w K Q:=by unfold Oper.wp execOp;simp only[e,resolve,invoke,builtin,Sem.run_bind,Sem.run_pure,Result.andThen_ok,List.map_toArray,List.map_cons,List.map_nil,i,k,l];exact h
theorem uJ(w:World){V:Array Oper}{l:List Oper}(c:o.guard=none)(d s:Operand)(t e:TypeId)
  (i:o.op= .call {callee:= .builtin .copy,args:= #[d,s],argTypes:= #[t,e]}) (v u:Value) (k:a.eval d=v) (m:a.eval s=u)  
  (n:(Builtin.copy_ #[t,e] o.type #[v,u]).run P w= .ok z b) (h:wpList P V Q l (a.put o.dst z) b):wpList P V Q (o::l) a w:=
 wpList_plain c λ_ p=>UI w d s t e i v u k m n (p _ _ h)
theorem CQ{V:Array Oper}{E:Prop}
  (i:o.guard=none) (d x:Operand) (e h:TypeId) (c:o.op=Op.call {callee:=Callee.builtin Builtin.copy,args:= #[d,x],argTypes:= #[e,h]})
  (v u:Value) (k:a.eval d=v) (l:a.eval x=u)   (m:(Builtin.copy_ #[e,h] o.type #[v,u]).run P w= .ok z b) (n:K (a.put o.dst z) b):
  if Region.wanted o (yielded V a.tmps)=true then Oper.wp P o a w K Q else E:=by
 have p:Region.wanted o (yielded V a.tmps)=true:=by simp[Region.wanted,i]
 rw[a1 p];unfold Oper.wp;simp[execOp,c,resolve,invoke,builtin,k,l,m,Result.andThen];exact n
theorem CB(b:Nat)(a:List Value)(o:Nat)(w:World)(h: ∀j,j<a.length->(w.cell? ⟨b,o+j,none⟩).isSome=true)(k:Nat)(c:(w.cell? ⟨b,k,none⟩).isSome=true):((w.setCells b o a).cell? ⟨b,k,none⟩).isSome=true:=by
 by_cases d:o<=k/\k<o+a.length
 ·have:=World.cell?_setCells_in b a o w h (k-o) O;rw[show o+(k-o)=k by omega] at this;rw[this];rfl
 rw[World.cell?_setCells_out b a o w ⟨b,k,none⟩ λ_ _=>by show k<o\/o+a.length<=k;omega];exact c
end runs
end Go.Lift
