/- Tools. -/
import Derived.Test.YtcihigfifglboabGreatJLiftY
import Derived.Shelf.RegionOpenPlain
import Derived.Lib.Walk
import Derived.Lib.SliceRun
import Derived.Lib.JoinLaws
import Derived.Lib.AppendZeros
import Derived.Lib.AppendZerosOnto
import Derived.Lib.Overlaps
import Derived.Laws.Externs
import Derived.Laws.IdiomCopy
import Derived.Laws.CopyRow
import Derived.Deep.WholeRow
set_option linter.unusedVariables false
namespace Go.Lift
open Go
variable {b w:World}{o:Oper}{i n k sz m:Nat}{t e:TypeId}{G:fe}{X:Nat->Prop}{a:Act}{D:Map}{c vs:List Value}{f:FuncId}{z:Value}{K:Act->World->Prop}{Q:Exit->Act->World->Prop}
theorem x7{b o:Nat}{i:List Value}{d:Array Value}(e:w.heap[b]? =some (.cells d t (0,0)))(l:o+i.length<=d.size)(h: ∀v∈i,v.oneCell'=true):
  w.setCells b o i=w.setRow b (d.toList.take o++i++d.toList.drop (o+i.length)).toArray:=by
 have a:=run_storeCells_at (P:=(default:Program)) b o t i 0 d w e O h;have c:=run_storeCells_cells (P:=(default:Program)) b o i 0 w (λj k=>by
  have:o+j<d.size:=O
  simp[World.cell?,e,this]) (λj k=>by simp[World.frozen?,e]) h
 rw[a] at c;simp only[Nat.add_zero] at c;injection c with _ c;exact c.symm
theorem Dr{P:Program}{d:World}{a out:List E}{T:Map}{c:S}{l:Act}{r:V}{u:Value}(x:Rel (Ctx.dJ P G w X a.length T i) D c l d)(I:a.length<=out.length)
  (A:bn D d (own (Ctx.dJ P G w X a.length T i) D c.H) r u) (p:r.ok (e4 out.length)=true) (y:lB c.H (e4 out.length) (eW out 0)): ∃B,Left T B a out w d X r u:=by
 let m:S:={t:=pD,H:=eW out 0,u:=e4 out.length}
 have o:mH a.length m.u=true:=by
  have: ∀n,n<=a.length->mH n m.u=true:=by
   intro n;induction n with
   |zero=>intro _;rfl
   |succ n C=>intro L;simp[mH,C O,show m.u n=true from jd.2 O]
  exact this _ (cQ _)
 have bP:=x.cut (s':=m) (oW.nil _ _) y o;have eu:=Eh (K:=Ctx.dJ P G w X a.length T i) (β:=D) (s:=c) (s':=m) y;refine⟨cut D m.u,?_⟩;refine⟨x.ext.weaken λb _ ⟨id,_,h⟩=>⟨id,h⟩,bP.base,bP.iW,?_,?_,bP.inj,bP.fresh,?_,A.under eu (λ_ h=>w4 h) p⟩
 ·intro k F;apply bP.dL;cases q:m.u k with
  |false=>rfl
  |true=>have:=jd.1 q;omega
 ·intro k b F;apply bP.ed;cases q:m.u k with
  |false=>rfl
  |true=>have:=jd.1 q;omega
 intro k e z;exact(bP.heap k e (by rw[<-yy] at z;exact z)).2
structure zf (P:Program) (f:FuncId) (t e:TypeId) (sz:Nat) (i0:TypeInfo) (z:Value):Prop where
 nothing: ∀(base Dw:Option Addr) (n c i dJ:Nat) (w:World),i<=n->n<=c->c<=9223372036854775807->Calls P f #[.slice base n c,.int .i64 i,.slice Dw 0 dJ] w λe w'=>e= .returned (.slice base n c)/\w'=w
 tail: ∀(base Dw:Option Addr) (n c m dJ:Nat) (w:World) (dx:Value) (w':World),0<m->n<=c->c<=9223372036854775807->(Builtin.append_ #[t,t] t #[.slice base n c,.slice Dw m dJ]).run P w= .ok dx w'->
  Calls P f #[.slice base n c,.int .i64 n,.slice Dw m dJ] w λe gI=>e= .returned dx/\gI=w'
 room: ∀(b n c i hV m dJ:Nat) (cs vs:List Value) (w:World),i<n->0<m->n+m<=c->c<=9223372036854775807->hV≠b->cs.length=n*sz->vs.length=m*sz->
  (∀j v,cs[j]? =some v->w.cell? ⟨b,j,none⟩=some v)->(∀j,j<(n+m)*sz->(w.cell? ⟨b,j,none⟩).isSome=true)->(∀j,w.frozen? ⟨b,j,none⟩=false)->
  (∀j v,vs[j]? =some v->w.cell? ⟨hV,j,none⟩=some v)->(∀v∈cs,v.oneCell'=true)->(∀v∈vs,v.oneCell'=true)->
  ∀(ahp sX:TypeId) (fy Qh:Nat),w.shape? hV=some (ahp,fy)->w.shape? b=some (sX,Qh)->Qh≠0->(∀j,w.frozen? ⟨hV,j,none⟩=false)->
  Calls P f #[.slice (some ⟨b,0,none⟩) n c,.int .i64 i,.slice (some ⟨hV,0,none⟩) m dJ] w λe w'=>
   e= .returned (.slice (some ⟨b,0,none⟩) (n+m) c)/\w'=(w.drew.setCells b ((i+m)*sz) (cs.drop (i*sz))).setCells b (i*sz) vs
 grow: ∀(b n c i hV m dJ:Nat) (cs vs:List Value) (w:World),i<n->0<m->n<=c->c<n+m->n+m<=1000000000->(n+m)*i0.bytes<=140737488355328->cs.length=n*sz->vs.length=m*sz->
  (∀j v,cs[j]? =some v->w.cell? ⟨b,j,none⟩=some v)->(∀j v,vs[j]? =some v->w.cell? ⟨hV,j,none⟩=some v)->(∀v∈cs,v.oneCell'=true)->(∀v∈vs,v.oneCell'=true)->
  Calls P f #[.slice (some ⟨b,0,none⟩) n c,.int .i64 i,.slice (some ⟨hV,0,none⟩) m dJ] w λe' w'=>
   e'= .returned (.slice (some ⟨w.heap.size,0,none⟩) (n+m) (grownCap w (n+m) c e))/\
   w'=(((w.alloc (.cells ((cs.take (i*sz)).toArray++Builtin.zeroCells z.cells (n+m-i)++Builtin.zeroCells z.cells (grownCap w (n+m) c e-(n+m))) e)).drew.setCells w.heap.size (i*sz) vs).drew).setCells w.heap.size ((i+m)*sz) (cs.drop (i*sz))
theorem Mz{L:Nat}{s v:List (List T)}{a rest:List Value}(q:s.length=n)(r:i<=n)(w:a.length=n*L)(l:c.length=v.length*L)(m:Rows L s)(e:Rows L v){R:T->Value->Prop}
  (o: ∀(i j:Nat) (d:List T) (x:T) (u:Value),s[i]? =some d->d[j]? =some x->a[i*L+j]? =some u->R x u)
  (y: ∀(i j:Nat) (d:List T) (x:T) (u:Value),v[i]? =some d->d[j]? =some x->c[i*L+j]? =some u->R x u):
  ∀(k j:Nat) (d:List T) (x:T) (u:Value),(s.take i++v++s.drop i)[k]? =some d->d[j]? =some x->(a.take (i*L)++c++a.drop (i*L)++rest)[k*L+j]? =some u->R x u:=by
 have p:Rows L (s.take i):=λd h=>m d (gh h);have z:Rows L (s.drop i):=λd h=>m d (eY h);have A:=dA L r;have B:=vR (a.take (i*L)) c [] (rows:=s.take i) (news:=v) (n:=i) (size:=L) (by rw[cG];omega) (by rw[cG];omega) l p e (R:=R)
  (λk j d x u aJ a2 a3=>by
   rw[ft] at aJ a3;split at aJ
   ·split at a3
    ·exact o k j d x u aJ a2 a3
    cases a3
   cases aJ) y
 have fG:=vR (a.take (i*L)++c) (a.drop (i*L)) rest (rows:=s.take i++v) (news:=s.drop i) (n:=i+v.length) (size:=L) (by rw[dE,cG];omega)
  (by rw[dE,cG,l,dp];omega) (by rw[fs,fs,w,q,th]) (λd h=>by
   rcases d'.1 h with h|h
   ·exact p d h
   exact e d h) z (R:=R) (λk j d x u aJ a2 a3=>B k j d x u aJ a2 (by simpa using a3))
  (λk j d x u aJ a2 a3=>by
   rw[fZ] at aJ a3;refine o (i+k) j d x u aJ a2 ?_;rw[dp,pP];exact a3)
 intro k j d x u aJ a2 a3;exact fG k j d x u aJ a2 (by simpa using a3)
theorem KF{b size c:Nat}{a:Array Value}(e:w.heap[b]? =some (.cells a t (0,0))): ∀j v,(a.toList.take (n*size))[j]? =some v->w.cell? ⟨b,j,none⟩=some v:=by
 intro j v d;rw[ft] at d;split at d
 ·simp only[World.cell?,e];simpa using d
 cases d
theorem Ge{gen:Nat}{a:List (List T)}{x:Value}(B:cH D w X k (.arr e gen sz a))(F:bn D w X (.bc k gen sz 0 a.length) x):
  (x= .slice none 0 0/\a=[]/\D k=some (none,gen))\/ ∃(b c:Nat) (d:Array Value),x= .slice (some ⟨b,0,none⟩) a.length c/\D k=some (some b,gen)/\w.heap[b]? =some (.cells d e (0,0))/\d.size=c*sz/\a.length<=c/\c<=maxLen/\
   ∀(i j:Nat) (l:List T) (y:T) (u:Value),a[i]? =some l->l[j]? =some y->(d.toList.take (a.length*sz))[i*sz+j]? =some u->cX w X y u:=by
 obtain⟨q,m⟩:=jq B;rcases fa F m with ⟨c,b,n,G,rfl,rfl,Q,h,r,H,s⟩|⟨rfl,_,z,rfl⟩
 ·rcases B.2 with ⟨o,_⟩|⟨R,d,o,C,U,W,I⟩
  ·rw[m] at o;cases o
  rw[m] at o;cases o;have A:d.size=c*sz:=by
   unfold World.shape? at h;rw[C] at h;simp at h;rw[<-r] at h;rw[dt] at h;exact h.2
  refine .inr ⟨b,c,d,by rw[gi],m,C,A,H,s,λi j l y u K L p=>?_⟩;rw[ft] at p;split at p
  ·exact I i j l y u K L (by simpa using p)
  cases p
 exact .inl ⟨rfl,kQ z,m⟩
theorem Lc{a:List (List T)}(h:0<sz)(n:Rows sz a)(o:c.length=a.length*sz)
  (p: ∀(i j:Nat) (d:List T) (y:T) (u:Value),a[i]? =some d->d[j]? =some y->c[i*sz+j]? =some u->cX w X y u): ∀v∈c,v.oneCell'=true:=by
 intro v q;obtain⟨k,l⟩:=km.1 q;have e:k<a.length*sz:=by rw[<-o];exact(bR.1 l).1
 have m:k / sz<a.length:=(vz h).2 e;have r:k%sz<(a[k / sz]).length:=by rw[n _ (fC m)];exact Nat.mod_lt _ h
 exact(p (k / sz) (k%sz) _ ((a[k / sz])[k%sz]) v (br m) (br r) (by rw[Nat.div_add_mod'];exact l)).iU
theorem Z5{cur cs:List Value}{a:Nat}(l:a<=k)(d:cs=cur.take k)(n:vs.length=m)(o:k+m<=cur.length):
  let c:=cur.take (a+m)++cs.drop a++cur.drop (a+m+(cs.drop a).length)
  c.take a++vs++c.drop (a+vs.length)=cs.take a++vs++cs.drop a++cur.drop (k+m):=by
 intro c;have e:cs.length=k:=by rw[d,cG];omega
 have h:c.take a=cs.take a:=by
  show((cur.take (a+m)++cs.drop a)++_).take a=_;rw[iy,mQ (by rw[cG];omega),List.take_take,d,List.take_take];congr 1;omega
 have i:c.drop (a+vs.length)=cs.drop a++cur.drop (k+m):=by
  show((cur.take (a+m)++cs.drop a)++_).drop _=_;rw[iy,vE (by rw[cG];omega),kR (by rw[cG];omega),pN];congr 2;rw[fs];omega
 rw[h,i];simp
theorem Z4{A0 ds:List Value}{a:Nat}{p:List Value}{q:List Value}(e:A0=p++q)(k:p.length=a)(l:vs.length=m)(n:a+m+ds.length<=A0.length):
  let c:=A0.take a++vs++A0.drop (a+vs.length)
  c.take (a+m)++ds++c.drop (a+m+ds.length)=p++vs++ds++A0.drop (a+m+ds.length):=by
 intro c;have d:A0.take a=p:=by rw[e,mQ O,hU O]
 have h:c.take (a+m)=p++vs:=by
  show((A0.take a++vs)++_).take _=_;rw[d,mQ (by rw[dE];omega),hU (by rw[dE];omega)]
 have i:c.drop (a+m+ds.length)=A0.drop (a+m+ds.length):=by
  show((A0.take a++vs)++_).drop _=_;rw[d,List.drop_append,kR (by rw[dE];omega),pN,List.drop_drop,dE];congr 1;omega
 rw[h,i]
theorem aaQ{P:Program}{Q7:TypeDesc}{i0:TypeInfo}(call:ji P f)(raw:zf P f t e sz i0 z)(hu:P.underlying t=some (.slice e))(HI:P.info? e=some i0)(P8:i0.zero=some z)(qu:z.cells.size=sz)(qs:i0.size=sz)
  (ad8:P.underlying e=some Q7) (hp:0<sz) (ac0:i0.bytes<=140000) (s v R:List (List T)) (i r lO:Nat) (aH:i<=s.length) (qq:app (s.take i++v) (s.drop i)=some R) (hs:Rows sz s) (k9:Rows sz v):
  jc P G f [.arr e r sz s,.arr e lO sz v] [.bc 0 r sz 0 s.length,.t (.int .i64 i),.bc 1 lO sz 0 v.length] (.bc 0 (r+1) sz 0 R.length) [.arr e (r+1) sz R,.arr e lO sz v]:=by
 have N:s.length+v.length<=1000000000/\R=s.take i++v++s.drop i:=by
  unfold app at qq;split at qq
  ·rename_i h;simp at h;refine⟨O,by cases qq;rfl⟩
  cases qq
 obtain⟨N,ux⟩:=N;have W:R.length=s.length+v.length:=by rw[ux];simp;omega
 have PB: ∀A,A∈R->A.length=sz:=λA h=>by
  rw[ux] at h;rcases d'.1 h with h|h
  ·rcases d'.1 h with h|h
   ·exact hs A (gh h)
   exact k9 A h
  exact hs A (eY h)
 have hbig:(s.length+v.length)*i0.bytes<=140737488355328:=gE (nH N ac0) (by decide);have hm':s.length+v.length<=maxLen:=by unfold maxLen;omega
 have acU:cd P e Q7 z sz i0.bytes:=⟨ad8,i0,HI,P8,qs,rfl⟩
 refine⟨call,?_⟩;intro w X C us k5 hr kF fU;have adu:us.length=3:=fU.length;obtain⟨hY,gk,iA,rfl⟩: ∃a b c,us=[a,b,c]:=by
  match us,adu with
  | [a,b,c],_=>exact⟨a,b,c,rfl⟩
 have h0:=Rel.l2 (P:=P) (nt:=3) k5 hr kF fU (cQ _);obtain⟨ss,su,P7,_⟩:=fU;obtain rfl:gk= .int .i64 i:=by
  cases su with|t _ _ h=>cases h;rfl
 generalize Ht:({tmps:=[hY,Value.int .i64 i,iA].toArray++Array.replicate (3-[hY,Value.int .i64 i,iA].toArray.size) undef,defers:=[]}:Act)=act at h0;generalize mu:Ctx.dJ P G w X [E.arr e r sz s,E.arr e lO sz v].length C 3=K at h0;have Hm:K.P=P:=by rw[<-mu];rfl
 have sf:K.X=X:=by rw[<-mu];rfl
 generalize k6:Lift.l2 [E.arr e r sz s,E.arr e lO sz v] [V.bc 0 r sz 0 s.length,V.t (.int .i64 i),V.bc 1 lO sz 0 v.length]=L at h0;have Y:L.H 0=some (.arr e r sz s):=by rw[<-k6];rfl
 have acO:L.H 1=some (.arr e lO sz v):=by rw[<-k6];rfl
 have xx:L.H=eW [E.arr e r sz s,E.arr e lO sz v] 0:=by rw[<-k6];rfl
 have HV:own K C L.H=lZ X C (eW [E.arr e r sz s,E.arr e lO sz v] 0):=by funext b;rw[xx];show(K.X b\/_)=_;rw[sf];rfl
 rw[<-HV] at ss P7;have se:aU L.H 0 (some (.arr e (r+1) sz R))=eW [E.arr e (r+1) sz R,E.arr e lO sz v] 0:=by
  rw[xx];funext j
  match j with
  |0=>rfl
  |j+1=>rfl
 have fin: ∀(β':Map) (w':World) (x:Value),Rel K β' {L with H:=aU L.H 0 (some (.arr e (r+1) sz R))} act w'->bn β' w' (own K β' (aU L.H 0 (some (.arr e (r+1) sz R)))) (.bc 0 (r+1) sz 0 R.length) x->
   ∃u,∃_i:Unit,∃β,Ending.returned x= .returned u/\True/\Left C β [E.arr e r sz s,E.arr e lO sz v] [E.arr e (r+1) sz R,E.arr e lO sz v] w w' X (.bc 0 (r+1) sz 0 R.length) u:=by
  intro β' w' x b7 bJ;subst mu;obtain⟨β,sw⟩:=Dr (out:=[E.arr e (r+1) sz R,E.arr e lO sz v]) b7 (cQ _) bJ rfl (by
   intro id e0 BO;refine⟨⟨e0,?_,jx.refl _⟩,?_⟩
   ·show aU L.H 0 _ id=_;rw[se];exact BO
   match id with
   |0=>cases BO;exact⟨rfl,rfl⟩
   |1=>cases BO;exact⟨rfl,rfl⟩
   |k+2=>cases BO)
  exact⟨x,(),β,rfl,trivial,sw⟩
 have iM:=(h0.heap 0 _ Y).2.1;have oX:=Ge (h0.heap 0 _ Y).2 ss;have JS:=Ge (h0.heap 1 _ acO).2 P7;have BJ:L.H 0≠none:=by rw[Y];simp
 by_cases uE:v=[]
 ·have PC:R=s:=by rw[ux,uE];simp
  have run: ∀Rh,(∃hV dJ,Rh=Value.slice hV 0 dJ)->Calls P f #[hY,.int .i64 i,Rh] w λe w'=>e= .returned hY/\w'=w:=by
   rintro _ ⟨hV,dJ,rfl⟩;rcases oX with ⟨rfl,h1,_⟩|⟨b,F,o,rfl,_,_,_,cE,bP,_⟩
   ·subst h1
    have:i=0:=by simpa using aH
    subst this;exact raw.nothing none hV 0 0 0 dJ w (cQ _) (cQ _) (by decide)
   exact raw.nothing (some ⟨b,0,none⟩) hV s.length F i dJ w aH cE (by unfold maxLen at bP;omega)
  refine(run iA ?_).mono ?_
  ·rcases JS with ⟨rfl,_,_⟩|⟨b,F,o,rfl,_⟩
   ·exact⟨_,_,rfl⟩
   exact⟨_,_,by rw[uE];rfl⟩
  rintro e1 gI ⟨rfl,rfl⟩;obtain⟨oC,Q⟩:=jq (h0.heap 0 _ Y).2;have a':=h0.bump 0 e r sz s oC Q Y;rw[<-PC] at a';refine fin _ _ _ a' ?_;rw[PC];rcases fa ss Q with ⟨xj,b,n,hD,rfl,kD,hw,ik,sn,cE,mw⟩|⟨kD,_,HQ,rfl⟩
  ·subst kD;exact .bc 0 (r+1) sz 0 _ xj b n hD O (jg _ _ _) hw ik sn cE mw
  subst kD;rw[HQ];exact .hz 0 (r+1) sz O (jg _ _ _)
 have BX:0<v.length:=List.length_pos_iff.2 uE;rcases JS with ⟨_,h1,_⟩|⟨hV,dJ,d,rfl,adT,HG,ago,ady,sk,k8⟩
 ·exact bB h1 uE
 have D:(d.toList.take (v.length*sz)).length=v.length*sz:=by
  have:=dA sz ady;rw[cG];simp;omega
 have o7:=Lc hp k9 D k8;have uF:=KF (size:=sz) (n:=v.length) HG (c:=0);by_cases kF:i=s.length
 ·have acT:R=s++v:=by rw[ux,kF];simp
  have ad2:Src w (own K C L.H) sz v (.slice (some ⟨hV,0,none⟩) v.length dJ):=
   .inr ⟨hV,0,dJ,d.toList.take (v.length*sz),rfl,D,λj x hj=>by rw[dt];exact uF j x hj,o7,k8⟩
  obtain⟨dx,w',β',g1,g2,g3⟩:=h0.append 0 s v Y t (by rw[Hm];exact hu) (by rw[Hm];exact acU) qu hs k9 _ _ ss (.inl ad2) hbig hm';rw[Hm] at g1;rw[<-acT] at g2 g3;rw[<-W] at g3;have run:Calls P f #[hY,.int .i64 i,.slice (some ⟨hV,0,none⟩) v.length dJ] w λe gI=>e= .returned dx/\gI=w':=by
   rcases oX with ⟨rfl,h1,_⟩|⟨b,F,o,rfl,_,_,_,cE,bP,_⟩
   ·subst h1;subst kF;exact raw.tail none _ 0 0 _ _ w dx w' BX (cQ _) (by decide) g1
   subst kF;exact raw.tail _ _ s.length F _ _ w dx w' BX cE (by unfold maxLen at bP;omega) g1
  refine run.mono ?_;rintro e1 gI ⟨rfl,rfl⟩;exact fin _ _ _ g2 g3
 have HJ:i<s.length:=O
 rcases oX with ⟨_,h1,_⟩|⟨b,F,o,rfl,Q,o9,BL,PO,PR,HY⟩
 ·subst h1;simp at HJ
 have hne:hV≠b:=λe0=>by
  subst e0
  have:=h0.inj 0 1 hV (.inl ⟨_,Q⟩) (.inl ⟨_,adT⟩);omega
 have U:(o.toList.take (s.length*sz)).length=s.length*sz:=by
  have:=dA sz PO;rw[cG];simp;omega
 have Hh:=Lc hp hs U HY;have k7:=KF (size:=sz) (n:=s.length) o9 (c:=0);have adm:i*sz<=s.length*sz:=dA sz aH;have ns:((o.toList.take (s.length*sz)).drop (i*sz)).length=(s.length-i)*sz:=by rw[fs,U,th]
 have Pr: ∀y∈(o.toList.take (s.length*sz)).drop (i*sz),y.oneCell'=true:=λy hy=>Hh y (eY hy);have S:(i+v.length)*sz+(s.length-i)*sz=(s.length+v.length)*sz:=by rw[<-dp];congr 1;omega
 have uB: ∀y u,cX w (own K C L.H) y u->cX w.drew (own K C L.H) y u:=λy u h=>h.mono (Ext.drew _ _) λ_ _ h=>h;by_cases P2:s.length+v.length<=F
 ·have nu:(s.length+v.length)*sz<=o.size:=by rw[BL];exact dA sz P2
  refine(raw.room b s.length F i hV v.length dJ _ _ w HJ BX P2 (by unfold maxLen at PR;omega) hne U D k7 (λj hj=>?_) (λj=>by simp[World.frozen?,o9]) uF Hh o7 e e d.size o.size
   (by unfold World.shape?;rw[HG]) (by unfold World.shape?;rw[o9]) ?_ λj=>by simp[World.frozen?,HG]).mono ?_
  ·have:j<o.size:=O
   simp[World.cell?,o9,this]
  ·have:0<(s.length+v.length)*sz:=Nat.mul_pos O hp;omega
  rintro e1 gI ⟨rfl,B⟩;have xA:w.drew.heap[b]? =some (.cells o e (0,0)):=o9;rw[x7 xA (by rw[ns,S];exact nu) Pr] at B;rw[x7 (setRow_heap _ _ _ _ _ _ xA) (by
   rw[D]
   have:i*sz+v.length*sz<=(s.length+v.length)*sz:=by rw[<-dp];exact dA sz O
   have h2: ∀l:List Value,l.toArray.size=l.length:=λl=>aV
   rw[h2];simp only[List.length_append,List.length_take,List.length_drop,ns];simp;omega) o7,setRow_setRow] at B
  have xJ:=Z5 (cur:=o.toList) (cs:=o.toList.take (s.length*sz)) (vs:=d.toList.take (v.length*sz)) (a:=i*sz) (m:=v.length*sz) (k:=s.length*sz) adm rfl D (by rw[<-dp];simpa using nu);rw[<-dp,<-dp] at xJ;simp only at B;rw[xJ] at B;generalize xy:(o.toList.take (s.length*sz)).take (i*sz)++d.toList.take (v.length*sz)++(o.toList.take (s.length*sz)).drop (i*sz)++o.toList.drop ((s.length+v.length)*sz)=mh at B;have uy:mh.toArray.size=o.size:=by
   rw[<-xy];have h2: ∀l:List Value,l.toArray.size=l.length:=λl=>aV
   rw[h2];simp only[List.length_append,D,ns,List.length_drop];rw[cG,U];have h3:i*sz+(s.length-i)*sz=s.length*sz:=by rw[<-dp];congr 1;omega
   have h4:(s.length+v.length)*sz=s.length*sz+v.length*sz:=dp _ _ _;simp only[Array.length_toList];omega
  have hrel:=(vV h0).setRow 0 b (.inl ⟨_,Q⟩) o e xA mh.toArray uy (.arr e r sz R) BJ
   ⟨iM,Or.inr ⟨b,_,Q,setRow_heap _ _ _ _ _ _ xA,by rw[uy,W];exact nu,PB,λk j A x u aJ a2 a3=>by
    have h9:=Mz (rest:=o.toList.drop ((s.length+v.length)*sz)) rfl aH U D hs k9 (R:=λx u=>cX w.drew (own K C L.H) x u) (λk j A x u cU cu eT=>uB _ _ (HY k j A x u cU cu eT)) (λk j A x u cU cu eT=>uB _ _ (k8 k j A x u cU cu eT)) k j A x u (by rw[<-ux];exact aJ) a2 (by rw[xy];simpa using a3);refine h9.mono ⟨rfl,rfl,rfl,aV,λkk _ hx=>setRow_other _ _ _ _ λe0=>hx ?_⟩ λ_ _ h=>h;subst e0;exact .inr ⟨0,BJ,.inl ⟨_,Q⟩⟩⟩⟩
  have g:=hrel.bump 0 e r sz R (some b) Q (show aU L.H 0 (some (.arr e r sz R)) 0=some (.arr e r sz R) from bW _ _ _);have xv:aU (aU L.H 0 (some (.arr e r sz R))) 0 (some (.arr e (r+1) sz R))=aU L.H 0 (some (.arr e (r+1) sz R)):=by
   funext j;by_cases hj:j=0
   ·subst hj;rw[bW,bW]
   rw[bX _ _ _ _ hj,bX _ _ _ _ hj,bX _ _ _ _ hj]
  simp only[xv] at g;rw[<-B] at g;refine fin _ _ _ g ?_;have il:bn (C.put 0 (some (some b,r+1))) gI (own K (C.put 0 (some (some b,r+1))) (aU L.H 0 (some (.arr e (r+1) sz R)))) (.bc 0 (r+1) sz 0 R.length) (.slice (some ⟨b,0*sz,none⟩) R.length F):=by
   refine .bc 0 (r+1) sz 0 _ F b (F*sz) e O (jg _ _ _) ?_ ?_ (by rw[dt]) O PR
   ·rw[B,setRow_size];exact(jt.1 o9).1
   unfold World.shape?;rw[B,setRow_heap _ _ _ _ _ _ xA];simp only[uy,BL]
  rw[gi,W] at il;rw[W];exact il
 refine(raw.grow b s.length F i hV v.length dJ _ _ w HJ BX PO O N hbig U D k7 uF Hh o7).mono ?_;rintro e1 gI ⟨rfl,B⟩;generalize Px:grownCap w (s.length+v.length) F e=mg at B;have Hl:s.length+v.length<=mg:=by rw[<-Px];exact grownCap_ge w _ _ _
 have acN:mg<=maxLen:=by rw[<-Px];exact grownCap_le_maxLen w _ _ _ hm'
 generalize Ps:(((o.toList.take (s.length*sz)).take (i*sz)).toArray++Builtin.zeroCells z.cells (s.length+v.length-i)++Builtin.zeroCells z.cells (mg-(s.length+v.length)):Array Value)=I at B;have BV:((o.toList.take (s.length*sz)).take (i*sz)).length=i*sz:=by rw[cG,U];omega
 have xu:I.size=mg*sz:=by
  rw[<-Ps];simp only[Array.size_append,List.size_toArray,size_zeroCells,qu,BV,<-Nat.add_mul];congr 1;omega
 have acE:I.toList.length=mg*sz:=by rw[<-xu];simp
 have HZ:(s.length+v.length)*sz<=mg*sz:=dA sz Hl;have PJ:((w.alloc (.cells I e)).drew).heap[w.heap.size]? =some (.cells I e (0,0)):=jB w _;have M:i*sz+(d.toList.take (v.length*sz)).length<=I.size:=by
  rw[D,xu]
  have:i*sz+v.length*sz<=(s.length+v.length)*sz:=by rw[<-dp];exact dA sz O
  omega
 rw[x7 PJ M o7] at B;have ade:=setRow_heap ((w.alloc (.cells I e)).drew) w.heap.size I (I.toList.take (i*sz)++d.toList.take (v.length*sz)++I.toList.drop (i*sz+(d.toList.take (v.length*sz)).length)).toArray e (0,0) PJ;have hg2:((((w.alloc (.cells I e)).drew).setRow w.heap.size (I.toList.take (i*sz)++d.toList.take (v.length*sz)++I.toList.drop (i*sz+(d.toList.take (v.length*sz)).length)).toArray).drew).heap[w.heap.size]? =_:=ade;have xN:(I.toList.take (i*sz)++d.toList.take (v.length*sz)++I.toList.drop (i*sz+(d.toList.take (v.length*sz)).length)).length=mg*sz:=by
  simp only[List.length_append,List.length_take,List.length_drop];simp only[Array.length_toList,xu];rw[cG] at D M;rw[xu] at M;omega
 rw[x7 hg2 (by
  rw[ns,S];have h2: ∀l:List Value,l.toArray.size=l.length:=λl=>aV
  rw[h2,xN];exact HZ) Pr] at B
 have xJ:=Z4 (A0:=I.toList) (ds:=(o.toList.take (s.length*sz)).drop (i*sz)) (vs:=d.toList.take (v.length*sz)) (a:=i*sz) (m:=v.length*sz) (p:=(o.toList.take (s.length*sz)).take (i*sz))
  (q:=(Builtin.zeroCells z.cells (s.length+v.length-i)).toList++(Builtin.zeroCells z.cells (mg-(s.length+v.length))).toList) (by rw[<-Ps];simp) BV D (by
   rw[ns,<-dp,S,acE];exact HZ)
 rw[<-dp] at xJ;simp only at B;rw[xJ] at B;generalize xy:(o.toList.take (s.length*sz)).take (i*sz)++d.toList.take (v.length*sz)++(o.toList.take (s.length*sz)).drop (i*sz)++I.toList.drop ((i+v.length)*sz+((o.toList.take (s.length*sz)).drop (i*sz)).length)=mh at B;have xK:gI=(w.drew.drew).alloc (.cells mh.toArray e):=by
  rw[B];have h3:((((w.alloc (.cells I e)).drew).setRow w.heap.size (I.toList.take (i*sz)++d.toList.take (v.length*sz)++I.toList.drop (i*sz+(d.toList.take (v.length*sz)).length)).toArray).drew).setRow w.heap.size mh.toArray=(((w.drew.drew).alloc (.cells I e)).setRow w.heap.size (I.toList.take (i*sz)++d.toList.take (v.length*sz)++I.toList.drop (i*sz+(d.toList.take (v.length*sz)).length)).toArray).setRow w.heap.size mh.toArray:=rfl;rw[h3,setRow_setRow];exact World.setRow_alloc_new (w.drew.drew) I mh.toArray e
 have uy:mh.toArray.size=mg*sz:=by
  rw[<-xy];have h2: ∀l:List Value,l.toArray.size=l.length:=λl=>aV
  rw[h2];simp only[List.length_append,BV,D,ns,List.length_drop,Array.length_toList,xu];rw[S];have h3:i*sz+(s.length-i)*sz=s.length*sz:=by rw[<-dp];congr 1;omega
  have h4:(s.length+v.length)*sz=s.length*sz+v.length*sz:=dp _ _ _;omega
 have sk:=(vV (vV h0)).move 0 e r sz s Y mh.toArray R (by rw[uy,W];exact HZ) PB (λk j A x u aJ a2 a3=>by
  have h9:=Mz (rest:=I.toList.drop ((i+v.length)*sz+((o.toList.take (s.length*sz)).drop (i*sz)).length)) rfl aH U D hs k9 (R:=λx u=>cX w.drew.drew (own K C L.H) x u)
   (λk j A x u cU cu eT=>(uB _ _ (HY k j A x u cU cu eT)).mono (Ext.drew _ _) λ_ _ h=>h) (λk j A x u cU cu eT=>(uB _ _ (k8 k j A x u cU cu eT)).mono (Ext.drew _ _) λ_ _ h=>h) k j A x u (by rw[<-ux];exact aJ) a2 (by rw[xy];simpa using a3)
  exact h9)
 rw[<-xK] at sk;refine fin _ _ _ sk ?_;have agA:(w.drew.drew).heap.size=w.heap.size:=rfl;have qt:=jB (w.drew.drew) (.cells mh.toArray e);have il:bn (C.put 0 (some (some (w.drew.drew).heap.size,r+1))) gI (own K (C.put 0 (some (some (w.drew.drew).heap.size,r+1))) (aU L.H 0 (some (.arr e (r+1) sz R)))) (.bc 0 (r+1) sz 0 R.length) (.slice (some ⟨w.heap.size,0*sz,none⟩) R.length mg):=by
  refine .bc 0 (r+1) sz 0 _ mg w.heap.size (mg*sz) e O (jg _ _ _) ?_ ?_ (by rw[dt]) O acN
  ·rw[xK];simp
  unfold World.shape?;rw[xK];rw[show((w.drew.drew).alloc (.cells mh.toArray e)).heap[w.heap.size]? =some (.cells mh.toArray e) from qt];simp only[uy]
 rw[gi,W] at il;rw[W];exact il
theorem NW{P:Program}{u:TypeDesc}{a:TypeInfo}(d:ji P f)(q:zf P f t e n a z)(D:P.underlying t=some (.slice e))(r:P.info? e=some a)(w:a.zero=some z)(y:z.cells.size=n)(A:a.size=n)
  (B:P.underlying e=some u) (F:0<n) (C:a.bytes<=140000) {k:Type} (c:k->List T) (l: ∀x,(c x).length=n) (s v R:List k) (i m p:Nat) (H:i<=s.length) (o:app (s.take i++v) (s.drop i)=some R):
  jc P G f [aF e m n c s,aF e p n c v] [ms 0 m n c s,.t (.int .i64 i),ms 1 p n c v] (ms 0 (m+1) n c R) [aF e (m+1) n c R,aF e p n c v]:=by
 refine aaQ d q D r w y A B F C (s.map c) (v.map c) (R.map c) i m p (by simpa using H) ?_ (Rows.map s l) (Rows.map v l);unfold app at o⊢;simp only[List.length_append,List.length_take,List.length_drop,List.length_map] at o⊢;split at o
 ·rename_i h;rw[a1 h];cases o;simp[List.map_append,List.map_take,List.map_drop]
 cases o
section runs
variable {P:Program}
open Go.RowKit Go.Lib
theorem qM(w:World)(s y z c:TypeId)(k b o d l:Nat)(a:Addr)(e n m:Nat)(h:List Value)
  (A:P.underlying s=some (.slice c)) (x:(P.info? c).map (·.size)=some k) (B:m=Nat.min e d) (C:h.length=m*k)
  (p: ∀j v,h[j]? =some v->w.cell? (a.add j)=some v) (D: ∀j,j<h.length->(w.cell? ⟨b,o+j,none⟩).isSome=true) (F: ∀j,j<h.length->w.frozen? ⟨b,o+j,none⟩=false) (G: ∀v∈h,v.oneCell'=true):
  (Builtin.copy_ #[s,y] z #[.slice (some ⟨b,o,none⟩) d l,.slice (some a) e n]).run P w= .ok (goInt m) (w.setCells b o h):=by
 have cE:=run_loadCells_list (P:=P) w a h p;have q:=run_storeCells_cells (P:=P) b o h 0 w (by simpa using D) (by simpa using F) G;cases r:P.info? c with
 |none=>simp[r] at x
 |some i=>
  have H:i.size=k:=by simpa[r] using x
  simp[Builtin.copy_,run_underlying A,Builtin.lenOf,Builtin.firstCells,sizeOf,typeInfo,r,H,<-B,<-C,cE,q]
theorem T2(w:World)(d s:Operand)(t c:TypeId)
  (e:o.op= .call {callee:= .builtin .copy,args:= #[d,s],argTypes:= #[t,c]}) (v u:Value) (i:a.eval d=v) (k:a.eval s=u)  
  (l:(Builtin.copy_ #[t,c] o.type #[v,u]).run P w= .ok z b) (h:K (a.put o.dst z) b):o.wp P a w K Q:=by unfold Oper.wp execOp;simp only[e,resolve,invoke,builtin,Sem.run_bind,Sem.run_pure,Result.andThen_ok,List.map_toArray,List.map_cons,List.map_nil,i,k,l];exact h
theorem uv(w:World){V:Array Oper}{l:List Oper}(c:o.guard=none)(d s:Operand)(t e:TypeId)
  (i:o.op= .call {callee:= .builtin .copy,args:= #[d,s],argTypes:= #[t,e]}) (v u:Value) (k:a.eval d=v) (m:a.eval s=u)  
  (n:(Builtin.copy_ #[t,e] o.type #[v,u]).run P w= .ok z b) (h:wpList P V Q l (a.put o.dst z) b):wpList P V Q (o::l) a w:=
 wpList_plain c λ_ p=>T2 w d s t e i v u k m n (p _ _ h)
theorem Cw{V:Array Oper}{E:Prop}
  (i:o.guard=none) (d x:Operand) (e h:TypeId) (c:o.op=Op.call {callee:=Callee.builtin Builtin.copy,args:= #[d,x],argTypes:= #[e,h]})
  (v u:Value) (k:a.eval d=v) (l:a.eval x=u)   (m:(Builtin.copy_ #[e,h] o.type #[v,u]).run P w= .ok z b) (n:K (a.put o.dst z) b):
  if Region.wanted o (yielded V a.tmps)=true then Oper.wp P o a w K Q else E:=by
 have p:Region.wanted o (yielded V a.tmps)=true:=by simp[Region.wanted,i]
 rw[a1 p];unfold Oper.wp;simp[execOp,c,resolve,invoke,builtin,k,l,m,Result.andThen];exact n
theorem Cg(b:Nat)(a:List Value)(o:Nat)(w:World)(h: ∀j,j<a.length->(w.cell? ⟨b,o+j,none⟩).isSome=true)(k:Nat)(c:(w.cell? ⟨b,k,none⟩).isSome=true):((w.setCells b o a).cell? ⟨b,k,none⟩).isSome=true:=by
 by_cases d:o<=k/\k<o+a.length
 ·have:=World.cell?_setCells_in b a o w h (k-o) O;rw[show o+(k-o)=k by omega] at this;rw[this];rfl
 rw[World.cell?_setCells_out b a o w ⟨b,k,none⟩ λ_ _=>by show k<o\/o+a.length<=k;omega];exact c
end runs
end Go.Lift
