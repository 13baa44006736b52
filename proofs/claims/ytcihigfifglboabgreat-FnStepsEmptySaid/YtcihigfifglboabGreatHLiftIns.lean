/- Tools. -/
import Derived.Test.YtcihigfifglboabGreatHLiftY
import Derived.Shelf.RegionOpenPlain
import Derived.Lib.Walk
import Derived.Lib.SliceRun
import Derived.Lib.JoinLaws
import Derived.Lib.AppendZeros
import Derived.Lib.AppendZerosOnto
import Derived.Lib.Overlaps
import Derived.Laws.Externs
import Derived.Laws.IdiomCopy
import Derived.Laws.CopyRow
import Derived.Deep.WholeRow
set_option linter.unusedVariables false
namespace Go.Lift
open Go
variable {b w:World}{o:Oper}{i n k sz m:Nat}{t e:TypeId}{G:fc}{X:Nat->Prop}{a:Act}{D:Map}{c vs:List Value}{f:FuncId}{z:Value}{K:Act->World->Prop}{Q:Exit->Act->World->Prop}
theorem x1{b o:Nat}{i:List Value}{d:Array Value}(e:w.heap[b]? =some (.cells d t (0,0)))(l:o+i.length<=d.size)(h: ∀v∈i,v.oneCell'=true):
  w.setCells b o i=w.setRow b (d.toList.take o++i++d.toList.drop (o+i.length)).toArray:=by
 have a:=run_storeCells_at (P:=(default:Program)) b o t i 0 d w e O h;have c:=run_storeCells_cells (P:=(default:Program)) b o i 0 w (λj k=>by
  have:o+j<d.size:=O
  simp[World.cell?,e,this]) (λj k=>by simp[World.frozen?,e]) h
 rw[a] at c;simp only[Nat.add_zero] at c;injection c with _ c;exact c.symm
theorem Di{P:Program}{d:World}{a out:List E}{T:Map}{c:S}{l:Act}{r:V}{u:Value}(x:Rel (Ctx.dI P G w X a.length T i) D c l d)(I:a.length<=out.length)
  (A:bn D d (own (Ctx.dI P G w X a.length T i) D c.H) r u) (p:r.ok (eZ out.length)=true) (y:lo c.H (eZ out.length) (eT out 0)): ∃B,Left T B a out w d X r u:=by
 let m:S:={t:=pv,H:=eT out 0,u:=eZ out.length}
 have o:mx a.length m.u=true:=by
  have: ∀n,n<=a.length->mx n m.u=true:=by
   intro n;induction n with
   |zero=>intro _;rfl
   |succ n C=>intro L;simp[mx,C O,show m.u n=true from iV.2 O]
  exact this _ (cO _)
 have bP:=x.cut (s':=m) (oN.nil _ _) y o;have eu:=Ea (K:=Ctx.dI P G w X a.length T i) (β:=D) (s:=c) (s':=m) y;refine⟨cut D m.u,?_⟩;refine⟨x.ext.weaken λb _ ⟨id,_,h⟩=>⟨id,h⟩,bP.base,bP.iM,?_,?_,bP.inj,bP.fresh,?_,A.under eu (λ_ h=>wT h) p⟩
 ·intro k F;apply bP.dK;cases q:m.u k with
  |false=>rfl
  |true=>have:=iV.1 q;omega
 ·intro k b F;apply bP.ec;cases q:m.u k with
  |false=>rfl
  |true=>have:=iV.1 q;omega
 intro k e z;exact(bP.heap k e (by rw[<-yr] at z;exact z)).2
structure y' (P:Program) (f:FuncId) (t e:TypeId) (sz:Nat) (i0:TypeInfo) (z:Value):Prop where
 nothing: ∀(base Dv:Option Addr) (n c i dI:Nat) (w:World),i<=n->n<=c->c<=9223372036854775807->Calls P f #[.slice base n c,.int .i64 i,.slice Dv 0 dI] w λe w'=>e= .returned (.slice base n c)/\w'=w
 tail: ∀(base Dv:Option Addr) (n c m dI:Nat) (w:World) (dw:Value) (w':World),0<m->n<=c->c<=9223372036854775807->(Builtin.append_ #[t,t] t #[.slice base n c,.slice Dv m dI]).run P w= .ok dw w'->
  Calls P f #[.slice base n c,.int .i64 n,.slice Dv m dI] w λe gy=>e= .returned dw/\gy=w'
 room: ∀(b n c i hK m dI:Nat) (cs vs:List Value) (w:World),i<n->0<m->n+m<=c->c<=9223372036854775807->hK≠b->cs.length=n*sz->vs.length=m*sz->
  (∀j v,cs[j]? =some v->w.cell? ⟨b,j,none⟩=some v)->(∀j,j<(n+m)*sz->(w.cell? ⟨b,j,none⟩).isSome=true)->(∀j,w.frozen? ⟨b,j,none⟩=false)->
  (∀j v,vs[j]? =some v->w.cell? ⟨hK,j,none⟩=some v)->(∀v∈cs,v.oneCell'=true)->(∀v∈vs,v.oneCell'=true)->
  ∀(ag' sV:TypeId) (fv P9:Nat),w.shape? hK=some (ag',fv)->w.shape? b=some (sV,P9)->P9≠0->(∀j,w.frozen? ⟨hK,j,none⟩=false)->
  Calls P f #[.slice (some ⟨b,0,none⟩) n c,.int .i64 i,.slice (some ⟨hK,0,none⟩) m dI] w λe w'=>
   e= .returned (.slice (some ⟨b,0,none⟩) (n+m) c)/\w'=(w.drew.setCells b ((i+m)*sz) (cs.drop (i*sz))).setCells b (i*sz) vs
 grow: ∀(b n c i hK m dI:Nat) (cs vs:List Value) (w:World),i<n->0<m->n<=c->c<n+m->n+m<=1000000000->(n+m)*i0.bytes<=140737488355328->cs.length=n*sz->vs.length=m*sz->
  (∀j v,cs[j]? =some v->w.cell? ⟨b,j,none⟩=some v)->(∀j v,vs[j]? =some v->w.cell? ⟨hK,j,none⟩=some v)->(∀v∈cs,v.oneCell'=true)->(∀v∈vs,v.oneCell'=true)->
  Calls P f #[.slice (some ⟨b,0,none⟩) n c,.int .i64 i,.slice (some ⟨hK,0,none⟩) m dI] w λe' w'=>
   e'= .returned (.slice (some ⟨w.heap.size,0,none⟩) (n+m) (grownCap w (n+m) c e))/\
   w'=(((w.alloc (.cells ((cs.take (i*sz)).toArray++Builtin.zeroCells z.cells (n+m-i)++Builtin.zeroCells z.cells (grownCap w (n+m) c e-(n+m))) e)).drew.setCells w.heap.size (i*sz) vs).drew).setCells w.heap.size ((i+m)*sz) (cs.drop (i*sz))
theorem MP{L:Nat}{s v:List (List T)}{a rest:List Value}(q:s.length=n)(r:i<=n)(w:a.length=n*L)(l:c.length=v.length*L)(m:Rows L s)(e:Rows L v){R:T->Value->Prop}
  (o: ∀(i j:Nat) (d:List T) (x:T) (u:Value),s[i]? =some d->d[j]? =some x->a[i*L+j]? =some u->R x u)
  (y: ∀(i j:Nat) (d:List T) (x:T) (u:Value),v[i]? =some d->d[j]? =some x->c[i*L+j]? =some u->R x u):
  ∀(k j:Nat) (d:List T) (x:T) (u:Value),(s.take i++v++s.drop i)[k]? =some d->d[j]? =some x->(a.take (i*L)++c++a.drop (i*L)++rest)[k*L+j]? =some u->R x u:=by
 have p:Rows L (s.take i):=λd h=>m d (ga h);have z:Rows L (s.drop i):=λd h=>m d (e7 h);have A:=dz L r;have B:=vJ (a.take (i*L)) c [] (rows:=s.take i) (news:=v) (n:=i) (size:=L) (by rw[cL];omega) (by rw[cL];omega) l p e (R:=R)
  (λk j d x u aK a2 a3=>by
   rw[fA] at aK a3;split at aK
   ·split at a3
    ·exact o k j d x u aK a2 a3
    cases a3
   cases aK) y
 have fF:=vJ (a.take (i*L)++c) (a.drop (i*L)) rest (rows:=s.take i++v) (news:=s.drop i) (n:=i+v.length) (size:=L) (by rw[dD,cL];omega)
  (by rw[dD,cL,l,dn];omega) (by rw[fq,fq,w,q,tc]) (λd h=>by
   rcases dZ.1 h with h|h
   ·exact p d h
   exact e d h) z (R:=R) (λk j d x u aK a2 a3=>B k j d x u aK a2 (by simpa using a3))
  (λk j d x u aK a2 a3=>by
   rw[fT] at aK a3;refine o (i+k) j d x u aK a2 ?_;rw[dn,pH];exact a3)
 intro k j d x u aK a2 a3;exact fF k j d x u aK a2 (by simpa using a3)
theorem Kx{b size c:Nat}{a:Array Value}(e:w.heap[b]? =some (.cells a t (0,0))): ∀j v,(a.toList.take (n*size))[j]? =some v->w.cell? ⟨b,j,none⟩=some v:=by
 intro j v d;rw[fA] at d;split at d
 ·simp only[World.cell?,e];simpa using d
 cases d
theorem F3{gen:Nat}{a:List (List T)}{x:Value}(B:cG D w X k (.arr e gen sz a))(F:bn D w X (.bc k gen sz 0 a.length) x):
  (x= .slice none 0 0/\a=[]/\D k=some (none,gen))\/ ∃(b c:Nat) (d:Array Value),x= .slice (some ⟨b,0,none⟩) a.length c/\D k=some (some b,gen)/\w.heap[b]? =some (.cells d e (0,0))/\d.size=c*sz/\a.length<=c/\c<=maxLen/\
   ∀(i j:Nat) (l:List T) (y:T) (u:Value),a[i]? =some l->l[j]? =some y->(d.toList.take (a.length*sz))[i*sz+j]? =some u->cX w X y u:=by
 obtain⟨q,m⟩:=je B;rcases fa F m with ⟨c,b,n,G,rfl,rfl,Q,h,r,H,s⟩|⟨rfl,_,z,rfl⟩
 ·rcases B.2 with ⟨o,_⟩|⟨R,d,o,C,U,W,I⟩
  ·rw[m] at o;cases o
  rw[m] at o;cases o;have A:d.size=c*sz:=by
   unfold World.shape? at h;rw[C] at h;simp at h;rw[<-r] at h;rw[dr] at h;exact h.2
  refine .inr ⟨b,c,d,by rw[f'],m,C,A,H,s,λi j l y u K L p=>?_⟩;rw[fA] at p;split at p
  ·exact I i j l y u K L (by simpa using p)
  cases p
 exact .inl ⟨rfl,kI z,m⟩
theorem K7{a:List (List T)}(h:0<sz)(n:Rows sz a)(o:c.length=a.length*sz)
  (p: ∀(i j:Nat) (d:List T) (y:T) (u:Value),a[i]? =some d->d[j]? =some y->c[i*sz+j]? =some u->cX w X y u): ∀v∈c,v.oneCell'=true:=by
 intro v q;obtain⟨k,l⟩:=kc.1 q;have e:k<a.length*sz:=by rw[<-o];exact(bS.1 l).1
 have m:k / sz<a.length:=(vq h).2 e;have r:k%sz<(a[k / sz]).length:=by rw[n _ (fz m)];exact Nat.mod_lt _ h
 exact(p (k / sz) (k%sz) _ ((a[k / sz])[k%sz]) v (bs m) (bs r) (by rw[Nat.div_add_mod'];exact l)).iK
theorem ZS{cur cs:List Value}{a:Nat}(l:a<=k)(d:cs=cur.take k)(n:vs.length=m)(o:k+m<=cur.length):
  let c:=cur.take (a+m)++cs.drop a++cur.drop (a+m+(cs.drop a).length)
  c.take a++vs++c.drop (a+vs.length)=cs.take a++vs++cs.drop a++cur.drop (k+m):=by
 intro c;have e:cs.length=k:=by rw[d,cL];omega
 have h:c.take a=cs.take a:=by
  show((cur.take (a+m)++cs.drop a)++_).take a=_;rw[ih,pE (by rw[cL];omega),List.take_take,d,List.take_take];congr 1;omega
 have i:c.drop (a+vs.length)=cs.drop a++cur.drop (k+m):=by
  show((cur.take (a+m)++cs.drop a)++_).drop _=_;rw[ih,C8 (by rw[cL];omega),kJ (by rw[cL];omega),s4];congr 2;rw[fq];omega
 rw[h,i];simp
theorem ZR{A0 ds:List Value}{a:Nat}{p:List Value}{q:List Value}(e:A0=p++q)(k:p.length=a)(l:vs.length=m)(n:a+m+ds.length<=A0.length):
  let c:=A0.take a++vs++A0.drop (a+vs.length)
  c.take (a+m)++ds++c.drop (a+m+ds.length)=p++vs++ds++A0.drop (a+m+ds.length):=by
 intro c;have d:A0.take a=p:=by rw[e,pE O,ji O]
 have h:c.take (a+m)=p++vs:=by
  show((A0.take a++vs)++_).take _=_;rw[d,pE (by rw[dD];omega),ji (by rw[dD];omega)]
 have i:c.drop (a+m+ds.length)=A0.drop (a+m+ds.length):=by
  show((A0.take a++vs)++_).drop _=_;rw[d,List.drop_append,kJ (by rw[dD];omega),s4,List.drop_drop,dD];congr 1;omega
 rw[h,i]
theorem aaZ{P:Program}{QY:TypeDesc}{i0:TypeInfo}(call:i' P f)(raw:y' P f t e sz i0 z)(hu:P.underlying t=some (.slice e))(Hs:P.info? e=some i0)(PZ:i0.zero=some z)(qs:z.cells.size=sz)(qp:i0.size=sz)
  (adR:P.underlying e=some QY) (hp:0<sz) (acJ:i0.bytes<=140000) (s v R:List (List T)) (i r lE:Nat) (aI:i<=s.length) (qo:app (s.take i++v) (s.drop i)=some R) (hs:Rows sz s) (kZ:Rows sz v):
  iT P G f [.arr e r sz s,.arr e lE sz v] [.bc 0 r sz 0 s.length,.t (.int .i64 i),.bc 1 lE sz 0 v.length] (.bc 0 (r+1) sz 0 R.length) [.arr e (r+1) sz R,.arr e lE sz v]:=by
 have N:s.length+v.length<=1000000000/\R=s.take i++v++s.drop i:=by
  unfold app at qo;split at qo
  ·rename_i h;simp at h;refine⟨O,by cases qo;rfl⟩
  cases qo
 obtain⟨N,uq⟩:=N;have W:R.length=s.length+v.length:=by rw[uq];simp;omega
 have Ps: ∀A,A∈R->A.length=sz:=λA h=>by
  rw[uq] at h;rcases dZ.1 h with h|h
  ·rcases dZ.1 h with h|h
   ·exact hs A (ga h)
   exact kZ A h
  exact hs A (e7 h)
 have hbig:(s.length+v.length)*i0.bytes<=140737488355328:=gw (nA N acJ) (by decide);have hm':s.length+v.length<=maxLen:=by unfold maxLen;omega
 have acD:cd P e QY z sz i0.bytes:=⟨adR,i0,Hs,PZ,qp,rfl⟩
 refine⟨call,?_⟩;intro w X C us kV hd kx fO;have adb:us.length=3:=fO.length;obtain⟨hQ,gb,ik,rfl⟩: ∃a b c,us=[a,b,c]:=by
  match us,adb with
  | [a,b,c],_=>exact⟨a,b,c,rfl⟩
 have h0:=Rel.lR (P:=P) (nt:=3) kV hd kx fO (cO _);obtain⟨sp,sq,PY,_⟩:=fO;obtain rfl:gb= .int .i64 i:=by
  cases sq with|t _ _ h=>cases h;rfl
 generalize Hj:({tmps:=[hQ,Value.int .i64 i,ik].toArray++Array.replicate (3-[hQ,Value.int .i64 i,ik].toArray.size) undef,defers:=[]}:Act)=act at h0;generalize mg:Ctx.dI P G w X [E.arr e r sz s,E.arr e lE sz v].length C 3=K at h0;have Hc:K.P=P:=by rw[<-mg];rfl
 have sc:K.X=X:=by rw[<-mg];rfl
 generalize kW:Lift.lR [E.arr e r sz s,E.arr e lE sz v] [V.bc 0 r sz 0 s.length,V.t (.int .i64 i),V.bc 1 lE sz 0 v.length]=L at h0;have Y:L.H 0=some (.arr e r sz s):=by rw[<-kW];rfl
 have acx:L.H 1=some (.arr e lE sz v):=by rw[<-kW];rfl
 have xn:L.H=eT [E.arr e r sz s,E.arr e lE sz v] 0:=by rw[<-kW];rfl
 have HJ:own K C L.H=lP X C (eT [E.arr e r sz s,E.arr e lE sz v] 0):=by funext b;rw[xn];show(K.X b\/_)=_;rw[sc];rfl
 rw[<-HJ] at sp PY;have sb:aU L.H 0 (some (.arr e (r+1) sz R))=eT [E.arr e (r+1) sz R,E.arr e lE sz v] 0:=by
  rw[xn];funext j
  match j with
  |0=>rfl
  |j+1=>rfl
 have fin: ∀(β':Map) (w':World) (x:Value),Rel K β' {L with H:=aU L.H 0 (some (.arr e (r+1) sz R))} act w'->bn β' w' (own K β' (aU L.H 0 (some (.arr e (r+1) sz R)))) (.bc 0 (r+1) sz 0 R.length) x->
   ∃u,∃_i:Unit,∃β,Ending.returned x= .returned u/\True/\Left C β [E.arr e r sz s,E.arr e lE sz v] [E.arr e (r+1) sz R,E.arr e lE sz v] w w' X (.bc 0 (r+1) sz 0 R.length) u:=by
  intro β' w' x b7 bI;subst mg;obtain⟨β,ss⟩:=Di (out:=[E.arr e (r+1) sz R,E.arr e lE sz v]) b7 (cO _) bI rfl (by
   intro id e0 BJ;refine⟨⟨e0,?_,jm.refl _⟩,?_⟩
   ·show aU L.H 0 _ id=_;rw[sb];exact BJ
   match id with
   |0=>cases BJ;exact⟨rfl,rfl⟩
   |1=>cases BJ;exact⟨rfl,rfl⟩
   |k+2=>cases BJ)
  exact⟨x,(),β,rfl,trivial,ss⟩
 have iC:=(h0.heap 0 _ Y).2.1;have oO:=F3 (h0.heap 0 _ Y).2 sp;have JM:=F3 (h0.heap 1 _ acx).2 PY;have BE:L.H 0≠none:=by rw[Y];simp
 by_cases uz:v=[]
 ·have Pt:R=s:=by rw[uq,uz];simp
  have run: ∀Q8,(∃hK dI,Q8=Value.slice hK 0 dI)->Calls P f #[hQ,.int .i64 i,Q8] w λe w'=>e= .returned hQ/\w'=w:=by
   rintro _ ⟨hK,dI,rfl⟩;rcases oO with ⟨rfl,h1,_⟩|⟨b,F,o,rfl,_,_,_,cD,bP,_⟩
   ·subst h1
    have:i=0:=by simpa using aI
    subst this;exact raw.nothing none hK 0 0 0 dI w (cO _) (cO _) (by decide)
   exact raw.nothing (some ⟨b,0,none⟩) hK s.length F i dI w aI cD (by unfold maxLen at bP;omega)
  refine(run ik ?_).mono ?_
  ·rcases JM with ⟨rfl,_,_⟩|⟨b,F,o,rfl,_⟩
   ·exact⟨_,_,rfl⟩
   exact⟨_,_,by rw[uz];rfl⟩
  rintro e1 gy ⟨rfl,rfl⟩;obtain⟨oo,Q⟩:=je (h0.heap 0 _ Y).2;have a':=h0.bump 0 e r sz s oo Q Y;rw[<-Pt] at a';refine fin _ _ _ a' ?_;rw[Pt];rcases fa sp Q with ⟨xa,b,n,hn,rfl,ku,hw,h8,sj,cD,mi⟩|⟨ku,_,Hz,rfl⟩
  ·subst ku;exact .bc 0 (r+1) sz 0 _ xa b n hn O (iY _ _ _) hw h8 sj cD mi
  subst ku;rw[Hz];exact .hh 0 (r+1) sz O (iY _ _ _)
 have BS:0<v.length:=List.length_pos_iff.2 uz;rcases JM with ⟨_,h1,_⟩|⟨hK,dI,d,rfl,adC,Hr,af8,adh,sg,kY⟩
 ·exact bB h1 uz
 have D:(d.toList.take (v.length*sz)).length=v.length*sz:=by
  have:=dz sz adh;rw[cL];simp;omega
 have oY:=K7 hp kZ D kY;have uA:=Kx (size:=sz) (n:=v.length) Hr (c:=0);by_cases kx:i=s.length
 ·have acC:R=s++v:=by rw[uq,kx];simp
  have adL:Src w (own K C L.H) sz v (.slice (some ⟨hK,0,none⟩) v.length dI):=
   .inr ⟨hK,0,dI,d.toList.take (v.length*sz),rfl,D,λj x hj=>by rw[dr];exact uA j x hj,oY,kY⟩
  obtain⟨dw,w',β',g1,g2,g3⟩:=h0.append 0 s v Y t (by rw[Hc];exact hu) (by rw[Hc];exact acD) qs hs kZ _ _ sp (.inl adL) hbig hm';rw[Hc] at g1;rw[<-acC] at g2 g3;rw[<-W] at g3;have run:Calls P f #[hQ,.int .i64 i,.slice (some ⟨hK,0,none⟩) v.length dI] w λe gy=>e= .returned dw/\gy=w':=by
   rcases oO with ⟨rfl,h1,_⟩|⟨b,F,o,rfl,_,_,_,cD,bP,_⟩
   ·subst h1;subst kx;exact raw.tail none _ 0 0 _ _ w dw w' BS (cO _) (by decide) g1
   subst kx;exact raw.tail _ _ s.length F _ _ w dw w' BS cD (by unfold maxLen at bP;omega) g1
  refine run.mono ?_;rintro e1 gy ⟨rfl,rfl⟩;exact fin _ _ _ g2 g3
 have Ht:i<s.length:=O
 rcases oO with ⟨_,h1,_⟩|⟨b,F,o,rfl,Q,o0,BG,PF,PH,HN⟩
 ·subst h1;simp at Ht
 have hne:hK≠b:=λe0=>by
  subst e0
  have:=h0.inj 0 1 hK (.inl ⟨_,Q⟩) (.inl ⟨_,adC⟩);omega
 have U:(o.toList.take (s.length*sz)).length=s.length*sz:=by
  have:=dz sz PF;rw[cL];simp;omega
 have G8:=K7 hp hs U HN;have kX:=Kx (size:=sz) (n:=s.length) o0 (c:=0);have ac4:i*sz<=s.length*sz:=dz sz aI;have nj:((o.toList.take (s.length*sz)).drop (i*sz)).length=(s.length-i)*sz:=by rw[fq,U,tc]
 have Ph: ∀y∈(o.toList.take (s.length*sz)).drop (i*sz),y.oneCell'=true:=λy hy=>G8 y (e7 hy);have S:(i+v.length)*sz+(s.length-i)*sz=(s.length+v.length)*sz:=by rw[<-dn];congr 1;omega
 have uw: ∀y u,cX w (own K C L.H) y u->cX w.drew (own K C L.H) y u:=λy u h=>h.mono (Ext.drew _ _) λ_ _ h=>h;by_cases PT:s.length+v.length<=F
 ·have nk:(s.length+v.length)*sz<=o.size:=by rw[BG];exact dz sz PT
  refine(raw.room b s.length F i hK v.length dI _ _ w Ht BS PT (by unfold maxLen at PH;omega) hne U D kX (λj hj=>?_) (λj=>by simp[World.frozen?,o0]) uA G8 oY e e d.size o.size
   (by unfold World.shape?;rw[Hr]) (by unfold World.shape?;rw[o0]) ?_ λj=>by simp[World.frozen?,Hr]).mono ?_
  ·have:j<o.size:=O
   simp[World.cell?,o0,this]
  ·have:0<(s.length+v.length)*sz:=Nat.mul_pos O hp;omega
  rintro e1 gy ⟨rfl,B⟩;have xq:w.drew.heap[b]? =some (.cells o e (0,0)):=o0;rw[x1 xq (by rw[nj,S];exact nk) Ph] at B;rw[x1 (setRow_heap _ _ _ _ _ _ xq) (by
   rw[D]
   have:i*sz+v.length*sz<=(s.length+v.length)*sz:=by rw[<-dn];exact dz sz O
   have h2: ∀l:List Value,l.toArray.size=l.length:=λl=>aW
   rw[h2];simp only[List.length_append,List.length_take,List.length_drop,nj];simp;omega) oY,setRow_setRow] at B
  have xA:=ZS (cur:=o.toList) (cs:=o.toList.take (s.length*sz)) (vs:=d.toList.take (v.length*sz)) (a:=i*sz) (m:=v.length*sz) (k:=s.length*sz) ac4 rfl D (by rw[<-dn];simpa using nk);rw[<-dn,<-dn] at xA;simp only at B;rw[xA] at B;generalize xo:(o.toList.take (s.length*sz)).take (i*sz)++d.toList.take (v.length*sz)++(o.toList.take (s.length*sz)).drop (i*sz)++o.toList.drop ((s.length+v.length)*sz)=l8 at B;have ur:l8.toArray.size=o.size:=by
   rw[<-xo];have h2: ∀l:List Value,l.toArray.size=l.length:=λl=>aW
   rw[h2];simp only[List.length_append,D,nj,List.length_drop];rw[cL,U];have h3:i*sz+(s.length-i)*sz=s.length*sz:=by rw[<-dn];congr 1;omega
   have h4:(s.length+v.length)*sz=s.length*sz+v.length*sz:=dn _ _ _;simp only[Array.length_toList];omega
  have hrel:=(vN h0).setRow 0 b (.inl ⟨_,Q⟩) o e xq l8.toArray ur (.arr e r sz R) BE
   ⟨iC,Or.inr ⟨b,_,Q,setRow_heap _ _ _ _ _ _ xq,by rw[ur,W];exact nk,Ps,λk j A x u aK a2 a3=>by
    have h9:=MP (rest:=o.toList.drop ((s.length+v.length)*sz)) rfl aI U D hs kZ (R:=λx u=>cX w.drew (own K C L.H) x u) (λk j A x u cU cu eQ=>uw _ _ (HN k j A x u cU cu eQ)) (λk j A x u cU cu eQ=>uw _ _ (kY k j A x u cU cu eQ)) k j A x u (by rw[<-uq];exact aK) a2 (by rw[xo];simpa using a3);refine h9.mono ⟨rfl,rfl,rfl,aW,λkk _ hx=>setRow_other _ _ _ _ λe0=>hx ?_⟩ λ_ _ h=>h;subst e0;exact .inr ⟨0,BE,.inl ⟨_,Q⟩⟩⟩⟩
  have g:=hrel.bump 0 e r sz R (some b) Q (show aU L.H 0 (some (.arr e r sz R)) 0=some (.arr e r sz R) from bW _ _ _);have xl:aU (aU L.H 0 (some (.arr e r sz R))) 0 (some (.arr e (r+1) sz R))=aU L.H 0 (some (.arr e (r+1) sz R)):=by
   funext j;by_cases hj:j=0
   ·subst hj;rw[bW,bW]
   rw[bX _ _ _ _ hj,bX _ _ _ _ hj,bX _ _ _ _ hj]
  simp only[xl] at g;rw[<-B] at g;refine fin _ _ _ g ?_;have h':bn (C.put 0 (some (some b,r+1))) gy (own K (C.put 0 (some (some b,r+1))) (aU L.H 0 (some (.arr e (r+1) sz R)))) (.bc 0 (r+1) sz 0 R.length) (.slice (some ⟨b,0*sz,none⟩) R.length F):=by
   refine .bc 0 (r+1) sz 0 _ F b (F*sz) e O (iY _ _ _) ?_ ?_ (by rw[dr]) O PH
   ·rw[B,setRow_size];exact(jh.1 o0).1
   unfold World.shape?;rw[B,setRow_heap _ _ _ _ _ _ xq];simp only[ur,BG]
  rw[f',W] at h';rw[W];exact h'
 refine(raw.grow b s.length F i hK v.length dI _ _ w Ht BS PF O N hbig U D kX uA G8 oY).mono ?_;rintro e1 gy ⟨rfl,B⟩;generalize Po:grownCap w (s.length+v.length) F e=l6 at B;have Hb:s.length+v.length<=l6:=by rw[<-Po];exact grownCap_ge w _ _ _
 have acw:l6<=maxLen:=by rw[<-Po];exact grownCap_le_maxLen w _ _ _ hm'
 generalize Pj:(((o.toList.take (s.length*sz)).take (i*sz)).toArray++Builtin.zeroCells z.cells (s.length+v.length-i)++Builtin.zeroCells z.cells (l6-(s.length+v.length)):Array Value)=I at B;have BQ:((o.toList.take (s.length*sz)).take (i*sz)).length=i*sz:=by rw[cL,U];omega
 have xk:I.size=l6*sz:=by
  rw[<-Pj];simp only[Array.size_append,List.size_toArray,size_zeroCells,qs,BQ,<-Nat.add_mul];congr 1;omega
 have acm:I.toList.length=l6*sz:=by rw[<-xk];simp
 have HP:(s.length+v.length)*sz<=l6*sz:=dz sz Hb;have PA:((w.alloc (.cells I e)).drew).heap[w.heap.size]? =some (.cells I e (0,0)):=jr w _;have M:i*sz+(d.toList.take (v.length*sz)).length<=I.size:=by
  rw[D,xk]
  have:i*sz+v.length*sz<=(s.length+v.length)*sz:=by rw[<-dn];exact dz sz O
  omega
 rw[x1 PA M oY] at B;have acW:=setRow_heap ((w.alloc (.cells I e)).drew) w.heap.size I (I.toList.take (i*sz)++d.toList.take (v.length*sz)++I.toList.drop (i*sz+(d.toList.take (v.length*sz)).length)).toArray e (0,0) PA;have hg2:((((w.alloc (.cells I e)).drew).setRow w.heap.size (I.toList.take (i*sz)++d.toList.take (v.length*sz)++I.toList.drop (i*sz+(d.toList.take (v.length*sz)).length)).toArray).drew).heap[w.heap.size]? =_:=acW;have xE:(I.toList.take (i*sz)++d.toList.take (v.length*sz)++I.toList.drop (i*sz+(d.toList.take (v.length*sz)).length)).length=l6*sz:=by
  simp only[List.length_append,List.length_take,List.length_drop];simp only[Array.length_toList,xk];rw[cL] at D M;rw[xk] at M;omega
 rw[x1 hg2 (by
  rw[nj,S];have h2: ∀l:List Value,l.toArray.size=l.length:=λl=>aW
  rw[h2,xE];exact HP) Ph] at B
 have xA:=ZR (A0:=I.toList) (ds:=(o.toList.take (s.length*sz)).drop (i*sz)) (vs:=d.toList.take (v.length*sz)) (a:=i*sz) (m:=v.length*sz) (p:=(o.toList.take (s.length*sz)).take (i*sz))
  (q:=(Builtin.zeroCells z.cells (s.length+v.length-i)).toList++(Builtin.zeroCells z.cells (l6-(s.length+v.length))).toList) (by rw[<-Pj];simp) BQ D (by
   rw[nj,<-dn,S,acm];exact HP)
 rw[<-dn] at xA;simp only at B;rw[xA] at B;generalize xo:(o.toList.take (s.length*sz)).take (i*sz)++d.toList.take (v.length*sz)++(o.toList.take (s.length*sz)).drop (i*sz)++I.toList.drop ((i+v.length)*sz+((o.toList.take (s.length*sz)).drop (i*sz)).length)=l8 at B;have xB:gy=(w.drew.drew).alloc (.cells l8.toArray e):=by
  rw[B];have h3:((((w.alloc (.cells I e)).drew).setRow w.heap.size (I.toList.take (i*sz)++d.toList.take (v.length*sz)++I.toList.drop (i*sz+(d.toList.take (v.length*sz)).length)).toArray).drew).setRow w.heap.size l8.toArray=(((w.drew.drew).alloc (.cells I e)).setRow w.heap.size (I.toList.take (i*sz)++d.toList.take (v.length*sz)++I.toList.drop (i*sz+(d.toList.take (v.length*sz)).length)).toArray).setRow w.heap.size l8.toArray:=rfl;rw[h3,setRow_setRow];exact World.setRow_alloc_new (w.drew.drew) I l8.toArray e
 have ur:l8.toArray.size=l6*sz:=by
  rw[<-xo];have h2: ∀l:List Value,l.toArray.size=l.length:=λl=>aW
  rw[h2];simp only[List.length_append,BQ,D,nj,List.length_drop,Array.length_toList,xk];rw[S];have h3:i*sz+(s.length-i)*sz=s.length*sz:=by rw[<-dn];congr 1;omega
  have h4:(s.length+v.length)*sz=s.length*sz+v.length*sz:=dn _ _ _;omega
 have sg:=(vN (vN h0)).move 0 e r sz s Y l8.toArray R (by rw[ur,W];exact HP) Ps (λk j A x u aK a2 a3=>by
  have h9:=MP (rest:=I.toList.drop ((i+v.length)*sz+((o.toList.take (s.length*sz)).drop (i*sz)).length)) rfl aI U D hs kZ (R:=λx u=>cX w.drew.drew (own K C L.H) x u)
   (λk j A x u cU cu eQ=>(uw _ _ (HN k j A x u cU cu eQ)).mono (Ext.drew _ _) λ_ _ h=>h) (λk j A x u cU cu eQ=>(uw _ _ (kY k j A x u cU cu eQ)).mono (Ext.drew _ _) λ_ _ h=>h) k j A x u (by rw[<-uq];exact aK) a2 (by rw[xo];simpa using a3)
  exact h9)
 rw[<-xB] at sg;refine fin _ _ _ sg ?_;have agk:(w.drew.drew).heap.size=w.heap.size:=rfl;have qq:=jr (w.drew.drew) (.cells l8.toArray e);have h':bn (C.put 0 (some (some (w.drew.drew).heap.size,r+1))) gy (own K (C.put 0 (some (some (w.drew.drew).heap.size,r+1))) (aU L.H 0 (some (.arr e (r+1) sz R)))) (.bc 0 (r+1) sz 0 R.length) (.slice (some ⟨w.heap.size,0*sz,none⟩) R.length l6):=by
  refine .bc 0 (r+1) sz 0 _ l6 w.heap.size (l6*sz) e O (iY _ _ _) ?_ ?_ (by rw[dr]) O acw
  ·rw[xB];simp
  unfold World.shape?;rw[xB];rw[show((w.drew.drew).alloc (.cells l8.toArray e)).heap[w.heap.size]? =some (.cells l8.toArray e) from qq];simp only[ur]
 rw[f',W] at h';rw[W];exact h'
theorem NJ{P:Program}{u:TypeDesc}{a:TypeInfo}(d:i' P f)(q:y' P f t e n a z)(D:P.underlying t=some (.slice e))(r:P.info? e=some a)(w:a.zero=some z)(y:z.cells.size=n)(A:a.size=n)
  (B:P.underlying e=some u) (F:0<n) (C:a.bytes<=140000) {k:Type} (c:k->List T) (l: ∀x,(c x).length=n) (s v R:List k) (i m p:Nat) (H:i<=s.length) (o:app (s.take i++v) (s.drop i)=some R):
  iT P G f [aG e m n c s,aG e p n c v] [ms 0 m n c s,.t (.int .i64 i),ms 1 p n c v] (ms 0 (m+1) n c R) [aG e (m+1) n c R,aG e p n c v]:=by
 refine aaZ d q D r w y A B F C (s.map c) (v.map c) (R.map c) i m p (by simpa using H) ?_ (Rows.map s l) (Rows.map v l);unfold app at o⊢;simp only[List.length_append,List.length_take,List.length_drop,List.length_map] at o⊢;split at o
 ·rename_i h;rw[a1 h];cases o;simp[List.map_append,List.map_take,List.map_drop]
 cases o
section runs
variable {P:Program}
open Go.RowKit Go.Lib
theorem qK(w:World)(s y z c:TypeId)(k b o d l:Nat)(a:Addr)(e n m:Nat)(h:List Value)
  (A:P.underlying s=some (.slice c)) (x:(P.info? c).map (·.size)=some k) (B:m=Nat.min e d) (C:h.length=m*k)
  (p: ∀j v,h[j]? =some v->w.cell? (a.add j)=some v) (D: ∀j,j<h.length->(w.cell? ⟨b,o+j,none⟩).isSome=true) (F: ∀j,j<h.length->w.frozen? ⟨b,o+j,none⟩=false) (G: ∀v∈h,v.oneCell'=true):
  (Builtin.copy_ #[s,y] z #[.slice (some ⟨b,o,none⟩) d l,.slice (some a) e n]).run P w= .ok (goInt m) (w.setCells b o h):=by
 have cD:=run_loadCells_list (P:=P) w a h p;have q:=run_storeCells_cells (P:=P) b o h 0 w (by simpa using D) (by simpa using F) G;cases r:P.info? c with
 |none=>simp[r] at x
 |some i=>
  have H:i.size=k:=by simpa[r] using x
  simp[Builtin.copy_,run_underlying A,Builtin.lenOf,Builtin.firstCells,sizeOf,typeInfo,r,H,<-B,<-C,cD,q]
theorem TI(w:World)(d s:Operand)(t c:TypeId)
  (e:o.op= .call {callee:= .builtin .copy,args:= #[d,s],argTypes:= #[t,c]}) (v u:Value) (i:a.eval d=v) (k:a.eval s=u)  
  (l:(Builtin.copy_ #[t,c] o.type #[v,u]).run P w= .ok z b) (h:K (a.put o.dst z) b):o.wp P a w K Q:=by unfold Oper.wp execOp;simp only[e,resolve,invoke,builtin,Sem.run_bind,Sem.run_pure,Result.andThen_ok,List.map_toArray,List.map_cons,List.map_nil,i,k,l];exact h
theorem um(w:World){V:Array Oper}{l:List Oper}(c:o.guard=none)(d s:Operand)(t e:TypeId)
  (i:o.op= .call {callee:= .builtin .copy,args:= #[d,s],argTypes:= #[t,e]}) (v u:Value) (k:a.eval d=v) (m:a.eval s=u)  
  (n:(Builtin.copy_ #[t,e] o.type #[v,u]).run P w= .ok z b) (h:wpList P V Q l (a.put o.dst z) b):wpList P V Q (o::l) a w:=
 wpList_plain c λ_ p=>TI w d s t e i v u k m n (p _ _ h)
theorem Cq{V:Array Oper}{E:Prop}
  (i:o.guard=none) (d x:Operand) (e h:TypeId) (c:o.op=Op.call {callee:=Callee.builtin Builtin.copy,args:= #[d,x],argTypes:= #[e,h]})
  (v u:Value) (k:a.eval d=v) (l:a.eval x=u)   (m:(Builtin.copy_ #[e,h] o.type #[v,u]).run P w= .ok z b) (n:K (a.put o.dst z) b):
  if Region.wanted o (yielded V a.tmps)=true then Oper.wp P o a w K Q else E:=by
 have p:Region.wanted o (yielded V a.tmps)=true:=by simp[Region.wanted,i]
 rw[a1 p];unfold Oper.wp;simp[execOp,c,resolve,invoke,builtin,k,l,m,Result.andThen];exact n
theorem Cb(b:Nat)(a:List Value)(o:Nat)(w:World)(h: ∀j,j<a.length->(w.cell? ⟨b,o+j,none⟩).isSome=true)(k:Nat)(c:(w.cell? ⟨b,k,none⟩).isSome=true):((w.setCells b o a).cell? ⟨b,k,none⟩).isSome=true:=by
 by_cases d:o<=k/\k<o+a.length
 ·have:=World.cell?_setCells_in b a o w h (k-o) O;rw[show o+(k-o)=k by omega] at this;rw[this];rfl
 rw[World.cell?_setCells_out b a o w ⟨b,k,none⟩ λ_ _=>by show k<o\/o+a.length<=k;omega];exact c
end runs
end Go.Lift
