/- Tools. -/
import Derived.Test.YtbgbodhagkdffaaGreatDoorSLiftWW
import Derived.Shelf.RegionOpenPlain
import Derived.Lib.Walk
import Derived.Lib.SliceRun
import Derived.Lib.JoinLaws
import Derived.Lib.AppendZerosOnto
import Derived.Lib.Overlaps
import Derived.Deep.WholeRow
set_option linter.unusedVariables false
namespace Go.Lift
open Go
open Go renaming Value -> bm, World -> bY, TypeId -> bM, Program -> ee, Calls -> hQ, setRow_heap -> kS, run_storeCells_cells -> XM
open Option renaming some -> Y, none -> al
open Bool renaming true -> I
open List renaming length_append -> fH, length_take -> mv, length_drop -> nT, length -> U
open Go.Builtin renaming zeroCells -> fL
open Go.World renaming shape? -> iV
variable {K:Ctx}{β:Map}{s:S}{a:Act}{w b:bY}{o:Oper}{e t:bM}{G:gC}{X:Nat->Prop}{c vs:List bm}{L m n k sz:Nat}{f:FuncId}{z:bm}{Q:Exit->Act->bY->Prop}
theorem Rel.move(h:Rel K β s a w)(k:Nat)(o:bM)(g_ d:Nat)(l:List (List T))(z:s.H k=Y (.arr o g_ d l))(m:Array bm)(c:List (List T))
  (n:U c*d<=m.size) (q: ∀e,e∈c->U e=d) (r: ∀(i j:Nat) (e:List T) (x:T) (u:bm),c[i]? =Y e->e[j]? =Y x->m[i*d+j]? =Y u->ei w (own K β s.H) x u):
  Rel K (β.put k (Y (Y w.heap.size,g_+1))) {s with H:=bw s.H k (Y (.arr o (g_+1) d c))} a (w.alloc (.cells m o)):=
 h.W5 k _ _ g_ z rfl m o (λA F G B C _ _ y _=>by subst B;exact⟨O,.inr ⟨w.heap.size,m,C,kY _ _,n,q,λi j e x u aW a2 a3=>y _ _ (r i j e x u aW a2 a3)⟩⟩)
theorem Rel.bump(h:Rel K β s a w)(k:Nat)(r:bM)(g_ c:Nat)(d:List (List T))(q:Option Nat)(l:β k=Y (q,g_))(m:s.H k=Y (.arr r g_ c d)):
  Rel K (β.put k (Y (q,g_+1))) {s with H:=bw s.H k (Y (.arr r (g_+1) c d))} a w:=
 h.MI k _ _ g_ q l (h.heap k _ m).2.1 m (λz L y _ _ A=>by
  refine⟨O,?_⟩;rcases(h.heap k _ m).2.2 with ⟨e,n⟩|⟨b,B,e,n,C,F,G⟩
  ·rw[l] at e;cases e;exact .inl ⟨y,n⟩
  rw[l] at e;cases e;exact .inr ⟨b,B,y,n,C,F,λi j o x u aW a2 a3=>(G i j o x u aW a2 a3).mono (Ext.refl _ _) λb _=>A b⟩)
theorem CE{b o:Nat}{i:List bm}{d:Array bm}(h:w.heap[b]? =Y (.cells d e (0,0)))(m:o+U i<=d.size)(k: ∀v∈i,v.oneCell'=I):
  w.setCells b o i=w.setRow b (d.toList.take o++i++d.toList.drop (o+U i)).toArray:=by
 have a:=run_storeCells_at (P:=(default:ee)) b o e i 0 d w h O k;have c:=XM (P:=(default:ee)) b o i 0 w (λj l=>by
  have:o+j<d.size:=O
  simp[World.cell?,h,this]) (λj l=>by simp[World.frozen?,h]) k
 rw[a] at c;simp only[Nat.add_zero] at c;injection c with _ c;exact c.symm
theorem Jl{P:ee}{l:bY}{a out:List E}{d c:Map}{i:S}{m:Act}{r:V}{u:bm}(z:Rel (Ctx.eZ P G w X (U a) d L) c i m l)(W:U a<=U out)
  (C:bI c l (own (Ctx.eZ P G w X (U a) d L) c i.H) r u) (x:r.ok (gI (U out))=I) (A:nY i.H (gI (U out)) (gx out 0)): ∃F,Left d F a out w l X r u:=by
 let o:S:={t:=r',H:=gx out 0,u:=gI (U out)}
 have q:pa (U a) o.u=I:=by
  have: ∀n,n<=U a->pa n o.u=I:=by
   intro n;induction n with
   |zero=>intro _;rfl
   |succ n Q=>intro f;simp[pa,Q O,show o.u n=I from kZ.2 O]
  exact this _ (dV _)
 have ch:=z.cut (s':=o) (re.nil _ _) A q;have eI:=JD (K:=Ctx.eZ P G w X (U a) d L) (β:=c) (s:=i) (s':=o) A;refine⟨cut c o.u,?_⟩;refine⟨z.ext.weaken λb _ ⟨id,_,h⟩=>⟨id,h⟩,ch.base,ch.j',?_,?_,ch.inj,ch.fresh,?_,C.under eI (λ_ h=>A8 h) x⟩
 ·intro k R;apply ch.fw;cases y:o.u k with
  |false=>rfl
  |true=>have:=kZ.1 y;omega
 ·intro k b R;apply ch.fS;cases y:o.u k with
  |false=>rfl
  |true=>have:=kZ.1 y;omega
 intro k e B;exact(ch.heap k e (by rw[<-Dr] at B;exact B)).2
structure DS (P:ee) (f:FuncId) (t e:bM) (sz:Nat) (i0:TypeInfo) (z:bm):Prop where
 nothing: ∀(base Io:Option Addr) (n c i eZ:Nat) (w:bY),i<=n->n<=c->c<=9223372036854775807->hQ P f #[.slice base n c,.int .i64 i,.slice Io 0 eZ] w λe bZ=>e= .returned (.slice base n c)/\bZ=w
 tail: ∀(base Io:Option Addr) (n c m eZ:Nat) (w:bY) (fr:bm) (bZ:bY),0<m->n<=c->c<=9223372036854775807->(Builtin.append_ #[t,t] t #[.slice base n c,.slice Io m eZ]).run P w= .ok fr bZ->
  hQ P f #[.slice base n c,.int .i64 n,.slice Io m eZ] w λe jR=>e= .returned fr/\jR=bZ
 room: ∀(b n c i ka m eZ:Nat) (cs vs:List bm) (w:bY),i<n->0<m->n+m<=c->c<=9223372036854775807->ka≠b->U cs=n*sz->U vs=m*sz->
  (∀j v,cs[j]? =Y v->w.cell? ⟨b,j,al⟩=Y v)->(∀j,j<(n+m)*sz->(w.cell? ⟨b,j,al⟩).isSome=I)->(∀j,w.frozen? ⟨b,j,al⟩=false)->
  (∀j v,vs[j]? =Y v->w.cell? ⟨ka,j,al⟩=Y v)->(∀v∈cs,v.oneCell'=I)->(∀v∈vs,v.oneCell'=I)->
  ∀(wK wL:bM) (hG WY:Nat),w.shape? ka=Y (wK,hG)->w.shape? b=Y (wL,WY)->WY≠0->(∀j,w.frozen? ⟨ka,j,al⟩=false)->
  hQ P f #[.slice (Y ⟨b,0,al⟩) n c,.int .i64 i,.slice (Y ⟨ka,0,al⟩) m eZ] w λe bZ=>
   e= .returned (.slice (Y ⟨b,0,al⟩) (n+m) c)/\bZ=(w.drew.setCells b ((i+m)*sz) (cs.drop (i*sz))).setCells b (i*sz) vs
 grow: ∀(b n c i ka m eZ:Nat) (cs vs:List bm) (w:bY),i<n->0<m->n<=c->c<n+m->n+m<=1000000000->(n+m)*i0.bytes<=140737488355328->U cs=n*sz->U vs=m*sz->
  (∀j v,cs[j]? =Y v->w.cell? ⟨b,j,al⟩=Y v)->(∀j v,vs[j]? =Y v->w.cell? ⟨ka,j,al⟩=Y v)->(∀v∈cs,v.oneCell'=I)->(∀v∈vs,v.oneCell'=I)->
  hQ P f #[.slice (Y ⟨b,0,al⟩) n c,.int .i64 i,.slice (Y ⟨ka,0,al⟩) m eZ] w λe' bZ=>
   e'= .returned (.slice (Y ⟨w.heap.size,0,al⟩) (n+m) (grownCap w (n+m) c e))/\
   bZ=(((w.alloc (.cells ((cs.take (i*sz)).toArray++fL z.cells (n+m-i)++fL z.cells (grownCap w (n+m) c e-(n+m))) e)).drew.setCells w.heap.size (i*sz) vs).drew).setCells w.heap.size ((i+m)*sz) (cs.drop (i*sz))
theorem S2{i:Nat}{s v:List (List T)}{a rest:List bm}(r:U s=n)(w:i<=n)(y:U a=n*L)(l:U c=U v*L)(m:Rows L s)(e:Rows L v){R:T->bm->Prop}
  (o: ∀(i j:Nat) (d:List T) (x:T) (u:bm),s[i]? =Y d->d[j]? =Y x->a[i*L+j]? =Y u->R x u)
  (z: ∀(i j:Nat) (d:List T) (x:T) (u:bm),v[i]? =Y d->d[j]? =Y x->c[i*L+j]? =Y u->R x u):
  ∀(k j:Nat) (d:List T) (x:T) (u:bm),(s.take i++v++s.drop i)[k]? =Y d->d[j]? =Y x->(a.take (i*L)++c++a.drop (i*L)++rest)[k*L+j]? =Y u->R x u:=by
 have q:Rows L (s.take i):=λd h=>m d (hi h);have A:Rows L (s.drop i):=λd h=>m d (hl h);have B:=fj L w;have C:=E8 (a.take (i*L)) c [] (rows:=s.take i) (news:=v) (n:=i) (s_:=L) (by rw[dW];omega) (by rw[dW];omega) l q e (R:=R)
  (λk j d x u aW a2 a3=>by
   rw[iC] at aW a3;split at aW
   ·split at a3
    ·exact o k j d x u aW a2 a3
    cases a3
   cases aW) z
 have gU:=E8 (a.take (i*L)++c) (a.drop (i*L)) rest (rows:=s.take i++v) (news:=s.drop i) (n:=i+U v) (s_:=L) (by rw[ea,dW];omega)
  (by rw[ea,dW,l,ft];omega) (by rw[hY,hY,y,r,Nat.sub_mul]) (λd h=>by
   rcases fy.1 h with h|h
   ·exact q d h
   exact e d h) A (R:=R) (λk j d x u aW a2 a3=>C k j d x u aW a2 (by simpa using a3))
  (λk j d x u aW a2 a3=>by
   rw[iS] at aW a3;refine o (i+k) j d x u aW a2 ?_;rw[ft,sg];exact a3)
 intro k j d x u aW a2 a3;exact gU k j d x u aW a2 (by simpa using a3)
theorem QG{b s_ c:Nat}{a:Array bm}(h:w.heap[b]? =Y (.cells a e (0,0))): ∀j v,(a.toList.take (n*s_))[j]? =Y v->w.cell? ⟨b,j,al⟩=Y v:=by
 intro j v d;rw[iC] at d;split at d
 ·simp only[World.cell?,h];simpa using d
 cases d
theorem LJ{G:Map}{g_:Nat}{a:List (List T)}{x:bm}(F:dJ G w X k (.arr e g_ sz a))(K:bI G w X (.bE k g_ sz 0 (U a)) x):
  (x= .slice al 0 0/\a=[]/\G k=Y (al,g_))\/ ∃(b c:Nat) (d:Array bm),x= .slice (Y ⟨b,0,al⟩) (U a) c/\G k=Y (Y b,g_)/\w.heap[b]? =Y (.cells d e (0,0))/\d.size=c*sz/\(U a)<=c/\c<=maxLen/\
   ∀(i j:Nat) (l:List T) (y:T) (u:bm),a[i]? =Y l->l[j]? =Y y->(d.toList.take (U a*sz))[i*sz+j]? =Y u->ei w X y u:=by
 obtain⟨q,m⟩:=nH F;rcases d6 K m with ⟨c,b,n,L,rfl,rfl,g,h,z,Q,A⟩|⟨rfl,_,B,rfl⟩
 ·rcases F.2 with ⟨o,_⟩|⟨p,d,o,H,s,t,R⟩
  ·rw[m] at o;cases o
  rw[m] at o;cases o;have C:d.size=c*sz:=by
   unfold iV at h;rw[H] at h;simp at h;rw[<-z] at h;rw[e6] at h;exact h.2
  refine .inr ⟨b,c,d,by rw[jC],m,H,C,Q,A,λi j l y u W f r=>?_⟩;rw[iC] at r;split at r
  ·exact R i j l y u W f (by simpa using r)
  cases r
 exact .inl ⟨rfl,oJ B,m⟩
theorem Rc{a:List (List T)}(h:0<sz)(n:Rows sz a)(o:U c=U a*sz)
  (q: ∀(i j:Nat) (d:List T) (y:T) (u:bm),a[i]? =Y d->d[j]? =Y y->c[i*sz+j]? =Y u->ei w X y u): ∀v∈c,v.oneCell'=I:=by
 intro v r;obtain⟨k,l⟩:=mY.1 r;have e:k<U a*sz:=by rw[<-o];exact(cI.1 l).1
 have m:k / sz<U a:=(zw h).2 e;have x:k%sz<U (a[k / sz]):=by rw[n _ (gd m)];exact Nat.mod_lt _ h
 exact(q (k / sz) (k%sz) _ ((a[k / sz])[k%sz]) v (bO m) (bO x) (by rw[Nat.div_add_mod'];exact l)).lf
theorem agX{cur cs:List bm}{a:Nat}(l:a<=k)(d:cs=cur.take k)(n:U vs=m)(o:k+m<=U cur):
  let c:=cur.take (a+m)++cs.drop a++cur.drop (a+m+U (cs.drop a))
  c.take a++vs++c.drop (a+U vs)=cs.take a++vs++cs.drop a++cur.drop (k+m):=by
 intro c;have e:U cs=k:=by rw[d,dW];omega
 have h:c.take a=cs.take a:=by
  show((cur.take (a+m)++cs.drop a)++_).take a=_;rw[hM,wQ (by rw[dW];omega),List.take_take,d,List.take_take];congr 1;omega
 have i:c.drop (a+U vs)=cs.drop a++cur.drop (k+m):=by
  show((cur.take (a+m)++cs.drop a)++_).drop _=_;rw[hM,Ov (by rw[dW];omega),mX (by rw[dW];omega),wO];congr 2;rw[hY];omega
 rw[h,i];simp
theorem agW{A0 ds:List bm}{a:Nat}{p:List bm}{q:List bm}(e:A0=p++q)(k:U p=a)(l:U vs=m)(n:a+m+U ds<=U A0):
  let c:=A0.take a++vs++A0.drop (a+U vs)
  c.take (a+m)++ds++c.drop (a+m+U ds)=p++vs++ds++A0.drop (a+m+U ds):=by
 intro c;have d:A0.take a=p:=by rw[e,wQ O,lO O]
 have h:c.take (a+m)=p++vs:=by
  show((A0.take a++vs)++_).take _=_;rw[d,wQ (by rw[ea];omega),lO (by rw[ea];omega)]
 have i:c.drop (a+m+U ds)=A0.drop (a+m+U ds):=by
  show((A0.take a++vs)++_).drop _=_;rw[d,List.drop_append,mX (by rw[ea];omega),wO,List.drop_drop,ea];congr 1;omega
 rw[h,i]
theorem aiX{P:ee}{zt:TypeDesc}{i0:TypeInfo}(call:gw P f)(raw:DS P f t e sz i0 z)(hu:P.underlying t=Y (.slice e))(yt:P.info? e=Y i0)(yE:i0.zero=Y z)(tz:z.cells.size=sz)(l4:i0.size=sz)
  (alM:P.underlying e=Y zt) (hp:0<sz) (aks:i0.bytes<=140000) (s v R:List (List T)) (i r mM:Nat) (aO:i<=U s) (pO:app (s.take i++v) (s.drop i)=Y R) (hs:Rows sz s) (g:Rows sz v):
  kF P G f [.arr e r sz s,.arr e mM sz v] [.bE 0 r sz 0 (U s),.t (.int .i64 i),.bE 1 mM sz 0 (U v)] (.bE 0 (r+1) sz 0 (U R)) [.arr e (r+1) sz R,.arr e mM sz v]:=by
 have hlen:U s+U v<=1000000000/\R=s.take i++v++s.drop i:=by
  unfold app at pO;split at pO
  ·rename_i h;simp at h;refine⟨O,by cases pO;rfl⟩
  cases pO
 obtain⟨hlen,yo⟩:=hlen;have qC:U R=U s+U v:=by rw[yo];simp;omega
 have V7: ∀A,A∈R->U A=sz:=λA h=>by
  rw[yo] at h;rcases fy.1 h with h|h
  ·rcases fy.1 h with h|h
   ·exact hs A (hi h)
   exact g A h
  exact hs A (hl h)
 have hbig:(U s+U v)*i0.bytes<=140737488355328:=iD (p8 hlen aks) (by decide);have hm':U s+U v<=maxLen:=by unfold maxLen;omega
 have akh:db P e zt z sz i0.bytes:=⟨alM,i0,yt,yE,l4,rfl⟩
 refine⟨call,?_⟩;intro w X C us kr iy ot hT;have ak2:U us=3:=hT.y4;obtain⟨gX,gN,iU,rfl⟩: ∃a b c,us=[a,b,c]:=by
  match us,ak2 with
  | [a,b,c],_=>exact⟨a,b,c,rfl⟩
 have h0:=Rel.p4 (P:=P) (nt:=3) kr iy ot hT (dV _);obtain⟨yD,rI,tx,_⟩:=hT;obtain rfl:gN= .int .i64 i:=by
  cases rI with|t _ _ h=>cases h;rfl
 generalize BF:({tmps:=[gX,Value.int .i64 i,iU].toArray++Array.replicate (3-[gX,Value.int .i64 i,iU].toArray.size) undef,defers:=[]}:Act)=act at h0;generalize qB:Ctx.eZ P G w X (U [E.arr e r sz s,E.arr e mM sz v]) C 3=K at h0;have MY:K.P=P:=by rw[<-qB];rfl
 have BC:K.X=X:=by rw[<-qB];rfl
 generalize mN:Lift.p4 [E.arr e r sz s,E.arr e mM sz v] [V.bE 0 r sz 0 (U s),V.t (.int .i64 i),V.bE 1 mM sz 0 (U v)]=Q at h0;have vD:Q.H 0=Y (.arr e r sz s):=by rw[<-mN];rfl
 have V2:Q.H 1=Y (.arr e mM sz v):=by rw[<-mN];rfl
 have tp:Q.H=gx [E.arr e r sz s,E.arr e mM sz v] 0:=by rw[<-mN];rfl
 have BO:own K C Q.H=mh X C (gx [E.arr e r sz s,E.arr e mM sz v] 0):=by funext b;rw[tp];show(K.X b\/_)=_;rw[BC];rfl
 rw[<-BO] at yD tx;have BB:bw Q.H 0 (Y (.arr e (r+1) sz R))=gx [E.arr e (r+1) sz R,E.arr e mM sz v] 0:=by
  rw[tp];funext j
  match j with
  |0=>rfl
  |j+1=>rfl
 have fin: ∀(s':S) (rf:Act) (β':Map) (bZ:bY) (x:bm),s'.H=bw Q.H 0 (Y (.arr e (r+1) sz R))->Rel K β' s' rf bZ->bI β' bZ (own K β' (bw Q.H 0 (Y (.arr e (r+1) sz R)))) (.bE 0 (r+1) sz 0 (U R)) x->
   ∃u,∃_i:Unit,∃β,Ending.returned x= .returned u/\True/\Left C β [E.arr e r sz s,E.arr e mM sz v] [E.arr e (r+1) sz R,E.arr e mM sz v] w bZ X (.bE 0 (r+1) sz 0 (U R)) u:=by
  intro s' rf β' bZ x g cC b0;subst qB;obtain⟨β,B3⟩:=Jl (out:=[E.arr e (r+1) sz R,E.arr e mM sz v]) cC (dV _) (by rw[g];exact b0) rfl (by
   intro id e0 GM;refine⟨⟨e0,?_,mA.refl _⟩,?_⟩
   ·rw[g,BB];exact GM
   match id with
   |0=>cases GM;exact⟨rfl,rfl⟩
   |1=>cases GM;exact⟨rfl,rfl⟩
   |k+2=>cases GM)
  exact⟨x,(),β,rfl,trivial,B3⟩
 have l3:=(h0.heap 0 _ vD).2.1;have uW:=LJ (h0.heap 0 _ vD).2 yD;have Pp:=LJ (h0.heap 1 _ V2).2 tx;have yn:Q.H 0≠al:=by rw[vD];simp
 by_cases vQ:v=[]
 ·have V8:R=s:=by rw[yo,vQ];simp
  have run: ∀Xq,(∃ka eZ,Xq=Value.slice ka 0 eZ)->hQ P f #[gX,.int .i64 i,Xq] w λe bZ=>e= .returned gX/\bZ=w:=by
   rintro _ ⟨ka,eZ,rfl⟩;rcases uW with ⟨rfl,h1,_⟩|⟨b,L,o,rfl,_,_,_,dm,ch,_⟩
   ·subst h1
    have:i=0:=by simpa using aO
    subst this;exact raw.nothing al ka 0 0 0 eZ w (dV _) (dV _) (by decide)
   exact raw.nothing (Y ⟨b,0,al⟩) ka (U s) L i eZ w aO dm (by unfold maxLen at ch;omega)
  refine(run iU ?_).mono ?_
  ·rcases Pp with ⟨rfl,_,_⟩|⟨b,L,o,rfl,_⟩
   ·exact⟨_,_,rfl⟩
   exact⟨_,_,by rw[vQ];rfl⟩
  rintro e1 jR ⟨rfl,rfl⟩;obtain⟨rY,M⟩:=nH (h0.heap 0 _ vD).2;have br:=h0.bump 0 e r sz s rY M vD;rw[<-V8] at br;refine fin _ _ _ _ _ rfl br ?_;rw[V8];rcases d6 yD M with ⟨VN,b,n,kO,rfl,mO,hw,hU,rE,dm,rD⟩|⟨mO,_,Nj,rfl⟩
  ·subst mO;exact .bE 0 (r+1) sz 0 _ VN b n kO O (d5 _ _ _) hw hU rE dm rD
  subst mO;rw[Nj];exact .jh 0 (r+1) sz O (d5 _ _ _)
 have BW:0<U v:=List.length_pos_iff.2 vQ;rcases Pp with ⟨_,h1,_⟩|⟨ka,eZ,d,rfl,alp,GN,anV,ak7,BN,ow⟩
 ·exact bu h1 vQ
 have F:U (d.toList.take (U v*sz))=U v*sz:=by
  have:=fj sz ak7;rw[dW];simp;omega
 have ru:=Rc hp g F ow;have tw:=QG (s_:=sz) (n:=U v) GN (c:=0);by_cases ot:i=U s
 ·have V9:R=s++v:=by rw[yo,ot];simp
  obtain⟨zP,tu⟩:=Ky 0 [⟨e,sz,[]⟩] 0 vD rfl rfl (.inr rfl) C act w h0;have alX:bI zP w (own K zP (bw Q.H 0 (Y (.bn [⟨e,sz,[]⟩] 0 r s [])))) (.bE 0 r sz 0 (U s)) gX:=by
   have h:=tu.eE 0;rw[<-BF,<-mN] at h;rw[<-mN];exact h
  have alY:bI zP w (own K zP (bw Q.H 0 (Y (.bn [⟨e,sz,[]⟩] 0 r s [])))) (.bE 1 mM sz 0 (U v)) (.slice (Y ⟨ka,0,al⟩) (U v) eZ):=by
   have h:=tu.eE 2;rw[<-BF,<-mN] at h;rw[<-mN];exact h
  rcases LJ (tu.heap 1 (.arr e mM sz v) (show bw Q.H 0 (Y (.bn [⟨e,sz,[]⟩] 0 r s [])) 1=_ from(cY _ _ _ _ (by decide)).trans V2)).2 alY with ⟨_,h1,_⟩|⟨aoj,aok,anC,rJ,_,Wf,_,_,_,alA⟩
  ·exact bu h1 vQ
  cases rJ;rw[GN] at Wf;cases Wf;obtain⟨fr,bZ,β',g1,g2,g3⟩:=tu.MF 0 [⟨e,sz,[]⟩] 0 s v [] (g_:=r) (s_:=sz) (e:=e) (show bw Q.H 0 (Y (.bn [⟨e,sz,[]⟩] 0 r s [])) 0=Y (.bn [⟨e,sz,[]⟩] 0 r s []) from c6 _ _ _) rfl rfl t (by rw[MY];exact hu) (by rw[MY];exact akh) tz hs g _ _ alX ⟨ka,0,eZ,d.toList.take (U v*sz),rfl,F,λj x hj=>by rw[e6];exact tw j x hj,ru,λi j A x y c1 c2 c3=>⟨λv b0=>by(cases b0),λ_=>alA i j A x y c1 c2 c3⟩⟩ BW (by simp[uV,ba]) hbig hm';simp only[FM] at g2 g3;have vv:=g2.put (Y 0) (λi h=>by cases h;rw[<-qB];rfl) g3;obtain⟨pt,l1⟩:=RC 0 (show(({Q with H:=bw Q.H 0 (Y (E.bn [⟨e,sz,[]⟩] 0 (r+1) (s++v) []))}:S).put (Y 0) (.bE 0 (r+1) sz 0 (U s+U v))).H 0=Y (E.bn [⟨e,sz,[]⟩] 0 (r+1) (s++v) []) from c6 Q.H 0 (Y (E.bn [⟨e,sz,[]⟩] 0 (r+1) (s++v) []))) rfl β' _ _ vv;have g4:=l1.eE 0;rw[MY] at g1;rw[Kx,RB] at l1 g4;simp only[FM] at l1 g4;have run:hQ P f #[gX,.int .i64 i,.slice (Y ⟨ka,0,al⟩) (U v) eZ] w λe jR=>e= .returned fr/\jR=bZ:=by
   rcases uW with ⟨rfl,h1,_⟩|⟨b,L,o,rfl,_,_,_,dm,ch,_⟩
   ·subst h1;subst ot;exact raw.tail al _ 0 0 _ _ w fr bZ BW (dV _) (by decide) g1
   subst ot;exact raw.tail _ _ (U s) L _ _ w fr bZ BW dm (by unfold maxLen at ch;omega) g1
  refine run.mono ?_;rintro e1 jR ⟨rfl,rfl⟩;refine fin _ _ _ _ _ (by rw[V9];rfl) l1 ?_;rw[V9,ea];rw[<-BF] at g4;exact g4
 have Nf:i<U s:=O
 rcases uW with ⟨_,h1,_⟩|⟨b,L,o,rfl,M,rB,GK,Wk,Wm,Nq⟩
 ·subst h1;simp at Nf
 have hne:ka≠b:=λe0=>by
  subst e0
  have:=h0.inj 0 1 ka (.inl ⟨_,M⟩) (.inl ⟨_,alp⟩);omega
 have N:U (o.toList.take (U s*sz))=U s*sz:=by
  have:=fj sz Wk;rw[dW];simp;omega
 have vC:=Rc hp hs N Nq;have ry:=QG (s_:=sz) (n:=U s) rB (c:=0);have akU:i*sz<=U s*sz:=fj sz aO;have rz:U ((o.toList.take (U s*sz)).drop (i*sz))=(U s-i)*sz:=by rw[hY,N,Nat.sub_mul]
 have VW: ∀y∈(o.toList.take (U s*sz)).drop (i*sz),y.oneCell'=I:=λy hy=>vC y (hl hy);have GP:(i+U v)*sz+(U s-i)*sz=(U s+U v)*sz:=by rw[<-ft];congr 1;omega
 have yr: ∀y u,ei w (own K C Q.H) y u->ei w.drew (own K C Q.H) y u:=λy u h=>h.mono (Ext.drew _ _) λ_ _ h=>h;by_cases WA:U s+U v<=L
 ·have rA:(U s+U v)*sz<=o.size:=by rw[GK];exact fj sz WA
  refine(raw.room b (U s) L i ka (U v) eZ _ _ w Nf BW WA (by unfold maxLen at Wm;omega) hne N F ry (λj hj=>?_) (λj=>by simp[World.frozen?,rB]) tw vC ru e e d.size o.size
   (by unfold iV;rw[GN]) (by unfold iV;rw[rB]) ?_ λj=>by simp[World.frozen?,GN]).mono ?_
  ·have:j<o.size:=O
   simp[World.cell?,rB,this]
  ·have:0<(U s+U v)*sz:=Nat.mul_pos O hp;omega
  rintro e1 jR ⟨rfl,B⟩;have BI:w.drew.heap[b]? =Y (.cells o e (0,0)):=rB;rw[CE BI (by rw[rz,GP];exact rA) VW] at B;rw[CE (kS _ _ _ _ _ _ BI) (by
   rw[F]
   have:i*sz+U v*sz<=(U s+U v)*sz:=by rw[<-ft];exact fj sz O
   have h2: ∀l:List bm,l.toArray.size=U l:=λl=>aZ
   rw[h2];simp only[fH,mv,nT,rz];simp;omega) ru,setRow_setRow] at B
  have vM:=agX (cur:=o.toList) (cs:=o.toList.take (U s*sz)) (vs:=d.toList.take (U v*sz)) (a:=i*sz) (m:=U v*sz) (k:=U s*sz) akU rfl F (by rw[<-ft];simpa using rA);rw[<-ft,<-ft] at vM;simp only at B;rw[vM] at B;generalize BD:(o.toList.take (U s*sz)).take (i*sz)++d.toList.take (U v*sz)++(o.toList.take (U s*sz)).drop (i*sz)++o.toList.drop ((U s+U v)*sz)=oY at B;have yp:oY.toArray.size=o.size:=by
   rw[<-BD];have h2: ∀l:List bm,l.toArray.size=U l:=λl=>aZ
   rw[h2];simp only[fH,F,rz,nT];rw[dW,N];have h3:i*sz+(U s-i)*sz=U s*sz:=by rw[<-ft];congr 1;omega
   have h4:(U s+U v)*sz=U s*sz+U v*sz:=ft _ _ _;simp only[Array.length_toList];omega
  have hrel:=(Aw h0).setRow 0 b (.inl ⟨_,M⟩) o e BI oY.toArray yp (.arr e r sz R) yn
   ⟨l3,Or.inr ⟨b,_,M,kS _ _ _ _ _ _ BI,by rw[yp,qC];exact rA,V7,λk j A x u aW a2 a3=>by
    have h9:=S2 (rest:=o.toList.drop ((U s+U v)*sz)) rfl aO N F hs g (R:=λx u=>ei w.drew (own K C Q.H) x u) (λk j A x u dQ dG fb=>yr _ _ (Nq k j A x u dQ dG fb)) (λk j A x u dQ dG fb=>yr _ _ (ow k j A x u dQ dG fb)) k j A x u (by rw[<-yo];exact aW) a2 (by rw[BD];simpa using a3);refine h9.mono ⟨rfl,rfl,rfl,aZ,λkk _ hx=>setRow_other _ _ _ _ λe0=>hx ?_⟩ λ_ _ h=>h;subst e0;exact .inr ⟨0,yn,.inl ⟨_,M⟩⟩⟩⟩
  have yz:=hrel.bump 0 e r sz R (Y b) M (show bw Q.H 0 (Y (.arr e r sz R)) 0=Y (.arr e r sz R) from c6 _ _ _);have MX:bw (bw Q.H 0 (Y (.arr e r sz R))) 0 (Y (.arr e (r+1) sz R))=bw Q.H 0 (Y (.arr e (r+1) sz R)):=by
   funext j;by_cases hj:j=0
   ·subst hj;rw[c6,c6]
   rw[cY _ _ _ _ hj,cY _ _ _ _ hj,cY _ _ _ _ hj]
  simp only[MX] at yz;rw[<-B] at yz;refine fin _ _ _ _ _ rfl yz ?_;have ny:bI (C.put 0 (Y (Y b,r+1))) jR (own K (C.put 0 (Y (Y b,r+1))) (bw Q.H 0 (Y (.arr e (r+1) sz R)))) (.bE 0 (r+1) sz 0 (U R)) (.slice (Y ⟨b,0*sz,al⟩) (U R) L):=by
   refine .bE 0 (r+1) sz 0 _ L b (L*sz) e O (d5 _ _ _) ?_ ?_ (by rw[e6]) O Wm
   ·rw[B,setRow_size];exact(mm.1 rB).1
   unfold iV;rw[B,kS _ _ _ _ _ _ BI];simp only[yp,GK]
  rw[jC,qC] at ny;rw[qC];exact ny
 refine(raw.grow b (U s) L i ka (U v) eZ _ _ w Nf BW Wk O hlen hbig N F ry tw vC ru).mono ?_;rintro e1 jR ⟨rfl,B⟩;generalize V1:grownCap w (U s+U v) L e=oV at B;have MW:U s+U v<=oV:=by rw[<-V1];exact grownCap_ge w _ _ _
 have akb:oV<=maxLen:=by rw[<-V1];exact grownCap_le_maxLen w _ _ _ hm'
 generalize VX:(((o.toList.take (U s*sz)).take (i*sz)).toArray++fL z.cells (U s+U v-i)++fL z.cells (oV-(U s+U v)):Array bm)=W at B;have BQ:U ((o.toList.take (U s*sz)).take (i*sz))=i*sz:=by rw[dW,N];omega
 have Bx:W.size=oV*sz:=by
  rw[<-VX];simp only[Array.size_append,List.size_toArray,size_zeroCells,tz,BQ,<-Nat.add_mul];congr 1;omega
 have aj3:U W.toList=oV*sz:=by rw[<-Bx];simp
 have Nr:(U s+U v)*sz<=oV*sz:=fj sz MW;have We:((w.alloc (.cells W e)).drew).heap[w.heap.size]? =Y (.cells W e (0,0)):=kY w _;have Nb:i*sz+U (d.toList.take (U v*sz))<=W.size:=by
  rw[F,Bx]
  have:i*sz+U v*sz<=(U s+U v)*sz:=by rw[<-ft];exact fj sz O
  omega
 rw[CE We Nb ru] at B;have akL:=kS ((w.alloc (.cells W e)).drew) w.heap.size W (W.toList.take (i*sz)++d.toList.take (U v*sz)++W.toList.drop (i*sz+U (d.toList.take (U v*sz)))).toArray e (0,0) We;have hg2:((((w.alloc (.cells W e)).drew).setRow w.heap.size (W.toList.take (i*sz)++d.toList.take (U v*sz)++W.toList.drop (i*sz+U (d.toList.take (U v*sz)))).toArray).drew).heap[w.heap.size]? =_:=akL;have B2:U (W.toList.take (i*sz)++d.toList.take (U v*sz)++W.toList.drop (i*sz+U (d.toList.take (U v*sz))))=oV*sz:=by
  simp only[fH,mv,nT];simp only[Array.length_toList,Bx];rw[dW] at F Nb;rw[Bx] at Nb;omega
 rw[CE hg2 (by
  rw[rz,GP];have h2: ∀l:List bm,l.toArray.size=U l:=λl=>aZ
  rw[h2,B2];exact Nr) VW] at B
 have vM:=agW (A0:=W.toList) (ds:=(o.toList.take (U s*sz)).drop (i*sz)) (vs:=d.toList.take (U v*sz)) (a:=i*sz) (m:=U v*sz) (p:=(o.toList.take (U s*sz)).take (i*sz))
  (q:=(fL z.cells (U s+U v-i)).toList++(fL z.cells (oV-(U s+U v))).toList) (by rw[<-VX];simp) BQ F (by
   rw[rz,<-ft,GP,aj3];exact Nr)
 rw[<-ft] at vM;simp only at B;rw[vM] at B;generalize BD:(o.toList.take (U s*sz)).take (i*sz)++d.toList.take (U v*sz)++(o.toList.take (U s*sz)).drop (i*sz)++W.toList.drop ((i+U v)*sz+U ((o.toList.take (U s*sz)).drop (i*sz)))=oY at B;have BZ:jR=(w.drew.drew).alloc (.cells oY.toArray e):=by
  rw[B];have h3:((((w.alloc (.cells W e)).drew).setRow w.heap.size (W.toList.take (i*sz)++d.toList.take (U v*sz)++W.toList.drop (i*sz+U (d.toList.take (U v*sz)))).toArray).drew).setRow w.heap.size oY.toArray=(((w.drew.drew).alloc (.cells W e)).setRow w.heap.size (W.toList.take (i*sz)++d.toList.take (U v*sz)++W.toList.drop (i*sz+U (d.toList.take (U v*sz)))).toArray).setRow w.heap.size oY.toArray:=rfl;rw[h3,setRow_setRow];exact World.setRow_alloc_new (w.drew.drew) W oY.toArray e
 have yp:oY.toArray.size=oV*sz:=by
  rw[<-BD];have h2: ∀l:List bm,l.toArray.size=U l:=λl=>aZ
  rw[h2];simp only[fH,BQ,F,rz,nT,Array.length_toList,Bx];rw[GP];have h3:i*sz+(U s-i)*sz=U s*sz:=by rw[<-ft];congr 1;omega
  have h4:(U s+U v)*sz=U s*sz+U v*sz:=ft _ _ _;omega
 have BN:=(Aw (Aw h0)).move 0 e r sz s vD oY.toArray R (by rw[yp,qC];exact Nr) V7 (λk j A x u aW a2 a3=>by
  have h9:=S2 (rest:=W.toList.drop ((i+U v)*sz+U ((o.toList.take (U s*sz)).drop (i*sz)))) rfl aO N F hs g (R:=λx u=>ei w.drew.drew (own K C Q.H) x u)
   (λk j A x u dQ dG fb=>(yr _ _ (Nq k j A x u dQ dG fb)).mono (Ext.drew _ _) λ_ _ h=>h) (λk j A x u dQ dG fb=>(yr _ _ (ow k j A x u dQ dG fb)).mono (Ext.drew _ _) λ_ _ h=>h) k j A x u (by rw[<-yo];exact aW) a2 (by rw[BD];simpa using a3)
  exact h9)
 rw[<-BZ] at BN;refine fin _ _ _ _ _ rfl BN ?_;have an5:(w.drew.drew).heap.size=w.heap.size:=rfl;have yw:=kY (w.drew.drew) (.cells oY.toArray e);have ny:bI (C.put 0 (Y (Y (w.drew.drew).heap.size,r+1))) jR (own K (C.put 0 (Y (Y (w.drew.drew).heap.size,r+1))) (bw Q.H 0 (Y (.arr e (r+1) sz R)))) (.bE 0 (r+1) sz 0 (U R)) (.slice (Y ⟨w.heap.size,0*sz,al⟩) (U R) oV):=by
  refine .bE 0 (r+1) sz 0 _ oV w.heap.size (oV*sz) e O (d5 _ _ _) ?_ ?_ (by rw[e6]) O akb
  ·rw[BZ];simp
  unfold iV;rw[BZ];rw[show((w.drew.drew).alloc (.cells oY.toArray e)).heap[w.heap.size]? =Y (.cells oY.toArray e) from yw];simp only[yp]
 rw[jC,qC] at ny;rw[qC];exact ny
theorem TL{P:ee}{u:TypeDesc}{a:TypeInfo}(d:gw P f)(r:DS P f t e n a z)(H:P.underlying t=Y (.slice e))(w:P.info? e=Y a)(y:a.zero=Y z)(A:z.cells.size=n)(B:a.size=n)
  (C:P.underlying e=Y u) (K:0<n) (F:a.bytes<=140000) {k:Type} (c:k->List T) (l: ∀x,U (c x)=n) (s v R:List k) (i m q:Nat) (L:i<=U s) (o:app (s.take i++v) (s.drop i)=Y R):
  kF P G f [aN e m n c s,aN e q n c v] [ms 0 m n c s,.t (.int .i64 i),ms 1 q n c v] (ms 0 (m+1) n c R) [aN e (m+1) n c R,aN e q n c v]:=by
 refine aiX d r H w y A B C K F (s.map c) (v.map c) (R.map c) i m q (by simpa using L) ?_ (Rows.map s l) (Rows.map v l);unfold app at o⊢;simp only[fH,mv,nT,List.length_map] at o⊢;split at o
 ·rename_i h;rw[bk h];cases o;simp[List.map_append,List.map_take,List.map_drop]
 cases o
section runs
variable {P:ee}
open Go.RowKit Go.Lib
theorem tX(w:bY)(y A B c:bM)(k b o d l:Nat)(a:Addr)(e n m:Nat)(h:List bm)
  (C:P.underlying y=Y (.slice c)) (z:(P.info? c).map (·.size)=Y k) (F:m=Nat.min e d) (G:U h=m*k)
  (q: ∀j v,h[j]? =Y v->w.cell? (a.add j)=Y v) (H: ∀j,j<U h->(w.cell? ⟨b,o+j,al⟩).isSome=I) (K: ∀j,j<U h->w.frozen? ⟨b,o+j,al⟩=false) (L: ∀v∈h,v.oneCell'=I):
  (Builtin.copy_ #[y,A] B #[.slice (Y ⟨b,o,al⟩) d l,.slice (Y a) e n]).run P w= .ok (goInt m) (w.setCells b o h):=by
 have dm:=run_loadCells_list (P:=P) w a h q;have r:=XM (P:=P) b o h 0 w (by simpa using H) (by simpa using K) L;cases x:P.info? c with
 |none=>simp[x] at z
 |some i=>
  have Q:i.size=k:=by simpa[x] using z
  simp[Builtin.copy_,run_underlying C,Builtin.lenOf,Builtin.firstCells,sizeOf,typeInfo,x,Q,<-F,<-G,dm,r]
theorem abj(w:bY){K:Act->bY->Prop}(d s:Operand)(t c:bM)
  (e:o.op= .call {callee:= .builtin .copy,args:= #[d,s],argTypes:= #[t,c]}) (v u:bm) (i:a.eval d=v) (k:a.eval s=u)  
  (l:(Builtin.copy_ #[t,c] o.type #[v,u]).run P w= .ok z b) (h:K (a.put o.dst z) b):o.wp P a w K Q:=by unfold Oper.wp execOp;simp only[e,resolve,invoke,builtin,Sem.run_bind,Sem.run_pure,Result.andThen_ok,List.map_toArray,List.map_cons,List.map_nil,i,k,l];exact h
theorem yF(w:bY){c:Array Oper}{E:List Oper}(e:o.guard=al)(d s:Operand)(t i:bM)
  (k:o.op= .call {callee:= .builtin .copy,args:= #[d,s],argTypes:= #[t,i]}) (v u:bm) (l:a.eval d=v) (m:a.eval s=u)  
  (n:(Builtin.copy_ #[t,i] o.type #[v,u]).run P w= .ok z b) (h:wpList P c Q E (a.put o.dst z) b):wpList P c Q (o::E) a w:=
 wpList_plain e λ_ q=>abj w d s t i k v u l m n (q _ _ h)
theorem Ht{c:Array Oper}{K:Act->bY->Prop}{E:Prop}
  (k:o.guard=al) (d x:Operand) (h i:bM) (e:o.op=Op.call {callee:=Callee.builtin Builtin.copy,args:= #[d,x],argTypes:= #[h,i]})
  (v u:bm) (l:a.eval d=v) (m:a.eval x=u)   (n:(Builtin.copy_ #[h,i] o.type #[v,u]).run P w= .ok z b) (q:K (a.put o.dst z) b):
  if Region.wanted o (yielded c a.tmps)=I then Oper.wp P o a w K Q else E:=by
 have r:Region.wanted o (yielded c a.tmps)=I:=by simp[Region.wanted,k]
 rw[bk r];unfold Oper.wp;simp[execOp,e,resolve,invoke,builtin,l,m,n,Result.andThen];exact q
theorem Hd(b:Nat)(a:List bm)(o:Nat)(w:bY)(h: ∀j,j<U a->(w.cell? ⟨b,o+j,al⟩).isSome=I)(k:Nat)(c:(w.cell? ⟨b,k,al⟩).isSome=I):((w.setCells b o a).cell? ⟨b,k,al⟩).isSome=I:=by
 by_cases d:o<=k/\k<o+U a
 ·have:=World.cell?_setCells_in b a o w h (k-o) O;rw[show o+(k-o)=k by omega] at this;rw[this];rfl
 rw[World.cell?_setCells_out b a o w ⟨b,k,al⟩ λ_ _=>by show k<o\/o+U a<=k;omega];exact c
end runs
end Go.Lift
