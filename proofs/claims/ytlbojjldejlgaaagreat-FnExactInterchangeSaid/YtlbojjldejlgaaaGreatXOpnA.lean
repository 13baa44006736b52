/- Tools. -/
import Derived.Test.YtlbojjldejlgaaaGreatXLiftRow
import Derived.Test.YtlbojjldejlgaaaGreatXTran1
import Derived.ChangeArms
import Derived.DataReads
import Derived.Carry
set_option maxRecDepth 100000
set_option linter.unusedVariables false
namespace Go.Lift
open Go Go.ChangeShapes Go.WideShapes Go.ChangeAt Go.RowKit
section
variable {H:Type}{enc:TypeId×Value->H}{P:Program}
def iX(W:World):List T->List Value->Prop
 | [],[]=>True
 |t::l,v::cs=>b8 W (λ_=>False) t v/\iX W l cs
 |_,_=>False
variable {W:World}{n k m:Nat}{t:TypeId}{c:List Value}
theorem iX.len: ∀{l:List T} {cs:List Value},iX W l cs->l.length=cs.length
 | [],[],_=>rfl
 |t::l,v::cs,h=>by simp[h.2.len]
 | [],_::_,h=>h.elim
 |_::_,[],h=>h.elim
theorem iX.at{W:World}: ∀{l:List T} {cs:List Value},iX W l cs-> ∀{j:Nat} {t:T} {v:Value},l[j]? =some t->cs[j]? =some v->b8 W (λ_=>False) t v
 | [],[],_,j,t,v,a,_=>by simp at a
 |t::l,v::cs,h,0,c,d,a,b=>by simp at a b;subst a;subst b;exact h.1
 |t::l,v::cs,h,j+1,c,d,a,b=>iX.at h.2 (j:=j) (by simpa using a) (by simpa using b)
 | [],_::_,h,_,_,_,_,_=>h.elim
 |_::_,[],h,_,_,_,_,_=>h.elim
theorem iX.app: ∀{l b:List T} {cs a:List Value},iX W l cs->iX W b a->iX W (l++b) (cs++a)
 | [],_,[],_,_,h=>h
 |t::l,_,v::cs,_,h,c=>⟨h.1,h.2.app c⟩
 | [],_,_::_,_,h,_=>h.elim
 |_::_,_,[],_,h,_=>h.elim
def iz(H:Type)(a:TypeId×Value->H)(P:Program)(W:World)(n:Nat)(t:TypeId){k:Type}(r:k->List T)(Q:k->Prop):Prop:=
 ∀cs y,DataW.trod a P W 0 (λ_=>true) true n t cs=some y-> ∃x:k,Q x/\iX W (r x) cs
theorem uj(a:P.underlying t=some (.int .i64)):iz H enc P W n t (λx:Int=>[T.int .i64 x]) (λ_=>True):=λcs y h=>by obtain⟨k,rfl,_,_⟩:=DataW.trod_int a h;exact⟨k,trivial,.int _ _,trivial⟩
theorem E8(a:P.underlying t=some .string):iz H enc P W n t (λx:List UInt8=>[T.str x]) (λx=>x.length<=maxLen):=λcs y h=>by obtain⟨s,rfl,_,b⟩:=DataW.trod_string a h;exact⟨s.data.toList,by show s.data.toList.length<=maxLen;rw[kO];exact b,.str _,trivial⟩
theorem Pf{k:Type}{β:Type}{R:Nat->k->Prop}(h: ∀i,i<m-> ∃x,R i x): ∃l:List k,l.length=m/\ ∀i x,l[i]? =some x->R i x:=by
 induction m with
 |zero=>exact⟨[],rfl,λi x b=>by simp at b⟩
 |succ m d=>
  obtain⟨l,c,e⟩:=d λi n=>h i O;obtain⟨x,b⟩:=h m O;refine⟨l++[x],by simp[c],λi y a=>?_⟩;by_cases n:i<m
  ·rw[gI O] at a;exact e i y a
  rw[gH O] at a
  have:i=m:=by
   have:=(bt.1 a).1;simp at this;omega
  subst this;simp[c] at a;subst a;exact b
theorem pk{e:TypeId}{f:Type}{r:f->List T}{Q:f->Prop}(eT:P.underlying t=some (.slice e))(hk:P.cellsOf e=k)(Y:0<k)(he: ∀j,j<n->iz H enc P W j e r Q):
  iz H enc P W n t (λl:List f=>[T.aa (List.map r l)]) (λl=>l.length<=maxLen/\ ∀x∈l,Q x):=λcs y h=>by
 rcases DataW.trod_slice eT h with ⟨rfl,_⟩|⟨a,len,E,D,rest,j,rfl,rfl,_,_,cc,hm,Xo,A,_,_⟩
 ·exact⟨[],⟨Nat.zero_le _,λx v=>by simp at v⟩,.eI _ _,trivial⟩
 rw[hk] at A;have L: ∀i,i<len-> ∃x:f,Q x/\ ∃c:List Value,c.length=k/\(∀q,q<k->W.cell? ((a.add (i*k)).add q)=c[q]?)/\iX W (r x) c:=λi B=>by
  have bE:=A i B;rw[bg (O:i<D.length)] at bE;obtain⟨c,I,cy⟩:=wZ.1 bE;obtain⟨x,v,bH⟩:=he j O c _ cy;obtain⟨_,m,bj⟩:=World.cells?_some I;exact⟨x,v,c,m,bj,bH⟩
 obtain⟨l,m,M⟩:=Pf (β:=Unit) L;refine⟨l,⟨O,λx v=>?_⟩,?_,trivial⟩
 ·obtain⟨i,B⟩:=ht.1 v;exact(M i x B).1
 by_cases N:len=0
 ·subst N;obtain rfl:=List.length_eq_zero_iff.1 m;exact .eI _ _
 have C:a.spot=none:=by
  obtain⟨_,c,h1,S,_⟩:=M 0 _ (bg (O:0<l.length));have s:=S 0 Y;rw[bg (O:0<c.length)] at s;simpa[Addr.add] using World.cell?_spot s
 obtain⟨b,o,XP⟩:=a;dsimp only at C;subst C;have d: ∀i x,l[i]? =some x-> ∃c:List Value,c.length=k/\(∀q,q<k->W.cell? ⟨b,o+i*k+q,none⟩=c[q]?)/\iX W (r x) c:=λi x B=>by
  obtain⟨_,c,h1,S,h3⟩:=M i x B;refine⟨c,h1,λq G=>?_,h3⟩
  have:=S q G
  rwa [Addr.add_lit,Addr.add_lit] at this
 obtain⟨c,g,R,_⟩:=d 0 _ (bg (O:0<l.length));have s:=R 0 Y;rw[bg (O:0<c.length)] at s;have aR:b<W.heap.size:=World.block_lt_of_cell? W ⟨b,_,none⟩ s;have U:(List.map r l).length=len:=by simpa using m
 have G:=b8.aa (w:=W) (X:=λ_=>False) (List.map r l) b o k E (λi j=>(W.cell? ⟨b,o+i*k+j,none⟩).getD undef) aR (λh=>h) O ?_ ?_ ?_
 ·rw[U] at G;exact G
 ·intro V p;obtain⟨x,v,rfl⟩:=fU.1 p;obtain⟨i,B⟩:=ht.1 v;obtain⟨c,g,_,u⟩:=d i x B;rw[u.len,g]
 ·intro i q B G;obtain⟨c,g,R,_⟩:=d i _ (bg (O:i<l.length));rw[R q G,bg (O:q<c.length)];rfl
 intro i q V x p v;rw[dU] at p;obtain⟨z,N,rfl⟩:=Option.map_eq_some_iff.1 p;obtain⟨c,g,R,u⟩:=d i z N;have F:q<(r z).length:=(bt.1 v).1;rw[u.len] at F;have e:(W.cell? ⟨b,o+i*k+q,none⟩).getD undef=c[q]:=by rw[R q O,bg F];rfl
 show b8 W (λ_=>False) x ((W.cell? ⟨b,o+i*k+q,none⟩).getD undef);rw[e];exact u.at v (bg F)
def lG(P:Program)(t:TypeId)(k:Nat)(l:List (TypeId×Nat)):Prop:=P.cellsOf t=k/\ ∃a:Array Field,P.underlying t=some (.struct a)/\a.toList.map (λf=>(f.type,f.offset))=l
theorem nx{l:List (TypeId×Nat)}(e:lG P t k l){y:DataW H×List MemPlace}(h:DataW.trod enc P W 0 (λ_=>true) true n t c=some y):
  ∃j:Nat,n=j+1/\c.length=k/\ ∀(i:Nat) (a:TypeId) (o:Nat),l[i]? =some (a,o)-> ∃z,DataW.trod enc P W 0 (λ_=>true) true j a ((c.drop o).take (P.cellsOf a))=some z:=by
 obtain⟨x,m,p,q⟩:=e;obtain⟨r,j,rfl,_,A,B,s⟩:=DataW.trod_struct p h;refine⟨j,rfl,O,λi a o b=>?_⟩;rw[<-q,dU] at b;obtain⟨f,d,v⟩:=Option.map_eq_some_iff.1 b;cases v;have w:i<m.size:=by
  have:=(bt.1 d).1;simpa using this
 have:=s i f (by simpa using d);rw[bg (O:i<r.length)] at this;exact⟨_,this⟩
structure ux (P:Program) where
 I:TypeId
 S:TypeId
 q3:TypeId
 A:TypeId
 nk:TypeId
 C:TypeId
 E:TypeId
 wO:TypeId
 uC:TypeId
 wU:TypeId
 L:TypeId
 wQ:TypeId
 uy:TypeId
 wR:TypeId
 R:TypeId
 wT:TypeId
 rv:TypeId
 vb:P.cellsOf I=1
 Ag:P.cellsOf S=1
 Ak:P.cellsOf q3=1
 Aj:P.cellsOf nk=1
 Gz:P.cellsOf wO=1
 GD:P.cellsOf wU=1
 GA:P.cellsOf wQ=1
 GB:P.cellsOf wR=1
 GC:P.cellsOf wT=1
 q6:P.underlying I=some (.int .i64)
 B1:P.underlying S=some .string
 Je:P.underlying q3=some (.slice I)
 Jc:P.underlying nk=some (.slice A)
 Jd:P.underlying wO=some (.slice E)
 Ji:P.underlying wU=some (.slice uC)
 Jf:P.underlying wQ=some (.slice L)
 Jg:P.underlying wR=some (.slice uy)
 Jh:P.underlying wT=some (.slice R)
 vg:lG P A 2 [(q3,0),(I,1)]
 vh:lG P C 2 [(S,0),(nk,1)]
 vi:lG P E 7 [(I,0),(I,1),(A,2),(C,4),(wO,6)]
 As:lG P uC 9 [(C,0),(E,2)]
 Ao:lG P L 2 [(nk,0),(nk,1)]
 Aq:lG P uy 2 [(wQ,0),(wU,1)]
 Ar:lG P R 2 [(S,0),(q3,1)]
 Ap:lG P rv 2 [(wT,0),(wR,1)]
theorem pY(h:c.length=2): ∃a b,c=[a,b]:=by
 match c,h with
 | [a,b],_=>exact⟨a,b,rfl⟩
theorem Tg{i:List Value}(h:i.length=7): ∃a b c d e f g,i=[a,b,c,d,e,f,g]:=by
 match i,h with
 | [a,b,c,d,e,f,g],_=>exact⟨a,b,c,d,e,f,g,rfl⟩
theorem Tf{k:List Value}(h:k.length=9): ∃a b c d e f g i j,k=[a,b,c,d,e,f,g,i,j]:=by
 match k,h with
 | [a,b,c,d,e,f,g,i,j],_=>exact⟨a,b,c,d,e,f,g,i,j,rfl⟩
variable (K:ux P)
theorem Ef:iz H enc P W n K.q3 (λl:List Int=>[T.aa (List.map U l)]) (λl=>l.length<=maxLen):=λcs y h=>by obtain⟨l,a,b⟩:=pk K.Je K.vb O (λj _=>uj K.q6) cs y h;exact⟨l,a.1,b⟩
theorem E9:iz H enc P W n K.A ag (hF maxLen):=λcs y h=>by obtain⟨j,rfl,k,d⟩:=nx K.vg h;obtain⟨a,b,rfl⟩:=pY k;obtain⟨z,e⟩:=d 0 _ _ rfl;obtain⟨q,i⟩:=d 1 _ _ rfl;rw[K.Ak] at e;rw[K.vb] at i;obtain⟨l,m,o⟩:=Ef K _ _ e;obtain⟨c,_,p⟩:=uj K.q6 _ _ i;exact⟨⟨l,c⟩,m,o.app p⟩
theorem yE:iz H enc P W n K.nk (λl:List aH=>[T.aa (List.map ag l)]) (h7 maxLen):=pk K.Jc K.vg.1 O λj _=>E9 K
theorem E':iz H enc P W n K.C eg (kR maxLen):=λcs y h=>by obtain⟨j,rfl,m,e⟩:=nx K.vh h;obtain⟨a,b,rfl⟩:=pY m;obtain⟨z,i⟩:=e 0 _ _ rfl;obtain⟨r,k⟩:=e 1 _ _ rfl;rw[K.Ag] at i;rw[K.Aj] at k;obtain⟨l,o,p⟩:=E8 K.B1 _ _ i;obtain⟨c,d,q⟩:=yE K _ _ k;exact⟨⟨l,c⟩,⟨o,d⟩,p.app q⟩
theorem z8{B:Nat}: ∀{m k:Nat} {e:Expr},gr B m e->m<=k->gr B k e
 |0,_,_,h,_=>h.elim
 |m+1,0,_,_,a=>O
 |m+1,k+1,e,h,a=>⟨h.1,h.2.1,h.2.2.1,λx b=>z8 (h.2.2.2 x b) O⟩
theorem OY: ∀{n:Nat},iz H enc P W n K.E al (gr maxLen n):=fun {n}=>by
 induction n using Nat.strongRecOn with
 |_ n s=>
  intro cs y h;obtain⟨j,rfl,v,k⟩:=nx K.vi h;obtain⟨a,b,c,d,e,f,g,rfl⟩:=Tg v;obtain⟨M,l⟩:=k 0 _ _ rfl;obtain⟨N,m⟩:=k 1 _ _ rfl;obtain⟨S,o⟩:=k 2 _ _ rfl;obtain⟨T,p⟩:=k 3 _ _ rfl;obtain⟨U,q⟩:=k 4 _ _ rfl;rw[K.vb] at l m;rw[K.vg.1] at o;rw[K.vh.1] at p;rw[K.Gz] at q;obtain⟨w,_,z⟩:=uj K.q6 _ _ l;obtain⟨A,_,B⟩:=uj K.q6 _ _ m;obtain⟨C,D,F⟩:=E9 K _ _ o;obtain⟨G,L,R⟩:=E' K _ _ p;obtain⟨X,r,t⟩:=pk (Q:=gr maxLen j) K.Jd K.vi.1 O (λi V cs y h=>by
   obtain⟨x,u,I⟩:=s i O cs y h;exact⟨x,z8 u O,I⟩) _ _ q
  refine⟨⟨w,A,C,G,X⟩,⟨D,L,r.1,r.2⟩,?_⟩;rw[cw];exact z.app (B.app (F.app (R.app t)))
theorem Ph(A:n<=m):iz H enc P W n K.uC aF (kT maxLen m):=λcs y h=>by obtain⟨j,rfl,r,l⟩:=nx K.As h;obtain⟨a,b,c,d,e,f,g,i,k,rfl⟩:=Tf r;obtain⟨B,o⟩:=l 0 _ _ rfl;obtain⟨C,p⟩:=l 1 _ _ rfl;rw[K.vh.1] at o;rw[K.vi.1] at p;obtain⟨s,v,w⟩:=E' K _ _ o;obtain⟨x,z,q⟩:=OY K _ _ p;rw[cw] at q;exact⟨⟨s,x⟩,⟨v,z8 z O⟩,w.app q⟩
theorem Si:iz H enc P W n K.L ax (kS maxLen):=λcs y h=>by obtain⟨j,rfl,i,c⟩:=nx K.Ao h;obtain⟨a,b,rfl⟩:=pY i;obtain⟨z,d⟩:=c 0 _ _ rfl;obtain⟨r,e⟩:=c 1 _ _ rfl;rw[K.Aj] at d e;obtain⟨k,l,m⟩:=yE K _ _ d;obtain⟨o,p,q⟩:=yE K _ _ e;exact⟨⟨k,o⟩,⟨l,p⟩,m.app q⟩
theorem OX(v:n<=m):iz H enc P W n K.uy aI (nU maxLen m):=λcs y h=>by obtain⟨j,rfl,k,c⟩:=nx K.Aq h;obtain⟨a,b,rfl⟩:=pY k;obtain⟨z,d⟩:=c 0 _ _ rfl;obtain⟨w,e⟩:=c 1 _ _ rfl;rw[K.GA] at d;rw[K.GD] at e;obtain⟨l,o,p⟩:=pk K.Jf K.Ao.1 O (λi _=>Si K) _ _ d;obtain⟨q,r,s⟩:=pk K.Ji K.As.1 O (λi x=>Ph K (m:=m) O) _ _ e;exact⟨⟨l,q⟩,⟨o,r⟩,p.app s⟩
theorem Rz:iz H enc P W n K.R aS (lH maxLen):=λcs y h=>by obtain⟨j,rfl,i,c⟩:=nx K.Ar h;obtain⟨a,b,rfl⟩:=pY i;obtain⟨z,d⟩:=c 0 _ _ rfl;obtain⟨r,e⟩:=c 1 _ _ rfl;rw[K.Ag] at d;rw[K.Ak] at e;obtain⟨k,l,m⟩:=E8 K.B1 _ _ d;obtain⟨o,p,q⟩:=Ef K _ _ e;exact⟨⟨k,o⟩,⟨l,p⟩,m.app q⟩
theorem OW:iz H enc P W n K.rv S9 (gu maxLen n):=λcs y h=>by obtain⟨j,rfl,k,c⟩:=nx K.Ap h;obtain⟨a,b,rfl⟩:=pY k;obtain⟨z,d⟩:=c 0 _ _ rfl;obtain⟨v,e⟩:=c 1 _ _ rfl;rw[K.GC] at d;rw[K.GB] at e;obtain⟨l,o,p⟩:=pk K.Jh K.Ar.1 O (λi _=>Rz K) _ _ d;obtain⟨q,r,s⟩:=pk K.Jg K.Aq.1 O (λi w=>OX K (m:=j+1) O) _ _ e;exact⟨⟨l,q⟩,⟨o,r⟩,p.app s⟩
end
section
variable {H:Type}{enc:TypeId×Value->H}{P:Program}
variable {W:World}{i:Nat}{C:List V->Prop}{c:List TypeId}
theorem Oj{eZ:World}(h:Ext (λ_=>False) W eZ):Below W.heap.size W eZ:=⟨h.os,h.tape,h.output,h.size,λk a=>h.keep k a λh=>h⟩
def yt(H:Type)(b:TypeId×Value->H)(P:Program)(W:World)(a:Nat)(t:TypeId)(D:V->Prop):Prop:=
 ∀(v:Value) (d:DataW H) (p:List MemPlace),Value.okWide P W .any a t v->DataW.Trod b P W 0 (λ_=>true) true t v d p-> ∃x,aQ ez W (λ_=>False) x v/\D x
def uo(H:Type)(b:TypeId×Value->H)(P:Program)(W:World)(a:Nat)(d:List TypeId)(C:List V->Prop):Prop:=
 ∀(c:List Value) (h:List (DataW H)) (i:List MemPlace),(∀(j:Nat) t v,d[j]? =some t->c[j]? =some v->Value.okWide P W .any a t v)->DataW.TrodAll b P W 0 (λ_=>true) true d c h i-> ∃e,cF ez W (λ_=>False) e c/\C e
theorem Sj(h:C []):uo H enc P W i [] C:=λb c d _ a=>by obtain⟨rfl,_,_⟩:=trodAll_nil a;exact⟨[],trivial,h⟩
theorem zd{t:TypeId}{D:V->Prop}(n:yt H enc P W i t D)(o: ∀x,D x->uo H enc P W i c λb=>C (x::b)):uo H enc P W i (t::c) C:=λB F G m r=>by obtain⟨v,e,d,k,p,q,rfl,rfl,rfl,s,a⟩:=trodAll_cons r;obtain⟨x,w,y⟩:=n v d p (m 0 t v rfl rfl) s;obtain⟨b,l,z⟩:=o x y e k q (λj t v h A=>m (j+1) t v h A) a;exact⟨x::b,⟨w,l⟩,z⟩
theorem RA{k:Nat}(K:ux P):yt H enc P W k K.rv (λx=> ∃(m:Nat) (p:Prog),gu maxLen m p/\x=V.agg [az aS p.a',az aI p.parts]):=λv d p a h=>by
 obtain⟨r,y,l,_⟩:=id K.Ap;obtain⟨cs,rfl,o⟩:=okWide_struct l a;obtain⟨n,s⟩:=h;obtain⟨x,w,q⟩:=OW K _ _ s;refine⟨_,.agg _ _ (by rw[o,r];rfl) λi c u b l=>?_,n,x,w,rfl⟩;have e:cs.toList[i]? =some u:=by simpa using l
 match i with
 |0=>simp at b;subst b;exact .t _ _ (q.at (j:=0) rfl e)
 |1=>simp at b;subst b;exact .t _ _ (q.at (j:=1) rfl e)
 |i+2=>simp at b
theorem Fu(K:ux P):yt H enc P W i K.I (λx=> ∃k:Int,x=ab k):=λv d p a h=>by obtain⟨k,rfl⟩:=okWide_int K.q6 a;exact⟨_,.t _ _ (.int _ _),k,rfl⟩
theorem Jo{W a:World}(e:laidOutB P=true)(r:Below W.heap.size W a): ∀{dX:List TypeId} {m:List Value} {i:List (DataW H)} {k:List MemPlace},(∀t∈dX,P.readableRec t=true/\t<P.types.size)->
  DataW.TrodAll enc P W 0 (λ_=>true) true dX m i k->(∀x∈k,x.block<W.heap.size)->i.length=dX.length/\DataW.TrodAll enc P a 0 (λb=>decide (b<W.heap.size)) true dX m i k
 | [],m,i,k,_,h,_=>by
  obtain⟨rfl,rfl,rfl⟩:=trodAll_nil h;exact⟨rfl,trodAll_mk0⟩
 |t::dX,m,i,k,s,h,l=>by obtain⟨v,w,d,y,p,q,rfl,rfl,rfl,z,c⟩:=trodAll_cons h;obtain⟨A,B⟩:=Jo e r (λt n=>s t (dV _ n)) c λx o=>l x (nH _ o);have n:=s t (ev ..);exact⟨by simp[A],trodAll_cons_mk (r.trod e n.1 n.2 z λx o=>l x (lu _ o)) B⟩
theorem Sa(h:c.all (λt=>P.readableRec t&&decide (t<P.types.size))=true): ∀t∈c,P.readableRec t=true/\t<P.types.size:=λt a=>by have:=fG.1 h t a;simp only[Bool.and_eq_true,decide_eq_true_eq] at this;exact this
theorem SN{f:FuncId}{d:Func}{s:ChangeSpec}{c:TypeId}{G:ee}{args:Array Value}{a k:List (DataW H)}{b:List MemPlace}(o:List TypeId)
  (F:d.params=o.toArray) (g:d.resultTypes= #[c]) (E:P.underlying c=some .bool) (K:s.vars=[]) (r: ∀a:List (DataW H),a.length=o.length->s.fn H a={results:=[.lit (.bool true)],args:=a})
  (w:laidOutB P=true) (y: ∀t∈o,P.readableRec t=true/\t<P.types.size)
  (l: ∀(j:Nat) t v,d.params[j]? =some t->args[j]? =some v->Value.okWide P W .any i t v) (L:DataW.Whole enc P d.params.toList s.vars false W args.toList a k b) (I:G.ok W)
  (z:uo H enc P W i o λQ=>hE P G f Q (a7 true)):Calls P f args W λe eZ=> ∃v,e= .returned v/\s.post enc P d false true false false W args v eZ:=by
 have n:=L;obtain⟨p,q,m,R,rfl,M,N⟩:=L;rw[K] at R;obtain⟨rfl,rfl⟩:=trodVars_none R;rw[F] at l m;obtain⟨Q,A,B⟩:=z args.toList a p (λj t v h S=>l j t v (by simpa using h) (by simpa using S)) m;refine(B.2 W (λ_=>False) args.toList I (λ_ h=>h.elim) A).mono ?_;rintro e eZ ⟨u,rfl,X,T⟩;obtain rfl:=Rt T;obtain⟨C,D⟩:=Jo w (Oj X) y m λx U=>n.lt x (by simp[U]);refine⟨_,rfl,a,[],p++[],[],p,[],n,?_,?_,?_,PM X _,λh=>by cases h⟩
 ·rw[g,kd,r a C];exact trodAll_mk1 (shut_bool E _)
 ·rw[F,kd,r a C];exact D
 rw[K,kd,r a C];exact rfl
end
end Go.Lift
