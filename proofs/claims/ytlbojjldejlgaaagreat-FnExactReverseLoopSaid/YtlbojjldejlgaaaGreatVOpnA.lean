/- Tools. -/
import Derived.Test.YtlbojjldejlgaaaGreatVLiftRow
import Derived.Test.YtlbojjldejlgaaaGreatVTran1
import Derived.ChangeArms
import Derived.DataReads
import Derived.Carry
set_option maxRecDepth 100000
set_option linter.unusedVariables false
namespace Go.Lift
open Go Go.ChangeShapes Go.WideShapes Go.ChangeAt Go.RowKit
section
variable {H:Type}{enc:TypeId×Value->H}{P:Program}
def jb(W:World):List T->List Value->Prop
 | [],[]=>True
 |t::l,v::cs=>b9 W (λ_=>False) t v/\jb W l cs
 |_,_=>False
variable {W:World}{n k m:Nat}{t:TypeId}{c:List Value}
theorem jb.len: ∀{l:List T} {cs:List Value},jb W l cs->l.length=cs.length
 | [],[],_=>rfl
 |t::l,v::cs,h=>by simp[h.2.len]
 | [],_::_,h=>h.elim
 |_::_,[],h=>h.elim
theorem jb.at{W:World}: ∀{l:List T} {cs:List Value},jb W l cs-> ∀{j:Nat} {t:T} {v:Value},l[j]? =some t->cs[j]? =some v->b9 W (λ_=>False) t v
 | [],[],_,j,t,v,a,_=>by simp at a
 |t::l,v::cs,h,0,c,d,a,b=>by simp at a b;subst a;subst b;exact h.1
 |t::l,v::cs,h,j+1,c,d,a,b=>jb.at h.2 (j:=j) (by simpa using a) (by simpa using b)
 | [],_::_,h,_,_,_,_,_=>h.elim
 |_::_,[],h,_,_,_,_,_=>h.elim
theorem jb.app: ∀{l b:List T} {cs a:List Value},jb W l cs->jb W b a->jb W (l++b) (cs++a)
 | [],_,[],_,_,h=>h
 |t::l,_,v::cs,_,h,c=>⟨h.1,h.2.app c⟩
 | [],_,_::_,_,h,_=>h.elim
 |_::_,_,[],_,h,_=>h.elim
def iD(H:Type)(a:TypeId×Value->H)(P:Program)(W:World)(n:Nat)(t:TypeId){k:Type}(r:k->List T)(Q:k->Prop):Prop:=
 ∀cs y,DataW.trod a P W 0 (λ_=>true) true n t cs=some y-> ∃x:k,Q x/\jb W (r x) cs
theorem uw(a:P.underlying t=some (.int .i64)):iD H enc P W n t (λx:Int=>[T.int .i64 x]) (λ_=>True):=λcs y h=>by obtain⟨k,rfl,_,_⟩:=DataW.trod_int a h;exact⟨k,trivial,.int _ _,trivial⟩
theorem FJ(a:P.underlying t=some .string):iD H enc P W n t (λx:List UInt8=>[T.str x]) (λx=>x.length<=maxLen):=λcs y h=>by obtain⟨s,rfl,_,b⟩:=DataW.trod_string a h;exact⟨s.data.toList,by show s.data.toList.length<=maxLen;rw[kS];exact b,.str _,trivial⟩
theorem Qj{k:Type}{β:Type}{R:Nat->k->Prop}(h: ∀i,i<m-> ∃x,R i x): ∃l:List k,l.length=m/\ ∀i x,l[i]? =some x->R i x:=by
 induction m with
 |zero=>exact⟨[],rfl,λi x b=>by simp at b⟩
 |succ m d=>
  obtain⟨l,c,e⟩:=d λi n=>h i O;obtain⟨x,b⟩:=h m O;refine⟨l++[x],by simp[c],λi y a=>?_⟩;by_cases n:i<m
  ·rw[hD O] at a;exact e i y a
  rw[gK O] at a
  have:i=m:=by
   have:=(bt.1 a).1;simp at this;omega
  subst this;simp[c] at a;subst a;exact b
theorem po{e:TypeId}{f:Type}{r:f->List T}{Q:f->Prop}(eV:P.underlying t=some (.slice e))(hk:P.cellsOf e=k)(Y:0<k)(he: ∀j,j<n->iD H enc P W j e r Q):
  iD H enc P W n t (λl:List f=>[T.aa (List.map r l)]) (λl=>l.length<=maxLen/\ ∀x∈l,Q x):=λcs y h=>by
 rcases DataW.trod_slice eV h with ⟨rfl,_⟩|⟨a,len,E,D,rest,j,rfl,rfl,_,_,ch,hm,XX,A,_,_⟩
 ·exact⟨[],⟨Nat.zero_le _,λx v=>by simp at v⟩,.eH _ _,trivial⟩
 rw[hk] at A;have L: ∀i,i<len-> ∃x:f,Q x/\ ∃c:List Value,c.length=k/\(∀q,q<k->W.cell? ((a.add (i*k)).add q)=c[q]?)/\jb W (r x) c:=λi B=>by
  have bE:=A i B;rw[bh (O:i<D.length)] at bE;obtain⟨c,I,cA⟩:=w9.1 bE;obtain⟨x,v,bH⟩:=he j O c _ cA;obtain⟨_,m,bl⟩:=World.cells?_some I;exact⟨x,v,c,m,bl,bH⟩
 obtain⟨l,m,M⟩:=Qj (β:=Unit) L;refine⟨l,⟨O,λx v=>?_⟩,?_,trivial⟩
 ·obtain⟨i,B⟩:=hz.1 v;exact(M i x B).1
 by_cases N:len=0
 ·subst N;obtain rfl:=List.length_eq_zero_iff.1 m;exact .eH _ _
 have C:a.spot=none:=by
  obtain⟨_,c,h1,S,_⟩:=M 0 _ (bh (O:0<l.length));have s:=S 0 Y;rw[bh (O:0<c.length)] at s;simpa[Addr.add] using World.cell?_spot s
 obtain⟨b,o,Yp⟩:=a;dsimp only at C;subst C;have d: ∀i x,l[i]? =some x-> ∃c:List Value,c.length=k/\(∀q,q<k->W.cell? ⟨b,o+i*k+q,none⟩=c[q]?)/\jb W (r x) c:=λi x B=>by
  obtain⟨_,c,h1,S,h3⟩:=M i x B;refine⟨c,h1,λq G=>?_,h3⟩
  have:=S q G
  rwa [Addr.add_lit,Addr.add_lit] at this
 obtain⟨c,g,R,_⟩:=d 0 _ (bh (O:0<l.length));have s:=R 0 Y;rw[bh (O:0<c.length)] at s;have aQ:b<W.heap.size:=World.block_lt_of_cell? W ⟨b,_,none⟩ s;have U:(List.map r l).length=len:=by simpa using m
 have G:=b9.aa (w:=W) (X:=λ_=>False) (List.map r l) b o k E (λi j=>(W.cell? ⟨b,o+i*k+j,none⟩).getD undef) aQ (λh=>h) O ?_ ?_ ?_
 ·rw[U] at G;exact G
 ·intro V p;obtain⟨x,v,rfl⟩:=fY.1 p;obtain⟨i,B⟩:=hz.1 v;obtain⟨c,g,_,u⟩:=d i x B;rw[u.len,g]
 ·intro i q B G;obtain⟨c,g,R,_⟩:=d i _ (bh (O:i<l.length));rw[R q G,bh (O:q<c.length)];rfl
 intro i q V x p v;rw[dT] at p;obtain⟨z,N,rfl⟩:=Option.map_eq_some_iff.1 p;obtain⟨c,g,R,u⟩:=d i z N;have F:q<(r z).length:=(bt.1 v).1;rw[u.len] at F;have e:(W.cell? ⟨b,o+i*k+q,none⟩).getD undef=c[q]:=by rw[R q O,bh F];rfl
 show b9 W (λ_=>False) x ((W.cell? ⟨b,o+i*k+q,none⟩).getD undef);rw[e];exact u.at v (bh F)
def lI(P:Program)(t:TypeId)(k:Nat)(l:List (TypeId×Nat)):Prop:=P.cellsOf t=k/\ ∃a:Array Field,P.underlying t=some (.struct a)/\a.toList.map (λf=>(f.type,f.offset))=l
theorem nz{l:List (TypeId×Nat)}(e:lI P t k l){y:DataW H×List MemPlace}(h:DataW.trod enc P W 0 (λ_=>true) true n t c=some y):
  ∃j:Nat,n=j+1/\c.length=k/\ ∀(i:Nat) (a:TypeId) (o:Nat),l[i]? =some (a,o)-> ∃z,DataW.trod enc P W 0 (λ_=>true) true j a ((c.drop o).take (P.cellsOf a))=some z:=by
 obtain⟨x,m,p,q⟩:=e;obtain⟨r,j,rfl,_,A,B,s⟩:=DataW.trod_struct p h;refine⟨j,rfl,O,λi a o b=>?_⟩;rw[<-q,dT] at b;obtain⟨f,d,v⟩:=Option.map_eq_some_iff.1 b;cases v;have w:i<m.size:=by
  have:=(bt.1 d).1;simpa using this
 have:=s i f (by simpa using d);rw[bh (O:i<r.length)] at this;exact⟨_,this⟩
structure uF (P:Program) where
 I:TypeId
 S:TypeId
 q6:TypeId
 A:TypeId
 nm:TypeId
 C:TypeId
 E:TypeId
 wW:TypeId
 uK:TypeId
 w3:TypeId
 L:TypeId
 wY:TypeId
 uG:TypeId
 w1:TypeId
 R:TypeId
 w2:TypeId
 rF:TypeId
 vm:P.cellsOf I=1
 Av:P.cellsOf S=1
 Az:P.cellsOf q6=1
 Ay:P.cellsOf nm=1
 GW:P.cellsOf wW=1
 G0:P.cellsOf w3=1
 GX:P.cellsOf wY=1
 GY:P.cellsOf w1=1
 GZ:P.cellsOf w2=1
 q8:P.underlying I=some (.int .i64)
 Ce:P.underlying S=some .string
 Jx:P.underlying q6=some (.slice I)
 Jv:P.underlying nm=some (.slice A)
 Jw:P.underlying wW=some (.slice E)
 JB:P.underlying w3=some (.slice uK)
 Jy:P.underlying wY=some (.slice L)
 Jz:P.underlying w1=some (.slice uG)
 JA:P.underlying w2=some (.slice R)
 vu:lI P A 2 [(q6,0),(I,1)]
 vv:lI P C 2 [(S,0),(nm,1)]
 vw:lI P E 7 [(I,0),(I,1),(A,2),(C,4),(wW,6)]
 AJ:lI P uK 9 [(C,0),(E,2)]
 AE:lI P L 2 [(nm,0),(nm,1)]
 AG:lI P uG 2 [(wY,0),(w3,1)]
 AH:lI P R 2 [(S,0),(q6,1)]
 AF:lI P rF 2 [(w2,0),(w1,1)]
theorem p1(h:c.length=2): ∃a b,c=[a,b]:=by
 match c,h with
 | [a,b],_=>exact⟨a,b,rfl⟩
theorem Tr{i:List Value}(h:i.length=7): ∃a b c d e f g,i=[a,b,c,d,e,f,g]:=by
 match i,h with
 | [a,b,c,d,e,f,g],_=>exact⟨a,b,c,d,e,f,g,rfl⟩
theorem Tq{k:List Value}(h:k.length=9): ∃a b c d e f g i j,k=[a,b,c,d,e,f,g,i,j]:=by
 match k,h with
 | [a,b,c,d,e,f,g,i,j],_=>exact⟨a,b,c,d,e,f,g,i,j,rfl⟩
variable (K:uF P)
theorem Eo:iD H enc P W n K.q6 (λl:List Int=>[T.aa (List.map U l)]) (λl=>l.length<=maxLen):=λcs y h=>by obtain⟨l,a,b⟩:=po K.Jx K.vm O (λj _=>uw K.q8) cs y h;exact⟨l,a.1,b⟩
theorem Fa:iD H enc P W n K.A ag (hK maxLen):=λcs y h=>by obtain⟨j,rfl,k,d⟩:=nz K.vu h;obtain⟨a,b,rfl⟩:=p1 k;obtain⟨z,e⟩:=d 0 _ _ rfl;obtain⟨q,i⟩:=d 1 _ _ rfl;rw[K.Az] at e;rw[K.vm] at i;obtain⟨l,m,o⟩:=Eo K _ _ e;obtain⟨c,_,p⟩:=uw K.q8 _ _ i;exact⟨⟨l,c⟩,m,o.app p⟩
theorem yP:iD H enc P W n K.nm (λl:List az=>[T.aa (List.map ag l)]) (ib maxLen):=po K.Jv K.vu.1 O λj _=>Fa K
theorem Fb:iD H enc P W n K.C eh (kW maxLen):=λcs y h=>by obtain⟨j,rfl,m,e⟩:=nz K.vv h;obtain⟨a,b,rfl⟩:=p1 m;obtain⟨z,i⟩:=e 0 _ _ rfl;obtain⟨r,k⟩:=e 1 _ _ rfl;rw[K.Av] at i;rw[K.Ay] at k;obtain⟨l,o,p⟩:=FJ K.Ce _ _ i;obtain⟨c,d,q⟩:=yP K _ _ k;exact⟨⟨l,c⟩,⟨o,d⟩,p.app q⟩
theorem Ac{B:Nat}: ∀{m k:Nat} {e:Expr},gz B m e->m<=k->gz B k e
 |0,_,_,h,_=>h.elim
 |m+1,0,_,_,a=>O
 |m+1,k+1,e,h,a=>⟨h.1,h.2.1,h.2.2.1,λx b=>Ac (h.2.2.2 x b) O⟩
theorem Qo: ∀{n:Nat},iD H enc P W n K.E an (gz maxLen n):=fun {n}=>by
 induction n using Nat.strongRecOn with
 |_ n s=>
  intro cs y h;obtain⟨j,rfl,v,k⟩:=nz K.vw h;obtain⟨a,b,c,d,e,f,g,rfl⟩:=Tr v;obtain⟨M,l⟩:=k 0 _ _ rfl;obtain⟨N,m⟩:=k 1 _ _ rfl;obtain⟨S,o⟩:=k 2 _ _ rfl;obtain⟨T,p⟩:=k 3 _ _ rfl;obtain⟨U,q⟩:=k 4 _ _ rfl;rw[K.vm] at l m;rw[K.vu.1] at o;rw[K.vv.1] at p;rw[K.GW] at q;obtain⟨w,_,z⟩:=uw K.q8 _ _ l;obtain⟨A,_,B⟩:=uw K.q8 _ _ m;obtain⟨C,D,F⟩:=Fa K _ _ o;obtain⟨G,L,R⟩:=Fb K _ _ p;obtain⟨X,r,t⟩:=po (Q:=gz maxLen j) K.Jw K.vw.1 O (λi V cs y h=>by
   obtain⟨x,u,I⟩:=s i O cs y h;exact⟨x,Ac u O,I⟩) _ _ q
  refine⟨⟨w,A,C,G,X⟩,⟨D,L,r.1,r.2⟩,?_⟩;rw[cz];exact z.app (B.app (F.app (R.app t)))
theorem Ql(A:n<=m):iD H enc P W n K.uK aF (kY maxLen m):=λcs y h=>by obtain⟨j,rfl,r,l⟩:=nz K.AJ h;obtain⟨a,b,c,d,e,f,g,i,k,rfl⟩:=Tq r;obtain⟨B,o⟩:=l 0 _ _ rfl;obtain⟨C,p⟩:=l 1 _ _ rfl;rw[K.vv.1] at o;rw[K.vw.1] at p;obtain⟨s,v,w⟩:=Fb K _ _ o;obtain⟨x,z,q⟩:=Qo K _ _ p;rw[cz] at q;exact⟨⟨s,x⟩,⟨v,Ac z O⟩,w.app q⟩
theorem Sv:iD H enc P W n K.L aG (kX maxLen):=λcs y h=>by obtain⟨j,rfl,i,c⟩:=nz K.AE h;obtain⟨a,b,rfl⟩:=p1 i;obtain⟨z,d⟩:=c 0 _ _ rfl;obtain⟨r,e⟩:=c 1 _ _ rfl;rw[K.Ay] at d e;obtain⟨k,l,m⟩:=yP K _ _ d;obtain⟨o,p,q⟩:=yP K _ _ e;exact⟨⟨k,o⟩,⟨l,p⟩,m.app q⟩
theorem Qn(v:n<=m):iD H enc P W n K.uG aL (nV maxLen m):=λcs y h=>by obtain⟨j,rfl,k,c⟩:=nz K.AG h;obtain⟨a,b,rfl⟩:=p1 k;obtain⟨z,d⟩:=c 0 _ _ rfl;obtain⟨w,e⟩:=c 1 _ _ rfl;rw[K.GX] at d;rw[K.G0] at e;obtain⟨l,o,p⟩:=po K.Jy K.AE.1 O (λi _=>Sv K) _ _ d;obtain⟨q,r,s⟩:=po K.JB K.AJ.1 O (λi x=>Ql K (m:=m) O) _ _ e;exact⟨⟨l,q⟩,⟨o,r⟩,p.app s⟩
theorem QT:iD H enc P W n K.R aT (lJ maxLen):=λcs y h=>by obtain⟨j,rfl,i,c⟩:=nz K.AH h;obtain⟨a,b,rfl⟩:=p1 i;obtain⟨z,d⟩:=c 0 _ _ rfl;obtain⟨r,e⟩:=c 1 _ _ rfl;rw[K.Av] at d;rw[K.Az] at e;obtain⟨k,l,m⟩:=FJ K.Ce _ _ d;obtain⟨o,p,q⟩:=Eo K _ _ e;exact⟨⟨k,o⟩,⟨l,p⟩,m.app q⟩
theorem Qm:iD H enc P W n K.rF SY (gA maxLen n):=λcs y h=>by obtain⟨j,rfl,k,c⟩:=nz K.AF h;obtain⟨a,b,rfl⟩:=p1 k;obtain⟨z,d⟩:=c 0 _ _ rfl;obtain⟨v,e⟩:=c 1 _ _ rfl;rw[K.GZ] at d;rw[K.GY] at e;obtain⟨l,o,p⟩:=po K.JA K.AH.1 O (λi _=>QT K) _ _ d;obtain⟨q,r,s⟩:=po K.Jz K.AG.1 O (λi w=>Qn K (m:=j+1) O) _ _ e;exact⟨⟨l,q⟩,⟨o,r⟩,p.app s⟩
end
section
variable {H:Type}{enc:TypeId×Value->H}{P:Program}
variable {W:World}{i:Nat}{C:List V->Prop}{c:List TypeId}
theorem Oo{e3:World}(h:Ext (λ_=>False) W e3):Below W.heap.size W e3:=⟨h.os,h.tape,h.output,h.size,λk a=>h.keep k a λh=>h⟩
def yD(H:Type)(b:TypeId×Value->H)(P:Program)(W:World)(a:Nat)(t:TypeId)(D:V->Prop):Prop:=
 ∀(v:Value) (d:DataW H) (p:List MemPlace),Value.okWide P W .any a t v->DataW.Trod b P W 0 (λ_=>true) true t v d p-> ∃x,aS d7 W (λ_=>False) x v/\D x
def uv(H:Type)(b:TypeId×Value->H)(P:Program)(W:World)(a:Nat)(d:List TypeId)(C:List V->Prop):Prop:=
 ∀(c:List Value) (h:List (DataW H)) (i:List MemPlace),(∀(j:Nat) t v,d[j]? =some t->c[j]? =some v->Value.okWide P W .any a t v)->DataW.TrodAll b P W 0 (λ_=>true) true d c h i-> ∃e,cI d7 W (λ_=>False) e c/\C e
theorem Sw(h:C []):uv H enc P W i [] C:=λb c d _ a=>by obtain⟨rfl,_,_⟩:=trodAll_nil a;exact⟨[],trivial,h⟩
theorem zp{t:TypeId}{D:V->Prop}(n:yD H enc P W i t D)(o: ∀x,D x->uv H enc P W i c λb=>C (x::b)):uv H enc P W i (t::c) C:=λB F G m r=>by obtain⟨v,e,d,k,p,q,rfl,rfl,rfl,s,a⟩:=trodAll_cons r;obtain⟨x,w,y⟩:=n v d p (m 0 t v rfl rfl) s;obtain⟨b,l,z⟩:=o x y e k q (λj t v h A=>m (j+1) t v h A) a;exact⟨x::b,⟨w,l⟩,z⟩
theorem QU{k:Nat}(K:uF P):yD H enc P W k K.rF (λx=> ∃(m:Nat) (p:Prog),gA maxLen m p/\x=V.agg [ax aT p.bb,ax aL p.parts]):=λv d p a h=>by
 obtain⟨r,y,l,_⟩:=id K.AF;obtain⟨cs,rfl,o⟩:=okWide_struct l a;obtain⟨n,s⟩:=h;obtain⟨x,w,q⟩:=Qm K _ _ s;refine⟨_,.agg _ _ (by rw[o,r];rfl) λi c u b l=>?_,n,x,w,rfl⟩;have e:cs.toList[i]? =some u:=by simpa using l
 match i with
 |0=>simp at b;subst b;exact .t _ _ (q.at (j:=0) rfl e)
 |1=>simp at b;subst b;exact .t _ _ (q.at (j:=1) rfl e)
 |i+2=>simp at b
theorem F6(K:uF P):yD H enc P W i K.I (λx=> ∃k:Int,x=ab k):=λv d p a h=>by obtain⟨k,rfl⟩:=okWide_int K.q8 a;exact⟨_,.t _ _ (.int _ _),k,rfl⟩
theorem JG{W a:World}(e:laidOutB P=true)(r:Below W.heap.size W a): ∀{dW:List TypeId} {m:List Value} {i:List (DataW H)} {k:List MemPlace},(∀t∈dW,P.readableRec t=true/\t<P.types.size)->
  DataW.TrodAll enc P W 0 (λ_=>true) true dW m i k->(∀x∈k,x.block<W.heap.size)->i.length=dW.length/\DataW.TrodAll enc P a 0 (λb=>decide (b<W.heap.size)) true dW m i k
 | [],m,i,k,_,h,_=>by
  obtain⟨rfl,rfl,rfl⟩:=trodAll_nil h;exact⟨rfl,trodAll_mk0⟩
 |t::dW,m,i,k,s,h,l=>by obtain⟨v,w,d,y,p,q,rfl,rfl,rfl,z,c⟩:=trodAll_cons h;obtain⟨A,B⟩:=JG e r (λt n=>s t (dU _ n)) c λx o=>l x (nJ _ o);have n:=s t (ep ..);exact⟨by simp[A],trodAll_cons_mk (r.trod e n.1 n.2 z λx o=>l x (lv _ o)) B⟩
theorem Tn(h:c.all (λt=>P.readableRec t&&decide (t<P.types.size))=true): ∀t∈c,P.readableRec t=true/\t<P.types.size:=λt a=>by have:=gv.1 h t a;simp only[Bool.and_eq_true,decide_eq_true_eq] at this;exact this
theorem TT{f:FuncId}{d:Func}{s:ChangeSpec}{c:TypeId}{G:ef}{args:Array Value}{a k:List (DataW H)}{b:List MemPlace}(o:List TypeId)
  (F:d.params=o.toArray) (g:d.resultTypes= #[c]) (E:P.underlying c=some .bool) (K:s.vars=[]) (r: ∀a:List (DataW H),a.length=o.length->s.fn H a={results:=[.lit (.bool true)],args:=a})
  (w:laidOutB P=true) (y: ∀t∈o,P.readableRec t=true/\t<P.types.size)
  (l: ∀(j:Nat) t v,d.params[j]? =some t->args[j]? =some v->Value.okWide P W .any i t v) (L:DataW.Whole enc P d.params.toList s.vars false W args.toList a k b) (I:G.ok W)
  (z:uv H enc P W i o λQ=>hJ P G f Q (aZ true)):Calls P f args W λe e3=> ∃v,e= .returned v/\s.post enc P d false true false false W args v e3:=by
 have n:=L;obtain⟨p,q,m,R,rfl,M,N⟩:=L;rw[K] at R;obtain⟨rfl,rfl⟩:=trodVars_none R;rw[F] at l m;obtain⟨Q,A,B⟩:=z args.toList a p (λj t v h S=>l j t v (by simpa using h) (by simpa using S)) m;refine(B.2 W (λ_=>False) args.toList I (λ_ h=>h.elim) A).mono ?_;rintro e e3 ⟨u,rfl,X,T⟩;obtain rfl:=Rj T;obtain⟨C,D⟩:=JG w (Oo X) y m λx U=>n.lt x (by simp[U]);refine⟨_,rfl,a,[],p++[],[],p,[],n,?_,?_,?_,PT X _,λh=>by cases h⟩
 ·rw[g,kn,r a C];exact trodAll_mk1 (shut_bool E _)
 ·rw[F,kn,r a C];exact D
 rw[K,kn,r a C];exact rfl
end
end Go.Lift
