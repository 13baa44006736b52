/- Tools. -/
import Derived.Test.YteifkndfpnkalabGreatXLiftRow
import Derived.Test.YteifkndfpnkalabGreatXDist1
import Derived.ChangeArms
import Derived.DataReads
import Derived.Carry
set_option maxRecDepth 100000
set_option linter.unusedVariables false
namespace Go.Lift
open Go Go.ChangeShapes Go.WideShapes Go.ChangeAt Go.RowKit
open Option renaming some -> aa
open Bool renaming true -> ab
section
variable {H:Type}{enc:TypeId×Value->H}{P:Program}
def lz(W:World):List T->List Value->Prop
 | [],[]=>True
 |t::l,v::cs=>c7 W (λ_=>False) t v/\lz W l cs
 |_,_=>False
variable {W:World}{n k m:Nat}{t:TypeId}{c p:List Value}
theorem lz.len: ∀{l:List T} {cs:List Value},lz W l cs->l.length=cs.length
 | [],[],_=>rfl
 |t::l,v::cs,h=>by simp[h.2.len]
 | [],_::_,h=>h.elim
 |_::_,[],h=>h.elim
theorem lz.at{W:World}: ∀{l:List T} {cs:List Value},lz W l cs-> ∀{j:Nat} {t:T} {v:Value},l[j]? =aa t->cs[j]? =aa v->c7 W (λ_=>False) t v
 | [],[],_,j,t,v,a,_=>by simp at a
 |t::l,v::cs,h,0,c,d,a,b=>by simp at a b;subst a;subst b;exact h.1
 |t::l,v::cs,h,j+1,c,d,a,b=>lz.at h.2 (j:=j) (by simpa using a) (by simpa using b)
 | [],_::_,h,_,_,_,_,_=>h.elim
 |_::_,[],h,_,_,_,_,_=>h.elim
theorem lz.app: ∀{l b:List T} {cs a:List Value},lz W l cs->lz W b a->lz W (l++b) (cs++a)
 | [],_,[],_,_,h=>h
 |t::l,_,v::cs,_,h,c=>⟨h.1,h.2.app c⟩
 | [],_,_::_,_,h,_=>h.elim
 |_::_,_,[],_,h,_=>h.elim
def ku(H:Type)(a:TypeId×Value->H)(P:Program)(W:World)(n:Nat)(t:TypeId){k:Type}(r:k->List T)(Q:k->Prop):Prop:=
 ∀cs y,DataW.trod a P W 0 (λ_=>ab) ab n t cs=aa y-> ∃x:k,Q x/\lz W (r x) cs
theorem rX(a:P.underlying t=aa (.int .i64)):ku H enc P W n t (λx:Int=>[T.int .i64 x]) (λ_=>True):=λcs y h=>by obtain⟨k,rfl,_,_⟩:=DataW.trod_int a h;exact⟨k,trivial,.int _ _,trivial⟩
theorem O9(a:P.underlying t=aa .string):ku H enc P W n t (λx:List UInt8=>[T.str x]) (λx=>x.length<=maxLen):=λcs y h=>by obtain⟨s,rfl,_,b⟩:=DataW.trod_string a h;exact⟨s.data.toList,by show s.data.toList.length<=maxLen;rw[l3];exact b,.str _,trivial⟩
theorem acF{k:Type}{β:Type}{R:Nat->k->Prop}(h: ∀i,i<m-> ∃x,R i x): ∃l:List k,l.length=m/\ ∀i x,l[i]? =aa x->R i x:=by
 induction m with
 |zero=>exact⟨[],rfl,λi x b=>by simp at b⟩
 |succ m d=>
  obtain⟨l,c,e⟩:=d λi n=>h i O;obtain⟨x,b⟩:=h m O;refine⟨l++[x],by simp[c],λi y a=>?_⟩;by_cases n:i<m
  ·rw[hz O] at a;exact e i y a
  rw[ic O] at a
  have:i=m:=by
   have:=(d6.1 a).1;simp at this;omega
  subst this;simp[c] at a;subst a;exact b
theorem sl{e:TypeId}{g:Type}{r:g->List T}{Q:g->Prop}(fo:P.underlying t=aa (.slice e))(hk:P.cellsOf e=k)(Y:0<k)(he: ∀j,j<n->ku H enc P W j e r Q):
  ku H enc P W n t (λl:List g=>[T.bH (List.map r l)]) (λl=>l.length<=maxLen/\ ∀x∈l,Q x):=λcs y h=>by
 rcases DataW.trod_slice fo h with ⟨rfl,_⟩|⟨a,len,E,F,rest,j,rfl,rfl,_,_,cS,hm,ajY,B,_,_⟩
 ·exact⟨[],⟨Nat.zero_le _,λx A=>by simp at A⟩,.gd _ _,trivial⟩
 rw[hk] at B;have R: ∀i,i<len-> ∃x:g,Q x/\ ∃c:List Value,c.length=k/\(∀q,q<k->W.cell? ((a.add (i*k)).add q)=c[q]?)/\lz W (r x) c:=λi C=>by
  have bV:=B i C;rw[bD (O:i<F.length)] at bV;obtain⟨c,I,cJ⟩:=zP.1 bV;obtain⟨x,A,b6⟩:=he j O c _ cJ;obtain⟨_,m,bU⟩:=World.cells?_some I;exact⟨x,A,c,m,bU,b6⟩
 obtain⟨l,m,M⟩:=acF (β:=Unit) R;refine⟨l,⟨O,λx A=>?_⟩,?_,trivial⟩
 ·obtain⟨i,C⟩:=jq.1 A;exact(M i x C).1
 by_cases N:len=0
 ·subst N;obtain rfl:=List.length_eq_zero_iff.1 m;exact .gd _ _
 have D:a.spot=none:=by
  obtain⟨_,c,h1,S,_⟩:=M 0 _ (bD (O:0<l.length));have s:=S 0 Y;rw[bD (O:0<c.length)] at s;simpa[Addr.add] using World.cell?_spot s
 obtain⟨b,o,alm⟩:=a;dsimp only at D;subst D;have d: ∀i x,l[i]? =aa x-> ∃c:List Value,c.length=k/\(∀q,q<k->W.cell? ⟨b,o+i*k+q,none⟩=c[q]?)/\lz W (r x) c:=λi x C=>by
  obtain⟨_,c,h1,S,h3⟩:=M i x C;refine⟨c,h1,λq L=>?_,h3⟩
  have:=S q L
  rwa [Addr.add_lit,Addr.add_lit] at this
 obtain⟨c,u,f,_⟩:=d 0 _ (bD (O:0<l.length));have s:=f 0 Y;rw[bD (O:0<c.length)] at s;have bw:b<W.heap.size:=World.block_lt_of_cell? W ⟨b,_,none⟩ s;have U:(List.map r l).length=len:=by simpa using m
 have L:=c7.bH (w:=W) (X:=λ_=>False) (List.map r l) b o k E (λi j=>(W.cell? ⟨b,o+i*k+j,none⟩).getD undef) bw (λh=>h) O ?_ ?_ ?_
 ·rw[U] at L;exact L
 ·intro V p;obtain⟨x,A,rfl⟩:=eH.1 p;obtain⟨i,C⟩:=jq.1 A;obtain⟨c,u,_,v⟩:=d i x C;rw[v.len,u]
 ·intro i q C L;obtain⟨c,u,f,_⟩:=d i _ (bD (O:i<l.length));rw[f q L,bD (O:q<c.length)];rfl
 intro i q V x p A;rw[eG] at p;obtain⟨z,N,rfl⟩:=Option.map_eq_some_iff.1 p;obtain⟨c,u,f,v⟩:=d i z N;have G:q<(r z).length:=(d6.1 A).1;rw[v.len] at G;have e:(W.cell? ⟨b,o+i*k+q,none⟩).getD undef=c[q]:=by rw[f q O,bD G];rfl
 show c7 W (λ_=>False) x ((W.cell? ⟨b,o+i*k+q,none⟩).getD undef);rw[e];exact v.at A (bD G)
def mo(P:Program)(t:TypeId)(k:Nat)(l:List (TypeId×Nat)):Prop:=P.cellsOf t=k/\ ∃a:Array Field,P.underlying t=aa (.struct a)/\a.toList.map (λf=>(f.type,f.offset))=l
theorem pa{l:List (TypeId×Nat)}(e:mo P t k l){y:DataW H×List MemPlace}(h:DataW.trod enc P W 0 (λ_=>ab) ab n t c=aa y):
  ∃j:Nat,n=j+1/\c.length=k/\ ∀(i:Nat) (a:TypeId) (o:Nat),l[i]? =aa (a,o)-> ∃z,DataW.trod enc P W 0 (λ_=>ab) ab j a ((c.drop o).take (P.cellsOf a))=aa z:=by
 obtain⟨A,m,p,q⟩:=e;obtain⟨r,j,rfl,_,B,C,s⟩:=DataW.trod_struct p h;refine⟨j,rfl,O,λi a o b=>?_⟩;rw[<-q,eG] at b;obtain⟨f,d,w⟩:=Option.map_eq_some_iff.1 b;cases w;have x:i<m.size:=by
  have:=(d6.1 d).1;simpa using this
 have:=s i f (by simpa using d);rw[bD (O:i<r.length)] at this;exact⟨_,this⟩
structure xU (P:Program) where
 I:TypeId
 S:TypeId
 wT:TypeId
 A:TypeId
 gK:TypeId
 C:TypeId
 E:TypeId
 D2:TypeId
 Bl:TypeId
 D6:TypeId
 L:TypeId
 D3:TypeId
 A5:TypeId
 D4:TypeId
 R:TypeId
 D5:TypeId
 xV:TypeId
 yy:P.cellsOf I=1
 IY:P.cellsOf S=1
 I5:P.cellsOf wT=1
 I4:P.cellsOf gK=1
 Q1:P.cellsOf D2=1
 Q5:P.cellsOf D6=1
 Q2:P.cellsOf D3=1
 Q3:P.cellsOf D4=1
 Q4:P.cellsOf D5=1
 qc:P.underlying I=aa (.int .i64)
 Kp:P.underlying S=aa .string
 Tu:P.underlying wT=aa (.slice I)
 Ts:P.underlying gK=aa (.slice A)
 Tt:P.underlying D2=aa (.slice E)
 Ty:P.underlying D6=aa (.slice Bl)
 Tv:P.underlying D3=aa (.slice L)
 Tw:P.underlying D4=aa (.slice A5)
 Tx:P.underlying D5=aa (.slice R)
 C':mo P A 2 [(wT,0),(I,1)]
 Da:mo P C 2 [(S,0),(gK,1)]
 Db:mo P E 7 [(I,0),(I,1),(A,2),(C,4),(D2,6)]
 Jb:mo P Bl 9 [(C,0),(E,2)]
 I8:mo P L 2 [(gK,0),(gK,1)]
 I':mo P A5 2 [(D3,0),(D6,1)]
 Ja:mo P R 2 [(S,0),(wT,1)]
 I9:mo P xV 2 [(D5,0),(D4,1)]
theorem ve(h:c.length=2): ∃a b,c=[a,b]:=by
 match c,h with
 | [a,b],_=>exact⟨a,b,rfl⟩
theorem Uh(h:p.length=7): ∃a b c d e f g,p=[a,b,c,d,e,f,g]:=by
 match p,h with
 | [a,b,c,d,e,f,g],_=>exact⟨a,b,c,d,e,f,g,rfl⟩
theorem Ug(h:p.length=9): ∃a b c d e f g i j,p=[a,b,c,d,e,f,g,i,j]:=by
 match p,h with
 | [a,b,c,d,e,f,g,i,j],_=>exact⟨a,b,c,d,e,f,g,i,j,rfl⟩
variable (K:xU P)
theorem Oh:ku H enc P W n K.wT (λl:List Int=>[T.bH (List.map ai l)]) (λl=>l.length<=maxLen):=λcs y h=>by obtain⟨l,a,b⟩:=sl K.Tu K.yy O (λj _=>rX K.qc) cs y h;exact⟨l,a.1,b⟩
theorem OG:ku H enc P W n K.A aq (jT maxLen):=λcs y h=>by obtain⟨j,rfl,k,d⟩:=pa K.C' h;obtain⟨a,b,rfl⟩:=ve k;obtain⟨z,e⟩:=d 0 _ _ rfl;obtain⟨q,i⟩:=d 1 _ _ rfl;rw[K.I5] at e;rw[K.yy] at i;obtain⟨l,m,o⟩:=Oh K _ _ e;obtain⟨c,_,p⟩:=rX K.qc _ _ i;exact⟨⟨l,c⟩,m,o.app p⟩
theorem G5:ku H enc P W n K.gK (λl:List aE=>[T.bH (List.map aq l)]) (kv maxLen):=sl K.Ts K.C'.1 O λj _=>OG K
theorem OH:ku H enc P W n K.C eI (oc maxLen):=λcs y h=>by obtain⟨j,rfl,m,e⟩:=pa K.Da h;obtain⟨a,b,rfl⟩:=ve m;obtain⟨z,i⟩:=e 0 _ _ rfl;obtain⟨r,k⟩:=e 1 _ _ rfl;rw[K.IY] at i;rw[K.I4] at k;obtain⟨l,o,p⟩:=O9 K.Kp _ _ i;obtain⟨c,d,q⟩:=G5 K _ _ k;exact⟨⟨l,c⟩,⟨o,d⟩,p.app q⟩
theorem Is{B:Nat}: ∀{m k:Nat} {e:Expr},iM B m e->m<=k->iM B k e
 |0,_,_,h,_=>h.elim
 |m+1,0,_,_,a=>O
 |m+1,k+1,e,h,a=>⟨h.1,h.2.1,h.2.2.1,λx b=>Is (h.2.2.2 x b) O⟩
theorem acb: ∀{n:Nat},ku H enc P W n K.E aI (iM maxLen n):=fun {n}=>by
 induction n using Nat.strongRecOn with
 |_ n s=>
  intro cs y h;obtain⟨j,rfl,w,k⟩:=pa K.Db h;obtain⟨a,b,c,d,e,f,g,rfl⟩:=Uh w;obtain⟨M,l⟩:=k 0 _ _ rfl;obtain⟨N,m⟩:=k 1 _ _ rfl;obtain⟨S,o⟩:=k 2 _ _ rfl;obtain⟨T,p⟩:=k 3 _ _ rfl;obtain⟨U,q⟩:=k 4 _ _ rfl;rw[K.yy] at l m;rw[K.C'.1] at o;rw[K.Da.1] at p;rw[K.Q1] at q;obtain⟨z,_,A⟩:=rX K.qc _ _ l;obtain⟨B,_,C⟩:=rX K.qc _ _ m;obtain⟨D,F,G⟩:=OG K _ _ o;obtain⟨L,R,X⟩:=OH K _ _ p;obtain⟨t,r,u⟩:=sl (Q:=iM maxLen j) K.Tt K.Db.1 O (λi V cs y h=>by
   obtain⟨x,v,I⟩:=s i O cs y h;exact⟨x,Is v O,I⟩) _ _ q
  refine⟨⟨z,B,D,L,t⟩,⟨F,R,r.1,r.2⟩,?_⟩;rw[cQ];exact A.app (C.app (G.app (X.app u)))
theorem acH(B:n<=m):ku H enc P W n K.Bl ax (oe maxLen m):=λcs y h=>by obtain⟨j,rfl,r,l⟩:=pa K.Jb h;obtain⟨a,b,c,d,e,f,g,i,k,rfl⟩:=Ug r;obtain⟨C,o⟩:=l 0 _ _ rfl;obtain⟨D,p⟩:=l 1 _ _ rfl;rw[K.Da.1] at o;rw[K.Db.1] at p;obtain⟨s,w,x⟩:=OH K _ _ o;obtain⟨z,A,q⟩:=acb K _ _ p;rw[cQ] at q;exact⟨⟨s,z⟩,⟨w,Is A O⟩,x.app q⟩
theorem afp:ku H enc P W n K.L av (od maxLen):=λcs y h=>by obtain⟨j,rfl,i,c⟩:=pa K.I8 h;obtain⟨a,b,rfl⟩:=ve i;obtain⟨z,d⟩:=c 0 _ _ rfl;obtain⟨r,e⟩:=c 1 _ _ rfl;rw[K.I4] at d e;obtain⟨k,l,m⟩:=G5 K _ _ d;obtain⟨o,p,q⟩:=G5 K _ _ e;exact⟨⟨k,o⟩,⟨l,p⟩,m.app q⟩
theorem acK(w:n<=m):ku H enc P W n K.A5 an (sf maxLen m):=λcs y h=>by obtain⟨j,rfl,k,c⟩:=pa K.I' h;obtain⟨a,b,rfl⟩:=ve k;obtain⟨z,d⟩:=c 0 _ _ rfl;obtain⟨x,e⟩:=c 1 _ _ rfl;rw[K.Q2] at d;rw[K.Q5] at e;obtain⟨l,o,p⟩:=sl K.Tv K.I8.1 O (λi _=>afp K) _ _ d;obtain⟨q,r,s⟩:=sl K.Ty K.Jb.1 O (λi A=>acH K (m:=m) O) _ _ e;exact⟨⟨l,q⟩,⟨o,r⟩,p.app s⟩
theorem aen:ku H enc P W n K.R a6 (pe maxLen):=λcs y h=>by obtain⟨j,rfl,i,c⟩:=pa K.Ja h;obtain⟨a,b,rfl⟩:=ve i;obtain⟨z,d⟩:=c 0 _ _ rfl;obtain⟨r,e⟩:=c 1 _ _ rfl;rw[K.IY] at d;rw[K.I5] at e;obtain⟨k,l,m⟩:=O9 K.Kp _ _ d;obtain⟨o,p,q⟩:=Oh K _ _ e;exact⟨⟨k,o⟩,⟨l,p⟩,m.app q⟩
theorem acJ:ku H enc P W n K.xV fc (iN maxLen n):=λcs y h=>by obtain⟨j,rfl,k,c⟩:=pa K.I9 h;obtain⟨a,b,rfl⟩:=ve k;obtain⟨z,d⟩:=c 0 _ _ rfl;obtain⟨w,e⟩:=c 1 _ _ rfl;rw[K.Q4] at d;rw[K.Q3] at e;obtain⟨l,o,p⟩:=sl K.Tx K.Ja.1 O (λi _=>aen K) _ _ d;obtain⟨q,r,s⟩:=sl K.Tw K.I'.1 O (λi x=>acK K (m:=j+1) O) _ _ e;exact⟨⟨l,q⟩,⟨o,r⟩,p.app s⟩
end
section
variable {H:Type}{enc:TypeId×Value->H}{P:Program}
variable {W:World}{i:Nat}{C:List V->Prop}{c:List TypeId}
theorem aa1{gy:World}(h:Ext (λ_=>False) W gy):Below W.heap.size W gy:=⟨h.os,h.tape,h.output,h.size,λk a=>h.keep k a λh=>h⟩
def Fo(H:Type)(b:TypeId×Value->H)(P:Program)(W:World)(a:Nat)(t:TypeId)(D:V->Prop):Prop:=
 ∀(v:Value) (d:DataW H) (p:List MemPlace),Value.okWide P W .any a t v->DataW.Trod b P W 0 (λ_=>ab) ab t v d p-> ∃x,bC fE W (λ_=>False) x v/\D x
def AY(H:Type)(b:TypeId×Value->H)(P:Program)(W:World)(a:Nat)(d:List TypeId)(C:List V->Prop):Prop:=
 ∀(c:List Value) (h:List (DataW H)) (i:List MemPlace),(∀(j:Nat) t v,d[j]? =aa t->c[j]? =aa v->Value.okWide P W .any a t v)->DataW.TrodAll b P W 0 (λ_=>ab) ab d c h i-> ∃e,du fE W (λ_=>False) e c/\C e
theorem afq(h:C []):AY H enc P W i [] C:=λb c d _ a=>by obtain⟨rfl,_,_⟩:=trodAll_nil a;exact⟨[],trivial,h⟩
theorem OI{t:TypeId}{D:V->Prop}(n:Fo H enc P W i t D)(o: ∀x,D x->AY H enc P W i c λb=>C (x::b)):AY H enc P W i (t::c) C:=λB F G m r=>by obtain⟨v,e,d,k,p,q,rfl,rfl,rfl,s,a⟩:=trodAll_cons r;obtain⟨x,w,y⟩:=n v d p (m 0 t v rfl rfl) s;obtain⟨b,l,z⟩:=o x y e k q (λj t v h A=>m (j+1) t v h A) a;exact⟨x::b,⟨w,l⟩,z⟩
theorem aep{k:Nat}(K:xU P):Fo H enc P W k K.xV (λx=> ∃(m:Nat) (p:Prog),iN maxLen m p/\x=V.agg [aJ a6 p.bb,aJ an p.parts]):=λv d p a h=>by
 obtain⟨r,y,l,_⟩:=id K.I9;obtain⟨cs,rfl,o⟩:=okWide_struct l a;obtain⟨n,s⟩:=h;obtain⟨x,w,q⟩:=acJ K _ _ s;refine⟨_,.agg _ _ (by rw[o,r];rfl) λi c u b l=>?_,n,x,w,rfl⟩;have e:cs.toList[i]? =aa u:=by simpa using l
 match i with
 |0=>simp at b;subst b;exact .t _ _ (q.at (j:=0) rfl e)
 |1=>simp at b;subst b;exact .t _ _ (q.at (j:=1) rfl e)
 |i+2=>simp at b
theorem K8{W a:World}(e:laidOutB P=ab)(r:Below W.heap.size W a): ∀{e3:List TypeId} {m:List Value} {i:List (DataW H)} {k:List MemPlace},(∀t∈e3,P.readableRec t=ab/\t<P.types.size)->
  DataW.TrodAll enc P W 0 (λ_=>ab) ab e3 m i k->(∀x∈k,x.block<W.heap.size)->i.length=e3.length/\DataW.TrodAll enc P a 0 (λb=>decide (b<W.heap.size)) ab e3 m i k
 | [],m,i,k,_,h,_=>by
  obtain⟨rfl,rfl,rfl⟩:=trodAll_nil h;exact⟨rfl,trodAll_mk0⟩
 |t::e3,m,i,k,s,h,l=>by obtain⟨v,w,d,y,p,q,rfl,rfl,rfl,z,c⟩:=trodAll_cons h;obtain⟨A,B⟩:=K8 e r (λt n=>s t (eW _ n)) c λx o=>l x (o4 _ o);have n:=s t (fh ..);exact⟨by simp[A],trodAll_cons_mk (r.trod e n.1 n.2 z λx o=>l x (nU _ o)) B⟩
theorem afb(h:c.all (λt=>P.readableRec t&&decide (t<P.types.size))=ab): ∀t∈c,P.readableRec t=ab/\t<P.types.size:=λt a=>by have:=gx.1 h t a;simp only[Bool.and_eq_true,decide_eq_true_eq] at this;exact this
theorem Us{f:FuncId}{d:Func}{s:ChangeSpec}{c:TypeId}{G:fg}{args:Array Value}{a k:List (DataW H)}{b:List MemPlace}(o:List TypeId)
  (F:d.params=o.toArray) (g:d.resultTypes= #[c]) (E:P.underlying c=aa .bool) (K:s.vars=[]) (r: ∀a:List (DataW H),a.length=o.length->s.fn H a={results:=[.lit (.bool ab)],args:=a})
  (w:laidOutB P=ab) (y: ∀t∈o,P.readableRec t=ab/\t<P.types.size)
  (l: ∀(j:Nat) t v,d.params[j]? =aa t->args[j]? =aa v->Value.okWide P W .any i t v) (L:DataW.Whole enc P d.params.toList s.vars false W args.toList a k b) (I:G.ok W)
  (z:AY H enc P W i o λQ=>jS P G f Q (aY ab)):Calls P f args W λe gy=> ∃v,e= .returned v/\s.post enc P d false ab false false W args v gy:=by
 have n:=L;obtain⟨p,q,m,R,rfl,M,N⟩:=L;rw[K] at R;obtain⟨rfl,rfl⟩:=trodVars_none R;rw[F] at l m;obtain⟨Q,A,B⟩:=z args.toList a p (λj t v h S=>l j t v (by simpa using h) (by simpa using S)) m;refine(B.2 W (λ_=>False) args.toList I (λ_ h=>h.elim) A).mono ?_;rintro e gy ⟨u,rfl,X,T⟩;obtain rfl:=aei T;obtain⟨C,D⟩:=K8 w (aa1 X) y m λx U=>n.lt x (by simp[U]);refine⟨_,rfl,a,[],p++[],[],p,[],n,?_,?_,?_,acZ X _,λh=>by cases h⟩
 ·rw[g,jr,r a C];exact trodAll_mk1 (shut_bool E _)
 ·rw[F,jr,r a C];exact D
 rw[K,jr,r a C];exact rfl
end
section
variable {H:Type}{enc:TypeId×Value->H}{P:Program}
variable {W:World}{t:TypeId}
theorem acI{n:Nat}(K:xU P)(m:mo P t 4 [(K.I,0),(K.I,1),(K.I,2),(K.I,3)]):ku H enc P W n t Ir (λ_=>True):=λcs y o=>by
 obtain⟨j,rfl,p,e⟩:=pa m o;obtain⟨C,D,F,G,rfl⟩: ∃a b c d,cs=[a,b,c,d]:=by
  match cs,p with
  | [a,b,c,d],_=>exact⟨a,b,c,d,rfl⟩
 obtain⟨L,h⟩:=e 0 _ _ rfl;obtain⟨Q,i⟩:=e 1 _ _ rfl;obtain⟨R,k⟩:=e 2 _ _ rfl;obtain⟨X,l⟩:=e 3 _ _ rfl;rw[K.yy] at h i k l;obtain⟨q,_,r⟩:=rX K.qc _ _ h;obtain⟨s,_,w⟩:=rX K.qc _ _ i;obtain⟨x,_,z⟩:=rX K.qc _ _ k;obtain⟨A,_,B⟩:=rX K.qc _ _ l;exact⟨⟨q,s,x,A⟩,trivial,r.at (j:=0) rfl rfl,w.at (j:=0) rfl rfl,z.at (j:=0) rfl rfl,B.at (j:=0) rfl rfl,trivial⟩
theorem aeo{k:Nat}(K:xU P)(s:mo P t 4 [(K.I,0),(K.I,1),(K.I,2),(K.I,3)]):Fo H enc P W k t (λx=> ∃y:Step,x=V.agg [Y y.kind,Y y.part,Y y.a,Y y.b]):=λv d p m h=>by
 obtain⟨w,A,q,_⟩:=id s;obtain⟨cs,rfl,r⟩:=okWide_struct q m;obtain⟨n,z⟩:=h;obtain⟨x,_,o⟩:=acI K s _ _ z;refine⟨_,.agg _ _ (by rw[r,w];rfl) λi c u e q=>?_,x,rfl⟩;have l:(Value.agg cs).cells.toList[i]? =aa u:=by simpa[Value.cells] using q
 match i with
 |0=>simp at e;subst e;exact .t _ _ (o.at (j:=0) rfl l)
 |1=>simp at e;subst e;exact .t _ _ (o.at (j:=1) rfl l)
 |2=>simp at e;subst e;exact .t _ _ (o.at (j:=2) rfl l)
 |3=>simp at e;subst e;exact .t _ _ (o.at (j:=3) rfl l)
 |i+4=>simp at e
end
end Go.Lift
