/- Tools. -/
import Derived.Test.YteifkndfpnkalabGreatVLiftRow
import Derived.Test.YteifkndfpnkalabGreatVDist1
import Derived.ChangeArms
import Derived.DataReads
import Derived.Carry
set_option maxRecDepth 100000
set_option linter.unusedVariables false
namespace Go.Lift
open Go Go.ChangeShapes Go.WideShapes Go.ChangeAt Go.RowKit
open Option renaming some -> aa
open Bool renaming true -> ab
section
variable {H:Type}{enc:TypeId×Value->H}{P:Program}
def lE(W:World):List T->List Value->Prop
 | [],[]=>True
 |t::l,v::cs=>c8 W (λ_=>False) t v/\lE W l cs
 |_,_=>False
variable {W:World}{n k m:Nat}{t:TypeId}{p:List Value}
theorem lE.len: ∀{l:List T} {cs:List Value},lE W l cs->l.length=cs.length
 | [],[],_=>rfl
 |t::l,v::cs,h=>by simp[h.2.len]
 | [],_::_,h=>h.elim
 |_::_,[],h=>h.elim
theorem lE.at{W:World}: ∀{l:List T} {cs:List Value},lE W l cs-> ∀{j:Nat} {t:T} {v:Value},l[j]? =aa t->cs[j]? =aa v->c8 W (λ_=>False) t v
 | [],[],_,j,t,v,a,_=>by simp at a
 |t::l,v::cs,h,0,c,d,a,b=>by simp at a b;subst a;subst b;exact h.1
 |t::l,v::cs,h,j+1,c,d,a,b=>lE.at h.2 (j:=j) (by simpa using a) (by simpa using b)
 | [],_::_,h,_,_,_,_,_=>h.elim
 |_::_,[],h,_,_,_,_,_=>h.elim
theorem lE.app: ∀{l b:List T} {cs a:List Value},lE W l cs->lE W b a->lE W (l++b) (cs++a)
 | [],_,[],_,_,h=>h
 |t::l,_,v::cs,_,h,c=>⟨h.1,h.2.app c⟩
 | [],_,_::_,_,h,_=>h.elim
 |_::_,_,[],_,h,_=>h.elim
def ky(H:Type)(a:TypeId×Value->H)(P:Program)(W:World)(n:Nat)(t:TypeId){k:Type}(r:k->List T)(Q:k->Prop):Prop:=
 ∀cs y,DataW.trod a P W 0 (λ_=>ab) ab n t cs=aa y-> ∃x:k,Q x/\lE W (r x) cs
theorem rO(a:P.underlying t=aa (.int .i64)):ky H enc P W n t (λx:Int=>[T.int .i64 x]) (λ_=>True):=λcs y h=>by obtain⟨k,rfl,_,_⟩:=DataW.trod_int a h;exact⟨k,trivial,.int _ _,trivial⟩
theorem OM(a:P.underlying t=aa .string):ky H enc P W n t (λx:List UInt8=>[T.str x]) (λx=>x.length<=maxLen):=λcs y h=>by obtain⟨s,rfl,_,b⟩:=DataW.trod_string a h;exact⟨s.data.toList,by show s.data.toList.length<=maxLen;rw[l7];exact b,.str _,trivial⟩
theorem acx{k:Type}{β:Type}{R:Nat->k->Prop}(h: ∀i,i<m-> ∃x,R i x): ∃l:List k,l.length=m/\ ∀i x,l[i]? =aa x->R i x:=by
 induction m with
 |zero=>exact⟨[],rfl,λi x b=>by simp at b⟩
 |succ m d=>
  obtain⟨l,c,e⟩:=d λi n=>h i O;obtain⟨x,b⟩:=h m O;refine⟨l++[x],by simp[c],λi y a=>?_⟩;by_cases n:i<m
  ·rw[hz O] at a;exact e i y a
  rw[hS O] at a
  have:i=m:=by
   have:=(d0.1 a).1;simp at this;omega
  subst this;simp[c] at a;subst a;exact b
theorem qk{e:TypeId}{g:Type}{r:g->List T}{Q:g->Prop}(fo:P.underlying t=aa (.slice e))(hk:P.cellsOf e=k)(Y:0<k)(he: ∀j,j<n->ky H enc P W j e r Q):
  ky H enc P W n t (λl:List g=>[T.bG (List.map r l)]) (λl=>l.length<=maxLen/\ ∀x∈l,Q x):=λcs y h=>by
 rcases DataW.trod_slice fo h with ⟨rfl,_⟩|⟨a,len,E,F,rest,j,rfl,rfl,_,_,hl,hm,aj1,B,_,_⟩
 ·exact⟨[],⟨Nat.zero_le _,λx A=>by simp at A⟩,.gh _ _,trivial⟩
 rw[hk] at B;have R: ∀i,i<len-> ∃x:g,Q x/\ ∃c:List Value,c.length=k/\(∀q,q<k->W.cell? ((a.add (i*k)).add q)=c[q]?)/\lE W (r x) c:=λi C=>by
  have bV:=B i C;rw[bC (O:i<F.length)] at bV;obtain⟨c,I,cI⟩:=zM.1 bV;obtain⟨x,A,b5⟩:=he j O c _ cI;obtain⟨_,m,bW⟩:=World.cells?_some I;exact⟨x,A,c,m,bW,b5⟩
 obtain⟨l,m,M⟩:=acx (β:=Unit) R;refine⟨l,⟨O,λx A=>?_⟩,?_,trivial⟩
 ·obtain⟨i,C⟩:=jq.1 A;exact(M i x C).1
 by_cases N:len=0
 ·subst N;obtain rfl:=List.length_eq_zero_iff.1 m;exact .gh _ _
 have D:a.spot=none:=by
  obtain⟨_,c,h1,S,_⟩:=M 0 _ (bC (O:0<l.length));have s:=S 0 Y;rw[bC (O:0<c.length)] at s;simpa[Addr.add] using World.cell?_spot s
 obtain⟨b,o,alx⟩:=a;dsimp only at D;subst D;have d: ∀i x,l[i]? =aa x-> ∃c:List Value,c.length=k/\(∀q,q<k->W.cell? ⟨b,o+i*k+q,none⟩=c[q]?)/\lE W (r x) c:=λi x C=>by
  obtain⟨_,c,h1,S,h3⟩:=M i x C;refine⟨c,h1,λq L=>?_,h3⟩
  have:=S q L
  rwa [Addr.add_lit,Addr.add_lit] at this
 obtain⟨c,u,f,_⟩:=d 0 _ (bC (O:0<l.length));have s:=f 0 Y;rw[bC (O:0<c.length)] at s;have bA:b<W.heap.size:=World.block_lt_of_cell? W ⟨b,_,none⟩ s;have U:(List.map r l).length=len:=by simpa using m
 have L:=c8.bG (w:=W) (X:=λ_=>False) (List.map r l) b o k E (λi j=>(W.cell? ⟨b,o+i*k+j,none⟩).getD undef) bA (λh=>h) O ?_ ?_ ?_
 ·rw[U] at L;exact L
 ·intro V p;obtain⟨x,A,rfl⟩:=eH.1 p;obtain⟨i,C⟩:=jq.1 A;obtain⟨c,u,_,v⟩:=d i x C;rw[v.len,u]
 ·intro i q C L;obtain⟨c,u,f,_⟩:=d i _ (bC (O:i<l.length));rw[f q L,bC (O:q<c.length)];rfl
 intro i q V x p A;rw[eG] at p;obtain⟨z,N,rfl⟩:=Option.map_eq_some_iff.1 p;obtain⟨c,u,f,v⟩:=d i z N;have G:q<(r z).length:=(d0.1 A).1;rw[v.len] at G;have e:(W.cell? ⟨b,o+i*k+q,none⟩).getD undef=c[q]:=by rw[f q O,bC G];rfl
 show c8 W (λ_=>False) x ((W.cell? ⟨b,o+i*k+q,none⟩).getD undef);rw[e];exact v.at A (bC G)
def mu(P:Program)(t:TypeId)(k:Nat)(l:List (TypeId×Nat)):Prop:=P.cellsOf t=k/\ ∃a:Array Field,P.underlying t=aa (.struct a)/\a.toList.map (λf=>(f.type,f.offset))=l
theorem pa{l:List (TypeId×Nat)}(e:mu P t k l){b:List Value}{y:DataW H×List MemPlace}(h:DataW.trod enc P W 0 (λ_=>ab) ab n t b=aa y):
  ∃j:Nat,n=j+1/\b.length=k/\ ∀(i:Nat) (a:TypeId) (o:Nat),l[i]? =aa (a,o)-> ∃z,DataW.trod enc P W 0 (λ_=>ab) ab j a ((b.drop o).take (P.cellsOf a))=aa z:=by
 obtain⟨A,m,p,q⟩:=e;obtain⟨r,j,rfl,_,B,C,s⟩:=DataW.trod_struct p h;refine⟨j,rfl,O,λi a o c=>?_⟩;rw[<-q,eG] at c;obtain⟨f,d,w⟩:=Option.map_eq_some_iff.1 c;cases w;have x:i<m.size:=by
  have:=(d0.1 d).1;simpa using this
 have:=s i f (by simpa using d);rw[bC (O:i<r.length)] at this;exact⟨_,this⟩
structure xK (P:Program) where
 I:TypeId
 S:TypeId
 wJ:TypeId
 A:TypeId
 gK:TypeId
 C:TypeId
 E:TypeId
 D5:TypeId
 Bl:TypeId
 D9:TypeId
 L:TypeId
 D6:TypeId
 AY:TypeId
 D7:TypeId
 R:TypeId
 D8:TypeId
 xL:TypeId
 yo:P.cellsOf I=1
 I4:P.cellsOf S=1
 I8:P.cellsOf wJ=1
 I7:P.cellsOf gK=1
 Q5:P.cellsOf D5=1
 Q9:P.cellsOf D9=1
 Q6:P.cellsOf D6=1
 Q7:P.cellsOf D7=1
 Q8:P.cellsOf D8=1
 p1:P.underlying I=aa (.int .i64)
 Ku:P.underlying S=aa .string
 Tv:P.underlying wJ=aa (.slice I)
 Tt:P.underlying gK=aa (.slice A)
 Tu:P.underlying D5=aa (.slice E)
 Tz:P.underlying D9=aa (.slice Bl)
 Tw:P.underlying D6=aa (.slice L)
 Tx:P.underlying D7=aa (.slice AY)
 Ty:P.underlying D8=aa (.slice R)
 C':mu P A 2 [(wJ,0),(I,1)]
 Da:mu P C 2 [(S,0),(gK,1)]
 Db:mu P E 7 [(I,0),(I,1),(A,2),(C,4),(D5,6)]
 Je:mu P Bl 9 [(C,0),(E,2)]
 Ja:mu P L 2 [(gK,0),(gK,1)]
 Jc:mu P AY 2 [(D6,0),(D9,1)]
 Jd:mu P R 2 [(S,0),(wJ,1)]
 Jb:mu P xL 2 [(D8,0),(D7,1)]
theorem vg{c:List Value}(h:c.length=2): ∃a b,c=[a,b]:=by
 match c,h with
 | [a,b],_=>exact⟨a,b,rfl⟩
theorem Ui(h:p.length=7): ∃a b c d e f g,p=[a,b,c,d,e,f,g]:=by
 match p,h with
 | [a,b,c,d,e,f,g],_=>exact⟨a,b,c,d,e,f,g,rfl⟩
theorem Uh(h:p.length=9): ∃a b c d e f g i j,p=[a,b,c,d,e,f,g,i,j]:=by
 match p,h with
 | [a,b,c,d,e,f,g,i,j],_=>exact⟨a,b,c,d,e,f,g,i,j,rfl⟩
variable (K:xK P)
theorem N3:ky H enc P W n K.wJ (λl:List Int=>[T.bG (List.map ai l)]) (λl=>l.length<=maxLen):=λcs y h=>by obtain⟨l,a,b⟩:=qk K.Tv K.yo O (λj _=>rO K.p1) cs y h;exact⟨l,a.1,b⟩
theorem ON:ky H enc P W n K.A aq (jU maxLen):=λcs y h=>by obtain⟨j,rfl,k,d⟩:=pa K.C' h;obtain⟨a,b,rfl⟩:=vg k;obtain⟨z,e⟩:=d 0 _ _ rfl;obtain⟨q,i⟩:=d 1 _ _ rfl;rw[K.I8] at e;rw[K.yo] at i;obtain⟨l,m,o⟩:=N3 K _ _ e;obtain⟨c,_,p⟩:=rO K.p1 _ _ i;exact⟨⟨l,c⟩,m,o.app p⟩
theorem Ha:ky H enc P W n K.gK (λl:List aE=>[T.bG (List.map aq l)]) (kz maxLen):=qk K.Tt K.C'.1 O λj _=>ON K
theorem OO:ky H enc P W n K.C eI (ob maxLen):=λcs y h=>by obtain⟨j,rfl,m,e⟩:=pa K.Da h;obtain⟨a,b,rfl⟩:=vg m;obtain⟨z,i⟩:=e 0 _ _ rfl;obtain⟨r,k⟩:=e 1 _ _ rfl;rw[K.I4] at i;rw[K.I7] at k;obtain⟨l,o,p⟩:=OM K.Ku _ _ i;obtain⟨c,d,q⟩:=Ha K _ _ k;exact⟨⟨l,c⟩,⟨o,d⟩,p.app q⟩
theorem Iy{B:Nat}: ∀{m k:Nat} {e:Expr},iK B m e->m<=k->iK B k e
 |0,_,_,h,_=>h.elim
 |m+1,0,_,_,a=>O
 |m+1,k+1,e,h,a=>⟨h.1,h.2.1,h.2.2.1,λx b=>Iy (h.2.2.2 x b) O⟩
theorem acD: ∀{n:Nat},ky H enc P W n K.E aJ (iK maxLen n):=fun {n}=>by
 induction n using Nat.strongRecOn with
 |_ n s=>
  intro cs y h;obtain⟨j,rfl,w,k⟩:=pa K.Db h;obtain⟨a,b,c,d,e,f,g,rfl⟩:=Ui w;obtain⟨M,l⟩:=k 0 _ _ rfl;obtain⟨N,m⟩:=k 1 _ _ rfl;obtain⟨S,o⟩:=k 2 _ _ rfl;obtain⟨T,p⟩:=k 3 _ _ rfl;obtain⟨U,q⟩:=k 4 _ _ rfl;rw[K.yo] at l m;rw[K.C'.1] at o;rw[K.Da.1] at p;rw[K.Q5] at q;obtain⟨z,_,A⟩:=rO K.p1 _ _ l;obtain⟨B,_,C⟩:=rO K.p1 _ _ m;obtain⟨D,F,G⟩:=ON K _ _ o;obtain⟨L,R,X⟩:=OO K _ _ p;obtain⟨t,r,u⟩:=qk (Q:=iK maxLen j) K.Tu K.Db.1 O (λi V cs y h=>by
   obtain⟨x,v,I⟩:=s i O cs y h;exact⟨x,Iy v O,I⟩) _ _ q
  refine⟨⟨z,B,D,L,t⟩,⟨F,R,r.1,r.2⟩,?_⟩;rw[cP];exact A.app (C.app (G.app (X.app u)))
theorem acz(B:n<=m):ky H enc P W n K.Bl ax (od maxLen m):=λcs y h=>by obtain⟨j,rfl,r,l⟩:=pa K.Je h;obtain⟨a,b,c,d,e,f,g,i,k,rfl⟩:=Uh r;obtain⟨C,o⟩:=l 0 _ _ rfl;obtain⟨D,p⟩:=l 1 _ _ rfl;rw[K.Da.1] at o;rw[K.Db.1] at p;obtain⟨s,w,x⟩:=OO K _ _ o;obtain⟨z,A,q⟩:=acD K _ _ p;rw[cP] at q;exact⟨⟨s,z⟩,⟨w,Iy A O⟩,x.app q⟩
theorem aff:ky H enc P W n K.L aw (oc maxLen):=λcs y h=>by obtain⟨j,rfl,i,c⟩:=pa K.Ja h;obtain⟨a,b,rfl⟩:=vg i;obtain⟨z,d⟩:=c 0 _ _ rfl;obtain⟨r,e⟩:=c 1 _ _ rfl;rw[K.I7] at d e;obtain⟨k,l,m⟩:=Ha K _ _ d;obtain⟨o,p,q⟩:=Ha K _ _ e;exact⟨⟨k,o⟩,⟨l,p⟩,m.app q⟩
theorem acC(w:n<=m):ky H enc P W n K.AY an (r6 maxLen m):=λcs y h=>by obtain⟨j,rfl,k,c⟩:=pa K.Jc h;obtain⟨a,b,rfl⟩:=vg k;obtain⟨z,d⟩:=c 0 _ _ rfl;obtain⟨x,e⟩:=c 1 _ _ rfl;rw[K.Q6] at d;rw[K.Q9] at e;obtain⟨l,o,p⟩:=qk K.Tw K.Ja.1 O (λi _=>aff K) _ _ d;obtain⟨q,r,s⟩:=qk K.Tz K.Je.1 O (λi A=>acz K (m:=m) O) _ _ e;exact⟨⟨l,q⟩,⟨o,r⟩,p.app s⟩
theorem aef:ky H enc P W n K.R a6 (pc maxLen):=λcs y h=>by obtain⟨j,rfl,i,c⟩:=pa K.Jd h;obtain⟨a,b,rfl⟩:=vg i;obtain⟨z,d⟩:=c 0 _ _ rfl;obtain⟨r,e⟩:=c 1 _ _ rfl;rw[K.I4] at d;rw[K.I8] at e;obtain⟨k,l,m⟩:=OM K.Ku _ _ d;obtain⟨o,p,q⟩:=N3 K _ _ e;exact⟨⟨k,o⟩,⟨l,p⟩,m.app q⟩
theorem acB:ky H enc P W n K.xL e6 (jV maxLen n):=λcs y h=>by obtain⟨j,rfl,k,c⟩:=pa K.Jb h;obtain⟨a,b,rfl⟩:=vg k;obtain⟨z,d⟩:=c 0 _ _ rfl;obtain⟨w,e⟩:=c 1 _ _ rfl;rw[K.Q8] at d;rw[K.Q7] at e;obtain⟨l,o,p⟩:=qk K.Ty K.Jd.1 O (λi _=>aef K) _ _ d;obtain⟨q,r,s⟩:=qk K.Tx K.Jc.1 O (λi x=>acC K (m:=j+1) O) _ _ e;exact⟨⟨l,q⟩,⟨o,r⟩,p.app s⟩
end
section
variable {H:Type}{enc:TypeId×Value->H}{P:Program}
variable {W:World}{i:Nat}{C:List V->Prop}{a:List TypeId}
theorem aaR{gz:World}(h:Ext (λ_=>False) W gz):Below W.heap.size W gz:=⟨h.os,h.tape,h.output,h.size,λk a=>h.keep k a λh=>h⟩
def Fw(H:Type)(b:TypeId×Value->H)(P:Program)(W:World)(a:Nat)(t:TypeId)(D:V->Prop):Prop:=
 ∀(v:Value) (d:DataW H) (p:List MemPlace),Value.okWide P W .any a t v->DataW.Trod b P W 0 (λ_=>ab) ab t v d p-> ∃x,bB fE W (λ_=>False) x v/\D x
def AR(H:Type)(b:TypeId×Value->H)(P:Program)(W:World)(a:Nat)(d:List TypeId)(C:List V->Prop):Prop:=
 ∀(c:List Value) (h:List (DataW H)) (i:List MemPlace),(∀(j:Nat) t v,d[j]? =aa t->c[j]? =aa v->Value.okWide P W .any a t v)->DataW.TrodAll b P W 0 (λ_=>ab) ab d c h i-> ∃e,dr fE W (λ_=>False) e c/\C e
theorem afg(h:C []):AR H enc P W i [] C:=λb c d _ a=>by obtain⟨rfl,_,_⟩:=trodAll_nil a;exact⟨[],trivial,h⟩
theorem OP{t:TypeId}{D:V->Prop}(n:Fw H enc P W i t D)(o: ∀x,D x->AR H enc P W i a λc=>C (x::c)):AR H enc P W i (t::a) C:=λB F G m r=>by obtain⟨v,e,d,k,p,q,rfl,rfl,rfl,s,b⟩:=trodAll_cons r;obtain⟨x,w,y⟩:=n v d p (m 0 t v rfl rfl) s;obtain⟨c,l,z⟩:=o x y e k q (λj t v h A=>m (j+1) t v h A) b;exact⟨x::c,⟨w,l⟩,z⟩
theorem aeg{k:Nat}(K:xK P):Fw H enc P W k K.xL (λx=> ∃(m:Nat) (p:Prog),jV maxLen m p/\x=V.agg [aI a6 p.a7,aI an p.parts]):=λv d p a h=>by
 obtain⟨r,y,l,_⟩:=id K.Jb;obtain⟨cs,rfl,o⟩:=okWide_struct l a;obtain⟨n,s⟩:=h;obtain⟨x,w,q⟩:=acB K _ _ s;refine⟨_,.agg _ _ (by rw[o,r];rfl) λi c u b l=>?_,n,x,w,rfl⟩;have e:cs.toList[i]? =aa u:=by simpa using l
 match i with
 |0=>simp at b;subst b;exact .t _ _ (q.at (j:=0) rfl e)
 |1=>simp at b;subst b;exact .t _ _ (q.at (j:=1) rfl e)
 |i+2=>simp at b
theorem Lb{W a:World}(e:laidOutB P=ab)(r:Below W.heap.size W a): ∀{ts:List TypeId} {m:List Value} {i:List (DataW H)} {k:List MemPlace},(∀t∈ts,P.readableRec t=ab/\t<P.types.size)->
  DataW.TrodAll enc P W 0 (λ_=>ab) ab ts m i k->(∀x∈k,x.block<W.heap.size)->i.length=ts.length/\DataW.TrodAll enc P a 0 (λb=>decide (b<W.heap.size)) ab ts m i k
 | [],m,i,k,_,h,_=>by
  obtain⟨rfl,rfl,rfl⟩:=trodAll_nil h;exact⟨rfl,trodAll_mk0⟩
 |t::ts,m,i,k,s,h,l=>by obtain⟨v,w,d,y,p,q,rfl,rfl,rfl,z,c⟩:=trodAll_cons h;obtain⟨A,B⟩:=Lb e r (λt n=>s t (eW _ n)) c λx o=>l x (o3 _ o);have n:=s t (fi ..);exact⟨by simp[A],trodAll_cons_mk (r.trod e n.1 n.2 z λx o=>l x (nW _ o)) B⟩
theorem ae5(h:a.all (λt=>P.readableRec t&&decide (t<P.types.size))=ab): ∀t∈a,P.readableRec t=ab/\t<P.types.size:=λt b=>by have:=gy.1 h t b;simp only[Bool.and_eq_true,decide_eq_true_eq] at this;exact this
theorem Us{f:FuncId}{d:Func}{s:ChangeSpec}{c:TypeId}{G:fh}{args:Array Value}{a k:List (DataW H)}{b:List MemPlace}(o:List TypeId)
  (F:d.params=o.toArray) (g:d.resultTypes= #[c]) (E:P.underlying c=aa .bool) (K:s.vars=[]) (r: ∀a:List (DataW H),a.length=o.length->s.fn H a={results:=[.lit (.bool ab)],args:=a})
  (w:laidOutB P=ab) (y: ∀t∈o,P.readableRec t=ab/\t<P.types.size)
  (l: ∀(j:Nat) t v,d.params[j]? =aa t->args[j]? =aa v->Value.okWide P W .any i t v) (L:DataW.Whole enc P d.params.toList s.vars false W args.toList a k b) (I:G.ok W)
  (z:AR H enc P W i o λQ=>jT P G f Q (aW ab)):Calls P f args W λe gz=> ∃v,e= .returned v/\s.post enc P d false ab false false W args v gz:=by
 have n:=L;obtain⟨p,q,m,R,rfl,M,N⟩:=L;rw[K] at R;obtain⟨rfl,rfl⟩:=trodVars_none R;rw[F] at l m;obtain⟨Q,A,B⟩:=z args.toList a p (λj t v h S=>l j t v (by simpa using h) (by simpa using S)) m;refine(B.2 W (λ_=>False) args.toList I (λ_ h=>h.elim) A).mono ?_;rintro e gz ⟨u,rfl,X,T⟩;obtain rfl:=ac8 T;obtain⟨C,D⟩:=Lb w (aaR X) y m λx U=>n.lt x (by simp[U]);refine⟨_,rfl,a,[],p++[],[],p,[],n,?_,?_,?_,ab4 X _,λh=>by cases h⟩
 ·rw[g,jr,r a C];exact trodAll_mk1 (shut_bool E _)
 ·rw[F,jr,r a C];exact D
 rw[K,jr,r a C];exact rfl
end
section
variable {H:Type}{enc:TypeId×Value->H}{P:Program}
variable {W:World}{t:TypeId}
theorem acA{n:Nat}(K:xK P)(m:mu P t 4 [(K.I,0),(K.I,1),(K.I,2),(K.I,3)]):ky H enc P W n t cW (λ_=>True):=λcs y o=>by
 obtain⟨j,rfl,p,e⟩:=pa m o;obtain⟨C,D,F,G,rfl⟩: ∃a b c d,cs=[a,b,c,d]:=by
  match cs,p with
  | [a,b,c,d],_=>exact⟨a,b,c,d,rfl⟩
 obtain⟨L,h⟩:=e 0 _ _ rfl;obtain⟨Q,i⟩:=e 1 _ _ rfl;obtain⟨R,k⟩:=e 2 _ _ rfl;obtain⟨X,l⟩:=e 3 _ _ rfl;rw[K.yo] at h i k l;obtain⟨q,_,r⟩:=rO K.p1 _ _ h;obtain⟨s,_,w⟩:=rO K.p1 _ _ i;obtain⟨x,_,z⟩:=rO K.p1 _ _ k;obtain⟨A,_,B⟩:=rO K.p1 _ _ l;exact⟨⟨q,s,x,A⟩,trivial,r.at (j:=0) rfl rfl,w.at (j:=0) rfl rfl,z.at (j:=0) rfl rfl,B.at (j:=0) rfl rfl,trivial⟩
theorem acE{i:Nat}(K:xK P){e:TypeId}(k:mu P e 4 [(K.I,0),(K.I,1),(K.I,2),(K.I,3)])(c:P.underlying t=aa (.slice e))(m:P.cellsOf e=4):Fw H enc P W i t (λx=> ∃l:List Step,l.length<=maxLen/\x=aI cW l):=λv d p b h=>by obtain⟨a,len,o,rfl⟩:=okWide_slice c b;obtain⟨n,q⟩:=h;obtain⟨l,r,s⟩:=qk c m O (λj _=>acA (W:=W) (n:=j) K k) _ _ q;exact⟨_,.t _ _ (s.at (j:=0) rfl rfl),l,r.1,rfl⟩
end
end Go.Lift
