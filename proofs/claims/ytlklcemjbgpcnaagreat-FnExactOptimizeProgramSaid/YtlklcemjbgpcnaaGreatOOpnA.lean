/- Tools. -/
import Derived.Test.YtlklcemjbgpcnaaGreatOLiftRow
import Derived.Test.YtlklcemjbgpcnaaGreatOStepE
import Derived.ChangeArms
import Derived.DataReads
import Derived.Carry
set_option maxRecDepth 100000
set_option linter.unusedVariables false
namespace Go.Lift
open Go Go.ChangeShapes Go.WideShapes Go.ChangeAt Go.RowKit
open Option renaming some -> aa
open Bool renaming true -> ab
section
variable {H:Type}{enc:TypeId×Value->H}{P:Program}
def lW(W:World):List T->List Value->Prop
 | [],[]=>True
 |t::l,v::cs=>cV W (λ_=>False) t v/\lW W l cs
 |_,_=>False
variable {W:World}{n m k:Nat}{t:TypeId}{p:List Value}
theorem lW.len: ∀{l:List T} {cs:List Value},lW W l cs->l.length=cs.length
 | [],[],_=>rfl
 |t::l,v::cs,h=>by simp[h.2.len]
 | [],_::_,h=>h.elim
 |_::_,[],h=>h.elim
theorem lW.at{W:World}: ∀{l:List T} {cs:List Value},lW W l cs-> ∀{j:Nat} {t:T} {v:Value},l[j]? =aa t->cs[j]? =aa v->cV W (λ_=>False) t v
 | [],[],_,j,t,v,a,_=>by simp at a
 |t::l,v::cs,h,0,c,d,a,b=>by simp at a b;subst a;subst b;exact h.1
 |t::l,v::cs,h,j+1,c,d,a,b=>lW.at h.2 (j:=j) (by simpa using a) (by simpa using b)
 | [],_::_,h,_,_,_,_,_=>h.elim
 |_::_,[],h,_,_,_,_,_=>h.elim
theorem lW.app: ∀{l b:List T} {cs a:List Value},lW W l cs->lW W b a->lW W (l++b) (cs++a)
 | [],_,[],_,_,h=>h
 |t::l,_,v::cs,_,h,c=>⟨h.1,h.2.app c⟩
 | [],_,_::_,_,h,_=>h.elim
 |_::_,_,[],_,h,_=>h.elim
def ll(H:Type)(b:TypeId×Value->H)(P:Program)(W:World)(n:Nat)(t:TypeId){a:Type}(r:a->List T)(Q:a->Prop):Prop:=
 ∀cs y,DataW.trod b P W 0 (λ_=>ab) ab n t cs=aa y-> ∃x:a,Q x/\lW W (r x) cs
theorem CD(a:P.underlying t=aa (.int .i64)):ll H enc P W n t (λx:Int=>[T.int .i64 x]) (λ_=>True):=λcs y h=>by obtain⟨k,rfl,_,_⟩:=DataW.trod_int a h;exact⟨k,trivial,.int _ _,trivial⟩
theorem PY(a:P.underlying t=aa .string):ll H enc P W n t (λx:List UInt8=>[T.str x]) (λx=>x.length<=maxLen):=λcs y h=>by obtain⟨s,rfl,_,b⟩:=DataW.trod_string a h;exact⟨s.data.toList,by show s.data.toList.length<=maxLen;rw[pr];exact b,.str _,trivial⟩
theorem ad1{a:Type}{β:Type}{R:Nat->a->Prop}(h: ∀i,i<m-> ∃x,R i x): ∃l:List a,l.length=m/\ ∀i x,l[i]? =aa x->R i x:=by
 induction m with
 |zero=>exact⟨[],rfl,λi x c=>by simp at c⟩
 |succ m e=>
  obtain⟨l,d,k⟩:=e λi n=>h i O;obtain⟨x,c⟩:=h m O;refine⟨l++[x],by simp[d],λi y b=>?_⟩;by_cases n:i<m
  ·rw[jI O] at b;exact k i y b
  rw[jr O] at b
  have:i=m:=by
   have:=(b5.1 b).1;simp at this;omega
  subst this;simp[d] at b;subst b;exact c
theorem sG{e:TypeId}{g:Type}{r:g->List T}{Q:g->Prop}(fB:P.underlying t=aa (.slice e))(hk:P.cellsOf e=k)(Y:0<k)(he: ∀j,j<n->ll H enc P W j e r Q):
  ll H enc P W n t (λl:List g=>[T.bE (List.map r l)]) (λl=>l.length<=maxLen/\ ∀x∈l,Q x):=λcs y h=>by
 rcases DataW.trod_slice fB h with ⟨rfl,_⟩|⟨a,len,E,F,rest,j,rfl,rfl,_,_,cC,hm,alc,B,_,_⟩
 ·exact⟨[],⟨Nat.zero_le _,λx A=>by simp at A⟩,.fW _ _,trivial⟩
 rw[hk] at B;have R: ∀i,i<len-> ∃x:g,Q x/\ ∃c:List Value,c.length=k/\(∀q,q<k->W.cell? ((a.add (i*k)).add q)=c[q]?)/\lW W (r x) c:=λi C=>by
  have bV:=B i C;rw[bu (O:i<F.length)] at bV;obtain⟨c,I,cO⟩:=EU.1 bV;obtain⟨x,A,b8⟩:=he j O c _ cO;obtain⟨_,m,bS⟩:=World.cells?_some I;exact⟨x,A,c,m,bS,b8⟩
 obtain⟨l,m,M⟩:=ad1 (β:=Unit) R;refine⟨l,⟨O,λx A=>?_⟩,?_,trivial⟩
 ·obtain⟨i,C⟩:=j1.1 A;exact(M i x C).1
 by_cases N:len=0
 ·subst N;obtain rfl:=List.length_eq_zero_iff.1 m;exact .fW _ _
 have D:a.spot=none:=by
  obtain⟨_,c,h1,S,_⟩:=M 0 _ (bu (O:0<l.length));have s:=S 0 Y;rw[bu (O:0<c.length)] at s;simpa[Addr.add] using World.cell?_spot s
 obtain⟨b,o,amv⟩:=a;dsimp only at D;subst D;have d: ∀i x,l[i]? =aa x-> ∃c:List Value,c.length=k/\(∀q,q<k->W.cell? ⟨b,o+i*k+q,none⟩=c[q]?)/\lW W (r x) c:=λi x C=>by
  obtain⟨_,c,h1,S,h3⟩:=M i x C;refine⟨c,h1,λq L=>?_,h3⟩
  have:=S q L
  rwa [Addr.add_lit,Addr.add_lit] at this
 obtain⟨c,u,f,_⟩:=d 0 _ (bu (O:0<l.length));have s:=f 0 Y;rw[bu (O:0<c.length)] at s;have a1:b<W.heap.size:=World.block_lt_of_cell? W ⟨b,_,none⟩ s;have U:(List.map r l).length=len:=by simpa using m
 have L:=cV.bE (w:=W) (X:=λ_=>False) (List.map r l) b o k E (λi j=>(W.cell? ⟨b,o+i*k+j,none⟩).getD undef) a1 (λh=>h) O ?_ ?_ ?_
 ·rw[U] at L;exact L
 ·intro V p;obtain⟨x,A,rfl⟩:=eK.1 p;obtain⟨i,C⟩:=j1.1 A;obtain⟨c,u,_,v⟩:=d i x C;rw[v.len,u]
 ·intro i q C L;obtain⟨c,u,f,_⟩:=d i _ (bu (O:i<l.length));rw[f q L,bu (O:q<c.length)];rfl
 intro i q V x p A;rw[eQ] at p;obtain⟨z,N,rfl⟩:=Option.map_eq_some_iff.1 p;obtain⟨c,u,f,v⟩:=d i z N;have G:q<(r z).length:=(b5.1 A).1;rw[v.len] at G;have e:(W.cell? ⟨b,o+i*k+q,none⟩).getD undef=c[q]:=by rw[f q O,bu G];rfl
 show cV W (λ_=>False) x ((W.cell? ⟨b,o+i*k+q,none⟩).getD undef);rw[e];exact v.at A (bu G)
def pF(P:Program)(t:TypeId)(k:Nat)(l:List (TypeId×Nat)):Prop:=P.cellsOf t=k/\ ∃a:Array Field,P.underlying t=aa (.struct a)/\a.toList.map (λf=>(f.type,f.offset))=l
theorem qJ{l:List (TypeId×Nat)}(e:pF P t k l){b:List Value}{y:DataW H×List MemPlace}(h:DataW.trod enc P W 0 (λ_=>ab) ab n t b=aa y):
  ∃j:Nat,n=j+1/\b.length=k/\ ∀(i:Nat) (a:TypeId) (o:Nat),l[i]? =aa (a,o)-> ∃z,DataW.trod enc P W 0 (λ_=>ab) ab j a ((b.drop o).take (P.cellsOf a))=aa z:=by
 obtain⟨A,m,p,q⟩:=e;obtain⟨r,j,rfl,_,B,C,s⟩:=DataW.trod_struct p h;refine⟨j,rfl,O,λi a o c=>?_⟩;rw[<-q,eQ] at c;obtain⟨f,d,w⟩:=Option.map_eq_some_iff.1 c;cases w;have x:i<m.size:=by
  have:=(b5.1 d).1;simpa using this
 have:=s i f (by simpa using d);rw[bu (O:i<r.length)] at this;exact⟨_,this⟩
structure A6 (P:Program) where
 I:TypeId
 S:TypeId
 wV:TypeId
 A:TypeId
 gO:TypeId
 C:TypeId
 E:TypeId
 Ev:TypeId
 Bk:TypeId
 EC:TypeId
 L:TypeId
 Ez:TypeId
 A7:TypeId
 EA:TypeId
 R:TypeId
 EB:TypeId
 x0:TypeId
 Dq:P.cellsOf I=1
 JA:P.cellsOf S=1
 JD:P.cellsOf wV=1
 JC:P.cellsOf gO=1
 RV:P.cellsOf Ev=1
 RZ:P.cellsOf EC=1
 RW:P.cellsOf Ez=1
 RX:P.cellsOf EA=1
 RY:P.cellsOf EB=1
 wZ:P.underlying I=aa (.int .i64)
 K3:P.underlying S=aa .string
 Uj:P.underlying wV=aa (.slice I)
 Uh:P.underlying gO=aa (.slice A)
 Ui:P.underlying Ev=aa (.slice E)
 Un:P.underlying EC=aa (.slice Bk)
 Uk:P.underlying Ez=aa (.slice L)
 Ul:P.underlying EA=aa (.slice A7)
 Um:P.underlying EB=aa (.slice R)
 Ds:pF P A 2 [(wV,0),(I,1)]
 Dt:pF P C 2 [(S,0),(gO,1)]
 Du:pF P E 7 [(I,0),(I,1),(A,2),(C,4),(Ev,6)]
 JM:pF P Bk 9 [(C,0),(E,2)]
 JI:pF P L 2 [(gO,0),(gO,1)]
 JK:pF P A7 2 [(Ez,0),(EC,1)]
 JL:pF P R 2 [(S,0),(wV,1)]
 JJ:pF P x0 2 [(EB,0),(EA,1)]
theorem vt{c:List Value}(h:c.length=2): ∃a b,c=[a,b]:=by
 match c,h with
 | [a,b],_=>exact⟨a,b,rfl⟩
theorem VE(h:p.length=7): ∃a b c d e f g,p=[a,b,c,d,e,f,g]:=by
 match p,h with
 | [a,b,c,d,e,f,g],_=>exact⟨a,b,c,d,e,f,g,rfl⟩
theorem VD(h:p.length=9): ∃a b c d e f g i j,p=[a,b,c,d,e,f,g,i,j]:=by
 match p,h with
 | [a,b,c,d,e,f,g,i,j],_=>exact⟨a,b,c,d,e,f,g,i,j,rfl⟩
variable (K:A6 P)
theorem Pj:ll H enc P W n K.wV (λl:List Int=>[T.bE (List.map ah l)]) (λl=>l.length<=maxLen):=λcs y h=>by obtain⟨l,a,b⟩:=sG K.Uj K.Dq O (λj _=>CD K.wZ) cs y h;exact⟨l,a.1,b⟩
theorem PZ:ll H enc P W n K.A az (j9 maxLen):=λcs y h=>by obtain⟨j,rfl,k,d⟩:=qJ K.Ds h;obtain⟨a,b,rfl⟩:=vt k;obtain⟨z,e⟩:=d 0 _ _ rfl;obtain⟨q,i⟩:=d 1 _ _ rfl;rw[K.JD] at e;rw[K.Dq] at i;obtain⟨l,m,o⟩:=Pj K _ _ e;obtain⟨c,_,p⟩:=CD K.wZ _ _ i;exact⟨⟨l,c⟩,m,o.app p⟩
theorem Hk:ll H enc P W n K.gO (λl:List aF=>[T.bE (List.map az l)]) (kN maxLen):=sG K.Uh K.Ds.1 O λj _=>PZ K
theorem P0:ll H enc P W n K.C eN (oC maxLen):=λcs y h=>by obtain⟨j,rfl,m,e⟩:=qJ K.Dt h;obtain⟨a,b,rfl⟩:=vt m;obtain⟨z,i⟩:=e 0 _ _ rfl;obtain⟨r,k⟩:=e 1 _ _ rfl;rw[K.JA] at i;rw[K.JC] at k;obtain⟨l,o,p⟩:=PY K.K3 _ _ i;obtain⟨c,d,q⟩:=Hk K _ _ k;exact⟨⟨l,c⟩,⟨o,d⟩,p.app q⟩
theorem Jg{B:Nat}: ∀{m k:Nat} {e:Expr},iZ B m e->m<=k->iZ B k e
 |0,_,_,h,_=>h.elim
 |m+1,0,_,_,a=>O
 |m+1,k+1,e,h,a=>⟨h.1,h.2.1,h.2.2.1,λx b=>Jg (h.2.2.2 x b) O⟩
theorem ad6: ∀{n:Nat},ll H enc P W n K.E be (iZ maxLen n):=fun {n}=>by
 induction n using Nat.strongRecOn with
 |_ n s=>
  intro cs y h;obtain⟨j,rfl,w,k⟩:=qJ K.Du h;obtain⟨a,b,c,d,e,f,g,rfl⟩:=VE w;obtain⟨M,l⟩:=k 0 _ _ rfl;obtain⟨N,m⟩:=k 1 _ _ rfl;obtain⟨S,o⟩:=k 2 _ _ rfl;obtain⟨T,p⟩:=k 3 _ _ rfl;obtain⟨U,q⟩:=k 4 _ _ rfl;rw[K.Dq] at l m;rw[K.Ds.1] at o;rw[K.Dt.1] at p;rw[K.RV] at q;obtain⟨z,_,A⟩:=CD K.wZ _ _ l;obtain⟨B,_,C⟩:=CD K.wZ _ _ m;obtain⟨D,F,G⟩:=PZ K _ _ o;obtain⟨L,R,X⟩:=P0 K _ _ p;obtain⟨t,r,u⟩:=sG (Q:=iZ maxLen j) K.Ui K.Du.1 O (λi V cs y h=>by
   obtain⟨x,v,I⟩:=s i O cs y h;exact⟨x,Jg v O,I⟩) _ _ q
  refine⟨⟨z,B,D,L,t⟩,⟨F,R,r.1,r.2⟩,?_⟩;rw[dh];exact A.app (C.app (G.app (X.app u)))
theorem ad3(B:n<=m):ll H enc P W n K.Bk aA (oE maxLen m):=λcs y h=>by obtain⟨j,rfl,r,l⟩:=qJ K.JM h;obtain⟨a,b,c,d,e,f,g,i,k,rfl⟩:=VD r;obtain⟨C,o⟩:=l 0 _ _ rfl;obtain⟨D,p⟩:=l 1 _ _ rfl;rw[K.Dt.1] at o;rw[K.Du.1] at p;obtain⟨s,w,x⟩:=P0 K _ _ o;obtain⟨z,A,q⟩:=ad6 K _ _ p;rw[dh] at q;exact⟨⟨s,z⟩,⟨w,Jg A O⟩,x.app q⟩
theorem ag6:ll H enc P W n K.L av (oD maxLen):=λcs y h=>by obtain⟨j,rfl,i,c⟩:=qJ K.JI h;obtain⟨a,b,rfl⟩:=vt i;obtain⟨z,d⟩:=c 0 _ _ rfl;obtain⟨r,e⟩:=c 1 _ _ rfl;rw[K.JC] at d e;obtain⟨k,l,m⟩:=Hk K _ _ d;obtain⟨o,p,q⟩:=Hk K _ _ e;exact⟨⟨k,o⟩,⟨l,p⟩,m.app q⟩
theorem ad5(w:n<=m):ll H enc P W n K.A7 ar (ss maxLen m):=λcs y h=>by obtain⟨j,rfl,k,c⟩:=qJ K.JK h;obtain⟨a,b,rfl⟩:=vt k;obtain⟨z,d⟩:=c 0 _ _ rfl;obtain⟨x,e⟩:=c 1 _ _ rfl;rw[K.RW] at d;rw[K.RZ] at e;obtain⟨l,o,p⟩:=sG K.Uk K.JI.1 O (λi _=>ag6 K) _ _ d;obtain⟨q,r,s⟩:=sG K.Un K.JM.1 O (λi A=>ad3 K (m:=m) O) _ _ e;exact⟨⟨l,q⟩,⟨o,r⟩,p.app s⟩
theorem afT:ll H enc P W n K.R a' (pI maxLen):=λcs y h=>by obtain⟨j,rfl,i,c⟩:=qJ K.JL h;obtain⟨a,b,rfl⟩:=vt i;obtain⟨z,d⟩:=c 0 _ _ rfl;obtain⟨r,e⟩:=c 1 _ _ rfl;rw[K.JA] at d;rw[K.JD] at e;obtain⟨k,l,m⟩:=PY K.K3 _ _ d;obtain⟨o,p,q⟩:=Pj K _ _ e;exact⟨⟨k,o⟩,⟨l,p⟩,m.app q⟩
theorem ad4:ll H enc P W n K.x0 eh (kO maxLen n):=λcs y h=>by obtain⟨j,rfl,k,c⟩:=qJ K.JJ h;obtain⟨a,b,rfl⟩:=vt k;obtain⟨z,d⟩:=c 0 _ _ rfl;obtain⟨w,e⟩:=c 1 _ _ rfl;rw[K.RY] at d;rw[K.RX] at e;obtain⟨l,o,p⟩:=sG K.Um K.JL.1 O (λi _=>afT K) _ _ d;obtain⟨q,r,s⟩:=sG K.Ul K.JK.1 O (λi x=>ad5 K (m:=j+1) O) _ _ e;exact⟨⟨l,q⟩,⟨o,r⟩,p.app s⟩
end
section
variable {H:Type}{enc:TypeId×Value->H}{P:Program}
variable {W:World}{n:Nat}{C:List V->Prop}{a:List TypeId}
theorem acg{gE:World}(h:Ext (λ_=>False) W gE):Below W.heap.size W gE:=⟨h.os,h.tape,h.output,h.size,λk a=>h.keep k a λh=>h⟩
def FZ(H:Type)(b:TypeId×Value->H)(P:Program)(W:World)(a:Nat)(t:TypeId)(D:V->Prop):Prop:=
 ∀(v:Value) (d:DataW H) (p:List MemPlace),Value.okWide P W .any a t v->DataW.Trod b P W 0 (λ_=>ab) ab t v d p-> ∃x,bt fD W (λ_=>False) x v/\D x
def A5(H:Type)(b:TypeId×Value->H)(P:Program)(W:World)(a:Nat)(d:List TypeId)(C:List V->Prop):Prop:=
 ∀(c:List Value) (h:List (DataW H)) (i:List MemPlace),(∀(j:Nat) t v,d[j]? =aa t->c[j]? =aa v->Value.okWide P W .any a t v)->DataW.TrodAll b P W 0 (λ_=>ab) ab d c h i-> ∃e,dx fD W (λ_=>False) e c/\C e
theorem ag7(h:C []):A5 H enc P W n [] C:=λb c d _ a=>by obtain⟨rfl,_,_⟩:=trodAll_nil a;exact⟨[],trivial,h⟩
theorem P1{t:TypeId}{D:V->Prop}(m:FZ H enc P W n t D)(o: ∀x,D x->A5 H enc P W n a λc=>C (x::c)):A5 H enc P W n (t::a) C:=λB F G l r=>by obtain⟨v,e,d,i,p,q,rfl,rfl,rfl,s,b⟩:=trodAll_cons r;obtain⟨x,w,y⟩:=m v d p (l 0 t v rfl rfl) s;obtain⟨c,k,z⟩:=o x y e i q (λj t v h A=>l (j+1) t v h A) b;exact⟨x::c,⟨w,k⟩,z⟩
theorem afU{k:Nat}(K:A6 P):FZ H enc P W k K.x0 (λx=> ∃(m:Nat) (p:Prog),kO maxLen m p/\x=V.agg [aG a' p.bc,aG ar p.parts]):=λv d p a h=>by
 obtain⟨r,y,l,_⟩:=id K.JJ;obtain⟨cs,rfl,o⟩:=okWide_struct l a;obtain⟨n,s⟩:=h;obtain⟨x,w,q⟩:=ad4 K _ _ s;refine⟨_,.agg _ _ (by rw[o,r];rfl) λi c u b l=>?_,n,x,w,rfl⟩;have e:cs.toList[i]? =aa u:=by simpa using l
 match i with
 |0=>simp at b;subst b;exact .t _ _ (q.at (j:=0) rfl e)
 |1=>simp at b;subst b;exact .t _ _ (q.at (j:=1) rfl e)
 |i+2=>simp at b
theorem ag8(K:A6 P):FZ H enc P W n K.I (λx=> ∃k:Int,x=Y k):=λv d p a h=>by obtain⟨k,rfl⟩:=okWide_int K.wZ a;exact⟨_,.t _ _ (.int _ _),k,rfl⟩
theorem LW{W a:World}(e:laidOutB P=ab)(r:Below W.heap.size W a): ∀{e9:List TypeId} {m:List Value} {i:List (DataW H)} {k:List MemPlace},(∀t∈e9,P.readableRec t=ab/\t<P.types.size)->
  DataW.TrodAll enc P W 0 (λ_=>ab) ab e9 m i k->(∀x∈k,x.block<W.heap.size)->i.length=e9.length/\DataW.TrodAll enc P a 0 (λb=>decide (b<W.heap.size)) ab e9 m i k
 | [],m,i,k,_,h,_=>by
  obtain⟨rfl,rfl,rfl⟩:=trodAll_nil h;exact⟨rfl,trodAll_mk0⟩
 |t::e9,m,i,k,s,h,l=>by obtain⟨v,w,d,y,p,q,rfl,rfl,rfl,z,c⟩:=trodAll_cons h;obtain⟨A,B⟩:=LW e r (λt n=>s t (eZ _ n)) c λx o=>l x (po _ o);have n:=s t (ff ..);exact⟨by simp[A],trodAll_cons_mk (r.trod e n.1 n.2 z λx o=>l x (pq _ o)) B⟩
theorem agt(h:a.all (λt=>P.readableRec t&&decide (t<P.types.size))=ab): ∀t∈a,P.readableRec t=ab/\t<P.types.size:=λt b=>by have:=gD.1 h t b;simp only[Bool.and_eq_true,decide_eq_true_eq] at this;exact this
theorem VQ{f:FuncId}{d:Func}{s:ChangeSpec}{c:TypeId}{G:fe}{args:Array Value}{a i:List (DataW H)}{b:List MemPlace}(o:List TypeId)
  (F:d.params=o.toArray) (g:d.resultTypes= #[c]) (E:P.underlying c=aa .bool) (K:s.vars=[]) (r: ∀a:List (DataW H),a.length=o.length->s.fn H a={results:=[.lit (.bool ab)],args:=a})
  (w:laidOutB P=ab) (y: ∀t∈o,P.readableRec t=ab/\t<P.types.size)
  (k: ∀(j:Nat) t v,d.params[j]? =aa t->args[j]? =aa v->Value.okWide P W .any n t v) (L:DataW.Whole enc P d.params.toList s.vars false W args.toList a i b) (I:G.ok W)
  (z:A5 H enc P W n o λQ=>jw P G f Q (aT ab)):Calls P f args W λe gE=> ∃v,e= .returned v/\s.post enc P d false ab false false W args v gE:=by
 have m:=L;obtain⟨p,q,l,R,rfl,M,N⟩:=L;rw[K] at R;obtain⟨rfl,rfl⟩:=trodVars_none R;rw[F] at k l;obtain⟨Q,A,B⟩:=z args.toList a p (λj t v h S=>k j t v (by simpa using h) (by simpa using S)) l;refine(B.2 W (λ_=>False) args.toList I (λ_ h=>h.elim) A).mono ?_;rintro e gE ⟨u,rfl,X,T⟩;obtain rfl:=afO T;obtain⟨C,D⟩:=LW w (acg X) y l λx U=>m.lt x (by simp[U]);refine⟨_,rfl,a,[],p++[],[],p,[],m,?_,?_,?_,adx X _,λh=>by cases h⟩
 ·rw[g,jq,r a C];exact trodAll_mk1 (shut_bool E _)
 ·rw[F,jq,r a C];exact D
 rw[K,jq,r a C];exact rfl
end
end Go.Lift
