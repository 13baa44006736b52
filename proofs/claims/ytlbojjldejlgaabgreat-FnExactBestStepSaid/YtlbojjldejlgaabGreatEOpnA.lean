/- Tools. -/
import Derived.Test.YtlbojjldejlgaabGreatELiftRow
import Derived.Test.YtlbojjldejlgaabGreatEStepE
import Derived.ChangeArms
import Derived.DataReads
import Derived.Carry
set_option maxRecDepth 100000
set_option linter.unusedVariables false
namespace Go.Lift
open Go Go.ChangeShapes Go.WideShapes Go.ChangeAt Go.RowKit
section
variable {H:Type}{enc:TypeId×Value->H}{P:Program}
def k1(W:World):List T->List Value->Prop
 | [],[]=>True
 |t::l,v::cs=>cL W (λ_=>False) t v/\k1 W l cs
 |_,_=>False
variable {W:World}{n m k:Nat}{t:TypeId}{p:List Value}
theorem k1.len: ∀{l:List T} {cs:List Value},k1 W l cs->l.length=cs.length
 | [],[],_=>rfl
 |t::l,v::cs,h=>by simp[h.2.len]
 | [],_::_,h=>h.elim
 |_::_,[],h=>h.elim
theorem k1.at{W:World}: ∀{l:List T} {cs:List Value},k1 W l cs-> ∀{j:Nat} {t:T} {v:Value},l[j]? =some t->cs[j]? =some v->cL W (λ_=>False) t v
 | [],[],_,j,t,v,a,_=>by simp at a
 |t::l,v::cs,h,0,c,d,a,b=>by simp at a b;subst a;subst b;exact h.1
 |t::l,v::cs,h,j+1,c,d,a,b=>k1.at h.2 (j:=j) (by simpa using a) (by simpa using b)
 | [],_::_,h,_,_,_,_,_=>h.elim
 |_::_,[],h,_,_,_,_,_=>h.elim
theorem k1.app: ∀{l b:List T} {cs a:List Value},k1 W l cs->k1 W b a->k1 W (l++b) (cs++a)
 | [],_,[],_,_,h=>h
 |t::l,_,v::cs,_,h,c=>⟨h.1,h.2.app c⟩
 | [],_,_::_,_,h,_=>h.elim
 |_::_,_,[],_,h,_=>h.elim
def ks(H:Type)(b:TypeId×Value->H)(P:Program)(W:World)(n:Nat)(t:TypeId){a:Type}(r:a->List T)(Q:a->Prop):Prop:=
 ∀cs y,DataW.trod b P W 0 (λ_=>true) true n t cs=some y-> ∃x:a,Q x/\k1 W (r x) cs
theorem AA(a:P.underlying t=some (.int .i64)):ks H enc P W n t (λx:Int=>[T.int .i64 x]) (λ_=>True):=λcs y h=>by obtain⟨k,rfl,_,_⟩:=DataW.trod_int a h;exact⟨k,trivial,.int _ _,trivial⟩
theorem Od(a:P.underlying t=some .string):ks H enc P W n t (λx:List UInt8=>[T.str x]) (λx=>x.length<=maxLen):=λcs y h=>by obtain⟨s,rfl,_,b⟩:=DataW.trod_string a h;exact⟨s.data.toList,by show s.data.toList.length<=maxLen;rw[ni];exact b,.str _,trivial⟩
theorem Z2{a:Type}{β:Type}{R:Nat->a->Prop}(h: ∀i,i<m-> ∃x,R i x): ∃l:List a,l.length=m/\ ∀i x,l[i]? =some x->R i x:=by
 induction m with
 |zero=>exact⟨[],rfl,λi x c=>by simp at c⟩
 |succ m e=>
  obtain⟨l,d,k⟩:=e λi n=>h i O;obtain⟨x,c⟩:=h m O;refine⟨l++[x],by simp[d],λi y b=>?_⟩;by_cases n:i<m
  ·rw[iu O] at b;exact k i y b
  rw[hi O] at b
  have:i=m:=by
   have:=(bM.1 b).1;simp at this;omega
  subst this;simp[d] at b;subst b;exact c
theorem ra{e:TypeId}{g:Type}{r:g->List T}{Q:g->Prop}(eO:P.underlying t=some (.slice e))(hk:P.cellsOf e=k)(Y:0<k)(he: ∀j,j<n->ks H enc P W j e r Q):
  ks H enc P W n t (λl:List g=>[T.ay (List.map r l)]) (λl=>l.length<=maxLen/\ ∀x∈l,Q x):=λcs y h=>by
 rcases DataW.trod_slice eO h with ⟨rfl,_⟩|⟨a,len,E,F,rest,j,rfl,rfl,_,_,b9,hm,aif,B,_,_⟩
 ·exact⟨[],⟨Nat.zero_le _,λx A=>by simp at A⟩,.fB _ _,trivial⟩
 rw[hk] at B;have R: ∀i,i<len-> ∃x:g,Q x/\ ∃c:List Value,c.length=k/\(∀q,q<k->W.cell? ((a.add (i*k)).add q)=c[q]?)/\k1 W (r x) c:=λi C=>by
  have bE:=B i C;rw[bg (O:i<F.length)] at bE;obtain⟨c,I,cn⟩:=Dk.1 bE;obtain⟨x,A,bO⟩:=he j O c _ cn;obtain⟨_,m,bB⟩:=World.cells?_some I;exact⟨x,A,c,m,bB,bO⟩
 obtain⟨l,m,M⟩:=Z2 (β:=Unit) R;refine⟨l,⟨O,λx A=>?_⟩,?_,trivial⟩
 ·obtain⟨i,C⟩:=iQ.1 A;exact(M i x C).1
 by_cases N:len=0
 ·subst N;obtain rfl:=List.length_eq_zero_iff.1 m;exact .fB _ _
 have D:a.spot=none:=by
  obtain⟨_,c,h1,S,_⟩:=M 0 _ (bg (O:0<l.length));have s:=S 0 Y;rw[bg (O:0<c.length)] at s;simpa[Addr.add] using World.cell?_spot s
 obtain⟨b,o,ajy⟩:=a;dsimp only at D;subst D;have d: ∀i x,l[i]? =some x-> ∃c:List Value,c.length=k/\(∀q,q<k->W.cell? ⟨b,o+i*k+q,none⟩=c[q]?)/\k1 W (r x) c:=λi x C=>by
  obtain⟨_,c,h1,S,h3⟩:=M i x C;refine⟨c,h1,λq L=>?_,h3⟩
  have:=S q L
  rwa [Addr.add_lit,Addr.add_lit] at this
 obtain⟨c,u,f,_⟩:=d 0 _ (bg (O:0<l.length));have s:=f 0 Y;rw[bg (O:0<c.length)] at s;have aV:b<W.heap.size:=World.block_lt_of_cell? W ⟨b,_,none⟩ s;have U:(List.map r l).length=len:=by simpa using m
 have L:=cL.ay (w:=W) (X:=λ_=>False) (List.map r l) b o k E (λi j=>(W.cell? ⟨b,o+i*k+j,none⟩).getD undef) aV (λh=>h) O ?_ ?_ ?_
 ·rw[U] at L;exact L
 ·intro V p;obtain⟨x,A,rfl⟩:=et.1 p;obtain⟨i,C⟩:=iQ.1 A;obtain⟨c,u,_,v⟩:=d i x C;rw[v.len,u]
 ·intro i q C L;obtain⟨c,u,f,_⟩:=d i _ (bg (O:i<l.length));rw[f q L,bg (O:q<c.length)];rfl
 intro i q V x p A;rw[er] at p;obtain⟨z,N,rfl⟩:=Option.map_eq_some_iff.1 p;obtain⟨c,u,f,v⟩:=d i z N;have G:q<(r z).length:=(bM.1 A).1;rw[v.len] at G;have e:(W.cell? ⟨b,o+i*k+q,none⟩).getD undef=c[q]:=by rw[f q O,bg G];rfl
 show cL W (λ_=>False) x ((W.cell? ⟨b,o+i*k+q,none⟩).getD undef);rw[e];exact v.at A (bg G)
def om(P:Program)(t:TypeId)(k:Nat)(l:List (TypeId×Nat)):Prop:=P.cellsOf t=k/\ ∃a:Array Field,P.underlying t=some (.struct a)/\a.toList.map (λf=>(f.type,f.offset))=l
theorem pz{l:List (TypeId×Nat)}(e:om P t k l){b:List Value}{y:DataW H×List MemPlace}(h:DataW.trod enc P W 0 (λ_=>true) true n t b=some y):
  ∃j:Nat,n=j+1/\b.length=k/\ ∀(i:Nat) (a:TypeId) (o:Nat),l[i]? =some (a,o)-> ∃z,DataW.trod enc P W 0 (λ_=>true) true j a ((b.drop o).take (P.cellsOf a))=some z:=by
 obtain⟨A,m,p,q⟩:=e;obtain⟨r,j,rfl,_,B,C,s⟩:=DataW.trod_struct p h;refine⟨j,rfl,O,λi a o c=>?_⟩;rw[<-q,er] at c;obtain⟨f,d,w⟩:=Option.map_eq_some_iff.1 c;cases w;have x:i<m.size:=by
  have:=(bM.1 d).1;simpa using this
 have:=s i f (by simpa using d);rw[bg (O:i<r.length)] at this;exact⟨_,this⟩
structure zB (P:Program) where
 I:TypeId
 S:TypeId
 vd:TypeId
 A:TypeId
 gj:TypeId
 C:TypeId
 E:TypeId
 CK:TypeId
 zG:TypeId
 CV:TypeId
 L:TypeId
 CO:TypeId
 zC:TypeId
 CS:TypeId
 R:TypeId
 CU:TypeId
 pF:TypeId
 Br:P.cellsOf I=1
 HB:P.cellsOf S=1
 HJ:P.cellsOf vd=1
 HI:P.cellsOf gj=1
 PO:P.cellsOf CK=1
 PT:P.cellsOf CV=1
 PQ:P.cellsOf CO=1
 PR:P.cellsOf CS=1
 PS:P.cellsOf CU=1
 vm:P.underlying I=some (.int .i64)
 Jw:P.underlying S=some .string
 RW:P.underlying vd=some (.slice I)
 RU:P.underlying gj=some (.slice A)
 RV:P.underlying CK=some (.slice E)
 R1:P.underlying CV=some (.slice zG)
 RX:P.underlying CO=some (.slice L)
 RY:P.underlying CS=some (.slice zC)
 RZ:P.underlying CU=some (.slice R)
 Bt:om P A 2 [(vd,0),(I,1)]
 Bu:om P C 2 [(S,0),(gj,1)]
 Bv:om P E 7 [(I,0),(I,1),(A,2),(C,4),(CK,6)]
 HU:om P zG 9 [(C,0),(E,2)]
 HQ:om P L 2 [(gj,0),(gj,1)]
 HS:om P zC 2 [(CO,0),(CV,1)]
 HT:om P R 2 [(S,0),(vd,1)]
 HR:om P pF 2 [(CU,0),(CS,1)]
theorem tU{c:List Value}(h:c.length=2): ∃a b,c=[a,b]:=by
 match c,h with
 | [a,b],_=>exact⟨a,b,rfl⟩
theorem ad0(h:p.length=7): ∃a b c d e f g,p=[a,b,c,d,e,f,g]:=by
 match p,h with
 | [a,b,c,d,e,f,g],_=>exact⟨a,b,c,d,e,f,g,rfl⟩
theorem adZ(h:p.length=9): ∃a b c d e f g i j,p=[a,b,c,d,e,f,g,i,j]:=by
 match p,h with
 | [a,b,c,d,e,f,g,i,j],_=>exact⟨a,b,c,d,e,f,g,i,j,rfl⟩
variable (K:zB P)
theorem MY:ks H enc P W n K.vd (λl:List Int=>[T.ay (List.map ab l)]) (λl=>l.length<=maxLen):=λcs y h=>by obtain⟨l,a,b⟩:=ra K.RW K.Br O (λj _=>AA K.vm) cs y h;exact⟨l,a.1,b⟩
theorem Oe:ks H enc P W n K.A aC (nu maxLen):=λcs y h=>by obtain⟨j,rfl,k,d⟩:=pz K.Bt h;obtain⟨a,b,rfl⟩:=tU k;obtain⟨z,e⟩:=d 0 _ _ rfl;obtain⟨q,i⟩:=d 1 _ _ rfl;rw[K.HJ] at e;rw[K.Br] at i;obtain⟨l,m,o⟩:=MY K _ _ e;obtain⟨c,_,p⟩:=AA K.vm _ _ i;exact⟨⟨l,c⟩,m,o.app p⟩
theorem FD:ks H enc P W n K.gj (λl:List az=>[T.ay (List.map aC l)]) (oq maxLen):=ra K.RU K.Bt.1 O λj _=>Oe K
theorem Of:ks H enc P W n K.C eM (q4 maxLen):=λcs y h=>by obtain⟨j,rfl,m,e⟩:=pz K.Bu h;obtain⟨a,b,rfl⟩:=tU m;obtain⟨z,i⟩:=e 0 _ _ rfl;obtain⟨r,k⟩:=e 1 _ _ rfl;rw[K.HB] at i;rw[K.HI] at k;obtain⟨l,o,p⟩:=Od K.Jw _ _ i;obtain⟨c,d,q⟩:=FD K _ _ k;exact⟨⟨l,c⟩,⟨o,d⟩,p.app q⟩
theorem Hq{B:Nat}: ∀{m k:Nat} {e:Expr},lP B m e->m<=k->lP B k e
 |0,_,_,h,_=>h.elim
 |m+1,0,_,_,a=>O
 |m+1,k+1,e,h,a=>⟨h.1,h.2.1,h.2.2.1,λx b=>Hq (h.2.2.2 x b) O⟩
theorem Z7: ∀{n:Nat},ks H enc P W n K.E bW (lP maxLen n):=fun {n}=>by
 induction n using Nat.strongRecOn with
 |_ n s=>
  intro cs y h;obtain⟨j,rfl,w,k⟩:=pz K.Bv h;obtain⟨a,b,c,d,e,f,g,rfl⟩:=ad0 w;obtain⟨M,l⟩:=k 0 _ _ rfl;obtain⟨N,m⟩:=k 1 _ _ rfl;obtain⟨S,o⟩:=k 2 _ _ rfl;obtain⟨T,p⟩:=k 3 _ _ rfl;obtain⟨U,q⟩:=k 4 _ _ rfl;rw[K.Br] at l m;rw[K.Bt.1] at o;rw[K.Bu.1] at p;rw[K.PO] at q;obtain⟨z,_,A⟩:=AA K.vm _ _ l;obtain⟨B,_,C⟩:=AA K.vm _ _ m;obtain⟨D,F,G⟩:=Oe K _ _ o;obtain⟨L,R,X⟩:=Of K _ _ p;obtain⟨t,r,u⟩:=ra (Q:=lP maxLen j) K.RV K.Bv.1 O (λi V cs y h=>by
   obtain⟨x,v,I⟩:=s i O cs y h;exact⟨x,Hq v O,I⟩) _ _ q
  refine⟨⟨z,B,D,L,t⟩,⟨F,R,r.1,r.2⟩,?_⟩;rw[fm];exact A.app (C.app (G.app (X.app u)))
theorem Z4(B:n<=m):ks H enc P W n K.zG bq (ow maxLen m):=λcs y h=>by obtain⟨j,rfl,r,l⟩:=pz K.HU h;obtain⟨a,b,c,d,e,f,g,i,k,rfl⟩:=adZ r;obtain⟨C,o⟩:=l 0 _ _ rfl;obtain⟨D,p⟩:=l 1 _ _ rfl;rw[K.Bu.1] at o;rw[K.Bv.1] at p;obtain⟨s,w,x⟩:=Of K _ _ o;obtain⟨z,A,q⟩:=Z7 K _ _ p;rw[fm] at q;exact⟨⟨s,z⟩,⟨w,Hq A O⟩,x.app q⟩
theorem acT:ks H enc P W n K.L aq (ot maxLen):=λcs y h=>by obtain⟨j,rfl,i,c⟩:=pz K.HQ h;obtain⟨a,b,rfl⟩:=tU i;obtain⟨z,d⟩:=c 0 _ _ rfl;obtain⟨r,e⟩:=c 1 _ _ rfl;rw[K.HI] at d e;obtain⟨k,l,m⟩:=FD K _ _ d;obtain⟨o,p,q⟩:=FD K _ _ e;exact⟨⟨k,o⟩,⟨l,p⟩,m.app q⟩
theorem Z6(w:n<=m):ks H enc P W n K.zC an (tb maxLen m):=λcs y h=>by obtain⟨j,rfl,k,c⟩:=pz K.HS h;obtain⟨a,b,rfl⟩:=tU k;obtain⟨z,d⟩:=c 0 _ _ rfl;obtain⟨x,e⟩:=c 1 _ _ rfl;rw[K.PQ] at d;rw[K.PT] at e;obtain⟨l,o,p⟩:=ra K.RX K.HQ.1 O (λi _=>acT K) _ _ d;obtain⟨q,r,s⟩:=ra K.R1 K.HU.1 O (λi A=>Z4 K (m:=m) O) _ _ e;exact⟨⟨l,q⟩,⟨o,r⟩,p.app s⟩
theorem abI:ks H enc P W n K.R bm (pH maxLen):=λcs y h=>by obtain⟨j,rfl,i,c⟩:=pz K.HT h;obtain⟨a,b,rfl⟩:=tU i;obtain⟨z,d⟩:=c 0 _ _ rfl;obtain⟨r,e⟩:=c 1 _ _ rfl;rw[K.HB] at d;rw[K.HJ] at e;obtain⟨k,l,m⟩:=Od K.Jw _ _ d;obtain⟨o,p,q⟩:=MY K _ _ e;exact⟨⟨k,o⟩,⟨l,p⟩,m.app q⟩
theorem Z5:ks H enc P W n K.pF adM (ov maxLen n):=λcs y h=>by obtain⟨j,rfl,k,c⟩:=pz K.HR h;obtain⟨a,b,rfl⟩:=tU k;obtain⟨z,d⟩:=c 0 _ _ rfl;obtain⟨w,e⟩:=c 1 _ _ rfl;rw[K.PS] at d;rw[K.PR] at e;obtain⟨l,o,p⟩:=ra K.RZ K.HT.1 O (λi _=>abI K) _ _ d;obtain⟨q,r,s⟩:=ra K.RY K.HS.1 O (λi x=>Z6 K (m:=j+1) O) _ _ e;exact⟨⟨l,q⟩,⟨o,r⟩,p.app s⟩
end
section
variable {H:Type}{enc:TypeId×Value->H}{P:Program}
variable {W:World}
theorem ZC{fV:World}(h:Ext (λ_=>False) W fV):Below W.heap.size W fV:=⟨h.os,h.tape,h.output,h.size,λk a=>h.keep k a λh=>h⟩
theorem Y1{k:Nat}{v:Value}{d:DataW H}{p:List MemPlace}(K:zB P)(a:Value.okWide P W .any k K.pF v)(h:DataW.Trod enc P W 0 (λ_=>true) true K.pF v d p):
  ∃(m:Nat) (x:Prog),ov maxLen m x/\bh gE W (λ_=>False) (V.agg [aB bm x.aY,aB an x.parts]) v:=by
 obtain⟨r,y,l,_⟩:=id K.HR;obtain⟨cs,rfl,o⟩:=okWide_struct l a;obtain⟨n,s⟩:=h;obtain⟨x,w,q⟩:=Z5 K _ _ s;refine⟨n,x,w,.agg _ _ (by rw[o,r];rfl) λi c u b l=>?_⟩;have e:cs.toList[i]? =some u:=by simpa using l
 match i with
 |0=>simp at b;subst b;exact .t _ _ (q.at (j:=0) rfl e)
 |1=>simp at b;subst b;exact .t _ _ (q.at (j:=1) rfl e)
 |i+2=>simp at b
theorem acN{f:FuncId}{n:Func}{s:ChangeSpec}{Q:TypeId}{G:eS}{o:Nat}{args:Array Value}{ds gs:List (DataW H)}{b:List MemPlace}(K:zB P)
  (R:n.params= #[K.pF,K.I]) (bO:n.resultTypes= #[Q]) (aV:P.underlying Q=some .bool) (X:s.vars=[]) (B: ∀d g,s.fn H [d,g]={results:=[.lit (.bool true)],args:=[d,g]})
  (r:laidOutB P=true) (C:P.readableRec K.pF=true) (D:K.pF<P.types.size) (w:P.readableRec K.I=true) (y:K.I<P.types.size)
  (a: ∀(j:Nat) t v,n.params[j]? =some t->args[j]? =some v->Value.okWide P W .any o t v) (E:DataW.Whole enc P n.params.toList s.vars false W args.toList ds gs b) (jD:G.ok W)
  (F: ∀(m:Nat) (x:Prog) (k:Int),ov maxLen m x->jv P G f [V.agg [aB bm x.aY,aB an x.parts],Y k] (aM true)):Calls P f args W λe fV=> ∃v,e= .returned v/\s.post enc P n false true false false W args v fV:=by
 have i:=E;obtain⟨p,q,z,M,rfl,aih,air⟩:=E;rw[X] at M;obtain⟨rfl,rfl⟩:=trodVars_none M;rw[R] at a z;obtain⟨N,v1,c,l,S,T,rfl,rfl,rfl,U,h1⟩:=trodAll_two z;obtain⟨m,x,A,L⟩:=Y1 (d:=c) K (a 0 _ N rfl rfl) U;obtain⟨k,rfl⟩:=okWide_int K.vm (a 1 _ v1 rfl rfl);refine((F m x k A).2 W (λ_=>False) [N,.int .i64 k] jD (λ_ h=>h.elim) ⟨L,.t _ _ (.int _ _),trivial⟩).mono ?_;rintro e fV ⟨u,rfl,hE,hu⟩;obtain rfl:=ace hu;have di:=ZC hE;refine⟨_,rfl,[c,l],[],S++T++[],[],S++T,[],i,?_,?_,?_,aaO hE _,λh=>by cases h⟩
 ·rw[bO,show([c,l]++[]:List (DataW H))=[c,l] from rfl,B];exact trodAll_mk1 (shut_bool aV _)
 ·rw[R,show([c,l]++[]:List (DataW H))=[c,l] from rfl,B];exact trodAll_mk2 (di.trod r C D U λx A=>i.lt x (by simp[A])) (di.trod r w y h1 λx A=>i.lt x (by simp[A]))
 rw[X,show([c,l]++[]:List (DataW H))=[c,l] from rfl,B];exact rfl
end
end Go.Lift
