/- Tools. -/
import Derived.Test.YteifkndfpnkalaaGreatDLiftRow
set_option linter.unusedVariables false
namespace Go.Lift
open Go Go.ChangeShapes Go.WideShapes Go.ChangeAt Go.RowKit
open List renaming map -> bV
section
variable {P:Program}
variable {f:FuncId}{G:fL}
theorem ZV(d:jZ P f)(h: ∀(s sub:ByteArray),s.size<4294967281-> ∀w,G.ok w->Calls P f #[.string s,.string sub] w λe c=>e= .returned (.bool (Lib.contains s.data.toList sub.data.toList))/\c=w):
  ∀(s t:List UInt8) (r:Bool),zk s t=some r->lP P G f [bA s,bA t] (aM r):=by
 intro s t r a;unfold zk at a;split at a
 ·rename_i i;cases a;refine⟨d,λw X o k p l=>?_⟩;obtain⟨u,v,rfl,m,n⟩:=aew l;obtain rfl:=ir m;obtain rfl:=ir n;refine(h ⟨s.toArray⟩ ⟨t.toArray⟩ (by simpa[ByteArray.size] using i) w k).mono ?_;rintro e c ⟨rfl,rfl⟩;exact⟨_,rfl,Ext.refl _ _,.t _ _ (.bool _)⟩
 cases a
def sR(q:Option Nat):Map:=⟨λk=>if k=0 then some (q,1) else none,λ_ _=>False⟩
theorem GF{q:Option Nat}{i b:Nat}(h:At (sR q) i b):i=0/\q=some b:=by
 rcases h with ⟨g,h⟩|h
 ·simp only[sR] at h;split at h
  ·rename_i a;cases h;exact⟨a,rfl⟩
  cases h
 exact h.elim
theorem He{d:Map}{w m:World}{X:Nat->Prop}(hi:AV G [] d w X)(iu: ∀b,X b->b<w.heap.size)(W:Ext (λ_=>False) w m){ti:TypeId}{l:List Int}{v:Value}(h:m.ownsRow w.heap.size ti 1 v l.length (l.map (Value.int .i64))):
  ∃B,Left d B [] [E.arr ti 1 1 (bV ah l)] w m X (V.bf 0 1 1 0 (bV ah l).length) v:=by
 obtain⟨_,h⟩:=h;have I: ∀b,¬ ∃k,At d k b:=λb ⟨k,o⟩=>by
  rcases o with ⟨g,o⟩|o
  ·rw[hi.eF k aX] at o;cases o
  exact hi.e9 k b aX o
 have a: ∀(q:Option Nat),(∀b,q=some b->w.heap.size<=b/\b<m.heap.size)->(∀p,cX (sR q) m p 0 (E.arr ti 1 1 (bV ah l)))->(∀p,bq (sR q) m p (V.bf 0 1 1 0 (bV ah l).length) v)->
   ∃B,Left d B [] [E.arr ti 1 1 (bV ah l)] w m X (V.bf 0 1 1 0 (bV ah l).length) v:=by
  intro q Z C F;refine⟨sR q,⟨W.weaken λ_ _ h=>h.elim,λid h=>bB h (q6 _),tT W,λk o=>?_,λk b _ h=>h,λid M b r s=>by rw[(GF r).1,(GF s).1],λk b N=>?_,λk e H=>?_,F _⟩⟩
  ·have:k≠0:=by have:1<=k:=o;omega
   simp[sR,this]
  ·obtain⟨_,s⟩:=GF N;exact⟨.inr (Z b s).1,(Z b s).2⟩
  cases k with
  |zero=>simp at H;subst H;exact C _
  |succ k=>simp at H
 rcases h with ⟨rfl,S⟩|⟨g,K,n,rfl,T,L,Q,U,f,gJ⟩
 ·have:l=[]:=oK S;subst this;exact a none (λb h=>by cases h) (λp=>⟨cR _,.inl ⟨rfl,rfl⟩⟩) λp=> .iS 0 1 1 (cR _) rfl
 have z:g<m.heap.size:=(kA.1 L).1;have c:(bV ah l).length=l.length:=dJ ..;refine a (some g) (λb h=>by cases h;exact⟨T,z⟩) (λp=>⟨cR _,.inr ⟨g,n,rfl,L,by rw[c,f];omega,λR b7=>?_,λi j R x u r s h3=>?_⟩⟩) λp=>?_
 ·obtain⟨x,_,rfl⟩:=eA.1 b7;rfl
 ·rw[eK] at r;cases A:l[i]? with
  |none=>rw[A] at r;cases r
  |some y=>
   rw[A] at r;simp at r;subst r;have hi:=(bR.1 A).1
   match j with
   |0=>
    simp at s;subst s;have t:(l.map (Value.int .i64))[i]? =some (.int .i64 y):=by rw[eK,A];rfl
    rw[<-gJ,gZ,aR O] at t;have h5:n[i]? =some (.int .i64 y):=by simpa using t
    have D:n[i]? =some u:=by simpa using h3
    rw[h5] at D;cases D;exact .int _ _
   |j+1=>simp at s
 have:=bq.bf (β:=sR (some g)) (w:=m) (X:=p) 0 1 1 0 (bV ah l).length K g n.size ti (cR _) rfl z (by unfold World.shape?;rw[L]) (by rw[f];omega) (by rw[c];exact Q) U;rw[ih,c] at this;rw[c];exact this
theorem adR{B:TypeId}(bT:jZ P f)
  (h1: ∀(b m n c:Nat) (K:List Int) (w:World),n<=K.length->n*8<=140737488355328->(∀j,j<K.length->w.cell? ⟨b,m+j,none⟩=some (.int .i64 (K.getD j 0)))->
   Calls P f #[.slice (some ⟨b,m,none⟩) n c] w λe o=> ∃x,e= .returned x/\o.ownsRow w.heap.size B 1 x n ((K.take n).map (Value.int .i64))/\x≠ .slice none 0 0/\Below w.heap.size w o)
  (h2: ∀(n c:Nat) (w:World),Calls P f #[.slice none n c] w λe o=>e= .returned (.slice none 0 0)/\o=w)
  (h3: ∀(a:Addr) (c:Nat) (w:World),Calls P f #[.slice (some a) 0 c] w λe o=> ∃x,e= .returned x/\o.ownsRow w.heap.size B 1 x 0 []/\x≠ .slice none 0 0/\Below w.heap.size w o):
  ∀(l:List Int) {r:List Int},ji l=some r->jU P G f [] [aF ah l] (ms 0 1 1 ah r) [aH B 1 1 ah r]:=by
 intro l r L;unfold ji at L;split at L
 ·rename_i cY;cases L;refine⟨bT,λw X p S kS W Z hu=>?_⟩;obtain⟨u,rfl,dI⟩: ∃u,S=[u]/\bq p w (mS X p (ft [] 0)) (aF ah l) u:=by
   match S,hu with
   | [u],h=>exact⟨u,rfl,h.1⟩
   | [],h=>exact h.elim
   |_::_::_,h=>exact h.2.elim
  have zero:l=[]-> ∀a d,u= .slice a 0 d->Calls P f [u].toArray w λe o=> ∃U,∃i:Unit,∃z,e= .returned U/\True/\Left p z [] [aH B 1 1 ah l] w o X (ms 0 1 1 ah l) U:=by
   intro Q a d he;subst Q;subst he;cases a with
   |none=>
    refine(h2 0 d w).mono ?_;rintro e o ⟨rfl,rfl⟩;obtain⟨z,q⟩:=He (ti:=B) (l:=[]) Z W (Ext.refl _ _) ⟨rfl,.inl ⟨rfl,rfl⟩⟩;exact⟨_,(),z,rfl,trivial,q⟩
   |some a=>
    refine(h3 a d w).mono ?_;rintro e o ⟨x,rfl,R,_,D⟩;obtain⟨z,q⟩:=He (ti:=B) (l:=[]) Z W (NL D) R;exact⟨_,(),z,rfl,trivial,q⟩
  have y:bq p w (mS X p (ft [] 0)) (.t (.bD (bV ah l))) u:=dI;cases y with
  |t _ _ y=>
   generalize s:bV ah l=V at y;cases y with
   |gW a d=>exact zero (List.map_eq_nil_iff.1 s) a d rfl
   |bD _ b m C d g bb akq Jz E A I=>
    subst s;by_cases Q:l=[]
    ·subst Q;exact zero rfl _ _ rfl
    obtain⟨iG,M⟩:=ET l Q;have N:C=1:=(E (ah iG) (EW M)).symm;subst N;have k:(bV ah l).length=l.length:=dJ ..;refine(h1 b m (bV ah l).length d l w (by rw[k];exact cR _) (by rw[k];omega) λj hj=>?_).mono ?_
    ·have F:=A j 0 (by rw[k];exact hj) O;have bK:=bp hj;have H:=I j 0 (ah l[j]) (T.int .i64 l[j]) (by rw[eK,bK];rfl) rfl;rw[show m+j*1+0=m+j by omega] at F;rw[F];generalize g j 0=v at H;cases H;rw[eP,bK];rfl
    rintro e o ⟨x,rfl,R,_,D⟩;rw[k,dW] at R;obtain⟨z,q⟩:=He Z W (NL D) R;exact⟨_,(),z,rfl,trivial,q⟩
 cases L
end
end Go.Lift
