/- Tools. -/
import Derived.Test.YteifkndfpnkalaaGreatELiftRow
set_option linter.unusedVariables false
namespace Go.Lift
open Go Go.ChangeShapes Go.WideShapes Go.ChangeAt Go.RowKit
open List renaming map -> bV
section
variable {P:Program}
variable {f:FuncId}{G:fL}
theorem ZS(d:j2 P f)(h: ∀(s sub:ByteArray),s.size<4294967281-> ∀w,G.ok w->Calls P f #[.string s,.string sub] w λe c=>e= .returned (.bool (Lib.contains s.data.toList sub.data.toList))/\c=w):
  ∀(s t:List UInt8) (r:Bool),zk s t=some r->lR P G f [bA s,bA t] (aL r):=by
 intro s t r a;unfold zk at a;split at a
 ·rename_i i;cases a;refine⟨d,λw X o k p l=>?_⟩;obtain⟨u,v,rfl,m,n⟩:=afD l;obtain rfl:=iu m;obtain rfl:=iu n;refine(h ⟨s.toArray⟩ ⟨t.toArray⟩ (by simpa[ByteArray.size] using i) w k).mono ?_;rintro e c ⟨rfl,rfl⟩;exact⟨_,rfl,Ext.refl _ _,.t _ _ (.bool _)⟩
 cases a
def sS(q:Option Nat):Map:=⟨λk=>if k=0 then some (q,1) else none,λ_ _=>False⟩
theorem GJ{q:Option Nat}{i b:Nat}(h:At (sS q) i b):i=0/\q=some b:=by
 rcases h with ⟨g,h⟩|h
 ·simp only[sS] at h;split at h
  ·rename_i a;cases h;exact⟨a,rfl⟩
  cases h
 exact h.elim
theorem Hg{d:Map}{w m:World}{X:Nat->Prop}(hi:AS G [] d w X)(iv: ∀b,X b->b<w.heap.size)(W:Ext (λ_=>False) w m){ti:TypeId}{l:List Int}{v:Value}(h:m.ownsRow w.heap.size ti 1 v l.length (l.map (Value.int .i64))):
  ∃B,Left d B [] [E.arr ti 1 1 (bV ai l)] w m X (V.bg 0 1 1 0 (bV ai l).length) v:=by
 obtain⟨_,h⟩:=h;have I: ∀b,¬ ∃k,At d k b:=λb ⟨k,o⟩=>by
  rcases o with ⟨g,o⟩|o
  ·rw[hi.eF k aX] at o;cases o
  exact hi.e9 k b aX o
 have a: ∀(q:Option Nat),(∀b,q=some b->w.heap.size<=b/\b<m.heap.size)->(∀p,cX (sS q) m p 0 (E.arr ti 1 1 (bV ai l)))->(∀p,bq (sS q) m p (V.bg 0 1 1 0 (bV ai l).length) v)->
   ∃B,Left d B [] [E.arr ti 1 1 (bV ai l)] w m X (V.bg 0 1 1 0 (bV ai l).length) v:=by
  intro q Z C F;refine⟨sS q,⟨W.weaken λ_ _ h=>h.elim,λid h=>bB h (q6 _),tV W,λk o=>?_,λk b _ h=>h,λid M b r s=>by rw[(GJ r).1,(GJ s).1],λk b N=>?_,λk e H=>?_,F _⟩⟩
  ·have:k≠0:=by have:1<=k:=o;omega
   simp[sS,this]
  ·obtain⟨_,s⟩:=GJ N;exact⟨.inr (Z b s).1,(Z b s).2⟩
  cases k with
  |zero=>simp at H;subst H;exact C _
  |succ k=>simp at H
 rcases h with ⟨rfl,S⟩|⟨g,K,n,rfl,T,L,Q,U,f,gJ⟩
 ·have:l=[]:=oN S;subst this;exact a none (λb h=>by cases h) (λp=>⟨cR _,.inl ⟨rfl,rfl⟩⟩) λp=> .iT 0 1 1 (cR _) rfl
 have z:g<m.heap.size:=(kB.1 L).1;have c:(bV ai l).length=l.length:=dJ ..;refine a (some g) (λb h=>by cases h;exact⟨T,z⟩) (λp=>⟨cR _,.inr ⟨g,n,rfl,L,by rw[c,f];omega,λR b8=>?_,λi j R x u r s h3=>?_⟩⟩) λp=>?_
 ·obtain⟨x,_,rfl⟩:=eA.1 b8;rfl
 ·rw[eL] at r;cases A:l[i]? with
  |none=>rw[A] at r;cases r
  |some y=>
   rw[A] at r;simp at r;subst r;have hi:=(bS.1 A).1
   match j with
   |0=>
    simp at s;subst s;have t:(l.map (Value.int .i64))[i]? =some (.int .i64 y):=by rw[eL,A];rfl
    rw[<-gJ,g',aR O] at t;have h5:n[i]? =some (.int .i64 y):=by simpa using t
    have D:n[i]? =some u:=by simpa using h3
    rw[h5] at D;cases D;exact .int _ _
   |j+1=>simp at s
 have:=bq.bg (β:=sS (some g)) (w:=m) (X:=p) 0 1 1 0 (bV ai l).length K g n.size ti (cR _) rfl z (by unfold World.shape?;rw[L]) (by rw[f];omega) (by rw[c];exact Q) U;rw[ik,c] at this;rw[c];exact this
theorem ae7{B:TypeId}(bT:j2 P f)
  (h1: ∀(b m n c:Nat) (K:List Int) (w:World),n<=K.length->n*8<=140737488355328->(∀j,j<K.length->w.cell? ⟨b,m+j,none⟩=some (.int .i64 (K.getD j 0)))->
   Calls P f #[.slice (some ⟨b,m,none⟩) n c] w λe o=> ∃x,e= .returned x/\o.ownsRow w.heap.size B 1 x n ((K.take n).map (Value.int .i64))/\x≠ .slice none 0 0/\Below w.heap.size w o)
  (h2: ∀(n c:Nat) (w:World),Calls P f #[.slice none n c] w λe o=>e= .returned (.slice none 0 0)/\o=w)
  (h3: ∀(a:Addr) (c:Nat) (w:World),Calls P f #[.slice (some a) 0 c] w λe o=> ∃x,e= .returned x/\o.ownsRow w.heap.size B 1 x 0 []/\x≠ .slice none 0 0/\Below w.heap.size w o):
  ∀(l:List Int) {r:List Int},jj l=some r->jW P G f [] [aE ai l] (ms 0 1 1 ai r) [aH B 1 1 ai r]:=by
 intro l r L;unfold jj at L;split at L
 ·rename_i cY;cases L;refine⟨bT,λw X p S kV W Z hu=>?_⟩;obtain⟨u,rfl,dI⟩: ∃u,S=[u]/\bq p w (mS X p (ft [] 0)) (aE ai l) u:=by
   match S,hu with
   | [u],h=>exact⟨u,rfl,h.1⟩
   | [],h=>exact h.elim
   |_::_::_,h=>exact h.2.elim
  have zero:l=[]-> ∀a d,u= .slice a 0 d->Calls P f [u].toArray w λe o=> ∃U,∃i:Unit,∃z,e= .returned U/\True/\Left p z [] [aH B 1 1 ai l] w o X (ms 0 1 1 ai l) U:=by
   intro Q a d he;subst Q;subst he;cases a with
   |none=>
    refine(h2 0 d w).mono ?_;rintro e o ⟨rfl,rfl⟩;obtain⟨z,q⟩:=Hg (ti:=B) (l:=[]) Z W (Ext.refl _ _) ⟨rfl,.inl ⟨rfl,rfl⟩⟩;exact⟨_,(),z,rfl,trivial,q⟩
   |some a=>
    refine(h3 a d w).mono ?_;rintro e o ⟨x,rfl,R,_,D⟩;obtain⟨z,q⟩:=Hg (ti:=B) (l:=[]) Z W (Ow D) R;exact⟨_,(),z,rfl,trivial,q⟩
  have y:bq p w (mS X p (ft [] 0)) (.t (.bE (bV ai l))) u:=dI;cases y with
  |t _ _ y=>
   generalize s:bV ai l=V at y;cases y with
   |gX a d=>exact zero (List.map_eq_nil_iff.1 s) a d rfl
   |bE _ b m C d g bb akE JB E A I=>
    subst s;by_cases Q:l=[]
    ·subst Q;exact zero rfl _ _ rfl
    obtain⟨iH,M⟩:=EZ l Q;have N:C=1:=(E (ai iH) (E3 M)).symm;subst N;have k:(bV ai l).length=l.length:=dJ ..;refine(h1 b m (bV ai l).length d l w (by rw[k];exact cR _) (by rw[k];omega) λj hj=>?_).mono ?_
    ·have F:=A j 0 (by rw[k];exact hj) O;have bL:=bp hj;have H:=I j 0 (ai l[j]) (T.int .i64 l[j]) (by rw[eL,bL];rfl) rfl;rw[show m+j*1+0=m+j by omega] at F;rw[F];generalize g j 0=v at H;cases H;rw[eQ,bL];rfl
    rintro e o ⟨x,rfl,R,_,D⟩;rw[k,dW] at R;obtain⟨z,q⟩:=Hg Z W (Ow D) R;exact⟨_,(),z,rfl,trivial,q⟩
 cases L
end
end Go.Lift
