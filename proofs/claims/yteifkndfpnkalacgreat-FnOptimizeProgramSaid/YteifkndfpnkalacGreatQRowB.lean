/- Tools. -/
import Derived.Test.YteifkndfpnkalacGreatQLiftRow
set_option linter.unusedVariables false
namespace Go.Lift
open Go Go.ChangeShapes Go.WideShapes Go.ChangeAt Go.RowKit
open List renaming map -> bV
section
variable {P:Program}
variable {f:FuncId}{G:fq}
theorem Xk(d:jy P f)(h: ∀(s sub:ByteArray),s.size<4294967281-> ∀w,G.ok w->Calls P f #[.string s,.string sub] w λe c=>e= .returned (.bool (Lib.contains s.data.toList sub.data.toList))/\c=w):
  ∀(s t:List UInt8) (r:Bool),xX s t=some r->j8 P G f [bB s,bB t] (aO r):=by
 intro s t r a;unfold xX at a;split at a
 ·rename_i i;cases a;refine⟨d,λw X o k p l=>?_⟩;obtain⟨u,v,rfl,m,n⟩:=ac' l;obtain rfl:=hJ m;obtain rfl:=hJ n;refine(h ⟨s.toArray⟩ ⟨t.toArray⟩ (by simpa[ByteArray.size] using i) w k).mono ?_;rintro e c ⟨rfl,rfl⟩;exact⟨_,rfl,Ext.refl _ _,.t _ _ (.bool _)⟩
 cases a
def rK(q:Option Nat):Map:=⟨λk=>if k=0 then some (q,1) else none,λ_ _=>False⟩
theorem EZ{q:Option Nat}{n b:Nat}(h:At (rK q) n b):n=0/\q=some b:=by
 rcases h with ⟨g,h⟩|h
 ·simp only[rK] at h;split at h
  ·rename_i a;cases h;exact⟨a,rfl⟩
  cases h
 exact h.elim
theorem Fa{d:Map}{w m:World}{X:Nat->Prop}(aP:zh G [] d w X)(iJ: ∀b,X b->b<w.heap.size)(W:Ext (λ_=>False) w m){ti:TypeId}{l:List Int}{v:Value}(h:m.ownsRow w.heap.size ti 1 v l.length (l.map (Value.int .i64))):
  ∃B,Left d B [] [E.arr ti 1 1 (bV ae l)] w m X (V.bn 0 1 1 0 (bV ae l).length) v:=by
 obtain⟨_,h⟩:=h;have I: ∀b,¬ ∃k,At d k b:=λb ⟨k,o⟩=>by
  rcases o with ⟨g,o⟩|o
  ·rw[aP.eh k aW] at o;cases o
  exact aP.eQ k b aW o
 have a: ∀(q:Option Nat),(∀b,q=some b->w.heap.size<=b/\b<m.heap.size)->(∀p,cN (rK q) m p 0 (E.arr ti 1 1 (bV ae l)))->(∀p,bp (rK q) m p (V.bn 0 1 1 0 (bV ae l).length) v)->
   ∃B,Left d B [] [E.arr ti 1 1 (bV ae l)] w m X (V.bn 0 1 1 0 (bV ae l).length) v:=by
  intro q Z C F;refine⟨rK q,⟨W.weaken λ_ _ h=>h.elim,λid h=>bz h (p4 _),i8 W,λk o=>?_,λk b _ h=>h,λid M b r s=>by rw[(EZ r).1,(EZ s).1],λk b N=>?_,λk e H=>?_,F _⟩⟩
  ·have:k≠0:=by have:1<=k:=o;omega
   simp[rK,this]
  ·obtain⟨_,s⟩:=EZ N;exact⟨.inr (Z b s).1,(Z b s).2⟩
  cases k with
  |zero=>simp at H;subst H;exact C _
  |succ k=>simp at H
 rcases h with ⟨rfl,S⟩|⟨g,K,n,rfl,T,L,Q,U,f,gF⟩
 ·have:l=[]:=nH S;subst this;exact a none (λb h=>by cases h) (λp=>⟨cV _,.inl ⟨rfl,rfl⟩⟩) λp=> .iO 0 1 1 (cV _) rfl
 have z:g<m.heap.size:=(kv.1 L).1;have c:(bV ae l).length=l.length:=dz ..;refine a (some g) (λb h=>by cases h;exact⟨T,z⟩) (λp=>⟨cV _,.inr ⟨g,n,rfl,L,by rw[c,f];omega,λR b3=>?_,λi j R x u r s h3=>?_⟩⟩) λp=>?_
 ·obtain⟨x,_,rfl⟩:=eo.1 b3;rfl
 ·rw[ek] at r;cases A:l[i]? with
  |none=>rw[A] at r;cases r
  |some y=>
   rw[A] at r;simp at r;subst r;have aP:=(bX.1 A).1
   match j with
   |0=>
    simp at s;subst s;have t:(l.map (Value.int .i64))[i]? =some (.int .i64 y):=by rw[ek,A];rfl
    rw[<-gF,hS,aX O] at t;have h5:n[i]? =some (.int .i64 y):=by simpa using t
    have D:n[i]? =some u:=by simpa using h3
    rw[h5] at D;cases D;exact .int _ _
   |j+1=>simp at s
 have:=bp.bn (β:=rK (some g)) (w:=m) (X:=p) 0 1 1 0 (bV ae l).length K g n.size ti (cV _) rfl z (by unfold World.shape?;rw[L]) (by rw[f];omega) (by rw[c];exact Q) U;rw[iq,c] at this;rw[c];exact this
theorem abX{B:TypeId}(bN:jy P f)
  (h1: ∀(b m n c:Nat) (K:List Int) (w:World),n<=K.length->n*8<=140737488355328->(∀j,j<K.length->w.cell? ⟨b,m+j,none⟩=some (.int .i64 (K.getD j 0)))->
   Calls P f #[.slice (some ⟨b,m,none⟩) n c] w λe o=> ∃x,e= .returned x/\o.ownsRow w.heap.size B 1 x n ((K.take n).map (Value.int .i64))/\x≠ .slice none 0 0/\Below w.heap.size w o)
  (h2: ∀(n c:Nat) (w:World),Calls P f #[.slice none n c] w λe o=>e= .returned (.slice none 0 0)/\o=w)
  (h3: ∀(a:Addr) (c:Nat) (w:World),Calls P f #[.slice (some a) 0 c] w λe o=> ∃x,e= .returned x/\o.ownsRow w.heap.size B 1 x 0 []/\x≠ .slice none 0 0/\Below w.heap.size w o):
  ∀(l:List Int) {r:List Int},iN l=some r->kF P G f [] [aB ae l] (ms 0 1 1 ae r) [aG B 1 1 ae r]:=by
 intro l r L;unfold iN at L;split at L
 ·rename_i cG;cases L;refine⟨bN,λw X p S lh W Z hu=>?_⟩;obtain⟨u,rfl,hq⟩: ∃u,S=[u]/\bp p w (mI X p (fw [] 0)) (aB ae l) u:=by
   match S,hu with
   | [u],h=>exact⟨u,rfl,h.1⟩
   | [],h=>exact h.elim
   |_::_::_,h=>exact h.2.elim
  have zero:l=[]-> ∀a d,u= .slice a 0 d->Calls P f [u].toArray w λe o=> ∃U,∃i:Unit,∃z,e= .returned U/\True/\Left p z [] [aG B 1 1 ae l] w o X (ms 0 1 1 ae l) U:=by
   intro Q a d he;subst Q;subst he;cases a with
   |none=>
    refine(h2 0 d w).mono ?_;rintro e o ⟨rfl,rfl⟩;obtain⟨z,q⟩:=Fa (ti:=B) (l:=[]) Z W (Ext.refl _ _) ⟨rfl,.inl ⟨rfl,rfl⟩⟩;exact⟨_,(),z,rfl,trivial,q⟩
   |some a=>
    refine(h3 a d w).mono ?_;rintro e o ⟨x,rfl,R,_,D⟩;obtain⟨z,q⟩:=Fa (ti:=B) (l:=[]) Z W (zH D) R;exact⟨_,(),z,rfl,trivial,q⟩
  have y:bp p w (mI X p (fw [] 0)) (.t (.bD (bV ae l))) u:=hq;cases y with
  |t _ _ y=>
   generalize s:bV ae l=V at y;cases y with
   |gn a d=>exact zero (List.map_eq_nil_iff.1 s) a d rfl
   |bD _ b m C d g a7 ail Hw E A I=>
    subst s;by_cases Q:l=[]
    ·subst Q;exact zero rfl _ _ rfl
    obtain⟨k8,M⟩:=C5 l Q;have N:C=1:=(E (ae k8) (C8 M)).symm;subst N;have k:(bV ae l).length=l.length:=dz ..;refine(h1 b m (bV ae l).length d l w (by rw[k];exact cV _) (by rw[k];omega) λj hj=>?_).mono ?_
    ·have F:=A j 0 (by rw[k];exact hj) O;have bG:=bo hj;have H:=I j 0 (ae l[j]) (T.int .i64 l[j]) (by rw[ek,bG];rfl) rfl;rw[show m+j*1+0=m+j by omega] at F;rw[F];generalize g j 0=v at H;cases H;rw[eB,bG];rfl
    rintro e o ⟨x,rfl,R,_,D⟩;rw[k,dF] at R;obtain⟨z,q⟩:=Fa Z W (zH D) R;exact⟨_,(),z,rfl,trivial,q⟩
 cases L
end
end Go.Lift
