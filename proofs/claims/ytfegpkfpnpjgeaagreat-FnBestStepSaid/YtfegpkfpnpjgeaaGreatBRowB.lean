/- Tools. -/
import Derived.Test.YtfegpkfpnpjgeaaGreatBLiftRow
set_option linter.unusedVariables false
namespace Go.Lift
open Go Go.ChangeShapes Go.WideShapes Go.ChangeAt Go.RowKit
section
variable {P:Program}
variable {f:FuncId}{G:eY}
theorem Xz(d:ig P f)(h: ∀(s sub:ByteArray),s.size<4294967281-> ∀w,G.ok w->Calls P f #[.string s,.string sub] w λe c=>e= .returned (.bool (Lib.contains s.data.toList sub.data.toList))/\c=w):
  ∀(s t:List UInt8) (r:Bool),yn s t=some r->jV P G f [bC s,bC t] (aM r):=by
 intro s t r a;unfold yn at a;split at a
 ·rename_i i;cases a;refine⟨d,λw X o k p l=>?_⟩;obtain⟨u,v,rfl,m,n⟩:=ab1 l;obtain rfl:=hb m;obtain rfl:=hb n;refine(h ⟨s.toArray⟩ ⟨t.toArray⟩ (by simpa[ByteArray.size] using i) w k).mono ?_;rintro e c ⟨rfl,rfl⟩;exact⟨_,rfl,Ext.refl _ _,.t _ _ (.bool _)⟩
 cases a
def rL(q:Option Nat):Map:=⟨λk=>if k=0 then some (q,1) else none,λ_ _=>False⟩
theorem E9{q:Option Nat}{n b:Nat}(h:At (rL q) n b):n=0/\q=some b:=by
 rcases h with ⟨g,h⟩|h
 ·simp only[rL] at h;split at h
  ·rename_i a;cases h;exact⟨a,rfl⟩
  cases h
 exact h.elim
theorem FE{d:Map}{w m:World}{X:Nat->Prop}(aE:zB G [] d w X)(gp: ∀b,X b->b<w.heap.size)(W:Ext (λ_=>False) w m){ti:TypeId}{l:List Int}{v:Value}(h:m.ownsRow w.heap.size ti 1 v l.length (l.map (Value.int .i64))):
  ∃B,Left d B [] [E.arr ti 1 1 (List.map I l)] w m X (V.a8 0 1 1 0 (List.map I l).length) v:=by
 obtain⟨_,h⟩:=h;have N: ∀b,¬ ∃k,At d k b:=λb ⟨k,o⟩=>by
  rcases o with ⟨g,o⟩|o
  ·rw[aE.dF k aP] at o;cases o
  exact aE.ea k b aP o
 have a: ∀(q:Option Nat),(∀b,q=some b->w.heap.size<=b/\b<m.heap.size)->(∀p,cC (rL q) m p 0 (E.arr ti 1 1 (List.map I l)))->(∀p,bk (rL q) m p (V.a8 0 1 1 0 (List.map I l).length) v)->
   ∃B,Left d B [] [E.arr ti 1 1 (List.map I l)] w m X (V.a8 0 1 1 0 (List.map I l).length) v:=by
  intro q f C F;refine⟨rL q,⟨W.weaken λ_ _ h=>h.elim,λid h=>bz h (rj _),qA W,λk o=>?_,λk b _ h=>h,λid S b r s=>by rw[(E9 r).1,(E9 s).1],λk b T=>?_,λk e H=>?_,F _⟩⟩
  ·have:k≠0:=by have:1<=k:=o;omega
   simp[rL,this]
  ·obtain⟨_,s⟩:=E9 T;exact⟨.inr (f b s).1,(f b s).2⟩
  cases k with
  |zero=>simp at H;subst H;exact C _
  |succ k=>simp at H
 rcases h with ⟨rfl,U⟩|⟨g,K,n,rfl,Y,L,Q,hm,t,fc⟩
 ·have:l=[]:=l1 U;subst this;exact a none (λb h=>by cases h) (λp=>⟨cJ _,.inl ⟨rfl,rfl⟩⟩) λp=> .hi 0 1 1 (cJ _) rfl
 have z:g<m.heap.size:=(js.1 L).1;have c:(List.map I l).length=l.length:=dn ..;refine a (some g) (λb h=>by cases h;exact⟨Y,z⟩) (λp=>⟨cJ _,.inr ⟨g,n,rfl,L,by rw[c,t];omega,λR bR=>?_,λi j R x u r s h3=>?_⟩⟩) λp=>?_
 ·obtain⟨x,_,rfl⟩:=ey.1 bR;rfl
 ·rw[ev] at r;cases A:l[i]? with
  |none=>rw[A] at r;cases r
  |some y=>
   rw[A] at r;simp at r;subst r;have aE:=(bU.1 A).1
   match j with
   |0=>
    simp at s;subst s;have D:(l.map (Value.int .i64))[i]? =some (.int .i64 y):=by rw[ev,A];rfl
    rw[<-fc,fS,a1 O] at D;have h5:n[i]? =some (.int .i64 y):=by simpa using D
    have M:n[i]? =some u:=by simpa using h3
    rw[h5] at M;cases M;exact .int _ _
   |j+1=>simp at s
 have:=bk.a8 (β:=rL (some g)) (w:=m) (X:=p) 0 1 1 0 (List.map I l).length K g n.size ti (cJ _) rfl z (by unfold World.shape?;rw[L]) (by rw[t];omega) (by rw[c];exact Q) hm;rw[ga,c] at this;rw[c];exact this
theorem abI{B:TypeId}(bG:ig P f)
  (h1: ∀(b m n c:Nat) (K:List Int) (w:World),n<=K.length->n*8<=140737488355328->(∀j,j<K.length->w.cell? ⟨b,m+j,none⟩=some (.int .i64 (K.getD j 0)))->
   Calls P f #[.slice (some ⟨b,m,none⟩) n c] w λe o=> ∃x,e= .returned x/\o.ownsRow w.heap.size B 1 x n ((K.take n).map (Value.int .i64))/\x≠ .slice none 0 0/\Below w.heap.size w o)
  (h2: ∀(n c:Nat) (w:World),Calls P f #[.slice none n c] w λe o=>e= .returned (.slice none 0 0)/\o=w)
  (h3: ∀(a:Addr) (c:Nat) (w:World),Calls P f #[.slice (some a) 0 c] w λe o=> ∃x,e= .returned x/\o.ownsRow w.heap.size B 1 x 0 []/\x≠ .slice none 0 0/\Below w.heap.size w o):
  ∀(l:List Int) {r:List Int},jL l=some r->jb P G f [] [aF I l] (ms 0 1 1 I r) [az B 1 1 I r]:=by
 intro l r L;unfold jL at L;split at L
 ·rename_i cy;cases L;refine⟨bG,λw X p V kY W D hu=>?_⟩;obtain⟨u,rfl,hq⟩: ∃u,V=[u]/\bk p w (lW X p (eN [] 0)) (aF I l) u:=by
   match V,hu with
   | [u],h=>exact⟨u,rfl,h.1⟩
   | [],h=>exact h.elim
   |_::_::_,h=>exact h.2.elim
  have zero:l=[]-> ∀a d,u= .slice a 0 d->Calls P f [u].toArray w λe o=> ∃Y,∃i:Unit,∃z,e= .returned Y/\True/\Left p z [] [az B 1 1 I l] w o X (ms 0 1 1 I l) Y:=by
   intro Q a d he;subst Q;subst he;cases a with
   |none=>
    refine(h2 0 d w).mono ?_;rintro e o ⟨rfl,rfl⟩;obtain⟨z,q⟩:=FE (ti:=B) (l:=[]) D W (Ext.refl _ _) ⟨rfl,.inl ⟨rfl,rfl⟩⟩;exact⟨_,(),z,rfl,trivial,q⟩
   |some a=>
    refine(h3 a d w).mono ?_;rintro e o ⟨x,rfl,R,_,E⟩;obtain⟨z,q⟩:=FE (ti:=B) (l:=[]) D W (z6 E) R;exact⟨_,(),z,rfl,trivial,q⟩
  have y:bk p w (lW X p (eN [] 0)) (.t (.aA (List.map I l))) u:=hq;cases y with
  |t _ _ y=>
   generalize s:List.map I l=rows at y;cases y with
   |fI a d=>exact zero (List.map_eq_nil_iff.1 s) a d rfl
   |aA _ b m C d g aY ahu H9 M A N=>
    subst s;by_cases Q:l=[]
    ·subst Q;exact zero rfl _ _ rfl
    obtain⟨hV,S⟩:=Dw l Q;have U:C=1:=(M (I hV) (List.mem_map_of_mem S)).symm;subst U;have k:(List.map I l).length=l.length:=dn ..;refine(h1 b m (List.map I l).length d l w (by rw[k];exact cJ _) (by rw[k];omega) λj hj=>?_).mono ?_
    ·have F:=A j 0 (by rw[k];exact hj) O;have bI:=bo hj;have H:=N j 0 (I l[j]) (T.int .i64 l[j]) (by rw[ev,bI];rfl) rfl;rw[show m+j*1+0=m+j by omega] at F;rw[F];generalize g j 0=v at H;cases H;rw[eL,bI];rfl
    rintro e o ⟨x,rfl,R,_,E⟩;rw[k,dz] at R;obtain⟨z,q⟩:=FE D W (z6 E) R;exact⟨_,(),z,rfl,trivial,q⟩
 cases L
end
end Go.Lift
