/- Tools. -/
import Derived.Test.YtlbojjldejlgaaaGreatVLiftRow
set_option linter.unusedVariables false
namespace Go.Lift
open Go Go.ChangeShapes Go.WideShapes Go.ChangeAt Go.RowKit
section
variable {P:Program}
variable {f:FuncId}{G:ef}
theorem NG(c:hP P f)(h: ∀(s sub:ByteArray),s.size<4294967281-> ∀w,G.ok w->Calls P f #[.string s,.string sub] w λe b=>e= .returned (.bool (Lib.contains s.data.toList sub.data.toList))/\b=w):
  ∀(s t:List UInt8) (r:Bool),s3 s t=some r->hJ P G f [cw s,cw t] (aZ r):=by
 intro s t r a;unfold s3 at a;split at a
 ·rename_i d;cases a;refine⟨c,λw X n i o k=>?_⟩;obtain⟨u,v,rfl,l,m⟩:=Sg k;obtain rfl:=fD l;obtain rfl:=fD m;refine(h ⟨s.toArray⟩ ⟨t.toArray⟩ (by simpa[ByteArray.size] using d) w i).mono ?_;rintro e b ⟨rfl,rfl⟩;exact⟨_,rfl,Ext.refl _ _,.t _ _ (.bool _)⟩
 cases a
def pq(q:Option Nat):Map:=⟨λk=>if k=0 then some (q,1) else none,λ_ _=>False⟩
theorem yo{q:Option Nat}{i b:Nat}(h:At (pq q) i b):i=0/\q=some b:=by
 rcases h with ⟨g,h⟩|h
 ·simp only[pq] at h;split at h
  ·rename_i a;cases h;exact⟨a,rfl⟩
  cases h
 exact h.elim
theorem yW{d:Map}{w m:World}{X:Nat->Prop}(aD:mw G [] d w X)(e8: ∀b,X b->b<w.heap.size)(R:Ext (λ_=>False) w m){ti:TypeId}{l:List Int}{v:Value}(h:m.ownsRow w.heap.size ti 1 v l.length (l.map (Value.int .i64))):
  ∃B,Left d B [] [E.arr ti 1 1 (List.map U l)] w m X (V.aN 0 1 1 0 (List.map U l).length) v:=by
 obtain⟨_,h⟩:=h;have M: ∀b,¬ ∃k,At d k b:=λb ⟨k,o⟩=>by
  rcases o with ⟨g,o⟩|o
  ·rw[aD.cW k aV] at o;cases o
  exact aD.du k b aV o
 have a: ∀(q:Option Nat),(∀b,q=some b->w.heap.size<=b/\b<m.heap.size)->(∀p,b4 (pq q) m p 0 (E.arr ti 1 1 (List.map U l)))->(∀p,aS (pq q) m p (V.aN 0 1 1 0 (List.map U l).length) v)->
   ∃B,Left d B [] [E.arr ti 1 1 (List.map U l)] w m X (V.aN 0 1 1 0 (List.map U l).length) v:=by
  intro q W C D;refine⟨pq q,⟨R.weaken λ_ _ h=>h.elim,λid h=>a7 h (lA _),lQ R,λk o=>?_,λk b _ h=>h,λid N b r s=>by rw[(yo r).1,(yo s).1],λk b S=>?_,λk e F=>?_,D _⟩⟩
  ·have:k≠0:=by have:1<=k:=o;omega
   simp[pq,this]
  ·obtain⟨_,s⟩:=yo S;exact⟨.inr (W b s).1,(W b s).2⟩
  cases k with
  |zero=>simp at F;subst F;exact C _
  |succ k=>simp at F
 rcases h with ⟨rfl,T⟩|⟨g,H,n,rfl,Y,K,L,hm,f,eV⟩
 ·have:l=[]:=iW T;subst this;exact a none (λb h=>by cases h) (λp=>⟨cL _,.inl ⟨rfl,rfl⟩⟩) λp=> .fB 0 1 1 (cL _) rfl
 have z:g<m.heap.size:=(gw.1 K).1;have c:(List.map U l).length=l.length:=dL ..;refine a (some g) (λb h=>by cases h;exact⟨Y,z⟩) (λp=>⟨cL _,.inr ⟨g,n,rfl,K,by rw[c,f];omega,λQ bH=>?_,λi j Q x u r s h3=>?_⟩⟩) λp=>?_
 ·obtain⟨x,_,rfl⟩:=fY.1 bH;rfl
 ·rw[dT] at r;cases A:l[i]? with
  |none=>rw[A] at r;cases r
  |some y=>
   rw[A] at r;simp at r;subst r;have aD:=(bt.1 A).1
   match j with
   |0=>
    simp at s;subst s;have t:(l.map (Value.int .i64))[i]? =some (.int .i64 y):=by rw[dT,A];rfl
    rw[<-eV,fJ,bn O] at t;have h5:n[i]? =some (.int .i64 y):=by simpa using t
    have I:n[i]? =some u:=by simpa using h3
    rw[h5] at I;cases I;exact .int _ _
   |j+1=>simp at s
 have:=aS.aN (β:=pq (some g)) (w:=m) (X:=p) 0 1 1 0 (List.map U l).length H g n.size ti (cL _) rfl z (by unfold World.shape?;rw[K]) (by rw[f];omega) (by rw[c];exact L) hm;rw[fe,c] at this;rw[c];exact this
theorem RN{B:TypeId}(bl:hP P f)
  (h1: ∀(b m n c:Nat) (H:List Int) (w:World),n<=H.length->n*8<=140737488355328->(∀j,j<H.length->w.cell? ⟨b,m+j,none⟩=some (.int .i64 (H.getD j 0)))->
   Calls P f #[.slice (some ⟨b,m,none⟩) n c] w λe o=> ∃x,e= .returned x/\o.ownsRow w.heap.size B 1 x n ((H.take n).map (Value.int .i64))/\x≠ .slice none 0 0/\Below w.heap.size w o)
  (h2: ∀(n c:Nat) (w:World),Calls P f #[.slice none n c] w λe o=>e= .returned (.slice none 0 0)/\o=w)
  (h3: ∀(a:Addr) (c:Nat) (w:World),Calls P f #[.slice (some a) 0 c] w λe o=> ∃x,e= .returned x/\o.ownsRow w.heap.size B 1 x 0 []/\x≠ .slice none 0 0/\Below w.heap.size w o):
  ∀(l:List Int) {r:List Int},ht l=some r->gO P G f [] [ax U l] (ms 0 1 1 U r) [aW B 1 1 U r]:=by
 intro l r K;unfold ht at K;split at K
 ·rename_i cn;cases K;refine⟨bl,λw X p V iH R W hu=>?_⟩;obtain⟨u,rfl,cK⟩: ∃u,V=[u]/\aS p w (fS X p (dy [] 0)) (ax U l) u:=by
   match V,hu with
   | [u],h=>exact⟨u,rfl,h.1⟩
   | [],h=>exact h.elim
   |_::_::_,h=>exact h.2.elim
  have zero:l=[]-> ∀a d,u= .slice a 0 d->Calls P f [u].toArray w λe o=> ∃Y,∃i:Unit,∃z,e= .returned Y/\True/\Left p z [] [aW B 1 1 U l] w o X (ms 0 1 1 U l) Y:=by
   intro L a d he;subst L;subst he;cases a with
   |none=>
    refine(h2 0 d w).mono ?_;rintro e o ⟨rfl,rfl⟩;obtain⟨z,q⟩:=yW (ti:=B) (l:=[]) W R (Ext.refl _ _) ⟨rfl,.inl ⟨rfl,rfl⟩⟩;exact⟨_,(),z,rfl,trivial,q⟩
   |some a=>
    refine(h3 a d w).mono ?_;rintro e o ⟨x,rfl,Q,_,E⟩;obtain⟨z,q⟩:=yW (ti:=B) (l:=[]) W R (DZ E) Q;exact⟨_,(),z,rfl,trivial,q⟩
  have y:aS p w (fS X p (dy [] 0)) (.t (.aa (List.map U l))) u:=cK;cases y with
  |t _ _ y=>
   generalize s:List.map U l=rows at y;cases y with
   |eH a d=>exact zero (List.map_eq_nil_iff.1 s) a d rfl
   |aa _ b m C d g aQ XS AY I A M=>
    subst s;by_cases L:l=[]
    ·subst L;exact zero rfl _ _ rfl
    obtain⟨iy,N⟩:=xf l L;have S:C=1:=(I (U iy) (List.mem_map_of_mem N)).symm;subst S;have k:(List.map U l).length=l.length:=dL ..;refine(h1 b m (List.map U l).length d l w (by rw[k];exact cL _) (by rw[k];omega) λj hj=>?_).mono ?_
    ·have D:=A j 0 (by rw[k];exact hj) O;have bE:=bh hj;have F:=M j 0 (U l[j]) (T.int .i64 l[j]) (by rw[dT,bE];rfl) rfl;rw[show m+j*1+0=m+j by omega] at D;rw[D];generalize g j 0=v at F;cases F;rw[fs,bE];rfl
    rintro e o ⟨x,rfl,Q,_,E⟩;rw[k,dA] at Q;obtain⟨z,q⟩:=yW W R (DZ E) Q;exact⟨_,(),z,rfl,trivial,q⟩
 cases K
end
end Go.Lift
