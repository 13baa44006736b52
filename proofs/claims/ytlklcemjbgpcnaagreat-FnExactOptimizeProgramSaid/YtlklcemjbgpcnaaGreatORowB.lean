/- Tools. -/
import Derived.Test.YtlklcemjbgpcnaaGreatOLiftRow
set_option linter.unusedVariables false
namespace Go.Lift
open Go Go.ChangeShapes Go.WideShapes Go.ChangeAt Go.RowKit
open List renaming map -> bL
section
variable {P:Program}
variable {f:FuncId}{G:fe}
theorem abr(c:iH P f)(h: ∀(s sub:ByteArray),s.size<4294967281-> ∀w,G.ok w->Calls P f #[.string s,.string sub] w λe b=>e= .returned (.bool (Lib.contains s.data.toList sub.data.toList))/\b=w):
  ∀(s t:List UInt8) (r:Bool),zs s t=some r->jw P G f [cH s,cH t] (aT r):=by
 intro s t r a;unfold zs at a;split at a
 ·rename_i d;cases a;refine⟨c,λw X n i o k=>?_⟩;obtain⟨u,v,rfl,l,m⟩:=agP k;obtain rfl:=hQ l;obtain rfl:=hQ m;refine(h ⟨s.toArray⟩ ⟨t.toArray⟩ (by simpa[ByteArray.size] using d) w i).mono ?_;rintro e b ⟨rfl,rfl⟩;exact⟨_,rfl,Ext.refl _ _,.t _ _ (.bool _)⟩
 cases a
def sH(q:Option Nat):Map:=⟨λk=>if k=0 then some (q,1) else none,λ_ _=>False⟩
theorem G5{q:Option Nat}{n b:Nat}(h:At (sH q) n b):n=0/\q=some b:=by
 rcases h with ⟨g,h⟩|h
 ·simp only[sH] at h;split at h
  ·rename_i a;cases h;exact⟨a,rfl⟩
  cases h
 exact h.elim
theorem HI{d:Map}{w m:World}{X:Nat->Prop}(aJ:qE G [] d w X)(gZ: ∀b,X b->b<w.heap.size)(R:Ext (λ_=>False) w m){ti:TypeId}{l:List Int}{v:Value}(h:m.ownsRow w.heap.size ti 1 v l.length (l.map (Value.int .i64))):
  ∃B,Left d B [] [E.arr ti 1 1 (bL ah l)] w m X (V.bo 0 1 1 0 (bL ah l).length) v:=by
 obtain⟨_,h⟩:=h;have M: ∀b,¬ ∃k,At d k b:=λb ⟨k,o⟩=>by
  rcases o with ⟨g,o⟩|o
  ·rw[aJ.dT k a7] at o;cases o
  exact aJ.ev k b a7 o
 have a: ∀(q:Option Nat),(∀b,q=some b->w.heap.size<=b/\b<m.heap.size)->(∀p,cY (sH q) m p 0 (E.arr ti 1 1 (bL ah l)))->(∀p,bt (sH q) m p (V.bo 0 1 1 0 (bL ah l).length) v)->
   ∃B,Left d B [] [E.arr ti 1 1 (bL ah l)] w m X (V.bo 0 1 1 0 (bL ah l).length) v:=by
  intro q W C D;refine⟨sH q,⟨R.weaken λ_ _ h=>h.elim,λid h=>bs h (pv _),f8 R,λk o=>?_,λk b _ h=>h,λid N b r s=>by rw[(G5 r).1,(G5 s).1],λk b S=>?_,λk e F=>?_,D _⟩⟩
  ·have:k≠0:=by have:1<=k:=o;omega
   simp[sH,this]
  ·obtain⟨_,s⟩:=G5 S;exact⟨.inr (W b s).1,(W b s).2⟩
  cases k with
  |zero=>simp at F;subst F;exact C _
  |succ k=>simp at F
 rcases h with ⟨rfl,T⟩|⟨g,H,n,rfl,U,K,L,Y,f,fB⟩
 ·have:l=[]:=ns T;subst this;exact a none (λb h=>by cases h) (λp=>⟨da _,.inl ⟨rfl,rfl⟩⟩) λp=> .hb 0 1 1 (da _) rfl
 have z:g<m.heap.size:=(iR.1 K).1;have c:(bL ah l).length=l.length:=dJ ..;refine a (some g) (λb h=>by cases h;exact⟨U,z⟩) (λp=>⟨da _,.inr ⟨g,n,rfl,K,by rw[c,f];omega,λQ b8=>?_,λi j Q x u r s h3=>?_⟩⟩) λp=>?_
 ·obtain⟨x,_,rfl⟩:=eK.1 b8;rfl
 ·rw[eQ] at r;cases A:l[i]? with
  |none=>rw[A] at r;cases r
  |some y=>
   rw[A] at r;simp at r;subst r;have aJ:=(b5.1 A).1
   match j with
   |0=>
    simp at s;subst s;have t:(l.map (Value.int .i64))[i]? =some (.int .i64 y):=by rw[eQ,A];rfl
    rw[<-fB,gC,bb O] at t;have h5:n[i]? =some (.int .i64 y):=by simpa using t
    have I:n[i]? =some u:=by simpa using h3
    rw[h5] at I;cases I;exact .int _ _
   |j+1=>simp at s
 have:=bt.bo (β:=sH (some g)) (w:=m) (X:=p) 0 1 1 0 (bL ah l).length H g n.size ti (da _) rfl z (by unfold World.shape?;rw[K]) (by rw[f];omega) (by rw[c];exact L) Y;rw[gQ,c] at this;rw[c];exact this
theorem afp{B:TypeId}(bS:iH P f)
  (h1: ∀(b m n c:Nat) (H:List Int) (w:World),n<=H.length->n*8<=140737488355328->(∀j,j<H.length->w.cell? ⟨b,m+j,none⟩=some (.int .i64 (H.getD j 0)))->
   Calls P f #[.slice (some ⟨b,m,none⟩) n c] w λe o=> ∃x,e= .returned x/\o.ownsRow w.heap.size B 1 x n ((H.take n).map (Value.int .i64))/\x≠ .slice none 0 0/\Below w.heap.size w o)
  (h2: ∀(n c:Nat) (w:World),Calls P f #[.slice none n c] w λe o=>e= .returned (.slice none 0 0)/\o=w)
  (h3: ∀(a:Addr) (c:Nat) (w:World),Calls P f #[.slice (some a) 0 c] w λe o=> ∃x,e= .returned x/\o.ownsRow w.heap.size B 1 x 0 []/\x≠ .slice none 0 0/\Below w.heap.size w o):
  ∀(l:List Int) {r:List Int},jX l=some r->ig P G f [] [aG ah l] (ms 0 1 1 ah r) [aH B 1 1 ah r]:=by
 intro l r K;unfold jX at K;split at K
 ·rename_i cK;cases K;refine⟨bS,λw X p U kn R W hu=>?_⟩;obtain⟨u,rfl,hq⟩: ∃u,U=[u]/\bt p w (hZ X p (er [] 0)) (aG ah l) u:=by
   match U,hu with
   | [u],h=>exact⟨u,rfl,h.1⟩
   | [],h=>exact h.elim
   |_::_::_,h=>exact h.2.elim
  have zero:l=[]-> ∀a d,u= .slice a 0 d->Calls P f [u].toArray w λe o=> ∃V,∃i:Unit,∃z,e= .returned V/\True/\Left p z [] [aH B 1 1 ah l] w o X (ms 0 1 1 ah l) V:=by
   intro L a d he;subst L;subst he;cases a with
   |none=>
    refine(h2 0 d w).mono ?_;rintro e o ⟨rfl,rfl⟩;obtain⟨z,q⟩:=HI (ti:=B) (l:=[]) W R (Ext.refl _ _) ⟨rfl,.inl ⟨rfl,rfl⟩⟩;exact⟨_,(),z,rfl,trivial,q⟩
   |some a=>
    refine(h3 a d w).mono ?_;rintro e o ⟨x,rfl,Q,_,E⟩;obtain⟨z,q⟩:=HI (ti:=B) (l:=[]) W R (Bz E) Q;exact⟨_,(),z,rfl,trivial,q⟩
  have y:bt p w (hZ X p (er [] 0)) (.t (.bE (bL ah l))) u:=hq;cases y with
  |t _ _ y=>
   generalize s:bL ah l=Y at y;cases y with
   |fW a d=>exact zero (List.map_eq_nil_iff.1 s) a d rfl
   |bE _ b m C d g a1 ak7 J6 I A M=>
    subst s;by_cases L:l=[]
    ·subst L;exact zero rfl _ _ rfl
    obtain⟨iv,N⟩:=ET l L;have S:C=1:=(I (ah iv) (List.mem_map_of_mem N)).symm;subst S;have k:(bL ah l).length=l.length:=dJ ..;refine(h1 b m (bL ah l).length d l w (by rw[k];exact da _) (by rw[k];omega) λj hj=>?_).mono ?_
    ·have D:=A j 0 (by rw[k];exact hj) O;have bV:=bu hj;have F:=M j 0 (ah l[j]) (T.int .i64 l[j]) (by rw[eQ,bV];rfl) rfl;rw[show m+j*1+0=m+j by omega] at D;rw[D];generalize g j 0=v at F;cases F;rw[fh,bV];rfl
    rintro e o ⟨x,rfl,Q,_,E⟩;rw[k,dR] at Q;obtain⟨z,q⟩:=HI W R (Bz E) Q;exact⟨_,(),z,rfl,trivial,q⟩
 cases K
end
end Go.Lift
