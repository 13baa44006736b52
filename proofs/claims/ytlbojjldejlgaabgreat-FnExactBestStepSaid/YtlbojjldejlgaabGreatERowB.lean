/- Tools. -/
import Derived.Test.YtlbojjldejlgaabGreatELiftRow
set_option linter.unusedVariables false
namespace Go.Lift
open Go Go.ChangeShapes Go.WideShapes Go.ChangeAt Go.RowKit
section
variable {P:Program}
variable {f:FuncId}{G:eS}
theorem XD(c:d7 P f)(h: ∀(s sub:ByteArray),s.size<4294967281-> ∀w,G.ok w->Calls P f #[.string s,.string sub] w λe b=>e= .returned (.bool (Lib.contains s.data.toList sub.data.toList))/\b=w):
  ∀(s t:List UInt8) (r:Bool),xY s t=some r->jv P G f [cG s,cG t] (aM r):=by
 intro s t r a;unfold xY at a;split at a
 ·rename_i d;cases a;refine⟨c,λw X n i o k=>?_⟩;obtain⟨u,v,rfl,l,m⟩:=adg k;obtain rfl:=gO l;obtain rfl:=gO m;refine(h ⟨s.toArray⟩ ⟨t.toArray⟩ (by simpa[ByteArray.size] using d) w i).mono ?_;rintro e b ⟨rfl,rfl⟩;exact⟨_,rfl,Ext.refl _ _,.t _ _ (.bool _)⟩
 cases a
def rb(q:Option Nat):Map:=⟨λk=>if k=0 then some (q,1) else none,λ_ _=>False⟩
theorem Fe{q:Option Nat}{n b:Nat}(h:At (rb q) n b):n=0/\q=some b:=by
 rcases h with ⟨g,h⟩|h
 ·simp only[rb] at h;split at h
  ·rename_i a;cases h;exact⟨a,rfl⟩
  cases h
 exact h.elim
theorem FB{d:Map}{w m:World}{X:Nat->Prop}(aD:y2 G [] d w X)(gb: ∀b,X b->b<w.heap.size)(R:Ext (λ_=>False) w m){ti:TypeId}{l:List Int}{v:Value}(h:m.ownsRow w.heap.size ti 1 v l.length (l.map (Value.int .i64))):
  ∃B,Left d B [] [E.arr ti 1 1 (List.map ab l)] w m X (V.a7 0 1 1 0 (List.map ab l).length) v:=by
 obtain⟨_,h⟩:=h;have M: ∀b,¬ ∃k,At d k b:=λb ⟨k,o⟩=>by
  rcases o with ⟨g,o⟩|o
  ·rw[aD.dB k a1] at o;cases o
  exact aD.dX k b a1 o
 have a: ∀(q:Option Nat),(∀b,q=some b->w.heap.size<=b/\b<m.heap.size)->(∀p,cy (rb q) m p 0 (E.arr ti 1 1 (List.map ab l)))->(∀p,bh (rb q) m p (V.a7 0 1 1 0 (List.map ab l).length) v)->
   ∃B,Left d B [] [E.arr ti 1 1 (List.map ab l)] w m X (V.a7 0 1 1 0 (List.map ab l).length) v:=by
  intro q W C D;refine⟨rb q,⟨R.weaken λ_ _ h=>h.elim,λid h=>bt h (qI _),p8 R,λk o=>?_,λk b _ h=>h,λid N b r s=>by rw[(Fe r).1,(Fe s).1],λk b S=>?_,λk e F=>?_,D _⟩⟩
  ·have:k≠0:=by have:1<=k:=o;omega
   simp[rb,this]
  ·obtain⟨_,s⟩:=Fe S;exact⟨.inr (W b s).1,(W b s).2⟩
  cases k with
  |zero=>simp at F;subst F;exact C _
  |succ k=>simp at F
 rcases h with ⟨rfl,T⟩|⟨g,H,n,rfl,U,K,L,Y,f,eO⟩
 ·have:l=[]:=km T;subst this;exact a none (λb h=>by cases h) (λp=>⟨cD _,.inl ⟨rfl,rfl⟩⟩) λp=> .gT 0 1 1 (cD _) rfl
 have z:g<m.heap.size:=(iP.1 K).1;have c:(List.map ab l).length=l.length:=dj ..;refine a (some g) (λb h=>by cases h;exact⟨U,z⟩) (λp=>⟨cD _,.inr ⟨g,n,rfl,K,by rw[c,f];omega,λQ bO=>?_,λi j Q x u r s h3=>?_⟩⟩) λp=>?_
 ·obtain⟨x,_,rfl⟩:=et.1 bO;rfl
 ·rw[er] at r;cases A:l[i]? with
  |none=>rw[A] at r;cases r
  |some y=>
   rw[A] at r;simp at r;subst r;have aD:=(bM.1 A).1
   match j with
   |0=>
    simp at s;subst s;have t:(l.map (Value.int .i64))[i]? =some (.int .i64 y):=by rw[er,A];rfl
    rw[<-eO,fL,aW O] at t;have h5:n[i]? =some (.int .i64 y):=by simpa using t
    have I:n[i]? =some u:=by simpa using h3
    rw[h5] at I;cases I;exact .int _ _
   |j+1=>simp at s
 have:=bh.a7 (β:=rb (some g)) (w:=m) (X:=p) 0 1 1 0 (List.map ab l).length H g n.size ti (cD _) rfl z (by unfold World.shape?;rw[K]) (by rw[f];omega) (by rw[c];exact L) Y;rw[fT,c] at this;rw[c];exact this
theorem acI{B:TypeId}(bB:d7 P f)
  (h1: ∀(b m n c:Nat) (H:List Int) (w:World),n<=H.length->n*8<=140737488355328->(∀j,j<H.length->w.cell? ⟨b,m+j,none⟩=some (.int .i64 (H.getD j 0)))->
   Calls P f #[.slice (some ⟨b,m,none⟩) n c] w λe o=> ∃x,e= .returned x/\o.ownsRow w.heap.size B 1 x n ((H.take n).map (Value.int .i64))/\x≠ .slice none 0 0/\Below w.heap.size w o)
  (h2: ∀(n c:Nat) (w:World),Calls P f #[.slice none n c] w λe o=>e= .returned (.slice none 0 0)/\o=w)
  (h3: ∀(a:Addr) (c:Nat) (w:World),Calls P f #[.slice (some a) 0 c] w λe o=> ∃x,e= .returned x/\o.ownsRow w.heap.size B 1 x 0 []/\x≠ .slice none 0 0/\Below w.heap.size w o):
  ∀(l:List Int) {r:List Int},jh l=some r->iA P G f [] [aB ab l] (ms 0 1 1 ab r) [aE B 1 1 ab r]:=by
 intro l r K;unfold jh at K;split at K
 ·rename_i cu;cases K;refine⟨bB,λw X p U jD R W hu=>?_⟩;obtain⟨u,rfl,hq⟩: ∃u,U=[u]/\bh p w (lu X p (eJ [] 0)) (aB ab l) u:=by
   match U,hu with
   | [u],h=>exact⟨u,rfl,h.1⟩
   | [],h=>exact h.elim
   |_::_::_,h=>exact h.2.elim
  have zero:l=[]-> ∀a d,u= .slice a 0 d->Calls P f [u].toArray w λe o=> ∃V,∃i:Unit,∃z,e= .returned V/\True/\Left p z [] [aE B 1 1 ab l] w o X (ms 0 1 1 ab l) V:=by
   intro L a d he;subst L;subst he;cases a with
   |none=>
    refine(h2 0 d w).mono ?_;rintro e o ⟨rfl,rfl⟩;obtain⟨z,q⟩:=FB (ti:=B) (l:=[]) W R (Ext.refl _ _) ⟨rfl,.inl ⟨rfl,rfl⟩⟩;exact⟨_,(),z,rfl,trivial,q⟩
   |some a=>
    refine(h3 a d w).mono ?_;rintro e o ⟨x,rfl,Q,_,E⟩;obtain⟨z,q⟩:=FB (ti:=B) (l:=[]) W R (zq E) Q;exact⟨_,(),z,rfl,trivial,q⟩
  have y:bh p w (lu X p (eJ [] 0)) (.t (.ay (List.map ab l))) u:=hq;cases y with
  |t _ _ y=>
   generalize s:List.map ab l=Y at y;cases y with
   |fB a d=>exact zero (List.map_eq_nil_iff.1 s) a d rfl
   |ay _ b m C d g aV ah' Ih I A M=>
    subst s;by_cases L:l=[]
    ·subst L;exact zero rfl _ _ rfl
    obtain⟨hz,N⟩:=Dj l L;have S:C=1:=(I (ab hz) (List.mem_map_of_mem N)).symm;subst S;have k:(List.map ab l).length=l.length:=dj ..;refine(h1 b m (List.map ab l).length d l w (by rw[k];exact cD _) (by rw[k];omega) λj hj=>?_).mono ?_
    ·have D:=A j 0 (by rw[k];exact hj) O;have bE:=bg hj;have F:=M j 0 (ab l[j]) (T.int .i64 l[j]) (by rw[er,bE];rfl) rfl;rw[show m+j*1+0=m+j by omega] at D;rw[D];generalize g j 0=v at F;cases F;rw[ek,bE];rfl
    rintro e o ⟨x,rfl,Q,_,E⟩;rw[k,cT] at Q;obtain⟨z,q⟩:=FB W R (zq E) Q;exact⟨_,(),z,rfl,trivial,q⟩
 cases K
end
end Go.Lift
