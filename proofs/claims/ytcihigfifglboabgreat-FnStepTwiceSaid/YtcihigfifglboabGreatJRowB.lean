/- Tools. -/
import Derived.Test.YtcihigfifglboabGreatJLiftRow
set_option linter.unusedVariables false
namespace Go.Lift
open Go Go.ChangeShapes Go.WideShapes Go.ChangeAt Go.RowKit
section
variable {P:Program}
variable {f:FuncId}{G:fe}
theorem Wg(d:ji P f)(h: ∀(s sub:ByteArray),s.size<4294967281-> ∀w,G.ok w->Calls P f #[.string s,.string sub] w λe c=>e= .returned (.bool (Lib.contains s.data.toList sub.data.toList))/\c=w):
  ∀(s t:List UInt8) (r:Bool),x2 s t=some r->kW P G f [bD s,bD t] (aL r):=by
 intro s t r a;unfold x2 at a;split at a
 ·rename_i i;cases a;refine⟨d,λw X o k p l=>?_⟩;obtain⟨u,v,rfl,m,n⟩:=aa4 l;obtain rfl:=hn m;obtain rfl:=hn n;refine(h ⟨s.toArray⟩ ⟨t.toArray⟩ (by simpa[ByteArray.size] using i) w k).mono ?_;rintro e c ⟨rfl,rfl⟩;exact⟨_,rfl,Ext.refl _ _,.t _ _ (.bool _)⟩
 cases a
def rA(q:Option Nat):Map:=⟨λk=>if k=0 then some (q,1) else none,λ_ _=>False⟩
theorem E2{q:Option Nat}{i b:Nat}(h:At (rA q) i b):i=0/\q=some b:=by
 rcases h with ⟨g,h⟩|h
 ·simp only[rA] at h;split at h
  ·rename_i a;cases h;exact⟨a,rfl⟩
  cases h
 exact h.elim
theorem Fx{d:Map}{w m:World}{X:Nat->Prop}(aH:ze G [] d w X)(hr: ∀b,X b->b<w.heap.size)(Q:Ext (λ_=>False) w m){ti:TypeId}{l:List Int}{v:Value}(h:m.ownsRow w.heap.size ti 1 v l.length (l.map (Value.int .i64))):
  ∃B,Left d B [] [E.arr ti 1 1 (List.map ae l)] w m X (V.bc 0 1 1 0 (List.map ae l).length) v:=by
 obtain⟨_,h⟩:=h;have f: ∀b,¬ ∃k,At d k b:=λb ⟨k,o⟩=>by
  rcases o with ⟨g,o⟩|o
  ·rw[aH.dL k aV] at o;cases o
  exact aH.ed k b aV o
 have a: ∀(q:Option Nat),(∀b,q=some b->w.heap.size<=b/\b<m.heap.size)->(∀p,cH (rA q) m p 0 (E.arr ti 1 1 (List.map ae l)))->(∀p,bn (rA q) m p (V.bc 0 1 1 0 (List.map ae l).length) v)->
   ∃B,Left d B [] [E.arr ti 1 1 (List.map ae l)] w m X (V.bc 0 1 1 0 (List.map ae l).length) v:=by
  intro q R C D;refine⟨rA q,⟨Q.weaken λ_ _ h=>h.elim,λid h=>bB h (q5 _),qo Q,λk o=>?_,λk b _ h=>h,λid t b r s=>by rw[(E2 r).1,(E2 s).1],λk b M=>?_,λk e F=>?_,D _⟩⟩
  ·have:k≠0:=by have:1<=k:=o;omega
   simp[rA,this]
  ·obtain⟨_,s⟩:=E2 M;exact⟨.inr (R b s).1,(R b s).2⟩
  cases k with
  |zero=>simp at F;subst F;exact C _
  |succ k=>simp at F
 rcases h with ⟨rfl,N⟩|⟨g,H,n,rfl,S,I,K,T,U,e6⟩
 ·have:l=[]:=kQ N;subst this;exact a none (λb h=>by cases h) (λp=>⟨cQ _,.inl ⟨rfl,rfl⟩⟩) λp=> .hz 0 1 1 (cQ _) rfl
 have z:g<m.heap.size:=(jt.1 I).1;have c:(List.map ae l).length=l.length:=c5 ..;refine a (some g) (λb h=>by cases h;exact⟨S,z⟩) (λp=>⟨cQ _,.inr ⟨g,n,rfl,I,by rw[c,U];omega,λL b7=>?_,λi j L x u r s h3=>?_⟩⟩) λp=>?_
 ·obtain⟨x,_,rfl⟩:=eP.1 b7;rfl
 ·rw[ey] at r;cases A:l[i]? with
  |none=>rw[A] at r;cases r
  |some y=>
   rw[A] at r;simp at r;subst r;have aH:=(bR.1 A).1
   match j with
   |0=>
    simp at s;subst s;have W:(l.map (Value.int .i64))[i]? =some (.int .i64 y):=by rw[ey,A];rfl
    rw[<-e6,ft,a1 O] at W;have h5:n[i]? =some (.int .i64 y):=by simpa using W
    have Y:n[i]? =some u:=by simpa using h3
    rw[h5] at Y;cases Y;exact .int _ _
   |j+1=>simp at s
 have:=bn.bc (β:=rA (some g)) (w:=m) (X:=p) 0 1 1 0 (List.map ae l).length H g n.size ti (cQ _) rfl z (by unfold World.shape?;rw[I]) (by rw[U];omega) (by rw[c];exact K) T;rw[gi,c] at this;rw[c];exact this
theorem aaC{B:TypeId}(bP:ji P f)
  (h1: ∀(b m n c:Nat) (H:List Int) (w:World),n<=H.length->n*8<=140737488355328->(∀j,j<H.length->w.cell? ⟨b,m+j,none⟩=some (.int .i64 (H.getD j 0)))->
   Calls P f #[.slice (some ⟨b,m,none⟩) n c] w λe o=> ∃x,e= .returned x/\o.ownsRow w.heap.size B 1 x n ((H.take n).map (Value.int .i64))/\x≠ .slice none 0 0/\Below w.heap.size w o)
  (h2: ∀(n c:Nat) (w:World),Calls P f #[.slice none n c] w λe o=>e= .returned (.slice none 0 0)/\o=w)
  (h3: ∀(a:Addr) (c:Nat) (w:World),Calls P f #[.slice (some a) 0 c] w λe o=> ∃x,e= .returned x/\o.ownsRow w.heap.size B 1 x 0 []/\x≠ .slice none 0 0/\Below w.heap.size w o):
  ∀(l:List Int) {r:List Int},jM l=some r->jc P G f [] [aE ae l] (ms 0 1 1 ae r) [aF B 1 1 ae r]:=by
 intro l r I;unfold jM at I;split at I
 ·rename_i cJ;cases I;refine⟨bP,λw X p N k5 Q R hu=>?_⟩;obtain⟨u,rfl,dj⟩: ∃u,N=[u]/\bn p w (lZ X p (eW [] 0)) (aE ae l) u:=by
   match N,hu with
   | [u],h=>exact⟨u,rfl,h.1⟩
   | [],h=>exact h.elim
   |_::_::_,h=>exact h.2.elim
  have zero:l=[]-> ∀a d,u= .slice a 0 d->Calls P f [u].toArray w λe o=> ∃S,∃i:Unit,∃z,e= .returned S/\True/\Left p z [] [aF B 1 1 ae l] w o X (ms 0 1 1 ae l) S:=by
   intro K a d he;subst K;subst he;cases a with
   |none=>
    refine(h2 0 d w).mono ?_;rintro e o ⟨rfl,rfl⟩;obtain⟨z,q⟩:=Fx (ti:=B) (l:=[]) R Q (Ext.refl _ _) ⟨rfl,.inl ⟨rfl,rfl⟩⟩;exact⟨_,(),z,rfl,trivial,q⟩
   |some a=>
    refine(h3 a d w).mono ?_;rintro e o ⟨x,rfl,L,_,U⟩;obtain⟨z,q⟩:=Fx (ti:=B) (l:=[]) R Q (LR U) L;exact⟨_,(),z,rfl,trivial,q⟩
  have y:bn p w (lZ X p (eW [] 0)) (.t (.aD (List.map ae l))) u:=dj;cases y with
  |t _ _ y=>
   generalize s:List.map ae l=V at y;cases y with
   |fY a d=>exact zero (List.map_eq_nil_iff.1 s) a d rfl
   |aD _ b m C d g a' agk Hy W A Y=>
    subst s;by_cases K:l=[]
    ·subst K;exact zero rfl _ _ rfl
    obtain⟨hY,E⟩:=Dd l K;have M:C=1:=(W (ae hY) (List.mem_map_of_mem E)).symm;subst M;have k:(List.map ae l).length=l.length:=c5 ..;refine(h1 b m (List.map ae l).length d l w (by rw[k];exact cQ _) (by rw[k];omega) λj hj=>?_).mono ?_
    ·have D:=A j 0 (by rw[k];exact hj) O;have bM:=br hj;have F:=Y j 0 (ae l[j]) (T.int .i64 l[j]) (by rw[ey,bM];rfl) rfl;rw[show m+j*1+0=m+j by omega] at D;rw[D];generalize g j 0=v at F;cases F;rw[ez,bM];rfl
    rintro e o ⟨x,rfl,L,_,U⟩;rw[k,c6] at L;obtain⟨z,q⟩:=Fx R Q (LR U) L;exact⟨_,(),z,rfl,trivial,q⟩
 cases I
end
end Go.Lift
