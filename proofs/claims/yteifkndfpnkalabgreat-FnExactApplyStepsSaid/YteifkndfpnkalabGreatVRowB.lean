/- Tools. -/
import Derived.Test.YteifkndfpnkalabGreatVLiftRow
set_option linter.unusedVariables false
namespace Go.Lift
open Go Go.ChangeShapes Go.WideShapes Go.ChangeAt Go.RowKit
open List renaming map -> bk
section
variable {P:Program}
variable {f:FuncId}{G:fh}
theorem aad(c:jh P f)(h: ∀(s sub:ByteArray),s.size<4294967281-> ∀w,G.ok w->Calls P f #[.string s,.string sub] w λe b=>e= .returned (.bool (Lib.contains s.data.toList sub.data.toList))/\b=w):
  ∀(s t:List UInt8) (r:Bool),y5 s t=some r->jT P G f [cc s,cc t] (aW r):=by
 intro s t r a;unfold y5 at a;split at a
 ·rename_i d;cases a;refine⟨c,λw X n i o k=>?_⟩;obtain⟨u,v,rfl,l,m⟩:=aev k;obtain rfl:=hG l;obtain rfl:=hG m;refine(h ⟨s.toArray⟩ ⟨t.toArray⟩ (by simpa[ByteArray.size] using d) w i).mono ?_;rintro e b ⟨rfl,rfl⟩;exact⟨_,rfl,Ext.refl _ _,.t _ _ (.bool _)⟩
 cases a
def sb(q:Option Nat):Map:=⟨λk=>if k=0 then some (q,1) else none,λ_ _=>False⟩
theorem Gc{q:Option Nat}{i b:Nat}(h:At (sb q) i b):i=0/\q=some b:=by
 rcases h with ⟨g,h⟩|h
 ·simp only[sb] at h;split at h
  ·rename_i a;cases h;exact⟨a,rfl⟩
  cases h
 exact h.elim
theorem Hd{d:Map}{w m:World}{X:Nat->Prop}(aL:qh G [] d w X)(gj: ∀b,X b->b<w.heap.size)(R:Ext (λ_=>False) w m){ti:TypeId}{l:List Int}{v:Value}(h:m.ownsRow w.heap.size ti 1 v l.length (l.map (Value.int .i64))):
  ∃B,Left d B [] [E.arr ti 1 1 (bk ai l)] w m X (V.bf 0 1 1 0 (bk ai l).length) v:=by
 obtain⟨_,h⟩:=h;have M: ∀b,¬ ∃k,At d k b:=λb ⟨k,o⟩=>by
  rcases o with ⟨g,o⟩|o
  ·rw[aL.dY k bl] at o;cases o
  exact aL.eB k b bl o
 have a: ∀(q:Option Nat),(∀b,q=some b->w.heap.size<=b/\b<m.heap.size)->(∀p,c4 (sb q) m p 0 (E.arr ti 1 1 (bk ai l)))->(∀p,bB (sb q) m p (V.bf 0 1 1 0 (bk ai l).length) v)->
   ∃B,Left d B [] [E.arr ti 1 1 (bk ai l)] w m X (V.bf 0 1 1 0 (bk ai l).length) v:=by
  intro q W C D;refine⟨sb q,⟨R.weaken λ_ _ h=>h.elim,λid h=>br h (o6 _),qU R,λk o=>?_,λk b _ h=>h,λid N b r s=>by rw[(Gc r).1,(Gc s).1],λk b S=>?_,λk e F=>?_,D _⟩⟩
  ·have:k≠0:=by have:1<=k:=o;omega
   simp[sb,this]
  ·obtain⟨_,s⟩:=Gc S;exact⟨.inr (W b s).1,(W b s).2⟩
  cases k with
  |zero=>simp at F;subst F;exact C _
  |succ k=>simp at F
 rcases h with ⟨rfl,T⟩|⟨g,H,n,rfl,U,K,L,Y,f,fo⟩
 ·have:l=[]:=nT T;subst this;exact a none (λb h=>by cases h) (λp=>⟨df _,.inl ⟨rfl,rfl⟩⟩) λp=> .hq 0 1 1 (df _) rfl
 have z:g<m.heap.size:=(iD.1 K).1;have c:(bk ai l).length=l.length:=dF ..;refine a (some g) (λb h=>by cases h;exact⟨U,z⟩) (λp=>⟨df _,.inr ⟨g,n,rfl,K,by rw[c,f];omega,λQ b5=>?_,λi j Q x u r s h3=>?_⟩⟩) λp=>?_
 ·obtain⟨x,_,rfl⟩:=eH.1 b5;rfl
 ·rw[eG] at r;cases A:l[i]? with
  |none=>rw[A] at r;cases r
  |some y=>
   rw[A] at r;simp at r;subst r;have aL:=(d0.1 A).1
   match j with
   |0=>
    simp at s;subst s;have t:(l.map (Value.int .i64))[i]? =some (.int .i64 y):=by rw[eG,A];rfl
    rw[<-fo,fs,bg O] at t;have h5:n[i]? =some (.int .i64 y):=by simpa using t
    have I:n[i]? =some u:=by simpa using h3
    rw[h5] at I;cases I;exact .int _ _
   |j+1=>simp at s
 have:=bB.bf (β:=sb (some g)) (w:=m) (X:=p) 0 1 1 0 (bk ai l).length H g n.size ti (df _) rfl z (by unfold World.shape?;rw[K]) (by rw[f];omega) (by rw[c];exact L) Y;rw[gN,c] at this;rw[c];exact this
theorem aeb{B:TypeId}(bW:jh P f)
  (h1: ∀(b m n c:Nat) (H:List Int) (w:World),n<=H.length->n*8<=140737488355328->(∀j,j<H.length->w.cell? ⟨b,m+j,none⟩=some (.int .i64 (H.getD j 0)))->
   Calls P f #[.slice (some ⟨b,m,none⟩) n c] w λe o=> ∃x,e= .returned x/\o.ownsRow w.heap.size B 1 x n ((H.take n).map (Value.int .i64))/\x≠ .slice none 0 0/\Below w.heap.size w o)
  (h2: ∀(n c:Nat) (w:World),Calls P f #[.slice none n c] w λe o=>e= .returned (.slice none 0 0)/\o=w)
  (h3: ∀(a:Addr) (c:Nat) (w:World),Calls P f #[.slice (some a) 0 c] w λe o=> ∃x,e= .returned x/\o.ownsRow w.heap.size B 1 x 0 []/\x≠ .slice none 0 0/\Below w.heap.size w o):
  ∀(l:List Int) {r:List Int},jH l=some r->hY P G f [] [aI ai l] (ms 0 1 1 ai r) [aK B 1 1 ai r]:=by
 intro l r K;unfold jH at K;split at K
 ·rename_i cR;cases K;refine⟨bW,λw X p U j9 R W hu=>?_⟩;obtain⟨u,rfl,dp⟩: ∃u,U=[u]/\bB p w (hQ X p (eu [] 0)) (aI ai l) u:=by
   match U,hu with
   | [u],h=>exact⟨u,rfl,h.1⟩
   | [],h=>exact h.elim
   |_::_::_,h=>exact h.2.elim
  have zero:l=[]-> ∀a d,u= .slice a 0 d->Calls P f [u].toArray w λe o=> ∃V,∃i:Unit,∃z,e= .returned V/\True/\Left p z [] [aK B 1 1 ai l] w o X (ms 0 1 1 ai l) V:=by
   intro L a d he;subst L;subst he;cases a with
   |none=>
    refine(h2 0 d w).mono ?_;rintro e o ⟨rfl,rfl⟩;obtain⟨z,q⟩:=Hd (ti:=B) (l:=[]) W R (Ext.refl _ _) ⟨rfl,.inl ⟨rfl,rfl⟩⟩;exact⟨_,(),z,rfl,trivial,q⟩
   |some a=>
    refine(h3 a d w).mono ?_;rintro e o ⟨x,rfl,Q,_,E⟩;obtain⟨z,q⟩:=Hd (ti:=B) (l:=[]) W R (M3 E) Q;exact⟨_,(),z,rfl,trivial,q⟩
  have y:bB p w (hQ X p (eu [] 0)) (.t (.bG (bk ai l))) u:=dp;cases y with
  |t _ _ y=>
   generalize s:bk ai l=Y at y;cases y with
   |gh a d=>exact zero (List.map_eq_nil_iff.1 s) a d rfl
   |bG _ b m C d g bA ajV Jy I A M=>
    subst s;by_cases L:l=[]
    ·subst L;exact zero rfl _ _ rfl
    obtain⟨hW,N⟩:=Ep l L;have S:C=1:=(I (ai hW) (List.mem_map_of_mem N)).symm;subst S;have k:(bk ai l).length=l.length:=dF ..;refine(h1 b m (bk ai l).length d l w (by rw[k];exact df _) (by rw[k];omega) λj hj=>?_).mono ?_
    ·have D:=A j 0 (by rw[k];exact hj) O;have bV:=bC hj;have F:=M j 0 (ai l[j]) (T.int .i64 l[j]) (by rw[eG,bV];rfl) rfl;rw[show m+j*1+0=m+j by omega] at D;rw[D];generalize g j 0=v at F;cases F;rw[fc,bV];rfl
    rintro e o ⟨x,rfl,Q,_,E⟩;rw[k,dZ] at Q;obtain⟨z,q⟩:=Hd W R (M3 E) Q;exact⟨_,(),z,rfl,trivial,q⟩
 cases K
end
end Go.Lift
