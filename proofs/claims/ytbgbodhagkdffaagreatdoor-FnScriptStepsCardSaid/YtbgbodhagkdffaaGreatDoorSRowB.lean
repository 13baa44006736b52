/- Tools. -/
import Derived.Test.YtbgbodhagkdffaaGreatDoorSLiftRow
set_option linter.unusedVariables false
namespace Go.Lift
open Go Go.ChangeShapes Go.WideShapes Go.ChangeAt Go.RowKit
open List renaming map -> cb
section
variable {P:Program}
variable {f:FuncId}{G:gC}
theorem adR(d:gw P f)(h: ∀(s sub:ByteArray),s.size<4294967281-> ∀w,G.ok w->Calls P f #[.string s,.string sub] w λe c=>e= .returned (.bool (Lib.contains s.data.toList sub.data.toList))/\c=w):
  ∀(s t:List UInt8) (r:Bool),Cr s t=some r->gT P G f [bf s,bf t] (aP r):=by
 intro s t r a;unfold Cr at a;split at a
 ·rename_i i;cases a;refine⟨d,λw X o k q l=>?_⟩;obtain⟨u,v,rfl,m,n⟩:=AW l;obtain rfl:=hB m;obtain rfl:=hB n;refine(h ⟨s.toArray⟩ ⟨t.toArray⟩ (by simpa[ByteArray.size] using i) w k).mono ?_;rintro e c ⟨rfl,rfl⟩;exact⟨_,rfl,Ext.refl _ _,.t _ _ (.bool _)⟩
 cases a
def u6(q:Option Nat):Map:=⟨λk=>if k=0 then some (q,1) else none,λ_ _=>False⟩
theorem Kh{q:Option Nat}{i b:Nat}(h:At (u6 q) i b):i=0/\q=some b:=by
 rcases h with ⟨g,h⟩|h
 ·simp only[u6] at h;split at h
  ·rename_i a;cases h;exact⟨a,rfl⟩
  cases h
 exact h.elim
theorem KH{d:Map}{w m:World}{X:Nat->Prop}(aO:xo G [] d w X)(iy: ∀b,X b->b<w.heap.size)(p:Ext (λ_=>False) w m){ti:TypeId}{l:List Int}{v:Value}(h:m.ownsRow w.heap.size ti 1 v l.length (l.map (Value.int .i64))):
  ∃F,Left d F [] [E.arr ti 1 1 (cb an l)] w m X (V.bE 0 1 1 0 (cb an l).length) v:=by
 obtain⟨_,h⟩:=h;have S: ∀b,¬ ∃k,At d k b:=λb ⟨k,o⟩=>by
  rcases o with ⟨g,o⟩|o
  ·rw[aO.fw k aZ] at o;cases o
  exact aO.fS k b aZ o
 have a: ∀(q:Option Nat),(∀b,q=some b->w.heap.size<=b/\b<m.heap.size)->(∀r,dJ (u6 q) m r 0 (E.arr ti 1 1 (cb an l)))->(∀r,bI (u6 q) m r (V.bE 0 1 1 0 (cb an l).length) v)->
   ∃F,Left d F [] [E.arr ti 1 1 (cb an l)] w m X (V.bE 0 1 1 0 (cb an l).length) v:=by
  intro q s H K;refine⟨u6 q,⟨p.weaken λ_ _ h=>h.elim,λid h=>bu h (sd _),vY p,λk o=>?_,λk b _ h=>h,λid T b z A=>by rw[(Kh z).1,(Kh A).1],λk b br=>?_,λk e L=>?_,K _⟩⟩
  ·have:k≠0:=by have:1<=k:=o;omega
   simp[u6,this]
  ·obtain⟨_,A⟩:=Kh br;exact⟨.inr (s b A).1,(s b A).2⟩
  cases k with
  |zero=>simp at L;subst L;exact H _
  |succ k=>simp at L
 rcases h with ⟨rfl,dm⟩|⟨g,Q,n,rfl,b9,R,W,hm,t,fB⟩
 ·have:l=[]:=oJ dm;subst this;exact a none (λb h=>by cases h) (λr=>⟨dV _,.inl ⟨rfl,rfl⟩⟩) λr=> .jh 0 1 1 (dV _) rfl
 have B:g<m.heap.size:=(mm.1 R).1;have c:(cb an l).length=l.length:=er ..;refine a (some g) (λb h=>by cases h;exact⟨b9,B⟩) (λr=>⟨dV _,.inr ⟨g,n,rfl,R,by rw[c,t];omega,λf cC=>?_,λi j f x u z A h3=>?_⟩⟩) λr=>?_
 ·obtain⟨x,_,rfl⟩:=fh.1 cC;rfl
 ·rw[fG] at z;cases C:l[i]? with
  |none=>rw[C] at z;cases z
  |some y=>
   rw[C] at z;simp at z;subst z;have aO:=(cI.1 C).1
   match j with
   |0=>
    simp at A;subst A;have M:(l.map (Value.int .i64))[i]? =some (.int .i64 y):=by rw[fG,C];rfl
    rw[<-fB,iC,bk O] at M;have h5:n[i]? =some (.int .i64 y):=by simpa using M
    have N:n[i]? =some u:=by simpa using h3
    rw[h5] at N;cases N;exact .int _ _
   |j+1=>simp at A
 have:=bI.bE (β:=u6 (some g)) (w:=m) (X:=r) 0 1 1 0 (cb an l).length Q g n.size ti (dV _) rfl B (by unfold World.shape?;rw[R]) (by rw[t];omega) (by rw[c];exact W) hm;rw[jC,c] at this;rw[c];exact this
theorem aiC{F:TypeId}(ch:gw P f)
  (h1: ∀(b m n c:Nat) (Q:List Int) (w:World),n<=Q.length->n*8<=140737488355328->(∀j,j<Q.length->w.cell? ⟨b,m+j,none⟩=some (.int .i64 (Q.getD j 0)))->
   Calls P f #[.slice (some ⟨b,m,none⟩) n c] w λe o=> ∃z,e= .returned z/\o.ownsRow w.heap.size F 1 z n ((Q.take n).map (Value.int .i64))/\z≠ .slice none 0 0/\Below w.heap.size w o)
  (h2: ∀(n c:Nat) (w:World),Calls P f #[.slice none n c] w λe o=>e= .returned (.slice none 0 0)/\o=w)
  (h3: ∀(a:Addr) (c:Nat) (w:World),Calls P f #[.slice (some a) 0 c] w λe o=> ∃z,e= .returned z/\o.ownsRow w.heap.size F 1 z 0 []/\z≠ .slice none 0 0/\Below w.heap.size w o):
  ∀(l:List Int) {r:List Int},lE l=some r->kF P G f [] [aI an l] (ms 0 1 1 an r) [aN F 1 1 an r]:=by
 intro l r R;unfold lE at R;split at R
 ·rename_i dc;cases R;refine⟨ch,λw X q us kr s E hu=>?_⟩;obtain⟨u,rfl,dR⟩: ∃u,us=[u]/\bI q w (mh X q (gx [] 0)) (aI an l) u:=by
   match us,hu with
   | [u],h=>exact⟨u,rfl,h.1⟩
   | [],h=>exact h.elim
   |_::_::_,h=>exact h.2.elim
  have zero:l=[]-> ∀a d,u= .slice a 0 d->Calls P f [u].toArray w λe o=> ∃nJ,∃i:Unit,∃B,e= .returned nJ/\True/\Left q B [] [aN F 1 1 an l] w o X (ms 0 1 1 an l) nJ:=by
   intro W a d he;subst W;subst he;cases a with
   |none=>
    refine(h2 0 d w).mono ?_;rintro e o ⟨rfl,rfl⟩;obtain⟨B,x⟩:=KH (ti:=F) (l:=[]) E s (Ext.refl _ _) ⟨rfl,.inl ⟨rfl,rfl⟩⟩;exact⟨_,(),B,rfl,trivial,x⟩
   |some a=>
    refine(h3 a d w).mono ?_;rintro e o ⟨z,rfl,p,_,M⟩;obtain⟨B,x⟩:=KH (ti:=F) (l:=[]) E s (t' M) p;exact⟨_,(),B,rfl,trivial,x⟩
  have A:bI q w (mh X q (gx [] 0)) (.t (.bX (cb an l))) u:=dR;cases A with
  |t _ _ A=>
   generalize y:cb an l=rows at A;cases A with
   |iq a d=>exact zero (List.map_eq_nil_iff.1 y) a d rfl
   |bX _ b m H d g br akj GJ N C S=>
    subst y;by_cases W:l=[]
    ·subst W;exact zero rfl _ _ rfl
    obtain⟨gX,V⟩:=Dd l W;have yB:H=1:=(N (an gX) (List.mem_map_of_mem V)).symm;subst yB;have k:(cb an l).length=l.length:=er ..;refine(h1 b m (cb an l).length d l w (by rw[k];exact dV _) (by rw[k];omega) λj hj=>?_).mono ?_
    ·have K:=C j 0 (by rw[k];exact hj) O;have b9:=bO hj;have L:=S j 0 (an l[j]) (T.int .i64 l[j]) (by rw[fG,b9];rfl) rfl;rw[show m+j*1+0=m+j by omega] at K;rw[K];generalize g j 0=v at L;cases L;rw[fZ,b9];rfl
    rintro e o ⟨z,rfl,p,_,M⟩;rw[k,eB] at p;obtain⟨B,x⟩:=KH E s (t' M) p;exact⟨_,(),B,rfl,trivial,x⟩
 cases R
end
end Go.Lift
