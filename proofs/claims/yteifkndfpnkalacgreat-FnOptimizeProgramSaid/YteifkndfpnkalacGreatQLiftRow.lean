/- Tools. -/
import Derived.Test.YteifkndfpnkalacGreatQLiftSq
import Derived.ProofKit
import Derived.OpenShut
import Derived.Deep.DeepHandedRow
import Derived.Lib.LaidTab
import Derived.Lib.ConvBytes
import Derived.Lib.AtoiErrMem
import Derived.Sort.Grow
import Derived.Deep.Draws
import Derived.Below
import Derived.Lib.SplitLaws
import Derived.Stop.LaidErr
import Derived.Lay
namespace Go.Lift
open Go Go.ChangeShapes Go.WideShapes Go.ChangeAt Go.RowKit
section
variable {H:Type}{enc:TypeId×Value->H}{P:Program}
variable {W w:World}{v:Value}{t e:TypeId}{X:Nat->Prop}{f:FuncId}{o:Nat}
theorem aaZ{c:World}(e:Ext (λ_=>False) W c){a:Addr}(h:W.cell? a=some v):c.cell? a=some v:=by obtain⟨b,o,i⟩:=a;have d:=World.cell?_spot h;dsimp at d;subst d;have a7:=World.block_lt_of_cell? W ⟨b,o,none⟩ h;rw[CI (e.keep b a7 λh=>h)];exact h
theorem aax{a:World}(e:Ext (λ_=>False) W a)(c:MemPlace->Prop):W.keptBut a c:=by
 refine⟨e.os,e.output,λi d=>?_⟩;rw[e.keep i d λh=>h]
 grind
theorem L5{y:Nat}{d:DataW H}{p:List MemPlace}(F:P.underlying t=some (.slice e))(X:P.underlying e=some (.int .u8))(Z:P.cellsOf e=1)
  (z:Value.okWide P W .any y t v) (h:DataW.Trod enc P W 0 (λ_=>true) true t v d p) (I: ∀x,x∈p->x.block<W.heap.size):
  ∃l:List UInt8,bp hf W (λ_=>False) (aB dH l) v/\ ∀G,Ext (λ_=>False) W G->DataW.Trod enc P G 0 (λb=>decide (b<W.heap.size)) true t v d p:=by
 obtain⟨aS,len,r,rfl⟩:=okWide_slice F z;obtain⟨f,M⟩:=h;rcases open_ints F X Z M with ⟨m,q⟩|⟨a,g,u,k,m,_,D,N,S,q,c,A⟩
 ·simp[Value.cells] at m;obtain⟨rfl,rfl,rfl⟩:=m;simp only[Prod.mk.injEq] at q;obtain⟨rfl,rfl⟩:=q;refine⟨[],.t _ _ (.gn _ _),λG _=>⟨1,by simp[DataW.trod,F,Value.cells]⟩⟩
 simp[Value.cells] at m;obtain⟨rfl,rfl,rfl⟩:=m;simp only[Prod.mk.injEq] at q;obtain⟨rfl,rfl⟩:=q;simp only[if_true] at S;refine⟨(k.take len).map λn=>UInt8.ofNat n.toNat,?_,λG L=>?_⟩
 ·have o:(List.map dH ((k.take len).map λn=>UInt8.ofNat n.toNat)).length=len:=bZ
  by_cases T:len=0
  ·subst T;simp only[List.take_zero,List.map_nil];exact .t _ _ (.gn _ _)
  obtain⟨K,Q,B⟩:=a;have s:B=none:=by simpa[Addr.add] using World.cell?_spot (c 0 O)
  subst s;have a7:K<W.heap.size:=World.block_lt_of_cell? W ⟨K,Q+0,none⟩ (by have:=c 0 O;rwa [Addr.add_lit] at this);have E:dh W (λ_=>False) (.bD (List.map dH ((k.take len).map λn=>UInt8.ofNat n.toNat))) (.slice (some ⟨K,Q,none⟩) (List.map dH ((k.take len).map λn=>UInt8.ofNat n.toNat)).length r):=by
   refine .bD _ K Q 1 r (λi j=> .int .u8 (k.getD i 0)) a7 (λh=>h) (by rw[o];exact D) ?_ ?_ ?_
   ·intro R w;obtain⟨x,_,rfl⟩:=eo.1 w;rfl
   ·intro i j C hj
    have:=c i (by rw[o] at C;omega);rw[Addr.add_lit] at this
    grind
   intro i j R x w q;have C:i<len:=by
    grind
   have a7:=range_u8 A i;have e:k[i]?.getD 0=k[i]' O:=by simp[List.getElem?_eq_getElem (O:i<k.length)]
   rw[ek,ek,hS] at w;rw[aX C,bo (O:i<k.length)] at w;simp at w;subst w
   match j with
   |0=>
    simp at q;subst q;rw[e] at a7;have U:k.getD i 0=max (k[i]' O) 0%256:=by
     rw[List.getD,e];omega
    rw[U];exact .int _ _
   |j+1=>simp at q
  rw[o] at E;exact .t _ _ E
 refine⟨2,?_⟩;simp only[Value.cells];refine shut_ints 0 F X Z (Nat.zero_le _) D N ?_ (λi C=>aaZ L (c i C)) A;by_cases V:k.length=0
 ·have:r=0:=O
  grind
 have a7:a.block<W.heap.size:=by
  have:=World.block_lt_of_cell? W (a.add 0) (c 0 O);simpa[Addr.add] using this
 grind
theorem abM{u:Value}(h:bp hf W X (aO true) u):u= .bool true:=nu h
theorem ad3{n:Func}{s:ChangeSpec}{Q:TypeId}{G:fq}{args:Array Value}{U V:List (DataW H)}{c:List MemPlace}(R:P.underlying t=some (.slice e))(X:P.underlying e=some (.int .u8))(Z:P.cellsOf e=1)
  (b:n.params= #[t,t]) (b3:n.resultTypes= #[Q]) (a7:P.underlying Q=some .bool) (g:s.vars=[]) (w: ∀d D,s.fn H [d,D]={results:=[.lit (.bool true)],args:=[d,D]})
  (a: ∀(j:Nat) t v,n.params[j]? =some t->args[j]? =some v->Value.okWide P W .any o t v) (E:DataW.Whole enc P n.params.toList s.vars false W args.toList U V c) (lh:G.ok W)
  (y: ∀l z:List UInt8,j8 P G f [aB dH l,aB dH z] (aO true)):Calls P f args W λe gQ=> ∃v,e= .returned v/\s.post enc P n false true false false W args v gQ:=by
 have m:=E;obtain⟨p,q,r,I,rfl,air,aiC⟩:=E;rw[g] at I;obtain⟨rfl,rfl⟩:=trodVars_none I;rw[b] at a r;obtain⟨M,N,i,k,S,T,rfl,rfl,rfl,h0,h1⟩:=trodAll_two r;obtain⟨l,A,B⟩:=L5 (d:=i) R X Z (a 0 t M rfl rfl) h0 λx C=>m.lt x (by simp[C]);obtain⟨z,F,K⟩:=L5 (d:=k) R X Z (a 1 t N rfl rfl) h1 λx C=>m.lt x (by simp[C]);refine((y l z).2 W (λ_=>False) [M,N] lh (λ_ h=>h.elim) ⟨A,F,trivial⟩).mono ?_;rintro e gQ ⟨u,rfl,L,hu⟩;obtain rfl:=abM hu;refine⟨_,rfl,[i,k],[],S++T++[],[],S++T,[],m,?_,?_,?_,aax L _,λh=>by cases h⟩
 ·rw[b3,show([i,k]++[]:List (DataW H))=[i,k] from rfl,w];exact trodAll_mk1 (shut_bool a7 _)
 ·rw[b,show([i,k]++[]:List (DataW H))=[i,k] from rfl,w];exact trodAll_mk2 (B gQ L) (K gQ L)
 rw[g,show([i,k]++[]:List (DataW H))=[i,k] from rfl,w];exact rfl
theorem zH{w':World}(h:Go.RowKit.Below w.heap.size w w'):Ext (λ_=>False) w w':=⟨h.os,h.tape,h.output,h.size,λb a _=>h.block b a⟩
theorem Ym{n:Nat}(h:(fq.mk n W).ok w){b:Nat}(a:b<n):w.cell? ⟨b,o,none⟩=W.cell? ⟨b,o,none⟩:=CI (h.2 b a)
theorem ac'{a b:V}{c:List Value}(h:dw hf W X [a,b] c): ∃u v,c=[u,v]/\bp hf W X a u/\bp hf W X b v:=by
 match c,h with
 | [u,v],h=>exact⟨u,v,rfl,h.1,h.2.1⟩
 | [],h=>exact h.elim
 | [_],h=>exact h.2.elim
 |_::_::_::_,h=>exact h.2.2.elim
theorem SC{H:Type}{enc:TypeId×Value->H}{C:Checked}{d:Os}{e:Func}{s:OpenSpec}{a:List PathCond}{b:Bool}{c:List (String×DataW Unit)}(modest:Bool)(k:World)(args:Array Value)(n:k.os=d)
  (o:(k.forCall (λ_ _=>0) ⟨#[],args,[]⟩).Shaped C.prog)
  (l:Input.okWideB C.prog (k.forCall (λ_ _=>0) ⟨#[],args,[]⟩) f ⟨#[],args,[]⟩=true)
  (m:s.preRow enc C.prog e a b c (k.forCall (λ_ _=>0) ⟨#[],args,[]⟩).memory args):
  ∃(w:World) (h:Tape) (i:Input),w.os=d/\(w.forCall h i).Shaped C.prog/\i.vars=[]/\Input.okWide C.prog (w.forCall h i) .any w.heap.size f i/\
   s.preRow enc C.prog e a b c (w.forCall h i).memory i.args/\({modest:=modest}:Assume).holds C.prog (lone (Frame.enter C.prog f i.args .normal) [] (w.forCall h i)):=
 ⟨k,λ_ _=>0,⟨#[],args,[]⟩,n,o,(Input.okWide_of_okWideB (base:=0) l).1,(Input.okWide_of_okWideB l).2,m,by
  simp only[Assume.holds];exact⟨aW,aW,λ_=>Modest.zero,aW,aW⟩⟩
end
end Go.Lift
