/- Tools. -/
import Derived.Test.YtfegpkfpnpjgeaaGreatBLiftSq
import Derived.ProofKit
import Derived.OpenShut
import Derived.Deep.DeepHandedRow
import Derived.Lib.LaidTab
import Derived.Lib.ConvBytes
import Derived.Lib.AtoiErrMem
import Derived.Sort.Grow
import Derived.Deep.Draws
import Derived.Below
import Derived.Lib.SplitLaws
import Derived.Stop.LaidErr
import Derived.Lay
namespace Go.Lift
open Go Go.ChangeShapes Go.WideShapes Go.ChangeAt Go.RowKit
section
variable {H:Type}{enc:TypeId×Value->H}{P:Program}
variable {W w:World}{v:Value}{t e:TypeId}{X:Nat->Prop}{f:FuncId}{n:Nat}
theorem Zy{c:World}(e:Ext (λ_=>False) W c){a:Addr}(h:W.cell? a=some v):c.cell? a=some v:=by obtain⟨b,o,i⟩:=a;have d:=World.cell?_spot h;dsimp at d;subst d;have aY:=World.block_lt_of_cell? W ⟨b,o,none⟩ h;rw[Dp (e.keep b aY λh=>h)];exact h
theorem ZY{a:World}(e:Ext (λ_=>False) W a)(c:MemPlace->Prop):W.keptBut a c:=by
 refine⟨e.os,e.output,λi d=>?_⟩;rw[e.keep i d λh=>h]
 grind
theorem X7{y:Nat}{d:DataW H}{p:List MemPlace}(F:P.underlying t=some (.slice e))(X:P.underlying e=some (.int .u8))(f:P.cellsOf e=1)
  (z:Value.okWide P W .any y t v) (h:DataW.Trod enc P W 0 (λ_=>true) true t v d p) (M: ∀x,x∈p->x.block<W.heap.size):
  ∃l:List UInt8,bk gT W (λ_=>False) (aF dZ l) v/\ ∀G,Ext (λ_=>False) W G->DataW.Trod enc P G 0 (λb=>decide (b<W.heap.size)) true t v d p:=by
 obtain⟨aI,len,r,rfl⟩:=okWide_slice F z;obtain⟨g,N⟩:=h;rcases open_ints F X f N with ⟨m,q⟩|⟨a,u,D,k,m,_,E,S,T,q,c,A⟩
 ·simp[Value.cells] at m;obtain⟨rfl,rfl,rfl⟩:=m;simp only[Prod.mk.injEq] at q;obtain⟨rfl,rfl⟩:=q;refine⟨[],.t _ _ (.fI _ _),λG _=>⟨1,by simp[DataW.trod,F,Value.cells]⟩⟩
 simp[Value.cells] at m;obtain⟨rfl,rfl,rfl⟩:=m;simp only[Prod.mk.injEq] at q;obtain⟨rfl,rfl⟩:=q;simp only[if_true] at T;refine⟨(k.take len).map λn=>UInt8.ofNat n.toNat,?_,λG L=>?_⟩
 ·have o:(List.map dZ ((k.take len).map λn=>UInt8.ofNat n.toNat)).length=len:=bN
  by_cases U:len=0
  ·subst U;simp only[List.take_zero,List.map_nil];exact .t _ _ (.fI _ _)
  obtain⟨K,Q,B⟩:=a;have s:B=none:=by simpa[Addr.add] using World.cell?_spot (c 0 O)
  subst s;have aY:K<W.heap.size:=World.block_lt_of_cell? W ⟨K,Q+0,none⟩ (by have:=c 0 O;rwa [Addr.add_lit] at this);have I:cP W (λ_=>False) (.aA (List.map dZ ((k.take len).map λn=>UInt8.ofNat n.toNat))) (.slice (some ⟨K,Q,none⟩) (List.map dZ ((k.take len).map λn=>UInt8.ofNat n.toNat)).length r):=by
   refine .aA _ K Q 1 r (λi j=> .int .u8 (k.getD i 0)) aY (λh=>h) (by rw[o];exact E) ?_ ?_ ?_
   ·intro R w;obtain⟨x,_,rfl⟩:=ey.1 w;rfl
   ·intro i j C hj
    have:=c i (by rw[o] at C;omega);rw[Addr.add_lit] at this
    grind
   intro i j R x w q;have C:i<len:=by
    grind
   have aY:=range_u8 A i;have e:k[i]?.getD 0=k[i]' O:=by simp[List.getElem?_eq_getElem (O:i<k.length)]
   rw[ev,ev,fS] at w;rw[a1 C,bo (O:i<k.length)] at w;simp at w;subst w
   match j with
   |0=>
    simp at q;subst q;rw[e] at aY;have V:k.getD i 0=max (k[i]' O) 0%256:=by
     rw[List.getD,e];omega
    rw[V];exact .int _ _
   |j+1=>simp at q
  rw[o] at I;exact .t _ _ I
 refine⟨2,?_⟩;simp only[Value.cells];refine shut_ints 0 F X f (Nat.zero_le _) E S ?_ (λi C=>Zy L (c i C)) A;by_cases Y:k.length=0
 ·have:r=0:=O
  grind
 have aY:a.block<W.heap.size:=by
  have:=World.block_lt_of_cell? W (a.add 0) (c 0 O);simpa[Addr.add] using this
 grind
theorem abb{u:Value}(h:bk gT W X (aM true) u):u= .bool true:=nA h
theorem aco{c:Func}{s:ChangeSpec}{i:TypeId}{G:eY}{args:Array Value}{k m:List (DataW H)}{a:List MemPlace}(b:P.underlying t=some (.slice e))(g:P.underlying e=some (.int .u8))(D:P.cellsOf e=1)
  (F:c.params= #[t]) (E:c.resultTypes= #[i]) (I:P.underlying i=some .bool) (K:s.vars=[]) (z: ∀d,s.fn H [d]={results:=[.lit (.bool true)],args:=[d]})
  (o: ∀(j:Nat) t v,c.params[j]? =some t->args[j]? =some v->Value.okWide P W .any n t v) (L:DataW.Whole enc P c.params.toList s.vars false W args.toList k m a) (M:G.ok W)
  (A: ∀l:List UInt8,jV P G f [aF dZ l] (aM true)):Calls P f args W λe gN=> ∃v,e= .returned v/\s.post enc P c false true false false W args v gN:=by
 have w:=L;obtain⟨p,q,y,Q,rfl,N,S⟩:=L;rw[K] at Q;obtain⟨rfl,rfl⟩:=trodVars_none Q;rw[F] at o y;obtain⟨R,r,rfl,rfl,T⟩:=trodAll_one y;obtain⟨l,B,C⟩:=X7 (d:=r) b g D (o 0 t R rfl rfl) T λx U=>w.lt x (by simpa using U);refine((A l).2 W (λ_=>False) [R] M (λ_ h=>h.elim) ⟨B,trivial⟩).mono ?_;rintro e gN ⟨u,rfl,X,V⟩;obtain rfl:=abb V;refine⟨_,rfl,[r],[],p++[],[],p,[],w,?_,?_,?_,ZY X _,λh=>by cases h⟩
 ·rw[E,show([r]++[]:List (DataW H))=[r] from rfl,z];exact trodAll_mk1 (shut_bool I _)
 ·rw[F,show([r]++[]:List (DataW H))=[r] from rfl,z];exact trodAll_mk1 (C gN X)
 rw[K,show([r]++[]:List (DataW H))=[r] from rfl,z];exact rfl
theorem z6{w':World}(h:Go.RowKit.Below w.heap.size w w'):Ext (λ_=>False) w w':=⟨h.os,h.tape,h.output,h.size,λb a _=>h.block b a⟩
theorem YJ(h:(eY.mk n W).ok w){b o:Nat}(a:b<n):w.cell? ⟨b,o,none⟩=W.cell? ⟨b,o,none⟩:=Dp (h.2 b a)
theorem ab1{a b:V}{c:List Value}(h:dj gT W X [a,b] c): ∃u v,c=[u,v]/\bk gT W X a u/\bk gT W X b v:=by
 match c,h with
 | [u,v],h=>exact⟨u,v,rfl,h.1,h.2.1⟩
 | [],h=>exact h.elim
 | [_],h=>exact h.2.elim
 |_::_::_::_,h=>exact h.2.2.elim
theorem Sm{H:Type}{enc:TypeId×Value->H}{C:Checked}{d:Os}{e:Func}{s:OpenSpec}{a:List PathCond}{b:Bool}{c:List (String×DataW Unit)}(modest:Bool)(k:World)(args:Array Value)(n:k.os=d)
  (o:(k.forCall (λ_ _=>0) ⟨#[],args,[]⟩).Shaped C.prog)
  (l:Input.okWideB C.prog (k.forCall (λ_ _=>0) ⟨#[],args,[]⟩) f ⟨#[],args,[]⟩=true)
  (m:s.preRow enc C.prog e a b c (k.forCall (λ_ _=>0) ⟨#[],args,[]⟩).memory args):
  ∃(w:World) (h:Tape) (i:Input),w.os=d/\(w.forCall h i).Shaped C.prog/\i.vars=[]/\Input.okWide C.prog (w.forCall h i) .any w.heap.size f i/\
   s.preRow enc C.prog e a b c (w.forCall h i).memory i.args/\({modest:=modest}:Assume).holds C.prog (lone (Frame.enter C.prog f i.args .normal) [] (w.forCall h i)):=
 ⟨k,λ_ _=>0,⟨#[],args,[]⟩,n,o,(Input.okWide_of_okWideB (base:=0) l).1,(Input.okWide_of_okWideB l).2,m,by
  simp only[Assume.holds];exact⟨aP,aP,λ_=>Modest.zero,aP,aP⟩⟩
end
end Go.Lift
