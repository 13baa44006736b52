/- Tools. -/
import Derived.Test.YtcihigfifglboabGreatJLiftSq
import Derived.ProofKit
import Derived.OpenShut
import Derived.Deep.DeepHandedRow
import Derived.Lib.LaidTab
import Derived.Lib.ConvBytes
import Derived.Lib.AtoiErrMem
import Derived.Sort.Grow
import Derived.Deep.Draws
import Derived.Below
import Derived.Lib.SplitLaws
import Derived.Stop.LaidErr
import Derived.Lay
namespace Go.Lift
open Go Go.ChangeShapes Go.WideShapes Go.ChangeAt Go.RowKit
section
variable {H:Type} {enc:TypeId×Value->H} {P:Program}
variable {W w:World}{v:Value}{t e:TypeId}{X:Nat->Prop}{f:FuncId}
theorem Zg{c:World}(e:Ext (λ_=>False) W c){a:Addr}(h:W.cell? a=some v):c.cell? a=some v:=by obtain⟨b,o,i⟩:=a;have d:=World.cell?_spot h;dsimp at d;subst d;have a':=World.block_lt_of_cell? W ⟨b,o,none⟩ h;rw[C7 (e.keep b a' λh=>h)];exact h
theorem Yt{a:World}(e:Ext (λ_=>False) W a)(c:MemPlace->Prop):W.keptBut a c:=by
 refine⟨e.os,e.output,λi d=>?_⟩;rw[e.keep i d λh=>h];cases h:W.heap[i]? with
 |none=>rfl
 |some o=>cases o<;>simp
theorem Xw{y:Nat}{d:DataW H}{p:List MemPlace}(F:P.underlying t=some (.slice e))(Q:P.underlying e=some (.int .u8))(R:P.cellsOf e=1)
  (z:Value.okWide P W .any y t v) (h:DataW.Trod enc P W 0 (λ_=>true) true t v d p) (E: ∀x,x∈p->x.block<W.heap.size):
  ∃l:List UInt8,bn g' W (λ_=>False) (aE dW l) v/\ ∀G,Ext (λ_=>False) W G->DataW.Trod enc P G 0 (λb=>decide (b<W.heap.size)) true t v d p:=by
 obtain⟨aJ,len,r,rfl⟩:=okWide_slice F z;obtain⟨U,M⟩:=h;rcases open_ints F Q R M with ⟨o,q⟩|⟨a,X,Y,m,o,_,f,N,g,q,c,A⟩
 ·simp[Value.cells] at o;obtain⟨rfl,rfl,rfl⟩:=o;simp only[Prod.mk.injEq] at q;obtain⟨rfl,rfl⟩:=q;refine⟨[],.t _ _ (.fY _ _),λG _=>⟨1,by simp[DataW.trod,F,Value.cells]⟩⟩
 simp[Value.cells] at o;obtain⟨rfl,rfl,rfl⟩:=o;simp only[Prod.mk.injEq] at q;obtain⟨rfl,rfl⟩:=q;simp only[if_true] at g;refine⟨(m.take len).map λn=>UInt8.ofNat n.toNat,?_,λG K=>?_⟩
 ·have k:(List.map dW ((m.take len).map λn=>UInt8.ofNat n.toNat)).length=len:=bQ
  by_cases S:len=0
  ·subst S;simp only[List.take_zero,List.map_nil];exact .t _ _ (.fY _ _)
  obtain⟨I,B,C⟩:=a;have s:C=none:=by simpa[Addr.add] using World.cell?_spot (c 0 O)
  subst s;have a':I<W.heap.size:=World.block_lt_of_cell? W ⟨I,B+0,none⟩ (by have:=c 0 O;rwa [Addr.add_lit] at this);have u:cX W (λ_=>False) (.aD (List.map dW ((m.take len).map λn=>UInt8.ofNat n.toNat))) (.slice (some ⟨I,B,none⟩) (List.map dW ((m.take len).map λn=>UInt8.ofNat n.toNat)).length r):=by
   refine .aD _ I B 1 r (λi j=> .int .u8 (m.getD i 0)) a' (λh=>h) (by rw[k];exact f) ?_ ?_ ?_
   ·intro L w;obtain⟨x,_,rfl⟩:=eP.1 w;rfl
   ·intro i j D hj
    have:=c i (by rw[k] at D;omega);rw[Addr.add_lit] at this;have T:B+i*1+j=B+i:=O
    rw[T];exact this
   intro i j L x w q;have D:i<len:=by
    have:=(bR.1 w).1;rw[k] at this;exact this
   have a':=range_u8 A i;have e:m[i]?.getD 0=m[i]' O:=by simp[List.getElem?_eq_getElem (O:i<m.length)]
   rw[ey,ey,ft] at w;rw[a1 D,br (O:i<m.length)] at w;simp at w;subst w
   match j with
   |0=>
    simp at q;subst q;rw[e] at a';have V:m.getD i 0=max (m[i]' O) 0%256:=by
     rw[List.getD,e];omega
    rw[V];exact .int _ _
   |j+1=>simp at q
  rw[k] at u;exact .t _ _ u
 refine⟨2,?_⟩;simp only[Value.cells];refine shut_ints 0 F Q R (Nat.zero_le _) f N ?_ (λi D=>Zg K (c i D)) A;by_cases P8:m.length=0
 ·have:r=0:=O
  split<;>omega
 have a':a.block<W.heap.size:=by
  have:=World.block_lt_of_cell? W (a.add 0) (c 0 O);simpa[Addr.add] using this
 simp[a',g]
theorem Zu{u:Value}(h:bn g' W X (aL true) u):u= .bool true:=nw h
theorem abZ{c:Func}{s:ChangeSpec}{k:TypeId}{G:fe}{i:Nat}{args:Array Value}{m n:List (DataW H)}{a:List MemPlace}(R:P.underlying t=some (.slice e))(U:P.underlying e=some (.int .u8))(X:P.cellsOf e=1)
  (D:c.params= #[t]) (Y:c.resultTypes= #[k]) (b:P.underlying k=some .bool) (F:s.vars=[]) (z: ∀d,s.fn H [d]={results:=[.lit (.bool true)],args:=[d]})
  (o: ∀(j:Nat) t v,c.params[j]? =some t->args[j]? =some v->Value.okWide P W .any i t v) (I:DataW.Whole enc P c.params.toList s.vars false W args.toList m n a) (g:G.ok W)
  (A: ∀l:List UInt8,kW P G f [aE dW l] (aL true)):Calls P f args W λe gV=> ∃v,e= .returned v/\s.post enc P c false true false false W args v gV:=by
 have w:=I;obtain⟨p,q,y,K,rfl,E,M⟩:=I;rw[F] at K;obtain⟨rfl,rfl⟩:=trodVars_none K;rw[D] at o y;obtain⟨L,r,rfl,rfl,N⟩:=trodAll_one y;obtain⟨l,B,C⟩:=Xw (d:=r) R U X (o 0 t L rfl rfl) N λx S=>w.lt x (by simpa using S);refine((A l).2 W (λ_=>False) [L] g (λ_ h=>h.elim) ⟨B,trivial⟩).mono ?_;rintro e gV ⟨u,rfl,Q,T⟩;obtain rfl:=Zu T;refine⟨_,rfl,[r],[],p++[],[],p,[],w,?_,?_,?_,Yt Q _,λh=>by cases h⟩
 ·rw[Y,show([r]++[]:List (DataW H))=[r] from rfl,z];exact trodAll_mk1 (shut_bool b _)
 ·rw[D,show([r]++[]:List (DataW H))=[r] from rfl,z];exact trodAll_mk1 (C gV Q)
 rw[F,show([r]++[]:List (DataW H))=[r] from rfl,z];exact rfl
theorem LR{w':World}(h:Go.RowKit.Below w.heap.size w w'):Ext (λ_=>False) w w':=⟨h.os,h.tape,h.output,h.size,λb a _=>h.block b a⟩
theorem W9{n:Nat}(h:(fe.mk n W).ok w){b o:Nat}(a:b<n):w.cell? ⟨b,o,none⟩=W.cell? ⟨b,o,none⟩:=C7 (h.2 b a)
theorem aa4{a b:V}{c:List Value}(h:dw g' W X [a,b] c): ∃u v,c=[u,v]/\bn g' W X a u/\bn g' W X b v:=by
 match c,h with
 | [u,v],h=>exact⟨u,v,rfl,h.1,h.2.1⟩
 | [],h=>exact h.elim
 | [_],h=>exact h.2.elim
 |_::_::_::_,h=>exact h.2.2.elim
theorem RC{H:Type}{enc:TypeId×Value->H}{C:Checked}{d:Os}{e:Func}{s:OpenSpec}{a:List PathCond}{b:Bool}{c:List (String×DataW Unit)}(modest:Bool)(k:World)(args:Array Value)(n:k.os=d)
  (o:(k.forCall (λ_ _=>0) ⟨#[],args,[]⟩).Shaped C.prog)
  (l:Input.okWideB C.prog (k.forCall (λ_ _=>0) ⟨#[],args,[]⟩) f ⟨#[],args,[]⟩=true)
  (m:s.preRow enc C.prog e a b c (k.forCall (λ_ _=>0) ⟨#[],args,[]⟩).memory args):
  ∃(w:World) (h:Tape) (i:Input),w.os=d/\(w.forCall h i).Shaped C.prog/\i.vars=[]/\Input.okWide C.prog (w.forCall h i) .any w.heap.size f i/\
   s.preRow enc C.prog e a b c (w.forCall h i).memory i.args/\({modest:=modest}:Assume).holds C.prog (lone (Frame.enter C.prog f i.args .normal) [] (w.forCall h i)):=
 ⟨k,λ_ _=>0,⟨#[],args,[]⟩,n,o,(Input.okWide_of_okWideB (base:=0) l).1,(Input.okWide_of_okWideB l).2,m,by
  simp only[Assume.holds];exact⟨aV,aV,λ_=>Modest.zero,aV,aV⟩⟩
end
end Go.Lift
