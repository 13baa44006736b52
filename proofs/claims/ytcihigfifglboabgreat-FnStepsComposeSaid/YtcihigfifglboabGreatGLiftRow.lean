/- Tools. -/
import Derived.Test.YtcihigfifglboabGreatGLiftSq
import Derived.ProofKit
import Derived.OpenShut
import Derived.Deep.DeepHandedRow
import Derived.Lib.LaidTab
import Derived.Lib.ConvBytes
import Derived.Lib.AtoiErrMem
import Derived.Sort.Grow
import Derived.Deep.Draws
import Derived.Below
import Derived.Lib.SplitLaws
import Derived.Stop.LaidErr
import Derived.Lay
namespace Go.Lift
open Go Go.ChangeShapes Go.WideShapes Go.ChangeAt Go.RowKit
section
variable {H:Type} {enc:TypeId×Value->H} {P:Program}
variable {W w:World}{v:Value}{t e:TypeId}{X:Nat->Prop}{f:FuncId}{o:Nat}
theorem Y7{c:World}(e:Ext (λ_=>False) W c){a:Addr}(h:W.cell? a=some v):c.cell? a=some v:=by obtain⟨b,o,i⟩:=a;have d:=World.cell?_spot h;dsimp at d;subst d;have a8:=World.block_lt_of_cell? W ⟨b,o,none⟩ h;rw[CW (e.keep b a8 λh=>h)];exact h
theorem Yf{a:World}(e:Ext (λ_=>False) W a)(c:MemPlace->Prop):W.keptBut a c:=by
 refine⟨e.os,e.output,λi d=>?_⟩;rw[e.keep i d λh=>h];cases h:W.heap[i]? with
 |none=>rfl
 |some o=>cases o<;>simp
theorem LU{y:Nat}{d:DataW H}{p:List MemPlace}(F:P.underlying t=some (.slice e))(Q:P.underlying e=some (.int .u8))(R:P.cellsOf e=1)
  (z:Value.okWide P W .any y t v) (h:DataW.Trod enc P W 0 (λ_=>true) true t v d p) (E: ∀x,x∈p->x.block<W.heap.size):
  ∃l:List UInt8,bn gQ W (λ_=>False) (aC dC l) v/\ ∀G,Ext (λ_=>False) W G->DataW.Trod enc P G 0 (λb=>decide (b<W.heap.size)) true t v d p:=by
 obtain⟨aJ,len,r,rfl⟩:=okWide_slice F z;obtain⟨U,M⟩:=h;rcases open_ints F Q R M with ⟨o,q⟩|⟨a,X,Y,m,o,_,f,N,g,q,c,A⟩
 ·simp[Value.cells] at o;obtain⟨rfl,rfl,rfl⟩:=o;simp only[Prod.mk.injEq] at q;obtain⟨rfl,rfl⟩:=q;refine⟨[],.t _ _ (.fO _ _),λG _=>⟨1,by simp[DataW.trod,F,Value.cells]⟩⟩
 simp[Value.cells] at o;obtain⟨rfl,rfl,rfl⟩:=o;simp only[Prod.mk.injEq] at q;obtain⟨rfl,rfl⟩:=q;simp only[if_true] at g;refine⟨(m.take len).map λn=>UInt8.ofNat n.toNat,?_,λG K=>?_⟩
 ·have k:(List.map dC ((m.take len).map λn=>UInt8.ofNat n.toNat)).length=len:=bQ
  by_cases S:len=0
  ·subst S;simp only[List.take_zero,List.map_nil];exact .t _ _ (.fO _ _)
  obtain⟨I,B,C⟩:=a;have s:C=none:=by simpa[Addr.add] using World.cell?_spot (c 0 O)
  subst s;have a8:I<W.heap.size:=World.block_lt_of_cell? W ⟨I,B+0,none⟩ (by have:=c 0 O;rwa [Addr.add_lit] at this);have u:cW W (λ_=>False) (.aD (List.map dC ((m.take len).map λn=>UInt8.ofNat n.toNat))) (.slice (some ⟨I,B,none⟩) (List.map dC ((m.take len).map λn=>UInt8.ofNat n.toNat)).length r):=by
   refine .aD _ I B 1 r (λi j=> .int .u8 (m.getD i 0)) a8 (λh=>h) (by rw[k];exact f) ?_ ?_ ?_
   ·intro L w;obtain⟨x,_,rfl⟩:=eK.1 w;rfl
   ·intro i j D hj
    have:=c i (by rw[k] at D;omega);rw[Addr.add_lit] at this;have T:B+i*1+j=B+i:=O
    rw[T];exact this
   intro i j L x w q;have D:i<len:=by
    have:=(bR.1 w).1;rw[k] at this;exact this
   have a8:=range_u8 A i;have e:m[i]?.getD 0=m[i]' O:=by simp[List.getElem?_eq_getElem (O:i<m.length)]
   rw[et,et,fy] at w;rw[a1 D,bs (O:i<m.length)] at w;simp at w;subst w
   match j with
   |0=>
    simp at q;subst q;rw[e] at a8;have V:m.getD i 0=max (m[i]' O) 0%256:=by
     rw[List.getD,e];omega
    rw[V];exact .int _ _
   |j+1=>simp at q
  rw[k] at u;exact .t _ _ u
 refine⟨2,?_⟩;simp only[Value.cells];refine shut_ints 0 F Q R (Nat.zero_le _) f N ?_ (λi D=>Y7 K (c i D)) A;by_cases PU:m.length=0
 ·have:r=0:=O
  split<;>omega
 have a8:a.block<W.heap.size:=by
  have:=World.block_lt_of_cell? W (a.add 0) (c 0 O);simpa[Addr.add] using this
 simp[a8,g]
theorem ZT{u:Value}(h:bn gQ W X (aL true) u):u= .bool true:=nk h
theorem aa2{n:Func}{s:ChangeSpec}{K:TypeId}{G:fa}{args:Array Value}{T V:List (DataW H)}{c:List MemPlace}(L:P.underlying t=some (.slice e))(Q:P.underlying e=some (.int .u8))(R:P.cellsOf e=1)
  (U:n.params= #[t,t]) (b7:n.resultTypes= #[K]) (a8:P.underlying K=some .bool) (X:s.vars=[]) (w: ∀d Y,s.fn H [d,Y]={results:=[.lit (.bool true)],args:=[d,Y]})
  (a: ∀(j:Nat) t v,n.params[j]? =some t->args[j]? =some v->Value.okWide P W .any o t v) (b:DataW.Whole enc P n.params.toList s.vars false W args.toList T V c) (jV:G.ok W)
  (y: ∀l z:List UInt8,kK P G f [aC dC l,aC dC z] (aL true)):Calls P f args W λe gy=> ∃v,e= .returned v/\s.post enc P n false true false false W args v gy:=by
 have m:=b;obtain⟨p,q,r,g,rfl,af',agj⟩:=b;rw[X] at g;obtain⟨rfl,rfl⟩:=trodVars_none g;rw[U] at a r;obtain⟨E,M,i,k,N,S,rfl,rfl,rfl,h0,h1⟩:=trodAll_two r;obtain⟨l,A,B⟩:=LU (d:=i) L Q R (a 0 t E rfl rfl) h0 λx C=>m.lt x (by simp[C]);obtain⟨z,D,F⟩:=LU (d:=k) L Q R (a 1 t M rfl rfl) h1 λx C=>m.lt x (by simp[C]);refine((y l z).2 W (λ_=>False) [E,M] jV (λ_ h=>h.elim) ⟨A,D,trivial⟩).mono ?_;rintro e gy ⟨u,rfl,I,hu⟩;obtain rfl:=ZT hu;refine⟨_,rfl,[i,k],[],N++S++[],[],N++S,[],m,?_,?_,?_,Yf I _,λh=>by cases h⟩
 ·rw[b7,show([i,k]++[]:List (DataW H))=[i,k] from rfl,w];exact trodAll_mk1 (shut_bool a8 _)
 ·rw[U,show([i,k]++[]:List (DataW H))=[i,k] from rfl,w];exact trodAll_mk2 (B gy I) (F gy I)
 rw[X,show([i,k]++[]:List (DataW H))=[i,k] from rfl,w];exact rfl
theorem LG{w':World}(h:Go.RowKit.Below w.heap.size w w'):Ext (λ_=>False) w w':=⟨h.os,h.tape,h.output,h.size,λb a _=>h.block b a⟩
theorem WJ{n:Nat}(h:(fa.mk n W).ok w){b:Nat}(a:b<n):w.cell? ⟨b,o,none⟩=W.cell? ⟨b,o,none⟩:=CW (h.2 b a)
theorem aaE{a b:V}{c:List Value}(h:dt gQ W X [a,b] c): ∃u v,c=[u,v]/\bn gQ W X a u/\bn gQ W X b v:=by
 match c,h with
 | [u,v],h=>exact⟨u,v,rfl,h.1,h.2.1⟩
 | [],h=>exact h.elim
 | [_],h=>exact h.2.elim
 |_::_::_::_,h=>exact h.2.2.elim
theorem Ro{H:Type}{d:TypeId×Value->H}{C:Checked}{e:Os}{h:Func}{s:OpenSpec}{a:List PathCond}{b:Bool}{c:List (String×DataW Unit)}(modest:Bool)(l:World)(args:Array Value)(o:l.os=e)
  (p:(l.forCall (λ_ _=>0) ⟨#[],args,[]⟩).Shaped C.prog)
  (m:Input.okWideB C.prog (l.forCall (λ_ _=>0) ⟨#[],args,[]⟩) f ⟨#[],args,[]⟩=true)
  (n:s.preRow d C.prog h a b c (l.forCall (λ_ _=>0) ⟨#[],args,[]⟩).memory args):
  ∃(w:World) (k:Tape) (i:Input),w.os=e/\(w.forCall k i).Shaped C.prog/\i.vars=[]/\Input.okWide C.prog (w.forCall k i) .any w.heap.size f i/\
   s.preRow d C.prog h a b c (w.forCall k i).memory i.args/\({modest:=modest}:Assume).holds C.prog (lone (Frame.enter C.prog f i.args .normal) [] (w.forCall k i)):=
 ⟨l,λ_ _=>0,⟨#[],args,[]⟩,o,p,(Input.okWide_of_okWideB (base:=0) m).1,(Input.okWide_of_okWideB m).2,n,by
  simp only[Assume.holds];exact⟨aX,aX,λ_=>Modest.zero,aX,aX⟩⟩
end
end Go.Lift
