/- Tools. -/
import Derived.Test.YteifkndfpnkalabGreatVLiftSq
import Derived.ProofKit
import Derived.OpenShut
import Derived.Deep.DeepHandedRow
import Derived.Lib.LaidTab
import Derived.Lib.ConvBytes
import Derived.Lib.AtoiErrMem
import Derived.Sort.Grow
import Derived.Deep.Draws
import Derived.Below
import Derived.Lib.SplitLaws
import Derived.Stop.LaidErr
import Derived.Lay
namespace Go.Lift
open Go Go.ChangeShapes Go.WideShapes Go.ChangeAt Go.RowKit
section
variable {H:Type}{enc:TypeId×Value->H}{P:Program}
variable {W w:World}{X:Nat->Prop}
theorem ab4{a:World}(e:Ext (λ_=>False) W a)(b:MemPlace->Prop):W.keptBut a b:=by
 refine⟨e.os,e.output,λi c=>?_⟩;rw[e.keep i c λh=>h]
 grind
theorem ac8{u:Value}(h:bB fE W X (aW true) u):u= .bool true:=nK h
theorem M3{w':World}(h:Go.RowKit.Below w.heap.size w w'):Ext (λ_=>False) w w':=⟨h.os,h.tape,h.output,h.size,λb a _=>h.block b a⟩
theorem aaF{n:Nat}(h:(fh.mk n W).ok w){b o:Nat}(a:b<n):w.cell? ⟨b,o,none⟩=W.cell? ⟨b,o,none⟩:=E9 (h.2 b a)
theorem aev{a b:V}{c:List Value}(h:dr fE W X [a,b] c): ∃u v,c=[u,v]/\bB fE W X a u/\bB fE W X b v:=by
 match c,h with
 | [u,v],h=>exact⟨u,v,rfl,h.1,h.2.1⟩
 | [],h=>exact h.elim
 | [_],h=>exact h.2.elim
 |_::_::_::_,h=>exact h.2.2.elim
theorem T7{H:Type}{enc:TypeId×Value->H}{C:Checked}{d:Os}{f:FuncId}{e:Func}{s:OpenSpec}{a:List PathCond}{b:Bool}{c:List (String×DataW Unit)}(modest:Bool)(k:World)(args:Array Value)(n:k.os=d)
  (o:(k.forCall (λ_ _=>0) ⟨#[],args,[]⟩).Shaped C.prog)
  (l:Input.okWideB C.prog (k.forCall (λ_ _=>0) ⟨#[],args,[]⟩) f ⟨#[],args,[]⟩=true)
  (m:s.preRow enc C.prog e a b c (k.forCall (λ_ _=>0) ⟨#[],args,[]⟩).memory args):
  ∃(w:World) (h:Tape) (i:Input),w.os=d/\(w.forCall h i).Shaped C.prog/\i.vars=[]/\Input.okWide C.prog (w.forCall h i) .any w.heap.size f i/\
   s.preRow enc C.prog e a b c (w.forCall h i).memory i.args/\({modest:=modest}:Assume).holds C.prog (lone (Frame.enter C.prog f i.args .normal) [] (w.forCall h i)):=
 ⟨k,λ_ _=>0,⟨#[],args,[]⟩,n,o,(Input.okWide_of_okWideB (base:=0) l).1,(Input.okWide_of_okWideB l).2,m,by
  simp only[Assume.holds];exact⟨bl,bl,λ_=>Modest.zero,bl,bl⟩⟩
end
end Go.Lift
