/- From a call's contract to a row: what slices of bytes give when they come in, and that they read the same behind the call. -/
import Derived.Test.YtlbojjldejlgaaaGreatTLiftLib
import Derived.WalkKit
import Derived.ProofKit
import Derived.OpenShut
import Derived.Deep.DeepHandedRow
import Derived.Lib.LaidTab
import Derived.Lib.ConvBytes
import Derived.Lib.AtoiErrMem
import Derived.Sort.Grow
import Derived.Deep.Draws
import Derived.Below
import Derived.Lib.SplitLaws
import Derived.Stop.LaidErr
import Derived.Lay
namespace Go.Lift
open Go Go.ChangeShapes Go.WideShapes Go.ChangeAt Go.RowKit
section
variable {H:Type} {enc:TypeId×Value→H} {P:Program}
theorem aH5{W W':World}(e:Ext (fun _=>False) W W')(may:MemPlace→Prop):W.keptBut W' may:=by
 refine⟨e.os,e.output,fun i hi=>?_⟩;rw [e.keep i hi fun h=>h];cases h:W.heap[i]? with
 |none=>rfl
 |some o=>cases o<;>simp
theorem aJQ{W:World}{X:Nat→Prop}{u:Value}(h:RV d8 W X (vB true) u):u= .bool true:=gT h
theorem aAn{w w':World}(h:Go.RowKit.Below w.heap.size w w'):Ext (fun _=>False) w w':=⟨h.os,h.tape,h.output,h.size,fun b hb _=>h.block b hb⟩
theorem aGe{n:Nat}{W w:World}(h:(Glob.mk n W).ok w){b o:Nat}(hb:b<n):w.cell? ⟨b,o,none⟩=W.cell? ⟨b,o,none⟩:=rE (h.2 b hb)
theorem aLk{W:World}{X:Nat→Prop}{a b:V}{us:List Value}(h:RVs d8 W X [a,b] us): ∃u v,us=[u,v]∧RV d8 W X a u∧RV d8 W X b v:=by
 match us,h with
 | [u,v],h=>exact⟨u,v,rfl,h.1,h.2.1⟩
 | [],h=>exact h.elim
 | [_],h=>exact h.2.elim
 |_::_::_::_,h=>exact h.2.2.elim
theorem vN{H:Type}{enc:TypeId×Value→H}{C:Checked}{os:Os}{f:FuncId}{fn:Func}{s:OpenSpec}{conds:List PathCond}{apart:Bool}{laid:List (String×DataW Unit)}(modest:Bool)(w0:World)(args:Array Value)(hos:w0.os=os)
  (hsh:(w0.forCall (fun _ _=>0) ⟨#[],args,[]⟩).Shaped C.prog)
  (hok:Input.okWideB C.prog (w0.forCall (fun _ _=>0) ⟨#[],args,[]⟩) f ⟨#[],args,[]⟩=true)
  (hrow:s.preRow enc C.prog fn conds apart laid (w0.forCall (fun _ _=>0) ⟨#[],args,[]⟩).memory args):
  ∃(w:World) (tape:Tape) (i:Input),w.os=os∧(w.forCall tape i).Shaped C.prog∧i.vars=[]∧Input.okWide C.prog (w.forCall tape i) .any w.heap.size f i∧
   s.preRow enc C.prog fn conds apart laid (w.forCall tape i).memory i.args∧({modest:=modest}:Assume).holds C.prog (lone (Frame.enter C.prog f i.args .normal) [] (w.forCall tape i)):=
 ⟨w0,fun _ _=>0,⟨#[],args,[]⟩,hos,hsh,(Input.okWide_of_okWideB (base:=0) hok).1,(Input.okWide_of_okWideB hok).2,hrow,by
  simp only [Assume.holds];exact⟨by simp,by simp,fun _=>Modest.zero,by simp,by simp⟩⟩
end
end Go.Lift
