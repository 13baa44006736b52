/- From a call's contract to a row: what slices of bytes give when they come in, and that they read the same behind the call. -/
import Derived.Test.YtcihigfifglboabGreatELiftLib
import Derived.WalkKit
import Derived.ProofKit
import Derived.OpenShut
import Derived.Deep.DeepHandedRow
import Derived.Lib.LaidTab
import Derived.Lib.ConvBytes
import Derived.Lib.AtoiErrMem
import Derived.Sort.Grow
import Derived.Deep.Draws
import Derived.Below
import Derived.Lib.SplitLaws
import Derived.Stop.LaidErr
import Derived.Lay
namespace Go.Lift
open Go Go.ChangeShapes Go.WideShapes Go.ChangeAt Go.RowKit
section
variable {H:Type} {enc:TypeId×Value→H} {P:Program}
theorem aMp{W W':World}(e:Ext (fun _=>False) W W'){a:Addr}{v:Value}(h:W.cell? a=some v):W'.cell? a=some v:=by obtain⟨b,o,sp⟩:=a;have hsp:=World.cell?_spot h;dsimp at hsp;subst hsp;have hb:=World.block_lt_of_cell? W ⟨b,o,none⟩ h;rw [oD (e.keep b hb fun h=>h)];exact h
theorem aLL{W W':World}(e:Ext (fun _=>False) W W')(may:MemPlace→Prop):W.keptBut W' may:=by
 refine⟨e.os,e.output,fun i hi=>?_⟩;rw [e.keep i hi fun h=>h];cases h:W.heap[i]? with
 |none=>rfl
 |some o=>cases o<;>simp
theorem aJn{W:World}{base:Nat}{t e:TypeId}{v:Value}{d:DataW H}{p:List MemPlace}(ht:P.underlying t=some (.slice e))(he:P.underlying e=some (.int .u8))(hc:P.cellsOf e=1)
  (hval:Value.okWide P W .any base t v) (h:DataW.Trod enc P W 0 (fun _=>true) true t v d p) (hlt: ∀x,x∈p→x.block<W.heap.size):
  ∃l:List UInt8,RV iV W (fun _=>False) (vM rY l) v∧ ∀W',Ext (fun _=>False) W W'→DataW.Trod enc P W' 0 (fun b=>decide (b<W.heap.size)) true t v d p:=by
 obtain⟨a1,len,cap,rfl⟩:=okWide_slice ht hval;obtain⟨fuel,hf⟩:=h;rcases open_ints ht he hc hf with ⟨hcs,hx⟩|⟨a,len',cap',zs,hcs,_,hl,hm,hz,hx,hcell,hwz⟩
 ·simp [Value.cells] at hcs;obtain⟨rfl,rfl,rfl⟩:=hcs;simp only [Prod.mk.injEq] at hx;obtain⟨rfl,rfl⟩:=hx;refine⟨[],.t _ _ (.sl0 _ _),fun W' _=>⟨1,by simp [DataW.trod,ht,Value.cells]⟩⟩
 simp [Value.cells] at hcs;obtain⟨rfl,rfl,rfl⟩:=hcs;simp only [Prod.mk.injEq] at hx;obtain⟨rfl,rfl⟩:=hx;simp only [if_true] at hz;refine⟨(zs.take len).map fun n=>UInt8.ofNat n.toNat,?_,fun W' hW'=>?_⟩
 ·have hlen:(List.map rY ((zs.take len).map fun n=>UInt8.ofNat n.toNat)).length=len:=by simp;omega
  by_cases h0:len=0
  ·subst h0;simp only [List.take_zero,List.map_nil];exact .t _ _ (.sl0 _ _)
  obtain⟨ab,ao,spot⟩:=a;have hspot:spot=none:=by simpa [Addr.add] using World.cell?_spot (hcell 0 (by omega))
  subst hspot;have hb:ab<W.heap.size:=World.block_lt_of_cell? W ⟨ab,ao+0,none⟩ (by have:=hcell 0 (by omega);rwa [Addr.add_lit] at this);have hq:RT W (fun _=>False) (.sl (List.map rY ((zs.take len).map fun n=>UInt8.ofNat n.toNat))) (.slice (some ⟨ab,ao,none⟩) (List.map rY ((zs.take len).map fun n=>UInt8.ofNat n.toNat)).length cap):=by
   refine .sl _ ab ao 1 cap (fun i j=> .int .u8 (zs.getD i 0)) hb (fun h=>h) (by rw [hlen];exact hl) ?_ ?_ ?_
   ·intro row hr;obtain⟨x,_,rfl⟩:=V3.1 hr;rfl
   ·intro i j hi hj
    have:=hcell i (by rw [hlen] at hi;omega);rw [Addr.add_lit] at this;have e1:ao+i*1+j=ao+i:=by omega
    rw [e1];exact this
   intro i j row x hr hx;have hi:i<len:=by
    have:=(cX.1 hr).1;rw [hlen] at this;exact this
   have hb:=range_u8 hwz i;have e:zs[i]?.getD 0=zs[i]'(by omega):=by simp [List.getElem?_eq_getElem (show i<zs.length by omega)]
   rw [tG,tG,V5] at hr;rw [if_pos hi,cP (show i<zs.length by omega)] at hr;simp at hr;subst hr
   match j with
   |0=>
    simp at hx;subst hx;rw [e] at hb;have e2:zs.getD i 0=max (zs[i]'(by omega)) 0%256:=by
     rw [List.getD,e];omega
    rw [e2];exact .int _ _
   |j+1=>simp at hx
  rw [hlen] at hq;exact .t _ _ hq
 refine⟨2,?_⟩;simp only [Value.cells];refine shut_ints 0 ht he hc (Nat.zero_le _) hl hm ?_ (fun i hi=>aMp hW' (hcell i hi)) hwz;by_cases hz0:zs.length=0
 ·have:cap=0:=by omega
  split<;>omega
 have hb:a.block<W.heap.size:=by
  have:=World.block_lt_of_cell? W (a.add 0) (hcell 0 (by omega));simpa [Addr.add] using this
 simp [hb,hz]
theorem aNC{W:World}{X:Nat→Prop}{u:Value}(h:RV iV W X (vB true) u):u= .bool true:=iY h
theorem aQ9{f:FuncId}{fn:Func}{s:ChangeSpec}{t e tb:TypeId}{G:Glob}{W:World}{base:Nat}{args:Array Value}{ds gs:List (DataW H)}{before:List MemPlace}(ht:P.underlying t=some (.slice e))(he:P.underlying e=some (.int .u8))(hc:P.cellsOf e=1)
  (hp:fn.params= #[t]) (hr:fn.resultTypes= #[tb]) (hb:P.underlying tb=some .bool) (hv:s.vars=[]) (hs: ∀d,s.fn H [d]={results:=[.lit (.bool true)],args:=[d]})
  (hval: ∀(j:Nat) t v,fn.params[j]? =some t→args[j]? =some v→Value.okWide P W .any base t v) (hW:DataW.Whole enc P fn.params.toList s.vars false W args.toList ds gs before) (hG:G.ok W)
  (law: ∀l:List UInt8,PCC P G f [vM rY l] (vB true)):Calls P f args W fun e W'=> ∃v,e= .returned v∧s.post enc P fn false true false false W args v W':=by
 have hW':=hW;obtain⟨p,q,hA0,hV,rfl,hfz,hnd⟩:=hW;rw [hv] at hV;obtain⟨rfl,rfl⟩:=trodVars_none hV;rw [hp] at hval hA0;obtain⟨v0,d0,rfl,rfl,h0⟩:=trodAll_one hA0;obtain⟨l,hr0,hk0⟩:=aJn (d:=d0) ht he hc (hval 0 t v0 rfl rfl) h0 fun x hx=>hW'.lt x (by simpa using hx);refine((law l).2 W (fun _=>False) [v0] hG (fun _ h=>h.elim) ⟨hr0,trivial⟩).mono ?_;rintro e W' ⟨u,rfl,hE,hu⟩;obtain rfl:=aNC hu;refine⟨_,rfl,[d0],[],p++[],[],p,[],hW',?_,?_,?_,aLL hE _,fun h=>by cases h⟩
 ·rw [hr,show([d0]++[]:List (DataW H))=[d0] from rfl,hs];exact trodAll_mk1 (shut_bool hb _)
 ·rw [hp,show([d0]++[]:List (DataW H))=[d0] from rfl,hs];exact trodAll_mk1 (hk0 W' hE)
 rw [hv,show([d0]++[]:List (DataW H))=[d0] from rfl,hs];exact rfl
theorem aCQ{w w':World}(h:Go.RowKit.Below w.heap.size w w'):Ext (fun _=>False) w w':=⟨h.os,h.tape,h.output,h.size,fun b hb _=>h.block b hb⟩
theorem aJI{n:Nat}{W w:World}(h:(Glob.mk n W).ok w){b o:Nat}(hb:b<n):w.cell? ⟨b,o,none⟩=W.cell? ⟨b,o,none⟩:=oD (h.2 b hb)
theorem aPi{W:World}{X:Nat→Prop}{a b:V}{us:List Value}(h:RVs iV W X [a,b] us): ∃u v,us=[u,v]∧RV iV W X a u∧RV iV W X b v:=by
 match us,h with
 | [u,v],h=>exact⟨u,v,rfl,h.1,h.2.1⟩
 | [],h=>exact h.elim
 | [_],h=>exact h.2.elim
 |_::_::_::_,h=>exact h.2.2.elim
theorem yM{H:Type}{enc:TypeId×Value→H}{C:Checked}{os:Os}{f:FuncId}{fn:Func}{s:OpenSpec}{conds:List PathCond}{apart:Bool}{laid:List (String×DataW Unit)}(modest:Bool)(w0:World)(args:Array Value)(hos:w0.os=os)
  (hsh:(w0.forCall (fun _ _=>0) ⟨#[],args,[]⟩).Shaped C.prog)
  (hok:Input.okWideB C.prog (w0.forCall (fun _ _=>0) ⟨#[],args,[]⟩) f ⟨#[],args,[]⟩=true)
  (hrow:s.preRow enc C.prog fn conds apart laid (w0.forCall (fun _ _=>0) ⟨#[],args,[]⟩).memory args):
  ∃(w:World) (tape:Tape) (i:Input),w.os=os∧(w.forCall tape i).Shaped C.prog∧i.vars=[]∧Input.okWide C.prog (w.forCall tape i) .any w.heap.size f i∧
   s.preRow enc C.prog fn conds apart laid (w.forCall tape i).memory i.args∧({modest:=modest}:Assume).holds C.prog (lone (Frame.enter C.prog f i.args .normal) [] (w.forCall tape i)):=
 ⟨w0,fun _ _=>0,⟨#[],args,[]⟩,hos,hsh,(Input.okWide_of_okWideB (base:=0) hok).1,(Input.okWide_of_okWideB hok).2,hrow,by
  simp only [Assume.holds];exact⟨by simp,by simp,fun _=>Modest.zero,by simp,by simp⟩⟩
end
end Go.Lift
