/- The program's function returns what the reference's returns: laws.FnExactProgramMisses returns true for every program and number, and leaves the program as it was. Conditions: none beyond the row's own (no ring in the input). -/
import Derived.Test.YtaedfpoebdhocaaGreatQWalks3
import Derived.Test.YtaedfpoebdhocaaGreatQSeatP
import Derived.Test.YtaedfpoebdhocaaGreatQOpnB
import Derived.Test.YtaedfpoebdhocaaGreatRows
import Derived.Test.YtaedfpoebdhocaaGreatQFactsQ
set_option maxRecDepth 100000
namespace Go.Proofs.YtaedfpoebdhocaaGreat.fnExactProgramMisses
open Go Go.Lift Go.ChangeShapes Go.WideShapes Go.ChangeAt Go.RowKit
theorem own:ownKnob Tryz.prog.godebug=none:=by kernel_rfl
def types:PT Tryz.prog where
 I:=3
 S:=9
 sI:=40
 A:=176
 sA:=170
 C:=175
 E:=179
 sE:=177
 St:=181
 sSt:=87
 L:=172
 sL:=86
 Pt:=89
 sPt:=23
 R:=84
 sR:=22
 Pr:=25
 cI:=by kernel_rfl
 cS:=by kernel_rfl
 csI:=by kernel_rfl
 csA:=by kernel_rfl
 csE:=by kernel_rfl
 csSt:=by kernel_rfl
 csL:=by kernel_rfl
 csPt:=by kernel_rfl
 csR:=by kernel_rfl
 uI:=Tryz.underlying3
 uS:=Tryz.underlying9
 usI:=Tryz.underlying40
 usA:=Tryz.underlying170
 usE:=Tryz.underlying177
 usSt:=Tryz.underlying87
 usL:=Tryz.underlying86
 usPt:=Tryz.underlying23
 usR:=Tryz.underlying22
 fA:=⟨by kernel_rfl,_,Tryz.underlying176,rfl⟩
 fC:=⟨by kernel_rfl,_,Tryz.underlying175,rfl⟩
 fE:=⟨by kernel_rfl,_,Tryz.underlying179,rfl⟩
 fSt:=⟨by kernel_rfl,_,Tryz.underlying181,rfl⟩
 fL:=⟨by kernel_rfl,_,Tryz.underlying172,rfl⟩
 fPt:=⟨by kernel_rfl,_,Tryz.underlying89,rfl⟩
 fR:=⟨by kernel_rfl,_,Tryz.underlying84,rfl⟩
 fPr:=⟨by kernel_rfl,_,Tryz.underlying25,rfl⟩
theorem contract(H:Type)(enc:TypeId×Value→H)(W:World)(base:Nat)(args:Array Value)(ds gs:List (DataW H))(before:List MemPlace)
  (hval: ∀(j:Nat) t v,Tryz.f3.params[j]? =some t→args[j]? =some v→Value.okWide Tryz.prog W .any base t v)
  (hW:DataW.Whole enc Tryz.prog Tryz.f3.params.toList Rows.fnExactProgramMissesSpec.vars false W args.toList ds gs before) (hsh:W.ShapedOpen Tryz.prog):
  Calls Tryz.prog 3 args W fun e W'=> ∃v,e= .returned v∧Rows.fnExactProgramMissesSpec.post enc Tryz.prog Tryz.f3 false true false false W args v W':=by obtain⟨G,hG⟩:=aH0 hsh;exact aGD types Tryz.params3 rfl Tryz.underlying4 rfl (fun _ _=>rfl) k1 (by kernel_rfl) (of_decide_eq_true (by kernel_rfl)) (by kernel_rfl) (of_decide_eq_true (by kernel_rfl)) hval hW hG fun m x k hx=>kT G (30000000+m) x k (u4 hx k)
abbrev wit:Array Value:= #[.agg #[.slice none 0 0,.slice none 0 0],.int .i64 0]
noncomputable abbrev start(os:Os):World:=(World.laidAll Tryz.prog os Rows.fnExactProgramMissesRow.laid).forCall (fun _ _=>0) ⟨#[],wit,[]⟩
theorem reads(os:Os){H:Type}(enc:TypeId×Value→H): ∃places,DataW.whole enc Tryz.prog (start os).memory Tryz.f3.params.toList Rows.fnExactProgramMissesSpec.vars false wit.toList 8=some ([.agg [.nil,.nil],.lit (.int .i64 0)],[],places):=
 ⟨[],by kernel_rfl⟩
theorem lifted(os:Os)(started:os.Started)(H:Type)(enc:TypeId×Value→H)(F:Stop.Interp):
  ReturnsInHanded {} Tryz.checked os 3 .any ((OpenSpec.ofChange Rows.fnExactProgramMissesSpec).preRow enc Tryz.prog Tryz.f3 Rows.fnExactProgramMissesRow.domain false Rows.fnExactProgramMissesRow.laid) (((OpenSpec.ofChange Rows.fnExactProgramMissesSpec).at F).post enc Tryz.prog Tryz.f3 false true false false):=by
 obtain⟨places,hx⟩:=reads os enc;refine returnsInHanded_of_row (C:=Tryz.checked) (s:=OpenSpec.ofChange Rows.fnExactProgramMissesSpec) own started (by kernel_rfl) Tryz.func3
  (oP (enc:=enc) (C:=Tryz.checked) false (World.laidAll Tryz.prog os Rows.fnExactProgramMissesRow.laid) wit (World.laidAll_os _ _ _) (World.shaped_of_ZipB (by kernel_rfl) (by kernel_rfl)) (by kernel_rfl)
   (OpenSpec.preRow_of_cond 3 hx (by kernel_rfl) (fun k hk=>by cases hk) (by kernel_rfl) (laidMet_laidAll _ (by kernel_rfl) (by kernel_rfl)))) ?_
 intro W base args ds gs before hval hW _ _ _ hL hsh _;exact contract H enc W base args ds gs before hval hW hsh
theorem said:Rows.FnExactProgramMissesSaid:=
 OpenClaim.holds_of_cond 3 Tryz.f3 rfl rfl rfl rfl rfl rfl rfl ⟨rfl,rfl,rfl,rfl,rfl⟩ rfl rfl rfl rfl rfl (by kernel_rfl) Tryz.func3 closed
  (of_decide_eq_true (by kernel_rfl)) (by unfold Func.isWrapper;first|(rw [if_pos (by decide+kernel)];kernel_rfl)|(rw [if_neg (by decide+kernel)];exact⟨rfl,rfl⟩))
  fun os started H enc _ F=>by rw [OpenClaim.pre_eq_preRow];exact lifted os started H enc F
end Go.Proofs.YtaedfpoebdhocaaGreat.fnExactProgramMisses
