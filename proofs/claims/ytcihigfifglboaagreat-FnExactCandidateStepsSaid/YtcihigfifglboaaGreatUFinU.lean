/- The program's function returns what the reference's returns: laws.FnExactCandidateSteps returns true for all arguments, and leaves them as they were. Conditions: none beyond the row's own (no ring in the input). -/
import Derived.Test.YtcihigfifglboaaGreatUWalks5
import Derived.Test.YtcihigfifglboaaGreatUSeatP
import Derived.Test.YtcihigfifglboaaGreatUOpnC
import Derived.Test.YtcihigfifglboaaGreatUExC
import Derived.Test.YtcihigfifglboaaGreatRows
import Derived.Test.YtcihigfifglboaaGreatUFactsU
set_option maxRecDepth 100000
namespace Go.Proofs.YtcihigfifglboaaGreat.fnExactCandidateSteps
open Go Go.Lift Go.ChangeShapes Go.WideShapes Go.ChangeAt Go.RowKit
theorem own:ownKnob Tryz.prog.godebug=none:=by kernel_rfl
def types:PT Tryz.prog where
 I:=3
 S:=9
 sI:=39
 A:=185
 sA:=179
 C:=184
 E:=188
 sE:=186
 St:=190
 sSt:=102
 L:=181
 sL:=101
 Pt:=104
 sPt:=23
 R:=99
 sR:=22
 Pr:=25
 cI:=by kernel_rfl
 cS:=by kernel_rfl
 csI:=by kernel_rfl
 csA:=by kernel_rfl
 csE:=by kernel_rfl
 csSt:=by kernel_rfl
 csL:=by kernel_rfl
 csPt:=by kernel_rfl
 csR:=by kernel_rfl
 uI:=Tryz.underlying3
 uS:=Tryz.underlying9
 usI:=Tryz.underlying39
 usA:=Tryz.underlying179
 usE:=Tryz.underlying186
 usSt:=Tryz.underlying102
 usL:=Tryz.underlying101
 usPt:=Tryz.underlying23
 usR:=Tryz.underlying22
 fA:=⟨by kernel_rfl,_,Tryz.underlying185,rfl⟩
 fC:=⟨by kernel_rfl,_,Tryz.underlying184,rfl⟩
 fE:=⟨by kernel_rfl,_,Tryz.underlying188,rfl⟩
 fSt:=⟨by kernel_rfl,_,Tryz.underlying190,rfl⟩
 fL:=⟨by kernel_rfl,_,Tryz.underlying181,rfl⟩
 fPt:=⟨by kernel_rfl,_,Tryz.underlying104,rfl⟩
 fR:=⟨by kernel_rfl,_,Tryz.underlying99,rfl⟩
 fPr:=⟨by kernel_rfl,_,Tryz.underlying25,rfl⟩
theorem contract(H:Type)(enc:TypeId×Value→H)(W:World)(base:Nat)(args:Array Value)(ds gs:List (DataW H))(before:List MemPlace)
  (hval: ∀(j:Nat) t v,Tryz.f3.params[j]? =some t→args[j]? =some v→Value.okWide Tryz.prog W .any base t v)
  (hW:DataW.Whole enc Tryz.prog Tryz.f3.params.toList Rows.fnExactCandidateStepsSpec.vars false W args.toList ds gs before) (hsh:W.ShapedOpen Tryz.prog):
  Calls Tryz.prog 3 args W fun e W'=> ∃v,e= .returned v∧Rows.fnExactCandidateStepsSpec.post enc Tryz.prog Tryz.f3 false true false false W args v W':=by obtain⟨G,hG⟩:=aIf hsh;exact aHO [types.Pr] Tryz.params3 rfl Tryz.underlying4 rfl (fun ds h=>by match ds,h with| [_],_=>rfl) k1 (aGR (by kernel_rfl)) hval hW hG (aFf (aFe types) fun _ h=>by obtain⟨m,p,hp,rfl⟩:=h;exact aGA (kT G (mA hp)))
abbrev wit:Array Value:= #[.agg #[.slice none 0 0,.slice none 0 0]]
noncomputable abbrev start(os:Os):World:=(World.laidAll Tryz.prog os Rows.fnExactCandidateStepsRow.laid).forCall (fun _ _=>0) ⟨#[],wit,[]⟩
theorem reads(os:Os){H:Type}(enc:TypeId×Value→H): ∃places,DataW.whole enc Tryz.prog (start os).memory Tryz.f3.params.toList Rows.fnExactCandidateStepsSpec.vars false wit.toList 8=some ([.agg [.nil,.nil]],[],places):=
 ⟨[],by kernel_rfl⟩
theorem lifted(os:Os)(started:os.Started)(H:Type)(enc:TypeId×Value→H)(F:Stop.Interp):
  ReturnsInHanded {} Tryz.checked os 3 .any ((OpenSpec.ofChange Rows.fnExactCandidateStepsSpec).preRow enc Tryz.prog Tryz.f3 Rows.fnExactCandidateStepsRow.domain false Rows.fnExactCandidateStepsRow.laid) (((OpenSpec.ofChange Rows.fnExactCandidateStepsSpec).at F).post enc Tryz.prog Tryz.f3 false true false false):=by
 obtain⟨places,hx⟩:=reads os enc;refine returnsInHanded_of_row (C:=Tryz.checked) (s:=OpenSpec.ofChange Rows.fnExactCandidateStepsSpec) own started (by kernel_rfl) Tryz.func3
  (pT (enc:=enc) (C:=Tryz.checked) false (World.laidAll Tryz.prog os Rows.fnExactCandidateStepsRow.laid) wit (World.laidAll_os _ _ _) (World.shaped_of_ZipB (by kernel_rfl) (by kernel_rfl)) (by kernel_rfl)
   (OpenSpec.preRow_of_cond 3 hx (by kernel_rfl) (fun k hk=>by cases hk) (by kernel_rfl) (laidMet_laidAll _ (by kernel_rfl) (by kernel_rfl)))) ?_
 intro W base args ds gs before hval hW _ _ _ hL hsh _;exact contract H enc W base args ds gs before hval hW hsh
theorem said:Rows.FnExactCandidateStepsSaid:=
 OpenClaim.holds_of_cond 3 Tryz.f3 rfl rfl rfl rfl rfl rfl rfl ⟨rfl,rfl,rfl,rfl,rfl⟩ rfl rfl rfl rfl rfl (by kernel_rfl) Tryz.func3 closed
  (of_decide_eq_true (by kernel_rfl)) (by unfold Func.isWrapper;first|(rw [if_pos (by decide+kernel)];kernel_rfl)|(rw [if_neg (by decide+kernel)];exact⟨rfl,rfl⟩))
  fun os started H enc _ F=>by rw [OpenClaim.pre_eq_preRow];exact lifted os started H enc F
end Go.Proofs.YtcihigfifglboaaGreat.fnExactCandidateSteps
