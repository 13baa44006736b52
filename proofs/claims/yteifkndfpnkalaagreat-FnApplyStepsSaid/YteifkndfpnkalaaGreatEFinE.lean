/- Sequences are correct: laws.FnApplySteps returns true for every two slices of bytes and leaves them as they were. Conditions: none. -/
import Derived.Test.YteifkndfpnkalaaGreatEWalks3
import Derived.Test.YteifkndfpnkalaaGreatESeatP
import Derived.Test.YteifkndfpnkalaaGreatEStepR
import Derived.Test.YteifkndfpnkalaaGreatEFactsE
set_option maxRecDepth 100000
namespace Go.Proofs.YteifkndfpnkalaaGreat.fnApplySteps
open Go Go.Lift Go.ChangeShapes Go.WideShapes Go.ChangeAt Go.RowKit
theorem own:ownKnob Tryz.prog.godebug=none:=by kernel_rfl
theorem agn:Tryz.prog.cellsOf 5=1:=by kernel_rfl
theorem contract(H:Type)(enc:TypeId×Value→H)(W:World)(base:Nat)(args:Array Value)(ds gs:List (DataW H))(before:List MemPlace)
  (yY: ∀(j:Nat) t v,Tryz.f4.params[j]? =some t→args[j]? =some v→Value.okWide Tryz.prog W .any base t v)
  (mH:DataW.Whole enc Tryz.prog Tryz.f4.params.toList Rows.fnApplyStepsSpec.vars false W args.toList ds gs before) (iw:W.ShapedOpen Tryz.prog):
  Calls Tryz.prog 4 args W fun e hD=> ∃v,e= .returned v∧Rows.fnApplyStepsSpec.post enc Tryz.prog Tryz.f4 false true false false W args v hD:=by obtain⟨G,kV⟩:=UO iw;exact U3 Tryz.underlying22 Tryz.underlying5 agn Tryz.params4 rfl Tryz.underlying4 rfl (fun _ _=>rfl) yY mH kV fun l l'=>VL G N l l' (W' l l')
abbrev KZ:Array Value:= #[.slice none 0 0,.slice none 0 0]
noncomputable abbrev start(os:Os):World:=(World.laidAll Tryz.prog os Rows.fnApplyStepsRow.laid).forCall (fun _ _=>0) ⟨#[],KZ,[]⟩
theorem reads(os:Os){H:Type}(enc:TypeId×Value→H): ∃places,DataW.whole enc Tryz.prog (start os).memory Tryz.f4.params.toList Rows.fnApplyStepsSpec.vars false KZ.toList 8=some ([.nil,.nil],[],places):=
 ⟨[],by kernel_rfl⟩
theorem lifted(os:Os)(started:os.Started)(H:Type)(enc:TypeId×Value→H)(F:Stop.Interp):
  ReturnsInHanded {} Tryz.checked os 4 .any ((OpenSpec.ofChange Rows.fnApplyStepsSpec).preRow enc Tryz.prog Tryz.f4 Rows.fnApplyStepsRow.domain false Rows.fnApplyStepsRow.laid) (((OpenSpec.ofChange Rows.fnApplyStepsSpec).at F).post enc Tryz.prog Tryz.f4 false true false false):=by
 obtain⟨places,hx⟩:=reads os enc;refine returnsInHanded_of_row (C:=Tryz.checked) (s:=OpenSpec.ofChange Rows.fnApplyStepsSpec) own started (by kernel_rfl) Tryz.func4
  (UE (enc:=enc) (C:=Tryz.checked) false (World.laidAll Tryz.prog os Rows.fnApplyStepsRow.laid) KZ (World.laidAll_os _ _ _) (World.shaped_of_ZipB (by kernel_rfl) (by kernel_rfl)) (by kernel_rfl)
   (OpenSpec.preRow_of_cond 4 hx (by kernel_rfl) (fun k hk=>by cases hk) (by kernel_rfl) (laidMet_laidAll _ (by kernel_rfl) (by kernel_rfl)))) ?_
 intro W base args ds gs before yY mH _ _ _ rJ iw _;exact contract H enc W base args ds gs before yY mH iw
theorem said:Rows.FnApplyStepsSaid:=
 OpenClaim.holds_of_cond 4 Tryz.f4 rfl rfl rfl rfl rfl rfl rfl ⟨rfl,rfl,rfl,rfl,rfl⟩ rfl rfl rfl rfl rfl (by kernel_rfl) Tryz.func4 closed
  (of_decide_eq_true (by kernel_rfl)) (by unfold Func.isWrapper;first|(rw [if_pos (by decide+kernel)];kernel_rfl)|(rw [if_neg (by decide+kernel)];exact⟨rfl,rfl⟩))
  fun os started H enc _ F=>by rw [OpenClaim.pre_eq_preRow];exact lifted os started H enc F
end Go.Proofs.YteifkndfpnkalaaGreat.fnApplySteps
