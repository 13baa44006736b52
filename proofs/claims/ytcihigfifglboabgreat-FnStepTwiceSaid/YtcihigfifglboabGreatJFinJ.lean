/- Some steps are involutions: laws.FnStepTwice returns true for every slice of bytes and leaves it as it was. Conditions: none. -/
import Derived.Test.YtcihigfifglboabGreatJWalks3
import Derived.Test.YtcihigfifglboabGreatJSeatP
import Derived.Test.YtcihigfifglboabGreatJDist1
import Derived.Test.YtcihigfifglboabGreatJFactsJ
set_option maxRecDepth 100000
namespace Go.Proofs.YtcihigfifglboabGreat.fnStepTwice
open Go Go.Lift Go.ChangeShapes Go.WideShapes Go.ChangeAt Go.RowKit
theorem own:ownKnob Tryz.prog.godebug=none:=by kernel_rfl
theorem ab':Tryz.prog.cellsOf 5=1:=by kernel_rfl
theorem contract(H:Type)(enc:TypeId×Value→H)(W:World)(base:Nat)(args:Array Value)(ds gs:List (DataW H))(before:List MemPlace)
  (sr: ∀(j:Nat) t v,Tryz.f6.params[j]? =some t→args[j]? =some v→Value.okWide Tryz.prog W .any base t v)
  (lQ:DataW.Whole enc Tryz.prog Tryz.f6.params.toList Rows.fnStepTwiceSpec.vars false W args.toList ds gs before) (ik:W.ShapedOpen Tryz.prog):
  Calls Tryz.prog 6 args W fun e gV=> ∃v,e= .returned v∧Rows.fnStepTwiceSpec.post enc Tryz.prog Tryz.f6 false true false false W args v gV:=by obtain⟨G,k5⟩:=abP ik;exact abZ Tryz.underlying22 Tryz.underlying5 ab' Tryz.params6 rfl Tryz.underlying4 rfl (fun _=>rfl) sr lQ k5 fun l=>R' G N l (Tr l)
abbrev Je:Array Value:= #[.slice none 0 0]
noncomputable abbrev start(os:Os):World:=(World.laidAll Tryz.prog os Rows.fnStepTwiceRow.laid).forCall (fun _ _=>0) ⟨#[],Je,[]⟩
theorem reads(os:Os){H:Type}(enc:TypeId×Value→H): ∃places,DataW.whole enc Tryz.prog (start os).memory Tryz.f6.params.toList Rows.fnStepTwiceSpec.vars false Je.toList 8=some ([.nil],[],places):=
 ⟨[],by kernel_rfl⟩
theorem lifted(os:Os)(started:os.Started)(H:Type)(enc:TypeId×Value→H)(F:Stop.Interp):
  ReturnsInHanded {} Tryz.checked os 6 .any ((OpenSpec.ofChange Rows.fnStepTwiceSpec).preRow enc Tryz.prog Tryz.f6 Rows.fnStepTwiceRow.domain false Rows.fnStepTwiceRow.laid) (((OpenSpec.ofChange Rows.fnStepTwiceSpec).at F).post enc Tryz.prog Tryz.f6 false true false false):=by
 obtain⟨places,hx⟩:=reads os enc;refine returnsInHanded_of_row (C:=Tryz.checked) (s:=OpenSpec.ofChange Rows.fnStepTwiceSpec) own started (by kernel_rfl) Tryz.func6
  (RC (enc:=enc) (C:=Tryz.checked) false (World.laidAll Tryz.prog os Rows.fnStepTwiceRow.laid) Je (World.laidAll_os _ _ _) (World.shaped_of_ZipB (by kernel_rfl) (by kernel_rfl)) (by kernel_rfl)
   (OpenSpec.preRow_of_cond 6 hx (by kernel_rfl) (fun k hk=>by cases hk) (by kernel_rfl) (laidMet_laidAll _ (by kernel_rfl) (by kernel_rfl)))) ?_
 intro W base args ds gs before sr lQ _ _ _ sg ik _;exact contract H enc W base args ds gs before sr lQ ik
theorem said:Rows.FnStepTwiceSaid:=
 OpenClaim.holds_of_cond 6 Tryz.f6 rfl rfl rfl rfl rfl rfl rfl ⟨rfl,rfl,rfl,rfl,rfl⟩ rfl rfl rfl rfl rfl (by kernel_rfl) Tryz.func6 closed
  (of_decide_eq_true (by kernel_rfl)) (by unfold Func.isWrapper;first|(rw [if_pos (by decide+kernel)];kernel_rfl)|(rw [if_neg (by decide+kernel)];exact⟨rfl,rfl⟩))
  fun os started H enc _ F=>by rw [OpenClaim.pre_eq_preRow];exact lifted os started H enc F
end Go.Proofs.YtcihigfifglboabGreat.fnStepTwice
