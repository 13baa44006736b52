/- Empty sequences are identities: laws.FnStepsEmpty returns true for every slice of bytes and leaves it as it was. Conditions: none. -/
import Derived.Test.YtcihigfifglboabGreatHWalks3
import Derived.Test.YtcihigfifglboabGreatHSeatP
import Derived.Test.YtcihigfifglboabGreatHDist1
import Derived.Test.YtcihigfifglboabGreatHFactsH
set_option maxRecDepth 100000
namespace Go.Proofs.YtcihigfifglboabGreat.fnStepsEmpty
open Go Go.Lift Go.ChangeShapes Go.WideShapes Go.ChangeAt Go.RowKit
theorem own:ownKnob Tryz.prog.godebug=none:=by kernel_rfl
theorem abT:Tryz.prog.cellsOf 5=1:=by kernel_rfl
theorem contract(H:Type)(enc:TypeId×Value→H)(W:World)(base:Nat)(args:Array Value)(ds gs:List (DataW H))(before:List MemPlace)
  (so: ∀(j:Nat) t v,Tryz.f4.params[j]? =some t→args[j]? =some v→Value.okWide Tryz.prog W .any base t v)
  (lG:DataW.Whole enc Tryz.prog Tryz.f4.params.toList Rows.fnStepsEmptySpec.vars false W args.toList ds gs before) (h8:W.ShapedOpen Tryz.prog):
  Calls Tryz.prog 4 args W fun e gN=> ∃v,e= .returned v∧Rows.fnStepsEmptySpec.post enc Tryz.prog Tryz.f4 false true false false W args v gN:=by obtain⟨G,kV⟩:=abG h8;exact abh Tryz.underlying22 Tryz.underlying5 abT Tryz.params4 rfl Tryz.underlying4 rfl (fun _=>rfl) so lG kV fun l=>RO G N l (Sq l)
abbrev I9:Array Value:= #[.slice none 0 0]
noncomputable abbrev start(os:Os):World:=(World.laidAll Tryz.prog os Rows.fnStepsEmptyRow.laid).forCall (fun _ _=>0) ⟨#[],I9,[]⟩
theorem reads(os:Os){H:Type}(enc:TypeId×Value→H): ∃places,DataW.whole enc Tryz.prog (start os).memory Tryz.f4.params.toList Rows.fnStepsEmptySpec.vars false I9.toList 8=some ([.nil],[],places):=
 ⟨[],by kernel_rfl⟩
theorem lifted(os:Os)(started:os.Started)(H:Type)(enc:TypeId×Value→H)(F:Stop.Interp):
  ReturnsInHanded {} Tryz.checked os 4 .any ((OpenSpec.ofChange Rows.fnStepsEmptySpec).preRow enc Tryz.prog Tryz.f4 Rows.fnStepsEmptyRow.domain false Rows.fnStepsEmptyRow.laid) (((OpenSpec.ofChange Rows.fnStepsEmptySpec).at F).post enc Tryz.prog Tryz.f4 false true false false):=by
 obtain⟨places,hx⟩:=reads os enc;refine returnsInHanded_of_row (C:=Tryz.checked) (s:=OpenSpec.ofChange Rows.fnStepsEmptySpec) own started (by kernel_rfl) Tryz.func4
  (Ru (enc:=enc) (C:=Tryz.checked) false (World.laidAll Tryz.prog os Rows.fnStepsEmptyRow.laid) I9 (World.laidAll_os _ _ _) (World.shaped_of_ZipB (by kernel_rfl) (by kernel_rfl)) (by kernel_rfl)
   (OpenSpec.preRow_of_cond 4 hx (by kernel_rfl) (fun k hk=>by cases hk) (by kernel_rfl) (laidMet_laidAll _ (by kernel_rfl) (by kernel_rfl)))) ?_
 intro W base args ds gs before so lG _ _ _ sd h8 _;exact contract H enc W base args ds gs before so lG h8
theorem said:Rows.FnStepsEmptySaid:=
 OpenClaim.holds_of_cond 4 Tryz.f4 rfl rfl rfl rfl rfl rfl rfl ⟨rfl,rfl,rfl,rfl,rfl⟩ rfl rfl rfl rfl rfl (by kernel_rfl) Tryz.func4 closed
  (of_decide_eq_true (by kernel_rfl)) (by unfold Func.isWrapper;first|(rw [if_pos (by decide+kernel)];kernel_rfl)|(rw [if_neg (by decide+kernel)];exact⟨rfl,rfl⟩))
  fun os started H enc _ F=>by rw [OpenClaim.pre_eq_preRow];exact lifted os started H enc F
end Go.Proofs.YtcihigfifglboabGreat.fnStepsEmpty
