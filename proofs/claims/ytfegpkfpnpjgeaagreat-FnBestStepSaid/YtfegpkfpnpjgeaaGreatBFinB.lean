/- Best steps are best: laws.FnBestStep returns true for every slice of bytes and leaves it as it was. Conditions: none. -/
import Derived.Test.YtfegpkfpnpjgeaaGreatBWalks3
import Derived.Test.YtfegpkfpnpjgeaaGreatBSeatP
import Derived.Test.YtfegpkfpnpjgeaaGreatBStepE
import Derived.Test.YtfegpkfpnpjgeaaGreatBFactsB
set_option maxRecDepth 100000
namespace Go.Proofs.YtfegpkfpnpjgeaaGreat.fnBestStep
open Go Go.Lift Go.ChangeShapes Go.WideShapes Go.ChangeAt Go.RowKit
theorem own:ownKnob Tryz.prog.godebug=none:=by kernel_rfl
theorem adg:Tryz.prog.cellsOf 5=1:=by kernel_rfl
theorem contract(H:Type)(enc:TypeId×Value→H)(W:World)(base:Nat)(args:Array Value)(ds gs:List (DataW H))(before:List MemPlace)
  (sH: ∀(j:Nat) t v,Tryz.f3.params[j]? =some t→args[j]? =some v→Value.okWide Tryz.prog W .any base t v)
  (lN:DataW.Whole enc Tryz.prog Tryz.f3.params.toList Rows.fnBestStepSpec.vars false W args.toList ds gs before) (gq:W.ShapedOpen Tryz.prog):
  Calls Tryz.prog 3 args W fun e gN=> ∃v,e= .returned v∧Rows.fnBestStepSpec.post enc Tryz.prog Tryz.f3 false true false false W args v gN:=by obtain⟨G,kY⟩:=acX gq;exact aco Tryz.underlying22 Tryz.underlying5 adg Tryz.params3 rfl Tryz.underlying4 rfl (fun _=>rfl) sH lN kY fun l=>Tu G N l (U' l)
abbrev JM:Array Value:= #[.slice none 0 0]
noncomputable abbrev start(os:Os):World:=(World.laidAll Tryz.prog os Rows.fnBestStepRow.laid).forCall (fun _ _=>0) ⟨#[],JM,[]⟩
theorem reads(os:Os){H:Type}(enc:TypeId×Value→H): ∃places,DataW.whole enc Tryz.prog (start os).memory Tryz.f3.params.toList Rows.fnBestStepSpec.vars false JM.toList 8=some ([.nil],[],places):=
 ⟨[],by kernel_rfl⟩
theorem lifted(os:Os)(started:os.Started)(H:Type)(enc:TypeId×Value→H)(F:Stop.Interp):
  ReturnsInHanded {} Tryz.checked os 3 .any ((OpenSpec.ofChange Rows.fnBestStepSpec).preRow enc Tryz.prog Tryz.f3 Rows.fnBestStepRow.domain false Rows.fnBestStepRow.laid) (((OpenSpec.ofChange Rows.fnBestStepSpec).at F).post enc Tryz.prog Tryz.f3 false true false false):=by
 obtain⟨places,hx⟩:=reads os enc;refine returnsInHanded_of_row (C:=Tryz.checked) (s:=OpenSpec.ofChange Rows.fnBestStepSpec) own started (by kernel_rfl) Tryz.func3
  (Sm (enc:=enc) (C:=Tryz.checked) false (World.laidAll Tryz.prog os Rows.fnBestStepRow.laid) JM (World.laidAll_os _ _ _) (World.shaped_of_ZipB (by kernel_rfl) (by kernel_rfl)) (by kernel_rfl)
   (OpenSpec.preRow_of_cond 3 hx (by kernel_rfl) (fun k hk=>by cases hk) (by kernel_rfl) (laidMet_laidAll _ (by kernel_rfl) (by kernel_rfl)))) ?_
 intro W base args ds gs before sH lN _ _ _ su gq _;exact contract H enc W base args ds gs before sH lN gq
theorem said:Rows.FnBestStepSaid:=
 OpenClaim.holds_of_cond 3 Tryz.f3 rfl rfl rfl rfl rfl rfl rfl ⟨rfl,rfl,rfl,rfl,rfl⟩ rfl rfl rfl rfl rfl (by kernel_rfl) Tryz.func3 closed
  (of_decide_eq_true (by kernel_rfl)) (by unfold Func.isWrapper;first|(rw [if_pos (by decide+kernel)];kernel_rfl)|(rw [if_neg (by decide+kernel)];exact⟨rfl,rfl⟩))
  fun os started H enc _ F=>by rw [OpenClaim.pre_eq_preRow];exact lifted os started H enc F
end Go.Proofs.YtfegpkfpnpjgeaaGreat.fnBestStep
