/- Optimization is sound: laws.FnOptimizeProgram returns true for every two slices of bytes and leaves them as they were. Conditions: none. -/
import Derived.Test.YteifkndfpnkalacGreatQWalks2
import Derived.Test.YteifkndfpnkalacGreatQSeatP
import Derived.Test.YteifkndfpnkalacGreatQStepR
import Derived.Test.YteifkndfpnkalacGreatQFactsQ
set_option maxRecDepth 100000
namespace Go.Proofs.YteifkndfpnkalacGreat.fnOptimizeProgram
open Go Go.Lift Go.ChangeShapes Go.WideShapes Go.ChangeAt Go.RowKit
theorem own:ownKnob Tryz.prog.godebug=none:=by kernel_rfl
theorem ad9:Tryz.prog.cellsOf 5=1:=by kernel_rfl
theorem contract(H:Type)(enc:TypeId×Value→H)(W:World)(base:Nat)(args:Array Value)(ds gs:List (DataW H))(before:List MemPlace)
  (xy: ∀(j:Nat) t v,Tryz.f3.params[j]? =some t→args[j]? =some v→Value.okWide Tryz.prog W .any base t v)
  (lS:DataW.Whole enc Tryz.prog Tryz.f3.params.toList Rows.fnOptimizeProgramSpec.vars false W args.toList ds gs before) (iL:W.ShapedOpen Tryz.prog):
  Calls Tryz.prog 3 args W fun e gQ=> ∃v,e= .returned v∧Rows.fnOptimizeProgramSpec.post enc Tryz.prog Tryz.f3 false true false false W args v gQ:=by obtain⟨G,lh⟩:=adD iL;exact ad3 Tryz.underlying22 Tryz.underlying5 ad9 Tryz.params3 rfl Tryz.underlying4 rfl (fun _ _=>rfl) xy lS lh fun l l'=>Sf G N l l' (Sv l l')
abbrev IZ:Array Value:= #[.slice none 0 0,.slice none 0 0]
noncomputable abbrev start(os:Os):World:=(World.laidAll Tryz.prog os Rows.fnOptimizeProgramRow.laid).forCall (fun _ _=>0) ⟨#[],IZ,[]⟩
theorem reads(os:Os){H:Type}(enc:TypeId×Value→H): ∃places,DataW.whole enc Tryz.prog (start os).memory Tryz.f3.params.toList Rows.fnOptimizeProgramSpec.vars false IZ.toList 8=some ([.nil,.nil],[],places):=
 ⟨[],by kernel_rfl⟩
theorem lifted(os:Os)(started:os.Started)(H:Type)(enc:TypeId×Value→H)(F:Stop.Interp):
  ReturnsInHanded {} Tryz.checked os 3 .any ((OpenSpec.ofChange Rows.fnOptimizeProgramSpec).preRow enc Tryz.prog Tryz.f3 Rows.fnOptimizeProgramRow.domain false Rows.fnOptimizeProgramRow.laid) (((OpenSpec.ofChange Rows.fnOptimizeProgramSpec).at F).post enc Tryz.prog Tryz.f3 false true false false):=by
 obtain⟨places,hx⟩:=reads os enc;refine returnsInHanded_of_row (C:=Tryz.checked) (s:=OpenSpec.ofChange Rows.fnOptimizeProgramSpec) own started (by kernel_rfl) Tryz.func3
  (SC (enc:=enc) (C:=Tryz.checked) false (World.laidAll Tryz.prog os Rows.fnOptimizeProgramRow.laid) IZ (World.laidAll_os _ _ _) (World.shaped_of_ZipB (by kernel_rfl) (by kernel_rfl)) (by kernel_rfl)
   (OpenSpec.preRow_of_cond 3 hx (by kernel_rfl) (fun k hk=>by cases hk) (by kernel_rfl) (laidMet_laidAll _ (by kernel_rfl) (by kernel_rfl)))) ?_
 intro W base args ds gs before xy lS _ _ _ qI iL _;exact contract H enc W base args ds gs before xy lS iL
theorem said:Rows.FnOptimizeProgramSaid:=
 OpenClaim.holds_of_cond 3 Tryz.f3 rfl rfl rfl rfl rfl rfl rfl ⟨rfl,rfl,rfl,rfl,rfl⟩ rfl rfl rfl rfl rfl (by kernel_rfl) Tryz.func3 closed
  (of_decide_eq_true (by kernel_rfl)) (by unfold Func.isWrapper;first|(rw [if_pos (by decide+kernel)];kernel_rfl)|(rw [if_neg (by decide+kernel)];exact⟨rfl,rfl⟩))
  fun os started H enc _ F=>by rw [OpenClaim.pre_eq_preRow];exact lifted os started H enc F
end Go.Proofs.YteifkndfpnkalacGreat.fnOptimizeProgram
