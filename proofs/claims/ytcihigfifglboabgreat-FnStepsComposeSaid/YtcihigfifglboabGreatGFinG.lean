/- Sequences compose: laws.FnStepsCompose returns true for every two slices of bytes and leaves them as they were. Conditions: none. -/
import Derived.Test.YtcihigfifglboabGreatGWalks3
import Derived.Test.YtcihigfifglboabGreatGSeatP
import Derived.Test.YtcihigfifglboabGreatGDist1
import Derived.Test.YtcihigfifglboabGreatGFactsG
set_option maxRecDepth 100000
namespace Go.Proofs.YtcihigfifglboabGreat.fnStepsCompose
open Go Go.Lift Go.ChangeShapes Go.WideShapes Go.ChangeAt Go.RowKit
theorem own:ownKnob Tryz.prog.godebug=none:=by kernel_rfl
theorem abS:Tryz.prog.cellsOf 5=1:=by kernel_rfl
theorem contract(H:Type)(enc:TypeId×Value→H)(W:World)(base:Nat)(args:Array Value)(ds gs:List (DataW H))(before:List MemPlace)
  (si: ∀(j:Nat) t v,Tryz.f5.params[j]? =some t→args[j]? =some v→Value.okWide Tryz.prog W .any base t v)
  (lE:DataW.Whole enc Tryz.prog Tryz.f5.params.toList Rows.fnStepsComposeSpec.vars false W args.toList ds gs before) (hZ:W.ShapedOpen Tryz.prog):
  Calls Tryz.prog 5 args W fun e gy=> ∃v,e= .returned v∧Rows.fnStepsComposeSpec.post enc Tryz.prog Tryz.f5 false true false false W args v gy:=by obtain⟨G,jV⟩:=abK hZ;exact aa2 Tryz.underlying22 Tryz.underlying5 abS Tryz.params5 rfl Tryz.underlying4 rfl (fun _ _=>rfl) si lE jV fun l l'=>Rq G N l l' (RU l l')
abbrev I8:Array Value:= #[.slice none 0 0,.slice none 0 0]
noncomputable abbrev start(os:Os):World:=(World.laidAll Tryz.prog os Rows.fnStepsComposeRow.laid).forCall (fun _ _=>0) ⟨#[],I8,[]⟩
theorem reads(os:Os){H:Type}(enc:TypeId×Value→H): ∃places,DataW.whole enc Tryz.prog (start os).memory Tryz.f5.params.toList Rows.fnStepsComposeSpec.vars false I8.toList 8=some ([.nil,.nil],[],places):=
 ⟨[],by kernel_rfl⟩
theorem lifted(os:Os)(started:os.Started)(H:Type)(enc:TypeId×Value→H)(F:Stop.Interp):
  ReturnsInHanded {} Tryz.checked os 5 .any ((OpenSpec.ofChange Rows.fnStepsComposeSpec).preRow enc Tryz.prog Tryz.f5 Rows.fnStepsComposeRow.domain false Rows.fnStepsComposeRow.laid) (((OpenSpec.ofChange Rows.fnStepsComposeSpec).at F).post enc Tryz.prog Tryz.f5 false true false false):=by
 obtain⟨places,hx⟩:=reads os enc;refine returnsInHanded_of_row (C:=Tryz.checked) (s:=OpenSpec.ofChange Rows.fnStepsComposeSpec) own started (by kernel_rfl) Tryz.func5
  (Ro (d:=enc) (C:=Tryz.checked) false (World.laidAll Tryz.prog os Rows.fnStepsComposeRow.laid) I8 (World.laidAll_os _ _ _) (World.shaped_of_ZipB (by kernel_rfl) (by kernel_rfl)) (by kernel_rfl)
   (OpenSpec.preRow_of_cond 5 hx (by kernel_rfl) (fun k hk=>by cases hk) (by kernel_rfl) (laidMet_laidAll _ (by kernel_rfl) (by kernel_rfl)))) ?_
 intro W base args ds gs before si lE _ _ _ r9 hZ _;exact contract H enc W base args ds gs before si lE hZ
theorem said:Rows.FnStepsComposeSaid:=
 OpenClaim.holds_of_cond 5 Tryz.f5 rfl rfl rfl rfl rfl rfl rfl ⟨rfl,rfl,rfl,rfl,rfl⟩ rfl rfl rfl rfl rfl (by kernel_rfl) Tryz.func5 closed
  (of_decide_eq_true (by kernel_rfl)) (by unfold Func.isWrapper;first|(rw [if_pos (by decide+kernel)];kernel_rfl)|(rw [if_neg (by decide+kernel)];exact⟨rfl,rfl⟩))
  fun os started H enc _ F=>by rw [OpenClaim.pre_eq_preRow];exact lifted os started H enc F
end Go.Proofs.YtcihigfifglboabGreat.fnStepsCompose
