/- Instances are rearranged: laws.FnTransformCount returns true for every slice of bytes and leaves it as it was. Conditions: none. -/
import Derived.Test.YtcihigfifglboabGreatEWalks3
import Derived.Test.YtcihigfifglboabGreatESeatP
import Derived.Test.YtcihigfifglboabGreatEKeepN
import Derived.Test.YtcihigfifglboabGreatRows
import Derived.Test.YtcihigfifglboabGreatEFactsE
set_option maxRecDepth 100000
namespace Go.Proofs.YtcihigfifglboabGreat.fnTransformCount
open Go Go.Lift Go.ChangeShapes Go.WideShapes Go.ChangeAt Go.RowKit
theorem own:ownKnob Tryz.prog.godebug=none:=by kernel_rfl
theorem cells5:Tryz.prog.cellsOf 5=1:=by kernel_rfl
theorem contract(H:Type)(enc:TypeId×Value→H)(W:World)(base:Nat)(args:Array Value)(ds gs:List (DataW H))(before:List MemPlace)
  (hval: ∀(j:Nat) t v,Tryz.f3.params[j]? =some t→args[j]? =some v→Value.okWide Tryz.prog W .any base t v)
  (hW:DataW.Whole enc Tryz.prog Tryz.f3.params.toList Rows.fnTransformCountSpec.vars false W args.toList ds gs before) (hsh:W.ShapedOpen Tryz.prog):
  Calls Tryz.prog 3 args W fun e W'=> ∃v,e= .returned v∧Rows.fnTransformCountSpec.post enc Tryz.prog Tryz.f3 false true false false W args v W':=by obtain⟨G,hG⟩:=aRC hsh;exact aQ9 Tryz.underlying22 Tryz.underlying5 cells5 Tryz.params3 rfl Tryz.underlying4 rfl (fun _=>rfl) hval hW hG fun l=>wC G N l (yN l)
abbrev wit:Array Value:= #[.slice none 0 0]
noncomputable abbrev start(os:Os):World:=(World.laidAll Tryz.prog os Rows.fnTransformCountRow.laid).forCall (fun _ _=>0) ⟨#[],wit,[]⟩
theorem reads(os:Os){H:Type}(enc:TypeId×Value→H): ∃places,DataW.whole enc Tryz.prog (start os).memory Tryz.f3.params.toList Rows.fnTransformCountSpec.vars false wit.toList 8=some ([.nil],[],places):=
 ⟨[],by kernel_rfl⟩
theorem lifted(os:Os)(started:os.Started)(H:Type)(enc:TypeId×Value→H)(F:Stop.Interp):
  ReturnsInHanded {} Tryz.checked os 3 .any ((OpenSpec.ofChange Rows.fnTransformCountSpec).preRow enc Tryz.prog Tryz.f3 Rows.fnTransformCountRow.domain false Rows.fnTransformCountRow.laid) (((OpenSpec.ofChange Rows.fnTransformCountSpec).at F).post enc Tryz.prog Tryz.f3 false true false false):=by
 obtain⟨places,hx⟩:=reads os enc;refine returnsInHanded_of_row (C:=Tryz.checked) (s:=OpenSpec.ofChange Rows.fnTransformCountSpec) own started (by kernel_rfl) Tryz.func3
  (yM (enc:=enc) (C:=Tryz.checked) false (World.laidAll Tryz.prog os Rows.fnTransformCountRow.laid) wit (World.laidAll_os _ _ _) (World.shaped_of_ZipB (by kernel_rfl) (by kernel_rfl)) (by kernel_rfl)
   (OpenSpec.preRow_of_cond 3 hx (by kernel_rfl) (fun k hk=>by cases hk) (by kernel_rfl) (laidMet_laidAll _ (by kernel_rfl) (by kernel_rfl)))) ?_
 intro W base args ds gs before hval hW _ _ _ hL hsh _;exact contract H enc W base args ds gs before hval hW hsh
theorem said:Rows.FnTransformCountSaid:=
 OpenClaim.holds_of_cond 3 Tryz.f3 rfl rfl rfl rfl rfl rfl rfl ⟨rfl,rfl,rfl,rfl,rfl⟩ rfl rfl rfl rfl rfl (by kernel_rfl) Tryz.func3 closed
  (of_decide_eq_true (by kernel_rfl)) (by unfold Func.isWrapper;first|(rw [if_pos (by decide+kernel)];kernel_rfl)|(rw [if_neg (by decide+kernel)];exact⟨rfl,rfl⟩))
  fun os started H enc _ F=>by rw [OpenClaim.pre_eq_preRow];exact lifted os started H enc F
end Go.Proofs.YtcihigfifglboabGreat.fnTransformCount
