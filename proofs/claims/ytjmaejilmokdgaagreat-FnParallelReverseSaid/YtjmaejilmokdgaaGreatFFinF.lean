/- Reversal keeps parallelism: laws.FnParallelReverse returns true for every slice of bytes and leaves it as it was. Conditions: none. -/
import Derived.Test.YtjmaejilmokdgaaGreatFWalks3
import Derived.Test.YtjmaejilmokdgaaGreatFSeatP
import Derived.Test.YtjmaejilmokdgaaGreatFKeepJ
import Derived.Test.YtjmaejilmokdgaaGreatRows
import Derived.Test.YtjmaejilmokdgaaGreatFFactsF
set_option maxRecDepth 100000
namespace Go.Proofs.YtjmaejilmokdgaaGreat.fnParallelReverse
open Go Go.Lift Go.ChangeShapes Go.WideShapes Go.ChangeAt Go.RowKit
theorem own:ownKnob Tryz.prog.godebug=none:=by kernel_rfl
theorem cells5:Tryz.prog.cellsOf 5=1:=by kernel_rfl
theorem contract(H:Type)(enc:TypeId×Value→H)(W:World)(base:Nat)(args:Array Value)(ds gs:List (DataW H))(before:List MemPlace)
  (hval: ∀(j:Nat) t v,Tryz.f7.params[j]? =some t→args[j]? =some v→Value.okWide Tryz.prog W .any base t v)
  (hW:DataW.Whole enc Tryz.prog Tryz.f7.params.toList Rows.fnParallelReverseSpec.vars false W args.toList ds gs before) (hsh:W.ShapedOpen Tryz.prog):
  Calls Tryz.prog 7 args W fun e W'=> ∃v,e= .returned v∧Rows.fnParallelReverseSpec.post enc Tryz.prog Tryz.f7 false true false false W args v W':=by obtain⟨G,hG⟩:=aPq hsh;exact aOW Tryz.underlying22 Tryz.underlying5 cells5 Tryz.params7 rfl Tryz.underlying4 rfl (fun _=>rfl) hval hW hG fun l=>tE G N l (wA l)
abbrev wit:Array Value:= #[.slice none 0 0]
noncomputable abbrev start(os:Os):World:=(World.laidAll Tryz.prog os Rows.fnParallelReverseRow.laid).forCall (fun _ _=>0) ⟨#[],wit,[]⟩
theorem reads(os:Os){H:Type}(enc:TypeId×Value→H): ∃places,DataW.whole enc Tryz.prog (start os).memory Tryz.f7.params.toList Rows.fnParallelReverseSpec.vars false wit.toList 8=some ([.nil],[],places):=
 ⟨[],by kernel_rfl⟩
theorem lifted(os:Os)(started:os.Started)(H:Type)(enc:TypeId×Value→H)(F:Stop.Interp):
  ReturnsInHanded {} Tryz.checked os 7 .any ((OpenSpec.ofChange Rows.fnParallelReverseSpec).preRow enc Tryz.prog Tryz.f7 Rows.fnParallelReverseRow.domain false Rows.fnParallelReverseRow.laid) (((OpenSpec.ofChange Rows.fnParallelReverseSpec).at F).post enc Tryz.prog Tryz.f7 false true false false):=by
 obtain⟨places,hx⟩:=reads os enc;refine returnsInHanded_of_row (C:=Tryz.checked) (s:=OpenSpec.ofChange Rows.fnParallelReverseSpec) own started (by kernel_rfl) Tryz.func7
  (wR (enc:=enc) (C:=Tryz.checked) false (World.laidAll Tryz.prog os Rows.fnParallelReverseRow.laid) wit (World.laidAll_os _ _ _) (World.shaped_of_ZipB (by kernel_rfl) (by kernel_rfl)) (by kernel_rfl)
   (OpenSpec.preRow_of_cond 7 hx (by kernel_rfl) (fun k hk=>by cases hk) (by kernel_rfl) (laidMet_laidAll _ (by kernel_rfl) (by kernel_rfl)))) ?_
 intro W base args ds gs before hval hW _ _ _ hL hsh _;exact contract H enc W base args ds gs before hval hW hsh
theorem said:Rows.FnParallelReverseSaid:=
 OpenClaim.holds_of_cond 7 Tryz.f7 rfl rfl rfl rfl rfl rfl rfl ⟨rfl,rfl,rfl,rfl,rfl⟩ rfl rfl rfl rfl rfl (by kernel_rfl) Tryz.func7 closed
  (of_decide_eq_true (by kernel_rfl)) (by unfold Func.isWrapper;first|(rw [if_pos (by decide+kernel)];kernel_rfl)|(rw [if_neg (by decide+kernel)];exact⟨rfl,rfl⟩))
  fun os started H enc _ F=>by rw [OpenClaim.pre_eq_preRow];exact lifted os started H enc F
end Go.Proofs.YtjmaejilmokdgaaGreat.fnParallelReverse
