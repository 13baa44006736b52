/- Interchange is correct: laws.FnInterchange returns true for every two slices of bytes and leaves them as they were. Conditions: none. -/
import Derived.Test.YtjmaejilmokdgaaGreatBWalks3
import Derived.Test.YtjmaejilmokdgaaGreatBSeatP
import Derived.Test.YtjmaejilmokdgaaGreatBKeepM
import Derived.Test.YtjmaejilmokdgaaGreatRows
import Derived.Test.YtjmaejilmokdgaaGreatBFactsB
set_option maxRecDepth 100000
namespace Go.Proofs.YtjmaejilmokdgaaGreat.fnInterchange
open Go Go.Lift Go.ChangeShapes Go.WideShapes Go.ChangeAt Go.RowKit
theorem own:ownKnob Tryz.prog.godebug=none:=by kernel_rfl
theorem cells5:Tryz.prog.cellsOf 5=1:=by kernel_rfl
theorem contract(H:Type)(enc:TypeId×Value→H)(W:World)(base:Nat)(args:Array Value)(ds gs:List (DataW H))(before:List MemPlace)
  (hval: ∀(j:Nat) t v,Tryz.f4.params[j]? =some t→args[j]? =some v→Value.okWide Tryz.prog W .any base t v)
  (hW:DataW.Whole enc Tryz.prog Tryz.f4.params.toList Rows.fnInterchangeSpec.vars false W args.toList ds gs before) (hsh:W.ShapedOpen Tryz.prog):
  Calls Tryz.prog 4 args W fun e W'=> ∃v,e= .returned v∧Rows.fnInterchangeSpec.post enc Tryz.prog Tryz.f4 false true false false W args v W':=by obtain⟨G,hG⟩:=aQF hsh;exact aQd Tryz.underlying22 Tryz.underlying5 cells5 Tryz.params4 rfl Tryz.underlying4 rfl (fun _ _=>rfl) hval hW hG fun l l'=>H4 G N l l' (R4 l l')
abbrev wit:Array Value:= #[.slice none 0 0,.slice none 0 0]
noncomputable abbrev start(os:Os):World:=(World.laidAll Tryz.prog os Rows.fnInterchangeRow.laid).forCall (fun _ _=>0) ⟨#[],wit,[]⟩
theorem reads(os:Os){H:Type}(enc:TypeId×Value→H): ∃places,DataW.whole enc Tryz.prog (start os).memory Tryz.f4.params.toList Rows.fnInterchangeSpec.vars false wit.toList 8=some ([.nil,.nil],[],places):=
 ⟨[],by kernel_rfl⟩
theorem lifted(os:Os)(started:os.Started)(H:Type)(enc:TypeId×Value→H)(F:Stop.Interp):
  ReturnsInHanded {} Tryz.checked os 4 .any ((OpenSpec.ofChange Rows.fnInterchangeSpec).preRow enc Tryz.prog Tryz.f4 Rows.fnInterchangeRow.domain false Rows.fnInterchangeRow.laid) (((OpenSpec.ofChange Rows.fnInterchangeSpec).at F).post enc Tryz.prog Tryz.f4 false true false false):=by
 obtain⟨places,hx⟩:=reads os enc;refine returnsInHanded_of_row (C:=Tryz.checked) (s:=OpenSpec.ofChange Rows.fnInterchangeSpec) own started (by kernel_rfl) Tryz.func4
  (yD (enc:=enc) (C:=Tryz.checked) false (World.laidAll Tryz.prog os Rows.fnInterchangeRow.laid) wit (World.laidAll_os _ _ _) (World.shaped_of_ZipB (by kernel_rfl) (by kernel_rfl)) (by kernel_rfl)
   (OpenSpec.preRow_of_cond 4 hx (by kernel_rfl) (fun k hk=>by cases hk) (by kernel_rfl) (laidMet_laidAll _ (by kernel_rfl) (by kernel_rfl)))) ?_
 intro W base args ds gs before hval hW _ _ _ hL hsh _;exact contract H enc W base args ds gs before hval hW hsh
theorem said:Rows.FnInterchangeSaid:=
 OpenClaim.holds_of_cond 4 Tryz.f4 rfl rfl rfl rfl rfl rfl rfl ⟨rfl,rfl,rfl,rfl,rfl⟩ rfl rfl rfl rfl rfl (by kernel_rfl) Tryz.func4 closed
  (of_decide_eq_true (by kernel_rfl)) (by unfold Func.isWrapper;first|(rw [if_pos (by decide+kernel)];kernel_rfl)|(rw [if_neg (by decide+kernel)];exact⟨rfl,rfl⟩))
  fun os started H enc _ F=>by rw [OpenClaim.pre_eq_preRow];exact lifted os started H enc F
end Go.Proofs.YtjmaejilmokdgaaGreat.fnInterchange
