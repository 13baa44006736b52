/- Scripts perform steps: laws.FnScriptSteps returns true for every slice of bytes and leaves it as it was. Conditions: the package-level variables that the row lists start as the program's text lays them; none else. -/
import Derived.Test.YtbgbodhagkdffaaGreatDoorSWalks2
import Derived.Test.YtbgbodhagkdffaaGreatDoorSSeatP
import Derived.Test.YtbgbodhagkdffaaGreatDoorSTran1
import Derived.Test.YtbgbodhagkdffaaGreatDoorCards
import Derived.Test.YtbgbodhagkdffaaGreatDoorTie
import Derived.Test.YtbgbodhagkdffaaGreatDoorSFactsS
set_option maxRecDepth 100000
namespace Go.Proofs.YtbgbodhagkdffaaGreatDoor.fnScriptSteps
open Go Go.Lift Go.ChangeShapes Go.WideShapes Go.ChangeAt Go.RowKit
theorem own:ownKnob Tryz.prog.godebug=none:=by kernel_rfl
theorem ajx:Tryz.prog.cellsOf 5=1:=by kernel_rfl
theorem contract(H:Type)(enc:TypeId×Value→H)(W:World)(base:Nat)(args:Array Value)(ds gs:List (DataW H))(before:List MemPlace)
  (BV: ∀(j:Nat) t v,Tryz.f3.params[j]? =some t→args[j]? =some v→Value.okWide Tryz.prog W .any base t v)
  (lB:DataW.Whole enc Tryz.prog Tryz.f3.params.toList Rows.fnScriptStepsSpec.vars false W args.toList ds gs before) (oq:laidMetH Tryz.prog Rows.fnScriptStepsRow.laid W) (hU:W.ShapedOpen Tryz.prog):
  Calls Tryz.prog 3 args W fun e jo=> ∃v,e= .returned v∧Rows.fnScriptStepsSpec.post enc Tryz.prog Tryz.f3 false true false false W args v jo:=by obtain⟨G,kr⟩:=YR hU oq;exact Yx Tryz.underlying22 Tryz.underlying5 ajx Tryz.params3 rfl Tryz.underlying4 rfl (fun _=>rfl) BV lB kr fun l=>Zp G N l (ZG l)
abbrev OB:Array Value:= #[.slice none 0 0]
noncomputable abbrev start(os:Os):World:=(World.laidAll Tryz.prog os Rows.fnScriptStepsRow.laid).forCall (fun _ _=>0) ⟨#[],OB,[]⟩
theorem reads(os:Os){H:Type}(enc:TypeId×Value→H): ∃places,DataW.whole enc Tryz.prog (start os).memory Tryz.f3.params.toList Rows.fnScriptStepsSpec.vars false OB.toList 8=some ([.nil],[],places):=
 ⟨[],by kernel_rfl⟩
theorem lifted(os:Os)(started:os.Started)(H:Type)(enc:TypeId×Value→H)(F:Stop.Interp):
  ReturnsInHanded {} Tryz.checked os 3 .any ((OpenSpec.ofChange Rows.fnScriptStepsSpec).preRow enc Tryz.prog Tryz.f3 Rows.fnScriptStepsRow.domain false Rows.fnScriptStepsRow.laid) (((OpenSpec.ofChange Rows.fnScriptStepsSpec).at F).post enc Tryz.prog Tryz.f3 false true false false):=by
 obtain⟨places,hx⟩:=reads os enc;refine returnsInHanded_of_row (C:=Tryz.checked) (s:=OpenSpec.ofChange Rows.fnScriptStepsSpec) own started (by kernel_rfl) Tryz.func3
  (Y2 (enc:=enc) (C:=Tryz.checked) false (World.laidAll Tryz.prog os Rows.fnScriptStepsRow.laid) OB (World.laidAll_os _ _ _) (World.shaped_of_ZipB (by kernel_rfl) (by kernel_rfl)) (by kernel_rfl)
   (OpenSpec.preRow_of_cond 8 hx (by kernel_rfl) (fun k hk=>by cases hk) (by kernel_rfl) (laidMet_laidAll _ (by kernel_rfl) (by kernel_rfl)))) ?_
 intro W base args ds gs before BV lB _ _ _ oq hU _;exact contract H enc W base args ds gs before BV lB oq hU
theorem said:Rows.FnScriptStepsSaid:=
 OpenClaim.holds_of_cond 3 Tryz.f3 rfl rfl rfl rfl rfl rfl rfl ⟨rfl,rfl,rfl,rfl,rfl⟩ rfl rfl rfl rfl rfl (by kernel_rfl) Tryz.func3 closed
  (of_decide_eq_true (by kernel_rfl)) (by unfold Func.isWrapper;first|(rw [if_pos (by decide+kernel)];kernel_rfl)|(rw [if_neg (by decide+kernel)];exact⟨rfl,rfl⟩))
  fun os started H enc _ F=>by rw [OpenClaim.pre_eq_preRow];exact lifted os started H enc F
theorem plain(f:FuncId)(fn:Func)(jK:Tryz.pinned.checked.prog.funcNamed Rows.fnScriptStepsRow.func=some f)(akJ:Tryz.pinned.checked.prog.funcs[f]? =some fn):
  true=Tryz.pinned.checked.prog.looks []∧ ∀(j:Nat) t,fn.params[j]? =some t→Tryz.pinned.checked.prog.wantsStandIn t=false:=by
 obtain rfl:f=3:=Option.some.inj ((show Tryz.prog.funcNamed Rows.fnScriptStepsRow.func=some 3 by kernel_rfl).symm.trans jK) |>.symm;obtain rfl:fn=Tryz.f3:=(Option.some.inj (Tryz.func3.symm.trans akJ)).symm;refine⟨by kernel_rfl,fun j t fB=>?_⟩;rw [Tryz.params3] at fB;obtain rfl:t=22:=by simpa using Array.mem_of_getElem? fB
 exact(show Tryz.prog.wantsStandIn 22=false by kernel_rfl)
theorem ajl:Tryz.pinned.checked.prog.funcs.any Func.goes=false:=by kernel_rfl
theorem aj1{P:Program}{c:OpenClaim}(hs:c.start= .entering)(h:P.funcs.any Func.goes=false):false=c.goesBy P:=by
 have h1: ∀g:FuncId,(P.funcs[g]?).any Func.goes=false:=fun g=>by
  cases b9:P.funcs[g]? with
  |none=>rfl
  |some fn=>
   have k:=Array.any_eq_false.1 h _ (Array.getElem?_eq_some_iff.1 b9).1;rw [(Array.getElem?_eq_some_iff.1 b9).2] at k;simpa using k
 have h2: ∀f,P.goes f=false:=fun f=>by
  unfold Program.goes;rw [h];simp [h1]
 unfold OpenClaim.goesBy Program.goesAt Program.goesFrom;rw [hs];cases P.funcNamed c.func<;>simp [h2]
theorem card:Rows.FnScriptStepsCardSaid:=
 Claim7.holds_tied_plain_at .later [] _ _ _ _ said (fun _ h=>by cases h) (by kernel_rfl) (fun _ h=>by cases h) fnScriptSteps_row_tie rfl ⟨rfl,rfl⟩ (by kernel_rfl) rfl plain (aj1 rfl ajl)
end Go.Proofs.YtbgbodhagkdffaaGreatDoor.fnScriptSteps
