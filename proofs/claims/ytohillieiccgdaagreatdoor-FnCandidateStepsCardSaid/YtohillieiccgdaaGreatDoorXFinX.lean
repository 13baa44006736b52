/- Candidates are distinct: laws.FnCandidateSteps returns true for every slice of bytes and leaves it as it was. Conditions: the package-level variables that the row lists start as the program's text lays them; none else. -/
import Derived.Test.YtohillieiccgdaaGreatDoorXWalks3
import Derived.Test.YtohillieiccgdaaGreatDoorXSeatP
import Derived.Test.YtohillieiccgdaaGreatDoorXLawCand
import Derived.Test.YtohillieiccgdaaGreatDoorRows
import Derived.Test.YtohillieiccgdaaGreatDoorCards
import Derived.Test.YtohillieiccgdaaGreatDoorTie
import Derived.Test.YtohillieiccgdaaGreatDoorXFactsX
set_option maxRecDepth 100000
namespace Go.Proofs.YtohillieiccgdaaGreatDoor.fnCandidateSteps
open Go Go.Lift Go.ChangeShapes Go.WideShapes Go.ChangeAt Go.RowKit
theorem own:ownKnob Tryz.prog.godebug=none:=by kernel_rfl
theorem cells5:Tryz.prog.cellsOf 5=1:=by kernel_rfl
theorem contract(H:Type)(enc:TypeId×Value→H)(W:World)(base:Nat)(args:Array Value)(ds gs:List (DataW H))(before:List MemPlace)
  (hval: ∀(j:Nat) t v,Tryz.f3.params[j]? =some t→args[j]? =some v→Value.okWide Tryz.prog W .any base t v)
  (hW:DataW.Whole enc Tryz.prog Tryz.f3.params.toList Rows.fnCandidateStepsSpec.vars false W args.toList ds gs before) (hL:laidMetH Tryz.prog Rows.fnCandidateStepsRow.laid W) (hsh:W.ShapedOpen Tryz.prog):
  Calls Tryz.prog 3 args W fun e W'=> ∃v,e= .returned v∧Rows.fnCandidateStepsSpec.post enc Tryz.prog Tryz.f3 false true false false W args v W':=by
 obtain⟨G,hG⟩:=aGi hsh hL
 exact aF1 Tryz.underlying22 Tryz.underlying5 cells5 Tryz.params3 rfl Tryz.underlying4 rfl (fun _=>rfl) hval hW hG (fun l=>pA G N l (aCE l))
abbrev wit:Array Value:= #[.slice none 0 0]
noncomputable abbrev start(os:Os):World:=(World.laidAll Tryz.prog os Rows.fnCandidateStepsRow.laid).forCall (fun _ _=>0) ⟨#[],wit,[]⟩
theorem reads(os:Os){H:Type}(enc:TypeId×Value→H): ∃places,DataW.whole enc Tryz.prog (start os).memory Tryz.f3.params.toList Rows.fnCandidateStepsSpec.vars false wit.toList 8=some ([.nil],[],places):=
 ⟨[],by kernel_rfl⟩
theorem lifted(os:Os)(started:os.Started)(H:Type)(enc:TypeId×Value→H)(F:Stop.Interp):
  ReturnsInHanded {} Tryz.checked os 3 .any ((OpenSpec.ofChange Rows.fnCandidateStepsSpec).preRow enc Tryz.prog Tryz.f3 Rows.fnCandidateStepsRow.domain false Rows.fnCandidateStepsRow.laid) (((OpenSpec.ofChange Rows.fnCandidateStepsSpec).at F).post enc Tryz.prog Tryz.f3 false true false false):=by
 obtain⟨places,hx⟩:=reads os enc
 refine returnsInHanded_of_row (C:=Tryz.checked) (s:=OpenSpec.ofChange Rows.fnCandidateStepsSpec) own started (by kernel_rfl) Tryz.func3
  (qH (enc:=enc) (C:=Tryz.checked) false (World.laidAll Tryz.prog os Rows.fnCandidateStepsRow.laid) wit (World.laidAll_os _ _ _) (World.shaped_of_ZipB (by kernel_rfl) (by kernel_rfl)) (by kernel_rfl)
   (OpenSpec.preRow_of_cond 8 hx (by kernel_rfl) (fun k hk=>by cases hk) (by kernel_rfl) (laidMet_laidAll _ (by kernel_rfl) (by kernel_rfl)))) ?_
 intro W base args ds gs before hval hW _ _ _ hL hsh _
 exact contract H enc W base args ds gs before hval hW hL hsh
theorem said:Rows.FnCandidateStepsSaid:=
 OpenClaim.holds_of_cond 3 Tryz.f3 rfl rfl rfl rfl rfl rfl rfl ⟨rfl,rfl,rfl,rfl,rfl⟩ rfl rfl rfl rfl rfl (by kernel_rfl) Tryz.func3 closed
  (of_decide_eq_true (by kernel_rfl)) (by unfold Func.isWrapper;first|(rw [if_pos (by decide+kernel)];kernel_rfl)|(rw [if_neg (by decide+kernel)];exact⟨rfl,rfl⟩))
  (fun os started H enc _ F=>by rw [OpenClaim.pre_eq_preRow];exact lifted os started H enc F)
theorem plain(f:FuncId)(fn:Func)(hf:Tryz.pinned.checked.prog.funcNamed Rows.fnCandidateStepsRow.func=some f)(hfn:Tryz.pinned.checked.prog.funcs[f]? =some fn):
  false=Tryz.pinned.checked.prog.looks []∧ ∀(j:Nat) t,fn.params[j]? =some t→Tryz.pinned.checked.prog.wantsStandIn t=false:=by
 obtain rfl:f=3:=Option.some.inj ((show Tryz.prog.funcNamed Rows.fnCandidateStepsRow.func=some 3 by kernel_rfl).symm.trans hf) |>.symm
 obtain rfl:fn=Tryz.f3:=(Option.some.inj (Tryz.func3.symm.trans hfn)).symm
 refine⟨by kernel_rfl,fun j t ht=> ?_⟩
 rw [Tryz.params3] at ht
 obtain rfl:t=22:=by simpa using Array.mem_of_getElem? ht
 exact(show Tryz.prog.wantsStandIn 22=false by kernel_rfl)
theorem card:Rows.FnCandidateStepsCardSaid:=
 Claim7.holds_tied_plain_at .later [] _ _ _ _ said (fun _ h=>by cases h) (by kernel_rfl) (fun _ h=>by cases h) fnCandidateSteps_row_tie rfl ⟨rfl,rfl⟩ (by kernel_rfl) rfl plain (by kernel_rfl)
end Go.Proofs.YtohillieiccgdaaGreatDoor.fnCandidateSteps
