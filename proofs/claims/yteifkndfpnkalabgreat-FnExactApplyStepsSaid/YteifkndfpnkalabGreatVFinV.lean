/- The program's function returns what the reference's returns: laws.FnExactApplySteps returns true for all arguments, and leaves them as they were. Conditions: none beyond the row's own (no ring in the input). -/
import Derived.Test.YteifkndfpnkalabGreatVWalks4
import Derived.Test.YteifkndfpnkalabGreatVSeatP
import Derived.Test.YteifkndfpnkalabGreatVOpnA
import Derived.Test.YteifkndfpnkalabGreatVFactsV
set_option maxRecDepth 100000
namespace Go.Proofs.YteifkndfpnkalabGreat.fnExactApplySteps
open Go Go.Lift Go.ChangeShapes Go.WideShapes Go.ChangeAt Go.RowKit
theorem own:ownKnob Tryz.prog.godebug=none:=by kernel_rfl
def types:xK Tryz.prog where
 I:=3
 S:=9
 wJ:=67
 A:=230
 gK:=224
 C:=229
 E:=233
 D5:=231
 Bl:=235
 D9:=72
 L:=226
 D6:=71
 AY:=74
 D7:=23
 R:=69
 D8:=22
 xL:=25
 yo:=by kernel_rfl
 I4:=by kernel_rfl
 I8:=by kernel_rfl
 I7:=by kernel_rfl
 Q5:=by kernel_rfl
 Q9:=by kernel_rfl
 Q6:=by kernel_rfl
 Q7:=by kernel_rfl
 Q8:=by kernel_rfl
 p1:=Tryz.underlying3
 Ku:=Tryz.underlying9
 Tv:=Tryz.underlying67
 Tt:=Tryz.underlying224
 Tu:=Tryz.underlying231
 Tz:=Tryz.underlying72
 Tw:=Tryz.underlying71
 Tx:=Tryz.underlying23
 Ty:=Tryz.underlying22
 C':=⟨by kernel_rfl,_,Tryz.underlying230,rfl⟩
 Da:=⟨by kernel_rfl,_,Tryz.underlying229,rfl⟩
 Db:=⟨by kernel_rfl,_,Tryz.underlying233,rfl⟩
 Je:=⟨by kernel_rfl,_,Tryz.underlying235,rfl⟩
 Ja:=⟨by kernel_rfl,_,Tryz.underlying226,rfl⟩
 Jc:=⟨by kernel_rfl,_,Tryz.underlying74,rfl⟩
 Jd:=⟨by kernel_rfl,_,Tryz.underlying69,rfl⟩
 Jb:=⟨by kernel_rfl,_,Tryz.underlying25,rfl⟩
theorem agx:mu Tryz.prog 27 4 [(types.I,0),(types.I,1),(types.I,2),(types.I,3)]:=⟨by kernel_rfl,_,Tryz.underlying27,rfl⟩
theorem contract(H:Type)(enc:TypeId×Value→H)(W:World)(base:Nat)(args:Array Value)(ds gs:List (DataW H))(before:List MemPlace)
  (yM: ∀(j:Nat) t v,Tryz.f4.params[j]? =some t→args[j]? =some v→Value.okWide Tryz.prog W .any base t v)
  (lV:DataW.Whole enc Tryz.prog Tryz.f4.params.toList Rows.fnExactApplyStepsSpec.vars false W args.toList ds gs before) (gk:W.ShapedOpen Tryz.prog):
  Calls Tryz.prog 4 args W fun e gz=> ∃v,e= .returned v∧Rows.fnExactApplyStepsSpec.post enc Tryz.prog Tryz.f4 false true false false W args v gz:=by obtain⟨G,j9⟩:=Ul gk;exact Us [types.xL,41] Tryz.params4 rfl Tryz.underlying4 rfl (fun ds h=>by match ds,h with| [_,_],_=>rfl) cA (ae5 (by kernel_rfl)) yM lV j9 (OP (aeg types) fun _ h=>by obtain⟨m,p,hp,rfl⟩:=h;exact OP (acE types agx Tryz.underlying41 (by kernel_rfl)) fun _ h=>by obtain⟨alq,h1,rfl⟩:=h;exact afg (TV G (T3 hp h1)))
abbrev KD:Array Value:= #[.agg #[.slice none 0 0,.slice none 0 0],.slice none 0 0]
noncomputable abbrev start(os:Os):World:=(World.laidAll Tryz.prog os Rows.fnExactApplyStepsRow.laid).forCall (fun _ _=>0) ⟨#[],KD,[]⟩
theorem reads(os:Os){H:Type}(enc:TypeId×Value→H): ∃places,DataW.whole enc Tryz.prog (start os).memory Tryz.f4.params.toList Rows.fnExactApplyStepsSpec.vars false KD.toList 8=some ([.agg [.nil,.nil],.nil],[],places):=
 ⟨[],by kernel_rfl⟩
theorem lifted(os:Os)(started:os.Started)(H:Type)(enc:TypeId×Value→H)(F:Stop.Interp):
  ReturnsInHanded {} Tryz.checked os 4 .any ((OpenSpec.ofChange Rows.fnExactApplyStepsSpec).preRow enc Tryz.prog Tryz.f4 Rows.fnExactApplyStepsRow.domain false Rows.fnExactApplyStepsRow.laid) (((OpenSpec.ofChange Rows.fnExactApplyStepsSpec).at F).post enc Tryz.prog Tryz.f4 false true false false):=by
 obtain⟨places,hx⟩:=reads os enc;refine returnsInHanded_of_row (C:=Tryz.checked) (s:=OpenSpec.ofChange Rows.fnExactApplyStepsSpec) own started (by kernel_rfl) Tryz.func4
  (T7 (enc:=enc) (C:=Tryz.checked) false (World.laidAll Tryz.prog os Rows.fnExactApplyStepsRow.laid) KD (World.laidAll_os _ _ _) (World.shaped_of_ZipB (by kernel_rfl) (by kernel_rfl)) (by kernel_rfl)
   (OpenSpec.preRow_of_cond 4 hx (by kernel_rfl) (fun k hk=>by cases hk) (by kernel_rfl) (laidMet_laidAll _ (by kernel_rfl) (by kernel_rfl)))) ?_
 intro W base args ds gs before yM lV _ _ _ vu gk _;exact contract H enc W base args ds gs before yM lV gk
theorem said:Rows.FnExactApplyStepsSaid:=
 OpenClaim.holds_of_cond 4 Tryz.f4 rfl rfl rfl rfl rfl rfl rfl ⟨rfl,rfl,rfl,rfl,rfl⟩ rfl rfl rfl rfl rfl (by kernel_rfl) Tryz.func4 closed
  (of_decide_eq_true (by kernel_rfl)) (by unfold Func.isWrapper;first|(rw [if_pos (by decide+kernel)];kernel_rfl)|(rw [if_neg (by decide+kernel)];exact⟨rfl,rfl⟩))
  fun os started H enc _ F=>by rw [OpenClaim.pre_eq_preRow];exact lifted os started H enc F
end Go.Proofs.YteifkndfpnkalabGreat.fnExactApplySteps
