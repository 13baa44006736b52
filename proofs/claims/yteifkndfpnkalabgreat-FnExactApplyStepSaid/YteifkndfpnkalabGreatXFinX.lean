/- The program's function returns what the reference's returns: laws.FnExactApplyStep returns true for all arguments, and leaves them as they were. Conditions: none beyond the row's own (no ring in the input). -/
import Derived.Test.YteifkndfpnkalabGreatXWalks4
import Derived.Test.YteifkndfpnkalabGreatXSeatP
import Derived.Test.YteifkndfpnkalabGreatXOpnA
import Derived.Test.YteifkndfpnkalabGreatXFactsX
set_option maxRecDepth 100000
namespace Go.Proofs.YteifkndfpnkalabGreat.fnExactApplyStep
open Go Go.Lift Go.ChangeShapes Go.WideShapes Go.ChangeAt Go.RowKit
theorem own:ownKnob Tryz.prog.godebug=none:=by kernel_rfl
def types:xU Tryz.prog where
 I:=3
 S:=9
 wT:=67
 A:=230
 gK:=224
 C:=229
 E:=233
 D2:=231
 Bl:=235
 D6:=72
 L:=226
 D3:=71
 A5:=74
 D4:=23
 R:=69
 D5:=22
 xV:=25
 yy:=by kernel_rfl
 IY:=by kernel_rfl
 I5:=by kernel_rfl
 I4:=by kernel_rfl
 Q1:=by kernel_rfl
 Q5:=by kernel_rfl
 Q2:=by kernel_rfl
 Q3:=by kernel_rfl
 Q4:=by kernel_rfl
 qc:=Tryz.underlying3
 Kp:=Tryz.underlying9
 Tu:=Tryz.underlying67
 Ts:=Tryz.underlying224
 Tt:=Tryz.underlying231
 Ty:=Tryz.underlying72
 Tv:=Tryz.underlying71
 Tw:=Tryz.underlying23
 Tx:=Tryz.underlying22
 C':=⟨by kernel_rfl,_,Tryz.underlying230,rfl⟩
 Da:=⟨by kernel_rfl,_,Tryz.underlying229,rfl⟩
 Db:=⟨by kernel_rfl,_,Tryz.underlying233,rfl⟩
 Jb:=⟨by kernel_rfl,_,Tryz.underlying235,rfl⟩
 I8:=⟨by kernel_rfl,_,Tryz.underlying226,rfl⟩
 I':=⟨by kernel_rfl,_,Tryz.underlying74,rfl⟩
 Ja:=⟨by kernel_rfl,_,Tryz.underlying69,rfl⟩
 I9:=⟨by kernel_rfl,_,Tryz.underlying25,rfl⟩
theorem agz:mo Tryz.prog 27 4 [(types.I,0),(types.I,1),(types.I,2),(types.I,3)]:=⟨by kernel_rfl,_,Tryz.underlying27,rfl⟩
theorem contract(H:Type)(enc:TypeId×Value→H)(W:World)(base:Nat)(args:Array Value)(ds gs:List (DataW H))(before:List MemPlace)
  (yV: ∀(j:Nat) t v,Tryz.f3.params[j]? =some t→args[j]? =some v→Value.okWide Tryz.prog W .any base t v)
  (lO:DataW.Whole enc Tryz.prog Tryz.f3.params.toList Rows.fnExactApplyStepSpec.vars false W args.toList ds gs before) (gj:W.ShapedOpen Tryz.prog):
  Calls Tryz.prog 3 args W fun e gy=> ∃v,e= .returned v∧Rows.fnExactApplyStepSpec.post enc Tryz.prog Tryz.f3 false true false false W args v gy:=by obtain⟨G,j7⟩:=Uk gj;exact Us [types.xV,27] Tryz.params3 rfl Tryz.underlying4 rfl (fun ds h=>by match ds,h with| [_,_],_=>rfl) cA (afb (by kernel_rfl)) yV lO j7 (OI (aep types) fun _ h=>by obtain⟨m,p,hp,rfl⟩:=h;exact OI (aeo types agz) fun _ h=>by obtain⟨EP,rfl⟩:=h;exact afq (TT G (T5 hp EP)))
abbrev Kz:Array Value:= #[.agg #[.slice none 0 0,.slice none 0 0],.agg #[.int .i64 0,.int .i64 0,.int .i64 0,.int .i64 0]]
noncomputable abbrev start(os:Os):World:=(World.laidAll Tryz.prog os Rows.fnExactApplyStepRow.laid).forCall (fun _ _=>0) ⟨#[],Kz,[]⟩
theorem reads(os:Os){H:Type}(enc:TypeId×Value→H): ∃places,DataW.whole enc Tryz.prog (start os).memory Tryz.f3.params.toList Rows.fnExactApplyStepSpec.vars false Kz.toList 8=some ([.agg [.nil,.nil],.agg [.lit (.int .i64 0),.lit (.int .i64 0),.lit (.int .i64 0),.lit (.int .i64 0)]],[],places):=
 ⟨[],by kernel_rfl⟩
theorem lifted(os:Os)(started:os.Started)(H:Type)(enc:TypeId×Value→H)(F:Stop.Interp):
  ReturnsInHanded {} Tryz.checked os 3 .any ((OpenSpec.ofChange Rows.fnExactApplyStepSpec).preRow enc Tryz.prog Tryz.f3 Rows.fnExactApplyStepRow.domain false Rows.fnExactApplyStepRow.laid) (((OpenSpec.ofChange Rows.fnExactApplyStepSpec).at F).post enc Tryz.prog Tryz.f3 false true false false):=by
 obtain⟨places,hx⟩:=reads os enc;refine returnsInHanded_of_row (C:=Tryz.checked) (s:=OpenSpec.ofChange Rows.fnExactApplyStepSpec) own started (by kernel_rfl) Tryz.func3
  (T3 (enc:=enc) (C:=Tryz.checked) false (World.laidAll Tryz.prog os Rows.fnExactApplyStepRow.laid) Kz (World.laidAll_os _ _ _) (World.shaped_of_ZipB (by kernel_rfl) (by kernel_rfl)) (by kernel_rfl)
   (OpenSpec.preRow_of_cond 3 hx (by kernel_rfl) (fun k hk=>by cases hk) (by kernel_rfl) (laidMet_laidAll _ (by kernel_rfl) (by kernel_rfl)))) ?_
 intro W base args ds gs before yV lO _ _ _ vr gj _;exact contract H enc W base args ds gs before yV lO gj
theorem said:Rows.FnExactApplyStepSaid:=
 OpenClaim.holds_of_cond 3 Tryz.f3 rfl rfl rfl rfl rfl rfl rfl ⟨rfl,rfl,rfl,rfl,rfl⟩ rfl rfl rfl rfl rfl (by kernel_rfl) Tryz.func3 closed
  (of_decide_eq_true (by kernel_rfl)) (by unfold Func.isWrapper;first|(rw [if_pos (by decide+kernel)];kernel_rfl)|(rw [if_neg (by decide+kernel)];exact⟨rfl,rfl⟩))
  fun os started H enc _ F=>by rw [OpenClaim.pre_eq_preRow];exact lifted os started H enc F
end Go.Proofs.YteifkndfpnkalabGreat.fnExactApplyStep
