/- The program's function returns what the reference's returns: laws.FnExactBestStep returns true for every program and number, and leaves the program as it was. Conditions: none beyond the row's own (no ring in the input). -/
import Derived.Test.YtlbojjldejlgaabGreatEWalks3
import Derived.Test.YtlbojjldejlgaabGreatESeatP
import Derived.Test.YtlbojjldejlgaabGreatEOpnA
import Derived.Test.YtlbojjldejlgaabGreatEFactsE
set_option maxRecDepth 100000
namespace Go.Proofs.YtlbojjldejlgaabGreat.fnExactBestStep
open Go Go.Lift Go.ChangeShapes Go.WideShapes Go.ChangeAt Go.RowKit
theorem own:ownKnob Tryz.prog.godebug=none:=by kernel_rfl
def types:zB Tryz.prog where
 I:=3
 S:=9
 vd:=51
 A:=173
 gj:=167
 C:=172
 E:=176
 CK:=174
 zG:=178
 CV:=56
 L:=169
 CO:=55
 zC:=58
 CS:=23
 R:=53
 CU:=22
 pF:=25
 Br:=by kernel_rfl
 HB:=by kernel_rfl
 HJ:=by kernel_rfl
 HI:=by kernel_rfl
 PO:=by kernel_rfl
 PT:=by kernel_rfl
 PQ:=by kernel_rfl
 PR:=by kernel_rfl
 PS:=by kernel_rfl
 vm:=Tryz.underlying3
 Jw:=Tryz.underlying9
 RW:=Tryz.underlying51
 RU:=Tryz.underlying167
 RV:=Tryz.underlying174
 R1:=Tryz.underlying56
 RX:=Tryz.underlying55
 RY:=Tryz.underlying23
 RZ:=Tryz.underlying22
 Bt:=⟨by kernel_rfl,_,Tryz.underlying173,rfl⟩
 Bu:=⟨by kernel_rfl,_,Tryz.underlying172,rfl⟩
 Bv:=⟨by kernel_rfl,_,Tryz.underlying176,rfl⟩
 HU:=⟨by kernel_rfl,_,Tryz.underlying178,rfl⟩
 HQ:=⟨by kernel_rfl,_,Tryz.underlying169,rfl⟩
 HS:=⟨by kernel_rfl,_,Tryz.underlying58,rfl⟩
 HT:=⟨by kernel_rfl,_,Tryz.underlying53,rfl⟩
 HR:=⟨by kernel_rfl,_,Tryz.underlying25,rfl⟩
theorem contract(H:Type)(enc:TypeId×Value→H)(W:World)(base:Nat)(args:Array Value)(ds gs:List (DataW H))(before:List MemPlace)
  (r5: ∀(j:Nat) t v,Tryz.f3.params[j]? =some t→args[j]? =some v→Value.okWide Tryz.prog W .any base t v)
  (lj:DataW.Whole enc Tryz.prog Tryz.f3.params.toList Rows.fnExactBestStepSpec.vars false W args.toList ds gs before) (gd:W.ShapedOpen Tryz.prog):
  Calls Tryz.prog 3 args W fun e fV=> ∃v,e= .returned v∧Rows.fnExactBestStepSpec.post enc Tryz.prog Tryz.f3 false true false false W args v fV:=by obtain⟨G,jD⟩:=ad4 gd;exact acN types Tryz.params3 rfl Tryz.underlying4 rfl (fun _ _=>rfl) ez (by kernel_rfl) (of_decide_eq_true (by kernel_rfl)) (by kernel_rfl) (of_decide_eq_true (by kernel_rfl)) r5 lj jD fun m x k hx=>Sv G (30000000+m) x k (SP hx k)
abbrev JM:Array Value:= #[.agg #[.slice none 0 0,.slice none 0 0],.int .i64 0]
noncomputable abbrev start(os:Os):World:=(World.laidAll Tryz.prog os Rows.fnExactBestStepRow.laid).forCall (fun _ _=>0) ⟨#[],JM,[]⟩
theorem reads(os:Os){H:Type}(enc:TypeId×Value→H): ∃places,DataW.whole enc Tryz.prog (start os).memory Tryz.f3.params.toList Rows.fnExactBestStepSpec.vars false JM.toList 8=some ([.agg [.nil,.nil],.lit (.int .i64 0)],[],places):=
 ⟨[],by kernel_rfl⟩
theorem lifted(os:Os)(started:os.Started)(H:Type)(enc:TypeId×Value→H)(F:Stop.Interp):
  ReturnsInHanded {} Tryz.checked os 3 .any ((OpenSpec.ofChange Rows.fnExactBestStepSpec).preRow enc Tryz.prog Tryz.f3 Rows.fnExactBestStepRow.domain false Rows.fnExactBestStepRow.laid) (((OpenSpec.ofChange Rows.fnExactBestStepSpec).at F).post enc Tryz.prog Tryz.f3 false true false false):=by
 obtain⟨places,hx⟩:=reads os enc;refine returnsInHanded_of_row (C:=Tryz.checked) (s:=OpenSpec.ofChange Rows.fnExactBestStepSpec) own started (by kernel_rfl) Tryz.func3
  (Sz (enc:=enc) (C:=Tryz.checked) false (World.laidAll Tryz.prog os Rows.fnExactBestStepRow.laid) JM (World.laidAll_os _ _ _) (World.shaped_of_ZipB (by kernel_rfl) (by kernel_rfl)) (by kernel_rfl)
   (OpenSpec.preRow_of_cond 3 hx (by kernel_rfl) (fun k hk=>by cases hk) (by kernel_rfl) (laidMet_laidAll _ (by kernel_rfl) (by kernel_rfl)))) ?_
 intro W base args ds gs before r5 lj _ _ _ um gd _;exact contract H enc W base args ds gs before r5 lj gd
theorem said:Rows.FnExactBestStepSaid:=
 OpenClaim.holds_of_cond 3 Tryz.f3 rfl rfl rfl rfl rfl rfl rfl ⟨rfl,rfl,rfl,rfl,rfl⟩ rfl rfl rfl rfl rfl (by kernel_rfl) Tryz.func3 closed
  (of_decide_eq_true (by kernel_rfl)) (by unfold Func.isWrapper;first|(rw [if_pos (by decide+kernel)];kernel_rfl)|(rw [if_neg (by decide+kernel)];exact⟨rfl,rfl⟩))
  fun os started H enc _ F=>by rw [OpenClaim.pre_eq_preRow];exact lifted os started H enc F
end Go.Proofs.YtlbojjldejlgaabGreat.fnExactBestStep
