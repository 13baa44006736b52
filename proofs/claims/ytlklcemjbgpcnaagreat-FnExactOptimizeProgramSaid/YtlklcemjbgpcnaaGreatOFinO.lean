/- The program's function returns what the reference's returns: laws.FnExactOptimizeProgram returns true for all arguments, and leaves them as they were. Conditions: none beyond the row's own (no ring in the input). -/
import Derived.Test.YtlklcemjbgpcnaaGreatOWalks3
import Derived.Test.YtlklcemjbgpcnaaGreatOSeatP
import Derived.Test.YtlklcemjbgpcnaaGreatOOpnA
import Derived.Test.YtlklcemjbgpcnaaGreatOFactsO
set_option maxRecDepth 100000
namespace Go.Proofs.YtlklcemjbgpcnaaGreat.fnExactOptimizeProgram
open Go Go.Lift Go.ChangeShapes Go.WideShapes Go.ChangeAt Go.RowKit
theorem own:ownKnob Tryz.prog.godebug=none:=by kernel_rfl
def types:A6 Tryz.prog where
 I:=3
 S:=9
 wV:=58
 A:=188
 gO:=182
 C:=187
 E:=191
 Ev:=189
 Bk:=193
 EC:=63
 L:=184
 Ez:=62
 A7:=65
 EA:=23
 R:=60
 EB:=22
 x0:=25
 Dq:=by kernel_rfl
 JA:=by kernel_rfl
 JD:=by kernel_rfl
 JC:=by kernel_rfl
 RV:=by kernel_rfl
 RZ:=by kernel_rfl
 RW:=by kernel_rfl
 RX:=by kernel_rfl
 RY:=by kernel_rfl
 wZ:=Tryz.underlying3
 K3:=Tryz.underlying9
 Uj:=Tryz.underlying58
 Uh:=Tryz.underlying182
 Ui:=Tryz.underlying189
 Un:=Tryz.underlying63
 Uk:=Tryz.underlying62
 Ul:=Tryz.underlying23
 Um:=Tryz.underlying22
 Ds:=⟨by kernel_rfl,_,Tryz.underlying188,rfl⟩
 Dt:=⟨by kernel_rfl,_,Tryz.underlying187,rfl⟩
 Du:=⟨by kernel_rfl,_,Tryz.underlying191,rfl⟩
 JM:=⟨by kernel_rfl,_,Tryz.underlying193,rfl⟩
 JI:=⟨by kernel_rfl,_,Tryz.underlying184,rfl⟩
 JK:=⟨by kernel_rfl,_,Tryz.underlying65,rfl⟩
 JL:=⟨by kernel_rfl,_,Tryz.underlying60,rfl⟩
 JJ:=⟨by kernel_rfl,_,Tryz.underlying25,rfl⟩
theorem contract(H:Type)(enc:TypeId×Value→H)(W:World)(base:Nat)(args:Array Value)(ds gs:List (DataW H))(before:List MemPlace)
  (y8: ∀(j:Nat) t v,Tryz.f3.params[j]? =some t→args[j]? =some v→Value.okWide Tryz.prog W .any base t v)
  (mf:DataW.Whole enc Tryz.prog Tryz.f3.params.toList Rows.fnExactOptimizeProgramSpec.vars false W args.toList ds gs before) (hU:W.ShapedOpen Tryz.prog):
  Calls Tryz.prog 3 args W fun e gE=> ∃v,e= .returned v∧Rows.fnExactOptimizeProgramSpec.post enc Tryz.prog Tryz.f3 false true false false W args v gE:=by obtain⟨G,kn⟩:=VH hU;exact VQ [types.x0,types.I] Tryz.params3 rfl Tryz.underlying4 rfl (fun ds h=>by match ds,h with| [_,_],_=>rfl) ct (agt (by kernel_rfl)) y8 mf kn (P1 (afU types) fun _ h=>by obtain⟨m,p,hp,rfl⟩:=h;exact P1 (ag8 types) fun _ h=>by obtain⟨ct,rfl⟩:=h;exact ag7 (amd G (amf hp ct)))
abbrev Lc:Array Value:= #[.agg #[.slice none 0 0,.slice none 0 0],.int .i64 0]
noncomputable abbrev start(os:Os):World:=(World.laidAll Tryz.prog os Rows.fnExactOptimizeProgramRow.laid).forCall (fun _ _=>0) ⟨#[],Lc,[]⟩
theorem reads(os:Os){H:Type}(enc:TypeId×Value→H): ∃places,DataW.whole enc Tryz.prog (start os).memory Tryz.f3.params.toList Rows.fnExactOptimizeProgramSpec.vars false Lc.toList 8=some ([.agg [.nil,.nil],.lit (.int .i64 0)],[],places):=
 ⟨[],by kernel_rfl⟩
theorem lifted(os:Os)(started:os.Started)(H:Type)(enc:TypeId×Value→H)(F:Stop.Interp):
  ReturnsInHanded {} Tryz.checked os 3 .any ((OpenSpec.ofChange Rows.fnExactOptimizeProgramSpec).preRow enc Tryz.prog Tryz.f3 Rows.fnExactOptimizeProgramRow.domain false Rows.fnExactOptimizeProgramRow.laid) (((OpenSpec.ofChange Rows.fnExactOptimizeProgramSpec).at F).post enc Tryz.prog Tryz.f3 false true false false):=by
 obtain⟨places,hx⟩:=reads os enc;refine returnsInHanded_of_row (C:=Tryz.checked) (s:=OpenSpec.ofChange Rows.fnExactOptimizeProgramSpec) own started (by kernel_rfl) Tryz.func3
  (V7 (enc:=enc) (C:=Tryz.checked) false (World.laidAll Tryz.prog os Rows.fnExactOptimizeProgramRow.laid) Lc (World.laidAll_os _ _ _) (World.shaped_of_ZipB (by kernel_rfl) (by kernel_rfl)) (by kernel_rfl)
   (OpenSpec.preRow_of_cond 3 hx (by kernel_rfl) (fun k hk=>by cases hk) (by kernel_rfl) (laidMet_laidAll _ (by kernel_rfl) (by kernel_rfl)))) ?_
 intro W base args ds gs before y8 mf _ _ _ vI hU _;exact contract H enc W base args ds gs before y8 mf hU
theorem said:Rows.FnExactOptimizeProgramSaid:=
 OpenClaim.holds_of_cond 3 Tryz.f3 rfl rfl rfl rfl rfl rfl rfl ⟨rfl,rfl,rfl,rfl,rfl⟩ rfl rfl rfl rfl rfl (by kernel_rfl) Tryz.func3 closed
  (of_decide_eq_true (by kernel_rfl)) (by unfold Func.isWrapper;first|(rw [if_pos (by decide+kernel)];kernel_rfl)|(rw [if_neg (by decide+kernel)];exact⟨rfl,rfl⟩))
  fun os started H enc _ F=>by rw [OpenClaim.pre_eq_preRow];exact lifted os started H enc F
end Go.Proofs.YtlklcemjbgpcnaaGreat.fnExactOptimizeProgram
