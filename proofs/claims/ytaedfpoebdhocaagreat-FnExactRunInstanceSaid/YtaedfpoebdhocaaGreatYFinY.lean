/- The program's function returns what the reference's returns: laws.FnExactRunInstance returns true for all arguments, and leaves them as they were. Conditions: none beyond the row's own (no ring in the input). -/
import Derived.Test.YtaedfpoebdhocaaGreatYWalks5
import Derived.Test.YtaedfpoebdhocaaGreatYSeatP
import Derived.Test.YtaedfpoebdhocaaGreatYOpnC
import Derived.Test.YtaedfpoebdhocaaGreatYExI
import Derived.Test.YtaedfpoebdhocaaGreatRows
import Derived.Test.YtaedfpoebdhocaaGreatYFactsY
set_option maxRecDepth 100000
namespace Go.Proofs.YtaedfpoebdhocaaGreat.fnExactRunInstance
open Go Go.Lift Go.ChangeShapes Go.WideShapes Go.ChangeAt Go.RowKit
theorem own:ownKnob Tryz.prog.godebug=none:=by kernel_rfl
def types:PT Tryz.prog where
 I:=3
 S:=9
 sI:=40
 A:=176
 sA:=170
 C:=175
 E:=179
 sE:=177
 St:=181
 sSt:=87
 L:=172
 sL:=86
 Pt:=89
 sPt:=23
 R:=84
 sR:=22
 Pr:=25
 cI:=by kernel_rfl
 cS:=by kernel_rfl
 csI:=by kernel_rfl
 csA:=by kernel_rfl
 csE:=by kernel_rfl
 csSt:=by kernel_rfl
 csL:=by kernel_rfl
 csPt:=by kernel_rfl
 csR:=by kernel_rfl
 uI:=Tryz.underlying3
 uS:=Tryz.underlying9
 usI:=Tryz.underlying40
 usA:=Tryz.underlying170
 usE:=Tryz.underlying177
 usSt:=Tryz.underlying87
 usL:=Tryz.underlying86
 usPt:=Tryz.underlying23
 usR:=Tryz.underlying22
 fA:=⟨by kernel_rfl,_,Tryz.underlying176,rfl⟩
 fC:=⟨by kernel_rfl,_,Tryz.underlying175,rfl⟩
 fE:=⟨by kernel_rfl,_,Tryz.underlying179,rfl⟩
 fSt:=⟨by kernel_rfl,_,Tryz.underlying181,rfl⟩
 fL:=⟨by kernel_rfl,_,Tryz.underlying172,rfl⟩
 fPt:=⟨by kernel_rfl,_,Tryz.underlying89,rfl⟩
 fR:=⟨by kernel_rfl,_,Tryz.underlying84,rfl⟩
 fPr:=⟨by kernel_rfl,_,Tryz.underlying25,rfl⟩
theorem fInst:Flds Tryz.prog 50 3 [(types.I,0),(types.I,1),(types.sI,2)]:=⟨by kernel_rfl,_,Tryz.underlying50,rfl⟩
theorem contract(H:Type)(enc:TypeId×Value→H)(W:World)(base:Nat)(args:Array Value)(ds gs:List (DataW H))(before:List MemPlace)
  (hval: ∀(j:Nat) t v,Tryz.f7.params[j]? =some t→args[j]? =some v→Value.okWide Tryz.prog W .any base t v)
  (hW:DataW.Whole enc Tryz.prog Tryz.f7.params.toList Rows.fnExactRunInstanceSpec.vars false W args.toList ds gs before) (hsh:W.ShapedOpen Tryz.prog):
  Calls Tryz.prog 7 args W fun e W'=> ∃v,e= .returned v∧Rows.fnExactRunInstanceSpec.post enc Tryz.prog Tryz.f7 false true false false W args v W':=by obtain⟨G,hG⟩:=aI9 hsh;exact aIL [types.Pr,types.sI,50] Tryz.params7 rfl Tryz.underlying4 rfl (fun ds h=>by match ds,h with| [_,_,_],_=>rfl) k1 (aHM (by kernel_rfl)) hval hW hG (N8 (aF7 types) fun _ h=>by obtain⟨m,p,hp,rfl⟩:=h;exact N8 (aF8 types) fun _ h=>by obtain⟨l1,h1,rfl⟩:=h;exact N8 (aF9 types fInst) fun _ h=>by obtain⟨y2,h2,rfl⟩:=h;exact aHu (nY G (pL hp h1 h2)))
abbrev wit:Array Value:= #[.agg #[.slice none 0 0,.slice none 0 0],.slice none 0 0,.agg #[.int .i64 0,.int .i64 0,.slice none 0 0]]
noncomputable abbrev start(os:Os):World:=(World.laidAll Tryz.prog os Rows.fnExactRunInstanceRow.laid).forCall (fun _ _=>0) ⟨#[],wit,[]⟩
theorem reads(os:Os){H:Type}(enc:TypeId×Value→H): ∃places,DataW.whole enc Tryz.prog (start os).memory Tryz.f7.params.toList Rows.fnExactRunInstanceSpec.vars false wit.toList 8=some ([.agg [.nil,.nil],.nil,.agg [.lit (.int .i64 0),.lit (.int .i64 0),.nil]],[],places):=
 ⟨[],by kernel_rfl⟩
theorem lifted(os:Os)(started:os.Started)(H:Type)(enc:TypeId×Value→H)(F:Stop.Interp):
  ReturnsInHanded {} Tryz.checked os 7 .any ((OpenSpec.ofChange Rows.fnExactRunInstanceSpec).preRow enc Tryz.prog Tryz.f7 Rows.fnExactRunInstanceRow.domain false Rows.fnExactRunInstanceRow.laid) (((OpenSpec.ofChange Rows.fnExactRunInstanceSpec).at F).post enc Tryz.prog Tryz.f7 false true false false):=by
 obtain⟨places,hx⟩:=reads os enc;refine returnsInHanded_of_row (C:=Tryz.checked) (s:=OpenSpec.ofChange Rows.fnExactRunInstanceSpec) own started (by kernel_rfl) Tryz.func7
  (rA (enc:=enc) (C:=Tryz.checked) false (World.laidAll Tryz.prog os Rows.fnExactRunInstanceRow.laid) wit (World.laidAll_os _ _ _) (World.shaped_of_ZipB (by kernel_rfl) (by kernel_rfl)) (by kernel_rfl)
   (OpenSpec.preRow_of_cond 7 hx (by kernel_rfl) (fun k hk=>by cases hk) (by kernel_rfl) (laidMet_laidAll _ (by kernel_rfl) (by kernel_rfl)))) ?_
 intro W base args ds gs before hval hW _ _ _ hL hsh _;exact contract H enc W base args ds gs before hval hW hsh
theorem said:Rows.FnExactRunInstanceSaid:=
 OpenClaim.holds_of_cond 7 Tryz.f7 rfl rfl rfl rfl rfl rfl rfl ⟨rfl,rfl,rfl,rfl,rfl⟩ rfl rfl rfl rfl rfl (by kernel_rfl) Tryz.func7 closed
  (of_decide_eq_true (by kernel_rfl)) (by unfold Func.isWrapper;first|(rw [if_pos (by decide+kernel)];kernel_rfl)|(rw [if_neg (by decide+kernel)];exact⟨rfl,rfl⟩))
  fun os started H enc _ F=>by rw [OpenClaim.pre_eq_preRow];exact lifted os started H enc F
end Go.Proofs.YtaedfpoebdhocaaGreat.fnExactRunInstance
