/- The program's function returns what the reference's returns: laws.FnExactRunOrder returns true for all arguments, and leaves them as they were. Conditions: none beyond the row's own (no ring in the input). -/
import Derived.Test.YtcihigfifglboaaGreatWWalks5
import Derived.Test.YtcihigfifglboaaGreatWSeatP
import Derived.Test.YtcihigfifglboaaGreatWOpnC
import Derived.Test.YtcihigfifglboaaGreatWExO
import Derived.Test.YtcihigfifglboaaGreatRows
import Derived.Test.YtcihigfifglboaaGreatWFactsW
set_option maxRecDepth 100000
namespace Go.Proofs.YtcihigfifglboaaGreat.fnExactRunOrder
open Go Go.Lift Go.ChangeShapes Go.WideShapes Go.ChangeAt Go.RowKit
theorem own:ownKnob Tryz.prog.godebug=none:=by kernel_rfl
def types:PT Tryz.prog where
 I:=3
 S:=9
 sI:=39
 A:=185
 sA:=179
 C:=184
 E:=188
 sE:=186
 St:=190
 sSt:=102
 L:=181
 sL:=101
 Pt:=104
 sPt:=23
 R:=99
 sR:=22
 Pr:=25
 cI:=by kernel_rfl
 cS:=by kernel_rfl
 csI:=by kernel_rfl
 csA:=by kernel_rfl
 csE:=by kernel_rfl
 csSt:=by kernel_rfl
 csL:=by kernel_rfl
 csPt:=by kernel_rfl
 csR:=by kernel_rfl
 uI:=Tryz.underlying3
 uS:=Tryz.underlying9
 usI:=Tryz.underlying39
 usA:=Tryz.underlying179
 usE:=Tryz.underlying186
 usSt:=Tryz.underlying102
 usL:=Tryz.underlying101
 usPt:=Tryz.underlying23
 usR:=Tryz.underlying22
 fA:=⟨by kernel_rfl,_,Tryz.underlying185,rfl⟩
 fC:=⟨by kernel_rfl,_,Tryz.underlying184,rfl⟩
 fE:=⟨by kernel_rfl,_,Tryz.underlying188,rfl⟩
 fSt:=⟨by kernel_rfl,_,Tryz.underlying190,rfl⟩
 fL:=⟨by kernel_rfl,_,Tryz.underlying181,rfl⟩
 fPt:=⟨by kernel_rfl,_,Tryz.underlying104,rfl⟩
 fR:=⟨by kernel_rfl,_,Tryz.underlying99,rfl⟩
 fPr:=⟨by kernel_rfl,_,Tryz.underlying25,rfl⟩
theorem contract(H:Type)(enc:TypeId×Value→H)(W:World)(base:Nat)(args:Array Value)(ds gs:List (DataW H))(before:List MemPlace)
  (hval: ∀(j:Nat) t v,Tryz.f5.params[j]? =some t→args[j]? =some v→Value.okWide Tryz.prog W .any base t v)
  (hW:DataW.Whole enc Tryz.prog Tryz.f5.params.toList Rows.fnExactRunOrderSpec.vars false W args.toList ds gs before) (hsh:W.ShapedOpen Tryz.prog):
  Calls Tryz.prog 5 args W fun e W'=> ∃v,e= .returned v∧Rows.fnExactRunOrderSpec.post enc Tryz.prog Tryz.f5 false true false false W args v W':=by obtain⟨G,hG⟩:=aJh hsh;exact aIS [types.Pr,types.sI,types.sI] Tryz.params5 rfl Tryz.underlying4 rfl (fun ds h=>by match ds,h with| [_,_,_],_=>rfl) k1 (aHV (by kernel_rfl)) hval hW hG (N7 (aGj types) fun _ h=>by obtain⟨m,p,hp,rfl⟩:=h;exact N7 (aBZ types) fun _ h=>by obtain⟨l1,h1,rfl⟩:=h;exact N7 (aBZ types) fun _ h=>by obtain⟨l2,h2,rfl⟩:=h;exact aHD (qU G (tN hp h1 h2)))
abbrev wit:Array Value:= #[.agg #[.slice none 0 0,.slice none 0 0],.slice none 0 0,.slice none 0 0]
noncomputable abbrev start(os:Os):World:=(World.laidAll Tryz.prog os Rows.fnExactRunOrderRow.laid).forCall (fun _ _=>0) ⟨#[],wit,[]⟩
theorem reads(os:Os){H:Type}(enc:TypeId×Value→H): ∃places,DataW.whole enc Tryz.prog (start os).memory Tryz.f5.params.toList Rows.fnExactRunOrderSpec.vars false wit.toList 8=some ([.agg [.nil,.nil],.nil,.nil],[],places):=
 ⟨[],by kernel_rfl⟩
theorem lifted(os:Os)(started:os.Started)(H:Type)(enc:TypeId×Value→H)(F:Stop.Interp):
  ReturnsInHanded {} Tryz.checked os 5 .any ((OpenSpec.ofChange Rows.fnExactRunOrderSpec).preRow enc Tryz.prog Tryz.f5 Rows.fnExactRunOrderRow.domain false Rows.fnExactRunOrderRow.laid) (((OpenSpec.ofChange Rows.fnExactRunOrderSpec).at F).post enc Tryz.prog Tryz.f5 false true false false):=by
 obtain⟨places,hx⟩:=reads os enc;refine returnsInHanded_of_row (C:=Tryz.checked) (s:=OpenSpec.ofChange Rows.fnExactRunOrderSpec) own started (by kernel_rfl) Tryz.func5
  (q9 (enc:=enc) (C:=Tryz.checked) false (World.laidAll Tryz.prog os Rows.fnExactRunOrderRow.laid) wit (World.laidAll_os _ _ _) (World.shaped_of_ZipB (by kernel_rfl) (by kernel_rfl)) (by kernel_rfl)
   (OpenSpec.preRow_of_cond 5 hx (by kernel_rfl) (fun k hk=>by cases hk) (by kernel_rfl) (laidMet_laidAll _ (by kernel_rfl) (by kernel_rfl)))) ?_
 intro W base args ds gs before hval hW _ _ _ hL hsh _;exact contract H enc W base args ds gs before hval hW hsh
theorem said:Rows.FnExactRunOrderSaid:=
 OpenClaim.holds_of_cond 5 Tryz.f5 rfl rfl rfl rfl rfl rfl rfl ⟨rfl,rfl,rfl,rfl,rfl⟩ rfl rfl rfl rfl rfl (by kernel_rfl) Tryz.func5 closed
  (of_decide_eq_true (by kernel_rfl)) (by unfold Func.isWrapper;first|(rw [if_pos (by decide+kernel)];kernel_rfl)|(rw [if_neg (by decide+kernel)];exact⟨rfl,rfl⟩))
  fun os started H enc _ F=>by rw [OpenClaim.pre_eq_preRow];exact lifted os started H enc F
end Go.Proofs.YtcihigfifglboaaGreat.fnExactRunOrder
