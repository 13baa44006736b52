/- The program's function returns what the reference's returns: laws.FnExactStripMine returns true for all arguments, and leaves them as they were. Conditions: none beyond the row's own (no ring in the input). -/
import Derived.Test.YtlbojjldejlgaaaGreatTWalks6
import Derived.Test.YtlbojjldejlgaaaGreatTSeatP
import Derived.Test.YtlbojjldejlgaaaGreatTOpnC
import Derived.Test.YtlbojjldejlgaaaGreatTEx1
import Derived.Test.YtlbojjldejlgaaaGreatRows
import Derived.Test.YtlbojjldejlgaaaGreatTFactsT
set_option maxRecDepth 100000
namespace Go.Proofs.YtlbojjldejlgaaaGreat.fnExactStripMine
open Go Go.Lift Go.ChangeShapes Go.WideShapes Go.ChangeAt Go.RowKit
theorem own:ownKnob Tryz.prog.godebug=none:=by kernel_rfl
def types:PT Tryz.prog where
 I:=3
 S:=9
 sI:=44
 A:=182
 sA:=176
 C:=181
 E:=185
 sE:=183
 St:=187
 sSt:=92
 L:=178
 sL:=91
 Pt:=94
 sPt:=23
 R:=89
 sR:=22
 Pr:=25
 cI:=by kernel_rfl
 cS:=by kernel_rfl
 csI:=by kernel_rfl
 csA:=by kernel_rfl
 csE:=by kernel_rfl
 csSt:=by kernel_rfl
 csL:=by kernel_rfl
 csPt:=by kernel_rfl
 csR:=by kernel_rfl
 uI:=Tryz.underlying3
 uS:=Tryz.underlying9
 usI:=Tryz.underlying44
 usA:=Tryz.underlying176
 usE:=Tryz.underlying183
 usSt:=Tryz.underlying92
 usL:=Tryz.underlying91
 usPt:=Tryz.underlying23
 usR:=Tryz.underlying22
 fA:=⟨by kernel_rfl,_,Tryz.underlying182,rfl⟩
 fC:=⟨by kernel_rfl,_,Tryz.underlying181,rfl⟩
 fE:=⟨by kernel_rfl,_,Tryz.underlying185,rfl⟩
 fSt:=⟨by kernel_rfl,_,Tryz.underlying187,rfl⟩
 fL:=⟨by kernel_rfl,_,Tryz.underlying178,rfl⟩
 fPt:=⟨by kernel_rfl,_,Tryz.underlying94,rfl⟩
 fR:=⟨by kernel_rfl,_,Tryz.underlying89,rfl⟩
 fPr:=⟨by kernel_rfl,_,Tryz.underlying25,rfl⟩
theorem contract(H:Type)(enc:TypeId×Value→H)(W:World)(base:Nat)(args:Array Value)(ds gs:List (DataW H))(before:List MemPlace)
  (hval: ∀(j:Nat) t v,Tryz.f5.params[j]? =some t→args[j]? =some v→Value.okWide Tryz.prog W .any base t v)
  (hW:DataW.Whole enc Tryz.prog Tryz.f5.params.toList Rows.fnExactStripMineSpec.vars false W args.toList ds gs before) (hsh:W.ShapedOpen Tryz.prog):
  Calls Tryz.prog 5 args W fun e W'=> ∃v,e= .returned v∧Rows.fnExactStripMineSpec.post enc Tryz.prog Tryz.f5 false true false false W args v W':=by obtain⟨G,hG⟩:=aNQ hsh;exact aNi [types.Pr,types.I,types.I,types.I] Tryz.params5 rfl Tryz.underlying4 rfl (fun ds h=>by match ds,h with| [_,_,_,_],_=>rfl) k1 (aL3 (by kernel_rfl)) hval hW hG (G5 (aJX types) fun _ h=>by obtain⟨m,p,hp,rfl⟩:=h;exact G5 (aDM types) fun _ h=>by obtain⟨k1,rfl⟩:=h;exact G5 (aDM types) fun _ h=>by obtain⟨k2,rfl⟩:=h;exact G5 (aDM types) fun _ h=>by obtain⟨k3,rfl⟩:=h;exact aLA (tI G (wD hp k1 k2 k3)))
abbrev wit:Array Value:= #[.agg #[.slice none 0 0,.slice none 0 0],.int .i64 0,.int .i64 0,.int .i64 0]
noncomputable abbrev start(os:Os):World:=(World.laidAll Tryz.prog os Rows.fnExactStripMineRow.laid).forCall (fun _ _=>0) ⟨#[],wit,[]⟩
theorem reads(os:Os){H:Type}(enc:TypeId×Value→H): ∃places,DataW.whole enc Tryz.prog (start os).memory Tryz.f5.params.toList Rows.fnExactStripMineSpec.vars false wit.toList 8=some ([.agg [.nil,.nil],.lit (.int .i64 0),.lit (.int .i64 0),.lit (.int .i64 0)],[],places):=
 ⟨[],by kernel_rfl⟩
theorem lifted(os:Os)(started:os.Started)(H:Type)(enc:TypeId×Value→H)(F:Stop.Interp):
  ReturnsInHanded {} Tryz.checked os 5 .any ((OpenSpec.ofChange Rows.fnExactStripMineSpec).preRow enc Tryz.prog Tryz.f5 Rows.fnExactStripMineRow.domain false Rows.fnExactStripMineRow.laid) (((OpenSpec.ofChange Rows.fnExactStripMineSpec).at F).post enc Tryz.prog Tryz.f5 false true false false):=by
 obtain⟨places,hx⟩:=reads os enc;refine returnsInHanded_of_row (C:=Tryz.checked) (s:=OpenSpec.ofChange Rows.fnExactStripMineSpec) own started (by kernel_rfl) Tryz.func5
  (vN (enc:=enc) (C:=Tryz.checked) false (World.laidAll Tryz.prog os Rows.fnExactStripMineRow.laid) wit (World.laidAll_os _ _ _) (World.shaped_of_ZipB (by kernel_rfl) (by kernel_rfl)) (by kernel_rfl)
   (OpenSpec.preRow_of_cond 5 hx (by kernel_rfl) (fun k hk=>by cases hk) (by kernel_rfl) (laidMet_laidAll _ (by kernel_rfl) (by kernel_rfl)))) ?_
 intro W base args ds gs before hval hW _ _ _ hL hsh _;exact contract H enc W base args ds gs before hval hW hsh
theorem said:Rows.FnExactStripMineSaid:=
 OpenClaim.holds_of_cond 5 Tryz.f5 rfl rfl rfl rfl rfl rfl rfl ⟨rfl,rfl,rfl,rfl,rfl⟩ rfl rfl rfl rfl rfl (by kernel_rfl) Tryz.func5 closed
  (of_decide_eq_true (by kernel_rfl)) (by unfold Func.isWrapper;first|(rw [if_pos (by decide+kernel)];kernel_rfl)|(rw [if_neg (by decide+kernel)];exact⟨rfl,rfl⟩))
  fun os started H enc _ F=>by rw [OpenClaim.pre_eq_preRow];exact lifted os started H enc F
end Go.Proofs.YtlbojjldejlgaaaGreat.fnExactStripMine
