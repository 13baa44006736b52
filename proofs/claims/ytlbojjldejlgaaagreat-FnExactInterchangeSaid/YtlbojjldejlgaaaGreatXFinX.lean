/- The program's function returns what the reference's returns: laws.FnExactInterchange returns true for all arguments, and leaves them as they were. Conditions: none beyond the row's own (no ring in the input). -/
import Derived.Test.YtlbojjldejlgaaaGreatXWalks4
import Derived.Test.YtlbojjldejlgaaaGreatXSeatP
import Derived.Test.YtlbojjldejlgaaaGreatXOpnA
import Derived.Test.YtlbojjldejlgaaaGreatXFactsX
set_option maxRecDepth 100000
namespace Go.Proofs.YtlbojjldejlgaaaGreat.fnExactInterchange
open Go Go.Lift Go.ChangeShapes Go.WideShapes Go.ChangeAt Go.RowKit
theorem own:ownKnob Tryz.prog.godebug=none:=by kernel_rfl
def types:ux Tryz.prog where
 I:=3
 S:=9
 q3:=44
 A:=182
 nk:=176
 C:=181
 E:=185
 wO:=183
 uC:=187
 wU:=92
 L:=178
 wQ:=91
 uy:=94
 wR:=23
 R:=89
 wT:=22
 rv:=25
 vb:=by kernel_rfl
 Ag:=by kernel_rfl
 Ak:=by kernel_rfl
 Aj:=by kernel_rfl
 Gz:=by kernel_rfl
 GD:=by kernel_rfl
 GA:=by kernel_rfl
 GB:=by kernel_rfl
 GC:=by kernel_rfl
 q6:=Tryz.underlying3
 B1:=Tryz.underlying9
 Je:=Tryz.underlying44
 Jc:=Tryz.underlying176
 Jd:=Tryz.underlying183
 Ji:=Tryz.underlying92
 Jf:=Tryz.underlying91
 Jg:=Tryz.underlying23
 Jh:=Tryz.underlying22
 vg:=⟨by kernel_rfl,_,Tryz.underlying182,rfl⟩
 vh:=⟨by kernel_rfl,_,Tryz.underlying181,rfl⟩
 vi:=⟨by kernel_rfl,_,Tryz.underlying185,rfl⟩
 As:=⟨by kernel_rfl,_,Tryz.underlying187,rfl⟩
 Ao:=⟨by kernel_rfl,_,Tryz.underlying178,rfl⟩
 Aq:=⟨by kernel_rfl,_,Tryz.underlying94,rfl⟩
 Ar:=⟨by kernel_rfl,_,Tryz.underlying89,rfl⟩
 Ap:=⟨by kernel_rfl,_,Tryz.underlying25,rfl⟩
theorem contract(H:Type)(enc:TypeId×Value→H)(W:World)(base:Nat)(args:Array Value)(ds gs:List (DataW H))(before:List MemPlace)
  (oJ: ∀(j:Nat) t v,Tryz.f6.params[j]? =some t→args[j]? =some v→Value.okWide Tryz.prog W .any base t v)
  (jd:DataW.Whole enc Tryz.prog Tryz.f6.params.toList Rows.fnExactInterchangeSpec.vars false W args.toList ds gs before) (fw:W.ShapedOpen Tryz.prog):
  Calls Tryz.prog 6 args W fun e eZ=> ∃v,e= .returned v∧Rows.fnExactInterchangeSpec.post enc Tryz.prog Tryz.f6 false true false false W args v eZ:=by obtain⟨G,iD⟩:=Tj fw;exact SN [types.rv,types.I,types.I] Tryz.params6 rfl Tryz.underlying4 rfl (fun ds h=>by match ds,h with| [_,_,_],_=>rfl) b6 (Sa (by kernel_rfl)) oJ jd iD (zd (RA types) fun _ h=>by obtain⟨m,p,hp,rfl⟩:=h;exact zd (Fu types) fun _ h=>by obtain⟨b6,rfl⟩:=h;exact zd (Fu types) fun _ h=>by obtain⟨bZ,rfl⟩:=h;exact Sj (Wo G (Ww hp b6 bZ)))
abbrev Cb:Array Value:= #[.agg #[.slice none 0 0,.slice none 0 0],.int .i64 0,.int .i64 0]
noncomputable abbrev start(os:Os):World:=(World.laidAll Tryz.prog os Rows.fnExactInterchangeRow.laid).forCall (fun _ _=>0) ⟨#[],Cb,[]⟩
theorem reads(os:Os){H:Type}(enc:TypeId×Value→H): ∃places,DataW.whole enc Tryz.prog (start os).memory Tryz.f6.params.toList Rows.fnExactInterchangeSpec.vars false Cb.toList 8=some ([.agg [.nil,.nil],.lit (.int .i64 0),.lit (.int .i64 0)],[],places):=
 ⟨[],by kernel_rfl⟩
theorem lifted(os:Os)(started:os.Started)(H:Type)(enc:TypeId×Value→H)(F:Stop.Interp):
  ReturnsInHanded {} Tryz.checked os 6 .any ((OpenSpec.ofChange Rows.fnExactInterchangeSpec).preRow enc Tryz.prog Tryz.f6 Rows.fnExactInterchangeRow.domain false Rows.fnExactInterchangeRow.laid) (((OpenSpec.ofChange Rows.fnExactInterchangeSpec).at F).post enc Tryz.prog Tryz.f6 false true false false):=by
 obtain⟨places,hx⟩:=reads os enc;refine returnsInHanded_of_row (C:=Tryz.checked) (s:=OpenSpec.ofChange Rows.fnExactInterchangeSpec) own started (by kernel_rfl) Tryz.func6
  (WE (enc:=enc) (C:=Tryz.checked) false (World.laidAll Tryz.prog os Rows.fnExactInterchangeRow.laid) Cb (World.laidAll_os _ _ _) (World.shaped_of_ZipB (by kernel_rfl) (by kernel_rfl)) (by kernel_rfl)
   (OpenSpec.preRow_of_cond 6 hx (by kernel_rfl) (fun k hk=>by cases hk) (by kernel_rfl) (laidMet_laidAll _ (by kernel_rfl) (by kernel_rfl)))) ?_
 intro W base args ds gs before oJ jd _ _ _ sf fw _;exact contract H enc W base args ds gs before oJ jd fw
theorem said:Rows.FnExactInterchangeSaid:=
 OpenClaim.holds_of_cond 6 Tryz.f6 rfl rfl rfl rfl rfl rfl rfl ⟨rfl,rfl,rfl,rfl,rfl⟩ rfl rfl rfl rfl rfl (by kernel_rfl) Tryz.func6 closed
  (of_decide_eq_true (by kernel_rfl)) (by unfold Func.isWrapper;first|(rw [if_pos (by decide+kernel)];kernel_rfl)|(rw [if_neg (by decide+kernel)];exact⟨rfl,rfl⟩))
  fun os started H enc _ F=>by rw [OpenClaim.pre_eq_preRow];exact lifted os started H enc F
end Go.Proofs.YtlbojjldejlgaaaGreat.fnExactInterchange
