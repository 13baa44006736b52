/- The program's function returns what the reference's returns: laws.FnExactReverseLoop returns true for all arguments, and leaves them as they were. Conditions: none beyond the row's own (no ring in the input). -/
import Derived.Test.YtlbojjldejlgaaaGreatVWalks3
import Derived.Test.YtlbojjldejlgaaaGreatVSeatP
import Derived.Test.YtlbojjldejlgaaaGreatVOpnA
import Derived.Test.YtlbojjldejlgaaaGreatVFactsV
set_option maxRecDepth 100000
namespace Go.Proofs.YtlbojjldejlgaaaGreat.fnExactReverseLoop
open Go Go.Lift Go.ChangeShapes Go.WideShapes Go.ChangeAt Go.RowKit
theorem own:ownKnob Tryz.prog.godebug=none:=by kernel_rfl
def types:uF Tryz.prog where
 I:=3
 S:=9
 q6:=44
 A:=182
 nm:=176
 C:=181
 E:=185
 wW:=183
 uK:=187
 w3:=92
 L:=178
 wY:=91
 uG:=94
 w1:=23
 R:=89
 w2:=22
 rF:=25
 vm:=by kernel_rfl
 Av:=by kernel_rfl
 Az:=by kernel_rfl
 Ay:=by kernel_rfl
 GW:=by kernel_rfl
 G0:=by kernel_rfl
 GX:=by kernel_rfl
 GY:=by kernel_rfl
 GZ:=by kernel_rfl
 q8:=Tryz.underlying3
 Ce:=Tryz.underlying9
 Jx:=Tryz.underlying44
 Jv:=Tryz.underlying176
 Jw:=Tryz.underlying183
 JB:=Tryz.underlying92
 Jy:=Tryz.underlying91
 Jz:=Tryz.underlying23
 JA:=Tryz.underlying22
 vu:=⟨by kernel_rfl,_,Tryz.underlying182,rfl⟩
 vv:=⟨by kernel_rfl,_,Tryz.underlying181,rfl⟩
 vw:=⟨by kernel_rfl,_,Tryz.underlying185,rfl⟩
 AJ:=⟨by kernel_rfl,_,Tryz.underlying187,rfl⟩
 AE:=⟨by kernel_rfl,_,Tryz.underlying178,rfl⟩
 AG:=⟨by kernel_rfl,_,Tryz.underlying94,rfl⟩
 AH:=⟨by kernel_rfl,_,Tryz.underlying89,rfl⟩
 AF:=⟨by kernel_rfl,_,Tryz.underlying25,rfl⟩
theorem contract(H:Type)(enc:TypeId×Value→H)(W:World)(base:Nat)(args:Array Value)(ds gs:List (DataW H))(before:List MemPlace)
  (oL: ∀(j:Nat) t v,Tryz.f7.params[j]? =some t→args[j]? =some v→Value.okWide Tryz.prog W .any base t v)
  (jj:DataW.Whole enc Tryz.prog Tryz.f7.params.toList Rows.fnExactReverseLoopSpec.vars false W args.toList ds gs before) (fz:W.ShapedOpen Tryz.prog):
  Calls Tryz.prog 7 args W fun e e3=> ∃v,e= .returned v∧Rows.fnExactReverseLoopSpec.post enc Tryz.prog Tryz.f7 false true false false W args v e3:=by obtain⟨G,iH⟩:=Tu fz;exact TT [types.rF,types.I,types.I] Tryz.params7 rfl Tryz.underlying4 rfl (fun ds h=>by match ds,h with| [_,_,_],_=>rfl) b6 (Tn (by kernel_rfl)) oL jj iH (zp (QU types) fun _ h=>by obtain⟨m,p,hp,rfl⟩:=h;exact zp (F6 types) fun _ h=>by obtain⟨b6,rfl⟩:=h;exact zp (F6 types) fun _ h=>by obtain⟨b0,rfl⟩:=h;exact Sw (WY G (W9 hp b6 b0)))
abbrev Co:Array Value:= #[.agg #[.slice none 0 0,.slice none 0 0],.int .i64 0,.int .i64 0]
noncomputable abbrev start(os:Os):World:=(World.laidAll Tryz.prog os Rows.fnExactReverseLoopRow.laid).forCall (fun _ _=>0) ⟨#[],Co,[]⟩
theorem reads(os:Os){H:Type}(enc:TypeId×Value→H): ∃places,DataW.whole enc Tryz.prog (start os).memory Tryz.f7.params.toList Rows.fnExactReverseLoopSpec.vars false Co.toList 8=some ([.agg [.nil,.nil],.lit (.int .i64 0),.lit (.int .i64 0)],[],places):=
 ⟨[],by kernel_rfl⟩
theorem lifted(os:Os)(started:os.Started)(H:Type)(enc:TypeId×Value→H)(F:Stop.Interp):
  ReturnsInHanded {} Tryz.checked os 7 .any ((OpenSpec.ofChange Rows.fnExactReverseLoopSpec).preRow enc Tryz.prog Tryz.f7 Rows.fnExactReverseLoopRow.domain false Rows.fnExactReverseLoopRow.laid) (((OpenSpec.ofChange Rows.fnExactReverseLoopSpec).at F).post enc Tryz.prog Tryz.f7 false true false false):=by
 obtain⟨places,hx⟩:=reads os enc;refine returnsInHanded_of_row (C:=Tryz.checked) (s:=OpenSpec.ofChange Rows.fnExactReverseLoopSpec) own started (by kernel_rfl) Tryz.func7
  (Xv (enc:=enc) (C:=Tryz.checked) false (World.laidAll Tryz.prog os Rows.fnExactReverseLoopRow.laid) Co (World.laidAll_os _ _ _) (World.shaped_of_ZipB (by kernel_rfl) (by kernel_rfl)) (by kernel_rfl)
   (OpenSpec.preRow_of_cond 7 hx (by kernel_rfl) (fun k hk=>by cases hk) (by kernel_rfl) (laidMet_laidAll _ (by kernel_rfl) (by kernel_rfl)))) ?_
 intro W base args ds gs before oL jj _ _ _ sq fz _;exact contract H enc W base args ds gs before oL jj fz
theorem said:Rows.FnExactReverseLoopSaid:=
 OpenClaim.holds_of_cond 7 Tryz.f7 rfl rfl rfl rfl rfl rfl rfl ⟨rfl,rfl,rfl,rfl,rfl⟩ rfl rfl rfl rfl rfl (by kernel_rfl) Tryz.func7 closed
  (of_decide_eq_true (by kernel_rfl)) (by unfold Func.isWrapper;first|(rw [if_pos (by decide+kernel)];kernel_rfl)|(rw [if_neg (by decide+kernel)];exact⟨rfl,rfl⟩))
  fun os started H enc _ F=>by rw [OpenClaim.pre_eq_preRow];exact lifted os started H enc F
end Go.Proofs.YtlbojjldejlgaaaGreat.fnExactReverseLoop
