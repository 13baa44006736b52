import Derived.Test.YtlbojjldejlgaaaGreatTRowB
import Derived.Test.YtlbojjldejlgaaaGreatRows
set_option maxRecDepth 100000
namespace Go.Proofs.YtlbojjldejlgaaaGreat.fnExactStripMine
open Go Go.Lift Go.ChangeShapes Go.WideShapes Go.ChangeAt Go.RowKit
noncomputable abbrev PP:Program:=Tryz.pinned.checked.prog
noncomputable abbrev FN:Func:=Tryz.f5
noncomputable abbrev SS:ChangeSpec:=(OpenSpec.ofChange Rows.fnExactStripMineSpec).bare
noncomputable abbrev CC:OpenClaim:=Rows.fnExactStripMineRow
theorem k0:(CC.wf (OpenSpec.ofChange SS))=true:=by kernel_rfl
theorem k1:(laidOutB PP)=true:=by kernel_rfl
theorem k2:(mapsRowed PP)=true:=by kernel_rfl
theorem k3:(FN.params.all (PP.readableRec ·))=true:=by kernel_rfl
theorem k4:(namedTie PP CC.named SS.vars)=true:=by kernel_rfl
theorem k5:((CC.stops==[]))=true:=by kernel_rfl
theorem k6:((PP.stops==[]))=true:=by kernel_rfl
theorem k7:((CC.knobs==[]))=true:=by kernel_rfl
theorem k8:((PP.stopKnobs==[]))=true:=by kernel_rfl
theorem k9:((CC.inPlace==PP.inPlace 5))=true:=by kernel_rfl
theorem k10:((CC.unfollowed==PP.unfollowed 5))=true:=by kernel_rfl
theorem k11:((CC.recurses==PP.recurses 5))=true:=by kernel_rfl
theorem k12:((CC.named==PP.varsNamed 5))=true:=by kernel_rfl
theorem k13:((CC.maps==(FN.params.toList++SS.plain.varTypes PP).any (PP.mapsRec ·)))=true:=by kernel_rfl
theorem k14:((CC.ifaces==(FN.params.toList++SS.plain.varTypes PP).any (PP.ifacesRec ·)))=true:=by kernel_rfl
theorem k15:((CC.mapsOut==PP.mapsAmong FN.resultTypes.toList))=true:=by kernel_rfl
theorem k16:((CC.loops==(FN.params.toList++SS.plain.varTypes PP).any (PP.loopsFrom ·)))=true:=by kernel_rfl
theorem k17:((CC.wideKeys==(FN.params.toList++SS.plain.varTypes PP++FN.resultTypes.toList).any (PP.wideKeysFrom ·)))=true:=by kernel_rfl
theorem k18:(SS.vars.all (PP.varReadable ·))=true:=by kernel_rfl
theorem k19:(FN.resultTypes.all fun t=>PP.readableRec t&&decide (t<PP.types.size))=true:=by kernel_rfl
theorem k20:((CC.ifacesOut==FN.resultTypes.toList.any (PP.ifacesRec ·)))=true:=by kernel_rfl
theorem k21:((CC.loopsOut==FN.resultTypes.toList.any (PP.loopsFrom ·)))=true:=by kernel_rfl
theorem k22:((CC.plainKeys==PP.plainKeys))=true:=by kernel_rfl
theorem k23:(CC.shortTexts.isNone)=true:=by kernel_rfl
theorem k24:(PP.stopsHeard)=true:=by kernel_rfl
theorem k25:(PP.mayEnter)=true:=by kernel_rfl
theorem k26:((CC.lifted==PP.liftsFinal))=true:=by kernel_rfl
theorem k27:((PP.make==some CC.make))=true:=by kernel_rfl
theorem k28:((CC.kinds==(if CC.domain.isEmpty then [] else FN.params.toList.map fun t=>match PP.underlying t with|some (.int k)=>some k|_=>none)))=true:=by kernel_rfl
theorem k29:((CC.pinned==CC.pinnedBy))=true:=by kernel_rfl
theorem k30:((CC.veiled==(FN.params.toList++SS.plain.varTypes PP++FN.resultTypes.toList).any (PP.veiledRec ·)))=true:=by kernel_rfl
theorem k31:(CC.veiledFits PP FN.params.toList (FN.params.toList++SS.plain.varTypes PP++FN.resultTypes.toList))=true:=by kernel_rfl
theorem closed:joinedFacts PP 5 FN SS CC=true:=by unfold joinedFacts;simp only [Bool.and_eq_true];exact⟨⟨⟨⟨⟨⟨⟨⟨⟨⟨⟨⟨⟨⟨⟨⟨⟨⟨⟨⟨⟨⟨⟨⟨⟨⟨⟨⟨⟨⟨⟨k0,k1⟩,k2⟩,k3⟩,k4⟩,k5⟩,k6⟩,k7⟩,k8⟩,k9⟩,k10⟩,k11⟩,k12⟩,k13⟩,k14⟩,k15⟩,k16⟩,k17⟩,k18⟩,k19⟩,k20⟩,k21⟩,k22⟩,k23⟩,k24⟩,k25⟩,k26⟩,k27⟩,k28⟩,k29⟩,k30⟩,k31⟩
end Go.Proofs.YtlbojjldejlgaaaGreat.fnExactStripMine
