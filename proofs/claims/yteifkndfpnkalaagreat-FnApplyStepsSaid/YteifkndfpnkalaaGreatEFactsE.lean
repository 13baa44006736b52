import Derived.Test.YteifkndfpnkalaaGreatERowB
import Derived.Test.YteifkndfpnkalaaGreatRows
set_option maxRecDepth 100000
namespace Go.Proofs.YteifkndfpnkalaaGreat.fnApplySteps
open Go Go.Lift Go.ChangeShapes Go.WideShapes Go.ChangeAt Go.RowKit
noncomputable abbrev PP:Program:=Tryz.pinned.checked.prog
noncomputable abbrev kf:Func:=Tryz.f4
noncomputable abbrev iK:ChangeSpec:=(OpenSpec.ofChange Rows.fnApplyStepsSpec).bare
noncomputable abbrev gR:OpenClaim:=Rows.fnApplyStepsRow
theorem lD:(gR.wf (OpenSpec.ofChange iK))=true:=by kernel_rfl
theorem eM:(laidOutB PP)=true:=by kernel_rfl
theorem cF:(mapsRowed PP)=true:=by kernel_rfl
theorem ey:(kf.params.all (PP.readableRec ·))=true:=by kernel_rfl
theorem za:(namedTie PP gR.named iK.vars)=true:=by kernel_rfl
theorem zb:((gR.stops==[]))=true:=by kernel_rfl
theorem alF:((PP.stops==[]))=true:=by kernel_rfl
theorem alG:((gR.knobs==[]))=true:=by kernel_rfl
theorem alH:((PP.stopKnobs==[]))=true:=by kernel_rfl
theorem alI:((gR.inPlace==PP.inPlace 4))=true:=by kernel_rfl
theorem ai0:((gR.unfollowed==PP.unfollowed 4))=true:=by kernel_rfl
theorem ai1:((gR.recurses==PP.recurses 4))=true:=by kernel_rfl
theorem ai2:((gR.named==PP.varsNamed 4))=true:=by kernel_rfl
theorem ai3:((gR.maps==(kf.params.toList++iK.plain.varTypes PP).any (PP.mapsRec ·)))=true:=by kernel_rfl
theorem ai4:((gR.ifaces==(kf.params.toList++iK.plain.varTypes PP).any (PP.ifacesRec ·)))=true:=by kernel_rfl
theorem ai5:((gR.mapsOut==PP.mapsAmong kf.resultTypes.toList))=true:=by kernel_rfl
theorem ai6:((gR.loops==(kf.params.toList++iK.plain.varTypes PP).any (PP.loopsFrom ·)))=true:=by kernel_rfl
theorem ai7:((gR.wideKeys==(kf.params.toList++iK.plain.varTypes PP++kf.resultTypes.toList).any (PP.wideKeysFrom ·)))=true:=by kernel_rfl
theorem ai8:(iK.vars.all (PP.varReadable ·))=true:=by kernel_rfl
theorem ai9:(kf.resultTypes.all fun t=>PP.readableRec t&&decide (t<PP.types.size))=true:=by kernel_rfl
theorem ai':((gR.ifacesOut==kf.resultTypes.toList.any (PP.ifacesRec ·)))=true:=by kernel_rfl
theorem aja:((gR.loopsOut==kf.resultTypes.toList.any (PP.loopsFrom ·)))=true:=by kernel_rfl
theorem ajb:((gR.plainKeys==PP.plainKeys))=true:=by kernel_rfl
theorem ajc:(gR.shortTexts.isNone)=true:=by kernel_rfl
theorem ajd:(PP.stopsHeard)=true:=by kernel_rfl
theorem aje:(PP.mayEnter)=true:=by kernel_rfl
theorem ajf:((gR.lifted==PP.liftsFinal))=true:=by kernel_rfl
theorem ajg:((PP.make==some gR.make))=true:=by kernel_rfl
theorem ajh:((gR.kinds==(if gR.domain.isEmpty then [] else kf.params.toList.map fun t=>match PP.underlying t with|some (.int k)=>some k|_=>none)))=true:=by kernel_rfl
theorem aji:((gR.pinned==gR.pinnedBy))=true:=by kernel_rfl
theorem ajj:((gR.veiled==(kf.params.toList++iK.plain.varTypes PP++kf.resultTypes.toList).any (PP.veiledRec ·)))=true:=by kernel_rfl
theorem ajk:(gR.veiledFits PP kf.params.toList (kf.params.toList++iK.plain.varTypes PP++kf.resultTypes.toList))=true:=by kernel_rfl
theorem closed:joinedFacts PP 4 kf iK gR=true:=by unfold joinedFacts;simp only [Bool.and_eq_true];exact⟨⟨⟨⟨⟨⟨⟨⟨⟨⟨⟨⟨⟨⟨⟨⟨⟨⟨⟨⟨⟨⟨⟨⟨⟨⟨⟨⟨⟨⟨⟨lD,eM⟩,cF⟩,ey⟩,za⟩,zb⟩,alF⟩,alG⟩,alH⟩,alI⟩,ai0⟩,ai1⟩,ai2⟩,ai3⟩,ai4⟩,ai5⟩,ai6⟩,ai7⟩,ai8⟩,ai9⟩,ai'⟩,aja⟩,ajb⟩,ajc⟩,ajd⟩,aje⟩,ajf⟩,ajg⟩,ajh⟩,aji⟩,ajj⟩,ajk⟩
end Go.Proofs.YteifkndfpnkalaaGreat.fnApplySteps
