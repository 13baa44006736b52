import Derived.Test.YtlbojjldejlgaabGreatERowB
import Derived.Test.YtlbojjldejlgaabGreatRows
set_option maxRecDepth 100000
namespace Go.Proofs.YtlbojjldejlgaabGreat.fnExactBestStep
open Go Go.Lift Go.ChangeShapes Go.WideShapes Go.ChangeAt Go.RowKit
noncomputable abbrev PP:Program:=Tryz.pinned.checked.prog
noncomputable abbrev iW:Func:=Tryz.f3
noncomputable abbrev hF:ChangeSpec:=(OpenSpec.ofChange Rows.fnExactBestStepSpec).bare
noncomputable abbrev fO:OpenClaim:=Rows.fnExactBestStepRow
theorem jJ:(fO.wf (OpenSpec.ofChange hF))=true:=by kernel_rfl
theorem ez:(laidOutB PP)=true:=by kernel_rfl
theorem cv:(mapsRowed PP)=true:=by kernel_rfl
theorem dU:(iW.params.all (PP.readableRec ·))=true:=by kernel_rfl
theorem uG:(namedTie PP fO.named hF.vars)=true:=by kernel_rfl
theorem BU:((fO.stops==[]))=true:=by kernel_rfl
theorem ai4:((PP.stops==[]))=true:=by kernel_rfl
theorem ai5:((fO.knobs==[]))=true:=by kernel_rfl
theorem ai6:((PP.stopKnobs==[]))=true:=by kernel_rfl
theorem ai7:((fO.inPlace==PP.inPlace 3))=true:=by kernel_rfl
theorem agI:((fO.unfollowed==PP.unfollowed 3))=true:=by kernel_rfl
theorem agJ:((fO.recurses==PP.recurses 3))=true:=by kernel_rfl
theorem agK:((fO.named==PP.varsNamed 3))=true:=by kernel_rfl
theorem agL:((fO.maps==(iW.params.toList++hF.plain.varTypes PP).any (PP.mapsRec ·)))=true:=by kernel_rfl
theorem agM:((fO.ifaces==(iW.params.toList++hF.plain.varTypes PP).any (PP.ifacesRec ·)))=true:=by kernel_rfl
theorem agN:((fO.mapsOut==PP.mapsAmong iW.resultTypes.toList))=true:=by kernel_rfl
theorem agO:((fO.loops==(iW.params.toList++hF.plain.varTypes PP).any (PP.loopsFrom ·)))=true:=by kernel_rfl
theorem agP:((fO.wideKeys==(iW.params.toList++hF.plain.varTypes PP++iW.resultTypes.toList).any (PP.wideKeysFrom ·)))=true:=by kernel_rfl
theorem agQ:(hF.vars.all (PP.varReadable ·))=true:=by kernel_rfl
theorem agR:(iW.resultTypes.all fun t=>PP.readableRec t&&decide (t<PP.types.size))=true:=by kernel_rfl
theorem agS:((fO.ifacesOut==iW.resultTypes.toList.any (PP.ifacesRec ·)))=true:=by kernel_rfl
theorem agT:((fO.loopsOut==iW.resultTypes.toList.any (PP.loopsFrom ·)))=true:=by kernel_rfl
theorem agU:((fO.plainKeys==PP.plainKeys))=true:=by kernel_rfl
theorem agV:(fO.shortTexts.isNone)=true:=by kernel_rfl
theorem agW:(PP.stopsHeard)=true:=by kernel_rfl
theorem agX:(PP.mayEnter)=true:=by kernel_rfl
theorem agY:((fO.lifted==PP.liftsFinal))=true:=by kernel_rfl
theorem agZ:((PP.make==some fO.make))=true:=by kernel_rfl
theorem ag0:((fO.kinds==(if fO.domain.isEmpty then [] else iW.params.toList.map fun t=>match PP.underlying t with|some (.int k)=>some k|_=>none)))=true:=by kernel_rfl
theorem ag1:((fO.pinned==fO.pinnedBy))=true:=by kernel_rfl
theorem ag2:((fO.veiled==(iW.params.toList++hF.plain.varTypes PP++iW.resultTypes.toList).any (PP.veiledRec ·)))=true:=by kernel_rfl
theorem ag3:(fO.veiledFits PP iW.params.toList (iW.params.toList++hF.plain.varTypes PP++iW.resultTypes.toList))=true:=by kernel_rfl
theorem closed:joinedFacts PP 3 iW hF fO=true:=by unfold joinedFacts;simp only [Bool.and_eq_true];exact⟨⟨⟨⟨⟨⟨⟨⟨⟨⟨⟨⟨⟨⟨⟨⟨⟨⟨⟨⟨⟨⟨⟨⟨⟨⟨⟨⟨⟨⟨⟨jJ,ez⟩,cv⟩,dU⟩,uG⟩,BU⟩,ai4⟩,ai5⟩,ai6⟩,ai7⟩,agI⟩,agJ⟩,agK⟩,agL⟩,agM⟩,agN⟩,agO⟩,agP⟩,agQ⟩,agR⟩,agS⟩,agT⟩,agU⟩,agV⟩,agW⟩,agX⟩,agY⟩,agZ⟩,ag0⟩,ag1⟩,ag2⟩,ag3⟩
end Go.Proofs.YtlbojjldejlgaabGreat.fnExactBestStep
