import Derived.Test.YteifkndfpnkalabGreatVRowB
import Derived.Test.YteifkndfpnkalabGreatRows
set_option maxRecDepth 100000
namespace Go.Proofs.YteifkndfpnkalabGreat.fnExactApplySteps
open Go Go.Lift Go.ChangeShapes Go.WideShapes Go.ChangeAt Go.RowKit
noncomputable abbrev PP:Program:=Tryz.pinned.checked.prog
noncomputable abbrev ju:Func:=Tryz.f4
noncomputable abbrev ir:ChangeSpec:=(OpenSpec.ofChange Rows.fnExactApplyStepsSpec).bare
noncomputable abbrev gq:OpenClaim:=Rows.fnExactApplyStepsRow
theorem lg:(gq.wf (OpenSpec.ofChange ir))=true:=by kernel_rfl
theorem cA:(laidOutB PP)=true:=by kernel_rfl
theorem cO:(mapsRowed PP)=true:=by kernel_rfl
theorem et:(ju.params.all (PP.readableRec ·))=true:=by kernel_rfl
theorem akX:(namedTie PP gq.named ir.vars)=true:=by kernel_rfl
theorem akY:((gq.stops==[]))=true:=by kernel_rfl
theorem akZ:((PP.stops==[]))=true:=by kernel_rfl
theorem ak0:((gq.knobs==[]))=true:=by kernel_rfl
theorem ak1:((PP.stopKnobs==[]))=true:=by kernel_rfl
theorem ak2:((gq.inPlace==PP.inPlace 4))=true:=by kernel_rfl
theorem aiy:((gq.unfollowed==PP.unfollowed 4))=true:=by kernel_rfl
theorem aiz:((gq.recurses==PP.recurses 4))=true:=by kernel_rfl
theorem aiA:((gq.named==PP.varsNamed 4))=true:=by kernel_rfl
theorem aiB:((gq.maps==(ju.params.toList++ir.plain.varTypes PP).any (PP.mapsRec ·)))=true:=by kernel_rfl
theorem aiC:((gq.ifaces==(ju.params.toList++ir.plain.varTypes PP).any (PP.ifacesRec ·)))=true:=by kernel_rfl
theorem aiD:((gq.mapsOut==PP.mapsAmong ju.resultTypes.toList))=true:=by kernel_rfl
theorem aiE:((gq.loops==(ju.params.toList++ir.plain.varTypes PP).any (PP.loopsFrom ·)))=true:=by kernel_rfl
theorem aiF:((gq.wideKeys==(ju.params.toList++ir.plain.varTypes PP++ju.resultTypes.toList).any (PP.wideKeysFrom ·)))=true:=by kernel_rfl
theorem aiG:(ir.vars.all (PP.varReadable ·))=true:=by kernel_rfl
theorem aiH:(ju.resultTypes.all fun t=>PP.readableRec t&&decide (t<PP.types.size))=true:=by kernel_rfl
theorem aiI:((gq.ifacesOut==ju.resultTypes.toList.any (PP.ifacesRec ·)))=true:=by kernel_rfl
theorem aiJ:((gq.loopsOut==ju.resultTypes.toList.any (PP.loopsFrom ·)))=true:=by kernel_rfl
theorem aiK:((gq.plainKeys==PP.plainKeys))=true:=by kernel_rfl
theorem aiL:(gq.shortTexts.isNone)=true:=by kernel_rfl
theorem aiM:(PP.stopsHeard)=true:=by kernel_rfl
theorem aiN:(PP.mayEnter)=true:=by kernel_rfl
theorem aiO:((gq.lifted==PP.liftsFinal))=true:=by kernel_rfl
theorem aiP:((PP.make==some gq.make))=true:=by kernel_rfl
theorem aiQ:((gq.kinds==(if gq.domain.isEmpty then [] else ju.params.toList.map fun t=>match PP.underlying t with|some (.int k)=>some k|_=>none)))=true:=by kernel_rfl
theorem aiR:((gq.pinned==gq.pinnedBy))=true:=by kernel_rfl
theorem aiS:((gq.veiled==(ju.params.toList++ir.plain.varTypes PP++ju.resultTypes.toList).any (PP.veiledRec ·)))=true:=by kernel_rfl
theorem aiT:(gq.veiledFits PP ju.params.toList (ju.params.toList++ir.plain.varTypes PP++ju.resultTypes.toList))=true:=by kernel_rfl
theorem closed:joinedFacts PP 4 ju ir gq=true:=by unfold joinedFacts;simp only [Bool.and_eq_true];exact⟨⟨⟨⟨⟨⟨⟨⟨⟨⟨⟨⟨⟨⟨⟨⟨⟨⟨⟨⟨⟨⟨⟨⟨⟨⟨⟨⟨⟨⟨⟨lg,cA⟩,cO⟩,et⟩,akX⟩,akY⟩,akZ⟩,ak0⟩,ak1⟩,ak2⟩,aiy⟩,aiz⟩,aiA⟩,aiB⟩,aiC⟩,aiD⟩,aiE⟩,aiF⟩,aiG⟩,aiH⟩,aiI⟩,aiJ⟩,aiK⟩,aiL⟩,aiM⟩,aiN⟩,aiO⟩,aiP⟩,aiQ⟩,aiR⟩,aiS⟩,aiT⟩
end Go.Proofs.YteifkndfpnkalabGreat.fnExactApplySteps
