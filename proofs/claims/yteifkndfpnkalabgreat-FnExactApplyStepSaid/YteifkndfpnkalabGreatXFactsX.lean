import Derived.Test.YteifkndfpnkalabGreatXRowB
import Derived.Test.YteifkndfpnkalabGreatRows
set_option maxRecDepth 100000
namespace Go.Proofs.YteifkndfpnkalabGreat.fnExactApplyStep
open Go Go.Lift Go.ChangeShapes Go.WideShapes Go.ChangeAt Go.RowKit
noncomputable abbrev PP:Program:=Tryz.pinned.checked.prog
noncomputable abbrev ju:Func:=Tryz.f3
noncomputable abbrev ir:ChangeSpec:=(OpenSpec.ofChange Rows.fnExactApplyStepSpec).bare
noncomputable abbrev gp:OpenClaim:=Rows.fnExactApplyStepRow
theorem lb:(gp.wf (OpenSpec.ofChange ir))=true:=by kernel_rfl
theorem cA:(laidOutB PP)=true:=by kernel_rfl
theorem cP:(mapsRowed PP)=true:=by kernel_rfl
theorem eu:(ju.params.all (PP.readableRec ·))=true:=by kernel_rfl
theorem akO:(namedTie PP gp.named ir.vars)=true:=by kernel_rfl
theorem akP:((gp.stops==[]))=true:=by kernel_rfl
theorem akQ:((PP.stops==[]))=true:=by kernel_rfl
theorem akR:((gp.knobs==[]))=true:=by kernel_rfl
theorem akS:((PP.stopKnobs==[]))=true:=by kernel_rfl
theorem akT:((gp.inPlace==PP.inPlace 3))=true:=by kernel_rfl
theorem aiw:((gp.unfollowed==PP.unfollowed 3))=true:=by kernel_rfl
theorem aix:((gp.recurses==PP.recurses 3))=true:=by kernel_rfl
theorem aiy:((gp.named==PP.varsNamed 3))=true:=by kernel_rfl
theorem aiz:((gp.maps==(ju.params.toList++ir.plain.varTypes PP).any (PP.mapsRec ·)))=true:=by kernel_rfl
theorem aiA:((gp.ifaces==(ju.params.toList++ir.plain.varTypes PP).any (PP.ifacesRec ·)))=true:=by kernel_rfl
theorem aiB:((gp.mapsOut==PP.mapsAmong ju.resultTypes.toList))=true:=by kernel_rfl
theorem aiC:((gp.loops==(ju.params.toList++ir.plain.varTypes PP).any (PP.loopsFrom ·)))=true:=by kernel_rfl
theorem aiD:((gp.wideKeys==(ju.params.toList++ir.plain.varTypes PP++ju.resultTypes.toList).any (PP.wideKeysFrom ·)))=true:=by kernel_rfl
theorem aiE:(ir.vars.all (PP.varReadable ·))=true:=by kernel_rfl
theorem aiF:(ju.resultTypes.all fun t=>PP.readableRec t&&decide (t<PP.types.size))=true:=by kernel_rfl
theorem aiG:((gp.ifacesOut==ju.resultTypes.toList.any (PP.ifacesRec ·)))=true:=by kernel_rfl
theorem aiH:((gp.loopsOut==ju.resultTypes.toList.any (PP.loopsFrom ·)))=true:=by kernel_rfl
theorem aiI:((gp.plainKeys==PP.plainKeys))=true:=by kernel_rfl
theorem aiJ:(gp.shortTexts.isNone)=true:=by kernel_rfl
theorem aiK:(PP.stopsHeard)=true:=by kernel_rfl
theorem aiL:(PP.mayEnter)=true:=by kernel_rfl
theorem aiM:((gp.lifted==PP.liftsFinal))=true:=by kernel_rfl
theorem aiN:((PP.make==some gp.make))=true:=by kernel_rfl
theorem aiO:((gp.kinds==(if gp.domain.isEmpty then [] else ju.params.toList.map fun t=>match PP.underlying t with|some (.int k)=>some k|_=>none)))=true:=by kernel_rfl
theorem aiP:((gp.pinned==gp.pinnedBy))=true:=by kernel_rfl
theorem aiQ:((gp.veiled==(ju.params.toList++ir.plain.varTypes PP++ju.resultTypes.toList).any (PP.veiledRec ·)))=true:=by kernel_rfl
theorem aiR:(gp.veiledFits PP ju.params.toList (ju.params.toList++ir.plain.varTypes PP++ju.resultTypes.toList))=true:=by kernel_rfl
theorem closed:joinedFacts PP 3 ju ir gp=true:=by unfold joinedFacts;simp only [Bool.and_eq_true];exact⟨⟨⟨⟨⟨⟨⟨⟨⟨⟨⟨⟨⟨⟨⟨⟨⟨⟨⟨⟨⟨⟨⟨⟨⟨⟨⟨⟨⟨⟨⟨lb,cA⟩,cP⟩,eu⟩,akO⟩,akP⟩,akQ⟩,akR⟩,akS⟩,akT⟩,aiw⟩,aix⟩,aiy⟩,aiz⟩,aiA⟩,aiB⟩,aiC⟩,aiD⟩,aiE⟩,aiF⟩,aiG⟩,aiH⟩,aiI⟩,aiJ⟩,aiK⟩,aiL⟩,aiM⟩,aiN⟩,aiO⟩,aiP⟩,aiQ⟩,aiR⟩
end Go.Proofs.YteifkndfpnkalabGreat.fnExactApplyStep
