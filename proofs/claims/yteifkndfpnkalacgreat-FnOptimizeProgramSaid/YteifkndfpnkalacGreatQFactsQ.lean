import Derived.Test.YteifkndfpnkalacGreatQRowB
import Derived.Test.YteifkndfpnkalacGreatRows
set_option maxRecDepth 100000
namespace Go.Proofs.YteifkndfpnkalacGreat.fnOptimizeProgram
open Go Go.Lift Go.ChangeShapes Go.WideShapes Go.ChangeAt Go.RowKit
noncomputable abbrev PP:Program:=Tryz.pinned.checked.prog
noncomputable abbrev jG:Func:=Tryz.f3
noncomputable abbrev hZ:ChangeSpec:=(OpenSpec.ofChange Rows.fnOptimizeProgramSpec).bare
noncomputable abbrev gr:OpenClaim:=Rows.fnOptimizeProgramRow
theorem ov:(gr.wf (OpenSpec.ofChange hZ))=true:=by kernel_rfl
theorem eK:(laidOutB PP)=true:=by kernel_rfl
theorem cy:(mapsRowed PP)=true:=by kernel_rfl
theorem dW:(jG.params.all (PP.readableRec ·))=true:=by kernel_rfl
theorem ow:(namedTie PP gr.named hZ.vars)=true:=by kernel_rfl
theorem qX:((gr.stops==[]))=true:=by kernel_rfl
theorem ajg:((PP.stops==[]))=true:=by kernel_rfl
theorem ajh:((gr.knobs==[]))=true:=by kernel_rfl
theorem aji:((PP.stopKnobs==[]))=true:=by kernel_rfl
theorem ajj:((gr.inPlace==PP.inPlace 3))=true:=by kernel_rfl
theorem agC:((gr.unfollowed==PP.unfollowed 3))=true:=by kernel_rfl
theorem agD:((gr.recurses==PP.recurses 3))=true:=by kernel_rfl
theorem agE:((gr.named==PP.varsNamed 3))=true:=by kernel_rfl
theorem agF:((gr.maps==(jG.params.toList++hZ.plain.varTypes PP).any (PP.mapsRec ·)))=true:=by kernel_rfl
theorem agG:((gr.ifaces==(jG.params.toList++hZ.plain.varTypes PP).any (PP.ifacesRec ·)))=true:=by kernel_rfl
theorem agH:((gr.mapsOut==PP.mapsAmong jG.resultTypes.toList))=true:=by kernel_rfl
theorem agI:((gr.loops==(jG.params.toList++hZ.plain.varTypes PP).any (PP.loopsFrom ·)))=true:=by kernel_rfl
theorem agJ:((gr.wideKeys==(jG.params.toList++hZ.plain.varTypes PP++jG.resultTypes.toList).any (PP.wideKeysFrom ·)))=true:=by kernel_rfl
theorem agK:(hZ.vars.all (PP.varReadable ·))=true:=by kernel_rfl
theorem agL:(jG.resultTypes.all fun t=>PP.readableRec t&&decide (t<PP.types.size))=true:=by kernel_rfl
theorem agM:((gr.ifacesOut==jG.resultTypes.toList.any (PP.ifacesRec ·)))=true:=by kernel_rfl
theorem agN:((gr.loopsOut==jG.resultTypes.toList.any (PP.loopsFrom ·)))=true:=by kernel_rfl
theorem agO:((gr.plainKeys==PP.plainKeys))=true:=by kernel_rfl
theorem agP:(gr.shortTexts.isNone)=true:=by kernel_rfl
theorem agQ:(PP.stopsHeard)=true:=by kernel_rfl
theorem agR:(PP.mayEnter)=true:=by kernel_rfl
theorem agS:((gr.lifted==PP.liftsFinal))=true:=by kernel_rfl
theorem agT:((PP.make==some gr.make))=true:=by kernel_rfl
theorem agU:((gr.kinds==(if gr.domain.isEmpty then [] else jG.params.toList.map fun t=>match PP.underlying t with|some (.int k)=>some k|_=>none)))=true:=by kernel_rfl
theorem agV:((gr.pinned==gr.pinnedBy))=true:=by kernel_rfl
theorem agW:((gr.veiled==(jG.params.toList++hZ.plain.varTypes PP++jG.resultTypes.toList).any (PP.veiledRec ·)))=true:=by kernel_rfl
theorem agX:(gr.veiledFits PP jG.params.toList (jG.params.toList++hZ.plain.varTypes PP++jG.resultTypes.toList))=true:=by kernel_rfl
theorem closed:joinedFacts PP 3 jG hZ gr=true:=by unfold joinedFacts;simp only [Bool.and_eq_true];exact⟨⟨⟨⟨⟨⟨⟨⟨⟨⟨⟨⟨⟨⟨⟨⟨⟨⟨⟨⟨⟨⟨⟨⟨⟨⟨⟨⟨⟨⟨⟨ov,eK⟩,cy⟩,dW⟩,ow⟩,qX⟩,ajg⟩,ajh⟩,aji⟩,ajj⟩,agC⟩,agD⟩,agE⟩,agF⟩,agG⟩,agH⟩,agI⟩,agJ⟩,agK⟩,agL⟩,agM⟩,agN⟩,agO⟩,agP⟩,agQ⟩,agR⟩,agS⟩,agT⟩,agU⟩,agV⟩,agW⟩,agX⟩
end Go.Proofs.YteifkndfpnkalacGreat.fnOptimizeProgram
