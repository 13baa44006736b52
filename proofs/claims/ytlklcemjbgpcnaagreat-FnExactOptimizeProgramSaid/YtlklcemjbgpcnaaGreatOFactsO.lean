import Derived.Test.YtlklcemjbgpcnaaGreatORowB
import Derived.Test.YtlklcemjbgpcnaaGreatRows
set_option maxRecDepth 100000
namespace Go.Proofs.YtlklcemjbgpcnaaGreat.fnExactOptimizeProgram
open Go Go.Lift Go.ChangeShapes Go.WideShapes Go.ChangeAt Go.RowKit
noncomputable abbrev PP:Program:=Tryz.pinned.checked.prog
noncomputable abbrev jM:Func:=Tryz.f3
noncomputable abbrev iD:ChangeSpec:=(OpenSpec.ofChange Rows.fnExactOptimizeProgramSpec).bare
noncomputable abbrev gv:OpenClaim:=Rows.fnExactOptimizeProgramRow
theorem lF:(gv.wf (OpenSpec.ofChange iD))=true:=by kernel_rfl
theorem ct:(laidOutB PP)=true:=by kernel_rfl
theorem cS:(mapsRowed PP)=true:=by kernel_rfl
theorem ez:(jM.params.all (PP.readableRec ·))=true:=by kernel_rfl
theorem wc:(namedTie PP gv.named iD.vars)=true:=by kernel_rfl
theorem DQ:((gv.stops==[]))=true:=by kernel_rfl
theorem al5:((PP.stops==[]))=true:=by kernel_rfl
theorem al6:((gv.knobs==[]))=true:=by kernel_rfl
theorem al7:((PP.stopKnobs==[]))=true:=by kernel_rfl
theorem al8:((gv.inPlace==PP.inPlace 3))=true:=by kernel_rfl
theorem ajJ:((gv.unfollowed==PP.unfollowed 3))=true:=by kernel_rfl
theorem ajK:((gv.recurses==PP.recurses 3))=true:=by kernel_rfl
theorem ajL:((gv.named==PP.varsNamed 3))=true:=by kernel_rfl
theorem ajM:((gv.maps==(jM.params.toList++iD.plain.varTypes PP).any (PP.mapsRec ·)))=true:=by kernel_rfl
theorem ajN:((gv.ifaces==(jM.params.toList++iD.plain.varTypes PP).any (PP.ifacesRec ·)))=true:=by kernel_rfl
theorem ajO:((gv.mapsOut==PP.mapsAmong jM.resultTypes.toList))=true:=by kernel_rfl
theorem ajP:((gv.loops==(jM.params.toList++iD.plain.varTypes PP).any (PP.loopsFrom ·)))=true:=by kernel_rfl
theorem ajQ:((gv.wideKeys==(jM.params.toList++iD.plain.varTypes PP++jM.resultTypes.toList).any (PP.wideKeysFrom ·)))=true:=by kernel_rfl
theorem ajR:(iD.vars.all (PP.varReadable ·))=true:=by kernel_rfl
theorem ajS:(jM.resultTypes.all fun t=>PP.readableRec t&&decide (t<PP.types.size))=true:=by kernel_rfl
theorem ajT:((gv.ifacesOut==jM.resultTypes.toList.any (PP.ifacesRec ·)))=true:=by kernel_rfl
theorem ajU:((gv.loopsOut==jM.resultTypes.toList.any (PP.loopsFrom ·)))=true:=by kernel_rfl
theorem ajV:((gv.plainKeys==PP.plainKeys))=true:=by kernel_rfl
theorem ajW:(gv.shortTexts.isNone)=true:=by kernel_rfl
theorem ajX:(PP.stopsHeard)=true:=by kernel_rfl
theorem ajY:(PP.mayEnter)=true:=by kernel_rfl
theorem ajZ:((gv.lifted==PP.liftsFinal))=true:=by kernel_rfl
theorem aj0:((PP.make==some gv.make))=true:=by kernel_rfl
theorem aj1:((gv.kinds==(if gv.domain.isEmpty then [] else jM.params.toList.map fun t=>match PP.underlying t with|some (.int k)=>some k|_=>none)))=true:=by kernel_rfl
theorem aj2:((gv.pinned==gv.pinnedBy))=true:=by kernel_rfl
theorem aj3:((gv.veiled==(jM.params.toList++iD.plain.varTypes PP++jM.resultTypes.toList).any (PP.veiledRec ·)))=true:=by kernel_rfl
theorem aj4:(gv.veiledFits PP jM.params.toList (jM.params.toList++iD.plain.varTypes PP++jM.resultTypes.toList))=true:=by kernel_rfl
theorem closed:joinedFacts PP 3 jM iD gv=true:=by unfold joinedFacts;simp only [Bool.and_eq_true];exact⟨⟨⟨⟨⟨⟨⟨⟨⟨⟨⟨⟨⟨⟨⟨⟨⟨⟨⟨⟨⟨⟨⟨⟨⟨⟨⟨⟨⟨⟨⟨lF,ct⟩,cS⟩,ez⟩,wc⟩,DQ⟩,al5⟩,al6⟩,al7⟩,al8⟩,ajJ⟩,ajK⟩,ajL⟩,ajM⟩,ajN⟩,ajO⟩,ajP⟩,ajQ⟩,ajR⟩,ajS⟩,ajT⟩,ajU⟩,ajV⟩,ajW⟩,ajX⟩,ajY⟩,ajZ⟩,aj0⟩,aj1⟩,aj2⟩,aj3⟩,aj4⟩
end Go.Proofs.YtlklcemjbgpcnaaGreat.fnExactOptimizeProgram
