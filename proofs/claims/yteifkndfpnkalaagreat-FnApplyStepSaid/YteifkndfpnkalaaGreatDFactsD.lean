import Derived.Test.YteifkndfpnkalaaGreatDRowB
import Derived.Test.YteifkndfpnkalaaGreatRows
set_option maxRecDepth 100000
namespace Go.Proofs.YteifkndfpnkalaaGreat.fnApplyStep
open Go Go.Lift Go.ChangeShapes Go.WideShapes Go.ChangeAt Go.RowKit
noncomputable abbrev PP:Program:=Tryz.pinned.checked.prog
noncomputable abbrev kc:Func:=Tryz.f3
noncomputable abbrev iJ:ChangeSpec:=(OpenSpec.ofChange Rows.fnApplyStepSpec).bare
noncomputable abbrev gQ:OpenClaim:=Rows.fnApplyStepRow
theorem lC:(gQ.wf (OpenSpec.ofChange iJ))=true:=by kernel_rfl
theorem eL:(laidOutB PP)=true:=by kernel_rfl
theorem cF:(mapsRowed PP)=true:=by kernel_rfl
theorem ey:(kc.params.all (PP.readableRec ·))=true:=by kernel_rfl
theorem y':(namedTie PP gQ.named iJ.vars)=true:=by kernel_rfl
theorem za:((gQ.stops==[]))=true:=by kernel_rfl
theorem alq:((PP.stops==[]))=true:=by kernel_rfl
theorem alr:((gQ.knobs==[]))=true:=by kernel_rfl
theorem als:((PP.stopKnobs==[]))=true:=by kernel_rfl
theorem alu:((gQ.inPlace==PP.inPlace 3))=true:=by kernel_rfl
theorem aiM:((gQ.unfollowed==PP.unfollowed 3))=true:=by kernel_rfl
theorem aiN:((gQ.recurses==PP.recurses 3))=true:=by kernel_rfl
theorem aiO:((gQ.named==PP.varsNamed 3))=true:=by kernel_rfl
theorem aiP:((gQ.maps==(kc.params.toList++iJ.plain.varTypes PP).any (PP.mapsRec ·)))=true:=by kernel_rfl
theorem aiQ:((gQ.ifaces==(kc.params.toList++iJ.plain.varTypes PP).any (PP.ifacesRec ·)))=true:=by kernel_rfl
theorem aiR:((gQ.mapsOut==PP.mapsAmong kc.resultTypes.toList))=true:=by kernel_rfl
theorem aiS:((gQ.loops==(kc.params.toList++iJ.plain.varTypes PP).any (PP.loopsFrom ·)))=true:=by kernel_rfl
theorem aiT:((gQ.wideKeys==(kc.params.toList++iJ.plain.varTypes PP++kc.resultTypes.toList).any (PP.wideKeysFrom ·)))=true:=by kernel_rfl
theorem aiU:(iJ.vars.all (PP.varReadable ·))=true:=by kernel_rfl
theorem aiV:(kc.resultTypes.all fun t=>PP.readableRec t&&decide (t<PP.types.size))=true:=by kernel_rfl
theorem aiW:((gQ.ifacesOut==kc.resultTypes.toList.any (PP.ifacesRec ·)))=true:=by kernel_rfl
theorem aiX:((gQ.loopsOut==kc.resultTypes.toList.any (PP.loopsFrom ·)))=true:=by kernel_rfl
theorem aiY:((gQ.plainKeys==PP.plainKeys))=true:=by kernel_rfl
theorem aiZ:(gQ.shortTexts.isNone)=true:=by kernel_rfl
theorem ai0:(PP.stopsHeard)=true:=by kernel_rfl
theorem ai1:(PP.mayEnter)=true:=by kernel_rfl
theorem ai2:((gQ.lifted==PP.liftsFinal))=true:=by kernel_rfl
theorem ai3:((PP.make==some gQ.make))=true:=by kernel_rfl
theorem ai4:((gQ.kinds==(if gQ.domain.isEmpty then [] else kc.params.toList.map fun t=>match PP.underlying t with|some (.int k)=>some k|_=>none)))=true:=by kernel_rfl
theorem ai5:((gQ.pinned==gQ.pinnedBy))=true:=by kernel_rfl
theorem ai6:((gQ.veiled==(kc.params.toList++iJ.plain.varTypes PP++kc.resultTypes.toList).any (PP.veiledRec ·)))=true:=by kernel_rfl
theorem ai7:(gQ.veiledFits PP kc.params.toList (kc.params.toList++iJ.plain.varTypes PP++kc.resultTypes.toList))=true:=by kernel_rfl
theorem closed:joinedFacts PP 3 kc iJ gQ=true:=by unfold joinedFacts;simp only [Bool.and_eq_true];exact⟨⟨⟨⟨⟨⟨⟨⟨⟨⟨⟨⟨⟨⟨⟨⟨⟨⟨⟨⟨⟨⟨⟨⟨⟨⟨⟨⟨⟨⟨⟨lC,eL⟩,cF⟩,ey⟩,y'⟩,za⟩,alq⟩,alr⟩,als⟩,alu⟩,aiM⟩,aiN⟩,aiO⟩,aiP⟩,aiQ⟩,aiR⟩,aiS⟩,aiT⟩,aiU⟩,aiV⟩,aiW⟩,aiX⟩,aiY⟩,aiZ⟩,ai0⟩,ai1⟩,ai2⟩,ai3⟩,ai4⟩,ai5⟩,ai6⟩,ai7⟩
end Go.Proofs.YteifkndfpnkalaaGreat.fnApplyStep
