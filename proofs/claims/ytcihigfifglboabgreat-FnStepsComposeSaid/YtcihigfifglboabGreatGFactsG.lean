import Derived.Test.YtcihigfifglboabGreatGRowB
import Derived.Test.YtcihigfifglboabGreatRows
set_option maxRecDepth 100000
namespace Go.Proofs.YtcihigfifglboabGreat.fnStepsCompose
open Go Go.Lift Go.ChangeShapes Go.WideShapes Go.ChangeAt Go.RowKit
noncomputable abbrev PP:Program:=Tryz.pinned.checked.prog
noncomputable abbrev ji:Func:=Tryz.f5
noncomputable abbrev hT:ChangeSpec:=(OpenSpec.ofChange Rows.fnStepsComposeSpec).bare
noncomputable abbrev fT:OpenClaim:=Rows.fnStepsComposeRow
theorem qD:(fT.wf (OpenSpec.ofChange hT))=true:=by kernel_rfl
theorem agX:(laidOutB PP)=true:=by kernel_rfl
theorem dP:(mapsRowed PP)=true:=by kernel_rfl
theorem xL:(ji.params.all (PP.readableRec ·))=true:=by kernel_rfl
theorem agY:(namedTie PP fT.named hT.vars)=true:=by kernel_rfl
theorem agZ:((fT.stops==[]))=true:=by kernel_rfl
theorem ag0:((PP.stops==[]))=true:=by kernel_rfl
theorem ag1:((fT.knobs==[]))=true:=by kernel_rfl
theorem ag2:((PP.stopKnobs==[]))=true:=by kernel_rfl
theorem ag3:((fT.inPlace==PP.inPlace 5))=true:=by kernel_rfl
theorem ael:((fT.unfollowed==PP.unfollowed 5))=true:=by kernel_rfl
theorem aem:((fT.recurses==PP.recurses 5))=true:=by kernel_rfl
theorem aen:((fT.named==PP.varsNamed 5))=true:=by kernel_rfl
theorem aeo:((fT.maps==(ji.params.toList++hT.plain.varTypes PP).any (PP.mapsRec ·)))=true:=by kernel_rfl
theorem aep:((fT.ifaces==(ji.params.toList++hT.plain.varTypes PP).any (PP.ifacesRec ·)))=true:=by kernel_rfl
theorem aeq:((fT.mapsOut==PP.mapsAmong ji.resultTypes.toList))=true:=by kernel_rfl
theorem aer:((fT.loops==(ji.params.toList++hT.plain.varTypes PP).any (PP.loopsFrom ·)))=true:=by kernel_rfl
theorem aes:((fT.wideKeys==(ji.params.toList++hT.plain.varTypes PP++ji.resultTypes.toList).any (PP.wideKeysFrom ·)))=true:=by kernel_rfl
theorem aet:(hT.vars.all (PP.varReadable ·))=true:=by kernel_rfl
theorem aeu:(ji.resultTypes.all fun t=>PP.readableRec t&&decide (t<PP.types.size))=true:=by kernel_rfl
theorem aev:((fT.ifacesOut==ji.resultTypes.toList.any (PP.ifacesRec ·)))=true:=by kernel_rfl
theorem aew:((fT.loopsOut==ji.resultTypes.toList.any (PP.loopsFrom ·)))=true:=by kernel_rfl
theorem aex:((fT.plainKeys==PP.plainKeys))=true:=by kernel_rfl
theorem aey:(fT.shortTexts.isNone)=true:=by kernel_rfl
theorem aez:(PP.stopsHeard)=true:=by kernel_rfl
theorem aeA:(PP.mayEnter)=true:=by kernel_rfl
theorem aeB:((fT.lifted==PP.liftsFinal))=true:=by kernel_rfl
theorem aeC:((PP.make==some fT.make))=true:=by kernel_rfl
theorem aeD:((fT.kinds==(if fT.domain.isEmpty then [] else ji.params.toList.map fun t=>match PP.underlying t with|some (.int k)=>some k|_=>none)))=true:=by kernel_rfl
theorem aeE:((fT.pinned==fT.pinnedBy))=true:=by kernel_rfl
theorem aeF:((fT.veiled==(ji.params.toList++hT.plain.varTypes PP++ji.resultTypes.toList).any (PP.veiledRec ·)))=true:=by kernel_rfl
theorem aeG:(fT.veiledFits PP ji.params.toList (ji.params.toList++hT.plain.varTypes PP++ji.resultTypes.toList))=true:=by kernel_rfl
theorem closed:joinedFacts PP 5 ji hT fT=true:=by unfold joinedFacts;simp only [Bool.and_eq_true];exact⟨⟨⟨⟨⟨⟨⟨⟨⟨⟨⟨⟨⟨⟨⟨⟨⟨⟨⟨⟨⟨⟨⟨⟨⟨⟨⟨⟨⟨⟨⟨qD,agX⟩,dP⟩,xL⟩,agY⟩,agZ⟩,ag0⟩,ag1⟩,ag2⟩,ag3⟩,ael⟩,aem⟩,aen⟩,aeo⟩,aep⟩,aeq⟩,aer⟩,aes⟩,aet⟩,aeu⟩,aev⟩,aew⟩,aex⟩,aey⟩,aez⟩,aeA⟩,aeB⟩,aeC⟩,aeD⟩,aeE⟩,aeF⟩,aeG⟩
end Go.Proofs.YtcihigfifglboabGreat.fnStepsCompose
