import Derived.Test.YtcihigfifglboabGreatHRowB
import Derived.Test.YtcihigfifglboabGreatRows
set_option maxRecDepth 100000
namespace Go.Proofs.YtcihigfifglboabGreat.fnStepsEmpty
open Go Go.Lift Go.ChangeShapes Go.WideShapes Go.ChangeAt Go.RowKit
noncomputable abbrev PP:Program:=Tryz.pinned.checked.prog
noncomputable abbrev jn:Func:=Tryz.f4
noncomputable abbrev hV:ChangeSpec:=(OpenSpec.ofChange Rows.fnStepsEmptySpec).bare
noncomputable abbrev fW:OpenClaim:=Rows.fnStepsEmptyRow
theorem j2:(fW.wf (OpenSpec.ofChange hV))=true:=by kernel_rfl
theorem eO:(laidOutB PP)=true:=by kernel_rfl
theorem cE:(mapsRowed PP)=true:=by kernel_rfl
theorem eg:(jn.params.all (PP.readableRec ·))=true:=by kernel_rfl
theorem agX:(namedTie PP fW.named hV.vars)=true:=by kernel_rfl
theorem agY:((fW.stops==[]))=true:=by kernel_rfl
theorem agZ:((PP.stops==[]))=true:=by kernel_rfl
theorem ag0:((fW.knobs==[]))=true:=by kernel_rfl
theorem ag1:((PP.stopKnobs==[]))=true:=by kernel_rfl
theorem ag2:((fW.inPlace==PP.inPlace 4))=true:=by kernel_rfl
theorem aeo:((fW.unfollowed==PP.unfollowed 4))=true:=by kernel_rfl
theorem aep:((fW.recurses==PP.recurses 4))=true:=by kernel_rfl
theorem aeq:((fW.named==PP.varsNamed 4))=true:=by kernel_rfl
theorem aer:((fW.maps==(jn.params.toList++hV.plain.varTypes PP).any (PP.mapsRec ·)))=true:=by kernel_rfl
theorem aes:((fW.ifaces==(jn.params.toList++hV.plain.varTypes PP).any (PP.ifacesRec ·)))=true:=by kernel_rfl
theorem aet:((fW.mapsOut==PP.mapsAmong jn.resultTypes.toList))=true:=by kernel_rfl
theorem aeu:((fW.loops==(jn.params.toList++hV.plain.varTypes PP).any (PP.loopsFrom ·)))=true:=by kernel_rfl
theorem aev:((fW.wideKeys==(jn.params.toList++hV.plain.varTypes PP++jn.resultTypes.toList).any (PP.wideKeysFrom ·)))=true:=by kernel_rfl
theorem aew:(hV.vars.all (PP.varReadable ·))=true:=by kernel_rfl
theorem aex:(jn.resultTypes.all fun t=>PP.readableRec t&&decide (t<PP.types.size))=true:=by kernel_rfl
theorem aey:((fW.ifacesOut==jn.resultTypes.toList.any (PP.ifacesRec ·)))=true:=by kernel_rfl
theorem aez:((fW.loopsOut==jn.resultTypes.toList.any (PP.loopsFrom ·)))=true:=by kernel_rfl
theorem aeA:((fW.plainKeys==PP.plainKeys))=true:=by kernel_rfl
theorem aeB:(fW.shortTexts.isNone)=true:=by kernel_rfl
theorem aeC:(PP.stopsHeard)=true:=by kernel_rfl
theorem aeD:(PP.mayEnter)=true:=by kernel_rfl
theorem aeE:((fW.lifted==PP.liftsFinal))=true:=by kernel_rfl
theorem aeF:((PP.make==some fW.make))=true:=by kernel_rfl
theorem aeG:((fW.kinds==(if fW.domain.isEmpty then [] else jn.params.toList.map fun t=>match PP.underlying t with|some (.int k)=>some k|_=>none)))=true:=by kernel_rfl
theorem aeH:((fW.pinned==fW.pinnedBy))=true:=by kernel_rfl
theorem aeI:((fW.veiled==(jn.params.toList++hV.plain.varTypes PP++jn.resultTypes.toList).any (PP.veiledRec ·)))=true:=by kernel_rfl
theorem aeJ:(fW.veiledFits PP jn.params.toList (jn.params.toList++hV.plain.varTypes PP++jn.resultTypes.toList))=true:=by kernel_rfl
theorem closed:joinedFacts PP 4 jn hV fW=true:=by unfold joinedFacts;simp only [Bool.and_eq_true];exact⟨⟨⟨⟨⟨⟨⟨⟨⟨⟨⟨⟨⟨⟨⟨⟨⟨⟨⟨⟨⟨⟨⟨⟨⟨⟨⟨⟨⟨⟨⟨j2,eO⟩,cE⟩,eg⟩,agX⟩,agY⟩,agZ⟩,ag0⟩,ag1⟩,ag2⟩,aeo⟩,aep⟩,aeq⟩,aer⟩,aes⟩,aet⟩,aeu⟩,aev⟩,aew⟩,aex⟩,aey⟩,aez⟩,aeA⟩,aeB⟩,aeC⟩,aeD⟩,aeE⟩,aeF⟩,aeG⟩,aeH⟩,aeI⟩,aeJ⟩
end Go.Proofs.YtcihigfifglboabGreat.fnStepsEmpty
