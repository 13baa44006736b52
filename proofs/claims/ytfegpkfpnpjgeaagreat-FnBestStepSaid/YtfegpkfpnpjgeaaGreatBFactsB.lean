import Derived.Test.YtfegpkfpnpjgeaaGreatBRowB
import Derived.Test.YtfegpkfpnpjgeaaGreatRows
set_option maxRecDepth 100000
namespace Go.Proofs.YtfegpkfpnpjgeaaGreat.fnBestStep
open Go Go.Lift Go.ChangeShapes Go.WideShapes Go.ChangeAt Go.RowKit
noncomputable abbrev PP:Program:=Tryz.pinned.checked.prog
noncomputable abbrev jv:Func:=Tryz.f3
noncomputable abbrev h7:ChangeSpec:=(OpenSpec.ofChange Rows.fnBestStepSpec).bare
noncomputable abbrev fX:OpenClaim:=Rows.fnBestStepRow
theorem j9:(fX.wf (OpenSpec.ofChange h7))=true:=by kernel_rfl
theorem eI:(laidOutB PP)=true:=by kernel_rfl
theorem cx:(mapsRowed PP)=true:=by kernel_rfl
theorem d':(jv.params.all (PP.readableRec ·))=true:=by kernel_rfl
theorem u5:(namedTie PP fX.named h7.vars)=true:=by kernel_rfl
theorem Cq:((fX.stops==[]))=true:=by kernel_rfl
theorem aio:((PP.stops==[]))=true:=by kernel_rfl
theorem aip:((fX.knobs==[]))=true:=by kernel_rfl
theorem aiq:((PP.stopKnobs==[]))=true:=by kernel_rfl
theorem air:((fX.inPlace==PP.inPlace 3))=true:=by kernel_rfl
theorem afN:((fX.unfollowed==PP.unfollowed 3))=true:=by kernel_rfl
theorem afO:((fX.recurses==PP.recurses 3))=true:=by kernel_rfl
theorem afP:((fX.named==PP.varsNamed 3))=true:=by kernel_rfl
theorem afQ:((fX.maps==(jv.params.toList++h7.plain.varTypes PP).any (PP.mapsRec ·)))=true:=by kernel_rfl
theorem afR:((fX.ifaces==(jv.params.toList++h7.plain.varTypes PP).any (PP.ifacesRec ·)))=true:=by kernel_rfl
theorem afS:((fX.mapsOut==PP.mapsAmong jv.resultTypes.toList))=true:=by kernel_rfl
theorem afT:((fX.loops==(jv.params.toList++h7.plain.varTypes PP).any (PP.loopsFrom ·)))=true:=by kernel_rfl
theorem afU:((fX.wideKeys==(jv.params.toList++h7.plain.varTypes PP++jv.resultTypes.toList).any (PP.wideKeysFrom ·)))=true:=by kernel_rfl
theorem afV:(h7.vars.all (PP.varReadable ·))=true:=by kernel_rfl
theorem afW:(jv.resultTypes.all fun t=>PP.readableRec t&&decide (t<PP.types.size))=true:=by kernel_rfl
theorem afX:((fX.ifacesOut==jv.resultTypes.toList.any (PP.ifacesRec ·)))=true:=by kernel_rfl
theorem afY:((fX.loopsOut==jv.resultTypes.toList.any (PP.loopsFrom ·)))=true:=by kernel_rfl
theorem afZ:((fX.plainKeys==PP.plainKeys))=true:=by kernel_rfl
theorem af0:(fX.shortTexts.isNone)=true:=by kernel_rfl
theorem af1:(PP.stopsHeard)=true:=by kernel_rfl
theorem af2:(PP.mayEnter)=true:=by kernel_rfl
theorem af3:((fX.lifted==PP.liftsFinal))=true:=by kernel_rfl
theorem af4:((PP.make==some fX.make))=true:=by kernel_rfl
theorem af5:((fX.kinds==(if fX.domain.isEmpty then [] else jv.params.toList.map fun t=>match PP.underlying t with|some (.int k)=>some k|_=>none)))=true:=by kernel_rfl
theorem af6:((fX.pinned==fX.pinnedBy))=true:=by kernel_rfl
theorem af7:((fX.veiled==(jv.params.toList++h7.plain.varTypes PP++jv.resultTypes.toList).any (PP.veiledRec ·)))=true:=by kernel_rfl
theorem af8:(fX.veiledFits PP jv.params.toList (jv.params.toList++h7.plain.varTypes PP++jv.resultTypes.toList))=true:=by kernel_rfl
theorem closed:joinedFacts PP 3 jv h7 fX=true:=by unfold joinedFacts;simp only [Bool.and_eq_true];exact⟨⟨⟨⟨⟨⟨⟨⟨⟨⟨⟨⟨⟨⟨⟨⟨⟨⟨⟨⟨⟨⟨⟨⟨⟨⟨⟨⟨⟨⟨⟨j9,eI⟩,cx⟩,d'⟩,u5⟩,Cq⟩,aio⟩,aip⟩,aiq⟩,air⟩,afN⟩,afO⟩,afP⟩,afQ⟩,afR⟩,afS⟩,afT⟩,afU⟩,afV⟩,afW⟩,afX⟩,afY⟩,afZ⟩,af0⟩,af1⟩,af2⟩,af3⟩,af4⟩,af5⟩,af6⟩,af7⟩,af8⟩
end Go.Proofs.YtfegpkfpnpjgeaaGreat.fnBestStep
