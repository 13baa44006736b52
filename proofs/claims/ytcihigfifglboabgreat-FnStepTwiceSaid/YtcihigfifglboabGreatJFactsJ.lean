import Derived.Test.YtcihigfifglboabGreatJRowB
import Derived.Test.YtcihigfifglboabGreatRows
set_option maxRecDepth 100000
namespace Go.Proofs.YtcihigfifglboabGreat.fnStepTwice
open Go Go.Lift Go.ChangeShapes Go.WideShapes Go.ChangeAt Go.RowKit
noncomputable abbrev PP:Program:=Tryz.pinned.checked.prog
noncomputable abbrev jy:Func:=Tryz.f6
noncomputable abbrev ic:ChangeSpec:=(OpenSpec.ofChange Rows.fnStepTwiceSpec).bare
noncomputable abbrev gb:OpenClaim:=Rows.fnStepTwiceRow
theorem ka:(gb.wf (OpenSpec.ofChange ic))=true:=by kernel_rfl
theorem ev:(laidOutB PP)=true:=by kernel_rfl
theorem cz:(mapsRowed PP)=true:=by kernel_rfl
theorem ei:(jy.params.all (PP.readableRec ·))=true:=by kernel_rfl
theorem ahb:(namedTie PP gb.named ic.vars)=true:=by kernel_rfl
theorem ahc:((gb.stops==[]))=true:=by kernel_rfl
theorem ahd:((PP.stops==[]))=true:=by kernel_rfl
theorem ahe:((gb.knobs==[]))=true:=by kernel_rfl
theorem ahf:((PP.stopKnobs==[]))=true:=by kernel_rfl
theorem ahg:((gb.inPlace==PP.inPlace 6))=true:=by kernel_rfl
theorem aeF:((gb.unfollowed==PP.unfollowed 6))=true:=by kernel_rfl
theorem aeG:((gb.recurses==PP.recurses 6))=true:=by kernel_rfl
theorem aeH:((gb.named==PP.varsNamed 6))=true:=by kernel_rfl
theorem aeI:((gb.maps==(jy.params.toList++ic.plain.varTypes PP).any (PP.mapsRec ·)))=true:=by kernel_rfl
theorem aeJ:((gb.ifaces==(jy.params.toList++ic.plain.varTypes PP).any (PP.ifacesRec ·)))=true:=by kernel_rfl
theorem aeK:((gb.mapsOut==PP.mapsAmong jy.resultTypes.toList))=true:=by kernel_rfl
theorem aeL:((gb.loops==(jy.params.toList++ic.plain.varTypes PP).any (PP.loopsFrom ·)))=true:=by kernel_rfl
theorem aeM:((gb.wideKeys==(jy.params.toList++ic.plain.varTypes PP++jy.resultTypes.toList).any (PP.wideKeysFrom ·)))=true:=by kernel_rfl
theorem aeN:(ic.vars.all (PP.varReadable ·))=true:=by kernel_rfl
theorem aeO:(jy.resultTypes.all fun t=>PP.readableRec t&&decide (t<PP.types.size))=true:=by kernel_rfl
theorem aeP:((gb.ifacesOut==jy.resultTypes.toList.any (PP.ifacesRec ·)))=true:=by kernel_rfl
theorem aeQ:((gb.loopsOut==jy.resultTypes.toList.any (PP.loopsFrom ·)))=true:=by kernel_rfl
theorem aeR:((gb.plainKeys==PP.plainKeys))=true:=by kernel_rfl
theorem aeS:(gb.shortTexts.isNone)=true:=by kernel_rfl
theorem aeT:(PP.stopsHeard)=true:=by kernel_rfl
theorem aeU:(PP.mayEnter)=true:=by kernel_rfl
theorem aeV:((gb.lifted==PP.liftsFinal))=true:=by kernel_rfl
theorem aeW:((PP.make==some gb.make))=true:=by kernel_rfl
theorem aeX:((gb.kinds==(if gb.domain.isEmpty then [] else jy.params.toList.map fun t=>match PP.underlying t with|some (.int k)=>some k|_=>none)))=true:=by kernel_rfl
theorem aeY:((gb.pinned==gb.pinnedBy))=true:=by kernel_rfl
theorem aeZ:((gb.veiled==(jy.params.toList++ic.plain.varTypes PP++jy.resultTypes.toList).any (PP.veiledRec ·)))=true:=by kernel_rfl
theorem ae0:(gb.veiledFits PP jy.params.toList (jy.params.toList++ic.plain.varTypes PP++jy.resultTypes.toList))=true:=by kernel_rfl
theorem closed:joinedFacts PP 6 jy ic gb=true:=by unfold joinedFacts;simp only [Bool.and_eq_true];exact⟨⟨⟨⟨⟨⟨⟨⟨⟨⟨⟨⟨⟨⟨⟨⟨⟨⟨⟨⟨⟨⟨⟨⟨⟨⟨⟨⟨⟨⟨⟨ka,ev⟩,cz⟩,ei⟩,ahb⟩,ahc⟩,ahd⟩,ahe⟩,ahf⟩,ahg⟩,aeF⟩,aeG⟩,aeH⟩,aeI⟩,aeJ⟩,aeK⟩,aeL⟩,aeM⟩,aeN⟩,aeO⟩,aeP⟩,aeQ⟩,aeR⟩,aeS⟩,aeT⟩,aeU⟩,aeV⟩,aeW⟩,aeX⟩,aeY⟩,aeZ⟩,ae0⟩
end Go.Proofs.YtcihigfifglboabGreat.fnStepTwice
