import Derived.Test.YtlbojjldejlgaaaGreatXRowB
import Derived.Test.YtlbojjldejlgaaaGreatRows
set_option maxRecDepth 100000
namespace Go.Proofs.YtlbojjldejlgaaaGreat.fnExactInterchange
open Go Go.Lift Go.ChangeShapes Go.WideShapes Go.ChangeAt Go.RowKit
noncomputable abbrev PP:Program:=Tryz.pinned.checked.prog
noncomputable abbrev gZ:Func:=Tryz.f6
noncomputable abbrev ga:ChangeSpec:=(OpenSpec.ofChange Rows.fnExactInterchangeSpec).bare
noncomputable abbrev eO:OpenClaim:=Rows.fnExactInterchangeRow
theorem jW:(eO.wf (OpenSpec.ofChange ga))=true:=by kernel_rfl
theorem b6:(laidOutB PP)=true:=by kernel_rfl
theorem bZ:(mapsRowed PP)=true:=by kernel_rfl
theorem dF:(gZ.params.all (PP.readableRec ·))=true:=by kernel_rfl
theorem VN:(namedTie PP eO.named ga.vars)=true:=by kernel_rfl
theorem VO:((eO.stops==[]))=true:=by kernel_rfl
theorem VP:((PP.stops==[]))=true:=by kernel_rfl
theorem VQ:((eO.knobs==[]))=true:=by kernel_rfl
theorem VR:((PP.stopKnobs==[]))=true:=by kernel_rfl
theorem VS:((eO.inPlace==PP.inPlace 6))=true:=by kernel_rfl
theorem Vr:((eO.unfollowed==PP.unfollowed 6))=true:=by kernel_rfl
theorem Vs:((eO.recurses==PP.recurses 6))=true:=by kernel_rfl
theorem Vt:((eO.named==PP.varsNamed 6))=true:=by kernel_rfl
theorem Vu:((eO.maps==(gZ.params.toList++ga.plain.varTypes PP).any (PP.mapsRec ·)))=true:=by kernel_rfl
theorem Vv:((eO.ifaces==(gZ.params.toList++ga.plain.varTypes PP).any (PP.ifacesRec ·)))=true:=by kernel_rfl
theorem Vw:((eO.mapsOut==PP.mapsAmong gZ.resultTypes.toList))=true:=by kernel_rfl
theorem Vx:((eO.loops==(gZ.params.toList++ga.plain.varTypes PP).any (PP.loopsFrom ·)))=true:=by kernel_rfl
theorem Vy:((eO.wideKeys==(gZ.params.toList++ga.plain.varTypes PP++gZ.resultTypes.toList).any (PP.wideKeysFrom ·)))=true:=by kernel_rfl
theorem Vz:(ga.vars.all (PP.varReadable ·))=true:=by kernel_rfl
theorem VA:(gZ.resultTypes.all fun t=>PP.readableRec t&&decide (t<PP.types.size))=true:=by kernel_rfl
theorem VB:((eO.ifacesOut==gZ.resultTypes.toList.any (PP.ifacesRec ·)))=true:=by kernel_rfl
theorem VC:((eO.loopsOut==gZ.resultTypes.toList.any (PP.loopsFrom ·)))=true:=by kernel_rfl
theorem VD:((eO.plainKeys==PP.plainKeys))=true:=by kernel_rfl
theorem VE:(eO.shortTexts.isNone)=true:=by kernel_rfl
theorem VF:(PP.stopsHeard)=true:=by kernel_rfl
theorem VG:(PP.mayEnter)=true:=by kernel_rfl
theorem VH:((eO.lifted==PP.liftsFinal))=true:=by kernel_rfl
theorem VI:((PP.make==some eO.make))=true:=by kernel_rfl
theorem VJ:((eO.kinds==(if eO.domain.isEmpty then [] else gZ.params.toList.map fun t=>match PP.underlying t with|some (.int k)=>some k|_=>none)))=true:=by kernel_rfl
theorem VK:((eO.pinned==eO.pinnedBy))=true:=by kernel_rfl
theorem VL:((eO.veiled==(gZ.params.toList++ga.plain.varTypes PP++gZ.resultTypes.toList).any (PP.veiledRec ·)))=true:=by kernel_rfl
theorem VM:(eO.veiledFits PP gZ.params.toList (gZ.params.toList++ga.plain.varTypes PP++gZ.resultTypes.toList))=true:=by kernel_rfl
theorem closed:joinedFacts PP 6 gZ ga eO=true:=by unfold joinedFacts;simp only [Bool.and_eq_true];exact⟨⟨⟨⟨⟨⟨⟨⟨⟨⟨⟨⟨⟨⟨⟨⟨⟨⟨⟨⟨⟨⟨⟨⟨⟨⟨⟨⟨⟨⟨⟨jW,b6⟩,bZ⟩,dF⟩,VN⟩,VO⟩,VP⟩,VQ⟩,VR⟩,VS⟩,Vr⟩,Vs⟩,Vt⟩,Vu⟩,Vv⟩,Vw⟩,Vx⟩,Vy⟩,Vz⟩,VA⟩,VB⟩,VC⟩,VD⟩,VE⟩,VF⟩,VG⟩,VH⟩,VI⟩,VJ⟩,VK⟩,VL⟩,VM⟩
end Go.Proofs.YtlbojjldejlgaaaGreat.fnExactInterchange
