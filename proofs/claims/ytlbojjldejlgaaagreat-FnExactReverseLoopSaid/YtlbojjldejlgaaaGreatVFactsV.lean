import Derived.Test.YtlbojjldejlgaaaGreatVRowB
import Derived.Test.YtlbojjldejlgaaaGreatRows
set_option maxRecDepth 100000
namespace Go.Proofs.YtlbojjldejlgaaaGreat.fnExactReverseLoop
open Go Go.Lift Go.ChangeShapes Go.WideShapes Go.ChangeAt Go.RowKit
noncomputable abbrev PP:Program:=Tryz.pinned.checked.prog
noncomputable abbrev hd:Func:=Tryz.f7
noncomputable abbrev gg:ChangeSpec:=(OpenSpec.ofChange Rows.fnExactReverseLoopSpec).bare
noncomputable abbrev eP:OpenClaim:=Rows.fnExactReverseLoopRow
theorem j5:(eP.wf (OpenSpec.ofChange gg))=true:=by kernel_rfl
theorem b6:(laidOutB PP)=true:=by kernel_rfl
theorem b0:(mapsRowed PP)=true:=by kernel_rfl
theorem dH:(hd.params.all (PP.readableRec ·))=true:=by kernel_rfl
theorem Wj:(namedTie PP eP.named gg.vars)=true:=by kernel_rfl
theorem Wk:((eP.stops==[]))=true:=by kernel_rfl
theorem Wl:((PP.stops==[]))=true:=by kernel_rfl
theorem Wm:((eP.knobs==[]))=true:=by kernel_rfl
theorem Wn:((PP.stopKnobs==[]))=true:=by kernel_rfl
theorem Wo:((eP.inPlace==PP.inPlace 7))=true:=by kernel_rfl
theorem VY:((eP.unfollowed==PP.unfollowed 7))=true:=by kernel_rfl
theorem VZ:((eP.recurses==PP.recurses 7))=true:=by kernel_rfl
theorem V0:((eP.named==PP.varsNamed 7))=true:=by kernel_rfl
theorem V1:((eP.maps==(hd.params.toList++gg.plain.varTypes PP).any (PP.mapsRec ·)))=true:=by kernel_rfl
theorem V2:((eP.ifaces==(hd.params.toList++gg.plain.varTypes PP).any (PP.ifacesRec ·)))=true:=by kernel_rfl
theorem V3:((eP.mapsOut==PP.mapsAmong hd.resultTypes.toList))=true:=by kernel_rfl
theorem V4:((eP.loops==(hd.params.toList++gg.plain.varTypes PP).any (PP.loopsFrom ·)))=true:=by kernel_rfl
theorem V5:((eP.wideKeys==(hd.params.toList++gg.plain.varTypes PP++hd.resultTypes.toList).any (PP.wideKeysFrom ·)))=true:=by kernel_rfl
theorem V6:(gg.vars.all (PP.varReadable ·))=true:=by kernel_rfl
theorem V7:(hd.resultTypes.all fun t=>PP.readableRec t&&decide (t<PP.types.size))=true:=by kernel_rfl
theorem V8:((eP.ifacesOut==hd.resultTypes.toList.any (PP.ifacesRec ·)))=true:=by kernel_rfl
theorem V9:((eP.loopsOut==hd.resultTypes.toList.any (PP.loopsFrom ·)))=true:=by kernel_rfl
theorem V':((eP.plainKeys==PP.plainKeys))=true:=by kernel_rfl
theorem Wa:(eP.shortTexts.isNone)=true:=by kernel_rfl
theorem Wb:(PP.stopsHeard)=true:=by kernel_rfl
theorem Wc:(PP.mayEnter)=true:=by kernel_rfl
theorem Wd:((eP.lifted==PP.liftsFinal))=true:=by kernel_rfl
theorem We:((PP.make==some eP.make))=true:=by kernel_rfl
theorem Wf:((eP.kinds==(if eP.domain.isEmpty then [] else hd.params.toList.map fun t=>match PP.underlying t with|some (.int k)=>some k|_=>none)))=true:=by kernel_rfl
theorem Wg:((eP.pinned==eP.pinnedBy))=true:=by kernel_rfl
theorem Wh:((eP.veiled==(hd.params.toList++gg.plain.varTypes PP++hd.resultTypes.toList).any (PP.veiledRec ·)))=true:=by kernel_rfl
theorem Wi:(eP.veiledFits PP hd.params.toList (hd.params.toList++gg.plain.varTypes PP++hd.resultTypes.toList))=true:=by kernel_rfl
theorem closed:joinedFacts PP 7 hd gg eP=true:=by unfold joinedFacts;simp only [Bool.and_eq_true];exact⟨⟨⟨⟨⟨⟨⟨⟨⟨⟨⟨⟨⟨⟨⟨⟨⟨⟨⟨⟨⟨⟨⟨⟨⟨⟨⟨⟨⟨⟨⟨j5,b6⟩,b0⟩,dH⟩,Wj⟩,Wk⟩,Wl⟩,Wm⟩,Wn⟩,Wo⟩,VY⟩,VZ⟩,V0⟩,V1⟩,V2⟩,V3⟩,V4⟩,V5⟩,V6⟩,V7⟩,V8⟩,V9⟩,V'⟩,Wa⟩,Wb⟩,Wc⟩,Wd⟩,We⟩,Wf⟩,Wg⟩,Wh⟩,Wi⟩
end Go.Proofs.YtlbojjldejlgaaaGreat.fnExactReverseLoop
