import Derived.Test.YtbgbodhagkdffaaGreatDoorSRowB
import Derived.Test.YtbgbodhagkdffaaGreatDoorRows
set_option maxRecDepth 100000
set_option maxHeartbeats 400000000
namespace Go.Proofs.YtbgbodhagkdffaaGreatDoor.fnScriptSteps
open Go Go.Lift Go.ChangeShapes Go.WideShapes Go.ChangeAt Go.RowKit
theorem closed:joinedFacts Tryz.pinned.checked.prog 3 Tryz.f3 (OpenSpec.ofChange Rows.fnScriptStepsSpec).bare Rows.fnScriptStepsRow=true:=by
 unfold joinedFacts;simp only [Bool.and_eq_true]
 repeat' apply And.intro
 all_goals decide+kernel
end Go.Proofs.YtbgbodhagkdffaaGreatDoor.fnScriptSteps
