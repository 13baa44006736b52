/- Short rules for calls with blocks. -/
import Derived.Test.YtlbojjldejlgaaaGreatTLiftP
import Derived.Laws.BitsAllLaws
namespace Go.Lift
open Go
section
variable {K:Ctx} {s:S} {d:Option Tmp} {ty:TypeId} {pos:String} {af:Array Edge} {g:Option (Nat×Bool)} {f:FuncId} {xs:Array Operand} {tys:Array TypeId} {args:List V} {ι:Type} {φ:ι→Prop} {r:ι→V} {out:ι→List E}
theorem OpX.j{o:Oper}{u:Unit→Prop}{s':Unit→S}(h:OpX K o s u s'):OpJ K o s (s' ()):=
 fun β a w next Q hr hk=>h β a w next Q hr fun _ _=>hk
variable {ops:Array Oper} {rest:List Oper} {Q:S→Prop} {op:Op}
end
end Go.Lift
