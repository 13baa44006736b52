/- Short rules for calls with blocks. -/
import Derived.Test.YtcihigfifglboabGreatELiftP
import Derived.Laws.BitsAllLaws
namespace Go.Lift
open Go
section
variable {K:Ctx} {s:S} {d:Option Tmp} {ty:TypeId} {pos:String} {af:Array Edge} {g:Option (Nat×Bool)} {f:FuncId} {xs:Array Operand} {tys:Array TypeId} {args:List V} {ι:Type} {φ:ι→Prop} {r:ι→V} {out:ι→List E}
theorem OpX.j{o:Oper}{u:Unit→Prop}{s':Unit→S}(h:OpX K o s u s'):OpJ K o s (s' ()):=
 fun β a w next Q hr hk=>h β a w next Q hr fun _ _=>hk
variable {ops:Array Oper} {rest:List Oper} {Q:S→Prop} {op:Op}
end
theorem aEc(a b:Nat)(ha:a<9223372036854775808)(hb:b<9223372036854775808):bits .xor .i64 (a:Int) (b:Int)=((a ^^^ b:Nat):Int):=by have hx:a ^^^ b<2^63:=Nat.xor_lt_two_pow (by omega) (by omega);show IntKind.i64.wrap ((BitVec.ofInt 64 (a:Int) ^^^ BitVec.ofInt 64 (b:Int)).toNat:Int)=_;rw [BitVec.toNat_xor,ofInt_u64 a (by omega),ofInt_u64 b (by omega)];exact IntWalk.i64_in _ (by omega)
end Go.Lift
