/- Words for the printed walks. -/
import Derived.Test.YtlbojjldejlgaaaGreatTLiftL
namespace Go.Lift
open Go
abbrev vI(n:Int):V:= .t (.int .i64 n)
abbrev vB(b:Bool):V:= .t (.bool b)
abbrev vS(s:List UInt8):V:= .t (.str s)
abbrev vL(rows:List (List T)):V:= .t (.sl rows)
abbrev aLK(n:Int):List T:=[.int .i64 n]
abbrev mX(b:UInt8):List T:=[.int .u8 (b.toNat:Nat)]
def hJ(P:Program)(f:FuncId):Prop:= ∃fn,P.funcs[f]? =some fn∧(fn.name== "runtime.NumGoroutine")=false∧fn.body.isNone=false
section
variable {K:Ctx} {s:S} {Q:Exit→S→Prop}
theorem B5{ops:Array Oper}{l:List Oper}{Q:S→Prop}{s':S}(hs:s.le K s')(h:aBO K ops l s' Q):aBO K ops l s Q:=
  fun β a w Q2 hr hk=>let ⟨β',hr'⟩:=hs β a w hr;h β' a w Q2 hr' hk
theorem D7{id:Nat}{l:List Oper}(s3:S)(h:aBO K l.toArray l s fun s'=>s'.le K s3)(hn:Q .normal s3):eE K (.region id l.toArray false) s Q:=by intro β a w Q' hr hk;refine wp_region_lit (h β a w Q' hr fun s' β' a' w' hq hr'=>?_);obtain⟨β2,hr2⟩:=hq β' a' w' hr';exact hk _ _ _ _ _ hn hr2
theorem Yield.eq{P:Program}{H:Nat→Option E}{o:Oper}{vals:List V}{v v':V}(h:Yield P H o vals v)(e:v=v'):Yield P H o vals v':=e▸h
section
variable {K:Ctx} {s:S} {d:Option Tmp} {ty:TypeId} {pos:String} {af:Array Edge} {g:Option (Nat×Bool)}
variable {t:TypeId} {u:TypeDesc} {z:Value} {gen size bytes:Nat}
end
end
end Go.Lift
