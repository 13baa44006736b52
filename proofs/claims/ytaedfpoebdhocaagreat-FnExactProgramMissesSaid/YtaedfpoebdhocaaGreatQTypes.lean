/- The data of the program, and how they lie. -/
import Derived.Test.YtaedfpoebdhocaaGreatQLiftLib
set_option linter.unusedVariables false
namespace Go.Lift
open Go
structure Arr where
 name:List UInt8
 dims:List Int
 deriving Inhabited
abbrev aT(x:Arr):List T:=[T.str x.name,T.sl (List.map rI x.dims)]
structure Affine where
 coefs:List Int
 const:Int
 deriving Inhabited
abbrev aD(x:Affine):List T:=[T.sl (List.map rI x.coefs),T.int .i64 x.const]
theorem uD(x:Affine):(aD x).length=2:=rfl
structure Access where
 array:List UInt8
 subs:List Affine
 deriving Inhabited
abbrev aL(x:Access):List T:=[T.str x.array,T.sl (List.map aD x.subs)]
theorem jY(x:Access):(aL x).length=2:=rfl
structure Expr where
 kind:Int
 num:Int
 index:Affine
 read:Access
 kids:List Expr
instance:Inhabited Expr:=⟨⟨0,0,(⟨[],0⟩:Affine),(⟨[],[]⟩:Access),[]⟩⟩
mutual
def aS:Expr→List T
 |⟨a0,a1,a2,a3,a4⟩=>[T.int .i64 a0,T.int .i64 a1,T.sl (List.map rI a2.coefs),T.int .i64 a2.const,T.str a3.array,T.sl (List.map aD a3.subs),T.sl (wN a4)]
def wN:List Expr→List (List T)
 | []=>[]
 |x::l=>aS x::wN l
end
theorem wM: ∀l:List Expr,wN l=List.map aS l
 | []=>by simp [wN]
 |x::l=>by simp [wN,wM l]
abbrev gI(x:Expr):List T:=[T.int .i64 x.kind,T.int .i64 x.num,T.sl (List.map rI x.index.coefs),T.int .i64 x.index.const,T.str x.read.array,T.sl (List.map aD x.read.subs),T.sl (List.map aS x.kids)]
theorem cL(x:Expr):aS x=gI x:=by cases x;simp [aS,wM]
structure Stmt where
 write:Access
 value:Expr
 deriving Inhabited
abbrev aU(x:Stmt):List T:=[T.str x.write.array,T.sl (List.map aD x.write.subs),T.int .i64 x.value.kind,T.int .i64 x.value.num,T.sl (List.map rI x.value.index.coefs),T.int .i64 x.value.index.const,T.str x.value.read.array,T.sl (List.map aD x.value.read.subs),T.sl (List.map aS x.value.kids)]
structure Loop where
 lo:List Affine
 hi:List Affine
 deriving Inhabited
abbrev aG(x:Loop):List T:=[T.sl (List.map aD x.lo),T.sl (List.map aD x.hi)]
structure Part where
 nest:List Loop
 body:List Stmt
 deriving Inhabited
abbrev aR(x:Part):List T:=[T.sl (List.map aG x.nest),T.sl (List.map aU x.body)]
structure Prog where
 arrays:List Arr
 parts:List Part
 deriving Inhabited
abbrev aHe(x:Prog):List T:=[T.sl (List.map aT x.arrays),T.sl (List.map aR x.parts)]
structure Inst where
 part:Int
 stmt:Int
 point:List Int
 deriving Inhabited
abbrev aQ(x:Inst):List T:=[T.int .i64 x.part,T.int .i64 x.stmt,T.sl (List.map rI x.point)]
theorem nX(x:Inst):(aQ x).length=3:=rfl
structure L6Use where
 reads:List Int
 write:Int
 deriving Inhabited
abbrev cT(x:L6Use):List T:=[T.sl (List.map rI x.reads),T.int .i64 x.write]
theorem wL(x:L6Use):(cT x).length=2:=rfl
structure Walking where
 nest:List Loop
 steps:Int
 out:List (List Int)
 deriving Inhabited
structure Traced where
 program:Prog
 list:List Inst
 reads:List (List Int)
 writes:List Int
 deriving Inhabited
abbrev aE4(x:Traced):List T:=[T.sl (List.map aT x.program.arrays),T.sl (List.map aR x.program.parts),T.sl (List.map aQ x.list),T.sl (List.map (rL rI) x.reads),T.sl (List.map rI x.writes)]
end Go.Lift
