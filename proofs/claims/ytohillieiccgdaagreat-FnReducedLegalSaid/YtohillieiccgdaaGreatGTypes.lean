/- The data of the program, and how they lie. -/
import Derived.Test.YtohillieiccgdaaGreatGLiftLib
set_option linter.unusedVariables false
namespace Go.Lift
open Go
structure L16Rd where
 b:List UInt8
 p:Int
 deriving Inhabited
structure Affine where
 coefs:List Int
 const:Int
 deriving Inhabited
abbrev aB(x:Affine):List T:=[T.sl (List.map rI x.coefs),T.int .i64 x.const]
theorem bO(x:Affine):(aB x).length=2:=rfl
structure Loop where
 lo:List Affine
 hi:List Affine
 deriving Inhabited
abbrev aD(x:Loop):List T:=[T.sl (List.map aB x.lo),T.sl (List.map aB x.hi)]
theorem fT(x:Loop):(aD x).length=2:=rfl
structure Access where
 array:List UInt8
 subs:List Affine
 deriving Inhabited
abbrev aR(x:Access):List T:=[T.str x.array,T.sl (List.map aB x.subs)]
theorem nU(x:Access):(aR x).length=2:=rfl
structure Expr where
 kind:Int
 num:Int
 index:Affine
 read:Access
 kids:List Expr
instance:Inhabited Expr:=⟨⟨0,0,(⟨[],0⟩:Affine),(⟨[],[]⟩:Access),[]⟩⟩
mutual
def aO:Expr→List T
 |⟨a0,a1,a2,a3,a4⟩=>[T.int .i64 a0,T.int .i64 a1,T.sl (List.map rI a2.coefs),T.int .i64 a2.const,T.str a3.array,T.sl (List.map aB a3.subs),T.sl (E9 a4)]
def E9:List Expr→List (List T)
 | []=>[]
 |x::l=>aO x::E9 l
end
theorem E8: ∀l:List Expr,E9 l=List.map aO l
 | []=>by simp [E9]
 |x::l=>by simp [E9,E8 l]
abbrev cR(x:Expr):List T:=[T.int .i64 x.kind,T.int .i64 x.num,T.sl (List.map rI x.index.coefs),T.int .i64 x.index.const,T.str x.read.array,T.sl (List.map aB x.read.subs),T.sl (List.map aO x.kids)]
theorem b7(x:Expr):aO x=cR x:=by cases x;simp [aO,E8]
theorem mN(x:Expr):(aO x).length=7:=by rw [b7];rfl
theorem Z1(x:Expr):n8 7 1 (cR x)=List.map aO [x]:=by rw [show List.map aO [x]=[cR x] from by simp only [List.map,b7]];rfl
theorem aHM(x y:Expr):n8 7 2 (cR x++cR y)=List.map aO [x,y]:=by rw [show List.map aO [x,y]=[cR x,cR y] from by simp only [List.map,b7]];rfl
structure Stmt where
 write:Access
 value:Expr
 deriving Inhabited
abbrev aW(x:Stmt):List T:=[T.str x.write.array,T.sl (List.map aB x.write.subs),T.int .i64 x.value.kind,T.int .i64 x.value.num,T.sl (List.map rI x.value.index.coefs),T.int .i64 x.value.index.const,T.str x.value.read.array,T.sl (List.map aB x.value.read.subs),T.sl (List.map aO x.value.kids)]
theorem mM(x:Stmt):(aW x).length=9:=rfl
structure Arr where
 name:List UInt8
 dims:List Int
 deriving Inhabited
abbrev aN(x:Arr):List T:=[T.str x.name,T.sl (List.map rI x.dims)]
theorem pC(x:Arr):(aN x).length=2:=rfl
structure Part where
 nest:List Loop
 body:List Stmt
 deriving Inhabited
abbrev aE(x:Part):List T:=[T.sl (List.map aD x.nest),T.sl (List.map aW x.body)]
theorem kL(x:Part):(aE x).length=2:=rfl
structure Prog where
 arrays:List Arr
 parts:List Part
 deriving Inhabited
structure Walking where
 nest:List Loop
 steps:Int
 out:List (List Int)
 deriving Inhabited
structure Inst where
 part:Int
 stmt:Int
 point:List Int
 deriving Inhabited
abbrev aJ(x:Inst):List T:=[T.int .i64 x.part,T.int .i64 x.stmt,T.sl (List.map rI x.point)]
theorem tQ(x:Inst):(aJ x).length=3:=rfl
structure Traced where
 program:Prog
 list:List Inst
 reads:List (List Int)
 writes:List Int
 deriving Inhabited
abbrev aHp(x:Traced):List T:=[T.sl (List.map aN x.program.arrays),T.sl (List.map aE x.program.parts),T.sl (List.map aJ x.list),T.sl (List.map (rL rI) x.reads),T.sl (List.map rI x.writes)]
structure L6Use where
 reads:List Int
 write:Int
 deriving Inhabited
abbrev cQ(x:L6Use):List T:=[T.sl (List.map rI x.reads),T.int .i64 x.write]
theorem E7(x:L6Use):(cQ x).length=2:=rfl
structure Dep where
 fromF:Int
 toF:Int
 kinds:Int
 deriving Inhabited
abbrev aV(x:Dep):List T:=[T.int .i64 x.fromF,T.int .i64 x.toF,T.int .i64 x.kinds]
theorem pB(x:Dep):(aV x).length=3:=rfl
end Go.Lift
