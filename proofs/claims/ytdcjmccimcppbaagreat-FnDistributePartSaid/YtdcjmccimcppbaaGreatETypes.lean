/- The data of the program, and how they lie. -/
import Derived.Test.YtdcjmccimcppbaaGreatELiftLib
set_option linter.unusedVariables false
namespace Go.Lift
open Go
structure Arr where
 name:List UInt8
 dims:List Int
 deriving Inhabited
abbrev aH(x:Arr):List T:=[T.str x.name,T.sl (List.map rI x.dims)]
theorem gH(x:Arr):(aH x).length=2:=rfl
structure Affine where
 coefs:List Int
 const:Int
 deriving Inhabited
abbrev aB(x:Affine):List T:=[T.sl (List.map rI x.coefs),T.int .i64 x.const]
theorem bC(x:Affine):(aB x).length=2:=rfl
structure Loop where
 lo:List Affine
 hi:List Affine
 deriving Inhabited
abbrev aD(x:Loop):List T:=[T.sl (List.map aB x.lo),T.sl (List.map aB x.hi)]
theorem dA(x:Loop):(aD x).length=2:=rfl
structure Access where
 array:List UInt8
 subs:List Affine
 deriving Inhabited
abbrev aU(x:Access):List T:=[T.str x.array,T.sl (List.map aB x.subs)]
theorem oU(x:Access):(aU x).length=2:=rfl
structure Expr where
 kind:Int
 num:Int
 index:Affine
 read:Access
 kids:List Expr
instance:Inhabited Expr:=⟨⟨0,0,(⟨[],0⟩:Affine),(⟨[],[]⟩:Access),[]⟩⟩
mutual
def aK:Expr→List T
 |⟨a0,a1,a2,a3,a4⟩=>[T.int .i64 a0,T.int .i64 a1,T.sl (List.map rI a2.coefs),T.int .i64 a2.const,T.str a3.array,T.sl (List.map aB a3.subs),T.sl (I0 a4)]
def I0:List Expr→List (List T)
 | []=>[]
 |x::l=>aK x::I0 l
end
theorem H9: ∀l:List Expr,I0 l=List.map aK l
 | []=>by simp [I0]
 |x::l=>by simp [I0,H9 l]
abbrev eJ(x:Expr):List T:=[T.int .i64 x.kind,T.int .i64 x.num,T.sl (List.map rI x.index.coefs),T.int .i64 x.index.const,T.str x.read.array,T.sl (List.map aB x.read.subs),T.sl (List.map aK x.kids)]
theorem cY(x:Expr):aK x=eJ x:=by cases x;simp [aK,H9]
theorem gM(x:Expr):(aK x).length=7:=by rw [cY];rfl
theorem xV(x:Expr):o5 7 1 (eJ x)=List.map aK [x]:=by rw [show List.map aK [x]=[eJ x] from by simp only [List.map,cY]];rfl
theorem aID(x y:Expr):o5 7 2 (eJ x++eJ y)=List.map aK [x,y]:=by rw [show List.map aK [x,y]=[eJ x,eJ y] from by simp only [List.map,cY]];rfl
structure Stmt where
 write:Access
 value:Expr
 deriving Inhabited
abbrev aI(x:Stmt):List T:=[T.str x.write.array,T.sl (List.map aB x.write.subs),T.int .i64 x.value.kind,T.int .i64 x.value.num,T.sl (List.map rI x.value.index.coefs),T.int .i64 x.value.index.const,T.str x.value.read.array,T.sl (List.map aB x.value.read.subs),T.sl (List.map aK x.value.kids)]
theorem cJ(x:Stmt):(aI x).length=9:=rfl
structure Part where
 nest:List Loop
 body:List Stmt
 deriving Inhabited
abbrev aC(x:Part):List T:=[T.sl (List.map aD x.nest),T.sl (List.map aI x.body)]
theorem b6(x:Part):(aC x).length=2:=rfl
structure Prog where
 arrays:List Arr
 parts:List Part
 deriving Inhabited
structure L16Rd where
 b:List UInt8
 p:Int
 deriving Inhabited
structure Walking where
 nest:List Loop
 steps:Int
 out:List (List Int)
 deriving Inhabited
structure Inst where
 part:Int
 stmt:Int
 point:List Int
 deriving Inhabited
abbrev aP(x:Inst):List T:=[T.int .i64 x.part,T.int .i64 x.stmt,T.sl (List.map rI x.point)]
theorem uE(x:Inst):(aP x).length=3:=rfl
structure Traced where
 program:Prog
 list:List Inst
 reads:List (List Int)
 writes:List Int
 deriving Inhabited
abbrev aH8(x:Traced):List T:=[T.sl (List.map aH x.program.arrays),T.sl (List.map aC x.program.parts),T.sl (List.map aP x.list),T.sl (List.map (rL rI) x.reads),T.sl (List.map rI x.writes)]
structure L6Use where
 reads:List Int
 write:Int
 deriving Inhabited
abbrev cX(x:L6Use):List T:=[T.sl (List.map rI x.reads),T.int .i64 x.write]
theorem H8(x:L6Use):(cX x).length=2:=rfl
structure Dep where
 fromF:Int
 toF:Int
 kinds:Int
 deriving Inhabited
abbrev dC(x:Dep):List T:=[T.int .i64 x.fromF,T.int .i64 x.toF,T.int .i64 x.kinds]
theorem w8(x:Dep):(dC x).length=3:=rfl
end Go.Lift
