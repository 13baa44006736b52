/- The data of the program, and how they lie. -/
import Derived.Test.YtjmaejilmokdgaaGreatRLiftLib
set_option linter.unusedVariables false
namespace Go.Lift
open Go
structure L16Rd where
 b:List UInt8
 p:Int
 deriving Inhabited
structure Affine where
 coefs:List Int
 const:Int
 deriving Inhabited
abbrev aB(x:Affine):List T:=[T.sl (List.map rI x.coefs),T.int .i64 x.const]
theorem bQ(x:Affine):(aB x).length=2:=rfl
structure Loop where
 lo:List Affine
 hi:List Affine
 deriving Inhabited
abbrev aF(x:Loop):List T:=[T.sl (List.map aB x.lo),T.sl (List.map aB x.hi)]
theorem fV(x:Loop):(aF x).length=2:=rfl
structure Access where
 array:List UInt8
 subs:List Affine
 deriving Inhabited
abbrev bA(x:Access):List T:=[T.str x.array,T.sl (List.map aB x.subs)]
theorem oG(x:Access):(bA x).length=2:=rfl
structure Expr where
 kind:Int
 num:Int
 index:Affine
 read:Access
 kids:List Expr
instance:Inhabited Expr:=⟨⟨0,0,(⟨[],0⟩:Affine),(⟨[],[]⟩:Access),[]⟩⟩
mutual
def aS:Expr→List T
 |⟨a0,a1,a2,a3,a4⟩=>[T.int .i64 a0,T.int .i64 a1,T.sl (List.map rI a2.coefs),T.int .i64 a2.const,T.str a3.array,T.sl (List.map aB a3.subs),T.sl (O2 a4)]
def O2:List Expr→List (List T)
 | []=>[]
 |x::l=>aS x::O2 l
end
theorem O1: ∀l:List Expr,O2 l=List.map aS l
 | []=>by simp [O2]
 |x::l=>by simp [O2,O1 l]
abbrev fG(x:Expr):List T:=[T.int .i64 x.kind,T.int .i64 x.num,T.sl (List.map rI x.index.coefs),T.int .i64 x.index.const,T.str x.read.array,T.sl (List.map aB x.read.subs),T.sl (List.map aS x.kids)]
theorem dR(x:Expr):aS x=fG x:=by cases x;simp [aS,O1]
theorem mS(x:Expr):(aS x).length=7:=by rw [dR];rfl
theorem aBI(x:Expr):o6 7 1 (fG x)=List.map aS [x]:=by rw [show List.map aS [x]=[fG x] from by simp only [List.map,dR]];rfl
theorem aKC(x y:Expr):o6 7 2 (fG x++fG y)=List.map aS [x,y]:=by rw [show List.map aS [x,y]=[fG x,fG y] from by simp only [List.map,dR]];rfl
structure Stmt where
 write:Access
 value:Expr
 deriving Inhabited
abbrev bC(x:Stmt):List T:=[T.str x.write.array,T.sl (List.map aB x.write.subs),T.int .i64 x.value.kind,T.int .i64 x.value.num,T.sl (List.map rI x.value.index.coefs),T.int .i64 x.value.index.const,T.str x.value.read.array,T.sl (List.map aB x.value.read.subs),T.sl (List.map aS x.value.kids)]
theorem mR(x:Stmt):(bC x).length=9:=rfl
structure Arr where
 name:List UInt8
 dims:List Int
 deriving Inhabited
abbrev aO(x:Arr):List T:=[T.str x.name,T.sl (List.map rI x.dims)]
theorem pX(x:Arr):(aO x).length=2:=rfl
structure Part where
 nest:List Loop
 body:List Stmt
 deriving Inhabited
abbrev aD(x:Part):List T:=[T.sl (List.map aF x.nest),T.sl (List.map bC x.body)]
theorem kK(x:Part):(aD x).length=2:=rfl
structure Prog where
 arrays:List Arr
 parts:List Part
 deriving Inhabited
structure Walking where
 nest:List Loop
 steps:Int
 out:List (List Int)
 deriving Inhabited
structure Inst where
 part:Int
 stmt:Int
 point:List Int
 deriving Inhabited
abbrev aJ(x:Inst):List T:=[T.int .i64 x.part,T.int .i64 x.stmt,T.sl (List.map rI x.point)]
theorem uQ(x:Inst):(aJ x).length=3:=rfl
structure Traced where
 program:Prog
 list:List Inst
 reads:List (List Int)
 writes:List Int
 deriving Inhabited
abbrev aJ1(x:Traced):List T:=[T.sl (List.map aO x.program.arrays),T.sl (List.map aD x.program.parts),T.sl (List.map aJ x.list),T.sl (List.map (rL rI) x.reads),T.sl (List.map rI x.writes)]
structure Dep where
 fromF:Int
 toF:Int
 kinds:Int
 deriving Inhabited
abbrev jF(x:Dep):List T:=[T.int .i64 x.fromF,T.int .i64 x.toF,T.int .i64 x.kinds]
theorem aCu(x:Dep):(jF x).length=3:=rfl
end Go.Lift
