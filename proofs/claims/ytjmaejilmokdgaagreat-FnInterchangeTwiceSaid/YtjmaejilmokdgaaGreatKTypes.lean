/- The data of the program, and how they lie. -/
import Derived.Test.YtjmaejilmokdgaaGreatKLiftLib
set_option linter.unusedVariables false
namespace Go.Lift
open Go
structure L16Rd where
 b:List UInt8
 p:Int
 deriving Inhabited
structure Affine where
 coefs:List Int
 const:Int
 deriving Inhabited
abbrev aB(x:Affine):List T:=[T.sl (List.map rI x.coefs),T.int .i64 x.const]
theorem bC(x:Affine):(aB x).length=2:=rfl
structure Loop where
 lo:List Affine
 hi:List Affine
 deriving Inhabited
abbrev aC(x:Loop):List T:=[T.sl (List.map aB x.lo),T.sl (List.map aB x.hi)]
theorem cA(x:Loop):(aC x).length=2:=rfl
structure Access where
 array:List UInt8
 subs:List Affine
 deriving Inhabited
abbrev bD(x:Access):List T:=[T.str x.array,T.sl (List.map aB x.subs)]
theorem pN(x:Access):(bD x).length=2:=rfl
structure Expr where
 kind:Int
 num:Int
 index:Affine
 read:Access
 kids:List Expr
instance:Inhabited Expr:=⟨⟨0,0,(⟨[],0⟩:Affine),(⟨[],[]⟩:Access),[]⟩⟩
mutual
def aK:Expr→List T
 |⟨a0,a1,a2,a3,a4⟩=>[T.int .i64 a0,T.int .i64 a1,T.sl (List.map rI a2.coefs),T.int .i64 a2.const,T.str a3.array,T.sl (List.map aB a3.subs),T.sl (T5 a4)]
def T5:List Expr→List (List T)
 | []=>[]
 |x::l=>aK x::T5 l
end
theorem T4: ∀l:List Expr,T5 l=List.map aK l
 | []=>by simp [T5]
 |x::l=>by simp [T5,T4 l]
abbrev eK(x:Expr):List T:=[T.int .i64 x.kind,T.int .i64 x.num,T.sl (List.map rI x.index.coefs),T.int .i64 x.index.const,T.str x.read.array,T.sl (List.map aB x.read.subs),T.sl (List.map aK x.kids)]
theorem dJ(x:Expr):aK x=eK x:=by cases x;simp [aK,T4]
theorem d6(x:Expr):(aK x).length=7:=by rw [dJ];rfl
theorem s9(x:Expr):pX 7 1 (eK x)=List.map aK [x]:=by rw [show List.map aK [x]=[eK x] from by simp only [List.map,dJ]];rfl
theorem aL6(x y:Expr):pX 7 2 (eK x++eK y)=List.map aK [x,y]:=by rw [show List.map aK [x,y]=[eK x,eK y] from by simp only [List.map,dJ]];rfl
structure Stmt where
 write:Access
 value:Expr
 deriving Inhabited
abbrev aI(x:Stmt):List T:=[T.str x.write.array,T.sl (List.map aB x.write.subs),T.int .i64 x.value.kind,T.int .i64 x.value.num,T.sl (List.map rI x.value.index.coefs),T.int .i64 x.value.index.const,T.str x.value.read.array,T.sl (List.map aB x.value.read.subs),T.sl (List.map aK x.value.kids)]
theorem d5(x:Stmt):(aI x).length=9:=rfl
structure Arr where
 name:List UInt8
 dims:List Int
 deriving Inhabited
abbrev aJ(x:Arr):List T:=[T.str x.name,T.sl (List.map rI x.dims)]
theorem gB(x:Arr):(aJ x).length=2:=rfl
structure Part where
 nest:List Loop
 body:List Stmt
 deriving Inhabited
abbrev aD(x:Part):List T:=[T.sl (List.map aC x.nest),T.sl (List.map aI x.body)]
theorem b9(x:Part):(aD x).length=2:=rfl
structure Prog where
 arrays:List Arr
 parts:List Part
 deriving Inhabited
structure Walking where
 nest:List Loop
 steps:Int
 out:List (List Int)
 deriving Inhabited
structure Inst where
 part:Int
 stmt:Int
 point:List Int
 deriving Inhabited
abbrev aV(x:Inst):List T:=[T.int .i64 x.part,T.int .i64 x.stmt,T.sl (List.map rI x.point)]
theorem v7(x:Inst):(aV x).length=3:=rfl
structure Traced where
 program:Prog
 list:List Inst
 reads:List (List Int)
 writes:List Int
 deriving Inhabited
abbrev aLH(x:Traced):List T:=[T.sl (List.map aJ x.program.arrays),T.sl (List.map aD x.program.parts),T.sl (List.map aV x.list),T.sl (List.map (rL rI) x.reads),T.sl (List.map rI x.writes)]
structure Dep where
 fromF:Int
 toF:Int
 kinds:Int
 deriving Inhabited
abbrev dK(x:Dep):List T:=[T.int .i64 x.fromF,T.int .i64 x.toF,T.int .i64 x.kinds]
theorem A6(x:Dep):(dK x).length=3:=rfl
structure L6Use where
 reads:List Int
 write:Int
 deriving Inhabited
abbrev dU(x:L6Use):List T:=[T.sl (List.map rI x.reads),T.int .i64 x.write]
theorem T3(x:L6Use):(dU x).length=2:=rfl
end Go.Lift
