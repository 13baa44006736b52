/- The data of the program, and how they lie. -/
import Derived.Test.YtiplelpjhgnmoaaGreatHLiftLib
set_option linter.unusedVariables false
namespace Go.Lift
open Go
structure L16Rd where
 b:List UInt8
 p:Int
 deriving Inhabited
structure Affine where
 coefs:List Int
 const:Int
 deriving Inhabited
abbrev aA(x:Affine):List T:=[T.sl (List.map rI x.coefs),T.int .i64 x.const]
theorem aU(x:Affine):(aA x).length=2:=rfl
structure Loop where
 lo:List Affine
 hi:List Affine
 deriving Inhabited
abbrev aC(x:Loop):List T:=[T.sl (List.map aA x.lo),T.sl (List.map aA x.hi)]
theorem b9(x:Loop):(aC x).length=2:=rfl
structure Access where
 array:List UInt8
 subs:List Affine
 deriving Inhabited
abbrev aV(x:Access):List T:=[T.str x.array,T.sl (List.map aA x.subs)]
theorem pN(x:Access):(aV x).length=2:=rfl
structure Expr where
 kind:Int
 num:Int
 index:Affine
 read:Access
 kids:List Expr
instance:Inhabited Expr:=⟨⟨0,0,(⟨[],0⟩:Affine),(⟨[],[]⟩:Access),[]⟩⟩
mutual
def aJ:Expr→List T
 |⟨a0,a1,a2,a3,a4⟩=>[T.int .i64 a0,T.int .i64 a1,T.sl (List.map rI a2.coefs),T.int .i64 a2.const,T.str a3.array,T.sl (List.map aA a3.subs),T.sl (L8 a4)]
def L8:List Expr→List (List T)
 | []=>[]
 |x::l=>aJ x::L8 l
end
theorem L7: ∀l:List Expr,L8 l=List.map aJ l
 | []=>by simp [L8]
 |x::l=>by simp [L8,L7 l]
abbrev eM(x:Expr):List T:=[T.int .i64 x.kind,T.int .i64 x.num,T.sl (List.map rI x.index.coefs),T.int .i64 x.index.const,T.str x.read.array,T.sl (List.map aA x.read.subs),T.sl (List.map aJ x.kids)]
theorem dC(x:Expr):aJ x=eM x:=by cases x;simp [aJ,L7]
theorem dW(x:Expr):(aJ x).length=7:=by rw [dC];rfl
theorem sJ(x:Expr):pS 7 1 (eM x)=List.map aJ [x]:=by rw [show List.map aJ [x]=[eM x] from by simp only [List.map,dC]];rfl
theorem aJ6(x y:Expr):pS 7 2 (eM x++eM y)=List.map aJ [x,y]:=by rw [show List.map aJ [x,y]=[eM x,eM y] from by simp only [List.map,dC]];rfl
structure Stmt where
 write:Access
 value:Expr
 deriving Inhabited
abbrev aG(x:Stmt):List T:=[T.str x.write.array,T.sl (List.map aA x.write.subs),T.int .i64 x.value.kind,T.int .i64 x.value.num,T.sl (List.map rI x.value.index.coefs),T.int .i64 x.value.index.const,T.str x.value.read.array,T.sl (List.map aA x.value.read.subs),T.sl (List.map aJ x.value.kids)]
theorem dV(x:Stmt):(aG x).length=9:=rfl
structure Arr where
 name:List UInt8
 dims:List Int
 deriving Inhabited
abbrev aI(x:Arr):List T:=[T.str x.name,T.sl (List.map rI x.dims)]
theorem gL(x:Arr):(aI x).length=2:=rfl
structure Part where
 nest:List Loop
 body:List Stmt
 deriving Inhabited
abbrev aD(x:Part):List T:=[T.sl (List.map aC x.nest),T.sl (List.map aG x.body)]
theorem b8(x:Part):(aD x).length=2:=rfl
structure Prog where
 arrays:List Arr
 parts:List Part
 deriving Inhabited
structure Walking where
 nest:List Loop
 steps:Int
 out:List (List Int)
 deriving Inhabited
structure Inst where
 part:Int
 stmt:Int
 point:List Int
 deriving Inhabited
abbrev bH(x:Inst):List T:=[T.int .i64 x.part,T.int .i64 x.stmt,T.sl (List.map rI x.point)]
theorem Y3(x:Inst):(bH x).length=3:=rfl
structure Traced where
 program:Prog
 list:List Inst
 reads:List (List Int)
 writes:List Int
 deriving Inhabited
abbrev aJD(x:Traced):List T:=[T.sl (List.map aI x.program.arrays),T.sl (List.map aD x.program.parts),T.sl (List.map bH x.list),T.sl (List.map (rL rI) x.reads),T.sl (List.map rI x.writes)]
structure Dep where
 fromF:Int
 toF:Int
 kinds:Int
 deriving Inhabited
abbrev jL(x:Dep):List T:=[T.int .i64 x.fromF,T.int .i64 x.toF,T.int .i64 x.kinds]
theorem aB5(x:Dep):(jL x).length=3:=rfl
end Go.Lift
