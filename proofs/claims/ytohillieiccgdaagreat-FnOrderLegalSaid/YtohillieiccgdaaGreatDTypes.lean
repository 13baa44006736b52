/- The data of the program, and how they lie. -/
import Derived.Test.YtohillieiccgdaaGreatDLiftLib
set_option linter.unusedVariables false
namespace Go.Lift
open Go
structure L16Rd where
 b:List UInt8
 p:Int
 deriving Inhabited
structure Affine where
 coefs:List Int
 const:Int
 deriving Inhabited
abbrev aB(x:Affine):List T:=[T.sl (List.map rI x.coefs),T.int .i64 x.const]
theorem bF(x:Affine):(aB x).length=2:=rfl
structure Loop where
 lo:List Affine
 hi:List Affine
 deriving Inhabited
abbrev aD(x:Loop):List T:=[T.sl (List.map aB x.lo),T.sl (List.map aB x.hi)]
theorem hF(x:Loop):(aD x).length=2:=rfl
structure Access where
 array:List UInt8
 subs:List Affine
 deriving Inhabited
abbrev aO(x:Access):List T:=[T.str x.array,T.sl (List.map aB x.subs)]
theorem mI(x:Access):(aO x).length=2:=rfl
structure Expr where
 kind:Int
 num:Int
 index:Affine
 read:Access
 kids:List Expr
instance:Inhabited Expr:=⟨⟨0,0,(⟨[],0⟩:Affine),(⟨[],[]⟩:Access),[]⟩⟩
mutual
def aN:Expr→List T
 |⟨a0,a1,a2,a3,a4⟩=>[T.int .i64 a0,T.int .i64 a1,T.sl (List.map rI a2.coefs),T.int .i64 a2.const,T.str a3.array,T.sl (List.map aB a3.subs),T.sl (zD a4)]
def zD:List Expr→List (List T)
 | []=>[]
 |x::l=>aN x::zD l
end
theorem zC: ∀l:List Expr,zD l=List.map aN l
 | []=>by simp [zD]
 |x::l=>by simp [zD,zC l]
abbrev eI(x:Expr):List T:=[T.int .i64 x.kind,T.int .i64 x.num,T.sl (List.map rI x.index.coefs),T.int .i64 x.index.const,T.str x.read.array,T.sl (List.map aB x.read.subs),T.sl (List.map aN x.kids)]
theorem dG(x:Expr):aN x=eI x:=by cases x;simp [aN,zC]
theorem kZ(x:Expr):(aN x).length=7:=by rw [dG];rfl
theorem Q4(x:Expr):mS 7 1 (eI x)=List.map aN [x]:=by rw [show List.map aN [x]=[eI x] from by simp only [List.map,dG]];rfl
theorem aFI(x y:Expr):mS 7 2 (eI x++eI y)=List.map aN [x,y]:=by rw [show List.map aN [x,y]=[eI x,eI y] from by simp only [List.map,dG]];rfl
structure Stmt where
 write:Access
 value:Expr
 deriving Inhabited
abbrev bA(x:Stmt):List T:=[T.str x.write.array,T.sl (List.map aB x.write.subs),T.int .i64 x.value.kind,T.int .i64 x.value.num,T.sl (List.map rI x.value.index.coefs),T.int .i64 x.value.index.const,T.str x.value.read.array,T.sl (List.map aB x.value.read.subs),T.sl (List.map aN x.value.kids)]
theorem rP(x:Stmt):(bA x).length=9:=rfl
structure Arr where
 name:List UInt8
 dims:List Int
 deriving Inhabited
abbrev aV(x:Arr):List T:=[T.str x.name,T.sl (List.map rI x.dims)]
theorem t8(x:Arr):(aV x).length=2:=rfl
structure Part where
 nest:List Loop
 body:List Stmt
 deriving Inhabited
abbrev aH(x:Part):List T:=[T.sl (List.map aD x.nest),T.sl (List.map bA x.body)]
theorem nM(x:Part):(aH x).length=2:=rfl
structure Prog where
 arrays:List Arr
 parts:List Part
 deriving Inhabited
structure Walking where
 nest:List Loop
 steps:Int
 out:List (List Int)
 deriving Inhabited
structure Inst where
 part:Int
 stmt:Int
 point:List Int
 deriving Inhabited
abbrev aJ(x:Inst):List T:=[T.int .i64 x.part,T.int .i64 x.stmt,T.sl (List.map rI x.point)]
theorem rQ(x:Inst):(aJ x).length=3:=rfl
structure Traced where
 program:Prog
 list:List Inst
 reads:List (List Int)
 writes:List Int
 deriving Inhabited
abbrev aFo(x:Traced):List T:=[T.sl (List.map aV x.program.arrays),T.sl (List.map aH x.program.parts),T.sl (List.map aJ x.list),T.sl (List.map (rL rI) x.reads),T.sl (List.map rI x.writes)]
structure L6Use where
 reads:List Int
 write:Int
 deriving Inhabited
abbrev cA(x:L6Use):List T:=[T.sl (List.map rI x.reads),T.int .i64 x.write]
theorem zB(x:L6Use):(cA x).length=2:=rfl
structure Dep where
 fromF:Int
 toF:Int
 kinds:Int
 deriving Inhabited
abbrev bT(x:Dep):List T:=[T.int .i64 x.fromF,T.int .i64 x.toF,T.int .i64 x.kinds]
theorem t7(x:Dep):(bT x).length=3:=rfl
end Go.Lift
