/- The data of the program, and how they lie. -/
import Derived.Test.YtohillieiccgdaaGreatFLiftLib
set_option linter.unusedVariables false
namespace Go.Lift
open Go
structure L16Rd where
 b:List UInt8
 p:Int
 deriving Inhabited
structure Affine where
 coefs:List Int
 const:Int
 deriving Inhabited
abbrev aB(x:Affine):List T:=[T.sl (List.map rI x.coefs),T.int .i64 x.const]
theorem bI(x:Affine):(aB x).length=2:=rfl
structure Loop where
 lo:List Affine
 hi:List Affine
 deriving Inhabited
abbrev aD(x:Loop):List T:=[T.sl (List.map aB x.lo),T.sl (List.map aB x.hi)]
theorem iE(x:Loop):(aD x).length=2:=rfl
structure Access where
 array:List UInt8
 subs:List Affine
 deriving Inhabited
abbrev aO(x:Access):List T:=[T.str x.array,T.sl (List.map aB x.subs)]
theorem mT(x:Access):(aO x).length=2:=rfl
structure Expr where
 kind:Int
 num:Int
 index:Affine
 read:Access
 kids:List Expr
instance:Inhabited Expr:=⟨⟨0,0,(⟨[],0⟩:Affine),(⟨[],[]⟩:Access),[]⟩⟩
mutual
def aM:Expr→List T
 |⟨a0,a1,a2,a3,a4⟩=>[T.int .i64 a0,T.int .i64 a1,T.sl (List.map rI a2.coefs),T.int .i64 a2.const,T.str a3.array,T.sl (List.map aB a3.subs),T.sl (A6 a4)]
def A6:List Expr→List (List T)
 | []=>[]
 |x::l=>aM x::A6 l
end
theorem A5: ∀l:List Expr,A6 l=List.map aM l
 | []=>by simp [A6]
 |x::l=>by simp [A6,A5 l]
abbrev cJ(x:Expr):List T:=[T.int .i64 x.kind,T.int .i64 x.num,T.sl (List.map rI x.index.coefs),T.int .i64 x.index.const,T.str x.read.array,T.sl (List.map aB x.read.subs),T.sl (List.map aM x.kids)]
theorem bU(x:Expr):aM x=cJ x:=by cases x;simp [aM,A5]
theorem lK(x:Expr):(aM x).length=7:=by rw [bU];rfl
theorem T6(x:Expr):m5 7 1 (cJ x)=List.map aM [x]:=by rw [show List.map aM [x]=[cJ x] from by simp only [List.map,bU]];rfl
theorem aGK(x y:Expr):m5 7 2 (cJ x++cJ y)=List.map aM [x,y]:=by rw [show List.map aM [x,y]=[cJ x,cJ y] from by simp only [List.map,bU]];rfl
structure Stmt where
 write:Access
 value:Expr
 deriving Inhabited
abbrev bB(x:Stmt):List T:=[T.str x.write.array,T.sl (List.map aB x.write.subs),T.int .i64 x.value.kind,T.int .i64 x.value.num,T.sl (List.map rI x.value.index.coefs),T.int .i64 x.value.index.const,T.str x.value.read.array,T.sl (List.map aB x.value.read.subs),T.sl (List.map aM x.value.kids)]
theorem sN(x:Stmt):(bB x).length=9:=rfl
structure Arr where
 name:List UInt8
 dims:List Int
 deriving Inhabited
abbrev aV(x:Arr):List T:=[T.str x.name,T.sl (List.map rI x.dims)]
theorem uZ(x:Arr):(aV x).length=2:=rfl
structure Part where
 nest:List Loop
 body:List Stmt
 deriving Inhabited
abbrev aH(x:Part):List T:=[T.sl (List.map aD x.nest),T.sl (List.map bB x.body)]
theorem nZ(x:Part):(aH x).length=2:=rfl
structure Prog where
 arrays:List Arr
 parts:List Part
 deriving Inhabited
structure Walking where
 nest:List Loop
 steps:Int
 out:List (List Int)
 deriving Inhabited
structure Inst where
 part:Int
 stmt:Int
 point:List Int
 deriving Inhabited
abbrev aJ(x:Inst):List T:=[T.int .i64 x.part,T.int .i64 x.stmt,T.sl (List.map rI x.point)]
theorem sO(x:Inst):(aJ x).length=3:=rfl
structure Traced where
 program:Prog
 list:List Inst
 reads:List (List Int)
 writes:List Int
 deriving Inhabited
abbrev aGo(x:Traced):List T:=[T.sl (List.map aV x.program.arrays),T.sl (List.map aH x.program.parts),T.sl (List.map aJ x.list),T.sl (List.map (rL rI) x.reads),T.sl (List.map rI x.writes)]
structure L6Use where
 reads:List Int
 write:Int
 deriving Inhabited
abbrev cI(x:L6Use):List T:=[T.sl (List.map rI x.reads),T.int .i64 x.write]
theorem A3(x:L6Use):(cI x).length=2:=rfl
structure Dep where
 fromF:Int
 toF:Int
 kinds:Int
 deriving Inhabited
abbrev aR(x:Dep):List T:=[T.int .i64 x.fromF,T.int .i64 x.toF,T.int .i64 x.kinds]
theorem n4(x:Dep):(aR x).length=3:=rfl
end Go.Lift
