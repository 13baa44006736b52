/- The data of the program, and how they lie. -/
import Derived.Test.YtohillieiccgdaaGreatCLiftLib
set_option linter.unusedVariables false
namespace Go.Lift
open Go
structure L16Rd where
 b:List UInt8
 p:Int
 deriving Inhabited
structure Affine where
 coefs:List Int
 const:Int
 deriving Inhabited
abbrev aB(x:Affine):List T:=[T.sl (List.map rI x.coefs),T.int .i64 x.const]
theorem bF(x:Affine):(aB x).length=2:=rfl
structure Loop where
 lo:List Affine
 hi:List Affine
 deriving Inhabited
abbrev aD(x:Loop):List T:=[T.sl (List.map aB x.lo),T.sl (List.map aB x.hi)]
theorem gU(x:Loop):(aD x).length=2:=rfl
structure Access where
 array:List UInt8
 subs:List Affine
 deriving Inhabited
abbrev aO(x:Access):List T:=[T.str x.array,T.sl (List.map aB x.subs)]
theorem mC(x:Access):(aO x).length=2:=rfl
structure Expr where
 kind:Int
 num:Int
 index:Affine
 read:Access
 kids:List Expr
instance:Inhabited Expr:=⟨⟨0,0,(⟨[],0⟩:Affine),(⟨[],[]⟩:Access),[]⟩⟩
mutual
def aM:Expr→List T
 |⟨a0,a1,a2,a3,a4⟩=>[T.int .i64 a0,T.int .i64 a1,T.sl (List.map rI a2.coefs),T.int .i64 a2.const,T.str a3.array,T.sl (List.map aB a3.subs),T.sl (yW a4)]
def yW:List Expr→List (List T)
 | []=>[]
 |x::l=>aM x::yW l
end
theorem yV: ∀l:List Expr,yW l=List.map aM l
 | []=>by simp [yW]
 |x::l=>by simp [yW,yV l]
abbrev eE(x:Expr):List T:=[T.int .i64 x.kind,T.int .i64 x.num,T.sl (List.map rI x.index.coefs),T.int .i64 x.index.const,T.str x.read.array,T.sl (List.map aB x.read.subs),T.sl (List.map aM x.kids)]
theorem dF(x:Expr):aM x=eE x:=by cases x;simp [aM,yV]
theorem kW(x:Expr):(aM x).length=7:=by rw [dF];rfl
theorem O2(x:Expr):mL 7 1 (eE x)=List.map aM [x]:=by rw [show List.map aM [x]=[eE x] from by simp only [List.map,dF]];rfl
theorem aE2(x y:Expr):mL 7 2 (eE x++eE y)=List.map aM [x,y]:=by rw [show List.map aM [x,y]=[eE x,eE y] from by simp only [List.map,dF]];rfl
structure Stmt where
 write:Access
 value:Expr
 deriving Inhabited
abbrev aY(x:Stmt):List T:=[T.str x.write.array,T.sl (List.map aB x.write.subs),T.int .i64 x.value.kind,T.int .i64 x.value.num,T.sl (List.map rI x.value.index.coefs),T.int .i64 x.value.index.const,T.str x.value.read.array,T.sl (List.map aB x.value.read.subs),T.sl (List.map aM x.value.kids)]
theorem q6(x:Stmt):(aY x).length=9:=rfl
structure Arr where
 name:List UInt8
 dims:List Int
 deriving Inhabited
abbrev aP(x:Arr):List T:=[T.str x.name,T.sl (List.map rI x.dims)]
theorem tQ(x:Arr):(aP x).length=2:=rfl
structure Part where
 nest:List Loop
 body:List Stmt
 deriving Inhabited
abbrev aH(x:Part):List T:=[T.sl (List.map aD x.nest),T.sl (List.map aY x.body)]
theorem nE(x:Part):(aH x).length=2:=rfl
structure Prog where
 arrays:List Arr
 parts:List Part
 deriving Inhabited
structure Walking where
 nest:List Loop
 steps:Int
 out:List (List Int)
 deriving Inhabited
structure Inst where
 part:Int
 stmt:Int
 point:List Int
 deriving Inhabited
abbrev aJ(x:Inst):List T:=[T.int .i64 x.part,T.int .i64 x.stmt,T.sl (List.map rI x.point)]
theorem q7(x:Inst):(aJ x).length=3:=rfl
structure Traced where
 program:Prog
 list:List Inst
 reads:List (List Int)
 writes:List Int
 deriving Inhabited
abbrev aEJ(x:Traced):List T:=[T.sl (List.map aP x.program.arrays),T.sl (List.map aH x.program.parts),T.sl (List.map aJ x.list),T.sl (List.map (rL rI) x.reads),T.sl (List.map rI x.writes)]
structure L6Use where
 reads:List Int
 write:Int
 deriving Inhabited
abbrev bD(x:L6Use):List T:=[T.sl (List.map rI x.reads),T.int .i64 x.write]
theorem yU(x:L6Use):(bD x).length=2:=rfl
end Go.Lift
