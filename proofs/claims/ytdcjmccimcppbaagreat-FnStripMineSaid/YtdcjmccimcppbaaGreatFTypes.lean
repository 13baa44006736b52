/- The data of the program, and how they lie. -/
import Derived.Test.YtdcjmccimcppbaaGreatFLiftLib
set_option linter.unusedVariables false
namespace Go.Lift
open Go
structure Arr where
 name:List UInt8
 dims:List Int
 deriving Inhabited
abbrev aJ(x:Arr):List T:=[T.str x.name,T.sl (List.map rI x.dims)]
theorem gU(x:Arr):(aJ x).length=2:=rfl
structure Affine where
 coefs:List Int
 const:Int
 deriving Inhabited
abbrev aA(x:Affine):List T:=[T.sl (List.map rI x.coefs),T.int .i64 x.const]
theorem aW(x:Affine):(aA x).length=2:=rfl
structure Loop where
 lo:List Affine
 hi:List Affine
 deriving Inhabited
abbrev aC(x:Loop):List T:=[T.sl (List.map aA x.lo),T.sl (List.map aA x.hi)]
theorem bL(x:Loop):(aC x).length=2:=rfl
structure Access where
 array:List UInt8
 subs:List Affine
 deriving Inhabited
abbrev aU(x:Access):List T:=[T.str x.array,T.sl (List.map aA x.subs)]
theorem pU(x:Access):(aU x).length=2:=rfl
structure Expr where
 kind:Int
 num:Int
 index:Affine
 read:Access
 kids:List Expr
instance:Inhabited Expr:=⟨⟨0,0,(⟨[],0⟩:Affine),(⟨[],[]⟩:Access),[]⟩⟩
mutual
def aI:Expr→List T
 |⟨a0,a1,a2,a3,a4⟩=>[T.int .i64 a0,T.int .i64 a1,T.sl (List.map rI a2.coefs),T.int .i64 a2.const,T.str a3.array,T.sl (List.map aA a3.subs),T.sl (M9 a4)]
def M9:List Expr→List (List T)
 | []=>[]
 |x::l=>aI x::M9 l
end
theorem M8: ∀l:List Expr,M9 l=List.map aI l
 | []=>by simp [M9]
 |x::l=>by simp [M9,M8 l]
abbrev eC(x:Expr):List T:=[T.int .i64 x.kind,T.int .i64 x.num,T.sl (List.map rI x.index.coefs),T.int .i64 x.index.const,T.str x.read.array,T.sl (List.map aA x.read.subs),T.sl (List.map aI x.kids)]
theorem cQ(x:Expr):aI x=eC x:=by cases x;simp [aI,M8]
theorem d7(x:Expr):(aI x).length=7:=by rw [cQ];rfl
theorem sV(x:Expr):pZ 7 1 (eC x)=List.map aI [x]:=by rw [show List.map aI [x]=[eC x] from by simp only [List.map,cQ]];rfl
theorem aJs(x y:Expr):pZ 7 2 (eC x++eC y)=List.map aI [x,y]:=by rw [show List.map aI [x,y]=[eC x,eC y] from by simp only [List.map,cQ]];rfl
structure Stmt where
 write:Access
 value:Expr
 deriving Inhabited
abbrev aG(x:Stmt):List T:=[T.str x.write.array,T.sl (List.map aA x.write.subs),T.int .i64 x.value.kind,T.int .i64 x.value.num,T.sl (List.map rI x.value.index.coefs),T.int .i64 x.value.index.const,T.str x.value.read.array,T.sl (List.map aA x.value.read.subs),T.sl (List.map aI x.value.kids)]
theorem d6(x:Stmt):(aG x).length=9:=rfl
structure Part where
 nest:List Loop
 body:List Stmt
 deriving Inhabited
abbrev aD(x:Part):List T:=[T.sl (List.map aC x.nest),T.sl (List.map aG x.body)]
theorem cB(x:Part):(aD x).length=2:=rfl
structure Prog where
 arrays:List Arr
 parts:List Part
 deriving Inhabited
structure L16Rd where
 b:List UInt8
 p:Int
 deriving Inhabited
structure Walking where
 nest:List Loop
 steps:Int
 out:List (List Int)
 deriving Inhabited
structure Inst where
 part:Int
 stmt:Int
 point:List Int
 deriving Inhabited
abbrev bM(x:Inst):List T:=[T.int .i64 x.part,T.int .i64 x.stmt,T.sl (List.map rI x.point)]
theorem Y7(x:Inst):(bM x).length=3:=rfl
end Go.Lift
