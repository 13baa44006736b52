/- The data of the program, and how they lie. -/
import Derived.Test.YtdcjmccimcppbaaGreatALiftLib
set_option linter.unusedVariables false
namespace Go.Lift
open Go
structure Arr where
 name:List UInt8
 dims:List Int
 deriving Inhabited
abbrev aK(x:Arr):List T:=[T.str x.name,T.sl (List.map rI x.dims)]
theorem iU(x:Arr):(aK x).length=2:=rfl
structure Affine where
 coefs:List Int
 const:Int
 deriving Inhabited
abbrev aB(x:Affine):List T:=[T.sl (List.map rI x.coefs),T.int .i64 x.const]
theorem bC(x:Affine):(aB x).length=2:=rfl
structure Loop where
 lo:List Affine
 hi:List Affine
 deriving Inhabited
abbrev aD(x:Loop):List T:=[T.sl (List.map aB x.lo),T.sl (List.map aB x.hi)]
theorem dT(x:Loop):(aD x).length=2:=rfl
structure Access where
 array:List UInt8
 subs:List Affine
 deriving Inhabited
abbrev bA(x:Access):List T:=[T.str x.array,T.sl (List.map aB x.subs)]
theorem oK(x:Access):(bA x).length=2:=rfl
structure Expr where
 kind:Int
 num:Int
 index:Affine
 read:Access
 kids:List Expr
instance:Inhabited Expr:=⟨⟨0,0,(⟨[],0⟩:Affine),(⟨[],[]⟩:Access),[]⟩⟩
mutual
def aH:Expr→List T
 |⟨a0,a1,a2,a3,a4⟩=>[T.int .i64 a0,T.int .i64 a1,T.sl (List.map rI a2.coefs),T.int .i64 a2.const,T.str a3.array,T.sl (List.map aB a3.subs),T.sl (D2 a4)]
def D2:List Expr→List (List T)
 | []=>[]
 |x::l=>aH x::D2 l
end
theorem D1: ∀l:List Expr,D2 l=List.map aH l
 | []=>by simp [D2]
 |x::l=>by simp [D2,D1 l]
abbrev cY(x:Expr):List T:=[T.int .i64 x.kind,T.int .i64 x.num,T.sl (List.map rI x.index.coefs),T.int .i64 x.index.const,T.str x.read.array,T.sl (List.map aB x.read.subs),T.sl (List.map aH x.kids)]
theorem bW(x:Expr):aH x=cY x:=by cases x;simp [aH,D1]
theorem dU(x:Expr):(aH x).length=7:=by rw [bW];rfl
theorem qX(x:Expr):oW 7 1 (cY x)=List.map aH [x]:=by rw [show List.map aH [x]=[cY x] from by simp only [List.map,bW]];rfl
theorem X5(x y:Expr):oW 7 2 (cY x++cY y)=List.map aH [x,y]:=by rw [show List.map aH [x,y]=[cY x,cY y] from by simp only [List.map,bW]];rfl
structure Stmt where
 write:Access
 value:Expr
 deriving Inhabited
abbrev aG(x:Stmt):List T:=[T.str x.write.array,T.sl (List.map aB x.write.subs),T.int .i64 x.value.kind,T.int .i64 x.value.num,T.sl (List.map rI x.value.index.coefs),T.int .i64 x.value.index.const,T.str x.value.read.array,T.sl (List.map aB x.value.read.subs),T.sl (List.map aH x.value.kids)]
theorem gI(x:Stmt):(aG x).length=9:=rfl
structure Part where
 nest:List Loop
 body:List Stmt
 deriving Inhabited
abbrev aC(x:Part):List T:=[T.sl (List.map aD x.nest),T.sl (List.map aG x.body)]
theorem fR(x:Part):(aC x).length=2:=rfl
structure Prog where
 arrays:List Arr
 parts:List Part
 deriving Inhabited
structure L16Rd where
 b:List UInt8
 p:Int
 deriving Inhabited
structure Walking where
 nest:List Loop
 steps:Int
 out:List (List Int)
 deriving Inhabited
structure Inst where
 part:Int
 stmt:Int
 point:List Int
 deriving Inhabited
abbrev bZ(x:Inst):List T:=[T.int .i64 x.part,T.int .i64 x.stmt,T.sl (List.map rI x.point)]
theorem O8(x:Inst):(bZ x).length=3:=rfl
end Go.Lift
