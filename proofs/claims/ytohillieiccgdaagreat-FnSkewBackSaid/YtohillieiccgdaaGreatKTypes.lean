/- The data of the program, and how they lie. -/
import Derived.Test.YtohillieiccgdaaGreatKLiftLib
set_option linter.unusedVariables false
namespace Go.Lift
open Go
structure L16Rd where
 b:List UInt8
 p:Int
 deriving Inhabited
structure Affine where
 coefs:List Int
 const:Int
 deriving Inhabited
abbrev aA(x:Affine):List T:=[T.sl (List.map rI x.coefs),T.int .i64 x.const]
theorem aS(x:Affine):(aA x).length=2:=rfl
structure Loop where
 lo:List Affine
 hi:List Affine
 deriving Inhabited
abbrev aC(x:Loop):List T:=[T.sl (List.map aA x.lo),T.sl (List.map aA x.hi)]
theorem bV(x:Loop):(aC x).length=2:=rfl
structure Access where
 array:List UInt8
 subs:List Affine
 deriving Inhabited
abbrev aY(x:Access):List T:=[T.str x.array,T.sl (List.map aA x.subs)]
theorem n4(x:Access):(aY x).length=2:=rfl
structure Expr where
 kind:Int
 num:Int
 index:Affine
 read:Access
 kids:List Expr
instance:Inhabited Expr:=⟨⟨0,0,(⟨[],0⟩:Affine),(⟨[],[]⟩:Access),[]⟩⟩
mutual
def aH:Expr→List T
 |⟨a0,a1,a2,a3,a4⟩=>[T.int .i64 a0,T.int .i64 a1,T.sl (List.map rI a2.coefs),T.int .i64 a2.const,T.str a3.array,T.sl (List.map aA a3.subs),T.sl (A7 a4)]
def A7:List Expr→List (List T)
 | []=>[]
 |x::l=>aH x::A7 l
end
theorem A6: ∀l:List Expr,A7 l=List.map aH l
 | []=>by simp [A7]
 |x::l=>by simp [A7,A6 l]
abbrev d6(x:Expr):List T:=[T.int .i64 x.kind,T.int .i64 x.num,T.sl (List.map rI x.index.coefs),T.int .i64 x.index.const,T.str x.read.array,T.sl (List.map aA x.read.subs),T.sl (List.map aH x.kids)]
theorem cS(x:Expr):aH x=d6 x:=by cases x;simp [aH,A6]
theorem dJ(x:Expr):(aH x).length=7:=by rw [cS];rfl
theorem qK(x:Expr):oB 7 1 (d6 x)=List.map aH [x]:=by rw [show List.map aH [x]=[d6 x] from by simp only [List.map,cS]];rfl
theorem aGP(x y:Expr):oB 7 2 (d6 x++d6 y)=List.map aH [x,y]:=by rw [show List.map aH [x,y]=[d6 x,d6 y] from by simp only [List.map,cS]];rfl
structure Stmt where
 write:Access
 value:Expr
 deriving Inhabited
abbrev aG(x:Stmt):List T:=[T.str x.write.array,T.sl (List.map aA x.write.subs),T.int .i64 x.value.kind,T.int .i64 x.value.num,T.sl (List.map rI x.value.index.coefs),T.int .i64 x.value.index.const,T.str x.value.read.array,T.sl (List.map aA x.value.read.subs),T.sl (List.map aH x.value.kids)]
theorem dI(x:Stmt):(aG x).length=9:=rfl
structure Arr where
 name:List UInt8
 dims:List Int
 deriving Inhabited
abbrev aJ(x:Arr):List T:=[T.str x.name,T.sl (List.map rI x.dims)]
theorem fU(x:Arr):(aJ x).length=2:=rfl
structure Part where
 nest:List Loop
 body:List Stmt
 deriving Inhabited
abbrev aD(x:Part):List T:=[T.sl (List.map aC x.nest),T.sl (List.map aG x.body)]
theorem bU(x:Part):(aD x).length=2:=rfl
structure Prog where
 arrays:List Arr
 parts:List Part
 deriving Inhabited
structure Walking where
 nest:List Loop
 steps:Int
 out:List (List Int)
 deriving Inhabited
structure Inst where
 part:Int
 stmt:Int
 point:List Int
 deriving Inhabited
abbrev d5(x:Inst):List T:=[T.int .i64 x.part,T.int .i64 x.stmt,T.sl (List.map rI x.point)]
theorem L9(x:Inst):(d5 x).length=3:=rfl
end Go.Lift
