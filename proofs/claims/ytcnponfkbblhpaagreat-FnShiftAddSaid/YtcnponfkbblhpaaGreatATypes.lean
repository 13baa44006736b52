/- The data of the program, and how they lie. -/
import Derived.Test.YtcnponfkbblhpaaGreatALiftLib
set_option linter.unusedVariables false
namespace Go.Lift
open Go
structure Arr where
 name:List UInt8
 dims:List Int
 deriving Inhabited
abbrev aK(x:Arr):List T:=[T.str x.name,T.sl (List.map rI x.dims)]
theorem fU(x:Arr):(aK x).length=2:=rfl
structure Affine where
 coefs:List Int
 const:Int
 deriving Inhabited
abbrev aA(x:Affine):List T:=[T.sl (List.map rI x.coefs),T.int .i64 x.const]
theorem aS(x:Affine):(aA x).length=2:=rfl
structure Loop where
 lo:List Affine
 hi:List Affine
 deriving Inhabited
abbrev aC(x:Loop):List T:=[T.sl (List.map aA x.lo),T.sl (List.map aA x.hi)]
theorem bU(x:Loop):(aC x).length=2:=rfl
structure Walking where
 nest:List Loop
 steps:Int
 out:List (List Int)
 deriving Inhabited
structure Access where
 array:List UInt8
 subs:List Affine
 deriving Inhabited
abbrev aZ(x:Access):List T:=[T.str x.array,T.sl (List.map aA x.subs)]
theorem nZ(x:Access):(aZ x).length=2:=rfl
structure Expr where
 kind:Int
 num:Int
 index:Affine
 read:Access
 kids:List Expr
instance:Inhabited Expr:=⟨⟨0,0,(⟨[],0⟩:Affine),(⟨[],[]⟩:Access),[]⟩⟩
mutual
def aH:Expr→List T
 |⟨a0,a1,a2,a3,a4⟩=>[T.int .i64 a0,T.int .i64 a1,T.sl (List.map rI a2.coefs),T.int .i64 a2.const,T.str a3.array,T.sl (List.map aA a3.subs),T.sl (A9 a4)]
def A9:List Expr→List (List T)
 | []=>[]
 |x::l=>aH x::A9 l
end
theorem A8: ∀l:List Expr,A9 l=List.map aH l
 | []=>by simp [A9]
 |x::l=>by simp [A9,A8 l]
abbrev d7(x:Expr):List T:=[T.int .i64 x.kind,T.int .i64 x.num,T.sl (List.map rI x.index.coefs),T.int .i64 x.index.const,T.str x.read.array,T.sl (List.map aA x.read.subs),T.sl (List.map aH x.kids)]
theorem cS(x:Expr):aH x=d7 x:=by cases x;simp [aH,A8]
theorem dJ(x:Expr):(aH x).length=7:=by rw [cS];rfl
theorem qM(x:Expr):n9 7 1 (d7 x)=List.map aH [x]:=by rw [show List.map aH [x]=[d7 x] from by simp only [List.map,cS]];rfl
theorem aGP(x y:Expr):n9 7 2 (d7 x++d7 y)=List.map aH [x,y]:=by rw [show List.map aH [x,y]=[d7 x,d7 y] from by simp only [List.map,cS]];rfl
structure Stmt where
 write:Access
 value:Expr
 deriving Inhabited
abbrev aG(x:Stmt):List T:=[T.str x.write.array,T.sl (List.map aA x.write.subs),T.int .i64 x.value.kind,T.int .i64 x.value.num,T.sl (List.map rI x.value.index.coefs),T.int .i64 x.value.index.const,T.str x.value.read.array,T.sl (List.map aA x.value.read.subs),T.sl (List.map aH x.value.kids)]
theorem dI(x:Stmt):(aG x).length=9:=rfl
structure Part where
 nest:List Loop
 body:List Stmt
 deriving Inhabited
abbrev aD(x:Part):List T:=[T.sl (List.map aC x.nest),T.sl (List.map aG x.body)]
theorem bT(x:Part):(aD x).length=2:=rfl
structure Prog where
 arrays:List Arr
 parts:List Part
 deriving Inhabited
structure Inst where
 part:Int
 stmt:Int
 point:List Int
 deriving Inhabited
abbrev d6(x:Inst):List T:=[T.int .i64 x.part,T.int .i64 x.stmt,T.sl (List.map rI x.point)]
theorem M0(x:Inst):(d6 x).length=3:=rfl
structure L16Rd where
 b:List UInt8
 p:Int
 deriving Inhabited
end Go.Lift
