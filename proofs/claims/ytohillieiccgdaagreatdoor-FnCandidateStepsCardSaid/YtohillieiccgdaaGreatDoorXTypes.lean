/- The data of the program, and how they lie. -/
import Derived.Test.YtohillieiccgdaaGreatDoorXLiftLib
set_option linter.unusedVariables false
namespace Go.Lift
open Go
structure L16Rd where
 b:List UInt8
 p:Int
 deriving Inhabited
structure Affine where
 coefs:List Int
 const:Int
 deriving Inhabited
abbrev aB(x:Affine):List T:=[T.sl (List.map rI x.coefs),T.int .i64 x.const]
theorem bF(x:Affine):(aB x).length=2:=rfl
structure Loop where
 lo:List Affine
 hi:List Affine
 deriving Inhabited
abbrev aC(x:Loop):List T:=[T.sl (List.map aB x.lo),T.sl (List.map aB x.hi)]
theorem eQ(x:Loop):(aC x).length=2:=rfl
structure Access where
 array:List UInt8
 subs:List Affine
 deriving Inhabited
abbrev aU(x:Access):List T:=[T.str x.array,T.sl (List.map aB x.subs)]
theorem lI(x:Access):(aU x).length=2:=rfl
structure Expr where
 kind:Int
 num:Int
 index:Affine
 read:Access
 kids:List Expr
instance:Inhabited Expr:=⟨⟨0,0,(⟨[],0⟩:Affine),(⟨[],[]⟩:Access),[]⟩⟩
mutual
def aM:Expr→List T
 |⟨a0,a1,a2,a3,a4⟩=>[T.int .i64 a0,T.int .i64 a1,T.sl (List.map rI a2.coefs),T.int .i64 a2.const,T.str a3.array,T.sl (List.map aB a3.subs),T.sl (wF a4)]
def wF:List Expr→List (List T)
 | []=>[]
 |x::l=>aM x::wF l
end
theorem wE: ∀l:List Expr,wF l=List.map aM l
 | []=>by simp [wF]
 |x::l=>by simp [wF,wE l]
abbrev fA(x:Expr):List T:=[T.int .i64 x.kind,T.int .i64 x.num,T.sl (List.map rI x.index.coefs),T.int .i64 x.index.const,T.str x.read.array,T.sl (List.map aB x.read.subs),T.sl (List.map aM x.kids)]
theorem dY(x:Expr):aM x=fA x:=by cases x;simp [aM,wE]
theorem kD(x:Expr):(aM x).length=7:=by rw [dY];rfl
theorem G3(x:Expr):lO 7 1 (fA x)=List.map aM [x]:=by rw [show List.map aM [x]=[fA x] from by simp only [List.map,dY]];rfl
theorem aDY(x y:Expr):lO 7 2 (fA x++fA y)=List.map aM [x,y]:=by rw [show List.map aM [x,y]=[fA x,fA y] from by simp only [List.map,dY]];rfl
structure Stmt where
 write:Access
 value:Expr
 deriving Inhabited
abbrev aR(x:Stmt):List T:=[T.str x.write.array,T.sl (List.map aB x.write.subs),T.int .i64 x.value.kind,T.int .i64 x.value.num,T.sl (List.map rI x.value.index.coefs),T.int .i64 x.value.index.const,T.str x.value.read.array,T.sl (List.map aB x.value.read.subs),T.sl (List.map aM x.value.kids)]
theorem kC(x:Stmt):(aR x).length=9:=rfl
structure Arr where
 name:List UInt8
 dims:List Int
 deriving Inhabited
abbrev aL(x:Arr):List T:=[T.str x.name,T.sl (List.map rI x.dims)]
theorem mD(x:Arr):(aL x).length=2:=rfl
structure Part where
 nest:List Loop
 body:List Stmt
 deriving Inhabited
abbrev aE(x:Part):List T:=[T.sl (List.map aC x.nest),T.sl (List.map aR x.body)]
theorem iF(x:Part):(aE x).length=2:=rfl
structure Prog where
 arrays:List Arr
 parts:List Part
 deriving Inhabited
structure Walking where
 nest:List Loop
 steps:Int
 out:List (List Int)
 deriving Inhabited
structure Inst where
 part:Int
 stmt:Int
 point:List Int
 deriving Inhabited
abbrev dH(x:Inst):List T:=[T.int .i64 x.part,T.int .i64 x.stmt,T.sl (List.map rI x.point)]
theorem zK(x:Inst):(dH x).length=3:=rfl
structure Step where
 kind:Int
 part:Int
 a:Int
 b:Int
 deriving Inhabited
abbrev aI(x:Step):List T:=[T.int .i64 x.kind,T.int .i64 x.part,T.int .i64 x.a,T.int .i64 x.b]
theorem bM(x:Step):(aI x).length=4:=rfl
end Go.Lift
