/- The data of the program, and how they lie. -/
import Derived.Test.YtjmaejilmokdgaaGreatSLiftLib
set_option linter.unusedVariables false
namespace Go.Lift
open Go
structure L16Rd where
 b:List UInt8
 p:Int
 deriving Inhabited
structure Affine where
 coefs:List Int
 const:Int
 deriving Inhabited
abbrev aB(x:Affine):List T:=[T.sl (List.map rI x.coefs),T.int .i64 x.const]
theorem bA(x:Affine):(aB x).length=2:=rfl
structure Loop where
 lo:List Affine
 hi:List Affine
 deriving Inhabited
abbrev aC(x:Loop):List T:=[T.sl (List.map aB x.lo),T.sl (List.map aB x.hi)]
theorem bX(x:Loop):(aC x).length=2:=rfl
structure Access where
 array:List UInt8
 subs:List Affine
 deriving Inhabited
abbrev aX(x:Access):List T:=[T.str x.array,T.sl (List.map aB x.subs)]
theorem o6(x:Access):(aX x).length=2:=rfl
structure Expr where
 kind:Int
 num:Int
 index:Affine
 read:Access
 kids:List Expr
instance:Inhabited Expr:=⟨⟨0,0,(⟨[],0⟩:Affine),(⟨[],[]⟩:Access),[]⟩⟩
mutual
def aL:Expr→List T
 |⟨a0,a1,a2,a3,a4⟩=>[T.int .i64 a0,T.int .i64 a1,T.sl (List.map rI a2.coefs),T.int .i64 a2.const,T.str a3.array,T.sl (List.map aB a3.subs),T.sl (M6 a4)]
def M6:List Expr→List (List T)
 | []=>[]
 |x::l=>aL x::M6 l
end
theorem M5: ∀l:List Expr,M6 l=List.map aL l
 | []=>by simp [M6]
 |x::l=>by simp [M6,M5 l]
abbrev eH(x:Expr):List T:=[T.int .i64 x.kind,T.int .i64 x.num,T.sl (List.map rI x.index.coefs),T.int .i64 x.index.const,T.str x.read.array,T.sl (List.map aB x.read.subs),T.sl (List.map aL x.kids)]
theorem dC(x:Expr):aL x=eH x:=by cases x;simp [aL,M5]
theorem gH(x:Expr):(aL x).length=7:=by rw [dC];rfl
theorem zC(x:Expr):pE 7 1 (eH x)=List.map aL [x]:=by rw [show List.map aL [x]=[eH x] from by simp only [List.map,dC]];rfl
theorem aJK(x y:Expr):pE 7 2 (eH x++eH y)=List.map aL [x,y]:=by rw [show List.map aL [x,y]=[eH x,eH y] from by simp only [List.map,dC]];rfl
structure Stmt where
 write:Access
 value:Expr
 deriving Inhabited
abbrev aH(x:Stmt):List T:=[T.str x.write.array,T.sl (List.map aB x.write.subs),T.int .i64 x.value.kind,T.int .i64 x.value.num,T.sl (List.map rI x.value.index.coefs),T.int .i64 x.value.index.const,T.str x.value.read.array,T.sl (List.map aB x.value.read.subs),T.sl (List.map aL x.value.kids)]
theorem d4(x:Stmt):(aH x).length=9:=rfl
structure Arr where
 name:List UInt8
 dims:List Int
 deriving Inhabited
abbrev aJ(x:Arr):List T:=[T.str x.name,T.sl (List.map rI x.dims)]
theorem f9(x:Arr):(aJ x).length=2:=rfl
structure Part where
 nest:List Loop
 body:List Stmt
 deriving Inhabited
abbrev aD(x:Part):List T:=[T.sl (List.map aC x.nest),T.sl (List.map aH x.body)]
theorem b9(x:Part):(aD x).length=2:=rfl
structure Prog where
 arrays:List Arr
 parts:List Part
 deriving Inhabited
structure Walking where
 nest:List Loop
 steps:Int
 out:List (List Int)
 deriving Inhabited
structure Inst where
 part:Int
 stmt:Int
 point:List Int
 deriving Inhabited
abbrev bT(x:Inst):List T:=[T.int .i64 x.part,T.int .i64 x.stmt,T.sl (List.map rI x.point)]
theorem Z9(x:Inst):(bT x).length=3:=rfl
end Go.Lift
