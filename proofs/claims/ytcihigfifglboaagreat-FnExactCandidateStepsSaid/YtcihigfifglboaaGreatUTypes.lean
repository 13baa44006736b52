/- The data of the program, and how they lie. -/
import Derived.Test.YtcihigfifglboaaGreatULiftLib
set_option linter.unusedVariables false
namespace Go.Lift
open Go
structure Arr where
 name:List UInt8
 dims:List Int
 deriving Inhabited
abbrev aQ(x:Arr):List T:=[T.str x.name,T.sl (List.map rI x.dims)]
structure Affine where
 coefs:List Int
 const:Int
 deriving Inhabited
abbrev aA(x:Affine):List T:=[T.sl (List.map rI x.coefs),T.int .i64 x.const]
theorem uT(x:Affine):(aA x).length=2:=rfl
structure Access where
 array:List UInt8
 subs:List Affine
 deriving Inhabited
abbrev aW(x:Access):List T:=[T.str x.array,T.sl (List.map aA x.subs)]
theorem lB(x:Access):(aW x).length=2:=rfl
structure Expr where
 kind:Int
 num:Int
 index:Affine
 read:Access
 kids:List Expr
instance:Inhabited Expr:=⟨⟨0,0,(⟨[],0⟩:Affine),(⟨[],[]⟩:Access),[]⟩⟩
mutual
def aC:Expr→List T
 |⟨a0,a1,a2,a3,a4⟩=>[T.int .i64 a0,T.int .i64 a1,T.sl (List.map rI a2.coefs),T.int .i64 a2.const,T.str a3.array,T.sl (List.map aA a3.subs),T.sl (w8 a4)]
def w8:List Expr→List (List T)
 | []=>[]
 |x::l=>aC x::w8 l
end
theorem w7: ∀l:List Expr,w8 l=List.map aC l
 | []=>by simp [w8]
 |x::l=>by simp [w8,w7 l]
abbrev bK(x:Expr):List T:=[T.int .i64 x.kind,T.int .i64 x.num,T.sl (List.map rI x.index.coefs),T.int .i64 x.index.const,T.str x.read.array,T.sl (List.map aA x.read.subs),T.sl (List.map aC x.kids)]
theorem aO(x:Expr):aC x=bK x:=by cases x;simp [aC,w7]
structure Stmt where
 write:Access
 value:Expr
 deriving Inhabited
abbrev aH(x:Stmt):List T:=[T.str x.write.array,T.sl (List.map aA x.write.subs),T.int .i64 x.value.kind,T.int .i64 x.value.num,T.sl (List.map rI x.value.index.coefs),T.int .i64 x.value.index.const,T.str x.value.read.array,T.sl (List.map aA x.value.read.subs),T.sl (List.map aC x.value.kids)]
structure Loop where
 lo:List Affine
 hi:List Affine
 deriving Inhabited
abbrev aI(x:Loop):List T:=[T.sl (List.map aA x.lo),T.sl (List.map aA x.hi)]
structure Part where
 nest:List Loop
 body:List Stmt
 deriving Inhabited
abbrev aK(x:Part):List T:=[T.sl (List.map aI x.nest),T.sl (List.map aH x.body)]
structure Prog where
 arrays:List Arr
 parts:List Part
 deriving Inhabited
abbrev aHs(x:Prog):List T:=[T.sl (List.map aQ x.arrays),T.sl (List.map aK x.parts)]
structure Step where
 kind:Int
 part:Int
 a:Int
 b:Int
 deriving Inhabited
abbrev aJ(x:Step):List T:=[T.int .i64 x.kind,T.int .i64 x.part,T.int .i64 x.a,T.int .i64 x.b]
theorem bL(x:Step):(aJ x).length=4:=rfl
structure Walking where
 nest:List Loop
 steps:Int
 out:List (List Int)
 deriving Inhabited
structure Inst where
 part:Int
 stmt:Int
 point:List Int
 deriving Inhabited
abbrev dG(x:Inst):List T:=[T.int .i64 x.part,T.int .i64 x.stmt,T.sl (List.map rI x.point)]
theorem B8(x:Inst):(dG x).length=3:=rfl
end Go.Lift
