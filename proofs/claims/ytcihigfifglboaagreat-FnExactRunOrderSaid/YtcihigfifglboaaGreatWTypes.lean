/- The data of the program, and how they lie. -/
import Derived.Test.YtcihigfifglboaaGreatWLiftLib
set_option linter.unusedVariables false
namespace Go.Lift
open Go
structure Arr where
 name:List UInt8
 dims:List Int
 deriving Inhabited
abbrev aN(x:Arr):List T:=[T.str x.name,T.sl (List.map rI x.dims)]
structure Affine where
 coefs:List Int
 const:Int
 deriving Inhabited
abbrev aA(x:Affine):List T:=[T.sl (List.map rI x.coefs),T.int .i64 x.const]
theorem wO(x:Affine):(aA x).length=2:=rfl
structure Access where
 array:List UInt8
 subs:List Affine
 deriving Inhabited
abbrev aV(x:Access):List T:=[T.str x.array,T.sl (List.map aA x.subs)]
theorem l8(x:Access):(aV x).length=2:=rfl
structure Expr where
 kind:Int
 num:Int
 index:Affine
 read:Access
 kids:List Expr
instance:Inhabited Expr:=⟨⟨0,0,(⟨[],0⟩:Affine),(⟨[],[]⟩:Access),[]⟩⟩
mutual
def aC:Expr→List T
 |⟨a0,a1,a2,a3,a4⟩=>[T.int .i64 a0,T.int .i64 a1,T.sl (List.map rI a2.coefs),T.int .i64 a2.const,T.str a3.array,T.sl (List.map aA a3.subs),T.sl (zB a4)]
def zB:List Expr→List (List T)
 | []=>[]
 |x::l=>aC x::zB l
end
theorem zA: ∀l:List Expr,zB l=List.map aC l
 | []=>by simp [zB]
 |x::l=>by simp [zB,zA l]
abbrev bI(x:Expr):List T:=[T.int .i64 x.kind,T.int .i64 x.num,T.sl (List.map rI x.index.coefs),T.int .i64 x.index.const,T.str x.read.array,T.sl (List.map aA x.read.subs),T.sl (List.map aC x.kids)]
theorem aL(x:Expr):aC x=bI x:=by cases x;simp [aC,zA]
structure Stmt where
 write:Access
 value:Expr
 deriving Inhabited
abbrev aG(x:Stmt):List T:=[T.str x.write.array,T.sl (List.map aA x.write.subs),T.int .i64 x.value.kind,T.int .i64 x.value.num,T.sl (List.map rI x.value.index.coefs),T.int .i64 x.value.index.const,T.str x.value.read.array,T.sl (List.map aA x.value.read.subs),T.sl (List.map aC x.value.kids)]
structure Loop where
 lo:List Affine
 hi:List Affine
 deriving Inhabited
abbrev aH(x:Loop):List T:=[T.sl (List.map aA x.lo),T.sl (List.map aA x.hi)]
structure Part where
 nest:List Loop
 body:List Stmt
 deriving Inhabited
abbrev aJ(x:Part):List T:=[T.sl (List.map aH x.nest),T.sl (List.map aG x.body)]
structure Prog where
 arrays:List Arr
 parts:List Part
 deriving Inhabited
abbrev aIx(x:Prog):List T:=[T.sl (List.map aN x.arrays),T.sl (List.map aJ x.parts)]
structure Walking where
 nest:List Loop
 steps:Int
 out:List (List Int)
 deriving Inhabited
structure Inst where
 part:Int
 stmt:Int
 point:List Int
 deriving Inhabited
abbrev aY(x:Inst):List T:=[T.int .i64 x.part,T.int .i64 x.stmt,T.sl (List.map rI x.point)]
theorem qH(x:Inst):(aY x).length=3:=rfl
end Go.Lift
