/- The data of the program, and how they lie. -/
import Derived.Test.YtlbojjldejlgaaaGreatHLiftLib
set_option linter.unusedVariables false
namespace Go.Lift
open Go
structure Affine where
 coefs:List Int
 const:Int
 deriving Inhabited
abbrev aA(x:Affine):List T:=[T.sl (List.map rI x.coefs),T.int .i64 x.const]
theorem bE(x:Affine):(aA x).length=2:=rfl
structure Loop where
 lo:List Affine
 hi:List Affine
 deriving Inhabited
abbrev aD(x:Loop):List T:=[T.sl (List.map aA x.lo),T.sl (List.map aA x.hi)]
theorem dU(x:Loop):(aD x).length=2:=rfl
structure Access where
 array:List UInt8
 subs:List Affine
 deriving Inhabited
abbrev bC(x:Access):List T:=[T.str x.array,T.sl (List.map aA x.subs)]
theorem nR(x:Access):(bC x).length=2:=rfl
structure Expr where
 kind:Int
 num:Int
 index:Affine
 read:Access
 kids:List Expr
instance:Inhabited Expr:=⟨⟨0,0,(⟨[],0⟩:Affine),(⟨[],[]⟩:Access),[]⟩⟩
mutual
def aC:Expr→List T
 |⟨a0,a1,a2,a3,a4⟩=>[T.int .i64 a0,T.int .i64 a1,T.sl (List.map rI a2.coefs),T.int .i64 a2.const,T.str a3.array,T.sl (List.map aA a3.subs),T.sl (rV a4)]
def rV:List Expr→List (List T)
 | []=>[]
 |x::l=>aC x::rV l
end
theorem uK: ∀l:List Expr,rV l=List.map aC l
 | []=>by simp [rV]
 |x::l=>by simp [rV,uK l]
abbrev bG(x:Expr):List T:=[T.int .i64 x.kind,T.int .i64 x.num,T.sl (List.map rI x.index.coefs),T.int .i64 x.index.const,T.str x.read.array,T.sl (List.map aA x.read.subs),T.sl (List.map aC x.kids)]
theorem aQ(x:Expr):aC x=bG x:=by cases x;simp [aC,uK]
theorem eC(x:Expr):(aC x).length=7:=by rw [aQ];rfl
theorem w5(x:Expr):pB 7 1 (bG x)=List.map aC [x]:=by rw [show List.map aC [x]=[bG x] from by simp only [List.map,aQ]];rfl
structure Stmt where
 write:Access
 value:Expr
 deriving Inhabited
abbrev aE(x:Stmt):List T:=[T.str x.write.array,T.sl (List.map aA x.write.subs),T.int .i64 x.value.kind,T.int .i64 x.value.num,T.sl (List.map rI x.value.index.coefs),T.int .i64 x.value.index.const,T.str x.value.read.array,T.sl (List.map aA x.value.read.subs),T.sl (List.map aC x.value.kids)]
theorem f6(x:Stmt):(aE x).length=9:=rfl
structure Part where
 nest:List Loop
 body:List Stmt
 deriving Inhabited
abbrev aF(x:Part):List T:=[T.sl (List.map aD x.nest),T.sl (List.map aE x.body)]
theorem cP(x:Part):(aF x).length=2:=rfl
structure Arr where
 name:List UInt8
 dims:List Int
 deriving Inhabited
abbrev aJ(x:Arr):List T:=[T.str x.name,T.sl (List.map rI x.dims)]
theorem lJ(x:Arr):(aJ x).length=2:=rfl
structure Prog where
 arrays:List Arr
 parts:List Part
 deriving Inhabited
abbrev aLY(x:Prog):List T:=[T.sl (List.map aJ x.arrays),T.sl (List.map aF x.parts)]
structure Walking where
 nest:List Loop
 steps:Int
 out:List (List Int)
 deriving Inhabited
structure Inst where
 part:Int
 stmt:Int
 point:List Int
 deriving Inhabited
abbrev eG(x:Inst):List T:=[T.int .i64 x.part,T.int .i64 x.stmt,T.sl (List.map rI x.point)]
theorem T5(x:Inst):(eG x).length=3:=rfl
end Go.Lift
