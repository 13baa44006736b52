/- The data of the program, and how they lie. -/
import Derived.Test.YtlbojjldejlgaaaGreatTLiftLib
set_option linter.unusedVariables false
namespace Go.Lift
open Go
structure Affine where
 coefs:List Int
 const:Int
 deriving Inhabited
abbrev aA(x:Affine):List T:=[T.sl (List.map rI x.coefs),T.int .i64 x.const]
theorem bL(x:Affine):(aA x).length=2:=rfl
structure Loop where
 lo:List Affine
 hi:List Affine
 deriving Inhabited
abbrev aD(x:Loop):List T:=[T.sl (List.map aA x.lo),T.sl (List.map aA x.hi)]
theorem bW(x:Loop):(aD x).length=2:=rfl
structure Access where
 array:List UInt8
 subs:List Affine
 deriving Inhabited
abbrev bD(x:Access):List T:=[T.str x.array,T.sl (List.map aA x.subs)]
theorem n7(x:Access):(bD x).length=2:=rfl
structure Expr where
 kind:Int
 num:Int
 index:Affine
 read:Access
 kids:List Expr
instance:Inhabited Expr:=⟨⟨0,0,(⟨[],0⟩:Affine),(⟨[],[]⟩:Access),[]⟩⟩
mutual
def aC:Expr→List T
 |⟨a0,a1,a2,a3,a4⟩=>[T.int .i64 a0,T.int .i64 a1,T.sl (List.map rI a2.coefs),T.int .i64 a2.const,T.str a3.array,T.sl (List.map aA a3.subs),T.sl (sX a4)]
def sX:List Expr→List (List T)
 | []=>[]
 |x::l=>aC x::sX l
end
theorem vW: ∀l:List Expr,sX l=List.map aC l
 | []=>by simp [sX]
 |x::l=>by simp [sX,vW l]
abbrev bF(x:Expr):List T:=[T.int .i64 x.kind,T.int .i64 x.num,T.sl (List.map rI x.index.coefs),T.int .i64 x.index.const,T.str x.read.array,T.sl (List.map aA x.read.subs),T.sl (List.map aC x.kids)]
theorem aO(x:Expr):aC x=bF x:=by cases x;simp [aC,vW]
theorem eH(x:Expr):(aC x).length=7:=by rw [aO];rfl
theorem xY(x:Expr):pT 7 1 (bF x)=List.map aC [x]:=by rw [show List.map aC [x]=[bF x] from by simp only [List.map,aO]];rfl
structure Stmt where
 write:Access
 value:Expr
 deriving Inhabited
abbrev aF(x:Stmt):List T:=[T.str x.write.array,T.sl (List.map aA x.write.subs),T.int .i64 x.value.kind,T.int .i64 x.value.num,T.sl (List.map rI x.value.index.coefs),T.int .i64 x.value.index.const,T.str x.value.read.array,T.sl (List.map aA x.value.read.subs),T.sl (List.map aC x.value.kids)]
theorem gA(x:Stmt):(aF x).length=9:=rfl
structure Part where
 nest:List Loop
 body:List Stmt
 deriving Inhabited
abbrev aE(x:Part):List T:=[T.sl (List.map aD x.nest),T.sl (List.map aF x.body)]
theorem cT(x:Part):(aE x).length=2:=rfl
structure Arr where
 name:List UInt8
 dims:List Int
 deriving Inhabited
abbrev aJ(x:Arr):List T:=[T.str x.name,T.sl (List.map rI x.dims)]
theorem lU(x:Arr):(aJ x).length=2:=rfl
structure Prog where
 arrays:List Arr
 parts:List Part
 deriving Inhabited
abbrev aMQ(x:Prog):List T:=[T.sl (List.map aJ x.arrays),T.sl (List.map aE x.parts)]
structure Walking where
 nest:List Loop
 steps:Int
 out:List (List Int)
 deriving Inhabited
structure Inst where
 part:Int
 stmt:Int
 point:List Int
 deriving Inhabited
abbrev eK(x:Inst):List T:=[T.int .i64 x.part,T.int .i64 x.stmt,T.sl (List.map rI x.point)]
theorem Y4(x:Inst):(eK x).length=3:=rfl
end Go.Lift
