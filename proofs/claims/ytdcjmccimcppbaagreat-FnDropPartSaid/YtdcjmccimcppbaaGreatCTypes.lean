/- The data of the program, and how they lie. -/
import Derived.Test.YtdcjmccimcppbaaGreatCLiftLib
set_option linter.unusedVariables false
namespace Go.Lift
open Go
structure Arr where
 name:List UInt8
 dims:List Int
 deriving Inhabited
abbrev aH(x:Arr):List T:=[T.str x.name,T.sl (List.map rI x.dims)]
theorem iT(x:Arr):(aH x).length=2:=rfl
structure Affine where
 coefs:List Int
 const:Int
 deriving Inhabited
abbrev aB(x:Affine):List T:=[T.sl (List.map rI x.coefs),T.int .i64 x.const]
theorem aZ(x:Affine):(aB x).length=2:=rfl
structure Loop where
 lo:List Affine
 hi:List Affine
 deriving Inhabited
abbrev aD(x:Loop):List T:=[T.sl (List.map aB x.lo),T.sl (List.map aB x.hi)]
theorem dP(x:Loop):(aD x).length=2:=rfl
structure Access where
 array:List UInt8
 subs:List Affine
 deriving Inhabited
abbrev aU(x:Access):List T:=[T.str x.array,T.sl (List.map aB x.subs)]
theorem oG(x:Access):(aU x).length=2:=rfl
structure Expr where
 kind:Int
 num:Int
 index:Affine
 read:Access
 kids:List Expr
instance:Inhabited Expr:=⟨⟨0,0,(⟨[],0⟩:Affine),(⟨[],[]⟩:Access),[]⟩⟩
mutual
def aJ:Expr→List T
 |⟨a0,a1,a2,a3,a4⟩=>[T.int .i64 a0,T.int .i64 a1,T.sl (List.map rI a2.coefs),T.int .i64 a2.const,T.str a3.array,T.sl (List.map aB a3.subs),T.sl (G3 a4)]
def G3:List Expr→List (List T)
 | []=>[]
 |x::l=>aJ x::G3 l
end
theorem G2: ∀l:List Expr,G3 l=List.map aJ l
 | []=>by simp [G3]
 |x::l=>by simp [G3,G2 l]
abbrev d8(x:Expr):List T:=[T.int .i64 x.kind,T.int .i64 x.num,T.sl (List.map rI x.index.coefs),T.int .i64 x.index.const,T.str x.read.array,T.sl (List.map aB x.read.subs),T.sl (List.map aJ x.kids)]
theorem cR(x:Expr):aJ x=d8 x:=by cases x;simp [aJ,G2]
theorem gC(x:Expr):(aJ x).length=7:=by rw [cR];rfl
theorem xD(x:Expr):oP 7 1 (d8 x)=List.map aJ [x]:=by rw [show List.map aJ [x]=[d8 x] from by simp only [List.map,cR]];rfl
theorem aHS(x y:Expr):oP 7 2 (d8 x++d8 y)=List.map aJ [x,y]:=by rw [show List.map aJ [x,y]=[d8 x,d8 y] from by simp only [List.map,cR]];rfl
structure Stmt where
 write:Access
 value:Expr
 deriving Inhabited
abbrev aL(x:Stmt):List T:=[T.str x.write.array,T.sl (List.map aB x.write.subs),T.int .i64 x.value.kind,T.int .i64 x.value.num,T.sl (List.map rI x.value.index.coefs),T.int .i64 x.value.index.const,T.str x.value.read.array,T.sl (List.map aB x.value.read.subs),T.sl (List.map aJ x.value.kids)]
theorem gB(x:Stmt):(aL x).length=9:=rfl
structure Part where
 nest:List Loop
 body:List Stmt
 deriving Inhabited
abbrev aC(x:Part):List T:=[T.sl (List.map aD x.nest),T.sl (List.map aL x.body)]
theorem b9(x:Part):(aC x).length=2:=rfl
structure Prog where
 arrays:List Arr
 parts:List Part
 deriving Inhabited
structure L16Rd where
 b:List UInt8
 p:Int
 deriving Inhabited
structure Walking where
 nest:List Loop
 steps:Int
 out:List (List Int)
 deriving Inhabited
structure Inst where
 part:Int
 stmt:Int
 point:List Int
 deriving Inhabited
abbrev aQ(x:Inst):List T:=[T.int .i64 x.part,T.int .i64 x.stmt,T.sl (List.map rI x.point)]
theorem tW(x:Inst):(aQ x).length=3:=rfl
structure Traced where
 program:Prog
 list:List Inst
 reads:List (List Int)
 writes:List Int
 deriving Inhabited
abbrev aHs(x:Traced):List T:=[T.sl (List.map aH x.program.arrays),T.sl (List.map aC x.program.parts),T.sl (List.map aQ x.list),T.sl (List.map (rL rI) x.reads),T.sl (List.map rI x.writes)]
structure L6Use where
 reads:List Int
 write:Int
 deriving Inhabited
abbrev bJ(x:L6Use):List T:=[T.sl (List.map rI x.reads),T.int .i64 x.write]
theorem G1(x:L6Use):(bJ x).length=2:=rfl
end Go.Lift
