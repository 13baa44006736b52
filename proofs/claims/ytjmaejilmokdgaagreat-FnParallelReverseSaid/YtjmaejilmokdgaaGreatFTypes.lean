/- The data of the program, and how they lie. -/
import Derived.Test.YtjmaejilmokdgaaGreatFLiftLib
set_option linter.unusedVariables false
namespace Go.Lift
open Go
structure L16Rd where
 b:List UInt8
 p:Int
 deriving Inhabited
structure Affine where
 coefs:List Int
 const:Int
 deriving Inhabited
abbrev aB(x:Affine):List T:=[T.sl (List.map rI x.coefs),T.int .i64 x.const]
theorem bH(x:Affine):(aB x).length=2:=rfl
structure Loop where
 lo:List Affine
 hi:List Affine
 deriving Inhabited
abbrev aC(x:Loop):List T:=[T.sl (List.map aB x.lo),T.sl (List.map aB x.hi)]
theorem dU(x:Loop):(aC x).length=2:=rfl
structure Access where
 array:List UInt8
 subs:List Affine
 deriving Inhabited
abbrev bA(x:Access):List T:=[T.str x.array,T.sl (List.map aB x.subs)]
theorem oW(x:Access):(bA x).length=2:=rfl
structure Expr where
 kind:Int
 num:Int
 index:Affine
 read:Access
 kids:List Expr
instance:Inhabited Expr:=⟨⟨0,0,(⟨[],0⟩:Affine),(⟨[],[]⟩:Access),[]⟩⟩
mutual
def aQ:Expr→List T
 |⟨a0,a1,a2,a3,a4⟩=>[T.int .i64 a0,T.int .i64 a1,T.sl (List.map rI a2.coefs),T.int .i64 a2.const,T.str a3.array,T.sl (List.map aB a3.subs),T.sl (R2 a4)]
def R2:List Expr→List (List T)
 | []=>[]
 |x::l=>aQ x::R2 l
end
theorem R1: ∀l:List Expr,R2 l=List.map aQ l
 | []=>by simp [R2]
 |x::l=>by simp [R2,R1 l]
abbrev fQ(x:Expr):List T:=[T.int .i64 x.kind,T.int .i64 x.num,T.sl (List.map rI x.index.coefs),T.int .i64 x.index.const,T.str x.read.array,T.sl (List.map aB x.read.subs),T.sl (List.map aQ x.kids)]
theorem eA(x:Expr):aQ x=fQ x:=by cases x;simp [aQ,R1]
theorem gE(x:Expr):(aQ x).length=7:=by rw [eA];rfl
theorem A3(x:Expr):pB 7 1 (fQ x)=List.map aQ [x]:=by rw [show List.map aQ [x]=[fQ x] from by simp only [List.map,eA]];rfl
theorem aL3(x y:Expr):pB 7 2 (fQ x++fQ y)=List.map aQ [x,y]:=by rw [show List.map aQ [x,y]=[fQ x,fQ y] from by simp only [List.map,eA]];rfl
structure Stmt where
 write:Access
 value:Expr
 deriving Inhabited
abbrev aL(x:Stmt):List T:=[T.str x.write.array,T.sl (List.map aB x.write.subs),T.int .i64 x.value.kind,T.int .i64 x.value.num,T.sl (List.map rI x.value.index.coefs),T.int .i64 x.value.index.const,T.str x.value.read.array,T.sl (List.map aB x.value.read.subs),T.sl (List.map aQ x.value.kids)]
theorem gD(x:Stmt):(aL x).length=9:=rfl
structure Arr where
 name:List UInt8
 dims:List Int
 deriving Inhabited
abbrev aJ(x:Arr):List T:=[T.str x.name,T.sl (List.map rI x.dims)]
theorem iV(x:Arr):(aJ x).length=2:=rfl
structure Part where
 nest:List Loop
 body:List Stmt
 deriving Inhabited
abbrev aD(x:Part):List T:=[T.sl (List.map aC x.nest),T.sl (List.map aL x.body)]
theorem fI(x:Part):(aD x).length=2:=rfl
structure Prog where
 arrays:List Arr
 parts:List Part
 deriving Inhabited
structure Walking where
 nest:List Loop
 steps:Int
 out:List (List Int)
 deriving Inhabited
structure Inst where
 part:Int
 stmt:Int
 point:List Int
 deriving Inhabited
abbrev aT(x:Inst):List T:=[T.int .i64 x.part,T.int .i64 x.stmt,T.sl (List.map rI x.point)]
theorem vG(x:Inst):(aT x).length=3:=rfl
structure Traced where
 program:Prog
 list:List Inst
 reads:List (List Int)
 writes:List Int
 deriving Inhabited
abbrev aLC(x:Traced):List T:=[T.sl (List.map aJ x.program.arrays),T.sl (List.map aD x.program.parts),T.sl (List.map aT x.list),T.sl (List.map (rL rI) x.reads),T.sl (List.map rI x.writes)]
structure Dep where
 fromF:Int
 toF:Int
 kinds:Int
 deriving Inhabited
abbrev cJ(x:Dep):List T:=[T.int .i64 x.fromF,T.int .i64 x.toF,T.int .i64 x.kinds]
theorem y0(x:Dep):(cJ x).length=3:=rfl
structure L6Use where
 reads:List Int
 write:Int
 deriving Inhabited
abbrev dM(x:L6Use):List T:=[T.sl (List.map rI x.reads),T.int .i64 x.write]
theorem R0(x:L6Use):(dM x).length=2:=rfl
end Go.Lift
