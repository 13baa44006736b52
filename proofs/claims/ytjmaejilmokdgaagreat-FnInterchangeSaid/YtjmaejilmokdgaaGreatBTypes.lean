/- The data of the program, and how they lie. -/
import Derived.Test.YtjmaejilmokdgaaGreatBLiftLib
set_option linter.unusedVariables false
namespace Go.Lift
open Go
structure L16Rd where
 b:List UInt8
 p:Int
 deriving Inhabited
structure Affine where
 coefs:List Int
 const:Int
 deriving Inhabited
abbrev aB(x:Affine):List T:=[T.sl (List.map rI x.coefs),T.int .i64 x.const]
theorem bC(x:Affine):(aB x).length=2:=rfl
structure Loop where
 lo:List Affine
 hi:List Affine
 deriving Inhabited
abbrev aC(x:Loop):List T:=[T.sl (List.map aB x.lo),T.sl (List.map aB x.hi)]
theorem cF(x:Loop):(aC x).length=2:=rfl
structure Access where
 array:List UInt8
 subs:List Affine
 deriving Inhabited
abbrev bF(x:Access):List T:=[T.str x.array,T.sl (List.map aB x.subs)]
theorem qL(x:Access):(bF x).length=2:=rfl
structure Expr where
 kind:Int
 num:Int
 index:Affine
 read:Access
 kids:List Expr
instance:Inhabited Expr:=⟨⟨0,0,(⟨[],0⟩:Affine),(⟨[],[]⟩:Access),[]⟩⟩
mutual
def aK:Expr→List T
 |⟨a0,a1,a2,a3,a4⟩=>[T.int .i64 a0,T.int .i64 a1,T.sl (List.map rI a2.coefs),T.int .i64 a2.const,T.str a3.array,T.sl (List.map aB a3.subs),T.sl (Y7 a4)]
def Y7:List Expr→List (List T)
 | []=>[]
 |x::l=>aK x::Y7 l
end
theorem Y6: ∀l:List Expr,Y7 l=List.map aK l
 | []=>by simp [Y7]
 |x::l=>by simp [Y7,Y6 l]
abbrev eI(x:Expr):List T:=[T.int .i64 x.kind,T.int .i64 x.num,T.sl (List.map rI x.index.coefs),T.int .i64 x.index.const,T.str x.read.array,T.sl (List.map aB x.read.subs),T.sl (List.map aK x.kids)]
theorem dB(x:Expr):aK x=eI x:=by cases x;simp [aK,Y6]
theorem eE(x:Expr):(aK x).length=7:=by rw [dB];rfl
theorem tW(x:Expr):qV 7 1 (eI x)=List.map aK [x]:=by rw [show List.map aK [x]=[eI x] from by simp only [List.map,dB]];rfl
theorem aNp(x y:Expr):qV 7 2 (eI x++eI y)=List.map aK [x,y]:=by rw [show List.map aK [x,y]=[eI x,eI y] from by simp only [List.map,dB]];rfl
structure Stmt where
 write:Access
 value:Expr
 deriving Inhabited
abbrev aI(x:Stmt):List T:=[T.str x.write.array,T.sl (List.map aB x.write.subs),T.int .i64 x.value.kind,T.int .i64 x.value.num,T.sl (List.map rI x.value.index.coefs),T.int .i64 x.value.index.const,T.str x.value.read.array,T.sl (List.map aB x.value.read.subs),T.sl (List.map aK x.value.kids)]
theorem eD(x:Stmt):(aI x).length=9:=rfl
structure Arr where
 name:List UInt8
 dims:List Int
 deriving Inhabited
abbrev aJ(x:Arr):List T:=[T.str x.name,T.sl (List.map rI x.dims)]
theorem gR(x:Arr):(aJ x).length=2:=rfl
structure Part where
 nest:List Loop
 body:List Stmt
 deriving Inhabited
abbrev aD(x:Part):List T:=[T.sl (List.map aC x.nest),T.sl (List.map aI x.body)]
theorem cE(x:Part):(aD x).length=2:=rfl
structure Prog where
 arrays:List Arr
 parts:List Part
 deriving Inhabited
structure Walking where
 nest:List Loop
 steps:Int
 out:List (List Int)
 deriving Inhabited
structure Inst where
 part:Int
 stmt:Int
 point:List Int
 deriving Inhabited
abbrev aT(x:Inst):List T:=[T.int .i64 x.part,T.int .i64 x.stmt,T.sl (List.map rI x.point)]
theorem w4(x:Inst):(aT x).length=3:=rfl
structure Traced where
 program:Prog
 list:List Inst
 reads:List (List Int)
 writes:List Int
 deriving Inhabited
abbrev aMU(x:Traced):List T:=[T.sl (List.map aJ x.program.arrays),T.sl (List.map aD x.program.parts),T.sl (List.map aT x.list),T.sl (List.map (rL rI) x.reads),T.sl (List.map rI x.writes)]
structure Dep where
 fromF:Int
 toF:Int
 kinds:Int
 deriving Inhabited
abbrev dR(x:Dep):List T:=[T.int .i64 x.fromF,T.int .i64 x.toF,T.int .i64 x.kinds]
theorem D7(x:Dep):(dR x).length=3:=rfl
structure L6Use where
 reads:List Int
 write:Int
 deriving Inhabited
abbrev d4(x:L6Use):List T:=[T.sl (List.map rI x.reads),T.int .i64 x.write]
theorem Y5(x:L6Use):(d4 x).length=2:=rfl
end Go.Lift
