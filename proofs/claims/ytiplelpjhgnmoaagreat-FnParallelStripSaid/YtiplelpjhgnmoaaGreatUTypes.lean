/- The data of the program, and how they lie. -/
import Derived.Test.YtiplelpjhgnmoaaGreatULiftLib
set_option linter.unusedVariables false
namespace Go.Lift
open Go
structure L16Rd where
 b:List UInt8
 p:Int
 deriving Inhabited
structure Affine where
 coefs:List Int
 const:Int
 deriving Inhabited
abbrev aB(x:Affine):List T:=[T.sl (List.map rI x.coefs),T.int .i64 x.const]
theorem bC(x:Affine):(aB x).length=2:=rfl
structure Loop where
 lo:List Affine
 hi:List Affine
 deriving Inhabited
abbrev aC(x:Loop):List T:=[T.sl (List.map aB x.lo),T.sl (List.map aB x.hi)]
theorem dO(x:Loop):(aC x).length=2:=rfl
structure Access where
 array:List UInt8
 subs:List Affine
 deriving Inhabited
abbrev aU(x:Access):List T:=[T.str x.array,T.sl (List.map aB x.subs)]
theorem oE(x:Access):(aU x).length=2:=rfl
structure Expr where
 kind:Int
 num:Int
 index:Affine
 read:Access
 kids:List Expr
instance:Inhabited Expr:=⟨⟨0,0,(⟨[],0⟩:Affine),(⟨[],[]⟩:Access),[]⟩⟩
mutual
def aM:Expr→List T
 |⟨a0,a1,a2,a3,a4⟩=>[T.int .i64 a0,T.int .i64 a1,T.sl (List.map rI a2.coefs),T.int .i64 a2.const,T.str a3.array,T.sl (List.map aB a3.subs),T.sl (K3 a4)]
def K3:List Expr→List (List T)
 | []=>[]
 |x::l=>aM x::K3 l
end
theorem K2: ∀l:List Expr,K3 l=List.map aM l
 | []=>by simp [K3]
 |x::l=>by simp [K3,K2 l]
abbrev fU(x:Expr):List T:=[T.int .i64 x.kind,T.int .i64 x.num,T.sl (List.map rI x.index.coefs),T.int .i64 x.index.const,T.str x.read.array,T.sl (List.map aB x.read.subs),T.sl (List.map aM x.kids)]
theorem eA(x:Expr):aM x=fU x:=by cases x;simp [aM,K2]
theorem gG(x:Expr):(aM x).length=7:=by rw [eA];rfl
theorem yB(x:Expr):oL 7 1 (fU x)=List.map aM [x]:=by rw [show List.map aM [x]=[fU x] from by simp only [List.map,eA]];rfl
theorem aJv(x y:Expr):oL 7 2 (fU x++fU y)=List.map aM [x,y]:=by rw [show List.map aM [x,y]=[fU x,fU y] from by simp only [List.map,eA]];rfl
structure Stmt where
 write:Access
 value:Expr
 deriving Inhabited
abbrev aJ(x:Stmt):List T:=[T.str x.write.array,T.sl (List.map aB x.write.subs),T.int .i64 x.value.kind,T.int .i64 x.value.num,T.sl (List.map rI x.value.index.coefs),T.int .i64 x.value.index.const,T.str x.value.read.array,T.sl (List.map aB x.value.read.subs),T.sl (List.map aM x.value.kids)]
theorem gF(x:Stmt):(aJ x).length=9:=rfl
structure Arr where
 name:List UInt8
 dims:List Int
 deriving Inhabited
abbrev aH(x:Arr):List T:=[T.str x.name,T.sl (List.map rI x.dims)]
theorem iT(x:Arr):(aH x).length=2:=rfl
structure Part where
 nest:List Loop
 body:List Stmt
 deriving Inhabited
abbrev aD(x:Part):List T:=[T.sl (List.map aC x.nest),T.sl (List.map aJ x.body)]
theorem fC(x:Part):(aD x).length=2:=rfl
structure Prog where
 arrays:List Arr
 parts:List Part
 deriving Inhabited
structure Walking where
 nest:List Loop
 steps:Int
 out:List (List Int)
 deriving Inhabited
structure Inst where
 part:Int
 stmt:Int
 point:List Int
 deriving Inhabited
abbrev aR(x:Inst):List T:=[T.int .i64 x.part,T.int .i64 x.stmt,T.sl (List.map rI x.point)]
theorem uH(x:Inst):(aR x).length=3:=rfl
structure Traced where
 program:Prog
 list:List Inst
 reads:List (List Int)
 writes:List Int
 deriving Inhabited
abbrev aI3(x:Traced):List T:=[T.sl (List.map aH x.program.arrays),T.sl (List.map aD x.program.parts),T.sl (List.map aR x.list),T.sl (List.map (rL rI) x.reads),T.sl (List.map rI x.writes)]
structure Dep where
 fromF:Int
 toF:Int
 kinds:Int
 deriving Inhabited
abbrev cL(x:Dep):List T:=[T.int .i64 x.fromF,T.int .i64 x.toF,T.int .i64 x.kinds]
theorem w9(x:Dep):(cL x).length=3:=rfl
structure L6Use where
 reads:List Int
 write:Int
 deriving Inhabited
abbrev cT(x:L6Use):List T:=[T.sl (List.map rI x.reads),T.int .i64 x.write]
theorem K1(x:L6Use):(cT x).length=2:=rfl
end Go.Lift
