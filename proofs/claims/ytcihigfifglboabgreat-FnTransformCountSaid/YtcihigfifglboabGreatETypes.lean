/- The data of the program, and how they lie. -/
import Derived.Test.YtcihigfifglboabGreatELiftLib
set_option linter.unusedVariables false
namespace Go.Lift
open Go
structure L16Rd where
 b:List UInt8
 p:Int
 deriving Inhabited
structure Arr where
 name:List UInt8
 dims:List Int
 deriving Inhabited
abbrev aR(x:Arr):List T:=[T.str x.name,T.sl (List.map rI x.dims)]
theorem gR(x:Arr):(aR x).length=2:=rfl
structure Affine where
 coefs:List Int
 const:Int
 deriving Inhabited
abbrev aB(x:Affine):List T:=[T.sl (List.map rI x.coefs),T.int .i64 x.const]
theorem aU(x:Affine):(aB x).length=2:=rfl
structure Loop where
 lo:List Affine
 hi:List Affine
 deriving Inhabited
abbrev aC(x:Loop):List T:=[T.sl (List.map aB x.lo),T.sl (List.map aB x.hi)]
theorem cH(x:Loop):(aC x).length=2:=rfl
structure Access where
 array:List UInt8
 subs:List Affine
 deriving Inhabited
abbrev b6(x:Access):List T:=[T.str x.array,T.sl (List.map aB x.subs)]
theorem qD(x:Access):(b6 x).length=2:=rfl
structure Expr where
 kind:Int
 num:Int
 index:Affine
 read:Access
 kids:List Expr
instance:Inhabited Expr:=⟨⟨0,0,(⟨[],0⟩:Affine),(⟨[],[]⟩:Access),[]⟩⟩
mutual
def aT:Expr→List T
 |⟨a0,a1,a2,a3,a4⟩=>[T.int .i64 a0,T.int .i64 a1,T.sl (List.map rI a2.coefs),T.int .i64 a2.const,T.str a3.array,T.sl (List.map aB a3.subs),T.sl (aAh a4)]
def aAh:List Expr→List (List T)
 | []=>[]
 |x::l=>aT x::aAh l
end
theorem aAg: ∀l:List Expr,aAh l=List.map aT l
 | []=>by simp [aAh]
 |x::l=>by simp [aAh,aAg l]
abbrev eC(x:Expr):List T:=[T.int .i64 x.kind,T.int .i64 x.num,T.sl (List.map rI x.index.coefs),T.int .i64 x.index.const,T.str x.read.array,T.sl (List.map aB x.read.subs),T.sl (List.map aT x.kids)]
theorem dJ(x:Expr):aT x=eC x:=by cases x;simp [aT,aAg]
theorem dO(x:Expr):(aT x).length=7:=by rw [dJ];rfl
theorem qS(x:Expr):qR 7 1 (eC x)=List.map aT [x]:=by rw [show List.map aT [x]=[eC x] from by simp only [List.map,dJ]];rfl
theorem aOf(x y:Expr):qR 7 2 (eC x++eC y)=List.map aT [x,y]:=by rw [show List.map aT [x,y]=[eC x,eC y] from by simp only [List.map,dJ]];rfl
structure Stmt where
 write:Access
 value:Expr
 deriving Inhabited
abbrev aP(x:Stmt):List T:=[T.str x.write.array,T.sl (List.map aB x.write.subs),T.int .i64 x.value.kind,T.int .i64 x.value.num,T.sl (List.map rI x.value.index.coefs),T.int .i64 x.value.index.const,T.str x.value.read.array,T.sl (List.map aB x.value.read.subs),T.sl (List.map aT x.value.kids)]
theorem d5(x:Stmt):(aP x).length=9:=rfl
structure Part where
 nest:List Loop
 body:List Stmt
 deriving Inhabited
abbrev aD(x:Part):List T:=[T.sl (List.map aC x.nest),T.sl (List.map aP x.body)]
theorem cG(x:Part):(aD x).length=2:=rfl
structure Prog where
 arrays:List Arr
 parts:List Part
 deriving Inhabited
structure Walking where
 nest:List Loop
 steps:Int
 out:List (List Int)
 deriving Inhabited
structure Inst where
 part:Int
 stmt:Int
 point:List Int
 deriving Inhabited
abbrev aY(x:Inst):List T:=[T.int .i64 x.part,T.int .i64 x.stmt,T.sl (List.map rI x.point)]
theorem xB(x:Inst):(aY x).length=3:=rfl
structure Traced where
 program:Prog
 list:List Inst
 reads:List (List Int)
 writes:List Int
 deriving Inhabited
abbrev aNM(x:Traced):List T:=[T.sl (List.map aR x.program.arrays),T.sl (List.map aD x.program.parts),T.sl (List.map aY x.list),T.sl (List.map (rL rI) x.reads),T.sl (List.map rI x.writes)]
structure Dep where
 fromF:Int
 toF:Int
 kinds:Int
 deriving Inhabited
abbrev gB(x:Dep):List T:=[T.int .i64 x.fromF,T.int .i64 x.toF,T.int .i64 x.kinds]
theorem E3(x:Dep):(gB x).length=3:=rfl
structure L6Use where
 reads:List Int
 write:Int
 deriving Inhabited
abbrev iH(x:L6Use):List T:=[T.sl (List.map rI x.reads),T.int .i64 x.write]
theorem aAf(x:L6Use):(iH x).length=2:=rfl
end Go.Lift
