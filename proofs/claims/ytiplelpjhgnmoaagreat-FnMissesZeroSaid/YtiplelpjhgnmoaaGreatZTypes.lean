/- The data of the program, and how they lie. -/
import Derived.Test.YtiplelpjhgnmoaaGreatZLiftLib
set_option linter.unusedVariables false
namespace Go.Lift
open Go
structure L16Rd where
 b:List UInt8
 p:Int
 deriving Inhabited
structure Affine where
 coefs:List Int
 const:Int
 deriving Inhabited
abbrev aB(x:Affine):List T:=[T.sl (List.map rI x.coefs),T.int .i64 x.const]
theorem bF(x:Affine):(aB x).length=2:=rfl
structure Loop where
 lo:List Affine
 hi:List Affine
 deriving Inhabited
abbrev aD(x:Loop):List T:=[T.sl (List.map aB x.lo),T.sl (List.map aB x.hi)]
theorem eY(x:Loop):(aD x).length=2:=rfl
structure Access where
 array:List UInt8
 subs:List Affine
 deriving Inhabited
abbrev aN(x:Access):List T:=[T.str x.array,T.sl (List.map aB x.subs)]
theorem lT(x:Access):(aN x).length=2:=rfl
structure Expr where
 kind:Int
 num:Int
 index:Affine
 read:Access
 kids:List Expr
instance:Inhabited Expr:=⟨⟨0,0,(⟨[],0⟩:Affine),(⟨[],[]⟩:Access),[]⟩⟩
mutual
def aL:Expr→List T
 |⟨a0,a1,a2,a3,a4⟩=>[T.int .i64 a0,T.int .i64 a1,T.sl (List.map rI a2.coefs),T.int .i64 a2.const,T.str a3.array,T.sl (List.map aB a3.subs),T.sl (xM a4)]
def xM:List Expr→List (List T)
 | []=>[]
 |x::l=>aL x::xM l
end
theorem xL: ∀l:List Expr,xM l=List.map aL l
 | []=>by simp [xM]
 |x::l=>by simp [xM,xL l]
abbrev fD(x:Expr):List T:=[T.int .i64 x.kind,T.int .i64 x.num,T.sl (List.map rI x.index.coefs),T.int .i64 x.index.const,T.str x.read.array,T.sl (List.map aB x.read.subs),T.sl (List.map aL x.kids)]
theorem eA(x:Expr):aL x=fD x:=by cases x;simp [aL,xL]
theorem kM(x:Expr):(aL x).length=7:=by rw [eA];rfl
theorem K4(x:Expr):lZ 7 1 (fD x)=List.map aL [x]:=by rw [show List.map aL [x]=[fD x] from by simp only [List.map,eA]];rfl
theorem aET(x y:Expr):lZ 7 2 (fD x++fD y)=List.map aL [x,y]:=by rw [show List.map aL [x,y]=[fD x,fD y] from by simp only [List.map,eA]];rfl
structure Stmt where
 write:Access
 value:Expr
 deriving Inhabited
abbrev aR(x:Stmt):List T:=[T.str x.write.array,T.sl (List.map aB x.write.subs),T.int .i64 x.value.kind,T.int .i64 x.value.num,T.sl (List.map rI x.value.index.coefs),T.int .i64 x.value.index.const,T.str x.value.read.array,T.sl (List.map aB x.value.read.subs),T.sl (List.map aL x.value.kids)]
theorem kL(x:Stmt):(aR x).length=9:=rfl
structure Arr where
 name:List UInt8
 dims:List Int
 deriving Inhabited
abbrev aI(x:Arr):List T:=[T.str x.name,T.sl (List.map rI x.dims)]
theorem mP(x:Arr):(aI x).length=2:=rfl
structure Part where
 nest:List Loop
 body:List Stmt
 deriving Inhabited
abbrev aF(x:Part):List T:=[T.sl (List.map aD x.nest),T.sl (List.map aR x.body)]
theorem iO(x:Part):(aF x).length=2:=rfl
structure Prog where
 arrays:List Arr
 parts:List Part
 deriving Inhabited
structure Walking where
 nest:List Loop
 steps:Int
 out:List (List Int)
 deriving Inhabited
structure Inst where
 part:Int
 stmt:Int
 point:List Int
 deriving Inhabited
abbrev aV(x:Inst):List T:=[T.int .i64 x.part,T.int .i64 x.stmt,T.sl (List.map rI x.point)]
theorem pY(x:Inst):(aV x).length=3:=rfl
structure Traced where
 program:Prog
 list:List Inst
 reads:List (List Int)
 writes:List Int
 deriving Inhabited
abbrev aEv(x:Traced):List T:=[T.sl (List.map aI x.program.arrays),T.sl (List.map aF x.program.parts),T.sl (List.map aV x.list),T.sl (List.map (rL rI) x.reads),T.sl (List.map rI x.writes)]
structure L6Use where
 reads:List Int
 write:Int
 deriving Inhabited
abbrev dA(x:L6Use):List T:=[T.sl (List.map rI x.reads),T.int .i64 x.write]
theorem xK(x:L6Use):(dA x).length=2:=rfl
end Go.Lift
