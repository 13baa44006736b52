/- The data of the program, and how they lie. -/
import Derived.Test.YtiplelpjhgnmoaaGreatMLiftLib
set_option linter.unusedVariables false
namespace Go.Lift
open Go
structure L16Rd where
 b:List UInt8
 p:Int
 deriving Inhabited
structure Affine where
 coefs:List Int
 const:Int
 deriving Inhabited
abbrev aA(x:Affine):List T:=[T.sl (List.map rI x.coefs),T.int .i64 x.const]
theorem aX(x:Affine):(aA x).length=2:=rfl
structure Loop where
 lo:List Affine
 hi:List Affine
 deriving Inhabited
abbrev aC(x:Loop):List T:=[T.sl (List.map aA x.lo),T.sl (List.map aA x.hi)]
theorem dV(x:Loop):(aC x).length=2:=rfl
structure Access where
 array:List UInt8
 subs:List Affine
 deriving Inhabited
abbrev aT(x:Access):List T:=[T.str x.array,T.sl (List.map aA x.subs)]
theorem oU(x:Access):(aT x).length=2:=rfl
structure Expr where
 kind:Int
 num:Int
 index:Affine
 read:Access
 kids:List Expr
instance:Inhabited Expr:=⟨⟨0,0,(⟨[],0⟩:Affine),(⟨[],[]⟩:Access),[]⟩⟩
mutual
def aL:Expr→List T
 |⟨a0,a1,a2,a3,a4⟩=>[T.int .i64 a0,T.int .i64 a1,T.sl (List.map rI a2.coefs),T.int .i64 a2.const,T.str a3.array,T.sl (List.map aA a3.subs),T.sl (K4 a4)]
def K4:List Expr→List (List T)
 | []=>[]
 |x::l=>aL x::K4 l
end
theorem K3: ∀l:List Expr,K4 l=List.map aL l
 | []=>by simp [K4]
 |x::l=>by simp [K4,K3 l]
abbrev fP(x:Expr):List T:=[T.int .i64 x.kind,T.int .i64 x.num,T.sl (List.map rI x.index.coefs),T.int .i64 x.index.const,T.str x.read.array,T.sl (List.map aA x.read.subs),T.sl (List.map aL x.kids)]
theorem d5(x:Expr):aL x=fP x:=by cases x;simp [aL,K3]
theorem eP(x:Expr):(aL x).length=7:=by rw [d5];rfl
theorem uT(x:Expr):o6 7 1 (fP x)=List.map aL [x]:=by rw [show List.map aL [x]=[fP x] from by simp only [List.map,d5]];rfl
theorem aJt(x y:Expr):o6 7 2 (fP x++fP y)=List.map aL [x,y]:=by rw [show List.map aL [x,y]=[fP x,fP y] from by simp only [List.map,d5]];rfl
structure Stmt where
 write:Access
 value:Expr
 deriving Inhabited
abbrev aH(x:Stmt):List T:=[T.str x.write.array,T.sl (List.map aA x.write.subs),T.int .i64 x.value.kind,T.int .i64 x.value.num,T.sl (List.map rI x.value.index.coefs),T.int .i64 x.value.index.const,T.str x.value.read.array,T.sl (List.map aA x.value.read.subs),T.sl (List.map aL x.value.kids)]
theorem gM(x:Stmt):(aH x).length=9:=rfl
structure Arr where
 name:List UInt8
 dims:List Int
 deriving Inhabited
abbrev aI(x:Arr):List T:=[T.str x.name,T.sl (List.map rI x.dims)]
theorem jG(x:Arr):(aI x).length=2:=rfl
structure Part where
 nest:List Loop
 body:List Stmt
 deriving Inhabited
abbrev aD(x:Part):List T:=[T.sl (List.map aC x.nest),T.sl (List.map aH x.body)]
theorem fO(x:Part):(aD x).length=2:=rfl
structure Prog where
 arrays:List Arr
 parts:List Part
 deriving Inhabited
structure Walking where
 nest:List Loop
 steps:Int
 out:List (List Int)
 deriving Inhabited
structure Inst where
 part:Int
 stmt:Int
 point:List Int
 deriving Inhabited
abbrev bA(x:Inst):List T:=[T.int .i64 x.part,T.int .i64 x.stmt,T.sl (List.map rI x.point)]
theorem uH(x:Inst):(bA x).length=3:=rfl
structure Traced where
 program:Prog
 list:List Inst
 reads:List (List Int)
 writes:List Int
 deriving Inhabited
abbrev aIZ(x:Traced):List T:=[T.sl (List.map aI x.program.arrays),T.sl (List.map aD x.program.parts),T.sl (List.map bA x.list),T.sl (List.map (rL rI) x.reads),T.sl (List.map rI x.writes)]
structure L6Use where
 reads:List Int
 write:Int
 deriving Inhabited
abbrev d8(x:L6Use):List T:=[T.sl (List.map rI x.reads),T.int .i64 x.write]
theorem K2(x:L6Use):(d8 x).length=2:=rfl
end Go.Lift
