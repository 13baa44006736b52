/- The data of the program, and how they lie. -/
import Derived.Test.YthfcdmcpponheaaGreatVLiftLib
set_option linter.unusedVariables false
namespace Go.Lift
open Go
structure Arr where
 name : List UInt8
 dims : List Int
 deriving Inhabited
abbrev rArr (x : Arr) : List T := [T.str x.name, T.sl (List.map rI x.dims)]
theorem rArr_len (x : Arr) : (rArr x).length = 2 := rfl
structure Affine where
 coefs : List Int
 const : Int
 deriving Inhabited
abbrev rAffine (x : Affine) : List T := [T.sl (List.map rI x.coefs), T.int .i64 x.const]
theorem rAffine_len (x : Affine) : (rAffine x).length = 2 := rfl
structure Loop where
 lo : List Affine
 hi : List Affine
 deriving Inhabited
abbrev rLoop (x : Loop) : List T := [T.sl (List.map rAffine x.lo), T.sl (List.map rAffine x.hi)]
theorem rLoop_len (x : Loop) : (rLoop x).length = 2 := rfl
structure Access where
 array : List UInt8
 subs : List Affine
 deriving Inhabited
abbrev rAccess (x : Access) : List T := [T.str x.array, T.sl (List.map rAffine x.subs)]
theorem rAccess_len (x : Access) : (rAccess x).length = 2 := rfl
structure Expr where
 kind : Int
 num : Int
 index : Affine
 read : Access
 kids : List Expr
instance : Inhabited Expr := ⟨⟨0, 0, (⟨[], 0⟩ : Affine), (⟨[], []⟩ : Access), []⟩⟩
mutual
def rExpr : Expr → List T
 | ⟨a0, a1, a2, a3, a4⟩ => [T.int .i64 a0, T.int .i64 a1, T.sl (List.map rI a2.coefs), T.int .i64 a2.const, T.str a3.array, T.sl (List.map rAffine a3.subs), T.sl (rExprs a4)]
def rExprs : List Expr → List (List T)
 | [] => []
 | x :: l => rExpr x :: rExprs l
end
theorem rExprs_map : ∀ l : List Expr, rExprs l = List.map rExpr l
 | [] => by simp [rExprs]
 | x :: l => by simp [rExprs, rExprs_map l]
abbrev rExprC (x : Expr) : List T := [T.int .i64 x.kind, T.int .i64 x.num, T.sl (List.map rI x.index.coefs), T.int .i64 x.index.const, T.str x.read.array, T.sl (List.map rAffine x.read.subs), T.sl (List.map rExpr x.kids)]
theorem rExpr_eq (x : Expr) : rExpr x = rExprC x := by cases x; simp [rExpr, rExprs_map]
theorem rExpr_len (x : Expr) : (rExpr x).length = 7 := by rw [rExpr_eq]; rfl
theorem chExpr1 (x : Expr) : chunk 7 1 (rExprC x) = List.map rExpr [x] := by rw [show List.map rExpr [x] = [rExprC x] from by simp only [List.map, rExpr_eq]]; rfl
theorem chExpr2 (x y : Expr) : chunk 7 2 (rExprC x ++ rExprC y) = List.map rExpr [x, y] := by rw [show List.map rExpr [x, y] = [rExprC x, rExprC y] from by simp only [List.map, rExpr_eq]]; rfl
structure Stmt where
 write : Access
 value : Expr
 deriving Inhabited
abbrev rStmt (x : Stmt) : List T := [T.str x.write.array, T.sl (List.map rAffine x.write.subs), T.int .i64 x.value.kind, T.int .i64 x.value.num, T.sl (List.map rI x.value.index.coefs), T.int .i64 x.value.index.const, T.str x.value.read.array, T.sl (List.map rAffine x.value.read.subs), T.sl (List.map rExpr x.value.kids)]
theorem rStmt_len (x : Stmt) : (rStmt x).length = 9 := rfl
structure Part where
 nest : List Loop
 body : List Stmt
 deriving Inhabited
abbrev rPart (x : Part) : List T := [T.sl (List.map rLoop x.nest), T.sl (List.map rStmt x.body)]
theorem rPart_len (x : Part) : (rPart x).length = 2 := rfl
structure Prog where
 arrays : List Arr
 parts : List Part
 deriving Inhabited
structure Inst where
 part : Int
 stmt : Int
 point : List Int
 deriving Inhabited
abbrev rInst (x : Inst) : List T := [T.int .i64 x.part, T.int .i64 x.stmt, T.sl (List.map rI x.point)]
theorem rInst_len (x : Inst) : (rInst x).length = 3 := rfl
structure Walking where
 nest : List Loop
 steps : Int
 out : List (List Int)
 deriving Inhabited
structure L16Rd where
 b : List UInt8
 p : Int
 deriving Inhabited
end Go.Lift
