/- Cells of rows. -/
import Derived.Test.YthfcdmcpponheaaGreatVTypes
import Derived.Test.YthfcdmcpponheaaGreatVLiftSq
namespace Go.Lift
open Go
abbrev cAffine (x : Affine) : List V := [vM rI x.coefs, vI x.const]
abbrev cAccess (x : Access) : List V := [vS x.array, vM rAffine x.subs]
abbrev cStmt (x : Stmt) : List V := [vS x.write.array, vM rAffine x.write.subs, vI x.value.kind, vI x.value.num, vM rI x.value.index.coefs, vI x.value.index.const, vS x.value.read.array, vM rAffine x.value.read.subs, vM rExpr x.value.kids]
abbrev cExpr (x : Expr) : List V := [vI x.kind, vI x.num, vM rI x.index.coefs, vI x.index.const, vS x.read.array, vM rAffine x.read.subs, vM rExpr x.kids]
abbrev cPart (x : Part) : List V := [vM rLoop x.nest, vM rStmt x.body]
abbrev cLoop (x : Loop) : List V := [vM rAffine x.lo, vM rAffine x.hi]
abbrev cProg (x : Prog) : List V := [vM rArr x.arrays, vM rPart x.parts]
abbrev cInst (x : Inst) : List V := [vI x.part, vI x.stmt, vM rI x.point]
abbrev cL16Rd (x : L16Rd) : List V := [vM rY x.b, vI x.p]
abbrev eL (x : L16Rd) : E := E.cells (cL16Rd x)
abbrev sR (x : L16Rd) : Option E := some (eL x)
abbrev tAffine (x : Affine) : List T := [T.sl (List.map rI x.coefs), T.int .i64 x.const]
abbrev tAccess (x : Access) : List T := [T.str x.array, T.sl (List.map rAffine x.subs)]
abbrev tStmt (x : Stmt) : List T := [T.str x.write.array, T.sl (List.map rAffine x.write.subs), T.int .i64 x.value.kind, T.int .i64 x.value.num, T.sl (List.map rI x.value.index.coefs), T.int .i64 x.value.index.const, T.str x.value.read.array, T.sl (List.map rAffine x.value.read.subs), T.sl (List.map rExpr x.value.kids)]
abbrev tExpr (x : Expr) : List T := [T.int .i64 x.kind, T.int .i64 x.num, T.sl (List.map rI x.index.coefs), T.int .i64 x.index.const, T.str x.read.array, T.sl (List.map rAffine x.read.subs), T.sl (List.map rExpr x.kids)]
abbrev tPart (x : Part) : List T := [T.sl (List.map rLoop x.nest), T.sl (List.map rStmt x.body)]
abbrev tLoop (x : Loop) : List T := [T.sl (List.map rAffine x.lo), T.sl (List.map rAffine x.hi)]
abbrev tProg (x : Prog) : List T := [T.sl (List.map rArr x.arrays), T.sl (List.map rPart x.parts)]
abbrev tInst (x : Inst) : List T := [T.int .i64 x.part, T.int .i64 x.stmt, T.sl (List.map rI x.point)]
end Go.Lift
