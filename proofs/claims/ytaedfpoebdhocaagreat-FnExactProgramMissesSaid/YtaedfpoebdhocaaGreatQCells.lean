/- Cells of rows. -/
import Derived.Test.YtaedfpoebdhocaaGreatQTab
import Derived.Test.YtaedfpoebdhocaaGreatQLiftSq
namespace Go.Lift
open Go Go.Proofs
abbrev PQ(G:GS):=PCC Tryz.prog G.g
abbrev VQ(G:GS):=VCC Tryz.prog G.g
abbrev b9(x:Affine):List V:=[vM rI x.coefs,vI x.const]
abbrev dG(x:Access):List V:=[vS x.array,vM aD x.subs]
abbrev iC(x:Stmt):List V:=[vS x.write.array,vM aD x.write.subs,vI x.value.kind,vI x.value.num,vM rI x.value.index.coefs,vI x.value.index.const,vS x.value.read.array,vM aD x.value.read.subs,vM aS x.value.kids]
abbrev iD(x:Expr):List V:=[vI x.kind,vI x.num,vM rI x.index.coefs,vI x.index.const,vS x.read.array,vM aD x.read.subs,vM aS x.kids]
abbrev C2(x:Part):List V:=[vM aG x.nest,vM aU x.body]
abbrev rX(x:Loop):List V:=[vM aD x.lo,vM aD x.hi]
abbrev fB(x:Prog):List V:=[vM aT x.arrays,vM aR x.parts]
abbrev aDV(x:Inst):List V:=[vI x.part,vI x.stmt,vM rI x.point]
abbrev bR(x:Affine):List T:=[T.sl (List.map rI x.coefs),T.int .i64 x.const]
abbrev cF(x:Access):List T:=[T.str x.array,T.sl (List.map aD x.subs)]
abbrev mZ(x:Stmt):List T:=[T.str x.write.array,T.sl (List.map aD x.write.subs),T.int .i64 x.value.kind,T.int .i64 x.value.num,T.sl (List.map rI x.value.index.coefs),T.int .i64 x.value.index.const,T.str x.value.read.array,T.sl (List.map aD x.value.read.subs),T.sl (List.map aS x.value.kids)]
abbrev fT(x:Expr):List T:=[T.int .i64 x.kind,T.int .i64 x.num,T.sl (List.map rI x.index.coefs),T.int .i64 x.index.const,T.str x.read.array,T.sl (List.map aD x.read.subs),T.sl (List.map aS x.kids)]
abbrev jE(x:Part):List T:=[T.sl (List.map aG x.nest),T.sl (List.map aU x.body)]
abbrev m0(x:Loop):List T:=[T.sl (List.map aD x.lo),T.sl (List.map aD x.hi)]
abbrev cA(x:Prog):List T:=[T.sl (List.map aT x.arrays),T.sl (List.map aR x.parts)]
abbrev aCF(x:Inst):List T:=[T.int .i64 x.part,T.int .i64 x.stmt,T.sl (List.map rI x.point)]
end Go.Lift
