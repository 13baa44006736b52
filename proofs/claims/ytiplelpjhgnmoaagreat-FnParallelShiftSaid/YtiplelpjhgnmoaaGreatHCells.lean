/- Cells of rows. -/
import Derived.Test.YtiplelpjhgnmoaaGreatHTab
import Derived.Test.YtiplelpjhgnmoaaGreatHLiftSq
namespace Go.Lift
open Go Go.Proofs
abbrev PQ(G:GS):=PCC Tryz.prog G.g
abbrev VQ(G:GS):=VCC Tryz.prog G.g
abbrev aK(x:Affine):List V:=[vM rI x.coefs,vI x.const]
abbrev cD(x:Access):List V:=[vS x.array,vM aA x.subs]
abbrev cR(x:Stmt):List V:=[vS x.write.array,vM aA x.write.subs,vI x.value.kind,vI x.value.num,vM rI x.value.index.coefs,vI x.value.index.const,vS x.value.read.array,vM aA x.value.read.subs,vM aJ x.value.kids]
abbrev dB(x:Expr):List V:=[vI x.kind,vI x.num,vM rI x.index.coefs,vI x.index.const,vS x.read.array,vM aA x.read.subs,vM aJ x.kids]
abbrev lO(x:Part):List V:=[vM aC x.nest,vM aG x.body]
abbrev kN(x:Loop):List V:=[vM aA x.lo,vM aA x.hi]
abbrev bJ(x:Prog):List V:=[vM aI x.arrays,vM aD x.parts]
abbrev zI(x:Inst):List V:=[vI x.part,vI x.stmt,vM rI x.point]
abbrev aLQ(x:L16Rd):List V:=[vM rY x.b,vI x.p]
abbrev eL(x:L16Rd):E:=E.cells (aLQ x)
abbrev sR(x:L16Rd):Option E:=some (eL x)
abbrev aR(x:Affine):List T:=[T.sl (List.map rI x.coefs),T.int .i64 x.const]
abbrev dO(x:Access):List T:=[T.str x.array,T.sl (List.map aA x.subs)]
abbrev oG(x:Stmt):List T:=[T.str x.write.array,T.sl (List.map aA x.write.subs),T.int .i64 x.value.kind,T.int .i64 x.value.num,T.sl (List.map rI x.value.index.coefs),T.int .i64 x.value.index.const,T.str x.value.read.array,T.sl (List.map aA x.value.read.subs),T.sl (List.map aJ x.value.kids)]
abbrev fM(x:Expr):List T:=[T.int .i64 x.kind,T.int .i64 x.num,T.sl (List.map rI x.index.coefs),T.int .i64 x.index.const,T.str x.read.array,T.sl (List.map aA x.read.subs),T.sl (List.map aJ x.kids)]
abbrev kF(x:Part):List T:=[T.sl (List.map aC x.nest),T.sl (List.map aG x.body)]
abbrev vX(x:Loop):List T:=[T.sl (List.map aA x.lo),T.sl (List.map aA x.hi)]
abbrev cF(x:Prog):List T:=[T.sl (List.map aI x.arrays),T.sl (List.map aD x.parts)]
abbrev aG7(x:Inst):List T:=[T.int .i64 x.part,T.int .i64 x.stmt,T.sl (List.map rI x.point)]
end Go.Lift
