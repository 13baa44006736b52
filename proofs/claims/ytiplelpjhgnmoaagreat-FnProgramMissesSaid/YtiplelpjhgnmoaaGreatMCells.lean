/- Cells of rows. -/
import Derived.Test.YtiplelpjhgnmoaaGreatMTab
import Derived.Test.YtiplelpjhgnmoaaGreatMLiftSq
namespace Go.Lift
open Go Go.Proofs
abbrev PQ(G:GS):=PCC Tryz.prog G.g
abbrev VQ(G:GS):=VCC Tryz.prog G.g
abbrev aK(x:Affine):List V:=[vM rI x.coefs,vI x.const]
abbrev cW(x:Access):List V:=[vS x.array,vM aA x.subs]
abbrev dR(x:Stmt):List V:=[vS x.write.array,vM aA x.write.subs,vI x.value.kind,vI x.value.num,vM rI x.value.index.coefs,vI x.value.index.const,vS x.value.read.array,vM aA x.value.read.subs,vM aL x.value.kids]
abbrev eK(x:Expr):List V:=[vI x.kind,vI x.num,vM rI x.index.coefs,vI x.index.const,vS x.read.array,vM aA x.read.subs,vM aL x.kids]
abbrev aAg(x:Part):List V:=[vM aC x.nest,vM aH x.body]
abbrev yN(x:Loop):List V:=[vM aA x.lo,vM aA x.hi]
abbrev bQ(x:Prog):List V:=[vM aI x.arrays,vM aD x.parts]
abbrev aHY(x:Inst):List V:=[vI x.part,vI x.stmt,vM rI x.point]
abbrev aKV(x:L16Rd):List V:=[vM rY x.b,vI x.p]
abbrev eL(x:L16Rd):E:=E.cells (aKV x)
abbrev sR(x:L16Rd):Option E:=some (eL x)
abbrev aY(x:Affine):List T:=[T.sl (List.map rI x.coefs),T.int .i64 x.const]
abbrev d7(x:Access):List T:=[T.str x.array,T.sl (List.map aA x.subs)]
abbrev oO(x:Stmt):List T:=[T.str x.write.array,T.sl (List.map aA x.write.subs),T.int .i64 x.value.kind,T.int .i64 x.value.num,T.sl (List.map rI x.value.index.coefs),T.int .i64 x.value.index.const,T.str x.value.read.array,T.sl (List.map aA x.value.read.subs),T.sl (List.map aL x.value.kids)]
abbrev gU(x:Expr):List T:=[T.int .i64 x.kind,T.int .i64 x.num,T.sl (List.map rI x.index.coefs),T.int .i64 x.index.const,T.str x.read.array,T.sl (List.map aA x.read.subs),T.sl (List.map aL x.kids)]
abbrev pK(x:Part):List T:=[T.sl (List.map aC x.nest),T.sl (List.map aH x.body)]
abbrev wY(x:Loop):List T:=[T.sl (List.map aA x.lo),T.sl (List.map aA x.hi)]
abbrev bZ(x:Prog):List T:=[T.sl (List.map aI x.arrays),T.sl (List.map aD x.parts)]
abbrev aGC(x:Inst):List T:=[T.int .i64 x.part,T.int .i64 x.stmt,T.sl (List.map rI x.point)]
end Go.Lift
