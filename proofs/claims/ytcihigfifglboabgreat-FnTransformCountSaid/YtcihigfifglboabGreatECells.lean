/- Cells of rows. -/
import Derived.Test.YtcihigfifglboabGreatETab
import Derived.Test.YtcihigfifglboabGreatELiftSe
namespace Go.Lift
open Go Go.Proofs
abbrev PQ(G:GS):=PCC Tryz.prog G.g
abbrev VQ(G:GS):=VCC Tryz.prog G.g
abbrev aO(x:Affine):List V:=[vM rI x.coefs,vI x.const]
abbrev cY(x:Access):List V:=[vS x.array,vM aB x.subs]
abbrev fT(x:Stmt):List V:=[vS x.write.array,vM aB x.write.subs,vI x.value.kind,vI x.value.num,vM rI x.value.index.coefs,vI x.value.index.const,vS x.value.read.array,vM aB x.value.read.subs,vM aT x.value.kids]
abbrev eG(x:Expr):List V:=[vI x.kind,vI x.num,vM rI x.index.coefs,vI x.index.const,vS x.read.array,vM aB x.read.subs,vM aT x.kids]
abbrev wO(x:Part):List V:=[vM aC x.nest,vM aP x.body]
abbrev nM(x:Loop):List V:=[vM aB x.lo,vM aB x.hi]
abbrev bV(x:Prog):List V:=[vM aR x.arrays,vM aD x.parts]
abbrev S6(x:Inst):List V:=[vI x.part,vI x.stmt,vM rI x.point]
abbrev aPU(x:L16Rd):List V:=[vM rY x.b,vI x.p]
abbrev uU(x:L16Rd):E:=E.cells (aPU x)
abbrev cN(x:Affine):List T:=[T.sl (List.map rI x.coefs),T.int .i64 x.const]
abbrev tI(x:Access):List T:=[T.str x.array,T.sl (List.map aB x.subs)]
abbrev aOE(x:Stmt):List T:=[T.str x.write.array,T.sl (List.map aB x.write.subs),T.int .i64 x.value.kind,T.int .i64 x.value.num,T.sl (List.map rI x.value.index.coefs),T.int .i64 x.value.index.const,T.str x.value.read.array,T.sl (List.map aB x.value.read.subs),T.sl (List.map aT x.value.kids)]
abbrev nH(x:Expr):List T:=[T.int .i64 x.kind,T.int .i64 x.num,T.sl (List.map rI x.index.coefs),T.int .i64 x.index.const,T.str x.read.array,T.sl (List.map aB x.read.subs),T.sl (List.map aT x.kids)]
abbrev xZ(x:Part):List T:=[T.sl (List.map aC x.nest),T.sl (List.map aP x.body)]
abbrev P9(x:Loop):List T:=[T.sl (List.map aB x.lo),T.sl (List.map aB x.hi)]
abbrev fZ(x:Prog):List T:=[T.sl (List.map aR x.arrays),T.sl (List.map aD x.parts)]
abbrev aQM(x:Inst):List T:=[T.int .i64 x.part,T.int .i64 x.stmt,T.sl (List.map rI x.point)]
end Go.Lift
