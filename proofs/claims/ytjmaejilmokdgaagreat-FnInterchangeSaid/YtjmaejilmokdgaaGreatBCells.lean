/- Cells of rows. -/
import Derived.Test.YtjmaejilmokdgaaGreatBTab
import Derived.Test.YtjmaejilmokdgaaGreatBLiftSq
namespace Go.Lift
open Go Go.Proofs
abbrev PQ(G:GS):=PCC Tryz.prog G.g
abbrev VQ(G:GS):=VCC Tryz.prog G.g
abbrev aP(x:Affine):List V:=[vM rI x.coefs,vI x.const]
abbrev cM(x:Access):List V:=[vS x.array,vM aB x.subs]
abbrev dE(x:Stmt):List V:=[vS x.write.array,vM aB x.write.subs,vI x.value.kind,vI x.value.num,vM rI x.value.index.coefs,vI x.value.index.const,vS x.value.read.array,vM aB x.value.read.subs,vM aK x.value.kids]
abbrev dJ(x:Expr):List V:=[vI x.kind,vI x.num,vM rI x.index.coefs,vI x.index.const,vS x.read.array,vM aB x.read.subs,vM aK x.kids]
abbrev mY(x:Part):List V:=[vM aC x.nest,vM aI x.body]
abbrev iX(x:Loop):List V:=[vM aB x.lo,vM aB x.hi]
abbrev bL(x:Prog):List V:=[vM aJ x.arrays,vM aD x.parts]
abbrev pY(x:Inst):List V:=[vI x.part,vI x.stmt,vM rI x.point]
abbrev aO8(x:L16Rd):List V:=[vM rY x.b,vI x.p]
abbrev eL(x:L16Rd):E:=E.cells (aO8 x)
abbrev sR(x:L16Rd):Option E:=some (eL x)
abbrev aY(x:Affine):List T:=[T.sl (List.map rI x.coefs),T.int .i64 x.const]
abbrev d7(x:Access):List T:=[T.str x.array,T.sl (List.map aB x.subs)]
abbrev pA(x:Stmt):List T:=[T.str x.write.array,T.sl (List.map aB x.write.subs),T.int .i64 x.value.kind,T.int .i64 x.value.num,T.sl (List.map rI x.value.index.coefs),T.int .i64 x.value.index.const,T.str x.value.read.array,T.sl (List.map aB x.value.read.subs),T.sl (List.map aK x.value.kids)]
abbrev fN(x:Expr):List T:=[T.int .i64 x.kind,T.int .i64 x.num,T.sl (List.map rI x.index.coefs),T.int .i64 x.index.const,T.str x.read.array,T.sl (List.map aB x.read.subs),T.sl (List.map aK x.kids)]
abbrev mR(x:Part):List T:=[T.sl (List.map aC x.nest),T.sl (List.map aI x.body)]
abbrev qH(x:Loop):List T:=[T.sl (List.map aB x.lo),T.sl (List.map aB x.hi)]
abbrev bQ(x:Prog):List T:=[T.sl (List.map aJ x.arrays),T.sl (List.map aD x.parts)]
abbrev aHW(x:Inst):List T:=[T.int .i64 x.part,T.int .i64 x.stmt,T.sl (List.map rI x.point)]
end Go.Lift
