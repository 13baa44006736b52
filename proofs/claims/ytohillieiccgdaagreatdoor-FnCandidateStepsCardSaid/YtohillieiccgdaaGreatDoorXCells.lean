/- Cells of rows. -/
import Derived.Test.YtohillieiccgdaaGreatDoorXTab
import Derived.Test.YtohillieiccgdaaGreatDoorXLiftSq
namespace Go.Lift
open Go Go.Proofs
abbrev PQ(G:GS):=PCC Tryz.prog G.g
abbrev VQ(G:GS):=VCC Tryz.prog G.g
abbrev bC(x:Affine):List V:=[vM rI x.coefs,vI x.const]
abbrev dV(x:Access):List V:=[vS x.array,vM aB x.subs]
abbrev hS(x:Stmt):List V:=[vS x.write.array,vM aB x.write.subs,vI x.value.kind,vI x.value.num,vM rI x.value.index.coefs,vI x.value.index.const,vS x.value.read.array,vM aB x.value.read.subs,vM aM x.value.kids]
abbrev fV(x:Expr):List V:=[vI x.kind,vI x.num,vM rI x.index.coefs,vI x.index.const,vS x.read.array,vM aB x.read.subs,vM aM x.kids]
abbrev P0(x:Part):List V:=[vM aC x.nest,vM aR x.body]
abbrev B4(x:Loop):List V:=[vM aB x.lo,vM aB x.hi]
abbrev dT(x:Prog):List V:=[vM aL x.arrays,vM aE x.parts]
abbrev aFd(x:L16Rd):List V:=[vM rY x.b,vI x.p]
abbrev eL(x:L16Rd):E:=E.cells (aFd x)
abbrev sR(x:L16Rd):Option E:=some (eL x)
abbrev bI(x:Affine):List T:=[T.sl (List.map rI x.coefs),T.int .i64 x.const]
abbrev dU(x:Access):List T:=[T.str x.array,T.sl (List.map aB x.subs)]
abbrev pY(x:Stmt):List T:=[T.str x.write.array,T.sl (List.map aB x.write.subs),T.int .i64 x.value.kind,T.int .i64 x.value.num,T.sl (List.map rI x.value.index.coefs),T.int .i64 x.value.index.const,T.str x.value.read.array,T.sl (List.map aB x.value.read.subs),T.sl (List.map aM x.value.kids)]
abbrev hA(x:Expr):List T:=[T.int .i64 x.kind,T.int .i64 x.num,T.sl (List.map rI x.index.coefs),T.int .i64 x.index.const,T.str x.read.array,T.sl (List.map aB x.read.subs),T.sl (List.map aM x.kids)]
abbrev oB(x:Part):List T:=[T.sl (List.map aC x.nest),T.sl (List.map aR x.body)]
abbrev vQ(x:Loop):List T:=[T.sl (List.map aB x.lo),T.sl (List.map aB x.hi)]
abbrev cL(x:Prog):List T:=[T.sl (List.map aL x.arrays),T.sl (List.map aE x.parts)]
end Go.Lift
