/- Cells of rows. -/
import Derived.Test.YtlbojjldejlgaaaGreatTTab
import Derived.Test.YtlbojjldejlgaaaGreatTLiftSq
namespace Go.Lift
open Go Go.Proofs
abbrev PQ(G:GS):=PCC Tryz.prog G.g
abbrev VQ(G:GS):=VCC Tryz.prog G.g
abbrev aQ(x:Affine):List V:=[vM rI x.coefs,vI x.const]
abbrev cJ(x:Access):List V:=[vS x.array,vM aA x.subs]
abbrev eQ(x:Stmt):List V:=[vS x.write.array,vM aA x.write.subs,vI x.value.kind,vI x.value.num,vM rI x.value.index.coefs,vI x.value.index.const,vS x.value.read.array,vM aA x.value.read.subs,vM aC x.value.kids]
abbrev dR(x:Expr):List V:=[vI x.kind,vI x.num,vM rI x.index.coefs,vI x.index.const,vS x.read.array,vM aA x.read.subs,vM aC x.kids]
abbrev nS(x:Part):List V:=[vM aD x.nest,vM aF x.body]
abbrev jZ(x:Loop):List V:=[vM aA x.lo,vM aA x.hi]
abbrev cR(x:Prog):List V:=[vM aJ x.arrays,vM aE x.parts]
abbrev bA(x:Affine):List T:=[T.sl (List.map rI x.coefs),T.int .i64 x.const]
abbrev cO(x:Access):List T:=[T.str x.array,T.sl (List.map aA x.subs)]
abbrev kI(x:Stmt):List T:=[T.str x.write.array,T.sl (List.map aA x.write.subs),T.int .i64 x.value.kind,T.int .i64 x.value.num,T.sl (List.map rI x.value.index.coefs),T.int .i64 x.value.index.const,T.str x.value.read.array,T.sl (List.map aA x.value.read.subs),T.sl (List.map aC x.value.kids)]
abbrev dQ(x:Expr):List T:=[T.int .i64 x.kind,T.int .i64 x.num,T.sl (List.map rI x.index.coefs),T.int .i64 x.index.const,T.str x.read.array,T.sl (List.map aA x.read.subs),T.sl (List.map aC x.kids)]
abbrev jD(x:Part):List T:=[T.sl (List.map aD x.nest),T.sl (List.map aF x.body)]
abbrev jE(x:Loop):List T:=[T.sl (List.map aA x.lo),T.sl (List.map aA x.hi)]
abbrev cL(x:Prog):List T:=[T.sl (List.map aJ x.arrays),T.sl (List.map aE x.parts)]
end Go.Lift
