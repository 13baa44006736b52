/- Cells of rows. -/
import Derived.Test.YtcihigfifglboaaGreatWTab
import Derived.Test.YtcihigfifglboaaGreatWLiftSq
namespace Go.Lift
open Go Go.Proofs
abbrev PQ(G:GS):=PCC Tryz.prog G.g
abbrev VQ(G:GS):=VCC Tryz.prog G.g
abbrev cH(x:Affine):List V:=[vM rI x.coefs,vI x.const]
abbrev eM(x:Access):List V:=[vS x.array,vM aA x.subs]
abbrev jH(x:Stmt):List V:=[vS x.write.array,vM aA x.write.subs,vI x.value.kind,vI x.value.num,vM rI x.value.index.coefs,vI x.value.index.const,vS x.value.read.array,vM aA x.value.read.subs,vM aC x.value.kids]
abbrev jA(x:Expr):List V:=[vI x.kind,vI x.num,vM rI x.index.coefs,vI x.index.const,vS x.read.array,vM aA x.read.subs,vM aC x.kids]
abbrev Z7(x:Part):List V:=[vM aH x.nest,vM aG x.body]
abbrev wZ(x:Loop):List V:=[vM aA x.lo,vM aA x.hi]
abbrev eL(x:Prog):List V:=[vM aN x.arrays,vM aJ x.parts]
abbrev aFc(x:Inst):List V:=[vI x.part,vI x.stmt,vM rI x.point]
abbrev bZ(x:Affine):List T:=[T.sl (List.map rI x.coefs),T.int .i64 x.const]
abbrev cP(x:Access):List T:=[T.str x.array,T.sl (List.map aA x.subs)]
abbrev n9(x:Stmt):List T:=[T.str x.write.array,T.sl (List.map aA x.write.subs),T.int .i64 x.value.kind,T.int .i64 x.value.num,T.sl (List.map rI x.value.index.coefs),T.int .i64 x.value.index.const,T.str x.value.read.array,T.sl (List.map aA x.value.read.subs),T.sl (List.map aC x.value.kids)]
abbrev fO(x:Expr):List T:=[T.int .i64 x.kind,T.int .i64 x.num,T.sl (List.map rI x.index.coefs),T.int .i64 x.index.const,T.str x.read.array,T.sl (List.map aA x.read.subs),T.sl (List.map aC x.kids)]
abbrev jG(x:Part):List T:=[T.sl (List.map aH x.nest),T.sl (List.map aG x.body)]
abbrev oB(x:Loop):List T:=[T.sl (List.map aA x.lo),T.sl (List.map aA x.hi)]
abbrev bO(x:Prog):List T:=[T.sl (List.map aN x.arrays),T.sl (List.map aJ x.parts)]
abbrev aDW(x:Inst):List T:=[T.int .i64 x.part,T.int .i64 x.stmt,T.sl (List.map rI x.point)]
end Go.Lift
