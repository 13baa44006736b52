/- The types of the program, as the evaluator knows them. -/
import Derived.Test.YtcnponfkbblhpaaGreatCTypes
import Derived.Test.YtcnponfkbblhpaaGreatChecked
set_option maxRecDepth 10000
namespace Go.Lift
open Go Go.Proofs
structure GS where
 g:Glob
 clone: ∀(l:List Int) {r:List Int},m_ownClone l=some r→VCC Tryz.prog g 134 [] [vM rI l] (ms 0 1 1 rI r) [ar 3 1 1 rI r]
 contains: ∀(s t:List UInt8) (r:Bool),m_contains s t=some r→PCC Tryz.prog g 250 [vS s,vS t] (vB r)
def ty3:TyI:=⟨.int .i64,.int .i64 0,1,8, #[]⟩
theorem aJx:ty3.ok Tryz.prog 3:=⟨_,TI.of Tryz.underlying3 (by kernel_rfl),rfl⟩
def ty4:TyI:=⟨.bool,.bool false,1,1, #[]⟩
theorem aJw:ty4.ok Tryz.prog 4:=⟨_,TI.of Tryz.underlying4 (by kernel_rfl),rfl⟩
def ty5:TyI:=⟨.int .u8,.int .u8 0,1,1, #[]⟩
theorem aJv:ty5.ok Tryz.prog 5:=⟨_,TI.of Tryz.underlying5 (by kernel_rfl),rfl⟩
def ty9:TyI:=⟨.string,.string ⟨#[]⟩,1,16, #[]⟩
theorem aJu:ty9.ok Tryz.prog 9:=⟨_,TI.of Tryz.underlying9 (by kernel_rfl),rfl⟩
def ty22:TyI:=⟨.slice 5,.slice none 0 0,1,24, #[]⟩
theorem aHW:ty22.ok Tryz.prog 22:=⟨_,TI.of Tryz.underlying22 (by kernel_rfl),rfl⟩
def ty23:TyI:=⟨.slice 76,.slice none 0 0,1,24, #[]⟩
theorem aHV:ty23.ok Tryz.prog 23:=⟨_,TI.of Tryz.underlying23 (by kernel_rfl),rfl⟩
def ty24:TyI:=⟨.slice 60,.slice none 0 0,1,24, #[]⟩
theorem aHU:ty24.ok Tryz.prog 24:=⟨_,TI.of Tryz.underlying24 (by kernel_rfl),rfl⟩
def ty26:TyI:=⟨.struct [(23,0),(24,1)],.agg #[.slice none 0 0,.slice none 0 0],2,48, #[(0,1),(1,1)]⟩
theorem aHT:ty26.ok Tryz.prog 26:=⟨_,TI.of Tryz.underlying26 (by kernel_rfl),⟨_,rfl,by kernel_rfl,fun w=>by kernel_rfl⟩⟩
def ty42:TyI:=⟨.slice 94,.slice none 0 0,1,24, #[]⟩
theorem aHS:ty42.ok Tryz.prog 42:=⟨_,TI.of Tryz.underlying42 (by kernel_rfl),rfl⟩
def ty45:TyI:=⟨.slice 3,.slice none 0 0,1,24, #[]⟩
theorem aHR:ty45.ok Tryz.prog 45:=⟨_,TI.of Tryz.underlying45 (by kernel_rfl),rfl⟩
def ty54:TyI:=⟨.slice 63,.slice none 0 0,1,24, #[]⟩
theorem aHQ:ty54.ok Tryz.prog 54:=⟨_,TI.of Tryz.underlying54 (by kernel_rfl),rfl⟩
def ty56:TyI:=⟨.struct [(54,0),(54,1)],.agg #[.slice none 0 0,.slice none 0 0],2,48, #[(0,1),(1,1)]⟩
theorem aHP:ty56.ok Tryz.prog 56:=⟨_,TI.of Tryz.underlying56 (by kernel_rfl),⟨_,rfl,by kernel_rfl,fun w=>by kernel_rfl⟩⟩
def ty57:TyI:=⟨.slice 56,.slice none 0 0,1,24, #[]⟩
theorem aHO:ty57.ok Tryz.prog 57:=⟨_,TI.of Tryz.underlying57 (by kernel_rfl),rfl⟩
def ty58:TyI:=⟨.slice 86,.slice none 0 0,1,24, #[]⟩
theorem aHN:ty58.ok Tryz.prog 58:=⟨_,TI.of Tryz.underlying58 (by kernel_rfl),rfl⟩
def ty60:TyI:=⟨.struct [(57,0),(58,1)],.agg #[.slice none 0 0,.slice none 0 0],2,48, #[(0,1),(1,1)]⟩
theorem aHM:ty60.ok Tryz.prog 60:=⟨_,TI.of Tryz.underlying60 (by kernel_rfl),⟨_,rfl,by kernel_rfl,fun w=>by kernel_rfl⟩⟩
def ty63:TyI:=⟨.struct [(45,0),(3,1)],.agg #[.slice none 0 0,.int .i64 0],2,32, #[(0,1),(1,1)]⟩
theorem aHL:ty63.ok Tryz.prog 63:=⟨_,TI.of Tryz.underlying63 (by kernel_rfl),⟨_,rfl,by kernel_rfl,fun w=>by kernel_rfl⟩⟩
def ty76:TyI:=⟨.struct [(9,0),(45,1)],.agg #[.string ⟨#[]⟩,.slice none 0 0],2,40, #[(0,1),(1,1)]⟩
theorem aHK:ty76.ok Tryz.prog 76:=⟨_,TI.of Tryz.underlying76 (by kernel_rfl),⟨_,rfl,by kernel_rfl,fun w=>by kernel_rfl⟩⟩
def ty81:TyI:=⟨.struct [(9,0),(54,1)],.agg #[.string ⟨#[]⟩,.slice none 0 0],2,40, #[(0,1),(1,1)]⟩
theorem aHJ:ty81.ok Tryz.prog 81:=⟨_,TI.of Tryz.underlying81 (by kernel_rfl),⟨_,rfl,by kernel_rfl,fun w=>by kernel_rfl⟩⟩
def ty82:TyI:=⟨.slice 84,.slice none 0 0,1,24, #[]⟩
theorem aHI:ty82.ok Tryz.prog 82:=⟨_,TI.of Tryz.underlying82 (by kernel_rfl),rfl⟩
def ty84:TyI:=⟨.struct [(3,0),(3,1),(63,2),(81,4),(82,6)],.agg #[.int .i64 0,.int .i64 0,.slice none 0 0,.int .i64 0,.string ⟨#[]⟩,.slice none 0 0,.slice none 0 0],7,112, #[(0,1),(1,1),(2,2),(4,2),(6,1)]⟩
theorem aHH:ty84.ok Tryz.prog 84:=⟨_,TI.of Tryz.underlying84 (by kernel_rfl),⟨_,rfl,by kernel_rfl,fun w=>by kernel_rfl⟩⟩
def ty86:TyI:=⟨.struct [(81,0),(84,2)],.agg #[.string ⟨#[]⟩,.slice none 0 0,.int .i64 0,.int .i64 0,.slice none 0 0,.int .i64 0,.string ⟨#[]⟩,.slice none 0 0,.slice none 0 0],9,152, #[(0,2),(2,7)]⟩
theorem aHG:ty86.ok Tryz.prog 86:=⟨_,TI.of Tryz.underlying86 (by kernel_rfl),⟨_,rfl,by kernel_rfl,fun w=>by kernel_rfl⟩⟩
def ty94:TyI:=⟨.struct [(3,0),(3,1),(45,2)],.agg #[.int .i64 0,.int .i64 0,.slice none 0 0],3,40, #[(0,1),(1,1),(2,1)]⟩
theorem aHF:ty94.ok Tryz.prog 94:=⟨_,TI.of Tryz.underlying94 (by kernel_rfl),⟨_,rfl,by kernel_rfl,fun w=>by kernel_rfl⟩⟩
def ty107:TyI:=⟨.slice 45,.slice none 0 0,1,24, #[]⟩
theorem aFL:ty107.ok Tryz.prog 107:=⟨_,TI.of Tryz.underlying107 (by kernel_rfl),rfl⟩
def ty138:TyI:=⟨.struct [(22,0),(3,1)],.agg #[.slice none 0 0,.int .i64 0],2,32, #[(0,1),(1,1)]⟩
theorem aFK:ty138.ok Tryz.prog 138:=⟨_,TI.of Tryz.underlying138 (by kernel_rfl),⟨_,rfl,by kernel_rfl,fun w=>by kernel_rfl⟩⟩
def ty140:TyI:=⟨.slice 54,.slice none 0 0,1,24, #[]⟩
theorem aFJ:ty140.ok Tryz.prog 140:=⟨_,TI.of Tryz.underlying140 (by kernel_rfl),rfl⟩
def ty191:TyI:=⟨.slice 81,.slice none 0 0,1,24, #[]⟩
theorem aFI:ty191.ok Tryz.prog 191:=⟨_,TI.of Tryz.underlying191 (by kernel_rfl),rfl⟩
def ty196:TyI:=⟨.slice 9,.slice none 0 0,1,24, #[]⟩
theorem aFH:ty196.ok Tryz.prog 196:=⟨_,TI.of Tryz.underlying196 (by kernel_rfl),rfl⟩
def ty215:TyI:=⟨.struct [(57,0),(3,1),(107,2)],.agg #[.slice none 0 0,.int .i64 0,.slice none 0 0],3,56, #[(0,1),(1,1),(2,1)]⟩
theorem aFG:ty215.ok Tryz.prog 215:=⟨_,TI.of Tryz.underlying215 (by kernel_rfl),⟨_,rfl,by kernel_rfl,fun w=>by kernel_rfl⟩⟩
def tyL:List (Nat×TyI):=[(3,ty3),(4,ty4),(5,ty5),(9,ty9),(22,ty22),(23,ty23),(24,ty24),(26,ty26),(42,ty42),(45,ty45),(54,ty54),(56,ty56),(57,ty57),(58,ty58),(60,ty60),(63,ty63),(76,ty76),(81,ty81),(82,ty82),(84,ty84),(86,ty86),(94,ty94),(107,ty107),(138,ty138),(140,ty140),(191,ty191),(196,ty196),(215,ty215)]
theorem aO:TyOK Tryz.prog tyL:= .cons aJx (.cons aJw (.cons aJv (.cons aJu (.cons aHW (.cons aHV (.cons aHU (.cons aHT (.cons aHS (.cons aHR (.cons aHQ (.cons aHP (.cons aHO (.cons aHN (.cons aHM (.cons aHL (.cons aHK (.cons aHJ (.cons aHI (.cons aHH (.cons aHG (.cons aHF (.cons aFL (.cons aFK (.cons aFJ (.cons aFI (.cons aFH (.cons aFG (.nil))))))))))))))))))))))))))))
def mT:List Nd:=[⟨56,2,[(0,1),(1,1)]⟩,⟨63,2,[]⟩,⟨60,2,[(1,3)]⟩,⟨86,9,[]⟩]
theorem bC:Tryz.prog.follows .mixedOrders=true:=by kernel_rfl
end Go.Lift
