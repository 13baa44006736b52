/- The types of the program, as the evaluator knows them. -/
import Derived.Test.YtaedfpoebdhocaaGreatYTypes
import Derived.Test.YtaedfpoebdhocaaGreatChecked
set_option maxRecDepth 10000
namespace Go.Lift
open Go Go.Proofs
structure GS where
 g:Glob
 clone: ∀(l:List Int) {r:List Int},m_ownClone l=some r→VCC Tryz.prog g 52 [] [vM rI l] (ms 0 1 1 rI r) [ar 3 1 1 rI r]
 contains: ∀(s t:List UInt8) (r:Bool),m_contains s t=some r→PCC Tryz.prog g 162 [vS s,vS t] (vB r)
def ty3:TyI:=⟨.int .i64,.int .i64 0,1,8, #[]⟩
theorem aHl:ty3.ok Tryz.prog 3:=⟨_,TI.of Tryz.underlying3 (by kernel_rfl),rfl⟩
def ty4:TyI:=⟨.bool,.bool false,1,1, #[]⟩
theorem aHk:ty4.ok Tryz.prog 4:=⟨_,TI.of Tryz.underlying4 (by kernel_rfl),rfl⟩
def ty5:TyI:=⟨.int .u8,.int .u8 0,1,1, #[]⟩
theorem aHj:ty5.ok Tryz.prog 5:=⟨_,TI.of Tryz.underlying5 (by kernel_rfl),rfl⟩
def ty9:TyI:=⟨.string,.string ⟨#[]⟩,1,16, #[]⟩
theorem aHi:ty9.ok Tryz.prog 9:=⟨_,TI.of Tryz.underlying9 (by kernel_rfl),rfl⟩
def ty22:TyI:=⟨.slice 84,.slice none 0 0,1,24, #[]⟩
theorem aFQ:ty22.ok Tryz.prog 22:=⟨_,TI.of Tryz.underlying22 (by kernel_rfl),rfl⟩
def ty23:TyI:=⟨.slice 89,.slice none 0 0,1,24, #[]⟩
theorem aFP:ty23.ok Tryz.prog 23:=⟨_,TI.of Tryz.underlying23 (by kernel_rfl),rfl⟩
def ty25:TyI:=⟨.struct [(22,0),(23,1)],.agg #[.slice none 0 0,.slice none 0 0],2,48, #[(0,1),(1,1)]⟩
theorem aFO:ty25.ok Tryz.prog 25:=⟨_,TI.of Tryz.underlying25 (by kernel_rfl),⟨_,rfl,by kernel_rfl,fun w=>by kernel_rfl⟩⟩
def ty28:TyI:=⟨.slice 98,.slice none 0 0,1,24, #[]⟩
theorem aFN:ty28.ok Tryz.prog 28:=⟨_,TI.of Tryz.underlying28 (by kernel_rfl),rfl⟩
def ty29:TyI:=⟨.slice 69,.slice none 0 0,1,24, #[]⟩
theorem aFM:ty29.ok Tryz.prog 29:=⟨_,TI.of Tryz.underlying29 (by kernel_rfl),rfl⟩
def ty31:TyI:=⟨.struct [(28,0),(29,1)],.agg #[.slice none 0 0,.slice none 0 0],2,48, #[(0,1),(1,1)]⟩
theorem aFL:ty31.ok Tryz.prog 31:=⟨_,TI.of Tryz.underlying31 (by kernel_rfl),⟨_,rfl,by kernel_rfl,fun w=>by kernel_rfl⟩⟩
def ty40:TyI:=⟨.slice 3,.slice none 0 0,1,24, #[]⟩
theorem aFK:ty40.ok Tryz.prog 40:=⟨_,TI.of Tryz.underlying40 (by kernel_rfl),rfl⟩
def ty50:TyI:=⟨.struct [(3,0),(3,1),(40,2)],.agg #[.int .i64 0,.int .i64 0,.slice none 0 0],3,40, #[(0,1),(1,1),(2,1)]⟩
theorem aFJ:ty50.ok Tryz.prog 50:=⟨_,TI.of Tryz.underlying50 (by kernel_rfl),⟨_,rfl,by kernel_rfl,fun w=>by kernel_rfl⟩⟩
def ty53:TyI:=⟨.struct [(3,0),(3,1),(40,2)],.agg #[.int .i64 0,.int .i64 0,.slice none 0 0],3,40, #[(0,1),(1,1),(2,1)]⟩
theorem aFI:ty53.ok Tryz.prog 53:=⟨_,TI.of Tryz.underlying53 (by kernel_rfl),⟨_,rfl,by kernel_rfl,fun w=>by kernel_rfl⟩⟩
def ty66:TyI:=⟨.slice 157,.slice none 0 0,1,24, #[]⟩
theorem aFH:ty66.ok Tryz.prog 66:=⟨_,TI.of Tryz.underlying66 (by kernel_rfl),rfl⟩
def ty67:TyI:=⟨.slice 126,.slice none 0 0,1,24, #[]⟩
theorem aFG:ty67.ok Tryz.prog 67:=⟨_,TI.of Tryz.underlying67 (by kernel_rfl),rfl⟩
def ty69:TyI:=⟨.struct [(66,0),(67,1)],.agg #[.slice none 0 0,.slice none 0 0],2,48, #[(0,1),(1,1)]⟩
theorem aFF:ty69.ok Tryz.prog 69:=⟨_,TI.of Tryz.underlying69 (by kernel_rfl),⟨_,rfl,by kernel_rfl,fun w=>by kernel_rfl⟩⟩
def ty76:TyI:=⟨.slice 53,.slice none 0 0,1,24, #[]⟩
theorem aFE:ty76.ok Tryz.prog 76:=⟨_,TI.of Tryz.underlying76 (by kernel_rfl),rfl⟩
def ty84:TyI:=⟨.struct [(9,0),(40,1)],.agg #[.string ⟨#[]⟩,.slice none 0 0],2,40, #[(0,1),(1,1)]⟩
theorem aFD:ty84.ok Tryz.prog 84:=⟨_,TI.of Tryz.underlying84 (by kernel_rfl),⟨_,rfl,by kernel_rfl,fun w=>by kernel_rfl⟩⟩
def ty86:TyI:=⟨.slice 172,.slice none 0 0,1,24, #[]⟩
theorem aFC:ty86.ok Tryz.prog 86:=⟨_,TI.of Tryz.underlying86 (by kernel_rfl),rfl⟩
def ty87:TyI:=⟨.slice 181,.slice none 0 0,1,24, #[]⟩
theorem aFB:ty87.ok Tryz.prog 87:=⟨_,TI.of Tryz.underlying87 (by kernel_rfl),rfl⟩
def ty89:TyI:=⟨.struct [(86,0),(87,1)],.agg #[.slice none 0 0,.slice none 0 0],2,48, #[(0,1),(1,1)]⟩
theorem aFA:ty89.ok Tryz.prog 89:=⟨_,TI.of Tryz.underlying89 (by kernel_rfl),⟨_,rfl,by kernel_rfl,fun w=>by kernel_rfl⟩⟩
def ty98:TyI:=⟨.struct [(9,0),(40,1)],.agg #[.string ⟨#[]⟩,.slice none 0 0],2,40, #[(0,1),(1,1)]⟩
theorem aFz:ty98.ok Tryz.prog 98:=⟨_,TI.of Tryz.underlying98 (by kernel_rfl),⟨_,rfl,by kernel_rfl,fun w=>by kernel_rfl⟩⟩
def ty107:TyI:=⟨.slice 40,.slice none 0 0,1,24, #[]⟩
theorem aDH:ty107.ok Tryz.prog 107:=⟨_,TI.of Tryz.underlying107 (by kernel_rfl),rfl⟩
def ty117:TyI:=⟨.slice 121,.slice none 0 0,1,24, #[]⟩
theorem aDG:ty117.ok Tryz.prog 117:=⟨_,TI.of Tryz.underlying117 (by kernel_rfl),rfl⟩
def ty119:TyI:=⟨.struct [(9,0),(117,1)],.agg #[.string ⟨#[]⟩,.slice none 0 0],2,40, #[(0,1),(1,1)]⟩
theorem aDF:ty119.ok Tryz.prog 119:=⟨_,TI.of Tryz.underlying119 (by kernel_rfl),⟨_,rfl,by kernel_rfl,fun w=>by kernel_rfl⟩⟩
def ty121:TyI:=⟨.struct [(40,0),(3,1)],.agg #[.slice none 0 0,.int .i64 0],2,32, #[(0,1),(1,1)]⟩
theorem aDE:ty121.ok Tryz.prog 121:=⟨_,TI.of Tryz.underlying121 (by kernel_rfl),⟨_,rfl,by kernel_rfl,fun w=>by kernel_rfl⟩⟩
def ty122:TyI:=⟨.slice 124,.slice none 0 0,1,24, #[]⟩
theorem aDD:ty122.ok Tryz.prog 122:=⟨_,TI.of Tryz.underlying122 (by kernel_rfl),rfl⟩
def ty124:TyI:=⟨.struct [(3,0),(3,1),(121,2),(119,4),(122,6)],.agg #[.int .i64 0,.int .i64 0,.slice none 0 0,.int .i64 0,.string ⟨#[]⟩,.slice none 0 0,.slice none 0 0],7,112, #[(0,1),(1,1),(2,2),(4,2),(6,1)]⟩
theorem aDC:ty124.ok Tryz.prog 124:=⟨_,TI.of Tryz.underlying124 (by kernel_rfl),⟨_,rfl,by kernel_rfl,fun w=>by kernel_rfl⟩⟩
def ty126:TyI:=⟨.struct [(119,0),(124,2)],.agg #[.string ⟨#[]⟩,.slice none 0 0,.int .i64 0,.int .i64 0,.slice none 0 0,.int .i64 0,.string ⟨#[]⟩,.slice none 0 0,.slice none 0 0],9,152, #[(0,2),(2,7)]⟩
theorem aDB:ty126.ok Tryz.prog 126:=⟨_,TI.of Tryz.underlying126 (by kernel_rfl),⟨_,rfl,by kernel_rfl,fun w=>by kernel_rfl⟩⟩
def ty154:TyI:=⟨.slice 5,.slice none 0 0,1,24, #[]⟩
theorem aDA:ty154.ok Tryz.prog 154:=⟨_,TI.of Tryz.underlying154 (by kernel_rfl),rfl⟩
def ty157:TyI:=⟨.struct [(117,0),(117,1)],.agg #[.slice none 0 0,.slice none 0 0],2,48, #[(0,1),(1,1)]⟩
theorem aDz:ty157.ok Tryz.prog 157:=⟨_,TI.of Tryz.underlying157 (by kernel_rfl),⟨_,rfl,by kernel_rfl,fun w=>by kernel_rfl⟩⟩
def ty170:TyI:=⟨.slice 176,.slice none 0 0,1,24, #[]⟩
theorem aDy:ty170.ok Tryz.prog 170:=⟨_,TI.of Tryz.underlying170 (by kernel_rfl),rfl⟩
def ty172:TyI:=⟨.struct [(170,0),(170,1)],.agg #[.slice none 0 0,.slice none 0 0],2,48, #[(0,1),(1,1)]⟩
theorem aDx:ty172.ok Tryz.prog 172:=⟨_,TI.of Tryz.underlying172 (by kernel_rfl),⟨_,rfl,by kernel_rfl,fun w=>by kernel_rfl⟩⟩
def ty175:TyI:=⟨.struct [(9,0),(170,1)],.agg #[.string ⟨#[]⟩,.slice none 0 0],2,40, #[(0,1),(1,1)]⟩
theorem aDw:ty175.ok Tryz.prog 175:=⟨_,TI.of Tryz.underlying175 (by kernel_rfl),⟨_,rfl,by kernel_rfl,fun w=>by kernel_rfl⟩⟩
def ty176:TyI:=⟨.struct [(40,0),(3,1)],.agg #[.slice none 0 0,.int .i64 0],2,32, #[(0,1),(1,1)]⟩
theorem aDv:ty176.ok Tryz.prog 176:=⟨_,TI.of Tryz.underlying176 (by kernel_rfl),⟨_,rfl,by kernel_rfl,fun w=>by kernel_rfl⟩⟩
def ty177:TyI:=⟨.slice 179,.slice none 0 0,1,24, #[]⟩
theorem aDu:ty177.ok Tryz.prog 177:=⟨_,TI.of Tryz.underlying177 (by kernel_rfl),rfl⟩
def ty179:TyI:=⟨.struct [(3,0),(3,1),(176,2),(175,4),(177,6)],.agg #[.int .i64 0,.int .i64 0,.slice none 0 0,.int .i64 0,.string ⟨#[]⟩,.slice none 0 0,.slice none 0 0],7,112, #[(0,1),(1,1),(2,2),(4,2),(6,1)]⟩
theorem aDt:ty179.ok Tryz.prog 179:=⟨_,TI.of Tryz.underlying179 (by kernel_rfl),⟨_,rfl,by kernel_rfl,fun w=>by kernel_rfl⟩⟩
def ty181:TyI:=⟨.struct [(175,0),(179,2)],.agg #[.string ⟨#[]⟩,.slice none 0 0,.int .i64 0,.int .i64 0,.slice none 0 0,.int .i64 0,.string ⟨#[]⟩,.slice none 0 0,.slice none 0 0],9,152, #[(0,2),(2,7)]⟩
theorem aDs:ty181.ok Tryz.prog 181:=⟨_,TI.of Tryz.underlying181 (by kernel_rfl),⟨_,rfl,by kernel_rfl,fun w=>by kernel_rfl⟩⟩
def ty186:TyI:=⟨.slice 119,.slice none 0 0,1,24, #[]⟩
theorem aDr:ty186.ok Tryz.prog 186:=⟨_,TI.of Tryz.underlying186 (by kernel_rfl),rfl⟩
def ty194:TyI:=⟨.struct [(66,0),(3,1),(107,2)],.agg #[.slice none 0 0,.int .i64 0,.slice none 0 0],3,56, #[(0,1),(1,1),(2,1)]⟩
theorem aDq:ty194.ok Tryz.prog 194:=⟨_,TI.of Tryz.underlying194 (by kernel_rfl),⟨_,rfl,by kernel_rfl,fun w=>by kernel_rfl⟩⟩
def tyL:List (Nat×TyI):=[(3,ty3),(4,ty4),(5,ty5),(9,ty9),(22,ty22),(23,ty23),(25,ty25),(28,ty28),(29,ty29),(31,ty31),(40,ty40),(50,ty50),(53,ty53),(66,ty66),(67,ty67),(69,ty69),(76,ty76),(84,ty84),(86,ty86),(87,ty87),(89,ty89),(98,ty98),(107,ty107),(117,ty117),(119,ty119),(121,ty121),(122,ty122),(124,ty124),(126,ty126),(154,ty154),(157,ty157),(170,ty170),(172,ty172),(175,ty175),(176,ty176),(177,ty177),(179,ty179),(181,ty181),(186,ty186),(194,ty194)]
theorem aQ:TyOK Tryz.prog tyL:= .cons aHl (.cons aHk (.cons aHj (.cons aHi (.cons aFQ (.cons aFP (.cons aFO (.cons aFN (.cons aFM (.cons aFL (.cons aFK (.cons aFJ (.cons aFI (.cons aFH (.cons aFG (.cons aFF (.cons aFE (.cons aFD (.cons aFC (.cons aFB (.cons aFA (.cons aFz (.cons aDH (.cons aDG (.cons aDF (.cons aDE (.cons aDD (.cons aDC (.cons aDB (.cons aDA (.cons aDz (.cons aDy (.cons aDx (.cons aDw (.cons aDv (.cons aDu (.cons aDt (.cons aDs (.cons aDr (.cons aDq (.nil))))))))))))))))))))))))))))))))))))))))
theorem cG:Tryz.prog.follows .mixedOrders=true:=by kernel_rfl
end Go.Lift
