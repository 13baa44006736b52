/- The types of the program, as the evaluator knows them. -/
import Derived.Test.YtlbojjldejlgaaaGreatHTypes
import Derived.Test.YtlbojjldejlgaaaGreatChecked
set_option maxRecDepth 10000
namespace Go.Lift
open Go Go.Proofs
structure GS where
 g:Glob
 clone: ∀(l:List Int) {r:List Int},m_ownClone l=some r→VCC Tryz.prog g 97 [] [vM rI l] (ms 0 1 1 rI r) [ar 3 1 1 rI r]
 contains: ∀(s t:List UInt8) (r:Bool),m_contains s t=some r→PCC Tryz.prog g 235 [vS s,vS t] (vB r)
def ty3:TyI:=⟨.int .i64,.int .i64 0,1,8, #[]⟩
theorem aKB:ty3.ok Tryz.prog 3:=⟨_,TI.of Tryz.underlying3 (by kernel_rfl),rfl⟩
def ty4:TyI:=⟨.bool,.bool false,1,1, #[]⟩
theorem aKA:ty4.ok Tryz.prog 4:=⟨_,TI.of Tryz.underlying4 (by kernel_rfl),rfl⟩
def ty5:TyI:=⟨.int .u8,.int .u8 0,1,1, #[]⟩
theorem aKz:ty5.ok Tryz.prog 5:=⟨_,TI.of Tryz.underlying5 (by kernel_rfl),rfl⟩
def ty9:TyI:=⟨.string,.string ⟨#[]⟩,1,16, #[]⟩
theorem aKy:ty9.ok Tryz.prog 9:=⟨_,TI.of Tryz.underlying9 (by kernel_rfl),rfl⟩
def ty22:TyI:=⟨.slice 89,.slice none 0 0,1,24, #[]⟩
theorem aIS:ty22.ok Tryz.prog 22:=⟨_,TI.of Tryz.underlying22 (by kernel_rfl),rfl⟩
def ty23:TyI:=⟨.slice 94,.slice none 0 0,1,24, #[]⟩
theorem aIR:ty23.ok Tryz.prog 23:=⟨_,TI.of Tryz.underlying23 (by kernel_rfl),rfl⟩
def ty25:TyI:=⟨.struct [(22,0),(23,1)],.agg #[.slice none 0 0,.slice none 0 0],2,48, #[(0,1),(1,1)]⟩
theorem aIQ:ty25.ok Tryz.prog 25:=⟨_,TI.of Tryz.underlying25 (by kernel_rfl),⟨_,rfl,by kernel_rfl,fun w=>by kernel_rfl⟩⟩
def ty27:TyI:=⟨.slice 98,.slice none 0 0,1,24, #[]⟩
theorem aIP:ty27.ok Tryz.prog 27:=⟨_,TI.of Tryz.underlying27 (by kernel_rfl),rfl⟩
def ty28:TyI:=⟨.slice 54,.slice none 0 0,1,24, #[]⟩
theorem aIO:ty28.ok Tryz.prog 28:=⟨_,TI.of Tryz.underlying28 (by kernel_rfl),rfl⟩
def ty30:TyI:=⟨.struct [(27,0),(28,1)],.agg #[.slice none 0 0,.slice none 0 0],2,48, #[(0,1),(1,1)]⟩
theorem aIN:ty30.ok Tryz.prog 30:=⟨_,TI.of Tryz.underlying30 (by kernel_rfl),⟨_,rfl,by kernel_rfl,fun w=>by kernel_rfl⟩⟩
def ty44:TyI:=⟨.slice 3,.slice none 0 0,1,24, #[]⟩
theorem aIM:ty44.ok Tryz.prog 44:=⟨_,TI.of Tryz.underlying44 (by kernel_rfl),rfl⟩
def ty46:TyI:=⟨.struct [(44,0),(3,1)],.agg #[.slice none 0 0,.int .i64 0],2,32, #[(0,1),(1,1)]⟩
theorem aIL:ty46.ok Tryz.prog 46:=⟨_,TI.of Tryz.underlying46 (by kernel_rfl),⟨_,rfl,by kernel_rfl,fun w=>by kernel_rfl⟩⟩
def ty51:TyI:=⟨.slice 64,.slice none 0 0,1,24, #[]⟩
theorem aIK:ty51.ok Tryz.prog 51:=⟨_,TI.of Tryz.underlying51 (by kernel_rfl),rfl⟩
def ty52:TyI:=⟨.slice 110,.slice none 0 0,1,24, #[]⟩
theorem aIJ:ty52.ok Tryz.prog 52:=⟨_,TI.of Tryz.underlying52 (by kernel_rfl),rfl⟩
def ty54:TyI:=⟨.struct [(51,0),(52,1)],.agg #[.slice none 0 0,.slice none 0 0],2,48, #[(0,1),(1,1)]⟩
theorem aII:ty54.ok Tryz.prog 54:=⟨_,TI.of Tryz.underlying54 (by kernel_rfl),⟨_,rfl,by kernel_rfl,fun w=>by kernel_rfl⟩⟩
def ty62:TyI:=⟨.slice 46,.slice none 0 0,1,24, #[]⟩
theorem aIH:ty62.ok Tryz.prog 62:=⟨_,TI.of Tryz.underlying62 (by kernel_rfl),rfl⟩
def ty64:TyI:=⟨.struct [(62,0),(62,1)],.agg #[.slice none 0 0,.slice none 0 0],2,48, #[(0,1),(1,1)]⟩
theorem aIG:ty64.ok Tryz.prog 64:=⟨_,TI.of Tryz.underlying64 (by kernel_rfl),⟨_,rfl,by kernel_rfl,fun w=>by kernel_rfl⟩⟩
def ty82:TyI:=⟨.slice 44,.slice none 0 0,1,24, #[]⟩
theorem aIF:ty82.ok Tryz.prog 82:=⟨_,TI.of Tryz.underlying82 (by kernel_rfl),rfl⟩
def ty89:TyI:=⟨.struct [(9,0),(44,1)],.agg #[.string ⟨#[]⟩,.slice none 0 0],2,40, #[(0,1),(1,1)]⟩
theorem aIE:ty89.ok Tryz.prog 89:=⟨_,TI.of Tryz.underlying89 (by kernel_rfl),⟨_,rfl,by kernel_rfl,fun w=>by kernel_rfl⟩⟩
def ty91:TyI:=⟨.slice 178,.slice none 0 0,1,24, #[]⟩
theorem aID:ty91.ok Tryz.prog 91:=⟨_,TI.of Tryz.underlying91 (by kernel_rfl),rfl⟩
def ty92:TyI:=⟨.slice 187,.slice none 0 0,1,24, #[]⟩
theorem aIC:ty92.ok Tryz.prog 92:=⟨_,TI.of Tryz.underlying92 (by kernel_rfl),rfl⟩
def ty94:TyI:=⟨.struct [(91,0),(92,1)],.agg #[.slice none 0 0,.slice none 0 0],2,48, #[(0,1),(1,1)]⟩
theorem aIB:ty94.ok Tryz.prog 94:=⟨_,TI.of Tryz.underlying94 (by kernel_rfl),⟨_,rfl,by kernel_rfl,fun w=>by kernel_rfl⟩⟩
def ty98:TyI:=⟨.struct [(9,0),(44,1)],.agg #[.string ⟨#[]⟩,.slice none 0 0],2,40, #[(0,1),(1,1)]⟩
theorem aIA:ty98.ok Tryz.prog 98:=⟨_,TI.of Tryz.underlying98 (by kernel_rfl),⟨_,rfl,by kernel_rfl,fun w=>by kernel_rfl⟩⟩
def ty103:TyI:=⟨.slice 62,.slice none 0 0,1,24, #[]⟩
theorem aGz:ty103.ok Tryz.prog 103:=⟨_,TI.of Tryz.underlying103 (by kernel_rfl),rfl⟩
def ty105:TyI:=⟨.struct [(9,0),(62,1)],.agg #[.string ⟨#[]⟩,.slice none 0 0],2,40, #[(0,1),(1,1)]⟩
theorem aGy:ty105.ok Tryz.prog 105:=⟨_,TI.of Tryz.underlying105 (by kernel_rfl),⟨_,rfl,by kernel_rfl,fun w=>by kernel_rfl⟩⟩
def ty106:TyI:=⟨.slice 108,.slice none 0 0,1,24, #[]⟩
theorem aGx:ty106.ok Tryz.prog 106:=⟨_,TI.of Tryz.underlying106 (by kernel_rfl),rfl⟩
def ty108:TyI:=⟨.struct [(3,0),(3,1),(46,2),(105,4),(106,6)],.agg #[.int .i64 0,.int .i64 0,.slice none 0 0,.int .i64 0,.string ⟨#[]⟩,.slice none 0 0,.slice none 0 0],7,112, #[(0,1),(1,1),(2,2),(4,2),(6,1)]⟩
theorem aGw:ty108.ok Tryz.prog 108:=⟨_,TI.of Tryz.underlying108 (by kernel_rfl),⟨_,rfl,by kernel_rfl,fun w=>by kernel_rfl⟩⟩
def ty110:TyI:=⟨.struct [(105,0),(108,2)],.agg #[.string ⟨#[]⟩,.slice none 0 0,.int .i64 0,.int .i64 0,.slice none 0 0,.int .i64 0,.string ⟨#[]⟩,.slice none 0 0,.slice none 0 0],9,152, #[(0,2),(2,7)]⟩
theorem aGv:ty110.ok Tryz.prog 110:=⟨_,TI.of Tryz.underlying110 (by kernel_rfl),⟨_,rfl,by kernel_rfl,fun w=>by kernel_rfl⟩⟩
def ty125:TyI:=⟨.slice 130,.slice none 0 0,1,24, #[]⟩
theorem aGu:ty125.ok Tryz.prog 125:=⟨_,TI.of Tryz.underlying125 (by kernel_rfl),rfl⟩
def ty130:TyI:=⟨.struct [(3,0),(3,1),(44,2)],.agg #[.int .i64 0,.int .i64 0,.slice none 0 0],3,40, #[(0,1),(1,1),(2,1)]⟩
theorem aGt:ty130.ok Tryz.prog 130:=⟨_,TI.of Tryz.underlying130 (by kernel_rfl),⟨_,rfl,by kernel_rfl,fun w=>by kernel_rfl⟩⟩
def ty155:TyI:=⟨.slice 5,.slice none 0 0,1,24, #[]⟩
theorem aGs:ty155.ok Tryz.prog 155:=⟨_,TI.of Tryz.underlying155 (by kernel_rfl),rfl⟩
def ty176:TyI:=⟨.slice 182,.slice none 0 0,1,24, #[]⟩
theorem aGr:ty176.ok Tryz.prog 176:=⟨_,TI.of Tryz.underlying176 (by kernel_rfl),rfl⟩
def ty178:TyI:=⟨.struct [(176,0),(176,1)],.agg #[.slice none 0 0,.slice none 0 0],2,48, #[(0,1),(1,1)]⟩
theorem aGq:ty178.ok Tryz.prog 178:=⟨_,TI.of Tryz.underlying178 (by kernel_rfl),⟨_,rfl,by kernel_rfl,fun w=>by kernel_rfl⟩⟩
def ty181:TyI:=⟨.struct [(9,0),(176,1)],.agg #[.string ⟨#[]⟩,.slice none 0 0],2,40, #[(0,1),(1,1)]⟩
theorem aGp:ty181.ok Tryz.prog 181:=⟨_,TI.of Tryz.underlying181 (by kernel_rfl),⟨_,rfl,by kernel_rfl,fun w=>by kernel_rfl⟩⟩
def ty182:TyI:=⟨.struct [(44,0),(3,1)],.agg #[.slice none 0 0,.int .i64 0],2,32, #[(0,1),(1,1)]⟩
theorem aGo:ty182.ok Tryz.prog 182:=⟨_,TI.of Tryz.underlying182 (by kernel_rfl),⟨_,rfl,by kernel_rfl,fun w=>by kernel_rfl⟩⟩
def ty183:TyI:=⟨.slice 185,.slice none 0 0,1,24, #[]⟩
theorem aGn:ty183.ok Tryz.prog 183:=⟨_,TI.of Tryz.underlying183 (by kernel_rfl),rfl⟩
def ty185:TyI:=⟨.struct [(3,0),(3,1),(182,2),(181,4),(183,6)],.agg #[.int .i64 0,.int .i64 0,.slice none 0 0,.int .i64 0,.string ⟨#[]⟩,.slice none 0 0,.slice none 0 0],7,112, #[(0,1),(1,1),(2,2),(4,2),(6,1)]⟩
theorem aGm:ty185.ok Tryz.prog 185:=⟨_,TI.of Tryz.underlying185 (by kernel_rfl),⟨_,rfl,by kernel_rfl,fun w=>by kernel_rfl⟩⟩
def ty187:TyI:=⟨.struct [(181,0),(185,2)],.agg #[.string ⟨#[]⟩,.slice none 0 0,.int .i64 0,.int .i64 0,.slice none 0 0,.int .i64 0,.string ⟨#[]⟩,.slice none 0 0,.slice none 0 0],9,152, #[(0,2),(2,7)]⟩
theorem aGl:ty187.ok Tryz.prog 187:=⟨_,TI.of Tryz.underlying187 (by kernel_rfl),⟨_,rfl,by kernel_rfl,fun w=>by kernel_rfl⟩⟩
def ty225:TyI:=⟨.slice 105,.slice none 0 0,1,24, #[]⟩
theorem aGk:ty225.ok Tryz.prog 225:=⟨_,TI.of Tryz.underlying225 (by kernel_rfl),rfl⟩
def ty235:TyI:=⟨.struct [(51,0),(3,1),(82,2)],.agg #[.slice none 0 0,.int .i64 0,.slice none 0 0],3,56, #[(0,1),(1,1),(2,1)]⟩
theorem aGj:ty235.ok Tryz.prog 235:=⟨_,TI.of Tryz.underlying235 (by kernel_rfl),⟨_,rfl,by kernel_rfl,fun w=>by kernel_rfl⟩⟩
def tyL:List (Nat×TyI):=[(3,ty3),(4,ty4),(5,ty5),(9,ty9),(22,ty22),(23,ty23),(25,ty25),(27,ty27),(28,ty28),(30,ty30),(44,ty44),(46,ty46),(51,ty51),(52,ty52),(54,ty54),(62,ty62),(64,ty64),(82,ty82),(89,ty89),(91,ty91),(92,ty92),(94,ty94),(98,ty98),(103,ty103),(105,ty105),(106,ty106),(108,ty108),(110,ty110),(125,ty125),(130,ty130),(155,ty155),(176,ty176),(178,ty178),(181,ty181),(182,ty182),(183,ty183),(185,ty185),(187,ty187),(225,ty225),(235,ty235)]
theorem aO:TyOK Tryz.prog tyL:= .cons aKB (.cons aKA (.cons aKz (.cons aKy (.cons aIS (.cons aIR (.cons aIQ (.cons aIP (.cons aIO (.cons aIN (.cons aIM (.cons aIL (.cons aIK (.cons aIJ (.cons aII (.cons aIH (.cons aIG (.cons aIF (.cons aIE (.cons aID (.cons aIC (.cons aIB (.cons aIA (.cons aGz (.cons aGy (.cons aGx (.cons aGw (.cons aGv (.cons aGu (.cons aGt (.cons aGs (.cons aGr (.cons aGq (.cons aGp (.cons aGo (.cons aGn (.cons aGm (.cons aGl (.cons aGk (.cons aGj (.nil))))))))))))))))))))))))))))))))))))))))
def uP:List Nd:=[⟨64,2,[(0,1),(1,1)]⟩,⟨46,2,[]⟩,⟨54,2,[(1,3)]⟩,⟨110,9,[]⟩]
theorem bL:Tryz.prog.follows .mixedOrders=true:=by kernel_rfl
def d9:List Nd:=[⟨54,2,[(0,1),(1,2)]⟩,⟨64,2,[(0,3),(1,3)]⟩,⟨110,9,[]⟩,⟨46,2,[]⟩,⟨62,1,[(0,3)]⟩]
end Go.Lift
