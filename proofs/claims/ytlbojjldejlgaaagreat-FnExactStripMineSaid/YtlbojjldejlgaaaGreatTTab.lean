/- The types of the program, as the evaluator knows them. -/
import Derived.Test.YtlbojjldejlgaaaGreatTTypes
import Derived.Test.YtlbojjldejlgaaaGreatTLiftIns
import Derived.Test.YtlbojjldejlgaaaGreatChecked
set_option maxRecDepth 10000
namespace Go.Lift
open Go Go.Proofs
structure GS where
 g:Glob
 clone: ∀(l:List Int) {r:List Int},m_ownClone l=some r→VCC Tryz.prog g 97 [] [vM rI l] (ms 0 1 1 rI r) [ar 3 1 1 rI r]
 contains: ∀(s t:List UInt8) (r:Bool),m_contains s t=some r→PCC Tryz.prog g 235 [vS s,vS t] (vB r)
def ty3:TyI:=⟨.int .i64,.int .i64 0,1,8, #[]⟩
theorem aLr:ty3.ok Tryz.prog 3:=⟨_,TI.of Tryz.underlying3 (by kernel_rfl),rfl⟩
def ty4:TyI:=⟨.bool,.bool false,1,1, #[]⟩
theorem aLq:ty4.ok Tryz.prog 4:=⟨_,TI.of Tryz.underlying4 (by kernel_rfl),rfl⟩
def ty5:TyI:=⟨.int .u8,.int .u8 0,1,1, #[]⟩
theorem aLp:ty5.ok Tryz.prog 5:=⟨_,TI.of Tryz.underlying5 (by kernel_rfl),rfl⟩
def ty9:TyI:=⟨.string,.string ⟨#[]⟩,1,16, #[]⟩
theorem aLo:ty9.ok Tryz.prog 9:=⟨_,TI.of Tryz.underlying9 (by kernel_rfl),rfl⟩
def ty22:TyI:=⟨.slice 89,.slice none 0 0,1,24, #[]⟩
theorem aJF:ty22.ok Tryz.prog 22:=⟨_,TI.of Tryz.underlying22 (by kernel_rfl),rfl⟩
def ty23:TyI:=⟨.slice 94,.slice none 0 0,1,24, #[]⟩
theorem aJE:ty23.ok Tryz.prog 23:=⟨_,TI.of Tryz.underlying23 (by kernel_rfl),rfl⟩
def ty25:TyI:=⟨.struct [(22,0),(23,1)],.agg #[.slice none 0 0,.slice none 0 0],2,48, #[(0,1),(1,1)]⟩
theorem aJD:ty25.ok Tryz.prog 25:=⟨_,TI.of Tryz.underlying25 (by kernel_rfl),⟨_,rfl,by kernel_rfl,fun w=>by kernel_rfl⟩⟩
def ty27:TyI:=⟨.slice 98,.slice none 0 0,1,24, #[]⟩
theorem aJC:ty27.ok Tryz.prog 27:=⟨_,TI.of Tryz.underlying27 (by kernel_rfl),rfl⟩
def ty28:TyI:=⟨.slice 54,.slice none 0 0,1,24, #[]⟩
theorem aJB:ty28.ok Tryz.prog 28:=⟨_,TI.of Tryz.underlying28 (by kernel_rfl),rfl⟩
def ty30:TyI:=⟨.struct [(27,0),(28,1)],.agg #[.slice none 0 0,.slice none 0 0],2,48, #[(0,1),(1,1)]⟩
theorem aJA:ty30.ok Tryz.prog 30:=⟨_,TI.of Tryz.underlying30 (by kernel_rfl),⟨_,rfl,by kernel_rfl,fun w=>by kernel_rfl⟩⟩
def ty44:TyI:=⟨.slice 3,.slice none 0 0,1,24, #[]⟩
theorem aJz:ty44.ok Tryz.prog 44:=⟨_,TI.of Tryz.underlying44 (by kernel_rfl),rfl⟩
def ty46:TyI:=⟨.struct [(44,0),(3,1)],.agg #[.slice none 0 0,.int .i64 0],2,32, #[(0,1),(1,1)]⟩
theorem aJy:ty46.ok Tryz.prog 46:=⟨_,TI.of Tryz.underlying46 (by kernel_rfl),⟨_,rfl,by kernel_rfl,fun w=>by kernel_rfl⟩⟩
def ty51:TyI:=⟨.slice 64,.slice none 0 0,1,24, #[]⟩
theorem aJx:ty51.ok Tryz.prog 51:=⟨_,TI.of Tryz.underlying51 (by kernel_rfl),rfl⟩
def ty52:TyI:=⟨.slice 110,.slice none 0 0,1,24, #[]⟩
theorem aJw:ty52.ok Tryz.prog 52:=⟨_,TI.of Tryz.underlying52 (by kernel_rfl),rfl⟩
def ty54:TyI:=⟨.struct [(51,0),(52,1)],.agg #[.slice none 0 0,.slice none 0 0],2,48, #[(0,1),(1,1)]⟩
theorem aJv:ty54.ok Tryz.prog 54:=⟨_,TI.of Tryz.underlying54 (by kernel_rfl),⟨_,rfl,by kernel_rfl,fun w=>by kernel_rfl⟩⟩
def ty62:TyI:=⟨.slice 46,.slice none 0 0,1,24, #[]⟩
theorem aJu:ty62.ok Tryz.prog 62:=⟨_,TI.of Tryz.underlying62 (by kernel_rfl),rfl⟩
def ty64:TyI:=⟨.struct [(62,0),(62,1)],.agg #[.slice none 0 0,.slice none 0 0],2,48, #[(0,1),(1,1)]⟩
theorem aJt:ty64.ok Tryz.prog 64:=⟨_,TI.of Tryz.underlying64 (by kernel_rfl),⟨_,rfl,by kernel_rfl,fun w=>by kernel_rfl⟩⟩
def ty82:TyI:=⟨.slice 44,.slice none 0 0,1,24, #[]⟩
theorem aJs:ty82.ok Tryz.prog 82:=⟨_,TI.of Tryz.underlying82 (by kernel_rfl),rfl⟩
def ty89:TyI:=⟨.struct [(9,0),(44,1)],.agg #[.string ⟨#[]⟩,.slice none 0 0],2,40, #[(0,1),(1,1)]⟩
theorem aJr:ty89.ok Tryz.prog 89:=⟨_,TI.of Tryz.underlying89 (by kernel_rfl),⟨_,rfl,by kernel_rfl,fun w=>by kernel_rfl⟩⟩
def ty91:TyI:=⟨.slice 178,.slice none 0 0,1,24, #[]⟩
theorem aJq:ty91.ok Tryz.prog 91:=⟨_,TI.of Tryz.underlying91 (by kernel_rfl),rfl⟩
def ty92:TyI:=⟨.slice 187,.slice none 0 0,1,24, #[]⟩
theorem aJp:ty92.ok Tryz.prog 92:=⟨_,TI.of Tryz.underlying92 (by kernel_rfl),rfl⟩
def ty94:TyI:=⟨.struct [(91,0),(92,1)],.agg #[.slice none 0 0,.slice none 0 0],2,48, #[(0,1),(1,1)]⟩
theorem aJo:ty94.ok Tryz.prog 94:=⟨_,TI.of Tryz.underlying94 (by kernel_rfl),⟨_,rfl,by kernel_rfl,fun w=>by kernel_rfl⟩⟩
def ty98:TyI:=⟨.struct [(9,0),(44,1)],.agg #[.string ⟨#[]⟩,.slice none 0 0],2,40, #[(0,1),(1,1)]⟩
theorem aJn:ty98.ok Tryz.prog 98:=⟨_,TI.of Tryz.underlying98 (by kernel_rfl),⟨_,rfl,by kernel_rfl,fun w=>by kernel_rfl⟩⟩
def ty103:TyI:=⟨.slice 62,.slice none 0 0,1,24, #[]⟩
theorem aHe:ty103.ok Tryz.prog 103:=⟨_,TI.of Tryz.underlying103 (by kernel_rfl),rfl⟩
def ty105:TyI:=⟨.struct [(9,0),(62,1)],.agg #[.string ⟨#[]⟩,.slice none 0 0],2,40, #[(0,1),(1,1)]⟩
theorem aHd:ty105.ok Tryz.prog 105:=⟨_,TI.of Tryz.underlying105 (by kernel_rfl),⟨_,rfl,by kernel_rfl,fun w=>by kernel_rfl⟩⟩
def ty106:TyI:=⟨.slice 108,.slice none 0 0,1,24, #[]⟩
theorem aHc:ty106.ok Tryz.prog 106:=⟨_,TI.of Tryz.underlying106 (by kernel_rfl),rfl⟩
def ty108:TyI:=⟨.struct [(3,0),(3,1),(46,2),(105,4),(106,6)],.agg #[.int .i64 0,.int .i64 0,.slice none 0 0,.int .i64 0,.string ⟨#[]⟩,.slice none 0 0,.slice none 0 0],7,112, #[(0,1),(1,1),(2,2),(4,2),(6,1)]⟩
theorem aHb:ty108.ok Tryz.prog 108:=⟨_,TI.of Tryz.underlying108 (by kernel_rfl),⟨_,rfl,by kernel_rfl,fun w=>by kernel_rfl⟩⟩
def ty110:TyI:=⟨.struct [(105,0),(108,2)],.agg #[.string ⟨#[]⟩,.slice none 0 0,.int .i64 0,.int .i64 0,.slice none 0 0,.int .i64 0,.string ⟨#[]⟩,.slice none 0 0,.slice none 0 0],9,152, #[(0,2),(2,7)]⟩
theorem aHa:ty110.ok Tryz.prog 110:=⟨_,TI.of Tryz.underlying110 (by kernel_rfl),⟨_,rfl,by kernel_rfl,fun w=>by kernel_rfl⟩⟩
def ty125:TyI:=⟨.slice 130,.slice none 0 0,1,24, #[]⟩
theorem aG9:ty125.ok Tryz.prog 125:=⟨_,TI.of Tryz.underlying125 (by kernel_rfl),rfl⟩
def ty130:TyI:=⟨.struct [(3,0),(3,1),(44,2)],.agg #[.int .i64 0,.int .i64 0,.slice none 0 0],3,40, #[(0,1),(1,1),(2,1)]⟩
theorem aG8:ty130.ok Tryz.prog 130:=⟨_,TI.of Tryz.underlying130 (by kernel_rfl),⟨_,rfl,by kernel_rfl,fun w=>by kernel_rfl⟩⟩
def ty155:TyI:=⟨.slice 5,.slice none 0 0,1,24, #[]⟩
theorem aG7:ty155.ok Tryz.prog 155:=⟨_,TI.of Tryz.underlying155 (by kernel_rfl),rfl⟩
def ty176:TyI:=⟨.slice 182,.slice none 0 0,1,24, #[]⟩
theorem aG6:ty176.ok Tryz.prog 176:=⟨_,TI.of Tryz.underlying176 (by kernel_rfl),rfl⟩
def ty178:TyI:=⟨.struct [(176,0),(176,1)],.agg #[.slice none 0 0,.slice none 0 0],2,48, #[(0,1),(1,1)]⟩
theorem aG5:ty178.ok Tryz.prog 178:=⟨_,TI.of Tryz.underlying178 (by kernel_rfl),⟨_,rfl,by kernel_rfl,fun w=>by kernel_rfl⟩⟩
def ty181:TyI:=⟨.struct [(9,0),(176,1)],.agg #[.string ⟨#[]⟩,.slice none 0 0],2,40, #[(0,1),(1,1)]⟩
theorem aG4:ty181.ok Tryz.prog 181:=⟨_,TI.of Tryz.underlying181 (by kernel_rfl),⟨_,rfl,by kernel_rfl,fun w=>by kernel_rfl⟩⟩
def ty182:TyI:=⟨.struct [(44,0),(3,1)],.agg #[.slice none 0 0,.int .i64 0],2,32, #[(0,1),(1,1)]⟩
theorem aG3:ty182.ok Tryz.prog 182:=⟨_,TI.of Tryz.underlying182 (by kernel_rfl),⟨_,rfl,by kernel_rfl,fun w=>by kernel_rfl⟩⟩
def ty183:TyI:=⟨.slice 185,.slice none 0 0,1,24, #[]⟩
theorem aG2:ty183.ok Tryz.prog 183:=⟨_,TI.of Tryz.underlying183 (by kernel_rfl),rfl⟩
def ty185:TyI:=⟨.struct [(3,0),(3,1),(182,2),(181,4),(183,6)],.agg #[.int .i64 0,.int .i64 0,.slice none 0 0,.int .i64 0,.string ⟨#[]⟩,.slice none 0 0,.slice none 0 0],7,112, #[(0,1),(1,1),(2,2),(4,2),(6,1)]⟩
theorem aG1:ty185.ok Tryz.prog 185:=⟨_,TI.of Tryz.underlying185 (by kernel_rfl),⟨_,rfl,by kernel_rfl,fun w=>by kernel_rfl⟩⟩
def ty187:TyI:=⟨.struct [(181,0),(185,2)],.agg #[.string ⟨#[]⟩,.slice none 0 0,.int .i64 0,.int .i64 0,.slice none 0 0,.int .i64 0,.string ⟨#[]⟩,.slice none 0 0,.slice none 0 0],9,152, #[(0,2),(2,7)]⟩
theorem aG0:ty187.ok Tryz.prog 187:=⟨_,TI.of Tryz.underlying187 (by kernel_rfl),⟨_,rfl,by kernel_rfl,fun w=>by kernel_rfl⟩⟩
def ty225:TyI:=⟨.slice 105,.slice none 0 0,1,24, #[]⟩
theorem aGZ:ty225.ok Tryz.prog 225:=⟨_,TI.of Tryz.underlying225 (by kernel_rfl),rfl⟩
def ty235:TyI:=⟨.struct [(51,0),(3,1),(82,2)],.agg #[.slice none 0 0,.int .i64 0,.slice none 0 0],3,56, #[(0,1),(1,1),(2,1)]⟩
theorem aGY:ty235.ok Tryz.prog 235:=⟨_,TI.of Tryz.underlying235 (by kernel_rfl),⟨_,rfl,by kernel_rfl,fun w=>by kernel_rfl⟩⟩
def tyL:List (Nat×TyI):=[(3,ty3),(4,ty4),(5,ty5),(9,ty9),(22,ty22),(23,ty23),(25,ty25),(27,ty27),(28,ty28),(30,ty30),(44,ty44),(46,ty46),(51,ty51),(52,ty52),(54,ty54),(62,ty62),(64,ty64),(82,ty82),(89,ty89),(91,ty91),(92,ty92),(94,ty94),(98,ty98),(103,ty103),(105,ty105),(106,ty106),(108,ty108),(110,ty110),(125,ty125),(130,ty130),(155,ty155),(176,ty176),(178,ty178),(181,ty181),(182,ty182),(183,ty183),(185,ty185),(187,ty187),(225,ty225),(235,ty235)]
theorem aN:TyOK Tryz.prog tyL:= .cons aLr (.cons aLq (.cons aLp (.cons aLo (.cons aJF (.cons aJE (.cons aJD (.cons aJC (.cons aJB (.cons aJA (.cons aJz (.cons aJy (.cons aJx (.cons aJw (.cons aJv (.cons aJu (.cons aJt (.cons aJs (.cons aJr (.cons aJq (.cons aJp (.cons aJo (.cons aJn (.cons aHe (.cons aHd (.cons aHc (.cons aHb (.cons aHa (.cons aG9 (.cons aG8 (.cons aG7 (.cons aG6 (.cons aG5 (.cons aG4 (.cons aG3 (.cons aG2 (.cons aG1 (.cons aG0 (.cons aGZ (.cons aGY (.nil))))))))))))))))))))))))))))))))))))))))
def v6:List Nd:=[⟨64,2,[(0,1),(1,1)]⟩,⟨46,2,[]⟩,⟨54,2,[(1,3)]⟩,⟨110,9,[]⟩]
theorem bJ:Tryz.prog.follows .mixedOrders=true:=by kernel_rfl
def fH:List Nd:=[⟨54,2,[(0,1),(1,2)]⟩,⟨64,2,[(0,3),(1,3)]⟩,⟨110,9,[]⟩,⟨46,2,[]⟩,⟨62,1,[(0,3)]⟩]
end Go.Lift
