/- The types of the program, as the evaluator knows them. -/
import Derived.Test.YtdcjmccimcppbaaGreatETypes
import Derived.Test.YtdcjmccimcppbaaGreatELiftIns
import Derived.Test.YtdcjmccimcppbaaGreatChecked
set_option maxRecDepth 10000
namespace Go.Lift
open Go Go.Proofs
structure GS where
 g:Glob
 clone: ∀(l:List Int) {r:List Int},m_ownClone l=some r→VCC Tryz.prog g 148 [] [vM rI l] (ms 0 1 1 rI r) [ar 3 1 1 rI r]
 contains: ∀(s t:List UInt8) (r:Bool),m_contains s t=some r→PCC Tryz.prog g 308 [vS s,vS t] (vB r)
def ty3:TyI:=⟨.int .i64,.int .i64 0,1,8, #[]⟩
theorem aJv:ty3.ok Tryz.prog 3:=⟨_,TI.of Tryz.underlying3 (by kernel_rfl),rfl⟩
def ty4:TyI:=⟨.bool,.bool false,1,1, #[]⟩
theorem aJu:ty4.ok Tryz.prog 4:=⟨_,TI.of Tryz.underlying4 (by kernel_rfl),rfl⟩
def ty5:TyI:=⟨.int .u8,.int .u8 0,1,1, #[]⟩
theorem aJt:ty5.ok Tryz.prog 5:=⟨_,TI.of Tryz.underlying5 (by kernel_rfl),rfl⟩
def ty9:TyI:=⟨.string,.string ⟨#[]⟩,1,16, #[]⟩
theorem aJs:ty9.ok Tryz.prog 9:=⟨_,TI.of Tryz.underlying9 (by kernel_rfl),rfl⟩
def ty22:TyI:=⟨.slice 5,.slice none 0 0,1,24, #[]⟩
theorem aHW:ty22.ok Tryz.prog 22:=⟨_,TI.of Tryz.underlying22 (by kernel_rfl),rfl⟩
def ty23:TyI:=⟨.slice 90,.slice none 0 0,1,24, #[]⟩
theorem aHV:ty23.ok Tryz.prog 23:=⟨_,TI.of Tryz.underlying23 (by kernel_rfl),rfl⟩
def ty24:TyI:=⟨.slice 46,.slice none 0 0,1,24, #[]⟩
theorem aHU:ty24.ok Tryz.prog 24:=⟨_,TI.of Tryz.underlying24 (by kernel_rfl),rfl⟩
def ty26:TyI:=⟨.struct [(23,0),(24,1)],.agg #[.slice none 0 0,.slice none 0 0],2,48, #[(0,1),(1,1)]⟩
theorem aHT:ty26.ok Tryz.prog 26:=⟨_,TI.of Tryz.underlying26 (by kernel_rfl),⟨_,rfl,by kernel_rfl,fun w=>by kernel_rfl⟩⟩
def ty43:TyI:=⟨.slice 123,.slice none 0 0,1,24, #[]⟩
theorem aHS:ty43.ok Tryz.prog 43:=⟨_,TI.of Tryz.underlying43 (by kernel_rfl),rfl⟩
def ty44:TyI:=⟨.slice 84,.slice none 0 0,1,24, #[]⟩
theorem aHR:ty44.ok Tryz.prog 44:=⟨_,TI.of Tryz.underlying44 (by kernel_rfl),rfl⟩
def ty46:TyI:=⟨.struct [(43,0),(44,1)],.agg #[.slice none 0 0,.slice none 0 0],2,48, #[(0,1),(1,1)]⟩
theorem aHQ:ty46.ok Tryz.prog 46:=⟨_,TI.of Tryz.underlying46 (by kernel_rfl),⟨_,rfl,by kernel_rfl,fun w=>by kernel_rfl⟩⟩
def ty48:TyI:=⟨.slice 3,.slice none 0 0,1,24, #[]⟩
theorem aHP:ty48.ok Tryz.prog 48:=⟨_,TI.of Tryz.underlying48 (by kernel_rfl),rfl⟩
def ty75:TyI:=⟨.slice 79,.slice none 0 0,1,24, #[]⟩
theorem aHO:ty75.ok Tryz.prog 75:=⟨_,TI.of Tryz.underlying75 (by kernel_rfl),rfl⟩
def ty77:TyI:=⟨.struct [(9,0),(75,1)],.agg #[.string ⟨#[]⟩,.slice none 0 0],2,40, #[(0,1),(1,1)]⟩
theorem aHN:ty77.ok Tryz.prog 77:=⟨_,TI.of Tryz.underlying77 (by kernel_rfl),⟨_,rfl,by kernel_rfl,fun w=>by kernel_rfl⟩⟩
def ty79:TyI:=⟨.struct [(48,0),(3,1)],.agg #[.slice none 0 0,.int .i64 0],2,32, #[(0,1),(1,1)]⟩
theorem aHM:ty79.ok Tryz.prog 79:=⟨_,TI.of Tryz.underlying79 (by kernel_rfl),⟨_,rfl,by kernel_rfl,fun w=>by kernel_rfl⟩⟩
def ty80:TyI:=⟨.slice 82,.slice none 0 0,1,24, #[]⟩
theorem aHL:ty80.ok Tryz.prog 80:=⟨_,TI.of Tryz.underlying80 (by kernel_rfl),rfl⟩
def ty82:TyI:=⟨.struct [(3,0),(3,1),(79,2),(77,4),(80,6)],.agg #[.int .i64 0,.int .i64 0,.slice none 0 0,.int .i64 0,.string ⟨#[]⟩,.slice none 0 0,.slice none 0 0],7,112, #[(0,1),(1,1),(2,2),(4,2),(6,1)]⟩
theorem aHK:ty82.ok Tryz.prog 82:=⟨_,TI.of Tryz.underlying82 (by kernel_rfl),⟨_,rfl,by kernel_rfl,fun w=>by kernel_rfl⟩⟩
def ty84:TyI:=⟨.struct [(77,0),(82,2)],.agg #[.string ⟨#[]⟩,.slice none 0 0,.int .i64 0,.int .i64 0,.slice none 0 0,.int .i64 0,.string ⟨#[]⟩,.slice none 0 0,.slice none 0 0],9,152, #[(0,2),(2,7)]⟩
theorem aHJ:ty84.ok Tryz.prog 84:=⟨_,TI.of Tryz.underlying84 (by kernel_rfl),⟨_,rfl,by kernel_rfl,fun w=>by kernel_rfl⟩⟩
def ty90:TyI:=⟨.struct [(9,0),(48,1)],.agg #[.string ⟨#[]⟩,.slice none 0 0],2,40, #[(0,1),(1,1)]⟩
theorem aHI:ty90.ok Tryz.prog 90:=⟨_,TI.of Tryz.underlying90 (by kernel_rfl),⟨_,rfl,by kernel_rfl,fun w=>by kernel_rfl⟩⟩
def ty98:TyI:=⟨.slice 112,.slice none 0 0,1,24, #[]⟩
theorem aHH:ty98.ok Tryz.prog 98:=⟨_,TI.of Tryz.underlying98 (by kernel_rfl),rfl⟩
def ty112:TyI:=⟨.struct [(3,0),(3,1),(48,2)],.agg #[.int .i64 0,.int .i64 0,.slice none 0 0],3,40, #[(0,1),(1,1),(2,1)]⟩
theorem aFQ:ty112.ok Tryz.prog 112:=⟨_,TI.of Tryz.underlying112 (by kernel_rfl),⟨_,rfl,by kernel_rfl,fun w=>by kernel_rfl⟩⟩
def ty113:TyI:=⟨.slice 48,.slice none 0 0,1,24, #[]⟩
theorem aFP:ty113.ok Tryz.prog 113:=⟨_,TI.of Tryz.underlying113 (by kernel_rfl),rfl⟩
def ty115:TyI:=⟨.struct [(26,0),(98,2),(113,3),(48,4)],.agg #[.slice none 0 0,.slice none 0 0,.slice none 0 0,.slice none 0 0,.slice none 0 0],5,120, #[(0,2),(2,1),(3,1),(4,1)]⟩
theorem aFO:ty115.ok Tryz.prog 115:=⟨_,TI.of Tryz.underlying115 (by kernel_rfl),⟨_,rfl,by kernel_rfl,fun w=>by kernel_rfl⟩⟩
def ty123:TyI:=⟨.struct [(75,0),(75,1)],.agg #[.slice none 0 0,.slice none 0 0],2,48, #[(0,1),(1,1)]⟩
theorem aFN:ty123.ok Tryz.prog 123:=⟨_,TI.of Tryz.underlying123 (by kernel_rfl),⟨_,rfl,by kernel_rfl,fun w=>by kernel_rfl⟩⟩
def ty133:TyI:=⟨.slice 136,.slice none 0 0,1,24, #[]⟩
theorem aFM:ty133.ok Tryz.prog 133:=⟨_,TI.of Tryz.underlying133 (by kernel_rfl),rfl⟩
def ty136:TyI:=⟨.struct [(3,0),(3,1),(3,2)],.agg #[.int .i64 0,.int .i64 0,.int .i64 0],3,24, #[(0,1),(1,1),(2,1)]⟩
theorem aFL:ty136.ok Tryz.prog 136:=⟨_,TI.of Tryz.underlying136 (by kernel_rfl),⟨_,rfl,by kernel_rfl,fun w=>by kernel_rfl⟩⟩
def ty167:TyI:=⟨.struct [(22,0),(3,1)],.agg #[.slice none 0 0,.int .i64 0],2,32, #[(0,1),(1,1)]⟩
theorem aFK:ty167.ok Tryz.prog 167:=⟨_,TI.of Tryz.underlying167 (by kernel_rfl),⟨_,rfl,by kernel_rfl,fun w=>by kernel_rfl⟩⟩
def ty170:TyI:=⟨.slice 9,.slice none 0 0,1,24, #[]⟩
theorem aFJ:ty170.ok Tryz.prog 170:=⟨_,TI.of Tryz.underlying170 (by kernel_rfl),rfl⟩
def ty201:TyI:=⟨.slice 204,.slice none 0 0,1,24, #[]⟩
theorem aFI:ty201.ok Tryz.prog 201:=⟨_,TI.of Tryz.underlying201 (by kernel_rfl),rfl⟩
def ty204:TyI:=⟨.struct [(48,0),(3,1)],.agg #[.slice none 0 0,.int .i64 0],2,32, #[(0,1),(1,1)]⟩
theorem aFH:ty204.ok Tryz.prog 204:=⟨_,TI.of Tryz.underlying204 (by kernel_rfl),⟨_,rfl,by kernel_rfl,fun w=>by kernel_rfl⟩⟩
def ty257:TyI:=⟨.struct [(43,0),(3,1),(113,2)],.agg #[.slice none 0 0,.int .i64 0,.slice none 0 0],3,56, #[(0,1),(1,1),(2,1)]⟩
theorem aFG:ty257.ok Tryz.prog 257:=⟨_,TI.of Tryz.underlying257 (by kernel_rfl),⟨_,rfl,by kernel_rfl,fun w=>by kernel_rfl⟩⟩
def ty262:TyI:=⟨.slice 77,.slice none 0 0,1,24, #[]⟩
theorem aFF:ty262.ok Tryz.prog 262:=⟨_,TI.of Tryz.underlying262 (by kernel_rfl),rfl⟩
def tyL:List (Nat×TyI):=[(3,ty3),(4,ty4),(5,ty5),(9,ty9),(22,ty22),(23,ty23),(24,ty24),(26,ty26),(43,ty43),(44,ty44),(46,ty46),(48,ty48),(75,ty75),(77,ty77),(79,ty79),(80,ty80),(82,ty82),(84,ty84),(90,ty90),(98,ty98),(112,ty112),(113,ty113),(115,ty115),(123,ty123),(133,ty133),(136,ty136),(167,ty167),(170,ty170),(201,ty201),(204,ty204),(257,ty257),(262,ty262)]
theorem aN:TyOK Tryz.prog tyL:= .cons aJv (.cons aJu (.cons aJt (.cons aJs (.cons aHW (.cons aHV (.cons aHU (.cons aHT (.cons aHS (.cons aHR (.cons aHQ (.cons aHP (.cons aHO (.cons aHN (.cons aHM (.cons aHL (.cons aHK (.cons aHJ (.cons aHI (.cons aHH (.cons aFQ (.cons aFP (.cons aFO (.cons aFN (.cons aFM (.cons aFL (.cons aFK (.cons aFJ (.cons aFI (.cons aFH (.cons aFG (.cons aFF (.nil))))))))))))))))))))))))))))))))
def mM:List Nd:=[⟨123,2,[(0,1),(1,1)]⟩,⟨79,2,[]⟩,⟨46,2,[(1,3)]⟩,⟨84,9,[]⟩]
theorem bL:Tryz.prog.follows .mixedOrders=true:=by kernel_rfl
end Go.Lift
