/- The types of the program, as the evaluator knows them. -/
import Derived.Test.YtdcjmccimcppbaaGreatFTypes
import Derived.Test.YtdcjmccimcppbaaGreatFLiftIns
import Derived.Test.YtdcjmccimcppbaaGreatChecked
set_option maxRecDepth 10000
namespace Go.Lift
open Go Go.Proofs
structure GS where
 g:Glob
 clone: ∀(l:List Int) {r:List Int},m_ownClone l=some r→VCC Tryz.prog g 148 [] [vM rI l] (ms 0 1 1 rI r) [ar 3 1 1 rI r]
 contains: ∀(s t:List UInt8) (r:Bool),m_contains s t=some r→PCC Tryz.prog g 308 [vS s,vS t] (vB r)
def ty3:TyI:=⟨.int .i64,.int .i64 0,1,8, #[]⟩
theorem aKm:ty3.ok Tryz.prog 3:=⟨_,TI.of Tryz.underlying3 (by kernel_rfl),rfl⟩
def ty4:TyI:=⟨.bool,.bool false,1,1, #[]⟩
theorem aKl:ty4.ok Tryz.prog 4:=⟨_,TI.of Tryz.underlying4 (by kernel_rfl),rfl⟩
def ty5:TyI:=⟨.int .u8,.int .u8 0,1,1, #[]⟩
theorem aKk:ty5.ok Tryz.prog 5:=⟨_,TI.of Tryz.underlying5 (by kernel_rfl),rfl⟩
def ty9:TyI:=⟨.string,.string ⟨#[]⟩,1,16, #[]⟩
theorem aKj:ty9.ok Tryz.prog 9:=⟨_,TI.of Tryz.underlying9 (by kernel_rfl),rfl⟩
def ty22:TyI:=⟨.slice 5,.slice none 0 0,1,24, #[]⟩
theorem aIN:ty22.ok Tryz.prog 22:=⟨_,TI.of Tryz.underlying22 (by kernel_rfl),rfl⟩
def ty23:TyI:=⟨.slice 90,.slice none 0 0,1,24, #[]⟩
theorem aIM:ty23.ok Tryz.prog 23:=⟨_,TI.of Tryz.underlying23 (by kernel_rfl),rfl⟩
def ty24:TyI:=⟨.slice 46,.slice none 0 0,1,24, #[]⟩
theorem aIL:ty24.ok Tryz.prog 24:=⟨_,TI.of Tryz.underlying24 (by kernel_rfl),rfl⟩
def ty26:TyI:=⟨.struct [(23,0),(24,1)],.agg #[.slice none 0 0,.slice none 0 0],2,48, #[(0,1),(1,1)]⟩
theorem aIK:ty26.ok Tryz.prog 26:=⟨_,TI.of Tryz.underlying26 (by kernel_rfl),⟨_,rfl,by kernel_rfl,fun w=>by kernel_rfl⟩⟩
def ty43:TyI:=⟨.slice 123,.slice none 0 0,1,24, #[]⟩
theorem aIJ:ty43.ok Tryz.prog 43:=⟨_,TI.of Tryz.underlying43 (by kernel_rfl),rfl⟩
def ty44:TyI:=⟨.slice 84,.slice none 0 0,1,24, #[]⟩
theorem aII:ty44.ok Tryz.prog 44:=⟨_,TI.of Tryz.underlying44 (by kernel_rfl),rfl⟩
def ty46:TyI:=⟨.struct [(43,0),(44,1)],.agg #[.slice none 0 0,.slice none 0 0],2,48, #[(0,1),(1,1)]⟩
theorem aIH:ty46.ok Tryz.prog 46:=⟨_,TI.of Tryz.underlying46 (by kernel_rfl),⟨_,rfl,by kernel_rfl,fun w=>by kernel_rfl⟩⟩
def ty48:TyI:=⟨.slice 3,.slice none 0 0,1,24, #[]⟩
theorem aIG:ty48.ok Tryz.prog 48:=⟨_,TI.of Tryz.underlying48 (by kernel_rfl),rfl⟩
def ty75:TyI:=⟨.slice 79,.slice none 0 0,1,24, #[]⟩
theorem aIF:ty75.ok Tryz.prog 75:=⟨_,TI.of Tryz.underlying75 (by kernel_rfl),rfl⟩
def ty77:TyI:=⟨.struct [(9,0),(75,1)],.agg #[.string ⟨#[]⟩,.slice none 0 0],2,40, #[(0,1),(1,1)]⟩
theorem aIE:ty77.ok Tryz.prog 77:=⟨_,TI.of Tryz.underlying77 (by kernel_rfl),⟨_,rfl,by kernel_rfl,fun w=>by kernel_rfl⟩⟩
def ty79:TyI:=⟨.struct [(48,0),(3,1)],.agg #[.slice none 0 0,.int .i64 0],2,32, #[(0,1),(1,1)]⟩
theorem aID:ty79.ok Tryz.prog 79:=⟨_,TI.of Tryz.underlying79 (by kernel_rfl),⟨_,rfl,by kernel_rfl,fun w=>by kernel_rfl⟩⟩
def ty80:TyI:=⟨.slice 82,.slice none 0 0,1,24, #[]⟩
theorem aIC:ty80.ok Tryz.prog 80:=⟨_,TI.of Tryz.underlying80 (by kernel_rfl),rfl⟩
def ty82:TyI:=⟨.struct [(3,0),(3,1),(79,2),(77,4),(80,6)],.agg #[.int .i64 0,.int .i64 0,.slice none 0 0,.int .i64 0,.string ⟨#[]⟩,.slice none 0 0,.slice none 0 0],7,112, #[(0,1),(1,1),(2,2),(4,2),(6,1)]⟩
theorem aIB:ty82.ok Tryz.prog 82:=⟨_,TI.of Tryz.underlying82 (by kernel_rfl),⟨_,rfl,by kernel_rfl,fun w=>by kernel_rfl⟩⟩
def ty84:TyI:=⟨.struct [(77,0),(82,2)],.agg #[.string ⟨#[]⟩,.slice none 0 0,.int .i64 0,.int .i64 0,.slice none 0 0,.int .i64 0,.string ⟨#[]⟩,.slice none 0 0,.slice none 0 0],9,152, #[(0,2),(2,7)]⟩
theorem aIA:ty84.ok Tryz.prog 84:=⟨_,TI.of Tryz.underlying84 (by kernel_rfl),⟨_,rfl,by kernel_rfl,fun w=>by kernel_rfl⟩⟩
def ty90:TyI:=⟨.struct [(9,0),(48,1)],.agg #[.string ⟨#[]⟩,.slice none 0 0],2,40, #[(0,1),(1,1)]⟩
theorem aIz:ty90.ok Tryz.prog 90:=⟨_,TI.of Tryz.underlying90 (by kernel_rfl),⟨_,rfl,by kernel_rfl,fun w=>by kernel_rfl⟩⟩
def ty98:TyI:=⟨.slice 112,.slice none 0 0,1,24, #[]⟩
theorem aIy:ty98.ok Tryz.prog 98:=⟨_,TI.of Tryz.underlying98 (by kernel_rfl),rfl⟩
def ty112:TyI:=⟨.struct [(3,0),(3,1),(48,2)],.agg #[.int .i64 0,.int .i64 0,.slice none 0 0],3,40, #[(0,1),(1,1),(2,1)]⟩
theorem aGz:ty112.ok Tryz.prog 112:=⟨_,TI.of Tryz.underlying112 (by kernel_rfl),⟨_,rfl,by kernel_rfl,fun w=>by kernel_rfl⟩⟩
def ty113:TyI:=⟨.slice 48,.slice none 0 0,1,24, #[]⟩
theorem aGy:ty113.ok Tryz.prog 113:=⟨_,TI.of Tryz.underlying113 (by kernel_rfl),rfl⟩
def ty123:TyI:=⟨.struct [(75,0),(75,1)],.agg #[.slice none 0 0,.slice none 0 0],2,48, #[(0,1),(1,1)]⟩
theorem aGx:ty123.ok Tryz.prog 123:=⟨_,TI.of Tryz.underlying123 (by kernel_rfl),⟨_,rfl,by kernel_rfl,fun w=>by kernel_rfl⟩⟩
def ty167:TyI:=⟨.struct [(22,0),(3,1)],.agg #[.slice none 0 0,.int .i64 0],2,32, #[(0,1),(1,1)]⟩
theorem aGw:ty167.ok Tryz.prog 167:=⟨_,TI.of Tryz.underlying167 (by kernel_rfl),⟨_,rfl,by kernel_rfl,fun w=>by kernel_rfl⟩⟩
def ty170:TyI:=⟨.slice 9,.slice none 0 0,1,24, #[]⟩
theorem aGv:ty170.ok Tryz.prog 170:=⟨_,TI.of Tryz.underlying170 (by kernel_rfl),rfl⟩
def ty225:TyI:=⟨.slice 75,.slice none 0 0,1,24, #[]⟩
theorem aGu:ty225.ok Tryz.prog 225:=⟨_,TI.of Tryz.underlying225 (by kernel_rfl),rfl⟩
def ty257:TyI:=⟨.struct [(43,0),(3,1),(113,2)],.agg #[.slice none 0 0,.int .i64 0,.slice none 0 0],3,56, #[(0,1),(1,1),(2,1)]⟩
theorem aGt:ty257.ok Tryz.prog 257:=⟨_,TI.of Tryz.underlying257 (by kernel_rfl),⟨_,rfl,by kernel_rfl,fun w=>by kernel_rfl⟩⟩
def ty262:TyI:=⟨.slice 77,.slice none 0 0,1,24, #[]⟩
theorem aGs:ty262.ok Tryz.prog 262:=⟨_,TI.of Tryz.underlying262 (by kernel_rfl),rfl⟩
def tyL:List (Nat×TyI):=[(3,ty3),(4,ty4),(5,ty5),(9,ty9),(22,ty22),(23,ty23),(24,ty24),(26,ty26),(43,ty43),(44,ty44),(46,ty46),(48,ty48),(75,ty75),(77,ty77),(79,ty79),(80,ty80),(82,ty82),(84,ty84),(90,ty90),(98,ty98),(112,ty112),(113,ty113),(123,ty123),(167,ty167),(170,ty170),(225,ty225),(257,ty257),(262,ty262)]
theorem aO:TyOK Tryz.prog tyL:= .cons aKm (.cons aKl (.cons aKk (.cons aKj (.cons aIN (.cons aIM (.cons aIL (.cons aIK (.cons aIJ (.cons aII (.cons aIH (.cons aIG (.cons aIF (.cons aIE (.cons aID (.cons aIC (.cons aIB (.cons aIA (.cons aIz (.cons aIy (.cons aGz (.cons aGy (.cons aGx (.cons aGw (.cons aGv (.cons aGu (.cons aGt (.cons aGs (.nil))))))))))))))))))))))))))))
def nE:List Nd:=[⟨123,2,[(0,1),(1,1)]⟩,⟨79,2,[]⟩,⟨46,2,[(1,3)]⟩,⟨84,9,[]⟩]
theorem bA:Tryz.prog.follows .mixedOrders=true:=by kernel_rfl
end Go.Lift
