/- The types of the program, as the evaluator knows them. -/
import Derived.Test.YtdcjmccimcppbaaGreatCTypes
import Derived.Test.YtdcjmccimcppbaaGreatChecked
set_option maxRecDepth 10000
namespace Go.Lift
open Go Go.Proofs
structure GS where
 g:Glob
 clone: ∀(l:List Int) {r:List Int},m_ownClone l=some r→VCC Tryz.prog g 148 [] [vM rI l] (ms 0 1 1 rI r) [ar 3 1 1 rI r]
 contains: ∀(s t:List UInt8) (r:Bool),m_contains s t=some r→PCC Tryz.prog g 308 [vS s,vS t] (vB r)
def ty3:TyI:=⟨.int .i64,.int .i64 0,1,8, #[]⟩
theorem aIK:ty3.ok Tryz.prog 3:=⟨_,TI.of Tryz.underlying3 (by kernel_rfl),rfl⟩
def ty4:TyI:=⟨.bool,.bool false,1,1, #[]⟩
theorem aIJ:ty4.ok Tryz.prog 4:=⟨_,TI.of Tryz.underlying4 (by kernel_rfl),rfl⟩
def ty5:TyI:=⟨.int .u8,.int .u8 0,1,1, #[]⟩
theorem aII:ty5.ok Tryz.prog 5:=⟨_,TI.of Tryz.underlying5 (by kernel_rfl),rfl⟩
def ty9:TyI:=⟨.string,.string ⟨#[]⟩,1,16, #[]⟩
theorem aIH:ty9.ok Tryz.prog 9:=⟨_,TI.of Tryz.underlying9 (by kernel_rfl),rfl⟩
def ty22:TyI:=⟨.slice 5,.slice none 0 0,1,24, #[]⟩
theorem aHi:ty22.ok Tryz.prog 22:=⟨_,TI.of Tryz.underlying22 (by kernel_rfl),rfl⟩
def ty23:TyI:=⟨.slice 90,.slice none 0 0,1,24, #[]⟩
theorem aHh:ty23.ok Tryz.prog 23:=⟨_,TI.of Tryz.underlying23 (by kernel_rfl),rfl⟩
def ty24:TyI:=⟨.slice 46,.slice none 0 0,1,24, #[]⟩
theorem aHg:ty24.ok Tryz.prog 24:=⟨_,TI.of Tryz.underlying24 (by kernel_rfl),rfl⟩
def ty26:TyI:=⟨.struct [(23,0),(24,1)],.agg #[.slice none 0 0,.slice none 0 0],2,48, #[(0,1),(1,1)]⟩
theorem aHf:ty26.ok Tryz.prog 26:=⟨_,TI.of Tryz.underlying26 (by kernel_rfl),⟨_,rfl,by kernel_rfl,fun w=>by kernel_rfl⟩⟩
def ty43:TyI:=⟨.slice 123,.slice none 0 0,1,24, #[]⟩
theorem aHe:ty43.ok Tryz.prog 43:=⟨_,TI.of Tryz.underlying43 (by kernel_rfl),rfl⟩
def ty44:TyI:=⟨.slice 84,.slice none 0 0,1,24, #[]⟩
theorem aHd:ty44.ok Tryz.prog 44:=⟨_,TI.of Tryz.underlying44 (by kernel_rfl),rfl⟩
def ty46:TyI:=⟨.struct [(43,0),(44,1)],.agg #[.slice none 0 0,.slice none 0 0],2,48, #[(0,1),(1,1)]⟩
theorem aHc:ty46.ok Tryz.prog 46:=⟨_,TI.of Tryz.underlying46 (by kernel_rfl),⟨_,rfl,by kernel_rfl,fun w=>by kernel_rfl⟩⟩
def ty48:TyI:=⟨.slice 3,.slice none 0 0,1,24, #[]⟩
theorem aHb:ty48.ok Tryz.prog 48:=⟨_,TI.of Tryz.underlying48 (by kernel_rfl),rfl⟩
def ty75:TyI:=⟨.slice 79,.slice none 0 0,1,24, #[]⟩
theorem aHa:ty75.ok Tryz.prog 75:=⟨_,TI.of Tryz.underlying75 (by kernel_rfl),rfl⟩
def ty77:TyI:=⟨.struct [(9,0),(75,1)],.agg #[.string ⟨#[]⟩,.slice none 0 0],2,40, #[(0,1),(1,1)]⟩
theorem aG9:ty77.ok Tryz.prog 77:=⟨_,TI.of Tryz.underlying77 (by kernel_rfl),⟨_,rfl,by kernel_rfl,fun w=>by kernel_rfl⟩⟩
def ty79:TyI:=⟨.struct [(48,0),(3,1)],.agg #[.slice none 0 0,.int .i64 0],2,32, #[(0,1),(1,1)]⟩
theorem aG8:ty79.ok Tryz.prog 79:=⟨_,TI.of Tryz.underlying79 (by kernel_rfl),⟨_,rfl,by kernel_rfl,fun w=>by kernel_rfl⟩⟩
def ty80:TyI:=⟨.slice 82,.slice none 0 0,1,24, #[]⟩
theorem aG7:ty80.ok Tryz.prog 80:=⟨_,TI.of Tryz.underlying80 (by kernel_rfl),rfl⟩
def ty82:TyI:=⟨.struct [(3,0),(3,1),(79,2),(77,4),(80,6)],.agg #[.int .i64 0,.int .i64 0,.slice none 0 0,.int .i64 0,.string ⟨#[]⟩,.slice none 0 0,.slice none 0 0],7,112, #[(0,1),(1,1),(2,2),(4,2),(6,1)]⟩
theorem aG6:ty82.ok Tryz.prog 82:=⟨_,TI.of Tryz.underlying82 (by kernel_rfl),⟨_,rfl,by kernel_rfl,fun w=>by kernel_rfl⟩⟩
def ty84:TyI:=⟨.struct [(77,0),(82,2)],.agg #[.string ⟨#[]⟩,.slice none 0 0,.int .i64 0,.int .i64 0,.slice none 0 0,.int .i64 0,.string ⟨#[]⟩,.slice none 0 0,.slice none 0 0],9,152, #[(0,2),(2,7)]⟩
theorem aG5:ty84.ok Tryz.prog 84:=⟨_,TI.of Tryz.underlying84 (by kernel_rfl),⟨_,rfl,by kernel_rfl,fun w=>by kernel_rfl⟩⟩
def ty90:TyI:=⟨.struct [(9,0),(48,1)],.agg #[.string ⟨#[]⟩,.slice none 0 0],2,40, #[(0,1),(1,1)]⟩
theorem aG4:ty90.ok Tryz.prog 90:=⟨_,TI.of Tryz.underlying90 (by kernel_rfl),⟨_,rfl,by kernel_rfl,fun w=>by kernel_rfl⟩⟩
def ty98:TyI:=⟨.slice 112,.slice none 0 0,1,24, #[]⟩
theorem aG3:ty98.ok Tryz.prog 98:=⟨_,TI.of Tryz.underlying98 (by kernel_rfl),rfl⟩
def ty109:TyI:=⟨.slice 4,.slice none 0 0,1,24, #[]⟩
theorem aFd:ty109.ok Tryz.prog 109:=⟨_,TI.of Tryz.underlying109 (by kernel_rfl),rfl⟩
def ty112:TyI:=⟨.struct [(3,0),(3,1),(48,2)],.agg #[.int .i64 0,.int .i64 0,.slice none 0 0],3,40, #[(0,1),(1,1),(2,1)]⟩
theorem aFc:ty112.ok Tryz.prog 112:=⟨_,TI.of Tryz.underlying112 (by kernel_rfl),⟨_,rfl,by kernel_rfl,fun w=>by kernel_rfl⟩⟩
def ty113:TyI:=⟨.slice 48,.slice none 0 0,1,24, #[]⟩
theorem aFb:ty113.ok Tryz.prog 113:=⟨_,TI.of Tryz.underlying113 (by kernel_rfl),rfl⟩
def ty115:TyI:=⟨.struct [(26,0),(98,2),(113,3),(48,4)],.agg #[.slice none 0 0,.slice none 0 0,.slice none 0 0,.slice none 0 0,.slice none 0 0],5,120, #[(0,2),(2,1),(3,1),(4,1)]⟩
theorem aFa:ty115.ok Tryz.prog 115:=⟨_,TI.of Tryz.underlying115 (by kernel_rfl),⟨_,rfl,by kernel_rfl,fun w=>by kernel_rfl⟩⟩
def ty123:TyI:=⟨.struct [(75,0),(75,1)],.agg #[.slice none 0 0,.slice none 0 0],2,48, #[(0,1),(1,1)]⟩
theorem aE9:ty123.ok Tryz.prog 123:=⟨_,TI.of Tryz.underlying123 (by kernel_rfl),⟨_,rfl,by kernel_rfl,fun w=>by kernel_rfl⟩⟩
def ty167:TyI:=⟨.struct [(22,0),(3,1)],.agg #[.slice none 0 0,.int .i64 0],2,32, #[(0,1),(1,1)]⟩
theorem aE8:ty167.ok Tryz.prog 167:=⟨_,TI.of Tryz.underlying167 (by kernel_rfl),⟨_,rfl,by kernel_rfl,fun w=>by kernel_rfl⟩⟩
def ty170:TyI:=⟨.slice 9,.slice none 0 0,1,24, #[]⟩
theorem aE7:ty170.ok Tryz.prog 170:=⟨_,TI.of Tryz.underlying170 (by kernel_rfl),rfl⟩
def ty201:TyI:=⟨.slice 204,.slice none 0 0,1,24, #[]⟩
theorem aE6:ty201.ok Tryz.prog 201:=⟨_,TI.of Tryz.underlying201 (by kernel_rfl),rfl⟩
def ty204:TyI:=⟨.struct [(48,0),(3,1)],.agg #[.slice none 0 0,.int .i64 0],2,32, #[(0,1),(1,1)]⟩
theorem aE5:ty204.ok Tryz.prog 204:=⟨_,TI.of Tryz.underlying204 (by kernel_rfl),⟨_,rfl,by kernel_rfl,fun w=>by kernel_rfl⟩⟩
def ty257:TyI:=⟨.struct [(43,0),(3,1),(113,2)],.agg #[.slice none 0 0,.int .i64 0,.slice none 0 0],3,56, #[(0,1),(1,1),(2,1)]⟩
theorem aE4:ty257.ok Tryz.prog 257:=⟨_,TI.of Tryz.underlying257 (by kernel_rfl),⟨_,rfl,by kernel_rfl,fun w=>by kernel_rfl⟩⟩
def ty262:TyI:=⟨.slice 77,.slice none 0 0,1,24, #[]⟩
theorem aE3:ty262.ok Tryz.prog 262:=⟨_,TI.of Tryz.underlying262 (by kernel_rfl),rfl⟩
def tyL:List (Nat×TyI):=[(3,ty3),(4,ty4),(5,ty5),(9,ty9),(22,ty22),(23,ty23),(24,ty24),(26,ty26),(43,ty43),(44,ty44),(46,ty46),(48,ty48),(75,ty75),(77,ty77),(79,ty79),(80,ty80),(82,ty82),(84,ty84),(90,ty90),(98,ty98),(109,ty109),(112,ty112),(113,ty113),(115,ty115),(123,ty123),(167,ty167),(170,ty170),(201,ty201),(204,ty204),(257,ty257),(262,ty262)]
theorem aN:TyOK Tryz.prog tyL:= .cons aIK (.cons aIJ (.cons aII (.cons aIH (.cons aHi (.cons aHh (.cons aHg (.cons aHf (.cons aHe (.cons aHd (.cons aHc (.cons aHb (.cons aHa (.cons aG9 (.cons aG8 (.cons aG7 (.cons aG6 (.cons aG5 (.cons aG4 (.cons aG3 (.cons aFd (.cons aFc (.cons aFb (.cons aFa (.cons aE9 (.cons aE8 (.cons aE7 (.cons aE6 (.cons aE5 (.cons aE4 (.cons aE3 (.nil)))))))))))))))))))))))))))))))
def l7:List Nd:=[⟨123,2,[(0,1),(1,1)]⟩,⟨79,2,[]⟩,⟨46,2,[(1,3)]⟩,⟨84,9,[]⟩]
theorem bP:Tryz.prog.follows .mixedOrders=true:=by kernel_rfl
end Go.Lift
