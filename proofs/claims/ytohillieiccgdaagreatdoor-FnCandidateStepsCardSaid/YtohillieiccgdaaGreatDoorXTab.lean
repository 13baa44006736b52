/- The types of the program, as the evaluator knows them. -/
import Derived.Test.YtohillieiccgdaaGreatDoorXTypes
import Derived.Test.YtohillieiccgdaaGreatDoorChecked
set_option maxRecDepth 10000
namespace Go.Lift
open Go Go.Proofs
structure GS where
 g:Glob
 itoa: ∀(n:Int) (r:List UInt8),m_itoa n=some r→PCC Tryz.prog g 34 [vI n] (vS r)
 clone: ∀(l:List Int) {r:List Int},m_ownClone l=some r→VCC Tryz.prog g 43 [] [vM rI l] (ms 0 1 1 rI r) [ar 3 1 1 rI r]
 contains: ∀(s t:List UInt8) (r:Bool),m_contains s t=some r→PCC Tryz.prog g 94 [vS s,vS t] (vB r)
def ty3:TyI:=⟨.int .i64,.int .i64 0,1,8, #[]⟩
theorem aEO:ty3.ok Tryz.prog 3:=⟨_,TI.of Tryz.underlying3 (by kernel_rfl),rfl⟩
def ty4:TyI:=⟨.bool,.bool false,1,1, #[]⟩
theorem aEN:ty4.ok Tryz.prog 4:=⟨_,TI.of Tryz.underlying4 (by kernel_rfl),rfl⟩
def ty5:TyI:=⟨.int .u8,.int .u8 0,1,1, #[]⟩
theorem aEM:ty5.ok Tryz.prog 5:=⟨_,TI.of Tryz.underlying5 (by kernel_rfl),rfl⟩
def ty9:TyI:=⟨.string,.string ⟨#[]⟩,1,16, #[]⟩
theorem aEL:ty9.ok Tryz.prog 9:=⟨_,TI.of Tryz.underlying9 (by kernel_rfl),rfl⟩
def ty22:TyI:=⟨.slice 5,.slice none 0 0,1,24, #[]⟩
theorem aDs:ty22.ok Tryz.prog 22:=⟨_,TI.of Tryz.underlying22 (by kernel_rfl),rfl⟩
def ty23:TyI:=⟨.slice 58,.slice none 0 0,1,24, #[]⟩
theorem aDr:ty23.ok Tryz.prog 23:=⟨_,TI.of Tryz.underlying23 (by kernel_rfl),rfl⟩
def ty24:TyI:=⟨.slice 43,.slice none 0 0,1,24, #[]⟩
theorem aDq:ty24.ok Tryz.prog 24:=⟨_,TI.of Tryz.underlying24 (by kernel_rfl),rfl⟩
def ty26:TyI:=⟨.struct [(23,0),(24,1)],.agg #[.slice none 0 0,.slice none 0 0],2,48, #[(0,1),(1,1)]⟩
theorem aDp:ty26.ok Tryz.prog 26:=⟨_,TI.of Tryz.underlying26 (by kernel_rfl),⟨_,rfl,by kernel_rfl,fun w=>by kernel_rfl⟩⟩
def ty28:TyI:=⟨.slice 33,.slice none 0 0,1,24, #[]⟩
theorem aDo:ty28.ok Tryz.prog 28:=⟨_,TI.of Tryz.underlying28 (by kernel_rfl),rfl⟩
def ty33:TyI:=⟨.struct [(3,0),(3,1),(3,2),(3,3)],.agg #[.int .i64 0,.int .i64 0,.int .i64 0,.int .i64 0],4,32, #[(0,1),(1,1),(2,1),(3,1)]⟩
theorem aDn:ty33.ok Tryz.prog 33:=⟨_,TI.of Tryz.underlying33 (by kernel_rfl),⟨_,rfl,by kernel_rfl,fun w=>by kernel_rfl⟩⟩
def ty40:TyI:=⟨.slice 96,.slice none 0 0,1,24, #[]⟩
theorem aDm:ty40.ok Tryz.prog 40:=⟨_,TI.of Tryz.underlying40 (by kernel_rfl),rfl⟩
def ty41:TyI:=⟨.slice 69,.slice none 0 0,1,24, #[]⟩
theorem aDl:ty41.ok Tryz.prog 41:=⟨_,TI.of Tryz.underlying41 (by kernel_rfl),rfl⟩
def ty43:TyI:=⟨.struct [(40,0),(41,1)],.agg #[.slice none 0 0,.slice none 0 0],2,48, #[(0,1),(1,1)]⟩
theorem aDk:ty43.ok Tryz.prog 43:=⟨_,TI.of Tryz.underlying43 (by kernel_rfl),⟨_,rfl,by kernel_rfl,fun w=>by kernel_rfl⟩⟩
def ty46:TyI:=⟨.slice 92,.slice none 0 0,1,24, #[]⟩
theorem aDj:ty46.ok Tryz.prog 46:=⟨_,TI.of Tryz.underlying46 (by kernel_rfl),rfl⟩
def ty50:TyI:=⟨.struct [(22,0),(3,1)],.agg #[.slice none 0 0,.int .i64 0],2,32, #[(0,1),(1,1)]⟩
theorem aDi:ty50.ok Tryz.prog 50:=⟨_,TI.of Tryz.underlying50 (by kernel_rfl),⟨_,rfl,by kernel_rfl,fun w=>by kernel_rfl⟩⟩
def ty54:TyI:=⟨.slice 9,.slice none 0 0,1,24, #[]⟩
theorem aDh:ty54.ok Tryz.prog 54:=⟨_,TI.of Tryz.underlying54 (by kernel_rfl),rfl⟩
def ty56:TyI:=⟨.slice 3,.slice none 0 0,1,24, #[]⟩
theorem aDg:ty56.ok Tryz.prog 56:=⟨_,TI.of Tryz.underlying56 (by kernel_rfl),rfl⟩
def ty58:TyI:=⟨.struct [(9,0),(56,1)],.agg #[.string ⟨#[]⟩,.slice none 0 0],2,40, #[(0,1),(1,1)]⟩
theorem aDf:ty58.ok Tryz.prog 58:=⟨_,TI.of Tryz.underlying58 (by kernel_rfl),⟨_,rfl,by kernel_rfl,fun w=>by kernel_rfl⟩⟩
def ty60:TyI:=⟨.slice 64,.slice none 0 0,1,24, #[]⟩
theorem aDe:ty60.ok Tryz.prog 60:=⟨_,TI.of Tryz.underlying60 (by kernel_rfl),rfl⟩
def ty62:TyI:=⟨.struct [(9,0),(60,1)],.agg #[.string ⟨#[]⟩,.slice none 0 0],2,40, #[(0,1),(1,1)]⟩
theorem aDd:ty62.ok Tryz.prog 62:=⟨_,TI.of Tryz.underlying62 (by kernel_rfl),⟨_,rfl,by kernel_rfl,fun w=>by kernel_rfl⟩⟩
def ty64:TyI:=⟨.struct [(56,0),(3,1)],.agg #[.slice none 0 0,.int .i64 0],2,32, #[(0,1),(1,1)]⟩
theorem aDc:ty64.ok Tryz.prog 64:=⟨_,TI.of Tryz.underlying64 (by kernel_rfl),⟨_,rfl,by kernel_rfl,fun w=>by kernel_rfl⟩⟩
def ty65:TyI:=⟨.slice 67,.slice none 0 0,1,24, #[]⟩
theorem aDb:ty65.ok Tryz.prog 65:=⟨_,TI.of Tryz.underlying65 (by kernel_rfl),rfl⟩
def ty67:TyI:=⟨.struct [(3,0),(3,1),(64,2),(62,4),(65,6)],.agg #[.int .i64 0,.int .i64 0,.slice none 0 0,.int .i64 0,.string ⟨#[]⟩,.slice none 0 0,.slice none 0 0],7,112, #[(0,1),(1,1),(2,2),(4,2),(6,1)]⟩
theorem aDa:ty67.ok Tryz.prog 67:=⟨_,TI.of Tryz.underlying67 (by kernel_rfl),⟨_,rfl,by kernel_rfl,fun w=>by kernel_rfl⟩⟩
def ty69:TyI:=⟨.struct [(62,0),(67,2)],.agg #[.string ⟨#[]⟩,.slice none 0 0,.int .i64 0,.int .i64 0,.slice none 0 0,.int .i64 0,.string ⟨#[]⟩,.slice none 0 0,.slice none 0 0],9,152, #[(0,2),(2,7)]⟩
theorem aC9:ty69.ok Tryz.prog 69:=⟨_,TI.of Tryz.underlying69 (by kernel_rfl),⟨_,rfl,by kernel_rfl,fun w=>by kernel_rfl⟩⟩
def ty81:TyI:=⟨.slice 56,.slice none 0 0,1,24, #[]⟩
theorem aC8:ty81.ok Tryz.prog 81:=⟨_,TI.of Tryz.underlying81 (by kernel_rfl),rfl⟩
def ty92:TyI:=⟨.struct [(3,0),(3,1),(56,2)],.agg #[.int .i64 0,.int .i64 0,.slice none 0 0],3,40, #[(0,1),(1,1),(2,1)]⟩
theorem aC7:ty92.ok Tryz.prog 92:=⟨_,TI.of Tryz.underlying92 (by kernel_rfl),⟨_,rfl,by kernel_rfl,fun w=>by kernel_rfl⟩⟩
def ty96:TyI:=⟨.struct [(60,0),(60,1)],.agg #[.slice none 0 0,.slice none 0 0],2,48, #[(0,1),(1,1)]⟩
theorem aC6:ty96.ok Tryz.prog 96:=⟨_,TI.of Tryz.underlying96 (by kernel_rfl),⟨_,rfl,by kernel_rfl,fun w=>by kernel_rfl⟩⟩
def ty109:TyI:=⟨.struct [(40,0),(3,1),(81,2)],.agg #[.slice none 0 0,.int .i64 0,.slice none 0 0],3,56, #[(0,1),(1,1),(2,1)]⟩
theorem aBl:ty109.ok Tryz.prog 109:=⟨_,TI.of Tryz.underlying109 (by kernel_rfl),⟨_,rfl,by kernel_rfl,fun w=>by kernel_rfl⟩⟩
def ty116:TyI:=⟨.slice 62,.slice none 0 0,1,24, #[]⟩
theorem aBk:ty116.ok Tryz.prog 116:=⟨_,TI.of Tryz.underlying116 (by kernel_rfl),rfl⟩
def tyL:List (Nat×TyI):=[(3,ty3),(4,ty4),(5,ty5),(9,ty9),(22,ty22),(23,ty23),(24,ty24),(26,ty26),(28,ty28),(33,ty33),(40,ty40),(41,ty41),(43,ty43),(46,ty46),(50,ty50),(54,ty54),(56,ty56),(58,ty58),(60,ty60),(62,ty62),(64,ty64),(65,ty65),(67,ty67),(69,ty69),(81,ty81),(92,ty92),(96,ty96),(109,ty109),(116,ty116)]
theorem aQ:TyOK Tryz.prog tyL:= .cons aEO (.cons aEN (.cons aEM (.cons aEL (.cons aDs (.cons aDr (.cons aDq (.cons aDp (.cons aDo (.cons aDn (.cons aDm (.cons aDl (.cons aDk (.cons aDj (.cons aDi (.cons aDh (.cons aDg (.cons aDf (.cons aDe (.cons aDd (.cons aDc (.cons aDb (.cons aDa (.cons aC9 (.cons aC8 (.cons aC7 (.cons aC6 (.cons aBl (.cons aBk (.nil)))))))))))))))))))))))))))))
theorem aFI:SE Tryz.prog 33 4:=⟨by kernel_rfl,Tryz.stoodInHeld33,Tryz.eqGuardType33,by kernel_rfl,by kernel_rfl⟩
def jM:List Nd:=[⟨96,2,[(0,1),(1,1)]⟩,⟨64,2,[]⟩,⟨43,2,[(1,3)]⟩,⟨69,9,[]⟩]
theorem bO:Tryz.prog.follows .mixedOrders=true:=by kernel_rfl
end Go.Lift
