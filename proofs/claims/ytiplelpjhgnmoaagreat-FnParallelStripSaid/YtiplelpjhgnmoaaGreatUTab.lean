/- The types of the program, as the evaluator knows them. -/
import Derived.Test.YtiplelpjhgnmoaaGreatUTypes
import Derived.Test.YtiplelpjhgnmoaaGreatULiftIns
import Derived.Test.YtiplelpjhgnmoaaGreatChecked
set_option maxRecDepth 10000
namespace Go.Lift
open Go Go.Proofs
structure GS where
 g:Glob
 sort: ∀(x:List (List Int)) (gs:Nat) {r:List (List Int)},m_sortL x=some r→VCC Tryz.prog g 99 [ar 33 gs 1 (rL rI) x] [ms 0 gs 1 (rL rI) x,V.fn 100 []] (V.tup []) [ar 33 gs 1 (rL rI) r]
 clone: ∀(l:List Int) {r:List Int},m_ownClone l=some r→VCC Tryz.prog g 106 [] [vM rI l] (ms 0 1 1 rI r) [ar 3 1 1 rI r]
 contains: ∀(s t:List UInt8) (r:Bool),m_contains s t=some r→PCC Tryz.prog g 219 [vS s,vS t] (vB r)
def ty3:TyI:=⟨.int .i64,.int .i64 0,1,8, #[]⟩
theorem aKt:ty3.ok Tryz.prog 3:=⟨_,TI.of Tryz.underlying3 (by kernel_rfl),rfl⟩
def ty4:TyI:=⟨.bool,.bool false,1,1, #[]⟩
theorem aKs:ty4.ok Tryz.prog 4:=⟨_,TI.of Tryz.underlying4 (by kernel_rfl),rfl⟩
def ty5:TyI:=⟨.int .u8,.int .u8 0,1,1, #[]⟩
theorem aKr:ty5.ok Tryz.prog 5:=⟨_,TI.of Tryz.underlying5 (by kernel_rfl),rfl⟩
def ty9:TyI:=⟨.string,.string ⟨#[]⟩,1,16, #[]⟩
theorem aKq:ty9.ok Tryz.prog 9:=⟨_,TI.of Tryz.underlying9 (by kernel_rfl),rfl⟩
def ty22:TyI:=⟨.slice 5,.slice none 0 0,1,24, #[]⟩
theorem aIR:ty22.ok Tryz.prog 22:=⟨_,TI.of Tryz.underlying22 (by kernel_rfl),rfl⟩
def ty23:TyI:=⟨.slice 77,.slice none 0 0,1,24, #[]⟩
theorem aIQ:ty23.ok Tryz.prog 23:=⟨_,TI.of Tryz.underlying23 (by kernel_rfl),rfl⟩
def ty24:TyI:=⟨.slice 62,.slice none 0 0,1,24, #[]⟩
theorem aIP:ty24.ok Tryz.prog 24:=⟨_,TI.of Tryz.underlying24 (by kernel_rfl),rfl⟩
def ty26:TyI:=⟨.struct [(23,0),(24,1)],.agg #[.slice none 0 0,.slice none 0 0],2,48, #[(0,1),(1,1)]⟩
theorem aIO:ty26.ok Tryz.prog 26:=⟨_,TI.of Tryz.underlying26 (by kernel_rfl),⟨_,rfl,by kernel_rfl,fun w=>by kernel_rfl⟩⟩
def ty33:TyI:=⟨.slice 3,.slice none 0 0,1,24, #[]⟩
theorem aIN:ty33.ok Tryz.prog 33:=⟨_,TI.of Tryz.underlying33 (by kernel_rfl),rfl⟩
def ty36:TyI:=⟨.slice 33,.slice none 0 0,1,24, #[]⟩
theorem aIM:ty36.ok Tryz.prog 36:=⟨_,TI.of Tryz.underlying36 (by kernel_rfl),rfl⟩
def ty56:TyI:=⟨.slice 65,.slice none 0 0,1,24, #[]⟩
theorem aIL:ty56.ok Tryz.prog 56:=⟨_,TI.of Tryz.underlying56 (by kernel_rfl),rfl⟩
def ty58:TyI:=⟨.struct [(56,0),(56,1)],.agg #[.slice none 0 0,.slice none 0 0],2,48, #[(0,1),(1,1)]⟩
theorem aIK:ty58.ok Tryz.prog 58:=⟨_,TI.of Tryz.underlying58 (by kernel_rfl),⟨_,rfl,by kernel_rfl,fun w=>by kernel_rfl⟩⟩
def ty59:TyI:=⟨.slice 58,.slice none 0 0,1,24, #[]⟩
theorem aIJ:ty59.ok Tryz.prog 59:=⟨_,TI.of Tryz.underlying59 (by kernel_rfl),rfl⟩
def ty60:TyI:=⟨.slice 87,.slice none 0 0,1,24, #[]⟩
theorem aII:ty60.ok Tryz.prog 60:=⟨_,TI.of Tryz.underlying60 (by kernel_rfl),rfl⟩
def ty62:TyI:=⟨.struct [(59,0),(60,1)],.agg #[.slice none 0 0,.slice none 0 0],2,48, #[(0,1),(1,1)]⟩
theorem aIH:ty62.ok Tryz.prog 62:=⟨_,TI.of Tryz.underlying62 (by kernel_rfl),⟨_,rfl,by kernel_rfl,fun w=>by kernel_rfl⟩⟩
def ty65:TyI:=⟨.struct [(33,0),(3,1)],.agg #[.slice none 0 0,.int .i64 0],2,32, #[(0,1),(1,1)]⟩
theorem aIG:ty65.ok Tryz.prog 65:=⟨_,TI.of Tryz.underlying65 (by kernel_rfl),⟨_,rfl,by kernel_rfl,fun w=>by kernel_rfl⟩⟩
def ty77:TyI:=⟨.struct [(9,0),(33,1)],.agg #[.string ⟨#[]⟩,.slice none 0 0],2,40, #[(0,1),(1,1)]⟩
theorem aIF:ty77.ok Tryz.prog 77:=⟨_,TI.of Tryz.underlying77 (by kernel_rfl),⟨_,rfl,by kernel_rfl,fun w=>by kernel_rfl⟩⟩
def ty82:TyI:=⟨.struct [(9,0),(56,1)],.agg #[.string ⟨#[]⟩,.slice none 0 0],2,40, #[(0,1),(1,1)]⟩
theorem aIE:ty82.ok Tryz.prog 82:=⟨_,TI.of Tryz.underlying82 (by kernel_rfl),⟨_,rfl,by kernel_rfl,fun w=>by kernel_rfl⟩⟩
def ty83:TyI:=⟨.slice 85,.slice none 0 0,1,24, #[]⟩
theorem aID:ty83.ok Tryz.prog 83:=⟨_,TI.of Tryz.underlying83 (by kernel_rfl),rfl⟩
def ty85:TyI:=⟨.struct [(3,0),(3,1),(65,2),(82,4),(83,6)],.agg #[.int .i64 0,.int .i64 0,.slice none 0 0,.int .i64 0,.string ⟨#[]⟩,.slice none 0 0,.slice none 0 0],7,112, #[(0,1),(1,1),(2,2),(4,2),(6,1)]⟩
theorem aIC:ty85.ok Tryz.prog 85:=⟨_,TI.of Tryz.underlying85 (by kernel_rfl),⟨_,rfl,by kernel_rfl,fun w=>by kernel_rfl⟩⟩
def ty87:TyI:=⟨.struct [(82,0),(85,2)],.agg #[.string ⟨#[]⟩,.slice none 0 0,.int .i64 0,.int .i64 0,.slice none 0 0,.int .i64 0,.string ⟨#[]⟩,.slice none 0 0,.slice none 0 0],9,152, #[(0,2),(2,7)]⟩
theorem aIB:ty87.ok Tryz.prog 87:=⟨_,TI.of Tryz.underlying87 (by kernel_rfl),⟨_,rfl,by kernel_rfl,fun w=>by kernel_rfl⟩⟩
def ty95:TyI:=⟨.slice 4,.slice none 0 0,1,24, #[]⟩
theorem aIA:ty95.ok Tryz.prog 95:=⟨_,TI.of Tryz.underlying95 (by kernel_rfl),rfl⟩
def ty109:TyI:=⟨.slice 135,.slice none 0 0,1,24, #[]⟩
theorem aGF:ty109.ok Tryz.prog 109:=⟨_,TI.of Tryz.underlying109 (by kernel_rfl),rfl⟩
def ty113:TyI:=⟨.struct [(26,0),(109,2),(36,3),(33,4)],.agg #[.slice none 0 0,.slice none 0 0,.slice none 0 0,.slice none 0 0,.slice none 0 0],5,120, #[(0,2),(2,1),(3,1),(4,1)]⟩
theorem aGE:ty113.ok Tryz.prog 113:=⟨_,TI.of Tryz.underlying113 (by kernel_rfl),⟨_,rfl,by kernel_rfl,fun w=>by kernel_rfl⟩⟩
def ty118:TyI:=⟨.struct [(22,0),(3,1)],.agg #[.slice none 0 0,.int .i64 0],2,32, #[(0,1),(1,1)]⟩
theorem aGD:ty118.ok Tryz.prog 118:=⟨_,TI.of Tryz.underlying118 (by kernel_rfl),⟨_,rfl,by kernel_rfl,fun w=>by kernel_rfl⟩⟩
def ty121:TyI:=⟨.slice 56,.slice none 0 0,1,24, #[]⟩
theorem aGC:ty121.ok Tryz.prog 121:=⟨_,TI.of Tryz.underlying121 (by kernel_rfl),rfl⟩
def ty135:TyI:=⟨.struct [(3,0),(3,1),(33,2)],.agg #[.int .i64 0,.int .i64 0,.slice none 0 0],3,40, #[(0,1),(1,1),(2,1)]⟩
theorem aGB:ty135.ok Tryz.prog 135:=⟨_,TI.of Tryz.underlying135 (by kernel_rfl),⟨_,rfl,by kernel_rfl,fun w=>by kernel_rfl⟩⟩
def ty138:TyI:=⟨.slice 141,.slice none 0 0,1,24, #[]⟩
theorem aGA:ty138.ok Tryz.prog 138:=⟨_,TI.of Tryz.underlying138 (by kernel_rfl),rfl⟩
def ty141:TyI:=⟨.struct [(3,0),(3,1),(3,2)],.agg #[.int .i64 0,.int .i64 0,.int .i64 0],3,24, #[(0,1),(1,1),(2,1)]⟩
theorem aGz:ty141.ok Tryz.prog 141:=⟨_,TI.of Tryz.underlying141 (by kernel_rfl),⟨_,rfl,by kernel_rfl,fun w=>by kernel_rfl⟩⟩
def ty149:TyI:=⟨.slice 9,.slice none 0 0,1,24, #[]⟩
theorem aGy:ty149.ok Tryz.prog 149:=⟨_,TI.of Tryz.underlying149 (by kernel_rfl),rfl⟩
def ty157:TyI:=⟨.slice 160,.slice none 0 0,1,24, #[]⟩
theorem aGx:ty157.ok Tryz.prog 157:=⟨_,TI.of Tryz.underlying157 (by kernel_rfl),rfl⟩
def ty160:TyI:=⟨.struct [(33,0),(3,1)],.agg #[.slice none 0 0,.int .i64 0],2,32, #[(0,1),(1,1)]⟩
theorem aGw:ty160.ok Tryz.prog 160:=⟨_,TI.of Tryz.underlying160 (by kernel_rfl),⟨_,rfl,by kernel_rfl,fun w=>by kernel_rfl⟩⟩
def ty177:TyI:=⟨.slice 82,.slice none 0 0,1,24, #[]⟩
theorem aGv:ty177.ok Tryz.prog 177:=⟨_,TI.of Tryz.underlying177 (by kernel_rfl),rfl⟩
def ty199:TyI:=⟨.struct [(59,0),(3,1),(36,2)],.agg #[.slice none 0 0,.int .i64 0,.slice none 0 0],3,56, #[(0,1),(1,1),(2,1)]⟩
theorem aGu:ty199.ok Tryz.prog 199:=⟨_,TI.of Tryz.underlying199 (by kernel_rfl),⟨_,rfl,by kernel_rfl,fun w=>by kernel_rfl⟩⟩
def tyL:List (Nat×TyI):=[(3,ty3),(4,ty4),(5,ty5),(9,ty9),(22,ty22),(23,ty23),(24,ty24),(26,ty26),(33,ty33),(36,ty36),(56,ty56),(58,ty58),(59,ty59),(60,ty60),(62,ty62),(65,ty65),(77,ty77),(82,ty82),(83,ty83),(85,ty85),(87,ty87),(95,ty95),(109,ty109),(113,ty113),(118,ty118),(121,ty121),(135,ty135),(138,ty138),(141,ty141),(149,ty149),(157,ty157),(160,ty160),(177,ty177),(199,ty199)]
theorem aO:TyOK Tryz.prog tyL:= .cons aKt (.cons aKs (.cons aKr (.cons aKq (.cons aIR (.cons aIQ (.cons aIP (.cons aIO (.cons aIN (.cons aIM (.cons aIL (.cons aIK (.cons aIJ (.cons aII (.cons aIH (.cons aIG (.cons aIF (.cons aIE (.cons aID (.cons aIC (.cons aIB (.cons aIA (.cons aGF (.cons aGE (.cons aGD (.cons aGC (.cons aGB (.cons aGA (.cons aGz (.cons aGy (.cons aGx (.cons aGw (.cons aGv (.cons aGu (.nil))))))))))))))))))))))))))))))))))
def mJ:List Nd:=[⟨58,2,[(0,1),(1,1)]⟩,⟨65,2,[]⟩,⟨62,2,[(1,3)]⟩,⟨87,9,[]⟩]
theorem bD:Tryz.prog.follows .mixedOrders=true:=by kernel_rfl
def fD:List Nd:=[⟨62,2,[(0,1),(1,2)]⟩,⟨58,2,[(0,3),(1,3)]⟩,⟨87,9,[]⟩,⟨65,2,[]⟩,⟨56,1,[(0,3)]⟩]
end Go.Lift
