/- The types of the program, as the evaluator knows them. -/
import Derived.Test.YtjmaejilmokdgaaGreatRTypes
import Derived.Test.YtjmaejilmokdgaaGreatChecked
set_option maxRecDepth 10000
namespace Go.Lift
open Go Go.Proofs
structure GS where
 g:Glob
 clone: ∀(l:List Int) {r:List Int},m_ownClone l=some r→VCC Tryz.prog g 103 [] [vM rI l] (ms 0 1 1 rI r) [ar 3 1 1 rI r]
 sort: ∀(x:List (List Int)) (gs:Nat) {r:List (List Int)},m_sortL x=some r→VCC Tryz.prog g 147 [ar 39 gs 1 (rL rI) x] [ms 0 gs 1 (rL rI) x,V.fn 148 []] (V.tup []) [ar 39 gs 1 (rL rI) r]
 contains: ∀(s t:List UInt8) (r:Bool),m_contains s t=some r→PCC Tryz.prog g 216 [vS s,vS t] (vB r)
def ty3:TyI:=⟨.int .i64,.int .i64 0,1,8, #[]⟩
theorem aLY:ty3.ok Tryz.prog 3:=⟨_,TI.of Tryz.underlying3 (by kernel_rfl),rfl⟩
def ty4:TyI:=⟨.bool,.bool false,1,1, #[]⟩
theorem aLX:ty4.ok Tryz.prog 4:=⟨_,TI.of Tryz.underlying4 (by kernel_rfl),rfl⟩
def ty5:TyI:=⟨.int .u8,.int .u8 0,1,1, #[]⟩
theorem aLW:ty5.ok Tryz.prog 5:=⟨_,TI.of Tryz.underlying5 (by kernel_rfl),rfl⟩
def ty9:TyI:=⟨.string,.string ⟨#[]⟩,1,16, #[]⟩
theorem aLV:ty9.ok Tryz.prog 9:=⟨_,TI.of Tryz.underlying9 (by kernel_rfl),rfl⟩
def ty22:TyI:=⟨.slice 5,.slice none 0 0,1,24, #[]⟩
theorem aJN:ty22.ok Tryz.prog 22:=⟨_,TI.of Tryz.underlying22 (by kernel_rfl),rfl⟩
def ty23:TyI:=⟨.slice 81,.slice none 0 0,1,24, #[]⟩
theorem aJM:ty23.ok Tryz.prog 23:=⟨_,TI.of Tryz.underlying23 (by kernel_rfl),rfl⟩
def ty24:TyI:=⟨.slice 62,.slice none 0 0,1,24, #[]⟩
theorem aJL:ty24.ok Tryz.prog 24:=⟨_,TI.of Tryz.underlying24 (by kernel_rfl),rfl⟩
def ty26:TyI:=⟨.struct [(23,0),(24,1)],.agg #[.slice none 0 0,.slice none 0 0],2,48, #[(0,1),(1,1)]⟩
theorem aJK:ty26.ok Tryz.prog 26:=⟨_,TI.of Tryz.underlying26 (by kernel_rfl),⟨_,rfl,by kernel_rfl,fun w=>by kernel_rfl⟩⟩
def ty36:TyI:=⟨.slice 107,.slice none 0 0,1,24, #[]⟩
theorem aJJ:ty36.ok Tryz.prog 36:=⟨_,TI.of Tryz.underlying36 (by kernel_rfl),rfl⟩
def ty39:TyI:=⟨.slice 3,.slice none 0 0,1,24, #[]⟩
theorem aJI:ty39.ok Tryz.prog 39:=⟨_,TI.of Tryz.underlying39 (by kernel_rfl),rfl⟩
def ty42:TyI:=⟨.slice 39,.slice none 0 0,1,24, #[]⟩
theorem aJH:ty42.ok Tryz.prog 42:=⟨_,TI.of Tryz.underlying42 (by kernel_rfl),rfl⟩
def ty56:TyI:=⟨.slice 67,.slice none 0 0,1,24, #[]⟩
theorem aJG:ty56.ok Tryz.prog 56:=⟨_,TI.of Tryz.underlying56 (by kernel_rfl),rfl⟩
def ty58:TyI:=⟨.struct [(56,0),(56,1)],.agg #[.slice none 0 0,.slice none 0 0],2,48, #[(0,1),(1,1)]⟩
theorem aJF:ty58.ok Tryz.prog 58:=⟨_,TI.of Tryz.underlying58 (by kernel_rfl),⟨_,rfl,by kernel_rfl,fun w=>by kernel_rfl⟩⟩
def ty59:TyI:=⟨.slice 58,.slice none 0 0,1,24, #[]⟩
theorem aJE:ty59.ok Tryz.prog 59:=⟨_,TI.of Tryz.underlying59 (by kernel_rfl),rfl⟩
def ty60:TyI:=⟨.slice 91,.slice none 0 0,1,24, #[]⟩
theorem aJD:ty60.ok Tryz.prog 60:=⟨_,TI.of Tryz.underlying60 (by kernel_rfl),rfl⟩
def ty62:TyI:=⟨.struct [(59,0),(60,1)],.agg #[.slice none 0 0,.slice none 0 0],2,48, #[(0,1),(1,1)]⟩
theorem aJC:ty62.ok Tryz.prog 62:=⟨_,TI.of Tryz.underlying62 (by kernel_rfl),⟨_,rfl,by kernel_rfl,fun w=>by kernel_rfl⟩⟩
def ty67:TyI:=⟨.struct [(39,0),(3,1)],.agg #[.slice none 0 0,.int .i64 0],2,32, #[(0,1),(1,1)]⟩
theorem aJB:ty67.ok Tryz.prog 67:=⟨_,TI.of Tryz.underlying67 (by kernel_rfl),⟨_,rfl,by kernel_rfl,fun w=>by kernel_rfl⟩⟩
def ty81:TyI:=⟨.struct [(9,0),(39,1)],.agg #[.string ⟨#[]⟩,.slice none 0 0],2,40, #[(0,1),(1,1)]⟩
theorem aJA:ty81.ok Tryz.prog 81:=⟨_,TI.of Tryz.underlying81 (by kernel_rfl),⟨_,rfl,by kernel_rfl,fun w=>by kernel_rfl⟩⟩
def ty86:TyI:=⟨.struct [(9,0),(56,1)],.agg #[.string ⟨#[]⟩,.slice none 0 0],2,40, #[(0,1),(1,1)]⟩
theorem aJz:ty86.ok Tryz.prog 86:=⟨_,TI.of Tryz.underlying86 (by kernel_rfl),⟨_,rfl,by kernel_rfl,fun w=>by kernel_rfl⟩⟩
def ty87:TyI:=⟨.slice 89,.slice none 0 0,1,24, #[]⟩
theorem aJy:ty87.ok Tryz.prog 87:=⟨_,TI.of Tryz.underlying87 (by kernel_rfl),rfl⟩
def ty89:TyI:=⟨.struct [(3,0),(3,1),(67,2),(86,4),(87,6)],.agg #[.int .i64 0,.int .i64 0,.slice none 0 0,.int .i64 0,.string ⟨#[]⟩,.slice none 0 0,.slice none 0 0],7,112, #[(0,1),(1,1),(2,2),(4,2),(6,1)]⟩
theorem aJx:ty89.ok Tryz.prog 89:=⟨_,TI.of Tryz.underlying89 (by kernel_rfl),⟨_,rfl,by kernel_rfl,fun w=>by kernel_rfl⟩⟩
def ty91:TyI:=⟨.struct [(86,0),(89,2)],.agg #[.string ⟨#[]⟩,.slice none 0 0,.int .i64 0,.int .i64 0,.slice none 0 0,.int .i64 0,.string ⟨#[]⟩,.slice none 0 0,.slice none 0 0],9,152, #[(0,2),(2,7)]⟩
theorem aJw:ty91.ok Tryz.prog 91:=⟨_,TI.of Tryz.underlying91 (by kernel_rfl),⟨_,rfl,by kernel_rfl,fun w=>by kernel_rfl⟩⟩
def ty104:TyI:=⟨.slice 4,.slice none 0 0,1,24, #[]⟩
theorem aHy:ty104.ok Tryz.prog 104:=⟨_,TI.of Tryz.underlying104 (by kernel_rfl),rfl⟩
def ty107:TyI:=⟨.struct [(3,0),(3,1),(39,2)],.agg #[.int .i64 0,.int .i64 0,.slice none 0 0],3,40, #[(0,1),(1,1),(2,1)]⟩
theorem aHx:ty107.ok Tryz.prog 107:=⟨_,TI.of Tryz.underlying107 (by kernel_rfl),⟨_,rfl,by kernel_rfl,fun w=>by kernel_rfl⟩⟩
def ty144:TyI:=⟨.slice 147,.slice none 0 0,1,24, #[]⟩
theorem aHw:ty144.ok Tryz.prog 144:=⟨_,TI.of Tryz.underlying144 (by kernel_rfl),rfl⟩
def ty147:TyI:=⟨.struct [(3,0),(3,1),(3,2)],.agg #[.int .i64 0,.int .i64 0,.int .i64 0],3,24, #[(0,1),(1,1),(2,1)]⟩
theorem aHv:ty147.ok Tryz.prog 147:=⟨_,TI.of Tryz.underlying147 (by kernel_rfl),⟨_,rfl,by kernel_rfl,fun w=>by kernel_rfl⟩⟩
def ty169:TyI:=⟨.struct [(22,0),(3,1)],.agg #[.slice none 0 0,.int .i64 0],2,32, #[(0,1),(1,1)]⟩
theorem aHu:ty169.ok Tryz.prog 169:=⟨_,TI.of Tryz.underlying169 (by kernel_rfl),⟨_,rfl,by kernel_rfl,fun w=>by kernel_rfl⟩⟩
def ty173:TyI:=⟨.slice 86,.slice none 0 0,1,24, #[]⟩
theorem aHt:ty173.ok Tryz.prog 173:=⟨_,TI.of Tryz.underlying173 (by kernel_rfl),rfl⟩
def ty177:TyI:=⟨.struct [(26,0),(36,2),(42,3),(39,4)],.agg #[.slice none 0 0,.slice none 0 0,.slice none 0 0,.slice none 0 0,.slice none 0 0],5,120, #[(0,2),(2,1),(3,1),(4,1)]⟩
theorem aHs:ty177.ok Tryz.prog 177:=⟨_,TI.of Tryz.underlying177 (by kernel_rfl),⟨_,rfl,by kernel_rfl,fun w=>by kernel_rfl⟩⟩
def ty188:TyI:=⟨.slice 42,.slice none 0 0,1,24, #[]⟩
theorem aHr:ty188.ok Tryz.prog 188:=⟨_,TI.of Tryz.underlying188 (by kernel_rfl),rfl⟩
def ty214:TyI:=⟨.struct [(59,0),(3,1),(42,2)],.agg #[.slice none 0 0,.int .i64 0,.slice none 0 0],3,56, #[(0,1),(1,1),(2,1)]⟩
theorem aHq:ty214.ok Tryz.prog 214:=⟨_,TI.of Tryz.underlying214 (by kernel_rfl),⟨_,rfl,by kernel_rfl,fun w=>by kernel_rfl⟩⟩
def ty222:TyI:=⟨.slice 9,.slice none 0 0,1,24, #[]⟩
theorem aHp:ty222.ok Tryz.prog 222:=⟨_,TI.of Tryz.underlying222 (by kernel_rfl),rfl⟩
def tyL:List (Nat×TyI):=[(3,ty3),(4,ty4),(5,ty5),(9,ty9),(22,ty22),(23,ty23),(24,ty24),(26,ty26),(36,ty36),(39,ty39),(42,ty42),(56,ty56),(58,ty58),(59,ty59),(60,ty60),(62,ty62),(67,ty67),(81,ty81),(86,ty86),(87,ty87),(89,ty89),(91,ty91),(104,ty104),(107,ty107),(144,ty144),(147,ty147),(169,ty169),(173,ty173),(177,ty177),(188,ty188),(214,ty214),(222,ty222)]
theorem aQ:TyOK Tryz.prog tyL:= .cons aLY (.cons aLX (.cons aLW (.cons aLV (.cons aJN (.cons aJM (.cons aJL (.cons aJK (.cons aJJ (.cons aJI (.cons aJH (.cons aJG (.cons aJF (.cons aJE (.cons aJD (.cons aJC (.cons aJB (.cons aJA (.cons aJz (.cons aJy (.cons aJx (.cons aJw (.cons aHy (.cons aHx (.cons aHw (.cons aHv (.cons aHu (.cons aHt (.cons aHs (.cons aHr (.cons aHq (.cons aHp (.nil))))))))))))))))))))))))))))))))
def lU:List Nd:=[⟨58,2,[(0,1),(1,1)]⟩,⟨67,2,[]⟩,⟨62,2,[(1,3)]⟩,⟨91,9,[]⟩]
theorem bU:Tryz.prog.follows .mixedOrders=true:=by kernel_rfl
end Go.Lift
