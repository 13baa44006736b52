/- The types of the program, as the evaluator knows them. -/
import Derived.Test.YtjmaejilmokdgaaGreatBTypes
import Derived.Test.YtjmaejilmokdgaaGreatChecked
set_option maxRecDepth 10000
namespace Go.Lift
open Go Go.Proofs
structure GS where
 g:Glob
 clone: ∀(l:List Int) {r:List Int},m_ownClone l=some r→VCC Tryz.prog g 103 [] [vM rI l] (ms 0 1 1 rI r) [ar 3 1 1 rI r]
 sort: ∀(x:List (List Int)) (gs:Nat) {r:List (List Int)},m_sortL x=some r→VCC Tryz.prog g 147 [ar 39 gs 1 (rL rI) x] [ms 0 gs 1 (rL rI) x,V.fn 148 []] (V.tup []) [ar 39 gs 1 (rL rI) r]
 contains: ∀(s t:List UInt8) (r:Bool),m_contains s t=some r→PCC Tryz.prog g 216 [vS s,vS t] (vB r)
 sortT: ∀(Γ:List Nd) (m m1:Nat),(ndOf Γ m).size=1→(ndOf Γ m).kid 0=some m1→ ∀(x:List (List Int)) (gs:Nat) {r:List (List Int)},m_sortL x=some r→VCC Tryz.prog g 147 [E.tree Γ m gs (List.map (rL rI) x) []] [ms 0 gs 1 (rL rI) x,V.fn 148 []] (V.tup []) [E.tree Γ m gs (List.map (rL rI) r) []]
 compT: ∀(Γ:List Nd) (m m1:Nat),(ndOf Γ m).size=1→(ndOf Γ m).kid 0=some m1→ ∀(x:List (List Int)) (gs:Nat),(∀l∈x,l.length≤1000000000)→VCC Tryz.prog g 149 [E.tree Γ m gs (List.map (rL rI) x) []] [ms 0 gs 1 (rL rI) x,V.fn 57 []] (ms 0 gs 1 (rL rI) (ddL x)) [E.tree Γ m gs (List.map (rL rI) (ddL x)) []]
def ty3:TyI:=⟨.int .i64,.int .i64 0,1,8, #[]⟩
theorem aOA:ty3.ok Tryz.prog 3:=⟨_,TI.of Tryz.underlying3 (by kernel_rfl),rfl⟩
def ty4:TyI:=⟨.bool,.bool false,1,1, #[]⟩
theorem aOz:ty4.ok Tryz.prog 4:=⟨_,TI.of Tryz.underlying4 (by kernel_rfl),rfl⟩
def ty5:TyI:=⟨.int .u8,.int .u8 0,1,1, #[]⟩
theorem aOy:ty5.ok Tryz.prog 5:=⟨_,TI.of Tryz.underlying5 (by kernel_rfl),rfl⟩
def ty9:TyI:=⟨.string,.string ⟨#[]⟩,1,16, #[]⟩
theorem aOx:ty9.ok Tryz.prog 9:=⟨_,TI.of Tryz.underlying9 (by kernel_rfl),rfl⟩
def ty22:TyI:=⟨.slice 5,.slice none 0 0,1,24, #[]⟩
theorem aMF:ty22.ok Tryz.prog 22:=⟨_,TI.of Tryz.underlying22 (by kernel_rfl),rfl⟩
def ty23:TyI:=⟨.slice 81,.slice none 0 0,1,24, #[]⟩
theorem aME:ty23.ok Tryz.prog 23:=⟨_,TI.of Tryz.underlying23 (by kernel_rfl),rfl⟩
def ty24:TyI:=⟨.slice 62,.slice none 0 0,1,24, #[]⟩
theorem aMD:ty24.ok Tryz.prog 24:=⟨_,TI.of Tryz.underlying24 (by kernel_rfl),rfl⟩
def ty26:TyI:=⟨.struct [(23,0),(24,1)],.agg #[.slice none 0 0,.slice none 0 0],2,48, #[(0,1),(1,1)]⟩
theorem aMC:ty26.ok Tryz.prog 26:=⟨_,TI.of Tryz.underlying26 (by kernel_rfl),⟨_,rfl,by kernel_rfl,fun w=>by kernel_rfl⟩⟩
def ty36:TyI:=⟨.slice 107,.slice none 0 0,1,24, #[]⟩
theorem aMB:ty36.ok Tryz.prog 36:=⟨_,TI.of Tryz.underlying36 (by kernel_rfl),rfl⟩
def ty39:TyI:=⟨.slice 3,.slice none 0 0,1,24, #[]⟩
theorem aMA:ty39.ok Tryz.prog 39:=⟨_,TI.of Tryz.underlying39 (by kernel_rfl),rfl⟩
def ty42:TyI:=⟨.slice 39,.slice none 0 0,1,24, #[]⟩
theorem aMz:ty42.ok Tryz.prog 42:=⟨_,TI.of Tryz.underlying42 (by kernel_rfl),rfl⟩
def ty56:TyI:=⟨.slice 67,.slice none 0 0,1,24, #[]⟩
theorem aMy:ty56.ok Tryz.prog 56:=⟨_,TI.of Tryz.underlying56 (by kernel_rfl),rfl⟩
def ty58:TyI:=⟨.struct [(56,0),(56,1)],.agg #[.slice none 0 0,.slice none 0 0],2,48, #[(0,1),(1,1)]⟩
theorem aMx:ty58.ok Tryz.prog 58:=⟨_,TI.of Tryz.underlying58 (by kernel_rfl),⟨_,rfl,by kernel_rfl,fun w=>by kernel_rfl⟩⟩
def ty59:TyI:=⟨.slice 58,.slice none 0 0,1,24, #[]⟩
theorem aMw:ty59.ok Tryz.prog 59:=⟨_,TI.of Tryz.underlying59 (by kernel_rfl),rfl⟩
def ty60:TyI:=⟨.slice 91,.slice none 0 0,1,24, #[]⟩
theorem aMv:ty60.ok Tryz.prog 60:=⟨_,TI.of Tryz.underlying60 (by kernel_rfl),rfl⟩
def ty62:TyI:=⟨.struct [(59,0),(60,1)],.agg #[.slice none 0 0,.slice none 0 0],2,48, #[(0,1),(1,1)]⟩
theorem aMu:ty62.ok Tryz.prog 62:=⟨_,TI.of Tryz.underlying62 (by kernel_rfl),⟨_,rfl,by kernel_rfl,fun w=>by kernel_rfl⟩⟩
def ty67:TyI:=⟨.struct [(39,0),(3,1)],.agg #[.slice none 0 0,.int .i64 0],2,32, #[(0,1),(1,1)]⟩
theorem aMt:ty67.ok Tryz.prog 67:=⟨_,TI.of Tryz.underlying67 (by kernel_rfl),⟨_,rfl,by kernel_rfl,fun w=>by kernel_rfl⟩⟩
def ty81:TyI:=⟨.struct [(9,0),(39,1)],.agg #[.string ⟨#[]⟩,.slice none 0 0],2,40, #[(0,1),(1,1)]⟩
theorem aMs:ty81.ok Tryz.prog 81:=⟨_,TI.of Tryz.underlying81 (by kernel_rfl),⟨_,rfl,by kernel_rfl,fun w=>by kernel_rfl⟩⟩
def ty86:TyI:=⟨.struct [(9,0),(56,1)],.agg #[.string ⟨#[]⟩,.slice none 0 0],2,40, #[(0,1),(1,1)]⟩
theorem aMr:ty86.ok Tryz.prog 86:=⟨_,TI.of Tryz.underlying86 (by kernel_rfl),⟨_,rfl,by kernel_rfl,fun w=>by kernel_rfl⟩⟩
def ty87:TyI:=⟨.slice 89,.slice none 0 0,1,24, #[]⟩
theorem aMq:ty87.ok Tryz.prog 87:=⟨_,TI.of Tryz.underlying87 (by kernel_rfl),rfl⟩
def ty89:TyI:=⟨.struct [(3,0),(3,1),(67,2),(86,4),(87,6)],.agg #[.int .i64 0,.int .i64 0,.slice none 0 0,.int .i64 0,.string ⟨#[]⟩,.slice none 0 0,.slice none 0 0],7,112, #[(0,1),(1,1),(2,2),(4,2),(6,1)]⟩
theorem aMp:ty89.ok Tryz.prog 89:=⟨_,TI.of Tryz.underlying89 (by kernel_rfl),⟨_,rfl,by kernel_rfl,fun w=>by kernel_rfl⟩⟩
def ty91:TyI:=⟨.struct [(86,0),(89,2)],.agg #[.string ⟨#[]⟩,.slice none 0 0,.int .i64 0,.int .i64 0,.slice none 0 0,.int .i64 0,.string ⟨#[]⟩,.slice none 0 0,.slice none 0 0],9,152, #[(0,2),(2,7)]⟩
theorem aMo:ty91.ok Tryz.prog 91:=⟨_,TI.of Tryz.underlying91 (by kernel_rfl),⟨_,rfl,by kernel_rfl,fun w=>by kernel_rfl⟩⟩
def ty107:TyI:=⟨.struct [(3,0),(3,1),(39,2)],.agg #[.int .i64 0,.int .i64 0,.slice none 0 0],3,40, #[(0,1),(1,1),(2,1)]⟩
theorem aJ0:ty107.ok Tryz.prog 107:=⟨_,TI.of Tryz.underlying107 (by kernel_rfl),⟨_,rfl,by kernel_rfl,fun w=>by kernel_rfl⟩⟩
def ty144:TyI:=⟨.slice 147,.slice none 0 0,1,24, #[]⟩
theorem aJZ:ty144.ok Tryz.prog 144:=⟨_,TI.of Tryz.underlying144 (by kernel_rfl),rfl⟩
def ty147:TyI:=⟨.struct [(3,0),(3,1),(3,2)],.agg #[.int .i64 0,.int .i64 0,.int .i64 0],3,24, #[(0,1),(1,1),(2,1)]⟩
theorem aJY:ty147.ok Tryz.prog 147:=⟨_,TI.of Tryz.underlying147 (by kernel_rfl),⟨_,rfl,by kernel_rfl,fun w=>by kernel_rfl⟩⟩
def ty169:TyI:=⟨.struct [(22,0),(3,1)],.agg #[.slice none 0 0,.int .i64 0],2,32, #[(0,1),(1,1)]⟩
theorem aJX:ty169.ok Tryz.prog 169:=⟨_,TI.of Tryz.underlying169 (by kernel_rfl),⟨_,rfl,by kernel_rfl,fun w=>by kernel_rfl⟩⟩
def ty173:TyI:=⟨.slice 86,.slice none 0 0,1,24, #[]⟩
theorem aJW:ty173.ok Tryz.prog 173:=⟨_,TI.of Tryz.underlying173 (by kernel_rfl),rfl⟩
def ty177:TyI:=⟨.struct [(26,0),(36,2),(42,3),(39,4)],.agg #[.slice none 0 0,.slice none 0 0,.slice none 0 0,.slice none 0 0,.slice none 0 0],5,120, #[(0,2),(2,1),(3,1),(4,1)]⟩
theorem aJV:ty177.ok Tryz.prog 177:=⟨_,TI.of Tryz.underlying177 (by kernel_rfl),⟨_,rfl,by kernel_rfl,fun w=>by kernel_rfl⟩⟩
def ty194:TyI:=⟨.slice 56,.slice none 0 0,1,24, #[]⟩
theorem aJU:ty194.ok Tryz.prog 194:=⟨_,TI.of Tryz.underlying194 (by kernel_rfl),rfl⟩
def ty201:TyI:=⟨.slice 205,.slice none 0 0,1,24, #[]⟩
theorem aJT:ty201.ok Tryz.prog 201:=⟨_,TI.of Tryz.underlying201 (by kernel_rfl),rfl⟩
def ty205:TyI:=⟨.struct [(39,0),(3,1)],.agg #[.slice none 0 0,.int .i64 0],2,32, #[(0,1),(1,1)]⟩
theorem aJS:ty205.ok Tryz.prog 205:=⟨_,TI.of Tryz.underlying205 (by kernel_rfl),⟨_,rfl,by kernel_rfl,fun w=>by kernel_rfl⟩⟩
def ty214:TyI:=⟨.struct [(59,0),(3,1),(42,2)],.agg #[.slice none 0 0,.int .i64 0,.slice none 0 0],3,56, #[(0,1),(1,1),(2,1)]⟩
theorem aJR:ty214.ok Tryz.prog 214:=⟨_,TI.of Tryz.underlying214 (by kernel_rfl),⟨_,rfl,by kernel_rfl,fun w=>by kernel_rfl⟩⟩
def ty222:TyI:=⟨.slice 9,.slice none 0 0,1,24, #[]⟩
theorem aJQ:ty222.ok Tryz.prog 222:=⟨_,TI.of Tryz.underlying222 (by kernel_rfl),rfl⟩
def tyL:List (Nat×TyI):=[(3,ty3),(4,ty4),(5,ty5),(9,ty9),(22,ty22),(23,ty23),(24,ty24),(26,ty26),(36,ty36),(39,ty39),(42,ty42),(56,ty56),(58,ty58),(59,ty59),(60,ty60),(62,ty62),(67,ty67),(81,ty81),(86,ty86),(87,ty87),(89,ty89),(91,ty91),(107,ty107),(144,ty144),(147,ty147),(169,ty169),(173,ty173),(177,ty177),(194,ty194),(201,ty201),(205,ty205),(214,ty214),(222,ty222)]
theorem aQ:TyOK Tryz.prog tyL:= .cons aOA (.cons aOz (.cons aOy (.cons aOx (.cons aMF (.cons aME (.cons aMD (.cons aMC (.cons aMB (.cons aMA (.cons aMz (.cons aMy (.cons aMx (.cons aMw (.cons aMv (.cons aMu (.cons aMt (.cons aMs (.cons aMr (.cons aMq (.cons aMp (.cons aMo (.cons aJ0 (.cons aJZ (.cons aJY (.cons aJX (.cons aJW (.cons aJV (.cons aJU (.cons aJT (.cons aJS (.cons aJR (.cons aJQ (.nil)))))))))))))))))))))))))))))))))
def mZ:List Nd:=[⟨58,2,[(0,1),(1,1)]⟩,⟨67,2,[]⟩,⟨62,2,[(1,3)]⟩,⟨91,9,[]⟩]
theorem bH:Tryz.prog.follows .mixedOrders=true:=by kernel_rfl
def gE:List Nd:=[⟨62,2,[(0,1),(1,2)]⟩,⟨58,2,[(0,3),(1,3)]⟩,⟨91,9,[]⟩,⟨67,2,[]⟩,⟨56,1,[(0,3)]⟩]
end Go.Lift
