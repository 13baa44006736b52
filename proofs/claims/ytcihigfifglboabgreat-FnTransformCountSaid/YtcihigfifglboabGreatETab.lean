/- The types of the program, as the evaluator knows them. -/
import Derived.Test.YtcihigfifglboabGreatETypes
import Derived.Test.YtcihigfifglboabGreatChecked
set_option maxRecDepth 10000
namespace Go.Lift
open Go Go.Proofs
structure GS where
 g:Glob
 clone: ∀(l:List Int) {r:List Int},m_ownClone l=some r→VCC Tryz.prog g 99 [] [vM rI l] (ms 0 1 1 rI r) [ar 3 1 1 rI r]
 sort: ∀(x:List (List Int)) (gs:Nat) {r:List (List Int)},m_sortL x=some r→VCC Tryz.prog g 240 [ar 35 gs 1 (rL rI) x] [ms 0 gs 1 (rL rI) x,V.fn 219 []] (V.tup []) [ar 35 gs 1 (rL rI) r]
 contains: ∀(s t:List UInt8) (r:Bool),m_contains s t=some r→PCC Tryz.prog g 247 [vS s,vS t] (vB r)
 sortT: ∀(Γ:List Nd) (m m1:Nat),(ndOf Γ m).size=1→(ndOf Γ m).kid 0=some m1→ ∀(x:List (List Int)) (gs:Nat) {r:List (List Int)},m_sortL x=some r→VCC Tryz.prog g 240 [E.tree Γ m gs (List.map (rL rI) x) []] [ms 0 gs 1 (rL rI) x,V.fn 219 []] (V.tup []) [E.tree Γ m gs (List.map (rL rI) r) []]
 compT: ∀(Γ:List Nd) (m m1:Nat),(ndOf Γ m).size=1→(ndOf Γ m).kid 0=some m1→ ∀(x:List (List Int)) (gs:Nat),(∀l∈x,l.length≤1000000000)→VCC Tryz.prog g 241 [E.tree Γ m gs (List.map (rL rI) x) []] [ms 0 gs 1 (rL rI) x,V.fn 48 []] (ms 0 gs 1 (rL rI) (ddL x)) [E.tree Γ m gs (List.map (rL rI) (ddL x)) []]
def ty3:TyI:=⟨.int .i64,.int .i64 0,1,8, #[]⟩
theorem aPq:ty3.ok Tryz.prog 3:=⟨_,TI.of Tryz.underlying3 (by kernel_rfl),rfl⟩
def ty4:TyI:=⟨.bool,.bool false,1,1, #[]⟩
theorem aPp:ty4.ok Tryz.prog 4:=⟨_,TI.of Tryz.underlying4 (by kernel_rfl),rfl⟩
def ty5:TyI:=⟨.int .u8,.int .u8 0,1,1, #[]⟩
theorem aPo:ty5.ok Tryz.prog 5:=⟨_,TI.of Tryz.underlying5 (by kernel_rfl),rfl⟩
def ty9:TyI:=⟨.string,.string ⟨#[]⟩,1,16, #[]⟩
theorem aPn:ty9.ok Tryz.prog 9:=⟨_,TI.of Tryz.underlying9 (by kernel_rfl),rfl⟩
def ty22:TyI:=⟨.slice 5,.slice none 0 0,1,24, #[]⟩
theorem aNq:ty22.ok Tryz.prog 22:=⟨_,TI.of Tryz.underlying22 (by kernel_rfl),rfl⟩
def ty23:TyI:=⟨.slice 85,.slice none 0 0,1,24, #[]⟩
theorem aNp:ty23.ok Tryz.prog 23:=⟨_,TI.of Tryz.underlying23 (by kernel_rfl),rfl⟩
def ty24:TyI:=⟨.slice 61,.slice none 0 0,1,24, #[]⟩
theorem aNo:ty24.ok Tryz.prog 24:=⟨_,TI.of Tryz.underlying24 (by kernel_rfl),rfl⟩
def ty26:TyI:=⟨.struct [(23,0),(24,1)],.agg #[.slice none 0 0,.slice none 0 0],2,48, #[(0,1),(1,1)]⟩
theorem aNn:ty26.ok Tryz.prog 26:=⟨_,TI.of Tryz.underlying26 (by kernel_rfl),⟨_,rfl,by kernel_rfl,fun w=>by kernel_rfl⟩⟩
def ty32:TyI:=⟨.slice 105,.slice none 0 0,1,24, #[]⟩
theorem aNm:ty32.ok Tryz.prog 32:=⟨_,TI.of Tryz.underlying32 (by kernel_rfl),rfl⟩
def ty35:TyI:=⟨.slice 3,.slice none 0 0,1,24, #[]⟩
theorem aNl:ty35.ok Tryz.prog 35:=⟨_,TI.of Tryz.underlying35 (by kernel_rfl),rfl⟩
def ty58:TyI:=⟨.slice 64,.slice none 0 0,1,24, #[]⟩
theorem aNk:ty58.ok Tryz.prog 58:=⟨_,TI.of Tryz.underlying58 (by kernel_rfl),rfl⟩
def ty59:TyI:=⟨.slice 95,.slice none 0 0,1,24, #[]⟩
theorem aNj:ty59.ok Tryz.prog 59:=⟨_,TI.of Tryz.underlying59 (by kernel_rfl),rfl⟩
def ty61:TyI:=⟨.struct [(58,0),(59,1)],.agg #[.slice none 0 0,.slice none 0 0],2,48, #[(0,1),(1,1)]⟩
theorem aNi:ty61.ok Tryz.prog 61:=⟨_,TI.of Tryz.underlying61 (by kernel_rfl),⟨_,rfl,by kernel_rfl,fun w=>by kernel_rfl⟩⟩
def ty62:TyI:=⟨.slice 70,.slice none 0 0,1,24, #[]⟩
theorem aNh:ty62.ok Tryz.prog 62:=⟨_,TI.of Tryz.underlying62 (by kernel_rfl),rfl⟩
def ty64:TyI:=⟨.struct [(62,0),(62,1)],.agg #[.slice none 0 0,.slice none 0 0],2,48, #[(0,1),(1,1)]⟩
theorem aNg:ty64.ok Tryz.prog 64:=⟨_,TI.of Tryz.underlying64 (by kernel_rfl),⟨_,rfl,by kernel_rfl,fun w=>by kernel_rfl⟩⟩
def ty70:TyI:=⟨.struct [(35,0),(3,1)],.agg #[.slice none 0 0,.int .i64 0],2,32, #[(0,1),(1,1)]⟩
theorem aNf:ty70.ok Tryz.prog 70:=⟨_,TI.of Tryz.underlying70 (by kernel_rfl),⟨_,rfl,by kernel_rfl,fun w=>by kernel_rfl⟩⟩
def ty79:TyI:=⟨.slice 35,.slice none 0 0,1,24, #[]⟩
theorem aNe:ty79.ok Tryz.prog 79:=⟨_,TI.of Tryz.underlying79 (by kernel_rfl),rfl⟩
def ty85:TyI:=⟨.struct [(9,0),(35,1)],.agg #[.string ⟨#[]⟩,.slice none 0 0],2,40, #[(0,1),(1,1)]⟩
theorem aNd:ty85.ok Tryz.prog 85:=⟨_,TI.of Tryz.underlying85 (by kernel_rfl),⟨_,rfl,by kernel_rfl,fun w=>by kernel_rfl⟩⟩
def ty90:TyI:=⟨.struct [(9,0),(62,1)],.agg #[.string ⟨#[]⟩,.slice none 0 0],2,40, #[(0,1),(1,1)]⟩
theorem aNc:ty90.ok Tryz.prog 90:=⟨_,TI.of Tryz.underlying90 (by kernel_rfl),⟨_,rfl,by kernel_rfl,fun w=>by kernel_rfl⟩⟩
def ty91:TyI:=⟨.slice 93,.slice none 0 0,1,24, #[]⟩
theorem aNb:ty91.ok Tryz.prog 91:=⟨_,TI.of Tryz.underlying91 (by kernel_rfl),rfl⟩
def ty93:TyI:=⟨.struct [(3,0),(3,1),(70,2),(90,4),(91,6)],.agg #[.int .i64 0,.int .i64 0,.slice none 0 0,.int .i64 0,.string ⟨#[]⟩,.slice none 0 0,.slice none 0 0],7,112, #[(0,1),(1,1),(2,2),(4,2),(6,1)]⟩
theorem aNa:ty93.ok Tryz.prog 93:=⟨_,TI.of Tryz.underlying93 (by kernel_rfl),⟨_,rfl,by kernel_rfl,fun w=>by kernel_rfl⟩⟩
def ty95:TyI:=⟨.struct [(90,0),(93,2)],.agg #[.string ⟨#[]⟩,.slice none 0 0,.int .i64 0,.int .i64 0,.slice none 0 0,.int .i64 0,.string ⟨#[]⟩,.slice none 0 0,.slice none 0 0],9,152, #[(0,2),(2,7)]⟩
theorem aM9:ty95.ok Tryz.prog 95:=⟨_,TI.of Tryz.underlying95 (by kernel_rfl),⟨_,rfl,by kernel_rfl,fun w=>by kernel_rfl⟩⟩
def ty102:TyI:=⟨.slice 4,.slice none 0 0,1,24, #[]⟩
theorem aKD:ty102.ok Tryz.prog 102:=⟨_,TI.of Tryz.underlying102 (by kernel_rfl),rfl⟩
def ty105:TyI:=⟨.struct [(3,0),(3,1),(35,2)],.agg #[.int .i64 0,.int .i64 0,.slice none 0 0],3,40, #[(0,1),(1,1),(2,1)]⟩
theorem aKC:ty105.ok Tryz.prog 105:=⟨_,TI.of Tryz.underlying105 (by kernel_rfl),⟨_,rfl,by kernel_rfl,fun w=>by kernel_rfl⟩⟩
def ty123:TyI:=⟨.struct [(22,0),(3,1)],.agg #[.slice none 0 0,.int .i64 0],2,32, #[(0,1),(1,1)]⟩
theorem aKB:ty123.ok Tryz.prog 123:=⟨_,TI.of Tryz.underlying123 (by kernel_rfl),⟨_,rfl,by kernel_rfl,fun w=>by kernel_rfl⟩⟩
def ty134:TyI:=⟨.slice 137,.slice none 0 0,1,24, #[]⟩
theorem aKA:ty134.ok Tryz.prog 134:=⟨_,TI.of Tryz.underlying134 (by kernel_rfl),rfl⟩
def ty137:TyI:=⟨.struct [(3,0),(3,1),(3,2)],.agg #[.int .i64 0,.int .i64 0,.int .i64 0],3,24, #[(0,1),(1,1),(2,1)]⟩
theorem aKz:ty137.ok Tryz.prog 137:=⟨_,TI.of Tryz.underlying137 (by kernel_rfl),⟨_,rfl,by kernel_rfl,fun w=>by kernel_rfl⟩⟩
def ty157:TyI:=⟨.slice 90,.slice none 0 0,1,24, #[]⟩
theorem aKy:ty157.ok Tryz.prog 157:=⟨_,TI.of Tryz.underlying157 (by kernel_rfl),rfl⟩
def ty161:TyI:=⟨.slice 9,.slice none 0 0,1,24, #[]⟩
theorem aKx:ty161.ok Tryz.prog 161:=⟨_,TI.of Tryz.underlying161 (by kernel_rfl),rfl⟩
def ty178:TyI:=⟨.struct [(26,0),(32,2),(79,3),(35,4)],.agg #[.slice none 0 0,.slice none 0 0,.slice none 0 0,.slice none 0 0,.slice none 0 0],5,120, #[(0,2),(2,1),(3,1),(4,1)]⟩
theorem aKw:ty178.ok Tryz.prog 178:=⟨_,TI.of Tryz.underlying178 (by kernel_rfl),⟨_,rfl,by kernel_rfl,fun w=>by kernel_rfl⟩⟩
def ty196:TyI:=⟨.slice 62,.slice none 0 0,1,24, #[]⟩
theorem aKv:ty196.ok Tryz.prog 196:=⟨_,TI.of Tryz.underlying196 (by kernel_rfl),rfl⟩
def ty201:TyI:=⟨.slice 205,.slice none 0 0,1,24, #[]⟩
theorem aKu:ty201.ok Tryz.prog 201:=⟨_,TI.of Tryz.underlying201 (by kernel_rfl),rfl⟩
def ty205:TyI:=⟨.struct [(35,0),(3,1)],.agg #[.slice none 0 0,.int .i64 0],2,32, #[(0,1),(1,1)]⟩
theorem aKt:ty205.ok Tryz.prog 205:=⟨_,TI.of Tryz.underlying205 (by kernel_rfl),⟨_,rfl,by kernel_rfl,fun w=>by kernel_rfl⟩⟩
def ty214:TyI:=⟨.struct [(58,0),(3,1),(79,2)],.agg #[.slice none 0 0,.int .i64 0,.slice none 0 0],3,56, #[(0,1),(1,1),(2,1)]⟩
theorem aKs:ty214.ok Tryz.prog 214:=⟨_,TI.of Tryz.underlying214 (by kernel_rfl),⟨_,rfl,by kernel_rfl,fun w=>by kernel_rfl⟩⟩
def tyL:List (Nat×TyI):=[(3,ty3),(4,ty4),(5,ty5),(9,ty9),(22,ty22),(23,ty23),(24,ty24),(26,ty26),(32,ty32),(35,ty35),(58,ty58),(59,ty59),(61,ty61),(62,ty62),(64,ty64),(70,ty70),(79,ty79),(85,ty85),(90,ty90),(91,ty91),(93,ty93),(95,ty95),(102,ty102),(105,ty105),(123,ty123),(134,ty134),(137,ty137),(157,ty157),(161,ty161),(178,ty178),(196,ty196),(201,ty201),(205,ty205),(214,ty214)]
theorem aL:TyOK Tryz.prog tyL:= .cons aPq (.cons aPp (.cons aPo (.cons aPn (.cons aNq (.cons aNp (.cons aNo (.cons aNn (.cons aNm (.cons aNl (.cons aNk (.cons aNj (.cons aNi (.cons aNh (.cons aNg (.cons aNf (.cons aNe (.cons aNd (.cons aNc (.cons aNb (.cons aNa (.cons aM9 (.cons aKD (.cons aKC (.cons aKB (.cons aKA (.cons aKz (.cons aKy (.cons aKx (.cons aKw (.cons aKv (.cons aKu (.cons aKt (.cons aKs (.nil))))))))))))))))))))))))))))))))))
def E9:List Nd:=[⟨64,2,[(0,1),(1,1)]⟩,⟨70,2,[]⟩,⟨61,2,[(1,3)]⟩,⟨95,9,[]⟩]
theorem aV:Tryz.prog.follows .mixedOrders=true:=by kernel_rfl
def iM:List Nd:=[⟨61,2,[(0,1),(1,2)]⟩,⟨64,2,[(0,3),(1,3)]⟩,⟨95,9,[]⟩,⟨70,2,[]⟩,⟨62,1,[(0,3)]⟩]
end Go.Lift
