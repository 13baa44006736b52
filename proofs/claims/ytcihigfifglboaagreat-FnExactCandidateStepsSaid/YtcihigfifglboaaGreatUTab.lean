/- The types of the program, as the evaluator knows them. -/
import Derived.Test.YtcihigfifglboaaGreatUTypes
import Derived.Test.YtcihigfifglboaaGreatChecked
set_option maxRecDepth 10000
namespace Go.Lift
open Go Go.Proofs
structure GS where
 g:Glob
 clone: ∀(l:List Int) {r:List Int},m_ownClone l=some r→VCC Tryz.prog g 45 [] [vM rI l] (ms 0 1 1 rI r) [ar 3 1 1 rI r]
 contains: ∀(s t:List UInt8) (r:Bool),m_contains s t=some r→PCC Tryz.prog g 192 [vS s,vS t] (vB r)
def ty3:TyI:=⟨.int .i64,.int .i64 0,1,8, #[]⟩
theorem aGr:ty3.ok Tryz.prog 3:=⟨_,TI.of Tryz.underlying3 (by kernel_rfl),rfl⟩
def ty5:TyI:=⟨.int .u8,.int .u8 0,1,1, #[]⟩
theorem aGq:ty5.ok Tryz.prog 5:=⟨_,TI.of Tryz.underlying5 (by kernel_rfl),rfl⟩
def ty9:TyI:=⟨.string,.string ⟨#[]⟩,1,16, #[]⟩
theorem aGp:ty9.ok Tryz.prog 9:=⟨_,TI.of Tryz.underlying9 (by kernel_rfl),rfl⟩
def ty22:TyI:=⟨.slice 99,.slice none 0 0,1,24, #[]⟩
theorem aEW:ty22.ok Tryz.prog 22:=⟨_,TI.of Tryz.underlying22 (by kernel_rfl),rfl⟩
def ty23:TyI:=⟨.slice 104,.slice none 0 0,1,24, #[]⟩
theorem aEV:ty23.ok Tryz.prog 23:=⟨_,TI.of Tryz.underlying23 (by kernel_rfl),rfl⟩
def ty25:TyI:=⟨.struct [(22,0),(23,1)],.agg #[.slice none 0 0,.slice none 0 0],2,48, #[(0,1),(1,1)]⟩
theorem aEU:ty25.ok Tryz.prog 25:=⟨_,TI.of Tryz.underlying25 (by kernel_rfl),⟨_,rfl,by kernel_rfl,fun w=>by kernel_rfl⟩⟩
def ty27:TyI:=⟨.slice 59,.slice none 0 0,1,24, #[]⟩
theorem aET:ty27.ok Tryz.prog 27:=⟨_,TI.of Tryz.underlying27 (by kernel_rfl),rfl⟩
def ty29:TyI:=⟨.slice 108,.slice none 0 0,1,24, #[]⟩
theorem aES:ty29.ok Tryz.prog 29:=⟨_,TI.of Tryz.underlying29 (by kernel_rfl),rfl⟩
def ty30:TyI:=⟨.slice 57,.slice none 0 0,1,24, #[]⟩
theorem aER:ty30.ok Tryz.prog 30:=⟨_,TI.of Tryz.underlying30 (by kernel_rfl),rfl⟩
def ty32:TyI:=⟨.struct [(29,0),(30,1)],.agg #[.slice none 0 0,.slice none 0 0],2,48, #[(0,1),(1,1)]⟩
theorem aEQ:ty32.ok Tryz.prog 32:=⟨_,TI.of Tryz.underlying32 (by kernel_rfl),⟨_,rfl,by kernel_rfl,fun w=>by kernel_rfl⟩⟩
def ty39:TyI:=⟨.slice 3,.slice none 0 0,1,24, #[]⟩
theorem aEP:ty39.ok Tryz.prog 39:=⟨_,TI.of Tryz.underlying39 (by kernel_rfl),rfl⟩
def ty54:TyI:=⟨.slice 90,.slice none 0 0,1,24, #[]⟩
theorem aEO:ty54.ok Tryz.prog 54:=⟨_,TI.of Tryz.underlying54 (by kernel_rfl),rfl⟩
def ty55:TyI:=⟨.slice 127,.slice none 0 0,1,24, #[]⟩
theorem aEN:ty55.ok Tryz.prog 55:=⟨_,TI.of Tryz.underlying55 (by kernel_rfl),rfl⟩
def ty57:TyI:=⟨.struct [(54,0),(55,1)],.agg #[.slice none 0 0,.slice none 0 0],2,48, #[(0,1),(1,1)]⟩
theorem aEM:ty57.ok Tryz.prog 57:=⟨_,TI.of Tryz.underlying57 (by kernel_rfl),⟨_,rfl,by kernel_rfl,fun w=>by kernel_rfl⟩⟩
def ty59:TyI:=⟨.struct [(3,0),(3,1),(3,2),(3,3)],.agg #[.int .i64 0,.int .i64 0,.int .i64 0,.int .i64 0],4,32, #[(0,1),(1,1),(2,1),(3,1)]⟩
theorem aEL:ty59.ok Tryz.prog 59:=⟨_,TI.of Tryz.underlying59 (by kernel_rfl),⟨_,rfl,by kernel_rfl,fun w=>by kernel_rfl⟩⟩
def ty68:TyI:=⟨.slice 72,.slice none 0 0,1,24, #[]⟩
theorem aEK:ty68.ok Tryz.prog 68:=⟨_,TI.of Tryz.underlying68 (by kernel_rfl),rfl⟩
def ty72:TyI:=⟨.struct [(3,0),(3,1),(39,2)],.agg #[.int .i64 0,.int .i64 0,.slice none 0 0],3,40, #[(0,1),(1,1),(2,1)]⟩
theorem aEJ:ty72.ok Tryz.prog 72:=⟨_,TI.of Tryz.underlying72 (by kernel_rfl),⟨_,rfl,by kernel_rfl,fun w=>by kernel_rfl⟩⟩
def ty78:TyI:=⟨.struct [(39,0),(3,1)],.agg #[.slice none 0 0,.int .i64 0],2,32, #[(0,1),(1,1)]⟩
theorem aEI:ty78.ok Tryz.prog 78:=⟨_,TI.of Tryz.underlying78 (by kernel_rfl),⟨_,rfl,by kernel_rfl,fun w=>by kernel_rfl⟩⟩
def ty88:TyI:=⟨.slice 78,.slice none 0 0,1,24, #[]⟩
theorem aEH:ty88.ok Tryz.prog 88:=⟨_,TI.of Tryz.underlying88 (by kernel_rfl),rfl⟩
def ty90:TyI:=⟨.struct [(88,0),(88,1)],.agg #[.slice none 0 0,.slice none 0 0],2,48, #[(0,1),(1,1)]⟩
theorem aEG:ty90.ok Tryz.prog 90:=⟨_,TI.of Tryz.underlying90 (by kernel_rfl),⟨_,rfl,by kernel_rfl,fun w=>by kernel_rfl⟩⟩
def ty99:TyI:=⟨.struct [(9,0),(39,1)],.agg #[.string ⟨#[]⟩,.slice none 0 0],2,40, #[(0,1),(1,1)]⟩
theorem aEF:ty99.ok Tryz.prog 99:=⟨_,TI.of Tryz.underlying99 (by kernel_rfl),⟨_,rfl,by kernel_rfl,fun w=>by kernel_rfl⟩⟩
def ty101:TyI:=⟨.slice 181,.slice none 0 0,1,24, #[]⟩
theorem aCI:ty101.ok Tryz.prog 101:=⟨_,TI.of Tryz.underlying101 (by kernel_rfl),rfl⟩
def ty102:TyI:=⟨.slice 190,.slice none 0 0,1,24, #[]⟩
theorem aCH:ty102.ok Tryz.prog 102:=⟨_,TI.of Tryz.underlying102 (by kernel_rfl),rfl⟩
def ty104:TyI:=⟨.struct [(101,0),(102,1)],.agg #[.slice none 0 0,.slice none 0 0],2,48, #[(0,1),(1,1)]⟩
theorem aCG:ty104.ok Tryz.prog 104:=⟨_,TI.of Tryz.underlying104 (by kernel_rfl),⟨_,rfl,by kernel_rfl,fun w=>by kernel_rfl⟩⟩
def ty108:TyI:=⟨.struct [(9,0),(39,1)],.agg #[.string ⟨#[]⟩,.slice none 0 0],2,40, #[(0,1),(1,1)]⟩
theorem aCF:ty108.ok Tryz.prog 108:=⟨_,TI.of Tryz.underlying108 (by kernel_rfl),⟨_,rfl,by kernel_rfl,fun w=>by kernel_rfl⟩⟩
def ty119:TyI:=⟨.slice 39,.slice none 0 0,1,24, #[]⟩
theorem aCE:ty119.ok Tryz.prog 119:=⟨_,TI.of Tryz.underlying119 (by kernel_rfl),rfl⟩
def ty122:TyI:=⟨.struct [(9,0),(88,1)],.agg #[.string ⟨#[]⟩,.slice none 0 0],2,40, #[(0,1),(1,1)]⟩
theorem aCD:ty122.ok Tryz.prog 122:=⟨_,TI.of Tryz.underlying122 (by kernel_rfl),⟨_,rfl,by kernel_rfl,fun w=>by kernel_rfl⟩⟩
def ty123:TyI:=⟨.slice 125,.slice none 0 0,1,24, #[]⟩
theorem aCC:ty123.ok Tryz.prog 123:=⟨_,TI.of Tryz.underlying123 (by kernel_rfl),rfl⟩
def ty125:TyI:=⟨.struct [(3,0),(3,1),(78,2),(122,4),(123,6)],.agg #[.int .i64 0,.int .i64 0,.slice none 0 0,.int .i64 0,.string ⟨#[]⟩,.slice none 0 0,.slice none 0 0],7,112, #[(0,1),(1,1),(2,2),(4,2),(6,1)]⟩
theorem aCB:ty125.ok Tryz.prog 125:=⟨_,TI.of Tryz.underlying125 (by kernel_rfl),⟨_,rfl,by kernel_rfl,fun w=>by kernel_rfl⟩⟩
def ty127:TyI:=⟨.struct [(122,0),(125,2)],.agg #[.string ⟨#[]⟩,.slice none 0 0,.int .i64 0,.int .i64 0,.slice none 0 0,.int .i64 0,.string ⟨#[]⟩,.slice none 0 0,.slice none 0 0],9,152, #[(0,2),(2,7)]⟩
theorem aCA:ty127.ok Tryz.prog 127:=⟨_,TI.of Tryz.underlying127 (by kernel_rfl),⟨_,rfl,by kernel_rfl,fun w=>by kernel_rfl⟩⟩
def ty159:TyI:=⟨.slice 5,.slice none 0 0,1,24, #[]⟩
theorem aCz:ty159.ok Tryz.prog 159:=⟨_,TI.of Tryz.underlying159 (by kernel_rfl),rfl⟩
def ty179:TyI:=⟨.slice 185,.slice none 0 0,1,24, #[]⟩
theorem aCy:ty179.ok Tryz.prog 179:=⟨_,TI.of Tryz.underlying179 (by kernel_rfl),rfl⟩
def ty181:TyI:=⟨.struct [(179,0),(179,1)],.agg #[.slice none 0 0,.slice none 0 0],2,48, #[(0,1),(1,1)]⟩
theorem aCx:ty181.ok Tryz.prog 181:=⟨_,TI.of Tryz.underlying181 (by kernel_rfl),⟨_,rfl,by kernel_rfl,fun w=>by kernel_rfl⟩⟩
def ty184:TyI:=⟨.struct [(9,0),(179,1)],.agg #[.string ⟨#[]⟩,.slice none 0 0],2,40, #[(0,1),(1,1)]⟩
theorem aCw:ty184.ok Tryz.prog 184:=⟨_,TI.of Tryz.underlying184 (by kernel_rfl),⟨_,rfl,by kernel_rfl,fun w=>by kernel_rfl⟩⟩
def ty185:TyI:=⟨.struct [(39,0),(3,1)],.agg #[.slice none 0 0,.int .i64 0],2,32, #[(0,1),(1,1)]⟩
theorem aCv:ty185.ok Tryz.prog 185:=⟨_,TI.of Tryz.underlying185 (by kernel_rfl),⟨_,rfl,by kernel_rfl,fun w=>by kernel_rfl⟩⟩
def ty186:TyI:=⟨.slice 188,.slice none 0 0,1,24, #[]⟩
theorem aCu:ty186.ok Tryz.prog 186:=⟨_,TI.of Tryz.underlying186 (by kernel_rfl),rfl⟩
def ty188:TyI:=⟨.struct [(3,0),(3,1),(185,2),(184,4),(186,6)],.agg #[.int .i64 0,.int .i64 0,.slice none 0 0,.int .i64 0,.string ⟨#[]⟩,.slice none 0 0,.slice none 0 0],7,112, #[(0,1),(1,1),(2,2),(4,2),(6,1)]⟩
theorem aCt:ty188.ok Tryz.prog 188:=⟨_,TI.of Tryz.underlying188 (by kernel_rfl),⟨_,rfl,by kernel_rfl,fun w=>by kernel_rfl⟩⟩
def ty190:TyI:=⟨.struct [(184,0),(188,2)],.agg #[.string ⟨#[]⟩,.slice none 0 0,.int .i64 0,.int .i64 0,.slice none 0 0,.int .i64 0,.string ⟨#[]⟩,.slice none 0 0,.slice none 0 0],9,152, #[(0,2),(2,7)]⟩
theorem aCs:ty190.ok Tryz.prog 190:=⟨_,TI.of Tryz.underlying190 (by kernel_rfl),⟨_,rfl,by kernel_rfl,fun w=>by kernel_rfl⟩⟩
def ty196:TyI:=⟨.slice 122,.slice none 0 0,1,24, #[]⟩
theorem aCr:ty196.ok Tryz.prog 196:=⟨_,TI.of Tryz.underlying196 (by kernel_rfl),rfl⟩
def ty203:TyI:=⟨.struct [(54,0),(3,1),(119,2)],.agg #[.slice none 0 0,.int .i64 0,.slice none 0 0],3,56, #[(0,1),(1,1),(2,1)]⟩
theorem aCq:ty203.ok Tryz.prog 203:=⟨_,TI.of Tryz.underlying203 (by kernel_rfl),⟨_,rfl,by kernel_rfl,fun w=>by kernel_rfl⟩⟩
def tyL:List (Nat×TyI):=[(3,ty3),(5,ty5),(9,ty9),(22,ty22),(23,ty23),(25,ty25),(27,ty27),(29,ty29),(30,ty30),(32,ty32),(39,ty39),(54,ty54),(55,ty55),(57,ty57),(59,ty59),(68,ty68),(72,ty72),(78,ty78),(88,ty88),(90,ty90),(99,ty99),(101,ty101),(102,ty102),(104,ty104),(108,ty108),(119,ty119),(122,ty122),(123,ty123),(125,ty125),(127,ty127),(159,ty159),(179,ty179),(181,ty181),(184,ty184),(185,ty185),(186,ty186),(188,ty188),(190,ty190),(196,ty196),(203,ty203)]
theorem aU:TyOK Tryz.prog tyL:= .cons aGr (.cons aGq (.cons aGp (.cons aEW (.cons aEV (.cons aEU (.cons aET (.cons aES (.cons aER (.cons aEQ (.cons aEP (.cons aEO (.cons aEN (.cons aEM (.cons aEL (.cons aEK (.cons aEJ (.cons aEI (.cons aEH (.cons aEG (.cons aEF (.cons aCI (.cons aCH (.cons aCG (.cons aCF (.cons aCE (.cons aCD (.cons aCC (.cons aCB (.cons aCA (.cons aCz (.cons aCy (.cons aCx (.cons aCw (.cons aCv (.cons aCu (.cons aCt (.cons aCs (.cons aCr (.cons aCq (.nil))))))))))))))))))))))))))))))))))))))))
theorem dV:Tryz.prog.follows .mixedOrders=true:=by kernel_rfl
end Go.Lift
