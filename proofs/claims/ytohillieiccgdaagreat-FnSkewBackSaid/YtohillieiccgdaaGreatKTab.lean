/- The types of the program, as the evaluator knows them. -/
import Derived.Test.YtohillieiccgdaaGreatKTypes
import Derived.Test.YtohillieiccgdaaGreatChecked
set_option maxRecDepth 10000
namespace Go.Lift
open Go Go.Proofs
structure GS where
 g:Glob
 clone: ∀(l:List Int) {r:List Int},m_ownClone l=some r→VCC Tryz.prog g 62 [] [vM rI l] (ms 0 1 1 rI r) [ar 3 1 1 rI r]
 contains: ∀(s t:List UInt8) (r:Bool),m_contains s t=some r→PCC Tryz.prog g 273 [vS s,vS t] (vB r)
def ty3:TyI:=⟨.int .i64,.int .i64 0,1,8, #[]⟩
theorem aHD:ty3.ok Tryz.prog 3:=⟨_,TI.of Tryz.underlying3 (by kernel_rfl),rfl⟩
def ty4:TyI:=⟨.bool,.bool false,1,1, #[]⟩
theorem aHC:ty4.ok Tryz.prog 4:=⟨_,TI.of Tryz.underlying4 (by kernel_rfl),rfl⟩
def ty5:TyI:=⟨.int .u8,.int .u8 0,1,1, #[]⟩
theorem aHB:ty5.ok Tryz.prog 5:=⟨_,TI.of Tryz.underlying5 (by kernel_rfl),rfl⟩
def ty9:TyI:=⟨.string,.string ⟨#[]⟩,1,16, #[]⟩
theorem aHA:ty9.ok Tryz.prog 9:=⟨_,TI.of Tryz.underlying9 (by kernel_rfl),rfl⟩
def ty22:TyI:=⟨.slice 5,.slice none 0 0,1,24, #[]⟩
theorem aGh:ty22.ok Tryz.prog 22:=⟨_,TI.of Tryz.underlying22 (by kernel_rfl),rfl⟩
def ty23:TyI:=⟨.slice 134,.slice none 0 0,1,24, #[]⟩
theorem aGg:ty23.ok Tryz.prog 23:=⟨_,TI.of Tryz.underlying23 (by kernel_rfl),rfl⟩
def ty24:TyI:=⟨.slice 128,.slice none 0 0,1,24, #[]⟩
theorem aGf:ty24.ok Tryz.prog 24:=⟨_,TI.of Tryz.underlying24 (by kernel_rfl),rfl⟩
def ty26:TyI:=⟨.struct [(23,0),(24,1)],.agg #[.slice none 0 0,.slice none 0 0],2,48, #[(0,1),(1,1)]⟩
theorem aGe:ty26.ok Tryz.prog 26:=⟨_,TI.of Tryz.underlying26 (by kernel_rfl),⟨_,rfl,by kernel_rfl,fun w=>by kernel_rfl⟩⟩
def ty27:TyI:=⟨.slice 3,.slice none 0 0,1,24, #[]⟩
theorem aGd:ty27.ok Tryz.prog 27:=⟨_,TI.of Tryz.underlying27 (by kernel_rfl),rfl⟩
def ty34:TyI:=⟨.slice 38,.slice none 0 0,1,24, #[]⟩
theorem aGc:ty34.ok Tryz.prog 34:=⟨_,TI.of Tryz.underlying34 (by kernel_rfl),rfl⟩
def ty38:TyI:=⟨.struct [(3,0),(3,1),(27,2)],.agg #[.int .i64 0,.int .i64 0,.slice none 0 0],3,40, #[(0,1),(1,1),(2,1)]⟩
theorem aGb:ty38.ok Tryz.prog 38:=⟨_,TI.of Tryz.underlying38 (by kernel_rfl),⟨_,rfl,by kernel_rfl,fun w=>by kernel_rfl⟩⟩
def ty66:TyI:=⟨.slice 27,.slice none 0 0,1,24, #[]⟩
theorem aGa:ty66.ok Tryz.prog 66:=⟨_,TI.of Tryz.underlying66 (by kernel_rfl),rfl⟩
def ty105:TyI:=⟨.slice 109,.slice none 0 0,1,24, #[]⟩
theorem aEl:ty105.ok Tryz.prog 105:=⟨_,TI.of Tryz.underlying105 (by kernel_rfl),rfl⟩
def ty107:TyI:=⟨.struct [(9,0),(105,1)],.agg #[.string ⟨#[]⟩,.slice none 0 0],2,40, #[(0,1),(1,1)]⟩
theorem aEk:ty107.ok Tryz.prog 107:=⟨_,TI.of Tryz.underlying107 (by kernel_rfl),⟨_,rfl,by kernel_rfl,fun w=>by kernel_rfl⟩⟩
def ty109:TyI:=⟨.struct [(27,0),(3,1)],.agg #[.slice none 0 0,.int .i64 0],2,32, #[(0,1),(1,1)]⟩
theorem aEj:ty109.ok Tryz.prog 109:=⟨_,TI.of Tryz.underlying109 (by kernel_rfl),⟨_,rfl,by kernel_rfl,fun w=>by kernel_rfl⟩⟩
def ty110:TyI:=⟨.slice 112,.slice none 0 0,1,24, #[]⟩
theorem aEi:ty110.ok Tryz.prog 110:=⟨_,TI.of Tryz.underlying110 (by kernel_rfl),rfl⟩
def ty112:TyI:=⟨.struct [(3,0),(3,1),(109,2),(107,4),(110,6)],.agg #[.int .i64 0,.int .i64 0,.slice none 0 0,.int .i64 0,.string ⟨#[]⟩,.slice none 0 0,.slice none 0 0],7,112, #[(0,1),(1,1),(2,2),(4,2),(6,1)]⟩
theorem aEh:ty112.ok Tryz.prog 112:=⟨_,TI.of Tryz.underlying112 (by kernel_rfl),⟨_,rfl,by kernel_rfl,fun w=>by kernel_rfl⟩⟩
def ty114:TyI:=⟨.struct [(107,0),(112,2)],.agg #[.string ⟨#[]⟩,.slice none 0 0,.int .i64 0,.int .i64 0,.slice none 0 0,.int .i64 0,.string ⟨#[]⟩,.slice none 0 0,.slice none 0 0],9,152, #[(0,2),(2,7)]⟩
theorem aEg:ty114.ok Tryz.prog 114:=⟨_,TI.of Tryz.underlying114 (by kernel_rfl),⟨_,rfl,by kernel_rfl,fun w=>by kernel_rfl⟩⟩
def ty118:TyI:=⟨.slice 9,.slice none 0 0,1,24, #[]⟩
theorem aEf:ty118.ok Tryz.prog 118:=⟨_,TI.of Tryz.underlying118 (by kernel_rfl),rfl⟩
def ty125:TyI:=⟨.slice 147,.slice none 0 0,1,24, #[]⟩
theorem aEe:ty125.ok Tryz.prog 125:=⟨_,TI.of Tryz.underlying125 (by kernel_rfl),rfl⟩
def ty126:TyI:=⟨.slice 114,.slice none 0 0,1,24, #[]⟩
theorem aEd:ty126.ok Tryz.prog 126:=⟨_,TI.of Tryz.underlying126 (by kernel_rfl),rfl⟩
def ty128:TyI:=⟨.struct [(125,0),(126,1)],.agg #[.slice none 0 0,.slice none 0 0],2,48, #[(0,1),(1,1)]⟩
theorem aEc:ty128.ok Tryz.prog 128:=⟨_,TI.of Tryz.underlying128 (by kernel_rfl),⟨_,rfl,by kernel_rfl,fun w=>by kernel_rfl⟩⟩
def ty134:TyI:=⟨.struct [(9,0),(27,1)],.agg #[.string ⟨#[]⟩,.slice none 0 0],2,40, #[(0,1),(1,1)]⟩
theorem aEb:ty134.ok Tryz.prog 134:=⟨_,TI.of Tryz.underlying134 (by kernel_rfl),⟨_,rfl,by kernel_rfl,fun w=>by kernel_rfl⟩⟩
def ty147:TyI:=⟨.struct [(105,0),(105,1)],.agg #[.slice none 0 0,.slice none 0 0],2,48, #[(0,1),(1,1)]⟩
theorem aEa:ty147.ok Tryz.prog 147:=⟨_,TI.of Tryz.underlying147 (by kernel_rfl),⟨_,rfl,by kernel_rfl,fun w=>by kernel_rfl⟩⟩
def ty181:TyI:=⟨.struct [(22,0),(3,1)],.agg #[.slice none 0 0,.int .i64 0],2,32, #[(0,1),(1,1)]⟩
theorem aD9:ty181.ok Tryz.prog 181:=⟨_,TI.of Tryz.underlying181 (by kernel_rfl),⟨_,rfl,by kernel_rfl,fun w=>by kernel_rfl⟩⟩
def ty193:TyI:=⟨.slice 107,.slice none 0 0,1,24, #[]⟩
theorem aD8:ty193.ok Tryz.prog 193:=⟨_,TI.of Tryz.underlying193 (by kernel_rfl),rfl⟩
def ty211:TyI:=⟨.slice 105,.slice none 0 0,1,24, #[]⟩
theorem aD7:ty211.ok Tryz.prog 211:=⟨_,TI.of Tryz.underlying211 (by kernel_rfl),rfl⟩
def ty220:TyI:=⟨.struct [(125,0),(3,1),(66,2)],.agg #[.slice none 0 0,.int .i64 0,.slice none 0 0],3,56, #[(0,1),(1,1),(2,1)]⟩
theorem aD6:ty220.ok Tryz.prog 220:=⟨_,TI.of Tryz.underlying220 (by kernel_rfl),⟨_,rfl,by kernel_rfl,fun w=>by kernel_rfl⟩⟩
def tyL:List (Nat×TyI):=[(3,ty3),(4,ty4),(5,ty5),(9,ty9),(22,ty22),(23,ty23),(24,ty24),(26,ty26),(27,ty27),(34,ty34),(38,ty38),(66,ty66),(105,ty105),(107,ty107),(109,ty109),(110,ty110),(112,ty112),(114,ty114),(118,ty118),(125,ty125),(126,ty126),(128,ty128),(134,ty134),(147,ty147),(181,ty181),(193,ty193),(211,ty211),(220,ty220)]
theorem aN:TyOK Tryz.prog tyL:= .cons aHD (.cons aHC (.cons aHB (.cons aHA (.cons aGh (.cons aGg (.cons aGf (.cons aGe (.cons aGd (.cons aGc (.cons aGb (.cons aGa (.cons aEl (.cons aEk (.cons aEj (.cons aEi (.cons aEh (.cons aEg (.cons aEf (.cons aEe (.cons aEd (.cons aEc (.cons aEb (.cons aEa (.cons aD9 (.cons aD8 (.cons aD7 (.cons aD6 (.nil))))))))))))))))))))))))))))
def l3:List Nd:=[⟨147,2,[(0,1),(1,1)]⟩,⟨109,2,[]⟩,⟨128,2,[(1,3)]⟩,⟨114,9,[]⟩]
theorem bD:Tryz.prog.follows .mixedOrders=true:=by kernel_rfl
end Go.Lift
