/- The types of the program, as the evaluator knows them. -/
import Derived.Test.YthfcdmcpponheaaGreatVTypes
import Derived.Test.YthfcdmcpponheaaGreatChecked
set_option maxRecDepth 10000
namespace Go.Lift
open Go Go.Proofs
structure GS where
 g : Glob
 clone : ∀ (l : List Int) {r : List Int}, m_ownClone l = some r → VCC Tryz.prog g 72 [] [vM rI l] (ms 0 1 1 rI r) [ar 3 1 1 rI r]
 contains : ∀ (s t : List UInt8) (r : Bool), m_contains s t = some r → PCC Tryz.prog g 202 [vS s, vS t] (vB r)
def ty3 : TyI := ⟨.int .i64, .int .i64 0, 1, 8, #[]⟩
theorem ty3_ok : ty3.ok Tryz.prog 3 := ⟨_, TI.of Tryz.underlying3 (by kernel_rfl), rfl⟩
def ty4 : TyI := ⟨.bool, .bool false, 1, 1, #[]⟩
theorem ty4_ok : ty4.ok Tryz.prog 4 := ⟨_, TI.of Tryz.underlying4 (by kernel_rfl), rfl⟩
def ty5 : TyI := ⟨.int .u8, .int .u8 0, 1, 1, #[]⟩
theorem ty5_ok : ty5.ok Tryz.prog 5 := ⟨_, TI.of Tryz.underlying5 (by kernel_rfl), rfl⟩
def ty9 : TyI := ⟨.string, .string ⟨#[]⟩, 1, 16, #[]⟩
theorem ty9_ok : ty9.ok Tryz.prog 9 := ⟨_, TI.of Tryz.underlying9 (by kernel_rfl), rfl⟩
def ty28 : TyI := ⟨.slice 141, .slice none 0 0, 1, 24, #[]⟩
theorem ty28_ok : ty28.ok Tryz.prog 28 := ⟨_, TI.of Tryz.underlying28 (by kernel_rfl), rfl⟩
def ty29 : TyI := ⟨.slice 86, .slice none 0 0, 1, 24, #[]⟩
theorem ty29_ok : ty29.ok Tryz.prog 29 := ⟨_, TI.of Tryz.underlying29 (by kernel_rfl), rfl⟩
def ty31 : TyI := ⟨.struct [(28, 0), (29, 1)], .agg #[.slice none 0 0, .slice none 0 0], 2, 48, #[(0, 1), (1, 1)]⟩
theorem ty31_ok : ty31.ok Tryz.prog 31 := ⟨_, TI.of Tryz.underlying31 (by kernel_rfl), ⟨_, rfl, by kernel_rfl, fun w => by kernel_rfl⟩⟩
def ty40 : TyI := ⟨.slice 3, .slice none 0 0, 1, 24, #[]⟩
theorem ty40_ok : ty40.ok Tryz.prog 40 := ⟨_, TI.of Tryz.underlying40 (by kernel_rfl), rfl⟩
def ty53 : TyI := ⟨.struct [(3, 0), (3, 1), (40, 2)], .agg #[.int .i64 0, .int .i64 0, .slice none 0 0], 3, 40, #[(0, 1), (1, 1), (2, 1)]⟩
theorem ty53_ok : ty53.ok Tryz.prog 53 := ⟨_, TI.of Tryz.underlying53 (by kernel_rfl), ⟨_, rfl, by kernel_rfl, fun w => by kernel_rfl⟩⟩
def ty58 : TyI := ⟨.slice 5, .slice none 0 0, 1, 24, #[]⟩
theorem ty58_ok : ty58.ok Tryz.prog 58 := ⟨_, TI.of Tryz.underlying58 (by kernel_rfl), rfl⟩
def ty65 : TyI := ⟨.slice 53, .slice none 0 0, 1, 24, #[]⟩
theorem ty65_ok : ty65.ok Tryz.prog 65 := ⟨_, TI.of Tryz.underlying65 (by kernel_rfl), rfl⟩
def ty83 : TyI := ⟨.slice 193, .slice none 0 0, 1, 24, #[]⟩
theorem ty83_ok : ty83.ok Tryz.prog 83 := ⟨_, TI.of Tryz.underlying83 (by kernel_rfl), rfl⟩
def ty84 : TyI := ⟨.slice 114, .slice none 0 0, 1, 24, #[]⟩
theorem ty84_ok : ty84.ok Tryz.prog 84 := ⟨_, TI.of Tryz.underlying84 (by kernel_rfl), rfl⟩
def ty86 : TyI := ⟨.struct [(83, 0), (84, 1)], .agg #[.slice none 0 0, .slice none 0 0], 2, 48, #[(0, 1), (1, 1)]⟩
theorem ty86_ok : ty86.ok Tryz.prog 86 := ⟨_, TI.of Tryz.underlying86 (by kernel_rfl), ⟨_, rfl, by kernel_rfl, fun w => by kernel_rfl⟩⟩
def ty105 : TyI := ⟨.slice 109, .slice none 0 0, 1, 24, #[]⟩
theorem ty105_ok : ty105.ok Tryz.prog 105 := ⟨_, TI.of Tryz.underlying105 (by kernel_rfl), rfl⟩
def ty107 : TyI := ⟨.struct [(9, 0), (105, 1)], .agg #[.string ⟨#[]⟩, .slice none 0 0], 2, 40, #[(0, 1), (1, 1)]⟩
theorem ty107_ok : ty107.ok Tryz.prog 107 := ⟨_, TI.of Tryz.underlying107 (by kernel_rfl), ⟨_, rfl, by kernel_rfl, fun w => by kernel_rfl⟩⟩
def ty109 : TyI := ⟨.struct [(40, 0), (3, 1)], .agg #[.slice none 0 0, .int .i64 0], 2, 32, #[(0, 1), (1, 1)]⟩
theorem ty109_ok : ty109.ok Tryz.prog 109 := ⟨_, TI.of Tryz.underlying109 (by kernel_rfl), ⟨_, rfl, by kernel_rfl, fun w => by kernel_rfl⟩⟩
def ty110 : TyI := ⟨.slice 112, .slice none 0 0, 1, 24, #[]⟩
theorem ty110_ok : ty110.ok Tryz.prog 110 := ⟨_, TI.of Tryz.underlying110 (by kernel_rfl), rfl⟩
def ty112 : TyI := ⟨.struct [(3, 0), (3, 1), (109, 2), (107, 4), (110, 6)], .agg #[.int .i64 0, .int .i64 0, .slice none 0 0, .int .i64 0, .string ⟨#[]⟩, .slice none 0 0, .slice none 0 0], 7, 112, #[(0, 1), (1, 1), (2, 2), (4, 2), (6, 1)]⟩
theorem ty112_ok : ty112.ok Tryz.prog 112 := ⟨_, TI.of Tryz.underlying112 (by kernel_rfl), ⟨_, rfl, by kernel_rfl, fun w => by kernel_rfl⟩⟩
def ty114 : TyI := ⟨.struct [(107, 0), (112, 2)], .agg #[.string ⟨#[]⟩, .slice none 0 0, .int .i64 0, .int .i64 0, .slice none 0 0, .int .i64 0, .string ⟨#[]⟩, .slice none 0 0, .slice none 0 0], 9, 152, #[(0, 2), (2, 7)]⟩
theorem ty114_ok : ty114.ok Tryz.prog 114 := ⟨_, TI.of Tryz.underlying114 (by kernel_rfl), ⟨_, rfl, by kernel_rfl, fun w => by kernel_rfl⟩⟩
def ty141 : TyI := ⟨.struct [(9, 0), (40, 1)], .agg #[.string ⟨#[]⟩, .slice none 0 0], 2, 40, #[(0, 1), (1, 1)]⟩
theorem ty141_ok : ty141.ok Tryz.prog 141 := ⟨_, TI.of Tryz.underlying141 (by kernel_rfl), ⟨_, rfl, by kernel_rfl, fun w => by kernel_rfl⟩⟩
def ty148 : TyI := ⟨.slice 40, .slice none 0 0, 1, 24, #[]⟩
theorem ty148_ok : ty148.ok Tryz.prog 148 := ⟨_, TI.of Tryz.underlying148 (by kernel_rfl), rfl⟩
def ty167 : TyI := ⟨.slice 107, .slice none 0 0, 1, 24, #[]⟩
theorem ty167_ok : ty167.ok Tryz.prog 167 := ⟨_, TI.of Tryz.underlying167 (by kernel_rfl), rfl⟩
def ty177 : TyI := ⟨.struct [(58, 0), (3, 1)], .agg #[.slice none 0 0, .int .i64 0], 2, 32, #[(0, 1), (1, 1)]⟩
theorem ty177_ok : ty177.ok Tryz.prog 177 := ⟨_, TI.of Tryz.underlying177 (by kernel_rfl), ⟨_, rfl, by kernel_rfl, fun w => by kernel_rfl⟩⟩
def ty180 : TyI := ⟨.slice 9, .slice none 0 0, 1, 24, #[]⟩
theorem ty180_ok : ty180.ok Tryz.prog 180 := ⟨_, TI.of Tryz.underlying180 (by kernel_rfl), rfl⟩
def ty193 : TyI := ⟨.struct [(105, 0), (105, 1)], .agg #[.slice none 0 0, .slice none 0 0], 2, 48, #[(0, 1), (1, 1)]⟩
theorem ty193_ok : ty193.ok Tryz.prog 193 := ⟨_, TI.of Tryz.underlying193 (by kernel_rfl), ⟨_, rfl, by kernel_rfl, fun w => by kernel_rfl⟩⟩
def ty202 : TyI := ⟨.struct [(83, 0), (3, 1), (148, 2)], .agg #[.slice none 0 0, .int .i64 0, .slice none 0 0], 3, 56, #[(0, 1), (1, 1), (2, 1)]⟩
theorem ty202_ok : ty202.ok Tryz.prog 202 := ⟨_, TI.of Tryz.underlying202 (by kernel_rfl), ⟨_, rfl, by kernel_rfl, fun w => by kernel_rfl⟩⟩
def tyL : List (Nat × TyI) := [(3, ty3), (4, ty4), (5, ty5), (9, ty9), (28, ty28), (29, ty29), (31, ty31), (40, ty40), (53, ty53), (58, ty58), (65, ty65), (83, ty83), (84, ty84), (86, ty86), (105, ty105), (107, ty107), (109, ty109), (110, ty110), (112, ty112), (114, ty114), (141, ty141), (148, ty148), (167, ty167), (177, ty177), (180, ty180), (193, ty193), (202, ty202)]
theorem tyOK : TyOK Tryz.prog tyL := .cons ty3_ok (.cons ty4_ok (.cons ty5_ok (.cons ty9_ok (.cons ty28_ok (.cons ty29_ok (.cons ty31_ok (.cons ty40_ok (.cons ty53_ok (.cons ty58_ok (.cons ty65_ok (.cons ty83_ok (.cons ty84_ok (.cons ty86_ok (.cons ty105_ok (.cons ty107_ok (.cons ty109_ok (.cons ty110_ok (.cons ty112_ok (.cons ty114_ok (.cons ty141_ok (.cons ty148_ok (.cons ty167_ok (.cons ty177_ok (.cons ty180_ok (.cons ty193_ok (.cons ty202_ok (.nil)))))))))))))))))))))))))))
def ndT : List Nd := [⟨193, 2, [(0, 1), (1, 1)]⟩, ⟨109, 2, []⟩, ⟨86, 2, [(1, 3)]⟩, ⟨114, 9, []⟩]
theorem hmix : Tryz.prog.follows .mixedOrders = true := by kernel_rfl
end Go.Lift
