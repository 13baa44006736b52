/- The types of the program, as the evaluator knows them. -/
import Derived.Test.YtphjadokdbfccaaDoorTypes
import Derived.Test.YtphjadokdbfccaaDoorChecked
set_option maxRecDepth 10000
namespace Go.Lift
open Go Go.Proofs
structure GS where
  g : Glob
  split : ∀ (s t : List UInt8) (r : List (List UInt8)), m_split s t = some r → PCC Tryd.prog g 16 [vS s, vS t] (vM rS r)
  itoa : ∀ (n : Int) (r : List UInt8), m_itoa n = some r → PCC Tryd.prog g 34 [vI n] (vS r)
  atoiT : ∀ (s : List UInt8) (r : Int × Bool), m_atoi s = some r → r.2 = true → PCC Tryd.prog g 37 [vS s] (V.tup [vI r.1, V.t T.err])
  atoiF : ∀ (s : List UInt8) (r : Int × Bool), m_atoi s = some r → r.2 = false → PCC Tryd.prog g 37 [vS s] (V.tup [vI r.1, V.t T.nilI])
def ty3 : TyI := ⟨.int .i64, .int .i64 0, 1, 8, #[]⟩
theorem ty3_ok : ty3.ok Tryd.prog 3 := ⟨_, TI.of Tryd.underlying3 (by kernel_rfl), rfl⟩
def ty4 : TyI := ⟨.bool, .bool false, 1, 1, #[]⟩
theorem ty4_ok : ty4.ok Tryd.prog 4 := ⟨_, TI.of Tryd.underlying4 (by kernel_rfl), rfl⟩
def ty5 : TyI := ⟨.int .u8, .int .u8 0, 1, 1, #[]⟩
theorem ty5_ok : ty5.ok Tryd.prog 5 := ⟨_, TI.of Tryd.underlying5 (by kernel_rfl), rfl⟩
def ty9 : TyI := ⟨.string, .string ⟨#[]⟩, 1, 16, #[]⟩
theorem ty9_ok : ty9.ok Tryd.prog 9 := ⟨_, TI.of Tryd.underlying9 (by kernel_rfl), rfl⟩
def ty22 : TyI := ⟨.slice 5, .slice none 0 0, 1, 24, #[]⟩
theorem ty22_ok : ty22.ok Tryd.prog 22 := ⟨_, TI.of Tryd.underlying22 (by kernel_rfl), rfl⟩
def ty23 : TyI := ⟨.slice 36, .slice none 0 0, 1, 24, #[]⟩
theorem ty23_ok : ty23.ok Tryd.prog 23 := ⟨_, TI.of Tryd.underlying23 (by kernel_rfl), rfl⟩
def ty34 : TyI := ⟨.slice 3, .slice none 0 0, 1, 24, #[]⟩
theorem ty34_ok : ty34.ok Tryd.prog 34 := ⟨_, TI.of Tryd.underlying34 (by kernel_rfl), rfl⟩
def ty36 : TyI := ⟨.struct [(3, 0), (3, 1), (3, 2), (3, 3)], .agg #[.int .i64 0, .int .i64 0, .int .i64 0, .int .i64 0], 4, 32, #[(0, 1), (1, 1), (2, 1), (3, 1)]⟩
theorem ty36_ok : ty36.ok Tryd.prog 36 := ⟨_, TI.of Tryd.underlying36 (by kernel_rfl), ⟨_, rfl, by kernel_rfl, fun w => by kernel_rfl⟩⟩
def ty40 : TyI := ⟨.slice 9, .slice none 0 0, 1, 24, #[]⟩
theorem ty40_ok : ty40.ok Tryd.prog 40 := ⟨_, TI.of Tryd.underlying40 (by kernel_rfl), rfl⟩
def ty51 : TyI := ⟨.struct [(22, 0), (3, 1)], .agg #[.slice none 0 0, .int .i64 0], 2, 32, #[(0, 1), (1, 1)]⟩
theorem ty51_ok : ty51.ok Tryd.prog 51 := ⟨_, TI.of Tryd.underlying51 (by kernel_rfl), ⟨_, rfl, by kernel_rfl, fun w => by kernel_rfl⟩⟩
def ty57 : TyI := ⟨.array 3 3, .agg #[.int .i64 0, .int .i64 0, .int .i64 0], 3, 24, #[]⟩
theorem ty57_ok : ty57.ok Tryd.prog 57 := ⟨_, TI.of Tryd.underlying57 (by kernel_rfl), rfl⟩
def ty59 : TyI := ⟨.ifc, .nilIface, 1, 16, #[]⟩
theorem ty59_ok : ty59.ok Tryd.prog 59 := ⟨_, TI.of Tryd.underlying59 (by kernel_rfl), ⟨_, rfl⟩⟩
def tyL : List (Nat × TyI) := [(3, ty3), (4, ty4), (5, ty5), (9, ty9), (22, ty22), (23, ty23), (34, ty34), (36, ty36), (40, ty40), (51, ty51), (57, ty57), (59, ty59)]
theorem tyOK : TyOK Tryd.prog tyL := .cons ty3_ok (.cons ty4_ok (.cons ty5_ok (.cons ty9_ok (.cons ty22_ok (.cons ty23_ok (.cons ty34_ok (.cons ty36_ok (.cons ty40_ok (.cons ty51_ok (.cons ty57_ok (.cons ty59_ok (.nil))))))))))))
theorem se36 : SE Tryd.prog 36 4 := ⟨by kernel_rfl, Tryd.stoodInHeld36, Tryd.eqGuardType36, by kernel_rfl, by kernel_rfl⟩
theorem hmix : Tryd.prog.follows .mixedOrders = true := by kernel_rfl
end Go.Lift
