/- Short rules for calls with blocks. -/
import Derived.Test.YtphjadokdbfccaaDoorLiftP
import Derived.Laws.BitsAllLaws
namespace Go.Lift
open Go
theorem nb_t {b : Bool} (h : (!b) = true) : b = false := by simpa using h
theorem or_f {a b : Bool} (h : (a || b) = false) : a = false ∧ b = false := by simpa using h
theorem and_t {a b : Bool} (h : (a && b) = true) : a = true ∧ b = true := by simpa using h
theorem nb_f {b : Bool} (h : (!b) = false) : b = true := by simpa using h
section
variable {K : Ctx} {s : S} {d : Option Tmp} {ty : TypeId} {pos : String} {af : Array Edge} {g : Option (Nat × Bool)} {f : FuncId} {xs : Array Operand} {tys : Array TypeId} {args : List V} {ι : Type} {φ : ι → Prop} {r : ι → V} {out : ι → List E}
theorem OpX.j {o : Oper} {u : Unit → Prop} {s' : Unit → S} (h : OpX K o s u s') : OpJ K o s (s' ()) :=
  fun β a w next Q hr hk => h β a w next Q hr (fun _ _ => hk)
variable {ops : Array Oper} {rest : List Oper} {Q : S → Prop} {op : Op}
theorem qx {s' : ι → S} (h : OpX K ⟨d, op, ty, pos, af, none⟩ s φ s') (hn : ∀ i, φ i → vops K ops rest (s' i) Q) : vops K ops (⟨d, op, ty, pos, af, none⟩ :: rest) s Q :=
  vops_x rfl h hn
theorem gqx {j t : Nat} {want : Bool} {s' : ι → S} (h : OpX K ⟨d, op, ty, pos, af, some (j, want)⟩ s φ s') (hj : (ops[j]?).bind (·.dst) = some t) (ht : s.t t = vB want)
    (hn : ∀ i, φ i → vops K ops rest (s' i) Q) : vops K ops (⟨d, op, ty, pos, af, some (j, want)⟩ :: rest) s Q := by
  intro β a w Q' hr hk
  refine wpList_step ?_
  intro KK hKK
  have hy : yielded ops a.tmps j = some want := by unfold yielded; rw [hj]; simp [hr.bool ht]
  rw [if_pos (by simp [Region.wanted, hy])]
  exact h β a w KK Q' hr (fun i hi β' a' w' hr' => hKK a' w' (hn i hi β' a' w' Q' hr' hk))
end
/-- A struct type, and where its fields lie. -/
def BP (P : Program) (t : TypeId) (z : Value) (size bytes : Nat) (places : Array (Nat × Nat)) : Prop :=
  ∃ fs, TI P t (.struct fs) z size bytes ∧ ∀ w, (fs.mapM (m := Sem) fun f : Field => do pure (f.offset, ← sizeOf f.type)).run P w = .ok places w
theorem y_build2 {P : Program} {H : Nat → Option E} {d : Option Tmp} {ty t : TypeId} {pos : String} {af : Array Edge} {g : Option (Nat × Bool)} {z : Value} {size bytes : Nat} (ps : Array (Nat × Operand)) (places : Array (Nat × Nat)) (vals cs' : List V) (h : BP P t z size bytes places)
    (hz : (ofConst z).val = true) (hlen : Nat.beq ps.toList.length vals.length = true)
    (hf : fillV (places[·]?) (ofConst z).cs ((ps.toList.map (·.1)).zip vals) = some cs') : Yield P H ⟨d, .build t ps, ty, pos, af, g⟩ vals (.agg cs') := by
  obtain ⟨fs, h1, h2⟩ := h
  exact y_build ps fs places vals cs' h1 h2 hz hlen hf
theorem bits_xor_i64 (a b : Nat) (ha : a < 9223372036854775808) (hb : b < 9223372036854775808) : bits .xor .i64 (a : Int) (b : Int) = ((a ^^^ b : Nat) : Int) := by
  have hx : a ^^^ b < 2 ^ 63 := Nat.xor_lt_two_pow (by omega) (by omega)
  show IntKind.i64.wrap ((BitVec.ofInt 64 (a : Int) ^^^ BitVec.ofInt 64 (b : Int)).toNat : Int) = _
  rw [BitVec.toNat_xor, ofInt_u64 a (by omega), ofInt_u64 b (by omega)]
  exact IntWalk.i64_in _ (by omega)
theorem y_xor64 {P : Program} {H : Nat → Option E} {d : Option Tmp} {ty : TypeId} {pos : String} {af : Array Edge} {g : Option (Nat × Bool)} (x y : Operand) (t t' : TypeId) (m n : Int) (h : 0 ≤ m ∧ m ≤ 9223372036854775807 ∧ 0 ≤ n ∧ n ≤ 9223372036854775807) :
    Yield P H ⟨d, .binOp .xor t x y t', ty, pos, af, g⟩ [.t (.int .i64 m), .t (.int .i64 n)] (.t (.int .i64 ((m.toNat ^^^ n.toNat : Nat) : Int))) := by
  intro β w X ρ _ ha
  obtain ⟨A, rfl⟩ := Int.eq_ofNat_of_zero_le h.1
  obtain ⟨B, rfl⟩ := Int.eq_ofNat_of_zero_le h.2.2.1
  refine ⟨Value.int .i64 ((A ^^^ B : Nat) : Int), ?_, ?_⟩
  · have e := bits_xor_i64 A B (by omega) (by omega)
    simp [execOp, inv_int ha.1, inv_int ha.2.1, eqGuard, binOp]
    show (Sem.run P (pure (Value.int .i64 (bits .xor .i64 (A : Int) (B : Int)))) w).andThen _ = _
    rw [e]; rfl
  · exact RV.t _ _ (RT.int .i64 ((A ^^^ B : Nat) : Int))
end Go.Lift
