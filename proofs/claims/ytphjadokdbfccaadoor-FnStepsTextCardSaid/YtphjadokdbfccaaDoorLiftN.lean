/- Short rules for the printed walks. -/
import Derived.Test.YtphjadokdbfccaaDoorLiftM
namespace Go.Lift
open Go

theorem split_b (b : Bool) {P : Prop} (h0 : b = false → P) (h1 : b = true → P) : P := by
  cases b with
  | false => exact h0 rfl
  | true => exact h1 rfl
theorem VsLe.of_eq {vs vs' : List V} (h : vs = vs') : VsLe vs vs' := h ▸ VsLe.refl vs

section
variable {K : Ctx} {s : S} {ops : Array Oper} {rest : List Oper} {Q : S → Prop} {d : Nat} {ty : TypeId} {pos : String} {af : Array Edge} {j : Nat} {want : Bool} {t : Nat}
/-- One operation that yields a value. -/
theorem pp {op : Op} (vals : List V) (v : V) (h : Yield K.P s.H ⟨some d, op, ty, pos, af, none⟩ vals v) (hv : op.operands.toList.map s.get = vals) (hd : Nat.blt d K.nt = true)
    (hn : vops K ops rest (s.put (some d) v) Q) : vops K ops (⟨some d, op, ty, pos, af, none⟩ :: rest) s Q :=
  vops_op _ rfl (OpJ.of_yield (dst_ok hd) (VsLe.of_eq hv) h) hn
/-- The same without a place to put it. -/
theorem pp0 {op : Op} (vals : List V) (v : V) (h : Yield K.P s.H ⟨none, op, ty, pos, af, none⟩ vals v) (hv : op.operands.toList.map s.get = vals)
    (hn : vops K ops rest s Q) : vops K ops (⟨none, op, ty, pos, af, none⟩ :: rest) s Q :=
  vops_op _ rfl (OpJ.of_yield dst_no (VsLe.of_eq hv) h) hn
theorem pm {x : Operand} (v : V) (hv : s.get x = v) (hd : Nat.blt d K.nt = true)
    (hn : vops K ops rest (s.put (some d) v) Q) : vops K ops (⟨some d, .move x, ty, pos, af, none⟩ :: rest) s Q :=
  vops_op _ rfl (OpJ.of_yield (vals := [v]) (dst_ok hd) ⟨VLe.of_eq hv, trivial⟩ (y_move _ _)) hn
theorem pa {x : Operand} (v : V) (hv : s.get x = v) (hd : Nat.blt d K.nt = true)
    (hn : vops K ops rest (s.put (some d) v) Q) : vops K ops (⟨some d, .assign x, ty, pos, af, none⟩ :: rest) s Q :=
  vops_op _ rfl (OpJ.of_yield (vals := [v]) (dst_ok hd) ⟨VLe.of_eq hv, trivial⟩ (y_assign _ _)) hn
/-- An operation under a guard that holds. -/
theorem gg {op : Op} (vals : List V) (v : V) (h : Yield K.P s.H ⟨some d, op, ty, pos, af, some (j, want)⟩ vals v) (hv : op.operands.toList.map s.get = vals) (hd : Nat.blt d K.nt = true)
    (hj : (ops[j]?).bind (·.dst) = some t) (ht : s.t t = vB want)
    (hn : vops K ops rest (s.put (some d) v) Q) : vops K ops (⟨some d, op, ty, pos, af, some (j, want)⟩ :: rest) s Q :=
  vops_in _ rfl hj ht (OpJ.of_yield (dst_ok hd) (VsLe.of_eq hv) h) hn
theorem gg0 {op : Op} (vals : List V) (v : V) (h : Yield K.P s.H ⟨none, op, ty, pos, af, some (j, want)⟩ vals v) (hv : op.operands.toList.map s.get = vals)
    (hj : (ops[j]?).bind (·.dst) = some t) (ht : s.t t = vB want)
    (hn : vops K ops rest s Q) : vops K ops (⟨none, op, ty, pos, af, some (j, want)⟩ :: rest) s Q :=
  vops_in _ rfl hj ht (OpJ.of_yield dst_no (VsLe.of_eq hv) h) hn
theorem gm {x : Operand} (v : V) (hv : s.get x = v) (hd : Nat.blt d K.nt = true) (hj : (ops[j]?).bind (·.dst) = some t) (ht : s.t t = vB want)
    (hn : vops K ops rest (s.put (some d) v) Q) : vops K ops (⟨some d, .move x, ty, pos, af, some (j, want)⟩ :: rest) s Q :=
  vops_in _ rfl hj ht (OpJ.of_yield (vals := [v]) (dst_ok hd) ⟨VLe.of_eq hv, trivial⟩ (y_move _ _)) hn
theorem ga {x : Operand} (v : V) (hv : s.get x = v) (hd : Nat.blt d K.nt = true) (hj : (ops[j]?).bind (·.dst) = some t) (ht : s.t t = vB want)
    (hn : vops K ops rest (s.put (some d) v) Q) : vops K ops (⟨some d, .assign x, ty, pos, af, some (j, want)⟩ :: rest) s Q :=
  vops_in _ rfl hj ht (OpJ.of_yield (vals := [v]) (dst_ok hd) ⟨VLe.of_eq hv, trivial⟩ (y_assign _ _)) hn
/-- An operation under a guard that fails. -/
theorem gout {op : Op} (hd : Nat.blt d K.nt = true) (hj : (ops[j]?).bind (·.dst) = some t) (ht : s.t t = vB (!want))
    (hn : vops K ops rest (s.put (some d) (.tup [])) Q) : vops K ops (⟨some d, op, ty, pos, af, some (j, want)⟩ :: rest) s Q :=
  vops_out rfl hj ht (dst_ok hd) hn
theorem gout0 {op : Op} (hj : (ops[j]?).bind (·.dst) = some t) (ht : s.t t = vB (!want))
    (hn : vops K ops rest s Q) : vops K ops (⟨none, op, ty, pos, af, some (j, want)⟩ :: rest) s Q :=
  vops_out rfl hj ht dst_no hn
/-- An operation under a guard that was itself left out. -/
theorem gskip {op : Op} (hd : Nat.blt d K.nt = true) (hj : (ops[j]?).bind (·.dst) = some t) (ht : s.t t = .tup [])
    (hn : vops K ops rest (s.put (some d) (.tup [])) Q) : vops K ops (⟨some d, op, ty, pos, af, some (j, want)⟩ :: rest) s Q :=
  vops_skip rfl hj ht (dst_ok hd) hn
theorem gskip0 {op : Op} (hj : (ops[j]?).bind (·.dst) = some t) (ht : s.t t = .tup [])
    (hn : vops K ops rest s Q) : vops K ops (⟨none, op, ty, pos, af, some (j, want)⟩ :: rest) s Q :=
  vops_skip rfl hj ht dst_no hn
/-- Any operation. -/
theorem qq {op : Op} {dd : Option Tmp} {s1 : S} (h : OpJ K ⟨dd, op, ty, pos, af, none⟩ s s1) (hn : vops K ops rest s1 Q) : vops K ops (⟨dd, op, ty, pos, af, none⟩ :: rest) s Q :=
  vops_op _ rfl h hn
theorem gq {op : Op} {dd : Option Tmp} {s1 : S} (h : OpJ K ⟨dd, op, ty, pos, af, some (j, want)⟩ s s1) (hj : (ops[j]?).bind (·.dst) = some t) (ht : s.t t = vB want)
    (hn : vops K ops rest s1 Q) : vops K ops (⟨dd, op, ty, pos, af, some (j, want)⟩ :: rest) s Q :=
  vops_in _ rfl hj ht h hn
end
theorem y_pick_t {P : Program} {H : Nat → Option E} {d : Option Tmp} {ty : TypeId} {pos : String} {af : Array Edge} {g : Option (Nat × Bool)} (c x y : Operand) {b : Bool} (h : b = true) (v v' : V) :
    Yield P H ⟨d, .pick c x y, ty, pos, af, g⟩ [vB b, v, v'] v := by subst h; exact y_pick_true c x y v v'
theorem y_pick_f {P : Program} {H : Nat → Option E} {d : Option Tmp} {ty : TypeId} {pos : String} {af : Array Edge} {g : Option (Nat × Bool)} (c x y : Operand) {b : Bool} (h : b = false) (v v' : V) :
    Yield P H ⟨d, .pick c x y, ty, pos, af, g⟩ [vB b, v, v'] v' := by subst h; exact y_pick_false c x y v v'
end Go.Lift
