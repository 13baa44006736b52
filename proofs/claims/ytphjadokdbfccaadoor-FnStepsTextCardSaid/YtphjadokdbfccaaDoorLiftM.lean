/- Words for the printed walks. -/
import Derived.Test.YtphjadokdbfccaaDoorLiftL
namespace Go.Lift
open Go

abbrev vI (n : Int) : V := .t (.int .i64 n)
abbrev vY (b : UInt8) : V := .t (.int .u8 (b.toNat : Nat))
abbrev vB (b : Bool) : V := .t (.bool b)
abbrev vS (s : List UInt8) : V := .t (.str s)
abbrev vL (rows : List (List T)) : V := .t (.sl rows)
abbrev intRow (n : Int) : List T := [.int .i64 n]
abbrev byteRow (b : UInt8) : List T := [.int .u8 (b.toNat : Nat)]
abbrev boolRow (b : Bool) : List T := [.bool b]
abbrev strRow (s : List UInt8) : List T := [.str s]

theorem dst_ok {K : Ctx} {d : Nat} (h : Nat.blt d K.nt = true) : ∀ i, some d = some i → Nat.blt i K.nt = true := by
  intro i e; cases e; exact h
theorem dst_no {K : Ctx} : ∀ i, (none : Option Tmp) = some i → Nat.blt i K.nt = true := by
  intro i e; cases e

/-- A function of the program that is called by entering it. -/
def Callable (P : Program) (f : FuncId) : Prop := ∃ fn, P.funcs[f]? = some fn ∧ (fn.name == "runtime.NumGoroutine") = false ∧ fn.body.isNone = false

section
variable {K : Ctx} {s : S} {Q : Exit → S → Prop}
theorem j_call {d : Option Tmp} {ty : TypeId} {pos : String} {af : Array Edge} {g : Option (Nat × Bool)} {f : FuncId} {xs : Array Operand} {tys : Array TypeId} (vals : List V) (r : V)
    (hf : Callable K.P f) (hd : ∀ i, d = some i → Nat.blt i K.nt = true) (hv : VsLe (xs.toList.map s.get) vals) (hl : V.okL noIds vals = true) (h : PC K.P K.G f vals r) :
    OpJ K ⟨d, .call { callee := .value (.func f), args := xs, argTypes := tys }, ty, pos, af, g⟩ s (s.put d r) := by
  obtain ⟨fn, h1, h2, h3⟩ := hf
  exact OpJ.call rfl h1 h2 h3 hd hv hl h

/-- A call of a closure that has caught nothing. -/
theorem j_callv {d : Option Tmp} {ty : TypeId} {pos : String} {af : Array Edge} {g : Option (Nat × Bool)} {f : FuncId} {c : Operand} {xs : Array Operand} {tys : Array TypeId} (vals : List V) (r : V)
    (hf : Callable K.P f) (hc : s.get c = .fn f []) (hd : ∀ i, d = some i → Nat.blt i K.nt = true) (hv : VsLe (xs.toList.map s.get) vals) (hl : V.okL noIds vals = true) (h : PC K.P K.G f vals r) :
    OpJ K ⟨d, .call { callee := .value c, args := xs, argTypes := tys }, ty, pos, af, g⟩ s (s.put d r) := by
  obtain ⟨fn, h1, h2, h3⟩ := hf
  intro β a w next Q hr hk
  have hn' : fn.name ≠ "runtime.NumGoroutine" := by simpa using h2
  have hb' : fn.body ≠ none := by intro e; simp [e] at h3
  have hcv := hr.get c
  rw [hc] at hcv
  have hce : a.eval c = .func (.func f) #[] #[] := by
    generalize a.eval c = y at hcv
    cases hcv with
    | fn _ _ us hl _ => have : us = #[] := by simpa using hl
                        rw [this]
  have hrun : (execOp a.eval ⟨d, .call { callee := .value c, args := xs, argTypes := tys }, ty, pos, af, g⟩).run K.P w = .ok (.enter f (xs.map a.eval)) w := by
    simp [execOp, resolve, Deferred.ofValue, hce, invoke, callFunc, h1, hn', hb']
  unfold Oper.wp
  rw [hrun, Oper.upon_enter]
  have hargs := (RVs.le (hr.gets xs.toList) hv).none_of hl
  have hc2 := h w (own K β s.H) _ hr.glob hr.ownLt hargs
  have he : (List.map a.eval xs.toList).toArray = xs.map a.eval := by rw [← Array.toList_map]
  rw [he] at hc2
  refine hc2.mono ?_
  rintro e w' ⟨u, rfl, hext, hu⟩
  exact hk β _ w' ((hr.grow hext).put d hd (hu.any (fun _ h => h)))

theorem vwp_seq_join {x y : Code} (s3 : S) (hx : vwp K x s (Then (fun s' => s'.le K s3) Q)) (hy : vwp K y s3 Q) : vwp K (.seq x y) s Q :=
  vwp_seq (vwp_mono hx (fun e s' q => by
    cases e with
    | normal => exact vwp_weaken q hy
    | exit id => exact q
    | goto l => exact q
    | ret => exact q
    | panic c => exact q
    | outgrown => exact q))

theorem vops_weaken {ops : Array Oper} {l : List Oper} {Q : S → Prop} {s' : S} (hs : s.le K s') (h : vops K ops l s' Q) : vops K ops l s Q :=
  fun β a w Q2 hr hk => let ⟨β', hr'⟩ := hs β a w hr; h β' a w Q2 hr' hk

theorem vwp_region_join {id : Nat} {l : List Oper} (s3 : S) (h : vops K l.toArray l s (fun s' => s'.le K s3)) (hn : Q .normal s3) : vwp K (.region id l.toArray false) s Q := by
  intro β a w Q' hr hk
  refine wp_region_lit (h β a w Q' hr (fun s' β' a' w' hq hr' => ?_))
  obtain ⟨β2, hr2⟩ := hq β' a' w' hr'
  exact hk _ _ _ _ _ hn hr2
theorem Yield.eq {P : Program} {H : Nat → Option E} {o : Oper} {vals : List V} {v v' : V} (h : Yield P H o vals v) (e : v = v') : Yield P H o vals v' := e ▸ h

section
variable {K : Ctx} {s : S} {d : Option Tmp} {ty : TypeId} {pos : String} {af : Array Edge} {g : Option (Nat × Bool)}
variable {t : TypeId} {u : TypeDesc} {z : Value} {gen size bytes : Nat}
theorem j_append2 (k : Nat) (x y : Operand) (e : TypeId) (rows news rows' : List (List T)) (hd : ∀ i, d = some i → Nat.blt i K.nt = true) (hx : s.get x = .msl k gen size 0 rows.length) (hy : VLe (s.get y) (.t (.sl news))) (hk : s.H k = some (.arr e gen size rows))
    (hu : K.P.underlying t = some (.slice e)) (he : TI K.P e u z size bytes) (hzs : Nat.beq z.cells.size size = true) (hp : Nat.blt 0 size = true) (hs : Rows size rows) (hs' : Rows size news) (hr : rows' = rows ++ news)
    (hb : (rows.length + news.length) * bytes ≤ 140737488355328) (hm : rows.length + news.length ≤ 9223372036854775807) :
    OpJ K ⟨d, .call { callee := .builtin .append, args := #[x, y], argTypes := #[t, t] }, ty, pos, af, g⟩ s
      (({ s with H := upd s.H k (some (.arr e (gen + 1) size rows')) } : S).put d (.msl k (gen + 1) size 0 rows'.length)) := by
  subst hr
  rw [List.length_append]
  exact j_append k x y e rows news hd hx hy hk hu he hzs hp hs hs' hb hm
end
end
end Go.Lift
