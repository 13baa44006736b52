/- Short forms of the rules: the check by the kernel stands last. -/
import Derived.Test.YthfcdmcpponheaaGreatVLiftZ
set_option linter.unusedVariables false
namespace Go.Lift
open Go
variable {K : Ctx} {C : Cfg} {P : Program} {G : Glob} {Ty : List (Nat × TyI)}
theorem rk {id : Nat} {l : List Oper} {s : S} {Q : Exit → S → Prop} (hC : C.Fits K) (hs : List Hn) (ks : List Nat) (ts : List (Nat × V)) (hl : List (Nat × Option E)) (ul : List (Nat × Bool)) {ψ : Prop} (hψ : ψ) (hn : Q .normal (s.cl ks ts hl ul))
  (h : elimC (evL C l.toArray l hs s) ck0 (ckF s ks ts hl) = elimC (evL C l.toArray l hs s) ck1 (ckG ψ ts hl ul) := by kernel_rfl) : vwp K (.region id l.toArray false) s Q := rg hC hs ks ts hl ul hψ h hn
theorem rq {id : Nat} {l : List Oper} {y : Code} {s : S} {Q : Exit → S → Prop} (hC : C.Fits K) (hs : List Hn) (ks : List Nat) (ts : List (Nat × V)) (hl : List (Nat × Option E)) (ul : List (Nat × Bool)) {ψ : Prop} (hψ : ψ) (hn : vwp K y (s.cl ks ts hl ul) Q)
  (h : elimC (evL C l.toArray l hs s) ck0 (ckF s ks ts hl) = elimC (evL C l.toArray l hs s) ck1 (ckG ψ ts hl ul) := by kernel_rfl) : vwp K (.seq (.region id l.toArray false) y) s Q := vwp_seq (rg hC hs ks ts hl ul hψ h hn)
theorem dk {id : Nat} {l : List Oper} {s : S} {Q : Exit → S → Prop} (hC : C.Fits K) (hm : K.P.follows .mixedOrders = true) (hs : List Hn) (ks : List Nat) (ts : List (Nat × V)) (hl : List (Nat × Option E)) (ul : List (Nat × Bool)) {ψ : Prop} (hψ : ψ) (hn : Q .normal (s.cl ks ts hl ul))
  (h : elimC (evR C l hs s) ck0 (ckF s ks ts hl) = elimC (evR C l hs s) ck1 (ckG ψ ts hl ul) := by kernel_rfl) : vwp K (.region id l.toArray true) s Q := rd hC hm hs ks ts hl ul hψ h hn
theorem lk {s : S} (hC : C.Fits K) (hs : List Hn) (ks : List Nat) (ts : List (Nat × V)) (hl : List (Nat × Option E)) (ul : List (Nat × Bool))
  (h : elimC (evP C hs s) ck0 (ckF s ks ts hl) = elimC (evP C hs s) ck1 (ckG True ts hl ul) := by kernel_rfl) : s.le K (s.cl ks ts hl ul) := lp hC hs ks ts hl ul h
theorem lS {s : S} {ts : List (Nat × V)} {hl : List (Nat × E)} {us : List Nat} (h : leCk K.n0 s ts hl us = (snds ts, snds (somes hl), true) := by kernel_rfl) : s.le K (mkS ts hl us) := leS h
theorem vc {c : Operand} {x y : Code} {s : S} {Q : Exit → S → Prop} {b : Bool} (ht : b = true → vwp K x s Q) (hf : b = false → vwp K y s Q) (hc : s.get c = .t (.bool b) := by kernel_rfl) : vwp K (.cond c x y) s Q := vwp_cond hc ht hf
theorem vci {R : Type} {A B : Option R} {r : R} {c : Operand} {x y : Code} {s : S} {Q : Exit → S → Prop} {b : Bool} (h : (bif b then A else B) = some r) (ht : b = true → A = some r → vwp K x s Q) (hf : b = false → B = some r → vwp K y s Q) (hc : s.get c = .t (.bool b) := by kernel_rfl) : vwp K (.cond c x y) s Q :=
 vwp_cond hc (fun e => ht e (bt e h)) (fun e => hf e (bf e h))
theorem splI {R : Type} {A B : Option R} {r : R} {b : Bool} {P : Prop} (h : (bif b then A else B) = some r) (h0 : b = false → B = some r → P) (h1 : b = true → A = some r → P) : P := split_b b (fun e => h0 e (bf e h)) (fun e => h1 e (bt e h))
theorem eW {s : S} {rs : List ResultVar} {r : V} {out : List E} (h : (fitO r (resV Ty s rs), outFit s out 0, r.ok (usedTo out.length) && outOk (usedTo out.length) out) = (some r, outSome out, true) := by kernel_rfl) :
  ∃ vs, resV Ty s rs = some vs ∧ VLe (oneOr vs) r ∧ r.ok (usedTo out.length) = true ∧ HeapLe s.H (usedTo out.length) (listH out 0) := endW h
theorem eR {s : S} {rs : List ResultVar} {r : V} (h : fitO r (resV Ty s rs) = some r := by kernel_rfl) : ∃ vs, resV Ty s rs = some vs ∧ VLe (oneOr vs) r := endR h
end Go.Lift
