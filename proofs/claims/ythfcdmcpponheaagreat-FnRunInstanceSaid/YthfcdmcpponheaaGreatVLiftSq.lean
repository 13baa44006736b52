/- Short forms of the rules: the check by the kernel stands last. -/
import Derived.Test.YthfcdmcpponheaaGreatVLiftZ
set_option linter.unusedVariables false
namespace Go.Lift
open Go
variable {K : Ctx} {C : Cfg} {P : Program} {G : Glob} {Ty : List (Nat × TyI)}
theorem rk {id : Nat} {l : List Oper} {s : S} {Q : Exit → S → Prop} (hC : C.Fits K) (hs : List Hn) (ks : List Nat) (ts : List (Nat × V)) (hl : List (Nat × Option E)) (ul : List (Nat × Bool)) {ψ : Prop} (hψ : ψ) (hn : Q .normal (s.cl ks ts hl ul))
  (h : elimC (evL C l.toArray l hs s) ck0 (ckF s ks ts hl) = elimC (evL C l.toArray l hs s) ck1 (ckG ψ ts hl ul) := by kernel_rfl) : vwp K (.region id l.toArray false) s Q := rg hC hs ks ts hl ul hψ h hn
theorem rq {id : Nat} {l : List Oper} {y : Code} {s : S} {Q : Exit → S → Prop} (hC : C.Fits K) (hs : List Hn) (ks : List Nat) (ts : List (Nat × V)) (hl : List (Nat × Option E)) (ul : List (Nat × Bool)) {ψ : Prop} (hψ : ψ) (hn : vwp K y (s.cl ks ts hl ul) Q)
  (h : elimC (evL C l.toArray l hs s) ck0 (ckF s ks ts hl) = elimC (evL C l.toArray l hs s) ck1 (ckG ψ ts hl ul) := by kernel_rfl) : vwp K (.seq (.region id l.toArray false) y) s Q := vwp_seq (rg hC hs ks ts hl ul hψ h hn)
theorem dk {id : Nat} {l : List Oper} {s : S} {Q : Exit → S → Prop} (hC : C.Fits K) (hm : K.P.follows .mixedOrders = true) (hs : List Hn) (ks : List Nat) (ts : List (Nat × V)) (hl : List (Nat × Option E)) (ul : List (Nat × Bool)) {ψ : Prop} (hψ : ψ) (hn : Q .normal (s.cl ks ts hl ul))
  (h : elimC (evR C l hs s) ck0 (ckF s ks ts hl) = elimC (evR C l hs s) ck1 (ckG ψ ts hl ul) := by kernel_rfl) : vwp K (.region id l.toArray true) s Q := rd hC hm hs ks ts hl ul hψ h hn
theorem lk {s : S} (hC : C.Fits K) (hs : List Hn) (ks : List Nat) (ts : List (Nat × V)) (hl : List (Nat × Option E)) (ul : List (Nat × Bool))
  (h : elimC (evP C hs s) ck0 (ckF s ks ts hl) = elimC (evP C hs s) ck1 (ckG True ts hl ul) := by kernel_rfl) : s.le K (s.cl ks ts hl ul) := lp hC hs ks ts hl ul h
theorem lS {s : S} {ts : List (Nat × V)} {hl : List (Nat × E)} {us : List Nat} (h : leCk K.n0 s ts hl us = (snds ts, snds (somes hl), true) := by kernel_rfl) : s.le K (mkS ts hl us) := leS h
theorem vc {c : Operand} {x y : Code} {s : S} {Q : Exit → S → Prop} {b : Bool} (ht : b = true → vwp K x s Q) (hf : b = false → vwp K y s Q) (hc : s.get c = .t (.bool b) := by kernel_rfl) : vwp K (.cond c x y) s Q := vwp_cond hc ht hf
theorem vci {R : Type} {A B : Option R} {r : R} {c : Operand} {x y : Code} {s : S} {Q : Exit → S → Prop} {b : Bool} (h : (bif b then A else B) = some r) (ht : b = true → A = some r → vwp K x s Q) (hf : b = false → B = some r → vwp K y s Q) (hc : s.get c = .t (.bool b) := by kernel_rfl) : vwp K (.cond c x y) s Q :=
 vwp_cond hc (fun e => ht e (bt e h)) (fun e => hf e (bf e h))
theorem splI {R : Type} {A B : Option R} {r : R} {b : Bool} {P : Prop} (h : (bif b then A else B) = some r) (h0 : b = false → B = some r → P) (h1 : b = true → A = some r → P) : P := split_b b (fun e => h0 e (bf e h)) (fun e => h1 e (bt e h))
theorem eW {s : S} {rs : List ResultVar} {r : V} {out : List E} (h : (fitO r (resV Ty s rs), outFit s out 0, r.ok (usedTo out.length) && outOk (usedTo out.length) out) = (some r, outSome out, true) := by kernel_rfl) :
  ∃ vs, resV Ty s rs = some vs ∧ VLe (oneOr vs) r ∧ r.ok (usedTo out.length) = true ∧ HeapLe s.H (usedTo out.length) (listH out 0) := endW h
theorem eR {s : S} {rs : List ResultVar} {r : V} (h : fitO r (resV Ty s rs) = some r := by kernel_rfl) : ∃ vs, resV Ty s rs = some vs ∧ VLe (oneOr vs) r := endR h
theorem a0 : True := trivial
theorem a1 {p1 : Prop} (h1 : p1) : p1 ∧ True := ⟨h1, trivial⟩
theorem a2 {p1 p2 : Prop} (h1 : p1) (h2 : p2) : p1 ∧ p2 ∧ True := ⟨h1, h2, trivial⟩
theorem a3 {p1 p2 p3 : Prop} (h1 : p1) (h2 : p2) (h3 : p3) : p1 ∧ p2 ∧ p3 ∧ True := ⟨h1, h2, h3, trivial⟩
theorem a4 {p1 p2 p3 p4 : Prop} (h1 : p1) (h2 : p2) (h3 : p3) (h4 : p4) : p1 ∧ p2 ∧ p3 ∧ p4 ∧ True := ⟨h1, h2, h3, h4, trivial⟩
theorem a5 {p1 p2 p3 p4 p5 : Prop} (h1 : p1) (h2 : p2) (h3 : p3) (h4 : p4) (h5 : p5) : p1 ∧ p2 ∧ p3 ∧ p4 ∧ p5 ∧ True := ⟨h1, h2, h3, h4, h5, trivial⟩
theorem a6 {p1 p2 p3 p4 p5 p6 : Prop} (h1 : p1) (h2 : p2) (h3 : p3) (h4 : p4) (h5 : p5) (h6 : p6) : p1 ∧ p2 ∧ p3 ∧ p4 ∧ p5 ∧ p6 ∧ True := ⟨h1, h2, h3, h4, h5, h6, trivial⟩
theorem a7 {p1 p2 p3 p4 p5 p6 p7 : Prop} (h1 : p1) (h2 : p2) (h3 : p3) (h4 : p4) (h5 : p5) (h6 : p6) (h7 : p7) : p1 ∧ p2 ∧ p3 ∧ p4 ∧ p5 ∧ p6 ∧ p7 ∧ True := ⟨h1, h2, h3, h4, h5, h6, h7, trivial⟩
theorem a8 {p1 p2 p3 p4 p5 p6 p7 p8 : Prop} (h1 : p1) (h2 : p2) (h3 : p3) (h4 : p4) (h5 : p5) (h6 : p6) (h7 : p7) (h8 : p8) : p1 ∧ p2 ∧ p3 ∧ p4 ∧ p5 ∧ p6 ∧ p7 ∧ p8 ∧ True := ⟨h1, h2, h3, h4, h5, h6, h7, h8, trivial⟩
theorem a9 {p1 p2 p3 p4 p5 p6 p7 p8 p9 : Prop} (h1 : p1) (h2 : p2) (h3 : p3) (h4 : p4) (h5 : p5) (h6 : p6) (h7 : p7) (h8 : p8) (h9 : p9) : p1 ∧ p2 ∧ p3 ∧ p4 ∧ p5 ∧ p6 ∧ p7 ∧ p8 ∧ p9 ∧ True := ⟨h1, h2, h3, h4, h5, h6, h7, h8, h9, trivial⟩
theorem a10 {p1 p2 p3 p4 p5 p6 p7 p8 p9 p10 : Prop} (h1 : p1) (h2 : p2) (h3 : p3) (h4 : p4) (h5 : p5) (h6 : p6) (h7 : p7) (h8 : p8) (h9 : p9) (h10 : p10) : p1 ∧ p2 ∧ p3 ∧ p4 ∧ p5 ∧ p6 ∧ p7 ∧ p8 ∧ p9 ∧ p10 ∧ True := ⟨h1, h2, h3, h4, h5, h6, h7, h8, h9, h10, trivial⟩
theorem a11 {p1 p2 p3 p4 p5 p6 p7 p8 p9 p10 p11 : Prop} (h1 : p1) (h2 : p2) (h3 : p3) (h4 : p4) (h5 : p5) (h6 : p6) (h7 : p7) (h8 : p8) (h9 : p9) (h10 : p10) (h11 : p11) : p1 ∧ p2 ∧ p3 ∧ p4 ∧ p5 ∧ p6 ∧ p7 ∧ p8 ∧ p9 ∧ p10 ∧ p11 ∧ True := ⟨h1, h2, h3, h4, h5, h6, h7, h8, h9, h10, h11, trivial⟩
theorem a12 {p1 p2 p3 p4 p5 p6 p7 p8 p9 p10 p11 p12 : Prop} (h1 : p1) (h2 : p2) (h3 : p3) (h4 : p4) (h5 : p5) (h6 : p6) (h7 : p7) (h8 : p8) (h9 : p9) (h10 : p10) (h11 : p11) (h12 : p12) : p1 ∧ p2 ∧ p3 ∧ p4 ∧ p5 ∧ p6 ∧ p7 ∧ p8 ∧ p9 ∧ p10 ∧ p11 ∧ p12 ∧ True := ⟨h1, h2, h3, h4, h5, h6, h7, h8, h9, h10, h11, h12, trivial⟩
def fr : Nat → Nat → List Nat
 | _, 0 => []
 | a, n + 1 => a :: fr (a + 1) n
abbrev sc (l : List V) : Option E := some (E.cells l)
theorem qs {x y : Code} {s : S} {Q : Exit → S → Prop} (h : vwp K x s (Then (fun s1 => vwp K y s1 Q) Q)) : vwp K (.seq x y) s Q := vwp_seq h
theorem qb {id : Nat} {c : Code} {s : S} {Q : Exit → S → Prop} (h : vwp K c s (InBlk id Q)) : vwp K (.block id c) s Q := vwp_block h
theorem qk {s : S} {Q : Exit → S → Prop} (h : Q .normal s) : vwp K .skip s Q := vwp_skip h
theorem qr {s : S} {Q : Exit → S → Prop} (h : Q .ret s) : vwp K .ret s Q := vwp_ret h
theorem qxt {id : Nat} {s : S} {Q : Exit → S → Prop} (h : Q (.exit id) s) : vwp K (.exit id) s Q := vwp_exit h
theorem qw {c : Code} {s s' : S} {Q : Exit → S → Prop} (hs : s.le K s') (h : vwp K c s' Q) : vwp K c s Q := vwp_weaken hs h
end Go.Lift
