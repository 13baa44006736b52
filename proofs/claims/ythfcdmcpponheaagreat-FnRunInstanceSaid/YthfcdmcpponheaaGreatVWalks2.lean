/- The walks: the code computes what the plain functions say. -/
import Derived.Test.YthfcdmcpponheaaGreatVModels
import Derived.Test.YthfcdmcpponheaaGreatVWalks1
set_option maxRecDepth 10000
set_option linter.unusedVariables false
namespace Go.Lift
open Go Go.Proofs
variable (G : GS) {n : Nat}
theorem c_i_Program_touched {p} {x} {r} (h : i_Program_touched n p x = some r) : VCC Tryz.prog G.g 82 [] [V.agg (cProg p), V.agg (cInst x)] (V.tup [ms 0 1 1 rI r.1, vI r.2]) [ar 3 1 1 rI r.1] := by
 unfold i_Program_touched at h
 refine vmr tyOK Tryz.func82 rfl rfl rfl rfl rfl rfl rfl rfl ?_
 intro w X β0 hC hg
 refine rq hC [.b true, .b true] (fr 2 4) [(2, V.tp (tProg p)), (3, V.tp (tInst x))] [] [] a0 ?_
 obtain ⟨x1, hx1, h⟩ := bd h
 refine rq hC [.v (V.agg (cStmt x1)), .nat 20] [6, 10, 11, 12] [(6, V.ref 20 0)] [(20, some (E.cells (cStmt x1)))] [(20, true)] (a1 (c_i_Program_stmt G hx1)) ?_
 refine rq hC [] [7] [(7, V.t T.nilS)] [] [] a0 ?_
 refine qs ?_
 obtain ⟨x2, hx2, h⟩ := bd h
 refine rq hC [.vc [] [21] (ms 0 1 2 rAccess x2) [ar 107 1 2 rAccess x2], .nat x2.length] (fr 13 5) [(15, ms 21 1 2 rAccess x2), (16, vI (x2.length : Int)), (17, vI 0)] [(21, some (ar 107 1 2 rAccess x2))] [(21, true)] (a2 (c_i_reads G n x1.value hx2) (lenM rAccess x2)) ?_
 refine qb (qw (lk hC [.grow 7 22 3] [7] [(7, ms 22 1 1 rI [])] [(22, some (ar 3 1 1 rI []))] [(22, true)]) ?_)
 refine vwp_lm (γ := Nat) h (fun x_ g_ => mkS [(2, V.tp (tProg p)), (3, V.tp (tInst x)), (6, V.ref 20 0), (7, ms 22 g_ 1 rI x_.1), (15, ms 21 1 2 rAccess x2), (16, vI (x2.length : Int)), (17, vI x_.2)] [(20, E.cells (cStmt x1)), (21, ar 107 1 2 rAccess x2), (22, ar 3 g_ 1 rI x_.1)] [20, 21, 22]) 1 (lS) ?_
 rintro again6 ⟨x3, x4⟩ g5 h
 refine rq hC [] [18] [(18, vB (decide (x4 < (x2.length : Int))))] [] [] a0 ?_
 refine qs (vci (b := decide (x4 < (x2.length : Int))) h (fun c1 h => ?_) (fun c1 h => ?_))
 ·refine qk (qs (qb ?_))
  obtain ⟨x7, hx7, h⟩ := bd h
  refine rq hC [.row (rAccess x7), .nat 23] [9, 19, 20] [(9, V.ref 23 0)] [(23, some (E.cells (cAccess x7)))] [(23, true)] (a2 (ixn rAccess hx7) (ixr rAccess hx7)) ?_
  obtain ⟨x8, hx8, h⟩ := bd h
  obtain ⟨x9, hx9, h⟩ := bd h
  refine rk hC [.v (vI x8), .int 0, .rows (List.map rI x9)] [7, 21, 22, 23, 24, 25, 26, 27, 28] [(7, ms 22 (g5 + 1) 1 rI x9)] [(22, some (ar 3 (g5 + 1) 1 rI x9))] [] (a4 (c_i_Program_cell G hx8) (app_map rI hx9) (rwM (r := rI) 1 (fun _ => rfl) x3) (rwM (r := rI) 1 (fun _ => rfl) [x8])) ?_
  refine rk hC [] [17, 29] [(17, vI (wr (x4 + 1)))] [] [] a0 ?_
  exact ⟨(x9, wr (x4 + 1)), (g5 + 1), h, lS⟩
 ·refine qxt ?_
  obtain ⟨x10, hx10, h⟩ := bd h
  refine rq hC [.v (vI x10)] [4, 5, 30, 31, 32, 33, 34, 35, 36] [(4, ms 22 g5 1 rI x3), (5, vI x10)] [] [] (a1 (c_i_Program_cell G hx10)) ?_
  refine qw (lk hC [.ren 4 22 0] [4] [(4, ms 0 1 1 rI x3)] [(0, some (ar 3 1 1 rI x3)), (22, none)] [(0, true)]) ?_
  refine qr ?_
  obtain rfl := so h
  exact eW
theorem c_s_l4Total {p} {r} (h : s_l4Total n p = some r) : PCC Tryz.prog G.g 84 [V.agg (cProg p)] (vI r) := by
 unfold s_l4Total at h
 refine pmr tyOK Tryz.func84 rfl rfl rfl rfl rfl rfl rfl ?_
 intro w X hC
 refine rq hC [.b true] [1, 2] [(1, V.tp (tProg p))] [] [] a0 ?_
 refine rq hC [] [3] [(3, vI 0)] [] [] a0 ?_
 refine qs (rq hC [] [4] [(4, vI 0)] [] [] trivial ?_)
 refine qb (vwp_lm (γ := Unit) h (fun x_ _ => mkS [(1, V.tp (tProg p)), (3, vI x_.1), (4, vI x_.2)] [] []) () (lS) ?_)
 rintro again3 ⟨x1, x2⟩ ⟨⟩ h
 refine qs (rq hC [.nat p.arrays.length] (fr 5 5) [(9, vB (decide (x2 < (p.arrays.length : Int))))] [] [] (a1 (lenM rArr p.arrays)) ?_)
 refine vci (b := decide (x2 < (p.arrays.length : Int))) h (fun c1 h => ?_) (fun c1 h => ?_)
 ·refine qk (qs (qb ?_))
  obtain ⟨x4, hx4, h⟩ := bd h
  obtain ⟨x5, hx5, h⟩ := bd h
  refine rk hC [.row (rArr x4), .v (vI x5)] [3, 12, 13, 14, 15, 16, 17, 18, 19] [(3, vI (wr (x1 + x5)))] [] [] (a2 (ix_map rArr hx4) (c_s_l4Size G hx5)) ?_
  refine rk hC [] [4, 10, 11] [(4, vI (wr (x2 + 1)))] [] [] a0 ?_
  exact ⟨(wr (x1 + x5), wr (x2 + 1)), (), h, lS⟩
 ·refine qxt (rq hC [] [2, 20] [(2, vI x1)] [] [] trivial ?_)
  refine qr ?_
  obtain rfl := so h
  exact eR
theorem c_s_MemoryValid {p} {m} {r} (h : s_MemoryValid n p m = some r) : PCC Tryz.prog G.g 69 [V.agg (cProg p), vM rI m] (vB r) := by
 unfold s_MemoryValid at h
 refine pmr tyOK Tryz.func69 rfl rfl rfl rfl rfl rfl rfl ?_
 intro w X hC
 refine rq hC [.b true] [2, 4] [(2, V.tp (tProg p))] [] [] a0 ?_
 refine qs (rq hC [] [5] [(5, vI 0)] [] [] trivial ?_)
 refine qb (vwp_lm (γ := Unit) h (fun x_ _ => mkS [(1, vM rI m), (2, V.tp (tProg p)), (5, vI x_)] [] []) () (lS) ?_)
 rintro again2 x1 ⟨⟩ h
 refine qs (rq hC [.nat m.length] (fr 6 4) [(9, vB (decide (x1 < (m.length : Int))))] [] [] (a1 (lenM rI m)) ?_)
 refine vci (b := decide (x1 < (m.length : Int))) h (fun c1 h => ?_) (fun c1 h => ?_)
 ·refine qk (qs (qb ?_))
  obtain ⟨j3, hj3, h⟩ := jn_e h
  refine vwp_jm (γ := Unit) (j := j3) (r := r) (fun x_ _ => mkS [(1, vM rI m), (2, V.tp (tProg p)), (5, vI x1), (23, vB x_)] [] []) ?_ ?_
  ·
   obtain ⟨x4, hx4, h⟩ := bd h
   refine splI h (fun c2 h => ?_) (fun c2 h => ?_)
   ·refine rk hC [.row (rI x4), .b false, .b false, .b false, .row (rI x4), .b false, .b false, .b false] (fr 12 12) [(23, vB (decide ((999 : Int) < x4)))] [] [] (a8 (ix_map rI hx4) c2 c2 c2 (ix_map rI hx4) c2 c2 c2) ?_
    exact ⟨decide ((999 : Int) < x4), (), h, lS⟩
   ·refine rk hC [.row (rI x4), .b true, .b true, .b true, .b true, .b true, .b true] (fr 12 12) [(23, vB true)] [] [] (a7 (ix_map rI hx4) c2 c2 c2 c2 c2 c2) ?_
    exact ⟨true, (), h, lS⟩
  ·rintro x5 ⟨⟩ h
   subst hj3
   refine vci (b := x5) h (fun c3 h => ?_) (fun c3 h => ?_)
   ·refine rq hC [] [4] [(4, vB false)] [] [] a0 ?_
    refine qr ?_
    obtain rfl := so h
    exact eR
   ·refine qk (rk hC [] [5, 10, 11] [(5, vI (wr (x1 + 1)))] [] [] trivial ?_)
    exact ⟨wr (x1 + 1), (), h, lS⟩
 ·refine qxt ?_
  obtain ⟨j6, hj6, h⟩ := jn_e h
  refine vwp_jm (γ := Unit) (j := j6) (r := r) (fun x_ _ => mkS [(4, vB x_)] [] []) ?_ ?_
  ·
   obtain ⟨x7, hx7, h⟩ := bd h
   refine splI h (fun c4 h => ?_) (fun c4 h => ?_)
   ·refine rk hC [.v (vB x7), .b false, .b false, .b false, .b false, .b false, .b false] [4, 24, 25, 26, 27, 28, 29, 30, 31, 32] [(4, vB false)] [] [] (a7 (c_s_ProgramValid G hx7) c4 c4 c4 c4 c4 c4) ?_
    exact ⟨false, (), h, lS⟩
   ·obtain ⟨x8, hx8, h⟩ := bd h
    refine rk hC [.v (vB x7), .b true, .b true, .nat m.length, .b true, .b true, .v (vI x8), .b true, .b true] [4, 24, 25, 26, 27, 28, 29, 30, 31, 32] [(4, vB (decide ((m.length : Int) = x8)))] [] [] (a9 (c_s_ProgramValid G hx7) c4 c4 (lenM rI m) c4 c4 (c_s_l4Total G hx8) c4 c4) ?_
    exact ⟨decide ((m.length : Int) = x8), (), h, lS⟩
  ·rintro x9 ⟨⟩ h
   subst hj6
   refine qr ?_
   obtain rfl := so h
   exact eR
theorem c_s_l5Wrap {n_a0} {r} (h : s_l5Wrap n n_a0 = some r) : PCC Tryz.prog G.g 141 [vI n_a0] (vI r) := by
 unfold s_l5Wrap at h
 refine pmr tyOK Tryz.func141 rfl rfl rfl rfl rfl rfl rfl ?_
 intro w X hC
 refine rq hC [] [2] [] [] [] a0 ?_
 refine rq hC [] [0, 3, 4] [(0, vI (Int.tmod n_a0 1000))] [] [] (a1 (show (1000 : Int) ≠ 0 by decide)) ?_
 refine qs (rq hC [] [5, 6] [(6, vB (decide (Int.tmod n_a0 1000 < 0)))] [] [] trivial ?_)
 refine vci (b := decide (Int.tmod n_a0 1000 < 0)) h (fun c1 h => ?_) (fun c1 h => ?_)
 ·refine rq hC [] [2, 7, 8, 9] [(2, vI (wr ((wr ((Int.tmod n_a0 1000) + 999)) + 1)))] [] [] a0 ?_
  refine qr ?_
  obtain rfl := so h
  exact eR
 ·refine qk (rq hC [] [2, 10] [(2, vI (Int.tmod n_a0 1000))] [] [] trivial ?_)
  refine qr ?_
  obtain rfl := so h
  exact eR
theorem c_s_l5Eval (G : GS) : ∀ (n : Nat) (list : List Arr) (m : List Int) (e : Expr) (point : List Int) {r : Int} (h : s_l5Eval n list m e point = some r), PCC Tryz.prog G.g 93 [vM rArr list, vM rI m, V.agg (cExpr e), vM rI point] (vI r) := by
 intro n
 induction n with
 | zero => intro list m e point r h; rw [s_l5Eval.eq_def] at h; cases h
 | succ n ih =>
  intro list m e point r h
  rw [s_l5Eval.eq_def] at h; dsimp only at h
  refine pmr tyOK Tryz.func93 rfl rfl rfl rfl rfl rfl rfl ?_
  intro w X hC
  refine rq hC [.b true] [6, 8] [(6, V.tp (tExpr e))] [] [] a0 ?_
  refine qs (rq hC [] [11, 12] [(12, vI e.kind)] [] [] trivial ?_)
  refine qb (rq hC [] [13, 14] [(13, vB (decide (e.kind = 1)))] [] [] trivial ?_)
  refine vci (b := decide (e.kind = 1)) h (fun c1 h => ?_) (fun c1 h => ?_)
  ·refine rq hC [] [8, 15, 16] [(8, vI e.num)] [] [] a0 ?_
   refine qr ?_
   obtain rfl := so h
   exact eR
  ·refine rq hC [] [17, 18] [(17, vB (decide (e.kind = 2)))] [] [] a0 ?_
   refine vci (b := decide (e.kind = 2)) h (fun c2 h => ?_) (fun c2 h => ?_)
   ·obtain ⟨x1, hx1, h⟩ := bd h
    obtain ⟨x2, hx2, h⟩ := bd h
    refine rq hC [.v (vI x1), .v (vI x2)] [8, 19, 20, 21, 22, 23] [(8, vI x2)] [] [] (a2 (c_s_l1Eval G hx1) (c_s_l5Wrap G hx2)) ?_
    refine qr ?_
    obtain rfl := so h
    exact eR
   ·refine rq hC [] [24, 25] [(24, vB (decide (e.kind = 3)))] [] [] a0 ?_
    refine vci (b := decide (e.kind = 3)) h (fun c3 h => ?_) (fun c3 h => ?_)
    ·obtain ⟨x3, hx3, h⟩ := bd h
     obtain ⟨x4, hx4, h⟩ := bd h
     refine rq hC [.v (vI x3), .row (rI x4)] [8, 26, 27, 28, 29, 30, 31, 32, 33] [(8, vI x4)] [] [] (a2 (c_s_l4Cell G hx3) (ix_map rI hx4)) ?_
     refine qr ?_
     obtain rfl := so h
     exact eR
    ·refine qk ?_
     obtain ⟨x5, hx5, h⟩ := bd h
     obtain ⟨x6, hx6, h⟩ := bd h
     refine rq hC [.row (rExprC x5), .v (vI x6)] [9, 34, 35, 36, 37, 38, 39, 40, 41] [(9, vI x6)] [] [] (a2 (ix_mapE rExpr hx5 (rExpr_eq x5)) (ih list m x5 point hx6)) ?_
     obtain ⟨x7, hx7, h⟩ := bd h
     obtain ⟨x8, hx8, h⟩ := bd h
     refine rq hC [.row (rExprC x7), .v (vI x8)] [10, 42, 43, 44, 45, 46, 47, 48, 49] [(10, vI x8)] [] [] (a2 (ix_mapE rExpr hx7 (rExpr_eq x7)) (ih list m x7 point hx8)) ?_
     refine qs (rq hC [] [50, 51] [(51, vI e.kind)] [] [] trivial ?_)
     refine qb (rq hC [] [52, 53] [(52, vB (decide (e.kind = 4)))] [] [] trivial ?_)
     refine vci (b := decide (e.kind = 4)) h (fun c4 h => ?_) (fun c4 h => ?_)
     ·obtain ⟨x9, hx9, h⟩ := bd h
      refine rq hC [.v (vI x9)] [8, 54, 55, 56, 57] [(8, vI x9)] [] [] (a1 (c_s_l5Wrap G hx9)) ?_
      refine qr ?_
      obtain rfl := so h
      exact eR
     ·refine rq hC [] [58, 59] [(58, vB (decide (e.kind = 5)))] [] [] a0 ?_
      refine vci (b := decide (e.kind = 5)) h (fun c5 h => ?_) (fun c5 h => ?_)
      ·obtain ⟨x10, hx10, h⟩ := bd h
       refine rq hC [.v (vI x10)] [8, 60, 61, 62, 63] [(8, vI x10)] [] [] (a1 (c_s_l5Wrap G hx10)) ?_
       refine qr ?_
       obtain rfl := so h
       exact eR
      ·refine qk ?_
       obtain ⟨x11, hx11, h⟩ := bd h
       refine rq hC [.v (vI x11)] [8, 64, 65, 66, 67] [(8, vI x11)] [] [] (a1 (c_s_l5Wrap G hx11)) ?_
       refine qr ?_
       obtain rfl := so h
       exact eR
theorem c_s_l5Run {p} {m} (mG : Nat) {x} {r} (h : s_l5Run n p m x = some r) : VCC Tryz.prog G.g 71 [ar 3 mG 1 rI m] [V.agg (cProg p), ms 0 mG 1 rI m, V.agg (cInst x)] (V.tup []) [ar 3 mG 1 rI r] := by
 unfold s_l5Run at h
 refine vmr tyOK Tryz.func71 rfl rfl rfl rfl rfl rfl rfl rfl ?_
 intro w X β0 hC hg
 refine rq hC [.b true, .b true] [3, 5] [(3, V.tp (tProg p)), (5, V.tp (tInst x))] [] [] a0 ?_
 refine qs ?_
 obtain ⟨x1, hx1, h⟩ := bd h
 obtain ⟨x2, hx2, h⟩ := bd h
 refine dk hC hmix [.row (rPart x1), .row (rStmt x2), .nat 20] (fr 6 12) [(6, V.ref 20 0)] [(20, some (E.cells (cStmt x2)))] [(20, true)] (a2 (ix_map rPart hx1) (ix_map rStmt hx2)) ?_
 obtain ⟨x3, hx3, h⟩ := bd h
 obtain ⟨x4, hx4, h⟩ := bd h
 obtain ⟨x5, hx5, h⟩ := bd h
 obtain ⟨x6, hx6, h⟩ := bd h
 refine dk hC hmix [.v (vI x3), .b true, .v (vI x4), .row (rI x5), .rows (List.map rI x6)] [1, 18, 19, 20, 21, 22, 23, 24, 25, 26, 27, 28, 29, 30, 31, 32, 33, 34] [] [(0, some (ar 3 mG 1 rI x6))] [] (a5 (c_s_l4Cell G hx3) (c_s_l5Eval G n p.arrays m x2.value x.point hx4) (ixn rI hx5) (ixr rI hx5) (str rI hx6)) ?_
 obtain rfl := so h
 exact eW
theorem c_i_modulo {n_a0} {r} (h : i_modulo n n_a0 = some r) : PCC Tryz.prog G.g 139 [vI n_a0] (vI r) := by
 unfold i_modulo at h
 refine pmr tyOK Tryz.func139 rfl rfl rfl rfl rfl rfl rfl ?_
 intro w X hC
 refine rq hC [] [2] [] [] [] a0 ?_
 refine rq hC [] (fr 2 6) [(2, vI (Int.tmod (wr ((wr ((Int.tmod n_a0 1000) + 999)) + 1)) 1000))] [] [] (a2 (show (1000 : Int) ≠ 0 by decide) (show (1000 : Int) ≠ 0 by decide)) ?_
 refine qr ?_
 obtain rfl := so h
 exact eR
theorem c_i_Program_value (G : GS) : ∀ (n : Nat) (p : Prog) (m : List Int) (e : Expr) (point : List Int) {r : Int} (h : i_Program_value n p m e point = some r), PCC Tryz.prog G.g 91 [V.agg (cProg p), vM rI m, V.agg (cExpr e), vM rI point] (vI r) := by
 intro n
 induction n with
 | zero => intro p m e point r h; rw [i_Program_value.eq_def] at h; cases h
 | succ n ih =>
  intro p m e point r h
  rw [i_Program_value.eq_def] at h; dsimp only at h
  refine pmr tyOK Tryz.func91 rfl rfl rfl rfl rfl rfl rfl ?_
  intro w X hC
  refine rq hC [.b true, .b true] [4, 6, 8] [(4, V.tp (tProg p)), (6, V.tp (tExpr e))] [] [] a0 ?_
  refine qs (rq hC [] [11, 12] [(12, vI e.kind)] [] [] trivial ?_)
  refine qb (rq hC [] [13, 14] [(13, vB (decide (e.kind = 1)))] [] [] trivial ?_)
  refine vci (b := decide (e.kind = 1)) h (fun c1 h => ?_) (fun c1 h => ?_)
  ·refine rq hC [] [8, 15, 16] [(8, vI e.num)] [] [] a0 ?_
   refine qr ?_
   obtain rfl := so h
   exact eR
  ·refine rq hC [] [17, 18] [(17, vB (decide (e.kind = 2)))] [] [] a0 ?_
   refine vci (b := decide (e.kind = 2)) h (fun c2 h => ?_) (fun c2 h => ?_)
   ·obtain ⟨x1, hx1, h⟩ := bd h
    obtain ⟨x2, hx2, h⟩ := bd h
    refine rq hC [.v (vI x1), .v (vI x2)] [8, 19, 20, 21, 22, 23] [(8, vI x2)] [] [] (a2 (c_i_Affine_eval G hx1) (c_i_modulo G hx2)) ?_
    refine qr ?_
    obtain rfl := so h
    exact eR
   ·refine rq hC [] [24, 25] [(24, vB (decide (e.kind = 3)))] [] [] a0 ?_
    refine vci (b := decide (e.kind = 3)) h (fun c3 h => ?_) (fun c3 h => ?_)
    ·obtain ⟨x3, hx3, h⟩ := bd h
     obtain ⟨x4, hx4, h⟩ := bd h
     refine rq hC [.v (vI x3), .row (rI x4)] [8, 26, 27, 28, 29, 30, 31, 32, 33] [(8, vI x4)] [] [] (a2 (c_i_Program_cell G hx3) (ix_map rI hx4)) ?_
     refine qr ?_
     obtain rfl := so h
     exact eR
    ·refine qk (qs ?_)
     obtain ⟨x5, hx5, h⟩ := bd h
     obtain ⟨x6, hx6, h⟩ := bd h
     obtain ⟨x7, hx7, h⟩ := bd h
     obtain ⟨x8, hx8, h⟩ := bd h
     refine dk hC hmix [.row (rExprC x5), .v (vI x6), .row (rExprC x7), .v (vI x8)] [9, 10, 34, 35, 36, 37, 38, 39, 40, 41, 42, 43, 44, 45, 46, 47, 48, 49] [(9, vI x6), (10, vI x8)] [] [] (a4 (ix_mapE rExpr hx5 (rExpr_eq x5)) (ih p m x5 point hx6) (ix_mapE rExpr hx7 (rExpr_eq x7)) (ih p m x7 point hx8)) ?_
     refine qs (rq hC [] [50, 51] [(51, vI e.kind)] [] [] trivial ?_)
     refine qb (rq hC [] [52, 53] [(52, vB (decide (e.kind = 4)))] [] [] trivial ?_)
     refine vci (b := decide (e.kind = 4)) h (fun c4 h => ?_) (fun c4 h => ?_)
     ·obtain ⟨x9, hx9, h⟩ := bd h
      refine rq hC [.v (vI x9)] [8, 54, 55, 56, 57] [(8, vI x9)] [] [] (a1 (c_i_modulo G hx9)) ?_
      refine qr ?_
      obtain rfl := so h
      exact eR
     ·refine rq hC [] [58, 59] [(58, vB (decide (e.kind = 5)))] [] [] a0 ?_
      refine vci (b := decide (e.kind = 5)) h (fun c5 h => ?_) (fun c5 h => ?_)
      ·obtain ⟨x10, hx10, h⟩ := bd h
       refine rq hC [.v (vI x10)] [8, 60, 61, 62, 63] [(8, vI x10)] [] [] (a1 (c_i_modulo G hx10)) ?_
       refine qr ?_
       obtain rfl := so h
       exact eR
      ·refine qk ?_
       obtain ⟨x11, hx11, h⟩ := bd h
       refine rq hC [.v (vI x11)] [8, 64, 65, 66, 67] [(8, vI x11)] [] [] (a1 (c_i_modulo G hx11)) ?_
       refine qr ?_
       obtain rfl := so h
       exact eR
theorem c_i_Program_do {p} {m} (mG : Nat) {x} {r} (h : i_Program_do n p m x = some r) : VCC Tryz.prog G.g 73 [ar 3 mG 1 rI m] [V.agg (cProg p), ms 0 mG 1 rI m, V.agg (cInst x)] (V.tup []) [ar 3 mG 1 rI r] := by
 unfold i_Program_do at h
 refine vmr tyOK Tryz.func73 rfl rfl rfl rfl rfl rfl rfl rfl ?_
 intro w X β0 hC hg
 refine rq hC [.b true, .b true] [3, 5] [(3, V.tp (tProg p)), (5, V.tp (tInst x))] [] [] a0 ?_
 obtain ⟨x1, hx1, h⟩ := bd h
 refine rq hC [.v (V.agg (cStmt x1)), .nat 20] (fr 6 4) [(6, V.ref 20 0)] [(20, some (E.cells (cStmt x1)))] [(20, true)] (a1 (c_i_Program_stmt G hx1)) ?_
 obtain ⟨x2, hx2, h⟩ := bd h
 obtain ⟨x3, hx3, h⟩ := bd h
 obtain ⟨x4, hx4, h⟩ := bd h
 obtain ⟨x5, hx5, h⟩ := bd h
 refine dk hC hmix [.v (vI x2), .b true, .v (vI x3), .row (rI x4), .rows (List.map rI x5)] [1, 10, 11, 12, 13, 14, 15, 16, 17, 18, 19, 20, 21, 22, 23, 24] [] [(0, some (ar 3 mG 1 rI x5))] [] (a5 (c_i_Program_cell G hx2) (c_i_Program_value G n p m x1.value x.point hx3) (ixn rI hx4) (ixr rI hx4) (str rI hx5)) ?_
 obtain rfl := so h
 exact eW
theorem c_i_MemoryValid_1 (G : GS) (n : Nat) (n_a0 : Int) {r : Bool} (h : i_MemoryValid_1 n n_a0 = some r) : PCC Tryz.prog G.g 88 [vI n_a0] (vB r) := by
 unfold i_MemoryValid_1 at h
 refine pmr tyOK Tryz.func88 rfl rfl rfl rfl rfl rfl rfl ?_
 intro w X hC
 refine rq hC [] [2] [] [] [] a0 ?_
 obtain ⟨x1, hx1, h⟩ := bd h
 refine rq hC [.v (vB x1)] (fr 2 4) [(2, vB (!x1))] [] [] (a1 (c_i_within G hx1)) ?_
 refine qr ?_
 obtain rfl := so h
 exact eR
theorem c_i_Program_cells {p} {r} (h : i_Program_cells n p = some r) : PCC Tryz.prog G.g 81 [V.agg (cProg p)] (vI r) := by
 unfold i_Program_cells at h
 refine pmr tyOK Tryz.func81 rfl rfl rfl rfl rfl rfl rfl ?_
 intro w X hC
 refine rq hC [.b true] [1, 2] [(1, V.tp (tProg p))] [] [] a0 ?_
 refine rq hC [] [3] [(3, vI 0)] [] [] a0 ?_
 refine qs (rq hC [.nat p.arrays.length] (fr 6 4) [(7, vM rArr p.arrays), (8, vI (p.arrays.length : Int)), (9, vI 0)] [] [] (a1 (lenM rArr p.arrays)) ?_)
 refine qb (vwp_lm (γ := Unit) h (fun x_ _ => mkS [(3, vI x_.1), (7, vM rArr p.arrays), (8, vI (p.arrays.length : Int)), (9, vI x_.2)] [] []) () (lS) ?_)
 rintro again3 ⟨x1, x2⟩ ⟨⟩ h
 refine rq hC [] [10] [(10, vB (decide (x2 < (p.arrays.length : Int))))] [] [] a0 ?_
 refine qs (vci (b := decide (x2 < (p.arrays.length : Int))) h (fun c1 h => ?_) (fun c1 h => ?_))
 ·refine qk (qs (qb ?_))
  obtain ⟨x4, hx4, h⟩ := bd h
  refine rq hC [.row (rArr x4), .nat 20] [5, 11, 12] [(5, V.ref 20 0)] [(20, sc [vS x4.name, vM rI x4.dims])] [(20, true)] (a1 (ix_map rArr hx4)) ?_
  obtain ⟨x5, hx5, h⟩ := bd h
  refine rk hC [.v (vI x5)] [3, 13, 14, 15, 16] [(3, vI (wr (x1 + x5)))] [] [] (a1 (c_i_Array_size G hx5)) ?_
  refine rk hC [] [9, 17] [(9, vI (wr (x2 + 1)))] [] [] a0 ?_
  exact ⟨(wr (x1 + x5), wr (x2 + 1)), (), h, lS⟩
 ·refine qxt (rq hC [] [2, 18] [(2, vI x1)] [] [] trivial ?_)
  refine qr ?_
  obtain rfl := so h
  exact eR
theorem c_i_MemoryValid {p} {m} {r} (h : i_MemoryValid n p m = some r) : PCC Tryz.prog G.g 46 [V.agg (cProg p), vM rI m] (vB r) := by
 unfold i_MemoryValid at h
 refine pmr tyOK Tryz.func46 rfl rfl rfl rfl rfl rfl rfl ?_
 intro w X hC
 refine rq hC [.b true] [2, 4] [(2, V.tp (tProg p))] [] [] a0 ?_
 obtain ⟨j1, hj1, h⟩ := jn_e h
 refine vwp_jm (γ := Unit) (j := j1) (r := r) (fun x_ _ => mkS [(4, vB x_)] [] []) ?_ ?_
 ·
  obtain ⟨x2, hx2, h⟩ := bd h
  refine splI h (fun c1 h => ?_) (fun c1 h => ?_)
  ·refine rk hC [.v (vB x2), .b false, .b false, .b false, .b false, .b false, .b false, .b false, .b false, .b false, .b false] (fr 4 15) [(4, vB false)] [] [] (a11 (c_i_ProgramValid G hx2) c1 c1 c1 c1 c1 c1 (Eq.refl false) (Eq.refl false) (Eq.refl false) (Eq.refl false)) ?_
   exact ⟨false, (), h, lS⟩
  ·obtain ⟨x3, hx3, h⟩ := bd h
   refine splI h (fun c2 h => ?_) (fun c2 h => ?_)
   ·refine rk hC [.v (vB x2), .b true, .b true, .nat m.length, .b true, .b true, .v (vI x3), .b true, .b true, .b false, .b false, .b false, .b false] (fr 4 15) [(4, vB false)] [] [] (an (c_i_ProgramValid G hx2) (a12 c1 c1 (lenM rI m) c1 c1 (c_i_Program_cells G hx3) c1 c1 c2 c2 c2 c2)) ?_
    exact ⟨false, (), h, lS⟩
   ·obtain ⟨x4, hx4, h⟩ := bd h
    refine rk hC [.v (vB x2), .b true, .b true, .nat m.length, .b true, .b true, .v (vI x3), .b true, .b true, .b true, .b true, .v (vB x4), .b true, .b true] (fr 4 15) [(4, vB (!x4))] [] [] (an (c_i_ProgramValid G hx2) (an c1 (a12 c1 (lenM rI m) c1 c1 (c_i_Program_cells G hx3) c1 c1 c2 c2 (c_l_ContainsFunc_int G n m 88 (fun q0 => i_MemoryValid_1 n q0) (fun q0 r h => c_i_MemoryValid_1 G n q0 h) hx4) c2 c2))) ?_
    exact ⟨!x4, (), h, lS⟩
 ·rintro x5 ⟨⟩ h
  subst hj1
  refine qr ?_
  obtain rfl := so h
  exact eR
theorem c_s_PointIn {nest} {p} {r} (h : s_PointIn n nest p = some r) : PCC Tryz.prog G.g 124 [vM rLoop nest, vM rI p] (vB r) := by
 unfold s_PointIn at h
 refine pmr tyOK Tryz.func124 rfl rfl rfl rfl rfl rfl rfl ?_
 intro w X hC
 refine rq hC [] [4] [] [] [] a0 ?_
 refine qs ?_
 obtain ⟨j1, hj1, h⟩ := jn_e h
 refine vwp_jm (γ := Unit) (j := j1) (r := r) (fun x_ _ => mkS [(0, vM rLoop nest), (1, vM rI p), (22, vB x_)] [] []) ?_ ?_
 ·
  obtain ⟨x2, hx2, h⟩ := bd h
  refine splI h (fun c1 h => ?_) (fun c1 h => ?_)
  ·obtain ⟨x3, hx3, h⟩ := bd h
   refine splI h (fun c2 h => ?_) (fun c2 h => ?_)
   ·refine rk hC [.v (vB x2), .b false, .b false, .v (vB x3), .b false, .b false, .b false, .b false, .nat p.length, .b false, .b false, .nat nest.length, .b false, .b false] (fr 8 15) [(22, vB (!decide ((p.length : Int) = (nest.length : Int))))] [] [] (an (c_s_NestValid G hx2) (an c1 (a12 c1 (c_s_l1Point G hx3) c1 c1 c2 c2 (lenM rI p) c2 c2 (lenM rLoop nest) c2 c2))) ?_
    exact ⟨!decide ((p.length : Int) = (nest.length : Int)), (), h, lS⟩
   ·refine rk hC [.v (vB x2), .b false, .b false, .v (vB x3), .b false, .b false, .b true, .b true, .b true, .b true, .b true, .b true] (fr 8 15) [(22, vB true)] [] [] (a12 (c_s_NestValid G hx2) c1 c1 (c_s_l1Point G hx3) c1 c1 c2 c2 c2 c2 c2 c2) ?_
    exact ⟨true, (), h, lS⟩
  ·refine rk hC [.v (vB x2), .b true, .b true, .b true, .b true, .b true, .b true, .b true, .b true, .b true, .b true] (fr 8 15) [(22, vB true)] [] [] (a11 (c_s_NestValid G hx2) c1 c1 c1 c1 (Eq.refl true) (Eq.refl true) (Eq.refl true) (Eq.refl true) (Eq.refl true) (Eq.refl true)) ?_
   exact ⟨true, (), h, lS⟩
 ·rintro x4 ⟨⟩ h
  subst hj1
  refine vci (b := x4) h (fun c3 h => ?_) (fun c3 h => ?_)
  ·refine rq hC [] [4] [(4, vB false)] [] [] a0 ?_
   refine qr ?_
   obtain rfl := so h
   exact eR
  ·refine qk (qs (rq hC [] [5] [(5, vI 0)] [] [] trivial ?_))
   refine qb (vwp_lm (γ := Unit) h (fun x_ _ => mkS [(0, vM rLoop nest), (1, vM rI p), (5, vI x_)] [] []) () (lS) ?_)
   rintro again6 x5 ⟨⟩ h
   refine qs (rq hC [.nat p.length] (fr 23 4) [(26, vB (decide (x5 < (p.length : Int))))] [] [] (a1 (lenM rI p)) ?_)
   refine vci (b := decide (x5 < (p.length : Int))) h (fun c4 h => ?_) (fun c4 h => ?_)
   ·refine qk (qs (qb (qs ?_)))
    obtain ⟨x7, hx7, h⟩ := bd h
    obtain ⟨x8, hx8, h⟩ := bd h
    obtain ⟨x9, hx9, h⟩ := bd h
    refine dk hC hmix [.row (rLoop x7), .rows (List.map rI x8), .v (V.tup [vI x9.1, vI x9.2])] [6, 7, 29, 30, 31, 32, 33, 34, 35, 36, 37, 38, 39] [(6, vI x9.1), (7, vI x9.2)] [] [] (a4 (ix_map rLoop hx7) (sub_map rI hx8) (rwM (r := rI) 1 (fun _ => rfl) p) (c_s_l2Range G hx9)) ?_
    obtain ⟨j10, hj10, h⟩ := jn_e h
    refine vwp_jm (γ := Unit) (j := j10) (r := r) (fun x_ _ => mkS [(0, vM rLoop nest), (1, vM rI p), (5, vI x5), (53, vB x_)] [] []) ?_ ?_
    ·
     obtain ⟨x11, hx11, h⟩ := bd h
     refine splI h (fun c5 h => ?_) (fun c5 h => ?_)
     ·refine rk hC [.row (rI x11), .b false, .b false, .b false, .row (rI x11), .b false, .b false, .b false, .b false] (fr 40 14) [(53, vB (decide (x9.2 ≤ x11)))] [] [] (a9 (ix_map rI hx11) c5 c5 c5 (ix_map rI hx11) c5 c5 c5 c5) ?_
      exact ⟨decide (x9.2 ≤ x11), (), h, lS⟩
     ·refine rk hC [.row (rI x11), .b true, .b true, .b true, .b true, .b true, .b true, .b true] (fr 40 14) [(53, vB true)] [] [] (a8 (ix_map rI hx11) c5 c5 c5 c5 c5 c5 c5) ?_
      exact ⟨true, (), h, lS⟩
    ·rintro x12 ⟨⟩ h
     subst hj10
     refine vci (b := x12) h (fun c6 h => ?_) (fun c6 h => ?_)
     ·refine rq hC [] [4] [(4, vB false)] [] [] a0 ?_
      refine qr ?_
      obtain rfl := so h
      exact eR
     ·refine qk (rk hC [] [5, 27, 28] [(5, vI (wr (x5 + 1)))] [] [] trivial ?_)
      exact ⟨wr (x5 + 1), (), h, lS⟩
   ·refine qxt (rq hC [] [4] [(4, vB true)] [] [] trivial ?_)
    refine qr ?_
    obtain rfl := so h
    exact eR
theorem c_s_l4In {p} {x} {r} (h : s_l4In n p x = some r) : PCC Tryz.prog G.g 77 [V.agg (cProg p), V.agg (cInst x)] (vB r) := by
 unfold s_l4In at h
 refine pmr tyOK Tryz.func77 rfl rfl rfl rfl rfl rfl rfl ?_
 intro w X hC
 refine rq hC [.b true, .b true] [2, 3, 4] [(2, V.tp (tProg p)), (3, V.tp (tInst x))] [] [] a0 ?_
 refine qs ?_
 obtain ⟨j1, hj1, h⟩ := jn_e h
 refine vwp_jm (γ := Unit) (j := j1) (r := r) (fun x_ _ => mkS [(2, V.tp (tProg p)), (3, V.tp (tInst x)), (16, vB x_)] [] []) ?_ ?_
 ·
  refine splI h (fun c1 h => ?_) (fun c1 h => ?_)
  ·refine rk hC [.b false, .b false, .b false, .b false, .b false, .nat p.parts.length, .b false, .b false] (fr 6 11) [(16, vB (decide ((p.parts.length : Int) ≤ x.part)))] [] [] (a8 c1 c1 c1 c1 c1 (lenM rPart p.parts) c1 c1) ?_
   exact ⟨decide ((p.parts.length : Int) ≤ x.part), (), h, lS⟩
  ·refine rk hC [.b true, .b true, .b true, .b true, .b true, .b true, .b true] (fr 6 11) [(16, vB true)] [] [] (a7 c1 c1 c1 c1 c1 c1 c1) ?_
   exact ⟨true, (), h, lS⟩
 ·rintro x2 ⟨⟩ h
  subst hj1
  refine vci (b := x2) h (fun c2 h => ?_) (fun c2 h => ?_)
  ·refine rq hC [] [4] [(4, vB false)] [] [] a0 ?_
   refine qr ?_
   obtain rfl := so h
   exact eR
  ·refine qk ?_
   obtain ⟨x3, hx3, h⟩ := bd h
   refine rq hC [.row (rPart x3), .nat 20] [5, 17, 18, 19, 20, 21, 22] [(5, V.ref 20 0)] [(20, some (E.cells (cPart x3)))] [(20, true)] (a1 (ix_map rPart hx3)) ?_
   obtain ⟨j4, hj4, h⟩ := jn_e h
   refine vwp_jm (γ := Unit) (j := j4) (r := r) (fun x_ _ => mkS [(4, vB x_)] [(20, E.cells (cPart x3))] [20]) ?_ ?_
   ·
    refine splI h (fun c3 h => ?_) (fun c3 h => ?_)
    ·refine rk hC [.b false, .b false, .b false, .b false, .b false, .b false, .b false, .b false, .b false, .b false, .b false, .b false, .b false] [4, 23, 24, 25, 26, 27, 28, 29, 30, 31, 32, 33, 34, 35, 36, 37, 38, 39, 40] [(4, vB false)] [] [] (an c3 (a12 c3 c3 c3 c3 c3 c3 (Eq.refl false) (Eq.refl false) (Eq.refl false) (Eq.refl false) (Eq.refl false) (Eq.refl false))) ?_
     exact ⟨false, (), h, lS⟩
    ·refine splI h (fun c4 h => ?_) (fun c4 h => ?_)
     ·refine rk hC [.b true, .b true, .b true, .b true, .b true, .nat x3.body.length, .b true, .b true, .b false, .b false, .b false, .b false, .b false, .b false] [4, 23, 24, 25, 26, 27, 28, 29, 30, 31, 32, 33, 34, 35, 36, 37, 38, 39, 40] [(4, vB false)] [] [] (an c3 (an c3 (a12 c3 c3 c3 (lenM rStmt x3.body) c3 c3 c4 c4 c4 c4 c4 c4))) ?_
      exact ⟨false, (), h, lS⟩
     ·obtain ⟨x5, hx5, h⟩ := bd h
      refine rk hC [.b true, .b true, .b true, .b true, .b true, .nat x3.body.length, .b true, .b true, .b true, .b true, .b true, .b true, .b true, .v (vB x5), .b true] [4, 23, 24, 25, 26, 27, 28, 29, 30, 31, 32, 33, 34, 35, 36, 37, 38, 39, 40] [(4, vB x5)] [] [] (an c3 (an c3 (an c3 (a12 c3 c3 (lenM rStmt x3.body) c3 c3 c4 c4 c4 c4 c4 (c_s_PointIn G hx5) c4)))) ?_
      exact ⟨x5, (), h, lS⟩
   ·rintro x6 ⟨⟩ h
    subst hj4
    refine qr ?_
    obtain rfl := so h
    exact eR
theorem c_s_RunInstance {p} {m} {x} {r} (h : s_RunInstance n p m x = some r) : VCC Tryz.prog G.g 35 [] [V.agg (cProg p), vM rI m, V.agg (cInst x)] (V.tup [ms 0 1 1 rI r.1, vB r.2]) [ar 3 1 1 rI r.1] := by
 unfold s_RunInstance at h
 refine vmr tyOK Tryz.func35 rfl rfl rfl rfl rfl rfl rfl rfl ?_
 intro w X β0 hC hg
 refine rq hC [.b true, .b true] [3, 5, 6, 7] [(3, V.tp (tProg p)), (5, V.tp (tInst x))] [] [] a0 ?_
 refine qs ?_
 obtain ⟨j1, hj1, h⟩ := jn_e h
 refine vwp_jm (γ := Unit) (j := j1) (r := r) (fun x_ _ => mkS [(1, vM rI m), (3, V.tp (tProg p)), (5, V.tp (tInst x)), (18, vB x_)] [] []) ?_ ?_
 ·
  obtain ⟨x2, hx2, h⟩ := bd h
  refine splI h (fun c1 h => ?_) (fun c1 h => ?_)
  ·obtain ⟨x3, hx3, h⟩ := bd h
   refine rk hC [.v (vB x2), .b false, .b false, .b false, .v (vB x3), .b false, .b false] (fr 9 10) [(18, vB (!x3))] [] [] (a7 (c_s_MemoryValid G hx2) c1 c1 c1 (c_s_l4In G hx3) c1 c1) ?_
   exact ⟨!x3, (), h, lS⟩
  ·refine rk hC [.v (vB x2), .b true, .b true, .b true, .b true, .b true] (fr 9 10) [(18, vB true)] [] [] (a6 (c_s_MemoryValid G hx2) c1 c1 c1 c1 c1) ?_
   exact ⟨true, (), h, lS⟩
 ·rintro x4 ⟨⟩ h
  subst hj1
  refine vci (b := x4) h (fun c2 h => ?_) (fun c2 h => ?_)
  ·refine rq hC [.nat 20] [6, 7, 19] [(6, ms 20 1 1 rI []), (7, vB false)] [(20, some (ar 3 1 1 rI []))] [(20, true)] a0 ?_
   refine qw (lk hC [.ren 6 20 0] [6] [(6, ms 0 1 1 rI [])] [(0, some (ar 3 1 1 rI [])), (20, none)] [(0, true)]) ?_
   refine qr ?_
   obtain rfl := so h
   exact eW
  ·refine qk ?_
   obtain ⟨x5, hx5, h⟩ := bd h
   refine rq hC [.nat 20, .rows (List.map rI x5)] [8, 20, 21, 22] [(8, ms 20 2 1 rI x5)] [(20, some (ar 3 2 1 rI x5))] [(20, true)] (a3 (app_map rI hx5) (rwM (r := rI) 1 (fun _ => rfl) []) (rwM (r := rI) 1 (fun _ => rfl) m)) ?_
   obtain ⟨x6, hx6, h⟩ := bd h
   obtain ⟨x7, hx7, h⟩ := bd h
   refine rq hC [.vc [20] [] (V.tup []) [ar 3 2 1 rI x6], .len 8 (List.map rI x6).length] [8, 23, 24, 25, 26] [(8, ms 20 2 1 rI x6)] [(20, some (ar 3 2 1 rI x6))] [(20, true)] (a2 (c_s_l5Run G 2 hx6) (sl_map rI hx7)) ?_
   refine rq hC [] [6, 7, 27] [(6, ms 20 2 1 rI x6), (7, vB true)] [] [] a0 ?_
   refine qw (lk hC [.ren 6 20 0] [6] [(6, ms 0 1 1 rI x6)] [(0, some (ar 3 1 1 rI x6)), (20, none)] [(0, true)]) ?_
   refine qr ?_
   obtain rfl := so h
   exact eW
theorem c_i_PointIn {nest} {p} {r} (h : i_PointIn n nest p = some r) : PCC Tryz.prog G.g 125 [vM rLoop nest, vM rI p] (vB r) := by
 unfold i_PointIn at h
 refine pmr tyOK Tryz.func125 rfl rfl rfl rfl rfl rfl rfl ?_
 intro w X hC
 refine rq hC [] [4] [] [] [] a0 ?_
 refine qs ?_
 obtain ⟨j1, hj1, h⟩ := jn_e h
 refine vwp_jm (γ := Unit) (j := j1) (r := r) (fun x_ _ => mkS [(0, vM rLoop nest), (1, vM rI p), (23, vB x_)] [] []) ?_ ?_
 ·
  obtain ⟨x2, hx2, h⟩ := bd h
  refine splI h (fun c1 h => ?_) (fun c1 h => ?_)
  ·obtain ⟨x3, hx3, h⟩ := bd h
   refine splI h (fun c2 h => ?_) (fun c2 h => ?_)
   ·refine rk hC [.v (vB x2), .b false, .b false, .v (vB x3), .b false, .b false, .b false, .b false, .nat p.length, .b false, .b false, .nat nest.length, .b false, .b false] (fr 9 15) [(23, vB (!decide ((p.length : Int) = (nest.length : Int))))] [] [] (an (c_i_NestValid G hx2) (an c1 (a12 c1 (c_i_isPoint G hx3) c1 c1 c2 c2 (lenM rI p) c2 c2 (lenM rLoop nest) c2 c2))) ?_
    exact ⟨!decide ((p.length : Int) = (nest.length : Int)), (), h, lS⟩
   ·refine rk hC [.v (vB x2), .b false, .b false, .v (vB x3), .b false, .b false, .b true, .b true, .b true, .b true, .b true, .b true] (fr 9 15) [(23, vB true)] [] [] (a12 (c_i_NestValid G hx2) c1 c1 (c_i_isPoint G hx3) c1 c1 c2 c2 c2 c2 c2 c2) ?_
    exact ⟨true, (), h, lS⟩
  ·refine rk hC [.v (vB x2), .b true, .b true, .b true, .b true, .b true, .b true, .b true, .b true, .b true, .b true] (fr 9 15) [(23, vB true)] [] [] (a11 (c_i_NestValid G hx2) c1 c1 c1 c1 (Eq.refl true) (Eq.refl true) (Eq.refl true) (Eq.refl true) (Eq.refl true) (Eq.refl true)) ?_
   exact ⟨true, (), h, lS⟩
 ·rintro x4 ⟨⟩ h
  subst hj1
  refine vci (b := x4) h (fun c3 h => ?_) (fun c3 h => ?_)
  ·refine rq hC [] [4] [(4, vB false)] [] [] a0 ?_
   refine qr ?_
   obtain rfl := so h
   exact eR
  ·refine qk (qs (rq hC [.nat nest.length] [24, 25, 26] [(24, vM rLoop nest), (25, vI (nest.length : Int)), (26, vI 0)] [] [] (a1 (lenM rLoop nest)) ?_))
   refine qb (vwp_lm (γ := Unit) h (fun x_ _ => mkS [(1, vM rI p), (24, vM rLoop nest), (25, vI (nest.length : Int)), (26, vI x_)] [] []) () (lS) ?_)
   rintro again6 x5 ⟨⟩ h
   refine rq hC [] [27] [(27, vB (decide (x5 < (nest.length : Int))))] [] [] a0 ?_
   refine qs (vci (b := decide (x5 < (nest.length : Int))) h (fun c4 h => ?_) (fun c4 h => ?_))
   ·refine qk (qs (qb ?_))
    obtain ⟨x7, hx7, h⟩ := bd h
    refine rq hC [.row (rLoop x7), .nat 20] [5, 6, 28, 29, 30] [(5, vI x5), (6, V.ref 20 0)] [(20, some (E.cells (cLoop x7)))] [(20, true)] (a1 (ix_map rLoop hx7)) ?_
    refine qs ?_
    obtain ⟨x8, hx8, h⟩ := bd h
    obtain ⟨x9, hx9, h⟩ := bd h
    refine dk hC hmix [.rows (List.map rI x8), .v (V.tup [vI x9.1, vI x9.2])] [7, 8, 31, 32, 33, 34, 35, 36, 37, 38] [(7, vI x9.1), (8, vI x9.2)] [] [] (a3 (sub_map rI hx8) (rwM (r := rI) 1 (fun _ => rfl) p) (c_i_Loop_span G hx9)) ?_
    obtain ⟨j10, hj10, h⟩ := jn_e h
    refine vwp_jm (γ := Unit) (j := j10) (r := r) (fun x_ _ => mkS [(1, vM rI p), (24, vM rLoop nest), (25, vI (nest.length : Int)), (26, vI x5), (52, vB x_)] [(20, E.cells (cLoop x7))] [20]) ?_ ?_
    ·
     obtain ⟨x11, hx11, h⟩ := bd h
     refine splI h (fun c5 h => ?_) (fun c5 h => ?_)
     ·refine rk hC [.row (rI x11), .b false, .b false, .b false, .row (rI x11), .b false, .b false, .b false, .b false] (fr 39 14) [(52, vB (decide (x9.2 ≤ x11)))] [] [] (a9 (ix_map rI hx11) c5 c5 c5 (ix_map rI hx11) c5 c5 c5 c5) ?_
      exact ⟨decide (x9.2 ≤ x11), (), h, lS⟩
     ·refine rk hC [.row (rI x11), .b true, .b true, .b true, .b true, .b true, .b true, .b true] (fr 39 14) [(52, vB true)] [] [] (a8 (ix_map rI hx11) c5 c5 c5 c5 c5 c5 c5) ?_
      exact ⟨true, (), h, lS⟩
    ·rintro x12 ⟨⟩ h
     subst hj10
     refine vci (b := x12) h (fun c6 h => ?_) (fun c6 h => ?_)
     ·refine rq hC [] [4] [(4, vB false)] [] [] a0 ?_
      refine qr ?_
      obtain rfl := so h
      exact eR
     ·refine qk (rk hC [] [26, 53] [(26, vI (wr (x5 + 1)))] [] [] trivial ?_)
      exact ⟨wr (x5 + 1), (), h, lS⟩
   ·refine qxt (rq hC [] [4] [(4, vB true)] [] [] trivial ?_)
    refine qr ?_
    obtain rfl := so h
    exact eR
theorem c_i_Program_isInstance {p} {x} {r} (h : i_Program_isInstance n p x = some r) : PCC Tryz.prog G.g 78 [V.agg (cProg p), V.agg (cInst x)] (vB r) := by
 unfold i_Program_isInstance at h
 refine pmr tyOK Tryz.func78 rfl rfl rfl rfl rfl rfl rfl ?_
 intro w X hC
 refine rq hC [.b true, .b true] [2, 3, 4] [(2, V.tp (tProg p)), (3, V.tp (tInst x))] [] [] a0 ?_
 obtain ⟨j1, hj1, h⟩ := jn_e h
 refine vwp_jm (γ := Unit) (j := j1) (r := r) (fun x_ _ => mkS [(4, vB x_)] [] []) ?_ ?_
 ·
  obtain ⟨x2, hx2, h⟩ := bd h
  refine splI h (fun c1 h => ?_) (fun c1 h => ?_)
  ·refine dk hC hmix [.nat p.parts.length, .v (vB x2), .b false, .b false, .b false, .b false, .b false, .b false, .b false, .b false, .b false, .b false, .b false, .b false, .b false, .b false, .b false, .b false, .b false, .b false, .b false, .b false, .b false, .b false, .b false, .b false] (fr 4 34) [(4, vB false)] [] [] (an (lenM rPart p.parts) (an (c_i_within G hx2) (an c1 (an c1 (an c1 (an c1 (an c1 (an c1 (an c1 (an c1 (an c1 (an c1 (an c1 (an c1 (a12 c1 (Eq.refl false) (Eq.refl false) (Eq.refl false) (Eq.refl false) (Eq.refl false) (Eq.refl false) (Eq.refl false) (Eq.refl false) (Eq.refl false) (Eq.refl false) (Eq.refl false)))))))))))))))) ?_
   exact ⟨false, (), h, lS⟩
  ·obtain ⟨x3, hx3, h⟩ := bd h
   obtain ⟨x4, hx4, h⟩ := bd h
   refine splI h (fun c2 h => ?_) (fun c2 h => ?_)
   ·refine dk hC hmix [.nat p.parts.length, .v (vB x2), .b true, .b true, .b true, .b true, .b true, .b true, .b true, .row (rPart x3), .b true, .b true, .b true, .nat x3.body.length, .b true, .b true, .v (vB x4), .b true, .b false, .b false, .b false, .b false, .b false, .b false, .b false, .b false, .b false, .b false, .b false] (fr 4 34) [(4, vB false)] [] [] (an (lenM rPart p.parts) (an (c_i_within G hx2) (an c1 (an c1 (an c1 (an c1 (an c1 (an c1 (an c1 (an (ix_map rPart hx3) (an c1 (an c1 (an c1 (an (lenM rStmt x3.body) (an c1 (an c1 (an (c_i_within G hx4) (a12 c1 c2 c2 c2 c2 c2 c2 c2 c2 c2 c2 c2)))))))))))))))))) ?_
    exact ⟨false, (), h, lS⟩
   ·obtain ⟨x5, hx5, h⟩ := bd h
    refine dk hC hmix [.nat p.parts.length, .v (vB x2), .b true, .b true, .b true, .b true, .b true, .b true, .b true, .row (rPart x3), .b true, .b true, .b true, .nat x3.body.length, .b true, .b true, .v (vB x4), .b true, .b true, .b true, .b true, .b true, .b true, .row (rPart x3), .b true, .b true, .b true, .b true, .b true, .v (vB x5), .b true] (fr 4 34) [(4, vB x5)] [] [] (an (lenM rPart p.parts) (an (c_i_within G hx2) (an c1 (an c1 (an c1 (an c1 (an c1 (an c1 (an c1 (an (ix_map rPart hx3) (an c1 (an c1 (an c1 (an (lenM rStmt x3.body) (an c1 (an c1 (an (c_i_within G hx4) (an c1 (an c2 (a12 c2 c2 c2 c2 (ix_map rPart hx3) c2 c2 c2 c2 c2 (c_i_PointIn G hx5) c2)))))))))))))))))))) ?_
    exact ⟨x5, (), h, lS⟩
 ·rintro x6 ⟨⟩ h
  subst hj1
  refine qr ?_
  obtain rfl := so h
  exact eR
theorem c_i_RunInstance {p} {m} {x} {r} (h : i_RunInstance n p m x = some r) : VCC Tryz.prog G.g 37 [] [V.agg (cProg p), vM rI m, V.agg (cInst x)] (V.tup [ms 0 1 1 rI r.1, vB r.2]) [ar 3 1 1 rI r.1] := by
 unfold i_RunInstance at h
 refine vmr tyOK Tryz.func37 rfl rfl rfl rfl rfl rfl rfl rfl ?_
 intro w X β0 hC hg
 refine rq hC [.b true, .b true] [3, 5, 6, 7] [(3, V.tp (tProg p)), (5, V.tp (tInst x))] [] [] a0 ?_
 refine qs ?_
 obtain ⟨j1, hj1, h⟩ := jn_e h
 refine vwp_jm (γ := Unit) (j := j1) (r := r) (fun x_ _ => mkS [(1, vM rI m), (3, V.tp (tProg p)), (5, V.tp (tInst x)), (18, vB x_)] [] []) ?_ ?_
 ·
  obtain ⟨x2, hx2, h⟩ := bd h
  refine splI h (fun c1 h => ?_) (fun c1 h => ?_)
  ·obtain ⟨x3, hx3, h⟩ := bd h
   refine rk hC [.v (vB x2), .b false, .b false, .b false, .v (vB x3), .b false, .b false] (fr 9 10) [(18, vB (!x3))] [] [] (a7 (c_i_MemoryValid G hx2) c1 c1 c1 (c_i_Program_isInstance G hx3) c1 c1) ?_
   exact ⟨!x3, (), h, lS⟩
  ·refine rk hC [.v (vB x2), .b true, .b true, .b true, .b true, .b true] (fr 9 10) [(18, vB true)] [] [] (a6 (c_i_MemoryValid G hx2) c1 c1 c1 c1 c1) ?_
   exact ⟨true, (), h, lS⟩
 ·rintro x4 ⟨⟩ h
  subst hj1
  refine vci (b := x4) h (fun c2 h => ?_) (fun c2 h => ?_)
  ·refine rq hC [] [6, 7] [(6, V.t T.nilS), (7, vB false)] [] [] a0 ?_
   refine qw (lk hC [.grow 6 0 3] [6] [(6, ms 0 1 1 rI [])] [(0, some (ar 3 1 1 rI []))] [(0, true)]) ?_
   refine qr ?_
   obtain rfl := so h
   exact eW
  ·refine qk ?_
   obtain ⟨x5, hx5, h⟩ := bd h
   refine rq hC [.vc [] [20] (ms 0 1 1 rI x5) [ar 3 1 1 rI x5]] [8, 19, 20] [(8, ms 20 1 1 rI x5)] [(20, some (ar 3 1 1 rI x5))] [(20, true)] (a1 (G.clone m hx5)) ?_
   obtain ⟨x6, hx6, h⟩ := bd h
   obtain ⟨x7, hx7, h⟩ := bd h
   refine rq hC [.vc [20] [] (V.tup []) [ar 3 1 1 rI x6], .len 8 (List.map rI x6).length] [8, 21, 22, 23, 24] [(8, ms 20 1 1 rI x6)] [(20, some (ar 3 1 1 rI x6))] [(20, true)] (a2 (c_i_Program_do G 1 hx6) (sl_map rI hx7)) ?_
   refine rq hC [] [6, 7, 25] [(6, ms 20 1 1 rI x6), (7, vB true)] [] [] a0 ?_
   refine qw (lk hC [.ren 6 20 0] [6] [(6, ms 0 1 1 rI x6)] [(0, some (ar 3 1 1 rI x6)), (20, none)] [(0, true)]) ?_
   refine qr ?_
   obtain rfl := so h
   exact eW
theorem c_s_l16Rd_pick {r_a0} {n_a1} {r} (h : s_l16Rd_pick n r_a0 n_a1 = some r) : VCC Tryz.prog G.g 144 [eL r_a0] [V.ref 0 0, vI n_a1] (vI r.1) [eL r.2] := by
 unfold s_l16Rd_pick at h
 refine vmr tyOK Tryz.func144 rfl rfl rfl rfl rfl rfl rfl rfl ?_
 intro w X β0 hC hg
 refine rq hC [] [4] [] [] [] a0 ?_
 refine rq hC [] (fr 7 8) [] [(0, sc [vM rY r_a0.b, vI (wr (r_a0.p + 1))])] [] a0 ?_
 refine qs ?_
 obtain ⟨j1, hj1, h⟩ := jn_e h
 refine vwp_jm (γ := Unit) (j := j1) (r := r) (fun x_ _ => mkS [(0, V.ref 0 0), (1, vI n_a1), (24, vB x_)] [(0, E.cells [vM rY r_a0.b, vI (wr (r_a0.p + 1))])] [0]) ?_ ?_
 ·
  refine splI h (fun c1 h => ?_) (fun c1 h => ?_)
  ·refine rk hC [.b false, .b false, .b false, .b false, .b false, .nat r_a0.b.length, .b false, .b false] (fr 15 10) [(24, vB (decide ((r_a0.b.length : Int) = 0)))] [] [] (a8 c1 c1 c1 c1 c1 (lenM rY r_a0.b) c1 c1) ?_
   exact ⟨decide ((r_a0.b.length : Int) = 0), (), h, lS⟩
  ·refine rk hC [.b true, .b true, .b true, .b true, .b true, .b true, .b true] (fr 15 10) [(24, vB true)] [] [] (a7 c1 c1 c1 c1 c1 c1 c1) ?_
   exact ⟨true, (), h, lS⟩
 ·rintro x2 ⟨⟩ h
  subst hj1
  refine vci (b := x2) h (fun c2 h => ?_) (fun c2 h => ?_)
  ·refine rq hC [] [4] [(4, vI 0)] [] [] a0 ?_
   refine qr ?_
   obtain rfl := so h
   exact eW
  ·refine qk (rq hC [] [5, 25, 26, 27, 28, 29] [(5, vI (wr ((wr (r_a0.p + 1)) - 1)))] [] [] trivial ?_)
   refine qs (rq hC [.nat r_a0.b.length] (fr 30 7) [(36, vB (decide (wr ((wr (r_a0.p + 1)) - 1) < (r_a0.b.length : Int))))] [] [] (a1 (lenM rY r_a0.b)) ?_)
   refine vci (b := decide (wr ((wr (r_a0.p + 1)) - 1) < (r_a0.b.length : Int))) h (fun c3 h => ?_) (fun c3 h => ?_)
   ·obtain ⟨x3, hx3, h⟩ := bd h
    obtain ⟨x4, hx4, h⟩ := bd h
    refine rq hC [.row (rY x3), .int (x3.toNat : Int)] [4, 37, 38, 39, 40, 41, 42, 43, 44, 45, 46] [(4, vI (Int.tmod (x3.toNat : Int) n_a1))] [] [] (a3 (ix_map rY hx3) (u8i x3) (nzc_ne hx4)) ?_
    refine qr ?_
    obtain rfl := so h
    exact eW
   ·refine qk (qs ?_)
    obtain ⟨x5, hx5, h⟩ := bd h
    obtain ⟨x6, hx6, h⟩ := bd h
    obtain ⟨x7, hx7, h⟩ := bd h
    obtain ⟨x8, hx8, h⟩ := bd h
    obtain ⟨x9, hx9, h⟩ := bd h
    refine dk hC hmix [.nat r_a0.b.length, .row (rY x6), .int (x6.toNat : Int), .nat r_a0.b.length, .row (rY x8), .int (x8.toNat : Int), .nat r_a0.b.length] [6, 47, 48, 49, 50, 51, 52, 53, 54, 55, 56, 57, 58, 59, 60, 61, 62, 63, 64, 65, 66, 67, 68, 69, 70, 71, 72, 73, 74, 75, 76, 77, 78, 79, 80, 81, 82, 83, 84, 85, 86, 87, 88, 89, 90, 91] [(6, vI (wr ((wr ((wr ((wr ((x6.toNat : Int) * 131)) + (wr ((x8.toNat : Int) * 1117)))) + (wr ((wr ((wr (r_a0.p + 1)) - 1)) * 29)))) + (wr ((wr (Int.tdiv (wr ((wr (r_a0.p + 1)) - 1)) (r_a0.b.length : Int))) * 53)))))] [] [] (a10 (lenM rY r_a0.b) (nzc_ne hx5) (ix_map rY hx6) (u8i x6) (lenM rY r_a0.b) (nzc_ne hx7) (ix_map rY hx8) (u8i x8) (lenM rY r_a0.b) (nzc_ne hx9)) ?_
    refine rq hC [] [6, 92, 93, 94, 95] [(6, vI (bits BinOp.xor IntKind.i64 (wr ((wr ((wr ((wr ((x6.toNat : Int) * 131)) + (wr ((x8.toNat : Int) * 1117)))) + (wr ((wr ((wr (r_a0.p + 1)) - 1)) * 29)))) + (wr ((wr (Int.tdiv (wr ((wr (r_a0.p + 1)) - 1)) (r_a0.b.length : Int))) * 53)))) (wr (Int.tdiv (wr ((wr ((wr ((wr ((x6.toNat : Int) * 131)) + (wr ((x8.toNat : Int) * 1117)))) + (wr ((wr ((wr (r_a0.p + 1)) - 1)) * 29)))) + (wr ((wr (Int.tdiv (wr ((wr (r_a0.p + 1)) - 1)) (r_a0.b.length : Int))) * 53)))) 64))))] [] [] (a1 (show (64 : Int) ≠ 0 by decide)) ?_
    obtain ⟨x10, hx10, h⟩ := bd h
    refine rq hC [] [4, 96, 97, 98] [(4, vI (Int.tmod (bits BinOp.xor IntKind.i64 (wr ((wr ((wr ((wr ((x6.toNat : Int) * 131)) + (wr ((x8.toNat : Int) * 1117)))) + (wr ((wr ((wr (r_a0.p + 1)) - 1)) * 29)))) + (wr ((wr (Int.tdiv (wr ((wr (r_a0.p + 1)) - 1)) (r_a0.b.length : Int))) * 53)))) (wr (Int.tdiv (wr ((wr ((wr ((wr ((x6.toNat : Int) * 131)) + (wr ((x8.toNat : Int) * 1117)))) + (wr ((wr ((wr (r_a0.p + 1)) - 1)) * 29)))) + (wr ((wr (Int.tdiv (wr ((wr (r_a0.p + 1)) - 1)) (r_a0.b.length : Int))) * 53)))) 64))) n_a1))] [] [] (a1 (nzc_ne hx10)) ?_
    refine qr ?_
    obtain rfl := so h
    exact eW
theorem c_s_l16Rd_num {r_a0} {list} {r} (h : s_l16Rd_num n r_a0 list = some r) : VCC Tryz.prog G.g 146 [eL r_a0] [V.ref 0 0, vM rI list] (vI r.1) [eL r.2] := by
 unfold s_l16Rd_num at h
 refine vmr tyOK Tryz.func146 rfl rfl rfl rfl rfl rfl rfl rfl ?_
 intro w X β0 hC hg
 refine rq hC [] [4] [] [] [] a0 ?_
 obtain ⟨x1, hx1, h⟩ := bd h
 obtain ⟨x2, hx2, h⟩ := bd h
 refine rq hC [.nat list.length, .vc [0] [] (vI x1.1) [eL x1.2], .row (rI x2)] (fr 4 8) [(4, vI x2)] [(0, sR x1.2)] [(0, true)] (a3 (lenM rI list) (c_s_l16Rd_pick G hx1) (ix_map rI hx2)) ?_
 refine qr ?_
 obtain rfl := so h
 exact eW
theorem c_s_l4Some (G : GS) (n : Nat)  {r : (List Arr)} (h : s_l4Some n  = some r) : PCC Tryz.prog G.g 149 [] (vM rArr r) := by
 unfold s_l4Some at h
 refine pmr tyOK Tryz.func149 rfl rfl rfl rfl rfl rfl rfl ?_
 intro w X hC
 refine rq hC [] [0] [] [] [] a0 ?_
 refine rq hC [.int 0, .int 0, .int 0, .int 0] (fr 0 8) [(0, vM rArr [(⟨[65], [6]⟩ : Arr), (⟨[66], [4, 5]⟩ : Arr), (⟨[67], [3]⟩ : Arr)])] [] [] a0 ?_
 refine qr ?_
 obtain rfl := so h
 exact eR
theorem c_s_l1Combine {a} {x} {b} {y} {r} (h : s_l1Combine n a x b y = some r) : VCC Tryz.prog G.g 237 [] [V.agg (cAffine a), vI x, V.agg (cAffine b), vI y] (V.agg [ms 0 1 1 rI r.coefs, vI r.const]) [ar 3 1 1 rI r.coefs] := by
 unfold s_l1Combine at h
 refine vmr tyOK Tryz.func237 rfl rfl rfl rfl rfl rfl rfl rfl ?_
 intro w X β0 hC hg
 refine rq hC [.b true, .b true, .nat 20] [4, 6, 8] [(4, V.tp (tAffine a)), (6, V.tp (tAffine b)), (8, V.ref 20 0)] [(20, sc [V.t T.nilS, vI 0])] [(20, true)] a0 ?_
 refine rq hC [.nat 21] [9, 11, 12, 13, 14, 15, 16, 17, 18, 19, 20] [(9, V.ref 21 0)] [(21, sc [V.t T.nilS, vI (wr ((wr (x * a.const)) + (wr (y * b.const))))])] [(21, true)] a0 ?_
 refine qs (rq hC [] [10] [(10, vI 0)] [] [] trivial ?_)
 refine qb (qw (lk hC [.growc 21 0 22 3] [] [] [(22, some (ar 3 1 1 rI [])), (21, sc [ms 22 1 1 rI [], vI (wr ((wr (x * a.const)) + (wr (y * b.const))))])] [(22, true)]) ?_)
 refine vwp_lm (γ := Nat) h (fun x_ g_ => mkS [(1, vI x), (3, vI y), (4, V.tp (tAffine a)), (6, V.tp (tAffine b)), (8, V.ref 20 0), (9, V.ref 21 0), (10, vI x_.2)] [(20, E.cells [V.t T.nilS, vI 0]), (21, E.cells [ms 22 g_ 1 rI x_.1, vI (wr ((wr (x * a.const)) + (wr (y * b.const))))]), (22, ar 3 g_ 1 rI x_.1)] [20, 21, 22]) 1 (lS) ?_
 rintro again4 ⟨x1, x2⟩ g3 h
 refine qs (rq hC [] [21, 22] [(22, vB (decide (x2 < 4)))] [] [] trivial ?_)
 refine vci (b := decide (x2 < 4)) h (fun c1 h => ?_) (fun c1 h => ?_)
 ·refine qk (qs (qb ?_))
  obtain ⟨x5, hx5, h⟩ := bd h
  obtain ⟨x6, hx6, h⟩ := bd h
  obtain ⟨x7, hx7, h⟩ := bd h
  refine dk hC hmix [.row (rI x5), .row (rI x6), .int 0, .rows (List.map rI x7)] (fr 25 20) [] [(22, some (ar 3 (g3 + 1) 1 rI x7)), (21, sc [ms 22 (g3 + 1) 1 rI x7, vI (wr ((wr (x * a.const)) + (wr (y * b.const))))])] [] (a5 (ix_map rI hx5) (ix_map rI hx6) (app_map rI hx7) (rwM (r := rI) 1 (fun _ => rfl) x1) (rwM (r := rI) 1 (fun _ => rfl) [wr ((wr (x * x5)) + (wr (y * x6)))])) ?_
  refine rk hC [] [10, 23, 24] [(10, vI (wr (x2 + 1)))] [] [] a0 ?_
  exact ⟨(x7, wr (x2 + 1)), (g3 + 1), h, lS⟩
 ·refine qxt (rq hC [] [45] [] [(20, sc [ms 22 g3 1 rI x1, vI (wr ((wr (x * a.const)) + (wr (y * b.const))))])] [] trivial ?_)
  refine qw (lk hC [.rn 22 0 [] [20, 21]] [] [] [(20, sc [ms 0 1 1 rI x1, vI (wr ((wr (x * a.const)) + (wr (y * b.const))))]), (21, sc [ms 0 1 1 rI x1, vI (wr ((wr (x * a.const)) + (wr (y * b.const))))]), (22, none), (0, some (ar 3 1 1 rI x1))] [(0, true)]) ?_
  refine qr ?_
  obtain rfl := so h
  exact eW
theorem c_s_l1Zero (G : GS) (n : Nat)  {r : Affine} (h : s_l1Zero n  = some r) : VCC Tryz.prog G.g 184 [] [] (V.agg [ms 0 1 1 rI r.coefs, vI r.const]) [ar 3 1 1 rI r.coefs] := by
 unfold s_l1Zero at h
 refine vmr tyOK Tryz.func184 rfl rfl rfl rfl rfl rfl rfl rfl ?_
 intro w X β0 hC hg
 refine rq hC [.nat 20] [0] [(0, V.ref 20 0)] [(20, sc [V.t T.nilS, vI 0])] [(20, true)] a0 ?_
 refine rq hC [.int 1, .nat 21] [1, 2] [] [(21, some (ar 3 1 1 rI [0, 0, 0, 0])), (20, sc [ms 21 1 1 rI [0, 0, 0, 0], vI 0])] [(21, true)] a0 ?_
 refine qw (lk hC [.rn 21 0 [] [20]] [] [] [(20, sc [ms 0 1 1 rI [0, 0, 0, 0], vI 0]), (21, none), (0, some (ar 3 1 1 rI [0, 0, 0, 0]))] [(0, true)]) ?_
 refine qr ?_
 obtain rfl := so h
 exact eW
theorem c_s_l1Var {v} {r} (h : s_l1Var n v = some r) : VCC Tryz.prog G.g 182 [] [vI v] (V.agg [ms 0 1 1 rI r.coefs, vI r.const]) [ar 3 1 1 rI r.coefs] := by
 unfold s_l1Var at h
 refine vmr tyOK Tryz.func182 rfl rfl rfl rfl rfl rfl rfl rfl ?_
 intro w X β0 hC hg
 refine rq hC [.nat 20] [2] [(2, V.ref 20 0)] [(20, sc [V.t T.nilS, vI 0])] [(20, true)] a0 ?_
 obtain ⟨x1, hx1, h⟩ := bd h
 refine rq hC [.vc [] [21] (V.agg [ms 0 1 1 rI x1.coefs, vI x1.const]) [ar 3 1 1 rI x1.coefs], .nat 22] [3, 4] [(3, V.ref 22 0)] [(21, some (ar 3 1 1 rI x1.coefs)), (22, sc [ms 21 1 1 rI x1.coefs, vI x1.const])] [(21, true), (22, true)] (a1 (c_s_l1Zero G n  hx1)) ?_
 obtain ⟨x2, hx2, h⟩ := bd h
 obtain ⟨x3, hx3, h⟩ := bd h
 refine rq hC [.row (rI x2), .rows (List.map rI x3), .lenc 22 0 (List.map rI x3).length] (fr 5 4) [] [(21, some (ar 3 1 1 rI x3)), (22, sc [ms 21 1 1 rI x3, vI x1.const])] [] (a4 (ixn rI hx2) (ixr rI hx2) (str rI hx3) (lenS rI hx3)) ?_
 refine rq hC [] [9] [] [(20, sc [ms 21 1 1 rI x3, vI x1.const])] [] a0 ?_
 refine qw (lk hC [.rn 21 0 [] [20, 22]] [] [] [(20, sc [ms 0 1 1 rI x3, vI x1.const]), (22, sc [ms 0 1 1 rI x3, vI x1.const]), (21, none), (0, some (ar 3 1 1 rI x3))] [(0, true)]) ?_
 refine qr ?_
 obtain rfl := so h
 exact eW
theorem c_s_l1Const {n_a0} {r} (h : s_l1Const n n_a0 = some r) : VCC Tryz.prog G.g 183 [] [vI n_a0] (V.agg [ms 0 1 1 rI r.coefs, vI r.const]) [ar 3 1 1 rI r.coefs] := by
 unfold s_l1Const at h
 refine vmr tyOK Tryz.func183 rfl rfl rfl rfl rfl rfl rfl rfl ?_
 intro w X β0 hC hg
 refine rq hC [.nat 20] [2] [(2, V.ref 20 0)] [(20, sc [V.t T.nilS, vI 0])] [(20, true)] a0 ?_
 obtain ⟨x1, hx1, h⟩ := bd h
 refine rq hC [.vc [] [21] (V.agg [ms 0 1 1 rI x1.coefs, vI x1.const]) [ar 3 1 1 rI x1.coefs], .nat 22] [3, 4] [(3, V.ref 22 0)] [(21, some (ar 3 1 1 rI x1.coefs)), (22, sc [ms 21 1 1 rI x1.coefs, vI x1.const])] [(21, true), (22, true)] (a1 (c_s_l1Zero G n  hx1)) ?_
 refine rq hC [] [5, 6] [] [(22, sc [ms 21 1 1 rI x1.coefs, vI n_a0])] [] a0 ?_
 refine rq hC [] [7] [] [(20, sc [ms 21 1 1 rI x1.coefs, vI n_a0])] [] a0 ?_
 refine qw (lk hC [.rn 21 0 [] [20, 22]] [] [] [(20, sc [ms 0 1 1 rI x1.coefs, vI n_a0]), (22, sc [ms 0 1 1 rI x1.coefs, vI n_a0]), (21, none), (0, some (ar 3 1 1 rI x1.coefs))] [(0, true)]) ?_
 refine qr ?_
 obtain rfl := so h
 exact eW
theorem c_s_l2Loop {r_a0} {depth} {r} (h : s_l2Loop n r_a0 depth = some r) : VCC Tryz.prog G.g 213 [eL r_a0] [V.ref 0 0, vI depth] (V.agg (cLoop r.1)) [eL r.2] := by
 unfold s_l2Loop at h
 refine vmr tyOK Tryz.func213 rfl rfl rfl rfl rfl rfl rfl rfl ?_
 intro w X β0 hC hg
 refine rq hC [.nat 20] [4] [(4, V.ref 20 0)] [(20, sc [V.t T.nilS, V.t T.nilS])] [(20, true)] a0 ?_
 obtain ⟨x1, hx1, h⟩ := bd h
 obtain ⟨x2, hx2, h⟩ := bd h
 refine rq hC [.int 0, .vc [0] [] (vI x1.1) [eL x1.2], .vc [] [21] (V.agg [ms 0 1 1 rI x2.coefs, vI x2.const]) [ar 3 1 1 rI x2.coefs], .nat 22] [5, 9, 10, 11, 12] [(5, V.ref 22 0)] [(0, sR x1.2), (21, some (ar 3 1 1 rI x2.coefs)), (22, sc [ms 21 1 1 rI x2.coefs, vI x2.const])] [(0, true), (21, true), (22, true)] (a2 (c_s_l16Rd_num G hx1) (c_s_l1Const G hx2)) ?_
 obtain ⟨x3, hx3, h⟩ := bd h
 obtain ⟨x4, hx4, h⟩ := bd h
 refine rq hC [.int 0, .vc [0] [] (vI x3.1) [eL x3.2], .vc [] [23] (V.agg [ms 0 1 1 rI x4.coefs, vI x4.const]) [ar 3 1 1 rI x4.coefs], .nat 24] [6, 13, 14, 15, 16] [(6, V.ref 24 0)] [(0, sR x3.2), (23, some (ar 3 1 1 rI x4.coefs)), (24, sc [ms 23 1 1 rI x4.coefs, vI x4.const])] [(0, true), (23, true), (24, true)] (a2 (c_s_l16Rd_num G hx3) (c_s_l1Const G hx4)) ?_
 obtain ⟨j5, hj5, h⟩ := jn_e h
 refine vwp_jm (γ := Unit) (j := j5) (r := r) (fun x_ _ => mkS [(0, V.ref 0 0), (4, V.ref 20 0), (5, V.ref 22 0), (6, V.ref 24 0)] [(0, E.cells [vM rY x_.1, vI x_.2.1]), (20, E.cells [V.t T.nilS, V.t T.nilS]), (22, E.cells [vM rI x_.2.2.1, vI x_.2.2.2.1]), (24, E.cells [vM rI x_.2.2.2.2.1, vI x_.2.2.2.2.2])] [0, 20, 21, 22, 23, 24]) ?_ ?_
 ·
  obtain ⟨j6, hj6, h⟩ := jn_e h
  refine vwp_jm (γ := Unit) (j := j6) (r := r) (fun x_ _ => mkS [(0, V.ref 0 0), (1, vI depth), (4, V.ref 20 0), (5, V.ref 22 0), (6, V.ref 24 0), (23, vB x_.2.2)] [(0, E.cells [vM rY x_.1, vI x_.2.1]), (20, E.cells [V.t T.nilS, V.t T.nilS]), (21, ar 3 1 1 rI x2.coefs), (22, E.cells [ms 21 1 1 rI x2.coefs, vI x2.const]), (23, ar 3 1 1 rI x4.coefs), (24, E.cells [ms 23 1 1 rI x4.coefs, vI x4.const])] [0, 20, 21, 22, 23, 24]) ?_ ?_
  ·
   refine splI h (fun c1 h => ?_) (fun c1 h => ?_)
   ·refine rk hC [.b false, .b false, .b false, .b false] (fr 17 7) [(23, vB false)] [] [] (a4 c1 c1 c1 c1) ?_
    exact ⟨(x3.2.b, x3.2.p, false), (), h, lS⟩
   ·obtain ⟨x7, hx7, h⟩ := bd h
    refine rk hC [.b true, .b true, .vc [0] [] (vI x7.1) [eL x7.2], .b true, .b true] (fr 17 7) [(23, vB (decide (x7.1 = 0)))] [(0, sR x7.2)] [(0, true)] (a5 c1 c1 (c_s_l16Rd_pick G hx7) c1 c1) ?_
    exact ⟨(x7.2.b, x7.2.p, decide (x7.1 = 0)), (), h, lS⟩
  ·rintro ⟨x8, x9, x10⟩ ⟨⟩ h
   subst hj6
   refine vci (b := x10) h (fun c2 h => ?_) (fun c2 h => ?_)
   ·obtain ⟨x11, hx11, h⟩ := bd h
    refine rq hC [.vc [0] [] (vI x11.1) [eL x11.2]] [7, 24, 25, 26] [(7, vI x11.1)] [(0, sR x11.2)] [(0, true)] (a1 (c_s_l16Rd_pick G hx11)) ?_
    obtain ⟨x12, hx12, h⟩ := bd h
    refine rq hC [.vc [0] [] (vI x12.1) [eL x12.2]] [27, 28, 29] [(29, vB (decide (x12.1 = 0)))] [(0, sR x12.2)] [(0, true)] (a1 (c_s_l16Rd_pick G hx12)) ?_
    refine vci (b := decide (x12.1 = 0)) h (fun c3 h => ?_) (fun c3 h => ?_)
    ·obtain ⟨x13, hx13, h⟩ := bd h
     refine rk hC [.vc [] [25] (V.agg [ms 0 1 1 rI x13.coefs, vI x13.const]) [ar 3 1 1 rI x13.coefs]] [30, 31] [] [(25, some (ar 3 1 1 rI x13.coefs)), (22, sc [ms 25 1 1 rI x13.coefs, vI x13.const])] [(25, true)] (a1 (c_s_l1Var G hx13)) ?_
     exact ⟨(x12.2.b, x12.2.p, x13.coefs, x13.const, x4.coefs, x4.const), (), h, ((lk hC [.fz 23 [] [24], .fz 25 [] [22]] [] [] [(24, some (E.cells (cAffine x4))), (23, none), (22, some (E.cells (cAffine x13))), (25, none)] []).trans (lS))⟩
    ·obtain ⟨x14, hx14, h⟩ := bd h
     obtain ⟨x15, hx15, h⟩ := bd h
     obtain ⟨x16, hx16, h⟩ := bd h
     refine rk hC [.vc [] [25] (V.agg [ms 0 1 1 rI x14.coefs, vI x14.const]) [ar 3 1 1 rI x14.coefs], .vc [] [26] (V.agg [ms 0 1 1 rI x15.coefs, vI x15.const]) [ar 3 1 1 rI x15.coefs], .at 2, .fz 25 [33] [], .at 2, .fz 26 [34] [], .vc [] [27] (V.agg [ms 0 1 1 rI x16.coefs, vI x16.const]) [ar 3 1 1 rI x16.coefs]] (fr 32 4) [] [(25, none), (26, none), (27, some (ar 3 1 1 rI x16.coefs)), (24, sc [ms 27 1 1 rI x16.coefs, vI x16.const])] [(25, true), (26, true), (27, true)] (a3 (c_s_l1Var G hx14) (c_s_l1Const G hx15) (c_s_l1Combine G hx16)) ?_
     exact ⟨(x12.2.b, x12.2.p, x2.coefs, x2.const, x16.coefs, x16.const), (), h, ((lk hC [.fz 21 [] [22], .fz 27 [] [24]] [] [] [(22, some (E.cells (cAffine x2))), (21, none), (24, some (E.cells (cAffine x16))), (27, none)] []).trans (lS))⟩
   ·refine qk ?_
    exact ⟨(x8, x9, x2.coefs, x2.const, x4.coefs, x4.const), (), h, ((lk hC [.fz 21 [] [22], .fz 23 [] [24]] [] [] [(22, some (E.cells (cAffine x2))), (21, none), (24, some (E.cells (cAffine x4))), (23, none)] []).trans (lS))⟩
 ·rintro ⟨x17, x18, x19, x20, x21, x22⟩ ⟨⟩ h
  subst hj5
  refine rq hC [.int 1, .nat 25, .int 1, .nat 26, .nat 27] [8, 36, 37, 38, 39, 40] [(8, V.ref 27 0)] [(25, some (ar 109 1 2 rAffine [(⟨x19, x20⟩ : Affine)])), (26, some (ar 109 1 2 rAffine [(⟨x21, x22⟩ : Affine)])), (27, sc [ms 25 1 2 rAffine [(⟨x19, x20⟩ : Affine)], ms 26 1 2 rAffine [(⟨x21, x22⟩ : Affine)]])] [(25, true), (26, true), (27, true)] a0 ?_
  obtain ⟨j23, hj23, h⟩ := jn_e h
  refine vwp_jm (γ := Nat × Nat) (j := j23) (r := r) (fun x_ g_ => mkS [(4, V.ref 20 0), (8, V.ref 27 0)] [(0, E.cells [vM rY x_.1, vI x_.2.1]), (20, E.cells [V.t T.nilS, V.t T.nilS]), (22, E.cells [vM rI x19, vI x20]), (24, E.cells [vM rI x21, vI x22]), (25, ar 109 g_.1 2 rAffine x_.2.2.1), (26, ar 109 g_.2 2 rAffine x_.2.2.2), (27, E.cells [ms 25 g_.1 2 rAffine x_.2.2.1, ms 26 g_.2 2 rAffine x_.2.2.2])] [0, 20, 21, 22, 23, 24, 25, 26, 27]) ?_ ?_
  ·
   obtain ⟨x24, hx24, h⟩ := bd h
   refine rq hC [.vc [0] [] (vI x24.1) [eL x24.2]] [41, 42] [(42, vI x24.1)] [(0, sR x24.2)] [(0, true)] (a1 (c_s_l16Rd_pick G hx24)) ?_
   refine qb (rq hC [] [43, 44] [(43, vB (decide (x24.1 = 0)))] [] [] trivial ?_)
   refine vci (b := decide (x24.1 = 0)) h (fun c4 h => ?_) (fun c4 h => ?_)
   ·obtain ⟨x25, hx25, h⟩ := bd h
    obtain ⟨x26, hx26, h⟩ := bd h
    obtain ⟨x27, hx27, h⟩ := bd h
    refine dk hC hmix [.int 0, .vc [0] [] (vI x25.1) [eL x25.2], .vc [] [28] (V.agg [ms 0 1 1 rI x26.coefs, vI x26.const]) [ar 3 1 1 rI x26.coefs], .at 4, .fz 28 [50] [], .int 0, .rows (List.map rAffine x27)] (fr 45 9) [] [(0, sR x25.2), (28, none), (26, some (ar 109 2 2 rAffine x27)), (27, sc [ms 25 1 2 rAffine [(⟨x19, x20⟩ : Affine)], ms 26 2 2 rAffine x27])] [(0, true), (28, true)] (a5 (c_s_l16Rd_num G hx25) (c_s_l1Const G hx26) (app_map rAffine hx27) (rwM (r := rAffine) 2 rAffine_len [(⟨x21, x22⟩ : Affine)]) (rwM (r := rAffine) 2 rAffine_len [x26])) ?_
    exact ⟨(x25.2.b, x25.2.p, [(⟨x19, x20⟩ : Affine)], x27), (1, 2), h, lS⟩
   ·refine rq hC [] [54, 55] [(54, vB (decide (x24.1 = 1)))] [] [] a0 ?_
    refine vci (b := decide (x24.1 = 1)) h (fun c5 h => ?_) (fun c5 h => ?_)
    ·obtain ⟨x28, hx28, h⟩ := bd h
     obtain ⟨x29, hx29, h⟩ := bd h
     obtain ⟨x30, hx30, h⟩ := bd h
     refine dk hC hmix [.int 0, .vc [0] [] (vI x28.1) [eL x28.2], .vc [] [28] (V.agg [ms 0 1 1 rI x29.coefs, vI x29.const]) [ar 3 1 1 rI x29.coefs], .at 4, .fz 28 [61] [], .int 0, .rows (List.map rAffine x30)] (fr 56 9) [] [(0, sR x28.2), (28, none), (25, some (ar 109 2 2 rAffine x30)), (27, sc [ms 25 2 2 rAffine x30, ms 26 1 2 rAffine [(⟨x21, x22⟩ : Affine)]])] [(0, true), (28, true)] (a5 (c_s_l16Rd_num G hx28) (c_s_l1Const G hx29) (app_map rAffine hx30) (rwM (r := rAffine) 2 rAffine_len [(⟨x19, x20⟩ : Affine)]) (rwM (r := rAffine) 2 rAffine_len [x29])) ?_
     exact ⟨(x28.2.b, x28.2.p, x30, [(⟨x21, x22⟩ : Affine)]), (2, 1), h, lS⟩
    ·refine qk ?_
     exact ⟨(x24.2.b, x24.2.p, [(⟨x19, x20⟩ : Affine)], [(⟨x21, x22⟩ : Affine)]), (1, 1), h, lS⟩
  ·rintro ⟨x31, x32, x33, x34⟩ ⟨g35, g36⟩ h
   subst hj23
   refine rq hC [.at 2, .fz 25 [] [27], .at 2, .fz 26 [] [27]] [65] [] [(27, sc [vM rAffine x33, vM rAffine x34]), (25, none), (26, none), (20, sc [vM rAffine x33, vM rAffine x34])] [] a0 ?_
   refine qr ?_
   obtain rfl := so h
   exact eW
theorem c_s_l2Nest {r_a0} {r} (h : s_l2Nest n r_a0 = some r) : VCC Tryz.prog G.g 185 [eL r_a0] [V.ref 0 0] (ms 1 1 2 rLoop r.1) [eL r.2, ar 193 1 2 rLoop r.1] := by
 unfold s_l2Nest at h
 refine vmr tyOK Tryz.func185 rfl rfl rfl rfl rfl rfl rfl rfl ?_
 intro w X β0 hC hg
 refine rq hC [] [2] [] [] [] a0 ?_
 refine rq hC [.nat 20] [3, 5] [(3, ms 20 1 2 rLoop [])] [(20, some (ar 193 1 2 rLoop []))] [(20, true)] a0 ?_
 refine qs ?_
 obtain ⟨x1, hx1, h⟩ := bd h
 refine rq hC [.int 0, .vc [0] [] (vI x1.1) [eL x1.2]] [4, 6, 7, 8] [(4, vI x1.1)] [(0, sR x1.2)] [(0, true)] (a1 (c_s_l16Rd_num G hx1)) ?_
 refine qb (vwp_lm (γ := Nat) h (fun x_ g_ => mkS [(0, V.ref 0 0), (3, ms 20 g_ 2 rLoop x_.2.2.1), (4, vI x_.2.2.2)] [(0, E.cells [vM rY x_.1, vI x_.2.1]), (20, ar 193 g_ 2 rLoop x_.2.2.1)] [0, 20]) 1 (lS) ?_)
 rintro again7 ⟨x2, x3, x4, x5⟩ g6 h
 refine qs (rq hC [] [9, 10] [(10, vB (decide ((0 : Int) < x5)))] [] [] trivial ?_)
 refine vci (b := decide ((0 : Int) < x5)) h (fun c1 h => ?_) (fun c1 h => ?_)
 ·refine qk (qs (qb ?_))
  obtain ⟨x8, hx8, h⟩ := bd h
  obtain ⟨x9, hx9, h⟩ := bd h
  refine rk hC [.nat x4.length, .vc [0] [] (V.agg (cLoop x8.1)) [eL x8.2], .int 0, .rows (List.map rLoop x9)] [3, 13, 14, 15, 16, 17, 18, 19] [(3, ms 20 (g6 + 1) 2 rLoop x9)] [(0, sR x8.2), (20, some (ar 193 (g6 + 1) 2 rLoop x9))] [(0, true)] (a5 (lenM rLoop x4) (c_s_l2Loop G hx8) (app_map rLoop hx9) (rwM (r := rLoop) 2 rLoop_len x4) (rwM (r := rLoop) 2 rLoop_len [x8.1])) ?_
  refine rk hC [] [4, 11, 12] [(4, vI (wr (x5 - 1)))] [] [] a0 ?_
  exact ⟨(x8.2.b, x8.2.p, x9, wr (x5 - 1)), (g6 + 1), h, lS⟩
 ·refine qxt (rq hC [] [2, 20] [(2, ms 20 g6 2 rLoop x4)] [] [] trivial ?_)
  refine qw (lk hC [.ren 2 20 1] [2] [(2, ms 1 1 2 rLoop x4)] [(1, some (ar 193 1 2 rLoop x4)), (20, none)] [(1, true)]) ?_
  refine qr ?_
  obtain rfl := so h
  exact eW
theorem c_s_l16Rd_of {r_a0} {list} {r} (h : s_l16Rd_of n r_a0 list = some r) : VCC Tryz.prog G.g 145 [eL r_a0] [V.ref 0 0, vM rS list] (vS r.1) [eL r.2] := by
 unfold s_l16Rd_of at h
 refine vmr tyOK Tryz.func145 rfl rfl rfl rfl rfl rfl rfl rfl ?_
 intro w X β0 hC hg
 refine rq hC [] [4] [] [] [] a0 ?_
 obtain ⟨x1, hx1, h⟩ := bd h
 obtain ⟨x2, hx2, h⟩ := bd h
 refine rq hC [.nat list.length, .vc [0] [] (vI x1.1) [eL x1.2], .row (rS x2)] (fr 4 8) [(4, vS x2)] [(0, sR x1.2)] [(0, true)] (a3 (lenM rS list) (c_s_l16Rd_pick G hx1) (ix_map rS hx2)) ?_
 refine qr ?_
 obtain rfl := so h
 exact eW
theorem c_s_l3Elem {r_a0} {depth} {r} (h : s_l3Elem n r_a0 depth = some r) : VCC Tryz.prog G.g 214 [eL r_a0] [V.ref 0 0, vI depth] (V.agg (cAccess r.1)) [eL r.2] := by
 unfold s_l3Elem at h
 refine vmr tyOK Tryz.func214 rfl rfl rfl rfl rfl rfl rfl rfl ?_
 intro w X β0 hC hg
 refine rq hC [.nat 20] [4] [(4, V.ref 20 0)] [(20, sc [vS [], V.t T.nilS])] [(20, true)] a0 ?_
 obtain ⟨x1, hx1, h⟩ := bd h
 refine rq hC [.int 0, .vc [0] [] (vS x1.1) [eL x1.2], .nat 21] [5, 10, 11, 12, 13] [(5, V.ref 21 0)] [(0, sR x1.2), (21, sc [vS x1.1, V.t T.nilS])] [(0, true), (21, true)] (a1 (c_s_l16Rd_of G hx1)) ?_
 refine rq hC [] [6] [(6, vI 1)] [] [] a0 ?_
 obtain ⟨j2, hj2, h⟩ := jn_e h
 refine vwp_jm (γ := Unit) (j := j2) (r := r) (fun x_ _ => mkS [(0, V.ref 0 0), (1, vI depth), (4, V.ref 20 0), (5, V.ref 21 0), (6, vI x_)] [(0, eL x1.2), (20, E.cells [vS [], V.t T.nilS]), (21, E.cells [vS x1.1, V.t T.nilS])] [0, 20, 21]) ?_ ?_
 ·
  refine rq hC [] [14, 15, 16] [(16, vB (decide (x1.1 = [66])))] [] [] a0 ?_
  refine vci (b := decide (x1.1 = [66])) h (fun c1 h => ?_) (fun c1 h => ?_)
  ·refine rk hC [] [6] [(6, vI 2)] [] [] a0 ?_
   exact ⟨2, (), h, lS⟩
  ·refine qk ?_
   exact ⟨1, (), h, lS⟩
 ·rintro x3 ⟨⟩ h
  subst hj2
  refine qs (rq hC [] [7] [(7, vI 0)] [] [] trivial ?_)
  refine qb (qw (lk hC [.growc 21 1 22 109] [] [] [(22, some (ar 109 1 2 rAffine [])), (21, sc [vS x1.1, ms 22 1 2 rAffine []])] [(22, true)]) ?_)
  refine vwp_lm (γ := Nat) h (fun x_ g_ => mkS [(0, V.ref 0 0), (1, vI depth), (4, V.ref 20 0), (5, V.ref 21 0), (6, vI x3), (7, vI x_.2.2.2)] [(0, E.cells [vM rY x_.1, vI x_.2.1]), (20, E.cells [vS [], V.t T.nilS]), (21, E.cells [vS x1.1, ms 22 g_ 2 rAffine x_.2.2.1]), (22, ar 109 g_ 2 rAffine x_.2.2.1)] [0, 20, 21, 22]) 1 (lS) ?_
  rintro again9 ⟨x4, x5, x6, x7⟩ g8 h
  refine qs (rq hC [] [17, 18, 19] [(19, vB (decide (x7 < x3)))] [] [] trivial ?_)
  refine vci (b := decide (x7 < x3)) h (fun c2 h => ?_) (fun c2 h => ?_)
  ·refine qk (qs (qb ?_))
   obtain ⟨x10, hx10, h⟩ := bd h
   obtain ⟨x11, hx11, h⟩ := bd h
   refine rq hC [.int 0, .vc [0] [] (vI x10.1) [eL x10.2], .vc [] [23] (V.agg [ms 0 1 1 rI x11.coefs, vI x11.const]) [ar 3 1 1 rI x11.coefs], .nat 24] [8, 22, 23, 24, 25] [(8, V.ref 24 0)] [(0, sR x10.2), (23, some (ar 3 1 1 rI x11.coefs)), (24, sc [ms 23 1 1 rI x11.coefs, vI x11.const])] [(0, true), (23, true), (24, true)] (a2 (c_s_l16Rd_num G hx10) (c_s_l1Const G hx11)) ?_
   obtain ⟨j12, hj12, h⟩ := jn_e h
   refine vwp_jm (γ := Unit) (j := j12) (r := r) (fun x_ _ => mkS [(0, V.ref 0 0), (1, vI depth), (4, V.ref 20 0), (5, V.ref 21 0), (6, vI x3), (7, vI x7), (8, V.ref 24 0)] [(0, E.cells [vM rY x_.1, vI x_.2.1]), (20, E.cells [vS [], V.t T.nilS]), (21, E.cells [vS x1.1, ms 22 g8 2 rAffine x6]), (22, ar 109 g8 2 rAffine x6), (24, E.cells [vM rI x_.2.2.1, vI x_.2.2.2])] [0, 20, 21, 22, 23, 24]) ?_ ?_
   ·
    obtain ⟨j13, hj13, h⟩ := jn_e h
    refine vwp_jm (γ := Unit) (j := j13) (r := r) (fun x_ _ => mkS [(0, V.ref 0 0), (1, vI depth), (4, V.ref 20 0), (5, V.ref 21 0), (6, vI x3), (7, vI x7), (8, V.ref 24 0), (32, vB x_.2.2)] [(0, E.cells [vM rY x_.1, vI x_.2.1]), (20, E.cells [vS [], V.t T.nilS]), (21, E.cells [vS x1.1, ms 22 g8 2 rAffine x6]), (22, ar 109 g8 2 rAffine x6), (23, ar 3 1 1 rI x11.coefs), (24, E.cells [ms 23 1 1 rI x11.coefs, vI x11.const])] [0, 20, 21, 22, 23, 24]) ?_ ?_
    ·
     refine splI h (fun c3 h => ?_) (fun c3 h => ?_)
     ·refine rk hC [.b false, .b false, .b false, .b false] (fr 26 7) [(32, vB false)] [] [] (a4 c3 c3 c3 c3) ?_
      exact ⟨(x10.2.b, x10.2.p, false), (), h, lS⟩
     ·obtain ⟨x14, hx14, h⟩ := bd h
      refine rk hC [.b true, .b true, .vc [0] [] (vI x14.1) [eL x14.2], .b true, .b true] (fr 26 7) [(32, vB (decide ((0 : Int) < x14.1)))] [(0, sR x14.2)] [(0, true)] (a5 c3 c3 (c_s_l16Rd_pick G hx14) c3 c3) ?_
      exact ⟨(x14.2.b, x14.2.p, decide ((0 : Int) < x14.1)), (), h, lS⟩
    ·rintro ⟨x15, x16, x17⟩ ⟨⟩ h
     subst hj13
     refine vci (b := x17) h (fun c4 h => ?_) (fun c4 h => ?_)
     ·obtain ⟨x18, hx18, h⟩ := bd h
      refine rq hC [.vc [0] [] (vI x18.1) [eL x18.2]] [9, 33, 34, 35] [(9, vI x18.1)] [(0, sR x18.2)] [(0, true)] (a1 (c_s_l16Rd_pick G hx18)) ?_
      obtain ⟨x19, hx19, h⟩ := bd h
      obtain ⟨x20, hx20, h⟩ := bd h
      obtain ⟨x21, hx21, h⟩ := bd h
      obtain ⟨x22, hx22, h⟩ := bd h
      obtain ⟨x23, hx23, h⟩ := bd h
      refine rk hC [.vc [] [25] (V.agg [ms 0 1 1 rI x19.coefs, vI x19.const]) [ar 3 1 1 rI x19.coefs], .int 0, .vc [0] [] (vI x20.1) [eL x20.2], .int 0, .vc [0] [] (vI x21.1) [eL x21.2], .vc [] [26] (V.agg [ms 0 1 1 rI x22.coefs, vI x22.const]) [ar 3 1 1 rI x22.coefs], .at 2, .fz 25 [37] [], .at 2, .fz 26 [44] [], .vc [] [27] (V.agg [ms 0 1 1 rI x23.coefs, vI x23.const]) [ar 3 1 1 rI x23.coefs]] (fr 36 10) [] [(25, none), (0, sR x21.2), (26, none), (27, some (ar 3 1 1 rI x23.coefs)), (24, sc [ms 27 1 1 rI x23.coefs, vI x23.const])] [(25, true), (0, true), (0, true), (26, true), (27, true)] (a5 (c_s_l1Var G hx19) (c_s_l16Rd_num G hx20) (c_s_l16Rd_num G hx21) (c_s_l1Const G hx22) (c_s_l1Combine G hx23)) ?_
      exact ⟨(x21.2.b, x21.2.p, x23.coefs, x23.const), (), h, ((lk hC [.fz 27 [] [24]] [] [] [(24, some (E.cells (cAffine x23))), (27, none)] []).trans (lS))⟩
     ·refine qk ?_
      exact ⟨(x15, x16, x11.coefs, x11.const), (), h, ((lk hC [.fz 23 [] [24]] [] [] [(24, some (E.cells (cAffine x11))), (23, none)] []).trans (lS))⟩
   ·rintro ⟨x24, x25, x26, x27⟩ ⟨⟩ h
    subst hj12
    obtain ⟨x28, hx28, h⟩ := bd h
    refine rk hC [.int 0, .rows (List.map rAffine x28)] (fr 46 6) [] [(22, some (ar 109 (g8 + 1) 2 rAffine x28)), (21, sc [vS x1.1, ms 22 (g8 + 1) 2 rAffine x28])] [] (a3 (app_map rAffine hx28) (rwM (r := rAffine) 2 rAffine_len x6) (rwM (r := rAffine) 2 rAffine_len [(⟨x26, x27⟩ : Affine)])) ?_
    refine rk hC [] [7, 20, 21] [(7, vI (wr (x7 + 1)))] [] [] a0 ?_
    exact ⟨(x24, x25, x28, wr (x7 + 1)), (g8 + 1), h, lS⟩
  ·refine qxt (rq hC [.at 2, .fz 22 [] [21]] [52] [] [(21, sc [vS x1.1, vM rAffine x6]), (22, none), (20, sc [vS x1.1, vM rAffine x6])] [] trivial ?_)
   refine qr ?_
   obtain rfl := so h
   exact eW
theorem c_s_l1Draw {r_a0} {depth} {r} (h : s_l1Draw n r_a0 depth = some r) : VCC Tryz.prog G.g 238 [eL r_a0] [V.ref 0 0, vI depth] (V.agg (cAffine r.1)) [eL r.2] := by
 unfold s_l1Draw at h
 refine vmr tyOK Tryz.func238 rfl rfl rfl rfl rfl rfl rfl rfl ?_
 intro w X β0 hC hg
 refine rq hC [.nat 20] [4] [(4, V.ref 20 0)] [(20, sc [V.t T.nilS, vI 0])] [(20, true)] a0 ?_
 obtain ⟨x1, hx1, h⟩ := bd h
 obtain ⟨x2, hx2, h⟩ := bd h
 refine rq hC [.int 0, .vc [0] [] (vI x1.1) [eL x1.2], .vc [] [21] (V.agg [ms 0 1 1 rI x2.coefs, vI x2.const]) [ar 3 1 1 rI x2.coefs], .nat 22] [5, 7, 8, 9, 10] [(5, V.ref 22 0)] [(0, sR x1.2), (21, some (ar 3 1 1 rI x2.coefs)), (22, sc [ms 21 1 1 rI x2.coefs, vI x2.const])] [(0, true), (21, true), (22, true)] (a2 (c_s_l16Rd_num G hx1) (c_s_l1Const G hx2)) ?_
 refine qs (rq hC [] [6] [(6, vI 0)] [] [] trivial ?_)
 refine qb (vwp_lm (γ := Nat) h (fun x_ g_ => mkS [(0, V.ref 0 0), (1, vI depth), (4, V.ref 20 0), (5, V.ref 22 0), (6, vI x_.2.2.2)] [(0, E.cells [vM rY x_.1, vI x_.2.1]), (20, E.cells [V.t T.nilS, vI 0]), (21, ar 3 g_ 1 rI x_.2.2.1), (22, E.cells [ms 21 g_ 1 rI x_.2.2.1, vI x2.const])] [0, 20, 21, 22]) 1 (lS) ?_)
 rintro again8 ⟨x3, x4, x5, x6⟩ g7 h
 refine qs (rq hC [] [11, 12, 13] [(13, vB (decide (x6 < depth)))] [] [] trivial ?_)
 refine vci (b := decide (x6 < depth)) h (fun c1 h => ?_) (fun c1 h => ?_)
 ·refine qk (qs (qb ?_))
  obtain ⟨x9, hx9, h⟩ := bd h
  obtain ⟨x10, hx10, h⟩ := bd h
  obtain ⟨x11, hx11, h⟩ := bd h
  refine dk hC hmix [.int 0, .vc [0] [] (vI x9.1) [eL x9.2], .row (rI x10), .rows (List.map rI x11)] (fr 16 7) [] [(0, sR x9.2), (21, some (ar 3 g7 1 rI x11))] [(0, true)] (a4 (c_s_l16Rd_num G hx9) (ixn rI hx10) (ixr rI hx10) (str rI hx11)) ?_
  refine qw (lpP hC [.lenc 22 0 (List.map rI x11).length] [] [] [(22, sc [ms 21 g7 1 rI x11, vI x2.const])] [] (a1 (lenS rI hx11)) (by kernel_rfl)) ?_
  refine rk hC [] [6, 14, 15] [(6, vI (wr (x6 + 1)))] [] [] a0 ?_
  exact ⟨(x9.2.b, x9.2.p, x11, wr (x6 + 1)), g7, h, lS⟩
 ·refine qxt (rq hC [.at 2, .fz 21 [] [22]] [23] [] [(22, sc [vM rI x5, vI x2.const]), (21, none), (20, sc [vM rI x5, vI x2.const])] [] trivial ?_)
  refine qr ?_
  obtain rfl := so h
  exact eW
theorem c_s_l3Value (G : GS) : ∀ (n : Nat) (r_a0 : L16Rd) (depth : Int) (levels : Int) {r : Expr × L16Rd} (h : s_l3Value n r_a0 depth levels = some r), VCC Tryz.prog G.g 215 [eL r_a0] [V.ref 0 0, vI depth, vI levels] (V.agg (cExpr r.1)) [eL r.2] := by
 intro n
 induction n with
 | zero => intro r_a0 depth levels r h; rw [s_l3Value.eq_def] at h; cases h
 | succ n ih =>
  intro r_a0 depth levels r h
  rw [s_l3Value.eq_def] at h; dsimp only at h
  refine vmr tyOK Tryz.func215 rfl rfl rfl rfl rfl rfl rfl rfl ?_
  intro w X β0 hC hg
  refine rq hC [.nat 20] [6] [(6, V.ref 20 0)] [(20, sc [vI 0, vI 0, V.t T.nilS, vI 0, vS [], V.t T.nilS, V.t T.nilS])] [(20, true)] a0 ?_
  refine qs ?_
  obtain ⟨j1, hj1, h⟩ := jn_e h
  refine vwp_jm (γ := Unit) (j := j1) (r := r) (fun x_ _ => mkS [(0, V.ref 0 0), (1, vI depth), (2, vI levels), (6, V.ref 20 0), (15, vB x_.2.2)] [(0, E.cells [vM rY x_.1, vI x_.2.1]), (20, E.cells [vI 0, vI 0, V.t T.nilS, vI 0, vS [], V.t T.nilS, V.t T.nilS])] [0, 20]) ?_ ?_
  ·
   refine splI h (fun c1 h => ?_) (fun c1 h => ?_)
   ·obtain ⟨x2, hx2, h⟩ := bd h
    refine rk hC [.b false, .b false, .vc [0] [] (vI x2.1) [eL x2.2], .b false, .b false] (fr 9 7) [(15, vB (decide (x2.1 = 0)))] [(0, sR x2.2)] [(0, true)] (a5 c1 c1 (c_s_l16Rd_pick G hx2) c1 c1) ?_
    exact ⟨(x2.2.b, x2.2.p, decide (x2.1 = 0)), (), h, lS⟩
   ·refine rk hC [.b true, .b true, .b true, .b true] (fr 9 7) [(15, vB true)] [] [] (a4 c1 c1 c1 c1) ?_
    exact ⟨(r_a0.b, r_a0.p, true), (), h, lS⟩
  ·rintro ⟨x3, x4, x5⟩ ⟨⟩ h
   subst hj1
   refine vci (b := x5) h (fun c2 h => ?_) (fun c2 h => ?_)
   ·refine qs ?_
    obtain ⟨x6, hx6, h⟩ := bd h
    refine rq hC [.vc [0] [] (vI x6.1) [eL x6.2]] [16, 17] [(17, vI x6.1)] [(0, sR x6.2)] [(0, true)] (a1 (c_s_l16Rd_pick G hx6)) ?_
    refine qb (rq hC [] [18, 19] [(18, vB (decide (x6.1 = 0)))] [] [] trivial ?_)
    refine vci (b := decide (x6.1 = 0)) h (fun c3 h => ?_) (fun c3 h => ?_)
    ·obtain ⟨x7, hx7, h⟩ := bd h
     refine rq hC [.int 0, .vc [0] [] (vI x7.1) [eL x7.2]] (fr 20 4) [] [(0, sR x7.2), (20, sc [vI 1, vI x7.1, V.t T.nilS, vI 0, vS [], V.t T.nilS, V.t T.nilS])] [(0, true)] (a1 (c_s_l16Rd_num G hx7)) ?_
     refine qr ?_
     obtain rfl := so h
     exact eW
    ·refine rq hC [] [24, 25] [(24, vB (decide (x6.1 = 1)))] [] [] a0 ?_
     refine vci (b := decide (x6.1 = 1)) h (fun c4 h => ?_) (fun c4 h => ?_)
     ·obtain ⟨x8, hx8, h⟩ := bd h
      refine rq hC [.vc [0] [] (V.agg (cAffine x8.1)) [eL x8.2]] (fr 26 4) [] [(0, sR x8.2), (20, sc [vI 2, vI 0, vM rI x8.1.coefs, vI x8.1.const, vS [], V.t T.nilS, V.t T.nilS])] [(0, true)] (a1 (c_s_l1Draw G hx8)) ?_
      refine qr ?_
      obtain rfl := so h
      exact eW
     ·refine qk ?_
      obtain ⟨x9, hx9, h⟩ := bd h
      refine rq hC [.vc [0] [] (V.agg (cAccess x9.1)) [eL x9.2]] (fr 30 4) [] [(0, sR x9.2), (20, sc [vI 3, vI 0, V.t T.nilS, vI 0, vS x9.1.array, vM rAffine x9.1.subs, V.t T.nilS])] [(0, true)] (a1 (c_s_l3Elem G hx9)) ?_
      refine qr ?_
      obtain rfl := so h
      exact eW
   ·refine qk ?_
    obtain ⟨x10, hx10, h⟩ := bd h
    refine rq hC [.int 0, .vc [0] [] (vI x10.1) [eL x10.2], .nat 21] [7, 34, 35, 36, 37] [(7, V.ref 21 0)] [(0, sR x10.2), (21, sc [vI x10.1, vI 0, V.t T.nilS, vI 0, vS [], V.t T.nilS, V.t T.nilS])] [(0, true), (21, true)] (a1 (c_s_l16Rd_num G hx10)) ?_
    refine qs (rq hC [] [8] [(8, vI 0)] [] [] trivial ?_)
    refine qb (qw (lk hC [.growc 21 6 22 112] [] [] [(22, some (ar 112 1 7 rExpr [])), (21, sc [vI x10.1, vI 0, V.t T.nilS, vI 0, vS [], V.t T.nilS, ms 22 1 7 rExpr []])] [(22, true)]) ?_)
    refine vwp_lm (γ := Nat) h (fun x_ g_ => mkS [(0, V.ref 0 0), (1, vI depth), (2, vI levels), (6, V.ref 20 0), (7, V.ref 21 0), (8, vI x_.2.2.2)] [(0, E.cells [vM rY x_.1, vI x_.2.1]), (20, E.cells [vI 0, vI 0, V.t T.nilS, vI 0, vS [], V.t T.nilS, V.t T.nilS]), (21, E.cells [vI x10.1, vI 0, V.t T.nilS, vI 0, vS [], V.t T.nilS, ms 22 g_ 7 rExpr x_.2.2.1]), (22, ar 112 g_ 7 rExpr x_.2.2.1)] [0, 20, 21, 22]) 1 (lS) ?_
    rintro again16 ⟨x11, x12, x13, x14⟩ g15 h
    refine qs (rq hC [] [38, 39] [(39, vB (decide (x14 < 2)))] [] [] trivial ?_)
    refine vci (b := decide (x14 < 2)) h (fun c5 h => ?_) (fun c5 h => ?_)
    ·refine qk (qs (qb ?_))
     obtain ⟨x17, hx17, h⟩ := bd h
     obtain ⟨x18, hx18, h⟩ := bd h
     refine dk hC hmix [.vc [0] [] (V.agg (cExpr x17.1)) [eL x17.2], .int 2, .rows (List.map rExpr [x17.1]), .rows (List.map rExpr x18)] (fr 42 10) [] [(0, sR x17.2), (22, some (ar 112 (g15 + 1) 7 rExpr x18)), (21, sc [vI x10.1, vI 0, V.t T.nilS, vI 0, vS [], V.t T.nilS, ms 22 (g15 + 1) 7 rExpr x18])] [(0, true)] (a5 (ih (⟨x11, x12⟩ : L16Rd) depth (wr (levels - 1)) hx17) (chExpr1 x17.1) (app_map rExpr hx18) (rwM (r := rExpr) 7 rExpr_len x13) (rwM (r := rExpr) 7 rExpr_len [x17.1])) ?_
     refine rk hC [] [8, 40, 41] [(8, vI (wr (x14 + 1)))] [] [] a0 ?_
     exact ⟨(x17.2.b, x17.2.p, x18, wr (x14 + 1)), (g15 + 1), h, lS⟩
    ·refine qxt (rq hC [.at 2, .fz 22 [] [21]] [52] [] [(21, sc [vI x10.1, vI 0, V.t T.nilS, vI 0, vS [], V.t T.nilS, vM rExpr x13]), (22, none), (20, sc [vI x10.1, vI 0, V.t T.nilS, vI 0, vS [], V.t T.nilS, vM rExpr x13])] [] trivial ?_)
     refine qr ?_
     obtain rfl := so h
     exact eW
theorem c_s_l3Stmt {r_a0} {depth} {r} (h : s_l3Stmt n r_a0 depth = some r) : VCC Tryz.prog G.g 186 [eL r_a0] [V.ref 0 0, vI depth] (V.agg (cStmt r.1)) [eL r.2] := by
 unfold s_l3Stmt at h
 refine vmr tyOK Tryz.func186 rfl rfl rfl rfl rfl rfl rfl rfl ?_
 intro w X β0 hC hg
 refine rq hC [.nat 20] [4] [(4, V.ref 20 0)] [(20, sc [vS [], V.t T.nilS, vI 0, vI 0, V.t T.nilS, vI 0, vS [], V.t T.nilS, V.t T.nilS])] [(20, true)] a0 ?_
 obtain ⟨x1, hx1, h⟩ := bd h
 obtain ⟨x2, hx2, h⟩ := bd h
 obtain ⟨x3, hx3, h⟩ := bd h
 refine rq hC [.vc [0] [] (V.agg (cAccess x1.1)) [eL x1.2], .int 0, .vc [0] [] (vI x2.1) [eL x2.2], .vc [0] [] (V.agg (cExpr x3.1)) [eL x3.2], .nat 21] (fr 5 11) [(5, V.ref 21 0)] [(0, sR x3.2), (21, sc [vS x1.1.array, vM rAffine x1.1.subs, vI x3.1.kind, vI x3.1.num, vM rI x3.1.index.coefs, vI x3.1.index.const, vS x3.1.read.array, vM rAffine x3.1.read.subs, vM rExpr x3.1.kids])] [(0, true), (0, true), (0, true), (21, true)] (a3 (c_s_l3Elem G hx1) (c_s_l16Rd_num G hx2) (c_s_l3Value G n x2.2 depth x2.1 hx3)) ?_
 refine qs ?_
 obtain ⟨x4, hx4, h⟩ := bd h
 refine rq hC [.v (vB x4)] [16, 17, 18] [(18, vB x4)] [] [] (a1 (c_s_StmtValid G hx4)) ?_
 refine vci (b := x4) h (fun c1 h => ?_) (fun c1 h => ?_)
 ·refine rq hC [] [19] [] [(20, sc [vS x1.1.array, vM rAffine x1.1.subs, vI x3.1.kind, vI x3.1.num, vM rI x3.1.index.coefs, vI x3.1.index.const, vS x3.1.read.array, vM rAffine x3.1.read.subs, vM rExpr x3.1.kids])] [] a0 ?_
  refine qr ?_
  obtain rfl := so h
  exact eW
 ·refine qk ?_
  obtain ⟨x5, hx5, h⟩ := bd h
  refine rq hC [.vc [] [22] (V.agg [ms 0 1 1 rI x5.coefs, vI x5.const]) [ar 3 1 1 rI x5.coefs], .at 5, .fz 22 [20] [], .int 0] (fr 20 5) [] [(22, none), (20, sc [vS [65], vM rAffine [x5], vI 1, vI 1, V.t T.nilS, vI 0, vS [], V.t T.nilS, V.t T.nilS])] [(22, true)] (a1 (c_s_l1Zero G n  hx5)) ?_
  refine qr ?_
  obtain rfl := so h
  exact eW
theorem c_s_l1Name {s} {at_a1} {r} (h : s_l1Name n s at_a1 = some r) : PCC Tryz.prog G.g 266 [vS s, vI at_a1] (vI r) := by
 unfold s_l1Name at h
 refine pmr tyOK Tryz.func266 rfl rfl rfl rfl rfl rfl rfl ?_
 intro w X hC
 refine rq hC [] [4] [] [] [] a0 ?_
 refine qs ?_
 obtain ⟨j1, hj1, h⟩ := jn_e h
 refine vwp_jm (γ := Unit) (j := j1) (r := r) (fun x_ _ => mkS [(0, vS s), (1, vI at_a1), (20, vB x_)] [] []) ?_ ?_
 ·
  refine splI h (fun c1 h => ?_) (fun c1 h => ?_)
  ·obtain ⟨x2, hx2, h⟩ := bd h
   refine splI h (fun c2 h => ?_) (fun c2 h => ?_)
   ·refine rk hC [.b false, .b false, .b false, .y x2, .b false, .b false, .b false, .b false, .b false, .y x2, .b false, .b false] (fr 5 16) [(20, vB (decide ((108 : Int) < (x2.toNat : Int))))] [] [] (a12 c1 c1 c1 hx2 c1 c1 c2 c2 c2 hx2 c2 c2) ?_
    exact ⟨decide ((108 : Int) < (x2.toNat : Int)), (), h, lS⟩
   ·refine rk hC [.b false, .b false, .b false, .y x2, .b false, .b false, .b true, .b true, .b true, .b true, .b true] (fr 5 16) [(20, vB true)] [] [] (a11 c1 c1 c1 hx2 c1 c1 c2 c2 c2 c2 c2) ?_
    exact ⟨true, (), h, lS⟩
  ·refine rk hC [.b true, .b true, .b true, .b true, .b true, .b true, .b true, .b true, .b true, .b true] (fr 5 16) [(20, vB true)] [] [] (a10 c1 c1 c1 c1 c1 (Eq.refl true) (Eq.refl true) (Eq.refl true) (Eq.refl true) (Eq.refl true)) ?_
   exact ⟨true, (), h, lS⟩
 ·rintro x3 ⟨⟩ h
  subst hj1
  refine vci (b := x3) h (fun c3 h => ?_) (fun c3 h => ?_)
  ·refine rq hC [] [4] [(4, vI (-1))] [] [] a0 ?_
   refine qr ?_
   obtain rfl := so h
   exact eR
  ·refine qk ?_
   obtain ⟨x4, hx4, h⟩ := bd h
   refine rq hC [.y x4, .int (x4.toNat : Int)] [4, 21, 22, 23, 24, 25] [(4, vI (wr ((x4.toNat : Int) - 105)))] [] [] (a2 hx4 (u8i x4)) ?_
   refine qr ?_
   obtain rfl := so h
   exact eR
theorem c_s_l16Num {s} {r} (h : s_l16Num n s = some r) : PCC Tryz.prog G.g 258 [vS s] (V.tup [vI r.1, vB r.2]) := by
 unfold s_l16Num at h
 refine pmr tyOK Tryz.func258 rfl rfl rfl rfl rfl rfl rfl ?_
 intro w X hC
 refine rq hC [] [2, 3] [] [] [] a0 ?_
 obtain ⟨j1, hj1, h⟩ := jn_e h
 refine vwp_jm (γ := Unit) (j := j1) (r := r) (fun x_ _ => mkS [(0, vS s), (4, vB x_)] [] []) ?_ ?_
 ·
  refine splI h (fun c1 h => ?_) (fun c1 h => ?_)
  ·refine rk hC [.b false, .b false, .b false, .b false] [4, 7, 8, 9, 10, 11, 12, 13, 14] [(4, vB false)] [] [] (a4 c1 c1 c1 c1) ?_
   exact ⟨false, (), h, lS⟩
  ·obtain ⟨x2, hx2, h⟩ := bd h
   refine rk hC [.b true, .b true, .y x2, .b true, .b true] [4, 7, 8, 9, 10, 11, 12, 13, 14] [(4, vB (decide ((x2.toNat : Int) = 45)))] [] [] (a5 c1 c1 hx2 c1 c1) ?_
   exact ⟨decide ((x2.toNat : Int) = 45), (), h, lS⟩
 ·rintro x3 ⟨⟩ h
  subst hj1
  obtain ⟨j4, hj4, h⟩ := jn_e h
  refine vwp_jm (γ := Unit) (j := j4) (r := r) (fun x_ _ => mkS [(0, vS x_), (4, vB x3)] [] []) ?_ ?_
  ·
   refine rq hC [] [15] [(15, vB x3)] [] [] a0 ?_
   refine vci (b := x3) h (fun c2 h => ?_) (fun c2 h => ?_)
   ·obtain ⟨x5, hx5, h⟩ := bd h
    refine rk hC [.str x5] [0, 16, 17] [(0, vS x5)] [] [] (a1 hx5) ?_
    exact ⟨x5, (), h, lS⟩
   ·refine qk ?_
    exact ⟨s, (), h, lS⟩
  ·rintro x6 ⟨⟩ h
   subst hj4
   refine qs ?_
   obtain ⟨j7, hj7, h⟩ := jn_e h
   refine vwp_jm (γ := Unit) (j := j7) (r := r) (fun x_ _ => mkS [(0, vS x6), (4, vB x3), (38, vB x_)] [] []) ?_ ?_
   ·
    refine splI h (fun c3 h => ?_) (fun c3 h => ?_)
    ·refine splI h (fun c4 h => ?_) (fun c4 h => ?_)
     ·obtain ⟨x8, hx8, h⟩ := bd h
      refine splI h (fun c5 h => ?_) (fun c5 h => ?_)
      ·refine rk hC [.b false, .b false, .b false, .b false, .b false, .b false, .y x8, .b false, .b false, .b false, .b false, .b false, .b false, .b false, .b false, .b false, .b false] (fr 18 21) [(38, vB false)] [] [] (an c3 (an c3 (an c3 (an c3 (an c4 (a12 c4 hx8 c4 c4 c5 c5 c5 c5 c5 c4 c5 c4)))))) ?_
       exact ⟨false, (), h, lS⟩
      ·refine splI h (fun c6 h => ?_) (fun c6 h => ?_)
       ·refine rk hC [.b false, .b false, .b false, .b false, .b false, .b false, .y x8, .b false, .b false, .b true, .b true, .b true, .b true, .b false, .b true, .b false, .b false, .b true, .b false] (fr 18 21) [(38, vB x3)] [] [] (an c3 (an c3 (an c3 (an c3 (an c4 (an c4 (an hx8 (a12 c4 c4 c5 c5 c5 c5 c6 c5 c6 c4 c5 c4)))))))) ?_
        exact ⟨x3, (), h, lS⟩
       ·refine rk hC [.b false, .b false, .b false, .b false, .b false, .b false, .y x8, .b false, .b false, .b true, .b true, .b true, .b true, .b true, .b true, .b true, .b false, .b true, .b false] (fr 18 21) [(38, vB true)] [] [] (an c3 (an c3 (an c3 (an c3 (an c4 (an c4 (an hx8 (a12 c4 c4 c5 c5 c5 c5 c6 c5 c6 c4 c5 c4)))))))) ?_
        exact ⟨true, (), h, lS⟩
     ·refine rk hC [.b false, .b false, .b false, .b false, .b true, .b true, .b true, .b true, .b true, .b true] (fr 18 21) [(38, vB true)] [] [] (a10 c3 c3 c3 c3 c4 c4 c4 c4 c4 c4) ?_
      exact ⟨true, (), h, lS⟩
    ·refine rk hC [.b true, .b true, .b true, .b true, .b true, .b true, .b true, .b true, .b true, .b true] (fr 18 21) [(38, vB true)] [] [] (a10 c3 c3 c3 c3 (Eq.refl true) (Eq.refl true) (Eq.refl true) (Eq.refl true) (Eq.refl true) (Eq.refl true)) ?_
     exact ⟨true, (), h, lS⟩
   ·rintro x9 ⟨⟩ h
    subst hj7
    refine vci (b := x9) h (fun c7 h => ?_) (fun c7 h => ?_)
    ·refine rq hC [] [2, 3] [(2, vI 0), (3, vB false)] [] [] a0 ?_
     refine qr ?_
     obtain rfl := so h
     exact eR
    ·refine qk (rq hC [] [5] [(5, vI 0)] [] [] trivial ?_)
     refine qs (rq hC [] [6] [(6, vI 0)] [] [] trivial ?_)
     refine qb (vwp_lm (γ := Unit) h (fun x_ _ => mkS [(0, vS x6), (4, vB x3), (5, vI x_.1), (6, vI x_.2)] [] []) () (lS) ?_)
     rintro again12 ⟨x10, x11⟩ ⟨⟩ h
     refine qs (rq hC [] (fr 39 4) [(42, vB (decide (x11 < (x6.length : Int))))] [] [] trivial ?_)
     refine vci (b := decide (x11 < (x6.length : Int))) h (fun c8 h => ?_) (fun c8 h => ?_)
     ·refine qk (qs (qb (qs ?_)))
      obtain ⟨j13, hj13, h⟩ := jn_e h
      refine vwp_jm (γ := Unit) (j := j13) (r := r) (fun x_ _ => mkS [(0, vS x6), (4, vB x3), (5, vI x10), (6, vI x11), (54, vB x_)] [] []) ?_ ?_
      ·
       obtain ⟨x14, hx14, h⟩ := bd h
       refine splI h (fun c9 h => ?_) (fun c9 h => ?_)
       ·refine rk hC [.y x14, .b false, .b false, .b false, .y x14, .b false, .b false] (fr 45 10) [(54, vB (decide ((57 : Int) < (x14.toNat : Int))))] [] [] (a7 hx14 c9 c9 c9 hx14 c9 c9) ?_
        exact ⟨decide ((57 : Int) < (x14.toNat : Int)), (), h, lS⟩
       ·refine rk hC [.y x14, .b true, .b true, .b true, .b true, .b true] (fr 45 10) [(54, vB true)] [] [] (a6 hx14 c9 c9 c9 c9 c9) ?_
        exact ⟨true, (), h, lS⟩
      ·rintro x15 ⟨⟩ h
       subst hj13
       refine vci (b := x15) h (fun c10 h => ?_) (fun c10 h => ?_)
       ·refine rq hC [] [2, 3] [(2, vI 0), (3, vB false)] [] [] a0 ?_
        refine qr ?_
        obtain rfl := so h
        exact eR
       ·refine qk ?_
        obtain ⟨x16, hx16, h⟩ := bd h
        refine rk hC [.y x16, .int ((x16 - (48 : UInt8)).toNat : Int)] [5, 55, 56, 57, 58, 59, 60, 61, 62] [(5, vI (wr ((wr (x10 * 10)) + ((x16 - (48 : UInt8)).toNat : Int))))] [] [] (a2 hx16 (cvu (u8_sub x16 (48 : UInt8)))) ?_
        refine rk hC [] [6, 43, 44] [(6, vI (wr (x11 + 1)))] [] [] a0 ?_
        exact ⟨(wr ((wr (x10 * 10)) + ((x16 - (48 : UInt8)).toNat : Int)), wr (x11 + 1)), (), h, lS⟩
     ·refine qxt ?_
      obtain ⟨j17, hj17, h⟩ := jn_e h
      refine vwp_jm (γ := Unit) (j := j17) (r := r) (fun x_ _ => mkS [(5, vI x_)] [] []) ?_ ?_
      ·
       refine rq hC [] [63] [(63, vB x3)] [] [] a0 ?_
       refine vci (b := x3) h (fun c11 h => ?_) (fun c11 h => ?_)
       ·refine rk hC [] [5, 64, 65] [(5, vI (wr (0 - x10)))] [] [] a0 ?_
        exact ⟨wr (0 - x10), (), h, lS⟩
       ·refine qk ?_
        exact ⟨x10, (), h, lS⟩
      ·rintro x18 ⟨⟩ h
       subst hj17
       refine rq hC [] [2, 3, 66] [(2, vI x18), (3, vB true)] [] [] a0 ?_
       refine qr ?_
       obtain rfl := so h
       exact eR
theorem c_s_l1Digits {s} {at_a1} {r} (h : s_l1Digits n s at_a1 = some r) : PCC Tryz.prog G.g 243 [vS s, vI at_a1] (V.tup [vI r.1, vI r.2]) := by
 unfold s_l1Digits at h
 refine pmr tyOK Tryz.func243 rfl rfl rfl rfl rfl rfl rfl ?_
 intro w X hC
 refine rq hC [] [4, 5] [] [] [] a0 ?_
 refine rq hC [] [6, 9] [(6, vI at_a1)] [] [] a0 ?_
 refine qs (qb (vwp_lm (γ := Unit) h (fun x_ _ => mkS [(0, vS s), (1, vI at_a1), (6, vI x_)] [] []) () (lS) ?_))
 rintro again2 x1 ⟨⟩ h
 refine qs ?_
 obtain ⟨j3, hj3, h⟩ := jn_e h
 refine vwp_jm (γ := Unit) (j := j3) (r := r) (fun x_ _ => mkS [(0, vS s), (1, vI at_a1), (6, vI x1), (31, vB x_)] [] []) ?_ ?_
 ·
  refine splI h (fun c1 h => ?_) (fun c1 h => ?_)
  ·refine rk hC [.b false, .b false, .b false, .b false, .b false, .b false, .b false, .b false, .b false, .b false, .b false, .b false, .b false, .b false, .b false] (fr 10 22) [(31, vB false)] [] [] (an c1 (an c1 (an c1 (a12 c1 c1 (Eq.refl false) (Eq.refl false) (Eq.refl false) (Eq.refl false) (Eq.refl false) (Eq.refl false) (Eq.refl false) (Eq.refl false) (Eq.refl false) (Eq.refl false))))) ?_
   exact ⟨false, (), h, lS⟩
  ·refine splI h (fun c2 h => ?_) (fun c2 h => ?_)
   ·refine rk hC [.b true, .b true, .b true, .b true, .b true, .b false, .b false, .b false, .b false, .b false, .b false, .b false, .b false, .b false, .b false] (fr 10 22) [(31, vB false)] [] [] (an c1 (an c1 (an c1 (a12 c1 c1 c2 c2 c2 c2 c2 (Eq.refl false) (Eq.refl false) (Eq.refl false) (Eq.refl false) (Eq.refl false))))) ?_
    exact ⟨false, (), h, lS⟩
   ·obtain ⟨x4, hx4, h⟩ := bd h
    refine splI h (fun c3 h => ?_) (fun c3 h => ?_)
    ·refine rk hC [.b true, .b true, .b true, .b true, .b true, .b true, .b true, .b true, .y x4, .b true, .b true, .b false, .b false, .b false, .b false, .b false] (fr 10 22) [(31, vB false)] [] [] (an c1 (an c1 (an c1 (an c1 (a12 c1 c2 c2 c2 hx4 c2 c2 c3 c3 c3 c3 c3))))) ?_
     exact ⟨false, (), h, lS⟩
    ·refine rk hC [.b true, .b true, .b true, .b true, .b true, .b true, .b true, .b true, .y x4, .b true, .b true, .b true, .b true, .b true, .y x4, .b true, .b true] (fr 10 22) [(31, vB (decide ((x4.toNat : Int) ≤ 57)))] [] [] (an c1 (an c1 (an c1 (an c1 (an c1 (a12 c2 c2 c2 hx4 c2 c2 c3 c3 c3 hx4 c3 c3)))))) ?_
     exact ⟨decide ((x4.toNat : Int) ≤ 57), (), h, lS⟩
 ·rintro x5 ⟨⟩ h
  subst hj3
  refine vci (b := x5) h (fun c4 h => ?_) (fun c4 h => ?_)
  ·refine qk (qb (rk hC [] [6, 32, 33] [(6, vI (wr (x1 + 1)))] [] [] trivial ?_))
   exact ⟨wr (x1 + 1), (), h, lS⟩
  ·refine qxt ?_
   obtain ⟨x6, hx6, h⟩ := bd h
   obtain ⟨x7, hx7, h⟩ := bd h
   refine rq hC [.str x6, .v (V.tup [vI x7.1, vB x7.2])] [7, 8, 34, 35, 36, 37, 38, 39, 40, 41] [(7, vI x7.1), (8, vB x7.2)] [] [] (a2 hx6 (c_s_l16Num G hx7)) ?_
   refine qs (rq hC [] [42, 43] [(43, vB (!x7.2))] [] [] trivial ?_)
   refine vci (b := !x7.2) h (fun c5 h => ?_) (fun c5 h => ?_)
   ·refine rq hC [] [4, 5, 44] [(4, vI 1), (5, vI at_a1)] [] [] a0 ?_
    refine qr ?_
    obtain rfl := so h
    exact eR
   ·refine qk (rq hC [] [4, 5, 45, 46] [(4, vI x7.1), (5, vI x1)] [] [] trivial ?_)
    refine qr ?_
    obtain rfl := so h
    exact eR
theorem c_s_l1Parse {a} {s} {at_a2} {r} (h : s_l1Parse n a s at_a2 = some r) : PCC Tryz.prog G.g 256 [V.agg (cAffine a), vS s, vI at_a2] (V.tup [V.agg (cAffine r.1), vI r.2]) := by
 unfold s_l1Parse at h
 refine pmr tyOK Tryz.func256 rfl rfl rfl rfl rfl rfl rfl ?_
 intro w X hC
 refine rq hC [.b true, .nat 20] [3, 6, 7] [(3, V.tp (tAffine a)), (6, V.ref 20 0)] [(20, sc [V.t T.nilS, vI 0])] [(20, true)] a0 ?_
 refine rq hC [] [8] [(8, vI 1)] [] [] a0 ?_
 obtain ⟨j1, hj1, h⟩ := jn_e h
 refine vwp_jm (γ := Unit) (j := j1) (r := r) (fun x_ _ => mkS [(1, vS s), (2, vI at_a2), (3, V.tp (tAffine a)), (6, V.ref 20 0), (8, vI x_)] [(20, E.cells [V.t T.nilS, vI 0])] [20]) ?_ ?_
 ·
  obtain ⟨x2, hx2, h⟩ := bd h
  refine rq hC [.y x2] (fr 14 4) [(17, vB (decide ((x2.toNat : Int) = 45)))] [] [] (a1 hx2) ?_
  refine vci (b := decide ((x2.toNat : Int) = 45)) h (fun c1 h => ?_) (fun c1 h => ?_)
  ·refine rk hC [] [8] [(8, vI (-1))] [] [] a0 ?_
   exact ⟨(-1), (), h, lS⟩
  ·refine qk ?_
   exact ⟨1, (), h, lS⟩
 ·rintro x3 ⟨⟩ h
  subst hj1
  obtain ⟨j4, hj4, h⟩ := jn_e h
  refine vwp_jm (γ := Unit) (j := j4) (r := r) (fun x_ _ => mkS [(1, vS s), (2, vI x_), (3, V.tp (tAffine a)), (6, V.ref 20 0), (8, vI x3)] [(20, E.cells [V.t T.nilS, vI 0])] [20]) ?_ ?_
  ·
   obtain ⟨j5, hj5, h⟩ := jn_e h
   refine vwp_jm (γ := Unit) (j := j5) (r := r) (fun x_ _ => mkS [(1, vS s), (2, vI at_a2), (3, V.tp (tAffine a)), (6, V.ref 20 0), (8, vI x3), (27, vB x_)] [(20, E.cells [V.t T.nilS, vI 0])] [20]) ?_ ?_
   ·
    obtain ⟨x6, hx6, h⟩ := bd h
    refine splI h (fun c2 h => ?_) (fun c2 h => ?_)
    ·refine rk hC [.y x6, .b false, .b false, .b false, .y x6, .b false, .b false] (fr 18 10) [(27, vB (decide ((x6.toNat : Int) = 43)))] [] [] (a7 hx6 c2 c2 c2 hx6 c2 c2) ?_
     exact ⟨decide ((x6.toNat : Int) = 43), (), h, lS⟩
    ·refine rk hC [.y x6, .b true, .b true, .b true, .b true, .b true] (fr 18 10) [(27, vB true)] [] [] (a6 hx6 c2 c2 c2 c2 c2) ?_
     exact ⟨true, (), h, lS⟩
   ·rintro x7 ⟨⟩ h
    subst hj5
    refine vci (b := x7) h (fun c3 h => ?_) (fun c3 h => ?_)
    ·refine rk hC [] [2, 28, 29] [(2, vI (wr (at_a2 + 1)))] [] [] a0 ?_
     exact ⟨wr (at_a2 + 1), (), h, lS⟩
    ·refine qk ?_
     exact ⟨at_a2, (), h, lS⟩
  ·rintro x8 ⟨⟩ h
   subst hj4
   obtain ⟨x9, hx9, h⟩ := bd h
   refine rq hC [.v (V.tup [vI x9.1, vI x9.2])] [9, 10, 30, 31, 32, 33, 34, 35] [(9, vI x9.1), (10, vI x9.2)] [] [] (a1 (c_s_l1Digits G hx9)) ?_
   refine rq hC [] [11, 36] [(11, vI x9.2)] [] [] a0 ?_
   obtain ⟨j10, hj10, h⟩ := jn_e h
   refine vwp_jm (γ := Unit) (j := j10) (r := r) (fun x_ _ => mkS [(1, vS s), (2, vI x8), (3, V.tp (tAffine a)), (6, V.ref 20 0), (8, vI x3), (9, vI x9.1), (10, vI x9.2), (11, vI x_)] [(20, E.cells [V.t T.nilS, vI 0])] [20]) ?_ ?_
   ·
    obtain ⟨j11, hj11, h⟩ := jn_e h
    refine vwp_jm (γ := Unit) (j := j11) (r := r) (fun x_ _ => mkS [(1, vS s), (2, vI x8), (3, V.tp (tAffine a)), (6, V.ref 20 0), (8, vI x3), (9, vI x9.1), (10, vI x9.2), (11, vI x9.2), (51, vB x_)] [(20, E.cells [V.t T.nilS, vI 0])] [20]) ?_ ?_
    ·
     refine splI h (fun c4 h => ?_) (fun c4 h => ?_)
     ·refine rk hC [.b false, .b false, .b false, .b false, .b false, .b false, .b false, .b false, .b false, .b false] (fr 37 15) [(51, vB false)] [] [] (a10 c4 c4 c4 c4 c4 (Eq.refl false) (Eq.refl false) (Eq.refl false) (Eq.refl false) (Eq.refl false)) ?_
      exact ⟨false, (), h, lS⟩
     ·refine splI h (fun c5 h => ?_) (fun c5 h => ?_)
      ·refine rk hC [.b true, .b true, .b true, .b true, .b true, .b false, .b false, .b false, .b false, .b false] (fr 37 15) [(51, vB false)] [] [] (a10 c4 c4 c4 c4 c4 c5 c5 c5 c5 c5) ?_
       exact ⟨false, (), h, lS⟩
      ·obtain ⟨x12, hx12, h⟩ := bd h
       refine rk hC [.b true, .b true, .b true, .b true, .b true, .b true, .b true, .b true, .y x12, .b true, .b true] (fr 37 15) [(51, vB (decide ((x12.toNat : Int) = 42)))] [] [] (a11 c4 c4 c4 c4 c4 c5 c5 c5 hx12 c5 c5) ?_
       exact ⟨decide ((x12.toNat : Int) = 42), (), h, lS⟩
    ·rintro x13 ⟨⟩ h
     subst hj11
     refine vci (b := x13) h (fun c6 h => ?_) (fun c6 h => ?_)
     ·refine rk hC [] [11, 52, 53] [(11, vI (wr (x9.2 + 1)))] [] [] a0 ?_
      exact ⟨wr (x9.2 + 1), (), h, lS⟩
     ·refine qk ?_
      exact ⟨x9.2, (), h, lS⟩
   ·rintro x14 ⟨⟩ h
    subst hj10
    obtain ⟨x15, hx15, h⟩ := bd h
    refine rq hC [.v (vI x15)] [12, 54, 55, 56] [(12, vI x15)] [] [] (a1 (c_s_l1Name G hx15)) ?_
    refine qs ?_
    obtain ⟨x16, hx16, h⟩ := bd h
    refine dk hC hmix [.nat 21, .rows (List.map rI x16), .nat 22] [13, 57, 58, 59, 60, 61, 62, 63] [(13, V.ref 22 0)] [(21, some (ar 3 2 1 rI x16)), (22, sc [ms 21 2 1 rI x16, vI a.const])] [(21, true), (22, true)] (a3 (app_map rI hx16) (rwM (r := rI) 1 (fun _ => rfl) []) (rwM (r := rI) 1 (fun _ => rfl) a.coefs)) ?_
    refine qs ?_
    obtain ⟨j17, hj17, h⟩ := jn_e h
    refine vwp_jm (γ := Unit) (j := j17) (r := r) (fun x_ _ => mkS [(2, vI x8), (3, V.tp (tAffine a)), (6, V.ref 20 0), (8, vI x3), (9, vI x9.1), (10, vI x9.2), (11, vI x14), (12, vI x15), (13, V.ref 22 0), (75, vB x_)] [(20, E.cells [V.t T.nilS, vI 0]), (21, ar 3 2 1 rI x16), (22, E.cells [ms 21 2 1 rI x16, vI a.const])] [20, 21, 22]) ?_ ?_
    ·
     refine splI h (fun c7 h => ?_) (fun c7 h => ?_)
     ·refine rk hC [.b false, .b false, .b false, .b false, .b false, .b false] (fr 64 12) [(75, vB false)] [] [] (a6 c7 c7 c7 c7 c7 c7) ?_
      exact ⟨false, (), h, lS⟩
     ·refine splI h (fun c8 h => ?_) (fun c8 h => ?_)
      ·refine rk hC [.b true, .b true, .b true, .b true, .b false, .b false, .b false, .b true, .b false, .b true] (fr 64 12) [(75, vB (decide (x9.2 = x8)))] [] [] (a10 c7 c7 c7 c7 c8 c8 c8 c7 c8 c7) ?_
       exact ⟨decide (x9.2 = x8), (), h, lS⟩
      ·refine rk hC [.b true, .b true, .b true, .b true, .b true, .b true, .b true, .b true, .b true, .b true] (fr 64 12) [(75, vB true)] [] [] (a10 c7 c7 c7 c7 c8 c8 c8 c7 c8 c7) ?_
       exact ⟨true, (), h, lS⟩
    ·rintro x18 ⟨⟩ h
     subst hj17
     refine vci (b := x18) h (fun c9 h => ?_) (fun c9 h => ?_)
     ·refine qs ?_
      obtain ⟨x19, hx19, h⟩ := bd h
      obtain ⟨x20, hx20, h⟩ := bd h
      refine dk hC hmix [.row (rI x19), .row (rI x19), .rows (List.map rI x20)] (fr 76 13) [] [(21, some (ar 3 2 1 rI x20))] [] (a5 (ixn rI hx19) (ixr rI hx19) (ixn rI hx19) (ixr rI hx19) (str rI hx20)) ?_
      refine qw (lpP hC [.lenc 22 0 (List.map rI x20).length] [] [] [(22, sc [ms 21 2 1 rI x20, vI a.const])] [] (a1 (lenS rI hx20)) (by kernel_rfl)) ?_
      refine rq hC [.at 5, .fz 21 [] [22]] [7, 89, 90, 91] [(7, vI (wr (x14 + 1)))] [(22, sc [vM rI x20, vI a.const]), (21, none), (20, sc [vM rI x20, vI a.const])] [] a0 ?_
      refine qr ?_
      obtain rfl := so h
      exact eR
     ·refine qk (qs (rq hC [] [92, 93, 94] [(94, vB (decide (x9.2 = x8)))] [] [] trivial ?_))
      refine vci (b := decide (x9.2 = x8)) h (fun c10 h => ?_) (fun c10 h => ?_)
      ·refine rq hC [] [7, 95] [(7, vI (-1))] [(20, some (E.cells (cAffine a)))] [] a0 ?_
       refine qr ?_
       obtain rfl := so h
       exact eR
      ·refine qk (rq hC [] (fr 96 7) [] [(22, sc [ms 21 2 1 rI x16, vI (wr (a.const + (wr (x3 * x9.1))))])] [] trivial ?_)
       refine rq hC [.at 4, .fz 21 [] [22]] [7, 103, 104] [(7, vI x9.2)] [(22, sc [vM rI x16, vI (wr (a.const + (wr (x3 * x9.1))))]), (21, none), (20, sc [vM rI x16, vI (wr (a.const + (wr (x3 * x9.1))))])] [] a0 ?_
       refine qr ?_
       obtain rfl := so h
       exact eR
theorem c_s_l16Dec (G : GS) : ∀ (n : Nat) (n_a0 : Int) {r : (List UInt8)} (h : s_l16Dec n n_a0 = some r), PCC Tryz.prog G.g 260 [vI n_a0] (vS r) := by
 intro n
 induction n with
 | zero => intro n_a0 r h; rw [s_l16Dec.eq_def] at h; cases h
 | succ n ih =>
  intro n_a0 r h
  rw [s_l16Dec.eq_def] at h; dsimp only at h
  refine pmr tyOK Tryz.func260 rfl rfl rfl rfl rfl rfl rfl ?_
  intro w X hC
  refine rq hC [] [2] [] [] [] a0 ?_
  refine qs (rq hC [] [4, 5] [(5, vB (decide (n_a0 < (-9223372036854775807))))] [] [] trivial ?_)
  refine vci (b := decide (n_a0 < (-9223372036854775807))) h (fun c1 h => ?_) (fun c1 h => ?_)
  ·refine rq hC [] [2] [(2, vS [45, 57, 50, 50, 51, 51, 55, 50, 48, 51, 54, 56, 53, 52, 55, 55, 53, 56, 48, 56])] [] [] a0 ?_
   refine qr ?_
   obtain rfl := so h
   exact eR
  ·refine qk (qs (rq hC [] [6, 7] [(7, vB (decide (n_a0 < 0)))] [] [] trivial ?_))
   refine vci (b := decide (n_a0 < 0)) h (fun c2 h => ?_) (fun c2 h => ?_)
   ·obtain ⟨x1, hx1, h⟩ := bd h
    obtain ⟨x2, hx2, h⟩ := bd h
    refine rq hC [.v (vS x1), .str x2] [2, 8, 9, 10, 11] [(2, vS x2)] [] [] (a2 (ih (wr (0 - n_a0)) hx1) hx2) ?_
    refine qr ?_
    obtain rfl := so h
    exact eR
   ·refine qk (rq hC [] [3] [(3, vS [])] [] [] trivial ?_)
    refine qs (qb (vwp_lm (γ := Unit) h (fun x_ _ => mkS [(0, vI x_.1), (3, vS x_.2)] [] []) () (lS) ?_))
    rintro again5 ⟨x3, x4⟩ ⟨⟩ h
    refine qs (rq hC [] [12, 13] [(13, vB (decide ((9 : Int) < x3)))] [] [] trivial ?_)
    refine vci (b := decide ((9 : Int) < x3)) h (fun c3 h => ?_) (fun c3 h => ?_)
    ·refine qk (qb ?_)
     obtain ⟨x6, hx6, h⟩ := bd h
     refine rq hC [.y (UInt8.ofInt (wr (48 + (Int.tmod x3 10)))), .int 0, .str [UInt8.ofInt (wr (48 + (Int.tmod x3 10)))], .str x6] [3, 14, 15, 16, 17, 18, 19, 20, 21] [(3, vS x6)] [] [] (a4 (show (10 : Int) ≠ 0 by decide) (Eq.refl (UInt8.ofInt (wr (48 + (Int.tmod x3 10))))) (Eq.refl (List.map byteRow [UInt8.ofInt (wr (48 + (Int.tmod x3 10)))])) hx6) ?_
     refine rk hC [] [0, 22, 23] [(0, vI (wr (Int.tdiv x3 10)))] [] [] (a1 (show (10 : Int) ≠ 0 by decide)) ?_
     exact ⟨(wr (Int.tdiv x3 10), x6), (), h, lS⟩
    ·refine qxt ?_
     obtain ⟨x7, hx7, h⟩ := bd h
     refine rq hC [.y (UInt8.ofInt (wr (48 + x3))), .int 0, .str [UInt8.ofInt (wr (48 + x3))], .str x7] [2, 24, 25, 26, 27, 28, 29, 30] [(2, vS x7)] [] [] (a3 (Eq.refl (UInt8.ofInt (wr (48 + x3)))) (Eq.refl (List.map byteRow [UInt8.ofInt (wr (48 + x3))])) hx7) ?_
     refine qr ?_
     obtain rfl := so h
     exact eR
theorem c_s_l1Term {n_a0} {name} {r} (h : s_l1Term n n_a0 name = some r) : PCC Tryz.prog G.g 267 [vI n_a0, vS name] (vS r) := by
 unfold s_l1Term at h
 refine pmr tyOK Tryz.func267 rfl rfl rfl rfl rfl rfl rfl ?_
 intro w X hC
 refine rq hC [] [4] [] [] [] a0 ?_
 refine rq hC [] [5] [(5, vS [43])] [] [] a0 ?_
 obtain ⟨j1, hj1, h⟩ := jn_e h
 refine vwp_jm (γ := Unit) (j := j1) (r := r) (fun x_ _ => mkS [(0, vI x_.1), (1, vS name), (5, vS x_.2)] [] []) ?_ ?_
 ·
  refine rq hC [] [6, 7] [(7, vB (decide (n_a0 < 0)))] [] [] a0 ?_
  refine vci (b := decide (n_a0 < 0)) h (fun c1 h => ?_) (fun c1 h => ?_)
  ·refine rq hC [] [5] [(5, vS [45])] [] [] a0 ?_
   refine rk hC [] [0, 8, 9] [(0, vI (wr (0 - n_a0)))] [] [] a0 ?_
   exact ⟨(wr (0 - n_a0), [45]), (), h, lS⟩
  ·refine qk ?_
   exact ⟨(n_a0, [43]), (), h, lS⟩
 ·rintro ⟨x2, x3⟩ ⟨⟩ h
  subst hj1
  refine qs (rq hC [] [10, 11] [(11, vB (decide (name = [])))] [] [] trivial ?_)
  refine vci (b := decide (name = [])) h (fun c2 h => ?_) (fun c2 h => ?_)
  ·obtain ⟨x4, hx4, h⟩ := bd h
   obtain ⟨x5, hx5, h⟩ := bd h
   refine rq hC [.v (vS x4), .str x5] [4, 12, 13, 14, 15] [(4, vS x5)] [] [] (a2 (c_s_l16Dec G n x2 hx4) hx5) ?_
   refine qr ?_
   obtain rfl := so h
   exact eR
  ·refine qk (qs (rq hC [] [16, 17] [(17, vB (decide (x2 = 1)))] [] [] trivial ?_))
   refine vci (b := decide (x2 = 1)) h (fun c3 h => ?_) (fun c3 h => ?_)
   ·obtain ⟨x6, hx6, h⟩ := bd h
    refine rq hC [.str x6] [4, 18, 19, 20] [(4, vS x6)] [] [] (a1 hx6) ?_
    refine qr ?_
    obtain rfl := so h
    exact eR
   ·refine qk ?_
    obtain ⟨x7, hx7, h⟩ := bd h
    obtain ⟨x8, hx8, h⟩ := bd h
    obtain ⟨x9, hx9, h⟩ := bd h
    obtain ⟨x10, hx10, h⟩ := bd h
    refine rq hC [.v (vS x7), .str x8, .str x9, .str x10] [4, 21, 22, 23, 24, 25, 26, 27] [(4, vS x10)] [] [] (a4 (c_s_l16Dec G n x2 hx7) hx8 hx9 hx10) ?_
    refine qr ?_
    obtain rfl := so h
    exact eR
end Go.Lift
