/- The walks: the code computes what the plain functions say. -/
import Derived.Test.YthfcdmcpponheaaGreatVModels
import Derived.Test.YthfcdmcpponheaaGreatVTab
import Derived.Test.YthfcdmcpponheaaGreatVLiftSq
set_option maxRecDepth 10000
set_option linter.unusedVariables false
namespace Go.Lift
open Go Go.Proofs
theorem c_s_l4Arrays (G : GS) (n : Nat) (list : List Arr) {r : Bool} (h : s_l4Arrays n list = some r) : PCC Tryz.prog G.g 102 [vM rArr list] (vB r) := by
 unfold s_l4Arrays at h
 refine pmr tyOK Tryz.func102 rfl rfl rfl rfl rfl rfl rfl ?_
 intro w X hC
 refine rq hC [] [2] [] [] [] trivial ?_
 refine vwp_seq ?_
 refine rq hC [] [3] [(3, vI 0)] [] [] trivial ?_
 refine vwp_block ?_
 refine vwp_lm (γ := Unit) h (fun (x_ : Int) (g_ : Unit) => mkS [(0, vM rArr list), (3, vI x_)] [] []) () (lS) ?_
 rintro again2 x1 ⟨⟩ h
 refine vwp_seq ?_
 refine rq hC [.nat list.length] [6, 7, 8, 9] [(9, vB (decide (x1 < (list.length : Int))))] [] [] (an (lenM rArr list) trivial) ?_
 refine vci (b := decide (x1 < (list.length : Int))) h (fun c1 h => ?_) (fun c1 h => ?_)
 ·refine vwp_skip ?_
  refine vwp_seq ?_
  refine vwp_block ?_
  obtain ⟨x3, hx3, h⟩ := bd h
  refine rq hC [.row (rArr x3), .nat 20] [4, 12, 13, 14, 15] [(4, V.ref 20 0)] [(20, some (E.cells [vS x3.name, vM rI x3.dims]))] [(20, true)] (an (ix_map rArr hx3) trivial) ?_
  refine vwp_seq ?_
  obtain ⟨j4, hj4, h⟩ := jn_e h
  refine vwp_jm (γ := Unit) (j := j4) (r := r) (fun (x_ : Bool) (g_ : Unit) => mkS [(0, vM rArr list), (3, vI x1), (4, V.ref 20 0), (56, vB x_)] [(20, E.cells [vS x3.name, vM rI x3.dims])] [20]) ?_ ?_
  ·
   refine splI h (fun c2 h => ?_) (fun c2 h => ?_)
   ·refine splI h (fun c3 h => ?_) (fun c3 h => ?_)
    ·refine splI h (fun c4 h => ?_) (fun c4 h => ?_)
     ·refine splI h (fun c5 h => ?_) (fun c5 h => ?_)
      ·refine splI h (fun c6 h => ?_) (fun c6 h => ?_)
       ·refine dk hC hmix [.b false, .b false, .b false, .b false, .b false, .b false, .b false, .b false, .b false, .b false, .b false, .b false, .b false, .b false, .b false, .b false, .b false, .b false, .b false, .b false, .b false, .b false, .b false, .b false, .b false, .b false, .nat x3.dims.length, .b false, .b false, .b false, .b false, .b false, .nat x3.dims.length, .b false, .b false] [16, 17, 18, 19, 20, 21, 22, 23, 24, 25, 26, 27, 28, 29, 30, 31, 32, 33, 34, 35, 36, 37, 38, 39, 40, 41, 42, 43, 44, 45, 46, 47, 48, 49, 50, 51, 52, 53, 54, 55, 56] [(56, vB (decide ((2 : Int) < (x3.dims.length : Int))))] [] [] (an c2 (an c2 (an c2 (an c2 (an c3 (an c3 (an c3 (an c3 (an c4 (an c4 (an c4 (an c5 (an c5 (an c5 (an c5 (an c5 (an c5 (an c5 (an c5 (an c5 (an c4 (an c5 (an c4 (an (Eq.refl false) (an (Eq.refl false) (an (Eq.refl false) (an (lenM rI x3.dims) (an (Eq.refl false) (an (Eq.refl false) (an c6 (an c6 (an c6 (an (lenM rI x3.dims) (an c6 (an c6 trivial))))))))))))))))))))))))))))))))))) ?_
        exact ⟨decide ((2 : Int) < (x3.dims.length : Int)), (), h, lS⟩
       ·refine dk hC hmix [.b false, .b false, .b false, .b false, .b false, .b false, .b false, .b false, .b false, .b false, .b false, .b false, .b false, .b false, .b false, .b false, .b false, .b false, .b false, .b false, .b false, .b false, .b false, .b false, .b false, .b false, .nat x3.dims.length, .b false, .b false, .b true, .b true, .b true, .b true, .b true] [16, 17, 18, 19, 20, 21, 22, 23, 24, 25, 26, 27, 28, 29, 30, 31, 32, 33, 34, 35, 36, 37, 38, 39, 40, 41, 42, 43, 44, 45, 46, 47, 48, 49, 50, 51, 52, 53, 54, 55, 56] [(56, vB true)] [] [] (an c2 (an c2 (an c2 (an c2 (an c3 (an c3 (an c3 (an c3 (an c4 (an c4 (an c4 (an c5 (an c5 (an c5 (an c5 (an c5 (an c5 (an c5 (an c5 (an c5 (an c4 (an c5 (an c4 (an (Eq.refl false) (an (Eq.refl false) (an (Eq.refl false) (an (lenM rI x3.dims) (an (Eq.refl false) (an (Eq.refl false) (an c6 (an c6 (an c6 (an c6 (an c6 trivial)))))))))))))))))))))))))))))))))) ?_
        exact ⟨true, (), h, lS⟩
      ·obtain ⟨x5, hx5, h⟩ := bd h
       refine splI h (fun c7 h => ?_) (fun c7 h => ?_)
       ·refine splI h (fun c8 h => ?_) (fun c8 h => ?_)
        ·refine dk hC hmix [.b false, .b false, .b false, .b false, .b false, .b false, .b false, .b false, .b false, .b false, .b false, .b true, .b true, .b true, .b true, .row (rArr x5), .b true, .b true, .b true, .b true, .b true, .b false, .b true, .b false, .b false, .b false, .b false, .nat x3.dims.length, .b false, .b false, .b false, .b false, .b false, .nat x3.dims.length, .b false, .b false] [16, 17, 18, 19, 20, 21, 22, 23, 24, 25, 26, 27, 28, 29, 30, 31, 32, 33, 34, 35, 36, 37, 38, 39, 40, 41, 42, 43, 44, 45, 46, 47, 48, 49, 50, 51, 52, 53, 54, 55, 56] [(56, vB (decide ((2 : Int) < (x3.dims.length : Int))))] [] [] (an c2 (an c2 (an c2 (an c2 (an c3 (an c3 (an c3 (an c3 (an c4 (an c4 (an c4 (an c5 (an c5 (an c5 (an c5 (an (ix_map rArr hx5) (an c5 (an c5 (an c5 (an c5 (an c5 (an c4 (an c5 (an c4 (an c7 (an c7 (an c7 (an (lenM rI x3.dims) (an c7 (an c7 (an c8 (an c8 (an c8 (an (lenM rI x3.dims) (an c8 (an c8 trivial)))))))))))))))))))))))))))))))))))) ?_
         exact ⟨decide ((2 : Int) < (x3.dims.length : Int)), (), h, lS⟩
        ·refine dk hC hmix [.b false, .b false, .b false, .b false, .b false, .b false, .b false, .b false, .b false, .b false, .b false, .b true, .b true, .b true, .b true, .row (rArr x5), .b true, .b true, .b true, .b true, .b true, .b false, .b true, .b false, .b false, .b false, .b false, .nat x3.dims.length, .b false, .b false, .b true, .b true, .b true, .b true, .b true] [16, 17, 18, 19, 20, 21, 22, 23, 24, 25, 26, 27, 28, 29, 30, 31, 32, 33, 34, 35, 36, 37, 38, 39, 40, 41, 42, 43, 44, 45, 46, 47, 48, 49, 50, 51, 52, 53, 54, 55, 56] [(56, vB true)] [] [] (an c2 (an c2 (an c2 (an c2 (an c3 (an c3 (an c3 (an c3 (an c4 (an c4 (an c4 (an c5 (an c5 (an c5 (an c5 (an (ix_map rArr hx5) (an c5 (an c5 (an c5 (an c5 (an c5 (an c4 (an c5 (an c4 (an c7 (an c7 (an c7 (an (lenM rI x3.dims) (an c7 (an c7 (an c8 (an c8 (an c8 (an c8 (an c8 trivial))))))))))))))))))))))))))))))))))) ?_
         exact ⟨true, (), h, lS⟩
       ·refine dk hC hmix [.b false, .b false, .b false, .b false, .b false, .b false, .b false, .b false, .b false, .b false, .b false, .b true, .b true, .b true, .b true, .row (rArr x5), .b true, .b true, .b true, .b true, .b true, .b false, .b true, .b false, .b true, .b true, .b true, .b true, .b true, .b true, .b true, .b true, .b true, .b true] [16, 17, 18, 19, 20, 21, 22, 23, 24, 25, 26, 27, 28, 29, 30, 31, 32, 33, 34, 35, 36, 37, 38, 39, 40, 41, 42, 43, 44, 45, 46, 47, 48, 49, 50, 51, 52, 53, 54, 55, 56] [(56, vB true)] [] [] (an c2 (an c2 (an c2 (an c2 (an c3 (an c3 (an c3 (an c3 (an c4 (an c4 (an c4 (an c5 (an c5 (an c5 (an c5 (an (ix_map rArr hx5) (an c5 (an c5 (an c5 (an c5 (an c5 (an c4 (an c5 (an c4 (an c7 (an c7 (an c7 (an c7 (an c7 (an (Eq.refl true) (an (Eq.refl true) (an (Eq.refl true) (an (Eq.refl true) (an (Eq.refl true) trivial)))))))))))))))))))))))))))))))))) ?_
        exact ⟨true, (), h, lS⟩
     ·refine dk hC hmix [.b false, .b false, .b false, .b false, .b false, .b false, .b false, .b false, .b true, .b true, .b true, .b true, .b true, .b true, .b true, .b true, .b true, .b true, .b true, .b true, .b true, .b true, .b true] [16, 17, 18, 19, 20, 21, 22, 23, 24, 25, 26, 27, 28, 29, 30, 31, 32, 33, 34, 35, 36, 37, 38, 39, 40, 41, 42, 43, 44, 45, 46, 47, 48, 49, 50, 51, 52, 53, 54, 55, 56] [(56, vB true)] [] [] (an c2 (an c2 (an c2 (an c2 (an c3 (an c3 (an c3 (an c3 (an c4 (an c4 (an c4 (an c4 (an c4 (an (Eq.refl true) (an (Eq.refl true) (an (Eq.refl true) (an (Eq.refl true) (an (Eq.refl true) (an (Eq.refl true) (an (Eq.refl true) (an (Eq.refl true) (an (Eq.refl true) (an (Eq.refl true) trivial))))))))))))))))))))))) ?_
      exact ⟨true, (), h, lS⟩
    ·refine dk hC hmix [.b false, .b false, .b false, .b false, .b true, .b true, .b true, .b true, .b true, .b true, .b true, .b true, .b true, .b true, .b true, .b true, .b true, .b true, .b true, .b true, .b true, .b true, .b true] [16, 17, 18, 19, 20, 21, 22, 23, 24, 25, 26, 27, 28, 29, 30, 31, 32, 33, 34, 35, 36, 37, 38, 39, 40, 41, 42, 43, 44, 45, 46, 47, 48, 49, 50, 51, 52, 53, 54, 55, 56] [(56, vB true)] [] [] (an c2 (an c2 (an c2 (an c2 (an c3 (an c3 (an c3 (an c3 (an (Eq.refl true) (an (Eq.refl true) (an (Eq.refl true) (an (Eq.refl true) (an (Eq.refl true) (an (Eq.refl true) (an (Eq.refl true) (an (Eq.refl true) (an (Eq.refl true) (an (Eq.refl true) (an (Eq.refl true) (an (Eq.refl true) (an (Eq.refl true) (an (Eq.refl true) (an (Eq.refl true) trivial))))))))))))))))))))))) ?_
     exact ⟨true, (), h, lS⟩
   ·refine dk hC hmix [.b true, .b true, .b true, .b true, .b true, .b true, .b true, .b true, .b true, .b true, .b true, .b true, .b true, .b true, .b true, .b true, .b true, .b true, .b true, .b true, .b true, .b true, .b true] [16, 17, 18, 19, 20, 21, 22, 23, 24, 25, 26, 27, 28, 29, 30, 31, 32, 33, 34, 35, 36, 37, 38, 39, 40, 41, 42, 43, 44, 45, 46, 47, 48, 49, 50, 51, 52, 53, 54, 55, 56] [(56, vB true)] [] [] (an c2 (an c2 (an c2 (an c2 (an (Eq.refl true) (an (Eq.refl true) (an (Eq.refl true) (an (Eq.refl true) (an (Eq.refl true) (an (Eq.refl true) (an (Eq.refl true) (an (Eq.refl true) (an (Eq.refl true) (an (Eq.refl true) (an (Eq.refl true) (an (Eq.refl true) (an (Eq.refl true) (an (Eq.refl true) (an (Eq.refl true) (an (Eq.refl true) (an (Eq.refl true) (an (Eq.refl true) (an (Eq.refl true) trivial))))))))))))))))))))))) ?_
    exact ⟨true, (), h, lS⟩
  ·rintro x6 ⟨⟩ h
   subst hj4
   refine vci (b := x6) h (fun c9 h => ?_) (fun c9 h => ?_)
   ·refine rq hC [] [2] [(2, vB false)] [] [] trivial ?_
    refine vwp_ret ?_
    obtain rfl := so h
    exact eR
   ·refine vwp_skip ?_
    refine rq hC [] [5] [(5, vI 0)] [] [] trivial ?_
    refine vwp_block ?_
    refine vwp_lm (γ := Unit) h (fun (x_ : Int) (g_ : Unit) => mkS [(0, vM rArr list), (3, vI x1), (4, V.ref 20 0), (5, vI x_)] [(20, E.cells [vS x3.name, vM rI x3.dims])] [20]) () (lS) ?_
    rintro again8 x7 ⟨⟩ h
    refine vwp_seq ?_
    refine rq hC [.nat x3.dims.length] [57, 58, 59, 60, 61] [(61, vB (decide (x7 < (x3.dims.length : Int))))] [] [] (an (lenM rI x3.dims) trivial) ?_
    refine vci (b := decide (x7 < (x3.dims.length : Int))) h (fun c10 h => ?_) (fun c10 h => ?_)
    ·refine vwp_skip ?_
     refine vwp_seq ?_
     refine vwp_block ?_
     obtain ⟨j9, hj9, h⟩ := jn_e h
     refine vwp_jm (γ := Unit) (j := j9) (r := r) (fun (x_ : Bool) (g_ : Unit) => mkS [(0, vM rArr list), (3, vI x1), (4, V.ref 20 0), (5, vI x7), (77, vB x_)] [(20, E.cells [vS x3.name, vM rI x3.dims])] [20]) ?_ ?_
     ·
      obtain ⟨x10, hx10, h⟩ := bd h
      refine splI h (fun c11 h => ?_) (fun c11 h => ?_)
      ·refine rk hC [.row (rI x10), .b false, .b false, .b false, .b false, .row (rI x10), .b false, .b false, .b false] [64, 65, 66, 67, 68, 69, 70, 71, 72, 73, 74, 75, 76, 77] [(77, vB (decide ((6 : Int) < x10)))] [] [] (an (ix_map rI hx10) (an c11 (an c11 (an c11 (an c11 (an (ix_map rI hx10) (an c11 (an c11 (an c11 trivial))))))))) ?_
       exact ⟨decide ((6 : Int) < x10), (), h, lS⟩
      ·refine rk hC [.row (rI x10), .b true, .b true, .b true, .b true, .b true, .b true, .b true] [64, 65, 66, 67, 68, 69, 70, 71, 72, 73, 74, 75, 76, 77] [(77, vB true)] [] [] (an (ix_map rI hx10) (an c11 (an c11 (an c11 (an c11 (an c11 (an c11 (an c11 trivial)))))))) ?_
       exact ⟨true, (), h, lS⟩
     ·rintro x11 ⟨⟩ h
      subst hj9
      refine vci (b := x11) h (fun c12 h => ?_) (fun c12 h => ?_)
      ·refine rq hC [] [2] [(2, vB false)] [] [] trivial ?_
       refine vwp_ret ?_
       obtain rfl := so h
       exact eR
      ·refine vwp_skip ?_
       refine rk hC [] [5, 62, 63] [(5, vI (wr (x7 + 1)))] [] [] trivial ?_
       exact ⟨wr (x7 + 1), (), h, lS⟩
    ·refine vwp_exit ?_
     refine rk hC [] [3, 10, 11] [(3, vI (wr (x1 + 1)))] [] [] trivial ?_
     exact ⟨wr (x1 + 1), (), h, lS⟩
 ·refine vwp_exit ?_
  refine rq hC [.nat list.length] [2, 78, 79, 80] [(2, vB (decide ((list.length : Int) ≤ 4)))] [] [] (an (lenM rArr list) trivial) ?_
  refine vwp_ret ?_
  obtain rfl := so h
  exact eR
theorem c_s_l1Eval (G : GS) (n : Nat) (a : Affine) (point : List Int) {r : Int} (h : s_l1Eval n a point = some r) : PCC Tryz.prog G.g 142 [V.agg [vM rI a.coefs, vI a.const], vM rI point] (vI r) := by
 unfold s_l1Eval at h
 refine pmr tyOK Tryz.func142 rfl rfl rfl rfl rfl rfl rfl ?_
 intro w X hC
 refine rq hC [.b true] [2, 4] [(2, V.tp [T.sl (List.map rI a.coefs), T.int .i64 a.const])] [] [] trivial ?_
 refine rq hC [] [5, 7, 8] [(5, vI a.const)] [] [] trivial ?_
 refine vwp_seq ?_
 refine rq hC [] [6] [(6, vI 0)] [] [] trivial ?_
 refine vwp_block ?_
 refine vwp_lm (γ := Unit) h (fun (x_ : Int × Int) (g_ : Unit) => mkS [(1, vM rI point), (2, V.tp [T.sl (List.map rI a.coefs), T.int .i64 a.const]), (5, vI x_.1), (6, vI x_.2)] [] []) () (lS) ?_
 rintro again3 ⟨x1, x2⟩ ⟨⟩ h
 refine vwp_seq ?_
 obtain ⟨j4, hj4, h⟩ := jn_e h
 refine vwp_jm (γ := Unit) (j := j4) (r := r) (fun (x_ : Bool) (g_ : Unit) => mkS [(1, vM rI point), (2, V.tp [T.sl (List.map rI a.coefs), T.int .i64 a.const]), (5, vI x1), (6, vI x2), (19, vB x_)] [] []) ?_ ?_
 ·
  refine splI h (fun c1 h => ?_) (fun c1 h => ?_)
  ·refine rk hC [.nat point.length, .b false, .b false, .b false, .b false, .b false, .b false] [9, 10, 11, 12, 13, 14, 15, 16, 17, 18, 19] [(19, vB false)] [] [] (an (lenM rI point) (an c1 (an c1 (an c1 (an c1 (an c1 (an c1 trivial))))))) ?_
   exact ⟨false, (), h, lS⟩
  ·refine rk hC [.nat point.length, .b true, .b true, .b true, .b true, .nat a.coefs.length, .b true, .b true] [9, 10, 11, 12, 13, 14, 15, 16, 17, 18, 19] [(19, vB (decide (x2 < (a.coefs.length : Int))))] [] [] (an (lenM rI point) (an c1 (an c1 (an c1 (an c1 (an (lenM rI a.coefs) (an c1 (an c1 trivial)))))))) ?_
   exact ⟨decide (x2 < (a.coefs.length : Int)), (), h, lS⟩
 ·rintro x5 ⟨⟩ h
  subst hj4
  refine vci (b := x5) h (fun c2 h => ?_) (fun c2 h => ?_)
  ·refine vwp_skip ?_
   refine vwp_seq ?_
   refine vwp_block ?_
   obtain ⟨x6, hx6, h⟩ := bd h
   obtain ⟨x7, hx7, h⟩ := bd h
   refine dk hC hmix [.row (rI x6), .row (rI x7)] [5, 22, 23, 24, 25, 26, 27, 28, 29, 30, 31, 32, 33] [(5, vI (wr (x1 + (wr (x6 * x7)))))] [] [] (an (ix_map rI hx6) (an (ix_map rI hx7) trivial)) ?_
   refine rk hC [] [6, 20, 21] [(6, vI (wr (x2 + 1)))] [] [] trivial ?_
   exact ⟨(wr (x1 + (wr (x6 * x7))), wr (x2 + 1)), (), h, lS⟩
  ·refine vwp_exit ?_
   refine rq hC [] [4, 34] [(4, vI x1)] [] [] trivial ?_
   refine vwp_ret ?_
   obtain rfl := so h
   exact eR
theorem c_s_l2Range (G : GS) (n : Nat) (loop : Loop) (p : List Int) {r : Int × Int} (h : s_l2Range n loop p = some r) : PCC Tryz.prog G.g 165 [V.agg [vM rAffine loop.lo, vM rAffine loop.hi], vM rI p] (V.tup [vI r.1, vI r.2]) := by
 unfold s_l2Range at h
 refine pmr tyOK Tryz.func165 rfl rfl rfl rfl rfl rfl rfl ?_
 intro w X hC
 refine rq hC [.b true] [2, 4, 5] [(2, V.tp [T.sl (List.map rAffine loop.lo), T.sl (List.map rAffine loop.hi)])] [] [] trivial ?_
 obtain ⟨x1, hx1, h⟩ := bd h
 obtain ⟨x2, hx2, h⟩ := bd h
 refine rq hC [.row (rAffine x1), .v (vI x2)] [6, 12, 13, 14, 15, 16, 17] [(6, vI x2)] [] [] (an (ix_map rAffine hx1) (an (c_s_l1Eval G n x1 p hx2) trivial)) ?_
 obtain ⟨x3, hx3, h⟩ := bd h
 obtain ⟨x4, hx4, h⟩ := bd h
 refine rq hC [.row (rAffine x3), .v (vI x4)] [7, 18, 19, 20, 21, 22, 23] [(7, vI x4)] [] [] (an (ix_map rAffine hx3) (an (c_s_l1Eval G n x3 p hx4) trivial)) ?_
 refine vwp_seq ?_
 refine rq hC [] [8] [(8, vI 1)] [] [] trivial ?_
 refine vwp_block ?_
 refine vwp_lm (γ := Unit) h (fun (x_ : Int × Int) (g_ : Unit) => mkS [(1, vM rI p), (2, V.tp [T.sl (List.map rAffine loop.lo), T.sl (List.map rAffine loop.hi)]), (6, vI x_.1), (7, vI x4), (8, vI x_.2)] [] []) () (lS) ?_
 rintro again7 ⟨x5, x6⟩ ⟨⟩ h
 refine vwp_seq ?_
 refine rq hC [.nat loop.lo.length] [24, 25, 26, 27, 28] [(28, vB (decide (x6 < (loop.lo.length : Int))))] [] [] (an (lenM rAffine loop.lo) trivial) ?_
 refine vci (b := decide (x6 < (loop.lo.length : Int))) h (fun c1 h => ?_) (fun c1 h => ?_)
 ·refine vwp_skip ?_
  obtain ⟨j8, hj8, h⟩ := jn_e h
  refine vwp_jm (γ := Unit) (j := j8) (r := r) (fun (x_ : Int) (g_ : Unit) => mkS [(1, vM rI p), (2, V.tp [T.sl (List.map rAffine loop.lo), T.sl (List.map rAffine loop.hi)]), (6, vI x_), (7, vI x4), (8, vI x6)] [] []) ?_ ?_
  ·
   refine vwp_block ?_
   obtain ⟨x9, hx9, h⟩ := bd h
   obtain ⟨x10, hx10, h⟩ := bd h
   refine rq hC [.row (rAffine x9), .v (vI x10)] [9, 31, 32, 33, 34, 35, 36, 37] [(9, vI x10)] [] [] (an (ix_map rAffine hx9) (an (c_s_l1Eval G n x9 p hx10) trivial)) ?_
   refine rq hC [] [38, 39, 40] [(40, vB (decide (x5 < x10)))] [] [] trivial ?_
   refine vci (b := decide (x5 < x10)) h (fun c2 h => ?_) (fun c2 h => ?_)
   ·refine rk hC [] [6, 41] [(6, vI x10)] [] [] trivial ?_
    exact ⟨x10, (), h, lS⟩
   ·refine vwp_skip ?_
    exact ⟨x5, (), h, lS⟩
  ·rintro x11 ⟨⟩ h
   subst hj8
   refine rk hC [] [8, 29, 30] [(8, vI (wr (x6 + 1)))] [] [] trivial ?_
   exact ⟨(x11, wr (x6 + 1)), (), h, lS⟩
 ·refine vwp_exit ?_
  refine vwp_seq ?_
  refine rq hC [] [10] [(10, vI 1)] [] [] trivial ?_
  refine vwp_block ?_
  refine vwp_lm (γ := Unit) h (fun (x_ : Int × Int) (g_ : Unit) => mkS [(1, vM rI p), (2, V.tp [T.sl (List.map rAffine loop.lo), T.sl (List.map rAffine loop.hi)]), (6, vI x5), (7, vI x_.1), (10, vI x_.2)] [] []) () (lS) ?_
  rintro again14 ⟨x12, x13⟩ ⟨⟩ h
  refine vwp_seq ?_
  refine rq hC [.nat loop.hi.length] [42, 43, 44, 45, 46] [(46, vB (decide (x13 < (loop.hi.length : Int))))] [] [] (an (lenM rAffine loop.hi) trivial) ?_
  refine vci (b := decide (x13 < (loop.hi.length : Int))) h (fun c3 h => ?_) (fun c3 h => ?_)
  ·refine vwp_skip ?_
   obtain ⟨j15, hj15, h⟩ := jn_e h
   refine vwp_jm (γ := Unit) (j := j15) (r := r) (fun (x_ : Int) (g_ : Unit) => mkS [(1, vM rI p), (2, V.tp [T.sl (List.map rAffine loop.lo), T.sl (List.map rAffine loop.hi)]), (6, vI x5), (7, vI x_), (10, vI x13)] [] []) ?_ ?_
   ·
    refine vwp_block ?_
    obtain ⟨x16, hx16, h⟩ := bd h
    obtain ⟨x17, hx17, h⟩ := bd h
    refine rq hC [.row (rAffine x16), .v (vI x17)] [11, 49, 50, 51, 52, 53, 54, 55] [(11, vI x17)] [] [] (an (ix_map rAffine hx16) (an (c_s_l1Eval G n x16 p hx17) trivial)) ?_
    refine rq hC [] [56, 57, 58] [(58, vB (decide (x17 < x12)))] [] [] trivial ?_
    refine vci (b := decide (x17 < x12)) h (fun c4 h => ?_) (fun c4 h => ?_)
    ·refine rk hC [] [7, 59] [(7, vI x17)] [] [] trivial ?_
     exact ⟨x17, (), h, lS⟩
    ·refine vwp_skip ?_
     exact ⟨x12, (), h, lS⟩
   ·rintro x18 ⟨⟩ h
    subst hj15
    refine rk hC [] [10, 47, 48] [(10, vI (wr (x13 + 1)))] [] [] trivial ?_
    exact ⟨(x18, wr (x13 + 1)), (), h, lS⟩
  ·refine vwp_exit ?_
   refine rq hC [] [4, 5, 60, 61] [(4, vI x5), (5, vI x12)] [] [] trivial ?_
   refine vwp_ret ?_
   obtain rfl := so h
   exact eR
theorem c_s_l2Points (G : GS) : ∀ (n : Nat) (out : List (List Int)) (outG : Nat) (nest : List Loop) (p : List Int) {r : (List (List Int))} (h : s_l2Points n out nest p = some r), VCC Tryz.prog G.g 119 [ar 40 outG 1 (rL rI) out] [ms 0 outG 1 (rL rI) out, vM rLoop nest, vM rI p] (ms 0 (outG + 1) 1 (rL rI) r) [ar 40 (outG + 1) 1 (rL rI) r] := by
 intro n
 induction n with
 | zero => intro out outG nest p r h; rw [s_l2Points.eq_def] at h; cases h
 | succ n ih =>
  intro out outG nest p r h
  rw [s_l2Points.eq_def] at h; dsimp only at h
  refine vmr tyOK Tryz.func119 rfl rfl rfl rfl rfl rfl rfl rfl ?_
  intro w X β0 hC hg
  refine rq hC [] [6] [] [] [] trivial ?_
  refine vwp_seq ?_
  refine rq hC [.nat p.length, .nat nest.length] [10, 11, 12, 13, 14] [(14, vB (decide ((p.length : Int) = (nest.length : Int))))] [] [] (an (lenM rI p) (an (lenM rLoop nest) trivial)) ?_
  refine vci (b := decide ((p.length : Int) = (nest.length : Int))) h (fun c1 h => ?_) (fun c1 h => ?_)
  ·obtain ⟨x1, hx1, h⟩ := bd h
   obtain ⟨x2, hx2, h⟩ := bd h
   refine rq hC [.nat 20, .rows (List.map rI x1), .at 3, .fz 20 [18] [], .int 0, .rows (List.map (rL rI) x2)] [0, 6, 15, 16, 17, 18, 19, 20] [(6, ms 0 (outG + 1) 1 (rL rI) x2)] [(20, none), (0, some (ar 40 (outG + 1) 1 (rL rI) x2))] [(20, true)] (an (app_map rI hx1) (an (rwM (r := rI) 1 (fun _ => rfl) []) (an (rwM (r := rI) 1 (fun _ => rfl) p) (an (app_map (rL rI) hx2) (an (rwM (r := (rL rI)) 1 (fun _ => rfl) out) (an (rwM (r := (rL rI)) 1 (fun _ => rfl) [x1]) trivial)))))) ?_
   refine vwp_weaken (S.le_regenS 6 0 outG (outG + 1) 1 0 (List.map (rL rI) x2).length (e := 40) (rows := List.map (rL rI) x2) rfl (by kernel_rfl) (by kernel_rfl) hg.1) ?_
   refine vwp_ret ?_
   obtain rfl := so h
   exact eW
  ·refine vwp_skip ?_
   obtain ⟨x3, hx3, h⟩ := bd h
   obtain ⟨x4, hx4, h⟩ := bd h
   refine rq hC [.nat p.length, .row (rLoop x3), .v (V.tup [vI x4.1, vI x4.2])] [7, 8, 21, 22, 23, 24, 25, 26, 27, 28, 29, 30] [(7, vI x4.1), (8, vI x4.2)] [] [] (an (lenM rI p) (an (ix_map rLoop hx3) (an (c_s_l2Range G n x3 p hx4) trivial))) ?_
   refine vwp_seq ?_
   refine rq hC [] [9, 31] [(9, vI x4.1)] [] [] trivial ?_
   refine vwp_block ?_
   refine vwp_lm (γ := Nat) h (fun (x_ : (List (List Int)) × Int) (g_ : Nat) => mkS [(0, ms 0 g_ 1 (rL rI) x_.1), (1, vM rLoop nest), (2, vM rI p), (8, vI x4.2), (9, vI x_.2)] [(0, ar 40 g_ 1 (rL rI) x_.1)] [0]) outG (lS) ?_
   rintro again8 ⟨x5, x6⟩ g7 h
   refine vwp_seq ?_
   obtain ⟨j9, hj9, h⟩ := jn_e h
   refine vwp_jm (γ := Unit) (j := j9) (r := r) (fun (x_ : Bool) (g_ : Unit) => mkS [(0, ms 0 g7 1 (rL rI) x5), (1, vM rLoop nest), (2, vM rI p), (8, vI x4.2), (9, vI x6), (39, vB x_)] [(0, ar 40 g7 1 (rL rI) x5)] [0]) ?_ ?_
   ·
    refine splI h (fun c2 h => ?_) (fun c2 h => ?_)
    ·refine rk hC [.b false, .b false, .b false, .b false] [32, 33, 34, 35, 36, 37, 38, 39] [(39, vB false)] [] [] (an c2 (an c2 (an c2 (an c2 trivial)))) ?_
     exact ⟨false, (), h, lS⟩
    ·refine rk hC [.b true, .b true, .nat x5.length, .b true, .b true] [32, 33, 34, 35, 36, 37, 38, 39] [(39, vB (decide ((x5.length : Int) ≤ 120)))] [] [] (an c2 (an c2 (an (lenM (rL rI) x5) (an c2 (an c2 trivial))))) ?_
     exact ⟨decide ((x5.length : Int) ≤ 120), (), h, lS⟩
   ·rintro x10 ⟨⟩ h
    subst hj9
    refine vci (b := x10) h (fun c3 h => ?_) (fun c3 h => ?_)
    ·refine vwp_skip ?_
     refine vwp_seq ?_
     refine vwp_block ?_
     obtain ⟨x11, hx11, h⟩ := bd h
     obtain ⟨x12, hx12, h⟩ := bd h
     obtain ⟨x13, hx13, h⟩ := bd h
     refine rk hC [.nat 20, .rows (List.map rI x11), .int 0, .rows (List.map rI x12), .at 2, .fz 20 [49] [], .vc [0] [] (ms 0 (g7 + 1) 1 (rL rI) x13) [ar 40 (g7 + 1) 1 (rL rI) x13]] [0, 42, 43, 44, 45, 46, 47, 48, 49, 50] [(0, ms 0 (g7 + 1) 1 (rL rI) x13)] [(20, none), (0, some (ar 40 (g7 + 1) 1 (rL rI) x13))] [(20, true), (0, true)] (an (app_map rI hx11) (an (rwM (r := rI) 1 (fun _ => rfl) []) (an (rwM (r := rI) 1 (fun _ => rfl) p) (an (app_map rI hx12) (an (rwM (r := rI) 1 (fun _ => rfl) x11) (an (rwM (r := rI) 1 (fun _ => rfl) [x6]) (an (ih x5 g7 nest x12 hx13) trivial))))))) ?_
     refine rk hC [] [9, 40, 41] [(9, vI (wr (x6 + 1)))] [] [] trivial ?_
     exact ⟨(x13, wr (x6 + 1)), (g7 + 1), h, lS⟩
    ·refine vwp_exit ?_
     refine rq hC [] [6, 51] [(6, ms 0 g7 1 (rL rI) x5)] [] [] trivial ?_
     refine vwp_weaken (S.le_regenS 6 0 outG g7 1 0 (List.map (rL rI) x5).length (e := 40) (rows := List.map (rL rI) x5) rfl (by kernel_rfl) (by kernel_rfl) hg.1) ?_
     refine vwp_ret ?_
     obtain rfl := so h
     exact eW
theorem c_s_l1Within (G : GS) (n : Nat) (n_a0 : Int) (most : Int) {r : Bool} (h : s_l1Within n n_a0 most = some r) : PCC Tryz.prog G.g 195 [vI n_a0, vI most] (vB r) := by
 unfold s_l1Within at h
 refine pmr tyOK Tryz.func195 rfl rfl rfl rfl rfl rfl rfl ?_
 intro w X hC
 refine rq hC [] [4] [] [] [] trivial ?_
 obtain ⟨j1, hj1, h⟩ := jn_e h
 refine vwp_jm (γ := Unit) (j := j1) (r := r) (fun (x_ : Bool) (g_ : Unit) => mkS [(4, vB x_)] [] []) ?_ ?_
 ·
  refine splI h (fun c1 h => ?_) (fun c1 h => ?_)
  ·refine rk hC [.b false, .b false, .b false, .b false] [4, 5, 6, 7, 8, 9, 10, 11, 12, 13] [(4, vB false)] [] [] (an c1 (an c1 (an c1 (an c1 trivial)))) ?_
   exact ⟨false, (), h, lS⟩
  ·refine rk hC [.b true, .b true, .b true, .b true] [4, 5, 6, 7, 8, 9, 10, 11, 12, 13] [(4, vB (decide (n_a0 ≤ most)))] [] [] (an c1 (an c1 (an c1 (an c1 trivial)))) ?_
   exact ⟨decide (n_a0 ≤ most), (), h, lS⟩
 ·rintro x2 ⟨⟩ h
  subst hj1
  refine vwp_ret ?_
  obtain rfl := so h
  exact eR
theorem c_s_AffineValid (G : GS) (n : Nat) (a : Affine) {r : Bool} (h : s_AffineValid n a = some r) : PCC Tryz.prog G.g 222 [V.agg [vM rI a.coefs, vI a.const]] (vB r) := by
 unfold s_AffineValid at h
 refine pmr tyOK Tryz.func222 rfl rfl rfl rfl rfl rfl rfl ?_
 intro w X hC
 refine rq hC [.b true] [1, 2] [(1, V.tp [T.sl (List.map rI a.coefs), T.int .i64 a.const])] [] [] trivial ?_
 refine vwp_seq ?_
 refine rq hC [] [3] [(3, vI 0)] [] [] trivial ?_
 refine vwp_block ?_
 refine vwp_lm (γ := Unit) h (fun (x_ : Int) (g_ : Unit) => mkS [(1, V.tp [T.sl (List.map rI a.coefs), T.int .i64 a.const]), (3, vI x_)] [] []) () (lS) ?_
 rintro again2 x1 ⟨⟩ h
 refine vwp_seq ?_
 refine rq hC [.nat a.coefs.length] [4, 5, 6, 7, 8] [(8, vB (decide (x1 < (a.coefs.length : Int))))] [] [] (an (lenM rI a.coefs) trivial) ?_
 refine vci (b := decide (x1 < (a.coefs.length : Int))) h (fun c1 h => ?_) (fun c1 h => ?_)
 ·refine vwp_skip ?_
  refine vwp_seq ?_
  refine vwp_block ?_
  obtain ⟨x3, hx3, h⟩ := bd h
  obtain ⟨x4, hx4, h⟩ := bd h
  refine rq hC [.row (rI x3), .v (vB x4)] [11, 12, 13, 14, 15, 16, 17] [(17, vB (!x4))] [] [] (an (ix_map rI hx3) (an (c_s_l1Within G n x3 9 hx4) trivial)) ?_
  refine vci (b := !x4) h (fun c2 h => ?_) (fun c2 h => ?_)
  ·refine rq hC [] [2] [(2, vB false)] [] [] trivial ?_
   refine vwp_ret ?_
   obtain rfl := so h
   exact eR
  ·refine vwp_skip ?_
   refine rk hC [] [3, 9, 10] [(3, vI (wr (x1 + 1)))] [] [] trivial ?_
   exact ⟨wr (x1 + 1), (), h, lS⟩
 ·refine vwp_exit ?_
  obtain ⟨j5, hj5, h⟩ := jn_e h
  refine vwp_jm (γ := Unit) (j := j5) (r := r) (fun (x_ : Bool) (g_ : Unit) => mkS [(2, vB x_)] [] []) ?_ ?_
  ·
   refine splI h (fun c3 h => ?_) (fun c3 h => ?_)
   ·refine rk hC [.nat a.coefs.length, .b false, .b false, .b false, .b false] [2, 18, 19, 20, 21, 22, 23, 24, 25, 26] [(2, vB false)] [] [] (an (lenM rI a.coefs) (an c3 (an c3 (an c3 (an c3 trivial))))) ?_
    exact ⟨false, (), h, lS⟩
   ·obtain ⟨x6, hx6, h⟩ := bd h
    refine rk hC [.nat a.coefs.length, .b true, .b true, .b true, .v (vB x6), .b true] [2, 18, 19, 20, 21, 22, 23, 24, 25, 26] [(2, vB x6)] [] [] (an (lenM rI a.coefs) (an c3 (an c3 (an c3 (an (c_s_l1Within G n a.const 99 hx6) (an c3 trivial)))))) ?_
    exact ⟨x6, (), h, lS⟩
  ·rintro x7 ⟨⟩ h
   subst hj5
   refine vwp_ret ?_
   obtain rfl := so h
   exact eR
theorem c_s_l1Depth (G : GS) (n : Nat) (a : Affine) {r : Int} (h : s_l1Depth n a = some r) : PCC Tryz.prog G.g 223 [V.agg [vM rI a.coefs, vI a.const]] (vI r) := by
 unfold s_l1Depth at h
 refine pmr tyOK Tryz.func223 rfl rfl rfl rfl rfl rfl rfl ?_
 intro w X hC
 refine rq hC [.b true] [1, 2] [(1, V.tp [T.sl (List.map rI a.coefs), T.int .i64 a.const])] [] [] trivial ?_
 refine rq hC [] [3] [(3, vI 0)] [] [] trivial ?_
 refine vwp_seq ?_
 refine rq hC [] [4] [(4, vI 0)] [] [] trivial ?_
 refine vwp_block ?_
 refine vwp_lm (γ := Unit) h (fun (x_ : Int × Int) (g_ : Unit) => mkS [(1, V.tp [T.sl (List.map rI a.coefs), T.int .i64 a.const]), (3, vI x_.1), (4, vI x_.2)] [] []) () (lS) ?_
 rintro again3 ⟨x1, x2⟩ ⟨⟩ h
 refine vwp_seq ?_
 refine rq hC [.nat a.coefs.length] [5, 6, 7, 8, 9] [(9, vB (decide (x2 < (a.coefs.length : Int))))] [] [] (an (lenM rI a.coefs) trivial) ?_
 refine vci (b := decide (x2 < (a.coefs.length : Int))) h (fun c1 h => ?_) (fun c1 h => ?_)
 ·refine vwp_skip ?_
  obtain ⟨j4, hj4, h⟩ := jn_e h
  refine vwp_jm (γ := Unit) (j := j4) (r := r) (fun (x_ : Int) (g_ : Unit) => mkS [(1, V.tp [T.sl (List.map rI a.coefs), T.int .i64 a.const]), (3, vI x_), (4, vI x2)] [] []) ?_ ?_
  ·
   refine vwp_block ?_
   obtain ⟨x5, hx5, h⟩ := bd h
   refine rq hC [.row (rI x5)] [12, 13, 14, 15, 16, 17] [(17, vB (!decide (x5 = 0)))] [] [] (an (ix_map rI hx5) trivial) ?_
   refine vci (b := !decide (x5 = 0)) h (fun c2 h => ?_) (fun c2 h => ?_)
   ·refine rk hC [] [3, 18, 19] [(3, vI (wr (x2 + 1)))] [] [] trivial ?_
    exact ⟨wr (x2 + 1), (), h, lS⟩
   ·refine vwp_skip ?_
    exact ⟨x1, (), h, lS⟩
  ·rintro x6 ⟨⟩ h
   subst hj4
   refine rk hC [] [4, 10, 11] [(4, vI (wr (x2 + 1)))] [] [] trivial ?_
   exact ⟨(x6, wr (x2 + 1)), (), h, lS⟩
 ·refine vwp_exit ?_
  refine rq hC [] [2, 20] [(2, vI x1)] [] [] trivial ?_
  refine vwp_ret ?_
  obtain rfl := so h
  exact eR
theorem c_s_l2Side (G : GS) (n : Nat) (list : List Affine) (depth : Int) {r : Bool} (h : s_l2Side n list depth = some r) : PCC Tryz.prog G.g 200 [vM rAffine list, vI depth] (vB r) := by
 unfold s_l2Side at h
 refine pmr tyOK Tryz.func200 rfl rfl rfl rfl rfl rfl rfl ?_
 intro w X hC
 refine rq hC [] [4] [] [] [] trivial ?_
 refine vwp_seq ?_
 refine rq hC [] [5] [(5, vI 0)] [] [] trivial ?_
 refine vwp_block ?_
 refine vwp_lm (γ := Unit) h (fun (x_ : Int) (g_ : Unit) => mkS [(0, vM rAffine list), (1, vI depth), (5, vI x_)] [] []) () (lS) ?_
 rintro again2 x1 ⟨⟩ h
 refine vwp_seq ?_
 refine rq hC [.nat list.length] [6, 7, 8, 9] [(9, vB (decide (x1 < (list.length : Int))))] [] [] (an (lenM rAffine list) trivial) ?_
 refine vci (b := decide (x1 < (list.length : Int))) h (fun c1 h => ?_) (fun c1 h => ?_)
 ·refine vwp_skip ?_
  refine vwp_seq ?_
  refine vwp_block ?_
  obtain ⟨j3, hj3, h⟩ := jn_e h
  refine vwp_jm (γ := Unit) (j := j3) (r := r) (fun (x_ : Bool) (g_ : Unit) => mkS [(0, vM rAffine list), (1, vI depth), (5, vI x1), (26, vB x_)] [] []) ?_ ?_
  ·
   obtain ⟨x4, hx4, h⟩ := bd h
   obtain ⟨x5, hx5, h⟩ := bd h
   refine splI h (fun c2 h => ?_) (fun c2 h => ?_)
   ·obtain ⟨x6, hx6, h⟩ := bd h
    refine rk hC [.row (rAffine x4), .v (vB x5), .b false, .b false, .b false, .row (rAffine x4), .b false, .b false, .v (vI x6), .b false, .b false, .b false] [12, 13, 14, 15, 16, 17, 18, 19, 20, 21, 22, 23, 24, 25, 26] [(26, vB (decide (depth < x6)))] [] [] (an (ix_map rAffine hx4) (an (c_s_AffineValid G n x4 hx5) (an c2 (an c2 (an c2 (an (ix_map rAffine hx4) (an c2 (an c2 (an (c_s_l1Depth G n x4 hx6) (an c2 (an c2 (an c2 trivial)))))))))))) ?_
    exact ⟨decide (depth < x6), (), h, lS⟩
   ·refine rk hC [.row (rAffine x4), .v (vB x5), .b true, .b true, .b true, .b true, .b true, .b true, .b true, .b true] [12, 13, 14, 15, 16, 17, 18, 19, 20, 21, 22, 23, 24, 25, 26] [(26, vB true)] [] [] (an (ix_map rAffine hx4) (an (c_s_AffineValid G n x4 hx5) (an c2 (an c2 (an c2 (an c2 (an c2 (an c2 (an c2 (an c2 trivial)))))))))) ?_
    exact ⟨true, (), h, lS⟩
  ·rintro x7 ⟨⟩ h
   subst hj3
   refine vci (b := x7) h (fun c3 h => ?_) (fun c3 h => ?_)
   ·refine rq hC [] [4] [(4, vB false)] [] [] trivial ?_
    refine vwp_ret ?_
    obtain rfl := so h
    exact eR
   ·refine vwp_skip ?_
    refine rk hC [] [5, 10, 11] [(5, vI (wr (x1 + 1)))] [] [] trivial ?_
    exact ⟨wr (x1 + 1), (), h, lS⟩
 ·refine vwp_exit ?_
  obtain ⟨j8, hj8, h⟩ := jn_e h
  refine vwp_jm (γ := Unit) (j := j8) (r := r) (fun (x_ : Bool) (g_ : Unit) => mkS [(4, vB x_)] [] []) ?_ ?_
  ·
   refine splI h (fun c4 h => ?_) (fun c4 h => ?_)
   ·refine rk hC [.nat list.length, .b false, .b false, .b false, .b false] [4, 27, 28, 29, 30, 31, 32, 33, 34] [(4, vB false)] [] [] (an (lenM rAffine list) (an c4 (an c4 (an c4 (an c4 trivial))))) ?_
    exact ⟨false, (), h, lS⟩
   ·refine rk hC [.nat list.length, .b true, .b true, .nat list.length, .b true, .b true] [4, 27, 28, 29, 30, 31, 32, 33, 34] [(4, vB (decide ((list.length : Int) ≤ 2)))] [] [] (an (lenM rAffine list) (an c4 (an c4 (an (lenM rAffine list) (an c4 (an c4 trivial)))))) ?_
    exact ⟨decide ((list.length : Int) ≤ 2), (), h, lS⟩
  ·rintro x9 ⟨⟩ h
   subst hj8
   refine vwp_ret ?_
   obtain rfl := so h
   exact eR
theorem c_s_NestValid (G : GS) (n : Nat) (nest : List Loop) {r : Bool} (h : s_NestValid n nest = some r) : PCC Tryz.prog G.g 166 [vM rLoop nest] (vB r) := by
 unfold s_NestValid at h
 refine pmr tyOK Tryz.func166 rfl rfl rfl rfl rfl rfl rfl ?_
 intro w X hC
 refine rq hC [] [2] [] [] [] trivial ?_
 refine vwp_seq ?_
 refine rq hC [] [3] [(3, vI 0)] [] [] trivial ?_
 refine vwp_block ?_
 refine vwp_lm (γ := Unit) h (fun (x_ : Int) (g_ : Unit) => mkS [(0, vM rLoop nest), (3, vI x_)] [] []) () (lS) ?_
 rintro again2 x1 ⟨⟩ h
 refine vwp_seq ?_
 obtain ⟨j3, hj3, h⟩ := jn_e h
 refine vwp_jm (γ := Unit) (j := j3) (r := r) (fun (x_ : Bool) (g_ : Unit) => mkS [(0, vM rLoop nest), (3, vI x1), (12, vB x_)] [] []) ?_ ?_
 ·
  refine splI h (fun c1 h => ?_) (fun c1 h => ?_)
  ·refine rk hC [.nat nest.length, .b false, .b false, .b false, .b false] [4, 5, 6, 7, 8, 9, 10, 11, 12] [(12, vB false)] [] [] (an (lenM rLoop nest) (an c1 (an c1 (an c1 (an c1 trivial))))) ?_
   exact ⟨false, (), h, lS⟩
  ·refine rk hC [.nat nest.length, .b true, .b true, .nat nest.length, .b true, .b true] [4, 5, 6, 7, 8, 9, 10, 11, 12] [(12, vB (decide ((nest.length : Int) ≤ 4)))] [] [] (an (lenM rLoop nest) (an c1 (an c1 (an (lenM rLoop nest) (an c1 (an c1 trivial)))))) ?_
   exact ⟨decide ((nest.length : Int) ≤ 4), (), h, lS⟩
 ·rintro x4 ⟨⟩ h
  subst hj3
  refine vci (b := x4) h (fun c2 h => ?_) (fun c2 h => ?_)
  ·refine vwp_skip ?_
   refine vwp_seq ?_
   refine vwp_block ?_
   obtain ⟨j5, hj5, h⟩ := jn_e h
   refine vwp_jm (γ := Unit) (j := j5) (r := r) (fun (x_ : Bool) (g_ : Unit) => mkS [(0, vM rLoop nest), (3, vI x1), (32, vB x_)] [] []) ?_ ?_
   ·
    obtain ⟨x6, hx6, h⟩ := bd h
    obtain ⟨x7, hx7, h⟩ := bd h
    refine splI h (fun c3 h => ?_) (fun c3 h => ?_)
    ·obtain ⟨x8, hx8, h⟩ := bd h
     refine rk hC [.row (rLoop x6), .v (vB x7), .b false, .b false, .b false, .row (rLoop x6), .b false, .b false, .b false, .b false, .v (vB x8), .b false, .b false] [15, 16, 17, 18, 19, 20, 21, 22, 23, 24, 25, 26, 27, 28, 29, 30, 31, 32] [(32, vB (!x8))] [] [] (an (ix_map rLoop hx6) (an (c_s_l2Side G n x6.lo x1 hx7) (an c3 (an c3 (an c3 (an (ix_map rLoop hx6) (an c3 (an c3 (an c3 (an c3 (an (c_s_l2Side G n x6.hi x1 hx8) (an c3 (an c3 trivial))))))))))))) ?_
     exact ⟨!x8, (), h, lS⟩
    ·refine rk hC [.row (rLoop x6), .v (vB x7), .b true, .b true, .b true, .b true, .b true, .b true, .b true, .b true, .b true] [15, 16, 17, 18, 19, 20, 21, 22, 23, 24, 25, 26, 27, 28, 29, 30, 31, 32] [(32, vB true)] [] [] (an (ix_map rLoop hx6) (an (c_s_l2Side G n x6.lo x1 hx7) (an c3 (an c3 (an c3 (an c3 (an c3 (an c3 (an c3 (an c3 (an c3 trivial))))))))))) ?_
     exact ⟨true, (), h, lS⟩
   ·rintro x9 ⟨⟩ h
    subst hj5
    refine vci (b := x9) h (fun c4 h => ?_) (fun c4 h => ?_)
    ·refine rq hC [] [2] [(2, vB false)] [] [] trivial ?_
     refine vwp_ret ?_
     obtain rfl := so h
     exact eR
    ·refine vwp_skip ?_
     refine rk hC [] [3, 13, 14] [(3, vI (wr (x1 + 1)))] [] [] trivial ?_
     exact ⟨wr (x1 + 1), (), h, lS⟩
  ·refine vwp_exit ?_
   refine rq hC [.nat nest.length] [2, 33, 34, 35] [(2, vB (decide ((nest.length : Int) ≤ 4)))] [] [] (an (lenM rLoop nest) trivial) ?_
   refine vwp_ret ?_
   obtain rfl := so h
   exact eR
theorem c_s_l2Work (G : GS) : ∀ (n : Nat) (nest : List Loop) (p : List Int) (most : Int) {r : Int} (h : s_l2Work n nest p most = some r), PCC Tryz.prog G.g 191 [vM rLoop nest, vM rI p, vI most] (vI r) := by
 intro n
 induction n with
 | zero => intro nest p most r h; rw [s_l2Work.eq_def] at h; cases h
 | succ n ih =>
  intro nest p most r h
  rw [s_l2Work.eq_def] at h; dsimp only at h
  refine pmr tyOK Tryz.func191 rfl rfl rfl rfl rfl rfl rfl ?_
  intro w X hC
  refine rq hC [] [6] [] [] [] trivial ?_
  refine rq hC [] [7] [(7, vI 1)] [] [] trivial ?_
  refine vwp_seq ?_
  refine rq hC [.nat p.length, .nat nest.length] [11, 12, 13, 14, 15] [(15, vB (decide ((p.length : Int) = (nest.length : Int))))] [] [] (an (lenM rI p) (an (lenM rLoop nest) trivial)) ?_
  refine vci (b := decide ((p.length : Int) = (nest.length : Int))) h (fun c1 h => ?_) (fun c1 h => ?_)
  ·refine rq hC [] [6, 16] [(6, vI 1)] [] [] trivial ?_
   refine vwp_ret ?_
   obtain rfl := so h
   exact eR
  ·refine vwp_skip ?_
   obtain ⟨x1, hx1, h⟩ := bd h
   obtain ⟨x2, hx2, h⟩ := bd h
   refine rq hC [.nat p.length, .row (rLoop x1), .v (V.tup [vI x2.1, vI x2.2])] [8, 9, 17, 18, 19, 20, 21, 22, 23, 24, 25, 26] [(8, vI x2.1), (9, vI x2.2)] [] [] (an (lenM rI p) (an (ix_map rLoop hx1) (an (c_s_l2Range G n x1 p hx2) trivial))) ?_
   refine vwp_seq ?_
   refine rq hC [] [10, 27] [(10, vI x2.1)] [] [] trivial ?_
   refine vwp_block ?_
   refine vwp_lm (γ := Unit) h (fun (x_ : Int × Int) (g_ : Unit) => mkS [(0, vM rLoop nest), (1, vM rI p), (2, vI most), (7, vI x_.1), (9, vI x2.2), (10, vI x_.2)] [] []) () (lS) ?_
   rintro again5 ⟨x3, x4⟩ ⟨⟩ h
   refine vwp_seq ?_
   obtain ⟨j6, hj6, h⟩ := jn_e h
   refine vwp_jm (γ := Unit) (j := j6) (r := r) (fun (x_ : Bool) (g_ : Unit) => mkS [(0, vM rLoop nest), (1, vM rI p), (2, vI most), (7, vI x3), (9, vI x2.2), (10, vI x4), (35, vB x_)] [] []) ?_ ?_
   ·
    refine splI h (fun c2 h => ?_) (fun c2 h => ?_)
    ·refine rk hC [.b false, .b false, .b false, .b false] [28, 29, 30, 31, 32, 33, 34, 35] [(35, vB false)] [] [] (an c2 (an c2 (an c2 (an c2 trivial)))) ?_
     exact ⟨false, (), h, lS⟩
    ·refine rk hC [.b true, .b true, .b true, .b true] [28, 29, 30, 31, 32, 33, 34, 35] [(35, vB (decide (x3 ≤ most)))] [] [] (an c2 (an c2 (an c2 (an c2 trivial)))) ?_
     exact ⟨decide (x3 ≤ most), (), h, lS⟩
   ·rintro x7 ⟨⟩ h
    subst hj6
    refine vci (b := x7) h (fun c3 h => ?_) (fun c3 h => ?_)
    ·refine vwp_skip ?_
     refine vwp_seq ?_
     refine vwp_block ?_
     obtain ⟨x8, hx8, h⟩ := bd h
     obtain ⟨x9, hx9, h⟩ := bd h
     obtain ⟨x10, hx10, h⟩ := bd h
     refine rk hC [.nat 20, .rows (List.map rI x8), .int 0, .rows (List.map rI x9), .b true, .v (vI x10)] [7, 38, 39, 40, 41, 42, 43, 44, 45, 46, 47, 48, 49, 50] [(7, vI (wr (x3 + x10)))] [(20, some (ar 3 3 1 rI x9))] [(20, true)] (an (app_map rI hx8) (an (rwM (r := rI) 1 (fun _ => rfl) []) (an (rwM (r := rI) 1 (fun _ => rfl) p) (an (app_map rI hx9) (an (rwM (r := rI) 1 (fun _ => rfl) x8) (an (rwM (r := rI) 1 (fun _ => rfl) [x4]) (an (ih nest x9 (wr (most - x3)) hx10) trivial))))))) ?_
     refine rk hC [] [10, 36, 37] [(10, vI (wr (x4 + 1)))] [] [] trivial ?_
     exact ⟨(wr (x3 + x10), wr (x4 + 1)), (), h, lS⟩
    ·refine vwp_exit ?_
     refine rq hC [] [6, 51] [(6, vI x3)] [] [] trivial ?_
     refine vwp_ret ?_
     obtain rfl := so h
     exact eR
theorem c_s_NestPoints (G : GS) (n : Nat) (nest : List Loop) {r : (List (List Int)) × Bool} (h : s_NestPoints n nest = some r) : VCC Tryz.prog G.g 155 [] [vM rLoop nest] (V.tup [ms 0 1 1 (rL rI) r.1, vB r.2]) [ar 40 1 1 (rL rI) r.1] := by
 unfold s_NestPoints at h
 refine vmr tyOK Tryz.func155 rfl rfl rfl rfl rfl rfl rfl rfl ?_
 intro w X β0 hC hg
 refine rq hC [] [2, 3] [] [] [] trivial ?_
 refine vwp_seq ?_
 obtain ⟨j1, hj1, h⟩ := jn_e h
 refine vwp_jm (γ := Unit) (j := j1) (r := r) (fun (x_ : Bool) (g_ : Unit) => mkS [(0, vM rLoop nest), (12, vB x_)] [] []) ?_ ?_
 ·
  obtain ⟨x2, hx2, h⟩ := bd h
  refine splI h (fun c1 h => ?_) (fun c1 h => ?_)
  ·obtain ⟨x3, hx3, h⟩ := bd h
   refine rk hC [.v (vB x2), .b false, .b false, .v (vI x3), .b false, .b false] [5, 6, 7, 8, 9, 10, 11, 12] [(12, vB (decide ((1200 : Int) < x3)))] [] [] (an (c_s_NestValid G n nest hx2) (an c1 (an c1 (an (c_s_l2Work G n nest [] 1200 hx3) (an c1 (an c1 trivial)))))) ?_
   exact ⟨decide ((1200 : Int) < x3), (), h, lS⟩
  ·refine rk hC [.v (vB x2), .b true, .b true, .b true, .b true] [5, 6, 7, 8, 9, 10, 11, 12] [(12, vB true)] [] [] (an (c_s_NestValid G n nest hx2) (an c1 (an c1 (an c1 (an c1 trivial))))) ?_
   exact ⟨true, (), h, lS⟩
 ·rintro x4 ⟨⟩ h
  subst hj1
  refine vci (b := x4) h (fun c2 h => ?_) (fun c2 h => ?_)
  ·refine rq hC [.nat 20] [2, 3, 13] [(2, ms 20 1 1 (rL rI) []), (3, vB false)] [(20, some (ar 40 1 1 (rL rI) []))] [(20, true)] trivial ?_
   refine vwp_weaken (lk hC [.ren 2 20 0] [2] [(2, ms 0 1 1 (rL rI) [])] [(0, some (ar 40 1 1 (rL rI) [])), (20, none)] [(0, true)]) ?_
   refine vwp_ret ?_
   obtain rfl := so h
   exact eW
  ·refine vwp_skip ?_
   obtain ⟨x5, hx5, h⟩ := bd h
   refine rq hC [.nat 20, .vc [20] [] (ms 0 2 1 (rL rI) x5) [ar 40 2 1 (rL rI) x5]] [4, 14, 15, 16] [(4, ms 20 2 1 (rL rI) x5)] [(20, some (ar 40 2 1 (rL rI) x5))] [(20, true), (20, true)] (an (c_s_l2Points G n [] 1 nest [] hx5) trivial) ?_
   refine vwp_seq ?_
   refine rq hC [.nat x5.length] [17, 18, 19] [(19, vB (decide ((120 : Int) < (x5.length : Int))))] [] [] (an (lenM (rL rI) x5) trivial) ?_
   refine vci (b := decide ((120 : Int) < (x5.length : Int))) h (fun c3 h => ?_) (fun c3 h => ?_)
   ·refine rq hC [.nat 21] [2, 3, 20] [(2, ms 21 1 1 (rL rI) []), (3, vB false)] [(21, some (ar 40 1 1 (rL rI) []))] [(21, true)] trivial ?_
    refine vwp_weaken (lk hC [.ren 2 21 0] [2] [(2, ms 0 1 1 (rL rI) [])] [(0, some (ar 40 1 1 (rL rI) [])), (21, none)] [(0, true)]) ?_
    refine vwp_ret ?_
    obtain rfl := so h
    exact eW
   ·refine vwp_skip ?_
    refine rq hC [] [2, 3, 21] [(2, ms 20 2 1 (rL rI) x5), (3, vB true)] [] [] trivial ?_
    refine vwp_weaken (lk hC [.ren 2 20 0] [2] [(2, ms 0 1 1 (rL rI) x5)] [(0, some (ar 40 1 1 (rL rI) x5)), (20, none)] [(0, true)]) ?_
    refine vwp_ret ?_
    obtain rfl := so h
    exact eW
theorem c_s_l3Access (G : GS) (n : Nat) (a : Access) (depth : Int) {r : Bool} (h : s_l3Access n a depth = some r) : PCC Tryz.prog G.g 192 [V.agg [vS a.array, vM rAffine a.subs], vI depth] (vB r) := by
 unfold s_l3Access at h
 refine pmr tyOK Tryz.func192 rfl rfl rfl rfl rfl rfl rfl ?_
 intro w X hC
 refine rq hC [.b true] [2, 4] [(2, V.tp [T.str a.array, T.sl (List.map rAffine a.subs)])] [] [] trivial ?_
 refine vwp_seq ?_
 refine rq hC [] [5] [(5, vI 0)] [] [] trivial ?_
 refine vwp_block ?_
 refine vwp_lm (γ := Unit) h (fun (x_ : Int) (g_ : Unit) => mkS [(1, vI depth), (2, V.tp [T.str a.array, T.sl (List.map rAffine a.subs)]), (5, vI x_)] [] []) () (lS) ?_
 rintro again2 x1 ⟨⟩ h
 refine vwp_seq ?_
 refine rq hC [.nat a.subs.length] [6, 7, 8, 9, 10] [(10, vB (decide (x1 < (a.subs.length : Int))))] [] [] (an (lenM rAffine a.subs) trivial) ?_
 refine vci (b := decide (x1 < (a.subs.length : Int))) h (fun c1 h => ?_) (fun c1 h => ?_)
 ·refine vwp_skip ?_
  refine vwp_seq ?_
  refine vwp_block ?_
  obtain ⟨j3, hj3, h⟩ := jn_e h
  refine vwp_jm (γ := Unit) (j := j3) (r := r) (fun (x_ : Bool) (g_ : Unit) => mkS [(1, vI depth), (2, V.tp [T.str a.array, T.sl (List.map rAffine a.subs)]), (5, vI x1), (29, vB x_)] [] []) ?_ ?_
  ·
   obtain ⟨x4, hx4, h⟩ := bd h
   obtain ⟨x5, hx5, h⟩ := bd h
   refine splI h (fun c2 h => ?_) (fun c2 h => ?_)
   ·obtain ⟨x6, hx6, h⟩ := bd h
    refine rk hC [.row (rAffine x4), .v (vB x5), .b false, .b false, .b false, .b false, .row (rAffine x4), .b false, .b false, .v (vI x6), .b false, .b false, .b false] [13, 14, 15, 16, 17, 18, 19, 20, 21, 22, 23, 24, 25, 26, 27, 28, 29] [(29, vB (decide (depth < x6)))] [] [] (an (ix_map rAffine hx4) (an (c_s_AffineValid G n x4 hx5) (an c2 (an c2 (an c2 (an c2 (an (ix_map rAffine hx4) (an c2 (an c2 (an (c_s_l1Depth G n x4 hx6) (an c2 (an c2 (an c2 trivial))))))))))))) ?_
    exact ⟨decide (depth < x6), (), h, lS⟩
   ·refine rk hC [.row (rAffine x4), .v (vB x5), .b true, .b true, .b true, .b true, .b true, .b true, .b true, .b true, .b true] [13, 14, 15, 16, 17, 18, 19, 20, 21, 22, 23, 24, 25, 26, 27, 28, 29] [(29, vB true)] [] [] (an (ix_map rAffine hx4) (an (c_s_AffineValid G n x4 hx5) (an c2 (an c2 (an c2 (an c2 (an c2 (an c2 (an c2 (an c2 (an c2 trivial))))))))))) ?_
    exact ⟨true, (), h, lS⟩
  ·rintro x7 ⟨⟩ h
   subst hj3
   refine vci (b := x7) h (fun c3 h => ?_) (fun c3 h => ?_)
   ·refine rq hC [] [4] [(4, vB false)] [] [] trivial ?_
    refine vwp_ret ?_
    obtain rfl := so h
    exact eR
   ·refine vwp_skip ?_
    refine rk hC [] [5, 11, 12] [(5, vI (wr (x1 + 1)))] [] [] trivial ?_
    exact ⟨wr (x1 + 1), (), h, lS⟩
 ·refine vwp_exit ?_
  obtain ⟨j8, hj8, h⟩ := jn_e h
  refine vwp_jm (γ := Unit) (j := j8) (r := r) (fun (x_ : Bool) (g_ : Unit) => mkS [(4, vB x_)] [] []) ?_ ?_
  ·
   refine splI h (fun c4 h => ?_) (fun c4 h => ?_)
   ·refine rk hC [.b false, .b false, .b false, .b false, .b false, .b false, .b false, .b false, .b false, .b false, .b false, .b false, .b false, .b false, .b false, .b false, .b false, .b false] [4, 30, 31, 32, 33, 34, 35, 36, 37, 38, 39, 40, 41, 42, 43, 44, 45, 46, 47, 48, 49, 50, 51, 52, 53, 54, 55] [(4, vB false)] [] [] (an c4 (an c4 (an c4 (an c4 (an (Eq.refl false) (an (Eq.refl false) (an (Eq.refl false) (an (Eq.refl false) (an (Eq.refl false) (an (Eq.refl false) (an (Eq.refl false) (an (Eq.refl false) (an (Eq.refl false) (an (Eq.refl false) (an (Eq.refl false) (an (Eq.refl false) (an (Eq.refl false) (an (Eq.refl false) trivial)))))))))))))))))) ?_
    exact ⟨false, (), h, lS⟩
   ·refine splI h (fun c5 h => ?_) (fun c5 h => ?_)
    ·refine rk hC [.b true, .b true, .b true, .b true, .b false, .b false, .b false, .b false, .b false, .b false, .b false, .b false, .b false, .b false, .b false, .b false, .b false, .b false] [4, 30, 31, 32, 33, 34, 35, 36, 37, 38, 39, 40, 41, 42, 43, 44, 45, 46, 47, 48, 49, 50, 51, 52, 53, 54, 55] [(4, vB false)] [] [] (an c4 (an c4 (an c4 (an c4 (an c5 (an c5 (an c5 (an c5 (an (Eq.refl false) (an (Eq.refl false) (an (Eq.refl false) (an (Eq.refl false) (an (Eq.refl false) (an (Eq.refl false) (an (Eq.refl false) (an (Eq.refl false) (an (Eq.refl false) (an (Eq.refl false) trivial)))))))))))))))))) ?_
     exact ⟨false, (), h, lS⟩
    ·refine splI h (fun c6 h => ?_) (fun c6 h => ?_)
     ·refine rk hC [.b true, .b true, .b true, .b true, .b true, .b true, .b true, .b true, .b false, .b false, .b false, .b false, .b false, .b false, .b false, .b false, .b false, .b false] [4, 30, 31, 32, 33, 34, 35, 36, 37, 38, 39, 40, 41, 42, 43, 44, 45, 46, 47, 48, 49, 50, 51, 52, 53, 54, 55] [(4, vB false)] [] [] (an c4 (an c4 (an c4 (an c4 (an c5 (an c5 (an c5 (an c5 (an c6 (an c6 (an c6 (an c6 (an c6 (an (Eq.refl false) (an (Eq.refl false) (an (Eq.refl false) (an (Eq.refl false) (an (Eq.refl false) trivial)))))))))))))))))) ?_
      exact ⟨false, (), h, lS⟩
     ·refine splI h (fun c7 h => ?_) (fun c7 h => ?_)
      ·refine rk hC [.b true, .b true, .b true, .b true, .b true, .b true, .b true, .b true, .b true, .b true, .b true, .nat a.subs.length, .b true, .b true, .b false, .b false, .b false, .b false, .b false] [4, 30, 31, 32, 33, 34, 35, 36, 37, 38, 39, 40, 41, 42, 43, 44, 45, 46, 47, 48, 49, 50, 51, 52, 53, 54, 55] [(4, vB false)] [] [] (an c4 (an c4 (an c4 (an c4 (an c5 (an c5 (an c5 (an c5 (an c6 (an c6 (an c6 (an (lenM rAffine a.subs) (an c6 (an c6 (an c7 (an c7 (an c7 (an c7 (an c7 trivial))))))))))))))))))) ?_
       exact ⟨false, (), h, lS⟩
      ·refine rk hC [.b true, .b true, .b true, .b true, .b true, .b true, .b true, .b true, .b true, .b true, .b true, .nat a.subs.length, .b true, .b true, .b true, .b true, .b true, .nat a.subs.length, .b true, .b true] [4, 30, 31, 32, 33, 34, 35, 36, 37, 38, 39, 40, 41, 42, 43, 44, 45, 46, 47, 48, 49, 50, 51, 52, 53, 54, 55] [(4, vB (decide ((a.subs.length : Int) ≤ 2)))] [] [] (an c4 (an c4 (an c4 (an c4 (an c5 (an c5 (an c5 (an c5 (an c6 (an c6 (an c6 (an (lenM rAffine a.subs) (an c6 (an c6 (an c7 (an c7 (an c7 (an (lenM rAffine a.subs) (an c7 (an c7 trivial)))))))))))))))))))) ?_
       exact ⟨decide ((a.subs.length : Int) ≤ 2), (), h, lS⟩
  ·rintro x9 ⟨⟩ h
   subst hj8
   refine vwp_ret ?_
   obtain rfl := so h
   exact eR
theorem c_s_l3Kids (G : GS) (n : Nat) (kind : Int) {r : Int} (h : s_l3Kids n kind = some r) : PCC Tryz.prog G.g 224 [vI kind] (vI r) := by
 unfold s_l3Kids at h
 refine pmr tyOK Tryz.func224 rfl rfl rfl rfl rfl rfl rfl ?_
 intro w X hC
 refine rq hC [] [2] [] [] [] trivial ?_
 refine vwp_seq ?_
 refine rq hC [] [3] [(3, vI kind)] [] [] trivial ?_
 refine vwp_block ?_
 obtain ⟨j1, hj1, h⟩ := jn_e h
 refine vwp_jm (γ := Unit) (j := j1) (r := r) (fun (x_ : Bool) (g_ : Unit) => mkS [(3, vI kind), (4, vB x_)] [] []) ?_ ?_
 ·
  refine rq hC [] [4, 5] [(4, vB (decide (kind = 1)))] [] [] trivial ?_
  refine vci (b := decide (kind = 1)) h (fun c1 h => ?_) (fun c1 h => ?_)
  ·refine vwp_skip ?_
   exact ⟨decide (kind = 1), (), h, lS⟩
  ·refine rq hC [] [4, 6] [(4, vB (decide (kind = 2)))] [] [] trivial ?_
   refine vci (b := decide (kind = 2)) h (fun c2 h => ?_) (fun c2 h => ?_)
   ·refine vwp_skip ?_
    exact ⟨decide (kind = 2), (), h, lS⟩
   ·refine rk hC [] [4, 7] [(4, vB (decide (kind = 3)))] [] [] trivial ?_
    exact ⟨decide (kind = 3), (), h, lS⟩
 ·rintro x2 ⟨⟩ h
  subst hj1
  refine vci (b := x2) h (fun c3 h => ?_) (fun c3 h => ?_)
  ·refine rq hC [] [2] [(2, vI 0)] [] [] trivial ?_
   refine vwp_ret ?_
   obtain rfl := so h
   exact eR
  ·obtain ⟨j3, hj3, h⟩ := jn_e h
   refine vwp_jm (γ := Unit) (j := j3) (r := r) (fun (x_ : Bool) (g_ : Unit) => mkS [(8, vB x_)] [] []) ?_ ?_
   ·
    refine rq hC [] [8, 9] [(8, vB (decide (kind = 4)))] [] [] trivial ?_
    refine vci (b := decide (kind = 4)) h (fun c4 h => ?_) (fun c4 h => ?_)
    ·refine vwp_skip ?_
     exact ⟨decide (kind = 4), (), h, lS⟩
    ·refine rq hC [] [8, 10] [(8, vB (decide (kind = 5)))] [] [] trivial ?_
     refine vci (b := decide (kind = 5)) h (fun c5 h => ?_) (fun c5 h => ?_)
     ·refine vwp_skip ?_
      exact ⟨decide (kind = 5), (), h, lS⟩
     ·refine rk hC [] [8, 11] [(8, vB (decide (kind = 6)))] [] [] trivial ?_
      exact ⟨decide (kind = 6), (), h, lS⟩
   ·rintro x4 ⟨⟩ h
    subst hj3
    refine vci (b := x4) h (fun c6 h => ?_) (fun c6 h => ?_)
    ·refine rq hC [] [2] [(2, vI 2)] [] [] trivial ?_
     refine vwp_ret ?_
     obtain rfl := so h
     exact eR
    ·refine vwp_skip ?_
     refine rq hC [] [2] [(2, vI (-1))] [] [] trivial ?_
     refine vwp_ret ?_
     obtain rfl := so h
     exact eR
theorem c_s_l3Empty (G : GS) (n : Nat) (a : Access) {r : Bool} (h : s_l3Empty n a = some r) : PCC Tryz.prog G.g 248 [V.agg [vS a.array, vM rAffine a.subs]] (vB r) := by
 unfold s_l3Empty at h
 refine pmr tyOK Tryz.func248 rfl rfl rfl rfl rfl rfl rfl ?_
 intro w X hC
 refine rq hC [.b true] [1, 2] [(1, V.tp [T.str a.array, T.sl (List.map rAffine a.subs)])] [] [] trivial ?_
 obtain ⟨j1, hj1, h⟩ := jn_e h
 refine vwp_jm (γ := Unit) (j := j1) (r := r) (fun (x_ : Bool) (g_ : Unit) => mkS [(2, vB x_)] [] []) ?_ ?_
 ·
  refine splI h (fun c1 h => ?_) (fun c1 h => ?_)
  ·refine rk hC [.b false, .b false, .b false, .b false, .b false] [2, 3, 4, 5, 6, 7, 8, 9, 10, 11] [(2, vB false)] [] [] (an c1 (an c1 (an c1 (an c1 (an c1 trivial))))) ?_
   exact ⟨false, (), h, lS⟩
  ·refine rk hC [.b true, .b true, .b true, .nat a.subs.length, .b true, .b true] [2, 3, 4, 5, 6, 7, 8, 9, 10, 11] [(2, vB (decide ((a.subs.length : Int) = 0)))] [] [] (an c1 (an c1 (an c1 (an (lenM rAffine a.subs) (an c1 (an c1 trivial)))))) ?_
   exact ⟨decide ((a.subs.length : Int) = 0), (), h, lS⟩
 ·rintro x2 ⟨⟩ h
  subst hj1
  refine vwp_ret ?_
  obtain rfl := so h
  exact eR
theorem c_s_l3None (G : GS) (n : Nat) (a : Affine) {r : Bool} (h : s_l3None n a = some r) : PCC Tryz.prog G.g 249 [V.agg [vM rI a.coefs, vI a.const]] (vB r) := by
 unfold s_l3None at h
 refine pmr tyOK Tryz.func249 rfl rfl rfl rfl rfl rfl rfl ?_
 intro w X hC
 refine rq hC [.b true] [1, 2] [(1, V.tp [T.sl (List.map rI a.coefs), T.int .i64 a.const])] [] [] trivial ?_
 obtain ⟨j1, hj1, h⟩ := jn_e h
 refine vwp_jm (γ := Unit) (j := j1) (r := r) (fun (x_ : Bool) (g_ : Unit) => mkS [(2, vB x_)] [] []) ?_ ?_
 ·
  refine splI h (fun c1 h => ?_) (fun c1 h => ?_)
  ·refine rk hC [.nat a.coefs.length, .b false, .b false, .b false, .b false] [2, 3, 4, 5, 6, 7, 8, 9, 10, 11] [(2, vB false)] [] [] (an (lenM rI a.coefs) (an c1 (an c1 (an c1 (an c1 trivial))))) ?_
   exact ⟨false, (), h, lS⟩
  ·refine rk hC [.nat a.coefs.length, .b true, .b true, .b true, .b true] [2, 3, 4, 5, 6, 7, 8, 9, 10, 11] [(2, vB (decide (a.const = 0)))] [] [] (an (lenM rI a.coefs) (an c1 (an c1 (an c1 (an c1 trivial))))) ?_
   exact ⟨decide (a.const = 0), (), h, lS⟩
 ·rintro x2 ⟨⟩ h
  subst hj1
  refine vwp_ret ?_
  obtain rfl := so h
  exact eR
theorem c_s_l3Own (G : GS) (n : Nat) (e : Expr) (depth : Int) {r : Bool} (h : s_l3Own n e depth = some r) : PCC Tryz.prog G.g 225 [V.agg [vI e.kind, vI e.num, vM rI e.index.coefs, vI e.index.const, vS e.read.array, vM rAffine e.read.subs, vM rExpr e.kids], vI depth] (vB r) := by
 unfold s_l3Own at h
 refine pmr tyOK Tryz.func225 rfl rfl rfl rfl rfl rfl rfl ?_
 intro w X hC
 refine rq hC [.b true] [2, 4] [(2, V.tp [T.int .i64 e.kind, T.int .i64 e.num, T.sl (List.map rI e.index.coefs), T.int .i64 e.index.const, T.str e.read.array, T.sl (List.map rAffine e.read.subs), T.sl (List.map rExpr e.kids)])] [] [] trivial ?_
 refine vwp_seq ?_
 refine rq hC [] [5, 6, 7] [(7, vB (decide (e.kind = 2)))] [] [] trivial ?_
 refine vci (b := decide (e.kind = 2)) h (fun c1 h => ?_) (fun c1 h => ?_)
 ·obtain ⟨j1, hj1, h⟩ := jn_e h
  refine vwp_jm (γ := Unit) (j := j1) (r := r) (fun (x_ : Bool) (g_ : Unit) => mkS [(4, vB x_)] [] []) ?_ ?_
  ·
   refine splI h (fun c2 h => ?_) (fun c2 h => ?_)
   ·refine rk hC [.b false, .b false, .b false, .b false, .b false, .b false, .b false, .b false, .b false, .b false, .b false, .b false, .b false, .b false] [4, 8, 9, 10, 11, 12, 13, 14, 15, 16, 17, 18, 19, 20, 21, 22, 23, 24, 25, 26, 27] [(4, vB false)] [] [] (an c2 (an c2 (an c2 (an c2 (an (Eq.refl false) (an (Eq.refl false) (an (Eq.refl false) (an (Eq.refl false) (an (Eq.refl false) (an (Eq.refl false) (an (Eq.refl false) (an (Eq.refl false) (an (Eq.refl false) (an (Eq.refl false) trivial)))))))))))))) ?_
    exact ⟨false, (), h, lS⟩
   ·obtain ⟨x2, hx2, h⟩ := bd h
    refine splI h (fun c3 h => ?_) (fun c3 h => ?_)
    ·refine rk hC [.b true, .b true, .b true, .v (vB x2), .b true, .b false, .b false, .b false, .b false, .b false, .b false, .b false, .b false, .b false, .b false] [4, 8, 9, 10, 11, 12, 13, 14, 15, 16, 17, 18, 19, 20, 21, 22, 23, 24, 25, 26, 27] [(4, vB false)] [] [] (an c2 (an c2 (an c2 (an (c_s_l3Empty G n e.read hx2) (an c2 (an c3 (an c3 (an c3 (an c3 (an (Eq.refl false) (an (Eq.refl false) (an (Eq.refl false) (an (Eq.refl false) (an (Eq.refl false) (an (Eq.refl false) trivial))))))))))))))) ?_
     exact ⟨false, (), h, lS⟩
    ·obtain ⟨x3, hx3, h⟩ := bd h
     refine splI h (fun c4 h => ?_) (fun c4 h => ?_)
     ·refine rk hC [.b true, .b true, .b true, .v (vB x2), .b true, .b true, .b true, .b true, .v (vB x3), .b true, .b false, .b false, .b false, .b false, .b false, .b false] [4, 8, 9, 10, 11, 12, 13, 14, 15, 16, 17, 18, 19, 20, 21, 22, 23, 24, 25, 26, 27] [(4, vB false)] [] [] (an c2 (an c2 (an c2 (an (c_s_l3Empty G n e.read hx2) (an c2 (an c3 (an c3 (an c3 (an (c_s_AffineValid G n e.index hx3) (an c3 (an c4 (an c4 (an c4 (an c4 (an c4 (an c4 trivial)))))))))))))))) ?_
      exact ⟨false, (), h, lS⟩
     ·obtain ⟨x4, hx4, h⟩ := bd h
      refine rk hC [.b true, .b true, .b true, .v (vB x2), .b true, .b true, .b true, .b true, .v (vB x3), .b true, .b true, .b true, .b true, .v (vI x4), .b true, .b true, .b true] [4, 8, 9, 10, 11, 12, 13, 14, 15, 16, 17, 18, 19, 20, 21, 22, 23, 24, 25, 26, 27] [(4, vB (decide (x4 ≤ depth)))] [] [] (an c2 (an c2 (an c2 (an (c_s_l3Empty G n e.read hx2) (an c2 (an c3 (an c3 (an c3 (an (c_s_AffineValid G n e.index hx3) (an c3 (an c4 (an c4 (an c4 (an (c_s_l1Depth G n e.index hx4) (an c4 (an c4 (an c4 trivial))))))))))))))))) ?_
      exact ⟨decide (x4 ≤ depth), (), h, lS⟩
  ·rintro x5 ⟨⟩ h
   subst hj1
   refine vwp_ret ?_
   obtain rfl := so h
   exact eR
 ·refine vwp_skip ?_
  refine vwp_seq ?_
  refine rq hC [] [28, 29, 30] [(30, vB (decide (e.kind = 3)))] [] [] trivial ?_
  refine vci (b := decide (e.kind = 3)) h (fun c5 h => ?_) (fun c5 h => ?_)
  ·obtain ⟨j6, hj6, h⟩ := jn_e h
   refine vwp_jm (γ := Unit) (j := j6) (r := r) (fun (x_ : Bool) (g_ : Unit) => mkS [(4, vB x_)] [] []) ?_ ?_
   ·
    refine splI h (fun c6 h => ?_) (fun c6 h => ?_)
    ·refine rk hC [.b false, .b false, .b false, .b false, .b false, .b false, .b false, .b false, .b false] [4, 31, 32, 33, 34, 35, 36, 37, 38, 39, 40, 41, 42, 43, 44] [(4, vB false)] [] [] (an c6 (an c6 (an c6 (an c6 (an (Eq.refl false) (an (Eq.refl false) (an (Eq.refl false) (an (Eq.refl false) (an (Eq.refl false) trivial))))))))) ?_
     exact ⟨false, (), h, lS⟩
    ·obtain ⟨x7, hx7, h⟩ := bd h
     refine splI h (fun c7 h => ?_) (fun c7 h => ?_)
     ·refine rk hC [.b true, .b true, .b true, .v (vB x7), .b true, .b false, .b false, .b false, .b false, .b false] [4, 31, 32, 33, 34, 35, 36, 37, 38, 39, 40, 41, 42, 43, 44] [(4, vB false)] [] [] (an c6 (an c6 (an c6 (an (c_s_l3None G n e.index hx7) (an c6 (an c7 (an c7 (an c7 (an c7 (an c7 trivial)))))))))) ?_
      exact ⟨false, (), h, lS⟩
     ·obtain ⟨x8, hx8, h⟩ := bd h
      refine rk hC [.b true, .b true, .b true, .v (vB x7), .b true, .b true, .b true, .b true, .b true, .v (vB x8), .b true] [4, 31, 32, 33, 34, 35, 36, 37, 38, 39, 40, 41, 42, 43, 44] [(4, vB x8)] [] [] (an c6 (an c6 (an c6 (an (c_s_l3None G n e.index hx7) (an c6 (an c7 (an c7 (an c7 (an c7 (an (c_s_l3Access G n e.read depth hx8) (an c7 trivial))))))))))) ?_
      exact ⟨x8, (), h, lS⟩
   ·rintro x9 ⟨⟩ h
    subst hj6
    refine vwp_ret ?_
    obtain rfl := so h
    exact eR
  ·refine vwp_skip ?_
   refine vwp_seq ?_
   refine rq hC [] [45, 46, 47] [(47, vB (decide (e.kind = 1)))] [] [] trivial ?_
   refine vci (b := decide (e.kind = 1)) h (fun c8 h => ?_) (fun c8 h => ?_)
   ·obtain ⟨j10, hj10, h⟩ := jn_e h
    refine vwp_jm (γ := Unit) (j := j10) (r := r) (fun (x_ : Bool) (g_ : Unit) => mkS [(4, vB x_)] [] []) ?_ ?_
    ·
     refine splI h (fun c9 h => ?_) (fun c9 h => ?_)
     ·refine rk hC [.b false, .b false, .b false, .b false, .b false, .b false, .b false, .b false, .b false, .b false, .b false, .b false] [4, 48, 49, 50, 51, 52, 53, 54, 55, 56, 57, 58, 59, 60, 61, 62, 63, 64, 65] [(4, vB false)] [] [] (an c9 (an c9 (an c9 (an c9 (an (Eq.refl false) (an (Eq.refl false) (an (Eq.refl false) (an (Eq.refl false) (an (Eq.refl false) (an (Eq.refl false) (an (Eq.refl false) (an (Eq.refl false) trivial)))))))))))) ?_
      exact ⟨false, (), h, lS⟩
     ·refine splI h (fun c10 h => ?_) (fun c10 h => ?_)
      ·refine rk hC [.b true, .b true, .b true, .b true, .b false, .b false, .b false, .b false, .b false, .b false, .b false, .b false] [4, 48, 49, 50, 51, 52, 53, 54, 55, 56, 57, 58, 59, 60, 61, 62, 63, 64, 65] [(4, vB false)] [] [] (an c9 (an c9 (an c9 (an c9 (an c10 (an c10 (an c10 (an c10 (an (Eq.refl false) (an (Eq.refl false) (an (Eq.refl false) (an (Eq.refl false) trivial)))))))))))) ?_
       exact ⟨false, (), h, lS⟩
      ·obtain ⟨x11, hx11, h⟩ := bd h
       refine splI h (fun c11 h => ?_) (fun c11 h => ?_)
       ·refine rk hC [.b true, .b true, .b true, .b true, .b true, .b true, .b true, .v (vB x11), .b true, .b false, .b false, .b false, .b false] [4, 48, 49, 50, 51, 52, 53, 54, 55, 56, 57, 58, 59, 60, 61, 62, 63, 64, 65] [(4, vB false)] [] [] (an c9 (an c9 (an c9 (an c9 (an c10 (an c10 (an c10 (an (c_s_l3None G n e.index hx11) (an c10 (an c11 (an c11 (an c11 (an c11 trivial))))))))))))) ?_
        exact ⟨false, (), h, lS⟩
       ·obtain ⟨x12, hx12, h⟩ := bd h
        refine rk hC [.b true, .b true, .b true, .b true, .b true, .b true, .b true, .v (vB x11), .b true, .b true, .b true, .b true, .v (vB x12), .b true] [4, 48, 49, 50, 51, 52, 53, 54, 55, 56, 57, 58, 59, 60, 61, 62, 63, 64, 65] [(4, vB x12)] [] [] (an c9 (an c9 (an c9 (an c9 (an c10 (an c10 (an c10 (an (c_s_l3None G n e.index hx11) (an c10 (an c11 (an c11 (an c11 (an (c_s_l3Empty G n e.read hx12) (an c11 trivial)))))))))))))) ?_
        exact ⟨x12, (), h, lS⟩
    ·rintro x13 ⟨⟩ h
     subst hj10
     refine vwp_ret ?_
     obtain rfl := so h
     exact eR
   ·refine vwp_skip ?_
    obtain ⟨j14, hj14, h⟩ := jn_e h
    refine vwp_jm (γ := Unit) (j := j14) (r := r) (fun (x_ : Bool) (g_ : Unit) => mkS [(4, vB x_)] [] []) ?_ ?_
    ·
     refine splI h (fun c12 h => ?_) (fun c12 h => ?_)
     ·refine rk hC [.b false, .b false, .b false, .b false, .b false, .b false, .b false, .b false] [4, 66, 67, 68, 69, 70, 71, 72, 73, 74, 75, 76, 77, 78] [(4, vB false)] [] [] (an c12 (an c12 (an c12 (an c12 (an (Eq.refl false) (an (Eq.refl false) (an (Eq.refl false) (an (Eq.refl false) trivial)))))))) ?_
      exact ⟨false, (), h, lS⟩
     ·obtain ⟨x15, hx15, h⟩ := bd h
      refine splI h (fun c13 h => ?_) (fun c13 h => ?_)
      ·refine rk hC [.b true, .b true, .b true, .v (vB x15), .b true, .b false, .b false, .b false, .b false] [4, 66, 67, 68, 69, 70, 71, 72, 73, 74, 75, 76, 77, 78] [(4, vB false)] [] [] (an c12 (an c12 (an c12 (an (c_s_l3None G n e.index hx15) (an c12 (an c13 (an c13 (an c13 (an c13 trivial))))))))) ?_
       exact ⟨false, (), h, lS⟩
      ·obtain ⟨x16, hx16, h⟩ := bd h
       refine rk hC [.b true, .b true, .b true, .v (vB x15), .b true, .b true, .b true, .b true, .v (vB x16), .b true] [4, 66, 67, 68, 69, 70, 71, 72, 73, 74, 75, 76, 77, 78] [(4, vB x16)] [] [] (an c12 (an c12 (an c12 (an (c_s_l3None G n e.index hx15) (an c12 (an c13 (an c13 (an c13 (an (c_s_l3Empty G n e.read hx16) (an c13 trivial)))))))))) ?_
       exact ⟨x16, (), h, lS⟩
    ·rintro x17 ⟨⟩ h
     subst hj14
     refine vwp_ret ?_
     obtain rfl := so h
     exact eR
theorem c_s_l3Shape (G : GS) : ∀ (n : Nat) (e : Expr) (depth : Int) (levels : Int) {r : Bool} (h : s_l3Shape n e depth levels = some r), PCC Tryz.prog G.g 193 [V.agg [vI e.kind, vI e.num, vM rI e.index.coefs, vI e.index.const, vS e.read.array, vM rAffine e.read.subs, vM rExpr e.kids], vI depth, vI levels] (vB r) := by
 intro n
 induction n with
 | zero => intro e depth levels r h; rw [s_l3Shape.eq_def] at h; cases h
 | succ n ih =>
  intro e depth levels r h
  rw [s_l3Shape.eq_def] at h; dsimp only at h
  refine pmr tyOK Tryz.func193 rfl rfl rfl rfl rfl rfl rfl ?_
  intro w X hC
  refine rq hC [.b true] [3, 6] [(3, V.tp [T.int .i64 e.kind, T.int .i64 e.num, T.sl (List.map rI e.index.coefs), T.int .i64 e.index.const, T.str e.read.array, T.sl (List.map rAffine e.read.subs), T.sl (List.map rExpr e.kids)])] [] [] trivial ?_
  refine vwp_seq ?_
  obtain ⟨j1, hj1, h⟩ := jn_e h
  refine vwp_jm (γ := Unit) (j := j1) (r := r) (fun (x_ : Bool) (g_ : Unit) => mkS [(1, vI depth), (2, vI levels), (3, V.tp [T.int .i64 e.kind, T.int .i64 e.num, T.sl (List.map rI e.index.coefs), T.int .i64 e.index.const, T.str e.read.array, T.sl (List.map rAffine e.read.subs), T.sl (List.map rExpr e.kids)]), (24, vB x_)] [] []) ?_ ?_
  ·
   refine splI h (fun c1 h => ?_) (fun c1 h => ?_)
   ·obtain ⟨x2, hx2, h⟩ := bd h
    refine splI h (fun c2 h => ?_) (fun c2 h => ?_)
    ·obtain ⟨x3, hx3, h⟩ := bd h
     refine dk hC hmix [.b false, .b false, .b false, .v (vI x2), .b false, .b false, .b false, .nat e.kids.length, .b false, .b false, .b false, .b false, .b false, .v (vB x3), .b false, .b false] [8, 9, 10, 11, 12, 13, 14, 15, 16, 17, 18, 19, 20, 21, 22, 23, 24] [(24, vB (!x3))] [] [] (an c1 (an c1 (an c1 (an (c_s_l3Kids G n e.kind hx2) (an c1 (an c1 (an c1 (an (lenM rExpr e.kids) (an c1 (an c1 (an c2 (an c2 (an c2 (an (c_s_l3Own G n e depth hx3) (an c2 (an c2 trivial)))))))))))))))) ?_
     exact ⟨!x3, (), h, lS⟩
    ·refine dk hC hmix [.b false, .b false, .b false, .v (vI x2), .b false, .b false, .b false, .nat e.kids.length, .b false, .b false, .b true, .b true, .b true, .b true, .b true] [8, 9, 10, 11, 12, 13, 14, 15, 16, 17, 18, 19, 20, 21, 22, 23, 24] [(24, vB true)] [] [] (an c1 (an c1 (an c1 (an (c_s_l3Kids G n e.kind hx2) (an c1 (an c1 (an c1 (an (lenM rExpr e.kids) (an c1 (an c1 (an c2 (an c2 (an c2 (an c2 (an c2 trivial))))))))))))))) ?_
     exact ⟨true, (), h, lS⟩
   ·refine dk hC hmix [.b true, .b true, .b true, .b true, .b true, .b true, .b true, .b true, .b true, .b true, .b true, .b true, .b true] [8, 9, 10, 11, 12, 13, 14, 15, 16, 17, 18, 19, 20, 21, 22, 23, 24] [(24, vB true)] [] [] (an c1 (an c1 (an c1 (an c1 (an c1 (an c1 (an c1 (an c1 (an (Eq.refl true) (an (Eq.refl true) (an (Eq.refl true) (an (Eq.refl true) (an (Eq.refl true) trivial))))))))))))) ?_
    exact ⟨true, (), h, lS⟩
  ·rintro x4 ⟨⟩ h
   subst hj1
   refine vci (b := x4) h (fun c3 h => ?_) (fun c3 h => ?_)
   ·refine rq hC [] [6] [(6, vB false)] [] [] trivial ?_
    refine vwp_ret ?_
    obtain rfl := so h
    exact eR
   ·refine vwp_skip ?_
    refine vwp_seq ?_
    refine rq hC [] [7] [(7, vI 0)] [] [] trivial ?_
    refine vwp_block ?_
    refine vwp_lm (γ := Unit) h (fun (x_ : Int) (g_ : Unit) => mkS [(1, vI depth), (2, vI levels), (3, V.tp [T.int .i64 e.kind, T.int .i64 e.num, T.sl (List.map rI e.index.coefs), T.int .i64 e.index.const, T.str e.read.array, T.sl (List.map rAffine e.read.subs), T.sl (List.map rExpr e.kids)]), (7, vI x_)] [] []) () (lS) ?_
    rintro again6 x5 ⟨⟩ h
    refine vwp_seq ?_
    refine rq hC [.nat e.kids.length] [25, 26, 27, 28, 29] [(29, vB (decide (x5 < (e.kids.length : Int))))] [] [] (an (lenM rExpr e.kids) trivial) ?_
    refine vci (b := decide (x5 < (e.kids.length : Int))) h (fun c4 h => ?_) (fun c4 h => ?_)
    ·refine vwp_skip ?_
     refine vwp_seq ?_
     refine vwp_block ?_
     obtain ⟨x7, hx7, h⟩ := bd h
     obtain ⟨x8, hx8, h⟩ := bd h
     refine rq hC [.row (rExprC x7), .v (vB x8)] [32, 33, 34, 35, 36, 37, 38, 39, 40, 41] [(41, vB (!x8))] [] [] (an (ix_mapE rExpr hx7 (rExpr_eq x7)) (an (ih x7 depth (wr (levels - 1)) hx8) trivial)) ?_
     refine vci (b := !x8) h (fun c5 h => ?_) (fun c5 h => ?_)
     ·refine rq hC [] [6] [(6, vB false)] [] [] trivial ?_
      refine vwp_ret ?_
      obtain rfl := so h
      exact eR
     ·refine vwp_skip ?_
      refine rk hC [] [7, 30, 31] [(7, vI (wr (x5 + 1)))] [] [] trivial ?_
      exact ⟨wr (x5 + 1), (), h, lS⟩
    ·refine vwp_exit ?_
     refine rq hC [] [6] [(6, vB true)] [] [] trivial ?_
     refine vwp_ret ?_
     obtain rfl := so h
     exact eR
theorem c_s_l3Count (G : GS) : ∀ (n : Nat) (e : Expr) (levels : Int) {r : Int} (h : s_l3Count n e levels = some r), PCC Tryz.prog G.g 194 [V.agg [vI e.kind, vI e.num, vM rI e.index.coefs, vI e.index.const, vS e.read.array, vM rAffine e.read.subs, vM rExpr e.kids], vI levels] (vI r) := by
 intro n
 induction n with
 | zero => intro e levels r h; rw [s_l3Count.eq_def] at h; cases h
 | succ n ih =>
  intro e levels r h
  rw [s_l3Count.eq_def] at h; dsimp only at h
  refine pmr tyOK Tryz.func194 rfl rfl rfl rfl rfl rfl rfl ?_
  intro w X hC
  refine rq hC [.b true] [2, 4] [(2, V.tp [T.int .i64 e.kind, T.int .i64 e.num, T.sl (List.map rI e.index.coefs), T.int .i64 e.index.const, T.str e.read.array, T.sl (List.map rAffine e.read.subs), T.sl (List.map rExpr e.kids)])] [] [] trivial ?_
  refine rq hC [] [5] [(5, vI 1)] [] [] trivial ?_
  refine vwp_seq ?_
  refine rq hC [] [6] [(6, vI 0)] [] [] trivial ?_
  refine vwp_block ?_
  refine vwp_lm (γ := Unit) h (fun (x_ : Int × Int) (g_ : Unit) => mkS [(1, vI levels), (2, V.tp [T.int .i64 e.kind, T.int .i64 e.num, T.sl (List.map rI e.index.coefs), T.int .i64 e.index.const, T.str e.read.array, T.sl (List.map rAffine e.read.subs), T.sl (List.map rExpr e.kids)]), (5, vI x_.1), (6, vI x_.2)] [] []) () (lS) ?_
  rintro again3 ⟨x1, x2⟩ ⟨⟩ h
  refine vwp_seq ?_
  obtain ⟨j4, hj4, h⟩ := jn_e h
  refine vwp_jm (γ := Unit) (j := j4) (r := r) (fun (x_ : Bool) (g_ : Unit) => mkS [(1, vI levels), (2, V.tp [T.int .i64 e.kind, T.int .i64 e.num, T.sl (List.map rI e.index.coefs), T.int .i64 e.index.const, T.str e.read.array, T.sl (List.map rAffine e.read.subs), T.sl (List.map rExpr e.kids)]), (5, vI x1), (6, vI x2), (15, vB x_)] [] []) ?_ ?_
  ·
   refine splI h (fun c1 h => ?_) (fun c1 h => ?_)
   ·refine rk hC [.nat e.kids.length, .b false, .b false, .b false] [7, 8, 9, 10, 11, 12, 13, 14, 15] [(15, vB false)] [] [] (an (lenM rExpr e.kids) (an c1 (an c1 (an c1 trivial)))) ?_
    exact ⟨false, (), h, lS⟩
   ·refine rk hC [.nat e.kids.length, .b true, .b true, .b true] [7, 8, 9, 10, 11, 12, 13, 14, 15] [(15, vB (decide ((0 : Int) < levels)))] [] [] (an (lenM rExpr e.kids) (an c1 (an c1 (an c1 trivial)))) ?_
    exact ⟨decide ((0 : Int) < levels), (), h, lS⟩
  ·rintro x5 ⟨⟩ h
   subst hj4
   refine vci (b := x5) h (fun c2 h => ?_) (fun c2 h => ?_)
   ·refine vwp_skip ?_
    refine vwp_seq ?_
    refine vwp_block ?_
    obtain ⟨x6, hx6, h⟩ := bd h
    obtain ⟨x7, hx7, h⟩ := bd h
    refine rk hC [.row (rExprC x6), .v (vI x7)] [5, 18, 19, 20, 21, 22, 23, 24, 25, 26, 27] [(5, vI (wr (x1 + x7)))] [] [] (an (ix_mapE rExpr hx6 (rExpr_eq x6)) (an (ih x6 (wr (levels - 1)) hx7) trivial)) ?_
    refine rk hC [] [6, 16, 17] [(6, vI (wr (x2 + 1)))] [] [] trivial ?_
    exact ⟨(wr (x1 + x7), wr (x2 + 1)), (), h, lS⟩
   ·refine vwp_exit ?_
    refine rq hC [] [4, 28] [(4, vI x1)] [] [] trivial ?_
    refine vwp_ret ?_
    obtain rfl := so h
    exact eR
theorem c_s_StmtValid (G : GS) (n : Nat) (s : Stmt) (depth : Int) {r : Bool} (h : s_StmtValid n s depth = some r) : PCC Tryz.prog G.g 156 [V.agg [vS s.write.array, vM rAffine s.write.subs, vI s.value.kind, vI s.value.num, vM rI s.value.index.coefs, vI s.value.index.const, vS s.value.read.array, vM rAffine s.value.read.subs, vM rExpr s.value.kids], vI depth] (vB r) := by
 unfold s_StmtValid at h
 refine pmr tyOK Tryz.func156 rfl rfl rfl rfl rfl rfl rfl ?_
 intro w X hC
 refine rq hC [.b true] [2, 4] [(2, V.tp [T.str s.write.array, T.sl (List.map rAffine s.write.subs), T.int .i64 s.value.kind, T.int .i64 s.value.num, T.sl (List.map rI s.value.index.coefs), T.int .i64 s.value.index.const, T.str s.value.read.array, T.sl (List.map rAffine s.value.read.subs), T.sl (List.map rExpr s.value.kids)])] [] [] trivial ?_
 refine vwp_seq ?_
 obtain ⟨j1, hj1, h⟩ := jn_e h
 refine vwp_jm (γ := Unit) (j := j1) (r := r) (fun (x_ : Bool) (g_ : Unit) => mkS [(2, V.tp [T.str s.write.array, T.sl (List.map rAffine s.write.subs), T.int .i64 s.value.kind, T.int .i64 s.value.num, T.sl (List.map rI s.value.index.coefs), T.int .i64 s.value.index.const, T.str s.value.read.array, T.sl (List.map rAffine s.value.read.subs), T.sl (List.map rExpr s.value.kids)]), (24, vB x_)] [] []) ?_ ?_
 ·
  refine splI h (fun c1 h => ?_) (fun c1 h => ?_)
  ·refine splI h (fun c2 h => ?_) (fun c2 h => ?_)
   ·obtain ⟨x2, hx2, h⟩ := bd h
    refine splI h (fun c3 h => ?_) (fun c3 h => ?_)
    ·obtain ⟨x3, hx3, h⟩ := bd h
     refine rk hC [.b false, .b false, .b false, .b false, .b false, .b false, .b false, .v (vB x2), .b false, .b false, .b false, .b false, .b false, .b false, .v (vB x3), .b false, .b false] [5, 6, 7, 8, 9, 10, 11, 12, 13, 14, 15, 16, 17, 18, 19, 20, 21, 22, 23, 24] [(24, vB (!x3))] [] [] (an c1 (an c1 (an c1 (an c2 (an c2 (an c2 (an c2 (an (c_s_l3Access G n s.write depth hx2) (an c2 (an c2 (an c3 (an c3 (an c3 (an c3 (an (c_s_l3Shape G n s.value depth 5 hx3) (an c3 (an c3 trivial))))))))))))))))) ?_
     exact ⟨!x3, (), h, lS⟩
    ·refine rk hC [.b false, .b false, .b false, .b false, .b false, .b false, .b false, .v (vB x2), .b false, .b false, .b true, .b true, .b true, .b true, .b true, .b true] [5, 6, 7, 8, 9, 10, 11, 12, 13, 14, 15, 16, 17, 18, 19, 20, 21, 22, 23, 24] [(24, vB true)] [] [] (an c1 (an c1 (an c1 (an c2 (an c2 (an c2 (an c2 (an (c_s_l3Access G n s.write depth hx2) (an c2 (an c2 (an c3 (an c3 (an c3 (an c3 (an c3 (an c3 trivial)))))))))))))))) ?_
     exact ⟨true, (), h, lS⟩
   ·refine rk hC [.b false, .b false, .b false, .b true, .b true, .b true, .b true, .b true, .b true, .b true, .b true, .b true, .b true, .b true, .b true] [5, 6, 7, 8, 9, 10, 11, 12, 13, 14, 15, 16, 17, 18, 19, 20, 21, 22, 23, 24] [(24, vB true)] [] [] (an c1 (an c1 (an c1 (an c2 (an c2 (an c2 (an c2 (an c2 (an c2 (an (Eq.refl true) (an (Eq.refl true) (an (Eq.refl true) (an (Eq.refl true) (an (Eq.refl true) (an (Eq.refl true) trivial))))))))))))))) ?_
    exact ⟨true, (), h, lS⟩
  ·refine rk hC [.b true, .b true, .b true, .b true, .b true, .b true, .b true, .b true, .b true, .b true, .b true, .b true, .b true, .b true, .b true] [5, 6, 7, 8, 9, 10, 11, 12, 13, 14, 15, 16, 17, 18, 19, 20, 21, 22, 23, 24] [(24, vB true)] [] [] (an c1 (an c1 (an c1 (an (Eq.refl true) (an (Eq.refl true) (an (Eq.refl true) (an (Eq.refl true) (an (Eq.refl true) (an (Eq.refl true) (an (Eq.refl true) (an (Eq.refl true) (an (Eq.refl true) (an (Eq.refl true) (an (Eq.refl true) (an (Eq.refl true) trivial))))))))))))))) ?_
   exact ⟨true, (), h, lS⟩
 ·rintro x4 ⟨⟩ h
  subst hj1
  refine vci (b := x4) h (fun c4 h => ?_) (fun c4 h => ?_)
  ·refine rq hC [] [4] [(4, vB false)] [] [] trivial ?_
   refine vwp_ret ?_
   obtain rfl := so h
   exact eR
  ·refine vwp_skip ?_
   obtain ⟨x5, hx5, h⟩ := bd h
   refine rq hC [.v (vI x5)] [4, 25, 26, 27, 28] [(4, vB (decide (x5 ≤ 12)))] [] [] (an (c_s_l3Count G n s.value 5 hx5) trivial) ?_
   refine vwp_ret ?_
   obtain rfl := so h
   exact eR
theorem c_s_l3CopyAffine (G : GS) (n : Nat) (a : Affine) {r : Affine} (h : s_l3CopyAffine n a = some r) : VCC Tryz.prog G.g 211 [] [V.agg [vM rI a.coefs, vI a.const]] (V.agg [ms 0 1 1 rI r.coefs, vI r.const]) [ar 3 1 1 rI r.coefs] := by
 unfold s_l3CopyAffine at h
 refine vmr tyOK Tryz.func211 rfl rfl rfl rfl rfl rfl rfl rfl ?_
 intro w X β0 hC hg
 refine rq hC [.b true, .nat 20] [1, 2] [(1, V.tp [T.sl (List.map rI a.coefs), T.int .i64 a.const]), (2, V.ref 20 0)] [(20, some (E.cells [V.t T.nilS, vI 0]))] [(20, true)] trivial ?_
 refine vwp_seq ?_
 refine rq hC [.nat a.coefs.length] [3, 4, 5, 6] [(6, vB (decide ((a.coefs.length : Int) = 0)))] [] [] (an (lenM rI a.coefs) trivial) ?_
 refine vci (b := decide ((a.coefs.length : Int) = 0)) h (fun c1 h => ?_) (fun c1 h => ?_)
 ·refine rq hC [] [7, 8, 9] [] [(20, some (E.cells [V.t T.nilS, vI a.const]))] [] trivial ?_
  refine vwp_weaken (lk hC [.growc 20 0 21 3] [] [] [(21, some (ar 3 1 1 rI [])), (20, some (E.cells [ms 21 1 1 rI [], vI a.const]))] [(21, true)]) ?_
  refine vwp_weaken (lk hC [.rn 21 0 [] [20]] [] [] [(20, some (E.cells [ms 0 1 1 rI [], vI a.const])), (21, none), (0, some (ar 3 1 1 rI []))] [(0, true)]) ?_
  refine vwp_ret ?_
  obtain rfl := so h
  exact eW
 ·refine vwp_skip ?_
  refine vwp_seq ?_
  obtain ⟨x1, hx1, h⟩ := bd h
  refine dk hC hmix [.nat 21, .rows (List.map rI x1)] [10, 11, 12, 13, 14, 15, 16] [] [(21, some (ar 3 2 1 rI x1)), (20, some (E.cells [ms 21 2 1 rI x1, vI a.const]))] [(21, true)] (an (app_map rI hx1) (an (rwM (r := rI) 1 (fun _ => rfl) []) (an (rwM (r := rI) 1 (fun _ => rfl) a.coefs) trivial))) ?_
  refine vwp_weaken (lk hC [.rn 21 0 [] [20]] [] [] [(20, some (E.cells [ms 0 1 1 rI x1, vI a.const])), (21, none), (0, some (ar 3 1 1 rI x1))] [(0, true)]) ?_
  refine vwp_ret ?_
  obtain rfl := so h
  exact eW
theorem c_s_l3CopyAccess (G : GS) (n : Nat) (a : Access) {r : Access} (h : s_l3CopyAccess n a = some r) : VCC Tryz.prog G.g 178 [] [V.agg [vS a.array, vM rAffine a.subs]] (V.agg [vS r.array, ms 0 1 2 rAffine r.subs]) [ar 109 1 2 rAffine r.subs] := by
 unfold s_l3CopyAccess at h
 refine vmr tyOK Tryz.func178 rfl rfl rfl rfl rfl rfl rfl rfl ?_
 intro w X β0 hC hg
 refine rq hC [.b true, .nat 20] [1, 2] [(1, V.tp [T.str a.array, T.sl (List.map rAffine a.subs)]), (2, V.ref 20 0)] [(20, some (E.cells [vS [], V.t T.nilS]))] [(20, true)] trivial ?_
 refine rq hC [.nat 21] [3, 5, 6, 7] [(3, V.ref 21 0)] [(21, some (E.cells [vS a.array, V.t T.nilS]))] [(21, true)] trivial ?_
 refine vwp_seq ?_
 refine rq hC [] [4] [(4, vI 0)] [] [] trivial ?_
 refine vwp_block ?_
 refine vwp_weaken (lk hC [.growc 21 1 22 109] [] [] [(22, some (ar 109 1 2 rAffine [])), (21, some (E.cells [vS a.array, ms 22 1 2 rAffine []]))] [(22, true)]) ?_
 refine vwp_lm (γ := Nat) h (fun (x_ : (List Affine) × Int) (g_ : Nat) => mkS [(1, V.tp [T.str a.array, T.sl (List.map rAffine a.subs)]), (2, V.ref 20 0), (3, V.ref 21 0), (4, vI x_.2)] [(20, E.cells [vS [], V.t T.nilS]), (21, E.cells [vS a.array, ms 22 g_ 2 rAffine x_.1]), (22, ar 109 g_ 2 rAffine x_.1)] [20, 21, 22]) 1 (lS) ?_
 rintro again4 ⟨x1, x2⟩ g3 h
 refine vwp_seq ?_
 refine rq hC [.nat a.subs.length] [8, 9, 10, 11, 12] [(12, vB (decide (x2 < (a.subs.length : Int))))] [] [] (an (lenM rAffine a.subs) trivial) ?_
 refine vci (b := decide (x2 < (a.subs.length : Int))) h (fun c1 h => ?_) (fun c1 h => ?_)
 ·refine vwp_skip ?_
  refine vwp_seq ?_
  refine vwp_block ?_
  obtain ⟨x5, hx5, h⟩ := bd h
  obtain ⟨x6, hx6, h⟩ := bd h
  obtain ⟨x7, hx7, h⟩ := bd h
  refine dk hC hmix [.row (rAffine x5), .vc [] [23] (V.agg [ms 0 1 1 rI x6.coefs, vI x6.const]) [ar 3 1 1 rI x6.coefs], .at 4, .fz 23 [22] [], .int 0, .rows (List.map rAffine x7)] [15, 16, 17, 18, 19, 20, 21, 22, 23, 24, 25] [] [(23, none), (22, some (ar 109 (g3 + 1) 2 rAffine x7)), (21, some (E.cells [vS a.array, ms 22 (g3 + 1) 2 rAffine x7]))] [(23, true)] (an (ix_map rAffine hx5) (an (c_s_l3CopyAffine G n x5 hx6) (an (app_map rAffine hx7) (an (rwM (r := rAffine) 2 rAffine_len x1) (an (rwM (r := rAffine) 2 rAffine_len [x6]) trivial))))) ?_
  refine rk hC [] [4, 13, 14] [(4, vI (wr (x2 + 1)))] [] [] trivial ?_
  exact ⟨(x7, wr (x2 + 1)), (g3 + 1), h, lS⟩
 ·refine vwp_exit ?_
  refine rq hC [] [26] [] [(20, some (E.cells [vS a.array, ms 22 g3 2 rAffine x1]))] [] trivial ?_
  refine vwp_weaken (lk hC [.rn 22 0 [] [20, 21]] [] [] [(20, some (E.cells [vS a.array, ms 0 1 2 rAffine x1])), (21, some (E.cells [vS a.array, ms 0 1 2 rAffine x1])), (22, none), (0, some (ar 109 1 2 rAffine x1))] [(0, true)]) ?_
  refine vwp_ret ?_
  obtain rfl := so h
  exact eW
theorem c_s_l3Reads (G : GS) : ∀ (n : Nat) (out : List Access) (outG : Nat) (e : Expr) {r : (List Access)} (h : s_l3Reads n out e = some r), VCC Tryz.prog G.g 136 [ar 107 outG 2 rAccess out] [ms 0 outG 2 rAccess out, V.agg [vI e.kind, vI e.num, vM rI e.index.coefs, vI e.index.const, vS e.read.array, vM rAffine e.read.subs, vM rExpr e.kids]] (ms 0 (outG + 1) 2 rAccess r) [ar 107 (outG + 1) 2 rAccess r] := by
 intro n
 induction n with
 | zero => intro out outG e r h; rw [s_l3Reads.eq_def] at h; cases h
 | succ n ih =>
  intro out outG e r h
  rw [s_l3Reads.eq_def] at h; dsimp only at h
  refine vmr tyOK Tryz.func136 rfl rfl rfl rfl rfl rfl rfl rfl ?_
  intro w X β0 hC hg
  refine rq hC [.b true] [3, 4] [(3, V.tp [T.int .i64 e.kind, T.int .i64 e.num, T.sl (List.map rI e.index.coefs), T.int .i64 e.index.const, T.str e.read.array, T.sl (List.map rAffine e.read.subs), T.sl (List.map rExpr e.kids)])] [] [] trivial ?_
  obtain ⟨j1, hj1, h⟩ := jn_e h
  refine vwp_jm (γ := Nat) (j := j1) (r := r) (fun (x_ : (List Access)) (g_ : Nat) => mkS [(0, ms 0 g_ 2 rAccess x_), (3, V.tp [T.int .i64 e.kind, T.int .i64 e.num, T.sl (List.map rI e.index.coefs), T.int .i64 e.index.const, T.str e.read.array, T.sl (List.map rAffine e.read.subs), T.sl (List.map rExpr e.kids)])] [(0, ar 107 g_ 2 rAccess x_)] [0]) ?_ ?_
  ·
   refine rq hC [] [6, 7, 8] [(8, vB (decide (e.kind = 3)))] [] [] trivial ?_
   refine vci (b := decide (e.kind = 3)) h (fun c1 h => ?_) (fun c1 h => ?_)
   ·obtain ⟨x2, hx2, h⟩ := bd h
    obtain ⟨x3, hx3, h⟩ := bd h
    refine rk hC [.vc [] [20] (V.agg [vS x2.array, ms 0 1 2 rAffine x2.subs]) [ar 109 1 2 rAffine x2.subs], .at 3, .fz 20 [12] [], .int 0, .rows (List.map rAccess x3)] [0, 9, 10, 11, 12, 13, 14] [(0, ms 0 (outG + 1) 2 rAccess x3)] [(20, none), (0, some (ar 107 (outG + 1) 2 rAccess x3))] [(20, true)] (an (c_s_l3CopyAccess G n e.read hx2) (an (app_map rAccess hx3) (an (rwM (r := rAccess) 2 rAccess_len out) (an (rwM (r := rAccess) 2 rAccess_len [x2]) trivial)))) ?_
    exact ⟨x3, (outG + 1), h, lS⟩
   ·refine vwp_skip ?_
    exact ⟨out, outG, h, lS⟩
  ·rintro x4 g5 h
   subst hj1
   refine vwp_seq ?_
   refine rq hC [] [5] [(5, vI 0)] [] [] trivial ?_
   refine vwp_block ?_
   refine vwp_lm (γ := Nat) h (fun (x_ : (List Access) × Int) (g_ : Nat) => mkS [(0, ms 0 g_ 2 rAccess x_.1), (3, V.tp [T.int .i64 e.kind, T.int .i64 e.num, T.sl (List.map rI e.index.coefs), T.int .i64 e.index.const, T.str e.read.array, T.sl (List.map rAffine e.read.subs), T.sl (List.map rExpr e.kids)]), (5, vI x_.2)] [(0, ar 107 g_ 2 rAccess x_.1)] [0]) g5 (lS) ?_
   rintro again9 ⟨x6, x7⟩ g8 h
   refine vwp_seq ?_
   refine rq hC [.nat e.kids.length] [15, 16, 17, 18, 19] [(19, vB (decide (x7 < (e.kids.length : Int))))] [] [] (an (lenM rExpr e.kids) trivial) ?_
   refine vci (b := decide (x7 < (e.kids.length : Int))) h (fun c2 h => ?_) (fun c2 h => ?_)
   ·refine vwp_skip ?_
    refine vwp_seq ?_
    refine vwp_block ?_
    obtain ⟨x10, hx10, h⟩ := bd h
    obtain ⟨x11, hx11, h⟩ := bd h
    refine rk hC [.row (rExprC x10), .vc [0] [] (ms 0 (g8 + 1) 2 rAccess x11) [ar 107 (g8 + 1) 2 rAccess x11]] [0, 22, 23, 24, 25, 26, 27, 28] [(0, ms 0 (g8 + 1) 2 rAccess x11)] [(0, some (ar 107 (g8 + 1) 2 rAccess x11))] [(0, true)] (an (ix_mapE rExpr hx10 (rExpr_eq x10)) (an (ih x6 g8 x10 hx11) trivial)) ?_
    refine rk hC [] [5, 20, 21] [(5, vI (wr (x7 + 1)))] [] [] trivial ?_
    exact ⟨(x11, wr (x7 + 1)), (g8 + 1), h, lS⟩
   ·refine vwp_exit ?_
    refine rq hC [] [4, 29] [(4, ms 0 g8 2 rAccess x6)] [] [] trivial ?_
    refine vwp_weaken (S.le_regenS 4 0 outG g8 2 0 (List.map rAccess x6).length (e := 107) (rows := List.map rAccess x6) rfl (by kernel_rfl) (by kernel_rfl) hg.1) ?_
    refine vwp_ret ?_
    obtain rfl := so h
    exact eW
theorem c_s_l4Size (G : GS) (n : Nat) (a : Arr) {r : Int} (h : s_l4Size n a = some r) : PCC Tryz.prog G.g 135 [V.agg [vS a.name, vM rI a.dims]] (vI r) := by
 unfold s_l4Size at h
 refine pmr tyOK Tryz.func135 rfl rfl rfl rfl rfl rfl rfl ?_
 intro w X hC
 refine rq hC [.b true] [1, 2] [(1, V.tp [T.str a.name, T.sl (List.map rI a.dims)])] [] [] trivial ?_
 refine rq hC [] [3] [(3, vI 1)] [] [] trivial ?_
 refine vwp_seq ?_
 refine rq hC [] [4] [(4, vI 0)] [] [] trivial ?_
 refine vwp_block ?_
 refine vwp_lm (γ := Unit) h (fun (x_ : Int × Int) (g_ : Unit) => mkS [(1, V.tp [T.str a.name, T.sl (List.map rI a.dims)]), (3, vI x_.1), (4, vI x_.2)] [] []) () (lS) ?_
 rintro again3 ⟨x1, x2⟩ ⟨⟩ h
 refine vwp_seq ?_
 refine rq hC [.nat a.dims.length] [5, 6, 7, 8, 9] [(9, vB (decide (x2 < (a.dims.length : Int))))] [] [] (an (lenM rI a.dims) trivial) ?_
 refine vci (b := decide (x2 < (a.dims.length : Int))) h (fun c1 h => ?_) (fun c1 h => ?_)
 ·refine vwp_skip ?_
  refine vwp_seq ?_
  refine vwp_block ?_
  obtain ⟨x4, hx4, h⟩ := bd h
  refine rk hC [.row (rI x4)] [3, 12, 13, 14, 15, 16, 17, 18] [(3, vI (wr (x1 * x4)))] [] [] (an (ix_map rI hx4) trivial) ?_
  refine rk hC [] [4, 10, 11] [(4, vI (wr (x2 + 1)))] [] [] trivial ?_
  exact ⟨(wr (x1 * x4), wr (x2 + 1)), (), h, lS⟩
 ·refine vwp_exit ?_
  refine rq hC [] [2, 19] [(2, vI x1)] [] [] trivial ?_
  refine vwp_ret ?_
  obtain rfl := so h
  exact eR
theorem c_s_l4Cell (G : GS) (n : Nat) (list : List Arr) (a : Access) (point : List Int) {r : Int} (h : s_l4Cell n list a point = some r) : PCC Tryz.prog G.g 120 [vM rArr list, V.agg [vS a.array, vM rAffine a.subs], vM rI point] (vI r) := by
 unfold s_l4Cell at h
 refine pmr tyOK Tryz.func120 rfl rfl rfl rfl rfl rfl rfl ?_
 intro w X hC
 refine rq hC [.b true] [4, 6] [(4, V.tp [T.str a.array, T.sl (List.map rAffine a.subs)])] [] [] trivial ?_
 refine rq hC [] [7] [(7, vI 0)] [] [] trivial ?_
 refine vwp_seq ?_
 refine rq hC [] [8] [(8, vI 0)] [] [] trivial ?_
 refine vwp_block ?_
 refine vwp_lm (γ := Unit) h (fun (x_ : Int × Int) (g_ : Unit) => mkS [(0, vM rArr list), (2, vM rI point), (4, V.tp [T.str a.array, T.sl (List.map rAffine a.subs)]), (7, vI x_.1), (8, vI x_.2)] [] []) () (lS) ?_
 rintro again3 ⟨x1, x2⟩ ⟨⟩ h
 refine vwp_seq ?_
 refine rq hC [.nat list.length] [12, 13, 14, 15] [(15, vB (decide (x2 < (list.length : Int))))] [] [] (an (lenM rArr list) trivial) ?_
 refine vci (b := decide (x2 < (list.length : Int))) h (fun c1 h => ?_) (fun c1 h => ?_)
 ·refine vwp_skip ?_
  refine vwp_seq ?_
  refine vwp_block ?_
  refine vwp_seq ?_
  refine vwp_seq ?_
  obtain ⟨x4, hx4, h⟩ := bd h
  refine dk hC hmix [.row (rArr x4)] [18, 19, 20, 21, 22, 23, 24, 25] [(25, vB (!decide (x4.name = a.array)))] [] [] (an (ix_map rArr hx4) trivial) ?_
  refine vci (b := !decide (x4.name = a.array)) h (fun c2 h => ?_) (fun c2 h => ?_)
  ·obtain ⟨x5, hx5, h⟩ := bd h
   refine rq hC [.row (rArr x4), .v (vI x5)] [7, 26, 27, 28, 29, 30, 31, 32] [(7, vI (wr (x1 + x5)))] [] [] (an (ix_map rArr hx4) (an (c_s_l4Size G n x4 hx5) trivial)) ?_
   refine vwp_exit ?_
   refine rk hC [] [8, 16, 17] [(8, vI (wr (x2 + 1)))] [] [] trivial ?_
   exact ⟨(wr (x1 + x5), wr (x2 + 1)), (), h, lS⟩
  ·refine vwp_skip ?_
   refine rq hC [] [9] [(9, vI 0)] [] [] trivial ?_
   refine vwp_seq ?_
   refine rq hC [] [10] [(10, vI 0)] [] [] trivial ?_
   refine vwp_block ?_
   refine vwp_lm (γ := Unit) h (fun (x_ : Int × Int) (g_ : Unit) => mkS [(0, vM rArr list), (2, vM rI point), (4, V.tp [T.str a.array, T.sl (List.map rAffine a.subs)]), (7, vI x1), (8, vI x2), (9, vI x_.1), (10, vI x_.2)] [] []) () (lS) ?_
   rintro again8 ⟨x6, x7⟩ ⟨⟩ h
   refine vwp_seq ?_
   refine rq hC [.nat a.subs.length] [33, 34, 35, 36, 37] [(37, vB (decide (x7 < (a.subs.length : Int))))] [] [] (an (lenM rAffine a.subs) trivial) ?_
   refine vci (b := decide (x7 < (a.subs.length : Int))) h (fun c3 h => ?_) (fun c3 h => ?_)
   ·refine vwp_skip ?_
    refine vwp_seq ?_
    refine vwp_block ?_
    refine vwp_seq ?_
    refine vwp_seq ?_
    refine dk hC hmix [.nat a.subs.length, .row (rArr x4), .nat x4.dims.length] [40, 41, 42, 43, 44, 45, 46, 47, 48, 49] [(49, vB (!decide ((a.subs.length : Int) = (x4.dims.length : Int))))] [] [] (an (lenM rAffine a.subs) (an (ix_map rArr hx4) (an (lenM rI x4.dims) trivial))) ?_
    refine vci (b := !decide ((a.subs.length : Int) = (x4.dims.length : Int))) h (fun c4 h => ?_) (fun c4 h => ?_)
    ·refine rq hC [] [6] [(6, vI (-1))] [] [] trivial ?_
     refine vwp_ret ?_
     obtain rfl := so h
     exact eR
    ·refine vwp_skip ?_
     obtain ⟨x9, hx9, h⟩ := bd h
     obtain ⟨x10, hx10, h⟩ := bd h
     refine rq hC [.row (rAffine x9), .v (vI x10)] [11, 50, 51, 52, 53, 54, 55, 56] [(11, vI x10)] [] [] (an (ix_map rAffine hx9) (an (c_s_l1Eval G n x9 point hx10) trivial)) ?_
     refine vwp_seq ?_
     obtain ⟨j11, hj11, h⟩ := jn_e h
     refine vwp_jm (γ := Unit) (j := j11) (r := r) (fun (x_ : Bool) (g_ : Unit) => mkS [(0, vM rArr list), (2, vM rI point), (4, V.tp [T.str a.array, T.sl (List.map rAffine a.subs)]), (7, vI x1), (8, vI x2), (9, vI x6), (10, vI x7), (11, vI x10), (70, vB x_)] [] []) ?_ ?_
     ·
      refine splI h (fun c5 h => ?_) (fun c5 h => ?_)
      ·obtain ⟨x12, hx12, h⟩ := bd h
       refine rk hC [.b false, .b false, .b false, .b false, .row (rArr x4), .b false, .b false, .b false, .b false, .row (rI x12), .b false, .b false, .b false] [57, 58, 59, 60, 61, 62, 63, 64, 65, 66, 67, 68, 69, 70] [(70, vB (decide (x12 ≤ x10)))] [] [] (an c5 (an c5 (an c5 (an c5 (an (ix_map rArr hx4) (an c5 (an c5 (an c5 (an c5 (an (ix_map rI hx12) (an c5 (an c5 (an c5 trivial))))))))))))) ?_
       exact ⟨decide (x12 ≤ x10), (), h, lS⟩
      ·refine rk hC [.b true, .b true, .b true, .b true, .b true, .b true, .b true, .b true, .b true, .b true, .b true] [57, 58, 59, 60, 61, 62, 63, 64, 65, 66, 67, 68, 69, 70] [(70, vB true)] [] [] (an c5 (an c5 (an c5 (an c5 (an c5 (an c5 (an c5 (an c5 (an c5 (an c5 (an c5 trivial))))))))))) ?_
       exact ⟨true, (), h, lS⟩
     ·rintro x13 ⟨⟩ h
      subst hj11
      refine vci (b := x13) h (fun c6 h => ?_) (fun c6 h => ?_)
      ·refine rq hC [] [6] [(6, vI (-1))] [] [] trivial ?_
       refine vwp_ret ?_
       obtain rfl := so h
       exact eR
      ·refine vwp_skip ?_
       obtain ⟨x14, hx14, h⟩ := bd h
       refine rk hC [.row (rArr x4), .row (rI x14)] [9, 71, 72, 73, 74, 75, 76, 77, 78, 79, 80, 81, 82] [(9, vI (wr ((wr (x6 * x14)) + x10)))] [] [] (an (ix_map rArr hx4) (an (ix_map rI hx14) trivial)) ?_
       refine rk hC [] [10, 38, 39] [(10, vI (wr (x7 + 1)))] [] [] trivial ?_
       exact ⟨(wr ((wr (x6 * x14)) + x10), wr (x7 + 1)), (), h, lS⟩
   ·refine vwp_exit ?_
    refine rq hC [] [6, 83, 84, 85] [(6, vI (wr (x1 + x6)))] [] [] trivial ?_
    refine vwp_ret ?_
    obtain rfl := so h
    exact eR
 ·refine vwp_exit ?_
  refine rq hC [] [6] [(6, vI (-1))] [] [] trivial ?_
  refine vwp_ret ?_
  obtain rfl := so h
  exact eR
theorem c_s_l4Cells (G : GS) (n : Nat) (list : List Arr) (s : Stmt) (point : List Int) {r : (List Int) × Int × Bool} (h : s_l4Cells n list s point = some r) : VCC Tryz.prog G.g 85 [] [vM rArr list, V.agg [vS s.write.array, vM rAffine s.write.subs, vI s.value.kind, vI s.value.num, vM rI s.value.index.coefs, vI s.value.index.const, vS s.value.read.array, vM rAffine s.value.read.subs, vM rExpr s.value.kids], vM rI point] (V.tup [ms 0 1 1 rI r.1, vI r.2.1, vB r.2.2]) [ar 3 1 1 rI r.1] := by
 unfold s_l4Cells at h
 refine vmr tyOK Tryz.func85 rfl rfl rfl rfl rfl rfl rfl rfl ?_
 intro w X β0 hC hg
 refine rq hC [.b true] [4, 6, 7, 8] [(4, V.tp [T.str s.write.array, T.sl (List.map rAffine s.write.subs), T.int .i64 s.value.kind, T.int .i64 s.value.num, T.sl (List.map rI s.value.index.coefs), T.int .i64 s.value.index.const, T.str s.value.read.array, T.sl (List.map rAffine s.value.read.subs), T.sl (List.map rExpr s.value.kids)])] [] [] trivial ?_
 refine rq hC [.nat 20] [9, 14] [(9, ms 20 1 1 rI [])] [(20, some (ar 3 1 1 rI []))] [(20, true)] trivial ?_
 obtain ⟨x1, hx1, h⟩ := bd h
 refine rq hC [.nat 21, .vc [21] [] (ms 0 2 2 rAccess x1) [ar 107 2 2 rAccess x1]] [10, 15, 16, 17, 18] [(10, ms 21 2 2 rAccess x1)] [(21, some (ar 107 2 2 rAccess x1))] [(21, true), (21, true)] (an (c_s_l3Reads G n [] 1 s.value hx1) trivial) ?_
 refine vwp_seq ?_
 refine rq hC [] [11] [(11, vI 0)] [] [] trivial ?_
 refine vwp_block ?_
 refine vwp_lm (γ := Nat) h (fun (x_ : (List Int) × Int) (g_ : Nat) => mkS [(0, vM rArr list), (2, vM rI point), (4, V.tp [T.str s.write.array, T.sl (List.map rAffine s.write.subs), T.int .i64 s.value.kind, T.int .i64 s.value.num, T.sl (List.map rI s.value.index.coefs), T.int .i64 s.value.index.const, T.str s.value.read.array, T.sl (List.map rAffine s.value.read.subs), T.sl (List.map rExpr s.value.kids)]), (9, ms 20 g_ 1 rI x_.1), (10, ms 21 2 2 rAccess x1), (11, vI x_.2)] [(20, ar 3 g_ 1 rI x_.1), (21, ar 107 2 2 rAccess x1)] [20, 21]) 1 (lS) ?_
 rintro again5 ⟨x2, x3⟩ g4 h
 refine vwp_seq ?_
 refine rq hC [.nat x1.length] [19, 20, 21, 22] [(22, vB (decide (x3 < (x1.length : Int))))] [] [] (an (lenM rAccess x1) trivial) ?_
 refine vci (b := decide (x3 < (x1.length : Int))) h (fun c1 h => ?_) (fun c1 h => ?_)
 ·refine vwp_skip ?_
  refine vwp_seq ?_
  refine vwp_block ?_
  obtain ⟨x6, hx6, h⟩ := bd h
  obtain ⟨x7, hx7, h⟩ := bd h
  refine rq hC [.row (rAccess x6), .v (vI x7)] [12, 25, 26, 27, 28, 29, 30, 31] [(12, vI x7)] [] [] (an (ixn rAccess hx6) (an (ixr rAccess hx6) (an (c_s_l4Cell G n list x6 point hx7) trivial))) ?_
  refine vwp_seq ?_
  refine rq hC [] [32, 33] [(33, vB (decide (x7 < 0)))] [] [] trivial ?_
  refine vci (b := decide (x7 < 0)) h (fun c2 h => ?_) (fun c2 h => ?_)
  ·refine rq hC [.nat 22] [6, 7, 8, 34] [(6, ms 22 1 1 rI []), (7, vI 0), (8, vB false)] [(22, some (ar 3 1 1 rI []))] [(22, true)] trivial ?_
   refine vwp_weaken (lk hC [.ren 6 22 0] [6] [(6, ms 0 1 1 rI [])] [(0, some (ar 3 1 1 rI [])), (22, none)] [(0, true)]) ?_
   refine vwp_ret ?_
   obtain rfl := so h
   exact eW
  ·refine vwp_skip ?_
   obtain ⟨x8, hx8, h⟩ := bd h
   refine rk hC [.int 0, .rows (List.map rI x8)] [9, 35, 36, 37, 38] [(9, ms 20 (g4 + 1) 1 rI x8)] [(20, some (ar 3 (g4 + 1) 1 rI x8))] [] (an (app_map rI hx8) (an (rwM (r := rI) 1 (fun _ => rfl) x2) (an (rwM (r := rI) 1 (fun _ => rfl) [x7]) trivial))) ?_
   refine rk hC [] [11, 23, 24] [(11, vI (wr (x3 + 1)))] [] [] trivial ?_
   exact ⟨(x8, wr (x3 + 1)), (g4 + 1), h, lS⟩
 ·refine vwp_exit ?_
  obtain ⟨x9, hx9, h⟩ := bd h
  refine rq hC [.v (vI x9)] [13, 39, 40, 41, 42, 43] [(13, vI x9)] [] [] (an (c_s_l4Cell G n list s.write point hx9) trivial) ?_
  refine vwp_seq ?_
  refine rq hC [] [44, 45] [(45, vB (decide (x9 < 0)))] [] [] trivial ?_
  refine vci (b := decide (x9 < 0)) h (fun c3 h => ?_) (fun c3 h => ?_)
  ·refine rq hC [.nat 22] [6, 7, 8, 46] [(6, ms 22 1 1 rI []), (7, vI 0), (8, vB false)] [(22, some (ar 3 1 1 rI []))] [(22, true)] trivial ?_
   refine vwp_weaken (lk hC [.ren 6 22 0] [6] [(6, ms 0 1 1 rI [])] [(0, some (ar 3 1 1 rI [])), (22, none)] [(0, true)]) ?_
   refine vwp_ret ?_
   obtain rfl := so h
   exact eW
  ·refine vwp_skip ?_
   refine rq hC [] [6, 7, 8, 47, 48] [(6, ms 20 g4 1 rI x2), (7, vI x9), (8, vB true)] [] [] trivial ?_
   refine vwp_weaken (lk hC [.ren 6 20 0] [6] [(6, ms 0 1 1 rI x2)] [(0, some (ar 3 1 1 rI x2)), (20, none)] [(0, true)]) ?_
   refine vwp_ret ?_
   obtain rfl := so h
   exact eW
theorem c_s_l1Point (G : GS) (n : Nat) (p : List Int) {r : Bool} (h : s_l1Point n p = some r) : PCC Tryz.prog G.g 157 [vM rI p] (vB r) := by
 unfold s_l1Point at h
 refine pmr tyOK Tryz.func157 rfl rfl rfl rfl rfl rfl rfl ?_
 intro w X hC
 refine rq hC [] [2] [] [] [] trivial ?_
 refine vwp_seq ?_
 refine rq hC [] [3] [(3, vI 0)] [] [] trivial ?_
 refine vwp_block ?_
 refine vwp_lm (γ := Unit) h (fun (x_ : Int) (g_ : Unit) => mkS [(0, vM rI p), (3, vI x_)] [] []) () (lS) ?_
 rintro again2 x1 ⟨⟩ h
 refine vwp_seq ?_
 refine rq hC [.nat p.length] [4, 5, 6, 7] [(7, vB (decide (x1 < (p.length : Int))))] [] [] (an (lenM rI p) trivial) ?_
 refine vci (b := decide (x1 < (p.length : Int))) h (fun c1 h => ?_) (fun c1 h => ?_)
 ·refine vwp_skip ?_
  refine vwp_seq ?_
  refine vwp_block ?_
  obtain ⟨x3, hx3, h⟩ := bd h
  obtain ⟨x4, hx4, h⟩ := bd h
  refine rq hC [.row (rI x3), .v (vB x4)] [10, 11, 12, 13, 14, 15] [(15, vB (!x4))] [] [] (an (ix_map rI hx3) (an (c_s_l1Within G n x3 9999 hx4) trivial)) ?_
  refine vci (b := !x4) h (fun c2 h => ?_) (fun c2 h => ?_)
  ·refine rq hC [] [2] [(2, vB false)] [] [] trivial ?_
   refine vwp_ret ?_
   obtain rfl := so h
   exact eR
  ·refine vwp_skip ?_
   refine rk hC [] [3, 8, 9] [(3, vI (wr (x1 + 1)))] [] [] trivial ?_
   exact ⟨wr (x1 + 1), (), h, lS⟩
 ·refine vwp_exit ?_
  refine rq hC [.nat p.length] [2, 16, 17, 18] [(2, vB (decide ((p.length : Int) ≤ 4)))] [] [] (an (lenM rI p) trivial) ?_
  refine vwp_ret ?_
  obtain rfl := so h
  exact eR
theorem c_s_l4Part (G : GS) (n : Nat) (list : List Arr) (part : Part) {r : Int × Bool} (h : s_l4Part n list part = some r) : PCC Tryz.prog G.g 103 [vM rArr list, V.agg [vM rLoop part.nest, vM rStmt part.body]] (V.tup [vI r.1, vB r.2]) := by
 unfold s_l4Part at h
 refine pmr tyOK Tryz.func103 rfl rfl rfl rfl rfl rfl rfl ?_
 intro w X hC
 refine rq hC [.b true] [3, 4, 5] [(3, V.tp [T.sl (List.map rLoop part.nest), T.sl (List.map rStmt part.body)])] [] [] trivial ?_
 obtain ⟨x1, hx1, h⟩ := bd h
 refine rq hC [.vc [] [20] (V.tup [ms 0 1 1 (rL rI) x1.1, vB x1.2]) [ar 40 1 1 (rL rI) x1.1]] [6, 7, 13, 14, 15, 16, 17, 18] [(6, ms 20 1 1 (rL rI) x1.1), (7, vB x1.2)] [(20, some (ar 40 1 1 (rL rI) x1.1))] [(20, true)] (an (c_s_NestPoints G n part.nest hx1) trivial) ?_
 refine vwp_seq ?_
 obtain ⟨j2, hj2, h⟩ := jn_e h
 refine vwp_jm (γ := Unit) (j := j2) (r := r) (fun (x_ : Bool) (g_ : Unit) => mkS [(0, vM rArr list), (3, V.tp [T.sl (List.map rLoop part.nest), T.sl (List.map rStmt part.body)]), (6, ms 20 1 1 (rL rI) x1.1), (32, vB x_)] [(20, ar 40 1 1 (rL rI) x1.1)] [20]) ?_ ?_
 ·
  refine splI h (fun c1 h => ?_) (fun c1 h => ?_)
  ·refine splI h (fun c2 h => ?_) (fun c2 h => ?_)
   ·refine rk hC [.b false, .b false, .b false, .nat part.body.length, .b false, .b false, .b false, .b false, .b false, .nat part.body.length, .b false, .b false] [19, 20, 21, 22, 23, 24, 25, 26, 27, 28, 29, 30, 31, 32] [(32, vB (decide ((4 : Int) < (part.body.length : Int))))] [] [] (an c1 (an c1 (an c1 (an (lenM rStmt part.body) (an c1 (an c1 (an c2 (an c2 (an c2 (an (lenM rStmt part.body) (an c2 (an c2 trivial)))))))))))) ?_
    exact ⟨decide ((4 : Int) < (part.body.length : Int)), (), h, lS⟩
   ·refine rk hC [.b false, .b false, .b false, .nat part.body.length, .b false, .b false, .b true, .b true, .b true, .b true, .b true] [19, 20, 21, 22, 23, 24, 25, 26, 27, 28, 29, 30, 31, 32] [(32, vB true)] [] [] (an c1 (an c1 (an c1 (an (lenM rStmt part.body) (an c1 (an c1 (an c2 (an c2 (an c2 (an c2 (an c2 trivial))))))))))) ?_
    exact ⟨true, (), h, lS⟩
  ·refine rk hC [.b true, .b true, .b true, .b true, .b true, .b true, .b true, .b true, .b true, .b true] [19, 20, 21, 22, 23, 24, 25, 26, 27, 28, 29, 30, 31, 32] [(32, vB true)] [] [] (an c1 (an c1 (an c1 (an c1 (an c1 (an (Eq.refl true) (an (Eq.refl true) (an (Eq.refl true) (an (Eq.refl true) (an (Eq.refl true) trivial)))))))))) ?_
   exact ⟨true, (), h, lS⟩
 ·rintro x3 ⟨⟩ h
  subst hj2
  refine vci (b := x3) h (fun c3 h => ?_) (fun c3 h => ?_)
  ·refine rq hC [] [4, 5] [(4, vI 0), (5, vB false)] [] [] trivial ?_
   refine vwp_ret ?_
   obtain rfl := so h
   exact eR
  ·refine vwp_skip ?_
   refine vwp_seq ?_
   refine rq hC [] [8] [(8, vI 0)] [] [] trivial ?_
   refine vwp_block ?_
   refine vwp_lm (γ := Unit) h (fun (x_ : Int) (g_ : Unit) => mkS [(0, vM rArr list), (3, V.tp [T.sl (List.map rLoop part.nest), T.sl (List.map rStmt part.body)]), (6, ms 20 1 1 (rL rI) x1.1), (8, vI x_)] [(20, ar 40 1 1 (rL rI) x1.1)] [20]) () (lS) ?_
   rintro again5 x4 ⟨⟩ h
   refine vwp_seq ?_
   refine rq hC [.nat part.body.length] [33, 34, 35, 36, 37] [(37, vB (decide (x4 < (part.body.length : Int))))] [] [] (an (lenM rStmt part.body) trivial) ?_
   refine vci (b := decide (x4 < (part.body.length : Int))) h (fun c4 h => ?_) (fun c4 h => ?_)
   ·refine vwp_skip ?_
    refine vwp_seq ?_
    refine vwp_block ?_
    refine vwp_seq ?_
    refine vwp_seq ?_
    obtain ⟨x6, hx6, h⟩ := bd h
    obtain ⟨x7, hx7, h⟩ := bd h
    refine dk hC hmix [.row (rStmt x6), .nat part.nest.length, .v (vB x7)] [40, 41, 42, 43, 44, 45, 46, 47, 48, 49] [(49, vB (!x7))] [] [] (an (ix_map rStmt hx6) (an (lenM rLoop part.nest) (an (c_s_StmtValid G n x6 (part.nest.length : Int) hx7) trivial))) ?_
    refine vci (b := !x7) h (fun c5 h => ?_) (fun c5 h => ?_)
    ·refine rq hC [] [4, 5] [(4, vI 0), (5, vB false)] [] [] trivial ?_
     refine vwp_ret ?_
     obtain rfl := so h
     exact eR
    ·refine vwp_skip ?_
     refine rq hC [] [9] [(9, vI 0)] [] [] trivial ?_
     refine vwp_block ?_
     refine vwp_lm (γ := Unit) h (fun (x_ : Int) (g_ : Unit) => mkS [(0, vM rArr list), (3, V.tp [T.sl (List.map rLoop part.nest), T.sl (List.map rStmt part.body)]), (6, ms 20 1 1 (rL rI) x1.1), (8, vI x4), (9, vI x_)] [(20, ar 40 1 1 (rL rI) x1.1)] [20]) () (lS) ?_
     rintro again9 x8 ⟨⟩ h
     refine vwp_seq ?_
     refine rq hC [.nat x1.1.length] [50, 51, 52, 53] [(53, vB (decide (x8 < (x1.1.length : Int))))] [] [] (an (lenM (rL rI) x1.1) trivial) ?_
     refine vci (b := decide (x8 < (x1.1.length : Int))) h (fun c6 h => ?_) (fun c6 h => ?_)
     ·refine vwp_skip ?_
      refine vwp_seq ?_
      refine vwp_block ?_
      refine vwp_seq ?_
      obtain ⟨x10, hx10, h⟩ := bd h
      obtain ⟨x11, hx11, h⟩ := bd h
      refine dk hC hmix [.row (rStmt x6), .row ((rL rI) x10), .vc [] [21] (V.tup [ms 0 1 1 rI x11.1, vI x11.2.1, vB x11.2.2]) [ar 3 1 1 rI x11.1]] [10, 11, 12, 56, 57, 58, 59, 60, 61, 62, 63, 64, 65, 66, 67, 68, 69, 70] [(12, vB x11.2.2)] [(21, some (ar 3 1 1 rI x11.1))] [(21, true)] (an (ix_map rStmt hx6) (an (ixn (rL rI) hx10) (an (ixr (rL rI) hx10) (an (c_s_l4Cells G n list x6 x10 hx11) trivial)))) ?_
      obtain ⟨j12, hj12, h⟩ := jn_e h
      refine vwp_jm (γ := Unit) (j := j12) (r := r) (fun (x_ : Bool) (g_ : Unit) => mkS [(0, vM rArr list), (3, V.tp [T.sl (List.map rLoop part.nest), T.sl (List.map rStmt part.body)]), (6, ms 20 1 1 (rL rI) x1.1), (8, vI x4), (9, vI x8), (80, vB x_)] [(20, ar 40 1 1 (rL rI) x1.1), (21, ar 3 1 1 rI x11.1)] [20, 21]) ?_ ?_
      ·
       refine splI h (fun c7 h => ?_) (fun c7 h => ?_)
       ·obtain ⟨x13, hx13, h⟩ := bd h
        refine rk hC [.b false, .b false, .b false, .b false, .row ((rL rI) x10), .b false, .v (vB x13), .b false, .b false] [71, 72, 73, 74, 75, 76, 77, 78, 79, 80] [(80, vB (!x13))] [] [] (an c7 (an c7 (an c7 (an (ixn (rL rI) hx10) (an c7 (an (ixr (rL rI) hx10) (an c7 (an (c_s_l1Point G n x10 hx13) (an c7 (an c7 trivial)))))))))) ?_
        exact ⟨!x13, (), h, lS⟩
       ·refine rk hC [.b true, .b true, .b true, .b true, .b true, .b true, .b true] [71, 72, 73, 74, 75, 76, 77, 78, 79, 80] [(80, vB true)] [] [] (an c7 (an c7 (an c7 (an c7 (an c7 (an c7 (an c7 trivial))))))) ?_
        exact ⟨true, (), h, lS⟩
      ·rintro x14 ⟨⟩ h
       subst hj12
       refine vci (b := x14) h (fun c8 h => ?_) (fun c8 h => ?_)
       ·refine rq hC [] [4, 5] [(4, vI 0), (5, vB false)] [] [] trivial ?_
        refine vwp_ret ?_
        obtain rfl := so h
        exact eR
       ·refine vwp_skip ?_
        refine rk hC [] [9, 54, 55] [(9, vI (wr (x8 + 1)))] [] [] trivial ?_
        exact ⟨wr (x8 + 1), (), h, lS⟩
     ·refine vwp_exit ?_
      refine rk hC [] [8, 38, 39] [(8, vI (wr (x4 + 1)))] [] [] trivial ?_
      exact ⟨wr (x4 + 1), (), h, lS⟩
   ·refine vwp_exit ?_
    refine rq hC [.nat x1.1.length, .nat part.body.length] [4, 5, 81, 82, 83, 84, 85, 86] [(4, vI (wr ((x1.1.length : Int) * (part.body.length : Int)))), (5, vB true)] [] [] (an (lenM (rL rI) x1.1) (an (lenM rStmt part.body) trivial)) ?_
    refine vwp_ret ?_
    obtain rfl := so h
    exact eR
theorem c_s_ProgramValid (G : GS) (n : Nat) (p : Prog) {r : Bool} (h : s_ProgramValid n p = some r) : PCC Tryz.prog G.g 56 [V.agg [vM rArr p.arrays, vM rPart p.parts]] (vB r) := by
 unfold s_ProgramValid at h
 refine pmr tyOK Tryz.func56 rfl rfl rfl rfl rfl rfl rfl ?_
 intro w X hC
 refine rq hC [.b true] [1, 2] [(1, V.tp [T.sl (List.map rArr p.arrays), T.sl (List.map rPart p.parts)])] [] [] trivial ?_
 refine vwp_seq ?_
 obtain ⟨j1, hj1, h⟩ := jn_e h
 refine vwp_jm (γ := Unit) (j := j1) (r := r) (fun (x_ : Bool) (g_ : Unit) => mkS [(1, V.tp [T.sl (List.map rArr p.arrays), T.sl (List.map rPart p.parts)]), (16, vB x_)] [] []) ?_ ?_
 ·
  obtain ⟨x2, hx2, h⟩ := bd h
  refine splI h (fun c1 h => ?_) (fun c1 h => ?_)
  ·refine rk hC [.v (vB x2), .b false, .b false, .b false, .nat p.parts.length, .b false, .b false] [7, 8, 9, 10, 11, 12, 13, 14, 15, 16] [(16, vB (decide ((4 : Int) < (p.parts.length : Int))))] [] [] (an (c_s_l4Arrays G n p.arrays hx2) (an c1 (an c1 (an c1 (an (lenM rPart p.parts) (an c1 (an c1 trivial))))))) ?_
   exact ⟨decide ((4 : Int) < (p.parts.length : Int)), (), h, lS⟩
  ·refine rk hC [.v (vB x2), .b true, .b true, .b true, .b true, .b true] [7, 8, 9, 10, 11, 12, 13, 14, 15, 16] [(16, vB true)] [] [] (an (c_s_l4Arrays G n p.arrays hx2) (an c1 (an c1 (an c1 (an c1 (an c1 trivial)))))) ?_
   exact ⟨true, (), h, lS⟩
 ·rintro x3 ⟨⟩ h
  subst hj1
  refine vci (b := x3) h (fun c2 h => ?_) (fun c2 h => ?_)
  ·refine rq hC [] [2] [(2, vB false)] [] [] trivial ?_
   refine vwp_ret ?_
   obtain rfl := so h
   exact eR
  ·refine vwp_skip ?_
   refine rq hC [] [3] [(3, vI 0)] [] [] trivial ?_
   refine vwp_seq ?_
   refine rq hC [] [4] [(4, vI 0)] [] [] trivial ?_
   refine vwp_block ?_
   refine vwp_lm (γ := Unit) h (fun (x_ : Int × Int) (g_ : Unit) => mkS [(1, V.tp [T.sl (List.map rArr p.arrays), T.sl (List.map rPart p.parts)]), (3, vI x_.1), (4, vI x_.2)] [] []) () (lS) ?_
   rintro again6 ⟨x4, x5⟩ ⟨⟩ h
   refine vwp_seq ?_
   refine rq hC [.nat p.parts.length] [17, 18, 19, 20, 21] [(21, vB (decide (x5 < (p.parts.length : Int))))] [] [] (an (lenM rPart p.parts) trivial) ?_
   refine vci (b := decide (x5 < (p.parts.length : Int))) h (fun c3 h => ?_) (fun c3 h => ?_)
   ·refine vwp_skip ?_
    refine vwp_seq ?_
    refine vwp_block ?_
    refine vwp_seq ?_
    obtain ⟨x7, hx7, h⟩ := bd h
    obtain ⟨x8, hx8, h⟩ := bd h
    refine dk hC hmix [.row (rPart x7), .v (V.tup [vI x8.1, vB x8.2])] [5, 6, 24, 25, 26, 27, 28, 29, 30, 31, 32, 33, 34] [(5, vI x8.1), (6, vB x8.2)] [] [] (an (ix_map rPart hx7) (an (c_s_l4Part G n p.arrays x7 hx8) trivial)) ?_
    refine vwp_seq ?_
    refine rq hC [] [35, 36] [(36, vB (!x8.2))] [] [] trivial ?_
    refine vci (b := !x8.2) h (fun c4 h => ?_) (fun c4 h => ?_)
    ·refine rq hC [] [2] [(2, vB false)] [] [] trivial ?_
     refine vwp_ret ?_
     obtain rfl := so h
     exact eR
    ·refine vwp_skip ?_
     refine rk hC [] [3, 37, 38, 39] [(3, vI (wr (x4 + x8.1)))] [] [] trivial ?_
     refine rk hC [] [4, 22, 23] [(4, vI (wr (x5 + 1)))] [] [] trivial ?_
     exact ⟨(wr (x4 + x8.1), wr (x5 + 1)), (), h, lS⟩
   ·refine vwp_exit ?_
    refine rq hC [] [2, 40, 41] [(2, vB (decide (x4 ≤ 120)))] [] [] trivial ?_
    refine vwp_ret ?_
    obtain rfl := so h
    exact eR
theorem c_s_l4Instances (G : GS) (n : Nat) (p : Prog) {r : (List Inst)} (h : s_l4Instances n p = some r) : VCC Tryz.prog G.g 70 [] [V.agg [vM rArr p.arrays, vM rPart p.parts]] (ms 0 1 3 rInst r) [ar 53 1 3 rInst r] := by
 unfold s_l4Instances at h
 refine vmr tyOK Tryz.func70 rfl rfl rfl rfl rfl rfl rfl rfl ?_
 intro w X β0 hC hg
 refine rq hC [.b true] [1, 2] [(1, V.tp [T.sl (List.map rArr p.arrays), T.sl (List.map rPart p.parts)])] [] [] trivial ?_
 refine rq hC [.nat 20] [3, 8] [(3, ms 20 1 3 rInst [])] [(20, some (ar 53 1 3 rInst []))] [(20, true)] trivial ?_
 refine vwp_seq ?_
 refine rq hC [] [4] [(4, vI 0)] [] [] trivial ?_
 refine vwp_block ?_
 refine vwp_lm (γ := Nat) h (fun (x_ : (List Inst) × Int) (g_ : Nat) => mkS [(1, V.tp [T.sl (List.map rArr p.arrays), T.sl (List.map rPart p.parts)]), (3, ms 20 g_ 3 rInst x_.1), (4, vI x_.2)] [(20, ar 53 g_ 3 rInst x_.1)] [20]) 1 (lS) ?_
 rintro again4 ⟨x1, x2⟩ g3 h
 refine vwp_seq ?_
 refine rq hC [.nat p.parts.length] [9, 10, 11, 12, 13] [(13, vB (decide (x2 < (p.parts.length : Int))))] [] [] (an (lenM rPart p.parts) trivial) ?_
 refine vci (b := decide (x2 < (p.parts.length : Int))) h (fun c1 h => ?_) (fun c1 h => ?_)
 ·refine vwp_skip ?_
  refine vwp_seq ?_
  refine vwp_block ?_
  obtain ⟨x5, hx5, h⟩ := bd h
  obtain ⟨x6, hx6, h⟩ := bd h
  refine rq hC [.nat 21, .row (rPart x5), .vc [21] [] (ms 0 2 1 (rL rI) x6) [ar 40 2 1 (rL rI) x6]] [5, 16, 17, 18, 19, 20, 21, 22, 23] [(5, ms 21 2 1 (rL rI) x6)] [(21, some (ar 40 2 1 (rL rI) x6))] [(21, true), (21, true)] (an (ix_map rPart hx5) (an (c_s_l2Points G n [] 1 x5.nest [] hx6) trivial)) ?_
  refine rq hC [] [6] [(6, vI 0)] [] [] trivial ?_
  refine vwp_block ?_
  refine vwp_lm (γ := Nat) h (fun (x_ : (List Inst) × Int) (g_ : Nat) => mkS [(1, V.tp [T.sl (List.map rArr p.arrays), T.sl (List.map rPart p.parts)]), (3, ms 20 g_ 3 rInst x_.1), (4, vI x2), (5, ms 21 2 1 (rL rI) x6), (6, vI x_.2)] [(20, ar 53 g_ 3 rInst x_.1), (21, ar 40 2 1 (rL rI) x6)] [20, 21]) g3 (lS) ?_
  rintro again10 ⟨x7, x8⟩ g9 h
  refine vwp_seq ?_
  refine rq hC [.nat x6.length] [24, 25, 26, 27] [(27, vB (decide (x8 < (x6.length : Int))))] [] [] (an (lenM (rL rI) x6) trivial) ?_
  refine vci (b := decide (x8 < (x6.length : Int))) h (fun c2 h => ?_) (fun c2 h => ?_)
  ·refine vwp_skip ?_
   refine vwp_seq ?_
   refine vwp_block ?_
   refine rq hC [] [7] [(7, vI 0)] [] [] trivial ?_
   refine vwp_block ?_
   refine vwp_lm (γ := Nat) h (fun (x_ : (List Inst) × Int) (g_ : Nat) => mkS [(1, V.tp [T.sl (List.map rArr p.arrays), T.sl (List.map rPart p.parts)]), (3, ms 20 g_ 3 rInst x_.1), (4, vI x2), (5, ms 21 2 1 (rL rI) x6), (6, vI x8), (7, vI x_.2)] [(20, ar 53 g_ 3 rInst x_.1), (21, ar 40 2 1 (rL rI) x6)] [20, 21]) g9 (lS) ?_
   rintro again14 ⟨x11, x12⟩ g13 h
   refine vwp_seq ?_
   refine rq hC [.row (rPart x5), .nat x5.body.length] [30, 31, 32, 33, 34, 35, 36, 37, 38] [(38, vB (decide (x12 < (x5.body.length : Int))))] [] [] (an (ix_map rPart hx5) (an (lenM rStmt x5.body) trivial)) ?_
   refine vci (b := decide (x12 < (x5.body.length : Int))) h (fun c3 h => ?_) (fun c3 h => ?_)
   ·refine vwp_skip ?_
    refine vwp_seq ?_
    refine vwp_block ?_
    obtain ⟨x15, hx15, h⟩ := bd h
    obtain ⟨x16, hx16, h⟩ := bd h
    obtain ⟨x17, hx17, h⟩ := bd h
    refine rk hC [.nat 22, .row ((rL rI) x15), .rows (List.map rI x16), .at 4, .fz 22 [49] [], .int 0, .rows (List.map rInst x17)] [3, 41, 42, 43, 44, 45, 46, 47, 48, 49, 50, 51, 52] [(3, ms 20 (g13 + 1) 3 rInst x17)] [(22, none), (20, some (ar 53 (g13 + 1) 3 rInst x17))] [(22, true)] (an (ixn (rL rI) hx15) (an (ixr (rL rI) hx15) (an (app_map rI hx16) (an (rwM (r := rI) 1 (fun _ => rfl) []) (an (rwM (r := rI) 1 (fun _ => rfl) x15) (an (app_map rInst hx17) (an (rwM (r := rInst) 3 rInst_len x11) (an (rwM (r := rInst) 3 rInst_len [(⟨x2, x12, x16⟩ : Inst)]) trivial)))))))) ?_
    refine rk hC [] [7, 39, 40] [(7, vI (wr (x12 + 1)))] [] [] trivial ?_
    exact ⟨(x17, wr (x12 + 1)), (g13 + 1), h, lS⟩
   ·refine vwp_exit ?_
    refine rk hC [] [6, 28, 29] [(6, vI (wr (x8 + 1)))] [] [] trivial ?_
    exact ⟨(x11, wr (x8 + 1)), g13, h, lS⟩
  ·refine vwp_exit ?_
   refine rk hC [] [4, 14, 15] [(4, vI (wr (x2 + 1)))] [] [] trivial ?_
   exact ⟨(x7, wr (x2 + 1)), g9, h, lS⟩
 ·refine vwp_exit ?_
  refine rq hC [] [2, 53] [(2, ms 20 g3 3 rInst x1)] [] [] trivial ?_
  refine vwp_weaken (lk hC [.ren 2 20 0] [2] [(2, ms 0 1 3 rInst x1)] [(0, some (ar 53 1 3 rInst x1)), (20, none)] [(0, true)]) ?_
  refine vwp_ret ?_
  obtain rfl := so h
  exact eW
theorem c_i_within (G : GS) (n : Nat) (n_a0 : Int) (low : Int) (high : Int) {r : Bool} (h : i_within n n_a0 low high = some r) : PCC Tryz.prog G.g 89 [vI n_a0, vI low, vI high] (vB r) := by
 unfold i_within at h
 refine pmr tyOK Tryz.func89 rfl rfl rfl rfl rfl rfl rfl ?_
 intro w X hC
 refine rq hC [] [6] [] [] [] trivial ?_
 obtain ⟨j1, hj1, h⟩ := jn_e h
 refine vwp_jm (γ := Unit) (j := j1) (r := r) (fun (x_ : Bool) (g_ : Unit) => mkS [(6, vB x_)] [] []) ?_ ?_
 ·
  refine splI h (fun c1 h => ?_) (fun c1 h => ?_)
  ·refine rk hC [.b false, .b false, .b false, .b false] [6, 7, 8, 9, 10, 11, 12, 13, 14] [(6, vB false)] [] [] (an c1 (an c1 (an c1 (an c1 trivial)))) ?_
   exact ⟨false, (), h, lS⟩
  ·refine rk hC [.b true, .b true, .b true, .b true] [6, 7, 8, 9, 10, 11, 12, 13, 14] [(6, vB (decide (n_a0 ≤ high)))] [] [] (an c1 (an c1 (an c1 (an c1 trivial)))) ?_
   exact ⟨decide (n_a0 ≤ high), (), h, lS⟩
 ·rintro x2 ⟨⟩ h
  subst hj1
  refine vwp_ret ?_
  obtain rfl := so h
  exact eR
theorem c_i_isArray (G : GS) (n : Nat) (s : List UInt8) {r : Bool} (h : i_isArray n s = some r) : PCC Tryz.prog G.g 169 [vS s] (vB r) := by
 unfold i_isArray at h
 refine pmr tyOK Tryz.func169 rfl rfl rfl rfl rfl rfl rfl ?_
 intro w X hC
 refine rq hC [] [2] [] [] [] trivial ?_
 obtain ⟨j1, hj1, h⟩ := jn_e h
 refine vwp_jm (γ := Unit) (j := j1) (r := r) (fun (x_ : Bool) (g_ : Unit) => mkS [(2, vB x_)] [] []) ?_ ?_
 ·
  refine splI h (fun c1 h => ?_) (fun c1 h => ?_)
  ·refine rk hC [.b false, .b false, .b false] [2, 3, 4, 5, 6, 7, 8, 9] [(2, vB false)] [] [] (an c1 (an c1 (an c1 trivial))) ?_
   exact ⟨false, (), h, lS⟩
  ·obtain ⟨x2, hx2, h⟩ := bd h
   refine rk hC [.b true, .b true, .v (vB x2), .b true] [2, 3, 4, 5, 6, 7, 8, 9] [(2, vB x2)] [] [] (an c1 (an c1 (an (G.contains [65, 66, 67, 68] s x2 hx2) (an c1 trivial)))) ?_
   exact ⟨x2, (), h, lS⟩
 ·rintro x3 ⟨⟩ h
  subst hj1
  refine vwp_ret ?_
  obtain rfl := so h
  exact eR
theorem c_i_isConst (G : GS) (n : Nat) (n_a0 : Int) {r : Bool} (h : i_isConst n n_a0 = some r) : PCC Tryz.prog G.g 235 [vI n_a0] (vB r) := by
 unfold i_isConst at h
 refine pmr tyOK Tryz.func235 rfl rfl rfl rfl rfl rfl rfl ?_
 intro w X hC
 refine rq hC [] [2] [] [] [] trivial ?_
 obtain ⟨x1, hx1, h⟩ := bd h
 refine rq hC [.v (vB x1)] [2, 3, 4] [(2, vB x1)] [] [] (an (c_i_within G n n_a0 (-99) 99 hx1) trivial) ?_
 refine vwp_ret ?_
 obtain rfl := so h
 exact eR
theorem c_i_AffineValid_1 (G : GS) (n : Nat) (c : Int) {r : Bool} (h : i_AffineValid_1 n c = some r) : PCC Tryz.prog G.g 236 [vI c] (vB r) := by
 unfold i_AffineValid_1 at h
 refine pmr tyOK Tryz.func236 rfl rfl rfl rfl rfl rfl rfl ?_
 intro w X hC
 refine rq hC [] [2] [] [] [] trivial ?_
 obtain ⟨x1, hx1, h⟩ := bd h
 refine rq hC [.v (vB x1)] [2, 3, 4, 5] [(2, vB (!x1))] [] [] (an (c_i_within G n c (-9) 9 hx1) trivial) ?_
 refine vwp_ret ?_
 obtain rfl := so h
 exact eR
theorem c_l_IndexFunc_int (G : GS) (n : Nat) (s : List Int) (fF : FuncId) (f : Int → Option Bool) (hf : ∀ (q0 : Int) r, f q0 = some r → PCC Tryz.prog G.g fF [vI q0] (vB r)) {r : Int} (h : l_IndexFunc_int n s f = some r) : PCC Tryz.prog G.g 137 [vM rI s, V.fn fF []] (vI r) := by
 unfold l_IndexFunc_int at h
 refine pmr tyOK Tryz.func137 rfl rfl rfl rfl rfl rfl rfl ?_
 intro w X hC
 refine rq hC [] [4] [] [] [] trivial ?_
 refine vwp_seq ?_
 refine rq hC [.nat s.length] [6, 7, 8] [(7, vI (s.length : Int)), (8, vI 0)] [] [] (an (lenM rI s) trivial) ?_
 refine vwp_block ?_
 refine vwp_lm (γ := Unit) h (fun (x_ : Int) (g_ : Unit) => mkS [(0, vM rI s), (1, V.fn fF []), (7, vI (s.length : Int)), (8, vI x_)] [] []) () (lS) ?_
 rintro again2 x1 ⟨⟩ h
 refine rq hC [] [9] [(9, vB (decide (x1 < (s.length : Int))))] [] [] trivial ?_
 refine vwp_seq ?_
 refine vci (b := decide (x1 < (s.length : Int))) h (fun c1 h => ?_) (fun c1 h => ?_)
 ·refine vwp_skip ?_
  refine vwp_seq ?_
  refine vwp_block ?_
  refine rq hC [] [5, 10] [(5, vI x1)] [] [] trivial ?_
  obtain ⟨x3, hx3, h⟩ := bd h
  obtain ⟨x4, hx4, h⟩ := bd h
  refine rq hC [.row (rI x3), .v (vB x4)] [11, 12, 13, 14, 15, 16] [(16, vB x4)] [] [] (an (ix_map rI hx3) (an (hf x3 _ hx4) trivial)) ?_
  refine vci (b := x4) h (fun c2 h => ?_) (fun c2 h => ?_)
  ·refine rq hC [] [4, 17] [(4, vI x1)] [] [] trivial ?_
   refine vwp_ret ?_
   obtain rfl := so h
   exact eR
  ·refine vwp_skip ?_
   refine rk hC [] [8, 18] [(8, vI (wr (x1 + 1)))] [] [] trivial ?_
   exact ⟨wr (x1 + 1), (), h, lS⟩
 ·refine vwp_exit ?_
  refine rq hC [] [4] [(4, vI (-1))] [] [] trivial ?_
  refine vwp_ret ?_
  obtain rfl := so h
  exact eR
end Go.Lift
