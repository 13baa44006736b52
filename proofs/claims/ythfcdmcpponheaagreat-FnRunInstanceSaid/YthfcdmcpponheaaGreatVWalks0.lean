/- The walks: the code computes what the plain functions say. -/
import Derived.Test.YthfcdmcpponheaaGreatVModels
import Derived.Test.YthfcdmcpponheaaGreatVTab
import Derived.Test.YthfcdmcpponheaaGreatVCells
set_option maxRecDepth 10000
set_option linter.unusedVariables false
namespace Go.Lift
open Go Go.Proofs
variable (G : GS) {n : Nat}
theorem c_s_l4Arrays {list} {r} (h : s_l4Arrays n list = some r) : PCC Tryz.prog G.g 102 [vM rArr list] (vB r) := by
 unfold s_l4Arrays at h
 refine pmr tyOK Tryz.func102 rfl rfl rfl rfl rfl rfl rfl ?_
 intro w X hC
 refine rq hC [] [2] [] [] [] a0 ?_
 refine qs (rq hC [] [3] [(3, vI 0)] [] [] trivial ?_)
 refine qb (vwp_lm (γ := Unit) h (fun x_ _ => mkS [(0, vM rArr list), (3, vI x_)] [] []) () (lS) ?_)
 rintro again2 x1 ⟨⟩ h
 refine qs (rq hC [.nat list.length] (fr 6 4) [(9, vB (decide (x1 < (list.length : Int))))] [] [] (a1 (lenM rArr list)) ?_)
 refine vci (b := decide (x1 < (list.length : Int))) h (fun c1 h => ?_) (fun c1 h => ?_)
 ·refine qk (qs (qb ?_))
  obtain ⟨x3, hx3, h⟩ := bd h
  refine rq hC [.row (rArr x3), .nat 20] [4, 12, 13, 14, 15] [(4, V.ref 20 0)] [(20, sc [vS x3.name, vM rI x3.dims])] [(20, true)] (a1 (ix_map rArr hx3)) ?_
  refine qs ?_
  obtain ⟨j4, hj4, h⟩ := jn_e h
  refine vwp_jm (γ := Unit) (j := j4) (r := r) (fun x_ _ => mkS [(0, vM rArr list), (3, vI x1), (4, V.ref 20 0), (56, vB x_)] [(20, E.cells [vS x3.name, vM rI x3.dims])] [20]) ?_ ?_
  ·
   refine splI h (fun c2 h => ?_) (fun c2 h => ?_)
   ·refine splI h (fun c3 h => ?_) (fun c3 h => ?_)
    ·refine splI h (fun c4 h => ?_) (fun c4 h => ?_)
     ·refine splI h (fun c5 h => ?_) (fun c5 h => ?_)
      ·refine splI h (fun c6 h => ?_) (fun c6 h => ?_)
       ·refine dk hC hmix [.b false, .b false, .b false, .b false, .b false, .b false, .b false, .b false, .b false, .b false, .b false, .b false, .b false, .b false, .b false, .b false, .b false, .b false, .b false, .b false, .b false, .b false, .b false, .b false, .b false, .b false, .nat x3.dims.length, .b false, .b false, .b false, .b false, .b false, .nat x3.dims.length, .b false, .b false] (fr 16 41) [(56, vB (decide ((2 : Int) < (x3.dims.length : Int))))] [] [] (an c2 (an c2 (an c2 (an c2 (an c3 (an c3 (an c3 (an c3 (an c4 (an c4 (an c4 (an c5 (an c5 (an c5 (an c5 (an c5 (an c5 (an c5 (an c5 (an c5 (an c4 (an c5 (an c4 (a12 (Eq.refl false) (Eq.refl false) (Eq.refl false) (lenM rI x3.dims) (Eq.refl false) (Eq.refl false) c6 c6 c6 (lenM rI x3.dims) c6 c6)))))))))))))))))))))))) ?_
        exact ⟨decide ((2 : Int) < (x3.dims.length : Int)), (), h, lS⟩
       ·refine dk hC hmix [.b false, .b false, .b false, .b false, .b false, .b false, .b false, .b false, .b false, .b false, .b false, .b false, .b false, .b false, .b false, .b false, .b false, .b false, .b false, .b false, .b false, .b false, .b false, .b false, .b false, .b false, .nat x3.dims.length, .b false, .b false, .b true, .b true, .b true, .b true, .b true] (fr 16 41) [(56, vB true)] [] [] (an c2 (an c2 (an c2 (an c2 (an c3 (an c3 (an c3 (an c3 (an c4 (an c4 (an c4 (an c5 (an c5 (an c5 (an c5 (an c5 (an c5 (an c5 (an c5 (an c5 (an c4 (an c5 (a12 c4 (Eq.refl false) (Eq.refl false) (Eq.refl false) (lenM rI x3.dims) (Eq.refl false) (Eq.refl false) c6 c6 c6 c6 c6))))))))))))))))))))))) ?_
        exact ⟨true, (), h, lS⟩
      ·obtain ⟨x5, hx5, h⟩ := bd h
       refine splI h (fun c7 h => ?_) (fun c7 h => ?_)
       ·refine splI h (fun c8 h => ?_) (fun c8 h => ?_)
        ·refine dk hC hmix [.b false, .b false, .b false, .b false, .b false, .b false, .b false, .b false, .b false, .b false, .b false, .b true, .b true, .b true, .b true, .row (rArr x5), .b true, .b true, .b true, .b true, .b true, .b false, .b true, .b false, .b false, .b false, .b false, .nat x3.dims.length, .b false, .b false, .b false, .b false, .b false, .nat x3.dims.length, .b false, .b false] (fr 16 41) [(56, vB (decide ((2 : Int) < (x3.dims.length : Int))))] [] [] (an c2 (an c2 (an c2 (an c2 (an c3 (an c3 (an c3 (an c3 (an c4 (an c4 (an c4 (an c5 (an c5 (an c5 (an c5 (an (ix_map rArr hx5) (an c5 (an c5 (an c5 (an c5 (an c5 (an c4 (an c5 (an c4 (a12 c7 c7 c7 (lenM rI x3.dims) c7 c7 c8 c8 c8 (lenM rI x3.dims) c8 c8))))))))))))))))))))))))) ?_
         exact ⟨decide ((2 : Int) < (x3.dims.length : Int)), (), h, lS⟩
        ·refine dk hC hmix [.b false, .b false, .b false, .b false, .b false, .b false, .b false, .b false, .b false, .b false, .b false, .b true, .b true, .b true, .b true, .row (rArr x5), .b true, .b true, .b true, .b true, .b true, .b false, .b true, .b false, .b false, .b false, .b false, .nat x3.dims.length, .b false, .b false, .b true, .b true, .b true, .b true, .b true] (fr 16 41) [(56, vB true)] [] [] (an c2 (an c2 (an c2 (an c2 (an c3 (an c3 (an c3 (an c3 (an c4 (an c4 (an c4 (an c5 (an c5 (an c5 (an c5 (an (ix_map rArr hx5) (an c5 (an c5 (an c5 (an c5 (an c5 (an c4 (an c5 (a12 c4 c7 c7 c7 (lenM rI x3.dims) c7 c7 c8 c8 c8 c8 c8)))))))))))))))))))))))) ?_
         exact ⟨true, (), h, lS⟩
       ·refine dk hC hmix [.b false, .b false, .b false, .b false, .b false, .b false, .b false, .b false, .b false, .b false, .b false, .b true, .b true, .b true, .b true, .row (rArr x5), .b true, .b true, .b true, .b true, .b true, .b false, .b true, .b false, .b true, .b true, .b true, .b true, .b true, .b true, .b true, .b true, .b true, .b true] (fr 16 41) [(56, vB true)] [] [] (an c2 (an c2 (an c2 (an c2 (an c3 (an c3 (an c3 (an c3 (an c4 (an c4 (an c4 (an c5 (an c5 (an c5 (an c5 (an (ix_map rArr hx5) (an c5 (an c5 (an c5 (an c5 (an c5 (an c4 (a12 c5 c4 c7 c7 c7 c7 c7 (Eq.refl true) (Eq.refl true) (Eq.refl true) (Eq.refl true) (Eq.refl true)))))))))))))))))))))))) ?_
        exact ⟨true, (), h, lS⟩
     ·refine dk hC hmix [.b false, .b false, .b false, .b false, .b false, .b false, .b false, .b false, .b true, .b true, .b true, .b true, .b true, .b true, .b true, .b true, .b true, .b true, .b true, .b true, .b true, .b true, .b true] (fr 16 41) [(56, vB true)] [] [] (an c2 (an c2 (an c2 (an c2 (an c3 (an c3 (an c3 (an c3 (an c4 (an c4 (an c4 (a12 c4 c4 (Eq.refl true) (Eq.refl true) (Eq.refl true) (Eq.refl true) (Eq.refl true) (Eq.refl true) (Eq.refl true) (Eq.refl true) (Eq.refl true) (Eq.refl true))))))))))))) ?_
      exact ⟨true, (), h, lS⟩
    ·refine dk hC hmix [.b false, .b false, .b false, .b false, .b true, .b true, .b true, .b true, .b true, .b true, .b true, .b true, .b true, .b true, .b true, .b true, .b true, .b true, .b true, .b true, .b true, .b true, .b true] (fr 16 41) [(56, vB true)] [] [] (an c2 (an c2 (an c2 (an c2 (an c3 (an c3 (an c3 (an c3 (an (Eq.refl true) (an (Eq.refl true) (an (Eq.refl true) (a12 (Eq.refl true) (Eq.refl true) (Eq.refl true) (Eq.refl true) (Eq.refl true) (Eq.refl true) (Eq.refl true) (Eq.refl true) (Eq.refl true) (Eq.refl true) (Eq.refl true) (Eq.refl true))))))))))))) ?_
     exact ⟨true, (), h, lS⟩
   ·refine dk hC hmix [.b true, .b true, .b true, .b true, .b true, .b true, .b true, .b true, .b true, .b true, .b true, .b true, .b true, .b true, .b true, .b true, .b true, .b true, .b true, .b true, .b true, .b true, .b true] (fr 16 41) [(56, vB true)] [] [] (an c2 (an c2 (an c2 (an c2 (an (Eq.refl true) (an (Eq.refl true) (an (Eq.refl true) (an (Eq.refl true) (an (Eq.refl true) (an (Eq.refl true) (an (Eq.refl true) (a12 (Eq.refl true) (Eq.refl true) (Eq.refl true) (Eq.refl true) (Eq.refl true) (Eq.refl true) (Eq.refl true) (Eq.refl true) (Eq.refl true) (Eq.refl true) (Eq.refl true) (Eq.refl true))))))))))))) ?_
    exact ⟨true, (), h, lS⟩
  ·rintro x6 ⟨⟩ h
   subst hj4
   refine vci (b := x6) h (fun c9 h => ?_) (fun c9 h => ?_)
   ·refine rq hC [] [2] [(2, vB false)] [] [] a0 ?_
    refine qr ?_
    obtain rfl := so h
    exact eR
   ·refine qk (rq hC [] [5] [(5, vI 0)] [] [] trivial ?_)
    refine qb (vwp_lm (γ := Unit) h (fun x_ _ => mkS [(0, vM rArr list), (3, vI x1), (4, V.ref 20 0), (5, vI x_)] [(20, E.cells [vS x3.name, vM rI x3.dims])] [20]) () (lS) ?_)
    rintro again8 x7 ⟨⟩ h
    refine qs (rq hC [.nat x3.dims.length] (fr 57 5) [(61, vB (decide (x7 < (x3.dims.length : Int))))] [] [] (a1 (lenM rI x3.dims)) ?_)
    refine vci (b := decide (x7 < (x3.dims.length : Int))) h (fun c10 h => ?_) (fun c10 h => ?_)
    ·refine qk (qs (qb ?_))
     obtain ⟨j9, hj9, h⟩ := jn_e h
     refine vwp_jm (γ := Unit) (j := j9) (r := r) (fun x_ _ => mkS [(0, vM rArr list), (3, vI x1), (4, V.ref 20 0), (5, vI x7), (77, vB x_)] [(20, E.cells [vS x3.name, vM rI x3.dims])] [20]) ?_ ?_
     ·
      obtain ⟨x10, hx10, h⟩ := bd h
      refine splI h (fun c11 h => ?_) (fun c11 h => ?_)
      ·refine rk hC [.row (rI x10), .b false, .b false, .b false, .b false, .row (rI x10), .b false, .b false, .b false] (fr 64 14) [(77, vB (decide ((6 : Int) < x10)))] [] [] (a9 (ix_map rI hx10) c11 c11 c11 c11 (ix_map rI hx10) c11 c11 c11) ?_
       exact ⟨decide ((6 : Int) < x10), (), h, lS⟩
      ·refine rk hC [.row (rI x10), .b true, .b true, .b true, .b true, .b true, .b true, .b true] (fr 64 14) [(77, vB true)] [] [] (a8 (ix_map rI hx10) c11 c11 c11 c11 c11 c11 c11) ?_
       exact ⟨true, (), h, lS⟩
     ·rintro x11 ⟨⟩ h
      subst hj9
      refine vci (b := x11) h (fun c12 h => ?_) (fun c12 h => ?_)
      ·refine rq hC [] [2] [(2, vB false)] [] [] a0 ?_
       refine qr ?_
       obtain rfl := so h
       exact eR
      ·refine qk (rk hC [] [5, 62, 63] [(5, vI (wr (x7 + 1)))] [] [] trivial ?_)
       exact ⟨wr (x7 + 1), (), h, lS⟩
    ·refine qxt (rk hC [] [3, 10, 11] [(3, vI (wr (x1 + 1)))] [] [] trivial ?_)
     exact ⟨wr (x1 + 1), (), h, lS⟩
 ·refine qxt (rq hC [.nat list.length] [2, 78, 79, 80] [(2, vB (decide ((list.length : Int) ≤ 4)))] [] [] (a1 (lenM rArr list)) ?_)
  refine qr ?_
  obtain rfl := so h
  exact eR
theorem c_s_l1Eval {a} {point} {r} (h : s_l1Eval n a point = some r) : PCC Tryz.prog G.g 142 [V.agg (cAffine a), vM rI point] (vI r) := by
 unfold s_l1Eval at h
 refine pmr tyOK Tryz.func142 rfl rfl rfl rfl rfl rfl rfl ?_
 intro w X hC
 refine rq hC [.b true] [2, 4] [(2, V.tp (tAffine a))] [] [] a0 ?_
 refine rq hC [] [5, 7, 8] [(5, vI a.const)] [] [] a0 ?_
 refine qs (rq hC [] [6] [(6, vI 0)] [] [] trivial ?_)
 refine qb (vwp_lm (γ := Unit) h (fun x_ _ => mkS [(1, vM rI point), (2, V.tp (tAffine a)), (5, vI x_.1), (6, vI x_.2)] [] []) () (lS) ?_)
 rintro again3 ⟨x1, x2⟩ ⟨⟩ h
 refine qs ?_
 obtain ⟨j4, hj4, h⟩ := jn_e h
 refine vwp_jm (γ := Unit) (j := j4) (r := r) (fun x_ _ => mkS [(1, vM rI point), (2, V.tp (tAffine a)), (5, vI x1), (6, vI x2), (19, vB x_)] [] []) ?_ ?_
 ·
  refine splI h (fun c1 h => ?_) (fun c1 h => ?_)
  ·refine rk hC [.nat point.length, .b false, .b false, .b false, .b false, .b false, .b false] (fr 9 11) [(19, vB false)] [] [] (a7 (lenM rI point) c1 c1 c1 c1 c1 c1) ?_
   exact ⟨false, (), h, lS⟩
  ·refine rk hC [.nat point.length, .b true, .b true, .b true, .b true, .nat a.coefs.length, .b true, .b true] (fr 9 11) [(19, vB (decide (x2 < (a.coefs.length : Int))))] [] [] (a8 (lenM rI point) c1 c1 c1 c1 (lenM rI a.coefs) c1 c1) ?_
   exact ⟨decide (x2 < (a.coefs.length : Int)), (), h, lS⟩
 ·rintro x5 ⟨⟩ h
  subst hj4
  refine vci (b := x5) h (fun c2 h => ?_) (fun c2 h => ?_)
  ·refine qk (qs (qb ?_))
   obtain ⟨x6, hx6, h⟩ := bd h
   obtain ⟨x7, hx7, h⟩ := bd h
   refine dk hC hmix [.row (rI x6), .row (rI x7)] [5, 22, 23, 24, 25, 26, 27, 28, 29, 30, 31, 32, 33] [(5, vI (wr (x1 + (wr (x6 * x7)))))] [] [] (a2 (ix_map rI hx6) (ix_map rI hx7)) ?_
   refine rk hC [] [6, 20, 21] [(6, vI (wr (x2 + 1)))] [] [] a0 ?_
   exact ⟨(wr (x1 + (wr (x6 * x7))), wr (x2 + 1)), (), h, lS⟩
  ·refine qxt (rq hC [] [4, 34] [(4, vI x1)] [] [] trivial ?_)
   refine qr ?_
   obtain rfl := so h
   exact eR
theorem c_s_l2Range {loop} {p} {r} (h : s_l2Range n loop p = some r) : PCC Tryz.prog G.g 165 [V.agg (cLoop loop), vM rI p] (V.tup [vI r.1, vI r.2]) := by
 unfold s_l2Range at h
 refine pmr tyOK Tryz.func165 rfl rfl rfl rfl rfl rfl rfl ?_
 intro w X hC
 refine rq hC [.b true] [2, 4, 5] [(2, V.tp (tLoop loop))] [] [] a0 ?_
 obtain ⟨x1, hx1, h⟩ := bd h
 obtain ⟨x2, hx2, h⟩ := bd h
 refine rq hC [.row (rAffine x1), .v (vI x2)] [6, 12, 13, 14, 15, 16, 17] [(6, vI x2)] [] [] (a2 (ix_map rAffine hx1) (c_s_l1Eval G hx2)) ?_
 obtain ⟨x3, hx3, h⟩ := bd h
 obtain ⟨x4, hx4, h⟩ := bd h
 refine rq hC [.row (rAffine x3), .v (vI x4)] [7, 18, 19, 20, 21, 22, 23] [(7, vI x4)] [] [] (a2 (ix_map rAffine hx3) (c_s_l1Eval G hx4)) ?_
 refine qs (rq hC [] [8] [(8, vI 1)] [] [] trivial ?_)
 refine qb (vwp_lm (γ := Unit) h (fun x_ _ => mkS [(1, vM rI p), (2, V.tp (tLoop loop)), (6, vI x_.1), (7, vI x4), (8, vI x_.2)] [] []) () (lS) ?_)
 rintro again7 ⟨x5, x6⟩ ⟨⟩ h
 refine qs (rq hC [.nat loop.lo.length] (fr 24 5) [(28, vB (decide (x6 < (loop.lo.length : Int))))] [] [] (a1 (lenM rAffine loop.lo)) ?_)
 refine vci (b := decide (x6 < (loop.lo.length : Int))) h (fun c1 h => ?_) (fun c1 h => ?_)
 ·refine qk ?_
  obtain ⟨j8, hj8, h⟩ := jn_e h
  refine vwp_jm (γ := Unit) (j := j8) (r := r) (fun x_ _ => mkS [(1, vM rI p), (2, V.tp (tLoop loop)), (6, vI x_), (7, vI x4), (8, vI x6)] [] []) ?_ ?_
  ·
   refine qb ?_
   obtain ⟨x9, hx9, h⟩ := bd h
   obtain ⟨x10, hx10, h⟩ := bd h
   refine rq hC [.row (rAffine x9), .v (vI x10)] [9, 31, 32, 33, 34, 35, 36, 37] [(9, vI x10)] [] [] (a2 (ix_map rAffine hx9) (c_s_l1Eval G hx10)) ?_
   refine rq hC [] [38, 39, 40] [(40, vB (decide (x5 < x10)))] [] [] a0 ?_
   refine vci (b := decide (x5 < x10)) h (fun c2 h => ?_) (fun c2 h => ?_)
   ·refine rk hC [] [6, 41] [(6, vI x10)] [] [] a0 ?_
    exact ⟨x10, (), h, lS⟩
   ·refine qk ?_
    exact ⟨x5, (), h, lS⟩
  ·rintro x11 ⟨⟩ h
   subst hj8
   refine rk hC [] [8, 29, 30] [(8, vI (wr (x6 + 1)))] [] [] a0 ?_
   exact ⟨(x11, wr (x6 + 1)), (), h, lS⟩
 ·refine qxt (qs (rq hC [] [10] [(10, vI 1)] [] [] trivial ?_))
  refine qb (vwp_lm (γ := Unit) h (fun x_ _ => mkS [(1, vM rI p), (2, V.tp (tLoop loop)), (6, vI x5), (7, vI x_.1), (10, vI x_.2)] [] []) () (lS) ?_)
  rintro again14 ⟨x12, x13⟩ ⟨⟩ h
  refine qs (rq hC [.nat loop.hi.length] (fr 42 5) [(46, vB (decide (x13 < (loop.hi.length : Int))))] [] [] (a1 (lenM rAffine loop.hi)) ?_)
  refine vci (b := decide (x13 < (loop.hi.length : Int))) h (fun c3 h => ?_) (fun c3 h => ?_)
  ·refine qk ?_
   obtain ⟨j15, hj15, h⟩ := jn_e h
   refine vwp_jm (γ := Unit) (j := j15) (r := r) (fun x_ _ => mkS [(1, vM rI p), (2, V.tp (tLoop loop)), (6, vI x5), (7, vI x_), (10, vI x13)] [] []) ?_ ?_
   ·
    refine qb ?_
    obtain ⟨x16, hx16, h⟩ := bd h
    obtain ⟨x17, hx17, h⟩ := bd h
    refine rq hC [.row (rAffine x16), .v (vI x17)] [11, 49, 50, 51, 52, 53, 54, 55] [(11, vI x17)] [] [] (a2 (ix_map rAffine hx16) (c_s_l1Eval G hx17)) ?_
    refine rq hC [] [56, 57, 58] [(58, vB (decide (x17 < x12)))] [] [] a0 ?_
    refine vci (b := decide (x17 < x12)) h (fun c4 h => ?_) (fun c4 h => ?_)
    ·refine rk hC [] [7, 59] [(7, vI x17)] [] [] a0 ?_
     exact ⟨x17, (), h, lS⟩
    ·refine qk ?_
     exact ⟨x12, (), h, lS⟩
   ·rintro x18 ⟨⟩ h
    subst hj15
    refine rk hC [] [10, 47, 48] [(10, vI (wr (x13 + 1)))] [] [] a0 ?_
    exact ⟨(x18, wr (x13 + 1)), (), h, lS⟩
  ·refine qxt (rq hC [] [4, 5, 60, 61] [(4, vI x5), (5, vI x12)] [] [] trivial ?_)
   refine qr ?_
   obtain rfl := so h
   exact eR
theorem c_s_l2Points (G : GS) : ∀ (n : Nat) (out : List (List Int)) (outG : Nat) (nest : List Loop) (p : List Int) {r : (List (List Int))} (h : s_l2Points n out nest p = some r), VCC Tryz.prog G.g 119 [ar 40 outG 1 (rL rI) out] [ms 0 outG 1 (rL rI) out, vM rLoop nest, vM rI p] (ms 0 (outG + 1) 1 (rL rI) r) [ar 40 (outG + 1) 1 (rL rI) r] := by
 intro n
 induction n with
 | zero => intro out outG nest p r h; rw [s_l2Points.eq_def] at h; cases h
 | succ n ih =>
  intro out outG nest p r h
  rw [s_l2Points.eq_def] at h; dsimp only at h
  refine vmr tyOK Tryz.func119 rfl rfl rfl rfl rfl rfl rfl rfl ?_
  intro w X β0 hC hg
  refine rq hC [] [6] [] [] [] a0 ?_
  refine qs (rq hC [.nat p.length, .nat nest.length] (fr 10 5) [(14, vB (decide ((p.length : Int) = (nest.length : Int))))] [] [] (a2 (lenM rI p) (lenM rLoop nest)) ?_)
  refine vci (b := decide ((p.length : Int) = (nest.length : Int))) h (fun c1 h => ?_) (fun c1 h => ?_)
  ·obtain ⟨x1, hx1, h⟩ := bd h
   obtain ⟨x2, hx2, h⟩ := bd h
   refine rq hC [.nat 20, .rows (List.map rI x1), .at 3, .fz 20 [18] [], .int 0, .rows (List.map (rL rI) x2)] [0, 6, 15, 16, 17, 18, 19, 20] [(6, ms 0 (outG + 1) 1 (rL rI) x2)] [(20, none), (0, some (ar 40 (outG + 1) 1 (rL rI) x2))] [(20, true)] (a6 (app_map rI hx1) (rwM (r := rI) 1 (fun _ => rfl) []) (rwM (r := rI) 1 (fun _ => rfl) p) (app_map (rL rI) hx2) (rwM (r := (rL rI)) 1 (fun _ => rfl) out) (rwM (r := (rL rI)) 1 (fun _ => rfl) [x1])) ?_
   refine qw (S.le_regenS 6 0 outG (outG + 1) 1 0 (List.map (rL rI) x2).length (e := 40) (rows := List.map (rL rI) x2) rfl (by kernel_rfl) (by kernel_rfl) hg.1) ?_
   refine qr ?_
   obtain rfl := so h
   exact eW
  ·refine qk ?_
   obtain ⟨x3, hx3, h⟩ := bd h
   obtain ⟨x4, hx4, h⟩ := bd h
   refine rq hC [.nat p.length, .row (rLoop x3), .v (V.tup [vI x4.1, vI x4.2])] [7, 8, 21, 22, 23, 24, 25, 26, 27, 28, 29, 30] [(7, vI x4.1), (8, vI x4.2)] [] [] (a3 (lenM rI p) (ix_map rLoop hx3) (c_s_l2Range G hx4)) ?_
   refine qs (rq hC [] [9, 31] [(9, vI x4.1)] [] [] trivial ?_)
   refine qb (vwp_lm (γ := Nat) h (fun x_ g_ => mkS [(0, ms 0 g_ 1 (rL rI) x_.1), (1, vM rLoop nest), (2, vM rI p), (8, vI x4.2), (9, vI x_.2)] [(0, ar 40 g_ 1 (rL rI) x_.1)] [0]) outG (lS) ?_)
   rintro again8 ⟨x5, x6⟩ g7 h
   refine qs ?_
   obtain ⟨j9, hj9, h⟩ := jn_e h
   refine vwp_jm (γ := Unit) (j := j9) (r := r) (fun x_ _ => mkS [(0, ms 0 g7 1 (rL rI) x5), (1, vM rLoop nest), (2, vM rI p), (8, vI x4.2), (9, vI x6), (39, vB x_)] [(0, ar 40 g7 1 (rL rI) x5)] [0]) ?_ ?_
   ·
    refine splI h (fun c2 h => ?_) (fun c2 h => ?_)
    ·refine rk hC [.b false, .b false, .b false, .b false] (fr 32 8) [(39, vB false)] [] [] (a4 c2 c2 c2 c2) ?_
     exact ⟨false, (), h, lS⟩
    ·refine rk hC [.b true, .b true, .nat x5.length, .b true, .b true] (fr 32 8) [(39, vB (decide ((x5.length : Int) ≤ 120)))] [] [] (a5 c2 c2 (lenM (rL rI) x5) c2 c2) ?_
     exact ⟨decide ((x5.length : Int) ≤ 120), (), h, lS⟩
   ·rintro x10 ⟨⟩ h
    subst hj9
    refine vci (b := x10) h (fun c3 h => ?_) (fun c3 h => ?_)
    ·refine qk (qs (qb ?_))
     obtain ⟨x11, hx11, h⟩ := bd h
     obtain ⟨x12, hx12, h⟩ := bd h
     obtain ⟨x13, hx13, h⟩ := bd h
     refine rk hC [.nat 20, .rows (List.map rI x11), .int 0, .rows (List.map rI x12), .at 2, .fz 20 [49] [], .vc [0] [] (ms 0 (g7 + 1) 1 (rL rI) x13) [ar 40 (g7 + 1) 1 (rL rI) x13]] [0, 42, 43, 44, 45, 46, 47, 48, 49, 50] [(0, ms 0 (g7 + 1) 1 (rL rI) x13)] [(20, none), (0, some (ar 40 (g7 + 1) 1 (rL rI) x13))] [(20, true), (0, true)] (a7 (app_map rI hx11) (rwM (r := rI) 1 (fun _ => rfl) []) (rwM (r := rI) 1 (fun _ => rfl) p) (app_map rI hx12) (rwM (r := rI) 1 (fun _ => rfl) x11) (rwM (r := rI) 1 (fun _ => rfl) [x6]) (ih x5 g7 nest x12 hx13)) ?_
     refine rk hC [] [9, 40, 41] [(9, vI (wr (x6 + 1)))] [] [] a0 ?_
     exact ⟨(x13, wr (x6 + 1)), (g7 + 1), h, lS⟩
    ·refine qxt (rq hC [] [6, 51] [(6, ms 0 g7 1 (rL rI) x5)] [] [] trivial ?_)
     refine qw (S.le_regenS 6 0 outG g7 1 0 (List.map (rL rI) x5).length (e := 40) (rows := List.map (rL rI) x5) rfl (by kernel_rfl) (by kernel_rfl) hg.1) ?_
     refine qr ?_
     obtain rfl := so h
     exact eW
theorem c_s_l1Within {n_a0} {most} {r} (h : s_l1Within n n_a0 most = some r) : PCC Tryz.prog G.g 195 [vI n_a0, vI most] (vB r) := by
 unfold s_l1Within at h
 refine pmr tyOK Tryz.func195 rfl rfl rfl rfl rfl rfl rfl ?_
 intro w X hC
 refine rq hC [] [4] [] [] [] a0 ?_
 obtain ⟨j1, hj1, h⟩ := jn_e h
 refine vwp_jm (γ := Unit) (j := j1) (r := r) (fun x_ _ => mkS [(4, vB x_)] [] []) ?_ ?_
 ·
  refine splI h (fun c1 h => ?_) (fun c1 h => ?_)
  ·refine rk hC [.b false, .b false, .b false, .b false] (fr 4 10) [(4, vB false)] [] [] (a4 c1 c1 c1 c1) ?_
   exact ⟨false, (), h, lS⟩
  ·refine rk hC [.b true, .b true, .b true, .b true] (fr 4 10) [(4, vB (decide (n_a0 ≤ most)))] [] [] (a4 c1 c1 c1 c1) ?_
   exact ⟨decide (n_a0 ≤ most), (), h, lS⟩
 ·rintro x2 ⟨⟩ h
  subst hj1
  refine qr ?_
  obtain rfl := so h
  exact eR
theorem c_s_AffineValid {a} {r} (h : s_AffineValid n a = some r) : PCC Tryz.prog G.g 222 [V.agg (cAffine a)] (vB r) := by
 unfold s_AffineValid at h
 refine pmr tyOK Tryz.func222 rfl rfl rfl rfl rfl rfl rfl ?_
 intro w X hC
 refine rq hC [.b true] [1, 2] [(1, V.tp (tAffine a))] [] [] a0 ?_
 refine qs (rq hC [] [3] [(3, vI 0)] [] [] trivial ?_)
 refine qb (vwp_lm (γ := Unit) h (fun x_ _ => mkS [(1, V.tp (tAffine a)), (3, vI x_)] [] []) () (lS) ?_)
 rintro again2 x1 ⟨⟩ h
 refine qs (rq hC [.nat a.coefs.length] (fr 4 5) [(8, vB (decide (x1 < (a.coefs.length : Int))))] [] [] (a1 (lenM rI a.coefs)) ?_)
 refine vci (b := decide (x1 < (a.coefs.length : Int))) h (fun c1 h => ?_) (fun c1 h => ?_)
 ·refine qk (qs (qb ?_))
  obtain ⟨x3, hx3, h⟩ := bd h
  obtain ⟨x4, hx4, h⟩ := bd h
  refine rq hC [.row (rI x3), .v (vB x4)] (fr 11 7) [(17, vB (!x4))] [] [] (a2 (ix_map rI hx3) (c_s_l1Within G hx4)) ?_
  refine vci (b := !x4) h (fun c2 h => ?_) (fun c2 h => ?_)
  ·refine rq hC [] [2] [(2, vB false)] [] [] a0 ?_
   refine qr ?_
   obtain rfl := so h
   exact eR
  ·refine qk (rk hC [] [3, 9, 10] [(3, vI (wr (x1 + 1)))] [] [] trivial ?_)
   exact ⟨wr (x1 + 1), (), h, lS⟩
 ·refine qxt ?_
  obtain ⟨j5, hj5, h⟩ := jn_e h
  refine vwp_jm (γ := Unit) (j := j5) (r := r) (fun x_ _ => mkS [(2, vB x_)] [] []) ?_ ?_
  ·
   refine splI h (fun c3 h => ?_) (fun c3 h => ?_)
   ·refine rk hC [.nat a.coefs.length, .b false, .b false, .b false, .b false] [2, 18, 19, 20, 21, 22, 23, 24, 25, 26] [(2, vB false)] [] [] (a5 (lenM rI a.coefs) c3 c3 c3 c3) ?_
    exact ⟨false, (), h, lS⟩
   ·obtain ⟨x6, hx6, h⟩ := bd h
    refine rk hC [.nat a.coefs.length, .b true, .b true, .b true, .v (vB x6), .b true] [2, 18, 19, 20, 21, 22, 23, 24, 25, 26] [(2, vB x6)] [] [] (a6 (lenM rI a.coefs) c3 c3 c3 (c_s_l1Within G hx6) c3) ?_
    exact ⟨x6, (), h, lS⟩
  ·rintro x7 ⟨⟩ h
   subst hj5
   refine qr ?_
   obtain rfl := so h
   exact eR
theorem c_s_l1Depth {a} {r} (h : s_l1Depth n a = some r) : PCC Tryz.prog G.g 223 [V.agg (cAffine a)] (vI r) := by
 unfold s_l1Depth at h
 refine pmr tyOK Tryz.func223 rfl rfl rfl rfl rfl rfl rfl ?_
 intro w X hC
 refine rq hC [.b true] [1, 2] [(1, V.tp (tAffine a))] [] [] a0 ?_
 refine rq hC [] [3] [(3, vI 0)] [] [] a0 ?_
 refine qs (rq hC [] [4] [(4, vI 0)] [] [] trivial ?_)
 refine qb (vwp_lm (γ := Unit) h (fun x_ _ => mkS [(1, V.tp (tAffine a)), (3, vI x_.1), (4, vI x_.2)] [] []) () (lS) ?_)
 rintro again3 ⟨x1, x2⟩ ⟨⟩ h
 refine qs (rq hC [.nat a.coefs.length] (fr 5 5) [(9, vB (decide (x2 < (a.coefs.length : Int))))] [] [] (a1 (lenM rI a.coefs)) ?_)
 refine vci (b := decide (x2 < (a.coefs.length : Int))) h (fun c1 h => ?_) (fun c1 h => ?_)
 ·refine qk ?_
  obtain ⟨j4, hj4, h⟩ := jn_e h
  refine vwp_jm (γ := Unit) (j := j4) (r := r) (fun x_ _ => mkS [(1, V.tp (tAffine a)), (3, vI x_), (4, vI x2)] [] []) ?_ ?_
  ·
   refine qb ?_
   obtain ⟨x5, hx5, h⟩ := bd h
   refine rq hC [.row (rI x5)] (fr 12 6) [(17, vB (!decide (x5 = 0)))] [] [] (a1 (ix_map rI hx5)) ?_
   refine vci (b := !decide (x5 = 0)) h (fun c2 h => ?_) (fun c2 h => ?_)
   ·refine rk hC [] [3, 18, 19] [(3, vI (wr (x2 + 1)))] [] [] a0 ?_
    exact ⟨wr (x2 + 1), (), h, lS⟩
   ·refine qk ?_
    exact ⟨x1, (), h, lS⟩
  ·rintro x6 ⟨⟩ h
   subst hj4
   refine rk hC [] [4, 10, 11] [(4, vI (wr (x2 + 1)))] [] [] a0 ?_
   exact ⟨(x6, wr (x2 + 1)), (), h, lS⟩
 ·refine qxt (rq hC [] [2, 20] [(2, vI x1)] [] [] trivial ?_)
  refine qr ?_
  obtain rfl := so h
  exact eR
theorem c_s_l2Side {list} {depth} {r} (h : s_l2Side n list depth = some r) : PCC Tryz.prog G.g 200 [vM rAffine list, vI depth] (vB r) := by
 unfold s_l2Side at h
 refine pmr tyOK Tryz.func200 rfl rfl rfl rfl rfl rfl rfl ?_
 intro w X hC
 refine rq hC [] [4] [] [] [] a0 ?_
 refine qs (rq hC [] [5] [(5, vI 0)] [] [] trivial ?_)
 refine qb (vwp_lm (γ := Unit) h (fun x_ _ => mkS [(0, vM rAffine list), (1, vI depth), (5, vI x_)] [] []) () (lS) ?_)
 rintro again2 x1 ⟨⟩ h
 refine qs (rq hC [.nat list.length] (fr 6 4) [(9, vB (decide (x1 < (list.length : Int))))] [] [] (a1 (lenM rAffine list)) ?_)
 refine vci (b := decide (x1 < (list.length : Int))) h (fun c1 h => ?_) (fun c1 h => ?_)
 ·refine qk (qs (qb ?_))
  obtain ⟨j3, hj3, h⟩ := jn_e h
  refine vwp_jm (γ := Unit) (j := j3) (r := r) (fun x_ _ => mkS [(0, vM rAffine list), (1, vI depth), (5, vI x1), (26, vB x_)] [] []) ?_ ?_
  ·
   obtain ⟨x4, hx4, h⟩ := bd h
   obtain ⟨x5, hx5, h⟩ := bd h
   refine splI h (fun c2 h => ?_) (fun c2 h => ?_)
   ·obtain ⟨x6, hx6, h⟩ := bd h
    refine rk hC [.row (rAffine x4), .v (vB x5), .b false, .b false, .b false, .row (rAffine x4), .b false, .b false, .v (vI x6), .b false, .b false, .b false] (fr 12 15) [(26, vB (decide (depth < x6)))] [] [] (a12 (ix_map rAffine hx4) (c_s_AffineValid G hx5) c2 c2 c2 (ix_map rAffine hx4) c2 c2 (c_s_l1Depth G hx6) c2 c2 c2) ?_
    exact ⟨decide (depth < x6), (), h, lS⟩
   ·refine rk hC [.row (rAffine x4), .v (vB x5), .b true, .b true, .b true, .b true, .b true, .b true, .b true, .b true] (fr 12 15) [(26, vB true)] [] [] (a10 (ix_map rAffine hx4) (c_s_AffineValid G hx5) c2 c2 c2 c2 c2 c2 c2 c2) ?_
    exact ⟨true, (), h, lS⟩
  ·rintro x7 ⟨⟩ h
   subst hj3
   refine vci (b := x7) h (fun c3 h => ?_) (fun c3 h => ?_)
   ·refine rq hC [] [4] [(4, vB false)] [] [] a0 ?_
    refine qr ?_
    obtain rfl := so h
    exact eR
   ·refine qk (rk hC [] [5, 10, 11] [(5, vI (wr (x1 + 1)))] [] [] trivial ?_)
    exact ⟨wr (x1 + 1), (), h, lS⟩
 ·refine qxt ?_
  obtain ⟨j8, hj8, h⟩ := jn_e h
  refine vwp_jm (γ := Unit) (j := j8) (r := r) (fun x_ _ => mkS [(4, vB x_)] [] []) ?_ ?_
  ·
   refine splI h (fun c4 h => ?_) (fun c4 h => ?_)
   ·refine rk hC [.nat list.length, .b false, .b false, .b false, .b false] [4, 27, 28, 29, 30, 31, 32, 33, 34] [(4, vB false)] [] [] (a5 (lenM rAffine list) c4 c4 c4 c4) ?_
    exact ⟨false, (), h, lS⟩
   ·refine rk hC [.nat list.length, .b true, .b true, .nat list.length, .b true, .b true] [4, 27, 28, 29, 30, 31, 32, 33, 34] [(4, vB (decide ((list.length : Int) ≤ 2)))] [] [] (a6 (lenM rAffine list) c4 c4 (lenM rAffine list) c4 c4) ?_
    exact ⟨decide ((list.length : Int) ≤ 2), (), h, lS⟩
  ·rintro x9 ⟨⟩ h
   subst hj8
   refine qr ?_
   obtain rfl := so h
   exact eR
theorem c_s_NestValid {nest} {r} (h : s_NestValid n nest = some r) : PCC Tryz.prog G.g 166 [vM rLoop nest] (vB r) := by
 unfold s_NestValid at h
 refine pmr tyOK Tryz.func166 rfl rfl rfl rfl rfl rfl rfl ?_
 intro w X hC
 refine rq hC [] [2] [] [] [] a0 ?_
 refine qs (rq hC [] [3] [(3, vI 0)] [] [] trivial ?_)
 refine qb (vwp_lm (γ := Unit) h (fun x_ _ => mkS [(0, vM rLoop nest), (3, vI x_)] [] []) () (lS) ?_)
 rintro again2 x1 ⟨⟩ h
 refine qs ?_
 obtain ⟨j3, hj3, h⟩ := jn_e h
 refine vwp_jm (γ := Unit) (j := j3) (r := r) (fun x_ _ => mkS [(0, vM rLoop nest), (3, vI x1), (12, vB x_)] [] []) ?_ ?_
 ·
  refine splI h (fun c1 h => ?_) (fun c1 h => ?_)
  ·refine rk hC [.nat nest.length, .b false, .b false, .b false, .b false] (fr 4 9) [(12, vB false)] [] [] (a5 (lenM rLoop nest) c1 c1 c1 c1) ?_
   exact ⟨false, (), h, lS⟩
  ·refine rk hC [.nat nest.length, .b true, .b true, .nat nest.length, .b true, .b true] (fr 4 9) [(12, vB (decide ((nest.length : Int) ≤ 4)))] [] [] (a6 (lenM rLoop nest) c1 c1 (lenM rLoop nest) c1 c1) ?_
   exact ⟨decide ((nest.length : Int) ≤ 4), (), h, lS⟩
 ·rintro x4 ⟨⟩ h
  subst hj3
  refine vci (b := x4) h (fun c2 h => ?_) (fun c2 h => ?_)
  ·refine qk (qs (qb ?_))
   obtain ⟨j5, hj5, h⟩ := jn_e h
   refine vwp_jm (γ := Unit) (j := j5) (r := r) (fun x_ _ => mkS [(0, vM rLoop nest), (3, vI x1), (32, vB x_)] [] []) ?_ ?_
   ·
    obtain ⟨x6, hx6, h⟩ := bd h
    obtain ⟨x7, hx7, h⟩ := bd h
    refine splI h (fun c3 h => ?_) (fun c3 h => ?_)
    ·obtain ⟨x8, hx8, h⟩ := bd h
     refine rk hC [.row (rLoop x6), .v (vB x7), .b false, .b false, .b false, .row (rLoop x6), .b false, .b false, .b false, .b false, .v (vB x8), .b false, .b false] (fr 15 18) [(32, vB (!x8))] [] [] (an (ix_map rLoop hx6) (a12 (c_s_l2Side G hx7) c3 c3 c3 (ix_map rLoop hx6) c3 c3 c3 c3 (c_s_l2Side G hx8) c3 c3)) ?_
     exact ⟨!x8, (), h, lS⟩
    ·refine rk hC [.row (rLoop x6), .v (vB x7), .b true, .b true, .b true, .b true, .b true, .b true, .b true, .b true, .b true] (fr 15 18) [(32, vB true)] [] [] (a11 (ix_map rLoop hx6) (c_s_l2Side G hx7) c3 c3 c3 c3 c3 c3 c3 c3 c3) ?_
     exact ⟨true, (), h, lS⟩
   ·rintro x9 ⟨⟩ h
    subst hj5
    refine vci (b := x9) h (fun c4 h => ?_) (fun c4 h => ?_)
    ·refine rq hC [] [2] [(2, vB false)] [] [] a0 ?_
     refine qr ?_
     obtain rfl := so h
     exact eR
    ·refine qk (rk hC [] [3, 13, 14] [(3, vI (wr (x1 + 1)))] [] [] trivial ?_)
     exact ⟨wr (x1 + 1), (), h, lS⟩
  ·refine qxt (rq hC [.nat nest.length] [2, 33, 34, 35] [(2, vB (decide ((nest.length : Int) ≤ 4)))] [] [] (a1 (lenM rLoop nest)) ?_)
   refine qr ?_
   obtain rfl := so h
   exact eR
theorem c_s_l2Work (G : GS) : ∀ (n : Nat) (nest : List Loop) (p : List Int) (most : Int) {r : Int} (h : s_l2Work n nest p most = some r), PCC Tryz.prog G.g 191 [vM rLoop nest, vM rI p, vI most] (vI r) := by
 intro n
 induction n with
 | zero => intro nest p most r h; rw [s_l2Work.eq_def] at h; cases h
 | succ n ih =>
  intro nest p most r h
  rw [s_l2Work.eq_def] at h; dsimp only at h
  refine pmr tyOK Tryz.func191 rfl rfl rfl rfl rfl rfl rfl ?_
  intro w X hC
  refine rq hC [] [6] [] [] [] a0 ?_
  refine rq hC [] [7] [(7, vI 1)] [] [] a0 ?_
  refine qs (rq hC [.nat p.length, .nat nest.length] (fr 11 5) [(15, vB (decide ((p.length : Int) = (nest.length : Int))))] [] [] (a2 (lenM rI p) (lenM rLoop nest)) ?_)
  refine vci (b := decide ((p.length : Int) = (nest.length : Int))) h (fun c1 h => ?_) (fun c1 h => ?_)
  ·refine rq hC [] [6, 16] [(6, vI 1)] [] [] a0 ?_
   refine qr ?_
   obtain rfl := so h
   exact eR
  ·refine qk ?_
   obtain ⟨x1, hx1, h⟩ := bd h
   obtain ⟨x2, hx2, h⟩ := bd h
   refine rq hC [.nat p.length, .row (rLoop x1), .v (V.tup [vI x2.1, vI x2.2])] [8, 9, 17, 18, 19, 20, 21, 22, 23, 24, 25, 26] [(8, vI x2.1), (9, vI x2.2)] [] [] (a3 (lenM rI p) (ix_map rLoop hx1) (c_s_l2Range G hx2)) ?_
   refine qs (rq hC [] [10, 27] [(10, vI x2.1)] [] [] trivial ?_)
   refine qb (vwp_lm (γ := Unit) h (fun x_ _ => mkS [(0, vM rLoop nest), (1, vM rI p), (2, vI most), (7, vI x_.1), (9, vI x2.2), (10, vI x_.2)] [] []) () (lS) ?_)
   rintro again5 ⟨x3, x4⟩ ⟨⟩ h
   refine qs ?_
   obtain ⟨j6, hj6, h⟩ := jn_e h
   refine vwp_jm (γ := Unit) (j := j6) (r := r) (fun x_ _ => mkS [(0, vM rLoop nest), (1, vM rI p), (2, vI most), (7, vI x3), (9, vI x2.2), (10, vI x4), (35, vB x_)] [] []) ?_ ?_
   ·
    refine splI h (fun c2 h => ?_) (fun c2 h => ?_)
    ·refine rk hC [.b false, .b false, .b false, .b false] (fr 28 8) [(35, vB false)] [] [] (a4 c2 c2 c2 c2) ?_
     exact ⟨false, (), h, lS⟩
    ·refine rk hC [.b true, .b true, .b true, .b true] (fr 28 8) [(35, vB (decide (x3 ≤ most)))] [] [] (a4 c2 c2 c2 c2) ?_
     exact ⟨decide (x3 ≤ most), (), h, lS⟩
   ·rintro x7 ⟨⟩ h
    subst hj6
    refine vci (b := x7) h (fun c3 h => ?_) (fun c3 h => ?_)
    ·refine qk (qs (qb ?_))
     obtain ⟨x8, hx8, h⟩ := bd h
     obtain ⟨x9, hx9, h⟩ := bd h
     obtain ⟨x10, hx10, h⟩ := bd h
     refine rk hC [.nat 20, .rows (List.map rI x8), .int 0, .rows (List.map rI x9), .b true, .v (vI x10)] [7, 38, 39, 40, 41, 42, 43, 44, 45, 46, 47, 48, 49, 50] [(7, vI (wr (x3 + x10)))] [(20, some (ar 3 3 1 rI x9))] [(20, true)] (a7 (app_map rI hx8) (rwM (r := rI) 1 (fun _ => rfl) []) (rwM (r := rI) 1 (fun _ => rfl) p) (app_map rI hx9) (rwM (r := rI) 1 (fun _ => rfl) x8) (rwM (r := rI) 1 (fun _ => rfl) [x4]) (ih nest x9 (wr (most - x3)) hx10)) ?_
     refine rk hC [] [10, 36, 37] [(10, vI (wr (x4 + 1)))] [] [] a0 ?_
     exact ⟨(wr (x3 + x10), wr (x4 + 1)), (), h, lS⟩
    ·refine qxt (rq hC [] [6, 51] [(6, vI x3)] [] [] trivial ?_)
     refine qr ?_
     obtain rfl := so h
     exact eR
theorem c_s_NestPoints {nest} {r} (h : s_NestPoints n nest = some r) : VCC Tryz.prog G.g 155 [] [vM rLoop nest] (V.tup [ms 0 1 1 (rL rI) r.1, vB r.2]) [ar 40 1 1 (rL rI) r.1] := by
 unfold s_NestPoints at h
 refine vmr tyOK Tryz.func155 rfl rfl rfl rfl rfl rfl rfl rfl ?_
 intro w X β0 hC hg
 refine rq hC [] [2, 3] [] [] [] a0 ?_
 refine qs ?_
 obtain ⟨j1, hj1, h⟩ := jn_e h
 refine vwp_jm (γ := Unit) (j := j1) (r := r) (fun x_ _ => mkS [(0, vM rLoop nest), (12, vB x_)] [] []) ?_ ?_
 ·
  obtain ⟨x2, hx2, h⟩ := bd h
  refine splI h (fun c1 h => ?_) (fun c1 h => ?_)
  ·obtain ⟨x3, hx3, h⟩ := bd h
   refine rk hC [.v (vB x2), .b false, .b false, .v (vI x3), .b false, .b false] (fr 5 8) [(12, vB (decide ((1200 : Int) < x3)))] [] [] (a6 (c_s_NestValid G hx2) c1 c1 (c_s_l2Work G n nest [] 1200 hx3) c1 c1) ?_
   exact ⟨decide ((1200 : Int) < x3), (), h, lS⟩
  ·refine rk hC [.v (vB x2), .b true, .b true, .b true, .b true] (fr 5 8) [(12, vB true)] [] [] (a5 (c_s_NestValid G hx2) c1 c1 c1 c1) ?_
   exact ⟨true, (), h, lS⟩
 ·rintro x4 ⟨⟩ h
  subst hj1
  refine vci (b := x4) h (fun c2 h => ?_) (fun c2 h => ?_)
  ·refine rq hC [.nat 20] [2, 3, 13] [(2, ms 20 1 1 (rL rI) []), (3, vB false)] [(20, some (ar 40 1 1 (rL rI) []))] [(20, true)] a0 ?_
   refine qw (lk hC [.ren 2 20 0] [2] [(2, ms 0 1 1 (rL rI) [])] [(0, some (ar 40 1 1 (rL rI) [])), (20, none)] [(0, true)]) ?_
   refine qr ?_
   obtain rfl := so h
   exact eW
  ·refine qk ?_
   obtain ⟨x5, hx5, h⟩ := bd h
   refine rq hC [.nat 20, .vc [20] [] (ms 0 2 1 (rL rI) x5) [ar 40 2 1 (rL rI) x5]] [4, 14, 15, 16] [(4, ms 20 2 1 (rL rI) x5)] [(20, some (ar 40 2 1 (rL rI) x5))] [(20, true), (20, true)] (a1 (c_s_l2Points G n [] 1 nest [] hx5)) ?_
   refine qs (rq hC [.nat x5.length] [17, 18, 19] [(19, vB (decide ((120 : Int) < (x5.length : Int))))] [] [] (a1 (lenM (rL rI) x5)) ?_)
   refine vci (b := decide ((120 : Int) < (x5.length : Int))) h (fun c3 h => ?_) (fun c3 h => ?_)
   ·refine rq hC [.nat 21] [2, 3, 20] [(2, ms 21 1 1 (rL rI) []), (3, vB false)] [(21, some (ar 40 1 1 (rL rI) []))] [(21, true)] a0 ?_
    refine qw (lk hC [.ren 2 21 0] [2] [(2, ms 0 1 1 (rL rI) [])] [(0, some (ar 40 1 1 (rL rI) [])), (21, none)] [(0, true)]) ?_
    refine qr ?_
    obtain rfl := so h
    exact eW
   ·refine qk (rq hC [] [2, 3, 21] [(2, ms 20 2 1 (rL rI) x5), (3, vB true)] [] [] trivial ?_)
    refine qw (lk hC [.ren 2 20 0] [2] [(2, ms 0 1 1 (rL rI) x5)] [(0, some (ar 40 1 1 (rL rI) x5)), (20, none)] [(0, true)]) ?_
    refine qr ?_
    obtain rfl := so h
    exact eW
theorem c_s_l3Access {a} {depth} {r} (h : s_l3Access n a depth = some r) : PCC Tryz.prog G.g 192 [V.agg (cAccess a), vI depth] (vB r) := by
 unfold s_l3Access at h
 refine pmr tyOK Tryz.func192 rfl rfl rfl rfl rfl rfl rfl ?_
 intro w X hC
 refine rq hC [.b true] [2, 4] [(2, V.tp (tAccess a))] [] [] a0 ?_
 refine qs (rq hC [] [5] [(5, vI 0)] [] [] trivial ?_)
 refine qb (vwp_lm (γ := Unit) h (fun x_ _ => mkS [(1, vI depth), (2, V.tp (tAccess a)), (5, vI x_)] [] []) () (lS) ?_)
 rintro again2 x1 ⟨⟩ h
 refine qs (rq hC [.nat a.subs.length] (fr 6 5) [(10, vB (decide (x1 < (a.subs.length : Int))))] [] [] (a1 (lenM rAffine a.subs)) ?_)
 refine vci (b := decide (x1 < (a.subs.length : Int))) h (fun c1 h => ?_) (fun c1 h => ?_)
 ·refine qk (qs (qb ?_))
  obtain ⟨j3, hj3, h⟩ := jn_e h
  refine vwp_jm (γ := Unit) (j := j3) (r := r) (fun x_ _ => mkS [(1, vI depth), (2, V.tp (tAccess a)), (5, vI x1), (29, vB x_)] [] []) ?_ ?_
  ·
   obtain ⟨x4, hx4, h⟩ := bd h
   obtain ⟨x5, hx5, h⟩ := bd h
   refine splI h (fun c2 h => ?_) (fun c2 h => ?_)
   ·obtain ⟨x6, hx6, h⟩ := bd h
    refine rk hC [.row (rAffine x4), .v (vB x5), .b false, .b false, .b false, .b false, .row (rAffine x4), .b false, .b false, .v (vI x6), .b false, .b false, .b false] (fr 13 17) [(29, vB (decide (depth < x6)))] [] [] (an (ix_map rAffine hx4) (a12 (c_s_AffineValid G hx5) c2 c2 c2 c2 (ix_map rAffine hx4) c2 c2 (c_s_l1Depth G hx6) c2 c2 c2)) ?_
    exact ⟨decide (depth < x6), (), h, lS⟩
   ·refine rk hC [.row (rAffine x4), .v (vB x5), .b true, .b true, .b true, .b true, .b true, .b true, .b true, .b true, .b true] (fr 13 17) [(29, vB true)] [] [] (a11 (ix_map rAffine hx4) (c_s_AffineValid G hx5) c2 c2 c2 c2 c2 c2 c2 c2 c2) ?_
    exact ⟨true, (), h, lS⟩
  ·rintro x7 ⟨⟩ h
   subst hj3
   refine vci (b := x7) h (fun c3 h => ?_) (fun c3 h => ?_)
   ·refine rq hC [] [4] [(4, vB false)] [] [] a0 ?_
    refine qr ?_
    obtain rfl := so h
    exact eR
   ·refine qk (rk hC [] [5, 11, 12] [(5, vI (wr (x1 + 1)))] [] [] trivial ?_)
    exact ⟨wr (x1 + 1), (), h, lS⟩
 ·refine qxt ?_
  obtain ⟨j8, hj8, h⟩ := jn_e h
  refine vwp_jm (γ := Unit) (j := j8) (r := r) (fun x_ _ => mkS [(4, vB x_)] [] []) ?_ ?_
  ·
   refine splI h (fun c4 h => ?_) (fun c4 h => ?_)
   ·refine rk hC [.b false, .b false, .b false, .b false, .b false, .b false, .b false, .b false, .b false, .b false, .b false, .b false, .b false, .b false, .b false, .b false, .b false, .b false] [4, 30, 31, 32, 33, 34, 35, 36, 37, 38, 39, 40, 41, 42, 43, 44, 45, 46, 47, 48, 49, 50, 51, 52, 53, 54, 55] [(4, vB false)] [] [] (an c4 (an c4 (an c4 (an c4 (an (Eq.refl false) (an (Eq.refl false) (a12 (Eq.refl false) (Eq.refl false) (Eq.refl false) (Eq.refl false) (Eq.refl false) (Eq.refl false) (Eq.refl false) (Eq.refl false) (Eq.refl false) (Eq.refl false) (Eq.refl false) (Eq.refl false)))))))) ?_
    exact ⟨false, (), h, lS⟩
   ·refine splI h (fun c5 h => ?_) (fun c5 h => ?_)
    ·refine rk hC [.b true, .b true, .b true, .b true, .b false, .b false, .b false, .b false, .b false, .b false, .b false, .b false, .b false, .b false, .b false, .b false, .b false, .b false] [4, 30, 31, 32, 33, 34, 35, 36, 37, 38, 39, 40, 41, 42, 43, 44, 45, 46, 47, 48, 49, 50, 51, 52, 53, 54, 55] [(4, vB false)] [] [] (an c4 (an c4 (an c4 (an c4 (an c5 (an c5 (a12 c5 c5 (Eq.refl false) (Eq.refl false) (Eq.refl false) (Eq.refl false) (Eq.refl false) (Eq.refl false) (Eq.refl false) (Eq.refl false) (Eq.refl false) (Eq.refl false)))))))) ?_
     exact ⟨false, (), h, lS⟩
    ·refine splI h (fun c6 h => ?_) (fun c6 h => ?_)
     ·refine rk hC [.b true, .b true, .b true, .b true, .b true, .b true, .b true, .b true, .b false, .b false, .b false, .b false, .b false, .b false, .b false, .b false, .b false, .b false] [4, 30, 31, 32, 33, 34, 35, 36, 37, 38, 39, 40, 41, 42, 43, 44, 45, 46, 47, 48, 49, 50, 51, 52, 53, 54, 55] [(4, vB false)] [] [] (an c4 (an c4 (an c4 (an c4 (an c5 (an c5 (a12 c5 c5 c6 c6 c6 c6 c6 (Eq.refl false) (Eq.refl false) (Eq.refl false) (Eq.refl false) (Eq.refl false)))))))) ?_
      exact ⟨false, (), h, lS⟩
     ·refine splI h (fun c7 h => ?_) (fun c7 h => ?_)
      ·refine rk hC [.b true, .b true, .b true, .b true, .b true, .b true, .b true, .b true, .b true, .b true, .b true, .nat a.subs.length, .b true, .b true, .b false, .b false, .b false, .b false, .b false] [4, 30, 31, 32, 33, 34, 35, 36, 37, 38, 39, 40, 41, 42, 43, 44, 45, 46, 47, 48, 49, 50, 51, 52, 53, 54, 55] [(4, vB false)] [] [] (an c4 (an c4 (an c4 (an c4 (an c5 (an c5 (an c5 (a12 c5 c6 c6 c6 (lenM rAffine a.subs) c6 c6 c7 c7 c7 c7 c7)))))))) ?_
       exact ⟨false, (), h, lS⟩
      ·refine rk hC [.b true, .b true, .b true, .b true, .b true, .b true, .b true, .b true, .b true, .b true, .b true, .nat a.subs.length, .b true, .b true, .b true, .b true, .b true, .nat a.subs.length, .b true, .b true] [4, 30, 31, 32, 33, 34, 35, 36, 37, 38, 39, 40, 41, 42, 43, 44, 45, 46, 47, 48, 49, 50, 51, 52, 53, 54, 55] [(4, vB (decide ((a.subs.length : Int) ≤ 2)))] [] [] (an c4 (an c4 (an c4 (an c4 (an c5 (an c5 (an c5 (an c5 (a12 c6 c6 c6 (lenM rAffine a.subs) c6 c6 c7 c7 c7 (lenM rAffine a.subs) c7 c7))))))))) ?_
       exact ⟨decide ((a.subs.length : Int) ≤ 2), (), h, lS⟩
  ·rintro x9 ⟨⟩ h
   subst hj8
   refine qr ?_
   obtain rfl := so h
   exact eR
theorem c_s_l3Kids {kind} {r} (h : s_l3Kids n kind = some r) : PCC Tryz.prog G.g 224 [vI kind] (vI r) := by
 unfold s_l3Kids at h
 refine pmr tyOK Tryz.func224 rfl rfl rfl rfl rfl rfl rfl ?_
 intro w X hC
 refine rq hC [] [2] [] [] [] a0 ?_
 refine qs (rq hC [] [3] [(3, vI kind)] [] [] trivial ?_)
 refine qb ?_
 obtain ⟨j1, hj1, h⟩ := jn_e h
 refine vwp_jm (γ := Unit) (j := j1) (r := r) (fun x_ _ => mkS [(3, vI kind), (4, vB x_)] [] []) ?_ ?_
 ·
  refine rq hC [] [4, 5] [(4, vB (decide (kind = 1)))] [] [] a0 ?_
  refine vci (b := decide (kind = 1)) h (fun c1 h => ?_) (fun c1 h => ?_)
  ·refine qk ?_
   exact ⟨decide (kind = 1), (), h, lS⟩
  ·refine rq hC [] [4, 6] [(4, vB (decide (kind = 2)))] [] [] a0 ?_
   refine vci (b := decide (kind = 2)) h (fun c2 h => ?_) (fun c2 h => ?_)
   ·refine qk ?_
    exact ⟨decide (kind = 2), (), h, lS⟩
   ·refine rk hC [] [4, 7] [(4, vB (decide (kind = 3)))] [] [] a0 ?_
    exact ⟨decide (kind = 3), (), h, lS⟩
 ·rintro x2 ⟨⟩ h
  subst hj1
  refine vci (b := x2) h (fun c3 h => ?_) (fun c3 h => ?_)
  ·refine rq hC [] [2] [(2, vI 0)] [] [] a0 ?_
   refine qr ?_
   obtain rfl := so h
   exact eR
  ·obtain ⟨j3, hj3, h⟩ := jn_e h
   refine vwp_jm (γ := Unit) (j := j3) (r := r) (fun x_ _ => mkS [(8, vB x_)] [] []) ?_ ?_
   ·
    refine rq hC [] [8, 9] [(8, vB (decide (kind = 4)))] [] [] a0 ?_
    refine vci (b := decide (kind = 4)) h (fun c4 h => ?_) (fun c4 h => ?_)
    ·refine qk ?_
     exact ⟨decide (kind = 4), (), h, lS⟩
    ·refine rq hC [] [8, 10] [(8, vB (decide (kind = 5)))] [] [] a0 ?_
     refine vci (b := decide (kind = 5)) h (fun c5 h => ?_) (fun c5 h => ?_)
     ·refine qk ?_
      exact ⟨decide (kind = 5), (), h, lS⟩
     ·refine rk hC [] [8, 11] [(8, vB (decide (kind = 6)))] [] [] a0 ?_
      exact ⟨decide (kind = 6), (), h, lS⟩
   ·rintro x4 ⟨⟩ h
    subst hj3
    refine vci (b := x4) h (fun c6 h => ?_) (fun c6 h => ?_)
    ·refine rq hC [] [2] [(2, vI 2)] [] [] a0 ?_
     refine qr ?_
     obtain rfl := so h
     exact eR
    ·refine qk (rq hC [] [2] [(2, vI (-1))] [] [] trivial ?_)
     refine qr ?_
     obtain rfl := so h
     exact eR
theorem c_s_l3Empty {a} {r} (h : s_l3Empty n a = some r) : PCC Tryz.prog G.g 248 [V.agg (cAccess a)] (vB r) := by
 unfold s_l3Empty at h
 refine pmr tyOK Tryz.func248 rfl rfl rfl rfl rfl rfl rfl ?_
 intro w X hC
 refine rq hC [.b true] [1, 2] [(1, V.tp (tAccess a))] [] [] a0 ?_
 obtain ⟨j1, hj1, h⟩ := jn_e h
 refine vwp_jm (γ := Unit) (j := j1) (r := r) (fun x_ _ => mkS [(2, vB x_)] [] []) ?_ ?_
 ·
  refine splI h (fun c1 h => ?_) (fun c1 h => ?_)
  ·refine rk hC [.b false, .b false, .b false, .b false, .b false] (fr 2 10) [(2, vB false)] [] [] (a5 c1 c1 c1 c1 c1) ?_
   exact ⟨false, (), h, lS⟩
  ·refine rk hC [.b true, .b true, .b true, .nat a.subs.length, .b true, .b true] (fr 2 10) [(2, vB (decide ((a.subs.length : Int) = 0)))] [] [] (a6 c1 c1 c1 (lenM rAffine a.subs) c1 c1) ?_
   exact ⟨decide ((a.subs.length : Int) = 0), (), h, lS⟩
 ·rintro x2 ⟨⟩ h
  subst hj1
  refine qr ?_
  obtain rfl := so h
  exact eR
theorem c_s_l3None {a} {r} (h : s_l3None n a = some r) : PCC Tryz.prog G.g 249 [V.agg (cAffine a)] (vB r) := by
 unfold s_l3None at h
 refine pmr tyOK Tryz.func249 rfl rfl rfl rfl rfl rfl rfl ?_
 intro w X hC
 refine rq hC [.b true] [1, 2] [(1, V.tp (tAffine a))] [] [] a0 ?_
 obtain ⟨j1, hj1, h⟩ := jn_e h
 refine vwp_jm (γ := Unit) (j := j1) (r := r) (fun x_ _ => mkS [(2, vB x_)] [] []) ?_ ?_
 ·
  refine splI h (fun c1 h => ?_) (fun c1 h => ?_)
  ·refine rk hC [.nat a.coefs.length, .b false, .b false, .b false, .b false] (fr 2 10) [(2, vB false)] [] [] (a5 (lenM rI a.coefs) c1 c1 c1 c1) ?_
   exact ⟨false, (), h, lS⟩
  ·refine rk hC [.nat a.coefs.length, .b true, .b true, .b true, .b true] (fr 2 10) [(2, vB (decide (a.const = 0)))] [] [] (a5 (lenM rI a.coefs) c1 c1 c1 c1) ?_
   exact ⟨decide (a.const = 0), (), h, lS⟩
 ·rintro x2 ⟨⟩ h
  subst hj1
  refine qr ?_
  obtain rfl := so h
  exact eR
theorem c_s_l3Own {e} {depth} {r} (h : s_l3Own n e depth = some r) : PCC Tryz.prog G.g 225 [V.agg (cExpr e), vI depth] (vB r) := by
 unfold s_l3Own at h
 refine pmr tyOK Tryz.func225 rfl rfl rfl rfl rfl rfl rfl ?_
 intro w X hC
 refine rq hC [.b true] [2, 4] [(2, V.tp (tExpr e))] [] [] a0 ?_
 refine qs (rq hC [] [5, 6, 7] [(7, vB (decide (e.kind = 2)))] [] [] trivial ?_)
 refine vci (b := decide (e.kind = 2)) h (fun c1 h => ?_) (fun c1 h => ?_)
 ·obtain ⟨j1, hj1, h⟩ := jn_e h
  refine vwp_jm (γ := Unit) (j := j1) (r := r) (fun x_ _ => mkS [(4, vB x_)] [] []) ?_ ?_
  ·
   refine splI h (fun c2 h => ?_) (fun c2 h => ?_)
   ·refine rk hC [.b false, .b false, .b false, .b false, .b false, .b false, .b false, .b false, .b false, .b false, .b false, .b false, .b false, .b false] [4, 8, 9, 10, 11, 12, 13, 14, 15, 16, 17, 18, 19, 20, 21, 22, 23, 24, 25, 26, 27] [(4, vB false)] [] [] (an c2 (an c2 (a12 c2 c2 (Eq.refl false) (Eq.refl false) (Eq.refl false) (Eq.refl false) (Eq.refl false) (Eq.refl false) (Eq.refl false) (Eq.refl false) (Eq.refl false) (Eq.refl false)))) ?_
    exact ⟨false, (), h, lS⟩
   ·obtain ⟨x2, hx2, h⟩ := bd h
    refine splI h (fun c3 h => ?_) (fun c3 h => ?_)
    ·refine rk hC [.b true, .b true, .b true, .v (vB x2), .b true, .b false, .b false, .b false, .b false, .b false, .b false, .b false, .b false, .b false, .b false] [4, 8, 9, 10, 11, 12, 13, 14, 15, 16, 17, 18, 19, 20, 21, 22, 23, 24, 25, 26, 27] [(4, vB false)] [] [] (an c2 (an c2 (an c2 (a12 (c_s_l3Empty G hx2) c2 c3 c3 c3 c3 (Eq.refl false) (Eq.refl false) (Eq.refl false) (Eq.refl false) (Eq.refl false) (Eq.refl false))))) ?_
     exact ⟨false, (), h, lS⟩
    ·obtain ⟨x3, hx3, h⟩ := bd h
     refine splI h (fun c4 h => ?_) (fun c4 h => ?_)
     ·refine rk hC [.b true, .b true, .b true, .v (vB x2), .b true, .b true, .b true, .b true, .v (vB x3), .b true, .b false, .b false, .b false, .b false, .b false, .b false] [4, 8, 9, 10, 11, 12, 13, 14, 15, 16, 17, 18, 19, 20, 21, 22, 23, 24, 25, 26, 27] [(4, vB false)] [] [] (an c2 (an c2 (an c2 (an (c_s_l3Empty G hx2) (a12 c2 c3 c3 c3 (c_s_AffineValid G hx3) c3 c4 c4 c4 c4 c4 c4))))) ?_
      exact ⟨false, (), h, lS⟩
     ·obtain ⟨x4, hx4, h⟩ := bd h
      refine rk hC [.b true, .b true, .b true, .v (vB x2), .b true, .b true, .b true, .b true, .v (vB x3), .b true, .b true, .b true, .b true, .v (vI x4), .b true, .b true, .b true] [4, 8, 9, 10, 11, 12, 13, 14, 15, 16, 17, 18, 19, 20, 21, 22, 23, 24, 25, 26, 27] [(4, vB (decide (x4 ≤ depth)))] [] [] (an c2 (an c2 (an c2 (an (c_s_l3Empty G hx2) (an c2 (a12 c3 c3 c3 (c_s_AffineValid G hx3) c3 c4 c4 c4 (c_s_l1Depth G hx4) c4 c4 c4)))))) ?_
      exact ⟨decide (x4 ≤ depth), (), h, lS⟩
  ·rintro x5 ⟨⟩ h
   subst hj1
   refine qr ?_
   obtain rfl := so h
   exact eR
 ·refine qk (qs (rq hC [] [28, 29, 30] [(30, vB (decide (e.kind = 3)))] [] [] trivial ?_))
  refine vci (b := decide (e.kind = 3)) h (fun c5 h => ?_) (fun c5 h => ?_)
  ·obtain ⟨j6, hj6, h⟩ := jn_e h
   refine vwp_jm (γ := Unit) (j := j6) (r := r) (fun x_ _ => mkS [(4, vB x_)] [] []) ?_ ?_
   ·
    refine splI h (fun c6 h => ?_) (fun c6 h => ?_)
    ·refine rk hC [.b false, .b false, .b false, .b false, .b false, .b false, .b false, .b false, .b false] [4, 31, 32, 33, 34, 35, 36, 37, 38, 39, 40, 41, 42, 43, 44] [(4, vB false)] [] [] (a9 c6 c6 c6 c6 (Eq.refl false) (Eq.refl false) (Eq.refl false) (Eq.refl false) (Eq.refl false)) ?_
     exact ⟨false, (), h, lS⟩
    ·obtain ⟨x7, hx7, h⟩ := bd h
     refine splI h (fun c7 h => ?_) (fun c7 h => ?_)
     ·refine rk hC [.b true, .b true, .b true, .v (vB x7), .b true, .b false, .b false, .b false, .b false, .b false] [4, 31, 32, 33, 34, 35, 36, 37, 38, 39, 40, 41, 42, 43, 44] [(4, vB false)] [] [] (a10 c6 c6 c6 (c_s_l3None G hx7) c6 c7 c7 c7 c7 c7) ?_
      exact ⟨false, (), h, lS⟩
     ·obtain ⟨x8, hx8, h⟩ := bd h
      refine rk hC [.b true, .b true, .b true, .v (vB x7), .b true, .b true, .b true, .b true, .b true, .v (vB x8), .b true] [4, 31, 32, 33, 34, 35, 36, 37, 38, 39, 40, 41, 42, 43, 44] [(4, vB x8)] [] [] (a11 c6 c6 c6 (c_s_l3None G hx7) c6 c7 c7 c7 c7 (c_s_l3Access G hx8) c7) ?_
      exact ⟨x8, (), h, lS⟩
   ·rintro x9 ⟨⟩ h
    subst hj6
    refine qr ?_
    obtain rfl := so h
    exact eR
  ·refine qk (qs (rq hC [] [45, 46, 47] [(47, vB (decide (e.kind = 1)))] [] [] trivial ?_))
   refine vci (b := decide (e.kind = 1)) h (fun c8 h => ?_) (fun c8 h => ?_)
   ·obtain ⟨j10, hj10, h⟩ := jn_e h
    refine vwp_jm (γ := Unit) (j := j10) (r := r) (fun x_ _ => mkS [(4, vB x_)] [] []) ?_ ?_
    ·
     refine splI h (fun c9 h => ?_) (fun c9 h => ?_)
     ·refine rk hC [.b false, .b false, .b false, .b false, .b false, .b false, .b false, .b false, .b false, .b false, .b false, .b false] [4, 48, 49, 50, 51, 52, 53, 54, 55, 56, 57, 58, 59, 60, 61, 62, 63, 64, 65] [(4, vB false)] [] [] (a12 c9 c9 c9 c9 (Eq.refl false) (Eq.refl false) (Eq.refl false) (Eq.refl false) (Eq.refl false) (Eq.refl false) (Eq.refl false) (Eq.refl false)) ?_
      exact ⟨false, (), h, lS⟩
     ·refine splI h (fun c10 h => ?_) (fun c10 h => ?_)
      ·refine rk hC [.b true, .b true, .b true, .b true, .b false, .b false, .b false, .b false, .b false, .b false, .b false, .b false] [4, 48, 49, 50, 51, 52, 53, 54, 55, 56, 57, 58, 59, 60, 61, 62, 63, 64, 65] [(4, vB false)] [] [] (a12 c9 c9 c9 c9 c10 c10 c10 c10 (Eq.refl false) (Eq.refl false) (Eq.refl false) (Eq.refl false)) ?_
       exact ⟨false, (), h, lS⟩
      ·obtain ⟨x11, hx11, h⟩ := bd h
       refine splI h (fun c11 h => ?_) (fun c11 h => ?_)
       ·refine rk hC [.b true, .b true, .b true, .b true, .b true, .b true, .b true, .v (vB x11), .b true, .b false, .b false, .b false, .b false] [4, 48, 49, 50, 51, 52, 53, 54, 55, 56, 57, 58, 59, 60, 61, 62, 63, 64, 65] [(4, vB false)] [] [] (an c9 (a12 c9 c9 c9 c10 c10 c10 (c_s_l3None G hx11) c10 c11 c11 c11 c11)) ?_
        exact ⟨false, (), h, lS⟩
       ·obtain ⟨x12, hx12, h⟩ := bd h
        refine rk hC [.b true, .b true, .b true, .b true, .b true, .b true, .b true, .v (vB x11), .b true, .b true, .b true, .b true, .v (vB x12), .b true] [4, 48, 49, 50, 51, 52, 53, 54, 55, 56, 57, 58, 59, 60, 61, 62, 63, 64, 65] [(4, vB x12)] [] [] (an c9 (an c9 (a12 c9 c9 c10 c10 c10 (c_s_l3None G hx11) c10 c11 c11 c11 (c_s_l3Empty G hx12) c11))) ?_
        exact ⟨x12, (), h, lS⟩
    ·rintro x13 ⟨⟩ h
     subst hj10
     refine qr ?_
     obtain rfl := so h
     exact eR
   ·refine qk ?_
    obtain ⟨j14, hj14, h⟩ := jn_e h
    refine vwp_jm (γ := Unit) (j := j14) (r := r) (fun x_ _ => mkS [(4, vB x_)] [] []) ?_ ?_
    ·
     refine splI h (fun c12 h => ?_) (fun c12 h => ?_)
     ·refine rk hC [.b false, .b false, .b false, .b false, .b false, .b false, .b false, .b false] [4, 66, 67, 68, 69, 70, 71, 72, 73, 74, 75, 76, 77, 78] [(4, vB false)] [] [] (a8 c12 c12 c12 c12 (Eq.refl false) (Eq.refl false) (Eq.refl false) (Eq.refl false)) ?_
      exact ⟨false, (), h, lS⟩
     ·obtain ⟨x15, hx15, h⟩ := bd h
      refine splI h (fun c13 h => ?_) (fun c13 h => ?_)
      ·refine rk hC [.b true, .b true, .b true, .v (vB x15), .b true, .b false, .b false, .b false, .b false] [4, 66, 67, 68, 69, 70, 71, 72, 73, 74, 75, 76, 77, 78] [(4, vB false)] [] [] (a9 c12 c12 c12 (c_s_l3None G hx15) c12 c13 c13 c13 c13) ?_
       exact ⟨false, (), h, lS⟩
      ·obtain ⟨x16, hx16, h⟩ := bd h
       refine rk hC [.b true, .b true, .b true, .v (vB x15), .b true, .b true, .b true, .b true, .v (vB x16), .b true] [4, 66, 67, 68, 69, 70, 71, 72, 73, 74, 75, 76, 77, 78] [(4, vB x16)] [] [] (a10 c12 c12 c12 (c_s_l3None G hx15) c12 c13 c13 c13 (c_s_l3Empty G hx16) c13) ?_
       exact ⟨x16, (), h, lS⟩
    ·rintro x17 ⟨⟩ h
     subst hj14
     refine qr ?_
     obtain rfl := so h
     exact eR
theorem c_s_l3Shape (G : GS) : ∀ (n : Nat) (e : Expr) (depth : Int) (levels : Int) {r : Bool} (h : s_l3Shape n e depth levels = some r), PCC Tryz.prog G.g 193 [V.agg (cExpr e), vI depth, vI levels] (vB r) := by
 intro n
 induction n with
 | zero => intro e depth levels r h; rw [s_l3Shape.eq_def] at h; cases h
 | succ n ih =>
  intro e depth levels r h
  rw [s_l3Shape.eq_def] at h; dsimp only at h
  refine pmr tyOK Tryz.func193 rfl rfl rfl rfl rfl rfl rfl ?_
  intro w X hC
  refine rq hC [.b true] [3, 6] [(3, V.tp (tExpr e))] [] [] a0 ?_
  refine qs ?_
  obtain ⟨j1, hj1, h⟩ := jn_e h
  refine vwp_jm (γ := Unit) (j := j1) (r := r) (fun x_ _ => mkS [(1, vI depth), (2, vI levels), (3, V.tp (tExpr e)), (24, vB x_)] [] []) ?_ ?_
  ·
   refine splI h (fun c1 h => ?_) (fun c1 h => ?_)
   ·obtain ⟨x2, hx2, h⟩ := bd h
    refine splI h (fun c2 h => ?_) (fun c2 h => ?_)
    ·obtain ⟨x3, hx3, h⟩ := bd h
     refine dk hC hmix [.b false, .b false, .b false, .v (vI x2), .b false, .b false, .b false, .nat e.kids.length, .b false, .b false, .b false, .b false, .b false, .v (vB x3), .b false, .b false] (fr 8 17) [(24, vB (!x3))] [] [] (an c1 (an c1 (an c1 (an (c_s_l3Kids G hx2) (a12 c1 c1 c1 (lenM rExpr e.kids) c1 c1 c2 c2 c2 (c_s_l3Own G hx3) c2 c2))))) ?_
     exact ⟨!x3, (), h, lS⟩
    ·refine dk hC hmix [.b false, .b false, .b false, .v (vI x2), .b false, .b false, .b false, .nat e.kids.length, .b false, .b false, .b true, .b true, .b true, .b true, .b true] (fr 8 17) [(24, vB true)] [] [] (an c1 (an c1 (an c1 (a12 (c_s_l3Kids G hx2) c1 c1 c1 (lenM rExpr e.kids) c1 c1 c2 c2 c2 c2 c2)))) ?_
     exact ⟨true, (), h, lS⟩
   ·refine dk hC hmix [.b true, .b true, .b true, .b true, .b true, .b true, .b true, .b true, .b true, .b true, .b true, .b true, .b true] (fr 8 17) [(24, vB true)] [] [] (an c1 (a12 c1 c1 c1 c1 c1 c1 c1 (Eq.refl true) (Eq.refl true) (Eq.refl true) (Eq.refl true) (Eq.refl true))) ?_
    exact ⟨true, (), h, lS⟩
  ·rintro x4 ⟨⟩ h
   subst hj1
   refine vci (b := x4) h (fun c3 h => ?_) (fun c3 h => ?_)
   ·refine rq hC [] [6] [(6, vB false)] [] [] a0 ?_
    refine qr ?_
    obtain rfl := so h
    exact eR
   ·refine qk (qs (rq hC [] [7] [(7, vI 0)] [] [] trivial ?_))
    refine qb (vwp_lm (γ := Unit) h (fun x_ _ => mkS [(1, vI depth), (2, vI levels), (3, V.tp (tExpr e)), (7, vI x_)] [] []) () (lS) ?_)
    rintro again6 x5 ⟨⟩ h
    refine qs (rq hC [.nat e.kids.length] (fr 25 5) [(29, vB (decide (x5 < (e.kids.length : Int))))] [] [] (a1 (lenM rExpr e.kids)) ?_)
    refine vci (b := decide (x5 < (e.kids.length : Int))) h (fun c4 h => ?_) (fun c4 h => ?_)
    ·refine qk (qs (qb ?_))
     obtain ⟨x7, hx7, h⟩ := bd h
     obtain ⟨x8, hx8, h⟩ := bd h
     refine rq hC [.row (rExprC x7), .v (vB x8)] (fr 32 10) [(41, vB (!x8))] [] [] (a2 (ix_mapE rExpr hx7 (rExpr_eq x7)) (ih x7 depth (wr (levels - 1)) hx8)) ?_
     refine vci (b := !x8) h (fun c5 h => ?_) (fun c5 h => ?_)
     ·refine rq hC [] [6] [(6, vB false)] [] [] a0 ?_
      refine qr ?_
      obtain rfl := so h
      exact eR
     ·refine qk (rk hC [] [7, 30, 31] [(7, vI (wr (x5 + 1)))] [] [] trivial ?_)
      exact ⟨wr (x5 + 1), (), h, lS⟩
    ·refine qxt (rq hC [] [6] [(6, vB true)] [] [] trivial ?_)
     refine qr ?_
     obtain rfl := so h
     exact eR
theorem c_s_l3Count (G : GS) : ∀ (n : Nat) (e : Expr) (levels : Int) {r : Int} (h : s_l3Count n e levels = some r), PCC Tryz.prog G.g 194 [V.agg (cExpr e), vI levels] (vI r) := by
 intro n
 induction n with
 | zero => intro e levels r h; rw [s_l3Count.eq_def] at h; cases h
 | succ n ih =>
  intro e levels r h
  rw [s_l3Count.eq_def] at h; dsimp only at h
  refine pmr tyOK Tryz.func194 rfl rfl rfl rfl rfl rfl rfl ?_
  intro w X hC
  refine rq hC [.b true] [2, 4] [(2, V.tp (tExpr e))] [] [] a0 ?_
  refine rq hC [] [5] [(5, vI 1)] [] [] a0 ?_
  refine qs (rq hC [] [6] [(6, vI 0)] [] [] trivial ?_)
  refine qb (vwp_lm (γ := Unit) h (fun x_ _ => mkS [(1, vI levels), (2, V.tp (tExpr e)), (5, vI x_.1), (6, vI x_.2)] [] []) () (lS) ?_)
  rintro again3 ⟨x1, x2⟩ ⟨⟩ h
  refine qs ?_
  obtain ⟨j4, hj4, h⟩ := jn_e h
  refine vwp_jm (γ := Unit) (j := j4) (r := r) (fun x_ _ => mkS [(1, vI levels), (2, V.tp (tExpr e)), (5, vI x1), (6, vI x2), (15, vB x_)] [] []) ?_ ?_
  ·
   refine splI h (fun c1 h => ?_) (fun c1 h => ?_)
   ·refine rk hC [.nat e.kids.length, .b false, .b false, .b false] (fr 7 9) [(15, vB false)] [] [] (a4 (lenM rExpr e.kids) c1 c1 c1) ?_
    exact ⟨false, (), h, lS⟩
   ·refine rk hC [.nat e.kids.length, .b true, .b true, .b true] (fr 7 9) [(15, vB (decide ((0 : Int) < levels)))] [] [] (a4 (lenM rExpr e.kids) c1 c1 c1) ?_
    exact ⟨decide ((0 : Int) < levels), (), h, lS⟩
  ·rintro x5 ⟨⟩ h
   subst hj4
   refine vci (b := x5) h (fun c2 h => ?_) (fun c2 h => ?_)
   ·refine qk (qs (qb ?_))
    obtain ⟨x6, hx6, h⟩ := bd h
    obtain ⟨x7, hx7, h⟩ := bd h
    refine rk hC [.row (rExprC x6), .v (vI x7)] [5, 18, 19, 20, 21, 22, 23, 24, 25, 26, 27] [(5, vI (wr (x1 + x7)))] [] [] (a2 (ix_mapE rExpr hx6 (rExpr_eq x6)) (ih x6 (wr (levels - 1)) hx7)) ?_
    refine rk hC [] [6, 16, 17] [(6, vI (wr (x2 + 1)))] [] [] a0 ?_
    exact ⟨(wr (x1 + x7), wr (x2 + 1)), (), h, lS⟩
   ·refine qxt (rq hC [] [4, 28] [(4, vI x1)] [] [] trivial ?_)
    refine qr ?_
    obtain rfl := so h
    exact eR
theorem c_s_StmtValid {s} {depth} {r} (h : s_StmtValid n s depth = some r) : PCC Tryz.prog G.g 156 [V.agg (cStmt s), vI depth] (vB r) := by
 unfold s_StmtValid at h
 refine pmr tyOK Tryz.func156 rfl rfl rfl rfl rfl rfl rfl ?_
 intro w X hC
 refine rq hC [.b true] [2, 4] [(2, V.tp (tStmt s))] [] [] a0 ?_
 refine qs ?_
 obtain ⟨j1, hj1, h⟩ := jn_e h
 refine vwp_jm (γ := Unit) (j := j1) (r := r) (fun x_ _ => mkS [(2, V.tp (tStmt s)), (24, vB x_)] [] []) ?_ ?_
 ·
  refine splI h (fun c1 h => ?_) (fun c1 h => ?_)
  ·refine splI h (fun c2 h => ?_) (fun c2 h => ?_)
   ·obtain ⟨x2, hx2, h⟩ := bd h
    refine splI h (fun c3 h => ?_) (fun c3 h => ?_)
    ·obtain ⟨x3, hx3, h⟩ := bd h
     refine rk hC [.b false, .b false, .b false, .b false, .b false, .b false, .b false, .v (vB x2), .b false, .b false, .b false, .b false, .b false, .b false, .v (vB x3), .b false, .b false] (fr 5 20) [(24, vB (!x3))] [] [] (an c1 (an c1 (an c1 (an c2 (an c2 (a12 c2 c2 (c_s_l3Access G hx2) c2 c2 c3 c3 c3 c3 (c_s_l3Shape G n s.value depth 5 hx3) c3 c3)))))) ?_
     exact ⟨!x3, (), h, lS⟩
    ·refine rk hC [.b false, .b false, .b false, .b false, .b false, .b false, .b false, .v (vB x2), .b false, .b false, .b true, .b true, .b true, .b true, .b true, .b true] (fr 5 20) [(24, vB true)] [] [] (an c1 (an c1 (an c1 (an c2 (a12 c2 c2 c2 (c_s_l3Access G hx2) c2 c2 c3 c3 c3 c3 c3 c3))))) ?_
     exact ⟨true, (), h, lS⟩
   ·refine rk hC [.b false, .b false, .b false, .b true, .b true, .b true, .b true, .b true, .b true, .b true, .b true, .b true, .b true, .b true, .b true] (fr 5 20) [(24, vB true)] [] [] (an c1 (an c1 (an c1 (a12 c2 c2 c2 c2 c2 c2 (Eq.refl true) (Eq.refl true) (Eq.refl true) (Eq.refl true) (Eq.refl true) (Eq.refl true))))) ?_
    exact ⟨true, (), h, lS⟩
  ·refine rk hC [.b true, .b true, .b true, .b true, .b true, .b true, .b true, .b true, .b true, .b true, .b true, .b true, .b true, .b true, .b true] (fr 5 20) [(24, vB true)] [] [] (an c1 (an c1 (an c1 (a12 (Eq.refl true) (Eq.refl true) (Eq.refl true) (Eq.refl true) (Eq.refl true) (Eq.refl true) (Eq.refl true) (Eq.refl true) (Eq.refl true) (Eq.refl true) (Eq.refl true) (Eq.refl true))))) ?_
   exact ⟨true, (), h, lS⟩
 ·rintro x4 ⟨⟩ h
  subst hj1
  refine vci (b := x4) h (fun c4 h => ?_) (fun c4 h => ?_)
  ·refine rq hC [] [4] [(4, vB false)] [] [] a0 ?_
   refine qr ?_
   obtain rfl := so h
   exact eR
  ·refine qk ?_
   obtain ⟨x5, hx5, h⟩ := bd h
   refine rq hC [.v (vI x5)] [4, 25, 26, 27, 28] [(4, vB (decide (x5 ≤ 12)))] [] [] (a1 (c_s_l3Count G n s.value 5 hx5)) ?_
   refine qr ?_
   obtain rfl := so h
   exact eR
theorem c_s_l3CopyAffine {a} {r} (h : s_l3CopyAffine n a = some r) : VCC Tryz.prog G.g 211 [] [V.agg (cAffine a)] (V.agg [ms 0 1 1 rI r.coefs, vI r.const]) [ar 3 1 1 rI r.coefs] := by
 unfold s_l3CopyAffine at h
 refine vmr tyOK Tryz.func211 rfl rfl rfl rfl rfl rfl rfl rfl ?_
 intro w X β0 hC hg
 refine rq hC [.b true, .nat 20] [1, 2] [(1, V.tp (tAffine a)), (2, V.ref 20 0)] [(20, sc [V.t T.nilS, vI 0])] [(20, true)] a0 ?_
 refine qs (rq hC [.nat a.coefs.length] (fr 3 4) [(6, vB (decide ((a.coefs.length : Int) = 0)))] [] [] (a1 (lenM rI a.coefs)) ?_)
 refine vci (b := decide ((a.coefs.length : Int) = 0)) h (fun c1 h => ?_) (fun c1 h => ?_)
 ·refine rq hC [] [7, 8, 9] [] [(20, sc [V.t T.nilS, vI a.const])] [] a0 ?_
  refine qw (lk hC [.growc 20 0 21 3] [] [] [(21, some (ar 3 1 1 rI [])), (20, sc [ms 21 1 1 rI [], vI a.const])] [(21, true)]) ?_
  refine qw (lk hC [.rn 21 0 [] [20]] [] [] [(20, sc [ms 0 1 1 rI [], vI a.const]), (21, none), (0, some (ar 3 1 1 rI []))] [(0, true)]) ?_
  refine qr ?_
  obtain rfl := so h
  exact eW
 ·refine qk (qs ?_)
  obtain ⟨x1, hx1, h⟩ := bd h
  refine dk hC hmix [.nat 21, .rows (List.map rI x1)] (fr 10 7) [] [(21, some (ar 3 2 1 rI x1)), (20, sc [ms 21 2 1 rI x1, vI a.const])] [(21, true)] (a3 (app_map rI hx1) (rwM (r := rI) 1 (fun _ => rfl) []) (rwM (r := rI) 1 (fun _ => rfl) a.coefs)) ?_
  refine qw (lk hC [.rn 21 0 [] [20]] [] [] [(20, sc [ms 0 1 1 rI x1, vI a.const]), (21, none), (0, some (ar 3 1 1 rI x1))] [(0, true)]) ?_
  refine qr ?_
  obtain rfl := so h
  exact eW
theorem c_s_l3CopyAccess {a} {r} (h : s_l3CopyAccess n a = some r) : VCC Tryz.prog G.g 178 [] [V.agg (cAccess a)] (V.agg [vS r.array, ms 0 1 2 rAffine r.subs]) [ar 109 1 2 rAffine r.subs] := by
 unfold s_l3CopyAccess at h
 refine vmr tyOK Tryz.func178 rfl rfl rfl rfl rfl rfl rfl rfl ?_
 intro w X β0 hC hg
 refine rq hC [.b true, .nat 20] [1, 2] [(1, V.tp (tAccess a)), (2, V.ref 20 0)] [(20, sc [vS [], V.t T.nilS])] [(20, true)] a0 ?_
 refine rq hC [.nat 21] [3, 5, 6, 7] [(3, V.ref 21 0)] [(21, sc [vS a.array, V.t T.nilS])] [(21, true)] a0 ?_
 refine qs (rq hC [] [4] [(4, vI 0)] [] [] trivial ?_)
 refine qb (qw (lk hC [.growc 21 1 22 109] [] [] [(22, some (ar 109 1 2 rAffine [])), (21, sc [vS a.array, ms 22 1 2 rAffine []])] [(22, true)]) ?_)
 refine vwp_lm (γ := Nat) h (fun x_ g_ => mkS [(1, V.tp (tAccess a)), (2, V.ref 20 0), (3, V.ref 21 0), (4, vI x_.2)] [(20, E.cells [vS [], V.t T.nilS]), (21, E.cells [vS a.array, ms 22 g_ 2 rAffine x_.1]), (22, ar 109 g_ 2 rAffine x_.1)] [20, 21, 22]) 1 (lS) ?_
 rintro again4 ⟨x1, x2⟩ g3 h
 refine qs (rq hC [.nat a.subs.length] (fr 8 5) [(12, vB (decide (x2 < (a.subs.length : Int))))] [] [] (a1 (lenM rAffine a.subs)) ?_)
 refine vci (b := decide (x2 < (a.subs.length : Int))) h (fun c1 h => ?_) (fun c1 h => ?_)
 ·refine qk (qs (qb ?_))
  obtain ⟨x5, hx5, h⟩ := bd h
  obtain ⟨x6, hx6, h⟩ := bd h
  obtain ⟨x7, hx7, h⟩ := bd h
  refine dk hC hmix [.row (rAffine x5), .vc [] [23] (V.agg [ms 0 1 1 rI x6.coefs, vI x6.const]) [ar 3 1 1 rI x6.coefs], .at 4, .fz 23 [22] [], .int 0, .rows (List.map rAffine x7)] (fr 15 11) [] [(23, none), (22, some (ar 109 (g3 + 1) 2 rAffine x7)), (21, sc [vS a.array, ms 22 (g3 + 1) 2 rAffine x7])] [(23, true)] (a5 (ix_map rAffine hx5) (c_s_l3CopyAffine G hx6) (app_map rAffine hx7) (rwM (r := rAffine) 2 rAffine_len x1) (rwM (r := rAffine) 2 rAffine_len [x6])) ?_
  refine rk hC [] [4, 13, 14] [(4, vI (wr (x2 + 1)))] [] [] a0 ?_
  exact ⟨(x7, wr (x2 + 1)), (g3 + 1), h, lS⟩
 ·refine qxt (rq hC [] [26] [] [(20, sc [vS a.array, ms 22 g3 2 rAffine x1])] [] trivial ?_)
  refine qw (lk hC [.rn 22 0 [] [20, 21]] [] [] [(20, sc [vS a.array, ms 0 1 2 rAffine x1]), (21, sc [vS a.array, ms 0 1 2 rAffine x1]), (22, none), (0, some (ar 109 1 2 rAffine x1))] [(0, true)]) ?_
  refine qr ?_
  obtain rfl := so h
  exact eW
theorem c_s_l3Reads (G : GS) : ∀ (n : Nat) (out : List Access) (outG : Nat) (e : Expr) {r : (List Access)} (h : s_l3Reads n out e = some r), VCC Tryz.prog G.g 136 [ar 107 outG 2 rAccess out] [ms 0 outG 2 rAccess out, V.agg (cExpr e)] (ms 0 (outG + 1) 2 rAccess r) [ar 107 (outG + 1) 2 rAccess r] := by
 intro n
 induction n with
 | zero => intro out outG e r h; rw [s_l3Reads.eq_def] at h; cases h
 | succ n ih =>
  intro out outG e r h
  rw [s_l3Reads.eq_def] at h; dsimp only at h
  refine vmr tyOK Tryz.func136 rfl rfl rfl rfl rfl rfl rfl rfl ?_
  intro w X β0 hC hg
  refine rq hC [.b true] [3, 4] [(3, V.tp (tExpr e))] [] [] a0 ?_
  obtain ⟨j1, hj1, h⟩ := jn_e h
  refine vwp_jm (γ := Nat) (j := j1) (r := r) (fun x_ g_ => mkS [(0, ms 0 g_ 2 rAccess x_), (3, V.tp (tExpr e))] [(0, ar 107 g_ 2 rAccess x_)] [0]) ?_ ?_
  ·
   refine rq hC [] [6, 7, 8] [(8, vB (decide (e.kind = 3)))] [] [] a0 ?_
   refine vci (b := decide (e.kind = 3)) h (fun c1 h => ?_) (fun c1 h => ?_)
   ·obtain ⟨x2, hx2, h⟩ := bd h
    obtain ⟨x3, hx3, h⟩ := bd h
    refine rk hC [.vc [] [20] (V.agg [vS x2.array, ms 0 1 2 rAffine x2.subs]) [ar 109 1 2 rAffine x2.subs], .at 3, .fz 20 [12] [], .int 0, .rows (List.map rAccess x3)] [0, 9, 10, 11, 12, 13, 14] [(0, ms 0 (outG + 1) 2 rAccess x3)] [(20, none), (0, some (ar 107 (outG + 1) 2 rAccess x3))] [(20, true)] (a4 (c_s_l3CopyAccess G hx2) (app_map rAccess hx3) (rwM (r := rAccess) 2 rAccess_len out) (rwM (r := rAccess) 2 rAccess_len [x2])) ?_
    exact ⟨x3, (outG + 1), h, lS⟩
   ·refine qk ?_
    exact ⟨out, outG, h, lS⟩
  ·rintro x4 g5 h
   subst hj1
   refine qs (rq hC [] [5] [(5, vI 0)] [] [] trivial ?_)
   refine qb (vwp_lm (γ := Nat) h (fun x_ g_ => mkS [(0, ms 0 g_ 2 rAccess x_.1), (3, V.tp (tExpr e)), (5, vI x_.2)] [(0, ar 107 g_ 2 rAccess x_.1)] [0]) g5 (lS) ?_)
   rintro again9 ⟨x6, x7⟩ g8 h
   refine qs (rq hC [.nat e.kids.length] (fr 15 5) [(19, vB (decide (x7 < (e.kids.length : Int))))] [] [] (a1 (lenM rExpr e.kids)) ?_)
   refine vci (b := decide (x7 < (e.kids.length : Int))) h (fun c2 h => ?_) (fun c2 h => ?_)
   ·refine qk (qs (qb ?_))
    obtain ⟨x10, hx10, h⟩ := bd h
    obtain ⟨x11, hx11, h⟩ := bd h
    refine rk hC [.row (rExprC x10), .vc [0] [] (ms 0 (g8 + 1) 2 rAccess x11) [ar 107 (g8 + 1) 2 rAccess x11]] [0, 22, 23, 24, 25, 26, 27, 28] [(0, ms 0 (g8 + 1) 2 rAccess x11)] [(0, some (ar 107 (g8 + 1) 2 rAccess x11))] [(0, true)] (a2 (ix_mapE rExpr hx10 (rExpr_eq x10)) (ih x6 g8 x10 hx11)) ?_
    refine rk hC [] [5, 20, 21] [(5, vI (wr (x7 + 1)))] [] [] a0 ?_
    exact ⟨(x11, wr (x7 + 1)), (g8 + 1), h, lS⟩
   ·refine qxt (rq hC [] [4, 29] [(4, ms 0 g8 2 rAccess x6)] [] [] trivial ?_)
    refine qw (S.le_regenS 4 0 outG g8 2 0 (List.map rAccess x6).length (e := 107) (rows := List.map rAccess x6) rfl (by kernel_rfl) (by kernel_rfl) hg.1) ?_
    refine qr ?_
    obtain rfl := so h
    exact eW
theorem c_s_l4Size {a} {r} (h : s_l4Size n a = some r) : PCC Tryz.prog G.g 135 [V.agg [vS a.name, vM rI a.dims]] (vI r) := by
 unfold s_l4Size at h
 refine pmr tyOK Tryz.func135 rfl rfl rfl rfl rfl rfl rfl ?_
 intro w X hC
 refine rq hC [.b true] [1, 2] [(1, V.tp [T.str a.name, T.sl (List.map rI a.dims)])] [] [] a0 ?_
 refine rq hC [] [3] [(3, vI 1)] [] [] a0 ?_
 refine qs (rq hC [] [4] [(4, vI 0)] [] [] trivial ?_)
 refine qb (vwp_lm (γ := Unit) h (fun x_ _ => mkS [(1, V.tp [T.str a.name, T.sl (List.map rI a.dims)]), (3, vI x_.1), (4, vI x_.2)] [] []) () (lS) ?_)
 rintro again3 ⟨x1, x2⟩ ⟨⟩ h
 refine qs (rq hC [.nat a.dims.length] (fr 5 5) [(9, vB (decide (x2 < (a.dims.length : Int))))] [] [] (a1 (lenM rI a.dims)) ?_)
 refine vci (b := decide (x2 < (a.dims.length : Int))) h (fun c1 h => ?_) (fun c1 h => ?_)
 ·refine qk (qs (qb ?_))
  obtain ⟨x4, hx4, h⟩ := bd h
  refine rk hC [.row (rI x4)] [3, 12, 13, 14, 15, 16, 17, 18] [(3, vI (wr (x1 * x4)))] [] [] (a1 (ix_map rI hx4)) ?_
  refine rk hC [] [4, 10, 11] [(4, vI (wr (x2 + 1)))] [] [] a0 ?_
  exact ⟨(wr (x1 * x4), wr (x2 + 1)), (), h, lS⟩
 ·refine qxt (rq hC [] [2, 19] [(2, vI x1)] [] [] trivial ?_)
  refine qr ?_
  obtain rfl := so h
  exact eR
theorem c_s_l4Cell {list} {a} {point} {r} (h : s_l4Cell n list a point = some r) : PCC Tryz.prog G.g 120 [vM rArr list, V.agg (cAccess a), vM rI point] (vI r) := by
 unfold s_l4Cell at h
 refine pmr tyOK Tryz.func120 rfl rfl rfl rfl rfl rfl rfl ?_
 intro w X hC
 refine rq hC [.b true] [4, 6] [(4, V.tp (tAccess a))] [] [] a0 ?_
 refine rq hC [] [7] [(7, vI 0)] [] [] a0 ?_
 refine qs (rq hC [] [8] [(8, vI 0)] [] [] trivial ?_)
 refine qb (vwp_lm (γ := Unit) h (fun x_ _ => mkS [(0, vM rArr list), (2, vM rI point), (4, V.tp (tAccess a)), (7, vI x_.1), (8, vI x_.2)] [] []) () (lS) ?_)
 rintro again3 ⟨x1, x2⟩ ⟨⟩ h
 refine qs (rq hC [.nat list.length] (fr 12 4) [(15, vB (decide (x2 < (list.length : Int))))] [] [] (a1 (lenM rArr list)) ?_)
 refine vci (b := decide (x2 < (list.length : Int))) h (fun c1 h => ?_) (fun c1 h => ?_)
 ·refine qk (qs (qb (qs (qs ?_))))
  obtain ⟨x4, hx4, h⟩ := bd h
  refine dk hC hmix [.row (rArr x4)] (fr 18 8) [(25, vB (!decide (x4.name = a.array)))] [] [] (a1 (ix_map rArr hx4)) ?_
  refine vci (b := !decide (x4.name = a.array)) h (fun c2 h => ?_) (fun c2 h => ?_)
  ·obtain ⟨x5, hx5, h⟩ := bd h
   refine rq hC [.row (rArr x4), .v (vI x5)] [7, 26, 27, 28, 29, 30, 31, 32] [(7, vI (wr (x1 + x5)))] [] [] (a2 (ix_map rArr hx4) (c_s_l4Size G hx5)) ?_
   refine qxt (rk hC [] [8, 16, 17] [(8, vI (wr (x2 + 1)))] [] [] trivial ?_)
   exact ⟨(wr (x1 + x5), wr (x2 + 1)), (), h, lS⟩
  ·refine qk (rq hC [] [9] [(9, vI 0)] [] [] trivial ?_)
   refine qs (rq hC [] [10] [(10, vI 0)] [] [] trivial ?_)
   refine qb (vwp_lm (γ := Unit) h (fun x_ _ => mkS [(0, vM rArr list), (2, vM rI point), (4, V.tp (tAccess a)), (7, vI x1), (8, vI x2), (9, vI x_.1), (10, vI x_.2)] [] []) () (lS) ?_)
   rintro again8 ⟨x6, x7⟩ ⟨⟩ h
   refine qs (rq hC [.nat a.subs.length] (fr 33 5) [(37, vB (decide (x7 < (a.subs.length : Int))))] [] [] (a1 (lenM rAffine a.subs)) ?_)
   refine vci (b := decide (x7 < (a.subs.length : Int))) h (fun c3 h => ?_) (fun c3 h => ?_)
   ·refine qk (qs (qb (qs (qs (dk hC hmix [.nat a.subs.length, .row (rArr x4), .nat x4.dims.length] (fr 40 10) [(49, vB (!decide ((a.subs.length : Int) = (x4.dims.length : Int))))] [] [] (a3 (lenM rAffine a.subs) (ix_map rArr hx4) (lenM rI x4.dims)) ?_)))))
    refine vci (b := !decide ((a.subs.length : Int) = (x4.dims.length : Int))) h (fun c4 h => ?_) (fun c4 h => ?_)
    ·refine rq hC [] [6] [(6, vI (-1))] [] [] a0 ?_
     refine qr ?_
     obtain rfl := so h
     exact eR
    ·refine qk ?_
     obtain ⟨x9, hx9, h⟩ := bd h
     obtain ⟨x10, hx10, h⟩ := bd h
     refine rq hC [.row (rAffine x9), .v (vI x10)] [11, 50, 51, 52, 53, 54, 55, 56] [(11, vI x10)] [] [] (a2 (ix_map rAffine hx9) (c_s_l1Eval G hx10)) ?_
     refine qs ?_
     obtain ⟨j11, hj11, h⟩ := jn_e h
     refine vwp_jm (γ := Unit) (j := j11) (r := r) (fun x_ _ => mkS [(0, vM rArr list), (2, vM rI point), (4, V.tp (tAccess a)), (7, vI x1), (8, vI x2), (9, vI x6), (10, vI x7), (11, vI x10), (70, vB x_)] [] []) ?_ ?_
     ·
      refine splI h (fun c5 h => ?_) (fun c5 h => ?_)
      ·obtain ⟨x12, hx12, h⟩ := bd h
       refine rk hC [.b false, .b false, .b false, .b false, .row (rArr x4), .b false, .b false, .b false, .b false, .row (rI x12), .b false, .b false, .b false] (fr 57 14) [(70, vB (decide (x12 ≤ x10)))] [] [] (an c5 (a12 c5 c5 c5 (ix_map rArr hx4) c5 c5 c5 c5 (ix_map rI hx12) c5 c5 c5)) ?_
       exact ⟨decide (x12 ≤ x10), (), h, lS⟩
      ·refine rk hC [.b true, .b true, .b true, .b true, .b true, .b true, .b true, .b true, .b true, .b true, .b true] (fr 57 14) [(70, vB true)] [] [] (a11 c5 c5 c5 c5 c5 c5 c5 c5 c5 c5 c5) ?_
       exact ⟨true, (), h, lS⟩
     ·rintro x13 ⟨⟩ h
      subst hj11
      refine vci (b := x13) h (fun c6 h => ?_) (fun c6 h => ?_)
      ·refine rq hC [] [6] [(6, vI (-1))] [] [] a0 ?_
       refine qr ?_
       obtain rfl := so h
       exact eR
      ·refine qk ?_
       obtain ⟨x14, hx14, h⟩ := bd h
       refine rk hC [.row (rArr x4), .row (rI x14)] [9, 71, 72, 73, 74, 75, 76, 77, 78, 79, 80, 81, 82] [(9, vI (wr ((wr (x6 * x14)) + x10)))] [] [] (a2 (ix_map rArr hx4) (ix_map rI hx14)) ?_
       refine rk hC [] [10, 38, 39] [(10, vI (wr (x7 + 1)))] [] [] a0 ?_
       exact ⟨(wr ((wr (x6 * x14)) + x10), wr (x7 + 1)), (), h, lS⟩
   ·refine qxt (rq hC [] [6, 83, 84, 85] [(6, vI (wr (x1 + x6)))] [] [] trivial ?_)
    refine qr ?_
    obtain rfl := so h
    exact eR
 ·refine qxt (rq hC [] [6] [(6, vI (-1))] [] [] trivial ?_)
  refine qr ?_
  obtain rfl := so h
  exact eR
theorem c_s_l4Cells {list} {s} {point} {r} (h : s_l4Cells n list s point = some r) : VCC Tryz.prog G.g 85 [] [vM rArr list, V.agg (cStmt s), vM rI point] (V.tup [ms 0 1 1 rI r.1, vI r.2.1, vB r.2.2]) [ar 3 1 1 rI r.1] := by
 unfold s_l4Cells at h
 refine vmr tyOK Tryz.func85 rfl rfl rfl rfl rfl rfl rfl rfl ?_
 intro w X β0 hC hg
 refine rq hC [.b true] [4, 6, 7, 8] [(4, V.tp (tStmt s))] [] [] a0 ?_
 refine rq hC [.nat 20] [9, 14] [(9, ms 20 1 1 rI [])] [(20, some (ar 3 1 1 rI []))] [(20, true)] a0 ?_
 obtain ⟨x1, hx1, h⟩ := bd h
 refine rq hC [.nat 21, .vc [21] [] (ms 0 2 2 rAccess x1) [ar 107 2 2 rAccess x1]] [10, 15, 16, 17, 18] [(10, ms 21 2 2 rAccess x1)] [(21, some (ar 107 2 2 rAccess x1))] [(21, true), (21, true)] (a1 (c_s_l3Reads G n [] 1 s.value hx1)) ?_
 refine qs (rq hC [] [11] [(11, vI 0)] [] [] trivial ?_)
 refine qb (vwp_lm (γ := Nat) h (fun x_ g_ => mkS [(0, vM rArr list), (2, vM rI point), (4, V.tp (tStmt s)), (9, ms 20 g_ 1 rI x_.1), (10, ms 21 2 2 rAccess x1), (11, vI x_.2)] [(20, ar 3 g_ 1 rI x_.1), (21, ar 107 2 2 rAccess x1)] [20, 21]) 1 (lS) ?_)
 rintro again5 ⟨x2, x3⟩ g4 h
 refine qs (rq hC [.nat x1.length] (fr 19 4) [(22, vB (decide (x3 < (x1.length : Int))))] [] [] (a1 (lenM rAccess x1)) ?_)
 refine vci (b := decide (x3 < (x1.length : Int))) h (fun c1 h => ?_) (fun c1 h => ?_)
 ·refine qk (qs (qb ?_))
  obtain ⟨x6, hx6, h⟩ := bd h
  obtain ⟨x7, hx7, h⟩ := bd h
  refine rq hC [.row (rAccess x6), .v (vI x7)] [12, 25, 26, 27, 28, 29, 30, 31] [(12, vI x7)] [] [] (a3 (ixn rAccess hx6) (ixr rAccess hx6) (c_s_l4Cell G hx7)) ?_
  refine qs (rq hC [] [32, 33] [(33, vB (decide (x7 < 0)))] [] [] trivial ?_)
  refine vci (b := decide (x7 < 0)) h (fun c2 h => ?_) (fun c2 h => ?_)
  ·refine rq hC [.nat 22] [6, 7, 8, 34] [(6, ms 22 1 1 rI []), (7, vI 0), (8, vB false)] [(22, some (ar 3 1 1 rI []))] [(22, true)] a0 ?_
   refine qw (lk hC [.ren 6 22 0] [6] [(6, ms 0 1 1 rI [])] [(0, some (ar 3 1 1 rI [])), (22, none)] [(0, true)]) ?_
   refine qr ?_
   obtain rfl := so h
   exact eW
  ·refine qk ?_
   obtain ⟨x8, hx8, h⟩ := bd h
   refine rk hC [.int 0, .rows (List.map rI x8)] [9, 35, 36, 37, 38] [(9, ms 20 (g4 + 1) 1 rI x8)] [(20, some (ar 3 (g4 + 1) 1 rI x8))] [] (a3 (app_map rI hx8) (rwM (r := rI) 1 (fun _ => rfl) x2) (rwM (r := rI) 1 (fun _ => rfl) [x7])) ?_
   refine rk hC [] [11, 23, 24] [(11, vI (wr (x3 + 1)))] [] [] a0 ?_
   exact ⟨(x8, wr (x3 + 1)), (g4 + 1), h, lS⟩
 ·refine qxt ?_
  obtain ⟨x9, hx9, h⟩ := bd h
  refine rq hC [.v (vI x9)] [13, 39, 40, 41, 42, 43] [(13, vI x9)] [] [] (a1 (c_s_l4Cell G hx9)) ?_
  refine qs (rq hC [] [44, 45] [(45, vB (decide (x9 < 0)))] [] [] trivial ?_)
  refine vci (b := decide (x9 < 0)) h (fun c3 h => ?_) (fun c3 h => ?_)
  ·refine rq hC [.nat 22] [6, 7, 8, 46] [(6, ms 22 1 1 rI []), (7, vI 0), (8, vB false)] [(22, some (ar 3 1 1 rI []))] [(22, true)] a0 ?_
   refine qw (lk hC [.ren 6 22 0] [6] [(6, ms 0 1 1 rI [])] [(0, some (ar 3 1 1 rI [])), (22, none)] [(0, true)]) ?_
   refine qr ?_
   obtain rfl := so h
   exact eW
  ·refine qk (rq hC [] [6, 7, 8, 47, 48] [(6, ms 20 g4 1 rI x2), (7, vI x9), (8, vB true)] [] [] trivial ?_)
   refine qw (lk hC [.ren 6 20 0] [6] [(6, ms 0 1 1 rI x2)] [(0, some (ar 3 1 1 rI x2)), (20, none)] [(0, true)]) ?_
   refine qr ?_
   obtain rfl := so h
   exact eW
theorem c_s_l1Point {p} {r} (h : s_l1Point n p = some r) : PCC Tryz.prog G.g 157 [vM rI p] (vB r) := by
 unfold s_l1Point at h
 refine pmr tyOK Tryz.func157 rfl rfl rfl rfl rfl rfl rfl ?_
 intro w X hC
 refine rq hC [] [2] [] [] [] a0 ?_
 refine qs (rq hC [] [3] [(3, vI 0)] [] [] trivial ?_)
 refine qb (vwp_lm (γ := Unit) h (fun x_ _ => mkS [(0, vM rI p), (3, vI x_)] [] []) () (lS) ?_)
 rintro again2 x1 ⟨⟩ h
 refine qs (rq hC [.nat p.length] (fr 4 4) [(7, vB (decide (x1 < (p.length : Int))))] [] [] (a1 (lenM rI p)) ?_)
 refine vci (b := decide (x1 < (p.length : Int))) h (fun c1 h => ?_) (fun c1 h => ?_)
 ·refine qk (qs (qb ?_))
  obtain ⟨x3, hx3, h⟩ := bd h
  obtain ⟨x4, hx4, h⟩ := bd h
  refine rq hC [.row (rI x3), .v (vB x4)] (fr 10 6) [(15, vB (!x4))] [] [] (a2 (ix_map rI hx3) (c_s_l1Within G hx4)) ?_
  refine vci (b := !x4) h (fun c2 h => ?_) (fun c2 h => ?_)
  ·refine rq hC [] [2] [(2, vB false)] [] [] a0 ?_
   refine qr ?_
   obtain rfl := so h
   exact eR
  ·refine qk (rk hC [] [3, 8, 9] [(3, vI (wr (x1 + 1)))] [] [] trivial ?_)
   exact ⟨wr (x1 + 1), (), h, lS⟩
 ·refine qxt (rq hC [.nat p.length] [2, 16, 17, 18] [(2, vB (decide ((p.length : Int) ≤ 4)))] [] [] (a1 (lenM rI p)) ?_)
  refine qr ?_
  obtain rfl := so h
  exact eR
theorem c_s_l4Part {list} {part} {r} (h : s_l4Part n list part = some r) : PCC Tryz.prog G.g 103 [vM rArr list, V.agg (cPart part)] (V.tup [vI r.1, vB r.2]) := by
 unfold s_l4Part at h
 refine pmr tyOK Tryz.func103 rfl rfl rfl rfl rfl rfl rfl ?_
 intro w X hC
 refine rq hC [.b true] [3, 4, 5] [(3, V.tp (tPart part))] [] [] a0 ?_
 obtain ⟨x1, hx1, h⟩ := bd h
 refine rq hC [.vc [] [20] (V.tup [ms 0 1 1 (rL rI) x1.1, vB x1.2]) [ar 40 1 1 (rL rI) x1.1]] [6, 7, 13, 14, 15, 16, 17, 18] [(6, ms 20 1 1 (rL rI) x1.1), (7, vB x1.2)] [(20, some (ar 40 1 1 (rL rI) x1.1))] [(20, true)] (a1 (c_s_NestPoints G hx1)) ?_
 refine qs ?_
 obtain ⟨j2, hj2, h⟩ := jn_e h
 refine vwp_jm (γ := Unit) (j := j2) (r := r) (fun x_ _ => mkS [(0, vM rArr list), (3, V.tp (tPart part)), (6, ms 20 1 1 (rL rI) x1.1), (32, vB x_)] [(20, ar 40 1 1 (rL rI) x1.1)] [20]) ?_ ?_
 ·
  refine splI h (fun c1 h => ?_) (fun c1 h => ?_)
  ·refine splI h (fun c2 h => ?_) (fun c2 h => ?_)
   ·refine rk hC [.b false, .b false, .b false, .nat part.body.length, .b false, .b false, .b false, .b false, .b false, .nat part.body.length, .b false, .b false] (fr 19 14) [(32, vB (decide ((4 : Int) < (part.body.length : Int))))] [] [] (a12 c1 c1 c1 (lenM rStmt part.body) c1 c1 c2 c2 c2 (lenM rStmt part.body) c2 c2) ?_
    exact ⟨decide ((4 : Int) < (part.body.length : Int)), (), h, lS⟩
   ·refine rk hC [.b false, .b false, .b false, .nat part.body.length, .b false, .b false, .b true, .b true, .b true, .b true, .b true] (fr 19 14) [(32, vB true)] [] [] (a11 c1 c1 c1 (lenM rStmt part.body) c1 c1 c2 c2 c2 c2 c2) ?_
    exact ⟨true, (), h, lS⟩
  ·refine rk hC [.b true, .b true, .b true, .b true, .b true, .b true, .b true, .b true, .b true, .b true] (fr 19 14) [(32, vB true)] [] [] (a10 c1 c1 c1 c1 c1 (Eq.refl true) (Eq.refl true) (Eq.refl true) (Eq.refl true) (Eq.refl true)) ?_
   exact ⟨true, (), h, lS⟩
 ·rintro x3 ⟨⟩ h
  subst hj2
  refine vci (b := x3) h (fun c3 h => ?_) (fun c3 h => ?_)
  ·refine rq hC [] [4, 5] [(4, vI 0), (5, vB false)] [] [] a0 ?_
   refine qr ?_
   obtain rfl := so h
   exact eR
  ·refine qk (qs (rq hC [] [8] [(8, vI 0)] [] [] trivial ?_))
   refine qb (vwp_lm (γ := Unit) h (fun x_ _ => mkS [(0, vM rArr list), (3, V.tp (tPart part)), (6, ms 20 1 1 (rL rI) x1.1), (8, vI x_)] [(20, ar 40 1 1 (rL rI) x1.1)] [20]) () (lS) ?_)
   rintro again5 x4 ⟨⟩ h
   refine qs (rq hC [.nat part.body.length] (fr 33 5) [(37, vB (decide (x4 < (part.body.length : Int))))] [] [] (a1 (lenM rStmt part.body)) ?_)
   refine vci (b := decide (x4 < (part.body.length : Int))) h (fun c4 h => ?_) (fun c4 h => ?_)
   ·refine qk (qs (qb (qs (qs ?_))))
    obtain ⟨x6, hx6, h⟩ := bd h
    obtain ⟨x7, hx7, h⟩ := bd h
    refine dk hC hmix [.row (rStmt x6), .nat part.nest.length, .v (vB x7)] (fr 40 10) [(49, vB (!x7))] [] [] (a3 (ix_map rStmt hx6) (lenM rLoop part.nest) (c_s_StmtValid G hx7)) ?_
    refine vci (b := !x7) h (fun c5 h => ?_) (fun c5 h => ?_)
    ·refine rq hC [] [4, 5] [(4, vI 0), (5, vB false)] [] [] a0 ?_
     refine qr ?_
     obtain rfl := so h
     exact eR
    ·refine qk (rq hC [] [9] [(9, vI 0)] [] [] trivial ?_)
     refine qb (vwp_lm (γ := Unit) h (fun x_ _ => mkS [(0, vM rArr list), (3, V.tp (tPart part)), (6, ms 20 1 1 (rL rI) x1.1), (8, vI x4), (9, vI x_)] [(20, ar 40 1 1 (rL rI) x1.1)] [20]) () (lS) ?_)
     rintro again9 x8 ⟨⟩ h
     refine qs (rq hC [.nat x1.1.length] (fr 50 4) [(53, vB (decide (x8 < (x1.1.length : Int))))] [] [] (a1 (lenM (rL rI) x1.1)) ?_)
     refine vci (b := decide (x8 < (x1.1.length : Int))) h (fun c6 h => ?_) (fun c6 h => ?_)
     ·refine qk (qs (qb (qs ?_)))
      obtain ⟨x10, hx10, h⟩ := bd h
      obtain ⟨x11, hx11, h⟩ := bd h
      refine dk hC hmix [.row (rStmt x6), .row ((rL rI) x10), .vc [] [21] (V.tup [ms 0 1 1 rI x11.1, vI x11.2.1, vB x11.2.2]) [ar 3 1 1 rI x11.1]] [10, 11, 12, 56, 57, 58, 59, 60, 61, 62, 63, 64, 65, 66, 67, 68, 69, 70] [(12, vB x11.2.2)] [(21, some (ar 3 1 1 rI x11.1))] [(21, true)] (a4 (ix_map rStmt hx6) (ixn (rL rI) hx10) (ixr (rL rI) hx10) (c_s_l4Cells G hx11)) ?_
      obtain ⟨j12, hj12, h⟩ := jn_e h
      refine vwp_jm (γ := Unit) (j := j12) (r := r) (fun x_ _ => mkS [(0, vM rArr list), (3, V.tp (tPart part)), (6, ms 20 1 1 (rL rI) x1.1), (8, vI x4), (9, vI x8), (80, vB x_)] [(20, ar 40 1 1 (rL rI) x1.1), (21, ar 3 1 1 rI x11.1)] [20, 21]) ?_ ?_
      ·
       refine splI h (fun c7 h => ?_) (fun c7 h => ?_)
       ·obtain ⟨x13, hx13, h⟩ := bd h
        refine rk hC [.b false, .b false, .b false, .b false, .row ((rL rI) x10), .b false, .v (vB x13), .b false, .b false] (fr 71 10) [(80, vB (!x13))] [] [] (a10 c7 c7 c7 (ixn (rL rI) hx10) c7 (ixr (rL rI) hx10) c7 (c_s_l1Point G hx13) c7 c7) ?_
        exact ⟨!x13, (), h, lS⟩
       ·refine rk hC [.b true, .b true, .b true, .b true, .b true, .b true, .b true] (fr 71 10) [(80, vB true)] [] [] (a7 c7 c7 c7 c7 c7 c7 c7) ?_
        exact ⟨true, (), h, lS⟩
      ·rintro x14 ⟨⟩ h
       subst hj12
       refine vci (b := x14) h (fun c8 h => ?_) (fun c8 h => ?_)
       ·refine rq hC [] [4, 5] [(4, vI 0), (5, vB false)] [] [] a0 ?_
        refine qr ?_
        obtain rfl := so h
        exact eR
       ·refine qk (rk hC [] [9, 54, 55] [(9, vI (wr (x8 + 1)))] [] [] trivial ?_)
        exact ⟨wr (x8 + 1), (), h, lS⟩
     ·refine qxt (rk hC [] [8, 38, 39] [(8, vI (wr (x4 + 1)))] [] [] trivial ?_)
      exact ⟨wr (x4 + 1), (), h, lS⟩
   ·refine qxt (rq hC [.nat x1.1.length, .nat part.body.length] [4, 5, 81, 82, 83, 84, 85, 86] [(4, vI (wr ((x1.1.length : Int) * (part.body.length : Int)))), (5, vB true)] [] [] (a2 (lenM (rL rI) x1.1) (lenM rStmt part.body)) ?_)
    refine qr ?_
    obtain rfl := so h
    exact eR
theorem c_s_ProgramValid {p} {r} (h : s_ProgramValid n p = some r) : PCC Tryz.prog G.g 56 [V.agg (cProg p)] (vB r) := by
 unfold s_ProgramValid at h
 refine pmr tyOK Tryz.func56 rfl rfl rfl rfl rfl rfl rfl ?_
 intro w X hC
 refine rq hC [.b true] [1, 2] [(1, V.tp (tProg p))] [] [] a0 ?_
 refine qs ?_
 obtain ⟨j1, hj1, h⟩ := jn_e h
 refine vwp_jm (γ := Unit) (j := j1) (r := r) (fun x_ _ => mkS [(1, V.tp (tProg p)), (16, vB x_)] [] []) ?_ ?_
 ·
  obtain ⟨x2, hx2, h⟩ := bd h
  refine splI h (fun c1 h => ?_) (fun c1 h => ?_)
  ·refine rk hC [.v (vB x2), .b false, .b false, .b false, .nat p.parts.length, .b false, .b false] (fr 7 10) [(16, vB (decide ((4 : Int) < (p.parts.length : Int))))] [] [] (a7 (c_s_l4Arrays G hx2) c1 c1 c1 (lenM rPart p.parts) c1 c1) ?_
   exact ⟨decide ((4 : Int) < (p.parts.length : Int)), (), h, lS⟩
  ·refine rk hC [.v (vB x2), .b true, .b true, .b true, .b true, .b true] (fr 7 10) [(16, vB true)] [] [] (a6 (c_s_l4Arrays G hx2) c1 c1 c1 c1 c1) ?_
   exact ⟨true, (), h, lS⟩
 ·rintro x3 ⟨⟩ h
  subst hj1
  refine vci (b := x3) h (fun c2 h => ?_) (fun c2 h => ?_)
  ·refine rq hC [] [2] [(2, vB false)] [] [] a0 ?_
   refine qr ?_
   obtain rfl := so h
   exact eR
  ·refine qk (rq hC [] [3] [(3, vI 0)] [] [] trivial ?_)
   refine qs (rq hC [] [4] [(4, vI 0)] [] [] trivial ?_)
   refine qb (vwp_lm (γ := Unit) h (fun x_ _ => mkS [(1, V.tp (tProg p)), (3, vI x_.1), (4, vI x_.2)] [] []) () (lS) ?_)
   rintro again6 ⟨x4, x5⟩ ⟨⟩ h
   refine qs (rq hC [.nat p.parts.length] (fr 17 5) [(21, vB (decide (x5 < (p.parts.length : Int))))] [] [] (a1 (lenM rPart p.parts)) ?_)
   refine vci (b := decide (x5 < (p.parts.length : Int))) h (fun c3 h => ?_) (fun c3 h => ?_)
   ·refine qk (qs (qb (qs ?_)))
    obtain ⟨x7, hx7, h⟩ := bd h
    obtain ⟨x8, hx8, h⟩ := bd h
    refine dk hC hmix [.row (rPart x7), .v (V.tup [vI x8.1, vB x8.2])] [5, 6, 24, 25, 26, 27, 28, 29, 30, 31, 32, 33, 34] [(5, vI x8.1), (6, vB x8.2)] [] [] (a2 (ix_map rPart hx7) (c_s_l4Part G hx8)) ?_
    refine qs (rq hC [] [35, 36] [(36, vB (!x8.2))] [] [] trivial ?_)
    refine vci (b := !x8.2) h (fun c4 h => ?_) (fun c4 h => ?_)
    ·refine rq hC [] [2] [(2, vB false)] [] [] a0 ?_
     refine qr ?_
     obtain rfl := so h
     exact eR
    ·refine qk (rk hC [] [3, 37, 38, 39] [(3, vI (wr (x4 + x8.1)))] [] [] trivial ?_)
     refine rk hC [] [4, 22, 23] [(4, vI (wr (x5 + 1)))] [] [] a0 ?_
     exact ⟨(wr (x4 + x8.1), wr (x5 + 1)), (), h, lS⟩
   ·refine qxt (rq hC [] [2, 40, 41] [(2, vB (decide (x4 ≤ 120)))] [] [] trivial ?_)
    refine qr ?_
    obtain rfl := so h
    exact eR
theorem c_s_l4Instances {p} {r} (h : s_l4Instances n p = some r) : VCC Tryz.prog G.g 70 [] [V.agg (cProg p)] (ms 0 1 3 rInst r) [ar 53 1 3 rInst r] := by
 unfold s_l4Instances at h
 refine vmr tyOK Tryz.func70 rfl rfl rfl rfl rfl rfl rfl rfl ?_
 intro w X β0 hC hg
 refine rq hC [.b true] [1, 2] [(1, V.tp (tProg p))] [] [] a0 ?_
 refine rq hC [.nat 20] [3, 8] [(3, ms 20 1 3 rInst [])] [(20, some (ar 53 1 3 rInst []))] [(20, true)] a0 ?_
 refine qs (rq hC [] [4] [(4, vI 0)] [] [] trivial ?_)
 refine qb (vwp_lm (γ := Nat) h (fun x_ g_ => mkS [(1, V.tp (tProg p)), (3, ms 20 g_ 3 rInst x_.1), (4, vI x_.2)] [(20, ar 53 g_ 3 rInst x_.1)] [20]) 1 (lS) ?_)
 rintro again4 ⟨x1, x2⟩ g3 h
 refine qs (rq hC [.nat p.parts.length] (fr 9 5) [(13, vB (decide (x2 < (p.parts.length : Int))))] [] [] (a1 (lenM rPart p.parts)) ?_)
 refine vci (b := decide (x2 < (p.parts.length : Int))) h (fun c1 h => ?_) (fun c1 h => ?_)
 ·refine qk (qs (qb ?_))
  obtain ⟨x5, hx5, h⟩ := bd h
  obtain ⟨x6, hx6, h⟩ := bd h
  refine rq hC [.nat 21, .row (rPart x5), .vc [21] [] (ms 0 2 1 (rL rI) x6) [ar 40 2 1 (rL rI) x6]] [5, 16, 17, 18, 19, 20, 21, 22, 23] [(5, ms 21 2 1 (rL rI) x6)] [(21, some (ar 40 2 1 (rL rI) x6))] [(21, true), (21, true)] (a2 (ix_map rPart hx5) (c_s_l2Points G n [] 1 x5.nest [] hx6)) ?_
  refine rq hC [] [6] [(6, vI 0)] [] [] a0 ?_
  refine qb (vwp_lm (γ := Nat) h (fun x_ g_ => mkS [(1, V.tp (tProg p)), (3, ms 20 g_ 3 rInst x_.1), (4, vI x2), (5, ms 21 2 1 (rL rI) x6), (6, vI x_.2)] [(20, ar 53 g_ 3 rInst x_.1), (21, ar 40 2 1 (rL rI) x6)] [20, 21]) g3 (lS) ?_)
  rintro again10 ⟨x7, x8⟩ g9 h
  refine qs (rq hC [.nat x6.length] (fr 24 4) [(27, vB (decide (x8 < (x6.length : Int))))] [] [] (a1 (lenM (rL rI) x6)) ?_)
  refine vci (b := decide (x8 < (x6.length : Int))) h (fun c2 h => ?_) (fun c2 h => ?_)
  ·refine qk (qs (qb (rq hC [] [7] [(7, vI 0)] [] [] trivial ?_)))
   refine qb (vwp_lm (γ := Nat) h (fun x_ g_ => mkS [(1, V.tp (tProg p)), (3, ms 20 g_ 3 rInst x_.1), (4, vI x2), (5, ms 21 2 1 (rL rI) x6), (6, vI x8), (7, vI x_.2)] [(20, ar 53 g_ 3 rInst x_.1), (21, ar 40 2 1 (rL rI) x6)] [20, 21]) g9 (lS) ?_)
   rintro again14 ⟨x11, x12⟩ g13 h
   refine qs (rq hC [.row (rPart x5), .nat x5.body.length] (fr 30 9) [(38, vB (decide (x12 < (x5.body.length : Int))))] [] [] (a2 (ix_map rPart hx5) (lenM rStmt x5.body)) ?_)
   refine vci (b := decide (x12 < (x5.body.length : Int))) h (fun c3 h => ?_) (fun c3 h => ?_)
   ·refine qk (qs (qb ?_))
    obtain ⟨x15, hx15, h⟩ := bd h
    obtain ⟨x16, hx16, h⟩ := bd h
    obtain ⟨x17, hx17, h⟩ := bd h
    refine rk hC [.nat 22, .row ((rL rI) x15), .rows (List.map rI x16), .at 4, .fz 22 [49] [], .int 0, .rows (List.map rInst x17)] [3, 41, 42, 43, 44, 45, 46, 47, 48, 49, 50, 51, 52] [(3, ms 20 (g13 + 1) 3 rInst x17)] [(22, none), (20, some (ar 53 (g13 + 1) 3 rInst x17))] [(22, true)] (a8 (ixn (rL rI) hx15) (ixr (rL rI) hx15) (app_map rI hx16) (rwM (r := rI) 1 (fun _ => rfl) []) (rwM (r := rI) 1 (fun _ => rfl) x15) (app_map rInst hx17) (rwM (r := rInst) 3 rInst_len x11) (rwM (r := rInst) 3 rInst_len [(⟨x2, x12, x16⟩ : Inst)])) ?_
    refine rk hC [] [7, 39, 40] [(7, vI (wr (x12 + 1)))] [] [] a0 ?_
    exact ⟨(x17, wr (x12 + 1)), (g13 + 1), h, lS⟩
   ·refine qxt (rk hC [] [6, 28, 29] [(6, vI (wr (x8 + 1)))] [] [] trivial ?_)
    exact ⟨(x11, wr (x8 + 1)), g13, h, lS⟩
  ·refine qxt (rk hC [] [4, 14, 15] [(4, vI (wr (x2 + 1)))] [] [] trivial ?_)
   exact ⟨(x7, wr (x2 + 1)), g9, h, lS⟩
 ·refine qxt (rq hC [] [2, 53] [(2, ms 20 g3 3 rInst x1)] [] [] trivial ?_)
  refine qw (lk hC [.ren 2 20 0] [2] [(2, ms 0 1 3 rInst x1)] [(0, some (ar 53 1 3 rInst x1)), (20, none)] [(0, true)]) ?_
  refine qr ?_
  obtain rfl := so h
  exact eW
theorem c_i_within {n_a0} {low} {high} {r} (h : i_within n n_a0 low high = some r) : PCC Tryz.prog G.g 89 [vI n_a0, vI low, vI high] (vB r) := by
 unfold i_within at h
 refine pmr tyOK Tryz.func89 rfl rfl rfl rfl rfl rfl rfl ?_
 intro w X hC
 refine rq hC [] [6] [] [] [] a0 ?_
 obtain ⟨j1, hj1, h⟩ := jn_e h
 refine vwp_jm (γ := Unit) (j := j1) (r := r) (fun x_ _ => mkS [(6, vB x_)] [] []) ?_ ?_
 ·
  refine splI h (fun c1 h => ?_) (fun c1 h => ?_)
  ·refine rk hC [.b false, .b false, .b false, .b false] (fr 6 9) [(6, vB false)] [] [] (a4 c1 c1 c1 c1) ?_
   exact ⟨false, (), h, lS⟩
  ·refine rk hC [.b true, .b true, .b true, .b true] (fr 6 9) [(6, vB (decide (n_a0 ≤ high)))] [] [] (a4 c1 c1 c1 c1) ?_
   exact ⟨decide (n_a0 ≤ high), (), h, lS⟩
 ·rintro x2 ⟨⟩ h
  subst hj1
  refine qr ?_
  obtain rfl := so h
  exact eR
theorem c_i_isArray {s} {r} (h : i_isArray n s = some r) : PCC Tryz.prog G.g 169 [vS s] (vB r) := by
 unfold i_isArray at h
 refine pmr tyOK Tryz.func169 rfl rfl rfl rfl rfl rfl rfl ?_
 intro w X hC
 refine rq hC [] [2] [] [] [] a0 ?_
 obtain ⟨j1, hj1, h⟩ := jn_e h
 refine vwp_jm (γ := Unit) (j := j1) (r := r) (fun x_ _ => mkS [(2, vB x_)] [] []) ?_ ?_
 ·
  refine splI h (fun c1 h => ?_) (fun c1 h => ?_)
  ·refine rk hC [.b false, .b false, .b false] (fr 2 8) [(2, vB false)] [] [] (a3 c1 c1 c1) ?_
   exact ⟨false, (), h, lS⟩
  ·obtain ⟨x2, hx2, h⟩ := bd h
   refine rk hC [.b true, .b true, .v (vB x2), .b true] (fr 2 8) [(2, vB x2)] [] [] (a4 c1 c1 (G.contains [65, 66, 67, 68] s x2 hx2) c1) ?_
   exact ⟨x2, (), h, lS⟩
 ·rintro x3 ⟨⟩ h
  subst hj1
  refine qr ?_
  obtain rfl := so h
  exact eR
theorem c_i_isConst {n_a0} {r} (h : i_isConst n n_a0 = some r) : PCC Tryz.prog G.g 235 [vI n_a0] (vB r) := by
 unfold i_isConst at h
 refine pmr tyOK Tryz.func235 rfl rfl rfl rfl rfl rfl rfl ?_
 intro w X hC
 refine rq hC [] [2] [] [] [] a0 ?_
 obtain ⟨x1, hx1, h⟩ := bd h
 refine rq hC [.v (vB x1)] [2, 3, 4] [(2, vB x1)] [] [] (a1 (c_i_within G hx1)) ?_
 refine qr ?_
 obtain rfl := so h
 exact eR
theorem c_i_AffineValid_1 (G : GS) (n : Nat) (c : Int) {r : Bool} (h : i_AffineValid_1 n c = some r) : PCC Tryz.prog G.g 236 [vI c] (vB r) := by
 unfold i_AffineValid_1 at h
 refine pmr tyOK Tryz.func236 rfl rfl rfl rfl rfl rfl rfl ?_
 intro w X hC
 refine rq hC [] [2] [] [] [] a0 ?_
 obtain ⟨x1, hx1, h⟩ := bd h
 refine rq hC [.v (vB x1)] (fr 2 4) [(2, vB (!x1))] [] [] (a1 (c_i_within G hx1)) ?_
 refine qr ?_
 obtain rfl := so h
 exact eR
theorem c_l_IndexFunc_int (G : GS) (n : Nat) (s : List Int) (fF : FuncId) (f : Int → Option Bool) (hf : ∀ (q0 : Int) r, f q0 = some r → PCC Tryz.prog G.g fF [vI q0] (vB r)) {r : Int} (h : l_IndexFunc_int n s f = some r) : PCC Tryz.prog G.g 137 [vM rI s, V.fn fF []] (vI r) := by
 unfold l_IndexFunc_int at h
 refine pmr tyOK Tryz.func137 rfl rfl rfl rfl rfl rfl rfl ?_
 intro w X hC
 refine rq hC [] [4] [] [] [] a0 ?_
 refine qs (rq hC [.nat s.length] [6, 7, 8] [(7, vI (s.length : Int)), (8, vI 0)] [] [] (a1 (lenM rI s)) ?_)
 refine qb (vwp_lm (γ := Unit) h (fun x_ _ => mkS [(0, vM rI s), (1, V.fn fF []), (7, vI (s.length : Int)), (8, vI x_)] [] []) () (lS) ?_)
 rintro again2 x1 ⟨⟩ h
 refine rq hC [] [9] [(9, vB (decide (x1 < (s.length : Int))))] [] [] a0 ?_
 refine qs (vci (b := decide (x1 < (s.length : Int))) h (fun c1 h => ?_) (fun c1 h => ?_))
 ·refine qk (qs (qb (rq hC [] [5, 10] [(5, vI x1)] [] [] trivial ?_)))
  obtain ⟨x3, hx3, h⟩ := bd h
  obtain ⟨x4, hx4, h⟩ := bd h
  refine rq hC [.row (rI x3), .v (vB x4)] (fr 11 6) [(16, vB x4)] [] [] (a2 (ix_map rI hx3) (hf x3 _ hx4)) ?_
  refine vci (b := x4) h (fun c2 h => ?_) (fun c2 h => ?_)
  ·refine rq hC [] [4, 17] [(4, vI x1)] [] [] a0 ?_
   refine qr ?_
   obtain rfl := so h
   exact eR
  ·refine qk (rk hC [] [8, 18] [(8, vI (wr (x1 + 1)))] [] [] trivial ?_)
   exact ⟨wr (x1 + 1), (), h, lS⟩
 ·refine qxt (rq hC [] [4] [(4, vI (-1))] [] [] trivial ?_)
  refine qr ?_
  obtain rfl := so h
  exact eR
end Go.Lift
