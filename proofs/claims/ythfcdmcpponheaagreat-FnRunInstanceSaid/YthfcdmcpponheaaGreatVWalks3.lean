/- The walks: the code computes what the plain functions say. -/
import Derived.Test.YthfcdmcpponheaaGreatVModels
import Derived.Test.YthfcdmcpponheaaGreatVWalks2
set_option maxRecDepth 10000
set_option linter.unusedVariables false
namespace Go.Lift
open Go Go.Proofs
variable (G : GS) {n : Nat}
theorem c_s_l1Text {a} {r} (h : s_l1Text n a = some r) : PCC Tryz.prog G.g 261 [V.agg (cAffine a)] (vS r) := by
 unfold s_l1Text at h
 refine pmr tyOK Tryz.func261 rfl rfl rfl rfl rfl rfl rfl ?_
 intro w X hC
 refine rq hC [.b true] [1, 2] [(1, V.tp (tAffine a))] [] [] a0 ?_
 refine rq hC [] [3] [(3, vS [])] [] [] a0 ?_
 refine qs (rq hC [] [4] [(4, vI 0)] [] [] trivial ?_)
 refine qb (vwp_lm (γ := Unit) h (fun x_ _ => mkS [(1, V.tp (tAffine a)), (3, vS x_.1), (4, vI x_.2)] [] []) () (lS) ?_)
 rintro again3 ⟨x1, x2⟩ ⟨⟩ h
 refine qs (rq hC [.nat a.coefs.length] (fr 5 5) [(9, vB (decide (x2 < (a.coefs.length : Int))))] [] [] (a1 (lenM rI a.coefs)) ?_)
 refine vci (b := decide (x2 < (a.coefs.length : Int))) h (fun c1 h => ?_) (fun c1 h => ?_)
 ·refine qk ?_
  obtain ⟨j4, hj4, h⟩ := jn_e h
  refine vwp_jm (γ := Unit) (j := j4) (r := r) (fun x_ _ => mkS [(1, V.tp (tAffine a)), (3, vS x_), (4, vI x2)] [] []) ?_ ?_
  ·
   refine qb ?_
   obtain ⟨x5, hx5, h⟩ := bd h
   refine rq hC [.row (rI x5)] (fr 12 6) [(17, vB (!decide (x5 = 0)))] [] [] (a1 (ix_map rI hx5)) ?_
   refine vci (b := !decide (x5 = 0)) h (fun c2 h => ?_) (fun c2 h => ?_)
   ·obtain ⟨x6, hx6, h⟩ := bd h
    obtain ⟨x7, hx7, h⟩ := bd h
    obtain ⟨x8, hx8, h⟩ := bd h
    refine dk hC hmix [.row (rI x5), .str x6, .v (vS x7), .str x8] [3, 18, 19, 20, 21, 22, 23, 24, 25, 26, 27, 28, 29] [(3, vS x8)] [] [] (a4 (ix_map rI hx5) hx6 (c_s_l1Term G hx7) hx8) ?_
    exact ⟨x8, (), h, lS⟩
   ·refine qk ?_
    exact ⟨x1, (), h, lS⟩
  ·rintro x9 ⟨⟩ h
   subst hj4
   refine rk hC [] [4, 10, 11] [(4, vI (wr (x2 + 1)))] [] [] a0 ?_
   exact ⟨(x9, wr (x2 + 1)), (), h, lS⟩
 ·refine qxt ?_
  obtain ⟨j10, hj10, h⟩ := jn_e h
  refine vwp_jm (γ := Unit) (j := j10) (r := r) (fun x_ _ => mkS [(3, vS x_)] [] []) ?_ ?_
  ·
   refine rq hC [] [30, 31, 32] [(32, vB (!decide (a.const = 0)))] [] [] a0 ?_
   refine vci (b := !decide (a.const = 0)) h (fun c3 h => ?_) (fun c3 h => ?_)
   ·obtain ⟨x11, hx11, h⟩ := bd h
    obtain ⟨x12, hx12, h⟩ := bd h
    refine rk hC [.v (vS x11), .str x12] [3, 33, 34, 35, 36, 37] [(3, vS x12)] [] [] (a2 (c_s_l1Term G hx11) hx12) ?_
    exact ⟨x12, (), h, lS⟩
   ·refine qk ?_
    exact ⟨x1, (), h, lS⟩
  ·rintro x13 ⟨⟩ h
   subst hj10
   refine qs (rq hC [] [38, 39] [(39, vB (decide (x13 = [])))] [] [] trivial ?_)
   refine vci (b := decide (x13 = [])) h (fun c4 h => ?_) (fun c4 h => ?_)
   ·refine rq hC [] [2] [(2, vS [48])] [] [] a0 ?_
    refine qr ?_
    obtain rfl := so h
    exact eR
   ·refine qk (qs ?_)
    obtain ⟨x14, hx14, h⟩ := bd h
    refine rq hC [.str x14] [40, 41, 42] [(42, vB (decide (x14 = [43])))] [] [] (a1 hx14) ?_
    refine vci (b := decide (x14 = [43])) h (fun c5 h => ?_) (fun c5 h => ?_)
    ·obtain ⟨x15, hx15, h⟩ := bd h
     refine rq hC [.str x15] [2, 43, 44] [(2, vS x15)] [] [] (a1 hx15) ?_
     refine qr ?_
     obtain rfl := so h
     exact eR
    ·refine qk (rq hC [] [2, 45] [(2, vS x13)] [] [] trivial ?_)
     refine qr ?_
     obtain rfl := so h
     exact eR
theorem c_s_FormatAffine {a} {r} (h : s_FormatAffine n a = some r) : PCC Tryz.prog G.g 257 [V.agg (cAffine a)] (vS r) := by
 unfold s_FormatAffine at h
 refine pmr tyOK Tryz.func257 rfl rfl rfl rfl rfl rfl rfl ?_
 intro w X hC
 refine rq hC [.b true] [1, 2] [(1, V.tp (tAffine a))] [] [] a0 ?_
 refine qs ?_
 obtain ⟨x1, hx1, h⟩ := bd h
 refine rq hC [.v (vB x1)] [3, 4, 5] [(5, vB (!x1))] [] [] (a1 (c_s_AffineValid G hx1)) ?_
 refine vci (b := !x1) h (fun c1 h => ?_) (fun c1 h => ?_)
 ·refine rq hC [] [2] [(2, vS [])] [] [] a0 ?_
  refine qr ?_
  obtain rfl := so h
  exact eR
 ·refine qk ?_
  obtain ⟨x2, hx2, h⟩ := bd h
  refine rq hC [.v (vS x2)] [2, 6, 7] [(2, vS x2)] [] [] (a1 (c_s_l1Text G hx2)) ?_
  refine qr ?_
  obtain rfl := so h
  exact eR
theorem c_s_ParseAffine {text} {r} (h : s_ParseAffine n text = some r) : PCC Tryz.prog G.g 241 [vS text] (V.tup [V.agg (cAffine r.1), vB r.2]) := by
 unfold s_ParseAffine at h
 refine pmr tyOK Tryz.func241 rfl rfl rfl rfl rfl rfl rfl ?_
 intro w X hC
 refine rq hC [.nat 20] [2, 3] [(2, V.ref 20 0)] [(20, sc [V.t T.nilS, vI 0])] [(20, true)] a0 ?_
 obtain ⟨x1, hx1, h⟩ := bd h
 refine rq hC [.vc [] [21] (V.agg [ms 0 1 1 rI x1.coefs, vI x1.const]) [ar 3 1 1 rI x1.coefs], .nat 22] [4, 6] [(4, V.ref 22 0)] [(21, some (ar 3 1 1 rI x1.coefs)), (22, sc [ms 21 1 1 rI x1.coefs, vI x1.const])] [(21, true), (22, true)] (a1 (c_s_l1Zero G n  hx1)) ?_
 refine qs (rq hC [] [7, 8, 9] [(9, vB (decide ((40 : Int) < (text.length : Int))))] [] [] trivial ?_)
 refine vci (b := decide ((40 : Int) < (text.length : Int))) h (fun c1 h => ?_) (fun c1 h => ?_)
 ·refine rq hC [] [3, 10] [(3, vB false)] [(20, sc [V.t T.nilS, vI 0])] [] a0 ?_
  refine qr ?_
  obtain rfl := so h
  exact eR
 ·refine qk (rq hC [] [5] [(5, vI 0)] [] [] trivial ?_)
  refine qs (qb (qw (lk hC [.fz 21 [] [22]] [] [] [(22, some (E.cells (cAffine x1))), (21, none)] []) ?_))
  refine vwp_lm (γ := Unit) h (fun x_ _ => mkS [(0, vS text), (2, V.ref 20 0), (4, V.ref 22 0), (5, vI x_.2.2)] [(20, E.cells [V.t T.nilS, vI 0]), (22, E.cells [vM rI x_.1, vI x_.2.1])] [20, 21, 22]) () (lS) ?_
  rintro again5 ⟨x2, x3, x4⟩ ⟨⟩ h
  refine qs ?_
  obtain ⟨j6, hj6, h⟩ := jn_e h
  refine vwp_jm (γ := Unit) (j := j6) (r := r) (fun x_ _ => mkS [(0, vS text), (2, V.ref 20 0), (4, V.ref 22 0), (5, vI x4), (18, vB x_)] [(20, E.cells [V.t T.nilS, vI 0]), (22, E.cells [vM rI x2, vI x3])] [20, 21, 22]) ?_ ?_
  ·
   refine splI h (fun c2 h => ?_) (fun c2 h => ?_)
   ·refine rk hC [.b false, .b false, .b false, .b false, .b false] (fr 11 8) [(18, vB false)] [] [] (a5 c2 c2 c2 c2 c2) ?_
    exact ⟨false, (), h, lS⟩
   ·refine rk hC [.b true, .b true, .b true, .b true, .b true] (fr 11 8) [(18, vB (decide (x4 < (text.length : Int))))] [] [] (a5 c2 c2 c2 c2 c2) ?_
    exact ⟨decide (x4 < (text.length : Int)), (), h, lS⟩
  ·rintro x7 ⟨⟩ h
   subst hj6
   refine vci (b := x7) h (fun c3 h => ?_) (fun c3 h => ?_)
   ·refine qk (qb ?_)
    obtain ⟨x8, hx8, h⟩ := bd h
    refine rk hC [.v (V.tup [V.agg (cAffine x8.1), vI x8.2])] [5, 19, 20, 21, 22, 23, 24, 25] [(5, vI x8.2)] [(22, some (E.cells (cAffine x8.1)))] [] (a1 (c_s_l1Parse G hx8)) ?_
    exact ⟨(x8.1.coefs, x8.1.const, x8.2), (), h, lS⟩
   ·refine qxt (qs ?_)
    obtain ⟨x9, hx9, h⟩ := bd h
    refine rq hC [.v (vS x9)] (fr 26 4) [(29, vB (!decide (x9 = text)))] [] [] (a1 (c_s_FormatAffine G hx9)) ?_
    refine vci (b := !decide (x9 = text)) h (fun c4 h => ?_) (fun c4 h => ?_)
    ·refine rq hC [] [3, 30] [(3, vB false)] [(20, sc [V.t T.nilS, vI 0])] [] a0 ?_
     refine qr ?_
     obtain rfl := so h
     exact eR
    ·refine qk (rq hC [] [3, 31] [(3, vB true)] [(20, sc [vM rI x2, vI x3])] [] trivial ?_)
     refine qr ?_
     obtain rfl := so h
     exact eR
theorem c_s_l16Cut {s} {c} {r} (h : s_l16Cut n s c = some r) : VCC Tryz.prog G.g 255 [] [vS s, vY c] (ms 0 1 1 rS r) [ar 9 1 1 rS r] := by
 unfold s_l16Cut at h
 refine vmr tyOK Tryz.func255 rfl rfl rfl rfl rfl rfl rfl rfl ?_
 intro w X β0 hC hg
 refine rq hC [] [4] [] [] [] a0 ?_
 refine rq hC [.nat 20] [5, 8] [(5, ms 20 1 1 rS [])] [(20, some (ar 9 1 1 rS []))] [(20, true)] a0 ?_
 refine rq hC [] [6] [(6, vI 0)] [] [] a0 ?_
 refine qs (rq hC [] [7] [(7, vI 0)] [] [] trivial ?_)
 refine qb (vwp_lm (γ := Nat) h (fun x_ g_ => mkS [(0, vS s), (1, vY c), (5, ms 20 g_ 1 rS x_.1), (6, vI x_.2.1), (7, vI x_.2.2)] [(20, ar 9 g_ 1 rS x_.1)] [20]) 1 (lS) ?_)
 rintro again5 ⟨x1, x2, x3⟩ g4 h
 refine qs (rq hC [] (fr 9 4) [(12, vB (decide (x3 ≤ (s.length : Int))))] [] [] trivial ?_)
 refine vci (b := decide (x3 ≤ (s.length : Int))) h (fun c1 h => ?_) (fun c1 h => ?_)
 ·refine qk ?_
  obtain ⟨j6, hj6, h⟩ := jn_e h
  refine vwp_jm (γ := Nat) (j := j6) (r := r) (fun x_ g_ => mkS [(0, vS s), (1, vY c), (5, ms 20 g_ 1 rS x_.1), (6, vI x_.2), (7, vI x3)] [(20, ar 9 g_ 1 rS x_.1)] [20]) ?_ ?_
  ·
   refine qb ?_
   obtain ⟨j7, hj7, h⟩ := jn_e h
   refine vwp_jm (γ := Unit) (j := j7) (r := r) (fun x_ _ => mkS [(0, vS s), (1, vY c), (5, ms 20 g4 1 rS x1), (6, vI x2), (7, vI x3), (25, vB x_)] [(20, ar 9 g4 1 rS x1)] [20]) ?_ ?_
   ·
    refine splI h (fun c2 h => ?_) (fun c2 h => ?_)
    ·obtain ⟨x8, hx8, h⟩ := bd h
     refine rk hC [.b false, .b false, .b false, .y x8, .b false, .b false, .b false] (fr 15 11) [(25, vB (decide ((x8.toNat : Int) = (c.toNat : Int))))] [] [] (a7 c2 c2 c2 hx8 c2 c2 c2) ?_
     exact ⟨decide ((x8.toNat : Int) = (c.toNat : Int)), (), h, lS⟩
    ·refine rk hC [.b true, .b true, .b true, .b true, .b true, .b true] (fr 15 11) [(25, vB true)] [] [] (a6 c2 c2 c2 c2 c2 c2) ?_
     exact ⟨true, (), h, lS⟩
   ·rintro x9 ⟨⟩ h
    subst hj7
    refine vci (b := x9) h (fun c3 h => ?_) (fun c3 h => ?_)
    ·obtain ⟨x10, hx10, h⟩ := bd h
     obtain ⟨x11, hx11, h⟩ := bd h
     refine rq hC [.str x10, .int 0, .rows (List.map rS x11)] [5, 26, 27, 28, 29, 30, 31, 32] [(5, ms 20 (g4 + 1) 1 rS x11)] [(20, some (ar 9 (g4 + 1) 1 rS x11))] [] (a4 hx10 (app_map rS hx11) (rwM (r := rS) 1 (fun _ => rfl) x1) (rwM (r := rS) 1 (fun _ => rfl) [x10])) ?_
     refine rk hC [] [6, 33, 34] [(6, vI (wr (x3 + 1)))] [] [] a0 ?_
     exact ⟨(x11, wr (x3 + 1)), (g4 + 1), h, lS⟩
    ·refine qk ?_
     exact ⟨(x1, x2), g4, h, lS⟩
  ·rintro ⟨x12, x13⟩ g14 h
   subst hj6
   refine rk hC [] [7, 13, 14] [(7, vI (wr (x3 + 1)))] [] [] a0 ?_
   exact ⟨(x12, x13, wr (x3 + 1)), g14, h, lS⟩
 ·refine qxt (rq hC [] [4, 35] [(4, ms 20 g4 1 rS x1)] [] [] trivial ?_)
  refine qw (lk hC [.ren 4 20 0] [4] [(4, ms 0 1 1 rS x1)] [(0, some (ar 9 1 1 rS x1)), (20, none)] [(0, true)]) ?_
  refine qr ?_
  obtain rfl := so h
  exact eW
theorem c_s_l2SideParse {text} {r} (h : s_l2SideParse n text = some r) : VCC Tryz.prog G.g 240 [] [vS text] (ms 0 1 2 rAffine r) [ar 109 1 2 rAffine r] := by
 unfold s_l2SideParse at h
 refine vmr tyOK Tryz.func240 rfl rfl rfl rfl rfl rfl rfl rfl ?_
 intro w X β0 hC hg
 refine rq hC [] [2] [] [] [] a0 ?_
 refine rq hC [.nat 20] [3, 8] [(3, ms 20 1 2 rAffine [])] [(20, some (ar 109 1 2 rAffine []))] [(20, true)] a0 ?_
 obtain ⟨x1, hx1, h⟩ := bd h
 refine rq hC [.vc [] [21] (ms 0 1 1 rS x1) [ar 9 1 1 rS x1]] [4, 9, 10] [(4, ms 21 1 1 rS x1)] [(21, some (ar 9 1 1 rS x1))] [(21, true)] (a1 (c_s_l16Cut G hx1)) ?_
 refine qs (rq hC [] [5] [(5, vI 0)] [] [] trivial ?_)
 refine qb (vwp_lm (γ := Nat) h (fun x_ g_ => mkS [(3, ms 20 g_ 2 rAffine x_.1), (4, ms 21 1 1 rS x1), (5, vI x_.2)] [(20, ar 109 g_ 2 rAffine x_.1), (21, ar 9 1 1 rS x1)] [20, 21]) 1 (lS) ?_)
 rintro again5 ⟨x2, x3⟩ g4 h
 refine qs ?_
 obtain ⟨j6, hj6, h⟩ := jn_e h
 refine vwp_jm (γ := Unit) (j := j6) (r := r) (fun x_ _ => mkS [(3, ms 20 g4 2 rAffine x2), (4, ms 21 1 1 rS x1), (5, vI x3), (18, vB x_)] [(20, ar 109 g4 2 rAffine x2), (21, ar 9 1 1 rS x1)] [20, 21]) ?_ ?_
 ·
  refine splI h (fun c1 h => ?_) (fun c1 h => ?_)
  ·refine rk hC [.nat x1.length, .b false, .b false, .b false] (fr 11 8) [(18, vB false)] [] [] (a4 (lenM rS x1) c1 c1 c1) ?_
   exact ⟨false, (), h, lS⟩
  ·refine rk hC [.nat x1.length, .b true, .b true, .b true] (fr 11 8) [(18, vB (decide (x3 ≤ 2)))] [] [] (a4 (lenM rS x1) c1 c1 c1) ?_
   exact ⟨decide (x3 ≤ 2), (), h, lS⟩
 ·rintro x7 ⟨⟩ h
  subst hj6
  refine vci (b := x7) h (fun c2 h => ?_) (fun c2 h => ?_)
  ·refine qk (qs (qb ?_))
   obtain ⟨x8, hx8, h⟩ := bd h
   obtain ⟨x9, hx9, h⟩ := bd h
   refine rq hC [.row (rS x8), .v (V.tup [V.agg (cAffine x9.1), vB x9.2]), .nat 22] [6, 7, 21, 22, 23, 24, 25, 26, 27, 28] [(6, V.ref 22 0)] [(22, some (E.cells (cAffine x9.1)))] [(22, true)] (a3 (ixn rS hx8) (ixr rS hx8) (c_s_ParseAffine G hx9)) ?_
   obtain ⟨x10, hx10, h⟩ := bd h
   refine rk hC [.int 0, .rows (List.map rAffine x10)] [3, 29, 30, 31, 32] [(3, ms 20 (g4 + 1) 2 rAffine x10)] [(20, some (ar 109 (g4 + 1) 2 rAffine x10))] [] (a3 (app_map rAffine hx10) (rwM (r := rAffine) 2 rAffine_len x2) (rwM (r := rAffine) 2 rAffine_len [x9.1])) ?_
   refine rk hC [] [5, 19, 20] [(5, vI (wr (x3 + 1)))] [] [] a0 ?_
   exact ⟨(x10, wr (x3 + 1)), (g4 + 1), h, lS⟩
  ·refine qxt (rq hC [] [2, 33] [(2, ms 20 g4 2 rAffine x2)] [] [] trivial ?_)
   refine qw (lk hC [.ren 2 20 0] [2] [(2, ms 0 1 2 rAffine x2)] [(0, some (ar 109 1 2 rAffine x2)), (20, none)] [(0, true)]) ?_
   refine qr ?_
   obtain rfl := so h
   exact eW
theorem c_s_l3Until {s} {at_a1} {end_a2} {r} (h : s_l3Until n s at_a1 end_a2 = some r) : PCC Tryz.prog G.g 239 [vS s, vI at_a1, vY end_a2] (vI r) := by
 unfold s_l3Until at h
 refine pmr tyOK Tryz.func239 rfl rfl rfl rfl rfl rfl rfl ?_
 intro w X hC
 refine rq hC [] [6] [] [] [] a0 ?_
 refine qs (rq hC [] [7, 8] [(7, vI at_a1)] [] [] trivial ?_)
 refine qb (vwp_lm (γ := Unit) h (fun x_ _ => mkS [(0, vS s), (2, vY end_a2), (7, vI x_)] [] []) () (lS) ?_)
 rintro again2 x1 ⟨⟩ h
 refine qs (rq hC [] (fr 9 4) [(12, vB (decide (x1 < (s.length : Int))))] [] [] trivial ?_)
 refine vci (b := decide (x1 < (s.length : Int))) h (fun c1 h => ?_) (fun c1 h => ?_)
 ·refine qk (qs (qb ?_))
  obtain ⟨x3, hx3, h⟩ := bd h
  refine rq hC [.y x3] (fr 15 5) [(19, vB (decide ((x3.toNat : Int) = (end_a2.toNat : Int))))] [] [] (a1 hx3) ?_
  refine vci (b := decide ((x3.toNat : Int) = (end_a2.toNat : Int))) h (fun c2 h => ?_) (fun c2 h => ?_)
  ·refine rq hC [] [6, 20] [(6, vI x1)] [] [] a0 ?_
   refine qr ?_
   obtain rfl := so h
   exact eR
  ·refine qk (rk hC [] [7, 13, 14] [(7, vI (wr (x1 + 1)))] [] [] trivial ?_)
   exact ⟨wr (x1 + 1), (), h, lS⟩
 ·refine qxt (rq hC [] [6] [(6, vI (-1))] [] [] trivial ?_)
  refine qr ?_
  obtain rfl := so h
  exact eR
theorem c_s_l3ParseAccess {s} {at_a1} {r} (h : s_l3ParseAccess n s at_a1 = some r) : PCC Tryz.prog G.g 216 [vS s, vI at_a1] (V.tup [V.agg (cAccess r.1), vI r.2]) := by
 unfold s_l3ParseAccess at h
 refine pmr tyOK Tryz.func216 rfl rfl rfl rfl rfl rfl rfl ?_
 intro w X hC
 refine rq hC [.nat 20] [4, 5] [(4, V.ref 20 0)] [(20, sc [vS [], V.t T.nilS])] [(20, true)] a0 ?_
 obtain ⟨x1, hx1, h⟩ := bd h
 refine rq hC [.v (vI x1)] (fr 6 4) [(6, vI x1)] [] [] (a1 (c_s_l3Until G hx1)) ?_
 refine qs ?_
 obtain ⟨j2, hj2, h⟩ := jn_e h
 refine vwp_jm (γ := Unit) (j := j2) (r := r) (fun x_ _ => mkS [(0, vS s), (1, vI at_a1), (4, V.ref 20 0), (6, vI x1), (20, vB x_)] [(20, E.cells [vS [], V.t T.nilS])] [20]) ?_ ?_
 ·
  refine splI h (fun c1 h => ?_) (fun c1 h => ?_)
  ·obtain ⟨x3, hx3, h⟩ := bd h
   refine rk hC [.b false, .b false, .b false, .b false, .y x3, .b false, .b false] (fr 10 11) [(20, vB (!decide ((x3.toNat : Int) = 91)))] [] [] (a7 c1 c1 c1 c1 hx3 c1 c1) ?_
   exact ⟨!decide ((x3.toNat : Int) = 91), (), h, lS⟩
  ·refine rk hC [.b true, .b true, .b true, .b true, .b true, .b true] (fr 10 11) [(20, vB true)] [] [] (a6 c1 c1 c1 c1 c1 c1) ?_
   exact ⟨true, (), h, lS⟩
 ·rintro x4 ⟨⟩ h
  subst hj2
  refine vci (b := x4) h (fun c2 h => ?_) (fun c2 h => ?_)
  ·refine rq hC [] [5, 21] [(5, vI (-1))] [(20, sc [vS [], V.t T.nilS])] [] a0 ?_
   refine qr ?_
   obtain rfl := so h
   exact eR
  ·refine qk (qs ?_)
   obtain ⟨x5, hx5, h⟩ := bd h
   obtain ⟨x6, hx6, h⟩ := bd h
   obtain ⟨x7, hx7, h⟩ := bd h
   refine dk hC hmix [.str x5, .str x6, .vc [] [21] (ms 0 1 2 rAffine x7) [ar 109 1 2 rAffine x7]] [5, 22, 23, 24, 25, 26, 27, 28, 29, 30, 31, 32, 33, 34, 35] [(5, vI (wr (x1 + 1)))] [(21, some (ar 109 1 2 rAffine x7)), (20, sc [vS x5, ms 21 1 2 rAffine x7])] [(21, true)] (a3 hx5 hx6 (c_s_l2SideParse G hx7)) ?_
   refine qw (lk hC [.fz 21 [] [20]] [] [] [(20, sc [vS x5, vM rAffine x7]), (21, none)] []) ?_
   refine qr ?_
   obtain rfl := so h
   exact eR
theorem c_s_l3Round (G : GS) (n : Nat) (self : (List UInt8) → Int → Int →  Option (Expr × Int)) (hself : ∀ (q0 : List UInt8) (q1 : Int) (q2 : Int) {r : Expr × Int}, self q0 q1 q2 = some r → PCC Tryz.prog G.g 217 [vS q0, vI q1, vI q2] (V.tup [V.agg (cExpr r.1), vI r.2])) (s : List UInt8) (at_a1 : Int) (levels : Int) {r : Expr × Int} (h : s_l3Round n self s at_a1 levels = some r) : PCC Tryz.prog G.g 242 [vS s, vI at_a1, vI levels] (V.tup [V.agg (cExpr r.1), vI r.2]) := by
 unfold s_l3Round at h
 refine pmr tyOK Tryz.func242 rfl rfl rfl rfl rfl rfl rfl ?_
 intro w X hC
 refine rq hC [.nat 20] [6, 7] [(6, V.ref 20 0)] [(20, sc [vI 0, vI 0, V.t T.nilS, vI 0, vS [], V.t T.nilS, V.t T.nilS])] [(20, true)] a0 ?_
 obtain ⟨x1, hx1, h⟩ := bd h
 refine rq hC [.v (V.tup [V.agg (cExpr x1.1), vI x1.2]), .nat 21] [8, 9, 13, 14, 15, 16, 17, 18, 19] [(8, V.ref 21 0), (9, vI x1.2)] [(21, some (E.cells (cExpr x1.1)))] [(21, true)] (a1 (hself s at_a1 levels hx1)) ?_
 refine qs ?_
 obtain ⟨j2, hj2, h⟩ := jn_e h
 refine vwp_jm (γ := Unit) (j := j2) (r := r) (fun x_ _ => mkS [(0, vS s), (2, vI levels), (6, V.ref 20 0), (8, V.ref 21 0), (9, vI x1.2), (27, vB x_)] [(20, E.cells [vI 0, vI 0, V.t T.nilS, vI 0, vS [], V.t T.nilS, V.t T.nilS]), (21, E.cells (cExpr x1.1))] [20, 21]) ?_ ?_
 ·
  refine splI h (fun c1 h => ?_) (fun c1 h => ?_)
  ·refine rk hC [.b false, .b false, .b false, .b false, .b false] (fr 20 8) [(27, vB (decide ((s.length : Int) ≤ x1.2)))] [] [] (a5 c1 c1 c1 c1 c1) ?_
   exact ⟨decide ((s.length : Int) ≤ x1.2), (), h, lS⟩
  ·refine rk hC [.b true, .b true, .b true, .b true, .b true] (fr 20 8) [(27, vB true)] [] [] (a5 c1 c1 c1 c1 c1) ?_
   exact ⟨true, (), h, lS⟩
 ·rintro x3 ⟨⟩ h
  subst hj2
  refine vci (b := x3) h (fun c2 h => ?_) (fun c2 h => ?_)
  ·refine rq hC [] [7, 28] [(7, vI (-1))] [(20, sc [vI 0, vI 0, V.t T.nilS, vI 0, vS [], V.t T.nilS, V.t T.nilS])] [] a0 ?_
   refine qr ?_
   obtain rfl := so h
   exact eR
  ·refine qk (rq hC [] [10] [(10, vI 4)] [] [] trivial ?_)
   obtain ⟨j4, hj4, h⟩ := jn_e h
   refine vwp_jm (γ := Unit) (j := j4) (r := r) (fun x_ _ => mkS [(0, vS s), (2, vI levels), (6, V.ref 20 0), (8, V.ref 21 0), (9, vI x1.2), (10, vI x_)] [(20, E.cells [vI 0, vI 0, V.t T.nilS, vI 0, vS [], V.t T.nilS, V.t T.nilS]), (21, E.cells (cExpr x1.1))] [20, 21]) ?_ ?_
   ·
    obtain ⟨x5, hx5, h⟩ := bd h
    refine rq hC [.y x5] [29, 30, 31] [(31, vY x5)] [] [] (a1 hx5) ?_
    refine qb (rq hC [] [32, 33] [(32, vB (decide ((x5.toNat : Int) = 45)))] [] [] trivial ?_)
    refine vci (b := decide ((x5.toNat : Int) = 45)) h (fun c3 h => ?_) (fun c3 h => ?_)
    ·refine rk hC [] [10] [(10, vI 5)] [] [] a0 ?_
     exact ⟨5, (), h, lS⟩
    ·refine rq hC [] [34, 35] [(34, vB (decide ((x5.toNat : Int) = 42)))] [] [] a0 ?_
     refine vci (b := decide ((x5.toNat : Int) = 42)) h (fun c4 h => ?_) (fun c4 h => ?_)
     ·refine rk hC [] [10] [(10, vI 6)] [] [] a0 ?_
      exact ⟨6, (), h, lS⟩
     ·refine qk ?_
      exact ⟨4, (), h, lS⟩
   ·rintro x6 ⟨⟩ h
    subst hj4
    obtain ⟨x7, hx7, h⟩ := bd h
    refine rq hC [.v (V.tup [V.agg (cExpr x7.1), vI x7.2]), .nat 22] [11, 12, 36, 37, 38, 39, 40, 41, 42, 43] [(11, V.ref 22 0), (12, vI x7.2)] [(22, some (E.cells (cExpr x7.1)))] [(22, true)] (a1 (hself s (wr (x1.2 + 1)) levels hx7)) ?_
    refine qs ?_
    obtain ⟨j8, hj8, h⟩ := jn_e h
    refine vwp_jm (γ := Unit) (j := j8) (r := r) (fun x_ _ => mkS [(6, V.ref 20 0), (8, V.ref 21 0), (10, vI x6), (11, V.ref 22 0), (12, vI x7.2), (51, vB x_)] [(20, E.cells [vI 0, vI 0, V.t T.nilS, vI 0, vS [], V.t T.nilS, V.t T.nilS]), (21, E.cells (cExpr x1.1)), (22, E.cells (cExpr x7.1))] [20, 21, 22]) ?_ ?_
    ·
     refine splI h (fun c5 h => ?_) (fun c5 h => ?_)
     ·refine rk hC [.b false, .b false, .b false, .b false, .b false] (fr 44 8) [(51, vB (decide ((s.length : Int) ≤ x7.2)))] [] [] (a5 c5 c5 c5 c5 c5) ?_
      exact ⟨decide ((s.length : Int) ≤ x7.2), (), h, lS⟩
     ·refine rk hC [.b true, .b true, .b true, .b true, .b true] (fr 44 8) [(51, vB true)] [] [] (a5 c5 c5 c5 c5 c5) ?_
      exact ⟨true, (), h, lS⟩
    ·rintro x9 ⟨⟩ h
     subst hj8
     refine vci (b := x9) h (fun c6 h => ?_) (fun c6 h => ?_)
     ·refine rq hC [] [7, 52] [(7, vI (-1))] [(20, sc [vI 0, vI 0, V.t T.nilS, vI 0, vS [], V.t T.nilS, V.t T.nilS])] [] a0 ?_
      refine qr ?_
      obtain rfl := so h
      exact eR
     ·refine qk (rq hC [.int 2, .rows (List.map rExpr [x1.1, x7.1])] [7, 53, 54, 55, 56, 57, 58, 59] [(7, vI (wr (x7.2 + 1)))] [(20, sc [vI x6, vI 0, V.t T.nilS, vI 0, vS [], V.t T.nilS, vM rExpr [x1.1, x7.1]])] [] (a1 (chExpr2 x1.1 x7.1)) ?_)
      refine qr ?_
      obtain rfl := so h
      exact eR
theorem c_s_l3Parse (G : GS) : ∀ (n : Nat) (s : List UInt8) (at_a1 : Int) (levels : Int) {r : Expr × Int} (h : s_l3Parse n s at_a1 levels = some r), PCC Tryz.prog G.g 217 [vS s, vI at_a1, vI levels] (V.tup [V.agg (cExpr r.1), vI r.2]) := by
 intro n
 induction n with
 | zero => intro s at_a1 levels r h; rw [s_l3Parse.eq_def] at h; cases h
 | succ n ih =>
  intro s at_a1 levels r h
  rw [s_l3Parse.eq_def] at h; dsimp only at h
  refine pmr tyOK Tryz.func217 rfl rfl rfl rfl rfl rfl rfl ?_
  intro w X hC
  refine rq hC [.nat 20] [6, 7] [(6, V.ref 20 0)] [(20, sc [vI 0, vI 0, V.t T.nilS, vI 0, vS [], V.t T.nilS, V.t T.nilS])] [(20, true)] a0 ?_
  refine qs ?_
  obtain ⟨j1, hj1, h⟩ := jn_e h
  refine vwp_jm (γ := Unit) (j := j1) (r := r) (fun x_ _ => mkS [(0, vS s), (1, vI at_a1), (2, vI levels), (6, V.ref 20 0), (26, vB x_)] [(20, E.cells [vI 0, vI 0, V.t T.nilS, vI 0, vS [], V.t T.nilS, V.t T.nilS])] [20]) ?_ ?_
  ·
   refine splI h (fun c1 h => ?_) (fun c1 h => ?_)
   ·refine splI h (fun c2 h => ?_) (fun c2 h => ?_)
    ·refine rk hC [.b false, .b false, .b false, .b false, .b false, .b false, .b false, .b false] (fr 15 12) [(26, vB (decide ((s.length : Int) ≤ at_a1)))] [] [] (a8 c1 c1 c1 c2 c2 c2 c2 c2) ?_
     exact ⟨decide ((s.length : Int) ≤ at_a1), (), h, lS⟩
    ·refine rk hC [.b false, .b false, .b false, .b true, .b true, .b true, .b true, .b true] (fr 15 12) [(26, vB true)] [] [] (a8 c1 c1 c1 c2 c2 c2 c2 c2) ?_
     exact ⟨true, (), h, lS⟩
   ·refine rk hC [.b true, .b true, .b true, .b true, .b true, .b true, .b true, .b true] (fr 15 12) [(26, vB true)] [] [] (a8 c1 c1 c1 (Eq.refl true) (Eq.refl true) (Eq.refl true) (Eq.refl true) (Eq.refl true)) ?_
    exact ⟨true, (), h, lS⟩
  ·rintro x2 ⟨⟩ h
   subst hj1
   refine vci (b := x2) h (fun c3 h => ?_) (fun c3 h => ?_)
   ·refine rq hC [] [7, 27] [(7, vI (-1))] [(20, sc [vI 0, vI 0, V.t T.nilS, vI 0, vS [], V.t T.nilS, V.t T.nilS])] [] a0 ?_
    refine qr ?_
    obtain rfl := so h
    exact eR
   ·refine qk (qs (qb ?_))
    obtain ⟨x3, hx3, h⟩ := bd h
    refine rq hC [.y x3] (fr 28 5) [(28, vB (decide ((x3.toNat : Int) = 123)))] [] [] (a1 hx3) ?_
    refine vci (b := decide ((x3.toNat : Int) = 123)) h (fun c4 h => ?_) (fun c4 h => ?_)
    ·obtain ⟨x4, hx4, h⟩ := bd h
     refine rq hC [.v (vI x4)] [8, 33, 34, 35] [(8, vI x4)] [] [] (a1 (c_s_l3Until G hx4)) ?_
     refine qs (rq hC [] [36, 37] [(37, vB (decide (x4 < 0)))] [] [] trivial ?_)
     refine vci (b := decide (x4 < 0)) h (fun c5 h => ?_) (fun c5 h => ?_)
     ·refine rq hC [] [7, 38] [(7, vI (-1))] [(20, sc [vI 0, vI 0, V.t T.nilS, vI 0, vS [], V.t T.nilS, V.t T.nilS])] [] a0 ?_
      refine qr ?_
      obtain rfl := so h
      exact eR
     ·refine qk ?_
      obtain ⟨x5, hx5, h⟩ := bd h
      obtain ⟨x6, hx6, h⟩ := bd h
      refine rq hC [.str x5, .v (V.tup [V.agg (cAffine x6.1), vB x6.2]), .nat 21] [9, 10, 39, 40, 41, 42, 43, 44, 45, 46, 47] [(9, V.ref 21 0)] [(21, some (E.cells (cAffine x6.1)))] [(21, true)] (a2 hx5 (c_s_ParseAffine G hx6)) ?_
      refine rq hC [] [7, 48, 49, 50, 51] [(7, vI (wr (x4 + 1)))] [(20, sc [vI 2, vI 0, vM rI x6.1.coefs, vI x6.1.const, vS [], V.t T.nilS, V.t T.nilS])] [] a0 ?_
      refine qr ?_
      obtain rfl := so h
      exact eR
    ·obtain ⟨j7, hj7, h⟩ := jn_e h
     refine vwp_jm (γ := Unit) (j := j7) (r := r) (fun x_ _ => mkS [(0, vS s), (1, vI at_a1), (2, vI levels), (6, V.ref 20 0), (52, vB x_)] [(20, E.cells [vI 0, vI 0, V.t T.nilS, vI 0, vS [], V.t T.nilS, V.t T.nilS])] [20]) ?_ ?_
     ·
      refine splI h (fun c6 h => ?_) (fun c6 h => ?_)
      ·refine rk hC [.y x3, .b false, .b false, .b false, .b false, .b false] (fr 52 11) [(52, vB false)] [] [] (a6 hx3 c6 c6 c6 c6 c6) ?_
       exact ⟨false, (), h, lS⟩
      ·refine rk hC [.y x3, .b true, .b true, .b true, .y x3, .b true, .b true] (fr 52 11) [(52, vB (decide ((x3.toNat : Int) ≤ 68)))] [] [] (a7 hx3 c6 c6 c6 hx3 c6 c6) ?_
       exact ⟨decide ((x3.toNat : Int) ≤ 68), (), h, lS⟩
     ·rintro x8 ⟨⟩ h
      subst hj7
      refine vci (b := x8) h (fun c7 h => ?_) (fun c7 h => ?_)
      ·obtain ⟨x9, hx9, h⟩ := bd h
       refine rq hC [.v (V.tup [V.agg (cAccess x9.1), vI x9.2]), .nat 21] [11, 12, 63, 64, 65, 66, 67, 68] [(11, V.ref 21 0), (12, vI x9.2)] [(21, some (E.cells (cAccess x9.1)))] [(21, true)] (a1 (c_s_l3ParseAccess G hx9)) ?_
       refine rq hC [] [7, 69, 70, 71] [(7, vI x9.2)] [(20, sc [vI 3, vI 0, V.t T.nilS, vI 0, vS x9.1.array, vM rAffine x9.1.subs, V.t T.nilS])] [] a0 ?_
       refine qr ?_
       obtain rfl := so h
       exact eR
      ·refine rq hC [.y x3] (fr 72 5) [(72, vB (decide ((x3.toNat : Int) = 40)))] [] [] (a1 hx3) ?_
       refine vci (b := decide ((x3.toNat : Int) = 40)) h (fun c8 h => ?_) (fun c8 h => ?_)
       ·obtain ⟨x10, hx10, h⟩ := bd h
        refine rq hC [.v (V.tup [V.agg (cExpr x10.1), vI x10.2])] [7, 77, 78, 79, 80, 81, 82, 83, 84] [(7, vI x10.2)] [(20, some (E.cells (cExpr x10.1)))] [] (a1 (c_s_l3Round G n (s_l3Parse n) (fun q0 q1 q2 r h => ih q0 q1 q2 h) s (wr (at_a1 + 1)) (wr (levels - 1)) hx10)) ?_
        refine qr ?_
        obtain rfl := so h
        exact eR
       ·refine qk ?_
        obtain ⟨x11, hx11, h⟩ := bd h
        refine rq hC [.v (V.tup [vI x11.1, vI x11.2])] [13, 14, 85, 86, 87, 88, 89, 90] [(13, vI x11.1), (14, vI x11.2)] [] [] (a1 (c_s_l1Digits G hx11)) ?_
        refine qs (rq hC [] [91, 92, 93] [(93, vB (decide (x11.2 = at_a1)))] [] [] trivial ?_)
        refine vci (b := decide (x11.2 = at_a1)) h (fun c9 h => ?_) (fun c9 h => ?_)
        ·refine rq hC [] [7, 94] [(7, vI (-1))] [(20, sc [vI 0, vI 0, V.t T.nilS, vI 0, vS [], V.t T.nilS, V.t T.nilS])] [] a0 ?_
         refine qr ?_
         obtain rfl := so h
         exact eR
        ·refine qk (rq hC [] [7, 95, 96, 97] [(7, vI x11.2)] [(20, sc [vI 1, vI x11.1, V.t T.nilS, vI 0, vS [], V.t T.nilS, V.t T.nilS])] [] trivial ?_)
         refine qr ?_
         obtain rfl := so h
         exact eR
theorem c_s_l2SideText {list} {r} (h : s_l2SideText n list = some r) : PCC Tryz.prog G.g 259 [vM rAffine list] (vS r) := by
 unfold s_l2SideText at h
 refine pmr tyOK Tryz.func259 rfl rfl rfl rfl rfl rfl rfl ?_
 intro w X hC
 refine rq hC [] [2] [] [] [] a0 ?_
 refine rq hC [] [3] [(3, vS [])] [] [] a0 ?_
 refine qs (rq hC [] [4] [(4, vI 0)] [] [] trivial ?_)
 refine qb (vwp_lm (γ := Unit) h (fun x_ _ => mkS [(0, vM rAffine list), (3, vS x_.1), (4, vI x_.2)] [] []) () (lS) ?_)
 rintro again3 ⟨x1, x2⟩ ⟨⟩ h
 refine qs (rq hC [.nat list.length] (fr 5 4) [(8, vB (decide (x2 < (list.length : Int))))] [] [] (a1 (lenM rAffine list)) ?_)
 refine vci (b := decide (x2 < (list.length : Int))) h (fun c1 h => ?_) (fun c1 h => ?_)
 ·refine qk (qs (qb ?_))
  obtain ⟨j4, hj4, h⟩ := jn_e h
  refine vwp_jm (γ := Unit) (j := j4) (r := r) (fun x_ _ => mkS [(0, vM rAffine list), (3, vS x_), (4, vI x2)] [] []) ?_ ?_
  ·
   refine rq hC [] [11, 12] [(12, vB (decide ((0 : Int) < x2)))] [] [] a0 ?_
   refine vci (b := decide ((0 : Int) < x2)) h (fun c2 h => ?_) (fun c2 h => ?_)
   ·obtain ⟨x5, hx5, h⟩ := bd h
    refine rk hC [.str x5] [3, 13, 14] [(3, vS x5)] [] [] (a1 hx5) ?_
    exact ⟨x5, (), h, lS⟩
   ·refine qk ?_
    exact ⟨x1, (), h, lS⟩
  ·rintro x6 ⟨⟩ h
   subst hj4
   obtain ⟨x7, hx7, h⟩ := bd h
   obtain ⟨x8, hx8, h⟩ := bd h
   obtain ⟨x9, hx9, h⟩ := bd h
   refine rk hC [.row (rAffine x7), .v (vS x8), .str x9] [3, 15, 16, 17, 18, 19, 20, 21] [(3, vS x9)] [] [] (a3 (ix_map rAffine hx7) (c_s_l1Text G hx8) hx9) ?_
   refine rk hC [] [4, 9, 10] [(4, vI (wr (x2 + 1)))] [] [] a0 ?_
   exact ⟨(x9, wr (x2 + 1)), (), h, lS⟩
 ·refine qxt (rq hC [] [2, 22] [(2, vS x1)] [] [] trivial ?_)
  refine qr ?_
  obtain rfl := so h
  exact eR
theorem c_s_l3AccessText {a} {r} (h : s_l3AccessText n a = some r) : PCC Tryz.prog G.g 244 [V.agg (cAccess a)] (vS r) := by
 unfold s_l3AccessText at h
 refine pmr tyOK Tryz.func244 rfl rfl rfl rfl rfl rfl rfl ?_
 intro w X hC
 refine rq hC [.b true] [1, 2] [(1, V.tp (tAccess a))] [] [] a0 ?_
 refine qs ?_
 obtain ⟨x1, hx1, h⟩ := bd h
 obtain ⟨x2, hx2, h⟩ := bd h
 obtain ⟨x3, hx3, h⟩ := bd h
 obtain ⟨x4, hx4, h⟩ := bd h
 refine dk hC hmix [.str x1, .v (vS x2), .str x3, .str x4] (fr 2 9) [(2, vS x4)] [] [] (a4 hx1 (c_s_l2SideText G hx2) hx3 hx4) ?_
 refine qr ?_
 obtain rfl := so h
 exact eR
theorem c_s_l3Text (G : GS) : ∀ (n : Nat) (e : Expr) {r : (List UInt8)} (h : s_l3Text n e = some r), PCC Tryz.prog G.g 245 [V.agg (cExpr e)] (vS r) := by
 intro n
 induction n with
 | zero => intro e r h; rw [s_l3Text.eq_def] at h; cases h
 | succ n ih =>
  intro e r h
  rw [s_l3Text.eq_def] at h; dsimp only at h
  refine pmr tyOK Tryz.func245 rfl rfl rfl rfl rfl rfl rfl ?_
  intro w X hC
  refine rq hC [.b true] [1, 2] [(1, V.tp (tExpr e))] [] [] a0 ?_
  refine qs (rq hC [] [3, 4] [(4, vI e.kind)] [] [] trivial ?_)
  refine qb (rq hC [] [5, 6] [(5, vB (decide (e.kind = 1)))] [] [] trivial ?_)
  refine vci (b := decide (e.kind = 1)) h (fun c1 h => ?_) (fun c1 h => ?_)
  ·obtain ⟨x1, hx1, h⟩ := bd h
   refine rq hC [.v (vS x1)] [2, 7, 8, 9] [(2, vS x1)] [] [] (a1 (c_s_l16Dec G n e.num hx1)) ?_
   refine qr ?_
   obtain rfl := so h
   exact eR
  ·refine rq hC [] [10, 11] [(10, vB (decide (e.kind = 2)))] [] [] a0 ?_
   refine vci (b := decide (e.kind = 2)) h (fun c2 h => ?_) (fun c2 h => ?_)
   ·obtain ⟨x2, hx2, h⟩ := bd h
    obtain ⟨x3, hx3, h⟩ := bd h
    obtain ⟨x4, hx4, h⟩ := bd h
    refine rq hC [.v (vS x2), .str x3, .str x4] [2, 12, 13, 14, 15, 16] [(2, vS x4)] [] [] (a3 (c_s_l1Text G hx2) hx3 hx4) ?_
    refine qr ?_
    obtain rfl := so h
    exact eR
   ·refine rq hC [] [17, 18] [(17, vB (decide (e.kind = 3)))] [] [] a0 ?_
    refine vci (b := decide (e.kind = 3)) h (fun c3 h => ?_) (fun c3 h => ?_)
    ·obtain ⟨x5, hx5, h⟩ := bd h
     refine rq hC [.v (vS x5)] [2, 19, 20, 21] [(2, vS x5)] [] [] (a1 (c_s_l3AccessText G hx5)) ?_
     refine qr ?_
     obtain rfl := so h
     exact eR
    ·refine qk (qs ?_)
     obtain ⟨x6, hx6, h⟩ := bd h
     obtain ⟨x7, hx7, h⟩ := bd h
     obtain ⟨x8, hx8, h⟩ := bd h
     obtain ⟨x9, hx9, h⟩ := bd h
     obtain ⟨x10, hx10, h⟩ := bd h
     obtain ⟨x11, hx11, h⟩ := bd h
     obtain ⟨x12, hx12, h⟩ := bd h
     obtain ⟨x13, hx13, h⟩ := bd h
     obtain ⟨x14, hx14, h⟩ := bd h
     refine dk hC hmix [.row (rExprC x6), .v (vS x7), .str x8, .str x9, .str x10, .row (rExprC x11), .v (vS x12), .str x13, .str x14] [2, 22, 23, 24, 25, 26, 27, 28, 29, 30, 31, 32, 33, 34, 35, 36, 37, 38, 39, 40, 41, 42, 43] [(2, vS x14)] [] [] (a9 (ix_mapE rExpr hx6 (rExpr_eq x6)) (ih x6 hx7) hx8 hx9 hx10 (ix_mapE rExpr hx11 (rExpr_eq x11)) (ih x11 hx12) hx13 hx14) ?_
     refine qr ?_
     obtain rfl := so h
     exact eR
theorem c_s_FormatStmt {s} {r} (h : s_FormatStmt n s = some r) : PCC Tryz.prog G.g 218 [V.agg (cStmt s)] (vS r) := by
 unfold s_FormatStmt at h
 refine pmr tyOK Tryz.func218 rfl rfl rfl rfl rfl rfl rfl ?_
 intro w X hC
 refine rq hC [.b true] [1, 2] [(1, V.tp (tStmt s))] [] [] a0 ?_
 refine qs ?_
 obtain ⟨x1, hx1, h⟩ := bd h
 refine rq hC [.v (vB x1)] [3, 4, 5] [(5, vB (!x1))] [] [] (a1 (c_s_StmtValid G hx1)) ?_
 refine vci (b := !x1) h (fun c1 h => ?_) (fun c1 h => ?_)
 ·refine rq hC [] [2] [(2, vS [])] [] [] a0 ?_
  refine qr ?_
  obtain rfl := so h
  exact eR
 ·refine qk (qs ?_)
  obtain ⟨x2, hx2, h⟩ := bd h
  obtain ⟨x3, hx3, h⟩ := bd h
  obtain ⟨x4, hx4, h⟩ := bd h
  obtain ⟨x5, hx5, h⟩ := bd h
  refine dk hC hmix [.v (vS x2), .str x3, .v (vS x4), .str x5] [2, 6, 7, 8, 9, 10, 11, 12, 13] [(2, vS x5)] [] [] (a4 (c_s_l3AccessText G hx2) hx3 (c_s_l3Text G n s.value hx4) hx5) ?_
  refine qr ?_
  obtain rfl := so h
  exact eR
theorem c_s_ParseStmt {text} {r} (h : s_ParseStmt n text = some r) : PCC Tryz.prog G.g 187 [vS text] (V.tup [V.agg (cStmt r.1), vB r.2]) := by
 unfold s_ParseStmt at h
 refine pmr tyOK Tryz.func187 rfl rfl rfl rfl rfl rfl rfl ?_
 intro w X hC
 refine rq hC [.nat 20] [2, 3] [(2, V.ref 20 0)] [(20, sc [vS [], V.t T.nilS, vI 0, vI 0, V.t T.nilS, vI 0, vS [], V.t T.nilS, V.t T.nilS])] [(20, true)] a0 ?_
 refine qs (rq hC [] [9, 10, 11] [(11, vB (decide ((text.length : Int) < 4)))] [] [] trivial ?_)
 refine vci (b := decide ((text.length : Int) < 4)) h (fun c1 h => ?_) (fun c1 h => ?_)
 ·refine rq hC [] [3, 12] [(3, vB false)] [(20, sc [vS [], V.t T.nilS, vI 0, vI 0, V.t T.nilS, vI 0, vS [], V.t T.nilS, V.t T.nilS])] [] a0 ?_
  refine qr ?_
  obtain rfl := so h
  exact eR
 ·refine qk ?_
  obtain ⟨x1, hx1, h⟩ := bd h
  refine rq hC [.v (V.tup [V.agg (cAccess x1.1), vI x1.2]), .nat 21] [4, 5, 13, 14, 15, 16, 17] [(4, V.ref 21 0), (5, vI x1.2)] [(21, some (E.cells (cAccess x1.1)))] [(21, true)] (a1 (c_s_l3ParseAccess G hx1)) ?_
  refine qs ?_
  obtain ⟨j2, hj2, h⟩ := jn_e h
  refine vwp_jm (γ := Unit) (j := j2) (r := r) (fun x_ _ => mkS [(0, vS text), (2, V.ref 20 0), (4, V.ref 21 0), (5, vI x1.2), (25, vB x_)] [(20, E.cells [vS [], V.t T.nilS, vI 0, vI 0, V.t T.nilS, vI 0, vS [], V.t T.nilS, V.t T.nilS]), (21, E.cells (cAccess x1.1))] [20, 21]) ?_ ?_
  ·
   refine splI h (fun c2 h => ?_) (fun c2 h => ?_)
   ·refine rk hC [.b false, .b false, .b false, .b false, .b false] (fr 18 8) [(25, vB (decide ((text.length : Int) ≤ x1.2)))] [] [] (a5 c2 c2 c2 c2 c2) ?_
    exact ⟨decide ((text.length : Int) ≤ x1.2), (), h, lS⟩
   ·refine rk hC [.b true, .b true, .b true, .b true, .b true] (fr 18 8) [(25, vB true)] [] [] (a5 c2 c2 c2 c2 c2) ?_
    exact ⟨true, (), h, lS⟩
  ·rintro x3 ⟨⟩ h
   subst hj2
   refine vci (b := x3) h (fun c3 h => ?_) (fun c3 h => ?_)
   ·refine rq hC [] [3, 26] [(3, vB false)] [(20, sc [vS [], V.t T.nilS, vI 0, vI 0, V.t T.nilS, vI 0, vS [], V.t T.nilS, V.t T.nilS])] [] a0 ?_
    refine qr ?_
    obtain rfl := so h
    exact eR
   ·refine qk ?_
    obtain ⟨x4, hx4, h⟩ := bd h
    refine rq hC [.v (V.tup [V.agg (cExpr x4.1), vI x4.2]), .nat 22] [6, 7, 27, 28, 29, 30, 31, 32, 33] [(6, V.ref 22 0)] [(22, some (E.cells (cExpr x4.1)))] [(22, true)] (a1 (c_s_l3Parse G n text (wr (x1.2 + 1)) 5 hx4)) ?_
    refine rq hC [.nat 23] [8, 34, 35, 36] [(8, V.ref 23 0)] [(23, sc [vS x1.1.array, vM rAffine x1.1.subs, vI x4.1.kind, vI x4.1.num, vM rI x4.1.index.coefs, vI x4.1.index.const, vS x4.1.read.array, vM rAffine x4.1.read.subs, vM rExpr x4.1.kids])] [(23, true)] a0 ?_
    refine qs ?_
    obtain ⟨x5, hx5, h⟩ := bd h
    refine rq hC [.v (vS x5)] (fr 37 4) [(40, vB (!decide (x5 = text)))] [] [] (a1 (c_s_FormatStmt G hx5)) ?_
    refine vci (b := !decide (x5 = text)) h (fun c4 h => ?_) (fun c4 h => ?_)
    ·refine rq hC [] [3, 41] [(3, vB false)] [(20, sc [vS [], V.t T.nilS, vI 0, vI 0, V.t T.nilS, vI 0, vS [], V.t T.nilS, V.t T.nilS])] [] a0 ?_
     refine qr ?_
     obtain rfl := so h
     exact eR
    ·refine qk (rq hC [] [3, 42] [(3, vB true)] [(20, sc [vS x1.1.array, vM rAffine x1.1.subs, vI x4.1.kind, vI x4.1.num, vM rI x4.1.index.coefs, vI x4.1.index.const, vS x4.1.read.array, vM rAffine x4.1.read.subs, vM rExpr x4.1.kids])] [] trivial ?_)
     refine qr ?_
     obtain rfl := so h
     exact eR
theorem c_s_BoxNest {sizes} {r} (h : s_BoxNest n sizes = some r) : VCC Tryz.prog G.g 188 [] [vM rI sizes] (V.tup [ms 0 1 2 rLoop r.1, vB r.2]) [ar 193 1 2 rLoop r.1] := by
 unfold s_BoxNest at h
 refine vmr tyOK Tryz.func188 rfl rfl rfl rfl rfl rfl rfl rfl ?_
 intro w X β0 hC hg
 refine rq hC [] [2, 3] [] [] [] a0 ?_
 refine rq hC [.nat 20] [4, 6] [(4, ms 20 1 2 rLoop [])] [(20, some (ar 193 1 2 rLoop []))] [(20, true)] a0 ?_
 refine qs (rq hC [.nat sizes.length] [7, 8, 9] [(9, vB (decide ((4 : Int) < (sizes.length : Int))))] [] [] (a1 (lenM rI sizes)) ?_)
 refine vci (b := decide ((4 : Int) < (sizes.length : Int))) h (fun c1 h => ?_) (fun c1 h => ?_)
 ·refine rq hC [] [2, 3, 10] [(2, ms 20 1 2 rLoop []), (3, vB false)] [] [] a0 ?_
  refine qw (lk hC [.ren 2 20 0] [2] [(2, ms 0 1 2 rLoop [])] [(0, some (ar 193 1 2 rLoop [])), (20, none)] [(0, true)]) ?_
  refine qr ?_
  obtain rfl := so h
  exact eW
 ·refine qk (qs (rq hC [] [5] [(5, vI 0)] [] [] trivial ?_))
  refine qb (vwp_lm (γ := Nat) h (fun x_ g_ => mkS [(0, vM rI sizes), (4, ms 20 g_ 2 rLoop x_.1), (5, vI x_.2)] [(20, ar 193 g_ 2 rLoop x_.1)] [20]) 1 (lS) ?_)
  rintro again4 ⟨x1, x2⟩ g3 h
  refine qs (rq hC [.nat sizes.length] (fr 11 4) [(14, vB (decide (x2 < (sizes.length : Int))))] [] [] (a1 (lenM rI sizes)) ?_)
  refine vci (b := decide (x2 < (sizes.length : Int))) h (fun c2 h => ?_) (fun c2 h => ?_)
  ·refine qk (qs (qb (qs ?_)))
   obtain ⟨j5, hj5, h⟩ := jn_e h
   refine vwp_jm (γ := Unit) (j := j5) (r := r) (fun x_ _ => mkS [(0, vM rI sizes), (4, ms 20 g3 2 rLoop x1), (5, vI x2), (28, vB x_)] [(20, ar 193 g3 2 rLoop x1)] [20]) ?_ ?_
   ·
    obtain ⟨x6, hx6, h⟩ := bd h
    refine splI h (fun c3 h => ?_) (fun c3 h => ?_)
    ·refine rk hC [.row (rI x6), .b false, .b false, .b false, .row (rI x6), .b false, .b false, .b false] (fr 17 12) [(28, vB (decide ((99 : Int) < x6)))] [] [] (a8 (ix_map rI hx6) c3 c3 c3 (ix_map rI hx6) c3 c3 c3) ?_
     exact ⟨decide ((99 : Int) < x6), (), h, lS⟩
    ·refine rk hC [.row (rI x6), .b true, .b true, .b true, .b true, .b true, .b true] (fr 17 12) [(28, vB true)] [] [] (a7 (ix_map rI hx6) c3 c3 c3 c3 c3 c3) ?_
     exact ⟨true, (), h, lS⟩
   ·rintro x7 ⟨⟩ h
    subst hj5
    refine vci (b := x7) h (fun c4 h => ?_) (fun c4 h => ?_)
    ·refine rq hC [.nat 21] [2, 3, 29] [(2, ms 21 1 2 rLoop []), (3, vB false)] [(21, some (ar 193 1 2 rLoop []))] [(21, true)] a0 ?_
     refine qw (lk hC [.ren 2 21 0] [2] [(2, ms 0 1 2 rLoop [])] [(0, some (ar 193 1 2 rLoop [])), (21, none)] [(0, true)]) ?_
     refine qr ?_
     obtain rfl := so h
     exact eW
    ·refine qk ?_
     obtain ⟨x8, hx8, h⟩ := bd h
     obtain ⟨x9, hx9, h⟩ := bd h
     obtain ⟨x10, hx10, h⟩ := bd h
     obtain ⟨x11, hx11, h⟩ := bd h
     refine dk hC hmix [.vc [] [21] (V.agg [ms 0 1 1 rI x8.coefs, vI x8.const]) [ar 3 1 1 rI x8.coefs], .at 11, .fz 21 [31] [], .int 0, .row (rI x9), .vc [] [22] (V.agg [ms 0 1 1 rI x10.coefs, vI x10.const]) [ar 3 1 1 rI x10.coefs], .at 5, .fz 22 [37] [], .int 0, .int 0, .rows (List.map rLoop x11)] [4, 30, 31, 32, 33, 34, 35, 36, 37, 38, 39, 40, 41] [(4, ms 20 (g3 + 1) 2 rLoop x11)] [(21, none), (22, none), (20, some (ar 193 (g3 + 1) 2 rLoop x11))] [(21, true), (22, true)] (a6 (c_s_l1Zero G n  hx8) (ix_map rI hx9) (c_s_l1Const G hx10) (app_map rLoop hx11) (rwM (r := rLoop) 2 rLoop_len x1) (rwM (r := rLoop) 2 rLoop_len [(⟨[x8], [x10]⟩ : Loop)])) ?_
     refine rk hC [] [5, 15, 16] [(5, vI (wr (x2 + 1)))] [] [] a0 ?_
     exact ⟨(x11, wr (x2 + 1)), (g3 + 1), h, lS⟩
  ·refine qxt (rq hC [] [2, 3, 42] [(2, ms 20 g3 2 rLoop x1), (3, vB true)] [] [] trivial ?_)
   refine qw (lk hC [.ren 2 20 0] [2] [(2, ms 0 1 2 rLoop x1)] [(0, some (ar 193 1 2 rLoop x1)), (20, none)] [(0, true)]) ?_
   refine qr ?_
   obtain rfl := so h
   exact eW
theorem c_s_l4Body {r_a0} {r} (h : s_l4Body n r_a0 = some r) : VCC Tryz.prog G.g 150 [eL r_a0] [V.ref 0 0] (V.agg (cPart r.1)) [eL r.2] := by
 unfold s_l4Body at h
 refine vmr tyOK Tryz.func150 rfl rfl rfl rfl rfl rfl rfl rfl ?_
 intro w X β0 hC hg
 refine rq hC [.nat 20] [2] [(2, V.ref 20 0)] [(20, sc [V.t T.nilS, V.t T.nilS])] [(20, true)] a0 ?_
 refine qs (rq hC [] [3] [(3, vI 0)] [] [] trivial ?_)
 refine qb (vwp_lm (γ := Unit) h (fun x_ _ => mkS [(0, V.ref 0 0), (2, V.ref 20 0), (3, vI x_.2.2)] [(0, E.cells [vM rY x_.1, vI x_.2.1]), (20, E.cells [V.t T.nilS, V.t T.nilS])] [0, 20]) () (lS) ?_)
 rintro again4 ⟨x1, x2, x3⟩ ⟨⟩ h
 refine qs (rq hC [] [16, 17] [(17, vB (decide (x3 < 4)))] [] [] trivial ?_)
 refine vci (b := decide (x3 < 4)) h (fun c1 h => ?_) (fun c1 h => ?_)
 ·refine qk (qs (qb ?_))
  obtain ⟨x5, hx5, h⟩ := bd h
  refine rq hC [.vc [0] [21] (ms 1 1 2 rLoop x5.1) [eL x5.2, ar 193 1 2 rLoop x5.1], .nat 22] [4, 20, 21, 22] [(4, V.ref 22 0)] [(21, some (ar 193 1 2 rLoop x5.1)), (0, sR x5.2), (22, sc [ms 21 1 2 rLoop x5.1, V.t T.nilS])] [(0, true), (21, true), (22, true)] (a1 (c_s_l2Nest G hx5)) ?_
  refine qs ?_
  obtain ⟨x6, hx6, h⟩ := bd h
  refine rq hC [.int 0, .vc [0] [] (vI x6.1) [eL x6.2]] [5, 23, 24, 25] [(5, vI x6.1)] [(0, sR x6.2)] [(0, true)] (a1 (c_s_l16Rd_num G hx6)) ?_
  refine qb (qw (lk hC [.growc 22 1 23 114] [] [] [(23, some (ar 114 1 9 rStmt [])), (22, sc [ms 21 1 2 rLoop x5.1, ms 23 1 9 rStmt []])] [(23, true)]) ?_)
  refine qw (lk hC [.fz 21 [] [22]] [] [] [(22, sc [vM rLoop x5.1, ms 23 1 9 rStmt []]), (21, none)] []) ?_
  refine vwp_lm (γ := Nat) h (fun x_ g_ => mkS [(0, V.ref 0 0), (2, V.ref 20 0), (3, vI x3), (4, V.ref 22 0), (5, vI x_.2.2.2.2)] [(0, E.cells [vM rY x_.1, vI x_.2.1]), (20, E.cells [V.t T.nilS, V.t T.nilS]), (22, E.cells [vM rLoop x_.2.2.1, ms 23 g_ 9 rStmt x_.2.2.2.1]), (23, ar 114 g_ 9 rStmt x_.2.2.2.1)] [0, 20, 21, 22, 23]) 1 (lS) ?_
  rintro again13 ⟨x7, x8, x9, x10, x11⟩ g12 h
  refine qs (rq hC [] [26, 27] [(27, vB (decide ((0 : Int) < x11)))] [] [] trivial ?_)
  refine vci (b := decide ((0 : Int) < x11)) h (fun c2 h => ?_) (fun c2 h => ?_)
  ·refine qk ?_
   obtain ⟨j14, hj14, h⟩ := jn_e h
   refine vwp_jm (γ := Nat) (j := j14) (r := r) (fun x_ g_ => mkS [(0, V.ref 0 0), (2, V.ref 20 0), (3, vI x3), (4, V.ref 22 0), (5, vI x11)] [(0, E.cells [vM rY x_.1, vI x_.2.1]), (20, E.cells [V.t T.nilS, V.t T.nilS]), (22, E.cells [vM rLoop x9, ms 23 g_ 9 rStmt x_.2.2]), (23, ar 114 g_ 9 rStmt x_.2.2)] [0, 20, 21, 22, 23]) ?_ ?_
   ·
    refine qb (rq hC [] [6] [(6, vI 0)] [] [] trivial ?_)
    refine qb (vwp_lm (γ := Unit) h (fun x_ _ => mkS [(0, V.ref 0 0), (2, V.ref 20 0), (3, vI x3), (4, V.ref 22 0), (5, vI x11), (6, vI x_.2.2)] [(0, E.cells [vM rY x_.1, vI x_.2.1]), (20, E.cells [V.t T.nilS, V.t T.nilS]), (22, E.cells [vM rLoop x9, ms 23 g12 9 rStmt x10]), (23, ar 114 g12 9 rStmt x10)] [0, 20, 21, 22, 23]) () (lS) ?_)
    rintro again18 ⟨x15, x16, x17⟩ ⟨⟩ h
    refine qs (rq hC [] [30, 31] [(31, vB (decide (x17 < 5)))] [] [] trivial ?_)
    refine vci (b := decide (x17 < 5)) h (fun c3 h => ?_) (fun c3 h => ?_)
    ·refine qk (qs (qb ?_))
     obtain ⟨x19, hx19, h⟩ := bd h
     refine rq hC [.nat x9.length, .vc [0] [] (V.agg (cStmt x19.1)) [eL x19.2], .nat 24] [7, 34, 35, 36, 37, 38] [(7, V.ref 24 0)] [(0, sR x19.2), (24, some (E.cells (cStmt x19.1)))] [(0, true), (24, true)] (a2 (lenM rLoop x9) (c_s_l3Stmt G hx19)) ?_
     refine qs ?_
     obtain ⟨x20, hx20, h⟩ := bd h
     obtain ⟨x21, hx21, h⟩ := bd h
     refine dk hC hmix [.v (vM rArr x20), .int 1, .nat 25, .at 7, .fz 25 [44] [], .v (V.tup [vI x21.1, vB x21.2])] [8, 9, 39, 40, 41, 42, 43, 44, 45, 46, 47, 48] [(9, vB x21.2)] [(25, none)] [(25, true)] (a2 (c_s_l4Some G n  hx20) (c_s_l4Part G hx21)) ?_
     refine rq hC [] [49] [(49, vB x21.2)] [] [] a0 ?_
     refine vci (b := x21.2) h (fun c4 h => ?_) (fun c4 h => ?_)
     ·obtain ⟨x22, hx22, h⟩ := bd h
      refine rq hC [.int 0, .rows (List.map rStmt x22)] (fr 50 6) [] [(23, some (ar 114 (g12 + 1) 9 rStmt x22)), (22, sc [vM rLoop x9, ms 23 (g12 + 1) 9 rStmt x22])] [] (a3 (app_map rStmt hx22) (rwM (r := rStmt) 9 rStmt_len x10) (rwM (r := rStmt) 9 rStmt_len [x19.1])) ?_
      refine qxt ?_
      exact ⟨(x19.2.b, x19.2.p, x22), (g12 + 1), h, lS⟩
     ·refine qk (rk hC [] [6, 32, 33] [(6, vI (wr (x17 + 1)))] [] [] trivial ?_)
      exact ⟨(x19.2.b, x19.2.p, wr (x17 + 1)), (), h, lS⟩
    ·refine qxt ?_
     exact ⟨(x15, x16, x10), g12, h, lS⟩
   ·rintro ⟨x23, x24, x25⟩ g26 h
    subst hj14
    refine rk hC [] [5, 28, 29] [(5, vI (wr (x11 - 1)))] [] [] a0 ?_
    exact ⟨(x23, x24, x9, x25, wr (x11 - 1)), g26, h, lS⟩
  ·refine qxt (qs ?_)
   obtain ⟨x27, hx27, h⟩ := bd h
   obtain ⟨x28, hx28, h⟩ := bd h
   refine dk hC hmix [.v (vM rArr x27), .at 7, .fz 23 [] [22], .v (V.tup [vI x28.1, vB x28.2])] [10, 11, 56, 57, 58, 59, 60, 61] [(10, vI x28.1), (11, vB x28.2)] [(22, sc [vM rLoop x9, vM rStmt x10]), (23, none)] [] (a2 (c_s_l4Some G n  hx27) (c_s_l4Part G hx28)) ?_
   obtain ⟨j29, hj29, h⟩ := jn_e h
   refine vwp_jm (γ := Unit) (j := j29) (r := r) (fun x_ _ => mkS [(0, V.ref 0 0), (2, V.ref 20 0), (3, vI x3), (4, V.ref 22 0), (66, vB x_)] [(0, E.cells [vM rY x7, vI x8]), (20, E.cells [V.t T.nilS, V.t T.nilS]), (22, E.cells [vM rLoop x9, vM rStmt x10])] [0, 20, 21, 22, 23]) ?_ ?_
   ·
    refine splI h (fun c5 h => ?_) (fun c5 h => ?_)
    ·refine rk hC [.b false, .b false, .b false] (fr 62 5) [(66, vB false)] [] [] (a3 c5 c5 c5) ?_
     exact ⟨false, (), h, lS⟩
    ·refine rk hC [.b true, .b true, .b true] (fr 62 5) [(66, vB (decide (x28.1 ≤ 40)))] [] [] (a3 c5 c5 c5) ?_
     exact ⟨decide (x28.1 ≤ 40), (), h, lS⟩
   ·rintro x30 ⟨⟩ h
    subst hj29
    refine vci (b := x30) h (fun c6 h => ?_) (fun c6 h => ?_)
    ·refine rq hC [] [67] [] [(20, sc [vM rLoop x9, vM rStmt x10])] [] a0 ?_
     refine qr ?_
     obtain rfl := so h
     exact eW
    ·refine qk (rk hC [] [3, 18, 19] [(3, vI (wr (x3 + 1)))] [] [] trivial ?_)
     exact ⟨(x7, x8, wr (x3 + 1)), (), h, lS⟩
 ·refine qxt ?_
  obtain ⟨x31, hx31, h⟩ := bd h
  refine rq hC [.v (V.tup [V.agg (cStmt x31.1), vB x31.2]), .nat 21] [12, 13, 68, 69, 70, 71] [(12, V.ref 21 0)] [(21, some (E.cells (cStmt x31.1)))] [(21, true)] (a1 (c_s_ParseStmt G hx31)) ?_
  obtain ⟨x32, hx32, h⟩ := bd h
  refine rq hC [.int 0, .vc [] [22] (V.tup [ms 0 1 2 rLoop x32.1, vB x32.2]) [ar 193 1 2 rLoop x32.1]] [14, 15, 72, 73, 74, 75, 76] [(14, ms 22 1 2 rLoop x32.1)] [(22, some (ar 193 1 2 rLoop x32.1))] [(22, true)] (a1 (c_s_BoxNest G hx32)) ?_
  refine rq hC [.int 1, .nat 23] (fr 77 4) [] [(23, some (ar 114 1 9 rStmt [x31.1])), (20, sc [ms 22 1 2 rLoop x32.1, ms 23 1 9 rStmt [x31.1]])] [(23, true)] a0 ?_
  refine qw (lk hC [.fz 22 [14] [20]] [14] [(14, vM rLoop x32.1)] [(20, sc [vM rLoop x32.1, ms 23 1 9 rStmt [x31.1]]), (22, none)] []) ?_
  refine qw (lk hC [.fz 23 [] [20]] [] [] [(20, sc [vM rLoop x32.1, vM rStmt [x31.1]]), (23, none)] []) ?_
  refine qr ?_
  obtain rfl := so h
  exact eW
theorem c_s_l4Draw {r_a0} {r} (h : s_l4Draw n r_a0 = some r) : VCC Tryz.prog G.g 96 [eL r_a0] [V.ref 0 0] (V.agg (cProg r.1)) [eL r.2] := by
 unfold s_l4Draw at h
 refine vmr tyOK Tryz.func96 rfl rfl rfl rfl rfl rfl rfl rfl ?_
 intro w X β0 hC hg
 refine rq hC [.nat 20] [2] [(2, V.ref 20 0)] [(20, sc [V.t T.nilS, V.t T.nilS])] [(20, true)] a0 ?_
 obtain ⟨x1, hx1, h⟩ := bd h
 refine rq hC [.v (vM rArr x1), .nat 21] [3, 5, 6] [(3, V.ref 21 0)] [(21, sc [vM rArr x1, V.t T.nilS])] [(21, true)] (a1 (c_s_l4Some G n  hx1)) ?_
 refine qs ?_
 obtain ⟨x2, hx2, h⟩ := bd h
 refine rq hC [.int 0, .vc [0] [] (vI x2.1) [eL x2.2]] [4, 7, 8, 9] [(4, vI x2.1)] [(0, sR x2.2)] [(0, true)] (a1 (c_s_l16Rd_num G hx2)) ?_
 refine qb (qw (lk hC [.growc 21 1 22 86] [] [] [(22, some (ar 86 1 2 rPart [])), (21, sc [vM rArr x1, ms 22 1 2 rPart []])] [(22, true)]) ?_)
 refine vwp_lm (γ := Nat) h (fun x_ g_ => mkS [(0, V.ref 0 0), (2, V.ref 20 0), (3, V.ref 21 0), (4, vI x_.2.2.2)] [(0, E.cells [vM rY x_.1, vI x_.2.1]), (20, E.cells [V.t T.nilS, V.t T.nilS]), (21, E.cells [vM rArr x1, ms 22 g_ 2 rPart x_.2.2.1]), (22, ar 86 g_ 2 rPart x_.2.2.1)] [0, 20, 21, 22]) 1 (lS) ?_
 rintro again8 ⟨x3, x4, x5, x6⟩ g7 h
 refine qs (rq hC [] [10, 11] [(11, vB (decide ((0 : Int) < x6)))] [] [] trivial ?_)
 refine vci (b := decide ((0 : Int) < x6)) h (fun c1 h => ?_) (fun c1 h => ?_)
 ·refine qk (qs (qb ?_))
  obtain ⟨x9, hx9, h⟩ := bd h
  obtain ⟨x10, hx10, h⟩ := bd h
  refine dk hC hmix [.vc [0] [] (V.agg (cPart x9.1)) [eL x9.2], .int 0, .rows (List.map rPart x10)] (fr 14 7) [] [(0, sR x9.2), (22, some (ar 86 (g7 + 1) 2 rPart x10)), (21, sc [vM rArr x1, ms 22 (g7 + 1) 2 rPart x10])] [(0, true)] (a4 (c_s_l4Body G hx9) (app_map rPart hx10) (rwM (r := rPart) 2 rPart_len x5) (rwM (r := rPart) 2 rPart_len [x9.1])) ?_
  refine rk hC [] [4, 12, 13] [(4, vI (wr (x6 - 1)))] [] [] a0 ?_
  exact ⟨(x9.2.b, x9.2.p, x10, wr (x6 - 1)), (g7 + 1), h, lS⟩
 ·refine qxt (qs ?_)
  obtain ⟨x11, hx11, h⟩ := bd h
  refine rq hC [.at 2, .fz 22 [] [21], .v (vB x11)] [21, 22] [(22, vB x11)] [(21, sc [vM rArr x1, vM rPart x5]), (22, none)] [] (a1 (c_s_ProgramValid G hx11)) ?_
  refine vci (b := x11) h (fun c2 h => ?_) (fun c2 h => ?_)
  ·refine rq hC [] [23] [] [(20, sc [vM rArr x1, vM rPart x5])] [] a0 ?_
   refine qr ?_
   obtain rfl := so h
   exact eW
  ·refine qk (qs ?_)
   obtain ⟨x12, hx12, h⟩ := bd h
   obtain ⟨x13, hx13, h⟩ := bd h
   refine dk hC hmix [.v (vM rArr x12), .rows (List.map rPart x13)] (fr 24 5) [] [(20, sc [vM rArr x12, vM rPart x13])] [] (a3 (c_s_l4Some G n  hx12) (sub_map rPart hx13) (rwM (r := rPart) 2 rPart_len x5)) ?_
   refine qr ?_
   obtain rfl := so h
   exact eW
theorem c_s_l5Bend {r_a0} {m} {r} (h : s_l5Bend n r_a0 m = some r) : VCC Tryz.prog G.g 97 [eL r_a0] [V.ref 0 0, vM rI m] (ms 1 1 1 rI r.1) [eL r.2, ar 3 1 1 rI r.1] := by
 unfold s_l5Bend at h
 refine vmr tyOK Tryz.func97 rfl rfl rfl rfl rfl rfl rfl rfl ?_
 intro w X β0 hC hg
 refine rq hC [] [4] [] [] [] a0 ?_
 obtain ⟨x1, hx1, h⟩ := bd h
 refine rq hC [.nat 20, .rows (List.map rI x1)] (fr 5 4) [(5, ms 20 2 1 rI x1)] [(20, some (ar 3 2 1 rI x1))] [(20, true)] (a3 (app_map rI hx1) (rwM (r := rI) 1 (fun _ => rfl) []) (rwM (r := rI) 1 (fun _ => rfl) m)) ?_
 obtain ⟨j2, hj2, h⟩ := jn_e h
 refine vwp_jm (γ := Nat) (j := j2) (r := r) (fun x_ g_ => mkS [(5, ms 20 g_ 1 rI x_.2.2)] [(0, E.cells [vM rY x_.1, vI x_.2.1]), (20, ar 3 g_ 1 rI x_.2.2)] [0, 20]) ?_ ?_
 ·
  obtain ⟨x3, hx3, h⟩ := bd h
  refine rq hC [.vc [0] [] (vI x3.1) [eL x3.2]] [9, 10] [(10, vI x3.1)] [(0, sR x3.2)] [(0, true)] (a1 (c_s_l16Rd_pick G hx3)) ?_
  refine qb (rq hC [] [11, 12] [(11, vB (decide (x3.1 = 0)))] [] [] trivial ?_)
  refine vci (b := decide (x3.1 = 0)) h (fun c1 h => ?_) (fun c1 h => ?_)
  ·obtain ⟨x4, hx4, h⟩ := bd h
   refine rk hC [.int 0, .rows (List.map rI x4)] [5, 13, 14, 15] [(5, ms 20 3 1 rI x4)] [(20, some (ar 3 3 1 rI x4))] [] (a3 (app_map rI hx4) (rwM (r := rI) 1 (fun _ => rfl) x1) (rwM (r := rI) 1 (fun _ => rfl) [0])) ?_
   exact ⟨(x3.2.b, x3.2.p, x4), 3, h, lS⟩
  ·refine rq hC [] [16, 17] [(16, vB (decide (x3.1 = 1)))] [] [] a0 ?_
   refine vci (b := decide (x3.1 = 1)) h (fun c2 h => ?_) (fun c2 h => ?_)
   ·refine rq hC [.nat x1.length] [18, 19, 20] [(20, vB (decide ((0 : Int) < (x1.length : Int))))] [] [] (a1 (lenM rI x1)) ?_
    refine vci (b := decide ((0 : Int) < (x1.length : Int))) h (fun c3 h => ?_) (fun c3 h => ?_)
    ·obtain ⟨x5, hx5, h⟩ := bd h
     obtain ⟨x6, hx6, h⟩ := bd h
     obtain ⟨x7, hx7, h⟩ := bd h
     obtain ⟨x8, hx8, h⟩ := bd h
     refine rk hC [.nat x1.length, .vc [0] [] (vI x5.1) [eL x5.2], .int 0, .vc [0] [] (vI x6.1) [eL x6.2], .row (rI x7), .rows (List.map rI x8), .len 5 (List.map rI x8).length] [5, 21, 22, 23, 24, 25, 26, 27, 28, 29] [(5, ms 20 2 1 rI x8)] [(0, sR x6.2), (20, some (ar 3 2 1 rI x8))] [(0, true), (0, true)] (a7 (lenM rI x1) (c_s_l16Rd_pick G hx5) (c_s_l16Rd_num G hx6) (ixn rI hx7) (ixr rI hx7) (str rI hx8) (lenS rI hx8)) ?_
     exact ⟨(x6.2.b, x6.2.p, x8), 2, h, lS⟩
    ·refine qk ?_
     exact ⟨(x3.2.b, x3.2.p, x1), 2, h, lS⟩
   ·refine qk ?_
    exact ⟨(x3.2.b, x3.2.p, x1), 2, h, lS⟩
 ·rintro ⟨x9, x10, x11⟩ g12 h
  subst hj2
  refine rq hC [] [4, 30] [(4, ms 20 g12 1 rI x11)] [] [] a0 ?_
  refine qw (lk hC [.ren 4 20 1] [4] [(4, ms 1 1 1 rI x11)] [(1, some (ar 3 1 1 rI x11)), (20, none)] [(1, true)]) ?_
  refine qr ?_
  obtain rfl := so h
  exact eW
theorem c_s_CountCells {p} {r} (h : s_CountCells n p = some r) : PCC Tryz.prog G.g 151 [V.agg (cProg p)] (vI r) := by
 unfold s_CountCells at h
 refine pmr tyOK Tryz.func151 rfl rfl rfl rfl rfl rfl rfl ?_
 intro w X hC
 refine rq hC [.b true] [1, 2] [(1, V.tp (tProg p))] [] [] a0 ?_
 refine qs ?_
 obtain ⟨x1, hx1, h⟩ := bd h
 refine rq hC [.v (vB x1)] [3, 4, 5] [(5, vB (!x1))] [] [] (a1 (c_s_ProgramValid G hx1)) ?_
 refine vci (b := !x1) h (fun c1 h => ?_) (fun c1 h => ?_)
 ·refine rq hC [] [2] [(2, vI 0)] [] [] a0 ?_
  refine qr ?_
  obtain rfl := so h
  exact eR
 ·refine qk ?_
  obtain ⟨x2, hx2, h⟩ := bd h
  refine rq hC [.v (vI x2)] [2, 6, 7] [(2, vI x2)] [] [] (a1 (c_s_l4Total G hx2)) ?_
  refine qr ?_
  obtain rfl := so h
  exact eR
theorem c_s_l5Memory {r_a0} {p} {r} (h : s_l5Memory n r_a0 p = some r) : VCC Tryz.prog G.g 98 [eL r_a0] [V.ref 0 0, V.agg (cProg p)] (ms 1 1 1 rI r.1) [eL r.2, ar 3 1 1 rI r.1] := by
 unfold s_l5Memory at h
 refine vmr tyOK Tryz.func98 rfl rfl rfl rfl rfl rfl rfl rfl ?_
 intro w X β0 hC hg
 refine rq hC [.b true] [3, 4] [(3, V.tp (tProg p))] [] [] a0 ?_
 refine rq hC [.nat 20] [5, 7] [(5, ms 20 1 1 rI [])] [(20, some (ar 3 1 1 rI []))] [(20, true)] a0 ?_
 refine qs ?_
 obtain ⟨x1, hx1, h⟩ := bd h
 refine rq hC [.v (vI x1)] [6, 8, 9] [(6, vI x1)] [] [] (a1 (c_s_CountCells G hx1)) ?_
 refine qb (vwp_lm (γ := Nat) h (fun x_ g_ => mkS [(0, V.ref 0 0), (5, ms 20 g_ 1 rI x_.2.2.1), (6, vI x_.2.2.2)] [(0, E.cells [vM rY x_.1, vI x_.2.1]), (20, ar 3 g_ 1 rI x_.2.2.1)] [0, 20]) 1 (lS) ?_)
 rintro again7 ⟨x2, x3, x4, x5⟩ g6 h
 refine qs (rq hC [] [10, 11] [(11, vB (decide ((0 : Int) < x5)))] [] [] trivial ?_)
 refine vci (b := decide ((0 : Int) < x5)) h (fun c1 h => ?_) (fun c1 h => ?_)
 ·refine qk (qs (qb ?_))
  obtain ⟨x8, hx8, h⟩ := bd h
  obtain ⟨x9, hx9, h⟩ := bd h
  refine rk hC [.int 0, .vc [0] [] (vI x8.1) [eL x8.2], .int 0, .rows (List.map rI x9)] [5, 14, 15, 16, 17, 18, 19] [(5, ms 20 (g6 + 1) 1 rI x9)] [(0, sR x8.2), (20, some (ar 3 (g6 + 1) 1 rI x9))] [(0, true)] (a4 (c_s_l16Rd_num G hx8) (app_map rI hx9) (rwM (r := rI) 1 (fun _ => rfl) x4) (rwM (r := rI) 1 (fun _ => rfl) [x8.1])) ?_
  refine rk hC [] [6, 12, 13] [(6, vI (wr (x5 - 1)))] [] [] a0 ?_
  exact ⟨(x8.2.b, x8.2.p, x9, wr (x5 - 1)), (g6 + 1), h, lS⟩
 ·refine qxt (rq hC [] [4, 20] [(4, ms 20 g6 1 rI x4)] [] [] trivial ?_)
  refine qw (lk hC [.ren 4 20 1] [4] [(4, ms 1 1 1 rI x4)] [(1, some (ar 3 1 1 rI x4)), (20, none)] [(1, true)]) ?_
  refine qr ?_
  obtain rfl := so h
  exact eW
theorem c_s_l16Open {code} {r} (h : s_l16Open n code = some r) : VCC Tryz.prog G.g 94 [] [vM rY code] (V.ref 0 0) [eL r] := by
 unfold s_l16Open at h
 refine vmr tyOK Tryz.func94 rfl rfl rfl rfl rfl rfl rfl rfl ?_
 intro w X β0 hC hg
 refine rq hC [] [2] [] [] [] a0 ?_
 obtain ⟨j1, hj1, h⟩ := jn_e h
 refine vwp_jm (γ := Unit) (j := j1) (r := r) (fun x_ _ => mkS [(0, vM rY x_)] [] []) ?_ ?_
 ·
  refine rq hC [.nat code.length] [3, 4, 5] [(5, vB (decide ((2000 : Int) < (code.length : Int))))] [] [] (a1 (lenM rY code)) ?_
  refine vci (b := decide ((2000 : Int) < (code.length : Int))) h (fun c1 h => ?_) (fun c1 h => ?_)
  ·obtain ⟨x2, hx2, h⟩ := bd h
   refine rk hC [.rows (List.map rY x2)] [0, 6, 7] [(0, vM rY x2)] [] [] (a2 (sub_map rY hx2) (rwM (r := rY) 1 (fun _ => rfl) code)) ?_
   exact ⟨x2, (), h, lS⟩
  ·refine qk ?_
   exact ⟨code, (), h, lS⟩
 ·rintro x3 ⟨⟩ h
  subst hj1
  refine rq hC [.nat 0] [2, 8, 9, 10] [(2, V.ref 0 0)] [(0, sc [vM rY x3, vI 0])] [(0, true)] a0 ?_
  refine qr ?_
  obtain rfl := so h
  exact eW
theorem c_s_l2Copy {nest} {r} (h : s_l2Copy n nest = some r) : VCC Tryz.prog G.g 180 [] [vM rLoop nest] (ms 0 1 2 rLoop r) [E.tree ndT 0 1 (List.map rLoop r) []] := by
 unfold s_l2Copy at h
 refine vmr tyOK Tryz.func180 rfl rfl rfl rfl rfl rfl rfl rfl ?_
 intro w X β0 hC hg
 refine rq hC [] [2] [] [] [] a0 ?_
 refine rq hC [.nat 20, .at 1, .tre 20 ndT 0] [3, 10] [(3, ms 20 1 2 rLoop [])] [(20, some (E.tree ndT 0 1 (List.map rLoop []) []))] [(20, true)] a0 ?_
 refine qs (rq hC [] [4] [(4, vI 0)] [] [] trivial ?_)
 refine qb (vwp_lm (γ := Nat) h (fun x_ g_ => mkS [(0, vM rLoop nest), (3, ms 20 g_ 2 rLoop x_.1), (4, vI x_.2)] [(20, E.tree ndT 0 g_ (List.map rLoop x_.1) [])] [20]) 1 (lS) ?_)
 rintro again4 ⟨x1, x2⟩ g3 h
 refine qs (rq hC [.nat nest.length] (fr 11 4) [(14, vB (decide (x2 < (nest.length : Int))))] [] [] (a1 (lenM rLoop nest)) ?_)
 refine vci (b := decide (x2 < (nest.length : Int))) h (fun c1 h => ?_) (fun c1 h => ?_)
 ·refine qk (qs (qb (rq hC [.nat 21] [5, 17] [(5, V.ref 21 0)] [(21, sc [V.t T.nilS, V.t T.nilS])] [(21, true)] trivial ?_)))
  refine qs (rq hC [] [6] [(6, vI 0)] [] [] trivial ?_)
  refine qb (qw (lk hC [.growc 21 0 22 109] [] [] [(22, some (ar 109 1 2 rAffine [])), (21, sc [ms 22 1 2 rAffine [], V.t T.nilS])] [(22, true)]) ?_)
  refine vwp_lm (γ := Nat) h (fun x_ g_ => mkS [(0, vM rLoop nest), (3, ms 20 g3 2 rLoop x1), (4, vI x2), (5, V.ref 21 0), (6, vI x_.2)] [(20, E.tree ndT 0 g3 (List.map rLoop x1) []), (21, E.cells [ms 22 g_ 2 rAffine x_.1, V.t T.nilS]), (22, ar 109 g_ 2 rAffine x_.1)] [20, 21, 22]) 1 (lS) ?_
  rintro again8 ⟨x5, x6⟩ g7 h
  refine qs ?_
  obtain ⟨x9, hx9, h⟩ := bd h
  refine rq hC [.row (rLoop x9), .nat x9.lo.length] (fr 18 8) [(25, vB (decide (x6 < (x9.lo.length : Int))))] [] [] (a2 (ix_map rLoop hx9) (lenM rAffine x9.lo)) ?_
  refine vci (b := decide (x6 < (x9.lo.length : Int))) h (fun c2 h => ?_) (fun c2 h => ?_)
  ·refine qk (qs (qb ?_))
   obtain ⟨x10, hx10, h⟩ := bd h
   refine rq hC [.row (rLoop x9), .row (rAffine x10), .nat 23] [7, 28, 29, 30, 31, 32, 33, 34, 35] [(7, V.ref 23 0)] [(23, some (E.cells (cAffine x10)))] [(23, true)] (a2 (ix_map rLoop hx9) (ix_map rAffine hx10)) ?_
   obtain ⟨x11, hx11, h⟩ := bd h
   obtain ⟨x12, hx12, h⟩ := bd h
   refine dk hC hmix [.nat 24, .rows (List.map rI x11), .at 5, .fz 24 [41] [], .int 0, .rows (List.map rAffine x12)] (fr 36 12) [] [(24, none), (22, some (ar 109 (g7 + 1) 2 rAffine x12)), (21, sc [ms 22 (g7 + 1) 2 rAffine x12, V.t T.nilS])] [(24, true)] (a6 (app_map rI hx11) (rwM (r := rI) 1 (fun _ => rfl) []) (rwM (r := rI) 1 (fun _ => rfl) x10.coefs) (app_map rAffine hx12) (rwM (r := rAffine) 2 rAffine_len x5) (rwM (r := rAffine) 2 rAffine_len [(⟨x11, x10.const⟩ : Affine)])) ?_
   refine rk hC [] [6, 26, 27] [(6, vI (wr (x6 + 1)))] [] [] a0 ?_
   exact ⟨(x12, wr (x6 + 1)), (g7 + 1), h, lS⟩
  ·refine qxt (qs (rq hC [] [8] [(8, vI 0)] [] [] trivial ?_))
   refine qb (qw (lk hC [.growc 21 1 23 109] [] [] [(23, some (ar 109 1 2 rAffine [])), (21, sc [ms 22 g7 2 rAffine x5, ms 23 1 2 rAffine []])] [(23, true)]) ?_)
   refine vwp_lm (γ := Nat) h (fun x_ g_ => mkS [(0, vM rLoop nest), (3, ms 20 g3 2 rLoop x1), (4, vI x2), (5, V.ref 21 0), (8, vI x_.2)] [(20, E.tree ndT 0 g3 (List.map rLoop x1) []), (21, E.cells [ms 22 g7 2 rAffine x5, ms 23 g_ 2 rAffine x_.1]), (22, ar 109 g7 2 rAffine x5), (23, ar 109 g_ 2 rAffine x_.1)] [20, 21, 22, 23]) 1 (lS) ?_
   rintro again16 ⟨x13, x14⟩ g15 h
   refine qs (rq hC [.row (rLoop x9), .nat x9.hi.length] (fr 48 8) [(55, vB (decide (x14 < (x9.hi.length : Int))))] [] [] (a2 (ix_map rLoop hx9) (lenM rAffine x9.hi)) ?_)
   refine vci (b := decide (x14 < (x9.hi.length : Int))) h (fun c3 h => ?_) (fun c3 h => ?_)
   ·refine qk (qs (qb ?_))
    obtain ⟨x17, hx17, h⟩ := bd h
    refine rq hC [.row (rLoop x9), .row (rAffine x17), .nat 24] [9, 58, 59, 60, 61, 62, 63, 64, 65] [(9, V.ref 24 0)] [(24, some (E.cells (cAffine x17)))] [(24, true)] (a2 (ix_map rLoop hx9) (ix_map rAffine hx17)) ?_
    obtain ⟨x18, hx18, h⟩ := bd h
    obtain ⟨x19, hx19, h⟩ := bd h
    refine dk hC hmix [.nat 25, .rows (List.map rI x18), .at 5, .fz 25 [71] [], .int 0, .rows (List.map rAffine x19)] (fr 66 12) [] [(25, none), (23, some (ar 109 (g15 + 1) 2 rAffine x19)), (21, sc [ms 22 g7 2 rAffine x5, ms 23 (g15 + 1) 2 rAffine x19])] [(25, true)] (a6 (app_map rI hx18) (rwM (r := rI) 1 (fun _ => rfl) []) (rwM (r := rI) 1 (fun _ => rfl) x17.coefs) (app_map rAffine hx19) (rwM (r := rAffine) 2 rAffine_len x13) (rwM (r := rAffine) 2 rAffine_len [(⟨x18, x17.const⟩ : Affine)])) ?_
    refine rk hC [] [8, 56, 57] [(8, vI (wr (x14 + 1)))] [] [] a0 ?_
    exact ⟨(x19, wr (x14 + 1)), (g15 + 1), h, lS⟩
   ·refine qxt ?_
    obtain ⟨x20, hx20, h⟩ := bd h
    refine rk hC [.lt 24 ndT 0, .rows (List.map rLoop (x1 ++ [(⟨[], []⟩ : Loop)])), .at 1, .tre 22 ndT 1, .unf 20 22 (rLoop (⟨[], []⟩ : Loop)) (List.map rLoop (x1 ++ [(⟨x5, []⟩ : Loop)])), .tre 23 ndT 1, .unf 20 23 (rLoop (⟨x5, []⟩ : Loop)) (List.map rLoop x20), .len 81 (List.map rLoop x20).length] [3, 78, 79, 80, 81] [(3, ms 20 (g3 + 1) 2 rLoop x20)] [(24, some (E.tree ndT 0 1 (List.map rLoop [(⟨[], []⟩ : Loop)]) [(0, 0, ms 22 g7 2 rAffine x5), (0, 1, ms 23 g15 2 rAffine x13)])), (20, some (E.tree ndT 0 (g3 + 1) (List.map rLoop x20) [])), (22, none), (23, none)] [(24, true)] (an (Eq.refl (ndOf ndT 0)) (a12 (appH rLoop (⟨[], []⟩ : Loop) hx20) (rwM (r := rLoop) 2 rLoop_len x1) (rwM (r := rLoop) 2 rLoop_len [(⟨[], []⟩ : Loop)]) (Eq.refl (List.map rAffine x5).length) (Eq.refl ndT) (rowH rLoop x1 (⟨[], []⟩ : Loop)) (setH rLoop x1 (ph := (⟨[], []⟩ : Loop)) (y := (⟨x5, []⟩ : Loop)) rfl) (Eq.refl (List.map rAffine x13).length) (Eq.refl ndT) (rowH rLoop x1 (⟨x5, []⟩ : Loop)) (setHx rLoop (ph := (⟨x5, []⟩ : Loop)) hx20 rfl) (lenH rLoop (⟨[], []⟩ : Loop) hx20))) ?_
    refine rk hC [] [4, 15, 16] [(4, vI (wr (x2 + 1)))] [] [] a0 ?_
    exact ⟨(x20, wr (x2 + 1)), (g3 + 1), h, lS⟩
 ·refine qxt (rq hC [] [2, 82] [(2, ms 20 g3 2 rLoop x1)] [] [] trivial ?_)
  refine qw (lk hC [.rn 20 0 [2, 3] []] [2, 3] [(2, ms 0 1 2 rLoop x1), (3, ms 0 1 2 rLoop x1)] [(20, none), (0, some (E.tree ndT 0 1 (List.map rLoop x1) []))] [(0, true)]) ?_
  refine qr ?_
  obtain rfl := so h
  exact eW
theorem c_s_l3CopyExpr (G : GS) : ∀ (n : Nat) (e : Expr) {r : Expr} (h : s_l3CopyExpr n e = some r), VCC Tryz.prog G.g 212 [] [V.agg (cExpr e)] (V.agg [vI r.kind, vI r.num, ms 0 1 1 rI r.index.coefs, vI r.index.const, vS r.read.array, ms 1 1 2 rAffine r.read.subs, ms 2 1 7 rExpr r.kids]) [ar 3 1 1 rI r.index.coefs, ar 109 1 2 rAffine r.read.subs, ar 112 1 7 rExpr r.kids] := by
 intro n
 induction n with
 | zero => intro e r h; rw [s_l3CopyExpr.eq_def] at h; cases h
 | succ n ih =>
  intro e r h
  rw [s_l3CopyExpr.eq_def] at h; dsimp only at h
  refine vmr tyOK Tryz.func212 rfl rfl rfl rfl rfl rfl rfl rfl ?_
  intro w X β0 hC hg
  refine rq hC [.b true, .nat 20] [1, 2] [(1, V.tp (tExpr e)), (2, V.ref 20 0)] [(20, sc [vI 0, vI 0, V.t T.nilS, vI 0, vS [], V.t T.nilS, V.t T.nilS])] [(20, true)] a0 ?_
  refine qs ?_
  obtain ⟨x1, hx1, h⟩ := bd h
  obtain ⟨x2, hx2, h⟩ := bd h
  refine dk hC hmix [.vc [] [21] (V.agg [ms 0 1 1 rI x1.coefs, vI x1.const]) [ar 3 1 1 rI x1.coefs], .vc [] [22] (V.agg [vS x2.array, ms 0 1 2 rAffine x2.subs]) [ar 109 1 2 rAffine x2.subs], .nat 23] [3, 5, 6, 7, 8, 9, 10, 11, 12, 13, 14, 15] [(3, V.ref 23 0)] [(21, some (ar 3 1 1 rI x1.coefs)), (22, some (ar 109 1 2 rAffine x2.subs)), (23, sc [vI e.kind, vI e.num, ms 21 1 1 rI x1.coefs, vI x1.const, vS x2.array, ms 22 1 2 rAffine x2.subs, V.t T.nilS])] [(21, true), (22, true), (23, true)] (a2 (c_s_l3CopyAffine G hx1) (c_s_l3CopyAccess G hx2)) ?_
  refine qs (rq hC [] [4] [(4, vI 0)] [] [] trivial ?_)
  refine qb (qw (lk hC [.growc 23 6 24 112] [] [] [(24, some (ar 112 1 7 rExpr [])), (23, sc [vI e.kind, vI e.num, ms 21 1 1 rI x1.coefs, vI x1.const, vS x2.array, ms 22 1 2 rAffine x2.subs, ms 24 1 7 rExpr []])] [(24, true)]) ?_)
  refine vwp_lm (γ := Nat) h (fun x_ g_ => mkS [(1, V.tp (tExpr e)), (2, V.ref 20 0), (3, V.ref 23 0), (4, vI x_.2)] [(20, E.cells [vI 0, vI 0, V.t T.nilS, vI 0, vS [], V.t T.nilS, V.t T.nilS]), (21, ar 3 1 1 rI x1.coefs), (22, ar 109 1 2 rAffine x2.subs), (23, E.cells [vI e.kind, vI e.num, ms 21 1 1 rI x1.coefs, vI x1.const, vS x2.array, ms 22 1 2 rAffine x2.subs, ms 24 g_ 7 rExpr x_.1]), (24, ar 112 g_ 7 rExpr x_.1)] [20, 21, 22, 23, 24]) 1 (lS) ?_
  rintro again6 ⟨x3, x4⟩ g5 h
  refine qs (rq hC [.nat e.kids.length] (fr 16 5) [(20, vB (decide (x4 < (e.kids.length : Int))))] [] [] (a1 (lenM rExpr e.kids)) ?_)
  refine vci (b := decide (x4 < (e.kids.length : Int))) h (fun c1 h => ?_) (fun c1 h => ?_)
  ·refine qk (qs (qb ?_))
   obtain ⟨x7, hx7, h⟩ := bd h
   obtain ⟨x8, hx8, h⟩ := bd h
   obtain ⟨x9, hx9, h⟩ := bd h
   refine dk hC hmix [.row (rExprC x7), .vc [] [25, 26, 27] (V.agg [vI x8.kind, vI x8.num, ms 0 1 1 rI x8.index.coefs, vI x8.index.const, vS x8.read.array, ms 1 1 2 rAffine x8.read.subs, ms 2 1 7 rExpr x8.kids]) [ar 3 1 1 rI x8.index.coefs, ar 109 1 2 rAffine x8.read.subs, ar 112 1 7 rExpr x8.kids], .at 4, .fz 25 [30] [], .at 4, .fz 26 [30] [], .at 4, .fz 27 [30] [], .int 2, .rows (List.map rExpr [x8]), .rows (List.map rExpr x9)] (fr 23 11) [] [(25, none), (26, none), (27, none), (24, some (ar 112 (g5 + 1) 7 rExpr x9)), (23, sc [vI e.kind, vI e.num, ms 21 1 1 rI x1.coefs, vI x1.const, vS x2.array, ms 22 1 2 rAffine x2.subs, ms 24 (g5 + 1) 7 rExpr x9])] [(25, true), (26, true), (27, true)] (a6 (ix_mapE rExpr hx7 (rExpr_eq x7)) (ih x7 hx8) (chExpr1 x8) (app_map rExpr hx9) (rwM (r := rExpr) 7 rExpr_len x3) (rwM (r := rExpr) 7 rExpr_len [x8])) ?_
   refine rk hC [] [4, 21, 22] [(4, vI (wr (x4 + 1)))] [] [] a0 ?_
   exact ⟨(x9, wr (x4 + 1)), (g5 + 1), h, lS⟩
  ·refine qxt (rq hC [] [34] [] [(20, sc [vI e.kind, vI e.num, ms 21 1 1 rI x1.coefs, vI x1.const, vS x2.array, ms 22 1 2 rAffine x2.subs, ms 24 g5 7 rExpr x3])] [] trivial ?_)
   refine qw (lk hC [.rn 21 0 [] [20, 23]] [] [] [(20, sc [vI e.kind, vI e.num, ms 0 1 1 rI x1.coefs, vI x1.const, vS x2.array, ms 22 1 2 rAffine x2.subs, ms 24 g5 7 rExpr x3]), (23, sc [vI e.kind, vI e.num, ms 0 1 1 rI x1.coefs, vI x1.const, vS x2.array, ms 22 1 2 rAffine x2.subs, ms 24 g5 7 rExpr x3]), (21, none), (0, some (ar 3 1 1 rI x1.coefs))] [(0, true)]) ?_
   refine qw (lk hC [.rn 22 1 [] [20, 23]] [] [] [(20, sc [vI e.kind, vI e.num, ms 0 1 1 rI x1.coefs, vI x1.const, vS x2.array, ms 1 1 2 rAffine x2.subs, ms 24 g5 7 rExpr x3]), (23, sc [vI e.kind, vI e.num, ms 0 1 1 rI x1.coefs, vI x1.const, vS x2.array, ms 1 1 2 rAffine x2.subs, ms 24 g5 7 rExpr x3]), (22, none), (1, some (ar 109 1 2 rAffine x2.subs))] [(1, true)]) ?_
   refine qw (lk hC [.rn 24 2 [] [20, 23]] [] [] [(20, sc [vI e.kind, vI e.num, ms 0 1 1 rI x1.coefs, vI x1.const, vS x2.array, ms 1 1 2 rAffine x2.subs, ms 2 1 7 rExpr x3]), (23, sc [vI e.kind, vI e.num, ms 0 1 1 rI x1.coefs, vI x1.const, vS x2.array, ms 1 1 2 rAffine x2.subs, ms 2 1 7 rExpr x3]), (24, none), (2, some (ar 112 1 7 rExpr x3))] [(2, true)]) ?_
   refine qr ?_
   obtain rfl := so h
   exact eW
theorem c_s_l3Copy {s} {r} (h : s_l3Copy n s = some r) : VCC Tryz.prog G.g 181 [] [V.agg (cStmt s)] (V.agg [vS r.write.array, ms 0 1 2 rAffine r.write.subs, vI r.value.kind, vI r.value.num, ms 1 1 1 rI r.value.index.coefs, vI r.value.index.const, vS r.value.read.array, ms 2 1 2 rAffine r.value.read.subs, ms 3 1 7 rExpr r.value.kids]) [ar 109 1 2 rAffine r.write.subs, ar 3 1 1 rI r.value.index.coefs, ar 109 1 2 rAffine r.value.read.subs, ar 112 1 7 rExpr r.value.kids] := by
 unfold s_l3Copy at h
 refine vmr tyOK Tryz.func181 rfl rfl rfl rfl rfl rfl rfl rfl ?_
 intro w X β0 hC hg
 refine rq hC [.b true, .nat 20] [1, 2] [(1, V.tp (tStmt s)), (2, V.ref 20 0)] [(20, sc [vS [], V.t T.nilS, vI 0, vI 0, V.t T.nilS, vI 0, vS [], V.t T.nilS, V.t T.nilS])] [(20, true)] a0 ?_
 refine qs ?_
 obtain ⟨x1, hx1, h⟩ := bd h
 obtain ⟨x2, hx2, h⟩ := bd h
 refine dk hC hmix [.vc [] [21] (V.agg [vS x1.array, ms 0 1 2 rAffine x1.subs]) [ar 109 1 2 rAffine x1.subs], .vc [] [22, 23, 24] (V.agg [vI x2.kind, vI x2.num, ms 0 1 1 rI x2.index.coefs, vI x2.index.const, vS x2.read.array, ms 1 1 2 rAffine x2.read.subs, ms 2 1 7 rExpr x2.kids]) [ar 3 1 1 rI x2.index.coefs, ar 109 1 2 rAffine x2.read.subs, ar 112 1 7 rExpr x2.kids]] (fr 3 7) [] [(21, some (ar 109 1 2 rAffine x1.subs)), (22, some (ar 3 1 1 rI x2.index.coefs)), (23, some (ar 109 1 2 rAffine x2.read.subs)), (24, some (ar 112 1 7 rExpr x2.kids)), (20, sc [vS x1.array, ms 21 1 2 rAffine x1.subs, vI x2.kind, vI x2.num, ms 22 1 1 rI x2.index.coefs, vI x2.index.const, vS x2.read.array, ms 23 1 2 rAffine x2.read.subs, ms 24 1 7 rExpr x2.kids])] [(21, true), (22, true), (23, true), (24, true)] (a2 (c_s_l3CopyAccess G hx1) (c_s_l3CopyExpr G n s.value hx2)) ?_
 refine qw (lk hC [.rn 21 0 [] [20]] [] [] [(20, sc [vS x1.array, ms 0 1 2 rAffine x1.subs, vI x2.kind, vI x2.num, ms 22 1 1 rI x2.index.coefs, vI x2.index.const, vS x2.read.array, ms 23 1 2 rAffine x2.read.subs, ms 24 1 7 rExpr x2.kids]), (21, none), (0, some (ar 109 1 2 rAffine x1.subs))] [(0, true)]) ?_
 refine qw (lk hC [.rn 22 1 [] [20]] [] [] [(20, sc [vS x1.array, ms 0 1 2 rAffine x1.subs, vI x2.kind, vI x2.num, ms 1 1 1 rI x2.index.coefs, vI x2.index.const, vS x2.read.array, ms 23 1 2 rAffine x2.read.subs, ms 24 1 7 rExpr x2.kids]), (22, none), (1, some (ar 3 1 1 rI x2.index.coefs))] [(1, true)]) ?_
 refine qw (lk hC [.rn 23 2 [] [20]] [] [] [(20, sc [vS x1.array, ms 0 1 2 rAffine x1.subs, vI x2.kind, vI x2.num, ms 1 1 1 rI x2.index.coefs, vI x2.index.const, vS x2.read.array, ms 2 1 2 rAffine x2.read.subs, ms 24 1 7 rExpr x2.kids]), (23, none), (2, some (ar 109 1 2 rAffine x2.read.subs))] [(2, true)]) ?_
 refine qw (lk hC [.rn 24 3 [] [20]] [] [] [(20, sc [vS x1.array, ms 0 1 2 rAffine x1.subs, vI x2.kind, vI x2.num, ms 1 1 1 rI x2.index.coefs, vI x2.index.const, vS x2.read.array, ms 2 1 2 rAffine x2.read.subs, ms 3 1 7 rExpr x2.kids]), (24, none), (3, some (ar 112 1 7 rExpr x2.kids))] [(3, true)]) ?_
 refine qr ?_
 obtain rfl := so h
 exact eW
theorem c_s_l4Copy {p} {r} (h : s_l4Copy n p = some r) : VCC Tryz.prog G.g 143 [] [V.agg (cProg p)] (V.agg [ms 0 1 2 rArr r.arrays, ms 1 1 2 rPart r.parts]) [ar 141 1 2 rArr r.arrays, E.tree ndT 2 1 (List.map rPart r.parts) []] := by
 unfold s_l4Copy at h
 refine vmr tyOK Tryz.func143 rfl rfl rfl rfl rfl rfl rfl rfl ?_
 intro w X β0 hC hg
 refine rq hC [.b true, .nat 20] [1, 2] [(1, V.tp (tProg p)), (2, V.ref 20 0)] [(20, sc [V.t T.nilS, V.t T.nilS])] [(20, true)] a0 ?_
 refine rq hC [.nat 21] [3, 8] [(3, V.ref 21 0)] [(21, sc [V.t T.nilS, V.t T.nilS])] [(21, true)] a0 ?_
 refine qs (rq hC [] [4] [(4, vI 0)] [] [] trivial ?_)
 refine qb (qw (lk hC [.growc 21 0 22 141] [] [] [(22, some (ar 141 1 2 rArr [])), (21, sc [ms 22 1 2 rArr [], V.t T.nilS])] [(22, true)]) ?_)
 refine vwp_lm (γ := Nat) h (fun x_ g_ => mkS [(1, V.tp (tProg p)), (2, V.ref 20 0), (3, V.ref 21 0), (4, vI x_.2)] [(20, E.cells [V.t T.nilS, V.t T.nilS]), (21, E.cells [ms 22 g_ 2 rArr x_.1, V.t T.nilS]), (22, ar 141 g_ 2 rArr x_.1)] [20, 21, 22]) 1 (lS) ?_
 rintro again4 ⟨x1, x2⟩ g3 h
 refine qs (rq hC [.nat p.arrays.length] (fr 9 5) [(13, vB (decide (x2 < (p.arrays.length : Int))))] [] [] (a1 (lenM rArr p.arrays)) ?_)
 refine vci (b := decide (x2 < (p.arrays.length : Int))) h (fun c1 h => ?_) (fun c1 h => ?_)
 ·refine qk (qs (qb ?_))
  obtain ⟨x5, hx5, h⟩ := bd h
  obtain ⟨x6, hx6, h⟩ := bd h
  obtain ⟨x7, hx7, h⟩ := bd h
  refine dk hC hmix [.row (rArr x5), .nat 23, .row (rArr x5), .rows (List.map rI x6), .at 5, .fz 23 [31] [], .int 0, .rows (List.map rArr x7)] (fr 16 20) [] [(23, none), (22, some (ar 141 (g3 + 1) 2 rArr x7)), (21, sc [ms 22 (g3 + 1) 2 rArr x7, V.t T.nilS])] [(23, true)] (a8 (ix_map rArr hx5) (ix_map rArr hx5) (app_map rI hx6) (rwM (r := rI) 1 (fun _ => rfl) []) (rwM (r := rI) 1 (fun _ => rfl) x5.dims) (app_map rArr hx7) (rwM (r := rArr) 2 rArr_len x1) (rwM (r := rArr) 2 rArr_len [(⟨x5.name, x6⟩ : Arr)])) ?_
  refine rk hC [] [4, 14, 15] [(4, vI (wr (x2 + 1)))] [] [] a0 ?_
  exact ⟨(x7, wr (x2 + 1)), (g3 + 1), h, lS⟩
 ·refine qxt (qs (rq hC [] [5] [(5, vI 0)] [] [] trivial ?_))
  refine qb (qw (lk hC [.growc 21 1 23 86, .tre 23 ndT 2] [] [] [(23, some (E.tree ndT 2 1 (List.map rPart []) [])), (21, sc [ms 22 g3 2 rArr x1, ms 23 1 2 rPart []])] [(23, true)]) ?_)
  refine vwp_lm (γ := Nat) h (fun x_ g_ => mkS [(1, V.tp (tProg p)), (2, V.ref 20 0), (3, V.ref 21 0), (5, vI x_.2)] [(20, E.cells [V.t T.nilS, V.t T.nilS]), (21, E.cells [ms 22 g3 2 rArr x1, ms 23 g_ 2 rPart x_.1]), (22, ar 141 g3 2 rArr x1), (23, E.tree ndT 2 g_ (List.map rPart x_.1) [])] [20, 21, 22, 23]) 1 (lS) ?_
  rintro again11 ⟨x8, x9⟩ g10 h
  refine qs (rq hC [.nat p.parts.length] (fr 36 5) [(40, vB (decide (x9 < (p.parts.length : Int))))] [] [] (a1 (lenM rPart p.parts)) ?_)
  refine vci (b := decide (x9 < (p.parts.length : Int))) h (fun c2 h => ?_) (fun c2 h => ?_)
  ·refine qk (qs (qb ?_))
   obtain ⟨x12, hx12, h⟩ := bd h
   obtain ⟨x13, hx13, h⟩ := bd h
   refine rq hC [.row (rPart x12), .vc [] [24] (ms 0 1 2 rLoop x13) [E.tree ndT 0 1 (List.map rLoop x13) []], .nat 25] [6, 43, 44, 45, 46, 47, 48, 49, 50] [(6, V.ref 25 0)] [(24, some (E.tree ndT 0 1 (List.map rLoop x13) [])), (25, sc [ms 24 1 2 rLoop x13, V.t T.nilS])] [(24, true), (25, true)] (a2 (ix_map rPart hx12) (c_s_l2Copy G hx13)) ?_
   refine qs (rq hC [] [7] [(7, vI 0)] [] [] trivial ?_)
   refine qb (qw (lk hC [.growc 25 1 26 114] [] [] [(26, some (ar 114 1 9 rStmt [])), (25, sc [ms 24 1 2 rLoop x13, ms 26 1 9 rStmt []])] [(26, true)]) ?_)
   refine vwp_lm (γ := Nat) h (fun x_ g_ => mkS [(1, V.tp (tProg p)), (2, V.ref 20 0), (3, V.ref 21 0), (5, vI x9), (6, V.ref 25 0), (7, vI x_.2)] [(20, E.cells [V.t T.nilS, V.t T.nilS]), (21, E.cells [ms 22 g3 2 rArr x1, ms 23 g10 2 rPart x8]), (22, ar 141 g3 2 rArr x1), (23, E.tree ndT 2 g10 (List.map rPart x8) []), (24, E.tree ndT 0 1 (List.map rLoop x13) []), (25, E.cells [ms 24 1 2 rLoop x13, ms 26 g_ 9 rStmt x_.1]), (26, ar 114 g_ 9 rStmt x_.1)] [20, 21, 22, 23, 24, 25, 26]) 1 (lS) ?_
   rintro again17 ⟨x14, x15⟩ g16 h
   refine qs (rq hC [.row (rPart x12), .nat x12.body.length] (fr 51 9) [(59, vB (decide (x15 < (x12.body.length : Int))))] [] [] (a2 (ix_map rPart hx12) (lenM rStmt x12.body)) ?_)
   refine vci (b := decide (x15 < (x12.body.length : Int))) h (fun c3 h => ?_) (fun c3 h => ?_)
   ·refine qk (qs (qb ?_))
    obtain ⟨x18, hx18, h⟩ := bd h
    obtain ⟨x19, hx19, h⟩ := bd h
    obtain ⟨x20, hx20, h⟩ := bd h
    refine dk hC hmix [.row (rPart x12), .row (rStmt x18), .vc [] [27, 28, 29, 30] (V.agg [vS x19.write.array, ms 0 1 2 rAffine x19.write.subs, vI x19.value.kind, vI x19.value.num, ms 1 1 1 rI x19.value.index.coefs, vI x19.value.index.const, vS x19.value.read.array, ms 2 1 2 rAffine x19.value.read.subs, ms 3 1 7 rExpr x19.value.kids]) [ar 109 1 2 rAffine x19.write.subs, ar 3 1 1 rI x19.value.index.coefs, ar 109 1 2 rAffine x19.value.read.subs, ar 112 1 7 rExpr x19.value.kids], .at 4, .fz 27 [73] [], .at 4, .fz 28 [73] [], .at 4, .fz 29 [73] [], .at 4, .fz 30 [73] [], .int 0, .rows (List.map rStmt x20)] (fr 62 15) [] [(27, none), (28, none), (29, none), (30, none), (26, some (ar 114 (g16 + 1) 9 rStmt x20)), (25, sc [ms 24 1 2 rLoop x13, ms 26 (g16 + 1) 9 rStmt x20])] [(27, true), (28, true), (29, true), (30, true)] (a6 (ix_map rPart hx12) (ix_map rStmt hx18) (c_s_l3Copy G hx19) (app_map rStmt hx20) (rwM (r := rStmt) 9 rStmt_len x14) (rwM (r := rStmt) 9 rStmt_len [x19])) ?_
    refine rk hC [] [7, 60, 61] [(7, vI (wr (x15 + 1)))] [] [] a0 ?_
    exact ⟨(x20, wr (x15 + 1)), (g16 + 1), h, lS⟩
   ·refine qxt ?_
    obtain ⟨x21, hx21, h⟩ := bd h
    refine rk hC [.at 5, .shd 24, .at 5, .fz 24 [] [25], .lt 27 ndT 2, .rows (List.map rPart (x8 ++ [(⟨x13, []⟩ : Part)])), .at 2, .tre 26 ndT 3, .unf 23 26 (rPart (⟨x13, []⟩ : Part)) (List.map rPart x21), .len 81 (List.map rPart x21).length] (fr 77 6) [] [(24, none), (25, sc [vM rLoop x13, ms 26 g16 9 rStmt x14]), (27, some (E.tree ndT 2 1 (List.map rPart [(⟨x13, []⟩ : Part)]) [(0, 1, ms 26 g16 9 rStmt x14)])), (23, some (E.tree ndT 2 (g10 + 1) (List.map rPart x21) [])), (26, none), (21, sc [ms 22 g3 2 rArr x1, ms 23 (g10 + 1) 2 rPart x21])] [(27, true)] (a9 (Eq.refl (ndOf ndT 2)) (appH rPart (⟨x13, []⟩ : Part) hx21) (rwM (r := rPart) 2 rPart_len x8) (rwM (r := rPart) 2 rPart_len [(⟨x13, []⟩ : Part)]) (Eq.refl (List.map rStmt x14).length) (Eq.refl ndT) (rowH rPart x8 (⟨x13, []⟩ : Part)) (setHx rPart (ph := (⟨x13, []⟩ : Part)) hx21 rfl) (lenH rPart (⟨x13, []⟩ : Part) hx21)) ?_
    refine rk hC [] [5, 41, 42] [(5, vI (wr (x9 + 1)))] [] [] a0 ?_
    exact ⟨(x21, wr (x9 + 1)), (g10 + 1), h, lS⟩
  ·refine qxt (rq hC [] [83] [] [(20, sc [ms 22 g3 2 rArr x1, ms 23 g10 2 rPart x8])] [] trivial ?_)
   refine qw (lk hC [.rn 22 0 [] [20, 21]] [] [] [(20, sc [ms 0 1 2 rArr x1, ms 23 g10 2 rPart x8]), (21, sc [ms 0 1 2 rArr x1, ms 23 g10 2 rPart x8]), (22, none), (0, some (ar 141 1 2 rArr x1))] [(0, true)]) ?_
   refine qw (lk hC [.rn 23 1 [] [20, 21]] [] [] [(20, sc [ms 0 1 2 rArr x1, ms 1 1 2 rPart x8]), (21, sc [ms 0 1 2 rArr x1, ms 1 1 2 rPart x8]), (23, none), (1, some (E.tree ndT 2 1 (List.map rPart x8) []))] [(1, true)]) ?_
   refine qr ?_
   obtain rfl := so h
   exact eW
theorem c_s_l2Mutate {r_a0} {nest} {r} (h : s_l2Mutate n r_a0 nest = some r) : VCC Tryz.prog G.g 147 [eL r_a0] [V.ref 0 0, vM rLoop nest] (ms 1 1 2 rLoop r.1) [eL r.2, ar 193 1 2 rLoop r.1] := by
 unfold s_l2Mutate at h
 refine vmr tyOK Tryz.func147 rfl rfl rfl rfl rfl rfl rfl rfl ?_
 intro w X β0 hC hg
 refine rq hC [] [4] [] [] [] a0 ?_
 obtain ⟨x1, hx1, h⟩ := bd h
 refine rq hC [.vc [] [20] (ms 0 1 2 rLoop x1) [E.tree ndT 0 1 (List.map rLoop x1) []]] [5, 7, 8] [(5, ms 20 1 2 rLoop x1)] [(20, some (E.tree ndT 0 1 (List.map rLoop x1) []))] [(20, true)] (a1 (c_s_l2Copy G hx1)) ?_
 refine rq hC [.nat x1.length] [6, 9, 10] [(6, vI (x1.length : Int))] [] [] (a1 (lenM rLoop x1)) ?_
 refine qs (rq hC [] [11, 12] [(12, vB (decide ((x1.length : Int) = 0)))] [] [] trivial ?_)
 refine vci (b := decide ((x1.length : Int) = 0)) h (fun c1 h => ?_) (fun c1 h => ?_)
 ·refine rq hC [] [4, 13] [(4, ms 20 1 2 rLoop x1)] [] [] a0 ?_
  refine qw (lk hC [.shd 20, .ren 4 20 1] [4] [(4, ms 1 1 2 rLoop x1)] [(20, none), (1, some (ar 193 1 2 rLoop x1))] [(1, true)]) ?_
  refine qr ?_
  obtain rfl := so h
  exact eW
 ·refine qk ?_
  obtain ⟨j2, hj2, h⟩ := jn_e h
  refine vwp_jm (γ := Nat) (j := j2) (r := r) (fun x_ g_ => mkS [(5, ms 20 g_ 2 rLoop x_.2.2)] [(0, E.cells [vM rY x_.1, vI x_.2.1]), (20, ar 193 g_ 2 rLoop x_.2.2)] [0, 20]) ?_ ?_
  ·
   obtain ⟨x3, hx3, h⟩ := bd h
   refine rq hC [.vc [0] [] (vI x3.1) [eL x3.2]] [14, 15] [(15, vI x3.1)] [(0, sR x3.2)] [(0, true)] (a1 (c_s_l16Rd_pick G hx3)) ?_
   refine qb (rq hC [] [16, 17] [(16, vB (decide (x3.1 = 0)))] [] [] trivial ?_)
   refine vci (b := decide (x3.1 = 0)) h (fun c2 h => ?_) (fun c2 h => ?_)
   ·obtain ⟨x4, hx4, h⟩ := bd h
    refine qw (lpP hC [.foc 20 21 (0 + Int.toNat 0) 0 (rLoop x4), .shd 21] [] [] [(20, some (E.tree ndT 0 1 (List.map rLoop x1) [((0 + Int.toNat 0), 0, ms 21 1 2 rAffine x4.lo)])), (21, some (ar 109 1 2 rAffine x4.lo))] [(21, true)] (a1 (ixr rLoop hx4)) (by kernel_rfl)) ?_
    obtain ⟨x5, hx5, h⟩ := bd h
    obtain ⟨x6, hx6, h⟩ := bd h
    obtain ⟨x7, hx7, h⟩ := bd h
    refine dk hC hmix [.row (rLoop x4), .vc [0] [] (vI x5.1) [eL x5.2], .vc [] [22] (V.agg [ms 0 1 1 rI x6.coefs, vI x6.const]) [ar 3 1 1 rI x6.coefs], .at 5, .fz 22 [25] [], .int 0, .rows (List.map rAffine x7), .row (rLoop x4)] (fr 18 12) [] [(0, sR x5.2), (22, none), (21, some (ar 109 2 2 rAffine x7)), (20, some (E.tree ndT 0 1 (List.map rLoop x1) [((0 + Int.toNat 0), 0, ms 21 2 2 rAffine x7)]))] [(0, true), (22, true)] (a11 (ixn rLoop hx4) (ixr rLoop hx4) (Eq.refl (0 + Int.toNat 0)) (c_s_l16Rd_pick G hx5) (c_s_l1Var G hx6) (app_map rAffine hx7) (rwM (r := rAffine) 2 rAffine_len x4.lo) (rwM (r := rAffine) 2 rAffine_len [x6]) (ixn rLoop hx4) (ixr rLoop hx4) (Eq.refl (0 + Int.toNat 0))) ?_
    obtain ⟨x8, hx8, h⟩ := bd h
    exact ⟨(x5.2.b, x5.2.p, x8), 1, h, ((lpP hC [.tre 21 ndT 1, .unf 20 21 (rLoop x4) (List.map rLoop x8), .len 5 (List.map rLoop x8).length] [5] [(5, ms 20 1 2 rLoop x8)] [(21, none), (20, some (E.tree ndT 0 1 (List.map rLoop x8) []))] [] (a5 (Eq.refl (List.map rAffine x7).length) (Eq.refl ndT) (ixr rLoop hx4) (setF rLoop hx8 rfl) (lenS rLoop hx8)) (by kernel_rfl)).trans ((lk hC [.shd 20] [] [] [(20, some (ar 193 1 2 rLoop x8))] []).trans (lS)))⟩
   ·refine rq hC [] [30, 31] [(30, vB (decide (x3.1 = 1)))] [] [] a0 ?_
    refine vci (b := decide (x3.1 = 1)) h (fun c3 h => ?_) (fun c3 h => ?_)
    ·refine qw (lk hC [.shd 20] [] [] [(20, some (ar 193 1 2 rLoop x1))] []) ?_
     obtain ⟨x9, hx9, h⟩ := bd h
     obtain ⟨x10, hx10, h⟩ := bd h
     refine rk hC [.row (rLoop x9), .rows (List.map rLoop x10), .len 5 (List.map rLoop x10).length] [5, 32, 33, 34, 35, 36] [(5, ms 20 1 2 rLoop x10)] [(20, some (ar 193 1 2 rLoop x10))] [] (a4 (ixn rLoop hx9) (ixr rLoop hx9) (str rLoop hx10) (lenS rLoop hx10)) ?_
     exact ⟨(x3.2.b, x3.2.p, x10), 1, h, lS⟩
    ·refine rq hC [] [37, 38] [(37, vB (decide (x3.1 = 2)))] [] [] a0 ?_
     refine vci (b := decide (x3.1 = 2)) h (fun c4 h => ?_) (fun c4 h => ?_)
     ·obtain ⟨x11, hx11, h⟩ := bd h
      refine qw (lpP hC [.foc 20 21 (0 + Int.toNat (wr ((x1.length : Int) - 1))) 1 (rLoop x11), .shd 21] [] [] [(20, some (E.tree ndT 0 1 (List.map rLoop x1) [((0 + Int.toNat (wr ((x1.length : Int) - 1))), 1, ms 21 1 2 rAffine x11.hi)])), (21, some (ar 109 1 2 rAffine x11.hi))] [(21, true)] (a1 (ixr rLoop hx11)) (by kernel_rfl)) ?_
      obtain ⟨x12, hx12, h⟩ := bd h
      obtain ⟨x13, hx13, h⟩ := bd h
      obtain ⟨x14, hx14, h⟩ := bd h
      refine dk hC hmix [.row (rLoop x11), .vc [] [22] (V.agg [ms 0 1 1 rI x12.coefs, vI x12.const]) [ar 3 1 1 rI x12.coefs], .vc [] [23] (V.agg [ms 0 1 1 rI x13.coefs, vI x13.const]) [ar 3 1 1 rI x13.coefs], .at 5, .fz 22 [48] [], .at 5, .fz 23 [49] [], .int 0, .rows (List.map rAffine x14), .row (rLoop x11)] (fr 39 15) [] [(22, none), (23, none), (21, some (ar 109 2 2 rAffine x14)), (20, some (E.tree ndT 0 1 (List.map rLoop x1) [((0 + Int.toNat (wr ((x1.length : Int) - 1))), 1, ms 21 2 2 rAffine x14)]))] [(22, true), (23, true)] (a11 (ixn rLoop hx11) (ixr rLoop hx11) (Eq.refl (0 + Int.toNat (wr ((x1.length : Int) - 1)))) (c_s_l1Const G hx12) (c_s_l1Const G hx13) (app_map rAffine hx14) (rwM (r := rAffine) 2 rAffine_len x11.hi) (rwM (r := rAffine) 2 rAffine_len [x12, x13]) (ixn rLoop hx11) (ixr rLoop hx11) (Eq.refl (0 + Int.toNat (wr ((x1.length : Int) - 1))))) ?_
      obtain ⟨x15, hx15, h⟩ := bd h
      exact ⟨(x3.2.b, x3.2.p, x15), 1, h, ((lpP hC [.tre 21 ndT 1, .unf 20 21 (rLoop x11) (List.map rLoop x15), .len 5 (List.map rLoop x15).length] [5] [(5, ms 20 1 2 rLoop x15)] [(21, none), (20, some (E.tree ndT 0 1 (List.map rLoop x15) []))] [] (a5 (Eq.refl (List.map rAffine x14).length) (Eq.refl ndT) (ixr rLoop hx11) (setF rLoop hx15 rfl) (lenS rLoop hx15)) (by kernel_rfl)).trans ((lk hC [.shd 20] [] [] [(20, some (ar 193 1 2 rLoop x15))] []).trans (lS)))⟩
     ·refine rq hC [] [54, 55] [(54, vB (decide (x3.1 = 3)))] [] [] a0 ?_
      refine vci (b := decide (x3.1 = 3)) h (fun c5 h => ?_) (fun c5 h => ?_)
      ·refine qw (lk hC [.shd 20] [] [] [(20, some (ar 193 1 2 rLoop x1))] []) ?_
       obtain ⟨x16, hx16, h⟩ := bd h
       obtain ⟨x17, hx17, h⟩ := bd h
       obtain ⟨x18, hx18, h⟩ := bd h
       refine rk hC [.vc [] [21] (V.agg [ms 0 1 1 rI x16.coefs, vI x16.const]) [ar 3 1 1 rI x16.coefs], .at 4, .fz 21 [57] [], .int 1, .nat 22, .at 1, .fz 22 [58] [], .row (rLoop x17), .rows (List.map rLoop x18), .len 5 (List.map rLoop x18).length] [5, 56, 57, 58, 59, 60] [(5, ms 20 1 2 rLoop x18)] [(21, none), (22, none), (20, some (ar 193 1 2 rLoop x18))] [(21, true), (22, true)] (a5 (c_s_l1Const G hx16) (ixn rLoop hx17) (ixr rLoop hx17) (str rLoop hx18) (lenS rLoop hx18)) ?_
       exact ⟨(x3.2.b, x3.2.p, x18), 1, h, lS⟩
      ·refine rq hC [] [61, 62] [(61, vB (decide (x3.1 = 4)))] [] [] a0 ?_
       refine vci (b := decide (x3.1 = 4)) h (fun c6 h => ?_) (fun c6 h => ?_)
       ·refine qb (qw (lk hC [.shd 20] [] [] [(20, some (ar 193 1 2 rLoop x1))] []) ?_)
        refine vwp_lm (γ := Nat) h (fun x_ g_ => mkS [(5, ms 20 g_ 2 rLoop x_)] [(0, eL x3.2), (20, ar 193 g_ 2 rLoop x_)] [0, 20]) 1 (lS) ?_
        rintro again21 x19 g20 h
        refine qs (rq hC [.nat x19.length] [63, 64, 65] [(65, vB (decide ((x19.length : Int) ≤ 4)))] [] [] (a1 (lenM rLoop x19)) ?_)
        refine vci (b := decide ((x19.length : Int) ≤ 4)) h (fun c7 h => ?_) (fun c7 h => ?_)
        ·refine qk (qb ?_)
         obtain ⟨x22, hx22, h⟩ := bd h
         obtain ⟨x23, hx23, h⟩ := bd h
         refine rk hC [.row (rLoop x22), .int 0, .rows (List.map rLoop x23)] [5, 66, 67, 68, 69, 70, 71] [(5, ms 20 (g20 + 1) 2 rLoop x23)] [(20, some (ar 193 (g20 + 1) 2 rLoop x23))] [] (a5 (ixn rLoop hx22) (ixr rLoop hx22) (app_map rLoop hx23) (rwM (r := rLoop) 2 rLoop_len x19) (rwM (r := rLoop) 2 rLoop_len [x22])) ?_
         exact ⟨x23, (g20 + 1), h, lS⟩
        ·refine qxt ?_
         exact ⟨(x3.2.b, x3.2.p, x19), g20, h, lS⟩
       ·refine qk ?_
        exact ⟨(x3.2.b, x3.2.p, x1), 1, h, ((lk hC [.shd 20] [] [] [(20, some (ar 193 1 2 rLoop x1))] []).trans (lS))⟩
  ·rintro ⟨x24, x25, x26⟩ g27 h
   subst hj2
   refine rq hC [] [4, 72] [(4, ms 20 g27 2 rLoop x26)] [] [] a0 ?_
   refine qw (lk hC [.ren 4 20 1] [4] [(4, ms 1 1 2 rLoop x26)] [(1, some (ar 193 1 2 rLoop x26)), (20, none)] [(1, true)]) ?_
   refine qr ?_
   obtain rfl := so h
   exact eW
theorem c_s_l3Mutate {r_a0} {s} {r} (h : s_l3Mutate n r_a0 s = some r) : VCC Tryz.prog G.g 148 [eL r_a0] [V.ref 0 0, V.agg (cStmt s)] (V.agg (cStmt r.1)) [eL r.2] := by
 unfold s_l3Mutate at h
 refine vmr tyOK Tryz.func148 rfl rfl rfl rfl rfl rfl rfl rfl ?_
 intro w X β0 hC hg
 refine rq hC [.b true, .nat 20] [3, 4] [(3, V.tp (tStmt s)), (4, V.ref 20 0)] [(20, sc [vS [], V.t T.nilS, vI 0, vI 0, V.t T.nilS, vI 0, vS [], V.t T.nilS, V.t T.nilS])] [(20, true)] a0 ?_
 obtain ⟨x1, hx1, h⟩ := bd h
 refine rq hC [.vc [] [21, 22, 23, 24] (V.agg [vS x1.write.array, ms 0 1 2 rAffine x1.write.subs, vI x1.value.kind, vI x1.value.num, ms 1 1 1 rI x1.value.index.coefs, vI x1.value.index.const, vS x1.value.read.array, ms 2 1 2 rAffine x1.value.read.subs, ms 3 1 7 rExpr x1.value.kids]) [ar 109 1 2 rAffine x1.write.subs, ar 3 1 1 rI x1.value.index.coefs, ar 109 1 2 rAffine x1.value.read.subs, ar 112 1 7 rExpr x1.value.kids], .nat 25] [5, 6, 7] [(5, V.ref 25 0)] [(21, some (ar 109 1 2 rAffine x1.write.subs)), (22, some (ar 3 1 1 rI x1.value.index.coefs)), (23, some (ar 109 1 2 rAffine x1.value.read.subs)), (24, some (ar 112 1 7 rExpr x1.value.kids)), (25, sc [vS x1.write.array, ms 21 1 2 rAffine x1.write.subs, vI x1.value.kind, vI x1.value.num, ms 22 1 1 rI x1.value.index.coefs, vI x1.value.index.const, vS x1.value.read.array, ms 23 1 2 rAffine x1.value.read.subs, ms 24 1 7 rExpr x1.value.kids])] [(21, true), (22, true), (23, true), (24, true), (25, true)] (a1 (c_s_l3Copy G hx1)) ?_
 obtain ⟨j2, hj2, h⟩ := jn_e h
 refine vwp_jm (γ := Nat × Nat) (j := j2) (r := r) (fun x_ g_ => mkS [(4, V.ref 20 0), (5, V.ref 25 0)] [(0, E.cells [vM rY x_.1, vI x_.2.1]), (20, E.cells [vS [], V.t T.nilS, vI 0, vI 0, V.t T.nilS, vI 0, vS [], V.t T.nilS, V.t T.nilS]), (21, ar 109 g_.1 2 rAffine x_.2.2.1), (22, ar 3 1 1 rI x1.value.index.coefs), (23, ar 109 1 2 rAffine x1.value.read.subs), (24, ar 112 g_.2 7 rExpr x_.2.2.2.1), (25, E.cells [vS x_.2.2.2.2.1, ms 21 g_.1 2 rAffine x_.2.2.1, vI x_.2.2.2.2.2.1, vI x_.2.2.2.2.2.2, ms 22 1 1 rI x1.value.index.coefs, vI x1.value.index.const, vS x1.value.read.array, ms 23 1 2 rAffine x1.value.read.subs, ms 24 g_.2 7 rExpr x_.2.2.2.1])] [0, 20, 21, 22, 23, 24, 25]) ?_ ?_
 ·
  obtain ⟨x3, hx3, h⟩ := bd h
  refine rq hC [.vc [0] [] (vI x3.1) [eL x3.2]] [8, 9] [(9, vI x3.1)] [(0, sR x3.2)] [(0, true)] (a1 (c_s_l16Rd_pick G hx3)) ?_
  refine qb (rq hC [] [10, 11] [(10, vB (decide (x3.1 = 0)))] [] [] trivial ?_)
  refine vci (b := decide (x3.1 = 0)) h (fun c1 h => ?_) (fun c1 h => ?_)
  ·obtain ⟨x4, hx4, h⟩ := bd h
   refine rk hC [.int 0, .vc [0] [] (vS x4.1) [eL x4.2]] (fr 12 5) [] [(0, sR x4.2), (25, sc [vS x4.1, ms 21 1 2 rAffine x1.write.subs, vI x1.value.kind, vI x1.value.num, ms 22 1 1 rI x1.value.index.coefs, vI x1.value.index.const, vS x1.value.read.array, ms 23 1 2 rAffine x1.value.read.subs, ms 24 1 7 rExpr x1.value.kids])] [(0, true)] (a1 (c_s_l16Rd_of G hx4)) ?_
   exact ⟨(x4.2.b, x4.2.p, x1.write.subs, x1.value.kids, x4.1, x1.value.kind, x1.value.num), (1, 1), h, lS⟩
  ·refine rq hC [] [17, 18] [(17, vB (decide (x3.1 = 1)))] [] [] a0 ?_
   refine vci (b := decide (x3.1 = 1)) h (fun c2 h => ?_) (fun c2 h => ?_)
   ·obtain ⟨x5, hx5, h⟩ := bd h
    obtain ⟨x6, hx6, h⟩ := bd h
    obtain ⟨x7, hx7, h⟩ := bd h
    refine dk hC hmix [.vc [] [26] (V.agg [ms 0 1 1 rI x5.coefs, vI x5.const]) [ar 3 1 1 rI x5.coefs], .vc [] [27] (V.agg [ms 0 1 1 rI x6.coefs, vI x6.const]) [ar 3 1 1 rI x6.coefs], .at 5, .fz 26 [22] [], .at 5, .fz 27 [23] [], .int 0, .rows (List.map rAffine x7)] (fr 19 9) [] [(26, none), (27, none), (21, some (ar 109 2 2 rAffine x7)), (25, sc [vS x1.write.array, ms 21 2 2 rAffine x7, vI x1.value.kind, vI x1.value.num, ms 22 1 1 rI x1.value.index.coefs, vI x1.value.index.const, vS x1.value.read.array, ms 23 1 2 rAffine x1.value.read.subs, ms 24 1 7 rExpr x1.value.kids])] [(26, true), (27, true)] (a5 (c_s_l1Var G hx5) (c_s_l1Zero G n  hx6) (app_map rAffine hx7) (rwM (r := rAffine) 2 rAffine_len x1.write.subs) (rwM (r := rAffine) 2 rAffine_len [x5, x6])) ?_
    exact ⟨(x3.2.b, x3.2.p, x7, x1.value.kids, x1.write.array, x1.value.kind, x1.value.num), (2, 1), h, lS⟩
   ·refine rq hC [] [28, 29] [(28, vB (decide (x3.1 = 2)))] [] [] a0 ?_
    refine vci (b := decide (x3.1 = 2)) h (fun c3 h => ?_) (fun c3 h => ?_)
    ·obtain ⟨x8, hx8, h⟩ := bd h
     refine rk hC [.int 0, .vc [0] [] (vI x8.1) [eL x8.2]] (fr 30 5) [] [(0, sR x8.2), (25, sc [vS x1.write.array, ms 21 1 2 rAffine x1.write.subs, vI x8.1, vI x1.value.num, ms 22 1 1 rI x1.value.index.coefs, vI x1.value.index.const, vS x1.value.read.array, ms 23 1 2 rAffine x1.value.read.subs, ms 24 1 7 rExpr x1.value.kids])] [(0, true)] (a1 (c_s_l16Rd_num G hx8)) ?_
     exact ⟨(x8.2.b, x8.2.p, x1.write.subs, x1.value.kids, x1.write.array, x8.1, x1.value.num), (1, 1), h, lS⟩
    ·refine rq hC [] [35, 36] [(35, vB (decide (x3.1 = 3)))] [] [] a0 ?_
     refine vci (b := decide (x3.1 = 3)) h (fun c4 h => ?_) (fun c4 h => ?_)
     ·obtain ⟨x9, hx9, h⟩ := bd h
      refine rk hC [.int 0, .vc [0] [] (vI x9.1) [eL x9.2]] (fr 37 5) [] [(0, sR x9.2), (25, sc [vS x1.write.array, ms 21 1 2 rAffine x1.write.subs, vI x1.value.kind, vI x9.1, ms 22 1 1 rI x1.value.index.coefs, vI x1.value.index.const, vS x1.value.read.array, ms 23 1 2 rAffine x1.value.read.subs, ms 24 1 7 rExpr x1.value.kids])] [(0, true)] (a1 (c_s_l16Rd_num G hx9)) ?_
      exact ⟨(x9.2.b, x9.2.p, x1.write.subs, x1.value.kids, x1.write.array, x1.value.kind, x9.1), (1, 1), h, lS⟩
     ·refine rq hC [] [42, 43] [(42, vB (decide (x3.1 = 4)))] [] [] a0 ?_
      refine vci (b := decide (x3.1 = 4)) h (fun c5 h => ?_) (fun c5 h => ?_)
      ·obtain ⟨x10, hx10, h⟩ := bd h
       refine rk hC [.int 2, .rows (List.map rExpr [(⟨1, 0, (⟨[], 0⟩ : Affine), (⟨[], []⟩ : Access), []⟩ : Expr)]), .rows (List.map rExpr x10)] (fr 44 8) [] [(24, some (ar 112 2 7 rExpr x10)), (25, sc [vS x1.write.array, ms 21 1 2 rAffine x1.write.subs, vI x1.value.kind, vI x1.value.num, ms 22 1 1 rI x1.value.index.coefs, vI x1.value.index.const, vS x1.value.read.array, ms 23 1 2 rAffine x1.value.read.subs, ms 24 2 7 rExpr x10])] [] (a4 (chExpr1 (⟨1, 0, (⟨[], 0⟩ : Affine), (⟨[], []⟩ : Access), []⟩ : Expr)) (app_map rExpr hx10) (rwM (r := rExpr) 7 rExpr_len x1.value.kids) (rwM (r := rExpr) 7 rExpr_len [(⟨1, 0, (⟨[], 0⟩ : Affine), (⟨[], []⟩ : Access), []⟩ : Expr)])) ?_
       exact ⟨(x3.2.b, x3.2.p, x1.write.subs, x10, x1.write.array, x1.value.kind, x1.value.num), (1, 2), h, lS⟩
      ·refine qk ?_
       exact ⟨(x3.2.b, x3.2.p, x1.write.subs, x1.value.kids, x1.write.array, x1.value.kind, x1.value.num), (1, 1), h, lS⟩
 ·rintro ⟨x11, x12, x13, x14, x15, x16, x17⟩ ⟨g18, g19⟩ h
  subst hj2
  refine rq hC [.at 2, .fz 21 [] [25], .at 2, .fz 22 [] [25], .at 2, .fz 23 [] [25], .at 2, .fz 24 [] [25]] [52] [] [(25, sc [vS x15, vM rAffine x13, vI x16, vI x17, vM rI x1.value.index.coefs, vI x1.value.index.const, vS x1.value.read.array, vM rAffine x1.value.read.subs, vM rExpr x14]), (21, none), (22, none), (23, none), (24, none), (20, sc [vS x15, vM rAffine x13, vI x16, vI x17, vM rI x1.value.index.coefs, vI x1.value.index.const, vS x1.value.read.array, vM rAffine x1.value.read.subs, vM rExpr x14])] [] a0 ?_
  refine qr ?_
  obtain rfl := so h
  exact eW
theorem c_s_l4Mutate {r_a0} {p} {r} (h : s_l4Mutate n r_a0 p = some r) : VCC Tryz.prog G.g 95 [eL r_a0] [V.ref 0 0, V.agg (cProg p)] (V.agg (cProg r.1)) [eL r.2] := by
 unfold s_l4Mutate at h
 refine vmr tyOK Tryz.func95 rfl rfl rfl rfl rfl rfl rfl rfl ?_
 intro w X β0 hC hg
 refine rq hC [.b true, .nat 20] [3, 4] [(3, V.tp (tProg p)), (4, V.ref 20 0)] [(20, sc [V.t T.nilS, V.t T.nilS])] [(20, true)] a0 ?_
 obtain ⟨x1, hx1, h⟩ := bd h
 refine rq hC [.vc [] [21, 22] (V.agg [ms 0 1 2 rArr x1.arrays, ms 1 1 2 rPart x1.parts]) [ar 141 1 2 rArr x1.arrays, E.tree ndT 2 1 (List.map rPart x1.parts) []], .nat 23] [5, 7, 8] [(5, V.ref 23 0)] [(21, some (ar 141 1 2 rArr x1.arrays)), (22, some (E.tree ndT 2 1 (List.map rPart x1.parts) [])), (23, sc [ms 21 1 2 rArr x1.arrays, ms 22 1 2 rPart x1.parts])] [(21, true), (22, true), (23, true)] (a1 (c_s_l4Copy G hx1)) ?_
 refine rq hC [.nat x1.parts.length] [6, 9, 10, 11] [(6, vI (x1.parts.length : Int))] [] [] (a1 (lenM rPart x1.parts)) ?_
 obtain ⟨j2, hj2, h⟩ := jn_e h
 refine vwp_jm (γ := Nat) (j := j2) (r := r) (fun x_ g_ => mkS [(4, V.ref 20 0), (5, V.ref 23 0)] [(0, E.cells [vM rY x_.1, vI x_.2.1]), (20, E.cells [V.t T.nilS, V.t T.nilS]), (21, ar 141 g_ 2 rArr x_.2.2.1), (22, ar 86 1 2 rPart x_.2.2.2), (23, E.cells [ms 21 g_ 2 rArr x_.2.2.1, ms 22 1 2 rPart x_.2.2.2])] [0, 20, 21, 22, 23]) ?_ ?_
 ·
  obtain ⟨x3, hx3, h⟩ := bd h
  refine rq hC [.vc [0] [] (vI x3.1) [eL x3.2]] [12, 13] [(13, vI x3.1)] [(0, sR x3.2)] [(0, true)] (a1 (c_s_l16Rd_pick G hx3)) ?_
  refine qb (rq hC [] [14, 15] [(14, vB (decide (x3.1 = 0)))] [] [] trivial ?_)
  refine vci (b := decide (x3.1 = 0)) h (fun c1 h => ?_) (fun c1 h => ?_)
  ·obtain ⟨x4, hx4, h⟩ := bd h
   obtain ⟨x5, hx5, h⟩ := bd h
   obtain ⟨x6, hx6, h⟩ := bd h
   refine dk hC hmix [.int 0, .vc [0] [] (vS x4.1) [eL x4.2], .int 0, .vc [0] [] (vI x5.1) [eL x5.2], .int 0, .int 0, .rows (List.map rArr x6)] (fr 16 13) [] [(0, sR x5.2), (21, some (ar 141 2 2 rArr x6)), (23, sc [ms 21 2 2 rArr x6, ms 22 1 2 rPart x1.parts])] [(0, true), (0, true)] (a5 (c_s_l16Rd_of G hx4) (c_s_l16Rd_num G hx5) (app_map rArr hx6) (rwM (r := rArr) 2 rArr_len x1.arrays) (rwM (r := rArr) 2 rArr_len [(⟨x4.1, [x5.1]⟩ : Arr)])) ?_
   exact ⟨(x5.2.b, x5.2.p, x6, x1.parts), 2, h, ((lk hC [.shd 22] [] [] [(22, some (ar 86 1 2 rPart x1.parts))] []).trans (lS))⟩
  ·refine rq hC [] [29, 30] [(29, vB (decide (x3.1 = 1)))] [] [] a0 ?_
   refine vci (b := decide (x3.1 = 1)) h (fun c2 h => ?_) (fun c2 h => ?_)
   ·refine rq hC [.nat x1.arrays.length] (fr 31 4) [(34, vB (decide ((0 : Int) < (x1.arrays.length : Int))))] [] [] (a1 (lenM rArr x1.arrays)) ?_
    refine vci (b := decide ((0 : Int) < (x1.arrays.length : Int))) h (fun c3 h => ?_) (fun c3 h => ?_)
    ·obtain ⟨x7, hx7, h⟩ := bd h
     obtain ⟨x8, hx8, h⟩ := bd h
     obtain ⟨x9, hx9, h⟩ := bd h
     refine dk hC hmix [.int 0, .vc [0] [] (vI x7.1) [eL x7.2], .int 0, .row (rArr x8), .rows (List.map rArr x9)] (fr 35 8) [] [(0, sR x7.2), (21, some (ar 141 1 2 rArr x9))] [(0, true)] (a4 (c_s_l16Rd_num G hx7) (ixn rArr hx8) (ixr rArr hx8) (str rArr hx9)) ?_
     exact ⟨(x7.2.b, x7.2.p, x9, x1.parts), 1, h, ((lpP hC [.lenc 23 0 (List.map rArr x9).length] [] [] [(23, sc [ms 21 1 2 rArr x9, ms 22 1 2 rPart x1.parts])] [] (a1 (lenS rArr hx9)) (by kernel_rfl)).trans ((lk hC [.shd 22] [] [] [(22, some (ar 86 1 2 rPart x1.parts))] []).trans (lS)))⟩
    ·refine qk ?_
     exact ⟨(x3.2.b, x3.2.p, x1.arrays, x1.parts), 1, h, ((lk hC [.shd 22] [] [] [(22, some (ar 86 1 2 rPart x1.parts))] []).trans (lS))⟩
   ·refine rq hC [] [43, 44] [(43, vB (decide (x3.1 = 2)))] [] [] a0 ?_
    refine vci (b := decide (x3.1 = 2)) h (fun c4 h => ?_) (fun c4 h => ?_)
    ·refine rq hC [] [45, 46] [(46, vB (decide ((0 : Int) < (x1.parts.length : Int))))] [] [] a0 ?_
     refine vci (b := decide ((0 : Int) < (x1.parts.length : Int))) h (fun c5 h => ?_) (fun c5 h => ?_)
     ·refine qw (lk hC [.shd 22] [] [] [(22, some (ar 86 1 2 rPart x1.parts))] []) ?_
      obtain ⟨x10, hx10, h⟩ := bd h
      obtain ⟨x11, hx11, h⟩ := bd h
      obtain ⟨x12, hx12, h⟩ := bd h
      obtain ⟨x13, hx13, h⟩ := bd h
      obtain ⟨x14, hx14, h⟩ := bd h
      refine dk hC hmix [.row (rPart x10), .vc [0] [24] (ms 1 1 2 rLoop x11.1) [eL x11.2, ar 193 1 2 rLoop x11.1], .at 5, .fz 24 [57] [], .vc [0] [25] (ms 1 1 2 rLoop x12.1) [eL x12.2, ar 193 1 2 rLoop x12.1], .at 4, .fz 25 [58] [], .vc [0] [26] (ms 1 1 2 rLoop x13.1) [eL x13.2, ar 193 1 2 rLoop x13.1], .at 1, .fz 26 [59] [], .row (rPart x10), .rows (List.map rPart x14)] (fr 47 15) [] [(24, none), (0, sR x13.2), (25, none), (26, none), (22, some (ar 86 1 2 rPart x14))] [(0, true), (24, true), (0, true), (25, true), (0, true), (26, true)] (a8 (ixn rPart hx10) (ixr rPart hx10) (c_s_l2Mutate G hx11) (c_s_l2Mutate G hx12) (c_s_l2Mutate G hx13) (ixn rPart hx10) (ixr rPart hx10) (str rPart hx14)) ?_
      exact ⟨(x13.2.b, x13.2.p, x1.arrays, x14), 1, h, ((lpP hC [.lenc 23 1 (List.map rPart x14).length] [] [] [(23, sc [ms 21 1 2 rArr x1.arrays, ms 22 1 2 rPart x14])] [] (a1 (lenS rPart hx14)) (by kernel_rfl)).trans (lS))⟩
     ·refine qk ?_
      exact ⟨(x3.2.b, x3.2.p, x1.arrays, x1.parts), 1, h, ((lk hC [.shd 22] [] [] [(22, some (ar 86 1 2 rPart x1.parts))] []).trans (lS))⟩
    ·refine rq hC [] [62, 63] [(62, vB (decide (x3.1 = 3)))] [] [] a0 ?_
     refine vci (b := decide (x3.1 = 3)) h (fun c6 h => ?_) (fun c6 h => ?_)
     ·obtain ⟨j15, hj15, h⟩ := jn_e h
      refine vwp_jm (γ := Unit) (j := j15) (r := r) (fun x_ _ => mkS [(0, V.ref 0 0), (4, V.ref 20 0), (5, V.ref 23 0), (6, vI (x1.parts.length : Int)), (76, vB x_)] [(0, eL x3.2), (20, E.cells [V.t T.nilS, V.t T.nilS]), (21, ar 141 1 2 rArr x1.arrays), (22, E.tree ndT 2 1 (List.map rPart x1.parts) []), (23, E.cells [ms 21 1 2 rArr x1.arrays, ms 22 1 2 rPart x1.parts])] [0, 20, 21, 22, 23]) ?_ ?_
      ·
       refine splI h (fun c7 h => ?_) (fun c7 h => ?_)
       ·refine rk hC [.b false, .b false, .b false, .b false, .b false, .b false, .b false, .b false, .b false, .b false] (fr 64 13) [(76, vB false)] [] [] (a10 c7 c7 c7 c7 c7 c7 c7 c7 c7 c7) ?_
        exact ⟨false, (), h, lS⟩
       ·obtain ⟨x16, hx16, h⟩ := bd h
        refine qw (lpP hC [.foc 22 24 (0 + Int.toNat (wr ((x1.parts.length : Int) - 1))) 1 (rPart x16), .shd 24] [] [] [(22, some (E.tree ndT 2 1 (List.map rPart x1.parts) [((0 + Int.toNat (wr ((x1.parts.length : Int) - 1))), 1, ms 24 1 9 rStmt x16.body)])), (24, some (ar 114 1 9 rStmt x16.body))] [(24, true)] (a1 (ixr rPart hx16)) (by kernel_rfl)) ?_
        refine rk hC [.b true, .b true, .b true, .b true, .b true, .b true, .b true, .row (rPart x16), .b true, .nat x16.body.length, .b true, .b true] (fr 64 13) [(76, vB (decide ((0 : Int) < (x16.body.length : Int))))] [] [] (an c7 (an c7 (a12 c7 c7 c7 (ixn rPart hx16) c7 c7 (ixr rPart hx16) (Eq.refl (0 + Int.toNat (wr ((x1.parts.length : Int) - 1)))) c7 (lenM rStmt x16.body) c7 c7))) ?_
        exact ⟨decide ((0 : Int) < (x16.body.length : Int)), (), h, ((lpP hC [.tre 24 ndT 3, .unf 22 24 (rPart x16) (List.map rPart x1.parts)] [] [] [(24, none), (22, some (E.tree ndT 2 1 (List.map rPart x1.parts) []))] [] (a4 (Eq.refl (List.map rStmt x16.body).length) (Eq.refl ndT) (ixr rPart hx16) (sameF rPart hx16 rfl)) (by kernel_rfl)).trans (lS))⟩
      ·rintro x17 ⟨⟩ h
       subst hj15
       refine vci (b := x17) h (fun c8 h => ?_) (fun c8 h => ?_)
       ·obtain ⟨x18, hx18, h⟩ := bd h
        refine qw (lpP hC [.foc 22 24 (0 + Int.toNat (wr ((x1.parts.length : Int) - 1))) 1 (rPart x18), .shd 24] [] [] [(22, some (E.tree ndT 2 1 (List.map rPart x1.parts) [((0 + Int.toNat (wr ((x1.parts.length : Int) - 1))), 1, ms 24 1 9 rStmt x18.body)])), (24, some (ar 114 1 9 rStmt x18.body))] [(24, true)] (a1 (ixr rPart hx18)) (by kernel_rfl)) ?_
        obtain ⟨x19, hx19, h⟩ := bd h
        obtain ⟨x20, hx20, h⟩ := bd h
        obtain ⟨x21, hx21, h⟩ := bd h
        obtain ⟨x22, hx22, h⟩ := bd h
        obtain ⟨x23, hx23, h⟩ := bd h
        refine dk hC hmix [.row (rPart x18), .row (rPart x18), .row (rStmt x19), .vc [0] [] (V.agg (cStmt x20.1)) [eL x20.2], .vc [0] [] (V.agg (cStmt x21.1)) [eL x21.2], .vc [0] [] (V.agg (cStmt x22.1)) [eL x22.2], .row (rStmt x19), .rows (List.map rStmt x23)] (fr 77 23) [] [(0, sR x22.2), (24, some (ar 114 1 9 rStmt x23))] [(0, true), (0, true), (0, true)] (an (ixn rPart hx18) (an (ixr rPart hx18) (a12 (Eq.refl (0 + Int.toNat (wr ((x1.parts.length : Int) - 1)))) (ixn rPart hx18) (ixr rPart hx18) (Eq.refl (0 + Int.toNat (wr ((x1.parts.length : Int) - 1)))) (ixn rStmt hx19) (ixr rStmt hx19) (c_s_l3Mutate G hx20) (c_s_l3Mutate G hx21) (c_s_l3Mutate G hx22) (ixn rStmt hx19) (ixr rStmt hx19) (str rStmt hx23)))) ?_
        obtain ⟨x24, hx24, h⟩ := bd h
        exact ⟨(x22.2.b, x22.2.p, x1.arrays, x24), 1, h, ((lpP hC [.tre 24 ndT 3, .unf 22 24 (rPart x18) (List.map rPart x24), .lenc 23 1 (List.map rPart x24).length] [] [] [(24, none), (22, some (E.tree ndT 2 1 (List.map rPart x24) [])), (23, sc [ms 21 1 2 rArr x1.arrays, ms 22 1 2 rPart x24])] [] (a5 (lenS rStmt hx23) (Eq.refl ndT) (ixr rPart hx18) (setF rPart hx24 rfl) (lenS rPart hx24)) (by kernel_rfl)).trans ((lk hC [.shd 22] [] [] [(22, some (ar 86 1 2 rPart x24))] []).trans (lS)))⟩
       ·refine qk ?_
        exact ⟨(x3.2.b, x3.2.p, x1.arrays, x1.parts), 1, h, ((lk hC [.shd 22] [] [] [(22, some (ar 86 1 2 rPart x1.parts))] []).trans (lS))⟩
     ·refine rq hC [] [100, 101] [(100, vB (decide (x3.1 = 4)))] [] [] a0 ?_
      refine vci (b := decide (x3.1 = 4)) h (fun c9 h => ?_) (fun c9 h => ?_)
      ·refine rq hC [] [102, 103] [(103, vB (decide ((0 : Int) < (x1.parts.length : Int))))] [] [] a0 ?_
       refine vci (b := decide ((0 : Int) < (x1.parts.length : Int))) h (fun c10 h => ?_) (fun c10 h => ?_)
       ·refine qw (lk hC [.shd 22] [] [] [(22, some (ar 86 1 2 rPart x1.parts))] []) ?_
        obtain ⟨x25, hx25, h⟩ := bd h
        obtain ⟨x26, hx26, h⟩ := bd h
        refine rk hC [.row (rPart x25), .rows (List.map rPart x26), .lenc 23 1 (List.map rPart x26).length] (fr 104 6) [] [(22, some (ar 86 1 2 rPart x26)), (23, sc [ms 21 1 2 rArr x1.arrays, ms 22 1 2 rPart x26])] [] (a4 (ixn rPart hx25) (ixr rPart hx25) (str rPart hx26) (lenS rPart hx26)) ?_
        exact ⟨(x3.2.b, x3.2.p, x1.arrays, x26), 1, h, lS⟩
       ·refine qk ?_
        exact ⟨(x3.2.b, x3.2.p, x1.arrays, x1.parts), 1, h, ((lk hC [.shd 22] [] [] [(22, some (ar 86 1 2 rPart x1.parts))] []).trans (lS))⟩
      ·refine qk ?_
       exact ⟨(x3.2.b, x3.2.p, x1.arrays, x1.parts), 1, h, ((lk hC [.shd 22] [] [] [(22, some (ar 86 1 2 rPart x1.parts))] []).trans (lS))⟩
 ·rintro ⟨x27, x28, x29, x30⟩ g31 h
  subst hj2
  refine rq hC [.at 2, .fz 21 [] [23], .at 2, .fz 22 [] [23]] [110] [] [(23, sc [vM rArr x29, vM rPart x30]), (21, none), (22, none), (20, sc [vM rArr x29, vM rPart x30])] [] a0 ?_
  refine qr ?_
  obtain rfl := so h
  exact eW
theorem c_w_lnInts {a} {b} {r} (h : w_lnInts n a b = some r) : PCC Tryz.prog G.g 41 [vM rI a, vM rI b] (vB r) := by
 unfold w_lnInts at h
 refine pmr tyOK Tryz.func41 rfl rfl rfl rfl rfl rfl rfl ?_
 intro w X hC
 refine rq hC [] [4] [] [] [] a0 ?_
 refine qs (rq hC [.nat a.length, .nat b.length] (fr 6 5) [(10, vB (!decide ((a.length : Int) = (b.length : Int))))] [] [] (a2 (lenM rI a) (lenM rI b)) ?_)
 refine vci (b := !decide ((a.length : Int) = (b.length : Int))) h (fun c1 h => ?_) (fun c1 h => ?_)
 ·refine rq hC [] [4] [(4, vB false)] [] [] a0 ?_
  refine qr ?_
  obtain rfl := so h
  exact eR
 ·refine qk (qs (rq hC [] [5] [(5, vI 0)] [] [] trivial ?_))
  refine qb (vwp_lm (γ := Unit) h (fun x_ _ => mkS [(0, vM rI a), (1, vM rI b), (5, vI x_)] [] []) () (lS) ?_)
  rintro again2 x1 ⟨⟩ h
  refine qs (rq hC [.nat a.length] (fr 11 4) [(14, vB (decide (x1 < (a.length : Int))))] [] [] (a1 (lenM rI a)) ?_)
  refine vci (b := decide (x1 < (a.length : Int))) h (fun c2 h => ?_) (fun c2 h => ?_)
  ·refine qk (qs (qb (qs ?_)))
   obtain ⟨x3, hx3, h⟩ := bd h
   obtain ⟨x4, hx4, h⟩ := bd h
   refine dk hC hmix [.row (rI x3), .row (rI x4)] (fr 17 9) [(25, vB (!decide (x3 = x4)))] [] [] (a2 (ix_map rI hx3) (ix_map rI hx4)) ?_
   refine vci (b := !decide (x3 = x4)) h (fun c3 h => ?_) (fun c3 h => ?_)
   ·refine rq hC [] [4] [(4, vB false)] [] [] a0 ?_
    refine qr ?_
    obtain rfl := so h
    exact eR
   ·refine qk (rk hC [] [5, 15, 16] [(5, vI (wr (x1 + 1)))] [] [] trivial ?_)
    exact ⟨wr (x1 + 1), (), h, lS⟩
  ·refine qxt (rq hC [] [4] [(4, vB true)] [] [] trivial ?_)
   refine qr ?_
   obtain rfl := so h
   exact eR
theorem c_s_ProgramInstances {p} {r} (h : s_ProgramInstances n p = some r) : VCC Tryz.prog G.g 152 [] [V.agg (cProg p)] (ms 0 1 3 rInst r) [ar 53 1 3 rInst r] := by
 unfold s_ProgramInstances at h
 refine vmr tyOK Tryz.func152 rfl rfl rfl rfl rfl rfl rfl rfl ?_
 intro w X β0 hC hg
 refine rq hC [.b true] [1, 2] [(1, V.tp (tProg p))] [] [] a0 ?_
 refine qs ?_
 obtain ⟨x1, hx1, h⟩ := bd h
 refine rq hC [.v (vB x1)] [3, 4, 5] [(5, vB (!x1))] [] [] (a1 (c_s_ProgramValid G hx1)) ?_
 refine vci (b := !x1) h (fun c1 h => ?_) (fun c1 h => ?_)
 ·refine rq hC [.nat 20] [2, 6] [(2, ms 20 1 3 rInst [])] [(20, some (ar 53 1 3 rInst []))] [(20, true)] a0 ?_
  refine qw (lk hC [.ren 2 20 0] [2] [(2, ms 0 1 3 rInst [])] [(0, some (ar 53 1 3 rInst [])), (20, none)] [(0, true)]) ?_
  refine qr ?_
  obtain rfl := so h
  exact eW
 ·refine qk ?_
  obtain ⟨x2, hx2, h⟩ := bd h
  refine rq hC [.vc [] [20] (ms 0 1 3 rInst x2) [ar 53 1 3 rInst x2]] [2, 7, 8] [(2, ms 20 1 3 rInst x2)] [(20, some (ar 53 1 3 rInst x2))] [(20, true)] (a1 (c_s_l4Instances G hx2)) ?_
  refine qw (lk hC [.ren 2 20 0] [2] [(2, ms 0 1 3 rInst x2)] [(0, some (ar 53 1 3 rInst x2)), (20, none)] [(0, true)]) ?_
  refine qr ?_
  obtain rfl := so h
  exact eW
theorem c_s_l1Place {r_a0} {r} (h : s_l1Place n r_a0 = some r) : VCC Tryz.prog G.g 179 [eL r_a0] [V.ref 0 0] (ms 1 1 1 rI r.1) [eL r.2, ar 3 1 1 rI r.1] := by
 unfold s_l1Place at h
 refine vmr tyOK Tryz.func179 rfl rfl rfl rfl rfl rfl rfl rfl ?_
 intro w X β0 hC hg
 refine rq hC [] [2] [] [] [] a0 ?_
 refine rq hC [.nat 20] [3, 5] [(3, ms 20 1 1 rI [])] [(20, some (ar 3 1 1 rI []))] [(20, true)] a0 ?_
 refine qs ?_
 obtain ⟨x1, hx1, h⟩ := bd h
 refine rq hC [.int 0, .vc [0] [] (vI x1.1) [eL x1.2]] [4, 6, 7, 8] [(4, vI x1.1)] [(0, sR x1.2)] [(0, true)] (a1 (c_s_l16Rd_num G hx1)) ?_
 refine qb (vwp_lm (γ := Nat) h (fun x_ g_ => mkS [(0, V.ref 0 0), (3, ms 20 g_ 1 rI x_.2.2.1), (4, vI x_.2.2.2)] [(0, E.cells [vM rY x_.1, vI x_.2.1]), (20, ar 3 g_ 1 rI x_.2.2.1)] [0, 20]) 1 (lS) ?_)
 rintro again7 ⟨x2, x3, x4, x5⟩ g6 h
 refine qs (rq hC [] [9, 10] [(10, vB (decide ((0 : Int) < x5)))] [] [] trivial ?_)
 refine vci (b := decide ((0 : Int) < x5)) h (fun c1 h => ?_) (fun c1 h => ?_)
 ·refine qk (qs (qb ?_))
  obtain ⟨x8, hx8, h⟩ := bd h
  obtain ⟨x9, hx9, h⟩ := bd h
  refine rk hC [.int 0, .vc [0] [] (vI x8.1) [eL x8.2], .int 0, .rows (List.map rI x9)] [3, 13, 14, 15, 16, 17, 18] [(3, ms 20 (g6 + 1) 1 rI x9)] [(0, sR x8.2), (20, some (ar 3 (g6 + 1) 1 rI x9))] [(0, true)] (a4 (c_s_l16Rd_num G hx8) (app_map rI hx9) (rwM (r := rI) 1 (fun _ => rfl) x4) (rwM (r := rI) 1 (fun _ => rfl) [x8.1])) ?_
  refine rk hC [] [4, 11, 12] [(4, vI (wr (x5 - 1)))] [] [] a0 ?_
  exact ⟨(x8.2.b, x8.2.p, x9, wr (x5 - 1)), (g6 + 1), h, lS⟩
 ·refine qxt ?_
  obtain ⟨j10, hj10, h⟩ := jn_e h
  refine vwp_jm (γ := Nat) (j := j10) (r := r) (fun x_ g_ => mkS [(3, ms 20 g_ 1 rI x_.2.2)] [(0, E.cells [vM rY x_.1, vI x_.2.1]), (20, ar 3 g_ 1 rI x_.2.2)] [0, 20]) ?_ ?_
  ·
   obtain ⟨x11, hx11, h⟩ := bd h
   refine rq hC [.vc [0] [] (vI x11.1) [eL x11.2]] [19, 20, 21] [(21, vB (decide (x11.1 = 0)))] [(0, sR x11.2)] [(0, true)] (a1 (c_s_l16Rd_pick G hx11)) ?_
   refine vci (b := decide (x11.1 = 0)) h (fun c2 h => ?_) (fun c2 h => ?_)
   ·obtain ⟨x12, hx12, h⟩ := bd h
    obtain ⟨x13, hx13, h⟩ := bd h
    refine rk hC [.int 0, .vc [0] [] (vI x12.1) [eL x12.2], .int 0, .rows (List.map rI x13)] [3, 22, 23, 24, 25, 26, 27] [(3, ms 20 (g6 + 1) 1 rI x13)] [(0, sR x12.2), (20, some (ar 3 (g6 + 1) 1 rI x13))] [(0, true)] (a4 (c_s_l16Rd_num G hx12) (app_map rI hx13) (rwM (r := rI) 1 (fun _ => rfl) x4) (rwM (r := rI) 1 (fun _ => rfl) [x12.1, 0])) ?_
    exact ⟨(x12.2.b, x12.2.p, x13), (g6 + 1), h, lS⟩
   ·refine qk ?_
    exact ⟨(x11.2.b, x11.2.p, x4), g6, h, lS⟩
  ·rintro ⟨x14, x15, x16⟩ g17 h
   subst hj10
   refine rq hC [] [2, 28] [(2, ms 20 g17 1 rI x16)] [] [] a0 ?_
   refine qw (lk hC [.ren 2 20 1] [2] [(2, ms 1 1 1 rI x16)] [(1, some (ar 3 1 1 rI x16)), (20, none)] [(1, true)]) ?_
   refine qr ?_
   obtain rfl := so h
   exact eW
theorem c_s_l4One {r_a0} {p} {r} (h : s_l4One n r_a0 p = some r) : VCC Tryz.prog G.g 138 [eL r_a0] [V.ref 0 0, V.agg (cProg p)] (V.agg (cInst r.1)) [eL r.2] := by
 unfold s_l4One at h
 refine vmr tyOK Tryz.func138 rfl rfl rfl rfl rfl rfl rfl rfl ?_
 intro w X β0 hC hg
 refine rq hC [.b true, .nat 20] [3, 4] [(3, V.tp (tProg p)), (4, V.ref 20 0)] [(20, sc [vI 0, vI 0, V.t T.nilS])] [(20, true)] a0 ?_
 obtain ⟨x1, hx1, h⟩ := bd h
 refine rq hC [.vc [] [21] (ms 0 1 3 rInst x1) [ar 53 1 3 rInst x1]] [5, 6, 7] [(5, ms 21 1 3 rInst x1)] [(21, some (ar 53 1 3 rInst x1))] [(21, true)] (a1 (c_s_ProgramInstances G hx1)) ?_
 refine qs ?_
 obtain ⟨j2, hj2, h⟩ := jn_e h
 refine vwp_jm (γ := Unit) (j := j2) (r := r) (fun x_ _ => mkS [(0, V.ref 0 0), (4, V.ref 20 0), (5, ms 21 1 3 rInst x1), (15, vB x_.2.2)] [(0, E.cells [vM rY x_.1, vI x_.2.1]), (20, E.cells [vI 0, vI 0, V.t T.nilS]), (21, ar 53 1 3 rInst x1)] [0, 20, 21]) ?_ ?_
 ·
  refine splI h (fun c1 h => ?_) (fun c1 h => ?_)
  ·refine rk hC [.nat x1.length, .b false, .b false, .b false, .b false] (fr 8 8) [(15, vB false)] [] [] (a5 (lenM rInst x1) c1 c1 c1 c1) ?_
   exact ⟨(r_a0.b, r_a0.p, false), (), h, lS⟩
  ·obtain ⟨x3, hx3, h⟩ := bd h
   refine rk hC [.nat x1.length, .b true, .b true, .vc [0] [] (vI x3.1) [eL x3.2], .b true, .b true] (fr 8 8) [(15, vB (decide ((0 : Int) < x3.1)))] [(0, sR x3.2)] [(0, true)] (a6 (lenM rInst x1) c1 c1 (c_s_l16Rd_pick G hx3) c1 c1) ?_
   exact ⟨(x3.2.b, x3.2.p, decide ((0 : Int) < x3.1)), (), h, lS⟩
 ·rintro ⟨x4, x5, x6⟩ ⟨⟩ h
  subst hj2
  refine vci (b := x6) h (fun c2 h => ?_) (fun c2 h => ?_)
  ·obtain ⟨x7, hx7, h⟩ := bd h
   obtain ⟨x8, hx8, h⟩ := bd h
   refine rq hC [.nat x1.length, .vc [0] [] (vI x7.1) [eL x7.2], .row (rInst x8)] (fr 16 7) [] [(0, sR x7.2), (20, some (E.cells (cInst x8)))] [(0, true)] (a4 (lenM rInst x1) (c_s_l16Rd_pick G hx7) (ixn rInst hx8) (ixr rInst hx8)) ?_
   refine qr ?_
   obtain rfl := so h
   exact eW
  ·refine qk ?_
   obtain ⟨x9, hx9, h⟩ := bd h
   obtain ⟨x10, hx10, h⟩ := bd h
   obtain ⟨x11, hx11, h⟩ := bd h
   refine rq hC [.int 0, .vc [0] [] (vI x9.1) [eL x9.2], .int 0, .vc [0] [] (vI x10.1) [eL x10.2], .vc [0] [22] (ms 1 1 1 rI x11.1) [eL x11.2, ar 3 1 1 rI x11.1]] (fr 23 9) [] [(0, sR x11.2), (22, some (ar 3 1 1 rI x11.1)), (20, sc [vI x9.1, vI x10.1, ms 22 1 1 rI x11.1])] [(0, true), (0, true), (0, true), (22, true)] (a3 (c_s_l16Rd_num G hx9) (c_s_l16Rd_num G hx10) (c_s_l1Place G hx11)) ?_
   refine qw (lk hC [.fz 22 [] [20]] [] [] [(20, sc [vI x9.1, vI x10.1, vM rI x11.1]), (22, none)] []) ?_
   refine qr ?_
   obtain rfl := so h
   exact eW
theorem c_s_DrawInstanceValue {code} {r} (h : s_DrawInstanceValue n code = some r) : VCC Tryz.prog G.g 90 [] [vM rY code] (V.tup [V.agg (cProg r.1), ms 0 1 1 rI r.2.1, V.agg (cInst r.2.2)]) [ar 3 1 1 rI r.2.1] := by
 unfold s_DrawInstanceValue at h
 refine vmr tyOK Tryz.func90 rfl rfl rfl rfl rfl rfl rfl rfl ?_
 intro w X β0 hC hg
 refine rq hC [.nat 20, .nat 21] [2, 3, 4] [(2, V.ref 20 0), (4, V.ref 21 0)] [(20, sc [V.t T.nilS, V.t T.nilS]), (21, sc [vI 0, vI 0, V.t T.nilS])] [(20, true), (21, true)] a0 ?_
 obtain ⟨x1, hx1, h⟩ := bd h
 refine rq hC [.vc [] [22] (V.ref 0 0) [eL x1]] [5, 8, 9] [(5, V.ref 22 0)] [(22, sR x1)] [(22, true)] (a1 (c_s_l16Open G hx1)) ?_
 obtain ⟨x2, hx2, h⟩ := bd h
 obtain ⟨x3, hx3, h⟩ := bd h
 refine rq hC [.vc [22] [] (V.agg (cProg x2.1)) [eL x2.2], .vc [22] [] (V.agg (cProg x3.1)) [eL x3.2], .nat 23] [6, 10, 11, 12, 13] [(6, V.ref 23 0)] [(22, sR x3.2), (23, some (E.cells (cProg x3.1)))] [(22, true), (22, true), (23, true)] (a2 (c_s_l4Draw G hx2) (c_s_l4Mutate G hx3)) ?_
 obtain ⟨x4, hx4, h⟩ := bd h
 obtain ⟨x5, hx5, h⟩ := bd h
 refine rq hC [.vc [22] [24] (ms 1 1 1 rI x4.1) [eL x4.2, ar 3 1 1 rI x4.1], .at 2, .fz 24 [17] [], .vc [22] [25] (ms 1 1 1 rI x5.1) [eL x5.2, ar 3 1 1 rI x5.1]] [7, 14, 15, 16, 17, 18] [(7, ms 25 1 1 rI x5.1)] [(24, none), (22, sR x5.2), (25, some (ar 3 1 1 rI x5.1))] [(22, true), (24, true), (22, true), (25, true)] (a2 (c_s_l5Memory G hx4) (c_s_l5Bend G hx5)) ?_
 refine qs ?_
 obtain ⟨x6, hx6, h⟩ := bd h
 refine dk hC hmix [.vc [22] [] (V.agg (cInst x6.1)) [eL x6.2]] [3, 19, 20, 21, 22, 23] [(3, ms 25 1 1 rI x5.1)] [(22, sR x6.2), (20, some (E.cells (cProg x3.1))), (21, some (E.cells (cInst x6.1)))] [(22, true)] (a1 (c_s_l4One G hx6)) ?_
 refine qw (lk hC [.ren 3 25 0] [3] [(3, ms 0 1 1 rI x5.1)] [(0, some (ar 3 1 1 rI x5.1)), (25, none)] [(0, true)]) ?_
 refine qr ?_
 obtain rfl := so h
 exact eW
theorem c_s_DrawRunInstance {code} {r} (h : s_DrawRunInstance n code = some r) : VCC Tryz.prog G.g 49 [] [vM rY code] (V.tup [V.agg (cProg r.1), ms 0 1 1 rI r.2.1, V.agg (cInst r.2.2)]) [ar 3 1 1 rI r.2.1] := by
 unfold s_DrawRunInstance at h
 refine vmr tyOK Tryz.func49 rfl rfl rfl rfl rfl rfl rfl rfl ?_
 intro w X β0 hC hg
 refine rq hC [.nat 20, .nat 21] [2, 3, 4] [(2, V.ref 20 0), (4, V.ref 21 0)] [(20, sc [V.t T.nilS, V.t T.nilS]), (21, sc [vI 0, vI 0, V.t T.nilS])] [(20, true), (21, true)] a0 ?_
 obtain ⟨x1, hx1, h⟩ := bd h
 refine rq hC [.vc [] [22] (V.tup [V.agg (cProg x1.1), ms 0 1 1 rI x1.2.1, V.agg (cInst x1.2.2)]) [ar 3 1 1 rI x1.2.1]] [3, 5, 6, 7, 8, 9] [(3, ms 22 1 1 rI x1.2.1)] [(22, some (ar 3 1 1 rI x1.2.1)), (20, some (E.cells (cProg x1.1))), (21, some (E.cells (cInst x1.2.2)))] [(22, true)] (a1 (c_s_DrawInstanceValue G hx1)) ?_
 refine qw (lk hC [.ren 3 22 0] [3] [(3, ms 0 1 1 rI x1.2.1)] [(0, some (ar 3 1 1 rI x1.2.1)), (22, none)] [(0, true)]) ?_
 refine qr ?_
 obtain rfl := so h
 exact eW
theorem c_i_InstanceValue {p} {m} {x} {r} (h : i_InstanceValue n p m x = some r) : PCC Tryz.prog G.g 50 [V.agg (cProg p), vM rI m, V.agg (cInst x)] (V.tup [vI r.1, vB r.2]) := by
 unfold i_InstanceValue at h
 refine pmr tyOK Tryz.func50 rfl rfl rfl rfl rfl rfl rfl ?_
 intro w X hC
 refine rq hC [.b true, .b true] [3, 5, 6, 7] [(3, V.tp (tProg p)), (5, V.tp (tInst x))] [] [] a0 ?_
 refine qs ?_
 obtain ⟨j1, hj1, h⟩ := jn_e h
 refine vwp_jm (γ := Unit) (j := j1) (r := r) (fun x_ _ => mkS [(1, vM rI m), (3, V.tp (tProg p)), (5, V.tp (tInst x)), (17, vB x_)] [] []) ?_ ?_
 ·
  obtain ⟨x2, hx2, h⟩ := bd h
  refine splI h (fun c1 h => ?_) (fun c1 h => ?_)
  ·obtain ⟨x3, hx3, h⟩ := bd h
   refine rk hC [.v (vB x2), .b false, .b false, .b false, .v (vB x3), .b false, .b false] (fr 8 10) [(17, vB (!x3))] [] [] (a7 (c_i_MemoryValid G hx2) c1 c1 c1 (c_i_Program_isInstance G hx3) c1 c1) ?_
   exact ⟨!x3, (), h, lS⟩
  ·refine rk hC [.v (vB x2), .b true, .b true, .b true, .b true, .b true] (fr 8 10) [(17, vB true)] [] [] (a6 (c_i_MemoryValid G hx2) c1 c1 c1 c1 c1) ?_
   exact ⟨true, (), h, lS⟩
 ·rintro x4 ⟨⟩ h
  subst hj1
  refine vci (b := x4) h (fun c2 h => ?_) (fun c2 h => ?_)
  ·refine rq hC [] [6, 7] [(6, vI 0), (7, vB false)] [] [] a0 ?_
   refine qr ?_
   obtain rfl := so h
   exact eR
  ·refine qk (qs ?_)
   obtain ⟨x5, hx5, h⟩ := bd h
   obtain ⟨x6, hx6, h⟩ := bd h
   refine dk hC hmix [.v (V.agg (cStmt x5)), .v (vI x6)] [6, 7, 18, 19, 20, 21, 22, 23, 24, 25, 26] [(6, vI x6), (7, vB true)] [] [] (a2 (c_i_Program_stmt G hx5) (c_i_Program_value G n p m x5.value x.point hx6)) ?_
   refine qr ?_
   obtain rfl := so h
   exact eR
theorem c_s_InstanceValue {p} {m} {x} {r} (h : s_InstanceValue n p m x = some r) : PCC Tryz.prog G.g 51 [V.agg (cProg p), vM rI m, V.agg (cInst x)] (V.tup [vI r.1, vB r.2]) := by
 unfold s_InstanceValue at h
 refine pmr tyOK Tryz.func51 rfl rfl rfl rfl rfl rfl rfl ?_
 intro w X hC
 refine rq hC [.b true, .b true] [3, 5, 6, 7] [(3, V.tp (tProg p)), (5, V.tp (tInst x))] [] [] a0 ?_
 refine qs ?_
 obtain ⟨j1, hj1, h⟩ := jn_e h
 refine vwp_jm (γ := Unit) (j := j1) (r := r) (fun x_ _ => mkS [(1, vM rI m), (3, V.tp (tProg p)), (5, V.tp (tInst x)), (17, vB x_)] [] []) ?_ ?_
 ·
  obtain ⟨x2, hx2, h⟩ := bd h
  refine splI h (fun c1 h => ?_) (fun c1 h => ?_)
  ·obtain ⟨x3, hx3, h⟩ := bd h
   refine rk hC [.v (vB x2), .b false, .b false, .b false, .v (vB x3), .b false, .b false] (fr 8 10) [(17, vB (!x3))] [] [] (a7 (c_s_MemoryValid G hx2) c1 c1 c1 (c_s_l4In G hx3) c1 c1) ?_
   exact ⟨!x3, (), h, lS⟩
  ·refine rk hC [.v (vB x2), .b true, .b true, .b true, .b true, .b true] (fr 8 10) [(17, vB true)] [] [] (a6 (c_s_MemoryValid G hx2) c1 c1 c1 c1 c1) ?_
   exact ⟨true, (), h, lS⟩
 ·rintro x4 ⟨⟩ h
  subst hj1
  refine vci (b := x4) h (fun c2 h => ?_) (fun c2 h => ?_)
  ·refine rq hC [] [6, 7] [(6, vI 0), (7, vB false)] [] [] a0 ?_
   refine qr ?_
   obtain rfl := so h
   exact eR
  ·refine qk (qs ?_)
   obtain ⟨x5, hx5, h⟩ := bd h
   obtain ⟨x6, hx6, h⟩ := bd h
   obtain ⟨x7, hx7, h⟩ := bd h
   refine dk hC hmix [.row (rPart x5), .row (rStmt x6), .v (vI x7)] [6, 7, 18, 19, 20, 21, 22, 23, 24, 25, 26, 27, 28, 29, 30, 31, 32, 33, 34, 35] [(6, vI x7), (7, vB true)] [] [] (a3 (ix_map rPart hx5) (ix_map rStmt hx6) (c_s_l5Eval G n p.arrays m x6.value x.point hx7)) ?_
   refine qr ?_
   obtain rfl := so h
   exact eR
theorem c_i_InstanceCells {p} {x} {r} (h : i_InstanceCells n p x = some r) : VCC Tryz.prog G.g 52 [] [V.agg (cProg p), V.agg (cInst x)] (V.tup [ms 0 1 1 rI r.1, vI r.2.1, vB r.2.2]) [ar 3 1 1 rI r.1] := by
 unfold i_InstanceCells at h
 refine vmr tyOK Tryz.func52 rfl rfl rfl rfl rfl rfl rfl rfl ?_
 intro w X β0 hC hg
 refine rq hC [.b true, .b true] (fr 2 5) [(2, V.tp (tProg p)), (3, V.tp (tInst x))] [] [] a0 ?_
 refine qs ?_
 obtain ⟨j1, hj1, h⟩ := jn_e h
 refine vwp_jm (γ := Unit) (j := j1) (r := r) (fun x_ _ => mkS [(2, V.tp (tProg p)), (3, V.tp (tInst x)), (17, vB x_)] [] []) ?_ ?_
 ·
  obtain ⟨x2, hx2, h⟩ := bd h
  refine splI h (fun c1 h => ?_) (fun c1 h => ?_)
  ·obtain ⟨x3, hx3, h⟩ := bd h
   refine rk hC [.v (vB x2), .b false, .b false, .b false, .v (vB x3), .b false, .b false] (fr 9 9) [(17, vB (!x3))] [] [] (a7 (c_i_ProgramValid G hx2) c1 c1 c1 (c_i_Program_isInstance G hx3) c1 c1) ?_
   exact ⟨!x3, (), h, lS⟩
  ·refine rk hC [.v (vB x2), .b true, .b true, .b true, .b true, .b true] (fr 9 9) [(17, vB true)] [] [] (a6 (c_i_ProgramValid G hx2) c1 c1 c1 c1 c1) ?_
   exact ⟨true, (), h, lS⟩
 ·rintro x4 ⟨⟩ h
  subst hj1
  refine vci (b := x4) h (fun c2 h => ?_) (fun c2 h => ?_)
  ·refine rq hC [] [4, 5, 6] [(4, V.t T.nilS), (5, vI 0), (6, vB false)] [] [] a0 ?_
   refine qw (lk hC [.grow 4 0 3] [4] [(4, ms 0 1 1 rI [])] [(0, some (ar 3 1 1 rI []))] [(0, true)]) ?_
   refine qr ?_
   obtain rfl := so h
   exact eW
  ·refine qk ?_
   obtain ⟨x5, hx5, h⟩ := bd h
   refine rq hC [.vc [] [20] (V.tup [ms 0 1 1 rI x5.1, vI x5.2]) [ar 3 1 1 rI x5.1]] [7, 8, 18, 19, 20, 21, 22, 23] [(7, ms 20 1 1 rI x5.1), (8, vI x5.2)] [(20, some (ar 3 1 1 rI x5.1))] [(20, true)] (a1 (c_i_Program_touched G hx5)) ?_
   refine rq hC [] [4, 5, 6, 24, 25] [(4, ms 20 1 1 rI x5.1), (5, vI x5.2), (6, vB true)] [] [] a0 ?_
   refine qw (lk hC [.ren 4 20 0] [4] [(4, ms 0 1 1 rI x5.1)] [(0, some (ar 3 1 1 rI x5.1)), (20, none)] [(0, true)]) ?_
   refine qr ?_
   obtain rfl := so h
   exact eW
theorem c_w_FnRunInstance (G : GS) (n : Nat) (code : List UInt8) {r : Bool} (h : w_FnRunInstance n code = some r) : PCC Tryz.prog G.g 13 [vM rY code] (vB r) := by
 unfold w_FnRunInstance at h
 refine pmr tyOK Tryz.func13 rfl rfl rfl rfl rfl rfl rfl ?_
 intro w X hC
 refine rq hC [] [2] [] [] [] a0 ?_
 refine qs (rq hC [.nat code.length] [18, 19, 20] [(20, vB (decide ((1048576 : Int) < (code.length : Int))))] [] [] (a1 (lenM rY code)) ?_)
 refine vci (b := decide ((1048576 : Int) < (code.length : Int))) h (fun c1 h => ?_) (fun c1 h => ?_)
 ·refine rq hC [] [2] [(2, vB true)] [] [] a0 ?_
  refine qr ?_
  obtain rfl := so h
  exact eR
 ·refine qk ?_
  obtain ⟨x1, hx1, h⟩ := bd h
  refine rq hC [.vc [] [20] (V.tup [V.agg (cProg x1.1), ms 0 1 1 rI x1.2.1, V.agg (cInst x1.2.2)]) [ar 3 1 1 rI x1.2.1], .nat 21, .nat 22] [3, 4, 5, 21, 22, 23, 24, 25, 26] [(3, V.ref 21 0), (4, ms 20 1 1 rI x1.2.1), (5, V.ref 22 0)] [(20, some (ar 3 1 1 rI x1.2.1)), (21, some (E.cells (cProg x1.1))), (22, some (E.cells (cInst x1.2.2)))] [(20, true), (21, true), (22, true)] (a1 (c_s_DrawRunInstance G hx1)) ?_
  obtain ⟨x2, hx2, h⟩ := bd h
  refine rq hC [.at 6, .fz 20 [4, 29] [], .vc [] [23] (V.tup [ms 0 1 1 rI x2.1, vB x2.2]) [ar 3 1 1 rI x2.1]] [4, 6, 7, 27, 28, 29, 30, 31, 32, 33] [(4, vM rI x1.2.1), (6, ms 23 1 1 rI x2.1), (7, vB x2.2)] [(20, none), (23, some (ar 3 1 1 rI x2.1))] [(23, true)] (a1 (c_i_RunInstance G hx2)) ?_
  obtain ⟨x3, hx3, h⟩ := bd h
  refine rq hC [.vc [] [24] (V.tup [ms 0 1 1 rI x3.1, vB x3.2]) [ar 3 1 1 rI x3.1]] [8, 9, 34, 35, 36, 37, 38, 39, 40] [(8, ms 24 1 1 rI x3.1), (9, vB x3.2)] [(24, some (ar 3 1 1 rI x3.1))] [(24, true)] (a1 (c_s_RunInstance G hx3)) ?_
  obtain ⟨x4, hx4, h⟩ := bd h
  refine rq hC [.v (V.tup [vI x4.1, vB x4.2])] [10, 11, 41, 42, 43, 44, 45, 46, 47] [(10, vI x4.1), (11, vB x4.2)] [] [] (a1 (c_i_InstanceValue G hx4)) ?_
  obtain ⟨x5, hx5, h⟩ := bd h
  refine rq hC [.v (V.tup [vI x5.1, vB x5.2])] [12, 13, 48, 49, 50, 51, 52, 53, 54] [(12, vI x5.1), (13, vB x5.2)] [] [] (a1 (c_s_InstanceValue G hx5)) ?_
  refine qs ?_
  obtain ⟨j6, hj6, h⟩ := jn_e h
  refine vwp_jm (γ := Unit) (j := j6) (r := r) (fun x_ _ => mkS [(3, V.ref 21 0), (4, vM rI x1.2.1), (5, V.ref 22 0), (6, ms 23 1 1 rI x2.1), (7, vB x2.2), (8, ms 24 1 1 rI x3.1), (9, vB x3.2), (10, vI x4.1), (11, vB x4.2), (12, vI x5.1), (13, vB x5.2), (82, vB x_)] [(21, E.cells (cProg x1.1)), (22, E.cells (cInst x1.2.2)), (23, ar 3 1 1 rI x2.1), (24, ar 3 1 1 rI x3.1)] [20, 21, 22, 23, 24]) ?_ ?_
  ·
   refine splI h (fun c2 h => ?_) (fun c2 h => ?_)
   ·obtain ⟨x7, hx7, h⟩ := bd h
    refine splI h (fun c3 h => ?_) (fun c3 h => ?_)
    ·refine splI h (fun c4 h => ?_) (fun c4 h => ?_)
     ·refine splI h (fun c5 h => ?_) (fun c5 h => ?_)
      ·refine splI h (fun c6 h => ?_) (fun c6 h => ?_)
       ·refine rk hC [.b false, .b false, .b false, .b true, .v (vB x7), .b false, .b false, .b false, .b false, .b false, .b false, .b false, .b false, .b false, .b false, .b false, .b false, .b false, .b false, .b false, .b false, .b false] (fr 55 28) [(82, vB (!x2.2))] [] [] (an c2 (an c2 (an c2 (an (c_w_lnInts G hx7) (an c2 (an c2 (an c3 (an c3 (an c3 (a12 c3 c4 c4 c4 c4 c5 c5 c5 c5 c6 c6 c6)))))))))) ?_
        exact ⟨!x2.2, (), h, lS⟩
       ·refine rk hC [.b false, .b false, .b false, .b true, .v (vB x7), .b false, .b false, .b false, .b false, .b false, .b false, .b false, .b false, .b false, .b false, .b false, .b false, .b false, .b false, .b true, .b true, .b true] (fr 55 28) [(82, vB true)] [] [] (an c2 (an c2 (an c2 (an (c_w_lnInts G hx7) (an c2 (an c2 (an c3 (an c3 (an c3 (a12 c3 c4 c4 c4 c4 c5 c5 c5 c5 c6 c6 c6)))))))))) ?_
        exact ⟨true, (), h, lS⟩
      ·refine rk hC [.b false, .b false, .b false, .b true, .v (vB x7), .b false, .b false, .b false, .b false, .b false, .b false, .b false, .b false, .b false, .b false, .b true, .b true, .b true, .b true, .b true, .b true, .b true] (fr 55 28) [(82, vB true)] [] [] (an c2 (an c2 (an c2 (an (c_w_lnInts G hx7) (an c2 (an c2 (an c3 (an c3 (an c3 (a12 c3 c4 c4 c4 c4 c5 c5 c5 c5 (Eq.refl true) (Eq.refl true) (Eq.refl true))))))))))) ?_
       exact ⟨true, (), h, lS⟩
     ·refine rk hC [.b false, .b false, .b false, .b true, .v (vB x7), .b false, .b false, .b false, .b false, .b false, .b false, .b true, .b true, .b true, .b true, .b true, .b true, .b true, .b true, .b true, .b true, .b true] (fr 55 28) [(82, vB true)] [] [] (an c2 (an c2 (an c2 (an (c_w_lnInts G hx7) (an c2 (an c2 (an c3 (an c3 (an c3 (a12 c3 c4 c4 c4 c4 (Eq.refl true) (Eq.refl true) (Eq.refl true) (Eq.refl true) (Eq.refl true) (Eq.refl true) (Eq.refl true))))))))))) ?_
      exact ⟨true, (), h, lS⟩
    ·refine rk hC [.b false, .b false, .b false, .b true, .v (vB x7), .b false, .b false, .b true, .b true, .b true, .b true, .b true, .b true, .b true, .b true, .b true, .b true, .b true, .b true, .b true, .b true, .b true] (fr 55 28) [(82, vB true)] [] [] (an c2 (an c2 (an c2 (an (c_w_lnInts G hx7) (an c2 (an c2 (an c3 (an c3 (an c3 (a12 c3 (Eq.refl true) (Eq.refl true) (Eq.refl true) (Eq.refl true) (Eq.refl true) (Eq.refl true) (Eq.refl true) (Eq.refl true) (Eq.refl true) (Eq.refl true) (Eq.refl true))))))))))) ?_
     exact ⟨true, (), h, lS⟩
   ·refine rk hC [.b true, .b true, .b true, .b true, .b true, .b true, .b true, .b true, .b true, .b true, .b true, .b true, .b true, .b true, .b true, .b true, .b true, .b true, .b true, .b true] (fr 55 28) [(82, vB true)] [] [] (an c2 (an c2 (an c2 (an c2 (an c2 (an (Eq.refl true) (an (Eq.refl true) (an (Eq.refl true) (a12 (Eq.refl true) (Eq.refl true) (Eq.refl true) (Eq.refl true) (Eq.refl true) (Eq.refl true) (Eq.refl true) (Eq.refl true) (Eq.refl true) (Eq.refl true) (Eq.refl true) (Eq.refl true)))))))))) ?_
    exact ⟨true, (), h, lS⟩
  ·rintro x8 ⟨⟩ h
   subst hj6
   refine vci (b := x8) h (fun c7 h => ?_) (fun c7 h => ?_)
   ·obtain ⟨j9, hj9, h⟩ := jn_e h
    refine vwp_jm (γ := Unit) (j := j9) (r := r) (fun x_ _ => mkS [(2, vB x_)] [(21, E.cells (cProg x1.1)), (22, E.cells (cInst x1.2.2)), (23, ar 3 1 1 rI x2.1), (24, ar 3 1 1 rI x3.1)] [20, 21, 22, 23, 24]) ?_ ?_
    ·
     refine splI h (fun c8 h => ?_) (fun c8 h => ?_)
     ·refine rk hC [.b false, .b false, .b false, .b false, .b false, .b false, .b false, .b false, .b false, .b false, .b false, .b false, .b false, .b false, .b false, .b false] [2, 83, 84, 85, 86, 87, 88, 89, 90, 91, 92, 93, 94, 95, 96, 97, 98, 99, 100, 101, 102, 103, 104, 105] [(2, vB false)] [] [] (an c8 (an c8 (an c8 (an c8 (a12 (Eq.refl false) (Eq.refl false) (Eq.refl false) (Eq.refl false) (Eq.refl false) (Eq.refl false) (Eq.refl false) (Eq.refl false) (Eq.refl false) (Eq.refl false) (Eq.refl false) (Eq.refl false)))))) ?_
      exact ⟨false, (), h, lS⟩
     ·obtain ⟨x10, hx10, h⟩ := bd h
      refine splI h (fun c9 h => ?_) (fun c9 h => ?_)
      ·refine rk hC [.b true, .b true, .b true, .b true, .v (vB x10), .b true, .b false, .b false, .b false, .b false, .b false, .b false, .b false, .b false, .b false, .b false, .b false, .b false] [2, 83, 84, 85, 86, 87, 88, 89, 90, 91, 92, 93, 94, 95, 96, 97, 98, 99, 100, 101, 102, 103, 104, 105] [(2, vB false)] [] [] (an c8 (an c8 (an c8 (an (c_w_lnInts G hx10) (an c8 (a12 c9 c9 c9 c9 (Eq.refl false) (Eq.refl false) (Eq.refl false) (Eq.refl false) (Eq.refl false) (Eq.refl false) (Eq.refl false) (Eq.refl false))))))) ?_
       exact ⟨false, (), h, lS⟩
      ·refine splI h (fun c10 h => ?_) (fun c10 h => ?_)
       ·refine rk hC [.b true, .b true, .b true, .b true, .v (vB x10), .b true, .b true, .b true, .b true, .b true, .b false, .b false, .b false, .b false, .b false, .b false, .b false, .b false] [2, 83, 84, 85, 86, 87, 88, 89, 90, 91, 92, 93, 94, 95, 96, 97, 98, 99, 100, 101, 102, 103, 104, 105] [(2, vB false)] [] [] (an c8 (an c8 (an c8 (an (c_w_lnInts G hx10) (an c8 (a12 c9 c9 c9 c9 c10 c10 c10 c10 (Eq.refl false) (Eq.refl false) (Eq.refl false) (Eq.refl false))))))) ?_
        exact ⟨false, (), h, lS⟩
       ·refine splI h (fun c11 h => ?_) (fun c11 h => ?_)
        ·refine rk hC [.b true, .b true, .b true, .b true, .v (vB x10), .b true, .b true, .b true, .b true, .b true, .b true, .b true, .b true, .b true, .b false, .b false, .b false, .b false] [2, 83, 84, 85, 86, 87, 88, 89, 90, 91, 92, 93, 94, 95, 96, 97, 98, 99, 100, 101, 102, 103, 104, 105] [(2, vB false)] [] [] (an c8 (an c8 (an c8 (an (c_w_lnInts G hx10) (an c8 (a12 c9 c9 c9 c9 c10 c10 c10 c10 c11 c11 c11 c11)))))) ?_
         exact ⟨false, (), h, lS⟩
        ·refine rk hC [.b true, .b true, .b true, .b true, .v (vB x10), .b true, .b true, .b true, .b true, .b true, .b true, .b true, .b true, .b true, .b true, .b true, .b true, .b true] [2, 83, 84, 85, 86, 87, 88, 89, 90, 91, 92, 93, 94, 95, 96, 97, 98, 99, 100, 101, 102, 103, 104, 105] [(2, vB (x2.2 == x4.2))] [] [] (an c8 (an c8 (an c8 (an (c_w_lnInts G hx10) (an c8 (a12 c9 c9 c9 c9 c10 c10 c10 c10 c11 c11 c11 c11)))))) ?_
         exact ⟨(x2.2 == x4.2), (), h, lS⟩
    ·rintro x11 ⟨⟩ h
     subst hj9
     refine qr ?_
     obtain rfl := so h
     exact eR
   ·refine qk ?_
    obtain ⟨x12, hx12, h⟩ := bd h
    refine rq hC [.vc [] [25] (V.tup [ms 0 1 1 rI x12.1, vI x12.2.1, vB x12.2.2]) [ar 3 1 1 rI x12.1]] [14, 15, 16, 106, 107, 108, 109, 110, 111, 112] [(15, vI x12.2.1), (16, vB x12.2.2)] [(25, some (ar 3 1 1 rI x12.1))] [(25, true)] (a1 (c_i_InstanceCells G hx12)) ?_
    refine qs (rq hC [] [17] [(17, vI 0)] [] [] trivial ?_)
    refine qb (vwp_lm (γ := Unit) h (fun x_ _ => mkS [(4, vM rI x1.2.1), (6, ms 23 1 1 rI x2.1), (10, vI x4.1), (15, vI x12.2.1), (16, vB x12.2.2), (17, vI x_)] [(21, E.cells (cProg x1.1)), (22, E.cells (cInst x1.2.2)), (23, ar 3 1 1 rI x2.1), (24, ar 3 1 1 rI x3.1), (25, ar 3 1 1 rI x12.1)] [20, 21, 22, 23, 24, 25]) () (lS) ?_)
    rintro again14 x13 ⟨⟩ h
    refine qs (rq hC [.nat x1.2.1.length] (fr 113 4) [(116, vB (decide (x13 < (x1.2.1.length : Int))))] [] [] (a1 (lenM rI x1.2.1)) ?_)
    refine vci (b := decide (x13 < (x1.2.1.length : Int))) h (fun c12 h => ?_) (fun c12 h => ?_)
    ·refine qk (qs (qb ?_))
     obtain ⟨j15, hj15, h⟩ := jn_e h
     refine vwp_jm (γ := Unit) (j := j15) (r := r) (fun x_ _ => mkS [(4, vM rI x1.2.1), (6, ms 23 1 1 rI x2.1), (10, vI x4.1), (15, vI x12.2.1), (16, vB x12.2.2), (17, vI x13), (132, vB x_)] [(21, E.cells (cProg x1.1)), (22, E.cells (cInst x1.2.2)), (23, ar 3 1 1 rI x2.1), (24, ar 3 1 1 rI x3.1), (25, ar 3 1 1 rI x12.1)] [20, 21, 22, 23, 24, 25]) ?_ ?_
     ·
      refine splI h (fun c13 h => ?_) (fun c13 h => ?_)
      ·refine dk hC hmix [.b false, .b false, .b false, .b false, .b false, .b false, .b false, .b false, .b false, .b false] (fr 119 14) [(132, vB false)] [] [] (a10 c13 c13 c13 c13 c13 c13 c13 c13 c13 c13) ?_
       exact ⟨false, (), h, lS⟩
      ·obtain ⟨x16, hx16, h⟩ := bd h
       obtain ⟨x17, hx17, h⟩ := bd h
       refine dk hC hmix [.b true, .b true, .b true, .b true, .row (rI x16), .b true, .b true, .b true, .row (rI x17), .b true, .b true, .b true] (fr 119 14) [(132, vB (!decide (x16 = x17)))] [] [] (an c13 (a12 c13 c13 (ixn rI hx16) c13 (ixr rI hx16) c13 c13 c13 (ix_map rI hx17) c13 c13 c13)) ?_
       exact ⟨!decide (x16 = x17), (), h, lS⟩
     ·rintro x18 ⟨⟩ h
      subst hj15
      refine vci (b := x18) h (fun c14 h => ?_) (fun c14 h => ?_)
      ·refine rq hC [] [2] [(2, vB false)] [] [] a0 ?_
       refine qr ?_
       obtain rfl := so h
       exact eR
      ·refine qk (rk hC [] [17, 117, 118] [(17, vI (wr (x13 + 1)))] [] [] trivial ?_)
       exact ⟨wr (x13 + 1), (), h, lS⟩
    ·refine qxt ?_
     obtain ⟨j19, hj19, h⟩ := jn_e h
     refine vwp_jm (γ := Unit) (j := j19) (r := r) (fun x_ _ => mkS [(2, vB x_)] [(21, E.cells (cProg x1.1)), (22, E.cells (cInst x1.2.2)), (23, ar 3 1 1 rI x2.1), (24, ar 3 1 1 rI x3.1), (25, ar 3 1 1 rI x12.1)] [20, 21, 22, 23, 24, 25]) ?_ ?_
     ·
      refine splI h (fun c15 h => ?_) (fun c15 h => ?_)
      ·refine rk hC [.b false, .b false, .b false, .b false, .b false, .b false, .b false, .b false, .b false, .b false, .b false, .b false, .b false] [2, 133, 134, 135, 136, 137, 138, 139, 140, 141, 142, 143, 144, 145, 146, 147, 148, 149] [(2, vB false)] [] [] (an c15 (a12 c15 c15 c15 c15 c15 c15 (Eq.refl false) (Eq.refl false) (Eq.refl false) (Eq.refl false) (Eq.refl false) (Eq.refl false))) ?_
       exact ⟨false, (), h, lS⟩
      ·obtain ⟨x20, hx20, h⟩ := bd h
       refine splI h (fun c16 h => ?_) (fun c16 h => ?_)
       ·refine rk hC [.b true, .b true, .b true, .b true, .row (rI x20), .b true, .b true, .b true, .b false, .b false, .b false, .b false, .b false, .b false] [2, 133, 134, 135, 136, 137, 138, 139, 140, 141, 142, 143, 144, 145, 146, 147, 148, 149] [(2, vB false)] [] [] (an c15 (an c15 (an c15 (a12 (ixn rI hx20) c15 (ixr rI hx20) c15 c15 c15 c16 c16 c16 (Eq.refl false) (Eq.refl false) (Eq.refl false))))) ?_
        exact ⟨false, (), h, lS⟩
       ·refine splI h (fun c17 h => ?_) (fun c17 h => ?_)
        ·refine rk hC [.b true, .b true, .b true, .b true, .row (rI x20), .b true, .b true, .b true, .b true, .b true, .b true, .b false, .b false, .b false] [2, 133, 134, 135, 136, 137, 138, 139, 140, 141, 142, 143, 144, 145, 146, 147, 148, 149] [(2, vB false)] [] [] (an c15 (an c15 (an c15 (a12 (ixn rI hx20) c15 (ixr rI hx20) c15 c15 c15 c16 c16 c16 c17 c17 c17)))) ?_
         exact ⟨false, (), h, lS⟩
        ·refine rk hC [.b true, .b true, .b true, .b true, .row (rI x20), .b true, .b true, .b true, .b true, .b true, .b true, .b true, .b true, .b true] [2, 133, 134, 135, 136, 137, 138, 139, 140, 141, 142, 143, 144, 145, 146, 147, 148, 149] [(2, vB (decide (x4.1 ≤ 999)))] [] [] (an c15 (an c15 (an c15 (a12 (ixn rI hx20) c15 (ixr rI hx20) c15 c15 c15 c16 c16 c16 c17 c17 c17)))) ?_
         exact ⟨decide (x4.1 ≤ 999), (), h, lS⟩
     ·rintro x21 ⟨⟩ h
      subst hj19
      refine qr ?_
      obtain rfl := so h
      exact eR
end Go.Lift
