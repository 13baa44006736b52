/- The walks: the code computes what the plain functions say. -/
import Derived.Test.YthfcdmcpponheaaGreatVModels
import Derived.Test.YthfcdmcpponheaaGreatVWalks0
set_option maxRecDepth 10000
set_option linter.unusedVariables false
namespace Go.Lift
open Go Go.Proofs
variable (G : GS) {n : Nat}
theorem c_l_ContainsFunc_int (G : GS) (n : Nat) (s : List Int) (fF : FuncId) (f : Int → Option Bool) (hf : ∀ (q0 : Int) r, f q0 = some r → PCC Tryz.prog G.g fF [vI q0] (vB r)) {r : Bool} (h : l_ContainsFunc_int n s f = some r) : PCC Tryz.prog G.g 87 [vM rI s, V.fn fF []] (vB r) := by
 unfold l_ContainsFunc_int at h
 refine pmr tyOK Tryz.func87 rfl rfl rfl rfl rfl rfl rfl ?_
 intro w X hC
 refine rq hC [] [4] [] [] [] a0 ?_
 obtain ⟨x1, hx1, h⟩ := bd h
 refine rq hC [.v (vI x1)] (fr 4 5) [(4, vB (decide ((0 : Int) ≤ x1)))] [] [] (a1 (c_l_IndexFunc_int G n s fF f hf hx1)) ?_
 refine qr ?_
 obtain rfl := so h
 exact eR
theorem c_i_AffineValid {a} {r} (h : i_AffineValid n a = some r) : PCC Tryz.prog G.g 205 [V.agg (cAffine a)] (vB r) := by
 unfold i_AffineValid at h
 refine pmr tyOK Tryz.func205 rfl rfl rfl rfl rfl rfl rfl ?_
 intro w X hC
 refine rq hC [.b true] [1, 2] [(1, V.tp (tAffine a))] [] [] a0 ?_
 obtain ⟨j1, hj1, h⟩ := jn_e h
 refine vwp_jm (γ := Unit) (j := j1) (r := r) (fun x_ _ => mkS [(2, vB x_)] [] []) ?_ ?_
 ·
  refine splI h (fun c1 h => ?_) (fun c1 h => ?_)
  ·refine rk hC [.nat a.coefs.length, .b false, .b false, .b false, .b false, .b false, .b false, .b false, .b false, .b false] (fr 2 16) [(2, vB false)] [] [] (a10 (lenM rI a.coefs) c1 c1 c1 c1 (Eq.refl false) (Eq.refl false) (Eq.refl false) (Eq.refl false) (Eq.refl false)) ?_
   exact ⟨false, (), h, lS⟩
  ·obtain ⟨x2, hx2, h⟩ := bd h
   refine splI h (fun c2 h => ?_) (fun c2 h => ?_)
   ·refine rk hC [.nat a.coefs.length, .b true, .b true, .b true, .v (vB x2), .b true, .b false, .b false, .b false, .b false, .b false] (fr 2 16) [(2, vB false)] [] [] (a11 (lenM rI a.coefs) c1 c1 c1 (c_i_isConst G hx2) c1 c2 c2 c2 c2 c2) ?_
    exact ⟨false, (), h, lS⟩
   ·obtain ⟨x3, hx3, h⟩ := bd h
    refine rk hC [.nat a.coefs.length, .b true, .b true, .b true, .v (vB x2), .b true, .b true, .b true, .b true, .v (vB x3), .b true, .b true] (fr 2 16) [(2, vB (!x3))] [] [] (a12 (lenM rI a.coefs) c1 c1 c1 (c_i_isConst G hx2) c1 c2 c2 c2 (c_l_ContainsFunc_int G n a.coefs 236 (fun q0 => i_AffineValid_1 n q0) (fun q0 r h => c_i_AffineValid_1 G n q0 h) hx3) c2 c2) ?_
    exact ⟨!x3, (), h, lS⟩
 ·rintro x4 ⟨⟩ h
  subst hj1
  refine qr ?_
  obtain rfl := so h
  exact eR
theorem c_i_Affine_depth {a} {r} (h : i_Affine_depth n a = some r) : PCC Tryz.prog G.g 206 [V.agg (cAffine a)] (vI r) := by
 unfold i_Affine_depth at h
 refine pmr tyOK Tryz.func206 rfl rfl rfl rfl rfl rfl rfl ?_
 intro w X hC
 refine rq hC [.b true] [1, 2] [(1, V.tp (tAffine a))] [] [] a0 ?_
 refine rq hC [.nat a.coefs.length] (fr 3 4) [(3, vI (a.coefs.length : Int))] [] [] (a1 (lenM rI a.coefs)) ?_
 refine qs (qb (vwp_lm (γ := Unit) h (fun x_ _ => mkS [(1, V.tp (tAffine a)), (3, vI x_)] [] []) () (lS) ?_))
 rintro again2 x1 ⟨⟩ h
 refine qs ?_
 obtain ⟨j3, hj3, h⟩ := jn_e h
 refine vwp_jm (γ := Unit) (j := j3) (r := r) (fun x_ _ => mkS [(1, V.tp (tAffine a)), (3, vI x1), (17, vB x_)] [] []) ?_ ?_
 ·
  refine splI h (fun c1 h => ?_) (fun c1 h => ?_)
  ·refine rk hC [.b false, .b false, .b false, .b false, .b false, .b false, .b false, .b false] (fr 7 11) [(17, vB false)] [] [] (a8 c1 c1 c1 c1 c1 c1 c1 c1) ?_
   exact ⟨false, (), h, lS⟩
  ·obtain ⟨x4, hx4, h⟩ := bd h
   refine rk hC [.b true, .b true, .b true, .b true, .b true, .row (rI x4), .b true, .b true, .b true] (fr 7 11) [(17, vB (decide (x4 = 0)))] [] [] (a9 c1 c1 c1 c1 c1 (ix_map rI hx4) c1 c1 c1) ?_
   exact ⟨decide (x4 = 0), (), h, lS⟩
 ·rintro x5 ⟨⟩ h
  subst hj3
  refine vci (b := x5) h (fun c2 h => ?_) (fun c2 h => ?_)
  ·refine qk (qb (rk hC [] [3, 18, 19] [(3, vI (wr (x1 - 1)))] [] [] trivial ?_))
   exact ⟨wr (x1 - 1), (), h, lS⟩
  ·refine qxt (rq hC [] [2, 20] [(2, vI x1)] [] [] trivial ?_)
   refine qr ?_
   obtain rfl := so h
   exact eR
theorem c_i_accessOk_1 (G : GS) (n : Nat) (s : Affine) (c0__a1 : Int) {r : Bool} (h : i_accessOk_1 n s c0__a1 = some r) : PCC Tryz.prog G.g 204 [V.agg (cAffine s), V.tp [T.int .i64 c0__a1]] (vB r) := by
 unfold i_accessOk_1 at h
 refine pmr tyOK Tryz.func204 rfl rfl rfl rfl rfl rfl rfl ?_
 intro w X hC
 refine rq hC [.b true] [2, 3] [(2, V.tp (tAffine s))] [] [] a0 ?_
 obtain ⟨j1, hj1, h⟩ := jn_e h
 refine vwp_jm (γ := Unit) (j := j1) (r := r) (fun x_ _ => mkS [(3, vB x_)] [] []) ?_ ?_
 ·
  obtain ⟨x2, hx2, h⟩ := bd h
  refine splI h (fun c1 h => ?_) (fun c1 h => ?_)
  ·obtain ⟨x3, hx3, h⟩ := bd h
   refine dk hC hmix [.v (vB x2), .b false, .b false, .v (vI x3), .b false, .b false, .b false] (fr 3 10) [(3, vB (decide (c0__a1 < x3)))] [] [] (a7 (c_i_AffineValid G hx2) c1 c1 (c_i_Affine_depth G hx3) c1 c1 c1) ?_
   exact ⟨decide (c0__a1 < x3), (), h, lS⟩
  ·refine dk hC hmix [.v (vB x2), .b true, .b true, .b true, .b true, .b true] (fr 3 10) [(3, vB true)] [] [] (a6 (c_i_AffineValid G hx2) c1 c1 c1 c1 c1) ?_
   exact ⟨true, (), h, lS⟩
 ·rintro x4 ⟨⟩ h
  subst hj1
  refine qr ?_
  obtain rfl := so h
  exact eR
theorem c_l_IndexFunc_Affine_k1 (G : GS) (n : Nat) (s : List Affine) (fF : FuncId) (fC0 : List T) (f : Affine → Option Bool) (hf : ∀ (q0 : Affine) r, f q0 = some r → PCC Tryz.prog G.g fF [V.agg (cAffine q0), V.tp fC0] (vB r)) {r : Int} (h : l_IndexFunc_Affine n s f = some r) : PCC Tryz.prog G.g 234 [vM rAffine s, V.fn fF [V.tp fC0]] (vI r) := by
 unfold l_IndexFunc_Affine at h
 refine pmr tyOK Tryz.func234 rfl rfl rfl rfl rfl rfl rfl ?_
 intro w X hC
 refine rq hC [] [4] [] [] [] a0 ?_
 refine qs (rq hC [.nat s.length] [6, 7, 8] [(7, vI (s.length : Int)), (8, vI 0)] [] [] (a1 (lenM rAffine s)) ?_)
 refine qb (vwp_lm (γ := Unit) h (fun x_ _ => mkS [(0, vM rAffine s), (1, V.fn fF [V.tp fC0]), (7, vI (s.length : Int)), (8, vI x_)] [] []) () (lS) ?_)
 rintro again2 x1 ⟨⟩ h
 refine rq hC [] [9] [(9, vB (decide (x1 < (s.length : Int))))] [] [] a0 ?_
 refine qs (vci (b := decide (x1 < (s.length : Int))) h (fun c1 h => ?_) (fun c1 h => ?_))
 ·refine qk (qs (qb (rq hC [] [5, 10] [(5, vI x1)] [] [] trivial ?_)))
  obtain ⟨x3, hx3, h⟩ := bd h
  obtain ⟨x4, hx4, h⟩ := bd h
  refine rq hC [.row (rAffine x3), .v (vB x4)] (fr 11 6) [(16, vB x4)] [] [] (a2 (ix_map rAffine hx3) (hf x3 _ hx4)) ?_
  refine vci (b := x4) h (fun c2 h => ?_) (fun c2 h => ?_)
  ·refine rq hC [] [4, 17] [(4, vI x1)] [] [] a0 ?_
   refine qr ?_
   obtain rfl := so h
   exact eR
  ·refine qk (rk hC [] [8, 18] [(8, vI (wr (x1 + 1)))] [] [] trivial ?_)
   exact ⟨wr (x1 + 1), (), h, lS⟩
 ·refine qxt (rq hC [] [4] [(4, vI (-1))] [] [] trivial ?_)
  refine qr ?_
  obtain rfl := so h
  exact eR
theorem c_l_ContainsFunc_Affine_k1 (G : GS) (n : Nat) (s : List Affine) (fF : FuncId) (fC0 : List T) (f : Affine → Option Bool) (hf : ∀ (q0 : Affine) r, f q0 = some r → PCC Tryz.prog G.g fF [V.agg (cAffine q0), V.tp fC0] (vB r)) {r : Bool} (h : l_ContainsFunc_Affine n s f = some r) : PCC Tryz.prog G.g 203 [vM rAffine s, V.fn fF [V.tp fC0]] (vB r) := by
 unfold l_ContainsFunc_Affine at h
 refine pmr tyOK Tryz.func203 rfl rfl rfl rfl rfl rfl rfl ?_
 intro w X hC
 refine rq hC [] [4] [] [] [] a0 ?_
 obtain ⟨x1, hx1, h⟩ := bd h
 refine rq hC [.v (vI x1)] (fr 4 5) [(4, vB (decide ((0 : Int) ≤ x1)))] [] [] (a1 (c_l_IndexFunc_Affine_k1 G n s fF fC0 f hf hx1)) ?_
 refine qr ?_
 obtain rfl := so h
 exact eR
theorem c_i_accessOk {a} {depth} {r} (h : i_accessOk n a depth = some r) : PCC Tryz.prog G.g 173 [V.agg (cAccess a), vI depth] (vB r) := by
 unfold i_accessOk at h
 refine pmr tyOK Tryz.func173 rfl rfl rfl rfl rfl rfl rfl ?_
 intro w X hC
 refine rq hC [.b true, .b true] [2, 3, 4] [(2, V.tp (tAccess a)), (3, V.tp [T.int .i64 depth])] [] [] a0 ?_
 obtain ⟨j1, hj1, h⟩ := jn_e h
 refine vwp_jm (γ := Unit) (j := j1) (r := r) (fun x_ _ => mkS [(4, vB x_)] [] []) ?_ ?_
 ·
  obtain ⟨x2, hx2, h⟩ := bd h
  refine splI h (fun c1 h => ?_) (fun c1 h => ?_)
  ·refine rk hC [.v (vB x2), .b false, .b false, .b false, .b false, .b false, .b false, .b false, .b false, .b false, .b false, .b false] (fr 4 17) [(4, vB false)] [] [] (a12 (c_i_isArray G hx2) c1 c1 c1 c1 c1 (Eq.refl false) (Eq.refl false) (Eq.refl false) (Eq.refl false) (Eq.refl false) (Eq.refl false)) ?_
   exact ⟨false, (), h, lS⟩
  ·obtain ⟨x3, hx3, h⟩ := bd h
   refine splI h (fun c2 h => ?_) (fun c2 h => ?_)
   ·refine rk hC [.v (vB x2), .b true, .b true, .b true, .nat a.subs.length, .b true, .v (vB x3), .b true, .b false, .b false, .b false, .b false, .b false, .b false] (fr 4 17) [(4, vB false)] [] [] (an (c_i_isArray G hx2) (an c1 (a12 c1 c1 (lenM rAffine a.subs) c1 (c_i_within G hx3) c1 c2 c2 c2 c2 c2 c2))) ?_
    exact ⟨false, (), h, lS⟩
   ·obtain ⟨x4, hx4, h⟩ := bd h
    refine rk hC [.v (vB x2), .b true, .b true, .b true, .nat a.subs.length, .b true, .v (vB x3), .b true, .b true, .b true, .b true, .b true, .v (vB x4), .b true, .b true] (fr 4 17) [(4, vB (!x4))] [] [] (an (c_i_isArray G hx2) (an c1 (an c1 (a12 c1 (lenM rAffine a.subs) c1 (c_i_within G hx3) c1 c2 c2 c2 c2 (c_l_ContainsFunc_Affine_k1 G n a.subs 204 [T.int .i64 depth] (fun q0 => i_accessOk_1 n q0 depth) (fun q0 r h => c_i_accessOk_1 G n q0 depth h) hx4) c2 c2)))) ?_
    exact ⟨!x4, (), h, lS⟩
 ·rintro x5 ⟨⟩ h
  subst hj1
  refine qr ?_
  obtain rfl := so h
  exact eR
theorem c_i_noAffine {a} {r} (h : i_noAffine n a = some r) : PCC Tryz.prog G.g 207 [V.agg (cAffine a)] (vB r) := by
 unfold i_noAffine at h
 refine pmr tyOK Tryz.func207 rfl rfl rfl rfl rfl rfl rfl ?_
 intro w X hC
 refine rq hC [.b true] [1, 2] [(1, V.tp (tAffine a))] [] [] a0 ?_
 obtain ⟨j1, hj1, h⟩ := jn_e h
 refine vwp_jm (γ := Unit) (j := j1) (r := r) (fun x_ _ => mkS [(2, vB x_)] [] []) ?_ ?_
 ·
  refine splI h (fun c1 h => ?_) (fun c1 h => ?_)
  ·refine rk hC [.nat a.coefs.length, .b false, .b false, .b false, .b false] (fr 2 10) [(2, vB false)] [] [] (a5 (lenM rI a.coefs) c1 c1 c1 c1) ?_
   exact ⟨false, (), h, lS⟩
  ·refine rk hC [.nat a.coefs.length, .b true, .b true, .b true, .b true] (fr 2 10) [(2, vB (decide (a.const = 0)))] [] [] (a5 (lenM rI a.coefs) c1 c1 c1 c1) ?_
   exact ⟨decide (a.const = 0), (), h, lS⟩
 ·rintro x2 ⟨⟩ h
  subst hj1
  refine qr ?_
  obtain rfl := so h
  exact eR
theorem c_i_noAccess {a} {r} (h : i_noAccess n a = some r) : PCC Tryz.prog G.g 208 [V.agg (cAccess a)] (vB r) := by
 unfold i_noAccess at h
 refine pmr tyOK Tryz.func208 rfl rfl rfl rfl rfl rfl rfl ?_
 intro w X hC
 refine rq hC [.b true] [1, 2] [(1, V.tp (tAccess a))] [] [] a0 ?_
 obtain ⟨j1, hj1, h⟩ := jn_e h
 refine vwp_jm (γ := Unit) (j := j1) (r := r) (fun x_ _ => mkS [(2, vB x_)] [] []) ?_ ?_
 ·
  refine splI h (fun c1 h => ?_) (fun c1 h => ?_)
  ·refine rk hC [.b false, .b false, .b false, .b false, .b false] (fr 2 10) [(2, vB false)] [] [] (a5 c1 c1 c1 c1 c1) ?_
   exact ⟨false, (), h, lS⟩
  ·refine rk hC [.b true, .b true, .b true, .nat a.subs.length, .b true, .b true] (fr 2 10) [(2, vB (decide ((a.subs.length : Int) = 0)))] [] [] (a6 c1 c1 c1 (lenM rAffine a.subs) c1 c1) ?_
   exact ⟨decide ((a.subs.length : Int) = 0), (), h, lS⟩
 ·rintro x2 ⟨⟩ h
  subst hj1
  refine qr ?_
  obtain rfl := so h
  exact eR
theorem c_i_isOp {kind} {r} (h : i_isOp n kind = some r) : PCC Tryz.prog G.g 209 [vI kind] (vB r) := by
 unfold i_isOp at h
 refine pmr tyOK Tryz.func209 rfl rfl rfl rfl rfl rfl rfl ?_
 intro w X hC
 refine rq hC [] [2] [] [] [] a0 ?_
 obtain ⟨x1, hx1, h⟩ := bd h
 refine rq hC [.v (vB x1)] [2, 3, 4] [(2, vB x1)] [] [] (a1 (c_i_within G hx1)) ?_
 refine qr ?_
 obtain rfl := so h
 exact eR
theorem c_i_exprScan (G : GS) : ∀ (n : Nat) (e : Expr) (depth : Int) (deep : Int) (count : Int) {r : Bool × Int} (h : i_exprScan n e depth deep count = some r), VCC Tryz.prog G.g 174 [E.cells [vI count]] [V.agg (cExpr e), vI depth, vI deep, V.ref 0 0] (vB r.1) [E.cells [vI r.2]] := by
 intro n
 induction n with
 | zero => intro e depth deep count r h; rw [i_exprScan.eq_def] at h; cases h
 | succ n ih =>
  intro e depth deep count r h
  rw [i_exprScan.eq_def] at h; dsimp only at h
  refine vmr tyOK Tryz.func174 rfl rfl rfl rfl rfl rfl rfl rfl ?_
  intro w X β0 hC hg
  refine rq hC [.b true] [4, 8] [(4, V.tp (tExpr e))] [] [] a0 ?_
  refine rq hC [] (fr 9 5) [] [(0, sc [vI (wr (count + 1))])] [] a0 ?_
  refine qs ?_
  obtain ⟨j1, hj1, h⟩ := jn_e h
  refine vwp_jm (γ := Unit) (j := j1) (r := r) (fun x_ _ => mkS [(1, vI depth), (2, vI deep), (3, V.ref 0 0), (4, V.tp (tExpr e)), (21, vB x_)] [(0, E.cells [vI (wr (count + 1))])] [0]) ?_ ?_
  ·
   refine splI h (fun c1 h => ?_) (fun c1 h => ?_)
   ·refine rk hC [.b false, .b false, .b false] (fr 14 8) [(21, vB (decide ((5 : Int) < deep)))] [] [] (a3 c1 c1 c1) ?_
    exact ⟨decide ((5 : Int) < deep), (), h, lS⟩
   ·refine rk hC [.b true, .b true, .b true] (fr 14 8) [(21, vB true)] [] [] (a3 c1 c1 c1) ?_
    exact ⟨true, (), h, lS⟩
  ·rintro x2 ⟨⟩ h
   subst hj1
   refine vci (b := x2) h (fun c2 h => ?_) (fun c2 h => ?_)
   ·refine rq hC [] [8] [(8, vB false)] [] [] a0 ?_
    refine qr ?_
    obtain rfl := so h
    exact eW
   ·refine qk (qs ?_)
    obtain ⟨j3, hj3, h⟩ := jn_e h
    refine vwp_jm (γ := Unit) (j := j3) (r := r) (fun x_ _ => mkS [(1, vI depth), (2, vI deep), (3, V.ref 0 0), (4, V.tp (tExpr e)), (51, vB x_)] [(0, E.cells [vI (wr (count + 1))])] [0]) ?_ ?_
    ·
     refine splI h (fun c3 h => ?_) (fun c3 h => ?_)
     ·refine splI h (fun c4 h => ?_) (fun c4 h => ?_)
      ·refine splI h (fun c5 h => ?_) (fun c5 h => ?_)
       ·refine rk hC [.b false, .b false, .b false, .b false, .b false, .b false, .b false, .b false, .b false, .b false, .b false, .b false, .b false, .b false, .b false, .b false, .b false, .b false, .b false, .b false, .b false, .b false, .b false, .b false, .b false, .b false] (fr 22 30) [(51, vB false)] [] [] (an c3 (an c3 (an c3 (an c3 (an (Eq.refl false) (an (Eq.refl false) (an (Eq.refl false) (an (Eq.refl false) (an c4 (an c4 (an c4 (an c4 (an (Eq.refl false) (an c4 (a12 (Eq.refl false) (Eq.refl false) (Eq.refl false) (Eq.refl false) (Eq.refl false) c5 c5 c5 c5 (Eq.refl false) c5 (Eq.refl false)))))))))))))))) ?_
        exact ⟨false, (), h, lS⟩
       ·obtain ⟨x4, hx4, h⟩ := bd h
        refine rk hC [.b false, .b false, .b false, .b false, .b false, .b false, .b false, .b false, .b false, .b false, .b false, .b false, .b false, .b false, .b false, .b false, .b false, .b false, .b false, .b true, .b true, .b true, .v (vB x4), .b true, .b false, .b true, .b false] (fr 22 30) [(51, vB (!x4))] [] [] (an c3 (an c3 (an c3 (an c3 (an (Eq.refl false) (an (Eq.refl false) (an (Eq.refl false) (an (Eq.refl false) (an c4 (an c4 (an c4 (an c4 (an (Eq.refl false) (an c4 (an (Eq.refl false) (a12 (Eq.refl false) (Eq.refl false) (Eq.refl false) (Eq.refl false) c5 c5 c5 (c_i_noAccess G hx4) c5 (Eq.refl false) c5 (Eq.refl false))))))))))))))))) ?_
        exact ⟨!x4, (), h, lS⟩
      ·obtain ⟨x5, hx5, h⟩ := bd h
       refine splI h (fun c6 h => ?_) (fun c6 h => ?_)
       ·refine splI h (fun c7 h => ?_) (fun c7 h => ?_)
        ·refine rk hC [.b false, .b false, .b false, .b false, .b false, .b false, .b false, .b false, .b true, .b true, .b true, .v (vB x5), .b true, .b false, .b true, .b false, .b false, .b false, .b false, .b false, .b false, .b false, .b false, .b false, .b false, .b false, .b false] (fr 22 30) [(51, vB false)] [] [] (an c3 (an c3 (an c3 (an c3 (an (Eq.refl false) (an (Eq.refl false) (an (Eq.refl false) (an (Eq.refl false) (an c4 (an c4 (an c4 (an (c_i_noAffine G hx5) (an c4 (an (Eq.refl false) (an c4 (a12 (Eq.refl false) c6 c6 c6 c6 c7 c7 c7 c7 c6 c7 c6)))))))))))))))) ?_
         exact ⟨false, (), h, lS⟩
        ·obtain ⟨x6, hx6, h⟩ := bd h
         refine rk hC [.b false, .b false, .b false, .b false, .b false, .b false, .b false, .b false, .b true, .b true, .b true, .v (vB x5), .b true, .b false, .b true, .b false, .b false, .b false, .b false, .b false, .b true, .b true, .b true, .v (vB x6), .b true, .b false, .b true, .b false] (fr 22 30) [(51, vB (!x6))] [] [] (an c3 (an c3 (an c3 (an c3 (an (Eq.refl false) (an (Eq.refl false) (an (Eq.refl false) (an (Eq.refl false) (an c4 (an c4 (an c4 (an (c_i_noAffine G hx5) (an c4 (an (Eq.refl false) (an c4 (an (Eq.refl false) (a12 c6 c6 c6 c6 c7 c7 c7 (c_i_noAccess G hx6) c7 c6 c7 c6))))))))))))))))) ?_
         exact ⟨!x6, (), h, lS⟩
       ·refine rk hC [.b false, .b false, .b false, .b false, .b false, .b false, .b false, .b false, .b true, .b true, .b true, .v (vB x5), .b true, .b false, .b true, .b false, .b true, .b true, .b true, .b true, .b true, .b true] (fr 22 30) [(51, vB true)] [] [] (an c3 (an c3 (an c3 (an c3 (an (Eq.refl false) (an (Eq.refl false) (an (Eq.refl false) (an (Eq.refl false) (an c4 (an c4 (a12 c4 (c_i_noAffine G hx5) c4 (Eq.refl false) c4 (Eq.refl false) c6 c6 c6 c6 c6 c6))))))))))) ?_
        exact ⟨true, (), h, lS⟩
     ·refine splI h (fun c8 h => ?_) (fun c8 h => ?_)
      ·refine splI h (fun c9 h => ?_) (fun c9 h => ?_)
       ·refine splI h (fun c10 h => ?_) (fun c10 h => ?_)
        ·refine rk hC [.b true, .b true, .b true, .b true, .b false, .b false, .b false, .b false, .b false, .b false, .b false, .b false, .b false, .b false, .b false, .b false, .b false, .b false, .b false, .b false, .b false, .b false, .b false, .b false, .b false, .b false] (fr 22 30) [(51, vB false)] [] [] (an c3 (an c3 (an c3 (an c3 (an c8 (an c8 (an c8 (an c8 (an c9 (an c9 (an c9 (an c9 (an c8 (an c9 (a12 c8 (Eq.refl false) (Eq.refl false) (Eq.refl false) (Eq.refl false) c10 c10 c10 c10 (Eq.refl false) c10 (Eq.refl false)))))))))))))))) ?_
         exact ⟨false, (), h, lS⟩
        ·obtain ⟨x7, hx7, h⟩ := bd h
         refine rk hC [.b true, .b true, .b true, .b true, .b false, .b false, .b false, .b false, .b false, .b false, .b false, .b false, .b false, .b false, .b false, .b false, .b false, .b false, .b false, .b true, .b true, .b true, .v (vB x7), .b true, .b false, .b true, .b false] (fr 22 30) [(51, vB (!x7))] [] [] (an c3 (an c3 (an c3 (an c3 (an c8 (an c8 (an c8 (an c8 (an c9 (an c9 (an c9 (an c9 (an c8 (an c9 (an c8 (a12 (Eq.refl false) (Eq.refl false) (Eq.refl false) (Eq.refl false) c10 c10 c10 (c_i_noAccess G hx7) c10 (Eq.refl false) c10 (Eq.refl false))))))))))))))))) ?_
         exact ⟨!x7, (), h, lS⟩
       ·obtain ⟨x8, hx8, h⟩ := bd h
        refine splI h (fun c11 h => ?_) (fun c11 h => ?_)
        ·refine splI h (fun c12 h => ?_) (fun c12 h => ?_)
         ·refine rk hC [.b true, .b true, .b true, .b true, .b false, .b false, .b false, .b false, .b true, .b true, .b true, .v (vB x8), .b true, .b false, .b true, .b false, .b false, .b false, .b false, .b false, .b false, .b false, .b false, .b false, .b false, .b false, .b false] (fr 22 30) [(51, vB false)] [] [] (an c3 (an c3 (an c3 (an c3 (an c8 (an c8 (an c8 (an c8 (an c9 (an c9 (an c9 (an (c_i_noAffine G hx8) (an c9 (an c8 (an c9 (a12 c8 c11 c11 c11 c11 c12 c12 c12 c12 c11 c12 c11)))))))))))))))) ?_
          exact ⟨false, (), h, lS⟩
         ·obtain ⟨x9, hx9, h⟩ := bd h
          refine rk hC [.b true, .b true, .b true, .b true, .b false, .b false, .b false, .b false, .b true, .b true, .b true, .v (vB x8), .b true, .b false, .b true, .b false, .b false, .b false, .b false, .b false, .b true, .b true, .b true, .v (vB x9), .b true, .b false, .b true, .b false] (fr 22 30) [(51, vB (!x9))] [] [] (an c3 (an c3 (an c3 (an c3 (an c8 (an c8 (an c8 (an c8 (an c9 (an c9 (an c9 (an (c_i_noAffine G hx8) (an c9 (an c8 (an c9 (an c8 (a12 c11 c11 c11 c11 c12 c12 c12 (c_i_noAccess G hx9) c12 c11 c12 c11))))))))))))))))) ?_
          exact ⟨!x9, (), h, lS⟩
        ·refine rk hC [.b true, .b true, .b true, .b true, .b false, .b false, .b false, .b false, .b true, .b true, .b true, .v (vB x8), .b true, .b false, .b true, .b false, .b true, .b true, .b true, .b true, .b true, .b true] (fr 22 30) [(51, vB true)] [] [] (an c3 (an c3 (an c3 (an c3 (an c8 (an c8 (an c8 (an c8 (an c9 (an c9 (a12 c9 (c_i_noAffine G hx8) c9 c8 c9 c8 c11 c11 c11 c11 c11 c11))))))))))) ?_
         exact ⟨true, (), h, lS⟩
      ·refine rk hC [.b true, .b true, .b true, .b true, .b true, .b true, .b true, .b true, .b true, .b true, .b true, .b true, .b true, .b true, .b true, .b true] (fr 22 30) [(51, vB true)] [] [] (an c3 (an c3 (an c3 (an c3 (a12 c8 c8 c8 c8 c8 c8 (Eq.refl true) (Eq.refl true) (Eq.refl true) (Eq.refl true) (Eq.refl true) (Eq.refl true)))))) ?_
       exact ⟨true, (), h, lS⟩
    ·rintro x10 ⟨⟩ h
     subst hj3
     refine vci (b := x10) h (fun c13 h => ?_) (fun c13 h => ?_)
     ·refine rq hC [] [8] [(8, vB false)] [] [] a0 ?_
      refine qr ?_
      obtain rfl := so h
      exact eW
     ·refine qk (qs (qb (rq hC [] (fr 52 4) [(52, vB (decide (e.kind = 1)))] [] [] trivial ?_)))
      refine vci (b := decide (e.kind = 1)) h (fun c14 h => ?_) (fun c14 h => ?_)
      ·obtain ⟨j11, hj11, h⟩ := jn_e h
       refine vwp_jm (γ := Unit) (j := j11) (r := r) (fun x_ _ => mkS [(8, vB x_)] [(0, E.cells [vI (wr (count + 1))])] [0]) ?_ ?_
       ·
        obtain ⟨x12, hx12, h⟩ := bd h
        refine splI h (fun c15 h => ?_) (fun c15 h => ?_)
        ·refine rk hC [.v (vB x12), .b false, .b false, .b false, .b false, .b false] [8, 56, 57, 58, 59, 60, 61, 62, 63, 64] [(8, vB false)] [] [] (a6 (c_i_within G hx12) c15 c15 c15 c15 c15) ?_
         exact ⟨false, (), h, lS⟩
        ·refine rk hC [.v (vB x12), .b true, .b true, .b true, .nat e.kids.length, .b true, .b true] [8, 56, 57, 58, 59, 60, 61, 62, 63, 64] [(8, vB (decide ((e.kids.length : Int) = 0)))] [] [] (a7 (c_i_within G hx12) c15 c15 c15 (lenM rExpr e.kids) c15 c15) ?_
         exact ⟨decide ((e.kids.length : Int) = 0), (), h, lS⟩
       ·rintro x13 ⟨⟩ h
        subst hj11
        refine qr ?_
        obtain rfl := so h
        exact eW
      ·refine rq hC [] (fr 65 4) [(65, vB (decide (e.kind = 2)))] [] [] a0 ?_
       refine vci (b := decide (e.kind = 2)) h (fun c16 h => ?_) (fun c16 h => ?_)
       ·obtain ⟨j14, hj14, h⟩ := jn_e h
        refine vwp_jm (γ := Unit) (j := j14) (r := r) (fun x_ _ => mkS [(8, vB x_)] [(0, E.cells [vI (wr (count + 1))])] [0]) ?_ ?_
        ·
         obtain ⟨x15, hx15, h⟩ := bd h
         refine splI h (fun c17 h => ?_) (fun c17 h => ?_)
         ·refine rk hC [.v (vB x15), .b false, .b false, .b false, .b false, .b false, .b false, .b false, .b false, .b false, .b false, .b false] [8, 69, 70, 71, 72, 73, 74, 75, 76, 77, 78, 79, 80, 81, 82, 83, 84] [(8, vB false)] [] [] (a12 (c_i_AffineValid G hx15) c17 c17 c17 c17 c17 c17 (Eq.refl false) (Eq.refl false) (Eq.refl false) (Eq.refl false) (Eq.refl false)) ?_
          exact ⟨false, (), h, lS⟩
         ·obtain ⟨x16, hx16, h⟩ := bd h
          refine splI h (fun c18 h => ?_) (fun c18 h => ?_)
          ·refine rk hC [.v (vB x15), .b true, .b true, .b true, .v (vI x16), .b true, .b true, .b true, .b false, .b false, .b false, .b false, .b false] [8, 69, 70, 71, 72, 73, 74, 75, 76, 77, 78, 79, 80, 81, 82, 83, 84] [(8, vB false)] [] [] (an (c_i_AffineValid G hx15) (a12 c17 c17 c17 (c_i_Affine_depth G hx16) c17 c17 c17 c18 c18 c18 c18 c18)) ?_
           exact ⟨false, (), h, lS⟩
          ·refine rk hC [.v (vB x15), .b true, .b true, .b true, .v (vI x16), .b true, .b true, .b true, .b true, .b true, .b true, .nat e.kids.length, .b true, .b true] [8, 69, 70, 71, 72, 73, 74, 75, 76, 77, 78, 79, 80, 81, 82, 83, 84] [(8, vB (decide ((e.kids.length : Int) = 0)))] [] [] (an (c_i_AffineValid G hx15) (an c17 (a12 c17 c17 (c_i_Affine_depth G hx16) c17 c17 c17 c18 c18 c18 (lenM rExpr e.kids) c18 c18))) ?_
           exact ⟨decide ((e.kids.length : Int) = 0), (), h, lS⟩
        ·rintro x17 ⟨⟩ h
         subst hj14
         refine qr ?_
         obtain rfl := so h
         exact eW
       ·refine rq hC [] (fr 85 4) [(85, vB (decide (e.kind = 3)))] [] [] a0 ?_
        refine vci (b := decide (e.kind = 3)) h (fun c19 h => ?_) (fun c19 h => ?_)
        ·obtain ⟨j18, hj18, h⟩ := jn_e h
         refine vwp_jm (γ := Unit) (j := j18) (r := r) (fun x_ _ => mkS [(8, vB x_)] [(0, E.cells [vI (wr (count + 1))])] [0]) ?_ ?_
         ·
          obtain ⟨x19, hx19, h⟩ := bd h
          refine splI h (fun c20 h => ?_) (fun c20 h => ?_)
          ·refine rk hC [.v (vB x19), .b false, .b false, .b false, .b false, .b false] [8, 89, 90, 91, 92, 93, 94, 95, 96, 97, 98] [(8, vB false)] [] [] (a6 (c_i_accessOk G hx19) c20 c20 c20 c20 c20) ?_
           exact ⟨false, (), h, lS⟩
          ·refine rk hC [.v (vB x19), .b true, .b true, .b true, .nat e.kids.length, .b true, .b true] [8, 89, 90, 91, 92, 93, 94, 95, 96, 97, 98] [(8, vB (decide ((e.kids.length : Int) = 0)))] [] [] (a7 (c_i_accessOk G hx19) c20 c20 c20 (lenM rExpr e.kids) c20 c20) ?_
           exact ⟨decide ((e.kids.length : Int) = 0), (), h, lS⟩
         ·rintro x20 ⟨⟩ h
          subst hj18
          refine qr ?_
          obtain rfl := so h
          exact eW
        ·obtain ⟨j21, hj21, h⟩ := jn_e h
         refine vwp_jm (γ := Unit) (j := j21) (r := r) (fun x_ _ => mkS [(1, vI depth), (2, vI deep), (3, V.ref 0 0), (4, V.tp (tExpr e)), (99, vB x_)] [(0, E.cells [vI (wr (count + 1))])] [0]) ?_ ?_
         ·
          obtain ⟨x22, hx22, h⟩ := bd h
          refine splI h (fun c21 h => ?_) (fun c21 h => ?_)
          ·refine rk hC [.v (vB x22), .b false, .b false, .b false, .nat e.kids.length, .b false, .b false] (fr 99 11) [(99, vB (!decide ((e.kids.length : Int) = 2)))] [] [] (a7 (c_i_isOp G hx22) c21 c21 c21 (lenM rExpr e.kids) c21 c21) ?_
           exact ⟨!decide ((e.kids.length : Int) = 2), (), h, lS⟩
          ·refine rk hC [.v (vB x22), .b true, .b true, .b true, .b true, .b true] (fr 99 11) [(99, vB true)] [] [] (a6 (c_i_isOp G hx22) c21 c21 c21 c21 c21) ?_
           exact ⟨true, (), h, lS⟩
         ·rintro x23 ⟨⟩ h
          subst hj21
          refine vci (b := x23) h (fun c22 h => ?_) (fun c22 h => ?_)
          ·refine rq hC [] [8] [(8, vB false)] [] [] a0 ?_
           refine qr ?_
           obtain rfl := so h
           exact eW
          ·refine qk ?_
           obtain ⟨j24, hj24, h⟩ := jn_e h
           refine vwp_jm (γ := Unit) (j := j24) (r := r) (fun x_ _ => mkS [(8, vB x_.2)] [(0, E.cells [vI x_.1])] [0]) ?_ ?_
           ·
            obtain ⟨x25, hx25, h⟩ := bd h
            obtain ⟨x26, hx26, h⟩ := bd h
            refine splI h (fun c23 h => ?_) (fun c23 h => ?_)
            ·refine rk hC [.row (rExprC x25), .vc [0] [] (vB x26.1) [E.cells [vI x26.2]], .b false, .b false, .b false, .b false, .b false, .b false, .b false, .b false, .b false, .b false] [8, 110, 111, 112, 113, 114, 115, 116, 117, 118, 119, 120, 121, 122, 123, 124, 125, 126, 127, 128, 129] [(8, vB false)] [(0, sc [vI x26.2])] [(0, true)] (a12 (ix_mapE rExpr hx25 (rExpr_eq x25)) (ih x25 depth (wr (deep + 1)) (wr (count + 1)) hx26) c23 c23 c23 c23 c23 c23 c23 c23 c23 c23) ?_
             exact ⟨(x26.2, false), (), h, lS⟩
            ·obtain ⟨x27, hx27, h⟩ := bd h
             obtain ⟨x28, hx28, h⟩ := bd h
             refine rk hC [.row (rExprC x25), .vc [0] [] (vB x26.1) [E.cells [vI x26.2]], .b true, .b true, .b true, .row (rExprC x27), .b true, .b true, .b true, .b true, .b true, .b true, .vc [0] [] (vB x28.1) [E.cells [vI x28.2]], .b true] [8, 110, 111, 112, 113, 114, 115, 116, 117, 118, 119, 120, 121, 122, 123, 124, 125, 126, 127, 128, 129] [(8, vB x28.1)] [(0, sc [vI x28.2])] [(0, true), (0, true)] (an (ix_mapE rExpr hx25 (rExpr_eq x25)) (an (ih x25 depth (wr (deep + 1)) (wr (count + 1)) hx26) (a12 c23 c23 c23 (ix_mapE rExpr hx27 (rExpr_eq x27)) c23 c23 c23 c23 c23 c23 (ih x27 depth (wr (deep + 1)) x26.2 hx28) c23))) ?_
             exact ⟨(x28.2, x28.1), (), h, lS⟩
           ·rintro ⟨x29, x30⟩ ⟨⟩ h
            subst hj24
            refine qr ?_
            obtain rfl := so h
            exact eW
theorem c_i_StmtValid {s} {depth} {r} (h : i_StmtValid n s depth = some r) : PCC Tryz.prog G.g 130 [V.agg (cStmt s), vI depth] (vB r) := by
 unfold i_StmtValid at h
 refine pmr tyOK Tryz.func130 rfl rfl rfl rfl rfl rfl rfl ?_
 intro w X hC
 refine rq hC [.b true] [2, 4] [(2, V.tp (tStmt s))] [] [] a0 ?_
 refine rq hC [.nat 20] [5] [(5, V.ref 20 0)] [(20, sc [vI 0])] [(20, true)] a0 ?_
 obtain ⟨j1, hj1, h⟩ := jn_e h
 refine vwp_jm (γ := Unit) (j := j1) (r := r) (fun x_ _ => mkS [(4, vB x_.2)] [(20, E.cells [vI x_.1])] [20]) ?_ ?_
 ·
  obtain ⟨x2, hx2, h⟩ := bd h
  refine splI h (fun c1 h => ?_) (fun c1 h => ?_)
  ·refine rk hC [.v (vB x2), .b false, .b false, .b false, .b false, .b false, .b false, .b false, .b false, .b false, .b false] [4, 6, 7, 8, 9, 10, 11, 12, 13, 14, 15, 16, 17, 18, 19] [(4, vB false)] [] [] (a11 (c_i_within G hx2) c1 c1 c1 c1 c1 (Eq.refl false) (Eq.refl false) (Eq.refl false) (Eq.refl false) (Eq.refl false)) ?_
   exact ⟨(0, false), (), h, lS⟩
  ·obtain ⟨x3, hx3, h⟩ := bd h
   refine splI h (fun c2 h => ?_) (fun c2 h => ?_)
   ·refine rk hC [.v (vB x2), .b true, .b true, .b true, .b true, .v (vB x3), .b true, .b false, .b false, .b false, .b false, .b false] [4, 6, 7, 8, 9, 10, 11, 12, 13, 14, 15, 16, 17, 18, 19] [(4, vB false)] [] [] (a12 (c_i_within G hx2) c1 c1 c1 c1 (c_i_accessOk G hx3) c1 c2 c2 c2 c2 c2) ?_
    exact ⟨(0, false), (), h, lS⟩
   ·obtain ⟨x4, hx4, h⟩ := bd h
    refine rk hC [.v (vB x2), .b true, .b true, .b true, .b true, .v (vB x3), .b true, .b true, .b true, .b true, .b true, .vc [20] [] (vB x4.1) [E.cells [vI x4.2]], .b true] [4, 6, 7, 8, 9, 10, 11, 12, 13, 14, 15, 16, 17, 18, 19] [(4, vB x4.1)] [(20, sc [vI x4.2])] [(20, true)] (an (c_i_within G hx2) (a12 c1 c1 c1 c1 (c_i_accessOk G hx3) c1 c2 c2 c2 c2 (c_i_exprScan G n s.value depth 1 0 hx4) c2)) ?_
    exact ⟨(x4.2, x4.1), (), h, lS⟩
 ·rintro ⟨x5, x6⟩ ⟨⟩ h
  subst hj1
  refine qr ?_
  obtain rfl := so h
  exact eR
theorem c_i_Program_instances_1 (G : GS) (n : Nat) (s : Stmt) (c0__a1 : Part) {r : Bool} (h : i_Program_instances_1 n s c0__a1 = some r) : PCC Tryz.prog G.g 129 [V.agg (cStmt s), V.tp (tPart c0__a1)] (vB r) := by
 unfold i_Program_instances_1 at h
 refine pmr tyOK Tryz.func129 rfl rfl rfl rfl rfl rfl rfl ?_
 intro w X hC
 refine rq hC [.b true] [2, 3] [(2, V.tp (tStmt s))] [] [] a0 ?_
 obtain ⟨x1, hx1, h⟩ := bd h
 refine rq hC [.nat c0__a1.nest.length, .v (vB x1)] (fr 3 7) [(3, vB (!x1))] [] [] (a2 (lenM rLoop c0__a1.nest) (c_i_StmtValid G hx1)) ?_
 refine qr ?_
 obtain rfl := so h
 exact eR
theorem c_i_isPoint_1 (G : GS) (n : Nat) (n_a0 : Int) {r : Bool} (h : i_isPoint_1 n n_a0 = some r) : PCC Tryz.prog G.g 175 [vI n_a0] (vB r) := by
 unfold i_isPoint_1 at h
 refine pmr tyOK Tryz.func175 rfl rfl rfl rfl rfl rfl rfl ?_
 intro w X hC
 refine rq hC [] [2] [] [] [] a0 ?_
 obtain ⟨x1, hx1, h⟩ := bd h
 refine rq hC [.v (vB x1)] (fr 2 4) [(2, vB (!x1))] [] [] (a1 (c_i_within G hx1)) ?_
 refine qr ?_
 obtain rfl := so h
 exact eR
theorem c_i_isPoint {point} {r} (h : i_isPoint n point = some r) : PCC Tryz.prog G.g 131 [vM rI point] (vB r) := by
 unfold i_isPoint at h
 refine pmr tyOK Tryz.func131 rfl rfl rfl rfl rfl rfl rfl ?_
 intro w X hC
 refine rq hC [] [2] [] [] [] a0 ?_
 obtain ⟨j1, hj1, h⟩ := jn_e h
 refine vwp_jm (γ := Unit) (j := j1) (r := r) (fun x_ _ => mkS [(2, vB x_)] [] []) ?_ ?_
 ·
  refine splI h (fun c1 h => ?_) (fun c1 h => ?_)
  ·refine rk hC [.nat point.length, .b false, .b false, .b false, .b false] (fr 2 9) [(2, vB false)] [] [] (a5 (lenM rI point) c1 c1 c1 c1) ?_
   exact ⟨false, (), h, lS⟩
  ·obtain ⟨x2, hx2, h⟩ := bd h
   refine rk hC [.nat point.length, .b true, .b true, .v (vB x2), .b true, .b true] (fr 2 9) [(2, vB (!x2))] [] [] (a6 (lenM rI point) c1 c1 (c_l_ContainsFunc_int G n point 175 (fun q0 => i_isPoint_1 n q0) (fun q0 r h => c_i_isPoint_1 G n q0 h) hx2) c1 c1) ?_
   exact ⟨!x2, (), h, lS⟩
 ·rintro x3 ⟨⟩ h
  subst hj1
  refine qr ?_
  obtain rfl := so h
  exact eR
theorem c_i_Affine_eval {a} {point} {r} (h : i_Affine_eval n a point = some r) : PCC Tryz.prog G.g 140 [V.agg (cAffine a), vM rI point] (vI r) := by
 unfold i_Affine_eval at h
 refine pmr tyOK Tryz.func140 rfl rfl rfl rfl rfl rfl rfl ?_
 intro w X hC
 refine rq hC [.b true] [2, 4] [(2, V.tp (tAffine a))] [] [] a0 ?_
 refine rq hC [] [5, 8, 9] [(5, vI a.const)] [] [] a0 ?_
 refine qs (rq hC [.nat point.length] [10, 11, 12] [(10, vM rI point), (11, vI (point.length : Int)), (12, vI 0)] [] [] (a1 (lenM rI point)) ?_)
 refine qb (vwp_lm (γ := Unit) h (fun x_ _ => mkS [(2, V.tp (tAffine a)), (5, vI x_.1), (10, vM rI point), (11, vI (point.length : Int)), (12, vI x_.2)] [] []) () (lS) ?_)
 rintro again3 ⟨x1, x2⟩ ⟨⟩ h
 refine rq hC [] [13] [(13, vB (decide (x2 < (point.length : Int))))] [] [] a0 ?_
 refine qs (vci (b := decide (x2 < (point.length : Int))) h (fun c1 h => ?_) (fun c1 h => ?_))
 ·refine qk (qs (qb ?_))
  obtain ⟨x4, hx4, h⟩ := bd h
  refine rq hC [.row (rI x4)] [6, 7, 14, 15, 16] [(6, vI x2), (7, vI x4)] [] [] (a1 (ix_map rI hx4)) ?_
  obtain ⟨x5, hx5, h⟩ := bd h
  refine rk hC [.row (rI x5)] [5, 17, 18, 19, 20, 21, 22, 23, 24, 25] [(5, vI (wr (x1 + (wr (x5 * x4)))))] [] [] (a1 (ix_map rI hx5)) ?_
  refine rk hC [] [12, 26] [(12, vI (wr (x2 + 1)))] [] [] a0 ?_
  exact ⟨(wr (x1 + (wr (x5 * x4))), wr (x2 + 1)), (), h, lS⟩
 ·refine qxt (rq hC [] [4, 27] [(4, vI x1)] [] [] trivial ?_)
  refine qr ?_
  obtain rfl := so h
  exact eR
theorem c_i_Array_size {a} {r} (h : i_Array_size n a = some r) : PCC Tryz.prog G.g 133 [V.agg [vS a.name, vM rI a.dims]] (vI r) := by
 unfold i_Array_size at h
 refine pmr tyOK Tryz.func133 rfl rfl rfl rfl rfl rfl rfl ?_
 intro w X hC
 refine rq hC [.b true] [1, 2] [(1, V.tp [T.str a.name, T.sl (List.map rI a.dims)])] [] [] a0 ?_
 refine rq hC [] [3] [(3, vI 1)] [] [] a0 ?_
 refine qs (rq hC [.nat a.dims.length] (fr 6 4) [(7, vM rI a.dims), (8, vI (a.dims.length : Int)), (9, vI 0)] [] [] (a1 (lenM rI a.dims)) ?_)
 refine qb (vwp_lm (γ := Unit) h (fun x_ _ => mkS [(3, vI x_.1), (7, vM rI a.dims), (8, vI (a.dims.length : Int)), (9, vI x_.2)] [] []) () (lS) ?_)
 rintro again3 ⟨x1, x2⟩ ⟨⟩ h
 refine rq hC [] [10] [(10, vB (decide (x2 < (a.dims.length : Int))))] [] [] a0 ?_
 refine qs (vci (b := decide (x2 < (a.dims.length : Int))) h (fun c1 h => ?_) (fun c1 h => ?_))
 ·refine qk (qs (qb ?_))
  obtain ⟨x4, hx4, h⟩ := bd h
  refine rq hC [.row (rI x4)] [5, 11, 12] [(5, vI x4)] [] [] (a1 (ix_map rI hx4)) ?_
  refine rk hC [] [3, 13, 14, 15] [(3, vI (wr (x1 * x4)))] [] [] a0 ?_
  refine rk hC [] [9, 16] [(9, vI (wr (x2 + 1)))] [] [] a0 ?_
  exact ⟨(wr (x1 * x4), wr (x2 + 1)), (), h, lS⟩
 ·refine qxt (rq hC [] [2, 17] [(2, vI x1)] [] [] trivial ?_)
  refine qr ?_
  obtain rfl := so h
  exact eR
theorem c_i_Program_cell {p} {a} {point} {r} (h : i_Program_cell n p a point = some r) : PCC Tryz.prog G.g 121 [V.agg (cProg p), V.agg (cAccess a), vM rI point] (vI r) := by
 unfold i_Program_cell at h
 refine pmr tyOK Tryz.func121 rfl rfl rfl rfl rfl rfl rfl ?_
 intro w X hC
 refine rq hC [.b true, .b true] [3, 4, 6] [(3, V.tp (tProg p)), (4, V.tp (tAccess a))] [] [] a0 ?_
 refine rq hC [] [7] [(7, vI 0)] [] [] a0 ?_
 refine qs (rq hC [.nat p.arrays.length] (fr 14 4) [(15, vM rArr p.arrays), (16, vI (p.arrays.length : Int)), (17, vI 0)] [] [] (a1 (lenM rArr p.arrays)) ?_)
 refine qb (vwp_lm (γ := Unit) h (fun x_ _ => mkS [(2, vM rI point), (4, V.tp (tAccess a)), (7, vI x_.1), (15, vM rArr p.arrays), (16, vI (p.arrays.length : Int)), (17, vI x_.2)] [] []) () (lS) ?_)
 rintro again3 ⟨x1, x2⟩ ⟨⟩ h
 refine rq hC [] [18] [(18, vB (decide (x2 < (p.arrays.length : Int))))] [] [] a0 ?_
 refine qs (vci (b := decide (x2 < (p.arrays.length : Int))) h (fun c1 h => ?_) (fun c1 h => ?_))
 ·refine qk (qs (qb ?_))
  obtain ⟨x4, hx4, h⟩ := bd h
  refine rq hC [.row (rArr x4), .nat 20] [9, 19, 20] [(9, V.ref 20 0)] [(20, sc [vS x4.name, vM rI x4.dims])] [(20, true)] (a1 (ix_map rArr hx4)) ?_
  refine qs (rq hC [] (fr 21 5) [(25, vB (!decide (x4.name = a.array)))] [] [] trivial ?_)
  refine vci (b := !decide (x4.name = a.array)) h (fun c2 h => ?_) (fun c2 h => ?_)
  ·obtain ⟨x5, hx5, h⟩ := bd h
   refine rq hC [.v (vI x5)] [7, 26, 27, 28, 29] [(7, vI (wr (x1 + x5)))] [] [] (a1 (c_i_Array_size G hx5)) ?_
   refine qxt (rk hC [] [17, 70] [(17, vI (wr (x2 + 1)))] [] [] trivial ?_)
   exact ⟨(wr (x1 + x5), wr (x2 + 1)), (), h, lS⟩
  ·refine qk (qs (rq hC [.nat a.subs.length, .nat x4.dims.length] (fr 30 7) [(36, vB (!decide ((a.subs.length : Int) = (x4.dims.length : Int))))] [] [] (a2 (lenM rAffine a.subs) (lenM rI x4.dims)) ?_))
   refine vci (b := !decide ((a.subs.length : Int) = (x4.dims.length : Int))) h (fun c3 h => ?_) (fun c3 h => ?_)
   ·refine rq hC [] [6] [(6, vI (-1))] [] [] a0 ?_
    refine qr ?_
    obtain rfl := so h
    exact eR
   ·refine qk (rq hC [] [10] [(10, vI 0)] [] [] trivial ?_)
    refine qs (rq hC [.nat a.subs.length] (fr 37 4) [(38, vM rAffine a.subs), (39, vI (a.subs.length : Int)), (40, vI 0)] [] [] (a1 (lenM rAffine a.subs)) ?_)
    refine qb (vwp_lm (γ := Unit) h (fun x_ _ => mkS [(2, vM rI point), (7, vI x1), (9, V.ref 20 0), (10, vI x_.1), (38, vM rAffine a.subs), (39, vI (a.subs.length : Int)), (40, vI x_.2)] [(20, E.cells [vS x4.name, vM rI x4.dims])] [20]) () (lS) ?_)
    rintro again8 ⟨x6, x7⟩ ⟨⟩ h
    refine rq hC [] [41] [(41, vB (decide (x7 < (a.subs.length : Int))))] [] [] a0 ?_
    refine qs (vci (b := decide (x7 < (a.subs.length : Int))) h (fun c4 h => ?_) (fun c4 h => ?_))
    ·refine qk (qs (qb ?_))
     obtain ⟨x9, hx9, h⟩ := bd h
     refine rq hC [.row (rAffine x9), .nat 21] [11, 12, 42, 43, 44] [(11, vI x7), (12, V.ref 21 0)] [(21, some (E.cells (cAffine x9)))] [(21, true)] (a1 (ix_map rAffine hx9)) ?_
     obtain ⟨x10, hx10, h⟩ := bd h
     refine rq hC [.v (vI x10)] [13, 45, 46, 47] [(13, vI x10)] [] [] (a1 (c_i_Affine_eval G hx10)) ?_
     refine qs ?_
     obtain ⟨x11, hx11, h⟩ := bd h
     obtain ⟨x12, hx12, h⟩ := bd h
     refine rq hC [.row (rI x11), .v (vB x12)] (fr 48 9) [(56, vB (!x12))] [] [] (a2 (ix_map rI hx11) (c_i_within G hx12)) ?_
     refine vci (b := !x12) h (fun c5 h => ?_) (fun c5 h => ?_)
     ·refine rq hC [] [6] [(6, vI (-1))] [] [] a0 ?_
      refine qr ?_
      obtain rfl := so h
      exact eR
     ·refine qk (rk hC [.row (rI x11)] [10, 57, 58, 59, 60, 61, 62, 63, 64, 65] [(10, vI (wr ((wr (x6 * x11)) + x10)))] [] [] (a1 (ix_map rI hx11)) ?_)
      refine rk hC [] [40, 66] [(40, vI (wr (x7 + 1)))] [] [] a0 ?_
      exact ⟨(wr ((wr (x6 * x11)) + x10), wr (x7 + 1)), (), h, lS⟩
    ·refine qxt (rq hC [] [6, 67, 68, 69] [(6, vI (wr (x1 + x6)))] [] [] trivial ?_)
     refine qr ?_
     obtain rfl := so h
     exact eR
 ·refine qxt (rq hC [] [6] [(6, vI (-1))] [] [] trivial ?_)
  refine qr ?_
  obtain rfl := so h
  exact eR
theorem c_i_Program_stmtOk_1 (G : GS) (n : Nat) (a : Access) (c0__a1 : Prog) (c1__a2 : List Int) {r : Bool} (h : i_Program_stmtOk_1 n a c0__a1 c1__a2 = some r) : PCC Tryz.prog G.g 177 [V.agg (cAccess a), V.tp (tProg c0__a1), V.tp [T.sl (List.map rI c1__a2)]] (vB r) := by
 unfold i_Program_stmtOk_1 at h
 refine pmr tyOK Tryz.func177 rfl rfl rfl rfl rfl rfl rfl ?_
 intro w X hC
 refine rq hC [.b true] [3, 4] [(3, V.tp (tAccess a))] [] [] a0 ?_
 obtain ⟨x1, hx1, h⟩ := bd h
 refine rq hC [.v (vI x1)] (fr 4 6) [(4, vB (decide (x1 < 0)))] [] [] (a1 (c_i_Program_cell G hx1)) ?_
 refine qr ?_
 obtain rfl := so h
 exact eR
theorem c_i_reads (G : GS) : ∀ (n : Nat) (e : Expr) {r : (List Access)} (h : i_reads n e = some r), VCC Tryz.prog G.g 134 [] [V.agg (cExpr e)] (ms 0 1 2 rAccess r) [ar 107 1 2 rAccess r] := by
 intro n
 induction n with
 | zero => intro e r h; rw [i_reads.eq_def] at h; cases h
 | succ n ih =>
  intro e r h
  rw [i_reads.eq_def] at h; dsimp only at h
  refine vmr tyOK Tryz.func134 rfl rfl rfl rfl rfl rfl rfl rfl ?_
  intro w X β0 hC hg
  refine rq hC [.b true] [1, 2] [(1, V.tp (tExpr e))] [] [] a0 ?_
  refine qs (rq hC [] [6, 7, 8] [(8, vB (decide (e.kind = 3)))] [] [] trivial ?_)
  refine vci (b := decide (e.kind = 3)) h (fun c1 h => ?_) (fun c1 h => ?_)
  ·refine rq hC [.int 1, .nat 20] [2, 9, 10, 11] [(2, ms 20 1 2 rAccess [e.read])] [(20, some (ar 107 1 2 rAccess [e.read]))] [(20, true)] a0 ?_
   refine qw (lk hC [.ren 2 20 0] [2] [(2, ms 0 1 2 rAccess [e.read])] [(0, some (ar 107 1 2 rAccess [e.read])), (20, none)] [(0, true)]) ?_
   refine qr ?_
   obtain rfl := so h
   exact eW
  ·refine qk (rq hC [] [3] [(3, V.t T.nilS)] [] [] trivial ?_)
   refine qs (rq hC [.nat e.kids.length] (fr 12 4) [(13, vM rExpr e.kids), (14, vI (e.kids.length : Int)), (15, vI 0)] [] [] (a1 (lenM rExpr e.kids)) ?_)
   refine qb (qw (lk hC [.grow 3 20 107] [3] [(3, ms 20 1 2 rAccess [])] [(20, some (ar 107 1 2 rAccess []))] [(20, true)]) ?_)
   refine vwp_lm (γ := Nat) h (fun x_ g_ => mkS [(3, ms 20 g_ 2 rAccess x_.1), (13, vM rExpr e.kids), (14, vI (e.kids.length : Int)), (15, vI x_.2)] [(20, ar 107 g_ 2 rAccess x_.1)] [20]) 1 (lS) ?_
   rintro again4 ⟨x1, x2⟩ g3 h
   refine rq hC [] [16] [(16, vB (decide (x2 < (e.kids.length : Int))))] [] [] a0 ?_
   refine qs (vci (b := decide (x2 < (e.kids.length : Int))) h (fun c2 h => ?_) (fun c2 h => ?_))
   ·refine qk (qs (qb ?_))
    obtain ⟨x5, hx5, h⟩ := bd h
    refine rq hC [.row (rExprC x5), .nat 21] [5, 17, 18] [(5, V.ref 21 0)] [(21, some (E.cells (cExpr x5)))] [(21, true)] (a1 (ix_mapE rExpr hx5 (rExpr_eq x5))) ?_
    obtain ⟨x6, hx6, h⟩ := bd h
    obtain ⟨x7, hx7, h⟩ := bd h
    refine rk hC [.vc [] [22] (ms 0 1 2 rAccess x6) [ar 107 1 2 rAccess x6], .at 2, .fz 22 [21] [], .rows (List.map rAccess x7)] [3, 19, 20, 21, 22] [(3, ms 20 (g3 + 1) 2 rAccess x7)] [(22, none), (20, some (ar 107 (g3 + 1) 2 rAccess x7))] [(22, true)] (a4 (ih x5 hx6) (app_map rAccess hx7) (rwM (r := rAccess) 2 rAccess_len x1) (rwM (r := rAccess) 2 rAccess_len x6)) ?_
    refine rk hC [] [15, 23] [(15, vI (wr (x2 + 1)))] [] [] a0 ?_
    exact ⟨(x7, wr (x2 + 1)), (g3 + 1), h, lS⟩
   ·refine qxt (rq hC [] [2, 24] [(2, ms 20 g3 2 rAccess x1)] [] [] trivial ?_)
    refine qw (lk hC [.ren 2 20 0] [2] [(2, ms 0 1 2 rAccess x1)] [(0, some (ar 107 1 2 rAccess x1)), (20, none)] [(0, true)]) ?_
    refine qr ?_
    obtain rfl := so h
    exact eW
theorem c_l_IndexFunc_Access_k2 (G : GS) (n : Nat) (s : List Access) (fF : FuncId) (fC0 : List T) (fC1 : List T) (f : Access → Option Bool) (hf : ∀ (q0 : Access) r, f q0 = some r → PCC Tryz.prog G.g fF [V.agg (cAccess q0), V.tp fC0, V.tp fC1] (vB r)) {r : Int} (h : l_IndexFunc_Access n s f = some r) : PCC Tryz.prog G.g 210 [vM rAccess s, V.fn fF [V.tp fC0, V.tp fC1]] (vI r) := by
 unfold l_IndexFunc_Access at h
 refine pmr tyOK Tryz.func210 rfl rfl rfl rfl rfl rfl rfl ?_
 intro w X hC
 refine rq hC [] [4] [] [] [] a0 ?_
 refine qs (rq hC [.nat s.length] [6, 7, 8] [(7, vI (s.length : Int)), (8, vI 0)] [] [] (a1 (lenM rAccess s)) ?_)
 refine qb (vwp_lm (γ := Unit) h (fun x_ _ => mkS [(0, vM rAccess s), (1, V.fn fF [V.tp fC0, V.tp fC1]), (7, vI (s.length : Int)), (8, vI x_)] [] []) () (lS) ?_)
 rintro again2 x1 ⟨⟩ h
 refine rq hC [] [9] [(9, vB (decide (x1 < (s.length : Int))))] [] [] a0 ?_
 refine qs (vci (b := decide (x1 < (s.length : Int))) h (fun c1 h => ?_) (fun c1 h => ?_))
 ·refine qk (qs (qb (rq hC [] [5, 10] [(5, vI x1)] [] [] trivial ?_)))
  obtain ⟨x3, hx3, h⟩ := bd h
  obtain ⟨x4, hx4, h⟩ := bd h
  refine rq hC [.row (rAccess x3), .v (vB x4)] (fr 11 6) [(16, vB x4)] [] [] (a2 (ix_map rAccess hx3) (hf x3 _ hx4)) ?_
  refine vci (b := x4) h (fun c2 h => ?_) (fun c2 h => ?_)
  ·refine rq hC [] [4, 17] [(4, vI x1)] [] [] a0 ?_
   refine qr ?_
   obtain rfl := so h
   exact eR
  ·refine qk (rk hC [] [8, 18] [(8, vI (wr (x1 + 1)))] [] [] trivial ?_)
   exact ⟨wr (x1 + 1), (), h, lS⟩
 ·refine qxt (rq hC [] [4] [(4, vI (-1))] [] [] trivial ?_)
  refine qr ?_
  obtain rfl := so h
  exact eR
theorem c_l_ContainsFunc_Access_k2 (G : GS) (n : Nat) (s : List Access) (fF : FuncId) (fC0 : List T) (fC1 : List T) (f : Access → Option Bool) (hf : ∀ (q0 : Access) r, f q0 = some r → PCC Tryz.prog G.g fF [V.agg (cAccess q0), V.tp fC0, V.tp fC1] (vB r)) {r : Bool} (h : l_ContainsFunc_Access n s f = some r) : PCC Tryz.prog G.g 176 [vM rAccess s, V.fn fF [V.tp fC0, V.tp fC1]] (vB r) := by
 unfold l_ContainsFunc_Access at h
 refine pmr tyOK Tryz.func176 rfl rfl rfl rfl rfl rfl rfl ?_
 intro w X hC
 refine rq hC [] [4] [] [] [] a0 ?_
 obtain ⟨x1, hx1, h⟩ := bd h
 refine rq hC [.v (vI x1)] (fr 4 5) [(4, vB (decide ((0 : Int) ≤ x1)))] [] [] (a1 (c_l_IndexFunc_Access_k2 G n s fF fC0 fC1 f hf hx1)) ?_
 refine qr ?_
 obtain rfl := so h
 exact eR
theorem c_i_Program_stmtOk {p} {s} {point} {r} (h : i_Program_stmtOk n p s point = some r) : PCC Tryz.prog G.g 132 [V.agg (cProg p), V.agg (cStmt s), vM rI point] (vB r) := by
 unfold i_Program_stmtOk at h
 refine pmr tyOK Tryz.func132 rfl rfl rfl rfl rfl rfl rfl ?_
 intro w X hC
 refine rq hC [.b true, .b true, .b true] (fr 3 4) [(3, V.tp (tProg p)), (4, V.tp (tStmt s)), (5, V.tp [T.sl (List.map rI point)])] [] [] a0 ?_
 obtain ⟨j1, hj1, h⟩ := jn_e h
 refine vwp_jm (γ := Unit) (j := j1) (r := r) (fun x_ _ => mkS [(6, vB x_)] [] []) ?_ ?_
 ·
  obtain ⟨x2, hx2, h⟩ := bd h
  refine splI h (fun c1 h => ?_) (fun c1 h => ?_)
  ·refine rk hC [.v (vI x2), .b false, .b false, .b false, .b false, .b false, .b false, .b false] (fr 6 15) [(6, vB false)] [] [] (a8 (c_i_Program_cell G hx2) c1 c1 c1 c1 c1 c1 c1) ?_
   exact ⟨false, (), h, lS⟩
  ·obtain ⟨x3, hx3, h⟩ := bd h
   obtain ⟨x4, hx4, h⟩ := bd h
   refine rk hC [.v (vI x2), .b true, .b true, .b true, .vc [] [20] (ms 0 1 2 rAccess x3) [ar 107 1 2 rAccess x3], .b true, .b true, .b true, .v (vB x4), .b true, .b true] (fr 6 15) [(6, vB (!x4))] [(20, some (ar 107 1 2 rAccess x3))] [(20, true)] (a10 (c_i_Program_cell G hx2) c1 c1 c1 (c_i_reads G n s.value hx3) c1 c1 (c_l_ContainsFunc_Access_k2 G n x3 177 (tProg p) [T.sl (List.map rI point)] (fun q0 => i_Program_stmtOk_1 n q0 p point) (fun q0 r h => c_i_Program_stmtOk_1 G n q0 p point h) hx4) c1 c1) ?_
   exact ⟨!x4, (), h, lS⟩
 ·rintro x5 ⟨⟩ h
  subst hj1
  refine qr ?_
  obtain rfl := so h
  exact eR
theorem c_i_arraysOk_1 (G : GS) (n : Nat) (n_a0 : Int) {r : Bool} (h : i_arraysOk_1 n n_a0 = some r) : PCC Tryz.prog G.g 170 [vI n_a0] (vB r) := by
 unfold i_arraysOk_1 at h
 refine pmr tyOK Tryz.func170 rfl rfl rfl rfl rfl rfl rfl ?_
 intro w X hC
 refine rq hC [] [2] [] [] [] a0 ?_
 obtain ⟨x1, hx1, h⟩ := bd h
 refine rq hC [.v (vB x1)] (fr 2 4) [(2, vB (!x1))] [] [] (a1 (c_i_within G hx1)) ?_
 refine qr ?_
 obtain rfl := so h
 exact eR
theorem c_i_arraysOk {list} {r} (h : i_arraysOk n list = some r) : PCC Tryz.prog G.g 126 [vM rArr list] (vB r) := by
 unfold i_arraysOk at h
 refine pmr tyOK Tryz.func126 rfl rfl rfl rfl rfl rfl rfl ?_
 intro w X hC
 refine rq hC [] [2] [] [] [] a0 ?_
 refine qs (rq hC [.nat list.length] [5, 6, 7] [(5, vM rArr list), (6, vI (list.length : Int)), (7, vI 0)] [] [] (a1 (lenM rArr list)) ?_)
 refine qb (vwp_lm (γ := Unit) h (fun x_ _ => mkS [(0, vM rArr list), (5, vM rArr list), (6, vI (list.length : Int)), (7, vI x_)] [] []) () (lS) ?_)
 rintro again2 x1 ⟨⟩ h
 refine rq hC [] [8] [(8, vB (decide (x1 < (list.length : Int))))] [] [] a0 ?_
 refine qs (vci (b := decide (x1 < (list.length : Int))) h (fun c1 h => ?_) (fun c1 h => ?_))
 ·refine qk (qs (qb ?_))
  obtain ⟨x3, hx3, h⟩ := bd h
  refine rq hC [.row (rArr x3), .nat 20] [3, 4, 9, 10, 11] [(3, vI x1), (4, V.ref 20 0)] [(20, sc [vS x3.name, vM rI x3.dims])] [(20, true)] (a1 (ix_map rArr hx3)) ?_
  obtain ⟨j4, hj4, h⟩ := jn_e h
  refine vwp_jm (γ := Unit) (j := j4) (r := r) (fun x_ _ => mkS [(0, vM rArr list), (5, vM rArr list), (6, vI (list.length : Int)), (7, vI x1), (42, vB x_)] [(20, E.cells [vS x3.name, vM rI x3.dims])] [20]) ?_ ?_
  ·
   obtain ⟨x5, hx5, h⟩ := bd h
   refine splI h (fun c2 h => ?_) (fun c2 h => ?_)
   ·refine splI h (fun c3 h => ?_) (fun c3 h => ?_)
    ·obtain ⟨x6, hx6, h⟩ := bd h
     refine splI h (fun c4 h => ?_) (fun c4 h => ?_)
     ·obtain ⟨x7, hx7, h⟩ := bd h
      refine dk hC hmix [.v (vB x5), .b false, .b false, .b false, .b false, .b false, .b false, .b false, .b false, .b false, .b false, .b false, .b false, .b false, .b false, .b false, .b false, .b false, .b false, .nat x3.dims.length, .b false, .v (vB x6), .b false, .b false, .b false, .b false, .b false, .v (vB x7), .b false] (fr 12 31) [(42, vB x7)] [] [] (an (c_i_isArray G hx5) (an c2 (an c2 (an c2 (an c3 (an c3 (an c3 (an c3 (an c3 (an c3 (an c3 (an c3 (an c3 (an c2 (an c3 (an c2 (an (Eq.refl false) (a12 (Eq.refl false) (Eq.refl false) (lenM rI x3.dims) (Eq.refl false) (c_i_within G hx6) (Eq.refl false) (Eq.refl false) c4 c4 c4 (c_l_ContainsFunc_int G n x3.dims 170 (fun q0 => i_arraysOk_1 n q0) (fun q0 r h => c_i_arraysOk_1 G n q0 h) hx7) c4)))))))))))))))))) ?_
      exact ⟨x7, (), h, lS⟩
     ·refine dk hC hmix [.v (vB x5), .b false, .b false, .b false, .b false, .b false, .b false, .b false, .b false, .b false, .b false, .b false, .b false, .b false, .b false, .b false, .b false, .b false, .b false, .nat x3.dims.length, .b false, .v (vB x6), .b false, .b false, .b true, .b true, .b true, .b true] (fr 12 31) [(42, vB true)] [] [] (an (c_i_isArray G hx5) (an c2 (an c2 (an c2 (an c3 (an c3 (an c3 (an c3 (an c3 (an c3 (an c3 (an c3 (an c3 (an c2 (an c3 (an c2 (a12 (Eq.refl false) (Eq.refl false) (Eq.refl false) (lenM rI x3.dims) (Eq.refl false) (c_i_within G hx6) (Eq.refl false) (Eq.refl false) c4 c4 c4 c4))))))))))))))))) ?_
      exact ⟨true, (), h, lS⟩
    ·obtain ⟨x8, hx8, h⟩ := bd h
     refine splI h (fun c5 h => ?_) (fun c5 h => ?_)
     ·obtain ⟨x9, hx9, h⟩ := bd h
      refine splI h (fun c6 h => ?_) (fun c6 h => ?_)
      ·obtain ⟨x10, hx10, h⟩ := bd h
       refine dk hC hmix [.v (vB x5), .b false, .b false, .b false, .b true, .b true, .b true, .b true, .row (rArr x8), .b true, .b true, .b true, .b true, .b true, .b false, .b true, .b false, .b false, .b false, .b false, .nat x3.dims.length, .b false, .v (vB x9), .b false, .b false, .b false, .b false, .b false, .v (vB x10), .b false] (fr 12 31) [(42, vB x10)] [] [] (an (c_i_isArray G hx5) (an c2 (an c2 (an c2 (an c3 (an c3 (an c3 (an c3 (an (ix_map rArr hx8) (an c3 (an c3 (an c3 (an c3 (an c3 (an c2 (an c3 (an c2 (an c5 (a12 c5 c5 (lenM rI x3.dims) c5 (c_i_within G hx9) c5 c5 c6 c6 c6 (c_l_ContainsFunc_int G n x3.dims 170 (fun q0 => i_arraysOk_1 n q0) (fun q0 r h => c_i_arraysOk_1 G n q0 h) hx10) c6))))))))))))))))))) ?_
       exact ⟨x10, (), h, lS⟩
      ·refine dk hC hmix [.v (vB x5), .b false, .b false, .b false, .b true, .b true, .b true, .b true, .row (rArr x8), .b true, .b true, .b true, .b true, .b true, .b false, .b true, .b false, .b false, .b false, .b false, .nat x3.dims.length, .b false, .v (vB x9), .b false, .b false, .b true, .b true, .b true, .b true] (fr 12 31) [(42, vB true)] [] [] (an (c_i_isArray G hx5) (an c2 (an c2 (an c2 (an c3 (an c3 (an c3 (an c3 (an (ix_map rArr hx8) (an c3 (an c3 (an c3 (an c3 (an c3 (an c2 (an c3 (an c2 (a12 c5 c5 c5 (lenM rI x3.dims) c5 (c_i_within G hx9) c5 c5 c6 c6 c6 c6)))))))))))))))))) ?_
       exact ⟨true, (), h, lS⟩
     ·refine dk hC hmix [.v (vB x5), .b false, .b false, .b false, .b true, .b true, .b true, .b true, .row (rArr x8), .b true, .b true, .b true, .b true, .b true, .b false, .b true, .b false, .b true, .b true, .b true, .b true, .b true, .b true, .b true, .b true, .b true, .b true] (fr 12 31) [(42, vB true)] [] [] (an (c_i_isArray G hx5) (an c2 (an c2 (an c2 (an c3 (an c3 (an c3 (an c3 (an (ix_map rArr hx8) (an c3 (an c3 (an c3 (an c3 (an c3 (an c2 (a12 c3 c2 c5 c5 c5 c5 c5 c5 (Eq.refl true) (Eq.refl true) (Eq.refl true) (Eq.refl true))))))))))))))))) ?_
      exact ⟨true, (), h, lS⟩
   ·refine dk hC hmix [.v (vB x5), .b true, .b true, .b true, .b true, .b true, .b true, .b true, .b true, .b true, .b true, .b true, .b true, .b true, .b true, .b true] (fr 12 31) [(42, vB true)] [] [] (an (c_i_isArray G hx5) (an c2 (an c2 (an c2 (a12 c2 c2 (Eq.refl true) (Eq.refl true) (Eq.refl true) (Eq.refl true) (Eq.refl true) (Eq.refl true) (Eq.refl true) (Eq.refl true) (Eq.refl true) (Eq.refl true)))))) ?_
    exact ⟨true, (), h, lS⟩
  ·rintro x11 ⟨⟩ h
   subst hj4
   refine vci (b := x11) h (fun c7 h => ?_) (fun c7 h => ?_)
   ·refine rq hC [] [2] [(2, vB false)] [] [] a0 ?_
    refine qr ?_
    obtain rfl := so h
    exact eR
   ·refine qk (rk hC [] [7, 43] [(7, vI (wr (x1 + 1)))] [] [] trivial ?_)
    exact ⟨wr (x1 + 1), (), h, lS⟩
 ·refine qxt (rq hC [.nat list.length] [2, 44, 45, 46] [(2, vB (decide ((list.length : Int) ≤ 4)))] [] [] (a1 (lenM rArr list)) ?_)
  refine qr ?_
  obtain rfl := so h
  exact eR
theorem c_i_Loop_span {l} {point} {r} (h : i_Loop_span n l point = some r) : PCC Tryz.prog G.g 168 [V.agg (cLoop l), vM rI point] (V.tup [vI r.1, vI r.2]) := by
 unfold i_Loop_span at h
 refine pmr tyOK Tryz.func168 rfl rfl rfl rfl rfl rfl rfl ?_
 intro w X hC
 refine rq hC [.b true] [2, 4, 5] [(2, V.tp (tLoop l))] [] [] a0 ?_
 refine qs ?_
 obtain ⟨x1, hx1, h⟩ := bd h
 obtain ⟨x2, hx2, h⟩ := bd h
 obtain ⟨x3, hx3, h⟩ := bd h
 obtain ⟨x4, hx4, h⟩ := bd h
 refine dk hC hmix [.row (rAffine x1), .v (vI x2), .row (rAffine x3), .v (vI x4)] [6, 7, 12, 13, 14, 15, 16, 17, 18, 19, 20, 21, 22, 23] [(6, vI x2), (7, vI x4)] [] [] (a4 (ix_map rAffine hx1) (c_i_Affine_eval G hx2) (ix_map rAffine hx3) (c_i_Affine_eval G hx4)) ?_
 refine qs (rq hC [.nat l.lo.length] (fr 24 4) [(25, vM rAffine l.lo), (26, vI (l.lo.length : Int)), (27, vI 0)] [] [] (a1 (lenM rAffine l.lo)) ?_)
 refine qb (vwp_lm (γ := Unit) h (fun x_ _ => mkS [(1, vM rI point), (2, V.tp (tLoop l)), (6, vI x_.1), (7, vI x4), (25, vM rAffine l.lo), (26, vI (l.lo.length : Int)), (27, vI x_.2)] [] []) () (lS) ?_)
 rintro again7 ⟨x5, x6⟩ ⟨⟩ h
 refine rq hC [] [28] [(28, vB (decide (x6 < (l.lo.length : Int))))] [] [] a0 ?_
 refine qs (vci (b := decide (x6 < (l.lo.length : Int))) h (fun c1 h => ?_) (fun c1 h => ?_))
 ·refine qk (qs (qb ?_))
  obtain ⟨x8, hx8, h⟩ := bd h
  refine rq hC [.row (rAffine x8), .nat 20] [9, 29, 30] [(9, V.ref 20 0)] [(20, some (E.cells (cAffine x8)))] [(20, true)] (a1 (ix_map rAffine hx8)) ?_
  obtain ⟨x9, hx9, h⟩ := bd h
  refine rk hC [.v (vI x9)] [6, 31, 32, 33, 34, 35] [(6, vI (max x5 x9))] [] [] (a1 (c_i_Affine_eval G hx9)) ?_
  refine rk hC [] [27, 36] [(27, vI (wr (x6 + 1)))] [] [] a0 ?_
  exact ⟨(max x5 x9, wr (x6 + 1)), (), h, lS⟩
 ·refine qxt (qs (rq hC [.nat l.hi.length] (fr 37 4) [(38, vM rAffine l.hi), (39, vI (l.hi.length : Int)), (40, vI 0)] [] [] (a1 (lenM rAffine l.hi)) ?_))
  refine qb (vwp_lm (γ := Unit) h (fun x_ _ => mkS [(1, vM rI point), (6, vI x5), (7, vI x_.1), (38, vM rAffine l.hi), (39, vI (l.hi.length : Int)), (40, vI x_.2)] [] []) () (lS) ?_)
  rintro again12 ⟨x10, x11⟩ ⟨⟩ h
  refine rq hC [] [41] [(41, vB (decide (x11 < (l.hi.length : Int))))] [] [] a0 ?_
  refine qs (vci (b := decide (x11 < (l.hi.length : Int))) h (fun c2 h => ?_) (fun c2 h => ?_))
  ·refine qk (qs (qb ?_))
   obtain ⟨x13, hx13, h⟩ := bd h
   refine rq hC [.row (rAffine x13), .nat 20] [11, 42, 43] [(11, V.ref 20 0)] [(20, some (E.cells (cAffine x13)))] [(20, true)] (a1 (ix_map rAffine hx13)) ?_
   obtain ⟨x14, hx14, h⟩ := bd h
   refine rk hC [.v (vI x14)] [7, 44, 45, 46, 47, 48] [(7, vI (min x10 x14))] [] [] (a1 (c_i_Affine_eval G hx14)) ?_
   refine rk hC [] [40, 49] [(40, vI (wr (x11 + 1)))] [] [] a0 ?_
   exact ⟨(min x10 x14, wr (x11 + 1)), (), h, lS⟩
  ·refine qxt (rq hC [] [4, 5, 50, 51] [(4, vI x5), (5, vI x10)] [] [] trivial ?_)
   refine qr ?_
   obtain rfl := so h
   exact eR
theorem c_i_walking_walk (G : GS) : ∀ (n : Nat) (w_a0 : Walking) (w_a0G2 : Nat) (point : List Int) {r : Bool × Walking} (h : i_walking_walk n w_a0 point = some r), VCC Tryz.prog G.g 171 [E.cells [vM rLoop w_a0.nest, vI w_a0.steps, ms 1 w_a0G2 1 (rL rI) w_a0.out], ar 40 w_a0G2 1 (rL rI) w_a0.out] [V.ref 0 0, vM rI point] (vB r.1) [E.cells [vM rLoop r.2.nest, vI r.2.steps, ms 1 (w_a0G2 + 1) 1 (rL rI) r.2.out], ar 40 (w_a0G2 + 1) 1 (rL rI) r.2.out] := by
 intro n
 induction n with
 | zero => intro w_a0 w_a0G2 point r h; rw [i_walking_walk.eq_def] at h; cases h
 | succ n ih =>
  intro w_a0 w_a0G2 point r h
  rw [i_walking_walk.eq_def] at h; dsimp only at h
  refine vmr tyOK Tryz.func171 rfl rfl rfl rfl rfl rfl rfl rfl ?_
  intro w X β0 hC hg
  refine rq hC [] [4] [] [] [] a0 ?_
  refine qs (rq hC [.nat point.length, .nat w_a0.nest.length] (fr 8 8) [(15, vB (decide ((point.length : Int) = (w_a0.nest.length : Int))))] [] [] (a2 (lenM rI point) (lenM rLoop w_a0.nest)) ?_)
  refine vci (b := decide ((point.length : Int) = (w_a0.nest.length : Int))) h (fun c1 h => ?_) (fun c1 h => ?_)
  ·refine qs ?_
   obtain ⟨x1, hx1, h⟩ := bd h
   obtain ⟨x2, hx2, h⟩ := bd h
   refine dk hC hmix [.vc [] [20] (ms 0 1 1 rI x1) [ar 3 1 1 rI x1], .at 5, .fz 20 [22] [], .int 0, .rows (List.map (rL rI) x2)] (fr 16 11) [] [(20, none), (1, some (ar 40 (w_a0G2 + 1) 1 (rL rI) x2)), (0, sc [vM rLoop w_a0.nest, vI w_a0.steps, ms 1 (w_a0G2 + 1) 1 (rL rI) x2])] [(20, true)] (a4 (G.clone point hx1) (app_map (rL rI) hx2) (rwM (r := (rL rI)) 1 (fun _ => rfl) w_a0.out) (rwM (r := (rL rI)) 1 (fun _ => rfl) [x1])) ?_
   refine rq hC [.nat x2.length] [4, 27, 28, 29, 30, 31, 32] [(4, vB (decide ((x2.length : Int) ≤ 120)))] [] [] (a1 (lenM (rL rI) x2)) ?_
   refine qw (S.le_regenC 0 2 1 w_a0G2 (w_a0G2 + 1) 1 0 (List.map (rL rI) x2).length (e := 40) (rows := List.map (rL rI) x2) (cs := [vM rLoop w_a0.nest, vI w_a0.steps, ms 1 (w_a0G2 + 1) 1 (rL rI) x2]) rfl (by kernel_rfl) (by kernel_rfl) (by kernel_rfl) (by kernel_rfl) hg.2.1) ?_
   refine qr ?_
   obtain rfl := so h
   exact eW
  ·refine qk ?_
   obtain ⟨x3, hx3, h⟩ := bd h
   obtain ⟨x4, hx4, h⟩ := bd h
   refine rq hC [.nat point.length, .row (rLoop x3), .v (V.tup [vI x4.1, vI x4.2])] [5, 6, 33, 34, 35, 36, 37, 38, 39, 40, 41, 42, 43, 44, 45] [(5, vI x4.1), (6, vI x4.2)] [] [] (a3 (lenM rI point) (ix_map rLoop hx3) (c_i_Loop_span G hx4)) ?_
   refine qs (rq hC [] [7, 46] [(7, vI x4.1)] [] [] trivial ?_)
   refine qb (vwp_lm (γ := Nat) h (fun x_ g_ => mkS [(0, V.ref 0 0), (1, vM rI point), (6, vI x4.2), (7, vI x_.2.2.2)] [(0, E.cells [vM rLoop x_.1, vI x_.2.1, ms 1 g_ 1 (rL rI) x_.2.2.1]), (1, ar 40 g_ 1 (rL rI) x_.2.2.1)] [0, 1]) w_a0G2 (lS) ?_)
   rintro again10 ⟨x5, x6, x7, x8⟩ g9 h
   refine qs (rq hC [] [47, 48, 49] [(49, vB (decide (x8 < x4.2)))] [] [] trivial ?_)
   refine vci (b := decide (x8 < x4.2)) h (fun c2 h => ?_) (fun c2 h => ?_)
   ·refine qk (qs (qb (rq hC [] (fr 52 7) [] [(0, sc [vM rLoop x5, vI (wr (x6 + 1)), ms 1 g9 1 (rL rI) x7])] [] trivial ?_)))
    obtain ⟨j11, hj11, h⟩ := jn_e h
    refine vwp_jm (γ := Nat) (j := j11) (r := r) (fun x_ g_ => mkS [(0, V.ref 0 0), (1, vM rI point), (6, vI x4.2), (7, vI x8), (74, vB x_.2.2.2)] [(0, E.cells [vM rLoop x_.1, vI x_.2.1, ms 1 g_ 1 (rL rI) x_.2.2.1]), (1, ar 40 g_ 1 (rL rI) x_.2.2.1)] [0, 1]) ?_ ?_
    ·
     refine splI h (fun c3 h => ?_) (fun c3 h => ?_)
     ·obtain ⟨x12, hx12, h⟩ := bd h
      obtain ⟨x13, hx13, h⟩ := bd h
      obtain ⟨x14, hx14, h⟩ := bd h
      refine rk hC [.b false, .b false, .b false, .vc [] [20] (ms 0 1 1 rI x12) [ar 3 1 1 rI x12], .b false, .b false, .int 0, .b false, .rows (List.map rI x13), .at 3, .fz 20 [71] [], .b false, .vc [0, 1] [] (vB x14.1) [E.cells [vM rLoop x14.2.nest, vI x14.2.steps, ms 1 (g9 + 1) 1 (rL rI) x14.2.out], ar 40 (g9 + 1) 1 (rL rI) x14.2.out], .b false, .b false] (fr 59 16) [(74, vB (!x14.1))] [(20, none), (1, some (ar 40 (g9 + 1) 1 (rL rI) x14.2.out)), (0, sc [vM rLoop x14.2.nest, vI x14.2.steps, ms 1 (g9 + 1) 1 (rL rI) x14.2.out])] [(20, true), (0, true), (1, true)] (an c3 (an c3 (a12 c3 (G.clone point hx12) c3 c3 c3 (app_map rI hx13) (rwM (r := rI) 1 (fun _ => rfl) x12) (rwM (r := rI) 1 (fun _ => rfl) [x8]) c3 (ih (⟨x5, wr (x6 + 1), x7⟩ : Walking) g9 x13 hx14) c3 c3))) ?_
      exact ⟨(x14.2.nest, x14.2.steps, x14.2.out, !x14.1), (g9 + 1), h, lS⟩
     ·refine rk hC [.b true, .b true, .b true, .b true, .b true, .b true, .b true, .b true, .b true] (fr 59 16) [(74, vB true)] [] [] (a9 c3 c3 c3 c3 c3 c3 c3 c3 c3) ?_
      exact ⟨(x5, wr (x6 + 1), x7, true), g9, h, lS⟩
    ·rintro ⟨x15, x16, x17, x18⟩ g19 h
     subst hj11
     refine vci (b := x18) h (fun c4 h => ?_) (fun c4 h => ?_)
     ·refine rq hC [] [4] [(4, vB false)] [] [] a0 ?_
      refine qw (S.le_regenC 0 2 1 w_a0G2 g19 1 0 (List.map (rL rI) x17).length (e := 40) (rows := List.map (rL rI) x17) (cs := [vM rLoop x15, vI x16, ms 1 g19 1 (rL rI) x17]) rfl (by kernel_rfl) (by kernel_rfl) (by kernel_rfl) (by kernel_rfl) hg.2.1) ?_
      refine qr ?_
      obtain rfl := so h
      exact eW
     ·refine qk (rk hC [] [7, 50, 51] [(7, vI (wr (x8 + 1)))] [] [] trivial ?_)
      exact ⟨(x15, x16, x17, wr (x8 + 1)), g19, h, lS⟩
   ·refine qxt (rq hC [] [4] [(4, vB true)] [] [] trivial ?_)
    refine qw (S.le_regenC 0 2 1 w_a0G2 g9 1 0 (List.map (rL rI) x7).length (e := 40) (rows := List.map (rL rI) x7) (cs := [vM rLoop x5, vI x6, ms 1 g9 1 (rL rI) x7]) rfl (by kernel_rfl) (by kernel_rfl) (by kernel_rfl) (by kernel_rfl) hg.2.1) ?_
    refine qr ?_
    obtain rfl := so h
    exact eW
theorem c_i_boundsOk_1 (G : GS) (n : Nat) (a : Affine) (c0__a1 : Int) {r : Bool} (h : i_boundsOk_1 n a c0__a1 = some r) : PCC Tryz.prog G.g 232 [V.agg (cAffine a), V.tp [T.int .i64 c0__a1]] (vB r) := by
 unfold i_boundsOk_1 at h
 refine pmr tyOK Tryz.func232 rfl rfl rfl rfl rfl rfl rfl ?_
 intro w X hC
 refine rq hC [.b true] [2, 3] [(2, V.tp (tAffine a))] [] [] a0 ?_
 obtain ⟨j1, hj1, h⟩ := jn_e h
 refine vwp_jm (γ := Unit) (j := j1) (r := r) (fun x_ _ => mkS [(3, vB x_)] [] []) ?_ ?_
 ·
  obtain ⟨x2, hx2, h⟩ := bd h
  refine splI h (fun c1 h => ?_) (fun c1 h => ?_)
  ·obtain ⟨x3, hx3, h⟩ := bd h
   refine dk hC hmix [.v (vB x2), .b false, .b false, .v (vI x3), .b false, .b false, .b false] (fr 3 10) [(3, vB (decide (c0__a1 < x3)))] [] [] (a7 (c_i_AffineValid G hx2) c1 c1 (c_i_Affine_depth G hx3) c1 c1 c1) ?_
   exact ⟨decide (c0__a1 < x3), (), h, lS⟩
  ·refine dk hC hmix [.v (vB x2), .b true, .b true, .b true, .b true, .b true] (fr 3 10) [(3, vB true)] [] [] (a6 (c_i_AffineValid G hx2) c1 c1 c1 c1 c1) ?_
   exact ⟨true, (), h, lS⟩
 ·rintro x4 ⟨⟩ h
  subst hj1
  refine qr ?_
  obtain rfl := so h
  exact eR
theorem c_i_boundsOk {list} {depth} {r} (h : i_boundsOk n list depth = some r) : PCC Tryz.prog G.g 201 [vM rAffine list, vI depth] (vB r) := by
 unfold i_boundsOk at h
 refine pmr tyOK Tryz.func201 rfl rfl rfl rfl rfl rfl rfl ?_
 intro w X hC
 refine rq hC [.b true] [3, 4] [(3, V.tp [T.int .i64 depth])] [] [] a0 ?_
 obtain ⟨j1, hj1, h⟩ := jn_e h
 refine vwp_jm (γ := Unit) (j := j1) (r := r) (fun x_ _ => mkS [(4, vB x_)] [] []) ?_ ?_
 ·
  obtain ⟨x2, hx2, h⟩ := bd h
  refine splI h (fun c1 h => ?_) (fun c1 h => ?_)
  ·refine rk hC [.nat list.length, .v (vB x2), .b false, .b false, .b false, .b false, .b false] (fr 4 10) [(4, vB false)] [] [] (a7 (lenM rAffine list) (c_i_within G hx2) c1 c1 c1 c1 c1) ?_
   exact ⟨false, (), h, lS⟩
  ·obtain ⟨x3, hx3, h⟩ := bd h
   refine rk hC [.nat list.length, .v (vB x2), .b true, .b true, .b true, .v (vB x3), .b true, .b true] (fr 4 10) [(4, vB (!x3))] [] [] (a8 (lenM rAffine list) (c_i_within G hx2) c1 c1 c1 (c_l_ContainsFunc_Affine_k1 G n list 232 [T.int .i64 depth] (fun q0 => i_boundsOk_1 n q0 depth) (fun q0 r h => c_i_boundsOk_1 G n q0 depth h) hx3) c1 c1) ?_
   exact ⟨!x3, (), h, lS⟩
 ·rintro x4 ⟨⟩ h
  subst hj1
  refine qr ?_
  obtain rfl := so h
  exact eR
theorem c_i_NestValid {nest} {r} (h : i_NestValid n nest = some r) : PCC Tryz.prog G.g 167 [vM rLoop nest] (vB r) := by
 unfold i_NestValid at h
 refine pmr tyOK Tryz.func167 rfl rfl rfl rfl rfl rfl rfl ?_
 intro w X hC
 refine rq hC [] [2] [] [] [] a0 ?_
 refine qs (rq hC [.nat nest.length] [5, 6, 7] [(5, vM rLoop nest), (6, vI (nest.length : Int)), (7, vI 0)] [] [] (a1 (lenM rLoop nest)) ?_)
 refine qb (vwp_lm (γ := Unit) h (fun x_ _ => mkS [(0, vM rLoop nest), (5, vM rLoop nest), (6, vI (nest.length : Int)), (7, vI x_)] [] []) () (lS) ?_)
 rintro again2 x1 ⟨⟩ h
 refine rq hC [] [8] [(8, vB (decide (x1 < (nest.length : Int))))] [] [] a0 ?_
 refine qs (vci (b := decide (x1 < (nest.length : Int))) h (fun c1 h => ?_) (fun c1 h => ?_))
 ·refine qk (qs (qb ?_))
  obtain ⟨x3, hx3, h⟩ := bd h
  refine rq hC [.row (rLoop x3), .nat 20] [3, 4, 9, 10, 11] [(3, vI x1), (4, V.ref 20 0)] [(20, some (E.cells (cLoop x3)))] [(20, true)] (a1 (ix_map rLoop hx3)) ?_
  obtain ⟨j4, hj4, h⟩ := jn_e h
  refine vwp_jm (γ := Unit) (j := j4) (r := r) (fun x_ _ => mkS [(0, vM rLoop nest), (5, vM rLoop nest), (6, vI (nest.length : Int)), (7, vI x1), (23, vB x_)] [(20, E.cells (cLoop x3))] [20]) ?_ ?_
  ·
   obtain ⟨x5, hx5, h⟩ := bd h
   refine splI h (fun c2 h => ?_) (fun c2 h => ?_)
   ·obtain ⟨x6, hx6, h⟩ := bd h
    refine rk hC [.v (vB x5), .b false, .b false, .b false, .b false, .v (vB x6), .b false, .b false] (fr 12 12) [(23, vB (!x6))] [] [] (a8 (c_i_boundsOk G hx5) c2 c2 c2 c2 (c_i_boundsOk G hx6) c2 c2) ?_
    exact ⟨!x6, (), h, lS⟩
   ·refine rk hC [.v (vB x5), .b true, .b true, .b true, .b true, .b true, .b true] (fr 12 12) [(23, vB true)] [] [] (a7 (c_i_boundsOk G hx5) c2 c2 c2 c2 c2 c2) ?_
    exact ⟨true, (), h, lS⟩
  ·rintro x7 ⟨⟩ h
   subst hj4
   refine vci (b := x7) h (fun c3 h => ?_) (fun c3 h => ?_)
   ·refine rq hC [] [2] [(2, vB false)] [] [] a0 ?_
    refine qr ?_
    obtain rfl := so h
    exact eR
   ·refine qk (rk hC [] [7, 24] [(7, vI (wr (x1 + 1)))] [] [] trivial ?_)
    exact ⟨wr (x1 + 1), (), h, lS⟩
 ·refine qxt (rq hC [.nat nest.length] [2, 25, 26, 27] [(2, vB (decide ((nest.length : Int) ≤ 4)))] [] [] (a1 (lenM rLoop nest)) ?_)
  refine qr ?_
  obtain rfl := so h
  exact eR
theorem c_i_NestPoints {nest} {r} (h : i_NestPoints n nest = some r) : VCC Tryz.prog G.g 127 [] [vM rLoop nest] (V.tup [ms 0 1 1 (rL rI) r.1, vB r.2]) [ar 40 1 1 (rL rI) r.1] := by
 unfold i_NestPoints at h
 refine vmr tyOK Tryz.func127 rfl rfl rfl rfl rfl rfl rfl rfl ?_
 intro w X β0 hC hg
 refine rq hC [] [2, 3] [] [] [] a0 ?_
 refine qs ?_
 obtain ⟨x1, hx1, h⟩ := bd h
 refine rq hC [.v (vB x1)] [5, 6, 7] [(7, vB (!x1))] [] [] (a1 (c_i_NestValid G hx1)) ?_
 refine vci (b := !x1) h (fun c1 h => ?_) (fun c1 h => ?_)
 ·refine rq hC [] [2, 3] [(2, V.t T.nilS), (3, vB false)] [] [] a0 ?_
  refine qw (lk hC [.grow 2 0 40] [2] [(2, ms 0 1 1 (rL rI) [])] [(0, some (ar 40 1 1 (rL rI) []))] [(0, true)]) ?_
  refine qr ?_
  obtain rfl := so h
  exact eW
 ·refine qk (rq hC [.nat 20] [4, 8, 9, 10] [(4, V.ref 20 0)] [(20, sc [vM rLoop nest, vI 0, V.t T.nilS])] [(20, true)] trivial ?_)
  refine qs ?_
  obtain ⟨x2, hx2, h⟩ := bd h
  refine rq hC [.at 2, .growc 20 2 21 40, .vc [20, 21] [] (vB x2.1) [E.cells [vM rLoop x2.2.nest, vI x2.2.steps, ms 1 2 1 (rL rI) x2.2.out], ar 40 2 1 (rL rI) x2.2.out]] [11, 12, 13] [(13, vB (!x2.1))] [(21, some (ar 40 2 1 (rL rI) x2.2.out)), (20, sc [vM rLoop x2.2.nest, vI x2.2.steps, ms 21 2 1 (rL rI) x2.2.out])] [(21, true), (20, true), (21, true)] (a1 (c_i_walking_walk G n (⟨nest, 0, []⟩ : Walking) 1 [] hx2)) ?_
  refine vci (b := !x2.1) h (fun c2 h => ?_) (fun c2 h => ?_)
  ·refine rq hC [] [2, 3] [(2, V.t T.nilS), (3, vB false)] [] [] a0 ?_
   refine qw (lk hC [.grow 2 0 40] [2] [(2, ms 0 1 1 (rL rI) [])] [(0, some (ar 40 1 1 (rL rI) []))] [(0, true)]) ?_
   refine qr ?_
   obtain rfl := so h
   exact eW
  ·refine qk (rq hC [] [2, 3, 14, 15, 16, 17] [(2, ms 21 2 1 (rL rI) x2.2.out), (3, vB true)] [] [] trivial ?_)
   refine qw (lk hC [.ren 2 21 0] [2] [(2, ms 0 1 1 (rL rI) x2.2.out)] [(0, some (ar 40 1 1 (rL rI) x2.2.out)), (21, none)] [(0, true)]) ?_
   refine qr ?_
   obtain rfl := so h
   exact eW
theorem c_l_IndexFunc_Stmt_k1 (G : GS) (n : Nat) (s : List Stmt) (fF : FuncId) (fC0 : List T) (f : Stmt → Option Bool) (hf : ∀ (q0 : Stmt) r, f q0 = some r → PCC Tryz.prog G.g fF [V.agg (cStmt q0), V.tp fC0] (vB r)) {r : Int} (h : l_IndexFunc_Stmt n s f = some r) : PCC Tryz.prog G.g 172 [vM rStmt s, V.fn fF [V.tp fC0]] (vI r) := by
 unfold l_IndexFunc_Stmt at h
 refine pmr tyOK Tryz.func172 rfl rfl rfl rfl rfl rfl rfl ?_
 intro w X hC
 refine rq hC [] [4] [] [] [] a0 ?_
 refine qs (rq hC [.nat s.length] [6, 7, 8] [(7, vI (s.length : Int)), (8, vI 0)] [] [] (a1 (lenM rStmt s)) ?_)
 refine qb (vwp_lm (γ := Unit) h (fun x_ _ => mkS [(0, vM rStmt s), (1, V.fn fF [V.tp fC0]), (7, vI (s.length : Int)), (8, vI x_)] [] []) () (lS) ?_)
 rintro again2 x1 ⟨⟩ h
 refine rq hC [] [9] [(9, vB (decide (x1 < (s.length : Int))))] [] [] a0 ?_
 refine qs (vci (b := decide (x1 < (s.length : Int))) h (fun c1 h => ?_) (fun c1 h => ?_))
 ·refine qk (qs (qb (rq hC [] [5, 10] [(5, vI x1)] [] [] trivial ?_)))
  obtain ⟨x3, hx3, h⟩ := bd h
  obtain ⟨x4, hx4, h⟩ := bd h
  refine rq hC [.row (rStmt x3), .v (vB x4)] (fr 11 6) [(16, vB x4)] [] [] (a2 (ix_map rStmt hx3) (hf x3 _ hx4)) ?_
  refine vci (b := x4) h (fun c2 h => ?_) (fun c2 h => ?_)
  ·refine rq hC [] [4, 17] [(4, vI x1)] [] [] a0 ?_
   refine qr ?_
   obtain rfl := so h
   exact eR
  ·refine qk (rk hC [] [8, 18] [(8, vI (wr (x1 + 1)))] [] [] trivial ?_)
   exact ⟨wr (x1 + 1), (), h, lS⟩
 ·refine qxt (rq hC [] [4] [(4, vI (-1))] [] [] trivial ?_)
  refine qr ?_
  obtain rfl := so h
  exact eR
theorem c_l_ContainsFunc_Stmt_k1 (G : GS) (n : Nat) (s : List Stmt) (fF : FuncId) (fC0 : List T) (f : Stmt → Option Bool) (hf : ∀ (q0 : Stmt) r, f q0 = some r → PCC Tryz.prog G.g fF [V.agg (cStmt q0), V.tp fC0] (vB r)) {r : Bool} (h : l_ContainsFunc_Stmt n s f = some r) : PCC Tryz.prog G.g 128 [vM rStmt s, V.fn fF [V.tp fC0]] (vB r) := by
 unfold l_ContainsFunc_Stmt at h
 refine pmr tyOK Tryz.func128 rfl rfl rfl rfl rfl rfl rfl ?_
 intro w X hC
 refine rq hC [] [4] [] [] [] a0 ?_
 obtain ⟨x1, hx1, h⟩ := bd h
 refine rq hC [.v (vI x1)] (fr 4 5) [(4, vB (decide ((0 : Int) ≤ x1)))] [] [] (a1 (c_l_IndexFunc_Stmt_k1 G n s fF fC0 f hf hx1)) ?_
 refine qr ?_
 obtain rfl := so h
 exact eR
theorem c_i_Program_instances {p} {r} (h : i_Program_instances n p = some r) : VCC Tryz.prog G.g 80 [] [V.agg (cProg p)] (V.tup [ms 0 1 3 rInst r.1, vB r.2]) [ar 53 1 3 rInst r.1] := by
 unfold i_Program_instances at h
 refine vmr tyOK Tryz.func80 rfl rfl rfl rfl rfl rfl rfl rfl ?_
 intro w X β0 hC hg
 refine rq hC [.b true] [1, 2, 3] [(1, V.tp (tProg p))] [] [] a0 ?_
 refine qs ?_
 obtain ⟨j1, hj1, h⟩ := jn_e h
 refine vwp_jm (γ := Unit) (j := j1) (r := r) (fun x_ _ => mkS [(1, V.tp (tProg p)), (22, vB x_)] [] []) ?_ ?_
 ·
  obtain ⟨x2, hx2, h⟩ := bd h
  refine splI h (fun c1 h => ?_) (fun c1 h => ?_)
  ·refine rk hC [.v (vB x2), .b false, .b false, .b false, .nat p.parts.length, .b false, .b false] (fr 13 10) [(22, vB (decide ((4 : Int) < (p.parts.length : Int))))] [] [] (a7 (c_i_arraysOk G hx2) c1 c1 c1 (lenM rPart p.parts) c1 c1) ?_
   exact ⟨decide ((4 : Int) < (p.parts.length : Int)), (), h, lS⟩
  ·refine rk hC [.v (vB x2), .b true, .b true, .b true, .b true, .b true] (fr 13 10) [(22, vB true)] [] [] (a6 (c_i_arraysOk G hx2) c1 c1 c1 c1 c1) ?_
   exact ⟨true, (), h, lS⟩
 ·rintro x3 ⟨⟩ h
  subst hj1
  refine vci (b := x3) h (fun c2 h => ?_) (fun c2 h => ?_)
  ·refine rq hC [] [2, 3] [(2, V.t T.nilS), (3, vB false)] [] [] a0 ?_
   refine qw (lk hC [.grow 2 0 53] [2] [(2, ms 0 1 3 rInst [])] [(0, some (ar 53 1 3 rInst []))] [(0, true)]) ?_
   refine qr ?_
   obtain rfl := so h
   exact eW
  ·refine qk (rq hC [] [4] [(4, V.t T.nilS)] [] [] trivial ?_)
   refine qs (rq hC [.nat p.parts.length] (fr 23 4) [(24, vM rPart p.parts), (25, vI (p.parts.length : Int)), (26, vI 0)] [] [] (a1 (lenM rPart p.parts)) ?_)
   refine qb (qw (lk hC [.grow 4 20 53] [4] [(4, ms 20 1 3 rInst [])] [(20, some (ar 53 1 3 rInst []))] [(20, true)]) ?_)
   refine vwp_lm (γ := Nat) h (fun x_ g_ => mkS [(1, V.tp (tProg p)), (4, ms 20 g_ 3 rInst x_.1), (24, vM rPart p.parts), (25, vI (p.parts.length : Int)), (26, vI x_.2)] [(20, ar 53 g_ 3 rInst x_.1)] [20]) 1 (lS) ?_
   rintro again7 ⟨x4, x5⟩ g6 h
   refine rq hC [] [27] [(27, vB (decide (x5 < (p.parts.length : Int))))] [] [] a0 ?_
   refine qs (vci (b := decide (x5 < (p.parts.length : Int))) h (fun c3 h => ?_) (fun c3 h => ?_))
   ·refine qk (qs (qb ?_))
    obtain ⟨x8, hx8, h⟩ := bd h
    refine rq hC [.row (rPart x8), .nat 21, .at 0, .fp 21 [6]] [5, 6, 28, 29, 30] [(5, vI x5), (6, V.tp (tPart x8))] [(21, none)] [(21, true)] (a1 (ix_map rPart hx8)) ?_
    obtain ⟨x9, hx9, h⟩ := bd h
    refine rq hC [.vc [] [22] (V.tup [ms 0 1 1 (rL rI) x9.1, vB x9.2]) [ar 40 1 1 (rL rI) x9.1]] [7, 8, 31, 32, 33, 34, 35, 36] [(7, ms 22 1 1 (rL rI) x9.1), (8, vB x9.2)] [(22, some (ar 40 1 1 (rL rI) x9.1))] [(22, true)] (a1 (c_i_NestPoints G hx9)) ?_
    refine qs ?_
    obtain ⟨j10, hj10, h⟩ := jn_e h
    refine vwp_jm (γ := Unit) (j := j10) (r := r) (fun x_ _ => mkS [(1, V.tp (tProg p)), (4, ms 20 g6 3 rInst x4), (5, vI x5), (6, V.tp (tPart x8)), (7, ms 22 1 1 (rL rI) x9.1), (24, vM rPart p.parts), (25, vI (p.parts.length : Int)), (26, vI x5), (51, vB x_)] [(20, ar 53 g6 3 rInst x4), (22, ar 40 1 1 (rL rI) x9.1)] [20, 21, 22]) ?_ ?_
    ·
     refine splI h (fun c4 h => ?_) (fun c4 h => ?_)
     ·obtain ⟨x11, hx11, h⟩ := bd h
      refine splI h (fun c5 h => ?_) (fun c5 h => ?_)
      ·obtain ⟨x12, hx12, h⟩ := bd h
       refine rk hC [.b false, .b false, .b false, .nat x8.body.length, .b false, .v (vB x11), .b false, .b false, .b false, .b false, .b false, .b false, .v (vB x12), .b false] (fr 37 15) [(51, vB x12)] [] [] (an c4 (an c4 (a12 c4 (lenM rStmt x8.body) c4 (c_i_within G hx11) c4 c4 c5 c5 c5 c5 (c_l_ContainsFunc_Stmt_k1 G n x8.body 129 (tPart x8) (fun q0 => i_Program_instances_1 n q0 x8) (fun q0 r h => c_i_Program_instances_1 G n q0 x8 h) hx12) c5))) ?_
       exact ⟨x12, (), h, lS⟩
      ·refine rk hC [.b false, .b false, .b false, .nat x8.body.length, .b false, .v (vB x11), .b false, .b false, .b true, .b true, .b true, .b true, .b true] (fr 37 15) [(51, vB true)] [] [] (an c4 (a12 c4 c4 (lenM rStmt x8.body) c4 (c_i_within G hx11) c4 c4 c5 c5 c5 c5 c5)) ?_
       exact ⟨true, (), h, lS⟩
     ·refine rk hC [.b true, .b true, .b true, .b true, .b true, .b true, .b true, .b true, .b true, .b true, .b true] (fr 37 15) [(51, vB true)] [] [] (a11 c4 c4 c4 c4 c4 c4 (Eq.refl true) (Eq.refl true) (Eq.refl true) (Eq.refl true) (Eq.refl true)) ?_
      exact ⟨true, (), h, lS⟩
    ·rintro x13 ⟨⟩ h
     subst hj10
     refine vci (b := x13) h (fun c6 h => ?_) (fun c6 h => ?_)
     ·refine rq hC [] [2, 3] [(2, V.t T.nilS), (3, vB false)] [] [] a0 ?_
      refine qw (lk hC [.grow 2 0 53] [2] [(2, ms 0 1 3 rInst [])] [(0, some (ar 53 1 3 rInst []))] [(0, true)]) ?_
      refine qr ?_
      obtain rfl := so h
      exact eW
     ·refine qk (rq hC [.nat x9.1.length] [52, 53, 54] [(52, ms 22 1 1 (rL rI) x9.1), (53, vI (x9.1.length : Int)), (54, vI 0)] [] [] (a1 (lenM (rL rI) x9.1)) ?_)
      refine qb (vwp_lm (γ := Nat) h (fun x_ g_ => mkS [(1, V.tp (tProg p)), (4, ms 20 g_ 3 rInst x_.1), (5, vI x5), (6, V.tp (tPart x8)), (24, vM rPart p.parts), (25, vI (p.parts.length : Int)), (26, vI x5), (52, ms 22 1 1 (rL rI) x9.1), (53, vI (x9.1.length : Int)), (54, vI x_.2)] [(20, ar 53 g_ 3 rInst x_.1), (22, ar 40 1 1 (rL rI) x9.1)] [20, 21, 22]) g6 (lS) ?_)
      rintro again17 ⟨x14, x15⟩ g16 h
      refine rq hC [] [55] [(55, vB (decide (x15 < (x9.1.length : Int))))] [] [] a0 ?_
      refine qs (vci (b := decide (x15 < (x9.1.length : Int))) h (fun c7 h => ?_) (fun c7 h => ?_))
      ·refine qk (qs (qb ?_))
       obtain ⟨x18, hx18, h⟩ := bd h
       refine rq hC [.row ((rL rI) x18)] [10, 56, 57] [(10, vM rI x18)] [] [] (a2 (ixn (rL rI) hx18) (ixr (rL rI) hx18)) ?_
       refine qs ?_
       obtain ⟨x19, hx19, h⟩ := bd h
       refine rq hC [.v (vB x19)] [58, 59, 60] [(60, vB (!x19))] [] [] (a1 (c_i_isPoint G hx19)) ?_
       refine vci (b := !x19) h (fun c8 h => ?_) (fun c8 h => ?_)
       ·refine rq hC [] [2, 3] [(2, V.t T.nilS), (3, vB false)] [] [] a0 ?_
        refine qw (lk hC [.grow 2 0 53] [2] [(2, ms 0 1 3 rInst [])] [(0, some (ar 53 1 3 rInst []))] [(0, true)]) ?_
        refine qr ?_
        obtain rfl := so h
        exact eW
       ·refine qk (rq hC [.nat x8.body.length] (fr 61 4) [(62, vM rStmt x8.body), (63, vI (x8.body.length : Int)), (64, vI 0)] [] [] (a1 (lenM rStmt x8.body)) ?_)
        refine qb (vwp_lm (γ := Nat) h (fun x_ g_ => mkS [(1, V.tp (tProg p)), (4, ms 20 g_ 3 rInst x_.1), (5, vI x5), (6, V.tp (tPart x8)), (10, vM rI x18), (24, vM rPart p.parts), (25, vI (p.parts.length : Int)), (26, vI x5), (52, ms 22 1 1 (rL rI) x9.1), (53, vI (x9.1.length : Int)), (54, vI x15), (62, vM rStmt x8.body), (63, vI (x8.body.length : Int)), (64, vI x_.2)] [(20, ar 53 g_ 3 rInst x_.1), (22, ar 40 1 1 (rL rI) x9.1)] [20, 21, 22]) g16 (lS) ?_)
        rintro again23 ⟨x20, x21⟩ g22 h
        refine rq hC [] [65] [(65, vB (decide (x21 < (x8.body.length : Int))))] [] [] a0 ?_
        refine qs (vci (b := decide (x21 < (x8.body.length : Int))) h (fun c9 h => ?_) (fun c9 h => ?_))
        ·refine qk (qs (qb ?_))
         obtain ⟨x24, hx24, h⟩ := bd h
         refine rq hC [.row (rStmt x24), .nat 23] [11, 12, 66, 67, 68] [(11, vI x21), (12, V.ref 23 0)] [(23, some (E.cells (cStmt x24)))] [(23, true)] (a1 (ix_map rStmt hx24)) ?_
         refine qs ?_
         obtain ⟨x25, hx25, h⟩ := bd h
         refine rq hC [.v (vB x25)] (fr 69 5) [(73, vB (!x25))] [] [] (a1 (c_i_Program_stmtOk G hx25)) ?_
         refine vci (b := !x25) h (fun c10 h => ?_) (fun c10 h => ?_)
         ·refine rq hC [] [2, 3] [(2, V.t T.nilS), (3, vB false)] [] [] a0 ?_
          refine qw (lk hC [.grow 2 0 53] [2] [(2, ms 0 1 3 rInst [])] [(0, some (ar 53 1 3 rInst []))] [(0, true)]) ?_
          refine qr ?_
          obtain rfl := so h
          exact eW
         ·refine qk ?_
          obtain ⟨x26, hx26, h⟩ := bd h
          obtain ⟨x27, hx27, h⟩ := bd h
          refine rk hC [.vc [] [24] (ms 0 1 1 rI x26) [ar 3 1 1 rI x26], .at 4, .fz 24 [78] [], .int 0, .rows (List.map rInst x27)] [4, 74, 75, 76, 77, 78, 79, 80, 81] [(4, ms 20 (g22 + 1) 3 rInst x27)] [(24, none), (20, some (ar 53 (g22 + 1) 3 rInst x27))] [(24, true)] (a4 (G.clone x18 hx26) (app_map rInst hx27) (rwM (r := rInst) 3 rInst_len x20) (rwM (r := rInst) 3 rInst_len [(⟨x5, x21, x26⟩ : Inst)])) ?_
          refine rk hC [] [64, 82] [(64, vI (wr (x21 + 1)))] [] [] a0 ?_
          exact ⟨(x27, wr (x21 + 1)), (g22 + 1), h, lS⟩
        ·refine qxt (rk hC [] [54, 83] [(54, vI (wr (x15 + 1)))] [] [] trivial ?_)
         exact ⟨(x20, wr (x15 + 1)), g22, h, lS⟩
      ·refine qxt (rk hC [] [26, 84] [(26, vI (wr (x5 + 1)))] [] [] trivial ?_)
       exact ⟨(x14, wr (x5 + 1)), g16, h, lS⟩
   ·refine qxt (rq hC [.nat x4.length] [2, 3, 85, 86, 87, 88] [(2, ms 20 g6 3 rInst x4), (3, vB (decide ((x4.length : Int) ≤ 120)))] [] [] (a1 (lenM rInst x4)) ?_)
    refine qw (lk hC [.ren 2 20 0] [2] [(2, ms 0 1 3 rInst x4)] [(0, some (ar 53 1 3 rInst x4)), (20, none)] [(0, true)]) ?_
    refine qr ?_
    obtain rfl := so h
    exact eW
theorem c_i_ProgramValid {p} {r} (h : i_ProgramValid n p = some r) : PCC Tryz.prog G.g 61 [V.agg (cProg p)] (vB r) := by
 unfold i_ProgramValid at h
 refine pmr tyOK Tryz.func61 rfl rfl rfl rfl rfl rfl rfl ?_
 intro w X hC
 refine rq hC [.b true] [1, 2] [(1, V.tp (tProg p))] [] [] a0 ?_
 obtain ⟨x1, hx1, h⟩ := bd h
 refine rq hC [.vc [] [20] (V.tup [ms 0 1 3 rInst x1.1, vB x1.2]) [ar 53 1 3 rInst x1.1]] (fr 3 7) [(4, vB x1.2)] [(20, some (ar 53 1 3 rInst x1.1))] [(20, true)] (a1 (c_i_Program_instances G hx1)) ?_
 refine rq hC [] [2, 10] [(2, vB x1.2)] [] [] a0 ?_
 refine qr ?_
 obtain rfl := so h
 exact eR
theorem c_i_Program_stmt {p} {x} {r} (h : i_Program_stmt n p x = some r) : PCC Tryz.prog G.g 92 [V.agg (cProg p), V.agg (cInst x)] (V.agg (cStmt r)) := by
 unfold i_Program_stmt at h
 refine pmr tyOK Tryz.func92 rfl rfl rfl rfl rfl rfl rfl ?_
 intro w X hC
 refine rq hC [.b true, .b true, .nat 20] [2, 3, 4] [(2, V.tp (tProg p)), (3, V.tp (tInst x)), (4, V.ref 20 0)] [(20, sc [vS [], V.t T.nilS, vI 0, vI 0, V.t T.nilS, vI 0, vS [], V.t T.nilS, V.t T.nilS])] [(20, true)] a0 ?_
 refine qs ?_
 obtain ⟨x1, hx1, h⟩ := bd h
 obtain ⟨x2, hx2, h⟩ := bd h
 refine dk hC hmix [.row (rPart x1), .row (rStmt x2)] (fr 5 11) [] [(20, some (E.cells (cStmt x2)))] [] (a2 (ix_map rPart hx1) (ix_map rStmt hx2)) ?_
 refine qr ?_
 obtain rfl := so h
 exact eR
end Go.Lift
