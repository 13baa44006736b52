/- The walks: the code computes what the plain functions say. -/
import Derived.Test.YthfcdmcpponheaaGreatVModels
import Derived.Test.YthfcdmcpponheaaGreatVWalks0
set_option maxRecDepth 10000
set_option linter.unusedVariables false
namespace Go.Lift
open Go Go.Proofs
theorem c_l_ContainsFunc_int (G : GS) (n : Nat) (s : List Int) (fF : FuncId) (f : Int → Option Bool) (hf : ∀ (q0 : Int) r, f q0 = some r → PCC Tryz.prog G.g fF [vI q0] (vB r)) {r : Bool} (h : l_ContainsFunc_int n s f = some r) : PCC Tryz.prog G.g 87 [vM rI s, V.fn fF []] (vB r) := by
 unfold l_ContainsFunc_int at h
 refine pmr tyOK Tryz.func87 rfl rfl rfl rfl rfl rfl rfl ?_
 intro w X hC
 refine rq hC [] [4] [] [] [] trivial ?_
 obtain ⟨x1, hx1, h⟩ := bd h
 refine rq hC [.v (vI x1)] [4, 5, 6, 7, 8] [(4, vB (decide ((0 : Int) ≤ x1)))] [] [] (an (c_l_IndexFunc_int G n s fF f hf hx1) trivial) ?_
 refine vwp_ret ?_
 obtain rfl := so h
 exact eR
theorem c_i_AffineValid (G : GS) (n : Nat) (a : Affine) {r : Bool} (h : i_AffineValid n a = some r) : PCC Tryz.prog G.g 205 [V.agg [vM rI a.coefs, vI a.const]] (vB r) := by
 unfold i_AffineValid at h
 refine pmr tyOK Tryz.func205 rfl rfl rfl rfl rfl rfl rfl ?_
 intro w X hC
 refine rq hC [.b true] [1, 2] [(1, V.tp [T.sl (List.map rI a.coefs), T.int .i64 a.const])] [] [] trivial ?_
 obtain ⟨j1, hj1, h⟩ := jn_e h
 refine vwp_jm (γ := Unit) (j := j1) (r := r) (fun (x_ : Bool) (g_ : Unit) => mkS [(2, vB x_)] [] []) ?_ ?_
 ·
  refine splI h (fun c1 h => ?_) (fun c1 h => ?_)
  ·refine rk hC [.nat a.coefs.length, .b false, .b false, .b false, .b false, .b false, .b false, .b false, .b false, .b false] [2, 3, 4, 5, 6, 7, 8, 9, 10, 11, 12, 13, 14, 15, 16, 17] [(2, vB false)] [] [] (an (lenM rI a.coefs) (an c1 (an c1 (an c1 (an c1 (an (Eq.refl false) (an (Eq.refl false) (an (Eq.refl false) (an (Eq.refl false) (an (Eq.refl false) trivial)))))))))) ?_
   exact ⟨false, (), h, lS⟩
  ·obtain ⟨x2, hx2, h⟩ := bd h
   refine splI h (fun c2 h => ?_) (fun c2 h => ?_)
   ·refine rk hC [.nat a.coefs.length, .b true, .b true, .b true, .v (vB x2), .b true, .b false, .b false, .b false, .b false, .b false] [2, 3, 4, 5, 6, 7, 8, 9, 10, 11, 12, 13, 14, 15, 16, 17] [(2, vB false)] [] [] (an (lenM rI a.coefs) (an c1 (an c1 (an c1 (an (c_i_isConst G n a.const hx2) (an c1 (an c2 (an c2 (an c2 (an c2 (an c2 trivial))))))))))) ?_
    exact ⟨false, (), h, lS⟩
   ·obtain ⟨x3, hx3, h⟩ := bd h
    refine rk hC [.nat a.coefs.length, .b true, .b true, .b true, .v (vB x2), .b true, .b true, .b true, .b true, .v (vB x3), .b true, .b true] [2, 3, 4, 5, 6, 7, 8, 9, 10, 11, 12, 13, 14, 15, 16, 17] [(2, vB (!x3))] [] [] (an (lenM rI a.coefs) (an c1 (an c1 (an c1 (an (c_i_isConst G n a.const hx2) (an c1 (an c2 (an c2 (an c2 (an (c_l_ContainsFunc_int G n a.coefs 236 (fun q0 => i_AffineValid_1 n q0) (fun q0 r h => c_i_AffineValid_1 G n q0 h) hx3) (an c2 (an c2 trivial)))))))))))) ?_
    exact ⟨!x3, (), h, lS⟩
 ·rintro x4 ⟨⟩ h
  subst hj1
  refine vwp_ret ?_
  obtain rfl := so h
  exact eR
theorem c_i_Affine_depth (G : GS) (n : Nat) (a : Affine) {r : Int} (h : i_Affine_depth n a = some r) : PCC Tryz.prog G.g 206 [V.agg [vM rI a.coefs, vI a.const]] (vI r) := by
 unfold i_Affine_depth at h
 refine pmr tyOK Tryz.func206 rfl rfl rfl rfl rfl rfl rfl ?_
 intro w X hC
 refine rq hC [.b true] [1, 2] [(1, V.tp [T.sl (List.map rI a.coefs), T.int .i64 a.const])] [] [] trivial ?_
 refine rq hC [.nat a.coefs.length] [3, 4, 5, 6] [(3, vI (a.coefs.length : Int))] [] [] (an (lenM rI a.coefs) trivial) ?_
 refine vwp_seq ?_
 refine vwp_block ?_
 refine vwp_lm (γ := Unit) h (fun (x_ : Int) (g_ : Unit) => mkS [(1, V.tp [T.sl (List.map rI a.coefs), T.int .i64 a.const]), (3, vI x_)] [] []) () (lS) ?_
 rintro again2 x1 ⟨⟩ h
 refine vwp_seq ?_
 obtain ⟨j3, hj3, h⟩ := jn_e h
 refine vwp_jm (γ := Unit) (j := j3) (r := r) (fun (x_ : Bool) (g_ : Unit) => mkS [(1, V.tp [T.sl (List.map rI a.coefs), T.int .i64 a.const]), (3, vI x1), (17, vB x_)] [] []) ?_ ?_
 ·
  refine splI h (fun c1 h => ?_) (fun c1 h => ?_)
  ·refine rk hC [.b false, .b false, .b false, .b false, .b false, .b false, .b false, .b false] [7, 8, 9, 10, 11, 12, 13, 14, 15, 16, 17] [(17, vB false)] [] [] (an c1 (an c1 (an c1 (an c1 (an c1 (an c1 (an c1 (an c1 trivial)))))))) ?_
   exact ⟨false, (), h, lS⟩
  ·obtain ⟨x4, hx4, h⟩ := bd h
   refine rk hC [.b true, .b true, .b true, .b true, .b true, .row (rI x4), .b true, .b true, .b true] [7, 8, 9, 10, 11, 12, 13, 14, 15, 16, 17] [(17, vB (decide (x4 = 0)))] [] [] (an c1 (an c1 (an c1 (an c1 (an c1 (an (ix_map rI hx4) (an c1 (an c1 (an c1 trivial))))))))) ?_
   exact ⟨decide (x4 = 0), (), h, lS⟩
 ·rintro x5 ⟨⟩ h
  subst hj3
  refine vci (b := x5) h (fun c2 h => ?_) (fun c2 h => ?_)
  ·refine vwp_skip ?_
   refine vwp_block ?_
   refine rk hC [] [3, 18, 19] [(3, vI (wr (x1 - 1)))] [] [] trivial ?_
   exact ⟨wr (x1 - 1), (), h, lS⟩
  ·refine vwp_exit ?_
   refine rq hC [] [2, 20] [(2, vI x1)] [] [] trivial ?_
   refine vwp_ret ?_
   obtain rfl := so h
   exact eR
theorem c_i_accessOk_1 (G : GS) (n : Nat) (s : Affine) (c0__a1 : Int) {r : Bool} (h : i_accessOk_1 n s c0__a1 = some r) : PCC Tryz.prog G.g 204 [V.agg [vM rI s.coefs, vI s.const], V.tp [T.int .i64 c0__a1]] (vB r) := by
 unfold i_accessOk_1 at h
 refine pmr tyOK Tryz.func204 rfl rfl rfl rfl rfl rfl rfl ?_
 intro w X hC
 refine rq hC [.b true] [2, 3] [(2, V.tp [T.sl (List.map rI s.coefs), T.int .i64 s.const])] [] [] trivial ?_
 obtain ⟨j1, hj1, h⟩ := jn_e h
 refine vwp_jm (γ := Unit) (j := j1) (r := r) (fun (x_ : Bool) (g_ : Unit) => mkS [(3, vB x_)] [] []) ?_ ?_
 ·
  obtain ⟨x2, hx2, h⟩ := bd h
  refine splI h (fun c1 h => ?_) (fun c1 h => ?_)
  ·obtain ⟨x3, hx3, h⟩ := bd h
   refine dk hC hmix [.v (vB x2), .b false, .b false, .v (vI x3), .b false, .b false, .b false] [3, 4, 5, 6, 7, 8, 9, 10, 11, 12] [(3, vB (decide (c0__a1 < x3)))] [] [] (an (c_i_AffineValid G n s hx2) (an c1 (an c1 (an (c_i_Affine_depth G n s hx3) (an c1 (an c1 (an c1 trivial))))))) ?_
   exact ⟨decide (c0__a1 < x3), (), h, lS⟩
  ·refine dk hC hmix [.v (vB x2), .b true, .b true, .b true, .b true, .b true] [3, 4, 5, 6, 7, 8, 9, 10, 11, 12] [(3, vB true)] [] [] (an (c_i_AffineValid G n s hx2) (an c1 (an c1 (an c1 (an c1 (an c1 trivial)))))) ?_
   exact ⟨true, (), h, lS⟩
 ·rintro x4 ⟨⟩ h
  subst hj1
  refine vwp_ret ?_
  obtain rfl := so h
  exact eR
theorem c_l_IndexFunc_Affine_k1 (G : GS) (n : Nat) (s : List Affine) (fF : FuncId) (fC0 : List T) (f : Affine → Option Bool) (hf : ∀ (q0 : Affine) r, f q0 = some r → PCC Tryz.prog G.g fF [V.agg [vM rI q0.coefs, vI q0.const], V.tp fC0] (vB r)) {r : Int} (h : l_IndexFunc_Affine n s f = some r) : PCC Tryz.prog G.g 234 [vM rAffine s, V.fn fF [V.tp fC0]] (vI r) := by
 unfold l_IndexFunc_Affine at h
 refine pmr tyOK Tryz.func234 rfl rfl rfl rfl rfl rfl rfl ?_
 intro w X hC
 refine rq hC [] [4] [] [] [] trivial ?_
 refine vwp_seq ?_
 refine rq hC [.nat s.length] [6, 7, 8] [(7, vI (s.length : Int)), (8, vI 0)] [] [] (an (lenM rAffine s) trivial) ?_
 refine vwp_block ?_
 refine vwp_lm (γ := Unit) h (fun (x_ : Int) (g_ : Unit) => mkS [(0, vM rAffine s), (1, V.fn fF [V.tp fC0]), (7, vI (s.length : Int)), (8, vI x_)] [] []) () (lS) ?_
 rintro again2 x1 ⟨⟩ h
 refine rq hC [] [9] [(9, vB (decide (x1 < (s.length : Int))))] [] [] trivial ?_
 refine vwp_seq ?_
 refine vci (b := decide (x1 < (s.length : Int))) h (fun c1 h => ?_) (fun c1 h => ?_)
 ·refine vwp_skip ?_
  refine vwp_seq ?_
  refine vwp_block ?_
  refine rq hC [] [5, 10] [(5, vI x1)] [] [] trivial ?_
  obtain ⟨x3, hx3, h⟩ := bd h
  obtain ⟨x4, hx4, h⟩ := bd h
  refine rq hC [.row (rAffine x3), .v (vB x4)] [11, 12, 13, 14, 15, 16] [(16, vB x4)] [] [] (an (ix_map rAffine hx3) (an (hf x3 _ hx4) trivial)) ?_
  refine vci (b := x4) h (fun c2 h => ?_) (fun c2 h => ?_)
  ·refine rq hC [] [4, 17] [(4, vI x1)] [] [] trivial ?_
   refine vwp_ret ?_
   obtain rfl := so h
   exact eR
  ·refine vwp_skip ?_
   refine rk hC [] [8, 18] [(8, vI (wr (x1 + 1)))] [] [] trivial ?_
   exact ⟨wr (x1 + 1), (), h, lS⟩
 ·refine vwp_exit ?_
  refine rq hC [] [4] [(4, vI (-1))] [] [] trivial ?_
  refine vwp_ret ?_
  obtain rfl := so h
  exact eR
theorem c_l_ContainsFunc_Affine_k1 (G : GS) (n : Nat) (s : List Affine) (fF : FuncId) (fC0 : List T) (f : Affine → Option Bool) (hf : ∀ (q0 : Affine) r, f q0 = some r → PCC Tryz.prog G.g fF [V.agg [vM rI q0.coefs, vI q0.const], V.tp fC0] (vB r)) {r : Bool} (h : l_ContainsFunc_Affine n s f = some r) : PCC Tryz.prog G.g 203 [vM rAffine s, V.fn fF [V.tp fC0]] (vB r) := by
 unfold l_ContainsFunc_Affine at h
 refine pmr tyOK Tryz.func203 rfl rfl rfl rfl rfl rfl rfl ?_
 intro w X hC
 refine rq hC [] [4] [] [] [] trivial ?_
 obtain ⟨x1, hx1, h⟩ := bd h
 refine rq hC [.v (vI x1)] [4, 5, 6, 7, 8] [(4, vB (decide ((0 : Int) ≤ x1)))] [] [] (an (c_l_IndexFunc_Affine_k1 G n s fF fC0 f hf hx1) trivial) ?_
 refine vwp_ret ?_
 obtain rfl := so h
 exact eR
theorem c_i_accessOk (G : GS) (n : Nat) (a : Access) (depth : Int) {r : Bool} (h : i_accessOk n a depth = some r) : PCC Tryz.prog G.g 173 [V.agg [vS a.array, vM rAffine a.subs], vI depth] (vB r) := by
 unfold i_accessOk at h
 refine pmr tyOK Tryz.func173 rfl rfl rfl rfl rfl rfl rfl ?_
 intro w X hC
 refine rq hC [.b true, .b true] [2, 3, 4] [(2, V.tp [T.str a.array, T.sl (List.map rAffine a.subs)]), (3, V.tp [T.int .i64 depth])] [] [] trivial ?_
 obtain ⟨j1, hj1, h⟩ := jn_e h
 refine vwp_jm (γ := Unit) (j := j1) (r := r) (fun (x_ : Bool) (g_ : Unit) => mkS [(4, vB x_)] [] []) ?_ ?_
 ·
  obtain ⟨x2, hx2, h⟩ := bd h
  refine splI h (fun c1 h => ?_) (fun c1 h => ?_)
  ·refine rk hC [.v (vB x2), .b false, .b false, .b false, .b false, .b false, .b false, .b false, .b false, .b false, .b false, .b false] [4, 5, 6, 7, 8, 9, 10, 11, 12, 13, 14, 15, 16, 17, 18, 19, 20] [(4, vB false)] [] [] (an (c_i_isArray G n a.array hx2) (an c1 (an c1 (an c1 (an c1 (an c1 (an (Eq.refl false) (an (Eq.refl false) (an (Eq.refl false) (an (Eq.refl false) (an (Eq.refl false) (an (Eq.refl false) trivial)))))))))))) ?_
   exact ⟨false, (), h, lS⟩
  ·obtain ⟨x3, hx3, h⟩ := bd h
   refine splI h (fun c2 h => ?_) (fun c2 h => ?_)
   ·refine rk hC [.v (vB x2), .b true, .b true, .b true, .nat a.subs.length, .b true, .v (vB x3), .b true, .b false, .b false, .b false, .b false, .b false, .b false] [4, 5, 6, 7, 8, 9, 10, 11, 12, 13, 14, 15, 16, 17, 18, 19, 20] [(4, vB false)] [] [] (an (c_i_isArray G n a.array hx2) (an c1 (an c1 (an c1 (an (lenM rAffine a.subs) (an c1 (an (c_i_within G n (a.subs.length : Int) 1 2 hx3) (an c1 (an c2 (an c2 (an c2 (an c2 (an c2 (an c2 trivial)))))))))))))) ?_
    exact ⟨false, (), h, lS⟩
   ·obtain ⟨x4, hx4, h⟩ := bd h
    refine rk hC [.v (vB x2), .b true, .b true, .b true, .nat a.subs.length, .b true, .v (vB x3), .b true, .b true, .b true, .b true, .b true, .v (vB x4), .b true, .b true] [4, 5, 6, 7, 8, 9, 10, 11, 12, 13, 14, 15, 16, 17, 18, 19, 20] [(4, vB (!x4))] [] [] (an (c_i_isArray G n a.array hx2) (an c1 (an c1 (an c1 (an (lenM rAffine a.subs) (an c1 (an (c_i_within G n (a.subs.length : Int) 1 2 hx3) (an c1 (an c2 (an c2 (an c2 (an c2 (an (c_l_ContainsFunc_Affine_k1 G n a.subs 204 [T.int .i64 depth] (fun q0 => i_accessOk_1 n q0 depth) (fun q0 r h => c_i_accessOk_1 G n q0 depth h) hx4) (an c2 (an c2 trivial))))))))))))))) ?_
    exact ⟨!x4, (), h, lS⟩
 ·rintro x5 ⟨⟩ h
  subst hj1
  refine vwp_ret ?_
  obtain rfl := so h
  exact eR
theorem c_i_noAffine (G : GS) (n : Nat) (a : Affine) {r : Bool} (h : i_noAffine n a = some r) : PCC Tryz.prog G.g 207 [V.agg [vM rI a.coefs, vI a.const]] (vB r) := by
 unfold i_noAffine at h
 refine pmr tyOK Tryz.func207 rfl rfl rfl rfl rfl rfl rfl ?_
 intro w X hC
 refine rq hC [.b true] [1, 2] [(1, V.tp [T.sl (List.map rI a.coefs), T.int .i64 a.const])] [] [] trivial ?_
 obtain ⟨j1, hj1, h⟩ := jn_e h
 refine vwp_jm (γ := Unit) (j := j1) (r := r) (fun (x_ : Bool) (g_ : Unit) => mkS [(2, vB x_)] [] []) ?_ ?_
 ·
  refine splI h (fun c1 h => ?_) (fun c1 h => ?_)
  ·refine rk hC [.nat a.coefs.length, .b false, .b false, .b false, .b false] [2, 3, 4, 5, 6, 7, 8, 9, 10, 11] [(2, vB false)] [] [] (an (lenM rI a.coefs) (an c1 (an c1 (an c1 (an c1 trivial))))) ?_
   exact ⟨false, (), h, lS⟩
  ·refine rk hC [.nat a.coefs.length, .b true, .b true, .b true, .b true] [2, 3, 4, 5, 6, 7, 8, 9, 10, 11] [(2, vB (decide (a.const = 0)))] [] [] (an (lenM rI a.coefs) (an c1 (an c1 (an c1 (an c1 trivial))))) ?_
   exact ⟨decide (a.const = 0), (), h, lS⟩
 ·rintro x2 ⟨⟩ h
  subst hj1
  refine vwp_ret ?_
  obtain rfl := so h
  exact eR
theorem c_i_noAccess (G : GS) (n : Nat) (a : Access) {r : Bool} (h : i_noAccess n a = some r) : PCC Tryz.prog G.g 208 [V.agg [vS a.array, vM rAffine a.subs]] (vB r) := by
 unfold i_noAccess at h
 refine pmr tyOK Tryz.func208 rfl rfl rfl rfl rfl rfl rfl ?_
 intro w X hC
 refine rq hC [.b true] [1, 2] [(1, V.tp [T.str a.array, T.sl (List.map rAffine a.subs)])] [] [] trivial ?_
 obtain ⟨j1, hj1, h⟩ := jn_e h
 refine vwp_jm (γ := Unit) (j := j1) (r := r) (fun (x_ : Bool) (g_ : Unit) => mkS [(2, vB x_)] [] []) ?_ ?_
 ·
  refine splI h (fun c1 h => ?_) (fun c1 h => ?_)
  ·refine rk hC [.b false, .b false, .b false, .b false, .b false] [2, 3, 4, 5, 6, 7, 8, 9, 10, 11] [(2, vB false)] [] [] (an c1 (an c1 (an c1 (an c1 (an c1 trivial))))) ?_
   exact ⟨false, (), h, lS⟩
  ·refine rk hC [.b true, .b true, .b true, .nat a.subs.length, .b true, .b true] [2, 3, 4, 5, 6, 7, 8, 9, 10, 11] [(2, vB (decide ((a.subs.length : Int) = 0)))] [] [] (an c1 (an c1 (an c1 (an (lenM rAffine a.subs) (an c1 (an c1 trivial)))))) ?_
   exact ⟨decide ((a.subs.length : Int) = 0), (), h, lS⟩
 ·rintro x2 ⟨⟩ h
  subst hj1
  refine vwp_ret ?_
  obtain rfl := so h
  exact eR
theorem c_i_isOp (G : GS) (n : Nat) (kind : Int) {r : Bool} (h : i_isOp n kind = some r) : PCC Tryz.prog G.g 209 [vI kind] (vB r) := by
 unfold i_isOp at h
 refine pmr tyOK Tryz.func209 rfl rfl rfl rfl rfl rfl rfl ?_
 intro w X hC
 refine rq hC [] [2] [] [] [] trivial ?_
 obtain ⟨x1, hx1, h⟩ := bd h
 refine rq hC [.v (vB x1)] [2, 3, 4] [(2, vB x1)] [] [] (an (c_i_within G n kind 4 6 hx1) trivial) ?_
 refine vwp_ret ?_
 obtain rfl := so h
 exact eR
theorem c_i_exprScan (G : GS) : ∀ (n : Nat) (e : Expr) (depth : Int) (deep : Int) (count : Int) {r : Bool × Int} (h : i_exprScan n e depth deep count = some r), VCC Tryz.prog G.g 174 [E.cells [vI count]] [V.agg [vI e.kind, vI e.num, vM rI e.index.coefs, vI e.index.const, vS e.read.array, vM rAffine e.read.subs, vM rExpr e.kids], vI depth, vI deep, V.ref 0 0] (vB r.1) [E.cells [vI r.2]] := by
 intro n
 induction n with
 | zero => intro e depth deep count r h; rw [i_exprScan.eq_def] at h; cases h
 | succ n ih =>
  intro e depth deep count r h
  rw [i_exprScan.eq_def] at h; dsimp only at h
  refine vmr tyOK Tryz.func174 rfl rfl rfl rfl rfl rfl rfl rfl ?_
  intro w X β0 hC hg
  refine rq hC [.b true] [4, 8] [(4, V.tp [T.int .i64 e.kind, T.int .i64 e.num, T.sl (List.map rI e.index.coefs), T.int .i64 e.index.const, T.str e.read.array, T.sl (List.map rAffine e.read.subs), T.sl (List.map rExpr e.kids)])] [] [] trivial ?_
  refine rq hC [] [9, 10, 11, 12, 13] [] [(0, some (E.cells [vI (wr (count + 1))]))] [] trivial ?_
  refine vwp_seq ?_
  obtain ⟨j1, hj1, h⟩ := jn_e h
  refine vwp_jm (γ := Unit) (j := j1) (r := r) (fun (x_ : Bool) (g_ : Unit) => mkS [(1, vI depth), (2, vI deep), (3, V.ref 0 0), (4, V.tp [T.int .i64 e.kind, T.int .i64 e.num, T.sl (List.map rI e.index.coefs), T.int .i64 e.index.const, T.str e.read.array, T.sl (List.map rAffine e.read.subs), T.sl (List.map rExpr e.kids)]), (21, vB x_)] [(0, E.cells [vI (wr (count + 1))])] [0]) ?_ ?_
  ·
   refine splI h (fun c1 h => ?_) (fun c1 h => ?_)
   ·refine rk hC [.b false, .b false, .b false] [14, 15, 16, 17, 18, 19, 20, 21] [(21, vB (decide ((5 : Int) < deep)))] [] [] (an c1 (an c1 (an c1 trivial))) ?_
    exact ⟨decide ((5 : Int) < deep), (), h, lS⟩
   ·refine rk hC [.b true, .b true, .b true] [14, 15, 16, 17, 18, 19, 20, 21] [(21, vB true)] [] [] (an c1 (an c1 (an c1 trivial))) ?_
    exact ⟨true, (), h, lS⟩
  ·rintro x2 ⟨⟩ h
   subst hj1
   refine vci (b := x2) h (fun c2 h => ?_) (fun c2 h => ?_)
   ·refine rq hC [] [8] [(8, vB false)] [] [] trivial ?_
    refine vwp_ret ?_
    obtain rfl := so h
    exact eW
   ·refine vwp_skip ?_
    refine vwp_seq ?_
    obtain ⟨j3, hj3, h⟩ := jn_e h
    refine vwp_jm (γ := Unit) (j := j3) (r := r) (fun (x_ : Bool) (g_ : Unit) => mkS [(1, vI depth), (2, vI deep), (3, V.ref 0 0), (4, V.tp [T.int .i64 e.kind, T.int .i64 e.num, T.sl (List.map rI e.index.coefs), T.int .i64 e.index.const, T.str e.read.array, T.sl (List.map rAffine e.read.subs), T.sl (List.map rExpr e.kids)]), (51, vB x_)] [(0, E.cells [vI (wr (count + 1))])] [0]) ?_ ?_
    ·
     refine splI h (fun c3 h => ?_) (fun c3 h => ?_)
     ·refine splI h (fun c4 h => ?_) (fun c4 h => ?_)
      ·refine splI h (fun c5 h => ?_) (fun c5 h => ?_)
       ·refine rk hC [.b false, .b false, .b false, .b false, .b false, .b false, .b false, .b false, .b false, .b false, .b false, .b false, .b false, .b false, .b false, .b false, .b false, .b false, .b false, .b false, .b false, .b false, .b false, .b false, .b false, .b false] [22, 23, 24, 25, 26, 27, 28, 29, 30, 31, 32, 33, 34, 35, 36, 37, 38, 39, 40, 41, 42, 43, 44, 45, 46, 47, 48, 49, 50, 51] [(51, vB false)] [] [] (an c3 (an c3 (an c3 (an c3 (an (Eq.refl false) (an (Eq.refl false) (an (Eq.refl false) (an (Eq.refl false) (an c4 (an c4 (an c4 (an c4 (an (Eq.refl false) (an c4 (an (Eq.refl false) (an (Eq.refl false) (an (Eq.refl false) (an (Eq.refl false) (an (Eq.refl false) (an c5 (an c5 (an c5 (an c5 (an (Eq.refl false) (an c5 (an (Eq.refl false) trivial)))))))))))))))))))))))))) ?_
        exact ⟨false, (), h, lS⟩
       ·obtain ⟨x4, hx4, h⟩ := bd h
        refine rk hC [.b false, .b false, .b false, .b false, .b false, .b false, .b false, .b false, .b false, .b false, .b false, .b false, .b false, .b false, .b false, .b false, .b false, .b false, .b false, .b true, .b true, .b true, .v (vB x4), .b true, .b false, .b true, .b false] [22, 23, 24, 25, 26, 27, 28, 29, 30, 31, 32, 33, 34, 35, 36, 37, 38, 39, 40, 41, 42, 43, 44, 45, 46, 47, 48, 49, 50, 51] [(51, vB (!x4))] [] [] (an c3 (an c3 (an c3 (an c3 (an (Eq.refl false) (an (Eq.refl false) (an (Eq.refl false) (an (Eq.refl false) (an c4 (an c4 (an c4 (an c4 (an (Eq.refl false) (an c4 (an (Eq.refl false) (an (Eq.refl false) (an (Eq.refl false) (an (Eq.refl false) (an (Eq.refl false) (an c5 (an c5 (an c5 (an (c_i_noAccess G n e.read hx4) (an c5 (an (Eq.refl false) (an c5 (an (Eq.refl false) trivial))))))))))))))))))))))))))) ?_
        exact ⟨!x4, (), h, lS⟩
      ·obtain ⟨x5, hx5, h⟩ := bd h
       refine splI h (fun c6 h => ?_) (fun c6 h => ?_)
       ·refine splI h (fun c7 h => ?_) (fun c7 h => ?_)
        ·refine rk hC [.b false, .b false, .b false, .b false, .b false, .b false, .b false, .b false, .b true, .b true, .b true, .v (vB x5), .b true, .b false, .b true, .b false, .b false, .b false, .b false, .b false, .b false, .b false, .b false, .b false, .b false, .b false, .b false] [22, 23, 24, 25, 26, 27, 28, 29, 30, 31, 32, 33, 34, 35, 36, 37, 38, 39, 40, 41, 42, 43, 44, 45, 46, 47, 48, 49, 50, 51] [(51, vB false)] [] [] (an c3 (an c3 (an c3 (an c3 (an (Eq.refl false) (an (Eq.refl false) (an (Eq.refl false) (an (Eq.refl false) (an c4 (an c4 (an c4 (an (c_i_noAffine G n e.index hx5) (an c4 (an (Eq.refl false) (an c4 (an (Eq.refl false) (an c6 (an c6 (an c6 (an c6 (an c7 (an c7 (an c7 (an c7 (an c6 (an c7 (an c6 trivial))))))))))))))))))))))))))) ?_
         exact ⟨false, (), h, lS⟩
        ·obtain ⟨x6, hx6, h⟩ := bd h
         refine rk hC [.b false, .b false, .b false, .b false, .b false, .b false, .b false, .b false, .b true, .b true, .b true, .v (vB x5), .b true, .b false, .b true, .b false, .b false, .b false, .b false, .b false, .b true, .b true, .b true, .v (vB x6), .b true, .b false, .b true, .b false] [22, 23, 24, 25, 26, 27, 28, 29, 30, 31, 32, 33, 34, 35, 36, 37, 38, 39, 40, 41, 42, 43, 44, 45, 46, 47, 48, 49, 50, 51] [(51, vB (!x6))] [] [] (an c3 (an c3 (an c3 (an c3 (an (Eq.refl false) (an (Eq.refl false) (an (Eq.refl false) (an (Eq.refl false) (an c4 (an c4 (an c4 (an (c_i_noAffine G n e.index hx5) (an c4 (an (Eq.refl false) (an c4 (an (Eq.refl false) (an c6 (an c6 (an c6 (an c6 (an c7 (an c7 (an c7 (an (c_i_noAccess G n e.read hx6) (an c7 (an c6 (an c7 (an c6 trivial)))))))))))))))))))))))))))) ?_
         exact ⟨!x6, (), h, lS⟩
       ·refine rk hC [.b false, .b false, .b false, .b false, .b false, .b false, .b false, .b false, .b true, .b true, .b true, .v (vB x5), .b true, .b false, .b true, .b false, .b true, .b true, .b true, .b true, .b true, .b true] [22, 23, 24, 25, 26, 27, 28, 29, 30, 31, 32, 33, 34, 35, 36, 37, 38, 39, 40, 41, 42, 43, 44, 45, 46, 47, 48, 49, 50, 51] [(51, vB true)] [] [] (an c3 (an c3 (an c3 (an c3 (an (Eq.refl false) (an (Eq.refl false) (an (Eq.refl false) (an (Eq.refl false) (an c4 (an c4 (an c4 (an (c_i_noAffine G n e.index hx5) (an c4 (an (Eq.refl false) (an c4 (an (Eq.refl false) (an c6 (an c6 (an c6 (an c6 (an c6 (an c6 trivial)))))))))))))))))))))) ?_
        exact ⟨true, (), h, lS⟩
     ·refine splI h (fun c8 h => ?_) (fun c8 h => ?_)
      ·refine splI h (fun c9 h => ?_) (fun c9 h => ?_)
       ·refine splI h (fun c10 h => ?_) (fun c10 h => ?_)
        ·refine rk hC [.b true, .b true, .b true, .b true, .b false, .b false, .b false, .b false, .b false, .b false, .b false, .b false, .b false, .b false, .b false, .b false, .b false, .b false, .b false, .b false, .b false, .b false, .b false, .b false, .b false, .b false] [22, 23, 24, 25, 26, 27, 28, 29, 30, 31, 32, 33, 34, 35, 36, 37, 38, 39, 40, 41, 42, 43, 44, 45, 46, 47, 48, 49, 50, 51] [(51, vB false)] [] [] (an c3 (an c3 (an c3 (an c3 (an c8 (an c8 (an c8 (an c8 (an c9 (an c9 (an c9 (an c9 (an c8 (an c9 (an c8 (an (Eq.refl false) (an (Eq.refl false) (an (Eq.refl false) (an (Eq.refl false) (an c10 (an c10 (an c10 (an c10 (an (Eq.refl false) (an c10 (an (Eq.refl false) trivial)))))))))))))))))))))))))) ?_
         exact ⟨false, (), h, lS⟩
        ·obtain ⟨x7, hx7, h⟩ := bd h
         refine rk hC [.b true, .b true, .b true, .b true, .b false, .b false, .b false, .b false, .b false, .b false, .b false, .b false, .b false, .b false, .b false, .b false, .b false, .b false, .b false, .b true, .b true, .b true, .v (vB x7), .b true, .b false, .b true, .b false] [22, 23, 24, 25, 26, 27, 28, 29, 30, 31, 32, 33, 34, 35, 36, 37, 38, 39, 40, 41, 42, 43, 44, 45, 46, 47, 48, 49, 50, 51] [(51, vB (!x7))] [] [] (an c3 (an c3 (an c3 (an c3 (an c8 (an c8 (an c8 (an c8 (an c9 (an c9 (an c9 (an c9 (an c8 (an c9 (an c8 (an (Eq.refl false) (an (Eq.refl false) (an (Eq.refl false) (an (Eq.refl false) (an c10 (an c10 (an c10 (an (c_i_noAccess G n e.read hx7) (an c10 (an (Eq.refl false) (an c10 (an (Eq.refl false) trivial))))))))))))))))))))))))))) ?_
         exact ⟨!x7, (), h, lS⟩
       ·obtain ⟨x8, hx8, h⟩ := bd h
        refine splI h (fun c11 h => ?_) (fun c11 h => ?_)
        ·refine splI h (fun c12 h => ?_) (fun c12 h => ?_)
         ·refine rk hC [.b true, .b true, .b true, .b true, .b false, .b false, .b false, .b false, .b true, .b true, .b true, .v (vB x8), .b true, .b false, .b true, .b false, .b false, .b false, .b false, .b false, .b false, .b false, .b false, .b false, .b false, .b false, .b false] [22, 23, 24, 25, 26, 27, 28, 29, 30, 31, 32, 33, 34, 35, 36, 37, 38, 39, 40, 41, 42, 43, 44, 45, 46, 47, 48, 49, 50, 51] [(51, vB false)] [] [] (an c3 (an c3 (an c3 (an c3 (an c8 (an c8 (an c8 (an c8 (an c9 (an c9 (an c9 (an (c_i_noAffine G n e.index hx8) (an c9 (an c8 (an c9 (an c8 (an c11 (an c11 (an c11 (an c11 (an c12 (an c12 (an c12 (an c12 (an c11 (an c12 (an c11 trivial))))))))))))))))))))))))))) ?_
          exact ⟨false, (), h, lS⟩
         ·obtain ⟨x9, hx9, h⟩ := bd h
          refine rk hC [.b true, .b true, .b true, .b true, .b false, .b false, .b false, .b false, .b true, .b true, .b true, .v (vB x8), .b true, .b false, .b true, .b false, .b false, .b false, .b false, .b false, .b true, .b true, .b true, .v (vB x9), .b true, .b false, .b true, .b false] [22, 23, 24, 25, 26, 27, 28, 29, 30, 31, 32, 33, 34, 35, 36, 37, 38, 39, 40, 41, 42, 43, 44, 45, 46, 47, 48, 49, 50, 51] [(51, vB (!x9))] [] [] (an c3 (an c3 (an c3 (an c3 (an c8 (an c8 (an c8 (an c8 (an c9 (an c9 (an c9 (an (c_i_noAffine G n e.index hx8) (an c9 (an c8 (an c9 (an c8 (an c11 (an c11 (an c11 (an c11 (an c12 (an c12 (an c12 (an (c_i_noAccess G n e.read hx9) (an c12 (an c11 (an c12 (an c11 trivial)))))))))))))))))))))))))))) ?_
          exact ⟨!x9, (), h, lS⟩
        ·refine rk hC [.b true, .b true, .b true, .b true, .b false, .b false, .b false, .b false, .b true, .b true, .b true, .v (vB x8), .b true, .b false, .b true, .b false, .b true, .b true, .b true, .b true, .b true, .b true] [22, 23, 24, 25, 26, 27, 28, 29, 30, 31, 32, 33, 34, 35, 36, 37, 38, 39, 40, 41, 42, 43, 44, 45, 46, 47, 48, 49, 50, 51] [(51, vB true)] [] [] (an c3 (an c3 (an c3 (an c3 (an c8 (an c8 (an c8 (an c8 (an c9 (an c9 (an c9 (an (c_i_noAffine G n e.index hx8) (an c9 (an c8 (an c9 (an c8 (an c11 (an c11 (an c11 (an c11 (an c11 (an c11 trivial)))))))))))))))))))))) ?_
         exact ⟨true, (), h, lS⟩
      ·refine rk hC [.b true, .b true, .b true, .b true, .b true, .b true, .b true, .b true, .b true, .b true, .b true, .b true, .b true, .b true, .b true, .b true] [22, 23, 24, 25, 26, 27, 28, 29, 30, 31, 32, 33, 34, 35, 36, 37, 38, 39, 40, 41, 42, 43, 44, 45, 46, 47, 48, 49, 50, 51] [(51, vB true)] [] [] (an c3 (an c3 (an c3 (an c3 (an c8 (an c8 (an c8 (an c8 (an c8 (an c8 (an (Eq.refl true) (an (Eq.refl true) (an (Eq.refl true) (an (Eq.refl true) (an (Eq.refl true) (an (Eq.refl true) trivial)))))))))))))))) ?_
       exact ⟨true, (), h, lS⟩
    ·rintro x10 ⟨⟩ h
     subst hj3
     refine vci (b := x10) h (fun c13 h => ?_) (fun c13 h => ?_)
     ·refine rq hC [] [8] [(8, vB false)] [] [] trivial ?_
      refine vwp_ret ?_
      obtain rfl := so h
      exact eW
     ·refine vwp_skip ?_
      refine vwp_seq ?_
      refine vwp_block ?_
      refine rq hC [] [52, 53, 54, 55] [(52, vB (decide (e.kind = 1)))] [] [] trivial ?_
      refine vci (b := decide (e.kind = 1)) h (fun c14 h => ?_) (fun c14 h => ?_)
      ·obtain ⟨j11, hj11, h⟩ := jn_e h
       refine vwp_jm (γ := Unit) (j := j11) (r := r) (fun (x_ : Bool) (g_ : Unit) => mkS [(8, vB x_)] [(0, E.cells [vI (wr (count + 1))])] [0]) ?_ ?_
       ·
        obtain ⟨x12, hx12, h⟩ := bd h
        refine splI h (fun c15 h => ?_) (fun c15 h => ?_)
        ·refine rk hC [.v (vB x12), .b false, .b false, .b false, .b false, .b false] [8, 56, 57, 58, 59, 60, 61, 62, 63, 64] [(8, vB false)] [] [] (an (c_i_within G n e.num 0 99 hx12) (an c15 (an c15 (an c15 (an c15 (an c15 trivial)))))) ?_
         exact ⟨false, (), h, lS⟩
        ·refine rk hC [.v (vB x12), .b true, .b true, .b true, .nat e.kids.length, .b true, .b true] [8, 56, 57, 58, 59, 60, 61, 62, 63, 64] [(8, vB (decide ((e.kids.length : Int) = 0)))] [] [] (an (c_i_within G n e.num 0 99 hx12) (an c15 (an c15 (an c15 (an (lenM rExpr e.kids) (an c15 (an c15 trivial))))))) ?_
         exact ⟨decide ((e.kids.length : Int) = 0), (), h, lS⟩
       ·rintro x13 ⟨⟩ h
        subst hj11
        refine vwp_ret ?_
        obtain rfl := so h
        exact eW
      ·refine rq hC [] [65, 66, 67, 68] [(65, vB (decide (e.kind = 2)))] [] [] trivial ?_
       refine vci (b := decide (e.kind = 2)) h (fun c16 h => ?_) (fun c16 h => ?_)
       ·obtain ⟨j14, hj14, h⟩ := jn_e h
        refine vwp_jm (γ := Unit) (j := j14) (r := r) (fun (x_ : Bool) (g_ : Unit) => mkS [(8, vB x_)] [(0, E.cells [vI (wr (count + 1))])] [0]) ?_ ?_
        ·
         obtain ⟨x15, hx15, h⟩ := bd h
         refine splI h (fun c17 h => ?_) (fun c17 h => ?_)
         ·refine rk hC [.v (vB x15), .b false, .b false, .b false, .b false, .b false, .b false, .b false, .b false, .b false, .b false, .b false] [8, 69, 70, 71, 72, 73, 74, 75, 76, 77, 78, 79, 80, 81, 82, 83, 84] [(8, vB false)] [] [] (an (c_i_AffineValid G n e.index hx15) (an c17 (an c17 (an c17 (an c17 (an c17 (an c17 (an (Eq.refl false) (an (Eq.refl false) (an (Eq.refl false) (an (Eq.refl false) (an (Eq.refl false) trivial)))))))))))) ?_
          exact ⟨false, (), h, lS⟩
         ·obtain ⟨x16, hx16, h⟩ := bd h
          refine splI h (fun c18 h => ?_) (fun c18 h => ?_)
          ·refine rk hC [.v (vB x15), .b true, .b true, .b true, .v (vI x16), .b true, .b true, .b true, .b false, .b false, .b false, .b false, .b false] [8, 69, 70, 71, 72, 73, 74, 75, 76, 77, 78, 79, 80, 81, 82, 83, 84] [(8, vB false)] [] [] (an (c_i_AffineValid G n e.index hx15) (an c17 (an c17 (an c17 (an (c_i_Affine_depth G n e.index hx16) (an c17 (an c17 (an c17 (an c18 (an c18 (an c18 (an c18 (an c18 trivial))))))))))))) ?_
           exact ⟨false, (), h, lS⟩
          ·refine rk hC [.v (vB x15), .b true, .b true, .b true, .v (vI x16), .b true, .b true, .b true, .b true, .b true, .b true, .nat e.kids.length, .b true, .b true] [8, 69, 70, 71, 72, 73, 74, 75, 76, 77, 78, 79, 80, 81, 82, 83, 84] [(8, vB (decide ((e.kids.length : Int) = 0)))] [] [] (an (c_i_AffineValid G n e.index hx15) (an c17 (an c17 (an c17 (an (c_i_Affine_depth G n e.index hx16) (an c17 (an c17 (an c17 (an c18 (an c18 (an c18 (an (lenM rExpr e.kids) (an c18 (an c18 trivial)))))))))))))) ?_
           exact ⟨decide ((e.kids.length : Int) = 0), (), h, lS⟩
        ·rintro x17 ⟨⟩ h
         subst hj14
         refine vwp_ret ?_
         obtain rfl := so h
         exact eW
       ·refine rq hC [] [85, 86, 87, 88] [(85, vB (decide (e.kind = 3)))] [] [] trivial ?_
        refine vci (b := decide (e.kind = 3)) h (fun c19 h => ?_) (fun c19 h => ?_)
        ·obtain ⟨j18, hj18, h⟩ := jn_e h
         refine vwp_jm (γ := Unit) (j := j18) (r := r) (fun (x_ : Bool) (g_ : Unit) => mkS [(8, vB x_)] [(0, E.cells [vI (wr (count + 1))])] [0]) ?_ ?_
         ·
          obtain ⟨x19, hx19, h⟩ := bd h
          refine splI h (fun c20 h => ?_) (fun c20 h => ?_)
          ·refine rk hC [.v (vB x19), .b false, .b false, .b false, .b false, .b false] [8, 89, 90, 91, 92, 93, 94, 95, 96, 97, 98] [(8, vB false)] [] [] (an (c_i_accessOk G n e.read depth hx19) (an c20 (an c20 (an c20 (an c20 (an c20 trivial)))))) ?_
           exact ⟨false, (), h, lS⟩
          ·refine rk hC [.v (vB x19), .b true, .b true, .b true, .nat e.kids.length, .b true, .b true] [8, 89, 90, 91, 92, 93, 94, 95, 96, 97, 98] [(8, vB (decide ((e.kids.length : Int) = 0)))] [] [] (an (c_i_accessOk G n e.read depth hx19) (an c20 (an c20 (an c20 (an (lenM rExpr e.kids) (an c20 (an c20 trivial))))))) ?_
           exact ⟨decide ((e.kids.length : Int) = 0), (), h, lS⟩
         ·rintro x20 ⟨⟩ h
          subst hj18
          refine vwp_ret ?_
          obtain rfl := so h
          exact eW
        ·obtain ⟨j21, hj21, h⟩ := jn_e h
         refine vwp_jm (γ := Unit) (j := j21) (r := r) (fun (x_ : Bool) (g_ : Unit) => mkS [(1, vI depth), (2, vI deep), (3, V.ref 0 0), (4, V.tp [T.int .i64 e.kind, T.int .i64 e.num, T.sl (List.map rI e.index.coefs), T.int .i64 e.index.const, T.str e.read.array, T.sl (List.map rAffine e.read.subs), T.sl (List.map rExpr e.kids)]), (99, vB x_)] [(0, E.cells [vI (wr (count + 1))])] [0]) ?_ ?_
         ·
          obtain ⟨x22, hx22, h⟩ := bd h
          refine splI h (fun c21 h => ?_) (fun c21 h => ?_)
          ·refine rk hC [.v (vB x22), .b false, .b false, .b false, .nat e.kids.length, .b false, .b false] [99, 100, 101, 102, 103, 104, 105, 106, 107, 108, 109] [(99, vB (!decide ((e.kids.length : Int) = 2)))] [] [] (an (c_i_isOp G n e.kind hx22) (an c21 (an c21 (an c21 (an (lenM rExpr e.kids) (an c21 (an c21 trivial))))))) ?_
           exact ⟨!decide ((e.kids.length : Int) = 2), (), h, lS⟩
          ·refine rk hC [.v (vB x22), .b true, .b true, .b true, .b true, .b true] [99, 100, 101, 102, 103, 104, 105, 106, 107, 108, 109] [(99, vB true)] [] [] (an (c_i_isOp G n e.kind hx22) (an c21 (an c21 (an c21 (an c21 (an c21 trivial)))))) ?_
           exact ⟨true, (), h, lS⟩
         ·rintro x23 ⟨⟩ h
          subst hj21
          refine vci (b := x23) h (fun c22 h => ?_) (fun c22 h => ?_)
          ·refine rq hC [] [8] [(8, vB false)] [] [] trivial ?_
           refine vwp_ret ?_
           obtain rfl := so h
           exact eW
          ·refine vwp_skip ?_
           obtain ⟨j24, hj24, h⟩ := jn_e h
           refine vwp_jm (γ := Unit) (j := j24) (r := r) (fun (x_ : Int × Bool) (g_ : Unit) => mkS [(8, vB x_.2)] [(0, E.cells [vI x_.1])] [0]) ?_ ?_
           ·
            obtain ⟨x25, hx25, h⟩ := bd h
            obtain ⟨x26, hx26, h⟩ := bd h
            refine splI h (fun c23 h => ?_) (fun c23 h => ?_)
            ·refine rk hC [.row (rExprC x25), .vc [0] [] (vB x26.1) [E.cells [vI x26.2]], .b false, .b false, .b false, .b false, .b false, .b false, .b false, .b false, .b false, .b false] [8, 110, 111, 112, 113, 114, 115, 116, 117, 118, 119, 120, 121, 122, 123, 124, 125, 126, 127, 128, 129] [(8, vB false)] [(0, some (E.cells [vI x26.2]))] [(0, true)] (an (ix_mapE rExpr hx25 (rExpr_eq x25)) (an (ih x25 depth (wr (deep + 1)) (wr (count + 1)) hx26) (an c23 (an c23 (an c23 (an c23 (an c23 (an c23 (an c23 (an c23 (an c23 (an c23 trivial)))))))))))) ?_
             exact ⟨(x26.2, false), (), h, lS⟩
            ·obtain ⟨x27, hx27, h⟩ := bd h
             obtain ⟨x28, hx28, h⟩ := bd h
             refine rk hC [.row (rExprC x25), .vc [0] [] (vB x26.1) [E.cells [vI x26.2]], .b true, .b true, .b true, .row (rExprC x27), .b true, .b true, .b true, .b true, .b true, .b true, .vc [0] [] (vB x28.1) [E.cells [vI x28.2]], .b true] [8, 110, 111, 112, 113, 114, 115, 116, 117, 118, 119, 120, 121, 122, 123, 124, 125, 126, 127, 128, 129] [(8, vB x28.1)] [(0, some (E.cells [vI x28.2]))] [(0, true), (0, true)] (an (ix_mapE rExpr hx25 (rExpr_eq x25)) (an (ih x25 depth (wr (deep + 1)) (wr (count + 1)) hx26) (an c23 (an c23 (an c23 (an (ix_mapE rExpr hx27 (rExpr_eq x27)) (an c23 (an c23 (an c23 (an c23 (an c23 (an c23 (an (ih x27 depth (wr (deep + 1)) x26.2 hx28) (an c23 trivial)))))))))))))) ?_
             exact ⟨(x28.2, x28.1), (), h, lS⟩
           ·rintro ⟨x29, x30⟩ ⟨⟩ h
            subst hj24
            refine vwp_ret ?_
            obtain rfl := so h
            exact eW
theorem c_i_StmtValid (G : GS) (n : Nat) (s : Stmt) (depth : Int) {r : Bool} (h : i_StmtValid n s depth = some r) : PCC Tryz.prog G.g 130 [V.agg [vS s.write.array, vM rAffine s.write.subs, vI s.value.kind, vI s.value.num, vM rI s.value.index.coefs, vI s.value.index.const, vS s.value.read.array, vM rAffine s.value.read.subs, vM rExpr s.value.kids], vI depth] (vB r) := by
 unfold i_StmtValid at h
 refine pmr tyOK Tryz.func130 rfl rfl rfl rfl rfl rfl rfl ?_
 intro w X hC
 refine rq hC [.b true] [2, 4] [(2, V.tp [T.str s.write.array, T.sl (List.map rAffine s.write.subs), T.int .i64 s.value.kind, T.int .i64 s.value.num, T.sl (List.map rI s.value.index.coefs), T.int .i64 s.value.index.const, T.str s.value.read.array, T.sl (List.map rAffine s.value.read.subs), T.sl (List.map rExpr s.value.kids)])] [] [] trivial ?_
 refine rq hC [.nat 20] [5] [(5, V.ref 20 0)] [(20, some (E.cells [vI 0]))] [(20, true)] trivial ?_
 obtain ⟨j1, hj1, h⟩ := jn_e h
 refine vwp_jm (γ := Unit) (j := j1) (r := r) (fun (x_ : Int × Bool) (g_ : Unit) => mkS [(4, vB x_.2)] [(20, E.cells [vI x_.1])] [20]) ?_ ?_
 ·
  obtain ⟨x2, hx2, h⟩ := bd h
  refine splI h (fun c1 h => ?_) (fun c1 h => ?_)
  ·refine rk hC [.v (vB x2), .b false, .b false, .b false, .b false, .b false, .b false, .b false, .b false, .b false, .b false] [4, 6, 7, 8, 9, 10, 11, 12, 13, 14, 15, 16, 17, 18, 19] [(4, vB false)] [] [] (an (c_i_within G n depth 0 4 hx2) (an c1 (an c1 (an c1 (an c1 (an c1 (an (Eq.refl false) (an (Eq.refl false) (an (Eq.refl false) (an (Eq.refl false) (an (Eq.refl false) trivial))))))))))) ?_
   exact ⟨(0, false), (), h, lS⟩
  ·obtain ⟨x3, hx3, h⟩ := bd h
   refine splI h (fun c2 h => ?_) (fun c2 h => ?_)
   ·refine rk hC [.v (vB x2), .b true, .b true, .b true, .b true, .v (vB x3), .b true, .b false, .b false, .b false, .b false, .b false] [4, 6, 7, 8, 9, 10, 11, 12, 13, 14, 15, 16, 17, 18, 19] [(4, vB false)] [] [] (an (c_i_within G n depth 0 4 hx2) (an c1 (an c1 (an c1 (an c1 (an (c_i_accessOk G n s.write depth hx3) (an c1 (an c2 (an c2 (an c2 (an c2 (an c2 trivial)))))))))))) ?_
    exact ⟨(0, false), (), h, lS⟩
   ·obtain ⟨x4, hx4, h⟩ := bd h
    refine rk hC [.v (vB x2), .b true, .b true, .b true, .b true, .v (vB x3), .b true, .b true, .b true, .b true, .b true, .vc [20] [] (vB x4.1) [E.cells [vI x4.2]], .b true] [4, 6, 7, 8, 9, 10, 11, 12, 13, 14, 15, 16, 17, 18, 19] [(4, vB x4.1)] [(20, some (E.cells [vI x4.2]))] [(20, true)] (an (c_i_within G n depth 0 4 hx2) (an c1 (an c1 (an c1 (an c1 (an (c_i_accessOk G n s.write depth hx3) (an c1 (an c2 (an c2 (an c2 (an c2 (an (c_i_exprScan G n s.value depth 1 0 hx4) (an c2 trivial))))))))))))) ?_
    exact ⟨(x4.2, x4.1), (), h, lS⟩
 ·rintro ⟨x5, x6⟩ ⟨⟩ h
  subst hj1
  refine vwp_ret ?_
  obtain rfl := so h
  exact eR
theorem c_i_Program_instances_1 (G : GS) (n : Nat) (s : Stmt) (c0__a1 : Part) {r : Bool} (h : i_Program_instances_1 n s c0__a1 = some r) : PCC Tryz.prog G.g 129 [V.agg [vS s.write.array, vM rAffine s.write.subs, vI s.value.kind, vI s.value.num, vM rI s.value.index.coefs, vI s.value.index.const, vS s.value.read.array, vM rAffine s.value.read.subs, vM rExpr s.value.kids], V.tp [T.sl (List.map rLoop c0__a1.nest), T.sl (List.map rStmt c0__a1.body)]] (vB r) := by
 unfold i_Program_instances_1 at h
 refine pmr tyOK Tryz.func129 rfl rfl rfl rfl rfl rfl rfl ?_
 intro w X hC
 refine rq hC [.b true] [2, 3] [(2, V.tp [T.str s.write.array, T.sl (List.map rAffine s.write.subs), T.int .i64 s.value.kind, T.int .i64 s.value.num, T.sl (List.map rI s.value.index.coefs), T.int .i64 s.value.index.const, T.str s.value.read.array, T.sl (List.map rAffine s.value.read.subs), T.sl (List.map rExpr s.value.kids)])] [] [] trivial ?_
 obtain ⟨x1, hx1, h⟩ := bd h
 refine rq hC [.nat c0__a1.nest.length, .v (vB x1)] [3, 4, 5, 6, 7, 8, 9] [(3, vB (!x1))] [] [] (an (lenM rLoop c0__a1.nest) (an (c_i_StmtValid G n s (c0__a1.nest.length : Int) hx1) trivial)) ?_
 refine vwp_ret ?_
 obtain rfl := so h
 exact eR
theorem c_i_isPoint_1 (G : GS) (n : Nat) (n_a0 : Int) {r : Bool} (h : i_isPoint_1 n n_a0 = some r) : PCC Tryz.prog G.g 175 [vI n_a0] (vB r) := by
 unfold i_isPoint_1 at h
 refine pmr tyOK Tryz.func175 rfl rfl rfl rfl rfl rfl rfl ?_
 intro w X hC
 refine rq hC [] [2] [] [] [] trivial ?_
 obtain ⟨x1, hx1, h⟩ := bd h
 refine rq hC [.v (vB x1)] [2, 3, 4, 5] [(2, vB (!x1))] [] [] (an (c_i_within G n n_a0 (-9999) 9999 hx1) trivial) ?_
 refine vwp_ret ?_
 obtain rfl := so h
 exact eR
theorem c_i_isPoint (G : GS) (n : Nat) (point : List Int) {r : Bool} (h : i_isPoint n point = some r) : PCC Tryz.prog G.g 131 [vM rI point] (vB r) := by
 unfold i_isPoint at h
 refine pmr tyOK Tryz.func131 rfl rfl rfl rfl rfl rfl rfl ?_
 intro w X hC
 refine rq hC [] [2] [] [] [] trivial ?_
 obtain ⟨j1, hj1, h⟩ := jn_e h
 refine vwp_jm (γ := Unit) (j := j1) (r := r) (fun (x_ : Bool) (g_ : Unit) => mkS [(2, vB x_)] [] []) ?_ ?_
 ·
  refine splI h (fun c1 h => ?_) (fun c1 h => ?_)
  ·refine rk hC [.nat point.length, .b false, .b false, .b false, .b false] [2, 3, 4, 5, 6, 7, 8, 9, 10] [(2, vB false)] [] [] (an (lenM rI point) (an c1 (an c1 (an c1 (an c1 trivial))))) ?_
   exact ⟨false, (), h, lS⟩
  ·obtain ⟨x2, hx2, h⟩ := bd h
   refine rk hC [.nat point.length, .b true, .b true, .v (vB x2), .b true, .b true] [2, 3, 4, 5, 6, 7, 8, 9, 10] [(2, vB (!x2))] [] [] (an (lenM rI point) (an c1 (an c1 (an (c_l_ContainsFunc_int G n point 175 (fun q0 => i_isPoint_1 n q0) (fun q0 r h => c_i_isPoint_1 G n q0 h) hx2) (an c1 (an c1 trivial)))))) ?_
   exact ⟨!x2, (), h, lS⟩
 ·rintro x3 ⟨⟩ h
  subst hj1
  refine vwp_ret ?_
  obtain rfl := so h
  exact eR
theorem c_i_Affine_eval (G : GS) (n : Nat) (a : Affine) (point : List Int) {r : Int} (h : i_Affine_eval n a point = some r) : PCC Tryz.prog G.g 140 [V.agg [vM rI a.coefs, vI a.const], vM rI point] (vI r) := by
 unfold i_Affine_eval at h
 refine pmr tyOK Tryz.func140 rfl rfl rfl rfl rfl rfl rfl ?_
 intro w X hC
 refine rq hC [.b true] [2, 4] [(2, V.tp [T.sl (List.map rI a.coefs), T.int .i64 a.const])] [] [] trivial ?_
 refine rq hC [] [5, 8, 9] [(5, vI a.const)] [] [] trivial ?_
 refine vwp_seq ?_
 refine rq hC [.nat point.length] [10, 11, 12] [(10, vM rI point), (11, vI (point.length : Int)), (12, vI 0)] [] [] (an (lenM rI point) trivial) ?_
 refine vwp_block ?_
 refine vwp_lm (γ := Unit) h (fun (x_ : Int × Int) (g_ : Unit) => mkS [(2, V.tp [T.sl (List.map rI a.coefs), T.int .i64 a.const]), (5, vI x_.1), (10, vM rI point), (11, vI (point.length : Int)), (12, vI x_.2)] [] []) () (lS) ?_
 rintro again3 ⟨x1, x2⟩ ⟨⟩ h
 refine rq hC [] [13] [(13, vB (decide (x2 < (point.length : Int))))] [] [] trivial ?_
 refine vwp_seq ?_
 refine vci (b := decide (x2 < (point.length : Int))) h (fun c1 h => ?_) (fun c1 h => ?_)
 ·refine vwp_skip ?_
  refine vwp_seq ?_
  refine vwp_block ?_
  obtain ⟨x4, hx4, h⟩ := bd h
  refine rq hC [.row (rI x4)] [6, 7, 14, 15, 16] [(6, vI x2), (7, vI x4)] [] [] (an (ix_map rI hx4) trivial) ?_
  obtain ⟨x5, hx5, h⟩ := bd h
  refine rk hC [.row (rI x5)] [5, 17, 18, 19, 20, 21, 22, 23, 24, 25] [(5, vI (wr (x1 + (wr (x5 * x4)))))] [] [] (an (ix_map rI hx5) trivial) ?_
  refine rk hC [] [12, 26] [(12, vI (wr (x2 + 1)))] [] [] trivial ?_
  exact ⟨(wr (x1 + (wr (x5 * x4))), wr (x2 + 1)), (), h, lS⟩
 ·refine vwp_exit ?_
  refine rq hC [] [4, 27] [(4, vI x1)] [] [] trivial ?_
  refine vwp_ret ?_
  obtain rfl := so h
  exact eR
theorem c_i_Array_size (G : GS) (n : Nat) (a : Arr) {r : Int} (h : i_Array_size n a = some r) : PCC Tryz.prog G.g 133 [V.agg [vS a.name, vM rI a.dims]] (vI r) := by
 unfold i_Array_size at h
 refine pmr tyOK Tryz.func133 rfl rfl rfl rfl rfl rfl rfl ?_
 intro w X hC
 refine rq hC [.b true] [1, 2] [(1, V.tp [T.str a.name, T.sl (List.map rI a.dims)])] [] [] trivial ?_
 refine rq hC [] [3] [(3, vI 1)] [] [] trivial ?_
 refine vwp_seq ?_
 refine rq hC [.nat a.dims.length] [6, 7, 8, 9] [(7, vM rI a.dims), (8, vI (a.dims.length : Int)), (9, vI 0)] [] [] (an (lenM rI a.dims) trivial) ?_
 refine vwp_block ?_
 refine vwp_lm (γ := Unit) h (fun (x_ : Int × Int) (g_ : Unit) => mkS [(3, vI x_.1), (7, vM rI a.dims), (8, vI (a.dims.length : Int)), (9, vI x_.2)] [] []) () (lS) ?_
 rintro again3 ⟨x1, x2⟩ ⟨⟩ h
 refine rq hC [] [10] [(10, vB (decide (x2 < (a.dims.length : Int))))] [] [] trivial ?_
 refine vwp_seq ?_
 refine vci (b := decide (x2 < (a.dims.length : Int))) h (fun c1 h => ?_) (fun c1 h => ?_)
 ·refine vwp_skip ?_
  refine vwp_seq ?_
  refine vwp_block ?_
  obtain ⟨x4, hx4, h⟩ := bd h
  refine rq hC [.row (rI x4)] [5, 11, 12] [(5, vI x4)] [] [] (an (ix_map rI hx4) trivial) ?_
  refine rk hC [] [3, 13, 14, 15] [(3, vI (wr (x1 * x4)))] [] [] trivial ?_
  refine rk hC [] [9, 16] [(9, vI (wr (x2 + 1)))] [] [] trivial ?_
  exact ⟨(wr (x1 * x4), wr (x2 + 1)), (), h, lS⟩
 ·refine vwp_exit ?_
  refine rq hC [] [2, 17] [(2, vI x1)] [] [] trivial ?_
  refine vwp_ret ?_
  obtain rfl := so h
  exact eR
theorem c_i_Program_cell (G : GS) (n : Nat) (p : Prog) (a : Access) (point : List Int) {r : Int} (h : i_Program_cell n p a point = some r) : PCC Tryz.prog G.g 121 [V.agg [vM rArr p.arrays, vM rPart p.parts], V.agg [vS a.array, vM rAffine a.subs], vM rI point] (vI r) := by
 unfold i_Program_cell at h
 refine pmr tyOK Tryz.func121 rfl rfl rfl rfl rfl rfl rfl ?_
 intro w X hC
 refine rq hC [.b true, .b true] [3, 4, 6] [(3, V.tp [T.sl (List.map rArr p.arrays), T.sl (List.map rPart p.parts)]), (4, V.tp [T.str a.array, T.sl (List.map rAffine a.subs)])] [] [] trivial ?_
 refine rq hC [] [7] [(7, vI 0)] [] [] trivial ?_
 refine vwp_seq ?_
 refine rq hC [.nat p.arrays.length] [14, 15, 16, 17] [(15, vM rArr p.arrays), (16, vI (p.arrays.length : Int)), (17, vI 0)] [] [] (an (lenM rArr p.arrays) trivial) ?_
 refine vwp_block ?_
 refine vwp_lm (γ := Unit) h (fun (x_ : Int × Int) (g_ : Unit) => mkS [(2, vM rI point), (4, V.tp [T.str a.array, T.sl (List.map rAffine a.subs)]), (7, vI x_.1), (15, vM rArr p.arrays), (16, vI (p.arrays.length : Int)), (17, vI x_.2)] [] []) () (lS) ?_
 rintro again3 ⟨x1, x2⟩ ⟨⟩ h
 refine rq hC [] [18] [(18, vB (decide (x2 < (p.arrays.length : Int))))] [] [] trivial ?_
 refine vwp_seq ?_
 refine vci (b := decide (x2 < (p.arrays.length : Int))) h (fun c1 h => ?_) (fun c1 h => ?_)
 ·refine vwp_skip ?_
  refine vwp_seq ?_
  refine vwp_block ?_
  obtain ⟨x4, hx4, h⟩ := bd h
  refine rq hC [.row (rArr x4), .nat 20] [9, 19, 20] [(9, V.ref 20 0)] [(20, some (E.cells [vS x4.name, vM rI x4.dims]))] [(20, true)] (an (ix_map rArr hx4) trivial) ?_
  refine vwp_seq ?_
  refine rq hC [] [21, 22, 23, 24, 25] [(25, vB (!decide (x4.name = a.array)))] [] [] trivial ?_
  refine vci (b := !decide (x4.name = a.array)) h (fun c2 h => ?_) (fun c2 h => ?_)
  ·obtain ⟨x5, hx5, h⟩ := bd h
   refine rq hC [.v (vI x5)] [7, 26, 27, 28, 29] [(7, vI (wr (x1 + x5)))] [] [] (an (c_i_Array_size G n x4 hx5) trivial) ?_
   refine vwp_exit ?_
   refine rk hC [] [17, 70] [(17, vI (wr (x2 + 1)))] [] [] trivial ?_
   exact ⟨(wr (x1 + x5), wr (x2 + 1)), (), h, lS⟩
  ·refine vwp_skip ?_
   refine vwp_seq ?_
   refine rq hC [.nat a.subs.length, .nat x4.dims.length] [30, 31, 32, 33, 34, 35, 36] [(36, vB (!decide ((a.subs.length : Int) = (x4.dims.length : Int))))] [] [] (an (lenM rAffine a.subs) (an (lenM rI x4.dims) trivial)) ?_
   refine vci (b := !decide ((a.subs.length : Int) = (x4.dims.length : Int))) h (fun c3 h => ?_) (fun c3 h => ?_)
   ·refine rq hC [] [6] [(6, vI (-1))] [] [] trivial ?_
    refine vwp_ret ?_
    obtain rfl := so h
    exact eR
   ·refine vwp_skip ?_
    refine rq hC [] [10] [(10, vI 0)] [] [] trivial ?_
    refine vwp_seq ?_
    refine rq hC [.nat a.subs.length] [37, 38, 39, 40] [(38, vM rAffine a.subs), (39, vI (a.subs.length : Int)), (40, vI 0)] [] [] (an (lenM rAffine a.subs) trivial) ?_
    refine vwp_block ?_
    refine vwp_lm (γ := Unit) h (fun (x_ : Int × Int) (g_ : Unit) => mkS [(2, vM rI point), (7, vI x1), (9, V.ref 20 0), (10, vI x_.1), (38, vM rAffine a.subs), (39, vI (a.subs.length : Int)), (40, vI x_.2)] [(20, E.cells [vS x4.name, vM rI x4.dims])] [20]) () (lS) ?_
    rintro again8 ⟨x6, x7⟩ ⟨⟩ h
    refine rq hC [] [41] [(41, vB (decide (x7 < (a.subs.length : Int))))] [] [] trivial ?_
    refine vwp_seq ?_
    refine vci (b := decide (x7 < (a.subs.length : Int))) h (fun c4 h => ?_) (fun c4 h => ?_)
    ·refine vwp_skip ?_
     refine vwp_seq ?_
     refine vwp_block ?_
     obtain ⟨x9, hx9, h⟩ := bd h
     refine rq hC [.row (rAffine x9), .nat 21] [11, 12, 42, 43, 44] [(11, vI x7), (12, V.ref 21 0)] [(21, some (E.cells [vM rI x9.coefs, vI x9.const]))] [(21, true)] (an (ix_map rAffine hx9) trivial) ?_
     obtain ⟨x10, hx10, h⟩ := bd h
     refine rq hC [.v (vI x10)] [13, 45, 46, 47] [(13, vI x10)] [] [] (an (c_i_Affine_eval G n x9 point hx10) trivial) ?_
     refine vwp_seq ?_
     obtain ⟨x11, hx11, h⟩ := bd h
     obtain ⟨x12, hx12, h⟩ := bd h
     refine rq hC [.row (rI x11), .v (vB x12)] [48, 49, 50, 51, 52, 53, 54, 55, 56] [(56, vB (!x12))] [] [] (an (ix_map rI hx11) (an (c_i_within G n x10 0 (wr (x11 - 1)) hx12) trivial)) ?_
     refine vci (b := !x12) h (fun c5 h => ?_) (fun c5 h => ?_)
     ·refine rq hC [] [6] [(6, vI (-1))] [] [] trivial ?_
      refine vwp_ret ?_
      obtain rfl := so h
      exact eR
     ·refine vwp_skip ?_
      refine rk hC [.row (rI x11)] [10, 57, 58, 59, 60, 61, 62, 63, 64, 65] [(10, vI (wr ((wr (x6 * x11)) + x10)))] [] [] (an (ix_map rI hx11) trivial) ?_
      refine rk hC [] [40, 66] [(40, vI (wr (x7 + 1)))] [] [] trivial ?_
      exact ⟨(wr ((wr (x6 * x11)) + x10), wr (x7 + 1)), (), h, lS⟩
    ·refine vwp_exit ?_
     refine rq hC [] [6, 67, 68, 69] [(6, vI (wr (x1 + x6)))] [] [] trivial ?_
     refine vwp_ret ?_
     obtain rfl := so h
     exact eR
 ·refine vwp_exit ?_
  refine rq hC [] [6] [(6, vI (-1))] [] [] trivial ?_
  refine vwp_ret ?_
  obtain rfl := so h
  exact eR
theorem c_i_Program_stmtOk_1 (G : GS) (n : Nat) (a : Access) (c0__a1 : Prog) (c1__a2 : List Int) {r : Bool} (h : i_Program_stmtOk_1 n a c0__a1 c1__a2 = some r) : PCC Tryz.prog G.g 177 [V.agg [vS a.array, vM rAffine a.subs], V.tp [T.sl (List.map rArr c0__a1.arrays), T.sl (List.map rPart c0__a1.parts)], V.tp [T.sl (List.map rI c1__a2)]] (vB r) := by
 unfold i_Program_stmtOk_1 at h
 refine pmr tyOK Tryz.func177 rfl rfl rfl rfl rfl rfl rfl ?_
 intro w X hC
 refine rq hC [.b true] [3, 4] [(3, V.tp [T.str a.array, T.sl (List.map rAffine a.subs)])] [] [] trivial ?_
 obtain ⟨x1, hx1, h⟩ := bd h
 refine rq hC [.v (vI x1)] [4, 5, 6, 7, 8, 9] [(4, vB (decide (x1 < 0)))] [] [] (an (c_i_Program_cell G n c0__a1 a c1__a2 hx1) trivial) ?_
 refine vwp_ret ?_
 obtain rfl := so h
 exact eR
theorem c_i_reads (G : GS) : ∀ (n : Nat) (e : Expr) {r : (List Access)} (h : i_reads n e = some r), VCC Tryz.prog G.g 134 [] [V.agg [vI e.kind, vI e.num, vM rI e.index.coefs, vI e.index.const, vS e.read.array, vM rAffine e.read.subs, vM rExpr e.kids]] (ms 0 1 2 rAccess r) [ar 107 1 2 rAccess r] := by
 intro n
 induction n with
 | zero => intro e r h; rw [i_reads.eq_def] at h; cases h
 | succ n ih =>
  intro e r h
  rw [i_reads.eq_def] at h; dsimp only at h
  refine vmr tyOK Tryz.func134 rfl rfl rfl rfl rfl rfl rfl rfl ?_
  intro w X β0 hC hg
  refine rq hC [.b true] [1, 2] [(1, V.tp [T.int .i64 e.kind, T.int .i64 e.num, T.sl (List.map rI e.index.coefs), T.int .i64 e.index.const, T.str e.read.array, T.sl (List.map rAffine e.read.subs), T.sl (List.map rExpr e.kids)])] [] [] trivial ?_
  refine vwp_seq ?_
  refine rq hC [] [6, 7, 8] [(8, vB (decide (e.kind = 3)))] [] [] trivial ?_
  refine vci (b := decide (e.kind = 3)) h (fun c1 h => ?_) (fun c1 h => ?_)
  ·refine rq hC [.int 1, .nat 20] [2, 9, 10, 11] [(2, ms 20 1 2 rAccess [e.read])] [(20, some (ar 107 1 2 rAccess [e.read]))] [(20, true)] trivial ?_
   refine vwp_weaken (lk hC [.ren 2 20 0] [2] [(2, ms 0 1 2 rAccess [e.read])] [(0, some (ar 107 1 2 rAccess [e.read])), (20, none)] [(0, true)]) ?_
   refine vwp_ret ?_
   obtain rfl := so h
   exact eW
  ·refine vwp_skip ?_
   refine rq hC [] [3] [(3, V.t T.nilS)] [] [] trivial ?_
   refine vwp_seq ?_
   refine rq hC [.nat e.kids.length] [12, 13, 14, 15] [(13, vM rExpr e.kids), (14, vI (e.kids.length : Int)), (15, vI 0)] [] [] (an (lenM rExpr e.kids) trivial) ?_
   refine vwp_block ?_
   refine vwp_weaken (lk hC [.grow 3 20 107] [3] [(3, ms 20 1 2 rAccess [])] [(20, some (ar 107 1 2 rAccess []))] [(20, true)]) ?_
   refine vwp_lm (γ := Nat) h (fun (x_ : (List Access) × Int) (g_ : Nat) => mkS [(3, ms 20 g_ 2 rAccess x_.1), (13, vM rExpr e.kids), (14, vI (e.kids.length : Int)), (15, vI x_.2)] [(20, ar 107 g_ 2 rAccess x_.1)] [20]) 1 (lS) ?_
   rintro again4 ⟨x1, x2⟩ g3 h
   refine rq hC [] [16] [(16, vB (decide (x2 < (e.kids.length : Int))))] [] [] trivial ?_
   refine vwp_seq ?_
   refine vci (b := decide (x2 < (e.kids.length : Int))) h (fun c2 h => ?_) (fun c2 h => ?_)
   ·refine vwp_skip ?_
    refine vwp_seq ?_
    refine vwp_block ?_
    obtain ⟨x5, hx5, h⟩ := bd h
    refine rq hC [.row (rExprC x5), .nat 21] [5, 17, 18] [(5, V.ref 21 0)] [(21, some (E.cells [vI x5.kind, vI x5.num, vM rI x5.index.coefs, vI x5.index.const, vS x5.read.array, vM rAffine x5.read.subs, vM rExpr x5.kids]))] [(21, true)] (an (ix_mapE rExpr hx5 (rExpr_eq x5)) trivial) ?_
    obtain ⟨x6, hx6, h⟩ := bd h
    obtain ⟨x7, hx7, h⟩ := bd h
    refine rk hC [.vc [] [22] (ms 0 1 2 rAccess x6) [ar 107 1 2 rAccess x6], .at 2, .fz 22 [21] [], .rows (List.map rAccess x7)] [3, 19, 20, 21, 22] [(3, ms 20 (g3 + 1) 2 rAccess x7)] [(22, none), (20, some (ar 107 (g3 + 1) 2 rAccess x7))] [(22, true)] (an (ih x5 hx6) (an (app_map rAccess hx7) (an (rwM (r := rAccess) 2 rAccess_len x1) (an (rwM (r := rAccess) 2 rAccess_len x6) trivial)))) ?_
    refine rk hC [] [15, 23] [(15, vI (wr (x2 + 1)))] [] [] trivial ?_
    exact ⟨(x7, wr (x2 + 1)), (g3 + 1), h, lS⟩
   ·refine vwp_exit ?_
    refine rq hC [] [2, 24] [(2, ms 20 g3 2 rAccess x1)] [] [] trivial ?_
    refine vwp_weaken (lk hC [.ren 2 20 0] [2] [(2, ms 0 1 2 rAccess x1)] [(0, some (ar 107 1 2 rAccess x1)), (20, none)] [(0, true)]) ?_
    refine vwp_ret ?_
    obtain rfl := so h
    exact eW
theorem c_l_IndexFunc_Access_k2 (G : GS) (n : Nat) (s : List Access) (fF : FuncId) (fC0 : List T) (fC1 : List T) (f : Access → Option Bool) (hf : ∀ (q0 : Access) r, f q0 = some r → PCC Tryz.prog G.g fF [V.agg [vS q0.array, vM rAffine q0.subs], V.tp fC0, V.tp fC1] (vB r)) {r : Int} (h : l_IndexFunc_Access n s f = some r) : PCC Tryz.prog G.g 210 [vM rAccess s, V.fn fF [V.tp fC0, V.tp fC1]] (vI r) := by
 unfold l_IndexFunc_Access at h
 refine pmr tyOK Tryz.func210 rfl rfl rfl rfl rfl rfl rfl ?_
 intro w X hC
 refine rq hC [] [4] [] [] [] trivial ?_
 refine vwp_seq ?_
 refine rq hC [.nat s.length] [6, 7, 8] [(7, vI (s.length : Int)), (8, vI 0)] [] [] (an (lenM rAccess s) trivial) ?_
 refine vwp_block ?_
 refine vwp_lm (γ := Unit) h (fun (x_ : Int) (g_ : Unit) => mkS [(0, vM rAccess s), (1, V.fn fF [V.tp fC0, V.tp fC1]), (7, vI (s.length : Int)), (8, vI x_)] [] []) () (lS) ?_
 rintro again2 x1 ⟨⟩ h
 refine rq hC [] [9] [(9, vB (decide (x1 < (s.length : Int))))] [] [] trivial ?_
 refine vwp_seq ?_
 refine vci (b := decide (x1 < (s.length : Int))) h (fun c1 h => ?_) (fun c1 h => ?_)
 ·refine vwp_skip ?_
  refine vwp_seq ?_
  refine vwp_block ?_
  refine rq hC [] [5, 10] [(5, vI x1)] [] [] trivial ?_
  obtain ⟨x3, hx3, h⟩ := bd h
  obtain ⟨x4, hx4, h⟩ := bd h
  refine rq hC [.row (rAccess x3), .v (vB x4)] [11, 12, 13, 14, 15, 16] [(16, vB x4)] [] [] (an (ix_map rAccess hx3) (an (hf x3 _ hx4) trivial)) ?_
  refine vci (b := x4) h (fun c2 h => ?_) (fun c2 h => ?_)
  ·refine rq hC [] [4, 17] [(4, vI x1)] [] [] trivial ?_
   refine vwp_ret ?_
   obtain rfl := so h
   exact eR
  ·refine vwp_skip ?_
   refine rk hC [] [8, 18] [(8, vI (wr (x1 + 1)))] [] [] trivial ?_
   exact ⟨wr (x1 + 1), (), h, lS⟩
 ·refine vwp_exit ?_
  refine rq hC [] [4] [(4, vI (-1))] [] [] trivial ?_
  refine vwp_ret ?_
  obtain rfl := so h
  exact eR
theorem c_l_ContainsFunc_Access_k2 (G : GS) (n : Nat) (s : List Access) (fF : FuncId) (fC0 : List T) (fC1 : List T) (f : Access → Option Bool) (hf : ∀ (q0 : Access) r, f q0 = some r → PCC Tryz.prog G.g fF [V.agg [vS q0.array, vM rAffine q0.subs], V.tp fC0, V.tp fC1] (vB r)) {r : Bool} (h : l_ContainsFunc_Access n s f = some r) : PCC Tryz.prog G.g 176 [vM rAccess s, V.fn fF [V.tp fC0, V.tp fC1]] (vB r) := by
 unfold l_ContainsFunc_Access at h
 refine pmr tyOK Tryz.func176 rfl rfl rfl rfl rfl rfl rfl ?_
 intro w X hC
 refine rq hC [] [4] [] [] [] trivial ?_
 obtain ⟨x1, hx1, h⟩ := bd h
 refine rq hC [.v (vI x1)] [4, 5, 6, 7, 8] [(4, vB (decide ((0 : Int) ≤ x1)))] [] [] (an (c_l_IndexFunc_Access_k2 G n s fF fC0 fC1 f hf hx1) trivial) ?_
 refine vwp_ret ?_
 obtain rfl := so h
 exact eR
theorem c_i_Program_stmtOk (G : GS) (n : Nat) (p : Prog) (s : Stmt) (point : List Int) {r : Bool} (h : i_Program_stmtOk n p s point = some r) : PCC Tryz.prog G.g 132 [V.agg [vM rArr p.arrays, vM rPart p.parts], V.agg [vS s.write.array, vM rAffine s.write.subs, vI s.value.kind, vI s.value.num, vM rI s.value.index.coefs, vI s.value.index.const, vS s.value.read.array, vM rAffine s.value.read.subs, vM rExpr s.value.kids], vM rI point] (vB r) := by
 unfold i_Program_stmtOk at h
 refine pmr tyOK Tryz.func132 rfl rfl rfl rfl rfl rfl rfl ?_
 intro w X hC
 refine rq hC [.b true, .b true, .b true] [3, 4, 5, 6] [(3, V.tp [T.sl (List.map rArr p.arrays), T.sl (List.map rPart p.parts)]), (4, V.tp [T.str s.write.array, T.sl (List.map rAffine s.write.subs), T.int .i64 s.value.kind, T.int .i64 s.value.num, T.sl (List.map rI s.value.index.coefs), T.int .i64 s.value.index.const, T.str s.value.read.array, T.sl (List.map rAffine s.value.read.subs), T.sl (List.map rExpr s.value.kids)]), (5, V.tp [T.sl (List.map rI point)])] [] [] trivial ?_
 obtain ⟨j1, hj1, h⟩ := jn_e h
 refine vwp_jm (γ := Unit) (j := j1) (r := r) (fun (x_ : Bool) (g_ : Unit) => mkS [(6, vB x_)] [] []) ?_ ?_
 ·
  obtain ⟨x2, hx2, h⟩ := bd h
  refine splI h (fun c1 h => ?_) (fun c1 h => ?_)
  ·refine rk hC [.v (vI x2), .b false, .b false, .b false, .b false, .b false, .b false, .b false] [6, 7, 8, 9, 10, 11, 12, 13, 14, 15, 16, 17, 18, 19, 20] [(6, vB false)] [] [] (an (c_i_Program_cell G n p s.write point hx2) (an c1 (an c1 (an c1 (an c1 (an c1 (an c1 (an c1 trivial)))))))) ?_
   exact ⟨false, (), h, lS⟩
  ·obtain ⟨x3, hx3, h⟩ := bd h
   obtain ⟨x4, hx4, h⟩ := bd h
   refine rk hC [.v (vI x2), .b true, .b true, .b true, .vc [] [20] (ms 0 1 2 rAccess x3) [ar 107 1 2 rAccess x3], .b true, .b true, .b true, .v (vB x4), .b true, .b true] [6, 7, 8, 9, 10, 11, 12, 13, 14, 15, 16, 17, 18, 19, 20] [(6, vB (!x4))] [(20, some (ar 107 1 2 rAccess x3))] [(20, true)] (an (c_i_Program_cell G n p s.write point hx2) (an c1 (an c1 (an c1 (an (c_i_reads G n s.value hx3) (an c1 (an c1 (an (c_l_ContainsFunc_Access_k2 G n x3 177 [T.sl (List.map rArr p.arrays), T.sl (List.map rPart p.parts)] [T.sl (List.map rI point)] (fun q0 => i_Program_stmtOk_1 n q0 p point) (fun q0 r h => c_i_Program_stmtOk_1 G n q0 p point h) hx4) (an c1 (an c1 trivial)))))))))) ?_
   exact ⟨!x4, (), h, lS⟩
 ·rintro x5 ⟨⟩ h
  subst hj1
  refine vwp_ret ?_
  obtain rfl := so h
  exact eR
theorem c_i_arraysOk_1 (G : GS) (n : Nat) (n_a0 : Int) {r : Bool} (h : i_arraysOk_1 n n_a0 = some r) : PCC Tryz.prog G.g 170 [vI n_a0] (vB r) := by
 unfold i_arraysOk_1 at h
 refine pmr tyOK Tryz.func170 rfl rfl rfl rfl rfl rfl rfl ?_
 intro w X hC
 refine rq hC [] [2] [] [] [] trivial ?_
 obtain ⟨x1, hx1, h⟩ := bd h
 refine rq hC [.v (vB x1)] [2, 3, 4, 5] [(2, vB (!x1))] [] [] (an (c_i_within G n n_a0 1 6 hx1) trivial) ?_
 refine vwp_ret ?_
 obtain rfl := so h
 exact eR
theorem c_i_arraysOk (G : GS) (n : Nat) (list : List Arr) {r : Bool} (h : i_arraysOk n list = some r) : PCC Tryz.prog G.g 126 [vM rArr list] (vB r) := by
 unfold i_arraysOk at h
 refine pmr tyOK Tryz.func126 rfl rfl rfl rfl rfl rfl rfl ?_
 intro w X hC
 refine rq hC [] [2] [] [] [] trivial ?_
 refine vwp_seq ?_
 refine rq hC [.nat list.length] [5, 6, 7] [(5, vM rArr list), (6, vI (list.length : Int)), (7, vI 0)] [] [] (an (lenM rArr list) trivial) ?_
 refine vwp_block ?_
 refine vwp_lm (γ := Unit) h (fun (x_ : Int) (g_ : Unit) => mkS [(0, vM rArr list), (5, vM rArr list), (6, vI (list.length : Int)), (7, vI x_)] [] []) () (lS) ?_
 rintro again2 x1 ⟨⟩ h
 refine rq hC [] [8] [(8, vB (decide (x1 < (list.length : Int))))] [] [] trivial ?_
 refine vwp_seq ?_
 refine vci (b := decide (x1 < (list.length : Int))) h (fun c1 h => ?_) (fun c1 h => ?_)
 ·refine vwp_skip ?_
  refine vwp_seq ?_
  refine vwp_block ?_
  obtain ⟨x3, hx3, h⟩ := bd h
  refine rq hC [.row (rArr x3), .nat 20] [3, 4, 9, 10, 11] [(3, vI x1), (4, V.ref 20 0)] [(20, some (E.cells [vS x3.name, vM rI x3.dims]))] [(20, true)] (an (ix_map rArr hx3) trivial) ?_
  obtain ⟨j4, hj4, h⟩ := jn_e h
  refine vwp_jm (γ := Unit) (j := j4) (r := r) (fun (x_ : Bool) (g_ : Unit) => mkS [(0, vM rArr list), (5, vM rArr list), (6, vI (list.length : Int)), (7, vI x1), (42, vB x_)] [(20, E.cells [vS x3.name, vM rI x3.dims])] [20]) ?_ ?_
  ·
   obtain ⟨x5, hx5, h⟩ := bd h
   refine splI h (fun c2 h => ?_) (fun c2 h => ?_)
   ·refine splI h (fun c3 h => ?_) (fun c3 h => ?_)
    ·obtain ⟨x6, hx6, h⟩ := bd h
     refine splI h (fun c4 h => ?_) (fun c4 h => ?_)
     ·obtain ⟨x7, hx7, h⟩ := bd h
      refine dk hC hmix [.v (vB x5), .b false, .b false, .b false, .b false, .b false, .b false, .b false, .b false, .b false, .b false, .b false, .b false, .b false, .b false, .b false, .b false, .b false, .b false, .nat x3.dims.length, .b false, .v (vB x6), .b false, .b false, .b false, .b false, .b false, .v (vB x7), .b false] [12, 13, 14, 15, 16, 17, 18, 19, 20, 21, 22, 23, 24, 25, 26, 27, 28, 29, 30, 31, 32, 33, 34, 35, 36, 37, 38, 39, 40, 41, 42] [(42, vB x7)] [] [] (an (c_i_isArray G n x3.name hx5) (an c2 (an c2 (an c2 (an c3 (an c3 (an c3 (an c3 (an c3 (an c3 (an c3 (an c3 (an c3 (an c2 (an c3 (an c2 (an (Eq.refl false) (an (Eq.refl false) (an (Eq.refl false) (an (lenM rI x3.dims) (an (Eq.refl false) (an (c_i_within G n (x3.dims.length : Int) 1 2 hx6) (an (Eq.refl false) (an (Eq.refl false) (an c4 (an c4 (an c4 (an (c_l_ContainsFunc_int G n x3.dims 170 (fun q0 => i_arraysOk_1 n q0) (fun q0 r h => c_i_arraysOk_1 G n q0 h) hx7) (an c4 trivial))))))))))))))))))))))))))))) ?_
      exact ⟨x7, (), h, lS⟩
     ·refine dk hC hmix [.v (vB x5), .b false, .b false, .b false, .b false, .b false, .b false, .b false, .b false, .b false, .b false, .b false, .b false, .b false, .b false, .b false, .b false, .b false, .b false, .nat x3.dims.length, .b false, .v (vB x6), .b false, .b false, .b true, .b true, .b true, .b true] [12, 13, 14, 15, 16, 17, 18, 19, 20, 21, 22, 23, 24, 25, 26, 27, 28, 29, 30, 31, 32, 33, 34, 35, 36, 37, 38, 39, 40, 41, 42] [(42, vB true)] [] [] (an (c_i_isArray G n x3.name hx5) (an c2 (an c2 (an c2 (an c3 (an c3 (an c3 (an c3 (an c3 (an c3 (an c3 (an c3 (an c3 (an c2 (an c3 (an c2 (an (Eq.refl false) (an (Eq.refl false) (an (Eq.refl false) (an (lenM rI x3.dims) (an (Eq.refl false) (an (c_i_within G n (x3.dims.length : Int) 1 2 hx6) (an (Eq.refl false) (an (Eq.refl false) (an c4 (an c4 (an c4 (an c4 trivial)))))))))))))))))))))))))))) ?_
      exact ⟨true, (), h, lS⟩
    ·obtain ⟨x8, hx8, h⟩ := bd h
     refine splI h (fun c5 h => ?_) (fun c5 h => ?_)
     ·obtain ⟨x9, hx9, h⟩ := bd h
      refine splI h (fun c6 h => ?_) (fun c6 h => ?_)
      ·obtain ⟨x10, hx10, h⟩ := bd h
       refine dk hC hmix [.v (vB x5), .b false, .b false, .b false, .b true, .b true, .b true, .b true, .row (rArr x8), .b true, .b true, .b true, .b true, .b true, .b false, .b true, .b false, .b false, .b false, .b false, .nat x3.dims.length, .b false, .v (vB x9), .b false, .b false, .b false, .b false, .b false, .v (vB x10), .b false] [12, 13, 14, 15, 16, 17, 18, 19, 20, 21, 22, 23, 24, 25, 26, 27, 28, 29, 30, 31, 32, 33, 34, 35, 36, 37, 38, 39, 40, 41, 42] [(42, vB x10)] [] [] (an (c_i_isArray G n x3.name hx5) (an c2 (an c2 (an c2 (an c3 (an c3 (an c3 (an c3 (an (ix_map rArr hx8) (an c3 (an c3 (an c3 (an c3 (an c3 (an c2 (an c3 (an c2 (an c5 (an c5 (an c5 (an (lenM rI x3.dims) (an c5 (an (c_i_within G n (x3.dims.length : Int) 1 2 hx9) (an c5 (an c5 (an c6 (an c6 (an c6 (an (c_l_ContainsFunc_int G n x3.dims 170 (fun q0 => i_arraysOk_1 n q0) (fun q0 r h => c_i_arraysOk_1 G n q0 h) hx10) (an c6 trivial)))))))))))))))))))))))))))))) ?_
       exact ⟨x10, (), h, lS⟩
      ·refine dk hC hmix [.v (vB x5), .b false, .b false, .b false, .b true, .b true, .b true, .b true, .row (rArr x8), .b true, .b true, .b true, .b true, .b true, .b false, .b true, .b false, .b false, .b false, .b false, .nat x3.dims.length, .b false, .v (vB x9), .b false, .b false, .b true, .b true, .b true, .b true] [12, 13, 14, 15, 16, 17, 18, 19, 20, 21, 22, 23, 24, 25, 26, 27, 28, 29, 30, 31, 32, 33, 34, 35, 36, 37, 38, 39, 40, 41, 42] [(42, vB true)] [] [] (an (c_i_isArray G n x3.name hx5) (an c2 (an c2 (an c2 (an c3 (an c3 (an c3 (an c3 (an (ix_map rArr hx8) (an c3 (an c3 (an c3 (an c3 (an c3 (an c2 (an c3 (an c2 (an c5 (an c5 (an c5 (an (lenM rI x3.dims) (an c5 (an (c_i_within G n (x3.dims.length : Int) 1 2 hx9) (an c5 (an c5 (an c6 (an c6 (an c6 (an c6 trivial))))))))))))))))))))))))))))) ?_
       exact ⟨true, (), h, lS⟩
     ·refine dk hC hmix [.v (vB x5), .b false, .b false, .b false, .b true, .b true, .b true, .b true, .row (rArr x8), .b true, .b true, .b true, .b true, .b true, .b false, .b true, .b false, .b true, .b true, .b true, .b true, .b true, .b true, .b true, .b true, .b true, .b true] [12, 13, 14, 15, 16, 17, 18, 19, 20, 21, 22, 23, 24, 25, 26, 27, 28, 29, 30, 31, 32, 33, 34, 35, 36, 37, 38, 39, 40, 41, 42] [(42, vB true)] [] [] (an (c_i_isArray G n x3.name hx5) (an c2 (an c2 (an c2 (an c3 (an c3 (an c3 (an c3 (an (ix_map rArr hx8) (an c3 (an c3 (an c3 (an c3 (an c3 (an c2 (an c3 (an c2 (an c5 (an c5 (an c5 (an c5 (an c5 (an c5 (an (Eq.refl true) (an (Eq.refl true) (an (Eq.refl true) (an (Eq.refl true) trivial))))))))))))))))))))))))))) ?_
      exact ⟨true, (), h, lS⟩
   ·refine dk hC hmix [.v (vB x5), .b true, .b true, .b true, .b true, .b true, .b true, .b true, .b true, .b true, .b true, .b true, .b true, .b true, .b true, .b true] [12, 13, 14, 15, 16, 17, 18, 19, 20, 21, 22, 23, 24, 25, 26, 27, 28, 29, 30, 31, 32, 33, 34, 35, 36, 37, 38, 39, 40, 41, 42] [(42, vB true)] [] [] (an (c_i_isArray G n x3.name hx5) (an c2 (an c2 (an c2 (an c2 (an c2 (an (Eq.refl true) (an (Eq.refl true) (an (Eq.refl true) (an (Eq.refl true) (an (Eq.refl true) (an (Eq.refl true) (an (Eq.refl true) (an (Eq.refl true) (an (Eq.refl true) (an (Eq.refl true) trivial)))))))))))))))) ?_
    exact ⟨true, (), h, lS⟩
  ·rintro x11 ⟨⟩ h
   subst hj4
   refine vci (b := x11) h (fun c7 h => ?_) (fun c7 h => ?_)
   ·refine rq hC [] [2] [(2, vB false)] [] [] trivial ?_
    refine vwp_ret ?_
    obtain rfl := so h
    exact eR
   ·refine vwp_skip ?_
    refine rk hC [] [7, 43] [(7, vI (wr (x1 + 1)))] [] [] trivial ?_
    exact ⟨wr (x1 + 1), (), h, lS⟩
 ·refine vwp_exit ?_
  refine rq hC [.nat list.length] [2, 44, 45, 46] [(2, vB (decide ((list.length : Int) ≤ 4)))] [] [] (an (lenM rArr list) trivial) ?_
  refine vwp_ret ?_
  obtain rfl := so h
  exact eR
theorem c_i_Loop_span (G : GS) (n : Nat) (l : Loop) (point : List Int) {r : Int × Int} (h : i_Loop_span n l point = some r) : PCC Tryz.prog G.g 168 [V.agg [vM rAffine l.lo, vM rAffine l.hi], vM rI point] (V.tup [vI r.1, vI r.2]) := by
 unfold i_Loop_span at h
 refine pmr tyOK Tryz.func168 rfl rfl rfl rfl rfl rfl rfl ?_
 intro w X hC
 refine rq hC [.b true] [2, 4, 5] [(2, V.tp [T.sl (List.map rAffine l.lo), T.sl (List.map rAffine l.hi)])] [] [] trivial ?_
 refine vwp_seq ?_
 obtain ⟨x1, hx1, h⟩ := bd h
 obtain ⟨x2, hx2, h⟩ := bd h
 obtain ⟨x3, hx3, h⟩ := bd h
 obtain ⟨x4, hx4, h⟩ := bd h
 refine dk hC hmix [.row (rAffine x1), .v (vI x2), .row (rAffine x3), .v (vI x4)] [6, 7, 12, 13, 14, 15, 16, 17, 18, 19, 20, 21, 22, 23] [(6, vI x2), (7, vI x4)] [] [] (an (ix_map rAffine hx1) (an (c_i_Affine_eval G n x1 point hx2) (an (ix_map rAffine hx3) (an (c_i_Affine_eval G n x3 point hx4) trivial)))) ?_
 refine vwp_seq ?_
 refine rq hC [.nat l.lo.length] [24, 25, 26, 27] [(25, vM rAffine l.lo), (26, vI (l.lo.length : Int)), (27, vI 0)] [] [] (an (lenM rAffine l.lo) trivial) ?_
 refine vwp_block ?_
 refine vwp_lm (γ := Unit) h (fun (x_ : Int × Int) (g_ : Unit) => mkS [(1, vM rI point), (2, V.tp [T.sl (List.map rAffine l.lo), T.sl (List.map rAffine l.hi)]), (6, vI x_.1), (7, vI x4), (25, vM rAffine l.lo), (26, vI (l.lo.length : Int)), (27, vI x_.2)] [] []) () (lS) ?_
 rintro again7 ⟨x5, x6⟩ ⟨⟩ h
 refine rq hC [] [28] [(28, vB (decide (x6 < (l.lo.length : Int))))] [] [] trivial ?_
 refine vwp_seq ?_
 refine vci (b := decide (x6 < (l.lo.length : Int))) h (fun c1 h => ?_) (fun c1 h => ?_)
 ·refine vwp_skip ?_
  refine vwp_seq ?_
  refine vwp_block ?_
  obtain ⟨x8, hx8, h⟩ := bd h
  refine rq hC [.row (rAffine x8), .nat 20] [9, 29, 30] [(9, V.ref 20 0)] [(20, some (E.cells [vM rI x8.coefs, vI x8.const]))] [(20, true)] (an (ix_map rAffine hx8) trivial) ?_
  obtain ⟨x9, hx9, h⟩ := bd h
  refine rk hC [.v (vI x9)] [6, 31, 32, 33, 34, 35] [(6, vI (max x5 x9))] [] [] (an (c_i_Affine_eval G n x8 point hx9) trivial) ?_
  refine rk hC [] [27, 36] [(27, vI (wr (x6 + 1)))] [] [] trivial ?_
  exact ⟨(max x5 x9, wr (x6 + 1)), (), h, lS⟩
 ·refine vwp_exit ?_
  refine vwp_seq ?_
  refine rq hC [.nat l.hi.length] [37, 38, 39, 40] [(38, vM rAffine l.hi), (39, vI (l.hi.length : Int)), (40, vI 0)] [] [] (an (lenM rAffine l.hi) trivial) ?_
  refine vwp_block ?_
  refine vwp_lm (γ := Unit) h (fun (x_ : Int × Int) (g_ : Unit) => mkS [(1, vM rI point), (6, vI x5), (7, vI x_.1), (38, vM rAffine l.hi), (39, vI (l.hi.length : Int)), (40, vI x_.2)] [] []) () (lS) ?_
  rintro again12 ⟨x10, x11⟩ ⟨⟩ h
  refine rq hC [] [41] [(41, vB (decide (x11 < (l.hi.length : Int))))] [] [] trivial ?_
  refine vwp_seq ?_
  refine vci (b := decide (x11 < (l.hi.length : Int))) h (fun c2 h => ?_) (fun c2 h => ?_)
  ·refine vwp_skip ?_
   refine vwp_seq ?_
   refine vwp_block ?_
   obtain ⟨x13, hx13, h⟩ := bd h
   refine rq hC [.row (rAffine x13), .nat 20] [11, 42, 43] [(11, V.ref 20 0)] [(20, some (E.cells [vM rI x13.coefs, vI x13.const]))] [(20, true)] (an (ix_map rAffine hx13) trivial) ?_
   obtain ⟨x14, hx14, h⟩ := bd h
   refine rk hC [.v (vI x14)] [7, 44, 45, 46, 47, 48] [(7, vI (min x10 x14))] [] [] (an (c_i_Affine_eval G n x13 point hx14) trivial) ?_
   refine rk hC [] [40, 49] [(40, vI (wr (x11 + 1)))] [] [] trivial ?_
   exact ⟨(min x10 x14, wr (x11 + 1)), (), h, lS⟩
  ·refine vwp_exit ?_
   refine rq hC [] [4, 5, 50, 51] [(4, vI x5), (5, vI x10)] [] [] trivial ?_
   refine vwp_ret ?_
   obtain rfl := so h
   exact eR
theorem c_i_walking_walk (G : GS) : ∀ (n : Nat) (w_a0 : Walking) (w_a0G2 : Nat) (point : List Int) {r : Bool × Walking} (h : i_walking_walk n w_a0 point = some r), VCC Tryz.prog G.g 171 [E.cells [vM rLoop w_a0.nest, vI w_a0.steps, ms 1 w_a0G2 1 (rL rI) w_a0.out], ar 40 w_a0G2 1 (rL rI) w_a0.out] [V.ref 0 0, vM rI point] (vB r.1) [E.cells [vM rLoop r.2.nest, vI r.2.steps, ms 1 (w_a0G2 + 1) 1 (rL rI) r.2.out], ar 40 (w_a0G2 + 1) 1 (rL rI) r.2.out] := by
 intro n
 induction n with
 | zero => intro w_a0 w_a0G2 point r h; rw [i_walking_walk.eq_def] at h; cases h
 | succ n ih =>
  intro w_a0 w_a0G2 point r h
  rw [i_walking_walk.eq_def] at h; dsimp only at h
  refine vmr tyOK Tryz.func171 rfl rfl rfl rfl rfl rfl rfl rfl ?_
  intro w X β0 hC hg
  refine rq hC [] [4] [] [] [] trivial ?_
  refine vwp_seq ?_
  refine rq hC [.nat point.length, .nat w_a0.nest.length] [8, 9, 10, 11, 12, 13, 14, 15] [(15, vB (decide ((point.length : Int) = (w_a0.nest.length : Int))))] [] [] (an (lenM rI point) (an (lenM rLoop w_a0.nest) trivial)) ?_
  refine vci (b := decide ((point.length : Int) = (w_a0.nest.length : Int))) h (fun c1 h => ?_) (fun c1 h => ?_)
  ·refine vwp_seq ?_
   obtain ⟨x1, hx1, h⟩ := bd h
   obtain ⟨x2, hx2, h⟩ := bd h
   refine dk hC hmix [.vc [] [20] (ms 0 1 1 rI x1) [ar 3 1 1 rI x1], .at 5, .fz 20 [22] [], .int 0, .rows (List.map (rL rI) x2)] [16, 17, 18, 19, 20, 21, 22, 23, 24, 25, 26] [] [(20, none), (1, some (ar 40 (w_a0G2 + 1) 1 (rL rI) x2)), (0, some (E.cells [vM rLoop w_a0.nest, vI w_a0.steps, ms 1 (w_a0G2 + 1) 1 (rL rI) x2]))] [(20, true)] (an (G.clone point hx1) (an (app_map (rL rI) hx2) (an (rwM (r := (rL rI)) 1 (fun _ => rfl) w_a0.out) (an (rwM (r := (rL rI)) 1 (fun _ => rfl) [x1]) trivial)))) ?_
   refine rq hC [.nat x2.length] [4, 27, 28, 29, 30, 31, 32] [(4, vB (decide ((x2.length : Int) ≤ 120)))] [] [] (an (lenM (rL rI) x2) trivial) ?_
   refine vwp_weaken (S.le_regenC 0 2 1 w_a0G2 (w_a0G2 + 1) 1 0 (List.map (rL rI) x2).length (e := 40) (rows := List.map (rL rI) x2) (cs := [vM rLoop w_a0.nest, vI w_a0.steps, ms 1 (w_a0G2 + 1) 1 (rL rI) x2]) rfl (by kernel_rfl) (by kernel_rfl) (by kernel_rfl) (by kernel_rfl) hg.2.1) ?_
   refine vwp_ret ?_
   obtain rfl := so h
   exact eW
  ·refine vwp_skip ?_
   obtain ⟨x3, hx3, h⟩ := bd h
   obtain ⟨x4, hx4, h⟩ := bd h
   refine rq hC [.nat point.length, .row (rLoop x3), .v (V.tup [vI x4.1, vI x4.2])] [5, 6, 33, 34, 35, 36, 37, 38, 39, 40, 41, 42, 43, 44, 45] [(5, vI x4.1), (6, vI x4.2)] [] [] (an (lenM rI point) (an (ix_map rLoop hx3) (an (c_i_Loop_span G n x3 point hx4) trivial))) ?_
   refine vwp_seq ?_
   refine rq hC [] [7, 46] [(7, vI x4.1)] [] [] trivial ?_
   refine vwp_block ?_
   refine vwp_lm (γ := Nat) h (fun (x_ : (List Loop) × Int × (List (List Int)) × Int) (g_ : Nat) => mkS [(0, V.ref 0 0), (1, vM rI point), (6, vI x4.2), (7, vI x_.2.2.2)] [(0, E.cells [vM rLoop x_.1, vI x_.2.1, ms 1 g_ 1 (rL rI) x_.2.2.1]), (1, ar 40 g_ 1 (rL rI) x_.2.2.1)] [0, 1]) w_a0G2 (lS) ?_
   rintro again10 ⟨x5, x6, x7, x8⟩ g9 h
   refine vwp_seq ?_
   refine rq hC [] [47, 48, 49] [(49, vB (decide (x8 < x4.2)))] [] [] trivial ?_
   refine vci (b := decide (x8 < x4.2)) h (fun c2 h => ?_) (fun c2 h => ?_)
   ·refine vwp_skip ?_
    refine vwp_seq ?_
    refine vwp_block ?_
    refine rq hC [] [52, 53, 54, 55, 56, 57, 58] [] [(0, some (E.cells [vM rLoop x5, vI (wr (x6 + 1)), ms 1 g9 1 (rL rI) x7]))] [] trivial ?_
    obtain ⟨j11, hj11, h⟩ := jn_e h
    refine vwp_jm (γ := Nat) (j := j11) (r := r) (fun (x_ : (List Loop) × Int × (List (List Int)) × Bool) (g_ : Nat) => mkS [(0, V.ref 0 0), (1, vM rI point), (6, vI x4.2), (7, vI x8), (74, vB x_.2.2.2)] [(0, E.cells [vM rLoop x_.1, vI x_.2.1, ms 1 g_ 1 (rL rI) x_.2.2.1]), (1, ar 40 g_ 1 (rL rI) x_.2.2.1)] [0, 1]) ?_ ?_
    ·
     refine splI h (fun c3 h => ?_) (fun c3 h => ?_)
     ·obtain ⟨x12, hx12, h⟩ := bd h
      obtain ⟨x13, hx13, h⟩ := bd h
      obtain ⟨x14, hx14, h⟩ := bd h
      refine rk hC [.b false, .b false, .b false, .vc [] [20] (ms 0 1 1 rI x12) [ar 3 1 1 rI x12], .b false, .b false, .int 0, .b false, .rows (List.map rI x13), .at 3, .fz 20 [71] [], .b false, .vc [0, 1] [] (vB x14.1) [E.cells [vM rLoop x14.2.nest, vI x14.2.steps, ms 1 (g9 + 1) 1 (rL rI) x14.2.out], ar 40 (g9 + 1) 1 (rL rI) x14.2.out], .b false, .b false] [59, 60, 61, 62, 63, 64, 65, 66, 67, 68, 69, 70, 71, 72, 73, 74] [(74, vB (!x14.1))] [(20, none), (1, some (ar 40 (g9 + 1) 1 (rL rI) x14.2.out)), (0, some (E.cells [vM rLoop x14.2.nest, vI x14.2.steps, ms 1 (g9 + 1) 1 (rL rI) x14.2.out]))] [(20, true), (0, true), (1, true)] (an c3 (an c3 (an c3 (an (G.clone point hx12) (an c3 (an c3 (an c3 (an (app_map rI hx13) (an (rwM (r := rI) 1 (fun _ => rfl) x12) (an (rwM (r := rI) 1 (fun _ => rfl) [x8]) (an c3 (an (ih (⟨x5, wr (x6 + 1), x7⟩ : Walking) g9 x13 hx14) (an c3 (an c3 trivial)))))))))))))) ?_
      exact ⟨(x14.2.nest, x14.2.steps, x14.2.out, !x14.1), (g9 + 1), h, lS⟩
     ·refine rk hC [.b true, .b true, .b true, .b true, .b true, .b true, .b true, .b true, .b true] [59, 60, 61, 62, 63, 64, 65, 66, 67, 68, 69, 70, 71, 72, 73, 74] [(74, vB true)] [] [] (an c3 (an c3 (an c3 (an c3 (an c3 (an c3 (an c3 (an c3 (an c3 trivial))))))))) ?_
      exact ⟨(x5, wr (x6 + 1), x7, true), g9, h, lS⟩
    ·rintro ⟨x15, x16, x17, x18⟩ g19 h
     subst hj11
     refine vci (b := x18) h (fun c4 h => ?_) (fun c4 h => ?_)
     ·refine rq hC [] [4] [(4, vB false)] [] [] trivial ?_
      refine vwp_weaken (S.le_regenC 0 2 1 w_a0G2 g19 1 0 (List.map (rL rI) x17).length (e := 40) (rows := List.map (rL rI) x17) (cs := [vM rLoop x15, vI x16, ms 1 g19 1 (rL rI) x17]) rfl (by kernel_rfl) (by kernel_rfl) (by kernel_rfl) (by kernel_rfl) hg.2.1) ?_
      refine vwp_ret ?_
      obtain rfl := so h
      exact eW
     ·refine vwp_skip ?_
      refine rk hC [] [7, 50, 51] [(7, vI (wr (x8 + 1)))] [] [] trivial ?_
      exact ⟨(x15, x16, x17, wr (x8 + 1)), g19, h, lS⟩
   ·refine vwp_exit ?_
    refine rq hC [] [4] [(4, vB true)] [] [] trivial ?_
    refine vwp_weaken (S.le_regenC 0 2 1 w_a0G2 g9 1 0 (List.map (rL rI) x7).length (e := 40) (rows := List.map (rL rI) x7) (cs := [vM rLoop x5, vI x6, ms 1 g9 1 (rL rI) x7]) rfl (by kernel_rfl) (by kernel_rfl) (by kernel_rfl) (by kernel_rfl) hg.2.1) ?_
    refine vwp_ret ?_
    obtain rfl := so h
    exact eW
theorem c_i_boundsOk_1 (G : GS) (n : Nat) (a : Affine) (c0__a1 : Int) {r : Bool} (h : i_boundsOk_1 n a c0__a1 = some r) : PCC Tryz.prog G.g 232 [V.agg [vM rI a.coefs, vI a.const], V.tp [T.int .i64 c0__a1]] (vB r) := by
 unfold i_boundsOk_1 at h
 refine pmr tyOK Tryz.func232 rfl rfl rfl rfl rfl rfl rfl ?_
 intro w X hC
 refine rq hC [.b true] [2, 3] [(2, V.tp [T.sl (List.map rI a.coefs), T.int .i64 a.const])] [] [] trivial ?_
 obtain ⟨j1, hj1, h⟩ := jn_e h
 refine vwp_jm (γ := Unit) (j := j1) (r := r) (fun (x_ : Bool) (g_ : Unit) => mkS [(3, vB x_)] [] []) ?_ ?_
 ·
  obtain ⟨x2, hx2, h⟩ := bd h
  refine splI h (fun c1 h => ?_) (fun c1 h => ?_)
  ·obtain ⟨x3, hx3, h⟩ := bd h
   refine dk hC hmix [.v (vB x2), .b false, .b false, .v (vI x3), .b false, .b false, .b false] [3, 4, 5, 6, 7, 8, 9, 10, 11, 12] [(3, vB (decide (c0__a1 < x3)))] [] [] (an (c_i_AffineValid G n a hx2) (an c1 (an c1 (an (c_i_Affine_depth G n a hx3) (an c1 (an c1 (an c1 trivial))))))) ?_
   exact ⟨decide (c0__a1 < x3), (), h, lS⟩
  ·refine dk hC hmix [.v (vB x2), .b true, .b true, .b true, .b true, .b true] [3, 4, 5, 6, 7, 8, 9, 10, 11, 12] [(3, vB true)] [] [] (an (c_i_AffineValid G n a hx2) (an c1 (an c1 (an c1 (an c1 (an c1 trivial)))))) ?_
   exact ⟨true, (), h, lS⟩
 ·rintro x4 ⟨⟩ h
  subst hj1
  refine vwp_ret ?_
  obtain rfl := so h
  exact eR
theorem c_i_boundsOk (G : GS) (n : Nat) (list : List Affine) (depth : Int) {r : Bool} (h : i_boundsOk n list depth = some r) : PCC Tryz.prog G.g 201 [vM rAffine list, vI depth] (vB r) := by
 unfold i_boundsOk at h
 refine pmr tyOK Tryz.func201 rfl rfl rfl rfl rfl rfl rfl ?_
 intro w X hC
 refine rq hC [.b true] [3, 4] [(3, V.tp [T.int .i64 depth])] [] [] trivial ?_
 obtain ⟨j1, hj1, h⟩ := jn_e h
 refine vwp_jm (γ := Unit) (j := j1) (r := r) (fun (x_ : Bool) (g_ : Unit) => mkS [(4, vB x_)] [] []) ?_ ?_
 ·
  obtain ⟨x2, hx2, h⟩ := bd h
  refine splI h (fun c1 h => ?_) (fun c1 h => ?_)
  ·refine rk hC [.nat list.length, .v (vB x2), .b false, .b false, .b false, .b false, .b false] [4, 5, 6, 7, 8, 9, 10, 11, 12, 13] [(4, vB false)] [] [] (an (lenM rAffine list) (an (c_i_within G n (list.length : Int) 1 2 hx2) (an c1 (an c1 (an c1 (an c1 (an c1 trivial))))))) ?_
   exact ⟨false, (), h, lS⟩
  ·obtain ⟨x3, hx3, h⟩ := bd h
   refine rk hC [.nat list.length, .v (vB x2), .b true, .b true, .b true, .v (vB x3), .b true, .b true] [4, 5, 6, 7, 8, 9, 10, 11, 12, 13] [(4, vB (!x3))] [] [] (an (lenM rAffine list) (an (c_i_within G n (list.length : Int) 1 2 hx2) (an c1 (an c1 (an c1 (an (c_l_ContainsFunc_Affine_k1 G n list 232 [T.int .i64 depth] (fun q0 => i_boundsOk_1 n q0 depth) (fun q0 r h => c_i_boundsOk_1 G n q0 depth h) hx3) (an c1 (an c1 trivial)))))))) ?_
   exact ⟨!x3, (), h, lS⟩
 ·rintro x4 ⟨⟩ h
  subst hj1
  refine vwp_ret ?_
  obtain rfl := so h
  exact eR
theorem c_i_NestValid (G : GS) (n : Nat) (nest : List Loop) {r : Bool} (h : i_NestValid n nest = some r) : PCC Tryz.prog G.g 167 [vM rLoop nest] (vB r) := by
 unfold i_NestValid at h
 refine pmr tyOK Tryz.func167 rfl rfl rfl rfl rfl rfl rfl ?_
 intro w X hC
 refine rq hC [] [2] [] [] [] trivial ?_
 refine vwp_seq ?_
 refine rq hC [.nat nest.length] [5, 6, 7] [(5, vM rLoop nest), (6, vI (nest.length : Int)), (7, vI 0)] [] [] (an (lenM rLoop nest) trivial) ?_
 refine vwp_block ?_
 refine vwp_lm (γ := Unit) h (fun (x_ : Int) (g_ : Unit) => mkS [(0, vM rLoop nest), (5, vM rLoop nest), (6, vI (nest.length : Int)), (7, vI x_)] [] []) () (lS) ?_
 rintro again2 x1 ⟨⟩ h
 refine rq hC [] [8] [(8, vB (decide (x1 < (nest.length : Int))))] [] [] trivial ?_
 refine vwp_seq ?_
 refine vci (b := decide (x1 < (nest.length : Int))) h (fun c1 h => ?_) (fun c1 h => ?_)
 ·refine vwp_skip ?_
  refine vwp_seq ?_
  refine vwp_block ?_
  obtain ⟨x3, hx3, h⟩ := bd h
  refine rq hC [.row (rLoop x3), .nat 20] [3, 4, 9, 10, 11] [(3, vI x1), (4, V.ref 20 0)] [(20, some (E.cells [vM rAffine x3.lo, vM rAffine x3.hi]))] [(20, true)] (an (ix_map rLoop hx3) trivial) ?_
  obtain ⟨j4, hj4, h⟩ := jn_e h
  refine vwp_jm (γ := Unit) (j := j4) (r := r) (fun (x_ : Bool) (g_ : Unit) => mkS [(0, vM rLoop nest), (5, vM rLoop nest), (6, vI (nest.length : Int)), (7, vI x1), (23, vB x_)] [(20, E.cells [vM rAffine x3.lo, vM rAffine x3.hi])] [20]) ?_ ?_
  ·
   obtain ⟨x5, hx5, h⟩ := bd h
   refine splI h (fun c2 h => ?_) (fun c2 h => ?_)
   ·obtain ⟨x6, hx6, h⟩ := bd h
    refine rk hC [.v (vB x5), .b false, .b false, .b false, .b false, .v (vB x6), .b false, .b false] [12, 13, 14, 15, 16, 17, 18, 19, 20, 21, 22, 23] [(23, vB (!x6))] [] [] (an (c_i_boundsOk G n x3.lo x1 hx5) (an c2 (an c2 (an c2 (an c2 (an (c_i_boundsOk G n x3.hi x1 hx6) (an c2 (an c2 trivial)))))))) ?_
    exact ⟨!x6, (), h, lS⟩
   ·refine rk hC [.v (vB x5), .b true, .b true, .b true, .b true, .b true, .b true] [12, 13, 14, 15, 16, 17, 18, 19, 20, 21, 22, 23] [(23, vB true)] [] [] (an (c_i_boundsOk G n x3.lo x1 hx5) (an c2 (an c2 (an c2 (an c2 (an c2 (an c2 trivial))))))) ?_
    exact ⟨true, (), h, lS⟩
  ·rintro x7 ⟨⟩ h
   subst hj4
   refine vci (b := x7) h (fun c3 h => ?_) (fun c3 h => ?_)
   ·refine rq hC [] [2] [(2, vB false)] [] [] trivial ?_
    refine vwp_ret ?_
    obtain rfl := so h
    exact eR
   ·refine vwp_skip ?_
    refine rk hC [] [7, 24] [(7, vI (wr (x1 + 1)))] [] [] trivial ?_
    exact ⟨wr (x1 + 1), (), h, lS⟩
 ·refine vwp_exit ?_
  refine rq hC [.nat nest.length] [2, 25, 26, 27] [(2, vB (decide ((nest.length : Int) ≤ 4)))] [] [] (an (lenM rLoop nest) trivial) ?_
  refine vwp_ret ?_
  obtain rfl := so h
  exact eR
theorem c_i_NestPoints (G : GS) (n : Nat) (nest : List Loop) {r : (List (List Int)) × Bool} (h : i_NestPoints n nest = some r) : VCC Tryz.prog G.g 127 [] [vM rLoop nest] (V.tup [ms 0 1 1 (rL rI) r.1, vB r.2]) [ar 40 1 1 (rL rI) r.1] := by
 unfold i_NestPoints at h
 refine vmr tyOK Tryz.func127 rfl rfl rfl rfl rfl rfl rfl rfl ?_
 intro w X β0 hC hg
 refine rq hC [] [2, 3] [] [] [] trivial ?_
 refine vwp_seq ?_
 obtain ⟨x1, hx1, h⟩ := bd h
 refine rq hC [.v (vB x1)] [5, 6, 7] [(7, vB (!x1))] [] [] (an (c_i_NestValid G n nest hx1) trivial) ?_
 refine vci (b := !x1) h (fun c1 h => ?_) (fun c1 h => ?_)
 ·refine rq hC [] [2, 3] [(2, V.t T.nilS), (3, vB false)] [] [] trivial ?_
  refine vwp_weaken (lk hC [.grow 2 0 40] [2] [(2, ms 0 1 1 (rL rI) [])] [(0, some (ar 40 1 1 (rL rI) []))] [(0, true)]) ?_
  refine vwp_ret ?_
  obtain rfl := so h
  exact eW
 ·refine vwp_skip ?_
  refine rq hC [.nat 20] [4, 8, 9, 10] [(4, V.ref 20 0)] [(20, some (E.cells [vM rLoop nest, vI 0, V.t T.nilS]))] [(20, true)] trivial ?_
  refine vwp_seq ?_
  obtain ⟨x2, hx2, h⟩ := bd h
  refine rq hC [.at 2, .growc 20 2 21 40, .vc [20, 21] [] (vB x2.1) [E.cells [vM rLoop x2.2.nest, vI x2.2.steps, ms 1 2 1 (rL rI) x2.2.out], ar 40 2 1 (rL rI) x2.2.out]] [11, 12, 13] [(13, vB (!x2.1))] [(21, some (ar 40 2 1 (rL rI) x2.2.out)), (20, some (E.cells [vM rLoop x2.2.nest, vI x2.2.steps, ms 21 2 1 (rL rI) x2.2.out]))] [(21, true), (20, true), (21, true)] (an (c_i_walking_walk G n (⟨nest, 0, []⟩ : Walking) 1 [] hx2) trivial) ?_
  refine vci (b := !x2.1) h (fun c2 h => ?_) (fun c2 h => ?_)
  ·refine rq hC [] [2, 3] [(2, V.t T.nilS), (3, vB false)] [] [] trivial ?_
   refine vwp_weaken (lk hC [.grow 2 0 40] [2] [(2, ms 0 1 1 (rL rI) [])] [(0, some (ar 40 1 1 (rL rI) []))] [(0, true)]) ?_
   refine vwp_ret ?_
   obtain rfl := so h
   exact eW
  ·refine vwp_skip ?_
   refine rq hC [] [2, 3, 14, 15, 16, 17] [(2, ms 21 2 1 (rL rI) x2.2.out), (3, vB true)] [] [] trivial ?_
   refine vwp_weaken (lk hC [.ren 2 21 0] [2] [(2, ms 0 1 1 (rL rI) x2.2.out)] [(0, some (ar 40 1 1 (rL rI) x2.2.out)), (21, none)] [(0, true)]) ?_
   refine vwp_ret ?_
   obtain rfl := so h
   exact eW
theorem c_l_IndexFunc_Stmt_k1 (G : GS) (n : Nat) (s : List Stmt) (fF : FuncId) (fC0 : List T) (f : Stmt → Option Bool) (hf : ∀ (q0 : Stmt) r, f q0 = some r → PCC Tryz.prog G.g fF [V.agg [vS q0.write.array, vM rAffine q0.write.subs, vI q0.value.kind, vI q0.value.num, vM rI q0.value.index.coefs, vI q0.value.index.const, vS q0.value.read.array, vM rAffine q0.value.read.subs, vM rExpr q0.value.kids], V.tp fC0] (vB r)) {r : Int} (h : l_IndexFunc_Stmt n s f = some r) : PCC Tryz.prog G.g 172 [vM rStmt s, V.fn fF [V.tp fC0]] (vI r) := by
 unfold l_IndexFunc_Stmt at h
 refine pmr tyOK Tryz.func172 rfl rfl rfl rfl rfl rfl rfl ?_
 intro w X hC
 refine rq hC [] [4] [] [] [] trivial ?_
 refine vwp_seq ?_
 refine rq hC [.nat s.length] [6, 7, 8] [(7, vI (s.length : Int)), (8, vI 0)] [] [] (an (lenM rStmt s) trivial) ?_
 refine vwp_block ?_
 refine vwp_lm (γ := Unit) h (fun (x_ : Int) (g_ : Unit) => mkS [(0, vM rStmt s), (1, V.fn fF [V.tp fC0]), (7, vI (s.length : Int)), (8, vI x_)] [] []) () (lS) ?_
 rintro again2 x1 ⟨⟩ h
 refine rq hC [] [9] [(9, vB (decide (x1 < (s.length : Int))))] [] [] trivial ?_
 refine vwp_seq ?_
 refine vci (b := decide (x1 < (s.length : Int))) h (fun c1 h => ?_) (fun c1 h => ?_)
 ·refine vwp_skip ?_
  refine vwp_seq ?_
  refine vwp_block ?_
  refine rq hC [] [5, 10] [(5, vI x1)] [] [] trivial ?_
  obtain ⟨x3, hx3, h⟩ := bd h
  obtain ⟨x4, hx4, h⟩ := bd h
  refine rq hC [.row (rStmt x3), .v (vB x4)] [11, 12, 13, 14, 15, 16] [(16, vB x4)] [] [] (an (ix_map rStmt hx3) (an (hf x3 _ hx4) trivial)) ?_
  refine vci (b := x4) h (fun c2 h => ?_) (fun c2 h => ?_)
  ·refine rq hC [] [4, 17] [(4, vI x1)] [] [] trivial ?_
   refine vwp_ret ?_
   obtain rfl := so h
   exact eR
  ·refine vwp_skip ?_
   refine rk hC [] [8, 18] [(8, vI (wr (x1 + 1)))] [] [] trivial ?_
   exact ⟨wr (x1 + 1), (), h, lS⟩
 ·refine vwp_exit ?_
  refine rq hC [] [4] [(4, vI (-1))] [] [] trivial ?_
  refine vwp_ret ?_
  obtain rfl := so h
  exact eR
theorem c_l_ContainsFunc_Stmt_k1 (G : GS) (n : Nat) (s : List Stmt) (fF : FuncId) (fC0 : List T) (f : Stmt → Option Bool) (hf : ∀ (q0 : Stmt) r, f q0 = some r → PCC Tryz.prog G.g fF [V.agg [vS q0.write.array, vM rAffine q0.write.subs, vI q0.value.kind, vI q0.value.num, vM rI q0.value.index.coefs, vI q0.value.index.const, vS q0.value.read.array, vM rAffine q0.value.read.subs, vM rExpr q0.value.kids], V.tp fC0] (vB r)) {r : Bool} (h : l_ContainsFunc_Stmt n s f = some r) : PCC Tryz.prog G.g 128 [vM rStmt s, V.fn fF [V.tp fC0]] (vB r) := by
 unfold l_ContainsFunc_Stmt at h
 refine pmr tyOK Tryz.func128 rfl rfl rfl rfl rfl rfl rfl ?_
 intro w X hC
 refine rq hC [] [4] [] [] [] trivial ?_
 obtain ⟨x1, hx1, h⟩ := bd h
 refine rq hC [.v (vI x1)] [4, 5, 6, 7, 8] [(4, vB (decide ((0 : Int) ≤ x1)))] [] [] (an (c_l_IndexFunc_Stmt_k1 G n s fF fC0 f hf hx1) trivial) ?_
 refine vwp_ret ?_
 obtain rfl := so h
 exact eR
theorem c_i_Program_instances (G : GS) (n : Nat) (p : Prog) {r : (List Inst) × Bool} (h : i_Program_instances n p = some r) : VCC Tryz.prog G.g 80 [] [V.agg [vM rArr p.arrays, vM rPart p.parts]] (V.tup [ms 0 1 3 rInst r.1, vB r.2]) [ar 53 1 3 rInst r.1] := by
 unfold i_Program_instances at h
 refine vmr tyOK Tryz.func80 rfl rfl rfl rfl rfl rfl rfl rfl ?_
 intro w X β0 hC hg
 refine rq hC [.b true] [1, 2, 3] [(1, V.tp [T.sl (List.map rArr p.arrays), T.sl (List.map rPart p.parts)])] [] [] trivial ?_
 refine vwp_seq ?_
 obtain ⟨j1, hj1, h⟩ := jn_e h
 refine vwp_jm (γ := Unit) (j := j1) (r := r) (fun (x_ : Bool) (g_ : Unit) => mkS [(1, V.tp [T.sl (List.map rArr p.arrays), T.sl (List.map rPart p.parts)]), (22, vB x_)] [] []) ?_ ?_
 ·
  obtain ⟨x2, hx2, h⟩ := bd h
  refine splI h (fun c1 h => ?_) (fun c1 h => ?_)
  ·refine rk hC [.v (vB x2), .b false, .b false, .b false, .nat p.parts.length, .b false, .b false] [13, 14, 15, 16, 17, 18, 19, 20, 21, 22] [(22, vB (decide ((4 : Int) < (p.parts.length : Int))))] [] [] (an (c_i_arraysOk G n p.arrays hx2) (an c1 (an c1 (an c1 (an (lenM rPart p.parts) (an c1 (an c1 trivial))))))) ?_
   exact ⟨decide ((4 : Int) < (p.parts.length : Int)), (), h, lS⟩
  ·refine rk hC [.v (vB x2), .b true, .b true, .b true, .b true, .b true] [13, 14, 15, 16, 17, 18, 19, 20, 21, 22] [(22, vB true)] [] [] (an (c_i_arraysOk G n p.arrays hx2) (an c1 (an c1 (an c1 (an c1 (an c1 trivial)))))) ?_
   exact ⟨true, (), h, lS⟩
 ·rintro x3 ⟨⟩ h
  subst hj1
  refine vci (b := x3) h (fun c2 h => ?_) (fun c2 h => ?_)
  ·refine rq hC [] [2, 3] [(2, V.t T.nilS), (3, vB false)] [] [] trivial ?_
   refine vwp_weaken (lk hC [.grow 2 0 53] [2] [(2, ms 0 1 3 rInst [])] [(0, some (ar 53 1 3 rInst []))] [(0, true)]) ?_
   refine vwp_ret ?_
   obtain rfl := so h
   exact eW
  ·refine vwp_skip ?_
   refine rq hC [] [4] [(4, V.t T.nilS)] [] [] trivial ?_
   refine vwp_seq ?_
   refine rq hC [.nat p.parts.length] [23, 24, 25, 26] [(24, vM rPart p.parts), (25, vI (p.parts.length : Int)), (26, vI 0)] [] [] (an (lenM rPart p.parts) trivial) ?_
   refine vwp_block ?_
   refine vwp_weaken (lk hC [.grow 4 20 53] [4] [(4, ms 20 1 3 rInst [])] [(20, some (ar 53 1 3 rInst []))] [(20, true)]) ?_
   refine vwp_lm (γ := Nat) h (fun (x_ : (List Inst) × Int) (g_ : Nat) => mkS [(1, V.tp [T.sl (List.map rArr p.arrays), T.sl (List.map rPart p.parts)]), (4, ms 20 g_ 3 rInst x_.1), (24, vM rPart p.parts), (25, vI (p.parts.length : Int)), (26, vI x_.2)] [(20, ar 53 g_ 3 rInst x_.1)] [20]) 1 (lS) ?_
   rintro again7 ⟨x4, x5⟩ g6 h
   refine rq hC [] [27] [(27, vB (decide (x5 < (p.parts.length : Int))))] [] [] trivial ?_
   refine vwp_seq ?_
   refine vci (b := decide (x5 < (p.parts.length : Int))) h (fun c3 h => ?_) (fun c3 h => ?_)
   ·refine vwp_skip ?_
    refine vwp_seq ?_
    refine vwp_block ?_
    obtain ⟨x8, hx8, h⟩ := bd h
    refine rq hC [.row (rPart x8), .nat 21, .at 0, .fp 21 [6]] [5, 6, 28, 29, 30] [(5, vI x5), (6, V.tp [T.sl (List.map rLoop x8.nest), T.sl (List.map rStmt x8.body)])] [(21, none)] [(21, true)] (an (ix_map rPart hx8) trivial) ?_
    obtain ⟨x9, hx9, h⟩ := bd h
    refine rq hC [.vc [] [22] (V.tup [ms 0 1 1 (rL rI) x9.1, vB x9.2]) [ar 40 1 1 (rL rI) x9.1]] [7, 8, 31, 32, 33, 34, 35, 36] [(7, ms 22 1 1 (rL rI) x9.1), (8, vB x9.2)] [(22, some (ar 40 1 1 (rL rI) x9.1))] [(22, true)] (an (c_i_NestPoints G n x8.nest hx9) trivial) ?_
    refine vwp_seq ?_
    obtain ⟨j10, hj10, h⟩ := jn_e h
    refine vwp_jm (γ := Unit) (j := j10) (r := r) (fun (x_ : Bool) (g_ : Unit) => mkS [(1, V.tp [T.sl (List.map rArr p.arrays), T.sl (List.map rPart p.parts)]), (4, ms 20 g6 3 rInst x4), (5, vI x5), (6, V.tp [T.sl (List.map rLoop x8.nest), T.sl (List.map rStmt x8.body)]), (7, ms 22 1 1 (rL rI) x9.1), (24, vM rPart p.parts), (25, vI (p.parts.length : Int)), (26, vI x5), (51, vB x_)] [(20, ar 53 g6 3 rInst x4), (22, ar 40 1 1 (rL rI) x9.1)] [20, 21, 22]) ?_ ?_
    ·
     refine splI h (fun c4 h => ?_) (fun c4 h => ?_)
     ·obtain ⟨x11, hx11, h⟩ := bd h
      refine splI h (fun c5 h => ?_) (fun c5 h => ?_)
      ·obtain ⟨x12, hx12, h⟩ := bd h
       refine rk hC [.b false, .b false, .b false, .nat x8.body.length, .b false, .v (vB x11), .b false, .b false, .b false, .b false, .b false, .b false, .v (vB x12), .b false] [37, 38, 39, 40, 41, 42, 43, 44, 45, 46, 47, 48, 49, 50, 51] [(51, vB x12)] [] [] (an c4 (an c4 (an c4 (an (lenM rStmt x8.body) (an c4 (an (c_i_within G n (x8.body.length : Int) 1 4 hx11) (an c4 (an c4 (an c5 (an c5 (an c5 (an c5 (an (c_l_ContainsFunc_Stmt_k1 G n x8.body 129 [T.sl (List.map rLoop x8.nest), T.sl (List.map rStmt x8.body)] (fun q0 => i_Program_instances_1 n q0 x8) (fun q0 r h => c_i_Program_instances_1 G n q0 x8 h) hx12) (an c5 trivial)))))))))))))) ?_
       exact ⟨x12, (), h, lS⟩
      ·refine rk hC [.b false, .b false, .b false, .nat x8.body.length, .b false, .v (vB x11), .b false, .b false, .b true, .b true, .b true, .b true, .b true] [37, 38, 39, 40, 41, 42, 43, 44, 45, 46, 47, 48, 49, 50, 51] [(51, vB true)] [] [] (an c4 (an c4 (an c4 (an (lenM rStmt x8.body) (an c4 (an (c_i_within G n (x8.body.length : Int) 1 4 hx11) (an c4 (an c4 (an c5 (an c5 (an c5 (an c5 (an c5 trivial))))))))))))) ?_
       exact ⟨true, (), h, lS⟩
     ·refine rk hC [.b true, .b true, .b true, .b true, .b true, .b true, .b true, .b true, .b true, .b true, .b true] [37, 38, 39, 40, 41, 42, 43, 44, 45, 46, 47, 48, 49, 50, 51] [(51, vB true)] [] [] (an c4 (an c4 (an c4 (an c4 (an c4 (an c4 (an (Eq.refl true) (an (Eq.refl true) (an (Eq.refl true) (an (Eq.refl true) (an (Eq.refl true) trivial))))))))))) ?_
      exact ⟨true, (), h, lS⟩
    ·rintro x13 ⟨⟩ h
     subst hj10
     refine vci (b := x13) h (fun c6 h => ?_) (fun c6 h => ?_)
     ·refine rq hC [] [2, 3] [(2, V.t T.nilS), (3, vB false)] [] [] trivial ?_
      refine vwp_weaken (lk hC [.grow 2 0 53] [2] [(2, ms 0 1 3 rInst [])] [(0, some (ar 53 1 3 rInst []))] [(0, true)]) ?_
      refine vwp_ret ?_
      obtain rfl := so h
      exact eW
     ·refine vwp_skip ?_
      refine rq hC [.nat x9.1.length] [52, 53, 54] [(52, ms 22 1 1 (rL rI) x9.1), (53, vI (x9.1.length : Int)), (54, vI 0)] [] [] (an (lenM (rL rI) x9.1) trivial) ?_
      refine vwp_block ?_
      refine vwp_lm (γ := Nat) h (fun (x_ : (List Inst) × Int) (g_ : Nat) => mkS [(1, V.tp [T.sl (List.map rArr p.arrays), T.sl (List.map rPart p.parts)]), (4, ms 20 g_ 3 rInst x_.1), (5, vI x5), (6, V.tp [T.sl (List.map rLoop x8.nest), T.sl (List.map rStmt x8.body)]), (24, vM rPart p.parts), (25, vI (p.parts.length : Int)), (26, vI x5), (52, ms 22 1 1 (rL rI) x9.1), (53, vI (x9.1.length : Int)), (54, vI x_.2)] [(20, ar 53 g_ 3 rInst x_.1), (22, ar 40 1 1 (rL rI) x9.1)] [20, 21, 22]) g6 (lS) ?_
      rintro again17 ⟨x14, x15⟩ g16 h
      refine rq hC [] [55] [(55, vB (decide (x15 < (x9.1.length : Int))))] [] [] trivial ?_
      refine vwp_seq ?_
      refine vci (b := decide (x15 < (x9.1.length : Int))) h (fun c7 h => ?_) (fun c7 h => ?_)
      ·refine vwp_skip ?_
       refine vwp_seq ?_
       refine vwp_block ?_
       obtain ⟨x18, hx18, h⟩ := bd h
       refine rq hC [.row ((rL rI) x18)] [10, 56, 57] [(10, vM rI x18)] [] [] (an (ixn (rL rI) hx18) (an (ixr (rL rI) hx18) trivial)) ?_
       refine vwp_seq ?_
       obtain ⟨x19, hx19, h⟩ := bd h
       refine rq hC [.v (vB x19)] [58, 59, 60] [(60, vB (!x19))] [] [] (an (c_i_isPoint G n x18 hx19) trivial) ?_
       refine vci (b := !x19) h (fun c8 h => ?_) (fun c8 h => ?_)
       ·refine rq hC [] [2, 3] [(2, V.t T.nilS), (3, vB false)] [] [] trivial ?_
        refine vwp_weaken (lk hC [.grow 2 0 53] [2] [(2, ms 0 1 3 rInst [])] [(0, some (ar 53 1 3 rInst []))] [(0, true)]) ?_
        refine vwp_ret ?_
        obtain rfl := so h
        exact eW
       ·refine vwp_skip ?_
        refine rq hC [.nat x8.body.length] [61, 62, 63, 64] [(62, vM rStmt x8.body), (63, vI (x8.body.length : Int)), (64, vI 0)] [] [] (an (lenM rStmt x8.body) trivial) ?_
        refine vwp_block ?_
        refine vwp_lm (γ := Nat) h (fun (x_ : (List Inst) × Int) (g_ : Nat) => mkS [(1, V.tp [T.sl (List.map rArr p.arrays), T.sl (List.map rPart p.parts)]), (4, ms 20 g_ 3 rInst x_.1), (5, vI x5), (6, V.tp [T.sl (List.map rLoop x8.nest), T.sl (List.map rStmt x8.body)]), (10, vM rI x18), (24, vM rPart p.parts), (25, vI (p.parts.length : Int)), (26, vI x5), (52, ms 22 1 1 (rL rI) x9.1), (53, vI (x9.1.length : Int)), (54, vI x15), (62, vM rStmt x8.body), (63, vI (x8.body.length : Int)), (64, vI x_.2)] [(20, ar 53 g_ 3 rInst x_.1), (22, ar 40 1 1 (rL rI) x9.1)] [20, 21, 22]) g16 (lS) ?_
        rintro again23 ⟨x20, x21⟩ g22 h
        refine rq hC [] [65] [(65, vB (decide (x21 < (x8.body.length : Int))))] [] [] trivial ?_
        refine vwp_seq ?_
        refine vci (b := decide (x21 < (x8.body.length : Int))) h (fun c9 h => ?_) (fun c9 h => ?_)
        ·refine vwp_skip ?_
         refine vwp_seq ?_
         refine vwp_block ?_
         obtain ⟨x24, hx24, h⟩ := bd h
         refine rq hC [.row (rStmt x24), .nat 23] [11, 12, 66, 67, 68] [(11, vI x21), (12, V.ref 23 0)] [(23, some (E.cells [vS x24.write.array, vM rAffine x24.write.subs, vI x24.value.kind, vI x24.value.num, vM rI x24.value.index.coefs, vI x24.value.index.const, vS x24.value.read.array, vM rAffine x24.value.read.subs, vM rExpr x24.value.kids]))] [(23, true)] (an (ix_map rStmt hx24) trivial) ?_
         refine vwp_seq ?_
         obtain ⟨x25, hx25, h⟩ := bd h
         refine rq hC [.v (vB x25)] [69, 70, 71, 72, 73] [(73, vB (!x25))] [] [] (an (c_i_Program_stmtOk G n p x24 x18 hx25) trivial) ?_
         refine vci (b := !x25) h (fun c10 h => ?_) (fun c10 h => ?_)
         ·refine rq hC [] [2, 3] [(2, V.t T.nilS), (3, vB false)] [] [] trivial ?_
          refine vwp_weaken (lk hC [.grow 2 0 53] [2] [(2, ms 0 1 3 rInst [])] [(0, some (ar 53 1 3 rInst []))] [(0, true)]) ?_
          refine vwp_ret ?_
          obtain rfl := so h
          exact eW
         ·refine vwp_skip ?_
          obtain ⟨x26, hx26, h⟩ := bd h
          obtain ⟨x27, hx27, h⟩ := bd h
          refine rk hC [.vc [] [24] (ms 0 1 1 rI x26) [ar 3 1 1 rI x26], .at 4, .fz 24 [78] [], .int 0, .rows (List.map rInst x27)] [4, 74, 75, 76, 77, 78, 79, 80, 81] [(4, ms 20 (g22 + 1) 3 rInst x27)] [(24, none), (20, some (ar 53 (g22 + 1) 3 rInst x27))] [(24, true)] (an (G.clone x18 hx26) (an (app_map rInst hx27) (an (rwM (r := rInst) 3 rInst_len x20) (an (rwM (r := rInst) 3 rInst_len [(⟨x5, x21, x26⟩ : Inst)]) trivial)))) ?_
          refine rk hC [] [64, 82] [(64, vI (wr (x21 + 1)))] [] [] trivial ?_
          exact ⟨(x27, wr (x21 + 1)), (g22 + 1), h, lS⟩
        ·refine vwp_exit ?_
         refine rk hC [] [54, 83] [(54, vI (wr (x15 + 1)))] [] [] trivial ?_
         exact ⟨(x20, wr (x15 + 1)), g22, h, lS⟩
      ·refine vwp_exit ?_
       refine rk hC [] [26, 84] [(26, vI (wr (x5 + 1)))] [] [] trivial ?_
       exact ⟨(x14, wr (x5 + 1)), g16, h, lS⟩
   ·refine vwp_exit ?_
    refine rq hC [.nat x4.length] [2, 3, 85, 86, 87, 88] [(2, ms 20 g6 3 rInst x4), (3, vB (decide ((x4.length : Int) ≤ 120)))] [] [] (an (lenM rInst x4) trivial) ?_
    refine vwp_weaken (lk hC [.ren 2 20 0] [2] [(2, ms 0 1 3 rInst x4)] [(0, some (ar 53 1 3 rInst x4)), (20, none)] [(0, true)]) ?_
    refine vwp_ret ?_
    obtain rfl := so h
    exact eW
theorem c_i_ProgramValid (G : GS) (n : Nat) (p : Prog) {r : Bool} (h : i_ProgramValid n p = some r) : PCC Tryz.prog G.g 61 [V.agg [vM rArr p.arrays, vM rPart p.parts]] (vB r) := by
 unfold i_ProgramValid at h
 refine pmr tyOK Tryz.func61 rfl rfl rfl rfl rfl rfl rfl ?_
 intro w X hC
 refine rq hC [.b true] [1, 2] [(1, V.tp [T.sl (List.map rArr p.arrays), T.sl (List.map rPart p.parts)])] [] [] trivial ?_
 obtain ⟨x1, hx1, h⟩ := bd h
 refine rq hC [.vc [] [20] (V.tup [ms 0 1 3 rInst x1.1, vB x1.2]) [ar 53 1 3 rInst x1.1]] [3, 4, 5, 6, 7, 8, 9] [(4, vB x1.2)] [(20, some (ar 53 1 3 rInst x1.1))] [(20, true)] (an (c_i_Program_instances G n p hx1) trivial) ?_
 refine rq hC [] [2, 10] [(2, vB x1.2)] [] [] trivial ?_
 refine vwp_ret ?_
 obtain rfl := so h
 exact eR
theorem c_i_Program_stmt (G : GS) (n : Nat) (p : Prog) (x : Inst) {r : Stmt} (h : i_Program_stmt n p x = some r) : PCC Tryz.prog G.g 92 [V.agg [vM rArr p.arrays, vM rPart p.parts], V.agg [vI x.part, vI x.stmt, vM rI x.point]] (V.agg [vS r.write.array, vM rAffine r.write.subs, vI r.value.kind, vI r.value.num, vM rI r.value.index.coefs, vI r.value.index.const, vS r.value.read.array, vM rAffine r.value.read.subs, vM rExpr r.value.kids]) := by
 unfold i_Program_stmt at h
 refine pmr tyOK Tryz.func92 rfl rfl rfl rfl rfl rfl rfl ?_
 intro w X hC
 refine rq hC [.b true, .b true, .nat 20] [2, 3, 4] [(2, V.tp [T.sl (List.map rArr p.arrays), T.sl (List.map rPart p.parts)]), (3, V.tp [T.int .i64 x.part, T.int .i64 x.stmt, T.sl (List.map rI x.point)]), (4, V.ref 20 0)] [(20, some (E.cells [vS [], V.t T.nilS, vI 0, vI 0, V.t T.nilS, vI 0, vS [], V.t T.nilS, V.t T.nilS]))] [(20, true)] trivial ?_
 refine vwp_seq ?_
 obtain ⟨x1, hx1, h⟩ := bd h
 obtain ⟨x2, hx2, h⟩ := bd h
 refine dk hC hmix [.row (rPart x1), .row (rStmt x2)] [5, 6, 7, 8, 9, 10, 11, 12, 13, 14, 15] [] [(20, some (E.cells [vS x2.write.array, vM rAffine x2.write.subs, vI x2.value.kind, vI x2.value.num, vM rI x2.value.index.coefs, vI x2.value.index.const, vS x2.value.read.array, vM rAffine x2.value.read.subs, vM rExpr x2.value.kids]))] [] (an (ix_map rPart hx1) (an (ix_map rStmt hx2) trivial)) ?_
 refine vwp_ret ?_
 obtain rfl := so h
 exact eR
end Go.Lift
