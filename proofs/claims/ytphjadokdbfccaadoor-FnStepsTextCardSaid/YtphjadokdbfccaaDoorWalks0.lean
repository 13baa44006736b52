/- The walks: the code computes what the plain functions say. -/
import Derived.Test.YtphjadokdbfccaaDoorModels
import Derived.Test.YtphjadokdbfccaaDoorTab
set_option maxRecDepth 10000
set_option linter.unusedVariables false
namespace Go.Lift
open Go Go.Proofs
theorem c_s_l16Open (G : GS) (n : Nat) (code : List UInt8) {r : L16Rd} (h : s_l16Open n code = some r) : VCC Tryd.prog G.g 11 [] [vM rY code] (V.ref 0 0) [E.cells [vM rY r.b, vI r.p]] := by
  unfold s_l16Open at h
  refine vmr tyOK Tryd.func11 rfl rfl rfl rfl rfl rfl rfl rfl ?_
  intro w X β0 hC hg
  refine vwp_seq ?_
  refine rg hC [] [2] [] [] [] trivial (by kernel_rfl) ?_
  obtain ⟨j1, hj1, h⟩ := jn_e h
  refine vwp_jm (γ := Unit) (j := j1) (r := r) (fun (x_ : (List UInt8)) (g_ : Unit) => mkS [(0, vM rY x_)] [] []) ?_ ?_
  ·
    refine vwp_seq ?_
    refine rg hC [.nat code.length] [3, 4, 5] [(5, vB (decide ((2000 : Int) < (code.length : Int))))] [] [] (an (lenM rY code) trivial) (by kernel_rfl) ?_
    refine vwp_cond (b := decide ((2000 : Int) < (code.length : Int))) (by kernel_rfl) (fun c1 => ?_) (fun c1 => ?_)
    · have h := bt c1 h
      obtain ⟨x2, hx2, h⟩ := bd h
      refine rg hC [.rows (List.map rY x2)] [0, 6, 7] [(0, vM rY x2)] [] [] (an (sub_map rY hx2) (an (rwM (r := rY) 1 (fun _ => rfl) code) trivial)) (by kernel_rfl) ?_
      exact ⟨x2, (), h, leS (by kernel_rfl)⟩
    · have h := bf c1 h
      refine vwp_skip ?_
      exact ⟨code, (), h, leS (by kernel_rfl)⟩
  · rintro x3 ⟨⟩ h
    subst hj1
    refine vwp_seq ?_
    refine rg hC [.nat 0] [2, 8, 9, 10] [(2, V.ref 0 0)] [(0, some (E.cells [vM rY x3, vI 0]))] [(0, true)] trivial (by kernel_rfl) ?_
    refine vwp_ret ?_
    obtain rfl := so h
    exact endW (by kernel_rfl)

theorem c_s_l16Rd_pick (G : GS) (n : Nat) (r_a0 : L16Rd) (n_a1 : Int) {r : Int × L16Rd} (h : s_l16Rd_pick n r_a0 n_a1 = some r) : VCC Tryd.prog G.g 26 [E.cells [vM rY r_a0.b, vI r_a0.p]] [V.ref 0 0, vI n_a1] (vI r.1) [E.cells [vM rY r.2.b, vI r.2.p]] := by
  unfold s_l16Rd_pick at h
  refine vmr tyOK Tryd.func26 rfl rfl rfl rfl rfl rfl rfl rfl ?_
  intro w X β0 hC hg
  refine vwp_seq ?_
  refine rg hC [] [4] [] [] [] trivial (by kernel_rfl) ?_
  refine vwp_seq ?_
  refine rg hC [] [7, 8, 9, 10, 11, 12, 13, 14] [] [(0, some (E.cells [vM rY r_a0.b, vI (wr (r_a0.p + 1))]))] [] trivial (by kernel_rfl) ?_
  refine vwp_seq ?_
  obtain ⟨j1, hj1, h⟩ := jn_e h
  refine vwp_jm (γ := Unit) (j := j1) (r := r) (fun (x_ : Bool) (g_ : Unit) => mkS [(0, V.ref 0 0), (1, vI n_a1), (24, vB x_)] [(0, E.cells [vM rY r_a0.b, vI (wr (r_a0.p + 1))])] [0]) ?_ ?_
  ·
    refine split_b (decide (n_a1 < 1)) (fun c1 => ?_) (fun c1 => ?_)
    · have h := bf c1 h
      refine rg hC [.b false, .b false, .b false, .b false, .b false, .nat r_a0.b.length, .b false, .b false] [15, 16, 17, 18, 19, 20, 21, 22, 23, 24] [(24, vB (decide ((r_a0.b.length : Int) = 0)))] [] [] (an c1 (an c1 (an c1 (an c1 (an c1 (an (lenM rY r_a0.b) (an c1 (an c1 trivial)))))))) (by kernel_rfl) ?_
      exact ⟨decide ((r_a0.b.length : Int) = 0), (), h, leS (by kernel_rfl)⟩
    · have h := bt c1 h
      refine rg hC [.b true, .b true, .b true, .b true, .b true, .b true, .b true] [15, 16, 17, 18, 19, 20, 21, 22, 23, 24] [(24, vB true)] [] [] (an c1 (an c1 (an c1 (an c1 (an c1 (an c1 (an c1 trivial))))))) (by kernel_rfl) ?_
      exact ⟨true, (), h, leS (by kernel_rfl)⟩
  · rintro x2 ⟨⟩ h
    subst hj1
    refine vwp_cond (b := x2) (by kernel_rfl) (fun c2 => ?_) (fun c2 => ?_)
    · have h := bt c2 h
      refine vwp_seq ?_
      refine rg hC [] [4] [(4, vI 0)] [] [] trivial (by kernel_rfl) ?_
      refine vwp_ret ?_
      obtain rfl := so h
      exact endW (by kernel_rfl)
    · have h := bf c2 h
      refine vwp_skip ?_
      refine vwp_seq ?_
      refine rg hC [] [5, 25, 26, 27, 28, 29] [(5, vI (wr ((wr (r_a0.p + 1)) - 1)))] [] [] trivial (by kernel_rfl) ?_
      refine vwp_seq ?_
      refine vwp_seq ?_
      refine rg hC [.nat r_a0.b.length] [30, 31, 32, 33, 34, 35, 36] [(36, vB (decide (wr ((wr (r_a0.p + 1)) - 1) < (r_a0.b.length : Int))))] [] [] (an (lenM rY r_a0.b) trivial) (by kernel_rfl) ?_
      refine vwp_cond (b := decide (wr ((wr (r_a0.p + 1)) - 1) < (r_a0.b.length : Int))) (by kernel_rfl) (fun c3 => ?_) (fun c3 => ?_)
      · have h := bt c3 h
        refine vwp_seq ?_
        obtain ⟨x3, hx3, h⟩ := bd h
        obtain ⟨x4, hx4, h⟩ := bd h
        refine rg hC [.row (rY x3), .int (x3.toNat : Int)] [4, 37, 38, 39, 40, 41, 42, 43, 44, 45, 46] [(4, vI (Int.tmod (x3.toNat : Int) n_a1))] [] [] (an (ix_map rY hx3) (an (u8i x3) (an (nzc_ne hx4) trivial))) (by kernel_rfl) ?_
        refine vwp_ret ?_
        obtain rfl := so h
        exact endW (by kernel_rfl)
      · have h := bf c3 h
        refine vwp_skip ?_
        refine vwp_seq ?_
        obtain ⟨x5, hx5, h⟩ := bd h
        obtain ⟨x6, hx6, h⟩ := bd h
        obtain ⟨x7, hx7, h⟩ := bd h
        obtain ⟨x8, hx8, h⟩ := bd h
        obtain ⟨x9, hx9, h⟩ := bd h
        refine rd hC hmix [.nat r_a0.b.length, .row (rY x6), .int (x6.toNat : Int), .nat r_a0.b.length, .row (rY x8), .int (x8.toNat : Int), .nat r_a0.b.length] [6, 47, 48, 49, 50, 51, 52, 53, 54, 55, 56, 57, 58, 59, 60, 61, 62, 63, 64, 65, 66, 67, 68, 69, 70, 71, 72, 73, 74, 75, 76, 77, 78, 79, 80, 81, 82, 83, 84, 85, 86, 87, 88, 89, 90, 91] [(6, vI (wr ((wr ((wr ((wr ((x6.toNat : Int) * 131)) + (wr ((x8.toNat : Int) * 1117)))) + (wr ((wr ((wr (r_a0.p + 1)) - 1)) * 29)))) + (wr ((wr (Int.tdiv (wr ((wr (r_a0.p + 1)) - 1)) (r_a0.b.length : Int))) * 53)))))] [] [] (an (lenM rY r_a0.b) (an (nzc_ne hx5) (an (ix_map rY hx6) (an (u8i x6) (an (lenM rY r_a0.b) (an (nzc_ne hx7) (an (ix_map rY hx8) (an (u8i x8) (an (lenM rY r_a0.b) (an (nzc_ne hx9) trivial)))))))))) (by kernel_rfl) ?_
        refine vwp_seq ?_
        refine rg hC [] [6, 92, 93, 94, 95] [(6, vI (bits BinOp.xor IntKind.i64 (wr ((wr ((wr ((wr ((x6.toNat : Int) * 131)) + (wr ((x8.toNat : Int) * 1117)))) + (wr ((wr ((wr (r_a0.p + 1)) - 1)) * 29)))) + (wr ((wr (Int.tdiv (wr ((wr (r_a0.p + 1)) - 1)) (r_a0.b.length : Int))) * 53)))) (wr (Int.tdiv (wr ((wr ((wr ((wr ((x6.toNat : Int) * 131)) + (wr ((x8.toNat : Int) * 1117)))) + (wr ((wr ((wr (r_a0.p + 1)) - 1)) * 29)))) + (wr ((wr (Int.tdiv (wr ((wr (r_a0.p + 1)) - 1)) (r_a0.b.length : Int))) * 53)))) 64))))] [] [] (an (show (64 : Int) ≠ 0 by decide) trivial) (by kernel_rfl) ?_
        refine vwp_seq ?_
        obtain ⟨x10, hx10, h⟩ := bd h
        refine rg hC [] [4, 96, 97, 98] [(4, vI (Int.tmod (bits BinOp.xor IntKind.i64 (wr ((wr ((wr ((wr ((x6.toNat : Int) * 131)) + (wr ((x8.toNat : Int) * 1117)))) + (wr ((wr ((wr (r_a0.p + 1)) - 1)) * 29)))) + (wr ((wr (Int.tdiv (wr ((wr (r_a0.p + 1)) - 1)) (r_a0.b.length : Int))) * 53)))) (wr (Int.tdiv (wr ((wr ((wr ((wr ((x6.toNat : Int) * 131)) + (wr ((x8.toNat : Int) * 1117)))) + (wr ((wr ((wr (r_a0.p + 1)) - 1)) * 29)))) + (wr ((wr (Int.tdiv (wr ((wr (r_a0.p + 1)) - 1)) (r_a0.b.length : Int))) * 53)))) 64))) n_a1))] [] [] (an (nzc_ne hx10) trivial) (by kernel_rfl) ?_
        refine vwp_ret ?_
        obtain rfl := so h
        exact endW (by kernel_rfl)

theorem c_s_l16Rd_num (G : GS) (n : Nat) (r_a0 : L16Rd) (list : List Int) {r : Int × L16Rd} (h : s_l16Rd_num n r_a0 list = some r) : VCC Tryd.prog G.g 12 [E.cells [vM rY r_a0.b, vI r_a0.p]] [V.ref 0 0, vM rI list] (vI r.1) [E.cells [vM rY r.2.b, vI r.2.p]] := by
  unfold s_l16Rd_num at h
  refine vmr tyOK Tryd.func12 rfl rfl rfl rfl rfl rfl rfl rfl ?_
  intro w X β0 hC hg
  refine vwp_seq ?_
  refine rg hC [] [4] [] [] [] trivial (by kernel_rfl) ?_
  refine vwp_seq ?_
  obtain ⟨x1, hx1, h⟩ := bd h
  obtain ⟨x2, hx2, h⟩ := bd h
  refine rg hC [.nat list.length, .vc [0] [] (vI x1.1) [E.cells [vM rY x1.2.b, vI x1.2.p]], .row (rI x2)] [4, 5, 6, 7, 8, 9, 10, 11] [(4, vI x2)] [(0, some (E.cells [vM rY x1.2.b, vI x1.2.p]))] [(0, true)] (an (lenM rI list) (an (c_s_l16Rd_pick G n r_a0 (list.length : Int) hx1) (an (ix_map rI hx2) trivial))) (by kernel_rfl) ?_
  refine vwp_ret ?_
  obtain rfl := so h
  exact endW (by kernel_rfl)

theorem c_s_l14Fields (G : GS) (n : Nat) (kind : Int) {r : Int} (h : s_l14Fields n kind = some r) : PCC Tryd.prog G.g 21 [vI kind] (vI r) := by
  unfold s_l14Fields at h
  refine pmr tyOK Tryd.func21 rfl rfl rfl rfl rfl rfl rfl ?_
  intro w X hC
  refine vwp_seq ?_
  refine rg hC [] [2] [] [] [] trivial (by kernel_rfl) ?_
  refine vwp_seq ?_
  refine vwp_seq ?_
  refine rg hC [] [3] [(3, vI kind)] [] [] trivial (by kernel_rfl) ?_
  refine vwp_block ?_
  obtain ⟨j1, hj1, h⟩ := jn_e h
  refine vwp_jm (γ := Unit) (j := j1) (r := r) (fun (x_ : Bool) (g_ : Unit) => mkS [(3, vI kind), (4, vB x_)] [] []) ?_ ?_
  ·
    refine vwp_seq ?_
    refine rg hC [] [4, 5] [(4, vB (decide (kind = 3)))] [] [] trivial (by kernel_rfl) ?_
    refine vwp_cond (b := decide (kind = 3)) (by kernel_rfl) (fun c1 => ?_) (fun c1 => ?_)
    · have h := bt c1 h
      refine vwp_skip ?_
      exact ⟨decide (kind = 3), (), h, leS (by kernel_rfl)⟩
    · have h := bf c1 h
      refine vwp_seq ?_
      refine rg hC [] [4, 6] [(4, vB (decide (kind = 4)))] [] [] trivial (by kernel_rfl) ?_
      refine vwp_cond (b := decide (kind = 4)) (by kernel_rfl) (fun c2 => ?_) (fun c2 => ?_)
      · have h := bt c2 h
        refine vwp_skip ?_
        exact ⟨decide (kind = 4), (), h, leS (by kernel_rfl)⟩
      · have h := bf c2 h
        refine rg hC [] [4, 7] [(4, vB (decide (kind = 5)))] [] [] trivial (by kernel_rfl) ?_
        exact ⟨decide (kind = 5), (), h, leS (by kernel_rfl)⟩
  · rintro x2 ⟨⟩ h
    subst hj1
    refine vwp_cond (b := x2) (by kernel_rfl) (fun c3 => ?_) (fun c3 => ?_)
    · have h := bt c3 h
      refine vwp_seq ?_
      refine rg hC [] [2] [(2, vI 3)] [] [] trivial (by kernel_rfl) ?_
      refine vwp_ret ?_
      obtain rfl := so h
      exact endR (by kernel_rfl)
    · have h := bf c3 h
      obtain ⟨j3, hj3, h⟩ := jn_e h
      refine vwp_jm (γ := Unit) (j := j3) (r := r) (fun (x_ : Bool) (g_ : Unit) => mkS [(3, vI kind), (8, vB x_)] [] []) ?_ ?_
      ·
        refine vwp_seq ?_
        refine rg hC [] [8, 9] [(8, vB (decide (kind = 1)))] [] [] trivial (by kernel_rfl) ?_
        refine vwp_cond (b := decide (kind = 1)) (by kernel_rfl) (fun c4 => ?_) (fun c4 => ?_)
        · have h := bt c4 h
          refine vwp_skip ?_
          exact ⟨decide (kind = 1), (), h, leS (by kernel_rfl)⟩
        · have h := bf c4 h
          refine vwp_seq ?_
          refine rg hC [] [8, 10] [(8, vB (decide (kind = 2)))] [] [] trivial (by kernel_rfl) ?_
          refine vwp_cond (b := decide (kind = 2)) (by kernel_rfl) (fun c5 => ?_) (fun c5 => ?_)
          · have h := bt c5 h
            refine vwp_skip ?_
            exact ⟨decide (kind = 2), (), h, leS (by kernel_rfl)⟩
          · have h := bf c5 h
            refine vwp_seq ?_
            refine rg hC [] [8, 11] [(8, vB (decide (kind = 7)))] [] [] trivial (by kernel_rfl) ?_
            refine vwp_cond (b := decide (kind = 7)) (by kernel_rfl) (fun c6 => ?_) (fun c6 => ?_)
            · have h := bt c6 h
              refine vwp_skip ?_
              exact ⟨decide (kind = 7), (), h, leS (by kernel_rfl)⟩
            · have h := bf c6 h
              refine rg hC [] [8, 12] [(8, vB (decide (kind = 8)))] [] [] trivial (by kernel_rfl) ?_
              exact ⟨decide (kind = 8), (), h, leS (by kernel_rfl)⟩
      · rintro x4 ⟨⟩ h
        subst hj3
        refine vwp_cond (b := x4) (by kernel_rfl) (fun c7 => ?_) (fun c7 => ?_)
        · have h := bt c7 h
          refine vwp_seq ?_
          refine rg hC [] [2] [(2, vI 2)] [] [] trivial (by kernel_rfl) ?_
          refine vwp_ret ?_
          obtain rfl := so h
          exact endR (by kernel_rfl)
        · have h := bf c7 h
          obtain ⟨j5, hj5, h⟩ := jn_e h
          refine vwp_jm (γ := Unit) (j := j5) (r := r) (fun (x_ : Bool) (g_ : Unit) => mkS [(13, vB x_)] [] []) ?_ ?_
          ·
            refine vwp_seq ?_
            refine rg hC [] [13, 14] [(13, vB (decide (kind = 6)))] [] [] trivial (by kernel_rfl) ?_
            refine vwp_cond (b := decide (kind = 6)) (by kernel_rfl) (fun c8 => ?_) (fun c8 => ?_)
            · have h := bt c8 h
              refine vwp_skip ?_
              exact ⟨decide (kind = 6), (), h, leS (by kernel_rfl)⟩
            · have h := bf c8 h
              refine vwp_seq ?_
              refine rg hC [] [13, 15] [(13, vB (decide (kind = 9)))] [] [] trivial (by kernel_rfl) ?_
              refine vwp_cond (b := decide (kind = 9)) (by kernel_rfl) (fun c9 => ?_) (fun c9 => ?_)
              · have h := bt c9 h
                refine vwp_skip ?_
                exact ⟨decide (kind = 9), (), h, leS (by kernel_rfl)⟩
              · have h := bf c9 h
                refine rg hC [] [13, 16] [(13, vB (decide (kind = 10)))] [] [] trivial (by kernel_rfl) ?_
                exact ⟨decide (kind = 10), (), h, leS (by kernel_rfl)⟩
          · rintro x6 ⟨⟩ h
            subst hj5
            refine vwp_cond (b := x6) (by kernel_rfl) (fun c10 => ?_) (fun c10 => ?_)
            · have h := bt c10 h
              refine vwp_seq ?_
              refine rg hC [] [2] [(2, vI 1)] [] [] trivial (by kernel_rfl) ?_
              refine vwp_ret ?_
              obtain rfl := so h
              exact endR (by kernel_rfl)
            · have h := bf c10 h
              refine vwp_skip ?_
              refine vwp_seq ?_
              refine rg hC [] [2] [(2, vI 0)] [] [] trivial (by kernel_rfl) ?_
              refine vwp_ret ?_
              obtain rfl := so h
              exact endR (by kernel_rfl)

theorem c_s_l14Step (G : GS) (n : Nat) (r_a0 : L16Rd) {r : Step × L16Rd} (h : s_l14Step n r_a0 = some r) : VCC Tryd.prog G.g 13 [E.cells [vM rY r_a0.b, vI r_a0.p]] [V.ref 0 0] (V.agg [vI r.1.kind, vI r.1.part, vI r.1.a, vI r.1.b]) [E.cells [vM rY r.2.b, vI r.2.p]] := by
  unfold s_l14Step at h
  refine vmr tyOK Tryd.func13 rfl rfl rfl rfl rfl rfl rfl rfl ?_
  intro w X β0 hC hg
  refine vwp_seq ?_
  refine rg hC [.nat 20] [2] [(2, V.ref 20 0)] [(20, some (E.cells [vI 0, vI 0, vI 0, vI 0]))] [(20, true)] trivial (by kernel_rfl) ?_
  refine vwp_seq ?_
  obtain ⟨x1, hx1, h⟩ := bd h
  obtain ⟨x2, hx2, h⟩ := bd h
  obtain ⟨x3, hx3, h⟩ := bd h
  obtain ⟨x4, hx4, h⟩ := bd h
  refine rg hC [.vc [0] [] (vI x1.1) [E.cells [vM rY x1.2.b, vI x1.2.p]], .int 0, .vc [0] [] (vI x2.1) [E.cells [vM rY x2.2.b, vI x2.2.p]], .int 0, .vc [0] [] (vI x3.1) [E.cells [vM rY x3.2.b, vI x3.2.p]], .int 0, .vc [0] [] (vI x4.1) [E.cells [vM rY x4.2.b, vI x4.2.p]], .nat 21] [3, 5, 6, 7, 8, 9, 10, 11, 12, 13, 14, 15, 16, 17] [(3, V.ref 21 0)] [(0, some (E.cells [vM rY x4.2.b, vI x4.2.p])), (21, some (E.cells [vI (wr (1 + x1.1)), vI x2.1, vI x3.1, vI x4.1]))] [(0, true), (0, true), (0, true), (0, true), (21, true)] (an (c_s_l16Rd_pick G n r_a0 11 hx1) (an (c_s_l16Rd_num G n x1.2 [0, 0, 1, 0] hx2) (an (c_s_l16Rd_num G n x2.2 [0, 1, 0, 2] hx3) (an (c_s_l16Rd_num G n x3.2 [1, 2, (-1), 3] hx4) trivial)))) (by kernel_rfl) ?_
  refine vwp_seq ?_
  obtain ⟨x5, hx5, h⟩ := bd h
  refine rg hC [.v (vI x5)] [4, 18, 19, 20] [(4, vI x5)] [] [] (an (c_s_l14Fields G n (wr (1 + x1.1)) hx5) trivial) (by kernel_rfl) ?_
  obtain ⟨j6, hj6, h⟩ := jn_e h
  refine vwp_jm (γ := Unit) (j := j6) (r := r) (fun (x_ : Int) (g_ : Unit) => mkS [(0, V.ref 0 0), (2, V.ref 20 0), (3, V.ref 21 0), (4, vI x5)] [(0, E.cells [vM rY x4.2.b, vI x4.2.p]), (20, E.cells [vI 0, vI 0, vI 0, vI 0]), (21, E.cells [vI (wr (1 + x1.1)), vI x2.1, vI x3.1, vI x_])] [0, 20, 21]) ?_ ?_
  ·
    refine vwp_seq ?_
    refine rg hC [] [21, 22] [(22, vB (decide (x5 < 3)))] [] [] trivial (by kernel_rfl) ?_
    refine vwp_cond (b := decide (x5 < 3)) (by kernel_rfl) (fun c1 => ?_) (fun c1 => ?_)
    · have h := bt c1 h
      refine rg hC [] [23] [] [(21, some (E.cells [vI (wr (1 + x1.1)), vI x2.1, vI x3.1, vI 0]))] [] trivial (by kernel_rfl) ?_
      exact ⟨0, (), h, leS (by kernel_rfl)⟩
    · have h := bf c1 h
      refine vwp_skip ?_
      exact ⟨x4.1, (), h, leS (by kernel_rfl)⟩
  · rintro x7 ⟨⟩ h
    subst hj6
    obtain ⟨j8, hj8, h⟩ := jn_e h
    refine vwp_jm (γ := Unit) (j := j8) (r := r) (fun (x_ : Int) (g_ : Unit) => mkS [(0, V.ref 0 0), (2, V.ref 20 0), (3, V.ref 21 0), (4, vI x5)] [(0, E.cells [vM rY x4.2.b, vI x4.2.p]), (20, E.cells [vI 0, vI 0, vI 0, vI 0]), (21, E.cells [vI (wr (1 + x1.1)), vI x2.1, vI x_, vI x7])] [0, 20, 21]) ?_ ?_
    ·
      refine vwp_seq ?_
      refine rg hC [] [24, 25] [(25, vB (decide (x5 < 2)))] [] [] trivial (by kernel_rfl) ?_
      refine vwp_cond (b := decide (x5 < 2)) (by kernel_rfl) (fun c2 => ?_) (fun c2 => ?_)
      · have h := bt c2 h
        refine rg hC [] [26] [] [(21, some (E.cells [vI (wr (1 + x1.1)), vI x2.1, vI 0, vI x7]))] [] trivial (by kernel_rfl) ?_
        exact ⟨0, (), h, leS (by kernel_rfl)⟩
      · have h := bf c2 h
        refine vwp_skip ?_
        exact ⟨x3.1, (), h, leS (by kernel_rfl)⟩
    · rintro x9 ⟨⟩ h
      subst hj8
      obtain ⟨j10, hj10, h⟩ := jn_e h
      refine vwp_jm (γ := Unit) (j := j10) (r := r) (fun (x_ : Int) (g_ : Unit) => mkS [(0, V.ref 0 0), (2, V.ref 20 0), (3, V.ref 21 0)] [(0, E.cells [vM rY x4.2.b, vI x4.2.p]), (20, E.cells [vI 0, vI 0, vI 0, vI 0]), (21, E.cells [vI (wr (1 + x1.1)), vI x_, vI x9, vI x7])] [0, 20, 21]) ?_ ?_
      ·
        refine vwp_seq ?_
        refine rg hC [] [27, 28] [(28, vB (decide (x5 < 1)))] [] [] trivial (by kernel_rfl) ?_
        refine vwp_cond (b := decide (x5 < 1)) (by kernel_rfl) (fun c3 => ?_) (fun c3 => ?_)
        · have h := bt c3 h
          refine rg hC [] [29] [] [(21, some (E.cells [vI (wr (1 + x1.1)), vI 0, vI x9, vI x7]))] [] trivial (by kernel_rfl) ?_
          exact ⟨0, (), h, leS (by kernel_rfl)⟩
        · have h := bf c3 h
          refine vwp_skip ?_
          exact ⟨x2.1, (), h, leS (by kernel_rfl)⟩
      · rintro x11 ⟨⟩ h
        subst hj10
        obtain ⟨j12, hj12, h⟩ := jn_e h
        refine vwp_jm (γ := Unit) (j := j12) (r := r) (fun (x_ : (List UInt8) × Int × Int) (g_ : Unit) => mkS [(2, V.ref 20 0), (3, V.ref 21 0)] [(0, E.cells [vM rY x_.1, vI x_.2.1]), (20, E.cells [vI 0, vI 0, vI 0, vI 0]), (21, E.cells [vI (wr (1 + x1.1)), vI x11, vI x9, vI x_.2.2])] [0, 20, 21]) ?_ ?_
        ·
          refine vwp_seq ?_
          obtain ⟨x13, hx13, h⟩ := bd h
          refine rg hC [.vc [0] [] (vI x13.1) [E.cells [vM rY x13.2.b, vI x13.2.p]]] [30, 31, 32] [(32, vB (decide (x13.1 = 0)))] [(0, some (E.cells [vM rY x13.2.b, vI x13.2.p]))] [(0, true)] (an (c_s_l16Rd_pick G n x4.2 30 hx13) trivial) (by kernel_rfl) ?_
          refine vwp_cond (b := decide (x13.1 = 0)) (by kernel_rfl) (fun c4 => ?_) (fun c4 => ?_)
          · have h := bt c4 h
            obtain ⟨x14, hx14, h⟩ := bd h
            refine rg hC [.int 0, .vc [0] [] (vI x14.1) [E.cells [vM rY x14.2.b, vI x14.2.p]]] [33, 34, 35, 36] [] [(0, some (E.cells [vM rY x14.2.b, vI x14.2.p])), (21, some (E.cells [vI (wr (1 + x1.1)), vI x11, vI x9, vI x14.1]))] [(0, true)] (an (c_s_l16Rd_num G n x13.2 [1, 100, (-9223372036854775808)] hx14) trivial) (by kernel_rfl) ?_
            exact ⟨(x14.2.b, x14.2.p, x14.1), (), h, leS (by kernel_rfl)⟩
          · have h := bf c4 h
            refine vwp_skip ?_
            exact ⟨(x13.2.b, x13.2.p, x7), (), h, leS (by kernel_rfl)⟩
        · rintro ⟨x15, x16, x17⟩ ⟨⟩ h
          subst hj12
          refine vwp_seq ?_
          refine rg hC [] [37] [] [(20, some (E.cells [vI (wr (1 + x1.1)), vI x11, vI x9, vI x17]))] [] trivial (by kernel_rfl) ?_
          refine vwp_ret ?_
          obtain rfl := so h
          exact endW (by kernel_rfl)

theorem c_s_DrawFormatSteps (G : GS) (n : Nat) (code : List UInt8) {r : (List Step)} (h : s_DrawFormatSteps n code = some r) : VCC Tryd.prog G.g 4 [] [vM rY code] (ms 0 1 4 rStep r) [ar 36 1 4 rStep r] := by
  unfold s_DrawFormatSteps at h
  refine vmr tyOK Tryd.func4 rfl rfl rfl rfl rfl rfl rfl rfl ?_
  intro w X β0 hC hg
  refine vwp_seq ?_
  refine rg hC [] [2] [] [] [] trivial (by kernel_rfl) ?_
  refine vwp_seq ?_
  obtain ⟨x1, hx1, h⟩ := bd h
  refine rg hC [.vc [] [20] (V.ref 0 0) [E.cells [vM rY x1.b, vI x1.p]]] [3, 6, 7] [(3, V.ref 20 0)] [(20, some (E.cells [vM rY x1.b, vI x1.p]))] [(20, true)] (an (c_s_l16Open G n code hx1) trivial) (by kernel_rfl) ?_
  refine vwp_seq ?_
  refine rg hC [.nat 21] [4, 8] [(4, ms 21 1 4 rStep [])] [(21, some (ar 36 1 4 rStep []))] [(21, true)] trivial (by kernel_rfl) ?_
  refine vwp_seq ?_
  refine vwp_seq ?_
  obtain ⟨x2, hx2, h⟩ := bd h
  refine rg hC [.int 0, .vc [20] [] (vI x2.1) [E.cells [vM rY x2.2.b, vI x2.2.p]]] [5, 9, 10, 11] [(5, vI x2.1)] [(20, some (E.cells [vM rY x2.2.b, vI x2.2.p]))] [(20, true)] (an (c_s_l16Rd_num G n x1 [2, 3, 1, 0, 6, 13] hx2) trivial) (by kernel_rfl) ?_
  refine vwp_block ?_
  refine vwp_lm (γ := Nat) h (fun (x_ : (List UInt8) × Int × (List Step) × Int) (g_ : Nat) => mkS [(3, V.ref 20 0), (4, ms 21 g_ 4 rStep x_.2.2.1), (5, vI x_.2.2.2)] [(20, E.cells [vM rY x_.1, vI x_.2.1]), (21, ar 36 g_ 4 rStep x_.2.2.1)] [20, 21]) 1 (leS (by kernel_rfl)) ?_
  rintro again8 ⟨x3, x4, x5, x6⟩ g7 h
  refine vwp_seq ?_
  refine vwp_seq ?_
  refine rg hC [] [12, 13] [(13, vB (decide ((0 : Int) < x6)))] [] [] trivial (by kernel_rfl) ?_
  refine vwp_cond (b := decide ((0 : Int) < x6)) (by kernel_rfl) (fun c1 => ?_) (fun c1 => ?_)
  · have h := bt c1 h
    refine vwp_skip ?_
    refine vwp_seq ?_
    refine vwp_block ?_
    obtain ⟨x9, hx9, h⟩ := bd h
    obtain ⟨x10, hx10, h⟩ := bd h
    refine rg hC [.vc [20] [] (V.agg [vI x9.1.kind, vI x9.1.part, vI x9.1.a, vI x9.1.b]) [E.cells [vM rY x9.2.b, vI x9.2.p]], .int 0, .rows (List.map rStep x10)] [4, 16, 17, 18, 19, 20] [(4, ms 21 (g7 + 1) 4 rStep x10)] [(20, some (E.cells [vM rY x9.2.b, vI x9.2.p])), (21, some (ar 36 (g7 + 1) 4 rStep x10))] [(20, true)] (an (c_s_l14Step G n (⟨x3, x4⟩ : L16Rd) hx9) (an (app_map rStep hx10) (an (rwM (r := rStep) 4 rStep_len x5) (an (rwM (r := rStep) 4 rStep_len [x9.1]) trivial)))) (by kernel_rfl) ?_
    refine rg hC [] [5, 14, 15] [(5, vI (wr (x6 - 1)))] [] [] trivial (by kernel_rfl) ?_
    exact ⟨(x9.2.b, x9.2.p, x10, wr (x6 - 1)), (g7 + 1), h, leS (by kernel_rfl)⟩
  · have h := bf c1 h
    refine vwp_exit ?_
    refine vwp_seq ?_
    refine rg hC [] [2, 21] [(2, ms 21 g7 4 rStep x5)] [] [] trivial (by kernel_rfl) ?_
    refine vwp_weaken (lp hC [.ren 2 21 0] [2] [(2, ms 0 1 4 rStep x5)] [(0, some (ar 36 1 4 rStep x5)), (21, none)] [(0, true)] (by kernel_rfl)) ?_
    refine vwp_ret ?_
    obtain rfl := so h
    exact endW (by kernel_rfl)

theorem c_i_fields (G : GS) (n : Nat) (kind : Int) {r : Int} (h : i_fields n kind = some r) : PCC Tryd.prog G.g 33 [vI kind] (vI r) := by
  unfold i_fields at h
  refine pmr tyOK Tryd.func33 rfl rfl rfl rfl rfl rfl rfl ?_
  intro w X hC
  refine vwp_seq ?_
  refine rg hC [] [2] [] [] [] trivial (by kernel_rfl) ?_
  refine vwp_seq ?_
  refine vwp_seq ?_
  refine rg hC [] [3] [(3, vI kind)] [] [] trivial (by kernel_rfl) ?_
  refine vwp_block ?_
  obtain ⟨j1, hj1, h⟩ := jn_e h
  refine vwp_jm (γ := Unit) (j := j1) (r := r) (fun (x_ : Bool) (g_ : Unit) => mkS [(3, vI kind), (4, vB x_)] [] []) ?_ ?_
  ·
    refine vwp_seq ?_
    refine rg hC [] [4, 5] [(4, vB (decide (kind = 1)))] [] [] trivial (by kernel_rfl) ?_
    refine vwp_cond (b := decide (kind = 1)) (by kernel_rfl) (fun c1 => ?_) (fun c1 => ?_)
    · have h := bt c1 h
      refine vwp_skip ?_
      exact ⟨decide (kind = 1), (), h, leS (by kernel_rfl)⟩
    · have h := bf c1 h
      refine vwp_seq ?_
      refine rg hC [] [4, 6] [(4, vB (decide (kind = 2)))] [] [] trivial (by kernel_rfl) ?_
      refine vwp_cond (b := decide (kind = 2)) (by kernel_rfl) (fun c2 => ?_) (fun c2 => ?_)
      · have h := bt c2 h
        refine vwp_skip ?_
        exact ⟨decide (kind = 2), (), h, leS (by kernel_rfl)⟩
      · have h := bf c2 h
        refine vwp_seq ?_
        refine rg hC [] [4, 7] [(4, vB (decide (kind = 7)))] [] [] trivial (by kernel_rfl) ?_
        refine vwp_cond (b := decide (kind = 7)) (by kernel_rfl) (fun c3 => ?_) (fun c3 => ?_)
        · have h := bt c3 h
          refine vwp_skip ?_
          exact ⟨decide (kind = 7), (), h, leS (by kernel_rfl)⟩
        · have h := bf c3 h
          refine rg hC [] [4, 8] [(4, vB (decide (kind = 8)))] [] [] trivial (by kernel_rfl) ?_
          exact ⟨decide (kind = 8), (), h, leS (by kernel_rfl)⟩
  · rintro x2 ⟨⟩ h
    subst hj1
    refine vwp_cond (b := x2) (by kernel_rfl) (fun c4 => ?_) (fun c4 => ?_)
    · have h := bt c4 h
      refine vwp_seq ?_
      refine rg hC [] [2] [(2, vI 2)] [] [] trivial (by kernel_rfl) ?_
      refine vwp_ret ?_
      obtain rfl := so h
      exact endR (by kernel_rfl)
    · have h := bf c4 h
      obtain ⟨j3, hj3, h⟩ := jn_e h
      refine vwp_jm (γ := Unit) (j := j3) (r := r) (fun (x_ : Bool) (g_ : Unit) => mkS [(3, vI kind), (9, vB x_)] [] []) ?_ ?_
      ·
        refine vwp_seq ?_
        refine rg hC [] [9, 10] [(9, vB (decide (kind = 3)))] [] [] trivial (by kernel_rfl) ?_
        refine vwp_cond (b := decide (kind = 3)) (by kernel_rfl) (fun c5 => ?_) (fun c5 => ?_)
        · have h := bt c5 h
          refine vwp_skip ?_
          exact ⟨decide (kind = 3), (), h, leS (by kernel_rfl)⟩
        · have h := bf c5 h
          refine vwp_seq ?_
          refine rg hC [] [9, 11] [(9, vB (decide (kind = 4)))] [] [] trivial (by kernel_rfl) ?_
          refine vwp_cond (b := decide (kind = 4)) (by kernel_rfl) (fun c6 => ?_) (fun c6 => ?_)
          · have h := bt c6 h
            refine vwp_skip ?_
            exact ⟨decide (kind = 4), (), h, leS (by kernel_rfl)⟩
          · have h := bf c6 h
            refine rg hC [] [9, 12] [(9, vB (decide (kind = 5)))] [] [] trivial (by kernel_rfl) ?_
            exact ⟨decide (kind = 5), (), h, leS (by kernel_rfl)⟩
      · rintro x4 ⟨⟩ h
        subst hj3
        refine vwp_cond (b := x4) (by kernel_rfl) (fun c7 => ?_) (fun c7 => ?_)
        · have h := bt c7 h
          refine vwp_seq ?_
          refine rg hC [] [2] [(2, vI 3)] [] [] trivial (by kernel_rfl) ?_
          refine vwp_ret ?_
          obtain rfl := so h
          exact endR (by kernel_rfl)
        · have h := bf c7 h
          obtain ⟨j5, hj5, h⟩ := jn_e h
          refine vwp_jm (γ := Unit) (j := j5) (r := r) (fun (x_ : Bool) (g_ : Unit) => mkS [(3, vI kind), (13, vB x_)] [] []) ?_ ?_
          ·
            refine vwp_seq ?_
            refine rg hC [] [13, 14] [(13, vB (decide (kind = 6)))] [] [] trivial (by kernel_rfl) ?_
            refine vwp_cond (b := decide (kind = 6)) (by kernel_rfl) (fun c8 => ?_) (fun c8 => ?_)
            · have h := bt c8 h
              refine vwp_skip ?_
              exact ⟨decide (kind = 6), (), h, leS (by kernel_rfl)⟩
            · have h := bf c8 h
              refine vwp_seq ?_
              refine rg hC [] [13, 15] [(13, vB (decide (kind = 9)))] [] [] trivial (by kernel_rfl) ?_
              refine vwp_cond (b := decide (kind = 9)) (by kernel_rfl) (fun c9 => ?_) (fun c9 => ?_)
              · have h := bt c9 h
                refine vwp_skip ?_
                exact ⟨decide (kind = 9), (), h, leS (by kernel_rfl)⟩
              · have h := bf c9 h
                refine rg hC [] [13, 16] [(13, vB (decide (kind = 10)))] [] [] trivial (by kernel_rfl) ?_
                exact ⟨decide (kind = 10), (), h, leS (by kernel_rfl)⟩
          · rintro x6 ⟨⟩ h
            subst hj5
            refine vwp_cond (b := x6) (by kernel_rfl) (fun c10 => ?_) (fun c10 => ?_)
            · have h := bt c10 h
              refine vwp_seq ?_
              refine rg hC [] [2] [(2, vI 1)] [] [] trivial (by kernel_rfl) ?_
              refine vwp_ret ?_
              obtain rfl := so h
              exact endR (by kernel_rfl)
            · have h := bf c10 h
              refine vwp_seq ?_
              refine rg hC [] [17, 18] [(17, vB (decide (kind = 11)))] [] [] trivial (by kernel_rfl) ?_
              refine vwp_cond (b := decide (kind = 11)) (by kernel_rfl) (fun c11 => ?_) (fun c11 => ?_)
              · have h := bt c11 h
                refine vwp_seq ?_
                refine rg hC [] [2] [(2, vI 0)] [] [] trivial (by kernel_rfl) ?_
                refine vwp_ret ?_
                obtain rfl := so h
                exact endR (by kernel_rfl)
              · have h := bf c11 h
                refine vwp_skip ?_
                refine vwp_seq ?_
                refine rg hC [] [2] [(2, vI (-1))] [] [] trivial (by kernel_rfl) ?_
                refine vwp_ret ?_
                obtain rfl := so h
                exact endR (by kernel_rfl)

theorem c_i_isRight_1 (G : GS) (n : Nat) (v : Int) {r : Bool} (h : i_isRight_1 n v = some r) : PCC Tryd.prog G.g 43 [vI v] (vB r) := by
  unfold i_isRight_1 at h
  refine pmr tyOK Tryd.func43 rfl rfl rfl rfl rfl rfl rfl ?_
  intro w X hC
  refine vwp_seq ?_
  refine rg hC [] [2] [] [] [] trivial (by kernel_rfl) ?_
  refine vwp_seq ?_
  refine rg hC [] [2, 3, 4] [(2, vB (!decide (v = 0)))] [] [] trivial (by kernel_rfl) ?_
  refine vwp_ret ?_
  obtain rfl := so h
  exact endR (by kernel_rfl)

theorem c_l_IndexFunc_int (G : GS) (n : Nat) (s : List Int) (fF : FuncId) (f : Int → Option Bool) (hf : ∀ (q0 : Int) r, f q0 = some r → PCC Tryd.prog G.g fF [vI q0] (vB r)) {r : Int} (h : l_IndexFunc_int n s f = some r) : PCC Tryd.prog G.g 44 [vM rI s, V.fn fF []] (vI r) := by
  unfold l_IndexFunc_int at h
  refine pmr tyOK Tryd.func44 rfl rfl rfl rfl rfl rfl rfl ?_
  intro w X hC
  refine vwp_seq ?_
  refine rg hC [] [4] [] [] [] trivial (by kernel_rfl) ?_
  refine vwp_seq ?_
  refine vwp_seq ?_
  refine rg hC [.nat s.length] [6, 7, 8] [(7, vI (s.length : Int)), (8, vI 0)] [] [] (an (lenM rI s) trivial) (by kernel_rfl) ?_
  refine vwp_block ?_
  refine vwp_lm (γ := Unit) h (fun (x_ : Int) (g_ : Unit) => mkS [(0, vM rI s), (1, V.fn fF []), (7, vI (s.length : Int)), (8, vI x_)] [] []) () (leS (by kernel_rfl)) ?_
  rintro again2 x1 ⟨⟩ h
  refine vwp_seq ?_
  refine rg hC [] [9] [(9, vB (decide (x1 < (s.length : Int))))] [] [] trivial (by kernel_rfl) ?_
  refine vwp_seq ?_
  refine vwp_cond (b := decide (x1 < (s.length : Int))) (by kernel_rfl) (fun c1 => ?_) (fun c1 => ?_)
  · have h := bt c1 h
    refine vwp_skip ?_
    refine vwp_seq ?_
    refine vwp_block ?_
    refine vwp_seq ?_
    refine rg hC [] [5, 10] [(5, vI x1)] [] [] trivial (by kernel_rfl) ?_
    refine vwp_seq ?_
    obtain ⟨x3, hx3, h⟩ := bd h
    obtain ⟨x4, hx4, h⟩ := bd h
    refine rg hC [.row (rI x3), .v (vB x4)] [11, 12, 13, 14, 15, 16] [(16, vB x4)] [] [] (an (ix_map rI hx3) (an (hf x3 _ hx4) trivial)) (by kernel_rfl) ?_
    refine vwp_cond (b := x4) (by kernel_rfl) (fun c2 => ?_) (fun c2 => ?_)
    · have h := bt c2 h
      refine vwp_seq ?_
      refine rg hC [] [4, 17] [(4, vI x1)] [] [] trivial (by kernel_rfl) ?_
      refine vwp_ret ?_
      obtain rfl := so h
      exact endR (by kernel_rfl)
    · have h := bf c2 h
      refine vwp_skip ?_
      refine rg hC [] [8, 18] [(8, vI (wr (x1 + 1)))] [] [] trivial (by kernel_rfl) ?_
      exact ⟨wr (x1 + 1), (), h, leS (by kernel_rfl)⟩
  · have h := bf c1 h
    refine vwp_exit ?_
    refine vwp_seq ?_
    refine rg hC [] [4] [(4, vI (-1))] [] [] trivial (by kernel_rfl) ?_
    refine vwp_ret ?_
    obtain rfl := so h
    exact endR (by kernel_rfl)

theorem c_l_ContainsFunc_int (G : GS) (n : Nat) (s : List Int) (fF : FuncId) (f : Int → Option Bool) (hf : ∀ (q0 : Int) r, f q0 = some r → PCC Tryd.prog G.g fF [vI q0] (vB r)) {r : Bool} (h : l_ContainsFunc_int n s f = some r) : PCC Tryd.prog G.g 28 [vM rI s, V.fn fF []] (vB r) := by
  unfold l_ContainsFunc_int at h
  refine pmr tyOK Tryd.func28 rfl rfl rfl rfl rfl rfl rfl ?_
  intro w X hC
  refine vwp_seq ?_
  refine rg hC [] [4] [] [] [] trivial (by kernel_rfl) ?_
  refine vwp_seq ?_
  obtain ⟨x1, hx1, h⟩ := bd h
  refine rg hC [.v (vI x1)] [4, 5, 6, 7, 8] [(4, vB (decide ((0 : Int) ≤ x1)))] [] [] (an (c_l_IndexFunc_int G n s fF f hf hx1) trivial) (by kernel_rfl) ?_
  refine vwp_ret ?_
  obtain rfl := so h
  exact endR (by kernel_rfl)

theorem c_i_Step_list (G : GS) (n : Nat) (s : Step) {r : (List Int)} (h : i_Step_list n s = some r) : PCC Tryd.prog G.g 29 [V.agg [vI s.kind, vI s.part, vI s.a, vI s.b]] (vM rI r) := by
  unfold i_Step_list at h
  refine pmr tyOK Tryd.func29 rfl rfl rfl rfl rfl rfl rfl ?_
  intro w X hC
  refine vwp_seq ?_
  refine rg hC [.b true] [1, 2] [(1, V.tp [T.int .i64 s.kind, T.int .i64 s.part, T.int .i64 s.a, T.int .i64 s.b])] [] [] trivial (by kernel_rfl) ?_
  refine vwp_seq ?_
  refine rg hC [.int 0] [2, 3, 4, 5, 6, 7, 8, 9] [(2, vM rI [s.part, s.a, s.b])] [] [] trivial (by kernel_rfl) ?_
  refine vwp_ret ?_
  obtain rfl := so h
  exact endR (by kernel_rfl)

theorem c_i_isRight (G : GS) (n : Nat) (s : Step) {r : Bool} (h : i_isRight n s = some r) : PCC Tryd.prog G.g 27 [V.agg [vI s.kind, vI s.part, vI s.a, vI s.b]] (vB r) := by
  unfold i_isRight at h
  refine pmr tyOK Tryd.func27 rfl rfl rfl rfl rfl rfl rfl ?_
  intro w X hC
  refine vwp_seq ?_
  refine rg hC [.b true] [1, 2] [(1, V.tp [T.int .i64 s.kind, T.int .i64 s.part, T.int .i64 s.a, T.int .i64 s.b])] [] [] trivial (by kernel_rfl) ?_
  refine vwp_seq ?_
  obtain ⟨x1, hx1, h⟩ := bd h
  refine rg hC [.v (vI x1)] [3, 4, 5, 6] [(3, vI x1)] [] [] (an (c_i_fields G n s.kind hx1) trivial) (by kernel_rfl) ?_
  obtain ⟨j2, hj2, h⟩ := jn_e h
  refine vwp_jm (γ := Unit) (j := j2) (r := r) (fun (x_ : Bool) (g_ : Unit) => mkS [(2, vB x_)] [] []) ?_ ?_
  ·
    refine split_b (decide ((0 : Int) ≤ x1)) (fun c1 => ?_) (fun c1 => ?_)
    · have h := bf c1 h
      refine rg hC [.b false, .b false, .b false, .b false, .b false, .b false, .b false] [2, 7, 8, 9, 10, 11, 12, 13, 14, 15, 16] [(2, vB false)] [] [] (an c1 (an c1 (an c1 (an c1 (an c1 (an c1 (an c1 trivial))))))) (by kernel_rfl) ?_
      exact ⟨false, (), h, leS (by kernel_rfl)⟩
    · have h := bt c1 h
      obtain ⟨x3, hx3, h⟩ := bd h
      obtain ⟨x4, hx4, h⟩ := bd h
      obtain ⟨x5, hx5, h⟩ := bd h
      refine rg hC [.b true, .b true, .v (vM rI x3), .b true, .b true, .rows (List.map rI x4), .b true, .v (vB x5), .b true, .b true] [2, 7, 8, 9, 10, 11, 12, 13, 14, 15, 16] [(2, vB (!x5))] [] [] (an c1 (an c1 (an (c_i_Step_list G n s hx3) (an c1 (an c1 (an (sub_mapF rI hx4) (an (rwM (r := rI) 1 (fun _ => rfl) x3) (an c1 (an (c_l_ContainsFunc_int G n x4 43 (fun q0 => i_isRight_1 n q0) (fun q0 r h => c_i_isRight_1 G n q0 h) hx5) (an c1 (an c1 trivial))))))))))) (by kernel_rfl) ?_
      exact ⟨!x5, (), h, leS (by kernel_rfl)⟩
  · rintro x6 ⟨⟩ h
    subst hj2
    refine vwp_ret ?_
    obtain rfl := so h
    exact endR (by kernel_rfl)

theorem c_i_within (G : GS) (n : Nat) (n_a0 : Int) (low : Int) (high : Int) {r : Bool} (h : i_within n n_a0 low high = some r) : PCC Tryd.prog G.g 45 [vI n_a0, vI low, vI high] (vB r) := by
  unfold i_within at h
  refine pmr tyOK Tryd.func45 rfl rfl rfl rfl rfl rfl rfl ?_
  intro w X hC
  refine vwp_seq ?_
  refine rg hC [] [6] [] [] [] trivial (by kernel_rfl) ?_
  obtain ⟨j1, hj1, h⟩ := jn_e h
  refine vwp_jm (γ := Unit) (j := j1) (r := r) (fun (x_ : Bool) (g_ : Unit) => mkS [(6, vB x_)] [] []) ?_ ?_
  ·
    refine split_b (decide (low ≤ n_a0)) (fun c1 => ?_) (fun c1 => ?_)
    · have h := bf c1 h
      refine rg hC [.b false, .b false, .b false, .b false] [6, 7, 8, 9, 10, 11, 12, 13, 14] [(6, vB false)] [] [] (an c1 (an c1 (an c1 (an c1 trivial)))) (by kernel_rfl) ?_
      exact ⟨false, (), h, leS (by kernel_rfl)⟩
    · have h := bt c1 h
      refine rg hC [.b true, .b true, .b true, .b true] [6, 7, 8, 9, 10, 11, 12, 13, 14] [(6, vB (decide (n_a0 ≤ high)))] [] [] (an c1 (an c1 (an c1 (an c1 trivial)))) (by kernel_rfl) ?_
      exact ⟨decide (n_a0 ≤ high), (), h, leS (by kernel_rfl)⟩
  · rintro x2 ⟨⟩ h
    subst hj1
    refine vwp_ret ?_
    obtain rfl := so h
    exact endR (by kernel_rfl)

theorem c_i_isConst (G : GS) (n : Nat) (n_a0 : Int) {r : Bool} (h : i_isConst n n_a0 = some r) : PCC Tryd.prog G.g 31 [vI n_a0] (vB r) := by
  unfold i_isConst at h
  refine pmr tyOK Tryd.func31 rfl rfl rfl rfl rfl rfl rfl ?_
  intro w X hC
  refine vwp_seq ?_
  refine rg hC [] [2] [] [] [] trivial (by kernel_rfl) ?_
  refine vwp_seq ?_
  obtain ⟨x1, hx1, h⟩ := bd h
  refine rg hC [.v (vB x1)] [2, 3, 4] [(2, vB x1)] [] [] (an (c_i_within G n n_a0 (-99) 99 hx1) trivial) (by kernel_rfl) ?_
  refine vwp_ret ?_
  obtain rfl := so h
  exact endR (by kernel_rfl)

theorem c_i_hasText_1 (G : GS) (n : Nat) (n_a0 : Int) {r : Bool} (h : i_hasText_1 n n_a0 = some r) : PCC Tryd.prog G.g 30 [vI n_a0] (vB r) := by
  unfold i_hasText_1 at h
  refine pmr tyOK Tryd.func30 rfl rfl rfl rfl rfl rfl rfl ?_
  intro w X hC
  refine vwp_seq ?_
  refine rg hC [] [2] [] [] [] trivial (by kernel_rfl) ?_
  refine vwp_seq ?_
  obtain ⟨x1, hx1, h⟩ := bd h
  refine rg hC [.v (vB x1)] [2, 3, 4, 5] [(2, vB (!x1))] [] [] (an (c_i_isConst G n n_a0 hx1) trivial) (by kernel_rfl) ?_
  refine vwp_ret ?_
  obtain rfl := so h
  exact endR (by kernel_rfl)

theorem c_i_hasText (G : GS) (n : Nat) (s : Step) {r : Bool} (h : i_hasText n s = some r) : PCC Tryd.prog G.g 14 [V.agg [vI s.kind, vI s.part, vI s.a, vI s.b]] (vB r) := by
  unfold i_hasText at h
  refine pmr tyOK Tryd.func14 rfl rfl rfl rfl rfl rfl rfl ?_
  intro w X hC
  refine vwp_seq ?_
  refine rg hC [.b true] [1, 2] [(1, V.tp [T.int .i64 s.kind, T.int .i64 s.part, T.int .i64 s.a, T.int .i64 s.b])] [] [] trivial (by kernel_rfl) ?_
  obtain ⟨j1, hj1, h⟩ := jn_e h
  refine vwp_jm (γ := Unit) (j := j1) (r := r) (fun (x_ : Bool) (g_ : Unit) => mkS [(2, vB x_)] [] []) ?_ ?_
  ·
    obtain ⟨x2, hx2, h⟩ := bd h
    refine split_b x2 (fun c1 => ?_) (fun c1 => ?_)
    · have h := bf c1 h
      refine rg hC [.v (vB x2), .b false, .b false, .b false, .b false, .b false] [2, 3, 4, 5, 6, 7, 8, 9, 10] [(2, vB false)] [] [] (an (c_i_isRight G n s hx2) (an c1 (an c1 (an c1 (an c1 (an c1 trivial)))))) (by kernel_rfl) ?_
      exact ⟨false, (), h, leS (by kernel_rfl)⟩
    · have h := bt c1 h
      obtain ⟨x3, hx3, h⟩ := bd h
      obtain ⟨x4, hx4, h⟩ := bd h
      refine rg hC [.v (vB x2), .b true, .b true, .v (vM rI x3), .b true, .v (vB x4), .b true, .b true] [2, 3, 4, 5, 6, 7, 8, 9, 10] [(2, vB (!x4))] [] [] (an (c_i_isRight G n s hx2) (an c1 (an c1 (an (c_i_Step_list G n s hx3) (an c1 (an (c_l_ContainsFunc_int G n x3 30 (fun q0 => i_hasText_1 n q0) (fun q0 r h => c_i_hasText_1 G n q0 h) hx4) (an c1 (an c1 trivial)))))))) (by kernel_rfl) ?_
      exact ⟨!x4, (), h, leS (by kernel_rfl)⟩
  · rintro x5 ⟨⟩ h
    subst hj1
    refine vwp_ret ?_
    obtain rfl := so h
    exact endR (by kernel_rfl)

theorem c_i_stepWords (G : GS) (n : Nat)  {r : (List (List UInt8))} (h : i_stepWords n  = some r) : PCC Tryd.prog G.g 32 [] (vM rS r) := by
  unfold i_stepWords at h
  refine pmr tyOK Tryd.func32 rfl rfl rfl rfl rfl rfl rfl ?_
  intro w X hC
  refine vwp_seq ?_
  refine rg hC [] [0] [] [] [] trivial (by kernel_rfl) ?_
  refine vwp_seq ?_
  refine rg hC [.int 0] [0, 1] [(0, vM rS [[105, 110, 116, 101, 114, 99, 104, 97, 110, 103, 101], [114, 101, 118, 101, 114, 115, 101], [115, 107, 101, 119], [115, 104, 105, 102, 116], [115, 116, 114, 105, 112], [102, 117, 115, 101], [100, 105, 115, 116, 114, 105, 98, 117, 116, 101], [115, 112, 108, 105, 116], [115, 119, 97, 112], [100, 114, 111, 112], [102, 111, 108, 100]])] [] [] trivial (by kernel_rfl) ?_
  refine vwp_ret ?_
  obtain rfl := so h
  exact endR (by kernel_rfl)

theorem c_i_stepText (G : GS) (n : Nat) (s : Step) {r : (List UInt8)} (h : i_stepText n s = some r) : PCC Tryd.prog G.g 15 [V.agg [vI s.kind, vI s.part, vI s.a, vI s.b]] (vS r) := by
  unfold i_stepText at h
  refine pmr tyOK Tryd.func15 rfl rfl rfl rfl rfl rfl rfl ?_
  intro w X hC
  refine vwp_seq ?_
  refine rg hC [.b true] [1, 2] [(1, V.tp [T.int .i64 s.kind, T.int .i64 s.part, T.int .i64 s.a, T.int .i64 s.b])] [] [] trivial (by kernel_rfl) ?_
  refine vwp_seq ?_
  obtain ⟨x1, hx1, h⟩ := bd h
  obtain ⟨x2, hx2, h⟩ := bd h
  refine rd hC hmix [.v (vM rS x1), .row (rS x2)] [3, 6, 7, 8, 9, 10, 11] [(3, vS x2)] [] [] (an (c_i_stepWords G n  hx1) (an (ix_map rS hx2) trivial)) (by kernel_rfl) ?_
  refine vwp_seq ?_
  refine vwp_seq ?_
  obtain ⟨x3, hx3, h⟩ := bd h
  obtain ⟨x4, hx4, h⟩ := bd h
  obtain ⟨x5, hx5, h⟩ := bd h
  refine rd hC hmix [.v (vM rI x3), .v (vI x4), .rows (List.map rI x5), .nat x5.length] [12, 13, 14, 15, 16, 17, 18, 19] [(17, vM rI x5), (18, vI (x5.length : Int)), (19, vI 0)] [] [] (an (c_i_Step_list G n s hx3) (an (c_i_fields G n s.kind hx4) (an (sub_map rI hx5) (an (rwM (r := rI) 1 (fun _ => rfl) x3) (an (lenM rI x5) trivial))))) (by kernel_rfl) ?_
  refine vwp_block ?_
  refine vwp_lm (γ := Unit) h (fun (x_ : (List UInt8) × Int) (g_ : Unit) => mkS [(3, vS x_.1), (17, vM rI x5), (18, vI (x5.length : Int)), (19, vI x_.2)] [] []) () (leS (by kernel_rfl)) ?_
  rintro again8 ⟨x6, x7⟩ ⟨⟩ h
  refine vwp_seq ?_
  refine rg hC [] [20] [(20, vB (decide (x7 < (x5.length : Int))))] [] [] trivial (by kernel_rfl) ?_
  refine vwp_seq ?_
  refine vwp_cond (b := decide (x7 < (x5.length : Int))) (by kernel_rfl) (fun c1 => ?_) (fun c1 => ?_)
  · have h := bt c1 h
    refine vwp_skip ?_
    refine vwp_seq ?_
    refine vwp_block ?_
    refine vwp_seq ?_
    obtain ⟨x9, hx9, h⟩ := bd h
    refine rg hC [.row (rI x9)] [5, 21, 22] [(5, vI x9)] [] [] (an (ix_map rI hx9) trivial) (by kernel_rfl) ?_
    obtain ⟨x10, hx10, h⟩ := bd h
    obtain ⟨x11, hx11, h⟩ := bd h
    obtain ⟨x12, hx12, h⟩ := bd h
    refine rg hC [.v (vS x10), .str x11, .str x12] [3, 23, 24, 25, 26, 27] [(3, vS x12)] [] [] (an (G.itoa x9 x10 hx10) (an hx11 (an hx12 trivial))) (by kernel_rfl) ?_
    refine rg hC [] [19, 28] [(19, vI (wr (x7 + 1)))] [] [] trivial (by kernel_rfl) ?_
    exact ⟨(x12, wr (x7 + 1)), (), h, leS (by kernel_rfl)⟩
  · have h := bf c1 h
    refine vwp_exit ?_
    refine vwp_seq ?_
    refine rg hC [] [2, 29] [(2, vS x6)] [] [] trivial (by kernel_rfl) ?_
    refine vwp_ret ?_
    obtain rfl := so h
    exact endR (by kernel_rfl)

theorem c_i_FormatSteps (G : GS) (n : Nat) (list : List Step) {r : (List UInt8)} (h : i_FormatSteps n list = some r) : PCC Tryd.prog G.g 5 [vM rStep list] (vS r) := by
  unfold i_FormatSteps at h
  refine pmr tyOK Tryd.func5 rfl rfl rfl rfl rfl rfl rfl ?_
  intro w X hC
  refine vwp_seq ?_
  refine rg hC [] [2] [] [] [] trivial (by kernel_rfl) ?_
  refine vwp_seq ?_
  refine rg hC [] [3] [(3, vS [])] [] [] trivial (by kernel_rfl) ?_
  refine vwp_seq ?_
  refine vwp_seq ?_
  refine rg hC [.nat list.length] [6, 7, 8] [(6, vM rStep list), (7, vI (list.length : Int)), (8, vI 0)] [] [] (an (lenM rStep list) trivial) (by kernel_rfl) ?_
  refine vwp_block ?_
  refine vwp_lm (γ := Unit) h (fun (x_ : (List UInt8) × Int) (g_ : Unit) => mkS [(0, vM rStep list), (3, vS x_.1), (6, vM rStep list), (7, vI (list.length : Int)), (8, vI x_.2)] [] []) () (leS (by kernel_rfl)) ?_
  rintro again3 ⟨x1, x2⟩ ⟨⟩ h
  refine vwp_seq ?_
  refine rg hC [] [9] [(9, vB (decide (x2 < (list.length : Int))))] [] [] trivial (by kernel_rfl) ?_
  refine vwp_seq ?_
  refine vwp_cond (b := decide (x2 < (list.length : Int))) (by kernel_rfl) (fun c1 => ?_) (fun c1 => ?_)
  · have h := bt c1 h
    refine vwp_skip ?_
    refine vwp_seq ?_
    refine vwp_block ?_
    refine vwp_seq ?_
    obtain ⟨x4, hx4, h⟩ := bd h
    refine rg hC [.row (rStep x4), .nat 20] [5, 10, 11] [(5, V.ref 20 0)] [(20, some (E.cells [vI x4.kind, vI x4.part, vI x4.a, vI x4.b]))] [(20, true)] (an (ix_map rStep hx4) trivial) (by kernel_rfl) ?_
    refine vwp_seq ?_
    obtain ⟨j5, hj5, h⟩ := jn_e h
    refine vwp_jm (γ := Unit) (j := j5) (r := r) (fun (x_ : Bool) (g_ : Unit) => mkS [(0, vM rStep list), (3, vS x1), (5, V.ref 20 0), (6, vM rStep list), (7, vI (list.length : Int)), (8, vI x2), (19, vB x_)] [(20, E.cells [vI x4.kind, vI x4.part, vI x4.a, vI x4.b])] [20]) ?_ ?_
    ·
      refine split_b (decide ((12 : Int) < (list.length : Int))) (fun c2 => ?_) (fun c2 => ?_)
      · have h := bf c2 h
        obtain ⟨x6, hx6, h⟩ := bd h
        refine rg hC [.nat list.length, .b false, .b false, .v (vB x6), .b false, .b false] [12, 13, 14, 15, 16, 17, 18, 19] [(19, vB (!x6))] [] [] (an (lenM rStep list) (an c2 (an c2 (an (c_i_hasText G n x4 hx6) (an c2 (an c2 trivial)))))) (by kernel_rfl) ?_
        exact ⟨!x6, (), h, leS (by kernel_rfl)⟩
      · have h := bt c2 h
        refine rg hC [.nat list.length, .b true, .b true, .b true, .b true] [12, 13, 14, 15, 16, 17, 18, 19] [(19, vB true)] [] [] (an (lenM rStep list) (an c2 (an c2 (an c2 (an c2 trivial))))) (by kernel_rfl) ?_
        exact ⟨true, (), h, leS (by kernel_rfl)⟩
    · rintro x7 ⟨⟩ h
      subst hj5
      refine vwp_cond (b := x7) (by kernel_rfl) (fun c3 => ?_) (fun c3 => ?_)
      · have h := bt c3 h
        refine vwp_seq ?_
        refine rg hC [] [2] [(2, vS [])] [] [] trivial (by kernel_rfl) ?_
        refine vwp_ret ?_
        obtain rfl := so h
        exact endR (by kernel_rfl)
      · have h := bf c3 h
        refine vwp_skip ?_
        obtain ⟨x8, hx8, h⟩ := bd h
        obtain ⟨x9, hx9, h⟩ := bd h
        obtain ⟨x10, hx10, h⟩ := bd h
        refine rg hC [.v (vS x8), .str x9, .str x10] [3, 20, 21, 22, 23, 24] [(3, vS x10)] [] [] (an (c_i_stepText G n x4 hx8) (an hx9 (an hx10 trivial))) (by kernel_rfl) ?_
        refine rg hC [] [8, 25] [(8, vI (wr (x2 + 1)))] [] [] trivial (by kernel_rfl) ?_
        exact ⟨(x10, wr (x2 + 1)), (), h, leS (by kernel_rfl)⟩
  · have h := bf c1 h
    refine vwp_exit ?_
    refine vwp_seq ?_
    refine rg hC [] [2, 26] [(2, vS x1)] [] [] trivial (by kernel_rfl) ?_
    refine vwp_ret ?_
    obtain rfl := so h
    exact endR (by kernel_rfl)

theorem c_l_Index_string (G : GS) (n : Nat) (s : List (List UInt8)) (v : List UInt8) {r : Int} (h : l_Index_string n s v = some r) : PCC Tryd.prog G.g 36 [vM rS s, vS v] (vI r) := by
  unfold l_Index_string at h
  refine pmr tyOK Tryd.func36 rfl rfl rfl rfl rfl rfl rfl ?_
  intro w X hC
  refine vwp_seq ?_
  refine rg hC [] [4] [] [] [] trivial (by kernel_rfl) ?_
  refine vwp_seq ?_
  refine vwp_seq ?_
  refine rg hC [.nat s.length] [6, 7, 8] [(7, vI (s.length : Int)), (8, vI 0)] [] [] (an (lenM rS s) trivial) (by kernel_rfl) ?_
  refine vwp_block ?_
  refine vwp_lm (γ := Unit) h (fun (x_ : Int) (g_ : Unit) => mkS [(0, vM rS s), (1, vS v), (7, vI (s.length : Int)), (8, vI x_)] [] []) () (leS (by kernel_rfl)) ?_
  rintro again2 x1 ⟨⟩ h
  refine vwp_seq ?_
  refine rg hC [] [9] [(9, vB (decide (x1 < (s.length : Int))))] [] [] trivial (by kernel_rfl) ?_
  refine vwp_seq ?_
  refine vwp_cond (b := decide (x1 < (s.length : Int))) (by kernel_rfl) (fun c1 => ?_) (fun c1 => ?_)
  · have h := bt c1 h
    refine vwp_skip ?_
    refine vwp_seq ?_
    refine vwp_block ?_
    refine vwp_seq ?_
    refine rg hC [] [5, 10] [(5, vI x1)] [] [] trivial (by kernel_rfl) ?_
    refine vwp_seq ?_
    obtain ⟨x3, hx3, h⟩ := bd h
    refine rg hC [.row (rS x3)] [11, 12, 13, 14, 15, 16] [(16, vB (decide (v = x3)))] [] [] (an (ix_map rS hx3) trivial) (by kernel_rfl) ?_
    refine vwp_cond (b := decide (v = x3)) (by kernel_rfl) (fun c2 => ?_) (fun c2 => ?_)
    · have h := bt c2 h
      refine vwp_seq ?_
      refine rg hC [] [4, 17] [(4, vI x1)] [] [] trivial (by kernel_rfl) ?_
      refine vwp_ret ?_
      obtain rfl := so h
      exact endR (by kernel_rfl)
    · have h := bf c2 h
      refine vwp_skip ?_
      refine rg hC [] [8, 18] [(8, vI (wr (x1 + 1)))] [] [] trivial (by kernel_rfl) ?_
      exact ⟨wr (x1 + 1), (), h, leS (by kernel_rfl)⟩
  · have h := bf c1 h
    refine vwp_exit ?_
    refine vwp_seq ?_
    refine rg hC [] [4] [(4, vI (-1))] [] [] trivial (by kernel_rfl) ?_
    refine vwp_ret ?_
    obtain rfl := so h
    exact endR (by kernel_rfl)

theorem c_i_readStep (G : GS) (n : Nat) (line : List UInt8) {r : Step × Bool} (h : i_readStep n line = some r) : PCC Tryd.prog G.g 17 [vS line] (V.tup [V.agg [vI r.1.kind, vI r.1.part, vI r.1.a, vI r.1.b], vB r.2]) := by
  unfold i_readStep at h
  refine pmr tyOK Tryd.func17 rfl rfl rfl rfl rfl rfl rfl ?_
  intro w X hC
  refine vwp_seq ?_
  refine rg hC [.nat 20] [2, 3] [(2, V.ref 20 0)] [(20, some (E.cells [vI 0, vI 0, vI 0, vI 0]))] [(20, true)] trivial (by kernel_rfl) ?_
  refine vwp_seq ?_
  obtain ⟨x1, hx1, h⟩ := bd h
  refine rg hC [.v (vM rS x1)] [4, 12, 13] [(4, vM rS x1)] [] [] (an (G.split line [32] x1 hx1) trivial) (by kernel_rfl) ?_
  refine vwp_seq ?_
  obtain ⟨x2, hx2, h⟩ := bd h
  obtain ⟨x3, hx3, h⟩ := bd h
  obtain ⟨x4, hx4, h⟩ := bd h
  refine rd hC hmix [.v (vM rS x2), .row (rS x3), .v (vI x4)] [5, 14, 15, 16, 17, 18, 19] [(5, vI (wr (1 + x4)))] [] [] (an (c_i_stepWords G n  hx2) (an (ix_map rS hx3) (an (c_l_Index_string G n x2 x3 hx4) trivial))) (by kernel_rfl) ?_
  refine vwp_seq ?_
  obtain ⟨j5, hj5, h⟩ := jn_e h
  refine vwp_jm (γ := Unit) (j := j5) (r := r) (fun (x_ : Bool) (g_ : Unit) => mkS [(0, vS line), (2, V.ref 20 0), (4, vM rS x1), (5, vI (wr (1 + x4))), (29, vB x_)] [(20, E.cells [vI 0, vI 0, vI 0, vI 0])] [20]) ?_ ?_
  ·
    refine split_b (decide (wr (1 + x4) < 1)) (fun c1 => ?_) (fun c1 => ?_)
    · have h := bf c1 h
      obtain ⟨x6, hx6, h⟩ := bd h
      refine rg hC [.b false, .b false, .nat x1.length, .b false, .b false, .b false, .v (vI x6), .b false, .b false] [20, 21, 22, 23, 24, 25, 26, 27, 28, 29] [(29, vB (!decide (wr ((x1.length : Int) - 1) = x6)))] [] [] (an c1 (an c1 (an (lenM rS x1) (an c1 (an c1 (an c1 (an (c_i_fields G n (wr (1 + x4)) hx6) (an c1 (an c1 trivial))))))))) (by kernel_rfl) ?_
      exact ⟨!decide (wr ((x1.length : Int) - 1) = x6), (), h, leS (by kernel_rfl)⟩
    · have h := bt c1 h
      refine rg hC [.b true, .b true, .b true, .b true, .b true, .b true, .b true] [20, 21, 22, 23, 24, 25, 26, 27, 28, 29] [(29, vB true)] [] [] (an c1 (an c1 (an c1 (an c1 (an c1 (an c1 (an c1 trivial))))))) (by kernel_rfl) ?_
      exact ⟨true, (), h, leS (by kernel_rfl)⟩
  · rintro x7 ⟨⟩ h
    subst hj5
    refine vwp_cond (b := x7) (by kernel_rfl) (fun c2 => ?_) (fun c2 => ?_)
    · have h := bt c2 h
      refine vwp_seq ?_
      refine rg hC [] [3, 30] [(3, vB false)] [(20, some (E.cells [vI 0, vI 0, vI 0, vI 0]))] [] trivial (by kernel_rfl) ?_
      refine vwp_ret ?_
      obtain rfl := so h
      exact endR (by kernel_rfl)
    · have h := bf c2 h
      refine vwp_skip ?_
      refine vwp_seq ?_
      refine rg hC [.nat 21] [6] [(6, V.ref 21 0)] [(21, some (E.cells [vI 0, vI 0, vI 0]))] [(21, true)] trivial (by kernel_rfl) ?_
      refine vwp_seq ?_
      refine vwp_seq ?_
      obtain ⟨x8, hx8, h⟩ := bd h
      refine rg hC [.rows (List.map rS x8), .nat x8.length] [31, 32, 33, 34] [(32, vM rS x8), (33, vI (x8.length : Int)), (34, vI 0)] [] [] (an (sub_mapF rS hx8) (an (rwM (r := rS) 1 (fun _ => rfl) x1) (an (lenM rS x8) trivial))) (by kernel_rfl) ?_
      refine vwp_block ?_
      refine vwp_lm (γ := Unit) h (fun (x_ : Int × Int × Int × Int) (g_ : Unit) => mkS [(0, vS line), (2, V.ref 20 0), (5, vI (wr (1 + x4))), (6, V.ref 21 0), (32, vM rS x8), (33, vI (x8.length : Int)), (34, vI x_.2.2.2)] [(20, E.cells [vI 0, vI 0, vI 0, vI 0]), (21, E.cells [vI x_.1, vI x_.2.1, vI x_.2.2.1])] [20, 21]) () (leS (by kernel_rfl)) ?_
      rintro again13 ⟨x9, x10, x11, x12⟩ ⟨⟩ h
      refine vwp_seq ?_
      refine rg hC [] [35] [(35, vB (decide (x12 < (x8.length : Int))))] [] [] trivial (by kernel_rfl) ?_
      refine vwp_seq ?_
      refine vwp_cond (b := decide (x12 < (x8.length : Int))) (by kernel_rfl) (fun c3 => ?_) (fun c3 => ?_)
      · have h := bt c3 h
        refine vwp_skip ?_
        refine vwp_seq ?_
        refine vwp_block ?_
        refine vwp_seq ?_
        obtain ⟨x14, hx14, h⟩ := bd h
        refine rg hC [.row (rS x14)] [7, 8, 36, 37, 38] [(7, vI x12), (8, vS x14)] [] [] (an (ix_map rS hx14) trivial) (by kernel_rfl) ?_
        refine vwp_seq ?_
        obtain ⟨x15, hx15, h⟩ := bd h
        refine split_b x15.2 (fun c4 => ?_) (fun c4 => ?_)
        · have h := bf c4 h
          refine rg hC [.v (V.tup [vI x15.1, V.t T.nilI])] [9, 10, 39, 40, 41, 42, 43] [(9, vI x15.1), (10, V.t T.nilI)] [] [] (an (G.atoiF x14 x15 hx15 c4) trivial) (by kernel_rfl) ?_
          refine vwp_seq ?_
          refine vwp_seq ?_
          refine rg hC [] [44, 45] [(45, vB false)] [] [] trivial (by kernel_rfl) ?_
          refine vwp_cond (b := false) (by kernel_rfl) (fun hb => absurd (hb.symm.trans (Eq.refl false)) (by decide)) (fun _ => ?_)
          refine vwp_skip ?_
          refine split_b (decide (x12 = 0)) (fun c5 => ?_) (fun c5 => ?_)
          · have h := bf c5 h
            refine split_b (decide (x12 = 1)) (fun c6 => ?_) (fun c6 => ?_)
            · have h := bf c6 h
              refine split_b (decide (x12 = 2)) (fun c7 => ?_) (fun c7 => ?_)
              · have h := bf c7 h
                exact nof h
              · have h := bt c7 h
                refine rg hC [.nat 2] [47, 48, 49] [] [(21, some (E.cells [vI x9, vI x10, vI x15.1]))] [] (an (of_decide_eq_true c7) trivial) (by kernel_rfl) ?_
                refine rg hC [] [34, 50] [(34, vI (wr (x12 + 1)))] [] [] trivial (by kernel_rfl) ?_
                exact ⟨(x9, x10, x15.1, wr (x12 + 1)), (), h, leS (by kernel_rfl)⟩
            · have h := bt c6 h
              refine rg hC [.nat 1] [47, 48, 49] [] [(21, some (E.cells [vI x9, vI x15.1, vI x11]))] [] (an (of_decide_eq_true c6) trivial) (by kernel_rfl) ?_
              refine rg hC [] [34, 50] [(34, vI (wr (x12 + 1)))] [] [] trivial (by kernel_rfl) ?_
              exact ⟨(x9, x15.1, x11, wr (x12 + 1)), (), h, leS (by kernel_rfl)⟩
          · have h := bt c5 h
            refine rg hC [.nat 0] [47, 48, 49] [] [(21, some (E.cells [vI x15.1, vI x10, vI x11]))] [] (an (of_decide_eq_true c5) trivial) (by kernel_rfl) ?_
            refine rg hC [] [34, 50] [(34, vI (wr (x12 + 1)))] [] [] trivial (by kernel_rfl) ?_
            exact ⟨(x15.1, x10, x11, wr (x12 + 1)), (), h, leS (by kernel_rfl)⟩
        · have h := bt c4 h
          refine rg hC [.v (V.tup [vI x15.1, V.t T.err])] [9, 10, 39, 40, 41, 42, 43] [(9, vI x15.1), (10, V.t T.err)] [] [] (an (G.atoiT x14 x15 hx15 c4) trivial) (by kernel_rfl) ?_
          refine vwp_seq ?_
          refine vwp_seq ?_
          refine rg hC [] [44, 45] [(45, vB true)] [] [] trivial (by kernel_rfl) ?_
          refine vwp_cond (b := true) (by kernel_rfl) (fun _ => ?_) (fun hb => absurd (hb.symm.trans (Eq.refl true)) (by decide))
          refine vwp_seq ?_
          refine rg hC [] [3, 46] [(3, vB false)] [(20, some (E.cells [vI 0, vI 0, vI 0, vI 0]))] [] trivial (by kernel_rfl) ?_
          refine vwp_ret ?_
          obtain rfl := so h
          exact endR (by kernel_rfl)
      · have h := bf c3 h
        refine vwp_exit ?_
        refine vwp_seq ?_
        refine rg hC [.nat 0, .nat 1, .nat 2, .nat 22] [11, 51, 52, 53, 54, 55, 56, 57, 58] [(11, V.ref 22 0)] [(22, some (E.cells [vI (wr (1 + x4)), vI x9, vI x10, vI x11]))] [(22, true)] (an (Eq.refl (0 : Int)) (an (Eq.refl (1 : Int)) (an (Eq.refl (2 : Int)) trivial))) (by kernel_rfl) ?_
        obtain ⟨j16, hj16, h⟩ := jn_e h
        refine vwp_jm (γ := Unit) (j := j16) (r := r) (fun (x_ : Bool) (g_ : Unit) => mkS [(2, V.ref 20 0), (3, vB x_)] [(20, E.cells [vI (wr (1 + x4)), vI x9, vI x10, vI x11]), (21, E.cells [vI x9, vI x10, vI x11]), (22, E.cells [vI (wr (1 + x4)), vI x9, vI x10, vI x11])] [20, 21, 22]) ?_ ?_
        ·
          obtain ⟨x17, hx17, h⟩ := bd h
          refine split_b x17 (fun c8 => ?_) (fun c8 => ?_)
          · have h := bf c8 h
            refine rd hC hmix [.v (vB x17), .b false, .b false, .b false, .b false, .b false] [3, 59, 60, 61, 62, 63, 64, 65, 66, 67] [(3, vB false)] [(20, some (E.cells [vI (wr (1 + x4)), vI x9, vI x10, vI x11]))] [] (an (c_i_hasText G n (⟨wr (1 + x4), x9, x10, x11⟩ : Step) hx17) (an c8 (an c8 (an c8 (an c8 (an c8 trivial)))))) (by kernel_rfl) ?_
            exact ⟨false, (), h, leS (by kernel_rfl)⟩
          · have h := bt c8 h
            obtain ⟨x18, hx18, h⟩ := bd h
            refine rd hC hmix [.v (vB x17), .b true, .b true, .v (vS x18), .b true, .b true, .b true] [3, 59, 60, 61, 62, 63, 64, 65, 66, 67] [(3, vB (decide (x18 = line)))] [(20, some (E.cells [vI (wr (1 + x4)), vI x9, vI x10, vI x11]))] [] (an (c_i_hasText G n (⟨wr (1 + x4), x9, x10, x11⟩ : Step) hx17) (an c8 (an c8 (an (c_i_stepText G n (⟨wr (1 + x4), x9, x10, x11⟩ : Step) hx18) (an c8 (an c8 (an c8 trivial))))))) (by kernel_rfl) ?_
            exact ⟨decide (x18 = line), (), h, leS (by kernel_rfl)⟩
        · rintro x19 ⟨⟩ h
          subst hj16
          refine vwp_ret ?_
          obtain rfl := so h
          exact endR (by kernel_rfl)

theorem c_i_ParseSteps (G : GS) (n : Nat) (text : List UInt8) {r : (List Step) × Bool} (h : i_ParseSteps n text = some r) : VCC Tryd.prog G.g 6 [] [vS text] (V.tup [ms 0 1 4 rStep r.1, vB r.2]) [ar 36 1 4 rStep r.1] := by
  unfold i_ParseSteps at h
  refine vmr tyOK Tryd.func6 rfl rfl rfl rfl rfl rfl rfl rfl ?_
  intro w X β0 hC hg
  refine vwp_seq ?_
  refine rg hC [] [2, 3] [] [] [] trivial (by kernel_rfl) ?_
  refine vwp_seq ?_
  obtain ⟨x1, hx1, h⟩ := bd h
  refine rg hC [.v (vM rS x1)] [4, 11, 12] [(4, vM rS x1)] [] [] (an (G.split text [10] x1 hx1) trivial) (by kernel_rfl) ?_
  refine vwp_seq ?_
  refine rg hC [.nat x1.length] [5, 13, 14, 15] [(5, vI (wr ((x1.length : Int) - 1)))] [] [] (an (lenM rS x1) trivial) (by kernel_rfl) ?_
  refine vwp_seq ?_
  obtain ⟨j2, hj2, h⟩ := jn_e h
  refine vwp_jm (γ := Unit) (j := j2) (r := r) (fun (x_ : Bool) (g_ : Unit) => mkS [(4, vM rS x1), (5, vI (wr ((x1.length : Int) - 1))), (24, vB x_)] [] []) ?_ ?_
  ·
    obtain ⟨x3, hx3, h⟩ := bd h
    refine split_b (!decide (x3 = [])) (fun c1 => ?_) (fun c1 => ?_)
    · have h := bf c1 h
      refine rg hC [.row (rS x3), .b false, .b false, .b false] [16, 17, 18, 19, 20, 21, 22, 23, 24] [(24, vB (decide ((12 : Int) < wr ((x1.length : Int) - 1))))] [] [] (an (ix_map rS hx3) (an c1 (an c1 (an c1 trivial)))) (by kernel_rfl) ?_
      exact ⟨decide ((12 : Int) < wr ((x1.length : Int) - 1)), (), h, leS (by kernel_rfl)⟩
    · have h := bt c1 h
      refine rg hC [.row (rS x3), .b true, .b true, .b true] [16, 17, 18, 19, 20, 21, 22, 23, 24] [(24, vB true)] [] [] (an (ix_map rS hx3) (an c1 (an c1 (an c1 trivial)))) (by kernel_rfl) ?_
      exact ⟨true, (), h, leS (by kernel_rfl)⟩
  · rintro x4 ⟨⟩ h
    subst hj2
    refine vwp_cond (b := x4) (by kernel_rfl) (fun c2 => ?_) (fun c2 => ?_)
    · have h := bt c2 h
      refine vwp_seq ?_
      refine rg hC [] [2, 3] [(2, V.t T.nilS), (3, vB false)] [] [] trivial (by kernel_rfl) ?_
      refine vwp_weaken (lp hC [.grow 2 0 36] [2] [(2, ms 0 1 4 rStep [])] [(0, some (ar 36 1 4 rStep []))] [(0, true)] (by kernel_rfl)) ?_
      refine vwp_ret ?_
      obtain rfl := so h
      exact endW (by kernel_rfl)
    · have h := bf c2 h
      refine vwp_skip ?_
      refine vwp_seq ?_
      refine rg hC [] [6] [(6, V.t T.nilS)] [] [] trivial (by kernel_rfl) ?_
      refine vwp_seq ?_
      refine vwp_seq ?_
      obtain ⟨x5, hx5, h⟩ := bd h
      refine rg hC [.rows (List.map rS x5), .nat x5.length] [25, 26, 27, 28, 29] [(27, vM rS x5), (28, vI (x5.length : Int)), (29, vI 0)] [] [] (an (sub_map rS hx5) (an (rwM (r := rS) 1 (fun _ => rfl) x1) (an (lenM rS x5) trivial))) (by kernel_rfl) ?_
      refine vwp_block ?_
      refine vwp_weaken (lp hC [.grow 6 20 36] [6] [(6, ms 20 1 4 rStep [])] [(20, some (ar 36 1 4 rStep []))] [(20, true)] (by kernel_rfl)) ?_
      refine vwp_lm (γ := Nat) h (fun (x_ : (List Step) × Int) (g_ : Nat) => mkS [(6, ms 20 g_ 4 rStep x_.1), (27, vM rS x5), (28, vI (x5.length : Int)), (29, vI x_.2)] [(20, ar 36 g_ 4 rStep x_.1)] [20]) 1 (leS (by kernel_rfl)) ?_
      rintro again9 ⟨x6, x7⟩ g8 h
      refine vwp_seq ?_
      refine rg hC [] [30] [(30, vB (decide (x7 < (x5.length : Int))))] [] [] trivial (by kernel_rfl) ?_
      refine vwp_seq ?_
      refine vwp_cond (b := decide (x7 < (x5.length : Int))) (by kernel_rfl) (fun c3 => ?_) (fun c3 => ?_)
      · have h := bt c3 h
        refine vwp_skip ?_
        refine vwp_seq ?_
        refine vwp_block ?_
        refine vwp_seq ?_
        obtain ⟨x10, hx10, h⟩ := bd h
        refine rg hC [.row (rS x10)] [8, 31, 32] [(8, vS x10)] [] [] (an (ix_map rS hx10) trivial) (by kernel_rfl) ?_
        refine vwp_seq ?_
        obtain ⟨x11, hx11, h⟩ := bd h
        refine rg hC [.v (V.tup [V.agg [vI x11.1.kind, vI x11.1.part, vI x11.1.a, vI x11.1.b], vB x11.2]), .nat 21] [9, 10, 33, 34, 35, 36, 37] [(9, V.ref 21 0), (10, vB x11.2)] [(21, some (E.cells [vI x11.1.kind, vI x11.1.part, vI x11.1.a, vI x11.1.b]))] [(21, true)] (an (c_i_readStep G n x10 hx11) trivial) (by kernel_rfl) ?_
        refine vwp_seq ?_
        refine vwp_seq ?_
        refine rg hC [] [38, 39] [(39, vB (!x11.2))] [] [] trivial (by kernel_rfl) ?_
        refine vwp_cond (b := !x11.2) (by kernel_rfl) (fun c4 => ?_) (fun c4 => ?_)
        · have h := bt c4 h
          refine vwp_seq ?_
          refine rg hC [] [2, 3] [(2, V.t T.nilS), (3, vB false)] [] [] trivial (by kernel_rfl) ?_
          refine vwp_weaken (lp hC [.grow 2 0 36] [2] [(2, ms 0 1 4 rStep [])] [(0, some (ar 36 1 4 rStep []))] [(0, true)] (by kernel_rfl)) ?_
          refine vwp_ret ?_
          obtain rfl := so h
          exact endW (by kernel_rfl)
        · have h := bf c4 h
          refine vwp_skip ?_
          obtain ⟨x12, hx12, h⟩ := bd h
          refine rg hC [.int 0, .rows (List.map rStep x12)] [6, 40, 41, 42, 43] [(6, ms 20 (g8 + 1) 4 rStep x12)] [(20, some (ar 36 (g8 + 1) 4 rStep x12))] [] (an (app_map rStep hx12) (an (rwM (r := rStep) 4 rStep_len x6) (an (rwM (r := rStep) 4 rStep_len [x11.1]) trivial))) (by kernel_rfl) ?_
          refine rg hC [] [29, 44] [(29, vI (wr (x7 + 1)))] [] [] trivial (by kernel_rfl) ?_
          exact ⟨(x12, wr (x7 + 1)), (g8 + 1), h, leS (by kernel_rfl)⟩
      · have h := bf c3 h
        refine vwp_exit ?_
        refine vwp_seq ?_
        refine rg hC [] [2, 3, 45] [(2, ms 20 g8 4 rStep x6), (3, vB true)] [] [] trivial (by kernel_rfl) ?_
        refine vwp_weaken (lp hC [.ren 2 20 0] [2] [(2, ms 0 1 4 rStep x6)] [(0, some (ar 36 1 4 rStep x6)), (20, none)] [(0, true)] (by kernel_rfl)) ?_
        refine vwp_ret ?_
        obtain rfl := so h
        exact endW (by kernel_rfl)

theorem c_s_l14Right (G : GS) (n : Nat) (s : Step) {r : Bool} (h : s_l14Right n s = some r) : PCC Tryd.prog G.g 18 [V.agg [vI s.kind, vI s.part, vI s.a, vI s.b]] (vB r) := by
  unfold s_l14Right at h
  refine pmr tyOK Tryd.func18 rfl rfl rfl rfl rfl rfl rfl ?_
  intro w X hC
  refine vwp_seq ?_
  refine rg hC [.b true] [1, 2] [(1, V.tp [T.int .i64 s.kind, T.int .i64 s.part, T.int .i64 s.a, T.int .i64 s.b])] [] [] trivial (by kernel_rfl) ?_
  refine vwp_seq ?_
  obtain ⟨x1, hx1, h⟩ := bd h
  refine rg hC [.v (vI x1)] [3, 4, 5, 6] [(3, vI x1)] [] [] (an (c_s_l14Fields G n s.kind hx1) trivial) (by kernel_rfl) ?_
  obtain ⟨j2, hj2, h⟩ := jn_e h
  refine vwp_jm (γ := Unit) (j := j2) (r := r) (fun (x_ : Bool) (g_ : Unit) => mkS [(2, vB x_)] [] []) ?_ ?_
  ·
    refine split_b (decide ((1 : Int) ≤ s.kind)) (fun c1 => ?_) (fun c1 => ?_)
    · have h := bf c1 h
      refine rg hC [.b false, .b false, .b false, .b false, .b false, .b false, .b false, .b false, .b false, .b false, .b false, .b false, .b false, .b false, .b false, .b false, .b false, .b false, .b false] [2, 7, 8, 9, 10, 11, 12, 13, 14, 15, 16, 17, 18, 19, 20, 21, 22, 23, 24, 25, 26, 27, 28, 29, 30, 31, 32, 33, 34, 35, 36, 37, 38, 39, 40, 41] [(2, vB false)] [] [] (an c1 (an c1 (an c1 (an c1 (an (Eq.refl false) (an (Eq.refl false) (an (Eq.refl false) (an (Eq.refl false) (an (Eq.refl false) (an (Eq.refl false) (an (Eq.refl false) (an (Eq.refl false) (an (Eq.refl false) (an (Eq.refl false) (an (Eq.refl false) (an (Eq.refl false) (an (Eq.refl false) (an (Eq.refl false) (an (Eq.refl false) trivial))))))))))))))))))) (by kernel_rfl) ?_
      exact ⟨false, (), h, leS (by kernel_rfl)⟩
    · have h := bt c1 h
      refine split_b (decide (s.kind ≤ 11)) (fun c2 => ?_) (fun c2 => ?_)
      · have h := bf c2 h
        refine rg hC [.b true, .b true, .b true, .b true, .b false, .b false, .b false, .b false, .b false, .b false, .b false, .b false, .b false, .b false, .b false, .b false, .b false, .b false, .b false] [2, 7, 8, 9, 10, 11, 12, 13, 14, 15, 16, 17, 18, 19, 20, 21, 22, 23, 24, 25, 26, 27, 28, 29, 30, 31, 32, 33, 34, 35, 36, 37, 38, 39, 40, 41] [(2, vB false)] [] [] (an c1 (an c1 (an c1 (an c1 (an c2 (an c2 (an c2 (an c2 (an c2 (an (Eq.refl false) (an (Eq.refl false) (an (Eq.refl false) (an (Eq.refl false) (an (Eq.refl false) (an (Eq.refl false) (an (Eq.refl false) (an (Eq.refl false) (an (Eq.refl false) (an (Eq.refl false) trivial))))))))))))))))))) (by kernel_rfl) ?_
        exact ⟨false, (), h, leS (by kernel_rfl)⟩
      · have h := bt c2 h
        refine split_b (decide ((0 : Int) < x1)) (fun c3 => ?_) (fun c3 => ?_)
        · have h := bf c3 h
          refine split_b (decide (s.part = 0)) (fun c4 => ?_) (fun c4 => ?_)
          · have h := bf c4 h
            refine rg hC [.b true, .b true, .b true, .b true, .b true, .b true, .b true, .b false, .b false, .b false, .b true, .b false, .b true, .b false, .b false, .b false, .b false, .b false, .b false, .b false, .b false, .b false, .b false] [2, 7, 8, 9, 10, 11, 12, 13, 14, 15, 16, 17, 18, 19, 20, 21, 22, 23, 24, 25, 26, 27, 28, 29, 30, 31, 32, 33, 34, 35, 36, 37, 38, 39, 40, 41] [(2, vB false)] [] [] (an c1 (an c1 (an c1 (an c1 (an c2 (an c2 (an c2 (an c3 (an c3 (an c3 (an c2 (an c3 (an c2 (an c4 (an c4 (an c4 (an c4 (an c4 (an (Eq.refl false) (an (Eq.refl false) (an (Eq.refl false) (an (Eq.refl false) (an (Eq.refl false) trivial))))))))))))))))))))))) (by kernel_rfl) ?_
            exact ⟨false, (), h, leS (by kernel_rfl)⟩
          · have h := bt c4 h
            refine split_b (decide ((1 : Int) < x1)) (fun c5 => ?_) (fun c5 => ?_)
            · have h := bf c5 h
              refine split_b (decide (s.a = 0)) (fun c6 => ?_) (fun c6 => ?_)
              · have h := bf c6 h
                refine rg hC [.b true, .b true, .b true, .b true, .b true, .b true, .b true, .b false, .b false, .b false, .b true, .b false, .b true, .b true, .b true, .b true, .b false, .b false, .b false, .b true, .b false, .b true, .b false, .b false, .b false, .b false, .b false] [2, 7, 8, 9, 10, 11, 12, 13, 14, 15, 16, 17, 18, 19, 20, 21, 22, 23, 24, 25, 26, 27, 28, 29, 30, 31, 32, 33, 34, 35, 36, 37, 38, 39, 40, 41] [(2, vB false)] [] [] (an c1 (an c1 (an c1 (an c1 (an c2 (an c2 (an c2 (an c3 (an c3 (an c3 (an c2 (an c3 (an c2 (an c4 (an c4 (an c4 (an c5 (an c5 (an c5 (an c4 (an c5 (an c4 (an c6 (an c6 (an c6 (an c6 (an c6 trivial))))))))))))))))))))))))))) (by kernel_rfl) ?_
                exact ⟨false, (), h, leS (by kernel_rfl)⟩
              · have h := bt c6 h
                refine split_b (decide ((2 : Int) < x1)) (fun c7 => ?_) (fun c7 => ?_)
                · have h := bf c7 h
                  refine rg hC [.b true, .b true, .b true, .b true, .b true, .b true, .b true, .b false, .b false, .b false, .b true, .b false, .b true, .b true, .b true, .b true, .b false, .b false, .b false, .b true, .b false, .b true, .b true, .b true, .b true, .b false, .b false, .b false, .b true, .b false, .b true] [2, 7, 8, 9, 10, 11, 12, 13, 14, 15, 16, 17, 18, 19, 20, 21, 22, 23, 24, 25, 26, 27, 28, 29, 30, 31, 32, 33, 34, 35, 36, 37, 38, 39, 40, 41] [(2, vB (decide (s.b = 0)))] [] [] (an c1 (an c1 (an c1 (an c1 (an c2 (an c2 (an c2 (an c3 (an c3 (an c3 (an c2 (an c3 (an c2 (an c4 (an c4 (an c4 (an c5 (an c5 (an c5 (an c4 (an c5 (an c4 (an c6 (an c6 (an c6 (an c7 (an c7 (an c7 (an c6 (an c7 (an c6 trivial))))))))))))))))))))))))))))))) (by kernel_rfl) ?_
                  exact ⟨decide (s.b = 0), (), h, leS (by kernel_rfl)⟩
                · have h := bt c7 h
                  refine rg hC [.b true, .b true, .b true, .b true, .b true, .b true, .b true, .b false, .b false, .b false, .b true, .b false, .b true, .b true, .b true, .b true, .b false, .b false, .b false, .b true, .b false, .b true, .b true, .b true, .b true, .b true, .b true, .b true, .b true, .b true, .b true] [2, 7, 8, 9, 10, 11, 12, 13, 14, 15, 16, 17, 18, 19, 20, 21, 22, 23, 24, 25, 26, 27, 28, 29, 30, 31, 32, 33, 34, 35, 36, 37, 38, 39, 40, 41] [(2, vB true)] [] [] (an c1 (an c1 (an c1 (an c1 (an c2 (an c2 (an c2 (an c3 (an c3 (an c3 (an c2 (an c3 (an c2 (an c4 (an c4 (an c4 (an c5 (an c5 (an c5 (an c4 (an c5 (an c4 (an c6 (an c6 (an c6 (an c7 (an c7 (an c7 (an c6 (an c7 (an c6 trivial))))))))))))))))))))))))))))))) (by kernel_rfl) ?_
                  exact ⟨true, (), h, leS (by kernel_rfl)⟩
            · have h := bt c5 h
              refine split_b (decide ((2 : Int) < x1)) (fun c8 => ?_) (fun c8 => ?_)
              · have h := bf c8 h
                refine rg hC [.b true, .b true, .b true, .b true, .b true, .b true, .b true, .b false, .b false, .b false, .b true, .b false, .b true, .b true, .b true, .b true, .b true, .b true, .b true, .b true, .b true, .b true, .b true, .b true, .b true, .b false, .b false, .b false, .b true, .b false, .b true] [2, 7, 8, 9, 10, 11, 12, 13, 14, 15, 16, 17, 18, 19, 20, 21, 22, 23, 24, 25, 26, 27, 28, 29, 30, 31, 32, 33, 34, 35, 36, 37, 38, 39, 40, 41] [(2, vB (decide (s.b = 0)))] [] [] (an c1 (an c1 (an c1 (an c1 (an c2 (an c2 (an c2 (an c3 (an c3 (an c3 (an c2 (an c3 (an c2 (an c4 (an c4 (an c4 (an c5 (an c5 (an c5 (an c4 (an c5 (an c4 (an (Eq.refl true) (an (Eq.refl true) (an (Eq.refl true) (an c8 (an c8 (an c8 (an (Eq.refl true) (an c8 (an (Eq.refl true) trivial))))))))))))))))))))))))))))))) (by kernel_rfl) ?_
                exact ⟨decide (s.b = 0), (), h, leS (by kernel_rfl)⟩
              · have h := bt c8 h
                refine rg hC [.b true, .b true, .b true, .b true, .b true, .b true, .b true, .b false, .b false, .b false, .b true, .b false, .b true, .b true, .b true, .b true, .b true, .b true, .b true, .b true, .b true, .b true, .b true, .b true, .b true, .b true, .b true, .b true, .b true, .b true, .b true] [2, 7, 8, 9, 10, 11, 12, 13, 14, 15, 16, 17, 18, 19, 20, 21, 22, 23, 24, 25, 26, 27, 28, 29, 30, 31, 32, 33, 34, 35, 36, 37, 38, 39, 40, 41] [(2, vB true)] [] [] (an c1 (an c1 (an c1 (an c1 (an c2 (an c2 (an c2 (an c3 (an c3 (an c3 (an c2 (an c3 (an c2 (an c4 (an c4 (an c4 (an c5 (an c5 (an c5 (an c4 (an c5 (an c4 (an (Eq.refl true) (an (Eq.refl true) (an (Eq.refl true) (an c8 (an c8 (an c8 (an (Eq.refl true) (an c8 (an (Eq.refl true) trivial))))))))))))))))))))))))))))))) (by kernel_rfl) ?_
                exact ⟨true, (), h, leS (by kernel_rfl)⟩
        · have h := bt c3 h
          refine split_b (decide ((1 : Int) < x1)) (fun c9 => ?_) (fun c9 => ?_)
          · have h := bf c9 h
            refine split_b (decide (s.a = 0)) (fun c10 => ?_) (fun c10 => ?_)
            · have h := bf c10 h
              refine rg hC [.b true, .b true, .b true, .b true, .b true, .b true, .b true, .b true, .b true, .b true, .b true, .b true, .b true, .b true, .b true, .b true, .b false, .b false, .b false, .b true, .b false, .b true, .b false, .b false, .b false, .b false, .b false] [2, 7, 8, 9, 10, 11, 12, 13, 14, 15, 16, 17, 18, 19, 20, 21, 22, 23, 24, 25, 26, 27, 28, 29, 30, 31, 32, 33, 34, 35, 36, 37, 38, 39, 40, 41] [(2, vB false)] [] [] (an c1 (an c1 (an c1 (an c1 (an c2 (an c2 (an c2 (an c3 (an c3 (an c3 (an c2 (an c3 (an c2 (an (Eq.refl true) (an (Eq.refl true) (an (Eq.refl true) (an c9 (an c9 (an c9 (an (Eq.refl true) (an c9 (an (Eq.refl true) (an c10 (an c10 (an c10 (an c10 (an c10 trivial))))))))))))))))))))))))))) (by kernel_rfl) ?_
              exact ⟨false, (), h, leS (by kernel_rfl)⟩
            · have h := bt c10 h
              refine split_b (decide ((2 : Int) < x1)) (fun c11 => ?_) (fun c11 => ?_)
              · have h := bf c11 h
                refine rg hC [.b true, .b true, .b true, .b true, .b true, .b true, .b true, .b true, .b true, .b true, .b true, .b true, .b true, .b true, .b true, .b true, .b false, .b false, .b false, .b true, .b false, .b true, .b true, .b true, .b true, .b false, .b false, .b false, .b true, .b false, .b true] [2, 7, 8, 9, 10, 11, 12, 13, 14, 15, 16, 17, 18, 19, 20, 21, 22, 23, 24, 25, 26, 27, 28, 29, 30, 31, 32, 33, 34, 35, 36, 37, 38, 39, 40, 41] [(2, vB (decide (s.b = 0)))] [] [] (an c1 (an c1 (an c1 (an c1 (an c2 (an c2 (an c2 (an c3 (an c3 (an c3 (an c2 (an c3 (an c2 (an (Eq.refl true) (an (Eq.refl true) (an (Eq.refl true) (an c9 (an c9 (an c9 (an (Eq.refl true) (an c9 (an (Eq.refl true) (an c10 (an c10 (an c10 (an c11 (an c11 (an c11 (an c10 (an c11 (an c10 trivial))))))))))))))))))))))))))))))) (by kernel_rfl) ?_
                exact ⟨decide (s.b = 0), (), h, leS (by kernel_rfl)⟩
              · have h := bt c11 h
                refine rg hC [.b true, .b true, .b true, .b true, .b true, .b true, .b true, .b true, .b true, .b true, .b true, .b true, .b true, .b true, .b true, .b true, .b false, .b false, .b false, .b true, .b false, .b true, .b true, .b true, .b true, .b true, .b true, .b true, .b true, .b true, .b true] [2, 7, 8, 9, 10, 11, 12, 13, 14, 15, 16, 17, 18, 19, 20, 21, 22, 23, 24, 25, 26, 27, 28, 29, 30, 31, 32, 33, 34, 35, 36, 37, 38, 39, 40, 41] [(2, vB true)] [] [] (an c1 (an c1 (an c1 (an c1 (an c2 (an c2 (an c2 (an c3 (an c3 (an c3 (an c2 (an c3 (an c2 (an (Eq.refl true) (an (Eq.refl true) (an (Eq.refl true) (an c9 (an c9 (an c9 (an (Eq.refl true) (an c9 (an (Eq.refl true) (an c10 (an c10 (an c10 (an c11 (an c11 (an c11 (an c10 (an c11 (an c10 trivial))))))))))))))))))))))))))))))) (by kernel_rfl) ?_
                exact ⟨true, (), h, leS (by kernel_rfl)⟩
          · have h := bt c9 h
            refine split_b (decide ((2 : Int) < x1)) (fun c12 => ?_) (fun c12 => ?_)
            · have h := bf c12 h
              refine rg hC [.b true, .b true, .b true, .b true, .b true, .b true, .b true, .b true, .b true, .b true, .b true, .b true, .b true, .b true, .b true, .b true, .b true, .b true, .b true, .b true, .b true, .b true, .b true, .b true, .b true, .b false, .b false, .b false, .b true, .b false, .b true] [2, 7, 8, 9, 10, 11, 12, 13, 14, 15, 16, 17, 18, 19, 20, 21, 22, 23, 24, 25, 26, 27, 28, 29, 30, 31, 32, 33, 34, 35, 36, 37, 38, 39, 40, 41] [(2, vB (decide (s.b = 0)))] [] [] (an c1 (an c1 (an c1 (an c1 (an c2 (an c2 (an c2 (an c3 (an c3 (an c3 (an c2 (an c3 (an c2 (an (Eq.refl true) (an (Eq.refl true) (an (Eq.refl true) (an c9 (an c9 (an c9 (an (Eq.refl true) (an c9 (an (Eq.refl true) (an (Eq.refl true) (an (Eq.refl true) (an (Eq.refl true) (an c12 (an c12 (an c12 (an (Eq.refl true) (an c12 (an (Eq.refl true) trivial))))))))))))))))))))))))))))))) (by kernel_rfl) ?_
              exact ⟨decide (s.b = 0), (), h, leS (by kernel_rfl)⟩
            · have h := bt c12 h
              refine rg hC [.b true, .b true, .b true, .b true, .b true, .b true, .b true, .b true, .b true, .b true, .b true, .b true, .b true, .b true, .b true, .b true, .b true, .b true, .b true, .b true, .b true, .b true, .b true, .b true, .b true, .b true, .b true, .b true, .b true, .b true, .b true] [2, 7, 8, 9, 10, 11, 12, 13, 14, 15, 16, 17, 18, 19, 20, 21, 22, 23, 24, 25, 26, 27, 28, 29, 30, 31, 32, 33, 34, 35, 36, 37, 38, 39, 40, 41] [(2, vB true)] [] [] (an c1 (an c1 (an c1 (an c1 (an c2 (an c2 (an c2 (an c3 (an c3 (an c3 (an c2 (an c3 (an c2 (an (Eq.refl true) (an (Eq.refl true) (an (Eq.refl true) (an c9 (an c9 (an c9 (an (Eq.refl true) (an c9 (an (Eq.refl true) (an (Eq.refl true) (an (Eq.refl true) (an (Eq.refl true) (an c12 (an c12 (an c12 (an (Eq.refl true) (an c12 (an (Eq.refl true) trivial))))))))))))))))))))))))))))))) (by kernel_rfl) ?_
              exact ⟨true, (), h, leS (by kernel_rfl)⟩
  · rintro x3 ⟨⟩ h
    subst hj2
    refine vwp_ret ?_
    obtain rfl := so h
    exact endR (by kernel_rfl)

theorem c_s_l1Within (G : GS) (n : Nat) (n_a0 : Int) (most : Int) {r : Bool} (h : s_l1Within n n_a0 most = some r) : PCC Tryd.prog G.g 38 [vI n_a0, vI most] (vB r) := by
  unfold s_l1Within at h
  refine pmr tyOK Tryd.func38 rfl rfl rfl rfl rfl rfl rfl ?_
  intro w X hC
  refine vwp_seq ?_
  refine rg hC [] [4] [] [] [] trivial (by kernel_rfl) ?_
  obtain ⟨j1, hj1, h⟩ := jn_e h
  refine vwp_jm (γ := Unit) (j := j1) (r := r) (fun (x_ : Bool) (g_ : Unit) => mkS [(4, vB x_)] [] []) ?_ ?_
  ·
    refine split_b (decide (wr (0 - most) ≤ n_a0)) (fun c1 => ?_) (fun c1 => ?_)
    · have h := bf c1 h
      refine rg hC [.b false, .b false, .b false, .b false] [4, 5, 6, 7, 8, 9, 10, 11, 12, 13] [(4, vB false)] [] [] (an c1 (an c1 (an c1 (an c1 trivial)))) (by kernel_rfl) ?_
      exact ⟨false, (), h, leS (by kernel_rfl)⟩
    · have h := bt c1 h
      refine rg hC [.b true, .b true, .b true, .b true] [4, 5, 6, 7, 8, 9, 10, 11, 12, 13] [(4, vB (decide (n_a0 ≤ most)))] [] [] (an c1 (an c1 (an c1 (an c1 trivial)))) (by kernel_rfl) ?_
      exact ⟨decide (n_a0 ≤ most), (), h, leS (by kernel_rfl)⟩
  · rintro x2 ⟨⟩ h
    subst hj1
    refine vwp_ret ?_
    obtain rfl := so h
    exact endR (by kernel_rfl)

theorem c_s_l14Small (G : GS) (n : Nat) (s : Step) {r : Bool} (h : s_l14Small n s = some r) : PCC Tryd.prog G.g 19 [V.agg [vI s.kind, vI s.part, vI s.a, vI s.b]] (vB r) := by
  unfold s_l14Small at h
  refine pmr tyOK Tryd.func19 rfl rfl rfl rfl rfl rfl rfl ?_
  intro w X hC
  refine vwp_seq ?_
  refine rg hC [.b true] [1, 2] [(1, V.tp [T.int .i64 s.kind, T.int .i64 s.part, T.int .i64 s.a, T.int .i64 s.b])] [] [] trivial (by kernel_rfl) ?_
  obtain ⟨j1, hj1, h⟩ := jn_e h
  refine vwp_jm (γ := Unit) (j := j1) (r := r) (fun (x_ : Bool) (g_ : Unit) => mkS [(2, vB x_)] [] []) ?_ ?_
  ·
    obtain ⟨x2, hx2, h⟩ := bd h
    refine split_b x2 (fun c1 => ?_) (fun c1 => ?_)
    · have h := bf c1 h
      refine rg hC [.v (vB x2), .b false, .b false, .b false, .b false, .b false, .b false, .b false, .b false] [2, 3, 4, 5, 6, 7, 8, 9, 10, 11, 12, 13, 14, 15] [(2, vB false)] [] [] (an (c_s_l1Within G n s.part 99 hx2) (an c1 (an c1 (an c1 (an c1 (an (Eq.refl false) (an (Eq.refl false) (an (Eq.refl false) (an (Eq.refl false) trivial))))))))) (by kernel_rfl) ?_
      exact ⟨false, (), h, leS (by kernel_rfl)⟩
    · have h := bt c1 h
      obtain ⟨x3, hx3, h⟩ := bd h
      refine split_b x3 (fun c2 => ?_) (fun c2 => ?_)
      · have h := bf c2 h
        refine rg hC [.v (vB x2), .b true, .b true, .b true, .v (vB x3), .b true, .b false, .b false, .b false, .b false] [2, 3, 4, 5, 6, 7, 8, 9, 10, 11, 12, 13, 14, 15] [(2, vB false)] [] [] (an (c_s_l1Within G n s.part 99 hx2) (an c1 (an c1 (an c1 (an (c_s_l1Within G n s.a 99 hx3) (an c1 (an c2 (an c2 (an c2 (an c2 trivial)))))))))) (by kernel_rfl) ?_
        exact ⟨false, (), h, leS (by kernel_rfl)⟩
      · have h := bt c2 h
        obtain ⟨x4, hx4, h⟩ := bd h
        refine rg hC [.v (vB x2), .b true, .b true, .b true, .v (vB x3), .b true, .b true, .b true, .b true, .v (vB x4), .b true] [2, 3, 4, 5, 6, 7, 8, 9, 10, 11, 12, 13, 14, 15] [(2, vB x4)] [] [] (an (c_s_l1Within G n s.part 99 hx2) (an c1 (an c1 (an c1 (an (c_s_l1Within G n s.a 99 hx3) (an c1 (an c2 (an c2 (an c2 (an (c_s_l1Within G n s.b 99 hx4) (an c2 trivial))))))))))) (by kernel_rfl) ?_
        exact ⟨x4, (), h, leS (by kernel_rfl)⟩
  · rintro x5 ⟨⟩ h
    subst hj1
    refine vwp_ret ?_
    obtain rfl := so h
    exact endR (by kernel_rfl)

theorem c_s_l14Words (G : GS) (n : Nat)  {r : (List (List UInt8))} (h : s_l14Words n  = some r) : PCC Tryd.prog G.g 20 [] (vM rS r) := by
  unfold s_l14Words at h
  refine pmr tyOK Tryd.func20 rfl rfl rfl rfl rfl rfl rfl ?_
  intro w X hC
  refine vwp_seq ?_
  refine rg hC [] [0] [] [] [] trivial (by kernel_rfl) ?_
  refine vwp_seq ?_
  refine rg hC [.int 0] [0, 1] [(0, vM rS [[], [105, 110, 116, 101, 114, 99, 104, 97, 110, 103, 101], [114, 101, 118, 101, 114, 115, 101], [115, 107, 101, 119], [115, 104, 105, 102, 116], [115, 116, 114, 105, 112], [102, 117, 115, 101], [100, 105, 115, 116, 114, 105, 98, 117, 116, 101], [115, 112, 108, 105, 116], [115, 119, 97, 112], [100, 114, 111, 112], [102, 111, 108, 100]])] [] [] trivial (by kernel_rfl) ?_
  refine vwp_ret ?_
  obtain rfl := so h
  exact endR (by kernel_rfl)

theorem c_s_l16Dec (G : GS) : ∀ (n : Nat) (n_a0 : Int) {r : (List UInt8)} (h : s_l16Dec n n_a0 = some r), PCC Tryd.prog G.g 39 [vI n_a0] (vS r) := by
  intro n
  induction n with
  | zero => intro n_a0 r h; rw [s_l16Dec.eq_def] at h; cases h
  | succ n ih =>
    intro n_a0 r h
    rw [s_l16Dec.eq_def] at h; dsimp only at h
    refine pmr tyOK Tryd.func39 rfl rfl rfl rfl rfl rfl rfl ?_
    intro w X hC
    refine vwp_seq ?_
    refine rg hC [] [2] [] [] [] trivial (by kernel_rfl) ?_
    refine vwp_seq ?_
    refine vwp_seq ?_
    refine rg hC [] [4, 5] [(5, vB (decide (n_a0 < (-9223372036854775807))))] [] [] trivial (by kernel_rfl) ?_
    refine vwp_cond (b := decide (n_a0 < (-9223372036854775807))) (by kernel_rfl) (fun c1 => ?_) (fun c1 => ?_)
    · have h := bt c1 h
      refine vwp_seq ?_
      refine rg hC [] [2] [(2, vS [45, 57, 50, 50, 51, 51, 55, 50, 48, 51, 54, 56, 53, 52, 55, 55, 53, 56, 48, 56])] [] [] trivial (by kernel_rfl) ?_
      refine vwp_ret ?_
      obtain rfl := so h
      exact endR (by kernel_rfl)
    · have h := bf c1 h
      refine vwp_skip ?_
      refine vwp_seq ?_
      refine vwp_seq ?_
      refine rg hC [] [6, 7] [(7, vB (decide (n_a0 < 0)))] [] [] trivial (by kernel_rfl) ?_
      refine vwp_cond (b := decide (n_a0 < 0)) (by kernel_rfl) (fun c2 => ?_) (fun c2 => ?_)
      · have h := bt c2 h
        refine vwp_seq ?_
        obtain ⟨x1, hx1, h⟩ := bd h
        obtain ⟨x2, hx2, h⟩ := bd h
        refine rg hC [.v (vS x1), .str x2] [2, 8, 9, 10, 11] [(2, vS x2)] [] [] (an (ih (wr (0 - n_a0)) hx1) (an hx2 trivial)) (by kernel_rfl) ?_
        refine vwp_ret ?_
        obtain rfl := so h
        exact endR (by kernel_rfl)
      · have h := bf c2 h
        refine vwp_skip ?_
        refine vwp_seq ?_
        refine rg hC [] [3] [(3, vS [])] [] [] trivial (by kernel_rfl) ?_
        refine vwp_seq ?_
        refine vwp_block ?_
        refine vwp_lm (γ := Unit) h (fun (x_ : Int × (List UInt8)) (g_ : Unit) => mkS [(0, vI x_.1), (3, vS x_.2)] [] []) () (leS (by kernel_rfl)) ?_
        rintro again5 ⟨x3, x4⟩ ⟨⟩ h
        refine vwp_seq ?_
        refine vwp_seq ?_
        refine rg hC [] [12, 13] [(13, vB (decide ((9 : Int) < x3)))] [] [] trivial (by kernel_rfl) ?_
        refine vwp_cond (b := decide ((9 : Int) < x3)) (by kernel_rfl) (fun c3 => ?_) (fun c3 => ?_)
        · have h := bt c3 h
          refine vwp_skip ?_
          refine vwp_block ?_
          refine vwp_seq ?_
          obtain ⟨x6, hx6, h⟩ := bd h
          refine rg hC [.y (UInt8.ofInt (wr (48 + (Int.tmod x3 10)))), .int 0, .str [UInt8.ofInt (wr (48 + (Int.tmod x3 10)))], .str x6] [3, 14, 15, 16, 17, 18, 19, 20, 21] [(3, vS x6)] [] [] (an (show (10 : Int) ≠ 0 by decide) (an (Eq.refl (UInt8.ofInt (wr (48 + (Int.tmod x3 10))))) (an (Eq.refl (List.map byteRow [UInt8.ofInt (wr (48 + (Int.tmod x3 10)))])) (an hx6 trivial)))) (by kernel_rfl) ?_
          refine rg hC [] [0, 22, 23] [(0, vI (wr (Int.tdiv x3 10)))] [] [] (an (show (10 : Int) ≠ 0 by decide) trivial) (by kernel_rfl) ?_
          exact ⟨(wr (Int.tdiv x3 10), x6), (), h, leS (by kernel_rfl)⟩
        · have h := bf c3 h
          refine vwp_exit ?_
          refine vwp_seq ?_
          obtain ⟨x7, hx7, h⟩ := bd h
          refine rg hC [.y (UInt8.ofInt (wr (48 + x3))), .int 0, .str [UInt8.ofInt (wr (48 + x3))], .str x7] [2, 24, 25, 26, 27, 28, 29, 30] [(2, vS x7)] [] [] (an (Eq.refl (UInt8.ofInt (wr (48 + x3)))) (an (Eq.refl (List.map byteRow [UInt8.ofInt (wr (48 + x3))])) (an hx7 trivial))) (by kernel_rfl) ?_
          refine vwp_ret ?_
          obtain rfl := so h
          exact endR (by kernel_rfl)

theorem c_s_l14Signed (G : GS) (n : Nat) (n_a0 : Int) {r : (List UInt8)} (h : s_l14Signed n n_a0 = some r) : PCC Tryd.prog G.g 22 [vI n_a0] (vS r) := by
  unfold s_l14Signed at h
  refine pmr tyOK Tryd.func22 rfl rfl rfl rfl rfl rfl rfl ?_
  intro w X hC
  refine vwp_seq ?_
  refine rg hC [] [2] [] [] [] trivial (by kernel_rfl) ?_
  refine vwp_seq ?_
  refine vwp_seq ?_
  refine rg hC [] [3, 4] [(4, vB (decide (n_a0 < 0)))] [] [] trivial (by kernel_rfl) ?_
  refine vwp_cond (b := decide (n_a0 < 0)) (by kernel_rfl) (fun c1 => ?_) (fun c1 => ?_)
  · have h := bt c1 h
    refine vwp_seq ?_
    obtain ⟨x1, hx1, h⟩ := bd h
    obtain ⟨x2, hx2, h⟩ := bd h
    refine rg hC [.v (vS x1), .str x2] [2, 5, 6, 7, 8] [(2, vS x2)] [] [] (an (c_s_l16Dec G n (wr (0 - n_a0)) hx1) (an hx2 trivial)) (by kernel_rfl) ?_
    refine vwp_ret ?_
    obtain rfl := so h
    exact endR (by kernel_rfl)
  · have h := bf c1 h
    refine vwp_skip ?_
    refine vwp_seq ?_
    obtain ⟨x3, hx3, h⟩ := bd h
    refine rg hC [.v (vS x3)] [2, 9, 10] [(2, vS x3)] [] [] (an (c_s_l16Dec G n n_a0 hx3) trivial) (by kernel_rfl) ?_
    refine vwp_ret ?_
    obtain rfl := so h
    exact endR (by kernel_rfl)

theorem c_s_FormatSteps (G : GS) (n : Nat) (list : List Step) {r : (List UInt8)} (h : s_FormatSteps n list = some r) : PCC Tryd.prog G.g 7 [vM rStep list] (vS r) := by
  unfold s_FormatSteps at h
  refine pmr tyOK Tryd.func7 rfl rfl rfl rfl rfl rfl rfl ?_
  intro w X hC
  refine vwp_seq ?_
  refine rg hC [] [2] [] [] [] trivial (by kernel_rfl) ?_
  refine vwp_seq ?_
  refine rg hC [] [3] [(3, vS [])] [] [] trivial (by kernel_rfl) ?_
  refine vwp_seq ?_
  refine vwp_seq ?_
  refine rg hC [] [4] [(4, vI 0)] [] [] trivial (by kernel_rfl) ?_
  refine vwp_block ?_
  refine vwp_lm (γ := Unit) h (fun (x_ : (List UInt8) × Int) (g_ : Unit) => mkS [(0, vM rStep list), (3, vS x_.1), (4, vI x_.2)] [] []) () (leS (by kernel_rfl)) ?_
  rintro again3 ⟨x1, x2⟩ ⟨⟩ h
  refine vwp_seq ?_
  refine vwp_seq ?_
  refine rg hC [.nat list.length] [7, 8, 9, 10] [(10, vB (decide (x2 < (list.length : Int))))] [] [] (an (lenM rStep list) trivial) (by kernel_rfl) ?_
  refine vwp_cond (b := decide (x2 < (list.length : Int))) (by kernel_rfl) (fun c1 => ?_) (fun c1 => ?_)
  · have h := bt c1 h
    refine vwp_skip ?_
    refine vwp_seq ?_
    refine vwp_block ?_
    refine vwp_seq ?_
    obtain ⟨j4, hj4, h⟩ := jn_e h
    refine vwp_jm (γ := Unit) (j := j4) (r := r) (fun (x_ : Bool) (g_ : Unit) => mkS [(0, vM rStep list), (3, vS x1), (4, vI x2), (31, vB x_)] [] []) ?_ ?_
    ·
      obtain ⟨x5, hx5, h⟩ := bd h
      obtain ⟨x6, hx6, h⟩ := bd h
      refine split_b (!x6) (fun c2 => ?_) (fun c2 => ?_)
      · have h := bf c2 h
        obtain ⟨x7, hx7, h⟩ := bd h
        refine split_b (!x7) (fun c3 => ?_) (fun c3 => ?_)
        · have h := bf c3 h
          refine rg hC [.row (rStep x5), .v (vB x6), .b false, .b false, .b false, .row (rStep x5), .b false, .b false, .v (vB x7), .b false, .b false, .b false, .b false, .nat list.length, .b false, .b false] [13, 14, 15, 16, 17, 18, 19, 20, 21, 22, 23, 24, 25, 26, 27, 28, 29, 30, 31] [(31, vB (decide ((12 : Int) < (list.length : Int))))] [] [] (an (ix_map rStep hx5) (an (c_s_l14Right G n x5 hx6) (an c2 (an c2 (an c2 (an (ix_map rStep hx5) (an c2 (an c2 (an (c_s_l14Small G n x5 hx7) (an c2 (an c2 (an c3 (an c3 (an (lenM rStep list) (an c3 (an c3 trivial)))))))))))))))) (by kernel_rfl) ?_
          exact ⟨decide ((12 : Int) < (list.length : Int)), (), h, leS (by kernel_rfl)⟩
        · have h := bt c3 h
          refine rg hC [.row (rStep x5), .v (vB x6), .b false, .b false, .b false, .row (rStep x5), .b false, .b false, .v (vB x7), .b false, .b false, .b true, .b true, .b true, .b true] [13, 14, 15, 16, 17, 18, 19, 20, 21, 22, 23, 24, 25, 26, 27, 28, 29, 30, 31] [(31, vB true)] [] [] (an (ix_map rStep hx5) (an (c_s_l14Right G n x5 hx6) (an c2 (an c2 (an c2 (an (ix_map rStep hx5) (an c2 (an c2 (an (c_s_l14Small G n x5 hx7) (an c2 (an c2 (an c3 (an c3 (an c3 (an c3 trivial))))))))))))))) (by kernel_rfl) ?_
          exact ⟨true, (), h, leS (by kernel_rfl)⟩
      · have h := bt c2 h
        refine rg hC [.row (rStep x5), .v (vB x6), .b true, .b true, .b true, .b true, .b true, .b true, .b true, .b true, .b true, .b true, .b true] [13, 14, 15, 16, 17, 18, 19, 20, 21, 22, 23, 24, 25, 26, 27, 28, 29, 30, 31] [(31, vB true)] [] [] (an (ix_map rStep hx5) (an (c_s_l14Right G n x5 hx6) (an c2 (an c2 (an c2 (an c2 (an c2 (an c2 (an c2 (an (Eq.refl true) (an (Eq.refl true) (an (Eq.refl true) (an (Eq.refl true) trivial))))))))))))) (by kernel_rfl) ?_
        exact ⟨true, (), h, leS (by kernel_rfl)⟩
    · rintro x8 ⟨⟩ h
      subst hj4
      refine vwp_cond (b := x8) (by kernel_rfl) (fun c4 => ?_) (fun c4 => ?_)
      · have h := bt c4 h
        refine vwp_seq ?_
        refine rg hC [] [2] [(2, vS [])] [] [] trivial (by kernel_rfl) ?_
        refine vwp_ret ?_
        obtain rfl := so h
        exact endR (by kernel_rfl)
      · have h := bf c4 h
        refine vwp_skip ?_
        refine vwp_seq ?_
        obtain ⟨x9, hx9, h⟩ := bd h
        refine rd hC hmix [.row (rStep x9), .row (rStep x9), .row (rStep x9), .int 0] [5, 32, 33, 34, 35, 36, 37, 38, 39, 40, 41, 42, 43, 44, 45, 46, 47] [(5, vM rI [x9.part, x9.a, x9.b])] [] [] (an (ix_map rStep hx9) (an (ix_map rStep hx9) (an (ix_map rStep hx9) trivial))) (by kernel_rfl) ?_
        refine vwp_seq ?_
        obtain ⟨x10, hx10, h⟩ := bd h
        obtain ⟨x11, hx11, h⟩ := bd h
        obtain ⟨x12, hx12, h⟩ := bd h
        refine rd hC hmix [.v (vM rS x10), .row (rStep x9), .row (rS x11), .str x12] [3, 48, 49, 50, 51, 52, 53, 54, 55, 56, 57] [(3, vS x12)] [] [] (an (c_s_l14Words G n  hx10) (an (ix_map rStep hx9) (an (ix_map rS hx11) (an hx12 trivial)))) (by kernel_rfl) ?_
        refine vwp_seq ?_
        refine vwp_seq ?_
        refine rg hC [] [6] [(6, vI 0)] [] [] trivial (by kernel_rfl) ?_
        refine vwp_block ?_
        refine vwp_lm (γ := Unit) h (fun (x_ : (List UInt8) × Int) (g_ : Unit) => mkS [(0, vM rStep list), (3, vS x_.1), (4, vI x2), (5, vM rI [x9.part, x9.a, x9.b]), (6, vI x_.2)] [] []) () (leS (by kernel_rfl)) ?_
        rintro again15 ⟨x13, x14⟩ ⟨⟩ h
        refine vwp_seq ?_
        refine vwp_seq ?_
        obtain ⟨x16, hx16, h⟩ := bd h
        refine rg hC [.row (rStep x9), .v (vI x16)] [58, 59, 60, 61, 62, 63, 64, 65] [(65, vB (decide (x14 < x16)))] [] [] (an (ix_map rStep hx9) (an (c_s_l14Fields G n x9.kind hx16) trivial)) (by kernel_rfl) ?_
        refine vwp_cond (b := decide (x14 < x16)) (by kernel_rfl) (fun c5 => ?_) (fun c5 => ?_)
        · have h := bt c5 h
          refine vwp_skip ?_
          refine vwp_seq ?_
          refine vwp_block ?_
          obtain ⟨x17, hx17, h⟩ := bd h
          obtain ⟨x18, hx18, h⟩ := bd h
          obtain ⟨x19, hx19, h⟩ := bd h
          obtain ⟨x20, hx20, h⟩ := bd h
          refine rg hC [.str x17, .row (rI x18), .v (vS x19), .str x20] [3, 68, 69, 70, 71, 72, 73, 74, 75] [(3, vS x20)] [] [] (an hx17 (an (ix_map rI hx18) (an (c_s_l14Signed G n x18 hx19) (an hx20 trivial)))) (by kernel_rfl) ?_
          refine rg hC [] [6, 66, 67] [(6, vI (wr (x14 + 1)))] [] [] trivial (by kernel_rfl) ?_
          exact ⟨(x20, wr (x14 + 1)), (), h, leS (by kernel_rfl)⟩
        · have h := bf c5 h
          refine vwp_exit ?_
          obtain ⟨x21, hx21, h⟩ := bd h
          refine rg hC [.str x21] [3, 76, 77] [(3, vS x21)] [] [] (an hx21 trivial) (by kernel_rfl) ?_
          refine rg hC [] [4, 11, 12] [(4, vI (wr (x2 + 1)))] [] [] trivial (by kernel_rfl) ?_
          exact ⟨(x21, wr (x2 + 1)), (), h, leS (by kernel_rfl)⟩
  · have h := bf c1 h
    refine vwp_exit ?_
    refine vwp_seq ?_
    refine rg hC [] [2, 78] [(2, vS x1)] [] [] trivial (by kernel_rfl) ?_
    refine vwp_ret ?_
    obtain rfl := so h
    exact endR (by kernel_rfl)

theorem c_w_lnSteps (G : GS) (n : Nat) (a : List Step) (b : List Step) {r : Bool} (h : w_lnSteps n a b = some r) : PCC Tryd.prog G.g 8 [vM rStep a, vM rStep b] (vB r) := by
  unfold w_lnSteps at h
  refine pmr tyOK Tryd.func8 rfl rfl rfl rfl rfl rfl rfl ?_
  intro w X hC
  refine vwp_seq ?_
  refine rg hC [] [4] [] [] [] trivial (by kernel_rfl) ?_
  refine vwp_seq ?_
  refine vwp_seq ?_
  refine rg hC [.nat a.length, .nat b.length] [6, 7, 8, 9, 10] [(10, vB (!decide ((a.length : Int) = (b.length : Int))))] [] [] (an (lenM rStep a) (an (lenM rStep b) trivial)) (by kernel_rfl) ?_
  refine vwp_cond (b := !decide ((a.length : Int) = (b.length : Int))) (by kernel_rfl) (fun c1 => ?_) (fun c1 => ?_)
  · have h := bt c1 h
    refine vwp_seq ?_
    refine rg hC [] [4] [(4, vB false)] [] [] trivial (by kernel_rfl) ?_
    refine vwp_ret ?_
    obtain rfl := so h
    exact endR (by kernel_rfl)
  · have h := bf c1 h
    refine vwp_skip ?_
    refine vwp_seq ?_
    refine vwp_seq ?_
    refine rg hC [] [5] [(5, vI 0)] [] [] trivial (by kernel_rfl) ?_
    refine vwp_block ?_
    refine vwp_lm (γ := Unit) h (fun (x_ : Int) (g_ : Unit) => mkS [(0, vM rStep a), (1, vM rStep b), (5, vI x_)] [] []) () (leS (by kernel_rfl)) ?_
    rintro again2 x1 ⟨⟩ h
    refine vwp_seq ?_
    refine vwp_seq ?_
    refine rg hC [.nat a.length] [11, 12, 13, 14] [(14, vB (decide (x1 < (a.length : Int))))] [] [] (an (lenM rStep a) trivial) (by kernel_rfl) ?_
    refine vwp_cond (b := decide (x1 < (a.length : Int))) (by kernel_rfl) (fun c2 => ?_) (fun c2 => ?_)
    · have h := bt c2 h
      refine vwp_skip ?_
      refine vwp_seq ?_
      refine vwp_block ?_
      refine vwp_seq ?_
      obtain ⟨x3, hx3, h⟩ := bd h
      obtain ⟨x4, hx4, h⟩ := bd h
      refine rd hC hmix [.row (rStep x3), .row (rStep x4), .b (decide ([x3.kind, x3.part, x3.a, x3.b] = [x4.kind, x4.part, x4.a, x4.b]))] [17, 18, 19, 20, 21, 22, 23, 24, 25] [(25, vB (!(decide ([x3.kind, x3.part, x3.a, x3.b] = [x4.kind, x4.part, x4.a, x4.b]))))] [] [] (an (ix_map rStep hx3) (an (ix_map rStep hx4) (an se36 (an (Eq.refl (decide ([x3.kind, x3.part, x3.a, x3.b] = [x4.kind, x4.part, x4.a, x4.b]))) trivial)))) (by kernel_rfl) ?_
      refine vwp_cond (b := !(decide ([x3.kind, x3.part, x3.a, x3.b] = [x4.kind, x4.part, x4.a, x4.b]))) (by kernel_rfl) (fun c3 => ?_) (fun c3 => ?_)
      · have h := bt c3 h
        refine vwp_seq ?_
        refine rg hC [] [4] [(4, vB false)] [] [] trivial (by kernel_rfl) ?_
        refine vwp_ret ?_
        obtain rfl := so h
        exact endR (by kernel_rfl)
      · have h := bf c3 h
        refine vwp_skip ?_
        refine rg hC [] [5, 15, 16] [(5, vI (wr (x1 + 1)))] [] [] trivial (by kernel_rfl) ?_
        exact ⟨wr (x1 + 1), (), h, leS (by kernel_rfl)⟩
    · have h := bf c2 h
      refine vwp_exit ?_
      refine vwp_seq ?_
      refine rg hC [] [4] [(4, vB true)] [] [] trivial (by kernel_rfl) ?_
      refine vwp_ret ?_
      obtain rfl := so h
      exact endR (by kernel_rfl)

theorem c_s_l16Rd_of (G : GS) (n : Nat) (r_a0 : L16Rd) (list : List (List UInt8)) {r : (List UInt8) × L16Rd} (h : s_l16Rd_of n r_a0 list = some r) : VCC Tryd.prog G.g 40 [E.cells [vM rY r_a0.b, vI r_a0.p]] [V.ref 0 0, vM rS list] (vS r.1) [E.cells [vM rY r.2.b, vI r.2.p]] := by
  unfold s_l16Rd_of at h
  refine vmr tyOK Tryd.func40 rfl rfl rfl rfl rfl rfl rfl rfl ?_
  intro w X β0 hC hg
  refine vwp_seq ?_
  refine rg hC [] [4] [] [] [] trivial (by kernel_rfl) ?_
  refine vwp_seq ?_
  obtain ⟨x1, hx1, h⟩ := bd h
  obtain ⟨x2, hx2, h⟩ := bd h
  refine rg hC [.nat list.length, .vc [0] [] (vI x1.1) [E.cells [vM rY x1.2.b, vI x1.2.p]], .row (rS x2)] [4, 5, 6, 7, 8, 9, 10, 11] [(4, vS x2)] [(0, some (E.cells [vM rY x1.2.b, vI x1.2.p]))] [(0, true)] (an (lenM rS list) (an (c_s_l16Rd_pick G n r_a0 (list.length : Int) hx1) (an (ix_map rS hx2) trivial))) (by kernel_rfl) ?_
  refine vwp_ret ?_
  obtain rfl := so h
  exact endW (by kernel_rfl)

theorem c_s_l1Bend (G : GS) (n : Nat) (r_a0 : L16Rd) (s : List UInt8) (bits : List (List UInt8)) {r : (List UInt8) × L16Rd} (h : s_l1Bend n r_a0 s bits = some r) : VCC Tryd.prog G.g 23 [E.cells [vM rY r_a0.b, vI r_a0.p]] [V.ref 0 0, vS s, vM rS bits] (vS r.1) [E.cells [vM rY r.2.b, vI r.2.p]] := by
  unfold s_l1Bend at h
  refine vmr tyOK Tryd.func23 rfl rfl rfl rfl rfl rfl rfl rfl ?_
  intro w X β0 hC hg
  refine vwp_seq ?_
  refine rg hC [] [6] [] [] [] trivial (by kernel_rfl) ?_
  refine vwp_seq ?_
  obtain ⟨j1, hj1, h⟩ := jn_e h
  refine vwp_jm (γ := Unit) (j := j1) (r := r) (fun (x_ : (List UInt8) × Int × Bool) (g_ : Unit) => mkS [(0, V.ref 0 0), (1, vS s), (2, vM rS bits), (15, vB x_.2.2)] [(0, E.cells [vM rY x_.1, vI x_.2.1])] [0]) ?_ ?_
  ·
    refine split_b (decide ((s.length : Int) = 0)) (fun c1 => ?_) (fun c1 => ?_)
    · have h := bf c1 h
      obtain ⟨x2, hx2, h⟩ := bd h
      refine rg hC [.b false, .b false, .vc [0] [] (vI x2.1) [E.cells [vM rY x2.2.b, vI x2.2.p]], .b false, .b false] [8, 9, 10, 11, 12, 13, 14, 15] [(15, vB (decide (x2.1 = 0)))] [(0, some (E.cells [vM rY x2.2.b, vI x2.2.p]))] [(0, true)] (an c1 (an c1 (an (c_s_l16Rd_pick G n r_a0 2 hx2) (an c1 (an c1 trivial))))) (by kernel_rfl) ?_
      exact ⟨(x2.2.b, x2.2.p, decide (x2.1 = 0)), (), h, leS (by kernel_rfl)⟩
    · have h := bt c1 h
      refine rg hC [.b true, .b true, .b true, .b true] [8, 9, 10, 11, 12, 13, 14, 15] [(15, vB true)] [] [] (an c1 (an c1 (an c1 (an c1 trivial)))) (by kernel_rfl) ?_
      exact ⟨(r_a0.b, r_a0.p, true), (), h, leS (by kernel_rfl)⟩
  · rintro ⟨x3, x4, x5⟩ ⟨⟩ h
    subst hj1
    refine vwp_cond (b := x5) (by kernel_rfl) (fun c2 => ?_) (fun c2 => ?_)
    · have h := bt c2 h
      refine vwp_seq ?_
      refine rg hC [] [6, 16] [(6, vS s)] [] [] trivial (by kernel_rfl) ?_
      refine vwp_ret ?_
      obtain rfl := so h
      exact endW (by kernel_rfl)
    · have h := bf c2 h
      refine vwp_skip ?_
      refine vwp_seq ?_
      obtain ⟨x6, hx6, h⟩ := bd h
      refine rg hC [.vc [0] [] (vI x6.1) [E.cells [vM rY x6.2.b, vI x6.2.p]]] [7, 17, 18, 19, 20] [(7, vI x6.1)] [(0, some (E.cells [vM rY x6.2.b, vI x6.2.p]))] [(0, true)] (an (c_s_l16Rd_pick G n (⟨x3, x4⟩ : L16Rd) (s.length : Int) hx6) trivial) (by kernel_rfl) ?_
      refine vwp_seq ?_
      obtain ⟨x7, hx7, h⟩ := bd h
      obtain ⟨x8, hx8, h⟩ := bd h
      obtain ⟨x9, hx9, h⟩ := bd h
      obtain ⟨x10, hx10, h⟩ := bd h
      obtain ⟨x11, hx11, h⟩ := bd h
      obtain ⟨x12, hx12, h⟩ := bd h
      refine rd hC hmix [.str x7, .vc [0] [] (vS x8.1) [E.cells [vM rY x8.2.b, vI x8.2.p]], .str x9, .vc [0] [] (vI x10.1) [E.cells [vM rY x10.2.b, vI x10.2.p]], .str x11, .str x12] [6, 21, 22, 23, 24, 25, 26, 27, 28, 29, 30, 31, 32, 33, 34] [(6, vS x12)] [(0, some (E.cells [vM rY x10.2.b, vI x10.2.p]))] [(0, true), (0, true)] (an hx7 (an (c_s_l16Rd_of G n x6.2 bits hx8) (an hx9 (an (c_s_l16Rd_pick G n x8.2 2 hx10) (an hx11 (an hx12 trivial)))))) (by kernel_rfl) ?_
      refine vwp_ret ?_
      obtain rfl := so h
      exact endW (by kernel_rfl)

theorem c_s_DrawParseSteps (G : GS) (n : Nat) (code : List UInt8) {r : (List UInt8)} (h : s_DrawParseSteps n code = some r) : PCC Tryd.prog G.g 9 [vM rY code] (vS r) := by
  unfold s_DrawParseSteps at h
  refine pmr tyOK Tryd.func9 rfl rfl rfl rfl rfl rfl rfl ?_
  intro w X hC
  refine vwp_seq ?_
  refine rg hC [] [2] [] [] [] trivial (by kernel_rfl) ?_
  refine vwp_seq ?_
  obtain ⟨x1, hx1, h⟩ := bd h
  refine rg hC [.vc [] [20] (V.ref 0 0) [E.cells [vM rY x1.b, vI x1.p]]] [3, 6, 7] [(3, V.ref 20 0)] [(20, some (E.cells [vM rY x1.b, vI x1.p]))] [(20, true)] (an (c_s_l16Open G n code hx1) trivial) (by kernel_rfl) ?_
  refine vwp_seq ?_
  refine rg hC [.nat 21] [4, 8] [(4, ms 21 1 4 rStep [])] [(21, some (ar 36 1 4 rStep []))] [(21, true)] trivial (by kernel_rfl) ?_
  refine vwp_seq ?_
  refine vwp_seq ?_
  obtain ⟨x2, hx2, h⟩ := bd h
  refine rg hC [.int 0, .vc [20] [] (vI x2.1) [E.cells [vM rY x2.2.b, vI x2.2.p]]] [5, 9, 10, 11] [(5, vI x2.1)] [(20, some (E.cells [vM rY x2.2.b, vI x2.2.p]))] [(20, true)] (an (c_s_l16Rd_num G n x1 [2, 3, 1, 0] hx2) trivial) (by kernel_rfl) ?_
  refine vwp_block ?_
  refine vwp_lm (γ := Nat) h (fun (x_ : (List UInt8) × Int × (List Step) × Int) (g_ : Nat) => mkS [(3, V.ref 20 0), (4, ms 21 g_ 4 rStep x_.2.2.1), (5, vI x_.2.2.2)] [(20, E.cells [vM rY x_.1, vI x_.2.1]), (21, ar 36 g_ 4 rStep x_.2.2.1)] [20, 21]) 1 (leS (by kernel_rfl)) ?_
  rintro again8 ⟨x3, x4, x5, x6⟩ g7 h
  refine vwp_seq ?_
  refine vwp_seq ?_
  refine rg hC [] [12, 13] [(13, vB (decide ((0 : Int) < x6)))] [] [] trivial (by kernel_rfl) ?_
  refine vwp_cond (b := decide ((0 : Int) < x6)) (by kernel_rfl) (fun c1 => ?_) (fun c1 => ?_)
  · have h := bt c1 h
    refine vwp_skip ?_
    refine vwp_seq ?_
    refine vwp_block ?_
    obtain ⟨x9, hx9, h⟩ := bd h
    obtain ⟨x10, hx10, h⟩ := bd h
    refine rg hC [.vc [20] [] (V.agg [vI x9.1.kind, vI x9.1.part, vI x9.1.a, vI x9.1.b]) [E.cells [vM rY x9.2.b, vI x9.2.p]], .int 0, .rows (List.map rStep x10)] [4, 16, 17, 18, 19, 20] [(4, ms 21 (g7 + 1) 4 rStep x10)] [(20, some (E.cells [vM rY x9.2.b, vI x9.2.p])), (21, some (ar 36 (g7 + 1) 4 rStep x10))] [(20, true)] (an (c_s_l14Step G n (⟨x3, x4⟩ : L16Rd) hx9) (an (app_map rStep hx10) (an (rwM (r := rStep) 4 rStep_len x5) (an (rwM (r := rStep) 4 rStep_len [x9.1]) trivial)))) (by kernel_rfl) ?_
    refine rg hC [] [5, 14, 15] [(5, vI (wr (x6 - 1)))] [] [] trivial (by kernel_rfl) ?_
    exact ⟨(x9.2.b, x9.2.p, x10, wr (x6 - 1)), (g7 + 1), h, leS (by kernel_rfl)⟩
  · have h := bf c1 h
    refine vwp_exit ?_
    refine vwp_seq ?_
    obtain ⟨x11, hx11, h⟩ := bd h
    obtain ⟨x12, hx12, h⟩ := bd h
    refine rg hC [.b true, .v (vS x11), .int 0, .vc [20] [] (vS x12.1) [E.cells [vM rY x12.2.b, vI x12.2.p]]] [2, 21, 22, 23, 24, 25] [(2, vS x12.1)] [(20, some (E.cells [vM rY x12.2.b, vI x12.2.p]))] [(20, true)] (an (c_s_FormatSteps G n x5 hx11) (an (c_s_l1Bend G n (⟨x3, x4⟩ : L16Rd) x11 [[], [32], [10], [48], [45], [102, 111, 108, 100], [120]] hx12) trivial)) (by kernel_rfl) ?_
    refine vwp_ret ?_
    obtain rfl := so h
    exact endR (by kernel_rfl)

theorem c_s_l16Cut (G : GS) (n : Nat) (s : List UInt8) (c : UInt8) {r : (List (List UInt8))} (h : s_l16Cut n s c = some r) : VCC Tryd.prog G.g 24 [] [vS s, vY c] (ms 0 1 1 rS r) [ar 9 1 1 rS r] := by
  unfold s_l16Cut at h
  refine vmr tyOK Tryd.func24 rfl rfl rfl rfl rfl rfl rfl rfl ?_
  intro w X β0 hC hg
  refine vwp_seq ?_
  refine rg hC [] [4] [] [] [] trivial (by kernel_rfl) ?_
  refine vwp_seq ?_
  refine rg hC [.nat 20] [5, 8] [(5, ms 20 1 1 rS [])] [(20, some (ar 9 1 1 rS []))] [(20, true)] trivial (by kernel_rfl) ?_
  refine vwp_seq ?_
  refine rg hC [] [6] [(6, vI 0)] [] [] trivial (by kernel_rfl) ?_
  refine vwp_seq ?_
  refine vwp_seq ?_
  refine rg hC [] [7] [(7, vI 0)] [] [] trivial (by kernel_rfl) ?_
  refine vwp_block ?_
  refine vwp_lm (γ := Nat) h (fun (x_ : (List (List UInt8)) × Int × Int) (g_ : Nat) => mkS [(0, vS s), (1, vY c), (5, ms 20 g_ 1 rS x_.1), (6, vI x_.2.1), (7, vI x_.2.2)] [(20, ar 9 g_ 1 rS x_.1)] [20]) 1 (leS (by kernel_rfl)) ?_
  rintro again5 ⟨x1, x2, x3⟩ g4 h
  refine vwp_seq ?_
  refine vwp_seq ?_
  refine rg hC [] [9, 10, 11, 12] [(12, vB (decide (x3 ≤ (s.length : Int))))] [] [] trivial (by kernel_rfl) ?_
  refine vwp_cond (b := decide (x3 ≤ (s.length : Int))) (by kernel_rfl) (fun c1 => ?_) (fun c1 => ?_)
  · have h := bt c1 h
    refine vwp_skip ?_
    obtain ⟨j6, hj6, h⟩ := jn_e h
    refine vwp_jm (γ := Nat) (j := j6) (r := r) (fun (x_ : (List (List UInt8)) × Int) (g_ : Nat) => mkS [(0, vS s), (1, vY c), (5, ms 20 g_ 1 rS x_.1), (6, vI x_.2), (7, vI x3)] [(20, ar 9 g_ 1 rS x_.1)] [20]) ?_ ?_
    ·
      refine vwp_block ?_
      obtain ⟨j7, hj7, h⟩ := jn_e h
      refine vwp_jm (γ := Unit) (j := j7) (r := r) (fun (x_ : Bool) (g_ : Unit) => mkS [(0, vS s), (1, vY c), (5, ms 20 g4 1 rS x1), (6, vI x2), (7, vI x3), (25, vB x_)] [(20, ar 9 g4 1 rS x1)] [20]) ?_ ?_
      ·
        refine split_b (decide (x3 = (s.length : Int))) (fun c2 => ?_) (fun c2 => ?_)
        · have h := bf c2 h
          obtain ⟨x8, hx8, h⟩ := bd h
          refine rg hC [.b false, .b false, .b false, .y x8, .b false, .b false, .b false] [15, 16, 17, 18, 19, 20, 21, 22, 23, 24, 25] [(25, vB (decide ((x8.toNat : Int) = (c.toNat : Int))))] [] [] (an c2 (an c2 (an c2 (an hx8 (an c2 (an c2 (an c2 trivial))))))) (by kernel_rfl) ?_
          exact ⟨decide ((x8.toNat : Int) = (c.toNat : Int)), (), h, leS (by kernel_rfl)⟩
        · have h := bt c2 h
          refine rg hC [.b true, .b true, .b true, .b true, .b true, .b true] [15, 16, 17, 18, 19, 20, 21, 22, 23, 24, 25] [(25, vB true)] [] [] (an c2 (an c2 (an c2 (an c2 (an c2 (an c2 trivial)))))) (by kernel_rfl) ?_
          exact ⟨true, (), h, leS (by kernel_rfl)⟩
      · rintro x9 ⟨⟩ h
        subst hj7
        refine vwp_cond (b := x9) (by kernel_rfl) (fun c3 => ?_) (fun c3 => ?_)
        · have h := bt c3 h
          refine vwp_seq ?_
          obtain ⟨x10, hx10, h⟩ := bd h
          obtain ⟨x11, hx11, h⟩ := bd h
          refine rg hC [.str x10, .int 0, .rows (List.map rS x11)] [5, 26, 27, 28, 29, 30, 31, 32] [(5, ms 20 (g4 + 1) 1 rS x11)] [(20, some (ar 9 (g4 + 1) 1 rS x11))] [] (an hx10 (an (app_map rS hx11) (an (rwM (r := rS) 1 (fun _ => rfl) x1) (an (rwM (r := rS) 1 (fun _ => rfl) [x10]) trivial)))) (by kernel_rfl) ?_
          refine rg hC [] [6, 33, 34] [(6, vI (wr (x3 + 1)))] [] [] trivial (by kernel_rfl) ?_
          exact ⟨(x11, wr (x3 + 1)), (g4 + 1), h, leS (by kernel_rfl)⟩
        · have h := bf c3 h
          refine vwp_skip ?_
          exact ⟨(x1, x2), g4, h, leS (by kernel_rfl)⟩
    · rintro ⟨x12, x13⟩ g14 h
      subst hj6
      refine rg hC [] [7, 13, 14] [(7, vI (wr (x3 + 1)))] [] [] trivial (by kernel_rfl) ?_
      exact ⟨(x12, x13, wr (x3 + 1)), g14, h, leS (by kernel_rfl)⟩
  · have h := bf c1 h
    refine vwp_exit ?_
    refine vwp_seq ?_
    refine rg hC [] [4, 35] [(4, ms 20 g4 1 rS x1)] [] [] trivial (by kernel_rfl) ?_
    refine vwp_weaken (lp hC [.ren 4 20 0] [4] [(4, ms 0 1 1 rS x1)] [(0, some (ar 9 1 1 rS x1)), (20, none)] [(0, true)] (by kernel_rfl)) ?_
    refine vwp_ret ?_
    obtain rfl := so h
    exact endW (by kernel_rfl)

theorem c_s_l16Words (G : GS) (n : Nat) (s : List UInt8) {r : (List (List UInt8))} (h : s_l16Words n s = some r) : VCC Tryd.prog G.g 41 [] [vS s] (ms 0 1 1 rS r) [ar 9 1 1 rS r] := by
  unfold s_l16Words at h
  refine vmr tyOK Tryd.func41 rfl rfl rfl rfl rfl rfl rfl rfl ?_
  intro w X β0 hC hg
  refine vwp_seq ?_
  refine rg hC [] [2] [] [] [] trivial (by kernel_rfl) ?_
  refine vwp_seq ?_
  obtain ⟨x1, hx1, h⟩ := bd h
  refine rg hC [.vc [] [20] (ms 0 1 1 rS x1) [ar 9 1 1 rS x1]] [3, 6, 7] [(3, ms 20 1 1 rS x1)] [(20, some (ar 9 1 1 rS x1))] [(20, true)] (an (c_s_l16Cut G n s (32 : UInt8) hx1) trivial) (by kernel_rfl) ?_
  refine vwp_seq ?_
  refine rg hC [.nat 21] [4, 8] [(4, ms 21 1 1 rS [])] [(21, some (ar 9 1 1 rS []))] [(21, true)] trivial (by kernel_rfl) ?_
  refine vwp_seq ?_
  refine vwp_seq ?_
  refine rg hC [] [5] [(5, vI 0)] [] [] trivial (by kernel_rfl) ?_
  refine vwp_block ?_
  refine vwp_lm (γ := Nat) h (fun (x_ : (List (List UInt8)) × Int) (g_ : Nat) => mkS [(3, ms 20 1 1 rS x1), (4, ms 21 g_ 1 rS x_.1), (5, vI x_.2)] [(20, ar 9 1 1 rS x1), (21, ar 9 g_ 1 rS x_.1)] [20, 21]) 1 (leS (by kernel_rfl)) ?_
  rintro again5 ⟨x2, x3⟩ g4 h
  refine vwp_seq ?_
  refine vwp_seq ?_
  refine rg hC [.nat x1.length] [9, 10, 11, 12] [(12, vB (decide (x3 < (x1.length : Int))))] [] [] (an (lenM rS x1) trivial) (by kernel_rfl) ?_
  refine vwp_cond (b := decide (x3 < (x1.length : Int))) (by kernel_rfl) (fun c1 => ?_) (fun c1 => ?_)
  · have h := bt c1 h
    refine vwp_skip ?_
    obtain ⟨j6, hj6, h⟩ := jn_e h
    refine vwp_jm (γ := Nat) (j := j6) (r := r) (fun (x_ : (List (List UInt8))) (g_ : Nat) => mkS [(3, ms 20 1 1 rS x1), (4, ms 21 g_ 1 rS x_), (5, vI x3)] [(20, ar 9 1 1 rS x1), (21, ar 9 g_ 1 rS x_)] [20, 21]) ?_ ?_
    ·
      refine vwp_block ?_
      refine vwp_seq ?_
      obtain ⟨x7, hx7, h⟩ := bd h
      refine rg hC [.row (rS x7)] [15, 16, 17, 18, 19] [(19, vB (!decide (x7 = [])))] [] [] (an (ixn rS hx7) (an (ixr rS hx7) trivial)) (by kernel_rfl) ?_
      refine vwp_cond (b := !decide (x7 = [])) (by kernel_rfl) (fun c2 => ?_) (fun c2 => ?_)
      · have h := bt c2 h
        obtain ⟨x8, hx8, h⟩ := bd h
        refine rg hC [.row (rS x7), .int 0, .rows (List.map rS x8)] [4, 20, 21, 22, 23, 24, 25, 26] [(4, ms 21 (g4 + 1) 1 rS x8)] [(21, some (ar 9 (g4 + 1) 1 rS x8))] [] (an (ixn rS hx7) (an (ixr rS hx7) (an (app_map rS hx8) (an (rwM (r := rS) 1 (fun _ => rfl) x2) (an (rwM (r := rS) 1 (fun _ => rfl) [x7]) trivial))))) (by kernel_rfl) ?_
        exact ⟨x8, (g4 + 1), h, leS (by kernel_rfl)⟩
      · have h := bf c2 h
        refine vwp_skip ?_
        exact ⟨x2, g4, h, leS (by kernel_rfl)⟩
    · rintro x9 g10 h
      subst hj6
      refine rg hC [] [5, 13, 14] [(5, vI (wr (x3 + 1)))] [] [] trivial (by kernel_rfl) ?_
      exact ⟨(x9, wr (x3 + 1)), g10, h, leS (by kernel_rfl)⟩
  · have h := bf c1 h
    refine vwp_exit ?_
    refine vwp_seq ?_
    refine rg hC [] [2, 27] [(2, ms 21 g4 1 rS x2)] [] [] trivial (by kernel_rfl) ?_
    refine vwp_weaken (lp hC [.ren 2 21 0] [2] [(2, ms 0 1 1 rS x2)] [(0, some (ar 9 1 1 rS x2)), (21, none)] [(0, true)] (by kernel_rfl)) ?_
    refine vwp_ret ?_
    obtain rfl := so h
    exact endW (by kernel_rfl)

theorem c_s_l16Num (G : GS) (n : Nat) (s : List UInt8) {r : Int × Bool} (h : s_l16Num n s = some r) : PCC Tryd.prog G.g 52 [vS s] (V.tup [vI r.1, vB r.2]) := by
  unfold s_l16Num at h
  refine pmr tyOK Tryd.func52 rfl rfl rfl rfl rfl rfl rfl ?_
  intro w X hC
  refine vwp_seq ?_
  refine rg hC [] [2, 3] [] [] [] trivial (by kernel_rfl) ?_
  obtain ⟨j1, hj1, h⟩ := jn_e h
  refine vwp_jm (γ := Unit) (j := j1) (r := r) (fun (x_ : Bool) (g_ : Unit) => mkS [(0, vS s), (4, vB x_)] [] []) ?_ ?_
  ·
    refine split_b (decide ((0 : Int) < (s.length : Int))) (fun c1 => ?_) (fun c1 => ?_)
    · have h := bf c1 h
      refine rg hC [.b false, .b false, .b false, .b false] [4, 7, 8, 9, 10, 11, 12, 13, 14] [(4, vB false)] [] [] (an c1 (an c1 (an c1 (an c1 trivial)))) (by kernel_rfl) ?_
      exact ⟨false, (), h, leS (by kernel_rfl)⟩
    · have h := bt c1 h
      obtain ⟨x2, hx2, h⟩ := bd h
      refine rg hC [.b true, .b true, .y x2, .b true, .b true] [4, 7, 8, 9, 10, 11, 12, 13, 14] [(4, vB (decide ((x2.toNat : Int) = 45)))] [] [] (an c1 (an c1 (an hx2 (an c1 (an c1 trivial))))) (by kernel_rfl) ?_
      exact ⟨decide ((x2.toNat : Int) = 45), (), h, leS (by kernel_rfl)⟩
  · rintro x3 ⟨⟩ h
    subst hj1
    obtain ⟨j4, hj4, h⟩ := jn_e h
    refine vwp_jm (γ := Unit) (j := j4) (r := r) (fun (x_ : (List UInt8)) (g_ : Unit) => mkS [(0, vS x_), (4, vB x3)] [] []) ?_ ?_
    ·
      refine vwp_seq ?_
      refine rg hC [] [15] [(15, vB x3)] [] [] trivial (by kernel_rfl) ?_
      refine vwp_cond (b := x3) (by kernel_rfl) (fun c2 => ?_) (fun c2 => ?_)
      · have h := bt c2 h
        obtain ⟨x5, hx5, h⟩ := bd h
        refine rg hC [.str x5] [0, 16, 17] [(0, vS x5)] [] [] (an hx5 trivial) (by kernel_rfl) ?_
        exact ⟨x5, (), h, leS (by kernel_rfl)⟩
      · have h := bf c2 h
        refine vwp_skip ?_
        exact ⟨s, (), h, leS (by kernel_rfl)⟩
    · rintro x6 ⟨⟩ h
      subst hj4
      refine vwp_seq ?_
      obtain ⟨j7, hj7, h⟩ := jn_e h
      refine vwp_jm (γ := Unit) (j := j7) (r := r) (fun (x_ : Bool) (g_ : Unit) => mkS [(0, vS x6), (4, vB x3), (38, vB x_)] [] []) ?_ ?_
      ·
        refine split_b (decide ((x6.length : Int) = 0)) (fun c3 => ?_) (fun c3 => ?_)
        · have h := bf c3 h
          refine split_b (decide ((17 : Int) < (x6.length : Int))) (fun c4 => ?_) (fun c4 => ?_)
          · have h := bf c4 h
            obtain ⟨x8, hx8, h⟩ := bd h
            refine split_b (decide ((x8.toNat : Int) = 48)) (fun c5 => ?_) (fun c5 => ?_)
            · have h := bf c5 h
              refine rg hC [.b false, .b false, .b false, .b false, .b false, .b false, .y x8, .b false, .b false, .b false, .b false, .b false, .b false, .b false, .b false, .b false, .b false] [18, 19, 20, 21, 22, 23, 24, 25, 26, 27, 28, 29, 30, 31, 32, 33, 34, 35, 36, 37, 38] [(38, vB false)] [] [] (an c3 (an c3 (an c3 (an c3 (an c4 (an c4 (an hx8 (an c4 (an c4 (an c5 (an c5 (an c5 (an c5 (an c5 (an c4 (an c5 (an c4 trivial))))))))))))))))) (by kernel_rfl) ?_
              exact ⟨false, (), h, leS (by kernel_rfl)⟩
            · have h := bt c5 h
              refine split_b (decide ((1 : Int) < (x6.length : Int))) (fun c6 => ?_) (fun c6 => ?_)
              · have h := bf c6 h
                refine rg hC [.b false, .b false, .b false, .b false, .b false, .b false, .y x8, .b false, .b false, .b true, .b true, .b true, .b true, .b false, .b true, .b false, .b false, .b true, .b false] [18, 19, 20, 21, 22, 23, 24, 25, 26, 27, 28, 29, 30, 31, 32, 33, 34, 35, 36, 37, 38] [(38, vB x3)] [] [] (an c3 (an c3 (an c3 (an c3 (an c4 (an c4 (an hx8 (an c4 (an c4 (an c5 (an c5 (an c5 (an c5 (an c6 (an c5 (an c6 (an c4 (an c5 (an c4 trivial))))))))))))))))))) (by kernel_rfl) ?_
                exact ⟨x3, (), h, leS (by kernel_rfl)⟩
              · have h := bt c6 h
                refine rg hC [.b false, .b false, .b false, .b false, .b false, .b false, .y x8, .b false, .b false, .b true, .b true, .b true, .b true, .b true, .b true, .b true, .b false, .b true, .b false] [18, 19, 20, 21, 22, 23, 24, 25, 26, 27, 28, 29, 30, 31, 32, 33, 34, 35, 36, 37, 38] [(38, vB true)] [] [] (an c3 (an c3 (an c3 (an c3 (an c4 (an c4 (an hx8 (an c4 (an c4 (an c5 (an c5 (an c5 (an c5 (an c6 (an c5 (an c6 (an c4 (an c5 (an c4 trivial))))))))))))))))))) (by kernel_rfl) ?_
                exact ⟨true, (), h, leS (by kernel_rfl)⟩
          · have h := bt c4 h
            refine rg hC [.b false, .b false, .b false, .b false, .b true, .b true, .b true, .b true, .b true, .b true] [18, 19, 20, 21, 22, 23, 24, 25, 26, 27, 28, 29, 30, 31, 32, 33, 34, 35, 36, 37, 38] [(38, vB true)] [] [] (an c3 (an c3 (an c3 (an c3 (an c4 (an c4 (an c4 (an c4 (an c4 (an c4 trivial)))))))))) (by kernel_rfl) ?_
            exact ⟨true, (), h, leS (by kernel_rfl)⟩
        · have h := bt c3 h
          refine rg hC [.b true, .b true, .b true, .b true, .b true, .b true, .b true, .b true, .b true, .b true] [18, 19, 20, 21, 22, 23, 24, 25, 26, 27, 28, 29, 30, 31, 32, 33, 34, 35, 36, 37, 38] [(38, vB true)] [] [] (an c3 (an c3 (an c3 (an c3 (an (Eq.refl true) (an (Eq.refl true) (an (Eq.refl true) (an (Eq.refl true) (an (Eq.refl true) (an (Eq.refl true) trivial)))))))))) (by kernel_rfl) ?_
          exact ⟨true, (), h, leS (by kernel_rfl)⟩
      · rintro x9 ⟨⟩ h
        subst hj7
        refine vwp_cond (b := x9) (by kernel_rfl) (fun c7 => ?_) (fun c7 => ?_)
        · have h := bt c7 h
          refine vwp_seq ?_
          refine rg hC [] [2, 3] [(2, vI 0), (3, vB false)] [] [] trivial (by kernel_rfl) ?_
          refine vwp_ret ?_
          obtain rfl := so h
          exact endR (by kernel_rfl)
        · have h := bf c7 h
          refine vwp_skip ?_
          refine vwp_seq ?_
          refine rg hC [] [5] [(5, vI 0)] [] [] trivial (by kernel_rfl) ?_
          refine vwp_seq ?_
          refine vwp_seq ?_
          refine rg hC [] [6] [(6, vI 0)] [] [] trivial (by kernel_rfl) ?_
          refine vwp_block ?_
          refine vwp_lm (γ := Unit) h (fun (x_ : Int × Int) (g_ : Unit) => mkS [(0, vS x6), (4, vB x3), (5, vI x_.1), (6, vI x_.2)] [] []) () (leS (by kernel_rfl)) ?_
          rintro again12 ⟨x10, x11⟩ ⟨⟩ h
          refine vwp_seq ?_
          refine vwp_seq ?_
          refine rg hC [] [39, 40, 41, 42] [(42, vB (decide (x11 < (x6.length : Int))))] [] [] trivial (by kernel_rfl) ?_
          refine vwp_cond (b := decide (x11 < (x6.length : Int))) (by kernel_rfl) (fun c8 => ?_) (fun c8 => ?_)
          · have h := bt c8 h
            refine vwp_skip ?_
            refine vwp_seq ?_
            refine vwp_block ?_
            refine vwp_seq ?_
            obtain ⟨j13, hj13, h⟩ := jn_e h
            refine vwp_jm (γ := Unit) (j := j13) (r := r) (fun (x_ : Bool) (g_ : Unit) => mkS [(0, vS x6), (4, vB x3), (5, vI x10), (6, vI x11), (54, vB x_)] [] []) ?_ ?_
            ·
              obtain ⟨x14, hx14, h⟩ := bd h
              refine split_b (decide ((x14.toNat : Int) < 48)) (fun c9 => ?_) (fun c9 => ?_)
              · have h := bf c9 h
                refine rg hC [.y x14, .b false, .b false, .b false, .y x14, .b false, .b false] [45, 46, 47, 48, 49, 50, 51, 52, 53, 54] [(54, vB (decide ((57 : Int) < (x14.toNat : Int))))] [] [] (an hx14 (an c9 (an c9 (an c9 (an hx14 (an c9 (an c9 trivial))))))) (by kernel_rfl) ?_
                exact ⟨decide ((57 : Int) < (x14.toNat : Int)), (), h, leS (by kernel_rfl)⟩
              · have h := bt c9 h
                refine rg hC [.y x14, .b true, .b true, .b true, .b true, .b true] [45, 46, 47, 48, 49, 50, 51, 52, 53, 54] [(54, vB true)] [] [] (an hx14 (an c9 (an c9 (an c9 (an c9 (an c9 trivial)))))) (by kernel_rfl) ?_
                exact ⟨true, (), h, leS (by kernel_rfl)⟩
            · rintro x15 ⟨⟩ h
              subst hj13
              refine vwp_cond (b := x15) (by kernel_rfl) (fun c10 => ?_) (fun c10 => ?_)
              · have h := bt c10 h
                refine vwp_seq ?_
                refine rg hC [] [2, 3] [(2, vI 0), (3, vB false)] [] [] trivial (by kernel_rfl) ?_
                refine vwp_ret ?_
                obtain rfl := so h
                exact endR (by kernel_rfl)
              · have h := bf c10 h
                refine vwp_skip ?_
                obtain ⟨x16, hx16, h⟩ := bd h
                refine rg hC [.y x16, .int ((x16 - (48 : UInt8)).toNat : Int)] [5, 55, 56, 57, 58, 59, 60, 61, 62] [(5, vI (wr ((wr (x10 * 10)) + ((x16 - (48 : UInt8)).toNat : Int))))] [] [] (an hx16 (an (cvu (u8_sub x16 (48 : UInt8))) trivial)) (by kernel_rfl) ?_
                refine rg hC [] [6, 43, 44] [(6, vI (wr (x11 + 1)))] [] [] trivial (by kernel_rfl) ?_
                exact ⟨(wr ((wr (x10 * 10)) + ((x16 - (48 : UInt8)).toNat : Int)), wr (x11 + 1)), (), h, leS (by kernel_rfl)⟩
          · have h := bf c8 h
            refine vwp_exit ?_
            obtain ⟨j17, hj17, h⟩ := jn_e h
            refine vwp_jm (γ := Unit) (j := j17) (r := r) (fun (x_ : Int) (g_ : Unit) => mkS [(5, vI x_)] [] []) ?_ ?_
            ·
              refine vwp_seq ?_
              refine rg hC [] [63] [(63, vB x3)] [] [] trivial (by kernel_rfl) ?_
              refine vwp_cond (b := x3) (by kernel_rfl) (fun c11 => ?_) (fun c11 => ?_)
              · have h := bt c11 h
                refine rg hC [] [5, 64, 65] [(5, vI (wr (0 - x10)))] [] [] trivial (by kernel_rfl) ?_
                exact ⟨wr (0 - x10), (), h, leS (by kernel_rfl)⟩
              · have h := bf c11 h
                refine vwp_skip ?_
                exact ⟨x10, (), h, leS (by kernel_rfl)⟩
            · rintro x18 ⟨⟩ h
              subst hj17
              refine vwp_seq ?_
              refine rg hC [] [2, 3, 66] [(2, vI x18), (3, vB true)] [] [] trivial (by kernel_rfl) ?_
              refine vwp_ret ?_
              obtain rfl := so h
              exact endR (by kernel_rfl)

theorem c_s_l14Number (G : GS) (n : Nat) (w_a0 : List UInt8) {r : Int} (h : s_l14Number n w_a0 = some r) : PCC Tryd.prog G.g 42 [vS w_a0] (vI r) := by
  unfold s_l14Number at h
  refine pmr tyOK Tryd.func42 rfl rfl rfl rfl rfl rfl rfl ?_
  intro w X hC
  refine vwp_seq ?_
  refine rg hC [] [2] [] [] [] trivial (by kernel_rfl) ?_
  refine vwp_seq ?_
  obtain ⟨j1, hj1, h⟩ := jn_e h
  refine vwp_jm (γ := Unit) (j := j1) (r := r) (fun (x_ : Bool) (g_ : Unit) => mkS [(0, vS w_a0), (14, vB x_)] [] []) ?_ ?_
  ·
    refine split_b (decide ((1 : Int) < (w_a0.length : Int))) (fun c1 => ?_) (fun c1 => ?_)
    · have h := bf c1 h
      refine rg hC [.b false, .b false, .b false, .b false] [7, 8, 9, 10, 11, 12, 13, 14] [(14, vB false)] [] [] (an c1 (an c1 (an c1 (an c1 trivial)))) (by kernel_rfl) ?_
      exact ⟨false, (), h, leS (by kernel_rfl)⟩
    · have h := bt c1 h
      obtain ⟨x2, hx2, h⟩ := bd h
      refine rg hC [.b true, .b true, .y x2, .b true, .b true] [7, 8, 9, 10, 11, 12, 13, 14] [(14, vB (decide ((x2.toNat : Int) = 45)))] [] [] (an c1 (an c1 (an hx2 (an c1 (an c1 trivial))))) (by kernel_rfl) ?_
      exact ⟨decide ((x2.toNat : Int) = 45), (), h, leS (by kernel_rfl)⟩
  · rintro x3 ⟨⟩ h
    subst hj1
    refine vwp_cond (b := x3) (by kernel_rfl) (fun c2 => ?_) (fun c2 => ?_)
    · have h := bt c2 h
      refine vwp_seq ?_
      obtain ⟨x4, hx4, h⟩ := bd h
      obtain ⟨x5, hx5, h⟩ := bd h
      refine rg hC [.str x4, .v (V.tup [vI x5.1, vB x5.2])] [3, 4, 15, 16, 17, 18, 19, 20] [(3, vI x5.1)] [] [] (an hx4 (an (c_s_l16Num G n x4 hx5) trivial)) (by kernel_rfl) ?_
      refine vwp_seq ?_
      refine rg hC [] [2, 21, 22] [(2, vI (wr (0 - x5.1)))] [] [] trivial (by kernel_rfl) ?_
      refine vwp_ret ?_
      obtain rfl := so h
      exact endR (by kernel_rfl)
    · have h := bf c2 h
      refine vwp_skip ?_
      refine vwp_seq ?_
      obtain ⟨x6, hx6, h⟩ := bd h
      refine rg hC [.v (V.tup [vI x6.1, vB x6.2])] [5, 6, 23, 24, 25, 26, 27] [(5, vI x6.1)] [] [] (an (c_s_l16Num G n w_a0 hx6) trivial) (by kernel_rfl) ?_
      refine vwp_seq ?_
      refine rg hC [] [2, 28] [(2, vI x6.1)] [] [] trivial (by kernel_rfl) ?_
      refine vwp_ret ?_
      obtain rfl := so h
      exact endR (by kernel_rfl)

theorem c_s_l14Line (G : GS) (n : Nat) (line : List UInt8) {r : Step} (h : s_l14Line n line = some r) : PCC Tryd.prog G.g 25 [vS line] (V.agg [vI r.kind, vI r.part, vI r.a, vI r.b]) := by
  unfold s_l14Line at h
  refine pmr tyOK Tryd.func25 rfl rfl rfl rfl rfl rfl rfl ?_
  intro w X hC
  refine vwp_seq ?_
  refine rg hC [.nat 20] [2] [(2, V.ref 20 0)] [(20, some (E.cells [vI 0, vI 0, vI 0, vI 0]))] [(20, true)] trivial (by kernel_rfl) ?_
  refine vwp_seq ?_
  obtain ⟨x1, hx1, h⟩ := bd h
  obtain ⟨x2, hx2, h⟩ := bd h
  refine rg hC [.vc [] [21] (ms 0 1 1 rS x1) [ar 9 1 1 rS x1], .int 0, .rows (List.map rS x2)] [3, 8, 9, 10, 11] [(3, ms 21 2 1 rS x2)] [(21, some (ar 9 2 1 rS x2))] [(21, true)] (an (c_s_l16Words G n line hx1) (an (app_map rS hx2) (an (rwM (r := rS) 1 (fun _ => rfl) x1) (an (rwM (r := rS) 1 (fun _ => rfl) [[], [], [], []]) trivial)))) (by kernel_rfl) ?_
  refine vwp_seq ?_
  refine rg hC [.nat 22] [4, 12] [(4, V.ref 22 0)] [(22, some (E.cells [vI 0, vI 0, vI 0, vI 0]))] [(22, true)] trivial (by kernel_rfl) ?_
  refine vwp_seq ?_
  obtain ⟨x3, hx3, h⟩ := bd h
  refine rg hC [.v (vM rS x3)] [5, 13] [(5, vM rS x3)] [] [] (an (c_s_l14Words G n  hx3) trivial) (by kernel_rfl) ?_
  refine vwp_seq ?_
  refine vwp_seq ?_
  refine rg hC [] [6] [(6, vI 1)] [] [] trivial (by kernel_rfl) ?_
  refine vwp_block ?_
  refine vwp_lm (γ := Unit) h (fun (x_ : Int × Int) (g_ : Unit) => mkS [(2, V.ref 20 0), (3, ms 21 2 1 rS x2), (4, V.ref 22 0), (5, vM rS x3), (6, vI x_.2)] [(20, E.cells [vI 0, vI 0, vI 0, vI 0]), (21, ar 9 2 1 rS x2), (22, E.cells [vI x_.1, vI 0, vI 0, vI 0])] [20, 21, 22]) () (leS (by kernel_rfl)) ?_
  rintro again6 ⟨x4, x5⟩ ⟨⟩ h
  refine vwp_seq ?_
  refine vwp_seq ?_
  refine rg hC [.nat x3.length] [14, 15, 16, 17] [(17, vB (decide (x5 < (x3.length : Int))))] [] [] (an (lenM rS x3) trivial) (by kernel_rfl) ?_
  refine vwp_cond (b := decide (x5 < (x3.length : Int))) (by kernel_rfl) (fun c1 => ?_) (fun c1 => ?_)
  · have h := bt c1 h
    refine vwp_skip ?_
    obtain ⟨j7, hj7, h⟩ := jn_e h
    refine vwp_jm (γ := Unit) (j := j7) (r := r) (fun (x_ : Int) (g_ : Unit) => mkS [(2, V.ref 20 0), (3, ms 21 2 1 rS x2), (4, V.ref 22 0), (5, vM rS x3), (6, vI x5)] [(20, E.cells [vI 0, vI 0, vI 0, vI 0]), (21, ar 9 2 1 rS x2), (22, E.cells [vI x_, vI 0, vI 0, vI 0])] [20, 21, 22]) ?_ ?_
    ·
      refine vwp_block ?_
      refine vwp_seq ?_
      obtain ⟨x8, hx8, h⟩ := bd h
      obtain ⟨x9, hx9, h⟩ := bd h
      refine rd hC hmix [.row (rS x8), .row (rS x9)] [20, 21, 22, 23, 24, 25, 26, 27] [(27, vB (decide (x8 = x9)))] [] [] (an (ix_map rS hx8) (an (ixn rS hx9) (an (ixr rS hx9) trivial))) (by kernel_rfl) ?_
      refine vwp_cond (b := decide (x8 = x9)) (by kernel_rfl) (fun c2 => ?_) (fun c2 => ?_)
      · have h := bt c2 h
        refine rg hC [] [28, 29] [] [(22, some (E.cells [vI x5, vI 0, vI 0, vI 0]))] [] trivial (by kernel_rfl) ?_
        exact ⟨x5, (), h, leS (by kernel_rfl)⟩
      · have h := bf c2 h
        refine vwp_skip ?_
        exact ⟨x4, (), h, leS (by kernel_rfl)⟩
    · rintro x10 ⟨⟩ h
      subst hj7
      refine rg hC [] [6, 18, 19] [(6, vI (wr (x5 + 1)))] [] [] trivial (by kernel_rfl) ?_
      exact ⟨(x10, wr (x5 + 1)), (), h, leS (by kernel_rfl)⟩
  · have h := bf c1 h
    refine vwp_exit ?_
    refine vwp_seq ?_
    obtain ⟨x11, hx11, h⟩ := bd h
    refine rg hC [.v (vI x11)] [7, 30, 31, 32] [(7, vI x11)] [] [] (an (c_s_l14Fields G n x4 hx11) trivial) (by kernel_rfl) ?_
    obtain ⟨j12, hj12, h⟩ := jn_e h
    refine vwp_jm (γ := Unit) (j := j12) (r := r) (fun (x_ : Int) (g_ : Unit) => mkS [(2, V.ref 20 0), (3, ms 21 2 1 rS x2), (4, V.ref 22 0), (7, vI x11)] [(20, E.cells [vI 0, vI 0, vI 0, vI 0]), (21, ar 9 2 1 rS x2), (22, E.cells [vI x4, vI x_, vI 0, vI 0])] [20, 21, 22]) ?_ ?_
    ·
      refine vwp_seq ?_
      refine rg hC [] [33, 34] [(34, vB (decide ((0 : Int) < x11)))] [] [] trivial (by kernel_rfl) ?_
      refine vwp_cond (b := decide ((0 : Int) < x11)) (by kernel_rfl) (fun c3 => ?_) (fun c3 => ?_)
      · have h := bt c3 h
        obtain ⟨x13, hx13, h⟩ := bd h
        obtain ⟨x14, hx14, h⟩ := bd h
        refine rg hC [.row (rS x13), .v (vI x14)] [35, 36, 37, 38, 39] [] [(22, some (E.cells [vI x4, vI x14, vI 0, vI 0]))] [] (an (ixn rS hx13) (an (ixr rS hx13) (an (c_s_l14Number G n x13 hx14) trivial))) (by kernel_rfl) ?_
        exact ⟨x14, (), h, leS (by kernel_rfl)⟩
      · have h := bf c3 h
        refine vwp_skip ?_
        exact ⟨0, (), h, leS (by kernel_rfl)⟩
    · rintro x15 ⟨⟩ h
      subst hj12
      obtain ⟨j16, hj16, h⟩ := jn_e h
      refine vwp_jm (γ := Unit) (j := j16) (r := r) (fun (x_ : Int) (g_ : Unit) => mkS [(2, V.ref 20 0), (3, ms 21 2 1 rS x2), (4, V.ref 22 0), (7, vI x11)] [(20, E.cells [vI 0, vI 0, vI 0, vI 0]), (21, ar 9 2 1 rS x2), (22, E.cells [vI x4, vI x15, vI x_, vI 0])] [20, 21, 22]) ?_ ?_
      ·
        refine vwp_seq ?_
        refine rg hC [] [40, 41] [(41, vB (decide ((1 : Int) < x11)))] [] [] trivial (by kernel_rfl) ?_
        refine vwp_cond (b := decide ((1 : Int) < x11)) (by kernel_rfl) (fun c4 => ?_) (fun c4 => ?_)
        · have h := bt c4 h
          obtain ⟨x17, hx17, h⟩ := bd h
          obtain ⟨x18, hx18, h⟩ := bd h
          refine rg hC [.row (rS x17), .v (vI x18)] [42, 43, 44, 45, 46] [] [(22, some (E.cells [vI x4, vI x15, vI x18, vI 0]))] [] (an (ixn rS hx17) (an (ixr rS hx17) (an (c_s_l14Number G n x17 hx18) trivial))) (by kernel_rfl) ?_
          exact ⟨x18, (), h, leS (by kernel_rfl)⟩
        · have h := bf c4 h
          refine vwp_skip ?_
          exact ⟨0, (), h, leS (by kernel_rfl)⟩
      · rintro x19 ⟨⟩ h
        subst hj16
        obtain ⟨j20, hj20, h⟩ := jn_e h
        refine vwp_jm (γ := Unit) (j := j20) (r := r) (fun (x_ : Int) (g_ : Unit) => mkS [(2, V.ref 20 0), (4, V.ref 22 0)] [(20, E.cells [vI 0, vI 0, vI 0, vI 0]), (21, ar 9 2 1 rS x2), (22, E.cells [vI x4, vI x15, vI x19, vI x_])] [20, 21, 22]) ?_ ?_
        ·
          refine vwp_seq ?_
          refine rg hC [] [47, 48] [(48, vB (decide ((2 : Int) < x11)))] [] [] trivial (by kernel_rfl) ?_
          refine vwp_cond (b := decide ((2 : Int) < x11)) (by kernel_rfl) (fun c5 => ?_) (fun c5 => ?_)
          · have h := bt c5 h
            obtain ⟨x21, hx21, h⟩ := bd h
            obtain ⟨x22, hx22, h⟩ := bd h
            refine rg hC [.row (rS x21), .v (vI x22)] [49, 50, 51, 52, 53] [] [(22, some (E.cells [vI x4, vI x15, vI x19, vI x22]))] [] (an (ixn rS hx21) (an (ixr rS hx21) (an (c_s_l14Number G n x21 hx22) trivial))) (by kernel_rfl) ?_
            exact ⟨x22, (), h, leS (by kernel_rfl)⟩
          · have h := bf c5 h
            refine vwp_skip ?_
            exact ⟨0, (), h, leS (by kernel_rfl)⟩
        · rintro x23 ⟨⟩ h
          subst hj20
          refine vwp_seq ?_
          refine rg hC [] [54] [] [(20, some (E.cells [vI x4, vI x15, vI x19, vI x23]))] [] trivial (by kernel_rfl) ?_
          refine vwp_ret ?_
          obtain rfl := so h
          exact endR (by kernel_rfl)

theorem c_s_ParseSteps (G : GS) (n : Nat) (text : List UInt8) {r : (List Step) × Bool} (h : s_ParseSteps n text = some r) : VCC Tryd.prog G.g 10 [] [vS text] (V.tup [ms 0 1 4 rStep r.1, vB r.2]) [ar 36 1 4 rStep r.1] := by
  unfold s_ParseSteps at h
  refine vmr tyOK Tryd.func10 rfl rfl rfl rfl rfl rfl rfl rfl ?_
  intro w X β0 hC hg
  refine vwp_seq ?_
  refine rg hC [] [2, 3] [] [] [] trivial (by kernel_rfl) ?_
  refine vwp_seq ?_
  obtain ⟨x1, hx1, h⟩ := bd h
  refine rg hC [.vc [] [20] (ms 0 1 1 rS x1) [ar 9 1 1 rS x1]] [4, 7, 8] [(4, ms 20 1 1 rS x1)] [(20, some (ar 9 1 1 rS x1))] [(20, true)] (an (c_s_l16Cut G n text (10 : UInt8) hx1) trivial) (by kernel_rfl) ?_
  refine vwp_seq ?_
  refine rg hC [.nat 21] [5, 9] [(5, ms 21 1 4 rStep [])] [(21, some (ar 36 1 4 rStep []))] [(21, true)] trivial (by kernel_rfl) ?_
  refine vwp_seq ?_
  obtain ⟨j2, hj2, h⟩ := jn_e h
  refine vwp_jm (γ := Unit) (j := j2) (r := r) (fun (x_ : Bool) (g_ : Unit) => mkS [(0, vS text), (4, ms 20 1 1 rS x1), (5, ms 21 1 4 rStep []), (17, vB x_)] [(20, ar 9 1 1 rS x1), (21, ar 36 1 4 rStep [])] [20, 21]) ?_ ?_
  ·
    refine split_b (decide ((13 : Int) < (x1.length : Int))) (fun c1 => ?_) (fun c1 => ?_)
    · have h := bf c1 h
      refine rg hC [.nat x1.length, .b false, .b false, .b false, .b false] [10, 11, 12, 13, 14, 15, 16, 17] [(17, vB (decide ((1000 : Int) < (text.length : Int))))] [] [] (an (lenM rS x1) (an c1 (an c1 (an c1 (an c1 trivial))))) (by kernel_rfl) ?_
      exact ⟨decide ((1000 : Int) < (text.length : Int)), (), h, leS (by kernel_rfl)⟩
    · have h := bt c1 h
      refine rg hC [.nat x1.length, .b true, .b true, .b true, .b true] [10, 11, 12, 13, 14, 15, 16, 17] [(17, vB true)] [] [] (an (lenM rS x1) (an c1 (an c1 (an c1 (an c1 trivial))))) (by kernel_rfl) ?_
      exact ⟨true, (), h, leS (by kernel_rfl)⟩
  · rintro x3 ⟨⟩ h
    subst hj2
    refine vwp_cond (b := x3) (by kernel_rfl) (fun c2 => ?_) (fun c2 => ?_)
    · have h := bt c2 h
      refine vwp_seq ?_
      refine rg hC [] [2, 3, 18] [(2, ms 21 1 4 rStep []), (3, vB false)] [] [] trivial (by kernel_rfl) ?_
      refine vwp_weaken (lp hC [.ren 2 21 0] [2] [(2, ms 0 1 4 rStep [])] [(0, some (ar 36 1 4 rStep [])), (21, none)] [(0, true)] (by kernel_rfl)) ?_
      refine vwp_ret ?_
      obtain rfl := so h
      exact endW (by kernel_rfl)
    · have h := bf c2 h
      refine vwp_skip ?_
      refine vwp_seq ?_
      refine vwp_seq ?_
      refine rg hC [] [6] [(6, vI 0)] [] [] trivial (by kernel_rfl) ?_
      refine vwp_block ?_
      refine vwp_lm (γ := Nat) h (fun (x_ : (List Step) × Int) (g_ : Nat) => mkS [(0, vS text), (4, ms 20 1 1 rS x1), (5, ms 21 g_ 4 rStep x_.1), (6, vI x_.2)] [(20, ar 9 1 1 rS x1), (21, ar 36 g_ 4 rStep x_.1)] [20, 21]) 1 (leS (by kernel_rfl)) ?_
      rintro again7 ⟨x4, x5⟩ g6 h
      refine vwp_seq ?_
      refine vwp_seq ?_
      refine rg hC [.nat x1.length] [19, 20, 21, 22, 23] [(23, vB (decide (wr (x5 + 1) < (x1.length : Int))))] [] [] (an (lenM rS x1) trivial) (by kernel_rfl) ?_
      refine vwp_cond (b := decide (wr (x5 + 1) < (x1.length : Int))) (by kernel_rfl) (fun c3 => ?_) (fun c3 => ?_)
      · have h := bt c3 h
        refine vwp_skip ?_
        refine vwp_seq ?_
        refine vwp_block ?_
        obtain ⟨x8, hx8, h⟩ := bd h
        obtain ⟨x9, hx9, h⟩ := bd h
        obtain ⟨x10, hx10, h⟩ := bd h
        refine rg hC [.row (rS x8), .v (V.agg [vI x9.kind, vI x9.part, vI x9.a, vI x9.b]), .int 0, .rows (List.map rStep x10)] [5, 26, 27, 28, 29, 30, 31, 32, 33] [(5, ms 21 (g6 + 1) 4 rStep x10)] [(21, some (ar 36 (g6 + 1) 4 rStep x10))] [] (an (ixn rS hx8) (an (ixr rS hx8) (an (c_s_l14Line G n x8 hx9) (an (app_map rStep hx10) (an (rwM (r := rStep) 4 rStep_len x4) (an (rwM (r := rStep) 4 rStep_len [x9]) trivial)))))) (by kernel_rfl) ?_
        refine rg hC [] [6, 24, 25] [(6, vI (wr (x5 + 1)))] [] [] trivial (by kernel_rfl) ?_
        exact ⟨(x10, wr (x5 + 1)), (g6 + 1), h, leS (by kernel_rfl)⟩
      · have h := bf c3 h
        refine vwp_exit ?_
        refine vwp_seq ?_
        refine vwp_seq ?_
        obtain ⟨x11, hx11, h⟩ := bd h
        refine rg hC [.b true, .v (vS x11)] [34, 35, 36, 37] [(37, vB (!decide (x11 = text)))] [] [] (an (c_s_FormatSteps G n x4 hx11) trivial) (by kernel_rfl) ?_
        refine vwp_cond (b := !decide (x11 = text)) (by kernel_rfl) (fun c4 => ?_) (fun c4 => ?_)
        · have h := bt c4 h
          refine vwp_seq ?_
          refine rg hC [.nat 22] [2, 3, 38] [(2, ms 22 1 4 rStep []), (3, vB false)] [(22, some (ar 36 1 4 rStep []))] [(22, true)] trivial (by kernel_rfl) ?_
          refine vwp_weaken (lp hC [.ren 2 22 0] [2] [(2, ms 0 1 4 rStep [])] [(0, some (ar 36 1 4 rStep [])), (22, none)] [(0, true)] (by kernel_rfl)) ?_
          refine vwp_ret ?_
          obtain rfl := so h
          exact endW (by kernel_rfl)
        · have h := bf c4 h
          refine vwp_skip ?_
          refine vwp_seq ?_
          refine rg hC [] [2, 3, 39] [(2, ms 21 g6 4 rStep x4), (3, vB true)] [] [] trivial (by kernel_rfl) ?_
          refine vwp_weaken (lp hC [.ren 2 21 0] [2] [(2, ms 0 1 4 rStep x4)] [(0, some (ar 36 1 4 rStep x4)), (21, none)] [(0, true)] (by kernel_rfl)) ?_
          refine vwp_ret ?_
          obtain rfl := so h
          exact endW (by kernel_rfl)

theorem c_w_FnStepsText (G : GS) (n : Nat) (code : List UInt8) (more : List UInt8) {r : Bool} (h : w_FnStepsText n code more = some r) : PCC Tryd.prog G.g 3 [vM rY code, vM rY more] (vB r) := by
  unfold w_FnStepsText at h
  refine pmr tyOK Tryd.func3 rfl rfl rfl rfl rfl rfl rfl ?_
  intro w X hC
  refine vwp_seq ?_
  refine rg hC [] [4] [] [] [] trivial (by kernel_rfl) ?_
  refine vwp_seq ?_
  obtain ⟨j1, hj1, h⟩ := jn_e h
  refine vwp_jm (γ := Unit) (j := j1) (r := r) (fun (x_ : Bool) (g_ : Unit) => mkS [(0, vM rY code), (1, vM rY more), (21, vB x_)] [] []) ?_ ?_
  ·
    refine split_b (decide ((1048576 : Int) < (code.length : Int))) (fun c1 => ?_) (fun c1 => ?_)
    · have h := bf c1 h
      refine rg hC [.nat code.length, .b false, .b false, .nat more.length, .b false, .b false] [14, 15, 16, 17, 18, 19, 20, 21] [(21, vB (decide ((1048576 : Int) < (more.length : Int))))] [] [] (an (lenM rY code) (an c1 (an c1 (an (lenM rY more) (an c1 (an c1 trivial)))))) (by kernel_rfl) ?_
      exact ⟨decide ((1048576 : Int) < (more.length : Int)), (), h, leS (by kernel_rfl)⟩
    · have h := bt c1 h
      refine rg hC [.nat code.length, .b true, .b true, .b true, .b true] [14, 15, 16, 17, 18, 19, 20, 21] [(21, vB true)] [] [] (an (lenM rY code) (an c1 (an c1 (an c1 (an c1 trivial))))) (by kernel_rfl) ?_
      exact ⟨true, (), h, leS (by kernel_rfl)⟩
  · rintro x2 ⟨⟩ h
    subst hj1
    refine vwp_cond (b := x2) (by kernel_rfl) (fun c2 => ?_) (fun c2 => ?_)
    · have h := bt c2 h
      refine vwp_seq ?_
      refine rg hC [] [4] [(4, vB true)] [] [] trivial (by kernel_rfl) ?_
      refine vwp_ret ?_
      obtain rfl := so h
      exact endR (by kernel_rfl)
    · have h := bf c2 h
      refine vwp_skip ?_
      refine vwp_seq ?_
      obtain ⟨x3, hx3, h⟩ := bd h
      refine rg hC [.vc [] [20] (ms 0 1 4 rStep x3) [ar 36 1 4 rStep x3]] [5, 22, 23] [(5, ms 20 1 4 rStep x3)] [(20, some (ar 36 1 4 rStep x3))] [(20, true)] (an (c_s_DrawFormatSteps G n code hx3) trivial) (by kernel_rfl) ?_
      refine vwp_seq ?_
      obtain ⟨x4, hx4, h⟩ := bd h
      refine rg hC [.b true, .v (vS x4)] [6, 24, 25] [(6, vS x4)] [] [] (an (c_i_FormatSteps G n x3 hx4) trivial) (by kernel_rfl) ?_
      refine vwp_seq ?_
      obtain ⟨x5, hx5, h⟩ := bd h
      refine rg hC [.vc [] [21] (V.tup [ms 0 1 4 rStep x5.1, vB x5.2]) [ar 36 1 4 rStep x5.1]] [7, 8, 26, 27, 28, 29, 30] [(7, ms 21 1 4 rStep x5.1), (8, vB x5.2)] [(21, some (ar 36 1 4 rStep x5.1))] [(21, true)] (an (c_i_ParseSteps G n x4 hx5) trivial) (by kernel_rfl) ?_
      refine vwp_seq ?_
      obtain ⟨j6, hj6, h⟩ := jn_e h
      refine vwp_jm (γ := Unit) (j := j6) (r := r) (fun (x_ : Bool) (g_ : Unit) => mkS [(1, vM rY more), (53, vB x_)] [(20, ar 36 1 4 rStep x3), (21, ar 36 1 4 rStep x5.1)] [20, 21]) ?_ ?_
      ·
        obtain ⟨x7, hx7, h⟩ := bd h
        refine split_b (!decide (x4 = x7)) (fun c3 => ?_) (fun c3 => ?_)
        · have h := bf c3 h
          refine split_b (!x5.2) (fun c4 => ?_) (fun c4 => ?_)
          · have h := bf c4 h
            refine split_b (!decide (x4 = [])) (fun c5 => ?_) (fun c5 => ?_)
            · have h := bf c5 h
              refine split_b (decide ((x3.length : Int) = 0)) (fun c6 => ?_) (fun c6 => ?_)
              · have h := bf c6 h
                refine rg hC [.b true, .v (vS x7), .b false, .b false, .b false, .b false, .b false, .b false, .b false, .b false, .nat x3.length, .b false, .b false, .b false, .b false, .b false, .b false, .b false, .b false, .b false, .b false, .b false] [31, 32, 33, 34, 35, 36, 37, 38, 39, 40, 41, 42, 43, 44, 45, 46, 47, 48, 49, 50, 51, 52, 53] [(53, vB false)] [] [] (an (c_s_FormatSteps G n x3 hx7) (an c3 (an c3 (an c3 (an c4 (an c4 (an c4 (an c5 (an c5 (an (lenM rStep x3) (an c5 (an c4 (an c5 (an c4 (an c6 (an c6 (an c6 (an c6 (an c4 (an c6 (an c4 trivial))))))))))))))))))))) (by kernel_rfl) ?_
                exact ⟨false, (), h, leS (by kernel_rfl)⟩
              · have h := bt c6 h
                obtain ⟨x8, hx8, h⟩ := bd h
                refine rg hC [.b true, .v (vS x7), .b false, .b false, .b false, .b false, .b false, .b false, .b false, .b false, .nat x3.length, .b false, .b false, .b false, .b false, .b true, .b true, .b true, .b true, .v (vB x8), .b true, .b false, .b true, .b false] [31, 32, 33, 34, 35, 36, 37, 38, 39, 40, 41, 42, 43, 44, 45, 46, 47, 48, 49, 50, 51, 52, 53] [(53, vB (!x8))] [] [] (an (c_s_FormatSteps G n x3 hx7) (an c3 (an c3 (an c3 (an c4 (an c4 (an c4 (an c5 (an c5 (an (lenM rStep x3) (an c5 (an c4 (an c5 (an c4 (an c6 (an c6 (an c6 (an (c_w_lnSteps G n x5.1 x3 hx8) (an c6 (an c4 (an c6 (an c4 trivial)))))))))))))))))))))) (by kernel_rfl) ?_
                exact ⟨!x8, (), h, leS (by kernel_rfl)⟩
            · have h := bt c5 h
              obtain ⟨x9, hx9, h⟩ := bd h
              refine rg hC [.b true, .v (vS x7), .b false, .b false, .b false, .b false, .b false, .b false, .b true, .b true, .b true, .b false, .b true, .b false, .b true, .b true, .b true, .b true, .v (vB x9), .b true, .b false, .b true, .b false] [31, 32, 33, 34, 35, 36, 37, 38, 39, 40, 41, 42, 43, 44, 45, 46, 47, 48, 49, 50, 51, 52, 53] [(53, vB (!x9))] [] [] (an (c_s_FormatSteps G n x3 hx7) (an c3 (an c3 (an c3 (an c4 (an c4 (an c4 (an c5 (an c5 (an c5 (an c4 (an c5 (an c4 (an (Eq.refl true) (an (Eq.refl true) (an (Eq.refl true) (an (c_w_lnSteps G n x5.1 x3 hx9) (an (Eq.refl true) (an c4 (an (Eq.refl true) (an c4 trivial))))))))))))))))))))) (by kernel_rfl) ?_
              exact ⟨!x9, (), h, leS (by kernel_rfl)⟩
          · have h := bt c4 h
            refine rg hC [.b true, .v (vS x7), .b false, .b false, .b false, .b true, .b true, .b true, .b true, .b true, .b true, .b true] [31, 32, 33, 34, 35, 36, 37, 38, 39, 40, 41, 42, 43, 44, 45, 46, 47, 48, 49, 50, 51, 52, 53] [(53, vB true)] [] [] (an (c_s_FormatSteps G n x3 hx7) (an c3 (an c3 (an c3 (an c4 (an c4 (an c4 (an c4 (an c4 (an c4 (an c4 trivial))))))))))) (by kernel_rfl) ?_
            exact ⟨true, (), h, leS (by kernel_rfl)⟩
        · have h := bt c3 h
          refine rg hC [.b true, .v (vS x7), .b true, .b true, .b true, .b true, .b true, .b true, .b true, .b true, .b true, .b true] [31, 32, 33, 34, 35, 36, 37, 38, 39, 40, 41, 42, 43, 44, 45, 46, 47, 48, 49, 50, 51, 52, 53] [(53, vB true)] [] [] (an (c_s_FormatSteps G n x3 hx7) (an c3 (an c3 (an c3 (an (Eq.refl true) (an (Eq.refl true) (an (Eq.refl true) (an (Eq.refl true) (an (Eq.refl true) (an (Eq.refl true) (an (Eq.refl true) trivial))))))))))) (by kernel_rfl) ?_
          exact ⟨true, (), h, leS (by kernel_rfl)⟩
      · rintro x10 ⟨⟩ h
        subst hj6
        refine vwp_cond (b := x10) (by kernel_rfl) (fun c7 => ?_) (fun c7 => ?_)
        · have h := bt c7 h
          refine vwp_seq ?_
          refine rg hC [] [4] [(4, vB false)] [] [] trivial (by kernel_rfl) ?_
          refine vwp_ret ?_
          obtain rfl := so h
          exact endR (by kernel_rfl)
        · have h := bf c7 h
          refine vwp_skip ?_
          refine vwp_seq ?_
          obtain ⟨x11, hx11, h⟩ := bd h
          refine rg hC [.v (vS x11)] [9, 54, 55] [(9, vS x11)] [] [] (an (c_s_DrawParseSteps G n more hx11) trivial) (by kernel_rfl) ?_
          refine vwp_seq ?_
          obtain ⟨x12, hx12, h⟩ := bd h
          refine rg hC [.vc [] [22] (V.tup [ms 0 1 4 rStep x12.1, vB x12.2]) [ar 36 1 4 rStep x12.1]] [10, 11, 56, 57, 58, 59, 60] [(10, ms 22 1 4 rStep x12.1), (11, vB x12.2)] [(22, some (ar 36 1 4 rStep x12.1))] [(22, true)] (an (c_i_ParseSteps G n x11 hx12) trivial) (by kernel_rfl) ?_
          refine vwp_seq ?_
          obtain ⟨x13, hx13, h⟩ := bd h
          refine rg hC [.vc [] [23] (V.tup [ms 0 1 4 rStep x13.1, vB x13.2]) [ar 36 1 4 rStep x13.1]] [12, 13, 61, 62, 63, 64, 65] [(12, ms 23 1 4 rStep x13.1), (13, vB x13.2)] [(23, some (ar 36 1 4 rStep x13.1))] [(23, true)] (an (c_s_ParseSteps G n x11 hx13) trivial) (by kernel_rfl) ?_
          obtain ⟨j14, hj14, h⟩ := jn_e h
          refine vwp_jm (γ := Unit) (j := j14) (r := r) (fun (x_ : Bool) (g_ : Unit) => mkS [(4, vB x_)] [(20, ar 36 1 4 rStep x3), (21, ar 36 1 4 rStep x5.1), (22, ar 36 1 4 rStep x12.1), (23, ar 36 1 4 rStep x13.1)] [20, 21, 22, 23]) ?_ ?_
          ·
            refine split_b (x12.2 == x13.2) (fun c8 => ?_) (fun c8 => ?_)
            · have h := bf c8 h
              refine rg hC [.b false, .b false, .b false, .b false, .b false, .b false, .b false, .b false, .b false] [4, 66, 67, 68, 69, 70, 71, 72, 73, 74, 75, 76, 77, 78, 79, 80, 81, 82, 83] [(4, vB false)] [] [] (an c8 (an c8 (an c8 (an c8 (an (Eq.refl false) (an (Eq.refl false) (an (Eq.refl false) (an (Eq.refl false) (an (Eq.refl false) trivial))))))))) (by kernel_rfl) ?_
              exact ⟨false, (), h, leS (by kernel_rfl)⟩
            · have h := bt c8 h
              obtain ⟨x15, hx15, h⟩ := bd h
              refine split_b x15 (fun c9 => ?_) (fun c9 => ?_)
              · have h := bf c9 h
                refine rg hC [.b true, .b true, .b true, .b true, .v (vB x15), .b true, .b false, .b false, .b false, .b false, .b false] [4, 66, 67, 68, 69, 70, 71, 72, 73, 74, 75, 76, 77, 78, 79, 80, 81, 82, 83] [(4, vB false)] [] [] (an c8 (an c8 (an c8 (an (c_w_lnSteps G n x12.1 x13.1 hx15) (an c8 (an c9 (an c9 (an c9 (an c9 (an c9 trivial)))))))))) (by kernel_rfl) ?_
                exact ⟨false, (), h, leS (by kernel_rfl)⟩
              · have h := bt c9 h
                refine split_b (!x12.2) (fun c10 => ?_) (fun c10 => ?_)
                · have h := bf c10 h
                  obtain ⟨x16, hx16, h⟩ := bd h
                  refine rg hC [.b true, .b true, .b true, .b true, .v (vB x15), .b true, .b true, .b true, .b true, .b false, .b false, .b true, .v (vS x16), .b false, .b false, .b true, .b false, .b true] [4, 66, 67, 68, 69, 70, 71, 72, 73, 74, 75, 76, 77, 78, 79, 80, 81, 82, 83] [(4, vB (decide (x16 = x11)))] [] [] (an c8 (an c8 (an c8 (an (c_w_lnSteps G n x12.1 x13.1 hx15) (an c8 (an c9 (an c9 (an c9 (an c10 (an c10 (an (c_i_FormatSteps G n x12.1 hx16) (an c10 (an c10 (an c9 (an c10 (an c9 trivial)))))))))))))))) (by kernel_rfl) ?_
                  exact ⟨decide (x16 = x11), (), h, leS (by kernel_rfl)⟩
                · have h := bt c10 h
                  refine rg hC [.b true, .b true, .b true, .b true, .v (vB x15), .b true, .b true, .b true, .b true, .b true, .b true, .b true, .b true, .b true, .b true, .b true] [4, 66, 67, 68, 69, 70, 71, 72, 73, 74, 75, 76, 77, 78, 79, 80, 81, 82, 83] [(4, vB true)] [] [] (an c8 (an c8 (an c8 (an (c_w_lnSteps G n x12.1 x13.1 hx15) (an c8 (an c9 (an c9 (an c9 (an c10 (an c10 (an c10 (an c10 (an c9 (an c10 (an c9 trivial))))))))))))))) (by kernel_rfl) ?_
                  exact ⟨true, (), h, leS (by kernel_rfl)⟩
          · rintro x17 ⟨⟩ h
            subst hj14
            refine vwp_ret ?_
            obtain rfl := so h
            exact endR (by kernel_rfl)
end Go.Lift
