/- What the functions compute, as plain functions. -/
import Derived.Test.YthfcdmcpponheaaGreatVTypes
set_option linter.unusedVariables false
namespace Go.Lift
open Go
def s_l4Arrays (n : Nat) (list : List Arr) : Option Bool := (
 loopM (fun again2 (x1 : Int) =>
  bif decide (x1 < (list.length : Int)) then (
   Option.bind (ix list x1) fun x3 =>
   jn (fun (x6 : Bool) =>
    bif x6 then (
     some false
    ) else (
     loopM (fun again8 (x7 : Int) =>
      bif decide (x7 < (x3.dims.length : Int)) then (
       jn (fun (x11 : Bool) =>
        bif x11 then (
         some false
        ) else (
         again8 (wr (x7 + 1))
        )
       ) (fun j9 =>
        Option.bind (ix x3.dims x7) fun x10 =>
        bif decide (x10 < 1) then (
         j9 true
        ) else (
         j9 (decide ((6 : Int) < x10))
        )
       )
      ) else (
       again2 (wr (x1 + 1))
      )
     ) n 0
    )
   ) (fun j4 =>
    bif !decide ((x3.name.length : Int) = 1) then (
     j4 true
    ) else (
     bif Op.bytesLess x3.name [65] then (
      j4 true
     ) else (
      bif (!Op.bytesLess x3.name [68] && !x3.name == [68]) then (
       j4 true
      ) else (
       bif decide ((0 : Int) < x1) then (
        Option.bind (ix list (wr (x1 - 1))) fun x5 =>
        bif !Op.bytesLess x5.name x3.name then (
         j4 true
        ) else (
         bif decide ((x3.dims.length : Int) < 1) then (
          j4 true
         ) else (
          j4 (decide ((2 : Int) < (x3.dims.length : Int)))
         )
        )
       ) else (
        bif decide ((x3.dims.length : Int) < 1) then (
         j4 true
        ) else (
         j4 (decide ((2 : Int) < (x3.dims.length : Int)))
        )
       )
      )
     )
    )
   )
  ) else (
   some (decide ((list.length : Int) ≤ 4))
  )
 ) n 0)
def s_l1Eval (n : Nat) (a : Affine) (point : List Int) : Option Int := (
 loopM (fun again3 ((x1, x2) : Int × Int) =>
  jn (fun (x5 : Bool) =>
   bif x5 then (
    Option.bind (ix a.coefs x2) fun x6 =>
    Option.bind (ix point x2) fun x7 =>
    again3 (wr (x1 + (wr (x6 * x7))), wr (x2 + 1))
   ) else (
    some x1
   )
  ) (fun j4 =>
   bif decide (x2 < (point.length : Int)) then (
    j4 (decide (x2 < (a.coefs.length : Int)))
   ) else (
    j4 false
   )
  )
 ) n (a.const, 0))
def s_l2Range (n : Nat) (loop : Loop) (p : List Int) : Option (Int × Int) := (
 Option.bind (ix loop.lo 0) fun x1 =>
 Option.bind (s_l1Eval n x1 p) fun x2 =>
 Option.bind (ix loop.hi 0) fun x3 =>
 Option.bind (s_l1Eval n x3 p) fun x4 =>
 loopM (fun again7 ((x5, x6) : Int × Int) =>
  bif decide (x6 < (loop.lo.length : Int)) then (
   jn (fun (x11 : Int) =>
    again7 (x11, wr (x6 + 1))
   ) (fun j8 =>
    Option.bind (ix loop.lo x6) fun x9 =>
    Option.bind (s_l1Eval n x9 p) fun x10 =>
    bif decide (x5 < x10) then (
     j8 x10
    ) else (
     j8 x5
    )
   )
  ) else (
   loopM (fun again14 ((x12, x13) : Int × Int) =>
    bif decide (x13 < (loop.hi.length : Int)) then (
     jn (fun (x18 : Int) =>
      again14 (x18, wr (x13 + 1))
     ) (fun j15 =>
      Option.bind (ix loop.hi x13) fun x16 =>
      Option.bind (s_l1Eval n x16 p) fun x17 =>
      bif decide (x17 < x12) then (
       j15 x17
      ) else (
       j15 x12
      )
     )
    ) else (
     some (x5, x12)
    )
   ) n (x4, 1)
  )
 ) n (x2, 1))
def s_l2Points : Nat → (List (List Int)) → (List Loop) → (List Int) →  Option (List (List Int))
 | 0, _, _, _ => none
 | n + 1, out, nest, p => (
  bif decide ((p.length : Int) = (nest.length : Int)) then (
   Option.bind (app [] p) fun x1 =>
   Option.bind (app out [x1]) fun x2 =>
   some x2
  ) else (
   Option.bind (ix nest (p.length : Int)) fun x3 =>
   Option.bind (s_l2Range n x3 p) fun x4 =>
   loopM (fun again8 ((x5, x6) : (List (List Int)) × Int) =>
    jn (fun (x10 : Bool) =>
     bif x10 then (
      Option.bind (app [] p) fun x11 =>
      Option.bind (app x11 [x6]) fun x12 =>
      Option.bind (s_l2Points n x5 nest x12) fun x13 =>
      again8 (x13, wr (x6 + 1))
     ) else (
      some x5
     )
    ) (fun j9 =>
     bif decide (x6 < x4.2) then (
      j9 (decide ((x5.length : Int) ≤ 120))
     ) else (
      j9 false
     )
    )
   ) n (out, x4.1)
  ))
def s_l1Within (n : Nat) (n_a0 : Int) (most : Int) : Option Bool := (
 jn (fun (x2 : Bool) =>
  some x2
 ) (fun j1 =>
  bif decide (wr (0 - most) ≤ n_a0) then (
   j1 (decide (n_a0 ≤ most))
  ) else (
   j1 false
  )
 ))
def s_AffineValid (n : Nat) (a : Affine) : Option Bool := (
 loopM (fun again2 (x1 : Int) =>
  bif decide (x1 < (a.coefs.length : Int)) then (
   Option.bind (ix a.coefs x1) fun x3 =>
   Option.bind (s_l1Within n x3 9) fun x4 =>
   bif !x4 then (
    some false
   ) else (
    again2 (wr (x1 + 1))
   )
  ) else (
   jn (fun (x7 : Bool) =>
    some x7
   ) (fun j5 =>
    bif decide ((a.coefs.length : Int) = 4) then (
     Option.bind (s_l1Within n a.const 99) fun x6 =>
     j5 x6
    ) else (
     j5 false
    )
   )
  )
 ) n 0)
def s_l1Depth (n : Nat) (a : Affine) : Option Int := (
 loopM (fun again3 ((x1, x2) : Int × Int) =>
  bif decide (x2 < (a.coefs.length : Int)) then (
   jn (fun (x6 : Int) =>
    again3 (x6, wr (x2 + 1))
   ) (fun j4 =>
    Option.bind (ix a.coefs x2) fun x5 =>
    bif !decide (x5 = 0) then (
     j4 (wr (x2 + 1))
    ) else (
     j4 x1
    )
   )
  ) else (
   some x1
  )
 ) n (0, 0))
def s_l2Side (n : Nat) (list : List Affine) (depth : Int) : Option Bool := (
 loopM (fun again2 (x1 : Int) =>
  bif decide (x1 < (list.length : Int)) then (
   jn (fun (x7 : Bool) =>
    bif x7 then (
     some false
    ) else (
     again2 (wr (x1 + 1))
    )
   ) (fun j3 =>
    Option.bind (ix list x1) fun x4 =>
    Option.bind (s_AffineValid n x4) fun x5 =>
    bif !x5 then (
     j3 true
    ) else (
     Option.bind (s_l1Depth n x4) fun x6 =>
     j3 (decide (depth < x6))
    )
   )
  ) else (
   jn (fun (x9 : Bool) =>
    some x9
   ) (fun j8 =>
    bif decide ((1 : Int) ≤ (list.length : Int)) then (
     j8 (decide ((list.length : Int) ≤ 2))
    ) else (
     j8 false
    )
   )
  )
 ) n 0)
def s_NestValid (n : Nat) (nest : List Loop) : Option Bool := (
 loopM (fun again2 (x1 : Int) =>
  jn (fun (x4 : Bool) =>
   bif x4 then (
    jn (fun (x9 : Bool) =>
     bif x9 then (
      some false
     ) else (
      again2 (wr (x1 + 1))
     )
    ) (fun j5 =>
     Option.bind (ix nest x1) fun x6 =>
     Option.bind (s_l2Side n x6.lo x1) fun x7 =>
     bif !x7 then (
      j5 true
     ) else (
      Option.bind (s_l2Side n x6.hi x1) fun x8 =>
      j5 (!x8)
     )
    )
   ) else (
    some (decide ((nest.length : Int) ≤ 4))
   )
  ) (fun j3 =>
   bif decide (x1 < (nest.length : Int)) then (
    j3 (decide ((nest.length : Int) ≤ 4))
   ) else (
    j3 false
   )
  )
 ) n 0)
def s_l2Work : Nat → (List Loop) → (List Int) → Int →  Option Int
 | 0, _, _, _ => none
 | n + 1, nest, p, most => (
  bif decide ((p.length : Int) = (nest.length : Int)) then (
   some 1
  ) else (
   Option.bind (ix nest (p.length : Int)) fun x1 =>
   Option.bind (s_l2Range n x1 p) fun x2 =>
   loopM (fun again5 ((x3, x4) : Int × Int) =>
    jn (fun (x7 : Bool) =>
     bif x7 then (
      Option.bind (app [] p) fun x8 =>
      Option.bind (app x8 [x4]) fun x9 =>
      Option.bind (s_l2Work n nest x9 (wr (most - x3))) fun x10 =>
      again5 (wr (x3 + x10), wr (x4 + 1))
     ) else (
      some x3
     )
    ) (fun j6 =>
     bif decide (x4 < x2.2) then (
      j6 (decide (x3 ≤ most))
     ) else (
      j6 false
     )
    )
   ) n (1, x2.1)
  ))
def s_NestPoints (n : Nat) (nest : List Loop) : Option ((List (List Int)) × Bool) := (
 jn (fun (x4 : Bool) =>
  bif x4 then (
   some ([], false)
  ) else (
   Option.bind (s_l2Points n [] nest []) fun x5 =>
   bif decide ((120 : Int) < (x5.length : Int)) then (
    some ([], false)
   ) else (
    some (x5, true)
   )
  )
 ) (fun j1 =>
  Option.bind (s_NestValid n nest) fun x2 =>
  bif !x2 then (
   j1 true
  ) else (
   Option.bind (s_l2Work n nest [] 1200) fun x3 =>
   j1 (decide ((1200 : Int) < x3))
  )
 ))
def s_l3Access (n : Nat) (a : Access) (depth : Int) : Option Bool := (
 loopM (fun again2 (x1 : Int) =>
  bif decide (x1 < (a.subs.length : Int)) then (
   jn (fun (x7 : Bool) =>
    bif x7 then (
     some false
    ) else (
     again2 (wr (x1 + 1))
    )
   ) (fun j3 =>
    Option.bind (ix a.subs x1) fun x4 =>
    Option.bind (s_AffineValid n x4) fun x5 =>
    bif !x5 then (
     j3 true
    ) else (
     Option.bind (s_l1Depth n x4) fun x6 =>
     j3 (decide (depth < x6))
    )
   )
  ) else (
   jn (fun (x9 : Bool) =>
    some x9
   ) (fun j8 =>
    bif decide ((a.array.length : Int) = 1) then (
     bif !Op.bytesLess a.array [65] then (
      bif (Op.bytesLess a.array [68] || a.array == [68]) then (
       bif decide ((1 : Int) ≤ (a.subs.length : Int)) then (
        j8 (decide ((a.subs.length : Int) ≤ 2))
       ) else (
        j8 false
       )
      ) else (
       j8 false
      )
     ) else (
      j8 false
     )
    ) else (
     j8 false
    )
   )
  )
 ) n 0)
def s_l3Kids (n : Nat) (kind : Int) : Option Int := (
 jn (fun (x2 : Bool) =>
  bif x2 then (
   some 0
  ) else (
   jn (fun (x4 : Bool) =>
    bif x4 then (
     some 2
    ) else (
     some (-1)
    )
   ) (fun j3 =>
    bif decide (kind = 4) then (
     j3 (decide (kind = 4))
    ) else (
     bif decide (kind = 5) then (
      j3 (decide (kind = 5))
     ) else (
      j3 (decide (kind = 6))
     )
    )
   )
  )
 ) (fun j1 =>
  bif decide (kind = 1) then (
   j1 (decide (kind = 1))
  ) else (
   bif decide (kind = 2) then (
    j1 (decide (kind = 2))
   ) else (
    j1 (decide (kind = 3))
   )
  )
 ))
def s_l3Empty (n : Nat) (a : Access) : Option Bool := (
 jn (fun (x2 : Bool) =>
  some x2
 ) (fun j1 =>
  bif decide (a.array = []) then (
   j1 (decide ((a.subs.length : Int) = 0))
  ) else (
   j1 false
  )
 ))
def s_l3None (n : Nat) (a : Affine) : Option Bool := (
 jn (fun (x2 : Bool) =>
  some x2
 ) (fun j1 =>
  bif decide ((a.coefs.length : Int) = 0) then (
   j1 (decide (a.const = 0))
  ) else (
   j1 false
  )
 ))
def s_l3Own (n : Nat) (e : Expr) (depth : Int) : Option Bool := (
 bif decide (e.kind = 2) then (
  jn (fun (x5 : Bool) =>
   some x5
  ) (fun j1 =>
   bif decide (e.num = 0) then (
    Option.bind (s_l3Empty n e.read) fun x2 =>
    bif x2 then (
     Option.bind (s_AffineValid n e.index) fun x3 =>
     bif x3 then (
      Option.bind (s_l1Depth n e.index) fun x4 =>
      j1 (decide (x4 ≤ depth))
     ) else (
      j1 false
     )
    ) else (
     j1 false
    )
   ) else (
    j1 false
   )
  )
 ) else (
  bif decide (e.kind = 3) then (
   jn (fun (x9 : Bool) =>
    some x9
   ) (fun j6 =>
    bif decide (e.num = 0) then (
     Option.bind (s_l3None n e.index) fun x7 =>
     bif x7 then (
      Option.bind (s_l3Access n e.read depth) fun x8 =>
      j6 x8
     ) else (
      j6 false
     )
    ) else (
     j6 false
    )
   )
  ) else (
   bif decide (e.kind = 1) then (
    jn (fun (x13 : Bool) =>
     some x13
    ) (fun j10 =>
     bif decide ((0 : Int) ≤ e.num) then (
      bif decide (e.num ≤ 99) then (
       Option.bind (s_l3None n e.index) fun x11 =>
       bif x11 then (
        Option.bind (s_l3Empty n e.read) fun x12 =>
        j10 x12
       ) else (
        j10 false
       )
      ) else (
       j10 false
      )
     ) else (
      j10 false
     )
    )
   ) else (
    jn (fun (x17 : Bool) =>
     some x17
    ) (fun j14 =>
     bif decide (e.num = 0) then (
      Option.bind (s_l3None n e.index) fun x15 =>
      bif x15 then (
       Option.bind (s_l3Empty n e.read) fun x16 =>
       j14 x16
      ) else (
       j14 false
      )
     ) else (
      j14 false
     )
    )
   )
  )
 ))
def s_l3Shape : Nat → Expr → Int → Int →  Option Bool
 | 0, _, _, _ => none
 | n + 1, e, depth, levels => (
  jn (fun (x4 : Bool) =>
   bif x4 then (
    some false
   ) else (
    loopM (fun again6 (x5 : Int) =>
     bif decide (x5 < (e.kids.length : Int)) then (
      Option.bind (ix e.kids x5) fun x7 =>
      Option.bind (s_l3Shape n x7 depth (wr (levels - 1))) fun x8 =>
      bif !x8 then (
       some false
      ) else (
       again6 (wr (x5 + 1))
      )
     ) else (
      some true
     )
    ) n 0
   )
  ) (fun j1 =>
   bif decide (levels < 1) then (
    j1 true
   ) else (
    Option.bind (s_l3Kids n e.kind) fun x2 =>
    bif !decide (x2 = (e.kids.length : Int)) then (
     j1 true
    ) else (
     Option.bind (s_l3Own n e depth) fun x3 =>
     j1 (!x3)
    )
   )
  ))
def s_l3Count : Nat → Expr → Int →  Option Int
 | 0, _, _ => none
 | n + 1, e, levels => (
  loopM (fun again3 ((x1, x2) : Int × Int) =>
   jn (fun (x5 : Bool) =>
    bif x5 then (
     Option.bind (ix e.kids x2) fun x6 =>
     Option.bind (s_l3Count n x6 (wr (levels - 1))) fun x7 =>
     again3 (wr (x1 + x7), wr (x2 + 1))
    ) else (
     some x1
    )
   ) (fun j4 =>
    bif decide (x2 < (e.kids.length : Int)) then (
     j4 (decide ((0 : Int) < levels))
    ) else (
     j4 false
    )
   )
  ) n (1, 0))
def s_StmtValid (n : Nat) (s : Stmt) (depth : Int) : Option Bool := (
 jn (fun (x4 : Bool) =>
  bif x4 then (
   some false
  ) else (
   Option.bind (s_l3Count n s.value 5) fun x5 =>
   some (decide (x5 ≤ 12))
  )
 ) (fun j1 =>
  bif decide (depth < 0) then (
   j1 true
  ) else (
   bif decide ((4 : Int) < depth) then (
    j1 true
   ) else (
    Option.bind (s_l3Access n s.write depth) fun x2 =>
    bif !x2 then (
     j1 true
    ) else (
     Option.bind (s_l3Shape n s.value depth 5) fun x3 =>
     j1 (!x3)
    )
   )
  )
 ))
def s_l3CopyAffine (n : Nat) (a : Affine) : Option Affine := (
 bif decide ((a.coefs.length : Int) = 0) then (
  some (⟨[], a.const⟩ : Affine)
 ) else (
  Option.bind (app [] a.coefs) fun x1 =>
  some (⟨x1, a.const⟩ : Affine)
 ))
def s_l3CopyAccess (n : Nat) (a : Access) : Option Access := (
 loopM (fun again4 ((x1, x2) : (List Affine) × Int) =>
  bif decide (x2 < (a.subs.length : Int)) then (
   Option.bind (ix a.subs x2) fun x5 =>
   Option.bind (s_l3CopyAffine n x5) fun x6 =>
   Option.bind (app x1 [x6]) fun x7 =>
   again4 (x7, wr (x2 + 1))
  ) else (
   some (⟨a.array, x1⟩ : Access)
  )
 ) n ([], 0))
def s_l3Reads : Nat → (List Access) → Expr →  Option (List Access)
 | 0, _, _ => none
 | n + 1, out, e => (
  jn (fun (x4 : (List Access)) =>
   loopM (fun again9 ((x6, x7) : (List Access) × Int) =>
    bif decide (x7 < (e.kids.length : Int)) then (
     Option.bind (ix e.kids x7) fun x10 =>
     Option.bind (s_l3Reads n x6 x10) fun x11 =>
     again9 (x11, wr (x7 + 1))
    ) else (
     some x6
    )
   ) n (x4, 0)
  ) (fun j1 =>
   bif decide (e.kind = 3) then (
    Option.bind (s_l3CopyAccess n e.read) fun x2 =>
    Option.bind (app out [x2]) fun x3 =>
    j1 x3
   ) else (
    j1 out
   )
  ))
def s_l4Size (n : Nat) (a : Arr) : Option Int := (
 loopM (fun again3 ((x1, x2) : Int × Int) =>
  bif decide (x2 < (a.dims.length : Int)) then (
   Option.bind (ix a.dims x2) fun x4 =>
   again3 (wr (x1 * x4), wr (x2 + 1))
  ) else (
   some x1
  )
 ) n (1, 0))
def s_l4Cell (n : Nat) (list : List Arr) (a : Access) (point : List Int) : Option Int := (
 loopM (fun again3 ((x1, x2) : Int × Int) =>
  bif decide (x2 < (list.length : Int)) then (
   Option.bind (ix list x2) fun x4 =>
   bif !decide (x4.name = a.array) then (
    Option.bind (s_l4Size n x4) fun x5 =>
    again3 (wr (x1 + x5), wr (x2 + 1))
   ) else (
    loopM (fun again8 ((x6, x7) : Int × Int) =>
     bif decide (x7 < (a.subs.length : Int)) then (
      bif !decide ((a.subs.length : Int) = (x4.dims.length : Int)) then (
       some (-1)
      ) else (
       Option.bind (ix a.subs x7) fun x9 =>
       Option.bind (s_l1Eval n x9 point) fun x10 =>
       jn (fun (x13 : Bool) =>
        bif x13 then (
         some (-1)
        ) else (
         Option.bind (ix x4.dims x7) fun x14 =>
         again8 (wr ((wr (x6 * x14)) + x10), wr (x7 + 1))
        )
       ) (fun j11 =>
        bif decide (x10 < 0) then (
         j11 true
        ) else (
         Option.bind (ix x4.dims x7) fun x12 =>
         j11 (decide (x12 ≤ x10))
        )
       )
      )
     ) else (
      some (wr (x1 + x6))
     )
    ) n (0, 0)
   )
  ) else (
   some (-1)
  )
 ) n (0, 0))
def s_l4Cells (n : Nat) (list : List Arr) (s : Stmt) (point : List Int) : Option ((List Int) × Int × Bool) := (
 Option.bind (s_l3Reads n [] s.value) fun x1 =>
 loopM (fun again5 ((x2, x3) : (List Int) × Int) =>
  bif decide (x3 < (x1.length : Int)) then (
   Option.bind (ix x1 x3) fun x6 =>
   Option.bind (s_l4Cell n list x6 point) fun x7 =>
   bif decide (x7 < 0) then (
    some ([], 0, false)
   ) else (
    Option.bind (app x2 [x7]) fun x8 =>
    again5 (x8, wr (x3 + 1))
   )
  ) else (
   Option.bind (s_l4Cell n list s.write point) fun x9 =>
   bif decide (x9 < 0) then (
    some ([], 0, false)
   ) else (
    some (x2, x9, true)
   )
  )
 ) n ([], 0))
def s_l1Point (n : Nat) (p : List Int) : Option Bool := (
 loopM (fun again2 (x1 : Int) =>
  bif decide (x1 < (p.length : Int)) then (
   Option.bind (ix p x1) fun x3 =>
   Option.bind (s_l1Within n x3 9999) fun x4 =>
   bif !x4 then (
    some false
   ) else (
    again2 (wr (x1 + 1))
   )
  ) else (
   some (decide ((p.length : Int) ≤ 4))
  )
 ) n 0)
def s_l4Part (n : Nat) (list : List Arr) (part : Part) : Option (Int × Bool) := (
 Option.bind (s_NestPoints n part.nest) fun x1 =>
 jn (fun (x3 : Bool) =>
  bif x3 then (
   some (0, false)
  ) else (
   loopM (fun again5 (x4 : Int) =>
    bif decide (x4 < (part.body.length : Int)) then (
     Option.bind (ix part.body x4) fun x6 =>
     Option.bind (s_StmtValid n x6 (part.nest.length : Int)) fun x7 =>
     bif !x7 then (
      some (0, false)
     ) else (
      loopM (fun again9 (x8 : Int) =>
       bif decide (x8 < (x1.1.length : Int)) then (
        Option.bind (ix x1.1 x8) fun x10 =>
        Option.bind (s_l4Cells n list x6 x10) fun x11 =>
        jn (fun (x14 : Bool) =>
         bif x14 then (
          some (0, false)
         ) else (
          again9 (wr (x8 + 1))
         )
        ) (fun j12 =>
         bif !x11.2.2 then (
          j12 true
         ) else (
          Option.bind (s_l1Point n x10) fun x13 =>
          j12 (!x13)
         )
        )
       ) else (
        again5 (wr (x4 + 1))
       )
      ) n 0
     )
    ) else (
     some (wr ((x1.1.length : Int) * (part.body.length : Int)), true)
    )
   ) n 0
  )
 ) (fun j2 =>
  bif !x1.2 then (
   j2 true
  ) else (
   bif decide ((part.body.length : Int) < 1) then (
    j2 true
   ) else (
    j2 (decide ((4 : Int) < (part.body.length : Int)))
   )
  )
 ))
def s_ProgramValid (n : Nat) (p : Prog) : Option Bool := (
 jn (fun (x3 : Bool) =>
  bif x3 then (
   some false
  ) else (
   loopM (fun again6 ((x4, x5) : Int × Int) =>
    bif decide (x5 < (p.parts.length : Int)) then (
     Option.bind (ix p.parts x5) fun x7 =>
     Option.bind (s_l4Part n p.arrays x7) fun x8 =>
     bif !x8.2 then (
      some false
     ) else (
      again6 (wr (x4 + x8.1), wr (x5 + 1))
     )
    ) else (
     some (decide (x4 ≤ 120))
    )
   ) n (0, 0)
  )
 ) (fun j1 =>
  Option.bind (s_l4Arrays n p.arrays) fun x2 =>
  bif !x2 then (
   j1 true
  ) else (
   j1 (decide ((4 : Int) < (p.parts.length : Int)))
  )
 ))
def s_l4Instances (n : Nat) (p : Prog) : Option (List Inst) := (
 loopM (fun again4 ((x1, x2) : (List Inst) × Int) =>
  bif decide (x2 < (p.parts.length : Int)) then (
   Option.bind (ix p.parts x2) fun x5 =>
   Option.bind (s_l2Points n [] x5.nest []) fun x6 =>
   loopM (fun again10 ((x7, x8) : (List Inst) × Int) =>
    bif decide (x8 < (x6.length : Int)) then (
     loopM (fun again14 ((x11, x12) : (List Inst) × Int) =>
      bif decide (x12 < (x5.body.length : Int)) then (
       Option.bind (ix x6 x8) fun x15 =>
       Option.bind (app [] x15) fun x16 =>
       Option.bind (app x11 [(⟨x2, x12, x16⟩ : Inst)]) fun x17 =>
       again14 (x17, wr (x12 + 1))
      ) else (
       again10 (x11, wr (x8 + 1))
      )
     ) n (x7, 0)
    ) else (
     again4 (x7, wr (x2 + 1))
    )
   ) n (x1, 0)
  ) else (
   some x1
  )
 ) n ([], 0))
def l_IndexFunc_Stmt (n : Nat) (s : List Stmt) (f : Stmt → Option Bool) : Option Int := (
 loopM (fun again2 (x1 : Int) =>
  bif decide (x1 < (s.length : Int)) then (
   Option.bind (ix s x1) fun x3 =>
   Option.bind (f x3) fun x4 =>
   bif x4 then (
    some x1
   ) else (
    again2 (wr (x1 + 1))
   )
  ) else (
   some (-1)
  )
 ) n 0)
def l_ContainsFunc_Stmt (n : Nat) (s : List Stmt) (f : Stmt → Option Bool) : Option Bool := (
 Option.bind (l_IndexFunc_Stmt n s f) fun x1 =>
 some (decide ((0 : Int) ≤ x1)))
def i_within (n : Nat) (n_a0 : Int) (low : Int) (high : Int) : Option Bool := (
 jn (fun (x2 : Bool) =>
  some x2
 ) (fun j1 =>
  bif decide (low ≤ n_a0) then (
   j1 (decide (n_a0 ≤ high))
  ) else (
   j1 false
  )
 ))
def i_isArray (n : Nat) (s : List UInt8) : Option Bool := (
 jn (fun (x3 : Bool) =>
  some x3
 ) (fun j1 =>
  bif decide ((s.length : Int) = 1) then (
   Option.bind (m_contains [65, 66, 67, 68] s) fun x2 =>
   j1 x2
  ) else (
   j1 false
  )
 ))
def l_IndexFunc_Affine (n : Nat) (s : List Affine) (f : Affine → Option Bool) : Option Int := (
 loopM (fun again2 (x1 : Int) =>
  bif decide (x1 < (s.length : Int)) then (
   Option.bind (ix s x1) fun x3 =>
   Option.bind (f x3) fun x4 =>
   bif x4 then (
    some x1
   ) else (
    again2 (wr (x1 + 1))
   )
  ) else (
   some (-1)
  )
 ) n 0)
def l_ContainsFunc_Affine (n : Nat) (s : List Affine) (f : Affine → Option Bool) : Option Bool := (
 Option.bind (l_IndexFunc_Affine n s f) fun x1 =>
 some (decide ((0 : Int) ≤ x1)))
def i_isConst (n : Nat) (n_a0 : Int) : Option Bool := (
 Option.bind (i_within n n_a0 (-99) 99) fun x1 =>
 some x1)
def i_AffineValid_1 (n : Nat) (c : Int) : Option Bool := (
 Option.bind (i_within n c (-9) 9) fun x1 =>
 some (!x1))
def l_IndexFunc_int (n : Nat) (s : List Int) (f : Int → Option Bool) : Option Int := (
 loopM (fun again2 (x1 : Int) =>
  bif decide (x1 < (s.length : Int)) then (
   Option.bind (ix s x1) fun x3 =>
   Option.bind (f x3) fun x4 =>
   bif x4 then (
    some x1
   ) else (
    again2 (wr (x1 + 1))
   )
  ) else (
   some (-1)
  )
 ) n 0)
def l_ContainsFunc_int (n : Nat) (s : List Int) (f : Int → Option Bool) : Option Bool := (
 Option.bind (l_IndexFunc_int n s f) fun x1 =>
 some (decide ((0 : Int) ≤ x1)))
def i_AffineValid (n : Nat) (a : Affine) : Option Bool := (
 jn (fun (x4 : Bool) =>
  some x4
 ) (fun j1 =>
  bif decide ((a.coefs.length : Int) = 4) then (
   Option.bind (i_isConst n a.const) fun x2 =>
   bif x2 then (
    Option.bind (l_ContainsFunc_int n a.coefs (fun q0 => i_AffineValid_1 n q0)) fun x3 =>
    j1 (!x3)
   ) else (
    j1 false
   )
  ) else (
   j1 false
  )
 ))
def i_Affine_depth (n : Nat) (a : Affine) : Option Int := (
 loopM (fun again2 (x1 : Int) =>
  jn (fun (x5 : Bool) =>
   bif x5 then (
    again2 (wr (x1 - 1))
   ) else (
    some x1
   )
  ) (fun j3 =>
   bif decide ((0 : Int) < x1) then (
    Option.bind (ix a.coefs (wr (x1 - 1))) fun x4 =>
    j3 (decide (x4 = 0))
   ) else (
    j3 false
   )
  )
 ) n (a.coefs.length : Int))
def i_accessOk_1 (n : Nat) (s : Affine) (c0__a1 : Int) : Option Bool := (
 jn (fun (x4 : Bool) =>
  some x4
 ) (fun j1 =>
  Option.bind (i_AffineValid n s) fun x2 =>
  bif !x2 then (
   j1 true
  ) else (
   Option.bind (i_Affine_depth n s) fun x3 =>
   j1 (decide (c0__a1 < x3))
  )
 ))
def i_accessOk (n : Nat) (a : Access) (depth : Int) : Option Bool := (
 jn (fun (x5 : Bool) =>
  some x5
 ) (fun j1 =>
  Option.bind (i_isArray n a.array) fun x2 =>
  bif x2 then (
   Option.bind (i_within n (a.subs.length : Int) 1 2) fun x3 =>
   bif x3 then (
    Option.bind (l_ContainsFunc_Affine n a.subs (fun q0 => i_accessOk_1 n q0 depth)) fun x4 =>
    j1 (!x4)
   ) else (
    j1 false
   )
  ) else (
   j1 false
  )
 ))
def i_noAffine (n : Nat) (a : Affine) : Option Bool := (
 jn (fun (x2 : Bool) =>
  some x2
 ) (fun j1 =>
  bif decide ((a.coefs.length : Int) = 0) then (
   j1 (decide (a.const = 0))
  ) else (
   j1 false
  )
 ))
def i_noAccess (n : Nat) (a : Access) : Option Bool := (
 jn (fun (x2 : Bool) =>
  some x2
 ) (fun j1 =>
  bif decide (a.array = []) then (
   j1 (decide ((a.subs.length : Int) = 0))
  ) else (
   j1 false
  )
 ))
def i_isOp (n : Nat) (kind : Int) : Option Bool := (
 Option.bind (i_within n kind 4 6) fun x1 =>
 some x1)
def i_exprScan : Nat → Expr → Int → Int → Int →  Option (Bool × Int)
 | 0, _, _, _, _ => none
 | n + 1, e, depth, deep, count => (
  jn (fun (x2 : Bool) =>
   bif x2 then (
    some (false, wr (count + 1))
   ) else (
    jn (fun (x10 : Bool) =>
     bif x10 then (
      some (false, wr (count + 1))
     ) else (
      bif decide (e.kind = 1) then (
       jn (fun (x13 : Bool) =>
        some (x13, wr (count + 1))
       ) (fun j11 =>
        Option.bind (i_within n e.num 0 99) fun x12 =>
        bif x12 then (
         j11 (decide ((e.kids.length : Int) = 0))
        ) else (
         j11 false
        )
       )
      ) else (
       bif decide (e.kind = 2) then (
        jn (fun (x17 : Bool) =>
         some (x17, wr (count + 1))
        ) (fun j14 =>
         Option.bind (i_AffineValid n e.index) fun x15 =>
         bif x15 then (
          Option.bind (i_Affine_depth n e.index) fun x16 =>
          bif decide (x16 ≤ depth) then (
           j14 (decide ((e.kids.length : Int) = 0))
          ) else (
           j14 false
          )
         ) else (
          j14 false
         )
        )
       ) else (
        bif decide (e.kind = 3) then (
         jn (fun (x20 : Bool) =>
          some (x20, wr (count + 1))
         ) (fun j18 =>
          Option.bind (i_accessOk n e.read depth) fun x19 =>
          bif x19 then (
           j18 (decide ((e.kids.length : Int) = 0))
          ) else (
           j18 false
          )
         )
        ) else (
         jn (fun (x23 : Bool) =>
          bif x23 then (
           some (false, wr (count + 1))
          ) else (
           jn (fun ((x29, x30) : Int × Bool) =>
            some (x30, x29)
           ) (fun j24 =>
            Option.bind (ix e.kids 0) fun x25 =>
            Option.bind (i_exprScan n x25 depth (wr (deep + 1)) (wr (count + 1))) fun x26 =>
            bif x26.1 then (
             Option.bind (ix e.kids 1) fun x27 =>
             Option.bind (i_exprScan n x27 depth (wr (deep + 1)) x26.2) fun x28 =>
             j24 (x28.2, x28.1)
            ) else (
             j24 (x26.2, false)
            )
           )
          )
         ) (fun j21 =>
          Option.bind (i_isOp n e.kind) fun x22 =>
          bif !x22 then (
           j21 true
          ) else (
           j21 (!decide ((e.kids.length : Int) = 2))
          )
         )
        )
       )
      )
     )
    ) (fun j3 =>
     bif !decide (e.kind = 1) then (
      bif !decide (e.num = 0) then (
       j3 true
      ) else (
       bif !decide (e.kind = 2) then (
        Option.bind (i_noAffine n e.index) fun x8 =>
        bif !x8 then (
         j3 true
        ) else (
         bif !decide (e.kind = 3) then (
          Option.bind (i_noAccess n e.read) fun x9 =>
          j3 (!x9)
         ) else (
          j3 false
         )
        )
       ) else (
        bif !decide (e.kind = 3) then (
         Option.bind (i_noAccess n e.read) fun x7 =>
         j3 (!x7)
        ) else (
         j3 false
        )
       )
      )
     ) else (
      bif !decide (e.kind = 2) then (
       Option.bind (i_noAffine n e.index) fun x5 =>
       bif !x5 then (
        j3 true
       ) else (
        bif !decide (e.kind = 3) then (
         Option.bind (i_noAccess n e.read) fun x6 =>
         j3 (!x6)
        ) else (
         j3 false
        )
       )
      ) else (
       bif !decide (e.kind = 3) then (
        Option.bind (i_noAccess n e.read) fun x4 =>
        j3 (!x4)
       ) else (
        j3 false
       )
      )
     )
    )
   )
  ) (fun j1 =>
   bif decide ((12 : Int) < wr (count + 1)) then (
    j1 true
   ) else (
    j1 (decide ((5 : Int) < deep))
   )
  ))
def i_StmtValid (n : Nat) (s : Stmt) (depth : Int) : Option Bool := (
 jn (fun ((x5, x6) : Int × Bool) =>
  some x6
 ) (fun j1 =>
  Option.bind (i_within n depth 0 4) fun x2 =>
  bif x2 then (
   Option.bind (i_accessOk n s.write depth) fun x3 =>
   bif x3 then (
    Option.bind (i_exprScan n s.value depth 1 0) fun x4 =>
    j1 (x4.2, x4.1)
   ) else (
    j1 (0, false)
   )
  ) else (
   j1 (0, false)
  )
 ))
def i_Program_instances_1 (n : Nat) (s : Stmt) (c0__a1 : Part) : Option Bool := (
 Option.bind (i_StmtValid n s (c0__a1.nest.length : Int)) fun x1 =>
 some (!x1))
def i_isPoint_1 (n : Nat) (n_a0 : Int) : Option Bool := (
 Option.bind (i_within n n_a0 (-9999) 9999) fun x1 =>
 some (!x1))
def i_isPoint (n : Nat) (point : List Int) : Option Bool := (
 jn (fun (x3 : Bool) =>
  some x3
 ) (fun j1 =>
  bif decide ((point.length : Int) ≤ 4) then (
   Option.bind (l_ContainsFunc_int n point (fun q0 => i_isPoint_1 n q0)) fun x2 =>
   j1 (!x2)
  ) else (
   j1 false
  )
 ))
def l_IndexFunc_Access (n : Nat) (s : List Access) (f : Access → Option Bool) : Option Int := (
 loopM (fun again2 (x1 : Int) =>
  bif decide (x1 < (s.length : Int)) then (
   Option.bind (ix s x1) fun x3 =>
   Option.bind (f x3) fun x4 =>
   bif x4 then (
    some x1
   ) else (
    again2 (wr (x1 + 1))
   )
  ) else (
   some (-1)
  )
 ) n 0)
def l_ContainsFunc_Access (n : Nat) (s : List Access) (f : Access → Option Bool) : Option Bool := (
 Option.bind (l_IndexFunc_Access n s f) fun x1 =>
 some (decide ((0 : Int) ≤ x1)))
def i_Affine_eval (n : Nat) (a : Affine) (point : List Int) : Option Int := (
 loopM (fun again3 ((x1, x2) : Int × Int) =>
  bif decide (x2 < (point.length : Int)) then (
   Option.bind (ix point x2) fun x4 =>
   Option.bind (ix a.coefs x2) fun x5 =>
   again3 (wr (x1 + (wr (x5 * x4))), wr (x2 + 1))
  ) else (
   some x1
  )
 ) n (a.const, 0))
def i_Array_size (n : Nat) (a : Arr) : Option Int := (
 loopM (fun again3 ((x1, x2) : Int × Int) =>
  bif decide (x2 < (a.dims.length : Int)) then (
   Option.bind (ix a.dims x2) fun x4 =>
   again3 (wr (x1 * x4), wr (x2 + 1))
  ) else (
   some x1
  )
 ) n (1, 0))
def i_Program_cell (n : Nat) (p : Prog) (a : Access) (point : List Int) : Option Int := (
 loopM (fun again3 ((x1, x2) : Int × Int) =>
  bif decide (x2 < (p.arrays.length : Int)) then (
   Option.bind (ix p.arrays x2) fun x4 =>
   bif !decide (x4.name = a.array) then (
    Option.bind (i_Array_size n x4) fun x5 =>
    again3 (wr (x1 + x5), wr (x2 + 1))
   ) else (
    bif !decide ((a.subs.length : Int) = (x4.dims.length : Int)) then (
     some (-1)
    ) else (
     loopM (fun again8 ((x6, x7) : Int × Int) =>
      bif decide (x7 < (a.subs.length : Int)) then (
       Option.bind (ix a.subs x7) fun x9 =>
       Option.bind (i_Affine_eval n x9 point) fun x10 =>
       Option.bind (ix x4.dims x7) fun x11 =>
       Option.bind (i_within n x10 0 (wr (x11 - 1))) fun x12 =>
       bif !x12 then (
        some (-1)
       ) else (
        again8 (wr ((wr (x6 * x11)) + x10), wr (x7 + 1))
       )
      ) else (
       some (wr (x1 + x6))
      )
     ) n (0, 0)
    )
   )
  ) else (
   some (-1)
  )
 ) n (0, 0))
def i_Program_stmtOk_1 (n : Nat) (a : Access) (c0__a1 : Prog) (c1__a2 : List Int) : Option Bool := (
 Option.bind (i_Program_cell n c0__a1 a c1__a2) fun x1 =>
 some (decide (x1 < 0)))
def i_reads : Nat → Expr →  Option (List Access)
 | 0, _ => none
 | n + 1, e => (
  bif decide (e.kind = 3) then (
   some [e.read]
  ) else (
   loopM (fun again4 ((x1, x2) : (List Access) × Int) =>
    bif decide (x2 < (e.kids.length : Int)) then (
     Option.bind (ix e.kids x2) fun x5 =>
     Option.bind (i_reads n x5) fun x6 =>
     Option.bind (app x1 x6) fun x7 =>
     again4 (x7, wr (x2 + 1))
    ) else (
     some x1
    )
   ) n ([], 0)
  ))
def i_Program_stmtOk (n : Nat) (p : Prog) (s : Stmt) (point : List Int) : Option Bool := (
 jn (fun (x5 : Bool) =>
  some x5
 ) (fun j1 =>
  Option.bind (i_Program_cell n p s.write point) fun x2 =>
  bif decide ((0 : Int) ≤ x2) then (
   Option.bind (i_reads n s.value) fun x3 =>
   Option.bind (l_ContainsFunc_Access n x3 (fun q0 => i_Program_stmtOk_1 n q0 p point)) fun x4 =>
   j1 (!x4)
  ) else (
   j1 false
  )
 ))
def i_arraysOk_1 (n : Nat) (n_a0 : Int) : Option Bool := (
 Option.bind (i_within n n_a0 1 6) fun x1 =>
 some (!x1))
def i_arraysOk (n : Nat) (list : List Arr) : Option Bool := (
 loopM (fun again2 (x1 : Int) =>
  bif decide (x1 < (list.length : Int)) then (
   Option.bind (ix list x1) fun x3 =>
   jn (fun (x11 : Bool) =>
    bif x11 then (
     some false
    ) else (
     again2 (wr (x1 + 1))
    )
   ) (fun j4 =>
    Option.bind (i_isArray n x3.name) fun x5 =>
    bif !x5 then (
     j4 true
    ) else (
     bif decide ((0 : Int) < x1) then (
      Option.bind (ix list (wr (x1 - 1))) fun x8 =>
      bif !Op.bytesLess x8.name x3.name then (
       j4 true
      ) else (
       Option.bind (i_within n (x3.dims.length : Int) 1 2) fun x9 =>
       bif !x9 then (
        j4 true
       ) else (
        Option.bind (l_ContainsFunc_int n x3.dims (fun q0 => i_arraysOk_1 n q0)) fun x10 =>
        j4 x10
       )
      )
     ) else (
      Option.bind (i_within n (x3.dims.length : Int) 1 2) fun x6 =>
      bif !x6 then (
       j4 true
      ) else (
       Option.bind (l_ContainsFunc_int n x3.dims (fun q0 => i_arraysOk_1 n q0)) fun x7 =>
       j4 x7
      )
     )
    )
   )
  ) else (
   some (decide ((list.length : Int) ≤ 4))
  )
 ) n 0)
def i_Loop_span (n : Nat) (l : Loop) (point : List Int) : Option (Int × Int) := (
 Option.bind (ix l.lo 0) fun x1 =>
 Option.bind (i_Affine_eval n x1 point) fun x2 =>
 Option.bind (ix l.hi 0) fun x3 =>
 Option.bind (i_Affine_eval n x3 point) fun x4 =>
 loopM (fun again7 ((x5, x6) : Int × Int) =>
  bif decide (x6 < (l.lo.length : Int)) then (
   Option.bind (ix l.lo x6) fun x8 =>
   Option.bind (i_Affine_eval n x8 point) fun x9 =>
   again7 (max x5 x9, wr (x6 + 1))
  ) else (
   loopM (fun again12 ((x10, x11) : Int × Int) =>
    bif decide (x11 < (l.hi.length : Int)) then (
     Option.bind (ix l.hi x11) fun x13 =>
     Option.bind (i_Affine_eval n x13 point) fun x14 =>
     again12 (min x10 x14, wr (x11 + 1))
    ) else (
     some (x5, x10)
    )
   ) n (x4, 0)
  )
 ) n (x2, 0))
def i_walking_walk : Nat → Walking → (List Int) →  Option (Bool × Walking)
 | 0, _, _ => none
 | n + 1, w_a0, point => (
  bif decide ((point.length : Int) = (w_a0.nest.length : Int)) then (
   Option.bind (m_ownClone point) fun x1 =>
   Option.bind (app w_a0.out [x1]) fun x2 =>
   some (decide ((x2.length : Int) ≤ 120), (⟨w_a0.nest, w_a0.steps, x2⟩ : Walking))
  ) else (
   Option.bind (ix w_a0.nest (point.length : Int)) fun x3 =>
   Option.bind (i_Loop_span n x3 point) fun x4 =>
   loopM (fun again10 ((x5, x6, x7, x8) : (List Loop) × Int × (List (List Int)) × Int) =>
    bif decide (x8 < x4.2) then (
     jn (fun ((x15, x16, x17, x18) : (List Loop) × Int × (List (List Int)) × Bool) =>
      bif x18 then (
       some (false, (⟨x15, x16, x17⟩ : Walking))
      ) else (
       again10 (x15, x16, x17, wr (x8 + 1))
      )
     ) (fun j11 =>
      bif decide ((1200 : Int) < wr ((wr (x6 + 1)) + 1)) then (
       j11 (x5, wr (x6 + 1), x7, true)
      ) else (
       Option.bind (m_ownClone point) fun x12 =>
       Option.bind (app x12 [x8]) fun x13 =>
       Option.bind (i_walking_walk n (⟨x5, wr (x6 + 1), x7⟩ : Walking) x13) fun x14 =>
       j11 (x14.2.nest, x14.2.steps, x14.2.out, !x14.1)
      )
     )
    ) else (
     some (true, (⟨x5, x6, x7⟩ : Walking))
    )
   ) n (w_a0.nest, w_a0.steps, w_a0.out, x4.1)
  ))
def i_boundsOk_1 (n : Nat) (a : Affine) (c0__a1 : Int) : Option Bool := (
 jn (fun (x4 : Bool) =>
  some x4
 ) (fun j1 =>
  Option.bind (i_AffineValid n a) fun x2 =>
  bif !x2 then (
   j1 true
  ) else (
   Option.bind (i_Affine_depth n a) fun x3 =>
   j1 (decide (c0__a1 < x3))
  )
 ))
def i_boundsOk (n : Nat) (list : List Affine) (depth : Int) : Option Bool := (
 jn (fun (x4 : Bool) =>
  some x4
 ) (fun j1 =>
  Option.bind (i_within n (list.length : Int) 1 2) fun x2 =>
  bif x2 then (
   Option.bind (l_ContainsFunc_Affine n list (fun q0 => i_boundsOk_1 n q0 depth)) fun x3 =>
   j1 (!x3)
  ) else (
   j1 false
  )
 ))
def i_NestValid (n : Nat) (nest : List Loop) : Option Bool := (
 loopM (fun again2 (x1 : Int) =>
  bif decide (x1 < (nest.length : Int)) then (
   Option.bind (ix nest x1) fun x3 =>
   jn (fun (x7 : Bool) =>
    bif x7 then (
     some false
    ) else (
     again2 (wr (x1 + 1))
    )
   ) (fun j4 =>
    Option.bind (i_boundsOk n x3.lo x1) fun x5 =>
    bif !x5 then (
     j4 true
    ) else (
     Option.bind (i_boundsOk n x3.hi x1) fun x6 =>
     j4 (!x6)
    )
   )
  ) else (
   some (decide ((nest.length : Int) ≤ 4))
  )
 ) n 0)
def i_NestPoints (n : Nat) (nest : List Loop) : Option ((List (List Int)) × Bool) := (
 Option.bind (i_NestValid n nest) fun x1 =>
 bif !x1 then (
  some ([], false)
 ) else (
  Option.bind (i_walking_walk n (⟨nest, 0, []⟩ : Walking) []) fun x2 =>
  bif !x2.1 then (
   some ([], false)
  ) else (
   some (x2.2.out, true)
  )
 ))
def i_Program_instances (n : Nat) (p : Prog) : Option ((List Inst) × Bool) := (
 jn (fun (x3 : Bool) =>
  bif x3 then (
   some ([], false)
  ) else (
   loopM (fun again7 ((x4, x5) : (List Inst) × Int) =>
    bif decide (x5 < (p.parts.length : Int)) then (
     Option.bind (ix p.parts x5) fun x8 =>
     Option.bind (i_NestPoints n x8.nest) fun x9 =>
     jn (fun (x13 : Bool) =>
      bif x13 then (
       some ([], false)
      ) else (
       loopM (fun again17 ((x14, x15) : (List Inst) × Int) =>
        bif decide (x15 < (x9.1.length : Int)) then (
         Option.bind (ix x9.1 x15) fun x18 =>
         Option.bind (i_isPoint n x18) fun x19 =>
         bif !x19 then (
          some ([], false)
         ) else (
          loopM (fun again23 ((x20, x21) : (List Inst) × Int) =>
           bif decide (x21 < (x8.body.length : Int)) then (
            Option.bind (ix x8.body x21) fun x24 =>
            Option.bind (i_Program_stmtOk n p x24 x18) fun x25 =>
            bif !x25 then (
             some ([], false)
            ) else (
             Option.bind (m_ownClone x18) fun x26 =>
             Option.bind (app x20 [(⟨x5, x21, x26⟩ : Inst)]) fun x27 =>
             again23 (x27, wr (x21 + 1))
            )
           ) else (
            again17 (x20, wr (x15 + 1))
           )
          ) n (x14, 0)
         )
        ) else (
         again7 (x14, wr (x5 + 1))
        )
       ) n (x4, 0)
      )
     ) (fun j10 =>
      bif !x9.2 then (
       j10 true
      ) else (
       Option.bind (i_within n (x8.body.length : Int) 1 4) fun x11 =>
       bif !x11 then (
        j10 true
       ) else (
        Option.bind (l_ContainsFunc_Stmt n x8.body (fun q0 => i_Program_instances_1 n q0 x8)) fun x12 =>
        j10 x12
       )
      )
     )
    ) else (
     some (x4, decide ((x4.length : Int) ≤ 120))
    )
   ) n ([], 0)
  )
 ) (fun j1 =>
  Option.bind (i_arraysOk n p.arrays) fun x2 =>
  bif !x2 then (
   j1 true
  ) else (
   j1 (decide ((4 : Int) < (p.parts.length : Int)))
  )
 ))
def i_ProgramValid (n : Nat) (p : Prog) : Option Bool := (
 Option.bind (i_Program_instances n p) fun x1 =>
 some x1.2)
def i_Program_stmt (n : Nat) (p : Prog) (x : Inst) : Option Stmt := (
 Option.bind (ix p.parts x.part) fun x1 =>
 Option.bind (ix x1.body x.stmt) fun x2 =>
 some x2)
def i_Program_touched (n : Nat) (p : Prog) (x : Inst) : Option ((List Int) × Int) := (
 Option.bind (i_Program_stmt n p x) fun x1 =>
 Option.bind (i_reads n x1.value) fun x2 =>
 loopM (fun again6 ((x3, x4) : (List Int) × Int) =>
  bif decide (x4 < (x2.length : Int)) then (
   Option.bind (ix x2 x4) fun x7 =>
   Option.bind (i_Program_cell n p x7 x.point) fun x8 =>
   Option.bind (app x3 [x8]) fun x9 =>
   again6 (x9, wr (x4 + 1))
  ) else (
   Option.bind (i_Program_cell n p x1.write x.point) fun x10 =>
   some (x3, x10)
  )
 ) n ([], 0))
def s_l4Total (n : Nat) (p : Prog) : Option Int := (
 loopM (fun again3 ((x1, x2) : Int × Int) =>
  bif decide (x2 < (p.arrays.length : Int)) then (
   Option.bind (ix p.arrays x2) fun x4 =>
   Option.bind (s_l4Size n x4) fun x5 =>
   again3 (wr (x1 + x5), wr (x2 + 1))
  ) else (
   some x1
  )
 ) n (0, 0))
def s_MemoryValid (n : Nat) (p : Prog) (m : List Int) : Option Bool := (
 loopM (fun again2 (x1 : Int) =>
  bif decide (x1 < (m.length : Int)) then (
   jn (fun (x5 : Bool) =>
    bif x5 then (
     some false
    ) else (
     again2 (wr (x1 + 1))
    )
   ) (fun j3 =>
    Option.bind (ix m x1) fun x4 =>
    bif decide (x4 < 0) then (
     j3 true
    ) else (
     j3 (decide ((999 : Int) < x4))
    )
   )
  ) else (
   jn (fun (x9 : Bool) =>
    some x9
   ) (fun j6 =>
    Option.bind (s_ProgramValid n p) fun x7 =>
    bif x7 then (
     Option.bind (s_l4Total n p) fun x8 =>
     j6 (decide ((m.length : Int) = x8))
    ) else (
     j6 false
    )
   )
  )
 ) n 0)
def s_l5Wrap (n : Nat) (n_a0 : Int) : Option Int := (
 bif decide (Int.tmod n_a0 1000 < 0) then (
  some (wr ((wr ((Int.tmod n_a0 1000) + 999)) + 1))
 ) else (
  some (Int.tmod n_a0 1000)
 ))
def s_l5Eval : Nat → (List Arr) → (List Int) → Expr → (List Int) →  Option Int
 | 0, _, _, _, _ => none
 | n + 1, list, m, e, point => (
  bif decide (e.kind = 1) then (
   some e.num
  ) else (
   bif decide (e.kind = 2) then (
    Option.bind (s_l1Eval n e.index point) fun x1 =>
    Option.bind (s_l5Wrap n x1) fun x2 =>
    some x2
   ) else (
    bif decide (e.kind = 3) then (
     Option.bind (s_l4Cell n list e.read point) fun x3 =>
     Option.bind (ix m x3) fun x4 =>
     some x4
    ) else (
     Option.bind (ix e.kids 0) fun x5 =>
     Option.bind (s_l5Eval n list m x5 point) fun x6 =>
     Option.bind (ix e.kids 1) fun x7 =>
     Option.bind (s_l5Eval n list m x7 point) fun x8 =>
     bif decide (e.kind = 4) then (
      Option.bind (s_l5Wrap n (wr (x6 + x8))) fun x9 =>
      some x9
     ) else (
      bif decide (e.kind = 5) then (
       Option.bind (s_l5Wrap n (wr (x6 - x8))) fun x10 =>
       some x10
      ) else (
       Option.bind (s_l5Wrap n (wr (x6 * x8))) fun x11 =>
       some x11
      )
     )
    )
   )
  ))
def s_l5Run (n : Nat) (p : Prog) (m : List Int) (x : Inst) : Option (List Int) := (
 Option.bind (ix p.parts x.part) fun x1 =>
 Option.bind (ix x1.body x.stmt) fun x2 =>
 Option.bind (s_l4Cell n p.arrays x2.write x.point) fun x3 =>
 Option.bind (s_l5Eval n p.arrays m x2.value x.point) fun x4 =>
 Option.bind (ix m x3) fun x5 =>
 Option.bind (setx m x3 x4) fun x6 =>
 some x6)
def i_modulo (n : Nat) (n_a0 : Int) : Option Int := (
 some (Int.tmod (wr ((wr ((Int.tmod n_a0 1000) + 999)) + 1)) 1000))
def i_Program_value : Nat → Prog → (List Int) → Expr → (List Int) →  Option Int
 | 0, _, _, _, _ => none
 | n + 1, p, m, e, point => (
  bif decide (e.kind = 1) then (
   some e.num
  ) else (
   bif decide (e.kind = 2) then (
    Option.bind (i_Affine_eval n e.index point) fun x1 =>
    Option.bind (i_modulo n x1) fun x2 =>
    some x2
   ) else (
    bif decide (e.kind = 3) then (
     Option.bind (i_Program_cell n p e.read point) fun x3 =>
     Option.bind (ix m x3) fun x4 =>
     some x4
    ) else (
     Option.bind (ix e.kids 0) fun x5 =>
     Option.bind (i_Program_value n p m x5 point) fun x6 =>
     Option.bind (ix e.kids 1) fun x7 =>
     Option.bind (i_Program_value n p m x7 point) fun x8 =>
     bif decide (e.kind = 4) then (
      Option.bind (i_modulo n (wr (x6 + x8))) fun x9 =>
      some x9
     ) else (
      bif decide (e.kind = 5) then (
       Option.bind (i_modulo n (wr (x6 - x8))) fun x10 =>
       some x10
      ) else (
       Option.bind (i_modulo n (wr (x6 * x8))) fun x11 =>
       some x11
      )
     )
    )
   )
  ))
def i_Program_do (n : Nat) (p : Prog) (m : List Int) (x : Inst) : Option (List Int) := (
 Option.bind (i_Program_stmt n p x) fun x1 =>
 Option.bind (i_Program_cell n p x1.write x.point) fun x2 =>
 Option.bind (i_Program_value n p m x1.value x.point) fun x3 =>
 Option.bind (ix m x2) fun x4 =>
 Option.bind (setx m x2 x3) fun x5 =>
 some x5)
def i_MemoryValid_1 (n : Nat) (n_a0 : Int) : Option Bool := (
 Option.bind (i_within n n_a0 0 999) fun x1 =>
 some (!x1))
def i_Program_cells (n : Nat) (p : Prog) : Option Int := (
 loopM (fun again3 ((x1, x2) : Int × Int) =>
  bif decide (x2 < (p.arrays.length : Int)) then (
   Option.bind (ix p.arrays x2) fun x4 =>
   Option.bind (i_Array_size n x4) fun x5 =>
   again3 (wr (x1 + x5), wr (x2 + 1))
  ) else (
   some x1
  )
 ) n (0, 0))
def i_MemoryValid (n : Nat) (p : Prog) (m : List Int) : Option Bool := (
 jn (fun (x5 : Bool) =>
  some x5
 ) (fun j1 =>
  Option.bind (i_ProgramValid n p) fun x2 =>
  bif x2 then (
   Option.bind (i_Program_cells n p) fun x3 =>
   bif decide ((m.length : Int) = x3) then (
    Option.bind (l_ContainsFunc_int n m (fun q0 => i_MemoryValid_1 n q0)) fun x4 =>
    j1 (!x4)
   ) else (
    j1 false
   )
  ) else (
   j1 false
  )
 ))
def s_PointIn (n : Nat) (nest : List Loop) (p : List Int) : Option Bool := (
 jn (fun (x4 : Bool) =>
  bif x4 then (
   some false
  ) else (
   loopM (fun again6 (x5 : Int) =>
    bif decide (x5 < (p.length : Int)) then (
     Option.bind (ix nest x5) fun x7 =>
     Option.bind (sub p 0 x5) fun x8 =>
     Option.bind (s_l2Range n x7 x8) fun x9 =>
     jn (fun (x12 : Bool) =>
      bif x12 then (
       some false
      ) else (
       again6 (wr (x5 + 1))
      )
     ) (fun j10 =>
      Option.bind (ix p x5) fun x11 =>
      bif decide (x11 < x9.1) then (
       j10 true
      ) else (
       j10 (decide (x9.2 ≤ x11))
      )
     )
    ) else (
     some true
    )
   ) n 0
  )
 ) (fun j1 =>
  Option.bind (s_NestValid n nest) fun x2 =>
  bif !x2 then (
   j1 true
  ) else (
   Option.bind (s_l1Point n p) fun x3 =>
   bif !x3 then (
    j1 true
   ) else (
    j1 (!decide ((p.length : Int) = (nest.length : Int)))
   )
  )
 ))
def s_l4In (n : Nat) (p : Prog) (x : Inst) : Option Bool := (
 jn (fun (x2 : Bool) =>
  bif x2 then (
   some false
  ) else (
   Option.bind (ix p.parts x.part) fun x3 =>
   jn (fun (x6 : Bool) =>
    some x6
   ) (fun j4 =>
    bif decide ((0 : Int) ≤ x.stmt) then (
     bif decide (x.stmt < (x3.body.length : Int)) then (
      Option.bind (s_PointIn n x3.nest x.point) fun x5 =>
      j4 x5
     ) else (
      j4 false
     )
    ) else (
     j4 false
    )
   )
  )
 ) (fun j1 =>
  bif decide (x.part < 0) then (
   j1 true
  ) else (
   j1 (decide ((p.parts.length : Int) ≤ x.part))
  )
 ))
def s_RunInstance (n : Nat) (p : Prog) (m : List Int) (x : Inst) : Option ((List Int) × Bool) := (
 jn (fun (x4 : Bool) =>
  bif x4 then (
   some ([], false)
  ) else (
   Option.bind (app [] m) fun x5 =>
   Option.bind (s_l5Run n p x5 x) fun x6 =>
   Option.bind (sameLen x5 x6) fun x7 =>
   some (x6, true)
  )
 ) (fun j1 =>
  Option.bind (s_MemoryValid n p m) fun x2 =>
  bif !x2 then (
   j1 true
  ) else (
   Option.bind (s_l4In n p x) fun x3 =>
   j1 (!x3)
  )
 ))
def i_PointIn (n : Nat) (nest : List Loop) (p : List Int) : Option Bool := (
 jn (fun (x4 : Bool) =>
  bif x4 then (
   some false
  ) else (
   loopM (fun again6 (x5 : Int) =>
    bif decide (x5 < (nest.length : Int)) then (
     Option.bind (ix nest x5) fun x7 =>
     Option.bind (sub p 0 x5) fun x8 =>
     Option.bind (i_Loop_span n x7 x8) fun x9 =>
     jn (fun (x12 : Bool) =>
      bif x12 then (
       some false
      ) else (
       again6 (wr (x5 + 1))
      )
     ) (fun j10 =>
      Option.bind (ix p x5) fun x11 =>
      bif decide (x11 < x9.1) then (
       j10 true
      ) else (
       j10 (decide (x9.2 ≤ x11))
      )
     )
    ) else (
     some true
    )
   ) n 0
  )
 ) (fun j1 =>
  Option.bind (i_NestValid n nest) fun x2 =>
  bif !x2 then (
   j1 true
  ) else (
   Option.bind (i_isPoint n p) fun x3 =>
   bif !x3 then (
    j1 true
   ) else (
    j1 (!decide ((p.length : Int) = (nest.length : Int)))
   )
  )
 ))
def i_Program_isInstance (n : Nat) (p : Prog) (x : Inst) : Option Bool := (
 jn (fun (x6 : Bool) =>
  some x6
 ) (fun j1 =>
  Option.bind (i_within n x.part 0 (wr ((p.parts.length : Int) - 1))) fun x2 =>
  bif x2 then (
   Option.bind (ix p.parts x.part) fun x3 =>
   Option.bind (i_within n x.stmt 0 (wr ((x3.body.length : Int) - 1))) fun x4 =>
   bif x4 then (
    Option.bind (i_PointIn n x3.nest x.point) fun x5 =>
    j1 x5
   ) else (
    j1 false
   )
  ) else (
   j1 false
  )
 ))
def i_RunInstance (n : Nat) (p : Prog) (m : List Int) (x : Inst) : Option ((List Int) × Bool) := (
 jn (fun (x4 : Bool) =>
  bif x4 then (
   some ([], false)
  ) else (
   Option.bind (m_ownClone m) fun x5 =>
   Option.bind (i_Program_do n p x5 x) fun x6 =>
   Option.bind (sameLen x5 x6) fun x7 =>
   some (x6, true)
  )
 ) (fun j1 =>
  Option.bind (i_MemoryValid n p m) fun x2 =>
  bif !x2 then (
   j1 true
  ) else (
   Option.bind (i_Program_isInstance n p x) fun x3 =>
   j1 (!x3)
  )
 ))
def s_l16Rd_pick (n : Nat) (r_a0 : L16Rd) (n_a1 : Int) : Option (Int × L16Rd) := (
 jn (fun (x2 : Bool) =>
  bif x2 then (
   some (0, (⟨r_a0.b, wr (r_a0.p + 1)⟩ : L16Rd))
  ) else (
   bif decide (wr ((wr (r_a0.p + 1)) - 1) < (r_a0.b.length : Int)) then (
    Option.bind (ix r_a0.b (wr ((wr (r_a0.p + 1)) - 1))) fun x3 =>
    Option.bind (nzc n_a1) fun x4 =>
    some (Int.tmod (x3.toNat : Int) n_a1, (⟨r_a0.b, wr (r_a0.p + 1)⟩ : L16Rd))
   ) else (
    Option.bind (nzc (r_a0.b.length : Int)) fun x5 =>
    Option.bind (ix r_a0.b (Int.tmod (wr ((wr (r_a0.p + 1)) - 1)) (r_a0.b.length : Int))) fun x6 =>
    Option.bind (nzc (r_a0.b.length : Int)) fun x7 =>
    Option.bind (ix r_a0.b (Int.tmod (wr ((wr ((wr ((wr (r_a0.p + 1)) - 1)) * 7)) + 3)) (r_a0.b.length : Int))) fun x8 =>
    Option.bind (nzc (r_a0.b.length : Int)) fun x9 =>
    Option.bind (nzc n_a1) fun x10 =>
    some (Int.tmod (bits BinOp.xor IntKind.i64 (wr ((wr ((wr ((wr ((x6.toNat : Int) * 131)) + (wr ((x8.toNat : Int) * 1117)))) + (wr ((wr ((wr (r_a0.p + 1)) - 1)) * 29)))) + (wr ((wr (Int.tdiv (wr ((wr (r_a0.p + 1)) - 1)) (r_a0.b.length : Int))) * 53)))) (wr (Int.tdiv (wr ((wr ((wr ((wr ((x6.toNat : Int) * 131)) + (wr ((x8.toNat : Int) * 1117)))) + (wr ((wr ((wr (r_a0.p + 1)) - 1)) * 29)))) + (wr ((wr (Int.tdiv (wr ((wr (r_a0.p + 1)) - 1)) (r_a0.b.length : Int))) * 53)))) 64))) n_a1, (⟨r_a0.b, wr (r_a0.p + 1)⟩ : L16Rd))
   )
  )
 ) (fun j1 =>
  bif decide (n_a1 < 1) then (
   j1 true
  ) else (
   j1 (decide ((r_a0.b.length : Int) = 0))
  )
 ))
def s_l16Rd_num (n : Nat) (r_a0 : L16Rd) (list : List Int) : Option (Int × L16Rd) := (
 Option.bind (s_l16Rd_pick n r_a0 (list.length : Int)) fun x1 =>
 Option.bind (ix list x1.1) fun x2 =>
 some (x2, x1.2))
def s_l4Some (n : Nat)  : Option (List Arr) := (
 some [(⟨[65], [6]⟩ : Arr), (⟨[66], [4, 5]⟩ : Arr), (⟨[67], [3]⟩ : Arr)])
def s_l1Combine (n : Nat) (a : Affine) (x : Int) (b : Affine) (y : Int) : Option Affine := (
 loopM (fun again4 ((x1, x2) : (List Int) × Int) =>
  bif decide (x2 < 4) then (
   Option.bind (ix a.coefs x2) fun x5 =>
   Option.bind (ix b.coefs x2) fun x6 =>
   Option.bind (app x1 [wr ((wr (x * x5)) + (wr (y * x6)))]) fun x7 =>
   again4 (x7, wr (x2 + 1))
  ) else (
   some (⟨x1, wr ((wr (x * a.const)) + (wr (y * b.const)))⟩ : Affine)
  )
 ) n ([], 0))
def s_l1Zero (n : Nat)  : Option Affine := (
 some (⟨[0, 0, 0, 0], 0⟩ : Affine))
def s_l1Var (n : Nat) (v : Int) : Option Affine := (
 Option.bind (s_l1Zero n ) fun x1 =>
 Option.bind (ix x1.coefs v) fun x2 =>
 Option.bind (setx x1.coefs v 1) fun x3 =>
 some (⟨x3, x1.const⟩ : Affine))
def s_l1Const (n : Nat) (n_a0 : Int) : Option Affine := (
 Option.bind (s_l1Zero n ) fun x1 =>
 some (⟨x1.coefs, n_a0⟩ : Affine))
def s_l2Loop (n : Nat) (r_a0 : L16Rd) (depth : Int) : Option (Loop × L16Rd) := (
 Option.bind (s_l16Rd_num n r_a0 [0, 0, 1, 0, (-1)]) fun x1 =>
 Option.bind (s_l1Const n x1.1) fun x2 =>
 Option.bind (s_l16Rd_num n x1.2 [3, 4, 2, 3, 1]) fun x3 =>
 Option.bind (s_l1Const n x3.1) fun x4 =>
 jn (fun ((x17, x18, x19, x20, x21, x22) : (List UInt8) × Int × (List Int) × Int × (List Int) × Int) =>
  jn (fun ((x31, x32, x33, x34) : (List UInt8) × Int × (List Affine) × (List Affine)) =>
   some ((⟨x33, x34⟩ : Loop), (⟨x31, x32⟩ : L16Rd))
  ) (fun j23 =>
   Option.bind (s_l16Rd_pick n (⟨x17, x18⟩ : L16Rd) 12) fun x24 =>
   bif decide (x24.1 = 0) then (
    Option.bind (s_l16Rd_num n x24.2 [3, 2, 4]) fun x25 =>
    Option.bind (s_l1Const n x25.1) fun x26 =>
    Option.bind (app [(⟨x21, x22⟩ : Affine)] [x26]) fun x27 =>
    j23 (x25.2.b, x25.2.p, [(⟨x19, x20⟩ : Affine)], x27)
   ) else (
    bif decide (x24.1 = 1) then (
     Option.bind (s_l16Rd_num n x24.2 [0, 1]) fun x28 =>
     Option.bind (s_l1Const n x28.1) fun x29 =>
     Option.bind (app [(⟨x19, x20⟩ : Affine)] [x29]) fun x30 =>
     j23 (x28.2.b, x28.2.p, x30, [(⟨x21, x22⟩ : Affine)])
    ) else (
     j23 (x24.2.b, x24.2.p, [(⟨x19, x20⟩ : Affine)], [(⟨x21, x22⟩ : Affine)])
    )
   )
  )
 ) (fun j5 =>
  jn (fun ((x8, x9, x10) : (List UInt8) × Int × Bool) =>
   bif x10 then (
    Option.bind (s_l16Rd_pick n (⟨x8, x9⟩ : L16Rd) depth) fun x11 =>
    Option.bind (s_l16Rd_pick n x11.2 2) fun x12 =>
    bif decide (x12.1 = 0) then (
     Option.bind (s_l1Var n x11.1) fun x13 =>
     j5 (x12.2.b, x12.2.p, x13.coefs, x13.const, x4.coefs, x4.const)
    ) else (
     Option.bind (s_l1Var n x11.1) fun x14 =>
     Option.bind (s_l1Const n 1) fun x15 =>
     Option.bind (s_l1Combine n x14 1 x15 1) fun x16 =>
     j5 (x12.2.b, x12.2.p, x2.coefs, x2.const, x16.coefs, x16.const)
    )
   ) else (
    j5 (x8, x9, x2.coefs, x2.const, x4.coefs, x4.const)
   )
  ) (fun j6 =>
   bif decide ((0 : Int) < depth) then (
    Option.bind (s_l16Rd_pick n x3.2 4) fun x7 =>
    j6 (x7.2.b, x7.2.p, decide (x7.1 = 0))
   ) else (
    j6 (x3.2.b, x3.2.p, false)
   )
  )
 ))
def s_l2Nest (n : Nat) (r_a0 : L16Rd) : Option ((List Loop) × L16Rd) := (
 Option.bind (s_l16Rd_num n r_a0 [2, 1, 2, 3]) fun x1 =>
 loopM (fun again7 ((x2, x3, x4, x5) : (List UInt8) × Int × (List Loop) × Int) =>
  bif decide ((0 : Int) < x5) then (
   Option.bind (s_l2Loop n (⟨x2, x3⟩ : L16Rd) (x4.length : Int)) fun x8 =>
   Option.bind (app x4 [x8.1]) fun x9 =>
   again7 (x8.2.b, x8.2.p, x9, wr (x5 - 1))
  ) else (
   some (x4, (⟨x2, x3⟩ : L16Rd))
  )
 ) n (x1.2.b, x1.2.p, [], x1.1))
def s_l16Rd_of (n : Nat) (r_a0 : L16Rd) (list : List (List UInt8)) : Option ((List UInt8) × L16Rd) := (
 Option.bind (s_l16Rd_pick n r_a0 (list.length : Int)) fun x1 =>
 Option.bind (ix list x1.1) fun x2 =>
 some (x2, x1.2))
def s_l3Elem (n : Nat) (r_a0 : L16Rd) (depth : Int) : Option (Access × L16Rd) := (
 Option.bind (s_l16Rd_of n r_a0 [[65], [66], [65], [67]]) fun x1 =>
 jn (fun (x3 : Int) =>
  loopM (fun again9 ((x4, x5, x6, x7) : (List UInt8) × Int × (List Affine) × Int) =>
   bif decide (x7 < x3) then (
    Option.bind (s_l16Rd_num n (⟨x4, x5⟩ : L16Rd) [0, 1, 0, 2]) fun x10 =>
    Option.bind (s_l1Const n x10.1) fun x11 =>
    jn (fun ((x24, x25, x26, x27) : (List UInt8) × Int × (List Int) × Int) =>
     Option.bind (app x6 [(⟨x26, x27⟩ : Affine)]) fun x28 =>
     again9 (x24, x25, x28, wr (x7 + 1))
    ) (fun j12 =>
     jn (fun ((x15, x16, x17) : (List UInt8) × Int × Bool) =>
      bif x17 then (
       Option.bind (s_l16Rd_pick n (⟨x15, x16⟩ : L16Rd) depth) fun x18 =>
       Option.bind (s_l1Var n x18.1) fun x19 =>
       Option.bind (s_l16Rd_num n x18.2 [1, 1, 1, 2, (-1)]) fun x20 =>
       Option.bind (s_l16Rd_num n x20.2 [0, 1, 0, 0, 2]) fun x21 =>
       Option.bind (s_l1Const n x21.1) fun x22 =>
       Option.bind (s_l1Combine n x19 x20.1 x22 1) fun x23 =>
       j12 (x21.2.b, x21.2.p, x23.coefs, x23.const)
      ) else (
       j12 (x15, x16, x11.coefs, x11.const)
      )
     ) (fun j13 =>
      bif decide ((0 : Int) < depth) then (
       Option.bind (s_l16Rd_pick n x10.2 5) fun x14 =>
       j13 (x14.2.b, x14.2.p, decide ((0 : Int) < x14.1))
      ) else (
       j13 (x10.2.b, x10.2.p, false)
      )
     )
    )
   ) else (
    some ((⟨x1.1, x6⟩ : Access), (⟨x4, x5⟩ : L16Rd))
   )
  ) n (x1.2.b, x1.2.p, [], 0)
 ) (fun j2 =>
  bif decide (x1.1 = [66]) then (
   j2 2
  ) else (
   j2 1
  )
 ))
def s_l1Draw (n : Nat) (r_a0 : L16Rd) (depth : Int) : Option (Affine × L16Rd) := (
 Option.bind (s_l16Rd_num n r_a0 [0, 1, (-1), 2, 0, 5, (-9), 99]) fun x1 =>
 Option.bind (s_l1Const n x1.1) fun x2 =>
 loopM (fun again8 ((x3, x4, x5, x6) : (List UInt8) × Int × (List Int) × Int) =>
  bif decide (x6 < depth) then (
   Option.bind (s_l16Rd_num n (⟨x3, x4⟩ : L16Rd) [0, 1, 0, (-1), 2, 0, 9]) fun x9 =>
   Option.bind (ix x5 x6) fun x10 =>
   Option.bind (setx x5 x6 x9.1) fun x11 =>
   again8 (x9.2.b, x9.2.p, x11, wr (x6 + 1))
  ) else (
   some ((⟨x5, x2.const⟩ : Affine), (⟨x3, x4⟩ : L16Rd))
  )
 ) n (x1.2.b, x1.2.p, x2.coefs, 0))
def s_l3Value : Nat → L16Rd → Int → Int →  Option (Expr × L16Rd)
 | 0, _, _, _ => none
 | n + 1, r_a0, depth, levels => (
  jn (fun ((x3, x4, x5) : (List UInt8) × Int × Bool) =>
   bif x5 then (
    Option.bind (s_l16Rd_pick n (⟨x3, x4⟩ : L16Rd) 4) fun x6 =>
    bif decide (x6.1 = 0) then (
     Option.bind (s_l16Rd_num n x6.2 [1, 2, 0, 99, 3]) fun x7 =>
     some ((⟨1, x7.1, (⟨[], 0⟩ : Affine), (⟨[], []⟩ : Access), []⟩ : Expr), x7.2)
    ) else (
     bif decide (x6.1 = 1) then (
      Option.bind (s_l1Draw n x6.2 depth) fun x8 =>
      some ((⟨2, 0, x8.1, (⟨[], []⟩ : Access), []⟩ : Expr), x8.2)
     ) else (
      Option.bind (s_l3Elem n x6.2 depth) fun x9 =>
      some ((⟨3, 0, (⟨[], 0⟩ : Affine), x9.1, []⟩ : Expr), x9.2)
     )
    )
   ) else (
    Option.bind (s_l16Rd_num n (⟨x3, x4⟩ : L16Rd) [4, 6, 5, 4]) fun x10 =>
    loopM (fun again16 ((x11, x12, x13, x14) : (List UInt8) × Int × (List Expr) × Int) =>
     bif decide (x14 < 2) then (
      Option.bind (s_l3Value n (⟨x11, x12⟩ : L16Rd) depth (wr (levels - 1))) fun x17 =>
      Option.bind (app x13 [x17.1]) fun x18 =>
      again16 (x17.2.b, x17.2.p, x18, wr (x14 + 1))
     ) else (
      some ((⟨x10.1, 0, (⟨[], 0⟩ : Affine), (⟨[], []⟩ : Access), x13⟩ : Expr), (⟨x11, x12⟩ : L16Rd))
     )
    ) n (x10.2.b, x10.2.p, [], 0)
   )
  ) (fun j1 =>
   bif decide (levels < 2) then (
    j1 (r_a0.b, r_a0.p, true)
   ) else (
    Option.bind (s_l16Rd_pick n r_a0 4) fun x2 =>
    j1 (x2.2.b, x2.2.p, decide (x2.1 = 0))
   )
  ))
def s_l3Stmt (n : Nat) (r_a0 : L16Rd) (depth : Int) : Option (Stmt × L16Rd) := (
 Option.bind (s_l3Elem n r_a0 depth) fun x1 =>
 Option.bind (s_l16Rd_num n x1.2 [2, 3, 1, 2]) fun x2 =>
 Option.bind (s_l3Value n x2.2 depth x2.1) fun x3 =>
 Option.bind (s_StmtValid n (⟨x1.1, x3.1⟩ : Stmt) depth) fun x4 =>
 bif x4 then (
  some ((⟨x1.1, x3.1⟩ : Stmt), x3.2)
 ) else (
  Option.bind (s_l1Zero n ) fun x5 =>
  some ((⟨(⟨[65], [x5]⟩ : Access), (⟨1, 1, (⟨[], 0⟩ : Affine), (⟨[], []⟩ : Access), []⟩ : Expr)⟩ : Stmt), x3.2)
 ))
def s_l1Name (n : Nat) (s : List UInt8) (at_a1 : Int) : Option Int := (
 jn (fun (x3 : Bool) =>
  bif x3 then (
   some (-1)
  ) else (
   Option.bind (ix s at_a1) fun x4 =>
   some (wr ((x4.toNat : Int) - 105))
  )
 ) (fun j1 =>
  bif decide ((s.length : Int) ≤ at_a1) then (
   j1 true
  ) else (
   Option.bind (ix s at_a1) fun x2 =>
   bif decide ((x2.toNat : Int) < 105) then (
    j1 true
   ) else (
    j1 (decide ((108 : Int) < (x2.toNat : Int)))
   )
  )
 ))
def s_l16Num (n : Nat) (s : List UInt8) : Option (Int × Bool) := (
 jn (fun (x3 : Bool) =>
  jn (fun (x6 : (List UInt8)) =>
   jn (fun (x9 : Bool) =>
    bif x9 then (
     some (0, false)
    ) else (
     loopM (fun again12 ((x10, x11) : Int × Int) =>
      bif decide (x11 < (x6.length : Int)) then (
       jn (fun (x15 : Bool) =>
        bif x15 then (
         some (0, false)
        ) else (
         Option.bind (ix x6 x11) fun x16 =>
         again12 (wr ((wr (x10 * 10)) + ((x16 - (48 : UInt8)).toNat : Int)), wr (x11 + 1))
        )
       ) (fun j13 =>
        Option.bind (ix x6 x11) fun x14 =>
        bif decide ((x14.toNat : Int) < 48) then (
         j13 true
        ) else (
         j13 (decide ((57 : Int) < (x14.toNat : Int)))
        )
       )
      ) else (
       jn (fun (x18 : Int) =>
        some (x18, true)
       ) (fun j17 =>
        bif x3 then (
         j17 (wr (0 - x10))
        ) else (
         j17 x10
        )
       )
      )
     ) n (0, 0)
    )
   ) (fun j7 =>
    bif decide ((x6.length : Int) = 0) then (
     j7 true
    ) else (
     bif decide ((17 : Int) < (x6.length : Int)) then (
      j7 true
     ) else (
      Option.bind (ix x6 0) fun x8 =>
      bif decide ((x8.toNat : Int) = 48) then (
       bif decide ((1 : Int) < (x6.length : Int)) then (
        j7 true
       ) else (
        j7 x3
       )
      ) else (
       j7 false
      )
     )
    )
   )
  ) (fun j4 =>
   bif x3 then (
    Option.bind (sub s 1 (s.length : Int)) fun x5 =>
    j4 x5
   ) else (
    j4 s
   )
  )
 ) (fun j1 =>
  bif decide ((0 : Int) < (s.length : Int)) then (
   Option.bind (ix s 0) fun x2 =>
   j1 (decide ((x2.toNat : Int) = 45))
  ) else (
   j1 false
  )
 ))
def s_l1Digits (n : Nat) (s : List UInt8) (at_a1 : Int) : Option (Int × Int) := (
 loopM (fun again2 (x1 : Int) =>
  jn (fun (x5 : Bool) =>
   bif x5 then (
    again2 (wr (x1 + 1))
   ) else (
    Option.bind (sub s at_a1 x1) fun x6 =>
    Option.bind (s_l16Num n x6) fun x7 =>
    bif !x7.2 then (
     some (1, at_a1)
    ) else (
     some (x7.1, x1)
    )
   )
  ) (fun j3 =>
   bif decide (x1 < (s.length : Int)) then (
    bif decide (x1 < wr (at_a1 + 2)) then (
     Option.bind (ix s x1) fun x4 =>
     bif decide ((48 : Int) ≤ (x4.toNat : Int)) then (
      j3 (decide ((x4.toNat : Int) ≤ 57))
     ) else (
      j3 false
     )
    ) else (
     j3 false
    )
   ) else (
    j3 false
   )
  )
 ) n at_a1)
def s_l1Parse (n : Nat) (a : Affine) (s : List UInt8) (at_a2 : Int) : Option (Affine × Int) := (
 jn (fun (x3 : Int) =>
  jn (fun (x8 : Int) =>
   Option.bind (s_l1Digits n s x8) fun x9 =>
   jn (fun (x14 : Int) =>
    Option.bind (s_l1Name n s x14) fun x15 =>
    Option.bind (app [] a.coefs) fun x16 =>
    jn (fun (x18 : Bool) =>
     bif x18 then (
      Option.bind (ix x16 x15) fun x19 =>
      Option.bind (setx x16 x15 (wr (x19 + (wr (x3 * x9.1))))) fun x20 =>
      some ((⟨x20, a.const⟩ : Affine), wr (x14 + 1))
     ) else (
      bif decide (x9.2 = x8) then (
       some (a, (-1))
      ) else (
       some ((⟨x16, wr (a.const + (wr (x3 * x9.1)))⟩ : Affine), x9.2)
      )
     )
    ) (fun j17 =>
     bif decide ((0 : Int) ≤ x15) then (
      bif decide (x9.2 < x14) then (
       j17 true
      ) else (
       j17 (decide (x9.2 = x8))
      )
     ) else (
      j17 false
     )
    )
   ) (fun j10 =>
    jn (fun (x13 : Bool) =>
     bif x13 then (
      j10 (wr (x9.2 + 1))
     ) else (
      j10 x9.2
     )
    ) (fun j11 =>
     bif decide (x8 < x9.2) then (
      bif decide (x9.2 < (s.length : Int)) then (
       Option.bind (ix s x9.2) fun x12 =>
       j11 (decide ((x12.toNat : Int) = 42))
      ) else (
       j11 false
      )
     ) else (
      j11 false
     )
    )
   )
  ) (fun j4 =>
   jn (fun (x7 : Bool) =>
    bif x7 then (
     j4 (wr (at_a2 + 1))
    ) else (
     j4 at_a2
    )
   ) (fun j5 =>
    Option.bind (ix s at_a2) fun x6 =>
    bif decide ((x6.toNat : Int) = 45) then (
     j5 true
    ) else (
     j5 (decide ((x6.toNat : Int) = 43))
    )
   )
  )
 ) (fun j1 =>
  Option.bind (ix s at_a2) fun x2 =>
  bif decide ((x2.toNat : Int) = 45) then (
   j1 (-1)
  ) else (
   j1 1
  )
 ))
def s_l16Dec : Nat → Int →  Option (List UInt8)
 | 0, _ => none
 | n + 1, n_a0 => (
  bif decide (n_a0 < (-9223372036854775807)) then (
   some [45, 57, 50, 50, 51, 51, 55, 50, 48, 51, 54, 56, 53, 52, 55, 55, 53, 56, 48, 56]
  ) else (
   bif decide (n_a0 < 0) then (
    Option.bind (s_l16Dec n (wr (0 - n_a0))) fun x1 =>
    Option.bind (cat [45] x1) fun x2 =>
    some x2
   ) else (
    loopM (fun again5 ((x3, x4) : Int × (List UInt8)) =>
     bif decide ((9 : Int) < x3) then (
      Option.bind (cat [UInt8.ofInt (wr (48 + (Int.tmod x3 10)))] x4) fun x6 =>
      again5 (wr (Int.tdiv x3 10), x6)
     ) else (
      Option.bind (cat [UInt8.ofInt (wr (48 + x3))] x4) fun x7 =>
      some x7
     )
    ) n (n_a0, [])
   )
  ))
def s_l1Term (n : Nat) (n_a0 : Int) (name : List UInt8) : Option (List UInt8) := (
 jn (fun ((x2, x3) : Int × (List UInt8)) =>
  bif decide (name = []) then (
   Option.bind (s_l16Dec n x2) fun x4 =>
   Option.bind (cat x3 x4) fun x5 =>
   some x5
  ) else (
   bif decide (x2 = 1) then (
    Option.bind (cat x3 name) fun x6 =>
    some x6
   ) else (
    Option.bind (s_l16Dec n x2) fun x7 =>
    Option.bind (cat x3 x7) fun x8 =>
    Option.bind (cat x8 [42]) fun x9 =>
    Option.bind (cat x9 name) fun x10 =>
    some x10
   )
  )
 ) (fun j1 =>
  bif decide (n_a0 < 0) then (
   j1 (wr (0 - n_a0), [45])
  ) else (
   j1 (n_a0, [43])
  )
 ))
def s_l1Text (n : Nat) (a : Affine) : Option (List UInt8) := (
 loopM (fun again3 ((x1, x2) : (List UInt8) × Int) =>
  bif decide (x2 < (a.coefs.length : Int)) then (
   jn (fun (x9 : (List UInt8)) =>
    again3 (x9, wr (x2 + 1))
   ) (fun j4 =>
    Option.bind (ix a.coefs x2) fun x5 =>
    bif !decide (x5 = 0) then (
     Option.bind (sub [105, 106, 107, 108] x2 (wr (x2 + 1))) fun x6 =>
     Option.bind (s_l1Term n x5 x6) fun x7 =>
     Option.bind (cat x1 x7) fun x8 =>
     j4 x8
    ) else (
     j4 x1
    )
   )
  ) else (
   jn (fun (x13 : (List UInt8)) =>
    bif decide (x13 = []) then (
     some [48]
    ) else (
     Option.bind (sub x13 0 1) fun x14 =>
     bif decide (x14 = [43]) then (
      Option.bind (sub x13 1 (x13.length : Int)) fun x15 =>
      some x15
     ) else (
      some x13
     )
    )
   ) (fun j10 =>
    bif !decide (a.const = 0) then (
     Option.bind (s_l1Term n a.const []) fun x11 =>
     Option.bind (cat x1 x11) fun x12 =>
     j10 x12
    ) else (
     j10 x1
    )
   )
  )
 ) n ([], 0))
def s_FormatAffine (n : Nat) (a : Affine) : Option (List UInt8) := (
 Option.bind (s_AffineValid n a) fun x1 =>
 bif !x1 then (
  some []
 ) else (
  Option.bind (s_l1Text n a) fun x2 =>
  some x2
 ))
def s_ParseAffine (n : Nat) (text : List UInt8) : Option (Affine × Bool) := (
 Option.bind (s_l1Zero n ) fun x1 =>
 bif decide ((40 : Int) < (text.length : Int)) then (
  some ((⟨[], 0⟩ : Affine), false)
 ) else (
  loopM (fun again5 ((x2, x3, x4) : (List Int) × Int × Int) =>
   jn (fun (x7 : Bool) =>
    bif x7 then (
     Option.bind (s_l1Parse n (⟨x2, x3⟩ : Affine) text x4) fun x8 =>
     again5 (x8.1.coefs, x8.1.const, x8.2)
    ) else (
     Option.bind (s_FormatAffine n (⟨x2, x3⟩ : Affine)) fun x9 =>
     bif !decide (x9 = text) then (
      some ((⟨[], 0⟩ : Affine), false)
     ) else (
      some ((⟨x2, x3⟩ : Affine), true)
     )
    )
   ) (fun j6 =>
    bif decide ((0 : Int) ≤ x4) then (
     j6 (decide (x4 < (text.length : Int)))
    ) else (
     j6 false
    )
   )
  ) n (x1.coefs, x1.const, 0)
 ))
def s_l16Cut (n : Nat) (s : List UInt8) (c : UInt8) : Option (List (List UInt8)) := (
 loopM (fun again5 ((x1, x2, x3) : (List (List UInt8)) × Int × Int) =>
  bif decide (x3 ≤ (s.length : Int)) then (
   jn (fun ((x12, x13) : (List (List UInt8)) × Int) =>
    again5 (x12, x13, wr (x3 + 1))
   ) (fun j6 =>
    jn (fun (x9 : Bool) =>
     bif x9 then (
      Option.bind (sub s x2 x3) fun x10 =>
      Option.bind (app x1 [x10]) fun x11 =>
      j6 (x11, wr (x3 + 1))
     ) else (
      j6 (x1, x2)
     )
    ) (fun j7 =>
     bif decide (x3 = (s.length : Int)) then (
      j7 true
     ) else (
      Option.bind (ix s x3) fun x8 =>
      j7 (decide ((x8.toNat : Int) = (c.toNat : Int)))
     )
    )
   )
  ) else (
   some x1
  )
 ) n ([], 0, 0))
def s_l2SideParse (n : Nat) (text : List UInt8) : Option (List Affine) := (
 Option.bind (s_l16Cut n text (44 : UInt8)) fun x1 =>
 loopM (fun again5 ((x2, x3) : (List Affine) × Int) =>
  jn (fun (x7 : Bool) =>
   bif x7 then (
    Option.bind (ix x1 x3) fun x8 =>
    Option.bind (s_ParseAffine n x8) fun x9 =>
    Option.bind (app x2 [x9.1]) fun x10 =>
    again5 (x10, wr (x3 + 1))
   ) else (
    some x2
   )
  ) (fun j6 =>
   bif decide (x3 < (x1.length : Int)) then (
    j6 (decide (x3 ≤ 2))
   ) else (
    j6 false
   )
  )
 ) n ([], 0))
def s_l3Until (n : Nat) (s : List UInt8) (at_a1 : Int) (end_a2 : UInt8) : Option Int := (
 loopM (fun again2 (x1 : Int) =>
  bif decide (x1 < (s.length : Int)) then (
   Option.bind (ix s x1) fun x3 =>
   bif decide ((x3.toNat : Int) = (end_a2.toNat : Int)) then (
    some x1
   ) else (
    again2 (wr (x1 + 1))
   )
  ) else (
   some (-1)
  )
 ) n at_a1)
def s_l3ParseAccess (n : Nat) (s : List UInt8) (at_a1 : Int) : Option (Access × Int) := (
 Option.bind (s_l3Until n s at_a1 (93 : UInt8)) fun x1 =>
 jn (fun (x4 : Bool) =>
  bif x4 then (
   some ((⟨[], []⟩ : Access), (-1))
  ) else (
   Option.bind (sub s at_a1 (wr (at_a1 + 1))) fun x5 =>
   Option.bind (sub s (wr (at_a1 + 2)) x1) fun x6 =>
   Option.bind (s_l2SideParse n x6) fun x7 =>
   some ((⟨x5, x7⟩ : Access), wr (x1 + 1))
  )
 ) (fun j2 =>
  bif decide (x1 < wr (at_a1 + 2)) then (
   j2 true
  ) else (
   Option.bind (ix s (wr (at_a1 + 1))) fun x3 =>
   j2 (!decide ((x3.toNat : Int) = 91))
  )
 ))
def s_l3Round (n : Nat) (self : (List UInt8) → Int → Int →  Option (Expr × Int)) (s : List UInt8) (at_a1 : Int) (levels : Int) : Option (Expr × Int) := (
 Option.bind (self s at_a1 levels) fun x1 =>
 jn (fun (x3 : Bool) =>
  bif x3 then (
   some ((⟨0, 0, (⟨[], 0⟩ : Affine), (⟨[], []⟩ : Access), []⟩ : Expr), (-1))
  ) else (
   jn (fun (x6 : Int) =>
    Option.bind (self s (wr (x1.2 + 1)) levels) fun x7 =>
    jn (fun (x9 : Bool) =>
     bif x9 then (
      some ((⟨0, 0, (⟨[], 0⟩ : Affine), (⟨[], []⟩ : Access), []⟩ : Expr), (-1))
     ) else (
      some ((⟨x6, 0, (⟨[], 0⟩ : Affine), (⟨[], []⟩ : Access), [x1.1, x7.1]⟩ : Expr), wr (x7.2 + 1))
     )
    ) (fun j8 =>
     bif decide (x7.2 < 0) then (
      j8 true
     ) else (
      j8 (decide ((s.length : Int) ≤ x7.2))
     )
    )
   ) (fun j4 =>
    Option.bind (ix s x1.2) fun x5 =>
    bif decide ((x5.toNat : Int) = 45) then (
     j4 5
    ) else (
     bif decide ((x5.toNat : Int) = 42) then (
      j4 6
     ) else (
      j4 4
     )
    )
   )
  )
 ) (fun j2 =>
  bif decide (x1.2 < 0) then (
   j2 true
  ) else (
   j2 (decide ((s.length : Int) ≤ x1.2))
  )
 ))
def s_l3Parse : Nat → (List UInt8) → Int → Int →  Option (Expr × Int)
 | 0, _, _, _ => none
 | n + 1, s, at_a1, levels => (
  jn (fun (x2 : Bool) =>
   bif x2 then (
    some ((⟨0, 0, (⟨[], 0⟩ : Affine), (⟨[], []⟩ : Access), []⟩ : Expr), (-1))
   ) else (
    Option.bind (ix s at_a1) fun x3 =>
    bif decide ((x3.toNat : Int) = 123) then (
     Option.bind (s_l3Until n s at_a1 (125 : UInt8)) fun x4 =>
     bif decide (x4 < 0) then (
      some ((⟨0, 0, (⟨[], 0⟩ : Affine), (⟨[], []⟩ : Access), []⟩ : Expr), (-1))
     ) else (
      Option.bind (sub s (wr (at_a1 + 1)) x4) fun x5 =>
      Option.bind (s_ParseAffine n x5) fun x6 =>
      some ((⟨2, 0, x6.1, (⟨[], []⟩ : Access), []⟩ : Expr), wr (x4 + 1))
     )
    ) else (
     jn (fun (x8 : Bool) =>
      bif x8 then (
       Option.bind (s_l3ParseAccess n s at_a1) fun x9 =>
       some ((⟨3, 0, (⟨[], 0⟩ : Affine), x9.1, []⟩ : Expr), x9.2)
      ) else (
       bif decide ((x3.toNat : Int) = 40) then (
        Option.bind (s_l3Round n (s_l3Parse n) s (wr (at_a1 + 1)) (wr (levels - 1))) fun x10 =>
        some (x10.1, x10.2)
       ) else (
        Option.bind (s_l1Digits n s at_a1) fun x11 =>
        bif decide (x11.2 = at_a1) then (
         some ((⟨0, 0, (⟨[], 0⟩ : Affine), (⟨[], []⟩ : Access), []⟩ : Expr), (-1))
        ) else (
         some ((⟨1, x11.1, (⟨[], 0⟩ : Affine), (⟨[], []⟩ : Access), []⟩ : Expr), x11.2)
        )
       )
      )
     ) (fun j7 =>
      bif decide ((65 : Int) ≤ (x3.toNat : Int)) then (
       j7 (decide ((x3.toNat : Int) ≤ 68))
      ) else (
       j7 false
      )
     )
    )
   )
  ) (fun j1 =>
   bif decide (levels < 1) then (
    j1 true
   ) else (
    bif decide (at_a1 < 0) then (
     j1 true
    ) else (
     j1 (decide ((s.length : Int) ≤ at_a1))
    )
   )
  ))
def s_l2SideText (n : Nat) (list : List Affine) : Option (List UInt8) := (
 loopM (fun again3 ((x1, x2) : (List UInt8) × Int) =>
  bif decide (x2 < (list.length : Int)) then (
   jn (fun (x6 : (List UInt8)) =>
    Option.bind (ix list x2) fun x7 =>
    Option.bind (s_l1Text n x7) fun x8 =>
    Option.bind (cat x6 x8) fun x9 =>
    again3 (x9, wr (x2 + 1))
   ) (fun j4 =>
    bif decide ((0 : Int) < x2) then (
     Option.bind (cat x1 [44]) fun x5 =>
     j4 x5
    ) else (
     j4 x1
    )
   )
  ) else (
   some x1
  )
 ) n ([], 0))
def s_l3AccessText (n : Nat) (a : Access) : Option (List UInt8) := (
 Option.bind (cat a.array [91]) fun x1 =>
 Option.bind (s_l2SideText n a.subs) fun x2 =>
 Option.bind (cat x1 x2) fun x3 =>
 Option.bind (cat x3 [93]) fun x4 =>
 some x4)
def s_l3Text : Nat → Expr →  Option (List UInt8)
 | 0, _ => none
 | n + 1, e => (
  bif decide (e.kind = 1) then (
   Option.bind (s_l16Dec n e.num) fun x1 =>
   some x1
  ) else (
   bif decide (e.kind = 2) then (
    Option.bind (s_l1Text n e.index) fun x2 =>
    Option.bind (cat [123] x2) fun x3 =>
    Option.bind (cat x3 [125]) fun x4 =>
    some x4
   ) else (
    bif decide (e.kind = 3) then (
     Option.bind (s_l3AccessText n e.read) fun x5 =>
     some x5
    ) else (
     Option.bind (ix e.kids 0) fun x6 =>
     Option.bind (s_l3Text n x6) fun x7 =>
     Option.bind (cat [40] x7) fun x8 =>
     Option.bind (sub [43, 45, 42] (wr (e.kind - 4)) (wr ((wr (e.kind - 4)) + 1))) fun x9 =>
     Option.bind (cat x8 x9) fun x10 =>
     Option.bind (ix e.kids 1) fun x11 =>
     Option.bind (s_l3Text n x11) fun x12 =>
     Option.bind (cat x10 x12) fun x13 =>
     Option.bind (cat x13 [41]) fun x14 =>
     some x14
    )
   )
  ))
def s_FormatStmt (n : Nat) (s : Stmt) : Option (List UInt8) := (
 Option.bind (s_StmtValid n s 4) fun x1 =>
 bif !x1 then (
  some []
 ) else (
  Option.bind (s_l3AccessText n s.write) fun x2 =>
  Option.bind (cat x2 [61]) fun x3 =>
  Option.bind (s_l3Text n s.value) fun x4 =>
  Option.bind (cat x3 x4) fun x5 =>
  some x5
 ))
def s_ParseStmt (n : Nat) (text : List UInt8) : Option (Stmt × Bool) := (
 bif decide ((text.length : Int) < 4) then (
  some ((⟨(⟨[], []⟩ : Access), (⟨0, 0, (⟨[], 0⟩ : Affine), (⟨[], []⟩ : Access), []⟩ : Expr)⟩ : Stmt), false)
 ) else (
  Option.bind (s_l3ParseAccess n text 0) fun x1 =>
  jn (fun (x3 : Bool) =>
   bif x3 then (
    some ((⟨(⟨[], []⟩ : Access), (⟨0, 0, (⟨[], 0⟩ : Affine), (⟨[], []⟩ : Access), []⟩ : Expr)⟩ : Stmt), false)
   ) else (
    Option.bind (s_l3Parse n text (wr (x1.2 + 1)) 5) fun x4 =>
    Option.bind (s_FormatStmt n (⟨x1.1, x4.1⟩ : Stmt)) fun x5 =>
    bif !decide (x5 = text) then (
     some ((⟨(⟨[], []⟩ : Access), (⟨0, 0, (⟨[], 0⟩ : Affine), (⟨[], []⟩ : Access), []⟩ : Expr)⟩ : Stmt), false)
    ) else (
     some ((⟨x1.1, x4.1⟩ : Stmt), true)
    )
   )
  ) (fun j2 =>
   bif decide (x1.2 < 0) then (
    j2 true
   ) else (
    j2 (decide ((text.length : Int) ≤ x1.2))
   )
  )
 ))
def s_BoxNest (n : Nat) (sizes : List Int) : Option ((List Loop) × Bool) := (
 bif decide ((4 : Int) < (sizes.length : Int)) then (
  some ([], false)
 ) else (
  loopM (fun again4 ((x1, x2) : (List Loop) × Int) =>
   bif decide (x2 < (sizes.length : Int)) then (
    jn (fun (x7 : Bool) =>
     bif x7 then (
      some ([], false)
     ) else (
      Option.bind (s_l1Zero n ) fun x8 =>
      Option.bind (ix sizes x2) fun x9 =>
      Option.bind (s_l1Const n x9) fun x10 =>
      Option.bind (app x1 [(⟨[x8], [x10]⟩ : Loop)]) fun x11 =>
      again4 (x11, wr (x2 + 1))
     )
    ) (fun j5 =>
     Option.bind (ix sizes x2) fun x6 =>
     bif decide (x6 < 0) then (
      j5 true
     ) else (
      j5 (decide ((99 : Int) < x6))
     )
    )
   ) else (
    some (x1, true)
   )
  ) n ([], 0)
 ))
def s_l4Body (n : Nat) (r_a0 : L16Rd) : Option (Part × L16Rd) := (
 loopM (fun again4 ((x1, x2, x3) : (List UInt8) × Int × Int) =>
  bif decide (x3 < 4) then (
   Option.bind (s_l2Nest n (⟨x1, x2⟩ : L16Rd)) fun x5 =>
   Option.bind (s_l16Rd_num n x5.2 [1, 2, 1, 3]) fun x6 =>
   loopM (fun again13 ((x7, x8, x9, x10, x11) : (List UInt8) × Int × (List Loop) × (List Stmt) × Int) =>
    bif decide ((0 : Int) < x11) then (
     jn (fun ((x23, x24, x25) : (List UInt8) × Int × (List Stmt)) =>
      again13 (x23, x24, x9, x25, wr (x11 - 1))
     ) (fun j14 =>
      loopM (fun again18 ((x15, x16, x17) : (List UInt8) × Int × Int) =>
       bif decide (x17 < 5) then (
        Option.bind (s_l3Stmt n (⟨x15, x16⟩ : L16Rd) (x9.length : Int)) fun x19 =>
        Option.bind (s_l4Some n ) fun x20 =>
        Option.bind (s_l4Part n x20 (⟨x9, [x19.1]⟩ : Part)) fun x21 =>
        bif x21.2 then (
         Option.bind (app x10 [x19.1]) fun x22 =>
         j14 (x19.2.b, x19.2.p, x22)
        ) else (
         again18 (x19.2.b, x19.2.p, wr (x17 + 1))
        )
       ) else (
        j14 (x15, x16, x10)
       )
      ) n (x7, x8, 0)
     )
    ) else (
     Option.bind (s_l4Some n ) fun x27 =>
     Option.bind (s_l4Part n x27 (⟨x9, x10⟩ : Part)) fun x28 =>
     jn (fun (x30 : Bool) =>
      bif x30 then (
       some ((⟨x9, x10⟩ : Part), (⟨x7, x8⟩ : L16Rd))
      ) else (
       again4 (x7, x8, wr (x3 + 1))
      )
     ) (fun j29 =>
      bif x28.2 then (
       j29 (decide (x28.1 ≤ 40))
      ) else (
       j29 false
      )
     )
    )
   ) n (x6.2.b, x6.2.p, x5.1, [], x6.1)
  ) else (
   Option.bind (s_ParseStmt n [65, 91, 105, 93, 61, 40, 65, 91, 105, 93, 43, 123, 105, 125, 41]) fun x31 =>
   Option.bind (s_BoxNest n [4]) fun x32 =>
   some ((⟨x32.1, [x31.1]⟩ : Part), (⟨x1, x2⟩ : L16Rd))
  )
 ) n (r_a0.b, r_a0.p, 0))
def s_l4Draw (n : Nat) (r_a0 : L16Rd) : Option (Prog × L16Rd) := (
 Option.bind (s_l4Some n ) fun x1 =>
 Option.bind (s_l16Rd_num n r_a0 [1, 2, 1, 3]) fun x2 =>
 loopM (fun again8 ((x3, x4, x5, x6) : (List UInt8) × Int × (List Part) × Int) =>
  bif decide ((0 : Int) < x6) then (
   Option.bind (s_l4Body n (⟨x3, x4⟩ : L16Rd)) fun x9 =>
   Option.bind (app x5 [x9.1]) fun x10 =>
   again8 (x9.2.b, x9.2.p, x10, wr (x6 - 1))
  ) else (
   Option.bind (s_ProgramValid n (⟨x1, x5⟩ : Prog)) fun x11 =>
   bif x11 then (
    some ((⟨x1, x5⟩ : Prog), (⟨x3, x4⟩ : L16Rd))
   ) else (
    Option.bind (s_l4Some n ) fun x12 =>
    Option.bind (sub x5 0 1) fun x13 =>
    some ((⟨x12, x13⟩ : Prog), (⟨x3, x4⟩ : L16Rd))
   )
  )
 ) n (x2.2.b, x2.2.p, [], x2.1))
def s_l5Bend (n : Nat) (r_a0 : L16Rd) (m : List Int) : Option ((List Int) × L16Rd) := (
 Option.bind (app [] m) fun x1 =>
 jn (fun ((x9, x10, x11) : (List UInt8) × Int × (List Int)) =>
  some (x11, (⟨x9, x10⟩ : L16Rd))
 ) (fun j2 =>
  Option.bind (s_l16Rd_pick n r_a0 40) fun x3 =>
  bif decide (x3.1 = 0) then (
   Option.bind (app x1 [0]) fun x4 =>
   j2 (x3.2.b, x3.2.p, x4)
  ) else (
   bif decide (x3.1 = 1) then (
    bif decide ((0 : Int) < (x1.length : Int)) then (
     Option.bind (s_l16Rd_pick n x3.2 (x1.length : Int)) fun x5 =>
     Option.bind (s_l16Rd_num n x5.2 [1000, (-1), 9223372036854775807]) fun x6 =>
     Option.bind (ix x1 x5.1) fun x7 =>
     Option.bind (setx x1 x5.1 x6.1) fun x8 =>
     j2 (x6.2.b, x6.2.p, x8)
    ) else (
     j2 (x3.2.b, x3.2.p, x1)
    )
   ) else (
    j2 (x3.2.b, x3.2.p, x1)
   )
  )
 ))
def s_CountCells (n : Nat) (p : Prog) : Option Int := (
 Option.bind (s_ProgramValid n p) fun x1 =>
 bif !x1 then (
  some 0
 ) else (
  Option.bind (s_l4Total n p) fun x2 =>
  some x2
 ))
def s_l5Memory (n : Nat) (r_a0 : L16Rd) (p : Prog) : Option ((List Int) × L16Rd) := (
 Option.bind (s_CountCells n p) fun x1 =>
 loopM (fun again7 ((x2, x3, x4, x5) : (List UInt8) × Int × (List Int) × Int) =>
  bif decide ((0 : Int) < x5) then (
   Option.bind (s_l16Rd_num n (⟨x2, x3⟩ : L16Rd) [1, 2, 5, 0, 7, 999, 10]) fun x8 =>
   Option.bind (app x4 [x8.1]) fun x9 =>
   again7 (x8.2.b, x8.2.p, x9, wr (x5 - 1))
  ) else (
   some (x4, (⟨x2, x3⟩ : L16Rd))
  )
 ) n (r_a0.b, r_a0.p, [], x1))
def s_l16Open (n : Nat) (code : List UInt8) : Option L16Rd := (
 jn (fun (x3 : (List UInt8)) =>
  some (⟨x3, 0⟩ : L16Rd)
 ) (fun j1 =>
  bif decide ((2000 : Int) < (code.length : Int)) then (
   Option.bind (sub code 0 2000) fun x2 =>
   j1 x2
  ) else (
   j1 code
  )
 ))
def s_l2Copy (n : Nat) (nest : List Loop) : Option (List Loop) := (
 loopM (fun again4 ((x1, x2) : (List Loop) × Int) =>
  bif decide (x2 < (nest.length : Int)) then (
   loopM (fun again8 ((x5, x6) : (List Affine) × Int) =>
    Option.bind (ix nest x2) fun x9 =>
    bif decide (x6 < (x9.lo.length : Int)) then (
     Option.bind (ix x9.lo x6) fun x10 =>
     Option.bind (app [] x10.coefs) fun x11 =>
     Option.bind (app x5 [(⟨x11, x10.const⟩ : Affine)]) fun x12 =>
     again8 (x12, wr (x6 + 1))
    ) else (
     loopM (fun again16 ((x13, x14) : (List Affine) × Int) =>
      bif decide (x14 < (x9.hi.length : Int)) then (
       Option.bind (ix x9.hi x14) fun x17 =>
       Option.bind (app [] x17.coefs) fun x18 =>
       Option.bind (app x13 [(⟨x18, x17.const⟩ : Affine)]) fun x19 =>
       again16 (x19, wr (x14 + 1))
      ) else (
       Option.bind (app x1 [(⟨x5, x13⟩ : Loop)]) fun x20 =>
       again4 (x20, wr (x2 + 1))
      )
     ) n ([], 0)
    )
   ) n ([], 0)
  ) else (
   some x1
  )
 ) n ([], 0))
def s_l3CopyExpr : Nat → Expr →  Option Expr
 | 0, _ => none
 | n + 1, e => (
  Option.bind (s_l3CopyAffine n e.index) fun x1 =>
  Option.bind (s_l3CopyAccess n e.read) fun x2 =>
  loopM (fun again6 ((x3, x4) : (List Expr) × Int) =>
   bif decide (x4 < (e.kids.length : Int)) then (
    Option.bind (ix e.kids x4) fun x7 =>
    Option.bind (s_l3CopyExpr n x7) fun x8 =>
    Option.bind (app x3 [x8]) fun x9 =>
    again6 (x9, wr (x4 + 1))
   ) else (
    some (⟨e.kind, e.num, x1, x2, x3⟩ : Expr)
   )
  ) n ([], 0))
def s_l3Copy (n : Nat) (s : Stmt) : Option Stmt := (
 Option.bind (s_l3CopyAccess n s.write) fun x1 =>
 Option.bind (s_l3CopyExpr n s.value) fun x2 =>
 some (⟨x1, x2⟩ : Stmt))
def s_l4Copy (n : Nat) (p : Prog) : Option Prog := (
 loopM (fun again4 ((x1, x2) : (List Arr) × Int) =>
  bif decide (x2 < (p.arrays.length : Int)) then (
   Option.bind (ix p.arrays x2) fun x5 =>
   Option.bind (app [] x5.dims) fun x6 =>
   Option.bind (app x1 [(⟨x5.name, x6⟩ : Arr)]) fun x7 =>
   again4 (x7, wr (x2 + 1))
  ) else (
   loopM (fun again11 ((x8, x9) : (List Part) × Int) =>
    bif decide (x9 < (p.parts.length : Int)) then (
     Option.bind (ix p.parts x9) fun x12 =>
     Option.bind (s_l2Copy n x12.nest) fun x13 =>
     loopM (fun again17 ((x14, x15) : (List Stmt) × Int) =>
      bif decide (x15 < (x12.body.length : Int)) then (
       Option.bind (ix x12.body x15) fun x18 =>
       Option.bind (s_l3Copy n x18) fun x19 =>
       Option.bind (app x14 [x19]) fun x20 =>
       again17 (x20, wr (x15 + 1))
      ) else (
       Option.bind (app x8 [(⟨x13, x14⟩ : Part)]) fun x21 =>
       again11 (x21, wr (x9 + 1))
      )
     ) n ([], 0)
    ) else (
     some (⟨x1, x8⟩ : Prog)
    )
   ) n ([], 0)
  )
 ) n ([], 0))
def s_l2Mutate (n : Nat) (r_a0 : L16Rd) (nest : List Loop) : Option ((List Loop) × L16Rd) := (
 Option.bind (s_l2Copy n nest) fun x1 =>
 bif decide ((x1.length : Int) = 0) then (
  some (x1, r_a0)
 ) else (
  jn (fun ((x24, x25, x26) : (List UInt8) × Int × (List Loop)) =>
   some (x26, (⟨x24, x25⟩ : L16Rd))
  ) (fun j2 =>
   Option.bind (s_l16Rd_pick n r_a0 40) fun x3 =>
   bif decide (x3.1 = 0) then (
    Option.bind (ix x1 0) fun x4 =>
    Option.bind (s_l16Rd_pick n x3.2 2) fun x5 =>
    Option.bind (s_l1Var n x5.1) fun x6 =>
    Option.bind (app x4.lo [x6]) fun x7 =>
    Option.bind (setx x1 0 ({ x4 with lo := x7 })) fun x8 =>
    j2 (x5.2.b, x5.2.p, x8)
   ) else (
    bif decide (x3.1 = 1) then (
     Option.bind (ix x1 (wr ((x1.length : Int) - 1))) fun x9 =>
     Option.bind (setx x1 (wr ((x1.length : Int) - 1)) ({ x9 with hi := [] })) fun x10 =>
     j2 (x3.2.b, x3.2.p, x10)
    ) else (
     bif decide (x3.1 = 2) then (
      Option.bind (ix x1 (wr ((x1.length : Int) - 1))) fun x11 =>
      Option.bind (s_l1Const n 1) fun x12 =>
      Option.bind (s_l1Const n 2) fun x13 =>
      Option.bind (app x11.hi [x12, x13]) fun x14 =>
      Option.bind (setx x1 (wr ((x1.length : Int) - 1)) ({ x11 with hi := x14 })) fun x15 =>
      j2 (x3.2.b, x3.2.p, x15)
     ) else (
      bif decide (x3.1 = 3) then (
       Option.bind (s_l1Const n 99) fun x16 =>
       Option.bind (ix x1 0) fun x17 =>
       Option.bind (setx x1 0 ({ x17 with hi := [x16] })) fun x18 =>
       j2 (x3.2.b, x3.2.p, x18)
      ) else (
       bif decide (x3.1 = 4) then (
        loopM (fun again21 (x19 : (List Loop)) =>
         bif decide ((x19.length : Int) ≤ 4) then (
          Option.bind (ix x19 0) fun x22 =>
          Option.bind (app x19 [x22]) fun x23 =>
          again21 x23
         ) else (
          j2 (x3.2.b, x3.2.p, x19)
         )
        ) n x1
       ) else (
        j2 (x3.2.b, x3.2.p, x1)
       )
      )
     )
    )
   )
  )
 ))
def s_l3Mutate (n : Nat) (r_a0 : L16Rd) (s : Stmt) : Option (Stmt × L16Rd) := (
 Option.bind (s_l3Copy n s) fun x1 =>
 jn (fun ((x11, x12, x13, x14, x15, x16, x17) : (List UInt8) × Int × (List Affine) × (List Expr) × (List UInt8) × Int × Int) =>
  some ((⟨(⟨x15, x13⟩ : Access), (⟨x16, x17, x1.value.index, x1.value.read, x14⟩ : Expr)⟩ : Stmt), (⟨x11, x12⟩ : L16Rd))
 ) (fun j2 =>
  Option.bind (s_l16Rd_pick n r_a0 40) fun x3 =>
  bif decide (x3.1 = 0) then (
   Option.bind (s_l16Rd_of n x3.2 [[69], [], [65, 66], [97]]) fun x4 =>
   j2 (x4.2.b, x4.2.p, x1.write.subs, x1.value.kids, x4.1, x1.value.kind, x1.value.num)
  ) else (
   bif decide (x3.1 = 1) then (
    Option.bind (s_l1Var n 3) fun x5 =>
    Option.bind (s_l1Zero n ) fun x6 =>
    Option.bind (app x1.write.subs [x5, x6]) fun x7 =>
    j2 (x3.2.b, x3.2.p, x7, x1.value.kids, x1.write.array, x1.value.kind, x1.value.num)
   ) else (
    bif decide (x3.1 = 2) then (
     Option.bind (s_l16Rd_num n x3.2 [0, 7, 1, 4, 2]) fun x8 =>
     j2 (x8.2.b, x8.2.p, x1.write.subs, x1.value.kids, x1.write.array, x8.1, x1.value.num)
    ) else (
     bif decide (x3.1 = 3) then (
      Option.bind (s_l16Rd_num n x3.2 [100, (-1), 1]) fun x9 =>
      j2 (x9.2.b, x9.2.p, x1.write.subs, x1.value.kids, x1.write.array, x1.value.kind, x9.1)
     ) else (
      bif decide (x3.1 = 4) then (
       Option.bind (app x1.value.kids [(⟨1, 0, (⟨[], 0⟩ : Affine), (⟨[], []⟩ : Access), []⟩ : Expr)]) fun x10 =>
       j2 (x3.2.b, x3.2.p, x1.write.subs, x10, x1.write.array, x1.value.kind, x1.value.num)
      ) else (
       j2 (x3.2.b, x3.2.p, x1.write.subs, x1.value.kids, x1.write.array, x1.value.kind, x1.value.num)
      )
     )
    )
   )
  )
 ))
def s_l4Mutate (n : Nat) (r_a0 : L16Rd) (p : Prog) : Option (Prog × L16Rd) := (
 Option.bind (s_l4Copy n p) fun x1 =>
 jn (fun ((x27, x28, x29, x30) : (List UInt8) × Int × (List Arr) × (List Part)) =>
  some ((⟨x29, x30⟩ : Prog), (⟨x27, x28⟩ : L16Rd))
 ) (fun j2 =>
  Option.bind (s_l16Rd_pick n r_a0 60) fun x3 =>
  bif decide (x3.1 = 0) then (
   Option.bind (s_l16Rd_of n x3.2 [[65], [68], [69]]) fun x4 =>
   Option.bind (s_l16Rd_num n x4.2 [7, 0, 3, (-1)]) fun x5 =>
   Option.bind (app x1.arrays [(⟨x4.1, [x5.1]⟩ : Arr)]) fun x6 =>
   j2 (x5.2.b, x5.2.p, x6, x1.parts)
  ) else (
   bif decide (x3.1 = 1) then (
    bif decide ((0 : Int) < (x1.arrays.length : Int)) then (
     Option.bind (s_l16Rd_num n x3.2 [1, 2, 7]) fun x7 =>
     Option.bind (ix x1.arrays 0) fun x8 =>
     Option.bind (setx x1.arrays 0 ({ x8 with dims := [x7.1] })) fun x9 =>
     j2 (x7.2.b, x7.2.p, x9, x1.parts)
    ) else (
     j2 (x3.2.b, x3.2.p, x1.arrays, x1.parts)
    )
   ) else (
    bif decide (x3.1 = 2) then (
     bif decide ((0 : Int) < (x1.parts.length : Int)) then (
      Option.bind (ix x1.parts 0) fun x10 =>
      Option.bind (s_l2Mutate n x3.2 x10.nest) fun x11 =>
      Option.bind (s_l2Mutate n x11.2 x11.1) fun x12 =>
      Option.bind (s_l2Mutate n x12.2 x12.1) fun x13 =>
      Option.bind (setx x1.parts 0 ({ x10 with nest := x13.1 })) fun x14 =>
      j2 (x13.2.b, x13.2.p, x1.arrays, x14)
     ) else (
      j2 (x3.2.b, x3.2.p, x1.arrays, x1.parts)
     )
    ) else (
     bif decide (x3.1 = 3) then (
      jn (fun (x17 : Bool) =>
       bif x17 then (
        Option.bind (ix x1.parts (wr ((x1.parts.length : Int) - 1))) fun x18 =>
        Option.bind (ix x18.body 0) fun x19 =>
        Option.bind (s_l3Mutate n x3.2 x19) fun x20 =>
        Option.bind (s_l3Mutate n x20.2 x20.1) fun x21 =>
        Option.bind (s_l3Mutate n x21.2 x21.1) fun x22 =>
        Option.bind (setx x18.body 0 x22.1) fun x23 =>
        Option.bind (setx x1.parts (wr ((x1.parts.length : Int) - 1)) ({ x18 with body := x23 })) fun x24 =>
        j2 (x22.2.b, x22.2.p, x1.arrays, x24)
       ) else (
        j2 (x3.2.b, x3.2.p, x1.arrays, x1.parts)
       )
      ) (fun j15 =>
       bif decide ((0 : Int) < (x1.parts.length : Int)) then (
        Option.bind (ix x1.parts (wr ((x1.parts.length : Int) - 1))) fun x16 =>
        j15 (decide ((0 : Int) < (x16.body.length : Int)))
       ) else (
        j15 false
       )
      )
     ) else (
      bif decide (x3.1 = 4) then (
       bif decide ((0 : Int) < (x1.parts.length : Int)) then (
        Option.bind (ix x1.parts (wr ((x1.parts.length : Int) - 1))) fun x25 =>
        Option.bind (setx x1.parts (wr ((x1.parts.length : Int) - 1)) ({ x25 with body := [] })) fun x26 =>
        j2 (x3.2.b, x3.2.p, x1.arrays, x26)
       ) else (
        j2 (x3.2.b, x3.2.p, x1.arrays, x1.parts)
       )
      ) else (
       j2 (x3.2.b, x3.2.p, x1.arrays, x1.parts)
      )
     )
    )
   )
  )
 ))
def w_lnInts (n : Nat) (a : List Int) (b : List Int) : Option Bool := (
 bif !decide ((a.length : Int) = (b.length : Int)) then (
  some false
 ) else (
  loopM (fun again2 (x1 : Int) =>
   bif decide (x1 < (a.length : Int)) then (
    Option.bind (ix a x1) fun x3 =>
    Option.bind (ix b x1) fun x4 =>
    bif !decide (x3 = x4) then (
     some false
    ) else (
     again2 (wr (x1 + 1))
    )
   ) else (
    some true
   )
  ) n 0
 ))
def s_ProgramInstances (n : Nat) (p : Prog) : Option (List Inst) := (
 Option.bind (s_ProgramValid n p) fun x1 =>
 bif !x1 then (
  some []
 ) else (
  Option.bind (s_l4Instances n p) fun x2 =>
  some x2
 ))
def s_l1Place (n : Nat) (r_a0 : L16Rd) : Option ((List Int) × L16Rd) := (
 Option.bind (s_l16Rd_num n r_a0 [2, 4, 3, 1, 0]) fun x1 =>
 loopM (fun again7 ((x2, x3, x4, x5) : (List UInt8) × Int × (List Int) × Int) =>
  bif decide ((0 : Int) < x5) then (
   Option.bind (s_l16Rd_num n (⟨x2, x3⟩ : L16Rd) [0, 1, 2, (-1), 3, 50, 9999]) fun x8 =>
   Option.bind (app x4 [x8.1]) fun x9 =>
   again7 (x8.2.b, x8.2.p, x9, wr (x5 - 1))
  ) else (
   jn (fun ((x14, x15, x16) : (List UInt8) × Int × (List Int)) =>
    some (x16, (⟨x14, x15⟩ : L16Rd))
   ) (fun j10 =>
    Option.bind (s_l16Rd_pick n (⟨x2, x3⟩ : L16Rd) 30) fun x11 =>
    bif decide (x11.1 = 0) then (
     Option.bind (s_l16Rd_num n x11.2 [10000, (-10000), 9223372036854775807]) fun x12 =>
     Option.bind (app x4 [x12.1, 0]) fun x13 =>
     j10 (x12.2.b, x12.2.p, x13)
    ) else (
     j10 (x11.2.b, x11.2.p, x4)
    )
   )
  )
 ) n (x1.2.b, x1.2.p, [], x1.1))
def s_l4One (n : Nat) (r_a0 : L16Rd) (p : Prog) : Option (Inst × L16Rd) := (
 Option.bind (s_ProgramInstances n p) fun x1 =>
 jn (fun ((x4, x5, x6) : (List UInt8) × Int × Bool) =>
  bif x6 then (
   Option.bind (s_l16Rd_pick n (⟨x4, x5⟩ : L16Rd) (x1.length : Int)) fun x7 =>
   Option.bind (ix x1 x7.1) fun x8 =>
   some (x8, x7.2)
  ) else (
   Option.bind (s_l16Rd_num n (⟨x4, x5⟩ : L16Rd) [0, 1, (-1), 5]) fun x9 =>
   Option.bind (s_l16Rd_num n x9.2 [0, 1, (-1), 9]) fun x10 =>
   Option.bind (s_l1Place n x10.2) fun x11 =>
   some ((⟨x9.1, x10.1, x11.1⟩ : Inst), x11.2)
  )
 ) (fun j2 =>
  bif decide ((0 : Int) < (x1.length : Int)) then (
   Option.bind (s_l16Rd_pick n r_a0 6) fun x3 =>
   j2 (x3.2.b, x3.2.p, decide ((0 : Int) < x3.1))
  ) else (
   j2 (r_a0.b, r_a0.p, false)
  )
 ))
def s_DrawInstanceValue (n : Nat) (code : List UInt8) : Option (Prog × (List Int) × Inst) := (
 Option.bind (s_l16Open n code) fun x1 =>
 Option.bind (s_l4Draw n x1) fun x2 =>
 Option.bind (s_l4Mutate n x2.2 x2.1) fun x3 =>
 Option.bind (s_l5Memory n x3.2 x3.1) fun x4 =>
 Option.bind (s_l5Bend n x4.2 x4.1) fun x5 =>
 Option.bind (s_l4One n x5.2 x3.1) fun x6 =>
 some (x3.1, x5.1, x6.1))
def s_DrawRunInstance (n : Nat) (code : List UInt8) : Option (Prog × (List Int) × Inst) := (
 Option.bind (s_DrawInstanceValue n code) fun x1 =>
 some (x1.1, x1.2.1, x1.2.2))
def i_InstanceValue (n : Nat) (p : Prog) (m : List Int) (x : Inst) : Option (Int × Bool) := (
 jn (fun (x4 : Bool) =>
  bif x4 then (
   some (0, false)
  ) else (
   Option.bind (i_Program_stmt n p x) fun x5 =>
   Option.bind (i_Program_value n p m x5.value x.point) fun x6 =>
   some (x6, true)
  )
 ) (fun j1 =>
  Option.bind (i_MemoryValid n p m) fun x2 =>
  bif !x2 then (
   j1 true
  ) else (
   Option.bind (i_Program_isInstance n p x) fun x3 =>
   j1 (!x3)
  )
 ))
def s_InstanceValue (n : Nat) (p : Prog) (m : List Int) (x : Inst) : Option (Int × Bool) := (
 jn (fun (x4 : Bool) =>
  bif x4 then (
   some (0, false)
  ) else (
   Option.bind (ix p.parts x.part) fun x5 =>
   Option.bind (ix x5.body x.stmt) fun x6 =>
   Option.bind (s_l5Eval n p.arrays m x6.value x.point) fun x7 =>
   some (x7, true)
  )
 ) (fun j1 =>
  Option.bind (s_MemoryValid n p m) fun x2 =>
  bif !x2 then (
   j1 true
  ) else (
   Option.bind (s_l4In n p x) fun x3 =>
   j1 (!x3)
  )
 ))
def i_InstanceCells (n : Nat) (p : Prog) (x : Inst) : Option ((List Int) × Int × Bool) := (
 jn (fun (x4 : Bool) =>
  bif x4 then (
   some ([], 0, false)
  ) else (
   Option.bind (i_Program_touched n p x) fun x5 =>
   some (x5.1, x5.2, true)
  )
 ) (fun j1 =>
  Option.bind (i_ProgramValid n p) fun x2 =>
  bif !x2 then (
   j1 true
  ) else (
   Option.bind (i_Program_isInstance n p x) fun x3 =>
   j1 (!x3)
  )
 ))
def w_FnRunInstance (n : Nat) (code : List UInt8) : Option Bool := (
 bif decide ((1048576 : Int) < (code.length : Int)) then (
  some true
 ) else (
  Option.bind (s_DrawRunInstance n code) fun x1 =>
  Option.bind (i_RunInstance n x1.1 x1.2.1 x1.2.2) fun x2 =>
  Option.bind (s_RunInstance n x1.1 x1.2.1 x1.2.2) fun x3 =>
  Option.bind (i_InstanceValue n x1.1 x1.2.1 x1.2.2) fun x4 =>
  Option.bind (s_InstanceValue n x1.1 x1.2.1 x1.2.2) fun x5 =>
  jn (fun (x8 : Bool) =>
   bif x8 then (
    jn (fun (x11 : Bool) =>
     some x11
    ) (fun j9 =>
     bif (x2.2 == x3.2) then (
      Option.bind (w_lnInts n x2.1 x3.1) fun x10 =>
      bif x10 then (
       bif (x4.2 == x5.2) then (
        bif decide (x4.1 = x5.1) then (
         j9 (x2.2 == x4.2)
        ) else (
         j9 false
        )
       ) else (
        j9 false
       )
      ) else (
       j9 false
      )
     ) else (
      j9 false
     )
    )
   ) else (
    Option.bind (i_InstanceCells n x1.1 x1.2.2) fun x12 =>
    loopM (fun again14 (x13 : Int) =>
     bif decide (x13 < (x1.2.1.length : Int)) then (
      jn (fun (x18 : Bool) =>
       bif x18 then (
        some false
       ) else (
        again14 (wr (x13 + 1))
       )
      ) (fun j15 =>
       bif !decide (x13 = x12.2.1) then (
        Option.bind (ix x2.1 x13) fun x16 =>
        Option.bind (ix x1.2.1 x13) fun x17 =>
        j15 (!decide (x16 = x17))
       ) else (
        j15 false
       )
      )
     ) else (
      jn (fun (x21 : Bool) =>
       some x21
      ) (fun j19 =>
       bif x12.2.2 then (
        Option.bind (ix x2.1 x12.2.1) fun x20 =>
        bif decide (x20 = x4.1) then (
         bif decide ((0 : Int) ≤ x4.1) then (
          j19 (decide (x4.1 ≤ 999))
         ) else (
          j19 false
         )
        ) else (
         j19 false
        )
       ) else (
        j19 false
       )
      )
     )
    ) n 0
   )
  ) (fun j6 =>
   bif !(x2.2 == x3.2) then (
    j6 true
   ) else (
    Option.bind (w_lnInts n x2.1 x3.1) fun x7 =>
    bif !x7 then (
     j6 true
    ) else (
     bif !(x4.2 == x5.2) then (
      j6 true
     ) else (
      bif !decide (x4.1 = x5.1) then (
       j6 true
      ) else (
       bif !(x2.2 == x4.2) then (
        j6 true
       ) else (
        j6 (!x2.2)
       )
      )
     )
    )
   )
  )
 ))
end Go.Lift
