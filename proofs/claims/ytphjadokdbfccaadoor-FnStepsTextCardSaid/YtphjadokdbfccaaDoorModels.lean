/- What the functions compute, as plain functions. -/
import Derived.Test.YtphjadokdbfccaaDoorTypes
set_option linter.unusedVariables false
namespace Go.Lift
open Go
def s_l16Open (n : Nat) (code : List UInt8) : Option L16Rd := (
  jn (fun (x3 : (List UInt8)) =>
    some (⟨x3, 0⟩ : L16Rd)
  ) (fun j1 =>
    bif decide ((2000 : Int) < (code.length : Int)) then (
      Option.bind (sub code 0 2000) fun x2 =>
      j1 x2
    ) else (
      j1 code
    )
  ))

def s_l16Rd_pick (n : Nat) (r_a0 : L16Rd) (n_a1 : Int) : Option (Int × L16Rd) := (
  jn (fun (x2 : Bool) =>
    bif x2 then (
      some (0, (⟨r_a0.b, wr (r_a0.p + 1)⟩ : L16Rd))
    ) else (
      bif decide (wr ((wr (r_a0.p + 1)) - 1) < (r_a0.b.length : Int)) then (
        Option.bind (ix r_a0.b (wr ((wr (r_a0.p + 1)) - 1))) fun x3 =>
        Option.bind (nzc n_a1) fun x4 =>
        some (Int.tmod (x3.toNat : Int) n_a1, (⟨r_a0.b, wr (r_a0.p + 1)⟩ : L16Rd))
      ) else (
        Option.bind (nzc (r_a0.b.length : Int)) fun x5 =>
        Option.bind (ix r_a0.b (Int.tmod (wr ((wr (r_a0.p + 1)) - 1)) (r_a0.b.length : Int))) fun x6 =>
        Option.bind (nzc (r_a0.b.length : Int)) fun x7 =>
        Option.bind (ix r_a0.b (Int.tmod (wr ((wr ((wr ((wr (r_a0.p + 1)) - 1)) * 7)) + 3)) (r_a0.b.length : Int))) fun x8 =>
        Option.bind (nzc (r_a0.b.length : Int)) fun x9 =>
        Option.bind (nzc n_a1) fun x10 =>
        some (Int.tmod (bits BinOp.xor IntKind.i64 (wr ((wr ((wr ((wr ((x6.toNat : Int) * 131)) + (wr ((x8.toNat : Int) * 1117)))) + (wr ((wr ((wr (r_a0.p + 1)) - 1)) * 29)))) + (wr ((wr (Int.tdiv (wr ((wr (r_a0.p + 1)) - 1)) (r_a0.b.length : Int))) * 53)))) (wr (Int.tdiv (wr ((wr ((wr ((wr ((x6.toNat : Int) * 131)) + (wr ((x8.toNat : Int) * 1117)))) + (wr ((wr ((wr (r_a0.p + 1)) - 1)) * 29)))) + (wr ((wr (Int.tdiv (wr ((wr (r_a0.p + 1)) - 1)) (r_a0.b.length : Int))) * 53)))) 64))) n_a1, (⟨r_a0.b, wr (r_a0.p + 1)⟩ : L16Rd))
      )
    )
  ) (fun j1 =>
    bif decide (n_a1 < 1) then (
      j1 true
    ) else (
      j1 (decide ((r_a0.b.length : Int) = 0))
    )
  ))

def s_l16Rd_num (n : Nat) (r_a0 : L16Rd) (list : List Int) : Option (Int × L16Rd) := (
  Option.bind (s_l16Rd_pick n r_a0 (list.length : Int)) fun x1 =>
  Option.bind (ix list x1.1) fun x2 =>
  some (x2, x1.2))

def s_l14Fields (n : Nat) (kind : Int) : Option Int := (
  jn (fun (x2 : Bool) =>
    bif x2 then (
      some 3
    ) else (
      jn (fun (x4 : Bool) =>
        bif x4 then (
          some 2
        ) else (
          jn (fun (x6 : Bool) =>
            bif x6 then (
              some 1
            ) else (
              some 0
            )
          ) (fun j5 =>
            bif decide (kind = 6) then (
              j5 (decide (kind = 6))
            ) else (
              bif decide (kind = 9) then (
                j5 (decide (kind = 9))
              ) else (
                j5 (decide (kind = 10))
              )
            )
          )
        )
      ) (fun j3 =>
        bif decide (kind = 1) then (
          j3 (decide (kind = 1))
        ) else (
          bif decide (kind = 2) then (
            j3 (decide (kind = 2))
          ) else (
            bif decide (kind = 7) then (
              j3 (decide (kind = 7))
            ) else (
              j3 (decide (kind = 8))
            )
          )
        )
      )
    )
  ) (fun j1 =>
    bif decide (kind = 3) then (
      j1 (decide (kind = 3))
    ) else (
      bif decide (kind = 4) then (
        j1 (decide (kind = 4))
      ) else (
        j1 (decide (kind = 5))
      )
    )
  ))

def s_l14Step (n : Nat) (r_a0 : L16Rd) : Option (Step × L16Rd) := (
  Option.bind (s_l16Rd_pick n r_a0 11) fun x1 =>
  Option.bind (s_l16Rd_num n x1.2 [0, 0, 1, 0]) fun x2 =>
  Option.bind (s_l16Rd_num n x2.2 [0, 1, 0, 2]) fun x3 =>
  Option.bind (s_l16Rd_num n x3.2 [1, 2, (-1), 3]) fun x4 =>
  Option.bind (s_l14Fields n (wr (1 + x1.1))) fun x5 =>
  jn (fun (x7 : Int) =>
    jn (fun (x9 : Int) =>
      jn (fun (x11 : Int) =>
        jn (fun ((x15, x16, x17) : (List UInt8) × Int × Int) =>
          some ((⟨wr (1 + x1.1), x11, x9, x17⟩ : Step), (⟨x15, x16⟩ : L16Rd))
        ) (fun j12 =>
          Option.bind (s_l16Rd_pick n x4.2 30) fun x13 =>
          bif decide (x13.1 = 0) then (
            Option.bind (s_l16Rd_num n x13.2 [1, 100, (-9223372036854775808)]) fun x14 =>
            j12 (x14.2.b, x14.2.p, x14.1)
          ) else (
            j12 (x13.2.b, x13.2.p, x7)
          )
        )
      ) (fun j10 =>
        bif decide (x5 < 1) then (
          j10 0
        ) else (
          j10 x2.1
        )
      )
    ) (fun j8 =>
      bif decide (x5 < 2) then (
        j8 0
      ) else (
        j8 x3.1
      )
    )
  ) (fun j6 =>
    bif decide (x5 < 3) then (
      j6 0
    ) else (
      j6 x4.1
    )
  ))

def s_DrawFormatSteps (n : Nat) (code : List UInt8) : Option (List Step) := (
  Option.bind (s_l16Open n code) fun x1 =>
  Option.bind (s_l16Rd_num n x1 [2, 3, 1, 0, 6, 13]) fun x2 =>
  loopM (fun again8 ((x3, x4, x5, x6) : (List UInt8) × Int × (List Step) × Int) =>
    bif decide ((0 : Int) < x6) then (
      Option.bind (s_l14Step n (⟨x3, x4⟩ : L16Rd)) fun x9 =>
      Option.bind (app x5 [x9.1]) fun x10 =>
      again8 (x9.2.b, x9.2.p, x10, wr (x6 - 1))
    ) else (
      some x5
    )
  ) n (x2.2.b, x2.2.p, [], x2.1))

def i_fields (n : Nat) (kind : Int) : Option Int := (
  jn (fun (x2 : Bool) =>
    bif x2 then (
      some 2
    ) else (
      jn (fun (x4 : Bool) =>
        bif x4 then (
          some 3
        ) else (
          jn (fun (x6 : Bool) =>
            bif x6 then (
              some 1
            ) else (
              bif decide (kind = 11) then (
                some 0
              ) else (
                some (-1)
              )
            )
          ) (fun j5 =>
            bif decide (kind = 6) then (
              j5 (decide (kind = 6))
            ) else (
              bif decide (kind = 9) then (
                j5 (decide (kind = 9))
              ) else (
                j5 (decide (kind = 10))
              )
            )
          )
        )
      ) (fun j3 =>
        bif decide (kind = 3) then (
          j3 (decide (kind = 3))
        ) else (
          bif decide (kind = 4) then (
            j3 (decide (kind = 4))
          ) else (
            j3 (decide (kind = 5))
          )
        )
      )
    )
  ) (fun j1 =>
    bif decide (kind = 1) then (
      j1 (decide (kind = 1))
    ) else (
      bif decide (kind = 2) then (
        j1 (decide (kind = 2))
      ) else (
        bif decide (kind = 7) then (
          j1 (decide (kind = 7))
        ) else (
          j1 (decide (kind = 8))
        )
      )
    )
  ))

def i_isRight_1 (n : Nat) (v : Int) : Option Bool := (
  some (!decide (v = 0)))

def l_IndexFunc_int (n : Nat) (s : List Int) (f : Int → Option Bool) : Option Int := (
  loopM (fun again2 (x1 : Int) =>
    bif decide (x1 < (s.length : Int)) then (
      Option.bind (ix s x1) fun x3 =>
      Option.bind (f x3) fun x4 =>
      bif x4 then (
        some x1
      ) else (
        again2 (wr (x1 + 1))
      )
    ) else (
      some (-1)
    )
  ) n 0)

def l_ContainsFunc_int (n : Nat) (s : List Int) (f : Int → Option Bool) : Option Bool := (
  Option.bind (l_IndexFunc_int n s f) fun x1 =>
  some (decide ((0 : Int) ≤ x1)))

def i_Step_list (n : Nat) (s : Step) : Option (List Int) := (
  some [s.part, s.a, s.b])

def i_isRight (n : Nat) (s : Step) : Option Bool := (
  Option.bind (i_fields n s.kind) fun x1 =>
  jn (fun (x6 : Bool) =>
    some x6
  ) (fun j2 =>
    bif decide ((0 : Int) ≤ x1) then (
      Option.bind (i_Step_list n s) fun x3 =>
      Option.bind (sub x3 x1 (x3.length : Int)) fun x4 =>
      Option.bind (l_ContainsFunc_int n x4 (fun q0 => i_isRight_1 n q0)) fun x5 =>
      j2 (!x5)
    ) else (
      j2 false
    )
  ))

def i_within (n : Nat) (n_a0 : Int) (low : Int) (high : Int) : Option Bool := (
  jn (fun (x2 : Bool) =>
    some x2
  ) (fun j1 =>
    bif decide (low ≤ n_a0) then (
      j1 (decide (n_a0 ≤ high))
    ) else (
      j1 false
    )
  ))

def i_isConst (n : Nat) (n_a0 : Int) : Option Bool := (
  Option.bind (i_within n n_a0 (-99) 99) fun x1 =>
  some x1)

def i_hasText_1 (n : Nat) (n_a0 : Int) : Option Bool := (
  Option.bind (i_isConst n n_a0) fun x1 =>
  some (!x1))

def i_hasText (n : Nat) (s : Step) : Option Bool := (
  jn (fun (x5 : Bool) =>
    some x5
  ) (fun j1 =>
    Option.bind (i_isRight n s) fun x2 =>
    bif x2 then (
      Option.bind (i_Step_list n s) fun x3 =>
      Option.bind (l_ContainsFunc_int n x3 (fun q0 => i_hasText_1 n q0)) fun x4 =>
      j1 (!x4)
    ) else (
      j1 false
    )
  ))

def i_stepWords (n : Nat)  : Option (List (List UInt8)) := (
  some [[105, 110, 116, 101, 114, 99, 104, 97, 110, 103, 101], [114, 101, 118, 101, 114, 115, 101], [115, 107, 101, 119], [115, 104, 105, 102, 116], [115, 116, 114, 105, 112], [102, 117, 115, 101], [100, 105, 115, 116, 114, 105, 98, 117, 116, 101], [115, 112, 108, 105, 116], [115, 119, 97, 112], [100, 114, 111, 112], [102, 111, 108, 100]])

def i_stepText (n : Nat) (s : Step) : Option (List UInt8) := (
  Option.bind (i_stepWords n ) fun x1 =>
  Option.bind (ix x1 (wr (s.kind - 1))) fun x2 =>
  Option.bind (i_Step_list n s) fun x3 =>
  Option.bind (i_fields n s.kind) fun x4 =>
  Option.bind (sub x3 0 x4) fun x5 =>
  loopM (fun again8 ((x6, x7) : (List UInt8) × Int) =>
    bif decide (x7 < (x5.length : Int)) then (
      Option.bind (ix x5 x7) fun x9 =>
      Option.bind (m_itoa x9) fun x10 =>
      Option.bind (cat [32] x10) fun x11 =>
      Option.bind (cat x6 x11) fun x12 =>
      again8 (x12, wr (x7 + 1))
    ) else (
      some x6
    )
  ) n (x2, 0))

def i_FormatSteps (n : Nat) (list : List Step) : Option (List UInt8) := (
  loopM (fun again3 ((x1, x2) : (List UInt8) × Int) =>
    bif decide (x2 < (list.length : Int)) then (
      Option.bind (ix list x2) fun x4 =>
      jn (fun (x7 : Bool) =>
        bif x7 then (
          some []
        ) else (
          Option.bind (i_stepText n x4) fun x8 =>
          Option.bind (cat x8 [10]) fun x9 =>
          Option.bind (cat x1 x9) fun x10 =>
          again3 (x10, wr (x2 + 1))
        )
      ) (fun j5 =>
        bif decide ((12 : Int) < (list.length : Int)) then (
          j5 true
        ) else (
          Option.bind (i_hasText n x4) fun x6 =>
          j5 (!x6)
        )
      )
    ) else (
      some x1
    )
  ) n ([], 0))

def l_Index_string (n : Nat) (s : List (List UInt8)) (v : List UInt8) : Option Int := (
  loopM (fun again2 (x1 : Int) =>
    bif decide (x1 < (s.length : Int)) then (
      Option.bind (ix s x1) fun x3 =>
      bif decide (v = x3) then (
        some x1
      ) else (
        again2 (wr (x1 + 1))
      )
    ) else (
      some (-1)
    )
  ) n 0)

def i_readStep (n : Nat) (line : List UInt8) : Option (Step × Bool) := (
  Option.bind (m_split line [32]) fun x1 =>
  Option.bind (i_stepWords n ) fun x2 =>
  Option.bind (ix x1 0) fun x3 =>
  Option.bind (l_Index_string n x2 x3) fun x4 =>
  jn (fun (x7 : Bool) =>
    bif x7 then (
      some ((⟨0, 0, 0, 0⟩ : Step), false)
    ) else (
      Option.bind (sub x1 1 (x1.length : Int)) fun x8 =>
      loopM (fun again13 ((x9, x10, x11, x12) : Int × Int × Int × Int) =>
        bif decide (x12 < (x8.length : Int)) then (
          Option.bind (ix x8 x12) fun x14 =>
          Option.bind (m_atoi x14) fun x15 =>
          bif x15.2 then (
            some ((⟨0, 0, 0, 0⟩ : Step), false)
          ) else (
            bif decide (x12 = 0) then (
              again13 (x15.1, x10, x11, wr (x12 + 1))
            ) else (
              bif decide (x12 = 1) then (
                again13 (x9, x15.1, x11, wr (x12 + 1))
              ) else (
                bif decide (x12 = 2) then (
                  again13 (x9, x10, x15.1, wr (x12 + 1))
                ) else (
                  none
                )
              )
            )
          )
        ) else (
          jn (fun (x19 : Bool) =>
            some ((⟨wr (1 + x4), x9, x10, x11⟩ : Step), x19)
          ) (fun j16 =>
            Option.bind (i_hasText n (⟨wr (1 + x4), x9, x10, x11⟩ : Step)) fun x17 =>
            bif x17 then (
              Option.bind (i_stepText n (⟨wr (1 + x4), x9, x10, x11⟩ : Step)) fun x18 =>
              j16 (decide (x18 = line))
            ) else (
              j16 false
            )
          )
        )
      ) n (0, 0, 0, 0)
    )
  ) (fun j5 =>
    bif decide (wr (1 + x4) < 1) then (
      j5 true
    ) else (
      Option.bind (i_fields n (wr (1 + x4))) fun x6 =>
      j5 (!decide (wr ((x1.length : Int) - 1) = x6))
    )
  ))

def i_ParseSteps (n : Nat) (text : List UInt8) : Option ((List Step) × Bool) := (
  Option.bind (m_split text [10]) fun x1 =>
  jn (fun (x4 : Bool) =>
    bif x4 then (
      some ([], false)
    ) else (
      Option.bind (sub x1 0 (wr ((x1.length : Int) - 1))) fun x5 =>
      loopM (fun again9 ((x6, x7) : (List Step) × Int) =>
        bif decide (x7 < (x5.length : Int)) then (
          Option.bind (ix x5 x7) fun x10 =>
          Option.bind (i_readStep n x10) fun x11 =>
          bif !x11.2 then (
            some ([], false)
          ) else (
            Option.bind (app x6 [x11.1]) fun x12 =>
            again9 (x12, wr (x7 + 1))
          )
        ) else (
          some (x6, true)
        )
      ) n ([], 0)
    )
  ) (fun j2 =>
    Option.bind (ix x1 (wr ((x1.length : Int) - 1))) fun x3 =>
    bif !decide (x3 = []) then (
      j2 true
    ) else (
      j2 (decide ((12 : Int) < wr ((x1.length : Int) - 1)))
    )
  ))

def s_l14Right (n : Nat) (s : Step) : Option Bool := (
  Option.bind (s_l14Fields n s.kind) fun x1 =>
  jn (fun (x3 : Bool) =>
    some x3
  ) (fun j2 =>
    bif decide ((1 : Int) ≤ s.kind) then (
      bif decide (s.kind ≤ 11) then (
        bif decide ((0 : Int) < x1) then (
          bif decide ((1 : Int) < x1) then (
            bif decide ((2 : Int) < x1) then (
              j2 true
            ) else (
              j2 (decide (s.b = 0))
            )
          ) else (
            bif decide (s.a = 0) then (
              bif decide ((2 : Int) < x1) then (
                j2 true
              ) else (
                j2 (decide (s.b = 0))
              )
            ) else (
              j2 false
            )
          )
        ) else (
          bif decide (s.part = 0) then (
            bif decide ((1 : Int) < x1) then (
              bif decide ((2 : Int) < x1) then (
                j2 true
              ) else (
                j2 (decide (s.b = 0))
              )
            ) else (
              bif decide (s.a = 0) then (
                bif decide ((2 : Int) < x1) then (
                  j2 true
                ) else (
                  j2 (decide (s.b = 0))
                )
              ) else (
                j2 false
              )
            )
          ) else (
            j2 false
          )
        )
      ) else (
        j2 false
      )
    ) else (
      j2 false
    )
  ))

def s_l1Within (n : Nat) (n_a0 : Int) (most : Int) : Option Bool := (
  jn (fun (x2 : Bool) =>
    some x2
  ) (fun j1 =>
    bif decide (wr (0 - most) ≤ n_a0) then (
      j1 (decide (n_a0 ≤ most))
    ) else (
      j1 false
    )
  ))

def s_l14Small (n : Nat) (s : Step) : Option Bool := (
  jn (fun (x5 : Bool) =>
    some x5
  ) (fun j1 =>
    Option.bind (s_l1Within n s.part 99) fun x2 =>
    bif x2 then (
      Option.bind (s_l1Within n s.a 99) fun x3 =>
      bif x3 then (
        Option.bind (s_l1Within n s.b 99) fun x4 =>
        j1 x4
      ) else (
        j1 false
      )
    ) else (
      j1 false
    )
  ))

def s_l14Words (n : Nat)  : Option (List (List UInt8)) := (
  some [[], [105, 110, 116, 101, 114, 99, 104, 97, 110, 103, 101], [114, 101, 118, 101, 114, 115, 101], [115, 107, 101, 119], [115, 104, 105, 102, 116], [115, 116, 114, 105, 112], [102, 117, 115, 101], [100, 105, 115, 116, 114, 105, 98, 117, 116, 101], [115, 112, 108, 105, 116], [115, 119, 97, 112], [100, 114, 111, 112], [102, 111, 108, 100]])

def s_l16Dec : Nat → Int →  Option (List UInt8)
  | 0, _ => none
  | n + 1, n_a0 => (
    bif decide (n_a0 < (-9223372036854775807)) then (
      some [45, 57, 50, 50, 51, 51, 55, 50, 48, 51, 54, 56, 53, 52, 55, 55, 53, 56, 48, 56]
    ) else (
      bif decide (n_a0 < 0) then (
        Option.bind (s_l16Dec n (wr (0 - n_a0))) fun x1 =>
        Option.bind (cat [45] x1) fun x2 =>
        some x2
      ) else (
        loopM (fun again5 ((x3, x4) : Int × (List UInt8)) =>
          bif decide ((9 : Int) < x3) then (
            Option.bind (cat [UInt8.ofInt (wr (48 + (Int.tmod x3 10)))] x4) fun x6 =>
            again5 (wr (Int.tdiv x3 10), x6)
          ) else (
            Option.bind (cat [UInt8.ofInt (wr (48 + x3))] x4) fun x7 =>
            some x7
          )
        ) n (n_a0, [])
      )
    ))

def s_l14Signed (n : Nat) (n_a0 : Int) : Option (List UInt8) := (
  bif decide (n_a0 < 0) then (
    Option.bind (s_l16Dec n (wr (0 - n_a0))) fun x1 =>
    Option.bind (cat [45] x1) fun x2 =>
    some x2
  ) else (
    Option.bind (s_l16Dec n n_a0) fun x3 =>
    some x3
  ))

def s_FormatSteps (n : Nat) (list : List Step) : Option (List UInt8) := (
  loopM (fun again3 ((x1, x2) : (List UInt8) × Int) =>
    bif decide (x2 < (list.length : Int)) then (
      jn (fun (x8 : Bool) =>
        bif x8 then (
          some []
        ) else (
          Option.bind (ix list x2) fun x9 =>
          Option.bind (s_l14Words n ) fun x10 =>
          Option.bind (ix x10 x9.kind) fun x11 =>
          Option.bind (cat x1 x11) fun x12 =>
          loopM (fun again15 ((x13, x14) : (List UInt8) × Int) =>
            Option.bind (s_l14Fields n x9.kind) fun x16 =>
            bif decide (x14 < x16) then (
              Option.bind (cat x13 [32]) fun x17 =>
              Option.bind (ix [x9.part, x9.a, x9.b] x14) fun x18 =>
              Option.bind (s_l14Signed n x18) fun x19 =>
              Option.bind (cat x17 x19) fun x20 =>
              again15 (x20, wr (x14 + 1))
            ) else (
              Option.bind (cat x13 [10]) fun x21 =>
              again3 (x21, wr (x2 + 1))
            )
          ) n (x12, 0)
        )
      ) (fun j4 =>
        Option.bind (ix list x2) fun x5 =>
        Option.bind (s_l14Right n x5) fun x6 =>
        bif !x6 then (
          j4 true
        ) else (
          Option.bind (s_l14Small n x5) fun x7 =>
          bif !x7 then (
            j4 true
          ) else (
            j4 (decide ((12 : Int) < (list.length : Int)))
          )
        )
      )
    ) else (
      some x1
    )
  ) n ([], 0))

def w_lnSteps (n : Nat) (a : List Step) (b : List Step) : Option Bool := (
  bif !decide ((a.length : Int) = (b.length : Int)) then (
    some false
  ) else (
    loopM (fun again2 (x1 : Int) =>
      bif decide (x1 < (a.length : Int)) then (
        Option.bind (ix a x1) fun x3 =>
        Option.bind (ix b x1) fun x4 =>
        bif !(decide ([x3.kind, x3.part, x3.a, x3.b] = [x4.kind, x4.part, x4.a, x4.b])) then (
          some false
        ) else (
          again2 (wr (x1 + 1))
        )
      ) else (
        some true
      )
    ) n 0
  ))

def s_l16Rd_of (n : Nat) (r_a0 : L16Rd) (list : List (List UInt8)) : Option ((List UInt8) × L16Rd) := (
  Option.bind (s_l16Rd_pick n r_a0 (list.length : Int)) fun x1 =>
  Option.bind (ix list x1.1) fun x2 =>
  some (x2, x1.2))

def s_l1Bend (n : Nat) (r_a0 : L16Rd) (s : List UInt8) (bits : List (List UInt8)) : Option ((List UInt8) × L16Rd) := (
  jn (fun ((x3, x4, x5) : (List UInt8) × Int × Bool) =>
    bif x5 then (
      some (s, (⟨x3, x4⟩ : L16Rd))
    ) else (
      Option.bind (s_l16Rd_pick n (⟨x3, x4⟩ : L16Rd) (s.length : Int)) fun x6 =>
      Option.bind (sub s 0 x6.1) fun x7 =>
      Option.bind (s_l16Rd_of n x6.2 bits) fun x8 =>
      Option.bind (cat x7 x8.1) fun x9 =>
      Option.bind (s_l16Rd_pick n x8.2 2) fun x10 =>
      Option.bind (sub s (wr (x6.1 + x10.1)) (s.length : Int)) fun x11 =>
      Option.bind (cat x9 x11) fun x12 =>
      some (x12, x10.2)
    )
  ) (fun j1 =>
    bif decide ((s.length : Int) = 0) then (
      j1 (r_a0.b, r_a0.p, true)
    ) else (
      Option.bind (s_l16Rd_pick n r_a0 2) fun x2 =>
      j1 (x2.2.b, x2.2.p, decide (x2.1 = 0))
    )
  ))

def s_DrawParseSteps (n : Nat) (code : List UInt8) : Option (List UInt8) := (
  Option.bind (s_l16Open n code) fun x1 =>
  Option.bind (s_l16Rd_num n x1 [2, 3, 1, 0]) fun x2 =>
  loopM (fun again8 ((x3, x4, x5, x6) : (List UInt8) × Int × (List Step) × Int) =>
    bif decide ((0 : Int) < x6) then (
      Option.bind (s_l14Step n (⟨x3, x4⟩ : L16Rd)) fun x9 =>
      Option.bind (app x5 [x9.1]) fun x10 =>
      again8 (x9.2.b, x9.2.p, x10, wr (x6 - 1))
    ) else (
      Option.bind (s_FormatSteps n x5) fun x11 =>
      Option.bind (s_l1Bend n (⟨x3, x4⟩ : L16Rd) x11 [[], [32], [10], [48], [45], [102, 111, 108, 100], [120]]) fun x12 =>
      some x12.1
    )
  ) n (x2.2.b, x2.2.p, [], x2.1))

def s_l16Cut (n : Nat) (s : List UInt8) (c : UInt8) : Option (List (List UInt8)) := (
  loopM (fun again5 ((x1, x2, x3) : (List (List UInt8)) × Int × Int) =>
    bif decide (x3 ≤ (s.length : Int)) then (
      jn (fun ((x12, x13) : (List (List UInt8)) × Int) =>
        again5 (x12, x13, wr (x3 + 1))
      ) (fun j6 =>
        jn (fun (x9 : Bool) =>
          bif x9 then (
            Option.bind (sub s x2 x3) fun x10 =>
            Option.bind (app x1 [x10]) fun x11 =>
            j6 (x11, wr (x3 + 1))
          ) else (
            j6 (x1, x2)
          )
        ) (fun j7 =>
          bif decide (x3 = (s.length : Int)) then (
            j7 true
          ) else (
            Option.bind (ix s x3) fun x8 =>
            j7 (decide ((x8.toNat : Int) = (c.toNat : Int)))
          )
        )
      )
    ) else (
      some x1
    )
  ) n ([], 0, 0))

def s_l16Words (n : Nat) (s : List UInt8) : Option (List (List UInt8)) := (
  Option.bind (s_l16Cut n s (32 : UInt8)) fun x1 =>
  loopM (fun again5 ((x2, x3) : (List (List UInt8)) × Int) =>
    bif decide (x3 < (x1.length : Int)) then (
      jn (fun (x9 : (List (List UInt8))) =>
        again5 (x9, wr (x3 + 1))
      ) (fun j6 =>
        Option.bind (ix x1 x3) fun x7 =>
        bif !decide (x7 = []) then (
          Option.bind (app x2 [x7]) fun x8 =>
          j6 x8
        ) else (
          j6 x2
        )
      )
    ) else (
      some x2
    )
  ) n ([], 0))

def s_l16Num (n : Nat) (s : List UInt8) : Option (Int × Bool) := (
  jn (fun (x3 : Bool) =>
    jn (fun (x6 : (List UInt8)) =>
      jn (fun (x9 : Bool) =>
        bif x9 then (
          some (0, false)
        ) else (
          loopM (fun again12 ((x10, x11) : Int × Int) =>
            bif decide (x11 < (x6.length : Int)) then (
              jn (fun (x15 : Bool) =>
                bif x15 then (
                  some (0, false)
                ) else (
                  Option.bind (ix x6 x11) fun x16 =>
                  again12 (wr ((wr (x10 * 10)) + ((x16 - (48 : UInt8)).toNat : Int)), wr (x11 + 1))
                )
              ) (fun j13 =>
                Option.bind (ix x6 x11) fun x14 =>
                bif decide ((x14.toNat : Int) < 48) then (
                  j13 true
                ) else (
                  j13 (decide ((57 : Int) < (x14.toNat : Int)))
                )
              )
            ) else (
              jn (fun (x18 : Int) =>
                some (x18, true)
              ) (fun j17 =>
                bif x3 then (
                  j17 (wr (0 - x10))
                ) else (
                  j17 x10
                )
              )
            )
          ) n (0, 0)
        )
      ) (fun j7 =>
        bif decide ((x6.length : Int) = 0) then (
          j7 true
        ) else (
          bif decide ((17 : Int) < (x6.length : Int)) then (
            j7 true
          ) else (
            Option.bind (ix x6 0) fun x8 =>
            bif decide ((x8.toNat : Int) = 48) then (
              bif decide ((1 : Int) < (x6.length : Int)) then (
                j7 true
              ) else (
                j7 x3
              )
            ) else (
              j7 false
            )
          )
        )
      )
    ) (fun j4 =>
      bif x3 then (
        Option.bind (sub s 1 (s.length : Int)) fun x5 =>
        j4 x5
      ) else (
        j4 s
      )
    )
  ) (fun j1 =>
    bif decide ((0 : Int) < (s.length : Int)) then (
      Option.bind (ix s 0) fun x2 =>
      j1 (decide ((x2.toNat : Int) = 45))
    ) else (
      j1 false
    )
  ))

def s_l14Number (n : Nat) (w_a0 : List UInt8) : Option Int := (
  jn (fun (x3 : Bool) =>
    bif x3 then (
      Option.bind (sub w_a0 1 (w_a0.length : Int)) fun x4 =>
      Option.bind (s_l16Num n x4) fun x5 =>
      some (wr (0 - x5.1))
    ) else (
      Option.bind (s_l16Num n w_a0) fun x6 =>
      some x6.1
    )
  ) (fun j1 =>
    bif decide ((1 : Int) < (w_a0.length : Int)) then (
      Option.bind (ix w_a0 0) fun x2 =>
      j1 (decide ((x2.toNat : Int) = 45))
    ) else (
      j1 false
    )
  ))

def s_l14Line (n : Nat) (line : List UInt8) : Option Step := (
  Option.bind (s_l16Words n line) fun x1 =>
  Option.bind (app x1 [[], [], [], []]) fun x2 =>
  Option.bind (s_l14Words n ) fun x3 =>
  loopM (fun again6 ((x4, x5) : Int × Int) =>
    bif decide (x5 < (x3.length : Int)) then (
      jn (fun (x10 : Int) =>
        again6 (x10, wr (x5 + 1))
      ) (fun j7 =>
        Option.bind (ix x3 x5) fun x8 =>
        Option.bind (ix x2 0) fun x9 =>
        bif decide (x8 = x9) then (
          j7 x5
        ) else (
          j7 x4
        )
      )
    ) else (
      Option.bind (s_l14Fields n x4) fun x11 =>
      jn (fun (x15 : Int) =>
        jn (fun (x19 : Int) =>
          jn (fun (x23 : Int) =>
            some (⟨x4, x15, x19, x23⟩ : Step)
          ) (fun j20 =>
            bif decide ((2 : Int) < x11) then (
              Option.bind (ix x2 3) fun x21 =>
              Option.bind (s_l14Number n x21) fun x22 =>
              j20 x22
            ) else (
              j20 0
            )
          )
        ) (fun j16 =>
          bif decide ((1 : Int) < x11) then (
            Option.bind (ix x2 2) fun x17 =>
            Option.bind (s_l14Number n x17) fun x18 =>
            j16 x18
          ) else (
            j16 0
          )
        )
      ) (fun j12 =>
        bif decide ((0 : Int) < x11) then (
          Option.bind (ix x2 1) fun x13 =>
          Option.bind (s_l14Number n x13) fun x14 =>
          j12 x14
        ) else (
          j12 0
        )
      )
    )
  ) n (0, 1))

def s_ParseSteps (n : Nat) (text : List UInt8) : Option ((List Step) × Bool) := (
  Option.bind (s_l16Cut n text (10 : UInt8)) fun x1 =>
  jn (fun (x3 : Bool) =>
    bif x3 then (
      some ([], false)
    ) else (
      loopM (fun again7 ((x4, x5) : (List Step) × Int) =>
        bif decide (wr (x5 + 1) < (x1.length : Int)) then (
          Option.bind (ix x1 x5) fun x8 =>
          Option.bind (s_l14Line n x8) fun x9 =>
          Option.bind (app x4 [x9]) fun x10 =>
          again7 (x10, wr (x5 + 1))
        ) else (
          Option.bind (s_FormatSteps n x4) fun x11 =>
          bif !decide (x11 = text) then (
            some ([], false)
          ) else (
            some (x4, true)
          )
        )
      ) n ([], 0)
    )
  ) (fun j2 =>
    bif decide ((13 : Int) < (x1.length : Int)) then (
      j2 true
    ) else (
      j2 (decide ((1000 : Int) < (text.length : Int)))
    )
  ))

def w_FnStepsText (n : Nat) (code : List UInt8) (more : List UInt8) : Option Bool := (
  jn (fun (x2 : Bool) =>
    bif x2 then (
      some true
    ) else (
      Option.bind (s_DrawFormatSteps n code) fun x3 =>
      Option.bind (i_FormatSteps n x3) fun x4 =>
      Option.bind (i_ParseSteps n x4) fun x5 =>
      jn (fun (x10 : Bool) =>
        bif x10 then (
          some false
        ) else (
          Option.bind (s_DrawParseSteps n more) fun x11 =>
          Option.bind (i_ParseSteps n x11) fun x12 =>
          Option.bind (s_ParseSteps n x11) fun x13 =>
          jn (fun (x17 : Bool) =>
            some x17
          ) (fun j14 =>
            bif (x12.2 == x13.2) then (
              Option.bind (w_lnSteps n x12.1 x13.1) fun x15 =>
              bif x15 then (
                bif !x12.2 then (
                  j14 true
                ) else (
                  Option.bind (i_FormatSteps n x12.1) fun x16 =>
                  j14 (decide (x16 = x11))
                )
              ) else (
                j14 false
              )
            ) else (
              j14 false
            )
          )
        )
      ) (fun j6 =>
        Option.bind (s_FormatSteps n x3) fun x7 =>
        bif !decide (x4 = x7) then (
          j6 true
        ) else (
          bif !x5.2 then (
            j6 true
          ) else (
            bif !decide (x4 = []) then (
              Option.bind (w_lnSteps n x5.1 x3) fun x9 =>
              j6 (!x9)
            ) else (
              bif decide ((x3.length : Int) = 0) then (
                Option.bind (w_lnSteps n x5.1 x3) fun x8 =>
                j6 (!x8)
              ) else (
                j6 false
              )
            )
          )
        )
      )
    )
  ) (fun j1 =>
    bif decide ((1048576 : Int) < (code.length : Int)) then (
      j1 true
    ) else (
      j1 (decide ((1048576 : Int) < (more.length : Int)))
    )
  ))
end Go.Lift
