/- The walks: the code computes what the plain functions say. -/
import Derived.Test.YtcnponfkbblhpaaGreatBModels
import Derived.Test.YtcnponfkbblhpaaGreatBWalks2
set_option maxRecDepth 10000
set_option linter.unusedVariables false
namespace Go.Lift
open Go Go.Proofs
variable (G:GS) {n:Nat}
theorem aBX{a}{s}{at_a2}{r}(h:yX n a s at_a2=some r):PQ G 331 [V.agg (aK a),vS s,vI at_a2] (V.tup [V.agg (aK r.1),vI r.2]):=by
 unfold yX at h
 refine pq aN Tryz.func331 rfl fun w X hC=> ?_
 refine rq hC [.z (.b (true)),.z (.nat 20)] [3,6,7] [(3,V.tp (aR a)),(6,V.ref 20 0)] [(20,sc [V.t T.nilS,vI 0])] [(20,true)] (rq hC [] [8] [(8,vI 1)] [] [] (vj h (fun x_=>aX [(1,vS s),(2,vI at_a2),(3,V.tp (aR a)),(6,V.ref 20 0),(8,vI x_)] [(20,E.cells [V.t T.nilS,vI 0])] [20]) (fun j1 h=> ?_) (fun x3 h=> ?_)))
 ·
  obtain⟨x2,hx2,h⟩:=bd h
  refine rq hC [oY hx2] (fr 14 4) [(17,vB (decide ((x2.toNat:Int)=45)))] [] [] (aS h (fun c1 h=> ?_) (fun c1 h=> ?_))
  ·exact rk hC [] [8] [(8,vI (-1))] [] [] (lE h)
  ·exact qk (lE h)
 ·refine vj h (fun x_=>aX [(1,vS s),(2,vI x_),(3,V.tp (aR a)),(6,V.ref 20 0),(8,vI x3)] [(20,E.cells [V.t T.nilS,vI 0])] [20]) (fun j4 h=> ?_) (fun x8 h=> ?_)
  ·
   refine vj h (fun x_=>aX [(1,vS s),(2,vI at_a2),(3,V.tp (aR a)),(6,V.ref 20 0),(8,vI x3),(27,vB x_)] [(20,E.cells [V.t T.nilS,vI 0])] [20]) (fun j5 h=> ?_) (fun x7 h=> ?_)
   ·
    obtain⟨x6,hx6,h⟩:=bd h
    refine aQ h (fun c2 h=> ?_) (fun c2 h=> ?_)
    ·exact rk hC ([oY hx6]++rF 3 c2++[oY hx6,oF c2,oF c2]) (fr 18 10) [(27,vB (decide ((x6.toNat:Int)=43)))] [] [] (lE h)
    ·exact rk hC ([oY hx6]++rT 5 c2) (fr 18 10) [(27,vB true)] [] [] (lE h)
   ·refine aS h (fun c3 h=> ?_) (fun c3 h=> ?_)
    ·exact rk hC [] [2,28,29] [(2,vI (wr (at_a2+1)))] [] [] (lE h)
    ·exact qk (lE h)
  ·obtain⟨x9,hx9,h⟩:=bd h
   refine rq hC [oV (xX G hx9)] [9,10,30,31,32,33,34,35] [(9,vI x9.1),(10,vI x9.2)] [] [] (rq hC [] [11,36] [(11,vI x9.2)] [] [] (vj h (fun x_=>aX [(1,vS s),(2,vI x8),(3,V.tp (aR a)),(6,V.ref 20 0),(8,vI x3),(9,vI x9.1),(10,vI x9.2),(11,vI x_)] [(20,E.cells [V.t T.nilS,vI 0])] [20]) (fun j10 h=> ?_) (fun x14 h=> ?_)))
   ·
    refine vj h (fun x_=>aX [(1,vS s),(2,vI x8),(3,V.tp (aR a)),(6,V.ref 20 0),(8,vI x3),(9,vI x9.1),(10,vI x9.2),(11,vI x9.2),(51,vB x_)] [(20,E.cells [V.t T.nilS,vI 0])] [20]) (fun j11 h=> ?_) (fun x13 h=> ?_)
    ·
     refine aQ h (fun c4 h=> ?_) (fun c4 h=> ?_)
     ·exact rk hC (rF 5 c4++sF 5) (fr 37 15) [(51,vB false)] [] [] (lE h)
     ·refine aQ h (fun c5 h=> ?_) (fun c5 h=> ?_)
      ·exact rk hC (rT 5 c4++rF 5 c5) (fr 37 15) [(51,vB false)] [] [] (lE h)
      ·obtain⟨x12,hx12,h⟩:=bd h
       exact rk hC (rT 5 c4++rT 3 c5++[oY hx12,oT c5,oT c5]) (fr 37 15) [(51,vB (decide ((x12.toNat:Int)=42)))] [] [] (lE h)
    ·refine aS h (fun c6 h=> ?_) (fun c6 h=> ?_)
     ·exact rk hC [] [11,52,53] [(11,vI (wr (x9.2+1)))] [] [] (lE h)
     ·exact qk (lE h)
   ·obtain⟨x15,hx15,h⟩:=bd h
    refine rq hC [oV (aDz G hx15)] [12,54,55,56] [(12,vI x15)] [] [] (qs ?_)
    obtain⟨x16,hx16,h⟩:=bd h
    refine dk hC bF [.z (.nat 21),oA (aP rI hx16),.z (.nat 22),oQ (bT (r:=rI) 1 (fun _=>rfl) []),oQ (bT (r:=rI) 1 (fun _=>rfl) a.coefs)] [13,57,58,59,60,61,62,63] [(13,V.ref 22 0)] [(21,some (ar 3 2 1 rI x16)),(22,sc [ms 21 2 1 rI x16,vI a.const])] [(21,true),(22,true)] (qs (vj h (fun x_=>aX [(2,vI x8),(3,V.tp (aR a)),(6,V.ref 20 0),(8,vI x3),(9,vI x9.1),(10,vI x9.2),(11,vI x14),(12,vI x15),(13,V.ref 22 0),(75,vB x_)] [(20,E.cells [V.t T.nilS,vI 0]),(21,ar 3 2 1 rI x16),(22,E.cells [ms 21 2 1 rI x16,vI a.const])] [20,21,22]) (fun j17 h=> ?_) (fun x18 h=> ?_)))
    ·
     refine aQ h (fun c7 h=> ?_) (fun c7 h=> ?_)
     ·exact rk hC (rF 6 c7) (fr 64 12) [(75,vB false)] [] [] (lE h)
     ·refine aQ h (fun c8 h=> ?_) (fun c8 h=> ?_)
      ·exact rk hC (rT 4 c7++rF 3 c8++[oT c7,oF c8,oT c7]) (fr 64 12) [(75,vB (decide (x9.2=x8)))] [] [] (lE h)
      ·exact rk hC (rT 4 c7++rT 3 c8++[oT c7,oT c8,oT c7]) (fr 64 12) [(75,vB true)] [] [] (lE h)
    ·refine aS h (fun c9 h=> ?_) (fun c9 h=> ?_)
     ·refine qs ?_
      obtain⟨x19,hx19,x20,hx20,h⟩:=cP h
      obtain rfl:=so h
      exact dk hC bF [oQ (kF rI hx19),oX rI hx19,oQ (kF rI hx19),oX rI hx19,.z (.rows (List.map rI x20)),oQ (str rI hx20)] (fr 76 13) [] [(21,some (ar 3 2 1 rI x20))] [] (qw (zD hC [.lenc 22 0 (List.map rI x20).length] [] [] [(22,sc [ms 21 2 1 rI x20,vI a.const])] [] (a1 (iQ rI hx20)) (by kernel_rfl)) (rq hC [.z (.at 5),.z (.fz 21 [] [22])] [7,89,90,91] [(7,vI (wr (x14+1)))] [(22,sc [vM rI x20,vI a.const]),(21,none),(20,sc [vM rI x20,vI a.const])] [] (qr eR)))
     ·refine qk (qs (rq hC [] [92,93,94] [(94,vB (decide (x9.2=x8)))] [] [] (aS h (fun c10 h=> ?_) (fun c10 h=> ?_))))
      ·obtain rfl:=so h
       exact rq hC [] [7,95] [(7,vI (-1))] [(20,some (E.cells (aK a)))] [] (qr eR)
      ·obtain rfl:=so h
       exact qk (rq hC [] (fr 96 7) [] [(22,sc [ms 21 2 1 rI x16,vI (wr (a.const+(wr (x3*x9.1))))])] [] (rq hC [.z (.at 4),.z (.fz 21 [] [22])] [7,103,104] [(7,vI x9.2)] [(22,sc [vM rI x16,vI (wr (a.const+(wr (x3*x9.1))))]),(21,none),(20,sc [vM rI x16,vI (wr (a.const+(wr (x3*x9.1))))])] [] (qr eR)))
theorem rZ(G:GS): ∀(n:Nat) (n_a0:Int) {r:(List UInt8)} (h:s_l16Dec n n_a0=some r),PQ G 266 [vI n_a0] (vS r):=by
 intro n
 induction n with
 |zero=>intro n_a0 r h;rw [s_l16Dec.eq_def] at h;cases h
 |succ n ih=>
  intro n_a0 r h
  rw [s_l16Dec.eq_def] at h;dsimp only at h
  refine pq aN Tryz.func266 rfl fun w X hC=> ?_
  refine rq hC [] [2] [] [] [] (qs (rq hC [] [4,5] [(5,vB (decide (n_a0<(-9223372036854775807))))] [] [] (aS h (fun c1 h=> ?_) (fun c1 h=> ?_))))
  ·obtain rfl:=so h
   exact rq hC [] [2] [(2,vS [45,57,50,50,51,51,55,50,48,51,54,56,53,52,55,55,53,56,48,56])] [] [] (qr eR)
  ·refine qk (qs (rq hC [] [6,7] [(7,vB (decide (n_a0<0)))] [] [] (aS h (fun c2 h=> ?_) (fun c2 h=> ?_))))
   ·obtain⟨x1,hx1,x2,hx2,h⟩:=cP h
    obtain rfl:=so h
    exact rq hC [oV (ih (wr (0-n_a0)) hx1),oS hx2] [2,8,9,10,11] [(2,vS x2)] [] [] (qr eR)
   ·refine qk (rq hC [] [3] [(3,vS [])] [] [] (qs (qb (jF h (fun x_=>aX [(0,vI x_.1),(3,vS x_.2)] [] []) lS ?_))))
    rintro again5 ⟨x3,x4⟩ h
    refine qs (rq hC [] [12,13] [(13,vB (decide ((9:Int)<x3)))] [] [] (aS h (fun c3 h=> ?_) (fun c3 h=> ?_)))
    ·refine qk (qb ?_)
     obtain⟨x6,hx6,h⟩:=bd h
     exact rq hC [.z (.y (UInt8.ofInt (wr (48+(Int.tmod x3 10))))),.z (.int 0),.z (.str [UInt8.ofInt (wr (48+(Int.tmod x3 10)))]),oQ (show(10:Int)≠0 by decide),oQ (Eq.refl (UInt8.ofInt (wr (48+(Int.tmod x3 10))))),oQ (Eq.refl (List.map lF [UInt8.ofInt (wr (48+(Int.tmod x3 10)))])),oS hx6] [3,14,15,16,17,18,19,20,21] [(3,vS x6)] [] [] (rk hC [oQ (show(10:Int)≠0 by decide)] [0,22,23] [(0,vI (wr (Int.tdiv x3 10)))] [] [] (lE h))
    ·refine cQ ?_
     obtain⟨x7,hx7,h⟩:=bd h
     obtain rfl:=so h
     exact rq hC [.z (.y (UInt8.ofInt (wr (48+x3)))),.z (.int 0),.z (.str [UInt8.ofInt (wr (48+x3))]),oQ (Eq.refl (UInt8.ofInt (wr (48+x3)))),oQ (Eq.refl (List.map lF [UInt8.ofInt (wr (48+x3))])),oS hx7] [2,24,25,26,27,28,29,30] [(2,vS x7)] [] [] (qr eR)
theorem O8{n_a0}{name}{r}(h:w9 n n_a0 name=some r):PQ G 318 [vI n_a0,vS name] (vS r):=by
 unfold w9 at h
 refine pq aN Tryz.func318 rfl fun w X hC=> ?_
 refine rq hC [] [4] [] [] [] (rq hC [] [5] [(5,vS [43])] [] [] (vj h (fun x_=>aX [(0,vI x_.1),(1,vS name),(5,vS x_.2)] [] []) (fun j1 h=> ?_) ?_))
 ·
  refine rq hC [] [6,7] [(7,vB (decide (n_a0<0)))] [] [] (aS h (fun c1 h=> ?_) (fun c1 h=> ?_))
  ·exact rq hC [] [5] [(5,vS [45])] [] [] (rk hC [] [0,8,9] [(0,vI (wr (0-n_a0)))] [] [] (lE h))
  ·exact qk (lE h)
 ·rintro⟨x2,x3⟩ h
  refine qs (rq hC [] [10,11] [(11,vB (decide (name=[])))] [] [] (aS h (fun c2 h=> ?_) (fun c2 h=> ?_)))
  ·obtain⟨x4,hx4,x5,hx5,h⟩:=cP h
   obtain rfl:=so h
   exact rq hC [oV (rZ G n x2 hx4),oS hx5] [4,12,13,14,15] [(4,vS x5)] [] [] (qr eR)
  ·refine qk (qs (rq hC [] [16,17] [(17,vB (decide (x2=1)))] [] [] (aS h (fun c3 h=> ?_) (fun c3 h=> ?_))))
   ·obtain⟨x6,hx6,h⟩:=bd h
    obtain rfl:=so h
    exact rq hC [oS hx6] [4,18,19,20] [(4,vS x6)] [] [] (qr eR)
   ·refine qk ?_
    obtain⟨x7,hx7,x8,hx8,x9,hx9,h⟩:=kG h
    obtain⟨x10,hx10,h⟩:=bd h
    obtain rfl:=so h
    exact rq hC [oV (rZ G n x2 hx7),oS hx8,oS hx9,oS hx10] [4,21,22,23,24,25,26,27] [(4,vS x10)] [] [] (qr eR)
theorem wK{a}{r}(h:tK n a=some r):PQ G 294 [V.agg (aK a)] (vS r):=by
 unfold tK at h
 refine pq aN Tryz.func294 rfl fun w X hC=> ?_
 refine rq hC [.z (.b (true))] [1,2] [(1,V.tp (aR a))] [] [] (rq hC [] [3] [(3,vS [])] [] [] (qs (rq hC [] [4] [(4,vI 0)] [] [] (qb (jF h (fun x_=>aX [(1,V.tp (aR a)),(3,vS x_.1),(4,vI x_.2)] [] []) lS ?_)))))
 rintro again3 ⟨x1,x2⟩ h
 refine qs (rq hC [oN rI a.coefs] (fr 5 5) [(9,vB (decide (x2<(a.coefs.length:Int))))] [] [] (aS h (fun c1 h=> ?_) (fun c1 h=> ?_)))
 ·refine qk (vj h (fun x_=>aX [(1,V.tp (aR a)),(3,vS x_),(4,vI x2)] [] []) (fun j4 h=> ?_) (fun x9 h=> ?_))
  ·
   refine qb ?_
   obtain⟨x5,hx5,h⟩:=bd h
   refine rq hC [oR rI hx5] (fr 12 6) [(17,vB (!decide (x5=0)))] [] [] (aS h (fun c2 h=> ?_) (fun c2 h=> ?_))
   ·obtain⟨x6,hx6,x7,hx7,x8,hx8,h⟩:=kG h
    exact dk hC bF [oR rI hx5,oS hx6,oV (O8 G hx7),oS hx8] [3,18,19,20,21,22,23,24,25,26,27,28,29] [(3,vS x8)] [] [] (lE h)
   ·exact qk (lE h)
  ·exact rk hC [] [4,10,11] [(4,vI (wr (x2+1)))] [] [] (lE h)
 ·refine cQ (vj h (fun x_=>aX [(3,vS x_)] [] []) (fun j10 h=> ?_) (fun x13 h=> ?_))
  ·
   refine rq hC [] [30,31,32] [(32,vB (!decide (a.const=0)))] [] [] (aS h (fun c3 h=> ?_) (fun c3 h=> ?_))
   ·obtain⟨x11,hx11,x12,hx12,h⟩:=cP h
    exact rk hC [oV (O8 G hx11),oS hx12] [3,33,34,35,36,37] [(3,vS x12)] [] [] (lE h)
   ·exact qk (lE h)
  ·refine qs (rq hC [] [38,39] [(39,vB (decide (x13=[])))] [] [] (aS h (fun c4 h=> ?_) (fun c4 h=> ?_)))
   ·obtain rfl:=so h
    exact rq hC [] [2] [(2,vS [48])] [] [] (qr eR)
   ·refine qk (qs ?_)
    obtain⟨x14,hx14,h⟩:=bd h
    refine rq hC [oS hx14] [40,41,42] [(42,vB (decide (x14=[43])))] [] [] (aS h (fun c5 h=> ?_) (fun c5 h=> ?_))
    ·obtain⟨x15,hx15,h⟩:=bd h
     obtain rfl:=so h
     exact rq hC [oS hx15] [2,43,44] [(2,vS x15)] [] [] (qr eR)
    ·obtain rfl:=so h
     exact qk (rq hC [] [2,45] [(2,vS x13)] [] [] (qr eR))
theorem zU{a}{r}(h:oJ n a=some r):PQ G 332 [V.agg (aK a)] (vS r):=by
 unfold oJ at h
 refine pq aN Tryz.func332 rfl fun w X hC=> ?_
 refine rq hC [.z (.b (true))] [1,2] [(1,V.tp (aR a))] [] [] (qs ?_)
 obtain⟨x1,hx1,h⟩:=bd h
 refine rq hC [oV (d7 G hx1)] [3,4,5] [(5,vB (!x1))] [] [] (aS h (fun c1 h=> ?_) (fun c1 h=> ?_))
 ·obtain rfl:=so h
  exact rq hC [] [2] [(2,vS [])] [] [] (qr eR)
 ·refine qk ?_
  obtain⟨x2,hx2,h⟩:=bd h
  obtain rfl:=so h
  exact rq hC [oV (wK G hx2)] [2,6,7] [(2,vS x2)] [] [] (qr eR)
theorem sL{text}{r}(h:mB n text=some r):PQ G 314 [vS text] (V.tup [V.agg (aK r.1),vB r.2]):=by
 unfold mB at h
 refine pq aN Tryz.func314 rfl fun w X hC=> ?_
 refine rq hC [.z (.nat 20)] [2,3] [(2,V.ref 20 0)] [(20,sc [V.t T.nilS,vI 0])] [(20,true)] ?_
 obtain⟨x1,hx1,h⟩:=bd h
 refine rq hC [oC [] [21] (l7 G n hx1),.z (.nat 22)] [4,6] [(4,V.ref 22 0)] [(21,some (ar 3 1 1 rI x1.coefs)),(22,sc [ms 21 1 1 rI x1.coefs,vI x1.const])] [(21,true),(22,true)] (qs (rq hC [] [7,8,9] [(9,vB (decide ((40:Int)<(text.length:Int))))] [] [] (aS h (fun c1 h=> ?_) (fun c1 h=> ?_))))
 ·obtain rfl:=so h
  exact rq hC [] [3,10] [(3,vB false)] [(20,sc [V.t T.nilS,vI 0])] [] (qr eR)
 ·refine qk (rq hC [] [5] [(5,vI 0)] [] [] (qs (qb (qw (lk hC [.fz 21 [] [22]] [] [] [(22,some (E.cells (aK x1))),(21,none)] []) (jF h (fun x_=>aX [(0,vS text),(2,V.ref 20 0),(4,V.ref 22 0),(5,vI x_.2.2)] [(20,E.cells [V.t T.nilS,vI 0]),(22,E.cells [vM rI x_.1,vI x_.2.1])] [20,21,22]) lS ?_)))))
  rintro again5 ⟨x2,x3,x4⟩ h
  refine qs (vj h (fun x_=>aX [(0,vS text),(2,V.ref 20 0),(4,V.ref 22 0),(5,vI x4),(18,vB x_)] [(20,E.cells [V.t T.nilS,vI 0]),(22,E.cells [vM rI x2,vI x3])] [20,21,22]) (fun j6 h=> ?_) (fun x7 h=> ?_))
  ·
   refine aQ h (fun c2 h=> ?_) (fun c2 h=> ?_)
   ·exact rk hC (rF 5 c2) (fr 11 8) [(18,vB false)] [] [] (lE h)
   ·exact rk hC (rT 5 c2) (fr 11 8) [(18,vB (decide (x4<(text.length:Int))))] [] [] (lE h)
  ·refine aS h (fun c3 h=> ?_) (fun c3 h=> ?_)
   ·refine qk (qb ?_)
    obtain⟨x8,hx8,h⟩:=bd h
    exact rk hC [oV (aBX G hx8)] [5,19,20,21,22,23,24,25] [(5,vI x8.2)] [(22,some (E.cells (aK x8.1)))] [] (lE h)
   ·refine cQ (qs ?_)
    obtain⟨x9,hx9,h⟩:=bd h
    refine rq hC [oV (zU G hx9)] (fr 26 4) [(29,vB (!decide (x9=text)))] [] [] (aS h (fun c4 h=> ?_) (fun c4 h=> ?_))
    ·obtain rfl:=so h
     exact rq hC [] [3,30] [(3,vB false)] [(20,sc [V.t T.nilS,vI 0])] [] (qr eR)
    ·obtain rfl:=so h
     exact qk (rq hC [] [3,31] [(3,vB true)] [(20,sc [vM rI x2,vI x3])] [] (qr eR))
theorem mX{text}{r}(h:jH n text=some r):VQ G 289 [] [vS text] (ms 0 1 2 aA r) [ar 63 1 2 aA r]:=by
 unfold jH at h
 refine vq aN Tryz.func289 rfl fun w X β0 hC hg=> ?_
 refine rq hC [] [2] [] [] [] (rq hC [.z (.nat 20)] [3,8] [(3,ms 20 1 2 aA [])] [(20,some (ar 63 1 2 aA []))] [(20,true)] ?_)
 obtain⟨x1,hx1,h⟩:=bd h
 refine rq hC [oC [] [21] (wP G hx1)] [4,9,10] [(4,ms 21 1 1 rS x1)] [(21,some (ar 9 1 1 rS x1))] [(21,true)] (qs (rq hC [] [5] [(5,vI 0)] [] [] (qb (bC (γ:=Nat) h (fun x_ g_=>aX [(3,ms 20 g_ 2 aA x_.1),(4,ms 21 1 1 rS x1),(5,vI x_.2)] [(20,ar 63 g_ 2 aA x_.1),(21,ar 9 1 1 rS x1)] [20,21]) 1 (lS) ?_))))
 rintro again5 ⟨x2,x3⟩ g4 h
 refine qs (vj h (fun x_=>aX [(3,ms 20 g4 2 aA x2),(4,ms 21 1 1 rS x1),(5,vI x3),(18,vB x_)] [(20,ar 63 g4 2 aA x2),(21,ar 9 1 1 rS x1)] [20,21]) (fun j6 h=> ?_) (fun x7 h=> ?_))
 ·
  refine aQ h (fun c1 h=> ?_) (fun c1 h=> ?_)
  ·exact rk hC ([oN rS x1]++rF 3 c1) (fr 11 8) [(18,vB false)] [] [] (lE h)
  ·exact rk hC ([oN rS x1]++rT 3 c1) (fr 11 8) [(18,vB (decide (x3≤2)))] [] [] (lE h)
 ·refine aS h (fun c2 h=> ?_) (fun c2 h=> ?_)
  ·refine qk (qs (qb ?_))
   obtain⟨x8,hx8,x9,hx9,h⟩:=cP h
   refine rq hC [oQ (kF rS hx8),oX rS hx8,oV (sL G hx9),.z (.nat 22)] [6,7,21,22,23,24,25,26,27,28] [(6,V.ref 22 0)] [(22,some (E.cells (aK x9.1)))] [(22,true)] ?_
   obtain⟨x10,hx10,h⟩:=bd h
   exact rk hC [.z (.int 0),oA (aP aA hx10),oQ (bT (r:=aA) 2 aU x2),oQ (bT (r:=aA) 2 aU [x9.1])] [3,29,30,31,32] [(3,ms 20 (g4+1) 2 aA x10)] [(20,some (ar 63 (g4+1) 2 aA x10))] [] (rk hC [] [5,19,20] [(5,vI (wr (x3+1)))] [] [] ⟨(x10,wr (x3+1)),(g4+1),h,lS⟩)
  ·obtain rfl:=so h
   exact cQ (rq hC [] [2,33] [(2,ms 20 g4 2 aA x2)] [] [] (qw (lk hC [.ren 2 20 0] [2] [(2,ms 0 1 2 aA x2)] [(0,some (ar 63 1 2 aA x2)),(20,none)] [(0,true)]) (qr eW)))
theorem xY{s}{r}(h:q6 n s=some r):VQ G 262 [] [vS s] (ms 0 1 1 rS r) [ar 9 1 1 rS r]:=by
 unfold q6 at h
 refine vq aN Tryz.func262 rfl fun w X β0 hC hg=> ?_
 refine rq hC [] [2] [] [] [] ?_
 obtain⟨x1,hx1,h⟩:=bd h
 refine rq hC [oC [] [20] (wP G hx1)] [3,6,7] [(3,ms 20 1 1 rS x1)] [(20,some (ar 9 1 1 rS x1))] [(20,true)] (rq hC [.z (.nat 21)] [4,8] [(4,ms 21 1 1 rS [])] [(21,some (ar 9 1 1 rS []))] [(21,true)] (qs (rq hC [] [5] [(5,vI 0)] [] [] (qb (bC (γ:=Nat) h (fun x_ g_=>aX [(3,ms 20 1 1 rS x1),(4,ms 21 g_ 1 rS x_.1),(5,vI x_.2)] [(20,ar 9 1 1 rS x1),(21,ar 9 g_ 1 rS x_.1)] [20,21]) 1 (lS) ?_)))))
 rintro again5 ⟨x2,x3⟩ g4 h
 refine qs (rq hC [oN rS x1] (fr 9 4) [(12,vB (decide (x3<(x1.length:Int))))] [] [] (aS h (fun c1 h=> ?_) (fun c1 h=> ?_)))
 ·refine qk ?_
  obtain⟨j6,hj6,h⟩:=R3 h
  refine n4 (γ:=Nat) (j:=j6) (r:=r) (fun x_ g_=>aX [(3,ms 20 1 1 rS x1),(4,ms 21 g_ 1 rS x_),(5,vI x3)] [(20,ar 9 1 1 rS x1),(21,ar 9 g_ 1 rS x_)] [20,21]) ?_ ?_
  ·
   refine qb ?_
   obtain⟨x7,hx7,h⟩:=bd h
   refine rq hC [oQ (kF rS hx7),oX rS hx7] (fr 15 5) [(19,vB (!decide (x7=[])))] [] [] (aS h (fun c2 h=> ?_) (fun c2 h=> ?_))
   ·obtain⟨x8,hx8,h⟩:=bd h
    exact rk hC [oQ (kF rS hx7),oX rS hx7,.z (.int 0),oA (aP rS hx8),oQ (bT (r:=rS) 1 (fun _=>rfl) x2),oQ (bT (r:=rS) 1 (fun _=>rfl) [x7])] [4,20,21,22,23,24,25,26] [(4,ms 21 (g4+1) 1 rS x8)] [(21,some (ar 9 (g4+1) 1 rS x8))] [] ⟨x8,(g4+1),h,lS⟩
   ·exact qk ⟨x2,g4,h,lS⟩
  ·rintro x9 g10 h
   subst hj6
   exact rk hC [] [5,13,14] [(5,vI (wr (x3+1)))] [] [] ⟨(x9,wr (x3+1)),g10,h,lS⟩
 ·obtain rfl:=so h
  exact cQ (rq hC [] [2,27] [(2,ms 21 g4 1 rS x2)] [] [] (qw (lk hC [.ren 2 21 0] [2] [(2,ms 0 1 1 rS x2)] [(0,some (ar 9 1 1 rS x2)),(21,none)] [(0,true)]) (qr eW)))
theorem aDy{line}{r}(h:H7 n line=some r):PQ G 264 [vS line] (V.agg (jD r)):=by
 unfold H7 at h
 refine pq aN Tryz.func264 rfl fun w X hC=> ?_
 refine rq hC [.z (.nat 20)] [2] [(2,V.ref 20 0)] [(20,sc [V.t T.nilS,V.t T.nilS])] [(20,true)] ?_
 obtain⟨x1,hx1,h⟩:=bd h
 refine rq hC [oC [] [21] (xY G hx1)] [3,4,5] [(3,ms 21 1 1 rS x1)] [(21,some (ar 9 1 1 rS x1))] [(21,true)] (qs (rq hC [oN rS x1] [6,7,8] [(8,vB (!decide ((x1.length:Int)=3)))] [] [] (aS h (fun c1 h=> ?_) (fun c1 h=> ?_))))
 ·obtain rfl:=so h
  exact rq hC [] [9] [] [(20,sc [V.t T.nilS,V.t T.nilS])] [] (qr eR)
 ·refine qk (qs ?_)
  obtain⟨x2,hx2,x3,hx3,x4,hx4,h⟩:=kG h
  obtain⟨x5,hx5,h⟩:=bd h
  obtain rfl:=so h
  exact dk hC bF [oQ (kF rS hx2),oX rS hx2,oC [] [22] (mX G hx3),oQ (kF rS hx4),oX rS hx4,oC [] [23] (mX G hx5)] (fr 10 9) [] [(22,some (ar 63 1 2 aA x3)),(23,some (ar 63 1 2 aA x5)),(20,sc [ms 22 1 2 aA x3,ms 23 1 2 aA x5])] [(22,true),(23,true)] (qw (lk hC [.fz 22 [] [20]] [] [] [(20,sc [vM aA x3,ms 23 1 2 aA x5]),(22,none)] []) (qw (lk hC [.fz 23 [] [20]] [] [] [(20,sc [vM aA x3,vM aA x5]),(23,none)] []) (qr eR)))
theorem B5{s}{at_a1}{end_a2}{r}(h:uI n s at_a1 end_a2=some r):PQ G 315 [vS s,vI at_a1,vY end_a2] (vI r):=by
 unfold uI at h
 refine pq aN Tryz.func315 rfl fun w X hC=> ?_
 refine rq hC [] [6] [] [] [] (qs (rq hC [] [7,8] [(7,vI at_a1)] [] [] (qb (jF h (fun x_=>aX [(0,vS s),(2,vY end_a2),(7,vI x_)] [] []) lS ?_))))
 rintro again2 x1 h
 refine qs (rq hC [] (fr 9 4) [(12,vB (decide (x1<(s.length:Int))))] [] [] (aS h (fun c1 h=> ?_) (fun c1 h=> ?_)))
 ·refine qk (qs (qb ?_))
  obtain⟨x3,hx3,h⟩:=bd h
  refine rq hC [oY hx3] (fr 15 5) [(19,vB (decide ((x3.toNat:Int)=(end_a2.toNat:Int))))] [] [] (aS h (fun c2 h=> ?_) (fun c2 h=> ?_))
  ·obtain rfl:=so h
   exact rq hC [] [6,20] [(6,vI x1)] [] [] (qr eR)
  ·exact qk (rk hC [] [7,13,14] [(7,vI (wr (x1+1)))] [] [] (lE h))
 ·obtain rfl:=so h
  exact cQ (rq hC [] [6] [(6,vI (-1))] [] [] (qr eR))
theorem pJ{s}{at_a1}{r}(h:jO n s at_a1=some r):PQ G 290 [vS s,vI at_a1] (V.tup [V.agg (cB r.1),vI r.2]):=by
 unfold jO at h
 refine pq aN Tryz.func290 rfl fun w X hC=> ?_
 refine rq hC [.z (.nat 20)] [4,5] [(4,V.ref 20 0)] [(20,sc [vS [],V.t T.nilS])] [(20,true)] ?_
 obtain⟨x1,hx1,h⟩:=bd h
 refine rq hC [oV (B5 G hx1)] (fr 6 4) [(6,vI x1)] [] [] (qs (vj h (fun x_=>aX [(0,vS s),(1,vI at_a1),(4,V.ref 20 0),(6,vI x1),(20,vB x_)] [(20,E.cells [vS [],V.t T.nilS])] [20]) (fun j2 h=> ?_) (fun x4 h=> ?_)))
 ·
  refine aQ h (fun c1 h=> ?_) (fun c1 h=> ?_)
  ·obtain⟨x3,hx3,h⟩:=bd h
   exact rk hC (rF 4 c1++[oY hx3,oF c1,oF c1]) (fr 10 11) [(20,vB (!decide ((x3.toNat:Int)=91)))] [] [] (lE h)
  ·exact rk hC (rT 6 c1) (fr 10 11) [(20,vB true)] [] [] (lE h)
 ·refine aS h (fun c2 h=> ?_) (fun c2 h=> ?_)
  ·obtain rfl:=so h
   exact rq hC [] [5,21] [(5,vI (-1))] [(20,sc [vS [],V.t T.nilS])] [] (qr eR)
  ·refine qk (qs ?_)
   obtain⟨x5,hx5,x6,hx6,x7,hx7,h⟩:=kG h
   obtain rfl:=so h
   exact dk hC bF [oS hx5,oS hx6,oC [] [21] (mX G hx7)] [5,22,23,24,25,26,27,28,29,30,31,32,33,34,35] [(5,vI (wr (x1+1)))] [(21,some (ar 63 1 2 aA x7)),(20,sc [vS x5,ms 21 1 2 aA x7])] [(21,true)] (qw (lk hC [.fz 21 [] [20]] [] [] [(20,sc [vS x5,vM aA x7]),(21,none)] []) (qr eR))
theorem aBR(G:GS)(n:Nat)(self:(List UInt8)→Int→Int→Option (Expr×Int))(hself: ∀(q0:List UInt8) (q1:Int) (q2:Int) {r:Expr×Int},self q0 q1 q2=some r→PQ G 291 [vS q0,vI q1,vI q2] (V.tup [V.agg (cR r.1),vI r.2]))(s:List UInt8)(at_a1:Int)(levels:Int){r:Expr×Int}(h:yW n self s at_a1 levels=some r):PQ G 316 [vS s,vI at_a1,vI levels] (V.tup [V.agg (cR r.1),vI r.2]):=by
 unfold yW at h
 refine pq aN Tryz.func316 rfl fun w X hC=> ?_
 refine rq hC [.z (.nat 20)] [6,7] [(6,V.ref 20 0)] [(20,sc [vI 0,vI 0,V.t T.nilS,vI 0,vS [],V.t T.nilS,V.t T.nilS])] [(20,true)] ?_
 obtain⟨x1,hx1,h⟩:=bd h
 refine rq hC [oV (hself s at_a1 levels hx1),.z (.nat 21)] [8,9,13,14,15,16,17,18,19] [(8,V.ref 21 0),(9,vI x1.2)] [(21,some (E.cells (cR x1.1)))] [(21,true)] (qs (vj h (fun x_=>aX [(0,vS s),(2,vI levels),(6,V.ref 20 0),(8,V.ref 21 0),(9,vI x1.2),(27,vB x_)] [(20,E.cells [vI 0,vI 0,V.t T.nilS,vI 0,vS [],V.t T.nilS,V.t T.nilS]),(21,E.cells (cR x1.1))] [20,21]) (fun j2 h=> ?_) (fun x3 h=> ?_)))
 ·
  refine aQ h (fun c1 h=> ?_) (fun c1 h=> ?_)
  ·exact rk hC (rF 5 c1) (fr 20 8) [(27,vB (decide ((s.length:Int)≤x1.2)))] [] [] (lE h)
  ·exact rk hC (rT 5 c1) (fr 20 8) [(27,vB true)] [] [] (lE h)
 ·refine aS h (fun c2 h=> ?_) (fun c2 h=> ?_)
  ·obtain rfl:=so h
   exact rq hC [] [7,28] [(7,vI (-1))] [(20,sc [vI 0,vI 0,V.t T.nilS,vI 0,vS [],V.t T.nilS,V.t T.nilS])] [] (qr eR)
  ·refine qk (rq hC [] [10] [(10,vI 4)] [] [] (vj h (fun x_=>aX [(0,vS s),(2,vI levels),(6,V.ref 20 0),(8,V.ref 21 0),(9,vI x1.2),(10,vI x_)] [(20,E.cells [vI 0,vI 0,V.t T.nilS,vI 0,vS [],V.t T.nilS,V.t T.nilS]),(21,E.cells (cR x1.1))] [20,21]) (fun j4 h=> ?_) (fun x6 h=> ?_)))
   ·
    obtain⟨x5,hx5,h⟩:=bd h
    refine rq hC [oY hx5] [29,30,31] [(31,vY x5)] [] [] (qb (rq hC [] [32,33] [(32,vB (decide ((x5.toNat:Int)=45)))] [] [] (aS h (fun c3 h=> ?_) (fun c3 h=> ?_))))
    ·exact rk hC [] [10] [(10,vI 5)] [] [] (lE h)
    ·refine rq hC [] [34,35] [(34,vB (decide ((x5.toNat:Int)=42)))] [] [] (aS h (fun c4 h=> ?_) (fun c4 h=> ?_))
     ·exact rk hC [] [10] [(10,vI 6)] [] [] (lE h)
     ·exact qk (lE h)
   ·obtain⟨x7,hx7,h⟩:=bd h
    refine rq hC [oV (hself s (wr (x1.2+1)) levels hx7),.z (.nat 22)] [11,12,36,37,38,39,40,41,42,43] [(11,V.ref 22 0),(12,vI x7.2)] [(22,some (E.cells (cR x7.1)))] [(22,true)] (qs (vj h (fun x_=>aX [(6,V.ref 20 0),(8,V.ref 21 0),(10,vI x6),(11,V.ref 22 0),(12,vI x7.2),(51,vB x_)] [(20,E.cells [vI 0,vI 0,V.t T.nilS,vI 0,vS [],V.t T.nilS,V.t T.nilS]),(21,E.cells (cR x1.1)),(22,E.cells (cR x7.1))] [20,21,22]) (fun j8 h=> ?_) (fun x9 h=> ?_)))
    ·
     refine aQ h (fun c5 h=> ?_) (fun c5 h=> ?_)
     ·exact rk hC (rF 5 c5) (fr 44 8) [(51,vB (decide ((s.length:Int)≤x7.2)))] [] [] (lE h)
     ·exact rk hC (rT 5 c5) (fr 44 8) [(51,vB true)] [] [] (lE h)
    ·refine aS h (fun c6 h=> ?_) (fun c6 h=> ?_)
     ·obtain rfl:=so h
      exact rq hC [] [7,52] [(7,vI (-1))] [(20,sc [vI 0,vI 0,V.t T.nilS,vI 0,vS [],V.t T.nilS,V.t T.nilS])] [] (qr eR)
     ·obtain rfl:=so h
      exact qk (rq hC [.z (.int 2),.z (.rows (List.map aI [x1.1,x7.1])),oQ (aIz x1.1 x7.1)] [7,53,54,55,56,57,58,59] [(7,vI (wr (x7.2+1)))] [(20,sc [vI x6,vI 0,V.t T.nilS,vI 0,vS [],V.t T.nilS,vM aI [x1.1,x7.1]])] [] (qr eR))
theorem aBT(G:GS): ∀(n:Nat) (s:List UInt8) (at_a1:Int) (levels:Int) {r:Expr×Int} (h:s_l3Parse n s at_a1 levels=some r),PQ G 291 [vS s,vI at_a1,vI levels] (V.tup [V.agg (cR r.1),vI r.2]):=by
 intro n
 induction n with
 |zero=>intro s at_a1 levels r h;rw [s_l3Parse.eq_def] at h;cases h
 |succ n ih=>
  intro s at_a1 levels r h
  rw [s_l3Parse.eq_def] at h;dsimp only at h
  refine pq aN Tryz.func291 rfl fun w X hC=> ?_
  refine rq hC [.z (.nat 20)] [6,7] [(6,V.ref 20 0)] [(20,sc [vI 0,vI 0,V.t T.nilS,vI 0,vS [],V.t T.nilS,V.t T.nilS])] [(20,true)] (qs (vj h (fun x_=>aX [(0,vS s),(1,vI at_a1),(2,vI levels),(6,V.ref 20 0),(26,vB x_)] [(20,E.cells [vI 0,vI 0,V.t T.nilS,vI 0,vS [],V.t T.nilS,V.t T.nilS])] [20]) (fun j1 h=> ?_) (fun x2 h=> ?_)))
  ·
   refine aQ h (fun c1 h=> ?_) (fun c1 h=> ?_)
   ·refine aQ h (fun c2 h=> ?_) (fun c2 h=> ?_)
    ·exact rk hC (rF 3 c1++rF 5 c2) (fr 15 12) [(26,vB (decide ((s.length:Int)≤at_a1)))] [] [] (lE h)
    ·exact rk hC (rF 3 c1++rT 5 c2) (fr 15 12) [(26,vB true)] [] [] (lE h)
   ·exact rk hC (rT 3 c1++sT 5) (fr 15 12) [(26,vB true)] [] [] (lE h)
  ·refine aS h (fun c3 h=> ?_) (fun c3 h=> ?_)
   ·obtain rfl:=so h
    exact rq hC [] [7,27] [(7,vI (-1))] [(20,sc [vI 0,vI 0,V.t T.nilS,vI 0,vS [],V.t T.nilS,V.t T.nilS])] [] (qr eR)
   ·refine qk (qs (qb ?_))
    obtain⟨x3,hx3,h⟩:=bd h
    refine rq hC [oY hx3] (fr 28 5) [(28,vB (decide ((x3.toNat:Int)=123)))] [] [] (aS h (fun c4 h=> ?_) (fun c4 h=> ?_))
    ·obtain⟨x4,hx4,h⟩:=bd h
     refine rq hC [oV (B5 G hx4)] [8,33,34,35] [(8,vI x4)] [] [] (qs (rq hC [] [36,37] [(37,vB (decide (x4<0)))] [] [] (aS h (fun c5 h=> ?_) (fun c5 h=> ?_))))
     ·obtain rfl:=so h
      exact rq hC [] [7,38] [(7,vI (-1))] [(20,sc [vI 0,vI 0,V.t T.nilS,vI 0,vS [],V.t T.nilS,V.t T.nilS])] [] (qr eR)
     ·refine qk ?_
      obtain⟨x5,hx5,x6,hx6,h⟩:=cP h
      obtain rfl:=so h
      exact rq hC [oS hx5,oV (sL G hx6),.z (.nat 21)] [9,10,39,40,41,42,43,44,45,46,47] [(9,V.ref 21 0)] [(21,some (E.cells (aK x6.1)))] [(21,true)] (rq hC [] [7,48,49,50,51] [(7,vI (wr (x4+1)))] [(20,sc [vI 2,vI 0,vM rI x6.1.coefs,vI x6.1.const,vS [],V.t T.nilS,V.t T.nilS])] [] (qr eR))
    ·refine vj h (fun x_=>aX [(0,vS s),(1,vI at_a1),(2,vI levels),(6,V.ref 20 0),(52,vB x_)] [(20,E.cells [vI 0,vI 0,V.t T.nilS,vI 0,vS [],V.t T.nilS,V.t T.nilS])] [20]) (fun j7 h=> ?_) (fun x8 h=> ?_)
     ·
      refine aQ h (fun c6 h=> ?_) (fun c6 h=> ?_)
      ·exact rk hC ([oY hx3]++rF 5 c6) (fr 52 11) [(52,vB false)] [] [] (lE h)
      ·exact rk hC ([oY hx3]++rT 3 c6++[oY hx3,oT c6,oT c6]) (fr 52 11) [(52,vB (decide ((x3.toNat:Int)≤68)))] [] [] (lE h)
     ·refine aS h (fun c7 h=> ?_) (fun c7 h=> ?_)
      ·obtain⟨x9,hx9,h⟩:=bd h
       obtain rfl:=so h
       exact rq hC [oV (pJ G hx9),.z (.nat 21)] [11,12,63,64,65,66,67,68] [(11,V.ref 21 0),(12,vI x9.2)] [(21,some (E.cells (cB x9.1)))] [(21,true)] (rq hC [] [7,69,70,71] [(7,vI x9.2)] [(20,sc [vI 3,vI 0,V.t T.nilS,vI 0,vS x9.1.array,vM aA x9.1.subs,V.t T.nilS])] [] (qr eR))
      ·refine rq hC [oY hx3] (fr 72 5) [(72,vB (decide ((x3.toNat:Int)=40)))] [] [] (aS h (fun c8 h=> ?_) (fun c8 h=> ?_))
       ·obtain⟨x10,hx10,h⟩:=bd h
        obtain rfl:=so h
        exact rq hC [oV (aBR G n (s_l3Parse n) (fun q0 q1 q2 r h=>ih q0 q1 q2 h) s (wr (at_a1+1)) (wr (levels-1)) hx10)] [7,77,78,79,80,81,82,83,84] [(7,vI x10.2)] [(20,some (E.cells (cR x10.1)))] [] (qr eR)
       ·refine qk ?_
        obtain⟨x11,hx11,h⟩:=bd h
        refine rq hC [oV (xX G hx11)] [13,14,85,86,87,88,89,90] [(13,vI x11.1),(14,vI x11.2)] [] [] (qs (rq hC [] [91,92,93] [(93,vB (decide (x11.2=at_a1)))] [] [] (aS h (fun c9 h=> ?_) (fun c9 h=> ?_))))
        ·obtain rfl:=so h
         exact rq hC [] [7,94] [(7,vI (-1))] [(20,sc [vI 0,vI 0,V.t T.nilS,vI 0,vS [],V.t T.nilS,V.t T.nilS])] [] (qr eR)
        ·obtain rfl:=so h
         exact qk (rq hC [] [7,95,96,97] [(7,vI x11.2)] [(20,sc [vI 1,vI x11.1,V.t T.nilS,vI 0,vS [],V.t T.nilS,V.t T.nilS])] [] (qr eR))
theorem o6{list}{r}(h:kI n list=some r):PQ G 293 [vM aA list] (vS r):=by
 unfold kI at h
 refine pq aN Tryz.func293 rfl fun w X hC=> ?_
 refine rq hC [] [2] [] [] [] (rq hC [] [3] [(3,vS [])] [] [] (qs (rq hC [] [4] [(4,vI 0)] [] [] (qb (jF h (fun x_=>aX [(0,vM aA list),(3,vS x_.1),(4,vI x_.2)] [] []) lS ?_)))))
 rintro again3 ⟨x1,x2⟩ h
 refine qs (rq hC [oN aA list] (fr 5 4) [(8,vB (decide (x2<(list.length:Int))))] [] [] (aS h (fun c1 h=> ?_) (fun c1 h=> ?_)))
 ·refine qk (qs (qb (vj h (fun x_=>aX [(0,vM aA list),(3,vS x_),(4,vI x2)] [] []) (fun j4 h=> ?_) (fun x6 h=> ?_))))
  ·
   refine rq hC [] [11,12] [(12,vB (decide ((0:Int)<x2)))] [] [] (aS h (fun c2 h=> ?_) (fun c2 h=> ?_))
   ·obtain⟨x5,hx5,h⟩:=bd h
    exact rk hC [oS hx5] [3,13,14] [(3,vS x5)] [] [] (lE h)
   ·exact qk (lE h)
  ·obtain⟨x7,hx7,x8,hx8,x9,hx9,h⟩:=kG h
   exact rk hC [oR aA hx7,oV (wK G hx8),oS hx9] [3,15,16,17,18,19,20,21] [(3,vS x9)] [] [] (rk hC [] [4,9,10] [(4,vI (wr (x2+1)))] [] [] (lE h))
 ·obtain rfl:=so h
  exact cQ (rq hC [] [2,22] [(2,vS x1)] [] [] (qr eR))
theorem l6{a}{r}(h:iB n a=some r):PQ G 268 [V.agg (cB a)] (vS r):=by
 unfold iB at h
 refine pq aN Tryz.func268 rfl fun w X hC=> ?_
 refine rq hC [.z (.b (true))] [1,2] [(1,V.tp (dO a))] [] [] (qs ?_)
 obtain⟨x1,hx1,x2,hx2,x3,hx3,h⟩:=kG h
 obtain⟨x4,hx4,h⟩:=bd h
 obtain rfl:=so h
 exact dk hC bF [oS hx1,oV (o6 G hx2),oS hx3,oS hx4] (fr 2 9) [(2,vS x4)] [] [] (qr eR)
theorem O2(G:GS): ∀(n:Nat) (e:Expr) {r:(List UInt8)} (h:s_l3Text n e=some r),PQ G 269 [V.agg (cR e)] (vS r):=by
 intro n
 induction n with
 |zero=>intro e r h;rw [s_l3Text.eq_def] at h;cases h
 |succ n ih=>
  intro e r h
  rw [s_l3Text.eq_def] at h;dsimp only at h
  refine pq aN Tryz.func269 rfl fun w X hC=> ?_
  refine rq hC [.z (.b (true))] [1,2] [(1,V.tp (fD e))] [] [] (qs (rq hC [] [3,4] [(4,vI e.kind)] [] [] (qb (rq hC [] [5,6] [(5,vB (decide (e.kind=1)))] [] [] (aS h (fun c1 h=> ?_) (fun c1 h=> ?_))))))
  ·obtain⟨x1,hx1,h⟩:=bd h
   obtain rfl:=so h
   exact rq hC [oV (rZ G n e.num hx1)] [2,7,8,9] [(2,vS x1)] [] [] (qr eR)
  ·refine rq hC [] [10,11] [(10,vB (decide (e.kind=2)))] [] [] (aS h (fun c2 h=> ?_) (fun c2 h=> ?_))
   ·obtain⟨x2,hx2,x3,hx3,x4,hx4,h⟩:=kG h
    obtain rfl:=so h
    exact rq hC [oV (wK G hx2),oS hx3,oS hx4] [2,12,13,14,15,16] [(2,vS x4)] [] [] (qr eR)
   ·refine rq hC [] [17,18] [(17,vB (decide (e.kind=3)))] [] [] (aS h (fun c3 h=> ?_) (fun c3 h=> ?_))
    ·obtain⟨x5,hx5,h⟩:=bd h
     obtain rfl:=so h
     exact rq hC [oV (l6 G hx5)] [2,19,20,21] [(2,vS x5)] [] [] (qr eR)
    ·refine qk (qs ?_)
     obtain⟨x6,hx6,x7,hx7,x8,hx8,h⟩:=kG h
     obtain⟨x9,hx9,x10,hx10,x11,hx11,h⟩:=kG h
     obtain⟨x12,hx12,x13,hx13,x14,hx14,h⟩:=kG h
     obtain rfl:=so h
     exact dk hC bF [.z (.row (d5 x6)),oQ (eU aI hx6 (cM x6)),oV (ih x6 hx7),oS hx8,oS hx9,oS hx10,.z (.row (d5 x11)),oQ (eU aI hx11 (cM x11)),oV (ih x11 hx12),oS hx13,oS hx14] [2,22,23,24,25,26,27,28,29,30,31,32,33,34,35,36,37,38,39,40,41,42,43] [(2,vS x14)] [] [] (qr eR)
theorem P5{s}{r}(h:q7 n s=some r):PQ G 292 [V.agg (cO s)] (vS r):=by
 unfold q7 at h
 refine pq aN Tryz.func292 rfl fun w X hC=> ?_
 refine rq hC [.z (.b (true))] [1,2] [(1,V.tp (n6 s))] [] [] (qs ?_)
 obtain⟨x1,hx1,h⟩:=bd h
 refine rq hC [oV (pR G hx1)] [3,4,5] [(5,vB (!x1))] [] [] (aS h (fun c1 h=> ?_) (fun c1 h=> ?_))
 ·obtain rfl:=so h
  exact rq hC [] [2] [(2,vS [])] [] [] (qr eR)
 ·refine qk (qs ?_)
  obtain⟨x2,hx2,x3,hx3,x4,hx4,h⟩:=kG h
  obtain⟨x5,hx5,h⟩:=bd h
  obtain rfl:=so h
  exact dk hC bF [oV (l6 G hx2),oS hx3,oV (O2 G n s.value hx4),oS hx5] [2,6,7,8,9,10,11,12,13] [(2,vS x5)] [] [] (qr eR)
theorem vH{text}{r}(h:mK n text=some r):PQ G 265 [vS text] (V.tup [V.agg (cO r.1),vB r.2]):=by
 unfold mK at h
 refine pq aN Tryz.func265 rfl fun w X hC=> ?_
 refine rq hC [.z (.nat 20)] [2,3] [(2,V.ref 20 0)] [(20,sc [vS [],V.t T.nilS,vI 0,vI 0,V.t T.nilS,vI 0,vS [],V.t T.nilS,V.t T.nilS])] [(20,true)] (qs (rq hC [] [9,10,11] [(11,vB (decide ((text.length:Int)<4)))] [] [] (aS h (fun c1 h=> ?_) (fun c1 h=> ?_))))
 ·obtain rfl:=so h
  exact rq hC [] [3,12] [(3,vB false)] [(20,sc [vS [],V.t T.nilS,vI 0,vI 0,V.t T.nilS,vI 0,vS [],V.t T.nilS,V.t T.nilS])] [] (qr eR)
 ·refine qk ?_
  obtain⟨x1,hx1,h⟩:=bd h
  refine rq hC [oV (pJ G hx1),.z (.nat 21)] [4,5,13,14,15,16,17] [(4,V.ref 21 0),(5,vI x1.2)] [(21,some (E.cells (cB x1.1)))] [(21,true)] (qs (vj h (fun x_=>aX [(0,vS text),(2,V.ref 20 0),(4,V.ref 21 0),(5,vI x1.2),(25,vB x_)] [(20,E.cells [vS [],V.t T.nilS,vI 0,vI 0,V.t T.nilS,vI 0,vS [],V.t T.nilS,V.t T.nilS]),(21,E.cells (cB x1.1))] [20,21]) (fun j2 h=> ?_) (fun x3 h=> ?_)))
  ·
   refine aQ h (fun c2 h=> ?_) (fun c2 h=> ?_)
   ·exact rk hC (rF 5 c2) (fr 18 8) [(25,vB (decide ((text.length:Int)≤x1.2)))] [] [] (lE h)
   ·exact rk hC (rT 5 c2) (fr 18 8) [(25,vB true)] [] [] (lE h)
  ·refine aS h (fun c3 h=> ?_) (fun c3 h=> ?_)
   ·obtain rfl:=so h
    exact rq hC [] [3,26] [(3,vB false)] [(20,sc [vS [],V.t T.nilS,vI 0,vI 0,V.t T.nilS,vI 0,vS [],V.t T.nilS,V.t T.nilS])] [] (qr eR)
   ·refine qk ?_
    obtain⟨x4,hx4,h⟩:=bd h
    refine rq hC [oV (aBT G n text (wr (x1.2+1)) 5 hx4),.z (.nat 22)] [6,7,27,28,29,30,31,32,33] [(6,V.ref 22 0)] [(22,some (E.cells (cR x4.1)))] [(22,true)] (rq hC [.z (.nat 23)] [8,34,35,36] [(8,V.ref 23 0)] [(23,sc [vS x1.1.array,vM aA x1.1.subs,vI x4.1.kind,vI x4.1.num,vM rI x4.1.index.coefs,vI x4.1.index.const,vS x4.1.read.array,vM aA x4.1.read.subs,vM aI x4.1.kids])] [(23,true)] (qs ?_))
    obtain⟨x5,hx5,h⟩:=bd h
    refine rq hC [oV (P5 G hx5)] (fr 37 4) [(40,vB (!decide (x5=text)))] [] [] (aS h (fun c4 h=> ?_) (fun c4 h=> ?_))
    ·obtain rfl:=so h
     exact rq hC [] [3,41] [(3,vB false)] [(20,sc [vS [],V.t T.nilS,vI 0,vI 0,V.t T.nilS,vI 0,vS [],V.t T.nilS,V.t T.nilS])] [] (qr eR)
    ·obtain rfl:=so h
     exact qk (rq hC [] [3,42] [(3,vB true)] [(20,sc [vS x1.1.array,vM aA x1.1.subs,vI x4.1.kind,vI x4.1.num,vM rI x4.1.index.coefs,vI x4.1.index.const,vS x4.1.read.array,vM aA x4.1.read.subs,vM aI x4.1.kids])] [] (qr eR))
theorem aBO{w_a0}{r}(h:yV n w_a0=some r):PQ G 263 [vM rS w_a0] (V.agg [vS r.name,vM rI r.dims]):=by
 unfold yV at h
 refine pq aN Tryz.func263 rfl fun w X hC=> ?_
 refine rq hC [.z (.nat 20)] [2] [(2,V.ref 20 0)] [(20,sc [vS [],V.t T.nilS])] [(20,true)] (rq hC [.z (.nat 21)] [3,7] [(3,V.ref 21 0)] [(21,sc [vS [],V.t T.nilS])] [(21,true)] (qs (rq hC [] [4] [(4,vI 1)] [] [] (qb (qw (lk hC [.growc 21 1 22 3] [] [] [(22,some (ar 3 1 1 rI [])),(21,sc [vS [],ms 22 1 1 rI []])] [(22,true)]) ?_)))))
 refine bC (γ:=Nat) h (fun x_ g_=>aX [(0,vM rS w_a0),(2,V.ref 20 0),(3,V.ref 21 0),(4,vI x_.2.2)] [(20,E.cells [vS [],V.t T.nilS]),(21,E.cells [vS x_.1,ms 22 g_ 1 rI x_.2.1]),(22,ar 3 g_ 1 rI x_.2.1)] [20,21,22]) 1 (lS) ?_
 rintro again5 ⟨x1,x2,x3⟩ g4 h
 refine qs (vj h (fun x_=>aX [(0,vM rS w_a0),(2,V.ref 20 0),(3,V.ref 21 0),(4,vI x3),(15,vB x_)] [(20,E.cells [vS [],V.t T.nilS]),(21,E.cells [vS x1,ms 22 g4 1 rI x2]),(22,ar 3 g4 1 rI x2)] [20,21,22]) (fun j6 h=> ?_) (fun x7 h=> ?_))
 ·
  refine aQ h (fun c1 h=> ?_) (fun c1 h=> ?_)
  ·exact rk hC ([oN rS w_a0]++rF 3 c1) (fr 8 8) [(15,vB false)] [] [] (lE h)
  ·exact rk hC ([oN rS w_a0]++rT 3 c1) (fr 8 8) [(15,vB (decide (x3≤4)))] [] [] (lE h)
 ·refine aS h (fun c2 h=> ?_) (fun c2 h=> ?_)
  ·refine qk ?_
   obtain⟨j8,hj8,h⟩:=R3 h
   refine n4 (γ:=Nat) (j:=j8) (r:=r) (fun x_ g_=>aX [(0,vM rS w_a0),(2,V.ref 20 0),(3,V.ref 21 0),(4,vI x3)] [(20,E.cells [vS [],V.t T.nilS]),(21,E.cells [vS x_.1,ms 22 g_ 1 rI x_.2]),(22,ar 3 g_ 1 rI x_.2)] [20,21,22]) ?_ ?_
   ·
    refine qb (qs (rq hC [] [18,19] [(19,vB (decide (x3=1)))] [] [] (aS h (fun c3 h=> ?_) (fun c3 h=> ?_))))
    ·obtain⟨x9,hx9,h⟩:=bd h
     exact rq hC [oR rS hx9] (fr 20 4) [] [(21,sc [vS x9,ms 22 g4 1 rI x2])] [] (cQ ⟨(x9,x2),g4,h,lS⟩)
    ·refine qk ?_
     obtain⟨x10,hx10,x11,hx11,h⟩:=cP h
     refine rq hC [oR rS hx10,oV (P3 G hx11)] [5,6,24,25,26,27,28,29,30,31] [(5,vI x11.1)] [] [] ?_
     obtain⟨x12,hx12,h⟩:=bd h
     exact rk hC [.z (.int 0),oA (aP rI hx12),oQ (bT (r:=rI) 1 (fun _=>rfl) x2),oQ (bT (r:=rI) 1 (fun _=>rfl) [x11.1])] (fr 32 6) [] [(22,some (ar 3 (g4+1) 1 rI x12)),(21,sc [vS x1,ms 22 (g4+1) 1 rI x12])] [] ⟨(x1,x12),(g4+1),h,lS⟩
   ·rintro⟨x13,x14⟩ g15 h
    subst hj8
    exact rk hC [] [4,16,17] [(4,vI (wr (x3+1)))] [] [] ⟨(x13,x14,wr (x3+1)),g15,h,lS⟩
  ·obtain rfl:=so h
   exact cQ (rq hC [.z (.at 2),.z (.fz 22 [] [21])] [38] [] [(21,sc [vS x1,vM rI x2]),(22,none),(20,sc [vS x1,vM rI x2])] [] (qr eR))
def tP:List Nd:=[⟨60,2,[(0,1),(1,2)]⟩,⟨56,2,[]⟩,⟨86,9,[]⟩]
theorem aDq(G:GS)(n:Nat)(p:Prog)(line:List UInt8)(g0 g1:Nat){r:Prog}(h:H5 n p line=some r):VQ G 230 [ar 76 g0 2 aJ p.arrays,E.tree tP 0 g1 (List.map aD p.parts) []] [V.agg [ms 0 g0 2 aJ p.arrays,ms 1 g1 2 aD p.parts],vS line] (V.agg [ms 0 (g0+1) 2 aJ r.arrays,ms 1 (g1+1) 2 aD r.parts]) [ar 76 (g0+1) 2 aJ r.arrays,E.tree tP 0 (g1+1) (List.map aD r.parts) []]:=by
 unfold H5 at h
 refine vq aN Tryz.func230 rfl fun w X β0 hC hg=> ?_
 refine rq hC [.z (.nat 20),.z (.nat 21)] [0,2,4] [(2,V.ref 20 0),(4,V.ref 21 0)] [(20,sc [ms 0 g0 2 aJ p.arrays,ms 1 g1 2 aD p.parts]),(21,sc [V.t T.nilS,V.t T.nilS])] [(20,true),(21,true)] ?_
 obtain⟨x1,hx1,h⟩:=bd h
 refine rq hC [oC [] [22] (xY G hx1)] [5,11,12] [(5,ms 22 1 1 rS x1)] [(22,some (ar 9 1 1 rS x1))] [(22,true)] (rq hC [oN aD p.parts] [6,13,14,15,16] [(6,vI (wr ((p.parts.length:Int)-1)))] [] [] (qw (lk hC [.fz 22 [5] []] [5] [(5,vM rS x1)] [(22,none)] []) (qs (qb (vj h (fun x_=>aX [(1,vS line),(2,V.ref 20 0),(4,V.ref 21 0),(5,vM rS x1),(6,vI (wr ((p.parts.length:Int)-1))),(17,vB x_)] [(0,ar 76 g0 2 aJ p.arrays),(1,E.tree tP 0 g1 (List.map aD p.parts) []),(20,E.cells [ms 0 g0 2 aJ p.arrays,ms 1 g1 2 aD p.parts]),(21,E.cells [V.t T.nilS,V.t T.nilS])] [0,1,20,21,22]) (fun j2 h=> ?_) (fun x4 h=> ?_))))))
 ·
  refine aQ h (fun c1 h=> ?_) (fun c1 h=> ?_)
  ·exact rk hC ([oN rS x1]++rF 5 c1) (fr 17 10) [(17,vB false)] [] [] (lE h)
  ·obtain⟨x3,hx3,h⟩:=bd h
   exact rk hC ([oN rS x1,oT c1,oT c1,oR rS hx3]++rT 3 c1) (fr 17 10) [(17,vB (decide (x3=[97,114,114,97,121])))] [] [] (lE h)
 ·refine aS h (fun c2 h=> ?_) (fun c2 h=> ?_)
  ·obtain⟨x5,hx5,x6,hx6,h⟩:=cP h
   obtain rfl:=so h
   exact dk hC bF [oV (aBO G hx5),.z (.int 0),oA (aP aJ hx6),oQ (bT (r:=aJ) 2 gP p.arrays),oQ (bT (r:=aJ) 2 gP [x5])] (fr 27 7) [] [(0,some (ar 76 (g0+1) 2 aJ x6)),(20,sc [ms 0 (g0+1) 2 aJ x6,ms 1 g1 2 aD p.parts])] [] (rq hC [] [98] [] [(21,sc [ms 0 (g0+1) 2 aJ x6,ms 1 g1 2 aD p.parts])] [] (qw (dV 21 1 1 g1 g1 2 0 (List.map aD p.parts).length (e:=E.tree tP 0 g1 (List.map aD p.parts) []) (cs:=[ms 0 (g0+1) 2 aJ x6,ms 1 g1 2 aD p.parts]) rfl (by kernel_rfl) (by kernel_rfl) (by kernel_rfl) (by kernel_rfl) rfl rfl hg.2.1) (qr eW)))
  ·refine rq hC [] [34,35,36] [(34,vB (decide (line=[112,97,114,116])))] [] [] (aS h (fun c3 h=> ?_) (fun c3 h=> ?_))
   ·obtain⟨x7,hx7,h⟩:=bd h
    obtain rfl:=so h
    exact rk hC [.z (.at 4),.z (.growa 39 0 24 56),.z (.growa 39 1 25 86),.z (.lt 26 tP 0),.z (.rows (List.map aD (p.parts++[(⟨[],[]⟩:Part)]))),.z (.at 2),.z (.tre 24 tP 1),.z (.unf 1 24 (aD (⟨[],[]⟩:Part)) (List.map aD (p.parts++[(⟨[],[]⟩:Part)]))),.z (.tre 25 tP 2),.z (.unf 1 25 (aD (⟨[],[]⟩:Part)) (List.map aD x7)),.z (.len 41 (List.map aD x7).length),oQ (Eq.refl (ndOf tP 0)),oQ (aHd aD (⟨[],[]⟩:Part) hx7),oQ (bT (r:=aD) 2 b7 p.parts),oQ (bT (r:=aD) 2 b7 [(⟨[],[]⟩:Part)]),oQ (Eq.refl (List.map aC []).length),oQ (Eq.refl tP),oQ (Z8 aD p.parts (⟨[],[]⟩:Part)),oQ (aFV aD p.parts (ph:=(⟨[],[]⟩:Part)) (y:=(⟨[],[]⟩:Part)) rfl),oQ (Eq.refl (List.map aG []).length),oQ (Eq.refl tP),oQ (Z8 aD p.parts (⟨[],[]⟩:Part)),oQ (aBc aD hx7 (ph:=(⟨[],[]⟩:Part)) rfl),oQ (aGg aD (⟨[],[]⟩:Part) hx7)] (fr 37 6) [] [(24,none),(25,none),(26,some (E.tree tP 0 1 (List.map aD [(⟨[],[]⟩:Part)]) [(0,0,ms 24 1 2 aC []),(0,1,ms 25 1 9 aG [])])),(1,some (E.tree tP 0 (g1+1) (List.map aD x7) [])),(20,sc [ms 0 g0 2 aJ p.arrays,ms 1 (g1+1) 2 aD x7])] [(24,true),(25,true),(26,true)] (rq hC [] [98] [] [(21,sc [ms 0 g0 2 aJ p.arrays,ms 1 (g1+1) 2 aD x7])] [] (qw (dV 21 0 0 g0 g0 2 0 (List.map aJ p.arrays).length (e:= .arr 76 g0 2 (List.map aJ p.arrays)) (cs:=[ms 0 g0 2 aJ p.arrays,ms 1 (g1+1) 2 aD x7]) rfl (by kernel_rfl) (by kernel_rfl) (by kernel_rfl) (by kernel_rfl) rfl rfl hg.1) (qr eW)))
   ·refine vj h (fun x_=>aX [(1,vS line),(2,V.ref 20 0),(4,V.ref 21 0),(6,vI (wr ((p.parts.length:Int)-1))),(43,vB x_)] [(0,ar 76 g0 2 aJ p.arrays),(1,E.tree tP 0 g1 (List.map aD p.parts) []),(20,E.cells [ms 0 g0 2 aJ p.arrays,ms 1 g1 2 aD p.parts]),(21,E.cells [V.t T.nilS,V.t T.nilS])] [0,1,20,21,22]) (fun j6 h=> ?_) (fun x8 h=> ?_)
    ·
     refine aQ h (fun c4 h=> ?_) (fun c4 h=> ?_)
     ·exact rk hC (rF 4 c4++sF 5) (fr 43 14) [(43,vB false)] [] [] (lE h)
     ·refine aQ h (fun c5 h=> ?_) (fun c5 h=> ?_)
      ·exact rk hC ([oT c4,oT c4,oN rS x1,oT c4,oT c4]++rF 5 c5) (fr 43 14) [(43,vB false)] [] [] (lE h)
      ·obtain⟨x7,hx7,h⟩:=bd h
       exact rk hC ([oT c4,oT c4,oN rS x1,oT c4,oT c4,oT c5,oT c5,oR rS hx7]++rT 3 c5) (fr 43 14) [(43,vB (decide (x7=[102,111,114])))] [] [] (lE h)
    ·refine aS h (fun c6 h=> ?_) (fun c6 h=> ?_)
     ·obtain⟨x9,hx9,h⟩:=bd h
      refine rq hC [.z (.foc 1 24 (0+Int.toNat (wr ((p.parts.length:Int)-1))) 0 (aD x9)),.z (.foc 1 25 (0+Int.toNat (wr ((p.parts.length:Int)-1))) 1 (aD x9)),oX aD hx9,.z (.nat 23),oQ (vA aD hx9),oQ (kF aD hx9),oQ (vA aD hx9)] [7,57,58,59,60,61] [(7,V.ref 23 0)] [(1,some (E.tree tP 0 g1 (List.map aD p.parts) [((0+Int.toNat (wr ((p.parts.length:Int)-1))),1,ms 25 1 9 aG x9.body),((0+Int.toNat (wr ((p.parts.length:Int)-1))),0,ms 24 1 2 aC x9.nest)])),(24,some (E.tree tP 1 1 (List.map aC x9.nest) [])),(25,some (E.tree tP 2 1 (List.map aG x9.body) [])),(23,sc [ms 24 1 2 aC x9.nest,ms 25 1 9 aG x9.body])] [(24,true),(25,true),(23,true)] (qw (lk hC [.shd 24] [] [] [(24,some (ar 56 1 2 aC x9.nest))] []) (qs ?_))
      obtain⟨x10,hx10,x13,hx13,x14,hx14,h⟩:=kG h
      obtain rfl:=so h
      exact dk hC bF [oV (aDy G hx10),.z (.int 0),oA (aP aC hx13),oQ (bT (r:=aC) 2 b8 x9.nest),oQ (bT (r:=aC) 2 b8 [x10])] (fr 62 7) [] [(24,some (ar 56 2 2 aC x13)),(23,sc [ms 24 2 2 aC x13,ms 25 1 9 aG x9.body])] [] (rk hC [oQ (kF aD hx9),oX aD hx9,.z (.unf 1 25 (aD x9) (List.map aD p.parts)),.z (.tre 24 tP 1),.z (.unf 1 24 (aD x9) (List.map aD x14)),.z (.lenc 20 1 (List.map aD x14).length),oQ (Eq.refl (List.map aG x9.body).length),oQ (Eq.refl tP),oQ (vA aD hx9),oQ (aFW aD hx9 rfl),oQ (Eq.refl (List.map aC x13).length),oQ (Eq.refl tP),oQ (vA aD hx9),oQ (C3 aD hx14 rfl),oQ (iQ aD hx14)] (fr 69 5) [] [(24,none),(25,none),(1,some (E.tree tP 0 g1 (List.map aD x14) [])),(20,sc [ms 0 g0 2 aJ p.arrays,ms 1 g1 2 aD x14])] [] (rq hC [] [98] [] [(21,sc [ms 0 g0 2 aJ p.arrays,ms 1 g1 2 aD x14])] [] (qw (dV 21 0 0 g0 g0 2 0 (List.map aJ p.arrays).length (e:= .arr 76 g0 2 (List.map aJ p.arrays)) (cs:=[ms 0 g0 2 aJ p.arrays,ms 1 g1 2 aD x14]) rfl (by kernel_rfl) (by kernel_rfl) (by kernel_rfl) (by kernel_rfl) rfl rfl hg.1) (qw (dV 21 1 1 g1 g1 2 0 (List.map aD x14).length (e:=E.tree tP 0 g1 (List.map aD x14) []) (cs:=[ms 0 (g0+1) 2 aJ p.arrays,ms 1 g1 2 aD x14]) rfl (by kernel_rfl) (by kernel_rfl) (by kernel_rfl) (by kernel_rfl) rfl rfl hg.2.1) (qr eW)))))
     ·refine rq hC [] [74,75,76] [(74,vB (decide ((0:Int)≤wr ((p.parts.length:Int)-1))))] [] [] (aS h (fun c7 h=> ?_) (fun c7 h=> ?_))
      ·obtain⟨x11,hx11,h⟩:=bd h
       refine rq hC [.z (.foc 1 25 (0+Int.toNat (wr ((p.parts.length:Int)-1))) 1 (aD x11)),.z (.foc 1 26 (0+Int.toNat (wr ((p.parts.length:Int)-1))) 0 (aD x11)),oX aD hx11,.z (.nat 23),oQ (vA aD hx11),oQ (kF aD hx11),oQ (vA aD hx11)] [8,77,78,79,80,81] [(8,V.ref 23 0)] [(1,some (E.tree tP 0 g1 (List.map aD p.parts) [((0+Int.toNat (wr ((p.parts.length:Int)-1))),0,ms 26 1 2 aC x11.nest),((0+Int.toNat (wr ((p.parts.length:Int)-1))),1,ms 25 1 9 aG x11.body)])),(25,some (E.tree tP 2 1 (List.map aG x11.body) [])),(26,some (E.tree tP 1 1 (List.map aC x11.nest) [])),(23,sc [ms 26 1 2 aC x11.nest,ms 25 1 9 aG x11.body])] [(25,true),(26,true),(23,true)] (qw (lk hC [.shd 25] [] [] [(25,some (ar 86 1 9 aG x11.body))] []) ?_)
       obtain⟨x12,hx12,h⟩:=bd h
       refine rq hC [oV (vH G hx12),.z (.nat 24)] [9,10,82,83,84,85,86] [(9,V.ref 24 0)] [(24,some (E.cells (cO x12.1)))] [(24,true)] ?_
       obtain⟨x15,hx15,x16,hx16,h⟩:=cP h
       obtain rfl:=so h
       exact rq hC [.z (.int 0),oA (aP aG hx15),oQ (bT (r:=aG) 9 dW x11.body),oQ (bT (r:=aG) 9 dW [x12.1])] (fr 87 6) [] [(25,some (ar 86 2 9 aG x15)),(23,sc [ms 26 1 2 aC x11.nest,ms 25 2 9 aG x15])] [] (rk hC [oQ (kF aD hx11),oX aD hx11,.z (.unf 1 26 (aD x11) (List.map aD p.parts)),.z (.tre 25 tP 2),.z (.unf 1 25 (aD x11) (List.map aD x16)),.z (.lenc 20 1 (List.map aD x16).length),oQ (Eq.refl (List.map aC x11.nest).length),oQ (Eq.refl tP),oQ (vA aD hx11),oQ (aFW aD hx11 rfl),oQ (Eq.refl (List.map aG x15).length),oQ (Eq.refl tP),oQ (vA aD hx11),oQ (C3 aD hx16 rfl),oQ (iQ aD hx16)] (fr 93 5) [] [(25,none),(26,none),(1,some (E.tree tP 0 g1 (List.map aD x16) [])),(20,sc [ms 0 g0 2 aJ p.arrays,ms 1 g1 2 aD x16])] [] (rq hC [] [98] [] [(21,sc [ms 0 g0 2 aJ p.arrays,ms 1 g1 2 aD x16])] [] (qw (dV 21 0 0 g0 g0 2 0 (List.map aJ p.arrays).length (e:= .arr 76 g0 2 (List.map aJ p.arrays)) (cs:=[ms 0 g0 2 aJ p.arrays,ms 1 g1 2 aD x16]) rfl (by kernel_rfl) (by kernel_rfl) (by kernel_rfl) (by kernel_rfl) rfl rfl hg.1) (qw (dV 21 1 1 g1 g1 2 0 (List.map aD x16).length (e:=E.tree tP 0 g1 (List.map aD x16) []) (cs:=[ms 0 (g0+1) 2 aJ p.arrays,ms 1 g1 2 aD x16]) rfl (by kernel_rfl) (by kernel_rfl) (by kernel_rfl) (by kernel_rfl) rfl rfl hg.2.1) (qr eW)))))
      ·obtain rfl:=so h
       exact qk (rq hC [] [98] [] [(21,sc [ms 0 g0 2 aJ p.arrays,ms 1 g1 2 aD p.parts])] [] (qw (dV 21 0 0 g0 g0 2 0 (List.map aJ p.arrays).length (e:= .arr 76 g0 2 (List.map aJ p.arrays)) (cs:=[ms 0 g0 2 aJ p.arrays,ms 1 g1 2 aD p.parts]) rfl (by kernel_rfl) (by kernel_rfl) (by kernel_rfl) (by kernel_rfl) rfl rfl hg.1) (qw (dV 21 1 1 g1 g1 2 0 (List.map aD p.parts).length (e:=E.tree tP 0 g1 (List.map aD p.parts) []) (cs:=[ms 0 (g0+1) 2 aJ p.arrays,ms 1 g1 2 aD p.parts]) rfl (by kernel_rfl) (by kernel_rfl) (by kernel_rfl) (by kernel_rfl) rfl rfl hg.2.1) (qr eW))))
theorem aDv{nest}{r}(h:H6 n nest=some r):PQ G 267 [vM aC nest] (vS r):=by
 unfold H6 at h
 refine pq aN Tryz.func267 rfl fun w X hC=> ?_
 refine rq hC [] [2] [] [] [] (rq hC [] [3] [(3,vS [])] [] [] (qs (rq hC [] [4] [(4,vI 0)] [] [] (qb (jF h (fun x_=>aX [(0,vM aC nest),(3,vS x_.1),(4,vI x_.2)] [] []) lS ?_)))))
 rintro again3 ⟨x1,x2⟩ h
 refine qs (rq hC [oN aC nest] (fr 5 4) [(8,vB (decide (x2<(nest.length:Int))))] [] [] (aS h (fun c1 h=> ?_) (fun c1 h=> ?_)))
 ·refine qk (qs (qb ?_))
  obtain⟨x4,hx4,x5,hx5,x6,hx6,h⟩:=kG h
  obtain⟨x7,hx7,x8,hx8,x9,hx9,h⟩:=kG h
  obtain⟨x10,hx10,x11,hx11,h⟩:=cP h
  exact dk hC bF [oS hx4,oR aC hx5,oV (o6 G hx6),oS hx7,oS hx8,oR aC hx5,oV (o6 G hx9),oS hx10,oS hx11] [3,11,12,13,14,15,16,17,18,19,20,21,22,23,24,25,26,27,28] [(3,vS x11)] [] [] (rk hC [] [4,9,10] [(4,vI (wr (x2+1)))] [] [] (lE h))
 ·obtain rfl:=so h
  exact cQ (rq hC [] [2,29] [(2,vS x1)] [] [] (qr eR))
theorem yA{p}{r}(h:mU n p=some r):PQ G 231 [V.agg (bH p)] (vS r):=by
 unfold mU at h
 refine pq aN Tryz.func231 rfl fun w X hC=> ?_
 refine rq hC [.z (.b (true))] [1,2] [(1,V.tp (bL p))] [] [] (qs ?_)
 obtain⟨x1,hx1,h⟩:=bd h
 refine rq hC [oV (cZ G hx1)] [9,10,11] [(11,vB (!x1))] [] [] (aS h (fun c1 h=> ?_) (fun c1 h=> ?_))
 ·obtain rfl:=so h
  exact rq hC [] [2] [(2,vS [])] [] [] (qr eR)
 ·refine qk (rq hC [] [3] [(3,vS [112,114,111,103,114,97,109,10])] [] [] (qs (rq hC [] [4] [(4,vI 0)] [] [] (qb (jF h (fun x_=>aX [(1,V.tp (bL p)),(3,vS x_.1),(4,vI x_.2)] [] []) lS ?_)))))
  rintro again4 ⟨x2,x3⟩ h
  refine qs (rq hC [oN aJ p.arrays] (fr 12 5) [(16,vB (decide (x3<(p.arrays.length:Int))))] [] [] (aS h (fun c2 h=> ?_) (fun c2 h=> ?_)))
  ·refine qk (qs (qb ?_))
   obtain⟨x5,hx5,x6,hx6,x7,hx7,h⟩:=kG h
   refine rq hC [oS hx5,oR aJ hx6,oS hx7] [3,19,20,21,22,23,24,25,26,27] [(3,vS x7)] [] [] (qs (rq hC [] [5] [(5,vI 0)] [] [] (qb (jF h (fun x_=>aX [(1,V.tp (bL p)),(3,vS x_.1),(4,vI x3),(5,vI x_.2)] [] []) lS ?_))))
   rintro again10 ⟨x8,x9⟩ h
   refine qs (rq hC [oR aJ hx6,oN rI x6.dims] (fr 28 9) [(36,vB (decide (x9<(x6.dims.length:Int))))] [] [] (aS h (fun c3 h=> ?_) (fun c3 h=> ?_)))
   ·refine qk (qs (qb ?_))
    obtain⟨x11,hx11,x12,hx12,x13,hx13,h⟩:=kG h
    obtain⟨x14,hx14,h⟩:=bd h
    exact rk hC [oS hx11,oR aJ hx6,oR rI hx12,oV (rZ G n x12 hx13),oS hx14] [3,39,40,41,42,43,44,45,46,47,48,49,50,51] [(3,vS x14)] [] [] (rk hC [] [5,37,38] [(5,vI (wr (x9+1)))] [] [] (lE h))
   ·refine cQ ?_
    obtain⟨x15,hx15,h⟩:=bd h
    exact rk hC [oS hx15] [3,52,53] [(3,vS x15)] [] [] (rk hC [] [4,17,18] [(4,vI (wr (x3+1)))] [] [] (lE h))
  ·refine cQ (qs (rq hC [] [6] [(6,vI 0)] [] [] (qb (jF h (fun x_=>aX [(1,V.tp (bL p)),(3,vS x_.1),(6,vI x_.2)] [] []) lS ?_))))
   rintro again18 ⟨x16,x17⟩ h
   refine qs (rq hC [oN aD p.parts] (fr 54 5) [(58,vB (decide (x17<(p.parts.length:Int))))] [] [] (aS h (fun c4 h=> ?_) (fun c4 h=> ?_)))
   ·refine qk (qs (qb ?_))
    obtain⟨x19,hx19,x20,hx20,x21,hx21,h⟩:=kG h
    obtain⟨x22,hx22,h⟩:=bd h
    refine rq hC [oS hx19,oR aD hx20,oV (aDv G hx21),oS hx22] [3,61,62,63,64,65,66,67,68,69,70] [(3,vS x22)] [] [] (rq hC [] [7] [(7,vI 0)] [] [] (qb (jF h (fun x_=>aX [(1,V.tp (bL p)),(3,vS x_.1),(6,vI x17),(7,vI x_.2)] [] []) lS ?_)))
    rintro again25 ⟨x23,x24⟩ h
    refine qs (rq hC [oR aD hx20,oN aG x20.body] (fr 71 9) [(79,vB (decide (x24<(x20.body.length:Int))))] [] [] (aS h (fun c5 h=> ?_) (fun c5 h=> ?_)))
    ·refine qk (qs (qb ?_))
     obtain⟨x26,hx26,h⟩:=bd h
     refine rq hC [oR aD hx20,oR aG hx26,.z (.nat 20)] [8,82,83,84,85,86,87,88,89,90] [(8,V.ref 20 0)] [(20,some (E.cells (cO x26)))] [(20,true)] ?_
     obtain⟨x27,hx27,x28,hx28,x29,hx29,h⟩:=kG h
     obtain⟨x30,hx30,x31,hx31,x32,hx32,h⟩:=kG h
     exact dk hC bF [oV (l6 G hx27),oS hx28,oS hx29,oV (O2 G n x26.value hx30),oS hx31,oS hx32] [3,91,92,93,94,95,96,97,98,99,100,101] [(3,vS x32)] [] [] (rk hC [] [7,80,81] [(7,vI (wr (x24+1)))] [] [] (lE h))
    ·exact cQ (rk hC [] [6,59,60] [(6,vI (wr (x17+1)))] [] [] (lE h))
   ·obtain rfl:=so h
    exact cQ (rq hC [] [2,102] [(2,vS x16)] [] [] (qr eR))
theorem zT{text}{r}(h:eN n text=some r):PQ G 182 [vS text] (V.tup [V.agg (bH r.1),vB r.2]):=by
 unfold eN at h
 refine pq aN Tryz.func182 rfl fun w X hC=> ?_
 refine rq hC [.z (.nat 20)] [2,3] [(2,V.ref 20 0)] [(20,sc [V.t T.nilS,V.t T.nilS])] [(20,true)] ?_
 obtain⟨x1,hx1,h⟩:=bd h
 refine rq hC [oC [] [21] (wP G hx1)] [4,7,8] [(4,ms 21 1 1 rS x1)] [(21,some (ar 9 1 1 rS x1))] [(21,true)] (rq hC [.z (.nat 22)] [5,9] [(5,V.ref 22 0)] [(22,sc [V.t T.nilS,V.t T.nilS])] [(22,true)] (qs (rq hC [oN rS x1] [10,11,12] [(12,vB (decide ((42:Int)<(x1.length:Int))))] [] [] (aS h (fun c1 h=> ?_) (fun c1 h=> ?_)))))
 ·obtain rfl:=so h
  exact rq hC [] [3,13] [(3,vB false)] [(20,sc [V.t T.nilS,V.t T.nilS])] [] (qr eR)
 ·refine qk (qs (rq hC [] [6] [(6,vI 1)] [] [] (qb (qw (lk hC [.growc 22 0 23 76,.growc 22 1 24 60,.tre 24 tP 0] [] [] [(23,some (ar 76 1 2 aJ [])),(24,some (E.tree tP 0 1 (List.map aD []) [])),(22,sc [ms 23 1 2 aJ [],ms 24 1 2 aD []])] [(23,true),(24,true)]) (bC (γ:=Nat×Nat) h (fun x_ g_=>aX [(0,vS text),(2,V.ref 20 0),(4,ms 21 1 1 rS x1),(5,V.ref 22 0),(6,vI x_.2.2)] [(20,E.cells [V.t T.nilS,V.t T.nilS]),(21,ar 9 1 1 rS x1),(22,E.cells [ms 23 g_.1 2 aJ x_.1,ms 24 g_.2 2 aD x_.2.1]),(23,ar 76 g_.1 2 aJ x_.1),(24,E.tree tP 0 g_.2 (List.map aD x_.2.1) [])] [20,21,22,23,24]) (1,1) (lS) ?_)))))
  rintro again5 ⟨x2,x3,x4⟩ ⟨g5,g6⟩ h
  refine qs (rq hC [oN rS x1] (fr 14 5) [(18,vB (decide (wr (x4+1)<(x1.length:Int))))] [] [] (aS h (fun c2 h=> ?_) (fun c2 h=> ?_)))
  ·refine qk (qs (qb ?_))
   obtain⟨x6,hx6,x7,hx7,h⟩:=cP h
   exact dk hC bF [oQ (kF rS hx6),oX rS hx6,oC [23,24] [] (aDq G n (⟨x2,x3⟩:Prog) x6 g5 g6 hx7)] (fr 21 6) [] [(23,some (ar 76 (g5+1) 2 aJ x7.arrays)),(24,some (E.tree tP 0 (g6+1) (List.map aD x7.parts) [])),(22,sc [ms 23 (g5+1) 2 aJ x7.arrays,ms 24 (g6+1) 2 aD x7.parts])] [(23,true),(24,true)] (rk hC [] [6,19,20] [(6,vI (wr (x4+1)))] [] [] ⟨(x7.arrays,x7.parts,wr (x4+1)),(g5+1,g6+1),h,lS⟩)
  ·refine cQ (qs (vj h (fun x_=>aX [(2,V.ref 20 0),(5,V.ref 22 0),(34,vB x_)] [(20,E.cells [V.t T.nilS,V.t T.nilS]),(21,ar 9 1 1 rS x1),(22,E.cells [ms 23 g5 2 aJ x2,ms 24 g6 2 aD x3]),(23,ar 76 g5 2 aJ x2),(24,E.tree tP 0 g6 (List.map aD x3) [])] [20,21,22,23,24]) (fun j8 h=> ?_) (fun x10 h=> ?_)))
   ·
    refine aQ h (fun c3 h=> ?_) (fun c3 h=> ?_)
    ·obtain⟨x9,hx9,h⟩:=bd h
     exact rk hC ([oF c3,oF c3,.z (.b true),.z (.nat 23),.z (.nat 24),oV (yA G hx9)]++rF 3 c3) (fr 27 8) [(34,vB (!decide (x9=text)))] [] [] (lE h)
    ·exact rk hC (rT 5 c3) (fr 27 8) [(34,vB true)] [] [] (lE h)
   ·refine aS h (fun c4 h=> ?_) (fun c4 h=> ?_)
    ·obtain rfl:=so h
     exact rq hC [] [3,35] [(3,vB false)] [(20,sc [V.t T.nilS,V.t T.nilS])] [] (qr eR)
    ·obtain rfl:=so h
     exact qk (qs (qw (lk hC [.fz 23 [] [22],.shd 24,.fz 24 [] [22]] [] [] [(22,sc [vM aJ x2,vM aD x3]),(23,none),(24,none)] []) (rk hC [] [3,36] [(3,vB true)] [(20,sc [vM aJ x2,vM aD x3])] [] (qr eR))))
theorem rU(G:GS)(n:Nat){r:(List Arr)}(h:qB n=some r):PQ G 232 [] (vM aJ r):=by
 unfold qB at h
 refine pq aN Tryz.func232 rfl fun w X hC=> ?_
 obtain rfl:=so h
 exact rq hC [] [0] [] [] [] (rq hC [.z (.int 0),.z (.int 0),.z (.int 0),.z (.int 0)] (fr 0 8) [(0,vM aJ [(⟨[65],[6]⟩:Arr),(⟨[66],[4,5]⟩:Arr),(⟨[67],[3]⟩:Arr)])] [] [] (qr eR))
theorem aDx{r_a0}{depth}{r}(h:tJ n r_a0 depth=some r):VQ G 295 [eL r_a0] [V.ref 0 0,vI depth] (V.agg (jD r.1)) [eL r.2]:=by
 unfold tJ at h
 refine vq aN Tryz.func295 rfl fun w X β0 hC hg=> ?_
 refine rq hC [.z (.nat 20)] [4] [(4,V.ref 20 0)] [(20,sc [V.t T.nilS,V.t T.nilS])] [(20,true)] ?_
 obtain⟨x1,hx1,x2,hx2,h⟩:=cP h
 refine rq hC [.z (.int 0),oC [0] [] (bA G hx1),oC [] [21] (cY G hx2),.z (.nat 22)] [5,9,10,11,12] [(5,V.ref 22 0)] [(0,sR x1.2),(21,some (ar 3 1 1 rI x2.coefs)),(22,sc [ms 21 1 1 rI x2.coefs,vI x2.const])] [(0,true),(21,true),(22,true)] ?_
 obtain⟨x3,hx3,x4,hx4,h⟩:=cP h
 refine rq hC [.z (.int 0),oC [0] [] (bA G hx3),oC [] [23] (cY G hx4),.z (.nat 24)] [6,13,14,15,16] [(6,V.ref 24 0)] [(0,sR x3.2),(23,some (ar 3 1 1 rI x4.coefs)),(24,sc [ms 23 1 1 rI x4.coefs,vI x4.const])] [(0,true),(23,true),(24,true)] (vj h (fun x_=>aX [(0,V.ref 0 0),(4,V.ref 20 0),(5,V.ref 22 0),(6,V.ref 24 0)] [(0,E.cells [vM rY x_.1,vI x_.2.1]),(20,E.cells [V.t T.nilS,V.t T.nilS]),(22,E.cells [vM rI x_.2.2.1,vI x_.2.2.2.1]),(24,E.cells [vM rI x_.2.2.2.2.1,vI x_.2.2.2.2.2])] [0,20,21,22,23,24]) (fun j5 h=> ?_) ?_)
 ·
  refine vj h (fun x_=>aX [(0,V.ref 0 0),(1,vI depth),(4,V.ref 20 0),(5,V.ref 22 0),(6,V.ref 24 0),(23,vB x_.2.2)] [(0,E.cells [vM rY x_.1,vI x_.2.1]),(20,E.cells [V.t T.nilS,V.t T.nilS]),(21,ar 3 1 1 rI x2.coefs),(22,E.cells [ms 21 1 1 rI x2.coefs,vI x2.const]),(23,ar 3 1 1 rI x4.coefs),(24,E.cells [ms 23 1 1 rI x4.coefs,vI x4.const])] [0,20,21,22,23,24]) (fun j6 h=> ?_) ?_
  ·
   refine aQ h (fun c1 h=> ?_) (fun c1 h=> ?_)
   ·exact rk hC (rF 4 c1) (fr 17 7) [(23,vB false)] [] [] (lE h)
   ·obtain⟨x7,hx7,h⟩:=bd h
    exact rk hC [oT c1,oT c1,oC [0] [] (bQ G hx7),oT c1,oT c1] (fr 17 7) [(23,vB (decide (x7.1=0)))] [(0,sR x7.2)] [(0,true)] (lE h)
  ·rintro⟨x8,x9,x10⟩ h
   refine aS h (fun c2 h=> ?_) (fun c2 h=> ?_)
   ·obtain⟨x11,hx11,h⟩:=bd h
    refine rq hC [oC [0] [] (bQ G hx11)] [7,24,25,26] [(7,vI x11.1)] [(0,sR x11.2)] [(0,true)] ?_
    obtain⟨x12,hx12,h⟩:=bd h
    refine rq hC [oC [0] [] (bQ G hx12)] [27,28,29] [(29,vB (decide (x12.1=0)))] [(0,sR x12.2)] [(0,true)] (aS h (fun c3 h=> ?_) (fun c3 h=> ?_))
    ·obtain⟨x13,hx13,h⟩:=bd h
     exact rk hC [oC [] [25] (nX G hx13)] [30,31] [] [(25,some (ar 3 1 1 rI x13.coefs)),(22,sc [ms 25 1 1 rI x13.coefs,vI x13.const])] [(25,true)] ⟨(x12.2.b,x12.2.p,x13.coefs,x13.const,x4.coefs,x4.const),h,((lk hC [.fz 23 [] [24],.fz 25 [] [22]] [] [] [(24,some (E.cells (aK x4))),(23,none),(22,some (E.cells (aK x13))),(25,none)] []).trans (lS))⟩
    ·obtain⟨x14,hx14,x15,hx15,x16,hx16,h⟩:=kG h
     exact rk hC [oC [] [25] (nX G hx14),oC [] [26] (cY G hx15),.z (.at 2),.z (.fz 25 [33] []),.z (.at 2),.z (.fz 26 [34] []),oC [] [27] (gZ G hx16)] (fr 32 4) [] [(25,none),(26,none),(27,some (ar 3 1 1 rI x16.coefs)),(24,sc [ms 27 1 1 rI x16.coefs,vI x16.const])] [(25,true),(26,true),(27,true)] ⟨(x12.2.b,x12.2.p,x2.coefs,x2.const,x16.coefs,x16.const),h,((lk hC [.fz 21 [] [22],.fz 27 [] [24]] [] [] [(22,some (E.cells (aK x2))),(21,none),(24,some (E.cells (aK x16))),(27,none)] []).trans (lS))⟩
   ·exact qk ⟨(x8,x9,x2.coefs,x2.const,x4.coefs,x4.const),h,((lk hC [.fz 21 [] [22],.fz 23 [] [24]] [] [] [(22,some (E.cells (aK x2))),(21,none),(24,some (E.cells (aK x4))),(23,none)] []).trans (lS))⟩
 ·rintro⟨x17,x18,x19,x20,x21,x22⟩ h
  refine rq hC [.z (.int 1),.z (.nat 25),.z (.int 1),.z (.nat 26),.z (.nat 27)] [8,36,37,38,39,40] [(8,V.ref 27 0)] [(25,some (ar 63 1 2 aA [(⟨x19,x20⟩:Affine)])),(26,some (ar 63 1 2 aA [(⟨x21,x22⟩:Affine)])),(27,sc [ms 25 1 2 aA [(⟨x19,x20⟩:Affine)],ms 26 1 2 aA [(⟨x21,x22⟩:Affine)]])] [(25,true),(26,true),(27,true)] ?_
  obtain⟨j23,hj23,h⟩:=R3 h
  refine n4 (γ:=Nat×Nat) (j:=j23) (r:=r) (fun x_ g_=>aX [(4,V.ref 20 0),(8,V.ref 27 0)] [(0,E.cells [vM rY x_.1,vI x_.2.1]),(20,E.cells [V.t T.nilS,V.t T.nilS]),(22,E.cells [vM rI x19,vI x20]),(24,E.cells [vM rI x21,vI x22]),(25,ar 63 g_.1 2 aA x_.2.2.1),(26,ar 63 g_.2 2 aA x_.2.2.2),(27,E.cells [ms 25 g_.1 2 aA x_.2.2.1,ms 26 g_.2 2 aA x_.2.2.2])] [0,20,21,22,23,24,25,26,27]) ?_ ?_
  ·
   obtain⟨x24,hx24,h⟩:=bd h
   refine rq hC [oC [0] [] (bQ G hx24)] [41,42] [(42,vI x24.1)] [(0,sR x24.2)] [(0,true)] (qb (rq hC [] [43,44] [(43,vB (decide (x24.1=0)))] [] [] (aS h (fun c4 h=> ?_) (fun c4 h=> ?_))))
   ·obtain⟨x25,hx25,x26,hx26,x27,hx27,h⟩:=kG h
    exact dk hC bF [.z (.int 0),oC [0] [] (bA G hx25),oC [] [28] (cY G hx26),.z (.at 4),.z (.fz 28 [50] []),.z (.int 0),oA (aP aA hx27),oQ (bT (r:=aA) 2 aU [(⟨x21,x22⟩:Affine)]),oQ (bT (r:=aA) 2 aU [x26])] (fr 45 9) [] [(0,sR x25.2),(28,none),(26,some (ar 63 2 2 aA x27)),(27,sc [ms 25 1 2 aA [(⟨x19,x20⟩:Affine)],ms 26 2 2 aA x27])] [(0,true),(28,true)] ⟨(x25.2.b,x25.2.p,[(⟨x19,x20⟩:Affine)],x27),(1,2),h,lS⟩
   ·refine rq hC [] [54,55] [(54,vB (decide (x24.1=1)))] [] [] (aS h (fun c5 h=> ?_) (fun c5 h=> ?_))
    ·obtain⟨x28,hx28,x29,hx29,x30,hx30,h⟩:=kG h
     exact dk hC bF [.z (.int 0),oC [0] [] (bA G hx28),oC [] [28] (cY G hx29),.z (.at 4),.z (.fz 28 [61] []),.z (.int 0),oA (aP aA hx30),oQ (bT (r:=aA) 2 aU [(⟨x19,x20⟩:Affine)]),oQ (bT (r:=aA) 2 aU [x29])] (fr 56 9) [] [(0,sR x28.2),(28,none),(25,some (ar 63 2 2 aA x30)),(27,sc [ms 25 2 2 aA x30,ms 26 1 2 aA [(⟨x21,x22⟩:Affine)]])] [(0,true),(28,true)] ⟨(x28.2.b,x28.2.p,x30,[(⟨x21,x22⟩:Affine)]),(2,1),h,lS⟩
    ·exact qk ⟨(x24.2.b,x24.2.p,[(⟨x19,x20⟩:Affine)],[(⟨x21,x22⟩:Affine)]),(1,1),h,lS⟩
  ·rintro⟨x31,x32,x33,x34⟩ ⟨g35,g36⟩ h
   subst hj23
   obtain rfl:=so h
   exact rq hC [.z (.at 2),.z (.fz 25 [] [27]),.z (.at 2),.z (.fz 26 [] [27])] [65] [] [(27,sc [vM aA x33,vM aA x34]),(25,none),(26,none),(20,sc [vM aA x33,vM aA x34])] [] (qr eW)
theorem aDw{r_a0}{r}(h:tI n r_a0=some r):VQ G 270 [eL r_a0] [V.ref 0 0] (ms 1 1 2 aC r.1) [eL r.2,ar 56 1 2 aC r.1]:=by
 unfold tI at h
 refine vq aN Tryz.func270 rfl fun w X β0 hC hg=> ?_
 refine rq hC [] [2] [] [] [] (rq hC [.z (.nat 20)] [3,5] [(3,ms 20 1 2 aC [])] [(20,some (ar 56 1 2 aC []))] [(20,true)] (qs ?_))
 obtain⟨x1,hx1,h⟩:=bd h
 refine rq hC [.z (.int 0),oC [0] [] (bA G hx1)] [4,6,7,8] [(4,vI x1.1)] [(0,sR x1.2)] [(0,true)] (qb (bC (γ:=Nat) h (fun x_ g_=>aX [(0,V.ref 0 0),(3,ms 20 g_ 2 aC x_.2.2.1),(4,vI x_.2.2.2)] [(0,E.cells [vM rY x_.1,vI x_.2.1]),(20,ar 56 g_ 2 aC x_.2.2.1)] [0,20]) 1 (lS) ?_))
 rintro again7 ⟨x2,x3,x4,x5⟩ g6 h
 refine qs (rq hC [] [9,10] [(10,vB (decide ((0:Int)<x5)))] [] [] (aS h (fun c1 h=> ?_) (fun c1 h=> ?_)))
 ·refine qk (qs (qb ?_))
  obtain⟨x8,hx8,x9,hx9,h⟩:=cP h
  exact rk hC [oN aC x4,oC [0] [] (aDx G hx8),.z (.int 0),oA (aP aC hx9),oQ (bT (r:=aC) 2 b8 x4),oQ (bT (r:=aC) 2 b8 [x8.1])] [3,13,14,15,16,17,18,19] [(3,ms 20 (g6+1) 2 aC x9)] [(0,sR x8.2),(20,some (ar 56 (g6+1) 2 aC x9))] [(0,true)] (rk hC [] [4,11,12] [(4,vI (wr (x5-1)))] [] [] ⟨(x8.2.b,x8.2.p,x9,wr (x5-1)),(g6+1),h,lS⟩)
 ·obtain rfl:=so h
  exact cQ (rq hC [] [2,20] [(2,ms 20 g6 2 aC x4)] [] [] (qw (lk hC [.ren 2 20 1] [2] [(2,ms 1 1 2 aC x4)] [(1,some (ar 56 1 2 aC x4)),(20,none)] [(1,true)]) (qr eW)))
theorem O4{r_a0}{depth}{r}(h:oH n r_a0 depth=some r):VQ G 296 [eL r_a0] [V.ref 0 0,vI depth] (V.agg (cB r.1)) [eL r.2]:=by
 unfold oH at h
 refine vq aN Tryz.func296 rfl fun w X β0 hC hg=> ?_
 refine rq hC [.z (.nat 20)] [4] [(4,V.ref 20 0)] [(20,sc [vS [],V.t T.nilS])] [(20,true)] ?_
 obtain⟨x1,hx1,h⟩:=bd h
 refine rq hC [.z (.int 0),oC [0] [] (nF G hx1),.z (.nat 21)] [5,10,11,12,13] [(5,V.ref 21 0)] [(0,sR x1.2),(21,sc [vS x1.1,V.t T.nilS])] [(0,true),(21,true)] (rq hC [] [6] [(6,vI 1)] [] [] (vj h (fun x_=>aX [(0,V.ref 0 0),(1,vI depth),(4,V.ref 20 0),(5,V.ref 21 0),(6,vI x_)] [(0,eL x1.2),(20,E.cells [vS [],V.t T.nilS]),(21,E.cells [vS x1.1,V.t T.nilS])] [0,20,21]) (fun j2 h=> ?_) (fun x3 h=> ?_)))
 ·
  refine rq hC [] [14,15,16] [(16,vB (decide (x1.1=[66])))] [] [] (aS h (fun c1 h=> ?_) (fun c1 h=> ?_))
  ·exact rk hC [] [6] [(6,vI 2)] [] [] (lE h)
  ·exact qk (lE h)
 ·refine qs (rq hC [] [7] [(7,vI 0)] [] [] (qb (qw (lk hC [.growc 21 1 22 63] [] [] [(22,some (ar 63 1 2 aA [])),(21,sc [vS x1.1,ms 22 1 2 aA []])] [(22,true)]) (bC (γ:=Nat) h (fun x_ g_=>aX [(0,V.ref 0 0),(1,vI depth),(4,V.ref 20 0),(5,V.ref 21 0),(6,vI x3),(7,vI x_.2.2.2)] [(0,E.cells [vM rY x_.1,vI x_.2.1]),(20,E.cells [vS [],V.t T.nilS]),(21,E.cells [vS x1.1,ms 22 g_ 2 aA x_.2.2.1]),(22,ar 63 g_ 2 aA x_.2.2.1)] [0,20,21,22]) 1 (lS) ?_))))
  rintro again9 ⟨x4,x5,x6,x7⟩ g8 h
  refine qs (rq hC [] [17,18,19] [(19,vB (decide (x7<x3)))] [] [] (aS h (fun c2 h=> ?_) (fun c2 h=> ?_)))
  ·refine qk (qs (qb ?_))
   obtain⟨x10,hx10,x11,hx11,h⟩:=cP h
   refine rq hC [.z (.int 0),oC [0] [] (bA G hx10),oC [] [23] (cY G hx11),.z (.nat 24)] [8,22,23,24,25] [(8,V.ref 24 0)] [(0,sR x10.2),(23,some (ar 3 1 1 rI x11.coefs)),(24,sc [ms 23 1 1 rI x11.coefs,vI x11.const])] [(0,true),(23,true),(24,true)] (vj h (fun x_=>aX [(0,V.ref 0 0),(1,vI depth),(4,V.ref 20 0),(5,V.ref 21 0),(6,vI x3),(7,vI x7),(8,V.ref 24 0)] [(0,E.cells [vM rY x_.1,vI x_.2.1]),(20,E.cells [vS [],V.t T.nilS]),(21,E.cells [vS x1.1,ms 22 g8 2 aA x6]),(22,ar 63 g8 2 aA x6),(24,E.cells [vM rI x_.2.2.1,vI x_.2.2.2])] [0,20,21,22,23,24]) (fun j12 h=> ?_) ?_)
   ·
    refine vj h (fun x_=>aX [(0,V.ref 0 0),(1,vI depth),(4,V.ref 20 0),(5,V.ref 21 0),(6,vI x3),(7,vI x7),(8,V.ref 24 0),(32,vB x_.2.2)] [(0,E.cells [vM rY x_.1,vI x_.2.1]),(20,E.cells [vS [],V.t T.nilS]),(21,E.cells [vS x1.1,ms 22 g8 2 aA x6]),(22,ar 63 g8 2 aA x6),(23,ar 3 1 1 rI x11.coefs),(24,E.cells [ms 23 1 1 rI x11.coefs,vI x11.const])] [0,20,21,22,23,24]) (fun j13 h=> ?_) ?_
    ·
     refine aQ h (fun c3 h=> ?_) (fun c3 h=> ?_)
     ·exact rk hC (rF 4 c3) (fr 26 7) [(32,vB false)] [] [] (lE h)
     ·obtain⟨x14,hx14,h⟩:=bd h
      exact rk hC [oT c3,oT c3,oC [0] [] (bQ G hx14),oT c3,oT c3] (fr 26 7) [(32,vB (decide ((0:Int)<x14.1)))] [(0,sR x14.2)] [(0,true)] (lE h)
    ·rintro⟨x15,x16,x17⟩ h
     refine aS h (fun c4 h=> ?_) (fun c4 h=> ?_)
     ·obtain⟨x18,hx18,h⟩:=bd h
      refine rq hC [oC [0] [] (bQ G hx18)] [9,33,34,35] [(9,vI x18.1)] [(0,sR x18.2)] [(0,true)] ?_
      obtain⟨x19,hx19,x20,hx20,x21,hx21,h⟩:=kG h
      obtain⟨x22,hx22,x23,hx23,h⟩:=cP h
      exact rk hC [oC [] [25] (nX G hx19),.z (.int 0),oC [0] [] (bA G hx20),.z (.int 0),oC [0] [] (bA G hx21),oC [] [26] (cY G hx22),.z (.at 2),.z (.fz 25 [37] []),.z (.at 2),.z (.fz 26 [44] []),oC [] [27] (gZ G hx23)] (fr 36 10) [] [(25,none),(0,sR x21.2),(26,none),(27,some (ar 3 1 1 rI x23.coefs)),(24,sc [ms 27 1 1 rI x23.coefs,vI x23.const])] [(25,true),(0,true),(0,true),(26,true),(27,true)] ⟨(x21.2.b,x21.2.p,x23.coefs,x23.const),h,((lk hC [.fz 27 [] [24]] [] [] [(24,some (E.cells (aK x23))),(27,none)] []).trans (lS))⟩
     ·exact qk ⟨(x15,x16,x11.coefs,x11.const),h,((lk hC [.fz 23 [] [24]] [] [] [(24,some (E.cells (aK x11))),(23,none)] []).trans (lS))⟩
   ·rintro⟨x24,x25,x26,x27⟩ h
    obtain⟨x28,hx28,h⟩:=bd h
    exact rk hC [.z (.int 0),oA (aP aA hx28),oQ (bT (r:=aA) 2 aU x6),oQ (bT (r:=aA) 2 aU [(⟨x26,x27⟩:Affine)])] (fr 46 6) [] [(22,some (ar 63 (g8+1) 2 aA x28)),(21,sc [vS x1.1,ms 22 (g8+1) 2 aA x28])] [] (rk hC [] [7,20,21] [(7,vI (wr (x7+1)))] [] [] ⟨(x24,x25,x28,wr (x7+1)),(g8+1),h,lS⟩)
  ·obtain rfl:=so h
   exact cQ (rq hC [.z (.at 2),.z (.fz 22 [] [21])] [52] [] [(21,sc [vS x1.1,vM aA x6]),(22,none),(20,sc [vS x1.1,vM aA x6])] [] (qr eW))
theorem aDA{r_a0}{depth}{r}(h:qH n r_a0 depth=some r):VQ G 319 [eL r_a0] [V.ref 0 0,vI depth] (V.agg (aK r.1)) [eL r.2]:=by
 unfold qH at h
 refine vq aN Tryz.func319 rfl fun w X β0 hC hg=> ?_
 refine rq hC [.z (.nat 20)] [4] [(4,V.ref 20 0)] [(20,sc [V.t T.nilS,vI 0])] [(20,true)] ?_
 obtain⟨x1,hx1,x2,hx2,h⟩:=cP h
 refine rq hC [.z (.int 0),oC [0] [] (bA G hx1),oC [] [21] (cY G hx2),.z (.nat 22)] [5,7,8,9,10] [(5,V.ref 22 0)] [(0,sR x1.2),(21,some (ar 3 1 1 rI x2.coefs)),(22,sc [ms 21 1 1 rI x2.coefs,vI x2.const])] [(0,true),(21,true),(22,true)] (qs (rq hC [] [6] [(6,vI 0)] [] [] (qb (bC (γ:=Nat) h (fun x_ g_=>aX [(0,V.ref 0 0),(1,vI depth),(4,V.ref 20 0),(5,V.ref 22 0),(6,vI x_.2.2.2)] [(0,E.cells [vM rY x_.1,vI x_.2.1]),(20,E.cells [V.t T.nilS,vI 0]),(21,ar 3 g_ 1 rI x_.2.2.1),(22,E.cells [ms 21 g_ 1 rI x_.2.2.1,vI x2.const])] [0,20,21,22]) 1 (lS) ?_))))
 rintro again8 ⟨x3,x4,x5,x6⟩ g7 h
 refine qs (rq hC [] [11,12,13] [(13,vB (decide (x6<depth)))] [] [] (aS h (fun c1 h=> ?_) (fun c1 h=> ?_)))
 ·refine qk (qs (qb ?_))
  obtain⟨x9,hx9,x10,hx10,x11,hx11,h⟩:=kG h
  exact dk hC bF [.z (.int 0),oC [0] [] (bA G hx9),oQ (kF rI hx10),oX rI hx10,.z (.rows (List.map rI x11)),oQ (str rI hx11)] (fr 16 7) [] [(0,sR x9.2),(21,some (ar 3 g7 1 rI x11))] [(0,true)] (qw (zD hC [.lenc 22 0 (List.map rI x11).length] [] [] [(22,sc [ms 21 g7 1 rI x11,vI x2.const])] [] (a1 (iQ rI hx11)) (by kernel_rfl)) (rk hC [] [6,14,15] [(6,vI (wr (x6+1)))] [] [] ⟨(x9.2.b,x9.2.p,x11,wr (x6+1)),g7,h,lS⟩))
 ·obtain rfl:=so h
  exact cQ (rq hC [.z (.at 2),.z (.fz 21 [] [22])] [23] [] [(22,sc [vM rI x5,vI x2.const]),(21,none),(20,sc [vM rI x5,vI x2.const])] [] (qr eW))
theorem aBP(G:GS): ∀(n:Nat) (r_a0:L16Rd) (depth:Int) (levels:Int) {r:Expr×L16Rd} (h:s_l3Value n r_a0 depth levels=some r),VQ G 297 [eL r_a0] [V.ref 0 0,vI depth,vI levels] (V.agg (cR r.1)) [eL r.2]:=by
 intro n
 induction n with
 |zero=>intro r_a0 depth levels r h;rw [s_l3Value.eq_def] at h;cases h
 |succ n ih=>
  intro r_a0 depth levels r h
  rw [s_l3Value.eq_def] at h;dsimp only at h
  refine vq aN Tryz.func297 rfl fun w X β0 hC hg=> ?_
  refine rq hC [.z (.nat 20)] [6] [(6,V.ref 20 0)] [(20,sc [vI 0,vI 0,V.t T.nilS,vI 0,vS [],V.t T.nilS,V.t T.nilS])] [(20,true)] (qs (vj h (fun x_=>aX [(0,V.ref 0 0),(1,vI depth),(2,vI levels),(6,V.ref 20 0),(15,vB x_.2.2)] [(0,E.cells [vM rY x_.1,vI x_.2.1]),(20,E.cells [vI 0,vI 0,V.t T.nilS,vI 0,vS [],V.t T.nilS,V.t T.nilS])] [0,20]) (fun j1 h=> ?_) ?_))
  ·
   refine aQ h (fun c1 h=> ?_) (fun c1 h=> ?_)
   ·obtain⟨x2,hx2,h⟩:=bd h
    exact rk hC [oF c1,oF c1,oC [0] [] (bQ G hx2),oF c1,oF c1] (fr 9 7) [(15,vB (decide (x2.1=0)))] [(0,sR x2.2)] [(0,true)] (lE h)
   ·exact rk hC (rT 4 c1) (fr 9 7) [(15,vB true)] [] [] (lE h)
  ·rintro⟨x3,x4,x5⟩ h
   refine aS h (fun c2 h=> ?_) (fun c2 h=> ?_)
   ·refine qs ?_
    obtain⟨x6,hx6,h⟩:=bd h
    refine rq hC [oC [0] [] (bQ G hx6)] [16,17] [(17,vI x6.1)] [(0,sR x6.2)] [(0,true)] (qb (rq hC [] [18,19] [(18,vB (decide (x6.1=0)))] [] [] (aS h (fun c3 h=> ?_) (fun c3 h=> ?_))))
    ·obtain⟨x7,hx7,h⟩:=bd h
     obtain rfl:=so h
     exact rq hC [.z (.int 0),oC [0] [] (bA G hx7)] (fr 20 4) [] [(0,sR x7.2),(20,sc [vI 1,vI x7.1,V.t T.nilS,vI 0,vS [],V.t T.nilS,V.t T.nilS])] [(0,true)] (qr eW)
    ·refine rq hC [] [24,25] [(24,vB (decide (x6.1=1)))] [] [] (aS h (fun c4 h=> ?_) (fun c4 h=> ?_))
     ·obtain⟨x8,hx8,h⟩:=bd h
      obtain rfl:=so h
      exact rq hC [oC [0] [] (aDA G hx8)] (fr 26 4) [] [(0,sR x8.2),(20,sc [vI 2,vI 0,vM rI x8.1.coefs,vI x8.1.const,vS [],V.t T.nilS,V.t T.nilS])] [(0,true)] (qr eW)
     ·refine qk ?_
      obtain⟨x9,hx9,h⟩:=bd h
      obtain rfl:=so h
      exact rq hC [oC [0] [] (O4 G hx9)] (fr 30 4) [] [(0,sR x9.2),(20,sc [vI 3,vI 0,V.t T.nilS,vI 0,vS x9.1.array,vM aA x9.1.subs,V.t T.nilS])] [(0,true)] (qr eW)
   ·refine qk ?_
    obtain⟨x10,hx10,h⟩:=bd h
    refine rq hC [.z (.int 0),oC [0] [] (bA G hx10),.z (.nat 21)] [7,34,35,36,37] [(7,V.ref 21 0)] [(0,sR x10.2),(21,sc [vI x10.1,vI 0,V.t T.nilS,vI 0,vS [],V.t T.nilS,V.t T.nilS])] [(0,true),(21,true)] (qs (rq hC [] [8] [(8,vI 0)] [] [] (qb (qw (lk hC [.growc 21 6 22 84] [] [] [(22,some (ar 84 1 7 aI [])),(21,sc [vI x10.1,vI 0,V.t T.nilS,vI 0,vS [],V.t T.nilS,ms 22 1 7 aI []])] [(22,true)]) (bC (γ:=Nat) h (fun x_ g_=>aX [(0,V.ref 0 0),(1,vI depth),(2,vI levels),(6,V.ref 20 0),(7,V.ref 21 0),(8,vI x_.2.2.2)] [(0,E.cells [vM rY x_.1,vI x_.2.1]),(20,E.cells [vI 0,vI 0,V.t T.nilS,vI 0,vS [],V.t T.nilS,V.t T.nilS]),(21,E.cells [vI x10.1,vI 0,V.t T.nilS,vI 0,vS [],V.t T.nilS,ms 22 g_ 7 aI x_.2.2.1]),(22,ar 84 g_ 7 aI x_.2.2.1)] [0,20,21,22]) 1 (lS) ?_)))))
    rintro again16 ⟨x11,x12,x13,x14⟩ g15 h
    refine qs (rq hC [] [38,39] [(39,vB (decide (x14<2)))] [] [] (aS h (fun c5 h=> ?_) (fun c5 h=> ?_)))
    ·refine qk (qs (qb ?_))
     obtain⟨x17,hx17,x18,hx18,h⟩:=cP h
     exact dk hC bF [oC [0] [] (ih (⟨x11,x12⟩:L16Rd) depth (wr (levels-1)) hx17),.z (.int 2),.z (.rows (List.map aI [x17.1])),oQ (rR x17.1),oA (aP aI hx18),oQ (bT (r:=aI) 7 dX x13),oQ (bT (r:=aI) 7 dX [x17.1])] (fr 42 10) [] [(0,sR x17.2),(22,some (ar 84 (g15+1) 7 aI x18)),(21,sc [vI x10.1,vI 0,V.t T.nilS,vI 0,vS [],V.t T.nilS,ms 22 (g15+1) 7 aI x18])] [(0,true)] (rk hC [] [8,40,41] [(8,vI (wr (x14+1)))] [] [] ⟨(x17.2.b,x17.2.p,x18,wr (x14+1)),(g15+1),h,lS⟩)
    ·obtain rfl:=so h
     exact cQ (rq hC [.z (.at 2),.z (.fz 22 [] [21])] [52] [] [(21,sc [vI x10.1,vI 0,V.t T.nilS,vI 0,vS [],V.t T.nilS,vM aI x13]),(22,none),(20,sc [vI x10.1,vI 0,V.t T.nilS,vI 0,vS [],V.t T.nilS,vM aI x13])] [] (qr eW))
theorem aDt{r_a0}{depth}{r}(h:tG n r_a0 depth=some r):VQ G 271 [eL r_a0] [V.ref 0 0,vI depth] (V.agg (cO r.1)) [eL r.2]:=by
 unfold tG at h
 refine vq aN Tryz.func271 rfl fun w X β0 hC hg=> ?_
 refine rq hC [.z (.nat 20)] [4] [(4,V.ref 20 0)] [(20,sc [vS [],V.t T.nilS,vI 0,vI 0,V.t T.nilS,vI 0,vS [],V.t T.nilS,V.t T.nilS])] [(20,true)] ?_
 obtain⟨x1,hx1,x2,hx2,x3,hx3,h⟩:=kG h
 refine rq hC [oC [0] [] (O4 G hx1),.z (.int 0),oC [0] [] (bA G hx2),oC [0] [] (aBP G n x2.2 depth x2.1 hx3),.z (.nat 21)] (fr 5 11) [(5,V.ref 21 0)] [(0,sR x3.2),(21,sc [vS x1.1.array,vM aA x1.1.subs,vI x3.1.kind,vI x3.1.num,vM rI x3.1.index.coefs,vI x3.1.index.const,vS x3.1.read.array,vM aA x3.1.read.subs,vM aI x3.1.kids])] [(0,true),(0,true),(0,true),(21,true)] (qs ?_)
 obtain⟨x4,hx4,h⟩:=bd h
 refine rq hC [oV (pR G hx4)] [16,17,18] [(18,vB x4)] [] [] (aS h (fun c1 h=> ?_) (fun c1 h=> ?_))
 ·obtain rfl:=so h
  exact rq hC [] [19] [] [(20,sc [vS x1.1.array,vM aA x1.1.subs,vI x3.1.kind,vI x3.1.num,vM rI x3.1.index.coefs,vI x3.1.index.const,vS x3.1.read.array,vM aA x3.1.read.subs,vM aI x3.1.kids])] [] (qr eW)
 ·refine qk ?_
  obtain⟨x5,hx5,h⟩:=bd h
  obtain rfl:=so h
  exact rq hC [oC [] [22] (l7 G n hx5),.z (.at 5),.z (.fz 22 [20] []),.z (.int 0)] (fr 20 5) [] [(22,none),(20,sc [vS [65],vM aA [x5],vI 1,vI 1,V.t T.nilS,vI 0,vS [],V.t T.nilS,V.t T.nilS])] [(22,true)] (qr eW)
theorem aBZ{sizes}{r}(h:uJ n sizes=some r):VQ G 272 [] [vM rI sizes] (V.tup [ms 0 1 2 aC r.1,vB r.2]) [ar 56 1 2 aC r.1]:=by
 unfold uJ at h
 refine vq aN Tryz.func272 rfl fun w X β0 hC hg=> ?_
 refine rq hC [] [2,3] [] [] [] (rq hC [.z (.nat 20)] [4,6] [(4,ms 20 1 2 aC [])] [(20,some (ar 56 1 2 aC []))] [(20,true)] (qs (rq hC [oN rI sizes] [7,8,9] [(9,vB (decide ((4:Int)<(sizes.length:Int))))] [] [] (aS h (fun c1 h=> ?_) (fun c1 h=> ?_)))))
 ·obtain rfl:=so h
  exact rq hC [] [2,3,10] [(2,ms 20 1 2 aC []),(3,vB false)] [] [] (qw (lk hC [.ren 2 20 0] [2] [(2,ms 0 1 2 aC [])] [(0,some (ar 56 1 2 aC [])),(20,none)] [(0,true)]) (qr eW))
 ·refine qk (qs (rq hC [] [5] [(5,vI 0)] [] [] (qb (bC (γ:=Nat) h (fun x_ g_=>aX [(0,vM rI sizes),(4,ms 20 g_ 2 aC x_.1),(5,vI x_.2)] [(20,ar 56 g_ 2 aC x_.1)] [20]) 1 (lS) ?_))))
  rintro again4 ⟨x1,x2⟩ g3 h
  refine qs (rq hC [oN rI sizes] (fr 11 4) [(14,vB (decide (x2<(sizes.length:Int))))] [] [] (aS h (fun c2 h=> ?_) (fun c2 h=> ?_)))
  ·refine qk (qs (qb (qs (vj h (fun x_=>aX [(0,vM rI sizes),(4,ms 20 g3 2 aC x1),(5,vI x2),(28,vB x_)] [(20,ar 56 g3 2 aC x1)] [20]) (fun j5 h=> ?_) (fun x7 h=> ?_)))))
   ·
    obtain⟨x6,hx6,h⟩:=bd h
    refine aQ h (fun c3 h=> ?_) (fun c3 h=> ?_)
    ·exact rk hC ([oR rI hx6]++rF 3 c3++[oR rI hx6]++rF 3 c3) (fr 17 12) [(28,vB (decide ((99:Int)<x6)))] [] [] (lE h)
    ·exact rk hC ([oR rI hx6]++rT 6 c3) (fr 17 12) [(28,vB true)] [] [] (lE h)
   ·refine aS h (fun c4 h=> ?_) (fun c4 h=> ?_)
    ·obtain rfl:=so h
     exact rq hC [.z (.nat 21)] [2,3,29] [(2,ms 21 1 2 aC []),(3,vB false)] [(21,some (ar 56 1 2 aC []))] [(21,true)] (qw (lk hC [.ren 2 21 0] [2] [(2,ms 0 1 2 aC [])] [(0,some (ar 56 1 2 aC [])),(21,none)] [(0,true)]) (qr eW))
    ·refine qk ?_
     obtain⟨x8,hx8,x9,hx9,x10,hx10,h⟩:=kG h
     obtain⟨x11,hx11,h⟩:=bd h
     exact dk hC bF [oC [] [21] (l7 G n hx8),.z (.at 11),.z (.fz 21 [31] []),.z (.int 0),oR rI hx9,oC [] [22] (cY G hx10),.z (.at 5),.z (.fz 22 [37] []),.z (.int 0),.z (.int 0),oA (aP aC hx11),oQ (bT (r:=aC) 2 b8 x1),oQ (bT (r:=aC) 2 b8 [(⟨[x8],[x10]⟩:Loop)])] [4,30,31,32,33,34,35,36,37,38,39,40,41] [(4,ms 20 (g3+1) 2 aC x11)] [(21,none),(22,none),(20,some (ar 56 (g3+1) 2 aC x11))] [(21,true),(22,true)] (rk hC [] [5,15,16] [(5,vI (wr (x2+1)))] [] [] ⟨(x11,wr (x2+1)),(g3+1),h,lS⟩)
  ·obtain rfl:=so h
   exact cQ (rq hC [] [2,3,42] [(2,ms 20 g3 2 aC x1),(3,vB true)] [] [] (qw (lk hC [.ren 2 20 0] [2] [(2,ms 0 1 2 aC x1)] [(0,some (ar 56 1 2 aC x1)),(20,none)] [(0,true)]) (qr eW)))
theorem aDs{r_a0}{r}(h:tF n r_a0=some r):VQ G 233 [eL r_a0] [V.ref 0 0] (V.agg (lD r.1)) [eL r.2]:=by
 unfold tF at h
 refine vq aN Tryz.func233 rfl fun w X β0 hC hg=> ?_
 refine rq hC [.z (.nat 20)] [2] [(2,V.ref 20 0)] [(20,sc [V.t T.nilS,V.t T.nilS])] [(20,true)] (qs (rq hC [] [3] [(3,vI 0)] [] [] (qb (jF h (fun x_=>aX [(0,V.ref 0 0),(2,V.ref 20 0),(3,vI x_.2.2)] [(0,E.cells [vM rY x_.1,vI x_.2.1]),(20,E.cells [V.t T.nilS,V.t T.nilS])] [0,20]) lS ?_))))
 rintro again4 ⟨x1,x2,x3⟩ h
 refine qs (rq hC [] [16,17] [(17,vB (decide (x3<4)))] [] [] (aS h (fun c1 h=> ?_) (fun c1 h=> ?_)))
 ·refine qk (qs (qb ?_))
  obtain⟨x5,hx5,h⟩:=bd h
  refine rq hC [oC [0] [21] (aDw G hx5),.z (.nat 22)] [4,20,21,22] [(4,V.ref 22 0)] [(21,some (ar 56 1 2 aC x5.1)),(0,sR x5.2),(22,sc [ms 21 1 2 aC x5.1,V.t T.nilS])] [(0,true),(21,true),(22,true)] (qs ?_)
  obtain⟨x6,hx6,h⟩:=bd h
  refine rq hC [.z (.int 0),oC [0] [] (bA G hx6)] [5,23,24,25] [(5,vI x6.1)] [(0,sR x6.2)] [(0,true)] (qb (qw (lk hC [.fz 21 [] [22]] [] [] [(22,sc [vM aC x5.1,V.t T.nilS]),(21,none)] []) (qw (lk hC [.growc 22 1 23 86] [] [] [(23,some (ar 86 1 9 aG [])),(22,sc [vM aC x5.1,ms 23 1 9 aG []])] [(23,true)]) (bC (γ:=Nat) h (fun x_ g_=>aX [(0,V.ref 0 0),(2,V.ref 20 0),(3,vI x3),(4,V.ref 22 0),(5,vI x_.2.2.2.2)] [(0,E.cells [vM rY x_.1,vI x_.2.1]),(20,E.cells [V.t T.nilS,V.t T.nilS]),(22,E.cells [vM aC x_.2.2.1,ms 23 g_ 9 aG x_.2.2.2.1]),(23,ar 86 g_ 9 aG x_.2.2.2.1)] [0,20,21,22,23]) 1 (lS) ?_))))
  rintro again13 ⟨x7,x8,x9,x10,x11⟩ g12 h
  refine qs (rq hC [] [26,27] [(27,vB (decide ((0:Int)<x11)))] [] [] (aS h (fun c2 h=> ?_) (fun c2 h=> ?_)))
  ·refine qk ?_
   obtain⟨j14,hj14,h⟩:=R3 h
   refine n4 (γ:=Nat) (j:=j14) (r:=r) (fun x_ g_=>aX [(0,V.ref 0 0),(2,V.ref 20 0),(3,vI x3),(4,V.ref 22 0),(5,vI x11)] [(0,E.cells [vM rY x_.1,vI x_.2.1]),(20,E.cells [V.t T.nilS,V.t T.nilS]),(22,E.cells [vM aC x9,ms 23 g_ 9 aG x_.2.2]),(23,ar 86 g_ 9 aG x_.2.2)] [0,20,21,22,23]) ?_ ?_
   ·
    refine qb (rq hC [] [6] [(6,vI 0)] [] [] (qb (jF h (fun x_=>aX [(0,V.ref 0 0),(2,V.ref 20 0),(3,vI x3),(4,V.ref 22 0),(5,vI x11),(6,vI x_.2.2)] [(0,E.cells [vM rY x_.1,vI x_.2.1]),(20,E.cells [V.t T.nilS,V.t T.nilS]),(22,E.cells [vM aC x9,ms 23 g12 9 aG x10]),(23,ar 86 g12 9 aG x10)] [0,20,21,22,23]) lS ?_)))
    rintro again18 ⟨x15,x16,x17⟩ h
    refine qs (rq hC [] [30,31] [(31,vB (decide (x17<5)))] [] [] (aS h (fun c3 h=> ?_) (fun c3 h=> ?_)))
    ·refine qk (qs (qb ?_))
     obtain⟨x19,hx19,h⟩:=bd h
     refine rq hC [oN aC x9,oC [0] [] (aDt G hx19),.z (.nat 24)] [7,34,35,36,37,38] [(7,V.ref 24 0)] [(0,sR x19.2),(24,some (E.cells (cO x19.1)))] [(0,true),(24,true)] (qs ?_)
     obtain⟨x20,hx20,x21,hx21,h⟩:=cP h
     refine dk hC bF [oV (rU G n hx20),.z (.int 1),.z (.nat 25),.z (.at 7),.z (.fz 25 [44] []),oV (wH G hx21)] [8,9,39,40,41,42,43,44,45,46,47,48] [(9,vB x21.2)] [(25,none)] [(25,true)] (rq hC [] [49] [(49,vB x21.2)] [] [] (aS h (fun c4 h=> ?_) (fun c4 h=> ?_)))
     ·obtain⟨x22,hx22,h⟩:=bd h
      exact rq hC [.z (.int 0),oA (aP aG hx22),oQ (bT (r:=aG) 9 dW x10),oQ (bT (r:=aG) 9 dW [x19.1])] (fr 50 6) [] [(23,some (ar 86 (g12+1) 9 aG x22)),(22,sc [vM aC x9,ms 23 (g12+1) 9 aG x22])] [] (cQ ⟨(x19.2.b,x19.2.p,x22),(g12+1),h,lS⟩)
     ·exact qk (rk hC [] [6,32,33] [(6,vI (wr (x17+1)))] [] [] (lE h))
    ·exact cQ ⟨(x15,x16,x10),g12,h,lS⟩
   ·rintro⟨x23,x24,x25⟩ g26 h
    subst hj14
    exact rk hC [] [5,28,29] [(5,vI (wr (x11-1)))] [] [] ⟨(x23,x24,x9,x25,wr (x11-1)),g26,h,lS⟩
  ·refine cQ (qs ?_)
   obtain⟨x27,hx27,x28,hx28,h⟩:=cP h
   refine dk hC bF [oV (rU G n hx27),.z (.at 7),.z (.fz 23 [] [22]),oV (wH G hx28)] [10,11,56,57,58,59,60,61] [(10,vI x28.1),(11,vB x28.2)] [(22,sc [vM aC x9,vM aG x10]),(23,none)] [] (vj h (fun x_=>aX [(0,V.ref 0 0),(2,V.ref 20 0),(3,vI x3),(4,V.ref 22 0),(66,vB x_)] [(0,E.cells [vM rY x7,vI x8]),(20,E.cells [V.t T.nilS,V.t T.nilS]),(22,E.cells [vM aC x9,vM aG x10])] [0,20,21,22,23]) (fun j29 h=> ?_) (fun x30 h=> ?_))
   ·
    refine aQ h (fun c5 h=> ?_) (fun c5 h=> ?_)
    ·exact rk hC (rF 3 c5) (fr 62 5) [(66,vB false)] [] [] (lE h)
    ·exact rk hC (rT 3 c5) (fr 62 5) [(66,vB (decide (x28.1≤40)))] [] [] (lE h)
   ·refine aS h (fun c6 h=> ?_) (fun c6 h=> ?_)
    ·obtain rfl:=so h
     exact rq hC [] [67] [] [(20,sc [vM aC x9,vM aG x10])] [] (qr eW)
    ·exact qk (rk hC [] [3,18,19] [(3,vI (wr (x3+1)))] [] [] (lE h))
 ·refine cQ ?_
  obtain⟨x31,hx31,h⟩:=bd h
  refine rq hC [oV (vH G hx31),.z (.nat 21)] [12,13,68,69,70,71] [(12,V.ref 21 0)] [(21,some (E.cells (cO x31.1)))] [(21,true)] ?_
  obtain⟨x32,hx32,h⟩:=bd h
  obtain rfl:=so h
  exact rq hC [.z (.int 0),oC [] [22] (aBZ G hx32)] [14,15,72,73,74,75,76] [(14,ms 22 1 2 aC x32.1)] [(22,some (ar 56 1 2 aC x32.1))] [(22,true)] (rq hC [.z (.int 1),.z (.nat 23)] (fr 77 4) [] [(23,some (ar 86 1 9 aG [x31.1])),(20,sc [ms 22 1 2 aC x32.1,ms 23 1 9 aG [x31.1]])] [(23,true)] (qw (lk hC [.fz 22 [14] [20]] [14] [(14,vM aC x32.1)] [(20,sc [vM aC x32.1,ms 23 1 9 aG [x31.1]]),(22,none)] []) (qw (lk hC [.fz 23 [] [20]] [] [] [(20,sc [vM aC x32.1,vM aG [x31.1]]),(23,none)] []) (qr eW))))
theorem aDr{r_a0}{r}(h:tE n r_a0=some r):VQ G 183 [eL r_a0] [V.ref 0 0] (V.agg (bH r.1)) [eL r.2]:=by
 unfold tE at h
 refine vq aN Tryz.func183 rfl fun w X β0 hC hg=> ?_
 refine rq hC [.z (.nat 20)] [2] [(2,V.ref 20 0)] [(20,sc [V.t T.nilS,V.t T.nilS])] [(20,true)] ?_
 obtain⟨x1,hx1,h⟩:=bd h
 refine rq hC [oV (rU G n hx1),.z (.nat 21)] [3,5,6] [(3,V.ref 21 0)] [(21,sc [vM aJ x1,V.t T.nilS])] [(21,true)] (qs ?_)
 obtain⟨x2,hx2,h⟩:=bd h
 refine rq hC [.z (.int 0),oC [0] [] (bA G hx2)] [4,7,8,9] [(4,vI x2.1)] [(0,sR x2.2)] [(0,true)] (qb (qw (lk hC [.growc 21 1 22 60] [] [] [(22,some (ar 60 1 2 aD [])),(21,sc [vM aJ x1,ms 22 1 2 aD []])] [(22,true)]) (bC (γ:=Nat) h (fun x_ g_=>aX [(0,V.ref 0 0),(2,V.ref 20 0),(3,V.ref 21 0),(4,vI x_.2.2.2)] [(0,E.cells [vM rY x_.1,vI x_.2.1]),(20,E.cells [V.t T.nilS,V.t T.nilS]),(21,E.cells [vM aJ x1,ms 22 g_ 2 aD x_.2.2.1]),(22,ar 60 g_ 2 aD x_.2.2.1)] [0,20,21,22]) 1 (lS) ?_)))
 rintro again8 ⟨x3,x4,x5,x6⟩ g7 h
 refine qs (rq hC [] [10,11] [(11,vB (decide ((0:Int)<x6)))] [] [] (aS h (fun c1 h=> ?_) (fun c1 h=> ?_)))
 ·refine qk (qs (qb ?_))
  obtain⟨x9,hx9,x10,hx10,h⟩:=cP h
  exact dk hC bF [oC [0] [] (aDs G hx9),.z (.int 0),oA (aP aD hx10),oQ (bT (r:=aD) 2 b7 x5),oQ (bT (r:=aD) 2 b7 [x9.1])] (fr 14 7) [] [(0,sR x9.2),(22,some (ar 60 (g7+1) 2 aD x10)),(21,sc [vM aJ x1,ms 22 (g7+1) 2 aD x10])] [(0,true)] (rk hC [] [4,12,13] [(4,vI (wr (x6-1)))] [] [] ⟨(x9.2.b,x9.2.p,x10,wr (x6-1)),(g7+1),h,lS⟩)
 ·refine cQ (qs ?_)
  obtain⟨x11,hx11,h⟩:=bd h
  refine rq hC [.z (.at 2),.z (.fz 22 [] [21]),oV (cZ G hx11)] [21,22] [(22,vB x11)] [(21,sc [vM aJ x1,vM aD x5]),(22,none)] [] (aS h (fun c2 h=> ?_) (fun c2 h=> ?_))
  ·obtain rfl:=so h
   exact rq hC [] [23] [] [(20,sc [vM aJ x1,vM aD x5])] [] (qr eW)
  ·refine qk (qs ?_)
   obtain⟨x12,hx12,x13,hx13,h⟩:=cP h
   obtain rfl:=so h
   exact dk hC bF [oV (rU G n hx12),oA (uG aD hx13),oQ (bT (r:=aD) 2 b7 x5)] (fr 24 5) [] [(20,sc [vM aJ x12,vM aD x13])] [] (qr eW)
theorem aDm{r_a0}{r}(h:s8 n r_a0=some r):VQ G 119 [eL r_a0] [V.ref 0 0] (V.agg (bH r.1)) [eL r.2]:=by
 unfold s8 at h
 refine vq aN Tryz.func119 rfl fun w X β0 hC hg=> ?_
 refine rq hC [.z (.nat 20)] [2] [(2,V.ref 20 0)] [(20,sc [V.t T.nilS,V.t T.nilS])] [(20,true)] ?_
 obtain⟨x1,hx1,h⟩:=bd h
 refine rq hC [.z (.int 0),oC [0] [] (nF G hx1)] [3,6,7,8] [(3,vS x1.1)] [(0,sR x1.2)] [(0,true)] ?_
 obtain⟨x2,hx2,x3,hx3,h⟩:=cP h
 refine rq hC [oS hx2,oV (zT G hx3),.z (.nat 21)] [4,5,9,10,11,12,13,14] [(4,V.ref 21 0),(5,vB x3.2)] [(21,some (E.cells (bH x3.1)))] [(21,true)] (qs (vj h (fun x_=>aX [(0,V.ref 0 0),(2,V.ref 20 0),(4,V.ref 21 0),(20,vB x_.2.2)] [(0,E.cells [vM rY x_.1,vI x_.2.1]),(20,E.cells [V.t T.nilS,V.t T.nilS]),(21,E.cells (bH x3.1))] [0,20,21]) (fun j4 h=> ?_) ?_))
 ·
  refine aQ h (fun c1 h=> ?_) (fun c1 h=> ?_)
  ·exact rk hC (rF 4 c1) (fr 15 6) [(20,vB false)] [] [] (lE h)
  ·obtain⟨x5,hx5,h⟩:=bd h
   exact rk hC [oT c1,oT c1,oC [0] [] (bQ G hx5),oT c1,oT c1] (fr 15 6) [(20,vB (decide ((0:Int)<x5.1)))] [(0,sR x5.2)] [(0,true)] (lE h)
 ·rintro⟨x6,x7,x8⟩ h
  refine aS h (fun c2 h=> ?_) (fun c2 h=> ?_)
  ·obtain rfl:=so h
   exact rq hC [] [21] [] [(20,some (E.cells (bH x3.1)))] [] (qr eW)
  ·refine qk ?_
   obtain⟨x9,hx9,h⟩:=bd h
   obtain rfl:=so h
   exact rq hC [oC [0] [] (aDr G hx9)] [22,23] [] [(0,sR x9.2),(20,some (E.cells (bH x9.1)))] [(0,true)] (qr eW)
theorem aDo{r_a0}{r}(h:tA n r_a0=some r):VQ G 46 [eL r_a0] [V.ref 0 0] (V.tup [V.agg (bH r.1),vI r.2.1,vI r.2.2.1,vI r.2.2.2.1]) [eL r.2.2.2.2]:=by
 unfold tA at h
 refine vq aN Tryz.func46 rfl fun w X β0 hC hg=> ?_
 refine rq hC [.z (.nat 20)] (fr 2 4) [(2,V.ref 20 0)] [(20,sc [V.t T.nilS,V.t T.nilS])] [(20,true)] ?_
 obtain⟨x1,hx1,x2,hx2,h⟩:=cP h
 refine rq hC [oC [0] [] (aDm G hx1),oC [0] [] (aAE G hx2),.z (.nat 21)] [6,8,9,10,11] [(6,V.ref 21 0)] [(0,sR x2.2),(21,some (E.cells (bH x2.1)))] [(0,true),(0,true),(21,true)] ?_
 obtain⟨x3,hx3,h⟩:=bd h
 refine rq hC [.z (.int 0),oC [0] [] (bA G hx3)] [7,12,13,14] [(7,vI x3.1)] [(0,sR x3.2)] [(0,true)] (qs ?_)
 obtain⟨x4,hx4,x5,hx5,h⟩:=cP h
 obtain rfl:=so h
 exact dk hC bF [.z (.int 0),oC [0] [] (bA G hx4),.z (.int 0),oC [0] [] (bA G hx5)] [3,4,5,15,16,17,18,19,20,21,22] [(3,vI x3.1),(4,vI x4.1),(5,vI x5.1)] [(0,sR x5.2),(20,some (E.cells (bH x2.1)))] [(0,true),(0,true)] (qr eW)
theorem aBY{code}{r}(h:nQ n code=some r):VQ G 47 [] [vM rY code] (V.ref 0 0) [eL r]:=by
 unfold nQ at h
 refine vq aN Tryz.func47 rfl fun w X β0 hC hg=> ?_
 refine rq hC [] [2] [] [] [] (vj h (fun x_=>aX [(0,vM rY x_)] [] []) (fun j1 h=> ?_) (fun x3 h=> ?_))
 ·
  refine rq hC [oN rY code] [3,4,5] [(5,vB (decide ((2000:Int)<(code.length:Int))))] [] [] (aS h (fun c1 h=> ?_) (fun c1 h=> ?_))
  ·obtain⟨x2,hx2,h⟩:=bd h
   exact rk hC [oA (uG rY hx2),oQ (bT (r:=rY) 1 (fun _=>rfl) code)] [0,6,7] [(0,vM rY x2)] [] [] (lE h)
  ·exact qk (lE h)
 ·obtain rfl:=so h
  exact rq hC [.z (.nat 0)] [2,8,9,10] [(2,V.ref 0 0)] [(0,sc [vM rY x3,vI 0])] [(0,true)] (qr eW)
theorem yB{code}{r}(h:jP n code=some r):PQ G 15 [vM rY code] (V.tup [V.agg (bH r.1),vI r.2.1,vI r.2.2.1,vI r.2.2.2]):=by
 unfold jP at h
 refine pq aN Tryz.func15 rfl fun w X hC=> ?_
 refine rq hC [.z (.nat 20)] (fr 2 4) [(2,V.ref 20 0)] [(20,sc [V.t T.nilS,V.t T.nilS])] [(20,true)] ?_
 obtain⟨x1,hx1,x2,hx2,h⟩:=cP h
 obtain rfl:=so h
 exact rq hC [oC [] [21] (aBY G hx1),oC [21] [] (aDo G hx2)] (fr 3 10) [(3,vI x2.2.1),(4,vI x2.2.2.1),(5,vI x2.2.2.2.1)] [(21,sR x2.2.2.2.2),(20,some (E.cells (bH x2.1)))] [(21,true),(21,true)] (qr eR)
theorem qV{p}{x}{r}(h:dS n p x=some r):PQ G 175 [V.agg (bH p),V.agg (X6 x)] (V.agg (cO r)):=by
 unfold dS at h
 refine pq aN Tryz.func175 rfl fun w X hC=> ?_
 refine rq hC [.z (.b (true)),.z (.b (true)),.z (.nat 20)] [2,3,4] [(2,V.tp (bL p)),(3,V.tp (G5 x)),(4,V.ref 20 0)] [(20,sc [vS [],V.t T.nilS,vI 0,vI 0,V.t T.nilS,vI 0,vS [],V.t T.nilS,V.t T.nilS])] [(20,true)] (qs ?_)
 obtain⟨x1,hx1,x2,hx2,h⟩:=cP h
 obtain rfl:=so h
 exact dk hC bF [oR aD hx1,oR aG hx2] (fr 5 11) [] [(20,some (E.cells (cO x2)))] [] (qr eR)
theorem uY{p}{x}{r}(h:fL n p x=some r):VQ G 116 [] [V.agg (bH p),V.agg (X6 x)] (V.tup [ms 0 1 1 rI r.1,vI r.2]) [ar 3 1 1 rI r.1]:=by
 unfold fL at h
 refine vq aN Tryz.func116 rfl fun w X β0 hC hg=> ?_
 refine rq hC [.z (.b (true)),.z (.b (true))] (fr 2 4) [(2,V.tp (bL p)),(3,V.tp (G5 x))] [] [] ?_
 obtain⟨x1,hx1,h⟩:=bd h
 refine rq hC [oV (qV G hx1),.z (.nat 20)] [6,10,11,12] [(6,V.ref 20 0)] [(20,some (E.cells (cO x1)))] [(20,true)] (rq hC [] [7] [(7,V.t T.nilS)] [] [] (qs ?_))
 obtain⟨x2,hx2,h⟩:=bd h
 refine rq hC [oC [] [21] (X5 G n x1.value hx2),oN aV x2] (fr 13 5) [(15,ms 21 1 2 aV x2),(16,vI (x2.length:Int)),(17,vI 0)] [(21,some (ar 81 1 2 aV x2))] [(21,true)] (qb (qw (lk hC [.grow 7 22 3] [7] [(7,ms 22 1 1 rI [])] [(22,some (ar 3 1 1 rI []))] [(22,true)]) (bC (γ:=Nat) h (fun x_ g_=>aX [(2,V.tp (bL p)),(3,V.tp (G5 x)),(6,V.ref 20 0),(7,ms 22 g_ 1 rI x_.1),(15,ms 21 1 2 aV x2),(16,vI (x2.length:Int)),(17,vI x_.2)] [(20,E.cells (cO x1)),(21,ar 81 1 2 aV x2),(22,ar 3 g_ 1 rI x_.1)] [20,21,22]) 1 (lS) ?_)))
 rintro again6 ⟨x3,x4⟩ g5 h
 refine rq hC [] [18] [(18,vB (decide (x4<(x2.length:Int))))] [] [] (qs (aS h (fun c1 h=> ?_) (fun c1 h=> ?_)))
 ·refine qk (qs (qb ?_))
  obtain⟨x7,hx7,h⟩:=bd h
  refine rq hC [oQ (kF aV hx7),oX aV hx7,.z (.nat 23)] [9,19,20] [(9,V.ref 23 0)] [(23,some (E.cells (cB x7)))] [(23,true)] ?_
  obtain⟨x8,hx8,x9,hx9,h⟩:=cP h
  exact rk hC [oV (dN G hx8),.z (.int 0),oA (aP rI hx9),oQ (bT (r:=rI) 1 (fun _=>rfl) x3),oQ (bT (r:=rI) 1 (fun _=>rfl) [x8])] [7,21,22,23,24,25,26,27,28] [(7,ms 22 (g5+1) 1 rI x9)] [(22,some (ar 3 (g5+1) 1 rI x9))] [] (rk hC [] [17,29] [(17,vI (wr (x4+1)))] [] [] ⟨(x9,wr (x4+1)),(g5+1),h,lS⟩)
 ·refine cQ ?_
  obtain⟨x10,hx10,h⟩:=bd h
  obtain rfl:=so h
  exact rq hC [oV (dN G hx10)] [4,5,30,31,32,33,34,35,36] [(4,ms 22 g5 1 rI x3),(5,vI x10)] [] [] (qw (lk hC [.ren 4 22 0] [4] [(4,ms 0 1 1 rI x3)] [(0,some (ar 3 1 1 rI x3)),(22,none)] [(0,true)]) (qr eW))
theorem aB7{nest}{p}{r}(h:qN n nest p=some r):PQ G 191 [vM aC nest,vM rI p] (vB r):=by
 unfold qN at h
 refine pq aN Tryz.func191 rfl fun w X hC=> ?_
 refine rq hC [] [4] [] [] [] (qs (vj h (fun x_=>aX [(0,vM aC nest),(1,vM rI p),(23,vB x_)] [] []) (fun j1 h=> ?_) (fun x4 h=> ?_)))
 ·
  obtain⟨x2,hx2,h⟩:=bd h
  refine aQ h (fun c1 h=> ?_) (fun c1 h=> ?_)
  ·obtain⟨x3,hx3,h⟩:=bd h
   refine aQ h (fun c2 h=> ?_) (fun c2 h=> ?_)
   ·exact rk hC [oV (mE G hx2),oF c1,oF c1,oV (t1 G hx3),oF c1,oF c1,oF c2,oF c2,oN rI p,oF c2,oF c2,oN aC nest,oF c2,oF c2] (fr 9 15) [(23,vB (!decide ((p.length:Int)=(nest.length:Int))))] [] [] (lE h)
   ·exact rk hC ([oV (mE G hx2),oF c1,oF c1,oV (t1 G hx3),oF c1,oF c1]++rT 6 c2) (fr 9 15) [(23,vB true)] [] [] (lE h)
  ·exact rk hC ([oV (mE G hx2)]++rT 4 c1++sT 6) (fr 9 15) [(23,vB true)] [] [] (lE h)
 ·refine aS h (fun c3 h=> ?_) (fun c3 h=> ?_)
  ·obtain rfl:=so h
   exact rq hC [] [4] [(4,vB false)] [] [] (qr eR)
  ·refine qk (qs (rq hC [oN aC nest] [24,25,26] [(24,vM aC nest),(25,vI (nest.length:Int)),(26,vI 0)] [] [] (qb (jF h (fun x_=>aX [(1,vM rI p),(24,vM aC nest),(25,vI (nest.length:Int)),(26,vI x_)] [] []) lS ?_))))
   rintro again6 x5 h
   refine rq hC [] [27] [(27,vB (decide (x5<(nest.length:Int))))] [] [] (qs (aS h (fun c4 h=> ?_) (fun c4 h=> ?_)))
   ·refine qk (qs (qb ?_))
    obtain⟨x7,hx7,h⟩:=bd h
    refine rq hC [oR aC hx7,.z (.nat 20)] [5,6,28,29,30] [(5,vI x5),(6,V.ref 20 0)] [(20,some (E.cells (jD x7)))] [(20,true)] (qs ?_)
    obtain⟨x8,hx8,x9,hx9,h⟩:=cP h
    refine dk hC bF [oA (uG rI hx8),oQ (bT (r:=rI) 1 (fun _=>rfl) p),oV (vO G hx9)] [7,8,31,32,33,34,35,36,37,38] [(7,vI x9.1),(8,vI x9.2)] [] [] (vj h (fun x_=>aX [(1,vM rI p),(24,vM aC nest),(25,vI (nest.length:Int)),(26,vI x5),(52,vB x_)] [(20,E.cells (jD x7))] [20]) (fun j10 h=> ?_) (fun x12 h=> ?_))
    ·
     obtain⟨x11,hx11,h⟩:=bd h
     refine aQ h (fun c5 h=> ?_) (fun c5 h=> ?_)
     ·exact rk hC ([oR rI hx11]++rF 3 c5++[oR rI hx11]++rF 4 c5) (fr 39 14) [(52,vB (decide (x9.2≤x11)))] [] [] (lE h)
     ·exact rk hC ([oR rI hx11]++rT 7 c5) (fr 39 14) [(52,vB true)] [] [] (lE h)
    ·refine aS h (fun c6 h=> ?_) (fun c6 h=> ?_)
     ·obtain rfl:=so h
      exact rq hC [] [4] [(4,vB false)] [] [] (qr eR)
     ·exact qk (rk hC [] [26,53] [(26,vI (wr (x5+1)))] [] [] (lE h))
   ·obtain rfl:=so h
    exact cQ (rq hC [] [4] [(4,vB true)] [] [] (qr eR))
theorem sD{p}{x}{r}(h:dT n p x=some r):PQ G 132 [V.agg (bH p),V.agg (X6 x)] (vB r):=by
 unfold dT at h
 refine pq aN Tryz.func132 rfl fun w X hC=> ?_
 refine rq hC [.z (.b (true)),.z (.b (true))] [2,3,4] [(2,V.tp (bL p)),(3,V.tp (G5 x))] [] [] (vj h (fun x_=>aX [(4,vB x_)] [] []) (fun j1 h=> ?_) (fun x6 h=> ?_))
 ·
  obtain⟨x2,hx2,h⟩:=bd h
  refine aQ h (fun c1 h=> ?_) (fun c1 h=> ?_)
  ·exact dk hC bF ([oN aD p.parts,oV (bD G hx2)]++rF 13 c1++sF 11) (fr 4 34) [(4,vB false)] [] [] (lE h)
  ·obtain⟨x3,hx3,x4,hx4,h⟩:=cP h
   refine aQ h (fun c2 h=> ?_) (fun c2 h=> ?_)
   ·exact dk hC bF ([oN aD p.parts,oV (bD G hx2)]++rT 7 c1++[oR aD hx3]++rT 3 c1++[oN aG x3.body,oT c1,oT c1,oV (bD G hx4),oT c1]++rF 11 c2) (fr 4 34) [(4,vB false)] [] [] (lE h)
   ·obtain⟨x5,hx5,h⟩:=bd h
    exact dk hC bF ([oN aD p.parts,oV (bD G hx2)]++rT 7 c1++[oR aD hx3]++rT 3 c1++[oN aG x3.body,oT c1,oT c1,oV (bD G hx4),oT c1]++rT 5 c2++[oR aD hx3]++rT 5 c2++[oV (aB7 G hx5),oT c2]) (fr 4 34) [(4,vB x5)] [] [] (lE h)
 ·obtain rfl:=so h
  exact qr eR
theorem pL{p}{x}{r}(h:e9 n p x=some r):VQ G 73 [] [V.agg (bH p),V.agg (X6 x)] (V.tup [ms 0 1 1 rI r.1,vI r.2.1,vB r.2.2]) [ar 3 1 1 rI r.1]:=by
 unfold e9 at h
 refine vq aN Tryz.func73 rfl fun w X β0 hC hg=> ?_
 refine rq hC [.z (.b (true)),.z (.b (true))] (fr 2 5) [(2,V.tp (bL p)),(3,V.tp (G5 x))] [] [] (qs (vj h (fun x_=>aX [(2,V.tp (bL p)),(3,V.tp (G5 x)),(17,vB x_)] [] []) (fun j1 h=> ?_) (fun x4 h=> ?_)))
 ·
  obtain⟨x2,hx2,h⟩:=bd h
  refine aQ h (fun c1 h=> ?_) (fun c1 h=> ?_)
  ·obtain⟨x3,hx3,h⟩:=bd h
   exact rk hC ([oV (bI G hx2)]++rF 3 c1++[oV (sD G hx3),oF c1,oF c1]) (fr 9 9) [(17,vB (!x3))] [] [] (lE h)
  ·exact rk hC ([oV (bI G hx2)]++rT 5 c1) (fr 9 9) [(17,vB true)] [] [] (lE h)
 ·refine aS h (fun c2 h=> ?_) (fun c2 h=> ?_)
  ·obtain rfl:=so h
   exact rq hC [] [4,5,6] [(4,V.t T.nilS),(5,vI 0),(6,vB false)] [] [] (qw (lk hC [.grow 4 0 3] [4] [(4,ms 0 1 1 rI [])] [(0,some (ar 3 1 1 rI []))] [(0,true)]) (qr eW))
  ·refine qk ?_
   obtain⟨x5,hx5,h⟩:=bd h
   obtain rfl:=so h
   exact rq hC [oC [] [20] (uY G hx5)] [7,8,18,19,20,21,22,23] [(7,ms 20 1 1 rI x5.1),(8,vI x5.2)] [(20,some (ar 3 1 1 rI x5.1))] [(20,true)] (rq hC [] [4,5,6,24,25] [(4,ms 20 1 1 rI x5.1),(5,vI x5.2),(6,vB true)] [] [] (qw (lk hC [.ren 4 20 0] [4] [(4,ms 0 1 1 rI x5.1)] [(0,some (ar 3 1 1 rI x5.1)),(20,none)] [(0,true)]) (qr eW)))
theorem iM{p}{r}(h:cV n p=some r):VQ G 43 [] [V.agg (bH p)] (ms 0 1 3 bK r) [ar 94 1 3 bK r]:=by
 unfold cV at h
 refine vq aN Tryz.func43 rfl fun w X β0 hC hg=> ?_
 refine rq hC [.z (.b (true))] [1,2] [(1,V.tp (bL p))] [] [] ?_
 obtain⟨x1,hx1,h⟩:=bd h
 refine rq hC [oC [] [20] (lL G hx1)] (fr 3 7) [(3,ms 20 1 3 bK x1.1),(4,vB x1.2)] [(20,some (ar 94 1 3 bK x1.1))] [(20,true)] (qs (rq hC [] [10,11] [(11,vB (!x1.2))] [] [] (aS h (fun c1 h=> ?_) (fun c1 h=> ?_))))
 ·obtain rfl:=so h
  exact rq hC [] [2] [(2,V.t T.nilS)] [] [] (qw (lk hC [.grow 2 0 94] [2] [(2,ms 0 1 3 bK [])] [(0,some (ar 94 1 3 bK []))] [(0,true)]) (qr eW))
 ·obtain rfl:=so h
  exact qk (rq hC [] [2,12] [(2,ms 20 1 3 bK x1.1)] [] [] (qw (lk hC [.ren 2 20 0] [2] [(2,ms 0 1 3 bK x1.1)] [(0,some (ar 94 1 3 bK x1.1)),(20,none)] [(0,true)]) (qr eW)))
theorem N9{a}{b}{r}(h:nZ n a b=some r):PQ G 44 [vM rI a,vM rI b] (vB r):=by
 unfold nZ at h
 refine pq aN Tryz.func44 rfl fun w X hC=> ?_
 refine rq hC [] [4] [] [] [] (qs (rq hC [oN rI a,oN rI b] (fr 6 5) [(10,vB (!decide ((a.length:Int)=(b.length:Int))))] [] [] (aS h (fun c1 h=> ?_) (fun c1 h=> ?_))))
 ·obtain rfl:=so h
  exact rq hC [] [4] [(4,vB false)] [] [] (qr eR)
 ·refine qk (qs (rq hC [] [5] [(5,vI 0)] [] [] (qb (jF h (fun x_=>aX [(0,vM rI a),(1,vM rI b),(5,vI x_)] [] []) lS ?_))))
  rintro again2 x1 h
  refine qs (rq hC [oN rI a] (fr 11 4) [(14,vB (decide (x1<(a.length:Int))))] [] [] (aS h (fun c2 h=> ?_) (fun c2 h=> ?_)))
  ·refine qk (qs (qb (qs ?_)))
   obtain⟨x3,hx3,x4,hx4,h⟩:=cP h
   refine dk hC bF [oR rI hx3,oR rI hx4] (fr 17 9) [(25,vB (!decide (x3=x4)))] [] [] (aS h (fun c3 h=> ?_) (fun c3 h=> ?_))
   ·obtain rfl:=so h
    exact rq hC [] [4] [(4,vB false)] [] [] (qr eR)
   ·exact qk (rk hC [] [5,15,16] [(5,vI (wr (x1+1)))] [] [] (lE h))
  ·obtain rfl:=so h
   exact cQ (rq hC [] [4] [(4,vB true)] [] [] (qr eR))
theorem xU{p}{q}{r}(h:lM n p q=some r):PQ G 19 [V.agg (bH p),V.agg (bH q)] (vB r):=by
 unfold lM at h
 refine pq aN Tryz.func19 rfl fun w X hC=> ?_
 refine rq hC [.z (.b (true)),.z (.b (true))] [2,3,4] [(2,V.tp (bL p)),(3,V.tp (bL q))] [] [] ?_
 obtain⟨x1,hx1,h⟩:=bd h
 refine rq hC [oC [] [20] (iM G hx1)] [5,14,15] [(5,ms 20 1 3 bK x1)] [(20,some (ar 94 1 3 bK x1))] [(20,true)] ?_
 obtain⟨x2,hx2,h⟩:=bd h
 refine rq hC [oC [] [21] (iM G hx2)] [6,16,17] [(6,ms 21 1 3 bK x2)] [(21,some (ar 94 1 3 bK x2))] [(21,true)] (qs (rq hC [oN bK x1,oN bK x2] (fr 18 5) [(22,vB (!decide ((x1.length:Int)=(x2.length:Int))))] [] [] (aS h (fun c1 h=> ?_) (fun c1 h=> ?_))))
 ·obtain rfl:=so h
  exact rq hC [] [4] [(4,vB false)] [] [] (qr eR)
 ·refine qk (qs (rq hC [] [7] [(7,vI 0)] [] [] (qb (jF h (fun x_=>aX [(2,V.tp (bL p)),(3,V.tp (bL q)),(5,ms 20 1 3 bK x1),(6,ms 21 1 3 bK x2),(7,vI x_)] [(20,ar 94 1 3 bK x1),(21,ar 94 1 3 bK x2)] [20,21]) lS ?_))))
  rintro again4 x3 h
  refine qs (rq hC [oN bK x1] (fr 23 4) [(26,vB (decide (x3<(x1.length:Int))))] [] [] (aS h (fun c2 h=> ?_) (fun c2 h=> ?_)))
  ·refine qk (qs (qb (qs ?_)))
   obtain⟨x5,hx5,x6,hx6,h⟩:=cP h
   refine dk hC bF [oQ (kF bK hx5),oX bK hx5,oC [] [22] (pL G hx6)] [8,9,10,29,30,31,32,33,34,35,36,37,38] [(8,ms 22 1 1 rI x6.1),(9,vI x6.2.1)] [(22,some (ar 3 1 1 rI x6.1))] [(22,true)] (qs ?_)
   obtain⟨x7,hx7,x8,hx8,h⟩:=cP h
   refine dk hC bF [oQ (kF bK hx7),oX bK hx7,oC [] [23] (pL G hx8)] [11,12,13,39,40,41,42,43,44,45,46,47,48] [(11,ms 23 1 1 rI x8.1),(12,vI x8.2.1)] [(23,some (ar 3 1 1 rI x8.1))] [(23,true)] (vj h (fun x_=>aX [(2,V.tp (bL p)),(3,V.tp (bL q)),(5,ms 20 1 3 bK x1),(6,ms 21 1 3 bK x2),(7,vI x3),(57,vB x_)] [(20,ar 94 1 3 bK x1),(21,ar 94 1 3 bK x2),(22,ar 3 1 1 rI x6.1),(23,ar 3 1 1 rI x8.1)] [20,21,22,23]) (fun j9 h=> ?_) (fun x11 h=> ?_))
   ·
    refine aQ h (fun c3 h=> ?_) (fun c3 h=> ?_)
    ·obtain⟨x10,hx10,h⟩:=bd h
     exact rk hC (rF 3 c3++[.z (.b (true)),oV (N9 G hx10),oF c3,oF c3]) (fr 49 9) [(57,vB (!x10))] [] [] (lE h)
    ·exact rk hC (rT 5 c3) (fr 49 9) [(57,vB true)] [] [] (lE h)
   ·refine aS h (fun c4 h=> ?_) (fun c4 h=> ?_)
    ·obtain rfl:=so h
     exact rq hC [] [4] [(4,vB false)] [] [] (qr eR)
    ·exact qk (rk hC [] [7,27,28] [(7,vI (wr (x3+1)))] [] [] (lE h))
  ·obtain rfl:=so h
   exact cQ (rq hC [] [4] [(4,vB true)] [] [] (qr eR))
theorem lC{p}{r}(h:d6 n p=some r):PQ G 115 [V.agg (bH p)] (vI r):=by
 unfold d6 at h
 refine pq aN Tryz.func115 rfl fun w X hC=> ?_
 refine rq hC [.z (.b (true))] [1,2] [(1,V.tp (bL p))] [] [] (rq hC [] [3] [(3,vI 0)] [] [] (qs (rq hC [oN aJ p.arrays] (fr 6 4) [(7,vM aJ p.arrays),(8,vI (p.arrays.length:Int)),(9,vI 0)] [] [] (qb (jF h (fun x_=>aX [(3,vI x_.1),(7,vM aJ p.arrays),(8,vI (p.arrays.length:Int)),(9,vI x_.2)] [] []) lS ?_)))))
 rintro again3 ⟨x1,x2⟩ h
 refine rq hC [] [10] [(10,vB (decide (x2<(p.arrays.length:Int))))] [] [] (qs (aS h (fun c1 h=> ?_) (fun c1 h=> ?_)))
 ·refine qk (qs (qb ?_))
  obtain⟨x4,hx4,h⟩:=bd h
  refine rq hC [oR aJ hx4,.z (.nat 20)] [5,11,12] [(5,V.ref 20 0)] [(20,sc [vS x4.name,vM rI x4.dims])] [(20,true)] ?_
  obtain⟨x5,hx5,h⟩:=bd h
  exact rk hC [oV (uC G hx5)] [3,13,14,15,16] [(3,vI (wr (x1+x5)))] [] [] (rk hC [] [9,17] [(9,vI (wr (x2+1)))] [] [] (lE h))
 ·obtain rfl:=so h
  exact cQ (rq hC [] [2,18] [(2,vI x1)] [] [] (qr eR))
theorem Q4{p}{r}(h:kX n p=some r):PQ G 74 [V.agg (bH p)] (vI r):=by
 unfold kX at h
 refine pq aN Tryz.func74 rfl fun w X hC=> ?_
 refine rq hC [.z (.b (true))] [1,2] [(1,V.tp (bL p))] [] [] (qs ?_)
 obtain⟨x1,hx1,h⟩:=bd h
 refine rq hC [oV (bI G hx1)] [3,4,5] [(5,vB (!x1))] [] [] (aS h (fun c1 h=> ?_) (fun c1 h=> ?_))
 ·obtain rfl:=so h
  exact rq hC [] [2] [(2,vI 0)] [] [] (qr eR)
 ·refine qk ?_
  obtain⟨x2,hx2,h⟩:=bd h
  obtain rfl:=so h
  exact rq hC [oV (lC G hx2)] [2,6,7] [(2,vI x2)] [] [] (qr eR)
theorem yJ(G:GS)(n:Nat)(n_a0:Int){r:Bool}(h:eZ n n_a0=some r):PQ G 193 [vI n_a0] (vB r):=by
 unfold eZ at h
 refine pq aN Tryz.func193 rfl fun w X hC=> ?_
 refine rq hC [] [2] [] [] [] ?_
 obtain⟨x1,hx1,h⟩:=bd h
 obtain rfl:=so h
 exact rq hC [oV (bD G hx1)] (fr 2 4) [(2,vB (!x1))] [] [] (qr eR)
theorem D5{p}{m}{r}(h:jM n p m=some r):PQ G 133 [V.agg (bH p),vM rI m] (vB r):=by
 unfold jM at h
 refine pq aN Tryz.func133 rfl fun w X hC=> ?_
 refine rq hC [.z (.b (true))] [2,4] [(2,V.tp (bL p))] [] [] (vj h (fun x_=>aX [(4,vB x_)] [] []) (fun j1 h=> ?_) (fun x5 h=> ?_))
 ·
  obtain⟨x2,hx2,h⟩:=bd h
  refine aQ h (fun c1 h=> ?_) (fun c1 h=> ?_)
  ·exact rk hC ([oV (bI G hx2)]++rF 6 c1++sF 4) (fr 4 15) [(4,vB false)] [] [] (lE h)
  ·obtain⟨x3,hx3,h⟩:=bd h
   refine aQ h (fun c2 h=> ?_) (fun c2 h=> ?_)
   ·exact rk hC ([oV (bI G hx2),oT c1,oT c1,oN rI m,oT c1,oT c1,oV (lC G hx3),oT c1,oT c1]++rF 4 c2) (fr 4 15) [(4,vB false)] [] [] (lE h)
   ·obtain⟨x4,hx4,h⟩:=bd h
    exact rk hC [oV (bI G hx2),oT c1,oT c1,oN rI m,oT c1,oT c1,oV (lC G hx3),oT c1,oT c1,oT c2,oT c2,oV (dU G n m 193 (fun q0=>eZ n q0) (fun q0 r h=>yJ G n q0 h) hx4),oT c2,oT c2] (fr 4 15) [(4,vB (!x4))] [] [] (lE h)
 ·obtain rfl:=so h
  exact qr eR
theorem sB{n_a0}{r}(h:mO n n_a0=some r):PQ G 239 [vI n_a0] (vI r):=by
 unfold mO at h
 refine pq aN Tryz.func239 rfl fun w X hC=> ?_
 obtain rfl:=so h
 exact rq hC [] [2] [] [] [] (rq hC [oQ (show(1000:Int)≠0 by decide),oQ (show(1000:Int)≠0 by decide)] (fr 2 6) [(2,vI (Int.tmod (wr ((wr ((Int.tmod n_a0 1000)+999))+1)) 1000))] [] [] (qr eR))
theorem yF(G:GS): ∀(n:Nat) (p:Prog) (m:List Int) (e:Expr) (point:List Int) {r:Int} (h:i_Program_value n p m e point=some r),PQ G 194 [V.agg (bH p),vM rI m,V.agg (cR e),vM rI point] (vI r):=by
 intro n
 induction n with
 |zero=>intro p m e point r h;rw [i_Program_value.eq_def] at h;cases h
 |succ n ih=>
  intro p m e point r h
  rw [i_Program_value.eq_def] at h;dsimp only at h
  refine pq aN Tryz.func194 rfl fun w X hC=> ?_
  refine rq hC [.z (.b (true)),.z (.b (true))] [4,6,8] [(4,V.tp (bL p)),(6,V.tp (fD e))] [] [] (qs (rq hC [] [11,12] [(12,vI e.kind)] [] [] (qb (rq hC [] [13,14] [(13,vB (decide (e.kind=1)))] [] [] (aS h (fun c1 h=> ?_) (fun c1 h=> ?_))))))
  ·obtain rfl:=so h
   exact rq hC [] [8,15,16] [(8,vI e.num)] [] [] (qr eR)
  ·refine rq hC [] [17,18] [(17,vB (decide (e.kind=2)))] [] [] (aS h (fun c2 h=> ?_) (fun c2 h=> ?_))
   ·obtain⟨x1,hx1,x2,hx2,h⟩:=cP h
    obtain rfl:=so h
    exact rq hC [oV (fC G hx1),oV (sB G hx2)] [8,19,20,21,22,23] [(8,vI x2)] [] [] (qr eR)
   ·refine rq hC [] [24,25] [(24,vB (decide (e.kind=3)))] [] [] (aS h (fun c3 h=> ?_) (fun c3 h=> ?_))
    ·obtain⟨x3,hx3,x4,hx4,h⟩:=cP h
     obtain rfl:=so h
     exact rq hC [oV (dN G hx3),oR rI hx4] [8,26,27,28,29,30,31,32,33] [(8,vI x4)] [] [] (qr eR)
    ·refine qk (qs ?_)
     obtain⟨x5,hx5,x6,hx6,x7,hx7,h⟩:=kG h
     obtain⟨x8,hx8,h⟩:=bd h
     refine dk hC bF [.z (.row (d5 x5)),oQ (eU aI hx5 (cM x5)),oV (ih p m x5 point hx6),.z (.row (d5 x7)),oQ (eU aI hx7 (cM x7)),oV (ih p m x7 point hx8)] [9,10,34,35,36,37,38,39,40,41,42,43,44,45,46,47,48,49] [(9,vI x6),(10,vI x8)] [] [] (qs (rq hC [] [50,51] [(51,vI e.kind)] [] [] (qb (rq hC [] [52,53] [(52,vB (decide (e.kind=4)))] [] [] (aS h (fun c4 h=> ?_) (fun c4 h=> ?_))))))
     ·obtain⟨x9,hx9,h⟩:=bd h
      obtain rfl:=so h
      exact rq hC [oV (sB G hx9)] [8,54,55,56,57] [(8,vI x9)] [] [] (qr eR)
     ·refine rq hC [] [58,59] [(58,vB (decide (e.kind=5)))] [] [] (aS h (fun c5 h=> ?_) (fun c5 h=> ?_))
      ·obtain⟨x10,hx10,h⟩:=bd h
       obtain rfl:=so h
       exact rq hC [oV (sB G hx10)] [8,60,61,62,63] [(8,vI x10)] [] [] (qr eR)
      ·refine qk ?_
       obtain⟨x11,hx11,h⟩:=bd h
       obtain rfl:=so h
       exact rq hC [oV (sB G hx11)] [8,64,65,66,67] [(8,vI x11)] [] [] (qr eR)
theorem Q0{p}{m}(mG:Nat){x}{r}(h:kU n p m x=some r):VQ G 135 [ar 3 mG 1 rI m] [V.agg (bH p),ms 0 mG 1 rI m,V.agg (X6 x)] (V.tup []) [ar 3 mG 1 rI r]:=by
 unfold kU at h
 refine vq aN Tryz.func135 rfl fun w X β0 hC hg=> ?_
 refine rq hC [.z (.b (true)),.z (.b (true))] [3,5] [(3,V.tp (bL p)),(5,V.tp (G5 x))] [] [] ?_
 obtain⟨x1,hx1,h⟩:=bd h
 refine rq hC [oV (qV G hx1),.z (.nat 20)] (fr 6 4) [(6,V.ref 20 0)] [(20,some (E.cells (cO x1)))] [(20,true)] ?_
 obtain⟨x2,hx2,x3,hx3,x4,hx4,h⟩:=kG h
 obtain⟨x5,hx5,h⟩:=bd h
 obtain rfl:=so h
 exact dk hC bF [oV (dN G hx2),.z (.b (true)),oV (yF G n p m x1.value x.point hx3),oQ (kF rI hx4),oX rI hx4,.z (.rows (List.map rI x5)),oQ (str rI hx5)] [1,10,11,12,13,14,15,16,17,18,19,20,21,22,23,24] [] [(0,some (ar 3 mG 1 rI x5))] [] eW
theorem t6{p}{m}{r}(h:fK n p m=some r):VQ G 75 [] [V.agg (bH p),vM rI m] (V.tup [ms 0 1 1 rI r.1,vB r.2]) [ar 3 1 1 rI r.1]:=by
 unfold fK at h
 refine vq aN Tryz.func75 rfl fun w X β0 hC hg=> ?_
 refine rq hC [.z (.b (true))] [2,4,5] [(2,V.tp (bL p))] [] [] (qs ?_)
 obtain⟨x1,hx1,h⟩:=bd h
 refine rq hC [oV (D5 G hx1)] (fr 9 4) [(12,vB (!x1))] [] [] (aS h (fun c1 h=> ?_) (fun c1 h=> ?_))
 ·obtain rfl:=so h
  exact rq hC [] [4,5] [(4,V.t T.nilS),(5,vB false)] [] [] (qw (lk hC [.grow 4 0 3] [4] [(4,ms 0 1 1 rI [])] [(0,some (ar 3 1 1 rI []))] [(0,true)]) (qr eW))
 ·refine qk ?_
  obtain⟨x2,hx2,h⟩:=bd h
  refine rq hC [oC [] [20] (G.clone m hx2)] [6,13,14] [(6,ms 20 1 1 rI x2)] [(20,some (ar 3 1 1 rI x2))] [(20,true)] (qs ?_)
  obtain⟨x3,hx3,h⟩:=bd h
  refine rq hC [oC [] [21] (iM G hx3),oN bK x3] (fr 15 4) [(16,ms 21 1 3 bK x3),(17,vI (x3.length:Int)),(18,vI 0)] [(21,some (ar 94 1 3 bK x3))] [(21,true)] (qb (bC (γ:=Nat) h (fun x_ g_=>aX [(2,V.tp (bL p)),(6,ms 20 g_ 1 rI x_.1),(16,ms 21 1 3 bK x3),(17,vI (x3.length:Int)),(18,vI x_.2)] [(20,ar 3 g_ 1 rI x_.1),(21,ar 94 1 3 bK x3)] [20,21]) 1 (lS) ?_))
  rintro again7 ⟨x4,x5⟩ g6 h
  refine rq hC [] [19] [(19,vB (decide (x5<(x3.length:Int))))] [] [] (qs (aS h (fun c2 h=> ?_) (fun c2 h=> ?_)))
  ·refine qk (qs (qb ?_))
   obtain⟨x8,hx8,h⟩:=bd h
   refine rq hC [oQ (kF bK hx8),oX bK hx8,.z (.nat 22)] [8,20,21] [(8,V.ref 22 0)] [(22,some (E.cells (X6 x8)))] [(22,true)] ?_
   obtain⟨x9,hx9,x10,hx10,h⟩:=cP h
   exact rk hC [oC [20] [] (Q0 G g6 hx9),.z (.len 6 (List.map rI x9).length),oQ (lN rI hx10)] [6,22,23,24,25] [(6,ms 20 g6 1 rI x9)] [(20,some (ar 3 g6 1 rI x9))] [(20,true)] (rk hC [] [18,26] [(18,vI (wr (x5+1)))] [] [] ⟨(x9,wr (x5+1)),g6,h,lS⟩)
  ·obtain rfl:=so h
   exact cQ (rq hC [] [4,5,27] [(4,ms 20 g6 1 rI x4),(5,vB true)] [] [] (qw (lk hC [.ren 4 20 0] [4] [(4,ms 0 1 1 rI x4)] [(0,some (ar 3 1 1 rI x4)),(20,none)] [(0,true)]) (qr eW)))
theorem aBL{p}{q}{seed}{r}(h:nN n p q seed=some r):PQ G 20 [V.agg (bH p),V.agg (bH q),vI seed] (vB r):=by
 unfold nN at h
 refine pq aN Tryz.func20 rfl fun w X hC=> ?_
 refine rq hC [.z (.b (true)),.z (.b (true))] [3,4,6] [(3,V.tp (bL p)),(4,V.tp (bL q))] [] [] ?_
 obtain⟨x1,hx1,x2,hx2,h⟩:=cP h
 refine rq hC [oV (Q4 G hx1),.z (.nat 20),oA (aGe rI hx2),oQ (E0 hx2).1] [7,13,14,15] [(7,ms 20 1 1 rI x2)] [(20,some (ar 3 1 1 rI x2))] [(20,true)] (qs (rq hC [] [8] [(8,vI 0)] [] [] (qb (bC (γ:=Nat) h (fun x_ g_=>aX [(2,vI seed),(3,V.tp (bL p)),(4,V.tp (bL q)),(7,ms 20 g_ 1 rI x_.1),(8,vI x_.2)] [(20,ar 3 g_ 1 rI x_.1)] [20]) 1 (lS) ?_))))
 rintro again6 ⟨x3,x4⟩ g5 h
 refine qs (rq hC [oN rI x3] (fr 16 4) [(19,vB (decide (x4<(x3.length:Int))))] [] [] (aS h (fun c1 h=> ?_) (fun c1 h=> ?_)))
 ·refine qk (qs (qb ?_))
  obtain⟨x7,hx7,x8,hx8,h⟩:=cP h
  exact rk hC [oQ (show(1000:Int)≠0 by decide),oQ (kF rI hx7),oX rI hx7,.z (.rows (List.map rI x8)),.z (.len 7 (List.map rI x8).length),oQ (str rI hx8),oQ (iQ rI hx8)] [7,22,23,24,25,26,27,28,29,30,31] [(7,ms 20 g5 1 rI x8)] [(20,some (ar 3 g5 1 rI x8))] [] (rk hC [] [8,20,21] [(8,vI (wr (x4+1)))] [] [] ⟨(x8,wr (x4+1)),g5,h,lS⟩)
 ·refine cQ ?_
  obtain⟨x9,hx9,h⟩:=bd h
  refine rq hC [.z (.at 6),.z (.fz 20 [7,34] []),oC [] [21] (t6 G hx9)] [7,9,10,32,33,34,35,36,37] [(7,vM rI x3),(9,ms 21 1 1 rI x9.1),(10,vB x9.2)] [(20,none),(21,some (ar 3 1 1 rI x9.1))] [(21,true)] ?_
  obtain⟨x10,hx10,h⟩:=bd h
  refine rq hC [oC [] [22] (t6 G hx10)] [11,12,38,39,40,41,42,43] [(11,ms 22 1 1 rI x10.1),(12,vB x10.2)] [(22,some (ar 3 1 1 rI x10.1))] [(22,true)] (vj h (fun x_=>aX [(6,vB x_)] [(21,ar 3 1 1 rI x9.1),(22,ar 3 1 1 rI x10.1)] [20,21,22]) (fun j11 h=> ?_) (fun x13 h=> ?_))
  ·
   refine aQ h (fun c2 h=> ?_) (fun c2 h=> ?_)
   ·exact rk hC ([oF c2,oF c2]++sF 4) [6,44,45,46,47,48,49,50,51,52] [(6,vB false)] [] [] (lE h)
   ·refine aQ h (fun c3 h=> ?_) (fun c3 h=> ?_)
    ·exact rk hC ([oT c2,oT c2]++rF 4 c3) [6,44,45,46,47,48,49,50,51,52] [(6,vB false)] [] [] (lE h)
    ·obtain⟨x12,hx12,h⟩:=bd h
     exact rk hC ([oT c2,oT c2]++rT 3 c3++[.z (.b (true)),oV (N9 G hx12),oT c3]) [6,44,45,46,47,48,49,50,51,52] [(6,vB x12)] [] [] (lE h)
  ·obtain rfl:=so h
   exact qr eR
theorem D0(G:GS)(n:Nat)(code:List UInt8)(more:List UInt8){r:Bool}(h:l9 n code more=some r):PQ G 4 [vM rY code,vM rY more] (vB r):=by
 unfold l9 at h
 refine pq aN Tryz.func4 rfl fun w X hC=> ?_
 refine rq hC [] [4] [] [] [] (qs (vj h (fun x_=>aX [(0,vM rY code),(1,vM rY more),(20,vB x_)] [] []) (fun j1 h=> ?_) (fun x2 h=> ?_)))
 ·
  refine aQ h (fun c1 h=> ?_) (fun c1 h=> ?_)
  ·exact rk hC [oN rY code,oF c1,oF c1,oN rY more,oF c1,oF c1] (fr 13 8) [(20,vB (decide ((1048576:Int)<(more.length:Int))))] [] [] (lE h)
  ·exact rk hC ([oN rY code]++rT 4 c1) (fr 13 8) [(20,vB true)] [] [] (lE h)
 ·refine aS h (fun c2 h=> ?_) (fun c2 h=> ?_)
  ·obtain rfl:=so h
   exact rq hC [] [4] [(4,vB true)] [] [] (qr eR)
  ·refine qk ?_
   obtain⟨x3,hx3,h⟩:=bd h
   refine rq hC [oV (yB G hx3),.z (.nat 20)] [5,6,7,8,21,22,23,24,25,26,27] [(5,V.ref 20 0),(6,vI x3.2.1),(7,vI x3.2.2.1),(8,vI x3.2.2.2)] [(20,some (E.cells (bH x3.1)))] [(20,true)] ?_
   obtain⟨x4,hx4,h⟩:=bd h
   refine rq hC [oV (S7 G hx4),.z (.nat 21)] [9,10,28,29,30,31,32,33,34,35] [(9,V.ref 21 0),(10,vB x4.2)] [(21,some (E.cells (bH x4.1)))] [(21,true)] ?_
   obtain⟨x5,hx5,h⟩:=bd h
   refine rq hC [oV (S2 G hx5),.z (.nat 22)] [11,12,36,37,38,39,40,41,42,43] [(11,V.ref 22 0),(12,vB x5.2)] [(22,some (E.cells (bH x5.1)))] [(22,true)] (qs (vj h (fun x_=>aX [(1,vM rY more),(5,V.ref 20 0),(9,V.ref 21 0),(10,vB x4.2),(11,V.ref 22 0),(12,vB x5.2),(56,vB x_)] [(20,E.cells (bH x3.1)),(21,E.cells (bH x4.1)),(22,E.cells (bH x5.1))] [20,21,22]) (fun j6 h=> ?_) (fun x8 h=> ?_)))
   ·
    refine aQ h (fun c3 h=> ?_) (fun c3 h=> ?_)
    ·obtain⟨x7,hx7,h⟩:=bd h
     refine aQ h (fun c4 h=> ?_) (fun c4 h=> ?_)
     ·exact rk hC (rF 3 c3++[oV (mY G hx7),oF c3,oF c3]++rF 3 c4) (fr 44 13) [(56,vB (!x4.2))] [] [] (lE h)
     ·exact rk hC (rF 3 c3++[oV (mY G hx7),oF c3,oF c3]++rT 3 c4) (fr 44 13) [(56,vB true)] [] [] (lE h)
    ·exact rk hC (rT 5 c3++[eT,eT,eT]) (fr 44 13) [(56,vB true)] [] [] (lE h)
   ·refine aS h (fun c5 h=> ?_) (fun c5 h=> ?_)
    ·refine vj h (fun x_=>aX [(4,vB x_)] [(20,E.cells (bH x3.1)),(21,E.cells (bH x4.1)),(22,E.cells (bH x5.1))] [20,21,22]) (fun j9 h=> ?_) (fun x11 h=> ?_)
     ·
      refine aQ h (fun c6 h=> ?_) (fun c6 h=> ?_)
      ·exact rk hC (rF 4 c6) [4,57,58,59,60,61,62,63,64] [(4,vB false)] [] [] (lE h)
      ·obtain⟨x10,hx10,h⟩:=bd h
       exact rk hC (rT 3 c6++[oV (mY G hx10),oT c6]) [4,57,58,59,60,61,62,63,64] [(4,vB x10)] [] [] (lE h)
     ·obtain rfl:=so h
      exact qr eR
    ·refine qk (vj h (fun x_=>aX [(4,vB x_)] [(20,E.cells (bH x3.1)),(21,E.cells (bH x4.1)),(22,E.cells (bH x5.1))] [20,21,22]) (fun j12 h=> ?_) (fun x15 h=> ?_))
     ·
      obtain⟨x13,hx13,h⟩:=bd h
      refine aQ h (fun c7 h=> ?_) (fun c7 h=> ?_)
      ·exact rk hC ([oV (xU G hx13)]++rF 6 c7) [4,65,66,67,68,69,70,71,72,73,74] [(4,vB false)] [] [] (lE h)
      ·obtain⟨x14,hx14,h⟩:=bd h
       exact rk hC ([oV (xU G hx13)]++rT 4 c7++[oN rY more,oT c7,oV (aBL G hx14),oT c7]) [4,65,66,67,68,69,70,71,72,73,74] [(4,vB x14)] [] [] (lE h)
     ·obtain rfl:=so h
      exact qr eR
end Go.Lift
