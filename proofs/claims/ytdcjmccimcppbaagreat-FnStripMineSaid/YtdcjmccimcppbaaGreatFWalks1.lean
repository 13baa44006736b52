/- The walks: the code computes what the plain functions say. -/
import Derived.Test.YtdcjmccimcppbaaGreatFModels
import Derived.Test.YtdcjmccimcppbaaGreatFWalks0
set_option maxRecDepth 10000
set_option linter.unusedVariables false
namespace Go.Lift
open Go Go.Proofs
variable (G:GS) {n:Nat}
theorem T7{s}{r}(h:sB n s=some r):PQ G 354 [V.agg (cS s)] (vS r):=by
 unfold sB at h
 refine pq aO Tryz.func354 rfl fun w X hC=> ?_
 refine rq hC [.z (.b (true))] [1,2] [(1,V.tp (oW s))] [] [] (qs ?_)
 obtain⟨x1,hx1,h⟩:=bd h
 refine rq hC [oV (qG G hx1)] [3,4,5] [(5,vB (!x1))] [] [] (aS h (fun c1 h=> ?_) (fun c1 h=> ?_))
 ·obtain rfl:=so h
  exact rq hC [] [2] [(2,vS [])] [] [] (qr eR)
 ·refine qk (qs ?_)
  obtain⟨x2,hx2,x3,hx3,x4,hx4,h⟩:=kX h
  obtain⟨x5,hx5,h⟩:=bd h
  obtain rfl:=so h
  exact dk hC bA [oV (mK G hx2),oS hx3,oV (S4 G n s.value hx4),oS hx5] [2,6,7,8,9,10,11,12,13] [(2,vS x5)] [] [] (qr eR)
theorem wH{text}{r}(h:mX n text=some r):PQ G 325 [vS text] (V.tup [V.agg (cS r.1),vB r.2]):=by
 unfold mX at h
 refine pq aO Tryz.func325 rfl fun w X hC=> ?_
 refine rq hC [.z (.nat 20)] [2,3] [(2,V.ref 20 0)] [(20,sc [vS [],V.t T.nilS,vI 0,vI 0,V.t T.nilS,vI 0,vS [],V.t T.nilS,V.t T.nilS])] [(20,true)] (qs (rq hC [] [9,10,11] [(11,vB (decide ((text.length:Int)<4)))] [] [] (aS h (fun c1 h=> ?_) (fun c1 h=> ?_))))
 ·obtain rfl:=so h
  exact rq hC [] [3,12] [(3,vB false)] [(20,sc [vS [],V.t T.nilS,vI 0,vI 0,V.t T.nilS,vI 0,vS [],V.t T.nilS,V.t T.nilS])] [] (qr eR)
 ·refine qk ?_
  obtain⟨x1,hx1,h⟩:=bd h
  refine rq hC [oV (qA G hx1),.z (.nat 21)] [4,5,13,14,15,16,17] [(4,V.ref 21 0),(5,vI x1.2)] [(21,some (E.cells (cF x1.1)))] [(21,true)] (qs (vj h (fun x_=>aX [(0,vS text),(2,V.ref 20 0),(4,V.ref 21 0),(5,vI x1.2),(25,vB x_)] [(20,E.cells [vS [],V.t T.nilS,vI 0,vI 0,V.t T.nilS,vI 0,vS [],V.t T.nilS,V.t T.nilS]),(21,E.cells (cF x1.1))] [20,21]) (fun j2 h=> ?_) (fun x3 h=> ?_)))
  ·
   refine aQ h (fun c2 h=> ?_) (fun c2 h=> ?_)
   ·exact rk hC (rF 5 c2) (fr 18 8) [(25,vB (decide ((text.length:Int)≤x1.2)))] [] [] (lE h)
   ·exact rk hC (rT 5 c2) (fr 18 8) [(25,vB true)] [] [] (lE h)
  ·refine aS h (fun c3 h=> ?_) (fun c3 h=> ?_)
   ·obtain rfl:=so h
    exact rq hC [] [3,26] [(3,vB false)] [(20,sc [vS [],V.t T.nilS,vI 0,vI 0,V.t T.nilS,vI 0,vS [],V.t T.nilS,V.t T.nilS])] [] (qr eR)
   ·refine qk ?_
    obtain⟨x4,hx4,h⟩:=bd h
    refine rq hC [oV (aCG G n text (wr (x1.2+1)) 5 hx4),.z (.nat 22)] [6,7,27,28,29,30,31,32,33] [(6,V.ref 22 0)] [(22,some (E.cells (cU x4.1)))] [(22,true)] (rq hC [.z (.nat 23)] [8,34,35,36] [(8,V.ref 23 0)] [(23,sc [vS x1.1.array,vM aA x1.1.subs,vI x4.1.kind,vI x4.1.num,vM rI x4.1.index.coefs,vI x4.1.index.const,vS x4.1.read.array,vM aA x4.1.read.subs,vM aI x4.1.kids])] [(23,true)] (qs ?_))
    obtain⟨x5,hx5,h⟩:=bd h
    refine rq hC [oV (T7 G hx5)] (fr 37 4) [(40,vB (!decide (x5=text)))] [] [] (aS h (fun c4 h=> ?_) (fun c4 h=> ?_))
    ·obtain rfl:=so h
     exact rq hC [] [3,41] [(3,vB false)] [(20,sc [vS [],V.t T.nilS,vI 0,vI 0,V.t T.nilS,vI 0,vS [],V.t T.nilS,V.t T.nilS])] [] (qr eR)
    ·obtain rfl:=so h
     exact qk (rq hC [] [3,42] [(3,vB true)] [(20,sc [vS x1.1.array,vM aA x1.1.subs,vI x4.1.kind,vI x4.1.num,vM rI x4.1.index.coefs,vI x4.1.index.const,vS x4.1.read.array,vM aA x4.1.read.subs,vM aI x4.1.kids])] [] (qr eR))
def uK:List Nd:=[⟨46,2,[(0,1),(1,2)]⟩,⟨123,2,[]⟩,⟨84,9,[]⟩]
theorem aEf(G:GS)(n:Nat)(p:Prog)(line:List UInt8)(g0 g1:Nat){r:Prog}(h:L7 n p line=some r):VQ G 278 [ar 90 g0 2 aJ p.arrays,E.tree uK 0 g1 (List.map aD p.parts) []] [V.agg [ms 0 g0 2 aJ p.arrays,ms 1 g1 2 aD p.parts],vS line] (V.agg [ms 0 (g0+1) 2 aJ r.arrays,ms 1 (g1+1) 2 aD r.parts]) [ar 90 (g0+1) 2 aJ r.arrays,E.tree uK 0 (g1+1) (List.map aD r.parts) []]:=by
 unfold L7 at h
 refine vq aO Tryz.func278 rfl fun w X β0 hC hg=> ?_
 refine rq hC [.z (.nat 20),.z (.nat 21)] [0,2,4] [(2,V.ref 20 0),(4,V.ref 21 0)] [(20,sc [ms 0 g0 2 aJ p.arrays,ms 1 g1 2 aD p.parts]),(21,sc [V.t T.nilS,V.t T.nilS])] [(20,true),(21,true)] ?_
 obtain⟨x1,hx1,h⟩:=bd h
 refine rq hC [oC [] [22] (y7 G hx1)] [5,11,12] [(5,ms 22 1 1 rS x1)] [(22,some (ar 9 1 1 rS x1))] [(22,true)] (rq hC [oN aD p.parts] [6,13,14,15,16] [(6,vI (wr ((p.parts.length:Int)-1)))] [] [] (qw (lk hC [.fz 22 [5] []] [5] [(5,vM rS x1)] [(22,none)] []) (qs (qb (vj h (fun x_=>aX [(1,vS line),(2,V.ref 20 0),(4,V.ref 21 0),(5,vM rS x1),(6,vI (wr ((p.parts.length:Int)-1))),(17,vB x_)] [(0,ar 90 g0 2 aJ p.arrays),(1,E.tree uK 0 g1 (List.map aD p.parts) []),(20,E.cells [ms 0 g0 2 aJ p.arrays,ms 1 g1 2 aD p.parts]),(21,E.cells [V.t T.nilS,V.t T.nilS])] [0,1,20,21,22]) (fun j2 h=> ?_) (fun x4 h=> ?_))))))
 ·
  refine aQ h (fun c1 h=> ?_) (fun c1 h=> ?_)
  ·exact rk hC ([oN rS x1]++rF 5 c1) (fr 17 10) [(17,vB false)] [] [] (lE h)
  ·obtain⟨x3,hx3,h⟩:=bd h
   exact rk hC ([oN rS x1,oT c1,oT c1,oR rS hx3]++rT 3 c1) (fr 17 10) [(17,vB (decide (x3=[97,114,114,97,121])))] [] [] (lE h)
 ·refine aS h (fun c2 h=> ?_) (fun c2 h=> ?_)
  ·obtain⟨x5,hx5,x6,hx6,h⟩:=cO h
   obtain rfl:=so h
   exact dk hC bA [oV (aCB G hx5),.z (.int 0),oA (aP aJ hx6),oQ (bW (r:=aJ) 2 gU p.arrays),oQ (bW (r:=aJ) 2 gU [x5])] (fr 27 7) [] [(0,some (ar 90 (g0+1) 2 aJ x6)),(20,sc [ms 0 (g0+1) 2 aJ x6,ms 1 g1 2 aD p.parts])] [] (rq hC [] [98] [] [(21,sc [ms 0 (g0+1) 2 aJ x6,ms 1 g1 2 aD p.parts])] [] (qw (d5 21 1 1 g1 g1 2 0 (List.map aD p.parts).length (e:=E.tree uK 0 g1 (List.map aD p.parts) []) (cs:=[ms 0 (g0+1) 2 aJ x6,ms 1 g1 2 aD p.parts]) rfl (by kernel_rfl) (by kernel_rfl) (by kernel_rfl) (by kernel_rfl) rfl rfl hg.2.1) (qr eW)))
  ·refine rq hC [] [34,35,36] [(34,vB (decide (line=[112,97,114,116])))] [] [] (aS h (fun c3 h=> ?_) (fun c3 h=> ?_))
   ·obtain⟨x7,hx7,h⟩:=bd h
    obtain rfl:=so h
    exact rk hC [.z (.at 4),.z (.growa 39 0 24 123),.z (.growa 39 1 25 84),.z (.lt 26 uK 0),.z (.rows (List.map aD (p.parts++[(⟨[],[]⟩:Part)]))),.z (.at 2),.z (.tre 24 uK 1),.z (.unf 1 24 (aD (⟨[],[]⟩:Part)) (List.map aD (p.parts++[(⟨[],[]⟩:Part)]))),.z (.tre 25 uK 2),.z (.unf 1 25 (aD (⟨[],[]⟩:Part)) (List.map aD x7)),.z (.len 41 (List.map aD x7).length),oQ (Eq.refl (ndOf uK 0)),oQ (aH7 aD (⟨[],[]⟩:Part) hx7),oQ (bW (r:=aD) 2 cB p.parts),oQ (bW (r:=aD) 2 cB [(⟨[],[]⟩:Part)]),oQ (Eq.refl (List.map aC []).length),oQ (Eq.refl uK),oQ (aAR aD p.parts (⟨[],[]⟩:Part)),oQ (aGD aD p.parts (ph:=(⟨[],[]⟩:Part)) (y:=(⟨[],[]⟩:Part)) rfl),oQ (Eq.refl (List.map aG []).length),oQ (Eq.refl uK),oQ (aAR aD p.parts (⟨[],[]⟩:Part)),oQ (aBW aD hx7 (ph:=(⟨[],[]⟩:Part)) rfl),oQ (aG0 aD (⟨[],[]⟩:Part) hx7)] (fr 37 6) [] [(24,none),(25,none),(26,some (E.tree uK 0 1 (List.map aD [(⟨[],[]⟩:Part)]) [(0,0,ms 24 1 2 aC []),(0,1,ms 25 1 9 aG [])])),(1,some (E.tree uK 0 (g1+1) (List.map aD x7) [])),(20,sc [ms 0 g0 2 aJ p.arrays,ms 1 (g1+1) 2 aD x7])] [(24,true),(25,true),(26,true)] (rq hC [] [98] [] [(21,sc [ms 0 g0 2 aJ p.arrays,ms 1 (g1+1) 2 aD x7])] [] (qw (d5 21 0 0 g0 g0 2 0 (List.map aJ p.arrays).length (e:= .arr 90 g0 2 (List.map aJ p.arrays)) (cs:=[ms 0 g0 2 aJ p.arrays,ms 1 (g1+1) 2 aD x7]) rfl (by kernel_rfl) (by kernel_rfl) (by kernel_rfl) (by kernel_rfl) rfl rfl hg.1) (qr eW)))
   ·refine vj h (fun x_=>aX [(1,vS line),(2,V.ref 20 0),(4,V.ref 21 0),(6,vI (wr ((p.parts.length:Int)-1))),(43,vB x_)] [(0,ar 90 g0 2 aJ p.arrays),(1,E.tree uK 0 g1 (List.map aD p.parts) []),(20,E.cells [ms 0 g0 2 aJ p.arrays,ms 1 g1 2 aD p.parts]),(21,E.cells [V.t T.nilS,V.t T.nilS])] [0,1,20,21,22]) (fun j6 h=> ?_) (fun x8 h=> ?_)
    ·
     refine aQ h (fun c4 h=> ?_) (fun c4 h=> ?_)
     ·exact rk hC (rF 4 c4++sF 5) (fr 43 14) [(43,vB false)] [] [] (lE h)
     ·refine aQ h (fun c5 h=> ?_) (fun c5 h=> ?_)
      ·exact rk hC ([oT c4,oT c4,oN rS x1,oT c4,oT c4]++rF 5 c5) (fr 43 14) [(43,vB false)] [] [] (lE h)
      ·obtain⟨x7,hx7,h⟩:=bd h
       exact rk hC ([oT c4,oT c4,oN rS x1,oT c4,oT c4,oT c5,oT c5,oR rS hx7]++rT 3 c5) (fr 43 14) [(43,vB (decide (x7=[102,111,114])))] [] [] (lE h)
    ·refine aS h (fun c6 h=> ?_) (fun c6 h=> ?_)
     ·obtain⟨x9,hx9,h⟩:=bd h
      refine rq hC [.z (.foc 1 24 (0+Int.toNat (wr ((p.parts.length:Int)-1))) 0 (aD x9)),.z (.foc 1 25 (0+Int.toNat (wr ((p.parts.length:Int)-1))) 1 (aD x9)),oX aD hx9,.z (.nat 23),oQ (rR aD hx9),oQ (mO aD hx9),oQ (rR aD hx9)] [7,57,58,59,60,61] [(7,V.ref 23 0)] [(1,some (E.tree uK 0 g1 (List.map aD p.parts) [((0+Int.toNat (wr ((p.parts.length:Int)-1))),1,ms 25 1 9 aG x9.body),((0+Int.toNat (wr ((p.parts.length:Int)-1))),0,ms 24 1 2 aC x9.nest)])),(24,some (E.tree uK 1 1 (List.map aC x9.nest) [])),(25,some (E.tree uK 2 1 (List.map aG x9.body) [])),(23,sc [ms 24 1 2 aC x9.nest,ms 25 1 9 aG x9.body])] [(24,true),(25,true),(23,true)] (qw (lk hC [.shd 24] [] [] [(24,some (ar 123 1 2 aC x9.nest))] []) (qs ?_))
      obtain⟨x10,hx10,x13,hx13,x14,hx14,h⟩:=kX h
      obtain rfl:=so h
      exact dk hC bA [oV (aEn G hx10),.z (.int 0),oA (aP aC hx13),oQ (bW (r:=aC) 2 bL x9.nest),oQ (bW (r:=aC) 2 bL [x10])] (fr 62 7) [] [(24,some (ar 123 2 2 aC x13)),(23,sc [ms 24 2 2 aC x13,ms 25 1 9 aG x9.body])] [] (rk hC [oQ (mO aD hx9),oX aD hx9,.z (.unf 1 25 (aD x9) (List.map aD p.parts)),.z (.tre 24 uK 1),.z (.unf 1 24 (aD x9) (List.map aD x14)),.z (.lenc 20 1 (List.map aD x14).length),oQ (Eq.refl (List.map aG x9.body).length),oQ (Eq.refl uK),oQ (rR aD hx9),oQ (D5 aD hx9 rfl),oQ (Eq.refl (List.map aC x13).length),oQ (Eq.refl uK),oQ (rR aD hx9),oQ (V5 aD hx14 rfl),oQ (lY aD hx14)] (fr 69 5) [] [(24,none),(25,none),(1,some (E.tree uK 0 g1 (List.map aD x14) [])),(20,sc [ms 0 g0 2 aJ p.arrays,ms 1 g1 2 aD x14])] [] (rq hC [] [98] [] [(21,sc [ms 0 g0 2 aJ p.arrays,ms 1 g1 2 aD x14])] [] (qw (d5 21 0 0 g0 g0 2 0 (List.map aJ p.arrays).length (e:= .arr 90 g0 2 (List.map aJ p.arrays)) (cs:=[ms 0 g0 2 aJ p.arrays,ms 1 g1 2 aD x14]) rfl (by kernel_rfl) (by kernel_rfl) (by kernel_rfl) (by kernel_rfl) rfl rfl hg.1) (qw (d5 21 1 1 g1 g1 2 0 (List.map aD x14).length (e:=E.tree uK 0 g1 (List.map aD x14) []) (cs:=[ms 0 (g0+1) 2 aJ p.arrays,ms 1 g1 2 aD x14]) rfl (by kernel_rfl) (by kernel_rfl) (by kernel_rfl) (by kernel_rfl) rfl rfl hg.2.1) (qr eW)))))
     ·refine rq hC [] [74,75,76] [(74,vB (decide ((0:Int)≤wr ((p.parts.length:Int)-1))))] [] [] (aS h (fun c7 h=> ?_) (fun c7 h=> ?_))
      ·obtain⟨x11,hx11,h⟩:=bd h
       refine rq hC [.z (.foc 1 25 (0+Int.toNat (wr ((p.parts.length:Int)-1))) 1 (aD x11)),.z (.foc 1 26 (0+Int.toNat (wr ((p.parts.length:Int)-1))) 0 (aD x11)),oX aD hx11,.z (.nat 23),oQ (rR aD hx11),oQ (mO aD hx11),oQ (rR aD hx11)] [8,77,78,79,80,81] [(8,V.ref 23 0)] [(1,some (E.tree uK 0 g1 (List.map aD p.parts) [((0+Int.toNat (wr ((p.parts.length:Int)-1))),0,ms 26 1 2 aC x11.nest),((0+Int.toNat (wr ((p.parts.length:Int)-1))),1,ms 25 1 9 aG x11.body)])),(25,some (E.tree uK 2 1 (List.map aG x11.body) [])),(26,some (E.tree uK 1 1 (List.map aC x11.nest) [])),(23,sc [ms 26 1 2 aC x11.nest,ms 25 1 9 aG x11.body])] [(25,true),(26,true),(23,true)] (qw (lk hC [.shd 25] [] [] [(25,some (ar 84 1 9 aG x11.body))] []) ?_)
       obtain⟨x12,hx12,h⟩:=bd h
       refine rq hC [oV (wH G hx12),.z (.nat 24)] [9,10,82,83,84,85,86] [(9,V.ref 24 0)] [(24,some (E.cells (cS x12.1)))] [(24,true)] ?_
       obtain⟨x15,hx15,x16,hx16,h⟩:=cO h
       obtain rfl:=so h
       exact rq hC [.z (.int 0),oA (aP aG hx15),oQ (bW (r:=aG) 9 d6 x11.body),oQ (bW (r:=aG) 9 d6 [x12.1])] (fr 87 6) [] [(25,some (ar 84 2 9 aG x15)),(23,sc [ms 26 1 2 aC x11.nest,ms 25 2 9 aG x15])] [] (rk hC [oQ (mO aD hx11),oX aD hx11,.z (.unf 1 26 (aD x11) (List.map aD p.parts)),.z (.tre 25 uK 2),.z (.unf 1 25 (aD x11) (List.map aD x16)),.z (.lenc 20 1 (List.map aD x16).length),oQ (Eq.refl (List.map aC x11.nest).length),oQ (Eq.refl uK),oQ (rR aD hx11),oQ (D5 aD hx11 rfl),oQ (Eq.refl (List.map aG x15).length),oQ (Eq.refl uK),oQ (rR aD hx11),oQ (V5 aD hx16 rfl),oQ (lY aD hx16)] (fr 93 5) [] [(25,none),(26,none),(1,some (E.tree uK 0 g1 (List.map aD x16) [])),(20,sc [ms 0 g0 2 aJ p.arrays,ms 1 g1 2 aD x16])] [] (rq hC [] [98] [] [(21,sc [ms 0 g0 2 aJ p.arrays,ms 1 g1 2 aD x16])] [] (qw (d5 21 0 0 g0 g0 2 0 (List.map aJ p.arrays).length (e:= .arr 90 g0 2 (List.map aJ p.arrays)) (cs:=[ms 0 g0 2 aJ p.arrays,ms 1 g1 2 aD x16]) rfl (by kernel_rfl) (by kernel_rfl) (by kernel_rfl) (by kernel_rfl) rfl rfl hg.1) (qw (d5 21 1 1 g1 g1 2 0 (List.map aD x16).length (e:=E.tree uK 0 g1 (List.map aD x16) []) (cs:=[ms 0 (g0+1) 2 aJ p.arrays,ms 1 g1 2 aD x16]) rfl (by kernel_rfl) (by kernel_rfl) (by kernel_rfl) (by kernel_rfl) rfl rfl hg.2.1) (qr eW)))))
      ·obtain rfl:=so h
       exact qk (rq hC [] [98] [] [(21,sc [ms 0 g0 2 aJ p.arrays,ms 1 g1 2 aD p.parts])] [] (qw (d5 21 0 0 g0 g0 2 0 (List.map aJ p.arrays).length (e:= .arr 90 g0 2 (List.map aJ p.arrays)) (cs:=[ms 0 g0 2 aJ p.arrays,ms 1 g1 2 aD p.parts]) rfl (by kernel_rfl) (by kernel_rfl) (by kernel_rfl) (by kernel_rfl) rfl rfl hg.1) (qw (d5 21 1 1 g1 g1 2 0 (List.map aD p.parts).length (e:=E.tree uK 0 g1 (List.map aD p.parts) []) (cs:=[ms 0 (g0+1) 2 aJ p.arrays,ms 1 g1 2 aD p.parts]) rfl (by kernel_rfl) (by kernel_rfl) (by kernel_rfl) (by kernel_rfl) rfl rfl hg.2.1) (qr eW))))
theorem aEk{nest}{r}(h:L8 n nest=some r):PQ G 327 [vM aC nest] (vS r):=by
 unfold L8 at h
 refine pq aO Tryz.func327 rfl fun w X hC=> ?_
 refine rq hC [] [2] [] [] [] (rq hC [] [3] [(3,vS [])] [] [] (qs (rq hC [] [4] [(4,vI 0)] [] [] (qb (jN h (fun x_=>aX [(0,vM aC nest),(3,vS x_.1),(4,vI x_.2)] [] []) lS ?_)))))
 rintro again3 ⟨x1,x2⟩ h
 refine qs (rq hC [oN aC nest] (fr 5 4) [(8,vB (decide (x2<(nest.length:Int))))] [] [] (aS h (fun c1 h=> ?_) (fun c1 h=> ?_)))
 ·refine qk (qs (qb ?_))
  obtain⟨x4,hx4,x5,hx5,x6,hx6,h⟩:=kX h
  obtain⟨x7,hx7,x8,hx8,x9,hx9,h⟩:=kX h
  obtain⟨x10,hx10,x11,hx11,h⟩:=cO h
  exact dk hC bA [oS hx4,oR aC hx5,oV (pN G hx6),oS hx7,oS hx8,oR aC hx5,oV (pN G hx9),oS hx10,oS hx11] [3,11,12,13,14,15,16,17,18,19,20,21,22,23,24,25,26,27,28] [(3,vS x11)] [] [] (rk hC [] [4,9,10] [(4,vI (wr (x2+1)))] [] [] (lE h))
 ·obtain rfl:=so h
  exact cW (rq hC [] [2,29] [(2,vS x1)] [] [] (qr eR))
theorem y9{p}{r}(h:nG n p=some r):PQ G 279 [V.agg (bH p)] (vS r):=by
 unfold nG at h
 refine pq aO Tryz.func279 rfl fun w X hC=> ?_
 refine rq hC [.z (.b (true))] [1,2] [(1,V.tp (bO p))] [] [] (qs ?_)
 obtain⟨x1,hx1,h⟩:=bd h
 refine rq hC [oV (dA G hx1)] [9,10,11] [(11,vB (!x1))] [] [] (aS h (fun c1 h=> ?_) (fun c1 h=> ?_))
 ·obtain rfl:=so h
  exact rq hC [] [2] [(2,vS [])] [] [] (qr eR)
 ·refine qk (rq hC [] [3] [(3,vS [112,114,111,103,114,97,109,10])] [] [] (qs (rq hC [] [4] [(4,vI 0)] [] [] (qb (jN h (fun x_=>aX [(1,V.tp (bO p)),(3,vS x_.1),(4,vI x_.2)] [] []) lS ?_)))))
  rintro again4 ⟨x2,x3⟩ h
  refine qs (rq hC [oN aJ p.arrays] (fr 12 5) [(16,vB (decide (x3<(p.arrays.length:Int))))] [] [] (aS h (fun c2 h=> ?_) (fun c2 h=> ?_)))
  ·refine qk (qs (qb ?_))
   obtain⟨x5,hx5,x6,hx6,x7,hx7,h⟩:=kX h
   refine rq hC [oS hx5,oR aJ hx6,oS hx7] [3,19,20,21,22,23,24,25,26,27] [(3,vS x7)] [] [] (qs (rq hC [] [5] [(5,vI 0)] [] [] (qb (jN h (fun x_=>aX [(1,V.tp (bO p)),(3,vS x_.1),(4,vI x3),(5,vI x_.2)] [] []) lS ?_))))
   rintro again10 ⟨x8,x9⟩ h
   refine qs (rq hC [oR aJ hx6,oN rI x6.dims] (fr 28 9) [(36,vB (decide (x9<(x6.dims.length:Int))))] [] [] (aS h (fun c3 h=> ?_) (fun c3 h=> ?_)))
   ·refine qk (qs (qb ?_))
    obtain⟨x11,hx11,x12,hx12,x13,hx13,h⟩:=kX h
    obtain⟨x14,hx14,h⟩:=bd h
    exact rk hC [oS hx11,oR aJ hx6,oR rI hx12,oV (tC G n x12 hx13),oS hx14] [3,39,40,41,42,43,44,45,46,47,48,49,50,51] [(3,vS x14)] [] [] (rk hC [] [5,37,38] [(5,vI (wr (x9+1)))] [] [] (lE h))
   ·refine cW ?_
    obtain⟨x15,hx15,h⟩:=bd h
    exact rk hC [oS hx15] [3,52,53] [(3,vS x15)] [] [] (rk hC [] [4,17,18] [(4,vI (wr (x3+1)))] [] [] (lE h))
  ·refine cW (qs (rq hC [] [6] [(6,vI 0)] [] [] (qb (jN h (fun x_=>aX [(1,V.tp (bO p)),(3,vS x_.1),(6,vI x_.2)] [] []) lS ?_))))
   rintro again18 ⟨x16,x17⟩ h
   refine qs (rq hC [oN aD p.parts] (fr 54 5) [(58,vB (decide (x17<(p.parts.length:Int))))] [] [] (aS h (fun c4 h=> ?_) (fun c4 h=> ?_)))
   ·refine qk (qs (qb ?_))
    obtain⟨x19,hx19,x20,hx20,x21,hx21,h⟩:=kX h
    obtain⟨x22,hx22,h⟩:=bd h
    refine rq hC [oS hx19,oR aD hx20,oV (aEk G hx21),oS hx22] [3,61,62,63,64,65,66,67,68,69,70] [(3,vS x22)] [] [] (rq hC [] [7] [(7,vI 0)] [] [] (qb (jN h (fun x_=>aX [(1,V.tp (bO p)),(3,vS x_.1),(6,vI x17),(7,vI x_.2)] [] []) lS ?_)))
    rintro again25 ⟨x23,x24⟩ h
    refine qs (rq hC [oR aD hx20,oN aG x20.body] (fr 71 9) [(79,vB (decide (x24<(x20.body.length:Int))))] [] [] (aS h (fun c5 h=> ?_) (fun c5 h=> ?_)))
    ·refine qk (qs (qb ?_))
     obtain⟨x26,hx26,h⟩:=bd h
     refine rq hC [oR aD hx20,oR aG hx26,.z (.nat 20)] [8,82,83,84,85,86,87,88,89,90] [(8,V.ref 20 0)] [(20,some (E.cells (cS x26)))] [(20,true)] ?_
     obtain⟨x27,hx27,x28,hx28,x29,hx29,h⟩:=kX h
     obtain⟨x30,hx30,x31,hx31,x32,hx32,h⟩:=kX h
     exact dk hC bA [oV (mK G hx27),oS hx28,oS hx29,oV (S4 G n x26.value hx30),oS hx31,oS hx32] [3,91,92,93,94,95,96,97,98,99,100,101] [(3,vS x32)] [] [] (rk hC [] [7,80,81] [(7,vI (wr (x24+1)))] [] [] (lE h))
    ·exact cW (rk hC [] [6,59,60] [(6,vI (wr (x17+1)))] [] [] (lE h))
   ·obtain rfl:=so h
    exact cW (rq hC [] [2,102] [(2,vS x16)] [] [] (qr eR))
theorem C8{text}{r}(h:eV n text=some r):PQ G 208 [vS text] (V.tup [V.agg (bH r.1),vB r.2]):=by
 unfold eV at h
 refine pq aO Tryz.func208 rfl fun w X hC=> ?_
 refine rq hC [.z (.nat 20)] [2,3] [(2,V.ref 20 0)] [(20,sc [V.t T.nilS,V.t T.nilS])] [(20,true)] ?_
 obtain⟨x1,hx1,h⟩:=bd h
 refine rq hC [oC [] [21] (xK G hx1)] [4,7,8] [(4,ms 21 1 1 rS x1)] [(21,some (ar 9 1 1 rS x1))] [(21,true)] (rq hC [.z (.nat 22)] [5,9] [(5,V.ref 22 0)] [(22,sc [V.t T.nilS,V.t T.nilS])] [(22,true)] (qs (rq hC [oN rS x1] [10,11,12] [(12,vB (decide ((42:Int)<(x1.length:Int))))] [] [] (aS h (fun c1 h=> ?_) (fun c1 h=> ?_)))))
 ·obtain rfl:=so h
  exact rq hC [] [3,13] [(3,vB false)] [(20,sc [V.t T.nilS,V.t T.nilS])] [] (qr eR)
 ·refine qk (qs (rq hC [] [6] [(6,vI 1)] [] [] (qb (qw (lk hC [.growc 22 0 23 90,.growc 22 1 24 46,.tre 24 uK 0] [] [] [(23,some (ar 90 1 2 aJ [])),(24,some (E.tree uK 0 1 (List.map aD []) [])),(22,sc [ms 23 1 2 aJ [],ms 24 1 2 aD []])] [(23,true),(24,true)]) (bF (γ:=Nat×Nat) h (fun x_ g_=>aX [(0,vS text),(2,V.ref 20 0),(4,ms 21 1 1 rS x1),(5,V.ref 22 0),(6,vI x_.2.2)] [(20,E.cells [V.t T.nilS,V.t T.nilS]),(21,ar 9 1 1 rS x1),(22,E.cells [ms 23 g_.1 2 aJ x_.1,ms 24 g_.2 2 aD x_.2.1]),(23,ar 90 g_.1 2 aJ x_.1),(24,E.tree uK 0 g_.2 (List.map aD x_.2.1) [])] [20,21,22,23,24]) (1,1) (lS) ?_)))))
  rintro again5 ⟨x2,x3,x4⟩ ⟨g5,g6⟩ h
  refine qs (rq hC [oN rS x1] (fr 14 5) [(18,vB (decide (wr (x4+1)<(x1.length:Int))))] [] [] (aS h (fun c2 h=> ?_) (fun c2 h=> ?_)))
  ·refine qk (qs (qb ?_))
   obtain⟨x6,hx6,x7,hx7,h⟩:=cO h
   exact dk hC bA [oQ (mO rS hx6),oX rS hx6,oC [23,24] [] (aEf G n (⟨x2,x3⟩:Prog) x6 g5 g6 hx7)] (fr 21 6) [] [(23,some (ar 90 (g5+1) 2 aJ x7.arrays)),(24,some (E.tree uK 0 (g6+1) (List.map aD x7.parts) [])),(22,sc [ms 23 (g5+1) 2 aJ x7.arrays,ms 24 (g6+1) 2 aD x7.parts])] [(23,true),(24,true)] (rk hC [] [6,19,20] [(6,vI (wr (x4+1)))] [] [] ⟨(x7.arrays,x7.parts,wr (x4+1)),(g5+1,g6+1),h,lS⟩)
  ·refine cW (qs (vj h (fun x_=>aX [(2,V.ref 20 0),(5,V.ref 22 0),(34,vB x_)] [(20,E.cells [V.t T.nilS,V.t T.nilS]),(21,ar 9 1 1 rS x1),(22,E.cells [ms 23 g5 2 aJ x2,ms 24 g6 2 aD x3]),(23,ar 90 g5 2 aJ x2),(24,E.tree uK 0 g6 (List.map aD x3) [])] [20,21,22,23,24]) (fun j8 h=> ?_) (fun x10 h=> ?_)))
   ·
    refine aQ h (fun c3 h=> ?_) (fun c3 h=> ?_)
    ·obtain⟨x9,hx9,h⟩:=bd h
     exact rk hC ([oF c3,oF c3,.z (.b true),.z (.nat 23),.z (.nat 24),oV (y9 G hx9)]++rF 3 c3) (fr 27 8) [(34,vB (!decide (x9=text)))] [] [] (lE h)
    ·exact rk hC (rT 5 c3) (fr 27 8) [(34,vB true)] [] [] (lE h)
   ·refine aS h (fun c4 h=> ?_) (fun c4 h=> ?_)
    ·obtain rfl:=so h
     exact rq hC [] [3,35] [(3,vB false)] [(20,sc [V.t T.nilS,V.t T.nilS])] [] (qr eR)
    ·obtain rfl:=so h
     exact qk (qs (qw (lk hC [.fz 23 [] [22],.shd 24,.fz 24 [] [22]] [] [] [(22,sc [vM aJ x2,vM aD x3]),(23,none),(24,none)] []) (rk hC [] [3,36] [(3,vB true)] [(20,sc [vM aJ x2,vM aD x3])] [] (qr eR))))
theorem sX(G:GS)(n:Nat){r:(List Arr)}(h:qS n=some r):PQ G 295 [] (vM aJ r):=by
 unfold qS at h
 refine pq aO Tryz.func295 rfl fun w X hC=> ?_
 obtain rfl:=so h
 exact rq hC [] [0] [] [] [] (rq hC [.z (.int 0),.z (.int 0),.z (.int 0),.z (.int 0)] (fr 0 8) [(0,vM aJ [(⟨[65],[6]⟩:Arr),(⟨[66],[4,5]⟩:Arr),(⟨[67],[3]⟩:Arr)])] [] [] (qr eR))
theorem b8{n_a0}{r}(h:cE n n_a0=some r):VQ G 100 [] [vI n_a0] (V.agg [ms 0 1 1 rI r.coefs,vI r.const]) [ar 3 1 1 rI r.coefs]:=by
 unfold cE at h
 refine vq aO Tryz.func100 rfl fun w X β0 hC hg=> ?_
 refine rq hC [.z (.nat 20)] [2] [(2,V.ref 20 0)] [(20,sc [V.t T.nilS,vI 0])] [(20,true)] ?_
 obtain⟨x1,hx1,h⟩:=bd h
 obtain rfl:=so h
 exact rq hC [oC [] [21] (kO G n hx1),.z (.nat 22)] [3,4] [(3,V.ref 22 0)] [(21,some (ar 3 1 1 rI x1.coefs)),(22,sc [ms 21 1 1 rI x1.coefs,vI x1.const])] [(21,true),(22,true)] (rq hC [] [5,6] [] [(22,sc [ms 21 1 1 rI x1.coefs,vI n_a0])] [] (rq hC [] [7] [] [(20,sc [ms 21 1 1 rI x1.coefs,vI n_a0])] [] (qw (lk hC [.rn 21 0 [] [20,22]] [] [] [(20,sc [ms 0 1 1 rI x1.coefs,vI n_a0]),(22,sc [ms 0 1 1 rI x1.coefs,vI n_a0]),(21,none),(0,some (ar 3 1 1 rI x1.coefs))] [(0,true)]) (qr eW))))
theorem oL{v}{r}(h:lB n v=some r):VQ G 119 [] [vI v] (V.agg [ms 0 1 1 rI r.coefs,vI r.const]) [ar 3 1 1 rI r.coefs]:=by
 unfold lB at h
 refine vq aO Tryz.func119 rfl fun w X β0 hC hg=> ?_
 refine rq hC [.z (.nat 20)] [2] [(2,V.ref 20 0)] [(20,sc [V.t T.nilS,vI 0])] [(20,true)] ?_
 obtain⟨x1,hx1,h⟩:=bd h
 refine rq hC [oC [] [21] (kO G n hx1),.z (.nat 22)] [3,4] [(3,V.ref 22 0)] [(21,some (ar 3 1 1 rI x1.coefs)),(22,sc [ms 21 1 1 rI x1.coefs,vI x1.const])] [(21,true),(22,true)] ?_
 obtain⟨x2,hx2,x3,hx3,h⟩:=cO h
 obtain rfl:=so h
 exact rq hC [oQ (mO rI hx2),oX rI hx2,.z (.rows (List.map rI x3)),.z (.lenc 22 0 (List.map rI x3).length),oQ (str rI hx3),oQ (lY rI hx3)] (fr 5 4) [] [(21,some (ar 3 1 1 rI x3)),(22,sc [ms 21 1 1 rI x3,vI x1.const])] [] (rq hC [] [9] [] [(20,sc [ms 21 1 1 rI x3,vI x1.const])] [] (qw (lk hC [.rn 21 0 [] [20,22]] [] [] [(20,sc [ms 0 1 1 rI x3,vI x1.const]),(22,sc [ms 0 1 1 rI x3,vI x1.const]),(21,none),(0,some (ar 3 1 1 rI x3))] [(0,true)]) (qr eW)))
theorem jZ{a}{x}{b}{y}{r}(h:dU n a x b y=some r):VQ G 118 [] [V.agg (aK a),vI x,V.agg (aK b),vI y] (V.agg [ms 0 1 1 rI r.coefs,vI r.const]) [ar 3 1 1 rI r.coefs]:=by
 unfold dU at h
 refine vq aO Tryz.func118 rfl fun w X β0 hC hg=> ?_
 refine rq hC [.z (.b (true)),.z (.b (true)),.z (.nat 20)] [4,6,8] [(4,V.tp (aT a)),(6,V.tp (aT b)),(8,V.ref 20 0)] [(20,sc [V.t T.nilS,vI 0])] [(20,true)] (rq hC [.z (.nat 21)] [9,11,12,13,14,15,16,17,18,19,20] [(9,V.ref 21 0)] [(21,sc [V.t T.nilS,vI (wr ((wr (x*a.const))+(wr (y*b.const))))])] [(21,true)] (qs (rq hC [] [10] [(10,vI 0)] [] [] (qb (qw (lk hC [.growc 21 0 22 3] [] [] [(22,some (ar 3 1 1 rI [])),(21,sc [ms 22 1 1 rI [],vI (wr ((wr (x*a.const))+(wr (y*b.const))))])] [(22,true)]) ?_)))))
 refine bF (γ:=Nat) h (fun x_ g_=>aX [(1,vI x),(3,vI y),(4,V.tp (aT a)),(6,V.tp (aT b)),(8,V.ref 20 0),(9,V.ref 21 0),(10,vI x_.2)] [(20,E.cells [V.t T.nilS,vI 0]),(21,E.cells [ms 22 g_ 1 rI x_.1,vI (wr ((wr (x*a.const))+(wr (y*b.const))))]),(22,ar 3 g_ 1 rI x_.1)] [20,21,22]) 1 (lS) ?_
 rintro again4 ⟨x1,x2⟩ g3 h
 refine qs (rq hC [] [21,22] [(22,vB (decide (x2<4)))] [] [] (aS h (fun c1 h=> ?_) (fun c1 h=> ?_)))
 ·refine qk (qs (qb ?_))
  obtain⟨x5,hx5,x6,hx6,x7,hx7,h⟩:=kX h
  exact dk hC bA [oR rI hx5,oR rI hx6,.z (.int 0),oA (aP rI hx7),oQ (bW (r:=rI) 1 (fun _=>rfl) x1),oQ (bW (r:=rI) 1 (fun _=>rfl) [wr ((wr (x*x5))+(wr (y*x6)))])] (fr 25 20) [] [(22,some (ar 3 (g3+1) 1 rI x7)),(21,sc [ms 22 (g3+1) 1 rI x7,vI (wr ((wr (x*a.const))+(wr (y*b.const))))])] [] (rk hC [] [10,23,24] [(10,vI (wr (x2+1)))] [] [] ⟨(x7,wr (x2+1)),(g3+1),h,lS⟩)
 ·obtain rfl:=so h
  exact cW (rq hC [] [45] [] [(20,sc [ms 22 g3 1 rI x1,vI (wr ((wr (x*a.const))+(wr (y*b.const))))])] [] (qw (lk hC [.rn 22 0 [] [20,21]] [] [] [(20,sc [ms 0 1 1 rI x1,vI (wr ((wr (x*a.const))+(wr (y*b.const))))]),(21,sc [ms 0 1 1 rI x1,vI (wr ((wr (x*a.const))+(wr (y*b.const))))]),(22,none),(0,some (ar 3 1 1 rI x1))] [(0,true)]) (qr eW)))
theorem aEm{r_a0}{depth}{r}(h:uD n r_a0 depth=some r):VQ G 366 [eL r_a0] [V.ref 0 0,vI depth] (V.agg (gX r.1)) [eL r.2]:=by
 unfold uD at h
 refine vq aO Tryz.func366 rfl fun w X β0 hC hg=> ?_
 refine rq hC [.z (.nat 20)] [4] [(4,V.ref 20 0)] [(20,sc [V.t T.nilS,V.t T.nilS])] [(20,true)] ?_
 obtain⟨x1,hx1,x2,hx2,h⟩:=cO h
 refine rq hC [.z (.int 0),oC [0] [] (bC G hx1),oC [] [21] (b8 G hx2),.z (.nat 22)] [5,9,10,11,12] [(5,V.ref 22 0)] [(0,sR x1.2),(21,some (ar 3 1 1 rI x2.coefs)),(22,sc [ms 21 1 1 rI x2.coefs,vI x2.const])] [(0,true),(21,true),(22,true)] ?_
 obtain⟨x3,hx3,x4,hx4,h⟩:=cO h
 refine rq hC [.z (.int 0),oC [0] [] (bC G hx3),oC [] [23] (b8 G hx4),.z (.nat 24)] [6,13,14,15,16] [(6,V.ref 24 0)] [(0,sR x3.2),(23,some (ar 3 1 1 rI x4.coefs)),(24,sc [ms 23 1 1 rI x4.coefs,vI x4.const])] [(0,true),(23,true),(24,true)] (vj h (fun x_=>aX [(0,V.ref 0 0),(4,V.ref 20 0),(5,V.ref 22 0),(6,V.ref 24 0)] [(0,E.cells [vM rY x_.1,vI x_.2.1]),(20,E.cells [V.t T.nilS,V.t T.nilS]),(22,E.cells [vM rI x_.2.2.1,vI x_.2.2.2.1]),(24,E.cells [vM rI x_.2.2.2.2.1,vI x_.2.2.2.2.2])] [0,20,21,22,23,24]) (fun j5 h=> ?_) ?_)
 ·
  refine vj h (fun x_=>aX [(0,V.ref 0 0),(1,vI depth),(4,V.ref 20 0),(5,V.ref 22 0),(6,V.ref 24 0),(23,vB x_.2.2)] [(0,E.cells [vM rY x_.1,vI x_.2.1]),(20,E.cells [V.t T.nilS,V.t T.nilS]),(21,ar 3 1 1 rI x2.coefs),(22,E.cells [ms 21 1 1 rI x2.coefs,vI x2.const]),(23,ar 3 1 1 rI x4.coefs),(24,E.cells [ms 23 1 1 rI x4.coefs,vI x4.const])] [0,20,21,22,23,24]) (fun j6 h=> ?_) ?_
  ·
   refine aQ h (fun c1 h=> ?_) (fun c1 h=> ?_)
   ·exact rk hC (rF 4 c1) (fr 17 7) [(23,vB false)] [] [] (lE h)
   ·obtain⟨x7,hx7,h⟩:=bd h
    exact rk hC [oT c1,oT c1,oC [0] [] (bQ G hx7),oT c1,oT c1] (fr 17 7) [(23,vB (decide (x7.1=0)))] [(0,sR x7.2)] [(0,true)] (lE h)
  ·rintro⟨x8,x9,x10⟩ h
   refine aS h (fun c2 h=> ?_) (fun c2 h=> ?_)
   ·obtain⟨x11,hx11,h⟩:=bd h
    refine rq hC [oC [0] [] (bQ G hx11)] [7,24,25,26] [(7,vI x11.1)] [(0,sR x11.2)] [(0,true)] ?_
    obtain⟨x12,hx12,h⟩:=bd h
    refine rq hC [oC [0] [] (bQ G hx12)] [27,28,29] [(29,vB (decide (x12.1=0)))] [(0,sR x12.2)] [(0,true)] (aS h (fun c3 h=> ?_) (fun c3 h=> ?_))
    ·obtain⟨x13,hx13,h⟩:=bd h
     exact rk hC [oC [] [25] (oL G hx13)] [30,31] [] [(25,some (ar 3 1 1 rI x13.coefs)),(22,sc [ms 25 1 1 rI x13.coefs,vI x13.const])] [(25,true)] ⟨(x12.2.b,x12.2.p,x13.coefs,x13.const,x4.coefs,x4.const),h,((lk hC [.fz 23 [] [24],.fz 25 [] [22]] [] [] [(24,some (E.cells (aK x4))),(23,none),(22,some (E.cells (aK x13))),(25,none)] []).trans (lS))⟩
    ·obtain⟨x14,hx14,x15,hx15,x16,hx16,h⟩:=kX h
     exact rk hC [oC [] [25] (oL G hx14),oC [] [26] (b8 G hx15),.z (.at 2),.z (.fz 25 [33] []),.z (.at 2),.z (.fz 26 [34] []),oC [] [27] (jZ G hx16)] (fr 32 4) [] [(25,none),(26,none),(27,some (ar 3 1 1 rI x16.coefs)),(24,sc [ms 27 1 1 rI x16.coefs,vI x16.const])] [(25,true),(26,true),(27,true)] ⟨(x12.2.b,x12.2.p,x2.coefs,x2.const,x16.coefs,x16.const),h,((lk hC [.fz 21 [] [22],.fz 27 [] [24]] [] [] [(22,some (E.cells (aK x2))),(21,none),(24,some (E.cells (aK x16))),(27,none)] []).trans (lS))⟩
   ·exact qk ⟨(x8,x9,x2.coefs,x2.const,x4.coefs,x4.const),h,((lk hC [.fz 21 [] [22],.fz 23 [] [24]] [] [] [(22,some (E.cells (aK x2))),(21,none),(24,some (E.cells (aK x4))),(23,none)] []).trans (lS))⟩
 ·rintro⟨x17,x18,x19,x20,x21,x22⟩ h
  refine rq hC [.z (.int 1),.z (.nat 25),.z (.int 1),.z (.nat 26),.z (.nat 27)] [8,36,37,38,39,40] [(8,V.ref 27 0)] [(25,some (ar 79 1 2 aA [(⟨x19,x20⟩:Affine)])),(26,some (ar 79 1 2 aA [(⟨x21,x22⟩:Affine)])),(27,sc [ms 25 1 2 aA [(⟨x19,x20⟩:Affine)],ms 26 1 2 aA [(⟨x21,x22⟩:Affine)]])] [(25,true),(26,true),(27,true)] ?_
  obtain⟨j23,hj23,h⟩:=W0 h
  refine oU (γ:=Nat×Nat) (j:=j23) (r:=r) (fun x_ g_=>aX [(4,V.ref 20 0),(8,V.ref 27 0)] [(0,E.cells [vM rY x_.1,vI x_.2.1]),(20,E.cells [V.t T.nilS,V.t T.nilS]),(22,E.cells [vM rI x19,vI x20]),(24,E.cells [vM rI x21,vI x22]),(25,ar 79 g_.1 2 aA x_.2.2.1),(26,ar 79 g_.2 2 aA x_.2.2.2),(27,E.cells [ms 25 g_.1 2 aA x_.2.2.1,ms 26 g_.2 2 aA x_.2.2.2])] [0,20,21,22,23,24,25,26,27]) ?_ ?_
  ·
   obtain⟨x24,hx24,h⟩:=bd h
   refine rq hC [oC [0] [] (bQ G hx24)] [41,42] [(42,vI x24.1)] [(0,sR x24.2)] [(0,true)] (qb (rq hC [] [43,44] [(43,vB (decide (x24.1=0)))] [] [] (aS h (fun c4 h=> ?_) (fun c4 h=> ?_))))
   ·obtain⟨x25,hx25,x26,hx26,x27,hx27,h⟩:=kX h
    exact dk hC bA [.z (.int 0),oC [0] [] (bC G hx25),oC [] [28] (b8 G hx26),.z (.at 4),.z (.fz 28 [50] []),.z (.int 0),oA (aP aA hx27),oQ (bW (r:=aA) 2 aW [(⟨x21,x22⟩:Affine)]),oQ (bW (r:=aA) 2 aW [x26])] (fr 45 9) [] [(0,sR x25.2),(28,none),(26,some (ar 79 2 2 aA x27)),(27,sc [ms 25 1 2 aA [(⟨x19,x20⟩:Affine)],ms 26 2 2 aA x27])] [(0,true),(28,true)] ⟨(x25.2.b,x25.2.p,[(⟨x19,x20⟩:Affine)],x27),(1,2),h,lS⟩
   ·refine rq hC [] [54,55] [(54,vB (decide (x24.1=1)))] [] [] (aS h (fun c5 h=> ?_) (fun c5 h=> ?_))
    ·obtain⟨x28,hx28,x29,hx29,x30,hx30,h⟩:=kX h
     exact dk hC bA [.z (.int 0),oC [0] [] (bC G hx28),oC [] [28] (b8 G hx29),.z (.at 4),.z (.fz 28 [61] []),.z (.int 0),oA (aP aA hx30),oQ (bW (r:=aA) 2 aW [(⟨x19,x20⟩:Affine)]),oQ (bW (r:=aA) 2 aW [x29])] (fr 56 9) [] [(0,sR x28.2),(28,none),(25,some (ar 79 2 2 aA x30)),(27,sc [ms 25 2 2 aA x30,ms 26 1 2 aA [(⟨x21,x22⟩:Affine)]])] [(0,true),(28,true)] ⟨(x28.2.b,x28.2.p,x30,[(⟨x21,x22⟩:Affine)]),(2,1),h,lS⟩
    ·exact qk ⟨(x24.2.b,x24.2.p,[(⟨x19,x20⟩:Affine)],[(⟨x21,x22⟩:Affine)]),(1,1),h,lS⟩
  ·rintro⟨x31,x32,x33,x34⟩ ⟨g35,g36⟩ h
   subst hj23
   obtain rfl:=so h
   exact rq hC [.z (.at 2),.z (.fz 25 [] [27]),.z (.at 2),.z (.fz 26 [] [27])] [65] [] [(27,sc [vM aA x33,vM aA x34]),(25,none),(26,none),(20,sc [vM aA x33,vM aA x34])] [] (qr eW)
theorem aEl{r_a0}{r}(h:uC n r_a0=some r):VQ G 336 [eL r_a0] [V.ref 0 0] (ms 1 1 2 aC r.1) [eL r.2,ar 123 1 2 aC r.1]:=by
 unfold uC at h
 refine vq aO Tryz.func336 rfl fun w X β0 hC hg=> ?_
 refine rq hC [] [2] [] [] [] (rq hC [.z (.nat 20)] [3,5] [(3,ms 20 1 2 aC [])] [(20,some (ar 123 1 2 aC []))] [(20,true)] (qs ?_))
 obtain⟨x1,hx1,h⟩:=bd h
 refine rq hC [.z (.int 0),oC [0] [] (bC G hx1)] [4,6,7,8] [(4,vI x1.1)] [(0,sR x1.2)] [(0,true)] (qb (bF (γ:=Nat) h (fun x_ g_=>aX [(0,V.ref 0 0),(3,ms 20 g_ 2 aC x_.2.2.1),(4,vI x_.2.2.2)] [(0,E.cells [vM rY x_.1,vI x_.2.1]),(20,ar 123 g_ 2 aC x_.2.2.1)] [0,20]) 1 (lS) ?_))
 rintro again7 ⟨x2,x3,x4,x5⟩ g6 h
 refine qs (rq hC [] [9,10] [(10,vB (decide ((0:Int)<x5)))] [] [] (aS h (fun c1 h=> ?_) (fun c1 h=> ?_)))
 ·refine qk (qs (qb ?_))
  obtain⟨x8,hx8,x9,hx9,h⟩:=cO h
  exact rk hC [oN aC x4,oC [0] [] (aEm G hx8),.z (.int 0),oA (aP aC hx9),oQ (bW (r:=aC) 2 bL x4),oQ (bW (r:=aC) 2 bL [x8.1])] [3,13,14,15,16,17,18,19] [(3,ms 20 (g6+1) 2 aC x9)] [(0,sR x8.2),(20,some (ar 123 (g6+1) 2 aC x9))] [(0,true)] (rk hC [] [4,11,12] [(4,vI (wr (x5-1)))] [] [] ⟨(x8.2.b,x8.2.p,x9,wr (x5-1)),(g6+1),h,lS⟩)
 ·obtain rfl:=so h
  exact cW (rq hC [] [2,20] [(2,ms 20 g6 2 aC x4)] [] [] (qw (lk hC [.ren 2 20 1] [2] [(2,ms 1 1 2 aC x4)] [(1,some (ar 123 1 2 aC x4)),(20,none)] [(1,true)]) (qr eW)))
theorem nY{r_a0}{list}{r}(h:gJ n r_a0 list=some r):VQ G 151 [eL r_a0] [V.ref 0 0,vM rS list] (vS r.1) [eL r.2]:=by
 unfold gJ at h
 refine vq aO Tryz.func151 rfl fun w X β0 hC hg=> ?_
 refine rq hC [] [4] [] [] [] ?_
 obtain⟨x1,hx1,x2,hx2,h⟩:=cO h
 obtain rfl:=so h
 exact rq hC [oN rS list,oC [0] [] (bQ G hx1),oR rS hx2] (fr 4 8) [(4,vS x2)] [(0,sR x1.2)] [(0,true)] (qr eW)
theorem S6{r_a0}{depth}{r}(h:o7 n r_a0 depth=some r):VQ G 232 [eL r_a0] [V.ref 0 0,vI depth] (V.agg (cF r.1)) [eL r.2]:=by
 unfold o7 at h
 refine vq aO Tryz.func232 rfl fun w X β0 hC hg=> ?_
 refine rq hC [.z (.nat 20)] [4] [(4,V.ref 20 0)] [(20,sc [vS [],V.t T.nilS])] [(20,true)] ?_
 obtain⟨x1,hx1,h⟩:=bd h
 refine rq hC [.z (.int 0),oC [0] [] (nY G hx1),.z (.nat 21)] [5,10,11,12,13] [(5,V.ref 21 0)] [(0,sR x1.2),(21,sc [vS x1.1,V.t T.nilS])] [(0,true),(21,true)] (rq hC [] [6] [(6,vI 1)] [] [] (vj h (fun x_=>aX [(0,V.ref 0 0),(1,vI depth),(4,V.ref 20 0),(5,V.ref 21 0),(6,vI x_)] [(0,eL x1.2),(20,E.cells [vS [],V.t T.nilS]),(21,E.cells [vS x1.1,V.t T.nilS])] [0,20,21]) (fun j2 h=> ?_) (fun x3 h=> ?_)))
 ·
  refine rq hC [] [14,15,16] [(16,vB (decide (x1.1=[66])))] [] [] (aS h (fun c1 h=> ?_) (fun c1 h=> ?_))
  ·exact rk hC [] [6] [(6,vI 2)] [] [] (lE h)
  ·exact qk (lE h)
 ·refine qs (rq hC [] [7] [(7,vI 0)] [] [] (qb (qw (lk hC [.growc 21 1 22 79] [] [] [(22,some (ar 79 1 2 aA [])),(21,sc [vS x1.1,ms 22 1 2 aA []])] [(22,true)]) (bF (γ:=Nat) h (fun x_ g_=>aX [(0,V.ref 0 0),(1,vI depth),(4,V.ref 20 0),(5,V.ref 21 0),(6,vI x3),(7,vI x_.2.2.2)] [(0,E.cells [vM rY x_.1,vI x_.2.1]),(20,E.cells [vS [],V.t T.nilS]),(21,E.cells [vS x1.1,ms 22 g_ 2 aA x_.2.2.1]),(22,ar 79 g_ 2 aA x_.2.2.1)] [0,20,21,22]) 1 (lS) ?_))))
  rintro again9 ⟨x4,x5,x6,x7⟩ g8 h
  refine qs (rq hC [] [17,18,19] [(19,vB (decide (x7<x3)))] [] [] (aS h (fun c2 h=> ?_) (fun c2 h=> ?_)))
  ·refine qk (qs (qb ?_))
   obtain⟨x10,hx10,x11,hx11,h⟩:=cO h
   refine rq hC [.z (.int 0),oC [0] [] (bC G hx10),oC [] [23] (b8 G hx11),.z (.nat 24)] [8,22,23,24,25] [(8,V.ref 24 0)] [(0,sR x10.2),(23,some (ar 3 1 1 rI x11.coefs)),(24,sc [ms 23 1 1 rI x11.coefs,vI x11.const])] [(0,true),(23,true),(24,true)] (vj h (fun x_=>aX [(0,V.ref 0 0),(1,vI depth),(4,V.ref 20 0),(5,V.ref 21 0),(6,vI x3),(7,vI x7),(8,V.ref 24 0)] [(0,E.cells [vM rY x_.1,vI x_.2.1]),(20,E.cells [vS [],V.t T.nilS]),(21,E.cells [vS x1.1,ms 22 g8 2 aA x6]),(22,ar 79 g8 2 aA x6),(24,E.cells [vM rI x_.2.2.1,vI x_.2.2.2])] [0,20,21,22,23,24]) (fun j12 h=> ?_) ?_)
   ·
    refine vj h (fun x_=>aX [(0,V.ref 0 0),(1,vI depth),(4,V.ref 20 0),(5,V.ref 21 0),(6,vI x3),(7,vI x7),(8,V.ref 24 0),(32,vB x_.2.2)] [(0,E.cells [vM rY x_.1,vI x_.2.1]),(20,E.cells [vS [],V.t T.nilS]),(21,E.cells [vS x1.1,ms 22 g8 2 aA x6]),(22,ar 79 g8 2 aA x6),(23,ar 3 1 1 rI x11.coefs),(24,E.cells [ms 23 1 1 rI x11.coefs,vI x11.const])] [0,20,21,22,23,24]) (fun j13 h=> ?_) ?_
    ·
     refine aQ h (fun c3 h=> ?_) (fun c3 h=> ?_)
     ·exact rk hC (rF 4 c3) (fr 26 7) [(32,vB false)] [] [] (lE h)
     ·obtain⟨x14,hx14,h⟩:=bd h
      exact rk hC [oT c3,oT c3,oC [0] [] (bQ G hx14),oT c3,oT c3] (fr 26 7) [(32,vB (decide ((0:Int)<x14.1)))] [(0,sR x14.2)] [(0,true)] (lE h)
    ·rintro⟨x15,x16,x17⟩ h
     refine aS h (fun c4 h=> ?_) (fun c4 h=> ?_)
     ·obtain⟨x18,hx18,h⟩:=bd h
      refine rq hC [oC [0] [] (bQ G hx18)] [9,33,34,35] [(9,vI x18.1)] [(0,sR x18.2)] [(0,true)] ?_
      obtain⟨x19,hx19,x20,hx20,x21,hx21,h⟩:=kX h
      obtain⟨x22,hx22,x23,hx23,h⟩:=cO h
      exact rk hC [oC [] [25] (oL G hx19),.z (.int 0),oC [0] [] (bC G hx20),.z (.int 0),oC [0] [] (bC G hx21),oC [] [26] (b8 G hx22),.z (.at 2),.z (.fz 25 [37] []),.z (.at 2),.z (.fz 26 [44] []),oC [] [27] (jZ G hx23)] (fr 36 10) [] [(25,none),(0,sR x21.2),(26,none),(27,some (ar 3 1 1 rI x23.coefs)),(24,sc [ms 27 1 1 rI x23.coefs,vI x23.const])] [(25,true),(0,true),(0,true),(26,true),(27,true)] ⟨(x21.2.b,x21.2.p,x23.coefs,x23.const),h,((lk hC [.fz 27 [] [24]] [] [] [(24,some (E.cells (aK x23))),(27,none)] []).trans (lS))⟩
     ·exact qk ⟨(x15,x16,x11.coefs,x11.const),h,((lk hC [.fz 23 [] [24]] [] [] [(24,some (E.cells (aK x11))),(23,none)] []).trans (lS))⟩
   ·rintro⟨x24,x25,x26,x27⟩ h
    obtain⟨x28,hx28,h⟩:=bd h
    exact rk hC [.z (.int 0),oA (aP aA hx28),oQ (bW (r:=aA) 2 aW x6),oQ (bW (r:=aA) 2 aW [(⟨x26,x27⟩:Affine)])] (fr 46 6) [] [(22,some (ar 79 (g8+1) 2 aA x28)),(21,sc [vS x1.1,ms 22 (g8+1) 2 aA x28])] [] (rk hC [] [7,20,21] [(7,vI (wr (x7+1)))] [] [] ⟨(x24,x25,x28,wr (x7+1)),(g8+1),h,lS⟩)
  ·obtain rfl:=so h
   exact cW (rq hC [.z (.at 2),.z (.fz 22 [] [21])] [52] [] [(21,sc [vS x1.1,vM aA x6]),(22,none),(20,sc [vS x1.1,vM aA x6])] [] (qr eW))
theorem aEq{r_a0}{depth}{r}(h:qX n r_a0 depth=some r):VQ G 383 [eL r_a0] [V.ref 0 0,vI depth] (V.agg (aK r.1)) [eL r.2]:=by
 unfold qX at h
 refine vq aO Tryz.func383 rfl fun w X β0 hC hg=> ?_
 refine rq hC [.z (.nat 20)] [4] [(4,V.ref 20 0)] [(20,sc [V.t T.nilS,vI 0])] [(20,true)] ?_
 obtain⟨x1,hx1,x2,hx2,h⟩:=cO h
 refine rq hC [.z (.int 0),oC [0] [] (bC G hx1),oC [] [21] (b8 G hx2),.z (.nat 22)] [5,7,8,9,10] [(5,V.ref 22 0)] [(0,sR x1.2),(21,some (ar 3 1 1 rI x2.coefs)),(22,sc [ms 21 1 1 rI x2.coefs,vI x2.const])] [(0,true),(21,true),(22,true)] (qs (rq hC [] [6] [(6,vI 0)] [] [] (qb (bF (γ:=Nat) h (fun x_ g_=>aX [(0,V.ref 0 0),(1,vI depth),(4,V.ref 20 0),(5,V.ref 22 0),(6,vI x_.2.2.2)] [(0,E.cells [vM rY x_.1,vI x_.2.1]),(20,E.cells [V.t T.nilS,vI 0]),(21,ar 3 g_ 1 rI x_.2.2.1),(22,E.cells [ms 21 g_ 1 rI x_.2.2.1,vI x2.const])] [0,20,21,22]) 1 (lS) ?_))))
 rintro again8 ⟨x3,x4,x5,x6⟩ g7 h
 refine qs (rq hC [] [11,12,13] [(13,vB (decide (x6<depth)))] [] [] (aS h (fun c1 h=> ?_) (fun c1 h=> ?_)))
 ·refine qk (qs (qb ?_))
  obtain⟨x9,hx9,x10,hx10,x11,hx11,h⟩:=kX h
  exact dk hC bA [.z (.int 0),oC [0] [] (bC G hx9),oQ (mO rI hx10),oX rI hx10,.z (.rows (List.map rI x11)),oQ (str rI hx11)] (fr 16 7) [] [(0,sR x9.2),(21,some (ar 3 g7 1 rI x11))] [(0,true)] (qw (yL hC [.lenc 22 0 (List.map rI x11).length] [] [] [(22,sc [ms 21 g7 1 rI x11,vI x2.const])] [] (a1 (lY rI hx11)) (by kernel_rfl)) (rk hC [] [6,14,15] [(6,vI (wr (x6+1)))] [] [] ⟨(x9.2.b,x9.2.p,x11,wr (x6+1)),g7,h,lS⟩))
 ·obtain rfl:=so h
  exact cW (rq hC [.z (.at 2),.z (.fz 21 [] [22])] [23] [] [(22,sc [vM rI x5,vI x2.const]),(21,none),(20,sc [vM rI x5,vI x2.const])] [] (qr eW))
theorem aCC(G:GS): ∀(n:Nat) (r_a0:L16Rd) (depth:Int) (levels:Int) {r:Expr×L16Rd} (h:s_l3Value n r_a0 depth levels=some r),VQ G 367 [eL r_a0] [V.ref 0 0,vI depth,vI levels] (V.agg (cU r.1)) [eL r.2]:=by
 intro n
 induction n with
 |zero=>intro r_a0 depth levels r h;rw [s_l3Value.eq_def] at h;cases h
 |succ n ih=>
  intro r_a0 depth levels r h
  rw [s_l3Value.eq_def] at h;dsimp only at h
  refine vq aO Tryz.func367 rfl fun w X β0 hC hg=> ?_
  refine rq hC [.z (.nat 20)] [6] [(6,V.ref 20 0)] [(20,sc [vI 0,vI 0,V.t T.nilS,vI 0,vS [],V.t T.nilS,V.t T.nilS])] [(20,true)] (qs (vj h (fun x_=>aX [(0,V.ref 0 0),(1,vI depth),(2,vI levels),(6,V.ref 20 0),(15,vB x_.2.2)] [(0,E.cells [vM rY x_.1,vI x_.2.1]),(20,E.cells [vI 0,vI 0,V.t T.nilS,vI 0,vS [],V.t T.nilS,V.t T.nilS])] [0,20]) (fun j1 h=> ?_) ?_))
  ·
   refine aQ h (fun c1 h=> ?_) (fun c1 h=> ?_)
   ·obtain⟨x2,hx2,h⟩:=bd h
    exact rk hC [oF c1,oF c1,oC [0] [] (bQ G hx2),oF c1,oF c1] (fr 9 7) [(15,vB (decide (x2.1=0)))] [(0,sR x2.2)] [(0,true)] (lE h)
   ·exact rk hC (rT 4 c1) (fr 9 7) [(15,vB true)] [] [] (lE h)
  ·rintro⟨x3,x4,x5⟩ h
   refine aS h (fun c2 h=> ?_) (fun c2 h=> ?_)
   ·refine qs ?_
    obtain⟨x6,hx6,h⟩:=bd h
    refine rq hC [oC [0] [] (bQ G hx6)] [16,17] [(17,vI x6.1)] [(0,sR x6.2)] [(0,true)] (qb (rq hC [] [18,19] [(18,vB (decide (x6.1=0)))] [] [] (aS h (fun c3 h=> ?_) (fun c3 h=> ?_))))
    ·obtain⟨x7,hx7,h⟩:=bd h
     obtain rfl:=so h
     exact rq hC [.z (.int 0),oC [0] [] (bC G hx7)] (fr 20 4) [] [(0,sR x7.2),(20,sc [vI 1,vI x7.1,V.t T.nilS,vI 0,vS [],V.t T.nilS,V.t T.nilS])] [(0,true)] (qr eW)
    ·refine rq hC [] [24,25] [(24,vB (decide (x6.1=1)))] [] [] (aS h (fun c4 h=> ?_) (fun c4 h=> ?_))
     ·obtain⟨x8,hx8,h⟩:=bd h
      obtain rfl:=so h
      exact rq hC [oC [0] [] (aEq G hx8)] (fr 26 4) [] [(0,sR x8.2),(20,sc [vI 2,vI 0,vM rI x8.1.coefs,vI x8.1.const,vS [],V.t T.nilS,V.t T.nilS])] [(0,true)] (qr eW)
     ·refine qk ?_
      obtain⟨x9,hx9,h⟩:=bd h
      obtain rfl:=so h
      exact rq hC [oC [0] [] (S6 G hx9)] (fr 30 4) [] [(0,sR x9.2),(20,sc [vI 3,vI 0,V.t T.nilS,vI 0,vS x9.1.array,vM aA x9.1.subs,V.t T.nilS])] [(0,true)] (qr eW)
   ·refine qk ?_
    obtain⟨x10,hx10,h⟩:=bd h
    refine rq hC [.z (.int 0),oC [0] [] (bC G hx10),.z (.nat 21)] [7,34,35,36,37] [(7,V.ref 21 0)] [(0,sR x10.2),(21,sc [vI x10.1,vI 0,V.t T.nilS,vI 0,vS [],V.t T.nilS,V.t T.nilS])] [(0,true),(21,true)] (qs (rq hC [] [8] [(8,vI 0)] [] [] (qb (qw (lk hC [.growc 21 6 22 82] [] [] [(22,some (ar 82 1 7 aI [])),(21,sc [vI x10.1,vI 0,V.t T.nilS,vI 0,vS [],V.t T.nilS,ms 22 1 7 aI []])] [(22,true)]) (bF (γ:=Nat) h (fun x_ g_=>aX [(0,V.ref 0 0),(1,vI depth),(2,vI levels),(6,V.ref 20 0),(7,V.ref 21 0),(8,vI x_.2.2.2)] [(0,E.cells [vM rY x_.1,vI x_.2.1]),(20,E.cells [vI 0,vI 0,V.t T.nilS,vI 0,vS [],V.t T.nilS,V.t T.nilS]),(21,E.cells [vI x10.1,vI 0,V.t T.nilS,vI 0,vS [],V.t T.nilS,ms 22 g_ 7 aI x_.2.2.1]),(22,ar 82 g_ 7 aI x_.2.2.1)] [0,20,21,22]) 1 (lS) ?_)))))
    rintro again16 ⟨x11,x12,x13,x14⟩ g15 h
    refine qs (rq hC [] [38,39] [(39,vB (decide (x14<2)))] [] [] (aS h (fun c5 h=> ?_) (fun c5 h=> ?_)))
    ·refine qk (qs (qb ?_))
     obtain⟨x17,hx17,x18,hx18,h⟩:=cO h
     exact dk hC bA [oC [0] [] (ih (⟨x11,x12⟩:L16Rd) depth (wr (levels-1)) hx17),.z (.int 2),.z (.rows (List.map aI [x17.1])),oQ (sV x17.1),oA (aP aI hx18),oQ (bW (r:=aI) 7 d7 x13),oQ (bW (r:=aI) 7 d7 [x17.1])] (fr 42 10) [] [(0,sR x17.2),(22,some (ar 82 (g15+1) 7 aI x18)),(21,sc [vI x10.1,vI 0,V.t T.nilS,vI 0,vS [],V.t T.nilS,ms 22 (g15+1) 7 aI x18])] [(0,true)] (rk hC [] [8,40,41] [(8,vI (wr (x14+1)))] [] [] ⟨(x17.2.b,x17.2.p,x18,wr (x14+1)),(g15+1),h,lS⟩)
    ·obtain rfl:=so h
     exact cW (rq hC [.z (.at 2),.z (.fz 22 [] [21])] [52] [] [(21,sc [vI x10.1,vI 0,V.t T.nilS,vI 0,vS [],V.t T.nilS,vM aI x13]),(22,none),(20,sc [vI x10.1,vI 0,V.t T.nilS,vI 0,vS [],V.t T.nilS,vM aI x13])] [] (qr eW))
theorem aEi{r_a0}{depth}{r}(h:uA n r_a0 depth=some r):VQ G 337 [eL r_a0] [V.ref 0 0,vI depth] (V.agg (cS r.1)) [eL r.2]:=by
 unfold uA at h
 refine vq aO Tryz.func337 rfl fun w X β0 hC hg=> ?_
 refine rq hC [.z (.nat 20)] [4] [(4,V.ref 20 0)] [(20,sc [vS [],V.t T.nilS,vI 0,vI 0,V.t T.nilS,vI 0,vS [],V.t T.nilS,V.t T.nilS])] [(20,true)] ?_
 obtain⟨x1,hx1,x2,hx2,x3,hx3,h⟩:=kX h
 refine rq hC [oC [0] [] (S6 G hx1),.z (.int 0),oC [0] [] (bC G hx2),oC [0] [] (aCC G n x2.2 depth x2.1 hx3),.z (.nat 21)] (fr 5 11) [(5,V.ref 21 0)] [(0,sR x3.2),(21,sc [vS x1.1.array,vM aA x1.1.subs,vI x3.1.kind,vI x3.1.num,vM rI x3.1.index.coefs,vI x3.1.index.const,vS x3.1.read.array,vM aA x3.1.read.subs,vM aI x3.1.kids])] [(0,true),(0,true),(0,true),(21,true)] (qs ?_)
 obtain⟨x4,hx4,h⟩:=bd h
 refine rq hC [oV (qG G hx4)] [16,17,18] [(18,vB x4)] [] [] (aS h (fun c1 h=> ?_) (fun c1 h=> ?_))
 ·obtain rfl:=so h
  exact rq hC [] [19] [] [(20,sc [vS x1.1.array,vM aA x1.1.subs,vI x3.1.kind,vI x3.1.num,vM rI x3.1.index.coefs,vI x3.1.index.const,vS x3.1.read.array,vM aA x3.1.read.subs,vM aI x3.1.kids])] [] (qr eW)
 ·refine qk ?_
  obtain⟨x5,hx5,h⟩:=bd h
  obtain rfl:=so h
  exact rq hC [oC [] [22] (kO G n hx5),.z (.at 5),.z (.fz 22 [20] []),.z (.int 0)] (fr 20 5) [] [(22,none),(20,sc [vS [65],vM aA [x5],vI 1,vI 1,V.t T.nilS,vI 0,vS [],V.t T.nilS,V.t T.nilS])] [(22,true)] (qr eW)
theorem aCM{sizes}{r}(h:vJ n sizes=some r):VQ G 338 [] [vM rI sizes] (V.tup [ms 0 1 2 aC r.1,vB r.2]) [ar 123 1 2 aC r.1]:=by
 unfold vJ at h
 refine vq aO Tryz.func338 rfl fun w X β0 hC hg=> ?_
 refine rq hC [] [2,3] [] [] [] (rq hC [.z (.nat 20)] [4,6] [(4,ms 20 1 2 aC [])] [(20,some (ar 123 1 2 aC []))] [(20,true)] (qs (rq hC [oN rI sizes] [7,8,9] [(9,vB (decide ((4:Int)<(sizes.length:Int))))] [] [] (aS h (fun c1 h=> ?_) (fun c1 h=> ?_)))))
 ·obtain rfl:=so h
  exact rq hC [] [2,3,10] [(2,ms 20 1 2 aC []),(3,vB false)] [] [] (qw (lk hC [.ren 2 20 0] [2] [(2,ms 0 1 2 aC [])] [(0,some (ar 123 1 2 aC [])),(20,none)] [(0,true)]) (qr eW))
 ·refine qk (qs (rq hC [] [5] [(5,vI 0)] [] [] (qb (bF (γ:=Nat) h (fun x_ g_=>aX [(0,vM rI sizes),(4,ms 20 g_ 2 aC x_.1),(5,vI x_.2)] [(20,ar 123 g_ 2 aC x_.1)] [20]) 1 (lS) ?_))))
  rintro again4 ⟨x1,x2⟩ g3 h
  refine qs (rq hC [oN rI sizes] (fr 11 4) [(14,vB (decide (x2<(sizes.length:Int))))] [] [] (aS h (fun c2 h=> ?_) (fun c2 h=> ?_)))
  ·refine qk (qs (qb (qs (vj h (fun x_=>aX [(0,vM rI sizes),(4,ms 20 g3 2 aC x1),(5,vI x2),(28,vB x_)] [(20,ar 123 g3 2 aC x1)] [20]) (fun j5 h=> ?_) (fun x7 h=> ?_)))))
   ·
    obtain⟨x6,hx6,h⟩:=bd h
    refine aQ h (fun c3 h=> ?_) (fun c3 h=> ?_)
    ·exact rk hC ([oR rI hx6]++rF 3 c3++[oR rI hx6]++rF 3 c3) (fr 17 12) [(28,vB (decide ((99:Int)<x6)))] [] [] (lE h)
    ·exact rk hC ([oR rI hx6]++rT 6 c3) (fr 17 12) [(28,vB true)] [] [] (lE h)
   ·refine aS h (fun c4 h=> ?_) (fun c4 h=> ?_)
    ·obtain rfl:=so h
     exact rq hC [.z (.nat 21)] [2,3,29] [(2,ms 21 1 2 aC []),(3,vB false)] [(21,some (ar 123 1 2 aC []))] [(21,true)] (qw (lk hC [.ren 2 21 0] [2] [(2,ms 0 1 2 aC [])] [(0,some (ar 123 1 2 aC [])),(21,none)] [(0,true)]) (qr eW))
    ·refine qk ?_
     obtain⟨x8,hx8,x9,hx9,x10,hx10,h⟩:=kX h
     obtain⟨x11,hx11,h⟩:=bd h
     exact dk hC bA [oC [] [21] (kO G n hx8),.z (.at 11),.z (.fz 21 [31] []),.z (.int 0),oR rI hx9,oC [] [22] (b8 G hx10),.z (.at 5),.z (.fz 22 [37] []),.z (.int 0),.z (.int 0),oA (aP aC hx11),oQ (bW (r:=aC) 2 bL x1),oQ (bW (r:=aC) 2 bL [(⟨[x8],[x10]⟩:Loop)])] [4,30,31,32,33,34,35,36,37,38,39,40,41] [(4,ms 20 (g3+1) 2 aC x11)] [(21,none),(22,none),(20,some (ar 123 (g3+1) 2 aC x11))] [(21,true),(22,true)] (rk hC [] [5,15,16] [(5,vI (wr (x2+1)))] [] [] ⟨(x11,wr (x2+1)),(g3+1),h,lS⟩)
  ·obtain rfl:=so h
   exact cW (rq hC [] [2,3,42] [(2,ms 20 g3 2 aC x1),(3,vB true)] [] [] (qw (lk hC [.ren 2 20 0] [2] [(2,ms 0 1 2 aC x1)] [(0,some (ar 123 1 2 aC x1)),(20,none)] [(0,true)]) (qr eW)))
theorem aEh{r_a0}{r}(h:t8 n r_a0=some r):VQ G 296 [eL r_a0] [V.ref 0 0] (V.agg (l4 r.1)) [eL r.2]:=by
 unfold t8 at h
 refine vq aO Tryz.func296 rfl fun w X β0 hC hg=> ?_
 refine rq hC [.z (.nat 20)] [2] [(2,V.ref 20 0)] [(20,sc [V.t T.nilS,V.t T.nilS])] [(20,true)] (qs (rq hC [] [3] [(3,vI 0)] [] [] (qb (jN h (fun x_=>aX [(0,V.ref 0 0),(2,V.ref 20 0),(3,vI x_.2.2)] [(0,E.cells [vM rY x_.1,vI x_.2.1]),(20,E.cells [V.t T.nilS,V.t T.nilS])] [0,20]) lS ?_))))
 rintro again4 ⟨x1,x2,x3⟩ h
 refine qs (rq hC [] [16,17] [(17,vB (decide (x3<4)))] [] [] (aS h (fun c1 h=> ?_) (fun c1 h=> ?_)))
 ·refine qk (qs (qb ?_))
  obtain⟨x5,hx5,h⟩:=bd h
  refine rq hC [oC [0] [21] (aEl G hx5),.z (.nat 22)] [4,20,21,22] [(4,V.ref 22 0)] [(21,some (ar 123 1 2 aC x5.1)),(0,sR x5.2),(22,sc [ms 21 1 2 aC x5.1,V.t T.nilS])] [(0,true),(21,true),(22,true)] (qs ?_)
  obtain⟨x6,hx6,h⟩:=bd h
  refine rq hC [.z (.int 0),oC [0] [] (bC G hx6)] [5,23,24,25] [(5,vI x6.1)] [(0,sR x6.2)] [(0,true)] (qb (qw (lk hC [.fz 21 [] [22]] [] [] [(22,sc [vM aC x5.1,V.t T.nilS]),(21,none)] []) (qw (lk hC [.growc 22 1 23 84] [] [] [(23,some (ar 84 1 9 aG [])),(22,sc [vM aC x5.1,ms 23 1 9 aG []])] [(23,true)]) (bF (γ:=Nat) h (fun x_ g_=>aX [(0,V.ref 0 0),(2,V.ref 20 0),(3,vI x3),(4,V.ref 22 0),(5,vI x_.2.2.2.2)] [(0,E.cells [vM rY x_.1,vI x_.2.1]),(20,E.cells [V.t T.nilS,V.t T.nilS]),(22,E.cells [vM aC x_.2.2.1,ms 23 g_ 9 aG x_.2.2.2.1]),(23,ar 84 g_ 9 aG x_.2.2.2.1)] [0,20,21,22,23]) 1 (lS) ?_))))
  rintro again13 ⟨x7,x8,x9,x10,x11⟩ g12 h
  refine qs (rq hC [] [26,27] [(27,vB (decide ((0:Int)<x11)))] [] [] (aS h (fun c2 h=> ?_) (fun c2 h=> ?_)))
  ·refine qk ?_
   obtain⟨j14,hj14,h⟩:=W0 h
   refine oU (γ:=Nat) (j:=j14) (r:=r) (fun x_ g_=>aX [(0,V.ref 0 0),(2,V.ref 20 0),(3,vI x3),(4,V.ref 22 0),(5,vI x11)] [(0,E.cells [vM rY x_.1,vI x_.2.1]),(20,E.cells [V.t T.nilS,V.t T.nilS]),(22,E.cells [vM aC x9,ms 23 g_ 9 aG x_.2.2]),(23,ar 84 g_ 9 aG x_.2.2)] [0,20,21,22,23]) ?_ ?_
   ·
    refine qb (rq hC [] [6] [(6,vI 0)] [] [] (qb (jN h (fun x_=>aX [(0,V.ref 0 0),(2,V.ref 20 0),(3,vI x3),(4,V.ref 22 0),(5,vI x11),(6,vI x_.2.2)] [(0,E.cells [vM rY x_.1,vI x_.2.1]),(20,E.cells [V.t T.nilS,V.t T.nilS]),(22,E.cells [vM aC x9,ms 23 g12 9 aG x10]),(23,ar 84 g12 9 aG x10)] [0,20,21,22,23]) lS ?_)))
    rintro again18 ⟨x15,x16,x17⟩ h
    refine qs (rq hC [] [30,31] [(31,vB (decide (x17<5)))] [] [] (aS h (fun c3 h=> ?_) (fun c3 h=> ?_)))
    ·refine qk (qs (qb ?_))
     obtain⟨x19,hx19,h⟩:=bd h
     refine rq hC [oN aC x9,oC [0] [] (aEi G hx19),.z (.nat 24)] [7,34,35,36,37,38] [(7,V.ref 24 0)] [(0,sR x19.2),(24,some (E.cells (cS x19.1)))] [(0,true),(24,true)] (qs ?_)
     obtain⟨x20,hx20,x21,hx21,h⟩:=cO h
     refine dk hC bA [oV (sX G n hx20),.z (.int 1),.z (.nat 25),.z (.at 7),.z (.fz 25 [44] []),oV (xC G hx21)] [8,9,39,40,41,42,43,44,45,46,47,48] [(9,vB x21.2)] [(25,none)] [(25,true)] (rq hC [] [49] [(49,vB x21.2)] [] [] (aS h (fun c4 h=> ?_) (fun c4 h=> ?_)))
     ·obtain⟨x22,hx22,h⟩:=bd h
      exact rq hC [.z (.int 0),oA (aP aG hx22),oQ (bW (r:=aG) 9 d6 x10),oQ (bW (r:=aG) 9 d6 [x19.1])] (fr 50 6) [] [(23,some (ar 84 (g12+1) 9 aG x22)),(22,sc [vM aC x9,ms 23 (g12+1) 9 aG x22])] [] (cW ⟨(x19.2.b,x19.2.p,x22),(g12+1),h,lS⟩)
     ·exact qk (rk hC [] [6,32,33] [(6,vI (wr (x17+1)))] [] [] (lE h))
    ·exact cW ⟨(x15,x16,x10),g12,h,lS⟩
   ·rintro⟨x23,x24,x25⟩ g26 h
    subst hj14
    exact rk hC [] [5,28,29] [(5,vI (wr (x11-1)))] [] [] ⟨(x23,x24,x9,x25,wr (x11-1)),g26,h,lS⟩
  ·refine cW (qs ?_)
   obtain⟨x27,hx27,x28,hx28,h⟩:=cO h
   refine dk hC bA [oV (sX G n hx27),.z (.at 7),.z (.fz 23 [] [22]),oV (xC G hx28)] [10,11,56,57,58,59,60,61] [(10,vI x28.1),(11,vB x28.2)] [(22,sc [vM aC x9,vM aG x10]),(23,none)] [] (vj h (fun x_=>aX [(0,V.ref 0 0),(2,V.ref 20 0),(3,vI x3),(4,V.ref 22 0),(66,vB x_)] [(0,E.cells [vM rY x7,vI x8]),(20,E.cells [V.t T.nilS,V.t T.nilS]),(22,E.cells [vM aC x9,vM aG x10])] [0,20,21,22,23]) (fun j29 h=> ?_) (fun x30 h=> ?_))
   ·
    refine aQ h (fun c5 h=> ?_) (fun c5 h=> ?_)
    ·exact rk hC (rF 3 c5) (fr 62 5) [(66,vB false)] [] [] (lE h)
    ·exact rk hC (rT 3 c5) (fr 62 5) [(66,vB (decide (x28.1≤40)))] [] [] (lE h)
   ·refine aS h (fun c6 h=> ?_) (fun c6 h=> ?_)
    ·obtain rfl:=so h
     exact rq hC [] [67] [] [(20,sc [vM aC x9,vM aG x10])] [] (qr eW)
    ·exact qk (rk hC [] [3,18,19] [(3,vI (wr (x3+1)))] [] [] (lE h))
 ·refine cW ?_
  obtain⟨x31,hx31,h⟩:=bd h
  refine rq hC [oV (wH G hx31),.z (.nat 21)] [12,13,68,69,70,71] [(12,V.ref 21 0)] [(21,some (E.cells (cS x31.1)))] [(21,true)] ?_
  obtain⟨x32,hx32,h⟩:=bd h
  obtain rfl:=so h
  exact rq hC [.z (.int 0),oC [] [22] (aCM G hx32)] [14,15,72,73,74,75,76] [(14,ms 22 1 2 aC x32.1)] [(22,some (ar 123 1 2 aC x32.1))] [(22,true)] (rq hC [.z (.int 1),.z (.nat 23)] (fr 77 4) [] [(23,some (ar 84 1 9 aG [x31.1])),(20,sc [ms 22 1 2 aC x32.1,ms 23 1 9 aG [x31.1]])] [(23,true)] (qw (lk hC [.fz 22 [14] [20]] [14] [(14,vM aC x32.1)] [(20,sc [vM aC x32.1,ms 23 1 9 aG [x31.1]]),(22,none)] []) (qw (lk hC [.fz 23 [] [20]] [] [] [(20,sc [vM aC x32.1,vM aG [x31.1]]),(23,none)] []) (qr eW))))
theorem aEg{r_a0}{r}(h:t7 n r_a0=some r):VQ G 231 [eL r_a0] [V.ref 0 0] (V.agg (bH r.1)) [eL r.2]:=by
 unfold t7 at h
 refine vq aO Tryz.func231 rfl fun w X β0 hC hg=> ?_
 refine rq hC [.z (.nat 20)] [2] [(2,V.ref 20 0)] [(20,sc [V.t T.nilS,V.t T.nilS])] [(20,true)] ?_
 obtain⟨x1,hx1,h⟩:=bd h
 refine rq hC [oV (sX G n hx1),.z (.nat 21)] [3,5,6] [(3,V.ref 21 0)] [(21,sc [vM aJ x1,V.t T.nilS])] [(21,true)] (qs ?_)
 obtain⟨x2,hx2,h⟩:=bd h
 refine rq hC [.z (.int 0),oC [0] [] (bC G hx2)] [4,7,8,9] [(4,vI x2.1)] [(0,sR x2.2)] [(0,true)] (qb (qw (lk hC [.growc 21 1 22 46] [] [] [(22,some (ar 46 1 2 aD [])),(21,sc [vM aJ x1,ms 22 1 2 aD []])] [(22,true)]) (bF (γ:=Nat) h (fun x_ g_=>aX [(0,V.ref 0 0),(2,V.ref 20 0),(3,V.ref 21 0),(4,vI x_.2.2.2)] [(0,E.cells [vM rY x_.1,vI x_.2.1]),(20,E.cells [V.t T.nilS,V.t T.nilS]),(21,E.cells [vM aJ x1,ms 22 g_ 2 aD x_.2.2.1]),(22,ar 46 g_ 2 aD x_.2.2.1)] [0,20,21,22]) 1 (lS) ?_)))
 rintro again8 ⟨x3,x4,x5,x6⟩ g7 h
 refine qs (rq hC [] [10,11] [(11,vB (decide ((0:Int)<x6)))] [] [] (aS h (fun c1 h=> ?_) (fun c1 h=> ?_)))
 ·refine qk (qs (qb ?_))
  obtain⟨x9,hx9,x10,hx10,h⟩:=cO h
  exact dk hC bA [oC [0] [] (aEh G hx9),.z (.int 0),oA (aP aD hx10),oQ (bW (r:=aD) 2 cB x5),oQ (bW (r:=aD) 2 cB [x9.1])] (fr 14 7) [] [(0,sR x9.2),(22,some (ar 46 (g7+1) 2 aD x10)),(21,sc [vM aJ x1,ms 22 (g7+1) 2 aD x10])] [(0,true)] (rk hC [] [4,12,13] [(4,vI (wr (x6-1)))] [] [] ⟨(x9.2.b,x9.2.p,x10,wr (x6-1)),(g7+1),h,lS⟩)
 ·refine cW (qs ?_)
  obtain⟨x11,hx11,h⟩:=bd h
  refine rq hC [.z (.at 2),.z (.fz 22 [] [21]),oV (dA G hx11)] [21,22] [(22,vB x11)] [(21,sc [vM aJ x1,vM aD x5]),(22,none)] [] (aS h (fun c2 h=> ?_) (fun c2 h=> ?_))
  ·obtain rfl:=so h
   exact rq hC [] [23] [] [(20,sc [vM aJ x1,vM aD x5])] [] (qr eW)
  ·refine qk (qs ?_)
   obtain⟨x12,hx12,x13,hx13,h⟩:=cO h
   obtain rfl:=so h
   exact dk hC bA [oV (sX G n hx12),oA (rU aD hx13),oQ (bW (r:=aD) 2 cB x5)] (fr 24 5) [] [(20,sc [vM aJ x12,vM aD x13])] [] (qr eW)
theorem aEb{r_a0}{r}(h:tY n r_a0=some r):VQ G 155 [eL r_a0] [V.ref 0 0] (V.agg (bH r.1)) [eL r.2]:=by
 unfold tY at h
 refine vq aO Tryz.func155 rfl fun w X β0 hC hg=> ?_
 refine rq hC [.z (.nat 20)] [2] [(2,V.ref 20 0)] [(20,sc [V.t T.nilS,V.t T.nilS])] [(20,true)] ?_
 obtain⟨x1,hx1,h⟩:=bd h
 refine rq hC [.z (.int 0),oC [0] [] (nY G hx1)] [3,6,7,8] [(3,vS x1.1)] [(0,sR x1.2)] [(0,true)] ?_
 obtain⟨x2,hx2,x3,hx3,h⟩:=cO h
 refine rq hC [oS hx2,oV (C8 G hx3),.z (.nat 21)] [4,5,9,10,11,12,13,14] [(4,V.ref 21 0),(5,vB x3.2)] [(21,some (E.cells (bH x3.1)))] [(21,true)] (qs (vj h (fun x_=>aX [(0,V.ref 0 0),(2,V.ref 20 0),(4,V.ref 21 0),(20,vB x_.2.2)] [(0,E.cells [vM rY x_.1,vI x_.2.1]),(20,E.cells [V.t T.nilS,V.t T.nilS]),(21,E.cells (bH x3.1))] [0,20,21]) (fun j4 h=> ?_) ?_))
 ·
  refine aQ h (fun c1 h=> ?_) (fun c1 h=> ?_)
  ·exact rk hC (rF 4 c1) (fr 15 6) [(20,vB false)] [] [] (lE h)
  ·obtain⟨x5,hx5,h⟩:=bd h
   exact rk hC [oT c1,oT c1,oC [0] [] (bQ G hx5),oT c1,oT c1] (fr 15 6) [(20,vB (decide ((0:Int)<x5.1)))] [(0,sR x5.2)] [(0,true)] (lE h)
 ·rintro⟨x6,x7,x8⟩ h
  refine aS h (fun c2 h=> ?_) (fun c2 h=> ?_)
  ·obtain rfl:=so h
   exact rq hC [] [21] [] [(20,some (E.cells (bH x3.1)))] [] (qr eW)
  ·refine qk ?_
   obtain⟨x9,hx9,h⟩:=bd h
   obtain rfl:=so h
   exact rq hC [oC [0] [] (aEg G hx9)] [22,23] [] [(0,sR x9.2),(20,some (E.cells (bH x9.1)))] [(0,true)] (qr eW)
theorem aCL{code}{r}(h:oD n code=some r):VQ G 62 [] [vM rY code] (V.ref 0 0) [eL r]:=by
 unfold oD at h
 refine vq aO Tryz.func62 rfl fun w X β0 hC hg=> ?_
 refine rq hC [] [2] [] [] [] (vj h (fun x_=>aX [(0,vM rY x_)] [] []) (fun j1 h=> ?_) (fun x3 h=> ?_))
 ·
  refine rq hC [oN rY code] [3,4,5] [(5,vB (decide ((2000:Int)<(code.length:Int))))] [] [] (aS h (fun c1 h=> ?_) (fun c1 h=> ?_))
  ·obtain⟨x2,hx2,h⟩:=bd h
   exact rk hC [oA (rU rY hx2),oQ (bW (r:=rY) 1 (fun _=>rfl) code)] [0,6,7] [(0,vM rY x2)] [] [] (lE h)
  ·exact qk (lE h)
 ·obtain rfl:=so h
  exact rq hC [.z (.nat 0)] [2,8,9,10] [(2,V.ref 0 0)] [(0,sc [vM rY x3,vI 0])] [(0,true)] (qr eW)
theorem s8{r_a0}{nest}{r}(h:kK n r_a0 nest=some r):VQ G 153 [eL r_a0] [V.ref 0 0,vM aC nest] (ms 1 1 2 aC r.1) [eL r.2,ar 123 1 2 aC r.1]:=by
 unfold kK at h
 refine vq aO Tryz.func153 rfl fun w X β0 hC hg=> ?_
 refine rq hC [] [4] [] [] [] ?_
 obtain⟨x1,hx1,h⟩:=bd h
 refine rq hC [oC [] [20] (S9 G hx1)] [5,7,8] [(5,ms 20 1 2 aC x1)] [(20,some (E.tree nE 0 1 (List.map aC x1) []))] [(20,true)] (rq hC [oN aC x1] [6,9,10] [(6,vI (x1.length:Int))] [] [] (qs (rq hC [] [11,12] [(12,vB (decide ((x1.length:Int)=0)))] [] [] (aS h (fun c1 h=> ?_) (fun c1 h=> ?_)))))
 ·obtain rfl:=so h
  exact rq hC [] [4,13] [(4,ms 20 1 2 aC x1)] [] [] (qw (lk hC [.shd 20,.ren 4 20 1] [4] [(4,ms 1 1 2 aC x1)] [(20,none),(1,some (ar 123 1 2 aC x1))] [(1,true)]) (qr eW))
 ·refine qk ?_
  obtain⟨j2,hj2,h⟩:=W0 h
  refine oU (γ:=Nat) (j:=j2) (r:=r) (fun x_ g_=>aX [(5,ms 20 g_ 2 aC x_.2.2)] [(0,E.cells [vM rY x_.1,vI x_.2.1]),(20,ar 123 g_ 2 aC x_.2.2)] [0,20]) ?_ ?_
  ·
   obtain⟨x3,hx3,h⟩:=bd h
   refine rq hC [oC [0] [] (bQ G hx3)] [14,15] [(15,vI x3.1)] [(0,sR x3.2)] [(0,true)] (qb (rq hC [] [16,17] [(16,vB (decide (x3.1=0)))] [] [] (aS h (fun c2 h=> ?_) (fun c2 h=> ?_))))
   ·obtain⟨x4,hx4,h⟩:=bd h
    refine qw (yL hC [.foc 20 21 (0+Int.toNat 0) 0 (aC x4),.shd 21] [] [] [(20,some (E.tree nE 0 1 (List.map aC x1) [((0+Int.toNat 0),0,ms 21 1 2 aA x4.lo)])),(21,some (ar 79 1 2 aA x4.lo))] [(21,true)] (a1 (rR aC hx4)) (by kernel_rfl)) ?_
    obtain⟨x5,hx5,x6,hx6,x7,hx7,h⟩:=kX h
    refine dk hC bA [oQ (mO aC hx4),oX aC hx4,oC [0] [] (bQ G hx5),oC [] [22] (oL G hx6),.z (.at 5),.z (.fz 22 [25] []),.z (.int 0),oA (aP aA hx7),oQ (bW (r:=aA) 2 aW x4.lo),oQ (bW (r:=aA) 2 aW [x6]),oQ (mO aC hx4),oX aC hx4] (fr 18 12) [] [(0,sR x5.2),(22,none),(21,some (ar 79 2 2 aA x7)),(20,some (E.tree nE 0 1 (List.map aC x1) [((0+Int.toNat 0),0,ms 21 2 2 aA x7)]))] [(0,true),(22,true)] ?_
    obtain⟨x8,hx8,h⟩:=bd h
    exact⟨(x5.2.b,x5.2.p,x8),1,h,((yL hC [.tre 21 nE 1,.unf 20 21 (aC x4) (List.map aC x8),.len 5 (List.map aC x8).length] [5] [(5,ms 20 1 2 aC x8)] [(21,none),(20,some (E.tree nE 0 1 (List.map aC x8) []))] [] (a5 (Eq.refl (List.map aA x7).length) (Eq.refl nE) (rR aC hx4) (V5 aC hx8 rfl) (lY aC hx8)) (by kernel_rfl)).trans ((lk hC [.shd 20] [] [] [(20,some (ar 123 1 2 aC x8))] []).trans (lS)))⟩
   ·refine rq hC [] [30,31] [(30,vB (decide (x3.1=1)))] [] [] (aS h (fun c3 h=> ?_) (fun c3 h=> ?_))
    ·refine qw (lk hC [.shd 20] [] [] [(20,some (ar 123 1 2 aC x1))] []) ?_
     obtain⟨x9,hx9,x10,hx10,h⟩:=cO h
     exact rk hC [oQ (mO aC hx9),oX aC hx9,.z (.rows (List.map aC x10)),.z (.len 5 (List.map aC x10).length),oQ (str aC hx10),oQ (lY aC hx10)] [5,32,33,34,35,36] [(5,ms 20 1 2 aC x10)] [(20,some (ar 123 1 2 aC x10))] [] ⟨(x3.2.b,x3.2.p,x10),1,h,lS⟩
    ·refine rq hC [] [37,38] [(37,vB (decide (x3.1=2)))] [] [] (aS h (fun c4 h=> ?_) (fun c4 h=> ?_))
     ·obtain⟨x11,hx11,h⟩:=bd h
      refine qw (yL hC [.foc 20 21 (0+Int.toNat (wr ((x1.length:Int)-1))) 1 (aC x11),.shd 21] [] [] [(20,some (E.tree nE 0 1 (List.map aC x1) [((0+Int.toNat (wr ((x1.length:Int)-1))),1,ms 21 1 2 aA x11.hi)])),(21,some (ar 79 1 2 aA x11.hi))] [(21,true)] (a1 (rR aC hx11)) (by kernel_rfl)) ?_
      obtain⟨x12,hx12,x13,hx13,x14,hx14,h⟩:=kX h
      refine dk hC bA [oQ (mO aC hx11),oX aC hx11,oC [] [22] (b8 G hx12),oC [] [23] (b8 G hx13),.z (.at 5),.z (.fz 22 [48] []),.z (.at 5),.z (.fz 23 [49] []),.z (.int 0),oA (aP aA hx14),oQ (bW (r:=aA) 2 aW x11.hi),oQ (bW (r:=aA) 2 aW [x12,x13]),oQ (mO aC hx11),oX aC hx11] (fr 39 15) [] [(22,none),(23,none),(21,some (ar 79 2 2 aA x14)),(20,some (E.tree nE 0 1 (List.map aC x1) [((0+Int.toNat (wr ((x1.length:Int)-1))),1,ms 21 2 2 aA x14)]))] [(22,true),(23,true)] ?_
      obtain⟨x15,hx15,h⟩:=bd h
      exact⟨(x3.2.b,x3.2.p,x15),1,h,((yL hC [.tre 21 nE 1,.unf 20 21 (aC x11) (List.map aC x15),.len 5 (List.map aC x15).length] [5] [(5,ms 20 1 2 aC x15)] [(21,none),(20,some (E.tree nE 0 1 (List.map aC x15) []))] [] (a5 (Eq.refl (List.map aA x14).length) (Eq.refl nE) (rR aC hx11) (V5 aC hx15 rfl) (lY aC hx15)) (by kernel_rfl)).trans ((lk hC [.shd 20] [] [] [(20,some (ar 123 1 2 aC x15))] []).trans (lS)))⟩
     ·refine rq hC [] [54,55] [(54,vB (decide (x3.1=3)))] [] [] (aS h (fun c5 h=> ?_) (fun c5 h=> ?_))
      ·refine qw (lk hC [.shd 20] [] [] [(20,some (ar 123 1 2 aC x1))] []) ?_
       obtain⟨x16,hx16,x17,hx17,x18,hx18,h⟩:=kX h
       exact rk hC [oC [] [21] (b8 G hx16),.z (.at 4),.z (.fz 21 [57] []),.z (.int 1),.z (.nat 22),.z (.at 1),.z (.fz 22 [58] []),oQ (mO aC hx17),oX aC hx17,.z (.rows (List.map aC x18)),.z (.len 5 (List.map aC x18).length),oQ (str aC hx18),oQ (lY aC hx18)] [5,56,57,58,59,60] [(5,ms 20 1 2 aC x18)] [(21,none),(22,none),(20,some (ar 123 1 2 aC x18))] [(21,true),(22,true)] ⟨(x3.2.b,x3.2.p,x18),1,h,lS⟩
      ·refine rq hC [] [61,62] [(61,vB (decide (x3.1=4)))] [] [] (aS h (fun c6 h=> ?_) (fun c6 h=> ?_))
       ·refine qb (qw (lk hC [.shd 20] [] [] [(20,some (ar 123 1 2 aC x1))] []) (bF (γ:=Nat) h (fun x_ g_=>aX [(5,ms 20 g_ 2 aC x_)] [(0,eL x3.2),(20,ar 123 g_ 2 aC x_)] [0,20]) 1 (lS) ?_))
        rintro again21 x19 g20 h
        refine qs (rq hC [oN aC x19] [63,64,65] [(65,vB (decide ((x19.length:Int)≤4)))] [] [] (aS h (fun c7 h=> ?_) (fun c7 h=> ?_)))
        ·refine qk (qb ?_)
         obtain⟨x22,hx22,x23,hx23,h⟩:=cO h
         exact rk hC [oQ (mO aC hx22),oX aC hx22,.z (.int 0),oA (aP aC hx23),oQ (bW (r:=aC) 2 bL x19),oQ (bW (r:=aC) 2 bL [x22])] [5,66,67,68,69,70,71] [(5,ms 20 (g20+1) 2 aC x23)] [(20,some (ar 123 (g20+1) 2 aC x23))] [] ⟨x23,(g20+1),h,lS⟩
        ·exact cW ⟨(x3.2.b,x3.2.p,x19),g20,h,lS⟩
       ·exact qk ⟨(x3.2.b,x3.2.p,x1),1,h,((lk hC [.shd 20] [] [] [(20,some (ar 123 1 2 aC x1))] []).trans (lS))⟩
  ·rintro⟨x24,x25,x26⟩ g27 h
   subst hj2
   obtain rfl:=so h
   exact rq hC [] [4,72] [(4,ms 20 g27 2 aC x26)] [] [] (qw (lk hC [.ren 4 20 1] [4] [(4,ms 1 1 2 aC x26)] [(1,some (ar 123 1 2 aC x26)),(20,none)] [(1,true)]) (qr eW))
theorem sY{r_a0}{s}{r}(h:kJ n r_a0 s=some r):VQ G 154 [eL r_a0] [V.ref 0 0,V.agg (cS s)] (V.agg (cS r.1)) [eL r.2]:=by
 unfold kJ at h
 refine vq aO Tryz.func154 rfl fun w X β0 hC hg=> ?_
 refine rq hC [.z (.b (true)),.z (.nat 20)] [3,4] [(3,V.tp (oW s)),(4,V.ref 20 0)] [(20,sc [vS [],V.t T.nilS,vI 0,vI 0,V.t T.nilS,vI 0,vS [],V.t T.nilS,V.t T.nilS])] [(20,true)] ?_
 obtain⟨x1,hx1,h⟩:=bd h
 refine rq hC [oC [] [21,22,23,24] (S8 G hx1),.z (.nat 25)] [5,6,7] [(5,V.ref 25 0)] [(21,some (ar 79 1 2 aA x1.write.subs)),(22,some (ar 3 1 1 rI x1.value.index.coefs)),(23,some (ar 79 1 2 aA x1.value.read.subs)),(24,some (ar 82 1 7 aI x1.value.kids)),(25,sc [vS x1.write.array,ms 21 1 2 aA x1.write.subs,vI x1.value.kind,vI x1.value.num,ms 22 1 1 rI x1.value.index.coefs,vI x1.value.index.const,vS x1.value.read.array,ms 23 1 2 aA x1.value.read.subs,ms 24 1 7 aI x1.value.kids])] [(21,true),(22,true),(23,true),(24,true),(25,true)] ?_
 obtain⟨j2,hj2,h⟩:=W0 h
 refine oU (γ:=Nat×Nat) (j:=j2) (r:=r) (fun x_ g_=>aX [(4,V.ref 20 0),(5,V.ref 25 0)] [(0,E.cells [vM rY x_.1,vI x_.2.1]),(20,E.cells [vS [],V.t T.nilS,vI 0,vI 0,V.t T.nilS,vI 0,vS [],V.t T.nilS,V.t T.nilS]),(21,ar 79 g_.1 2 aA x_.2.2.1),(22,ar 3 1 1 rI x1.value.index.coefs),(23,ar 79 1 2 aA x1.value.read.subs),(24,ar 82 g_.2 7 aI x_.2.2.2.1),(25,E.cells [vS x_.2.2.2.2.1,ms 21 g_.1 2 aA x_.2.2.1,vI x_.2.2.2.2.2.1,vI x_.2.2.2.2.2.2,ms 22 1 1 rI x1.value.index.coefs,vI x1.value.index.const,vS x1.value.read.array,ms 23 1 2 aA x1.value.read.subs,ms 24 g_.2 7 aI x_.2.2.2.1])] [0,20,21,22,23,24,25]) ?_ ?_
 ·
  obtain⟨x3,hx3,h⟩:=bd h
  refine rq hC [oC [0] [] (bQ G hx3)] [8,9] [(9,vI x3.1)] [(0,sR x3.2)] [(0,true)] (qb (rq hC [] [10,11] [(10,vB (decide (x3.1=0)))] [] [] (aS h (fun c1 h=> ?_) (fun c1 h=> ?_))))
  ·obtain⟨x4,hx4,h⟩:=bd h
   exact rk hC [.z (.int 0),oC [0] [] (nY G hx4)] (fr 12 5) [] [(0,sR x4.2),(25,sc [vS x4.1,ms 21 1 2 aA x1.write.subs,vI x1.value.kind,vI x1.value.num,ms 22 1 1 rI x1.value.index.coefs,vI x1.value.index.const,vS x1.value.read.array,ms 23 1 2 aA x1.value.read.subs,ms 24 1 7 aI x1.value.kids])] [(0,true)] ⟨(x4.2.b,x4.2.p,x1.write.subs,x1.value.kids,x4.1,x1.value.kind,x1.value.num),(1,1),h,lS⟩
  ·refine rq hC [] [17,18] [(17,vB (decide (x3.1=1)))] [] [] (aS h (fun c2 h=> ?_) (fun c2 h=> ?_))
   ·obtain⟨x5,hx5,x6,hx6,x7,hx7,h⟩:=kX h
    exact dk hC bA [oC [] [26] (oL G hx5),oC [] [27] (kO G n hx6),.z (.at 5),.z (.fz 26 [22] []),.z (.at 5),.z (.fz 27 [23] []),.z (.int 0),oA (aP aA hx7),oQ (bW (r:=aA) 2 aW x1.write.subs),oQ (bW (r:=aA) 2 aW [x5,x6])] (fr 19 9) [] [(26,none),(27,none),(21,some (ar 79 2 2 aA x7)),(25,sc [vS x1.write.array,ms 21 2 2 aA x7,vI x1.value.kind,vI x1.value.num,ms 22 1 1 rI x1.value.index.coefs,vI x1.value.index.const,vS x1.value.read.array,ms 23 1 2 aA x1.value.read.subs,ms 24 1 7 aI x1.value.kids])] [(26,true),(27,true)] ⟨(x3.2.b,x3.2.p,x7,x1.value.kids,x1.write.array,x1.value.kind,x1.value.num),(2,1),h,lS⟩
   ·refine rq hC [] [28,29] [(28,vB (decide (x3.1=2)))] [] [] (aS h (fun c3 h=> ?_) (fun c3 h=> ?_))
    ·obtain⟨x8,hx8,h⟩:=bd h
     exact rk hC [.z (.int 0),oC [0] [] (bC G hx8)] (fr 30 5) [] [(0,sR x8.2),(25,sc [vS x1.write.array,ms 21 1 2 aA x1.write.subs,vI x8.1,vI x1.value.num,ms 22 1 1 rI x1.value.index.coefs,vI x1.value.index.const,vS x1.value.read.array,ms 23 1 2 aA x1.value.read.subs,ms 24 1 7 aI x1.value.kids])] [(0,true)] ⟨(x8.2.b,x8.2.p,x1.write.subs,x1.value.kids,x1.write.array,x8.1,x1.value.num),(1,1),h,lS⟩
    ·refine rq hC [] [35,36] [(35,vB (decide (x3.1=3)))] [] [] (aS h (fun c4 h=> ?_) (fun c4 h=> ?_))
     ·obtain⟨x9,hx9,h⟩:=bd h
      exact rk hC [.z (.int 0),oC [0] [] (bC G hx9)] (fr 37 5) [] [(0,sR x9.2),(25,sc [vS x1.write.array,ms 21 1 2 aA x1.write.subs,vI x1.value.kind,vI x9.1,ms 22 1 1 rI x1.value.index.coefs,vI x1.value.index.const,vS x1.value.read.array,ms 23 1 2 aA x1.value.read.subs,ms 24 1 7 aI x1.value.kids])] [(0,true)] ⟨(x9.2.b,x9.2.p,x1.write.subs,x1.value.kids,x1.write.array,x1.value.kind,x9.1),(1,1),h,lS⟩
     ·refine rq hC [] [42,43] [(42,vB (decide (x3.1=4)))] [] [] (aS h (fun c5 h=> ?_) (fun c5 h=> ?_))
      ·obtain⟨x10,hx10,h⟩:=bd h
       exact rk hC [.z (.int 2),.z (.rows (List.map aI [(⟨1,0,(⟨[],0⟩:Affine),(⟨[],[]⟩:Access),[]⟩:Expr)])),oQ (sV (⟨1,0,(⟨[],0⟩:Affine),(⟨[],[]⟩:Access),[]⟩:Expr)),oA (aP aI hx10),oQ (bW (r:=aI) 7 d7 x1.value.kids),oQ (bW (r:=aI) 7 d7 [(⟨1,0,(⟨[],0⟩:Affine),(⟨[],[]⟩:Access),[]⟩:Expr)])] (fr 44 8) [] [(24,some (ar 82 2 7 aI x10)),(25,sc [vS x1.write.array,ms 21 1 2 aA x1.write.subs,vI x1.value.kind,vI x1.value.num,ms 22 1 1 rI x1.value.index.coefs,vI x1.value.index.const,vS x1.value.read.array,ms 23 1 2 aA x1.value.read.subs,ms 24 2 7 aI x10])] [] ⟨(x3.2.b,x3.2.p,x1.write.subs,x10,x1.write.array,x1.value.kind,x1.value.num),(1,2),h,lS⟩
      ·exact qk ⟨(x3.2.b,x3.2.p,x1.write.subs,x1.value.kids,x1.write.array,x1.value.kind,x1.value.num),(1,1),h,lS⟩
 ·rintro⟨x11,x12,x13,x14,x15,x16,x17⟩ ⟨g18,g19⟩ h
  subst hj2
  obtain rfl:=so h
  exact rq hC [.z (.at 2),.z (.fz 21 [] [25]),.z (.at 2),.z (.fz 22 [] [25]),.z (.at 2),.z (.fz 23 [] [25]),.z (.at 2),.z (.fz 24 [] [25])] [52] [] [(25,sc [vS x15,vM aA x13,vI x16,vI x17,vM rI x1.value.index.coefs,vI x1.value.index.const,vS x1.value.read.array,vM aA x1.value.read.subs,vM aI x14]),(21,none),(22,none),(23,none),(24,none),(20,sc [vS x15,vM aA x13,vI x16,vI x17,vM rI x1.value.index.coefs,vI x1.value.index.const,vS x1.value.read.array,vM aA x1.value.read.subs,vM aI x14])] [] (qr eW)
theorem aBk{r_a0}{p}{r}(h:o2 n r_a0 p=some r):VQ G 63 [eL r_a0] [V.ref 0 0,V.agg (bH p)] (V.agg (bH r.1)) [eL r.2]:=by
 unfold o2 at h
 refine vq aO Tryz.func63 rfl fun w X β0 hC hg=> ?_
 refine rq hC [.z (.b (true)),.z (.nat 20)] [3,4] [(3,V.tp (bO p)),(4,V.ref 20 0)] [(20,sc [V.t T.nilS,V.t T.nilS])] [(20,true)] ?_
 obtain⟨x1,hx1,h⟩:=bd h
 refine rq hC [oC [] [21,22] (xD G hx1),.z (.nat 23)] [5,7,8] [(5,V.ref 23 0)] [(21,some (ar 90 1 2 aJ x1.arrays)),(22,some (E.tree nE 2 1 (List.map aD x1.parts) [])),(23,sc [ms 21 1 2 aJ x1.arrays,ms 22 1 2 aD x1.parts])] [(21,true),(22,true),(23,true)] (rq hC [oN aD x1.parts] [6,9,10,11] [(6,vI (x1.parts.length:Int))] [] [] ?_)
 obtain⟨j2,hj2,h⟩:=W0 h
 refine oU (γ:=Nat) (j:=j2) (r:=r) (fun x_ g_=>aX [(4,V.ref 20 0),(5,V.ref 23 0)] [(0,E.cells [vM rY x_.1,vI x_.2.1]),(20,E.cells [V.t T.nilS,V.t T.nilS]),(21,ar 90 g_ 2 aJ x_.2.2.1),(22,ar 46 1 2 aD x_.2.2.2),(23,E.cells [ms 21 g_ 2 aJ x_.2.2.1,ms 22 1 2 aD x_.2.2.2])] [0,20,21,22,23]) ?_ ?_
 ·
  obtain⟨x3,hx3,h⟩:=bd h
  refine rq hC [oC [0] [] (bQ G hx3)] [12,13] [(13,vI x3.1)] [(0,sR x3.2)] [(0,true)] (qb (rq hC [] [14,15] [(14,vB (decide (x3.1=0)))] [] [] (aS h (fun c1 h=> ?_) (fun c1 h=> ?_))))
  ·obtain⟨x4,hx4,x5,hx5,x6,hx6,h⟩:=kX h
   exact dk hC bA [.z (.int 0),oC [0] [] (nY G hx4),.z (.int 0),oC [0] [] (bC G hx5),.z (.int 0),.z (.int 0),oA (aP aJ hx6),oQ (bW (r:=aJ) 2 gU x1.arrays),oQ (bW (r:=aJ) 2 gU [(⟨x4.1,[x5.1]⟩:Arr)])] (fr 16 13) [] [(0,sR x5.2),(21,some (ar 90 2 2 aJ x6)),(23,sc [ms 21 2 2 aJ x6,ms 22 1 2 aD x1.parts])] [(0,true),(0,true)] ⟨(x5.2.b,x5.2.p,x6,x1.parts),2,h,((lk hC [.shd 22] [] [] [(22,some (ar 46 1 2 aD x1.parts))] []).trans (lS))⟩
  ·refine rq hC [] [29,30] [(29,vB (decide (x3.1=1)))] [] [] (aS h (fun c2 h=> ?_) (fun c2 h=> ?_))
   ·refine rq hC [oN aJ x1.arrays] (fr 31 4) [(34,vB (decide ((0:Int)<(x1.arrays.length:Int))))] [] [] (aS h (fun c3 h=> ?_) (fun c3 h=> ?_))
    ·obtain⟨x7,hx7,x8,hx8,x9,hx9,h⟩:=kX h
     exact dk hC bA [.z (.int 0),oC [0] [] (bC G hx7),.z (.int 0),oQ (mO aJ hx8),oX aJ hx8,.z (.rows (List.map aJ x9)),oQ (str aJ hx9)] (fr 35 8) [] [(0,sR x7.2),(21,some (ar 90 1 2 aJ x9))] [(0,true)] ⟨(x7.2.b,x7.2.p,x9,x1.parts),1,h,((yL hC [.lenc 23 0 (List.map aJ x9).length] [] [] [(23,sc [ms 21 1 2 aJ x9,ms 22 1 2 aD x1.parts])] [] (a1 (lY aJ hx9)) (by kernel_rfl)).trans ((lk hC [.shd 22] [] [] [(22,some (ar 46 1 2 aD x1.parts))] []).trans (lS)))⟩
    ·exact qk ⟨(x3.2.b,x3.2.p,x1.arrays,x1.parts),1,h,((lk hC [.shd 22] [] [] [(22,some (ar 46 1 2 aD x1.parts))] []).trans (lS))⟩
   ·refine rq hC [] [43,44] [(43,vB (decide (x3.1=2)))] [] [] (aS h (fun c4 h=> ?_) (fun c4 h=> ?_))
    ·refine rq hC [] [45,46] [(46,vB (decide ((0:Int)<(x1.parts.length:Int))))] [] [] (aS h (fun c5 h=> ?_) (fun c5 h=> ?_))
     ·refine qw (lk hC [.shd 22] [] [] [(22,some (ar 46 1 2 aD x1.parts))] []) ?_
      obtain⟨x10,hx10,x11,hx11,x12,hx12,h⟩:=kX h
      obtain⟨x13,hx13,x14,hx14,h⟩:=cO h
      exact dk hC bA [oQ (mO aD hx10),oX aD hx10,oC [0] [24] (s8 G hx11),.z (.at 5),.z (.fz 24 [57] []),oC [0] [25] (s8 G hx12),.z (.at 4),.z (.fz 25 [58] []),oC [0] [26] (s8 G hx13),.z (.at 1),.z (.fz 26 [59] []),oQ (mO aD hx10),oX aD hx10,.z (.rows (List.map aD x14)),oQ (str aD hx14)] (fr 47 15) [] [(24,none),(0,sR x13.2),(25,none),(26,none),(22,some (ar 46 1 2 aD x14))] [(0,true),(24,true),(0,true),(25,true),(0,true),(26,true)] ⟨(x13.2.b,x13.2.p,x1.arrays,x14),1,h,((yL hC [.lenc 23 1 (List.map aD x14).length] [] [] [(23,sc [ms 21 1 2 aJ x1.arrays,ms 22 1 2 aD x14])] [] (a1 (lY aD hx14)) (by kernel_rfl)).trans (lS))⟩
     ·exact qk ⟨(x3.2.b,x3.2.p,x1.arrays,x1.parts),1,h,((lk hC [.shd 22] [] [] [(22,some (ar 46 1 2 aD x1.parts))] []).trans (lS))⟩
    ·refine rq hC [] [62,63] [(62,vB (decide (x3.1=3)))] [] [] (aS h (fun c6 h=> ?_) (fun c6 h=> ?_))
     ·refine vj h (fun x_=>aX [(0,V.ref 0 0),(4,V.ref 20 0),(5,V.ref 23 0),(6,vI (x1.parts.length:Int)),(76,vB x_)] [(0,eL x3.2),(20,E.cells [V.t T.nilS,V.t T.nilS]),(21,ar 90 1 2 aJ x1.arrays),(22,E.tree nE 2 1 (List.map aD x1.parts) []),(23,E.cells [ms 21 1 2 aJ x1.arrays,ms 22 1 2 aD x1.parts])] [0,20,21,22,23]) (fun j15 h=> ?_) (fun x17 h=> ?_)
      ·
       refine aQ h (fun c7 h=> ?_) (fun c7 h=> ?_)
       ·exact rk hC (rF 10 c7) (fr 64 13) [(76,vB false)] [] [] (lE h)
       ·obtain⟨x16,hx16,h⟩:=bd h
        exact qw (yL hC [.foc 22 24 (0+Int.toNat (wr ((x1.parts.length:Int)-1))) 1 (aD x16),.shd 24] [] [] [(22,some (E.tree nE 2 1 (List.map aD x1.parts) [((0+Int.toNat (wr ((x1.parts.length:Int)-1))),1,ms 24 1 9 aG x16.body)])),(24,some (ar 84 1 9 aG x16.body))] [(24,true)] (a1 (rR aD hx16)) (by kernel_rfl)) (rk hC (rT 5 c7++[oQ (mO aD hx16),oT c7,oT c7,oX aD hx16,oT c7,oN aG x16.body,oT c7,oT c7]) (fr 64 13) [(76,vB (decide ((0:Int)<(x16.body.length:Int))))] [] [] ⟨decide ((0:Int)<(x16.body.length:Int)),h,((yL hC [.tre 24 nE 3,.unf 22 24 (aD x16) (List.map aD x1.parts)] [] [] [(24,none),(22,some (E.tree nE 2 1 (List.map aD x1.parts) []))] [] (a4 (Eq.refl (List.map aG x16.body).length) (Eq.refl nE) (rR aD hx16) (D5 aD hx16 rfl)) (by kernel_rfl)).trans (lS))⟩)
      ·refine aS h (fun c8 h=> ?_) (fun c8 h=> ?_)
       ·obtain⟨x18,hx18,h⟩:=bd h
        refine qw (yL hC [.foc 22 24 (0+Int.toNat (wr ((x1.parts.length:Int)-1))) 1 (aD x18),.shd 24] [] [] [(22,some (E.tree nE 2 1 (List.map aD x1.parts) [((0+Int.toNat (wr ((x1.parts.length:Int)-1))),1,ms 24 1 9 aG x18.body)])),(24,some (ar 84 1 9 aG x18.body))] [(24,true)] (a1 (rR aD hx18)) (by kernel_rfl)) ?_
        obtain⟨x19,hx19,x20,hx20,x21,hx21,h⟩:=kX h
        obtain⟨x22,hx22,x23,hx23,h⟩:=cO h
        refine dk hC bA [oQ (mO aD hx18),oX aD hx18,oQ (mO aD hx18),oX aD hx18,oQ (mO aG hx19),oX aG hx19,oC [0] [] (sY G hx20),oC [0] [] (sY G hx21),oC [0] [] (sY G hx22),oQ (mO aG hx19),oX aG hx19,.z (.rows (List.map aG x23)),oQ (str aG hx23)] (fr 77 23) [] [(0,sR x22.2),(24,some (ar 84 1 9 aG x23))] [(0,true),(0,true),(0,true)] ?_
        obtain⟨x24,hx24,h⟩:=bd h
        exact⟨(x22.2.b,x22.2.p,x1.arrays,x24),1,h,((yL hC [.tre 24 nE 3,.unf 22 24 (aD x18) (List.map aD x24),.lenc 23 1 (List.map aD x24).length] [] [] [(24,none),(22,some (E.tree nE 2 1 (List.map aD x24) [])),(23,sc [ms 21 1 2 aJ x1.arrays,ms 22 1 2 aD x24])] [] (a5 (lY aG hx23) (Eq.refl nE) (rR aD hx18) (V5 aD hx24 rfl) (lY aD hx24)) (by kernel_rfl)).trans ((lk hC [.shd 22] [] [] [(22,some (ar 46 1 2 aD x24))] []).trans (lS)))⟩
       ·exact qk ⟨(x3.2.b,x3.2.p,x1.arrays,x1.parts),1,h,((lk hC [.shd 22] [] [] [(22,some (ar 46 1 2 aD x1.parts))] []).trans (lS))⟩
     ·refine rq hC [] [100,101] [(100,vB (decide (x3.1=4)))] [] [] (aS h (fun c9 h=> ?_) (fun c9 h=> ?_))
      ·refine rq hC [] [102,103] [(103,vB (decide ((0:Int)<(x1.parts.length:Int))))] [] [] (aS h (fun c10 h=> ?_) (fun c10 h=> ?_))
       ·refine qw (lk hC [.shd 22] [] [] [(22,some (ar 46 1 2 aD x1.parts))] []) ?_
        obtain⟨x25,hx25,x26,hx26,h⟩:=cO h
        exact rk hC [oQ (mO aD hx25),oX aD hx25,.z (.rows (List.map aD x26)),.z (.lenc 23 1 (List.map aD x26).length),oQ (str aD hx26),oQ (lY aD hx26)] (fr 104 6) [] [(22,some (ar 46 1 2 aD x26)),(23,sc [ms 21 1 2 aJ x1.arrays,ms 22 1 2 aD x26])] [] ⟨(x3.2.b,x3.2.p,x1.arrays,x26),1,h,lS⟩
       ·exact qk ⟨(x3.2.b,x3.2.p,x1.arrays,x1.parts),1,h,((lk hC [.shd 22] [] [] [(22,some (ar 46 1 2 aD x1.parts))] []).trans (lS))⟩
      ·exact qk ⟨(x3.2.b,x3.2.p,x1.arrays,x1.parts),1,h,((lk hC [.shd 22] [] [] [(22,some (ar 46 1 2 aD x1.parts))] []).trans (lS))⟩
 ·rintro⟨x27,x28,x29,x30⟩ g31 h
  subst hj2
  obtain rfl:=so h
  exact rq hC [.z (.at 2),.z (.fz 21 [] [23]),.z (.at 2),.z (.fz 22 [] [23])] [110] [] [(23,sc [vM aJ x29,vM aD x30]),(21,none),(22,none),(20,sc [vM aJ x29,vM aD x30])] [] (qr eW)
theorem H3{a}{r}(h:dG n a=some r):VQ G 113 [] [V.agg (aK a)] (V.agg [ms 0 1 1 rI r.coefs,vI r.const]) [ar 3 1 1 rI r.coefs]:=by
 unfold dG at h
 refine vq aO Tryz.func113 rfl fun w X β0 hC hg=> ?_
 refine rq hC [.z (.b (true)),.z (.nat 20)] [1,2] [(1,V.tp (aT a)),(2,V.ref 20 0)] [(20,sc [V.t T.nilS,vI 0])] [(20,true)] (qs ?_)
 obtain⟨x1,hx1,h⟩:=bd h
 obtain rfl:=so h
 exact dk hC bA [oC [] [21] (G.clone a.coefs hx1)] (fr 3 6) [] [(21,some (ar 3 1 1 rI x1)),(20,sc [ms 21 1 1 rI x1,vI a.const])] [(21,true)] (qw (lk hC [.rn 21 0 [] [20]] [] [] [(20,sc [ms 0 1 1 rI x1,vI a.const]),(21,none),(0,some (ar 3 1 1 rI x1))] [(0,true)]) (qr eW))
theorem wJ(G:GS)(n:Nat)(a:Affine){r:Affine}(h:dG n a=some r):PQ G 113 [V.agg (aK a)] (V.agg (aK r)):=by
 unfold dG at h
 refine pq aO Tryz.func113 rfl fun w X hC=> ?_
 refine rq hC [.z (.b (true)),.z (.nat 20)] [1,2] [(1,V.tp (aT a)),(2,V.ref 20 0)] [(20,sc [V.t T.nilS,vI 0])] [(20,true)] (qs ?_)
 obtain⟨x1,hx1,h⟩:=bd h
 obtain rfl:=so h
 exact dk hC bA [oC [] [21] (G.clone a.coefs hx1)] (fr 3 6) [] [(21,some (ar 3 1 1 rI x1)),(20,sc [ms 21 1 1 rI x1,vI a.const])] [(21,true)] (qw (lk hC [.fz 21 [] [20]] [] [] [(20,sc [vM rI x1,vI a.const]),(21,none)] []) (qr eR))
theorem lT{list}{r}(h:fM n list=some r):VQ G 202 [] [vM aA list] (ms 0 1 2 aA r) [ar 79 1 2 aA r]:=by
 unfold fM at h
 refine vq aO Tryz.func202 rfl fun w X β0 hC hg=> ?_
 refine rq hC [] [2] [] [] [] (rq hC [] [3] [(3,V.t T.nilS)] [] [] (qs (rq hC [oN aA list] [6,7,8] [(6,vM aA list),(7,vI (list.length:Int)),(8,vI 0)] [] [] (qb (qw (lk hC [.grow 3 20 79] [3] [(3,ms 20 1 2 aA [])] [(20,some (ar 79 1 2 aA []))] [(20,true)]) ?_)))))
 refine bF (γ:=Nat) h (fun x_ g_=>aX [(3,ms 20 g_ 2 aA x_.1),(6,vM aA list),(7,vI (list.length:Int)),(8,vI x_.2)] [(20,ar 79 g_ 2 aA x_.1)] [20]) 1 (lS) ?_
 rintro again4 ⟨x1,x2⟩ g3 h
 refine rq hC [] [9] [(9,vB (decide (x2<(list.length:Int))))] [] [] (qs (aS h (fun c1 h=> ?_) (fun c1 h=> ?_)))
 ·refine qk (qs (qb ?_))
  obtain⟨x5,hx5,h⟩:=bd h
  refine rq hC [oR aA hx5,.z (.nat 21)] [5,10,11] [(5,V.ref 21 0)] [(21,some (E.cells (aK x5)))] [(21,true)] ?_
  obtain⟨x6,hx6,x7,hx7,h⟩:=cO h
  exact rk hC [oV (wJ G n x5 hx6),.z (.int 0),oA (aP aA hx7),oQ (bW (r:=aA) 2 aW x1),oQ (bW (r:=aA) 2 aW [x6])] [3,12,13,14,15,16] [(3,ms 20 (g3+1) 2 aA x7)] [(20,some (ar 79 (g3+1) 2 aA x7))] [] (rk hC [] [8,17] [(8,vI (wr (x2+1)))] [] [] ⟨(x7,wr (x2+1)),(g3+1),h,lS⟩)
 ·obtain rfl:=so h
  exact cW (rq hC [] [2,18] [(2,ms 20 g3 2 aA x1)] [] [] (qw (lk hC [.ren 2 20 0] [2] [(2,ms 0 1 2 aA x1)] [(0,some (ar 79 1 2 aA x1)),(20,none)] [(0,true)]) (qr eW)))
theorem aCP{nest}{r}(h:mB n nest=some r):VQ G 109 [] [vM aC nest] (ms 0 1 2 aC r) [ar 123 1 2 aC r]:=by
 unfold mB at h
 refine vq aO Tryz.func109 rfl fun w X β0 hC hg=> ?_
 refine rq hC [] [2] [] [] [] (rq hC [] [3] [(3,V.t T.nilS)] [] [] (qs (rq hC [oN aC nest] [6,7,8] [(6,vM aC nest),(7,vI (nest.length:Int)),(8,vI 0)] [] [] (qb (qw (lk hC [.grow 3 20 123] [3] [(3,ms 20 1 2 aC [])] [(20,some (ar 123 1 2 aC []))] [(20,true)]) ?_)))))
 refine bF (γ:=Nat) h (fun x_ g_=>aX [(3,ms 20 g_ 2 aC x_.1),(6,vM aC nest),(7,vI (nest.length:Int)),(8,vI x_.2)] [(20,ar 123 g_ 2 aC x_.1)] [20]) 1 (lS) ?_
 rintro again4 ⟨x1,x2⟩ g3 h
 refine rq hC [] [9] [(9,vB (decide (x2<(nest.length:Int))))] [] [] (qs (aS h (fun c1 h=> ?_) (fun c1 h=> ?_)))
 ·refine qk (qs (qb ?_))
  obtain⟨x5,hx5,h⟩:=bd h
  refine rq hC [oR aC hx5,.z (.nat 21)] [5,10,11] [(5,V.ref 21 0)] [(21,some (E.cells (gX x5)))] [(21,true)] ?_
  obtain⟨x6,hx6,x7,hx7,x8,hx8,h⟩:=kX h
  exact dk hC bA [oC [] [22] (lT G hx6),oC [] [23] (lT G hx7),.z (.at 4),.z (.fz 22 [15] []),.z (.at 4),.z (.fz 23 [18] []),.z (.int 0),oA (aP aC hx8),oQ (bW (r:=aC) 2 bL x1),oQ (bW (r:=aC) 2 bL [(⟨x6,x7⟩:Loop)])] [3,12,13,14,15,16,17,18,19,20,21] [(3,ms 20 (g3+1) 2 aC x8)] [(22,none),(23,none),(20,some (ar 123 (g3+1) 2 aC x8))] [(22,true),(23,true)] (rk hC [] [8,22] [(8,vI (wr (x2+1)))] [] [] ⟨(x8,wr (x2+1)),(g3+1),h,lS⟩)
 ·obtain rfl:=so h
  exact cW (rq hC [] [2,23] [(2,ms 20 g3 2 aC x1)] [] [] (qw (lk hC [.ren 2 20 0] [2] [(2,ms 0 1 2 aC x1)] [(0,some (ar 123 1 2 aC x1)),(20,none)] [(0,true)]) (qr eW)))
theorem wK(G:GS)(n:Nat)(a:Access)(changeF:FuncId)(change:Affine→Option Affine)(hchange: ∀(q0:Affine) r,change q0=some r→PQ G changeF [V.agg (aK q0)] (V.agg (aK r))){r:Access}(h:gH n a change=some r):PQ G 271 [V.agg (cF a),V.fn changeF []] (V.agg (cF r)):=by
 unfold gH at h
 refine pq aO Tryz.func271 rfl fun w X hC=> ?_
 refine rq hC [.z (.b (true)),.z (.nat 20)] [2,4] [(2,V.tp (dQ a)),(4,V.ref 20 0)] [(20,sc [vS [],V.t T.nilS])] [(20,true)] (rq hC [.z (.nat 21)] [5,8,9,10] [(5,V.ref 21 0)] [(21,sc [vS a.array,V.t T.nilS])] [(21,true)] (qs (rq hC [oN aA a.subs] (fr 11 4) [(12,vM aA a.subs),(13,vI (a.subs.length:Int)),(14,vI 0)] [] [] (qb (qw (lk hC [.growc 21 1 22 79] [] [] [(22,some (ar 79 1 2 aA [])),(21,sc [vS a.array,ms 22 1 2 aA []])] [(22,true)]) ?_)))))
 refine bF (γ:=Nat) h (fun x_ g_=>aX [(1,V.fn changeF []),(4,V.ref 20 0),(5,V.ref 21 0),(12,vM aA a.subs),(13,vI (a.subs.length:Int)),(14,vI x_.2)] [(20,E.cells [vS [],V.t T.nilS]),(21,E.cells [vS a.array,ms 22 g_ 2 aA x_.1]),(22,ar 79 g_ 2 aA x_.1)] [20,21,22]) 1 (lS) ?_
 rintro again4 ⟨x1,x2⟩ g3 h
 refine rq hC [] [15] [(15,vB (decide (x2<(a.subs.length:Int))))] [] [] (qs (aS h (fun c1 h=> ?_) (fun c1 h=> ?_)))
 ·refine qk (qs (qb ?_))
  obtain⟨x5,hx5,h⟩:=bd h
  refine rq hC [oR aA hx5,.z (.nat 23)] [7,16,17] [(7,V.ref 23 0)] [(23,some (E.cells (aK x5)))] [(23,true)] ?_
  obtain⟨x6,hx6,x7,hx7,h⟩:=cO h
  exact dk hC bA [oV (hchange x5 _ hx6),.z (.int 0),oA (aP aA hx7),oQ (bW (r:=aA) 2 aW x1),oQ (bW (r:=aA) 2 aW [x6])] (fr 18 8) [] [(22,some (ar 79 (g3+1) 2 aA x7)),(21,sc [vS a.array,ms 22 (g3+1) 2 aA x7])] [] (rk hC [] [14,26] [(14,vI (wr (x2+1)))] [] [] ⟨(x7,wr (x2+1)),(g3+1),h,lS⟩)
 ·obtain rfl:=so h
  exact cW (rq hC [.z (.at 2),.z (.fz 22 [] [21])] [27] [] [(21,sc [vS a.array,vM aA x1]),(22,none),(20,sc [vS a.array,vM aA x1])] [] (qr eR))
theorem aCR(G:GS): ∀(n:Nat) (e:Expr) (changeF:FuncId) (change:Affine→Option Affine) (hchange: ∀(q0:Affine) r,change q0=some r→PQ G changeF [V.agg (aK q0)] (V.agg (aK r))) {r:Expr} (h:i_exprMap n e change=some r),PQ G 272 [V.agg (cU e),V.fn changeF []] (V.agg (cU r)):=by
 intro n
 induction n with
 |zero=>intro e changeF change hchange r h;rw [i_exprMap.eq_def] at h;cases h
 |succ n ih=>
  intro e changeF change hchange r h
  rw [i_exprMap.eq_def] at h;dsimp only at h
  refine pq aO Tryz.func272 rfl fun w X hC=> ?_
  refine rq hC [.z (.b (true)),.z (.nat 20)] [2,4] [(2,V.tp (fI e)),(4,V.ref 20 0)] [(20,sc [vI 0,vI 0,V.t T.nilS,vI 0,vS [],V.t T.nilS,V.t T.nilS])] [(20,true)] (rq hC [.z (.nat 21)] [5,8,9,10,11,12] [(5,V.ref 21 0)] [(21,sc [vI e.kind,vI e.num,V.t T.nilS,vI 0,vS [],V.t T.nilS,V.t T.nilS])] [(21,true)] (vj h (fun x_=>aX [(1,V.fn changeF []),(2,V.tp (fI e)),(4,V.ref 20 0),(5,V.ref 21 0)] [(20,E.cells [vI 0,vI 0,V.t T.nilS,vI 0,vS [],V.t T.nilS,V.t T.nilS]),(21,E.cells [vI e.kind,vI e.num,vM rI x_.1,vI x_.2.1,vS x_.2.2.1,vM aA x_.2.2.2,V.t T.nilS])] [20,21]) (fun j1 h=> ?_) ?_))
  ·
   refine rq hC [] [13,14] [(14,vI e.kind)] [] [] (qb (rq hC [] [15,16] [(15,vB (decide (e.kind=2)))] [] [] (aS h (fun c1 h=> ?_) (fun c1 h=> ?_))))
   ·obtain⟨x2,hx2,h⟩:=bd h
    exact rk hC [oV (hchange e.index _ hx2)] (fr 17 5) [] [(21,sc [vI e.kind,vI e.num,vM rI x2.coefs,vI x2.const,vS [],V.t T.nilS,V.t T.nilS])] [] (lE h)
   ·refine rq hC [] [22,23] [(22,vB (decide (e.kind=3)))] [] [] (aS h (fun c2 h=> ?_) (fun c2 h=> ?_))
    ·obtain⟨x3,hx3,h⟩:=bd h
     exact rk hC [oV (wK G n e.read changeF change hchange hx3)] (fr 24 5) [] [(21,sc [vI e.kind,vI e.num,V.t T.nilS,vI 0,vS x3.array,vM aA x3.subs,V.t T.nilS])] [] (lE h)
    ·exact qk (lE h)
  ·rintro⟨x4,x5,x6,x7⟩ h
   refine qs (rq hC [oN aI e.kids] (fr 29 4) [(30,vM aI e.kids),(31,vI (e.kids.length:Int)),(32,vI 0)] [] [] (qb (qw (lk hC [.growc 21 6 22 82] [] [] [(22,some (ar 82 1 7 aI [])),(21,sc [vI e.kind,vI e.num,vM rI x4,vI x5,vS x6,vM aA x7,ms 22 1 7 aI []])] [(22,true)]) (bF (γ:=Nat) h (fun x_ g_=>aX [(1,V.fn changeF []),(4,V.ref 20 0),(5,V.ref 21 0),(30,vM aI e.kids),(31,vI (e.kids.length:Int)),(32,vI x_.2)] [(20,E.cells [vI 0,vI 0,V.t T.nilS,vI 0,vS [],V.t T.nilS,V.t T.nilS]),(21,E.cells [vI e.kind,vI e.num,vM rI x4,vI x5,vS x6,vM aA x7,ms 22 g_ 7 aI x_.1]),(22,ar 82 g_ 7 aI x_.1)] [20,21,22]) 1 (lS) ?_))))
   rintro again11 ⟨x8,x9⟩ g10 h
   refine rq hC [] [33] [(33,vB (decide (x9<(e.kids.length:Int))))] [] [] (qs (aS h (fun c3 h=> ?_) (fun c3 h=> ?_)))
   ·refine qk (qs (qb ?_))
    obtain⟨x12,hx12,h⟩:=bd h
    refine rq hC [.z (.row (eC x12)),.z (.nat 23),oQ (eZ aI hx12 (cQ x12))] [7,34,35] [(7,V.ref 23 0)] [(23,some (E.cells (cU x12)))] [(23,true)] ?_
    obtain⟨x13,hx13,x14,hx14,h⟩:=cO h
    exact dk hC bA [oV (ih x12 changeF change hchange hx13),.z (.int 2),.z (.rows (List.map aI [x13])),oQ (sV x13),oA (aP aI hx14),oQ (bW (r:=aI) 7 d7 x8),oQ (bW (r:=aI) 7 d7 [x13])] (fr 36 8) [] [(22,some (ar 82 (g10+1) 7 aI x14)),(21,sc [vI e.kind,vI e.num,vM rI x4,vI x5,vS x6,vM aA x7,ms 22 (g10+1) 7 aI x14])] [] (rk hC [] [32,44] [(32,vI (wr (x9+1)))] [] [] ⟨(x14,wr (x9+1)),(g10+1),h,lS⟩)
   ·obtain rfl:=so h
    exact cW (rq hC [.z (.at 2),.z (.fz 22 [] [21])] [45] [] [(21,sc [vI e.kind,vI e.num,vM rI x4,vI x5,vS x6,vM aA x7,vM aI x8]),(22,none),(20,sc [vI e.kind,vI e.num,vM rI x4,vI x5,vS x6,vM aA x7,vM aI x8])] [] (qr eR))
theorem aCN(G:GS)(n:Nat)(s:Stmt)(changeF:FuncId)(change:Affine→Option Affine)(hchange: ∀(q0:Affine) r,change q0=some r→PQ G changeF [V.agg (aK q0)] (V.agg (aK r))){r:Stmt}(h:iB n s change=some r):PQ G 203 [V.agg (cS s),V.fn changeF []] (V.agg (cS r)):=by
 unfold iB at h
 refine pq aO Tryz.func203 rfl fun w X hC=> ?_
 refine rq hC [.z (.b (true)),.z (.nat 20)] [2,4] [(2,V.tp (oW s)),(4,V.ref 20 0)] [(20,sc [vS [],V.t T.nilS,vI 0,vI 0,V.t T.nilS,vI 0,vS [],V.t T.nilS,V.t T.nilS])] [(20,true)] (qs ?_)
 obtain⟨x1,hx1,x2,hx2,h⟩:=cO h
 obtain rfl:=so h
 exact dk hC bA [oV (wK G n s.write changeF change hchange hx1),oV (aCR G n s.value changeF change hchange hx2)] (fr 5 9) [] [(20,sc [vS x1.array,vM aA x1.subs,vI x2.kind,vI x2.num,vM rI x2.index.coefs,vI x2.index.const,vS x2.read.array,vM aA x2.read.subs,vM aI x2.kids])] [] (qr eR)
theorem F9{s}{r}(h:q9 n s=some r):PQ G 157 [V.agg (cS s)] (V.agg (cS r)):=by
 unfold q9 at h
 refine pq aO Tryz.func157 rfl fun w X hC=> ?_
 refine rq hC [.z (.b (true)),.z (.nat 20)] [1,2] [(1,V.tp (oW s)),(2,V.ref 20 0)] [(20,sc [vS [],V.t T.nilS,vI 0,vI 0,V.t T.nilS,vI 0,vS [],V.t T.nilS,V.t T.nilS])] [(20,true)] ?_
 obtain⟨x1,hx1,h⟩:=bd h
 obtain rfl:=so h
 exact rq hC [oV (aCN G n s 113 (fun q0=>dG n q0) (fun q0 r h=>wJ G n q0 h) hx1)] [3,4] [] [(20,some (E.cells (cS x1)))] [] (qr eR)
theorem aCO{p}{r}(h:kS n p=some r):VQ G 95 [] [V.agg (l4 p)] (V.agg [ms 0 1 2 aC r.nest,ms 1 1 9 aG r.body]) [ar 123 1 2 aC r.nest,ar 84 1 9 aG r.body]:=by
 unfold kS at h
 refine vq aO Tryz.func95 rfl fun w X β0 hC hg=> ?_
 refine rq hC [.z (.b (true)),.z (.nat 20)] [1,2] [(1,V.tp (mT p)),(2,V.ref 20 0)] [(20,sc [V.t T.nilS,V.t T.nilS])] [(20,true)] ?_
 obtain⟨x1,hx1,h⟩:=bd h
 refine rq hC [oC [] [21] (aCP G hx1),.z (.nat 22)] [3,6,7,8,9] [(3,V.ref 22 0)] [(21,some (ar 123 1 2 aC x1)),(22,sc [ms 21 1 2 aC x1,V.t T.nilS])] [(21,true),(22,true)] (qs (rq hC [oN aG p.body] (fr 10 4) [(11,vM aG p.body),(12,vI (p.body.length:Int)),(13,vI 0)] [] [] (qb (qw (lk hC [.growc 22 1 23 84] [] [] [(23,some (ar 84 1 9 aG [])),(22,sc [ms 21 1 2 aC x1,ms 23 1 9 aG []])] [(23,true)]) (bF (γ:=Nat) h (fun x_ g_=>aX [(2,V.ref 20 0),(3,V.ref 22 0),(11,vM aG p.body),(12,vI (p.body.length:Int)),(13,vI x_.2)] [(20,E.cells [V.t T.nilS,V.t T.nilS]),(21,ar 123 1 2 aC x1),(22,E.cells [ms 21 1 2 aC x1,ms 23 g_ 9 aG x_.1]),(23,ar 84 g_ 9 aG x_.1)] [20,21,22,23]) 1 (lS) ?_)))))
 rintro again5 ⟨x2,x3⟩ g4 h
 refine rq hC [] [14] [(14,vB (decide (x3<(p.body.length:Int))))] [] [] (qs (aS h (fun c1 h=> ?_) (fun c1 h=> ?_)))
 ·refine qk (qs (qb ?_))
  obtain⟨x6,hx6,h⟩:=bd h
  refine rq hC [oR aG hx6,.z (.nat 24)] [5,15,16] [(5,V.ref 24 0)] [(24,some (E.cells (cS x6)))] [(24,true)] ?_
  obtain⟨x7,hx7,x8,hx8,h⟩:=cO h
  exact dk hC bA [oV (F9 G hx7),.z (.int 0),oA (aP aG hx8),oQ (bW (r:=aG) 9 d6 x2),oQ (bW (r:=aG) 9 d6 [x7])] (fr 17 7) [] [(23,some (ar 84 (g4+1) 9 aG x8)),(22,sc [ms 21 1 2 aC x1,ms 23 (g4+1) 9 aG x8])] [] (rk hC [] [13,24] [(13,vI (wr (x3+1)))] [] [] ⟨(x8,wr (x3+1)),(g4+1),h,lS⟩)
 ·obtain rfl:=so h
  exact cW (rq hC [] [25] [] [(20,sc [ms 21 1 2 aC x1,ms 23 g4 9 aG x2])] [] (qw (lk hC [.rn 21 0 [] [20,22]] [] [] [(20,sc [ms 0 1 2 aC x1,ms 23 g4 9 aG x2]),(22,sc [ms 0 1 2 aC x1,ms 23 g4 9 aG x2]),(21,none),(0,some (ar 123 1 2 aC x1))] [(0,true)]) (qw (lk hC [.rn 23 1 [] [20,22]] [] [] [(20,sc [ms 0 1 2 aC x1,ms 1 1 9 aG x2]),(22,sc [ms 0 1 2 aC x1,ms 1 1 9 aG x2]),(23,none),(1,some (ar 84 1 9 aG x2))] [(1,true)]) (qr eW))))
theorem H5{p}{r}(h:eM n p=some r):VQ G 65 [] [V.agg (bH p)] (V.agg [ms 0 1 2 aJ r.arrays,ms 1 1 2 aD r.parts]) [ar 90 1 2 aJ r.arrays,ar 46 1 2 aD r.parts]:=by
 unfold eM at h
 refine vq aO Tryz.func65 rfl fun w X β0 hC hg=> ?_
 refine rq hC [.z (.b (true)),.z (.nat 20)] [1,2] [(1,V.tp (bO p)),(2,V.ref 20 0)] [(20,sc [V.t T.nilS,V.t T.nilS])] [(20,true)] (rq hC [.z (.nat 21)] [3] [(3,V.ref 21 0)] [(21,sc [V.t T.nilS,V.t T.nilS])] [(21,true)] (qs (rq hC [oN aJ p.arrays] (fr 8 4) [(9,vM aJ p.arrays),(10,vI (p.arrays.length:Int)),(11,vI 0)] [] [] (qb (qw (lk hC [.growc 21 0 22 90] [] [] [(22,some (ar 90 1 2 aJ [])),(21,sc [ms 22 1 2 aJ [],V.t T.nilS])] [(22,true)]) ?_)))))
 refine bF (γ:=Nat) h (fun x_ g_=>aX [(1,V.tp (bO p)),(2,V.ref 20 0),(3,V.ref 21 0),(9,vM aJ p.arrays),(10,vI (p.arrays.length:Int)),(11,vI x_.2)] [(20,E.cells [V.t T.nilS,V.t T.nilS]),(21,E.cells [ms 22 g_ 2 aJ x_.1,V.t T.nilS]),(22,ar 90 g_ 2 aJ x_.1)] [20,21,22]) 1 (lS) ?_
 rintro again4 ⟨x1,x2⟩ g3 h
 refine rq hC [] [12] [(12,vB (decide (x2<(p.arrays.length:Int))))] [] [] (qs (aS h (fun c1 h=> ?_) (fun c1 h=> ?_)))
 ·refine qk (qs (qb ?_))
  obtain⟨x5,hx5,h⟩:=bd h
  refine rq hC [oR aJ hx5,.z (.nat 23)] [5,13,14] [(5,V.ref 23 0)] [(23,sc [vS x5.name,vM rI x5.dims])] [(23,true)] ?_
  obtain⟨x6,hx6,x7,hx7,h⟩:=cO h
  exact dk hC bA [oC [] [24] (G.clone x5.dims hx6),.z (.at 5),.z (.fz 24 [21] []),.z (.int 0),oA (aP aJ hx7),oQ (bW (r:=aJ) 2 gU x1),oQ (bW (r:=aJ) 2 gU [(⟨x5.name,x6⟩:Arr)])] (fr 15 11) [] [(24,none),(22,some (ar 90 (g3+1) 2 aJ x7)),(21,sc [ms 22 (g3+1) 2 aJ x7,V.t T.nilS])] [(24,true)] (rk hC [] [11,26] [(11,vI (wr (x2+1)))] [] [] ⟨(x7,wr (x2+1)),(g3+1),h,lS⟩)
 ·refine cW (qs (rq hC [oN aD p.parts] (fr 27 4) [(28,vM aD p.parts),(29,vI (p.parts.length:Int)),(30,vI 0)] [] [] (qb (qw (lk hC [.growc 21 1 23 46] [] [] [(23,some (ar 46 1 2 aD [])),(21,sc [ms 22 g3 2 aJ x1,ms 23 1 2 aD []])] [(23,true)]) (bF (γ:=Nat) h (fun x_ g_=>aX [(2,V.ref 20 0),(3,V.ref 21 0),(28,vM aD p.parts),(29,vI (p.parts.length:Int)),(30,vI x_.2)] [(20,E.cells [V.t T.nilS,V.t T.nilS]),(21,E.cells [ms 22 g3 2 aJ x1,ms 23 g_ 2 aD x_.1]),(22,ar 90 g3 2 aJ x1),(23,ar 46 g_ 2 aD x_.1)] [20,21,22,23]) 1 (lS) ?_)))))
  rintro again11 ⟨x8,x9⟩ g10 h
  refine rq hC [] [31] [(31,vB (decide (x9<(p.parts.length:Int))))] [] [] (qs (aS h (fun c2 h=> ?_) (fun c2 h=> ?_)))
  ·refine qk (qs (qb ?_))
   obtain⟨x12,hx12,h⟩:=bd h
   refine rq hC [oR aD hx12,.z (.nat 24)] [7,32,33] [(7,V.ref 24 0)] [(24,some (E.cells (l4 x12)))] [(24,true)] ?_
   obtain⟨x13,hx13,x14,hx14,h⟩:=cO h
   exact dk hC bA [oC [] [25,26] (aCO G hx13),.z (.at 4),.z (.fz 25 [37] []),.z (.at 4),.z (.fz 26 [37] []),.z (.int 0),oA (aP aD hx14),oQ (bW (r:=aD) 2 cB x8),oQ (bW (r:=aD) 2 cB [x13])] (fr 34 7) [] [(25,none),(26,none),(23,some (ar 46 (g10+1) 2 aD x14)),(21,sc [ms 22 g3 2 aJ x1,ms 23 (g10+1) 2 aD x14])] [(25,true),(26,true)] (rk hC [] [30,41] [(30,vI (wr (x9+1)))] [] [] ⟨(x14,wr (x9+1)),(g10+1),h,lS⟩)
  ·obtain rfl:=so h
   exact cW (rq hC [] [42] [] [(20,sc [ms 22 g3 2 aJ x1,ms 23 g10 2 aD x8])] [] (qw (lk hC [.rn 22 0 [] [20,21]] [] [] [(20,sc [ms 0 1 2 aJ x1,ms 23 g10 2 aD x8]),(21,sc [ms 0 1 2 aJ x1,ms 23 g10 2 aD x8]),(22,none),(0,some (ar 90 1 2 aJ x1))] [(0,true)]) (qw (lk hC [.rn 23 1 [] [20,21]] [] [] [(20,sc [ms 0 1 2 aJ x1,ms 1 1 2 aD x8]),(21,sc [ms 0 1 2 aJ x1,ms 1 1 2 aD x8]),(23,none),(1,some (ar 46 1 2 aD x8))] [(1,true)]) (qr eW))))
def gD:List Nd:=[⟨46,2,[(0,1),(1,2)]⟩,⟨123,2,[(0,3),(1,3)]⟩,⟨84,9,[]⟩,⟨79,2,[]⟩,⟨75,1,[(0,3)]⟩]
theorem X5{nest}{r}(h:mB n nest=some r):VQ G 109 [] [vM aC nest] (ms 0 1 2 aC r) [E.tree gD 1 1 (List.map aC r) []]:=by
 unfold mB at h
 refine vq aO Tryz.func109 rfl fun w X β0 hC hg=> ?_
 refine rq hC [] [2] [] [] [] (rq hC [] [3] [(3,V.t T.nilS)] [] [] (qs (rq hC [oN aC nest] [6,7,8] [(6,vM aC nest),(7,vI (nest.length:Int)),(8,vI 0)] [] [] (qb (qw (lk hC [.grow 3 20 123,.tre 20 gD 1] [3] [(3,ms 20 1 2 aC [])] [(20,some (E.tree gD 1 1 (List.map aC []) []))] [(20,true)]) ?_)))))
 refine bF (γ:=Nat) h (fun x_ g_=>aX [(3,ms 20 g_ 2 aC x_.1),(6,vM aC nest),(7,vI (nest.length:Int)),(8,vI x_.2)] [(20,E.tree gD 1 g_ (List.map aC x_.1) [])] [20]) 1 (lS) ?_
 rintro again4 ⟨x1,x2⟩ g3 h
 refine rq hC [] [9] [(9,vB (decide (x2<(nest.length:Int))))] [] [] (qs (aS h (fun c1 h=> ?_) (fun c1 h=> ?_)))
 ·refine qk (qs (qb ?_))
  obtain⟨x5,hx5,h⟩:=bd h
  refine rq hC [oR aC hx5,.z (.nat 21)] [5,10,11] [(5,V.ref 21 0)] [(21,some (E.cells (gX x5)))] [(21,true)] ?_
  obtain⟨x6,hx6,x7,hx7,x8,hx8,h⟩:=kX h
  exact dk hC bA [oC [] [22] (lT G hx6),oC [] [23] (lT G hx7),.z (.lt 24 gD 1),.z (.rows (List.map aC (x1++[(⟨[],[]⟩:Loop)]))),oQ (Eq.refl (ndOf gD 1)),oQ (aH7 aC (⟨[],[]⟩:Loop) hx8),oQ (bW (r:=aC) 2 bL x1),oQ (bW (r:=aC) 2 bL [(⟨[],[]⟩:Loop)])] [3,12,13,14,15,16,17,18,19,20,21] [(3,ms 20 (g3+1) 2 aC (x1++[(⟨[],[]⟩:Loop)]))] [(22,some (ar 79 1 2 aA x6)),(23,some (ar 79 1 2 aA x7)),(24,some (E.tree gD 1 1 (List.map aC [(⟨[],[]⟩:Loop)]) [(0,0,ms 22 1 2 aA x6),(0,1,ms 23 1 2 aA x7)])),(20,some (E.tree gD 1 (g3+1) (List.map aC (x1++[(⟨[],[]⟩:Loop)])) (pJ (List.map aC x1).length [(0,0,ms 22 1 2 aA x6),(0,1,ms 23 1 2 aA x7)])))] [(22,true),(23,true),(24,true)] (qw (yL hC [.tre 22 gD 3,.unf 20 22 (aC (⟨[],[]⟩:Loop)) (List.map aC (x1++[(⟨x6,[]⟩:Loop)])),.tre 23 gD 3,.unf 20 23 (aC (⟨x6,[]⟩:Loop)) (List.map aC x8),.len 3 (List.map aC x8).length] [3] [(3,ms 20 (g3+1) 2 aC x8)] [(22,none),(23,none),(20,some (E.tree gD 1 (g3+1) (List.map aC x8) []))] [] (a9 (Eq.refl (List.map aA x6).length) (Eq.refl gD) (aAR aC x1 (⟨[],[]⟩:Loop)) (aGD aC x1 (ph:=(⟨[],[]⟩:Loop)) (y:=(⟨x6,[]⟩:Loop)) rfl) (Eq.refl (List.map aA x7).length) (Eq.refl gD) (aAR aC x1 (⟨x6,[]⟩:Loop)) (aBW aC (ph:=(⟨x6,[]⟩:Loop)) hx8 rfl) (aG0 aC (⟨[],[]⟩:Loop) hx8)) (by kernel_rfl)) (rk hC [] [8,22] [(8,vI (wr (x2+1)))] [] [] ⟨(x8,wr (x2+1)),(g3+1),h,lS⟩))
 ·obtain rfl:=so h
  exact cW (rq hC [] [2,23] [(2,ms 20 g3 2 aC x1)] [] [] (qw (lk hC [.rn 20 0 [2,3] []] [2,3] [(2,ms 0 1 2 aC x1),(3,ms 0 1 2 aC x1)] [(20,none),(0,some (E.tree gD 1 1 (List.map aC x1) []))] [(0,true)]) (qr eW)))
theorem X4{p}{r}(h:kS n p=some r):VQ G 95 [] [V.agg (l4 p)] (V.agg [ms 0 1 2 aC r.nest,ms 1 1 9 aG r.body]) [E.tree gD 1 1 (List.map aC r.nest) [],ar 84 1 9 aG r.body]:=by
 unfold kS at h
 refine vq aO Tryz.func95 rfl fun w X β0 hC hg=> ?_
 refine rq hC [.z (.b (true)),.z (.nat 20)] [1,2] [(1,V.tp (mT p)),(2,V.ref 20 0)] [(20,sc [V.t T.nilS,V.t T.nilS])] [(20,true)] ?_
 obtain⟨x1,hx1,h⟩:=bd h
 refine rq hC [oC [] [21] (X5 G hx1),.z (.nat 22)] [3,6,7,8,9] [(3,V.ref 22 0)] [(21,some (E.tree gD 1 1 (List.map aC x1) [])),(22,sc [ms 21 1 2 aC x1,V.t T.nilS])] [(21,true),(22,true)] (qs (rq hC [oN aG p.body] (fr 10 4) [(11,vM aG p.body),(12,vI (p.body.length:Int)),(13,vI 0)] [] [] (qb (qw (lk hC [.growc 22 1 23 84] [] [] [(23,some (ar 84 1 9 aG [])),(22,sc [ms 21 1 2 aC x1,ms 23 1 9 aG []])] [(23,true)]) (bF (γ:=Nat) h (fun x_ g_=>aX [(2,V.ref 20 0),(3,V.ref 22 0),(11,vM aG p.body),(12,vI (p.body.length:Int)),(13,vI x_.2)] [(20,E.cells [V.t T.nilS,V.t T.nilS]),(21,E.tree gD 1 1 (List.map aC x1) []),(22,E.cells [ms 21 1 2 aC x1,ms 23 g_ 9 aG x_.1]),(23,ar 84 g_ 9 aG x_.1)] [20,21,22,23]) 1 (lS) ?_)))))
 rintro again5 ⟨x2,x3⟩ g4 h
 refine rq hC [] [14] [(14,vB (decide (x3<(p.body.length:Int))))] [] [] (qs (aS h (fun c1 h=> ?_) (fun c1 h=> ?_)))
 ·refine qk (qs (qb ?_))
  obtain⟨x6,hx6,h⟩:=bd h
  refine rq hC [oR aG hx6,.z (.nat 24)] [5,15,16] [(5,V.ref 24 0)] [(24,some (E.cells (cS x6)))] [(24,true)] ?_
  obtain⟨x7,hx7,x8,hx8,h⟩:=cO h
  exact dk hC bA [oV (F9 G hx7),.z (.int 0),oA (aP aG hx8),oQ (bW (r:=aG) 9 d6 x2),oQ (bW (r:=aG) 9 d6 [x7])] (fr 17 7) [] [(23,some (ar 84 (g4+1) 9 aG x8)),(22,sc [ms 21 1 2 aC x1,ms 23 (g4+1) 9 aG x8])] [] (rk hC [] [13,24] [(13,vI (wr (x3+1)))] [] [] ⟨(x8,wr (x3+1)),(g4+1),h,lS⟩)
 ·obtain rfl:=so h
  exact cW (rq hC [] [25] [] [(20,sc [ms 21 1 2 aC x1,ms 23 g4 9 aG x2])] [] (qw (lk hC [.rn 21 0 [] [20,22]] [] [] [(20,sc [ms 0 1 2 aC x1,ms 23 g4 9 aG x2]),(22,sc [ms 0 1 2 aC x1,ms 23 g4 9 aG x2]),(21,none),(0,some (E.tree gD 1 1 (List.map aC x1) []))] [(0,true)]) (qw (lk hC [.rn 23 1 [] [20,22]] [] [] [(20,sc [ms 0 1 2 aC x1,ms 1 1 9 aG x2]),(22,sc [ms 0 1 2 aC x1,ms 1 1 9 aG x2]),(23,none),(1,some (ar 84 1 9 aG x2))] [(1,true)]) (qr eW))))
theorem zG{p}{r}(h:eM n p=some r):VQ G 65 [] [V.agg (bH p)] (V.agg [ms 0 1 2 aJ r.arrays,ms 1 1 2 aD r.parts]) [ar 90 1 2 aJ r.arrays,E.tree gD 0 1 (List.map aD r.parts) []]:=by
 unfold eM at h
 refine vq aO Tryz.func65 rfl fun w X β0 hC hg=> ?_
 refine rq hC [.z (.b (true)),.z (.nat 20)] [1,2] [(1,V.tp (bO p)),(2,V.ref 20 0)] [(20,sc [V.t T.nilS,V.t T.nilS])] [(20,true)] (rq hC [.z (.nat 21)] [3] [(3,V.ref 21 0)] [(21,sc [V.t T.nilS,V.t T.nilS])] [(21,true)] (qs (rq hC [oN aJ p.arrays] (fr 8 4) [(9,vM aJ p.arrays),(10,vI (p.arrays.length:Int)),(11,vI 0)] [] [] (qb (qw (lk hC [.growc 21 0 22 90] [] [] [(22,some (ar 90 1 2 aJ [])),(21,sc [ms 22 1 2 aJ [],V.t T.nilS])] [(22,true)]) ?_)))))
 refine bF (γ:=Nat) h (fun x_ g_=>aX [(1,V.tp (bO p)),(2,V.ref 20 0),(3,V.ref 21 0),(9,vM aJ p.arrays),(10,vI (p.arrays.length:Int)),(11,vI x_.2)] [(20,E.cells [V.t T.nilS,V.t T.nilS]),(21,E.cells [ms 22 g_ 2 aJ x_.1,V.t T.nilS]),(22,ar 90 g_ 2 aJ x_.1)] [20,21,22]) 1 (lS) ?_
 rintro again4 ⟨x1,x2⟩ g3 h
 refine rq hC [] [12] [(12,vB (decide (x2<(p.arrays.length:Int))))] [] [] (qs (aS h (fun c1 h=> ?_) (fun c1 h=> ?_)))
 ·refine qk (qs (qb ?_))
  obtain⟨x5,hx5,h⟩:=bd h
  refine rq hC [oR aJ hx5,.z (.nat 23)] [5,13,14] [(5,V.ref 23 0)] [(23,sc [vS x5.name,vM rI x5.dims])] [(23,true)] ?_
  obtain⟨x6,hx6,x7,hx7,h⟩:=cO h
  exact dk hC bA [oC [] [24] (G.clone x5.dims hx6),.z (.at 5),.z (.fz 24 [21] []),.z (.int 0),oA (aP aJ hx7),oQ (bW (r:=aJ) 2 gU x1),oQ (bW (r:=aJ) 2 gU [(⟨x5.name,x6⟩:Arr)])] (fr 15 11) [] [(24,none),(22,some (ar 90 (g3+1) 2 aJ x7)),(21,sc [ms 22 (g3+1) 2 aJ x7,V.t T.nilS])] [(24,true)] (rk hC [] [11,26] [(11,vI (wr (x2+1)))] [] [] ⟨(x7,wr (x2+1)),(g3+1),h,lS⟩)
 ·refine cW (qs (rq hC [oN aD p.parts] (fr 27 4) [(28,vM aD p.parts),(29,vI (p.parts.length:Int)),(30,vI 0)] [] [] (qb (qw (lk hC [.growc 21 1 23 46,.tre 23 gD 0] [] [] [(23,some (E.tree gD 0 1 (List.map aD []) [])),(21,sc [ms 22 g3 2 aJ x1,ms 23 1 2 aD []])] [(23,true)]) (bF (γ:=Nat) h (fun x_ g_=>aX [(2,V.ref 20 0),(3,V.ref 21 0),(28,vM aD p.parts),(29,vI (p.parts.length:Int)),(30,vI x_.2)] [(20,E.cells [V.t T.nilS,V.t T.nilS]),(21,E.cells [ms 22 g3 2 aJ x1,ms 23 g_ 2 aD x_.1]),(22,ar 90 g3 2 aJ x1),(23,E.tree gD 0 g_ (List.map aD x_.1) [])] [20,21,22,23]) 1 (lS) ?_)))))
  rintro again11 ⟨x8,x9⟩ g10 h
  refine rq hC [] [31] [(31,vB (decide (x9<(p.parts.length:Int))))] [] [] (qs (aS h (fun c2 h=> ?_) (fun c2 h=> ?_)))
  ·refine qk (qs (qb ?_))
   obtain⟨x12,hx12,h⟩:=bd h
   refine rq hC [oR aD hx12,.z (.nat 24)] [7,32,33] [(7,V.ref 24 0)] [(24,some (E.cells (l4 x12)))] [(24,true)] ?_
   obtain⟨x13,hx13,x14,hx14,h⟩:=cO h
   exact dk hC bA [oC [] [25,26] (X4 G hx13),.z (.lt 27 gD 0),.z (.rows (List.map aD (x8++[(⟨[],[]⟩:Part)]))),oQ (Eq.refl (ndOf gD 0)),oQ (aH7 aD (⟨[],[]⟩:Part) hx14),oQ (bW (r:=aD) 2 cB x8),oQ (bW (r:=aD) 2 cB [(⟨[],[]⟩:Part)])] (fr 34 7) [] [(25,some (E.tree gD 1 1 (List.map aC x13.nest) [])),(26,some (ar 84 1 9 aG x13.body)),(27,some (E.tree gD 0 1 (List.map aD [(⟨[],[]⟩:Part)]) [(0,0,ms 25 1 2 aC x13.nest),(0,1,ms 26 1 9 aG x13.body)])),(23,some (E.tree gD 0 (g10+1) (List.map aD (x8++[(⟨[],[]⟩:Part)])) (pJ (List.map aD x8).length [(0,0,ms 25 1 2 aC x13.nest),(0,1,ms 26 1 9 aG x13.body)]))),(21,sc [ms 22 g3 2 aJ x1,ms 23 (g10+1) 2 aD (x8++[(⟨[],[]⟩:Part)])])] [(25,true),(26,true),(27,true)] (qw (yL hC [.unf 23 25 (aD (⟨[],[]⟩:Part)) (List.map aD (x8++[(⟨x13.nest,[]⟩:Part)])),.tre 26 gD 2,.unf 23 26 (aD (⟨x13.nest,[]⟩:Part)) (List.map aD x14),.lenc 21 1 (List.map aD x14).length] [] [] [(25,none),(26,none),(23,some (E.tree gD 0 (g10+1) (List.map aD x14) [])),(21,sc [ms 22 g3 2 aJ x1,ms 23 (g10+1) 2 aD x14])] [] (a9 (Eq.refl (List.map aC x13.nest).length) (Eq.refl gD) (aAR aD x8 (⟨[],[]⟩:Part)) (aGD aD x8 (ph:=(⟨[],[]⟩:Part)) (y:=(⟨x13.nest,[]⟩:Part)) rfl) (Eq.refl (List.map aG x13.body).length) (Eq.refl gD) (aAR aD x8 (⟨x13.nest,[]⟩:Part)) (aBW aD (ph:=(⟨x13.nest,[]⟩:Part)) hx14 rfl) (aG0 aD (⟨[],[]⟩:Part) hx14)) (by kernel_rfl)) (rk hC [] [30,41] [(30,vI (wr (x9+1)))] [] [] ⟨(x14,wr (x9+1)),(g10+1),h,lS⟩))
  ·obtain rfl:=so h
   exact cW (rq hC [] [42] [] [(20,sc [ms 22 g3 2 aJ x1,ms 23 g10 2 aD x8])] [] (qw (lk hC [.rn 22 0 [] [20,21]] [] [] [(20,sc [ms 0 1 2 aJ x1,ms 23 g10 2 aD x8]),(21,sc [ms 0 1 2 aJ x1,ms 23 g10 2 aD x8]),(22,none),(0,some (ar 90 1 2 aJ x1))] [(0,true)]) (qw (lk hC [.rn 23 1 [] [20,21]] [] [] [(20,sc [ms 0 1 2 aJ x1,ms 1 1 2 aD x8]),(21,sc [ms 0 1 2 aJ x1,ms 1 1 2 aD x8]),(23,none),(1,some (E.tree gD 0 1 (List.map aD x8) []))] [(1,true)]) (qr eW))))
theorem gG{a}{r}(h:dZ n a=some r):PQ G 234 [V.agg (aK a)] (vI r):=by
 unfold dZ at h
 refine pq aO Tryz.func234 rfl fun w X hC=> ?_
 refine rq hC [.z (.b (true))] [1,2] [(1,V.tp (aT a))] [] [] (rq hC [oN rI a.coefs] (fr 3 4) [(3,vI (a.coefs.length:Int))] [] [] (qs (qb (jN h (fun x_=>aX [(1,V.tp (aT a)),(3,vI x_)] [] []) lS ?_))))
 rintro again2 x1 h
 refine qs (vj h (fun x_=>aX [(1,V.tp (aT a)),(3,vI x1),(17,vB x_)] [] []) (fun j3 h=> ?_) (fun x5 h=> ?_))
 ·
  refine aQ h (fun c1 h=> ?_) (fun c1 h=> ?_)
  ·exact rk hC (rF 8 c1) (fr 7 11) [(17,vB false)] [] [] (lE h)
  ·obtain⟨x4,hx4,h⟩:=bd h
   exact rk hC (rT 5 c1++[oR rI hx4]++rT 3 c1) (fr 7 11) [(17,vB (decide (x4=0)))] [] [] (lE h)
 ·refine aS h (fun c2 h=> ?_) (fun c2 h=> ?_)
  ·exact qk (qb (rk hC [] [3,18,19] [(3,vI (wr (x1-1)))] [] [] (lE h)))
  ·obtain rfl:=so h
   exact cW (rq hC [] [2,20] [(2,vI x1)] [] [] (qr eR))
theorem bD{n_a0}{low}{high}{r}(h:b7 n n_a0 low high=some r):PQ G 94 [vI n_a0,vI low,vI high] (vB r):=by
 unfold b7 at h
 refine pq aO Tryz.func94 rfl fun w X hC=> ?_
 refine rq hC [] [6] [] [] [] (vj h (fun x_=>aX [(6,vB x_)] [] []) (fun j1 h=> ?_) (fun x2 h=> ?_))
 ·
  refine aQ h (fun c1 h=> ?_) (fun c1 h=> ?_)
  ·exact rk hC (rF 4 c1) (fr 6 9) [(6,vB false)] [] [] (lE h)
  ·exact rk hC (rT 4 c1) (fr 6 9) [(6,vB (decide (n_a0≤high)))] [] [] (lE h)
 ·obtain rfl:=so h
  exact qr eR
theorem aCQ{kind}{r}(h:P3 n kind=some r):PQ G 236 [vI kind] (vB r):=by
 unfold P3 at h
 refine pq aO Tryz.func236 rfl fun w X hC=> ?_
 refine rq hC [] [2] [] [] [] ?_
 obtain⟨x1,hx1,h⟩:=bd h
 obtain rfl:=so h
 exact rq hC [oV (bD G hx1)] [2,3,4] [(2,vB x1)] [] [] (qr eR)
theorem fR{s}{r}(h:oI n s=some r):PQ G 250 [vS s] (vB r):=by
 unfold oI at h
 refine pq aO Tryz.func250 rfl fun w X hC=> ?_
 refine rq hC [] [2] [] [] [] (vj h (fun x_=>aX [(2,vB x_)] [] []) (fun j1 h=> ?_) (fun x3 h=> ?_))
 ·
  refine aQ h (fun c1 h=> ?_) (fun c1 h=> ?_)
  ·exact rk hC (rF 3 c1) (fr 2 8) [(2,vB false)] [] [] (lE h)
  ·obtain⟨x2,hx2,h⟩:=bd h
   exact rk hC [oT c1,oT c1,oV (G.contains [65,66,67,68] s x2 hx2),oT c1] (fr 2 8) [(2,vB x2)] [] [] (lE h)
 ·obtain rfl:=so h
  exact qr eR
theorem zC(G:GS)(n:Nat)(s:List Int)(fF:FuncId)(f:Int→Option Bool)(hf: ∀(q0:Int) r,f q0=some r→PQ G fF [vI q0] (vB r)){r:Int}(h:kF n s f=some r):PQ G 292 [vM rI s,V.fn fF []] (vI r):=by
 unfold kF at h
 refine pq aO Tryz.func292 rfl fun w X hC=> ?_
 refine rq hC [] [4] [] [] [] (qs (rq hC [oN rI s] [6,7,8] [(7,vI (s.length:Int)),(8,vI 0)] [] [] (qb (jN h (fun x_=>aX [(0,vM rI s),(1,V.fn fF []),(7,vI (s.length:Int)),(8,vI x_)] [] []) lS ?_))))
 rintro again2 x1 h
 refine rq hC [] [9] [(9,vB (decide (x1<(s.length:Int))))] [] [] (qs (aS h (fun c1 h=> ?_) (fun c1 h=> ?_)))
 ·refine qk (qs (qb (rq hC [] [5,10] [(5,vI x1)] [] [] ?_)))
  obtain⟨x3,hx3,x4,hx4,h⟩:=cO h
  refine rq hC [oR rI hx3,oV (hf x3 _ hx4)] (fr 11 6) [(16,vB x4)] [] [] (aS h (fun c2 h=> ?_) (fun c2 h=> ?_))
  ·obtain rfl:=so h
   exact rq hC [] [4,17] [(4,vI x1)] [] [] (qr eR)
  ·exact qk (rk hC [] [8,18] [(8,vI (wr (x1+1)))] [] [] (lE h))
 ·obtain rfl:=so h
  exact cW (rq hC [] [4] [(4,vI (-1))] [] [] (qr eR))
theorem d4(G:GS)(n:Nat)(s:List Int)(fF:FuncId)(f:Int→Option Bool)(hf: ∀(q0:Int) r,f q0=some r→PQ G fF [vI q0] (vB r)){r:Bool}(h:bP n s f=some r):PQ G 226 [vM rI s,V.fn fF []] (vB r):=by
 unfold bP at h
 refine pq aO Tryz.func226 rfl fun w X hC=> ?_
 refine rq hC [] [4] [] [] [] ?_
 obtain⟨x1,hx1,h⟩:=bd h
 obtain rfl:=so h
 exact rq hC [oV (zC G n s fF f hf hx1)] (fr 4 5) [(4,vB (decide ((0:Int)≤x1)))] [] [] (qr eR)
theorem uX(G:GS)(n:Nat)(n_a0:Int){r:Bool}(h:eJ n n_a0=some r):PQ G 251 [vI n_a0] (vB r):=by
 unfold eJ at h
 refine pq aO Tryz.func251 rfl fun w X hC=> ?_
 refine rq hC [] [2] [] [] [] ?_
 obtain⟨x1,hx1,h⟩:=bd h
 obtain rfl:=so h
 exact rq hC [oV (bD G hx1)] (fr 2 4) [(2,vB (!x1))] [] [] (qr eR)
theorem zE{list}{r}(h:pG n list=some r):PQ G 174 [vM aJ list] (vB r):=by
 unfold pG at h
 refine pq aO Tryz.func174 rfl fun w X hC=> ?_
 refine rq hC [] [2] [] [] [] (qs (rq hC [oN aJ list] [5,6,7] [(5,vM aJ list),(6,vI (list.length:Int)),(7,vI 0)] [] [] (qb (jN h (fun x_=>aX [(0,vM aJ list),(5,vM aJ list),(6,vI (list.length:Int)),(7,vI x_)] [] []) lS ?_))))
 rintro again2 x1 h
 refine rq hC [] [8] [(8,vB (decide (x1<(list.length:Int))))] [] [] (qs (aS h (fun c1 h=> ?_) (fun c1 h=> ?_)))
 ·refine qk (qs (qb ?_))
  obtain⟨x3,hx3,h⟩:=bd h
  refine rq hC [oR aJ hx3,.z (.nat 20)] [3,4,9,10,11] [(3,vI x1),(4,V.ref 20 0)] [(20,sc [vS x3.name,vM rI x3.dims])] [(20,true)] (vj h (fun x_=>aX [(0,vM aJ list),(5,vM aJ list),(6,vI (list.length:Int)),(7,vI x1),(42,vB x_)] [(20,E.cells [vS x3.name,vM rI x3.dims])] [20]) (fun j4 h=> ?_) (fun x11 h=> ?_))
  ·
   obtain⟨x5,hx5,h⟩:=bd h
   refine aQ h (fun c2 h=> ?_) (fun c2 h=> ?_)
   ·refine aQ h (fun c3 h=> ?_) (fun c3 h=> ?_)
    ·obtain⟨x6,hx6,h⟩:=bd h
     refine aQ h (fun c4 h=> ?_) (fun c4 h=> ?_)
     ·obtain⟨x7,hx7,h⟩:=bd h
      exact dk hC bA ([oV (fR G hx5)]++rF 3 c2++rF 9 c3++[oF c2,oF c3,oF c2,eF,eF,eF,oN rI x3.dims,eF,oV (bD G hx6),eF,eF]++rF 3 c4++[oV (d4 G n x3.dims 251 (fun q0=>eJ n q0) (fun q0 r h=>uX G n q0 h) hx7),oF c4]) (fr 12 31) [(42,vB x7)] [] [] (lE h)
     ·exact dk hC bA ([oV (fR G hx5)]++rF 3 c2++rF 9 c3++[oF c2,oF c3,oF c2,eF,eF,eF,oN rI x3.dims,eF,oV (bD G hx6),eF,eF]++rT 4 c4) (fr 12 31) [(42,vB true)] [] [] (lE h)
    ·obtain⟨x8,hx8,h⟩:=bd h
     refine aQ h (fun c5 h=> ?_) (fun c5 h=> ?_)
     ·obtain⟨x9,hx9,h⟩:=bd h
      refine aQ h (fun c6 h=> ?_) (fun c6 h=> ?_)
      ·obtain⟨x10,hx10,h⟩:=bd h
       exact dk hC bA ([oV (fR G hx5)]++rF 3 c2++rT 4 c3++[oR aJ hx8]++rT 5 c3++[oF c2,oT c3,oF c2]++rF 3 c5++[oN rI x3.dims,oF c5,oV (bD G hx9),oF c5,oF c5]++rF 3 c6++[oV (d4 G n x3.dims 251 (fun q0=>eJ n q0) (fun q0 r h=>uX G n q0 h) hx10),oF c6]) (fr 12 31) [(42,vB x10)] [] [] (lE h)
      ·exact dk hC bA ([oV (fR G hx5)]++rF 3 c2++rT 4 c3++[oR aJ hx8]++rT 5 c3++[oF c2,oT c3,oF c2]++rF 3 c5++[oN rI x3.dims,oF c5,oV (bD G hx9),oF c5,oF c5]++rT 4 c6) (fr 12 31) [(42,vB true)] [] [] (lE h)
     ·exact dk hC bA ([oV (fR G hx5)]++rF 3 c2++rT 4 c3++[oR aJ hx8]++rT 5 c3++[oF c2,oT c3,oF c2]++rT 6 c5++sT 4) (fr 12 31) [(42,vB true)] [] [] (lE h)
   ·exact dk hC bA ([oV (fR G hx5)]++rT 5 c2++sT 10) (fr 12 31) [(42,vB true)] [] [] (lE h)
  ·refine aS h (fun c7 h=> ?_) (fun c7 h=> ?_)
   ·obtain rfl:=so h
    exact rq hC [] [2] [(2,vB false)] [] [] (qr eR)
   ·exact qk (rk hC [] [7,43] [(7,vI (wr (x1+1)))] [] [] (lE h))
 ·obtain rfl:=so h
  exact cW (rq hC [oN aJ list] [2,44,45,46] [(2,vB (decide ((list.length:Int)≤4)))] [] [] (qr eR))
theorem uU(G:GS)(n:Nat)(s:List Affine)(fF:FuncId)(f:Affine→Option Bool)(hf: ∀(q0:Affine) r,f q0=some r→PQ G fF [V.agg (aK q0)] (vB r)){r:Int}(h:dN n s f=some r):PQ G 316 [vM aA s,V.fn fF []] (vI r):=by
 unfold dN at h
 refine pq aO Tryz.func316 rfl fun w X hC=> ?_
 refine rq hC [] [4] [] [] [] (qs (rq hC [oN aA s] [6,7,8] [(7,vI (s.length:Int)),(8,vI 0)] [] [] (qb (jN h (fun x_=>aX [(0,vM aA s),(1,V.fn fF []),(7,vI (s.length:Int)),(8,vI x_)] [] []) lS ?_))))
 rintro again2 x1 h
 refine rq hC [] [9] [(9,vB (decide (x1<(s.length:Int))))] [] [] (qs (aS h (fun c1 h=> ?_) (fun c1 h=> ?_)))
 ·refine qk (qs (qb (rq hC [] [5,10] [(5,vI x1)] [] [] ?_)))
  obtain⟨x3,hx3,x4,hx4,h⟩:=cO h
  refine rq hC [oR aA hx3,oV (hf x3 _ hx4)] (fr 11 6) [(16,vB x4)] [] [] (aS h (fun c2 h=> ?_) (fun c2 h=> ?_))
  ·obtain rfl:=so h
   exact rq hC [] [4,17] [(4,vI x1)] [] [] (qr eR)
  ·exact qk (rk hC [] [8,18] [(8,vI (wr (x1+1)))] [] [] (lE h))
 ·obtain rfl:=so h
  exact cW (rq hC [] [4] [(4,vI (-1))] [] [] (qr eR))
theorem rK(G:GS)(n:Nat)(s:List Affine)(fF:FuncId)(f:Affine→Option Bool)(hf: ∀(q0:Affine) r,f q0=some r→PQ G fF [V.agg (aK q0)] (vB r)){r:Bool}(h:bT n s f=some r):PQ G 264 [vM aA s,V.fn fF []] (vB r):=by
 unfold bT at h
 refine pq aO Tryz.func264 rfl fun w X hC=> ?_
 refine rq hC [] [4] [] [] [] ?_
 obtain⟨x1,hx1,h⟩:=bd h
 obtain rfl:=so h
 exact rq hC [oV (uU G n s fF f hf hx1)] (fr 4 5) [(4,vB (decide ((0:Int)≤x1)))] [] [] (qr eR)
theorem zK(G:GS)(n:Nat)(c:Int){r:Bool}(h:fG n c=some r):PQ G 347 [vI c] (vB r):=by
 unfold fG at h
 refine pq aO Tryz.func347 rfl fun w X hC=> ?_
 refine rq hC [] [2] [] [] [] ?_
 obtain⟨x1,hx1,h⟩:=bd h
 obtain rfl:=so h
 exact rq hC [oV (bD G hx1)] (fr 2 4) [(2,vB (!x1))] [] [] (qr eR)
theorem G0{n_a0}{r}(h:vU n n_a0=some r):PQ G 346 [vI n_a0] (vB r):=by
 unfold vU at h
 refine pq aO Tryz.func346 rfl fun w X hC=> ?_
 refine rq hC [] [2] [] [] [] ?_
 obtain⟨x1,hx1,h⟩:=bd h
 obtain rfl:=so h
 exact rq hC [oV (bD G hx1)] [2,3,4] [(2,vB x1)] [] [] (qr eR)
theorem eG{a}{r}(h:fV n a=some r):PQ G 312 [V.agg (aK a)] (vB r):=by
 unfold fV at h
 refine pq aO Tryz.func312 rfl fun w X hC=> ?_
 refine rq hC [.z (.b (true))] [1,2] [(1,V.tp (aT a))] [] [] (vj h (fun x_=>aX [(2,vB x_)] [] []) (fun j1 h=> ?_) (fun x4 h=> ?_))
 ·
  refine aQ h (fun c1 h=> ?_) (fun c1 h=> ?_)
  ·exact rk hC ([oN rI a.coefs]++rF 4 c1++sF 5) (fr 2 16) [(2,vB false)] [] [] (lE h)
  ·obtain⟨x2,hx2,h⟩:=bd h
   refine aQ h (fun c2 h=> ?_) (fun c2 h=> ?_)
   ·exact rk hC ([oN rI a.coefs]++rT 3 c1++[oV (G0 G hx2),oT c1]++rF 5 c2) (fr 2 16) [(2,vB false)] [] [] (lE h)
   ·obtain⟨x3,hx3,h⟩:=bd h
    exact rk hC ([oN rI a.coefs]++rT 3 c1++[oV (G0 G hx2),oT c1]++rT 3 c2++[oV (d4 G n a.coefs 347 (fun q0=>fG n q0) (fun q0 r h=>zK G n q0 h) hx3),oT c2,oT c2]) (fr 2 16) [(2,vB (!x3))] [] [] (lE h)
 ·obtain rfl:=so h
  exact qr eR
theorem U0(G:GS)(n:Nat)(a:Affine)(c0__a1:Int){r:Bool}(h:gM n a c0__a1=some r):PQ G 345 [V.agg (aK a),V.tp [T.int .i64 c0__a1]] (vB r):=by
 unfold gM at h
 refine pq aO Tryz.func345 rfl fun w X hC=> ?_
 refine rq hC [.z (.b (true))] [2,3] [(2,V.tp (aT a))] [] [] (vj h (fun x_=>aX [(3,vB x_)] [] []) (fun j1 h=> ?_) (fun x4 h=> ?_))
 ·
  obtain⟨x2,hx2,h⟩:=bd h
  refine aQ h (fun c1 h=> ?_) (fun c1 h=> ?_)
  ·obtain⟨x3,hx3,h⟩:=bd h
   exact dk hC bA ([oV (eG G hx2),oF c1,oF c1,oV (gG G hx3)]++rF 3 c1) (fr 3 10) [(3,vB (decide (c0__a1<x3)))] [] [] (lE h)
  ·exact dk hC bA ([oV (eG G hx2)]++rT 5 c1) (fr 3 10) [(3,vB true)] [] [] (lE h)
 ·obtain rfl:=so h
  exact qr eR
theorem rH(G:GS)(n:Nat)(s:List Affine)(fF:FuncId)(fC0:List T)(f:Affine→Option Bool)(hf: ∀(q0:Affine) r,f q0=some r→PQ G fF [V.agg (aK q0),V.tp fC0] (vB r)){r:Int}(h:dN n s f=some r):PQ G 316 [vM aA s,V.fn fF [V.tp fC0]] (vI r):=by
 unfold dN at h
 refine pq aO Tryz.func316 rfl fun w X hC=> ?_
 refine rq hC [] [4] [] [] [] (qs (rq hC [oN aA s] [6,7,8] [(7,vI (s.length:Int)),(8,vI 0)] [] [] (qb (jN h (fun x_=>aX [(0,vM aA s),(1,V.fn fF [V.tp fC0]),(7,vI (s.length:Int)),(8,vI x_)] [] []) lS ?_))))
 rintro again2 x1 h
 refine rq hC [] [9] [(9,vB (decide (x1<(s.length:Int))))] [] [] (qs (aS h (fun c1 h=> ?_) (fun c1 h=> ?_)))
 ·refine qk (qs (qb (rq hC [] [5,10] [(5,vI x1)] [] [] ?_)))
  obtain⟨x3,hx3,x4,hx4,h⟩:=cO h
  refine rq hC [oR aA hx3,oV (hf x3 _ hx4)] (fr 11 6) [(16,vB x4)] [] [] (aS h (fun c2 h=> ?_) (fun c2 h=> ?_))
  ·obtain rfl:=so h
   exact rq hC [] [4,17] [(4,vI x1)] [] [] (qr eR)
  ·exact qk (rk hC [] [8,18] [(8,vI (wr (x1+1)))] [] [] (lE h))
 ·obtain rfl:=so h
  exact cW (rq hC [] [4] [(4,vI (-1))] [] [] (qr eR))
theorem iW(G:GS)(n:Nat)(s:List Affine)(fF:FuncId)(fC0:List T)(f:Affine→Option Bool)(hf: ∀(q0:Affine) r,f q0=some r→PQ G fF [V.agg (aK q0),V.tp fC0] (vB r)){r:Bool}(h:bT n s f=some r):PQ G 264 [vM aA s,V.fn fF [V.tp fC0]] (vB r):=by
 unfold bT at h
 refine pq aO Tryz.func264 rfl fun w X hC=> ?_
 refine rq hC [] [4] [] [] [] ?_
 obtain⟨x1,hx1,h⟩:=bd h
 obtain rfl:=so h
 exact rq hC [oV (rH G n s fF fC0 f hf hx1)] (fr 4 5) [(4,vB (decide ((0:Int)≤x1)))] [] [] (qr eR)
theorem tE{list}{depth}{r}(h:mD n list depth=some r):PQ G 309 [vM aA list,vI depth] (vB r):=by
 unfold mD at h
 refine pq aO Tryz.func309 rfl fun w X hC=> ?_
 refine rq hC [.z (.b (true))] [3,4] [(3,V.tp [T.int .i64 depth])] [] [] (vj h (fun x_=>aX [(4,vB x_)] [] []) (fun j1 h=> ?_) (fun x4 h=> ?_))
 ·
  obtain⟨x2,hx2,h⟩:=bd h
  refine aQ h (fun c1 h=> ?_) (fun c1 h=> ?_)
  ·exact rk hC ([oN aA list,oV (bD G hx2)]++rF 5 c1) (fr 4 10) [(4,vB false)] [] [] (lE h)
  ·obtain⟨x3,hx3,h⟩:=bd h
   exact rk hC ([oN aA list,oV (bD G hx2)]++rT 3 c1++[oV (iW G n list 345 [T.int .i64 depth] (fun q0=>gM n q0 depth) (fun q0 r h=>U0 G n q0 depth h) hx3),oT c1,oT c1]) (fr 4 10) [(4,vB (!x3))] [] [] (lE h)
 ·obtain rfl:=so h
  exact qr eR
theorem mQ{nest}{r}(h:kU n nest=some r):PQ G 252 [vM aC nest] (vB r):=by
 unfold kU at h
 refine pq aO Tryz.func252 rfl fun w X hC=> ?_
 refine rq hC [] [2] [] [] [] (qs (rq hC [oN aC nest] [5,6,7] [(5,vM aC nest),(6,vI (nest.length:Int)),(7,vI 0)] [] [] (qb (jN h (fun x_=>aX [(0,vM aC nest),(5,vM aC nest),(6,vI (nest.length:Int)),(7,vI x_)] [] []) lS ?_))))
 rintro again2 x1 h
 refine rq hC [] [8] [(8,vB (decide (x1<(nest.length:Int))))] [] [] (qs (aS h (fun c1 h=> ?_) (fun c1 h=> ?_)))
 ·refine qk (qs (qb ?_))
  obtain⟨x3,hx3,h⟩:=bd h
  refine rq hC [oR aC hx3,.z (.nat 20)] [3,4,9,10,11] [(3,vI x1),(4,V.ref 20 0)] [(20,some (E.cells (gX x3)))] [(20,true)] (vj h (fun x_=>aX [(0,vM aC nest),(5,vM aC nest),(6,vI (nest.length:Int)),(7,vI x1),(23,vB x_)] [(20,E.cells (gX x3))] [20]) (fun j4 h=> ?_) (fun x7 h=> ?_))
  ·
   obtain⟨x5,hx5,h⟩:=bd h
   refine aQ h (fun c2 h=> ?_) (fun c2 h=> ?_)
   ·obtain⟨x6,hx6,h⟩:=bd h
    exact rk hC ([oV (tE G hx5)]++rF 4 c2++[oV (tE G hx6),oF c2,oF c2]) (fr 12 12) [(23,vB (!x6))] [] [] (lE h)
   ·exact rk hC ([oV (tE G hx5)]++rT 6 c2) (fr 12 12) [(23,vB true)] [] [] (lE h)
  ·refine aS h (fun c3 h=> ?_) (fun c3 h=> ?_)
   ·obtain rfl:=so h
    exact rq hC [] [2] [(2,vB false)] [] [] (qr eR)
   ·exact qk (rk hC [] [7,24] [(7,vI (wr (x1+1)))] [] [] (lE h))
 ·obtain rfl:=so h
  exact cW (rq hC [oN aC nest] [2,25,26,27] [(2,vB (decide ((nest.length:Int)≤4)))] [] [] (qr eR))
theorem fH{a}{point}{r}(h:cH n a point=some r):PQ G 294 [V.agg (aK a),vM rI point] (vI r):=by
 unfold cH at h
 refine pq aO Tryz.func294 rfl fun w X hC=> ?_
 refine rq hC [.z (.b (true))] [2,4] [(2,V.tp (aT a))] [] [] (rq hC [] [5,8,9] [(5,vI a.const)] [] [] (qs (rq hC [oN rI point] [10,11,12] [(10,vM rI point),(11,vI (point.length:Int)),(12,vI 0)] [] [] (qb (jN h (fun x_=>aX [(2,V.tp (aT a)),(5,vI x_.1),(10,vM rI point),(11,vI (point.length:Int)),(12,vI x_.2)] [] []) lS ?_)))))
 rintro again3 ⟨x1,x2⟩ h
 refine rq hC [] [13] [(13,vB (decide (x2<(point.length:Int))))] [] [] (qs (aS h (fun c1 h=> ?_) (fun c1 h=> ?_)))
 ·refine qk (qs (qb ?_))
  obtain⟨x4,hx4,h⟩:=bd h
  refine rq hC [oR rI hx4] [6,7,14,15,16] [(6,vI x2),(7,vI x4)] [] [] ?_
  obtain⟨x5,hx5,h⟩:=bd h
  exact rk hC [oR rI hx5] [5,17,18,19,20,21,22,23,24,25] [(5,vI (wr (x1+(wr (x5*x4)))))] [] [] (rk hC [] [12,26] [(12,vI (wr (x2+1)))] [] [] (lE h))
 ·obtain rfl:=so h
  exact cW (rq hC [] [4,27] [(4,vI x1)] [] [] (qr eR))
theorem wL{l}{point}{r}(h:kV n l point=some r):PQ G 310 [V.agg (gX l),vM rI point] (V.tup [vI r.1,vI r.2]):=by
 unfold kV at h
 refine pq aO Tryz.func310 rfl fun w X hC=> ?_
 refine rq hC [.z (.b (true))] [2,4,5] [(2,V.tp (mU l))] [] [] (qs ?_)
 obtain⟨x1,hx1,x2,hx2,x3,hx3,h⟩:=kX h
 obtain⟨x4,hx4,h⟩:=bd h
 refine dk hC bA [oR aA hx1,oV (fH G hx2),oR aA hx3,oV (fH G hx4)] [6,7,12,13,14,15,16,17,18,19,20,21,22,23] [(6,vI x2),(7,vI x4)] [] [] (qs (rq hC [oN aA l.lo] (fr 24 4) [(25,vM aA l.lo),(26,vI (l.lo.length:Int)),(27,vI 0)] [] [] (qb (jN h (fun x_=>aX [(1,vM rI point),(2,V.tp (mU l)),(6,vI x_.1),(7,vI x4),(25,vM aA l.lo),(26,vI (l.lo.length:Int)),(27,vI x_.2)] [] []) lS ?_))))
 rintro again7 ⟨x5,x6⟩ h
 refine rq hC [] [28] [(28,vB (decide (x6<(l.lo.length:Int))))] [] [] (qs (aS h (fun c1 h=> ?_) (fun c1 h=> ?_)))
 ·refine qk (qs (qb ?_))
  obtain⟨x8,hx8,h⟩:=bd h
  refine rq hC [oR aA hx8,.z (.nat 20)] [9,29,30] [(9,V.ref 20 0)] [(20,some (E.cells (aK x8)))] [(20,true)] ?_
  obtain⟨x9,hx9,h⟩:=bd h
  exact rk hC [oV (fH G hx9)] [6,31,32,33,34,35] [(6,vI (max x5 x9))] [] [] (rk hC [] [27,36] [(27,vI (wr (x6+1)))] [] [] (lE h))
 ·refine cW (qs (rq hC [oN aA l.hi] (fr 37 4) [(38,vM aA l.hi),(39,vI (l.hi.length:Int)),(40,vI 0)] [] [] (qb (jN h (fun x_=>aX [(1,vM rI point),(6,vI x5),(7,vI x_.1),(38,vM aA l.hi),(39,vI (l.hi.length:Int)),(40,vI x_.2)] [] []) lS ?_))))
  rintro again12 ⟨x10,x11⟩ h
  refine rq hC [] [41] [(41,vB (decide (x11<(l.hi.length:Int))))] [] [] (qs (aS h (fun c2 h=> ?_) (fun c2 h=> ?_)))
  ·refine qk (qs (qb ?_))
   obtain⟨x13,hx13,h⟩:=bd h
   refine rq hC [oR aA hx13,.z (.nat 20)] [11,42,43] [(11,V.ref 20 0)] [(20,some (E.cells (aK x13)))] [(20,true)] ?_
   obtain⟨x14,hx14,h⟩:=bd h
   exact rk hC [oV (fH G hx14)] [7,44,45,46,47,48] [(7,vI (min x10 x14))] [] [] (rk hC [] [40,49] [(40,vI (wr (x11+1)))] [] [] (lE h))
  ·obtain rfl:=so h
   exact cW (rq hC [] [4,5,50,51] [(4,vI x5),(5,vI x10)] [] [] (qr eR))
theorem D1(G:GS): ∀(n:Nat) (w_a0:Walking) (w_a0G2:Nat) (point:List Int) {r:Bool×Walking} (h:i_walking_walk n w_a0 point=some r),VQ G 253 [E.cells [vM aC w_a0.nest,vI w_a0.steps,ms 1 w_a0G2 1 (rL rI) w_a0.out],ar 48 w_a0G2 1 (rL rI) w_a0.out] [V.ref 0 0,vM rI point] (vB r.1) [E.cells [vM aC r.2.nest,vI r.2.steps,ms 1 (w_a0G2+1) 1 (rL rI) r.2.out],ar 48 (w_a0G2+1) 1 (rL rI) r.2.out]:=by
 intro n
 induction n with
 |zero=>intro w_a0 w_a0G2 point r h;rw [i_walking_walk.eq_def] at h;cases h
 |succ n ih=>
  intro w_a0 w_a0G2 point r h
  rw [i_walking_walk.eq_def] at h;dsimp only at h
  refine vq aO Tryz.func253 rfl fun w X β0 hC hg=> ?_
  refine rq hC [] [4] [] [] [] (qs (rq hC [oN rI point,oN aC w_a0.nest] (fr 8 8) [(15,vB (decide ((point.length:Int)=(w_a0.nest.length:Int))))] [] [] (aS h (fun c1 h=> ?_) (fun c1 h=> ?_))))
  ·refine qs ?_
   obtain⟨x1,hx1,x2,hx2,h⟩:=cO h
   obtain rfl:=so h
   exact dk hC bA [oC [] [20] (G.clone point hx1),.z (.at 5),.z (.fz 20 [22] []),.z (.int 0),oA (aP (rL rI) hx2),oQ (bW (r:=(rL rI)) 1 (fun _=>rfl) w_a0.out),oQ (bW (r:=(rL rI)) 1 (fun _=>rfl) [x1])] (fr 16 11) [] [(20,none),(1,some (ar 48 (w_a0G2+1) 1 (rL rI) x2)),(0,sc [vM aC w_a0.nest,vI w_a0.steps,ms 1 (w_a0G2+1) 1 (rL rI) x2])] [(20,true)] (rq hC [oN (rL rI) x2] [4,27,28,29,30,31,32] [(4,vB (decide ((x2.length:Int)≤120)))] [] [] (qw (d5 0 2 1 w_a0G2 (w_a0G2+1) 1 0 (List.map (rL rI) x2).length (e:= .arr 48 (w_a0G2+1) 1 (List.map (rL rI) x2)) (cs:=[vM aC w_a0.nest,vI w_a0.steps,ms 1 (w_a0G2+1) 1 (rL rI) x2]) rfl (by kernel_rfl) (by kernel_rfl) (by kernel_rfl) (by kernel_rfl) rfl rfl hg.2.1) (qr eW)))
  ·refine qk ?_
   obtain⟨x3,hx3,x4,hx4,h⟩:=cO h
   refine rq hC [oN rI point,oR aC hx3,oV (wL G hx4)] [5,6,33,34,35,36,37,38,39,40,41,42,43,44,45] [(5,vI x4.1),(6,vI x4.2)] [] [] (qs (rq hC [] [7,46] [(7,vI x4.1)] [] [] (qb (bF (γ:=Nat) h (fun x_ g_=>aX [(0,V.ref 0 0),(1,vM rI point),(6,vI x4.2),(7,vI x_.2.2.2)] [(0,E.cells [vM aC x_.1,vI x_.2.1,ms 1 g_ 1 (rL rI) x_.2.2.1]),(1,ar 48 g_ 1 (rL rI) x_.2.2.1)] [0,1]) w_a0G2 (lS) ?_))))
   rintro again10 ⟨x5,x6,x7,x8⟩ g9 h
   refine qs (rq hC [] [47,48,49] [(49,vB (decide (x8<x4.2)))] [] [] (aS h (fun c2 h=> ?_) (fun c2 h=> ?_)))
   ·refine qk (qs (qb (rq hC [] (fr 52 7) [] [(0,sc [vM aC x5,vI (wr (x6+1)),ms 1 g9 1 (rL rI) x7])] [] ?_)))
    obtain⟨j11,hj11,h⟩:=W0 h
    refine oU (γ:=Nat) (j:=j11) (r:=r) (fun x_ g_=>aX [(0,V.ref 0 0),(1,vM rI point),(6,vI x4.2),(7,vI x8),(74,vB x_.2.2.2)] [(0,E.cells [vM aC x_.1,vI x_.2.1,ms 1 g_ 1 (rL rI) x_.2.2.1]),(1,ar 48 g_ 1 (rL rI) x_.2.2.1)] [0,1]) ?_ ?_
    ·
     refine aQ h (fun c3 h=> ?_) (fun c3 h=> ?_)
     ·obtain⟨x12,hx12,x13,hx13,x14,hx14,h⟩:=kX h
      exact rk hC (rF 3 c3++[oC [] [20] (G.clone point hx12),oF c3,oF c3,.z (.int 0),oF c3,oA (aP rI hx13),.z (.at 3),.z (.fz 20 [71] []),oQ (bW (r:=rI) 1 (fun _=>rfl) x12),oQ (bW (r:=rI) 1 (fun _=>rfl) [x8]),oF c3,oC [0,1] [] (ih (⟨x5,wr (x6+1),x7⟩:Walking) g9 x13 hx14),oF c3,oF c3]) (fr 59 16) [(74,vB (!x14.1))] [(20,none),(1,some (ar 48 (g9+1) 1 (rL rI) x14.2.out)),(0,sc [vM aC x14.2.nest,vI x14.2.steps,ms 1 (g9+1) 1 (rL rI) x14.2.out])] [(20,true),(0,true),(1,true)] ⟨(x14.2.nest,x14.2.steps,x14.2.out, !x14.1),(g9+1),h,lS⟩
     ·exact rk hC (rT 9 c3) (fr 59 16) [(74,vB true)] [] [] ⟨(x5,wr (x6+1),x7,true),g9,h,lS⟩
    ·rintro⟨x15,x16,x17,x18⟩ g19 h
     subst hj11
     refine aS h (fun c4 h=> ?_) (fun c4 h=> ?_)
     ·obtain rfl:=so h
      exact rq hC [] [4] [(4,vB false)] [] [] (qw (d5 0 2 1 w_a0G2 g19 1 0 (List.map (rL rI) x17).length (e:= .arr 48 g19 1 (List.map (rL rI) x17)) (cs:=[vM aC x15,vI x16,ms 1 g19 1 (rL rI) x17]) rfl (by kernel_rfl) (by kernel_rfl) (by kernel_rfl) (by kernel_rfl) rfl rfl hg.2.1) (qr eW))
     ·exact qk (rk hC [] [7,50,51] [(7,vI (wr (x8+1)))] [] [] ⟨(x15,x16,x17,wr (x8+1)),g19,h,lS⟩)
   ·obtain rfl:=so h
    exact cW (rq hC [] [4] [(4,vB true)] [] [] (qw (d5 0 2 1 w_a0G2 g9 1 0 (List.map (rL rI) x7).length (e:= .arr 48 g9 1 (List.map (rL rI) x7)) (cs:=[vM aC x5,vI x6,ms 1 g9 1 (rL rI) x7]) rfl (by kernel_rfl) (by kernel_rfl) (by kernel_rfl) (by kernel_rfl) rfl rfl hg.2.1) (qr eW)))
end Go.Lift
