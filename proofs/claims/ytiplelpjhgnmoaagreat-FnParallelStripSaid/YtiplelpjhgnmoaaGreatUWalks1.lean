/- The walks: the code computes what the plain functions say. -/
import Derived.Test.YtiplelpjhgnmoaaGreatUModels
import Derived.Test.YtiplelpjhgnmoaaGreatUWalks0
set_option maxRecDepth 10000
set_option linter.unusedVariables false
namespace Go.Lift
open Go Go.Proofs
variable (G:GS) {n:Nat}
def tG:List Nd:=[⟨62,2,[(0,1),(1,2)]⟩,⟨58,2,[]⟩,⟨87,9,[]⟩]
theorem aD6(G:GS)(n:Nat)(p:Prog)(line:List UInt8)(g0 g1:Nat){r:Prog}(h:J0 n p line=some r):VQ G 155 [ar 77 g0 2 aH p.arrays,E.tree tG 0 g1 (List.map aD p.parts) []] [V.agg [ms 0 g0 2 aH p.arrays,ms 1 g1 2 aD p.parts],vS line] (V.agg [ms 0 (g0+1) 2 aH r.arrays,ms 1 (g1+1) 2 aD r.parts]) [ar 77 (g0+1) 2 aH r.arrays,E.tree tG 0 (g1+1) (List.map aD r.parts) []]:=by
 unfold J0 at h
 refine vq aO Tryz.func155 rfl fun w X β0 hC hg=> ?_
 refine rq hC [.z (.nat 20),.z (.nat 21)] [0,2,4] [(2,V.ref 20 0),(4,V.ref 21 0)] [(20,sc [ms 0 g0 2 aH p.arrays,ms 1 g1 2 aD p.parts]),(21,sc [V.t T.nilS,V.t T.nilS])] [(20,true),(21,true)] ?_
 obtain⟨x1,hx1,h⟩:=bd h
 refine rq hC [oC [] [22] (yG G hx1)] [5,11,12] [(5,ms 22 1 1 rS x1)] [(22,some (ar 9 1 1 rS x1))] [(22,true)] (rq hC [oN aD p.parts] [6,13,14,15,16] [(6,vI (wr ((p.parts.length:Int)-1)))] [] [] (qw (lk hC [.fz 22 [5] []] [5] [(5,vM rS x1)] [(22,none)] []) (qs (qb (vj h (fun x_=>aX [(1,vS line),(2,V.ref 20 0),(4,V.ref 21 0),(5,vM rS x1),(6,vI (wr ((p.parts.length:Int)-1))),(17,vB x_)] [(0,ar 77 g0 2 aH p.arrays),(1,E.tree tG 0 g1 (List.map aD p.parts) []),(20,E.cells [ms 0 g0 2 aH p.arrays,ms 1 g1 2 aD p.parts]),(21,E.cells [V.t T.nilS,V.t T.nilS])] [0,1,20,21,22]) (fun j2 h=> ?_) (fun x4 h=> ?_))))))
 ·
  refine aS h (fun c1 h=> ?_) (fun c1 h=> ?_)
  ·exact rk hC ([oN rS x1]++rF 5 c1) (fr 17 10) [(17,vB false)] [] [] (lE h)
  ·obtain⟨x3,hx3,h⟩:=bd h
   exact rk hC ([oN rS x1,oT c1,oT c1,oR rS hx3]++rT 3 c1) (fr 17 10) [(17,vB (decide (x3=[97,114,114,97,121])))] [] [] (lE h)
 ·refine aT h (fun c2 h=> ?_) (fun c2 h=> ?_)
  ·obtain⟨x5,hx5,x6,hx6,h⟩:=cS h
   obtain rfl:=so h
   exact dk hC bD [oV (aCn G hx5),.z (.int 0),oA (aP aH hx6),oQ (bZ (r:=aH) 2 iT p.arrays),oQ (bZ (r:=aH) 2 iT [x5])] (fr 27 7) [] [(0,some (ar 77 (g0+1) 2 aH x6)),(20,sc [ms 0 (g0+1) 2 aH x6,ms 1 g1 2 aD p.parts])] [] (rq hC [] [98] [] [(21,sc [ms 0 (g0+1) 2 aH x6,ms 1 g1 2 aD p.parts])] [] (qw (dM 21 1 1 g1 g1 2 0 (List.map aD p.parts).length (e:=E.tree tG 0 g1 (List.map aD p.parts) []) (cs:=[ms 0 (g0+1) 2 aH x6,ms 1 g1 2 aD p.parts]) rfl (by kernel_rfl) (by kernel_rfl) (by kernel_rfl) (by kernel_rfl) rfl rfl hg.2.1) (qr eW)))
  ·refine rq hC [] [34,35,36] [(34,vB (decide (line=[112,97,114,116])))] [] [] (aT h (fun c3 h=> ?_) (fun c3 h=> ?_))
   ·obtain⟨x7,hx7,h⟩:=bd h
    obtain rfl:=so h
    exact rk hC [.z (.at 4),.z (.growa 39 0 24 58),.z (.growa 39 1 25 87),.z (.lt 26 tG 0),.z (.rows (List.map aD (p.parts++[(⟨[],[]⟩:Part)]))),.z (.at 2),.z (.tre 24 tG 1),.z (.unf 1 24 (aD (⟨[],[]⟩:Part)) (List.map aD (p.parts++[(⟨[],[]⟩:Part)]))),.z (.tre 25 tG 2),.z (.unf 1 25 (aD (⟨[],[]⟩:Part)) (List.map aD x7)),.z (.len 41 (List.map aD x7).length),oQ (Eq.refl (ndOf tG 0)),oQ (aIc aD (⟨[],[]⟩:Part) hx7),oQ (bZ (r:=aD) 2 fC p.parts),oQ (bZ (r:=aD) 2 fC [(⟨[],[]⟩:Part)]),oQ (Eq.refl (List.map aC []).length),oQ (Eq.refl tG),oQ (aAs aD p.parts (⟨[],[]⟩:Part)),oQ (aGM aD p.parts (ph:=(⟨[],[]⟩:Part)) (y:=(⟨[],[]⟩:Part)) rfl),oQ (Eq.refl (List.map aJ []).length),oQ (Eq.refl tG),oQ (aAs aD p.parts (⟨[],[]⟩:Part)),oQ (aBB aD hx7 (ph:=(⟨[],[]⟩:Part)) rfl),oQ (aG6 aD (⟨[],[]⟩:Part) hx7)] (fr 37 6) [] [(24,none),(25,none),(26,some (E.tree tG 0 1 (List.map aD [(⟨[],[]⟩:Part)]) [(0,0,ms 24 1 2 aC []),(0,1,ms 25 1 9 aJ [])])),(1,some (E.tree tG 0 (g1+1) (List.map aD x7) [])),(20,sc [ms 0 g0 2 aH p.arrays,ms 1 (g1+1) 2 aD x7])] [(24,true),(25,true),(26,true)] (rq hC [] [98] [] [(21,sc [ms 0 g0 2 aH p.arrays,ms 1 (g1+1) 2 aD x7])] [] (qw (dM 21 0 0 g0 g0 2 0 (List.map aH p.arrays).length (e:= .arr 77 g0 2 (List.map aH p.arrays)) (cs:=[ms 0 g0 2 aH p.arrays,ms 1 (g1+1) 2 aD x7]) rfl (by kernel_rfl) (by kernel_rfl) (by kernel_rfl) (by kernel_rfl) rfl rfl hg.1) (qr eW)))
   ·refine vj h (fun x_=>aX [(1,vS line),(2,V.ref 20 0),(4,V.ref 21 0),(6,vI (wr ((p.parts.length:Int)-1))),(43,vB x_)] [(0,ar 77 g0 2 aH p.arrays),(1,E.tree tG 0 g1 (List.map aD p.parts) []),(20,E.cells [ms 0 g0 2 aH p.arrays,ms 1 g1 2 aD p.parts]),(21,E.cells [V.t T.nilS,V.t T.nilS])] [0,1,20,21,22]) (fun j6 h=> ?_) (fun x8 h=> ?_)
    ·
     refine aS h (fun c4 h=> ?_) (fun c4 h=> ?_)
     ·exact rk hC (rF 4 c4++sF 5) (fr 43 14) [(43,vB false)] [] [] (lE h)
     ·refine aS h (fun c5 h=> ?_) (fun c5 h=> ?_)
      ·exact rk hC ([oT c4,oT c4,oN rS x1,oT c4,oT c4]++rF 5 c5) (fr 43 14) [(43,vB false)] [] [] (lE h)
      ·obtain⟨x7,hx7,h⟩:=bd h
       exact rk hC ([oT c4,oT c4,oN rS x1,oT c4,oT c4,oT c5,oT c5,oR rS hx7]++rT 3 c5) (fr 43 14) [(43,vB (decide (x7=[102,111,114])))] [] [] (lE h)
    ·refine aT h (fun c6 h=> ?_) (fun c6 h=> ?_)
     ·obtain⟨x9,hx9,h⟩:=bd h
      refine rq hC [.z (.foc 1 24 (0+Int.toNat (wr ((p.parts.length:Int)-1))) 0 (aD x9)),.z (.foc 1 25 (0+Int.toNat (wr ((p.parts.length:Int)-1))) 1 (aD x9)),oX aD hx9,.z (.nat 23),oQ (o0 aD hx9),oQ (iX aD hx9),oQ (o0 aD hx9)] [7,57,58,59,60,61] [(7,V.ref 23 0)] [(1,some (E.tree tG 0 g1 (List.map aD p.parts) [((0+Int.toNat (wr ((p.parts.length:Int)-1))),1,ms 25 1 9 aJ x9.body),((0+Int.toNat (wr ((p.parts.length:Int)-1))),0,ms 24 1 2 aC x9.nest)])),(24,some (E.tree tG 1 1 (List.map aC x9.nest) [])),(25,some (E.tree tG 2 1 (List.map aJ x9.body) [])),(23,sc [ms 24 1 2 aC x9.nest,ms 25 1 9 aJ x9.body])] [(24,true),(25,true),(23,true)] (qw (lk hC [.shd 24] [] [] [(24,some (ar 58 1 2 aC x9.nest))] []) (qs ?_))
      obtain⟨x10,hx10,x13,hx13,x14,hx14,h⟩:=kY h
      obtain rfl:=so h
      exact dk hC bD [oV (aEf G hx10),.z (.int 0),oA (aP aC hx13),oQ (bZ (r:=aC) 2 dO x9.nest),oQ (bZ (r:=aC) 2 dO [x10])] (fr 62 7) [] [(24,some (ar 58 2 2 aC x13)),(23,sc [ms 24 2 2 aC x13,ms 25 1 9 aJ x9.body])] [] (rk hC [oQ (iX aD hx9),oX aD hx9,.z (.unf 1 25 (aD x9) (List.map aD p.parts)),.z (.tre 24 tG 1),.z (.unf 1 24 (aD x9) (List.map aD x14)),.z (.lenc 20 1 (List.map aD x14).length),oQ (Eq.refl (List.map aJ x9.body).length),oQ (Eq.refl tG),oQ (o0 aD hx9),oQ (B9 aD hx9 rfl),oQ (Eq.refl (List.map aC x13).length),oQ (Eq.refl tG),oQ (o0 aD hx9),oQ (S4 aD hx14 rfl),oQ (lI aD hx14)] (fr 69 5) [] [(24,none),(25,none),(1,some (E.tree tG 0 g1 (List.map aD x14) [])),(20,sc [ms 0 g0 2 aH p.arrays,ms 1 g1 2 aD x14])] [] (rq hC [] [98] [] [(21,sc [ms 0 g0 2 aH p.arrays,ms 1 g1 2 aD x14])] [] (qw (dM 21 0 0 g0 g0 2 0 (List.map aH p.arrays).length (e:= .arr 77 g0 2 (List.map aH p.arrays)) (cs:=[ms 0 g0 2 aH p.arrays,ms 1 g1 2 aD x14]) rfl (by kernel_rfl) (by kernel_rfl) (by kernel_rfl) (by kernel_rfl) rfl rfl hg.1) (qw (dM 21 1 1 g1 g1 2 0 (List.map aD x14).length (e:=E.tree tG 0 g1 (List.map aD x14) []) (cs:=[ms 0 (g0+1) 2 aH p.arrays,ms 1 g1 2 aD x14]) rfl (by kernel_rfl) (by kernel_rfl) (by kernel_rfl) (by kernel_rfl) rfl rfl hg.2.1) (qr eW)))))
     ·refine rq hC [] [74,75,76] [(74,vB (decide ((0:Int)≤wr ((p.parts.length:Int)-1))))] [] [] (aT h (fun c7 h=> ?_) (fun c7 h=> ?_))
      ·obtain⟨x11,hx11,h⟩:=bd h
       refine rq hC [.z (.foc 1 25 (0+Int.toNat (wr ((p.parts.length:Int)-1))) 1 (aD x11)),.z (.foc 1 26 (0+Int.toNat (wr ((p.parts.length:Int)-1))) 0 (aD x11)),oX aD hx11,.z (.nat 23),oQ (o0 aD hx11),oQ (iX aD hx11),oQ (o0 aD hx11)] [8,77,78,79,80,81] [(8,V.ref 23 0)] [(1,some (E.tree tG 0 g1 (List.map aD p.parts) [((0+Int.toNat (wr ((p.parts.length:Int)-1))),0,ms 26 1 2 aC x11.nest),((0+Int.toNat (wr ((p.parts.length:Int)-1))),1,ms 25 1 9 aJ x11.body)])),(25,some (E.tree tG 2 1 (List.map aJ x11.body) [])),(26,some (E.tree tG 1 1 (List.map aC x11.nest) [])),(23,sc [ms 26 1 2 aC x11.nest,ms 25 1 9 aJ x11.body])] [(25,true),(26,true),(23,true)] (qw (lk hC [.shd 25] [] [] [(25,some (ar 87 1 9 aJ x11.body))] []) ?_)
       obtain⟨x12,hx12,h⟩:=bd h
       refine rq hC [oV (vE G hx12),.z (.nat 24)] [9,10,82,83,84,85,86] [(9,V.ref 24 0)] [(24,some (E.cells (d4 x12.1)))] [(24,true)] ?_
       obtain⟨x15,hx15,x16,hx16,h⟩:=cS h
       obtain rfl:=so h
       exact rq hC [.z (.int 0),oA (aP aJ hx15),oQ (bZ (r:=aJ) 9 gF x11.body),oQ (bZ (r:=aJ) 9 gF [x12.1])] (fr 87 6) [] [(25,some (ar 87 2 9 aJ x15)),(23,sc [ms 26 1 2 aC x11.nest,ms 25 2 9 aJ x15])] [] (rk hC [oQ (iX aD hx11),oX aD hx11,.z (.unf 1 26 (aD x11) (List.map aD p.parts)),.z (.tre 25 tG 2),.z (.unf 1 25 (aD x11) (List.map aD x16)),.z (.lenc 20 1 (List.map aD x16).length),oQ (Eq.refl (List.map aC x11.nest).length),oQ (Eq.refl tG),oQ (o0 aD hx11),oQ (B9 aD hx11 rfl),oQ (Eq.refl (List.map aJ x15).length),oQ (Eq.refl tG),oQ (o0 aD hx11),oQ (S4 aD hx16 rfl),oQ (lI aD hx16)] (fr 93 5) [] [(25,none),(26,none),(1,some (E.tree tG 0 g1 (List.map aD x16) [])),(20,sc [ms 0 g0 2 aH p.arrays,ms 1 g1 2 aD x16])] [] (rq hC [] [98] [] [(21,sc [ms 0 g0 2 aH p.arrays,ms 1 g1 2 aD x16])] [] (qw (dM 21 0 0 g0 g0 2 0 (List.map aH p.arrays).length (e:= .arr 77 g0 2 (List.map aH p.arrays)) (cs:=[ms 0 g0 2 aH p.arrays,ms 1 g1 2 aD x16]) rfl (by kernel_rfl) (by kernel_rfl) (by kernel_rfl) (by kernel_rfl) rfl rfl hg.1) (qw (dM 21 1 1 g1 g1 2 0 (List.map aD x16).length (e:=E.tree tG 0 g1 (List.map aD x16) []) (cs:=[ms 0 (g0+1) 2 aH p.arrays,ms 1 g1 2 aD x16]) rfl (by kernel_rfl) (by kernel_rfl) (by kernel_rfl) (by kernel_rfl) rfl rfl hg.2.1) (qr eW)))))
      ·obtain rfl:=so h
       exact qk (rq hC [] [98] [] [(21,sc [ms 0 g0 2 aH p.arrays,ms 1 g1 2 aD p.parts])] [] (qw (dM 21 0 0 g0 g0 2 0 (List.map aH p.arrays).length (e:= .arr 77 g0 2 (List.map aH p.arrays)) (cs:=[ms 0 g0 2 aH p.arrays,ms 1 g1 2 aD p.parts]) rfl (by kernel_rfl) (by kernel_rfl) (by kernel_rfl) (by kernel_rfl) rfl rfl hg.1) (qw (dM 21 1 1 g1 g1 2 0 (List.map aD p.parts).length (e:=E.tree tG 0 g1 (List.map aD p.parts) []) (cs:=[ms 0 (g0+1) 2 aH p.arrays,ms 1 g1 2 aD p.parts]) rfl (by kernel_rfl) (by kernel_rfl) (by kernel_rfl) (by kernel_rfl) rfl rfl hg.2.1) (qr eW))))
theorem yD{list}{r}(h:nK n list=some r):PQ G 117 [vM aH list] (vB r):=by
 unfold nK at h
 refine pq aO Tryz.func117 rfl fun w X hC=> ?_
 refine rq hC [] [2] [] [] [] (qs (rq hC [] [3] [(3,vI 0)] [] [] (qb (jP h (fun x_=>aX [(0,vM aH list),(3,vI x_)] [] []) lS ?_))))
 rintro again2 x1 h
 refine qs (rq hC [oN aH list] (fr 6 4) [(9,vB (decide (x1<(list.length:Int))))] [] [] (aT h (fun c1 h=> ?_) (fun c1 h=> ?_)))
 ·refine qk (qs (qb ?_))
  obtain⟨x3,hx3,h⟩:=bd h
  refine rq hC [oR aH hx3,.z (.nat 20)] [4,12,13,14,15] [(4,V.ref 20 0)] [(20,sc [vS x3.name,vM rI x3.dims])] [(20,true)] (qs (vj h (fun x_=>aX [(0,vM aH list),(3,vI x1),(4,V.ref 20 0),(56,vB x_)] [(20,E.cells [vS x3.name,vM rI x3.dims])] [20]) (fun j4 h=> ?_) (fun x6 h=> ?_)))
  ·
   refine aS h (fun c2 h=> ?_) (fun c2 h=> ?_)
   ·refine aS h (fun c3 h=> ?_) (fun c3 h=> ?_)
    ·refine aS h (fun c4 h=> ?_) (fun c4 h=> ?_)
     ·refine aS h (fun c5 h=> ?_) (fun c5 h=> ?_)
      ·refine aS h (fun c6 h=> ?_) (fun c6 h=> ?_)
       ·exact dk hC bD (rF 4 c2++rF 4 c3++rF 3 c4++rF 9 c5++[oF c4,oF c5,oF c4,eF,eF,eF,oN rI x3.dims,eF,eF]++rF 3 c6++[oN rI x3.dims,oF c6,oF c6]) (fr 16 41) [(56,vB (decide ((2:Int)<(x3.dims.length:Int))))] [] [] (lE h)
       ·exact dk hC bD (rF 4 c2++rF 4 c3++rF 3 c4++rF 9 c5++[oF c4,oF c5,oF c4,eF,eF,eF,oN rI x3.dims,eF,eF]++rT 5 c6) (fr 16 41) [(56,vB true)] [] [] (lE h)
      ·obtain⟨x5,hx5,h⟩:=bd h
       refine aS h (fun c7 h=> ?_) (fun c7 h=> ?_)
       ·refine aS h (fun c8 h=> ?_) (fun c8 h=> ?_)
        ·exact dk hC bD (rF 4 c2++rF 4 c3++rF 3 c4++rT 4 c5++[oR aH hx5]++rT 5 c5++[oF c4,oT c5,oF c4]++rF 3 c7++[oN rI x3.dims,oF c7,oF c7]++rF 3 c8++[oN rI x3.dims,oF c8,oF c8]) (fr 16 41) [(56,vB (decide ((2:Int)<(x3.dims.length:Int))))] [] [] (lE h)
        ·exact dk hC bD (rF 4 c2++rF 4 c3++rF 3 c4++rT 4 c5++[oR aH hx5]++rT 5 c5++[oF c4,oT c5,oF c4]++rF 3 c7++[oN rI x3.dims,oF c7,oF c7]++rT 5 c8) (fr 16 41) [(56,vB true)] [] [] (lE h)
       ·exact dk hC bD (rF 4 c2++rF 4 c3++rF 3 c4++rT 4 c5++[oR aH hx5]++rT 5 c5++[oF c4,oT c5,oF c4]++rT 5 c7++sT 5) (fr 16 41) [(56,vB true)] [] [] (lE h)
     ·exact dk hC bD (rF 4 c2++rF 4 c3++rT 5 c4++sT 10) (fr 16 41) [(56,vB true)] [] [] (lE h)
    ·exact dk hC bD (rF 4 c2++rT 4 c3++sT 15) (fr 16 41) [(56,vB true)] [] [] (lE h)
   ·exact dk hC bD (rT 4 c2++sT 19) (fr 16 41) [(56,vB true)] [] [] (lE h)
  ·refine aT h (fun c9 h=> ?_) (fun c9 h=> ?_)
   ·obtain rfl:=so h
    exact rq hC [] [2] [(2,vB false)] [] [] (qr eR)
   ·refine qk (rq hC [] [5] [(5,vI 0)] [] [] (qb (jP h (fun x_=>aX [(0,vM aH list),(3,vI x1),(4,V.ref 20 0),(5,vI x_)] [(20,E.cells [vS x3.name,vM rI x3.dims])] [20]) lS ?_)))
    rintro again8 x7 h
    refine qs (rq hC [oN rI x3.dims] (fr 57 5) [(61,vB (decide (x7<(x3.dims.length:Int))))] [] [] (aT h (fun c10 h=> ?_) (fun c10 h=> ?_)))
    ·refine qk (qs (qb (vj h (fun x_=>aX [(0,vM aH list),(3,vI x1),(4,V.ref 20 0),(5,vI x7),(77,vB x_)] [(20,E.cells [vS x3.name,vM rI x3.dims])] [20]) (fun j9 h=> ?_) (fun x11 h=> ?_))))
     ·
      obtain⟨x10,hx10,h⟩:=bd h
      refine aS h (fun c11 h=> ?_) (fun c11 h=> ?_)
      ·exact rk hC ([oR rI hx10]++rF 4 c11++[oR rI hx10]++rF 3 c11) (fr 64 14) [(77,vB (decide ((6:Int)<x10)))] [] [] (lE h)
      ·exact rk hC ([oR rI hx10]++rT 7 c11) (fr 64 14) [(77,vB true)] [] [] (lE h)
     ·refine aT h (fun c12 h=> ?_) (fun c12 h=> ?_)
      ·obtain rfl:=so h
       exact rq hC [] [2] [(2,vB false)] [] [] (qr eR)
      ·exact qk (rk hC [] [5,62,63] [(5,vI (wr (x7+1)))] [] [] (lE h))
    ·exact cM (rk hC [] [3,10,11] [(3,vI (wr (x1+1)))] [] [] (lE h))
 ·obtain rfl:=so h
  exact cM (rq hC [oN aH list] [2,78,79,80] [(2,vB (decide ((list.length:Int)≤4)))] [] [] (qr eR))
theorem aCu{p}{r}(h:pJ n p=some r):PQ G 160 [vM rI p] (vB r):=by
 unfold pJ at h
 refine pq aO Tryz.func160 rfl fun w X hC=> ?_
 refine rq hC [] [2] [] [] [] (qs (rq hC [] [3] [(3,vI 0)] [] [] (qb (jP h (fun x_=>aX [(0,vM rI p),(3,vI x_)] [] []) lS ?_))))
 rintro again2 x1 h
 refine qs (rq hC [oN rI p] (fr 4 4) [(7,vB (decide (x1<(p.length:Int))))] [] [] (aT h (fun c1 h=> ?_) (fun c1 h=> ?_)))
 ·refine qk (qs (qb ?_))
  obtain⟨x3,hx3,x4,hx4,h⟩:=cS h
  refine rq hC [oR rI hx3,oV (rJ G hx4)] (fr 10 6) [(15,vB (!x4))] [] [] (aT h (fun c2 h=> ?_) (fun c2 h=> ?_))
  ·obtain rfl:=so h
   exact rq hC [] [2] [(2,vB false)] [] [] (qr eR)
  ·exact qk (rk hC [] [3,8,9] [(3,vI (wr (x1+1)))] [] [] (lE h))
 ·obtain rfl:=so h
  exact cM (rq hC [oN rI p] [2,16,17,18] [(2,vB (decide ((p.length:Int)≤4)))] [] [] (qr eR))
theorem wG{list}{depth}{r}(h:pI n list depth=some r):PQ G 251 [vM aB list,vI depth] (vB r):=by
 unfold pI at h
 refine pq aO Tryz.func251 rfl fun w X hC=> ?_
 refine rq hC [] [4] [] [] [] (qs (rq hC [] [5] [(5,vI 0)] [] [] (qb (jP h (fun x_=>aX [(0,vM aB list),(1,vI depth),(5,vI x_)] [] []) lS ?_))))
 rintro again2 x1 h
 refine qs (rq hC [oN aB list] (fr 6 4) [(9,vB (decide (x1<(list.length:Int))))] [] [] (aT h (fun c1 h=> ?_) (fun c1 h=> ?_)))
 ·refine qk (qs (qb (vj h (fun x_=>aX [(0,vM aB list),(1,vI depth),(5,vI x1),(26,vB x_)] [] []) (fun j3 h=> ?_) (fun x7 h=> ?_))))
  ·
   obtain⟨x4,hx4,x5,hx5,h⟩:=cS h
   refine aS h (fun c2 h=> ?_) (fun c2 h=> ?_)
   ·obtain⟨x6,hx6,h⟩:=bd h
    exact rk hC ([oR aB hx4,oV (dR G hx5)]++rF 3 c2++[oR aB hx4,oF c2,oF c2,oV (tQ G hx6)]++rF 3 c2) (fr 12 15) [(26,vB (decide (depth<x6)))] [] [] (lE h)
   ·exact rk hC ([oR aB hx4,oV (dR G hx5)]++rT 8 c2) (fr 12 15) [(26,vB true)] [] [] (lE h)
  ·refine aT h (fun c3 h=> ?_) (fun c3 h=> ?_)
   ·obtain rfl:=so h
    exact rq hC [] [4] [(4,vB false)] [] [] (qr eR)
   ·exact qk (rk hC [] [5,10,11] [(5,vI (wr (x1+1)))] [] [] (lE h))
 ·refine cM (vj h (fun x_=>aX [(4,vB x_)] [] []) (fun j8 h=> ?_) (fun x9 h=> ?_))
  ·
   refine aS h (fun c4 h=> ?_) (fun c4 h=> ?_)
   ·exact rk hC ([oN aB list]++rF 4 c4) [4,27,28,29,30,31,32,33,34] [(4,vB false)] [] [] (lE h)
   ·exact rk hC [oN aB list,oT c4,oT c4,oN aB list,oT c4,oT c4] [4,27,28,29,30,31,32,33,34] [(4,vB (decide ((list.length:Int)≤2)))] [] [] (lE h)
  ·obtain rfl:=so h
   exact qr eR
theorem vF{nest}{r}(h:l5 n nest=some r):PQ G 211 [vM aC nest] (vB r):=by
 unfold l5 at h
 refine pq aO Tryz.func211 rfl fun w X hC=> ?_
 refine rq hC [] [2] [] [] [] (qs (rq hC [] [3] [(3,vI 0)] [] [] (qb (jP h (fun x_=>aX [(0,vM aC nest),(3,vI x_)] [] []) lS ?_))))
 rintro again2 x1 h
 refine qs (vj h (fun x_=>aX [(0,vM aC nest),(3,vI x1),(12,vB x_)] [] []) (fun j3 h=> ?_) (fun x4 h=> ?_))
 ·
  refine aS h (fun c1 h=> ?_) (fun c1 h=> ?_)
  ·exact rk hC ([oN aC nest]++rF 4 c1) (fr 4 9) [(12,vB false)] [] [] (lE h)
  ·exact rk hC [oN aC nest,oT c1,oT c1,oN aC nest,oT c1,oT c1] (fr 4 9) [(12,vB (decide ((nest.length:Int)≤4)))] [] [] (lE h)
 ·refine aT h (fun c2 h=> ?_) (fun c2 h=> ?_)
  ·refine qk (qs (qb (vj h (fun x_=>aX [(0,vM aC nest),(3,vI x1),(32,vB x_)] [] []) (fun j5 h=> ?_) (fun x9 h=> ?_))))
   ·
    obtain⟨x6,hx6,x7,hx7,h⟩:=cS h
    refine aS h (fun c3 h=> ?_) (fun c3 h=> ?_)
    ·obtain⟨x8,hx8,h⟩:=bd h
     exact rk hC ([oR aC hx6,oV (wG G hx7)]++rF 3 c3++[oR aC hx6]++rF 4 c3++[oV (wG G hx8),oF c3,oF c3]) (fr 15 18) [(32,vB (!x8))] [] [] (lE h)
    ·exact rk hC ([oR aC hx6,oV (wG G hx7)]++rT 9 c3) (fr 15 18) [(32,vB true)] [] [] (lE h)
   ·refine aT h (fun c4 h=> ?_) (fun c4 h=> ?_)
    ·obtain rfl:=so h
     exact rq hC [] [2] [(2,vB false)] [] [] (qr eR)
    ·exact qk (rk hC [] [3,13,14] [(3,vI (wr (x1+1)))] [] [] (lE h))
  ·obtain rfl:=so h
   exact cM (rq hC [oN aC nest] [2,33,34,35] [(2,vB (decide ((nest.length:Int)≤4)))] [] [] (qr eR))
theorem n8{a}{point}{r}(h:gQ n a point=some r):PQ G 258 [V.agg (aQ a),vM rI point] (vI r):=by
 unfold gQ at h
 refine pq aO Tryz.func258 rfl fun w X hC=> ?_
 refine rq hC [.z (.b (true))] [2,4] [(2,V.tp (bJ a))] [] [] (rq hC [] [5,7,8] [(5,vI a.const)] [] [] (qs (rq hC [] [6] [(6,vI 0)] [] [] (qb (jP h (fun x_=>aX [(1,vM rI point),(2,V.tp (bJ a)),(5,vI x_.1),(6,vI x_.2)] [] []) lS ?_)))))
 rintro again3 ⟨x1,x2⟩ h
 refine qs (vj h (fun x_=>aX [(1,vM rI point),(2,V.tp (bJ a)),(5,vI x1),(6,vI x2),(19,vB x_)] [] []) (fun j4 h=> ?_) (fun x5 h=> ?_))
 ·
  refine aS h (fun c1 h=> ?_) (fun c1 h=> ?_)
  ·exact rk hC ([oN rI point]++rF 6 c1) (fr 9 11) [(19,vB false)] [] [] (lE h)
  ·exact rk hC ([oN rI point]++rT 4 c1++[oN rI a.coefs,oT c1,oT c1]) (fr 9 11) [(19,vB (decide (x2<(a.coefs.length:Int))))] [] [] (lE h)
 ·refine aT h (fun c2 h=> ?_) (fun c2 h=> ?_)
  ·refine qk (qs (qb ?_))
   obtain⟨x6,hx6,x7,hx7,h⟩:=cS h
   exact dk hC bD [oR rI hx6,oR rI hx7] [5,22,23,24,25,26,27,28,29,30,31,32,33] [(5,vI (wr (x1+(wr (x6*x7)))))] [] [] (rk hC [] [6,20,21] [(6,vI (wr (x2+1)))] [] [] (lE h))
  ·obtain rfl:=so h
   exact cM (rq hC [] [4,34] [(4,vI x1)] [] [] (qr eR))
theorem D8{loop}{p}{r}(h:nA n loop p=some r):PQ G 252 [V.agg (yN loop),vM rI p] (V.tup [vI r.1,vI r.2]):=by
 unfold nA at h
 refine pq aO Tryz.func252 rfl fun w X hC=> ?_
 refine rq hC [.z (.b (true))] [2,4,5] [(2,V.tp (wS loop))] [] [] ?_
 obtain⟨x1,hx1,x2,hx2,h⟩:=cS h
 refine rq hC [oR aB hx1,oV (n8 G hx2)] [6,12,13,14,15,16,17] [(6,vI x2)] [] [] ?_
 obtain⟨x3,hx3,x4,hx4,h⟩:=cS h
 refine rq hC [oR aB hx3,oV (n8 G hx4)] [7,18,19,20,21,22,23] [(7,vI x4)] [] [] (qs (rq hC [] [8] [(8,vI 1)] [] [] (qb (jP h (fun x_=>aX [(1,vM rI p),(2,V.tp (wS loop)),(6,vI x_.1),(7,vI x4),(8,vI x_.2)] [] []) lS ?_))))
 rintro again7 ⟨x5,x6⟩ h
 refine qs (rq hC [oN aB loop.lo] (fr 24 5) [(28,vB (decide (x6<(loop.lo.length:Int))))] [] [] (aT h (fun c1 h=> ?_) (fun c1 h=> ?_)))
 ·refine qk (vj h (fun x_=>aX [(1,vM rI p),(2,V.tp (wS loop)),(6,vI x_),(7,vI x4),(8,vI x6)] [] []) (fun j8 h=> ?_) (fun x11 h=> ?_))
  ·
   refine qb ?_
   obtain⟨x9,hx9,x10,hx10,h⟩:=cS h
   refine rq hC [oR aB hx9,oV (n8 G hx10)] [9,31,32,33,34,35,36,37] [(9,vI x10)] [] [] (rq hC [] [38,39,40] [(40,vB (decide (x5<x10)))] [] [] (aT h (fun c2 h=> ?_) (fun c2 h=> ?_)))
   ·exact rk hC [] [6,41] [(6,vI x10)] [] [] (lE h)
   ·exact qk (lE h)
  ·exact rk hC [] [8,29,30] [(8,vI (wr (x6+1)))] [] [] (lE h)
 ·refine cM (qs (rq hC [] [10] [(10,vI 1)] [] [] (qb (jP h (fun x_=>aX [(1,vM rI p),(2,V.tp (wS loop)),(6,vI x5),(7,vI x_.1),(10,vI x_.2)] [] []) lS ?_))))
  rintro again14 ⟨x12,x13⟩ h
  refine qs (rq hC [oN aB loop.hi] (fr 42 5) [(46,vB (decide (x13<(loop.hi.length:Int))))] [] [] (aT h (fun c3 h=> ?_) (fun c3 h=> ?_)))
  ·refine qk (vj h (fun x_=>aX [(1,vM rI p),(2,V.tp (wS loop)),(6,vI x5),(7,vI x_),(10,vI x13)] [] []) (fun j15 h=> ?_) (fun x18 h=> ?_))
   ·
    refine qb ?_
    obtain⟨x16,hx16,x17,hx17,h⟩:=cS h
    refine rq hC [oR aB hx16,oV (n8 G hx17)] [11,49,50,51,52,53,54,55] [(11,vI x17)] [] [] (rq hC [] [56,57,58] [(58,vB (decide (x17<x12)))] [] [] (aT h (fun c4 h=> ?_) (fun c4 h=> ?_)))
    ·exact rk hC [] [7,59] [(7,vI x17)] [] [] (lE h)
    ·exact qk (lE h)
   ·exact rk hC [] [10,47,48] [(10,vI (wr (x13+1)))] [] [] (lE h)
  ·obtain rfl:=so h
   exact cM (rq hC [] [4,5,60,61] [(4,vI x5),(5,vI x12)] [] [] (qr eR))
theorem aEb(G:GS): ∀(n:Nat) (nest:List Loop) (p:List Int) (most:Int) {r:Int} (h:s_l2Work n nest p most=some r),PQ G 212 [vM aC nest,vM rI p,vI most] (vI r):=by
 intro n
 induction n with
 |zero=>intro nest p most r h;rw [s_l2Work.eq_def] at h;cases h
 |succ n ih=>
  intro nest p most r h
  rw [s_l2Work.eq_def] at h;dsimp only at h
  refine pq aO Tryz.func212 rfl fun w X hC=> ?_
  refine rq hC [] [6] [] [] [] (rq hC [] [7] [(7,vI 1)] [] [] (qs (rq hC [oN rI p,oN aC nest] (fr 11 5) [(15,vB (decide ((p.length:Int)=(nest.length:Int))))] [] [] (aT h (fun c1 h=> ?_) (fun c1 h=> ?_)))))
  ·obtain rfl:=so h
   exact rq hC [] [6,16] [(6,vI 1)] [] [] (qr eR)
  ·refine qk ?_
   obtain⟨x1,hx1,x2,hx2,h⟩:=cS h
   refine rq hC [oN rI p,oR aC hx1,oV (D8 G hx2)] [8,9,17,18,19,20,21,22,23,24,25,26] [(8,vI x2.1),(9,vI x2.2)] [] [] (qs (rq hC [] [10,27] [(10,vI x2.1)] [] [] (qb (jP h (fun x_=>aX [(0,vM aC nest),(1,vM rI p),(2,vI most),(7,vI x_.1),(9,vI x2.2),(10,vI x_.2)] [] []) lS ?_))))
   rintro again5 ⟨x3,x4⟩ h
   refine qs (vj h (fun x_=>aX [(0,vM aC nest),(1,vM rI p),(2,vI most),(7,vI x3),(9,vI x2.2),(10,vI x4),(35,vB x_)] [] []) (fun j6 h=> ?_) (fun x7 h=> ?_))
   ·
    refine aS h (fun c2 h=> ?_) (fun c2 h=> ?_)
    ·exact rk hC (rF 4 c2) (fr 28 8) [(35,vB false)] [] [] (lE h)
    ·exact rk hC (rT 4 c2) (fr 28 8) [(35,vB (decide (x3≤most)))] [] [] (lE h)
   ·refine aT h (fun c3 h=> ?_) (fun c3 h=> ?_)
    ·refine qk (qs (qb ?_))
     obtain⟨x8,hx8,x9,hx9,x10,hx10,h⟩:=kY h
     exact rk hC [.z (.nat 20),oA (aP rI hx8),.z (.int 0),oQ (bZ (r:=rI) 1 (fun _=>rfl) []),oQ (bZ (r:=rI) 1 (fun _=>rfl) p),oA (aP rI hx9),.z (.b (true)),oQ (bZ (r:=rI) 1 (fun _=>rfl) x8),oQ (bZ (r:=rI) 1 (fun _=>rfl) [x4]),oV (ih nest x9 (wr (most-x3)) hx10)] [7,38,39,40,41,42,43,44,45,46,47,48,49,50] [(7,vI (wr (x3+x10)))] [(20,some (ar 3 3 1 rI x9))] [(20,true)] (rk hC [] [10,36,37] [(10,vI (wr (x4+1)))] [] [] (lE h))
    ·obtain rfl:=so h
     exact cM (rq hC [] [6,51] [(6,vI x3)] [] [] (qr eR))
theorem yE(G:GS): ∀(n:Nat) (out:List (List Int)) (outG:Nat) (nest:List Loop) (p:List Int) {r:(List (List Int))} (h:s_l2Points n out nest p=some r),VQ G 213 [ar 33 outG 1 (rL rI) out] [ms 0 outG 1 (rL rI) out,vM aC nest,vM rI p] (ms 0 (outG+1) 1 (rL rI) r) [ar 33 (outG+1) 1 (rL rI) r]:=by
 intro n
 induction n with
 |zero=>intro out outG nest p r h;rw [s_l2Points.eq_def] at h;cases h
 |succ n ih=>
  intro out outG nest p r h
  rw [s_l2Points.eq_def] at h;dsimp only at h
  refine vq aO Tryz.func213 rfl fun w X β0 hC hg=> ?_
  refine rq hC [] [6] [] [] [] (qs (rq hC [oN rI p,oN aC nest] (fr 10 5) [(14,vB (decide ((p.length:Int)=(nest.length:Int))))] [] [] (aT h (fun c1 h=> ?_) (fun c1 h=> ?_))))
  ·obtain⟨x1,hx1,x2,hx2,h⟩:=cS h
   obtain rfl:=so h
   exact rq hC [.z (.nat 20),oA (aP rI hx1),.z (.at 3),.z (.fz 20 [18] []),.z (.int 0),oQ (bZ (r:=rI) 1 (fun _=>rfl) []),oQ (bZ (r:=rI) 1 (fun _=>rfl) p),oA (aP (rL rI) hx2),oQ (bZ (r:=(rL rI)) 1 (fun _=>rfl) out),oQ (bZ (r:=(rL rI)) 1 (fun _=>rfl) [x1])] [0,6,15,16,17,18,19,20] [(6,ms 0 (outG+1) 1 (rL rI) x2)] [(20,none),(0,some (ar 33 (outG+1) 1 (rL rI) x2))] [(20,true)] (qw (t6 6 0 outG (outG+1) 1 0 (List.map (rL rI) x2).length (e:= .arr 33 (outG+1) 1 (List.map (rL rI) x2)) rfl (by kernel_rfl) (by kernel_rfl) rfl rfl hg.1) (qr eW))
  ·refine qk ?_
   obtain⟨x3,hx3,x4,hx4,h⟩:=cS h
   refine rq hC [oN rI p,oR aC hx3,oV (D8 G hx4)] [7,8,21,22,23,24,25,26,27,28,29,30] [(7,vI x4.1),(8,vI x4.2)] [] [] (qs (rq hC [] [9,31] [(9,vI x4.1)] [] [] (qb (bA (γ:=Nat) h (fun x_ g_=>aX [(0,ms 0 g_ 1 (rL rI) x_.1),(1,vM aC nest),(2,vM rI p),(8,vI x4.2),(9,vI x_.2)] [(0,ar 33 g_ 1 (rL rI) x_.1)] [0]) outG (lS) ?_))))
   rintro again8 ⟨x5,x6⟩ g7 h
   refine qs (vj h (fun x_=>aX [(0,ms 0 g7 1 (rL rI) x5),(1,vM aC nest),(2,vM rI p),(8,vI x4.2),(9,vI x6),(39,vB x_)] [(0,ar 33 g7 1 (rL rI) x5)] [0]) (fun j9 h=> ?_) (fun x10 h=> ?_))
   ·
    refine aS h (fun c2 h=> ?_) (fun c2 h=> ?_)
    ·exact rk hC (rF 4 c2) (fr 32 8) [(39,vB false)] [] [] (lE h)
    ·exact rk hC [oT c2,oT c2,oN (rL rI) x5,oT c2,oT c2] (fr 32 8) [(39,vB (decide ((x5.length:Int)≤120)))] [] [] (lE h)
   ·refine aT h (fun c3 h=> ?_) (fun c3 h=> ?_)
    ·refine qk (qs (qb ?_))
     obtain⟨x11,hx11,x12,hx12,x13,hx13,h⟩:=kY h
     exact rk hC [.z (.nat 20),oA (aP rI hx11),.z (.int 0),oQ (bZ (r:=rI) 1 (fun _=>rfl) []),oQ (bZ (r:=rI) 1 (fun _=>rfl) p),oA (aP rI hx12),.z (.at 2),.z (.fz 20 [49] []),oQ (bZ (r:=rI) 1 (fun _=>rfl) x11),oQ (bZ (r:=rI) 1 (fun _=>rfl) [x6]),oC [0] [] (ih x5 g7 nest x12 hx13)] [0,42,43,44,45,46,47,48,49,50] [(0,ms 0 (g7+1) 1 (rL rI) x13)] [(20,none),(0,some (ar 33 (g7+1) 1 (rL rI) x13))] [(20,true),(0,true)] (rk hC [] [9,40,41] [(9,vI (wr (x6+1)))] [] [] ⟨(x13,wr (x6+1)),(g7+1),h,lS⟩)
    ·obtain rfl:=so h
     exact cM (rq hC [] [6,51] [(6,ms 0 g7 1 (rL rI) x5)] [] [] (qw (t6 6 0 outG g7 1 0 (List.map (rL rI) x5).length (e:= .arr 33 g7 1 (List.map (rL rI) x5)) rfl (by kernel_rfl) (by kernel_rfl) rfl rfl hg.1) (qr eW)))
theorem Q6{nest}{r}(h:kF n nest=some r):VQ G 157 [] [vM aC nest] (V.tup [ms 0 1 1 (rL rI) r.1,vB r.2]) [ar 33 1 1 (rL rI) r.1]:=by
 unfold kF at h
 refine vq aO Tryz.func157 rfl fun w X β0 hC hg=> ?_
 refine rq hC [] [2,3] [] [] [] (qs (vj h (fun x_=>aX [(0,vM aC nest),(12,vB x_)] [] []) (fun j1 h=> ?_) (fun x4 h=> ?_)))
 ·
  obtain⟨x2,hx2,h⟩:=bd h
  refine aS h (fun c1 h=> ?_) (fun c1 h=> ?_)
  ·obtain⟨x3,hx3,h⟩:=bd h
   exact rk hC [oV (vF G hx2),oF c1,oF c1,oV (aEb G n nest [] 1200 hx3),oF c1,oF c1] (fr 5 8) [(12,vB (decide ((1200:Int)<x3)))] [] [] (lE h)
  ·exact rk hC ([oV (vF G hx2)]++rT 4 c1) (fr 5 8) [(12,vB true)] [] [] (lE h)
 ·refine aT h (fun c2 h=> ?_) (fun c2 h=> ?_)
  ·obtain rfl:=so h
   exact rq hC [.z (.nat 20)] [2,3,13] [(2,ms 20 1 1 (rL rI) []),(3,vB false)] [(20,some (ar 33 1 1 (rL rI) []))] [(20,true)] (qw (lk hC [.ren 2 20 0] [2] [(2,ms 0 1 1 (rL rI) [])] [(0,some (ar 33 1 1 (rL rI) [])),(20,none)] [(0,true)]) (qr eW))
  ·refine qk ?_
   obtain⟨x5,hx5,h⟩:=bd h
   refine rq hC [.z (.nat 20),oC [20] [] (yE G n [] 1 nest [] hx5)] [4,14,15,16] [(4,ms 20 2 1 (rL rI) x5)] [(20,some (ar 33 2 1 (rL rI) x5))] [(20,true),(20,true)] (qs (rq hC [oN (rL rI) x5] [17,18,19] [(19,vB (decide ((120:Int)<(x5.length:Int))))] [] [] (aT h (fun c3 h=> ?_) (fun c3 h=> ?_))))
   ·obtain rfl:=so h
    exact rq hC [.z (.nat 21)] [2,3,20] [(2,ms 21 1 1 (rL rI) []),(3,vB false)] [(21,some (ar 33 1 1 (rL rI) []))] [(21,true)] (qw (lk hC [.ren 2 21 0] [2] [(2,ms 0 1 1 (rL rI) [])] [(0,some (ar 33 1 1 (rL rI) [])),(21,none)] [(0,true)]) (qr eW))
   ·obtain rfl:=so h
    exact qk (rq hC [] [2,3,21] [(2,ms 20 2 1 (rL rI) x5),(3,vB true)] [] [] (qw (lk hC [.ren 2 20 0] [2] [(2,ms 0 1 1 (rL rI) x5)] [(0,some (ar 33 1 1 (rL rI) x5)),(20,none)] [(0,true)]) (qr eW)))
theorem aCr(G:GS): ∀(n:Nat) (out:List Access) (outG:Nat) (e:Expr) {r:(List Access)} (h:s_l3Reads n out e=some r),VQ G 217 [ar 82 outG 2 aU out] [ms 0 outG 2 aU out,V.agg (fM e)] (ms 0 (outG+1) 2 aU r) [ar 82 (outG+1) 2 aU r]:=by
 intro n
 induction n with
 |zero=>intro out outG e r h;rw [s_l3Reads.eq_def] at h;cases h
 |succ n ih=>
  intro out outG e r h
  rw [s_l3Reads.eq_def] at h;dsimp only at h
  refine vq aO Tryz.func217 rfl fun w X β0 hC hg=> ?_
  refine rq hC [.z (.b (true))] [3,4] [(3,V.tp (iK e))] [] [] ?_
  obtain⟨j1,hj1,h⟩:=uW h
  refine gN (γ:=Nat) (j:=j1) (r:=r) (fun x_ g_=>aX [(0,ms 0 g_ 2 aU x_),(3,V.tp (iK e))] [(0,ar 82 g_ 2 aU x_)] [0]) ?_ ?_
  ·
   refine rq hC [] [6,7,8] [(8,vB (decide (e.kind=3)))] [] [] (aT h (fun c1 h=> ?_) (fun c1 h=> ?_))
   ·obtain⟨x2,hx2,x3,hx3,h⟩:=cS h
    exact rk hC [oC [] [20] (lQ G hx2),.z (.at 3),.z (.fz 20 [12] []),.z (.int 0),oA (aP aU hx3),oQ (bZ (r:=aU) 2 oE out),oQ (bZ (r:=aU) 2 oE [x2])] [0,9,10,11,12,13,14] [(0,ms 0 (outG+1) 2 aU x3)] [(20,none),(0,some (ar 82 (outG+1) 2 aU x3))] [(20,true)] ⟨x3,(outG+1),h,lS⟩
   ·exact qk ⟨out,outG,h,lS⟩
  ·rintro x4 g5 h
   subst hj1
   refine qs (rq hC [] [5] [(5,vI 0)] [] [] (qb (bA (γ:=Nat) h (fun x_ g_=>aX [(0,ms 0 g_ 2 aU x_.1),(3,V.tp (iK e)),(5,vI x_.2)] [(0,ar 82 g_ 2 aU x_.1)] [0]) g5 (lS) ?_)))
   rintro again9 ⟨x6,x7⟩ g8 h
   refine qs (rq hC [oN aM e.kids] (fr 15 5) [(19,vB (decide (x7<(e.kids.length:Int))))] [] [] (aT h (fun c2 h=> ?_) (fun c2 h=> ?_)))
   ·refine qk (qs (qb ?_))
    obtain⟨x10,hx10,x11,hx11,h⟩:=cS h
    exact rk hC [.z (.row (fU x10)),oQ (jG aM hx10 (eA x10)),oC [0] [] (ih x6 g8 x10 hx11)] [0,22,23,24,25,26,27,28] [(0,ms 0 (g8+1) 2 aU x11)] [(0,some (ar 82 (g8+1) 2 aU x11))] [(0,true)] (rk hC [] [5,20,21] [(5,vI (wr (x7+1)))] [] [] ⟨(x11,wr (x7+1)),(g8+1),h,lS⟩)
   ·obtain rfl:=so h
    exact cM (rq hC [] [4,29] [(4,ms 0 g8 2 aU x6)] [] [] (qw (t6 4 0 outG g8 2 0 (List.map aU x6).length (e:= .arr 82 g8 2 (List.map aU x6)) rfl (by kernel_rfl) (by kernel_rfl) rfl rfl hg.1) (qr eW)))
theorem aD5{a}{r}(h:sN n a=some r):PQ G 257 [V.agg [vS a.name,vM rI a.dims]] (vI r):=by
 unfold sN at h
 refine pq aO Tryz.func257 rfl fun w X hC=> ?_
 refine rq hC [.z (.b (true))] [1,2] [(1,V.tp [T.str a.name,T.sl (List.map rI a.dims)])] [] [] (rq hC [] [3] [(3,vI 1)] [] [] (qs (rq hC [] [4] [(4,vI 0)] [] [] (qb (jP h (fun x_=>aX [(1,V.tp [T.str a.name,T.sl (List.map rI a.dims)]),(3,vI x_.1),(4,vI x_.2)] [] []) lS ?_)))))
 rintro again3 ⟨x1,x2⟩ h
 refine qs (rq hC [oN rI a.dims] (fr 5 5) [(9,vB (decide (x2<(a.dims.length:Int))))] [] [] (aT h (fun c1 h=> ?_) (fun c1 h=> ?_)))
 ·refine qk (qs (qb ?_))
  obtain⟨x4,hx4,h⟩:=bd h
  exact rk hC [oR rI hx4] [3,12,13,14,15,16,17,18] [(3,vI (wr (x1*x4)))] [] [] (rk hC [] [4,10,11] [(4,vI (wr (x2+1)))] [] [] (lE h))
 ·obtain rfl:=so h
  exact cM (rq hC [] [2,19] [(2,vI x1)] [] [] (qr eR))
theorem P6{list}{a}{point}{r}(h:pH n list a point=some r):PQ G 218 [vM aH list,V.agg (dH a),vM rI point] (vI r):=by
 unfold pH at h
 refine pq aO Tryz.func218 rfl fun w X hC=> ?_
 refine rq hC [.z (.b (true))] [4,6] [(4,V.tp (eG a))] [] [] (rq hC [] [7] [(7,vI 0)] [] [] (qs (rq hC [] [8] [(8,vI 0)] [] [] (qb (jP h (fun x_=>aX [(0,vM aH list),(2,vM rI point),(4,V.tp (eG a)),(7,vI x_.1),(8,vI x_.2)] [] []) lS ?_)))))
 rintro again3 ⟨x1,x2⟩ h
 refine qs (rq hC [oN aH list] (fr 12 4) [(15,vB (decide (x2<(list.length:Int))))] [] [] (aT h (fun c1 h=> ?_) (fun c1 h=> ?_)))
 ·refine qk (qs (qb (qs (qs ?_))))
  obtain⟨x4,hx4,h⟩:=bd h
  refine dk hC bD [oR aH hx4] (fr 18 8) [(25,vB (!decide (x4.name=a.array)))] [] [] (aT h (fun c2 h=> ?_) (fun c2 h=> ?_))
  ·obtain⟨x5,hx5,h⟩:=bd h
   exact rq hC [oR aH hx4,oV (aD5 G hx5)] [7,26,27,28,29,30,31,32] [(7,vI (wr (x1+x5)))] [] [] (cM (rk hC [] [8,16,17] [(8,vI (wr (x2+1)))] [] [] (lE h)))
  ·refine qk (rq hC [] [9] [(9,vI 0)] [] [] (qs (rq hC [] [10] [(10,vI 0)] [] [] (qb (jP h (fun x_=>aX [(0,vM aH list),(2,vM rI point),(4,V.tp (eG a)),(7,vI x1),(8,vI x2),(9,vI x_.1),(10,vI x_.2)] [] []) lS ?_)))))
   rintro again8 ⟨x6,x7⟩ h
   refine qs (rq hC [oN aB a.subs] (fr 33 5) [(37,vB (decide (x7<(a.subs.length:Int))))] [] [] (aT h (fun c3 h=> ?_) (fun c3 h=> ?_)))
   ·refine qk (qs (qb (qs (qs (dk hC bD [oN aB a.subs,oR aH hx4,oN rI x4.dims] (fr 40 10) [(49,vB (!decide ((a.subs.length:Int)=(x4.dims.length:Int))))] [] [] ?_)))))
    refine aT h (fun c4 h=> ?_) (fun c4 h=> ?_)
    ·obtain rfl:=so h
     exact rq hC [] [6] [(6,vI (-1))] [] [] (qr eR)
    ·refine qk ?_
     obtain⟨x9,hx9,x10,hx10,h⟩:=cS h
     refine rq hC [oR aB hx9,oV (n8 G hx10)] [11,50,51,52,53,54,55,56] [(11,vI x10)] [] [] (qs (vj h (fun x_=>aX [(0,vM aH list),(2,vM rI point),(4,V.tp (eG a)),(7,vI x1),(8,vI x2),(9,vI x6),(10,vI x7),(11,vI x10),(70,vB x_)] [] []) (fun j11 h=> ?_) (fun x13 h=> ?_)))
     ·
      refine aS h (fun c5 h=> ?_) (fun c5 h=> ?_)
      ·obtain⟨x12,hx12,h⟩:=bd h
       exact rk hC (rF 4 c5++[oR aH hx4]++rF 4 c5++[oR rI hx12]++rF 3 c5) (fr 57 14) [(70,vB (decide (x12≤x10)))] [] [] (lE h)
      ·exact rk hC (rT 11 c5) (fr 57 14) [(70,vB true)] [] [] (lE h)
     ·refine aT h (fun c6 h=> ?_) (fun c6 h=> ?_)
      ·obtain rfl:=so h
       exact rq hC [] [6] [(6,vI (-1))] [] [] (qr eR)
      ·refine qk ?_
       obtain⟨x14,hx14,h⟩:=bd h
       exact rk hC [oR aH hx4,oR rI hx14] [9,71,72,73,74,75,76,77,78,79,80,81,82] [(9,vI (wr ((wr (x6*x14))+x10)))] [] [] (rk hC [] [10,38,39] [(10,vI (wr (x7+1)))] [] [] (lE h))
   ·obtain rfl:=so h
    exact cM (rq hC [] [6,83,84,85] [(6,vI (wr (x1+x6)))] [] [] (qr eR))
 ·obtain rfl:=so h
  exact cM (rq hC [] [6] [(6,vI (-1))] [] [] (qr eR))
theorem D6{list}{s}{point}{r}(h:lB n list s point=some r):VQ G 159 [] [vM aH list,V.agg (d4 s),vM rI point] (V.tup [ms 0 1 1 rI r.1,vI r.2.1,vB r.2.2]) [ar 3 1 1 rI r.1]:=by
 unfold lB at h
 refine vq aO Tryz.func159 rfl fun w X β0 hC hg=> ?_
 refine rq hC [.z (.b (true))] [4,6,7,8] [(4,V.tp (pB s))] [] [] (rq hC [.z (.nat 20)] [9,14] [(9,ms 20 1 1 rI [])] [(20,some (ar 3 1 1 rI []))] [(20,true)] ?_)
 obtain⟨x1,hx1,h⟩:=bd h
 refine rq hC [.z (.nat 21),oC [21] [] (aCr G n [] 1 s.value hx1)] [10,15,16,17,18] [(10,ms 21 2 2 aU x1)] [(21,some (ar 82 2 2 aU x1))] [(21,true),(21,true)] (qs (rq hC [] [11] [(11,vI 0)] [] [] (qb (bA (γ:=Nat) h (fun x_ g_=>aX [(0,vM aH list),(2,vM rI point),(4,V.tp (pB s)),(9,ms 20 g_ 1 rI x_.1),(10,ms 21 2 2 aU x1),(11,vI x_.2)] [(20,ar 3 g_ 1 rI x_.1),(21,ar 82 2 2 aU x1)] [20,21]) 1 (lS) ?_))))
 rintro again5 ⟨x2,x3⟩ g4 h
 refine qs (rq hC [oN aU x1] (fr 19 4) [(22,vB (decide (x3<(x1.length:Int))))] [] [] (aT h (fun c1 h=> ?_) (fun c1 h=> ?_)))
 ·refine qk (qs (qb ?_))
  obtain⟨x6,hx6,x7,hx7,h⟩:=cS h
  refine rq hC [oQ (iX aU hx6),oX aU hx6,oV (P6 G hx7)] [12,25,26,27,28,29,30,31] [(12,vI x7)] [] [] (qs (rq hC [] [32,33] [(33,vB (decide (x7<0)))] [] [] (aT h (fun c2 h=> ?_) (fun c2 h=> ?_))))
  ·obtain rfl:=so h
   exact rq hC [.z (.nat 22)] [6,7,8,34] [(6,ms 22 1 1 rI []),(7,vI 0),(8,vB false)] [(22,some (ar 3 1 1 rI []))] [(22,true)] (qw (lk hC [.ren 6 22 0] [6] [(6,ms 0 1 1 rI [])] [(0,some (ar 3 1 1 rI [])),(22,none)] [(0,true)]) (qr eW))
  ·refine qk ?_
   obtain⟨x8,hx8,h⟩:=bd h
   exact rk hC [.z (.int 0),oA (aP rI hx8),oQ (bZ (r:=rI) 1 (fun _=>rfl) x2),oQ (bZ (r:=rI) 1 (fun _=>rfl) [x7])] [9,35,36,37,38] [(9,ms 20 (g4+1) 1 rI x8)] [(20,some (ar 3 (g4+1) 1 rI x8))] [] (rk hC [] [11,23,24] [(11,vI (wr (x3+1)))] [] [] ⟨(x8,wr (x3+1)),(g4+1),h,lS⟩)
 ·refine cM ?_
  obtain⟨x9,hx9,h⟩:=bd h
  refine rq hC [oV (P6 G hx9)] [13,39,40,41,42,43] [(13,vI x9)] [] [] (qs (rq hC [] [44,45] [(45,vB (decide (x9<0)))] [] [] (aT h (fun c3 h=> ?_) (fun c3 h=> ?_))))
  ·obtain rfl:=so h
   exact rq hC [.z (.nat 22)] [6,7,8,46] [(6,ms 22 1 1 rI []),(7,vI 0),(8,vB false)] [(22,some (ar 3 1 1 rI []))] [(22,true)] (qw (lk hC [.ren 6 22 0] [6] [(6,ms 0 1 1 rI [])] [(0,some (ar 3 1 1 rI [])),(22,none)] [(0,true)]) (qr eW))
  ·obtain rfl:=so h
   exact qk (rq hC [] [6,7,8,47,48] [(6,ms 20 g4 1 rI x2),(7,vI x9),(8,vB true)] [] [] (qw (lk hC [.ren 6 20 0] [6] [(6,ms 0 1 1 rI x2)] [(0,some (ar 3 1 1 rI x2)),(20,none)] [(0,true)]) (qr eW)))
theorem wF{list}{part}{r}(h:nI n list part=some r):PQ G 118 [vM aH list,V.agg (Z5 part)] (V.tup [vI r.1,vB r.2]):=by
 unfold nI at h
 refine pq aO Tryz.func118 rfl fun w X hC=> ?_
 refine rq hC [.z (.b (true))] [3,4,5] [(3,V.tp (pC part))] [] [] ?_
 obtain⟨x1,hx1,h⟩:=bd h
 refine rq hC [oC [] [20] (Q6 G hx1)] [6,7,13,14,15,16,17,18] [(6,ms 20 1 1 (rL rI) x1.1),(7,vB x1.2)] [(20,some (ar 33 1 1 (rL rI) x1.1))] [(20,true)] (qs (vj h (fun x_=>aX [(0,vM aH list),(3,V.tp (pC part)),(6,ms 20 1 1 (rL rI) x1.1),(32,vB x_)] [(20,ar 33 1 1 (rL rI) x1.1)] [20]) (fun j2 h=> ?_) (fun x3 h=> ?_)))
 ·
  refine aS h (fun c1 h=> ?_) (fun c1 h=> ?_)
  ·refine aS h (fun c2 h=> ?_) (fun c2 h=> ?_)
   ·exact rk hC (rF 3 c1++[oN aJ part.body,oF c1,oF c1]++rF 3 c2++[oN aJ part.body,oF c2,oF c2]) (fr 19 14) [(32,vB (decide ((4:Int)<(part.body.length:Int))))] [] [] (lE h)
   ·exact rk hC (rF 3 c1++[oN aJ part.body,oF c1,oF c1]++rT 5 c2) (fr 19 14) [(32,vB true)] [] [] (lE h)
  ·exact rk hC (rT 5 c1++sT 5) (fr 19 14) [(32,vB true)] [] [] (lE h)
 ·refine aT h (fun c3 h=> ?_) (fun c3 h=> ?_)
  ·obtain rfl:=so h
   exact rq hC [] [4,5] [(4,vI 0),(5,vB false)] [] [] (qr eR)
  ·refine qk (qs (rq hC [] [8] [(8,vI 0)] [] [] (qb (jP h (fun x_=>aX [(0,vM aH list),(3,V.tp (pC part)),(6,ms 20 1 1 (rL rI) x1.1),(8,vI x_)] [(20,ar 33 1 1 (rL rI) x1.1)] [20]) lS ?_))))
   rintro again5 x4 h
   refine qs (rq hC [oN aJ part.body] (fr 33 5) [(37,vB (decide (x4<(part.body.length:Int))))] [] [] (aT h (fun c4 h=> ?_) (fun c4 h=> ?_)))
   ·refine qk (qs (qb (qs (qs ?_))))
    obtain⟨x6,hx6,x7,hx7,h⟩:=cS h
    refine dk hC bD [oR aJ hx6,oN aC part.nest,oV (o6 G hx7)] (fr 40 10) [(49,vB (!x7))] [] [] (aT h (fun c5 h=> ?_) (fun c5 h=> ?_))
    ·obtain rfl:=so h
     exact rq hC [] [4,5] [(4,vI 0),(5,vB false)] [] [] (qr eR)
    ·refine qk (rq hC [] [9] [(9,vI 0)] [] [] (qb (jP h (fun x_=>aX [(0,vM aH list),(3,V.tp (pC part)),(6,ms 20 1 1 (rL rI) x1.1),(8,vI x4),(9,vI x_)] [(20,ar 33 1 1 (rL rI) x1.1)] [20]) lS ?_)))
     rintro again9 x8 h
     refine qs (rq hC [oN (rL rI) x1.1] (fr 50 4) [(53,vB (decide (x8<(x1.1.length:Int))))] [] [] (aT h (fun c6 h=> ?_) (fun c6 h=> ?_)))
     ·refine qk (qs (qb (qs ?_)))
      obtain⟨x10,hx10,x11,hx11,h⟩:=cS h
      refine dk hC bD [oR aJ hx6,oQ (iX (rL rI) hx10),oX (rL rI) hx10,oC [] [21] (D6 G hx11)] [10,11,12,56,57,58,59,60,61,62,63,64,65,66,67,68,69,70] [(12,vB x11.2.2)] [(21,some (ar 3 1 1 rI x11.1))] [(21,true)] (vj h (fun x_=>aX [(0,vM aH list),(3,V.tp (pC part)),(6,ms 20 1 1 (rL rI) x1.1),(8,vI x4),(9,vI x8),(80,vB x_)] [(20,ar 33 1 1 (rL rI) x1.1),(21,ar 3 1 1 rI x11.1)] [20,21]) (fun j12 h=> ?_) (fun x14 h=> ?_))
      ·
       refine aS h (fun c7 h=> ?_) (fun c7 h=> ?_)
       ·obtain⟨x13,hx13,h⟩:=bd h
        exact rk hC (rF 3 c7++[oQ (iX (rL rI) hx10),oF c7,oX (rL rI) hx10,oF c7,oV (aCu G hx13),oF c7,oF c7]) (fr 71 10) [(80,vB (!x13))] [] [] (lE h)
       ·exact rk hC (rT 7 c7) (fr 71 10) [(80,vB true)] [] [] (lE h)
      ·refine aT h (fun c8 h=> ?_) (fun c8 h=> ?_)
       ·obtain rfl:=so h
        exact rq hC [] [4,5] [(4,vI 0),(5,vB false)] [] [] (qr eR)
       ·exact qk (rk hC [] [9,54,55] [(9,vI (wr (x8+1)))] [] [] (lE h))
     ·exact cM (rk hC [] [8,38,39] [(8,vI (wr (x4+1)))] [] [] (lE h))
   ·obtain rfl:=so h
    exact cM (rq hC [oN (rL rI) x1.1,oN aJ part.body] [4,5,81,82,83,84,85,86] [(4,vI (wr ((x1.1.length:Int)*(part.body.length:Int)))),(5,vB true)] [] [] (qr eR))
theorem cR{p}{r}(h:dI n p=some r):PQ G 71 [V.agg (bX p)] (vB r):=by
 unfold dI at h
 refine pq aO Tryz.func71 rfl fun w X hC=> ?_
 refine rq hC [.z (.b (true))] [1,2] [(1,V.tp (bU p))] [] [] (qs (vj h (fun x_=>aX [(1,V.tp (bU p)),(16,vB x_)] [] []) (fun j1 h=> ?_) (fun x3 h=> ?_)))
 ·
  obtain⟨x2,hx2,h⟩:=bd h
  refine aS h (fun c1 h=> ?_) (fun c1 h=> ?_)
  ·exact rk hC ([oV (yD G hx2)]++rF 3 c1++[oN aD p.parts,oF c1,oF c1]) (fr 7 10) [(16,vB (decide ((4:Int)<(p.parts.length:Int))))] [] [] (lE h)
  ·exact rk hC ([oV (yD G hx2)]++rT 5 c1) (fr 7 10) [(16,vB true)] [] [] (lE h)
 ·refine aT h (fun c2 h=> ?_) (fun c2 h=> ?_)
  ·obtain rfl:=so h
   exact rq hC [] [2] [(2,vB false)] [] [] (qr eR)
  ·refine qk (rq hC [] [3] [(3,vI 0)] [] [] (qs (rq hC [] [4] [(4,vI 0)] [] [] (qb (jP h (fun x_=>aX [(1,V.tp (bU p)),(3,vI x_.1),(4,vI x_.2)] [] []) lS ?_)))))
   rintro again6 ⟨x4,x5⟩ h
   refine qs (rq hC [oN aD p.parts] (fr 17 5) [(21,vB (decide (x5<(p.parts.length:Int))))] [] [] (aT h (fun c3 h=> ?_) (fun c3 h=> ?_)))
   ·refine qk (qs (qb (qs ?_)))
    obtain⟨x7,hx7,x8,hx8,h⟩:=cS h
    refine dk hC bD [oR aD hx7,oV (wF G hx8)] [5,6,24,25,26,27,28,29,30,31,32,33,34] [(5,vI x8.1),(6,vB x8.2)] [] [] (qs (rq hC [] [35,36] [(36,vB (!x8.2))] [] [] (aT h (fun c4 h=> ?_) (fun c4 h=> ?_))))
    ·obtain rfl:=so h
     exact rq hC [] [2] [(2,vB false)] [] [] (qr eR)
    ·exact qk (rk hC [] [3,37,38,39] [(3,vI (wr (x4+x8.1)))] [] [] (rk hC [] [4,22,23] [(4,vI (wr (x5+1)))] [] [] (lE h)))
   ·obtain rfl:=so h
    exact cM (rq hC [] [2,40,41] [(2,vB (decide (x4≤120)))] [] [] (qr eR))
theorem aEc{nest}{r}(h:J1 n nest=some r):PQ G 208 [vM aC nest] (vS r):=by
 unfold J1 at h
 refine pq aO Tryz.func208 rfl fun w X hC=> ?_
 refine rq hC [] [2] [] [] [] (rq hC [] [3] [(3,vS [])] [] [] (qs (rq hC [] [4] [(4,vI 0)] [] [] (qb (jP h (fun x_=>aX [(0,vM aC nest),(3,vS x_.1),(4,vI x_.2)] [] []) lS ?_)))))
 rintro again3 ⟨x1,x2⟩ h
 refine qs (rq hC [oN aC nest] (fr 5 4) [(8,vB (decide (x2<(nest.length:Int))))] [] [] (aT h (fun c1 h=> ?_) (fun c1 h=> ?_)))
 ·refine qk (qs (qb ?_))
  obtain⟨x4,hx4,x5,hx5,x6,hx6,h⟩:=kY h
  obtain⟨x7,hx7,x8,hx8,x9,hx9,h⟩:=kY h
  obtain⟨x10,hx10,x11,hx11,h⟩:=cS h
  exact dk hC bD [oS hx4,oR aC hx5,oV (n7 G hx6),oS hx7,oS hx8,oR aC hx5,oV (n7 G hx9),oS hx10,oS hx11] [3,11,12,13,14,15,16,17,18,19,20,21,22,23,24,25,26,27,28] [(3,vS x11)] [] [] (rk hC [] [4,9,10] [(4,vI (wr (x2+1)))] [] [] (lE h))
 ·obtain rfl:=so h
  exact cM (rq hC [] [2,29] [(2,vS x1)] [] [] (qr eR))
theorem yH{p}{r}(h:mE n p=some r):PQ G 156 [V.agg (bX p)] (vS r):=by
 unfold mE at h
 refine pq aO Tryz.func156 rfl fun w X hC=> ?_
 refine rq hC [.z (.b (true))] [1,2] [(1,V.tp (bU p))] [] [] (qs ?_)
 obtain⟨x1,hx1,h⟩:=bd h
 refine rq hC [oV (cR G hx1)] [9,10,11] [(11,vB (!x1))] [] [] (aT h (fun c1 h=> ?_) (fun c1 h=> ?_))
 ·obtain rfl:=so h
  exact rq hC [] [2] [(2,vS [])] [] [] (qr eR)
 ·refine qk (rq hC [] [3] [(3,vS [112,114,111,103,114,97,109,10])] [] [] (qs (rq hC [] [4] [(4,vI 0)] [] [] (qb (jP h (fun x_=>aX [(1,V.tp (bU p)),(3,vS x_.1),(4,vI x_.2)] [] []) lS ?_)))))
  rintro again4 ⟨x2,x3⟩ h
  refine qs (rq hC [oN aH p.arrays] (fr 12 5) [(16,vB (decide (x3<(p.arrays.length:Int))))] [] [] (aT h (fun c2 h=> ?_) (fun c2 h=> ?_)))
  ·refine qk (qs (qb ?_))
   obtain⟨x5,hx5,x6,hx6,x7,hx7,h⟩:=kY h
   refine rq hC [oS hx5,oR aH hx6,oS hx7] [3,19,20,21,22,23,24,25,26,27] [(3,vS x7)] [] [] (qs (rq hC [] [5] [(5,vI 0)] [] [] (qb (jP h (fun x_=>aX [(1,V.tp (bU p)),(3,vS x_.1),(4,vI x3),(5,vI x_.2)] [] []) lS ?_))))
   rintro again10 ⟨x8,x9⟩ h
   refine qs (rq hC [oR aH hx6,oN rI x6.dims] (fr 28 9) [(36,vB (decide (x9<(x6.dims.length:Int))))] [] [] (aT h (fun c3 h=> ?_) (fun c3 h=> ?_)))
   ·refine qk (qs (qb ?_))
    obtain⟨x11,hx11,x12,hx12,x13,hx13,h⟩:=kY h
    obtain⟨x14,hx14,h⟩:=bd h
    exact rk hC [oS hx11,oR aH hx6,oR rI hx12,oV (rK G n x12 hx13),oS hx14] [3,39,40,41,42,43,44,45,46,47,48,49,50,51] [(3,vS x14)] [] [] (rk hC [] [5,37,38] [(5,vI (wr (x9+1)))] [] [] (lE h))
   ·refine cM ?_
    obtain⟨x15,hx15,h⟩:=bd h
    exact rk hC [oS hx15] [3,52,53] [(3,vS x15)] [] [] (rk hC [] [4,17,18] [(4,vI (wr (x3+1)))] [] [] (lE h))
  ·refine cM (qs (rq hC [] [6] [(6,vI 0)] [] [] (qb (jP h (fun x_=>aX [(1,V.tp (bU p)),(3,vS x_.1),(6,vI x_.2)] [] []) lS ?_))))
   rintro again18 ⟨x16,x17⟩ h
   refine qs (rq hC [oN aD p.parts] (fr 54 5) [(58,vB (decide (x17<(p.parts.length:Int))))] [] [] (aT h (fun c4 h=> ?_) (fun c4 h=> ?_)))
   ·refine qk (qs (qb ?_))
    obtain⟨x19,hx19,x20,hx20,x21,hx21,h⟩:=kY h
    obtain⟨x22,hx22,h⟩:=bd h
    refine rq hC [oS hx19,oR aD hx20,oV (aEc G hx21),oS hx22] [3,61,62,63,64,65,66,67,68,69,70] [(3,vS x22)] [] [] (rq hC [] [7] [(7,vI 0)] [] [] (qb (jP h (fun x_=>aX [(1,V.tp (bU p)),(3,vS x_.1),(6,vI x17),(7,vI x_.2)] [] []) lS ?_)))
    rintro again25 ⟨x23,x24⟩ h
    refine qs (rq hC [oR aD hx20,oN aJ x20.body] (fr 71 9) [(79,vB (decide (x24<(x20.body.length:Int))))] [] [] (aT h (fun c5 h=> ?_) (fun c5 h=> ?_)))
    ·refine qk (qs (qb ?_))
     obtain⟨x26,hx26,h⟩:=bd h
     refine rq hC [oR aD hx20,oR aJ hx26,.z (.nat 20)] [8,82,83,84,85,86,87,88,89,90] [(8,V.ref 20 0)] [(20,some (E.cells (d4 x26)))] [(20,true)] ?_
     obtain⟨x27,hx27,x28,hx28,x29,hx29,h⟩:=kY h
     obtain⟨x30,hx30,x31,hx31,x32,hx32,h⟩:=kY h
     exact dk hC bD [oV (lR G hx27),oS hx28,oS hx29,oV (P7 G n x26.value hx30),oS hx31,oS hx32] [3,91,92,93,94,95,96,97,98,99,100,101] [(3,vS x32)] [] [] (rk hC [] [7,80,81] [(7,vI (wr (x24+1)))] [] [] (lE h))
    ·exact cM (rk hC [] [6,59,60] [(6,vI (wr (x17+1)))] [] [] (lE h))
   ·obtain rfl:=so h
    exact cM (rq hC [] [2,102] [(2,vS x16)] [] [] (qr eR))
theorem A9{text}{r}(h:d9 n text=some r):PQ G 113 [vS text] (V.tup [V.agg (bX r.1),vB r.2]):=by
 unfold d9 at h
 refine pq aO Tryz.func113 rfl fun w X hC=> ?_
 refine rq hC [.z (.nat 20)] [2,3] [(2,V.ref 20 0)] [(20,sc [V.t T.nilS,V.t T.nilS])] [(20,true)] ?_
 obtain⟨x1,hx1,h⟩:=bd h
 refine rq hC [oC [] [21] (wI G hx1)] [4,7,8] [(4,ms 21 1 1 rS x1)] [(21,some (ar 9 1 1 rS x1))] [(21,true)] (rq hC [.z (.nat 22)] [5,9] [(5,V.ref 22 0)] [(22,sc [V.t T.nilS,V.t T.nilS])] [(22,true)] (qs (rq hC [oN rS x1] [10,11,12] [(12,vB (decide ((42:Int)<(x1.length:Int))))] [] [] (aT h (fun c1 h=> ?_) (fun c1 h=> ?_)))))
 ·obtain rfl:=so h
  exact rq hC [] [3,13] [(3,vB false)] [(20,sc [V.t T.nilS,V.t T.nilS])] [] (qr eR)
 ·refine qk (qs (rq hC [] [6] [(6,vI 1)] [] [] (qb (qw (lk hC [.growc 22 0 23 77,.growc 22 1 24 62,.tre 24 tG 0] [] [] [(23,some (ar 77 1 2 aH [])),(24,some (E.tree tG 0 1 (List.map aD []) [])),(22,sc [ms 23 1 2 aH [],ms 24 1 2 aD []])] [(23,true),(24,true)]) (bA (γ:=Nat×Nat) h (fun x_ g_=>aX [(0,vS text),(2,V.ref 20 0),(4,ms 21 1 1 rS x1),(5,V.ref 22 0),(6,vI x_.2.2)] [(20,E.cells [V.t T.nilS,V.t T.nilS]),(21,ar 9 1 1 rS x1),(22,E.cells [ms 23 g_.1 2 aH x_.1,ms 24 g_.2 2 aD x_.2.1]),(23,ar 77 g_.1 2 aH x_.1),(24,E.tree tG 0 g_.2 (List.map aD x_.2.1) [])] [20,21,22,23,24]) (1,1) (lS) ?_)))))
  rintro again5 ⟨x2,x3,x4⟩ ⟨g5,g6⟩ h
  refine qs (rq hC [oN rS x1] (fr 14 5) [(18,vB (decide (wr (x4+1)<(x1.length:Int))))] [] [] (aT h (fun c2 h=> ?_) (fun c2 h=> ?_)))
  ·refine qk (qs (qb ?_))
   obtain⟨x6,hx6,x7,hx7,h⟩:=cS h
   exact dk hC bD [oQ (iX rS hx6),oX rS hx6,oC [23,24] [] (aD6 G n (⟨x2,x3⟩:Prog) x6 g5 g6 hx7)] (fr 21 6) [] [(23,some (ar 77 (g5+1) 2 aH x7.arrays)),(24,some (E.tree tG 0 (g6+1) (List.map aD x7.parts) [])),(22,sc [ms 23 (g5+1) 2 aH x7.arrays,ms 24 (g6+1) 2 aD x7.parts])] [(23,true),(24,true)] (rk hC [] [6,19,20] [(6,vI (wr (x4+1)))] [] [] ⟨(x7.arrays,x7.parts,wr (x4+1)),(g5+1,g6+1),h,lS⟩)
  ·refine cM (qs (vj h (fun x_=>aX [(2,V.ref 20 0),(5,V.ref 22 0),(34,vB x_)] [(20,E.cells [V.t T.nilS,V.t T.nilS]),(21,ar 9 1 1 rS x1),(22,E.cells [ms 23 g5 2 aH x2,ms 24 g6 2 aD x3]),(23,ar 77 g5 2 aH x2),(24,E.tree tG 0 g6 (List.map aD x3) [])] [20,21,22,23,24]) (fun j8 h=> ?_) (fun x10 h=> ?_)))
   ·
    refine aS h (fun c3 h=> ?_) (fun c3 h=> ?_)
    ·obtain⟨x9,hx9,h⟩:=bd h
     exact rk hC ([oF c3,oF c3,.z (.b true),.z (.nat 23),.z (.nat 24),oV (yH G hx9)]++rF 3 c3) (fr 27 8) [(34,vB (!decide (x9=text)))] [] [] (lE h)
    ·exact rk hC (rT 5 c3) (fr 27 8) [(34,vB true)] [] [] (lE h)
   ·refine aT h (fun c4 h=> ?_) (fun c4 h=> ?_)
    ·obtain rfl:=so h
     exact rq hC [] [3,35] [(3,vB false)] [(20,sc [V.t T.nilS,V.t T.nilS])] [] (qr eR)
    ·obtain rfl:=so h
     exact qk (qs (qw (lk hC [.fz 23 [] [22],.shd 24,.fz 24 [] [22]] [] [] [(22,sc [vM aH x2,vM aD x3]),(23,none),(24,none)] []) (rk hC [] [3,36] [(3,vB true)] [(20,sc [vM aH x2,vM aD x3])] [] (qr eR))))
theorem rD(G:GS)(n:Nat){r:(List Arr)}(h:pG n=some r):PQ G 173 [] (vM aH r):=by
 unfold pG at h
 refine pq aO Tryz.func173 rfl fun w X hC=> ?_
 obtain rfl:=so h
 exact rq hC [] [0] [] [] [] (rq hC [.z (.int 0),.z (.int 0),.z (.int 0),.z (.int 0)] (fr 0 8) [(0,vM aH [(⟨[65],[6]⟩:Arr),(⟨[66],[4,5]⟩:Arr),(⟨[67],[3]⟩:Arr)])] [] [] (qr eR))
theorem vD{a}{x}{b}{y}{r}(h:jT n a x b y=some r):VQ G 86 [] [V.agg (aQ a),vI x,V.agg (aQ b),vI y] (V.agg [ms 0 1 1 rI r.coefs,vI r.const]) [ar 3 1 1 rI r.coefs]:=by
 unfold jT at h
 refine vq aO Tryz.func86 rfl fun w X β0 hC hg=> ?_
 refine rq hC [.z (.b (true)),.z (.b (true)),.z (.nat 20)] [4,6,8] [(4,V.tp (bJ a)),(6,V.tp (bJ b)),(8,V.ref 20 0)] [(20,sc [V.t T.nilS,vI 0])] [(20,true)] (rq hC [.z (.nat 21)] [9,11,12,13,14,15,16,17,18,19,20] [(9,V.ref 21 0)] [(21,sc [V.t T.nilS,vI (wr ((wr (x*a.const))+(wr (y*b.const))))])] [(21,true)] (qs (rq hC [] [10] [(10,vI 0)] [] [] (qb (qw (lk hC [.growc 21 0 22 3] [] [] [(22,some (ar 3 1 1 rI [])),(21,sc [ms 22 1 1 rI [],vI (wr ((wr (x*a.const))+(wr (y*b.const))))])] [(22,true)]) ?_)))))
 refine bA (γ:=Nat) h (fun x_ g_=>aX [(1,vI x),(3,vI y),(4,V.tp (bJ a)),(6,V.tp (bJ b)),(8,V.ref 20 0),(9,V.ref 21 0),(10,vI x_.2)] [(20,E.cells [V.t T.nilS,vI 0]),(21,E.cells [ms 22 g_ 1 rI x_.1,vI (wr ((wr (x*a.const))+(wr (y*b.const))))]),(22,ar 3 g_ 1 rI x_.1)] [20,21,22]) 1 (lS) ?_
 rintro again4 ⟨x1,x2⟩ g3 h
 refine qs (rq hC [] [21,22] [(22,vB (decide (x2<4)))] [] [] (aT h (fun c1 h=> ?_) (fun c1 h=> ?_)))
 ·refine qk (qs (qb ?_))
  obtain⟨x5,hx5,x6,hx6,x7,hx7,h⟩:=kY h
  exact dk hC bD [oR rI hx5,oR rI hx6,.z (.int 0),oA (aP rI hx7),oQ (bZ (r:=rI) 1 (fun _=>rfl) x1),oQ (bZ (r:=rI) 1 (fun _=>rfl) [wr ((wr (x*x5))+(wr (y*x6)))])] (fr 25 20) [] [(22,some (ar 3 (g3+1) 1 rI x7)),(21,sc [ms 22 (g3+1) 1 rI x7,vI (wr ((wr (x*a.const))+(wr (y*b.const))))])] [] (rk hC [] [10,23,24] [(10,vI (wr (x2+1)))] [] [] ⟨(x7,wr (x2+1)),(g3+1),h,lS⟩)
 ·obtain rfl:=so h
  exact cM (rq hC [] [45] [] [(20,sc [ms 22 g3 1 rI x1,vI (wr ((wr (x*a.const))+(wr (y*b.const))))])] [] (qw (lk hC [.rn 22 0 [] [20,21]] [] [] [(20,sc [ms 0 1 1 rI x1,vI (wr ((wr (x*a.const))+(wr (y*b.const))))]),(21,sc [ms 0 1 1 rI x1,vI (wr ((wr (x*a.const))+(wr (y*b.const))))]),(22,none),(0,some (ar 3 1 1 rI x1))] [(0,true)]) (qr eW)))
theorem aEe{r_a0}{depth}{r}(h:sX n r_a0 depth=some r):VQ G 263 [eL r_a0] [V.ref 0 0,vI depth] (V.agg (yN r.1)) [eL r.2]:=by
 unfold sX at h
 refine vq aO Tryz.func263 rfl fun w X β0 hC hg=> ?_
 refine rq hC [.z (.nat 20)] [4] [(4,V.ref 20 0)] [(20,sc [V.t T.nilS,V.t T.nilS])] [(20,true)] ?_
 obtain⟨x1,hx1,x2,hx2,h⟩:=cS h
 refine rq hC [.z (.int 0),oC [0] [] (aZ G hx1),oC [] [21] (cV G hx2),.z (.nat 22)] [5,9,10,11,12] [(5,V.ref 22 0)] [(0,sR x1.2),(21,some (ar 3 1 1 rI x2.coefs)),(22,sc [ms 21 1 1 rI x2.coefs,vI x2.const])] [(0,true),(21,true),(22,true)] ?_
 obtain⟨x3,hx3,x4,hx4,h⟩:=cS h
 refine rq hC [.z (.int 0),oC [0] [] (aZ G hx3),oC [] [23] (cV G hx4),.z (.nat 24)] [6,13,14,15,16] [(6,V.ref 24 0)] [(0,sR x3.2),(23,some (ar 3 1 1 rI x4.coefs)),(24,sc [ms 23 1 1 rI x4.coefs,vI x4.const])] [(0,true),(23,true),(24,true)] (vj h (fun x_=>aX [(0,V.ref 0 0),(4,V.ref 20 0),(5,V.ref 22 0),(6,V.ref 24 0)] [(0,E.cells [vM rY x_.1,vI x_.2.1]),(20,E.cells [V.t T.nilS,V.t T.nilS]),(22,E.cells [vM rI x_.2.2.1,vI x_.2.2.2.1]),(24,E.cells [vM rI x_.2.2.2.2.1,vI x_.2.2.2.2.2])] [0,20,21,22,23,24]) (fun j5 h=> ?_) ?_)
 ·
  refine vj h (fun x_=>aX [(0,V.ref 0 0),(1,vI depth),(4,V.ref 20 0),(5,V.ref 22 0),(6,V.ref 24 0),(23,vB x_.2.2)] [(0,E.cells [vM rY x_.1,vI x_.2.1]),(20,E.cells [V.t T.nilS,V.t T.nilS]),(21,ar 3 1 1 rI x2.coefs),(22,E.cells [ms 21 1 1 rI x2.coefs,vI x2.const]),(23,ar 3 1 1 rI x4.coefs),(24,E.cells [ms 23 1 1 rI x4.coefs,vI x4.const])] [0,20,21,22,23,24]) (fun j6 h=> ?_) ?_
  ·
   refine aS h (fun c1 h=> ?_) (fun c1 h=> ?_)
   ·exact rk hC (rF 4 c1) (fr 17 7) [(23,vB false)] [] [] (lE h)
   ·obtain⟨x7,hx7,h⟩:=bd h
    exact rk hC [oT c1,oT c1,oC [0] [] (bK G hx7),oT c1,oT c1] (fr 17 7) [(23,vB (decide (x7.1=0)))] [(0,sR x7.2)] [(0,true)] (lE h)
  ·rintro⟨x8,x9,x10⟩ h
   refine aT h (fun c2 h=> ?_) (fun c2 h=> ?_)
   ·obtain⟨x11,hx11,h⟩:=bd h
    refine rq hC [oC [0] [] (bK G hx11)] [7,24,25,26] [(7,vI x11.1)] [(0,sR x11.2)] [(0,true)] ?_
    obtain⟨x12,hx12,h⟩:=bd h
    refine rq hC [oC [0] [] (bK G hx12)] [27,28,29] [(29,vB (decide (x12.1=0)))] [(0,sR x12.2)] [(0,true)] (aT h (fun c3 h=> ?_) (fun c3 h=> ?_))
    ·obtain⟨x13,hx13,h⟩:=bd h
     exact rk hC [oC [] [25] (qB G hx13)] [30,31] [] [(25,some (ar 3 1 1 rI x13.coefs)),(22,sc [ms 25 1 1 rI x13.coefs,vI x13.const])] [(25,true)] ⟨(x12.2.b,x12.2.p,x13.coefs,x13.const,x4.coefs,x4.const),h,((lk hC [.fz 23 [] [24],.fz 25 [] [22]] [] [] [(24,some (E.cells (aQ x4))),(23,none),(22,some (E.cells (aQ x13))),(25,none)] []).trans (lS))⟩
    ·obtain⟨x14,hx14,x15,hx15,x16,hx16,h⟩:=kY h
     exact rk hC [oC [] [25] (qB G hx14),oC [] [26] (cV G hx15),.z (.at 2),.z (.fz 25 [33] []),.z (.at 2),.z (.fz 26 [34] []),oC [] [27] (vD G hx16)] (fr 32 4) [] [(25,none),(26,none),(27,some (ar 3 1 1 rI x16.coefs)),(24,sc [ms 27 1 1 rI x16.coefs,vI x16.const])] [(25,true),(26,true),(27,true)] ⟨(x12.2.b,x12.2.p,x2.coefs,x2.const,x16.coefs,x16.const),h,((lk hC [.fz 21 [] [22],.fz 27 [] [24]] [] [] [(22,some (E.cells (aQ x2))),(21,none),(24,some (E.cells (aQ x16))),(27,none)] []).trans (lS))⟩
   ·exact qk ⟨(x8,x9,x2.coefs,x2.const,x4.coefs,x4.const),h,((lk hC [.fz 21 [] [22],.fz 23 [] [24]] [] [] [(22,some (E.cells (aQ x2))),(21,none),(24,some (E.cells (aQ x4))),(23,none)] []).trans (lS))⟩
 ·rintro⟨x17,x18,x19,x20,x21,x22⟩ h
  refine rq hC [.z (.int 1),.z (.nat 25),.z (.int 1),.z (.nat 26),.z (.nat 27)] [8,36,37,38,39,40] [(8,V.ref 27 0)] [(25,some (ar 65 1 2 aB [(⟨x19,x20⟩:Affine)])),(26,some (ar 65 1 2 aB [(⟨x21,x22⟩:Affine)])),(27,sc [ms 25 1 2 aB [(⟨x19,x20⟩:Affine)],ms 26 1 2 aB [(⟨x21,x22⟩:Affine)]])] [(25,true),(26,true),(27,true)] ?_
  obtain⟨j23,hj23,h⟩:=uW h
  refine gN (γ:=Nat×Nat) (j:=j23) (r:=r) (fun x_ g_=>aX [(4,V.ref 20 0),(8,V.ref 27 0)] [(0,E.cells [vM rY x_.1,vI x_.2.1]),(20,E.cells [V.t T.nilS,V.t T.nilS]),(22,E.cells [vM rI x19,vI x20]),(24,E.cells [vM rI x21,vI x22]),(25,ar 65 g_.1 2 aB x_.2.2.1),(26,ar 65 g_.2 2 aB x_.2.2.2),(27,E.cells [ms 25 g_.1 2 aB x_.2.2.1,ms 26 g_.2 2 aB x_.2.2.2])] [0,20,21,22,23,24,25,26,27]) ?_ ?_
  ·
   obtain⟨x24,hx24,h⟩:=bd h
   refine rq hC [oC [0] [] (bK G hx24)] [41,42] [(42,vI x24.1)] [(0,sR x24.2)] [(0,true)] (qb (rq hC [] [43,44] [(43,vB (decide (x24.1=0)))] [] [] (aT h (fun c4 h=> ?_) (fun c4 h=> ?_))))
   ·obtain⟨x25,hx25,x26,hx26,x27,hx27,h⟩:=kY h
    exact dk hC bD [.z (.int 0),oC [0] [] (aZ G hx25),oC [] [28] (cV G hx26),.z (.at 4),.z (.fz 28 [50] []),.z (.int 0),oA (aP aB hx27),oQ (bZ (r:=aB) 2 bC [(⟨x21,x22⟩:Affine)]),oQ (bZ (r:=aB) 2 bC [x26])] (fr 45 9) [] [(0,sR x25.2),(28,none),(26,some (ar 65 2 2 aB x27)),(27,sc [ms 25 1 2 aB [(⟨x19,x20⟩:Affine)],ms 26 2 2 aB x27])] [(0,true),(28,true)] ⟨(x25.2.b,x25.2.p,[(⟨x19,x20⟩:Affine)],x27),(1,2),h,lS⟩
   ·refine rq hC [] [54,55] [(54,vB (decide (x24.1=1)))] [] [] (aT h (fun c5 h=> ?_) (fun c5 h=> ?_))
    ·obtain⟨x28,hx28,x29,hx29,x30,hx30,h⟩:=kY h
     exact dk hC bD [.z (.int 0),oC [0] [] (aZ G hx28),oC [] [28] (cV G hx29),.z (.at 4),.z (.fz 28 [61] []),.z (.int 0),oA (aP aB hx30),oQ (bZ (r:=aB) 2 bC [(⟨x19,x20⟩:Affine)]),oQ (bZ (r:=aB) 2 bC [x29])] (fr 56 9) [] [(0,sR x28.2),(28,none),(25,some (ar 65 2 2 aB x30)),(27,sc [ms 25 2 2 aB x30,ms 26 1 2 aB [(⟨x21,x22⟩:Affine)]])] [(0,true),(28,true)] ⟨(x28.2.b,x28.2.p,x30,[(⟨x21,x22⟩:Affine)]),(2,1),h,lS⟩
    ·exact qk ⟨(x24.2.b,x24.2.p,[(⟨x19,x20⟩:Affine)],[(⟨x21,x22⟩:Affine)]),(1,1),h,lS⟩
  ·rintro⟨x31,x32,x33,x34⟩ ⟨g35,g36⟩ h
   subst hj23
   obtain rfl:=so h
   exact rq hC [.z (.at 2),.z (.fz 25 [] [27]),.z (.at 2),.z (.fz 26 [] [27])] [65] [] [(27,sc [vM aB x33,vM aB x34]),(25,none),(26,none),(20,sc [vM aB x33,vM aB x34])] [] (qr eW)
theorem aEd{r_a0}{r}(h:sW n r_a0=some r):VQ G 228 [eL r_a0] [V.ref 0 0] (ms 1 1 2 aC r.1) [eL r.2,ar 58 1 2 aC r.1]:=by
 unfold sW at h
 refine vq aO Tryz.func228 rfl fun w X β0 hC hg=> ?_
 refine rq hC [] [2] [] [] [] (rq hC [.z (.nat 20)] [3,5] [(3,ms 20 1 2 aC [])] [(20,some (ar 58 1 2 aC []))] [(20,true)] (qs ?_))
 obtain⟨x1,hx1,h⟩:=bd h
 refine rq hC [.z (.int 0),oC [0] [] (aZ G hx1)] [4,6,7,8] [(4,vI x1.1)] [(0,sR x1.2)] [(0,true)] (qb (bA (γ:=Nat) h (fun x_ g_=>aX [(0,V.ref 0 0),(3,ms 20 g_ 2 aC x_.2.2.1),(4,vI x_.2.2.2)] [(0,E.cells [vM rY x_.1,vI x_.2.1]),(20,ar 58 g_ 2 aC x_.2.2.1)] [0,20]) 1 (lS) ?_))
 rintro again7 ⟨x2,x3,x4,x5⟩ g6 h
 refine qs (rq hC [] [9,10] [(10,vB (decide ((0:Int)<x5)))] [] [] (aT h (fun c1 h=> ?_) (fun c1 h=> ?_)))
 ·refine qk (qs (qb ?_))
  obtain⟨x8,hx8,x9,hx9,h⟩:=cS h
  exact rk hC [oN aC x4,oC [0] [] (aEe G hx8),.z (.int 0),oA (aP aC hx9),oQ (bZ (r:=aC) 2 dO x4),oQ (bZ (r:=aC) 2 dO [x8.1])] [3,13,14,15,16,17,18,19] [(3,ms 20 (g6+1) 2 aC x9)] [(0,sR x8.2),(20,some (ar 58 (g6+1) 2 aC x9))] [(0,true)] (rk hC [] [4,11,12] [(4,vI (wr (x5-1)))] [] [] ⟨(x8.2.b,x8.2.p,x9,wr (x5-1)),(g6+1),h,lS⟩)
 ·obtain rfl:=so h
  exact cM (rq hC [] [2,20] [(2,ms 20 g6 2 aC x4)] [] [] (qw (lk hC [.ren 2 20 1] [2] [(2,ms 1 1 2 aC x4)] [(1,some (ar 58 1 2 aC x4)),(20,none)] [(1,true)]) (qr eW)))
theorem P9{r_a0}{depth}{r}(h:nM n r_a0 depth=some r):VQ G 264 [eL r_a0] [V.ref 0 0,vI depth] (V.agg (dH r.1)) [eL r.2]:=by
 unfold nM at h
 refine vq aO Tryz.func264 rfl fun w X β0 hC hg=> ?_
 refine rq hC [.z (.nat 20)] [4] [(4,V.ref 20 0)] [(20,sc [vS [],V.t T.nilS])] [(20,true)] ?_
 obtain⟨x1,hx1,h⟩:=bd h
 refine rq hC [.z (.int 0),oC [0] [] (mY G hx1),.z (.nat 21)] [5,10,11,12,13] [(5,V.ref 21 0)] [(0,sR x1.2),(21,sc [vS x1.1,V.t T.nilS])] [(0,true),(21,true)] (rq hC [] [6] [(6,vI 1)] [] [] (vj h (fun x_=>aX [(0,V.ref 0 0),(1,vI depth),(4,V.ref 20 0),(5,V.ref 21 0),(6,vI x_)] [(0,eL x1.2),(20,E.cells [vS [],V.t T.nilS]),(21,E.cells [vS x1.1,V.t T.nilS])] [0,20,21]) (fun j2 h=> ?_) (fun x3 h=> ?_)))
 ·
  refine rq hC [] [14,15,16] [(16,vB (decide (x1.1=[66])))] [] [] (aT h (fun c1 h=> ?_) (fun c1 h=> ?_))
  ·exact rk hC [] [6] [(6,vI 2)] [] [] (lE h)
  ·exact qk (lE h)
 ·refine qs (rq hC [] [7] [(7,vI 0)] [] [] (qb (qw (lk hC [.growc 21 1 22 65] [] [] [(22,some (ar 65 1 2 aB [])),(21,sc [vS x1.1,ms 22 1 2 aB []])] [(22,true)]) (bA (γ:=Nat) h (fun x_ g_=>aX [(0,V.ref 0 0),(1,vI depth),(4,V.ref 20 0),(5,V.ref 21 0),(6,vI x3),(7,vI x_.2.2.2)] [(0,E.cells [vM rY x_.1,vI x_.2.1]),(20,E.cells [vS [],V.t T.nilS]),(21,E.cells [vS x1.1,ms 22 g_ 2 aB x_.2.2.1]),(22,ar 65 g_ 2 aB x_.2.2.1)] [0,20,21,22]) 1 (lS) ?_))))
  rintro again9 ⟨x4,x5,x6,x7⟩ g8 h
  refine qs (rq hC [] [17,18,19] [(19,vB (decide (x7<x3)))] [] [] (aT h (fun c2 h=> ?_) (fun c2 h=> ?_)))
  ·refine qk (qs (qb ?_))
   obtain⟨x10,hx10,x11,hx11,h⟩:=cS h
   refine rq hC [.z (.int 0),oC [0] [] (aZ G hx10),oC [] [23] (cV G hx11),.z (.nat 24)] [8,22,23,24,25] [(8,V.ref 24 0)] [(0,sR x10.2),(23,some (ar 3 1 1 rI x11.coefs)),(24,sc [ms 23 1 1 rI x11.coefs,vI x11.const])] [(0,true),(23,true),(24,true)] (vj h (fun x_=>aX [(0,V.ref 0 0),(1,vI depth),(4,V.ref 20 0),(5,V.ref 21 0),(6,vI x3),(7,vI x7),(8,V.ref 24 0)] [(0,E.cells [vM rY x_.1,vI x_.2.1]),(20,E.cells [vS [],V.t T.nilS]),(21,E.cells [vS x1.1,ms 22 g8 2 aB x6]),(22,ar 65 g8 2 aB x6),(24,E.cells [vM rI x_.2.2.1,vI x_.2.2.2])] [0,20,21,22,23,24]) (fun j12 h=> ?_) ?_)
   ·
    refine vj h (fun x_=>aX [(0,V.ref 0 0),(1,vI depth),(4,V.ref 20 0),(5,V.ref 21 0),(6,vI x3),(7,vI x7),(8,V.ref 24 0),(32,vB x_.2.2)] [(0,E.cells [vM rY x_.1,vI x_.2.1]),(20,E.cells [vS [],V.t T.nilS]),(21,E.cells [vS x1.1,ms 22 g8 2 aB x6]),(22,ar 65 g8 2 aB x6),(23,ar 3 1 1 rI x11.coefs),(24,E.cells [ms 23 1 1 rI x11.coefs,vI x11.const])] [0,20,21,22,23,24]) (fun j13 h=> ?_) ?_
    ·
     refine aS h (fun c3 h=> ?_) (fun c3 h=> ?_)
     ·exact rk hC (rF 4 c3) (fr 26 7) [(32,vB false)] [] [] (lE h)
     ·obtain⟨x14,hx14,h⟩:=bd h
      exact rk hC [oT c3,oT c3,oC [0] [] (bK G hx14),oT c3,oT c3] (fr 26 7) [(32,vB (decide ((0:Int)<x14.1)))] [(0,sR x14.2)] [(0,true)] (lE h)
    ·rintro⟨x15,x16,x17⟩ h
     refine aT h (fun c4 h=> ?_) (fun c4 h=> ?_)
     ·obtain⟨x18,hx18,h⟩:=bd h
      refine rq hC [oC [0] [] (bK G hx18)] [9,33,34,35] [(9,vI x18.1)] [(0,sR x18.2)] [(0,true)] ?_
      obtain⟨x19,hx19,x20,hx20,x21,hx21,h⟩:=kY h
      obtain⟨x22,hx22,x23,hx23,h⟩:=cS h
      exact rk hC [oC [] [25] (qB G hx19),.z (.int 0),oC [0] [] (aZ G hx20),.z (.int 0),oC [0] [] (aZ G hx21),oC [] [26] (cV G hx22),.z (.at 2),.z (.fz 25 [37] []),.z (.at 2),.z (.fz 26 [44] []),oC [] [27] (vD G hx23)] (fr 36 10) [] [(25,none),(0,sR x21.2),(26,none),(27,some (ar 3 1 1 rI x23.coefs)),(24,sc [ms 27 1 1 rI x23.coefs,vI x23.const])] [(25,true),(0,true),(0,true),(26,true),(27,true)] ⟨(x21.2.b,x21.2.p,x23.coefs,x23.const),h,((lk hC [.fz 27 [] [24]] [] [] [(24,some (E.cells (aQ x23))),(27,none)] []).trans (lS))⟩
     ·exact qk ⟨(x15,x16,x11.coefs,x11.const),h,((lk hC [.fz 23 [] [24]] [] [] [(24,some (E.cells (aQ x11))),(23,none)] []).trans (lS))⟩
   ·rintro⟨x24,x25,x26,x27⟩ h
    obtain⟨x28,hx28,h⟩:=bd h
    exact rk hC [.z (.int 0),oA (aP aB hx28),oQ (bZ (r:=aB) 2 bC x6),oQ (bZ (r:=aB) 2 bC [(⟨x26,x27⟩:Affine)])] (fr 46 6) [] [(22,some (ar 65 (g8+1) 2 aB x28)),(21,sc [vS x1.1,ms 22 (g8+1) 2 aB x28])] [] (rk hC [] [7,20,21] [(7,vI (wr (x7+1)))] [] [] ⟨(x24,x25,x28,wr (x7+1)),(g8+1),h,lS⟩)
  ·obtain rfl:=so h
   exact cM (rq hC [.z (.at 2),.z (.fz 22 [] [21])] [52] [] [(21,sc [vS x1.1,vM aB x6]),(22,none),(20,sc [vS x1.1,vM aB x6])] [] (qr eW))
theorem aEi{r_a0}{depth}{r}(h:pK n r_a0 depth=some r):VQ G 280 [eL r_a0] [V.ref 0 0,vI depth] (V.agg (aQ r.1)) [eL r.2]:=by
 unfold pK at h
 refine vq aO Tryz.func280 rfl fun w X β0 hC hg=> ?_
 refine rq hC [.z (.nat 20)] [4] [(4,V.ref 20 0)] [(20,sc [V.t T.nilS,vI 0])] [(20,true)] ?_
 obtain⟨x1,hx1,x2,hx2,h⟩:=cS h
 refine rq hC [.z (.int 0),oC [0] [] (aZ G hx1),oC [] [21] (cV G hx2),.z (.nat 22)] [5,7,8,9,10] [(5,V.ref 22 0)] [(0,sR x1.2),(21,some (ar 3 1 1 rI x2.coefs)),(22,sc [ms 21 1 1 rI x2.coefs,vI x2.const])] [(0,true),(21,true),(22,true)] (qs (rq hC [] [6] [(6,vI 0)] [] [] (qb (bA (γ:=Nat) h (fun x_ g_=>aX [(0,V.ref 0 0),(1,vI depth),(4,V.ref 20 0),(5,V.ref 22 0),(6,vI x_.2.2.2)] [(0,E.cells [vM rY x_.1,vI x_.2.1]),(20,E.cells [V.t T.nilS,vI 0]),(21,ar 3 g_ 1 rI x_.2.2.1),(22,E.cells [ms 21 g_ 1 rI x_.2.2.1,vI x2.const])] [0,20,21,22]) 1 (lS) ?_))))
 rintro again8 ⟨x3,x4,x5,x6⟩ g7 h
 refine qs (rq hC [] [11,12,13] [(13,vB (decide (x6<depth)))] [] [] (aT h (fun c1 h=> ?_) (fun c1 h=> ?_)))
 ·refine qk (qs (qb ?_))
  obtain⟨x9,hx9,x10,hx10,x11,hx11,h⟩:=kY h
  exact dk hC bD [.z (.int 0),oC [0] [] (aZ G hx9),oQ (iX rI hx10),oX rI hx10,.z (.rows (List.map rI x11)),oQ (str rI hx11)] (fr 16 7) [] [(0,sR x9.2),(21,some (ar 3 g7 1 rI x11))] [(0,true)] (qw (zQ hC [.lenc 22 0 (List.map rI x11).length] [] [] [(22,sc [ms 21 g7 1 rI x11,vI x2.const])] [] (a1 (lI rI hx11)) (by kernel_rfl)) (rk hC [] [6,14,15] [(6,vI (wr (x6+1)))] [] [] ⟨(x9.2.b,x9.2.p,x11,wr (x6+1)),g7,h,lS⟩))
 ·obtain rfl:=so h
  exact cM (rq hC [.z (.at 2),.z (.fz 21 [] [22])] [23] [] [(22,sc [vM rI x5,vI x2.const]),(21,none),(20,sc [vM rI x5,vI x2.const])] [] (qr eW))
theorem aCo(G:GS): ∀(n:Nat) (r_a0:L16Rd) (depth:Int) (levels:Int) {r:Expr×L16Rd} (h:s_l3Value n r_a0 depth levels=some r),VQ G 265 [eL r_a0] [V.ref 0 0,vI depth,vI levels] (V.agg (fM r.1)) [eL r.2]:=by
 intro n
 induction n with
 |zero=>intro r_a0 depth levels r h;rw [s_l3Value.eq_def] at h;cases h
 |succ n ih=>
  intro r_a0 depth levels r h
  rw [s_l3Value.eq_def] at h;dsimp only at h
  refine vq aO Tryz.func265 rfl fun w X β0 hC hg=> ?_
  refine rq hC [.z (.nat 20)] [6] [(6,V.ref 20 0)] [(20,sc [vI 0,vI 0,V.t T.nilS,vI 0,vS [],V.t T.nilS,V.t T.nilS])] [(20,true)] (qs (vj h (fun x_=>aX [(0,V.ref 0 0),(1,vI depth),(2,vI levels),(6,V.ref 20 0),(15,vB x_.2.2)] [(0,E.cells [vM rY x_.1,vI x_.2.1]),(20,E.cells [vI 0,vI 0,V.t T.nilS,vI 0,vS [],V.t T.nilS,V.t T.nilS])] [0,20]) (fun j1 h=> ?_) ?_))
  ·
   refine aS h (fun c1 h=> ?_) (fun c1 h=> ?_)
   ·obtain⟨x2,hx2,h⟩:=bd h
    exact rk hC [oF c1,oF c1,oC [0] [] (bK G hx2),oF c1,oF c1] (fr 9 7) [(15,vB (decide (x2.1=0)))] [(0,sR x2.2)] [(0,true)] (lE h)
   ·exact rk hC (rT 4 c1) (fr 9 7) [(15,vB true)] [] [] (lE h)
  ·rintro⟨x3,x4,x5⟩ h
   refine aT h (fun c2 h=> ?_) (fun c2 h=> ?_)
   ·refine qs ?_
    obtain⟨x6,hx6,h⟩:=bd h
    refine rq hC [oC [0] [] (bK G hx6)] [16,17] [(17,vI x6.1)] [(0,sR x6.2)] [(0,true)] (qb (rq hC [] [18,19] [(18,vB (decide (x6.1=0)))] [] [] (aT h (fun c3 h=> ?_) (fun c3 h=> ?_))))
    ·obtain⟨x7,hx7,h⟩:=bd h
     obtain rfl:=so h
     exact rq hC [.z (.int 0),oC [0] [] (aZ G hx7)] (fr 20 4) [] [(0,sR x7.2),(20,sc [vI 1,vI x7.1,V.t T.nilS,vI 0,vS [],V.t T.nilS,V.t T.nilS])] [(0,true)] (qr eW)
    ·refine rq hC [] [24,25] [(24,vB (decide (x6.1=1)))] [] [] (aT h (fun c4 h=> ?_) (fun c4 h=> ?_))
     ·obtain⟨x8,hx8,h⟩:=bd h
      obtain rfl:=so h
      exact rq hC [oC [0] [] (aEi G hx8)] (fr 26 4) [] [(0,sR x8.2),(20,sc [vI 2,vI 0,vM rI x8.1.coefs,vI x8.1.const,vS [],V.t T.nilS,V.t T.nilS])] [(0,true)] (qr eW)
     ·refine qk ?_
      obtain⟨x9,hx9,h⟩:=bd h
      obtain rfl:=so h
      exact rq hC [oC [0] [] (P9 G hx9)] (fr 30 4) [] [(0,sR x9.2),(20,sc [vI 3,vI 0,V.t T.nilS,vI 0,vS x9.1.array,vM aB x9.1.subs,V.t T.nilS])] [(0,true)] (qr eW)
   ·refine qk ?_
    obtain⟨x10,hx10,h⟩:=bd h
    refine rq hC [.z (.int 0),oC [0] [] (aZ G hx10),.z (.nat 21)] [7,34,35,36,37] [(7,V.ref 21 0)] [(0,sR x10.2),(21,sc [vI x10.1,vI 0,V.t T.nilS,vI 0,vS [],V.t T.nilS,V.t T.nilS])] [(0,true),(21,true)] (qs (rq hC [] [8] [(8,vI 0)] [] [] (qb (qw (lk hC [.growc 21 6 22 85] [] [] [(22,some (ar 85 1 7 aM [])),(21,sc [vI x10.1,vI 0,V.t T.nilS,vI 0,vS [],V.t T.nilS,ms 22 1 7 aM []])] [(22,true)]) (bA (γ:=Nat) h (fun x_ g_=>aX [(0,V.ref 0 0),(1,vI depth),(2,vI levels),(6,V.ref 20 0),(7,V.ref 21 0),(8,vI x_.2.2.2)] [(0,E.cells [vM rY x_.1,vI x_.2.1]),(20,E.cells [vI 0,vI 0,V.t T.nilS,vI 0,vS [],V.t T.nilS,V.t T.nilS]),(21,E.cells [vI x10.1,vI 0,V.t T.nilS,vI 0,vS [],V.t T.nilS,ms 22 g_ 7 aM x_.2.2.1]),(22,ar 85 g_ 7 aM x_.2.2.1)] [0,20,21,22]) 1 (lS) ?_)))))
    rintro again16 ⟨x11,x12,x13,x14⟩ g15 h
    refine qs (rq hC [] [38,39] [(39,vB (decide (x14<2)))] [] [] (aT h (fun c5 h=> ?_) (fun c5 h=> ?_)))
    ·refine qk (qs (qb ?_))
     obtain⟨x17,hx17,x18,hx18,h⟩:=cS h
     exact dk hC bD [oC [0] [] (ih (⟨x11,x12⟩:L16Rd) depth (wr (levels-1)) hx17),.z (.int 2),.z (.rows (List.map aM [x17.1])),oQ (yB x17.1),oA (aP aM hx18),oQ (bZ (r:=aM) 7 gG x13),oQ (bZ (r:=aM) 7 gG [x17.1])] (fr 42 10) [] [(0,sR x17.2),(22,some (ar 85 (g15+1) 7 aM x18)),(21,sc [vI x10.1,vI 0,V.t T.nilS,vI 0,vS [],V.t T.nilS,ms 22 (g15+1) 7 aM x18])] [(0,true)] (rk hC [] [8,40,41] [(8,vI (wr (x14+1)))] [] [] ⟨(x17.2.b,x17.2.p,x18,wr (x14+1)),(g15+1),h,lS⟩)
    ·obtain rfl:=so h
     exact cM (rq hC [.z (.at 2),.z (.fz 22 [] [21])] [52] [] [(21,sc [vI x10.1,vI 0,V.t T.nilS,vI 0,vS [],V.t T.nilS,vM aM x13]),(22,none),(20,sc [vI x10.1,vI 0,V.t T.nilS,vI 0,vS [],V.t T.nilS,vM aM x13])] [] (qr eW))
theorem aEa{r_a0}{depth}{r}(h:sU n r_a0 depth=some r):VQ G 229 [eL r_a0] [V.ref 0 0,vI depth] (V.agg (d4 r.1)) [eL r.2]:=by
 unfold sU at h
 refine vq aO Tryz.func229 rfl fun w X β0 hC hg=> ?_
 refine rq hC [.z (.nat 20)] [4] [(4,V.ref 20 0)] [(20,sc [vS [],V.t T.nilS,vI 0,vI 0,V.t T.nilS,vI 0,vS [],V.t T.nilS,V.t T.nilS])] [(20,true)] ?_
 obtain⟨x1,hx1,x2,hx2,x3,hx3,h⟩:=kY h
 refine rq hC [oC [0] [] (P9 G hx1),.z (.int 0),oC [0] [] (aZ G hx2),oC [0] [] (aCo G n x2.2 depth x2.1 hx3),.z (.nat 21)] (fr 5 11) [(5,V.ref 21 0)] [(0,sR x3.2),(21,sc [vS x1.1.array,vM aB x1.1.subs,vI x3.1.kind,vI x3.1.num,vM rI x3.1.index.coefs,vI x3.1.index.const,vS x3.1.read.array,vM aB x3.1.read.subs,vM aM x3.1.kids])] [(0,true),(0,true),(0,true),(21,true)] (qs ?_)
 obtain⟨x4,hx4,h⟩:=bd h
 refine rq hC [oV (o6 G hx4)] [16,17,18] [(18,vB x4)] [] [] (aT h (fun c1 h=> ?_) (fun c1 h=> ?_))
 ·obtain rfl:=so h
  exact rq hC [] [19] [] [(20,sc [vS x1.1.array,vM aB x1.1.subs,vI x3.1.kind,vI x3.1.num,vM rI x3.1.index.coefs,vI x3.1.index.const,vS x3.1.read.array,vM aB x3.1.read.subs,vM aM x3.1.kids])] [] (qr eW)
 ·refine qk ?_
  obtain⟨x5,hx5,h⟩:=bd h
  obtain rfl:=so h
  exact rq hC [oC [] [22] (lT G n hx5),.z (.at 5),.z (.fz 22 [20] []),.z (.int 0)] (fr 20 5) [] [(22,none),(20,sc [vS [65],vM aB [x5],vI 1,vI 1,V.t T.nilS,vI 0,vS [],V.t T.nilS,V.t T.nilS])] [(22,true)] (qr eW)
theorem aCy{sizes}{r}(h:uC n sizes=some r):VQ G 230 [] [vM rI sizes] (V.tup [ms 0 1 2 aC r.1,vB r.2]) [ar 58 1 2 aC r.1]:=by
 unfold uC at h
 refine vq aO Tryz.func230 rfl fun w X β0 hC hg=> ?_
 refine rq hC [] [2,3] [] [] [] (rq hC [.z (.nat 20)] [4,6] [(4,ms 20 1 2 aC [])] [(20,some (ar 58 1 2 aC []))] [(20,true)] (qs (rq hC [oN rI sizes] [7,8,9] [(9,vB (decide ((4:Int)<(sizes.length:Int))))] [] [] (aT h (fun c1 h=> ?_) (fun c1 h=> ?_)))))
 ·obtain rfl:=so h
  exact rq hC [] [2,3,10] [(2,ms 20 1 2 aC []),(3,vB false)] [] [] (qw (lk hC [.ren 2 20 0] [2] [(2,ms 0 1 2 aC [])] [(0,some (ar 58 1 2 aC [])),(20,none)] [(0,true)]) (qr eW))
 ·refine qk (qs (rq hC [] [5] [(5,vI 0)] [] [] (qb (bA (γ:=Nat) h (fun x_ g_=>aX [(0,vM rI sizes),(4,ms 20 g_ 2 aC x_.1),(5,vI x_.2)] [(20,ar 58 g_ 2 aC x_.1)] [20]) 1 (lS) ?_))))
  rintro again4 ⟨x1,x2⟩ g3 h
  refine qs (rq hC [oN rI sizes] (fr 11 4) [(14,vB (decide (x2<(sizes.length:Int))))] [] [] (aT h (fun c2 h=> ?_) (fun c2 h=> ?_)))
  ·refine qk (qs (qb (qs (vj h (fun x_=>aX [(0,vM rI sizes),(4,ms 20 g3 2 aC x1),(5,vI x2),(28,vB x_)] [(20,ar 58 g3 2 aC x1)] [20]) (fun j5 h=> ?_) (fun x7 h=> ?_)))))
   ·
    obtain⟨x6,hx6,h⟩:=bd h
    refine aS h (fun c3 h=> ?_) (fun c3 h=> ?_)
    ·exact rk hC ([oR rI hx6]++rF 3 c3++[oR rI hx6]++rF 3 c3) (fr 17 12) [(28,vB (decide ((99:Int)<x6)))] [] [] (lE h)
    ·exact rk hC ([oR rI hx6]++rT 6 c3) (fr 17 12) [(28,vB true)] [] [] (lE h)
   ·refine aT h (fun c4 h=> ?_) (fun c4 h=> ?_)
    ·obtain rfl:=so h
     exact rq hC [.z (.nat 21)] [2,3,29] [(2,ms 21 1 2 aC []),(3,vB false)] [(21,some (ar 58 1 2 aC []))] [(21,true)] (qw (lk hC [.ren 2 21 0] [2] [(2,ms 0 1 2 aC [])] [(0,some (ar 58 1 2 aC [])),(21,none)] [(0,true)]) (qr eW))
    ·refine qk ?_
     obtain⟨x8,hx8,x9,hx9,x10,hx10,h⟩:=kY h
     obtain⟨x11,hx11,h⟩:=bd h
     exact dk hC bD [oC [] [21] (lT G n hx8),.z (.at 11),.z (.fz 21 [31] []),.z (.int 0),oR rI hx9,oC [] [22] (cV G hx10),.z (.at 5),.z (.fz 22 [37] []),.z (.int 0),.z (.int 0),oA (aP aC hx11),oQ (bZ (r:=aC) 2 dO x1),oQ (bZ (r:=aC) 2 dO [(⟨[x8],[x10]⟩:Loop)])] [4,30,31,32,33,34,35,36,37,38,39,40,41] [(4,ms 20 (g3+1) 2 aC x11)] [(21,none),(22,none),(20,some (ar 58 (g3+1) 2 aC x11))] [(21,true),(22,true)] (rk hC [] [5,15,16] [(5,vI (wr (x2+1)))] [] [] ⟨(x11,wr (x2+1)),(g3+1),h,lS⟩)
  ·obtain rfl:=so h
   exact cM (rq hC [] [2,3,42] [(2,ms 20 g3 2 aC x1),(3,vB true)] [] [] (qw (lk hC [.ren 2 20 0] [2] [(2,ms 0 1 2 aC x1)] [(0,some (ar 58 1 2 aC x1)),(20,none)] [(0,true)]) (qr eW)))
theorem aD9{r_a0}{r}(h:sS n r_a0=some r):VQ G 174 [eL r_a0] [V.ref 0 0] (V.agg (Z5 r.1)) [eL r.2]:=by
 unfold sS at h
 refine vq aO Tryz.func174 rfl fun w X β0 hC hg=> ?_
 refine rq hC [.z (.nat 20)] [2] [(2,V.ref 20 0)] [(20,sc [V.t T.nilS,V.t T.nilS])] [(20,true)] (qs (rq hC [] [3] [(3,vI 0)] [] [] (qb (jP h (fun x_=>aX [(0,V.ref 0 0),(2,V.ref 20 0),(3,vI x_.2.2)] [(0,E.cells [vM rY x_.1,vI x_.2.1]),(20,E.cells [V.t T.nilS,V.t T.nilS])] [0,20]) lS ?_))))
 rintro again4 ⟨x1,x2,x3⟩ h
 refine qs (rq hC [] [16,17] [(17,vB (decide (x3<4)))] [] [] (aT h (fun c1 h=> ?_) (fun c1 h=> ?_)))
 ·refine qk (qs (qb ?_))
  obtain⟨x5,hx5,h⟩:=bd h
  refine rq hC [oC [0] [21] (aEd G hx5),.z (.nat 22)] [4,20,21,22] [(4,V.ref 22 0)] [(21,some (ar 58 1 2 aC x5.1)),(0,sR x5.2),(22,sc [ms 21 1 2 aC x5.1,V.t T.nilS])] [(0,true),(21,true),(22,true)] (qs ?_)
  obtain⟨x6,hx6,h⟩:=bd h
  refine rq hC [.z (.int 0),oC [0] [] (aZ G hx6)] [5,23,24,25] [(5,vI x6.1)] [(0,sR x6.2)] [(0,true)] (qb (qw (lk hC [.fz 21 [] [22]] [] [] [(22,sc [vM aC x5.1,V.t T.nilS]),(21,none)] []) (qw (lk hC [.growc 22 1 23 87] [] [] [(23,some (ar 87 1 9 aJ [])),(22,sc [vM aC x5.1,ms 23 1 9 aJ []])] [(23,true)]) (bA (γ:=Nat) h (fun x_ g_=>aX [(0,V.ref 0 0),(2,V.ref 20 0),(3,vI x3),(4,V.ref 22 0),(5,vI x_.2.2.2.2)] [(0,E.cells [vM rY x_.1,vI x_.2.1]),(20,E.cells [V.t T.nilS,V.t T.nilS]),(22,E.cells [vM aC x_.2.2.1,ms 23 g_ 9 aJ x_.2.2.2.1]),(23,ar 87 g_ 9 aJ x_.2.2.2.1)] [0,20,21,22,23]) 1 (lS) ?_))))
  rintro again13 ⟨x7,x8,x9,x10,x11⟩ g12 h
  refine qs (rq hC [] [26,27] [(27,vB (decide ((0:Int)<x11)))] [] [] (aT h (fun c2 h=> ?_) (fun c2 h=> ?_)))
  ·refine qk ?_
   obtain⟨j14,hj14,h⟩:=uW h
   refine gN (γ:=Nat) (j:=j14) (r:=r) (fun x_ g_=>aX [(0,V.ref 0 0),(2,V.ref 20 0),(3,vI x3),(4,V.ref 22 0),(5,vI x11)] [(0,E.cells [vM rY x_.1,vI x_.2.1]),(20,E.cells [V.t T.nilS,V.t T.nilS]),(22,E.cells [vM aC x9,ms 23 g_ 9 aJ x_.2.2]),(23,ar 87 g_ 9 aJ x_.2.2)] [0,20,21,22,23]) ?_ ?_
   ·
    refine qb (rq hC [] [6] [(6,vI 0)] [] [] (qb (jP h (fun x_=>aX [(0,V.ref 0 0),(2,V.ref 20 0),(3,vI x3),(4,V.ref 22 0),(5,vI x11),(6,vI x_.2.2)] [(0,E.cells [vM rY x_.1,vI x_.2.1]),(20,E.cells [V.t T.nilS,V.t T.nilS]),(22,E.cells [vM aC x9,ms 23 g12 9 aJ x10]),(23,ar 87 g12 9 aJ x10)] [0,20,21,22,23]) lS ?_)))
    rintro again18 ⟨x15,x16,x17⟩ h
    refine qs (rq hC [] [30,31] [(31,vB (decide (x17<5)))] [] [] (aT h (fun c3 h=> ?_) (fun c3 h=> ?_)))
    ·refine qk (qs (qb ?_))
     obtain⟨x19,hx19,h⟩:=bd h
     refine rq hC [oN aC x9,oC [0] [] (aEa G hx19),.z (.nat 24)] [7,34,35,36,37,38] [(7,V.ref 24 0)] [(0,sR x19.2),(24,some (E.cells (d4 x19.1)))] [(0,true),(24,true)] (qs ?_)
     obtain⟨x20,hx20,x21,hx21,h⟩:=cS h
     refine dk hC bD [oV (rD G n hx20),.z (.int 1),.z (.nat 25),.z (.at 7),.z (.fz 25 [44] []),oV (wF G hx21)] [8,9,39,40,41,42,43,44,45,46,47,48] [(9,vB x21.2)] [(25,none)] [(25,true)] (rq hC [] [49] [(49,vB x21.2)] [] [] (aT h (fun c4 h=> ?_) (fun c4 h=> ?_)))
     ·obtain⟨x22,hx22,h⟩:=bd h
      exact rq hC [.z (.int 0),oA (aP aJ hx22),oQ (bZ (r:=aJ) 9 gF x10),oQ (bZ (r:=aJ) 9 gF [x19.1])] (fr 50 6) [] [(23,some (ar 87 (g12+1) 9 aJ x22)),(22,sc [vM aC x9,ms 23 (g12+1) 9 aJ x22])] [] (cM ⟨(x19.2.b,x19.2.p,x22),(g12+1),h,lS⟩)
     ·exact qk (rk hC [] [6,32,33] [(6,vI (wr (x17+1)))] [] [] (lE h))
    ·exact cM ⟨(x15,x16,x10),g12,h,lS⟩
   ·rintro⟨x23,x24,x25⟩ g26 h
    subst hj14
    exact rk hC [] [5,28,29] [(5,vI (wr (x11-1)))] [] [] ⟨(x23,x24,x9,x25,wr (x11-1)),g26,h,lS⟩
  ·refine cM (qs ?_)
   obtain⟨x27,hx27,x28,hx28,h⟩:=cS h
   refine dk hC bD [oV (rD G n hx27),.z (.at 7),.z (.fz 23 [] [22]),oV (wF G hx28)] [10,11,56,57,58,59,60,61] [(10,vI x28.1),(11,vB x28.2)] [(22,sc [vM aC x9,vM aJ x10]),(23,none)] [] (vj h (fun x_=>aX [(0,V.ref 0 0),(2,V.ref 20 0),(3,vI x3),(4,V.ref 22 0),(66,vB x_)] [(0,E.cells [vM rY x7,vI x8]),(20,E.cells [V.t T.nilS,V.t T.nilS]),(22,E.cells [vM aC x9,vM aJ x10])] [0,20,21,22,23]) (fun j29 h=> ?_) (fun x30 h=> ?_))
   ·
    refine aS h (fun c5 h=> ?_) (fun c5 h=> ?_)
    ·exact rk hC (rF 3 c5) (fr 62 5) [(66,vB false)] [] [] (lE h)
    ·exact rk hC (rT 3 c5) (fr 62 5) [(66,vB (decide (x28.1≤40)))] [] [] (lE h)
   ·refine aT h (fun c6 h=> ?_) (fun c6 h=> ?_)
    ·obtain rfl:=so h
     exact rq hC [] [67] [] [(20,sc [vM aC x9,vM aJ x10])] [] (qr eW)
    ·exact qk (rk hC [] [3,18,19] [(3,vI (wr (x3+1)))] [] [] (lE h))
 ·refine cM ?_
  obtain⟨x31,hx31,h⟩:=bd h
  refine rq hC [oV (vE G hx31),.z (.nat 21)] [12,13,68,69,70,71] [(12,V.ref 21 0)] [(21,some (E.cells (d4 x31.1)))] [(21,true)] ?_
  obtain⟨x32,hx32,h⟩:=bd h
  obtain rfl:=so h
  exact rq hC [.z (.int 0),oC [] [22] (aCy G hx32)] [14,15,72,73,74,75,76] [(14,ms 22 1 2 aC x32.1)] [(22,some (ar 58 1 2 aC x32.1))] [(22,true)] (rq hC [.z (.int 1),.z (.nat 23)] (fr 77 4) [] [(23,some (ar 87 1 9 aJ [x31.1])),(20,sc [ms 22 1 2 aC x32.1,ms 23 1 9 aJ [x31.1]])] [(23,true)] (qw (lk hC [.fz 22 [14] [20]] [14] [(14,vM aC x32.1)] [(20,sc [vM aC x32.1,ms 23 1 9 aJ [x31.1]]),(22,none)] []) (qw (lk hC [.fz 23 [] [20]] [] [] [(20,sc [vM aC x32.1,vM aJ [x31.1]]),(23,none)] []) (qr eW))))
theorem aD7{r_a0}{r}(h:sP n r_a0=some r):VQ G 129 [eL r_a0] [V.ref 0 0] (V.agg (bX r.1)) [eL r.2]:=by
 unfold sP at h
 refine vq aO Tryz.func129 rfl fun w X β0 hC hg=> ?_
 refine rq hC [.z (.nat 20)] [2] [(2,V.ref 20 0)] [(20,sc [V.t T.nilS,V.t T.nilS])] [(20,true)] ?_
 obtain⟨x1,hx1,h⟩:=bd h
 refine rq hC [oV (rD G n hx1),.z (.nat 21)] [3,5,6] [(3,V.ref 21 0)] [(21,sc [vM aH x1,V.t T.nilS])] [(21,true)] (qs ?_)
 obtain⟨x2,hx2,h⟩:=bd h
 refine rq hC [.z (.int 0),oC [0] [] (aZ G hx2)] [4,7,8,9] [(4,vI x2.1)] [(0,sR x2.2)] [(0,true)] (qb (qw (lk hC [.growc 21 1 22 62] [] [] [(22,some (ar 62 1 2 aD [])),(21,sc [vM aH x1,ms 22 1 2 aD []])] [(22,true)]) (bA (γ:=Nat) h (fun x_ g_=>aX [(0,V.ref 0 0),(2,V.ref 20 0),(3,V.ref 21 0),(4,vI x_.2.2.2)] [(0,E.cells [vM rY x_.1,vI x_.2.1]),(20,E.cells [V.t T.nilS,V.t T.nilS]),(21,E.cells [vM aH x1,ms 22 g_ 2 aD x_.2.2.1]),(22,ar 62 g_ 2 aD x_.2.2.1)] [0,20,21,22]) 1 (lS) ?_)))
 rintro again8 ⟨x3,x4,x5,x6⟩ g7 h
 refine qs (rq hC [] [10,11] [(11,vB (decide ((0:Int)<x6)))] [] [] (aT h (fun c1 h=> ?_) (fun c1 h=> ?_)))
 ·refine qk (qs (qb ?_))
  obtain⟨x9,hx9,x10,hx10,h⟩:=cS h
  exact dk hC bD [oC [0] [] (aD9 G hx9),.z (.int 0),oA (aP aD hx10),oQ (bZ (r:=aD) 2 fC x5),oQ (bZ (r:=aD) 2 fC [x9.1])] (fr 14 7) [] [(0,sR x9.2),(22,some (ar 62 (g7+1) 2 aD x10)),(21,sc [vM aH x1,ms 22 (g7+1) 2 aD x10])] [(0,true)] (rk hC [] [4,12,13] [(4,vI (wr (x6-1)))] [] [] ⟨(x9.2.b,x9.2.p,x10,wr (x6-1)),(g7+1),h,lS⟩)
 ·refine cM (qs ?_)
  obtain⟨x11,hx11,h⟩:=bd h
  refine rq hC [.z (.at 2),.z (.fz 22 [] [21]),oV (cR G hx11)] [21,22] [(22,vB x11)] [(21,sc [vM aH x1,vM aD x5]),(22,none)] [] (aT h (fun c2 h=> ?_) (fun c2 h=> ?_))
  ·obtain rfl:=so h
   exact rq hC [] [23] [] [(20,sc [vM aH x1,vM aD x5])] [] (qr eW)
  ·refine qk (qs ?_)
   obtain⟨x12,hx12,x13,hx13,h⟩:=cS h
   obtain rfl:=so h
   exact dk hC bD [oV (rD G n hx12),oA (aAm aD hx13),oQ (bZ (r:=aD) 2 fC x5)] (fr 24 5) [] [(20,sc [vM aH x12,vM aD x13])] [] (qr eW)
theorem aD1{r_a0}{r}(h:sK n r_a0=some r):VQ G 79 [eL r_a0] [V.ref 0 0] (V.agg (bX r.1)) [eL r.2]:=by
 unfold sK at h
 refine vq aO Tryz.func79 rfl fun w X β0 hC hg=> ?_
 refine rq hC [.z (.nat 20)] [2] [(2,V.ref 20 0)] [(20,sc [V.t T.nilS,V.t T.nilS])] [(20,true)] ?_
 obtain⟨x1,hx1,h⟩:=bd h
 refine rq hC [.z (.int 0),oC [0] [] (mY G hx1)] [3,6,7,8] [(3,vS x1.1)] [(0,sR x1.2)] [(0,true)] ?_
 obtain⟨x2,hx2,x3,hx3,h⟩:=cS h
 refine rq hC [oS hx2,oV (A9 G hx3),.z (.nat 21)] [4,5,9,10,11,12,13,14] [(4,V.ref 21 0),(5,vB x3.2)] [(21,some (E.cells (bX x3.1)))] [(21,true)] (qs (vj h (fun x_=>aX [(0,V.ref 0 0),(2,V.ref 20 0),(4,V.ref 21 0),(20,vB x_.2.2)] [(0,E.cells [vM rY x_.1,vI x_.2.1]),(20,E.cells [V.t T.nilS,V.t T.nilS]),(21,E.cells (bX x3.1))] [0,20,21]) (fun j4 h=> ?_) ?_))
 ·
  refine aS h (fun c1 h=> ?_) (fun c1 h=> ?_)
  ·exact rk hC (rF 4 c1) (fr 15 6) [(20,vB false)] [] [] (lE h)
  ·obtain⟨x5,hx5,h⟩:=bd h
   exact rk hC [oT c1,oT c1,oC [0] [] (bK G hx5),oT c1,oT c1] (fr 15 6) [(20,vB (decide ((0:Int)<x5.1)))] [(0,sR x5.2)] [(0,true)] (lE h)
 ·rintro⟨x6,x7,x8⟩ h
  refine aT h (fun c2 h=> ?_) (fun c2 h=> ?_)
  ·obtain rfl:=so h
   exact rq hC [] [21] [] [(20,some (E.cells (bX x3.1)))] [] (qr eW)
  ·refine qk ?_
   obtain⟨x9,hx9,h⟩:=bd h
   obtain rfl:=so h
   exact rq hC [oC [0] [] (aD7 G hx9)] [22,23] [] [(0,sR x9.2),(20,some (E.cells (bX x9.1)))] [(0,true)] (qr eW)
theorem aD2{r_a0}{r}(h:wX n r_a0=some r):VQ G 26 [eL r_a0] [V.ref 0 0] (V.tup [V.agg (bX r.1),vI r.2.1,vI r.2.2.1,vI r.2.2.2.1]) [eL r.2.2.2.2]:=by
 unfold wX at h
 refine vq aO Tryz.func26 rfl fun w X β0 hC hg=> ?_
 refine rq hC [.z (.nat 20)] (fr 2 4) [(2,V.ref 20 0)] [(20,sc [V.t T.nilS,V.t T.nilS])] [(20,true)] ?_
 obtain⟨x1,hx1,x2,hx2,h⟩:=cS h
 refine rq hC [oC [0] [] (aD1 G hx1),oC [0] [] (aA2 G hx2),.z (.nat 21)] [6,8,9,10,11] [(6,V.ref 21 0)] [(0,sR x2.2),(21,some (E.cells (bX x2.1)))] [(0,true),(0,true),(21,true)] ?_
 obtain⟨x3,hx3,h⟩:=bd h
 refine rq hC [.z (.int 0),oC [0] [] (aZ G hx3)] [7,12,13,14] [(7,vI x3.1)] [(0,sR x3.2)] [(0,true)] (qs ?_)
 obtain⟨x4,hx4,x5,hx5,h⟩:=cS h
 obtain rfl:=so h
 exact dk hC bD [.z (.int 0),oC [0] [] (aZ G hx4),.z (.int 0),oC [0] [] (aZ G hx5)] [3,4,5,15,16,17,18,19,20,21,22] [(3,vI x3.1),(4,vI x4.1),(5,vI x5.1)] [(0,sR x5.2),(20,some (E.cells (bX x2.1)))] [(0,true),(0,true)] (qr eW)
theorem aCw{code}{r}(h:nB n code=some r):VQ G 27 [] [vM rY code] (V.ref 0 0) [eL r]:=by
 unfold nB at h
 refine vq aO Tryz.func27 rfl fun w X β0 hC hg=> ?_
 refine rq hC [] [2] [] [] [] (vj h (fun x_=>aX [(0,vM rY x_)] [] []) (fun j1 h=> ?_) (fun x3 h=> ?_))
 ·
  refine rq hC [oN rY code] [3,4,5] [(5,vB (decide ((2000:Int)<(code.length:Int))))] [] [] (aT h (fun c1 h=> ?_) (fun c1 h=> ?_))
  ·obtain⟨x2,hx2,h⟩:=bd h
   exact rk hC [oA (aAm rY hx2),oQ (bZ (r:=rY) 1 (fun _=>rfl) code)] [0,6,7] [(0,vM rY x2)] [] [] (lE h)
  ·exact qk (lE h)
 ·obtain rfl:=so h
  exact rq hC [.z (.nat 0)] [2,8,9,10] [(2,V.ref 0 0)] [(0,sc [vM rY x3,vI 0])] [(0,true)] (qr eW)
theorem kU{n_a0}{r}(h:gZ n n_a0=some r):VQ G 33 [] [vI n_a0] (V.agg [ms 0 1 1 rI r.coefs,vI r.const]) [ar 3 1 1 rI r.coefs]:=by
 unfold gZ at h
 refine vq aO Tryz.func33 rfl fun w X β0 hC hg=> ?_
 refine rq hC [.z (.nat 20)] [2] [(2,V.ref 20 0)] [(20,sc [V.t T.nilS,vI 0])] [(20,true)] ?_
 obtain⟨x1,hx1,h⟩:=bd h
 obtain rfl:=so h
 exact rq hC [.z (.nat 21),oA (aDu rI hx1),oQ (xF hx1).1] [3,4,5] [] [(21,some (ar 3 1 1 rI x1)),(20,sc [ms 21 1 1 rI x1,vI n_a0])] [(21,true)] (qw (lk hC [.rn 21 0 [] [20]] [] [] [(20,sc [ms 0 1 1 rI x1,vI n_a0]),(21,none),(0,some (ar 3 1 1 rI x1))] [(0,true)]) (qr eW))
theorem yJ{v}{k}{r}(h:nT n v k=some r):VQ G 34 [] [vI v,vI k] (V.agg [ms 0 1 1 rI r.coefs,vI r.const]) [ar 3 1 1 rI r.coefs]:=by
 unfold nT at h
 refine vq aO Tryz.func34 rfl fun w X β0 hC hg=> ?_
 refine rq hC [.z (.nat 20)] [4] [(4,V.ref 20 0)] [(20,sc [V.t T.nilS,vI 0])] [(20,true)] ?_
 obtain⟨x1,hx1,h⟩:=bd h
 refine rq hC [oC [] [21] (kU G hx1),.z (.nat 22)] [5,6] [(5,V.ref 22 0)] [(21,some (ar 3 1 1 rI x1.coefs)),(22,sc [ms 21 1 1 rI x1.coefs,vI x1.const])] [(21,true),(22,true)] ?_
 obtain⟨x2,hx2,x3,hx3,h⟩:=cS h
 obtain rfl:=so h
 exact rq hC [oQ (iX rI hx2),oX rI hx2,.z (.rows (List.map rI x3)),.z (.lenc 22 0 (List.map rI x3).length),oQ (str rI hx3),oQ (lI rI hx3)] (fr 7 5) [] [(21,some (ar 3 1 1 rI x3)),(22,sc [ms 21 1 1 rI x3,vI x1.const])] [] (rq hC [] [12] [] [(20,sc [ms 21 1 1 rI x3,vI x1.const])] [] (qw (lk hC [.rn 21 0 [] [20,22]] [] [] [(20,sc [ms 0 1 1 rI x3,vI x1.const]),(22,sc [ms 0 1 1 rI x3,vI x1.const]),(21,none),(0,some (ar 3 1 1 rI x3))] [(0,true)]) (qr eW)))
theorem vH(G:GS)(n:Nat)(a:Access)(changeF:FuncId)(change:Affine→Option Affine)(hchange: ∀(q0:Affine) r,change q0=some r→PQ G changeF [V.agg (aQ q0)] (V.agg (aQ r))){r:Access}(h:fQ n a change=some r):PQ G 131 [V.agg (dH a),V.fn changeF []] (V.agg (dH r)):=by
 unfold fQ at h
 refine pq aO Tryz.func131 rfl fun w X hC=> ?_
 refine rq hC [.z (.b (true)),.z (.nat 20)] [2,4] [(2,V.tp (eG a)),(4,V.ref 20 0)] [(20,sc [vS [],V.t T.nilS])] [(20,true)] (rq hC [.z (.nat 21)] [5,8,9,10] [(5,V.ref 21 0)] [(21,sc [vS a.array,V.t T.nilS])] [(21,true)] (qs (rq hC [oN aB a.subs] (fr 11 4) [(12,vM aB a.subs),(13,vI (a.subs.length:Int)),(14,vI 0)] [] [] (qb (qw (lk hC [.growc 21 1 22 65] [] [] [(22,some (ar 65 1 2 aB [])),(21,sc [vS a.array,ms 22 1 2 aB []])] [(22,true)]) ?_)))))
 refine bA (γ:=Nat) h (fun x_ g_=>aX [(1,V.fn changeF []),(4,V.ref 20 0),(5,V.ref 21 0),(12,vM aB a.subs),(13,vI (a.subs.length:Int)),(14,vI x_.2)] [(20,E.cells [vS [],V.t T.nilS]),(21,E.cells [vS a.array,ms 22 g_ 2 aB x_.1]),(22,ar 65 g_ 2 aB x_.1)] [20,21,22]) 1 (lS) ?_
 rintro again4 ⟨x1,x2⟩ g3 h
 refine rq hC [] [15] [(15,vB (decide (x2<(a.subs.length:Int))))] [] [] (qs (aT h (fun c1 h=> ?_) (fun c1 h=> ?_)))
 ·refine qk (qs (qb ?_))
  obtain⟨x5,hx5,h⟩:=bd h
  refine rq hC [oR aB hx5,.z (.nat 23)] [7,16,17] [(7,V.ref 23 0)] [(23,some (E.cells (aQ x5)))] [(23,true)] ?_
  obtain⟨x6,hx6,x7,hx7,h⟩:=cS h
  exact dk hC bD [oV (hchange x5 _ hx6),.z (.int 0),oA (aP aB hx7),oQ (bZ (r:=aB) 2 bC x1),oQ (bZ (r:=aB) 2 bC [x6])] (fr 18 8) [] [(22,some (ar 65 (g3+1) 2 aB x7)),(21,sc [vS a.array,ms 22 (g3+1) 2 aB x7])] [] (rk hC [] [14,26] [(14,vI (wr (x2+1)))] [] [] ⟨(x7,wr (x2+1)),(g3+1),h,lS⟩)
 ·obtain rfl:=so h
  exact cM (rq hC [.z (.at 2),.z (.fz 22 [] [21])] [27] [] [(21,sc [vS a.array,vM aB x1]),(22,none),(20,sc [vS a.array,vM aB x1])] [] (qr eR))
theorem aCE(G:GS): ∀(n:Nat) (e:Expr) (changeF:FuncId) (change:Affine→Option Affine) (hchange: ∀(q0:Affine) r,change q0=some r→PQ G changeF [V.agg (aQ q0)] (V.agg (aQ r))) {r:Expr} (h:i_exprMap n e change=some r),PQ G 132 [V.agg (fM e),V.fn changeF []] (V.agg (fM r)):=by
 intro n
 induction n with
 |zero=>intro e changeF change hchange r h;rw [i_exprMap.eq_def] at h;cases h
 |succ n ih=>
  intro e changeF change hchange r h
  rw [i_exprMap.eq_def] at h;dsimp only at h
  refine pq aO Tryz.func132 rfl fun w X hC=> ?_
  refine rq hC [.z (.b (true)),.z (.nat 20)] [2,4] [(2,V.tp (iK e)),(4,V.ref 20 0)] [(20,sc [vI 0,vI 0,V.t T.nilS,vI 0,vS [],V.t T.nilS,V.t T.nilS])] [(20,true)] (rq hC [.z (.nat 21)] [5,8,9,10,11,12] [(5,V.ref 21 0)] [(21,sc [vI e.kind,vI e.num,V.t T.nilS,vI 0,vS [],V.t T.nilS,V.t T.nilS])] [(21,true)] (vj h (fun x_=>aX [(1,V.fn changeF []),(2,V.tp (iK e)),(4,V.ref 20 0),(5,V.ref 21 0)] [(20,E.cells [vI 0,vI 0,V.t T.nilS,vI 0,vS [],V.t T.nilS,V.t T.nilS]),(21,E.cells [vI e.kind,vI e.num,vM rI x_.1,vI x_.2.1,vS x_.2.2.1,vM aB x_.2.2.2,V.t T.nilS])] [20,21]) (fun j1 h=> ?_) ?_))
  ·
   refine rq hC [] [13,14] [(14,vI e.kind)] [] [] (qb (rq hC [] [15,16] [(15,vB (decide (e.kind=2)))] [] [] (aT h (fun c1 h=> ?_) (fun c1 h=> ?_))))
   ·obtain⟨x2,hx2,h⟩:=bd h
    exact rk hC [oV (hchange e.index _ hx2)] (fr 17 5) [] [(21,sc [vI e.kind,vI e.num,vM rI x2.coefs,vI x2.const,vS [],V.t T.nilS,V.t T.nilS])] [] (lE h)
   ·refine rq hC [] [22,23] [(22,vB (decide (e.kind=3)))] [] [] (aT h (fun c2 h=> ?_) (fun c2 h=> ?_))
    ·obtain⟨x3,hx3,h⟩:=bd h
     exact rk hC [oV (vH G n e.read changeF change hchange hx3)] (fr 24 5) [] [(21,sc [vI e.kind,vI e.num,V.t T.nilS,vI 0,vS x3.array,vM aB x3.subs,V.t T.nilS])] [] (lE h)
    ·exact qk (lE h)
  ·rintro⟨x4,x5,x6,x7⟩ h
   refine qs (rq hC [oN aM e.kids] (fr 29 4) [(30,vM aM e.kids),(31,vI (e.kids.length:Int)),(32,vI 0)] [] [] (qb (qw (lk hC [.growc 21 6 22 85] [] [] [(22,some (ar 85 1 7 aM [])),(21,sc [vI e.kind,vI e.num,vM rI x4,vI x5,vS x6,vM aB x7,ms 22 1 7 aM []])] [(22,true)]) (bA (γ:=Nat) h (fun x_ g_=>aX [(1,V.fn changeF []),(4,V.ref 20 0),(5,V.ref 21 0),(30,vM aM e.kids),(31,vI (e.kids.length:Int)),(32,vI x_.2)] [(20,E.cells [vI 0,vI 0,V.t T.nilS,vI 0,vS [],V.t T.nilS,V.t T.nilS]),(21,E.cells [vI e.kind,vI e.num,vM rI x4,vI x5,vS x6,vM aB x7,ms 22 g_ 7 aM x_.1]),(22,ar 85 g_ 7 aM x_.1)] [20,21,22]) 1 (lS) ?_))))
   rintro again11 ⟨x8,x9⟩ g10 h
   refine rq hC [] [33] [(33,vB (decide (x9<(e.kids.length:Int))))] [] [] (qs (aT h (fun c3 h=> ?_) (fun c3 h=> ?_)))
   ·refine qk (qs (qb ?_))
    obtain⟨x12,hx12,h⟩:=bd h
    refine rq hC [.z (.row (fU x12)),.z (.nat 23),oQ (jG aM hx12 (eA x12))] [7,34,35] [(7,V.ref 23 0)] [(23,some (E.cells (fM x12)))] [(23,true)] ?_
    obtain⟨x13,hx13,x14,hx14,h⟩:=cS h
    exact dk hC bD [oV (ih x12 changeF change hchange hx13),.z (.int 2),.z (.rows (List.map aM [x13])),oQ (yB x13),oA (aP aM hx14),oQ (bZ (r:=aM) 7 gG x8),oQ (bZ (r:=aM) 7 gG [x13])] (fr 36 8) [] [(22,some (ar 85 (g10+1) 7 aM x14)),(21,sc [vI e.kind,vI e.num,vM rI x4,vI x5,vS x6,vM aB x7,ms 22 (g10+1) 7 aM x14])] [] (rk hC [] [32,44] [(32,vI (wr (x9+1)))] [] [] ⟨(x14,wr (x9+1)),(g10+1),h,lS⟩)
   ·obtain rfl:=so h
    exact cM (rq hC [.z (.at 2),.z (.fz 22 [] [21])] [45] [] [(21,sc [vI e.kind,vI e.num,vM rI x4,vI x5,vS x6,vM aB x7,vM aM x8]),(22,none),(20,sc [vI e.kind,vI e.num,vM rI x4,vI x5,vS x6,vM aB x7,vM aM x8])] [] (qr eR))
theorem aCz(G:GS)(n:Nat)(s:Stmt)(changeF:FuncId)(change:Affine→Option Affine)(hchange: ∀(q0:Affine) r,change q0=some r→PQ G changeF [V.agg (aQ q0)] (V.agg (aQ r))){r:Stmt}(h:gJ n s change=some r):PQ G 82 [V.agg (d4 s),V.fn changeF []] (V.agg (d4 r)):=by
 unfold gJ at h
 refine pq aO Tryz.func82 rfl fun w X hC=> ?_
 refine rq hC [.z (.b (true)),.z (.nat 20)] [2,4] [(2,V.tp (pB s)),(4,V.ref 20 0)] [(20,sc [vS [],V.t T.nilS,vI 0,vI 0,V.t T.nilS,vI 0,vS [],V.t T.nilS,V.t T.nilS])] [(20,true)] (qs ?_)
 obtain⟨x1,hx1,x2,hx2,h⟩:=cS h
 obtain rfl:=so h
 exact dk hC bD [oV (vH G n s.write changeF change hchange hx1),oV (aCE G n s.value changeF change hchange hx2)] (fr 5 9) [] [(20,sc [vS x1.array,vM aB x1.subs,vI x2.kind,vI x2.num,vM rI x2.index.coefs,vI x2.index.const,vS x2.read.array,vM aB x2.read.subs,vM aM x2.kids])] [] (qr eR)
theorem tY(G:GS)(n:Nat)(rows:List Loop)(i:Int)(l:Loop)(hl:ix rows i=some l)(g:Nat)(fF:FuncId)(fC0:List T)(f:Affine→Option Affine)(hf: ∀(q0:Affine) r,f q0=some r→PQ G fF [V.agg (aQ q0),V.tp fC0] (V.agg (aQ r))){l':Loop}{rows':List Loop}(h:i8 n l f=some l')(hr:dW rows i l'=some rows'):
  VQ G 30 [E.tree fD 1 g (List.map aC rows) []] [V.eref 0 g 2 (0+Int.toNat i) 0,V.fn fF [V.tp fC0]] (V.tup []) [E.tree fD 1 g (List.map aC rows') []]:=by
 unfold i8 at h
 refine vq aO Tryz.func30 rfl fun w X β0 hC hg=> ?_
 refine qs (dk hC bD [.z (.foc 0 21 (0+Int.toNat i) 0 (aC l)),.z (.foc 0 22 (0+Int.toNat i) 1 (aC l)),oX aC hl,oX aC hl,.z (.lt 23 fD 4),.z (.nat 2),oQ (o0 aC hl),oQ (o0 aC hl),oQ (Eq.refl 2)] (fr 8 11) [(16,V.msl 23 1 1 0 2),(17,vI 2),(18,vI 0)] [(0,some (E.tree fD 1 g (List.map aC rows) [((0+Int.toNat i),1,ms 22 1 2 aB l.hi),((0+Int.toNat i),0,ms 21 1 2 aB l.lo)])),(21,some (E.tree fD 3 1 (List.map aB l.lo) [])),(22,some (E.tree fD 3 1 (List.map aB l.hi) [])),(23,some (E.tree fD 4 1 (List.replicate 2 [T.sl []]) [(0,0,ms 21 1 2 aB l.lo),(1,0,ms 22 1 2 aB l.hi)]))] [(21,true),(22,true),(23,true)] (qw (lk hC [.shd 21,.shd 22] [] [] [(21,some (ar 65 1 2 aB l.lo)),(22,some (ar 65 1 2 aB l.hi))] []) (qb (jP h (fun x_=>aX [(1,V.fn fF [V.tp fC0]),(16,V.msl 23 1 1 0 2),(17,vI 2),(18,vI x_.2)] [(0,E.tree fD 1 g (List.map aC rows) [((0+Int.toNat i),1,ms 22 1 2 aB l.hi),((0+Int.toNat i),0,ms 21 1 2 aB l.lo)]),(23,E.tree fD 4 1 (List.replicate 2 [T.sl []]) [(0,0,ms 21 1 2 aB l.lo),(1,0,ms 22 1 2 aB l.hi)]),(21,ar 65 1 2 aB x_.1.lo),(22,ar 65 1 2 aB x_.1.hi)] [0,21,22,23]) lS ?_))))
 rintro again1 ⟨x,q⟩ h
 obtain⟨s1,hs1,h⟩:=bd h
 obtain⟨s2,hs2,h⟩:=bd h
 refine rq hC [] [19] [(19,vB (decide (q<2)))] [] [] (qs (aT h (fun c1 h=> ?_) (fun c1 h=> ?_)))
 ·refine qk (qs (qb (qs (aS h (fun c2 h=> ?_) (fun c2 h=> ?_)))))
  ·refine aS h (fun c3 h=> ?_) (fun c3 h=> ?_)
   ·exact nof h
   ·have e:=of_decide_eq_true c3
    subst e
    refine rk hC [.z (.int 1),.z (.row [T.sl []]),oQ (And.intro (by decide) (by decide):(0:Int)≤1∧(1:Int)<((2:Nat):Int)),oQ (Eq.refl (some [T.sl []]))] [5,20,21] [(5,ms 22 1 2 aB l.hi)] [] [] (qw (zQ hC [.len 5 (List.map aB x.hi).length] [5] [(5,ms 22 1 2 aB x.hi)] [] [] (a1 (sE aB hs2)) (by kernel_rfl)) (rq hC [oN aB x.hi] [22,23,24] [(22,ms 22 1 2 aB x.hi),(23,vI (x.hi.length:Int)),(24,vI 0)] [] [] (qb (jP h (fun x_=>aX [(1,V.fn fF [V.tp fC0]),(16,V.msl 23 1 1 0 2),(17,vI 2),(18,vI 1),(5,ms 22 1 2 aB x_.1),(22,ms 22 1 2 aB x_.1),(23,vI (x.hi.length:Int)),(24,vI x_.2)] [(0,E.tree fD 1 g (List.map aC rows) [((0+Int.toNat i),1,ms 22 1 2 aB l.hi),((0+Int.toNat i),0,ms 21 1 2 aB l.lo)]),(23,E.tree fD 4 1 (List.replicate 2 [T.sl []]) [(0,0,ms 21 1 2 aB l.lo),(1,0,ms 22 1 2 aB l.hi)]),(21,ar 65 1 2 aB x.lo),(22,ar 65 1 2 aB x_.1)] [0,21,22,23]) lS ?_))))
    rintro again2 ⟨y,k⟩ h
    refine rq hC [] [25] [(25,vB (decide (k<(x.hi.length:Int))))] [] [] (qs (aT h (fun c4 h=> ?_) (fun c4 h=> ?_)))
    ·refine qk (qs (qb ?_))
     obtain⟨x3,hx3,h⟩:=bd h
     refine rq hC [oQ (iX aB hx3),oX aB hx3,.z (.nat 24)] [6,7,26,27,28] [(6,vI k),(7,V.ref 24 0)] [(24,some (E.cells (aQ x3)))] [(24,true)] ?_
     obtain⟨x4,hx4,x5,hx5,h⟩:=cS h
     exact rk hC [oV (hf x3 _ hx4),oQ (iX aB hx3),oX aB hx3,.z (.rows (List.map aB x5)),.z (.len 5 (List.map aB x5).length),.z (.len 22 (List.map aB x5).length),oQ (str aB hx5),oQ (lI aB hx5),oQ (lI aB hx5)] [5,22,29,30,31,32,33,34] [(5,ms 22 1 2 aB x5),(22,ms 22 1 2 aB x5)] [(22,some (ar 65 1 2 aB x5))] [] (rk hC [] [24,35] [(24,vI (wr (k+1)))] [] [] (lE h))
    ·exact cM (rk hC [] [18,36] [(18,vI (wr (1+1)))] [] [] (lE h))
  ·have e:=of_decide_eq_true c2
   subst e
   refine rk hC [.z (.int 0),.z (.row [T.sl []]),oQ (And.intro (by decide) (by decide):(0:Int)≤0∧(0:Int)<((2:Nat):Int)),oQ (Eq.refl (some [T.sl []]))] [5,20,21] [(5,ms 21 1 2 aB l.lo)] [] [] (qw (zQ hC [.len 5 (List.map aB x.lo).length] [5] [(5,ms 21 1 2 aB x.lo)] [] [] (a1 (sE aB hs1)) (by kernel_rfl)) (rq hC [oN aB x.lo] [22,23,24] [(22,ms 21 1 2 aB x.lo),(23,vI (x.lo.length:Int)),(24,vI 0)] [] [] (qb (jP h (fun x_=>aX [(1,V.fn fF [V.tp fC0]),(16,V.msl 23 1 1 0 2),(17,vI 2),(18,vI 0),(5,ms 21 1 2 aB x_.1),(22,ms 21 1 2 aB x_.1),(23,vI (x.lo.length:Int)),(24,vI x_.2)] [(0,E.tree fD 1 g (List.map aC rows) [((0+Int.toNat i),1,ms 22 1 2 aB l.hi),((0+Int.toNat i),0,ms 21 1 2 aB l.lo)]),(23,E.tree fD 4 1 (List.replicate 2 [T.sl []]) [(0,0,ms 21 1 2 aB l.lo),(1,0,ms 22 1 2 aB l.hi)]),(21,ar 65 1 2 aB x_.1),(22,ar 65 1 2 aB x.hi)] [0,21,22,23]) lS ?_))))
   rintro again2 ⟨y,k⟩ h
   refine rq hC [] [25] [(25,vB (decide (k<(x.lo.length:Int))))] [] [] (qs (aT h (fun c4 h=> ?_) (fun c4 h=> ?_)))
   ·refine qk (qs (qb ?_))
    obtain⟨x3,hx3,h⟩:=bd h
    refine rq hC [oQ (iX aB hx3),oX aB hx3,.z (.nat 24)] [6,7,26,27,28] [(6,vI k),(7,V.ref 24 0)] [(24,some (E.cells (aQ x3)))] [(24,true)] ?_
    obtain⟨x4,hx4,x5,hx5,h⟩:=cS h
    exact rk hC [oV (hf x3 _ hx4),oQ (iX aB hx3),oX aB hx3,.z (.rows (List.map aB x5)),.z (.len 5 (List.map aB x5).length),.z (.len 22 (List.map aB x5).length),oQ (str aB hx5),oQ (lI aB hx5),oQ (lI aB hx5)] [5,22,29,30,31,32,33,34] [(5,ms 21 1 2 aB x5),(22,ms 21 1 2 aB x5)] [(21,some (ar 65 1 2 aB x5))] [] (rk hC [] [24,35] [(24,vI (wr (k+1)))] [] [] (lE h))
   ·exact cM (rk hC [] [18,36] [(18,vI (wr (0+1)))] [] [] (lE h))
 ·obtain rfl:=so h
  exact qw (zQ hC [.tre 21 fD 3,.tre 22 fD 3,.unf 0 22 (aC l) (List.map aC (rows.set i.toNat (⟨l.lo,x.hi⟩:Loop))),.unf 0 21 (aC (⟨l.lo,x.hi⟩:Loop)) (List.map aC rows')] [] [] [(21,none),(22,none),(0,some (E.tree fD 1 g (List.map aC rows') []))] [] (a8 (sE aB hs2) (Eq.refl fD) (o0 aC hl) (S4 aC (aBA hr (⟨l.lo,x.hi⟩:Loop)) rfl) (sE aB hs1) (Eq.refl fD) (o0 aC (aHb hr (⟨l.lo,x.hi⟩:Loop))) (S4 aC (aBz hr (⟨l.lo,x.hi⟩:Loop)) rfl)) (by kernel_rfl)) (cM eW)
theorem qG(G:GS)(n:Nat)(a:Access)(changeF:FuncId)(changeC0:List T)(change:Affine→Option Affine)(hchange: ∀(q0:Affine) r,change q0=some r→PQ G changeF [V.agg (aQ q0),V.tp changeC0] (V.agg (aQ r))){r:Access}(h:fQ n a change=some r):PQ G 131 [V.agg (dH a),V.fn changeF [V.tp changeC0]] (V.agg (dH r)):=by
 unfold fQ at h
 refine pq aO Tryz.func131 rfl fun w X hC=> ?_
 refine rq hC [.z (.b (true)),.z (.nat 20)] [2,4] [(2,V.tp (eG a)),(4,V.ref 20 0)] [(20,sc [vS [],V.t T.nilS])] [(20,true)] (rq hC [.z (.nat 21)] [5,8,9,10] [(5,V.ref 21 0)] [(21,sc [vS a.array,V.t T.nilS])] [(21,true)] (qs (rq hC [oN aB a.subs] (fr 11 4) [(12,vM aB a.subs),(13,vI (a.subs.length:Int)),(14,vI 0)] [] [] (qb (qw (lk hC [.growc 21 1 22 65] [] [] [(22,some (ar 65 1 2 aB [])),(21,sc [vS a.array,ms 22 1 2 aB []])] [(22,true)]) ?_)))))
 refine bA (γ:=Nat) h (fun x_ g_=>aX [(1,V.fn changeF [V.tp changeC0]),(4,V.ref 20 0),(5,V.ref 21 0),(12,vM aB a.subs),(13,vI (a.subs.length:Int)),(14,vI x_.2)] [(20,E.cells [vS [],V.t T.nilS]),(21,E.cells [vS a.array,ms 22 g_ 2 aB x_.1]),(22,ar 65 g_ 2 aB x_.1)] [20,21,22]) 1 (lS) ?_
 rintro again4 ⟨x1,x2⟩ g3 h
 refine rq hC [] [15] [(15,vB (decide (x2<(a.subs.length:Int))))] [] [] (qs (aT h (fun c1 h=> ?_) (fun c1 h=> ?_)))
 ·refine qk (qs (qb ?_))
  obtain⟨x5,hx5,h⟩:=bd h
  refine rq hC [oR aB hx5,.z (.nat 23)] [7,16,17] [(7,V.ref 23 0)] [(23,some (E.cells (aQ x5)))] [(23,true)] ?_
  obtain⟨x6,hx6,x7,hx7,h⟩:=cS h
  exact dk hC bD [oV (hchange x5 _ hx6),.z (.int 0),oA (aP aB hx7),oQ (bZ (r:=aB) 2 bC x1),oQ (bZ (r:=aB) 2 bC [x6])] (fr 18 8) [] [(22,some (ar 65 (g3+1) 2 aB x7)),(21,sc [vS a.array,ms 22 (g3+1) 2 aB x7])] [] (rk hC [] [14,26] [(14,vI (wr (x2+1)))] [] [] ⟨(x7,wr (x2+1)),(g3+1),h,lS⟩)
 ·obtain rfl:=so h
  exact cM (rq hC [.z (.at 2),.z (.fz 22 [] [21])] [27] [] [(21,sc [vS a.array,vM aB x1]),(22,none),(20,sc [vS a.array,vM aB x1])] [] (qr eR))
theorem R0(G:GS): ∀(n:Nat) (e:Expr) (changeF:FuncId) (changeC0:List T) (change:Affine→Option Affine) (hchange: ∀(q0:Affine) r,change q0=some r→PQ G changeF [V.agg (aQ q0),V.tp changeC0] (V.agg (aQ r))) {r:Expr} (h:i_exprMap n e change=some r),PQ G 132 [V.agg (fM e),V.fn changeF [V.tp changeC0]] (V.agg (fM r)):=by
 intro n
 induction n with
 |zero=>intro e changeF changeC0 change hchange r h;rw [i_exprMap.eq_def] at h;cases h
 |succ n ih=>
  intro e changeF changeC0 change hchange r h
  rw [i_exprMap.eq_def] at h;dsimp only at h
  refine pq aO Tryz.func132 rfl fun w X hC=> ?_
  refine rq hC [.z (.b (true)),.z (.nat 20)] [2,4] [(2,V.tp (iK e)),(4,V.ref 20 0)] [(20,sc [vI 0,vI 0,V.t T.nilS,vI 0,vS [],V.t T.nilS,V.t T.nilS])] [(20,true)] (rq hC [.z (.nat 21)] [5,8,9,10,11,12] [(5,V.ref 21 0)] [(21,sc [vI e.kind,vI e.num,V.t T.nilS,vI 0,vS [],V.t T.nilS,V.t T.nilS])] [(21,true)] (vj h (fun x_=>aX [(1,V.fn changeF [V.tp changeC0]),(2,V.tp (iK e)),(4,V.ref 20 0),(5,V.ref 21 0)] [(20,E.cells [vI 0,vI 0,V.t T.nilS,vI 0,vS [],V.t T.nilS,V.t T.nilS]),(21,E.cells [vI e.kind,vI e.num,vM rI x_.1,vI x_.2.1,vS x_.2.2.1,vM aB x_.2.2.2,V.t T.nilS])] [20,21]) (fun j1 h=> ?_) ?_))
  ·
   refine rq hC [] [13,14] [(14,vI e.kind)] [] [] (qb (rq hC [] [15,16] [(15,vB (decide (e.kind=2)))] [] [] (aT h (fun c1 h=> ?_) (fun c1 h=> ?_))))
   ·obtain⟨x2,hx2,h⟩:=bd h
    exact rk hC [oV (hchange e.index _ hx2)] (fr 17 5) [] [(21,sc [vI e.kind,vI e.num,vM rI x2.coefs,vI x2.const,vS [],V.t T.nilS,V.t T.nilS])] [] (lE h)
   ·refine rq hC [] [22,23] [(22,vB (decide (e.kind=3)))] [] [] (aT h (fun c2 h=> ?_) (fun c2 h=> ?_))
    ·obtain⟨x3,hx3,h⟩:=bd h
     exact rk hC [oV (qG G n e.read changeF changeC0 change hchange hx3)] (fr 24 5) [] [(21,sc [vI e.kind,vI e.num,V.t T.nilS,vI 0,vS x3.array,vM aB x3.subs,V.t T.nilS])] [] (lE h)
    ·exact qk (lE h)
  ·rintro⟨x4,x5,x6,x7⟩ h
   refine qs (rq hC [oN aM e.kids] (fr 29 4) [(30,vM aM e.kids),(31,vI (e.kids.length:Int)),(32,vI 0)] [] [] (qb (qw (lk hC [.growc 21 6 22 85] [] [] [(22,some (ar 85 1 7 aM [])),(21,sc [vI e.kind,vI e.num,vM rI x4,vI x5,vS x6,vM aB x7,ms 22 1 7 aM []])] [(22,true)]) (bA (γ:=Nat) h (fun x_ g_=>aX [(1,V.fn changeF [V.tp changeC0]),(4,V.ref 20 0),(5,V.ref 21 0),(30,vM aM e.kids),(31,vI (e.kids.length:Int)),(32,vI x_.2)] [(20,E.cells [vI 0,vI 0,V.t T.nilS,vI 0,vS [],V.t T.nilS,V.t T.nilS]),(21,E.cells [vI e.kind,vI e.num,vM rI x4,vI x5,vS x6,vM aB x7,ms 22 g_ 7 aM x_.1]),(22,ar 85 g_ 7 aM x_.1)] [20,21,22]) 1 (lS) ?_))))
   rintro again11 ⟨x8,x9⟩ g10 h
   refine rq hC [] [33] [(33,vB (decide (x9<(e.kids.length:Int))))] [] [] (qs (aT h (fun c3 h=> ?_) (fun c3 h=> ?_)))
   ·refine qk (qs (qb ?_))
    obtain⟨x12,hx12,h⟩:=bd h
    refine rq hC [.z (.row (fU x12)),.z (.nat 23),oQ (jG aM hx12 (eA x12))] [7,34,35] [(7,V.ref 23 0)] [(23,some (E.cells (fM x12)))] [(23,true)] ?_
    obtain⟨x13,hx13,x14,hx14,h⟩:=cS h
    exact dk hC bD [oV (ih x12 changeF changeC0 change hchange hx13),.z (.int 2),.z (.rows (List.map aM [x13])),oQ (yB x13),oA (aP aM hx14),oQ (bZ (r:=aM) 7 gG x8),oQ (bZ (r:=aM) 7 gG [x13])] (fr 36 8) [] [(22,some (ar 85 (g10+1) 7 aM x14)),(21,sc [vI e.kind,vI e.num,vM rI x4,vI x5,vS x6,vM aB x7,ms 22 (g10+1) 7 aM x14])] [] (rk hC [] [32,44] [(32,vI (wr (x9+1)))] [] [] ⟨(x14,wr (x9+1)),(g10+1),h,lS⟩)
   ·obtain rfl:=so h
    exact cM (rq hC [.z (.at 2),.z (.fz 22 [] [21])] [45] [] [(21,sc [vI e.kind,vI e.num,vM rI x4,vI x5,vS x6,vM aB x7,vM aM x8]),(22,none),(20,sc [vI e.kind,vI e.num,vM rI x4,vI x5,vS x6,vM aB x7,vM aM x8])] [] (qr eR))
theorem Q9(G:GS)(n:Nat)(s:Stmt)(changeF:FuncId)(changeC0:List T)(change:Affine→Option Affine)(hchange: ∀(q0:Affine) r,change q0=some r→PQ G changeF [V.agg (aQ q0),V.tp changeC0] (V.agg (aQ r))){r:Stmt}(h:gJ n s change=some r):PQ G 82 [V.agg (d4 s),V.fn changeF [V.tp changeC0]] (V.agg (d4 r)):=by
 unfold gJ at h
 refine pq aO Tryz.func82 rfl fun w X hC=> ?_
 refine rq hC [.z (.b (true)),.z (.nat 20)] [2,4] [(2,V.tp (pB s)),(4,V.ref 20 0)] [(20,sc [vS [],V.t T.nilS,vI 0,vI 0,V.t T.nilS,vI 0,vS [],V.t T.nilS,V.t T.nilS])] [(20,true)] (qs ?_)
 obtain⟨x1,hx1,x2,hx2,h⟩:=cS h
 obtain rfl:=so h
 exact dk hC bD [oV (qG G n s.write changeF changeC0 change hchange hx1),oV (R0 G n s.value changeF changeC0 change hchange hx2)] (fr 5 9) [] [(20,sc [vS x1.array,vM aB x1.subs,vI x2.kind,vI x2.num,vM rI x2.index.coefs,vI x2.index.const,vS x2.read.array,vM aB x2.read.subs,vM aM x2.kids])] [] (qr eR)
theorem tX(G:GS)(n:Nat)(rows:List Part)(i:Int)(p:Part)(hp:ix rows i=some p)(g:Nat)(from_:Int)(fF:FuncId)(fC0:List T)(f:Affine→Option Affine)(hf: ∀(q0:Affine) r,f q0=some r→PQ G fF [V.agg (aQ q0),V.tp fC0] (V.agg (aQ r))){p':Part}{rows':List Part}(h:iZ n p from_ f=some p')(hr:dW rows i p'=some rows'):
  VQ G 35 [E.tree fD 0 g (List.map aD rows) []] [V.eref 0 g 2 (0+Int.toNat i) 0,vI from_,V.fn fF [V.tp fC0]] (V.tup []) [E.tree fD 0 g (List.map aD rows') []]:=by
 unfold iZ at h
 refine vq aO Tryz.func35 rfl fun w X β0 hC hg=> ?_
 refine qs (rq hC [] [6,9] [(6,vI from_)] [] [] (qw (zQ hC [.foc 0 21 (0+Int.toNat i) 0 (aD p),.foc 0 22 (0+Int.toNat i) 1 (aD p),.shd 22] [] [] [(0,some (E.tree fD 0 g (List.map aD rows) [((0+Int.toNat i),1,ms 22 1 9 aJ p.body),((0+Int.toNat i),0,ms 21 1 2 aC p.nest)])),(21,some (E.tree fD 1 1 (List.map aC p.nest) [])),(22,some (ar 87 1 9 aJ p.body))] [(21,true),(22,true)] (a2 (o0 aD hp) (o0 aD hp)) (by kernel_rfl)) (qb (jP h (fun x_=>aX [(0,V.eref 0 g 2 (0+Int.toNat i) 0),(2,V.fn fF [V.tp fC0]),(6,vI x_.2)] [(0,E.tree fD 0 g (List.map aD rows) [((0+Int.toNat i),1,ms 22 1 9 aJ p.body),((0+Int.toNat i),0,ms 21 1 2 aC p.nest)]),(21,E.tree fD 1 1 (List.map aC x_.1) []),(22,ar 87 1 9 aJ p.body)] [0,21,22]) lS ?_))))
 rintro again1 ⟨x,k⟩ h
 obtain⟨s1,hs1,h⟩:=bd h
 refine qs (rq hC [oX aD hp,.z (.nat x.length),oQ (aMc aC hs1)] (fr 10 7) [(16,vB (decide (k<(x.length:Int))))] [] [] (aT h (fun c1 h=> ?_) (fun c1 h=> ?_)))
 ·refine qk (qs (qb ?_))
  obtain⟨x2,hx2,x3,hx3,x4,hx4,h⟩:=kY h
  exact rk hC [oX aD hp,oQ (aLL aC hs1 hx2),oC [21] [] (tY G n x k x2 hx2 1 fF fC0 f hf hx3 hx4)] (fr 19 8) [] [(21,some (E.tree fD 1 1 (List.map aC x4) []))] [(21,true)] (rk hC [] [6,17,18] [(6,vI (wr (k+1)))] [] [] (lE h))
 ·refine cM (rq hC [oX aD hp,oN aJ p.body] (fr 27 6) [(30,ms 22 1 9 aJ p.body),(31,vI (p.body.length:Int)),(32,vI 0)] [] [] (qb (jP h (fun x_=>aX [(0,V.eref 0 g 2 (0+Int.toNat i) 0),(2,V.fn fF [V.tp fC0]),(30,ms 22 1 9 aJ x_.1),(31,vI (p.body.length:Int)),(32,vI x_.2)] [(0,E.tree fD 0 g (List.map aD rows) [((0+Int.toNat i),1,ms 22 1 9 aJ p.body),((0+Int.toNat i),0,ms 21 1 2 aC p.nest)]),(21,E.tree fD 1 1 (List.map aC x) []),(22,ar 87 1 9 aJ x_.1)] [0,21,22]) lS ?_)))
  rintro again2 ⟨y,j⟩ h
  obtain⟨s2,hs2,h⟩:=bd h
  refine rq hC [] [33] [(33,vB (decide (j<(p.body.length:Int))))] [] [] (qs (aT h (fun c2 h=> ?_) (fun c2 h=> ?_)))
  ·refine qk (qs (qb ?_))
   obtain⟨x6,hx6,h⟩:=bd h
   refine rq hC [oQ (iX aJ hx6),oX aJ hx6,.z (.nat 24)] [7,8,34,35,36] [(7,vI j),(8,V.ref 24 0)] [(24,some (E.cells (d4 x6)))] [(24,true)] ?_
   obtain⟨x7,hx7,x8,hx8,h⟩:=cS h
   exact dk hC bD [oX aD hp,oV (Q9 G n x6 fF fC0 f hf hx7),oQ (aLL aJ hs2 hx6),oX aJ hx6,.z (.rows (List.map aJ x8)),oQ (str aJ hx8)] (fr 37 9) [] [(22,some (ar 87 1 9 aJ x8))] [] (qw (zQ hC [.len 30 (List.map aJ x8).length] [30] [(30,ms 22 1 9 aJ x8)] [] [] (a1 (lI aJ hx8)) (by kernel_rfl)) (rk hC [] [32,46] [(32,vI (wr (j+1)))] [] [] (lE h)))
  ·obtain rfl:=so h
   exact qw (zQ hC [.tre 22 fD 2,.unf 0 22 (aD p) (List.map aD (rows.set i.toNat (⟨p.nest,y⟩:Part))),.unf 0 21 (aD (⟨p.nest,y⟩:Part)) (List.map aD rows')] [] [] [(22,none),(21,none),(0,some (E.tree fD 0 g (List.map aD rows') []))] [] (a8 (sE aJ hs2) (Eq.refl fD) (o0 aD hp) (S4 aD (aBA hr (⟨p.nest,y⟩:Part)) rfl) (sE aC hs1) (Eq.refl fD) (o0 aD (aHb hr (⟨p.nest,y⟩:Part))) (S4 aD (aBz hr (⟨p.nest,y⟩:Part)) rfl)) (by kernel_rfl)) (cM eW)
theorem F7{a}{r}(h:cU n a=some r):VQ G 65 [] [V.agg (aQ a)] (V.agg [ms 0 1 1 rI r.coefs,vI r.const]) [ar 3 1 1 rI r.coefs]:=by
 unfold cU at h
 refine vq aO Tryz.func65 rfl fun w X β0 hC hg=> ?_
 refine rq hC [.z (.b (true)),.z (.nat 20)] [1,2] [(1,V.tp (bJ a)),(2,V.ref 20 0)] [(20,sc [V.t T.nilS,vI 0])] [(20,true)] (qs ?_)
 obtain⟨x1,hx1,h⟩:=bd h
 obtain rfl:=so h
 exact dk hC bD [oC [] [21] (G.clone a.coefs hx1)] (fr 3 6) [] [(21,some (ar 3 1 1 rI x1)),(20,sc [ms 21 1 1 rI x1,vI a.const])] [(21,true)] (qw (lk hC [.rn 21 0 [] [20]] [] [] [(20,sc [ms 0 1 1 rI x1,vI a.const]),(21,none),(0,some (ar 3 1 1 rI x1))] [(0,true)]) (qr eW))
theorem vG(G:GS)(n:Nat)(a:Affine){r:Affine}(h:cU n a=some r):PQ G 65 [V.agg (aQ a)] (V.agg (aQ r)):=by
 unfold cU at h
 refine pq aO Tryz.func65 rfl fun w X hC=> ?_
 refine rq hC [.z (.b (true)),.z (.nat 20)] [1,2] [(1,V.tp (bJ a)),(2,V.ref 20 0)] [(20,sc [V.t T.nilS,vI 0])] [(20,true)] (qs ?_)
 obtain⟨x1,hx1,h⟩:=bd h
 obtain rfl:=so h
 exact dk hC bD [oC [] [21] (G.clone a.coefs hx1)] (fr 3 6) [] [(21,some (ar 3 1 1 rI x1)),(20,sc [ms 21 1 1 rI x1,vI a.const])] [(21,true)] (qw (lk hC [.fz 21 [] [20]] [] [] [(20,sc [vM rI x1,vI a.const]),(21,none)] []) (qr eR))
theorem D9{s}{r}(h:pU n s=some r):PQ G 176 [V.agg (d4 s)] (V.agg (d4 r)):=by
 unfold pU at h
 refine pq aO Tryz.func176 rfl fun w X hC=> ?_
 refine rq hC [.z (.b (true)),.z (.nat 20)] [1,2] [(1,V.tp (pB s)),(2,V.ref 20 0)] [(20,sc [vS [],V.t T.nilS,vI 0,vI 0,V.t T.nilS,vI 0,vS [],V.t T.nilS,V.t T.nilS])] [(20,true)] ?_
 obtain⟨x1,hx1,h⟩:=bd h
 obtain rfl:=so h
 exact rq hC [oV (aCz G n s 65 (fun q0=>cU n q0) (fun q0 r h=>vG G n q0 h) hx1)] [3,4] [] [(20,some (E.cells (d4 x1)))] [] (qr eR)
end Go.Lift
