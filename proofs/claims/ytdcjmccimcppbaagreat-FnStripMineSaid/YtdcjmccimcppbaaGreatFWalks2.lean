/- The walks: the code computes what the plain functions say. -/
import Derived.Test.YtdcjmccimcppbaaGreatFModels
import Derived.Test.YtdcjmccimcppbaaGreatFWalks1
set_option maxRecDepth 10000
set_option linter.unusedVariables false
namespace Go.Lift
open Go Go.Proofs
variable (G:GS) {n:Nat}
theorem U4{nest}{r}(h:lO n nest=some r):VQ G 175 [] [vM aC nest] (V.tup [ms 0 1 1 (rL rI) r.1,vB r.2]) [ar 48 1 1 (rL rI) r.1]:=by
 unfold lO at h
 refine vq aO Tryz.func175 rfl fun w X β0 hC hg=> ?_
 refine rq hC [] [2,3] [] [] [] (qs ?_)
 obtain⟨x1,hx1,h⟩:=bd h
 refine rq hC [oV (mQ G hx1)] [5,6,7] [(7,vB (!x1))] [] [] (aS h (fun c1 h=> ?_) (fun c1 h=> ?_))
 ·obtain rfl:=so h
  exact rq hC [] [2,3] [(2,V.t T.nilS),(3,vB false)] [] [] (qw (lk hC [.grow 2 0 48] [2] [(2,ms 0 1 1 (rL rI) [])] [(0,some (ar 48 1 1 (rL rI) []))] [(0,true)]) (qr eW))
 ·refine qk (rq hC [.z (.nat 20)] [4,8,9,10] [(4,V.ref 20 0)] [(20,sc [vM aC nest,vI 0,V.t T.nilS])] [(20,true)] (qs ?_))
  obtain⟨x2,hx2,h⟩:=bd h
  refine rq hC [.z (.at 2),.z (.growc 20 2 21 48),oC [20,21] [] (D1 G n (⟨nest,0,[]⟩:Walking) 1 [] hx2)] [11,12,13] [(13,vB (!x2.1))] [(21,some (ar 48 2 1 (rL rI) x2.2.out)),(20,sc [vM aC x2.2.nest,vI x2.2.steps,ms 21 2 1 (rL rI) x2.2.out])] [(21,true),(20,true),(21,true)] (aS h (fun c2 h=> ?_) (fun c2 h=> ?_))
  ·obtain rfl:=so h
   exact rq hC [] [2,3] [(2,V.t T.nilS),(3,vB false)] [] [] (qw (lk hC [.grow 2 0 48] [2] [(2,ms 0 1 1 (rL rI) [])] [(0,some (ar 48 1 1 (rL rI) []))] [(0,true)]) (qr eW))
  ·obtain rfl:=so h
   exact qk (rq hC [] [2,3,14,15,16,17] [(2,ms 21 2 1 (rL rI) x2.2.out),(3,vB true)] [] [] (qw (lk hC [.ren 2 21 0] [2] [(2,ms 0 1 1 (rL rI) x2.2.out)] [(0,some (ar 48 1 1 (rL rI) x2.2.out)),(21,none)] [(0,true)]) (qr eW)))
theorem jI{a}{r}(h:mC n a=some r):PQ G 313 [V.agg (aK a)] (vB r):=by
 unfold mC at h
 refine pq aO Tryz.func313 rfl fun w X hC=> ?_
 refine rq hC [.z (.b (true))] [1,2] [(1,V.tp (aT a))] [] [] (vj h (fun x_=>aX [(2,vB x_)] [] []) (fun j1 h=> ?_) (fun x2 h=> ?_))
 ·
  refine aQ h (fun c1 h=> ?_) (fun c1 h=> ?_)
  ·exact rk hC ([oN rI a.coefs]++rF 4 c1) (fr 2 10) [(2,vB false)] [] [] (lE h)
  ·exact rk hC ([oN rI a.coefs]++rT 4 c1) (fr 2 10) [(2,vB (decide (a.const=0)))] [] [] (lE h)
 ·obtain rfl:=so h
  exact qr eR
theorem nZ{a}{r}(h:iT n a=some r):PQ G 314 [V.agg (cF a)] (vB r):=by
 unfold iT at h
 refine pq aO Tryz.func314 rfl fun w X hC=> ?_
 refine rq hC [.z (.b (true))] [1,2] [(1,V.tp (dQ a))] [] [] (vj h (fun x_=>aX [(2,vB x_)] [] []) (fun j1 h=> ?_) (fun x2 h=> ?_))
 ·
  refine aQ h (fun c1 h=> ?_) (fun c1 h=> ?_)
  ·exact rk hC (rF 5 c1) (fr 2 10) [(2,vB false)] [] [] (lE h)
  ·exact rk hC (rT 3 c1++[oN aA a.subs,oT c1,oT c1]) (fr 2 10) [(2,vB (decide ((a.subs.length:Int)=0)))] [] [] (lE h)
 ·obtain rfl:=so h
  exact qr eR
theorem U1(G:GS)(n:Nat)(s:Affine)(c0__a1:Int){r:Bool}(h:jG n s c0__a1=some r):PQ G 311 [V.agg (aK s),V.tp [T.int .i64 c0__a1]] (vB r):=by
 unfold jG at h
 refine pq aO Tryz.func311 rfl fun w X hC=> ?_
 refine rq hC [.z (.b (true))] [2,3] [(2,V.tp (aT s))] [] [] (vj h (fun x_=>aX [(3,vB x_)] [] []) (fun j1 h=> ?_) (fun x4 h=> ?_))
 ·
  obtain⟨x2,hx2,h⟩:=bd h
  refine aQ h (fun c1 h=> ?_) (fun c1 h=> ?_)
  ·obtain⟨x3,hx3,h⟩:=bd h
   exact dk hC bA ([oV (eG G hx2),oF c1,oF c1,oV (gG G hx3)]++rF 3 c1) (fr 3 10) [(3,vB (decide (c0__a1<x3)))] [] [] (lE h)
  ·exact dk hC bA ([oV (eG G hx2)]++rT 5 c1) (fr 3 10) [(3,vB true)] [] [] (lE h)
 ·obtain rfl:=so h
  exact qr eR
theorem n4{a}{depth}{r}(h:mE n a depth=some r):PQ G 255 [V.agg (cF a),vI depth] (vB r):=by
 unfold mE at h
 refine pq aO Tryz.func255 rfl fun w X hC=> ?_
 refine rq hC [.z (.b (true)),.z (.b (true))] [2,3,4] [(2,V.tp (dQ a)),(3,V.tp [T.int .i64 depth])] [] [] (vj h (fun x_=>aX [(4,vB x_)] [] []) (fun j1 h=> ?_) (fun x5 h=> ?_))
 ·
  obtain⟨x2,hx2,h⟩:=bd h
  refine aQ h (fun c1 h=> ?_) (fun c1 h=> ?_)
  ·exact rk hC ([oV (fR G hx2)]++rF 5 c1++sF 6) (fr 4 17) [(4,vB false)] [] [] (lE h)
  ·obtain⟨x3,hx3,h⟩:=bd h
   refine aQ h (fun c2 h=> ?_) (fun c2 h=> ?_)
   ·exact rk hC ([oV (fR G hx2)]++rT 3 c1++[oN aA a.subs,oT c1,oV (bD G hx3),oT c1]++rF 6 c2) (fr 4 17) [(4,vB false)] [] [] (lE h)
   ·obtain⟨x4,hx4,h⟩:=bd h
    exact rk hC ([oV (fR G hx2)]++rT 3 c1++[oN aA a.subs,oT c1,oV (bD G hx3),oT c1]++rT 4 c2++[oV (iW G n a.subs 311 [T.int .i64 depth] (fun q0=>jG n q0 depth) (fun q0 r h=>U1 G n q0 depth h) hx4),oT c2,oT c2]) (fr 4 17) [(4,vB (!x4))] [] [] (lE h)
 ·obtain rfl:=so h
  exact qr eR
theorem aBn(G:GS): ∀(n:Nat) (e:Expr) (depth:Int) (deep:Int) (count:Int) {r:Bool×Int} (h:i_exprScan n e depth deep count=some r),VQ G 256 [E.cells [vI count]] [V.agg (cU e),vI depth,vI deep,V.ref 0 0] (vB r.1) [E.cells [vI r.2]]:=by
 intro n
 induction n with
 |zero=>intro e depth deep count r h;rw [i_exprScan.eq_def] at h;cases h
 |succ n ih=>
  intro e depth deep count r h
  rw [i_exprScan.eq_def] at h;dsimp only at h
  refine vq aO Tryz.func256 rfl fun w X β0 hC hg=> ?_
  refine rq hC [.z (.b (true))] [4,8] [(4,V.tp (fI e))] [] [] (rq hC [] (fr 9 5) [] [(0,sc [vI (wr (count+1))])] [] (qs (vj h (fun x_=>aX [(1,vI depth),(2,vI deep),(3,V.ref 0 0),(4,V.tp (fI e)),(21,vB x_)] [(0,E.cells [vI (wr (count+1))])] [0]) (fun j1 h=> ?_) (fun x2 h=> ?_))))
  ·
   refine aQ h (fun c1 h=> ?_) (fun c1 h=> ?_)
   ·exact rk hC (rF 3 c1) (fr 14 8) [(21,vB (decide ((5:Int)<deep)))] [] [] (lE h)
   ·exact rk hC (rT 3 c1) (fr 14 8) [(21,vB true)] [] [] (lE h)
  ·refine aS h (fun c2 h=> ?_) (fun c2 h=> ?_)
   ·obtain rfl:=so h
    exact rq hC [] [8] [(8,vB false)] [] [] (qr eW)
   ·refine qk (qs (vj h (fun x_=>aX [(1,vI depth),(2,vI deep),(3,V.ref 0 0),(4,V.tp (fI e)),(51,vB x_)] [(0,E.cells [vI (wr (count+1))])] [0]) (fun j3 h=> ?_) (fun x10 h=> ?_)))
    ·
     refine aQ h (fun c3 h=> ?_) (fun c3 h=> ?_)
     ·refine aQ h (fun c4 h=> ?_) (fun c4 h=> ?_)
      ·refine aQ h (fun c5 h=> ?_) (fun c5 h=> ?_)
       ·exact rk hC (rF 4 c3++sF 4++rF 4 c4++[eF,oF c4]++sF 5++rF 4 c5++[eF,oF c5,eF]) (fr 22 30) [(51,vB false)] [] [] (lE h)
       ·obtain⟨x4,hx4,h⟩:=bd h
        exact rk hC (rF 4 c3++sF 4++rF 4 c4++[eF,oF c4]++sF 5++rT 3 c5++[oV (nZ G hx4),oT c5,eF,oT c5,eF]) (fr 22 30) [(51,vB (!x4))] [] [] (lE h)
      ·obtain⟨x5,hx5,h⟩:=bd h
       refine aQ h (fun c6 h=> ?_) (fun c6 h=> ?_)
       ·refine aQ h (fun c7 h=> ?_) (fun c7 h=> ?_)
        ·exact rk hC (rF 4 c3++sF 4++rT 3 c4++[oV (jI G hx5),oT c4,eF,oT c4,eF]++rF 4 c6++rF 4 c7++[oF c6,oF c7,oF c6]) (fr 22 30) [(51,vB false)] [] [] (lE h)
        ·obtain⟨x6,hx6,h⟩:=bd h
         exact rk hC (rF 4 c3++sF 4++rT 3 c4++[oV (jI G hx5),oT c4,eF,oT c4,eF]++rF 4 c6++rT 3 c7++[oV (nZ G hx6),oT c7,oF c6,oT c7,oF c6]) (fr 22 30) [(51,vB (!x6))] [] [] (lE h)
       ·exact rk hC (rF 4 c3++sF 4++rT 3 c4++[oV (jI G hx5),oT c4,eF,oT c4,eF]++rT 6 c6) (fr 22 30) [(51,vB true)] [] [] (lE h)
     ·refine aQ h (fun c8 h=> ?_) (fun c8 h=> ?_)
      ·refine aQ h (fun c9 h=> ?_) (fun c9 h=> ?_)
       ·refine aQ h (fun c10 h=> ?_) (fun c10 h=> ?_)
        ·exact rk hC (rT 4 c3++rF 4 c8++rF 4 c9++[oF c8,oF c9,oF c8]++sF 4++rF 4 c10++[eF,oF c10,eF]) (fr 22 30) [(51,vB false)] [] [] (lE h)
        ·obtain⟨x7,hx7,h⟩:=bd h
         exact rk hC (rT 4 c3++rF 4 c8++rF 4 c9++[oF c8,oF c9,oF c8]++sF 4++rT 3 c10++[oV (nZ G hx7),oT c10,eF,oT c10,eF]) (fr 22 30) [(51,vB (!x7))] [] [] (lE h)
       ·obtain⟨x8,hx8,h⟩:=bd h
        refine aQ h (fun c11 h=> ?_) (fun c11 h=> ?_)
        ·refine aQ h (fun c12 h=> ?_) (fun c12 h=> ?_)
         ·exact rk hC (rT 4 c3++rF 4 c8++rT 3 c9++[oV (jI G hx8),oT c9,oF c8,oT c9,oF c8]++rF 4 c11++rF 4 c12++[oF c11,oF c12,oF c11]) (fr 22 30) [(51,vB false)] [] [] (lE h)
         ·obtain⟨x9,hx9,h⟩:=bd h
          exact rk hC (rT 4 c3++rF 4 c8++rT 3 c9++[oV (jI G hx8),oT c9,oF c8,oT c9,oF c8]++rF 4 c11++rT 3 c12++[oV (nZ G hx9),oT c12,oF c11,oT c12,oF c11]) (fr 22 30) [(51,vB (!x9))] [] [] (lE h)
        ·exact rk hC (rT 4 c3++rF 4 c8++rT 3 c9++[oV (jI G hx8),oT c9,oF c8,oT c9,oF c8]++rT 6 c11) (fr 22 30) [(51,vB true)] [] [] (lE h)
      ·exact rk hC (rT 4 c3++rT 6 c8++sT 6) (fr 22 30) [(51,vB true)] [] [] (lE h)
    ·refine aS h (fun c13 h=> ?_) (fun c13 h=> ?_)
     ·obtain rfl:=so h
      exact rq hC [] [8] [(8,vB false)] [] [] (qr eW)
     ·refine qk (qs (qb (rq hC [] (fr 52 4) [(52,vB (decide (e.kind=1)))] [] [] (aS h (fun c14 h=> ?_) (fun c14 h=> ?_)))))
      ·refine vj h (fun x_=>aX [(8,vB x_)] [(0,E.cells [vI (wr (count+1))])] [0]) (fun j11 h=> ?_) (fun x13 h=> ?_)
       ·
        obtain⟨x12,hx12,h⟩:=bd h
        refine aQ h (fun c15 h=> ?_) (fun c15 h=> ?_)
        ·exact rk hC ([oV (bD G hx12)]++rF 5 c15) [8,56,57,58,59,60,61,62,63,64] [(8,vB false)] [] [] (lE h)
        ·exact rk hC ([oV (bD G hx12)]++rT 3 c15++[oN aI e.kids,oT c15,oT c15]) [8,56,57,58,59,60,61,62,63,64] [(8,vB (decide ((e.kids.length:Int)=0)))] [] [] (lE h)
       ·obtain rfl:=so h
        exact qr eW
      ·refine rq hC [] (fr 65 4) [(65,vB (decide (e.kind=2)))] [] [] (aS h (fun c16 h=> ?_) (fun c16 h=> ?_))
       ·refine vj h (fun x_=>aX [(8,vB x_)] [(0,E.cells [vI (wr (count+1))])] [0]) (fun j14 h=> ?_) (fun x17 h=> ?_)
        ·
         obtain⟨x15,hx15,h⟩:=bd h
         refine aQ h (fun c17 h=> ?_) (fun c17 h=> ?_)
         ·exact rk hC ([oV (eG G hx15)]++rF 6 c17++sF 5) [8,69,70,71,72,73,74,75,76,77,78,79,80,81,82,83,84] [(8,vB false)] [] [] (lE h)
         ·obtain⟨x16,hx16,h⟩:=bd h
          refine aQ h (fun c18 h=> ?_) (fun c18 h=> ?_)
          ·exact rk hC ([oV (eG G hx15)]++rT 3 c17++[oV (gG G hx16)]++rT 3 c17++rF 5 c18) [8,69,70,71,72,73,74,75,76,77,78,79,80,81,82,83,84] [(8,vB false)] [] [] (lE h)
          ·exact rk hC ([oV (eG G hx15)]++rT 3 c17++[oV (gG G hx16)]++rT 3 c17++rT 3 c18++[oN aI e.kids,oT c18,oT c18]) [8,69,70,71,72,73,74,75,76,77,78,79,80,81,82,83,84] [(8,vB (decide ((e.kids.length:Int)=0)))] [] [] (lE h)
        ·obtain rfl:=so h
         exact qr eW
       ·refine rq hC [] (fr 85 4) [(85,vB (decide (e.kind=3)))] [] [] (aS h (fun c19 h=> ?_) (fun c19 h=> ?_))
        ·refine vj h (fun x_=>aX [(8,vB x_)] [(0,E.cells [vI (wr (count+1))])] [0]) (fun j18 h=> ?_) (fun x20 h=> ?_)
         ·
          obtain⟨x19,hx19,h⟩:=bd h
          refine aQ h (fun c20 h=> ?_) (fun c20 h=> ?_)
          ·exact rk hC ([oV (n4 G hx19)]++rF 5 c20) [8,89,90,91,92,93,94,95,96,97,98] [(8,vB false)] [] [] (lE h)
          ·exact rk hC ([oV (n4 G hx19)]++rT 3 c20++[oN aI e.kids,oT c20,oT c20]) [8,89,90,91,92,93,94,95,96,97,98] [(8,vB (decide ((e.kids.length:Int)=0)))] [] [] (lE h)
         ·obtain rfl:=so h
          exact qr eW
        ·refine vj h (fun x_=>aX [(1,vI depth),(2,vI deep),(3,V.ref 0 0),(4,V.tp (fI e)),(99,vB x_)] [(0,E.cells [vI (wr (count+1))])] [0]) (fun j21 h=> ?_) (fun x23 h=> ?_)
         ·
          obtain⟨x22,hx22,h⟩:=bd h
          refine aQ h (fun c21 h=> ?_) (fun c21 h=> ?_)
          ·exact rk hC ([oV (aCQ G hx22)]++rF 3 c21++[oN aI e.kids,oF c21,oF c21]) (fr 99 11) [(99,vB (!decide ((e.kids.length:Int)=2)))] [] [] (lE h)
          ·exact rk hC ([oV (aCQ G hx22)]++rT 5 c21) (fr 99 11) [(99,vB true)] [] [] (lE h)
         ·refine aS h (fun c22 h=> ?_) (fun c22 h=> ?_)
          ·obtain rfl:=so h
           exact rq hC [] [8] [(8,vB false)] [] [] (qr eW)
          ·refine qk (vj h (fun x_=>aX [(8,vB x_.2)] [(0,E.cells [vI x_.1])] [0]) (fun j24 h=> ?_) ?_)
           ·
            obtain⟨x25,hx25,x26,hx26,h⟩:=cO h
            refine aQ h (fun c23 h=> ?_) (fun c23 h=> ?_)
            ·exact rk hC ([.z (.row (eC x25)),oQ (eZ aI hx25 (cQ x25)),oC [0] [] (ih x25 depth (wr (deep+1)) (wr (count+1)) hx26)]++rF 10 c23) [8,110,111,112,113,114,115,116,117,118,119,120,121,122,123,124,125,126,127,128,129] [(8,vB false)] [(0,sc [vI x26.2])] [(0,true)] (lE h)
            ·obtain⟨x27,hx27,x28,hx28,h⟩:=cO h
             exact rk hC ([.z (.row (eC x25)),oQ (eZ aI hx25 (cQ x25)),oC [0] [] (ih x25 depth (wr (deep+1)) (wr (count+1)) hx26)]++rT 3 c23++[.z (.row (eC x27)),oQ (eZ aI hx27 (cQ x27))]++rT 6 c23++[oC [0] [] (ih x27 depth (wr (deep+1)) x26.2 hx28),oT c23]) [8,110,111,112,113,114,115,116,117,118,119,120,121,122,123,124,125,126,127,128,129] [(8,vB x28.1)] [(0,sc [vI x28.2])] [(0,true),(0,true)] (lE h)
           ·rintro⟨x29,x30⟩ h
            obtain rfl:=so h
            exact qr eW
theorem X9{s}{depth}{r}(h:m8 n s depth=some r):PQ G 178 [V.agg (cS s),vI depth] (vB r):=by
 unfold m8 at h
 refine pq aO Tryz.func178 rfl fun w X hC=> ?_
 refine rq hC [.z (.b (true))] [2,4] [(2,V.tp (oW s))] [] [] (rq hC [.z (.nat 20)] [5] [(5,V.ref 20 0)] [(20,sc [vI 0])] [(20,true)] (vj h (fun x_=>aX [(4,vB x_.2)] [(20,E.cells [vI x_.1])] [20]) (fun j1 h=> ?_) ?_))
 ·
  obtain⟨x2,hx2,h⟩:=bd h
  refine aQ h (fun c1 h=> ?_) (fun c1 h=> ?_)
  ·exact rk hC ([oV (bD G hx2)]++rF 5 c1++sF 5) [4,6,7,8,9,10,11,12,13,14,15,16,17,18,19] [(4,vB false)] [] [] (lE h)
  ·obtain⟨x3,hx3,h⟩:=bd h
   refine aQ h (fun c2 h=> ?_) (fun c2 h=> ?_)
   ·exact rk hC ([oV (bD G hx2)]++rT 4 c1++[oV (n4 G hx3),oT c1]++rF 5 c2) [4,6,7,8,9,10,11,12,13,14,15,16,17,18,19] [(4,vB false)] [] [] (lE h)
   ·obtain⟨x4,hx4,h⟩:=bd h
    exact rk hC ([oV (bD G hx2)]++rT 4 c1++[oV (n4 G hx3),oT c1]++rT 4 c2++[oC [20] [] (aBn G n s.value depth 1 0 hx4),oT c2]) [4,6,7,8,9,10,11,12,13,14,15,16,17,18,19] [(4,vB x4.1)] [(20,sc [vI x4.2])] [(20,true)] (lE h)
 ·rintro⟨x5,x6⟩ h
  obtain rfl:=so h
  exact qr eR
theorem rO(G:GS)(n:Nat)(s:Stmt)(c0__a1:Part){r:Bool}(h:cP n s c0__a1=some r):PQ G 177 [V.agg (cS s),V.tp (mT c0__a1)] (vB r):=by
 unfold cP at h
 refine pq aO Tryz.func177 rfl fun w X hC=> ?_
 refine rq hC [.z (.b (true))] [2,3] [(2,V.tp (oW s))] [] [] ?_
 obtain⟨x1,hx1,h⟩:=bd h
 obtain rfl:=so h
 exact rq hC [oN aC c0__a1.nest,oV (X9 G hx1)] (fr 3 7) [(3,vB (!x1))] [] [] (qr eR)
theorem X6(G:GS)(n:Nat)(n_a0:Int){r:Bool}(h:kT n n_a0=some r):PQ G 257 [vI n_a0] (vB r):=by
 unfold kT at h
 refine pq aO Tryz.func257 rfl fun w X hC=> ?_
 refine rq hC [] [2] [] [] [] ?_
 obtain⟨x1,hx1,h⟩:=bd h
 obtain rfl:=so h
 exact rq hC [oV (bD G hx1)] (fr 2 4) [(2,vB (!x1))] [] [] (qr eR)
theorem uV{point}{r}(h:oG n point=some r):PQ G 179 [vM rI point] (vB r):=by
 unfold oG at h
 refine pq aO Tryz.func179 rfl fun w X hC=> ?_
 refine rq hC [] [2] [] [] [] (vj h (fun x_=>aX [(2,vB x_)] [] []) (fun j1 h=> ?_) (fun x3 h=> ?_))
 ·
  refine aQ h (fun c1 h=> ?_) (fun c1 h=> ?_)
  ·exact rk hC ([oN rI point]++rF 4 c1) (fr 2 9) [(2,vB false)] [] [] (lE h)
  ·obtain⟨x2,hx2,h⟩:=bd h
   exact rk hC [oN rI point,oT c1,oT c1,oV (d4 G n point 257 (fun q0=>kT n q0) (fun q0 r h=>X6 G n q0 h) hx2),oT c1,oT c1] (fr 2 9) [(2,vB (!x2))] [] [] (lE h)
 ·obtain rfl:=so h
  exact qr eR
theorem aAv(G:GS): ∀(n:Nat) (e:Expr) {r:(List Access)} (h:i_reads n e=some r),VQ G 259 [] [V.agg (cU e)] (ms 0 1 2 aU r) [ar 77 1 2 aU r]:=by
 intro n
 induction n with
 |zero=>intro e r h;rw [i_reads.eq_def] at h;cases h
 |succ n ih=>
  intro e r h
  rw [i_reads.eq_def] at h;dsimp only at h
  refine vq aO Tryz.func259 rfl fun w X β0 hC hg=> ?_
  refine rq hC [.z (.b (true))] [1,2] [(1,V.tp (fI e))] [] [] (qs (rq hC [] [6,7,8] [(8,vB (decide (e.kind=3)))] [] [] (aS h (fun c1 h=> ?_) (fun c1 h=> ?_))))
  ·obtain rfl:=so h
   exact rq hC [.z (.int 1),.z (.nat 20)] [2,9,10,11] [(2,ms 20 1 2 aU [e.read])] [(20,some (ar 77 1 2 aU [e.read]))] [(20,true)] (qw (lk hC [.ren 2 20 0] [2] [(2,ms 0 1 2 aU [e.read])] [(0,some (ar 77 1 2 aU [e.read])),(20,none)] [(0,true)]) (qr eW))
  ·refine qk (rq hC [] [3] [(3,V.t T.nilS)] [] [] (qs (rq hC [oN aI e.kids] (fr 12 4) [(13,vM aI e.kids),(14,vI (e.kids.length:Int)),(15,vI 0)] [] [] (qb (qw (lk hC [.grow 3 20 77] [3] [(3,ms 20 1 2 aU [])] [(20,some (ar 77 1 2 aU []))] [(20,true)]) ?_)))))
   refine bF (γ:=Nat) h (fun x_ g_=>aX [(3,ms 20 g_ 2 aU x_.1),(13,vM aI e.kids),(14,vI (e.kids.length:Int)),(15,vI x_.2)] [(20,ar 77 g_ 2 aU x_.1)] [20]) 1 (lS) ?_
   rintro again4 ⟨x1,x2⟩ g3 h
   refine rq hC [] [16] [(16,vB (decide (x2<(e.kids.length:Int))))] [] [] (qs (aS h (fun c2 h=> ?_) (fun c2 h=> ?_)))
   ·refine qk (qs (qb ?_))
    obtain⟨x5,hx5,h⟩:=bd h
    refine rq hC [.z (.row (eC x5)),.z (.nat 21),oQ (eZ aI hx5 (cQ x5))] [5,17,18] [(5,V.ref 21 0)] [(21,some (E.cells (cU x5)))] [(21,true)] ?_
    obtain⟨x6,hx6,x7,hx7,h⟩:=cO h
    exact rk hC [oC [] [22] (ih x5 hx6),.z (.at 2),.z (.fz 22 [21] []),oA (aP aU hx7),oQ (bW (r:=aU) 2 pU x1),oQ (bW (r:=aU) 2 pU x6)] [3,19,20,21,22] [(3,ms 20 (g3+1) 2 aU x7)] [(22,none),(20,some (ar 77 (g3+1) 2 aU x7))] [(22,true)] (rk hC [] [15,23] [(15,vI (wr (x2+1)))] [] [] ⟨(x7,wr (x2+1)),(g3+1),h,lS⟩)
   ·obtain rfl:=so h
    exact cW (rq hC [] [2,24] [(2,ms 20 g3 2 aU x1)] [] [] (qw (lk hC [.ren 2 20 0] [2] [(2,ms 0 1 2 aU x1)] [(0,some (ar 77 1 2 aU x1)),(20,none)] [(0,true)]) (qr eW)))
theorem u6{a}{r}(h:lR n a=some r):PQ G 261 [V.agg [vS a.name,vM rI a.dims]] (vI r):=by
 unfold lR at h
 refine pq aO Tryz.func261 rfl fun w X hC=> ?_
 refine rq hC [.z (.b (true))] [1,2] [(1,V.tp [T.str a.name,T.sl (List.map rI a.dims)])] [] [] (rq hC [] [3] [(3,vI 1)] [] [] (qs (rq hC [oN rI a.dims] (fr 6 4) [(7,vM rI a.dims),(8,vI (a.dims.length:Int)),(9,vI 0)] [] [] (qb (jN h (fun x_=>aX [(3,vI x_.1),(7,vM rI a.dims),(8,vI (a.dims.length:Int)),(9,vI x_.2)] [] []) lS ?_)))))
 rintro again3 ⟨x1,x2⟩ h
 refine rq hC [] [10] [(10,vB (decide (x2<(a.dims.length:Int))))] [] [] (qs (aS h (fun c1 h=> ?_) (fun c1 h=> ?_)))
 ·refine qk (qs (qb ?_))
  obtain⟨x4,hx4,h⟩:=bd h
  exact rq hC [oR rI hx4] [5,11,12] [(5,vI x4)] [] [] (rk hC [] [3,13,14,15] [(3,vI (wr (x1*x4)))] [] [] (rk hC [] [9,16] [(9,vI (wr (x2+1)))] [] [] (lE h)))
 ·obtain rfl:=so h
  exact cW (rq hC [] [2,17] [(2,vI x1)] [] [] (qr eR))
theorem dP{p}{a}{point}{r}(h:cR n p a point=some r):PQ G 230 [V.agg (bH p),V.agg (cF a),vM rI point] (vI r):=by
 unfold cR at h
 refine pq aO Tryz.func230 rfl fun w X hC=> ?_
 refine rq hC [.z (.b (true)),.z (.b (true))] [3,4,6] [(3,V.tp (bO p)),(4,V.tp (dQ a))] [] [] (rq hC [] [7] [(7,vI 0)] [] [] (qs (rq hC [oN aJ p.arrays] (fr 14 4) [(15,vM aJ p.arrays),(16,vI (p.arrays.length:Int)),(17,vI 0)] [] [] (qb (jN h (fun x_=>aX [(2,vM rI point),(4,V.tp (dQ a)),(7,vI x_.1),(15,vM aJ p.arrays),(16,vI (p.arrays.length:Int)),(17,vI x_.2)] [] []) lS ?_)))))
 rintro again3 ⟨x1,x2⟩ h
 refine rq hC [] [18] [(18,vB (decide (x2<(p.arrays.length:Int))))] [] [] (qs (aS h (fun c1 h=> ?_) (fun c1 h=> ?_)))
 ·refine qk (qs (qb ?_))
  obtain⟨x4,hx4,h⟩:=bd h
  refine rq hC [oR aJ hx4,.z (.nat 20)] [9,19,20] [(9,V.ref 20 0)] [(20,sc [vS x4.name,vM rI x4.dims])] [(20,true)] (qs (rq hC [] (fr 21 5) [(25,vB (!decide (x4.name=a.array)))] [] [] (aS h (fun c2 h=> ?_) (fun c2 h=> ?_))))
  ·obtain⟨x5,hx5,h⟩:=bd h
   exact rq hC [oV (u6 G hx5)] [7,26,27,28,29] [(7,vI (wr (x1+x5)))] [] [] (cW (rk hC [] [17,70] [(17,vI (wr (x2+1)))] [] [] (lE h)))
  ·refine qk (qs (rq hC [oN aA a.subs,oN rI x4.dims] (fr 30 7) [(36,vB (!decide ((a.subs.length:Int)=(x4.dims.length:Int))))] [] [] (aS h (fun c3 h=> ?_) (fun c3 h=> ?_))))
   ·obtain rfl:=so h
    exact rq hC [] [6] [(6,vI (-1))] [] [] (qr eR)
   ·refine qk (rq hC [] [10] [(10,vI 0)] [] [] (qs (rq hC [oN aA a.subs] (fr 37 4) [(38,vM aA a.subs),(39,vI (a.subs.length:Int)),(40,vI 0)] [] [] (qb (jN h (fun x_=>aX [(2,vM rI point),(7,vI x1),(9,V.ref 20 0),(10,vI x_.1),(38,vM aA a.subs),(39,vI (a.subs.length:Int)),(40,vI x_.2)] [(20,E.cells [vS x4.name,vM rI x4.dims])] [20]) lS ?_)))))
    rintro again8 ⟨x6,x7⟩ h
    refine rq hC [] [41] [(41,vB (decide (x7<(a.subs.length:Int))))] [] [] (qs (aS h (fun c4 h=> ?_) (fun c4 h=> ?_)))
    ·refine qk (qs (qb ?_))
     obtain⟨x9,hx9,h⟩:=bd h
     refine rq hC [oR aA hx9,.z (.nat 21)] [11,12,42,43,44] [(11,vI x7),(12,V.ref 21 0)] [(21,some (E.cells (aK x9)))] [(21,true)] ?_
     obtain⟨x10,hx10,h⟩:=bd h
     refine rq hC [oV (fH G hx10)] [13,45,46,47] [(13,vI x10)] [] [] (qs ?_)
     obtain⟨x11,hx11,x12,hx12,h⟩:=cO h
     refine rq hC [oR rI hx11,oV (bD G hx12)] (fr 48 9) [(56,vB (!x12))] [] [] (aS h (fun c5 h=> ?_) (fun c5 h=> ?_))
     ·obtain rfl:=so h
      exact rq hC [] [6] [(6,vI (-1))] [] [] (qr eR)
     ·exact qk (rk hC [oR rI hx11] [10,57,58,59,60,61,62,63,64,65] [(10,vI (wr ((wr (x6*x11))+x10)))] [] [] (rk hC [] [40,66] [(40,vI (wr (x7+1)))] [] [] (lE h)))
    ·obtain rfl:=so h
     exact cW (rq hC [] [6,67,68,69] [(6,vI (wr (x1+x6)))] [] [] (qr eR))
 ·obtain rfl:=so h
  exact cW (rq hC [] [6] [(6,vI (-1))] [] [] (qr eR))
theorem uZ(G:GS)(n:Nat)(a:Access)(c0__a1:Prog)(c1__a2:List Int){r:Bool}(h:dO n a c0__a1 c1__a2=some r):PQ G 260 [V.agg (cF a),V.tp (bO c0__a1),V.tp [T.sl (List.map rI c1__a2)]] (vB r):=by
 unfold dO at h
 refine pq aO Tryz.func260 rfl fun w X hC=> ?_
 refine rq hC [.z (.b (true))] [3,4] [(3,V.tp (dQ a))] [] [] ?_
 obtain⟨x1,hx1,h⟩:=bd h
 obtain rfl:=so h
 exact rq hC [oV (dP G hx1)] (fr 4 6) [(4,vB (decide (x1<0)))] [] [] (qr eR)
theorem rJ(G:GS)(n:Nat)(s:List Access)(fF:FuncId)(fC0:List T)(fC1:List T)(f:Access→Option Bool)(hf: ∀(q0:Access) r,f q0=some r→PQ G fF [V.agg (cF q0),V.tp fC0,V.tp fC1] (vB r)){r:Int}(h:gL n s f=some r):PQ G 315 [vM aU s,V.fn fF [V.tp fC0,V.tp fC1]] (vI r):=by
 unfold gL at h
 refine pq aO Tryz.func315 rfl fun w X hC=> ?_
 refine rq hC [] [4] [] [] [] (qs (rq hC [oN aU s] [6,7,8] [(7,vI (s.length:Int)),(8,vI 0)] [] [] (qb (jN h (fun x_=>aX [(0,vM aU s),(1,V.fn fF [V.tp fC0,V.tp fC1]),(7,vI (s.length:Int)),(8,vI x_)] [] []) lS ?_))))
 rintro again2 x1 h
 refine rq hC [] [9] [(9,vB (decide (x1<(s.length:Int))))] [] [] (qs (aS h (fun c1 h=> ?_) (fun c1 h=> ?_)))
 ·refine qk (qs (qb (rq hC [] [5,10] [(5,vI x1)] [] [] ?_)))
  obtain⟨x3,hx3,x4,hx4,h⟩:=cO h
  refine rq hC [oR aU hx3,oV (hf x3 _ hx4)] (fr 11 6) [(16,vB x4)] [] [] (aS h (fun c2 h=> ?_) (fun c2 h=> ?_))
  ·obtain rfl:=so h
   exact rq hC [] [4,17] [(4,vI x1)] [] [] (qr eR)
  ·exact qk (rk hC [] [8,18] [(8,vI (wr (x1+1)))] [] [] (lE h))
 ·obtain rfl:=so h
  exact cW (rq hC [] [4] [(4,vI (-1))] [] [] (qr eR))
theorem pP(G:GS)(n:Nat)(s:List Access)(fF:FuncId)(fC0:List T)(fC1:List T)(f:Access→Option Bool)(hf: ∀(q0:Access) r,f q0=some r→PQ G fF [V.agg (cF q0),V.tp fC0,V.tp fC1] (vB r)){r:Bool}(h:dK n s f=some r):PQ G 258 [vM aU s,V.fn fF [V.tp fC0,V.tp fC1]] (vB r):=by
 unfold dK at h
 refine pq aO Tryz.func258 rfl fun w X hC=> ?_
 refine rq hC [] [4] [] [] [] ?_
 obtain⟨x1,hx1,h⟩:=bd h
 obtain rfl:=so h
 exact rq hC [oV (rJ G n s fF fC0 fC1 f hf hx1)] (fr 4 5) [(4,vB (decide ((0:Int)≤x1)))] [] [] (qr eR)
theorem xP{p}{s}{point}{r}(h:gE n p s point=some r):PQ G 180 [V.agg (bH p),V.agg (cS s),vM rI point] (vB r):=by
 unfold gE at h
 refine pq aO Tryz.func180 rfl fun w X hC=> ?_
 refine rq hC [.z (.b (true)),.z (.b (true)),.z (.b (true))] (fr 3 4) [(3,V.tp (bO p)),(4,V.tp (oW s)),(5,V.tp [T.sl (List.map rI point)])] [] [] (vj h (fun x_=>aX [(6,vB x_)] [] []) (fun j1 h=> ?_) (fun x5 h=> ?_))
 ·
  obtain⟨x2,hx2,h⟩:=bd h
  refine aQ h (fun c1 h=> ?_) (fun c1 h=> ?_)
  ·exact rk hC ([oV (dP G hx2)]++rF 7 c1) (fr 6 15) [(6,vB false)] [] [] (lE h)
  ·obtain⟨x3,hx3,x4,hx4,h⟩:=cO h
   exact rk hC ([oV (dP G hx2)]++rT 3 c1++[oC [] [20] (aAv G n s.value hx3),oT c1,oT c1,.z (.b (true)),oV (pP G n x3 260 (bO p) [T.sl (List.map rI point)] (fun q0=>dO n q0 p point) (fun q0 r h=>uZ G n q0 p point h) hx4),oT c1,oT c1]) (fr 6 15) [(6,vB (!x4))] [(20,some (ar 77 1 2 aU x3))] [(20,true)] (lE h)
 ·obtain rfl:=so h
  exact qr eR
theorem tP(G:GS)(n:Nat)(s:List Stmt)(fF:FuncId)(fC0:List T)(f:Stmt→Option Bool)(hf: ∀(q0:Stmt) r,f q0=some r→PQ G fF [V.agg (cS q0),V.tp fC0] (vB r)){r:Int}(h:jA n s f=some r):PQ G 254 [vM aG s,V.fn fF [V.tp fC0]] (vI r):=by
 unfold jA at h
 refine pq aO Tryz.func254 rfl fun w X hC=> ?_
 refine rq hC [] [4] [] [] [] (qs (rq hC [oN aG s] [6,7,8] [(7,vI (s.length:Int)),(8,vI 0)] [] [] (qb (jN h (fun x_=>aX [(0,vM aG s),(1,V.fn fF [V.tp fC0]),(7,vI (s.length:Int)),(8,vI x_)] [] []) lS ?_))))
 rintro again2 x1 h
 refine rq hC [] [9] [(9,vB (decide (x1<(s.length:Int))))] [] [] (qs (aS h (fun c1 h=> ?_) (fun c1 h=> ?_)))
 ·refine qk (qs (qb (rq hC [] [5,10] [(5,vI x1)] [] [] ?_)))
  obtain⟨x3,hx3,x4,hx4,h⟩:=cO h
  refine rq hC [oR aG hx3,oV (hf x3 _ hx4)] (fr 11 6) [(16,vB x4)] [] [] (aS h (fun c2 h=> ?_) (fun c2 h=> ?_))
  ·obtain rfl:=so h
   exact rq hC [] [4,17] [(4,vI x1)] [] [] (qr eR)
  ·exact qk (rk hC [] [8,18] [(8,vI (wr (x1+1)))] [] [] (lE h))
 ·obtain rfl:=so h
  exact cW (rq hC [] [4] [(4,vI (-1))] [] [] (qr eR))
theorem qI(G:GS)(n:Nat)(s:List Stmt)(fF:FuncId)(fC0:List T)(f:Stmt→Option Bool)(hf: ∀(q0:Stmt) r,f q0=some r→PQ G fF [V.agg (cS q0),V.tp fC0] (vB r)){r:Bool}(h:eH n s f=some r):PQ G 176 [vM aG s,V.fn fF [V.tp fC0]] (vB r):=by
 unfold eH at h
 refine pq aO Tryz.func176 rfl fun w X hC=> ?_
 refine rq hC [] [4] [] [] [] ?_
 obtain⟨x1,hx1,h⟩:=bd h
 obtain rfl:=so h
 exact rq hC [oV (tP G n s fF fC0 f hf hx1)] (fr 4 5) [(4,vB (decide ((0:Int)≤x1)))] [] [] (qr eR)
theorem l3{p}{r}(h:dF n p=some r):VQ G 79 [] [V.agg (bH p)] (V.tup [ms 0 1 3 bM r.1,vB r.2]) [ar 112 1 3 bM r.1]:=by
 unfold dF at h
 refine vq aO Tryz.func79 rfl fun w X β0 hC hg=> ?_
 refine rq hC [.z (.b (true))] [1,2,3] [(1,V.tp (bO p))] [] [] (qs (vj h (fun x_=>aX [(1,V.tp (bO p)),(22,vB x_)] [] []) (fun j1 h=> ?_) (fun x3 h=> ?_)))
 ·
  obtain⟨x2,hx2,h⟩:=bd h
  refine aQ h (fun c1 h=> ?_) (fun c1 h=> ?_)
  ·exact rk hC ([oV (zE G hx2)]++rF 3 c1++[oN aD p.parts,oF c1,oF c1]) (fr 13 10) [(22,vB (decide ((4:Int)<(p.parts.length:Int))))] [] [] (lE h)
  ·exact rk hC ([oV (zE G hx2)]++rT 5 c1) (fr 13 10) [(22,vB true)] [] [] (lE h)
 ·refine aS h (fun c2 h=> ?_) (fun c2 h=> ?_)
  ·obtain rfl:=so h
   exact rq hC [] [2,3] [(2,V.t T.nilS),(3,vB false)] [] [] (qw (lk hC [.grow 2 0 112] [2] [(2,ms 0 1 3 bM [])] [(0,some (ar 112 1 3 bM []))] [(0,true)]) (qr eW))
  ·refine qk (rq hC [] [4] [(4,V.t T.nilS)] [] [] (qs (rq hC [oN aD p.parts] (fr 23 4) [(24,vM aD p.parts),(25,vI (p.parts.length:Int)),(26,vI 0)] [] [] (qb (qw (lk hC [.grow 4 20 112] [4] [(4,ms 20 1 3 bM [])] [(20,some (ar 112 1 3 bM []))] [(20,true)]) ?_)))))
   refine bF (γ:=Nat) h (fun x_ g_=>aX [(1,V.tp (bO p)),(4,ms 20 g_ 3 bM x_.1),(24,vM aD p.parts),(25,vI (p.parts.length:Int)),(26,vI x_.2)] [(20,ar 112 g_ 3 bM x_.1)] [20]) 1 (lS) ?_
   rintro again7 ⟨x4,x5⟩ g6 h
   refine rq hC [] [27] [(27,vB (decide (x5<(p.parts.length:Int))))] [] [] (qs (aS h (fun c3 h=> ?_) (fun c3 h=> ?_)))
   ·refine qk (qs (qb ?_))
    obtain⟨x8,hx8,h⟩:=bd h
    refine rq hC [oR aD hx8,.z (.nat 21),.z (.at 0),.z (.fp 21 [6])] [5,6,28,29,30] [(5,vI x5),(6,V.tp (mT x8))] [(21,none)] [(21,true)] ?_
    obtain⟨x9,hx9,h⟩:=bd h
    refine rq hC [oC [] [22] (U4 G hx9)] [7,8,31,32,33,34,35,36] [(7,ms 22 1 1 (rL rI) x9.1),(8,vB x9.2)] [(22,some (ar 48 1 1 (rL rI) x9.1))] [(22,true)] (qs (vj h (fun x_=>aX [(1,V.tp (bO p)),(4,ms 20 g6 3 bM x4),(5,vI x5),(6,V.tp (mT x8)),(7,ms 22 1 1 (rL rI) x9.1),(24,vM aD p.parts),(25,vI (p.parts.length:Int)),(26,vI x5),(51,vB x_)] [(20,ar 112 g6 3 bM x4),(22,ar 48 1 1 (rL rI) x9.1)] [20,21,22]) (fun j10 h=> ?_) (fun x13 h=> ?_)))
    ·
     refine aQ h (fun c4 h=> ?_) (fun c4 h=> ?_)
     ·obtain⟨x11,hx11,h⟩:=bd h
      refine aQ h (fun c5 h=> ?_) (fun c5 h=> ?_)
      ·obtain⟨x12,hx12,h⟩:=bd h
       exact rk hC (rF 3 c4++[oN aG x8.body,oF c4,oV (bD G hx11),oF c4,oF c4]++rF 4 c5++[oV (qI G n x8.body 177 (mT x8) (fun q0=>cP n q0 x8) (fun q0 r h=>rO G n q0 x8 h) hx12),oF c5]) (fr 37 15) [(51,vB x12)] [] [] (lE h)
      ·exact rk hC (rF 3 c4++[oN aG x8.body,oF c4,oV (bD G hx11),oF c4,oF c4]++rT 5 c5) (fr 37 15) [(51,vB true)] [] [] (lE h)
     ·exact rk hC (rT 6 c4++sT 5) (fr 37 15) [(51,vB true)] [] [] (lE h)
    ·refine aS h (fun c6 h=> ?_) (fun c6 h=> ?_)
     ·obtain rfl:=so h
      exact rq hC [] [2,3] [(2,V.t T.nilS),(3,vB false)] [] [] (qw (lk hC [.grow 2 0 112] [2] [(2,ms 0 1 3 bM [])] [(0,some (ar 112 1 3 bM []))] [(0,true)]) (qr eW))
     ·refine qk (rq hC [oN (rL rI) x9.1] [52,53,54] [(52,ms 22 1 1 (rL rI) x9.1),(53,vI (x9.1.length:Int)),(54,vI 0)] [] [] (qb (bF (γ:=Nat) h (fun x_ g_=>aX [(1,V.tp (bO p)),(4,ms 20 g_ 3 bM x_.1),(5,vI x5),(6,V.tp (mT x8)),(24,vM aD p.parts),(25,vI (p.parts.length:Int)),(26,vI x5),(52,ms 22 1 1 (rL rI) x9.1),(53,vI (x9.1.length:Int)),(54,vI x_.2)] [(20,ar 112 g_ 3 bM x_.1),(22,ar 48 1 1 (rL rI) x9.1)] [20,21,22]) g6 (lS) ?_)))
      rintro again17 ⟨x14,x15⟩ g16 h
      refine rq hC [] [55] [(55,vB (decide (x15<(x9.1.length:Int))))] [] [] (qs (aS h (fun c7 h=> ?_) (fun c7 h=> ?_)))
      ·refine qk (qs (qb ?_))
       obtain⟨x18,hx18,h⟩:=bd h
       refine rq hC [oQ (mO (rL rI) hx18),oX (rL rI) hx18] [10,56,57] [(10,vM rI x18)] [] [] (qs ?_)
       obtain⟨x19,hx19,h⟩:=bd h
       refine rq hC [oV (uV G hx19)] [58,59,60] [(60,vB (!x19))] [] [] (aS h (fun c8 h=> ?_) (fun c8 h=> ?_))
       ·obtain rfl:=so h
        exact rq hC [] [2,3] [(2,V.t T.nilS),(3,vB false)] [] [] (qw (lk hC [.grow 2 0 112] [2] [(2,ms 0 1 3 bM [])] [(0,some (ar 112 1 3 bM []))] [(0,true)]) (qr eW))
       ·refine qk (rq hC [oN aG x8.body] (fr 61 4) [(62,vM aG x8.body),(63,vI (x8.body.length:Int)),(64,vI 0)] [] [] (qb (bF (γ:=Nat) h (fun x_ g_=>aX [(1,V.tp (bO p)),(4,ms 20 g_ 3 bM x_.1),(5,vI x5),(6,V.tp (mT x8)),(10,vM rI x18),(24,vM aD p.parts),(25,vI (p.parts.length:Int)),(26,vI x5),(52,ms 22 1 1 (rL rI) x9.1),(53,vI (x9.1.length:Int)),(54,vI x15),(62,vM aG x8.body),(63,vI (x8.body.length:Int)),(64,vI x_.2)] [(20,ar 112 g_ 3 bM x_.1),(22,ar 48 1 1 (rL rI) x9.1)] [20,21,22]) g16 (lS) ?_)))
        rintro again23 ⟨x20,x21⟩ g22 h
        refine rq hC [] [65] [(65,vB (decide (x21<(x8.body.length:Int))))] [] [] (qs (aS h (fun c9 h=> ?_) (fun c9 h=> ?_)))
        ·refine qk (qs (qb ?_))
         obtain⟨x24,hx24,h⟩:=bd h
         refine rq hC [oR aG hx24,.z (.nat 23)] [11,12,66,67,68] [(11,vI x21),(12,V.ref 23 0)] [(23,some (E.cells (cS x24)))] [(23,true)] (qs ?_)
         obtain⟨x25,hx25,h⟩:=bd h
         refine rq hC [oV (xP G hx25)] (fr 69 5) [(73,vB (!x25))] [] [] (aS h (fun c10 h=> ?_) (fun c10 h=> ?_))
         ·obtain rfl:=so h
          exact rq hC [] [2,3] [(2,V.t T.nilS),(3,vB false)] [] [] (qw (lk hC [.grow 2 0 112] [2] [(2,ms 0 1 3 bM [])] [(0,some (ar 112 1 3 bM []))] [(0,true)]) (qr eW))
         ·refine qk ?_
          obtain⟨x26,hx26,x27,hx27,h⟩:=cO h
          exact rk hC [oC [] [24] (G.clone x18 hx26),.z (.at 4),.z (.fz 24 [78] []),.z (.int 0),oA (aP bM hx27),oQ (bW (r:=bM) 3 Y7 x20),oQ (bW (r:=bM) 3 Y7 [(⟨x5,x21,x26⟩:Inst)])] [4,74,75,76,77,78,79,80,81] [(4,ms 20 (g22+1) 3 bM x27)] [(24,none),(20,some (ar 112 (g22+1) 3 bM x27))] [(24,true)] (rk hC [] [64,82] [(64,vI (wr (x21+1)))] [] [] ⟨(x27,wr (x21+1)),(g22+1),h,lS⟩)
        ·exact cW (rk hC [] [54,83] [(54,vI (wr (x15+1)))] [] [] ⟨(x20,wr (x15+1)),g22,h,lS⟩)
      ·exact cW (rk hC [] [26,84] [(26,vI (wr (x5+1)))] [] [] ⟨(x14,wr (x5+1)),g16,h,lS⟩)
   ·obtain rfl:=so h
    exact cW (rq hC [oN bM x4] [2,3,85,86,87,88] [(2,ms 20 g6 3 bM x4),(3,vB (decide ((x4.length:Int)≤120)))] [] [] (qw (lk hC [.ren 2 20 0] [2] [(2,ms 0 1 3 bM x4)] [(0,some (ar 112 1 3 bM x4)),(20,none)] [(0,true)]) (qr eW)))
theorem bI{p}{r}(h:dC n p=some r):PQ G 19 [V.agg (bH p)] (vB r):=by
 unfold dC at h
 refine pq aO Tryz.func19 rfl fun w X hC=> ?_
 refine rq hC [.z (.b (true))] [1,2] [(1,V.tp (bO p))] [] [] ?_
 obtain⟨x1,hx1,h⟩:=bd h
 obtain rfl:=so h
 exact rq hC [oC [] [20] (l3 G hx1)] (fr 3 7) [(4,vB x1.2)] [(20,some (ar 112 1 3 bM x1.1))] [(20,true)] (rq hC [] [2,10] [(2,vB x1.2)] [] [] (qr eR))
theorem rE{x}{r}(h:gA n x=some r):PQ G 384 [V.agg (aK x)] (V.agg (aK r)):=by
 unfold gA at h
 refine pq aO Tryz.func384 rfl fun w X hC=> ?_
 refine rq hC [.z (.nat 20),.z (.nat 21)] [1,2] [(1,V.ref 20 0),(2,V.ref 21 0)] [(20,some (E.cells (aK x))),(21,sc [V.t T.nilS,vI 0])] [(20,true),(21,true)] ?_
 obtain⟨x1,hx1,h⟩:=bd h
 obtain rfl:=so h
 exact rq hC [.z (.nat 22),oA (aP rI hx1),oQ (bW (r:=rI) 1 (fun _=>rfl) []),oQ (bW (r:=rI) 1 (fun _=>rfl) x.coefs)] (fr 3 5) [] [(22,some (ar 3 2 1 rI x1)),(20,sc [ms 22 2 1 rI x1,vI x.const])] [(22,true)] (rq hC [.z (.at 2),.z (.fz 22 [] [20])] [8] [] [(20,sc [vM rI x1,vI x.const]),(22,none),(21,sc [vM rI x1,vI x.const])] [] (qr eR))
theorem iV{list}{r}(h:cV n list=some r):VQ G 368 [] [vM aA list] (ms 0 1 2 aA r) [ar 79 1 2 aA r]:=by
 unfold cV at h
 refine vq aO Tryz.func368 rfl fun w X β0 hC hg=> ?_
 refine rq hC [] [2] [] [] [] (rq hC [.z (.nat 20)] [3,6] [(3,ms 20 1 2 aA [])] [(20,some (ar 79 1 2 aA []))] [(20,true)] (qs (rq hC [oN aA list] [7,8,9] [(7,vM aA list),(8,vI (list.length:Int)),(9,vI 0)] [] [] (qb (bF (γ:=Nat) h (fun x_ g_=>aX [(3,ms 20 g_ 2 aA x_.1),(7,vM aA list),(8,vI (list.length:Int)),(9,vI x_.2)] [(20,ar 79 g_ 2 aA x_.1)] [20]) 1 (lS) ?_)))))
 rintro again4 ⟨x1,x2⟩ g3 h
 refine rq hC [] [10] [(10,vB (decide (x2<(list.length:Int))))] [] [] (qs (aS h (fun c1 h=> ?_) (fun c1 h=> ?_)))
 ·refine qk (qs (qb ?_))
  obtain⟨x5,hx5,h⟩:=bd h
  refine rq hC [oR aA hx5,.z (.nat 21)] [5,11,12] [(5,V.ref 21 0)] [(21,some (E.cells (aK x5)))] [(21,true)] ?_
  obtain⟨x6,hx6,x7,hx7,h⟩:=cO h
  exact rk hC [oV (rE G hx6),.z (.int 0),oA (aP aA hx7),oQ (bW (r:=aA) 2 aW x1),oQ (bW (r:=aA) 2 aW [x6])] [3,13,14,15,16,17] [(3,ms 20 (g3+1) 2 aA x7)] [(20,some (ar 79 (g3+1) 2 aA x7))] [] (rk hC [] [9,18] [(9,vI (wr (x2+1)))] [] [] ⟨(x7,wr (x2+1)),(g3+1),h,lS⟩)
 ·obtain rfl:=so h
  exact cW (rq hC [] [2,19] [(2,ms 20 g3 2 aA x1)] [] [] (qw (lk hC [.ren 2 20 0] [2] [(2,ms 0 1 2 aA x1)] [(0,some (ar 79 1 2 aA x1)),(20,none)] [(0,true)]) (qr eW)))
theorem T3{x}{r}(h:nP n x=some r):PQ G 339 [V.agg (gX x)] (V.agg (gX r)):=by
 unfold nP at h
 refine pq aO Tryz.func339 rfl fun w X hC=> ?_
 refine rq hC [.z (.nat 20),.z (.nat 21)] [1,2] [(1,V.ref 20 0),(2,V.ref 21 0)] [(20,some (E.cells (gX x))),(21,sc [V.t T.nilS,V.t T.nilS])] [(20,true),(21,true)] ?_
 obtain⟨x1,hx1,h⟩:=bd h
 refine rq hC [oC [] [22] (iV G hx1)] (fr 3 4) [] [(22,some (ar 79 1 2 aA x1)),(20,sc [ms 22 1 2 aA x1,vM aA x.hi])] [(22,true)] ?_
 obtain⟨x2,hx2,h⟩:=bd h
 obtain rfl:=so h
 exact rq hC [oC [] [23] (iV G hx2)] (fr 7 4) [] [(23,some (ar 79 1 2 aA x2)),(20,sc [ms 22 1 2 aA x1,ms 23 1 2 aA x2])] [(23,true)] (rq hC [.z (.at 2),.z (.fz 22 [] [20]),.z (.at 2),.z (.fz 23 [] [20])] [11] [] [(20,sc [vM aA x1,vM aA x2]),(22,none),(23,none),(21,sc [vM aA x1,vM aA x2])] [] (qr eR))
theorem xI{list}{r}(h:f0 n list=some r):VQ G 297 [] [vM aC list] (ms 0 1 2 aC r) [ar 123 1 2 aC r]:=by
 unfold f0 at h
 refine vq aO Tryz.func297 rfl fun w X β0 hC hg=> ?_
 refine rq hC [] [2] [] [] [] (rq hC [.z (.nat 20)] [3,6] [(3,ms 20 1 2 aC [])] [(20,some (ar 123 1 2 aC []))] [(20,true)] (qs (rq hC [oN aC list] [7,8,9] [(7,vM aC list),(8,vI (list.length:Int)),(9,vI 0)] [] [] (qb (bF (γ:=Nat) h (fun x_ g_=>aX [(3,ms 20 g_ 2 aC x_.1),(7,vM aC list),(8,vI (list.length:Int)),(9,vI x_.2)] [(20,ar 123 g_ 2 aC x_.1)] [20]) 1 (lS) ?_)))))
 rintro again4 ⟨x1,x2⟩ g3 h
 refine rq hC [] [10] [(10,vB (decide (x2<(list.length:Int))))] [] [] (qs (aS h (fun c1 h=> ?_) (fun c1 h=> ?_)))
 ·refine qk (qs (qb ?_))
  obtain⟨x5,hx5,h⟩:=bd h
  refine rq hC [oR aC hx5,.z (.nat 21)] [5,11,12] [(5,V.ref 21 0)] [(21,some (E.cells (gX x5)))] [(21,true)] ?_
  obtain⟨x6,hx6,x7,hx7,h⟩:=cO h
  exact rk hC [oV (T3 G hx6),.z (.int 0),oA (aP aC hx7),oQ (bW (r:=aC) 2 bL x1),oQ (bW (r:=aC) 2 bL [x6])] [3,13,14,15,16,17] [(3,ms 20 (g3+1) 2 aC x7)] [(20,some (ar 123 (g3+1) 2 aC x7))] [] (rk hC [] [9,18] [(9,vI (wr (x2+1)))] [] [] ⟨(x7,wr (x2+1)),(g3+1),h,lS⟩)
 ·obtain rfl:=so h
  exact cW (rq hC [] [2,19] [(2,ms 20 g3 2 aC x1)] [] [] (qw (lk hC [.ren 2 20 0] [2] [(2,ms 0 1 2 aC x1)] [(0,some (ar 123 1 2 aC x1)),(20,none)] [(0,true)]) (qr eW)))
theorem rG{x}{r}(h:gB n x=some r):PQ G 369 [V.agg (cF x)] (V.agg (cF r)):=by
 unfold gB at h
 refine pq aO Tryz.func369 rfl fun w X hC=> ?_
 refine rq hC [.z (.nat 20),.z (.nat 21)] [1,2] [(1,V.ref 20 0),(2,V.ref 21 0)] [(20,some (E.cells (cF x))),(21,sc [vS [],V.t T.nilS])] [(20,true),(21,true)] ?_
 obtain⟨x1,hx1,h⟩:=bd h
 obtain rfl:=so h
 exact rq hC [oC [] [22] (iV G hx1)] (fr 3 4) [] [(22,some (ar 79 1 2 aA x1)),(20,sc [vS x.array,ms 22 1 2 aA x1])] [(22,true)] (rq hC [.z (.at 2),.z (.fz 22 [] [20])] [7] [] [(20,sc [vS x.array,vM aA x1]),(22,none),(21,sc [vS x.array,vM aA x1])] [] (qr eR))
theorem xJ(G:GS)(n:Nat)(self:Expr→Option Expr)(hself: ∀(q0:Expr) {r:Expr},self q0=some r→PQ G 370 [V.agg (cU q0)] (V.agg (cU r)))(list:List Expr){r:(List Expr)}(h:i8 n self list=some r):VQ G 385 [] [vM aI list] (ms 0 1 7 aI r) [ar 82 1 7 aI r]:=by
 unfold i8 at h
 refine vq aO Tryz.func385 rfl fun w X β0 hC hg=> ?_
 refine rq hC [] [2] [] [] [] (rq hC [.z (.nat 20)] [3,6] [(3,ms 20 1 7 aI [])] [(20,some (ar 82 1 7 aI []))] [(20,true)] (qs (rq hC [oN aI list] [7,8,9] [(7,vM aI list),(8,vI (list.length:Int)),(9,vI 0)] [] [] (qb (bF (γ:=Nat) h (fun x_ g_=>aX [(3,ms 20 g_ 7 aI x_.1),(7,vM aI list),(8,vI (list.length:Int)),(9,vI x_.2)] [(20,ar 82 g_ 7 aI x_.1)] [20]) 1 (lS) ?_)))))
 rintro again4 ⟨x1,x2⟩ g3 h
 refine rq hC [] [10] [(10,vB (decide (x2<(list.length:Int))))] [] [] (qs (aS h (fun c1 h=> ?_) (fun c1 h=> ?_)))
 ·refine qk (qs (qb ?_))
  obtain⟨x5,hx5,h⟩:=bd h
  refine rq hC [.z (.row (eC x5)),.z (.nat 21),oQ (eZ aI hx5 (cQ x5))] [5,11,12] [(5,V.ref 21 0)] [(21,some (E.cells (cU x5)))] [(21,true)] ?_
  obtain⟨x6,hx6,x7,hx7,h⟩:=cO h
  exact rk hC [oV (hself x5 hx6),.z (.int 2),.z (.rows (List.map aI [x6])),oQ (sV x6),oA (aP aI hx7),oQ (bW (r:=aI) 7 d7 x1),oQ (bW (r:=aI) 7 d7 [x6])] [3,13,14,15,16,17] [(3,ms 20 (g3+1) 7 aI x7)] [(20,some (ar 82 (g3+1) 7 aI x7))] [] (rk hC [] [9,18] [(9,vI (wr (x2+1)))] [] [] ⟨(x7,wr (x2+1)),(g3+1),h,lS⟩)
 ·obtain rfl:=so h
  exact cW (rq hC [] [2,19] [(2,ms 20 g3 7 aI x1)] [] [] (qw (lk hC [.ren 2 20 0] [2] [(2,ms 0 1 7 aI x1)] [(0,some (ar 82 1 7 aI x1)),(20,none)] [(0,true)]) (qr eW)))
theorem T4(G:GS): ∀(n:Nat) (x:Expr) {r:Expr} (h:s_l16OwnExpr n x=some r),PQ G 370 [V.agg (cU x)] (V.agg (cU r)):=by
 intro n
 induction n with
 |zero=>intro x r h;rw [s_l16OwnExpr.eq_def] at h;cases h
 |succ n ih=>
  intro x r h
  rw [s_l16OwnExpr.eq_def] at h;dsimp only at h
  refine pq aO Tryz.func370 rfl fun w X hC=> ?_
  refine rq hC [.z (.nat 20),.z (.nat 21)] [1,2] [(1,V.ref 20 0),(2,V.ref 21 0)] [(20,some (E.cells (cU x))),(21,sc [vI 0,vI 0,V.t T.nilS,vI 0,vS [],V.t T.nilS,V.t T.nilS])] [(20,true),(21,true)] ?_
  obtain⟨x1,hx1,h⟩:=bd h
  refine rq hC [oV (rE G hx1)] (fr 3 4) [] [(20,sc [vI x.kind,vI x.num,vM rI x1.coefs,vI x1.const,vS x.read.array,vM aA x.read.subs,vM aI x.kids])] [] ?_
  obtain⟨x2,hx2,h⟩:=bd h
  refine rq hC [oV (rG G hx2)] (fr 7 4) [] [(20,sc [vI x.kind,vI x.num,vM rI x1.coefs,vI x1.const,vS x2.array,vM aA x2.subs,vM aI x.kids])] [] ?_
  obtain⟨x3,hx3,h⟩:=bd h
  obtain rfl:=so h
  exact rq hC [oC [] [22] (xJ G n (s_l16OwnExpr n) (fun q0 r h=>ih q0 h) x.kids hx3)] (fr 11 4) [] [(22,some (ar 82 1 7 aI x3)),(20,sc [vI x.kind,vI x.num,vM rI x1.coefs,vI x1.const,vS x2.array,vM aA x2.subs,ms 22 1 7 aI x3])] [(22,true)] (rq hC [.z (.at 2),.z (.fz 22 [] [20])] [15] [] [(20,sc [vI x.kind,vI x.num,vM rI x1.coefs,vI x1.const,vS x2.array,vM aA x2.subs,vM aI x3]),(22,none),(21,sc [vI x.kind,vI x.num,vM rI x1.coefs,vI x1.const,vS x2.array,vM aA x2.subs,vM aI x3])] [] (qr eR))
theorem T1{x}{r}(h:lC n x=some r):PQ G 340 [V.agg (cS x)] (V.agg (cS r)):=by
 unfold lC at h
 refine pq aO Tryz.func340 rfl fun w X hC=> ?_
 refine rq hC [.z (.nat 20),.z (.nat 21)] [1,2] [(1,V.ref 20 0),(2,V.ref 21 0)] [(20,some (E.cells (cS x))),(21,sc [vS [],V.t T.nilS,vI 0,vI 0,V.t T.nilS,vI 0,vS [],V.t T.nilS,V.t T.nilS])] [(20,true),(21,true)] ?_
 obtain⟨x1,hx1,h⟩:=bd h
 refine rq hC [oV (rG G hx1)] (fr 3 4) [] [(20,sc [vS x1.array,vM aA x1.subs,vI x.value.kind,vI x.value.num,vM rI x.value.index.coefs,vI x.value.index.const,vS x.value.read.array,vM aA x.value.read.subs,vM aI x.value.kids])] [] ?_
 obtain⟨x2,hx2,h⟩:=bd h
 obtain rfl:=so h
 exact rq hC [oV (T4 G n x.value hx2)] (fr 7 4) [] [(20,sc [vS x1.array,vM aA x1.subs,vI x2.kind,vI x2.num,vM rI x2.index.coefs,vI x2.index.const,vS x2.read.array,vM aA x2.read.subs,vM aI x2.kids])] [] (rq hC [] [11] [] [(21,sc [vS x1.array,vM aA x1.subs,vI x2.kind,vI x2.num,vM rI x2.index.coefs,vI x2.index.const,vS x2.read.array,vM aA x2.read.subs,vM aI x2.kids])] [] (qr eR))
theorem xG{list}{r}(h:fY n list=some r):VQ G 298 [] [vM aG list] (ms 0 1 9 aG r) [ar 84 1 9 aG r]:=by
 unfold fY at h
 refine vq aO Tryz.func298 rfl fun w X β0 hC hg=> ?_
 refine rq hC [] [2] [] [] [] (rq hC [.z (.nat 20)] [3,6] [(3,ms 20 1 9 aG [])] [(20,some (ar 84 1 9 aG []))] [(20,true)] (qs (rq hC [oN aG list] [7,8,9] [(7,vM aG list),(8,vI (list.length:Int)),(9,vI 0)] [] [] (qb (bF (γ:=Nat) h (fun x_ g_=>aX [(3,ms 20 g_ 9 aG x_.1),(7,vM aG list),(8,vI (list.length:Int)),(9,vI x_.2)] [(20,ar 84 g_ 9 aG x_.1)] [20]) 1 (lS) ?_)))))
 rintro again4 ⟨x1,x2⟩ g3 h
 refine rq hC [] [10] [(10,vB (decide (x2<(list.length:Int))))] [] [] (qs (aS h (fun c1 h=> ?_) (fun c1 h=> ?_)))
 ·refine qk (qs (qb ?_))
  obtain⟨x5,hx5,h⟩:=bd h
  refine rq hC [oR aG hx5,.z (.nat 21)] [5,11,12] [(5,V.ref 21 0)] [(21,some (E.cells (cS x5)))] [(21,true)] ?_
  obtain⟨x6,hx6,x7,hx7,h⟩:=cO h
  exact rk hC [oV (T1 G hx6),.z (.int 0),oA (aP aG hx7),oQ (bW (r:=aG) 9 d6 x1),oQ (bW (r:=aG) 9 d6 [x6])] [3,13,14,15,16,17] [(3,ms 20 (g3+1) 9 aG x7)] [(20,some (ar 84 (g3+1) 9 aG x7))] [] (rk hC [] [9,18] [(9,vI (wr (x2+1)))] [] [] ⟨(x7,wr (x2+1)),(g3+1),h,lS⟩)
 ·obtain rfl:=so h
  exact cW (rq hC [] [2,19] [(2,ms 20 g3 9 aG x1)] [] [] (qw (lk hC [.ren 2 20 0] [2] [(2,ms 0 1 9 aG x1)] [(0,some (ar 84 1 9 aG x1)),(20,none)] [(0,true)]) (qr eW)))
theorem T2{x}{r}(h:lD n x=some r):PQ G 239 [V.agg (l4 x)] (V.agg (l4 r)):=by
 unfold lD at h
 refine pq aO Tryz.func239 rfl fun w X hC=> ?_
 refine rq hC [.z (.nat 20),.z (.nat 21)] [1,2] [(1,V.ref 20 0),(2,V.ref 21 0)] [(20,some (E.cells (l4 x))),(21,sc [V.t T.nilS,V.t T.nilS])] [(20,true),(21,true)] ?_
 obtain⟨x1,hx1,h⟩:=bd h
 refine rq hC [oC [] [22] (xI G hx1)] (fr 3 4) [] [(22,some (ar 123 1 2 aC x1)),(20,sc [ms 22 1 2 aC x1,vM aG x.body])] [(22,true)] ?_
 obtain⟨x2,hx2,h⟩:=bd h
 obtain rfl:=so h
 exact rq hC [oC [] [23] (xG G hx2)] (fr 7 4) [] [(23,some (ar 84 1 9 aG x2)),(20,sc [ms 22 1 2 aC x1,ms 23 1 9 aG x2])] [(23,true)] (rq hC [.z (.at 2),.z (.fz 22 [] [20]),.z (.at 2),.z (.fz 23 [] [20])] [11] [] [(20,sc [vM aC x1,vM aG x2]),(22,none),(23,none),(21,sc [vM aC x1,vM aG x2])] [] (qr eR))
theorem xH{list}{r}(h:fZ n list=some r):VQ G 160 [] [vM aD list] (ms 0 1 2 aD r) [ar 46 1 2 aD r]:=by
 unfold fZ at h
 refine vq aO Tryz.func160 rfl fun w X β0 hC hg=> ?_
 refine rq hC [] [2] [] [] [] (rq hC [.z (.nat 20)] [3,6] [(3,ms 20 1 2 aD [])] [(20,some (ar 46 1 2 aD []))] [(20,true)] (qs (rq hC [oN aD list] [7,8,9] [(7,vM aD list),(8,vI (list.length:Int)),(9,vI 0)] [] [] (qb (bF (γ:=Nat) h (fun x_ g_=>aX [(3,ms 20 g_ 2 aD x_.1),(7,vM aD list),(8,vI (list.length:Int)),(9,vI x_.2)] [(20,ar 46 g_ 2 aD x_.1)] [20]) 1 (lS) ?_)))))
 rintro again4 ⟨x1,x2⟩ g3 h
 refine rq hC [] [10] [(10,vB (decide (x2<(list.length:Int))))] [] [] (qs (aS h (fun c1 h=> ?_) (fun c1 h=> ?_)))
 ·refine qk (qs (qb ?_))
  obtain⟨x5,hx5,h⟩:=bd h
  refine rq hC [oR aD hx5,.z (.nat 21)] [5,11,12] [(5,V.ref 21 0)] [(21,some (E.cells (l4 x5)))] [(21,true)] ?_
  obtain⟨x6,hx6,x7,hx7,h⟩:=cO h
  exact rk hC [oV (T2 G hx6),.z (.int 0),oA (aP aD hx7),oQ (bW (r:=aD) 2 cB x1),oQ (bW (r:=aD) 2 cB [x6])] [3,13,14,15,16,17] [(3,ms 20 (g3+1) 2 aD x7)] [(20,some (ar 46 (g3+1) 2 aD x7))] [] (rk hC [] [9,18] [(9,vI (wr (x2+1)))] [] [] ⟨(x7,wr (x2+1)),(g3+1),h,lS⟩)
 ·obtain rfl:=so h
  exact cW (rq hC [] [2,19] [(2,ms 20 g3 2 aD x1)] [] [] (qw (lk hC [.ren 2 20 0] [2] [(2,ms 0 1 2 aD x1)] [(0,some (ar 46 1 2 aD x1)),(20,none)] [(0,true)]) (qr eW)))
theorem H1{x}{r}(h:mM n x=some r):PQ G 238 [V.agg [vS x.name,vM rI x.dims]] (V.agg [vS r.name,vM rI r.dims]):=by
 unfold mM at h
 refine pq aO Tryz.func238 rfl fun w X hC=> ?_
 refine rq hC [.z (.nat 20),.z (.nat 21)] [1,2] [(1,V.ref 20 0),(2,V.ref 21 0)] [(20,sc [vS x.name,vM rI x.dims]),(21,sc [vS [],V.t T.nilS])] [(20,true),(21,true)] ?_
 obtain⟨x1,hx1,h⟩:=bd h
 obtain rfl:=so h
 exact rq hC [.z (.nat 22),oA (aP rI hx1),oQ (bW (r:=rI) 1 (fun _=>rfl) []),oQ (bW (r:=rI) 1 (fun _=>rfl) x.dims)] (fr 3 5) [] [(22,some (ar 3 2 1 rI x1)),(20,sc [vS x.name,ms 22 2 1 rI x1])] [(22,true)] (rq hC [.z (.at 2),.z (.fz 22 [] [20])] [8] [] [(20,sc [vS x.name,vM rI x1]),(22,none),(21,sc [vS x.name,vM rI x1])] [] (qr eR))
theorem v8{list}{r}(h:fJ n list=some r):VQ G 159 [] [vM aJ list] (ms 0 1 2 aJ r) [ar 90 1 2 aJ r]:=by
 unfold fJ at h
 refine vq aO Tryz.func159 rfl fun w X β0 hC hg=> ?_
 refine rq hC [] [2] [] [] [] (rq hC [.z (.nat 20)] [3,6] [(3,ms 20 1 2 aJ [])] [(20,some (ar 90 1 2 aJ []))] [(20,true)] (qs (rq hC [oN aJ list] [7,8,9] [(7,vM aJ list),(8,vI (list.length:Int)),(9,vI 0)] [] [] (qb (bF (γ:=Nat) h (fun x_ g_=>aX [(3,ms 20 g_ 2 aJ x_.1),(7,vM aJ list),(8,vI (list.length:Int)),(9,vI x_.2)] [(20,ar 90 g_ 2 aJ x_.1)] [20]) 1 (lS) ?_)))))
 rintro again4 ⟨x1,x2⟩ g3 h
 refine rq hC [] [10] [(10,vB (decide (x2<(list.length:Int))))] [] [] (qs (aS h (fun c1 h=> ?_) (fun c1 h=> ?_)))
 ·refine qk (qs (qb ?_))
  obtain⟨x5,hx5,h⟩:=bd h
  refine rq hC [oR aJ hx5,.z (.nat 21)] [5,11,12] [(5,V.ref 21 0)] [(21,sc [vS x5.name,vM rI x5.dims])] [(21,true)] ?_
  obtain⟨x6,hx6,x7,hx7,h⟩:=cO h
  exact rk hC [oV (H1 G hx6),.z (.int 0),oA (aP aJ hx7),oQ (bW (r:=aJ) 2 gU x1),oQ (bW (r:=aJ) 2 gU [x6])] [3,13,14,15,16,17] [(3,ms 20 (g3+1) 2 aJ x7)] [(20,some (ar 90 (g3+1) 2 aJ x7))] [] (rk hC [] [9,18] [(9,vI (wr (x2+1)))] [] [] ⟨(x7,wr (x2+1)),(g3+1),h,lS⟩)
 ·obtain rfl:=so h
  exact cW (rq hC [] [2,19] [(2,ms 20 g3 2 aJ x1)] [] [] (qw (lk hC [.ren 2 20 0] [2] [(2,ms 0 1 2 aJ x1)] [(0,some (ar 90 1 2 aJ x1)),(20,none)] [(0,true)]) (qr eW)))
theorem y8{x}{r}(h:gT n x=some r):PQ G 67 [V.agg (bH x)] (V.agg (bH r)):=by
 unfold gT at h
 refine pq aO Tryz.func67 rfl fun w X hC=> ?_
 refine rq hC [.z (.nat 20),.z (.nat 21)] [1,2] [(1,V.ref 20 0),(2,V.ref 21 0)] [(20,some (E.cells (bH x))),(21,sc [V.t T.nilS,V.t T.nilS])] [(20,true),(21,true)] ?_
 obtain⟨x1,hx1,h⟩:=bd h
 refine rq hC [oC [] [22] (v8 G hx1)] (fr 3 4) [] [(22,some (ar 90 1 2 aJ x1)),(20,sc [ms 22 1 2 aJ x1,vM aD x.parts])] [(22,true)] ?_
 obtain⟨x2,hx2,h⟩:=bd h
 obtain rfl:=so h
 exact rq hC [oC [] [23] (xH G hx2)] (fr 7 4) [] [(23,some (ar 46 1 2 aD x2)),(20,sc [ms 22 1 2 aJ x1,ms 23 1 2 aD x2])] [(23,true)] (rq hC [.z (.at 2),.z (.fz 22 [] [20]),.z (.at 2),.z (.fz 23 [] [20])] [11] [] [(20,sc [vM aJ x1,vM aD x2]),(22,none),(23,none),(21,sc [vM aJ x1,vM aD x2])] [] (qr eR))
theorem xN(G:GS)(n:Nat)(s1:List Loop)(s2:List Loop)(eqF:FuncId)(eq:Loop→Loop→Option Bool)(heq: ∀(q0:Loop) (q1:Loop) r,eq q0 q1=some r→PQ G eqF [V.agg (gX q0),V.agg (gX q1)] (vB r)){r:Bool}(h:jD n s1 s2 eq=some r):PQ G 168 [vM aC s1,vM aC s2,V.fn eqF []] (vB r):=by
 unfold jD at h
 refine pq aO Tryz.func168 rfl fun w X hC=> ?_
 refine rq hC [] [6] [] [] [] (qs (rq hC [oN aC s1,oN aC s2] (fr 10 5) [(14,vB (!decide ((s1.length:Int)=(s2.length:Int))))] [] [] (aS h (fun c1 h=> ?_) (fun c1 h=> ?_))))
 ·obtain rfl:=so h
  exact rq hC [] [6] [(6,vB false)] [] [] (qr eR)
 ·refine qk (qs (rq hC [oN aC s1] [15,16,17] [(15,vM aC s1),(16,vI (s1.length:Int)),(17,vI 0)] [] [] (qb (jN h (fun x_=>aX [(1,vM aC s2),(2,V.fn eqF []),(15,vM aC s1),(16,vI (s1.length:Int)),(17,vI x_)] [] []) lS ?_))))
  rintro again2 x1 h
  refine rq hC [] [18] [(18,vB (decide (x1<(s1.length:Int))))] [] [] (qs (aS h (fun c2 h=> ?_) (fun c2 h=> ?_)))
  ·refine qk (qs (qb ?_))
   obtain⟨x3,hx3,h⟩:=bd h
   refine rq hC [oR aC hx3,.z (.nat 20)] [7,8,19,20,21] [(7,vI x1),(8,V.ref 20 0)] [(20,some (E.cells (gX x3)))] [(20,true)] ?_
   obtain⟨x4,hx4,h⟩:=bd h
   refine rq hC [oR aC hx4,.z (.nat 21)] [9,22,23,24,25] [(9,V.ref 21 0)] [(21,some (E.cells (gX x4)))] [(21,true)] ?_
   obtain⟨x5,hx5,h⟩:=bd h
   refine rq hC [oV (heq x3 x4 _ hx5)] (fr 26 5) [(30,vB (!x5))] [] [] (aS h (fun c3 h=> ?_) (fun c3 h=> ?_))
   ·obtain rfl:=so h
    exact rq hC [] [6] [(6,vB false)] [] [] (qr eR)
   ·exact qk (rk hC [] [17,31] [(17,vI (wr (x1+1)))] [] [] (lE h))
  ·obtain rfl:=so h
   exact cW (rq hC [] [6] [(6,vB true)] [] [] (qr eR))
theorem fQ(G:GS)(n:Nat)(s1:List Affine)(s2:List Affine)(eqF:FuncId)(eq:Affine→Affine→Option Bool)(heq: ∀(q0:Affine) (q1:Affine) r,eq q0 q1=some r→PQ G eqF [V.agg (aK q0),V.agg (aK q1)] (vB r)){r:Bool}(h:cX n s1 s2 eq=some r):PQ G 170 [vM aA s1,vM aA s2,V.fn eqF []] (vB r):=by
 unfold cX at h
 refine pq aO Tryz.func170 rfl fun w X hC=> ?_
 refine rq hC [] [6] [] [] [] (qs (rq hC [oN aA s1,oN aA s2] (fr 10 5) [(14,vB (!decide ((s1.length:Int)=(s2.length:Int))))] [] [] (aS h (fun c1 h=> ?_) (fun c1 h=> ?_))))
 ·obtain rfl:=so h
  exact rq hC [] [6] [(6,vB false)] [] [] (qr eR)
 ·refine qk (qs (rq hC [oN aA s1] [15,16,17] [(15,vM aA s1),(16,vI (s1.length:Int)),(17,vI 0)] [] [] (qb (jN h (fun x_=>aX [(1,vM aA s2),(2,V.fn eqF []),(15,vM aA s1),(16,vI (s1.length:Int)),(17,vI x_)] [] []) lS ?_))))
  rintro again2 x1 h
  refine rq hC [] [18] [(18,vB (decide (x1<(s1.length:Int))))] [] [] (qs (aS h (fun c2 h=> ?_) (fun c2 h=> ?_)))
  ·refine qk (qs (qb ?_))
   obtain⟨x3,hx3,h⟩:=bd h
   refine rq hC [oR aA hx3,.z (.nat 20)] [7,8,19,20,21] [(7,vI x1),(8,V.ref 20 0)] [(20,some (E.cells (aK x3)))] [(20,true)] ?_
   obtain⟨x4,hx4,h⟩:=bd h
   refine rq hC [oR aA hx4,.z (.nat 21)] [9,22,23,24,25] [(9,V.ref 21 0)] [(21,some (E.cells (aK x4)))] [(21,true)] ?_
   obtain⟨x5,hx5,h⟩:=bd h
   refine rq hC [oV (heq x3 x4 _ hx5)] (fr 26 5) [(30,vB (!x5))] [] [] (aS h (fun c3 h=> ?_) (fun c3 h=> ?_))
   ·obtain rfl:=so h
    exact rq hC [] [6] [(6,vB false)] [] [] (qr eR)
   ·exact qk (rk hC [] [17,31] [(17,vI (wr (x1+1)))] [] [] (lE h))
  ·obtain rfl:=so h
   exact cW (rq hC [] [6] [(6,vB true)] [] [] (qr eR))
theorem qH{s1}{s2}{r}(h:kR n s1 s2=some r):PQ G 72 [vM rI s1,vM rI s2] (vB r):=by
 unfold kR at h
 refine pq aO Tryz.func72 rfl fun w X hC=> ?_
 refine rq hC [] [4] [] [] [] (qs (rq hC [oN rI s1,oN rI s2] (fr 6 5) [(10,vB (!decide ((s1.length:Int)=(s2.length:Int))))] [] [] (aS h (fun c1 h=> ?_) (fun c1 h=> ?_))))
 ·obtain rfl:=so h
  exact rq hC [] [4] [(4,vB false)] [] [] (qr eR)
 ·refine qk (qs (rq hC [oN rI s1] [11,12,13] [(12,vI (s1.length:Int)),(13,vI 0)] [] [] (qb (jN h (fun x_=>aX [(0,vM rI s1),(1,vM rI s2),(12,vI (s1.length:Int)),(13,vI x_)] [] []) lS ?_))))
  rintro again2 x1 h
  refine rq hC [] [14] [(14,vB (decide (x1<(s1.length:Int))))] [] [] (qs (aS h (fun c2 h=> ?_) (fun c2 h=> ?_)))
  ·refine qk (qs (qb (rq hC [] [5,15] [(5,vI x1)] [] [] (qs ?_))))
   obtain⟨x3,hx3,x4,hx4,h⟩:=cO h
   refine dk hC bA [oR rI hx3,oR rI hx4] (fr 16 9) [(24,vB (!decide (x3=x4)))] [] [] (aS h (fun c3 h=> ?_) (fun c3 h=> ?_))
   ·obtain rfl:=so h
    exact rq hC [] [4] [(4,vB false)] [] [] (qr eR)
   ·exact qk (rk hC [] [13,25] [(13,vI (wr (x1+1)))] [] [] (lE h))
  ·obtain rfl:=so h
   exact cW (rq hC [] [4] [(4,vB true)] [] [] (qr eR))
theorem eY(G:GS)(n:Nat)(a:Affine)(b:Affine){r:Bool}(h:cJ n a b=some r):PQ G 171 [V.agg (aK a),V.agg (aK b)] (vB r):=by
 unfold cJ at h
 refine pq aO Tryz.func171 rfl fun w X hC=> ?_
 refine rq hC [.z (.b (true)),.z (.b (true))] [2,3,4] [(2,V.tp (aT a)),(3,V.tp (aT b))] [] [] (vj h (fun x_=>aX [(4,vB x_)] [] []) (fun j1 h=> ?_) (fun x3 h=> ?_))
 ·
  obtain⟨x2,hx2,h⟩:=bd h
  refine aQ h (fun c1 h=> ?_) (fun c1 h=> ?_)
  ·exact rk hC ([oV (qH G hx2)]++rF 6 c1) (fr 4 13) [(4,vB false)] [] [] (lE h)
  ·exact rk hC ([oV (qH G hx2)]++rT 6 c1) (fr 4 13) [(4,vB (decide (a.const=b.const)))] [] [] (lE h)
 ·obtain rfl:=so h
  exact qr eR
theorem U3(G:GS)(n:Nat)(x:Loop)(y:Loop){r:Bool}(h:lN n x y=some r):PQ G 169 [V.agg (gX x),V.agg (gX y)] (vB r):=by
 unfold lN at h
 refine pq aO Tryz.func169 rfl fun w X hC=> ?_
 refine rq hC [.z (.b (true)),.z (.b (true))] [2,3,4] [(2,V.tp (mU x)),(3,V.tp (mU y))] [] [] (vj h (fun x_=>aX [(4,vB x_)] [] []) (fun j1 h=> ?_) (fun x4 h=> ?_))
 ·
  obtain⟨x2,hx2,h⟩:=bd h
  refine aQ h (fun c1 h=> ?_) (fun c1 h=> ?_)
  ·exact rk hC ([oV (fQ G n x.lo y.lo 171 (fun q0 q1=>cJ n q0 q1) (fun q0 q1 r h=>eY G n q0 q1 h) hx2)]++rF 6 c1) (fr 4 13) [(4,vB false)] [] [] (lE h)
  ·obtain⟨x3,hx3,h⟩:=bd h
   exact rk hC ([oV (fQ G n x.lo y.lo 171 (fun q0 q1=>cJ n q0 q1) (fun q0 q1 r h=>eY G n q0 q1 h) hx2)]++rT 5 c1++[oV (fQ G n x.hi y.hi 171 (fun q0 q1=>cJ n q0 q1) (fun q0 q1 r h=>eY G n q0 q1 h) hx3),oT c1]) (fr 4 13) [(4,vB x3)] [] [] (lE h)
 ·obtain rfl:=so h
  exact qr eR
theorem zI{a}{b}{r}(h:pH n a b=some r):PQ G 74 [vM aC a,vM aC b] (vB r):=by
 unfold pH at h
 refine pq aO Tryz.func74 rfl fun w X hC=> ?_
 refine rq hC [] [4] [] [] [] ?_
 obtain⟨x1,hx1,h⟩:=bd h
 obtain rfl:=so h
 exact rq hC [oV (xN G n a b 169 (fun q0 q1=>lN n q0 q1) (fun q0 q1 r h=>U3 G n q0 q1 h) hx1)] (fr 4 4) [(4,vB x1)] [] [] (qr eR)
theorem xL(G:GS)(n:Nat)(s1:List Stmt)(s2:List Stmt)(eqF:FuncId)(eq:Stmt→Stmt→Option Bool)(heq: ∀(q0:Stmt) (q1:Stmt) r,eq q0 q1=some r→PQ G eqF [V.agg (cS q0),V.agg (cS q1)] (vB r)){r:Bool}(h:jB n s1 s2 eq=some r):PQ G 75 [vM aG s1,vM aG s2,V.fn eqF []] (vB r):=by
 unfold jB at h
 refine pq aO Tryz.func75 rfl fun w X hC=> ?_
 refine rq hC [] [6] [] [] [] (qs (rq hC [oN aG s1,oN aG s2] (fr 10 5) [(14,vB (!decide ((s1.length:Int)=(s2.length:Int))))] [] [] (aS h (fun c1 h=> ?_) (fun c1 h=> ?_))))
 ·obtain rfl:=so h
  exact rq hC [] [6] [(6,vB false)] [] [] (qr eR)
 ·refine qk (qs (rq hC [oN aG s1] [15,16,17] [(15,vM aG s1),(16,vI (s1.length:Int)),(17,vI 0)] [] [] (qb (jN h (fun x_=>aX [(1,vM aG s2),(2,V.fn eqF []),(15,vM aG s1),(16,vI (s1.length:Int)),(17,vI x_)] [] []) lS ?_))))
  rintro again2 x1 h
  refine rq hC [] [18] [(18,vB (decide (x1<(s1.length:Int))))] [] [] (qs (aS h (fun c2 h=> ?_) (fun c2 h=> ?_)))
  ·refine qk (qs (qb ?_))
   obtain⟨x3,hx3,h⟩:=bd h
   refine rq hC [oR aG hx3,.z (.nat 20)] [7,8,19,20,21] [(7,vI x1),(8,V.ref 20 0)] [(20,some (E.cells (cS x3)))] [(20,true)] ?_
   obtain⟨x4,hx4,h⟩:=bd h
   refine rq hC [oR aG hx4,.z (.nat 21)] [9,22,23,24,25] [(9,V.ref 21 0)] [(21,some (E.cells (cS x4)))] [(21,true)] ?_
   obtain⟨x5,hx5,h⟩:=bd h
   refine rq hC [oV (heq x3 x4 _ hx5)] (fr 26 5) [(30,vB (!x5))] [] [] (aS h (fun c3 h=> ?_) (fun c3 h=> ?_))
   ·obtain rfl:=so h
    exact rq hC [] [6] [(6,vB false)] [] [] (qr eR)
   ·exact qk (rk hC [] [17,31] [(17,vI (wr (x1+1)))] [] [] (lE h))
  ·obtain rfl:=so h
   exact cW (rq hC [] [6] [(6,vB true)] [] [] (qr eR))
theorem lV{a}{b}{r}(h:jF n a b=some r):PQ G 172 [V.agg (cF a),V.agg (cF b)] (vB r):=by
 unfold jF at h
 refine pq aO Tryz.func172 rfl fun w X hC=> ?_
 refine rq hC [.z (.b (true)),.z (.b (true))] [2,3,4] [(2,V.tp (dQ a)),(3,V.tp (dQ b))] [] [] (vj h (fun x_=>aX [(4,vB x_)] [] []) (fun j1 h=> ?_) (fun x3 h=> ?_))
 ·
  refine aQ h (fun c1 h=> ?_) (fun c1 h=> ?_)
  ·exact rk hC (rF 6 c1) (fr 4 13) [(4,vB false)] [] [] (lE h)
  ·obtain⟨x2,hx2,h⟩:=bd h
   exact rk hC (rT 5 c1++[oV (fQ G n a.subs b.subs 171 (fun q0 q1=>cJ n q0 q1) (fun q0 q1 r h=>eY G n q0 q1 h) hx2),oT c1]) (fr 4 13) [(4,vB x2)] [] [] (lE h)
 ·obtain rfl:=so h
  exact qr eR
theorem xO(G:GS)(n:Nat)(s1:List Expr)(s2:List Expr)(eqF:FuncId)(eq:Expr→Expr→Option Bool)(heq: ∀(q0:Expr) (q1:Expr) r,eq q0 q1=some r→PQ G eqF [V.agg (cU q0),V.agg (cU q1)] (vB r)){r:Bool}(h:jE n s1 s2 eq=some r):PQ G 249 [vM aI s1,vM aI s2,V.fn eqF []] (vB r):=by
 unfold jE at h
 refine pq aO Tryz.func249 rfl fun w X hC=> ?_
 refine rq hC [] [6] [] [] [] (qs (rq hC [oN aI s1,oN aI s2] (fr 10 5) [(14,vB (!decide ((s1.length:Int)=(s2.length:Int))))] [] [] (aS h (fun c1 h=> ?_) (fun c1 h=> ?_))))
 ·obtain rfl:=so h
  exact rq hC [] [6] [(6,vB false)] [] [] (qr eR)
 ·refine qk (qs (rq hC [oN aI s1] [15,16,17] [(15,vM aI s1),(16,vI (s1.length:Int)),(17,vI 0)] [] [] (qb (jN h (fun x_=>aX [(1,vM aI s2),(2,V.fn eqF []),(15,vM aI s1),(16,vI (s1.length:Int)),(17,vI x_)] [] []) lS ?_))))
  rintro again2 x1 h
  refine rq hC [] [18] [(18,vB (decide (x1<(s1.length:Int))))] [] [] (qs (aS h (fun c2 h=> ?_) (fun c2 h=> ?_)))
  ·refine qk (qs (qb ?_))
   obtain⟨x3,hx3,h⟩:=bd h
   refine rq hC [.z (.row (eC x3)),.z (.nat 20),oQ (eZ aI hx3 (cQ x3))] [7,8,19,20,21] [(7,vI x1),(8,V.ref 20 0)] [(20,some (E.cells (cU x3)))] [(20,true)] ?_
   obtain⟨x4,hx4,h⟩:=bd h
   refine rq hC [.z (.row (eC x4)),.z (.nat 21),oQ (eZ aI hx4 (cQ x4))] [9,22,23,24,25] [(9,V.ref 21 0)] [(21,some (E.cells (cU x4)))] [(21,true)] ?_
   obtain⟨x5,hx5,h⟩:=bd h
   refine rq hC [oV (heq x3 x4 _ hx5)] (fr 26 5) [(30,vB (!x5))] [] [] (aS h (fun c3 h=> ?_) (fun c3 h=> ?_))
   ·obtain rfl:=so h
    exact rq hC [] [6] [(6,vB false)] [] [] (qr eR)
   ·exact qk (rk hC [] [17,31] [(17,vI (wr (x1+1)))] [] [] (lE h))
  ·obtain rfl:=so h
   exact cW (rq hC [] [6] [(6,vB true)] [] [] (qr eR))
theorem aBo(G:GS): ∀(n:Nat) (a:Expr) (b:Expr) {r:Bool} (h:i_exprSame n a b=some r),PQ G 173 [V.agg (cU a),V.agg (cU b)] (vB r):=by
 intro n
 induction n with
 |zero=>intro a b r h;rw [i_exprSame.eq_def] at h;cases h
 |succ n ih=>
  intro a b r h
  rw [i_exprSame.eq_def] at h;dsimp only at h
  refine pq aO Tryz.func173 rfl fun w X hC=> ?_
  refine rq hC [.z (.b (true)),.z (.b (true))] [2,3,4] [(2,V.tp (fI a)),(3,V.tp (fI b))] [] [] (vj h (fun x_=>aX [(4,vB x_)] [] []) (fun j1 h=> ?_) (fun x5 h=> ?_))
  ·
   refine aQ h (fun c1 h=> ?_) (fun c1 h=> ?_)
   ·exact rk hC (rF 6 c1++sF 18) (fr 4 34) [(4,vB false)] [] [] (lE h)
   ·refine aQ h (fun c2 h=> ?_) (fun c2 h=> ?_)
    ·exact rk hC (rT 6 c1++rF 6 c2++sF 12) (fr 4 34) [(4,vB false)] [] [] (lE h)
    ·obtain⟨x2,hx2,h⟩:=bd h
     refine aQ h (fun c3 h=> ?_) (fun c3 h=> ?_)
     ·exact rk hC (rT 6 c1++rT 5 c2++[oV (eY G n a.index b.index hx2),oT c2]++rF 6 c3++sF 6) (fr 4 34) [(4,vB false)] [] [] (lE h)
     ·obtain⟨x3,hx3,h⟩:=bd h
      refine aQ h (fun c4 h=> ?_) (fun c4 h=> ?_)
      ·exact rk hC (rT 6 c1++rT 5 c2++[oV (eY G n a.index b.index hx2),oT c2]++rT 5 c3++[oV (lV G hx3),oT c3]++rF 6 c4) (fr 4 34) [(4,vB false)] [] [] (lE h)
      ·obtain⟨x4,hx4,h⟩:=bd h
       exact rk hC (rT 6 c1++rT 5 c2++[oV (eY G n a.index b.index hx2),oT c2]++rT 5 c3++[oV (lV G hx3),oT c3]++rT 5 c4++[oV (xO G n a.kids b.kids 173 (fun q0 q1=>i_exprSame n q0 q1) (fun q0 q1 r h=>ih q0 q1 h) hx4),oT c4]) (fr 4 34) [(4,vB x4)] [] [] (lE h)
  ·obtain rfl:=so h
   exact qr eR
theorem aBp(G:GS)(n:Nat)(a:Stmt)(b:Stmt){r:Bool}(h:mF n a b=some r):PQ G 76 [V.agg (cS a),V.agg (cS b)] (vB r):=by
 unfold mF at h
 refine pq aO Tryz.func76 rfl fun w X hC=> ?_
 refine rq hC [.z (.b (true)),.z (.b (true))] [2,3,4] [(2,V.tp (oW a)),(3,V.tp (oW b))] [] [] (vj h (fun x_=>aX [(4,vB x_)] [] []) (fun j1 h=> ?_) (fun x4 h=> ?_))
 ·
  obtain⟨x2,hx2,h⟩:=bd h
  refine aQ h (fun c1 h=> ?_) (fun c1 h=> ?_)
  ·exact rk hC ([oV (lV G hx2)]++rF 6 c1) (fr 4 13) [(4,vB false)] [] [] (lE h)
  ·obtain⟨x3,hx3,h⟩:=bd h
   exact rk hC ([oV (lV G hx2)]++rT 5 c1++[oV (aBo G n a.value b.value hx3),oT c1]) (fr 4 13) [(4,vB x3)] [] [] (lE h)
 ·obtain rfl:=so h
  exact qr eR
theorem zH(G:GS)(n:Nat)(x:Part)(y:Part){r:Bool}(h:fB n x y=some r):PQ G 73 [V.agg (l4 x),V.agg (l4 y)] (vB r):=by
 unfold fB at h
 refine pq aO Tryz.func73 rfl fun w X hC=> ?_
 refine rq hC [.z (.b (true)),.z (.b (true))] [2,3,4] [(2,V.tp (mT x)),(3,V.tp (mT y))] [] [] (vj h (fun x_=>aX [(4,vB x_)] [] []) (fun j1 h=> ?_) (fun x4 h=> ?_))
 ·
  obtain⟨x2,hx2,h⟩:=bd h
  refine aQ h (fun c1 h=> ?_) (fun c1 h=> ?_)
  ·exact rk hC ([oV (zI G hx2)]++rF 6 c1) (fr 4 13) [(4,vB false)] [] [] (lE h)
  ·obtain⟨x3,hx3,h⟩:=bd h
   exact rk hC ([oV (zI G hx2)]++rT 5 c1++[oV (xL G n x.body y.body 76 (fun q0 q1=>mF n q0 q1) (fun q0 q1 r h=>aBp G n q0 q1 h) hx3),oT c1]) (fr 4 13) [(4,vB x3)] [] [] (lE h)
 ·obtain rfl:=so h
  exact qr eR
theorem nM(G:GS)(n:Nat)(s1:List Arr)(s2:List Arr)(eqF:FuncId)(eq:Arr→Arr→Option Bool)(heq: ∀(q0:Arr) (q1:Arr) r,eq q0 q1=some r→PQ G eqF [V.agg [vS q0.name,vM rI q0.dims],V.agg [vS q1.name,vM rI q1.dims]] (vB r)){r:Bool}(h:iH n s1 s2 eq=some r):PQ G 77 [vM aJ s1,vM aJ s2,V.fn eqF []] (vB r):=by
 unfold iH at h
 refine pq aO Tryz.func77 rfl fun w X hC=> ?_
 refine rq hC [] [6] [] [] [] (qs (rq hC [oN aJ s1,oN aJ s2] (fr 10 5) [(14,vB (!decide ((s1.length:Int)=(s2.length:Int))))] [] [] (aS h (fun c1 h=> ?_) (fun c1 h=> ?_))))
 ·obtain rfl:=so h
  exact rq hC [] [6] [(6,vB false)] [] [] (qr eR)
 ·refine qk (qs (rq hC [oN aJ s1] [15,16,17] [(15,vM aJ s1),(16,vI (s1.length:Int)),(17,vI 0)] [] [] (qb (jN h (fun x_=>aX [(1,vM aJ s2),(2,V.fn eqF []),(15,vM aJ s1),(16,vI (s1.length:Int)),(17,vI x_)] [] []) lS ?_))))
  rintro again2 x1 h
  refine rq hC [] [18] [(18,vB (decide (x1<(s1.length:Int))))] [] [] (qs (aS h (fun c2 h=> ?_) (fun c2 h=> ?_)))
  ·refine qk (qs (qb ?_))
   obtain⟨x3,hx3,h⟩:=bd h
   refine rq hC [oR aJ hx3,.z (.nat 20)] [7,8,19,20,21] [(7,vI x1),(8,V.ref 20 0)] [(20,sc [vS x3.name,vM rI x3.dims])] [(20,true)] ?_
   obtain⟨x4,hx4,h⟩:=bd h
   refine rq hC [oR aJ hx4,.z (.nat 21)] [9,22,23,24,25] [(9,V.ref 21 0)] [(21,sc [vS x4.name,vM rI x4.dims])] [(21,true)] ?_
   obtain⟨x5,hx5,h⟩:=bd h
   refine rq hC [oV (heq x3 x4 _ hx5)] (fr 26 5) [(30,vB (!x5))] [] [] (aS h (fun c3 h=> ?_) (fun c3 h=> ?_))
   ·obtain rfl:=so h
    exact rq hC [] [6] [(6,vB false)] [] [] (qr eR)
   ·exact qk (rk hC [] [17,31] [(17,vI (wr (x1+1)))] [] [] (lE h))
  ·obtain rfl:=so h
   exact cW (rq hC [] [6] [(6,vB true)] [] [] (qr eR))
theorem xM(G:GS)(n:Nat)(s1:List Part)(s2:List Part)(eqF:FuncId)(eq:Part→Part→Option Bool)(heq: ∀(q0:Part) (q1:Part) r,eq q0 q1=some r→PQ G eqF [V.agg (l4 q0),V.agg (l4 q1)] (vB r)){r:Bool}(h:jC n s1 s2 eq=some r):PQ G 78 [vM aD s1,vM aD s2,V.fn eqF []] (vB r):=by
 unfold jC at h
 refine pq aO Tryz.func78 rfl fun w X hC=> ?_
 refine rq hC [] [6] [] [] [] (qs (rq hC [oN aD s1,oN aD s2] (fr 10 5) [(14,vB (!decide ((s1.length:Int)=(s2.length:Int))))] [] [] (aS h (fun c1 h=> ?_) (fun c1 h=> ?_))))
 ·obtain rfl:=so h
  exact rq hC [] [6] [(6,vB false)] [] [] (qr eR)
 ·refine qk (qs (rq hC [oN aD s1] [15,16,17] [(15,vM aD s1),(16,vI (s1.length:Int)),(17,vI 0)] [] [] (qb (jN h (fun x_=>aX [(1,vM aD s2),(2,V.fn eqF []),(15,vM aD s1),(16,vI (s1.length:Int)),(17,vI x_)] [] []) lS ?_))))
  rintro again2 x1 h
  refine rq hC [] [18] [(18,vB (decide (x1<(s1.length:Int))))] [] [] (qs (aS h (fun c2 h=> ?_) (fun c2 h=> ?_)))
  ·refine qk (qs (qb ?_))
   obtain⟨x3,hx3,h⟩:=bd h
   refine rq hC [oR aD hx3,.z (.nat 20)] [7,8,19,20,21] [(7,vI x1),(8,V.ref 20 0)] [(20,some (E.cells (l4 x3)))] [(20,true)] ?_
   obtain⟨x4,hx4,h⟩:=bd h
   refine rq hC [oR aD hx4,.z (.nat 21)] [9,22,23,24,25] [(9,V.ref 21 0)] [(21,some (E.cells (l4 x4)))] [(21,true)] ?_
   obtain⟨x5,hx5,h⟩:=bd h
   refine rq hC [oV (heq x3 x4 _ hx5)] (fr 26 5) [(30,vB (!x5))] [] [] (aS h (fun c3 h=> ?_) (fun c3 h=> ?_))
   ·obtain rfl:=so h
    exact rq hC [] [6] [(6,vB false)] [] [] (qr eR)
   ·exact qk (rk hC [] [17,31] [(17,vI (wr (x1+1)))] [] [] (lE h))
  ·obtain rfl:=so h
   exact cW (rq hC [] [6] [(6,vB true)] [] [] (qr eR))
theorem qB(G:GS)(n:Nat)(x:Arr)(y:Arr){r:Bool}(h:fC n x y=some r):PQ G 71 [V.agg [vS x.name,vM rI x.dims],V.agg [vS y.name,vM rI y.dims]] (vB r):=by
 unfold fC at h
 refine pq aO Tryz.func71 rfl fun w X hC=> ?_
 refine rq hC [.z (.b (true)),.z (.b (true))] [2,3,4] [(2,V.tp [T.str x.name,T.sl (List.map rI x.dims)]),(3,V.tp [T.str y.name,T.sl (List.map rI y.dims)])] [] [] (vj h (fun x_=>aX [(4,vB x_)] [] []) (fun j1 h=> ?_) (fun x3 h=> ?_))
 ·
  refine aQ h (fun c1 h=> ?_) (fun c1 h=> ?_)
  ·exact rk hC (rF 6 c1) (fr 4 13) [(4,vB false)] [] [] (lE h)
  ·obtain⟨x2,hx2,h⟩:=bd h
   exact rk hC (rT 5 c1++[oV (qH G hx2),oT c1]) (fr 4 13) [(4,vB x2)] [] [] (lE h)
 ·obtain rfl:=so h
  exact qr eR
theorem nK{a}{b}{r}(h:eN n a b=some r):PQ G 18 [V.agg (bH a),V.agg (bH b)] (vB r):=by
 unfold eN at h
 refine pq aO Tryz.func18 rfl fun w X hC=> ?_
 refine rq hC [.z (.b (true)),.z (.b (true))] [2,3,4] [(2,V.tp (bO a)),(3,V.tp (bO b))] [] [] (rq hC [] [5] [(5,V.fn 71 [])] [] [] (rq hC [] [6] [(6,V.fn 73 [])] [] [] (vj h (fun x_=>aX [(4,vB x_)] [] []) (fun j1 h=> ?_) (fun x4 h=> ?_))))
 ·
  obtain⟨x2,hx2,h⟩:=bd h
  refine aQ h (fun c1 h=> ?_) (fun c1 h=> ?_)
  ·exact rk hC ([oV (nM G n a.arrays b.arrays 71 (fun q0 q1=>fC n q0 q1) (fun q0 q1 r h=>qB G n q0 q1 h) hx2)]++rF 7 c1) [4,7,8,9,10,11,12,13,14,15,16,17,18,19,20] [(4,vB false)] [] [] (lE h)
  ·obtain⟨x3,hx3,h⟩:=bd h
   exact rk hC ([oV (nM G n a.arrays b.arrays 71 (fun q0 q1=>fC n q0 q1) (fun q0 q1 r h=>qB G n q0 q1 h) hx2)]++rT 6 c1++[oV (xM G n a.parts b.parts 73 (fun q0 q1=>fB n q0 q1) (fun q0 q1 r h=>zH G n q0 q1 h) hx3),oT c1]) [4,7,8,9,10,11,12,13,14,15,16,17,18,19,20] [(4,vB x3)] [] [] (lE h)
 ·obtain rfl:=so h
  exact qr eR
theorem lW{p}{r}(h:eD n p=some r):PQ G 181 [V.agg (bH p)] (vI r):=by
 unfold eD at h
 refine pq aO Tryz.func181 rfl fun w X hC=> ?_
 refine rq hC [.z (.b (true))] [1,2] [(1,V.tp (bO p))] [] [] (rq hC [] [3] [(3,vI 0)] [] [] (qs (rq hC [oN aJ p.arrays] (fr 6 4) [(7,vM aJ p.arrays),(8,vI (p.arrays.length:Int)),(9,vI 0)] [] [] (qb (jN h (fun x_=>aX [(3,vI x_.1),(7,vM aJ p.arrays),(8,vI (p.arrays.length:Int)),(9,vI x_.2)] [] []) lS ?_)))))
 rintro again3 ⟨x1,x2⟩ h
 refine rq hC [] [10] [(10,vB (decide (x2<(p.arrays.length:Int))))] [] [] (qs (aS h (fun c1 h=> ?_) (fun c1 h=> ?_)))
 ·refine qk (qs (qb ?_))
  obtain⟨x4,hx4,h⟩:=bd h
  refine rq hC [oR aJ hx4,.z (.nat 20)] [5,11,12] [(5,V.ref 20 0)] [(20,sc [vS x4.name,vM rI x4.dims])] [(20,true)] ?_
  obtain⟨x5,hx5,h⟩:=bd h
  exact rk hC [oV (u6 G hx5)] [3,13,14,15,16] [(3,vI (wr (x1+x5)))] [] [] (rk hC [] [9,17] [(9,vI (wr (x2+1)))] [] [] (lE h))
 ·obtain rfl:=so h
  exact cW (rq hC [] [2,18] [(2,vI x1)] [] [] (qr eR))
end Go.Lift
