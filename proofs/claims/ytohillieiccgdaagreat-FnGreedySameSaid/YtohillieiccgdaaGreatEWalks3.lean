/- The walks: the code computes what the plain functions say. -/
import Derived.Test.YtohillieiccgdaaGreatEModels
import Derived.Test.YtohillieiccgdaaGreatEWalks2
set_option maxRecDepth 10000
set_option linter.unusedVariables false
namespace Go.Lift
open Go Go.Proofs
variable (G:GS) {n:Nat}
theorem K3{p}{r}(h:uA n p=some r):PQ G 59 [V.agg (cN p)] (V.tup [vP aE6 r.1,vB r.2]):=by
 unfold uA at h
 refine pmr aN Tryz.func59 rfl rfl rfl rfl rfl (aHE _ _ _) rfl ?_
 intro w X hC
 refine rq hC [.z (.b (true))] [1,2,3] [(1,V.tp (bT p))] [] [] ?_
 obtain⟨x1,hx1,h⟩:=bd h
 refine rq hC [oC [] [20] (dG G hx1)] [4,5,11,12,13,14,15] [(4,ms 20 1 3 aK x1.1),(5,vB x1.2)] [(20,some (ar 38 1 3 aK x1.1))] [(20,true)] (qs (rq hC [] [16,17] [(17,vB (!x1.2))] [] [] (aQ h (fun c1 h=> ?_) (fun c1 h=> ?_))))
 ·obtain rfl:=so h
  exact rq hC [] [2,3] [(2,V.t T.nilP),(3,vB false)] [] [] (qr eR)
 ·refine qk (rq hC [.z (.nat 21)] [6,18,19,20,21] [(6,V.ref 21 0)] [(21,sc [vM aT p.arrays,vM aH p.parts,ms 20 1 3 aK x1.1,V.t T.nilS,V.t T.nilS])] [(21,true)] (qs (rq hC [oN aK x1.1] [22,23,24] [(22,ms 20 1 3 aK x1.1),(23,vI (x1.1.length:Int)),(24,vI 0)] [] [] (qb (qw (lk hC [.growc 21 3 22 27] [] [] [(22,some (ar 27 1 1 (rL rI) [])),(21,sc [vM aT p.arrays,vM aH p.parts,ms 20 1 3 aK x1.1,ms 22 1 1 (rL rI) [],V.t T.nilS])] [(22,true)]) ?_)))))
  refine qw (lk hC [.growc 21 4 23 3] [] [] [(23,some (ar 3 1 1 rI [])),(21,sc [vM aT p.arrays,vM aH p.parts,ms 20 1 3 aK x1.1,ms 22 1 1 (rL rI) [],ms 23 1 1 rI []])] [(23,true)]) (bC (γ:=Nat×Nat) h (fun x_ g_=>aY [(1,V.tp (bT p)),(6,V.ref 21 0),(22,ms 20 1 3 aK x1.1),(23,vI (x1.1.length:Int)),(24,vI x_.2.2)] [(20,ar 38 1 3 aK x1.1),(21,E.cells [vM aT p.arrays,vM aH p.parts,ms 20 1 3 aK x1.1,ms 22 g_.1 1 (rL rI) x_.1,ms 23 g_.2 1 rI x_.2.1]),(22,ar 27 g_.1 1 (rL rI) x_.1),(23,ar 3 g_.2 1 rI x_.2.1)] [20,21,22,23]) (1,1) (lS) ?_)
  rintro again7 ⟨x2,x3,x4⟩ ⟨g5,g6⟩ h
  refine rq hC [] [25] [(25,vB (decide (x4<(x1.1.length:Int))))] [] [] (qs (aQ h (fun c2 h=> ?_) (fun c2 h=> ?_)))
  ·refine qk (qs (qb ?_))
   obtain⟨x8,hx8,h⟩:=bd h
   refine rq hC [oQ (kQ aK hx8),oX aK hx8,.z (.nat 24)] [8,26,27] [(8,V.ref 24 0)] [(24,some (E.cells (aBV x8)))] [(24,true)] ?_
   obtain⟨x9,hx9,h⟩:=bd h
   refine rq hC [oC [] [25] (sA G hx9)] [9,10,28,29,30,31,32,33] [(9,ms 25 1 1 rI x9.1),(10,vI x9.2)] [(25,some (ar 3 1 1 rI x9.1))] [(25,true)] ?_
   obtain⟨x10,hx10,x11,hx11,h⟩:=dH h
   exact dk hC bP [.z (.at 15),.z (.fz 25 [9,40] []),.z (.int 0),oA (aS (rL rI) hx10),.z (.int 0),oQ (cE (r:=(rL rI)) 1 (fun _=>rfl) x2),oQ (cE (r:=(rL rI)) 1 (fun _=>rfl) [x9.1]),oA (aS rI hx11),oQ (cE (r:=rI) 1 (fun _=>rfl) x3),oQ (cE (r:=rI) 1 (fun _=>rfl) [x9.2])] [9,34,35,36,37,38,39,40,41,42,43,44,45,46,47,48,49,50,51,52,53] [] [(25,none),(22,some (ar 27 (g5+1) 1 (rL rI) x10)),(23,some (ar 3 (g6+1) 1 rI x11)),(21,sc [vM aT p.arrays,vM aH p.parts,ms 20 1 3 aK x1.1,ms 22 (g5+1) 1 (rL rI) x10,ms 23 (g6+1) 1 rI x11])] [] (rk hC [] [24,54] [(24,vI (wr (x4+1)))] [] [] ⟨(x10,x11,wr (x4+1)),((g5+1),(g6+1)),h,lS⟩)
  ·obtain rfl:=so h
   exact cZ (rq hC [] [2,3,55] [(2,V.ref 21 0),(3,vB true)] [] [] (qw (lk hC [.fz 20 [22] [21],.fz 22 [] [21],.fz 23 [] [21],.fp 21 [2,6]] [2,6,22] [(2,V.tp [T.sl (List.map aT p.arrays),T.sl (List.map aH p.parts),T.sl (List.map aK x1.1),T.sl (List.map (rL rI) x2),T.sl (List.map rI x3)]),(6,V.tp [T.sl (List.map aT p.arrays),T.sl (List.map aH p.parts),T.sl (List.map aK x1.1),T.sl (List.map (rL rI) x2),T.sl (List.map rI x3)]),(22,vM aK x1.1)] [(21,none),(20,none),(22,none),(23,none)] []) (qr eR)))
theorem G0{s}{v}{r}(h:mE n s v=some r):PQ G 194 [vM rI s,vI v] (vI r):=by
 unfold mE at h
 refine pq aN Tryz.func194 rfl fun w X hC=> ?_
 refine rq hC [] [4] [] [] [] (qs (rq hC [oN rI s] [6,7,8] [(7,vI (s.length:Int)),(8,vI 0)] [] [] (qb (kW h (fun x_=>aY [(0,vM rI s),(1,vI v),(7,vI (s.length:Int)),(8,vI x_)] [] []) lS ?_))))
 rintro again2 x1 h
 refine rq hC [] [9] [(9,vB (decide (x1<(s.length:Int))))] [] [] (qs (aQ h (fun c1 h=> ?_) (fun c1 h=> ?_)))
 ·refine qk (qs (qb (rq hC [] [5,10] [(5,vI x1)] [] [] ?_)))
  obtain⟨x3,hx3,h⟩:=bd h
  refine rq hC [oR rI hx3] (fr 11 6) [(16,vB (decide (v=x3)))] [] [] (aQ h (fun c2 h=> ?_) (fun c2 h=> ?_))
  ·obtain rfl:=so h
   exact rq hC [] [4,17] [(4,vI x1)] [] [] (qr eR)
  ·exact qk (rk hC [] [8,18] [(8,vI (wr (x1+1)))] [] [] (lE h))
 ·obtain rfl:=so h
  exact cZ (rq hC [] [4] [(4,vI (-1))] [] [] (qr eR))
theorem nS{s}{v}{r}(h:d9 n s v=some r):PQ G 150 [vM rI s,vI v] (vB r):=by
 unfold d9 at h
 refine pq aN Tryz.func150 rfl fun w X hC=> ?_
 refine rq hC [] [4] [] [] [] ?_
 obtain⟨x1,hx1,h⟩:=bd h
 obtain rfl:=so h
 exact rq hC [oV (G0 G hx1)] (fr 4 5) [(4,vB (decide ((0:Int)≤x1)))] [] [] (qr eR)
theorem jV{p}{r}(h:cI n p=some r):VQ G 19 [] [V.agg (cN p)] (ms 0 1 3 aK r) [ar 38 1 3 aK r]:=by
 unfold cI at h
 refine vq aN Tryz.func19 rfl fun w X β0 hC hg=> ?_
 refine rq hC [.z (.b (true))] [1,2] [(1,V.tp (bT p))] [] [] ?_
 obtain⟨x1,hx1,h⟩:=bd h
 refine rq hC [oC [] [20] (dG G hx1)] (fr 3 7) [(3,ms 20 1 3 aK x1.1),(4,vB x1.2)] [(20,some (ar 38 1 3 aK x1.1))] [(20,true)] (qs (rq hC [] [10,11] [(11,vB (!x1.2))] [] [] (aQ h (fun c1 h=> ?_) (fun c1 h=> ?_))))
 ·obtain rfl:=so h
  exact rq hC [] [2] [(2,V.t T.nilS)] [] [] (qw (lk hC [.grow 2 0 38] [2] [(2,ms 0 1 3 aK [])] [(0,some (ar 38 1 3 aK []))] [(0,true)]) (qr eW))
 ·obtain rfl:=so h
  exact qk (rq hC [] [2,12] [(2,ms 20 1 3 aK x1.1)] [] [] (qw (lk hC [.ren 2 20 0] [2] [(2,ms 0 1 3 aK x1.1)] [(0,some (ar 38 1 3 aK x1.1)),(20,none)] [(0,true)]) (qr eW)))
theorem uR(G:GS)(n:Nat)(n_a0:Int){r:Bool}(h:dK n n_a0=some r):PQ G 152 [vI n_a0] (vB r):=by
 unfold dK at h
 refine pq aN Tryz.func152 rfl fun w X hC=> ?_
 refine rq hC [] [2] [] [] [] ?_
 obtain⟨x1,hx1,h⟩:=bd h
 obtain rfl:=so h
 exact rq hC [oV (bA G hx1)] (fr 2 4) [(2,vB (!x1))] [] [] (qr eR)
theorem eD{p}{r}(h:dE n p=some r):PQ G 28 [V.agg (cN p)] (vB r):=by
 unfold dE at h
 refine pq aN Tryz.func28 rfl fun w X hC=> ?_
 refine rq hC [.z (.b (true))] [1,2] [(1,V.tp (bT p))] [] [] ?_
 obtain⟨x1,hx1,h⟩:=bd h
 obtain rfl:=so h
 exact rq hC [oC [] [20] (dG G hx1)] (fr 3 7) [(4,vB x1.2)] [(20,some (ar 38 1 3 aK x1.1))] [(20,true)] (rq hC [] [2,10] [(2,vB x1.2)] [] [] (qr eR))
theorem iN{p}{r}(h:cQ n p=some r):PQ G 85 [V.agg (cN p)] (vI r):=by
 unfold cQ at h
 refine pq aN Tryz.func85 rfl fun w X hC=> ?_
 refine rq hC [.z (.b (true))] [1,2] [(1,V.tp (bT p))] [] [] (rq hC [] [3] [(3,vI 0)] [] [] (qs (rq hC [oN aT p.arrays] (fr 6 4) [(7,vM aT p.arrays),(8,vI (p.arrays.length:Int)),(9,vI 0)] [] [] (qb (kW h (fun x_=>aY [(3,vI x_.1),(7,vM aT p.arrays),(8,vI (p.arrays.length:Int)),(9,vI x_.2)] [] []) lS ?_)))))
 rintro again3 ⟨x1,x2⟩ h
 refine rq hC [] [10] [(10,vB (decide (x2<(p.arrays.length:Int))))] [] [] (qs (aQ h (fun c1 h=> ?_) (fun c1 h=> ?_)))
 ·refine qk (qs (qb ?_))
  obtain⟨x4,hx4,h⟩:=bd h
  refine rq hC [oR aT hx4,.z (.nat 20)] [5,11,12] [(5,V.ref 20 0)] [(20,sc [vS x4.name,vM rI x4.dims])] [(20,true)] ?_
  obtain⟨x5,hx5,h⟩:=bd h
  exact rk hC [oV (qW G hx5)] [3,13,14,15,16] [(3,vI (wr (x1+x5)))] [] [] (rk hC [] [9,17] [(9,vI (wr (x2+1)))] [] [] (lE h))
 ·obtain rfl:=so h
  exact cZ (rq hC [] [2,18] [(2,vI x1)] [] [] (qr eR))
theorem pG{p}{m}{r}(h:fZ n p m=some r):PQ G 61 [V.agg (cN p),vM rI m] (vB r):=by
 unfold fZ at h
 refine pq aN Tryz.func61 rfl fun w X hC=> ?_
 refine rq hC [.z (.b (true))] [2,4] [(2,V.tp (bT p))] [] [] (vj h (fun x_=>aY [(4,vB x_)] [] []) (fun j1 h=> ?_) (fun x5 h=> ?_))
 ·
  obtain⟨x2,hx2,h⟩:=bd h
  refine aR h (fun c1 h=> ?_) (fun c1 h=> ?_)
  ·exact rk hC ([oV (eD G hx2)]++rF 6 c1++sF 4) (fr 4 15) [(4,vB false)] [] [] (lE h)
  ·obtain⟨x3,hx3,h⟩:=bd h
   refine aR h (fun c2 h=> ?_) (fun c2 h=> ?_)
   ·exact rk hC ([oV (eD G hx2),oT c1,oT c1,oN rI m,oT c1,oT c1,oV (iN G hx3),oT c1,oT c1]++rF 4 c2) (fr 4 15) [(4,vB false)] [] [] (lE h)
   ·obtain⟨x4,hx4,h⟩:=bd h
    exact rk hC [oV (eD G hx2),oT c1,oT c1,oN rI m,oT c1,oT c1,oV (iN G hx3),oT c1,oT c1,oT c2,oT c2,oV (cM G n m 152 (fun q0=>dK n q0) (fun q0 r h=>uR G n q0 h) hx4),oT c2,oT c2] (fr 4 15) [(4,vB (!x4))] [] [] (lE h)
 ·obtain rfl:=so h
  exact qr eR
theorem o8{n_a0}{r}(h:jQ n n_a0=some r):PQ G 221 [vI n_a0] (vI r):=by
 unfold jQ at h
 refine pq aN Tryz.func221 rfl fun w X hC=> ?_
 obtain rfl:=so h
 exact rq hC [] [2] [] [] [] (rq hC [oQ (show(1000:Int)≠0 by decide),oQ (show(1000:Int)≠0 by decide)] (fr 2 6) [(2,vI (Int.tmod (wr ((wr ((Int.tmod n_a0 1000)+999))+1)) 1000))] [] [] (qr eR))
theorem uQ(G:GS): ∀(n:Nat) (p:Prog) (m:List Int) (e:Expr) (point:List Int) {r:Int} (h:i_Program_value n p m e point=some r),PQ G 153 [V.agg (cN p),vM rI m,V.agg (fR e),vM rI point] (vI r):=by
 intro n
 induction n with
 |zero=>intro p m e point r h;rw [i_Program_value.eq_def] at h;cases h
 |succ n ih=>
  intro p m e point r h
  rw [i_Program_value.eq_def] at h;dsimp only at h
  refine pq aN Tryz.func153 rfl fun w X hC=> ?_
  refine rq hC [.z (.b (true)),.z (.b (true))] [4,6,8] [(4,V.tp (bT p)),(6,V.tp (gZ e))] [] [] (qs (rq hC [] [11,12] [(12,vI e.kind)] [] [] (qb (rq hC [] [13,14] [(13,vB (decide (e.kind=1)))] [] [] (aQ h (fun c1 h=> ?_) (fun c1 h=> ?_))))))
  ·obtain rfl:=so h
   exact rq hC [] [8,15,16] [(8,vI e.num)] [] [] (qr eR)
  ·refine rq hC [] [17,18] [(17,vB (decide (e.kind=2)))] [] [] (aQ h (fun c2 h=> ?_) (fun c2 h=> ?_))
   ·obtain⟨x1,hx1,x2,hx2,h⟩:=dH h
    obtain rfl:=so h
    exact rq hC [oV (dM G hx1),oV (o8 G hx2)] [8,19,20,21,22,23] [(8,vI x2)] [] [] (qr eR)
   ·refine rq hC [] [24,25] [(24,vB (decide (e.kind=3)))] [] [] (aQ h (fun c3 h=> ?_) (fun c3 h=> ?_))
    ·obtain⟨x3,hx3,x4,hx4,h⟩:=dH h
     obtain rfl:=so h
     exact rq hC [oV (cJ G hx3),oR rI hx4] [8,26,27,28,29,30,31,32,33] [(8,vI x4)] [] [] (qr eR)
    ·refine qk (qs ?_)
     obtain⟨x5,hx5,x6,hx6,x7,hx7,h⟩:=lZ h
     obtain⟨x8,hx8,h⟩:=bd h
     refine dk hC bP [.z (.row (eG x5)),oQ (gE aM hx5 (dB x5)),oV (ih p m x5 point hx6),.z (.row (eG x7)),oQ (gE aM hx7 (dB x7)),oV (ih p m x7 point hx8)] [9,10,34,35,36,37,38,39,40,41,42,43,44,45,46,47,48,49] [(9,vI x6),(10,vI x8)] [] [] (qs (rq hC [] [50,51] [(51,vI e.kind)] [] [] (qb (rq hC [] [52,53] [(52,vB (decide (e.kind=4)))] [] [] (aQ h (fun c4 h=> ?_) (fun c4 h=> ?_))))))
     ·obtain⟨x9,hx9,h⟩:=bd h
      obtain rfl:=so h
      exact rq hC [oV (o8 G hx9)] [8,54,55,56,57] [(8,vI x9)] [] [] (qr eR)
     ·refine rq hC [] [58,59] [(58,vB (decide (e.kind=5)))] [] [] (aQ h (fun c5 h=> ?_) (fun c5 h=> ?_))
      ·obtain⟨x10,hx10,h⟩:=bd h
       obtain rfl:=so h
       exact rq hC [oV (o8 G hx10)] [8,60,61,62,63] [(8,vI x10)] [] [] (qr eR)
      ·refine qk ?_
       obtain⟨x11,hx11,h⟩:=bd h
       obtain rfl:=so h
       exact rq hC [oV (o8 G hx11)] [8,64,65,66,67] [(8,vI x11)] [] [] (qr eR)
theorem D5{p}{m}(mG:Nat){x}{r}(h:iE n p m x=some r):VQ G 63 [ar 3 mG 1 rI m] [V.agg (cN p),ms 0 mG 1 rI m,V.agg (aBV x)] (V.tup []) [ar 3 mG 1 rI r]:=by
 unfold iE at h
 refine vq aN Tryz.func63 rfl fun w X β0 hC hg=> ?_
 refine rq hC [.z (.b (true)),.z (.b (true))] [3,5] [(3,V.tp (bT p)),(5,V.tp (aBp x))] [] [] ?_
 obtain⟨x1,hx1,h⟩:=bd h
 refine rq hC [oV (nU G hx1),.z (.nat 20)] (fr 6 4) [(6,V.ref 20 0)] [(20,some (E.cells (gA x1)))] [(20,true)] ?_
 obtain⟨x2,hx2,x3,hx3,x4,hx4,h⟩:=lZ h
 obtain⟨x5,hx5,h⟩:=bd h
 obtain rfl:=so h
 exact dk hC bP [oV (cJ G hx2),.z (.b (true)),oV (uQ G n p m x1.value x.point hx3),oQ (kQ rI hx4),oX rI hx4,.z (.rows (List.map rI x5)),oQ (str rI hx5)] [1,10,11,12,13,14,15,16,17,18,19,20,21,22,23,24] [] [(0,some (ar 3 mG 1 rI x5))] [] eW
theorem oZ{a}{b}{r}(h:gX n a b=some r):PQ G 17 [vM rI a,vM rI b] (vB r):=by
 unfold gX at h
 refine pq aN Tryz.func17 rfl fun w X hC=> ?_
 refine rq hC [] [4] [] [] [] (qs (rq hC [oN rI a,oN rI b] (fr 6 5) [(10,vB (!decide ((a.length:Int)=(b.length:Int))))] [] [] (aQ h (fun c1 h=> ?_) (fun c1 h=> ?_))))
 ·obtain rfl:=so h
  exact rq hC [] [4] [(4,vB false)] [] [] (qr eR)
 ·refine qk (qs (rq hC [] [5] [(5,vI 0)] [] [] (qb (kW h (fun x_=>aY [(0,vM rI a),(1,vM rI b),(5,vI x_)] [] []) lS ?_))))
  rintro again2 x1 h
  refine qs (rq hC [oN rI a] (fr 11 4) [(14,vB (decide (x1<(a.length:Int))))] [] [] (aQ h (fun c2 h=> ?_) (fun c2 h=> ?_)))
  ·refine qk (qs (qb (qs ?_)))
   obtain⟨x3,hx3,x4,hx4,h⟩:=dH h
   refine dk hC bP [oR rI hx3,oR rI hx4] (fr 17 9) [(25,vB (!decide (x3=x4)))] [] [] (aQ h (fun c3 h=> ?_) (fun c3 h=> ?_))
   ·obtain rfl:=so h
    exact rq hC [] [4] [(4,vB false)] [] [] (qr eR)
   ·exact qk (rk hC [] [5,15,16] [(5,vI (wr (x1+1)))] [] [] (lE h))
  ·obtain rfl:=so h
   exact cZ (rq hC [] [4] [(4,vB true)] [] [] (qr eR))
theorem pE{p}{r}(h:eU n p=some r):VQ G 70 [] [V.agg (cN p)] (ms 0 1 3 aK r) [ar 38 1 3 aK r]:=by
 unfold eU at h
 refine vq aN Tryz.func70 rfl fun w X β0 hC hg=> ?_
 refine rq hC [.z (.b (true))] [1,2] [(1,V.tp (bT p))] [] [] (rq hC [.z (.nat 20)] [3,8] [(3,ms 20 1 3 aK [])] [(20,some (ar 38 1 3 aK []))] [(20,true)] (qs (rq hC [] [4] [(4,vI 0)] [] [] (qb (bC (γ:=Nat) h (fun x_ g_=>aY [(1,V.tp (bT p)),(3,ms 20 g_ 3 aK x_.1),(4,vI x_.2)] [(20,ar 38 g_ 3 aK x_.1)] [20]) 1 (lS) ?_)))))
 rintro again4 ⟨x1,x2⟩ g3 h
 refine qs (rq hC [oN aH p.parts] (fr 9 5) [(13,vB (decide (x2<(p.parts.length:Int))))] [] [] (aQ h (fun c1 h=> ?_) (fun c1 h=> ?_)))
 ·refine qk (qs (qb ?_))
  obtain⟨x5,hx5,x6,hx6,h⟩:=dH h
  refine rq hC [.z (.nat 21),oR aH hx5,oC [21] [] (uL G n [] 1 x5.nest [] hx6)] [5,16,17,18,19,20,21,22,23] [(5,ms 21 2 1 (rL rI) x6)] [(21,some (ar 27 2 1 (rL rI) x6))] [(21,true),(21,true)] (rq hC [] [6] [(6,vI 0)] [] [] (qb (bC (γ:=Nat) h (fun x_ g_=>aY [(1,V.tp (bT p)),(3,ms 20 g_ 3 aK x_.1),(4,vI x2),(5,ms 21 2 1 (rL rI) x6),(6,vI x_.2)] [(20,ar 38 g_ 3 aK x_.1),(21,ar 27 2 1 (rL rI) x6)] [20,21]) g3 (lS) ?_)))
  rintro again10 ⟨x7,x8⟩ g9 h
  refine qs (rq hC [oN (rL rI) x6] (fr 24 4) [(27,vB (decide (x8<(x6.length:Int))))] [] [] (aQ h (fun c2 h=> ?_) (fun c2 h=> ?_)))
  ·refine qk (qs (qb (rq hC [] [7] [(7,vI 0)] [] [] (qb (bC (γ:=Nat) h (fun x_ g_=>aY [(1,V.tp (bT p)),(3,ms 20 g_ 3 aK x_.1),(4,vI x2),(5,ms 21 2 1 (rL rI) x6),(6,vI x8),(7,vI x_.2)] [(20,ar 38 g_ 3 aK x_.1),(21,ar 27 2 1 (rL rI) x6)] [20,21]) g9 (lS) ?_)))))
   rintro again14 ⟨x11,x12⟩ g13 h
   refine qs (rq hC [oR aH hx5,oN aX x5.body] (fr 30 9) [(38,vB (decide (x12<(x5.body.length:Int))))] [] [] (aQ h (fun c3 h=> ?_) (fun c3 h=> ?_)))
   ·refine qk (qs (qb ?_))
    obtain⟨x15,hx15,x16,hx16,x17,hx17,h⟩:=lZ h
    exact rk hC [.z (.nat 22),oQ (kQ (rL rI) hx15),oX (rL rI) hx15,oA (aS rI hx16),.z (.at 4),.z (.fz 22 [49] []),.z (.int 0),oQ (cE (r:=rI) 1 (fun _=>rfl) []),oQ (cE (r:=rI) 1 (fun _=>rfl) x15),oA (aS aK hx17),oQ (cE (r:=aK) 3 rJ x11),oQ (cE (r:=aK) 3 rJ [(⟨x2,x12,x16⟩:Inst)])] [3,41,42,43,44,45,46,47,48,49,50,51,52] [(3,ms 20 (g13+1) 3 aK x17)] [(22,none),(20,some (ar 38 (g13+1) 3 aK x17))] [(22,true)] (rk hC [] [7,39,40] [(7,vI (wr (x12+1)))] [] [] ⟨(x17,wr (x12+1)),(g13+1),h,lS⟩)
   ·exact cZ (rk hC [] [6,28,29] [(6,vI (wr (x8+1)))] [] [] ⟨(x11,wr (x8+1)),g13,h,lS⟩)
  ·exact cZ (rk hC [] [4,14,15] [(4,vI (wr (x2+1)))] [] [] ⟨(x7,wr (x2+1)),g9,h,lS⟩)
 ·obtain rfl:=so h
  exact cZ (rq hC [] [2,53] [(2,ms 20 g3 3 aK x1)] [] [] (qw (lk hC [.ren 2 20 0] [2] [(2,ms 0 1 3 aK x1)] [(0,some (ar 38 1 3 aK x1)),(20,none)] [(0,true)]) (qr eW)))
theorem aAQ{p}{r}(h:pT n p=some r):VQ G 65 [] [V.agg (cN p)] (ms 0 1 2 cA r) [ar 83 1 2 cA r]:=by
 unfold pT at h
 refine vq aN Tryz.func65 rfl fun w X β0 hC hg=> ?_
 refine rq hC [.z (.b (true))] [1,2] [(1,V.tp (bT p))] [] [] (rq hC [.z (.nat 20)] [3,9] [(3,ms 20 1 2 cA [])] [(20,some (ar 83 1 2 cA []))] [(20,true)] ?_)
 obtain⟨x1,hx1,h⟩:=bd h
 refine rq hC [oC [] [21] (pE G hx1)] [4,10,11] [(4,ms 21 1 3 aK x1)] [(21,some (ar 38 1 3 aK x1))] [(21,true)] (qs (rq hC [] [5] [(5,vI 0)] [] [] (qb (bC (γ:=Nat) h (fun x_ g_=>aY [(1,V.tp (bT p)),(3,ms 20 g_ 2 cA x_.1),(4,ms 21 1 3 aK x1),(5,vI x_.2)] [(20,ar 83 g_ 2 cA x_.1),(21,ar 38 1 3 aK x1)] [20,21]) 1 (lS) ?_))))
 rintro again5 ⟨x2,x3⟩ g4 h
 refine qs (rq hC [oN aK x1] (fr 12 4) [(15,vB (decide (x3<(x1.length:Int))))] [] [] (aQ h (fun c1 h=> ?_) (fun c1 h=> ?_)))
 ·refine qk (qs (qb (qs ?_)))
  obtain⟨x6,hx6,x7,hx7,x8,hx8,h⟩:=lZ h
  obtain⟨x9,hx9,h⟩:=bd h
  refine dk hC bP [oQ (kQ aK hx6),oX aK hx6,oR aH hx7,oQ (kQ aK hx6),oX aK hx6,oR aX hx8,oQ (kQ aK hx6),oX aK hx6,oC [] [22] (w3 G hx9)] [6,7,8,18,19,20,21,22,23,24,25,26,27,28,29,30,31,32,33,34,35,36,37,38,39,40,41,42,43,44,45,46] [(6,ms 22 1 1 rI x9.1),(7,vI x9.2.1)] [(22,some (ar 3 1 1 rI x9.1))] [(22,true)] ?_
  obtain⟨x10,hx10,h⟩:=bd h
  exact rk hC [.z (.at 4),.z (.fz 22 [6,48] []),.z (.int 0),oA (aS cA hx10),oQ (cE (r:=cA) 2 y7 x2),oQ (cE (r:=cA) 2 y7 [(⟨x9.1,x9.2.1⟩:L6Use)])] [3,6,47,48,49,50,51,52] [(3,ms 20 (g4+1) 2 cA x10)] [(22,none),(20,some (ar 83 (g4+1) 2 cA x10))] [] (rk hC [] [5,16,17] [(5,vI (wr (x3+1)))] [] [] ⟨(x10,wr (x3+1)),(g4+1),h,lS⟩)
 ·obtain rfl:=so h
  exact cZ (rq hC [] [2,53] [(2,ms 20 g4 2 cA x2)] [] [] (qw (lk hC [.ren 2 20 0] [2] [(2,ms 0 1 2 cA x2)] [(0,some (ar 83 1 2 cA x2)),(20,none)] [(0,true)]) (qr eW)))
theorem K2{list}{n_a1}{r}(h:q8 n list n_a1=some r):PQ G 158 [vM rI list,vI n_a1] (vB r):=by
 unfold q8 at h
 refine pq aN Tryz.func158 rfl fun w X hC=> ?_
 refine rq hC [] [4] [] [] [] (qs (rq hC [] [5] [(5,vI 0)] [] [] (qb (kW h (fun x_=>aY [(0,vM rI list),(1,vI n_a1),(5,vI x_)] [] []) lS ?_))))
 rintro again2 x1 h
 refine qs (rq hC [oN rI list] (fr 6 4) [(9,vB (decide (x1<(list.length:Int))))] [] [] (aQ h (fun c1 h=> ?_) (fun c1 h=> ?_)))
 ·refine qk (qs (qb ?_))
  obtain⟨x3,hx3,h⟩:=bd h
  refine rq hC [oR rI hx3] (fr 12 6) [(17,vB (decide (x3=n_a1)))] [] [] (aQ h (fun c2 h=> ?_) (fun c2 h=> ?_))
  ·obtain rfl:=so h
   exact rq hC [] [4] [(4,vB true)] [] [] (qr eR)
  ·exact qk (rk hC [] [5,10,11] [(5,vI (wr (x1+1)))] [] [] (lE h))
 ·obtain rfl:=so h
  exact cZ (rq hC [] [4] [(4,vB false)] [] [] (qr eR))
theorem X7{order}{many}{r}(h:nI n order many=some r):PQ G 171 [vM rI order,vI many] (vB r):=by
 unfold nI at h
 refine pq aN Tryz.func171 rfl fun w X hC=> ?_
 refine rq hC [] [4] [] [] [] ?_
 obtain⟨x1,hx1,h⟩:=bd h
 refine rq hC [.z (.nat 20),oA (zO rB hx1),oQ (oH hx1).1] [5,8,9] [(5,ms 20 1 1 rB x1)] [(20,some (ar 4 1 1 rB x1))] [(20,true)] (qs (rq hC [oN rI order] [10,11,12] [(10,vM rI order),(11,vI (order.length:Int)),(12,vI 0)] [] [] (qb (bC (γ:=Nat) h (fun x_ g_=>aY [(0,vM rI order),(1,vI many),(5,ms 20 g_ 1 rB x_.1),(10,vM rI order),(11,vI (order.length:Int)),(12,vI x_.2)] [(20,ar 4 g_ 1 rB x_.1)] [20]) 1 (lS) ?_))))
 rintro again5 ⟨x2,x3⟩ g4 h
 refine rq hC [] [13] [(13,vB (decide (x3<(order.length:Int))))] [] [] (qs (aQ h (fun c1 h=> ?_) (fun c1 h=> ?_)))
 ·refine qk (qs (qb ?_))
  obtain⟨x6,hx6,h⟩:=bd h
  refine rq hC [oR rI hx6] [7,14,15] [(7,vI x6)] [] [] (qs (vj h (fun x_=>aY [(0,vM rI order),(1,vI many),(5,ms 20 g4 1 rB x2),(7,vI x6),(10,vM rI order),(11,vI (order.length:Int)),(12,vI x3),(26,vB x_)] [(20,ar 4 g4 1 rB x2)] [20]) (fun j7 h=> ?_) (fun x10 h=> ?_)))
  ·
   obtain⟨x8,hx8,h⟩:=bd h
   refine aR h (fun c2 h=> ?_) (fun c2 h=> ?_)
   ·obtain⟨x9,hx9,h⟩:=bd h
    exact rk hC ([oV (bA G hx8)]++rF 3 c2++[oQ (kQ rB hx9),oF c2,oX rB hx9,oF c2]) (fr 16 11) [(26,vB x9)] [] [] (lE h)
   ·exact rk hC ([oV (bA G hx8)]++rT 5 c2) (fr 16 11) [(26,vB true)] [] [] (lE h)
  ·refine aQ h (fun c3 h=> ?_) (fun c3 h=> ?_)
   ·obtain rfl:=so h
    exact rq hC [] [4] [(4,vB false)] [] [] (qr eR)
   ·refine qk ?_
    obtain⟨x11,hx11,x12,hx12,h⟩:=dH h
    exact rk hC [oQ (kQ rB hx11),oX rB hx11,.z (.rows (List.map rB x12)),.z (.len 5 (List.map rB x12).length),oQ (str rB hx12),oQ (pK rB hx12)] [5,27,28,29] [(5,ms 20 g4 1 rB x12)] [(20,some (ar 4 g4 1 rB x12))] [] (rk hC [] [12,30] [(12,vI (wr (x3+1)))] [] [] ⟨(x12,wr (x3+1)),g4,h,lS⟩)
 ·obtain rfl:=so h
  exact cZ (rq hC [oN rI order] [4,31,32,33,34] [(4,vB (decide ((order.length:Int)=many)))] [] [] (qr eR))
theorem D6{p}{order}{r}(h:iG n p order=some r):PQ G 72 [V.agg (cN p),vM rI order] (vB r):=by
 unfold iG at h
 refine pq aN Tryz.func72 rfl fun w X hC=> ?_
 refine rq hC [.z (.b (true))] [2,4] [(2,V.tp (bT p))] [] [] ?_
 obtain⟨x1,hx1,h⟩:=bd h
 refine rq hC [oC [] [20] (dG G hx1)] (fr 5 7) [(5,ms 20 1 3 aK x1.1),(6,vB x1.2)] [(20,some (ar 38 1 3 aK x1.1))] [(20,true)] (vj h (fun x_=>aY [(4,vB x_)] [(20,ar 38 1 3 aK x1.1)] [20]) (fun j2 h=> ?_) (fun x4 h=> ?_))
 ·
  refine aR h (fun c1 h=> ?_) (fun c1 h=> ?_)
  ·exact rk hC (rF 5 c1) [4,12,13,14,15,16,17,18] [(4,vB false)] [] [] (lE h)
  ·obtain⟨x3,hx3,h⟩:=bd h
   exact rk hC (rT 3 c1++[oN aK x1.1,oT c1,oV (X7 G hx3),oT c1]) [4,12,13,14,15,16,17,18] [(4,vB x3)] [] [] (lE h)
 ·obtain rfl:=so h
  exact qr eR
theorem uP{p}{m}{order}{r}(h:fH n p m order=some r):VQ G 22 [] [V.agg (cN p),vM rI m,vM rI order] (V.tup [ms 0 1 1 rI r.1,vB r.2]) [ar 3 1 1 rI r.1]:=by
 unfold fH at h
 refine vq aN Tryz.func22 rfl fun w X β0 hC hg=> ?_
 refine rq hC [.z (.b (true))] [3,6,7] [(3,V.tp (bT p))] [] [] (qs (vj h (fun x_=>aY [(1,vM rI m),(2,vM rI order),(3,V.tp (bT p)),(21,vB x_)] [] []) (fun j1 h=> ?_) (fun x4 h=> ?_)))
 ·
  obtain⟨x2,hx2,h⟩:=bd h
  refine aR h (fun c1 h=> ?_) (fun c1 h=> ?_)
  ·obtain⟨x3,hx3,h⟩:=bd h
   exact rk hC ([oV (pG G hx2)]++rF 3 c1++[oV (D6 G hx3),oF c1,oF c1]) (fr 12 10) [(21,vB (!x3))] [] [] (lE h)
  ·exact rk hC ([oV (pG G hx2)]++rT 5 c1) (fr 12 10) [(21,vB true)] [] [] (lE h)
 ·refine aQ h (fun c2 h=> ?_) (fun c2 h=> ?_)
  ·obtain rfl:=so h
   exact rq hC [] [6,7] [(6,V.t T.nilS),(7,vB false)] [] [] (qw (lk hC [.grow 6 0 3] [6] [(6,ms 0 1 1 rI [])] [(0,some (ar 3 1 1 rI []))] [(0,true)]) (qr eW))
  ·refine qk ?_
   obtain⟨x5,hx5,h⟩:=bd h
   refine rq hC [oC [] [20] (jV G hx5)] [8,22,23] [(8,ms 20 1 3 aK x5)] [(20,some (ar 38 1 3 aK x5))] [(20,true)] ?_
   obtain⟨x6,hx6,h⟩:=bd h
   refine rq hC [oC [] [21] (G.clone m hx6)] [9,24,25] [(9,ms 21 1 1 rI x6)] [(21,some (ar 3 1 1 rI x6))] [(21,true)] (qs (rq hC [oN rI order] [26,27,28] [(26,vM rI order),(27,vI (order.length:Int)),(28,vI 0)] [] [] (qb (bC (γ:=Nat) h (fun x_ g_=>aY [(3,V.tp (bT p)),(8,ms 20 1 3 aK x5),(9,ms 21 g_ 1 rI x_.1),(26,vM rI order),(27,vI (order.length:Int)),(28,vI x_.2)] [(20,ar 38 1 3 aK x5),(21,ar 3 g_ 1 rI x_.1)] [20,21]) 1 (lS) ?_))))
   rintro again10 ⟨x7,x8⟩ g9 h
   refine rq hC [] [29] [(29,vB (decide (x8<(order.length:Int))))] [] [] (qs (aQ h (fun c3 h=> ?_) (fun c3 h=> ?_)))
   ·refine qk (qs (qb ?_))
    obtain⟨x11,hx11,h⟩:=bd h
    refine rq hC [oR rI hx11] [11,30,31] [(11,vI x11)] [] [] ?_
    obtain⟨x12,hx12,x13,hx13,x14,hx14,h⟩:=lZ h
    exact dk hC bP [oQ (kQ aK hx12),oX aK hx12,oC [21] [] (D5 G g9 hx13)] (fr 32 7) [] [(21,some (ar 3 g9 1 rI x13))] [(21,true)] (qw (lpP hC [.len 9 (List.map rI x13).length] [9] [(9,ms 21 g9 1 rI x13)] [] [] (a1 (aDi rI hx14)) (by kernel_rfl)) (rk hC [] [28,39] [(28,vI (wr (x8+1)))] [] [] ⟨(x13,wr (x8+1)),g9,h,lS⟩))
   ·obtain rfl:=so h
    exact cZ (rq hC [] [6,7,40] [(6,ms 21 g9 1 rI x7),(7,vB true)] [] [] (qw (lk hC [.ren 6 21 0] [6] [(6,ms 0 1 1 rI x7)] [(0,some (ar 3 1 1 rI x7)),(21,none)] [(0,true)]) (qr eW)))
theorem tJ{t}{from_a1}{to_a2}{r}(h:eA n t from_a1 to_a2=some r):PQ G 74 [V.tp [T.sl (List.map aT t.program.arrays),T.sl (List.map aH t.program.parts),T.sl (List.map aK t.list),T.sl (List.map (rL rI) t.reads),T.sl (List.map rI t.writes)],vI from_a1,vI to_a2] (vI r):=by
 unfold eA at h
 refine pq aN Tryz.func74 rfl fun w X hC=> ?_
 refine rq hC [] [6] [] [] [] (rq hC [] [7] [(7,vI 0)] [] [] (vj h (fun x_=>aY [(0,V.tp [T.sl (List.map aT t.program.arrays),T.sl (List.map aH t.program.parts),T.sl (List.map aK t.list),T.sl (List.map (rL rI) t.reads),T.sl (List.map rI t.writes)]),(1,vI from_a1),(2,vI to_a2),(7,vI x_)] [] []) (fun j1 h=> ?_) (fun x5 h=> ?_)))
 ·
  refine qs ?_
  obtain⟨x2,hx2,x3,hx3,x4,hx4,h⟩:=lZ h
  refine dk hC bP [oR (rL rI) hx2,oR rI hx3,oV (nS G hx4)] (fr 8 15) [(22,vB x4)] [] [] (aQ h (fun c1 h=> ?_) (fun c1 h=> ?_))
  ·exact rk hC [] [7,23,24] [(7,vI (wr (0+1)))] [] [] (lE h)
  ·exact qk (lE h)
 ·refine vj h (fun x_=>aY [(0,V.tp [T.sl (List.map aT t.program.arrays),T.sl (List.map aH t.program.parts),T.sl (List.map aK t.list),T.sl (List.map (rL rI) t.reads),T.sl (List.map rI t.writes)]),(1,vI from_a1),(2,vI to_a2),(7,vI x_)] [] []) (fun j6 h=> ?_) (fun x10 h=> ?_)
  ·
   refine qs ?_
   obtain⟨x7,hx7,x8,hx8,x9,hx9,h⟩:=lZ h
   refine dk hC bP [oR (rL rI) hx7,oR rI hx8,oV (nS G hx9)] (fr 25 15) [(39,vB x9)] [] [] (aQ h (fun c2 h=> ?_) (fun c2 h=> ?_))
   ·exact rk hC [] [7,40,41] [(7,vI (wr (x5+2)))] [] [] (lE h)
   ·exact qk (lE h)
  ·refine vj h (fun x_=>aY [(7,vI x_)] [] []) (fun j11 h=> ?_) (fun x14 h=> ?_)
   ·
    refine qs ?_
    obtain⟨x12,hx12,x13,hx13,h⟩:=dH h
    refine dk hC bP [oR rI hx12,oR rI hx13] (fr 42 15) [(56,vB (decide (x12=x13)))] [] [] (aQ h (fun c3 h=> ?_) (fun c3 h=> ?_))
    ·exact rk hC [] [7,57,58] [(7,vI (wr (x10+4)))] [] [] (lE h)
    ·exact qk (lE h)
   ·obtain rfl:=so h
    exact rq hC [] [6,59] [(6,vI x14)] [] [] (qr eR)
theorem W4{a}{b}{r}(h:mZ n a b=some r):PQ G 75 [V.agg [vM rI a.reads,vI a.write],V.agg [vM rI b.reads,vI b.write]] (vI r):=by
 unfold mZ at h
 refine pq aN Tryz.func75 rfl fun w X hC=> ?_
 refine rq hC [.z (.b (true)),.z (.b (true))] [2,3,4] [(2,V.tp [T.sl (List.map rI a.reads),T.int .i64 a.write]),(3,V.tp [T.sl (List.map rI b.reads),T.int .i64 b.write])] [] [] (rq hC [] [5] [(5,vI 0)] [] [] (vj h (fun x_=>aY [(2,V.tp [T.sl (List.map rI a.reads),T.int .i64 a.write]),(3,V.tp [T.sl (List.map rI b.reads),T.int .i64 b.write]),(5,vI x_)] [] []) (fun j1 h=> ?_) (fun x3 h=> ?_)))
 ·
  obtain⟨x2,hx2,h⟩:=bd h
  refine rq hC [oV (K2 G hx2)] (fr 6 5) [(10,vB x2)] [] [] (aQ h (fun c1 h=> ?_) (fun c1 h=> ?_))
  ·exact rk hC [] [5,11,12] [(5,vI (wr (0+1)))] [] [] (lE h)
  ·exact qk (lE h)
 ·refine vj h (fun x_=>aY [(2,V.tp [T.sl (List.map rI a.reads),T.int .i64 a.write]),(3,V.tp [T.sl (List.map rI b.reads),T.int .i64 b.write]),(5,vI x_)] [] []) (fun j4 h=> ?_) (fun x6 h=> ?_)
  ·
   obtain⟨x5,hx5,h⟩:=bd h
   refine rq hC [oV (K2 G hx5)] (fr 13 5) [(17,vB x5)] [] [] (aQ h (fun c2 h=> ?_) (fun c2 h=> ?_))
   ·exact rk hC [] [5,18,19] [(5,vI (wr (x3+2)))] [] [] (lE h)
   ·exact qk (lE h)
  ·refine vj h (fun x_=>aY [(5,vI x_)] [] []) (fun j7 h=> ?_) (fun x8 h=> ?_)
   ·
    refine rq hC [] (fr 20 5) [(24,vB (decide (a.write=b.write)))] [] [] (aQ h (fun c3 h=> ?_) (fun c3 h=> ?_))
    ·exact rk hC [] [5,25,26] [(5,vI (wr (x6+4)))] [] [] (lE h)
    ·exact qk (lE h)
   ·obtain rfl:=so h
    exact rq hC [] [4,27] [(4,vI x8)] [] [] (qr eR)
theorem rZ{code}{r}(h:dN n code=some r):VQ G 25 [] [vM rY code] (V.tup [V.agg (cN r.1),ms 0 1 1 rI r.2]) [ar 3 1 1 rI r.2]:=by
 unfold dN at h
 refine vq aN Tryz.func25 rfl fun w X β0 hC hg=> ?_
 refine rq hC [.z (.nat 20)] [2,3] [(2,V.ref 20 0)] [(20,sc [V.t T.nilS,V.t T.nilS])] [(20,true)] ?_
 obtain⟨x1,hx1,h⟩:=bd h
 refine rq hC [oC [] [21] (X4 G hx1)] [4,8,9] [(4,V.ref 21 0)] [(21,sR x1)] [(21,true)] ?_
 obtain⟨x2,hx2,x3,hx3,h⟩:=dH h
 refine rq hC [oC [21] [] (aAT G hx2),oC [21] [] (P5 G hx3),.z (.nat 22)] [5,10,11,12,13] [(5,V.ref 22 0)] [(21,sR x3.2),(22,some (E.cells (cN x3.1)))] [(21,true),(21,true),(22,true)] (rq hC [.z (.nat 23)] [6,14] [(6,ms 23 1 1 rI [])] [(23,some (ar 3 1 1 rI []))] [(23,true)] (qs ?_))
 obtain⟨x4,hx4,h⟩:=bd h
 refine rq hC [.z (.int 0),oC [21] [] (aV G hx4)] [7,15,16,17] [(7,vI x4.1)] [(21,sR x4.2)] [(21,true)] (qb (bC (γ:=Nat) h (fun x_ g_=>aY [(2,V.ref 20 0),(4,V.ref 21 0),(5,V.ref 22 0),(6,ms 23 g_ 1 rI x_.2.2.1),(7,vI x_.2.2.2)] [(20,E.cells [V.t T.nilS,V.t T.nilS]),(21,E.cells [vM rY x_.1,vI x_.2.1]),(22,E.cells (cN x3.1)),(23,ar 3 g_ 1 rI x_.2.2.1)] [20,21,22,23]) 1 (lS) ?_))
 rintro again10 ⟨x5,x6,x7,x8⟩ g9 h
 refine qs (rq hC [] [18,19] [(19,vB (decide ((0:Int)<x8)))] [] [] (aQ h (fun c1 h=> ?_) (fun c1 h=> ?_)))
 ·refine qk (qs (qb ?_))
  obtain⟨x11,hx11,x12,hx12,h⟩:=dH h
  exact rk hC [.z (.int 0),oC [21] [] (aV G hx11),.z (.int 0),oA (aS rI hx12),oQ (cE (r:=rI) 1 (fun _=>rfl) x7),oQ (cE (r:=rI) 1 (fun _=>rfl) [x11.1])] [6,22,23,24,25,26,27] [(6,ms 23 (g9+1) 1 rI x12)] [(21,sR x11.2),(23,some (ar 3 (g9+1) 1 rI x12))] [(21,true)] (rk hC [] [7,20,21] [(7,vI (wr (x8-1)))] [] [] ⟨(x11.2.b,x11.2.p,x12,wr (x8-1)),(g9+1),h,lS⟩)
 ·obtain rfl:=so h
  exact cZ (rq hC [] [3,28,29] [(3,ms 23 g9 1 rI x7)] [(20,some (E.cells (cN x3.1)))] [] (qw (lk hC [.ren 3 23 0] [3] [(3,ms 0 1 1 rI x7)] [(0,some (ar 3 1 1 rI x7)),(23,none)] [(0,true)]) (qr eW)))
theorem P6(G:GS)(n:Nat)(d:Dep)(c0__a1:Int)(c1__a2:List Bool){r:Bool}(h:gJ n d c0__a1 c1__a2=some r):PQ G 178 [V.agg [vI d.fromF,vI d.toF,vI d.kinds],V.tp [T.int .i64 c0__a1],V.tp [T.sl (List.map rB c1__a2)]] (vB r):=by
 unfold gJ at h
 refine pq aN Tryz.func178 rfl fun w X hC=> ?_
 refine rq hC [.z (.b (true))] [3,4] [(3,V.tp [T.int .i64 d.fromF,T.int .i64 d.toF,T.int .i64 d.kinds])] [] [] (vj h (fun x_=>aY [(4,vB x_)] [] []) (fun j1 h=> ?_) (fun x3 h=> ?_))
 ·
  refine aR h (fun c1 h=> ?_) (fun c1 h=> ?_)
  ·exact rk hC (rF 7 c1) (fr 4 13) [(4,vB false)] [] [] (lE h)
  ·obtain⟨x2,hx2,h⟩:=bd h
   exact rk hC (rT 4 c1++[oR rB hx2]++rT 3 c1) (fr 4 13) [(4,vB (!x2))] [] [] (lE h)
 ·obtain rfl:=so h
  exact qr eR
theorem aA6{choices}{n_a1}{many}{r}(h:qQ n choices n_a1 many=some r):PQ G 179 [vM rI choices,vI n_a1,vI many] (vI r):=by
 unfold qQ at h
 refine pq aN Tryz.func179 rfl fun w X hC=> ?_
 refine rq hC [] [6] [] [] [] (qs (rq hC [oN rI choices] [7,8,9] [(9,vB (decide ((choices.length:Int)=0)))] [] [] (aQ h (fun c1 h=> ?_) (fun c1 h=> ?_))))
 ·obtain rfl:=so h
  exact rq hC [] [6] [(6,vI 0)] [] [] (qr eR)
 ·refine qk ?_
  obtain⟨x1,hx1,x2,hx2,x3,hx3,h⟩:=lZ h
  obtain rfl:=so h
  exact rq hC [oN rI choices,oQ (oG hx1),oR rI hx2,oQ (oG hx3)] [6,10,11,12,13,14,15,16,17,18,19] [(6,vI (max 0 (Int.tmod x2 many)))] [] [] (qr eR)
theorem qT(G:GS)(n:Nat)(s:List Dep)(fF:FuncId)(fC0:List T)(fC1:List T)(f:Dep→Option Bool)(hf: ∀(q0:Dep) r,f q0=some r→PQ G fF [V.agg [vI q0.fromF,vI q0.toF,vI q0.kinds],V.tp fC0,V.tp fC1] (vB r)){r:Int}(h:jX n s f=some r):PQ G 185 [vM b6 s,V.fn fF [V.tp fC0,V.tp fC1]] (vI r):=by
 unfold jX at h
 refine pq aN Tryz.func185 rfl fun w X hC=> ?_
 refine rq hC [] [4] [] [] [] (qs (rq hC [oN b6 s] [6,7,8] [(7,vI (s.length:Int)),(8,vI 0)] [] [] (qb (kW h (fun x_=>aY [(0,vM b6 s),(1,V.fn fF [V.tp fC0,V.tp fC1]),(7,vI (s.length:Int)),(8,vI x_)] [] []) lS ?_))))
 rintro again2 x1 h
 refine rq hC [] [9] [(9,vB (decide (x1<(s.length:Int))))] [] [] (qs (aQ h (fun c1 h=> ?_) (fun c1 h=> ?_)))
 ·refine qk (qs (qb (rq hC [] [5,10] [(5,vI x1)] [] [] ?_)))
  obtain⟨x3,hx3,x4,hx4,h⟩:=dH h
  refine rq hC [oR b6 hx3,oV (hf x3 _ hx4)] (fr 11 6) [(16,vB x4)] [] [] (aQ h (fun c2 h=> ?_) (fun c2 h=> ?_))
  ·obtain rfl:=so h
   exact rq hC [] [4,17] [(4,vI x1)] [] [] (qr eR)
  ·exact qk (rk hC [] [8,18] [(8,vI (wr (x1+1)))] [] [] (lE h))
 ·obtain rfl:=so h
  exact cZ (rq hC [] [4] [(4,vI (-1))] [] [] (qr eR))
theorem nT(G:GS)(n:Nat)(s:List Dep)(fF:FuncId)(fC0:List T)(fC1:List T)(f:Dep→Option Bool)(hf: ∀(q0:Dep) r,f q0=some r→PQ G fF [V.agg [vI q0.fromF,vI q0.toF,vI q0.kinds],V.tp fC0,V.tp fC1] (vB r)){r:Bool}(h:dD n s f=some r):PQ G 177 [vM b6 s,V.fn fF [V.tp fC0,V.tp fC1]] (vB r):=by
 unfold dD at h
 refine pq aN Tryz.func177 rfl fun w X hC=> ?_
 refine rq hC [] [4] [] [] [] ?_
 obtain⟨x1,hx1,h⟩:=bd h
 obtain rfl:=so h
 exact rq hC [oV (qT G n s fF fC0 fC1 f hf hx1)] (fr 4 5) [(4,vB (decide ((0:Int)≤x1)))] [] [] (qr eR)
theorem aA5{deps}{many}{choices}{r}(h:qP n deps many choices=some r):VQ G 80 [] [vM b6 deps,vI many,vM rI choices] (ms 0 1 1 rI r) [ar 3 1 1 rI r]:=by
 unfold qP at h
 refine vq aN Tryz.func80 rfl fun w X β0 hC hg=> ?_
 refine rq hC [] [6] [] [] [] (rq hC [] [7] [(7,V.t T.nilS)] [] [] ?_)
 obtain⟨x1,hx1,h⟩:=bd h
 refine rq hC [.z (.nat 20),oA (zO rB hx1),.z (.nat 21),oQ (oH hx1).1] [8,14,15] [(8,V.ref 21 0)] [(20,some (ar 4 1 1 rB x1)),(21,sc [ms 20 1 1 rB x1])] [(20,true),(21,true)] (qs (rq hC [] [16,17] [(16,vI many),(17,vI 0)] [] [] (qb (qw (lk hC [.grow 7 22 3] [7] [(7,ms 22 1 1 rI [])] [(22,some (ar 3 1 1 rI []))] [(22,true)]) (bC (γ:=Nat×Nat) h (fun x_ g_=>aY [(0,vM b6 deps),(1,vI many),(2,vM rI choices),(7,ms 22 g_.2 1 rI x_.2.1),(8,V.ref 21 0),(16,vI many),(17,vI x_.2.2)] [(20,ar 4 g_.1 1 rB x_.1),(21,E.cells [ms 20 g_.1 1 rB x_.1]),(22,ar 3 g_.2 1 rI x_.2.1)] [20,21,22]) (1,1) (lS) ?_)))))
 rintro again7 ⟨x2,x3,x4⟩ ⟨g5,g6⟩ h
 refine rq hC [] [18] [(18,vB (decide (x4<many)))] [] [] (qs (aQ h (fun c1 h=> ?_) (fun c1 h=> ?_)))
 ·refine qk (qs (qb (rq hC [] [9,19] [(9,vI x4)] [] [] (rq hC [] [10] [(10,V.t T.nilS)] [] [] (qs (rq hC [] [20,21] [(20,vI many),(21,vI 0)] [] [] ?_))))))
  refine qb (qw (lk hC [.grow 10 23 3] [10] [(10,ms 23 1 1 rI [])] [(23,some (ar 3 1 1 rI []))] [(23,true)]) (bC (γ:=Nat) h (fun x_ g_=>aY [(0,vM b6 deps),(1,vI many),(2,vM rI choices),(7,ms 22 g6 1 rI x3),(8,V.ref 21 0),(9,vI x4),(10,ms 23 g_ 1 rI x_.1),(16,vI many),(17,vI x4),(20,vI many),(21,vI x_.2)] [(20,ar 4 g5 1 rB x2),(21,E.cells [ms 20 g5 1 rB x2]),(22,ar 3 g6 1 rI x3),(23,ar 3 g_ 1 rI x_.1)] [20,21,22,23]) 1 (lS) ?_))
  rintro again11 ⟨x8,x9⟩ g10 h
  refine rq hC [] [22] [(22,vB (decide (x9<many)))] [] [] (qs (aQ h (fun c2 h=> ?_) (fun c2 h=> ?_)))
  ·refine qk ?_
   obtain⟨j12,hj12,h⟩:=xE h
   refine iT (γ:=Nat) (j:=j12) (r:=r) (fun x_ g_=>aY [(0,vM b6 deps),(1,vI many),(2,vM rI choices),(7,ms 22 g6 1 rI x3),(8,V.ref 21 0),(9,vI x4),(10,ms 23 g_ 1 rI x_),(16,vI many),(17,vI x4),(20,vI many),(21,vI x9)] [(20,ar 4 g5 1 rB x2),(21,E.cells [ms 20 g5 1 rB x2]),(22,ar 3 g6 1 rI x3),(23,ar 3 g_ 1 rI x_),(24,E.cells [vI x9])] [20,21,22,23,24]) ?_ ?_
   ·
    refine qb (rq hC [.z (.nat 24)] [11,23] [(11,V.ref 24 0)] [(24,sc [vI x9])] [(24,true)] ?_)
    obtain⟨x13,hx13,h⟩:=bd h
    refine rq hC [.z (.b (true)),.z (.nat 24),.z (.nat 21),.z (.nat 20),oV (nT G n deps 178 [T.int .i64 x9] [T.sl (List.map rB x2)] (fun q0=>gJ n q0 x9 x2) (fun q0 r h=>P6 G n q0 x9 x2 h) hx13)] [12,24,25,26] [(12,vB x13)] [] [] (vj h (fun x_=>aY [(0,vM b6 deps),(1,vI many),(2,vM rI choices),(7,ms 22 g6 1 rI x3),(8,V.ref 21 0),(9,vI x4),(10,ms 23 g10 1 rI x8),(11,V.ref 24 0),(16,vI many),(17,vI x4),(20,vI many),(21,vI x9),(35,vB x_)] [(20,ar 4 g5 1 rB x2),(21,E.cells [ms 20 g5 1 rB x2]),(22,ar 3 g6 1 rI x3),(23,ar 3 g10 1 rI x8),(24,E.cells [vI x9])] [20,21,22,23,24]) (fun j14 h=> ?_) (fun x16 h=> ?_))
    ·
     obtain⟨x15,hx15,h⟩:=bd h
     refine aR h (fun c3 h=> ?_) (fun c3 h=> ?_)
     ·exact rk hC ([oQ (kQ rB hx15),oX rB hx15]++rF 3 c3) (fr 27 9) [(35,vB false)] [] [] (lE h)
     ·exact rk hC ([oQ (kQ rB hx15),oX rB hx15]++rT 3 c3) (fr 27 9) [(35,vB (!x13))] [] [] (lE h)
    ·refine aQ h (fun c4 h=> ?_) (fun c4 h=> ?_)
     ·obtain⟨x17,hx17,h⟩:=bd h
      exact rk hC [.z (.int 0),oA (aS rI hx17),oQ (cE (r:=rI) 1 (fun _=>rfl) x8),oQ (cE (r:=rI) 1 (fun _=>rfl) [x9])] [10,36,37,38,39] [(10,ms 23 (g10+1) 1 rI x17)] [(23,some (ar 3 (g10+1) 1 rI x17))] [] ⟨x17,(g10+1),h,lS⟩
     ·exact qk ⟨x8,g10,h,lS⟩
   ·rintro x18 g19 h
    subst hj12
    exact rk hC [] [21,40] [(21,vI (wr (x9+1)))] [] [] ⟨(x18,wr (x9+1)),g19,h,lS⟩
  ·refine cZ ?_
   obtain⟨x20,hx20,x21,hx21,h⟩:=dH h
   refine rq hC [oN rI x8,oV (aA6 G hx20),oQ (kQ rI hx21),oX rI hx21] [13,41,42,43,44,45,46,47,48] [(13,vI x21)] [] [] ?_
   obtain⟨x22,hx22,x23,hx23,h⟩:=dH h
   refine rq hC [oQ (kQ rB hx22),oX rB hx22,.z (.rows (List.map rB x23)),.z (.lenc 21 0 (List.map rB x23).length),oQ (str rB hx23),oQ (pK rB hx23)] [49,50,51] [] [(20,some (ar 4 g5 1 rB x23)),(21,sc [ms 20 g5 1 rB x23])] [] ?_
   obtain⟨x24,hx24,h⟩:=bd h
   exact rk hC [.z (.int 0),oA (aS rI hx24),oQ (cE (r:=rI) 1 (fun _=>rfl) x3),oQ (cE (r:=rI) 1 (fun _=>rfl) [x21])] [7,52,53,54,55] [(7,ms 22 (g6+1) 1 rI x24)] [(22,some (ar 3 (g6+1) 1 rI x24))] [] (rk hC [] [17,56] [(17,vI (wr (x4+1)))] [] [] ⟨(x23,x24,wr (x4+1)),(g5,(g6+1)),h,lS⟩)
 ·obtain rfl:=so h
  exact cZ (rq hC [] [6,57] [(6,ms 22 g6 1 rI x3)] [] [] (qw (lk hC [.ren 6 22 0] [6] [(6,ms 0 1 1 rI x3)] [(0,some (ar 3 1 1 rI x3)),(22,none)] [(0,true)]) (qr eW)))
theorem xK{t}{r}(h:fY n t=some r):VQ G 96 [] [V.tp [T.sl (List.map aT t.program.arrays),T.sl (List.map aH t.program.parts),T.sl (List.map aK t.list),T.sl (List.map (rL rI) t.reads),T.sl (List.map rI t.writes)]] (ms 0 1 3 b6 r) [ar 100 1 3 b6 r]:=by
 unfold fY at h
 refine vq aN Tryz.func96 rfl fun w X β0 hC hg=> ?_
 refine rq hC [] [2] [] [] [] (rq hC [] [3] [(3,V.t T.nilS)] [] [] (qs (rq hC [oN aK t.list] (fr 7 6) [(11,vI (t.list.length:Int)),(12,vI 0)] [] [] (qb (qw (lk hC [.grow 3 20 100] [3] [(3,ms 20 1 3 b6 [])] [(20,some (ar 100 1 3 b6 []))] [(20,true)]) ?_)))))
 refine bC (γ:=Nat) h (fun x_ g_=>aY [(0,V.tp [T.sl (List.map aT t.program.arrays),T.sl (List.map aH t.program.parts),T.sl (List.map aK t.list),T.sl (List.map (rL rI) t.reads),T.sl (List.map rI t.writes)]),(3,ms 20 g_ 3 b6 x_.1),(11,vI (t.list.length:Int)),(12,vI x_.2)] [(20,ar 100 g_ 3 b6 x_.1)] [20]) 1 (lS) ?_
 rintro again4 ⟨x1,x2⟩ g3 h
 refine rq hC [] [13] [(13,vB (decide (x2<(t.list.length:Int))))] [] [] (qs (aQ h (fun c1 h=> ?_) (fun c1 h=> ?_)))
 ·refine qk (qs (qb (rq hC [] [4,14] [(4,vI x2)] [] [] (rq hC [] [5,15,16] [(5,vI (wr (x2+1)))] [] [] (qb (bC (γ:=Nat) h (fun x_ g_=>aY [(0,V.tp [T.sl (List.map aT t.program.arrays),T.sl (List.map aH t.program.parts),T.sl (List.map aK t.list),T.sl (List.map (rL rI) t.reads),T.sl (List.map rI t.writes)]),(3,ms 20 g_ 3 b6 x_.1),(4,vI x2),(5,vI x_.2),(11,vI (t.list.length:Int)),(12,vI x2)] [(20,ar 100 g_ 3 b6 x_.1)] [20]) g3 (lS) ?_))))))
  rintro again8 ⟨x5,x6⟩ g7 h
  refine qs (rq hC [oN aK t.list] (fr 17 7) [(23,vB (decide (x6<(t.list.length:Int))))] [] [] (aQ h (fun c2 h=> ?_) (fun c2 h=> ?_)))
  ·refine qk ?_
   obtain⟨j9,hj9,h⟩:=xE h
   refine iT (γ:=Nat) (j:=j9) (r:=r) (fun x_ g_=>aY [(0,V.tp [T.sl (List.map aT t.program.arrays),T.sl (List.map aH t.program.parts),T.sl (List.map aK t.list),T.sl (List.map (rL rI) t.reads),T.sl (List.map rI t.writes)]),(3,ms 20 g_ 3 b6 x_),(4,vI x2),(5,vI x6),(11,vI (t.list.length:Int)),(12,vI x2)] [(20,ar 100 g_ 3 b6 x_)] [20]) ?_ ?_
   ·
    refine qb ?_
    obtain⟨x10,hx10,h⟩:=bd h
    refine rq hC [oV (tJ G hx10)] [6,26,27,28,29] [(6,vI x10)] [] [] (rq hC [] [30,31] [(31,vB (decide ((0:Int)<x10)))] [] [] (aQ h (fun c3 h=> ?_) (fun c3 h=> ?_)))
    ·obtain⟨x11,hx11,h⟩:=bd h
     exact rk hC [.z (.int 0),oA (aS b6 hx11),oQ (cE (r:=b6) 3 tW x5),oQ (cE (r:=b6) 3 tW [(⟨x2,x6,x10⟩:Dep)])] [3,32,33,34,35,36,37,38] [(3,ms 20 (g7+1) 3 b6 x11)] [(20,some (ar 100 (g7+1) 3 b6 x11))] [] ⟨x11,(g7+1),h,lS⟩
    ·exact qk ⟨x5,g7,h,lS⟩
   ·rintro x12 g13 h
    subst hj9
    exact rk hC [] [5,24,25] [(5,vI (wr (x6+1)))] [] [] ⟨(x12,wr (x6+1)),g13,h,lS⟩
  ·exact cZ (rk hC [] [12,39] [(12,vI (wr (x2+1)))] [] [] ⟨(x5,wr (x2+1)),g7,h,lS⟩)
 ·obtain rfl:=so h
  exact cZ (rq hC [] [2,40] [(2,ms 20 g3 3 b6 x1)] [] [] (qw (lk hC [.ren 2 20 0] [2] [(2,ms 0 1 3 b6 x1)] [(0,some (ar 100 1 3 b6 x1)),(20,none)] [(0,true)]) (qr eW)))
theorem xL{p}{r}(h:f9 n p=some r):PQ G 81 [V.agg (cN p)] (vM b6 r):=by
 unfold f9 at h
 refine pq aN Tryz.func81 rfl fun w X hC=> ?_
 refine rq hC [.z (.b (true))] [1,2] [(1,V.tp (bT p))] [] [] (qs ?_)
 obtain⟨x1,hx1,h⟩:=bd h
 refine aR h (fun c1 h=> ?_) (fun c1 h=> ?_)
 ·refine rk hC [.z (.v (V.tup [V.t T.nilP,vB x1.2])),oQ (vPn c1 (K3 G hx1))] (fr 3 7) [(3,V.t T.nilP),(4,vB x1.2)] [] [] (qs (rq hC [] [10,11] [(11,vB (!x1.2))] [] [] (aQ h (fun c2 h=> ?_) (fun c2 h=> ?_))))
  ·obtain rfl:=so h
   exact rq hC [] [2] [(2,V.t T.nilS)] [] [] (qr eR)
  ·exact qk (qs (nof h))
 ·refine rk hC [.z (.v (V.tup [V.tp [T.sl (List.map aT (((x1.1.getD default).program).arrays)),T.sl (List.map aH (((x1.1.getD default).program).parts)),T.sl (List.map aK ((x1.1.getD default).list)),T.sl (List.map (rL rI) ((x1.1.getD default).reads)),T.sl (List.map rI ((x1.1.getD default).writes))],vB x1.2])),oQ (vPs c1 (K3 G hx1))] (fr 3 7) [(3,V.tp [T.sl (List.map aT (((x1.1.getD default).program).arrays)),T.sl (List.map aH (((x1.1.getD default).program).parts)),T.sl (List.map aK ((x1.1.getD default).list)),T.sl (List.map (rL rI) ((x1.1.getD default).reads)),T.sl (List.map rI ((x1.1.getD default).writes))]),(4,vB x1.2)] [] [] (qs (rq hC [] [10,11] [(11,vB (!x1.2))] [] [] (aQ h (fun c3 h=> ?_) (fun c3 h=> ?_))))
  ·obtain rfl:=so h
   exact rq hC [] [2] [(2,V.t T.nilS)] [] [] (qr eR)
  ·refine qk ?_
   obtain⟨x2,hx2,h⟩:=bd h
   obtain rfl:=so h
   exact rq hC [oC [] [20] (xK G hx2)] [2,12,13] [(2,ms 20 1 3 b6 x2)] [(20,some (ar 100 1 3 b6 x2))] [(20,true)] (qw (lk hC [.fz 20 [2] []] [2] [(2,vM b6 x2)] [(20,none)] []) (qr eR))
theorem pH{p}{choices}{r}(h:eX n p choices=some r):VQ G 26 [] [V.agg (cN p),vM rI choices] (ms 0 1 1 rI r) [ar 3 1 1 rI r]:=by
 unfold eX at h
 refine vq aN Tryz.func26 rfl fun w X β0 hC hg=> ?_
 refine rq hC [.z (.b (true))] [2,4] [(2,V.tp (bT p))] [] [] (qs ?_)
 obtain⟨x1,hx1,x2,hx2,x3,hx3,h⟩:=lZ h
 obtain rfl:=so h
 exact dk hC bP [oV (xL G hx1),oC [] [20] (jV G hx2),oN aK x2,oC [] [21] (aA5 G hx3)] (fr 4 8) [(4,ms 21 1 1 rI x3)] [(20,some (ar 38 1 3 aK x2)),(21,some (ar 3 1 1 rI x3))] [(20,true),(21,true)] (qw (lk hC [.ren 4 21 0] [4] [(4,ms 0 1 1 rI x3)] [(0,some (ar 3 1 1 rI x3)),(21,none)] [(0,true)]) (qr eW))
theorem aAR{p}{r}(h:pU n p=some r):VQ G 82 [] [V.agg (cN p)] (ms 0 1 3 b6 r) [ar 100 1 3 b6 r]:=by
 unfold pU at h
 refine vq aN Tryz.func82 rfl fun w X β0 hC hg=> ?_
 refine rq hC [.z (.b (true))] [1,2] [(1,V.tp (bT p))] [] [] (rq hC [.z (.nat 20)] [3,8] [(3,ms 20 1 3 b6 [])] [(20,some (ar 100 1 3 b6 []))] [(20,true)] ?_)
 obtain⟨x1,hx1,h⟩:=bd h
 refine rq hC [oC [] [21] (aAQ G hx1)] [4,9,10] [(4,ms 21 1 2 cA x1)] [(21,some (ar 83 1 2 cA x1))] [(21,true)] (qs (rq hC [] [5] [(5,vI 0)] [] [] (qb (bC (γ:=Nat) h (fun x_ g_=>aY [(3,ms 20 g_ 3 b6 x_.1),(4,ms 21 1 2 cA x1),(5,vI x_.2)] [(20,ar 100 g_ 3 b6 x_.1),(21,ar 83 1 2 cA x1)] [20,21]) 1 (lS) ?_))))
 rintro again5 ⟨x2,x3⟩ g4 h
 refine qs (rq hC [oN cA x1] (fr 11 4) [(14,vB (decide (x3<(x1.length:Int))))] [] [] (aQ h (fun c1 h=> ?_) (fun c1 h=> ?_)))
 ·refine qk (qs (qb (rq hC [] [6,17,18] [(6,vI (wr (x3+1)))] [] [] (qb (bC (γ:=Nat) h (fun x_ g_=>aY [(3,ms 20 g_ 3 b6 x_.1),(4,ms 21 1 2 cA x1),(5,vI x3),(6,vI x_.2)] [(20,ar 100 g_ 3 b6 x_.1),(21,ar 83 1 2 cA x1)] [20,21]) g4 (lS) ?_)))))
  rintro again9 ⟨x6,x7⟩ g8 h
  refine qs (rq hC [oN cA x1] (fr 19 4) [(22,vB (decide (x7<(x1.length:Int))))] [] [] (aQ h (fun c2 h=> ?_) (fun c2 h=> ?_)))
  ·refine qk ?_
   obtain⟨j10,hj10,h⟩:=xE h
   refine iT (γ:=Nat) (j:=j10) (r:=r) (fun x_ g_=>aY [(3,ms 20 g_ 3 b6 x_),(4,ms 21 1 2 cA x1),(5,vI x3),(6,vI x7)] [(20,ar 100 g_ 3 b6 x_),(21,ar 83 1 2 cA x1)] [20,21]) ?_ ?_
   ·
    refine qb (qs ?_)
    obtain⟨x11,hx11,x12,hx12,x13,hx13,h⟩:=lZ h
    refine dk hC bP [oQ (kQ cA hx11),oX cA hx11,oQ (kQ cA hx12),oX cA hx12,oV (W4 G hx13)] [7,25,26,27,28,29,30,31,32,33] [(7,vI x13)] [] [] (rq hC [] [34,35] [(35,vB (!decide (x13=0)))] [] [] (aQ h (fun c3 h=> ?_) (fun c3 h=> ?_)))
    ·obtain⟨x14,hx14,h⟩:=bd h
     exact rk hC [.z (.int 0),oA (aS b6 hx14),oQ (cE (r:=b6) 3 tW x6),oQ (cE (r:=b6) 3 tW [(⟨x3,x7,x13⟩:Dep)])] [3,36,37,38,39,40,41,42] [(3,ms 20 (g8+1) 3 b6 x14)] [(20,some (ar 100 (g8+1) 3 b6 x14))] [] ⟨x14,(g8+1),h,lS⟩
    ·exact qk ⟨x6,g8,h,lS⟩
   ·rintro x15 g16 h
    subst hj10
    exact rk hC [] [6,23,24] [(6,vI (wr (x7+1)))] [] [] ⟨(x15,wr (x7+1)),g16,h,lS⟩
  ·exact cZ (rk hC [] [5,15,16] [(5,vI (wr (x3+1)))] [] [] ⟨(x6,wr (x3+1)),g8,h,lS⟩)
 ·obtain rfl:=so h
  exact cZ (rq hC [] [2,43] [(2,ms 20 g4 3 b6 x2)] [] [] (qw (lk hC [.ren 2 20 0] [2] [(2,ms 0 1 3 b6 x2)] [(0,some (ar 100 1 3 b6 x2)),(20,none)] [(0,true)]) (qr eW)))
theorem F8{list}{r}(h:gN n list=some r):VQ G 89 [] [vM rB list] (ms 0 1 1 rI r) [ar 3 1 1 rI r]:=by
 unfold gN at h
 refine vq aN Tryz.func89 rfl fun w X β0 hC hg=> ?_
 refine rq hC [] [2] [] [] [] (rq hC [.z (.nat 20)] [3,5] [(3,ms 20 1 1 rI [])] [(20,some (ar 3 1 1 rI []))] [(20,true)] (qs (rq hC [] [4] [(4,vI 0)] [] [] (qb (bC (γ:=Nat) h (fun x_ g_=>aY [(0,vM rB list),(3,ms 20 g_ 1 rI x_.1),(4,vI x_.2)] [(20,ar 3 g_ 1 rI x_.1)] [20]) 1 (lS) ?_)))))
 rintro again4 ⟨x1,x2⟩ g3 h
 refine qs (rq hC [oN rB list] (fr 6 4) [(9,vB (decide (x2<(list.length:Int))))] [] [] (aQ h (fun c1 h=> ?_) (fun c1 h=> ?_)))
 ·refine qk ?_
  obtain⟨j5,hj5,h⟩:=xE h
  refine iT (γ:=Nat) (j:=j5) (r:=r) (fun x_ g_=>aY [(0,vM rB list),(3,ms 20 g_ 1 rI x_),(4,vI x2)] [(20,ar 3 g_ 1 rI x_)] [20]) ?_ ?_
  ·
   refine qb ?_
   obtain⟨x6,hx6,h⟩:=bd h
   refine rq hC [oR rB hx6] (fr 12 4) [(15,vB x6)] [] [] (aQ h (fun c2 h=> ?_) (fun c2 h=> ?_))
   ·obtain⟨x7,hx7,h⟩:=bd h
    exact rk hC [.z (.int 0),oA (aS rI hx7),oQ (cE (r:=rI) 1 (fun _=>rfl) x1),oQ (cE (r:=rI) 1 (fun _=>rfl) [x2])] [3,16,17,18,19] [(3,ms 20 (g3+1) 1 rI x7)] [(20,some (ar 3 (g3+1) 1 rI x7))] [] ⟨x7,(g3+1),h,lS⟩
   ·exact qk ⟨x1,g3,h,lS⟩
  ·rintro x8 g9 h
   subst hj5
   exact rk hC [] [4,10,11] [(4,vI (wr (x2+1)))] [] [] ⟨(x8,wr (x2+1)),g9,h,lS⟩
 ·obtain rfl:=so h
  exact cZ (rq hC [] [2,20] [(2,ms 20 g3 1 rI x1)] [] [] (qw (lk hC [.ren 2 20 0] [2] [(2,ms 0 1 1 rI x1)] [(0,some (ar 3 1 1 rI x1)),(20,none)] [(0,true)]) (qr eW)))
theorem W3{deps}{done}(doneG:Nat){r}(h:mY n deps done=some r):VQ G 83 [ar 4 doneG 1 rB done] [vM b6 deps,ms 0 doneG 1 rB done] (ms 1 1 1 rI r.1) [ar 4 doneG 1 rB r.2,ar 3 1 1 rI r.1]:=by
 unfold mY at h
 refine vq aN Tryz.func83 rfl fun w X β0 hC hg=> ?_
 refine rq hC [] [4] [] [] [] ?_
 obtain⟨x1,hx1,h⟩:=bd h
 refine rq hC [oN rB done,.z (.nat 20),oA (zO rB hx1),oQ (oH hx1).1] [5,8,9,10] [(5,ms 20 1 1 rB x1)] [(20,some (ar 4 1 1 rB x1))] [(20,true)] (qs (rq hC [] [6] [(6,vI 0)] [] [] (qb (bC (γ:=Nat) h (fun x_ g_=>aY [(0,vM b6 deps),(1,ms 0 doneG 1 rB done),(5,ms 20 g_ 1 rB x_.1),(6,vI x_.2)] [(0,ar 4 doneG 1 rB done),(20,ar 4 g_ 1 rB x_.1)] [0,20]) 1 (lS) ?_))))
 rintro again5 ⟨x2,x3⟩ g4 h
 refine qs (rq hC [oN rB done] (fr 11 4) [(14,vB (decide (x3<(done.length:Int))))] [] [] (aQ h (fun c1 h=> ?_) (fun c1 h=> ?_)))
 ·refine qk (qs (qb ?_))
  obtain⟨x6,hx6,x7,hx7,x8,hx8,h⟩:=lZ h
  exact rk hC [oQ (kQ rB hx6),oX rB hx6,oQ (kQ rB hx7),oX rB hx7,.z (.rows (List.map rB x8)),.z (.len 5 (List.map rB x8).length),oQ (str rB hx8),oQ (pK rB hx8)] [5,17,18,19,20,21,22,23,24] [(5,ms 20 g4 1 rB x8)] [(20,some (ar 4 g4 1 rB x8))] [] (rk hC [] [6,15,16] [(6,vI (wr (x3+1)))] [] [] ⟨(x8,wr (x3+1)),g4,h,lS⟩)
 ·refine cZ (qs (rq hC [] [7] [(7,vI 0)] [] [] (qb (bC (γ:=Nat) h (fun x_ g_=>aY [(0,vM b6 deps),(1,ms 0 doneG 1 rB done),(5,ms 20 g_ 1 rB x_.1),(7,vI x_.2)] [(0,ar 4 doneG 1 rB done),(20,ar 4 g_ 1 rB x_.1)] [0,20]) g4 (lS) ?_))))
  rintro again12 ⟨x9,x10⟩ g11 h
  refine qs (rq hC [oN b6 deps] (fr 25 4) [(28,vB (decide (x10<(deps.length:Int))))] [] [] (aQ h (fun c2 h=> ?_) (fun c2 h=> ?_)))
  ·refine qk (vj h (fun x_=>aY [(0,vM b6 deps),(1,ms 0 doneG 1 rB done),(5,ms 20 g11 1 rB x_),(7,vI x10)] [(0,ar 4 doneG 1 rB done),(20,ar 4 g11 1 rB x_)] [0,20]) (fun j13 h=> ?_) (fun x18 h=> ?_))
   ·
    refine qb ?_
    obtain⟨x14,hx14,x15,hx15,h⟩:=dH h
    refine rq hC [oR b6 hx14,oQ (kQ rB hx15),oX rB hx15] (fr 31 9) [(39,vB (!x15))] [] [] (aQ h (fun c3 h=> ?_) (fun c3 h=> ?_))
    ·obtain⟨x16,hx16,x17,hx17,h⟩:=dH h
     exact rk hC [oR b6 hx14,oQ (kQ rB hx16),oX rB hx16,.z (.rows (List.map rB x17)),.z (.len 5 (List.map rB x17).length),oQ (str rB hx17),oQ (pK rB hx17)] [5,40,41,42,43,44,45,46] [(5,ms 20 g11 1 rB x17)] [(20,some (ar 4 g11 1 rB x17))] [] (lE h)
    ·exact qk (lE h)
   ·exact rk hC [] [7,29,30] [(7,vI (wr (x10+1)))] [] [] ⟨(x18,wr (x10+1)),g11,h,lS⟩
  ·refine cZ ?_
   obtain⟨x19,hx19,h⟩:=bd h
   obtain rfl:=so h
   exact rq hC [.z (.at 2),.z (.fz 20 [5,47] []),oC [] [21] (F8 G hx19)] [4,5,47,48] [(4,ms 21 1 1 rI x19)] [(20,none),(21,some (ar 3 1 1 rI x19))] [(21,true)] (qw (lk hC [.ren 4 21 1] [4] [(4,ms 1 1 1 rI x19)] [(1,some (ar 3 1 1 rI x19)),(21,none)] [(1,true)]) (qr eW))
theorem P4{choices}{n_a1}{many}{r}(h:kZ n choices n_a1 many=some r):PQ G 84 [vM rI choices,vI n_a1,vI many] (vI r):=by
 unfold kZ at h
 refine pq aN Tryz.func84 rfl fun w X hC=> ?_
 refine rq hC [] [6] [] [] [] (qs (rq hC [oN rI choices] [8,9,10] [(10,vB (decide ((choices.length:Int)=0)))] [] [] (aQ h (fun c1 h=> ?_) (fun c1 h=> ?_))))
 ·obtain rfl:=so h
  exact rq hC [] [6] [(6,vI 0)] [] [] (qr eR)
 ·refine qk ?_
  obtain⟨x1,hx1,x2,hx2,x3,hx3,h⟩:=lZ h
  refine rq hC [oN rI choices,oQ (oG hx1),oR rI hx2,oQ (oG hx3)] [7,11,12,13,14,15,16,17,18,19] [(7,vI (Int.tmod x2 many))] [] [] (qs (rq hC [] [20,21] [(21,vB (decide (Int.tmod x2 many<0)))] [] [] (aQ h (fun c2 h=> ?_) (fun c2 h=> ?_))))
  ·obtain rfl:=so h
   exact rq hC [] [6] [(6,vI 0)] [] [] (qr eR)
  ·obtain rfl:=so h
   exact qk (rq hC [] [6,22] [(6,vI (Int.tmod x2 many))] [] [] (qr eR))
theorem jY{p}{choices}{r}(h:dU n p choices=some r):VQ G 27 [] [V.agg (cN p),vM rI choices] (ms 0 1 1 rI r) [ar 3 1 1 rI r]:=by
 unfold dU at h
 refine vq aN Tryz.func27 rfl fun w X β0 hC hg=> ?_
 refine rq hC [.z (.b (true))] [2,4] [(2,V.tp (bT p))] [] [] (rq hC [.z (.nat 20)] [5,11] [(5,ms 20 1 1 rI [])] [(20,some (ar 3 1 1 rI []))] [(20,true)] (qs ?_))
 obtain⟨x1,hx1,h⟩:=bd h
 refine rq hC [oV (nP G hx1)] [12,13,14] [(14,vB (!x1))] [] [] (aQ h (fun c1 h=> ?_) (fun c1 h=> ?_))
 ·obtain rfl:=so h
  exact rq hC [] [4,15] [(4,ms 20 1 1 rI [])] [] [] (qw (lk hC [.ren 4 20 0] [4] [(4,ms 0 1 1 rI [])] [(0,some (ar 3 1 1 rI [])),(20,none)] [(0,true)]) (qr eW))
 ·refine qk ?_
  obtain⟨x2,hx2,h⟩:=bd h
  refine rq hC [oC [] [21] (aAR G hx2)] [6,16,17] [(6,ms 21 1 3 b6 x2)] [(21,some (ar 100 1 3 b6 x2))] [(21,true)] ?_
  obtain⟨x3,hx3,x4,hx4,h⟩:=dH h
  refine rq hC [oC [] [22] (pE G hx3),oN aK x3,.z (.nat 23),oA (zO rB hx4),oQ (oH hx4).1] [7,18,19,20,21] [(7,ms 23 1 1 rB x4)] [(22,some (ar 38 1 3 aK x3)),(23,some (ar 4 1 1 rB x4))] [(22,true),(23,true)] (qs (rq hC [] [8] [(8,vI 0)] [] [] (qb (qw (lk hC [.fz 21 [6] []] [6] [(6,vM b6 x2)] [(21,none)] []) (bC (γ:=Nat×Nat) h (fun x_ g_=>aY [(1,vM rI choices),(5,ms 20 g_.1 1 rI x_.1),(6,vM b6 x2),(7,ms 23 g_.2 1 rB x_.2.1),(8,vI x_.2.2)] [(20,ar 3 g_.1 1 rI x_.1),(22,ar 38 1 3 aK x3),(23,ar 4 g_.2 1 rB x_.2.1)] [20,21,22,23]) (1,1) (lS) ?_)))))
  rintro again10 ⟨x5,x6,x7⟩ ⟨g8,g9⟩ h
  refine qs (rq hC [oN rB x6] (fr 22 4) [(25,vB (decide (x7<(x6.length:Int))))] [] [] (aQ h (fun c2 h=> ?_) (fun c2 h=> ?_)))
  ·refine qk (qs (qb ?_))
   obtain⟨x11,hx11,x12,hx12,h⟩:=dH h
   refine rq hC [oC [23] [24] (W3 G g9 hx11),.z (.len 7 (List.map rB x11.2).length),oQ (aDi rB hx12)] [7,9,28,29,30] [(7,ms 23 g9 1 rB x11.2),(9,ms 24 1 1 rI x11.1)] [(24,some (ar 3 1 1 rI x11.1)),(23,some (ar 4 g9 1 rB x11.2))] [(23,true),(24,true)] ?_
   obtain⟨x13,hx13,x14,hx14,h⟩:=dH h
   refine rq hC [oN rI x11.1,oV (P4 G hx13),oQ (kQ rI hx14),oX rI hx14] [10,31,32,33,34,35,36,37,38] [(10,vI x14)] [] [] ?_
   obtain⟨x15,hx15,x16,hx16,h⟩:=dH h
   refine rq hC [oQ (kQ rB hx15),oX rB hx15,.z (.rows (List.map rB x16)),.z (.len 7 (List.map rB x16).length),oQ (str rB hx16),oQ (pK rB hx16)] [7,39,40,41] [(7,ms 23 g9 1 rB x16)] [(23,some (ar 4 g9 1 rB x16))] [] ?_
   obtain⟨x17,hx17,h⟩:=bd h
   exact rk hC [.z (.int 0),oA (aS rI hx17),oQ (cE (r:=rI) 1 (fun _=>rfl) x5),oQ (cE (r:=rI) 1 (fun _=>rfl) [x14])] [5,42,43,44,45] [(5,ms 20 (g8+1) 1 rI x17)] [(20,some (ar 3 (g8+1) 1 rI x17))] [] (rk hC [] [8,26,27] [(8,vI (wr (x7+1)))] [] [] ⟨(x17,x16,wr (x7+1)),((g8+1),g9),h,lS⟩)
  ·obtain rfl:=so h
   exact cZ (rq hC [] [4,46] [(4,ms 20 g8 1 rI x5)] [] [] (qw (lk hC [.ren 4 20 0] [4] [(4,ms 0 1 1 rI x5)] [(0,some (ar 3 1 1 rI x5)),(20,none)] [(0,true)]) (qr eW)))
theorem D8{p}{r}(h:iI n p=some r):PQ G 29 [V.agg (cN p)] (vI r):=by
 unfold iI at h
 refine pq aN Tryz.func29 rfl fun w X hC=> ?_
 refine rq hC [.z (.b (true))] [1,2] [(1,V.tp (bT p))] [] [] (qs ?_)
 obtain⟨x1,hx1,h⟩:=bd h
 refine rq hC [oV (eD G hx1)] [3,4,5] [(5,vB (!x1))] [] [] (aQ h (fun c1 h=> ?_) (fun c1 h=> ?_))
 ·obtain rfl:=so h
  exact rq hC [] [2] [(2,vI 0)] [] [] (qr eR)
 ·refine qk ?_
  obtain⟨x2,hx2,h⟩:=bd h
  obtain rfl:=so h
  exact rq hC [oV (iN G hx2)] [2,6,7] [(2,vI x2)] [] [] (qr eR)
theorem wG(G:GS)(n:Nat)(code:List UInt8)(more:List UInt8){r:Bool}(h:gY n code more=some r):PQ G 5 [vM rY code,vM rY more] (vB r):=by
 unfold gY at h
 refine pq aN Tryz.func5 rfl fun w X hC=> ?_
 refine rq hC [] [4] [] [] [] (qs (vj h (fun x_=>aY [(0,vM rY code),(1,vM rY more),(22,vB x_)] [] []) (fun j1 h=> ?_) (fun x2 h=> ?_)))
 ·
  refine aR h (fun c1 h=> ?_) (fun c1 h=> ?_)
  ·exact rk hC [oN rY code,oF c1,oF c1,oN rY more,oF c1,oF c1] (fr 15 8) [(22,vB (decide ((1048576:Int)<(more.length:Int))))] [] [] (lE h)
  ·exact rk hC ([oN rY code]++rT 4 c1) (fr 15 8) [(22,vB true)] [] [] (lE h)
 ·refine aQ h (fun c2 h=> ?_) (fun c2 h=> ?_)
  ·obtain rfl:=so h
   exact rq hC [] [4] [(4,vB true)] [] [] (qr eR)
  ·refine qk ?_
   obtain⟨x3,hx3,h⟩:=bd h
   refine rq hC [oC [] [20] (rZ G hx3),.z (.nat 21)] [5,6,23,24,25,26,27] [(5,V.ref 21 0),(6,ms 20 1 1 rI x3.2)] [(20,some (ar 3 1 1 rI x3.2)),(21,some (E.cells (cN x3.1)))] [(20,true),(21,true)] ?_
   obtain⟨x4,hx4,h⟩:=bd h
   refine rq hC [.z (.at 2),.z (.fz 20 [6,29] []),oC [] [22] (pH G hx4)] [6,7,28,29,30] [(6,vM rI x3.2),(7,ms 22 1 1 rI x4)] [(20,none),(22,some (ar 3 1 1 rI x4))] [(22,true)] (qs (vj h (fun x_=>aY [(1,vM rY more),(5,V.ref 21 0),(6,vM rI x3.2),(7,ms 22 1 1 rI x4),(41,vB x_.2)] [(21,E.cells (cN x3.1)),(22,ar 3 1 1 rI x4),(23,ar 3 1 1 rI x_.1)] [20,21,22,23]) (fun j5 h=> ?_) ?_))
   ·
    obtain⟨x6,hx6,x7,hx7,h⟩:=dH h
    refine aR h (fun c3 h=> ?_) (fun c3 h=> ?_)
    ·obtain⟨x8,hx8,h⟩:=bd h
     exact rk hC [oC [] [23] (jY G hx6),.z (.b (true)),oV (oZ G hx7),oF c3,oF c3,oV (eD G hx8),oF c3,oF c3] (fr 31 11) [(41,vB (!x8))] [(23,some (ar 3 1 1 rI x6))] [(23,true)] (lE h)
    ·exact rk hC ([oC [] [23] (jY G hx6),.z (.b (true)),oV (oZ G hx7)]++rT 4 c3) (fr 31 11) [(41,vB true)] [(23,some (ar 3 1 1 rI x6))] [(23,true)] (lE h)
   ·rintro⟨x9,x10⟩ h
    refine aQ h (fun c4 h=> ?_) (fun c4 h=> ?_)
    ·obtain⟨x11,hx11,x12,hx12,h⟩:=dH h
     obtain rfl:=so h
     exact rq hC [oC [] [24] (jY G hx11),.z (.b (true)),oV (oZ G hx12)] [4,42,43,44,45,46] [(4,vB x12)] [(24,some (ar 3 1 1 rI x11))] [(24,true)] (qr eR)
    ·refine qk ?_
     obtain⟨x13,hx13,h⟩:=bd h
     refine rq hC [oN rY more,oQ (show(9:Int)≠0 by decide),oN rY more,.z (.int 0),oQ (show(4:Int)≠0 by decide),oC [] [24] (pH G hx13)] [8,47,48,49,50,51,52,53,54,55] [(8,ms 24 1 1 rI x13)] [(24,some (ar 3 1 1 rI x13))] [(24,true)] ?_
     obtain⟨x14,hx14,x15,hx15,h⟩:=dH h
     refine rq hC [oV (D8 G hx14),.z (.nat 25),oA (zO rI hx15),oQ (oH hx15).1] [9,56,57,58] [(9,ms 25 1 1 rI x15)] [(25,some (ar 3 1 1 rI x15))] [(25,true)] (qs (rq hC [] [10] [(10,vI 0)] [] [] (qb (bC (γ:=Nat) h (fun x_ g_=>aY [(5,V.ref 21 0),(7,ms 22 1 1 rI x4),(8,ms 24 1 1 rI x13),(9,ms 25 g_ 1 rI x_.1),(10,vI x_.2)] [(21,E.cells (cN x3.1)),(22,ar 3 1 1 rI x4),(23,ar 3 1 1 rI x9),(24,ar 3 1 1 rI x13),(25,ar 3 g_ 1 rI x_.1)] [20,21,22,23,24,25]) 1 (lS) ?_))))
     rintro again19 ⟨x16,x17⟩ g18 h
     refine qs (rq hC [oN rI x16] (fr 59 4) [(62,vB (decide (x17<(x16.length:Int))))] [] [] (aQ h (fun c5 h=> ?_) (fun c5 h=> ?_)))
     ·refine qk (qs (qb ?_))
      obtain⟨x20,hx20,x21,hx21,h⟩:=dH h
      exact rk hC [oQ (show(1000:Int)≠0 by decide),oQ (kQ rI hx20),oX rI hx20,.z (.rows (List.map rI x21)),.z (.len 9 (List.map rI x21).length),oQ (str rI hx21),oQ (pK rI hx21)] [9,65,66,67,68,69,70,71] [(9,ms 25 g18 1 rI x21)] [(25,some (ar 3 g18 1 rI x21))] [] (rk hC [] [10,63,64] [(10,vI (wr (x17+1)))] [] [] ⟨(x21,wr (x17+1)),g18,h,lS⟩)
     ·refine cZ ?_
      obtain⟨x22,hx22,h⟩:=bd h
      refine rq hC [.z (.at 6),.z (.fz 25 [9,74] []),.z (.at 6),.z (.fz 22 [7,75] []),oC [] [26] (uP G hx22)] [7,9,11,12,72,73,74,75,76,77,78] [(9,vM rI x16),(11,ms 26 1 1 rI x22.1),(12,vB x22.2)] [(25,none),(22,none),(26,some (ar 3 1 1 rI x22.1))] [(26,true)] ?_
      obtain⟨x23,hx23,h⟩:=bd h
      refine rq hC [.z (.at 6),.z (.fz 24 [8,82] []),oC [] [27] (uP G hx23)] [8,13,14,79,80,81,82,83,84,85] [(13,ms 27 1 1 rI x23.1),(14,vB x23.2)] [(24,none),(27,some (ar 3 1 1 rI x23.1))] [(27,true)] (vj h (fun x_=>aY [(4,vB x_)] [(21,E.cells (cN x3.1)),(23,ar 3 1 1 rI x9),(26,ar 3 1 1 rI x22.1),(27,ar 3 1 1 rI x23.1)] [20,21,22,23,24,25,26,27]) (fun j24 h=> ?_) (fun x26 h=> ?_))
      ·
       refine aR h (fun c6 h=> ?_) (fun c6 h=> ?_)
       ·exact rk hC ([oF c6,oF c6]++sF 4) [4,86,87,88,89,90,91,92,93,94] [(4,vB false)] [] [] (lE h)
       ·refine aR h (fun c7 h=> ?_) (fun c7 h=> ?_)
        ·exact rk hC ([oT c6,oT c6]++rF 4 c7) [4,86,87,88,89,90,91,92,93,94] [(4,vB false)] [] [] (lE h)
        ·obtain⟨x25,hx25,h⟩:=bd h
         exact rk hC ([oT c6,oT c6]++rT 3 c7++[.z (.b (true)),oV (oZ G hx25),oT c7]) [4,86,87,88,89,90,91,92,93,94] [(4,vB x25)] [] [] (lE h)
      ·obtain rfl:=so h
       exact qr eR
end Go.Lift
