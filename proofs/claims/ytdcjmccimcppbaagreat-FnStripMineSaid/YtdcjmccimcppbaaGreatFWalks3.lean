/- The walks: the code computes what the plain functions say. -/
import Derived.Test.YtdcjmccimcppbaaGreatFModels
import Derived.Test.YtdcjmccimcppbaaGreatFWalks2
set_option maxRecDepth 10000
set_option linter.unusedVariables false
namespace Go.Lift
open Go Go.Proofs
variable (G:GS) {n:Nat}
theorem U6{p}{r}(h:lQ n p=some r):PQ G 80 [V.agg (bH p)] (vI r):=by
 unfold lQ at h
 refine pq aO Tryz.func80 rfl fun w X hC=> ?_
 refine rq hC [.z (.b (true))] [1,2] [(1,V.tp (bO p))] [] [] (qs ?_)
 obtain⟨x1,hx1,h⟩:=bd h
 refine rq hC [oV (bI G hx1)] [3,4,5] [(5,vB (!x1))] [] [] (aS h (fun c1 h=> ?_) (fun c1 h=> ?_))
 ·obtain rfl:=so h
  exact rq hC [] [2] [(2,vI 0)] [] [] (qr eR)
 ·refine qk ?_
  obtain⟨x2,hx2,h⟩:=bd h
  obtain rfl:=so h
  exact rq hC [oV (lW G hx2)] [2,6,7] [(2,vI x2)] [] [] (qr eR)
theorem S1{a}{b}{r}(h:oP n a b=some r):PQ G 81 [vM rI a,vM rI b] (vB r):=by
 unfold oP at h
 refine pq aO Tryz.func81 rfl fun w X hC=> ?_
 refine rq hC [] [4] [] [] [] (qs (rq hC [oN rI a,oN rI b] (fr 6 5) [(10,vB (!decide ((a.length:Int)=(b.length:Int))))] [] [] (aS h (fun c1 h=> ?_) (fun c1 h=> ?_))))
 ·obtain rfl:=so h
  exact rq hC [] [4] [(4,vB false)] [] [] (qr eR)
 ·refine qk (qs (rq hC [] [5] [(5,vI 0)] [] [] (qb (jN h (fun x_=>aX [(0,vM rI a),(1,vM rI b),(5,vI x_)] [] []) lS ?_))))
  rintro again2 x1 h
  refine qs (rq hC [oN rI a] (fr 11 4) [(14,vB (decide (x1<(a.length:Int))))] [] [] (aS h (fun c2 h=> ?_) (fun c2 h=> ?_)))
  ·refine qk (qs (qb (qs ?_)))
   obtain⟨x3,hx3,x4,hx4,h⟩:=cO h
   refine dk hC bA [oR rI hx3,oR rI hx4] (fr 17 9) [(25,vB (!decide (x3=x4)))] [] [] (aS h (fun c3 h=> ?_) (fun c3 h=> ?_))
   ·obtain rfl:=so h
    exact rq hC [] [4] [(4,vB false)] [] [] (qr eR)
   ·exact qk (rk hC [] [5,15,16] [(5,vI (wr (x1+1)))] [] [] (lE h))
  ·obtain rfl:=so h
   exact cW (rq hC [] [4] [(4,vB true)] [] [] (qr eR))
theorem zJ(G:GS)(n:Nat)(n_a0:Int){r:Bool}(h:fD n n_a0=some r):PQ G 227 [vI n_a0] (vB r):=by
 unfold fD at h
 refine pq aO Tryz.func227 rfl fun w X hC=> ?_
 refine rq hC [] [2] [] [] [] ?_
 obtain⟨x1,hx1,h⟩:=bd h
 obtain rfl:=so h
 exact rq hC [oV (bD G hx1)] (fr 2 4) [(2,vB (!x1))] [] [] (qr eR)
theorem H6{p}{m}{r}(h:jW n p m=some r):PQ G 147 [V.agg (bH p),vM rI m] (vB r):=by
 unfold jW at h
 refine pq aO Tryz.func147 rfl fun w X hC=> ?_
 refine rq hC [.z (.b (true))] [2,4] [(2,V.tp (bO p))] [] [] (vj h (fun x_=>aX [(4,vB x_)] [] []) (fun j1 h=> ?_) (fun x5 h=> ?_))
 ·
  obtain⟨x2,hx2,h⟩:=bd h
  refine aQ h (fun c1 h=> ?_) (fun c1 h=> ?_)
  ·exact rk hC ([oV (bI G hx2)]++rF 6 c1++sF 4) (fr 4 15) [(4,vB false)] [] [] (lE h)
  ·obtain⟨x3,hx3,h⟩:=bd h
   refine aQ h (fun c2 h=> ?_) (fun c2 h=> ?_)
   ·exact rk hC ([oV (bI G hx2),oT c1,oT c1,oN rI m,oT c1,oT c1,oV (lW G hx3),oT c1,oT c1]++rF 4 c2) (fr 4 15) [(4,vB false)] [] [] (lE h)
   ·obtain⟨x4,hx4,h⟩:=bd h
    exact rk hC [oV (bI G hx2),oT c1,oT c1,oN rI m,oT c1,oT c1,oV (lW G hx3),oT c1,oT c1,oT c2,oT c2,oV (d4 G n m 227 (fun q0=>fD n q0) (fun q0 r h=>zJ G n q0 h) hx4),oT c2,oT c2] (fr 4 15) [(4,vB (!x4))] [] [] (lE h)
 ·obtain rfl:=so h
  exact qr eR
theorem iX{p}{r}(h:cY n p=some r):VQ G 101 [] [V.agg (bH p)] (ms 0 1 3 bM r) [ar 112 1 3 bM r]:=by
 unfold cY at h
 refine vq aO Tryz.func101 rfl fun w X β0 hC hg=> ?_
 refine rq hC [.z (.b (true))] [1,2] [(1,V.tp (bO p))] [] [] ?_
 obtain⟨x1,hx1,h⟩:=bd h
 refine rq hC [oC [] [20] (l3 G hx1)] (fr 3 7) [(3,ms 20 1 3 bM x1.1),(4,vB x1.2)] [(20,some (ar 112 1 3 bM x1.1))] [(20,true)] (qs (rq hC [] [10,11] [(11,vB (!x1.2))] [] [] (aS h (fun c1 h=> ?_) (fun c1 h=> ?_))))
 ·obtain rfl:=so h
  exact rq hC [] [2] [(2,V.t T.nilS)] [] [] (qw (lk hC [.grow 2 0 112] [2] [(2,ms 0 1 3 bM [])] [(0,some (ar 112 1 3 bM []))] [(0,true)]) (qr eW))
 ·obtain rfl:=so h
  exact qk (rq hC [] [2,12] [(2,ms 20 1 3 bM x1.1)] [] [] (qw (lk hC [.ren 2 20 0] [2] [(2,ms 0 1 3 bM x1.1)] [(0,some (ar 112 1 3 bM x1.1)),(20,none)] [(0,true)]) (qr eW)))
theorem rN{p}{x}{r}(h:dX n p x=some r):PQ G 228 [V.agg (bH p),V.agg (aAw x)] (V.agg (cS r)):=by
 unfold dX at h
 refine pq aO Tryz.func228 rfl fun w X hC=> ?_
 refine rq hC [.z (.b (true)),.z (.b (true)),.z (.nat 20)] [2,3,4] [(2,V.tp (bO p)),(3,V.tp (K5 x)),(4,V.ref 20 0)] [(20,sc [vS [],V.t T.nilS,vI 0,vI 0,V.t T.nilS,vI 0,vS [],V.t T.nilS,V.t T.nilS])] [(20,true)] (qs ?_)
 obtain⟨x1,hx1,x2,hx2,h⟩:=cO h
 obtain rfl:=so h
 exact dk hC bA [oR aD hx1,oR aG hx2] (fr 5 11) [] [(20,some (E.cells (cS x2)))] [] (qr eR)
theorem tD{n_a0}{r}(h:m4 n n_a0=some r):PQ G 293 [vI n_a0] (vI r):=by
 unfold m4 at h
 refine pq aO Tryz.func293 rfl fun w X hC=> ?_
 obtain rfl:=so h
 exact rq hC [] [2] [] [] [] (rq hC [oQ (show(1000:Int)≠0 by decide),oQ (show(1000:Int)≠0 by decide)] (fr 2 6) [(2,vI (Int.tmod (wr ((wr ((Int.tmod n_a0 1000)+999))+1)) 1000))] [] [] (qr eR))
theorem zF(G:GS): ∀(n:Nat) (p:Prog) (m:List Int) (e:Expr) (point:List Int) {r:Int} (h:i_Program_value n p m e point=some r),PQ G 229 [V.agg (bH p),vM rI m,V.agg (cU e),vM rI point] (vI r):=by
 intro n
 induction n with
 |zero=>intro p m e point r h;rw [i_Program_value.eq_def] at h;cases h
 |succ n ih=>
  intro p m e point r h
  rw [i_Program_value.eq_def] at h;dsimp only at h
  refine pq aO Tryz.func229 rfl fun w X hC=> ?_
  refine rq hC [.z (.b (true)),.z (.b (true))] [4,6,8] [(4,V.tp (bO p)),(6,V.tp (fI e))] [] [] (qs (rq hC [] [11,12] [(12,vI e.kind)] [] [] (qb (rq hC [] [13,14] [(13,vB (decide (e.kind=1)))] [] [] (aS h (fun c1 h=> ?_) (fun c1 h=> ?_))))))
  ·obtain rfl:=so h
   exact rq hC [] [8,15,16] [(8,vI e.num)] [] [] (qr eR)
  ·refine rq hC [] [17,18] [(17,vB (decide (e.kind=2)))] [] [] (aS h (fun c2 h=> ?_) (fun c2 h=> ?_))
   ·obtain⟨x1,hx1,x2,hx2,h⟩:=cO h
    obtain rfl:=so h
    exact rq hC [oV (fH G hx1),oV (tD G hx2)] [8,19,20,21,22,23] [(8,vI x2)] [] [] (qr eR)
   ·refine rq hC [] [24,25] [(24,vB (decide (e.kind=3)))] [] [] (aS h (fun c3 h=> ?_) (fun c3 h=> ?_))
    ·obtain⟨x3,hx3,x4,hx4,h⟩:=cO h
     obtain rfl:=so h
     exact rq hC [oV (dP G hx3),oR rI hx4] [8,26,27,28,29,30,31,32,33] [(8,vI x4)] [] [] (qr eR)
    ·refine qk (qs ?_)
     obtain⟨x5,hx5,x6,hx6,x7,hx7,h⟩:=kX h
     obtain⟨x8,hx8,h⟩:=bd h
     refine dk hC bA [.z (.row (eC x5)),oQ (eZ aI hx5 (cQ x5)),oV (ih p m x5 point hx6),.z (.row (eC x7)),oQ (eZ aI hx7 (cQ x7)),oV (ih p m x7 point hx8)] [9,10,34,35,36,37,38,39,40,41,42,43,44,45,46,47,48,49] [(9,vI x6),(10,vI x8)] [] [] (qs (rq hC [] [50,51] [(51,vI e.kind)] [] [] (qb (rq hC [] [52,53] [(52,vB (decide (e.kind=4)))] [] [] (aS h (fun c4 h=> ?_) (fun c4 h=> ?_))))))
     ·obtain⟨x9,hx9,h⟩:=bd h
      obtain rfl:=so h
      exact rq hC [oV (tD G hx9)] [8,54,55,56,57] [(8,vI x9)] [] [] (qr eR)
     ·refine rq hC [] [58,59] [(58,vB (decide (e.kind=5)))] [] [] (aS h (fun c5 h=> ?_) (fun c5 h=> ?_))
      ·obtain⟨x10,hx10,h⟩:=bd h
       obtain rfl:=so h
       exact rq hC [oV (tD G hx10)] [8,60,61,62,63] [(8,vI x10)] [] [] (qr eR)
      ·refine qk ?_
       obtain⟨x11,hx11,h⟩:=bd h
       obtain rfl:=so h
       exact rq hC [oV (tD G hx11)] [8,64,65,66,67] [(8,vI x11)] [] [] (qr eR)
theorem U2{p}{m}(mG:Nat){x}{r}(h:lM n p m x=some r):VQ G 149 [ar 3 mG 1 rI m] [V.agg (bH p),ms 0 mG 1 rI m,V.agg (aAw x)] (V.tup []) [ar 3 mG 1 rI r]:=by
 unfold lM at h
 refine vq aO Tryz.func149 rfl fun w X β0 hC hg=> ?_
 refine rq hC [.z (.b (true)),.z (.b (true))] [3,5] [(3,V.tp (bO p)),(5,V.tp (K5 x))] [] [] ?_
 obtain⟨x1,hx1,h⟩:=bd h
 refine rq hC [oV (rN G hx1),.z (.nat 20)] (fr 6 4) [(6,V.ref 20 0)] [(20,some (E.cells (cS x1)))] [(20,true)] ?_
 obtain⟨x2,hx2,x3,hx3,x4,hx4,h⟩:=kX h
 obtain⟨x5,hx5,h⟩:=bd h
 obtain rfl:=so h
 exact dk hC bA [oV (dP G hx2),.z (.b (true)),oV (zF G n p m x1.value x.point hx3),oQ (mO rI hx4),oX rI hx4,.z (.rows (List.map rI x5)),oQ (str rI hx5)] [1,10,11,12,13,14,15,16,17,18,19,20,21,22,23,24] [] [(0,some (ar 3 mG 1 rI x5))] [] eW
theorem uY{p}{m}{r}(h:fN n p m=some r):VQ G 58 [] [V.agg (bH p),vM rI m] (V.tup [ms 0 1 1 rI r.1,vB r.2]) [ar 3 1 1 rI r.1]:=by
 unfold fN at h
 refine vq aO Tryz.func58 rfl fun w X β0 hC hg=> ?_
 refine rq hC [.z (.b (true))] [2,4,5] [(2,V.tp (bO p))] [] [] (qs ?_)
 obtain⟨x1,hx1,h⟩:=bd h
 refine rq hC [oV (H6 G hx1)] (fr 9 4) [(12,vB (!x1))] [] [] (aS h (fun c1 h=> ?_) (fun c1 h=> ?_))
 ·obtain rfl:=so h
  exact rq hC [] [4,5] [(4,V.t T.nilS),(5,vB false)] [] [] (qw (lk hC [.grow 4 0 3] [4] [(4,ms 0 1 1 rI [])] [(0,some (ar 3 1 1 rI []))] [(0,true)]) (qr eW))
 ·refine qk ?_
  obtain⟨x2,hx2,h⟩:=bd h
  refine rq hC [oC [] [20] (G.clone m hx2)] [6,13,14] [(6,ms 20 1 1 rI x2)] [(20,some (ar 3 1 1 rI x2))] [(20,true)] (qs ?_)
  obtain⟨x3,hx3,h⟩:=bd h
  refine rq hC [oC [] [21] (iX G hx3),oN bM x3] (fr 15 4) [(16,ms 21 1 3 bM x3),(17,vI (x3.length:Int)),(18,vI 0)] [(21,some (ar 112 1 3 bM x3))] [(21,true)] (qb (bF (γ:=Nat) h (fun x_ g_=>aX [(2,V.tp (bO p)),(6,ms 20 g_ 1 rI x_.1),(16,ms 21 1 3 bM x3),(17,vI (x3.length:Int)),(18,vI x_.2)] [(20,ar 3 g_ 1 rI x_.1),(21,ar 112 1 3 bM x3)] [20,21]) 1 (lS) ?_))
  rintro again7 ⟨x4,x5⟩ g6 h
  refine rq hC [] [19] [(19,vB (decide (x5<(x3.length:Int))))] [] [] (qs (aS h (fun c2 h=> ?_) (fun c2 h=> ?_)))
  ·refine qk (qs (qb ?_))
   obtain⟨x8,hx8,h⟩:=bd h
   refine rq hC [oQ (mO bM hx8),oX bM hx8,.z (.nat 22)] [8,20,21] [(8,V.ref 22 0)] [(22,some (E.cells (aAw x8)))] [(22,true)] ?_
   obtain⟨x9,hx9,x10,hx10,h⟩:=cO h
   exact rk hC [oC [20] [] (U2 G g6 hx9),.z (.len 6 (List.map rI x9).length),oQ (rV rI hx10)] [6,22,23,24,25] [(6,ms 20 g6 1 rI x9)] [(20,some (ar 3 g6 1 rI x9))] [(20,true)] (rk hC [] [18,26] [(18,vI (wr (x5+1)))] [] [] ⟨(x9,wr (x5+1)),g6,h,lS⟩)
  ·obtain rfl:=so h
   exact cW (rq hC [] [4,5,27] [(4,ms 20 g6 1 rI x4),(5,vB true)] [] [] (qw (lk hC [.ren 4 20 0] [4] [(4,ms 0 1 1 rI x4)] [(0,some (ar 3 1 1 rI x4)),(20,none)] [(0,true)]) (qr eW)))
theorem F6{p}{q}{seed}{r}(h:qL n p q seed=some r):PQ G 20 [V.agg (bH p),V.agg (bH q),vI seed] (vB r):=by
 unfold qL at h
 refine pq aO Tryz.func20 rfl fun w X hC=> ?_
 refine rq hC [.z (.b (true)),.z (.b (true))] [3,4,6] [(3,V.tp (bO p)),(4,V.tp (bO q))] [] [] ?_
 obtain⟨x1,hx1,x2,hx2,h⟩:=cO h
 refine rq hC [oV (U6 G hx1),.z (.nat 20),oA (aGX rI hx2),oQ (I4 hx2).1] [7,13,14,15] [(7,ms 20 1 1 rI x2)] [(20,some (ar 3 1 1 rI x2))] [(20,true)] (qs (rq hC [] [8] [(8,vI 0)] [] [] (qb (bF (γ:=Nat) h (fun x_ g_=>aX [(2,vI seed),(3,V.tp (bO p)),(4,V.tp (bO q)),(7,ms 20 g_ 1 rI x_.1),(8,vI x_.2)] [(20,ar 3 g_ 1 rI x_.1)] [20]) 1 (lS) ?_))))
 rintro again6 ⟨x3,x4⟩ g5 h
 refine qs (rq hC [oN rI x3] (fr 16 4) [(19,vB (decide (x4<(x3.length:Int))))] [] [] (aS h (fun c1 h=> ?_) (fun c1 h=> ?_)))
 ·refine qk (qs (qb ?_))
  obtain⟨x7,hx7,x8,hx8,h⟩:=cO h
  exact rk hC [oQ (show(1000:Int)≠0 by decide),oQ (mO rI hx7),oX rI hx7,.z (.rows (List.map rI x8)),.z (.len 7 (List.map rI x8).length),oQ (str rI hx8),oQ (lY rI hx8)] [7,22,23,24,25,26,27,28,29,30,31] [(7,ms 20 g5 1 rI x8)] [(20,some (ar 3 g5 1 rI x8))] [] (rk hC [] [8,20,21] [(8,vI (wr (x4+1)))] [] [] ⟨(x8,wr (x4+1)),g5,h,lS⟩)
 ·refine cW ?_
  obtain⟨x9,hx9,h⟩:=bd h
  refine rq hC [.z (.at 6),.z (.fz 20 [7,34] []),oC [] [21] (uY G hx9)] [7,9,10,32,33,34,35,36,37] [(7,vM rI x3),(9,ms 21 1 1 rI x9.1),(10,vB x9.2)] [(20,none),(21,some (ar 3 1 1 rI x9.1))] [(21,true)] ?_
  obtain⟨x10,hx10,h⟩:=bd h
  refine rq hC [oC [] [22] (uY G hx10)] [11,12,38,39,40,41,42,43] [(11,ms 22 1 1 rI x10.1),(12,vB x10.2)] [(22,some (ar 3 1 1 rI x10.1))] [(22,true)] (vj h (fun x_=>aX [(6,vB x_)] [(21,ar 3 1 1 rI x9.1),(22,ar 3 1 1 rI x10.1)] [20,21,22]) (fun j11 h=> ?_) (fun x13 h=> ?_))
  ·
   refine aQ h (fun c2 h=> ?_) (fun c2 h=> ?_)
   ·exact rk hC ([oF c2,oF c2]++sF 4) [6,44,45,46,47,48,49,50,51,52] [(6,vB false)] [] [] (lE h)
   ·refine aQ h (fun c3 h=> ?_) (fun c3 h=> ?_)
    ·exact rk hC ([oT c2,oT c2]++rF 4 c3) [6,44,45,46,47,48,49,50,51,52] [(6,vB false)] [] [] (lE h)
    ·obtain⟨x12,hx12,h⟩:=bd h
     exact rk hC ([oT c2,oT c2]++rT 3 c3++[.z (.b (true)),oV (S1 G hx12),oT c3]) [6,44,45,46,47,48,49,50,51,52] [(6,vB x12)] [] [] (lE h)
  ·obtain rfl:=so h
   exact qr eR
theorem wA{p}{x}{r}(h:fO n p x=some r):VQ G 185 [] [V.agg (bH p),V.agg (aAw x)] (V.tup [ms 0 1 1 rI r.1,vI r.2]) [ar 3 1 1 rI r.1]:=by
 unfold fO at h
 refine vq aO Tryz.func185 rfl fun w X β0 hC hg=> ?_
 refine rq hC [.z (.b (true)),.z (.b (true))] (fr 2 4) [(2,V.tp (bO p)),(3,V.tp (K5 x))] [] [] ?_
 obtain⟨x1,hx1,h⟩:=bd h
 refine rq hC [oV (rN G hx1),.z (.nat 20)] [6,10,11,12] [(6,V.ref 20 0)] [(20,some (E.cells (cS x1)))] [(20,true)] (rq hC [] [7] [(7,V.t T.nilS)] [] [] (qs ?_))
 obtain⟨x2,hx2,h⟩:=bd h
 refine rq hC [oC [] [21] (aAv G n x1.value hx2),oN aU x2] (fr 13 5) [(15,ms 21 1 2 aU x2),(16,vI (x2.length:Int)),(17,vI 0)] [(21,some (ar 77 1 2 aU x2))] [(21,true)] (qb (qw (lk hC [.grow 7 22 3] [7] [(7,ms 22 1 1 rI [])] [(22,some (ar 3 1 1 rI []))] [(22,true)]) (bF (γ:=Nat) h (fun x_ g_=>aX [(2,V.tp (bO p)),(3,V.tp (K5 x)),(6,V.ref 20 0),(7,ms 22 g_ 1 rI x_.1),(15,ms 21 1 2 aU x2),(16,vI (x2.length:Int)),(17,vI x_.2)] [(20,E.cells (cS x1)),(21,ar 77 1 2 aU x2),(22,ar 3 g_ 1 rI x_.1)] [20,21,22]) 1 (lS) ?_)))
 rintro again6 ⟨x3,x4⟩ g5 h
 refine rq hC [] [18] [(18,vB (decide (x4<(x2.length:Int))))] [] [] (qs (aS h (fun c1 h=> ?_) (fun c1 h=> ?_)))
 ·refine qk (qs (qb ?_))
  obtain⟨x7,hx7,h⟩:=bd h
  refine rq hC [oQ (mO aU hx7),oX aU hx7,.z (.nat 23)] [9,19,20] [(9,V.ref 23 0)] [(23,some (E.cells (cF x7)))] [(23,true)] ?_
  obtain⟨x8,hx8,x9,hx9,h⟩:=cO h
  exact rk hC [oV (dP G hx8),.z (.int 0),oA (aP rI hx9),oQ (bW (r:=rI) 1 (fun _=>rfl) x3),oQ (bW (r:=rI) 1 (fun _=>rfl) [x8])] [7,21,22,23,24,25,26,27,28] [(7,ms 22 (g5+1) 1 rI x9)] [(22,some (ar 3 (g5+1) 1 rI x9))] [] (rk hC [] [17,29] [(17,vI (wr (x4+1)))] [] [] ⟨(x9,wr (x4+1)),(g5+1),h,lS⟩)
 ·refine cW ?_
  obtain⟨x10,hx10,h⟩:=bd h
  obtain rfl:=so h
  exact rq hC [oV (dP G hx10)] [4,5,30,31,32,33,34,35,36] [(4,ms 22 g5 1 rI x3),(5,vI x10)] [] [] (qw (lk hC [.ren 4 22 0] [4] [(4,ms 0 1 1 rI x3)] [(0,some (ar 3 1 1 rI x3)),(22,none)] [(0,true)]) (qr eW))
theorem cG{p}{part}{r}(h:eQ n p part=some r):PQ G 87 [V.agg (bH p),vI part] (vB r):=by
 unfold eQ at h
 refine pq aO Tryz.func87 rfl fun w X hC=> ?_
 refine rq hC [.z (.b (true))] [2,4] [(2,V.tp (bO p))] [] [] ?_
 obtain⟨x1,hx1,h⟩:=bd h
 obtain rfl:=so h
 exact rq hC [oN aD p.parts,oV (bD G hx1)] (fr 4 7) [(4,vB x1)] [] [] (qr eR)
theorem aD7{p}{part}{many}{parts}{r}(h:tX n p part many parts=some r):PQ G 85 [V.agg (bH p),vI part,vI many,vM aD parts] (V.tup [V.agg (bH r.1),vB r.2]):=by
 unfold tX at h
 refine pq aO Tryz.func85 rfl fun w X hC=> ?_
 refine rq hC [.z (.b (true)),.z (.nat 20)] [4,8,9] [(4,V.tp (bO p)),(8,V.ref 20 0)] [(20,sc [V.t T.nilS,V.t T.nilS])] [(20,true)] ?_
 obtain⟨x1,hx1,h⟩:=bd h
 refine rq hC [oC [] [21,22] (xD G hx1),.z (.nat 23)] [10,12,13] [(10,V.ref 23 0)] [(21,some (ar 90 1 2 aJ x1.arrays)),(22,some (E.tree nE 2 1 (List.map aD x1.parts) [])),(23,sc [ms 21 1 2 aJ x1.arrays,ms 22 1 2 aD x1.parts])] [(21,true),(22,true),(23,true)] (rq hC [.z (.nat 24)] [11,14,15,16] [(11,V.ref 24 0)] [(24,sc [ms 21 1 2 aJ x1.arrays,V.t T.nilS])] [(24,true)] (qs (qw (lk hC [.shd 22,.fz 22 [] [23]] [] [] [(22,none),(23,sc [ms 21 1 2 aJ x1.arrays,vM aD x1.parts])] []) ?_)))
 obtain⟨x2,hx2,x3,hx3,x4,hx4,h⟩:=kX h
 obtain⟨x5,hx5,x6,hx6,h⟩:=cO h
 refine dk hC bA [.z (.nat 25),oA (rU aD hx2),oQ (bW (r:=aD) 2 cB x1.parts),oA (aP aD hx3),oQ (bW (r:=aD) 2 cB []),oQ (bW (r:=aD) 2 cB x2),oA (aP aD hx4),oQ (bW (r:=aD) 2 cB x3),oQ (bW (r:=aD) 2 cB parts),oA (K9 aD hx5),oQ (bW (r:=aD) 2 cB x1.parts),oA (aP aD hx6),oQ (bW (r:=aD) 2 cB x4),oQ (bW (r:=aD) 2 cB x5)] (fr 17 16) [] [(25,some (ar 46 4 2 aD x6)),(24,sc [ms 21 1 2 aJ x1.arrays,ms 25 4 2 aD x6])] [(25,true)] (qs ?_)
 obtain⟨x7,hx7,h⟩:=bd h
 refine rq hC [.z (.at 3),.z (.fz 21 [] [23,24]),.z (.at 3),.z (.fz 25 [] [24]),oV (dA G hx7)] [33,34,35] [(35,vB (!x7))] [(23,some (E.cells (bH x1))),(24,sc [vM aJ x1.arrays,vM aD x6]),(21,none),(25,none)] [] (aS h (fun c1 h=> ?_) (fun c1 h=> ?_))
 ·obtain rfl:=so h
  exact rq hC [] [9,36] [(9,vB false)] [(20,sc [V.t T.nilS,V.t T.nilS])] [] (qr eR)
 ·refine qk ?_
  obtain⟨x8,hx8,h⟩:=bd h
  obtain rfl:=so h
  exact rq hC [oC [] [26,27] (xD G hx8)] [9,37,38] [(9,vB true)] [(26,some (ar 90 1 2 aJ x8.arrays)),(27,some (E.tree nE 2 1 (List.map aD x8.parts) [])),(20,sc [ms 26 1 2 aJ x8.arrays,ms 27 1 2 aD x8.parts])] [(26,true),(27,true)] (qw (lk hC [.fz 26 [] [20]] [] [] [(20,sc [vM aJ x8.arrays,ms 27 1 2 aD x8.parts]),(26,none)] []) (qw (lk hC [.shd 27,.fz 27 [] [20]] [] [] [(27,none),(20,some (E.cells (bH x8)))] []) (qr eR)))
theorem aEd{r_a0}{r}(h:t0 n r_a0=some r):VQ G 103 [eL r_a0] [V.ref 0 0] (V.tup [V.agg (bH r.1),vI r.2.1,vI r.2.2.1,vI r.2.2.2.1]) [eL r.2.2.2.2]:=by
 unfold t0 at h
 refine vq aO Tryz.func103 rfl fun w X β0 hC hg=> ?_
 refine rq hC [.z (.nat 20)] (fr 2 4) [(2,V.ref 20 0)] [(20,sc [V.t T.nilS,V.t T.nilS])] [(20,true)] ?_
 obtain⟨x1,hx1,x2,hx2,h⟩:=cO h
 refine rq hC [oC [0] [] (aEb G hx1),oC [0] [] (aBk G hx2),.z (.nat 21)] [6,8,9,10,11] [(6,V.ref 21 0)] [(0,sR x2.2),(21,some (E.cells (bH x2.1)))] [(0,true),(0,true),(21,true)] ?_
 obtain⟨x3,hx3,h⟩:=bd h
 refine rq hC [.z (.int 0),oC [0] [] (bC G hx3)] [7,12,13,14] [(7,vI x3.1)] [(0,sR x3.2)] [(0,true)] (qs ?_)
 obtain⟨x4,hx4,x5,hx5,h⟩:=cO h
 obtain rfl:=so h
 exact dk hC bA [.z (.int 0),oC [0] [] (bC G hx4),.z (.int 0),oC [0] [] (bC G hx5)] [3,4,5,15,16,17,18,19,20,21,22] [(3,vI x3.1),(4,vI x4.1),(5,vI x5.1)] [(0,sR x5.2),(20,some (E.cells (bH x2.1)))] [(0,true),(0,true)] (qr eW)
theorem aBm{p}{r}(h:pF n p=some r):PQ G 97 [V.agg (bH p)] (V.tup [V.agg (bH r.1),vB r.2]):=by
 unfold pF at h
 refine pq aO Tryz.func97 rfl fun w X hC=> ?_
 refine rq hC [.z (.b (true)),.z (.nat 20)] [1,2,3] [(1,V.tp (bO p)),(2,V.ref 20 0)] [(20,sc [V.t T.nilS,V.t T.nilS])] [(20,true)] (qs ?_)
 obtain⟨x1,hx1,h⟩:=bd h
 refine rq hC [oV (bI G hx1)] [4,5,6] [(6,vB (!x1))] [] [] (aS h (fun c1 h=> ?_) (fun c1 h=> ?_))
 ·obtain rfl:=so h
  exact rq hC [] [3,7] [(3,vB false)] [(20,sc [V.t T.nilS,V.t T.nilS])] [] (qr eR)
 ·refine qk ?_
  obtain⟨x2,hx2,h⟩:=bd h
  obtain rfl:=so h
  exact rq hC [oC [] [21,22] (H5 G hx2)] [3,8,9] [(3,vB true)] [(21,some (ar 90 1 2 aJ x2.arrays)),(22,some (ar 46 1 2 aD x2.parts)),(20,sc [ms 21 1 2 aJ x2.arrays,ms 22 1 2 aD x2.parts])] [(21,true),(22,true)] (qw (lk hC [.fz 21 [] [20]] [] [] [(20,sc [vM aJ x2.arrays,ms 22 1 2 aD x2.parts]),(21,none)] []) (qw (lk hC [.fz 22 [] [20]] [] [] [(20,some (E.cells (bH x2))),(22,none)] []) (qr eR)))
theorem pQ{p}{part}{loop}{r}(h:jH n p part loop=some r):PQ G 192 [V.agg (bH p),vI part,vI loop] (vB r):=by
 unfold jH at h
 refine pq aO Tryz.func192 rfl fun w X hC=> ?_
 refine rq hC [.z (.b (true))] [3,6] [(3,V.tp (bO p))] [] [] (vj h (fun x_=>aX [(6,vB x_)] [] []) (fun j1 h=> ?_) (fun x5 h=> ?_))
 ·
  obtain⟨x2,hx2,h⟩:=bd h
  refine aQ h (fun c1 h=> ?_) (fun c1 h=> ?_)
  ·exact rk hC ([oV (cG G hx2)]++rF 11 c1) (fr 6 16) [(6,vB false)] [] [] (lE h)
  ·obtain⟨x3,hx3,x4,hx4,h⟩:=cO h
   exact rk hC ([oV (cG G hx2)]++rT 5 c1++[oR aD hx3]++rT 3 c1++[oN aC x3.nest,oT c1,oT c1,oV (bD G hx4),oT c1]) (fr 6 16) [(6,vB x4)] [] [] (lE h)
 ·obtain rfl:=so h
  exact qr eR
theorem aCS(G:GS)(n:Nat)(p:Prog)(part:Int)(loop:Int){r:Prog×Bool}(h:nT n p part loop=some r)(hr:r.2=true):VQ G 92 [] [V.agg (bH p),vI part,vI loop] (V.tup [V.agg [ms 0 1 2 aJ r.1.arrays,ms 1 1 2 aD r.1.parts],V.eref 1 1 2 (0+Int.toNat part) 0,vB true]) [ar 90 1 2 aJ r.1.arrays,E.tree gD 0 1 (List.map aD r.1.parts) []]:=by
 unfold nT at h
 refine vq aO Tryz.func92 rfl fun w X β0 hC hg=> ?_
 refine rq hC [.z (.b (true)),.z (.nat 20)] [3,6,7,8] [(3,V.tp (bO p)),(6,V.ref 20 0)] [(20,sc [V.t T.nilS,V.t T.nilS])] [(20,true)] (qs (vj h (fun x_=>aX [(1,vI part),(3,V.tp (bO p)),(6,V.ref 20 0),(29,vB x_)] [(20,E.cells [V.t T.nilS,V.t T.nilS])] [20]) (fun j1 h=> ?_) (fun x5 h=> ?_)))
 ·
  obtain⟨x2,hx2,h⟩:=bd h
  refine aQ h (fun c1 h=> ?_) (fun c1 h=> ?_)
  ·obtain⟨x3,hx3,h⟩:=bd h
   refine aQ h (fun c2 h=> ?_) (fun c2 h=> ?_)
   ·refine aQ h (fun c3 h=> ?_) (fun c3 h=> ?_)
    ·exact rk hC ([oV (bI G hx2)]++rF 3 c1++[oV (cG G hx3),oF c1,oF c1]++rF 3 c2++rF 5 c3++[oF c2,oF c3,oF c2]) (fr 10 20) [(29,vB false)] [] [] (lE h)
    ·obtain⟨x4,hx4,h⟩:=bd h
     exact rk hC ([oV (bI G hx2)]++rF 3 c1++[oV (cG G hx3),oF c1,oF c1]++rF 3 c2++rT 4 c3++[oV (pQ G hx4),oT c3,oF c2,oT c3,oF c2]) (fr 10 20) [(29,vB (!x4))] [] [] (lE h)
   ·exact rk hC ([oV (bI G hx2)]++rF 3 c1++[oV (cG G hx3),oF c1,oF c1]++rT 5 c2) (fr 10 20) [(29,vB true)] [] [] (lE h)
  ·exact rk hC ([oV (bI G hx2)]++rT 5 c1++sT 5) (fr 10 20) [(29,vB true)] [] [] (lE h)
 ·refine aS h (fun c4 h=> ?_) (fun c4 h=> ?_)
  ·obtain rfl:=so h
   cases hr
  ·refine qk ?_
   obtain⟨x6,hx6,x7,hx7,h⟩:=cO h
   obtain rfl:=so h
   exact rq hC [oC [] [21,22] (zG G hx6),.z (.nat 23)] [9,31,32] [(9,V.ref 23 0)] [(21,some (ar 90 1 2 aJ x6.arrays)),(22,some (E.tree gD 0 1 (List.map aD x6.parts) [])),(23,sc [ms 21 1 2 aJ x6.arrays,ms 22 1 2 aD x6.parts])] [(21,true),(22,true),(23,true)] (qw (lk hC [.rn 21 0 [] [23]] [] [] [(23,sc [ms 0 1 2 aJ x6.arrays,ms 22 1 2 aD x6.parts]),(21,none),(0,some (ar 90 1 2 aJ x6.arrays))] [(0,true)]) (qw (lk hC [.rn 22 1 [] [23]] [] [] [(23,sc [ms 0 1 2 aJ x6.arrays,ms 1 1 2 aD x6.parts]),(22,none),(1,some (E.tree gD 0 1 (List.map aD x6.parts) []))] [(1,true)]) (qs (dk hC bA [oQ (mO aD hx7)] [7,8,33,34,35,36,37] [(7,V.eref 1 1 2 (0+Int.toNat part) 0),(8,vB true)] [(20,sc [ms 0 1 2 aJ x6.arrays,ms 1 1 2 aD x6.parts])] [] (qr eW)))))
theorem aCT(G:GS)(n:Nat)(p:Prog)(part:Int)(loop:Int){r:Prog×Bool}(h:nT n p part loop=some r)(hr:r.2=false):PQ G 92 [V.agg (bH p),vI part,vI loop] (V.tup [V.agg [vM aJ [],vM aD []],V.t T.nilP,vB false]):=by
 unfold nT at h
 refine pq aO Tryz.func92 rfl fun w X hC=> ?_
 refine rq hC [.z (.b (true)),.z (.nat 20)] [3,6,7,8] [(3,V.tp (bO p)),(6,V.ref 20 0)] [(20,sc [V.t T.nilS,V.t T.nilS])] [(20,true)] (qs (vj h (fun x_=>aX [(1,vI part),(3,V.tp (bO p)),(6,V.ref 20 0),(29,vB x_)] [(20,E.cells [V.t T.nilS,V.t T.nilS])] [20]) (fun j1 h=> ?_) (fun x5 h=> ?_)))
 ·
  obtain⟨x2,hx2,h⟩:=bd h
  refine aQ h (fun c1 h=> ?_) (fun c1 h=> ?_)
  ·obtain⟨x3,hx3,h⟩:=bd h
   refine aQ h (fun c2 h=> ?_) (fun c2 h=> ?_)
   ·refine aQ h (fun c3 h=> ?_) (fun c3 h=> ?_)
    ·exact rk hC ([oV (bI G hx2)]++rF 3 c1++[oV (cG G hx3),oF c1,oF c1]++rF 3 c2++rF 5 c3++[oF c2,oF c3,oF c2]) (fr 10 20) [(29,vB false)] [] [] (lE h)
    ·obtain⟨x4,hx4,h⟩:=bd h
     exact rk hC ([oV (bI G hx2)]++rF 3 c1++[oV (cG G hx3),oF c1,oF c1]++rF 3 c2++rT 4 c3++[oV (pQ G hx4),oT c3,oF c2,oT c3,oF c2]) (fr 10 20) [(29,vB (!x4))] [] [] (lE h)
   ·exact rk hC ([oV (bI G hx2)]++rF 3 c1++[oV (cG G hx3),oF c1,oF c1]++rT 5 c2) (fr 10 20) [(29,vB true)] [] [] (lE h)
  ·exact rk hC ([oV (bI G hx2)]++rT 5 c1++sT 5) (fr 10 20) [(29,vB true)] [] [] (lE h)
 ·refine aS h (fun c4 h=> ?_) (fun c4 h=> ?_)
  ·obtain rfl:=so h
   exact rq hC [] [7,8,30] [(7,V.t T.nilP),(8,vB false)] [(20,sc [V.t T.nilS,V.t T.nilS])] [] (qr eR)
  ·obtain⟨x6,hx6,x7,hx7,h⟩:=cO h
   obtain rfl:=so h
   cases hr
theorem X7(G:GS)(n:Nat)(a:Affine){r:Bool}(h:m5 n a=some r):PQ G 265 [V.agg (aK a)] (vB r):=by
 unfold m5 at h
 refine pq aO Tryz.func265 rfl fun w X hC=> ?_
 refine rq hC [.z (.b (true))] [1,2] [(1,V.tp (aT a))] [] [] ?_
 obtain⟨x1,hx1,h⟩:=bd h
 obtain rfl:=so h
 exact rq hC [oV (gG G hx1)] (fr 2 4) [(2,vB (decide ((0:Int)<x1)))] [] [] (qr eR)
theorem uW{list}{r}(h:oH n list=some r):PQ G 193 [vM aA list] (vB r):=by
 unfold oH at h
 refine pq aO Tryz.func193 rfl fun w X hC=> ?_
 refine rq hC [] [2] [] [] [] ?_
 obtain⟨x1,hx1,h⟩:=bd h
 obtain rfl:=so h
 exact rq hC [oV (rK G n list 265 (fun q0=>m5 n q0) (fun q0 r h=>X7 G n q0 h) hx1)] (fr 2 4) [(2,vB (!x1))] [] [] (qr eR)
theorem U5{l}{r}(h:lP n l=some r):PQ G 93 [V.agg (gX l)] (V.tup [vI r.1,vI r.2.1,vB r.2.2]):=by
 unfold lP at h
 refine pq aO Tryz.func93 rfl fun w X hC=> ?_
 refine rq hC [.z (.b (true))] (fr 1 4) [(1,V.tp (mU l))] [] [] (qs (vj h (fun x_=>aX [(1,V.tp (mU l)),(26,vB x_)] [] []) (fun j1 h=> ?_) (fun x4 h=> ?_)))
 ·
  refine aQ h (fun c1 h=> ?_) (fun c1 h=> ?_)
  ·refine aQ h (fun c2 h=> ?_) (fun c2 h=> ?_)
   ·obtain⟨x2,hx2,h⟩:=bd h
    refine aQ h (fun c3 h=> ?_) (fun c3 h=> ?_)
    ·obtain⟨x3,hx3,h⟩:=bd h
     exact rk hC ([oN aA l.lo]++rF 3 c1++[oN aA l.hi,oF c1,oF c1]++rF 3 c2++[oV (uW G hx2),oF c2,oF c2]++rF 3 c3++[oV (uW G hx3),oF c3,oF c3]) (fr 5 22) [(26,vB (!x3))] [] [] (lE h)
    ·exact rk hC ([oN aA l.lo]++rF 3 c1++[oN aA l.hi,oF c1,oF c1]++rF 3 c2++[oV (uW G hx2),oF c2,oF c2]++rT 5 c3) (fr 5 22) [(26,vB true)] [] [] (lE h)
   ·exact rk hC ([oN aA l.lo]++rF 3 c1++[oN aA l.hi,oF c1,oF c1]++rT 5 c2++sT 5) (fr 5 22) [(26,vB true)] [] [] (lE h)
  ·exact rk hC ([oN aA l.lo]++rT 5 c1++sT 10) (fr 5 22) [(26,vB true)] [] [] (lE h)
 ·refine aS h (fun c4 h=> ?_) (fun c4 h=> ?_)
  ·obtain rfl:=so h
   exact rq hC [] [2,3,4] [(2,vI 0),(3,vI 0),(4,vB false)] [] [] (qr eR)
  ·refine qk (qs ?_)
   obtain⟨x5,hx5,x6,hx6,h⟩:=cO h
   obtain rfl:=so h
   exact dk hC bA [oR aA hx5,oR aA hx6] [2,3,4,27,28,29,30,31,32,33,34,35,36] [(2,vI x5.const),(3,vI x6.const),(4,vB true)] [] [] (qr eR)
theorem v6{p}{part}{loop}{r}(h:xX n p part loop=some r):PQ G 98 [V.agg (bH p),vI part,vI loop] (vB r):=by
 unfold xX at h
 refine pq aO Tryz.func98 rfl fun w X hC=> ?_
 refine rq hC [.z (.b (true))] [3,6] [(3,V.tp (bO p))] [] [] (vj h (fun x_=>aX [(6,vB x_)] [] []) (fun j1 h=> ?_) (fun x4 h=> ?_))
 ·
  obtain⟨x2,hx2,h⟩:=bd h
  refine aQ h (fun c1 h=> ?_) (fun c1 h=> ?_)
  ·exact rk hC ([oV (dA G hx2)]++rF 3 c1++sF 19) (fr 6 29) [(6,vB false)] [] [] (lE h)
  ·refine aQ h (fun c2 h=> ?_) (fun c2 h=> ?_)
   ·exact rk hC ([oV (dA G hx2)]++rT 3 c1++rF 6 c2++sF 13) (fr 6 29) [(6,vB false)] [] [] (lE h)
   ·refine aQ h (fun c3 h=> ?_) (fun c3 h=> ?_)
    ·exact rk hC ([oV (dA G hx2)]++rT 3 c1++rT 4 c2++[oN aD p.parts,oT c2,oT c2]++rF 3 c3++sF 10) (fr 6 29) [(6,vB false)] [] [] (lE h)
    ·refine aQ h (fun c4 h=> ?_) (fun c4 h=> ?_)
     ·exact rk hC ([oV (dA G hx2)]++rT 3 c1++rT 4 c2++[oN aD p.parts,oT c2,oT c2]++rT 3 c3++rF 10 c4) (fr 6 29) [(6,vB false)] [] [] (lE h)
     ·obtain⟨x3,hx3,h⟩:=bd h
      exact rk hC ([oV (dA G hx2)]++rT 3 c1++rT 4 c2++[oN aD p.parts,oT c2,oT c2]++rT 3 c3++rT 5 c4++[oR aD hx3]++rT 3 c4++[oN aC x3.nest,oT c4,oT c4]) (fr 6 29) [(6,vB (decide (loop<(x3.nest.length:Int))))] [] [] (lE h)
 ·obtain rfl:=so h
  exact qr eR
theorem aEo{loop}{r}(h:uE n loop=some r):PQ G 196 [V.agg (gX loop)] (vB r):=by
 unfold uE at h
 refine pq aO Tryz.func196 rfl fun w X hC=> ?_
 refine rq hC [.z (.b (true))] [1,2] [(1,V.tp (mU loop))] [] [] (qs (rq hC [] [3] [(3,vI 0)] [] [] (qb (jN h (fun x_=>aX [(1,V.tp (mU loop)),(3,vI x_)] [] []) lS ?_))))
 rintro again2 x1 h
 refine qs (rq hC [oN aA loop.lo] (fr 5 5) [(9,vB (decide (x1<(loop.lo.length:Int))))] [] [] (aS h (fun c1 h=> ?_) (fun c1 h=> ?_)))
 ·refine qk (qs (qb ?_))
  obtain⟨x3,hx3,x4,hx4,h⟩:=cO h
  refine rq hC [oR aA hx3,oV (nD G hx4)] (fr 12 7) [(18,vB (decide ((0:Int)<x4)))] [] [] (aS h (fun c2 h=> ?_) (fun c2 h=> ?_))
  ·obtain rfl:=so h
   exact rq hC [] [2] [(2,vB false)] [] [] (qr eR)
  ·exact qk (rk hC [] [3,10,11] [(3,vI (wr (x1+1)))] [] [] (lE h))
 ·refine cW (qs (rq hC [] [4] [(4,vI 0)] [] [] (qb (jN h (fun x_=>aX [(1,V.tp (mU loop)),(4,vI x_)] [] []) lS ?_))))
  rintro again6 x5 h
  refine qs (rq hC [oN aA loop.hi] (fr 19 5) [(23,vB (decide (x5<(loop.hi.length:Int))))] [] [] (aS h (fun c3 h=> ?_) (fun c3 h=> ?_)))
  ·refine qk (qs (qb ?_))
   obtain⟨x7,hx7,x8,hx8,h⟩:=cO h
   refine rq hC [oR aA hx7,oV (nD G hx8)] (fr 26 7) [(32,vB (decide ((0:Int)<x8)))] [] [] (aS h (fun c4 h=> ?_) (fun c4 h=> ?_))
   ·obtain rfl:=so h
    exact rq hC [] [2] [(2,vB false)] [] [] (qr eR)
   ·exact qk (rk hC [] [4,24,25] [(4,vI (wr (x5+1)))] [] [] (lE h))
  ·obtain rfl:=so h
   exact cW (rq hC [] [2] [(2,vB true)] [] [] (qr eR))
theorem aCz{x}{r}(h:qR n x=some r):PQ G 99 [V.agg (gX x)] (V.tup [vI r.1,vI r.2.1,vB r.2.2]):=by
 unfold qR at h
 refine pq aO Tryz.func99 rfl fun w X hC=> ?_
 refine rq hC [.z (.b (true))] (fr 1 4) [(1,V.tp (mU x))] [] [] (qs (vj h (fun x_=>aX [(1,V.tp (mU x)),(19,vB x_)] [] []) (fun j1 h=> ?_) (fun x3 h=> ?_)))
 ·
  refine aQ h (fun c1 h=> ?_) (fun c1 h=> ?_)
  ·refine aQ h (fun c2 h=> ?_) (fun c2 h=> ?_)
   ·obtain⟨x2,hx2,h⟩:=bd h
    exact rk hC ([oN aA x.lo]++rF 3 c1++[oN aA x.hi,oF c1,oF c1,oF c2,oF c2,oV (aEo G hx2),oF c2,oF c2]) (fr 5 15) [(19,vB (!x2))] [] [] (lE h)
   ·exact rk hC ([oN aA x.lo]++rF 3 c1++[oN aA x.hi,oF c1,oF c1]++rT 4 c2) (fr 5 15) [(19,vB true)] [] [] (lE h)
  ·exact rk hC ([oN aA x.lo]++rT 5 c1++sT 4) (fr 5 15) [(19,vB true)] [] [] (lE h)
 ·refine aS h (fun c3 h=> ?_) (fun c3 h=> ?_)
  ·obtain rfl:=so h
   exact rq hC [] [2,3,4] [(2,vI 0),(3,vI 0),(4,vB false)] [] [] (qr eR)
  ·refine qk (qs ?_)
   obtain⟨x4,hx4,x5,hx5,h⟩:=cO h
   obtain rfl:=so h
   exact dk hC bA [oR aA hx4,oR aA hx5] [2,3,4,20,21,22,23,24,25,26,27,28,29] [(2,vI x4.const),(3,vI x5.const),(4,vB true)] [] [] (qr eR)
theorem aCU{nest}{p}{r}(h:rA n nest p=some r):PQ G 268 [vM aC nest,vM rI p] (vB r):=by
 unfold rA at h
 refine pq aO Tryz.func268 rfl fun w X hC=> ?_
 refine rq hC [] [4] [] [] [] (qs (vj h (fun x_=>aX [(0,vM aC nest),(1,vM rI p),(23,vB x_)] [] []) (fun j1 h=> ?_) (fun x4 h=> ?_)))
 ·
  obtain⟨x2,hx2,h⟩:=bd h
  refine aQ h (fun c1 h=> ?_) (fun c1 h=> ?_)
  ·obtain⟨x3,hx3,h⟩:=bd h
   refine aQ h (fun c2 h=> ?_) (fun c2 h=> ?_)
   ·exact rk hC [oV (mQ G hx2),oF c1,oF c1,oV (uV G hx3),oF c1,oF c1,oF c2,oF c2,oN rI p,oF c2,oF c2,oN aC nest,oF c2,oF c2] (fr 9 15) [(23,vB (!decide ((p.length:Int)=(nest.length:Int))))] [] [] (lE h)
   ·exact rk hC ([oV (mQ G hx2),oF c1,oF c1,oV (uV G hx3),oF c1,oF c1]++rT 6 c2) (fr 9 15) [(23,vB true)] [] [] (lE h)
  ·exact rk hC ([oV (mQ G hx2)]++rT 4 c1++sT 6) (fr 9 15) [(23,vB true)] [] [] (lE h)
 ·refine aS h (fun c3 h=> ?_) (fun c3 h=> ?_)
  ·obtain rfl:=so h
   exact rq hC [] [4] [(4,vB false)] [] [] (qr eR)
  ·refine qk (qs (rq hC [oN aC nest] [24,25,26] [(24,vM aC nest),(25,vI (nest.length:Int)),(26,vI 0)] [] [] (qb (jN h (fun x_=>aX [(1,vM rI p),(24,vM aC nest),(25,vI (nest.length:Int)),(26,vI x_)] [] []) lS ?_))))
   rintro again6 x5 h
   refine rq hC [] [27] [(27,vB (decide (x5<(nest.length:Int))))] [] [] (qs (aS h (fun c4 h=> ?_) (fun c4 h=> ?_)))
   ·refine qk (qs (qb ?_))
    obtain⟨x7,hx7,h⟩:=bd h
    refine rq hC [oR aC hx7,.z (.nat 20)] [5,6,28,29,30] [(5,vI x5),(6,V.ref 20 0)] [(20,some (E.cells (gX x7)))] [(20,true)] (qs ?_)
    obtain⟨x8,hx8,x9,hx9,h⟩:=cO h
    refine dk hC bA [oA (rU rI hx8),oQ (bW (r:=rI) 1 (fun _=>rfl) p),oV (wL G hx9)] [7,8,31,32,33,34,35,36,37,38] [(7,vI x9.1),(8,vI x9.2)] [] [] (vj h (fun x_=>aX [(1,vM rI p),(24,vM aC nest),(25,vI (nest.length:Int)),(26,vI x5),(52,vB x_)] [(20,E.cells (gX x7))] [20]) (fun j10 h=> ?_) (fun x12 h=> ?_))
    ·
     obtain⟨x11,hx11,h⟩:=bd h
     refine aQ h (fun c5 h=> ?_) (fun c5 h=> ?_)
     ·exact rk hC ([oR rI hx11]++rF 3 c5++[oR rI hx11]++rF 4 c5) (fr 39 14) [(52,vB (decide (x9.2≤x11)))] [] [] (lE h)
     ·exact rk hC ([oR rI hx11]++rT 7 c5) (fr 39 14) [(52,vB true)] [] [] (lE h)
    ·refine aS h (fun c6 h=> ?_) (fun c6 h=> ?_)
     ·obtain rfl:=so h
      exact rq hC [] [4] [(4,vB false)] [] [] (qr eR)
     ·exact qk (rk hC [] [26,53] [(26,vI (wr (x5+1)))] [] [] (lE h))
   ·obtain rfl:=so h
    exact cW (rq hC [] [4] [(4,vB true)] [] [] (qr eR))
theorem tF{p}{x}{r}(h:dY n p x=some r):PQ G 197 [V.agg (bH p),V.agg (aAw x)] (vB r):=by
 unfold dY at h
 refine pq aO Tryz.func197 rfl fun w X hC=> ?_
 refine rq hC [.z (.b (true)),.z (.b (true))] [2,3,4] [(2,V.tp (bO p)),(3,V.tp (K5 x))] [] [] (vj h (fun x_=>aX [(4,vB x_)] [] []) (fun j1 h=> ?_) (fun x6 h=> ?_))
 ·
  obtain⟨x2,hx2,h⟩:=bd h
  refine aQ h (fun c1 h=> ?_) (fun c1 h=> ?_)
  ·exact dk hC bA ([oN aD p.parts,oV (bD G hx2)]++rF 13 c1++sF 11) (fr 4 34) [(4,vB false)] [] [] (lE h)
  ·obtain⟨x3,hx3,x4,hx4,h⟩:=cO h
   refine aQ h (fun c2 h=> ?_) (fun c2 h=> ?_)
   ·exact dk hC bA ([oN aD p.parts,oV (bD G hx2)]++rT 7 c1++[oR aD hx3]++rT 3 c1++[oN aG x3.body,oT c1,oT c1,oV (bD G hx4),oT c1]++rF 11 c2) (fr 4 34) [(4,vB false)] [] [] (lE h)
   ·obtain⟨x5,hx5,h⟩:=bd h
    exact dk hC bA ([oN aD p.parts,oV (bD G hx2)]++rT 7 c1++[oR aD hx3]++rT 3 c1++[oN aG x3.body,oT c1,oT c1,oV (bD G hx4),oT c1]++rT 5 c2++[oR aD hx3]++rT 5 c2++[oV (aCU G hx5),oT c2]) (fr 4 34) [(4,vB x5)] [] [] (lE h)
 ·obtain rfl:=so h
  exact qr eR
theorem qC{p}{x}{r}(h:fE n p x=some r):VQ G 102 [] [V.agg (bH p),V.agg (aAw x)] (V.tup [ms 0 1 1 rI r.1,vI r.2.1,vB r.2.2]) [ar 3 1 1 rI r.1]:=by
 unfold fE at h
 refine vq aO Tryz.func102 rfl fun w X β0 hC hg=> ?_
 refine rq hC [.z (.b (true)),.z (.b (true))] (fr 2 5) [(2,V.tp (bO p)),(3,V.tp (K5 x))] [] [] (qs (vj h (fun x_=>aX [(2,V.tp (bO p)),(3,V.tp (K5 x)),(17,vB x_)] [] []) (fun j1 h=> ?_) (fun x4 h=> ?_)))
 ·
  obtain⟨x2,hx2,h⟩:=bd h
  refine aQ h (fun c1 h=> ?_) (fun c1 h=> ?_)
  ·obtain⟨x3,hx3,h⟩:=bd h
   exact rk hC ([oV (bI G hx2)]++rF 3 c1++[oV (tF G hx3),oF c1,oF c1]) (fr 9 9) [(17,vB (!x3))] [] [] (lE h)
  ·exact rk hC ([oV (bI G hx2)]++rT 5 c1) (fr 9 9) [(17,vB true)] [] [] (lE h)
 ·refine aS h (fun c2 h=> ?_) (fun c2 h=> ?_)
  ·obtain rfl:=so h
   exact rq hC [] [4,5,6] [(4,V.t T.nilS),(5,vI 0),(6,vB false)] [] [] (qw (lk hC [.grow 4 0 3] [4] [(4,ms 0 1 1 rI [])] [(0,some (ar 3 1 1 rI []))] [(0,true)]) (qr eW))
  ·refine qk ?_
   obtain⟨x5,hx5,h⟩:=bd h
   obtain rfl:=so h
   exact rq hC [oC [] [20] (wA G hx5)] [7,8,18,19,20,21,22,23] [(7,ms 20 1 1 rI x5.1),(8,vI x5.2)] [(20,some (ar 3 1 1 rI x5.1))] [(20,true)] (rq hC [] [4,5,6,24,25] [(4,ms 20 1 1 rI x5.1),(5,vI x5.2),(6,vB true)] [] [] (qw (lk hC [.ren 4 20 0] [4] [(4,ms 0 1 1 rI x5.1)] [(0,some (ar 3 1 1 rI x5.1)),(20,none)] [(0,true)]) (qr eW)))
theorem sW{p}{q}{r}(h:oO n p q=some r):PQ G 30 [V.agg (bH p),V.agg (bH q)] (vB r):=by
 unfold oO at h
 refine pq aO Tryz.func30 rfl fun w X hC=> ?_
 refine rq hC [.z (.b (true)),.z (.b (true))] [2,3,4] [(2,V.tp (bO p)),(3,V.tp (bO q))] [] [] ?_
 obtain⟨x1,hx1,h⟩:=bd h
 refine rq hC [oC [] [20] (iX G hx1)] [5,14,15] [(5,ms 20 1 3 bM x1)] [(20,some (ar 112 1 3 bM x1))] [(20,true)] ?_
 obtain⟨x2,hx2,h⟩:=bd h
 refine rq hC [oC [] [21] (iX G hx2)] [6,16,17] [(6,ms 21 1 3 bM x2)] [(21,some (ar 112 1 3 bM x2))] [(21,true)] (qs (rq hC [oN bM x1,oN bM x2] (fr 18 5) [(22,vB (!decide ((x1.length:Int)=(x2.length:Int))))] [] [] (aS h (fun c1 h=> ?_) (fun c1 h=> ?_))))
 ·obtain rfl:=so h
  exact rq hC [] [4] [(4,vB false)] [] [] (qr eR)
 ·refine qk (qs (rq hC [] [7] [(7,vI 0)] [] [] (qb (jN h (fun x_=>aX [(2,V.tp (bO p)),(3,V.tp (bO q)),(5,ms 20 1 3 bM x1),(6,ms 21 1 3 bM x2),(7,vI x_)] [(20,ar 112 1 3 bM x1),(21,ar 112 1 3 bM x2)] [20,21]) lS ?_))))
  rintro again4 x3 h
  refine qs (rq hC [oN bM x1] (fr 23 4) [(26,vB (decide (x3<(x1.length:Int))))] [] [] (aS h (fun c2 h=> ?_) (fun c2 h=> ?_)))
  ·refine qk (qs (qb (qs ?_)))
   obtain⟨x5,hx5,x6,hx6,h⟩:=cO h
   refine dk hC bA [oQ (mO bM hx5),oX bM hx5,oC [] [22] (qC G hx6)] [8,9,10,29,30,31,32,33,34,35,36,37,38] [(8,ms 22 1 1 rI x6.1),(9,vI x6.2.1)] [(22,some (ar 3 1 1 rI x6.1))] [(22,true)] (qs ?_)
   obtain⟨x7,hx7,x8,hx8,h⟩:=cO h
   refine dk hC bA [oQ (mO bM hx7),oX bM hx7,oC [] [23] (qC G hx8)] [11,12,13,39,40,41,42,43,44,45,46,47,48] [(11,ms 23 1 1 rI x8.1),(12,vI x8.2.1)] [(23,some (ar 3 1 1 rI x8.1))] [(23,true)] (vj h (fun x_=>aX [(2,V.tp (bO p)),(3,V.tp (bO q)),(5,ms 20 1 3 bM x1),(6,ms 21 1 3 bM x2),(7,vI x3),(57,vB x_)] [(20,ar 112 1 3 bM x1),(21,ar 112 1 3 bM x2),(22,ar 3 1 1 rI x6.1),(23,ar 3 1 1 rI x8.1)] [20,21,22,23]) (fun j9 h=> ?_) (fun x11 h=> ?_))
   ·
    refine aQ h (fun c3 h=> ?_) (fun c3 h=> ?_)
    ·obtain⟨x10,hx10,h⟩:=bd h
     exact rk hC (rF 3 c3++[.z (.b (true)),oV (S1 G hx10),oF c3,oF c3]) (fr 49 9) [(57,vB (!x10))] [] [] (lE h)
    ·exact rk hC (rT 5 c3) (fr 49 9) [(57,vB true)] [] [] (lE h)
   ·refine aS h (fun c4 h=> ?_) (fun c4 h=> ?_)
    ·obtain rfl:=so h
     exact rq hC [] [4] [(4,vB false)] [] [] (qr eR)
    ·exact qk (rk hC [] [7,27,28] [(7,vI (wr (x3+1)))] [] [] (lE h))
  ·obtain rfl:=so h
   exact cW (rq hC [] [4] [(4,vB true)] [] [] (qr eR))
theorem zB{code}{r}(h:kD n code=some r):PQ G 37 [vM rY code] (V.tup [V.agg (bH r.1),vI r.2.1,vI r.2.2.1,vI r.2.2.2]):=by
 unfold kD at h
 refine pq aO Tryz.func37 rfl fun w X hC=> ?_
 refine rq hC [.z (.nat 20)] (fr 2 4) [(2,V.ref 20 0)] [(20,sc [V.t T.nilS,V.t T.nilS])] [(20,true)] ?_
 obtain⟨x1,hx1,x2,hx2,h⟩:=cO h
 obtain rfl:=so h
 exact rq hC [oC [] [21] (aCL G hx1),oC [21] [] (aEd G hx2)] (fr 3 10) [(3,vI x2.2.1),(4,vI x2.2.2.1),(5,vI x2.2.2.2.1)] [(21,sR x2.2.2.2.2),(20,some (E.cells (bH x2.1)))] [(21,true),(21,true)] (qr eR)
theorem u5(G:GS)(n:Nat)(rows:List Loop)(i:Int)(l:Loop)(hl:ix rows i=some l)(g:Nat)(fF:FuncId)(fC0:List T)(f:Affine→Option Affine)(hf: ∀(q0:Affine) r,f q0=some r→PQ G fF [V.agg (aK q0),V.tp fC0] (V.agg (aK r))){l':Loop}{rows':List Loop}(h:jX n l f=some l')(hr:dR rows i l'=some rows'):
  VQ G 129 [E.tree gD 1 g (List.map aC rows) []] [V.eref 0 g 2 (0+Int.toNat i) 0,V.fn fF [V.tp fC0]] (V.tup []) [E.tree gD 1 g (List.map aC rows') []]:=by
 unfold jX at h
 refine vq aO Tryz.func129 rfl fun w X β0 hC hg=> ?_
 refine qs (dk hC bA [.z (.foc 0 21 (0+Int.toNat i) 0 (aC l)),.z (.foc 0 22 (0+Int.toNat i) 1 (aC l)),oX aC hl,oX aC hl,.z (.lt 23 gD 4),.z (.nat 2),oQ (rR aC hl),oQ (rR aC hl),oQ (Eq.refl 2)] (fr 8 11) [(16,V.msl 23 1 1 0 2),(17,vI 2),(18,vI 0)] [(0,some (E.tree gD 1 g (List.map aC rows) [((0+Int.toNat i),1,ms 22 1 2 aA l.hi),((0+Int.toNat i),0,ms 21 1 2 aA l.lo)])),(21,some (E.tree gD 3 1 (List.map aA l.lo) [])),(22,some (E.tree gD 3 1 (List.map aA l.hi) [])),(23,some (E.tree gD 4 1 (List.replicate 2 [T.sl []]) [(0,0,ms 21 1 2 aA l.lo),(1,0,ms 22 1 2 aA l.hi)]))] [(21,true),(22,true),(23,true)] (qw (lk hC [.shd 21,.shd 22] [] [] [(21,some (ar 79 1 2 aA l.lo)),(22,some (ar 79 1 2 aA l.hi))] []) (qb (jN h (fun x_=>aX [(1,V.fn fF [V.tp fC0]),(16,V.msl 23 1 1 0 2),(17,vI 2),(18,vI x_.2)] [(0,E.tree gD 1 g (List.map aC rows) [((0+Int.toNat i),1,ms 22 1 2 aA l.hi),((0+Int.toNat i),0,ms 21 1 2 aA l.lo)]),(23,E.tree gD 4 1 (List.replicate 2 [T.sl []]) [(0,0,ms 21 1 2 aA l.lo),(1,0,ms 22 1 2 aA l.hi)]),(21,ar 79 1 2 aA x_.1.lo),(22,ar 79 1 2 aA x_.1.hi)] [0,21,22,23]) lS ?_))))
 rintro again1 ⟨x,q⟩ h
 obtain⟨s1,hs1,h⟩:=bd h
 obtain⟨s2,hs2,h⟩:=bd h
 refine rq hC [] [19] [(19,vB (decide (q<2)))] [] [] (qs (aS h (fun c1 h=> ?_) (fun c1 h=> ?_)))
 ·refine qk (qs (qb (qs (aQ h (fun c2 h=> ?_) (fun c2 h=> ?_)))))
  ·refine aQ h (fun c3 h=> ?_) (fun c3 h=> ?_)
   ·exact nof h
   ·have e:=of_decide_eq_true c3
    subst e
    refine rk hC [.z (.int 1),.z (.row [T.sl []]),oQ (And.intro (by decide) (by decide):(0:Int)≤1∧(1:Int)<((2:Nat):Int)),oQ (Eq.refl (some [T.sl []]))] [5,20,21] [(5,ms 22 1 2 aA l.hi)] [] [] (qw (yL hC [.len 5 (List.map aA x.hi).length] [5] [(5,ms 22 1 2 aA x.hi)] [] [] (a1 (rV aA hs2)) (by kernel_rfl)) (rq hC [oN aA x.hi] [22,23,24] [(22,ms 22 1 2 aA x.hi),(23,vI (x.hi.length:Int)),(24,vI 0)] [] [] (qb (jN h (fun x_=>aX [(1,V.fn fF [V.tp fC0]),(16,V.msl 23 1 1 0 2),(17,vI 2),(18,vI 1),(5,ms 22 1 2 aA x_.1),(22,ms 22 1 2 aA x_.1),(23,vI (x.hi.length:Int)),(24,vI x_.2)] [(0,E.tree gD 1 g (List.map aC rows) [((0+Int.toNat i),1,ms 22 1 2 aA l.hi),((0+Int.toNat i),0,ms 21 1 2 aA l.lo)]),(23,E.tree gD 4 1 (List.replicate 2 [T.sl []]) [(0,0,ms 21 1 2 aA l.lo),(1,0,ms 22 1 2 aA l.hi)]),(21,ar 79 1 2 aA x.lo),(22,ar 79 1 2 aA x_.1)] [0,21,22,23]) lS ?_))))
    rintro again2 ⟨y,k⟩ h
    refine rq hC [] [25] [(25,vB (decide (k<(x.hi.length:Int))))] [] [] (qs (aS h (fun c4 h=> ?_) (fun c4 h=> ?_)))
    ·refine qk (qs (qb ?_))
     obtain⟨x3,hx3,h⟩:=bd h
     refine rq hC [oQ (mO aA hx3),oX aA hx3,.z (.nat 24)] [6,7,26,27,28] [(6,vI k),(7,V.ref 24 0)] [(24,some (E.cells (aK x3)))] [(24,true)] ?_
     obtain⟨x4,hx4,x5,hx5,h⟩:=cO h
     exact rk hC [oV (hf x3 _ hx4),oQ (mO aA hx3),oX aA hx3,.z (.rows (List.map aA x5)),.z (.len 5 (List.map aA x5).length),.z (.len 22 (List.map aA x5).length),oQ (str aA hx5),oQ (lY aA hx5),oQ (lY aA hx5)] [5,22,29,30,31,32,33,34] [(5,ms 22 1 2 aA x5),(22,ms 22 1 2 aA x5)] [(22,some (ar 79 1 2 aA x5))] [] (rk hC [] [24,35] [(24,vI (wr (k+1)))] [] [] (lE h))
    ·exact cW (rk hC [] [18,36] [(18,vI (wr (1+1)))] [] [] (lE h))
  ·have e:=of_decide_eq_true c2
   subst e
   refine rk hC [.z (.int 0),.z (.row [T.sl []]),oQ (And.intro (by decide) (by decide):(0:Int)≤0∧(0:Int)<((2:Nat):Int)),oQ (Eq.refl (some [T.sl []]))] [5,20,21] [(5,ms 21 1 2 aA l.lo)] [] [] (qw (yL hC [.len 5 (List.map aA x.lo).length] [5] [(5,ms 21 1 2 aA x.lo)] [] [] (a1 (rV aA hs1)) (by kernel_rfl)) (rq hC [oN aA x.lo] [22,23,24] [(22,ms 21 1 2 aA x.lo),(23,vI (x.lo.length:Int)),(24,vI 0)] [] [] (qb (jN h (fun x_=>aX [(1,V.fn fF [V.tp fC0]),(16,V.msl 23 1 1 0 2),(17,vI 2),(18,vI 0),(5,ms 21 1 2 aA x_.1),(22,ms 21 1 2 aA x_.1),(23,vI (x.lo.length:Int)),(24,vI x_.2)] [(0,E.tree gD 1 g (List.map aC rows) [((0+Int.toNat i),1,ms 22 1 2 aA l.hi),((0+Int.toNat i),0,ms 21 1 2 aA l.lo)]),(23,E.tree gD 4 1 (List.replicate 2 [T.sl []]) [(0,0,ms 21 1 2 aA l.lo),(1,0,ms 22 1 2 aA l.hi)]),(21,ar 79 1 2 aA x_.1),(22,ar 79 1 2 aA x.hi)] [0,21,22,23]) lS ?_))))
   rintro again2 ⟨y,k⟩ h
   refine rq hC [] [25] [(25,vB (decide (k<(x.lo.length:Int))))] [] [] (qs (aS h (fun c4 h=> ?_) (fun c4 h=> ?_)))
   ·refine qk (qs (qb ?_))
    obtain⟨x3,hx3,h⟩:=bd h
    refine rq hC [oQ (mO aA hx3),oX aA hx3,.z (.nat 24)] [6,7,26,27,28] [(6,vI k),(7,V.ref 24 0)] [(24,some (E.cells (aK x3)))] [(24,true)] ?_
    obtain⟨x4,hx4,x5,hx5,h⟩:=cO h
    exact rk hC [oV (hf x3 _ hx4),oQ (mO aA hx3),oX aA hx3,.z (.rows (List.map aA x5)),.z (.len 5 (List.map aA x5).length),.z (.len 22 (List.map aA x5).length),oQ (str aA hx5),oQ (lY aA hx5),oQ (lY aA hx5)] [5,22,29,30,31,32,33,34] [(5,ms 21 1 2 aA x5),(22,ms 21 1 2 aA x5)] [(21,some (ar 79 1 2 aA x5))] [] (rk hC [] [24,35] [(24,vI (wr (k+1)))] [] [] (lE h))
   ·exact cW (rk hC [] [18,36] [(18,vI (wr (0+1)))] [] [] (lE h))
 ·obtain rfl:=so h
  exact qw (yL hC [.tre 21 gD 3,.tre 22 gD 3,.unf 0 22 (aC l) (List.map aC (rows.set i.toNat (⟨l.lo,x.hi⟩:Loop))),.unf 0 21 (aC (⟨l.lo,x.hi⟩:Loop)) (List.map aC rows')] [] [] [(21,none),(22,none),(0,some (E.tree gD 1 g (List.map aC rows') []))] [] (a8 (rV aA hs2) (Eq.refl gD) (rR aC hl) (V5 aC (aBV hr (⟨l.lo,x.hi⟩:Loop)) rfl) (rV aA hs1) (Eq.refl gD) (rR aC (aG6 hr (⟨l.lo,x.hi⟩:Loop))) (V5 aC (aBT hr (⟨l.lo,x.hi⟩:Loop)) rfl)) (by kernel_rfl)) (cW eW)
theorem rM(G:GS)(n:Nat)(a:Access)(changeF:FuncId)(changeC0:List T)(change:Affine→Option Affine)(hchange: ∀(q0:Affine) r,change q0=some r→PQ G changeF [V.agg (aK q0),V.tp changeC0] (V.agg (aK r))){r:Access}(h:gH n a change=some r):PQ G 271 [V.agg (cF a),V.fn changeF [V.tp changeC0]] (V.agg (cF r)):=by
 unfold gH at h
 refine pq aO Tryz.func271 rfl fun w X hC=> ?_
 refine rq hC [.z (.b (true)),.z (.nat 20)] [2,4] [(2,V.tp (dQ a)),(4,V.ref 20 0)] [(20,sc [vS [],V.t T.nilS])] [(20,true)] (rq hC [.z (.nat 21)] [5,8,9,10] [(5,V.ref 21 0)] [(21,sc [vS a.array,V.t T.nilS])] [(21,true)] (qs (rq hC [oN aA a.subs] (fr 11 4) [(12,vM aA a.subs),(13,vI (a.subs.length:Int)),(14,vI 0)] [] [] (qb (qw (lk hC [.growc 21 1 22 79] [] [] [(22,some (ar 79 1 2 aA [])),(21,sc [vS a.array,ms 22 1 2 aA []])] [(22,true)]) ?_)))))
 refine bF (γ:=Nat) h (fun x_ g_=>aX [(1,V.fn changeF [V.tp changeC0]),(4,V.ref 20 0),(5,V.ref 21 0),(12,vM aA a.subs),(13,vI (a.subs.length:Int)),(14,vI x_.2)] [(20,E.cells [vS [],V.t T.nilS]),(21,E.cells [vS a.array,ms 22 g_ 2 aA x_.1]),(22,ar 79 g_ 2 aA x_.1)] [20,21,22]) 1 (lS) ?_
 rintro again4 ⟨x1,x2⟩ g3 h
 refine rq hC [] [15] [(15,vB (decide (x2<(a.subs.length:Int))))] [] [] (qs (aS h (fun c1 h=> ?_) (fun c1 h=> ?_)))
 ·refine qk (qs (qb ?_))
  obtain⟨x5,hx5,h⟩:=bd h
  refine rq hC [oR aA hx5,.z (.nat 23)] [7,16,17] [(7,V.ref 23 0)] [(23,some (E.cells (aK x5)))] [(23,true)] ?_
  obtain⟨x6,hx6,x7,hx7,h⟩:=cO h
  exact dk hC bA [oV (hchange x5 _ hx6),.z (.int 0),oA (aP aA hx7),oQ (bW (r:=aA) 2 aW x1),oQ (bW (r:=aA) 2 aW [x6])] (fr 18 8) [] [(22,some (ar 79 (g3+1) 2 aA x7)),(21,sc [vS a.array,ms 22 (g3+1) 2 aA x7])] [] (rk hC [] [14,26] [(14,vI (wr (x2+1)))] [] [] ⟨(x7,wr (x2+1)),(g3+1),h,lS⟩)
 ·obtain rfl:=so h
  exact cW (rq hC [.z (.at 2),.z (.fz 22 [] [21])] [27] [] [(21,sc [vS a.array,vM aA x1]),(22,none),(20,sc [vS a.array,vM aA x1])] [] (qr eR))
theorem T9(G:GS): ∀(n:Nat) (e:Expr) (changeF:FuncId) (changeC0:List T) (change:Affine→Option Affine) (hchange: ∀(q0:Affine) r,change q0=some r→PQ G changeF [V.agg (aK q0),V.tp changeC0] (V.agg (aK r))) {r:Expr} (h:i_exprMap n e change=some r),PQ G 272 [V.agg (cU e),V.fn changeF [V.tp changeC0]] (V.agg (cU r)):=by
 intro n
 induction n with
 |zero=>intro e changeF changeC0 change hchange r h;rw [i_exprMap.eq_def] at h;cases h
 |succ n ih=>
  intro e changeF changeC0 change hchange r h
  rw [i_exprMap.eq_def] at h;dsimp only at h
  refine pq aO Tryz.func272 rfl fun w X hC=> ?_
  refine rq hC [.z (.b (true)),.z (.nat 20)] [2,4] [(2,V.tp (fI e)),(4,V.ref 20 0)] [(20,sc [vI 0,vI 0,V.t T.nilS,vI 0,vS [],V.t T.nilS,V.t T.nilS])] [(20,true)] (rq hC [.z (.nat 21)] [5,8,9,10,11,12] [(5,V.ref 21 0)] [(21,sc [vI e.kind,vI e.num,V.t T.nilS,vI 0,vS [],V.t T.nilS,V.t T.nilS])] [(21,true)] (vj h (fun x_=>aX [(1,V.fn changeF [V.tp changeC0]),(2,V.tp (fI e)),(4,V.ref 20 0),(5,V.ref 21 0)] [(20,E.cells [vI 0,vI 0,V.t T.nilS,vI 0,vS [],V.t T.nilS,V.t T.nilS]),(21,E.cells [vI e.kind,vI e.num,vM rI x_.1,vI x_.2.1,vS x_.2.2.1,vM aA x_.2.2.2,V.t T.nilS])] [20,21]) (fun j1 h=> ?_) ?_))
  ·
   refine rq hC [] [13,14] [(14,vI e.kind)] [] [] (qb (rq hC [] [15,16] [(15,vB (decide (e.kind=2)))] [] [] (aS h (fun c1 h=> ?_) (fun c1 h=> ?_))))
   ·obtain⟨x2,hx2,h⟩:=bd h
    exact rk hC [oV (hchange e.index _ hx2)] (fr 17 5) [] [(21,sc [vI e.kind,vI e.num,vM rI x2.coefs,vI x2.const,vS [],V.t T.nilS,V.t T.nilS])] [] (lE h)
   ·refine rq hC [] [22,23] [(22,vB (decide (e.kind=3)))] [] [] (aS h (fun c2 h=> ?_) (fun c2 h=> ?_))
    ·obtain⟨x3,hx3,h⟩:=bd h
     exact rk hC [oV (rM G n e.read changeF changeC0 change hchange hx3)] (fr 24 5) [] [(21,sc [vI e.kind,vI e.num,V.t T.nilS,vI 0,vS x3.array,vM aA x3.subs,V.t T.nilS])] [] (lE h)
    ·exact qk (lE h)
  ·rintro⟨x4,x5,x6,x7⟩ h
   refine qs (rq hC [oN aI e.kids] (fr 29 4) [(30,vM aI e.kids),(31,vI (e.kids.length:Int)),(32,vI 0)] [] [] (qb (qw (lk hC [.growc 21 6 22 82] [] [] [(22,some (ar 82 1 7 aI [])),(21,sc [vI e.kind,vI e.num,vM rI x4,vI x5,vS x6,vM aA x7,ms 22 1 7 aI []])] [(22,true)]) (bF (γ:=Nat) h (fun x_ g_=>aX [(1,V.fn changeF [V.tp changeC0]),(4,V.ref 20 0),(5,V.ref 21 0),(30,vM aI e.kids),(31,vI (e.kids.length:Int)),(32,vI x_.2)] [(20,E.cells [vI 0,vI 0,V.t T.nilS,vI 0,vS [],V.t T.nilS,V.t T.nilS]),(21,E.cells [vI e.kind,vI e.num,vM rI x4,vI x5,vS x6,vM aA x7,ms 22 g_ 7 aI x_.1]),(22,ar 82 g_ 7 aI x_.1)] [20,21,22]) 1 (lS) ?_))))
   rintro again11 ⟨x8,x9⟩ g10 h
   refine rq hC [] [33] [(33,vB (decide (x9<(e.kids.length:Int))))] [] [] (qs (aS h (fun c3 h=> ?_) (fun c3 h=> ?_)))
   ·refine qk (qs (qb ?_))
    obtain⟨x12,hx12,h⟩:=bd h
    refine rq hC [.z (.row (eC x12)),.z (.nat 23),oQ (eZ aI hx12 (cQ x12))] [7,34,35] [(7,V.ref 23 0)] [(23,some (E.cells (cU x12)))] [(23,true)] ?_
    obtain⟨x13,hx13,x14,hx14,h⟩:=cO h
    exact dk hC bA [oV (ih x12 changeF changeC0 change hchange hx13),.z (.int 2),.z (.rows (List.map aI [x13])),oQ (sV x13),oA (aP aI hx14),oQ (bW (r:=aI) 7 d7 x8),oQ (bW (r:=aI) 7 d7 [x13])] (fr 36 8) [] [(22,some (ar 82 (g10+1) 7 aI x14)),(21,sc [vI e.kind,vI e.num,vM rI x4,vI x5,vS x6,vM aA x7,ms 22 (g10+1) 7 aI x14])] [] (rk hC [] [32,44] [(32,vI (wr (x9+1)))] [] [] ⟨(x14,wr (x9+1)),(g10+1),h,lS⟩)
   ·obtain rfl:=so h
    exact cW (rq hC [.z (.at 2),.z (.fz 22 [] [21])] [45] [] [(21,sc [vI e.kind,vI e.num,vM rI x4,vI x5,vS x6,vM aA x7,vM aI x8]),(22,none),(20,sc [vI e.kind,vI e.num,vM rI x4,vI x5,vS x6,vM aA x7,vM aI x8])] [] (qr eR))
theorem T8(G:GS)(n:Nat)(s:Stmt)(changeF:FuncId)(changeC0:List T)(change:Affine→Option Affine)(hchange: ∀(q0:Affine) r,change q0=some r→PQ G changeF [V.agg (aK q0),V.tp changeC0] (V.agg (aK r))){r:Stmt}(h:iB n s change=some r):PQ G 203 [V.agg (cS s),V.fn changeF [V.tp changeC0]] (V.agg (cS r)):=by
 unfold iB at h
 refine pq aO Tryz.func203 rfl fun w X hC=> ?_
 refine rq hC [.z (.b (true)),.z (.nat 20)] [2,4] [(2,V.tp (oW s)),(4,V.ref 20 0)] [(20,sc [vS [],V.t T.nilS,vI 0,vI 0,V.t T.nilS,vI 0,vS [],V.t T.nilS,V.t T.nilS])] [(20,true)] (qs ?_)
 obtain⟨x1,hx1,x2,hx2,h⟩:=cO h
 obtain rfl:=so h
 exact dk hC bA [oV (rM G n s.write changeF changeC0 change hchange hx1),oV (T9 G n s.value changeF changeC0 change hchange hx2)] (fr 5 9) [] [(20,sc [vS x1.array,vM aA x1.subs,vI x2.kind,vI x2.num,vM rI x2.index.coefs,vI x2.index.const,vS x2.read.array,vM aA x2.read.subs,vM aI x2.kids])] [] (qr eR)
theorem u4(G:GS)(n:Nat)(rows:List Part)(i:Int)(p:Part)(hp:ix rows i=some p)(g:Nat)(from_:Int)(fF:FuncId)(fC0:List T)(f:Affine→Option Affine)(hf: ∀(q0:Affine) r,f q0=some r→PQ G fF [V.agg (aK q0),V.tp fC0] (V.agg (aK r))){p':Part}{rows':List Part}(h:jV n p from_ f=some p')(hr:dR rows i p'=some rows'):
  VQ G 111 [E.tree gD 0 g (List.map aD rows) []] [V.eref 0 g 2 (0+Int.toNat i) 0,vI from_,V.fn fF [V.tp fC0]] (V.tup []) [E.tree gD 0 g (List.map aD rows') []]:=by
 unfold jV at h
 refine vq aO Tryz.func111 rfl fun w X β0 hC hg=> ?_
 refine qs (rq hC [] [6,9] [(6,vI from_)] [] [] (qw (yL hC [.foc 0 21 (0+Int.toNat i) 0 (aD p),.foc 0 22 (0+Int.toNat i) 1 (aD p),.shd 22] [] [] [(0,some (E.tree gD 0 g (List.map aD rows) [((0+Int.toNat i),1,ms 22 1 9 aG p.body),((0+Int.toNat i),0,ms 21 1 2 aC p.nest)])),(21,some (E.tree gD 1 1 (List.map aC p.nest) [])),(22,some (ar 84 1 9 aG p.body))] [(21,true),(22,true)] (a2 (rR aD hp) (rR aD hp)) (by kernel_rfl)) (qb (jN h (fun x_=>aX [(0,V.eref 0 g 2 (0+Int.toNat i) 0),(2,V.fn fF [V.tp fC0]),(6,vI x_.2)] [(0,E.tree gD 0 g (List.map aD rows) [((0+Int.toNat i),1,ms 22 1 9 aG p.body),((0+Int.toNat i),0,ms 21 1 2 aC p.nest)]),(21,E.tree gD 1 1 (List.map aC x_.1) []),(22,ar 84 1 9 aG p.body)] [0,21,22]) lS ?_))))
 rintro again1 ⟨x,k⟩ h
 obtain⟨s1,hs1,h⟩:=bd h
 refine qs (rq hC [oX aD hp,.z (.nat x.length),oQ (aL1 aC hs1)] (fr 10 7) [(16,vB (decide (k<(x.length:Int))))] [] [] (aS h (fun c1 h=> ?_) (fun c1 h=> ?_)))
 ·refine qk (qs (qb ?_))
  obtain⟨x2,hx2,x3,hx3,x4,hx4,h⟩:=kX h
  exact rk hC [oX aD hp,oQ (aLA aC hs1 hx2),oC [21] [] (u5 G n x k x2 hx2 1 fF fC0 f hf hx3 hx4)] (fr 19 8) [] [(21,some (E.tree gD 1 1 (List.map aC x4) []))] [(21,true)] (rk hC [] [6,17,18] [(6,vI (wr (k+1)))] [] [] (lE h))
 ·refine cW (rq hC [oX aD hp,oN aG p.body] (fr 27 6) [(30,ms 22 1 9 aG p.body),(31,vI (p.body.length:Int)),(32,vI 0)] [] [] (qb (jN h (fun x_=>aX [(0,V.eref 0 g 2 (0+Int.toNat i) 0),(2,V.fn fF [V.tp fC0]),(30,ms 22 1 9 aG x_.1),(31,vI (p.body.length:Int)),(32,vI x_.2)] [(0,E.tree gD 0 g (List.map aD rows) [((0+Int.toNat i),1,ms 22 1 9 aG p.body),((0+Int.toNat i),0,ms 21 1 2 aC p.nest)]),(21,E.tree gD 1 1 (List.map aC x) []),(22,ar 84 1 9 aG x_.1)] [0,21,22]) lS ?_)))
  rintro again2 ⟨y,j⟩ h
  obtain⟨s2,hs2,h⟩:=bd h
  refine rq hC [] [33] [(33,vB (decide (j<(p.body.length:Int))))] [] [] (qs (aS h (fun c2 h=> ?_) (fun c2 h=> ?_)))
  ·refine qk (qs (qb ?_))
   obtain⟨x6,hx6,h⟩:=bd h
   refine rq hC [oQ (mO aG hx6),oX aG hx6,.z (.nat 24)] [7,8,34,35,36] [(7,vI j),(8,V.ref 24 0)] [(24,some (E.cells (cS x6)))] [(24,true)] ?_
   obtain⟨x7,hx7,x8,hx8,h⟩:=cO h
   exact dk hC bA [oX aD hp,oV (T8 G n x6 fF fC0 f hf hx7),oQ (aLA aG hs2 hx6),oX aG hx6,.z (.rows (List.map aG x8)),oQ (str aG hx8)] (fr 37 9) [] [(22,some (ar 84 1 9 aG x8))] [] (qw (yL hC [.len 30 (List.map aG x8).length] [30] [(30,ms 22 1 9 aG x8)] [] [] (a1 (lY aG hx8)) (by kernel_rfl)) (rk hC [] [32,46] [(32,vI (wr (j+1)))] [] [] (lE h)))
  ·obtain rfl:=so h
   exact qw (yL hC [.tre 22 gD 2,.unf 0 22 (aD p) (List.map aD (rows.set i.toNat (⟨p.nest,y⟩:Part))),.unf 0 21 (aD (⟨p.nest,y⟩:Part)) (List.map aD rows')] [] [] [(22,none),(21,none),(0,some (E.tree gD 0 g (List.map aD rows') []))] [] (a8 (rV aG hs2) (Eq.refl gD) (rR aD hp) (V5 aD (aBV hr (⟨p.nest,y⟩:Part)) rfl) (rV aC hs1) (Eq.refl gD) (rR aD (aG6 hr (⟨p.nest,y⟩:Part))) (V5 aD (aBT hr (⟨p.nest,y⟩:Part)) rfl)) (by kernel_rfl)) (cW eW)
theorem aJq{α:Type}(f:α→List T){l x:List α}{o m:Nat}(ho:o<l.length)(hm:m=l.length-o):o+m≤(l.map f).length∧(aCv l o x).map f=(l.map f).take o++(x.map f).take (Nat.min (x.map f).length m)++(l.map f).drop (o+Nat.min (x.map f).length m):=by
 subst hm
 refine⟨by rw [List.length_map];omega,?_⟩
 unfold aCv
 rw [List.map_append,List.map_append,List.map_take,List.map_take,List.map_drop,List.length_map]
theorem aCu{α:Type}(f:α→List T){l x:List α}{o:Nat}(ho:o<l.length):(l.map f).length=((aCv l o x).map f).length:=by
 unfold aCv
 simp only [List.length_map,List.length_append,List.length_take,List.length_drop]
 have:Nat.min x.length (l.length-o)=min x.length (l.length-o):=rfl
 omega
theorem H4(G:GS)(n:Nat)(a:Affine)(loop:Int){r:Affine}(h:fU n a loop=some r):PQ G 112 [V.agg (aK a),V.tp [T.int .i64 loop]] (V.agg (aK r)):=by
 unfold fU at h
 refine pq aO Tryz.func112 rfl fun w X hC=> ?_
 refine rq hC [.z (.b (true)),.z (.nat 20)] [2,3] [(2,V.tp (aT a)),(3,V.ref 20 0)] [(20,sc [V.t T.nilS,vI 0])] [(20,true)] ?_
 obtain⟨x1,hx1,h⟩:=bd h
 refine rq hC [oC [] [21] (H3 G hx1),.z (.nat 22)] [4,5,6] [(4,V.ref 22 0)] [(21,some (ar 3 1 1 rI x1.coefs)),(22,sc [ms 21 1 1 rI x1.coefs,vI x1.const])] [(21,true),(22,true)] (vF (decide ((0:Int)≤wr (loop+1))) (fun c1=> ?_) (fun c1=> ?_))
 ·have h:=bf c1 h
  exact nof h
 have h:=bt c1 h
 refine vF (decide (wr (loop+1)<(x1.coefs.length:Int))) (fun c2=> ?_) (fun c2=> ?_)
 ·have h:=bf c2 h
  exact nof h
 have h:=bt c2 h
 have g0:=of_decide_eq_true c1
 have g1:=of_decide_eq_true c2
 obtain⟨x2,hx2,x4,hx4,x3,hx3,h⟩:=kX h
 obtain rfl:=so h
 exact qs (dk hC bA [.z (.nat (wr (loop+1)).toNat),.z (.nat (x1.coefs.length-(wr (loop+1)).toNat)),oQ (aGo rI x1.coefs g0 g1),oA (K9 rI hx2),.z (.rows (List.map rI (aCv x1.coefs (wr (loop+1)).toNat x2))),.z (.nat (Nat.min (List.map rI x2).length (x1.coefs.length-(wr (loop+1)).toNat))),oQ (bW (r:=rI) 1 (fun _=>rfl) a.coefs),oQ (bW (r:=rI) 1 (fun _=>rfl) x2),oQ (aJq rI (l:=x1.coefs) (x:=x2) (o:=(wr (loop+1)).toNat) (m:=x1.coefs.length-(wr (loop+1)).toNat) (by omega) rfl)] (fr 7 10) [] [(21,some (ar 3 1 1 rI (aCv x1.coefs (wr (loop+1)).toNat x2)))] [] (rq hC [oQ (aL2 rI hx4 (aCu rI (l:=x1.coefs) (x:=x2) (o:=(wr (loop+1)).toNat) (by omega))),oX rI hx4,.z (.rows (List.map rI x3)),.z (.lenc 22 0 (List.map rI x3).length),oQ (str rI hx3),oQ ((aCu rI (l:=x1.coefs) (x:=x2) (o:=(wr (loop+1)).toNat) (by omega)).trans (lY rI hx3))] (fr 17 4) [] [(21,some (ar 3 1 1 rI x3)),(22,sc [ms 21 1 1 rI x3,vI x1.const])] [] (qw (lk hC [.fz 21 [] [22]] [] [] [(21,none),(22,sc [vM rI x3,vI x1.const])] []) (rq hC [] [21] [] [(20,sc [vM rI x3,vI x1.const])] [] (qr eR)))))
theorem lU{n_a0}{r}(h:iU n n_a0=some r):VQ G 115 [] [vI n_a0] (V.agg [ms 0 1 1 rI r.coefs,vI r.const]) [ar 3 1 1 rI r.coefs]:=by
 unfold iU at h
 refine vq aO Tryz.func115 rfl fun w X β0 hC hg=> ?_
 refine rq hC [.z (.nat 20)] [2] [(2,V.ref 20 0)] [(20,sc [V.t T.nilS,vI 0])] [(20,true)] ?_
 obtain⟨x1,hx1,h⟩:=bd h
 obtain rfl:=so h
 exact rq hC [.z (.nat 21),oA (aGX rI hx1),oQ (I4 hx1).1] [3,4,5] [] [(21,some (ar 3 1 1 rI x1)),(20,sc [ms 21 1 1 rI x1,vI n_a0])] [(21,true)] (qw (lk hC [.rn 21 0 [] [20]] [] [] [(20,sc [ms 0 1 1 rI x1,vI n_a0]),(21,none),(0,some (ar 3 1 1 rI x1))] [(0,true)]) (qr eW))
theorem zD{v}{k}{r}(h:pE n v k=some r):VQ G 114 [] [vI v,vI k] (V.agg [ms 0 1 1 rI r.coefs,vI r.const]) [ar 3 1 1 rI r.coefs]:=by
 unfold pE at h
 refine vq aO Tryz.func114 rfl fun w X β0 hC hg=> ?_
 refine rq hC [.z (.nat 20)] [4] [(4,V.ref 20 0)] [(20,sc [V.t T.nilS,vI 0])] [(20,true)] ?_
 obtain⟨x1,hx1,h⟩:=bd h
 refine rq hC [oC [] [21] (lU G hx1),.z (.nat 22)] [5,6] [(5,V.ref 22 0)] [(21,some (ar 3 1 1 rI x1.coefs)),(22,sc [ms 21 1 1 rI x1.coefs,vI x1.const])] [(21,true),(22,true)] ?_
 obtain⟨x2,hx2,x3,hx3,h⟩:=cO h
 obtain rfl:=so h
 exact rq hC [oQ (mO rI hx2),oX rI hx2,.z (.rows (List.map rI x3)),.z (.lenc 22 0 (List.map rI x3).length),oQ (str rI hx3),oQ (lY rI hx3)] (fr 7 5) [] [(21,some (ar 3 1 1 rI x3)),(22,sc [ms 21 1 1 rI x3,vI x1.const])] [] (rq hC [] [12] [] [(20,sc [ms 21 1 1 rI x3,vI x1.const])] [] (qw (lk hC [.rn 21 0 [] [20,22]] [] [] [(20,sc [ms 0 1 1 rI x3,vI x1.const]),(22,sc [ms 0 1 1 rI x3,vI x1.const]),(21,none),(0,some (ar 3 1 1 rI x3))] [(0,true)]) (qr eW)))
open Go.RowKit Go.Lib in
set_option maxHeartbeats 4000000 in
set_option maxRecDepth 100000 in
theorem W3(b n c i vb m vc:Nat)(cs vs:List Value)(w:World)(hi:i<n)(hm:0<m)(hroom:n+m≤c)(hc63:c≤9223372036854775807)(hvb:vb≠b)
  (hcl:cs.length=n*2) (hvl:vs.length=m*2)
  (hcs: ∀j v,cs[j]? =some v→w.cell? ⟨b,j,none⟩=some v) (hsp: ∀j,j<(n+m)*2→(w.cell? ⟨b,j,none⟩).isSome=true) (hfz: ∀j,w.frozen? ⟨b,j,none⟩=false)
  (hvs: ∀j v,vs[j]? =some v→w.cell? ⟨vb,j,none⟩=some v) (h1c: ∀v∈cs,v.oneCell'=true) (h1v: ∀v∈vs,v.oneCell'=true)
  (tA tB:TypeId) (kA kB:Nat) (hsa:w.shape? vb=some (tA,kA)) (hsb:w.shape? b=some (tB,kB)) (hkB:kB≠0) (hfa: ∀j,w.frozen? ⟨vb,j,none⟩=false):
  Calls Tryz.prog 116 #[.slice (some ⟨b,0,none⟩) n c,.int .i64 i,.slice (some ⟨vb,0,none⟩) m vc] w fun e w'=>
   e= .returned (.slice (some ⟨b,0,none⟩) (n+m) c)∧w'=(w.drew.setCells b ((i+m)*2) (cs.drop (i*2))).setCells b (i*2) vs:=by
 have hz1: ¬((m:Int)=0):=by omega
 have hz2: ¬((i:Int)=(n:Int)):=by omega
 have hw1:IntKind.i64.wrap ((i:Int)+(m:Int))=(i:Int)+(m:Int):=by rw [IntKind.wrap_i64];omega
 have hb1:(0:Int)≤(i:Int)+(m:Int):=by omega
 have hin:i≤n:=by omega
 have htn:((i:Int)+(m:Int)).toNat=i+m:=by omega
 have hb2: ¬(c=i+m):=by omega
 have hb3:(i:Int)≤(n:Int)+(m:Int):=by omega
 have hb4: ¬(c=i):=by omega
 have hov: ∀lb cb,(callFunc 204 #[.slice (some ⟨vb,0,none⟩) m vc,.slice (some ⟨b,(i+m)*2,none⟩) lb cb]).run Tryz.prog w= .ok (.value (.bool false)) w:=fun lb cb=>by
  rw [run_callFunc_extern Tryz.func204 (by kernel_rfl) (by kernel_rfl) (by kernel_rfl) (e:=Extern.SlicesOverlaps.overlaps #[43,43] #[4]) (by kernel_rfl),
   Lib.run_overlaps_apart w 43 4 123 Tryz.underlying43 2 Tryz.sizeOf123 ⟨vb,0,none⟩ ⟨b,(i+m)*2,none⟩ m vc lb cb hvb tA tB kA kB hsa hsb hkB (hfa 0) (hfa kA)]
  rfl
 have hdl:(cs.drop (i*2)).length=(n-i)*2:=by rw [List.length_drop,hcl];omega
 have hsz:(Tryz.prog.info? 123).map (·.size)=some 2:=by kernel_rfl
 have hcp1: ∀ty dc sc,(Builtin.copy_ #[43,43] ty #[.slice (some ⟨b,(i+m)*2,none⟩) (n+m-(i+m)) dc,.slice (some ⟨b,i*2,none⟩) (n+m-i) sc]).run Tryz.prog w.drew= .ok (goInt ((n-i:Nat):Int)) (w.drew.setCells b ((i+m)*2) (cs.drop (i*2))):=fun ty dc sc=>
  vK w.drew 43 43 ty 123 2 b ((i+m)*2) (n+m-(i+m)) dc ⟨b,i*2,none⟩ (n+m-i) sc (n-i) (cs.drop (i*2)) Tryz.underlying43 hsz (by simp only [Nat.min_def];split<;>omega) hdl
   (fun j v hj=>by rw [Addr.add_lit];exact hcs (i*2+j) v (by rwa [List.getElem?_drop] at hj))
   (fun j hj=>hsp _ (by omega)) (fun j hj=>hfz _) (fun v hv=>h1c v (List.mem_of_mem_drop hv))
 obtain⟨W1,hW1⟩: ∃W1,W1=w.drew.setCells b ((i+m)*2) (cs.drop (i*2)):=⟨_,rfl⟩
 have hsp1: ∀k,k<(n+m)*2→(W1.cell? ⟨b,k,none⟩).isSome=true:=fun k hk=>by
  rw [hW1]
  exact q6 b (cs.drop (i*2)) ((i+m)*2) w.drew (fun j hj=>hsp _ (by rw [hdl] at hj;omega)) k (hsp k hk)
 have hcp2: ∀(W:World),(∀x,W.cell? x=W1.cell? x)→(∀x,W.frozen? x=W1.frozen? x)→ ∀ty dc,(Builtin.copy_ #[43,43] ty #[.slice (some ⟨b,i*2,none⟩) (n+m-i) dc,.slice (some ⟨vb,0,none⟩) m vc]).run Tryz.prog W= .ok (goInt m) (W.setCells b (i*2) vs):=fun W hWc hWf ty dc=>
  vK W 43 43 ty 123 2 b (i*2) (n+m-i) dc ⟨vb,0,none⟩ m vc m vs Tryz.underlying43 hsz (by simp only [Nat.min_def];split<;>omega) hvl
   (fun j v hj=>by
    rw [Addr.add_lit,Nat.zero_add,hWc,hW1,World.cell?_setCells_out b _ _ _ _ (fun h _=>absurd h hvb)]
    exact hvs j v hj)
   (fun j hj=>by rw [hWc];exact hsp1 _ (by omega)) (fun j hj=>by rw [hWf,hW1,World.frozen?_setCells];exact hfz _) h1v
 rw [←hW1] at hcp1
 go_enter Tryz.func116,Tryz.ntmps116
 go_wp2_with (simp only [hov])
 go_region_law (refine tS rfl _ _ 43 43 rfl _ _ (by simp [Act.eval,Act.put]) (by simp [Act.eval,Act.put]) (hcp1 _ _ _) ?_)
 go_wp2_with (at_builtin;refine l5 _ rfl _ _ 43 43 rfl _ _ rfl rfl (hcp2 _ (fun _=>rfl) (fun _=>rfl) _ _) ?_)
 go_ret
 first|exact⟨rfl,rfl⟩|exact⟨rfl,by rw [hW1]⟩
open Go.RowKit Go.Lib in
set_option maxHeartbeats 4000000 in
set_option maxRecDepth 100000 in
theorem W5(b n c i vb m vc:Nat)(cs vs:List Value)(w:World)(hi:i<n)(hm:0<m)(hnc:n≤c)(hroom:c<n+m)(i0:TypeInfo)(z:Value)(hi0:Tryz.prog.info? 123=some i0)(hz0:i0.zero=some z)(hzs:i0.size=2)(hzc:z.cells.size=2)(hle:n+m≤1000000000)(hbig:(n+m)*i0.bytes≤140737488355328)
  (hcl:cs.length=n*2) (hvl:vs.length=m*2)
  (hcs: ∀j v,cs[j]? =some v→w.cell? ⟨b,j,none⟩=some v)
  (hvs: ∀j v,vs[j]? =some v→w.cell? ⟨vb,j,none⟩=some v) (h1c: ∀v∈cs,v.oneCell'=true) (h1v: ∀v∈vs,v.oneCell'=true):
  Calls Tryz.prog 116 #[.slice (some ⟨b,0,none⟩) n c,.int .i64 i,.slice (some ⟨vb,0,none⟩) m vc] w fun e w'=>
   e= .returned (.slice (some ⟨w.heap.size,0,none⟩) (n+m) (grownCap w (n+m) c 123))∧
   w'=(((w.alloc (.cells ((cs.take (i*2)).toArray++Builtin.zeroCells z.cells (n+m-i)++Builtin.zeroCells z.cells (grownCap w (n+m) c 123-(n+m))) 123)).drew.setCells w.heap.size (i*2) vs).drew).setCells w.heap.size ((i+m)*2) (cs.drop (i*2)):=by
 have hz1: ¬((m:Int)=0):=by omega
 have hz2: ¬((i:Int)=(n:Int)):=by omega
 have hz3:(c:Int)<(n:Int)+(m:Int):=by omega
 have hsz:(Tryz.prog.info? 123).map (·.size)=some 2:=by rw [hi0];simp [hzs]
 have hbw:b<w.heap.size:=block_lt_of_cell (hcs 0 _ (List.getElem?_eq_getElem (by omega)))
 have hvw:vb<w.heap.size:=block_lt_of_cell (hvs 0 _ (List.getElem?_eq_getElem (by omega)))
 have hkk:(n:Int)+(m:Int)-(i:Int)=((n+m-i:Nat):Int):=by omega
 have hik:i+(n+m-i)=n+m:=by omega
 have hold:(Builtin.firstCells i0.size i (.slice (some ⟨b,0,none⟩) i c)).run Tryz.prog w.drew= .ok (cs.take (i*2)).toArray w.drew:=by
  rw [hzs]
  exact run_firstCells_some w.drew 2 i ⟨b,0,none⟩ i c (cs.take (i*2)) (by rw [List.length_take];omega) (fun j v hj=>by
   rw [Addr.add_lit,Nat.zero_add]
   rw [List.getElem?_take] at hj
   split at hj
   ·exact hcs j v hj
   ·cases hj)
 have hrz: ∀ty,(Builtin.append_ #[43,3] ty #[.slice (some ⟨b,0,none⟩) i c,.int .i64 ((n:Int)+(m:Int)-(i:Int))]).run Tryz.prog w=
   .ok (.slice (some ⟨w.heap.size,0,none⟩) (n+m) (grownCap w (n+m) c 123)) (w.drew.alloc (.cells ((cs.take (i*2)).toArray++Builtin.zeroCells z.cells (n+m-i)++Builtin.zeroCells z.cells (grownCap w (n+m) c 123-(n+m))) 123)):=fun ty=>by
  have h:=Lib.run_append_grow_zeros w 43 3 ty 123 i0 z .i64 .i64 Tryz.underlying43 Tryz.underlying3 hi0 hz0 (some ⟨b,0,none⟩) i c (cs.take (i*2)) hold (n+m-i) (by omega) (by omega) (by omega) (by omega) (by
   have:=Nat.mul_le_mul_right i0.bytes (show n+m-i≤n+m by omega)
   omega) (by rw [hik];exact growslice_fits hroom hbig)
  rw [hik] at h
  rw [hkk]
  exact h
 obtain⟨G,hG⟩: ∃G,G=grownCap w (n+m) c 123:=⟨_,rfl⟩
 obtain⟨ROW,hROW⟩: ∃ROW:Array Value,ROW=(cs.take (i*2)).toArray++Builtin.zeroCells z.cells (n+m-i)++Builtin.zeroCells z.cells (G-(n+m)):=⟨_,rfl⟩
 rw [←hG] at hrz⊢
 rw [←hROW] at hrz⊢
 have hRl:(n+m)*2≤ROW.size:=by
  rw [hROW]
  simp [Builtin.zeroCells,hzc]
  omega
 obtain⟨W1,hW1⟩: ∃W1,W1=w.drew.alloc (.cells ROW 123):=⟨_,rfl⟩
 rw [←hW1] at hrz
 have hN: ∀j,j<(n+m)*2→(W1.cell? ⟨w.heap.size,j,none⟩).isSome=true:=fun j hj=>by
  rw [hW1,World.cell?_alloc_at (w:=w.drew) ROW _ w.heap.size j rfl,Array.getElem?_eq_getElem (by omega)];rfl
 have hNf: ∀j,W1.frozen? ⟨w.heap.size,j,none⟩=false:=fun j=>by rw [hW1];exact World.frozen?_alloc_at (w:=w.drew) ROW _ w.heap.size j rfl
 have hOb: ∀j v,w.cell? ⟨b,j,none⟩=some v→W1.cell? ⟨b,j,none⟩=some v:=fun j v h=>by rw [hW1,World.cell?_alloc_past (w:=w.drew) _ b j hbw];exact h
 have hOv: ∀j v,w.cell? ⟨vb,j,none⟩=some v→W1.cell? ⟨vb,j,none⟩=some v:=fun j v h=>by rw [hW1,World.cell?_alloc_past (w:=w.drew) _ vb j hvw];exact h
 have hcpA: ∀(W:World),(∀x,W.cell? x=W1.cell? x)→(∀x,W.frozen? x=W1.frozen? x)→ ∀ty dc,(Builtin.copy_ #[43,43] ty #[.slice (some ⟨w.heap.size,i*2,none⟩) (n+m-i) dc,.slice (some ⟨vb,0,none⟩) m vc]).run Tryz.prog W= .ok (goInt m) (W.setCells w.heap.size (i*2) vs):=fun W hWc hWf ty dc=>
  vK W 43 43 ty 123 2 w.heap.size (i*2) (n+m-i) dc ⟨vb,0,none⟩ m vc m vs Tryz.underlying43 hsz (by simp only [Nat.min_def];split<;>omega) hvl
   (fun j v hj=>by rw [Addr.add_lit,Nat.zero_add,hWc];exact hOv _ v (hvs j v hj))
   (fun j hj=>by rw [hWc];exact hN _ (by omega)) (fun j hj=>by rw [hWf];exact hNf _) h1v
 have hGn:n+m≤G:=by rw [hG];exact grownCap_ge w _ _ _
 have hG63:G≤9223372036854775807:=by
  have:=grownCap_le_maxLen w (n+m) c 123 (by unfold maxLen;omega)
  rw [←hG] at this
  unfold maxLen at this
  omega
 have hGi: ¬(G=i):=by omega
 have hGim: ¬(G=i+m):=by omega
 have hci: ¬(c=i):=by omega
 have hbN:b≠w.heap.size:=by omega
 have hdl:(cs.drop (i*2)).length=(n-i)*2:=by rw [List.length_drop,hcl];omega
 have hcpB: ∀(W:World),(∀x,W.cell? x=(W1.setCells w.heap.size (i*2) vs).cell? x)→(∀x,W.frozen? x=(W1.setCells w.heap.size (i*2) vs).frozen? x)→ ∀ty dc sc,(Builtin.copy_ #[43,43] ty #[.slice (some ⟨w.heap.size,(i+m)*2,none⟩) (n+m-(i+m)) dc,.slice (some ⟨b,i*2,none⟩) (n-i) sc]).run Tryz.prog W= .ok (goInt ((n-i:Nat):Int)) (W.setCells w.heap.size ((i+m)*2) (cs.drop (i*2))):=fun W hWc hWf ty dc sc=>
  vK W 43 43 ty 123 2 w.heap.size ((i+m)*2) (n+m-(i+m)) dc ⟨b,i*2,none⟩ (n-i) sc (n-i) (cs.drop (i*2)) Tryz.underlying43 hsz (by simp only [Nat.min_def];split<;>omega) hdl
   (fun j v hj=>by
    rw [Addr.add_lit,hWc,World.cell?_setCells_out _ _ _ _ _ (fun h _=>absurd h hbN)]
    exact hOb _ v (hcs (i*2+j) v (by rwa [List.getElem?_drop] at hj)))
   (fun j hj=>by rw [hWc];exact q6 w.heap.size vs (i*2) W1 (fun t ht=>hN _ (by rw [hvl] at ht;omega)) _ (hN _ (by rw [hdl] at hj;omega)))
   (fun j hj=>by rw [hWf,World.frozen?_setCells];exact hNf _) (fun v hv=>h1c v (List.mem_of_mem_drop hv))
 subst hW1
 have hE1: ∀x,((w.alloc (.cells ROW 123)).drew).cell? x=(w.drew.alloc (.cells ROW 123)).cell? x:=fun x=>rfl
 have hE2: ∀x,((w.alloc (.cells ROW 123)).drew).frozen? x=(w.drew.alloc (.cells ROW 123)).frozen? x:=fun x=>rfl
 have hF1: ∀x,(((w.alloc (.cells ROW 123)).drew.setCells w.heap.size (i*2) vs).drew).cell? x=((w.drew.alloc (.cells ROW 123)).setCells w.heap.size (i*2) vs).cell? x:=fun x=>rfl
 have hF2: ∀x,(((w.alloc (.cells ROW 123)).drew.setCells w.heap.size (i*2) vs).drew).frozen? x=((w.drew.alloc (.cells ROW 123)).setCells w.heap.size (i*2) vs).frozen? x:=fun x=>rfl
 have hw1:IntKind.i64.wrap ((i:Int)+(m:Int))=(i:Int)+(m:Int):=by rw [IntKind.wrap_i64];omega
 have hb1:(0:Int)≤(i:Int)+(m:Int):=by omega
 have hin:i≤n:=by omega
 have htn:((i:Int)+(m:Int)).toNat=i+m:=by omega
 have hb3:(i:Int)≤(n:Int):=by omega
 clear hkk hik hold hROW hG hRl
 go_enter Tryz.func116,Tryz.ntmps116
 go_wp2_with (first
  |(at_builtin;refine Lib.wpList_append_run _ rfl _ _ _ _ rfl _ _ rfl rfl _ _ (hrz _) ?_)
  |(at_builtin;refine l5 _ rfl _ _ 43 43 rfl _ _ rfl rfl (hcpA _ hE1 hE2 _ _) ?_)
  |(at_builtin;refine l5 _ rfl _ _ 43 43 rfl _ _ rfl rfl (hcpB _ (fun _=>rfl) (fun _=>rfl) _ _ _) ?_))
 go_region_law (refine tS rfl _ _ 43 43 rfl (.slice (some ⟨w.heap.size,(i+m)*2,none⟩) (n+m-(i+m)) (G-(i+m))) (.slice (some ⟨b,i*2,none⟩) (n-i) (c-i)) (by simp [Act.eval,Act.put]) (by simp [Act.eval,Act.put]) (hcpB _ hF1 hF2 3 (G-(i+m)) (c-i)) ?_)
 go_wp2
 go_ret
 exact⟨rfl,rfl⟩
open Go.RowKit Go.Lib in
set_option maxHeartbeats 4000000 in
set_option maxRecDepth 100000 in
theorem W4(base vbase:Option Addr)(n c i vc:Nat)(w:World)(hi:i≤n)(hn:n≤c)(hc:c≤9223372036854775807):Calls Tryz.prog 116 #[.slice base n c,.int .i64 i,.slice vbase 0 vc] w fun e w'=>e= .returned (.slice base n c)∧w'=w:=by
 have hin:(i:Int)≤(n:Int):=by omega
 go_enter Tryz.func116,Tryz.ntmps116
 cases base with
 |none=>
  go_wp2
  go_ret
  exact⟨rfl,rfl⟩
 |some a=>
  obtain⟨ab,ao,asp⟩:=a
  by_cases hci:c=i
  ·go_wp2
   go_ret
   exact⟨rfl,rfl⟩
  ·go_wp2
   go_ret
   exact⟨rfl,rfl⟩
open Go.RowKit Go.Lib in
set_option maxHeartbeats 4000000 in
set_option maxRecDepth 100000 in
theorem W2(base vbase:Option Addr)(n c m vc:Nat)(w:World)(v':Value)(w':World)(hm:0<m)(hn:n≤c)(hc:c≤9223372036854775807)(hrun:(Builtin.append_ #[43,43] 43 #[.slice base n c,.slice vbase m vc]).run Tryz.prog w= .ok v' w'):
  Calls Tryz.prog 116 #[.slice base n c,.int .i64 n,.slice vbase m vc] w fun e w1=>e= .returned v'∧w1=w':=by
 have hz1: ¬((m:Int)=0):=by omega
 go_enter Tryz.func116,Tryz.ntmps116
 cases base with
 |none=>
  go_wp2_with (at_builtin;refine Lib.wpList_append_run _ rfl _ _ _ _ rfl _ _ rfl rfl _ _ hrun ?_)
  go_ret
  exact⟨rfl,rfl⟩
 |some a=>
  obtain⟨ab,ao,asp⟩:=a
  by_cases hci:c=n
  ·go_wp2_with (at_builtin;refine Lib.wpList_append_run _ rfl _ _ _ _ rfl _ _ rfl rfl _ _ hrun ?_)
   go_ret
   exact⟨rfl,rfl⟩
  ·go_wp2_with (at_builtin;refine Lib.wpList_append_run _ rfl _ _ _ _ rfl _ _ rfl rfl _ _ hrun ?_)
   go_ret
   exact⟨rfl,rfl⟩
theorem aCe{i0:TypeInfo}{z:Value}(hi0:Tryz.prog.info? 123=some i0)(hz0:i0.zero=some z)(hzs:i0.size=2)(hzc:z.cells.size=2):InsRaw Tryz.prog 116 43 123 2 i0 z where
 nothing:=W4
 tail:=W2
 room:=fun b n c i vb m vc cs vs w hi hm hroom hc63 hvb hcl hvl hcs hsp hfz hvs h1c h1v tA tB kA kB hsa hsb hkB hfa=>W3 b n c i vb m vc cs vs w hi hm hroom hc63 hvb hcl hvl hcs hsp hfz hvs h1c h1v tA tB kA kB hsa hsb hkB hfa
 grow:=fun b n c i vb m vc cs vs w hi hm hnc hroom hle hbig hcl hvl hcs hvs h1c h1v=>W5 b n c i vb m vc cs vs w hi hm hnc hroom i0 z hi0 hz0 hzs hzc hle hbig hcl hvl hcs hvs h1c h1v
theorem H2(G:GS)(n:Nat)(s:List Loop)(i:Int)(v:List Loop)(gs gv:Nat){r:List Loop}(h:iA n s i v=some r):
  VQ G 116 [ar 123 gs 2 aC s,ar 123 gv 2 aC v] [ms 0 gs 2 aC s,vI i,ms 1 gv 2 aC v] (ms 0 (gs+1) 2 aC r) [ar 123 (gs+1) 2 aC r,ar 123 gv 2 aC v]:=by
 unfold iA at h
 refine vF (decide ((0:Int)≤i)) (fun c1=> ?_) (fun c1=> ?_)
 ·have h:=bf c1 h
  exact nof h
 have h:=bt c1 h
 refine vF (decide (i≤(s.length:Int))) (fun c2=> ?_) (fun c2=> ?_)
 ·have h:=bf c2 h
  exact nof h
 have h:=bt c2 h
 have g0:=of_decide_eq_true c1
 have g1:=of_decide_eq_true c2
 obtain⟨k,rfl⟩: ∃k:Nat,i=(k:Int):=⟨i.toNat,by omega⟩
 simp only [Int.toNat_natCast] at h
 have hif:(Tryz.prog.info? 123).map (fun i=>(i.zero.map (fun z=>z.cells.size),i.size,Nat.ble i.bytes 140000))=some (some 2,2,true):=by kernel_rfl
 cases hq:Tryz.prog.info? 123 with
 |none=>rw [hq] at hif;cases hif
 |some i0=>
  rw [hq] at hif
  simp only [Option.map_some,Option.some.injEq,Prod.mk.injEq] at hif
  obtain⟨h1,h2,h3⟩:=hif
  cases hz:i0.zero with
  |none=>rw [hz] at h1;cases h1
  |some z=>
   rw [hz] at h1
   simp only [Option.map_some,Option.some.injEq] at h1
   refine aJh ⟨_,Tryz.func116,by kernel_rfl,by kernel_rfl⟩ (aCe hq hz h2 h1) Tryz.underlying43 hq hz h1 h2 Tryz.underlying123 (by decide) (Nat.le_of_ble_eq_true h3) aC (fun _=>rfl) s v r k gs gv (by omega) h
abbrev nd1:List Nd:=[⟨46,2,[]⟩]
theorem D0(G:GS)(n:Nat)(s0 s:List Loop)(i:Int)(v:List Loop)(gs gv:Nat){r:List Loop}(e:(s0.map aC).length=(s.map aC).length)(h:iA n s i v=some r):
  VQ G 116 [ar 123 gs 2 aC s,ar 123 gv 2 aC v] [ms 0 gs 2 aC s0,vI i,ms 1 gv 2 aC v] (ms 0 (gs+1) 2 aC r) [ar 123 (gs+1) 2 aC r,ar 123 gv 2 aC v]:=by
 have:=H2 G n s i v gs gv h
 show VCC _ _ _ _ [V.msl 0 gs 2 0 (s0.map aC).length,vI i,ms 1 gv 2 aC v] _ _
 rw [e]
 exact this
theorem X8{p}{part}{loop}{size}{r}(h:m7 n p part loop size=some r):PQ G 38 [V.agg (bH p),vI part,vI loop,vI size] (V.tup [V.agg (bH r.1),vB r.2]):=by
 unfold m7 at h
 refine pq aO Tryz.func38 rfl fun w X hC=> ?_
 refine rq hC [.z (.b (true)),.z (.b (true)),.z (.nat 20)] [4,6,8,9] [(4,V.tp (bO p)),(6,V.tp [T.int .i64 loop]),(8,V.ref 20 0)] [(20,sc [V.t T.nilS,V.t T.nilS])] [(20,true)] (qs ?_)
 obtain⟨x1,hx1,h⟩:=bd h
 refine vF x1.2 (fun c1=> ?_) (fun c1=> ?_)
 ·have h:=bf c1 h
  refine rk hC [oV (aCT G n p part loop hx1 c1),.z (.nat 21)] [10,11,12,18,19,20,21,22,23,24,25] [(10,V.ref 21 0),(11,V.t T.nilP),(12,vB false)] [(21,sc [vM aJ [],vM aD []])] [(21,true)] (qs (rq hC (sT 14) (fr 26 19) [(44,vB true)] [] [] (J7 (b:=true) (by kernel_rfl) (fun c2=> ?_) (fun c2=>by cases c2))))
  obtain rfl:=so h
  exact rq hC [] [9,45] [(9,vB false)] [(20,sc [V.t T.nilS,V.t T.nilS])] [] (qr eR)
 have h:=bt c1 h
 obtain⟨x5,hx5,h⟩:=bd h
 refine rk hC [oC [] [21,22] (aCS G n p part loop hx1 c1),.z (.nat 23)] [10,11,12,18,19,20,21,22,23,24,25] [(10,V.ref 23 0),(11,V.eref 22 1 2 (0+Int.toNat part) 0),(12,vB true)] [(21,some (ar 90 1 2 aJ x1.1.arrays)),(22,some (E.tree gD 0 1 (List.map aD x1.1.parts) [])),(23,sc [ms 21 1 2 aJ x1.1.arrays,ms 22 1 2 aD x1.1.parts])] [(21,true),(22,true),(23,true)] (qs (vj h (fun x_=>aX [(3,vI size),(6,V.tp [T.int .i64 loop]),(8,V.ref 20 0),(10,V.ref 23 0),(11,V.eref 22 1 2 (0+Int.toNat part) 0),(44,vB x_)] [(20,E.cells [V.t T.nilS,V.t T.nilS]),(21,ar 90 1 2 aJ x1.1.arrays),(22,E.tree gD 0 1 (List.map aD x1.1.parts) []),(23,E.cells [ms 21 1 2 aJ x1.1.arrays,ms 22 1 2 aD x1.1.parts])] [20,21,22,23]) (fun j2 h=> ?_) (fun x4 h=> ?_)))
 ·
  refine aQ h (fun c2 h=> ?_) (fun c2 h=> ?_)
  ·refine qw (yL hC [.foc 22 24 (0+Int.toNat part) 0 (aD x5)] [] [] [(22,some (E.tree gD 0 1 (List.map aD x1.1.parts) [((0+Int.toNat part),0,ms 24 1 2 aC x5.nest)])),(24,some (E.tree gD 1 1 (List.map aC x5.nest) []))] [(24,true)] (a1 (rR aD hx5)) (by kernel_rfl)) (aQ h (fun c4 h=> ?_) (fun c4 h=> ?_))
   ·obtain⟨x3,hx3,h⟩:=bd h
    exact rk hC ([eF,eF,eF]++rF 4 c2++[oX aD hx5,oF c2,oN aC x5.nest,oF c2,oF c2,oF c4,oF c4,oV (bD G hx3),oF c4,oF c4]) (fr 26 19) [(44,vB (!x3))] [] [] ⟨!x3,h,S.le.trans (yL hC [.unf 22 24 (aD x5) (List.map aD x1.1.parts)] [] [] [(24,none),(22,some (E.tree gD 0 1 (List.map aD x1.1.parts) []))] [] (a4 (Eq.refl (List.map aC x5.nest).length) (Eq.refl gD) (rR aD hx5) (D5 aD hx5 rfl)) (by kernel_rfl)) (lS)⟩
   ·exact rk hC ([eF,eF,eF]++rF 4 c2++[oX aD hx5,oF c2,oN aC x5.nest,oF c2,oF c2]++rT 4 c4) (fr 26 19) [(44,vB true)] [] [] ⟨true,h,S.le.trans (yL hC [.unf 22 24 (aD x5) (List.map aD x1.1.parts)] [] [] [(24,none),(22,some (E.tree gD 0 1 (List.map aD x1.1.parts) []))] [] (a4 (Eq.refl (List.map aC x5.nest).length) (Eq.refl gD) (rR aD hx5) (D5 aD hx5 rfl)) (by kernel_rfl)) (lS)⟩
  ·exact rk hC ([eF,eF,eF]++rT 7 c2++sT 4) (fr 26 19) [(44,vB true)] [] [] (lE h)
 ·refine aS h (fun c3 h=> ?_) (fun c3 h=> ?_)
  ·obtain rfl:=so h
   exact rq hC [] [9,45] [(9,vB false)] [(20,sc [V.t T.nilS,V.t T.nilS])] [] (qr eR)
  ·refine qk (qs ?_)
   obtain⟨x6,hx6,x7,hx7,h⟩:=cO h
   refine qw (yL hC [.foc 22 24 (0+Int.toNat part) 0 (aD x5),.foc 24 25 (0+Int.toNat loop) 0 (aC x6),.foc 24 26 (0+Int.toNat loop) 1 (aC x6)] [] [] [(22,some (E.tree gD 0 1 (List.map aD x1.1.parts) [((0+Int.toNat part),0,ms 24 1 2 aC x5.nest)])),(24,some (E.tree gD 1 1 (List.map aC x5.nest) [((0+Int.toNat loop),1,ms 26 1 2 aA x6.hi),((0+Int.toNat loop),0,ms 25 1 2 aA x6.lo)])),(25,some (E.tree gD 3 1 (List.map aA x6.lo) [])),(26,some (E.tree gD 3 1 (List.map aA x6.hi) []))] [(24,true),(25,true),(26,true)] (a3 (rR aD hx5) (rR aC hx6) (rR aC hx6)) (by kernel_rfl)) (dk hC bA [oX aD hx5,oQ (mO aC hx6),oX aC hx6,.z (.b true),.z (.nat 25),.z (.nat 26),oV (U5 G hx7)] [12,13,14,46,47,48,49,50,51,52,53,54,55,56,57] [(12,vB x7.2.2),(13,vI x7.1),(14,vI x7.2.1)] [] [] (qw (yL hC [.unf 24 26 (aC x6) (List.map aC x5.nest),.unf 24 25 (aC x6) (List.map aC x5.nest),.unf 22 24 (aD x5) (List.map aD x1.1.parts)] [] [] [(26,none),(25,none),(24,none),(22,some (E.tree gD 0 1 (List.map aD x1.1.parts) []))] [] (a12 (Eq.refl (List.map aA x6.hi).length) (Eq.refl gD) (rR aC hx6) (D5 aC hx6 rfl) (Eq.refl (List.map aA x6.lo).length) (Eq.refl gD) (rR aC hx6) (D5 aC hx6 rfl) (Eq.refl (List.map aC x5.nest).length) (Eq.refl gD) (rR aD hx5) (D5 aD hx5 rfl)) (by kernel_rfl)) (qs (rq hC [] [58,59] [(59,vB (!x7.2.2))] [] [] ?_))))
   refine vc (b:= !x7.2.2) (fun c5=> ?_) (fun c5=> ?_)
   ·have c5:x7.2.2=false:=by simpa using c5
    have h:=bf c5 h
    obtain rfl:=so h
    exact rq hC [] [9,60] [(9,vB false)] [(20,sc [V.t T.nilS,V.t T.nilS])] [] (qr eR)
   ·have c5:x7.2.2=true:=by simpa using c5
    have h:=bt c5 h
    refine qk ?_
    obtain⟨x8,hx8,x9,hx9,h⟩:=cO h
    refine rq hC [oC [22] [] (u4 G n x1.1.parts part x5 hx5 1 loop 112 [T.int .i64 loop] (fun q0=>fU n q0 loop) (fun q0 r h=>H4 G n q0 loop h) hx8 hx9)] (fr 61 4) [] [(22,some (E.tree gD 0 1 (List.map aD x9) []))] [(22,true)] ?_
    have hp8:=aKz hx9
    refine qw (yL hC [.foc 22 36 (0+Int.toNat part) 0 (aD x8),.shd 36,.tre 22 nd1 0] [] [] [(22,some (E.tree nd1 0 1 (List.map aD x9) [((0+Int.toNat part),0,ms 36 1 2 aC x8.nest)])),(36,some (ar 123 1 2 aC x8.nest))] [(36,true)] (a1 (rR aD hp8)) (by kernel_rfl)) (qs ?_)
    obtain⟨y0,hy0,h⟩:=bd h
    refine rk hC [oQ (wY hy0)] [15,65,66,67,68,69,70,71,72,73] [(15,vI (wr (Int.tdiv (wr ((wr ((max 0 (wr (x7.2.1-x7.1)))+size))-1)) size)))] [] [] (qs ?_)
    obtain⟨y1,hy1,h⟩:=bd h
    obtain⟨y2,hy2,h⟩:=bd h
    refine dk hC bA [oC [] [27] (zD G hy1),oC [] [28] (zD G hy2),.z (.nat 29),.z (.nat 30)] [16,17,74,75,76,77,78,79] [(16,V.ref 29 0),(17,V.ref 30 0)] [(27,some (ar 3 1 1 rI y1.coefs)),(28,some (ar 3 1 1 rI y2.coefs)),(29,sc [ms 27 1 1 rI y1.coefs,vI y1.const]),(30,sc [ms 28 1 1 rI y2.coefs,vI y2.const])] [(27,true),(28,true),(29,true),(30,true)] (rq hC [] (fr 80 6) [] [(29,sc [ms 27 1 1 rI y1.coefs,vI x7.1]),(30,sc [ms 28 1 1 rI y2.coefs,vI (wr (x7.1+size))])] [] (qw (lk hC [.fz 27 [] [29],.fz 28 [] [30]] [] [] [(27,none),(28,none),(29,sc [vM rI y1.coefs,vI x7.1]),(30,sc [vM rI y2.coefs,vI (wr (x7.1+size))])] []) (qs ?_)))
    obtain⟨z1,hz1,h⟩:=bd h
    obtain⟨z2,hz2,h⟩:=bd h
    obtain⟨y3,hy3,h⟩:=bd h
    obtain⟨x10,hx10,h⟩:=bd h
    refine dk hC bA [.z (.row (aD x8)),oQ (rR aD hp8),oC [] [31] (lU G hz1),.z (.at 8),.z (.fz 31 [92] []),.z (.int 0),oC [] [32] (lU G hz2),.z (.at 4),.z (.fz 32 [96] []),.z (.int 0),oQ (mO aC hy3),oX aC hy3,.z (.rows (List.map aC x10)),oQ (str aC hx10)] (fr 86 15) [] [(31,none),(32,none),(36,some (ar 123 1 2 aC x10))] [(31,true),(32,true)] (qs ?_)
    obtain⟨z3,hz3,h⟩:=bd h
    obtain⟨z4,hz4,h⟩:=bd h
    obtain⟨x11,hx11,x12,hx12,h⟩:=cO h
    refine dk hC bA [.z (.row (aD x8)),oQ (rR aD hp8),oC [] [33] (lU G hz3),.z (.at 10),.z (.fz 33 [107] []),.z (.int 0),oC [] [34] (lU G hz4),.z (.at 7),.z (.fz 34 [110] []),.z (.int 0),.z (.int 1),.z (.nat 35),oC [36,35] [] (D0 G n x8.nest x10 loop [(⟨[z3],[z4]⟩:Loop)] 1 1 (lY aC hx10) hx11),.z (.row (aD x8)),oQ (rR aD hp8)] (fr 101 16) [] [(33,none),(34,none),(35,some (ar 123 1 2 aC [(⟨[z3],[z4]⟩:Loop)])),(36,some (ar 123 (1+1) 2 aC x11)),(22,some (E.tree nd1 0 1 (List.map aD x9) [((0+Int.toNat part),0,ms 36 (1+1) 2 aC x11)]))] [(33,true),(34,true),(35,true),(36,true),(35,true)] (qw (yL hC [.frzc 22 0 36,.unt 22 (aD x8) (List.map aD x12),.shd 22,.lenc 23 1 (List.map aD x12).length,.fz 21 [] [23],.fz 22 [] [23]] [] [] [(36,none),(21,none),(22,none),(23,sc [vM aJ x1.1.arrays,vM aD x12])] [] (a3 (rR aD hp8) (V5 aD hx12 rfl) ((lY aD hx9).trans (lY aD hx12))) (by kernel_rfl)) ?_)
    obtain⟨x13,hx13,h⟩:=bd h
    obtain rfl:=so h
    exact rq hC [oV (aBm G hx13)] [9,117,118,119,120] [(9,vB x13.2)] [(20,some (E.cells (bH x13.1)))] [] (qr eR)
theorem aD8{a}{v}{r}(h:L6 n a v=some r):PQ G 348 [V.agg (aK a),vI v] (V.agg (aK r)):=by
 unfold L6 at h
 refine pq aO Tryz.func348 rfl fun w X hC=> ?_
 refine rq hC [.z (.b (true)),.z (.nat 20)] [2,4] [(2,V.tp (aT a)),(4,V.ref 20 0)] [(20,sc [V.t T.nilS,vI 0])] [(20,true)] ?_
 obtain⟨x1,hx1,h⟩:=bd h
 refine rq hC [oC [] [21] (mI G hx1),.z (.nat 22)] [5,6,7] [(5,V.ref 22 0)] [(21,some (ar 3 1 1 rI x1.coefs)),(22,sc [ms 21 1 1 rI x1.coefs,vI x1.const])] [(21,true),(22,true)] (qs ?_)
 obtain⟨x2,hx2,x3,hx3,x4,hx4,h⟩:=kX h
 refine dk hC bA [oR rI hx2,oQ (mO rI hx3),oX rI hx3,.z (.rows (List.map rI x4)),oQ (str rI hx4)] (fr 8 10) [] [(21,some (ar 3 1 1 rI x4))] [] (qw (yL hC [.lenc 22 0 (List.map rI x4).length] [] [] [(22,sc [ms 21 1 1 rI x4,vI x1.const])] [] (a1 (lY rI hx4)) (by kernel_rfl)) (qs ?_))
 obtain⟨x5,hx5,x6,hx6,x7,hx7,h⟩:=kX h
 obtain rfl:=so h
 exact dk hC bA [oR rI hx5,oQ (mO rI hx6),oX rI hx6,.z (.rows (List.map rI x7)),oQ (str rI hx7)] (fr 18 10) [] [(21,some (ar 3 1 1 rI x7))] [] (qw (yL hC [.lenc 22 0 (List.map rI x7).length] [] [] [(22,sc [ms 21 1 1 rI x7,vI x1.const])] [] (a1 (lY rI hx7)) (by kernel_rfl)) (rq hC [.z (.at 2),.z (.fz 21 [] [22])] [28] [] [(22,sc [vM rI x7,vI x1.const]),(21,none),(20,sc [vM rI x7,vI x1.const])] [] (qr eR)))
theorem aCI{a}{v}{b}{r}(h:zX n a v b=some r):PQ G 349 [V.agg (aK a),vI v,V.agg (aK b)] (V.agg (aK r)):=by
 unfold zX at h
 refine pq aO Tryz.func349 rfl fun w X hC=> ?_
 refine rq hC [.z (.b (true)),.z (.b (true)),.z (.nat 20)] [3,5,6] [(3,V.tp (aT a)),(5,V.tp (aT b)),(6,V.ref 20 0)] [(20,sc [V.t T.nilS,vI 0])] [(20,true)] (qs ?_)
 obtain⟨x1,hx1,h⟩:=bd h
 refine dk hC bA [.z (.nat 21),oA (aP rI hx1),.z (.nat 22),oQ (bW (r:=rI) 1 (fun _=>rfl) []),oQ (bW (r:=rI) 1 (fun _=>rfl) a.coefs)] (fr 7 8) [(7,V.ref 22 0)] [(21,some (ar 3 2 1 rI x1)),(22,sc [ms 21 2 1 rI x1,vI a.const])] [(21,true),(22,true)] ?_
 obtain⟨x2,hx2,x3,hx3,h⟩:=cO h
 refine rq hC [oQ (mO rI hx2),oX rI hx2,.z (.rows (List.map rI x3)),.z (.lenc 22 0 (List.map rI x3).length),oQ (str rI hx3),oQ (lY rI hx3)] (fr 15 4) [] [(21,some (ar 3 2 1 rI x3)),(22,sc [ms 21 2 1 rI x3,vI a.const])] [] (qs ?_)
 obtain⟨x4,hx4,x5,hx5,h⟩:=cO h
 obtain rfl:=so h
 exact dk hC bA [.z (.at 9),.z (.fz 21 [] [22]),oR rI hx4,oC [] [23] (jZ G hx5)] (fr 19 8) [] [(22,sc [vM rI x3,vI a.const]),(21,none),(23,some (ar 3 1 1 rI x5.coefs)),(20,sc [ms 23 1 1 rI x5.coefs,vI x5.const])] [(23,true)] (qw (lk hC [.fz 23 [] [20]] [] [] [(20,some (E.cells (aK x5))),(23,none)] []) (qr eR))
theorem S2{a}{way}{v}{b}{r}(h:gS n a way v b=some r):PQ G 321 [V.agg (aK a),vI way,vI v,V.agg (aK b)] (V.agg (aK r)):=by
 unfold gS at h
 refine pq aO Tryz.func321 rfl fun w X hC=> ?_
 refine rq hC [.z (.b (true)),.z (.b (true)),.z (.nat 20)] [4,7,8] [(4,V.tp (aT a)),(7,V.tp (aT b)),(8,V.ref 20 0)] [(20,sc [V.t T.nilS,vI 0])] [(20,true)] (qs (rq hC [] [11] [(11,vI way)] [] [] (qb (rq hC [] [12,13] [(12,vB (decide (way=0)))] [] [] (aS h (fun c1 h=> ?_) (fun c1 h=> ?_))))))
 ·obtain⟨x1,hx1,h⟩:=bd h
  obtain rfl:=so h
  exact rq hC [oV (aD8 G hx1)] [14,15,16] [] [(20,some (E.cells (aK x1)))] [] (qr eR)
 ·refine rq hC [] [17,18] [(17,vB (decide (way=1)))] [] [] (aS h (fun c2 h=> ?_) (fun c2 h=> ?_))
  ·obtain⟨x2,hx2,h⟩:=bd h
   obtain rfl:=so h
   exact rq hC [oV (aCI G hx2)] (fr 19 4) [] [(20,some (E.cells (aK x2)))] [] (qr eR)
  ·refine qk (rq hC [.z (.nat 21)] [9,23,24,25] [(9,V.ref 21 0)] [(21,sc [V.t T.nilS,vI a.const])] [(21,true)] (qs (rq hC [] [10] [(10,vI 0)] [] [] (qb (qw (lk hC [.growc 21 0 22 3] [] [] [(22,some (ar 3 1 1 rI [])),(21,sc [ms 22 1 1 rI [],vI a.const])] [(22,true)]) ?_)))))
   refine bF (γ:=Nat) h (fun x_ g_=>aX [(2,vI v),(4,V.tp (aT a)),(8,V.ref 20 0),(9,V.ref 21 0),(10,vI x_.2)] [(20,E.cells [V.t T.nilS,vI 0]),(21,E.cells [ms 22 g_ 1 rI x_.1,vI a.const]),(22,ar 3 g_ 1 rI x_.1)] [20,21,22]) 1 (lS) ?_
   rintro again6 ⟨x3,x4⟩ g5 h
   refine qs (rq hC [] [26,27] [(27,vB (decide (x4<4)))] [] [] (aS h (fun c3 h=> ?_) (fun c3 h=> ?_)))
   ·refine qk (vj h (fun x_=>aX [(2,vI v),(4,V.tp (aT a)),(8,V.ref 20 0),(9,V.ref 21 0),(10,vI x4)] [(20,E.cells [V.t T.nilS,vI 0]),(21,E.cells [ms 22 (g5+1) 1 rI x_,vI a.const]),(22,ar 3 (g5+1) 1 rI x_)] [20,21,22]) (fun j7 h=> ?_) (fun x13 h=> ?_))
    ·
     refine qb (qb (rq hC [] (fr 41 4) [(41,vB (decide (x4<v)))] [] [] (aS h (fun c4 h=> ?_) (fun c4 h=> ?_))))
     ·obtain⟨x8,hx8,x9,hx9,h⟩:=cO h
      exact dk hC bA [oR rI hx8,.z (.int 0),oA (aP rI hx9),oQ (bW (r:=rI) 1 (fun _=>rfl) x3),oQ (bW (r:=rI) 1 (fun _=>rfl) [x8])] (fr 45 10) [] [(22,some (ar 3 (g5+1) 1 rI x9)),(21,sc [ms 22 (g5+1) 1 rI x9,vI a.const])] [] (lE h)
     ·refine rq hC [] (fr 55 4) [(55,vB (decide (x4=v)))] [] [] (aS h (fun c5 h=> ?_) (fun c5 h=> ?_))
      ·obtain⟨x10,hx10,h⟩:=bd h
       exact rk hC [.z (.int 0),oA (aP rI hx10),oQ (bW (r:=rI) 1 (fun _=>rfl) x3),oQ (bW (r:=rI) 1 (fun _=>rfl) [0])] (fr 59 5) [] [(22,some (ar 3 (g5+1) 1 rI x10)),(21,sc [ms 22 (g5+1) 1 rI x10,vI a.const])] [] (lE h)
      ·obtain⟨x11,hx11,x12,hx12,h⟩:=cO h
       exact dk hC bA [oR rI hx11,.z (.int 0),oA (aP rI hx12),oQ (bW (r:=rI) 1 (fun _=>rfl) x3),oQ (bW (r:=rI) 1 (fun _=>rfl) [x11])] (fr 30 11) [] [(22,some (ar 3 (g5+1) 1 rI x12)),(21,sc [ms 22 (g5+1) 1 rI x12,vI a.const])] [] (lE h)
    ·exact rk hC [] [10,28,29] [(10,vI (wr (x4+1)))] [] [] ⟨(x13,wr (x4+1)),(g5+1),h,lS⟩
   ·obtain rfl:=so h
    exact cW (rq hC [.z (.at 2),.z (.fz 22 [] [21])] [64] [] [(21,sc [vM rI x3,vI a.const]),(22,none),(20,sc [vM rI x3,vI a.const])] [] (qr eR))
theorem xB{list}{way}{v}{b}{r}(h:o0 n list way v b=some r):VQ G 276 [] [vM aA list,vI way,vI v,V.agg (aK b)] (ms 0 1 2 aA r) [ar 79 1 2 aA r]:=by
 unfold o0 at h
 refine vq aO Tryz.func276 rfl fun w X β0 hC hg=> ?_
 refine rq hC [.z (.b (true))] [7,8] [(7,V.tp (aT b))] [] [] (rq hC [.z (.nat 20)] [9,11] [(9,ms 20 1 2 aA [])] [(20,some (ar 79 1 2 aA []))] [(20,true)] (qs (rq hC [] [10] [(10,vI 0)] [] [] (qb (bF (γ:=Nat) h (fun x_ g_=>aX [(0,vM aA list),(1,vI way),(2,vI v),(7,V.tp (aT b)),(9,ms 20 g_ 2 aA x_.1),(10,vI x_.2)] [(20,ar 79 g_ 2 aA x_.1)] [20]) 1 (lS) ?_)))))
 rintro again4 ⟨x1,x2⟩ g3 h
 refine qs (rq hC [oN aA list] (fr 12 4) [(15,vB (decide (x2<(list.length:Int))))] [] [] (aS h (fun c1 h=> ?_) (fun c1 h=> ?_)))
 ·refine qk (qs (qb ?_))
  obtain⟨x5,hx5,x6,hx6,x7,hx7,h⟩:=kX h
  exact dk hC bA [oR aA hx5,oV (S2 G hx6),.z (.int 0),oA (aP aA hx7),oQ (bW (r:=aA) 2 aW x1),oQ (bW (r:=aA) 2 aW [x6])] [9,18,19,20,21,22,23,24,25,26,27,28] [(9,ms 20 (g3+1) 2 aA x7)] [(20,some (ar 79 (g3+1) 2 aA x7))] [] (rk hC [] [10,16,17] [(10,vI (wr (x2+1)))] [] [] ⟨(x7,wr (x2+1)),(g3+1),h,lS⟩)
 ·obtain rfl:=so h
  exact cW (rq hC [] [8,29] [(8,ms 20 g3 2 aA x1)] [] [] (qw (lk hC [.ren 8 20 0] [8] [(8,ms 0 1 2 aA x1)] [(0,some (ar 79 1 2 aA x1)),(20,none)] [(0,true)]) (qr eW)))
theorem yZ{a}{way}{v}{b}{r}(h:kI n a way v b=some r):PQ G 274 [V.agg (cF a),vI way,vI v,V.agg (aK b)] (V.agg (cF r)):=by
 unfold kI at h
 refine pq aO Tryz.func274 rfl fun w X hC=> ?_
 refine rq hC [.z (.b (true)),.z (.b (true)),.z (.nat 20)] [4,7,8] [(4,V.tp (dQ a)),(7,V.tp (aT b)),(8,V.ref 20 0)] [(20,sc [vS [],V.t T.nilS])] [(20,true)] (qs ?_)
 obtain⟨x1,hx1,h⟩:=bd h
 obtain rfl:=so h
 exact dk hC bA [oC [] [21] (xB G hx1)] (fr 9 9) [] [(21,some (ar 79 1 2 aA x1)),(20,sc [vS a.array,ms 21 1 2 aA x1])] [(21,true)] (qw (lk hC [.fz 21 [] [20]] [] [] [(20,sc [vS a.array,vM aA x1]),(21,none)] []) (qr eR))
theorem aEa(G:GS): ∀(n:Nat) (e:Expr) (way:Int) (v:Int) (b:Affine) {r:Expr} (h:s_l8Expr n e way v b=some r),PQ G 275 [V.agg (cU e),vI way,vI v,V.agg (aK b)] (V.agg (cU r)):=by
 intro n
 induction n with
 |zero=>intro e way v b r h;rw [s_l8Expr.eq_def] at h;cases h
 |succ n ih=>
  intro e way v b r h
  rw [s_l8Expr.eq_def] at h;dsimp only at h
  refine pq aO Tryz.func275 rfl fun w X hC=> ?_
  refine rq hC [.z (.b (true)),.z (.b (true)),.z (.nat 20)] [4,7,8] [(4,V.tp (fI e)),(7,V.tp (aT b)),(8,V.ref 20 0)] [(20,sc [vI 0,vI 0,V.t T.nilS,vI 0,vS [],V.t T.nilS,V.t T.nilS])] [(20,true)] (rq hC [.z (.nat 21)] [9,11,12,13,14,15] [(9,V.ref 21 0)] [(21,sc [vI e.kind,vI e.num,V.t T.nilS,vI 0,vS [],V.t T.nilS,V.t T.nilS])] [(21,true)] (vj h (fun x_=>aX [(1,vI way),(2,vI v),(4,V.tp (fI e)),(7,V.tp (aT b)),(8,V.ref 20 0),(9,V.ref 21 0)] [(20,E.cells [vI 0,vI 0,V.t T.nilS,vI 0,vS [],V.t T.nilS,V.t T.nilS]),(21,E.cells [vI e.kind,vI e.num,vM rI x_.1,vI x_.2,vS [],V.t T.nilS,V.t T.nilS])] [20,21]) (fun j1 h=> ?_) ?_))
  ·
   refine rq hC [] [16,17,18] [(18,vB (decide (e.kind=2)))] [] [] (aS h (fun c1 h=> ?_) (fun c1 h=> ?_))
   ·obtain⟨x2,hx2,h⟩:=bd h
    exact rk hC [oV (S2 G hx2)] (fr 19 7) [] [(21,sc [vI e.kind,vI e.num,vM rI x2.coefs,vI x2.const,vS [],V.t T.nilS,V.t T.nilS])] [] (lE h)
   ·exact qk (lE h)
  ·rintro⟨x3,x4⟩ h
   refine vj h (fun x_=>aX [(1,vI way),(2,vI v),(4,V.tp (fI e)),(7,V.tp (aT b)),(8,V.ref 20 0),(9,V.ref 21 0)] [(20,E.cells [vI 0,vI 0,V.t T.nilS,vI 0,vS [],V.t T.nilS,V.t T.nilS]),(21,E.cells [vI e.kind,vI e.num,vM rI x3,vI x4,vS x_.1,vM aA x_.2,V.t T.nilS])] [20,21]) (fun j5 h=> ?_) ?_
   ·
    refine rq hC [] [26,27,28] [(28,vB (decide (e.kind=3)))] [] [] (aS h (fun c2 h=> ?_) (fun c2 h=> ?_))
    ·obtain⟨x6,hx6,h⟩:=bd h
     exact rk hC [oV (yZ G hx6)] (fr 29 7) [] [(21,sc [vI e.kind,vI e.num,vM rI x3,vI x4,vS x6.array,vM aA x6.subs,V.t T.nilS])] [] (lE h)
    ·exact qk (lE h)
   ·rintro⟨x7,x8⟩ h
    refine qs (rq hC [] [10] [(10,vI 0)] [] [] (qb (qw (lk hC [.growc 21 6 22 82] [] [] [(22,some (ar 82 1 7 aI [])),(21,sc [vI e.kind,vI e.num,vM rI x3,vI x4,vS x7,vM aA x8,ms 22 1 7 aI []])] [(22,true)]) (bF (γ:=Nat) h (fun x_ g_=>aX [(1,vI way),(2,vI v),(4,V.tp (fI e)),(7,V.tp (aT b)),(8,V.ref 20 0),(9,V.ref 21 0),(10,vI x_.2)] [(20,E.cells [vI 0,vI 0,V.t T.nilS,vI 0,vS [],V.t T.nilS,V.t T.nilS]),(21,E.cells [vI e.kind,vI e.num,vM rI x3,vI x4,vS x7,vM aA x8,ms 22 g_ 7 aI x_.1]),(22,ar 82 g_ 7 aI x_.1)] [20,21,22]) 1 (lS) ?_))))
    rintro again12 ⟨x9,x10⟩ g11 h
    refine qs (rq hC [oN aI e.kids] (fr 36 5) [(40,vB (decide (x10<(e.kids.length:Int))))] [] [] (aS h (fun c3 h=> ?_) (fun c3 h=> ?_)))
    ·refine qk (qs (qb ?_))
     obtain⟨x13,hx13,x14,hx14,x15,hx15,h⟩:=kX h
     exact dk hC bA [.z (.row (eC x13)),oQ (eZ aI hx13 (cQ x13)),oV (ih x13 way v b hx14),.z (.int 2),.z (.rows (List.map aI [x14])),oQ (sV x14),oA (aP aI hx15),oQ (bW (r:=aI) 7 d7 x9),oQ (bW (r:=aI) 7 d7 [x14])] (fr 43 14) [] [(22,some (ar 82 (g11+1) 7 aI x15)),(21,sc [vI e.kind,vI e.num,vM rI x3,vI x4,vS x7,vM aA x8,ms 22 (g11+1) 7 aI x15])] [] (rk hC [] [10,41,42] [(10,vI (wr (x10+1)))] [] [] ⟨(x15,wr (x10+1)),(g11+1),h,lS⟩)
    ·obtain rfl:=so h
     exact cW (rq hC [.z (.at 2),.z (.fz 22 [] [21])] [57] [] [(21,sc [vI e.kind,vI e.num,vM rI x3,vI x4,vS x7,vM aA x8,vM aI x9]),(22,none),(20,sc [vI e.kind,vI e.num,vM rI x3,vI x4,vS x7,vM aA x8,vM aI x9])] [] (qr eR))
theorem aEc{list}{way}{v}{b}{r}(h:tZ n list way v b=some r):VQ G 206 [] [vM aG list,vI way,vI v,V.agg (aK b)] (ms 0 1 9 aG r) [ar 84 1 9 aG r]:=by
 unfold tZ at h
 refine vq aO Tryz.func206 rfl fun w X β0 hC hg=> ?_
 refine rq hC [.z (.b (true))] [7,8] [(7,V.tp (aT b))] [] [] (rq hC [.z (.nat 20)] [9,11] [(9,ms 20 1 9 aG [])] [(20,some (ar 84 1 9 aG []))] [(20,true)] (qs (rq hC [] [10] [(10,vI 0)] [] [] (qb (bF (γ:=Nat) h (fun x_ g_=>aX [(0,vM aG list),(1,vI way),(2,vI v),(7,V.tp (aT b)),(9,ms 20 g_ 9 aG x_.1),(10,vI x_.2)] [(20,ar 84 g_ 9 aG x_.1)] [20]) 1 (lS) ?_)))))
 rintro again4 ⟨x1,x2⟩ g3 h
 refine qs (rq hC [oN aG list] (fr 12 4) [(15,vB (decide (x2<(list.length:Int))))] [] [] (aS h (fun c1 h=> ?_) (fun c1 h=> ?_)))
 ·refine qk (qs (qb ?_))
  obtain⟨x5,hx5,x6,hx6,x7,hx7,h⟩:=kX h
  obtain⟨x8,hx8,h⟩:=bd h
  exact dk hC bA [oR aG hx5,oV (yZ G hx6),oR aG hx5,oV (aEa G n x5.value way v b hx7),.z (.int 0),oA (aP aG hx8),oQ (bW (r:=aG) 9 d6 x1),oQ (bW (r:=aG) 9 d6 [(⟨x6,x7⟩:Stmt)])] [9,18,19,20,21,22,23,24,25,26,27,28,29,30,31,32,33,34,35,36,37,38,39] [(9,ms 20 (g3+1) 9 aG x8)] [(20,some (ar 84 (g3+1) 9 aG x8))] [] (rk hC [] [10,16,17] [(10,vI (wr (x2+1)))] [] [] ⟨(x8,wr (x2+1)),(g3+1),h,lS⟩)
 ·obtain rfl:=so h
  exact cW (rq hC [] [8,40] [(8,ms 20 g3 9 aG x1)] [] [] (qw (lk hC [.ren 8 20 0] [8] [(8,ms 0 1 9 aG x1)] [(0,some (ar 84 1 9 aG x1)),(20,none)] [(0,true)]) (qr eW)))
theorem aD9{x}{way}{v}{b}{r}(h:qP n x way v b=some r):PQ G 207 [V.agg (gX x),vI way,vI v,V.agg (aK b)] (V.agg (gX r)):=by
 unfold qP at h
 refine pq aO Tryz.func207 rfl fun w X hC=> ?_
 refine rq hC [.z (.b (true)),.z (.b (true)),.z (.nat 20)] [4,7,8] [(4,V.tp (mU x)),(7,V.tp (aT b)),(8,V.ref 20 0)] [(20,sc [V.t T.nilS,V.t T.nilS])] [(20,true)] (qs ?_)
 obtain⟨x1,hx1,x2,hx2,h⟩:=cO h
 obtain rfl:=so h
 exact dk hC bA [oC [] [21] (xB G hx1),oC [] [22] (xB G hx2)] (fr 9 13) [] [(21,some (ar 79 1 2 aA x1)),(22,some (ar 79 1 2 aA x2)),(20,sc [ms 21 1 2 aA x1,ms 22 1 2 aA x2])] [(21,true),(22,true)] (qw (lk hC [.fz 21 [] [20]] [] [] [(20,sc [vM aA x1,ms 22 1 2 aA x2]),(21,none)] []) (qw (lk hC [.fz 22 [] [20]] [] [] [(20,sc [vM aA x1,vM aA x2]),(22,none)] []) (qr eR)))
theorem aCy{x}{after}{way}{v}{b}{r}(h:qQ n x after way v b=some r):VQ G 117 [] [V.agg (l4 x),vI after,vI way,vI v,V.agg (aK b)] (V.agg [ms 0 1 2 aC r.nest,ms 1 1 9 aG r.body]) [ar 123 1 2 aC r.nest,ar 84 1 9 aG r.body]:=by
 unfold qQ at h
 refine vq aO Tryz.func117 rfl fun w X β0 hC hg=> ?_
 refine rq hC [.z (.b (true)),.z (.b (true)),.z (.nat 20)] [5,9,10] [(5,V.tp (mT x)),(9,V.tp (aT b)),(10,V.ref 20 0)] [(20,sc [V.t T.nilS,V.t T.nilS])] [(20,true)] (qs ?_)
 obtain⟨x1,hx1,x2,hx2,x3,hx3,h⟩:=kX h
 refine dk hC bA [.z (.nat 21),oA (rU aC hx1),oQ (bW (r:=aC) 2 bL x.nest),oA (aP aC hx2),oQ (bW (r:=aC) 2 bL []),oQ (bW (r:=aC) 2 bL x1),oC [] [22] (aEc G hx3),.z (.nat 23)] [11,13,14,15,16,17,18,19,20,21,22,23,24,25,26] [(11,V.ref 23 0)] [(21,some (ar 123 2 2 aC x2)),(22,some (ar 84 1 9 aG x3)),(23,sc [ms 21 2 2 aC x2,ms 22 1 9 aG x3])] [(21,true),(22,true),(23,true)] (qs (rq hC [] [12,27,28] [(12,vI (wr (after+1)))] [] [] (qb (bF (γ:=Nat) h (fun x_ g_=>aX [(2,vI way),(3,vI v),(5,V.tp (mT x)),(9,V.tp (aT b)),(10,V.ref 20 0),(11,V.ref 23 0),(12,vI x_.2)] [(20,E.cells [V.t T.nilS,V.t T.nilS]),(21,ar 123 g_ 2 aC x_.1),(22,ar 84 1 9 aG x3),(23,E.cells [ms 21 g_ 2 aC x_.1,ms 22 1 9 aG x3])] [20,21,22,23]) 2 (lS) ?_))))
 rintro again7 ⟨x4,x5⟩ g6 h
 refine qs (rq hC [oN aC x.nest] (fr 29 5) [(33,vB (decide (x5<(x.nest.length:Int))))] [] [] (aS h (fun c1 h=> ?_) (fun c1 h=> ?_)))
 ·refine qk (qs (qb ?_))
  obtain⟨x8,hx8,x9,hx9,x10,hx10,h⟩:=kX h
  exact dk hC bA [oR aC hx8,oV (aD9 G hx9),.z (.int 0),oA (aP aC hx10),oQ (bW (r:=aC) 2 bL x4),oQ (bW (r:=aC) 2 bL [x9])] (fr 36 14) [] [(21,some (ar 123 (g6+1) 2 aC x10)),(23,sc [ms 21 (g6+1) 2 aC x10,ms 22 1 9 aG x3])] [] (rk hC [] [12,34,35] [(12,vI (wr (x5+1)))] [] [] ⟨(x10,wr (x5+1)),(g6+1),h,lS⟩)
 ·obtain rfl:=so h
  exact cW (rq hC [] [50] [] [(20,sc [ms 21 g6 2 aC x4,ms 22 1 9 aG x3])] [] (qw (lk hC [.rn 21 0 [] [20,23]] [] [] [(20,sc [ms 0 1 2 aC x4,ms 22 1 9 aG x3]),(23,sc [ms 0 1 2 aC x4,ms 22 1 9 aG x3]),(21,none),(0,some (ar 123 1 2 aC x4))] [(0,true)]) (qw (lk hC [.rn 22 1 [] [20,23]] [] [] [(20,sc [ms 0 1 2 aC x4,ms 1 1 9 aG x3]),(23,sc [ms 0 1 2 aC x4,ms 1 1 9 aG x3]),(22,none),(1,some (ar 84 1 9 aG x3))] [(1,true)]) (qr eW))))
theorem X3{p}{part}{loop}{size}{r}(h:mW n p part loop size=some r):PQ G 39 [V.agg (bH p),vI part,vI loop,vI size] (V.tup [V.agg (bH r.1),vB r.2]):=by
 unfold mW at h
 refine pq aO Tryz.func39 rfl fun w X hC=> ?_
 refine rq hC [.z (.nat 20),.z (.nat 21)] [4,8,9] [(4,V.ref 20 0),(8,V.ref 21 0)] [(20,some (E.cells (bH p))),(21,sc [V.t T.nilS,V.t T.nilS])] [(20,true),(21,true)] ?_
 obtain⟨x1,hx1,h⟩:=bd h
 refine rq hC [oV (y8 G hx1)] [18,19] [] [(20,some (E.cells (bH x1)))] [] (qs (vj h (fun x_=>aX [(1,vI part),(2,vI loop),(3,vI size),(4,V.ref 20 0),(8,V.ref 21 0),(42,vB x_)] [(20,E.cells (bH x1)),(21,E.cells [V.t T.nilS,V.t T.nilS])] [20,21]) (fun j2 h=> ?_) (fun x5 h=> ?_)))
 ·
  obtain⟨x3,hx3,h⟩:=bd h
  refine aQ h (fun c1 h=> ?_) (fun c1 h=> ?_)
  ·obtain⟨x4,hx4,h⟩:=bd h
   refine aQ h (fun c2 h=> ?_) (fun c2 h=> ?_)
   ·refine aQ h (fun c3 h=> ?_) (fun c3 h=> ?_)
    ·exact rk hC ([oV (v6 G hx3)]++rF 4 c1++[oR aD hx4]++rF 3 c1++[oN aC x4.nest,oF c1,oF c1]++rF 3 c2++rF 3 c3) (fr 20 23) [(42,vB (decide ((6:Int)<size)))] [] [] (lE h)
    ·exact rk hC ([oV (v6 G hx3)]++rF 4 c1++[oR aD hx4]++rF 3 c1++[oN aC x4.nest,oF c1,oF c1]++rF 3 c2++rT 3 c3) (fr 20 23) [(42,vB true)] [] [] (lE h)
   ·exact rk hC ([oV (v6 G hx3)]++rF 4 c1++[oR aD hx4]++rF 3 c1++[oN aC x4.nest,oF c1,oF c1]++rT 3 c2++[eT,eT,eT]) (fr 20 23) [(42,vB true)] [] [] (lE h)
  ·exact rk hC ([oV (v6 G hx3)]++rT 9 c1++sT 6) (fr 20 23) [(42,vB true)] [] [] (lE h)
 ·refine aS h (fun c4 h=> ?_) (fun c4 h=> ?_)
  ·obtain rfl:=so h
   exact rq hC [] [9,43] [(9,vB false)] [(21,sc [V.t T.nilS,V.t T.nilS])] [] (qr eR)
  ·refine qk ?_
   obtain⟨x6,hx6,x7,hx7,x8,hx8,h⟩:=kX h
   refine rq hC [oR aD hx6,oR aC hx7,oV (aCz G hx8)] [10,11,12,44,45,46,47,48,49,50,51,52,53,54,55,56,57] [(10,vI x8.1),(11,vI x8.2.1),(12,vB x8.2.2)] [] [] (qs (rq hC [] [58,59] [(59,vB (!x8.2.2))] [] [] (aS h (fun c5 h=> ?_) (fun c5 h=> ?_))))
   ·obtain rfl:=so h
    exact rq hC [] [9,60] [(9,vB false)] [(21,sc [V.t T.nilS,V.t T.nilS])] [] (qr eR)
   ·refine qk (rq hC [] [13] [(13,vI 0)] [] [] (vj h (fun x_=>aX [(1,vI part),(2,vI loop),(3,vI size),(4,V.ref 20 0),(8,V.ref 21 0),(10,vI x8.1),(11,vI x8.2.1),(13,vI x_)] [(20,E.cells (bH x1)),(21,E.cells [V.t T.nilS,V.t T.nilS])] [20,21]) (fun j9 h=> ?_) (fun x11 h=> ?_)))
    ·
     refine rq hC [] [61,62,63] [(63,vB (decide (x8.1<x8.2.1)))] [] [] (aS h (fun c6 h=> ?_) (fun c6 h=> ?_))
     ·obtain⟨x10,hx10,h⟩:=bd h
      exact rk hC [oQ (wY hx10)] [13,64,65,66,67,68,69,70,71] [(13,vI (wr (Int.tdiv (wr ((wr ((wr (x8.2.1-x8.1))+size))-1)) size)))] [] [] (lE h)
     ·exact qk (lE h)
    ·obtain⟨x12,hx12,h⟩:=bd h
     refine rq hC [oR aD hx6,oC [] [22,23] (aCy G hx12),.z (.nat 24)] [14,72,73,74,75,76,77,78,79,80] [(14,V.ref 24 0)] [(22,some (ar 123 1 2 aC x12.nest)),(23,some (ar 84 1 9 aG x12.body)),(24,sc [ms 22 1 2 aC x12.nest,ms 23 1 9 aG x12.body])] [(22,true),(23,true),(24,true)] ?_
     obtain⟨x13,hx13,x14,hx14,x15,hx15,h⟩:=kX h
     refine rq hC [oC [] [25] (oL G hx13),oC [] [26] (b8 G hx14),.z (.at 3),.z (.fz 25 [82] []),.z (.at 3),.z (.fz 26 [85] []),oC [] [27] (jZ G hx15),.z (.nat 28)] [15,81,82,83,84,85,86] [(15,V.ref 28 0)] [(25,none),(26,none),(27,some (ar 3 1 1 rI x15.coefs)),(28,sc [ms 27 1 1 rI x15.coefs,vI x15.const])] [(25,true),(26,true),(27,true),(28,true)] (qs ?_)
     obtain⟨x16,hx16,x17,hx17,x18,hx18,h⟩:=kX h
     obtain⟨x19,hx19,h⟩:=bd h
     refine dk hC bA [.z (.at 14),.z (.fz 27 [] [28]),oC [] [29] (b8 G hx16),.z (.at 11),.z (.fz 29 [88] []),.z (.int 0),oC [] [30] (b8 G hx17),oC [] [31] (b8 G hx18),.z (.at 5),.z (.fz 31 [95] []),oC [] [32] (jZ G hx19),.z (.at 4),.z (.fz 30 [92] []),.z (.at 4),.z (.fz 32 [96] []),.z (.int 0),.z (.at 2),.z (.fz 23 [] [24]),.z (.nat 33)] [16,87,88,89,90,91,92,93,94,95,96,97,98] [(16,V.ref 33 0)] [(27,none),(28,some (E.cells (aK x15))),(29,none),(30,none),(31,none),(32,none),(23,none),(24,sc [ms 22 1 2 aC x12.nest,vM aG x12.body]),(33,sc [vM aA [x16,x15],vM aA [x17,x19]])] [(29,true),(30,true),(31,true),(32,true),(33,true)] ?_
     obtain⟨x20,hx20,x21,hx21,h⟩:=cO h
     refine rq hC [.z (.nat 34),.z (.at 3),.z (.fz 22 [101] [24]),oA (rU aC hx20),oQ (bW (r:=aC) 2 bL x12.nest),oA (aP aC hx21),oQ (bW (r:=aC) 2 bL []),oQ (bW (r:=aC) 2 bL x20)] [17,99,100,101,102,103,104] [(17,ms 34 2 2 aC x21)] [(34,some (ar 123 2 2 aC x21)),(24,some (E.cells (l4 x12))),(22,none)] [(34,true)] (qs ?_)
     obtain⟨x22,hx22,x23,hx23,x24,hx24,h⟩:=kX h
     refine dk hC bA [oC [] [35] (kO G n hx22),.z (.at 9),.z (.fz 35 [106] []),.z (.int 0),oC [] [36] (b8 G hx23),.z (.at 6),.z (.fz 36 [109] []),.z (.int 0),.z (.int 0),oA (aP aC hx24),oQ (bW (r:=aC) 2 bL x21),oQ (bW (r:=aC) 2 bL [(⟨[x22],[x23]⟩:Loop),(⟨[x16,x15],[x17,x19]⟩:Loop)])] [17,105,106,107,108,109,110,111,112,113,114] [(17,ms 34 3 2 aC x24)] [(35,none),(36,none),(34,some (ar 123 3 2 aC x24))] [(35,true),(36,true)] ?_
     obtain⟨x25,hx25,x26,hx26,h⟩:=cO h
     refine rq hC [oA (K9 aC hx25),oQ (bW (r:=aC) 2 bL x12.nest),oA (aP aC hx26),oQ (bW (r:=aC) 2 bL x24),oQ (bW (r:=aC) 2 bL x25)] [17,115,116,117,118,119,120,121,122] [] [(34,some (ar 123 4 2 aC x26)),(24,sc [ms 34 4 2 aC x26,vM aG x12.body])] [] ?_
     obtain⟨x27,hx27,h⟩:=bd h
     obtain rfl:=so h
     exact rq hC [.z (.at 7),.z (.fz 34 [] [24]),.z (.int 0),oV (aD7 G hx27)] [9,123,124,125,126,127,128,129] [(9,vB x27.2)] [(24,sc [vM aC x26,vM aG x12.body]),(34,none),(21,some (E.cells (bH x27.1)))] [] (qr eR)
theorem H0(G:GS)(n:Nat)(code:List UInt8)(more:List UInt8){r:Bool}(h:mL n code more=some r):PQ G 9 [vM rY code,vM rY more] (vB r):=by
 unfold mL at h
 refine pq aO Tryz.func9 rfl fun w X hC=> ?_
 refine rq hC [] [4] [] [] [] (qs (vj h (fun x_=>aX [(0,vM rY code),(1,vM rY more),(20,vB x_)] [] []) (fun j1 h=> ?_) (fun x2 h=> ?_)))
 ·
  refine aQ h (fun c1 h=> ?_) (fun c1 h=> ?_)
  ·exact rk hC [oN rY code,oF c1,oF c1,oN rY more,oF c1,oF c1] (fr 13 8) [(20,vB (decide ((1048576:Int)<(more.length:Int))))] [] [] (lE h)
  ·exact rk hC ([oN rY code]++rT 4 c1) (fr 13 8) [(20,vB true)] [] [] (lE h)
 ·refine aS h (fun c2 h=> ?_) (fun c2 h=> ?_)
  ·obtain rfl:=so h
   exact rq hC [] [4] [(4,vB true)] [] [] (qr eR)
  ·refine qk ?_
   obtain⟨x3,hx3,h⟩:=bd h
   refine rq hC [oV (zB G hx3),.z (.nat 20)] [5,6,7,8,21,22,23,24,25,26,27] [(5,V.ref 20 0),(6,vI x3.2.1),(7,vI x3.2.2.1),(8,vI x3.2.2.2)] [(20,some (E.cells (bH x3.1)))] [(20,true)] ?_
   obtain⟨x4,hx4,h⟩:=bd h
   refine rq hC [oV (X8 G hx4),.z (.nat 21)] [9,10,28,29,30,31,32,33,34,35] [(9,V.ref 21 0),(10,vB x4.2)] [(21,some (E.cells (bH x4.1)))] [(21,true)] ?_
   obtain⟨x5,hx5,h⟩:=bd h
   refine rq hC [oV (X3 G hx5),.z (.nat 22)] [11,12,36,37,38,39,40,41,42,43] [(11,V.ref 22 0),(12,vB x5.2)] [(22,some (E.cells (bH x5.1)))] [(22,true)] (qs (vj h (fun x_=>aX [(1,vM rY more),(5,V.ref 20 0),(6,vI x3.2.1),(9,V.ref 21 0),(10,vB x4.2),(11,V.ref 22 0),(12,vB x5.2),(56,vB x_)] [(20,E.cells (bH x3.1)),(21,E.cells (bH x4.1)),(22,E.cells (bH x5.1))] [20,21,22]) (fun j6 h=> ?_) (fun x8 h=> ?_)))
   ·
    refine aQ h (fun c3 h=> ?_) (fun c3 h=> ?_)
    ·obtain⟨x7,hx7,h⟩:=bd h
     refine aQ h (fun c4 h=> ?_) (fun c4 h=> ?_)
     ·exact rk hC (rF 3 c3++[oV (nK G hx7),oF c3,oF c3]++rF 3 c4) (fr 44 13) [(56,vB (!x4.2))] [] [] (lE h)
     ·exact rk hC (rF 3 c3++[oV (nK G hx7),oF c3,oF c3]++rT 3 c4) (fr 44 13) [(56,vB true)] [] [] (lE h)
    ·exact rk hC (rT 5 c3++[eT,eT,eT]) (fr 44 13) [(56,vB true)] [] [] (lE h)
   ·refine aS h (fun c5 h=> ?_) (fun c5 h=> ?_)
    ·refine vj h (fun x_=>aX [(4,vB x_)] [(20,E.cells (bH x3.1)),(21,E.cells (bH x4.1)),(22,E.cells (bH x5.1))] [20,21,22]) (fun j9 h=> ?_) (fun x11 h=> ?_)
     ·
      refine aQ h (fun c6 h=> ?_) (fun c6 h=> ?_)
      ·exact rk hC (rF 4 c6) [4,57,58,59,60,61,62,63,64] [(4,vB false)] [] [] (lE h)
      ·obtain⟨x10,hx10,h⟩:=bd h
       exact rk hC (rT 3 c6++[oV (nK G hx10),oT c6]) [4,57,58,59,60,61,62,63,64] [(4,vB x10)] [] [] (lE h)
     ·obtain rfl:=so h
      exact qr eR
    ·refine qk (vj h (fun x_=>aX [(4,vB x_)] [(20,E.cells (bH x3.1)),(21,E.cells (bH x4.1)),(22,E.cells (bH x5.1))] [20,21,22]) (fun j12 h=> ?_) (fun x17 h=> ?_))
     ·
      obtain⟨x13,hx13,h⟩:=bd h
      refine aQ h (fun c7 h=> ?_) (fun c7 h=> ?_)
      ·exact dk hC bA ([oV (sW G hx13)]++rF 6 c7++sF 17) [4,65,66,67,68,69,70,71,72,73,74,75,76,77,78,79,80,81,82,83,84,85,86,87,88,89,90,91,92] [(4,vB false)] [] [] (lE h)
      ·obtain⟨x14,hx14,h⟩:=bd h
       refine aQ h (fun c8 h=> ?_) (fun c8 h=> ?_)
       ·exact dk hC bA ([oV (sW G hx13)]++rT 4 c7++[oN rY more,oT c7,oV (F6 G hx14),oT c7]++rF 17 c8) [4,65,66,67,68,69,70,71,72,73,74,75,76,77,78,79,80,81,82,83,84,85,86,87,88,89,90,91,92] [(4,vB false)] [] [] (lE h)
       ·obtain⟨x15,hx15,x16,hx16,h⟩:=cO h
        exact dk hC bA ([oV (sW G hx13)]++rT 4 c7++[oN rY more,oT c7,oV (F6 G hx14),oT c7]++rT 4 c8++[oR aD hx15]++rT 3 c8++[oN aC x15.nest]++rT 4 c8++[oR aD hx16]++rT 3 c8++[oN aC x16.nest]++rT 3 c8) [4,65,66,67,68,69,70,71,72,73,74,75,76,77,78,79,80,81,82,83,84,85,86,87,88,89,90,91,92] [(4,vB (decide ((x15.nest.length:Int)=wr ((x16.nest.length:Int)+1))))] [] [] (lE h)
     ·obtain rfl:=so h
      exact qr eR
end Go.Lift
