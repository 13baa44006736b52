/- The walks: the code computes what the plain functions say. -/
import Derived.Test.YtohillieiccgdaaGreatDModels
import Derived.Test.YtohillieiccgdaaGreatDWalks2
set_option maxRecDepth 10000
set_option linter.unusedVariables false
namespace Go.Lift
open Go Go.Proofs
variable (G:GS) {n:Nat}
theorem kF{p}{r}(h:cI n p=some r):VQ G 19 [] [V.agg (bZ p)] (ms 0 1 3 aJ r) [ar 38 1 3 aJ r]:=by
 unfold cI at h
 refine vq aM Tryz.func19 rfl fun w X β0 hC hg=> ?_
 refine rq hC [.z (.b (true))] [1,2] [(1,V.tp (bM p))] [] [] ?_
 obtain⟨x1,hx1,h⟩:=bd h
 refine rq hC [oC [] [20] (dK G hx1)] (fr 3 7) [(3,ms 20 1 3 aJ x1.1),(4,vB x1.2)] [(20,some (ar 38 1 3 aJ x1.1))] [(20,true)] (qs (rq hC [] [10,11] [(11,vB (!x1.2))] [] [] (aP h (fun c1 h=> ?_) (fun c1 h=> ?_))))
 ·obtain rfl:=so h
  exact rq hC [] [2] [(2,V.t T.nilS)] [] [] (qw (lk hC [.grow 2 0 38] [2] [(2,ms 0 1 3 aJ [])] [(0,some (ar 38 1 3 aJ []))] [(0,true)]) (qr eW))
 ·obtain rfl:=so h
  exact qk (rq hC [] [2,12] [(2,ms 20 1 3 aJ x1.1)] [] [] (qw (lk hC [.ren 2 20 0] [2] [(2,ms 0 1 3 aJ x1.1)] [(0,some (ar 38 1 3 aJ x1.1)),(20,none)] [(0,true)]) (qr eW)))
theorem u3(G:GS)(n:Nat)(n_a0:Int){r:Bool}(h:dN n n_a0=some r):PQ G 152 [vI n_a0] (vB r):=by
 unfold dN at h
 refine pq aM Tryz.func152 rfl fun w X hC=> ?_
 refine rq hC [] [2] [] [] [] ?_
 obtain⟨x1,hx1,h⟩:=bd h
 obtain rfl:=so h
 exact rq hC [oV (bC G hx1)] (fr 2 4) [(2,vB (!x1))] [] [] (qr eR)
theorem fY{p}{r}(h:eC n p=some r):PQ G 28 [V.agg (bZ p)] (vB r):=by
 unfold eC at h
 refine pq aM Tryz.func28 rfl fun w X hC=> ?_
 refine rq hC [.z (.b (true))] [1,2] [(1,V.tp (bM p))] [] [] ?_
 obtain⟨x1,hx1,h⟩:=bd h
 obtain rfl:=so h
 exact rq hC [oC [] [20] (dK G hx1)] (fr 3 7) [(4,vB x1.2)] [(20,some (ar 38 1 3 aJ x1.1))] [(20,true)] (rq hC [] [2,10] [(2,vB x1.2)] [] [] (qr eR))
theorem iW{p}{r}(h:cS n p=some r):PQ G 85 [V.agg (bZ p)] (vI r):=by
 unfold cS at h
 refine pq aM Tryz.func85 rfl fun w X hC=> ?_
 refine rq hC [.z (.b (true))] [1,2] [(1,V.tp (bM p))] [] [] (rq hC [] [3] [(3,vI 0)] [] [] (qs (rq hC [oN aV p.arrays] (fr 6 4) [(7,vM aV p.arrays),(8,vI (p.arrays.length:Int)),(9,vI 0)] [] [] (qb (kX h (fun x_=>aZ [(3,vI x_.1),(7,vM aV p.arrays),(8,vI (p.arrays.length:Int)),(9,vI x_.2)] [] []) lS ?_)))))
 rintro again3 ⟨x1,x2⟩ h
 refine rq hC [] [10] [(10,vB (decide (x2<(p.arrays.length:Int))))] [] [] (qs (aP h (fun c1 h=> ?_) (fun c1 h=> ?_)))
 ·refine qk (qs (qb ?_))
  obtain⟨x4,hx4,h⟩:=bd h
  refine rq hC [oR aV hx4,.z (.nat 20)] [5,11,12] [(5,V.ref 20 0)] [(20,sc [vS x4.name,vM rI x4.dims])] [(20,true)] ?_
  obtain⟨x5,hx5,h⟩:=bd h
  exact rk hC [oV (q6 G hx5)] [3,13,14,15,16] [(3,vI (wr (x1+x5)))] [] [] (rk hC [] [9,17] [(9,vI (wr (x2+1)))] [] [] (lE h))
 ·obtain rfl:=so h
  exact cW (rq hC [] [2,18] [(2,vI x1)] [] [] (qr eR))
theorem kI{p}{m}{r}(h:eY n p m=some r):PQ G 61 [V.agg (bZ p),vM rI m] (vB r):=by
 unfold eY at h
 refine pq aM Tryz.func61 rfl fun w X hC=> ?_
 refine rq hC [.z (.b (true))] [2,4] [(2,V.tp (bM p))] [] [] (vj h (fun x_=>aZ [(4,vB x_)] [] []) (fun j1 h=> ?_) (fun x5 h=> ?_))
 ·
  obtain⟨x2,hx2,h⟩:=bd h
  refine aQ h (fun c1 h=> ?_) (fun c1 h=> ?_)
  ·exact rk hC ([oV (fY G hx2)]++rF 6 c1++sF 4) (fr 4 15) [(4,vB false)] [] [] (lE h)
  ·obtain⟨x3,hx3,h⟩:=bd h
   refine aQ h (fun c2 h=> ?_) (fun c2 h=> ?_)
   ·exact rk hC ([oV (fY G hx2),oT c1,oT c1,oN rI m,oT c1,oT c1,oV (iW G hx3),oT c1,oT c1]++rF 4 c2) (fr 4 15) [(4,vB false)] [] [] (lE h)
   ·obtain⟨x4,hx4,h⟩:=bd h
    exact rk hC [oV (fY G hx2),oT c1,oT c1,oN rI m,oT c1,oT c1,oV (iW G hx3),oT c1,oT c1,oT c2,oT c2,oV (cO G n m 152 (fun q0=>dN n q0) (fun q0 r h=>u3 G n q0 h) hx4),oT c2,oT c2] (fr 4 15) [(4,vB (!x4))] [] [] (lE h)
 ·obtain rfl:=so h
  exact qr eR
theorem pD{n_a0}{r}(h:jZ n n_a0=some r):PQ G 221 [vI n_a0] (vI r):=by
 unfold jZ at h
 refine pq aM Tryz.func221 rfl fun w X hC=> ?_
 obtain rfl:=so h
 exact rq hC [] [2] [] [] [] (rq hC [oQ (show(1000:Int)≠0 by decide),oQ (show(1000:Int)≠0 by decide)] (fr 2 6) [(2,vI (Int.tmod (wr ((wr ((Int.tmod n_a0 1000)+999))+1)) 1000))] [] [] (qr eR))
theorem uZ(G:GS): ∀(n:Nat) (p:Prog) (m:List Int) (e:Expr) (point:List Int) {r:Int} (h:i_Program_value n p m e point=some r),PQ G 153 [V.agg (bZ p),vM rI m,V.agg (gA e),vM rI point] (vI r):=by
 intro n
 induction n with
 |zero=>intro p m e point r h;rw [i_Program_value.eq_def] at h;cases h
 |succ n ih=>
  intro p m e point r h
  rw [i_Program_value.eq_def] at h;dsimp only at h
  refine pq aM Tryz.func153 rfl fun w X hC=> ?_
  refine rq hC [.z (.b (true)),.z (.b (true))] [4,6,8] [(4,V.tp (bM p)),(6,V.tp (iE e))] [] [] (qs (rq hC [] [11,12] [(12,vI e.kind)] [] [] (qb (rq hC [] [13,14] [(13,vB (decide (e.kind=1)))] [] [] (aP h (fun c1 h=> ?_) (fun c1 h=> ?_))))))
  ·obtain rfl:=so h
   exact rq hC [] [8,15,16] [(8,vI e.num)] [] [] (qr eR)
  ·refine rq hC [] [17,18] [(17,vB (decide (e.kind=2)))] [] [] (aP h (fun c2 h=> ?_) (fun c2 h=> ?_))
   ·obtain⟨x1,hx1,x2,hx2,h⟩:=dJ h
    obtain rfl:=so h
    exact rq hC [oV (dP G hx1),oV (pD G hx2)] [8,19,20,21,22,23] [(8,vI x2)] [] [] (qr eR)
   ·refine rq hC [] [24,25] [(24,vB (decide (e.kind=3)))] [] [] (aP h (fun c3 h=> ?_) (fun c3 h=> ?_))
    ·obtain⟨x3,hx3,x4,hx4,h⟩:=dJ h
     obtain rfl:=so h
     exact rq hC [oV (cJ G hx3),oR rI hx4] [8,26,27,28,29,30,31,32,33] [(8,vI x4)] [] [] (qr eR)
    ·refine qk (qs ?_)
     obtain⟨x5,hx5,x6,hx6,x7,hx7,h⟩:=kK h
     obtain⟨x8,hx8,h⟩:=bd h
     refine dk hC bO [.z (.row (eI x5)),oQ (gN aN hx5 (dG x5)),oV (ih p m x5 point hx6),.z (.row (eI x7)),oQ (gN aN hx7 (dG x7)),oV (ih p m x7 point hx8)] [9,10,34,35,36,37,38,39,40,41,42,43,44,45,46,47,48,49] [(9,vI x6),(10,vI x8)] [] [] (qs (rq hC [] [50,51] [(51,vI e.kind)] [] [] (qb (rq hC [] [52,53] [(52,vB (decide (e.kind=4)))] [] [] (aP h (fun c4 h=> ?_) (fun c4 h=> ?_))))))
     ·obtain⟨x9,hx9,h⟩:=bd h
      obtain rfl:=so h
      exact rq hC [oV (pD G hx9)] [8,54,55,56,57] [(8,vI x9)] [] [] (qr eR)
     ·refine rq hC [] [58,59] [(58,vB (decide (e.kind=5)))] [] [] (aP h (fun c5 h=> ?_) (fun c5 h=> ?_))
      ·obtain⟨x10,hx10,h⟩:=bd h
       obtain rfl:=so h
       exact rq hC [oV (pD G hx10)] [8,60,61,62,63] [(8,vI x10)] [] [] (qr eR)
      ·refine qk ?_
       obtain⟨x11,hx11,h⟩:=bd h
       obtain rfl:=so h
       exact rq hC [oV (pD G hx11)] [8,64,65,66,67] [(8,vI x11)] [] [] (qr eR)
theorem q5{p}{m}(mG:Nat){x}{r}(h:fV n p m x=some r):VQ G 63 [ar 3 mG 1 rI m] [V.agg (bZ p),ms 0 mG 1 rI m,V.agg (Z3 x)] (V.tup []) [ar 3 mG 1 rI r]:=by
 unfold fV at h
 refine vq aM Tryz.func63 rfl fun w X β0 hC hg=> ?_
 refine rq hC [.z (.b (true)),.z (.b (true))] [3,5] [(3,V.tp (bM p)),(5,V.tp (aBC x))] [] [] ?_
 obtain⟨x1,hx1,h⟩:=bd h
 refine rq hC [oV (n8 G hx1),.z (.nat 20)] (fr 6 4) [(6,V.ref 20 0)] [(20,some (E.cells (gH x1)))] [(20,true)] ?_
 obtain⟨x2,hx2,x3,hx3,x4,hx4,h⟩:=kK h
 obtain⟨x5,hx5,h⟩:=bd h
 obtain rfl:=so h
 exact dk hC bO [oV (cJ G hx2),.z (.b (true)),oV (uZ G n p m x1.value x.point hx3),oQ (iP rI hx4),oX rI hx4,.z (.rows (List.map rI x5)),oQ (str rI hx5)] [1,10,11,12,13,14,15,16,17,18,19,20,21,22,23,24] [] [(0,some (ar 3 mG 1 rI x5))] [] eW
theorem E0{p}{m}{r}(h:fU n p m=some r):VQ G 16 [] [V.agg (bZ p),vM rI m] (V.tup [ms 0 1 1 rI r.1,vB r.2]) [ar 3 1 1 rI r.1]:=by
 unfold fU at h
 refine vq aM Tryz.func16 rfl fun w X β0 hC hg=> ?_
 refine rq hC [.z (.b (true))] [2,4,5] [(2,V.tp (bM p))] [] [] (qs ?_)
 obtain⟨x1,hx1,h⟩:=bd h
 refine rq hC [oV (kI G hx1)] (fr 9 4) [(12,vB (!x1))] [] [] (aP h (fun c1 h=> ?_) (fun c1 h=> ?_))
 ·obtain rfl:=so h
  exact rq hC [] [4,5] [(4,V.t T.nilS),(5,vB false)] [] [] (qw (lk hC [.grow 4 0 3] [4] [(4,ms 0 1 1 rI [])] [(0,some (ar 3 1 1 rI []))] [(0,true)]) (qr eW))
 ·refine qk ?_
  obtain⟨x2,hx2,h⟩:=bd h
  refine rq hC [oC [] [20] (G.clone m hx2)] [6,13,14] [(6,ms 20 1 1 rI x2)] [(20,some (ar 3 1 1 rI x2))] [(20,true)] (qs ?_)
  obtain⟨x3,hx3,h⟩:=bd h
  refine rq hC [oC [] [21] (kF G hx3),oN aJ x3] (fr 15 4) [(16,ms 21 1 3 aJ x3),(17,vI (x3.length:Int)),(18,vI 0)] [(21,some (ar 38 1 3 aJ x3))] [(21,true)] (qb (bB (γ:=Nat) h (fun x_ g_=>aZ [(2,V.tp (bM p)),(6,ms 20 g_ 1 rI x_.1),(16,ms 21 1 3 aJ x3),(17,vI (x3.length:Int)),(18,vI x_.2)] [(20,ar 3 g_ 1 rI x_.1),(21,ar 38 1 3 aJ x3)] [20,21]) 1 (lS) ?_))
  rintro again7 ⟨x4,x5⟩ g6 h
  refine rq hC [] [19] [(19,vB (decide (x5<(x3.length:Int))))] [] [] (qs (aP h (fun c2 h=> ?_) (fun c2 h=> ?_)))
  ·refine qk (qs (qb ?_))
   obtain⟨x8,hx8,h⟩:=bd h
   refine rq hC [oQ (iP aJ hx8),oX aJ hx8,.z (.nat 22)] [8,20,21] [(8,V.ref 22 0)] [(22,some (E.cells (Z3 x8)))] [(22,true)] ?_
   obtain⟨x9,hx9,x10,hx10,h⟩:=dJ h
   exact rk hC [oC [20] [] (q5 G g6 hx9),.z (.len 6 (List.map rI x9).length),oQ (aAo rI hx10)] [6,22,23,24,25] [(6,ms 20 g6 1 rI x9)] [(20,some (ar 3 g6 1 rI x9))] [(20,true)] (rk hC [] [18,26] [(18,vI (wr (x5+1)))] [] [] ⟨(x9,wr (x5+1)),g6,h,lS⟩)
  ·obtain rfl:=so h
   exact cW (rq hC [] [4,5,27] [(4,ms 20 g6 1 rI x4),(5,vB true)] [] [] (qw (lk hC [.ren 4 20 0] [4] [(4,ms 0 1 1 rI x4)] [(0,some (ar 3 1 1 rI x4)),(20,none)] [(0,true)]) (qr eW)))
theorem aA4{a}{b}{r}(h:lH n a b=some r):PQ G 17 [vM rI a,vM rI b] (vB r):=by
 unfold lH at h
 refine pq aM Tryz.func17 rfl fun w X hC=> ?_
 refine rq hC [] [4] [] [] [] (qs (rq hC [oN rI a,oN rI b] (fr 6 5) [(10,vB (!decide ((a.length:Int)=(b.length:Int))))] [] [] (aP h (fun c1 h=> ?_) (fun c1 h=> ?_))))
 ·obtain rfl:=so h
  exact rq hC [] [4] [(4,vB false)] [] [] (qr eR)
 ·refine qk (qs (rq hC [] [5] [(5,vI 0)] [] [] (qb (kX h (fun x_=>aZ [(0,vM rI a),(1,vM rI b),(5,vI x_)] [] []) lS ?_))))
  rintro again2 x1 h
  refine qs (rq hC [oN rI a] (fr 11 4) [(14,vB (decide (x1<(a.length:Int))))] [] [] (aP h (fun c2 h=> ?_) (fun c2 h=> ?_)))
  ·refine qk (qs (qb (qs ?_)))
   obtain⟨x3,hx3,x4,hx4,h⟩:=dJ h
   refine dk hC bO [oR rI hx3,oR rI hx4] (fr 17 9) [(25,vB (!decide (x3=x4)))] [] [] (aP h (fun c3 h=> ?_) (fun c3 h=> ?_))
   ·obtain rfl:=so h
    exact rq hC [] [4] [(4,vB false)] [] [] (qr eR)
   ·exact qk (rk hC [] [5,15,16] [(5,vI (wr (x1+1)))] [] [] (lE h))
  ·obtain rfl:=so h
   exact cW (rq hC [] [4] [(4,vB true)] [] [] (qr eR))
theorem gO{p}{r}(h:dA n p=some r):VQ G 70 [] [V.agg (bZ p)] (ms 0 1 3 aJ r) [ar 38 1 3 aJ r]:=by
 unfold dA at h
 refine vq aM Tryz.func70 rfl fun w X β0 hC hg=> ?_
 refine rq hC [.z (.b (true))] [1,2] [(1,V.tp (bM p))] [] [] (rq hC [.z (.nat 20)] [3,8] [(3,ms 20 1 3 aJ [])] [(20,some (ar 38 1 3 aJ []))] [(20,true)] (qs (rq hC [] [4] [(4,vI 0)] [] [] (qb (bB (γ:=Nat) h (fun x_ g_=>aZ [(1,V.tp (bM p)),(3,ms 20 g_ 3 aJ x_.1),(4,vI x_.2)] [(20,ar 38 g_ 3 aJ x_.1)] [20]) 1 (lS) ?_)))))
 rintro again4 ⟨x1,x2⟩ g3 h
 refine qs (rq hC [oN aH p.parts] (fr 9 5) [(13,vB (decide (x2<(p.parts.length:Int))))] [] [] (aP h (fun c1 h=> ?_) (fun c1 h=> ?_)))
 ·refine qk (qs (qb ?_))
  obtain⟨x5,hx5,x6,hx6,h⟩:=dJ h
  refine rq hC [.z (.nat 21),oR aH hx5,oC [21] [] (uV G n [] 1 x5.nest [] hx6)] [5,16,17,18,19,20,21,22,23] [(5,ms 21 2 1 (rL rI) x6)] [(21,some (ar 27 2 1 (rL rI) x6))] [(21,true),(21,true)] (rq hC [] [6] [(6,vI 0)] [] [] (qb (bB (γ:=Nat) h (fun x_ g_=>aZ [(1,V.tp (bM p)),(3,ms 20 g_ 3 aJ x_.1),(4,vI x2),(5,ms 21 2 1 (rL rI) x6),(6,vI x_.2)] [(20,ar 38 g_ 3 aJ x_.1),(21,ar 27 2 1 (rL rI) x6)] [20,21]) g3 (lS) ?_)))
  rintro again10 ⟨x7,x8⟩ g9 h
  refine qs (rq hC [oN (rL rI) x6] (fr 24 4) [(27,vB (decide (x8<(x6.length:Int))))] [] [] (aP h (fun c2 h=> ?_) (fun c2 h=> ?_)))
  ·refine qk (qs (qb (rq hC [] [7] [(7,vI 0)] [] [] (qb (bB (γ:=Nat) h (fun x_ g_=>aZ [(1,V.tp (bM p)),(3,ms 20 g_ 3 aJ x_.1),(4,vI x2),(5,ms 21 2 1 (rL rI) x6),(6,vI x8),(7,vI x_.2)] [(20,ar 38 g_ 3 aJ x_.1),(21,ar 27 2 1 (rL rI) x6)] [20,21]) g9 (lS) ?_)))))
   rintro again14 ⟨x11,x12⟩ g13 h
   refine qs (rq hC [oR aH hx5,oN bA x5.body] (fr 30 9) [(38,vB (decide (x12<(x5.body.length:Int))))] [] [] (aP h (fun c3 h=> ?_) (fun c3 h=> ?_)))
   ·refine qk (qs (qb ?_))
    obtain⟨x15,hx15,x16,hx16,x17,hx17,h⟩:=kK h
    exact rk hC [.z (.nat 22),oQ (iP (rL rI) hx15),oX (rL rI) hx15,oA (aU rI hx16),.z (.at 4),.z (.fz 22 [49] []),.z (.int 0),oQ (cL (r:=rI) 1 (fun _=>rfl) []),oQ (cL (r:=rI) 1 (fun _=>rfl) x15),oA (aU aJ hx17),oQ (cL (r:=aJ) 3 rQ x11),oQ (cL (r:=aJ) 3 rQ [(⟨x2,x12,x16⟩:Inst)])] [3,41,42,43,44,45,46,47,48,49,50,51,52] [(3,ms 20 (g13+1) 3 aJ x17)] [(22,none),(20,some (ar 38 (g13+1) 3 aJ x17))] [(22,true)] (rk hC [] [7,39,40] [(7,vI (wr (x12+1)))] [] [] ⟨(x17,wr (x12+1)),(g13+1),h,lS⟩)
   ·exact cW (rk hC [] [6,28,29] [(6,vI (wr (x8+1)))] [] [] ⟨(x11,wr (x8+1)),g13,h,lS⟩)
  ·exact cW (rk hC [] [4,14,15] [(4,vI (wr (x2+1)))] [] [] ⟨(x7,wr (x2+1)),g9,h,lS⟩)
 ·obtain rfl:=so h
  exact cW (rq hC [] [2,53] [(2,ms 20 g3 3 aJ x1)] [] [] (qw (lk hC [.ren 2 20 0] [2] [(2,ms 0 1 3 aJ x1)] [(0,some (ar 38 1 3 aJ x1)),(20,none)] [(0,true)]) (qr eW)))
theorem aA5{p}{r}(h:pY n p=some r):VQ G 65 [] [V.agg (bZ p)] (ms 0 1 2 cA r) [ar 83 1 2 cA r]:=by
 unfold pY at h
 refine vq aM Tryz.func65 rfl fun w X β0 hC hg=> ?_
 refine rq hC [.z (.b (true))] [1,2] [(1,V.tp (bM p))] [] [] (rq hC [.z (.nat 20)] [3,9] [(3,ms 20 1 2 cA [])] [(20,some (ar 83 1 2 cA []))] [(20,true)] ?_)
 obtain⟨x1,hx1,h⟩:=bd h
 refine rq hC [oC [] [21] (gO G hx1)] [4,10,11] [(4,ms 21 1 3 aJ x1)] [(21,some (ar 38 1 3 aJ x1))] [(21,true)] (qs (rq hC [] [5] [(5,vI 0)] [] [] (qb (bB (γ:=Nat) h (fun x_ g_=>aZ [(1,V.tp (bM p)),(3,ms 20 g_ 2 cA x_.1),(4,ms 21 1 3 aJ x1),(5,vI x_.2)] [(20,ar 83 g_ 2 cA x_.1),(21,ar 38 1 3 aJ x1)] [20,21]) 1 (lS) ?_))))
 rintro again5 ⟨x2,x3⟩ g4 h
 refine qs (rq hC [oN aJ x1] (fr 12 4) [(15,vB (decide (x3<(x1.length:Int))))] [] [] (aP h (fun c1 h=> ?_) (fun c1 h=> ?_)))
 ·refine qk (qs (qb (qs ?_)))
  obtain⟨x6,hx6,x7,hx7,x8,hx8,h⟩:=kK h
  obtain⟨x9,hx9,h⟩:=bd h
  refine dk hC bO [oQ (iP aJ hx6),oX aJ hx6,oR aH hx7,oQ (iP aJ hx6),oX aJ hx6,oR bA hx8,oQ (iP aJ hx6),oX aJ hx6,oC [] [22] (w7 G hx9)] [6,7,8,18,19,20,21,22,23,24,25,26,27,28,29,30,31,32,33,34,35,36,37,38,39,40,41,42,43,44,45,46] [(6,ms 22 1 1 rI x9.1),(7,vI x9.2.1)] [(22,some (ar 3 1 1 rI x9.1))] [(22,true)] ?_
  obtain⟨x10,hx10,h⟩:=bd h
  exact rk hC [.z (.at 4),.z (.fz 22 [6,48] []),.z (.int 0),oA (aU cA hx10),oQ (cL (r:=cA) 2 zB x2),oQ (cL (r:=cA) 2 zB [(⟨x9.1,x9.2.1⟩:L6Use)])] [3,6,47,48,49,50,51,52] [(3,ms 20 (g4+1) 2 cA x10)] [(22,none),(20,some (ar 83 (g4+1) 2 cA x10))] [] (rk hC [] [5,16,17] [(5,vI (wr (x3+1)))] [] [] ⟨(x10,wr (x3+1)),(g4+1),h,lS⟩)
 ·obtain rfl:=so h
  exact cW (rq hC [] [2,53] [(2,ms 20 g4 2 cA x2)] [] [] (qw (lk hC [.ren 2 20 0] [2] [(2,ms 0 1 2 cA x2)] [(0,some (ar 83 1 2 cA x2)),(20,none)] [(0,true)]) (qr eW)))
theorem L0{list}{n_a1}{r}(h:rE n list n_a1=some r):PQ G 158 [vM rI list,vI n_a1] (vB r):=by
 unfold rE at h
 refine pq aM Tryz.func158 rfl fun w X hC=> ?_
 refine rq hC [] [4] [] [] [] (qs (rq hC [] [5] [(5,vI 0)] [] [] (qb (kX h (fun x_=>aZ [(0,vM rI list),(1,vI n_a1),(5,vI x_)] [] []) lS ?_))))
 rintro again2 x1 h
 refine qs (rq hC [oN rI list] (fr 6 4) [(9,vB (decide (x1<(list.length:Int))))] [] [] (aP h (fun c1 h=> ?_) (fun c1 h=> ?_)))
 ·refine qk (qs (qb ?_))
  obtain⟨x3,hx3,h⟩:=bd h
  refine rq hC [oR rI hx3] (fr 12 6) [(17,vB (decide (x3=n_a1)))] [] [] (aP h (fun c2 h=> ?_) (fun c2 h=> ?_))
  ·obtain rfl:=so h
   exact rq hC [] [4] [(4,vB true)] [] [] (qr eR)
  ·exact qk (rk hC [] [5,10,11] [(5,vI (wr (x1+1)))] [] [] (lE h))
 ·obtain rfl:=so h
  exact cW (rq hC [] [4] [(4,vB false)] [] [] (qr eR))
theorem Z0{order}{many}{r}(h:nS n order many=some r):PQ G 171 [vM rI order,vI many] (vB r):=by
 unfold nS at h
 refine pq aM Tryz.func171 rfl fun w X hC=> ?_
 refine rq hC [] [4] [] [] [] ?_
 obtain⟨x1,hx1,h⟩:=bd h
 refine rq hC [.z (.nat 20),oA (tA rB hx1),oQ (kO hx1).1] [5,8,9] [(5,ms 20 1 1 rB x1)] [(20,some (ar 4 1 1 rB x1))] [(20,true)] (qs (rq hC [oN rI order] [10,11,12] [(10,vM rI order),(11,vI (order.length:Int)),(12,vI 0)] [] [] (qb (bB (γ:=Nat) h (fun x_ g_=>aZ [(0,vM rI order),(1,vI many),(5,ms 20 g_ 1 rB x_.1),(10,vM rI order),(11,vI (order.length:Int)),(12,vI x_.2)] [(20,ar 4 g_ 1 rB x_.1)] [20]) 1 (lS) ?_))))
 rintro again5 ⟨x2,x3⟩ g4 h
 refine rq hC [] [13] [(13,vB (decide (x3<(order.length:Int))))] [] [] (qs (aP h (fun c1 h=> ?_) (fun c1 h=> ?_)))
 ·refine qk (qs (qb ?_))
  obtain⟨x6,hx6,h⟩:=bd h
  refine rq hC [oR rI hx6] [7,14,15] [(7,vI x6)] [] [] (qs (vj h (fun x_=>aZ [(0,vM rI order),(1,vI many),(5,ms 20 g4 1 rB x2),(7,vI x6),(10,vM rI order),(11,vI (order.length:Int)),(12,vI x3),(26,vB x_)] [(20,ar 4 g4 1 rB x2)] [20]) (fun j7 h=> ?_) (fun x10 h=> ?_)))
  ·
   obtain⟨x8,hx8,h⟩:=bd h
   refine aQ h (fun c2 h=> ?_) (fun c2 h=> ?_)
   ·obtain⟨x9,hx9,h⟩:=bd h
    exact rk hC ([oV (bC G hx8)]++rF 3 c2++[oQ (iP rB hx9),oF c2,oX rB hx9,oF c2]) (fr 16 11) [(26,vB x9)] [] [] (lE h)
   ·exact rk hC ([oV (bC G hx8)]++rT 5 c2) (fr 16 11) [(26,vB true)] [] [] (lE h)
  ·refine aP h (fun c3 h=> ?_) (fun c3 h=> ?_)
   ·obtain rfl:=so h
    exact rq hC [] [4] [(4,vB false)] [] [] (qr eR)
   ·refine qk ?_
    obtain⟨x11,hx11,x12,hx12,h⟩:=dJ h
    exact rk hC [oQ (iP rB hx11),oX rB hx11,.z (.rows (List.map rB x12)),.z (.len 5 (List.map rB x12).length),oQ (str rB hx12),oQ (lX rB hx12)] [5,27,28,29] [(5,ms 20 g4 1 rB x12)] [(20,some (ar 4 g4 1 rB x12))] [] (rk hC [] [12,30] [(12,vI (wr (x3+1)))] [] [] ⟨(x12,wr (x3+1)),g4,h,lS⟩)
 ·obtain rfl:=so h
  exact cW (rq hC [oN rI order] [4,31,32,33,34] [(4,vB (decide ((order.length:Int)=many)))] [] [] (qr eR))
theorem mA{p}{order}{r}(h:fW n p order=some r):PQ G 72 [V.agg (bZ p),vM rI order] (vB r):=by
 unfold fW at h
 refine pq aM Tryz.func72 rfl fun w X hC=> ?_
 refine rq hC [.z (.b (true))] [2,4] [(2,V.tp (bM p))] [] [] ?_
 obtain⟨x1,hx1,h⟩:=bd h
 refine rq hC [oC [] [20] (dK G hx1)] (fr 5 7) [(5,ms 20 1 3 aJ x1.1),(6,vB x1.2)] [(20,some (ar 38 1 3 aJ x1.1))] [(20,true)] (vj h (fun x_=>aZ [(4,vB x_)] [(20,ar 38 1 3 aJ x1.1)] [20]) (fun j2 h=> ?_) (fun x4 h=> ?_))
 ·
  refine aQ h (fun c1 h=> ?_) (fun c1 h=> ?_)
  ·exact rk hC (rF 5 c1) [4,12,13,14,15,16,17,18] [(4,vB false)] [] [] (lE h)
  ·obtain⟨x3,hx3,h⟩:=bd h
   exact rk hC (rT 3 c1++[oN aJ x1.1,oT c1,oV (Z0 G hx3),oT c1]) [4,12,13,14,15,16,17,18] [(4,vB x3)] [] [] (lE h)
 ·obtain rfl:=so h
  exact qr eR
theorem R0{p}{m}{order}{r}(h:jK n p m order=some r):VQ G 22 [] [V.agg (bZ p),vM rI m,vM rI order] (V.tup [ms 0 1 1 rI r.1,vB r.2]) [ar 3 1 1 rI r.1]:=by
 unfold jK at h
 refine vq aM Tryz.func22 rfl fun w X β0 hC hg=> ?_
 refine rq hC [.z (.b (true))] [3,6,7] [(3,V.tp (bM p))] [] [] (qs (vj h (fun x_=>aZ [(1,vM rI m),(2,vM rI order),(3,V.tp (bM p)),(21,vB x_)] [] []) (fun j1 h=> ?_) (fun x4 h=> ?_)))
 ·
  obtain⟨x2,hx2,h⟩:=bd h
  refine aQ h (fun c1 h=> ?_) (fun c1 h=> ?_)
  ·obtain⟨x3,hx3,h⟩:=bd h
   exact rk hC ([oV (kI G hx2)]++rF 3 c1++[oV (mA G hx3),oF c1,oF c1]) (fr 12 10) [(21,vB (!x3))] [] [] (lE h)
  ·exact rk hC ([oV (kI G hx2)]++rT 5 c1) (fr 12 10) [(21,vB true)] [] [] (lE h)
 ·refine aP h (fun c2 h=> ?_) (fun c2 h=> ?_)
  ·obtain rfl:=so h
   exact rq hC [] [6,7] [(6,V.t T.nilS),(7,vB false)] [] [] (qw (lk hC [.grow 6 0 3] [6] [(6,ms 0 1 1 rI [])] [(0,some (ar 3 1 1 rI []))] [(0,true)]) (qr eW))
  ·refine qk ?_
   obtain⟨x5,hx5,h⟩:=bd h
   refine rq hC [oC [] [20] (kF G hx5)] [8,22,23] [(8,ms 20 1 3 aJ x5)] [(20,some (ar 38 1 3 aJ x5))] [(20,true)] ?_
   obtain⟨x6,hx6,h⟩:=bd h
   refine rq hC [oC [] [21] (G.clone m hx6)] [9,24,25] [(9,ms 21 1 1 rI x6)] [(21,some (ar 3 1 1 rI x6))] [(21,true)] (qs (rq hC [oN rI order] [26,27,28] [(26,vM rI order),(27,vI (order.length:Int)),(28,vI 0)] [] [] (qb (bB (γ:=Nat) h (fun x_ g_=>aZ [(3,V.tp (bM p)),(8,ms 20 1 3 aJ x5),(9,ms 21 g_ 1 rI x_.1),(26,vM rI order),(27,vI (order.length:Int)),(28,vI x_.2)] [(20,ar 38 1 3 aJ x5),(21,ar 3 g_ 1 rI x_.1)] [20,21]) 1 (lS) ?_))))
   rintro again10 ⟨x7,x8⟩ g9 h
   refine rq hC [] [29] [(29,vB (decide (x8<(order.length:Int))))] [] [] (qs (aP h (fun c3 h=> ?_) (fun c3 h=> ?_)))
   ·refine qk (qs (qb ?_))
    obtain⟨x11,hx11,h⟩:=bd h
    refine rq hC [oR rI hx11] [11,30,31] [(11,vI x11)] [] [] ?_
    obtain⟨x12,hx12,x13,hx13,x14,hx14,h⟩:=kK h
    exact dk hC bO [oQ (iP aJ hx12),oX aJ hx12,oC [21] [] (q5 G g9 hx13)] (fr 32 7) [] [(21,some (ar 3 g9 1 rI x13))] [(21,true)] (qw (lpP hC [.len 9 (List.map rI x13).length] [9] [(9,ms 21 g9 1 rI x13)] [] [] (a1 (aAo rI hx14)) (by kernel_rfl)) (rk hC [] [28,39] [(28,vI (wr (x8+1)))] [] [] ⟨(x13,wr (x8+1)),g9,h,lS⟩))
   ·obtain rfl:=so h
    exact cW (rq hC [] [6,7,40] [(6,ms 21 g9 1 rI x7),(7,vB true)] [] [] (qw (lk hC [.ren 6 21 0] [6] [(6,ms 0 1 1 rI x7)] [(0,some (ar 3 1 1 rI x7)),(21,none)] [(0,true)]) (qr eW)))
theorem tP{t}{from_a1}{to_a2}{r}(h:eA n t from_a1 to_a2=some r):PQ G 74 [V.tp [T.sl (List.map aV t.program.arrays),T.sl (List.map aH t.program.parts),T.sl (List.map aJ t.list),T.sl (List.map (rL rI) t.reads),T.sl (List.map rI t.writes)],vI from_a1,vI to_a2] (vI r):=by
 unfold eA at h
 refine pq aM Tryz.func74 rfl fun w X hC=> ?_
 refine rq hC [] [6] [] [] [] (rq hC [] [7] [(7,vI 0)] [] [] (vj h (fun x_=>aZ [(0,V.tp [T.sl (List.map aV t.program.arrays),T.sl (List.map aH t.program.parts),T.sl (List.map aJ t.list),T.sl (List.map (rL rI) t.reads),T.sl (List.map rI t.writes)]),(1,vI from_a1),(2,vI to_a2),(7,vI x_)] [] []) (fun j1 h=> ?_) (fun x5 h=> ?_)))
 ·
  refine qs ?_
  obtain⟨x2,hx2,x3,hx3,x4,hx4,h⟩:=kK h
  refine dk hC bO [oR (rL rI) hx2,oR rI hx3,oV (n7 G hx4)] (fr 8 15) [(22,vB x4)] [] [] (aP h (fun c1 h=> ?_) (fun c1 h=> ?_))
  ·exact rk hC [] [7,23,24] [(7,vI (wr (0+1)))] [] [] (lE h)
  ·exact qk (lE h)
 ·refine vj h (fun x_=>aZ [(0,V.tp [T.sl (List.map aV t.program.arrays),T.sl (List.map aH t.program.parts),T.sl (List.map aJ t.list),T.sl (List.map (rL rI) t.reads),T.sl (List.map rI t.writes)]),(1,vI from_a1),(2,vI to_a2),(7,vI x_)] [] []) (fun j6 h=> ?_) (fun x10 h=> ?_)
  ·
   refine qs ?_
   obtain⟨x7,hx7,x8,hx8,x9,hx9,h⟩:=kK h
   refine dk hC bO [oR (rL rI) hx7,oR rI hx8,oV (n7 G hx9)] (fr 25 15) [(39,vB x9)] [] [] (aP h (fun c2 h=> ?_) (fun c2 h=> ?_))
   ·exact rk hC [] [7,40,41] [(7,vI (wr (x5+2)))] [] [] (lE h)
   ·exact qk (lE h)
  ·refine vj h (fun x_=>aZ [(7,vI x_)] [] []) (fun j11 h=> ?_) (fun x14 h=> ?_)
   ·
    refine qs ?_
    obtain⟨x12,hx12,x13,hx13,h⟩:=dJ h
    refine dk hC bO [oR rI hx12,oR rI hx13] (fr 42 15) [(56,vB (decide (x12=x13)))] [] [] (aP h (fun c3 h=> ?_) (fun c3 h=> ?_))
    ·exact rk hC [] [7,57,58] [(7,vI (wr (x10+4)))] [] [] (lE h)
    ·exact qk (lE h)
   ·obtain rfl:=so h
    exact rq hC [] [6,59] [(6,vI x14)] [] [] (qr eR)
theorem X7{a}{b}{r}(h:nC n a b=some r):PQ G 75 [V.agg [vM rI a.reads,vI a.write],V.agg [vM rI b.reads,vI b.write]] (vI r):=by
 unfold nC at h
 refine pq aM Tryz.func75 rfl fun w X hC=> ?_
 refine rq hC [.z (.b (true)),.z (.b (true))] [2,3,4] [(2,V.tp [T.sl (List.map rI a.reads),T.int .i64 a.write]),(3,V.tp [T.sl (List.map rI b.reads),T.int .i64 b.write])] [] [] (rq hC [] [5] [(5,vI 0)] [] [] (vj h (fun x_=>aZ [(2,V.tp [T.sl (List.map rI a.reads),T.int .i64 a.write]),(3,V.tp [T.sl (List.map rI b.reads),T.int .i64 b.write]),(5,vI x_)] [] []) (fun j1 h=> ?_) (fun x3 h=> ?_)))
 ·
  obtain⟨x2,hx2,h⟩:=bd h
  refine rq hC [oV (L0 G hx2)] (fr 6 5) [(10,vB x2)] [] [] (aP h (fun c1 h=> ?_) (fun c1 h=> ?_))
  ·exact rk hC [] [5,11,12] [(5,vI (wr (0+1)))] [] [] (lE h)
  ·exact qk (lE h)
 ·refine vj h (fun x_=>aZ [(2,V.tp [T.sl (List.map rI a.reads),T.int .i64 a.write]),(3,V.tp [T.sl (List.map rI b.reads),T.int .i64 b.write]),(5,vI x_)] [] []) (fun j4 h=> ?_) (fun x6 h=> ?_)
  ·
   obtain⟨x5,hx5,h⟩:=bd h
   refine rq hC [oV (L0 G hx5)] (fr 13 5) [(17,vB x5)] [] [] (aP h (fun c2 h=> ?_) (fun c2 h=> ?_))
   ·exact rk hC [] [5,18,19] [(5,vI (wr (x3+2)))] [] [] (lE h)
   ·exact qk (lE h)
  ·refine vj h (fun x_=>aZ [(5,vI x_)] [] []) (fun j7 h=> ?_) (fun x8 h=> ?_)
   ·
    refine rq hC [] (fr 20 5) [(24,vB (decide (a.write=b.write)))] [] [] (aP h (fun c3 h=> ?_) (fun c3 h=> ?_))
    ·exact rk hC [] [5,25,26] [(5,vI (wr (x6+4)))] [] [] (lE h)
    ·exact qk (lE h)
   ·obtain rfl:=so h
    exact rq hC [] [4,27] [(4,vI x8)] [] [] (qr eR)
theorem xS{t}{r}(h:gG n t=some r):VQ G 96 [] [V.tp [T.sl (List.map aV t.program.arrays),T.sl (List.map aH t.program.parts),T.sl (List.map aJ t.list),T.sl (List.map (rL rI) t.reads),T.sl (List.map rI t.writes)]] (ms 0 1 3 bT r) [ar 100 1 3 bT r]:=by
 unfold gG at h
 refine vq aM Tryz.func96 rfl fun w X β0 hC hg=> ?_
 refine rq hC [] [2] [] [] [] (rq hC [] [3] [(3,V.t T.nilS)] [] [] (qs (rq hC [oN aJ t.list] (fr 7 6) [(11,vI (t.list.length:Int)),(12,vI 0)] [] [] (qb (qw (lk hC [.grow 3 20 100] [3] [(3,ms 20 1 3 bT [])] [(20,some (ar 100 1 3 bT []))] [(20,true)]) ?_)))))
 refine bB (γ:=Nat) h (fun x_ g_=>aZ [(0,V.tp [T.sl (List.map aV t.program.arrays),T.sl (List.map aH t.program.parts),T.sl (List.map aJ t.list),T.sl (List.map (rL rI) t.reads),T.sl (List.map rI t.writes)]),(3,ms 20 g_ 3 bT x_.1),(11,vI (t.list.length:Int)),(12,vI x_.2)] [(20,ar 100 g_ 3 bT x_.1)] [20]) 1 (lS) ?_
 rintro again4 ⟨x1,x2⟩ g3 h
 refine rq hC [] [13] [(13,vB (decide (x2<(t.list.length:Int))))] [] [] (qs (aP h (fun c1 h=> ?_) (fun c1 h=> ?_)))
 ·refine qk (qs (qb (rq hC [] [4,14] [(4,vI x2)] [] [] (rq hC [] [5,15,16] [(5,vI (wr (x2+1)))] [] [] (qb (bB (γ:=Nat) h (fun x_ g_=>aZ [(0,V.tp [T.sl (List.map aV t.program.arrays),T.sl (List.map aH t.program.parts),T.sl (List.map aJ t.list),T.sl (List.map (rL rI) t.reads),T.sl (List.map rI t.writes)]),(3,ms 20 g_ 3 bT x_.1),(4,vI x2),(5,vI x_.2),(11,vI (t.list.length:Int)),(12,vI x2)] [(20,ar 100 g_ 3 bT x_.1)] [20]) g3 (lS) ?_))))))
  rintro again8 ⟨x5,x6⟩ g7 h
  refine qs (rq hC [oN aJ t.list] (fr 17 7) [(23,vB (decide (x6<(t.list.length:Int))))] [] [] (aP h (fun c2 h=> ?_) (fun c2 h=> ?_)))
  ·refine qk ?_
   obtain⟨j9,hj9,h⟩:=zW h
   refine kG (γ:=Nat) (j:=j9) (r:=r) (fun x_ g_=>aZ [(0,V.tp [T.sl (List.map aV t.program.arrays),T.sl (List.map aH t.program.parts),T.sl (List.map aJ t.list),T.sl (List.map (rL rI) t.reads),T.sl (List.map rI t.writes)]),(3,ms 20 g_ 3 bT x_),(4,vI x2),(5,vI x6),(11,vI (t.list.length:Int)),(12,vI x2)] [(20,ar 100 g_ 3 bT x_)] [20]) ?_ ?_
   ·
    refine qb ?_
    obtain⟨x10,hx10,h⟩:=bd h
    refine rq hC [oV (tP G hx10)] [6,26,27,28,29] [(6,vI x10)] [] [] (rq hC [] [30,31] [(31,vB (decide ((0:Int)<x10)))] [] [] (aP h (fun c3 h=> ?_) (fun c3 h=> ?_)))
    ·obtain⟨x11,hx11,h⟩:=bd h
     exact rk hC [.z (.int 0),oA (aU bT hx11),oQ (cL (r:=bT) 3 t7 x5),oQ (cL (r:=bT) 3 t7 [(⟨x2,x6,x10⟩:Dep)])] [3,32,33,34,35,36,37,38] [(3,ms 20 (g7+1) 3 bT x11)] [(20,some (ar 100 (g7+1) 3 bT x11))] [] ⟨x11,(g7+1),h,lS⟩
    ·exact qk ⟨x5,g7,h,lS⟩
   ·rintro x12 g13 h
    subst hj9
    exact rk hC [] [5,24,25] [(5,vI (wr (x6+1)))] [] [] ⟨(x12,wr (x6+1)),g13,h,lS⟩
  ·exact cW (rk hC [] [12,39] [(12,vI (wr (x2+1)))] [] [] ⟨(x5,wr (x2+1)),g7,h,lS⟩)
 ·obtain rfl:=so h
  exact cW (rq hC [] [2,40] [(2,ms 20 g3 3 bT x1)] [] [] (qw (lk hC [.ren 2 20 0] [2] [(2,ms 0 1 3 bT x1)] [(0,some (ar 100 1 3 bT x1)),(20,none)] [(0,true)]) (qr eW)))
theorem xT(G:GS)(n:Nat)(p:Prog){r:(List Dep)}(h:eZ n p=some r):PQ G 81 [V.agg (bZ p)] (vM bT r):=by
 unfold eZ at h
 refine pq aM Tryz.func81 rfl fun w X hC=> ?_
 refine rq hC [.z (.b (true))] [1,2] [(1,V.tp (bM p))] [] [] (qs ?_)
 obtain⟨x1,hx1,h⟩:=bd h
 refine aQ h (fun c1 h=> ?_) (fun c1 h=> ?_)
 ·refine rk hC [.z (.v (V.tup [V.t T.nilP,vB x1.2])),oQ (vPn c1 (L1 G hx1))] (fr 3 7) [(3,V.t T.nilP),(4,vB x1.2)] [] [] (qs (rq hC [] [10,11] [(11,vB (!x1.2))] [] [] (aP h (fun c2 h=> ?_) (fun c2 h=> ?_))))
  ·obtain rfl:=so h
   exact rq hC [] [2] [(2,V.t T.nilS)] [] [] (qr eR)
  ·exact qk (qs (nof h))
 ·refine rk hC [.z (.v (V.tup [V.tp [T.sl (List.map aV (((x1.1.getD default).program).arrays)),T.sl (List.map aH (((x1.1.getD default).program).parts)),T.sl (List.map aJ ((x1.1.getD default).list)),T.sl (List.map (rL rI) ((x1.1.getD default).reads)),T.sl (List.map rI ((x1.1.getD default).writes))],vB x1.2])),oQ (vPs c1 (L1 G hx1))] (fr 3 7) [(3,V.tp [T.sl (List.map aV (((x1.1.getD default).program).arrays)),T.sl (List.map aH (((x1.1.getD default).program).parts)),T.sl (List.map aJ ((x1.1.getD default).list)),T.sl (List.map (rL rI) ((x1.1.getD default).reads)),T.sl (List.map rI ((x1.1.getD default).writes))]),(4,vB x1.2)] [] [] (qs (rq hC [] [10,11] [(11,vB (!x1.2))] [] [] (aP h (fun c3 h=> ?_) (fun c3 h=> ?_))))
  ·obtain rfl:=so h
   exact rq hC [] [2] [(2,V.t T.nilS)] [] [] (qr eR)
  ·refine qk ?_
   obtain⟨x2,hx2,h⟩:=bd h
   obtain rfl:=so h
   exact rq hC [oC [] [20] (xS G hx2)] [2,12,13] [(2,ms 20 1 3 bT x2)] [(20,some (ar 100 1 3 bT x2))] [(20,true)] (qw (lk hC [.fz 20 [2] []] [2] [(2,vM bT x2)] [(20,none)] []) (qr eR))
theorem C7{p}{r}(h:nD n p=some r):VQ G 82 [] [V.agg (bZ p)] (ms 0 1 3 bT r) [ar 100 1 3 bT r]:=by
 unfold nD at h
 refine vq aM Tryz.func82 rfl fun w X β0 hC hg=> ?_
 refine rq hC [.z (.b (true))] [1,2] [(1,V.tp (bM p))] [] [] (rq hC [.z (.nat 20)] [3,8] [(3,ms 20 1 3 bT [])] [(20,some (ar 100 1 3 bT []))] [(20,true)] ?_)
 obtain⟨x1,hx1,h⟩:=bd h
 refine rq hC [oC [] [21] (aA5 G hx1)] [4,9,10] [(4,ms 21 1 2 cA x1)] [(21,some (ar 83 1 2 cA x1))] [(21,true)] (qs (rq hC [] [5] [(5,vI 0)] [] [] (qb (bB (γ:=Nat) h (fun x_ g_=>aZ [(3,ms 20 g_ 3 bT x_.1),(4,ms 21 1 2 cA x1),(5,vI x_.2)] [(20,ar 100 g_ 3 bT x_.1),(21,ar 83 1 2 cA x1)] [20,21]) 1 (lS) ?_))))
 rintro again5 ⟨x2,x3⟩ g4 h
 refine qs (rq hC [oN cA x1] (fr 11 4) [(14,vB (decide (x3<(x1.length:Int))))] [] [] (aP h (fun c1 h=> ?_) (fun c1 h=> ?_)))
 ·refine qk (qs (qb (rq hC [] [6,17,18] [(6,vI (wr (x3+1)))] [] [] (qb (bB (γ:=Nat) h (fun x_ g_=>aZ [(3,ms 20 g_ 3 bT x_.1),(4,ms 21 1 2 cA x1),(5,vI x3),(6,vI x_.2)] [(20,ar 100 g_ 3 bT x_.1),(21,ar 83 1 2 cA x1)] [20,21]) g4 (lS) ?_)))))
  rintro again9 ⟨x6,x7⟩ g8 h
  refine qs (rq hC [oN cA x1] (fr 19 4) [(22,vB (decide (x7<(x1.length:Int))))] [] [] (aP h (fun c2 h=> ?_) (fun c2 h=> ?_)))
  ·refine qk ?_
   obtain⟨j10,hj10,h⟩:=zW h
   refine kG (γ:=Nat) (j:=j10) (r:=r) (fun x_ g_=>aZ [(3,ms 20 g_ 3 bT x_),(4,ms 21 1 2 cA x1),(5,vI x3),(6,vI x7)] [(20,ar 100 g_ 3 bT x_),(21,ar 83 1 2 cA x1)] [20,21]) ?_ ?_
   ·
    refine qb (qs ?_)
    obtain⟨x11,hx11,x12,hx12,x13,hx13,h⟩:=kK h
    refine dk hC bO [oQ (iP cA hx11),oX cA hx11,oQ (iP cA hx12),oX cA hx12,oV (X7 G hx13)] [7,25,26,27,28,29,30,31,32,33] [(7,vI x13)] [] [] (rq hC [] [34,35] [(35,vB (!decide (x13=0)))] [] [] (aP h (fun c3 h=> ?_) (fun c3 h=> ?_)))
    ·obtain⟨x14,hx14,h⟩:=bd h
     exact rk hC [.z (.int 0),oA (aU bT hx14),oQ (cL (r:=bT) 3 t7 x6),oQ (cL (r:=bT) 3 t7 [(⟨x3,x7,x13⟩:Dep)])] [3,36,37,38,39,40,41,42] [(3,ms 20 (g8+1) 3 bT x14)] [(20,some (ar 100 (g8+1) 3 bT x14))] [] ⟨x14,(g8+1),h,lS⟩
    ·exact qk ⟨x6,g8,h,lS⟩
   ·rintro x15 g16 h
    subst hj10
    exact rk hC [] [6,23,24] [(6,vI (wr (x7+1)))] [] [] ⟨(x15,wr (x7+1)),g16,h,lS⟩
  ·exact cW (rk hC [] [5,15,16] [(5,vI (wr (x3+1)))] [] [] ⟨(x6,wr (x3+1)),g8,h,lS⟩)
 ·obtain rfl:=so h
  exact cW (rq hC [] [2,43] [(2,ms 20 g4 3 bT x2)] [] [] (qw (lk hC [.ren 2 20 0] [2] [(2,ms 0 1 3 bT x2)] [(0,some (ar 100 1 3 bT x2)),(20,none)] [(0,true)]) (qr eW)))
theorem G2{list}{r}(h:gX n list=some r):VQ G 89 [] [vM rB list] (ms 0 1 1 rI r) [ar 3 1 1 rI r]:=by
 unfold gX at h
 refine vq aM Tryz.func89 rfl fun w X β0 hC hg=> ?_
 refine rq hC [] [2] [] [] [] (rq hC [.z (.nat 20)] [3,5] [(3,ms 20 1 1 rI [])] [(20,some (ar 3 1 1 rI []))] [(20,true)] (qs (rq hC [] [4] [(4,vI 0)] [] [] (qb (bB (γ:=Nat) h (fun x_ g_=>aZ [(0,vM rB list),(3,ms 20 g_ 1 rI x_.1),(4,vI x_.2)] [(20,ar 3 g_ 1 rI x_.1)] [20]) 1 (lS) ?_)))))
 rintro again4 ⟨x1,x2⟩ g3 h
 refine qs (rq hC [oN rB list] (fr 6 4) [(9,vB (decide (x2<(list.length:Int))))] [] [] (aP h (fun c1 h=> ?_) (fun c1 h=> ?_)))
 ·refine qk ?_
  obtain⟨j5,hj5,h⟩:=zW h
  refine kG (γ:=Nat) (j:=j5) (r:=r) (fun x_ g_=>aZ [(0,vM rB list),(3,ms 20 g_ 1 rI x_),(4,vI x2)] [(20,ar 3 g_ 1 rI x_)] [20]) ?_ ?_
  ·
   refine qb ?_
   obtain⟨x6,hx6,h⟩:=bd h
   refine rq hC [oR rB hx6] (fr 12 4) [(15,vB x6)] [] [] (aP h (fun c2 h=> ?_) (fun c2 h=> ?_))
   ·obtain⟨x7,hx7,h⟩:=bd h
    exact rk hC [.z (.int 0),oA (aU rI hx7),oQ (cL (r:=rI) 1 (fun _=>rfl) x1),oQ (cL (r:=rI) 1 (fun _=>rfl) [x2])] [3,16,17,18,19] [(3,ms 20 (g3+1) 1 rI x7)] [(20,some (ar 3 (g3+1) 1 rI x7))] [] ⟨x7,(g3+1),h,lS⟩
   ·exact qk ⟨x1,g3,h,lS⟩
  ·rintro x8 g9 h
   subst hj5
   exact rk hC [] [4,10,11] [(4,vI (wr (x2+1)))] [] [] ⟨(x8,wr (x2+1)),g9,h,lS⟩
 ·obtain rfl:=so h
  exact cW (rq hC [] [2,20] [(2,ms 20 g3 1 rI x1)] [] [] (qw (lk hC [.ren 2 20 0] [2] [(2,ms 0 1 1 rI x1)] [(0,some (ar 3 1 1 rI x1)),(20,none)] [(0,true)]) (qr eW)))
theorem X6{deps}{done}(doneG:Nat){r}(h:nB n deps done=some r):VQ G 83 [ar 4 doneG 1 rB done] [vM bT deps,ms 0 doneG 1 rB done] (ms 1 1 1 rI r.1) [ar 4 doneG 1 rB r.2,ar 3 1 1 rI r.1]:=by
 unfold nB at h
 refine vq aM Tryz.func83 rfl fun w X β0 hC hg=> ?_
 refine rq hC [] [4] [] [] [] ?_
 obtain⟨x1,hx1,h⟩:=bd h
 refine rq hC [oN rB done,.z (.nat 20),oA (tA rB hx1),oQ (kO hx1).1] [5,8,9,10] [(5,ms 20 1 1 rB x1)] [(20,some (ar 4 1 1 rB x1))] [(20,true)] (qs (rq hC [] [6] [(6,vI 0)] [] [] (qb (bB (γ:=Nat) h (fun x_ g_=>aZ [(0,vM bT deps),(1,ms 0 doneG 1 rB done),(5,ms 20 g_ 1 rB x_.1),(6,vI x_.2)] [(0,ar 4 doneG 1 rB done),(20,ar 4 g_ 1 rB x_.1)] [0,20]) 1 (lS) ?_))))
 rintro again5 ⟨x2,x3⟩ g4 h
 refine qs (rq hC [oN rB done] (fr 11 4) [(14,vB (decide (x3<(done.length:Int))))] [] [] (aP h (fun c1 h=> ?_) (fun c1 h=> ?_)))
 ·refine qk (qs (qb ?_))
  obtain⟨x6,hx6,x7,hx7,x8,hx8,h⟩:=kK h
  exact rk hC [oQ (iP rB hx6),oX rB hx6,oQ (iP rB hx7),oX rB hx7,.z (.rows (List.map rB x8)),.z (.len 5 (List.map rB x8).length),oQ (str rB hx8),oQ (lX rB hx8)] [5,17,18,19,20,21,22,23,24] [(5,ms 20 g4 1 rB x8)] [(20,some (ar 4 g4 1 rB x8))] [] (rk hC [] [6,15,16] [(6,vI (wr (x3+1)))] [] [] ⟨(x8,wr (x3+1)),g4,h,lS⟩)
 ·refine cW (qs (rq hC [] [7] [(7,vI 0)] [] [] (qb (bB (γ:=Nat) h (fun x_ g_=>aZ [(0,vM bT deps),(1,ms 0 doneG 1 rB done),(5,ms 20 g_ 1 rB x_.1),(7,vI x_.2)] [(0,ar 4 doneG 1 rB done),(20,ar 4 g_ 1 rB x_.1)] [0,20]) g4 (lS) ?_))))
  rintro again12 ⟨x9,x10⟩ g11 h
  refine qs (rq hC [oN bT deps] (fr 25 4) [(28,vB (decide (x10<(deps.length:Int))))] [] [] (aP h (fun c2 h=> ?_) (fun c2 h=> ?_)))
  ·refine qk (vj h (fun x_=>aZ [(0,vM bT deps),(1,ms 0 doneG 1 rB done),(5,ms 20 g11 1 rB x_),(7,vI x10)] [(0,ar 4 doneG 1 rB done),(20,ar 4 g11 1 rB x_)] [0,20]) (fun j13 h=> ?_) (fun x18 h=> ?_))
   ·
    refine qb ?_
    obtain⟨x14,hx14,x15,hx15,h⟩:=dJ h
    refine rq hC [oR bT hx14,oQ (iP rB hx15),oX rB hx15] (fr 31 9) [(39,vB (!x15))] [] [] (aP h (fun c3 h=> ?_) (fun c3 h=> ?_))
    ·obtain⟨x16,hx16,x17,hx17,h⟩:=dJ h
     exact rk hC [oR bT hx14,oQ (iP rB hx16),oX rB hx16,.z (.rows (List.map rB x17)),.z (.len 5 (List.map rB x17).length),oQ (str rB hx17),oQ (lX rB hx17)] [5,40,41,42,43,44,45,46] [(5,ms 20 g11 1 rB x17)] [(20,some (ar 4 g11 1 rB x17))] [] (lE h)
    ·exact qk (lE h)
   ·exact rk hC [] [7,29,30] [(7,vI (wr (x10+1)))] [] [] ⟨(x18,wr (x10+1)),g11,h,lS⟩
  ·refine cW ?_
   obtain⟨x19,hx19,h⟩:=bd h
   obtain rfl:=so h
   exact rq hC [.z (.at 2),.z (.fz 20 [5,47] []),oC [] [21] (G2 G hx19)] [4,5,47,48] [(4,ms 21 1 1 rI x19)] [(20,none),(21,some (ar 3 1 1 rI x19))] [(21,true)] (qw (lk hC [.ren 4 21 1] [4] [(4,ms 1 1 1 rI x19)] [(1,some (ar 3 1 1 rI x19)),(21,none)] [(1,true)]) (qr eW))
theorem Q6{choices}{n_a1}{many}{r}(h:lJ n choices n_a1 many=some r):PQ G 84 [vM rI choices,vI n_a1,vI many] (vI r):=by
 unfold lJ at h
 refine pq aM Tryz.func84 rfl fun w X hC=> ?_
 refine rq hC [] [6] [] [] [] (qs (rq hC [oN rI choices] [8,9,10] [(10,vB (decide ((choices.length:Int)=0)))] [] [] (aP h (fun c1 h=> ?_) (fun c1 h=> ?_))))
 ·obtain rfl:=so h
  exact rq hC [] [6] [(6,vI 0)] [] [] (qr eR)
 ·refine qk ?_
  obtain⟨x1,hx1,x2,hx2,x3,hx3,h⟩:=kK h
  refine rq hC [oN rI choices,oQ (s7 hx1),oR rI hx2,oQ (s7 hx3)] [7,11,12,13,14,15,16,17,18,19] [(7,vI (Int.tmod x2 many))] [] [] (qs (rq hC [] [20,21] [(21,vB (decide (Int.tmod x2 many<0)))] [] [] (aP h (fun c2 h=> ?_) (fun c2 h=> ?_))))
  ·obtain rfl:=so h
   exact rq hC [] [6] [(6,vI 0)] [] [] (qr eR)
  ·obtain rfl:=so h
   exact qk (rq hC [] [6,22] [(6,vI (Int.tmod x2 many))] [] [] (qr eR))
theorem xR{p}{choices}{r}(h:gC n p choices=some r):VQ G 27 [] [V.agg (bZ p),vM rI choices] (ms 0 1 1 rI r) [ar 3 1 1 rI r]:=by
 unfold gC at h
 refine vq aM Tryz.func27 rfl fun w X β0 hC hg=> ?_
 refine rq hC [.z (.b (true))] [2,4] [(2,V.tp (bM p))] [] [] (rq hC [.z (.nat 20)] [5,11] [(5,ms 20 1 1 rI [])] [(20,some (ar 3 1 1 rI []))] [(20,true)] (qs ?_))
 obtain⟨x1,hx1,h⟩:=bd h
 refine rq hC [oV (eE G hx1)] [12,13,14] [(14,vB (!x1))] [] [] (aP h (fun c1 h=> ?_) (fun c1 h=> ?_))
 ·obtain rfl:=so h
  exact rq hC [] [4,15] [(4,ms 20 1 1 rI [])] [] [] (qw (lk hC [.ren 4 20 0] [4] [(4,ms 0 1 1 rI [])] [(0,some (ar 3 1 1 rI [])),(20,none)] [(0,true)]) (qr eW))
 ·refine qk ?_
  obtain⟨x2,hx2,h⟩:=bd h
  refine rq hC [oC [] [21] (C7 G hx2)] [6,16,17] [(6,ms 21 1 3 bT x2)] [(21,some (ar 100 1 3 bT x2))] [(21,true)] ?_
  obtain⟨x3,hx3,x4,hx4,h⟩:=dJ h
  refine rq hC [oC [] [22] (gO G hx3),oN aJ x3,.z (.nat 23),oA (tA rB hx4),oQ (kO hx4).1] [7,18,19,20,21] [(7,ms 23 1 1 rB x4)] [(22,some (ar 38 1 3 aJ x3)),(23,some (ar 4 1 1 rB x4))] [(22,true),(23,true)] (qs (rq hC [] [8] [(8,vI 0)] [] [] (qb (qw (lk hC [.fz 21 [6] []] [6] [(6,vM bT x2)] [(21,none)] []) (bB (γ:=Nat×Nat) h (fun x_ g_=>aZ [(1,vM rI choices),(5,ms 20 g_.1 1 rI x_.1),(6,vM bT x2),(7,ms 23 g_.2 1 rB x_.2.1),(8,vI x_.2.2)] [(20,ar 3 g_.1 1 rI x_.1),(22,ar 38 1 3 aJ x3),(23,ar 4 g_.2 1 rB x_.2.1)] [20,21,22,23]) (1,1) (lS) ?_)))))
  rintro again10 ⟨x5,x6,x7⟩ ⟨g8,g9⟩ h
  refine qs (rq hC [oN rB x6] (fr 22 4) [(25,vB (decide (x7<(x6.length:Int))))] [] [] (aP h (fun c2 h=> ?_) (fun c2 h=> ?_)))
  ·refine qk (qs (qb ?_))
   obtain⟨x11,hx11,x12,hx12,h⟩:=dJ h
   refine rq hC [oC [23] [24] (X6 G g9 hx11),.z (.len 7 (List.map rB x11.2).length),oQ (aAo rB hx12)] [7,9,28,29,30] [(7,ms 23 g9 1 rB x11.2),(9,ms 24 1 1 rI x11.1)] [(24,some (ar 3 1 1 rI x11.1)),(23,some (ar 4 g9 1 rB x11.2))] [(23,true),(24,true)] ?_
   obtain⟨x13,hx13,x14,hx14,h⟩:=dJ h
   refine rq hC [oN rI x11.1,oV (Q6 G hx13),oQ (iP rI hx14),oX rI hx14] [10,31,32,33,34,35,36,37,38] [(10,vI x14)] [] [] ?_
   obtain⟨x15,hx15,x16,hx16,h⟩:=dJ h
   refine rq hC [oQ (iP rB hx15),oX rB hx15,.z (.rows (List.map rB x16)),.z (.len 7 (List.map rB x16).length),oQ (str rB hx16),oQ (lX rB hx16)] [7,39,40,41] [(7,ms 23 g9 1 rB x16)] [(23,some (ar 4 g9 1 rB x16))] [] ?_
   obtain⟨x17,hx17,h⟩:=bd h
   exact rk hC [.z (.int 0),oA (aU rI hx17),oQ (cL (r:=rI) 1 (fun _=>rfl) x5),oQ (cL (r:=rI) 1 (fun _=>rfl) [x14])] [5,42,43,44,45] [(5,ms 20 (g8+1) 1 rI x17)] [(20,some (ar 3 (g8+1) 1 rI x17))] [] (rk hC [] [8,26,27] [(8,vI (wr (x7+1)))] [] [] ⟨(x17,x16,wr (x7+1)),((g8+1),g9),h,lS⟩)
  ·obtain rfl:=so h
   exact cW (rq hC [] [4,46] [(4,ms 20 g8 1 rI x5)] [] [] (qw (lk hC [.ren 4 20 0] [4] [(4,ms 0 1 1 rI x5)] [(0,some (ar 3 1 1 rI x5)),(20,none)] [(0,true)]) (qr eW)))
theorem E3{p}{r}(h:iS n p=some r):PQ G 29 [V.agg (bZ p)] (vI r):=by
 unfold iS at h
 refine pq aM Tryz.func29 rfl fun w X hC=> ?_
 refine rq hC [.z (.b (true))] [1,2] [(1,V.tp (bM p))] [] [] (qs ?_)
 obtain⟨x1,hx1,h⟩:=bd h
 refine rq hC [oV (fY G hx1)] [3,4,5] [(5,vB (!x1))] [] [] (aP h (fun c1 h=> ?_) (fun c1 h=> ?_))
 ·obtain rfl:=so h
  exact rq hC [] [2] [(2,vI 0)] [] [] (qr eR)
 ·refine qk ?_
  obtain⟨x2,hx2,h⟩:=bd h
  obtain rfl:=so h
  exact rq hC [oV (iW G hx2)] [2,6,7] [(2,vI x2)] [] [] (qr eR)
theorem qW{p}{r}(h:dF n p=some r):VQ G 182 [] [V.agg (bZ p)] (ms 0 1 3 aJ r) [ar 38 1 3 aJ r]:=by
 unfold dF at h
 refine vq aM Tryz.func182 rfl fun w X β0 hC hg=> ?_
 refine rq hC [.z (.b (true))] [1,2] [(1,V.tp (bM p))] [] [] (qs ?_)
 obtain⟨x1,hx1,h⟩:=bd h
 refine rq hC [oV (eE G hx1)] [3,4,5] [(5,vB (!x1))] [] [] (aP h (fun c1 h=> ?_) (fun c1 h=> ?_))
 ·obtain rfl:=so h
  exact rq hC [.z (.nat 20)] [2,6] [(2,ms 20 1 3 aJ [])] [(20,some (ar 38 1 3 aJ []))] [(20,true)] (qw (lk hC [.ren 2 20 0] [2] [(2,ms 0 1 3 aJ [])] [(0,some (ar 38 1 3 aJ [])),(20,none)] [(0,true)]) (qr eW))
 ·refine qk ?_
  obtain⟨x2,hx2,h⟩:=bd h
  obtain rfl:=so h
  exact rq hC [oC [] [20] (gO G hx2)] [2,7,8] [(2,ms 20 1 3 aJ x2)] [(20,some (ar 38 1 3 aJ x2))] [(20,true)] (qw (lk hC [.ren 2 20 0] [2] [(2,ms 0 1 3 aJ x2)] [(0,some (ar 38 1 3 aJ x2)),(20,none)] [(0,true)]) (qr eW))
theorem X8{r_a0}{p}{r}(h:nE n r_a0 p=some r):VQ G 91 [eL r_a0] [V.ref 0 0,V.agg (bZ p)] (ms 1 1 1 rI r.1) [eL r.2,ar 3 1 1 rI r.1]:=by
 unfold nE at h
 refine vq aM Tryz.func91 rfl fun w X β0 hC hg=> ?_
 refine rq hC [.z (.b (true))] [3,4] [(3,V.tp (bM p))] [] [] (rq hC [.z (.nat 20)] [5,11] [(5,ms 20 1 1 rI [])] [(20,some (ar 3 1 1 rI []))] [(20,true)] (qs (rq hC [] [6] [(6,vI 0)] [] [] (qb (bB (γ:=Nat) h (fun x_ g_=>aZ [(0,V.ref 0 0),(3,V.tp (bM p)),(5,ms 20 g_ 1 rI x_.1),(6,vI x_.2)] [(0,eL r_a0),(20,ar 3 g_ 1 rI x_.1)] [0,20]) 1 (lS) ?_)))))
 rintro again4 ⟨x1,x2⟩ g3 h
 refine qs ?_
 obtain⟨x5,hx5,h⟩:=bd h
 refine rq hC [oC [] [21] (qW G hx5),oN aJ x5] (fr 12 5) [(16,vB (decide (x2<(x5.length:Int))))] [(21,some (ar 38 1 3 aJ x5))] [(21,true)] (aP h (fun c1 h=> ?_) (fun c1 h=> ?_))
 ·refine qk (qs (qb ?_))
  obtain⟨x6,hx6,h⟩:=bd h
  exact rk hC [.z (.int 0),oA (aU rI hx6),oQ (cL (r:=rI) 1 (fun _=>rfl) x1),oQ (cL (r:=rI) 1 (fun _=>rfl) [x2])] [5,19,20,21,22] [(5,ms 20 (g3+1) 1 rI x6)] [(20,some (ar 3 (g3+1) 1 rI x6))] [] (rk hC [] [6,17,18] [(6,vI (wr (x2+1)))] [] [] ⟨(x6,wr (x2+1)),(g3+1),h,lS⟩)
 ·refine cW (qs ?_)
  obtain⟨x7,hx7,h⟩:=bd h
  refine rq hC [.z (.int 0),oC [0] [] (aX G hx7)] [7,23,24,25] [(7,vI x7.1)] [(0,sR x7.2)] [(0,true)] (qb (bB (γ:=Nat) h (fun x_ g_=>aZ [(0,V.ref 0 0),(5,ms 20 g_ 1 rI x_.2.2.1),(7,vI x_.2.2.2)] [(0,E.cells [vM rY x_.1,vI x_.2.1]),(20,ar 3 g_ 1 rI x_.2.2.1),(21,ar 38 1 3 aJ x5)] [0,20,21]) g3 (lS) ?_))
  rintro again13 ⟨x8,x9,x10,x11⟩ g12 h
  refine qs (vj h (fun x_=>aZ [(0,V.ref 0 0),(5,ms 20 g12 1 rI x10),(7,vI x11),(32,vB x_)] [(0,E.cells [vM rY x8,vI x9]),(20,ar 3 g12 1 rI x10),(21,ar 38 1 3 aJ x5)] [0,20,21]) (fun j14 h=> ?_) (fun x15 h=> ?_))
  ·
   refine aQ h (fun c2 h=> ?_) (fun c2 h=> ?_)
   ·exact rk hC (rF 4 c2) (fr 26 7) [(32,vB false)] [] [] (lE h)
   ·exact rk hC [oT c2,oT c2,oN rI x10,oT c2,oT c2] (fr 26 7) [(32,vB (decide ((1:Int)<(x10.length:Int))))] [] [] (lE h)
  ·refine aP h (fun c3 h=> ?_) (fun c3 h=> ?_)
   ·refine qk (qs (qb ?_))
    obtain⟨x16,hx16,h⟩:=bd h
    refine rq hC [oN rI x10,oC [0] [] (aT G hx16)] [8,35,36,37,38] [(8,vI x16.1)] [(0,sR x16.2)] [(0,true)] ?_
    obtain⟨x17,hx17,h⟩:=bd h
    refine rq hC [oN rI x10,oC [0] [] (aT G hx17)] [9,39,40,41,42] [(9,vI x17.1)] [(0,sR x17.2)] [(0,true)] ?_
    obtain⟨x18,hx18,h⟩:=bd h
    refine rq hC [oQ (iP rI hx18),oX rI hx18] [10,43,44,45,46] [(10,vI x18)] [] [] ?_
    obtain⟨x19,hx19,x20,hx20,h⟩:=dJ h
    refine rq hC [oQ (iP rI hx19),oX rI hx19,oQ (iP rI hx18),oX rI hx18,.z (.rows (List.map rI x20)),.z (.len 5 (List.map rI x20).length),oQ (str rI hx20),oQ (lX rI hx20)] [5,47,48,49,50,51,52,53] [(5,ms 20 g12 1 rI x20)] [(20,some (ar 3 g12 1 rI x20))] [] ?_
    obtain⟨x21,hx21,x22,hx22,h⟩:=dJ h
    exact rk hC [oQ (iP rI hx21),oX rI hx21,.z (.rows (List.map rI x22)),.z (.len 5 (List.map rI x22).length),oQ (str rI hx22),oQ (lX rI hx22)] [5,54,55,56,57] [(5,ms 20 g12 1 rI x22)] [(20,some (ar 3 g12 1 rI x22))] [] (rk hC [] [7,33,34] [(7,vI (wr (x11-1)))] [] [] ⟨(x17.2.b,x17.2.p,x22,wr (x11-1)),g12,h,lS⟩)
   ·refine cW (vj h (fun x_=>aZ [(5,ms 20 g12 1 rI x_.2.2)] [(0,E.cells [vM rY x_.1,vI x_.2.1]),(20,ar 3 g12 1 rI x_.2.2),(21,ar 38 1 3 aJ x5)] [0,20,21]) (fun j23 h=> ?_) ?_)
    ·
     refine vj h (fun x_=>aZ [(0,V.ref 0 0),(5,ms 20 g12 1 rI x10),(65,vB x_.2.2)] [(0,E.cells [vM rY x_.1,vI x_.2.1]),(20,ar 3 g12 1 rI x10),(21,ar 38 1 3 aJ x5)] [0,20,21]) (fun j24 h=> ?_) ?_
     ·
      refine aQ h (fun c4 h=> ?_) (fun c4 h=> ?_)
      ·exact rk hC ([oN rI x10]++rF 4 c4) (fr 58 8) [(65,vB false)] [] [] (lE h)
      ·obtain⟨x25,hx25,h⟩:=bd h
       exact rk hC [oN rI x10,oT c4,oT c4,oC [0] [] (aT G hx25),oT c4,oT c4] (fr 58 8) [(65,vB (decide (x25.1=0)))] [(0,sR x25.2)] [(0,true)] (lE h)
     ·rintro⟨x26,x27,x28⟩ h
      refine aP h (fun c5 h=> ?_) (fun c5 h=> ?_)
      ·obtain⟨x29,hx29,x30,hx30,x31,hx31,h⟩:=kK h
       exact rk hC [.z (.int 0),oC [0] [] (aX G hx29),oQ (iP rI hx30),oX rI hx30,.z (.rows (List.map rI x31)),.z (.len 5 (List.map rI x31).length),oQ (str rI hx31),oQ (lX rI hx31)] [5,66,67,68,69,70] [(5,ms 20 g12 1 rI x31)] [(0,sR x29.2),(20,some (ar 3 g12 1 rI x31))] [(0,true)] (lE h)
      ·exact qk (lE h)
    ·rintro⟨x32,x33,x34⟩ h
     obtain rfl:=so h
     exact rq hC [] [4,71] [(4,ms 20 g12 1 rI x34)] [] [] (qw (lk hC [.ren 4 20 1] [4] [(4,ms 1 1 1 rI x34)] [(1,some (ar 3 1 1 rI x34)),(20,none)] [(1,true)]) (qr eW))
theorem tO{code}{r}(h:d7 n code=some r):VQ G 33 [] [vM rY code] (V.tup [V.agg (bZ r.1),ms 0 1 1 rI r.2]) [ar 3 1 1 rI r.2]:=by
 unfold d7 at h
 refine vq aM Tryz.func33 rfl fun w X β0 hC hg=> ?_
 refine rq hC [.z (.nat 20)] [2,3] [(2,V.ref 20 0)] [(20,sc [V.t T.nilS,V.t T.nilS])] [(20,true)] ?_
 obtain⟨x1,hx1,h⟩:=bd h
 refine rq hC [oC [] [21] (Y7 G hx1)] [4,6,7] [(4,V.ref 21 0)] [(21,sR x1)] [(21,true)] ?_
 obtain⟨x2,hx2,h⟩:=bd h
 refine rq hC [oC [21] [] (aA8 G hx2),.z (.nat 22)] [5,8,9] [(5,V.ref 22 0)] [(21,sR x2.2),(22,some (E.cells (bZ x2.1)))] [(21,true),(22,true)] (qs ?_)
 obtain⟨x3,hx3,h⟩:=bd h
 refine rq hC [oC [21] [] (aT G hx3)] [10,11,12] [(12,vB (decide (x3.1=0)))] [(21,sR x3.2)] [(21,true)] (aP h (fun c1 h=> ?_) (fun c1 h=> ?_))
 ·refine qs ?_
  obtain⟨x4,hx4,x5,hx5,x6,hx6,h⟩:=kK h
  obtain⟨x7,hx7,h⟩:=bd h
  obtain rfl:=so h
  exact dk hC bO [oC [21] [] (aT G hx4),oC [21] [] (aT G hx5),oC [21] [] (aT G hx6),.z (.int 0),oC [] [23] (xR G hx7)] [3,13,14,15,16,17,18,19,20,21,22] [(3,ms 23 1 1 rI x7)] [(21,sR x6.2),(23,some (ar 3 1 1 rI x7)),(20,some (E.cells (bZ x2.1)))] [(21,true),(21,true),(21,true),(23,true)] (qw (lk hC [.ren 3 23 0] [3] [(3,ms 0 1 1 rI x7)] [(0,some (ar 3 1 1 rI x7)),(23,none)] [(0,true)]) (qr eW))
 ·refine qk (qs ?_)
  obtain⟨x8,hx8,x9,hx9,h⟩:=dJ h
  obtain rfl:=so h
  exact dk hC bO [oC [21] [] (Q7 G hx8),oC [21] [23] (X8 G hx9)] [3,23,24,25,26,27,28] [(3,ms 23 1 1 rI x9.1)] [(21,sR x9.2),(23,some (ar 3 1 1 rI x9.1)),(20,some (E.cells (bZ x8.1)))] [(21,true),(21,true),(23,true)] (qw (lk hC [.ren 3 23 0] [3] [(3,ms 0 1 1 rI x9.1)] [(0,some (ar 3 1 1 rI x9.1)),(23,none)] [(0,true)]) (qr eW))
theorem Q9(G:GS)(n:Nat)(d:Dep)(c0__a1:List Int){r:Bool}(h:gT n d c0__a1=some r):PQ G 244 [V.agg [vI d.fromF,vI d.toF,vI d.kinds],V.tp [T.sl (List.map rI c0__a1)]] (vB r):=by
 unfold gT at h
 refine pq aM Tryz.func244 rfl fun w X hC=> ?_
 refine rq hC [.z (.b (true))] [2,3] [(2,V.tp [T.int .i64 d.fromF,T.int .i64 d.toF,T.int .i64 d.kinds])] [] [] (qs ?_)
 obtain⟨x1,hx1,x2,hx2,h⟩:=dJ h
 obtain rfl:=so h
 exact dk hC bO [oR rI hx1,oR rI hx2] (fr 3 12) [(3,vB (decide (x1<x2)))] [] [] (qr eR)
theorem qX(G:GS)(n:Nat)(s:List Dep)(fF:FuncId)(fC0:List T)(f:Dep→Option Bool)(hf: ∀(q0:Dep) r,f q0=some r→PQ G fF [V.agg [vI q0.fromF,vI q0.toF,vI q0.kinds],V.tp fC0] (vB r)){r:Int}(h:gM n s f=some r):PQ G 185 [vM bT s,V.fn fF [V.tp fC0]] (vI r):=by
 unfold gM at h
 refine pq aM Tryz.func185 rfl fun w X hC=> ?_
 refine rq hC [] [4] [] [] [] (qs (rq hC [oN bT s] [6,7,8] [(7,vI (s.length:Int)),(8,vI 0)] [] [] (qb (kX h (fun x_=>aZ [(0,vM bT s),(1,V.fn fF [V.tp fC0]),(7,vI (s.length:Int)),(8,vI x_)] [] []) lS ?_))))
 rintro again2 x1 h
 refine rq hC [] [9] [(9,vB (decide (x1<(s.length:Int))))] [] [] (qs (aP h (fun c1 h=> ?_) (fun c1 h=> ?_)))
 ·refine qk (qs (qb (rq hC [] [5,10] [(5,vI x1)] [] [] ?_)))
  obtain⟨x3,hx3,x4,hx4,h⟩:=dJ h
  refine rq hC [oR bT hx3,oV (hf x3 _ hx4)] (fr 11 6) [(16,vB x4)] [] [] (aP h (fun c2 h=> ?_) (fun c2 h=> ?_))
  ·obtain rfl:=so h
   exact rq hC [] [4,17] [(4,vI x1)] [] [] (qr eR)
  ·exact qk (rk hC [] [8,18] [(8,vI (wr (x1+1)))] [] [] (lE h))
 ·obtain rfl:=so h
  exact cW (rq hC [] [4] [(4,vI (-1))] [] [] (qr eR))
theorem aBk{deps}{order}{r}(h:qT n deps order=some r):PQ G 183 [vM bT deps,vM rI order] (vI r):=by
 unfold qT at h
 refine pq aM Tryz.func183 rfl fun w X hC=> ?_
 refine rq hC [] [4] [] [] [] ?_
 obtain⟨x1,hx1,h⟩:=bd h
 refine rq hC [oN rI order,.z (.nat 20),oA (tA rI hx1),.z (.nat 21),oQ (kO hx1).1] [5,8,9,10] [(5,V.ref 21 0)] [(20,some (ar 3 1 1 rI x1)),(21,sc [ms 20 1 1 rI x1])] [(20,true),(21,true)] (qs (rq hC [oN rI order] [11,12,13] [(11,vM rI order),(12,vI (order.length:Int)),(13,vI 0)] [] [] (qb (bB (γ:=Nat) h (fun x_ g_=>aZ [(0,vM bT deps),(5,V.ref 21 0),(11,vM rI order),(12,vI (order.length:Int)),(13,vI x_.2)] [(20,ar 3 g_ 1 rI x_.1),(21,E.cells [ms 20 g_ 1 rI x_.1])] [20,21]) 1 (lS) ?_))))
 rintro again5 ⟨x2,x3⟩ g4 h
 refine rq hC [] [14] [(14,vB (decide (x3<(order.length:Int))))] [] [] (qs (aP h (fun c1 h=> ?_) (fun c1 h=> ?_)))
 ·refine qk (qs (qb ?_))
  obtain⟨x6,hx6,h⟩:=bd h
  refine rq hC [oR rI hx6] [6,7,15,16,17] [(6,vI x3),(7,vI x6)] [] [] ?_
  obtain⟨x7,hx7,x8,hx8,h⟩:=dJ h
  exact rk hC [oQ (iP rI hx7),oX rI hx7,.z (.rows (List.map rI x8)),.z (.lenc 21 0 (List.map rI x8).length),oQ (str rI hx8),oQ (lX rI hx8)] (fr 18 4) [] [(20,some (ar 3 g4 1 rI x8)),(21,sc [ms 20 g4 1 rI x8])] [] (rk hC [] [13,22] [(13,vI (wr (x3+1)))] [] [] ⟨(x8,wr (x3+1)),g4,h,lS⟩)
 ·refine cW ?_
  obtain⟨x9,hx9,h⟩:=bd h
  obtain rfl:=so h
  exact rq hC [.z (.at 3),.z (.fz 20 [] [21]),.z (.at 3),.z (.fp 21 [5]),oV (qX G n deps 244 [T.sl (List.map rI x2)] (fun q0=>gT n q0 x2) (fun q0 r h=>Q9 G n q0 x2 h) hx9)] [4,5,23,24,25] [(4,vI x9)] [(21,none),(20,none)] [] (qr eR)
theorem aCO(G:GS)(n:Nat)(p:Prog)(order:List Int)(depsF:FuncId)(deps:Prog→Option (List Dep))(hdeps: ∀(q0:Prog) r,deps q0=some r→PQ G depsF [V.agg (bZ q0)] (vM bT r)){r:Bool}(h:yB n p order deps=some r):PQ G 92 [V.agg (bZ p),vM rI order,V.fn depsF []] (vB r):=by
 unfold yB at h
 refine pq aM Tryz.func92 rfl fun w X hC=> ?_
 refine rq hC [.z (.b (true))] [3,6] [(3,V.tp (bM p))] [] [] (vj h (fun x_=>aZ [(6,vB x_)] [] []) (fun j1 h=> ?_) (fun x5 h=> ?_))
 ·
  obtain⟨x2,hx2,h⟩:=bd h
  refine aQ h (fun c1 h=> ?_) (fun c1 h=> ?_)
  ·exact rk hC ([oV (mA G hx2)]++rF 7 c1) (fr 6 12) [(6,vB false)] [] [] (lE h)
  ·obtain⟨x3,hx3,x4,hx4,h⟩:=dJ h
   exact rk hC ([oV (mA G hx2)]++rT 3 c1++[oV (hdeps p _ hx3),oT c1,oT c1,oV (aBk G hx4),oT c1,oT c1]) (fr 6 12) [(6,vB (decide (x4<0)))] [] [] (lE h)
 ·obtain rfl:=so h
  exact qr eR
theorem E1{p}{order}{r}(h:iQ n p order=some r):PQ G 34 [V.agg (bZ p),vM rI order] (vB r):=by
 unfold iQ at h
 refine pq aM Tryz.func34 rfl fun w X hC=> ?_
 refine rq hC [.z (.b (true))] [2,4] [(2,V.tp (bM p))] [] [] ?_
 obtain⟨x1,hx1,h⟩:=bd h
 obtain rfl:=so h
 exact rq hC [oV (aCO G n p order 81 (fun q0=>eZ n q0) (fun q0 r h=>xT G n q0 h) hx1)] (fr 4 4) [(4,vB x1)] [] [] (qr eR)
theorem aA6{list}{n_a1}{r}(h:pZ n list n_a1=some r):PQ G 184 [vM rI list,vI n_a1] (vB r):=by
 unfold pZ at h
 refine pq aM Tryz.func184 rfl fun w X hC=> ?_
 refine rq hC [] [4] [] [] [] ?_
 obtain⟨x1,hx1,h⟩:=bd h
 refine rq hC [.z (.nat 20),oA (tA rB hx1),oQ (kO hx1).1] [5,7,8] [(5,ms 20 1 1 rB x1)] [(20,some (ar 4 1 1 rB x1))] [(20,true)] (qs (rq hC [] [6] [(6,vI 0)] [] [] (qb (bB (γ:=Nat) h (fun x_ g_=>aZ [(0,vM rI list),(1,vI n_a1),(5,ms 20 g_ 1 rB x_.1),(6,vI x_.2)] [(20,ar 4 g_ 1 rB x_.1)] [20]) 1 (lS) ?_))))
 rintro again5 ⟨x2,x3⟩ g4 h
 refine qs (rq hC [oN rI list] (fr 9 4) [(12,vB (decide (x3<(list.length:Int))))] [] [] (aP h (fun c1 h=> ?_) (fun c1 h=> ?_)))
 ·refine qk (qs (qb (qs (vj h (fun x_=>aZ [(0,vM rI list),(1,vI n_a1),(5,ms 20 g4 1 rB x2),(6,vI x3),(36,vB x_)] [(20,ar 4 g4 1 rB x2)] [20]) (fun j6 h=> ?_) (fun x9 h=> ?_)))))
  ·
   obtain⟨x7,hx7,h⟩:=bd h
   refine aQ h (fun c2 h=> ?_) (fun c2 h=> ?_)
   ·refine aQ h (fun c3 h=> ?_) (fun c3 h=> ?_)
    ·obtain⟨x8,hx8,h⟩:=bd h
     exact rk hC ([oR rI hx7]++rF 3 c2++[oR rI hx7]++rF 4 c2++rF 4 c3++[oR rI hx7,oF c3,oF c3,oQ (iP rB hx8),oF c3,oX rB hx8,oF c3]) (fr 15 22) [(36,vB x8)] [] [] (lE h)
    ·exact rk hC ([oR rI hx7]++rF 3 c2++[oR rI hx7]++rF 4 c2++rT 8 c3) (fr 15 22) [(36,vB true)] [] [] (lE h)
   ·exact rk hC ([oR rI hx7]++rT 7 c2++sT 8) (fr 15 22) [(36,vB true)] [] [] (lE h)
  ·refine aP h (fun c4 h=> ?_) (fun c4 h=> ?_)
   ·obtain rfl:=so h
    exact rq hC [] [4] [(4,vB false)] [] [] (qr eR)
   ·refine qk ?_
    obtain⟨x10,hx10,x11,hx11,x12,hx12,h⟩:=kK h
    exact rk hC [oR rI hx10,oQ (iP rB hx11),oX rB hx11,.z (.rows (List.map rB x12)),.z (.len 5 (List.map rB x12).length),oQ (str rB hx12),oQ (lX rB hx12)] [5,37,38,39,40,41,42] [(5,ms 20 g4 1 rB x12)] [(20,some (ar 4 g4 1 rB x12))] [] (rk hC [] [6,13,14] [(6,vI (wr (x3+1)))] [] [] ⟨(x12,wr (x3+1)),g4,h,lS⟩)
 ·obtain rfl:=so h
  exact cW (rq hC [oN rI list] [4,43,44,45,46] [(4,vB (decide ((list.length:Int)=n_a1)))] [] [] (qr eR))
theorem l7{p}{order}{r}(h:fP n p order=some r):PQ G 94 [V.agg (bZ p),vM rI order] (vB r):=by
 unfold fP at h
 refine pq aM Tryz.func94 rfl fun w X hC=> ?_
 refine rq hC [.z (.b (true))] [2,4] [(2,V.tp (bM p))] [] [] (vj h (fun x_=>aZ [(4,vB x_)] [] []) (fun j1 h=> ?_) (fun x5 h=> ?_))
 ·
  obtain⟨x2,hx2,h⟩:=bd h
  refine aQ h (fun c1 h=> ?_) (fun c1 h=> ?_)
  ·exact rk hC ([oV (eE G hx2)]++rF 6 c1) (fr 4 10) [(4,vB false)] [] [] (lE h)
  ·obtain⟨x3,hx3,x4,hx4,h⟩:=dJ h
   exact rk hC ([oV (eE G hx2)]++rT 3 c1++[oC [] [20] (gO G hx3),oT c1,oN aJ x3,oT c1,oV (aA6 G hx4),oT c1]) (fr 4 10) [(4,vB x4)] [(20,some (ar 38 1 3 aJ x3))] [(20,true)] (lE h)
 ·obtain rfl:=so h
  exact qr eR
theorem Q5{order}{r}(h:oE n order=some r):VQ G 103 [] [vM rI order] (ms 0 1 1 rI r) [ar 3 1 1 rI r]:=by
 unfold oE at h
 refine vq aM Tryz.func103 rfl fun w X β0 hC hg=> ?_
 refine rq hC [] [2] [] [] [] ?_
 obtain⟨x1,hx1,h⟩:=bd h
 refine rq hC [oN rI order,.z (.nat 20),oA (tA rI hx1),oQ (kO hx1).1] [3,5,6,7] [(3,ms 20 1 1 rI x1)] [(20,some (ar 3 1 1 rI x1))] [(20,true)] (qs (rq hC [] [4] [(4,vI 0)] [] [] (qb (bB (γ:=Nat) h (fun x_ g_=>aZ [(0,vM rI order),(3,ms 20 g_ 1 rI x_.1),(4,vI x_.2)] [(20,ar 3 g_ 1 rI x_.1)] [20]) 1 (lS) ?_))))
 rintro again5 ⟨x2,x3⟩ g4 h
 refine qs (rq hC [oN rI order] (fr 8 4) [(11,vB (decide (x3<(order.length:Int))))] [] [] (aP h (fun c1 h=> ?_) (fun c1 h=> ?_)))
 ·refine qk (qs (qb ?_))
  obtain⟨x6,hx6,x7,hx7,x8,hx8,h⟩:=kK h
  exact rk hC [oR rI hx6,oQ (iP rI hx7),oX rI hx7,.z (.rows (List.map rI x8)),.z (.len 3 (List.map rI x8).length),oQ (str rI hx8),oQ (lX rI hx8)] [3,14,15,16,17,18,19,20] [(3,ms 20 g4 1 rI x8)] [(20,some (ar 3 g4 1 rI x8))] [] (rk hC [] [4,12,13] [(4,vI (wr (x3+1)))] [] [] ⟨(x8,wr (x3+1)),g4,h,lS⟩)
 ·obtain rfl:=so h
  exact cW (rq hC [] [2,21] [(2,ms 20 g4 1 rI x2)] [] [] (qw (lk hC [.ren 2 20 0] [2] [(2,ms 0 1 1 rI x2)] [(0,some (ar 3 1 1 rI x2)),(20,none)] [(0,true)]) (qr eW)))
theorem xQ{p}{order}{r}(h:jP n p order=some r):PQ G 93 [V.agg (bZ p),vM rI order] (V.tup [V.agg [vI r.1.fromF,vI r.1.toF,vI r.1.kinds],vB r.2]):=by
 unfold jP at h
 refine pq aM Tryz.func93 rfl fun w X hC=> ?_
 refine rq hC [.z (.b (true)),.z (.nat 20)] [2,4,5] [(2,V.tp (bM p)),(4,V.ref 20 0)] [(20,sc [vI 0,vI 0,vI 0])] [(20,true)] (qs ?_)
 obtain⟨x1,hx1,h⟩:=bd h
 refine rq hC [oV (l7 G hx1)] (fr 9 4) [(12,vB (!x1))] [] [] (aP h (fun c1 h=> ?_) (fun c1 h=> ?_))
 ·obtain rfl:=so h
  exact rq hC [] [5,13] [(5,vB false)] [(20,sc [vI 0,vI 0,vI 0])] [] (qr eR)
 ·refine qk ?_
  obtain⟨x2,hx2,h⟩:=bd h
  refine rq hC [oC [] [21] (Q5 G hx2)] [6,14,15] [(6,ms 21 1 1 rI x2)] [(21,some (ar 3 1 1 rI x2))] [(21,true)] ?_
  obtain⟨x3,hx3,h⟩:=bd h
  refine rq hC [oC [] [22] (C7 G hx3)] [7,16,17] [(7,ms 22 1 3 bT x3)] [(22,some (ar 100 1 3 bT x3))] [(22,true)] (qs (rq hC [] [8] [(8,vI 0)] [] [] (qb (kX h (fun x_=>aZ [(4,V.ref 20 0),(6,ms 21 1 1 rI x2),(7,ms 22 1 3 bT x3),(8,vI x_)] [(20,E.cells [vI 0,vI 0,vI 0]),(21,ar 3 1 1 rI x2),(22,ar 100 1 3 bT x3)] [20,21,22]) lS ?_))))
  rintro again5 x4 h
  refine qs (rq hC [oN bT x3] (fr 18 4) [(21,vB (decide (x4<(x3.length:Int))))] [] [] (aP h (fun c2 h=> ?_) (fun c2 h=> ?_)))
  ·refine qk (qs (qb (qs ?_)))
   obtain⟨x6,hx6,x7,hx7,x8,hx8,h⟩:=kK h
   refine dk hC bO [oQ (iP bT hx6),oX bT hx6,oQ (iP rI hx7),oX rI hx7,oQ (iP bT hx6),oX bT hx6,oQ (iP rI hx8),oX rI hx8] (fr 24 17) [(40,vB (decide (x8<x7)))] [] [] (aP h (fun c3 h=> ?_) (fun c3 h=> ?_))
   ·obtain rfl:=so h
    exact rq hC [oQ (iP bT hx6),oX bT hx6] [5,41,42,43,44] [(5,vB true)] [(20,sc [vI x6.fromF,vI x6.toF,vI x6.kinds])] [] (qr eR)
   ·exact qk (rk hC [] [8,22,23] [(8,vI (wr (x4+1)))] [] [] (lE h))
  ·obtain rfl:=so h
   exact cW (rq hC [] [5,45] [(5,vB false)] [(20,sc [vI 0,vI 0,vI 0])] [] (qr eR))
theorem l8{p}{order}{r}(h:fQ n p order=some r):PQ G 35 [V.agg (bZ p),vM rI order] (vB r):=by
 unfold fQ at h
 refine pq aM Tryz.func35 rfl fun w X hC=> ?_
 refine rq hC [.z (.b (true))] [2,4] [(2,V.tp (bM p))] [] [] ?_
 obtain⟨x1,hx1,h⟩:=bd h
 refine rq hC [oV (xQ G hx1),.z (.nat 20)] (fr 5 8) [(6,vB x1.2)] [(20,sc [vI x1.1.fromF,vI x1.1.toF,vI x1.1.kinds])] [(20,true)] (vj h (fun x_=>aZ [(4,vB x_)] [(20,E.cells [vI x1.1.fromF,vI x1.1.toF,vI x1.1.kinds])] [20]) (fun j2 h=> ?_) (fun x4 h=> ?_))
 ·
  obtain⟨x3,hx3,h⟩:=bd h
  refine aQ h (fun c1 h=> ?_) (fun c1 h=> ?_)
  ·exact rk hC ([oV (l7 G hx3)]++rF 3 c1) [4,13,14,15,16,17,18,19] [(4,vB false)] [] [] (lE h)
  ·exact rk hC ([oV (l7 G hx3)]++rT 3 c1) [4,13,14,15,16,17,18,19] [(4,vB (!x1.2))] [] [] (lE h)
 ·obtain rfl:=so h
  exact qr eR
theorem wM(G:GS)(n:Nat)(code:List UInt8)(more:List UInt8){r:Bool}(h:iD n code more=some r):PQ G 7 [vM rY code,vM rY more] (vB r):=by
 unfold iD at h
 refine pq aM Tryz.func7 rfl fun w X hC=> ?_
 refine rq hC [] [4] [] [] [] (qs (vj h (fun x_=>aZ [(0,vM rY code),(1,vM rY more),(21,vB x_)] [] []) (fun j1 h=> ?_) (fun x2 h=> ?_)))
 ·
  refine aQ h (fun c1 h=> ?_) (fun c1 h=> ?_)
  ·exact rk hC [oN rY code,oF c1,oF c1,oN rY more,oF c1,oF c1] (fr 14 8) [(21,vB (decide ((1048576:Int)<(more.length:Int))))] [] [] (lE h)
  ·exact rk hC ([oN rY code]++rT 4 c1) (fr 14 8) [(21,vB true)] [] [] (lE h)
 ·refine aP h (fun c2 h=> ?_) (fun c2 h=> ?_)
  ·obtain rfl:=so h
   exact rq hC [] [4] [(4,vB true)] [] [] (qr eR)
  ·refine qk ?_
   obtain⟨x3,hx3,h⟩:=bd h
   refine rq hC [oC [] [20] (tO G hx3),.z (.nat 21)] [5,6,22,23,24,25,26] [(5,V.ref 21 0),(6,ms 20 1 1 rI x3.2)] [(20,some (ar 3 1 1 rI x3.2)),(21,some (E.cells (bZ x3.1)))] [(20,true),(21,true)] ?_
   obtain⟨x4,hx4,h⟩:=bd h
   refine rq hC [.z (.b (true)),oV (E1 G hx4)] [7,27,28,29] [(7,vB x4)] [] [] (qs (vj h (fun x_=>aZ [(1,vM rY more),(5,V.ref 21 0),(6,ms 20 1 1 rI x3.2),(7,vB x4),(38,vB x_)] [(20,ar 3 1 1 rI x3.2),(21,E.cells (bZ x3.1))] [20,21]) (fun j5 h=> ?_) (fun x7 h=> ?_)))
   ·
    obtain⟨x6,hx6,h⟩:=bd h
    refine aQ h (fun c3 h=> ?_) (fun c3 h=> ?_)
    ·exact rk hC ([.z (.b (true)),oV (l8 G hx6)]++rF 3 c3) (fr 30 9) [(38,vB (!x4))] [] [] (lE h)
    ·exact rk hC ([.z (.b (true)),oV (l8 G hx6)]++rT 3 c3) (fr 30 9) [(38,vB true)] [] [] (lE h)
   ·refine aP h (fun c4 h=> ?_) (fun c4 h=> ?_)
    ·obtain⟨x8,hx8,h⟩:=bd h
     obtain rfl:=so h
     exact rq hC [.z (.b (true)),oV (l8 G hx8)] [4,39,40,41,42,43] [(4,vB (x4==x8))] [] [] (qr eR)
    ·refine qk ?_
     obtain⟨x9,hx9,x10,hx10,h⟩:=dJ h
     refine rq hC [oV (E3 G hx9),.z (.nat 22),oA (tA rI hx10),oQ (kO hx10).1] [8,44,45,46] [(8,ms 22 1 1 rI x10)] [(22,some (ar 3 1 1 rI x10))] [(22,true)] (qs (rq hC [] [9] [(9,vI 0)] [] [] (qb (bB (γ:=Nat) h (fun x_ g_=>aZ [(1,vM rY more),(5,V.ref 21 0),(6,ms 20 1 1 rI x3.2),(8,ms 22 g_ 1 rI x_.1),(9,vI x_.2)] [(20,ar 3 1 1 rI x3.2),(21,E.cells (bZ x3.1)),(22,ar 3 g_ 1 rI x_.1)] [20,21,22]) 1 (lS) ?_))))
     rintro again14 ⟨x11,x12⟩ g13 h
     refine qs (rq hC [oN rI x11] (fr 47 4) [(50,vB (decide (x12<(x11.length:Int))))] [] [] (aP h (fun c5 h=> ?_) (fun c5 h=> ?_)))
     ·refine qk (qs (qb ?_))
      obtain⟨x15,hx15,x16,hx16,h⟩:=dJ h
      exact rk hC [oN rY more,oQ (show(1000:Int)≠0 by decide),oQ (iP rI hx15),oX rI hx15,.z (.rows (List.map rI x16)),.z (.len 8 (List.map rI x16).length),oQ (str rI hx16),oQ (lX rI hx16)] [8,53,54,55,56,57,58,59,60,61,62] [(8,ms 22 g13 1 rI x16)] [(22,some (ar 3 g13 1 rI x16))] [] (rk hC [] [9,51,52] [(9,vI (wr (x12+1)))] [] [] ⟨(x16,wr (x12+1)),g13,h,lS⟩)
     ·refine cW ?_
      obtain⟨x17,hx17,h⟩:=bd h
      refine rq hC [.z (.at 6),.z (.fz 22 [8,65] []),.z (.at 6),.z (.fz 20 [6,66] []),oC [] [23] (R0 G hx17)] [6,8,10,11,63,64,65,66,67,68,69] [(8,vM rI x11),(10,ms 23 1 1 rI x17.1),(11,vB x17.2)] [(22,none),(20,none),(23,some (ar 3 1 1 rI x17.1))] [(23,true)] ?_
      obtain⟨x18,hx18,h⟩:=bd h
      refine rq hC [oC [] [24] (E0 G hx18)] [12,13,70,71,72,73,74,75] [(12,ms 24 1 1 rI x18.1),(13,vB x18.2)] [(24,some (ar 3 1 1 rI x18.1))] [(24,true)] (vj h (fun x_=>aZ [(4,vB x_)] [(21,E.cells (bZ x3.1)),(23,ar 3 1 1 rI x17.1),(24,ar 3 1 1 rI x18.1)] [20,21,22,23,24]) (fun j19 h=> ?_) (fun x21 h=> ?_))
      ·
       refine aQ h (fun c6 h=> ?_) (fun c6 h=> ?_)
       ·exact rk hC ([oF c6,oF c6]++sF 4) [4,76,77,78,79,80,81,82,83,84] [(4,vB false)] [] [] (lE h)
       ·refine aQ h (fun c7 h=> ?_) (fun c7 h=> ?_)
        ·exact rk hC ([oT c6,oT c6]++rF 4 c7) [4,76,77,78,79,80,81,82,83,84] [(4,vB false)] [] [] (lE h)
        ·obtain⟨x20,hx20,h⟩:=bd h
         exact rk hC ([oT c6,oT c6]++rT 3 c7++[.z (.b (true)),oV (aA4 G hx20),oT c7]) [4,76,77,78,79,80,81,82,83,84] [(4,vB x20)] [] [] (lE h)
      ·obtain rfl:=so h
       exact qr eR
end Go.Lift
