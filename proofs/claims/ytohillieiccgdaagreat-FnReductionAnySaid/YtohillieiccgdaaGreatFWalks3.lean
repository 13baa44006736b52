/- The walks: the code computes what the plain functions say. -/
import Derived.Test.YtohillieiccgdaaGreatFModels
import Derived.Test.YtohillieiccgdaaGreatFWalks2
set_option maxRecDepth 10000
set_option linter.unusedVariables false
namespace Go.Lift
open Go Go.Proofs
variable (G:GS) {n:Nat}
theorem m8{p}{r}(h:gW n p=some r):PQ G 85 [V.agg (cF p)] (vI r):=by
 unfold gW at h
 refine pq aN Tryz.func85 rfl fun w X hC=> ?_
 refine rq hC [.z (.b (true))] [1,2] [(1,V.tp (bT p))] [] [] (rq hC [] [3] [(3,vI 0)] [] [] (qs (rq hC [oN aV p.arrays] (fr 6 4) [(7,vM aV p.arrays),(8,vI (p.arrays.length:Int)),(9,vI 0)] [] [] (qb (jC h (fun x_=>aZ [(3,vI x_.1),(7,vM aV p.arrays),(8,vI (p.arrays.length:Int)),(9,vI x_.2)] [] []) lS ?_)))))
 rintro again3 ⟨x1,x2⟩ h
 refine rq hC [] [10] [(10,vB (decide (x2<(p.arrays.length:Int))))] [] [] (qs (aQ h (fun c1 h=> ?_) (fun c1 h=> ?_)))
 ·refine qk (qs (qb ?_))
  obtain⟨x4,hx4,h⟩:=bd h
  refine rq hC [oR aV hx4,.z (.nat 20)] [5,11,12] [(5,V.ref 20 0)] [(20,sc [vS x4.name,vM rI x4.dims])] [(20,true)] ?_
  obtain⟨x5,hx5,h⟩:=bd h
  exact rk hC [oV (rX G hx5)] [3,13,14,15,16] [(3,vI (wr (x1+x5)))] [] [] (rk hC [] [9,17] [(9,vI (wr (x2+1)))] [] [] (lE h))
 ·obtain rfl:=so h
  exact dA (rq hC [] [2,18] [(2,vI x1)] [] [] (qr eR))
theorem kS{p}{m}{r}(h:fE n p m=some r):PQ G 61 [V.agg (cF p),vM rI m] (vB r):=by
 unfold fE at h
 refine pq aN Tryz.func61 rfl fun w X hC=> ?_
 refine rq hC [.z (.b (true))] [2,4] [(2,V.tp (bT p))] [] [] (vj h (fun x_=>aZ [(4,vB x_)] [] []) (fun j1 h=> ?_) (fun x5 h=> ?_))
 ·
  obtain⟨x2,hx2,h⟩:=bd h
  refine aP h (fun c1 h=> ?_) (fun c1 h=> ?_)
  ·exact rk hC ([oV (jT G hx2)]++rF 6 c1++sF 4) (fr 4 15) [(4,vB false)] [] [] (lE h)
  ·obtain⟨x3,hx3,h⟩:=bd h
   refine aP h (fun c2 h=> ?_) (fun c2 h=> ?_)
   ·exact rk hC ([oV (jT G hx2),oT c1,oT c1,oN rI m,oT c1,oT c1,oV (m8 G hx3),oT c1,oT c1]++rF 4 c2) (fr 4 15) [(4,vB false)] [] [] (lE h)
   ·obtain⟨x4,hx4,h⟩:=bd h
    exact rk hC [oV (jT G hx2),oT c1,oT c1,oN rI m,oT c1,oT c1,oV (m8 G hx3),oT c1,oT c1,oT c2,oT c2,oV (cZ G n m 152 (fun q0=>dX n q0) (fun q0 r h=>wA G n q0 h) hx4),oT c2,oT c2] (fr 4 15) [(4,vB (!x4))] [] [] (lE h)
 ·obtain rfl:=so h
  exact qr eR
theorem pQ{n_a0}{r}(h:kK n n_a0=some r):PQ G 221 [vI n_a0] (vI r):=by
 unfold kK at h
 refine pq aN Tryz.func221 rfl fun w X hC=> ?_
 obtain rfl:=so h
 exact rq hC [] [2] [] [] [] (rq hC [oQ (show(1000:Int)≠0 by decide),oQ (show(1000:Int)≠0 by decide)] (fr 2 6) [(2,vI (Int.tmod (wr ((wr ((Int.tmod n_a0 1000)+999))+1)) 1000))] [] [] (qr eR))
theorem v8(G:GS): ∀(n:Nat) (p:Prog) (m:List Int) (e:Expr) (point:List Int) {r:Int} (h:i_Program_value n p m e point=some r),PQ G 153 [V.agg (cF p),vM rI m,V.agg (dU e),vM rI point] (vI r):=by
 intro n
 induction n with
 |zero=>intro p m e point r h;rw [i_Program_value.eq_def] at h;cases h
 |succ n ih=>
  intro p m e point r h
  rw [i_Program_value.eq_def] at h;dsimp only at h
  refine pq aN Tryz.func153 rfl fun w X hC=> ?_
  refine rq hC [.z (.b (true)),.z (.b (true))] [4,6,8] [(4,V.tp (bT p)),(6,V.tp (gJ e))] [] [] (qs (rq hC [] [11,12] [(12,vI e.kind)] [] [] (qb (rq hC [] [13,14] [(13,vB (decide (e.kind=1)))] [] [] (aQ h (fun c1 h=> ?_) (fun c1 h=> ?_))))))
  ·obtain rfl:=so h
   exact rq hC [] [8,15,16] [(8,vI e.num)] [] [] (qr eR)
  ·refine rq hC [] [17,18] [(17,vB (decide (e.kind=2)))] [] [] (aQ h (fun c2 h=> ?_) (fun c2 h=> ?_))
   ·obtain⟨x1,hx1,x2,hx2,h⟩:=dI h
    obtain rfl:=so h
    exact rq hC [oV (dZ G hx1),oV (pQ G hx2)] [8,19,20,21,22,23] [(8,vI x2)] [] [] (qr eR)
   ·refine rq hC [] [24,25] [(24,vB (decide (e.kind=3)))] [] [] (aQ h (fun c3 h=> ?_) (fun c3 h=> ?_))
    ·obtain⟨x3,hx3,x4,hx4,h⟩:=dI h
     obtain rfl:=so h
     exact rq hC [oV (cU G hx3),oR rI hx4] [8,26,27,28,29,30,31,32,33] [(8,vI x4)] [] [] (qr eR)
    ·refine qk (qs ?_)
     obtain⟨x5,hx5,x6,hx6,x7,hx7,h⟩:=lR h
     obtain⟨x8,hx8,h⟩:=bd h
     refine dk hC bK [.z (.row (cJ x5)),oQ (cN aM hx5 (bU x5)),oV (ih p m x5 point hx6),.z (.row (cJ x7)),oQ (cN aM hx7 (bU x7)),oV (ih p m x7 point hx8)] [9,10,34,35,36,37,38,39,40,41,42,43,44,45,46,47,48,49] [(9,vI x6),(10,vI x8)] [] [] (qs (rq hC [] [50,51] [(51,vI e.kind)] [] [] (qb (rq hC [] [52,53] [(52,vB (decide (e.kind=4)))] [] [] (aQ h (fun c4 h=> ?_) (fun c4 h=> ?_))))))
     ·obtain⟨x9,hx9,h⟩:=bd h
      obtain rfl:=so h
      exact rq hC [oV (pQ G hx9)] [8,54,55,56,57] [(8,vI x9)] [] [] (qr eR)
     ·refine rq hC [] [58,59] [(58,vB (decide (e.kind=5)))] [] [] (aQ h (fun c5 h=> ?_) (fun c5 h=> ?_))
      ·obtain⟨x10,hx10,h⟩:=bd h
       obtain rfl:=so h
       exact rq hC [oV (pQ G hx10)] [8,60,61,62,63] [(8,vI x10)] [] [] (qr eR)
      ·refine qk ?_
       obtain⟨x11,hx11,h⟩:=bd h
       obtain rfl:=so h
       exact rq hC [oV (pQ G hx11)] [8,64,65,66,67] [(8,vI x11)] [] [] (qr eR)
theorem rW{p}{m}(mG:Nat){x}{r}(h:gE n p m x=some r):VQ G 63 [ar 3 mG 1 rI m] [V.agg (cF p),ms 0 mG 1 rI m,V.agg (aAB x)] (V.tup []) [ar 3 mG 1 rI r]:=by
 unfold gE at h
 refine vq aN Tryz.func63 rfl fun w X β0 hC hg=> ?_
 refine rq hC [.z (.b (true)),.z (.b (true))] [3,5] [(3,V.tp (bT p)),(5,V.tp (aCg x))] [] [] ?_
 obtain⟨x1,hx1,h⟩:=bd h
 refine rq hC [oV (gH G hx1),.z (.nat 20)] (fr 6 4) [(6,V.ref 20 0)] [(20,some (E.cells (eO x1)))] [(20,true)] ?_
 obtain⟨x2,hx2,x3,hx3,x4,hx4,h⟩:=lR h
 obtain⟨x5,hx5,h⟩:=bd h
 obtain rfl:=so h
 exact dk hC bK [oV (cU G hx2),.z (.b (true)),oV (v8 G n p m x1.value x.point hx3),oQ (kQ rI hx4),oX rI hx4,.z (.rows (List.map rI x5)),oQ (str rI hx5)] [1,10,11,12,13,14,15,16,17,18,19,20,21,22,23,24] [] [(0,some (ar 3 mG 1 rI x5))] [] eW
theorem H9{p}{m}{r}(h:iU n p m=some r):VQ G 16 [] [V.agg (cF p),vM rI m] (V.tup [ms 0 1 1 rI r.1,vB r.2]) [ar 3 1 1 rI r.1]:=by
 unfold iU at h
 refine vq aN Tryz.func16 rfl fun w X β0 hC hg=> ?_
 refine rq hC [.z (.b (true))] [2,4,5] [(2,V.tp (bT p))] [] [] (qs ?_)
 obtain⟨x1,hx1,h⟩:=bd h
 refine rq hC [oV (kS G hx1)] (fr 9 4) [(12,vB (!x1))] [] [] (aQ h (fun c1 h=> ?_) (fun c1 h=> ?_))
 ·obtain rfl:=so h
  exact rq hC [] [4,5] [(4,V.t T.nilS),(5,vB false)] [] [] (qw (lk hC [.grow 4 0 3] [4] [(4,ms 0 1 1 rI [])] [(0,some (ar 3 1 1 rI []))] [(0,true)]) (qr eW))
 ·refine qk ?_
  obtain⟨x2,hx2,h⟩:=bd h
  refine rq hC [oC [] [20] (G.clone m hx2)] [6,13,14] [(6,ms 20 1 1 rI x2)] [(20,some (ar 3 1 1 rI x2))] [(20,true)] (qs ?_)
  obtain⟨x3,hx3,h⟩:=bd h
  refine rq hC [oC [] [21] (fX G hx3),oN aJ x3] (fr 15 4) [(16,ms 21 1 3 aJ x3),(17,vI (x3.length:Int)),(18,vI 0)] [(21,some (ar 38 1 3 aJ x3))] [(21,true)] (qb (bJ (γ:=Nat) h (fun x_ g_=>aZ [(2,V.tp (bT p)),(6,ms 20 g_ 1 rI x_.1),(16,ms 21 1 3 aJ x3),(17,vI (x3.length:Int)),(18,vI x_.2)] [(20,ar 3 g_ 1 rI x_.1),(21,ar 38 1 3 aJ x3)] [20,21]) 1 (lS) ?_))
  rintro again7 ⟨x4,x5⟩ g6 h
  refine rq hC [] [19] [(19,vB (decide (x5<(x3.length:Int))))] [] [] (qs (aQ h (fun c2 h=> ?_) (fun c2 h=> ?_)))
  ·refine qk (qs (qb ?_))
   obtain⟨x8,hx8,h⟩:=bd h
   refine rq hC [oQ (kQ aJ hx8),oX aJ hx8,.z (.nat 22)] [8,20,21] [(8,V.ref 22 0)] [(22,some (E.cells (aAB x8)))] [(22,true)] ?_
   obtain⟨x9,hx9,x10,hx10,h⟩:=dI h
   exact rk hC [oC [20] [] (rW G g6 hx9),.z (.len 6 (List.map rI x9).length),oQ (aEl rI hx10)] [6,22,23,24,25] [(6,ms 20 g6 1 rI x9)] [(20,some (ar 3 g6 1 rI x9))] [(20,true)] (rk hC [] [18,26] [(18,vI (wr (x5+1)))] [] [] ⟨(x9,wr (x5+1)),g6,h,lS⟩)
  ·obtain rfl:=so h
   exact dA (rq hC [] [4,5,27] [(4,ms 20 g6 1 rI x4),(5,vB true)] [] [] (qw (lk hC [.ren 4 20 0] [4] [(4,ms 0 1 1 rI x4)] [(0,some (ar 3 1 1 rI x4)),(20,none)] [(0,true)]) (qr eW)))
theorem G2{a}{b}{r}(h:qF n a b=some r):PQ G 17 [vM rI a,vM rI b] (vB r):=by
 unfold qF at h
 refine pq aN Tryz.func17 rfl fun w X hC=> ?_
 refine rq hC [] [4] [] [] [] (qs (rq hC [oN rI a,oN rI b] (fr 6 5) [(10,vB (!decide ((a.length:Int)=(b.length:Int))))] [] [] (aQ h (fun c1 h=> ?_) (fun c1 h=> ?_))))
 ·obtain rfl:=so h
  exact rq hC [] [4] [(4,vB false)] [] [] (qr eR)
 ·refine qk (qs (rq hC [] [5] [(5,vI 0)] [] [] (qb (jC h (fun x_=>aZ [(0,vM rI a),(1,vM rI b),(5,vI x_)] [] []) lS ?_))))
  rintro again2 x1 h
  refine qs (rq hC [oN rI a] (fr 11 4) [(14,vB (decide (x1<(a.length:Int))))] [] [] (aQ h (fun c2 h=> ?_) (fun c2 h=> ?_)))
  ·refine qk (qs (qb (qs ?_)))
   obtain⟨x3,hx3,x4,hx4,h⟩:=dI h
   refine dk hC bK [oR rI hx3,oR rI hx4] (fr 17 9) [(25,vB (!decide (x3=x4)))] [] [] (aQ h (fun c3 h=> ?_) (fun c3 h=> ?_))
   ·obtain rfl:=so h
    exact rq hC [] [4] [(4,vB false)] [] [] (qr eR)
   ·exact qk (rk hC [] [5,15,16] [(5,vI (wr (x1+1)))] [] [] (lE h))
  ·obtain rfl:=so h
   exact dA (rq hC [] [4] [(4,vB true)] [] [] (qr eR))
theorem qA{p}{r}(h:fC n p=some r):VQ G 70 [] [V.agg (cF p)] (ms 0 1 3 aJ r) [ar 38 1 3 aJ r]:=by
 unfold fC at h
 refine vq aN Tryz.func70 rfl fun w X β0 hC hg=> ?_
 refine rq hC [.z (.b (true))] [1,2] [(1,V.tp (bT p))] [] [] (rq hC [.z (.nat 20)] [3,8] [(3,ms 20 1 3 aJ [])] [(20,some (ar 38 1 3 aJ []))] [(20,true)] (qs (rq hC [] [4] [(4,vI 0)] [] [] (qb (bJ (γ:=Nat) h (fun x_ g_=>aZ [(1,V.tp (bT p)),(3,ms 20 g_ 3 aJ x_.1),(4,vI x_.2)] [(20,ar 38 g_ 3 aJ x_.1)] [20]) 1 (lS) ?_)))))
 rintro again4 ⟨x1,x2⟩ g3 h
 refine qs (rq hC [oN aH p.parts] (fr 9 5) [(13,vB (decide (x2<(p.parts.length:Int))))] [] [] (aQ h (fun c1 h=> ?_) (fun c1 h=> ?_)))
 ·refine qk (qs (qb ?_))
  obtain⟨x5,hx5,x6,hx6,h⟩:=dI h
  refine rq hC [.z (.nat 21),oR aH hx5,oC [21] [] (vX G n [] 1 x5.nest [] hx6)] [5,16,17,18,19,20,21,22,23] [(5,ms 21 2 1 (rL rI) x6)] [(21,some (ar 27 2 1 (rL rI) x6))] [(21,true),(21,true)] (rq hC [] [6] [(6,vI 0)] [] [] (qb (bJ (γ:=Nat) h (fun x_ g_=>aZ [(1,V.tp (bT p)),(3,ms 20 g_ 3 aJ x_.1),(4,vI x2),(5,ms 21 2 1 (rL rI) x6),(6,vI x_.2)] [(20,ar 38 g_ 3 aJ x_.1),(21,ar 27 2 1 (rL rI) x6)] [20,21]) g3 (lS) ?_)))
  rintro again10 ⟨x7,x8⟩ g9 h
  refine qs (rq hC [oN (rL rI) x6] (fr 24 4) [(27,vB (decide (x8<(x6.length:Int))))] [] [] (aQ h (fun c2 h=> ?_) (fun c2 h=> ?_)))
  ·refine qk (qs (qb (rq hC [] [7] [(7,vI 0)] [] [] (qb (bJ (γ:=Nat) h (fun x_ g_=>aZ [(1,V.tp (bT p)),(3,ms 20 g_ 3 aJ x_.1),(4,vI x2),(5,ms 21 2 1 (rL rI) x6),(6,vI x8),(7,vI x_.2)] [(20,ar 38 g_ 3 aJ x_.1),(21,ar 27 2 1 (rL rI) x6)] [20,21]) g9 (lS) ?_)))))
   rintro again14 ⟨x11,x12⟩ g13 h
   refine qs (rq hC [oR aH hx5,oN bB x5.body] (fr 30 9) [(38,vB (decide (x12<(x5.body.length:Int))))] [] [] (aQ h (fun c3 h=> ?_) (fun c3 h=> ?_)))
   ·refine qk (qs (qb ?_))
    obtain⟨x15,hx15,x16,hx16,x17,hx17,h⟩:=lR h
    exact rk hC [.z (.nat 22),oQ (kQ (rL rI) hx15),oX (rL rI) hx15,oA (aT rI hx16),.z (.at 4),.z (.fz 22 [49] []),.z (.int 0),oQ (cL (r:=rI) 1 (fun _=>rfl) []),oQ (cL (r:=rI) 1 (fun _=>rfl) x15),oA (aT aJ hx17),oQ (cL (r:=aJ) 3 sO x11),oQ (cL (r:=aJ) 3 sO [(⟨x2,x12,x16⟩:Inst)])] [3,41,42,43,44,45,46,47,48,49,50,51,52] [(3,ms 20 (g13+1) 3 aJ x17)] [(22,none),(20,some (ar 38 (g13+1) 3 aJ x17))] [(22,true)] (rk hC [] [7,39,40] [(7,vI (wr (x12+1)))] [] [] ⟨(x17,wr (x12+1)),(g13+1),h,lS⟩)
   ·exact dA (rk hC [] [6,28,29] [(6,vI (wr (x8+1)))] [] [] ⟨(x11,wr (x8+1)),g13,h,lS⟩)
  ·exact dA (rk hC [] [4,14,15] [(4,vI (wr (x2+1)))] [] [] ⟨(x7,wr (x2+1)),g9,h,lS⟩)
 ·obtain rfl:=so h
  exact dA (rq hC [] [2,53] [(2,ms 20 g3 3 aJ x1)] [] [] (qw (lk hC [.ren 2 20 0] [2] [(2,ms 0 1 3 aJ x1)] [(0,some (ar 38 1 3 aJ x1)),(20,none)] [(0,true)]) (qr eW)))
theorem aBI{p}{r}(h:qN n p=some r):VQ G 65 [] [V.agg (cF p)] (ms 0 1 2 cI r) [ar 83 1 2 cI r]:=by
 unfold qN at h
 refine vq aN Tryz.func65 rfl fun w X β0 hC hg=> ?_
 refine rq hC [.z (.b (true))] [1,2] [(1,V.tp (bT p))] [] [] (rq hC [.z (.nat 20)] [3,9] [(3,ms 20 1 2 cI [])] [(20,some (ar 83 1 2 cI []))] [(20,true)] ?_)
 obtain⟨x1,hx1,h⟩:=bd h
 refine rq hC [oC [] [21] (qA G hx1)] [4,10,11] [(4,ms 21 1 3 aJ x1)] [(21,some (ar 38 1 3 aJ x1))] [(21,true)] (qs (rq hC [] [5] [(5,vI 0)] [] [] (qb (bJ (γ:=Nat) h (fun x_ g_=>aZ [(1,V.tp (bT p)),(3,ms 20 g_ 2 cI x_.1),(4,ms 21 1 3 aJ x1),(5,vI x_.2)] [(20,ar 83 g_ 2 cI x_.1),(21,ar 38 1 3 aJ x1)] [20,21]) 1 (lS) ?_))))
 rintro again5 ⟨x2,x3⟩ g4 h
 refine qs (rq hC [oN aJ x1] (fr 12 4) [(15,vB (decide (x3<(x1.length:Int))))] [] [] (aQ h (fun c1 h=> ?_) (fun c1 h=> ?_)))
 ·refine qk (qs (qb (qs ?_)))
  obtain⟨x6,hx6,x7,hx7,x8,hx8,h⟩:=lR h
  obtain⟨x9,hx9,h⟩:=bd h
  refine dk hC bK [oQ (kQ aJ hx6),oX aJ hx6,oR aH hx7,oQ (kQ aJ hx6),oX aJ hx6,oR bB hx8,oQ (kQ aJ hx6),oX aJ hx6,oC [] [22] (yE G hx9)] [6,7,8,18,19,20,21,22,23,24,25,26,27,28,29,30,31,32,33,34,35,36,37,38,39,40,41,42,43,44,45,46] [(6,ms 22 1 1 rI x9.1),(7,vI x9.2.1)] [(22,some (ar 3 1 1 rI x9.1))] [(22,true)] ?_
  obtain⟨x10,hx10,h⟩:=bd h
  exact rk hC [.z (.at 4),.z (.fz 22 [6,48] []),.z (.int 0),oA (aT cI hx10),oQ (cL (r:=cI) 2 A3 x2),oQ (cL (r:=cI) 2 A3 [(⟨x9.1,x9.2.1⟩:L6Use)])] [3,6,47,48,49,50,51,52] [(3,ms 20 (g4+1) 2 cI x10)] [(22,none),(20,some (ar 83 (g4+1) 2 cI x10))] [] (rk hC [] [5,16,17] [(5,vI (wr (x3+1)))] [] [] ⟨(x10,wr (x3+1)),(g4+1),h,lS⟩)
 ·obtain rfl:=so h
  exact dA (rq hC [] [2,53] [(2,ms 20 g4 2 cI x2)] [] [] (qw (lk hC [.ren 2 20 0] [2] [(2,ms 0 1 2 cI x2)] [(0,some (ar 83 1 2 cI x2)),(20,none)] [(0,true)]) (qr eW)))
theorem O6{list}{n_a1}{r}(h:sH n list n_a1=some r):PQ G 158 [vM rI list,vI n_a1] (vB r):=by
 unfold sH at h
 refine pq aN Tryz.func158 rfl fun w X hC=> ?_
 refine rq hC [] [4] [] [] [] (qs (rq hC [] [5] [(5,vI 0)] [] [] (qb (jC h (fun x_=>aZ [(0,vM rI list),(1,vI n_a1),(5,vI x_)] [] []) lS ?_))))
 rintro again2 x1 h
 refine qs (rq hC [oN rI list] (fr 6 4) [(9,vB (decide (x1<(list.length:Int))))] [] [] (aQ h (fun c1 h=> ?_) (fun c1 h=> ?_)))
 ·refine qk (qs (qb ?_))
  obtain⟨x3,hx3,h⟩:=bd h
  refine rq hC [oR rI hx3] (fr 12 6) [(17,vB (decide (x3=n_a1)))] [] [] (aQ h (fun c2 h=> ?_) (fun c2 h=> ?_))
  ·obtain rfl:=so h
   exact rq hC [] [4] [(4,vB true)] [] [] (qr eR)
  ·exact qk (rk hC [] [5,10,11] [(5,vI (wr (x1+1)))] [] [] (lE h))
 ·obtain rfl:=so h
  exact dA (rq hC [] [4] [(4,vB false)] [] [] (qr eR))
theorem aAy{order}{many}{r}(h:oD n order many=some r):PQ G 171 [vM rI order,vI many] (vB r):=by
 unfold oD at h
 refine pq aN Tryz.func171 rfl fun w X hC=> ?_
 refine rq hC [] [4] [] [] [] ?_
 obtain⟨x1,hx1,h⟩:=bd h
 refine rq hC [.z (.nat 20),oA (aED rB hx1),oQ (y9 hx1).1] [5,8,9] [(5,ms 20 1 1 rB x1)] [(20,some (ar 4 1 1 rB x1))] [(20,true)] (qs (rq hC [oN rI order] [10,11,12] [(10,vM rI order),(11,vI (order.length:Int)),(12,vI 0)] [] [] (qb (bJ (γ:=Nat) h (fun x_ g_=>aZ [(0,vM rI order),(1,vI many),(5,ms 20 g_ 1 rB x_.1),(10,vM rI order),(11,vI (order.length:Int)),(12,vI x_.2)] [(20,ar 4 g_ 1 rB x_.1)] [20]) 1 (lS) ?_))))
 rintro again5 ⟨x2,x3⟩ g4 h
 refine rq hC [] [13] [(13,vB (decide (x3<(order.length:Int))))] [] [] (qs (aQ h (fun c1 h=> ?_) (fun c1 h=> ?_)))
 ·refine qk (qs (qb ?_))
  obtain⟨x6,hx6,h⟩:=bd h
  refine rq hC [oR rI hx6] [7,14,15] [(7,vI x6)] [] [] (qs (vj h (fun x_=>aZ [(0,vM rI order),(1,vI many),(5,ms 20 g4 1 rB x2),(7,vI x6),(10,vM rI order),(11,vI (order.length:Int)),(12,vI x3),(26,vB x_)] [(20,ar 4 g4 1 rB x2)] [20]) (fun j7 h=> ?_) (fun x10 h=> ?_)))
  ·
   obtain⟨x8,hx8,h⟩:=bd h
   refine aP h (fun c2 h=> ?_) (fun c2 h=> ?_)
   ·obtain⟨x9,hx9,h⟩:=bd h
    exact rk hC ([oV (bE G hx8)]++rF 3 c2++[oQ (kQ rB hx9),oF c2,oX rB hx9,oF c2]) (fr 16 11) [(26,vB x9)] [] [] (lE h)
   ·exact rk hC ([oV (bE G hx8)]++rT 5 c2) (fr 16 11) [(26,vB true)] [] [] (lE h)
  ·refine aQ h (fun c3 h=> ?_) (fun c3 h=> ?_)
   ·obtain rfl:=so h
    exact rq hC [] [4] [(4,vB false)] [] [] (qr eR)
   ·refine qk ?_
    obtain⟨x11,hx11,x12,hx12,h⟩:=dI h
    exact rk hC [oQ (kQ rB hx11),oX rB hx11,.z (.rows (List.map rB x12)),.z (.len 5 (List.map rB x12).length),oQ (str rB hx12),oQ (s7 rB hx12)] [5,27,28,29] [(5,ms 20 g4 1 rB x12)] [(20,some (ar 4 g4 1 rB x12))] [] (rk hC [] [12,30] [(12,vI (wr (x3+1)))] [] [] ⟨(x12,wr (x3+1)),g4,h,lS⟩)
 ·obtain rfl:=so h
  exact dA (rq hC [oN rI order] [4,31,32,33,34] [(4,vB (decide ((order.length:Int)=many)))] [] [] (qr eR))
theorem mP{p}{order}{r}(h:gF n p order=some r):PQ G 72 [V.agg (cF p),vM rI order] (vB r):=by
 unfold gF at h
 refine pq aN Tryz.func72 rfl fun w X hC=> ?_
 refine rq hC [.z (.b (true))] [2,4] [(2,V.tp (bT p))] [] [] ?_
 obtain⟨x1,hx1,h⟩:=bd h
 refine rq hC [oC [] [20] (dT G hx1)] (fr 5 7) [(5,ms 20 1 3 aJ x1.1),(6,vB x1.2)] [(20,some (ar 38 1 3 aJ x1.1))] [(20,true)] (vj h (fun x_=>aZ [(4,vB x_)] [(20,ar 38 1 3 aJ x1.1)] [20]) (fun j2 h=> ?_) (fun x4 h=> ?_))
 ·
  refine aP h (fun c1 h=> ?_) (fun c1 h=> ?_)
  ·exact rk hC (rF 5 c1) [4,12,13,14,15,16,17,18] [(4,vB false)] [] [] (lE h)
  ·obtain⟨x3,hx3,h⟩:=bd h
   exact rk hC (rT 3 c1++[oN aJ x1.1,oT c1,oV (aAy G hx3),oT c1]) [4,12,13,14,15,16,17,18] [(4,vB x3)] [] [] (lE h)
 ·obtain rfl:=so h
  exact qr eR
theorem U2{p}{m}{order}{r}(h:mH n p m order=some r):VQ G 22 [] [V.agg (cF p),vM rI m,vM rI order] (V.tup [ms 0 1 1 rI r.1,vB r.2]) [ar 3 1 1 rI r.1]:=by
 unfold mH at h
 refine vq aN Tryz.func22 rfl fun w X β0 hC hg=> ?_
 refine rq hC [.z (.b (true))] [3,6,7] [(3,V.tp (bT p))] [] [] (qs (vj h (fun x_=>aZ [(1,vM rI m),(2,vM rI order),(3,V.tp (bT p)),(21,vB x_)] [] []) (fun j1 h=> ?_) (fun x4 h=> ?_)))
 ·
  obtain⟨x2,hx2,h⟩:=bd h
  refine aP h (fun c1 h=> ?_) (fun c1 h=> ?_)
  ·obtain⟨x3,hx3,h⟩:=bd h
   exact rk hC ([oV (kS G hx2)]++rF 3 c1++[oV (mP G hx3),oF c1,oF c1]) (fr 12 10) [(21,vB (!x3))] [] [] (lE h)
  ·exact rk hC ([oV (kS G hx2)]++rT 5 c1) (fr 12 10) [(21,vB true)] [] [] (lE h)
 ·refine aQ h (fun c2 h=> ?_) (fun c2 h=> ?_)
  ·obtain rfl:=so h
   exact rq hC [] [6,7] [(6,V.t T.nilS),(7,vB false)] [] [] (qw (lk hC [.grow 6 0 3] [6] [(6,ms 0 1 1 rI [])] [(0,some (ar 3 1 1 rI []))] [(0,true)]) (qr eW))
  ·refine qk ?_
   obtain⟨x5,hx5,h⟩:=bd h
   refine rq hC [oC [] [20] (fX G hx5)] [8,22,23] [(8,ms 20 1 3 aJ x5)] [(20,some (ar 38 1 3 aJ x5))] [(20,true)] ?_
   obtain⟨x6,hx6,h⟩:=bd h
   refine rq hC [oC [] [21] (G.clone m hx6)] [9,24,25] [(9,ms 21 1 1 rI x6)] [(21,some (ar 3 1 1 rI x6))] [(21,true)] (qs (rq hC [oN rI order] [26,27,28] [(26,vM rI order),(27,vI (order.length:Int)),(28,vI 0)] [] [] (qb (bJ (γ:=Nat) h (fun x_ g_=>aZ [(3,V.tp (bT p)),(8,ms 20 1 3 aJ x5),(9,ms 21 g_ 1 rI x_.1),(26,vM rI order),(27,vI (order.length:Int)),(28,vI x_.2)] [(20,ar 38 1 3 aJ x5),(21,ar 3 g_ 1 rI x_.1)] [20,21]) 1 (lS) ?_))))
   rintro again10 ⟨x7,x8⟩ g9 h
   refine rq hC [] [29] [(29,vB (decide (x8<(order.length:Int))))] [] [] (qs (aQ h (fun c3 h=> ?_) (fun c3 h=> ?_)))
   ·refine qk (qs (qb ?_))
    obtain⟨x11,hx11,h⟩:=bd h
    refine rq hC [oR rI hx11] [11,30,31] [(11,vI x11)] [] [] ?_
    obtain⟨x12,hx12,x13,hx13,x14,hx14,h⟩:=lR h
    exact dk hC bK [oQ (kQ aJ hx12),oX aJ hx12,oC [21] [] (rW G g9 hx13)] (fr 32 7) [] [(21,some (ar 3 g9 1 rI x13))] [(21,true)] (qw (lpP hC [.len 9 (List.map rI x13).length] [9] [(9,ms 21 g9 1 rI x13)] [] [] (a1 (aEl rI hx14)) (by kernel_rfl)) (rk hC [] [28,39] [(28,vI (wr (x8+1)))] [] [] ⟨(x13,wr (x8+1)),g9,h,lS⟩))
   ·obtain rfl:=so h
    exact dA (rq hC [] [6,7,40] [(6,ms 21 g9 1 rI x7),(7,vB true)] [] [] (qw (lk hC [.ren 6 21 0] [6] [(6,ms 0 1 1 rI x7)] [(0,some (ar 3 1 1 rI x7)),(21,none)] [(0,true)]) (qr eW)))
theorem uI{t}{from_a1}{to_a2}{r}(h:eK n t from_a1 to_a2=some r):PQ G 74 [V.tp [T.sl (List.map aV t.program.arrays),T.sl (List.map aH t.program.parts),T.sl (List.map aJ t.list),T.sl (List.map (rL rI) t.reads),T.sl (List.map rI t.writes)],vI from_a1,vI to_a2] (vI r):=by
 unfold eK at h
 refine pq aN Tryz.func74 rfl fun w X hC=> ?_
 refine rq hC [] [6] [] [] [] (rq hC [] [7] [(7,vI 0)] [] [] (vj h (fun x_=>aZ [(0,V.tp [T.sl (List.map aV t.program.arrays),T.sl (List.map aH t.program.parts),T.sl (List.map aJ t.list),T.sl (List.map (rL rI) t.reads),T.sl (List.map rI t.writes)]),(1,vI from_a1),(2,vI to_a2),(7,vI x_)] [] []) (fun j1 h=> ?_) (fun x5 h=> ?_)))
 ·
  refine qs ?_
  obtain⟨x2,hx2,x3,hx3,x4,hx4,h⟩:=lR h
  refine dk hC bK [oR (rL rI) hx2,oR rI hx3,oV (oU G hx4)] (fr 8 15) [(22,vB x4)] [] [] (aQ h (fun c1 h=> ?_) (fun c1 h=> ?_))
  ·exact rk hC [] [7,23,24] [(7,vI (wr (0+1)))] [] [] (lE h)
  ·exact qk (lE h)
 ·refine vj h (fun x_=>aZ [(0,V.tp [T.sl (List.map aV t.program.arrays),T.sl (List.map aH t.program.parts),T.sl (List.map aJ t.list),T.sl (List.map (rL rI) t.reads),T.sl (List.map rI t.writes)]),(1,vI from_a1),(2,vI to_a2),(7,vI x_)] [] []) (fun j6 h=> ?_) (fun x10 h=> ?_)
  ·
   refine qs ?_
   obtain⟨x7,hx7,x8,hx8,x9,hx9,h⟩:=lR h
   refine dk hC bK [oR (rL rI) hx7,oR rI hx8,oV (oU G hx9)] (fr 25 15) [(39,vB x9)] [] [] (aQ h (fun c2 h=> ?_) (fun c2 h=> ?_))
   ·exact rk hC [] [7,40,41] [(7,vI (wr (x5+2)))] [] [] (lE h)
   ·exact qk (lE h)
  ·refine vj h (fun x_=>aZ [(7,vI x_)] [] []) (fun j11 h=> ?_) (fun x14 h=> ?_)
   ·
    refine qs ?_
    obtain⟨x12,hx12,x13,hx13,h⟩:=dI h
    refine dk hC bK [oR rI hx12,oR rI hx13] (fr 42 15) [(56,vB (decide (x12=x13)))] [] [] (aQ h (fun c3 h=> ?_) (fun c3 h=> ?_))
    ·exact rk hC [] [7,57,58] [(7,vI (wr (x10+4)))] [] [] (lE h)
    ·exact qk (lE h)
   ·obtain rfl:=so h
    exact rq hC [] [6,59] [(6,vI x14)] [] [] (qr eR)
theorem aAk{a}{b}{r}(h:nO n a b=some r):PQ G 75 [V.agg [vM rI a.reads,vI a.write],V.agg [vM rI b.reads,vI b.write]] (vI r):=by
 unfold nO at h
 refine pq aN Tryz.func75 rfl fun w X hC=> ?_
 refine rq hC [.z (.b (true)),.z (.b (true))] [2,3,4] [(2,V.tp [T.sl (List.map rI a.reads),T.int .i64 a.write]),(3,V.tp [T.sl (List.map rI b.reads),T.int .i64 b.write])] [] [] (rq hC [] [5] [(5,vI 0)] [] [] (vj h (fun x_=>aZ [(2,V.tp [T.sl (List.map rI a.reads),T.int .i64 a.write]),(3,V.tp [T.sl (List.map rI b.reads),T.int .i64 b.write]),(5,vI x_)] [] []) (fun j1 h=> ?_) (fun x3 h=> ?_)))
 ·
  obtain⟨x2,hx2,h⟩:=bd h
  refine rq hC [oV (O6 G hx2)] (fr 6 5) [(10,vB x2)] [] [] (aQ h (fun c1 h=> ?_) (fun c1 h=> ?_))
  ·exact rk hC [] [5,11,12] [(5,vI (wr (0+1)))] [] [] (lE h)
  ·exact qk (lE h)
 ·refine vj h (fun x_=>aZ [(2,V.tp [T.sl (List.map rI a.reads),T.int .i64 a.write]),(3,V.tp [T.sl (List.map rI b.reads),T.int .i64 b.write]),(5,vI x_)] [] []) (fun j4 h=> ?_) (fun x6 h=> ?_)
  ·
   obtain⟨x5,hx5,h⟩:=bd h
   refine rq hC [oV (O6 G hx5)] (fr 13 5) [(17,vB x5)] [] [] (aQ h (fun c2 h=> ?_) (fun c2 h=> ?_))
   ·exact rk hC [] [5,18,19] [(5,vI (wr (x3+2)))] [] [] (lE h)
   ·exact qk (lE h)
  ·refine vj h (fun x_=>aZ [(5,vI x_)] [] []) (fun j7 h=> ?_) (fun x8 h=> ?_)
   ·
    refine rq hC [] (fr 20 5) [(24,vB (decide (a.write=b.write)))] [] [] (aQ h (fun c3 h=> ?_) (fun c3 h=> ?_))
    ·exact rk hC [] [5,25,26] [(5,vI (wr (x6+4)))] [] [] (lE h)
    ·exact qk (lE h)
   ·obtain rfl:=so h
    exact rq hC [] [4,27] [(4,vI x8)] [] [] (qr eR)
theorem y0{t}{r}(h:gS n t=some r):VQ G 96 [] [V.tp [T.sl (List.map aV t.program.arrays),T.sl (List.map aH t.program.parts),T.sl (List.map aJ t.list),T.sl (List.map (rL rI) t.reads),T.sl (List.map rI t.writes)]] (ms 0 1 3 aR r) [ar 100 1 3 aR r]:=by
 unfold gS at h
 refine vq aN Tryz.func96 rfl fun w X β0 hC hg=> ?_
 refine rq hC [] [2] [] [] [] (rq hC [] [3] [(3,V.t T.nilS)] [] [] (qs (rq hC [oN aJ t.list] (fr 7 6) [(11,vI (t.list.length:Int)),(12,vI 0)] [] [] (qb (qw (lk hC [.grow 3 20 100] [3] [(3,ms 20 1 3 aR [])] [(20,some (ar 100 1 3 aR []))] [(20,true)]) ?_)))))
 refine bJ (γ:=Nat) h (fun x_ g_=>aZ [(0,V.tp [T.sl (List.map aV t.program.arrays),T.sl (List.map aH t.program.parts),T.sl (List.map aJ t.list),T.sl (List.map (rL rI) t.reads),T.sl (List.map rI t.writes)]),(3,ms 20 g_ 3 aR x_.1),(11,vI (t.list.length:Int)),(12,vI x_.2)] [(20,ar 100 g_ 3 aR x_.1)] [20]) 1 (lS) ?_
 rintro again4 ⟨x1,x2⟩ g3 h
 refine rq hC [] [13] [(13,vB (decide (x2<(t.list.length:Int))))] [] [] (qs (aQ h (fun c1 h=> ?_) (fun c1 h=> ?_)))
 ·refine qk (qs (qb (rq hC [] [4,14] [(4,vI x2)] [] [] (rq hC [] [5,15,16] [(5,vI (wr (x2+1)))] [] [] (qb (bJ (γ:=Nat) h (fun x_ g_=>aZ [(0,V.tp [T.sl (List.map aV t.program.arrays),T.sl (List.map aH t.program.parts),T.sl (List.map aJ t.list),T.sl (List.map (rL rI) t.reads),T.sl (List.map rI t.writes)]),(3,ms 20 g_ 3 aR x_.1),(4,vI x2),(5,vI x_.2),(11,vI (t.list.length:Int)),(12,vI x2)] [(20,ar 100 g_ 3 aR x_.1)] [20]) g3 (lS) ?_))))))
  rintro again8 ⟨x5,x6⟩ g7 h
  refine qs (rq hC [oN aJ t.list] (fr 17 7) [(23,vB (decide (x6<(t.list.length:Int))))] [] [] (aQ h (fun c2 h=> ?_) (fun c2 h=> ?_)))
  ·refine qk ?_
   obtain⟨j9,hj9,h⟩:=yU h
   refine jE (γ:=Nat) (j:=j9) (r:=r) (fun x_ g_=>aZ [(0,V.tp [T.sl (List.map aV t.program.arrays),T.sl (List.map aH t.program.parts),T.sl (List.map aJ t.list),T.sl (List.map (rL rI) t.reads),T.sl (List.map rI t.writes)]),(3,ms 20 g_ 3 aR x_),(4,vI x2),(5,vI x6),(11,vI (t.list.length:Int)),(12,vI x2)] [(20,ar 100 g_ 3 aR x_)] [20]) ?_ ?_
   ·
    refine qb ?_
    obtain⟨x10,hx10,h⟩:=bd h
    refine rq hC [oV (uI G hx10)] [6,26,27,28,29] [(6,vI x10)] [] [] (rq hC [] [30,31] [(31,vB (decide ((0:Int)<x10)))] [] [] (aQ h (fun c3 h=> ?_) (fun c3 h=> ?_)))
    ·obtain⟨x11,hx11,h⟩:=bd h
     exact rk hC [.z (.int 0),oA (aT aR hx11),oQ (cL (r:=aR) 3 n4 x5),oQ (cL (r:=aR) 3 n4 [(⟨x2,x6,x10⟩:Dep)])] [3,32,33,34,35,36,37,38] [(3,ms 20 (g7+1) 3 aR x11)] [(20,some (ar 100 (g7+1) 3 aR x11))] [] ⟨x11,(g7+1),h,lS⟩
    ·exact qk ⟨x5,g7,h,lS⟩
   ·rintro x12 g13 h
    subst hj9
    exact rk hC [] [5,24,25] [(5,vI (wr (x6+1)))] [] [] ⟨(x12,wr (x6+1)),g13,h,lS⟩
  ·exact dA (rk hC [] [12,39] [(12,vI (wr (x2+1)))] [] [] ⟨(x5,wr (x2+1)),g7,h,lS⟩)
 ·obtain rfl:=so h
  exact dA (rq hC [] [2,40] [(2,ms 20 g3 3 aR x1)] [] [] (qw (lk hC [.ren 2 20 0] [2] [(2,ms 0 1 3 aR x1)] [(0,some (ar 100 1 3 aR x1)),(20,none)] [(0,true)]) (qr eW)))
theorem aBJ{p}{r}(h:qO n p=some r):VQ G 82 [] [V.agg (cF p)] (ms 0 1 3 aR r) [ar 100 1 3 aR r]:=by
 unfold qO at h
 refine vq aN Tryz.func82 rfl fun w X β0 hC hg=> ?_
 refine rq hC [.z (.b (true))] [1,2] [(1,V.tp (bT p))] [] [] (rq hC [.z (.nat 20)] [3,8] [(3,ms 20 1 3 aR [])] [(20,some (ar 100 1 3 aR []))] [(20,true)] ?_)
 obtain⟨x1,hx1,h⟩:=bd h
 refine rq hC [oC [] [21] (aBI G hx1)] [4,9,10] [(4,ms 21 1 2 cI x1)] [(21,some (ar 83 1 2 cI x1))] [(21,true)] (qs (rq hC [] [5] [(5,vI 0)] [] [] (qb (bJ (γ:=Nat) h (fun x_ g_=>aZ [(3,ms 20 g_ 3 aR x_.1),(4,ms 21 1 2 cI x1),(5,vI x_.2)] [(20,ar 100 g_ 3 aR x_.1),(21,ar 83 1 2 cI x1)] [20,21]) 1 (lS) ?_))))
 rintro again5 ⟨x2,x3⟩ g4 h
 refine qs (rq hC [oN cI x1] (fr 11 4) [(14,vB (decide (x3<(x1.length:Int))))] [] [] (aQ h (fun c1 h=> ?_) (fun c1 h=> ?_)))
 ·refine qk (qs (qb (rq hC [] [6,17,18] [(6,vI (wr (x3+1)))] [] [] (qb (bJ (γ:=Nat) h (fun x_ g_=>aZ [(3,ms 20 g_ 3 aR x_.1),(4,ms 21 1 2 cI x1),(5,vI x3),(6,vI x_.2)] [(20,ar 100 g_ 3 aR x_.1),(21,ar 83 1 2 cI x1)] [20,21]) g4 (lS) ?_)))))
  rintro again9 ⟨x6,x7⟩ g8 h
  refine qs (rq hC [oN cI x1] (fr 19 4) [(22,vB (decide (x7<(x1.length:Int))))] [] [] (aQ h (fun c2 h=> ?_) (fun c2 h=> ?_)))
  ·refine qk ?_
   obtain⟨j10,hj10,h⟩:=yU h
   refine jE (γ:=Nat) (j:=j10) (r:=r) (fun x_ g_=>aZ [(3,ms 20 g_ 3 aR x_),(4,ms 21 1 2 cI x1),(5,vI x3),(6,vI x7)] [(20,ar 100 g_ 3 aR x_),(21,ar 83 1 2 cI x1)] [20,21]) ?_ ?_
   ·
    refine qb (qs ?_)
    obtain⟨x11,hx11,x12,hx12,x13,hx13,h⟩:=lR h
    refine dk hC bK [oQ (kQ cI hx11),oX cI hx11,oQ (kQ cI hx12),oX cI hx12,oV (aAk G hx13)] [7,25,26,27,28,29,30,31,32,33] [(7,vI x13)] [] [] (rq hC [] [34,35] [(35,vB (!decide (x13=0)))] [] [] (aQ h (fun c3 h=> ?_) (fun c3 h=> ?_)))
    ·obtain⟨x14,hx14,h⟩:=bd h
     exact rk hC [.z (.int 0),oA (aT aR hx14),oQ (cL (r:=aR) 3 n4 x6),oQ (cL (r:=aR) 3 n4 [(⟨x3,x7,x13⟩:Dep)])] [3,36,37,38,39,40,41,42] [(3,ms 20 (g8+1) 3 aR x14)] [(20,some (ar 100 (g8+1) 3 aR x14))] [] ⟨x14,(g8+1),h,lS⟩
    ·exact qk ⟨x6,g8,h,lS⟩
   ·rintro x15 g16 h
    subst hj10
    exact rk hC [] [6,23,24] [(6,vI (wr (x7+1)))] [] [] ⟨(x15,wr (x7+1)),g16,h,lS⟩
  ·exact dA (rk hC [] [5,15,16] [(5,vI (wr (x3+1)))] [] [] ⟨(x6,wr (x3+1)),g8,h,lS⟩)
 ·obtain rfl:=so h
  exact dA (rq hC [] [2,43] [(2,ms 20 g4 3 aR x2)] [] [] (qw (lk hC [.ren 2 20 0] [2] [(2,ms 0 1 3 aR x2)] [(0,some (ar 100 1 3 aR x2)),(20,none)] [(0,true)]) (qr eW)))
theorem U1(G:GS)(n:Nat)(d:Dep)(c0__a1:List Int){r:Bool}(h:iA n d c0__a1=some r):PQ G 244 [V.agg [vI d.fromF,vI d.toF,vI d.kinds],V.tp [T.sl (List.map rI c0__a1)]] (vB r):=by
 unfold iA at h
 refine pq aN Tryz.func244 rfl fun w X hC=> ?_
 refine rq hC [.z (.b (true))] [2,3] [(2,V.tp [T.int .i64 d.fromF,T.int .i64 d.toF,T.int .i64 d.kinds])] [] [] (qs ?_)
 obtain⟨x1,hx1,x2,hx2,h⟩:=dI h
 obtain rfl:=so h
 exact dk hC bK [oR rI hx1,oR rI hx2] (fr 3 12) [(3,vB (decide (x1<x2)))] [] [] (qr eR)
theorem rO(G:GS)(n:Nat)(s:List Dep)(fF:FuncId)(fC0:List T)(f:Dep→Option Bool)(hf: ∀(q0:Dep) r,f q0=some r→PQ G fF [V.agg [vI q0.fromF,vI q0.toF,vI q0.kinds],V.tp fC0] (vB r)){r:Int}(h:cA n s f=some r):PQ G 185 [vM aR s,V.fn fF [V.tp fC0]] (vI r):=by
 unfold cA at h
 refine pq aN Tryz.func185 rfl fun w X hC=> ?_
 refine rq hC [] [4] [] [] [] (qs (rq hC [oN aR s] [6,7,8] [(7,vI (s.length:Int)),(8,vI 0)] [] [] (qb (jC h (fun x_=>aZ [(0,vM aR s),(1,V.fn fF [V.tp fC0]),(7,vI (s.length:Int)),(8,vI x_)] [] []) lS ?_))))
 rintro again2 x1 h
 refine rq hC [] [9] [(9,vB (decide (x1<(s.length:Int))))] [] [] (qs (aQ h (fun c1 h=> ?_) (fun c1 h=> ?_)))
 ·refine qk (qs (qb (rq hC [] [5,10] [(5,vI x1)] [] [] ?_)))
  obtain⟨x3,hx3,x4,hx4,h⟩:=dI h
  refine rq hC [oR aR hx3,oV (hf x3 _ hx4)] (fr 11 6) [(16,vB x4)] [] [] (aQ h (fun c2 h=> ?_) (fun c2 h=> ?_))
  ·obtain rfl:=so h
   exact rq hC [] [4,17] [(4,vI x1)] [] [] (qr eR)
  ·exact qk (rk hC [] [8,18] [(8,vI (wr (x1+1)))] [] [] (lE h))
 ·obtain rfl:=so h
  exact dA (rq hC [] [4] [(4,vI (-1))] [] [] (qr eR))
theorem aBY{deps}{order}{r}(h:rK n deps order=some r):PQ G 183 [vM aR deps,vM rI order] (vI r):=by
 unfold rK at h
 refine pq aN Tryz.func183 rfl fun w X hC=> ?_
 refine rq hC [] [4] [] [] [] ?_
 obtain⟨x1,hx1,h⟩:=bd h
 refine rq hC [oN rI order,.z (.nat 20),oA (aED rI hx1),.z (.nat 21),oQ (y9 hx1).1] [5,8,9,10] [(5,V.ref 21 0)] [(20,some (ar 3 1 1 rI x1)),(21,sc [ms 20 1 1 rI x1])] [(20,true),(21,true)] (qs (rq hC [oN rI order] [11,12,13] [(11,vM rI order),(12,vI (order.length:Int)),(13,vI 0)] [] [] (qb (bJ (γ:=Nat) h (fun x_ g_=>aZ [(0,vM aR deps),(5,V.ref 21 0),(11,vM rI order),(12,vI (order.length:Int)),(13,vI x_.2)] [(20,ar 3 g_ 1 rI x_.1),(21,E.cells [ms 20 g_ 1 rI x_.1])] [20,21]) 1 (lS) ?_))))
 rintro again5 ⟨x2,x3⟩ g4 h
 refine rq hC [] [14] [(14,vB (decide (x3<(order.length:Int))))] [] [] (qs (aQ h (fun c1 h=> ?_) (fun c1 h=> ?_)))
 ·refine qk (qs (qb ?_))
  obtain⟨x6,hx6,h⟩:=bd h
  refine rq hC [oR rI hx6] [6,7,15,16,17] [(6,vI x3),(7,vI x6)] [] [] ?_
  obtain⟨x7,hx7,x8,hx8,h⟩:=dI h
  exact rk hC [oQ (kQ rI hx7),oX rI hx7,.z (.rows (List.map rI x8)),.z (.lenc 21 0 (List.map rI x8).length),oQ (str rI hx8),oQ (s7 rI hx8)] (fr 18 4) [] [(20,some (ar 3 g4 1 rI x8)),(21,sc [ms 20 g4 1 rI x8])] [] (rk hC [] [13,22] [(13,vI (wr (x3+1)))] [] [] ⟨(x8,wr (x3+1)),g4,h,lS⟩)
 ·refine dA ?_
  obtain⟨x9,hx9,h⟩:=bd h
  obtain rfl:=so h
  exact rq hC [.z (.at 3),.z (.fz 20 [] [21]),.z (.at 3),.z (.fp 21 [5]),oV (rO G n deps 244 [T.sl (List.map rI x2)] (fun q0=>iA n q0 x2) (fun q0 r h=>U1 G n q0 x2 h) hx9)] [4,5,23,24,25] [(4,vI x9)] [(21,none),(20,none)] [] (qr eR)
theorem aDx(G:GS)(n:Nat)(p:Prog)(order:List Int)(depsF:FuncId)(deps:Prog→Option (List Dep))(hdeps: ∀(q0:Prog) r,deps q0=some r→PQ G depsF [V.agg (cF q0)] (vM aR r)){r:Bool}(h:zB n p order deps=some r):PQ G 92 [V.agg (cF p),vM rI order,V.fn depsF []] (vB r):=by
 unfold zB at h
 refine pq aN Tryz.func92 rfl fun w X hC=> ?_
 refine rq hC [.z (.b (true))] [3,6] [(3,V.tp (bT p))] [] [] (vj h (fun x_=>aZ [(6,vB x_)] [] []) (fun j1 h=> ?_) (fun x5 h=> ?_))
 ·
  obtain⟨x2,hx2,h⟩:=bd h
  refine aP h (fun c1 h=> ?_) (fun c1 h=> ?_)
  ·exact rk hC ([oV (mP G hx2)]++rF 7 c1) (fr 6 12) [(6,vB false)] [] [] (lE h)
  ·obtain⟨x3,hx3,x4,hx4,h⟩:=dI h
   exact rk hC ([oV (mP G hx2)]++rT 3 c1++[oV (hdeps p _ hx3),oT c1,oT c1,oV (aBY G hx4),oT c1,oT c1]) (fr 6 12) [(6,vB (decide (x4<0)))] [] [] (lE h)
 ·obtain rfl:=so h
  exact qr eR
theorem rP(G:GS)(n:Nat)(s1:List Affine)(s2:List Affine)(eqF:FuncId)(eq:Affine→Affine→Option Bool)(heq: ∀(q0:Affine) (q1:Affine) r,eq q0 q1=some r→PQ G eqF [V.agg (aY q0),V.agg (aY q1)] (vB r)){r:Bool}(h:dP n s1 s2 eq=some r):PQ G 211 [vM aB s1,vM aB s2,V.fn eqF []] (vB r):=by
 unfold dP at h
 refine pq aN Tryz.func211 rfl fun w X hC=> ?_
 refine rq hC [] [6] [] [] [] (qs (rq hC [oN aB s1,oN aB s2] (fr 10 5) [(14,vB (!decide ((s1.length:Int)=(s2.length:Int))))] [] [] (aQ h (fun c1 h=> ?_) (fun c1 h=> ?_))))
 ·obtain rfl:=so h
  exact rq hC [] [6] [(6,vB false)] [] [] (qr eR)
 ·refine qk (qs (rq hC [oN aB s1] [15,16,17] [(15,vM aB s1),(16,vI (s1.length:Int)),(17,vI 0)] [] [] (qb (jC h (fun x_=>aZ [(1,vM aB s2),(2,V.fn eqF []),(15,vM aB s1),(16,vI (s1.length:Int)),(17,vI x_)] [] []) lS ?_))))
  rintro again2 x1 h
  refine rq hC [] [18] [(18,vB (decide (x1<(s1.length:Int))))] [] [] (qs (aQ h (fun c2 h=> ?_) (fun c2 h=> ?_)))
  ·refine qk (qs (qb ?_))
   obtain⟨x3,hx3,h⟩:=bd h
   refine rq hC [oR aB hx3,.z (.nat 20)] [7,8,19,20,21] [(7,vI x1),(8,V.ref 20 0)] [(20,some (E.cells (aY x3)))] [(20,true)] ?_
   obtain⟨x4,hx4,h⟩:=bd h
   refine rq hC [oR aB hx4,.z (.nat 21)] [9,22,23,24,25] [(9,V.ref 21 0)] [(21,some (E.cells (aY x4)))] [(21,true)] ?_
   obtain⟨x5,hx5,h⟩:=bd h
   refine rq hC [oV (heq x3 x4 _ hx5)] (fr 26 5) [(30,vB (!x5))] [] [] (aQ h (fun c3 h=> ?_) (fun c3 h=> ?_))
   ·obtain rfl:=so h
    exact rq hC [] [6] [(6,vB false)] [] [] (qr eR)
   ·exact qk (rk hC [] [17,31] [(17,vI (wr (x1+1)))] [] [] (lE h))
  ·obtain rfl:=so h
   exact dA (rq hC [] [6] [(6,vB true)] [] [] (qr eR))
theorem tK{s1}{s2}{r}(h:kG n s1 s2=some r):PQ G 118 [vM rI s1,vM rI s2] (vB r):=by
 unfold kG at h
 refine pq aN Tryz.func118 rfl fun w X hC=> ?_
 refine rq hC [] [4] [] [] [] (qs (rq hC [oN rI s1,oN rI s2] (fr 6 5) [(10,vB (!decide ((s1.length:Int)=(s2.length:Int))))] [] [] (aQ h (fun c1 h=> ?_) (fun c1 h=> ?_))))
 ·obtain rfl:=so h
  exact rq hC [] [4] [(4,vB false)] [] [] (qr eR)
 ·refine qk (qs (rq hC [oN rI s1] [11,12,13] [(12,vI (s1.length:Int)),(13,vI 0)] [] [] (qb (jC h (fun x_=>aZ [(0,vM rI s1),(1,vM rI s2),(12,vI (s1.length:Int)),(13,vI x_)] [] []) lS ?_))))
  rintro again2 x1 h
  refine rq hC [] [14] [(14,vB (decide (x1<(s1.length:Int))))] [] [] (qs (aQ h (fun c2 h=> ?_) (fun c2 h=> ?_)))
  ·refine qk (qs (qb (rq hC [] [5,15] [(5,vI x1)] [] [] (qs ?_))))
   obtain⟨x3,hx3,x4,hx4,h⟩:=dI h
   refine dk hC bK [oR rI hx3,oR rI hx4] (fr 16 9) [(24,vB (!decide (x3=x4)))] [] [] (aQ h (fun c3 h=> ?_) (fun c3 h=> ?_))
   ·obtain rfl:=so h
    exact rq hC [] [4] [(4,vB false)] [] [] (qr eR)
   ·exact qk (rk hC [] [13,25] [(13,vI (wr (x1+1)))] [] [] (lE h))
  ·obtain rfl:=so h
   exact dA (rq hC [] [4] [(4,vB true)] [] [] (qr eR))
theorem I1(G:GS)(n:Nat)(a:Affine)(b:Affine){r:Bool}(h:d8 n a b=some r):PQ G 212 [V.agg (aY a),V.agg (aY b)] (vB r):=by
 unfold d8 at h
 refine pq aN Tryz.func212 rfl fun w X hC=> ?_
 refine rq hC [.z (.b (true)),.z (.b (true))] [2,3,4] [(2,V.tp (bF a)),(3,V.tp (bF b))] [] [] (vj h (fun x_=>aZ [(4,vB x_)] [] []) (fun j1 h=> ?_) (fun x3 h=> ?_))
 ·
  obtain⟨x2,hx2,h⟩:=bd h
  refine aP h (fun c1 h=> ?_) (fun c1 h=> ?_)
  ·exact rk hC ([oV (tK G hx2)]++rF 6 c1) (fr 4 13) [(4,vB false)] [] [] (lE h)
  ·exact rk hC ([oV (tK G hx2)]++rT 6 c1) (fr 4 13) [(4,vB (decide (a.const=b.const)))] [] [] (lE h)
 ·obtain rfl:=so h
  exact qr eR
theorem rR{a}{b}{r}(h:eU n a b=some r):PQ G 186 [V.agg (cG a),V.agg (cG b)] (vB r):=by
 unfold eU at h
 refine pq aN Tryz.func186 rfl fun w X hC=> ?_
 refine rq hC [.z (.b (true)),.z (.b (true))] [2,3,4] [(2,V.tp (cV a)),(3,V.tp (cV b))] [] [] (vj h (fun x_=>aZ [(4,vB x_)] [] []) (fun j1 h=> ?_) (fun x3 h=> ?_))
 ·
  refine aP h (fun c1 h=> ?_) (fun c1 h=> ?_)
  ·exact rk hC (rF 6 c1) (fr 4 13) [(4,vB false)] [] [] (lE h)
  ·obtain⟨x2,hx2,h⟩:=bd h
   exact rk hC (rT 5 c1++[oV (rP G n a.subs b.subs 212 (fun q0 q1=>d8 n q0 q1) (fun q0 q1 r h=>I1 G n q0 q1 h) hx2),oT c1]) (fr 4 13) [(4,vB x2)] [] [] (lE h)
 ·obtain rfl:=so h
  exact qr eR
theorem K0(G:GS)(n:Nat)(a:Access)(c0__a1:Stmt){r:Bool}(h:kJ n a c0__a1=some r):PQ G 189 [V.agg (cG a),V.tp (kT c0__a1)] (vB r):=by
 unfold kJ at h
 refine pq aN Tryz.func189 rfl fun w X hC=> ?_
 obtain rfl:=so h
 exact rq hC [.z (.b (true))] [2,3] [(2,V.tp (cV a))] [] [] (rq hC [] (fr 3 7) [(3,vB (decide (a.array=c0__a1.write.array)))] [] [] (qr eR))
theorem oP(G:GS)(n:Nat)(s:List Access)(fF:FuncId)(fC0:List T)(f:Access→Option Bool)(hf: ∀(q0:Access) r,f q0=some r→PQ G fF [V.agg (cG q0),V.tp fC0] (vB r)){r:Int}(h:cS n s f=some r):PQ G 245 [vM aO s,V.fn fF [V.tp fC0]] (vI r):=by
 unfold cS at h
 refine pq aN Tryz.func245 rfl fun w X hC=> ?_
 refine rq hC [] [4] [] [] [] (qs (rq hC [oN aO s] [6,7,8] [(7,vI (s.length:Int)),(8,vI 0)] [] [] (qb (jC h (fun x_=>aZ [(0,vM aO s),(1,V.fn fF [V.tp fC0]),(7,vI (s.length:Int)),(8,vI x_)] [] []) lS ?_))))
 rintro again2 x1 h
 refine rq hC [] [9] [(9,vB (decide (x1<(s.length:Int))))] [] [] (qs (aQ h (fun c1 h=> ?_) (fun c1 h=> ?_)))
 ·refine qk (qs (qb (rq hC [] [5,10] [(5,vI x1)] [] [] ?_)))
  obtain⟨x3,hx3,x4,hx4,h⟩:=dI h
  refine rq hC [oR aO hx3,oV (hf x3 _ hx4)] (fr 11 6) [(16,vB x4)] [] [] (aQ h (fun c2 h=> ?_) (fun c2 h=> ?_))
  ·obtain rfl:=so h
   exact rq hC [] [4,17] [(4,vI x1)] [] [] (qr eR)
  ·exact qk (rk hC [] [8,18] [(8,vI (wr (x1+1)))] [] [] (lE h))
 ·obtain rfl:=so h
  exact dA (rq hC [] [4] [(4,vI (-1))] [] [] (qr eR))
theorem mO(G:GS)(n:Nat)(s:List Access)(fF:FuncId)(fC0:List T)(f:Access→Option Bool)(hf: ∀(q0:Access) r,f q0=some r→PQ G fF [V.agg (cG q0),V.tp fC0] (vB r)){r:Bool}(h:bH n s f=some r):PQ G 187 [vM aO s,V.fn fF [V.tp fC0]] (vB r):=by
 unfold bH at h
 refine pq aN Tryz.func187 rfl fun w X hC=> ?_
 refine rq hC [] [4] [] [] [] ?_
 obtain⟨x1,hx1,h⟩:=bd h
 obtain rfl:=so h
 exact rq hC [oV (oP G n s fF fC0 f hf hx1)] (fr 4 5) [(4,vB (decide ((0:Int)≤x1)))] [] [] (qr eR)
theorem kP{s}{r}(h:lN n s=some r):PQ G 99 [V.agg (eO s)] (vB r):=by
 unfold lN at h
 refine pq aN Tryz.func99 rfl fun w X hC=> ?_
 refine rq hC [.z (.b (true))] [1,2] [(1,V.tp (kT s))] [] [] (rq hC [.z (.nat 20)] [3,4,5] [(3,V.ref 20 0)] [(20,some (E.cells (dU s.value)))] [(20,true)] (qs (vj h (fun x_=>aZ [(1,V.tp (kT s)),(3,V.ref 20 0),(32,vB x_)] [(20,E.cells (dU s.value))] [20]) (fun j1 h=> ?_) (fun x6 h=> ?_))))
 ·
  refine aP h (fun c1 h=> ?_) (fun c1 h=> ?_)
  ·obtain⟨x2,hx2,h⟩:=bd h
   refine aP h (fun c2 h=> ?_) (fun c2 h=> ?_)
   ·obtain⟨x3,hx3,h⟩:=bd h
    exact dk hC bK (rF 4 c1++[eF,eF,eF,.z (.row (cJ x2)),oQ (cN aM hx2 (bU x2))]++sF 4++rF 3 c2++[.z (.row (cJ x2)),oQ (cN aM hx2 (bU x2))]++rF 5 c2++[oV (rR G hx3),oF c2,oF c2]) (fr 6 27) [(32,vB (!x3))] [] [] (lE h)
   ·exact dk hC bK (rF 4 c1++[eF,eF,eF,.z (.row (cJ x2)),oQ (cN aM hx2 (bU x2))]++sF 4++rT 10 c2) (fr 6 27) [(32,vB true)] [] [] (lE h)
  ·refine aP h (fun c3 h=> ?_) (fun c3 h=> ?_)
   ·obtain⟨x4,hx4,h⟩:=bd h
    refine aP h (fun c4 h=> ?_) (fun c4 h=> ?_)
    ·obtain⟨x5,hx5,h⟩:=bd h
     exact dk hC bK (rT 4 c1++rF 3 c3++[.z (.row (cJ x4)),oQ (cN aM hx4 (bU x4))]++rF 4 c3++rF 3 c4++[.z (.row (cJ x4)),oQ (cN aM hx4 (bU x4))]++rF 5 c4++[oV (rR G hx5),oF c4,oF c4]) (fr 6 27) [(32,vB (!x5))] [] [] (lE h)
    ·exact dk hC bK (rT 4 c1++rF 3 c3++[.z (.row (cJ x4)),oQ (cN aM hx4 (bU x4))]++rF 4 c3++rT 10 c4) (fr 6 27) [(32,vB true)] [] [] (lE h)
   ·exact dk hC bK (rT 4 c1++rT 7 c3++sT 10) (fr 6 27) [(32,vB true)] [] [] (lE h)
 ·refine aQ h (fun c5 h=> ?_) (fun c5 h=> ?_)
  ·obtain rfl:=so h
   exact rq hC [] [2] [(2,vB false)] [] [] (qr eR)
  ·refine qk ?_
   obtain⟨x7,hx7,x8,hx8,x9,hx9,h⟩:=lR h
   obtain rfl:=so h
   exact rq hC [.z (.row (cJ x7)),oQ (cN aM hx7 (bU x7)),oC [] [21] (xL G n x7 hx8),.z (.b (true)),oV (mO G n x8 189 (kT s) (fun q0=>kJ n q0 s) (fun q0 r h=>K0 G n q0 s h) hx9)] [2,33,34,35,36,37,38,39,40] [(2,vB (!x9))] [(21,some (ar 107 1 2 aO x8))] [(21,true)] (qr eR)
abbrev tcT(t:Traced):List T:=[T.sl (List.map aV t.program.arrays),T.sl (List.map aH t.program.parts),T.sl (List.map aJ t.list),T.sl (List.map (rL rI) t.reads),T.sl (List.map rI t.writes)]
abbrev scS(s:Stmt):List V:=(eO s)
theorem xM(G:GS)(n:Nat)(t:Traced)(d:Dep){r:Bool}(h:fR n t d=some r):
  VQ G 97 [E.cells [V.tp (tcT t)]] [V.agg [vI d.fromF,vI d.toF,vI d.kinds],V.ref 0 0] (vB r) [E.cells [V.tp (tcT t)]]:=by
 unfold fR at h
 refine vq aN Tryz.func97 rfl fun w X β0 hC hg=> ?_
 refine rq hC [.z (.b (true))] [2,3] [(2,V.tp [T.int .i64 d.fromF,T.int .i64 d.toF,T.int .i64 d.kinds])] [] [] (qs ?_)
 obtain⟨x1,hx1,x2,hx2,x3,hx3,h⟩:=lR h
 obtain⟨x4,hx4,h⟩:=bd h
 refine dk hC bK [oR aJ hx1,oV (gH G hx2),oR aJ hx3,oV (gH G hx4),.z (.nat 20),.z (.nat 21)] (fr 4 28) [(4,V.ref 20 0),(5,V.ref 21 0)] [(20,some (E.cells (scS x2))),(21,some (E.cells (scS x4)))] [(20,true),(21,true)] (qs ?_)
 obtain⟨x5,hx5,h⟩:=bd h
 refine aP h (fun c1 h=> ?_) (fun c1 h=> ?_)
 ·obtain rfl:=so h
  exact rk hC ([oV (kP G hx5)]++rF 3 c1++sF 8) [3,32,33,34,35,36,37,38,39,40,41,42,43,44,45,46] [(3,vB false)] [] [] (qr eW)
 ·obtain⟨x6,hx6,h⟩:=bd h
  refine aP h (fun c2 h=> ?_) (fun c2 h=> ?_)
  ·obtain rfl:=so h
   exact rk hC ([oV (kP G hx5),oT c1,oT c1,oV (kP G hx6),oT c1]++rF 8 c2) [3,32,33,34,35,36,37,38,39,40,41,42,43,44,45,46] [(3,vB false)] [] [] (qr eW)
  ·obtain rfl:=so h
   exact rk hC ([oV (kP G hx5),oT c1,oT c1,oV (kP G hx6),oT c1]++rT 8 c2) [3,32,33,34,35,36,37,38,39,40,41,42,43,44,45,46] [(3,vB (decide (x2.write.array=x4.write.array)))] [] [] (qr eW)
theorem s9(G:GS)(n:Nat)(s:List Dep)(fF:FuncId)(cs:List T)(f:Dep→Option Bool)(hf: ∀(q:Dep) {r:Bool},f q=some r→VQ G fF [E.cells [V.tp cs]] [V.agg [vI q.fromF,vI q.toF,vI q.kinds],V.ref 0 0] (vB r) [E.cells [V.tp cs]])(gs:Nat){r:Int}(h:cA n s f=some r):
  VQ G 185 [ar 100 gs 3 aR s,E.cells [V.tp cs]] [ms 0 gs 3 aR s,V.fn fF [V.ref 1 0]] (vI r) [ar 100 gs 3 aR s,E.cells [V.tp cs]]:=by
 unfold cA at h
 refine vq aN Tryz.func185 rfl fun w X β0 hC hg=> ?_
 refine rq hC [] [4] [] [] [] (qs (rq hC [oN aR s] [6,7,8] [(7,vI (s.length:Int)),(8,vI 0)] [] [] (qb (jC h (fun x_=>aZ [(0,ms 0 gs 3 aR s),(1,V.fn fF [V.ref 1 0]),(7,vI (s.length:Int)),(8,vI x_)] [(0,ar 100 gs 3 aR s),(1,E.cells [V.tp cs])] [0,1]) lS ?_))))
 rintro again2 x1 h
 refine rq hC [] [9] [(9,vB (decide (x1<(s.length:Int))))] [] [] (qs (aQ h (fun c1 h=> ?_) (fun c1 h=> ?_)))
 ·refine qk (qs (qb (rq hC [] [5,10] [(5,vI x1)] [] [] ?_)))
  obtain⟨x3,hx3,x4,hx4,h⟩:=dI h
  refine rq hC [oQ (kQ aR hx3),oX aR hx3,oC [1] [] (hf x3 hx4)] (fr 11 6) [(16,vB x4)] [(1,sc [V.tp cs])] [(1,true)] (aQ h (fun c2 h=> ?_) (fun c2 h=> ?_))
  ·obtain rfl:=so h
   exact rq hC [] [4,17] [(4,vI x1)] [] [] (qr eW)
  ·exact qk (rk hC [] [8,18] [(8,vI (wr (x1+1)))] [] [] (lE h))
 ·obtain rfl:=so h
  exact dA (rq hC [] [4] [(4,vI (-1))] [] [] (qr eW))
theorem uH(G:GS)(n:Nat)(s:List Dep)(fF:FuncId)(cs:List T)(f:Dep→Option Bool)(hf: ∀(q:Dep) {r:Bool},f q=some r→VQ G fF [E.cells [V.tp cs]] [V.agg [vI q.fromF,vI q.toF,vI q.kinds],V.ref 0 0] (vB r) [E.cells [V.tp cs]])(gs:Nat){r:Nat×List Dep}(h:eI n s f=some r):
  VQ G 95 [ar 100 gs 3 aR s,E.cells [V.tp cs]] [ms 0 gs 3 aR s,V.fn fF [V.ref 1 0]] (ms 0 gs 3 aR (r.2.take r.1)) [ar 100 gs 3 aR r.2,E.cells [V.tp cs]]:=by
 unfold eI at h
 refine vq aN Tryz.func95 rfl fun w X β0 hC hg=> ?_
 refine rq hC [] [4] [] [] [] ?_
 obtain⟨x1,hx1,h⟩:=bd h
 refine rq hC [oC [0,1] [] (s9 G n s fF cs f hf gs hx1)] [5,8,9,10] [(5,vI x1)] [(0,some (ar 100 gs 3 aR s)),(1,sc [V.tp cs])] [(0,true),(1,true)] (qs (rq hC [] [11,12] [(12,vB (decide (x1=(-1))))] [] [] (aQ h (fun c1 h=> ?_) (fun c1 h=> ?_))))
 ·obtain rfl:=so h
  exact rq hC [.z (.at 0),.z (.len 4 (List.map aR (s.take s.length)).length),oQ (aIE aR s)] [4,13] [(4,ms 0 gs 3 aR (s.take s.length))] [] [] (qr eW)
 ·refine qk (qs (rq hC [] [6,14,15] [(6,vI (wr (x1+1)))] [] [] (qb (jC h (fun x_=>aZ [(0,ms 0 gs 3 aR x_.1.1),(1,V.fn fF [V.ref 1 0]),(5,vI x_.1.2),(6,vI x_.2)] [(0,ar 100 gs 3 aR x_.1.1),(1,E.cells [V.tp cs])] [0,1]) lS ?_))))
  rintro again2 ⟨⟨l,i⟩,k⟩ h
  refine qs (rq hC [oN aR l] (fr 16 4) [(19,vB (decide (k<(l.length:Int))))] [] [] (aQ h (fun c2 h=> ?_) (fun c2 h=> ?_)))
  ·refine qk (qs (qb ?_))
   obtain⟨x3,hx3,h⟩:=bd h
   refine rq hC [oQ (kQ aR hx3),oX aR hx3,.z (.nat 20)] [7,22,23,24,25] [(7,V.ref 20 0)] [(20,sc [vI x3.fromF,vI x3.toF,vI x3.kinds])] [(20,true)] ?_
   obtain⟨x4,hx4,h⟩:=bd h
   refine rq hC [oC [1] [] (hf x3 hx4)] (fr 26 4) [(29,vB (!x4))] [(1,sc [V.tp cs])] [(1,true)] (aQ h (fun c3 h=> ?_) (fun c3 h=> ?_))
   ·obtain⟨x5,hx5,x6,hx6,h⟩:=dI h
    exact rq hC [oQ (kQ aR hx5),oX aR hx5,.z (.rows (List.map aR x6)),.z (.len 0 (List.map aR x6).length),oQ (str aR hx6),oQ (s7 aR hx6)] [0,30,31,32,33] [(0,ms 0 gs 3 aR x6)] [(0,some (ar 100 gs 3 aR x6))] [] (rk hC [] [5,34,35] [(5,vI (wr (i+1)))] [] [] (rk hC [] [6,20,21] [(6,vI (wr (k+1)))] [] [] (lE h)))
   ·exact qk (rk hC [] [6,20,21] [(6,vI (wr (k+1)))] [] [] (lE h))
  ·refine dA (aP h (fun c4 h=> ?_) (fun c4 h=> ?_))
   ·exact nof h
   ·refine aP h (fun c5 h=> ?_) (fun c5 h=> ?_)
    ·exact nof h
    ·obtain rfl:=so h
     exact rq hC [.z (.nat i.toNat),.z (.nat (l.length-i.toNat)),.z (.rows (List.map aR (l.take i.toNat++List.replicate (l.length-i.toNat) (⟨0,0,0⟩:Dep)))),oQ (aDZ aR l (of_decide_eq_true c4) (of_decide_eq_true c5)),oQ (aDu aR l (⟨0,0,0⟩:Dep) (of_decide_eq_true c4) (of_decide_eq_true c5))] [36,37,38] [] [(0,some (ar 100 gs 3 aR (l.take i.toNat++List.replicate (l.length-i.toNat) (⟨0,0,0⟩:Dep))))] [] (rq hC [.z (.nat 0),.z (.nat (List.map aR ((l.take i.toNat++List.replicate (l.length-i.toNat) (⟨0,0,0⟩:Dep)).take i.toNat)).length),oQ (aHu aR l (⟨0,0,0⟩:Dep) (of_decide_eq_true c4) (of_decide_eq_true c5))] [4,39,40,41] [(4,ms 0 gs 3 aR ((l.take i.toNat++List.replicate (l.length-i.toNat) (⟨0,0,0⟩:Dep)).take i.toNat))] [] [] (qr eW))
theorem rU(G:GS)(n:Nat)(p:Prog){r:List Dep}(h:eV n p=some r):PQ G 36 [V.agg (cF p)] (vM aR r):=by
 unfold eV at h
 refine pq aN Tryz.func36 rfl fun w X hC=> ?_
 refine rq hC [.z (.b (true))] [1,2] [(1,V.tp (bT p))] [] [] (qs ?_)
 obtain⟨x1,hx1,h⟩:=bd h
 refine aP h (fun c1 h=> ?_) (fun c1 h=> ?_)
 ·refine rk hC [.z (.v (V.tup [V.t T.nilP,vB x1.2])),.z (.nat 20),oQ (vPn c1 (O7 G hx1))] (fr 3 7) [(3,V.ref 20 0),(4,vB x1.2)] [(20,sc [V.t T.nilP])] [(20,true)] (qs (rq hC [] [10,11] [(11,vB (!x1.2))] [] [] (aQ h (fun c2 h=> ?_) (fun c2 h=> ?_))))
  ·obtain rfl:=so h
   exact rq hC [] [2] [(2,V.t T.nilS)] [] [] (qr eR)
  ·exact nof h
 ·refine rk hC [.z (.v (V.tup [V.tp (tcT (x1.1.getD default)),vB x1.2])),.z (.nat 20),oQ (vPs c1 (O7 G hx1))] (fr 3 7) [(3,V.ref 20 0),(4,vB x1.2)] [(20,sc [V.tp (tcT (x1.1.getD default))])] [(20,true)] (qs (rq hC [] [10,11] [(11,vB (!x1.2))] [] [] (aQ h (fun c2 h=> ?_) (fun c2 h=> ?_))))
  ·obtain rfl:=so h
   exact rq hC [] [2] [(2,V.t T.nilS)] [] [] (qr eR)
  ·refine qk ?_
   obtain⟨x2,hx2,x3,hx3,h⟩:=dI h
   obtain rfl:=so h
   exact rq hC [oC [] [21] (y0 G hx2),oC [21,20] [] (uH G n x2 97 (tcT (x1.1.getD default)) (fun q=>fR n (x1.1.getD default) q) (fun q _ hq=>xM G n (x1.1.getD default) q hq) 1 hx3),.z (.cut 21 x3.1 (List.map aR (x3.2.take x3.1))),oQ (aJe aR x3.2 x3.1)] [2,12,13,14,15] [(2,ms 21 1 3 aR (x3.2.take x3.1))] [(21,some (ar 100 1 3 aR (x3.2.take x3.1))),(20,sc [V.tp (tcT (x1.1.getD default))])] [(21,true),(21,true),(20,true)] (qw (lk hC [.fz 21 [2] []] [2] [(2,vM aR (x3.2.take x3.1))] [(21,none)] []) (qr eR))
theorem pJ{a}{b}{r}(h:nM n a b=some r):PQ G 37 [vM aR a,vM aR b] (vB r):=by
 unfold nM at h
 refine pq aN Tryz.func37 rfl fun w X hC=> ?_
 refine rq hC [] [4] [] [] [] (qs (rq hC [oN aR a,oN aR b] (fr 6 5) [(10,vB (!decide ((a.length:Int)=(b.length:Int))))] [] [] (aQ h (fun c1 h=> ?_) (fun c1 h=> ?_))))
 ·obtain rfl:=so h
  exact rq hC [] [4] [(4,vB false)] [] [] (qr eR)
 ·refine qk (qs (rq hC [] [5] [(5,vI 0)] [] [] (qb (jC h (fun x_=>aZ [(0,vM aR a),(1,vM aR b),(5,vI x_)] [] []) lS ?_))))
  rintro again2 x1 h
  refine qs (rq hC [oN aR a] (fr 11 4) [(14,vB (decide (x1<(a.length:Int))))] [] [] (aQ h (fun c2 h=> ?_) (fun c2 h=> ?_)))
  ·refine qk (qs (qb (qs ?_)))
   obtain⟨x3,hx3,x4,hx4,h⟩:=dI h
   refine dk hC bK [oR aR hx3,oR aR hx4,.z (.b (decide ([x3.fromF,x3.toF,x3.kinds]=[x4.fromF,x4.toF,x4.kinds]))),oQ aIw,oQ (Eq.refl (decide ([x3.fromF,x3.toF,x3.kinds]=[x4.fromF,x4.toF,x4.kinds])))] (fr 17 9) [(25,vB (!(decide ([x3.fromF,x3.toF,x3.kinds]=[x4.fromF,x4.toF,x4.kinds]))))] [] [] (aQ h (fun c3 h=> ?_) (fun c3 h=> ?_))
   ·obtain rfl:=so h
    exact rq hC [] [4] [(4,vB false)] [] [] (qr eR)
   ·exact qk (rk hC [] [5,15,16] [(5,vI (wr (x1+1)))] [] [] (lE h))
  ·obtain rfl:=so h
   exact dA (rq hC [] [4] [(4,vB true)] [] [] (qr eR))
theorem aBU{a}{b}{r}(h:q5 n a b=some r):PQ G 329 [vM rI a,vM rI b] (vB r):=by
 unfold q5 at h
 refine pq aN Tryz.func329 rfl fun w X hC=> ?_
 refine rq hC [] [4] [] [] [] (qs (rq hC [oN rI a,oN rI b] (fr 6 5) [(10,vB (!decide ((a.length:Int)=(b.length:Int))))] [] [] (aQ h (fun c1 h=> ?_) (fun c1 h=> ?_))))
 ·obtain rfl:=so h
  exact rq hC [] [4] [(4,vB false)] [] [] (qr eR)
 ·refine qk (qs (rq hC [] [5] [(5,vI 0)] [] [] (qb (jC h (fun x_=>aZ [(0,vM rI a),(1,vM rI b),(5,vI x_)] [] []) lS ?_))))
  rintro again2 x1 h
  refine qs (rq hC [oN rI a] (fr 11 4) [(14,vB (decide (x1<(a.length:Int))))] [] [] (aQ h (fun c2 h=> ?_) (fun c2 h=> ?_)))
  ·refine qk (qs (qb (qs ?_)))
   obtain⟨x3,hx3,x4,hx4,h⟩:=dI h
   refine dk hC bK [oR rI hx3,oR rI hx4] (fr 17 9) [(25,vB (!decide (x3=x4)))] [] [] (aQ h (fun c3 h=> ?_) (fun c3 h=> ?_))
   ·obtain rfl:=so h
    exact rq hC [] [4] [(4,vB false)] [] [] (qr eR)
   ·exact qk (rk hC [] [5,15,16] [(5,vI (wr (x1+1)))] [] [] (lE h))
  ·obtain rfl:=so h
   exact dA (rq hC [] [4] [(4,vB true)] [] [] (qr eR))
theorem H6{a}{b}{r}(h:gA n a b=some r):PQ G 317 [V.agg (aY a),V.agg (aY b)] (vB r):=by
 unfold gA at h
 refine pq aN Tryz.func317 rfl fun w X hC=> ?_
 refine rq hC [.z (.b (true)),.z (.b (true))] [2,3,4] [(2,V.tp (bF a)),(3,V.tp (bF b))] [] [] (vj h (fun x_=>aZ [(4,vB x_)] [] []) (fun j1 h=> ?_) (fun x3 h=> ?_))
 ·
  refine aP h (fun c1 h=> ?_) (fun c1 h=> ?_)
  ·exact rk hC (rF 6 c1) (fr 4 13) [(4,vB false)] [] [] (lE h)
  ·obtain⟨x2,hx2,h⟩:=bd h
   exact rk hC (rT 5 c1++[oV (aBU G hx2),oT c1]) (fr 4 13) [(4,vB x2)] [] [] (lE h)
 ·obtain rfl:=so h
  exact qr eR
theorem H0{a}{b}{r}(h:iL n a b=some r):PQ G 285 [vM aB a,vM aB b] (vB r):=by
 unfold iL at h
 refine pq aN Tryz.func285 rfl fun w X hC=> ?_
 refine rq hC [] [4] [] [] [] (qs (rq hC [oN aB a,oN aB b] (fr 6 5) [(10,vB (!decide ((a.length:Int)=(b.length:Int))))] [] [] (aQ h (fun c1 h=> ?_) (fun c1 h=> ?_))))
 ·obtain rfl:=so h
  exact rq hC [] [4] [(4,vB false)] [] [] (qr eR)
 ·refine qk (qs (rq hC [] [5] [(5,vI 0)] [] [] (qb (jC h (fun x_=>aZ [(0,vM aB a),(1,vM aB b),(5,vI x_)] [] []) lS ?_))))
  rintro again2 x1 h
  refine qs (rq hC [oN aB a] (fr 11 4) [(14,vB (decide (x1<(a.length:Int))))] [] [] (aQ h (fun c2 h=> ?_) (fun c2 h=> ?_)))
  ·refine qk (qs (qb (qs ?_)))
   obtain⟨x3,hx3,x4,hx4,x5,hx5,h⟩:=lR h
   refine dk hC bK [oR aB hx3,oR aB hx4,oV (H6 G hx5)] (fr 17 10) [(26,vB (!x5))] [] [] (aQ h (fun c3 h=> ?_) (fun c3 h=> ?_))
   ·obtain rfl:=so h
    exact rq hC [] [4] [(4,vB false)] [] [] (qr eR)
   ·exact qk (rk hC [] [5,15,16] [(5,vI (wr (x1+1)))] [] [] (lE h))
  ·obtain rfl:=so h
   exact dA (rq hC [] [4] [(4,vB true)] [] [] (qr eR))
theorem oI{a}{b}{r}(h:fL n a b=some r):PQ G 246 [V.agg (cG a),V.agg (cG b)] (vB r):=by
 unfold fL at h
 refine pq aN Tryz.func246 rfl fun w X hC=> ?_
 refine rq hC [.z (.b (true)),.z (.b (true))] [2,3,4] [(2,V.tp (cV a)),(3,V.tp (cV b))] [] [] (vj h (fun x_=>aZ [(4,vB x_)] [] []) (fun j1 h=> ?_) (fun x3 h=> ?_))
 ·
  refine aP h (fun c1 h=> ?_) (fun c1 h=> ?_)
  ·exact rk hC (rF 6 c1) (fr 4 13) [(4,vB false)] [] [] (lE h)
  ·obtain⟨x2,hx2,h⟩:=bd h
   exact rk hC (rT 5 c1++[oV (H0 G hx2),oT c1]) (fr 4 13) [(4,vB x2)] [] [] (lE h)
 ·obtain rfl:=so h
  exact qr eR
theorem aAv(G:GS): ∀(n:Nat) (e:Expr) (name:List UInt8) {r:Bool} (h:s_l12Uses n e name=some r),PQ G 247 [V.agg (dU e),vS name] (vB r):=by
 intro n
 induction n with
 |zero=>intro e name r h;rw [s_l12Uses.eq_def] at h;cases h
 |succ n ih=>
  intro e name r h
  rw [s_l12Uses.eq_def] at h;dsimp only at h
  refine pq aN Tryz.func247 rfl fun w X hC=> ?_
  refine rq hC [.z (.b (true))] [2,4] [(2,V.tp (gJ e))] [] [] (qs (vj h (fun x_=>aZ [(1,vS name),(2,V.tp (gJ e)),(15,vB x_)] [] []) (fun j1 h=> ?_) (fun x2 h=> ?_)))
  ·
   refine aP h (fun c1 h=> ?_) (fun c1 h=> ?_)
   ·exact rk hC (rF 6 c1) (fr 6 10) [(15,vB false)] [] [] (lE h)
   ·exact rk hC (rT 6 c1) (fr 6 10) [(15,vB (decide (e.read.array=name)))] [] [] (lE h)
  ·refine aQ h (fun c2 h=> ?_) (fun c2 h=> ?_)
   ·obtain rfl:=so h
    exact rq hC [] [4] [(4,vB true)] [] [] (qr eR)
   ·refine qk (qs (rq hC [] [5] [(5,vI 0)] [] [] (qb (jC h (fun x_=>aZ [(1,vS name),(2,V.tp (gJ e)),(5,vI x_)] [] []) lS ?_))))
    rintro again4 x3 h
    refine qs (rq hC [oN aM e.kids] (fr 16 5) [(20,vB (decide (x3<(e.kids.length:Int))))] [] [] (aQ h (fun c3 h=> ?_) (fun c3 h=> ?_)))
    ·refine qk (qs (qb ?_))
     obtain⟨x5,hx5,x6,hx6,h⟩:=dI h
     refine rq hC [.z (.row (cJ x5)),oQ (cN aM hx5 (bU x5)),oV (ih x5 name hx6)] (fr 23 7) [(29,vB x6)] [] [] (aQ h (fun c4 h=> ?_) (fun c4 h=> ?_))
     ·obtain rfl:=so h
      exact rq hC [] [4] [(4,vB true)] [] [] (qr eR)
     ·exact qk (rk hC [] [5,21,22] [(5,vI (wr (x3+1)))] [] [] (lE h))
    ·obtain rfl:=so h
     exact dA (rq hC [] [4] [(4,vB false)] [] [] (qr eR))
theorem aDw{s}{r}(h:uX n s=some r):PQ G 190 [V.agg (eO s)] (vB r):=by
 unfold uX at h
 refine pq aN Tryz.func190 rfl fun w X hC=> ?_
 refine rq hC [.z (.b (true))] [1,2] [(1,V.tp (kT s))] [] [] (rq hC [.z (.nat 20)] [3,5,6] [(3,V.ref 20 0)] [(20,some (E.cells (dU s.value)))] [(20,true)] (qs (vj h (fun x_=>aZ [(1,V.tp (kT s)),(3,V.ref 20 0),(14,vB x_)] [(20,E.cells (dU s.value))] [20]) (fun j1 h=> ?_) (fun x2 h=> ?_))))
 ·
  refine aP h (fun c1 h=> ?_) (fun c1 h=> ?_)
  ·exact rk hC (rF 4 c1) (fr 7 8) [(14,vB false)] [] [] (lE h)
  ·exact rk hC (rT 4 c1) (fr 7 8) [(14,vB (!decide (s.value.kind=5)))] [] [] (lE h)
 ·refine aQ h (fun c2 h=> ?_) (fun c2 h=> ?_)
  ·obtain rfl:=so h
   exact rq hC [] [2] [(2,vB false)] [] [] (qr eR)
  ·refine qk ?_
   obtain⟨x3,hx3,h⟩:=bd h
   refine rq hC [.z (.row (cJ x3)),.z (.nat 21),oQ (cN aM hx3 (bU x3))] [4,15,16,17,18] [(4,V.ref 21 0)] [(21,some (E.cells (dU x3)))] [(21,true)] (vj h (fun x_=>aZ [(2,vB x_)] [(20,E.cells (dU s.value)),(21,E.cells (dU x3))] [20,21]) (fun j4 h=> ?_) (fun x8 h=> ?_))
   ·
    refine aP h (fun c3 h=> ?_) (fun c3 h=> ?_)
    ·exact dk hC bK (rF 6 c3++sF 10) [2,19,20,21,22,23,24,25,26,27,28,29,30,31,32,33,34,35,36,37,38,39] [(2,vB false)] [] [] (lE h)
    ·obtain⟨x5,hx5,h⟩:=bd h
     refine aP h (fun c4 h=> ?_) (fun c4 h=> ?_)
     ·exact dk hC bK (rT 5 c3++[oV (oI G hx5),oT c3]++rF 10 c4) [2,19,20,21,22,23,24,25,26,27,28,29,30,31,32,33,34,35,36,37,38,39] [(2,vB false)] [] [] (lE h)
     ·obtain⟨x6,hx6,x7,hx7,h⟩:=dI h
      exact dk hC bK (rT 5 c3++[oV (oI G hx5),oT c3]++rT 3 c4++[.z (.row (cJ x6)),oQ (cN aM hx6 (bU x6))]++rT 5 c4++[oV (aAv G n x6 s.write.array hx7),oT c4,oT c4]) [2,19,20,21,22,23,24,25,26,27,28,29,30,31,32,33,34,35,36,37,38,39] [(2,vB (!x7))] [] [] (lE h)
   ·obtain rfl:=so h
    exact qr eR
theorem T9{p}{r}(h:l6 n p=some r):VQ G 100 [] [V.agg (cF p)] (ms 0 1 1 rS r) [ar 9 1 1 rS r]:=by
 unfold l6 at h
 refine vq aN Tryz.func100 rfl fun w X β0 hC hg=> ?_
 refine rq hC [.z (.b (true))] [1,2] [(1,V.tp (bT p))] [] [] (rq hC [.z (.nat 20)] [3,8] [(3,ms 20 1 1 rS [])] [(20,some (ar 9 1 1 rS []))] [(20,true)] ?_)
 obtain⟨x1,hx1,h⟩:=bd h
 refine rq hC [oC [] [21] (qA G hx1)] [4,9,10] [(4,ms 21 1 3 aJ x1)] [(21,some (ar 38 1 3 aJ x1))] [(21,true)] (qs (rq hC [] [5] [(5,vI 0)] [] [] (qb (bJ (γ:=Nat) h (fun x_ g_=>aZ [(1,V.tp (bT p)),(3,ms 20 g_ 1 rS x_.1),(4,ms 21 1 3 aJ x1),(5,vI x_.2)] [(20,ar 9 g_ 1 rS x_.1),(21,ar 38 1 3 aJ x1)] [20,21]) 1 (lS) ?_))))
 rintro again5 ⟨x2,x3⟩ g4 h
 refine qs (rq hC [oN aJ x1] (fr 11 4) [(14,vB (decide (x3<(x1.length:Int))))] [] [] (aQ h (fun c1 h=> ?_) (fun c1 h=> ?_)))
 ·refine qk (qs (qb (qs ?_)))
  obtain⟨x6,hx6,x7,hx7,x8,hx8,h⟩:=lR h
  refine dk hC bK [oQ (kQ aJ hx6),oX aJ hx6,oR aH hx7,oQ (kQ aJ hx6),oX aJ hx6,oR bB hx8,.z (.nat 22)] [6,17,18,19,20,21,22,23,24,25,26,27,28,29,30,31,32,33] [(6,V.ref 22 0)] [(22,some (E.cells (eO x8)))] [(22,true)] (rq hC [] [7] [(7,vS [])] [] [] (vj h (fun x_=>aZ [(1,V.tp (bT p)),(3,ms 20 g4 1 rS x2),(4,ms 21 1 3 aJ x1),(5,vI x3),(7,vS x_)] [(20,ar 9 g4 1 rS x2),(21,ar 38 1 3 aJ x1),(22,E.cells (eO x8))] [20,21,22]) (fun j9 h=> ?_) (fun x11 h=> ?_)))
  ·
   obtain⟨x10,hx10,h⟩:=bd h
   refine rq hC [oV (aDw G hx10)] [34,35] [(35,vB x10)] [] [] (aQ h (fun c2 h=> ?_) (fun c2 h=> ?_))
   ·exact rk hC [] [7,36,37,38] [(7,vS x8.write.array)] [] [] (lE h)
   ·exact qk (lE h)
  ·obtain⟨x12,hx12,h⟩:=bd h
   exact rk hC [.z (.int 0),oA (aT rS hx12),oQ (cL (r:=rS) 1 (fun _=>rfl) x2),oQ (cL (r:=rS) 1 (fun _=>rfl) [x11])] [3,39,40,41,42] [(3,ms 20 (g4+1) 1 rS x12)] [(20,some (ar 9 (g4+1) 1 rS x12))] [] (rk hC [] [5,15,16] [(5,vI (wr (x3+1)))] [] [] ⟨(x12,wr (x3+1)),(g4+1),h,lS⟩)
 ·obtain rfl:=so h
  exact dA (rq hC [] [2,43] [(2,ms 20 g4 1 rS x2)] [] [] (qw (lk hC [.ren 2 20 0] [2] [(2,ms 0 1 1 rS x2)] [(0,some (ar 9 1 1 rS x2)),(20,none)] [(0,true)]) (qr eW)))
theorem i8{p}{r}(h:eP n p=some r):VQ G 38 [] [V.agg (cF p)] (ms 0 1 3 aR r) [ar 100 1 3 aR r]:=by
 unfold eP at h
 refine vq aN Tryz.func38 rfl fun w X β0 hC hg=> ?_
 refine rq hC [.z (.b (true))] [1,2] [(1,V.tp (bT p))] [] [] (rq hC [.z (.nat 20)] [3,9] [(3,ms 20 1 3 aR [])] [(20,some (ar 100 1 3 aR []))] [(20,true)] (qs ?_))
 obtain⟨x1,hx1,h⟩:=bd h
 refine rq hC [oV (jS G hx1)] [10,11,12] [(12,vB (!x1))] [] [] (aQ h (fun c1 h=> ?_) (fun c1 h=> ?_))
 ·obtain rfl:=so h
  exact rq hC [] [2,13] [(2,ms 20 1 3 aR [])] [] [] (qw (lk hC [.ren 2 20 0] [2] [(2,ms 0 1 3 aR [])] [(0,some (ar 100 1 3 aR [])),(20,none)] [(0,true)]) (qr eW))
 ·refine qk ?_
  obtain⟨x2,hx2,h⟩:=bd h
  refine rq hC [oC [] [21] (T9 G hx2)] [4,14,15] [(4,ms 21 1 1 rS x2)] [(21,some (ar 9 1 1 rS x2))] [(21,true)] ?_
  obtain⟨x3,hx3,h⟩:=bd h
  refine rq hC [oC [] [22] (aBJ G hx3)] [5,16,17] [(5,ms 22 1 3 aR x3)] [(22,some (ar 100 1 3 aR x3))] [(22,true)] (qs (rq hC [] [6] [(6,vI 0)] [] [] (qb (bJ (γ:=Nat) h (fun x_ g_=>aZ [(3,ms 20 g_ 3 aR x_.1),(4,ms 21 1 1 rS x2),(5,ms 22 1 3 aR x3),(6,vI x_.2)] [(20,ar 100 g_ 3 aR x_.1),(21,ar 9 1 1 rS x2),(22,ar 100 1 3 aR x3)] [20,21,22]) 1 (lS) ?_))))
  rintro again7 ⟨x4,x5⟩ g6 h
  refine qs (rq hC [oN aR x3] (fr 18 4) [(21,vB (decide (x5<(x3.length:Int))))] [] [] (aQ h (fun c2 h=> ?_) (fun c2 h=> ?_)))
  ·refine qk ?_
   obtain⟨j8,hj8,h⟩:=yU h
   refine jE (γ:=Nat) (j:=j8) (r:=r) (fun x_ g_=>aZ [(3,ms 20 g_ 3 aR x_),(4,ms 21 1 1 rS x2),(5,ms 22 1 3 aR x3),(6,vI x5)] [(20,ar 100 g_ 3 aR x_),(21,ar 9 1 1 rS x2),(22,ar 100 1 3 aR x3)] [20,21,22]) ?_ ?_
   ·
    refine qb ?_
    obtain⟨x9,hx9,h⟩:=bd h
    refine rq hC [oQ (kQ aR hx9),oX aR hx9] [7,24,25,26,27,28] [(7,vI x9.fromF)] [] [] (rq hC [oQ (kQ aR hx9),oX aR hx9] [8,29,30,31,32,33] [(8,vI x9.toF)] [] [] (vj h (fun x_=>aZ [(3,ms 20 g6 3 aR x4),(4,ms 21 1 1 rS x2),(5,ms 22 1 3 aR x3),(6,vI x5),(49,vB x_)] [(20,ar 100 g6 3 aR x4),(21,ar 9 1 1 rS x2),(22,ar 100 1 3 aR x3)] [20,21,22]) (fun j10 h=> ?_) (fun x13 h=> ?_)))
    ·
     obtain⟨x11,hx11,h⟩:=bd h
     refine aP h (fun c3 h=> ?_) (fun c3 h=> ?_)
     ·obtain⟨x12,hx12,h⟩:=bd h
      exact dk hC bK ([oQ (kQ rS hx11),oX rS hx11]++rF 3 c3++[oQ (kQ rS hx11),oF c3,oX rS hx11]++rF 3 c3++[oQ (kQ rS hx12),oF c3,oX rS hx12,oF c3,oF c3]) (fr 34 16) [(49,vB (!decide (x11=x12)))] [] [] (lE h)
     ·exact dk hC bK ([oQ (kQ rS hx11),oX rS hx11]++rT 10 c3) (fr 34 16) [(49,vB true)] [] [] (lE h)
    ·refine aQ h (fun c4 h=> ?_) (fun c4 h=> ?_)
     ·obtain⟨x14,hx14,h⟩:=bd h
      exact rk hC [oQ (kQ aR hx9),oX aR hx9,.z (.int 0),oA (aT aR hx14),oQ (cL (r:=aR) 3 n4 x4),oQ (cL (r:=aR) 3 n4 [x9])] [3,50,51,52,53,54,55,56] [(3,ms 20 (g6+1) 3 aR x14)] [(20,some (ar 100 (g6+1) 3 aR x14))] [] ⟨x14,(g6+1),h,lS⟩
     ·exact qk ⟨x4,g6,h,lS⟩
   ·rintro x15 g16 h
    subst hj8
    exact rk hC [] [6,22,23] [(6,vI (wr (x5+1)))] [] [] ⟨(x15,wr (x5+1)),g16,h,lS⟩
  ·obtain rfl:=so h
   exact dA (rq hC [] [2,57] [(2,ms 20 g6 3 aR x4)] [] [] (qw (lk hC [.ren 2 20 0] [2] [(2,ms 0 1 3 aR x4)] [(0,some (ar 100 1 3 aR x4)),(20,none)] [(0,true)]) (qr eW)))
theorem xN{p}{order}{r}(h:fS n p order=some r):PQ G 39 [V.agg (cF p),vM rI order] (vB r):=by
 unfold fS at h
 refine pq aN Tryz.func39 rfl fun w X hC=> ?_
 refine rq hC [.z (.b (true))] [2,4] [(2,V.tp (bT p))] [] [] ?_
 obtain⟨x1,hx1,h⟩:=bd h
 obtain rfl:=so h
 exact rq hC [oV (aDx G n p order 36 (fun q0=>eV n q0) (fun q0 r h=>rU G n q0 h) hx1)] (fr 4 4) [(4,vB x1)] [] [] (qr eR)
theorem uB(G:GS)(n:Nat)(code:List UInt8){r:Bool}(h:fZ n code=some r):PQ G 8 [vM rY code] (vB r):=by
 unfold fZ at h
 refine pq aN Tryz.func8 rfl fun w X hC=> ?_
 refine rq hC [] [2] [] [] [] (qs (rq hC [oN rY code] [13,14,15] [(15,vB (decide ((1048576:Int)<(code.length:Int))))] [] [] (aQ h (fun c1 h=> ?_) (fun c1 h=> ?_))))
 ·obtain rfl:=so h
  exact rq hC [] [2] [(2,vB true)] [] [] (qr eR)
 ·refine qk ?_
  obtain⟨x1,hx1,h⟩:=bd h
  refine rq hC [oC [] [20] (uG G hx1),.z (.nat 21)] [3,4,16,17,18,19,20] [(3,V.ref 21 0),(4,ms 20 1 1 rI x1.2)] [(20,some (ar 3 1 1 rI x1.2)),(21,some (E.cells (cF x1.1)))] [(20,true),(21,true)] ?_
  obtain⟨x2,hx2,h⟩:=bd h
  refine rq hC [oV (rU G n x1.1 hx2)] [5,21,22] [(5,vM aR x2)] [] [] ?_
  obtain⟨x3,hx3,h⟩:=bd h
  refine rq hC [oC [] [22] (fX G hx3),oN aJ x3] [6,23,24,25] [(6,vI (x3.length:Int))] [(22,some (ar 38 1 3 aJ x3))] [(22,true)] ?_
  obtain⟨x4,hx4,h⟩:=bd h
  refine rq hC [.z (.at 6),.z (.fz 20 [4,28] []),oC [] [23] (H9 G hx4)] [4,7,8,26,27,28,29,30,31] [(4,vM rI x1.2),(7,ms 23 1 1 rI x4.1),(8,vB x4.2)] [(20,none),(23,some (ar 3 1 1 rI x4.1))] [(23,true)] (qs (vj h (fun x_=>aZ [(3,V.ref 21 0),(4,vM rI x1.2),(5,vM aR x2),(6,vI (x3.length:Int)),(7,ms 23 1 1 rI x4.1),(45,vB x_.2)] [(21,E.cells (cF x1.1)),(22,ar 38 1 3 aJ x3),(23,ar 3 1 1 rI x4.1),(24,ar 100 1 3 aR x_.1)] [20,21,22,23,24]) (fun j5 h=> ?_) ?_))
  ·
   obtain⟨x6,hx6,x7,hx7,h⟩:=dI h
   refine aP h (fun c2 h=> ?_) (fun c2 h=> ?_)
   ·refine aP h (fun c3 h=> ?_) (fun c3 h=> ?_)
    ·exact rk hC ([oC [] [24] (i8 G hx6),.z (.b (true)),oV (pJ G hx7)]++rF 3 c2++[oF c3,oF c3,oN aR x2,oF c3,oF c3]) (fr 32 14) [(45,vB (decide ((0:Int)<(x2.length:Int))))] [(24,some (ar 100 1 3 aR x6))] [(24,true)] (lE h)
    ·exact rk hC ([oC [] [24] (i8 G hx6),.z (.b (true)),oV (pJ G hx7)]++rF 3 c2++rT 4 c3) (fr 32 14) [(45,vB true)] [(24,some (ar 100 1 3 aR x6))] [(24,true)] (lE h)
   ·exact rk hC ([oC [] [24] (i8 G hx6),.z (.b (true)),oV (pJ G hx7)]++rT 3 c2++sT 4) (fr 32 14) [(45,vB true)] [(24,some (ar 100 1 3 aR x6))] [(24,true)] (lE h)
  ·rintro⟨x8,x9⟩ h
   refine aQ h (fun c4 h=> ?_) (fun c4 h=> ?_)
   ·obtain⟨x10,hx10,x11,hx11,h⟩:=dI h
    obtain rfl:=so h
    exact rq hC [oC [] [25] (i8 G hx10),.z (.b (true)),oV (pJ G hx11)] [2,46,47,48,49] [(2,vB x11)] [(25,some (ar 100 1 3 aR x10))] [(25,true)] (qr eR)
   ·refine qk (rq hC [.z (.nat 25)] [9,50] [(9,ms 25 1 1 rI [])] [(25,some (ar 3 1 1 rI []))] [(25,true)] (qs (rq hC [] [10,51,52] [(10,vI (wr ((x3.length:Int)-1)))] [] [] (qb (bJ (γ:=Nat) h (fun x_ g_=>aZ [(3,V.ref 21 0),(4,vM rI x1.2),(7,ms 23 1 1 rI x4.1),(9,ms 25 g_ 1 rI x_.1),(10,vI x_.2)] [(21,E.cells (cF x1.1)),(22,ar 38 1 3 aJ x3),(23,ar 3 1 1 rI x4.1),(24,ar 100 1 3 aR x8),(25,ar 3 g_ 1 rI x_.1)] [20,21,22,23,24,25]) 1 (lS) ?_)))))
    rintro again15 ⟨x12,x13⟩ g14 h
    refine qs (rq hC [] [53,54] [(54,vB (decide ((0:Int)≤x13)))] [] [] (aQ h (fun c5 h=> ?_) (fun c5 h=> ?_)))
    ·refine qk (qs (qb ?_))
     obtain⟨x16,hx16,h⟩:=bd h
     exact rk hC [.z (.int 0),oA (aT rI hx16),oQ (cL (r:=rI) 1 (fun _=>rfl) x12),oQ (cL (r:=rI) 1 (fun _=>rfl) [x13])] [9,57,58,59,60] [(9,ms 25 (g14+1) 1 rI x16)] [(25,some (ar 3 (g14+1) 1 rI x16))] [] (rk hC [] [10,55,56] [(10,vI (wr (x13-1)))] [] [] ⟨(x16,wr (x13-1)),(g14+1),h,lS⟩)
    ·refine dA ?_
     obtain⟨x17,hx17,h⟩:=bd h
     refine rq hC [.z (.at 6),.z (.fz 25 [9,64] []),oC [] [26] (U2 G hx17)] [9,11,12,61,62,63,64,65,66,67] [(9,vM rI x12),(11,ms 26 1 1 rI x17.1),(12,vB x17.2)] [(25,none),(26,some (ar 3 1 1 rI x17.1))] [(26,true)] (vj h (fun x_=>aZ [(2,vB x_)] [(21,E.cells (cF x1.1)),(22,ar 38 1 3 aJ x3),(23,ar 3 1 1 rI x4.1),(24,ar 100 1 3 aR x8),(26,ar 3 1 1 rI x17.1)] [20,21,22,23,24,25,26]) (fun j18 h=> ?_) (fun x21 h=> ?_))
     ·
      refine aP h (fun c6 h=> ?_) (fun c6 h=> ?_)
      ·exact rk hC (rF 4 c6++sF 4) [2,68,69,70,71,72,73,74,75,76,77,78] [(2,vB false)] [] [] (lE h)
      ·obtain⟨x19,hx19,h⟩:=bd h
       refine aP h (fun c7 h=> ?_) (fun c7 h=> ?_)
       ·exact rk hC (rT 3 c6++[.z (.b (true)),oV (G2 G hx19),oT c6]++rF 4 c7) [2,68,69,70,71,72,73,74,75,76,77,78] [(2,vB false)] [] [] (lE h)
       ·obtain⟨x20,hx20,h⟩:=bd h
        exact rk hC (rT 3 c6++[.z (.b (true)),oV (G2 G hx19),oT c6]++rT 3 c7++[oV (xN G hx20),oT c7]) [2,68,69,70,71,72,73,74,75,76,77,78] [(2,vB x20)] [] [] (lE h)
     ·obtain rfl:=so h
      exact qr eR
end Go.Lift
