/- The walks: the code computes what the plain functions say. -/
import Derived.Test.YtohillieiccgdaaGreatKModels
import Derived.Test.YtohillieiccgdaaGreatKWalks1
set_option maxRecDepth 10000
set_option linter.unusedVariables false
namespace Go.Lift
open Go Go.Proofs
variable (G:GS) {n:Nat}
theorem K8(G:GS)(n:Nat)(n_a0:Int){r:Bool}(h:jD n n_a0=some r):PQ G 233 [vI n_a0] (vB r):=by
 unfold jD at h
 refine pq aN Tryz.func233 rfl fun w X hC=> ?_
 refine rq hC [] [2] [] [] [] ?_
 obtain⟨x1,hx1,h⟩:=bd h
 obtain rfl:=so h
 exact rq hC [oV (bH G hx1)] (fr 2 4) [(2,vB (!x1))] [] [] (qr eR)
theorem aAK{point}{r}(h:pD n point=some r):PQ G 164 [vM rI point] (vB r):=by
 unfold pD at h
 refine pq aN Tryz.func164 rfl fun w X hC=> ?_
 refine rq hC [] [2] [] [] [] (vj h (fun x_=>bA [(2,vB x_)] [] []) (fun j1 h=> ?_) (fun x3 h=> ?_))
 ·
  refine aR h (fun c1 h=> ?_) (fun c1 h=> ?_)
  ·exact rk hC ([oN rI point]++rF 4 c1) (fr 2 9) [(2,vB false)] [] [] (lE h)
  ·obtain⟨x2,hx2,h⟩:=bd h
   exact rk hC [oN rI point,oT c1,oT c1,oV (eO G n point 233 (fun q0=>jD n q0) (fun q0 r h=>K8 G n q0 h) hx2),oT c1,oT c1] (fr 2 9) [(2,vB (!x2))] [] [] (lE h)
 ·obtain rfl:=so h
  exact qr eR
theorem J0{a}{r}(h:mI n a=some r):PQ G 180 [V.agg [vS a.name,vM rI a.dims]] (vI r):=by
 unfold mI at h
 refine pq aN Tryz.func180 rfl fun w X hC=> ?_
 refine rq hC [.z (.b (true))] [1,2] [(1,V.tp [T.str a.name,T.sl (List.map rI a.dims)])] [] [] (rq hC [] [3] [(3,vI 1)] [] [] (qs (rq hC [oN rI a.dims] (fr 6 4) [(7,vM rI a.dims),(8,vI (a.dims.length:Int)),(9,vI 0)] [] [] (qb (jI h (fun x_=>bA [(3,vI x_.1),(7,vM rI a.dims),(8,vI (a.dims.length:Int)),(9,vI x_.2)] [] []) lS ?_)))))
 rintro again3 ⟨x1,x2⟩ h
 refine rq hC [] [10] [(10,vB (decide (x2<(a.dims.length:Int))))] [] [] (qs (aT h (fun c1 h=> ?_) (fun c1 h=> ?_)))
 ·refine qk (qs (qb ?_))
  obtain⟨x4,hx4,h⟩:=bd h
  exact rq hC [oR rI hx4] [5,11,12] [(5,vI x4)] [] [] (rk hC [] [3,13,14,15] [(3,vI (wr (x1*x4)))] [] [] (rk hC [] [9,16] [(9,vI (wr (x2+1)))] [] [] (lE h)))
 ·obtain rfl:=so h
  exact cQ (rq hC [] [2,17] [(2,vI x1)] [] [] (qr eR))
theorem lF{p}{a}{point}{r}(h:fD n p a point=some r):PQ G 154 [V.agg (bL p),V.agg (b8 a),vM rI point] (vI r):=by
 unfold fD at h
 refine pq aN Tryz.func154 rfl fun w X hC=> ?_
 refine rq hC [.z (.b (true)),.z (.b (true))] [3,4,6] [(3,V.tp (cP p)),(4,V.tp (dC a))] [] [] (rq hC [] [7] [(7,vI 0)] [] [] (qs (rq hC [oN aJ p.arrays] (fr 14 4) [(15,vM aJ p.arrays),(16,vI (p.arrays.length:Int)),(17,vI 0)] [] [] (qb (jI h (fun x_=>bA [(2,vM rI point),(4,V.tp (dC a)),(7,vI x_.1),(15,vM aJ p.arrays),(16,vI (p.arrays.length:Int)),(17,vI x_.2)] [] []) lS ?_)))))
 rintro again3 ⟨x1,x2⟩ h
 refine rq hC [] [18] [(18,vB (decide (x2<(p.arrays.length:Int))))] [] [] (qs (aT h (fun c1 h=> ?_) (fun c1 h=> ?_)))
 ·refine qk (qs (qb ?_))
  obtain⟨x4,hx4,h⟩:=bd h
  refine rq hC [oR aJ hx4,.z (.nat 20)] [9,19,20] [(9,V.ref 20 0)] [(20,sc [vS x4.name,vM rI x4.dims])] [(20,true)] (qs (rq hC [] (fr 21 5) [(25,vB (!decide (x4.name=a.array)))] [] [] (aT h (fun c2 h=> ?_) (fun c2 h=> ?_))))
  ·obtain⟨x5,hx5,h⟩:=bd h
   exact rq hC [oV (J0 G hx5)] [7,26,27,28,29] [(7,vI (wr (x1+x5)))] [] [] (cQ (rk hC [] [17,70] [(17,vI (wr (x2+1)))] [] [] (lE h)))
  ·refine qk (qs (rq hC [oN aA a.subs,oN rI x4.dims] (fr 30 7) [(36,vB (!decide ((a.subs.length:Int)=(x4.dims.length:Int))))] [] [] (aT h (fun c3 h=> ?_) (fun c3 h=> ?_))))
   ·obtain rfl:=so h
    exact rq hC [] [6] [(6,vI (-1))] [] [] (qr eR)
   ·refine qk (rq hC [] [10] [(10,vI 0)] [] [] (qs (rq hC [oN aA a.subs] (fr 37 4) [(38,vM aA a.subs),(39,vI (a.subs.length:Int)),(40,vI 0)] [] [] (qb (jI h (fun x_=>bA [(2,vM rI point),(7,vI x1),(9,V.ref 20 0),(10,vI x_.1),(38,vM aA a.subs),(39,vI (a.subs.length:Int)),(40,vI x_.2)] [(20,E.cells [vS x4.name,vM rI x4.dims])] [20]) lS ?_)))))
    rintro again8 ⟨x6,x7⟩ h
    refine rq hC [] [41] [(41,vB (decide (x7<(a.subs.length:Int))))] [] [] (qs (aT h (fun c4 h=> ?_) (fun c4 h=> ?_)))
    ·refine qk (qs (qb ?_))
     obtain⟨x9,hx9,h⟩:=bd h
     refine rq hC [oR aA hx9,.z (.nat 21)] [11,12,42,43,44] [(11,vI x7),(12,V.ref 21 0)] [(21,some (E.cells (aK x9)))] [(21,true)] ?_
     obtain⟨x10,hx10,h⟩:=bd h
     refine rq hC [oV (fY G hx10)] [13,45,46,47] [(13,vI x10)] [] [] (qs ?_)
     obtain⟨x11,hx11,x12,hx12,h⟩:=cT h
     refine rq hC [oR rI hx11,oV (bH G hx12)] (fr 48 9) [(56,vB (!x12))] [] [] (aT h (fun c5 h=> ?_) (fun c5 h=> ?_))
     ·obtain rfl:=so h
      exact rq hC [] [6] [(6,vI (-1))] [] [] (qr eR)
     ·exact qk (rk hC [oR rI hx11] [10,57,58,59,60,61,62,63,64,65] [(10,vI (wr ((wr (x6*x11))+x10)))] [] [] (rk hC [] [40,66] [(40,vI (wr (x7+1)))] [] [] (lE h)))
    ·obtain rfl:=so h
     exact cQ (rq hC [] [6,67,68,69] [(6,vI (wr (x1+x6)))] [] [] (qr eR))
 ·obtain rfl:=so h
  exact cQ (rq hC [] [6] [(6,vI (-1))] [] [] (qr eR))
theorem sP(G:GS)(n:Nat)(a:Access)(c0__a1:Prog)(c1__a2:List Int){r:Bool}(h:dB n a c0__a1 c1__a2=some r):PQ G 234 [V.agg (b8 a),V.tp (cP c0__a1),V.tp [T.sl (List.map rI c1__a2)]] (vB r):=by
 unfold dB at h
 refine pq aN Tryz.func234 rfl fun w X hC=> ?_
 refine rq hC [.z (.b (true))] [3,4] [(3,V.tp (dC a))] [] [] ?_
 obtain⟨x1,hx1,h⟩:=bd h
 obtain rfl:=so h
 exact rq hC [oV (lF G hx1)] (fr 4 6) [(4,vB (decide (x1<0)))] [] [] (qr eR)
theorem aDE(G:GS): ∀(n:Nat) (e:Expr) {r:(List Access)} (h:i_reads n e=some r),VQ G 188 [] [V.agg (cN e)] (ms 0 1 2 aY r) [ar 107 1 2 aY r]:=by
 intro n
 induction n with
 |zero=>intro e r h;rw [i_reads.eq_def] at h;cases h
 |succ n ih=>
  intro e r h
  rw [i_reads.eq_def] at h;dsimp only at h
  refine vq aN Tryz.func188 rfl fun w X β0 hC hg=> ?_
  refine rq hC [.z (.b (true))] [1,2] [(1,V.tp (eU e))] [] [] (qs (rq hC [] [6,7,8] [(8,vB (decide (e.kind=3)))] [] [] (aT h (fun c1 h=> ?_) (fun c1 h=> ?_))))
  ·obtain rfl:=so h
   exact rq hC [.z (.int 1),.z (.nat 20)] [2,9,10,11] [(2,ms 20 1 2 aY [e.read])] [(20,some (ar 107 1 2 aY [e.read]))] [(20,true)] (qw (lk hC [.ren 2 20 0] [2] [(2,ms 0 1 2 aY [e.read])] [(0,some (ar 107 1 2 aY [e.read])),(20,none)] [(0,true)]) (qr eW))
  ·refine qk (rq hC [] [3] [(3,V.t T.nilS)] [] [] (qs (rq hC [oN aH e.kids] (fr 12 4) [(13,vM aH e.kids),(14,vI (e.kids.length:Int)),(15,vI 0)] [] [] (qb (qw (lk hC [.grow 3 20 107] [3] [(3,ms 20 1 2 aY [])] [(20,some (ar 107 1 2 aY []))] [(20,true)]) ?_)))))
   refine bC (γ:=Nat) h (fun x_ g_=>bA [(3,ms 20 g_ 2 aY x_.1),(13,vM aH e.kids),(14,vI (e.kids.length:Int)),(15,vI x_.2)] [(20,ar 107 g_ 2 aY x_.1)] [20]) 1 (lS) ?_
   rintro again4 ⟨x1,x2⟩ g3 h
   refine rq hC [] [16] [(16,vB (decide (x2<(e.kids.length:Int))))] [] [] (qs (aT h (fun c2 h=> ?_) (fun c2 h=> ?_)))
   ·refine qk (qs (qb ?_))
    obtain⟨x5,hx5,h⟩:=bd h
    refine rq hC [.z (.row (d6 x5)),.z (.nat 21),oQ (eV aH hx5 (cS x5))] [5,17,18] [(5,V.ref 21 0)] [(21,some (E.cells (cN x5)))] [(21,true)] ?_
    obtain⟨x6,hx6,x7,hx7,h⟩:=cT h
    exact rk hC [oC [] [22] (ih x5 hx6),.z (.at 2),.z (.fz 22 [21] []),oA (aO aY hx7),oQ (bO (r:=aY) 2 n4 x1),oQ (bO (r:=aY) 2 n4 x6)] [3,19,20,21,22] [(3,ms 20 (g3+1) 2 aY x7)] [(22,none),(20,some (ar 107 (g3+1) 2 aY x7))] [(22,true)] (rk hC [] [15,23] [(15,vI (wr (x2+1)))] [] [] ⟨(x7,wr (x2+1)),(g3+1),h,lS⟩)
   ·obtain rfl:=so h
    exact cQ (rq hC [] [2,24] [(2,ms 20 g3 2 aY x1)] [] [] (qw (lk hC [.ren 2 20 0] [2] [(2,ms 0 1 2 aY x1)] [(0,some (ar 107 1 2 aY x1)),(20,none)] [(0,true)]) (qr eW)))
theorem pK(G:GS)(n:Nat)(s:List Access)(fF:FuncId)(fC0:List T)(fC1:List T)(f:Access→Option Bool)(hf: ∀(q0:Access) r,f q0=some r→PQ G fF [V.agg (b8 q0),V.tp fC0,V.tp fC1] (vB r)){r:Int}(h:fL n s f=some r):PQ G 245 [vM aY s,V.fn fF [V.tp fC0,V.tp fC1]] (vI r):=by
 unfold fL at h
 refine pq aN Tryz.func245 rfl fun w X hC=> ?_
 refine rq hC [] [4] [] [] [] (qs (rq hC [oN aY s] [6,7,8] [(7,vI (s.length:Int)),(8,vI 0)] [] [] (qb (jI h (fun x_=>bA [(0,vM aY s),(1,V.fn fF [V.tp fC0,V.tp fC1]),(7,vI (s.length:Int)),(8,vI x_)] [] []) lS ?_))))
 rintro again2 x1 h
 refine rq hC [] [9] [(9,vB (decide (x1<(s.length:Int))))] [] [] (qs (aT h (fun c1 h=> ?_) (fun c1 h=> ?_)))
 ·refine qk (qs (qb (rq hC [] [5,10] [(5,vI x1)] [] [] ?_)))
  obtain⟨x3,hx3,x4,hx4,h⟩:=cT h
  refine rq hC [oR aY hx3,oV (hf x3 _ hx4)] (fr 11 6) [(16,vB x4)] [] [] (aT h (fun c2 h=> ?_) (fun c2 h=> ?_))
  ·obtain rfl:=so h
   exact rq hC [] [4,17] [(4,vI x1)] [] [] (qr eR)
  ·exact qk (rk hC [] [8,18] [(8,vI (wr (x1+1)))] [] [] (lE h))
 ·obtain rfl:=so h
  exact cQ (rq hC [] [4] [(4,vI (-1))] [] [] (qr eR))
theorem nU(G:GS)(n:Nat)(s:List Access)(fF:FuncId)(fC0:List T)(fC1:List T)(f:Access→Option Bool)(hf: ∀(q0:Access) r,f q0=some r→PQ G fF [V.agg (b8 q0),V.tp fC0,V.tp fC1] (vB r)){r:Bool}(h:cY n s f=some r):PQ G 187 [vM aY s,V.fn fF [V.tp fC0,V.tp fC1]] (vB r):=by
 unfold cY at h
 refine pq aN Tryz.func187 rfl fun w X hC=> ?_
 refine rq hC [] [4] [] [] [] ?_
 obtain⟨x1,hx1,h⟩:=bd h
 obtain rfl:=so h
 exact rq hC [oV (pK G n s fF fC0 fC1 f hf hx1)] (fr 4 5) [(4,vB (decide ((0:Int)≤x1)))] [] [] (qr eR)
theorem uT{p}{s}{point}{r}(h:fC n p s point=some r):PQ G 165 [V.agg (bL p),V.agg (cV s),vM rI point] (vB r):=by
 unfold fC at h
 refine pq aN Tryz.func165 rfl fun w X hC=> ?_
 refine rq hC [.z (.b (true)),.z (.b (true)),.z (.b (true))] (fr 3 4) [(3,V.tp (cP p)),(4,V.tp (m5 s)),(5,V.tp [T.sl (List.map rI point)])] [] [] (vj h (fun x_=>bA [(6,vB x_)] [] []) (fun j1 h=> ?_) (fun x5 h=> ?_))
 ·
  obtain⟨x2,hx2,h⟩:=bd h
  refine aR h (fun c1 h=> ?_) (fun c1 h=> ?_)
  ·exact rk hC ([oV (lF G hx2)]++rF 7 c1) (fr 6 15) [(6,vB false)] [] [] (lE h)
  ·obtain⟨x3,hx3,x4,hx4,h⟩:=cT h
   exact rk hC ([oV (lF G hx2)]++rT 3 c1++[oC [] [20] (aDE G n s.value hx3),oT c1,oT c1,.z (.b (true)),oV (nU G n x3 234 (cP p) [T.sl (List.map rI point)] (fun q0=>dB n q0 p point) (fun q0 r h=>sP G n q0 p point h) hx4),oT c1,oT c1]) (fr 6 15) [(6,vB (!x4))] [(20,some (ar 107 1 2 aY x3))] [(20,true)] (lE h)
 ·obtain rfl:=so h
  exact qr eR
theorem sO(G:GS)(n:Nat)(n_a0:Int){r:Bool}(h:dQ n n_a0=some r):PQ G 227 [vI n_a0] (vB r):=by
 unfold dQ at h
 refine pq aN Tryz.func227 rfl fun w X hC=> ?_
 refine rq hC [] [2] [] [] [] ?_
 obtain⟨x1,hx1,h⟩:=bd h
 obtain rfl:=so h
 exact rq hC [oV (bH G hx1)] (fr 2 4) [(2,vB (!x1))] [] [] (qr eR)
theorem wF{list}{r}(h:nL n list=some r):PQ G 159 [vM aJ list] (vB r):=by
 unfold nL at h
 refine pq aN Tryz.func159 rfl fun w X hC=> ?_
 refine rq hC [] [2] [] [] [] (qs (rq hC [oN aJ list] [5,6,7] [(5,vM aJ list),(6,vI (list.length:Int)),(7,vI 0)] [] [] (qb (jI h (fun x_=>bA [(0,vM aJ list),(5,vM aJ list),(6,vI (list.length:Int)),(7,vI x_)] [] []) lS ?_))))
 rintro again2 x1 h
 refine rq hC [] [8] [(8,vB (decide (x1<(list.length:Int))))] [] [] (qs (aT h (fun c1 h=> ?_) (fun c1 h=> ?_)))
 ·refine qk (qs (qb ?_))
  obtain⟨x3,hx3,h⟩:=bd h
  refine rq hC [oR aJ hx3,.z (.nat 20)] [3,4,9,10,11] [(3,vI x1),(4,V.ref 20 0)] [(20,sc [vS x3.name,vM rI x3.dims])] [(20,true)] (vj h (fun x_=>bA [(0,vM aJ list),(5,vM aJ list),(6,vI (list.length:Int)),(7,vI x1),(42,vB x_)] [(20,E.cells [vS x3.name,vM rI x3.dims])] [20]) (fun j4 h=> ?_) (fun x11 h=> ?_))
  ·
   obtain⟨x5,hx5,h⟩:=bd h
   refine aR h (fun c2 h=> ?_) (fun c2 h=> ?_)
   ·refine aR h (fun c3 h=> ?_) (fun c3 h=> ?_)
    ·obtain⟨x6,hx6,h⟩:=bd h
     refine aR h (fun c4 h=> ?_) (fun c4 h=> ?_)
     ·obtain⟨x7,hx7,h⟩:=bd h
      exact dk hC bD ([oV (eP G hx5)]++rF 3 c2++rF 9 c3++[oF c2,oF c3,oF c2,eF,eF,eF,oN rI x3.dims,eF,oV (bH G hx6),eF,eF]++rF 3 c4++[oV (eO G n x3.dims 227 (fun q0=>dQ n q0) (fun q0 r h=>sO G n q0 h) hx7),oF c4]) (fr 12 31) [(42,vB x7)] [] [] (lE h)
     ·exact dk hC bD ([oV (eP G hx5)]++rF 3 c2++rF 9 c3++[oF c2,oF c3,oF c2,eF,eF,eF,oN rI x3.dims,eF,oV (bH G hx6),eF,eF]++rT 4 c4) (fr 12 31) [(42,vB true)] [] [] (lE h)
    ·obtain⟨x8,hx8,h⟩:=bd h
     refine aR h (fun c5 h=> ?_) (fun c5 h=> ?_)
     ·obtain⟨x9,hx9,h⟩:=bd h
      refine aR h (fun c6 h=> ?_) (fun c6 h=> ?_)
      ·obtain⟨x10,hx10,h⟩:=bd h
       exact dk hC bD ([oV (eP G hx5)]++rF 3 c2++rT 4 c3++[oR aJ hx8]++rT 5 c3++[oF c2,oT c3,oF c2]++rF 3 c5++[oN rI x3.dims,oF c5,oV (bH G hx9),oF c5,oF c5]++rF 3 c6++[oV (eO G n x3.dims 227 (fun q0=>dQ n q0) (fun q0 r h=>sO G n q0 h) hx10),oF c6]) (fr 12 31) [(42,vB x10)] [] [] (lE h)
      ·exact dk hC bD ([oV (eP G hx5)]++rF 3 c2++rT 4 c3++[oR aJ hx8]++rT 5 c3++[oF c2,oT c3,oF c2]++rF 3 c5++[oN rI x3.dims,oF c5,oV (bH G hx9),oF c5,oF c5]++rT 4 c6) (fr 12 31) [(42,vB true)] [] [] (lE h)
     ·exact dk hC bD ([oV (eP G hx5)]++rF 3 c2++rT 4 c3++[oR aJ hx8]++rT 5 c3++[oF c2,oT c3,oF c2]++rT 6 c5++sT 4) (fr 12 31) [(42,vB true)] [] [] (lE h)
   ·exact dk hC bD ([oV (eP G hx5)]++rT 5 c2++sT 10) (fr 12 31) [(42,vB true)] [] [] (lE h)
  ·refine aT h (fun c7 h=> ?_) (fun c7 h=> ?_)
   ·obtain rfl:=so h
    exact rq hC [] [2] [(2,vB false)] [] [] (qr eR)
   ·exact qk (rk hC [] [7,43] [(7,vI (wr (x1+1)))] [] [] (lE h))
 ·obtain rfl:=so h
  exact cQ (rq hC [oN aJ list] [2,44,45,46] [(2,vB (decide ((list.length:Int)≤4)))] [] [] (qr eR))
theorem q5(G:GS)(n:Nat)(s:List Stmt)(fF:FuncId)(fC0:List T)(f:Stmt→Option Bool)(hf: ∀(q0:Stmt) r,f q0=some r→PQ G fF [V.agg (cV q0),V.tp fC0] (vB r)){r:Int}(h:gX n s f=some r):PQ G 230 [vM aG s,V.fn fF [V.tp fC0]] (vI r):=by
 unfold gX at h
 refine pq aN Tryz.func230 rfl fun w X hC=> ?_
 refine rq hC [] [4] [] [] [] (qs (rq hC [oN aG s] [6,7,8] [(7,vI (s.length:Int)),(8,vI 0)] [] [] (qb (jI h (fun x_=>bA [(0,vM aG s),(1,V.fn fF [V.tp fC0]),(7,vI (s.length:Int)),(8,vI x_)] [] []) lS ?_))))
 rintro again2 x1 h
 refine rq hC [] [9] [(9,vB (decide (x1<(s.length:Int))))] [] [] (qs (aT h (fun c1 h=> ?_) (fun c1 h=> ?_)))
 ·refine qk (qs (qb (rq hC [] [5,10] [(5,vI x1)] [] [] ?_)))
  obtain⟨x3,hx3,x4,hx4,h⟩:=cT h
  refine rq hC [oR aG hx3,oV (hf x3 _ hx4)] (fr 11 6) [(16,vB x4)] [] [] (aT h (fun c2 h=> ?_) (fun c2 h=> ?_))
  ·obtain rfl:=so h
   exact rq hC [] [4,17] [(4,vI x1)] [] [] (qr eR)
  ·exact qk (rk hC [] [8,18] [(8,vI (wr (x1+1)))] [] [] (lE h))
 ·obtain rfl:=so h
  exact cQ (rq hC [] [4] [(4,vI (-1))] [] [] (qr eR))
theorem oK(G:GS)(n:Nat)(s:List Stmt)(fF:FuncId)(fC0:List T)(f:Stmt→Option Bool)(hf: ∀(q0:Stmt) r,f q0=some r→PQ G fF [V.agg (cV q0),V.tp fC0] (vB r)){r:Bool}(h:dO n s f=some r):PQ G 161 [vM aG s,V.fn fF [V.tp fC0]] (vB r):=by
 unfold dO at h
 refine pq aN Tryz.func161 rfl fun w X hC=> ?_
 refine rq hC [] [4] [] [] [] ?_
 obtain⟨x1,hx1,h⟩:=bd h
 obtain rfl:=so h
 exact rq hC [oV (q5 G n s fF fC0 f hf hx1)] (fr 4 5) [(4,vB (decide ((0:Int)≤x1)))] [] [] (qr eR)
theorem q6{p}{r}(h:dP n p=some r):VQ G 67 [] [V.agg (bL p)] (V.tup [ms 0 1 3 d5 r.1,vB r.2]) [ar 38 1 3 d5 r.1]:=by
 unfold dP at h
 refine vq aN Tryz.func67 rfl fun w X β0 hC hg=> ?_
 refine rq hC [.z (.b (true))] [1,2,3] [(1,V.tp (cP p))] [] [] (qs (vj h (fun x_=>bA [(1,V.tp (cP p)),(22,vB x_)] [] []) (fun j1 h=> ?_) (fun x3 h=> ?_)))
 ·
  obtain⟨x2,hx2,h⟩:=bd h
  refine aR h (fun c1 h=> ?_) (fun c1 h=> ?_)
  ·exact rk hC ([oV (wF G hx2)]++rF 3 c1++[oN aD p.parts,oF c1,oF c1]) (fr 13 10) [(22,vB (decide ((4:Int)<(p.parts.length:Int))))] [] [] (lE h)
  ·exact rk hC ([oV (wF G hx2)]++rT 5 c1) (fr 13 10) [(22,vB true)] [] [] (lE h)
 ·refine aT h (fun c2 h=> ?_) (fun c2 h=> ?_)
  ·obtain rfl:=so h
   exact rq hC [] [2,3] [(2,V.t T.nilS),(3,vB false)] [] [] (qw (lk hC [.grow 2 0 38] [2] [(2,ms 0 1 3 d5 [])] [(0,some (ar 38 1 3 d5 []))] [(0,true)]) (qr eW))
  ·refine qk (rq hC [] [4] [(4,V.t T.nilS)] [] [] (qs (rq hC [oN aD p.parts] (fr 23 4) [(24,vM aD p.parts),(25,vI (p.parts.length:Int)),(26,vI 0)] [] [] (qb (qw (lk hC [.grow 4 20 38] [4] [(4,ms 20 1 3 d5 [])] [(20,some (ar 38 1 3 d5 []))] [(20,true)]) ?_)))))
   refine bC (γ:=Nat) h (fun x_ g_=>bA [(1,V.tp (cP p)),(4,ms 20 g_ 3 d5 x_.1),(24,vM aD p.parts),(25,vI (p.parts.length:Int)),(26,vI x_.2)] [(20,ar 38 g_ 3 d5 x_.1)] [20]) 1 (lS) ?_
   rintro again7 ⟨x4,x5⟩ g6 h
   refine rq hC [] [27] [(27,vB (decide (x5<(p.parts.length:Int))))] [] [] (qs (aT h (fun c3 h=> ?_) (fun c3 h=> ?_)))
   ·refine qk (qs (qb ?_))
    obtain⟨x8,hx8,h⟩:=bd h
    refine rq hC [oR aD hx8,.z (.nat 21),.z (.at 0),.z (.fp 21 [6])] [5,6,28,29,30] [(5,vI x5),(6,V.tp (iZ x8))] [(21,none)] [(21,true)] ?_
    obtain⟨x9,hx9,h⟩:=bd h
    refine rq hC [oC [] [22] (I9 G hx9)] [7,8,31,32,33,34,35,36] [(7,ms 22 1 1 (rL rI) x9.1),(8,vB x9.2)] [(22,some (ar 27 1 1 (rL rI) x9.1))] [(22,true)] (qs (vj h (fun x_=>bA [(1,V.tp (cP p)),(4,ms 20 g6 3 d5 x4),(5,vI x5),(6,V.tp (iZ x8)),(7,ms 22 1 1 (rL rI) x9.1),(24,vM aD p.parts),(25,vI (p.parts.length:Int)),(26,vI x5),(51,vB x_)] [(20,ar 38 g6 3 d5 x4),(22,ar 27 1 1 (rL rI) x9.1)] [20,21,22]) (fun j10 h=> ?_) (fun x13 h=> ?_)))
    ·
     refine aR h (fun c4 h=> ?_) (fun c4 h=> ?_)
     ·obtain⟨x11,hx11,h⟩:=bd h
      refine aR h (fun c5 h=> ?_) (fun c5 h=> ?_)
      ·obtain⟨x12,hx12,h⟩:=bd h
       exact rk hC (rF 3 c4++[oN aG x8.body,oF c4,oV (bH G hx11),oF c4,oF c4]++rF 4 c5++[oV (oK G n x8.body 162 (iZ x8) (fun q0=>cC n q0 x8) (fun q0 r h=>pM G n q0 x8 h) hx12),oF c5]) (fr 37 15) [(51,vB x12)] [] [] (lE h)
      ·exact rk hC (rF 3 c4++[oN aG x8.body,oF c4,oV (bH G hx11),oF c4,oF c4]++rT 5 c5) (fr 37 15) [(51,vB true)] [] [] (lE h)
     ·exact rk hC (rT 6 c4++sT 5) (fr 37 15) [(51,vB true)] [] [] (lE h)
    ·refine aT h (fun c6 h=> ?_) (fun c6 h=> ?_)
     ·obtain rfl:=so h
      exact rq hC [] [2,3] [(2,V.t T.nilS),(3,vB false)] [] [] (qw (lk hC [.grow 2 0 38] [2] [(2,ms 0 1 3 d5 [])] [(0,some (ar 38 1 3 d5 []))] [(0,true)]) (qr eW))
     ·refine qk (rq hC [oN (rL rI) x9.1] [52,53,54] [(52,ms 22 1 1 (rL rI) x9.1),(53,vI (x9.1.length:Int)),(54,vI 0)] [] [] (qb (bC (γ:=Nat) h (fun x_ g_=>bA [(1,V.tp (cP p)),(4,ms 20 g_ 3 d5 x_.1),(5,vI x5),(6,V.tp (iZ x8)),(24,vM aD p.parts),(25,vI (p.parts.length:Int)),(26,vI x5),(52,ms 22 1 1 (rL rI) x9.1),(53,vI (x9.1.length:Int)),(54,vI x_.2)] [(20,ar 38 g_ 3 d5 x_.1),(22,ar 27 1 1 (rL rI) x9.1)] [20,21,22]) g6 (lS) ?_)))
      rintro again17 ⟨x14,x15⟩ g16 h
      refine rq hC [] [55] [(55,vB (decide (x15<(x9.1.length:Int))))] [] [] (qs (aT h (fun c7 h=> ?_) (fun c7 h=> ?_)))
      ·refine qk (qs (qb ?_))
       obtain⟨x18,hx18,h⟩:=bd h
       refine rq hC [oQ (l7 (rL rI) hx18),oX (rL rI) hx18] [10,56,57] [(10,vM rI x18)] [] [] (qs ?_)
       obtain⟨x19,hx19,h⟩:=bd h
       refine rq hC [oV (aAK G hx19)] [58,59,60] [(60,vB (!x19))] [] [] (aT h (fun c8 h=> ?_) (fun c8 h=> ?_))
       ·obtain rfl:=so h
        exact rq hC [] [2,3] [(2,V.t T.nilS),(3,vB false)] [] [] (qw (lk hC [.grow 2 0 38] [2] [(2,ms 0 1 3 d5 [])] [(0,some (ar 38 1 3 d5 []))] [(0,true)]) (qr eW))
       ·refine qk (rq hC [oN aG x8.body] (fr 61 4) [(62,vM aG x8.body),(63,vI (x8.body.length:Int)),(64,vI 0)] [] [] (qb (bC (γ:=Nat) h (fun x_ g_=>bA [(1,V.tp (cP p)),(4,ms 20 g_ 3 d5 x_.1),(5,vI x5),(6,V.tp (iZ x8)),(10,vM rI x18),(24,vM aD p.parts),(25,vI (p.parts.length:Int)),(26,vI x5),(52,ms 22 1 1 (rL rI) x9.1),(53,vI (x9.1.length:Int)),(54,vI x15),(62,vM aG x8.body),(63,vI (x8.body.length:Int)),(64,vI x_.2)] [(20,ar 38 g_ 3 d5 x_.1),(22,ar 27 1 1 (rL rI) x9.1)] [20,21,22]) g16 (lS) ?_)))
        rintro again23 ⟨x20,x21⟩ g22 h
        refine rq hC [] [65] [(65,vB (decide (x21<(x8.body.length:Int))))] [] [] (qs (aT h (fun c9 h=> ?_) (fun c9 h=> ?_)))
        ·refine qk (qs (qb ?_))
         obtain⟨x24,hx24,h⟩:=bd h
         refine rq hC [oR aG hx24,.z (.nat 23)] [11,12,66,67,68] [(11,vI x21),(12,V.ref 23 0)] [(23,some (E.cells (cV x24)))] [(23,true)] (qs ?_)
         obtain⟨x25,hx25,h⟩:=bd h
         refine rq hC [oV (uT G hx25)] (fr 69 5) [(73,vB (!x25))] [] [] (aT h (fun c10 h=> ?_) (fun c10 h=> ?_))
         ·obtain rfl:=so h
          exact rq hC [] [2,3] [(2,V.t T.nilS),(3,vB false)] [] [] (qw (lk hC [.grow 2 0 38] [2] [(2,ms 0 1 3 d5 [])] [(0,some (ar 38 1 3 d5 []))] [(0,true)]) (qr eW))
         ·refine qk ?_
          obtain⟨x26,hx26,x27,hx27,h⟩:=cT h
          exact rk hC [oC [] [24] (G.clone x18 hx26),.z (.at 4),.z (.fz 24 [78] []),.z (.int 0),oA (aO d5 hx27),oQ (bO (r:=d5) 3 L9 x20),oQ (bO (r:=d5) 3 L9 [(⟨x5,x21,x26⟩:Inst)])] [4,74,75,76,77,78,79,80,81] [(4,ms 20 (g22+1) 3 d5 x27)] [(24,none),(20,some (ar 38 (g22+1) 3 d5 x27))] [(24,true)] (rk hC [] [64,82] [(64,vI (wr (x21+1)))] [] [] ⟨(x27,wr (x21+1)),(g22+1),h,lS⟩)
        ·exact cQ (rk hC [] [54,83] [(54,vI (wr (x15+1)))] [] [] ⟨(x20,wr (x15+1)),g22,h,lS⟩)
      ·exact cQ (rk hC [] [26,84] [(26,vI (wr (x5+1)))] [] [] ⟨(x14,wr (x5+1)),g16,h,lS⟩)
   ·obtain rfl:=so h
    exact cQ (rq hC [oN d5 x4] [2,3,85,86,87,88] [(2,ms 20 g6 3 d5 x4),(3,vB (decide ((x4.length:Int)≤120)))] [] [] (qw (lk hC [.ren 2 20 0] [2] [(2,ms 0 1 3 d5 x4)] [(0,some (ar 38 1 3 d5 x4)),(20,none)] [(0,true)]) (qr eW)))
theorem b7{p}{r}(h:fE n p=some r):PQ G 28 [V.agg (bL p)] (vB r):=by
 unfold fE at h
 refine pq aN Tryz.func28 rfl fun w X hC=> ?_
 refine rq hC [.z (.b (true))] [1,2] [(1,V.tp (cP p))] [] [] ?_
 obtain⟨x1,hx1,h⟩:=bd h
 obtain rfl:=so h
 exact rq hC [oC [] [20] (q6 G hx1)] (fr 3 7) [(4,vB x1.2)] [(20,some (ar 38 1 3 d5 x1.1))] [(20,true)] (rq hC [] [2,10] [(2,vB x1.2)] [] [] (qr eR))
theorem eN(G:GS)(n:Nat)(s1:List Affine)(s2:List Affine)(eqF:FuncId)(eq:Affine→Affine→Option Bool)(heq: ∀(q0:Affine) (q1:Affine) r,eq q0 q1=some r→PQ G eqF [V.agg (aK q0),V.agg (aK q1)] (vB r)){r:Bool}(h:cI n s1 s2 eq=some r):PQ G 211 [vM aA s1,vM aA s2,V.fn eqF []] (vB r):=by
 unfold cI at h
 refine pq aN Tryz.func211 rfl fun w X hC=> ?_
 refine rq hC [] [6] [] [] [] (qs (rq hC [oN aA s1,oN aA s2] (fr 10 5) [(14,vB (!decide ((s1.length:Int)=(s2.length:Int))))] [] [] (aT h (fun c1 h=> ?_) (fun c1 h=> ?_))))
 ·obtain rfl:=so h
  exact rq hC [] [6] [(6,vB false)] [] [] (qr eR)
 ·refine qk (qs (rq hC [oN aA s1] [15,16,17] [(15,vM aA s1),(16,vI (s1.length:Int)),(17,vI 0)] [] [] (qb (jI h (fun x_=>bA [(1,vM aA s2),(2,V.fn eqF []),(15,vM aA s1),(16,vI (s1.length:Int)),(17,vI x_)] [] []) lS ?_))))
  rintro again2 x1 h
  refine rq hC [] [18] [(18,vB (decide (x1<(s1.length:Int))))] [] [] (qs (aT h (fun c2 h=> ?_) (fun c2 h=> ?_)))
  ·refine qk (qs (qb ?_))
   obtain⟨x3,hx3,h⟩:=bd h
   refine rq hC [oR aA hx3,.z (.nat 20)] [7,8,19,20,21] [(7,vI x1),(8,V.ref 20 0)] [(20,some (E.cells (aK x3)))] [(20,true)] ?_
   obtain⟨x4,hx4,h⟩:=bd h
   refine rq hC [oR aA hx4,.z (.nat 21)] [9,22,23,24,25] [(9,V.ref 21 0)] [(21,some (E.cells (aK x4)))] [(21,true)] ?_
   obtain⟨x5,hx5,h⟩:=bd h
   refine rq hC [oV (heq x3 x4 _ hx5)] (fr 26 5) [(30,vB (!x5))] [] [] (aT h (fun c3 h=> ?_) (fun c3 h=> ?_))
   ·obtain rfl:=so h
    exact rq hC [] [6] [(6,vB false)] [] [] (qr eR)
   ·exact qk (rk hC [] [17,31] [(17,vI (wr (x1+1)))] [] [] (lE h))
  ·obtain rfl:=so h
   exact cQ (rq hC [] [6] [(6,vB true)] [] [] (qr eR))
theorem oJ{s1}{s2}{r}(h:jB n s1 s2=some r):PQ G 118 [vM rI s1,vM rI s2] (vB r):=by
 unfold jB at h
 refine pq aN Tryz.func118 rfl fun w X hC=> ?_
 refine rq hC [] [4] [] [] [] (qs (rq hC [oN rI s1,oN rI s2] (fr 6 5) [(10,vB (!decide ((s1.length:Int)=(s2.length:Int))))] [] [] (aT h (fun c1 h=> ?_) (fun c1 h=> ?_))))
 ·obtain rfl:=so h
  exact rq hC [] [4] [(4,vB false)] [] [] (qr eR)
 ·refine qk (qs (rq hC [oN rI s1] [11,12,13] [(12,vI (s1.length:Int)),(13,vI 0)] [] [] (qb (jI h (fun x_=>bA [(0,vM rI s1),(1,vM rI s2),(12,vI (s1.length:Int)),(13,vI x_)] [] []) lS ?_))))
  rintro again2 x1 h
  refine rq hC [] [14] [(14,vB (decide (x1<(s1.length:Int))))] [] [] (qs (aT h (fun c2 h=> ?_) (fun c2 h=> ?_)))
  ·refine qk (qs (qb (rq hC [] [5,15] [(5,vI x1)] [] [] (qs ?_))))
   obtain⟨x3,hx3,x4,hx4,h⟩:=cT h
   refine dk hC bD [oR rI hx3,oR rI hx4] (fr 16 9) [(24,vB (!decide (x3=x4)))] [] [] (aT h (fun c3 h=> ?_) (fun c3 h=> ?_))
   ·obtain rfl:=so h
    exact rq hC [] [4] [(4,vB false)] [] [] (qr eR)
   ·exact qk (rk hC [] [13,25] [(13,vI (wr (x1+1)))] [] [] (lE h))
  ·obtain rfl:=so h
   exact cQ (rq hC [] [4] [(4,vB true)] [] [] (qr eR))
theorem d9(G:GS)(n:Nat)(a:Affine)(b:Affine){r:Bool}(h:b6 n a b=some r):PQ G 212 [V.agg (aK a),V.agg (aK b)] (vB r):=by
 unfold b6 at h
 refine pq aN Tryz.func212 rfl fun w X hC=> ?_
 refine rq hC [.z (.b (true)),.z (.b (true))] [2,3,4] [(2,V.tp (aQ a)),(3,V.tp (aQ b))] [] [] (vj h (fun x_=>bA [(4,vB x_)] [] []) (fun j1 h=> ?_) (fun x3 h=> ?_))
 ·
  obtain⟨x2,hx2,h⟩:=bd h
  refine aR h (fun c1 h=> ?_) (fun c1 h=> ?_)
  ·exact rk hC ([oV (oJ G hx2)]++rF 6 c1) (fr 4 13) [(4,vB false)] [] [] (lE h)
  ·exact rk hC ([oV (oJ G hx2)]++rT 6 c1) (fr 4 13) [(4,vB (decide (a.const=b.const)))] [] [] (lE h)
 ·obtain rfl:=so h
  exact qr eR
theorem kG{a}{b}{r}(h:hJ n a b=some r):PQ G 186 [V.agg (b8 a),V.agg (b8 b)] (vB r):=by
 unfold hJ at h
 refine pq aN Tryz.func186 rfl fun w X hC=> ?_
 refine rq hC [.z (.b (true)),.z (.b (true))] [2,3,4] [(2,V.tp (dC a)),(3,V.tp (dC b))] [] [] (vj h (fun x_=>bA [(4,vB x_)] [] []) (fun j1 h=> ?_) (fun x3 h=> ?_))
 ·
  refine aR h (fun c1 h=> ?_) (fun c1 h=> ?_)
  ·exact rk hC (rF 6 c1) (fr 4 13) [(4,vB false)] [] [] (lE h)
  ·obtain⟨x2,hx2,h⟩:=bd h
   exact rk hC (rT 5 c1++[oV (eN G n a.subs b.subs 212 (fun q0 q1=>b6 n q0 q1) (fun q0 q1 r h=>d9 G n q0 q1 h) hx2),oT c1]) (fr 4 13) [(4,vB x2)] [] [] (lE h)
 ·obtain rfl:=so h
  exact qr eR
theorem wB{s}{r}(h:pS n s=some r):VQ G 286 [] [vS s] (ms 0 1 1 rS r) [ar 9 1 1 rS r]:=by
 unfold pS at h
 refine vq aN Tryz.func286 rfl fun w X β0 hC hg=> ?_
 refine rq hC [] [2] [] [] [] ?_
 obtain⟨x1,hx1,h⟩:=bd h
 refine rq hC [oC [] [20] (uO G hx1)] [3,6,7] [(3,ms 20 1 1 rS x1)] [(20,some (ar 9 1 1 rS x1))] [(20,true)] (rq hC [.z (.nat 21)] [4,8] [(4,ms 21 1 1 rS [])] [(21,some (ar 9 1 1 rS []))] [(21,true)] (qs (rq hC [] [5] [(5,vI 0)] [] [] (qb (bC (γ:=Nat) h (fun x_ g_=>bA [(3,ms 20 1 1 rS x1),(4,ms 21 g_ 1 rS x_.1),(5,vI x_.2)] [(20,ar 9 1 1 rS x1),(21,ar 9 g_ 1 rS x_.1)] [20,21]) 1 (lS) ?_)))))
 rintro again5 ⟨x2,x3⟩ g4 h
 refine qs (rq hC [oN rS x1] (fr 9 4) [(12,vB (decide (x3<(x1.length:Int))))] [] [] (aT h (fun c1 h=> ?_) (fun c1 h=> ?_)))
 ·refine qk ?_
  obtain⟨j6,hj6,h⟩:=J9 h
  refine m4 (γ:=Nat) (j:=j6) (r:=r) (fun x_ g_=>bA [(3,ms 20 1 1 rS x1),(4,ms 21 g_ 1 rS x_),(5,vI x3)] [(20,ar 9 1 1 rS x1),(21,ar 9 g_ 1 rS x_)] [20,21]) ?_ ?_
  ·
   refine qb ?_
   obtain⟨x7,hx7,h⟩:=bd h
   refine rq hC [oQ (l7 rS hx7),oX rS hx7] (fr 15 5) [(19,vB (!decide (x7=[])))] [] [] (aT h (fun c2 h=> ?_) (fun c2 h=> ?_))
   ·obtain⟨x8,hx8,h⟩:=bd h
    exact rk hC [oQ (l7 rS hx7),oX rS hx7,.z (.int 0),oA (aO rS hx8),oQ (bO (r:=rS) 1 (fun _=>rfl) x2),oQ (bO (r:=rS) 1 (fun _=>rfl) [x7])] [4,20,21,22,23,24,25,26] [(4,ms 21 (g4+1) 1 rS x8)] [(21,some (ar 9 (g4+1) 1 rS x8))] [] ⟨x8,(g4+1),h,lS⟩
   ·exact qk ⟨x2,g4,h,lS⟩
  ·rintro x9 g10 h
   subst hj6
   exact rk hC [] [5,13,14] [(5,vI (wr (x3+1)))] [] [] ⟨(x9,wr (x3+1)),g10,h,lS⟩
 ·obtain rfl:=so h
  exact cQ (rq hC [] [2,27] [(2,ms 21 g4 1 rS x2)] [] [] (qw (lk hC [.ren 2 21 0] [2] [(2,ms 0 1 1 rS x2)] [(0,some (ar 9 1 1 rS x2)),(21,none)] [(0,true)]) (qr eW)))
theorem aCb{line}{r}(h:z7 n line=some r):PQ G 288 [vS line] (V.agg (jF r)):=by
 unfold z7 at h
 refine pq aN Tryz.func288 rfl fun w X hC=> ?_
 refine rq hC [.z (.nat 20)] [2] [(2,V.ref 20 0)] [(20,sc [V.t T.nilS,V.t T.nilS])] [(20,true)] ?_
 obtain⟨x1,hx1,h⟩:=bd h
 refine rq hC [oC [] [21] (wB G hx1)] [3,4,5] [(3,ms 21 1 1 rS x1)] [(21,some (ar 9 1 1 rS x1))] [(21,true)] (qs (rq hC [oN rS x1] [6,7,8] [(8,vB (!decide ((x1.length:Int)=3)))] [] [] (aT h (fun c1 h=> ?_) (fun c1 h=> ?_))))
 ·obtain rfl:=so h
  exact rq hC [] [9] [] [(20,sc [V.t T.nilS,V.t T.nilS])] [] (qr eR)
 ·refine qk (qs ?_)
  obtain⟨x2,hx2,x3,hx3,x4,hx4,h⟩:=jH h
  obtain⟨x5,hx5,h⟩:=bd h
  obtain rfl:=so h
  exact dk hC bD [oQ (l7 rS hx2),oX rS hx2,oC [] [22] (l8 G hx3),oQ (l7 rS hx4),oX rS hx4,oC [] [23] (l8 G hx5)] (fr 10 9) [] [(22,some (ar 109 1 2 aA x3)),(23,some (ar 109 1 2 aA x5)),(20,sc [ms 22 1 2 aA x3,ms 23 1 2 aA x5])] [(22,true),(23,true)] (qw (lk hC [.fz 22 [] [20]] [] [] [(20,sc [vM aA x3,ms 23 1 2 aA x5]),(22,none)] []) (qw (lk hC [.fz 23 [] [20]] [] [] [(20,sc [vM aA x3,vM aA x5]),(23,none)] []) (qr eR)))
theorem aAv{w_a0}{r}(h:wT n w_a0=some r):PQ G 287 [vM rS w_a0] (V.agg [vS r.name,vM rI r.dims]):=by
 unfold wT at h
 refine pq aN Tryz.func287 rfl fun w X hC=> ?_
 refine rq hC [.z (.nat 20)] [2] [(2,V.ref 20 0)] [(20,sc [vS [],V.t T.nilS])] [(20,true)] (rq hC [.z (.nat 21)] [3,7] [(3,V.ref 21 0)] [(21,sc [vS [],V.t T.nilS])] [(21,true)] (qs (rq hC [] [4] [(4,vI 1)] [] [] (qb (qw (lk hC [.growc 21 1 22 3] [] [] [(22,some (ar 3 1 1 rI [])),(21,sc [vS [],ms 22 1 1 rI []])] [(22,true)]) ?_)))))
 refine bC (γ:=Nat) h (fun x_ g_=>bA [(0,vM rS w_a0),(2,V.ref 20 0),(3,V.ref 21 0),(4,vI x_.2.2)] [(20,E.cells [vS [],V.t T.nilS]),(21,E.cells [vS x_.1,ms 22 g_ 1 rI x_.2.1]),(22,ar 3 g_ 1 rI x_.2.1)] [20,21,22]) 1 (lS) ?_
 rintro again5 ⟨x1,x2,x3⟩ g4 h
 refine qs (vj h (fun x_=>bA [(0,vM rS w_a0),(2,V.ref 20 0),(3,V.ref 21 0),(4,vI x3),(15,vB x_)] [(20,E.cells [vS [],V.t T.nilS]),(21,E.cells [vS x1,ms 22 g4 1 rI x2]),(22,ar 3 g4 1 rI x2)] [20,21,22]) (fun j6 h=> ?_) (fun x7 h=> ?_))
 ·
  refine aR h (fun c1 h=> ?_) (fun c1 h=> ?_)
  ·exact rk hC ([oN rS w_a0]++rF 3 c1) (fr 8 8) [(15,vB false)] [] [] (lE h)
  ·exact rk hC ([oN rS w_a0]++rT 3 c1) (fr 8 8) [(15,vB (decide (x3≤4)))] [] [] (lE h)
 ·refine aT h (fun c2 h=> ?_) (fun c2 h=> ?_)
  ·refine qk ?_
   obtain⟨j8,hj8,h⟩:=J9 h
   refine m4 (γ:=Nat) (j:=j8) (r:=r) (fun x_ g_=>bA [(0,vM rS w_a0),(2,V.ref 20 0),(3,V.ref 21 0),(4,vI x3)] [(20,E.cells [vS [],V.t T.nilS]),(21,E.cells [vS x_.1,ms 22 g_ 1 rI x_.2]),(22,ar 3 g_ 1 rI x_.2)] [20,21,22]) ?_ ?_
   ·
    refine qb (qs (rq hC [] [18,19] [(19,vB (decide (x3=1)))] [] [] (aT h (fun c3 h=> ?_) (fun c3 h=> ?_))))
    ·obtain⟨x9,hx9,h⟩:=bd h
     exact rq hC [oR rS hx9] (fr 20 4) [] [(21,sc [vS x9,ms 22 g4 1 rI x2])] [] (cQ ⟨(x9,x2),g4,h,lS⟩)
    ·refine qk ?_
     obtain⟨x10,hx10,x11,hx11,h⟩:=cT h
     refine rq hC [oR rS hx10,oV (H9 G hx11)] [5,6,24,25,26,27,28,29,30,31] [(5,vI x11.1)] [] [] ?_
     obtain⟨x12,hx12,h⟩:=bd h
     exact rk hC [.z (.int 0),oA (aO rI hx12),oQ (bO (r:=rI) 1 (fun _=>rfl) x2),oQ (bO (r:=rI) 1 (fun _=>rfl) [x11.1])] (fr 32 6) [] [(22,some (ar 3 (g4+1) 1 rI x12)),(21,sc [vS x1,ms 22 (g4+1) 1 rI x12])] [] ⟨(x1,x12),(g4+1),h,lS⟩
   ·rintro⟨x13,x14⟩ g15 h
    subst hj8
    exact rk hC [] [4,16,17] [(4,vI (wr (x3+1)))] [] [] ⟨(x13,x14,wr (x3+1)),g15,h,lS⟩
  ·obtain rfl:=so h
   exact cQ (rq hC [.z (.at 2),.z (.fz 22 [] [21])] [38] [] [(21,sc [vS x1,vM rI x2]),(22,none),(20,sc [vS x1,vM rI x2])] [] (qr eR))
def sB:List Nd:=[⟨128,2,[(0,1),(1,2)]⟩,⟨147,2,[]⟩,⟨114,9,[]⟩]
theorem aB3(G:GS)(n:Nat)(p:Prog)(line:List UInt8)(g0 g1:Nat){r:Prog}(h:zY n p line=some r):VQ G 249 [ar 134 g0 2 aJ p.arrays,E.tree sB 0 g1 (List.map aD p.parts) []] [V.agg [ms 0 g0 2 aJ p.arrays,ms 1 g1 2 aD p.parts],vS line] (V.agg [ms 0 (g0+1) 2 aJ r.arrays,ms 1 (g1+1) 2 aD r.parts]) [ar 134 (g0+1) 2 aJ r.arrays,E.tree sB 0 (g1+1) (List.map aD r.parts) []]:=by
 unfold zY at h
 refine vq aN Tryz.func249 rfl fun w X β0 hC hg=> ?_
 refine rq hC [.z (.nat 20),.z (.nat 21)] [0,2,4] [(2,V.ref 20 0),(4,V.ref 21 0)] [(20,sc [ms 0 g0 2 aJ p.arrays,ms 1 g1 2 aD p.parts]),(21,sc [V.t T.nilS,V.t T.nilS])] [(20,true),(21,true)] ?_
 obtain⟨x1,hx1,h⟩:=bd h
 refine rq hC [oC [] [22] (wB G hx1)] [5,11,12] [(5,ms 22 1 1 rS x1)] [(22,some (ar 9 1 1 rS x1))] [(22,true)] (rq hC [oN aD p.parts] [6,13,14,15,16] [(6,vI (wr ((p.parts.length:Int)-1)))] [] [] (qw (lk hC [.fz 22 [5] []] [5] [(5,vM rS x1)] [(22,none)] []) (qs (qb (vj h (fun x_=>bA [(1,vS line),(2,V.ref 20 0),(4,V.ref 21 0),(5,vM rS x1),(6,vI (wr ((p.parts.length:Int)-1))),(17,vB x_)] [(0,ar 134 g0 2 aJ p.arrays),(1,E.tree sB 0 g1 (List.map aD p.parts) []),(20,E.cells [ms 0 g0 2 aJ p.arrays,ms 1 g1 2 aD p.parts]),(21,E.cells [V.t T.nilS,V.t T.nilS])] [0,1,20,21,22]) (fun j2 h=> ?_) (fun x4 h=> ?_))))))
 ·
  refine aR h (fun c1 h=> ?_) (fun c1 h=> ?_)
  ·exact rk hC ([oN rS x1]++rF 5 c1) (fr 17 10) [(17,vB false)] [] [] (lE h)
  ·obtain⟨x3,hx3,h⟩:=bd h
   exact rk hC ([oN rS x1,oT c1,oT c1,oR rS hx3]++rT 3 c1) (fr 17 10) [(17,vB (decide (x3=[97,114,114,97,121])))] [] [] (lE h)
 ·refine aT h (fun c2 h=> ?_) (fun c2 h=> ?_)
  ·obtain⟨x5,hx5,x6,hx6,h⟩:=cT h
   obtain rfl:=so h
   exact dk hC bD [oV (aAv G hx5),.z (.int 0),oA (aO aJ hx6),oQ (bO (r:=aJ) 2 fU p.arrays),oQ (bO (r:=aJ) 2 fU [x5])] (fr 27 7) [] [(0,some (ar 134 (g0+1) 2 aJ x6)),(20,sc [ms 0 (g0+1) 2 aJ x6,ms 1 g1 2 aD p.parts])] [] (rq hC [] [98] [] [(21,sc [ms 0 (g0+1) 2 aJ x6,ms 1 g1 2 aD p.parts])] [] (qw (dG 21 1 1 g1 g1 2 0 (List.map aD p.parts).length (e:=E.tree sB 0 g1 (List.map aD p.parts) []) (cs:=[ms 0 (g0+1) 2 aJ x6,ms 1 g1 2 aD p.parts]) rfl (by kernel_rfl) (by kernel_rfl) (by kernel_rfl) (by kernel_rfl) rfl rfl hg.2.1) (qr eW)))
  ·refine rq hC [] [34,35,36] [(34,vB (decide (line=[112,97,114,116])))] [] [] (aT h (fun c3 h=> ?_) (fun c3 h=> ?_))
   ·obtain⟨x7,hx7,h⟩:=bd h
    obtain rfl:=so h
    exact rk hC [.z (.at 4),.z (.growa 39 0 24 147),.z (.growa 39 1 25 114),.z (.lt 26 sB 0),.z (.rows (List.map aD (p.parts++[(⟨[],[]⟩:Part)]))),.z (.at 2),.z (.tre 24 sB 1),.z (.unf 1 24 (aD (⟨[],[]⟩:Part)) (List.map aD (p.parts++[(⟨[],[]⟩:Part)]))),.z (.tre 25 sB 2),.z (.unf 1 25 (aD (⟨[],[]⟩:Part)) (List.map aD x7)),.z (.len 41 (List.map aD x7).length),oQ (Eq.refl (ndOf sB 0)),oQ (aFL aD (⟨[],[]⟩:Part) hx7),oQ (bO (r:=aD) 2 bU p.parts),oQ (bO (r:=aD) 2 bU [(⟨[],[]⟩:Part)]),oQ (Eq.refl (List.map aC []).length),oQ (Eq.refl sB),oQ (R7 aD p.parts (⟨[],[]⟩:Part)),oQ (aEv aD p.parts (ph:=(⟨[],[]⟩:Part)) (y:=(⟨[],[]⟩:Part)) rfl),oQ (Eq.refl (List.map aG []).length),oQ (Eq.refl sB),oQ (R7 aD p.parts (⟨[],[]⟩:Part)),oQ (Y4 aD hx7 (ph:=(⟨[],[]⟩:Part)) rfl),oQ (aEL aD (⟨[],[]⟩:Part) hx7)] (fr 37 6) [] [(24,none),(25,none),(26,some (E.tree sB 0 1 (List.map aD [(⟨[],[]⟩:Part)]) [(0,0,ms 24 1 2 aC []),(0,1,ms 25 1 9 aG [])])),(1,some (E.tree sB 0 (g1+1) (List.map aD x7) [])),(20,sc [ms 0 g0 2 aJ p.arrays,ms 1 (g1+1) 2 aD x7])] [(24,true),(25,true),(26,true)] (rq hC [] [98] [] [(21,sc [ms 0 g0 2 aJ p.arrays,ms 1 (g1+1) 2 aD x7])] [] (qw (dG 21 0 0 g0 g0 2 0 (List.map aJ p.arrays).length (e:= .arr 134 g0 2 (List.map aJ p.arrays)) (cs:=[ms 0 g0 2 aJ p.arrays,ms 1 (g1+1) 2 aD x7]) rfl (by kernel_rfl) (by kernel_rfl) (by kernel_rfl) (by kernel_rfl) rfl rfl hg.1) (qr eW)))
   ·refine vj h (fun x_=>bA [(1,vS line),(2,V.ref 20 0),(4,V.ref 21 0),(6,vI (wr ((p.parts.length:Int)-1))),(43,vB x_)] [(0,ar 134 g0 2 aJ p.arrays),(1,E.tree sB 0 g1 (List.map aD p.parts) []),(20,E.cells [ms 0 g0 2 aJ p.arrays,ms 1 g1 2 aD p.parts]),(21,E.cells [V.t T.nilS,V.t T.nilS])] [0,1,20,21,22]) (fun j6 h=> ?_) (fun x8 h=> ?_)
    ·
     refine aR h (fun c4 h=> ?_) (fun c4 h=> ?_)
     ·exact rk hC (rF 4 c4++sF 5) (fr 43 14) [(43,vB false)] [] [] (lE h)
     ·refine aR h (fun c5 h=> ?_) (fun c5 h=> ?_)
      ·exact rk hC ([oT c4,oT c4,oN rS x1,oT c4,oT c4]++rF 5 c5) (fr 43 14) [(43,vB false)] [] [] (lE h)
      ·obtain⟨x7,hx7,h⟩:=bd h
       exact rk hC ([oT c4,oT c4,oN rS x1,oT c4,oT c4,oT c5,oT c5,oR rS hx7]++rT 3 c5) (fr 43 14) [(43,vB (decide (x7=[102,111,114])))] [] [] (lE h)
    ·refine aT h (fun c6 h=> ?_) (fun c6 h=> ?_)
     ·obtain⟨x9,hx9,h⟩:=bd h
      refine rq hC [.z (.foc 1 24 (0+Int.toNat (wr ((p.parts.length:Int)-1))) 0 (aD x9)),.z (.foc 1 25 (0+Int.toNat (wr ((p.parts.length:Int)-1))) 1 (aD x9)),oX aD hx9,.z (.nat 23),oQ (uB aD hx9),oQ (l7 aD hx9),oQ (uB aD hx9)] [7,57,58,59,60,61] [(7,V.ref 23 0)] [(1,some (E.tree sB 0 g1 (List.map aD p.parts) [((0+Int.toNat (wr ((p.parts.length:Int)-1))),1,ms 25 1 9 aG x9.body),((0+Int.toNat (wr ((p.parts.length:Int)-1))),0,ms 24 1 2 aC x9.nest)])),(24,some (E.tree sB 1 1 (List.map aC x9.nest) [])),(25,some (E.tree sB 2 1 (List.map aG x9.body) [])),(23,sc [ms 24 1 2 aC x9.nest,ms 25 1 9 aG x9.body])] [(24,true),(25,true),(23,true)] (qw (lk hC [.shd 24] [] [] [(24,some (ar 147 1 2 aC x9.nest))] []) (qs ?_))
      obtain⟨x10,hx10,x13,hx13,x14,hx14,h⟩:=jH h
      obtain rfl:=so h
      exact dk hC bD [oV (aCb G hx10),.z (.int 0),oA (aO aC hx13),oQ (bO (r:=aC) 2 bV x9.nest),oQ (bO (r:=aC) 2 bV [x10])] (fr 62 7) [] [(24,some (ar 147 2 2 aC x13)),(23,sc [ms 24 2 2 aC x13,ms 25 1 9 aG x9.body])] [] (rk hC [oQ (l7 aD hx9),oX aD hx9,.z (.unf 1 25 (aD x9) (List.map aD p.parts)),.z (.tre 24 sB 1),.z (.unf 1 24 (aD x9) (List.map aD x14)),.z (.lenc 20 1 (List.map aD x14).length),oQ (Eq.refl (List.map aG x9.body).length),oQ (Eq.refl sB),oQ (uB aD hx9),oQ (Y5 aD hx9 rfl),oQ (Eq.refl (List.map aC x13).length),oQ (Eq.refl sB),oQ (uB aD hx9),oQ (J6 aD hx14 rfl),oQ (jV aD hx14)] (fr 69 5) [] [(24,none),(25,none),(1,some (E.tree sB 0 g1 (List.map aD x14) [])),(20,sc [ms 0 g0 2 aJ p.arrays,ms 1 g1 2 aD x14])] [] (rq hC [] [98] [] [(21,sc [ms 0 g0 2 aJ p.arrays,ms 1 g1 2 aD x14])] [] (qw (dG 21 0 0 g0 g0 2 0 (List.map aJ p.arrays).length (e:= .arr 134 g0 2 (List.map aJ p.arrays)) (cs:=[ms 0 g0 2 aJ p.arrays,ms 1 g1 2 aD x14]) rfl (by kernel_rfl) (by kernel_rfl) (by kernel_rfl) (by kernel_rfl) rfl rfl hg.1) (qw (dG 21 1 1 g1 g1 2 0 (List.map aD x14).length (e:=E.tree sB 0 g1 (List.map aD x14) []) (cs:=[ms 0 (g0+1) 2 aJ p.arrays,ms 1 g1 2 aD x14]) rfl (by kernel_rfl) (by kernel_rfl) (by kernel_rfl) (by kernel_rfl) rfl rfl hg.2.1) (qr eW)))))
     ·refine rq hC [] [74,75,76] [(74,vB (decide ((0:Int)≤wr ((p.parts.length:Int)-1))))] [] [] (aT h (fun c7 h=> ?_) (fun c7 h=> ?_))
      ·obtain⟨x11,hx11,h⟩:=bd h
       refine rq hC [.z (.foc 1 25 (0+Int.toNat (wr ((p.parts.length:Int)-1))) 1 (aD x11)),.z (.foc 1 26 (0+Int.toNat (wr ((p.parts.length:Int)-1))) 0 (aD x11)),oX aD hx11,.z (.nat 23),oQ (uB aD hx11),oQ (l7 aD hx11),oQ (uB aD hx11)] [8,77,78,79,80,81] [(8,V.ref 23 0)] [(1,some (E.tree sB 0 g1 (List.map aD p.parts) [((0+Int.toNat (wr ((p.parts.length:Int)-1))),0,ms 26 1 2 aC x11.nest),((0+Int.toNat (wr ((p.parts.length:Int)-1))),1,ms 25 1 9 aG x11.body)])),(25,some (E.tree sB 2 1 (List.map aG x11.body) [])),(26,some (E.tree sB 1 1 (List.map aC x11.nest) [])),(23,sc [ms 26 1 2 aC x11.nest,ms 25 1 9 aG x11.body])] [(25,true),(26,true),(23,true)] (qw (lk hC [.shd 25] [] [] [(25,some (ar 114 1 9 aG x11.body))] []) ?_)
       obtain⟨x12,hx12,h⟩:=bd h
       refine rq hC [oV (tO G hx12),.z (.nat 24)] [9,10,82,83,84,85,86] [(9,V.ref 24 0)] [(24,some (E.cells (cV x12.1)))] [(24,true)] ?_
       obtain⟨x15,hx15,x16,hx16,h⟩:=cT h
       obtain rfl:=so h
       exact rq hC [.z (.int 0),oA (aO aG hx15),oQ (bO (r:=aG) 9 dI x11.body),oQ (bO (r:=aG) 9 dI [x12.1])] (fr 87 6) [] [(25,some (ar 114 2 9 aG x15)),(23,sc [ms 26 1 2 aC x11.nest,ms 25 2 9 aG x15])] [] (rk hC [oQ (l7 aD hx11),oX aD hx11,.z (.unf 1 26 (aD x11) (List.map aD p.parts)),.z (.tre 25 sB 2),.z (.unf 1 25 (aD x11) (List.map aD x16)),.z (.lenc 20 1 (List.map aD x16).length),oQ (Eq.refl (List.map aC x11.nest).length),oQ (Eq.refl sB),oQ (uB aD hx11),oQ (Y5 aD hx11 rfl),oQ (Eq.refl (List.map aG x15).length),oQ (Eq.refl sB),oQ (uB aD hx11),oQ (J6 aD hx16 rfl),oQ (jV aD hx16)] (fr 93 5) [] [(25,none),(26,none),(1,some (E.tree sB 0 g1 (List.map aD x16) [])),(20,sc [ms 0 g0 2 aJ p.arrays,ms 1 g1 2 aD x16])] [] (rq hC [] [98] [] [(21,sc [ms 0 g0 2 aJ p.arrays,ms 1 g1 2 aD x16])] [] (qw (dG 21 0 0 g0 g0 2 0 (List.map aJ p.arrays).length (e:= .arr 134 g0 2 (List.map aJ p.arrays)) (cs:=[ms 0 g0 2 aJ p.arrays,ms 1 g1 2 aD x16]) rfl (by kernel_rfl) (by kernel_rfl) (by kernel_rfl) (by kernel_rfl) rfl rfl hg.1) (qw (dG 21 1 1 g1 g1 2 0 (List.map aD x16).length (e:=E.tree sB 0 g1 (List.map aD x16) []) (cs:=[ms 0 (g0+1) 2 aJ p.arrays,ms 1 g1 2 aD x16]) rfl (by kernel_rfl) (by kernel_rfl) (by kernel_rfl) (by kernel_rfl) rfl rfl hg.2.1) (qr eW)))))
      ·obtain rfl:=so h
       exact qk (rq hC [] [98] [] [(21,sc [ms 0 g0 2 aJ p.arrays,ms 1 g1 2 aD p.parts])] [] (qw (dG 21 0 0 g0 g0 2 0 (List.map aJ p.arrays).length (e:= .arr 134 g0 2 (List.map aJ p.arrays)) (cs:=[ms 0 g0 2 aJ p.arrays,ms 1 g1 2 aD p.parts]) rfl (by kernel_rfl) (by kernel_rfl) (by kernel_rfl) (by kernel_rfl) rfl rfl hg.1) (qw (dG 21 1 1 g1 g1 2 0 (List.map aD p.parts).length (e:=E.tree sB 0 g1 (List.map aD p.parts) []) (cs:=[ms 0 (g0+1) 2 aJ p.arrays,ms 1 g1 2 aD p.parts]) rfl (by kernel_rfl) (by kernel_rfl) (by kernel_rfl) (by kernel_rfl) rfl rfl hg.2.1) (qr eW))))
theorem aB8{nest}{r}(h:zZ n nest=some r):PQ G 290 [vM aC nest] (vS r):=by
 unfold zZ at h
 refine pq aN Tryz.func290 rfl fun w X hC=> ?_
 refine rq hC [] [2] [] [] [] (rq hC [] [3] [(3,vS [])] [] [] (qs (rq hC [] [4] [(4,vI 0)] [] [] (qb (jI h (fun x_=>bA [(0,vM aC nest),(3,vS x_.1),(4,vI x_.2)] [] []) lS ?_)))))
 rintro again3 ⟨x1,x2⟩ h
 refine qs (rq hC [oN aC nest] (fr 5 4) [(8,vB (decide (x2<(nest.length:Int))))] [] [] (aT h (fun c1 h=> ?_) (fun c1 h=> ?_)))
 ·refine qk (qs (qb ?_))
  obtain⟨x4,hx4,x5,hx5,x6,hx6,h⟩:=jH h
  obtain⟨x7,hx7,x8,hx8,x9,hx9,h⟩:=jH h
  obtain⟨x10,hx10,x11,hx11,h⟩:=cT h
  exact dk hC bD [oS hx4,oR aC hx5,oV (nS G hx6),oS hx7,oS hx8,oR aC hx5,oV (nS G hx9),oS hx10,oS hx11] [3,11,12,13,14,15,16,17,18,19,20,21,22,23,24,25,26,27,28] [(3,vS x11)] [] [] (rk hC [] [4,9,10] [(4,vI (wr (x2+1)))] [] [] (lE h))
 ·obtain rfl:=so h
  exact cQ (rq hC [] [2,29] [(2,vS x1)] [] [] (qr eR))
theorem wD{p}{r}(h:l4 n p=some r):PQ G 250 [V.agg (bL p)] (vS r):=by
 unfold l4 at h
 refine pq aN Tryz.func250 rfl fun w X hC=> ?_
 refine rq hC [.z (.b (true))] [1,2] [(1,V.tp (cP p))] [] [] (qs ?_)
 obtain⟨x1,hx1,h⟩:=bd h
 refine rq hC [oV (cM G hx1)] [9,10,11] [(11,vB (!x1))] [] [] (aT h (fun c1 h=> ?_) (fun c1 h=> ?_))
 ·obtain rfl:=so h
  exact rq hC [] [2] [(2,vS [])] [] [] (qr eR)
 ·refine qk (rq hC [] [3] [(3,vS [112,114,111,103,114,97,109,10])] [] [] (qs (rq hC [] [4] [(4,vI 0)] [] [] (qb (jI h (fun x_=>bA [(1,V.tp (cP p)),(3,vS x_.1),(4,vI x_.2)] [] []) lS ?_)))))
  rintro again4 ⟨x2,x3⟩ h
  refine qs (rq hC [oN aJ p.arrays] (fr 12 5) [(16,vB (decide (x3<(p.arrays.length:Int))))] [] [] (aT h (fun c2 h=> ?_) (fun c2 h=> ?_)))
  ·refine qk (qs (qb ?_))
   obtain⟨x5,hx5,x6,hx6,x7,hx7,h⟩:=jH h
   refine rq hC [oS hx5,oR aJ hx6,oS hx7] [3,19,20,21,22,23,24,25,26,27] [(3,vS x7)] [] [] (qs (rq hC [] [5] [(5,vI 0)] [] [] (qb (jI h (fun x_=>bA [(1,V.tp (cP p)),(3,vS x_.1),(4,vI x3),(5,vI x_.2)] [] []) lS ?_))))
   rintro again10 ⟨x8,x9⟩ h
   refine qs (rq hC [oR aJ hx6,oN rI x6.dims] (fr 28 9) [(36,vB (decide (x9<(x6.dims.length:Int))))] [] [] (aT h (fun c3 h=> ?_) (fun c3 h=> ?_)))
   ·refine qk (qs (qb ?_))
    obtain⟨x11,hx11,x12,hx12,x13,hx13,h⟩:=jH h
    obtain⟨x14,hx14,h⟩:=bd h
    exact rk hC [oS hx11,oR aJ hx6,oR rI hx12,oV (qP G n x12 hx13),oS hx14] [3,39,40,41,42,43,44,45,46,47,48,49,50,51] [(3,vS x14)] [] [] (rk hC [] [5,37,38] [(5,vI (wr (x9+1)))] [] [] (lE h))
   ·refine cQ ?_
    obtain⟨x15,hx15,h⟩:=bd h
    exact rk hC [oS hx15] [3,52,53] [(3,vS x15)] [] [] (rk hC [] [4,17,18] [(4,vI (wr (x3+1)))] [] [] (lE h))
  ·refine cQ (qs (rq hC [] [6] [(6,vI 0)] [] [] (qb (jI h (fun x_=>bA [(1,V.tp (cP p)),(3,vS x_.1),(6,vI x_.2)] [] []) lS ?_))))
   rintro again18 ⟨x16,x17⟩ h
   refine qs (rq hC [oN aD p.parts] (fr 54 5) [(58,vB (decide (x17<(p.parts.length:Int))))] [] [] (aT h (fun c4 h=> ?_) (fun c4 h=> ?_)))
   ·refine qk (qs (qb ?_))
    obtain⟨x19,hx19,x20,hx20,x21,hx21,h⟩:=jH h
    obtain⟨x22,hx22,h⟩:=bd h
    refine rq hC [oS hx19,oR aD hx20,oV (aB8 G hx21),oS hx22] [3,61,62,63,64,65,66,67,68,69,70] [(3,vS x22)] [] [] (rq hC [] [7] [(7,vI 0)] [] [] (qb (jI h (fun x_=>bA [(1,V.tp (cP p)),(3,vS x_.1),(6,vI x17),(7,vI x_.2)] [] []) lS ?_)))
    rintro again25 ⟨x23,x24⟩ h
    refine qs (rq hC [oR aD hx20,oN aG x20.body] (fr 71 9) [(79,vB (decide (x24<(x20.body.length:Int))))] [] [] (aT h (fun c5 h=> ?_) (fun c5 h=> ?_)))
    ·refine qk (qs (qb ?_))
     obtain⟨x26,hx26,h⟩:=bd h
     refine rq hC [oR aD hx20,oR aG hx26,.z (.nat 20)] [8,82,83,84,85,86,87,88,89,90] [(8,V.ref 20 0)] [(20,some (E.cells (cV x26)))] [(20,true)] ?_
     obtain⟨x27,hx27,x28,hx28,x29,hx29,h⟩:=jH h
     obtain⟨x30,hx30,x31,hx31,x32,hx32,h⟩:=jH h
     exact dk hC bD [oV (lC G hx27),oS hx28,oS hx29,oV (G8 G n x26.value hx30),oS hx31,oS hx32] [3,91,92,93,94,95,96,97,98,99,100,101] [(3,vS x32)] [] [] (rk hC [] [7,80,81] [(7,vI (wr (x24+1)))] [] [] (lE h))
    ·exact cQ (rk hC [] [6,59,60] [(6,vI (wr (x17+1)))] [] [] (lE h))
   ·obtain rfl:=so h
    exact cQ (rq hC [] [2,102] [(2,vS x16)] [] [] (qr eR))
theorem xQ{text}{r}(h:d4 n text=some r):PQ G 191 [vS text] (V.tup [V.agg (bL r.1),vB r.2]):=by
 unfold d4 at h
 refine pq aN Tryz.func191 rfl fun w X hC=> ?_
 refine rq hC [.z (.nat 20)] [2,3] [(2,V.ref 20 0)] [(20,sc [V.t T.nilS,V.t T.nilS])] [(20,true)] ?_
 obtain⟨x1,hx1,h⟩:=bd h
 refine rq hC [oC [] [21] (uO G hx1)] [4,7,8] [(4,ms 21 1 1 rS x1)] [(21,some (ar 9 1 1 rS x1))] [(21,true)] (rq hC [.z (.nat 22)] [5,9] [(5,V.ref 22 0)] [(22,sc [V.t T.nilS,V.t T.nilS])] [(22,true)] (qs (rq hC [oN rS x1] [10,11,12] [(12,vB (decide ((42:Int)<(x1.length:Int))))] [] [] (aT h (fun c1 h=> ?_) (fun c1 h=> ?_)))))
 ·obtain rfl:=so h
  exact rq hC [] [3,13] [(3,vB false)] [(20,sc [V.t T.nilS,V.t T.nilS])] [] (qr eR)
 ·refine qk (qs (rq hC [] [6] [(6,vI 1)] [] [] (qb (qw (lk hC [.growc 22 0 23 134,.growc 22 1 24 128,.tre 24 sB 0] [] [] [(23,some (ar 134 1 2 aJ [])),(24,some (E.tree sB 0 1 (List.map aD []) [])),(22,sc [ms 23 1 2 aJ [],ms 24 1 2 aD []])] [(23,true),(24,true)]) (bC (γ:=Nat×Nat) h (fun x_ g_=>bA [(0,vS text),(2,V.ref 20 0),(4,ms 21 1 1 rS x1),(5,V.ref 22 0),(6,vI x_.2.2)] [(20,E.cells [V.t T.nilS,V.t T.nilS]),(21,ar 9 1 1 rS x1),(22,E.cells [ms 23 g_.1 2 aJ x_.1,ms 24 g_.2 2 aD x_.2.1]),(23,ar 134 g_.1 2 aJ x_.1),(24,E.tree sB 0 g_.2 (List.map aD x_.2.1) [])] [20,21,22,23,24]) (1,1) (lS) ?_)))))
  rintro again5 ⟨x2,x3,x4⟩ ⟨g5,g6⟩ h
  refine qs (rq hC [oN rS x1] (fr 14 5) [(18,vB (decide (wr (x4+1)<(x1.length:Int))))] [] [] (aT h (fun c2 h=> ?_) (fun c2 h=> ?_)))
  ·refine qk (qs (qb ?_))
   obtain⟨x6,hx6,x7,hx7,h⟩:=cT h
   exact dk hC bD [oQ (l7 rS hx6),oX rS hx6,oC [23,24] [] (aB3 G n (⟨x2,x3⟩:Prog) x6 g5 g6 hx7)] (fr 21 6) [] [(23,some (ar 134 (g5+1) 2 aJ x7.arrays)),(24,some (E.tree sB 0 (g6+1) (List.map aD x7.parts) [])),(22,sc [ms 23 (g5+1) 2 aJ x7.arrays,ms 24 (g6+1) 2 aD x7.parts])] [(23,true),(24,true)] (rk hC [] [6,19,20] [(6,vI (wr (x4+1)))] [] [] ⟨(x7.arrays,x7.parts,wr (x4+1)),(g5+1,g6+1),h,lS⟩)
  ·refine cQ (qs (vj h (fun x_=>bA [(2,V.ref 20 0),(5,V.ref 22 0),(34,vB x_)] [(20,E.cells [V.t T.nilS,V.t T.nilS]),(21,ar 9 1 1 rS x1),(22,E.cells [ms 23 g5 2 aJ x2,ms 24 g6 2 aD x3]),(23,ar 134 g5 2 aJ x2),(24,E.tree sB 0 g6 (List.map aD x3) [])] [20,21,22,23,24]) (fun j8 h=> ?_) (fun x10 h=> ?_)))
   ·
    refine aR h (fun c3 h=> ?_) (fun c3 h=> ?_)
    ·obtain⟨x9,hx9,h⟩:=bd h
     exact rk hC ([oF c3,oF c3,.z (.b true),.z (.nat 23),.z (.nat 24),oV (wD G hx9)]++rF 3 c3) (fr 27 8) [(34,vB (!decide (x9=text)))] [] [] (lE h)
    ·exact rk hC (rT 5 c3) (fr 27 8) [(34,vB true)] [] [] (lE h)
   ·refine aT h (fun c4 h=> ?_) (fun c4 h=> ?_)
    ·obtain rfl:=so h
     exact rq hC [] [3,35] [(3,vB false)] [(20,sc [V.t T.nilS,V.t T.nilS])] [] (qr eR)
    ·obtain rfl:=so h
     exact qk (qs (qw (lk hC [.fz 23 [] [22],.shd 24,.fz 24 [] [22]] [] [] [(22,sc [vM aJ x2,vM aD x3]),(23,none),(24,none)] []) (rk hC [] [3,36] [(3,vB true)] [(20,sc [vM aJ x2,vM aD x3])] [] (qr eR))))
theorem aBZ{r_a0}{r}(h:rG n r_a0=some r):VQ G 192 [eL r_a0] [V.ref 0 0] (V.agg (bL r.1)) [eL r.2]:=by
 unfold rG at h
 refine vq aN Tryz.func192 rfl fun w X β0 hC hg=> ?_
 refine rq hC [.z (.nat 20)] [2] [(2,V.ref 20 0)] [(20,sc [V.t T.nilS,V.t T.nilS])] [(20,true)] ?_
 obtain⟨x1,hx1,h⟩:=bd h
 refine rq hC [.z (.int 0),oC [0] [] (mM G hx1)] [3,6,7,8] [(3,vS x1.1)] [(0,sR x1.2)] [(0,true)] ?_
 obtain⟨x2,hx2,x3,hx3,h⟩:=cT h
 refine rq hC [oS hx2,oV (xQ G hx3),.z (.nat 21)] [4,5,9,10,11,12,13,14] [(4,V.ref 21 0),(5,vB x3.2)] [(21,some (E.cells (bL x3.1)))] [(21,true)] (qs (vj h (fun x_=>bA [(0,V.ref 0 0),(2,V.ref 20 0),(4,V.ref 21 0),(20,vB x_.2.2)] [(0,E.cells [vM rY x_.1,vI x_.2.1]),(20,E.cells [V.t T.nilS,V.t T.nilS]),(21,E.cells (bL x3.1))] [0,20,21]) (fun j4 h=> ?_) ?_))
 ·
  refine aR h (fun c1 h=> ?_) (fun c1 h=> ?_)
  ·exact rk hC (rF 4 c1) (fr 15 6) [(20,vB false)] [] [] (lE h)
  ·obtain⟨x5,hx5,h⟩:=bd h
   exact rk hC [oT c1,oT c1,oC [0] [] (bK G hx5),oT c1,oT c1] (fr 15 6) [(20,vB (decide ((0:Int)<x5.1)))] [(0,sR x5.2)] [(0,true)] (lE h)
 ·rintro⟨x6,x7,x8⟩ h
  refine aT h (fun c2 h=> ?_) (fun c2 h=> ?_)
  ·obtain rfl:=so h
   exact rq hC [] [21] [] [(20,some (E.cells (bL x3.1)))] [] (qr eW)
  ·refine qk ?_
   obtain⟨x9,hx9,h⟩:=bd h
   obtain rfl:=so h
   exact rq hC [oC [0] [] (aB4 G hx9)] [22,23] [] [(0,sR x9.2),(20,some (E.cells (bL x9.1)))] [(0,true)] (qr eW)
theorem qX{a}{r}(h:cL n a=some r):VQ G 216 [] [V.agg (aK a)] (V.agg [ms 0 1 1 rI r.coefs,vI r.const]) [ar 3 1 1 rI r.coefs]:=by
 unfold cL at h
 refine vq aN Tryz.func216 rfl fun w X β0 hC hg=> ?_
 refine rq hC [.z (.b (true)),.z (.nat 20)] [1,2] [(1,V.tp (aQ a)),(2,V.ref 20 0)] [(20,sc [V.t T.nilS,vI 0])] [(20,true)] (qs ?_)
 obtain⟨x1,hx1,h⟩:=bd h
 obtain rfl:=so h
 exact dk hC bD [oC [] [21] (G.clone a.coefs hx1)] (fr 3 6) [] [(21,some (ar 3 1 1 rI x1)),(20,sc [ms 21 1 1 rI x1,vI a.const])] [(21,true)] (qw (lk hC [.rn 21 0 [] [20]] [] [] [(20,sc [ms 0 1 1 rI x1,vI a.const]),(21,none),(0,some (ar 3 1 1 rI x1))] [(0,true)]) (qr eW))
theorem tQ(G:GS)(n:Nat)(a:Affine){r:Affine}(h:cL n a=some r):PQ G 216 [V.agg (aK a)] (V.agg (aK r)):=by
 unfold cL at h
 refine pq aN Tryz.func216 rfl fun w X hC=> ?_
 refine rq hC [.z (.b (true)),.z (.nat 20)] [1,2] [(1,V.tp (aQ a)),(2,V.ref 20 0)] [(20,sc [V.t T.nilS,vI 0])] [(20,true)] (qs ?_)
 obtain⟨x1,hx1,h⟩:=bd h
 obtain rfl:=so h
 exact dk hC bD [oC [] [21] (G.clone a.coefs hx1)] (fr 3 6) [] [(21,some (ar 3 1 1 rI x1)),(20,sc [ms 21 1 1 rI x1,vI a.const])] [(21,true)] (qw (lk hC [.fz 21 [] [20]] [] [] [(20,sc [vM rI x1,vI a.const]),(21,none)] []) (qr eR))
theorem tR(G:GS)(n:Nat)(a:Access)(changeF:FuncId)(change:Affine→Option Affine)(hchange: ∀(q0:Affine) r,change q0=some r→PQ G changeF [V.agg (aK q0)] (V.agg (aK r))){r:Access}(h:fH n a change=some r):PQ G 267 [V.agg (b8 a),V.fn changeF []] (V.agg (b8 r)):=by
 unfold fH at h
 refine pq aN Tryz.func267 rfl fun w X hC=> ?_
 refine rq hC [.z (.b (true)),.z (.nat 20)] [2,4] [(2,V.tp (dC a)),(4,V.ref 20 0)] [(20,sc [vS [],V.t T.nilS])] [(20,true)] (rq hC [.z (.nat 21)] [5,8,9,10] [(5,V.ref 21 0)] [(21,sc [vS a.array,V.t T.nilS])] [(21,true)] (qs (rq hC [oN aA a.subs] (fr 11 4) [(12,vM aA a.subs),(13,vI (a.subs.length:Int)),(14,vI 0)] [] [] (qb (qw (lk hC [.growc 21 1 22 109] [] [] [(22,some (ar 109 1 2 aA [])),(21,sc [vS a.array,ms 22 1 2 aA []])] [(22,true)]) ?_)))))
 refine bC (γ:=Nat) h (fun x_ g_=>bA [(1,V.fn changeF []),(4,V.ref 20 0),(5,V.ref 21 0),(12,vM aA a.subs),(13,vI (a.subs.length:Int)),(14,vI x_.2)] [(20,E.cells [vS [],V.t T.nilS]),(21,E.cells [vS a.array,ms 22 g_ 2 aA x_.1]),(22,ar 109 g_ 2 aA x_.1)] [20,21,22]) 1 (lS) ?_
 rintro again4 ⟨x1,x2⟩ g3 h
 refine rq hC [] [15] [(15,vB (decide (x2<(a.subs.length:Int))))] [] [] (qs (aT h (fun c1 h=> ?_) (fun c1 h=> ?_)))
 ·refine qk (qs (qb ?_))
  obtain⟨x5,hx5,h⟩:=bd h
  refine rq hC [oR aA hx5,.z (.nat 23)] [7,16,17] [(7,V.ref 23 0)] [(23,some (E.cells (aK x5)))] [(23,true)] ?_
  obtain⟨x6,hx6,x7,hx7,h⟩:=cT h
  exact dk hC bD [oV (hchange x5 _ hx6),.z (.int 0),oA (aO aA hx7),oQ (bO (r:=aA) 2 aS x1),oQ (bO (r:=aA) 2 aS [x6])] (fr 18 8) [] [(22,some (ar 109 (g3+1) 2 aA x7)),(21,sc [vS a.array,ms 22 (g3+1) 2 aA x7])] [] (rk hC [] [14,26] [(14,vI (wr (x2+1)))] [] [] ⟨(x7,wr (x2+1)),(g3+1),h,lS⟩)
 ·obtain rfl:=so h
  exact cQ (rq hC [.z (.at 2),.z (.fz 22 [] [21])] [27] [] [(21,sc [vS a.array,vM aA x1]),(22,none),(20,sc [vS a.array,vM aA x1])] [] (qr eR))
theorem aAM(G:GS): ∀(n:Nat) (e:Expr) (changeF:FuncId) (change:Affine→Option Affine) (hchange: ∀(q0:Affine) r,change q0=some r→PQ G changeF [V.agg (aK q0)] (V.agg (aK r))) {r:Expr} (h:i_exprMap n e change=some r),PQ G 268 [V.agg (cN e),V.fn changeF []] (V.agg (cN r)):=by
 intro n
 induction n with
 |zero=>intro e changeF change hchange r h;rw [i_exprMap.eq_def] at h;cases h
 |succ n ih=>
  intro e changeF change hchange r h
  rw [i_exprMap.eq_def] at h;dsimp only at h
  refine pq aN Tryz.func268 rfl fun w X hC=> ?_
  refine rq hC [.z (.b (true)),.z (.nat 20)] [2,4] [(2,V.tp (eU e)),(4,V.ref 20 0)] [(20,sc [vI 0,vI 0,V.t T.nilS,vI 0,vS [],V.t T.nilS,V.t T.nilS])] [(20,true)] (rq hC [.z (.nat 21)] [5,8,9,10,11,12] [(5,V.ref 21 0)] [(21,sc [vI e.kind,vI e.num,V.t T.nilS,vI 0,vS [],V.t T.nilS,V.t T.nilS])] [(21,true)] (vj h (fun x_=>bA [(1,V.fn changeF []),(2,V.tp (eU e)),(4,V.ref 20 0),(5,V.ref 21 0)] [(20,E.cells [vI 0,vI 0,V.t T.nilS,vI 0,vS [],V.t T.nilS,V.t T.nilS]),(21,E.cells [vI e.kind,vI e.num,vM rI x_.1,vI x_.2.1,vS x_.2.2.1,vM aA x_.2.2.2,V.t T.nilS])] [20,21]) (fun j1 h=> ?_) ?_))
  ·
   refine rq hC [] [13,14] [(14,vI e.kind)] [] [] (qb (rq hC [] [15,16] [(15,vB (decide (e.kind=2)))] [] [] (aT h (fun c1 h=> ?_) (fun c1 h=> ?_))))
   ·obtain⟨x2,hx2,h⟩:=bd h
    exact rk hC [oV (hchange e.index _ hx2)] (fr 17 5) [] [(21,sc [vI e.kind,vI e.num,vM rI x2.coefs,vI x2.const,vS [],V.t T.nilS,V.t T.nilS])] [] (lE h)
   ·refine rq hC [] [22,23] [(22,vB (decide (e.kind=3)))] [] [] (aT h (fun c2 h=> ?_) (fun c2 h=> ?_))
    ·obtain⟨x3,hx3,h⟩:=bd h
     exact rk hC [oV (tR G n e.read changeF change hchange hx3)] (fr 24 5) [] [(21,sc [vI e.kind,vI e.num,V.t T.nilS,vI 0,vS x3.array,vM aA x3.subs,V.t T.nilS])] [] (lE h)
    ·exact qk (lE h)
  ·rintro⟨x4,x5,x6,x7⟩ h
   refine qs (rq hC [oN aH e.kids] (fr 29 4) [(30,vM aH e.kids),(31,vI (e.kids.length:Int)),(32,vI 0)] [] [] (qb (qw (lk hC [.growc 21 6 22 112] [] [] [(22,some (ar 112 1 7 aH [])),(21,sc [vI e.kind,vI e.num,vM rI x4,vI x5,vS x6,vM aA x7,ms 22 1 7 aH []])] [(22,true)]) (bC (γ:=Nat) h (fun x_ g_=>bA [(1,V.fn changeF []),(4,V.ref 20 0),(5,V.ref 21 0),(30,vM aH e.kids),(31,vI (e.kids.length:Int)),(32,vI x_.2)] [(20,E.cells [vI 0,vI 0,V.t T.nilS,vI 0,vS [],V.t T.nilS,V.t T.nilS]),(21,E.cells [vI e.kind,vI e.num,vM rI x4,vI x5,vS x6,vM aA x7,ms 22 g_ 7 aH x_.1]),(22,ar 112 g_ 7 aH x_.1)] [20,21,22]) 1 (lS) ?_))))
   rintro again11 ⟨x8,x9⟩ g10 h
   refine rq hC [] [33] [(33,vB (decide (x9<(e.kids.length:Int))))] [] [] (qs (aT h (fun c3 h=> ?_) (fun c3 h=> ?_)))
   ·refine qk (qs (qb ?_))
    obtain⟨x12,hx12,h⟩:=bd h
    refine rq hC [.z (.row (d6 x12)),.z (.nat 23),oQ (eV aH hx12 (cS x12))] [7,34,35] [(7,V.ref 23 0)] [(23,some (E.cells (cN x12)))] [(23,true)] ?_
    obtain⟨x13,hx13,x14,hx14,h⟩:=cT h
    exact dk hC bD [oV (ih x12 changeF change hchange hx13),.z (.int 2),.z (.rows (List.map aH [x13])),oQ (qK x13),oA (aO aH hx14),oQ (bO (r:=aH) 7 dJ x8),oQ (bO (r:=aH) 7 dJ [x13])] (fr 36 8) [] [(22,some (ar 112 (g10+1) 7 aH x14)),(21,sc [vI e.kind,vI e.num,vM rI x4,vI x5,vS x6,vM aA x7,ms 22 (g10+1) 7 aH x14])] [] (rk hC [] [32,44] [(32,vI (wr (x9+1)))] [] [] ⟨(x14,wr (x9+1)),(g10+1),h,lS⟩)
   ·obtain rfl:=so h
    exact cQ (rq hC [.z (.at 2),.z (.fz 22 [] [21])] [45] [] [(21,sc [vI e.kind,vI e.num,vM rI x4,vI x5,vS x6,vM aA x7,vM aH x8]),(22,none),(20,sc [vI e.kind,vI e.num,vM rI x4,vI x5,vS x6,vM aA x7,vM aH x8])] [] (qr eR))
theorem aAH(G:GS)(n:Nat)(s:Stmt)(changeF:FuncId)(change:Affine→Option Affine)(hchange: ∀(q0:Affine) r,change q0=some r→PQ G changeF [V.agg (aK q0)] (V.agg (aK r))){r:Stmt}(h:f9 n s change=some r):PQ G 217 [V.agg (cV s),V.fn changeF []] (V.agg (cV r)):=by
 unfold f9 at h
 refine pq aN Tryz.func217 rfl fun w X hC=> ?_
 refine rq hC [.z (.b (true)),.z (.nat 20)] [2,4] [(2,V.tp (m5 s)),(4,V.ref 20 0)] [(20,sc [vS [],V.t T.nilS,vI 0,vI 0,V.t T.nilS,vI 0,vS [],V.t T.nilS,V.t T.nilS])] [(20,true)] (qs ?_)
 obtain⟨x1,hx1,x2,hx2,h⟩:=cT h
 obtain rfl:=so h
 exact dk hC bD [oV (tR G n s.write changeF change hchange hx1),oV (aAM G n s.value changeF change hchange hx2)] (fr 5 9) [] [(20,sc [vS x1.array,vM aA x1.subs,vI x2.kind,vI x2.num,vM rI x2.index.coefs,vI x2.index.const,vS x2.read.array,vM aA x2.read.subs,vM aH x2.kids])] [] (qr eR)
theorem yO{s}{r}(h:pC n s=some r):PQ G 200 [V.agg (cV s)] (V.agg (cV r)):=by
 unfold pC at h
 refine pq aN Tryz.func200 rfl fun w X hC=> ?_
 refine rq hC [.z (.b (true)),.z (.nat 20)] [1,2] [(1,V.tp (m5 s)),(2,V.ref 20 0)] [(20,sc [vS [],V.t T.nilS,vI 0,vI 0,V.t T.nilS,vI 0,vS [],V.t T.nilS,V.t T.nilS])] [(20,true)] ?_
 obtain⟨x1,hx1,h⟩:=bd h
 obtain rfl:=so h
 exact rq hC [oV (aAH G n s 216 (fun q0=>cL n q0) (fun q0 r h=>tQ G n q0 h) hx1)] [3,4] [] [(20,some (E.cells (cV x1)))] [] (qr eR)
theorem kF{list}{r}(h:eK n list=some r):VQ G 293 [] [vM aA list] (ms 0 1 2 aA r) [ar 109 1 2 aA r]:=by
 unfold eK at h
 refine vq aN Tryz.func293 rfl fun w X β0 hC hg=> ?_
 refine rq hC [] [2] [] [] [] (rq hC [] [3] [(3,V.t T.nilS)] [] [] (qs (rq hC [oN aA list] [6,7,8] [(6,vM aA list),(7,vI (list.length:Int)),(8,vI 0)] [] [] (qb (qw (lk hC [.grow 3 20 109] [3] [(3,ms 20 1 2 aA [])] [(20,some (ar 109 1 2 aA []))] [(20,true)]) ?_)))))
 refine bC (γ:=Nat) h (fun x_ g_=>bA [(3,ms 20 g_ 2 aA x_.1),(6,vM aA list),(7,vI (list.length:Int)),(8,vI x_.2)] [(20,ar 109 g_ 2 aA x_.1)] [20]) 1 (lS) ?_
 rintro again4 ⟨x1,x2⟩ g3 h
 refine rq hC [] [9] [(9,vB (decide (x2<(list.length:Int))))] [] [] (qs (aT h (fun c1 h=> ?_) (fun c1 h=> ?_)))
 ·refine qk (qs (qb ?_))
  obtain⟨x5,hx5,h⟩:=bd h
  refine rq hC [oR aA hx5,.z (.nat 21)] [5,10,11] [(5,V.ref 21 0)] [(21,some (E.cells (aK x5)))] [(21,true)] ?_
  obtain⟨x6,hx6,x7,hx7,h⟩:=cT h
  exact rk hC [oV (tQ G n x5 hx6),.z (.int 0),oA (aO aA hx7),oQ (bO (r:=aA) 2 aS x1),oQ (bO (r:=aA) 2 aS [x6])] [3,12,13,14,15,16] [(3,ms 20 (g3+1) 2 aA x7)] [(20,some (ar 109 (g3+1) 2 aA x7))] [] (rk hC [] [8,17] [(8,vI (wr (x2+1)))] [] [] ⟨(x7,wr (x2+1)),(g3+1),h,lS⟩)
 ·obtain rfl:=so h
  exact cQ (rq hC [] [2,18] [(2,ms 20 g3 2 aA x1)] [] [] (qw (lk hC [.ren 2 20 0] [2] [(2,ms 0 1 2 aA x1)] [(0,some (ar 109 1 2 aA x1)),(20,none)] [(0,true)]) (qr eW)))
theorem aAJ{nest}{r}(h:kU n nest=some r):VQ G 253 [] [vM aC nest] (ms 0 1 2 aC r) [ar 147 1 2 aC r]:=by
 unfold kU at h
 refine vq aN Tryz.func253 rfl fun w X β0 hC hg=> ?_
 refine rq hC [] [2] [] [] [] (rq hC [] [3] [(3,V.t T.nilS)] [] [] (qs (rq hC [oN aC nest] [6,7,8] [(6,vM aC nest),(7,vI (nest.length:Int)),(8,vI 0)] [] [] (qb (qw (lk hC [.grow 3 20 147] [3] [(3,ms 20 1 2 aC [])] [(20,some (ar 147 1 2 aC []))] [(20,true)]) ?_)))))
 refine bC (γ:=Nat) h (fun x_ g_=>bA [(3,ms 20 g_ 2 aC x_.1),(6,vM aC nest),(7,vI (nest.length:Int)),(8,vI x_.2)] [(20,ar 147 g_ 2 aC x_.1)] [20]) 1 (lS) ?_
 rintro again4 ⟨x1,x2⟩ g3 h
 refine rq hC [] [9] [(9,vB (decide (x2<(nest.length:Int))))] [] [] (qs (aT h (fun c1 h=> ?_) (fun c1 h=> ?_)))
 ·refine qk (qs (qb ?_))
  obtain⟨x5,hx5,h⟩:=bd h
  refine rq hC [oR aC hx5,.z (.nat 21)] [5,10,11] [(5,V.ref 21 0)] [(21,some (E.cells (jF x5)))] [(21,true)] ?_
  obtain⟨x6,hx6,x7,hx7,x8,hx8,h⟩:=jH h
  exact dk hC bD [oC [] [22] (kF G hx6),oC [] [23] (kF G hx7),.z (.at 4),.z (.fz 22 [15] []),.z (.at 4),.z (.fz 23 [18] []),.z (.int 0),oA (aO aC hx8),oQ (bO (r:=aC) 2 bV x1),oQ (bO (r:=aC) 2 bV [(⟨x6,x7⟩:Loop)])] [3,12,13,14,15,16,17,18,19,20,21] [(3,ms 20 (g3+1) 2 aC x8)] [(22,none),(23,none),(20,some (ar 147 (g3+1) 2 aC x8))] [(22,true),(23,true)] (rk hC [] [8,22] [(8,vI (wr (x2+1)))] [] [] ⟨(x8,wr (x2+1)),(g3+1),h,lS⟩)
 ·obtain rfl:=so h
  exact cQ (rq hC [] [2,23] [(2,ms 20 g3 2 aC x1)] [] [] (qw (lk hC [.ren 2 20 0] [2] [(2,ms 0 1 2 aC x1)] [(0,some (ar 147 1 2 aC x1)),(20,none)] [(0,true)]) (qr eW)))
theorem aAI{p}{r}(h:jC n p=some r):VQ G 199 [] [V.agg (kH p)] (V.agg [ms 0 1 2 aC r.nest,ms 1 1 9 aG r.body]) [ar 147 1 2 aC r.nest,ar 114 1 9 aG r.body]:=by
 unfold jC at h
 refine vq aN Tryz.func199 rfl fun w X β0 hC hg=> ?_
 refine rq hC [.z (.b (true)),.z (.nat 20)] [1,2] [(1,V.tp (iZ p)),(2,V.ref 20 0)] [(20,sc [V.t T.nilS,V.t T.nilS])] [(20,true)] ?_
 obtain⟨x1,hx1,h⟩:=bd h
 refine rq hC [oC [] [21] (aAJ G hx1),.z (.nat 22)] [3,6,7,8,9] [(3,V.ref 22 0)] [(21,some (ar 147 1 2 aC x1)),(22,sc [ms 21 1 2 aC x1,V.t T.nilS])] [(21,true),(22,true)] (qs (rq hC [oN aG p.body] (fr 10 4) [(11,vM aG p.body),(12,vI (p.body.length:Int)),(13,vI 0)] [] [] (qb (qw (lk hC [.growc 22 1 23 114] [] [] [(23,some (ar 114 1 9 aG [])),(22,sc [ms 21 1 2 aC x1,ms 23 1 9 aG []])] [(23,true)]) (bC (γ:=Nat) h (fun x_ g_=>bA [(2,V.ref 20 0),(3,V.ref 22 0),(11,vM aG p.body),(12,vI (p.body.length:Int)),(13,vI x_.2)] [(20,E.cells [V.t T.nilS,V.t T.nilS]),(21,ar 147 1 2 aC x1),(22,E.cells [ms 21 1 2 aC x1,ms 23 g_ 9 aG x_.1]),(23,ar 114 g_ 9 aG x_.1)] [20,21,22,23]) 1 (lS) ?_)))))
 rintro again5 ⟨x2,x3⟩ g4 h
 refine rq hC [] [14] [(14,vB (decide (x3<(p.body.length:Int))))] [] [] (qs (aT h (fun c1 h=> ?_) (fun c1 h=> ?_)))
 ·refine qk (qs (qb ?_))
  obtain⟨x6,hx6,h⟩:=bd h
  refine rq hC [oR aG hx6,.z (.nat 24)] [5,15,16] [(5,V.ref 24 0)] [(24,some (E.cells (cV x6)))] [(24,true)] ?_
  obtain⟨x7,hx7,x8,hx8,h⟩:=cT h
  exact dk hC bD [oV (yO G hx7),.z (.int 0),oA (aO aG hx8),oQ (bO (r:=aG) 9 dI x2),oQ (bO (r:=aG) 9 dI [x7])] (fr 17 7) [] [(23,some (ar 114 (g4+1) 9 aG x8)),(22,sc [ms 21 1 2 aC x1,ms 23 (g4+1) 9 aG x8])] [] (rk hC [] [13,24] [(13,vI (wr (x3+1)))] [] [] ⟨(x8,wr (x3+1)),(g4+1),h,lS⟩)
 ·obtain rfl:=so h
  exact cQ (rq hC [] [25] [] [(20,sc [ms 21 1 2 aC x1,ms 23 g4 9 aG x2])] [] (qw (lk hC [.rn 21 0 [] [20,22]] [] [] [(20,sc [ms 0 1 2 aC x1,ms 23 g4 9 aG x2]),(22,sc [ms 0 1 2 aC x1,ms 23 g4 9 aG x2]),(21,none),(0,some (ar 147 1 2 aC x1))] [(0,true)]) (qw (lk hC [.rn 23 1 [] [20,22]] [] [] [(20,sc [ms 0 1 2 aC x1,ms 1 1 9 aG x2]),(22,sc [ms 0 1 2 aC x1,ms 1 1 9 aG x2]),(23,none),(1,some (ar 114 1 9 aG x2))] [(1,true)]) (qr eW))))
theorem y5{p}{r}(h:dS n p=some r):VQ G 112 [] [V.agg (bL p)] (V.agg [ms 0 1 2 aJ r.arrays,ms 1 1 2 aD r.parts]) [ar 134 1 2 aJ r.arrays,ar 128 1 2 aD r.parts]:=by
 unfold dS at h
 refine vq aN Tryz.func112 rfl fun w X β0 hC hg=> ?_
 refine rq hC [.z (.b (true)),.z (.nat 20)] [1,2] [(1,V.tp (cP p)),(2,V.ref 20 0)] [(20,sc [V.t T.nilS,V.t T.nilS])] [(20,true)] (rq hC [.z (.nat 21)] [3] [(3,V.ref 21 0)] [(21,sc [V.t T.nilS,V.t T.nilS])] [(21,true)] (qs (rq hC [oN aJ p.arrays] (fr 8 4) [(9,vM aJ p.arrays),(10,vI (p.arrays.length:Int)),(11,vI 0)] [] [] (qb (qw (lk hC [.growc 21 0 22 134] [] [] [(22,some (ar 134 1 2 aJ [])),(21,sc [ms 22 1 2 aJ [],V.t T.nilS])] [(22,true)]) ?_)))))
 refine bC (γ:=Nat) h (fun x_ g_=>bA [(1,V.tp (cP p)),(2,V.ref 20 0),(3,V.ref 21 0),(9,vM aJ p.arrays),(10,vI (p.arrays.length:Int)),(11,vI x_.2)] [(20,E.cells [V.t T.nilS,V.t T.nilS]),(21,E.cells [ms 22 g_ 2 aJ x_.1,V.t T.nilS]),(22,ar 134 g_ 2 aJ x_.1)] [20,21,22]) 1 (lS) ?_
 rintro again4 ⟨x1,x2⟩ g3 h
 refine rq hC [] [12] [(12,vB (decide (x2<(p.arrays.length:Int))))] [] [] (qs (aT h (fun c1 h=> ?_) (fun c1 h=> ?_)))
 ·refine qk (qs (qb ?_))
  obtain⟨x5,hx5,h⟩:=bd h
  refine rq hC [oR aJ hx5,.z (.nat 23)] [5,13,14] [(5,V.ref 23 0)] [(23,sc [vS x5.name,vM rI x5.dims])] [(23,true)] ?_
  obtain⟨x6,hx6,x7,hx7,h⟩:=cT h
  exact dk hC bD [oC [] [24] (G.clone x5.dims hx6),.z (.at 5),.z (.fz 24 [21] []),.z (.int 0),oA (aO aJ hx7),oQ (bO (r:=aJ) 2 fU x1),oQ (bO (r:=aJ) 2 fU [(⟨x5.name,x6⟩:Arr)])] (fr 15 11) [] [(24,none),(22,some (ar 134 (g3+1) 2 aJ x7)),(21,sc [ms 22 (g3+1) 2 aJ x7,V.t T.nilS])] [(24,true)] (rk hC [] [11,26] [(11,vI (wr (x2+1)))] [] [] ⟨(x7,wr (x2+1)),(g3+1),h,lS⟩)
 ·refine cQ (qs (rq hC [oN aD p.parts] (fr 27 4) [(28,vM aD p.parts),(29,vI (p.parts.length:Int)),(30,vI 0)] [] [] (qb (qw (lk hC [.growc 21 1 23 128] [] [] [(23,some (ar 128 1 2 aD [])),(21,sc [ms 22 g3 2 aJ x1,ms 23 1 2 aD []])] [(23,true)]) (bC (γ:=Nat) h (fun x_ g_=>bA [(2,V.ref 20 0),(3,V.ref 21 0),(28,vM aD p.parts),(29,vI (p.parts.length:Int)),(30,vI x_.2)] [(20,E.cells [V.t T.nilS,V.t T.nilS]),(21,E.cells [ms 22 g3 2 aJ x1,ms 23 g_ 2 aD x_.1]),(22,ar 134 g3 2 aJ x1),(23,ar 128 g_ 2 aD x_.1)] [20,21,22,23]) 1 (lS) ?_)))))
  rintro again11 ⟨x8,x9⟩ g10 h
  refine rq hC [] [31] [(31,vB (decide (x9<(p.parts.length:Int))))] [] [] (qs (aT h (fun c2 h=> ?_) (fun c2 h=> ?_)))
  ·refine qk (qs (qb ?_))
   obtain⟨x12,hx12,h⟩:=bd h
   refine rq hC [oR aD hx12,.z (.nat 24)] [7,32,33] [(7,V.ref 24 0)] [(24,some (E.cells (kH x12)))] [(24,true)] ?_
   obtain⟨x13,hx13,x14,hx14,h⟩:=cT h
   exact dk hC bD [oC [] [25,26] (aAI G hx13),.z (.at 4),.z (.fz 25 [37] []),.z (.at 4),.z (.fz 26 [37] []),.z (.int 0),oA (aO aD hx14),oQ (bO (r:=aD) 2 bU x8),oQ (bO (r:=aD) 2 bU [x13])] (fr 34 7) [] [(25,none),(26,none),(23,some (ar 128 (g10+1) 2 aD x14)),(21,sc [ms 22 g3 2 aJ x1,ms 23 (g10+1) 2 aD x14])] [(25,true),(26,true)] (rk hC [] [30,41] [(30,vI (wr (x9+1)))] [] [] ⟨(x14,wr (x9+1)),(g10+1),h,lS⟩)
  ·obtain rfl:=so h
   exact cQ (rq hC [] [42] [] [(20,sc [ms 22 g3 2 aJ x1,ms 23 g10 2 aD x8])] [] (qw (lk hC [.rn 22 0 [] [20,21]] [] [] [(20,sc [ms 0 1 2 aJ x1,ms 23 g10 2 aD x8]),(21,sc [ms 0 1 2 aJ x1,ms 23 g10 2 aD x8]),(22,none),(0,some (ar 134 1 2 aJ x1))] [(0,true)]) (qw (lk hC [.rn 23 1 [] [20,21]] [] [] [(20,sc [ms 0 1 2 aJ x1,ms 1 1 2 aD x8]),(21,sc [ms 0 1 2 aJ x1,ms 1 1 2 aD x8]),(23,none),(1,some (ar 128 1 2 aD x8))] [(1,true)]) (qr eW))))
def fJ:List Nd:=[⟨128,2,[(0,1),(1,2)]⟩,⟨147,2,[(0,3),(1,3)]⟩,⟨114,9,[]⟩,⟨109,2,[]⟩,⟨105,1,[(0,3)]⟩]
theorem K7{nest}{r}(h:kU n nest=some r):VQ G 253 [] [vM aC nest] (ms 0 1 2 aC r) [E.tree fJ 1 1 (List.map aC r) []]:=by
 unfold kU at h
 refine vq aN Tryz.func253 rfl fun w X β0 hC hg=> ?_
 refine rq hC [] [2] [] [] [] (rq hC [] [3] [(3,V.t T.nilS)] [] [] (qs (rq hC [oN aC nest] [6,7,8] [(6,vM aC nest),(7,vI (nest.length:Int)),(8,vI 0)] [] [] (qb (qw (lk hC [.grow 3 20 147,.tre 20 fJ 1] [3] [(3,ms 20 1 2 aC [])] [(20,some (E.tree fJ 1 1 (List.map aC []) []))] [(20,true)]) ?_)))))
 refine bC (γ:=Nat) h (fun x_ g_=>bA [(3,ms 20 g_ 2 aC x_.1),(6,vM aC nest),(7,vI (nest.length:Int)),(8,vI x_.2)] [(20,E.tree fJ 1 g_ (List.map aC x_.1) [])] [20]) 1 (lS) ?_
 rintro again4 ⟨x1,x2⟩ g3 h
 refine rq hC [] [9] [(9,vB (decide (x2<(nest.length:Int))))] [] [] (qs (aT h (fun c1 h=> ?_) (fun c1 h=> ?_)))
 ·refine qk (qs (qb ?_))
  obtain⟨x5,hx5,h⟩:=bd h
  refine rq hC [oR aC hx5,.z (.nat 21)] [5,10,11] [(5,V.ref 21 0)] [(21,some (E.cells (jF x5)))] [(21,true)] ?_
  obtain⟨x6,hx6,x7,hx7,x8,hx8,h⟩:=jH h
  exact dk hC bD [oC [] [22] (kF G hx6),oC [] [23] (kF G hx7),.z (.lt 24 fJ 1),.z (.rows (List.map aC (x1++[(⟨[],[]⟩:Loop)]))),oQ (Eq.refl (ndOf fJ 1)),oQ (aFL aC (⟨[],[]⟩:Loop) hx8),oQ (bO (r:=aC) 2 bV x1),oQ (bO (r:=aC) 2 bV [(⟨[],[]⟩:Loop)])] [3,12,13,14,15,16,17,18,19,20,21] [(3,ms 20 (g3+1) 2 aC (x1++[(⟨[],[]⟩:Loop)]))] [(22,some (ar 109 1 2 aA x6)),(23,some (ar 109 1 2 aA x7)),(24,some (E.tree fJ 1 1 (List.map aC [(⟨[],[]⟩:Loop)]) [(0,0,ms 22 1 2 aA x6),(0,1,ms 23 1 2 aA x7)])),(20,some (E.tree fJ 1 (g3+1) (List.map aC (x1++[(⟨[],[]⟩:Loop)])) (nN (List.map aC x1).length [(0,0,ms 22 1 2 aA x6),(0,1,ms 23 1 2 aA x7)])))] [(22,true),(23,true),(24,true)] (qw (xC hC [.tre 22 fJ 3,.unf 20 22 (aC (⟨[],[]⟩:Loop)) (List.map aC (x1++[(⟨x6,[]⟩:Loop)])),.tre 23 fJ 3,.unf 20 23 (aC (⟨x6,[]⟩:Loop)) (List.map aC x8),.len 3 (List.map aC x8).length] [3] [(3,ms 20 (g3+1) 2 aC x8)] [(22,none),(23,none),(20,some (E.tree fJ 1 (g3+1) (List.map aC x8) []))] [] (a9 (Eq.refl (List.map aA x6).length) (Eq.refl fJ) (R7 aC x1 (⟨[],[]⟩:Loop)) (aEv aC x1 (ph:=(⟨[],[]⟩:Loop)) (y:=(⟨x6,[]⟩:Loop)) rfl) (Eq.refl (List.map aA x7).length) (Eq.refl fJ) (R7 aC x1 (⟨x6,[]⟩:Loop)) (Y4 aC (ph:=(⟨x6,[]⟩:Loop)) hx8 rfl) (aEL aC (⟨[],[]⟩:Loop) hx8)) (by kernel_rfl)) (rk hC [] [8,22] [(8,vI (wr (x2+1)))] [] [] ⟨(x8,wr (x2+1)),(g3+1),h,lS⟩))
 ·obtain rfl:=so h
  exact cQ (rq hC [] [2,23] [(2,ms 20 g3 2 aC x1)] [] [] (qw (lk hC [.rn 20 0 [2,3] []] [2,3] [(2,ms 0 1 2 aC x1),(3,ms 0 1 2 aC x1)] [(20,none),(0,some (E.tree fJ 1 1 (List.map aC x1) []))] [(0,true)]) (qr eW)))
theorem K6{p}{r}(h:jC n p=some r):VQ G 199 [] [V.agg (kH p)] (V.agg [ms 0 1 2 aC r.nest,ms 1 1 9 aG r.body]) [E.tree fJ 1 1 (List.map aC r.nest) [],ar 114 1 9 aG r.body]:=by
 unfold jC at h
 refine vq aN Tryz.func199 rfl fun w X β0 hC hg=> ?_
 refine rq hC [.z (.b (true)),.z (.nat 20)] [1,2] [(1,V.tp (iZ p)),(2,V.ref 20 0)] [(20,sc [V.t T.nilS,V.t T.nilS])] [(20,true)] ?_
 obtain⟨x1,hx1,h⟩:=bd h
 refine rq hC [oC [] [21] (K7 G hx1),.z (.nat 22)] [3,6,7,8,9] [(3,V.ref 22 0)] [(21,some (E.tree fJ 1 1 (List.map aC x1) [])),(22,sc [ms 21 1 2 aC x1,V.t T.nilS])] [(21,true),(22,true)] (qs (rq hC [oN aG p.body] (fr 10 4) [(11,vM aG p.body),(12,vI (p.body.length:Int)),(13,vI 0)] [] [] (qb (qw (lk hC [.growc 22 1 23 114] [] [] [(23,some (ar 114 1 9 aG [])),(22,sc [ms 21 1 2 aC x1,ms 23 1 9 aG []])] [(23,true)]) (bC (γ:=Nat) h (fun x_ g_=>bA [(2,V.ref 20 0),(3,V.ref 22 0),(11,vM aG p.body),(12,vI (p.body.length:Int)),(13,vI x_.2)] [(20,E.cells [V.t T.nilS,V.t T.nilS]),(21,E.tree fJ 1 1 (List.map aC x1) []),(22,E.cells [ms 21 1 2 aC x1,ms 23 g_ 9 aG x_.1]),(23,ar 114 g_ 9 aG x_.1)] [20,21,22,23]) 1 (lS) ?_)))))
 rintro again5 ⟨x2,x3⟩ g4 h
 refine rq hC [] [14] [(14,vB (decide (x3<(p.body.length:Int))))] [] [] (qs (aT h (fun c1 h=> ?_) (fun c1 h=> ?_)))
 ·refine qk (qs (qb ?_))
  obtain⟨x6,hx6,h⟩:=bd h
  refine rq hC [oR aG hx6,.z (.nat 24)] [5,15,16] [(5,V.ref 24 0)] [(24,some (E.cells (cV x6)))] [(24,true)] ?_
  obtain⟨x7,hx7,x8,hx8,h⟩:=cT h
  exact dk hC bD [oV (yO G hx7),.z (.int 0),oA (aO aG hx8),oQ (bO (r:=aG) 9 dI x2),oQ (bO (r:=aG) 9 dI [x7])] (fr 17 7) [] [(23,some (ar 114 (g4+1) 9 aG x8)),(22,sc [ms 21 1 2 aC x1,ms 23 (g4+1) 9 aG x8])] [] (rk hC [] [13,24] [(13,vI (wr (x3+1)))] [] [] ⟨(x8,wr (x3+1)),(g4+1),h,lS⟩)
 ·obtain rfl:=so h
  exact cQ (rq hC [] [25] [] [(20,sc [ms 21 1 2 aC x1,ms 23 g4 9 aG x2])] [] (qw (lk hC [.rn 21 0 [] [20,22]] [] [] [(20,sc [ms 0 1 2 aC x1,ms 23 g4 9 aG x2]),(22,sc [ms 0 1 2 aC x1,ms 23 g4 9 aG x2]),(21,none),(0,some (E.tree fJ 1 1 (List.map aC x1) []))] [(0,true)]) (qw (lk hC [.rn 23 1 [] [20,22]] [] [] [(20,sc [ms 0 1 2 aC x1,ms 1 1 9 aG x2]),(22,sc [ms 0 1 2 aC x1,ms 1 1 9 aG x2]),(23,none),(1,some (ar 114 1 9 aG x2))] [(1,true)]) (qr eW))))
theorem wH{p}{r}(h:dS n p=some r):VQ G 112 [] [V.agg (bL p)] (V.agg [ms 0 1 2 aJ r.arrays,ms 1 1 2 aD r.parts]) [ar 134 1 2 aJ r.arrays,E.tree fJ 0 1 (List.map aD r.parts) []]:=by
 unfold dS at h
 refine vq aN Tryz.func112 rfl fun w X β0 hC hg=> ?_
 refine rq hC [.z (.b (true)),.z (.nat 20)] [1,2] [(1,V.tp (cP p)),(2,V.ref 20 0)] [(20,sc [V.t T.nilS,V.t T.nilS])] [(20,true)] (rq hC [.z (.nat 21)] [3] [(3,V.ref 21 0)] [(21,sc [V.t T.nilS,V.t T.nilS])] [(21,true)] (qs (rq hC [oN aJ p.arrays] (fr 8 4) [(9,vM aJ p.arrays),(10,vI (p.arrays.length:Int)),(11,vI 0)] [] [] (qb (qw (lk hC [.growc 21 0 22 134] [] [] [(22,some (ar 134 1 2 aJ [])),(21,sc [ms 22 1 2 aJ [],V.t T.nilS])] [(22,true)]) ?_)))))
 refine bC (γ:=Nat) h (fun x_ g_=>bA [(1,V.tp (cP p)),(2,V.ref 20 0),(3,V.ref 21 0),(9,vM aJ p.arrays),(10,vI (p.arrays.length:Int)),(11,vI x_.2)] [(20,E.cells [V.t T.nilS,V.t T.nilS]),(21,E.cells [ms 22 g_ 2 aJ x_.1,V.t T.nilS]),(22,ar 134 g_ 2 aJ x_.1)] [20,21,22]) 1 (lS) ?_
 rintro again4 ⟨x1,x2⟩ g3 h
 refine rq hC [] [12] [(12,vB (decide (x2<(p.arrays.length:Int))))] [] [] (qs (aT h (fun c1 h=> ?_) (fun c1 h=> ?_)))
 ·refine qk (qs (qb ?_))
  obtain⟨x5,hx5,h⟩:=bd h
  refine rq hC [oR aJ hx5,.z (.nat 23)] [5,13,14] [(5,V.ref 23 0)] [(23,sc [vS x5.name,vM rI x5.dims])] [(23,true)] ?_
  obtain⟨x6,hx6,x7,hx7,h⟩:=cT h
  exact dk hC bD [oC [] [24] (G.clone x5.dims hx6),.z (.at 5),.z (.fz 24 [21] []),.z (.int 0),oA (aO aJ hx7),oQ (bO (r:=aJ) 2 fU x1),oQ (bO (r:=aJ) 2 fU [(⟨x5.name,x6⟩:Arr)])] (fr 15 11) [] [(24,none),(22,some (ar 134 (g3+1) 2 aJ x7)),(21,sc [ms 22 (g3+1) 2 aJ x7,V.t T.nilS])] [(24,true)] (rk hC [] [11,26] [(11,vI (wr (x2+1)))] [] [] ⟨(x7,wr (x2+1)),(g3+1),h,lS⟩)
 ·refine cQ (qs (rq hC [oN aD p.parts] (fr 27 4) [(28,vM aD p.parts),(29,vI (p.parts.length:Int)),(30,vI 0)] [] [] (qb (qw (lk hC [.growc 21 1 23 128,.tre 23 fJ 0] [] [] [(23,some (E.tree fJ 0 1 (List.map aD []) [])),(21,sc [ms 22 g3 2 aJ x1,ms 23 1 2 aD []])] [(23,true)]) (bC (γ:=Nat) h (fun x_ g_=>bA [(2,V.ref 20 0),(3,V.ref 21 0),(28,vM aD p.parts),(29,vI (p.parts.length:Int)),(30,vI x_.2)] [(20,E.cells [V.t T.nilS,V.t T.nilS]),(21,E.cells [ms 22 g3 2 aJ x1,ms 23 g_ 2 aD x_.1]),(22,ar 134 g3 2 aJ x1),(23,E.tree fJ 0 g_ (List.map aD x_.1) [])] [20,21,22,23]) 1 (lS) ?_)))))
  rintro again11 ⟨x8,x9⟩ g10 h
  refine rq hC [] [31] [(31,vB (decide (x9<(p.parts.length:Int))))] [] [] (qs (aT h (fun c2 h=> ?_) (fun c2 h=> ?_)))
  ·refine qk (qs (qb ?_))
   obtain⟨x12,hx12,h⟩:=bd h
   refine rq hC [oR aD hx12,.z (.nat 24)] [7,32,33] [(7,V.ref 24 0)] [(24,some (E.cells (kH x12)))] [(24,true)] ?_
   obtain⟨x13,hx13,x14,hx14,h⟩:=cT h
   exact dk hC bD [oC [] [25,26] (K6 G hx13),.z (.lt 27 fJ 0),.z (.rows (List.map aD (x8++[(⟨[],[]⟩:Part)]))),oQ (Eq.refl (ndOf fJ 0)),oQ (aFL aD (⟨[],[]⟩:Part) hx14),oQ (bO (r:=aD) 2 bU x8),oQ (bO (r:=aD) 2 bU [(⟨[],[]⟩:Part)])] (fr 34 7) [] [(25,some (E.tree fJ 1 1 (List.map aC x13.nest) [])),(26,some (ar 114 1 9 aG x13.body)),(27,some (E.tree fJ 0 1 (List.map aD [(⟨[],[]⟩:Part)]) [(0,0,ms 25 1 2 aC x13.nest),(0,1,ms 26 1 9 aG x13.body)])),(23,some (E.tree fJ 0 (g10+1) (List.map aD (x8++[(⟨[],[]⟩:Part)])) (nN (List.map aD x8).length [(0,0,ms 25 1 2 aC x13.nest),(0,1,ms 26 1 9 aG x13.body)]))),(21,sc [ms 22 g3 2 aJ x1,ms 23 (g10+1) 2 aD (x8++[(⟨[],[]⟩:Part)])])] [(25,true),(26,true),(27,true)] (qw (xC hC [.unf 23 25 (aD (⟨[],[]⟩:Part)) (List.map aD (x8++[(⟨x13.nest,[]⟩:Part)])),.tre 26 fJ 2,.unf 23 26 (aD (⟨x13.nest,[]⟩:Part)) (List.map aD x14),.lenc 21 1 (List.map aD x14).length] [] [] [(25,none),(26,none),(23,some (E.tree fJ 0 (g10+1) (List.map aD x14) [])),(21,sc [ms 22 g3 2 aJ x1,ms 23 (g10+1) 2 aD x14])] [] (a9 (Eq.refl (List.map aC x13.nest).length) (Eq.refl fJ) (R7 aD x8 (⟨[],[]⟩:Part)) (aEv aD x8 (ph:=(⟨[],[]⟩:Part)) (y:=(⟨x13.nest,[]⟩:Part)) rfl) (Eq.refl (List.map aG x13.body).length) (Eq.refl fJ) (R7 aD x8 (⟨x13.nest,[]⟩:Part)) (Y4 aD (ph:=(⟨x13.nest,[]⟩:Part)) hx14 rfl) (aEL aD (⟨[],[]⟩:Part) hx14)) (by kernel_rfl)) (rk hC [] [30,41] [(30,vI (wr (x9+1)))] [] [] ⟨(x14,wr (x9+1)),(g10+1),h,lS⟩))
  ·obtain rfl:=so h
   exact cQ (rq hC [] [42] [] [(20,sc [ms 22 g3 2 aJ x1,ms 23 g10 2 aD x8])] [] (qw (lk hC [.rn 22 0 [] [20,21]] [] [] [(20,sc [ms 0 1 2 aJ x1,ms 23 g10 2 aD x8]),(21,sc [ms 0 1 2 aJ x1,ms 23 g10 2 aD x8]),(22,none),(0,some (ar 134 1 2 aJ x1))] [(0,true)]) (qw (lk hC [.rn 23 1 [] [20,21]] [] [] [(20,sc [ms 0 1 2 aJ x1,ms 1 1 2 aD x8]),(21,sc [ms 0 1 2 aJ x1,ms 1 1 2 aD x8]),(23,none),(1,some (E.tree fJ 0 1 (List.map aD x8) []))] [(1,true)]) (qr eW))))
theorem y0{x}{r}(h:lI n x=some r):PQ G 258 [V.agg [vS x.name,vM rI x.dims]] (V.agg [vS r.name,vM rI r.dims]):=by
 unfold lI at h
 refine pq aN Tryz.func258 rfl fun w X hC=> ?_
 refine rq hC [.z (.nat 20),.z (.nat 21)] [1,2] [(1,V.ref 20 0),(2,V.ref 21 0)] [(20,sc [vS x.name,vM rI x.dims]),(21,sc [vS [],V.t T.nilS])] [(20,true),(21,true)] ?_
 obtain⟨x1,hx1,h⟩:=bd h
 obtain rfl:=so h
 exact rq hC [.z (.nat 22),oA (aO rI hx1),oQ (bO (r:=rI) 1 (fun _=>rfl) []),oQ (bO (r:=rI) 1 (fun _=>rfl) x.dims)] (fr 3 5) [] [(22,some (ar 3 2 1 rI x1)),(20,sc [vS x.name,ms 22 2 1 rI x1])] [(22,true)] (rq hC [.z (.at 2),.z (.fz 22 [] [20])] [8] [] [(20,sc [vS x.name,vM rI x1]),(22,none),(21,sc [vS x.name,vM rI x1])] [] (qr eR))
theorem tE{list}{r}(h:eH n list=some r):VQ G 202 [] [vM aJ list] (ms 0 1 2 aJ r) [ar 134 1 2 aJ r]:=by
 unfold eH at h
 refine vq aN Tryz.func202 rfl fun w X β0 hC hg=> ?_
 refine rq hC [] [2] [] [] [] (rq hC [.z (.nat 20)] [3,6] [(3,ms 20 1 2 aJ [])] [(20,some (ar 134 1 2 aJ []))] [(20,true)] (qs (rq hC [oN aJ list] [7,8,9] [(7,vM aJ list),(8,vI (list.length:Int)),(9,vI 0)] [] [] (qb (bC (γ:=Nat) h (fun x_ g_=>bA [(3,ms 20 g_ 2 aJ x_.1),(7,vM aJ list),(8,vI (list.length:Int)),(9,vI x_.2)] [(20,ar 134 g_ 2 aJ x_.1)] [20]) 1 (lS) ?_)))))
 rintro again4 ⟨x1,x2⟩ g3 h
 refine rq hC [] [10] [(10,vB (decide (x2<(list.length:Int))))] [] [] (qs (aT h (fun c1 h=> ?_) (fun c1 h=> ?_)))
 ·refine qk (qs (qb ?_))
  obtain⟨x5,hx5,h⟩:=bd h
  refine rq hC [oR aJ hx5,.z (.nat 21)] [5,11,12] [(5,V.ref 21 0)] [(21,sc [vS x5.name,vM rI x5.dims])] [(21,true)] ?_
  obtain⟨x6,hx6,x7,hx7,h⟩:=cT h
  exact rk hC [oV (y0 G hx6),.z (.int 0),oA (aO aJ hx7),oQ (bO (r:=aJ) 2 fU x1),oQ (bO (r:=aJ) 2 fU [x6])] [3,13,14,15,16,17] [(3,ms 20 (g3+1) 2 aJ x7)] [(20,some (ar 134 (g3+1) 2 aJ x7))] [] (rk hC [] [9,18] [(9,vI (wr (x2+1)))] [] [] ⟨(x7,wr (x2+1)),(g3+1),h,lS⟩)
 ·obtain rfl:=so h
  exact cQ (rq hC [] [2,19] [(2,ms 20 g3 2 aJ x1)] [] [] (qw (lk hC [.ren 2 20 0] [2] [(2,ms 0 1 2 aJ x1)] [(0,some (ar 134 1 2 aJ x1)),(20,none)] [(0,true)]) (qr eW)))
theorem pH{x}{r}(h:e9 n x=some r):PQ G 341 [V.agg (aK x)] (V.agg (aK r)):=by
 unfold e9 at h
 refine pq aN Tryz.func341 rfl fun w X hC=> ?_
 refine rq hC [.z (.nat 20),.z (.nat 21)] [1,2] [(1,V.ref 20 0),(2,V.ref 21 0)] [(20,some (E.cells (aK x))),(21,sc [V.t T.nilS,vI 0])] [(20,true),(21,true)] ?_
 obtain⟨x1,hx1,h⟩:=bd h
 obtain rfl:=so h
 exact rq hC [.z (.nat 22),oA (aO rI hx1),oQ (bO (r:=rI) 1 (fun _=>rfl) []),oQ (bO (r:=rI) 1 (fun _=>rfl) x.coefs)] (fr 3 5) [] [(22,some (ar 3 2 1 rI x1)),(20,sc [ms 22 2 1 rI x1,vI x.const])] [(22,true)] (rq hC [.z (.at 2),.z (.fz 22 [] [20])] [8] [] [(20,sc [vM rI x1,vI x.const]),(22,none),(21,sc [vM rI x1,vI x.const])] [] (qr eR))
theorem gQ{list}{r}(h:cH n list=some r):VQ G 331 [] [vM aA list] (ms 0 1 2 aA r) [ar 109 1 2 aA r]:=by
 unfold cH at h
 refine vq aN Tryz.func331 rfl fun w X β0 hC hg=> ?_
 refine rq hC [] [2] [] [] [] (rq hC [.z (.nat 20)] [3,6] [(3,ms 20 1 2 aA [])] [(20,some (ar 109 1 2 aA []))] [(20,true)] (qs (rq hC [oN aA list] [7,8,9] [(7,vM aA list),(8,vI (list.length:Int)),(9,vI 0)] [] [] (qb (bC (γ:=Nat) h (fun x_ g_=>bA [(3,ms 20 g_ 2 aA x_.1),(7,vM aA list),(8,vI (list.length:Int)),(9,vI x_.2)] [(20,ar 109 g_ 2 aA x_.1)] [20]) 1 (lS) ?_)))))
 rintro again4 ⟨x1,x2⟩ g3 h
 refine rq hC [] [10] [(10,vB (decide (x2<(list.length:Int))))] [] [] (qs (aT h (fun c1 h=> ?_) (fun c1 h=> ?_)))
 ·refine qk (qs (qb ?_))
  obtain⟨x5,hx5,h⟩:=bd h
  refine rq hC [oR aA hx5,.z (.nat 21)] [5,11,12] [(5,V.ref 21 0)] [(21,some (E.cells (aK x5)))] [(21,true)] ?_
  obtain⟨x6,hx6,x7,hx7,h⟩:=cT h
  exact rk hC [oV (pH G hx6),.z (.int 0),oA (aO aA hx7),oQ (bO (r:=aA) 2 aS x1),oQ (bO (r:=aA) 2 aS [x6])] [3,13,14,15,16,17] [(3,ms 20 (g3+1) 2 aA x7)] [(20,some (ar 109 (g3+1) 2 aA x7))] [] (rk hC [] [9,18] [(9,vI (wr (x2+1)))] [] [] ⟨(x7,wr (x2+1)),(g3+1),h,lS⟩)
 ·obtain rfl:=so h
  exact cQ (rq hC [] [2,19] [(2,ms 20 g3 2 aA x1)] [] [] (qw (lk hC [.ren 2 20 0] [2] [(2,ms 0 1 2 aA x1)] [(0,some (ar 109 1 2 aA x1)),(20,none)] [(0,true)]) (qr eW)))
theorem H7{x}{r}(h:mD n x=some r):PQ G 321 [V.agg (jF x)] (V.agg (jF r)):=by
 unfold mD at h
 refine pq aN Tryz.func321 rfl fun w X hC=> ?_
 refine rq hC [.z (.nat 20),.z (.nat 21)] [1,2] [(1,V.ref 20 0),(2,V.ref 21 0)] [(20,some (E.cells (jF x))),(21,sc [V.t T.nilS,V.t T.nilS])] [(20,true),(21,true)] ?_
 obtain⟨x1,hx1,h⟩:=bd h
 refine rq hC [oC [] [22] (gQ G hx1)] (fr 3 4) [] [(22,some (ar 109 1 2 aA x1)),(20,sc [ms 22 1 2 aA x1,vM aA x.hi])] [(22,true)] ?_
 obtain⟨x2,hx2,h⟩:=bd h
 obtain rfl:=so h
 exact rq hC [oC [] [23] (gQ G hx2)] (fr 7 4) [] [(23,some (ar 109 1 2 aA x2)),(20,sc [ms 22 1 2 aA x1,ms 23 1 2 aA x2])] [(23,true)] (rq hC [.z (.at 2),.z (.fz 22 [] [20]),.z (.at 2),.z (.fz 23 [] [20])] [11] [] [(20,sc [vM aA x1,vM aA x2]),(22,none),(23,none),(21,sc [vM aA x1,vM aA x2])] [] (qr eR))
theorem uM{list}{r}(h:eZ n list=some r):VQ G 294 [] [vM aC list] (ms 0 1 2 aC r) [ar 147 1 2 aC r]:=by
 unfold eZ at h
 refine vq aN Tryz.func294 rfl fun w X β0 hC hg=> ?_
 refine rq hC [] [2] [] [] [] (rq hC [.z (.nat 20)] [3,6] [(3,ms 20 1 2 aC [])] [(20,some (ar 147 1 2 aC []))] [(20,true)] (qs (rq hC [oN aC list] [7,8,9] [(7,vM aC list),(8,vI (list.length:Int)),(9,vI 0)] [] [] (qb (bC (γ:=Nat) h (fun x_ g_=>bA [(3,ms 20 g_ 2 aC x_.1),(7,vM aC list),(8,vI (list.length:Int)),(9,vI x_.2)] [(20,ar 147 g_ 2 aC x_.1)] [20]) 1 (lS) ?_)))))
 rintro again4 ⟨x1,x2⟩ g3 h
 refine rq hC [] [10] [(10,vB (decide (x2<(list.length:Int))))] [] [] (qs (aT h (fun c1 h=> ?_) (fun c1 h=> ?_)))
 ·refine qk (qs (qb ?_))
  obtain⟨x5,hx5,h⟩:=bd h
  refine rq hC [oR aC hx5,.z (.nat 21)] [5,11,12] [(5,V.ref 21 0)] [(21,some (E.cells (jF x5)))] [(21,true)] ?_
  obtain⟨x6,hx6,x7,hx7,h⟩:=cT h
  exact rk hC [oV (H7 G hx6),.z (.int 0),oA (aO aC hx7),oQ (bO (r:=aC) 2 bV x1),oQ (bO (r:=aC) 2 bV [x6])] [3,13,14,15,16,17] [(3,ms 20 (g3+1) 2 aC x7)] [(20,some (ar 147 (g3+1) 2 aC x7))] [] (rk hC [] [9,18] [(9,vI (wr (x2+1)))] [] [] ⟨(x7,wr (x2+1)),(g3+1),h,lS⟩)
 ·obtain rfl:=so h
  exact cQ (rq hC [] [2,19] [(2,ms 20 g3 2 aC x1)] [] [] (qw (lk hC [.ren 2 20 0] [2] [(2,ms 0 1 2 aC x1)] [(0,some (ar 147 1 2 aC x1)),(20,none)] [(0,true)]) (qr eW)))
theorem pI{x}{r}(h:fA n x=some r):PQ G 332 [V.agg (b8 x)] (V.agg (b8 r)):=by
 unfold fA at h
 refine pq aN Tryz.func332 rfl fun w X hC=> ?_
 refine rq hC [.z (.nat 20),.z (.nat 21)] [1,2] [(1,V.ref 20 0),(2,V.ref 21 0)] [(20,some (E.cells (b8 x))),(21,sc [vS [],V.t T.nilS])] [(20,true),(21,true)] ?_
 obtain⟨x1,hx1,h⟩:=bd h
 obtain rfl:=so h
 exact rq hC [oC [] [22] (gQ G hx1)] (fr 3 4) [] [(22,some (ar 109 1 2 aA x1)),(20,sc [vS x.array,ms 22 1 2 aA x1])] [(22,true)] (rq hC [.z (.at 2),.z (.fz 22 [] [20])] [7] [] [(20,sc [vS x.array,vM aA x1]),(22,none),(21,sc [vS x.array,vM aA x1])] [] (qr eR))
theorem uN(G:GS)(n:Nat)(self:Expr→Option Expr)(hself: ∀(q0:Expr) {r:Expr},self q0=some r→PQ G 333 [V.agg (cN q0)] (V.agg (cN r)))(list:List Expr){r:(List Expr)}(h:gT n self list=some r):VQ G 342 [] [vM aH list] (ms 0 1 7 aH r) [ar 112 1 7 aH r]:=by
 unfold gT at h
 refine vq aN Tryz.func342 rfl fun w X β0 hC hg=> ?_
 refine rq hC [] [2] [] [] [] (rq hC [.z (.nat 20)] [3,6] [(3,ms 20 1 7 aH [])] [(20,some (ar 112 1 7 aH []))] [(20,true)] (qs (rq hC [oN aH list] [7,8,9] [(7,vM aH list),(8,vI (list.length:Int)),(9,vI 0)] [] [] (qb (bC (γ:=Nat) h (fun x_ g_=>bA [(3,ms 20 g_ 7 aH x_.1),(7,vM aH list),(8,vI (list.length:Int)),(9,vI x_.2)] [(20,ar 112 g_ 7 aH x_.1)] [20]) 1 (lS) ?_)))))
 rintro again4 ⟨x1,x2⟩ g3 h
 refine rq hC [] [10] [(10,vB (decide (x2<(list.length:Int))))] [] [] (qs (aT h (fun c1 h=> ?_) (fun c1 h=> ?_)))
 ·refine qk (qs (qb ?_))
  obtain⟨x5,hx5,h⟩:=bd h
  refine rq hC [.z (.row (d6 x5)),.z (.nat 21),oQ (eV aH hx5 (cS x5))] [5,11,12] [(5,V.ref 21 0)] [(21,some (E.cells (cN x5)))] [(21,true)] ?_
  obtain⟨x6,hx6,x7,hx7,h⟩:=cT h
  exact rk hC [oV (hself x5 hx6),.z (.int 2),.z (.rows (List.map aH [x6])),oQ (qK x6),oA (aO aH hx7),oQ (bO (r:=aH) 7 dJ x1),oQ (bO (r:=aH) 7 dJ [x6])] [3,13,14,15,16,17] [(3,ms 20 (g3+1) 7 aH x7)] [(20,some (ar 112 (g3+1) 7 aH x7))] [] (rk hC [] [9,18] [(9,vI (wr (x2+1)))] [] [] ⟨(x7,wr (x2+1)),(g3+1),h,lS⟩)
 ·obtain rfl:=so h
  exact cQ (rq hC [] [2,19] [(2,ms 20 g3 7 aH x1)] [] [] (qw (lk hC [.ren 2 20 0] [2] [(2,ms 0 1 7 aH x1)] [(0,some (ar 112 1 7 aH x1)),(20,none)] [(0,true)]) (qr eW)))
theorem H8(G:GS): ∀(n:Nat) (x:Expr) {r:Expr} (h:s_l16OwnExpr n x=some r),PQ G 333 [V.agg (cN x)] (V.agg (cN r)):=by
 intro n
 induction n with
 |zero=>intro x r h;rw [s_l16OwnExpr.eq_def] at h;cases h
 |succ n ih=>
  intro x r h
  rw [s_l16OwnExpr.eq_def] at h;dsimp only at h
  refine pq aN Tryz.func333 rfl fun w X hC=> ?_
  refine rq hC [.z (.nat 20),.z (.nat 21)] [1,2] [(1,V.ref 20 0),(2,V.ref 21 0)] [(20,some (E.cells (cN x))),(21,sc [vI 0,vI 0,V.t T.nilS,vI 0,vS [],V.t T.nilS,V.t T.nilS])] [(20,true),(21,true)] ?_
  obtain⟨x1,hx1,h⟩:=bd h
  refine rq hC [oV (pH G hx1)] (fr 3 4) [] [(20,sc [vI x.kind,vI x.num,vM rI x1.coefs,vI x1.const,vS x.read.array,vM aA x.read.subs,vM aH x.kids])] [] ?_
  obtain⟨x2,hx2,h⟩:=bd h
  refine rq hC [oV (pI G hx2)] (fr 7 4) [] [(20,sc [vI x.kind,vI x.num,vM rI x1.coefs,vI x1.const,vS x2.array,vM aA x2.subs,vM aH x.kids])] [] ?_
  obtain⟨x3,hx3,h⟩:=bd h
  obtain rfl:=so h
  exact rq hC [oC [] [22] (uN G n (s_l16OwnExpr n) (fun q0 r h=>ih q0 h) x.kids hx3)] (fr 11 4) [] [(22,some (ar 112 1 7 aH x3)),(20,sc [vI x.kind,vI x.num,vM rI x1.coefs,vI x1.const,vS x2.array,vM aA x2.subs,ms 22 1 7 aH x3])] [(22,true)] (rq hC [.z (.at 2),.z (.fz 22 [] [20])] [15] [] [(20,sc [vI x.kind,vI x.num,vM rI x1.coefs,vI x1.const,vS x2.array,vM aA x2.subs,vM aH x3]),(22,none),(21,sc [vI x.kind,vI x.num,vM rI x1.coefs,vI x1.const,vS x2.array,vM aA x2.subs,vM aH x3])] [] (qr eR))
theorem H5{x}{r}(h:jL n x=some r):PQ G 322 [V.agg (cV x)] (V.agg (cV r)):=by
 unfold jL at h
 refine pq aN Tryz.func322 rfl fun w X hC=> ?_
 refine rq hC [.z (.nat 20),.z (.nat 21)] [1,2] [(1,V.ref 20 0),(2,V.ref 21 0)] [(20,some (E.cells (cV x))),(21,sc [vS [],V.t T.nilS,vI 0,vI 0,V.t T.nilS,vI 0,vS [],V.t T.nilS,V.t T.nilS])] [(20,true),(21,true)] ?_
 obtain⟨x1,hx1,h⟩:=bd h
 refine rq hC [oV (pI G hx1)] (fr 3 4) [] [(20,sc [vS x1.array,vM aA x1.subs,vI x.value.kind,vI x.value.num,vM rI x.value.index.coefs,vI x.value.index.const,vS x.value.read.array,vM aA x.value.read.subs,vM aH x.value.kids])] [] ?_
 obtain⟨x2,hx2,h⟩:=bd h
 obtain rfl:=so h
 exact rq hC [oV (H8 G n x.value hx2)] (fr 7 4) [] [(20,sc [vS x1.array,vM aA x1.subs,vI x2.kind,vI x2.num,vM rI x2.index.coefs,vI x2.index.const,vS x2.read.array,vM aA x2.read.subs,vM aH x2.kids])] [] (rq hC [] [11] [] [(21,sc [vS x1.array,vM aA x1.subs,vI x2.kind,vI x2.num,vM rI x2.index.coefs,vI x2.index.const,vS x2.read.array,vM aA x2.read.subs,vM aH x2.kids])] [] (qr eR))
theorem uK{list}{r}(h:eX n list=some r):VQ G 295 [] [vM aG list] (ms 0 1 9 aG r) [ar 114 1 9 aG r]:=by
 unfold eX at h
 refine vq aN Tryz.func295 rfl fun w X β0 hC hg=> ?_
 refine rq hC [] [2] [] [] [] (rq hC [.z (.nat 20)] [3,6] [(3,ms 20 1 9 aG [])] [(20,some (ar 114 1 9 aG []))] [(20,true)] (qs (rq hC [oN aG list] [7,8,9] [(7,vM aG list),(8,vI (list.length:Int)),(9,vI 0)] [] [] (qb (bC (γ:=Nat) h (fun x_ g_=>bA [(3,ms 20 g_ 9 aG x_.1),(7,vM aG list),(8,vI (list.length:Int)),(9,vI x_.2)] [(20,ar 114 g_ 9 aG x_.1)] [20]) 1 (lS) ?_)))))
 rintro again4 ⟨x1,x2⟩ g3 h
 refine rq hC [] [10] [(10,vB (decide (x2<(list.length:Int))))] [] [] (qs (aT h (fun c1 h=> ?_) (fun c1 h=> ?_)))
 ·refine qk (qs (qb ?_))
  obtain⟨x5,hx5,h⟩:=bd h
  refine rq hC [oR aG hx5,.z (.nat 21)] [5,11,12] [(5,V.ref 21 0)] [(21,some (E.cells (cV x5)))] [(21,true)] ?_
  obtain⟨x6,hx6,x7,hx7,h⟩:=cT h
  exact rk hC [oV (H5 G hx6),.z (.int 0),oA (aO aG hx7),oQ (bO (r:=aG) 9 dI x1),oQ (bO (r:=aG) 9 dI [x6])] [3,13,14,15,16,17] [(3,ms 20 (g3+1) 9 aG x7)] [(20,some (ar 114 (g3+1) 9 aG x7))] [] (rk hC [] [9,18] [(9,vI (wr (x2+1)))] [] [] ⟨(x7,wr (x2+1)),(g3+1),h,lS⟩)
 ·obtain rfl:=so h
  exact cQ (rq hC [] [2,19] [(2,ms 20 g3 9 aG x1)] [] [] (qw (lk hC [.ren 2 20 0] [2] [(2,ms 0 1 9 aG x1)] [(0,some (ar 114 1 9 aG x1)),(20,none)] [(0,true)]) (qr eW)))
theorem H6{x}{r}(h:jM n x=some r):PQ G 259 [V.agg (kH x)] (V.agg (kH r)):=by
 unfold jM at h
 refine pq aN Tryz.func259 rfl fun w X hC=> ?_
 refine rq hC [.z (.nat 20),.z (.nat 21)] [1,2] [(1,V.ref 20 0),(2,V.ref 21 0)] [(20,some (E.cells (kH x))),(21,sc [V.t T.nilS,V.t T.nilS])] [(20,true),(21,true)] ?_
 obtain⟨x1,hx1,h⟩:=bd h
 refine rq hC [oC [] [22] (uM G hx1)] (fr 3 4) [] [(22,some (ar 147 1 2 aC x1)),(20,sc [ms 22 1 2 aC x1,vM aG x.body])] [(22,true)] ?_
 obtain⟨x2,hx2,h⟩:=bd h
 obtain rfl:=so h
 exact rq hC [oC [] [23] (uK G hx2)] (fr 7 4) [] [(23,some (ar 114 1 9 aG x2)),(20,sc [ms 22 1 2 aC x1,ms 23 1 9 aG x2])] [(23,true)] (rq hC [.z (.at 2),.z (.fz 22 [] [20]),.z (.at 2),.z (.fz 23 [] [20])] [11] [] [(20,sc [vM aC x1,vM aG x2]),(22,none),(23,none),(21,sc [vM aC x1,vM aG x2])] [] (qr eR))
end Go.Lift
