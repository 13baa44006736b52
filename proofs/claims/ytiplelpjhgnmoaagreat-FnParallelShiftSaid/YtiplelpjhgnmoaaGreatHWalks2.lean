/- The walks: the code computes what the plain functions say. -/
import Derived.Test.YtiplelpjhgnmoaaGreatHModels
import Derived.Test.YtiplelpjhgnmoaaGreatHWalks1
set_option maxRecDepth 10000
set_option linter.unusedVariables false
namespace Go.Lift
open Go Go.Proofs
variable (G:GS) {n:Nat}
theorem uO(G:GS)(n:Nat)(a:Access)(c0__a1:Prog)(c1__a2:List Int){r:Bool}(h:dN n a c0__a1 c1__a2=some r):PQ G 172 [V.agg (cD a),V.tp (cF c0__a1),V.tp [T.sl (List.map rI c1__a2)]] (vB r):=by
 unfold dN at h
 refine pq aN Tryz.func172 rfl fun w X hC=> ?_
 refine rq hC [.z (.b (true))] [3,4] [(3,V.tp (dO a))] [] [] ?_
 obtain⟨x1,hx1,h⟩:=bd h
 obtain rfl:=so h
 exact rq hC [oV (fZ G hx1)] (fr 4 6) [(4,vB (decide (x1<0)))] [] [] (qr eR)
theorem aAu(G:GS): ∀(n:Nat) (e:Expr) {r:(List Access)} (h:i_reads n e=some r),VQ G 141 [] [V.agg (dB e)] (ms 0 1 2 aV r) [ar 82 1 2 aV r]:=by
 intro n
 induction n with
 |zero=>intro e r h;rw [i_reads.eq_def] at h;cases h
 |succ n ih=>
  intro e r h
  rw [i_reads.eq_def] at h;dsimp only at h
  refine vq aN Tryz.func141 rfl fun w X β0 hC hg=> ?_
  refine rq hC [.z (.b (true))] [1,2] [(1,V.tp (fM e))] [] [] (qs (rq hC [] [6,7,8] [(8,vB (decide (e.kind=3)))] [] [] (aT h (fun c1 h=> ?_) (fun c1 h=> ?_))))
  ·obtain rfl:=so h
   exact rq hC [.z (.int 1),.z (.nat 20)] [2,9,10,11] [(2,ms 20 1 2 aV [e.read])] [(20,some (ar 82 1 2 aV [e.read]))] [(20,true)] (qw (lk hC [.ren 2 20 0] [2] [(2,ms 0 1 2 aV [e.read])] [(0,some (ar 82 1 2 aV [e.read])),(20,none)] [(0,true)]) (qr eW))
  ·refine qk (rq hC [] [3] [(3,V.t T.nilS)] [] [] (qs (rq hC [oN aJ e.kids] (fr 12 4) [(13,vM aJ e.kids),(14,vI (e.kids.length:Int)),(15,vI 0)] [] [] (qb (qw (lk hC [.grow 3 20 82] [3] [(3,ms 20 1 2 aV [])] [(20,some (ar 82 1 2 aV []))] [(20,true)]) ?_)))))
   refine aZ (γ:=Nat) h (fun x_ g_=>aW [(3,ms 20 g_ 2 aV x_.1),(13,vM aJ e.kids),(14,vI (e.kids.length:Int)),(15,vI x_.2)] [(20,ar 82 g_ 2 aV x_.1)] [20]) 1 (lS) ?_
   rintro again4 ⟨x1,x2⟩ g3 h
   refine rq hC [] [16] [(16,vB (decide (x2<(e.kids.length:Int))))] [] [] (qs (aT h (fun c2 h=> ?_) (fun c2 h=> ?_)))
   ·refine qk (qs (qb ?_))
    obtain⟨x5,hx5,h⟩:=bd h
    refine rq hC [.z (.row (eM x5)),.z (.nat 21),oQ (fO aJ hx5 (dC x5))] [5,17,18] [(5,V.ref 21 0)] [(21,some (E.cells (dB x5)))] [(21,true)] ?_
    obtain⟨x6,hx6,x7,hx7,h⟩:=cV h
    exact rk hC [oC [] [22] (ih x5 hx6),.z (.at 2),.z (.fz 22 [21] []),oA (aO aV hx7),oQ (bP (r:=aV) 2 pN x1),oQ (bP (r:=aV) 2 pN x6)] [3,19,20,21,22] [(3,ms 20 (g3+1) 2 aV x7)] [(22,none),(20,some (ar 82 (g3+1) 2 aV x7))] [(22,true)] (rk hC [] [15,23] [(15,vI (wr (x2+1)))] [] [] ⟨(x7,wr (x2+1)),(g3+1),h,lS⟩)
   ·obtain rfl:=so h
    exact cK (rq hC [] [2,24] [(2,ms 20 g3 2 aV x1)] [] [] (qw (lk hC [.ren 2 20 0] [2] [(2,ms 0 1 2 aV x1)] [(0,some (ar 82 1 2 aV x1)),(20,none)] [(0,true)]) (qr eW)))
theorem rA(G:GS)(n:Nat)(s:List Access)(fF:FuncId)(fC0:List T)(fC1:List T)(f:Access→Option Bool)(hf: ∀(q0:Access) r,f q0=some r→PQ G fF [V.agg (cD q0),V.tp fC0,V.tp fC1] (vB r)){r:Int}(h:gE n s f=some r):PQ G 227 [vM aV s,V.fn fF [V.tp fC0,V.tp fC1]] (vI r):=by
 unfold gE at h
 refine pq aN Tryz.func227 rfl fun w X hC=> ?_
 refine rq hC [] [4] [] [] [] (qs (rq hC [oN aV s] [6,7,8] [(7,vI (s.length:Int)),(8,vI 0)] [] [] (qb (jG h (fun x_=>aW [(0,vM aV s),(1,V.fn fF [V.tp fC0,V.tp fC1]),(7,vI (s.length:Int)),(8,vI x_)] [] []) lS ?_))))
 rintro again2 x1 h
 refine rq hC [] [9] [(9,vB (decide (x1<(s.length:Int))))] [] [] (qs (aT h (fun c1 h=> ?_) (fun c1 h=> ?_)))
 ·refine qk (qs (qb (rq hC [] [5,10] [(5,vI x1)] [] [] ?_)))
  obtain⟨x3,hx3,x4,hx4,h⟩:=cV h
  refine rq hC [oR aV hx3,oV (hf x3 _ hx4)] (fr 11 6) [(16,vB x4)] [] [] (aT h (fun c2 h=> ?_) (fun c2 h=> ?_))
  ·obtain rfl:=so h
   exact rq hC [] [4,17] [(4,vI x1)] [] [] (qr eR)
  ·exact qk (rk hC [] [8,18] [(8,vI (wr (x1+1)))] [] [] (lE h))
 ·obtain rfl:=so h
  exact cK (rq hC [] [4] [(4,vI (-1))] [] [] (qr eR))
theorem pG(G:GS)(n:Nat)(s:List Access)(fF:FuncId)(fC0:List T)(fC1:List T)(f:Access→Option Bool)(hf: ∀(q0:Access) r,f q0=some r→PQ G fF [V.agg (cD q0),V.tp fC0,V.tp fC1] (vB r)){r:Bool}(h:dK n s f=some r):PQ G 171 [vM aV s,V.fn fF [V.tp fC0,V.tp fC1]] (vB r):=by
 unfold dK at h
 refine pq aN Tryz.func171 rfl fun w X hC=> ?_
 refine rq hC [] [4] [] [] [] ?_
 obtain⟨x1,hx1,h⟩:=bd h
 obtain rfl:=so h
 exact rq hC [oV (rA G n s fF fC0 fC1 f hf hx1)] (fr 4 5) [(4,vB (decide ((0:Int)≤x1)))] [] [] (qr eR)
theorem xM{p}{s}{point}{r}(h:fX n p s point=some r):PQ G 128 [V.agg (bJ p),V.agg (cR s),vM rI point] (vB r):=by
 unfold fX at h
 refine pq aN Tryz.func128 rfl fun w X hC=> ?_
 refine rq hC [.z (.b (true)),.z (.b (true)),.z (.b (true))] (fr 3 4) [(3,V.tp (cF p)),(4,V.tp (oG s)),(5,V.tp [T.sl (List.map rI point)])] [] [] (vj h (fun x_=>aW [(6,vB x_)] [] []) (fun j1 h=> ?_) (fun x5 h=> ?_))
 ·
  obtain⟨x2,hx2,h⟩:=bd h
  refine aS h (fun c1 h=> ?_) (fun c1 h=> ?_)
  ·exact rk hC ([oV (fZ G hx2)]++rF 7 c1) (fr 6 15) [(6,vB false)] [] [] (lE h)
  ·obtain⟨x3,hx3,x4,hx4,h⟩:=cV h
   exact rk hC ([oV (fZ G hx2)]++rT 3 c1++[oC [] [20] (aAu G n s.value hx3),oT c1,oT c1,.z (.b (true)),oV (pG G n x3 172 (cF p) [T.sl (List.map rI point)] (fun q0=>dN n q0 p point) (fun q0 r h=>uO G n q0 p point h) hx4),oT c1,oT c1]) (fr 6 15) [(6,vB (!x4))] [(20,some (ar 82 1 2 aV x3))] [(20,true)] (lE h)
 ·obtain rfl:=so h
  exact qr eR
theorem fI{s}{r}(h:n9 n s=some r):PQ G 162 [vS s] (vB r):=by
 unfold n9 at h
 refine pq aN Tryz.func162 rfl fun w X hC=> ?_
 refine rq hC [] [2] [] [] [] (vj h (fun x_=>aW [(2,vB x_)] [] []) (fun j1 h=> ?_) (fun x3 h=> ?_))
 ·
  refine aS h (fun c1 h=> ?_) (fun c1 h=> ?_)
  ·exact rk hC (rF 3 c1) (fr 2 8) [(2,vB false)] [] [] (lE h)
  ·obtain⟨x2,hx2,h⟩:=bd h
   exact rk hC [oT c1,oT c1,oV (G.contains [65,66,67,68] s x2 hx2),oT c1] (fr 2 8) [(2,vB x2)] [] [] (lE h)
 ·obtain rfl:=so h
  exact qr eR
theorem pU(G:GS)(n:Nat)(s:List Int)(fF:FuncId)(f:Int→Option Bool)(hf: ∀(q0:Int) r,f q0=some r→PQ G fF [vI q0] (vB r)){r:Int}(h:eU n s f=some r):PQ G 143 [vM rI s,V.fn fF []] (vI r):=by
 unfold eU at h
 refine pq aN Tryz.func143 rfl fun w X hC=> ?_
 refine rq hC [] [4] [] [] [] (qs (rq hC [oN rI s] [6,7,8] [(7,vI (s.length:Int)),(8,vI 0)] [] [] (qb (jG h (fun x_=>aW [(0,vM rI s),(1,V.fn fF []),(7,vI (s.length:Int)),(8,vI x_)] [] []) lS ?_))))
 rintro again2 x1 h
 refine rq hC [] [9] [(9,vB (decide (x1<(s.length:Int))))] [] [] (qs (aT h (fun c1 h=> ?_) (fun c1 h=> ?_)))
 ·refine qk (qs (qb (rq hC [] [5,10] [(5,vI x1)] [] [] ?_)))
  obtain⟨x3,hx3,x4,hx4,h⟩:=cV h
  refine rq hC [oR rI hx3,oV (hf x3 _ hx4)] (fr 11 6) [(16,vB x4)] [] [] (aT h (fun c2 h=> ?_) (fun c2 h=> ?_))
  ·obtain rfl:=so h
   exact rq hC [] [4,17] [(4,vI x1)] [] [] (qr eR)
  ·exact qk (rk hC [] [8,18] [(8,vI (wr (x1+1)))] [] [] (lE h))
 ·obtain rfl:=so h
  exact cK (rq hC [] [4] [(4,vI (-1))] [] [] (qr eR))
theorem fH(G:GS)(n:Nat)(s:List Int)(fF:FuncId)(f:Int→Option Bool)(hf: ∀(q0:Int) r,f q0=some r→PQ G fF [vI q0] (vB r)){r:Bool}(h:bT n s f=some r):PQ G 163 [vM rI s,V.fn fF []] (vB r):=by
 unfold bT at h
 refine pq aN Tryz.func163 rfl fun w X hC=> ?_
 refine rq hC [] [4] [] [] [] ?_
 obtain⟨x1,hx1,h⟩:=bd h
 obtain rfl:=so h
 exact rq hC [oV (pU G n s fF f hf hx1)] (fr 4 5) [(4,vB (decide ((0:Int)≤x1)))] [] [] (qr eR)
theorem uN(G:GS)(n:Nat)(n_a0:Int){r:Bool}(h:d7 n n_a0=some r):PQ G 164 [vI n_a0] (vB r):=by
 unfold d7 at h
 refine pq aN Tryz.func164 rfl fun w X hC=> ?_
 refine rq hC [] [2] [] [] [] ?_
 obtain⟨x1,hx1,h⟩:=bd h
 obtain rfl:=so h
 exact rq hC [oV (bK G hx1)] (fr 2 4) [(2,vB (!x1))] [] [] (qr eR)
theorem zD{list}{r}(h:o7 n list=some r):PQ G 122 [vM aI list] (vB r):=by
 unfold o7 at h
 refine pq aN Tryz.func122 rfl fun w X hC=> ?_
 refine rq hC [] [2] [] [] [] (qs (rq hC [oN aI list] [5,6,7] [(5,vM aI list),(6,vI (list.length:Int)),(7,vI 0)] [] [] (qb (jG h (fun x_=>aW [(0,vM aI list),(5,vM aI list),(6,vI (list.length:Int)),(7,vI x_)] [] []) lS ?_))))
 rintro again2 x1 h
 refine rq hC [] [8] [(8,vB (decide (x1<(list.length:Int))))] [] [] (qs (aT h (fun c1 h=> ?_) (fun c1 h=> ?_)))
 ·refine qk (qs (qb ?_))
  obtain⟨x3,hx3,h⟩:=bd h
  refine rq hC [oR aI hx3,.z (.nat 20)] [3,4,9,10,11] [(3,vI x1),(4,V.ref 20 0)] [(20,sc [vS x3.name,vM rI x3.dims])] [(20,true)] (vj h (fun x_=>aW [(0,vM aI list),(5,vM aI list),(6,vI (list.length:Int)),(7,vI x1),(42,vB x_)] [(20,E.cells [vS x3.name,vM rI x3.dims])] [20]) (fun j4 h=> ?_) (fun x11 h=> ?_))
  ·
   obtain⟨x5,hx5,h⟩:=bd h
   refine aS h (fun c2 h=> ?_) (fun c2 h=> ?_)
   ·refine aS h (fun c3 h=> ?_) (fun c3 h=> ?_)
    ·obtain⟨x6,hx6,h⟩:=bd h
     refine aS h (fun c4 h=> ?_) (fun c4 h=> ?_)
     ·obtain⟨x7,hx7,h⟩:=bd h
      exact dk hC bD ([oV (fI G hx5)]++rF 3 c2++rF 9 c3++[oF c2,oF c3,oF c2,eF,eF,eF,oN rI x3.dims,eF,oV (bK G hx6),eF,eF]++rF 3 c4++[oV (fH G n x3.dims 164 (fun q0=>d7 n q0) (fun q0 r h=>uN G n q0 h) hx7),oF c4]) (fr 12 31) [(42,vB x7)] [] [] (lE h)
     ·exact dk hC bD ([oV (fI G hx5)]++rF 3 c2++rF 9 c3++[oF c2,oF c3,oF c2,eF,eF,eF,oN rI x3.dims,eF,oV (bK G hx6),eF,eF]++rT 4 c4) (fr 12 31) [(42,vB true)] [] [] (lE h)
    ·obtain⟨x8,hx8,h⟩:=bd h
     refine aS h (fun c5 h=> ?_) (fun c5 h=> ?_)
     ·obtain⟨x9,hx9,h⟩:=bd h
      refine aS h (fun c6 h=> ?_) (fun c6 h=> ?_)
      ·obtain⟨x10,hx10,h⟩:=bd h
       exact dk hC bD ([oV (fI G hx5)]++rF 3 c2++rT 4 c3++[oR aI hx8]++rT 5 c3++[oF c2,oT c3,oF c2]++rF 3 c5++[oN rI x3.dims,oF c5,oV (bK G hx9),oF c5,oF c5]++rF 3 c6++[oV (fH G n x3.dims 164 (fun q0=>d7 n q0) (fun q0 r h=>uN G n q0 h) hx10),oF c6]) (fr 12 31) [(42,vB x10)] [] [] (lE h)
      ·exact dk hC bD ([oV (fI G hx5)]++rF 3 c2++rT 4 c3++[oR aI hx8]++rT 5 c3++[oF c2,oT c3,oF c2]++rF 3 c5++[oN rI x3.dims,oF c5,oV (bK G hx9),oF c5,oF c5]++rT 4 c6) (fr 12 31) [(42,vB true)] [] [] (lE h)
     ·exact dk hC bD ([oV (fI G hx5)]++rF 3 c2++rT 4 c3++[oR aI hx8]++rT 5 c3++[oF c2,oT c3,oF c2]++rT 6 c5++sT 4) (fr 12 31) [(42,vB true)] [] [] (lE h)
   ·exact dk hC bD ([oV (fI G hx5)]++rT 5 c2++sT 10) (fr 12 31) [(42,vB true)] [] [] (lE h)
  ·refine aT h (fun c7 h=> ?_) (fun c7 h=> ?_)
   ·obtain rfl:=so h
    exact rq hC [] [2] [(2,vB false)] [] [] (qr eR)
   ·exact qk (rk hC [] [7,43] [(7,vI (wr (x1+1)))] [] [] (lE h))
 ·obtain rfl:=so h
  exact cK (rq hC [oN aI list] [2,44,45,46] [(2,vB (decide ((list.length:Int)≤4)))] [] [] (qr eR))
theorem jC{a}{r}(h:eO n a=some r):PQ G 152 [V.agg (aK a)] (vI r):=by
 unfold eO at h
 refine pq aN Tryz.func152 rfl fun w X hC=> ?_
 refine rq hC [.z (.b (true))] [1,2] [(1,V.tp (aR a))] [] [] (rq hC [oN rI a.coefs] (fr 3 4) [(3,vI (a.coefs.length:Int))] [] [] (qs (qb (jG h (fun x_=>aW [(1,V.tp (aR a)),(3,vI x_)] [] []) lS ?_))))
 rintro again2 x1 h
 refine qs (vj h (fun x_=>aW [(1,V.tp (aR a)),(3,vI x1),(17,vB x_)] [] []) (fun j3 h=> ?_) (fun x5 h=> ?_))
 ·
  refine aS h (fun c1 h=> ?_) (fun c1 h=> ?_)
  ·exact rk hC (rF 8 c1) (fr 7 11) [(17,vB false)] [] [] (lE h)
  ·obtain⟨x4,hx4,h⟩:=bd h
   exact rk hC (rT 5 c1++[oR rI hx4]++rT 3 c1) (fr 7 11) [(17,vB (decide (x4=0)))] [] [] (lE h)
 ·refine aT h (fun c2 h=> ?_) (fun c2 h=> ?_)
  ·exact qk (qb (rk hC [] [3,18,19] [(3,vI (wr (x1-1)))] [] [] (lE h)))
  ·obtain rfl:=so h
   exact cK (rq hC [] [2,20] [(2,vI x1)] [] [] (qr eR))
theorem F6{n_a0}{r}(h:vD n n_a0=some r):PQ G 261 [vI n_a0] (vB r):=by
 unfold vD at h
 refine pq aN Tryz.func261 rfl fun w X hC=> ?_
 refine rq hC [] [2] [] [] [] ?_
 obtain⟨x1,hx1,h⟩:=bd h
 obtain rfl:=so h
 exact rq hC [oV (bK G hx1)] [2,3,4] [(2,vB x1)] [] [] (qr eR)
theorem zH(G:GS)(n:Nat)(c:Int){r:Bool}(h:eZ n c=some r):PQ G 262 [vI c] (vB r):=by
 unfold eZ at h
 refine pq aN Tryz.func262 rfl fun w X hC=> ?_
 refine rq hC [] [2] [] [] [] ?_
 obtain⟨x1,hx1,h⟩:=bd h
 obtain rfl:=so h
 exact rq hC [oV (bK G hx1)] (fr 2 4) [(2,vB (!x1))] [] [] (qr eR)
theorem d4{a}{r}(h:fL n a=some r):PQ G 223 [V.agg (aK a)] (vB r):=by
 unfold fL at h
 refine pq aN Tryz.func223 rfl fun w X hC=> ?_
 refine rq hC [.z (.b (true))] [1,2] [(1,V.tp (aR a))] [] [] (vj h (fun x_=>aW [(2,vB x_)] [] []) (fun j1 h=> ?_) (fun x4 h=> ?_))
 ·
  refine aS h (fun c1 h=> ?_) (fun c1 h=> ?_)
  ·exact rk hC ([oN rI a.coefs]++rF 4 c1++sF 5) (fr 2 16) [(2,vB false)] [] [] (lE h)
  ·obtain⟨x2,hx2,h⟩:=bd h
   refine aS h (fun c2 h=> ?_) (fun c2 h=> ?_)
   ·exact rk hC ([oN rI a.coefs]++rT 3 c1++[oV (F6 G hx2),oT c1]++rF 5 c2) (fr 2 16) [(2,vB false)] [] [] (lE h)
   ·obtain⟨x3,hx3,h⟩:=bd h
    exact rk hC ([oN rI a.coefs]++rT 3 c1++[oV (F6 G hx2),oT c1]++rT 3 c2++[oV (fH G n a.coefs 262 (fun q0=>eZ n q0) (fun q0 r h=>zH G n q0 h) hx3),oT c2,oT c2]) (fr 2 16) [(2,vB (!x3))] [] [] (lE h)
 ·obtain rfl:=so h
  exact qr eR
theorem U0(G:GS)(n:Nat)(a:Affine)(c0__a1:Int){r:Bool}(h:gF n a c0__a1=some r):PQ G 260 [V.agg (aK a),V.tp [T.int .i64 c0__a1]] (vB r):=by
 unfold gF at h
 refine pq aN Tryz.func260 rfl fun w X hC=> ?_
 refine rq hC [.z (.b (true))] [2,3] [(2,V.tp (aR a))] [] [] (vj h (fun x_=>aW [(3,vB x_)] [] []) (fun j1 h=> ?_) (fun x4 h=> ?_))
 ·
  obtain⟨x2,hx2,h⟩:=bd h
  refine aS h (fun c1 h=> ?_) (fun c1 h=> ?_)
  ·obtain⟨x3,hx3,h⟩:=bd h
   exact dk hC bD ([oV (d4 G hx2),oF c1,oF c1,oV (jC G hx3)]++rF 3 c1) (fr 3 10) [(3,vB (decide (c0__a1<x3)))] [] [] (lE h)
  ·exact dk hC bD ([oV (d4 G hx2)]++rT 5 c1) (fr 3 10) [(3,vB true)] [] [] (lE h)
 ·obtain rfl:=so h
  exact qr eR
theorem q9(G:GS)(n:Nat)(s:List Affine)(fF:FuncId)(fC0:List T)(f:Affine→Option Bool)(hf: ∀(q0:Affine) r,f q0=some r→PQ G fF [V.agg (aK q0),V.tp fC0] (vB r)){r:Int}(h:gD n s f=some r):PQ G 201 [vM aA s,V.fn fF [V.tp fC0]] (vI r):=by
 unfold gD at h
 refine pq aN Tryz.func201 rfl fun w X hC=> ?_
 refine rq hC [] [4] [] [] [] (qs (rq hC [oN aA s] [6,7,8] [(7,vI (s.length:Int)),(8,vI 0)] [] [] (qb (jG h (fun x_=>aW [(0,vM aA s),(1,V.fn fF [V.tp fC0]),(7,vI (s.length:Int)),(8,vI x_)] [] []) lS ?_))))
 rintro again2 x1 h
 refine rq hC [] [9] [(9,vB (decide (x1<(s.length:Int))))] [] [] (qs (aT h (fun c1 h=> ?_) (fun c1 h=> ?_)))
 ·refine qk (qs (qb (rq hC [] [5,10] [(5,vI x1)] [] [] ?_)))
  obtain⟨x3,hx3,x4,hx4,h⟩:=cV h
  refine rq hC [oR aA hx3,oV (hf x3 _ hx4)] (fr 11 6) [(16,vB x4)] [] [] (aT h (fun c2 h=> ?_) (fun c2 h=> ?_))
  ·obtain rfl:=so h
   exact rq hC [] [4,17] [(4,vI x1)] [] [] (qr eR)
  ·exact qk (rk hC [] [8,18] [(8,vI (wr (x1+1)))] [] [] (lE h))
 ·obtain rfl:=so h
  exact cK (rq hC [] [4] [(4,vI (-1))] [] [] (qr eR))
theorem iO(G:GS)(n:Nat)(s:List Affine)(fF:FuncId)(fC0:List T)(f:Affine→Option Bool)(hf: ∀(q0:Affine) r,f q0=some r→PQ G fF [V.agg (aK q0),V.tp fC0] (vB r)){r:Bool}(h:cO n s f=some r):PQ G 150 [vM aA s,V.fn fF [V.tp fC0]] (vB r):=by
 unfold cO at h
 refine pq aN Tryz.func150 rfl fun w X hC=> ?_
 refine rq hC [] [4] [] [] [] ?_
 obtain⟨x1,hx1,h⟩:=bd h
 obtain rfl:=so h
 exact rq hC [oV (q9 G n s fF fC0 f hf hx1)] (fr 4 5) [(4,vB (decide ((0:Int)≤x1)))] [] [] (qr eR)
theorem sP{list}{depth}{r}(h:l7 n list depth=some r):PQ G 220 [vM aA list,vI depth] (vB r):=by
 unfold l7 at h
 refine pq aN Tryz.func220 rfl fun w X hC=> ?_
 refine rq hC [.z (.b (true))] [3,4] [(3,V.tp [T.int .i64 depth])] [] [] (vj h (fun x_=>aW [(4,vB x_)] [] []) (fun j1 h=> ?_) (fun x4 h=> ?_))
 ·
  obtain⟨x2,hx2,h⟩:=bd h
  refine aS h (fun c1 h=> ?_) (fun c1 h=> ?_)
  ·exact rk hC ([oN aA list,oV (bK G hx2)]++rF 5 c1) (fr 4 10) [(4,vB false)] [] [] (lE h)
  ·obtain⟨x3,hx3,h⟩:=bd h
   exact rk hC ([oN aA list,oV (bK G hx2)]++rT 3 c1++[oV (iO G n list 260 [T.int .i64 depth] (fun q0=>gF n q0 depth) (fun q0 r h=>U0 G n q0 depth h) hx3),oT c1,oT c1]) (fr 4 10) [(4,vB (!x3))] [] [] (lE h)
 ·obtain rfl:=so h
  exact qr eR
theorem X2{nest}{r}(h:mX n nest=some r):PQ G 165 [vM aC nest] (vB r):=by
 unfold mX at h
 refine pq aN Tryz.func165 rfl fun w X hC=> ?_
 refine rq hC [] [2] [] [] [] (qs (rq hC [oN aC nest] [5,6,7] [(5,vM aC nest),(6,vI (nest.length:Int)),(7,vI 0)] [] [] (qb (jG h (fun x_=>aW [(0,vM aC nest),(5,vM aC nest),(6,vI (nest.length:Int)),(7,vI x_)] [] []) lS ?_))))
 rintro again2 x1 h
 refine rq hC [] [8] [(8,vB (decide (x1<(nest.length:Int))))] [] [] (qs (aT h (fun c1 h=> ?_) (fun c1 h=> ?_)))
 ·refine qk (qs (qb ?_))
  obtain⟨x3,hx3,h⟩:=bd h
  refine rq hC [oR aC hx3,.z (.nat 20)] [3,4,9,10,11] [(3,vI x1),(4,V.ref 20 0)] [(20,some (E.cells (kN x3)))] [(20,true)] (vj h (fun x_=>aW [(0,vM aC nest),(5,vM aC nest),(6,vI (nest.length:Int)),(7,vI x1),(23,vB x_)] [(20,E.cells (kN x3))] [20]) (fun j4 h=> ?_) (fun x7 h=> ?_))
  ·
   obtain⟨x5,hx5,h⟩:=bd h
   refine aS h (fun c2 h=> ?_) (fun c2 h=> ?_)
   ·obtain⟨x6,hx6,h⟩:=bd h
    exact rk hC ([oV (sP G hx5)]++rF 4 c2++[oV (sP G hx6),oF c2,oF c2]) (fr 12 12) [(23,vB (!x6))] [] [] (lE h)
   ·exact rk hC ([oV (sP G hx5)]++rT 6 c2) (fr 12 12) [(23,vB true)] [] [] (lE h)
  ·refine aT h (fun c3 h=> ?_) (fun c3 h=> ?_)
   ·obtain rfl:=so h
    exact rq hC [] [2] [(2,vB false)] [] [] (qr eR)
   ·exact qk (rk hC [] [7,24] [(7,vI (wr (x1+1)))] [] [] (lE h))
 ·obtain rfl:=so h
  exact cK (rq hC [oN aC nest] [2,25,26,27] [(2,vB (decide ((nest.length:Int)≤4)))] [] [] (qr eR))
theorem X3{l}{point}{r}(h:mY n l point=some r):PQ G 221 [V.agg (kN l),vM rI point] (V.tup [vI r.1,vI r.2]):=by
 unfold mY at h
 refine pq aN Tryz.func221 rfl fun w X hC=> ?_
 refine rq hC [.z (.b (true))] [2,4,5] [(2,V.tp (vX l))] [] [] (qs ?_)
 obtain⟨x1,hx1,x2,hx2,x3,hx3,h⟩:=jI h
 obtain⟨x4,hx4,h⟩:=bd h
 refine dk hC bD [oR aA hx1,oV (gP G hx2),oR aA hx3,oV (gP G hx4)] [6,7,12,13,14,15,16,17,18,19,20,21,22,23] [(6,vI x2),(7,vI x4)] [] [] (qs (rq hC [oN aA l.lo] (fr 24 4) [(25,vM aA l.lo),(26,vI (l.lo.length:Int)),(27,vI 0)] [] [] (qb (jG h (fun x_=>aW [(1,vM rI point),(2,V.tp (vX l)),(6,vI x_.1),(7,vI x4),(25,vM aA l.lo),(26,vI (l.lo.length:Int)),(27,vI x_.2)] [] []) lS ?_))))
 rintro again7 ⟨x5,x6⟩ h
 refine rq hC [] [28] [(28,vB (decide (x6<(l.lo.length:Int))))] [] [] (qs (aT h (fun c1 h=> ?_) (fun c1 h=> ?_)))
 ·refine qk (qs (qb ?_))
  obtain⟨x8,hx8,h⟩:=bd h
  refine rq hC [oR aA hx8,.z (.nat 20)] [9,29,30] [(9,V.ref 20 0)] [(20,some (E.cells (aK x8)))] [(20,true)] ?_
  obtain⟨x9,hx9,h⟩:=bd h
  exact rk hC [oV (gP G hx9)] [6,31,32,33,34,35] [(6,vI (max x5 x9))] [] [] (rk hC [] [27,36] [(27,vI (wr (x6+1)))] [] [] (lE h))
 ·refine cK (qs (rq hC [oN aA l.hi] (fr 37 4) [(38,vM aA l.hi),(39,vI (l.hi.length:Int)),(40,vI 0)] [] [] (qb (jG h (fun x_=>aW [(1,vM rI point),(6,vI x5),(7,vI x_.1),(38,vM aA l.hi),(39,vI (l.hi.length:Int)),(40,vI x_.2)] [] []) lS ?_))))
  rintro again12 ⟨x10,x11⟩ h
  refine rq hC [] [41] [(41,vB (decide (x11<(l.hi.length:Int))))] [] [] (qs (aT h (fun c2 h=> ?_) (fun c2 h=> ?_)))
  ·refine qk (qs (qb ?_))
   obtain⟨x13,hx13,h⟩:=bd h
   refine rq hC [oR aA hx13,.z (.nat 20)] [11,42,43] [(11,V.ref 20 0)] [(20,some (E.cells (aK x13)))] [(20,true)] ?_
   obtain⟨x14,hx14,h⟩:=bd h
   exact rk hC [oV (gP G hx14)] [7,44,45,46,47,48] [(7,vI (min x10 x14))] [] [] (rk hC [] [40,49] [(40,vI (wr (x11+1)))] [] [] (lE h))
  ·obtain rfl:=so h
   exact cK (rq hC [] [4,5,50,51] [(4,vI x5),(5,vI x10)] [] [] (qr eR))
theorem C4(G:GS): ∀(n:Nat) (w_a0:Walking) (w_a0G2:Nat) (point:List Int) {r:Bool×Walking} (h:i_walking_walk n w_a0 point=some r),VQ G 166 [E.cells [vM aC w_a0.nest,vI w_a0.steps,ms 1 w_a0G2 1 (rL rI) w_a0.out],ar 33 w_a0G2 1 (rL rI) w_a0.out] [V.ref 0 0,vM rI point] (vB r.1) [E.cells [vM aC r.2.nest,vI r.2.steps,ms 1 (w_a0G2+1) 1 (rL rI) r.2.out],ar 33 (w_a0G2+1) 1 (rL rI) r.2.out]:=by
 intro n
 induction n with
 |zero=>intro w_a0 w_a0G2 point r h;rw [i_walking_walk.eq_def] at h;cases h
 |succ n ih=>
  intro w_a0 w_a0G2 point r h
  rw [i_walking_walk.eq_def] at h;dsimp only at h
  refine vq aN Tryz.func166 rfl fun w X β0 hC hg=> ?_
  refine rq hC [] [4] [] [] [] (qs (rq hC [oN rI point,oN aC w_a0.nest] (fr 8 8) [(15,vB (decide ((point.length:Int)=(w_a0.nest.length:Int))))] [] [] (aT h (fun c1 h=> ?_) (fun c1 h=> ?_))))
  ·refine qs ?_
   obtain⟨x1,hx1,x2,hx2,h⟩:=cV h
   obtain rfl:=so h
   exact dk hC bD [oC [] [20] (G.clone point hx1),.z (.at 5),.z (.fz 20 [22] []),.z (.int 0),oA (aO (rL rI) hx2),oQ (bP (r:=(rL rI)) 1 (fun _=>rfl) w_a0.out),oQ (bP (r:=(rL rI)) 1 (fun _=>rfl) [x1])] (fr 16 11) [] [(20,none),(1,some (ar 33 (w_a0G2+1) 1 (rL rI) x2)),(0,sc [vM aC w_a0.nest,vI w_a0.steps,ms 1 (w_a0G2+1) 1 (rL rI) x2])] [(20,true)] (rq hC [oN (rL rI) x2] [4,27,28,29,30,31,32] [(4,vB (decide ((x2.length:Int)≤120)))] [] [] (qw (dT 0 2 1 w_a0G2 (w_a0G2+1) 1 0 (List.map (rL rI) x2).length (e:= .arr 33 (w_a0G2+1) 1 (List.map (rL rI) x2)) (cs:=[vM aC w_a0.nest,vI w_a0.steps,ms 1 (w_a0G2+1) 1 (rL rI) x2]) rfl (by kernel_rfl) (by kernel_rfl) (by kernel_rfl) (by kernel_rfl) rfl rfl hg.2.1) (qr eW)))
  ·refine qk ?_
   obtain⟨x3,hx3,x4,hx4,h⟩:=cV h
   refine rq hC [oN rI point,oR aC hx3,oV (X3 G hx4)] [5,6,33,34,35,36,37,38,39,40,41,42,43,44,45] [(5,vI x4.1),(6,vI x4.2)] [] [] (qs (rq hC [] [7,46] [(7,vI x4.1)] [] [] (qb (aZ (γ:=Nat) h (fun x_ g_=>aW [(0,V.ref 0 0),(1,vM rI point),(6,vI x4.2),(7,vI x_.2.2.2)] [(0,E.cells [vM aC x_.1,vI x_.2.1,ms 1 g_ 1 (rL rI) x_.2.2.1]),(1,ar 33 g_ 1 (rL rI) x_.2.2.1)] [0,1]) w_a0G2 (lS) ?_))))
   rintro again10 ⟨x5,x6,x7,x8⟩ g9 h
   refine qs (rq hC [] [47,48,49] [(49,vB (decide (x8<x4.2)))] [] [] (aT h (fun c2 h=> ?_) (fun c2 h=> ?_)))
   ·refine qk (qs (qb (rq hC [] (fr 52 7) [] [(0,sc [vM aC x5,vI (wr (x6+1)),ms 1 g9 1 (rL rI) x7])] [] ?_)))
    obtain⟨j11,hj11,h⟩:=A8 h
    refine kQ (γ:=Nat) (j:=j11) (r:=r) (fun x_ g_=>aW [(0,V.ref 0 0),(1,vM rI point),(6,vI x4.2),(7,vI x8),(74,vB x_.2.2.2)] [(0,E.cells [vM aC x_.1,vI x_.2.1,ms 1 g_ 1 (rL rI) x_.2.2.1]),(1,ar 33 g_ 1 (rL rI) x_.2.2.1)] [0,1]) ?_ ?_
    ·
     refine aS h (fun c3 h=> ?_) (fun c3 h=> ?_)
     ·obtain⟨x12,hx12,x13,hx13,x14,hx14,h⟩:=jI h
      exact rk hC (rF 3 c3++[oC [] [20] (G.clone point hx12),oF c3,oF c3,.z (.int 0),oF c3,oA (aO rI hx13),.z (.at 3),.z (.fz 20 [71] []),oQ (bP (r:=rI) 1 (fun _=>rfl) x12),oQ (bP (r:=rI) 1 (fun _=>rfl) [x8]),oF c3,oC [0,1] [] (ih (⟨x5,wr (x6+1),x7⟩:Walking) g9 x13 hx14),oF c3,oF c3]) (fr 59 16) [(74,vB (!x14.1))] [(20,none),(1,some (ar 33 (g9+1) 1 (rL rI) x14.2.out)),(0,sc [vM aC x14.2.nest,vI x14.2.steps,ms 1 (g9+1) 1 (rL rI) x14.2.out])] [(20,true),(0,true),(1,true)] ⟨(x14.2.nest,x14.2.steps,x14.2.out, !x14.1),(g9+1),h,lS⟩
     ·exact rk hC (rT 9 c3) (fr 59 16) [(74,vB true)] [] [] ⟨(x5,wr (x6+1),x7,true),g9,h,lS⟩
    ·rintro⟨x15,x16,x17,x18⟩ g19 h
     subst hj11
     refine aT h (fun c4 h=> ?_) (fun c4 h=> ?_)
     ·obtain rfl:=so h
      exact rq hC [] [4] [(4,vB false)] [] [] (qw (dT 0 2 1 w_a0G2 g19 1 0 (List.map (rL rI) x17).length (e:= .arr 33 g19 1 (List.map (rL rI) x17)) (cs:=[vM aC x15,vI x16,ms 1 g19 1 (rL rI) x17]) rfl (by kernel_rfl) (by kernel_rfl) (by kernel_rfl) (by kernel_rfl) rfl rfl hg.2.1) (qr eW))
     ·exact qk (rk hC [] [7,50,51] [(7,vI (wr (x8+1)))] [] [] ⟨(x15,x16,x17,wr (x8+1)),g19,h,lS⟩)
   ·obtain rfl:=so h
    exact cK (rq hC [] [4] [(4,vB true)] [] [] (qw (dT 0 2 1 w_a0G2 g9 1 0 (List.map (rL rI) x7).length (e:= .arr 33 g9 1 (List.map (rL rI) x7)) (cs:=[vM aC x5,vI x6,ms 1 g9 1 (rL rI) x7]) rfl (by kernel_rfl) (by kernel_rfl) (by kernel_rfl) (by kernel_rfl) rfl rfl hg.2.1) (qr eW)))
theorem U3{nest}{r}(h:lI n nest=some r):VQ G 123 [] [vM aC nest] (V.tup [ms 0 1 1 (rL rI) r.1,vB r.2]) [ar 33 1 1 (rL rI) r.1]:=by
 unfold lI at h
 refine vq aN Tryz.func123 rfl fun w X β0 hC hg=> ?_
 refine rq hC [] [2,3] [] [] [] (qs ?_)
 obtain⟨x1,hx1,h⟩:=bd h
 refine rq hC [oV (X2 G hx1)] [5,6,7] [(7,vB (!x1))] [] [] (aT h (fun c1 h=> ?_) (fun c1 h=> ?_))
 ·obtain rfl:=so h
  exact rq hC [] [2,3] [(2,V.t T.nilS),(3,vB false)] [] [] (qw (lk hC [.grow 2 0 33] [2] [(2,ms 0 1 1 (rL rI) [])] [(0,some (ar 33 1 1 (rL rI) []))] [(0,true)]) (qr eW))
 ·refine qk (rq hC [.z (.nat 20)] [4,8,9,10] [(4,V.ref 20 0)] [(20,sc [vM aC nest,vI 0,V.t T.nilS])] [(20,true)] (qs ?_))
  obtain⟨x2,hx2,h⟩:=bd h
  refine rq hC [.z (.at 2),.z (.growc 20 2 21 33),oC [20,21] [] (C4 G n (⟨nest,0,[]⟩:Walking) 1 [] hx2)] [11,12,13] [(13,vB (!x2.1))] [(21,some (ar 33 2 1 (rL rI) x2.2.out)),(20,sc [vM aC x2.2.nest,vI x2.2.steps,ms 21 2 1 (rL rI) x2.2.out])] [(21,true),(20,true),(21,true)] (aT h (fun c2 h=> ?_) (fun c2 h=> ?_))
  ·obtain rfl:=so h
   exact rq hC [] [2,3] [(2,V.t T.nilS),(3,vB false)] [] [] (qw (lk hC [.grow 2 0 33] [2] [(2,ms 0 1 1 (rL rI) [])] [(0,some (ar 33 1 1 (rL rI) []))] [(0,true)]) (qr eW))
  ·obtain rfl:=so h
   exact qk (rq hC [] [2,3,14,15,16,17] [(2,ms 21 2 1 (rL rI) x2.2.out),(3,vB true)] [] [] (qw (lk hC [.ren 2 21 0] [2] [(2,ms 0 1 1 (rL rI) x2.2.out)] [(0,some (ar 33 1 1 (rL rI) x2.2.out)),(21,none)] [(0,true)]) (qr eW)))
theorem U1(G:GS)(n:Nat)(s:Affine)(c0__a1:Int){r:Bool}(h:i8 n s c0__a1=some r):PQ G 222 [V.agg (aK s),V.tp [T.int .i64 c0__a1]] (vB r):=by
 unfold i8 at h
 refine pq aN Tryz.func222 rfl fun w X hC=> ?_
 refine rq hC [.z (.b (true))] [2,3] [(2,V.tp (aR s))] [] [] (vj h (fun x_=>aW [(3,vB x_)] [] []) (fun j1 h=> ?_) (fun x4 h=> ?_))
 ·
  obtain⟨x2,hx2,h⟩:=bd h
  refine aS h (fun c1 h=> ?_) (fun c1 h=> ?_)
  ·obtain⟨x3,hx3,h⟩:=bd h
   exact dk hC bD ([oV (d4 G hx2),oF c1,oF c1,oV (jC G hx3)]++rF 3 c1) (fr 3 10) [(3,vB (decide (c0__a1<x3)))] [] [] (lE h)
  ·exact dk hC bD ([oV (d4 G hx2)]++rT 5 c1) (fr 3 10) [(3,vB true)] [] [] (lE h)
 ·obtain rfl:=so h
  exact qr eR
theorem nV{a}{depth}{r}(h:l8 n a depth=some r):PQ G 168 [V.agg (cD a),vI depth] (vB r):=by
 unfold l8 at h
 refine pq aN Tryz.func168 rfl fun w X hC=> ?_
 refine rq hC [.z (.b (true)),.z (.b (true))] [2,3,4] [(2,V.tp (dO a)),(3,V.tp [T.int .i64 depth])] [] [] (vj h (fun x_=>aW [(4,vB x_)] [] []) (fun j1 h=> ?_) (fun x5 h=> ?_))
 ·
  obtain⟨x2,hx2,h⟩:=bd h
  refine aS h (fun c1 h=> ?_) (fun c1 h=> ?_)
  ·exact rk hC ([oV (fI G hx2)]++rF 5 c1++sF 6) (fr 4 17) [(4,vB false)] [] [] (lE h)
  ·obtain⟨x3,hx3,h⟩:=bd h
   refine aS h (fun c2 h=> ?_) (fun c2 h=> ?_)
   ·exact rk hC ([oV (fI G hx2)]++rT 3 c1++[oN aA a.subs,oT c1,oV (bK G hx3),oT c1]++rF 6 c2) (fr 4 17) [(4,vB false)] [] [] (lE h)
   ·obtain⟨x4,hx4,h⟩:=bd h
    exact rk hC ([oV (fI G hx2)]++rT 3 c1++[oN aA a.subs,oT c1,oV (bK G hx3),oT c1]++rT 4 c2++[oV (iO G n a.subs 222 [T.int .i64 depth] (fun q0=>i8 n q0 depth) (fun q0 r h=>U1 G n q0 depth h) hx4),oT c2,oT c2]) (fr 4 17) [(4,vB (!x4))] [] [] (lE h)
 ·obtain rfl:=so h
  exact qr eR
theorem jB{a}{r}(h:l6 n a=some r):PQ G 224 [V.agg (aK a)] (vB r):=by
 unfold l6 at h
 refine pq aN Tryz.func224 rfl fun w X hC=> ?_
 refine rq hC [.z (.b (true))] [1,2] [(1,V.tp (aR a))] [] [] (vj h (fun x_=>aW [(2,vB x_)] [] []) (fun j1 h=> ?_) (fun x2 h=> ?_))
 ·
  refine aS h (fun c1 h=> ?_) (fun c1 h=> ?_)
  ·exact rk hC ([oN rI a.coefs]++rF 4 c1) (fr 2 10) [(2,vB false)] [] [] (lE h)
  ·exact rk hC ([oN rI a.coefs]++rT 4 c1) (fr 2 10) [(2,vB (decide (a.const=0)))] [] [] (lE h)
 ·obtain rfl:=so h
  exact qr eR
theorem nU{a}{r}(h:iK n a=some r):PQ G 225 [V.agg (cD a)] (vB r):=by
 unfold iK at h
 refine pq aN Tryz.func225 rfl fun w X hC=> ?_
 refine rq hC [.z (.b (true))] [1,2] [(1,V.tp (dO a))] [] [] (vj h (fun x_=>aW [(2,vB x_)] [] []) (fun j1 h=> ?_) (fun x2 h=> ?_))
 ·
  refine aS h (fun c1 h=> ?_) (fun c1 h=> ?_)
  ·exact rk hC (rF 5 c1) (fr 2 10) [(2,vB false)] [] [] (lE h)
  ·exact rk hC (rT 3 c1++[oN aA a.subs,oT c1,oT c1]) (fr 2 10) [(2,vB (decide ((a.subs.length:Int)=0)))] [] [] (lE h)
 ·obtain rfl:=so h
  exact qr eR
theorem aCZ{kind}{r}(h:O7 n kind=some r):PQ G 226 [vI kind] (vB r):=by
 unfold O7 at h
 refine pq aN Tryz.func226 rfl fun w X hC=> ?_
 refine rq hC [] [2] [] [] [] ?_
 obtain⟨x1,hx1,h⟩:=bd h
 obtain rfl:=so h
 exact rq hC [oV (bK G hx1)] [2,3,4] [(2,vB x1)] [] [] (qr eR)
theorem aBs(G:GS): ∀(n:Nat) (e:Expr) (depth:Int) (deep:Int) (count:Int) {r:Bool×Int} (h:i_exprScan n e depth deep count=some r),VQ G 169 [E.cells [vI count]] [V.agg (dB e),vI depth,vI deep,V.ref 0 0] (vB r.1) [E.cells [vI r.2]]:=by
 intro n
 induction n with
 |zero=>intro e depth deep count r h;rw [i_exprScan.eq_def] at h;cases h
 |succ n ih=>
  intro e depth deep count r h
  rw [i_exprScan.eq_def] at h;dsimp only at h
  refine vq aN Tryz.func169 rfl fun w X β0 hC hg=> ?_
  refine rq hC [.z (.b (true))] [4,8] [(4,V.tp (fM e))] [] [] (rq hC [] (fr 9 5) [] [(0,sc [vI (wr (count+1))])] [] (qs (vj h (fun x_=>aW [(1,vI depth),(2,vI deep),(3,V.ref 0 0),(4,V.tp (fM e)),(21,vB x_)] [(0,E.cells [vI (wr (count+1))])] [0]) (fun j1 h=> ?_) (fun x2 h=> ?_))))
  ·
   refine aS h (fun c1 h=> ?_) (fun c1 h=> ?_)
   ·exact rk hC (rF 3 c1) (fr 14 8) [(21,vB (decide ((5:Int)<deep)))] [] [] (lE h)
   ·exact rk hC (rT 3 c1) (fr 14 8) [(21,vB true)] [] [] (lE h)
  ·refine aT h (fun c2 h=> ?_) (fun c2 h=> ?_)
   ·obtain rfl:=so h
    exact rq hC [] [8] [(8,vB false)] [] [] (qr eW)
   ·refine qk (qs (vj h (fun x_=>aW [(1,vI depth),(2,vI deep),(3,V.ref 0 0),(4,V.tp (fM e)),(51,vB x_)] [(0,E.cells [vI (wr (count+1))])] [0]) (fun j3 h=> ?_) (fun x10 h=> ?_)))
    ·
     refine aS h (fun c3 h=> ?_) (fun c3 h=> ?_)
     ·refine aS h (fun c4 h=> ?_) (fun c4 h=> ?_)
      ·refine aS h (fun c5 h=> ?_) (fun c5 h=> ?_)
       ·exact rk hC (rF 4 c3++sF 4++rF 4 c4++[eF,oF c4]++sF 5++rF 4 c5++[eF,oF c5,eF]) (fr 22 30) [(51,vB false)] [] [] (lE h)
       ·obtain⟨x4,hx4,h⟩:=bd h
        exact rk hC (rF 4 c3++sF 4++rF 4 c4++[eF,oF c4]++sF 5++rT 3 c5++[oV (nU G hx4),oT c5,eF,oT c5,eF]) (fr 22 30) [(51,vB (!x4))] [] [] (lE h)
      ·obtain⟨x5,hx5,h⟩:=bd h
       refine aS h (fun c6 h=> ?_) (fun c6 h=> ?_)
       ·refine aS h (fun c7 h=> ?_) (fun c7 h=> ?_)
        ·exact rk hC (rF 4 c3++sF 4++rT 3 c4++[oV (jB G hx5),oT c4,eF,oT c4,eF]++rF 4 c6++rF 4 c7++[oF c6,oF c7,oF c6]) (fr 22 30) [(51,vB false)] [] [] (lE h)
        ·obtain⟨x6,hx6,h⟩:=bd h
         exact rk hC (rF 4 c3++sF 4++rT 3 c4++[oV (jB G hx5),oT c4,eF,oT c4,eF]++rF 4 c6++rT 3 c7++[oV (nU G hx6),oT c7,oF c6,oT c7,oF c6]) (fr 22 30) [(51,vB (!x6))] [] [] (lE h)
       ·exact rk hC (rF 4 c3++sF 4++rT 3 c4++[oV (jB G hx5),oT c4,eF,oT c4,eF]++rT 6 c6) (fr 22 30) [(51,vB true)] [] [] (lE h)
     ·refine aS h (fun c8 h=> ?_) (fun c8 h=> ?_)
      ·refine aS h (fun c9 h=> ?_) (fun c9 h=> ?_)
       ·refine aS h (fun c10 h=> ?_) (fun c10 h=> ?_)
        ·exact rk hC (rT 4 c3++rF 4 c8++rF 4 c9++[oF c8,oF c9,oF c8]++sF 4++rF 4 c10++[eF,oF c10,eF]) (fr 22 30) [(51,vB false)] [] [] (lE h)
        ·obtain⟨x7,hx7,h⟩:=bd h
         exact rk hC (rT 4 c3++rF 4 c8++rF 4 c9++[oF c8,oF c9,oF c8]++sF 4++rT 3 c10++[oV (nU G hx7),oT c10,eF,oT c10,eF]) (fr 22 30) [(51,vB (!x7))] [] [] (lE h)
       ·obtain⟨x8,hx8,h⟩:=bd h
        refine aS h (fun c11 h=> ?_) (fun c11 h=> ?_)
        ·refine aS h (fun c12 h=> ?_) (fun c12 h=> ?_)
         ·exact rk hC (rT 4 c3++rF 4 c8++rT 3 c9++[oV (jB G hx8),oT c9,oF c8,oT c9,oF c8]++rF 4 c11++rF 4 c12++[oF c11,oF c12,oF c11]) (fr 22 30) [(51,vB false)] [] [] (lE h)
         ·obtain⟨x9,hx9,h⟩:=bd h
          exact rk hC (rT 4 c3++rF 4 c8++rT 3 c9++[oV (jB G hx8),oT c9,oF c8,oT c9,oF c8]++rF 4 c11++rT 3 c12++[oV (nU G hx9),oT c12,oF c11,oT c12,oF c11]) (fr 22 30) [(51,vB (!x9))] [] [] (lE h)
        ·exact rk hC (rT 4 c3++rF 4 c8++rT 3 c9++[oV (jB G hx8),oT c9,oF c8,oT c9,oF c8]++rT 6 c11) (fr 22 30) [(51,vB true)] [] [] (lE h)
      ·exact rk hC (rT 4 c3++rT 6 c8++sT 6) (fr 22 30) [(51,vB true)] [] [] (lE h)
    ·refine aT h (fun c13 h=> ?_) (fun c13 h=> ?_)
     ·obtain rfl:=so h
      exact rq hC [] [8] [(8,vB false)] [] [] (qr eW)
     ·refine qk (qs (qb (rq hC [] (fr 52 4) [(52,vB (decide (e.kind=1)))] [] [] (aT h (fun c14 h=> ?_) (fun c14 h=> ?_)))))
      ·refine vj h (fun x_=>aW [(8,vB x_)] [(0,E.cells [vI (wr (count+1))])] [0]) (fun j11 h=> ?_) (fun x13 h=> ?_)
       ·
        obtain⟨x12,hx12,h⟩:=bd h
        refine aS h (fun c15 h=> ?_) (fun c15 h=> ?_)
        ·exact rk hC ([oV (bK G hx12)]++rF 5 c15) [8,56,57,58,59,60,61,62,63,64] [(8,vB false)] [] [] (lE h)
        ·exact rk hC ([oV (bK G hx12)]++rT 3 c15++[oN aJ e.kids,oT c15,oT c15]) [8,56,57,58,59,60,61,62,63,64] [(8,vB (decide ((e.kids.length:Int)=0)))] [] [] (lE h)
       ·obtain rfl:=so h
        exact qr eW
      ·refine rq hC [] (fr 65 4) [(65,vB (decide (e.kind=2)))] [] [] (aT h (fun c16 h=> ?_) (fun c16 h=> ?_))
       ·refine vj h (fun x_=>aW [(8,vB x_)] [(0,E.cells [vI (wr (count+1))])] [0]) (fun j14 h=> ?_) (fun x17 h=> ?_)
        ·
         obtain⟨x15,hx15,h⟩:=bd h
         refine aS h (fun c17 h=> ?_) (fun c17 h=> ?_)
         ·exact rk hC ([oV (d4 G hx15)]++rF 6 c17++sF 5) [8,69,70,71,72,73,74,75,76,77,78,79,80,81,82,83,84] [(8,vB false)] [] [] (lE h)
         ·obtain⟨x16,hx16,h⟩:=bd h
          refine aS h (fun c18 h=> ?_) (fun c18 h=> ?_)
          ·exact rk hC ([oV (d4 G hx15)]++rT 3 c17++[oV (jC G hx16)]++rT 3 c17++rF 5 c18) [8,69,70,71,72,73,74,75,76,77,78,79,80,81,82,83,84] [(8,vB false)] [] [] (lE h)
          ·exact rk hC ([oV (d4 G hx15)]++rT 3 c17++[oV (jC G hx16)]++rT 3 c17++rT 3 c18++[oN aJ e.kids,oT c18,oT c18]) [8,69,70,71,72,73,74,75,76,77,78,79,80,81,82,83,84] [(8,vB (decide ((e.kids.length:Int)=0)))] [] [] (lE h)
        ·obtain rfl:=so h
         exact qr eW
       ·refine rq hC [] (fr 85 4) [(85,vB (decide (e.kind=3)))] [] [] (aT h (fun c19 h=> ?_) (fun c19 h=> ?_))
        ·refine vj h (fun x_=>aW [(8,vB x_)] [(0,E.cells [vI (wr (count+1))])] [0]) (fun j18 h=> ?_) (fun x20 h=> ?_)
         ·
          obtain⟨x19,hx19,h⟩:=bd h
          refine aS h (fun c20 h=> ?_) (fun c20 h=> ?_)
          ·exact rk hC ([oV (nV G hx19)]++rF 5 c20) [8,89,90,91,92,93,94,95,96,97,98] [(8,vB false)] [] [] (lE h)
          ·exact rk hC ([oV (nV G hx19)]++rT 3 c20++[oN aJ e.kids,oT c20,oT c20]) [8,89,90,91,92,93,94,95,96,97,98] [(8,vB (decide ((e.kids.length:Int)=0)))] [] [] (lE h)
         ·obtain rfl:=so h
          exact qr eW
        ·refine vj h (fun x_=>aW [(1,vI depth),(2,vI deep),(3,V.ref 0 0),(4,V.tp (fM e)),(99,vB x_)] [(0,E.cells [vI (wr (count+1))])] [0]) (fun j21 h=> ?_) (fun x23 h=> ?_)
         ·
          obtain⟨x22,hx22,h⟩:=bd h
          refine aS h (fun c21 h=> ?_) (fun c21 h=> ?_)
          ·exact rk hC ([oV (aCZ G hx22)]++rF 3 c21++[oN aJ e.kids,oF c21,oF c21]) (fr 99 11) [(99,vB (!decide ((e.kids.length:Int)=2)))] [] [] (lE h)
          ·exact rk hC ([oV (aCZ G hx22)]++rT 5 c21) (fr 99 11) [(99,vB true)] [] [] (lE h)
         ·refine aT h (fun c22 h=> ?_) (fun c22 h=> ?_)
          ·obtain rfl:=so h
           exact rq hC [] [8] [(8,vB false)] [] [] (qr eW)
          ·refine qk (vj h (fun x_=>aW [(8,vB x_.2)] [(0,E.cells [vI x_.1])] [0]) (fun j24 h=> ?_) ?_)
           ·
            obtain⟨x25,hx25,x26,hx26,h⟩:=cV h
            refine aS h (fun c23 h=> ?_) (fun c23 h=> ?_)
            ·exact rk hC ([.z (.row (eM x25)),oQ (fO aJ hx25 (dC x25)),oC [0] [] (ih x25 depth (wr (deep+1)) (wr (count+1)) hx26)]++rF 10 c23) [8,110,111,112,113,114,115,116,117,118,119,120,121,122,123,124,125,126,127,128,129] [(8,vB false)] [(0,sc [vI x26.2])] [(0,true)] (lE h)
            ·obtain⟨x27,hx27,x28,hx28,h⟩:=cV h
             exact rk hC ([.z (.row (eM x25)),oQ (fO aJ hx25 (dC x25)),oC [0] [] (ih x25 depth (wr (deep+1)) (wr (count+1)) hx26)]++rT 3 c23++[.z (.row (eM x27)),oQ (fO aJ hx27 (dC x27))]++rT 6 c23++[oC [0] [] (ih x27 depth (wr (deep+1)) x26.2 hx28),oT c23]) [8,110,111,112,113,114,115,116,117,118,119,120,121,122,123,124,125,126,127,128,129] [(8,vB x28.1)] [(0,sc [vI x28.2])] [(0,true),(0,true)] (lE h)
           ·rintro⟨x29,x30⟩ h
            obtain rfl:=so h
            exact qr eW
theorem W9{s}{depth}{r}(h:mV n s depth=some r):PQ G 126 [V.agg (cR s),vI depth] (vB r):=by
 unfold mV at h
 refine pq aN Tryz.func126 rfl fun w X hC=> ?_
 refine rq hC [.z (.b (true))] [2,4] [(2,V.tp (oG s))] [] [] (rq hC [.z (.nat 20)] [5] [(5,V.ref 20 0)] [(20,sc [vI 0])] [(20,true)] (vj h (fun x_=>aW [(4,vB x_.2)] [(20,E.cells [vI x_.1])] [20]) (fun j1 h=> ?_) ?_))
 ·
  obtain⟨x2,hx2,h⟩:=bd h
  refine aS h (fun c1 h=> ?_) (fun c1 h=> ?_)
  ·exact rk hC ([oV (bK G hx2)]++rF 5 c1++sF 5) [4,6,7,8,9,10,11,12,13,14,15,16,17,18,19] [(4,vB false)] [] [] (lE h)
  ·obtain⟨x3,hx3,h⟩:=bd h
   refine aS h (fun c2 h=> ?_) (fun c2 h=> ?_)
   ·exact rk hC ([oV (bK G hx2)]++rT 4 c1++[oV (nV G hx3),oT c1]++rF 5 c2) [4,6,7,8,9,10,11,12,13,14,15,16,17,18,19] [(4,vB false)] [] [] (lE h)
   ·obtain⟨x4,hx4,h⟩:=bd h
    exact rk hC ([oV (bK G hx2)]++rT 4 c1++[oV (nV G hx3),oT c1]++rT 4 c2++[oC [20] [] (aBs G n s.value depth 1 0 hx4),oT c2]) [4,6,7,8,9,10,11,12,13,14,15,16,17,18,19] [(4,vB x4.1)] [(20,sc [vI x4.2])] [(20,true)] (lE h)
 ·rintro⟨x5,x6⟩ h
  obtain rfl:=so h
  exact qr eR
theorem rE(G:GS)(n:Nat)(s:Stmt)(c0__a1:Part){r:Bool}(h:cP n s c0__a1=some r):PQ G 125 [V.agg (cR s),V.tp (kF c0__a1)] (vB r):=by
 unfold cP at h
 refine pq aN Tryz.func125 rfl fun w X hC=> ?_
 refine rq hC [.z (.b (true))] [2,3] [(2,V.tp (oG s))] [] [] ?_
 obtain⟨x1,hx1,h⟩:=bd h
 obtain rfl:=so h
 exact rq hC [oN aC c0__a1.nest,oV (W9 G hx1)] (fr 3 7) [(3,vB (!x1))] [] [] (qr eR)
theorem W8(G:GS)(n:Nat)(n_a0:Int){r:Bool}(h:kK n n_a0=some r):PQ G 170 [vI n_a0] (vB r):=by
 unfold kK at h
 refine pq aN Tryz.func170 rfl fun w X hC=> ?_
 refine rq hC [] [2] [] [] [] ?_
 obtain⟨x1,hx1,h⟩:=bd h
 obtain rfl:=so h
 exact rq hC [oV (bK G hx1)] (fr 2 4) [(2,vB (!x1))] [] [] (qr eR)
theorem aCY{point}{r}(h:qZ n point=some r):PQ G 127 [vM rI point] (vB r):=by
 unfold qZ at h
 refine pq aN Tryz.func127 rfl fun w X hC=> ?_
 refine rq hC [] [2] [] [] [] (vj h (fun x_=>aW [(2,vB x_)] [] []) (fun j1 h=> ?_) (fun x3 h=> ?_))
 ·
  refine aS h (fun c1 h=> ?_) (fun c1 h=> ?_)
  ·exact rk hC ([oN rI point]++rF 4 c1) (fr 2 9) [(2,vB false)] [] [] (lE h)
  ·obtain⟨x2,hx2,h⟩:=bd h
   exact rk hC [oN rI point,oT c1,oT c1,oV (fH G n point 170 (fun q0=>kK n q0) (fun q0 r h=>W8 G n q0 h) hx2),oT c1,oT c1] (fr 2 9) [(2,vB (!x2))] [] [] (lE h)
 ·obtain rfl:=so h
  exact qr eR
theorem tF(G:GS)(n:Nat)(s:List Stmt)(fF:FuncId)(fC0:List T)(f:Stmt→Option Bool)(hf: ∀(q0:Stmt) r,f q0=some r→PQ G fF [V.agg (cR q0),V.tp fC0] (vB r)){r:Int}(h:iU n s f=some r):PQ G 167 [vM aG s,V.fn fF [V.tp fC0]] (vI r):=by
 unfold iU at h
 refine pq aN Tryz.func167 rfl fun w X hC=> ?_
 refine rq hC [] [4] [] [] [] (qs (rq hC [oN aG s] [6,7,8] [(7,vI (s.length:Int)),(8,vI 0)] [] [] (qb (jG h (fun x_=>aW [(0,vM aG s),(1,V.fn fF [V.tp fC0]),(7,vI (s.length:Int)),(8,vI x_)] [] []) lS ?_))))
 rintro again2 x1 h
 refine rq hC [] [9] [(9,vB (decide (x1<(s.length:Int))))] [] [] (qs (aT h (fun c1 h=> ?_) (fun c1 h=> ?_)))
 ·refine qk (qs (qb (rq hC [] [5,10] [(5,vI x1)] [] [] ?_)))
  obtain⟨x3,hx3,x4,hx4,h⟩:=cV h
  refine rq hC [oR aG hx3,oV (hf x3 _ hx4)] (fr 11 6) [(16,vB x4)] [] [] (aT h (fun c2 h=> ?_) (fun c2 h=> ?_))
  ·obtain rfl:=so h
   exact rq hC [] [4,17] [(4,vI x1)] [] [] (qr eR)
  ·exact qk (rk hC [] [8,18] [(8,vI (wr (x1+1)))] [] [] (lE h))
 ·obtain rfl:=so h
  exact cK (rq hC [] [4] [(4,vI (-1))] [] [] (qr eR))
theorem qD(G:GS)(n:Nat)(s:List Stmt)(fF:FuncId)(fC0:List T)(f:Stmt→Option Bool)(hf: ∀(q0:Stmt) r,f q0=some r→PQ G fF [V.agg (cR q0),V.tp fC0] (vB r)){r:Bool}(h:d5 n s f=some r):PQ G 124 [vM aG s,V.fn fF [V.tp fC0]] (vB r):=by
 unfold d5 at h
 refine pq aN Tryz.func124 rfl fun w X hC=> ?_
 refine rq hC [] [4] [] [] [] ?_
 obtain⟨x1,hx1,h⟩:=bd h
 obtain rfl:=so h
 exact rq hC [oV (tF G n s fF fC0 f hf hx1)] (fr 4 5) [(4,vB (decide ((0:Int)≤x1)))] [] [] (qr eR)
theorem lU{p}{r}(h:cN n p=some r):VQ G 76 [] [V.agg (bJ p)] (V.tup [ms 0 1 3 bH r.1,vB r.2]) [ar 135 1 3 bH r.1]:=by
 unfold cN at h
 refine vq aN Tryz.func76 rfl fun w X β0 hC hg=> ?_
 refine rq hC [.z (.b (true))] [1,2,3] [(1,V.tp (cF p))] [] [] (qs (vj h (fun x_=>aW [(1,V.tp (cF p)),(22,vB x_)] [] []) (fun j1 h=> ?_) (fun x3 h=> ?_)))
 ·
  obtain⟨x2,hx2,h⟩:=bd h
  refine aS h (fun c1 h=> ?_) (fun c1 h=> ?_)
  ·exact rk hC ([oV (zD G hx2)]++rF 3 c1++[oN aD p.parts,oF c1,oF c1]) (fr 13 10) [(22,vB (decide ((4:Int)<(p.parts.length:Int))))] [] [] (lE h)
  ·exact rk hC ([oV (zD G hx2)]++rT 5 c1) (fr 13 10) [(22,vB true)] [] [] (lE h)
 ·refine aT h (fun c2 h=> ?_) (fun c2 h=> ?_)
  ·obtain rfl:=so h
   exact rq hC [] [2,3] [(2,V.t T.nilS),(3,vB false)] [] [] (qw (lk hC [.grow 2 0 135] [2] [(2,ms 0 1 3 bH [])] [(0,some (ar 135 1 3 bH []))] [(0,true)]) (qr eW))
  ·refine qk (rq hC [] [4] [(4,V.t T.nilS)] [] [] (qs (rq hC [oN aD p.parts] (fr 23 4) [(24,vM aD p.parts),(25,vI (p.parts.length:Int)),(26,vI 0)] [] [] (qb (qw (lk hC [.grow 4 20 135] [4] [(4,ms 20 1 3 bH [])] [(20,some (ar 135 1 3 bH []))] [(20,true)]) ?_)))))
   refine aZ (γ:=Nat) h (fun x_ g_=>aW [(1,V.tp (cF p)),(4,ms 20 g_ 3 bH x_.1),(24,vM aD p.parts),(25,vI (p.parts.length:Int)),(26,vI x_.2)] [(20,ar 135 g_ 3 bH x_.1)] [20]) 1 (lS) ?_
   rintro again7 ⟨x4,x5⟩ g6 h
   refine rq hC [] [27] [(27,vB (decide (x5<(p.parts.length:Int))))] [] [] (qs (aT h (fun c3 h=> ?_) (fun c3 h=> ?_)))
   ·refine qk (qs (qb ?_))
    obtain⟨x8,hx8,h⟩:=bd h
    refine rq hC [oR aD hx8,.z (.nat 21),.z (.at 0),.z (.fp 21 [6])] [5,6,28,29,30] [(5,vI x5),(6,V.tp (kF x8))] [(21,none)] [(21,true)] ?_
    obtain⟨x9,hx9,h⟩:=bd h
    refine rq hC [oC [] [22] (U3 G hx9)] [7,8,31,32,33,34,35,36] [(7,ms 22 1 1 (rL rI) x9.1),(8,vB x9.2)] [(22,some (ar 33 1 1 (rL rI) x9.1))] [(22,true)] (qs (vj h (fun x_=>aW [(1,V.tp (cF p)),(4,ms 20 g6 3 bH x4),(5,vI x5),(6,V.tp (kF x8)),(7,ms 22 1 1 (rL rI) x9.1),(24,vM aD p.parts),(25,vI (p.parts.length:Int)),(26,vI x5),(51,vB x_)] [(20,ar 135 g6 3 bH x4),(22,ar 33 1 1 (rL rI) x9.1)] [20,21,22]) (fun j10 h=> ?_) (fun x13 h=> ?_)))
    ·
     refine aS h (fun c4 h=> ?_) (fun c4 h=> ?_)
     ·obtain⟨x11,hx11,h⟩:=bd h
      refine aS h (fun c5 h=> ?_) (fun c5 h=> ?_)
      ·obtain⟨x12,hx12,h⟩:=bd h
       exact rk hC (rF 3 c4++[oN aG x8.body,oF c4,oV (bK G hx11),oF c4,oF c4]++rF 4 c5++[oV (qD G n x8.body 125 (kF x8) (fun q0=>cP n q0 x8) (fun q0 r h=>rE G n q0 x8 h) hx12),oF c5]) (fr 37 15) [(51,vB x12)] [] [] (lE h)
      ·exact rk hC (rF 3 c4++[oN aG x8.body,oF c4,oV (bK G hx11),oF c4,oF c4]++rT 5 c5) (fr 37 15) [(51,vB true)] [] [] (lE h)
     ·exact rk hC (rT 6 c4++sT 5) (fr 37 15) [(51,vB true)] [] [] (lE h)
    ·refine aT h (fun c6 h=> ?_) (fun c6 h=> ?_)
     ·obtain rfl:=so h
      exact rq hC [] [2,3] [(2,V.t T.nilS),(3,vB false)] [] [] (qw (lk hC [.grow 2 0 135] [2] [(2,ms 0 1 3 bH [])] [(0,some (ar 135 1 3 bH []))] [(0,true)]) (qr eW))
     ·refine qk (rq hC [oN (rL rI) x9.1] [52,53,54] [(52,ms 22 1 1 (rL rI) x9.1),(53,vI (x9.1.length:Int)),(54,vI 0)] [] [] (qb (aZ (γ:=Nat) h (fun x_ g_=>aW [(1,V.tp (cF p)),(4,ms 20 g_ 3 bH x_.1),(5,vI x5),(6,V.tp (kF x8)),(24,vM aD p.parts),(25,vI (p.parts.length:Int)),(26,vI x5),(52,ms 22 1 1 (rL rI) x9.1),(53,vI (x9.1.length:Int)),(54,vI x_.2)] [(20,ar 135 g_ 3 bH x_.1),(22,ar 33 1 1 (rL rI) x9.1)] [20,21,22]) g6 (lS) ?_)))
      rintro again17 ⟨x14,x15⟩ g16 h
      refine rq hC [] [55] [(55,vB (decide (x15<(x9.1.length:Int))))] [] [] (qs (aT h (fun c7 h=> ?_) (fun c7 h=> ?_)))
      ·refine qk (qs (qb ?_))
       obtain⟨x18,hx18,h⟩:=bd h
       refine rq hC [oQ (jO (rL rI) hx18),oX (rL rI) hx18] [10,56,57] [(10,vM rI x18)] [] [] (qs ?_)
       obtain⟨x19,hx19,h⟩:=bd h
       refine rq hC [oV (aCY G hx19)] [58,59,60] [(60,vB (!x19))] [] [] (aT h (fun c8 h=> ?_) (fun c8 h=> ?_))
       ·obtain rfl:=so h
        exact rq hC [] [2,3] [(2,V.t T.nilS),(3,vB false)] [] [] (qw (lk hC [.grow 2 0 135] [2] [(2,ms 0 1 3 bH [])] [(0,some (ar 135 1 3 bH []))] [(0,true)]) (qr eW))
       ·refine qk (rq hC [oN aG x8.body] (fr 61 4) [(62,vM aG x8.body),(63,vI (x8.body.length:Int)),(64,vI 0)] [] [] (qb (aZ (γ:=Nat) h (fun x_ g_=>aW [(1,V.tp (cF p)),(4,ms 20 g_ 3 bH x_.1),(5,vI x5),(6,V.tp (kF x8)),(10,vM rI x18),(24,vM aD p.parts),(25,vI (p.parts.length:Int)),(26,vI x5),(52,ms 22 1 1 (rL rI) x9.1),(53,vI (x9.1.length:Int)),(54,vI x15),(62,vM aG x8.body),(63,vI (x8.body.length:Int)),(64,vI x_.2)] [(20,ar 135 g_ 3 bH x_.1),(22,ar 33 1 1 (rL rI) x9.1)] [20,21,22]) g16 (lS) ?_)))
        rintro again23 ⟨x20,x21⟩ g22 h
        refine rq hC [] [65] [(65,vB (decide (x21<(x8.body.length:Int))))] [] [] (qs (aT h (fun c9 h=> ?_) (fun c9 h=> ?_)))
        ·refine qk (qs (qb ?_))
         obtain⟨x24,hx24,h⟩:=bd h
         refine rq hC [oR aG hx24,.z (.nat 23)] [11,12,66,67,68] [(11,vI x21),(12,V.ref 23 0)] [(23,some (E.cells (cR x24)))] [(23,true)] (qs ?_)
         obtain⟨x25,hx25,h⟩:=bd h
         refine rq hC [oV (xM G hx25)] (fr 69 5) [(73,vB (!x25))] [] [] (aT h (fun c10 h=> ?_) (fun c10 h=> ?_))
         ·obtain rfl:=so h
          exact rq hC [] [2,3] [(2,V.t T.nilS),(3,vB false)] [] [] (qw (lk hC [.grow 2 0 135] [2] [(2,ms 0 1 3 bH [])] [(0,some (ar 135 1 3 bH []))] [(0,true)]) (qr eW))
         ·refine qk ?_
          obtain⟨x26,hx26,x27,hx27,h⟩:=cV h
          exact rk hC [oC [] [24] (G.clone x18 hx26),.z (.at 4),.z (.fz 24 [78] []),.z (.int 0),oA (aO bH hx27),oQ (bP (r:=bH) 3 Y3 x20),oQ (bP (r:=bH) 3 Y3 [(⟨x5,x21,x26⟩:Inst)])] [4,74,75,76,77,78,79,80,81] [(4,ms 20 (g22+1) 3 bH x27)] [(24,none),(20,some (ar 135 (g22+1) 3 bH x27))] [(24,true)] (rk hC [] [64,82] [(64,vI (wr (x21+1)))] [] [] ⟨(x27,wr (x21+1)),(g22+1),h,lS⟩)
        ·exact cK (rk hC [] [54,83] [(54,vI (wr (x15+1)))] [] [] ⟨(x20,wr (x15+1)),g22,h,lS⟩)
      ·exact cK (rk hC [] [26,84] [(26,vI (wr (x5+1)))] [] [] ⟨(x14,wr (x5+1)),g16,h,lS⟩)
   ·obtain rfl:=so h
    exact cK (rq hC [oN bH x4] [2,3,85,86,87,88] [(2,ms 20 g6 3 bH x4),(3,vB (decide ((x4.length:Int)≤120)))] [] [] (qw (lk hC [.ren 2 20 0] [2] [(2,ms 0 1 3 bH x4)] [(0,some (ar 135 1 3 bH x4)),(20,none)] [(0,true)]) (qr eW)))
theorem cJ{p}{r}(h:fY n p=some r):PQ G 23 [V.agg (bJ p)] (vB r):=by
 unfold fY at h
 refine pq aN Tryz.func23 rfl fun w X hC=> ?_
 refine rq hC [.z (.b (true))] [1,2] [(1,V.tp (cF p))] [] [] ?_
 obtain⟨x1,hx1,h⟩:=bd h
 obtain rfl:=so h
 exact rq hC [oC [] [20] (lU G hx1)] (fr 3 7) [(4,vB x1.2)] [(20,some (ar 135 1 3 bH x1.1))] [(20,true)] (rq hC [] [2,10] [(2,vB x1.2)] [] [] (qr eR))
theorem aBr{p}{r}(h:o5 n p=some r):PQ G 38 [V.agg (bJ p)] (V.tup [V.agg (bJ r.1),vB r.2]):=by
 unfold o5 at h
 refine pq aN Tryz.func38 rfl fun w X hC=> ?_
 refine rq hC [.z (.b (true)),.z (.nat 20)] [1,2,3] [(1,V.tp (cF p)),(2,V.ref 20 0)] [(20,sc [V.t T.nilS,V.t T.nilS])] [(20,true)] (qs ?_)
 obtain⟨x1,hx1,h⟩:=bd h
 refine rq hC [oV (cJ G hx1)] [4,5,6] [(6,vB (!x1))] [] [] (aT h (fun c1 h=> ?_) (fun c1 h=> ?_))
 ·obtain rfl:=so h
  exact rq hC [] [3,7] [(3,vB false)] [(20,sc [V.t T.nilS,V.t T.nilS])] [] (qr eR)
 ·refine qk ?_
  obtain⟨x2,hx2,h⟩:=bd h
  obtain rfl:=so h
  exact rq hC [oC [] [21,22] (H1 G hx2)] [3,8,9] [(3,vB true)] [(21,some (ar 77 1 2 aI x2.arrays)),(22,some (ar 62 1 2 aD x2.parts)),(20,sc [ms 21 1 2 aI x2.arrays,ms 22 1 2 aD x2.parts])] [(21,true),(22,true)] (qw (lk hC [.fz 21 [] [20]] [] [] [(20,sc [vM aI x2.arrays,ms 22 1 2 aD x2.parts]),(21,none)] []) (qw (lk hC [.fz 22 [] [20]] [] [] [(20,some (E.cells (bJ x2))),(22,none)] []) (qr eR)))
theorem bI{p}{part}{r}(h:bU n p part=some r):PQ G 54 [V.agg (bJ p),vI part] (vB r):=by
 unfold bU at h
 refine pq aN Tryz.func54 rfl fun w X hC=> ?_
 refine rq hC [.z (.b (true))] [2,4] [(2,V.tp (cF p))] [] [] ?_
 obtain⟨x1,hx1,h⟩:=bd h
 obtain rfl:=so h
 exact rq hC [oN aD p.parts,oV (bK G hx1)] (fr 4 7) [(4,vB x1)] [] [] (qr eR)
theorem pH{p}{part}{loop}{r}(h:jA n p part loop=some r):PQ G 59 [V.agg (bJ p),vI part,vI loop] (vB r):=by
 unfold jA at h
 refine pq aN Tryz.func59 rfl fun w X hC=> ?_
 refine rq hC [.z (.b (true))] [3,6] [(3,V.tp (cF p))] [] [] (vj h (fun x_=>aW [(6,vB x_)] [] []) (fun j1 h=> ?_) (fun x5 h=> ?_))
 ·
  obtain⟨x2,hx2,h⟩:=bd h
  refine aS h (fun c1 h=> ?_) (fun c1 h=> ?_)
  ·exact rk hC ([oV (bI G hx2)]++rF 11 c1) (fr 6 16) [(6,vB false)] [] [] (lE h)
  ·obtain⟨x3,hx3,x4,hx4,h⟩:=cV h
   exact rk hC ([oV (bI G hx2)]++rT 5 c1++[oR aD hx3]++rT 3 c1++[oN aC x3.nest,oT c1,oT c1,oV (bK G hx4),oT c1]) (fr 6 16) [(6,vB x4)] [] [] (lE h)
 ·obtain rfl:=so h
  exact qr eR
theorem aC1(G:GS)(n:Nat)(p:Prog)(part:Int)(loop:Int){r:Prog×Bool}(h:nN n p part loop=some r)(hr:r.2=true):VQ G 28 [] [V.agg (bJ p),vI part,vI loop] (V.tup [V.agg [ms 0 1 2 aI r.1.arrays,ms 1 1 2 aD r.1.parts],V.eref 1 1 2 (0+Int.toNat part) 0,vB true]) [ar 77 1 2 aI r.1.arrays,E.tree eQ 0 1 (List.map aD r.1.parts) []]:=by
 unfold nN at h
 refine vq aN Tryz.func28 rfl fun w X β0 hC hg=> ?_
 refine rq hC [.z (.b (true)),.z (.nat 20)] [3,6,7,8] [(3,V.tp (cF p)),(6,V.ref 20 0)] [(20,sc [V.t T.nilS,V.t T.nilS])] [(20,true)] (qs (vj h (fun x_=>aW [(1,vI part),(3,V.tp (cF p)),(6,V.ref 20 0),(29,vB x_)] [(20,E.cells [V.t T.nilS,V.t T.nilS])] [20]) (fun j1 h=> ?_) (fun x5 h=> ?_)))
 ·
  obtain⟨x2,hx2,h⟩:=bd h
  refine aS h (fun c1 h=> ?_) (fun c1 h=> ?_)
  ·obtain⟨x3,hx3,h⟩:=bd h
   refine aS h (fun c2 h=> ?_) (fun c2 h=> ?_)
   ·refine aS h (fun c3 h=> ?_) (fun c3 h=> ?_)
    ·exact rk hC ([oV (cJ G hx2)]++rF 3 c1++[oV (bI G hx3),oF c1,oF c1]++rF 3 c2++rF 5 c3++[oF c2,oF c3,oF c2]) (fr 10 20) [(29,vB false)] [] [] (lE h)
    ·obtain⟨x4,hx4,h⟩:=bd h
     exact rk hC ([oV (cJ G hx2)]++rF 3 c1++[oV (bI G hx3),oF c1,oF c1]++rF 3 c2++rT 4 c3++[oV (pH G hx4),oT c3,oF c2,oT c3,oF c2]) (fr 10 20) [(29,vB (!x4))] [] [] (lE h)
   ·exact rk hC ([oV (cJ G hx2)]++rF 3 c1++[oV (bI G hx3),oF c1,oF c1]++rT 5 c2) (fr 10 20) [(29,vB true)] [] [] (lE h)
  ·exact rk hC ([oV (cJ G hx2)]++rT 5 c1++sT 5) (fr 10 20) [(29,vB true)] [] [] (lE h)
 ·refine aT h (fun c4 h=> ?_) (fun c4 h=> ?_)
  ·obtain rfl:=so h
   cases hr
  ·refine qk ?_
   obtain⟨x6,hx6,x7,hx7,h⟩:=cV h
   obtain rfl:=so h
   exact rq hC [oC [] [21,22] (zE G hx6),.z (.nat 23)] [9,31,32] [(9,V.ref 23 0)] [(21,some (ar 77 1 2 aI x6.arrays)),(22,some (E.tree eQ 0 1 (List.map aD x6.parts) [])),(23,sc [ms 21 1 2 aI x6.arrays,ms 22 1 2 aD x6.parts])] [(21,true),(22,true),(23,true)] (qw (lk hC [.rn 21 0 [] [23]] [] [] [(23,sc [ms 0 1 2 aI x6.arrays,ms 22 1 2 aD x6.parts]),(21,none),(0,some (ar 77 1 2 aI x6.arrays))] [(0,true)]) (qw (lk hC [.rn 22 1 [] [23]] [] [] [(23,sc [ms 0 1 2 aI x6.arrays,ms 1 1 2 aD x6.parts]),(22,none),(1,some (E.tree eQ 0 1 (List.map aD x6.parts) []))] [(1,true)]) (qs (dk hC bD [oQ (jO aD hx7)] [7,8,33,34,35,36,37] [(7,V.eref 1 1 2 (0+Int.toNat part) 0),(8,vB true)] [(20,sc [ms 0 1 2 aI x6.arrays,ms 1 1 2 aD x6.parts])] [] (qr eW)))))
theorem aC2(G:GS)(n:Nat)(p:Prog)(part:Int)(loop:Int){r:Prog×Bool}(h:nN n p part loop=some r)(hr:r.2=false):PQ G 28 [V.agg (bJ p),vI part,vI loop] (V.tup [V.agg [vM aI [],vM aD []],V.t T.nilP,vB false]):=by
 unfold nN at h
 refine pq aN Tryz.func28 rfl fun w X hC=> ?_
 refine rq hC [.z (.b (true)),.z (.nat 20)] [3,6,7,8] [(3,V.tp (cF p)),(6,V.ref 20 0)] [(20,sc [V.t T.nilS,V.t T.nilS])] [(20,true)] (qs (vj h (fun x_=>aW [(1,vI part),(3,V.tp (cF p)),(6,V.ref 20 0),(29,vB x_)] [(20,E.cells [V.t T.nilS,V.t T.nilS])] [20]) (fun j1 h=> ?_) (fun x5 h=> ?_)))
 ·
  obtain⟨x2,hx2,h⟩:=bd h
  refine aS h (fun c1 h=> ?_) (fun c1 h=> ?_)
  ·obtain⟨x3,hx3,h⟩:=bd h
   refine aS h (fun c2 h=> ?_) (fun c2 h=> ?_)
   ·refine aS h (fun c3 h=> ?_) (fun c3 h=> ?_)
    ·exact rk hC ([oV (cJ G hx2)]++rF 3 c1++[oV (bI G hx3),oF c1,oF c1]++rF 3 c2++rF 5 c3++[oF c2,oF c3,oF c2]) (fr 10 20) [(29,vB false)] [] [] (lE h)
    ·obtain⟨x4,hx4,h⟩:=bd h
     exact rk hC ([oV (cJ G hx2)]++rF 3 c1++[oV (bI G hx3),oF c1,oF c1]++rF 3 c2++rT 4 c3++[oV (pH G hx4),oT c3,oF c2,oT c3,oF c2]) (fr 10 20) [(29,vB (!x4))] [] [] (lE h)
   ·exact rk hC ([oV (cJ G hx2)]++rF 3 c1++[oV (bI G hx3),oF c1,oF c1]++rT 5 c2) (fr 10 20) [(29,vB true)] [] [] (lE h)
  ·exact rk hC ([oV (cJ G hx2)]++rT 5 c1++sT 5) (fr 10 20) [(29,vB true)] [] [] (lE h)
 ·refine aT h (fun c4 h=> ?_) (fun c4 h=> ?_)
  ·obtain rfl:=so h
   exact rq hC [] [7,8,30] [(7,V.t T.nilP),(8,vB false)] [(20,sc [V.t T.nilS,V.t T.nilS])] [] (qr eR)
  ·obtain⟨x6,hx6,x7,hx7,h⟩:=cV h
   obtain rfl:=so h
   cases hr
theorem aEG{n_a0}{r}(h:uE n n_a0=some r):PQ G 29 [vI n_a0] (vB r):=by
 unfold uE at h
 refine pq aN Tryz.func29 rfl fun w X hC=> ?_
 refine rq hC [] [2] [] [] [] ?_
 obtain⟨x1,hx1,h⟩:=bd h
 obtain rfl:=so h
 exact rq hC [oV (bK G hx1)] [2,3,4] [(2,vB x1)] [] [] (qr eR)
theorem H0(G:GS)(n:Nat)(a:Affine)(c0__a1:Int){r:Affine}(h:gW n a c0__a1=some r):PQ G 31 [V.agg (aK a),V.tp [T.int .i64 c0__a1]] (V.agg (aK r)):=by
 unfold gW at h
 refine pq aN Tryz.func31 rfl fun w X hC=> ?_
 refine rq hC [.z (.b (true)),.z (.nat 20)] [2,3] [(2,V.tp (aR a)),(3,V.ref 20 0)] [(20,sc [V.t T.nilS,vI 0])] [(20,true)] (qs ?_)
 obtain⟨x1,hx1,x2,hx2,h⟩:=cV h
 obtain rfl:=so h
 exact dk hC bD [oC [] [21] (zC G hx1),.z (.at 2),.z (.fz 21 [6] []),oC [] [22] (aFB G hx2)] (fr 4 4) [] [(21,none),(22,some (ar 3 1 1 rI x2.coefs)),(20,sc [ms 22 1 1 rI x2.coefs,vI x2.const])] [(21,true),(22,true)] (qw (lk hC [.fz 22 [] [20]] [] [] [(20,some (E.cells (aK x2))),(22,none)] []) (qr eR))
theorem X0{p}{part}{loop}{by_}{r}(h:mW n p part loop by_=some r):PQ G 8 [V.agg (bJ p),vI part,vI loop,vI by_] (V.tup [V.agg (bJ r.1),vB r.2]):=by
 unfold mW at h
 refine pq aN Tryz.func8 rfl fun w X hC=> ?_
 refine rq hC [.z (.b (true)),.z (.b (true)),.z (.b (true)),.z (.nat 20)] [4,6,7,8,9] [(4,V.tp (cF p)),(6,V.tp [T.int .i64 loop]),(7,V.tp [T.int .i64 by_]),(8,V.ref 20 0)] [(20,sc [V.t T.nilS,V.t T.nilS])] [(20,true)] (qs ?_)
 obtain⟨x1,hx1,h⟩:=bd h
 refine aS h (fun c1 h=> ?_) (fun c1 h=> ?_)
 ·refine rk hC [oV (aC2 G n p part loop hx1 c1),.z (.nat 21)] [10,11,12,14,15,16,17,18,19,20,21] [(10,V.ref 21 0),(11,V.t T.nilP),(12,vB false)] [(21,sc [vM aI [],vM aD []])] [(21,true)] (qs (rq hC (sT 7) (fr 22 11) [(32,vB true)] [] [] (J3 (b:=true) (by kernel_rfl) (fun c2=> ?_) (fun c2=>by cases c2))))
  obtain rfl:=so h
  exact rq hC [] [9,33] [(9,vB false)] [(20,sc [V.t T.nilS,V.t T.nilS])] [] (qr eR)
 ·refine rk hC [oC [] [21,22] (aC1 G n p part loop hx1 c1),.z (.nat 23)] [10,11,12,14,15,16,17,18,19,20,21] [(10,V.ref 23 0),(11,V.eref 22 1 2 (0+Int.toNat part) 0),(12,vB true)] [(21,some (ar 77 1 2 aI x1.1.arrays)),(22,some (E.tree eQ 0 1 (List.map aD x1.1.parts) [])),(23,sc [ms 21 1 2 aI x1.1.arrays,ms 22 1 2 aD x1.1.parts])] [(21,true),(22,true),(23,true)] (qs (vj h (fun x_=>aW [(6,V.tp [T.int .i64 loop]),(7,V.tp [T.int .i64 by_]),(8,V.ref 20 0),(10,V.ref 23 0),(11,V.eref 22 1 2 (0+Int.toNat part) 0),(32,vB x_)] [(20,E.cells [V.t T.nilS,V.t T.nilS]),(21,ar 77 1 2 aI x1.1.arrays),(22,E.tree eQ 0 1 (List.map aD x1.1.parts) []),(23,E.cells [ms 21 1 2 aI x1.1.arrays,ms 22 1 2 aD x1.1.parts])] [20,21,22,23]) (fun j2 h=> ?_) (fun x4 h=> ?_)))
  ·
   refine aS h (fun c2 h=> ?_) (fun c2 h=> ?_)
   ·obtain⟨x3,hx3,h⟩:=bd h
    exact rk hC [eF,eF,eF,oF c2,oF c2,oV (aEG G hx3),oF c2,oF c2] (fr 22 11) [(32,vB (!x3))] [] [] (lE h)
   ·exact rk hC ([eF,eF,eF]++rT 4 c2) (fr 22 11) [(32,vB true)] [] [] (lE h)
  ·refine aT h (fun c3 h=> ?_) (fun c3 h=> ?_)
   ·obtain rfl:=so h
    exact rq hC [] [9,33] [(9,vB false)] [(20,sc [V.t T.nilS,V.t T.nilS])] [] (qr eR)
   ·refine qk (qs ?_)
    obtain⟨x5,hx5,x6,hx6,x7,hx7,h⟩:=jI h
    obtain⟨x8,hx8,x10,hx10,h⟩:=cV h
    refine dk hC bD [.z (.foc 22 25 (0+Int.toNat part) 0 (aD x5)),oX aD hx5,oQ (uD aD hx5),oQ (jO aC hx6),oC [25] [] (uR G n x5.nest loop x6 hx6 1 31 [T.int .i64 by_] (fun q0=>gW n q0 by_) (fun q0 r h=>H0 G n q0 by_ h) hx7 hx8)] (fr 34 8) [] [(22,some (E.tree eQ 0 1 (List.map aD x1.1.parts) [((0+Int.toNat part),0,ms 25 1 2 aC x5.nest)])),(25,some (E.tree eQ 1 1 (List.map aC x8) []))] [(25,true),(25,true)] (qw (A3 hC [.unf 22 25 (aD x5) (List.map aD x10)] [] [] [(25,none),(22,some (E.tree eQ 0 1 (List.map aD x10) []))] [] (a4 (gY aC hx8) (Eq.refl eQ) (uD aD hx5) (G0 aD hx10 rfl)) (by kernel_rfl)) ?_)
    obtain⟨x9,hx9,h⟩:=bd h
    refine rq hC [oC [] [26] (aBq G hx9),.z (.nat 27)] [13,42,43] [(13,V.ref 27 0)] [(26,some (ar 3 1 1 rI x9.coefs)),(27,sc [ms 26 1 1 rI x9.coefs,vI x9.const])] [(26,true),(27,true)] (rq hC [] [44,45,46] [] [(27,sc [ms 26 1 1 rI x9.coefs,vI (wr (0-by_))])] [] (qw (lk hC [.fz 26 [] [27],.fp 27 [13]] [13] [(13,V.tp [T.sl (List.map rI x9.coefs),T.int .i64 (wr (0-by_))])] [(26,none),(27,none)] []) ?_))
    obtain⟨x11,hx11,x12,hx12,h⟩:=cV h
    refine rq hC [oC [22] [] (uP G n x10 part (⟨x8,x5.body⟩:Part) (aLw hx10) 1 (wr (loop+1)) 36 [T.int .i64 loop] [T.sl (List.map rI x9.coefs),T.int .i64 (wr (0-by_))] (fun q0=>fK n q0 loop (⟨x9.coefs,wr (0-by_)⟩:Affine)) (fun q0 r h=>G9 G n q0 loop (⟨x9.coefs,wr (0-by_)⟩:Affine) h) hx11 hx12)] (fr 47 5) [] [(22,some (E.tree eQ 0 1 (List.map aD x12) []))] [(22,true)] (qw (A3 hC [.shd 22,.lenc 23 1 (List.map aD x12).length,.fz 21 [] [23],.fz 22 [] [23]] [] [] [(21,none),(22,none),(23,sc [vM aI x1.1.arrays,vM aD x12])] [] (a1 ((gY aD hx10).trans (gY aD hx12))) (by kernel_rfl)) ?_)
    obtain⟨x13,hx13,h⟩:=bd h
    obtain rfl:=so h
    exact rq hC [oV (aBr G hx13)] [9,52,53,54,55] [(9,vB x13.2)] [(20,some (E.cells (bJ x13.1)))] [] (qr eR)
theorem G7{x}{r}(h:mI n x=some r):PQ G 133 [V.agg [vS x.name,vM rI x.dims]] (V.agg [vS r.name,vM rI r.dims]):=by
 unfold mI at h
 refine pq aN Tryz.func133 rfl fun w X hC=> ?_
 refine rq hC [.z (.nat 20),.z (.nat 21)] [1,2] [(1,V.ref 20 0),(2,V.ref 21 0)] [(20,sc [vS x.name,vM rI x.dims]),(21,sc [vS [],V.t T.nilS])] [(20,true),(21,true)] ?_
 obtain⟨x1,hx1,h⟩:=bd h
 obtain rfl:=so h
 exact rq hC [.z (.nat 22),oA (aO rI hx1),oQ (bP (r:=rI) 1 (fun _=>rfl) []),oQ (bP (r:=rI) 1 (fun _=>rfl) x.dims)] (fr 3 5) [] [(22,some (ar 3 2 1 rI x1)),(20,sc [vS x.name,ms 22 2 1 rI x1])] [(22,true)] (rq hC [.z (.at 2),.z (.fz 22 [] [20])] [8] [] [(20,sc [vS x.name,vM rI x1]),(22,none),(21,sc [vS x.name,vM rI x1])] [] (qr eR))
theorem vT{list}{r}(h:e9 n list=some r):VQ G 83 [] [vM aI list] (ms 0 1 2 aI r) [ar 77 1 2 aI r]:=by
 unfold e9 at h
 refine vq aN Tryz.func83 rfl fun w X β0 hC hg=> ?_
 refine rq hC [] [2] [] [] [] (rq hC [.z (.nat 20)] [3,6] [(3,ms 20 1 2 aI [])] [(20,some (ar 77 1 2 aI []))] [(20,true)] (qs (rq hC [oN aI list] [7,8,9] [(7,vM aI list),(8,vI (list.length:Int)),(9,vI 0)] [] [] (qb (aZ (γ:=Nat) h (fun x_ g_=>aW [(3,ms 20 g_ 2 aI x_.1),(7,vM aI list),(8,vI (list.length:Int)),(9,vI x_.2)] [(20,ar 77 g_ 2 aI x_.1)] [20]) 1 (lS) ?_)))))
 rintro again4 ⟨x1,x2⟩ g3 h
 refine rq hC [] [10] [(10,vB (decide (x2<(list.length:Int))))] [] [] (qs (aT h (fun c1 h=> ?_) (fun c1 h=> ?_)))
 ·refine qk (qs (qb ?_))
  obtain⟨x5,hx5,h⟩:=bd h
  refine rq hC [oR aI hx5,.z (.nat 21)] [5,11,12] [(5,V.ref 21 0)] [(21,sc [vS x5.name,vM rI x5.dims])] [(21,true)] ?_
  obtain⟨x6,hx6,x7,hx7,h⟩:=cV h
  exact rk hC [oV (G7 G hx6),.z (.int 0),oA (aO aI hx7),oQ (bP (r:=aI) 2 gL x1),oQ (bP (r:=aI) 2 gL [x6])] [3,13,14,15,16,17] [(3,ms 20 (g3+1) 2 aI x7)] [(20,some (ar 77 (g3+1) 2 aI x7))] [] (rk hC [] [9,18] [(9,vI (wr (x2+1)))] [] [] ⟨(x7,wr (x2+1)),(g3+1),h,lS⟩)
 ·obtain rfl:=so h
  exact cK (rq hC [] [2,19] [(2,ms 20 g3 2 aI x1)] [] [] (qw (lk hC [.ren 2 20 0] [2] [(2,ms 0 1 2 aI x1)] [(0,some (ar 77 1 2 aI x1)),(20,none)] [(0,true)]) (qr eW)))
theorem q7{x}{r}(h:fS n x=some r):PQ G 281 [V.agg (aK x)] (V.agg (aK r)):=by
 unfold fS at h
 refine pq aN Tryz.func281 rfl fun w X hC=> ?_
 refine rq hC [.z (.nat 20),.z (.nat 21)] [1,2] [(1,V.ref 20 0),(2,V.ref 21 0)] [(20,some (E.cells (aK x))),(21,sc [V.t T.nilS,vI 0])] [(20,true),(21,true)] ?_
 obtain⟨x1,hx1,h⟩:=bd h
 obtain rfl:=so h
 exact rq hC [.z (.nat 22),oA (aO rI hx1),oQ (bP (r:=rI) 1 (fun _=>rfl) []),oQ (bP (r:=rI) 1 (fun _=>rfl) x.coefs)] (fr 3 5) [] [(22,some (ar 3 2 1 rI x1)),(20,sc [ms 22 2 1 rI x1,vI x.const])] [(22,true)] (rq hC [.z (.at 2),.z (.fz 22 [] [20])] [8] [] [(20,sc [vM rI x1,vI x.const]),(22,none),(21,sc [vM rI x1,vI x.const])] [] (qr eR))
theorem iN{list}{r}(h:cT n list=some r):VQ G 266 [] [vM aA list] (ms 0 1 2 aA r) [ar 65 1 2 aA r]:=by
 unfold cT at h
 refine vq aN Tryz.func266 rfl fun w X β0 hC hg=> ?_
 refine rq hC [] [2] [] [] [] (rq hC [.z (.nat 20)] [3,6] [(3,ms 20 1 2 aA [])] [(20,some (ar 65 1 2 aA []))] [(20,true)] (qs (rq hC [oN aA list] [7,8,9] [(7,vM aA list),(8,vI (list.length:Int)),(9,vI 0)] [] [] (qb (aZ (γ:=Nat) h (fun x_ g_=>aW [(3,ms 20 g_ 2 aA x_.1),(7,vM aA list),(8,vI (list.length:Int)),(9,vI x_.2)] [(20,ar 65 g_ 2 aA x_.1)] [20]) 1 (lS) ?_)))))
 rintro again4 ⟨x1,x2⟩ g3 h
 refine rq hC [] [10] [(10,vB (decide (x2<(list.length:Int))))] [] [] (qs (aT h (fun c1 h=> ?_) (fun c1 h=> ?_)))
 ·refine qk (qs (qb ?_))
  obtain⟨x5,hx5,h⟩:=bd h
  refine rq hC [oR aA hx5,.z (.nat 21)] [5,11,12] [(5,V.ref 21 0)] [(21,some (E.cells (aK x5)))] [(21,true)] ?_
  obtain⟨x6,hx6,x7,hx7,h⟩:=cV h
  exact rk hC [oV (q7 G hx6),.z (.int 0),oA (aO aA hx7),oQ (bP (r:=aA) 2 aU x1),oQ (bP (r:=aA) 2 aU [x6])] [3,13,14,15,16,17] [(3,ms 20 (g3+1) 2 aA x7)] [(20,some (ar 65 (g3+1) 2 aA x7))] [] (rk hC [] [9,18] [(9,vI (wr (x2+1)))] [] [] ⟨(x7,wr (x2+1)),(g3+1),h,lS⟩)
 ·obtain rfl:=so h
  exact cK (rq hC [] [2,19] [(2,ms 20 g3 2 aA x1)] [] [] (qw (lk hC [.ren 2 20 0] [2] [(2,ms 0 1 2 aA x1)] [(0,some (ar 65 1 2 aA x1)),(20,none)] [(0,true)]) (qr eW)))
theorem T3{x}{r}(h:nI n x=some r):PQ G 232 [V.agg (kN x)] (V.agg (kN r)):=by
 unfold nI at h
 refine pq aN Tryz.func232 rfl fun w X hC=> ?_
 refine rq hC [.z (.nat 20),.z (.nat 21)] [1,2] [(1,V.ref 20 0),(2,V.ref 21 0)] [(20,some (E.cells (kN x))),(21,sc [V.t T.nilS,V.t T.nilS])] [(20,true),(21,true)] ?_
 obtain⟨x1,hx1,h⟩:=bd h
 refine rq hC [oC [] [22] (iN G hx1)] (fr 3 4) [] [(22,some (ar 65 1 2 aA x1)),(20,sc [ms 22 1 2 aA x1,vM aA x.hi])] [(22,true)] ?_
 obtain⟨x2,hx2,h⟩:=bd h
 obtain rfl:=so h
 exact rq hC [oC [] [23] (iN G hx2)] (fr 7 4) [] [(23,some (ar 65 1 2 aA x2)),(20,sc [ms 22 1 2 aA x1,ms 23 1 2 aA x2])] [(23,true)] (rq hC [.z (.at 2),.z (.fz 22 [] [20]),.z (.at 2),.z (.fz 23 [] [20])] [11] [] [(20,sc [vM aA x1,vM aA x2]),(22,none),(23,none),(21,sc [vM aA x1,vM aA x2])] [] (qr eR))
theorem xD{list}{r}(h:fR n list=some r):VQ G 177 [] [vM aC list] (ms 0 1 2 aC r) [ar 58 1 2 aC r]:=by
 unfold fR at h
 refine vq aN Tryz.func177 rfl fun w X β0 hC hg=> ?_
 refine rq hC [] [2] [] [] [] (rq hC [.z (.nat 20)] [3,6] [(3,ms 20 1 2 aC [])] [(20,some (ar 58 1 2 aC []))] [(20,true)] (qs (rq hC [oN aC list] [7,8,9] [(7,vM aC list),(8,vI (list.length:Int)),(9,vI 0)] [] [] (qb (aZ (γ:=Nat) h (fun x_ g_=>aW [(3,ms 20 g_ 2 aC x_.1),(7,vM aC list),(8,vI (list.length:Int)),(9,vI x_.2)] [(20,ar 58 g_ 2 aC x_.1)] [20]) 1 (lS) ?_)))))
 rintro again4 ⟨x1,x2⟩ g3 h
 refine rq hC [] [10] [(10,vB (decide (x2<(list.length:Int))))] [] [] (qs (aT h (fun c1 h=> ?_) (fun c1 h=> ?_)))
 ·refine qk (qs (qb ?_))
  obtain⟨x5,hx5,h⟩:=bd h
  refine rq hC [oR aC hx5,.z (.nat 21)] [5,11,12] [(5,V.ref 21 0)] [(21,some (E.cells (kN x5)))] [(21,true)] ?_
  obtain⟨x6,hx6,x7,hx7,h⟩:=cV h
  exact rk hC [oV (T3 G hx6),.z (.int 0),oA (aO aC hx7),oQ (bP (r:=aC) 2 b9 x1),oQ (bP (r:=aC) 2 b9 [x6])] [3,13,14,15,16,17] [(3,ms 20 (g3+1) 2 aC x7)] [(20,some (ar 58 (g3+1) 2 aC x7))] [] (rk hC [] [9,18] [(9,vI (wr (x2+1)))] [] [] ⟨(x7,wr (x2+1)),(g3+1),h,lS⟩)
 ·obtain rfl:=so h
  exact cK (rq hC [] [2,19] [(2,ms 20 g3 2 aC x1)] [] [] (qw (lk hC [.ren 2 20 0] [2] [(2,ms 0 1 2 aC x1)] [(0,some (ar 58 1 2 aC x1)),(20,none)] [(0,true)]) (qr eW)))
theorem q8{x}{r}(h:fT n x=some r):PQ G 267 [V.agg (cD x)] (V.agg (cD r)):=by
 unfold fT at h
 refine pq aN Tryz.func267 rfl fun w X hC=> ?_
 refine rq hC [.z (.nat 20),.z (.nat 21)] [1,2] [(1,V.ref 20 0),(2,V.ref 21 0)] [(20,some (E.cells (cD x))),(21,sc [vS [],V.t T.nilS])] [(20,true),(21,true)] ?_
 obtain⟨x1,hx1,h⟩:=bd h
 obtain rfl:=so h
 exact rq hC [oC [] [22] (iN G hx1)] (fr 3 4) [] [(22,some (ar 65 1 2 aA x1)),(20,sc [vS x.array,ms 22 1 2 aA x1])] [(22,true)] (rq hC [.z (.at 2),.z (.fz 22 [] [20])] [7] [] [(20,sc [vS x.array,vM aA x1]),(22,none),(21,sc [vS x.array,vM aA x1])] [] (qr eR))
theorem xE(G:GS)(n:Nat)(self:Expr→Option Expr)(hself: ∀(q0:Expr) {r:Expr},self q0=some r→PQ G 268 [V.agg (dB q0)] (V.agg (dB r)))(list:List Expr){r:(List Expr)}(h:iS n self list=some r):VQ G 282 [] [vM aJ list] (ms 0 1 7 aJ r) [ar 85 1 7 aJ r]:=by
 unfold iS at h
 refine vq aN Tryz.func282 rfl fun w X β0 hC hg=> ?_
 refine rq hC [] [2] [] [] [] (rq hC [.z (.nat 20)] [3,6] [(3,ms 20 1 7 aJ [])] [(20,some (ar 85 1 7 aJ []))] [(20,true)] (qs (rq hC [oN aJ list] [7,8,9] [(7,vM aJ list),(8,vI (list.length:Int)),(9,vI 0)] [] [] (qb (aZ (γ:=Nat) h (fun x_ g_=>aW [(3,ms 20 g_ 7 aJ x_.1),(7,vM aJ list),(8,vI (list.length:Int)),(9,vI x_.2)] [(20,ar 85 g_ 7 aJ x_.1)] [20]) 1 (lS) ?_)))))
 rintro again4 ⟨x1,x2⟩ g3 h
 refine rq hC [] [10] [(10,vB (decide (x2<(list.length:Int))))] [] [] (qs (aT h (fun c1 h=> ?_) (fun c1 h=> ?_)))
 ·refine qk (qs (qb ?_))
  obtain⟨x5,hx5,h⟩:=bd h
  refine rq hC [.z (.row (eM x5)),.z (.nat 21),oQ (fO aJ hx5 (dC x5))] [5,11,12] [(5,V.ref 21 0)] [(21,some (E.cells (dB x5)))] [(21,true)] ?_
  obtain⟨x6,hx6,x7,hx7,h⟩:=cV h
  exact rk hC [oV (hself x5 hx6),.z (.int 2),.z (.rows (List.map aJ [x6])),oQ (sJ x6),oA (aO aJ hx7),oQ (bP (r:=aJ) 7 dW x1),oQ (bP (r:=aJ) 7 dW [x6])] [3,13,14,15,16,17] [(3,ms 20 (g3+1) 7 aJ x7)] [(20,some (ar 85 (g3+1) 7 aJ x7))] [] (rk hC [] [9,18] [(9,vI (wr (x2+1)))] [] [] ⟨(x7,wr (x2+1)),(g3+1),h,lS⟩)
 ·obtain rfl:=so h
  exact cK (rq hC [] [2,19] [(2,ms 20 g3 7 aJ x1)] [] [] (qw (lk hC [.ren 2 20 0] [2] [(2,ms 0 1 7 aJ x1)] [(0,some (ar 85 1 7 aJ x1)),(20,none)] [(0,true)]) (qr eW)))
theorem T4(G:GS): ∀(n:Nat) (x:Expr) {r:Expr} (h:s_l16OwnExpr n x=some r),PQ G 268 [V.agg (dB x)] (V.agg (dB r)):=by
 intro n
 induction n with
 |zero=>intro x r h;rw [s_l16OwnExpr.eq_def] at h;cases h
 |succ n ih=>
  intro x r h
  rw [s_l16OwnExpr.eq_def] at h;dsimp only at h
  refine pq aN Tryz.func268 rfl fun w X hC=> ?_
  refine rq hC [.z (.nat 20),.z (.nat 21)] [1,2] [(1,V.ref 20 0),(2,V.ref 21 0)] [(20,some (E.cells (dB x))),(21,sc [vI 0,vI 0,V.t T.nilS,vI 0,vS [],V.t T.nilS,V.t T.nilS])] [(20,true),(21,true)] ?_
  obtain⟨x1,hx1,h⟩:=bd h
  refine rq hC [oV (q7 G hx1)] (fr 3 4) [] [(20,sc [vI x.kind,vI x.num,vM rI x1.coefs,vI x1.const,vS x.read.array,vM aA x.read.subs,vM aJ x.kids])] [] ?_
  obtain⟨x2,hx2,h⟩:=bd h
  refine rq hC [oV (q8 G hx2)] (fr 7 4) [] [(20,sc [vI x.kind,vI x.num,vM rI x1.coefs,vI x1.const,vS x2.array,vM aA x2.subs,vM aJ x.kids])] [] ?_
  obtain⟨x3,hx3,h⟩:=bd h
  obtain rfl:=so h
  exact rq hC [oC [] [22] (xE G n (s_l16OwnExpr n) (fun q0 r h=>ih q0 h) x.kids hx3)] (fr 11 4) [] [(22,some (ar 85 1 7 aJ x3)),(20,sc [vI x.kind,vI x.num,vM rI x1.coefs,vI x1.const,vS x2.array,vM aA x2.subs,ms 22 1 7 aJ x3])] [(22,true)] (rq hC [.z (.at 2),.z (.fz 22 [] [20])] [15] [] [(20,sc [vI x.kind,vI x.num,vM rI x1.coefs,vI x1.const,vS x2.array,vM aA x2.subs,vM aJ x3]),(22,none),(21,sc [vI x.kind,vI x.num,vM rI x1.coefs,vI x1.const,vS x2.array,vM aA x2.subs,vM aJ x3])] [] (qr eR))
end Go.Lift
